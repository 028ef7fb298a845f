/- Contracts: a disk of sectors. -/
import Derived.Test.YtiaojbbgjlpikaaTensorsCode
import Derived.Test.YtiaojbbgjlpikaaNumsCode
import Derived.Test.YtiaojbbgjlpikaaPutCode
import Derived.Test.YtiaojbbgjlpikaaDsk
namespace Go.Proofs.Ytiaojbbgjlpikaa
open Go Go.Dd Go.RowKit
set_option maxRecDepth 100000

abbrev secT : TypeId := 92
abbrev wrT : TypeId := 99
abbrev dskT : TypeId := 95
theorem it_92 : ITy Try.prog 92 (secC zer) 72 := ⟨⟨_, (show Try.prog.info? 92 = some Try.t92 by kernel_rfl), rfl, rfl, _, rfl, rfl⟩⟩
theorem it_99 : ITy Try.prog 99 (wrC (0, zer)) 80 := ⟨⟨_, (show Try.prog.info? 99 = some Try.t99 by kernel_rfl), rfl, rfl, _, rfl, rfl⟩⟩
/-- A disk in memory: where its parts lie. -/
structure DiskV (w : World) (S : Nat → Prop) (A : Nat) (vs ve vw : Value) (D : Dsk) : Prop where
  box : Blk w A dskT [vs, ve, vw]
  os : w.ownsRow 0 secT 65 vs D.sure.length (flw secC D.sure)
  oe : w.ownsRow 0 secT 65 ve D.seen.length (flw secC D.seen)
  ow : w.ownsRow 0 wrT 66 vw D.waits.length (flw wrC D.waits)
  sA : S A
  ss : ∀ b, vs.ownBlock = some b → S b ∧ b ≠ A
  se : ∀ b, ve.ownBlock = some b → S b ∧ b ≠ A
  sw : ∀ b, vw.ownBlock = some b → S b ∧ b ≠ A
  dse : Apt vs ve
  dsw : Apt vs vw
  dew : Apt ve vw
  lt : ∀ b, S b → b < w.heap.size
  ok : Dok D
def DiskAt (w : World) (S : Nat → Prop) (A : Nat) (D : Dsk) : Prop := ∃ vs ve vw, DiskV w S A vs ve vw D
theorem DiskV.chg {w w' : World} {S T : Nat → Prop} {A : Nat} {vs ve vw : Value} {D : Dsk} (h : DiskV w S A vs ve vw D) (g : Chg T w w') (hT : ∀ b, S b → ¬ T b) : DiskV w' S A vs ve vw D :=
  ⟨h.box.chg g (hT A h.sA), own_chg h.os g (fun b e => hT b (h.ss b e).1), own_chg h.oe g (fun b e => hT b (h.se b e).1), own_chg h.ow g (fun b e => hT b (h.sw b e).1), h.sA, h.ss, h.se, h.sw, h.dse, h.dsw, h.dew, fun b e => Nat.lt_of_lt_of_le (h.lt b e) g.size, h.ok⟩
theorem DiskV.bs {w w' : World} {S : Nat → Prop} {A : Nat} {vs ve vw : Value} {D : Dsk} (h : DiskV w S A vs ve vw D) (g : Below w.heap.size w w') : DiskV w' S A vs ve vw D :=
  ⟨h.box.bs g, own_bs h.os g, own_bs h.oe g, own_bs h.ow g, h.sA, h.ss, h.se, h.sw, h.dse, h.dsw, h.dew, fun b e => Nat.lt_of_lt_of_le (h.lt b e) g.size, h.ok⟩
theorem DiskAt.chg {w w' : World} {S T : Nat → Prop} {A : Nat} {D : Dsk} (h : DiskAt w S A D) (g : Chg T w w') (hT : ∀ b, S b → ¬ T b) : DiskAt w' S A D := by
  obtain ⟨vs, ve, vw, h⟩ := h; exact ⟨vs, ve, vw, h.chg g hT⟩
theorem DiskAt.bs {w w' : World} {S : Nat → Prop} {A : Nat} {D : Dsk} (h : DiskAt w S A D) (g : Below w.heap.size w w') : DiskAt w' S A D := by
  obtain ⟨vs, ve, vw, h⟩ := h; exact ⟨vs, ve, vw, h.bs g⟩
theorem DiskV.wide {w : World} {S T : Nat → Prop} {A : Nat} {vs ve vw : Value} {D : Dsk} (h : DiskV w S A vs ve vw D) (hS : ∀ b, S b → T b) (hT : ∀ b, T b → b < w.heap.size) : DiskV w T A vs ve vw D :=
  ⟨h.box, h.os, h.oe, h.ow, hS _ h.sA, fun b e => ⟨hS b (h.ss b e).1, (h.ss b e).2⟩, fun b e => ⟨hS b (h.se b e).1, (h.se b e).2⟩, fun b e => ⟨hS b (h.sw b e).1, (h.sw b e).2⟩, h.dse, h.dsw, h.dew, hT, h.ok⟩
theorem DiskAt.wide {w : World} {S T : Nat → Prop} {A : Nat} {D : Dsk} (h : DiskAt w S A D) (hS : ∀ b, S b → T b) (hT : ∀ b, T b → b < w.heap.size) : DiskAt w T A D := by
  obtain ⟨vs, ve, vw, h⟩ := h; exact ⟨vs, ve, vw, h.wide hS hT⟩
/-- A row of elements has a block. -/
theorem own_blk {w : World} {base : Nat} {E : TypeId} {sz n : Nat} {v : Value} {xs : List Value} (h : w.ownsRow base E sz v n xs) (hn : 0 < n) : ∃ g cap, v = .slice (some ⟨g, 0, none⟩) n cap ∧ v.ownBlock = some g ∧ g < w.heap.size ∧ base ≤ g := by
  rcases h.2 with ⟨_, h0⟩ | ⟨g, cap, cur, rfl, hb, hg, -⟩
  · omega
  · exact ⟨g, cap, rfl, rfl, (Array.getElem?_eq_some_iff.1 hg).1, hb⟩

theorem sclone_c (u : Value) (n : Nat) (xs : List Value) (w : World) (hu : Sl w 65 u n xs) (hx : xs.all (·.oneCell') = true) (hn : 1 ≤ n) (hm : n ≤ 16384) : Fnc Try.prog 40 [u] w (fun r w' => w'.ownsRow w.heap.size secT 65 r n xs ∧ Below w.heap.size w w') := by
  obtain ⟨hl, ao, cap, rfl, h1, h2, h3, h4⟩ := hu
  have hu : Sl w 65 (.slice ao n cap) n xs := ⟨hl, ao, cap, rfl, h1, h2, h3, h4⟩
  obtain ⟨ad, rfl⟩ : ∃ ad, ao = some ad := by
    cases ao with
    | none => have := h3 rfl; omega
    | some ad => exact ⟨ad, rfl⟩
  refine Fnc.enter (n := 8) Try.func40 (by kernel_rfl) rfl rfl rfl ?_
  refine Cw.seq ?_
  refine Cw.region ?_
  refine Lw.val (Ex.assign rfl) rfl ?_
  refine Lw.nil ?_
  refine Pw.thenN (Cw.out ?_)
  refine Cw.seq ?_
  refine Cw.seq ?_
  refine Cw.region ?_
  refine Lw.val (Ex.move rfl) rfl ?_
  refine Lw.val (Ex.nilS un_70 rfl rfl) rfl ?_
  refine Lw.nil ?_
  refine Pw.thenN (Cw.out ?_)
  refine Cw.condB rfl false (rfl) ?_
  refine Cw.skip ?_
  refine Pw.thenN (Cw.out ?_)
  refine Cw.seq ?_
  refine Cw.region ?_
  refine Lw.valW (Xw.lit0 st_70) rfl ?_
  rintro v1 w1 ⟨ho1, -, hB1, -⟩
  refine Lw.val (Ex.move rfl) rfl ?_
  refine Lw.valW (Xw.append (base := w.heap.size) st_70 it_92 rfl (by decide) rfl rfl ho1 (hu.bs hB1) hx (by omega) (by omega) hB1.size) rfl ?_
  rintro v2 w2 ⟨ho2, hB2, -⟩
  rw [Nat.zero_add, List.nil_append] at ho2
  refine Lw.val (Ex.assign rfl) rfl ?_
  refine Lw.nil ?_
  refine Pw.thenN (Cw.out ?_)
  refine Cw.ret ?_
  refine Pw.ret1 rfl rfl ?_
  exact ⟨ho2, hB1.trans hB2⟩

theorem bt_disk (a b : Value) (ha : a.cells = [a].toArray) (hb : b.cells = [b].toArray) : Try.prog.built dskT [(0, a), (1, b)] = some [a, b, .slice none 0 0].toArray := by
  have h1 : Try.prog.info? 95 = some Try.t95 := by kernel_rfl
  have h2 : Try.prog.info? 70 = some Try.t70 := by kernel_rfl
  have h3 : Try.prog.info? 93 = some Try.t93 := by kernel_rfl
  simp [Program.built, h1, Try.underlying95, h2, h3, Instr.fill, ha, hb]
  rfl
theorem dof_c (v : Value) (L : List By) (w : World) (ho : w.ownsRow 0 secT 65 v L.length (flw secC L)) (h64 : ∀ b ∈ L, b.length = 64) (h1 : 1 ≤ L.length) (h2 : L.length ≤ 16384) :
    Fnc Try.prog 24 [v] w (fun r w' => Below w.heap.size w w' ∧ ∃ A, r = .pointer (some ⟨A, 0, none⟩) ∧ w.heap.size ≤ A ∧ DiskAt w' (fun b => v.ownBlock = some b ∨ (w.heap.size ≤ b ∧ b < w'.heap.size)) A ⟨L, L, []⟩) := by
  have vb0 := own_block ho
  refine Fnc.enter (n := 8) Try.func24 (by kernel_rfl) rfl rfl rfl ?_
  refine Cw.seq ?_
  refine Cw.region ?_
  refine Lw.val (Ex.assign rfl) rfl ?_
  refine Lw.nil ?_
  refine Pw.thenN (Cw.out ?_)
  refine Cw.seq ?_
  refine Cw.region ?_
  refine Lw.val (Ex.move rfl) rfl ?_
  refine Lw.val (Ex.move rfl) rfl ?_
  refine Lw.callF rfl rfl (sclone_c v L.length (flw secC L) w (own_sl ho) (flw_ones fun b _ => secC_ones b) h1 h2) ?_
  rintro x w1 ⟨hx, hn⟩
  have ho := own_bs ho hn
  refine Lw.val (Ex.build (vs := [(0, v), (1, x)]) (cs := [v, x, .slice none 0 0]) rfl (bt_disk _ _ (own_sl ho).one (own_sl hx).one)) rfl ?_
  refine Lw.valW (Xw.box (cs := [v, x, .slice none 0 0]) rfl rfl) rfl ?_
  rintro _ w2 ⟨rfl, b, hn2, hz⟩
  have ho := own_bs ho hn2
  have hx2 := own_bs hx hn2
  have z1 := hn.size
  have vb := own_block ho
  have xb := own_block hx
  refine Lw.val (Ex.assign rfl) rfl ?_
  refine Lw.nil ?_
  refine Pw.thenN (Cw.out ?_)
  refine Cw.ret ?_
  refine Pw.ret1 rfl rfl ?_
  exact ⟨hn.trans (hn2.mono z1), w1.heap.size, rfl, z1, v, x, .slice none 0 0, b, ho, own_mono hx2 (Nat.zero_le _), ⟨rfl, .inl ⟨rfl, rfl⟩⟩, .inr ⟨z1, by omega⟩, fun k e => ⟨.inl e, by have := vb0 k e; omega⟩, fun k e => ⟨.inr (by have := xb k e; omega), by have := xb k e; omega⟩, fun k e => (by cases e), fun k e1 e2 => by have := vb0 k e1; have := xb k e2; omega, fun k e1 e2 => (by cases e2), fun k e1 e2 => (by cases e2), fun k e => by rcases e with e | e; exact (vb k e).2; exact e.2, ⟨rfl, h1, h2, h64, h64, fun x hx => by cases hx⟩⟩

theorem ask_c (A : Nat) (S : Nat → Prop) (D : Dsk) (n : Int) (w : World) (h : DiskAt w S A D) : Fnc Try.prog 39 [.pointer (some ⟨A, 0, none⟩), .int .i64 n] w (fun r w' => r = .int .i64 (if 0 ≤ n ∧ n < D.seen.length then 0 else 1) ∧ w' = w) := by
  obtain ⟨vs, ve, vw, h⟩ := h
  obtain ⟨g, cap, rfl, eg, -, -⟩ := own_blk h.oe (by have := h.ok.len; have := h.ok.one; omega)
  have s_e := own_sl h.oe
  have b_A := h.box
  refine Fnc.enter (n := 27) Try.func39 (by kernel_rfl) rfl rfl rfl ?_
  refine Cw.seq ?_
  refine Cw.region ?_
  refine Lw.val (Ex.assign rfl) rfl ?_
  refine Lw.nil ?_
  refine Pw.thenN (Cw.out ?_)
  refine Cw.seq ?_
  refine Cw.block ?_
  refine Cw.seq ?_
  refine Cw.region ?_
  refine Lw.val (Ex.move rfl) rfl ?_
  refine Lw.val (Ex.nilP rfl rfl rfl) rfl ?_
  refine Lw.val (Ex.move rfl) rfl ?_
  refine Lw.know 8 (v' := .bool false) rfl (congrArg Value.bool (rfl)) ?_
  refine Lw.take (dj := 8) rfl rfl ?_
  refine Lw.val (Ex.move rfl) rfl ?_
  refine Lw.take (dj := 8) rfl rfl ?_
  refine Lw.val (Ex.nilCheck rfl) rfl ?_
  refine Lw.take (dj := 8) rfl rfl ?_
  refine Lw.val (Ex.fieldAddr (q := 0) Try.underlying95 rfl (sz_70 _) rfl) rfl ?_
  refine Lw.take (dj := 8) rfl rfl ?_
  refine Lw.val (Ex.ldB (ag_70 _) rfl (by assumption) rfl) rfl ?_
  refine Lw.take (dj := 8) rfl rfl ?_
  refine Lw.val (Ex.nilS un_70 rfl rfl) rfl ?_
  refine Lw.val (Ex.pickF rfl rfl) rfl ?_
  refine Lw.val (Ex.assign rfl) rfl ?_
  refine Lw.nil ?_
  refine Pw.thenN (Cw.out ?_)
  refine Cw.condB rfl false (rfl) ?_
  refine Cw.seq ?_
  refine Cw.region ?_
  refine Lw.val (Ex.move rfl) rfl ?_
  refine Lw.val (Ex.lss rfl rfl) rfl ?_
  refine Lw.val (Ex.move rfl) rfl ?_
  refine Lw.part 18 rfl ?_ ?_
  · intro g
    have g1 := of_decide_eq_true g
    refine Lw.pass (dj := 18) rfl rfl rfl rfl ?_
    refine Lw.pass (dj := 18) rfl rfl rfl rfl ?_
    refine Lw.pass (dj := 18) rfl rfl rfl rfl ?_
    refine Lw.pass (dj := 18) rfl rfl rfl rfl ?_
    refine Lw.pass (dj := 18) rfl rfl rfl rfl ?_
    refine Lw.pass (dj := 18) rfl rfl rfl rfl ?_
    refine Lw.pass (dj := 18) rfl rfl rfl rfl ?_
    refine Lw.val (Ex.pickT rfl rfl) rfl ?_
    refine Lw.val (Ex.assign rfl) rfl ?_
    refine Lw.nil ?_
    refine Pw.thenN (Cw.out ?_)
    refine Cw.condT rfl ?_
    refine Cw.seq ?_
    refine Cw.region ?_
    refine Lw.val (Ex.assign rfl) rfl ?_
    refine Lw.nil ?_
    refine Pw.thenN (Cw.out ?_)
    refine Cw.ret ?_
    refine Pw.blkR ?_
    refine Pw.thenR ?_
    refine Pw.ret1 rfl rfl ?_
    exact ⟨by rw [if_neg (by omega)], rfl⟩
  intro g
  have g1 := of_decide_eq_false g
  refine Lw.take (dj := 18) rfl rfl ?_
  refine Lw.val (Ex.move rfl) rfl ?_
  refine Lw.take (dj := 18) rfl rfl ?_
  refine Lw.val (Ex.move rfl) rfl ?_
  refine Lw.take (dj := 18) rfl rfl ?_
  refine Lw.val (Ex.nilCheck rfl) rfl ?_
  refine Lw.take (dj := 18) rfl rfl ?_
  refine Lw.val (Ex.fieldAddr (q := 0) Try.underlying95 rfl (sz_70 _) rfl) rfl ?_
  refine Lw.take (dj := 18) rfl rfl ?_
  refine Lw.val (Ex.ldB (ag_70 _) rfl (by assumption) rfl) rfl ?_
  refine Lw.take (dj := 18) rfl rfl ?_
  refine Lw.val (Ex.lenS st_70 rfl (by assumption)) rfl ?_
  refine Lw.take (dj := 18) rfl rfl ?_
  refine Lw.val (Ex.geq rfl rfl) rfl ?_
  refine Lw.val (Ex.pickF rfl rfl) rfl ?_
  refine Lw.val (Ex.assign rfl) rfl ?_
  refine Lw.nil ?_
  refine Pw.thenN (Cw.out ?_)
  refine Cw.cond rfl ?_ ?_
  · intro g
    have g2 := of_decide_eq_true g
    refine Cw.seq ?_
    refine Cw.region ?_
    refine Lw.val (Ex.assign rfl) rfl ?_
    refine Lw.nil ?_
    refine Pw.thenN (Cw.out ?_)
    refine Cw.ret ?_
    refine Pw.blkR ?_
    refine Pw.thenR ?_
    refine Pw.ret1 rfl rfl ?_
    exact ⟨by rw [if_neg (by omega)], rfl⟩
  intro g
  have g2 := of_decide_eq_false g
  refine Cw.skip ?_
  refine Pw.blkN ?_
  refine Pw.thenN (Cw.out ?_)
  refine Cw.seq ?_
  refine Cw.region ?_
  refine Lw.val (Ex.assign rfl) rfl ?_
  refine Lw.nil ?_
  refine Pw.thenN (Cw.out ?_)
  refine Cw.ret ?_
  refine Pw.ret1 rfl rfl ?_
  exact ⟨by rw [if_pos (by omega)], rfl⟩
theorem askn_c (n : Int) (w : World) : Fnc Try.prog 39 [.pointer none, .int .i64 n] w (fun r w' => r = .int .i64 2 ∧ w' = w) := by
  refine Fnc.enter (n := 27) Try.func39 (by kernel_rfl) rfl rfl rfl ?_
  refine Cw.seq ?_
  refine Cw.region ?_
  refine Lw.val (Ex.assign rfl) rfl ?_
  refine Lw.nil ?_
  refine Pw.thenN (Cw.out ?_)
  refine Cw.seq ?_
  refine Cw.block ?_
  refine Cw.seq ?_
  refine Cw.region ?_
  refine Lw.val (Ex.move rfl) rfl ?_
  refine Lw.val (Ex.nilP rfl rfl rfl) rfl ?_
  refine Lw.val (Ex.move rfl) rfl ?_
  refine Lw.know 8 (v' := .bool true) rfl (congrArg Value.bool (rfl)) ?_
  refine Lw.pass (dj := 8) rfl rfl rfl rfl ?_
  refine Lw.pass (dj := 8) rfl rfl rfl rfl ?_
  refine Lw.pass (dj := 8) rfl rfl rfl rfl ?_
  refine Lw.pass (dj := 8) rfl rfl rfl rfl ?_
  refine Lw.pass (dj := 8) rfl rfl rfl rfl ?_
  refine Lw.val (Ex.pickT rfl rfl) rfl ?_
  refine Lw.val (Ex.assign rfl) rfl ?_
  refine Lw.nil ?_
  refine Pw.thenN (Cw.out ?_)
  refine Cw.condT rfl ?_
  refine Cw.seq ?_
  refine Cw.region ?_
  refine Lw.val (Ex.assign rfl) rfl ?_
  refine Lw.nil ?_
  refine Pw.thenN (Cw.out ?_)
  refine Cw.ret ?_
  refine Pw.blkR ?_
  refine Pw.thenR ?_
  refine Pw.ret1 rfl rfl ?_
  exact ⟨rfl, rfl⟩
theorem dlen_c (A : Nat) (S : Nat → Prop) (D : Dsk) (w : World) (h : DiskAt w S A D) : Fnc Try.prog 25 [.pointer (some ⟨A, 0, none⟩)] w (fun r w' => r = .int .i64 (D.seen.length : Int) ∧ w' = w) := by
  have h0 := h
  obtain ⟨vs, ve, vw, h⟩ := h
  have hl : 1 ≤ D.seen.length := by have := h.ok.len; have := h.ok.one; omega
  have s_e := own_sl h.oe
  have b_A := h.box
  refine Fnc.enter (n := 11) Try.func25 (by kernel_rfl) rfl rfl rfl ?_
  refine Cw.seq ?_
  refine Cw.region ?_
  refine Lw.val (Ex.assign rfl) rfl ?_
  refine Lw.nil ?_
  refine Pw.thenN (Cw.out ?_)
  refine Cw.seq ?_
  refine Cw.seq ?_
  refine Cw.region ?_
  refine Lw.val (Ex.move rfl) rfl ?_
  refine Lw.callF rfl rfl (ask_c A S D 0 w h0) ?_
  rintro _ _ ⟨rfl, rfl⟩
  rw [if_pos (show (0 : Int) ≤ 0 ∧ (0 : Int) < D.seen.length by omega)]
  refine Lw.val (Ex.neq rfl rfl) rfl ?_
  refine Lw.nil ?_
  refine Pw.thenN (Cw.out ?_)
  refine Cw.condB rfl false (rfl) ?_
  refine Cw.skip ?_
  refine Pw.thenN (Cw.out ?_)
  refine Cw.seq ?_
  refine Cw.region ?_
  refine Lw.val (Ex.move rfl) rfl ?_
  refine Lw.val (Ex.nilCheck rfl) rfl ?_
  refine Lw.val (Ex.fieldAddr (q := 0) Try.underlying95 rfl (sz_70 _) rfl) rfl ?_
  refine Lw.val (Ex.ldB (ag_70 _) rfl (by assumption) rfl) rfl ?_
  refine Lw.val (Ex.lenS st_70 rfl (by assumption)) rfl ?_
  refine Lw.val (Ex.assign rfl) rfl ?_
  refine Lw.nil ?_
  refine Pw.thenN (Cw.out ?_)
  refine Cw.ret ?_
  refine Pw.ret1 rfl rfl ?_
  exact ⟨rfl, rfl⟩
theorem dlenn_c (w : World) : Fnc Try.prog 25 [.pointer none] w (fun r w' => r = .int .i64 0 ∧ w' = w) := by
  refine Fnc.enter (n := 11) Try.func25 (by kernel_rfl) rfl rfl rfl ?_
  refine Cw.seq ?_
  refine Cw.region ?_
  refine Lw.val (Ex.assign rfl) rfl ?_
  refine Lw.nil ?_
  refine Pw.thenN (Cw.out ?_)
  refine Cw.seq ?_
  refine Cw.seq ?_
  refine Cw.region ?_
  refine Lw.val (Ex.move rfl) rfl ?_
  refine Lw.callF rfl rfl (askn_c 0 w) ?_
  rintro _ _ ⟨rfl, rfl⟩
  refine Lw.val (Ex.neq rfl rfl) rfl ?_
  refine Lw.nil ?_
  refine Pw.thenN (Cw.out ?_)
  refine Cw.condB rfl true (rfl) ?_
  refine Cw.seq ?_
  refine Cw.region ?_
  refine Lw.val (Ex.assign rfl) rfl ?_
  refine Lw.nil ?_
  refine Pw.thenN (Cw.out ?_)
  refine Cw.ret ?_
  refine Pw.thenR ?_
  refine Pw.ret1 rfl rfl ?_
  exact ⟨rfl, rfl⟩
theorem dnew_c (n : Nat) (w : World) (h1 : 1 ≤ n) (h2 : n ≤ 16384) : Fnc Try.prog 10 [.int .i64 (n : Int)] w (fun r w' => Below w.heap.size w w' ∧ ∃ A, r = .tuple #[.pointer (some ⟨A, 0, none⟩), .int .i64 0] ∧ DiskAt w' (fun b => w.heap.size ≤ b ∧ b < w'.heap.size) A ⟨List.replicate n zer, List.replicate n zer, []⟩) := by
  refine Fnc.enter (n := 13) Try.func10 (by kernel_rfl) rfl rfl rfl ?_
  refine Cw.seq ?_
  refine Cw.region ?_
  refine Lw.val (Ex.assign rfl) rfl ?_
  refine Lw.val (Ex.assign rfl) rfl ?_
  refine Lw.nil ?_
  refine Pw.thenN (Cw.out ?_)
  refine Cw.seq ?_
  refine Cw.seq ?_
  refine Cw.region ?_
  refine Lw.val (Ex.move rfl) rfl ?_
  refine Lw.val (Ex.lss rfl rfl) rfl ?_
  refine Lw.val (Ex.move rfl) rfl ?_
  refine Lw.know 6 (v' := .bool false) rfl (congrArg Value.bool ((by rw [decide_eq_false]; omega))) ?_
  refine Lw.take (dj := 6) rfl rfl ?_
  refine Lw.val (Ex.move rfl) rfl ?_
  refine Lw.take (dj := 6) rfl rfl ?_
  refine Lw.val (Ex.gtr rfl rfl) rfl ?_
  refine Lw.val (Ex.pickF rfl rfl) rfl ?_
  refine Lw.nil ?_
  refine Pw.thenN (Cw.out ?_)
  refine Cw.condB rfl false ((by rw [decide_eq_false]; omega)) ?_
  refine Cw.skip ?_
  refine Pw.thenN (Cw.out ?_)
  refine Cw.seq ?_
  refine Cw.region ?_
  refine Lw.val (Ex.move rfl) rfl ?_
  refine Lw.valW (Xw.make st_70 it_92 rfl rfl rfl (Nat.le_refl _) (by omega) (by omega)) rfl ?_
  rintro v w1 ⟨ho, hv, hn, hz⟩
  rw [← flw_rep] at ho
  have ho' : w1.ownsRow 0 secT 65 v (List.replicate n zer).length (flw secC (List.replicate n zer)) := by rw [List.length_replicate]; exact own_mono ho (Nat.zero_le _)
  have vb := own_block ho
  have z1 := hn.size
  refine Lw.callF rfl rfl (dof_c v (List.replicate n zer) w1 ho' (fun b hb => by rw [(List.mem_replicate.1 hb).2]; exact zer_len) (by simpa using h1) (by simpa using h2)) ?_
  rintro _ w2 ⟨hn2, A, rfl, hA, hD⟩
  have z2 := hn2.size
  refine Lw.val (Ex.assign rfl) rfl ?_
  refine Lw.val (Ex.assign rfl) rfl ?_
  refine Lw.nil ?_
  refine Pw.thenN (Cw.out ?_)
  refine Cw.ret ?_
  refine Pw.ret2 rfl rfl rfl ?_
  exact ⟨hn.trans (hn2.mono z1), A, rfl, hD.wide (fun b e => by rcases e with e | e; have := vb b e; omega; omega) (fun b e => e.2)⟩

/-! ### Writing -/
theorem bt_place (n : Int) : Try.prog.built 97 [(0, .int .i64 n)] = some [.int .i64 n].toArray := by
  have h1 : Try.prog.info? 97 = some Try.t97 := by kernel_rfl
  have h2 : Try.prog.info? 3 = some Try.t3 := by kernel_rfl
  simp [Program.built, h1, Try.underlying97, h2, Instr.fill, Value.cells]
  rfl
theorem bt_write (n : Nat) : Try.prog.built wrT [(0, .agg [.int .i64 (n : Int)].toArray)] = some (wrC (n, zer)).toArray := by
  have h1 : Try.prog.info? 99 = some Try.t99 := by kernel_rfl
  have h2 : Try.prog.info? 97 = some Try.t97 := by kernel_rfl
  have h3 : Try.prog.info? 90 = some Try.t90 := by kernel_rfl
  have h4 : Try.prog.info? 3 = some Try.t3 := by kernel_rfl
  simp [Program.built, h1, Try.underlying99, h2, h3, h4]
  exact (fill_one (off := 0) (ds := [.int .i64 (n : Int)]) rfl rfl (Nat.le_of_ble_eq_true rfl)).trans rfl
theorem bt_sector (b : By) (hb : b.length = 64) : Try.prog.built secT [(0, .agg (b.map b8).toArray)] = some (secC b).toArray := by
  have h1 : Try.prog.info? 92 = some Try.t92 := by kernel_rfl
  have h3 : Try.prog.info? 90 = some Try.t90 := by kernel_rfl
  have h4 : Try.prog.info? 3 = some Try.t3 := by kernel_rfl
  simp [Program.built, h1, Try.underlying92, h3, h4]
  refine (fill_one (off := 0) (ds := b.map b8) rfl (by rw [List.length_map, hb]; rfl) (by rw [List.length_map, hb]; decide)).trans ?_
  have : spl (secC zer) 0 (b.map b8) = secC b := secC_spl zer_len hb
  exact congrArg (fun x => some x.toArray) this
theorem write_c (A : Nat) (S : Nat → Prop) (D : Dsk) (n : Nat) (v : Value) (l : By) (w : World) (h : DiskAt w S A D) (hv : SlT b8 w v l) (hn : n < D.seen.length) (hl : l.length ≤ 64) (hw : D.waits.length ≤ 1000000) :
    Fnc Try.prog 19 [.pointer (some ⟨A, 0, none⟩), .int .i64 (n : Int), v] w (fun r w' => r = .int .i64 0 ∧ Chg S w w' ∧ DiskAt w' (gro S w w') A ⟨D.sure, D.seen.set n (pad l), D.waits ++ [(n, pad l)]⟩) := by
  have h0 := h
  obtain ⟨vs, ve, vw, h⟩ := h
  obtain ⟨ge, cap, -, eg, -, -⟩ := own_blk h.oe (by have := h.ok.len; have := h.ok.one; omega)
  have h00 := h
  have lp := pad_len hl
  have hB := Below.refl w.heap.size w
  obtain ⟨c0, hc0⟩ : ∃ c, c = wrC (n, zer) := ⟨_, rfl⟩
  have l0 : c0.length = 66 := by rw [hc0]; exact wrC_len zer_len
  obtain ⟨c1, hc1⟩ : ∃ c, c = wrC (n, pad l) := ⟨_, rfl⟩
  have l1 : c1.length = 66 := by rw [hc1]; exact wrC_len lp
  have o1 : c1.all (·.oneCell') = true := by rw [hc1]; exact wrC_ones _
  obtain ⟨c2, hc2⟩ : ∃ c, c = secC (pad l) := ⟨_, rfl⟩
  have l2 : c2.length = 65 := by rw [hc2]; exact secC_len lp
  refine Fnc.enter (n := 48) Try.func19 (by kernel_rfl) rfl rfl rfl ?_
  refine Cw.seq ?_
  refine Cw.region ?_
  refine Lw.val (Ex.assign rfl) rfl ?_
  refine Lw.nil ?_
  refine Pw.thenN (Cw.out ?_)
  refine Cw.seq ?_
  refine Cw.region ?_
  refine Lw.val (Ex.move rfl) rfl ?_
  refine Lw.val (Ex.move rfl) rfl ?_
  refine Lw.callF rfl rfl (ask_c A S D n w h0) ?_
  rintro _ w ⟨rfl, rfl⟩
  rw [if_pos (show (0 : Int) ≤ (n : Int) ∧ (n : Int) < D.seen.length by omega)]
  refine Lw.val (Ex.assign rfl) rfl ?_
  refine Lw.nil ?_
  refine Pw.thenN (Cw.out ?_)
  refine Cw.seq ?_
  refine Cw.seq ?_
  refine Cw.region ?_
  refine Lw.val (Ex.move rfl) rfl ?_
  refine Lw.val (Ex.eql rfl rfl) rfl ?_
  refine Lw.val (Ex.move rfl) rfl ?_
  refine Lw.know 14 (v' := .bool true) rfl (congrArg Value.bool (rfl)) ?_
  refine Lw.take (dj := 14) rfl rfl ?_
  refine Lw.val (Ex.move rfl) rfl ?_
  refine Lw.take (dj := 14) rfl rfl ?_
  refine Lw.val (Ex.lenS st_53 rfl (by assumption)) rfl ?_
  refine Lw.take (dj := 14) rfl rfl ?_
  refine Lw.val (Ex.gtr rfl rfl) rfl ?_
  refine Lw.val (Ex.pickT rfl rfl) rfl ?_
  refine Lw.nil ?_
  refine Pw.thenN (Cw.out ?_)
  refine Cw.condB rfl false ((by rw [decide_eq_false]; omega)) ?_
  refine Cw.skip ?_
  refine Pw.thenN (Cw.out ?_)
  refine Cw.seq ?_
  refine Cw.seq ?_
  refine Cw.region ?_
  refine Lw.val (Ex.move rfl) rfl ?_
  refine Lw.val (Ex.neq rfl rfl) rfl ?_
  refine Lw.nil ?_
  refine Pw.thenN (Cw.out ?_)
  refine Cw.condB rfl false (rfl) ?_
  refine Cw.skip ?_
  refine Pw.thenN (Cw.out ?_)
  refine Cw.seq ?_
  refine Cw.region ?_
  refine Lw.val (Ex.move rfl) rfl ?_
  refine Lw.val (Ex.build (vs := [(0, .int .i64 (n : Int))]) (cs := [.int .i64 (n : Int)]) rfl (bt_place n)) rfl ?_
  refine Lw.val (Ex.build (vs := [(0, .agg [.int .i64 (n : Int)].toArray)]) (cs := c0) rfl (by rw [hc0]; exact bt_write n)) rfl ?_
  refine Lw.valW (Xw.new it_99) rfl ?_
  rintro _ w1 ⟨rfl, b_w, hn1, hz1⟩
  refine Lw.unit (Xu.stA (cs := c0) (k := 66) (by kernel_rfl) l0 rfl rfl (by rw [hc0]; exact wrC_ones _) b_w (wrC_len zer_len)) ?_
  rintro w2 ⟨b_w, hg2, hz2⟩
  have hB2 : Below w.heap.size w w2 := hn1.grown hg2 (below_size hn1) (by rintro _ ⟨⟩; exact Nat.le_refl _)
  have hv2 := hv.bs hB2
  refine Lw.nil ?_
  refine Pw.thenN (Cw.out ?_)
  refine Cw.seq ?_
  refine Cw.region ?_
  refine Lw.val (Ex.fieldAddr (q := 63) Try.underlying99 rfl (sz_90 _) rfl) rfl ?_
  refine Lw.val (Ex.arr un_90 sz_5 rfl) rfl ?_
  refine Lw.val (Ex.move rfl) rfl ?_
  refine Lw.valW (Xw.copyAt st_53 (by kernel_rfl) rfl rfl b_w (show 1 + 64 ≤ c0.length by omega) hv2 hl (b8_ones l)) rfl ?_
  rintro _ w3 ⟨rfl, b_w, hg3, hz3⟩
  have e1 : spl c0 1 (l.map b8) = c1 := by rw [hc0, hc1]; exact wrC_spl hl
  replace b_w : Blk w3 w.heap.size wrT (spl c0 1 (l.map b8)) := b_w
  rw [e1] at b_w
  have z2 := below_size hB2
  have hB3 : Below w.heap.size w w3 := hB2.grown hg3 z2 (by rintro _ ⟨⟩; exact Nat.le_refl _)
  have h3 := h.bs hB3
  have z3 := below_size hB3
  have yA := blk_lt h.box
  refine Lw.nil ?_
  refine Pw.thenN (Cw.out ?_)
  refine Cw.seq ?_
  refine Cw.tail 9 mixed (by kernel_rfl) ?_
  refine Qw.val (fun w1 hq => Ex.move rfl) rfl ?_
  refine Qw.val (fun w1 hq => Ex.nilCheck rfl) rfl ?_
  refine Qw.val (fun w1 hq => Ex.fieldAddr (q := 0) Try.underlying95 rfl (sz_70 _) rfl) rfl ?_
  refine Qw.val (fun w1 hq => Ex.ldB (ag_70 _) rfl (h3.box.bs hq) rfl) rfl ?_
  refine Qw.val (fun w1 hq => Ex.move rfl) rfl ?_
  refine Qw.val (fun w1 hq => Ex.fieldAddr (q := 63) Try.underlying99 rfl (sz_90 _) rfl) rfl ?_
  refine Qw.val (fun w1 hq => Ex.ldAt (ds := (pad l).map b8) (k := 64) (ag_90 _) (sz_90 _) (by rw [List.length_map, lp]) rfl (b_w.bs hq) (by rw [hc1]; exact wrC_arr lp)) rfl ?_
  refine Qw.val (fun w1 hq => Ex.build (vs := [(0, .agg ((pad l).map b8).toArray)]) (cs := c2) rfl (by rw [hc2]; exact bt_sector _ lp)) rfl ?_
  refine Qw.val (fun w1 hq => Ex.idxO st_70 rfl rfl (h3.oe.bs hq) eg n rfl hn) rfl ?_
  refine Qw.done (fun w4 hq => ?_)
  have h4 := h3.bs hq
  have b_w4 := b_w.bs hq
  have lf := flw_len (secs_len h4.ok.f2)
  have hle := flw_le (k := 65) (i := 65) hn (Nat.le_refl _)
  refine Lw.unit (Xu.stAO (k := 65) (ds := c2) (by kernel_rfl) l2 rfl rfl (by rw [hc2]; exact secC_ones _) h4.oe eg (by omega)) ?_
  rintro w5 ⟨oe, hg5, hz5⟩
  have e2 : spl (flw secC D.seen) (n * 65) c2 = flw secC (D.seen.set n (pad l)) := by
    have := flw_spl (i := 0) (ds := c2) (b := pad l) (secs_len h4.ok.f2) hn (by omega) (by rw [hc2]; exact spl_all (by rw [secC_len (h4.ok.f2 _ (List.getElem_mem hn)), secC_len lp]))
    rwa [Nat.add_zero] at this
  rw [e2] at oe
  refine Lw.nil ?_
  refine Pw.thenN (Cw.out ?_)
  refine Cw.seq ?_
  obtain ⟨W, hW⟩ : ∃ W, W = w.heap.size := ⟨_, rfl⟩
  have gS := h4.se ge eg
  have gW : ge < W := by have := h00.lt ge gS.1; omega
  have AW : A < W := by have := h00.lt A h4.sA; omega
  have C5 : Chg S w w5 := ((Chg.of_below hB3).below hq).grown hg5 (fun k e => .inl (by cases e; exact gS.1))
  have b_A := h4.box.by hg5 (by intro e; cases e; exact gS.2 rfl)
  have ow := own_heap h4.ow (fun k e => hg5.block k (own_block h4.ow k e).2 (by intro e2; cases e2; exact h4.dew _ eg e))
  have os := own_heap h4.os (fun k e => hg5.block k (own_block h4.os k e).2 (by intro e2; cases e2; exact h4.dse _ e eg))
  have b_w5 := b_w4.by hg5 (by intro e; cases e; omega)
  have vwW : ∀ k, vw.ownBlock = some k → k < W := fun k e => by have := h00.lt k (h4.sw k e).1; omega
  have vsW : ∀ k, vs.ownBlock = some k → k < W := fun k e => by have := h00.lt k (h4.ss k e).1; omega
  have z5 := C5.size
  have ok := h4.ok
  have ss := h4.ss
  have se := h4.se
  have sw := h4.sw
  have dse := h4.dse
  have dsw := h4.dsw
  have dew := h4.dew
  have sA := h4.sA
  have ltS := h00.lt
  rw [← hW] at b_w5 z5 ⊢
  clear h4 h3 b_w b_w4 hv hv2 hg5 hg2 hg3 hq hB hB2 hB3
  refine Cw.any mixed (fun w6 hd _ => ?_)
  refine Aw.seg (St := Value) (g := 1) [0, 1, 2, 3, 4, 5, 6, 7, 8, 9] 10 (fun s => [(45, s), (47, .pointer (some ⟨A, 2, none⟩))]) (fun s w' => Chg S w w' ∧ w'.ownsRow 0 wrT 66 s (D.waits.length + 1) (flw wrC (D.waits ++ [(n, pad l)])) ∧ Blk w' A dskT [vs, ve, vw] ∧ w'.ownsRow 0 secT 65 vs D.sure.length (flw secC D.sure) ∧ w'.ownsRow 0 secT 65 ve D.seen.length (flw secC (D.seen.set n (pad l))) ∧ (∀ b, s.ownBlock = some b → vw.ownBlock = some b ∨ W ≤ b)) (by kernel_rfl) rfl ?_ ?_
  · have hC : Blk w6 A dskT [vs, ve, vw] ∧ Blk w6 W wrT c1 := ⟨b_A.bs hd, b_w5.bs hd⟩
    have ow := own_bs ow hd
    have os := own_bs os hd
    have oe := own_bs oe hd
    have zd := hd.size
    refine Aw.cls (fun w' => Blk w' A dskT [vs, ve, vw] ∧ Blk w' W wrT c1) (fun hC => ?_) (hC)
    refine AwC.take (i := 0) (NoP.thn (NoP.thn NoP.ret)) rfl (by kernel_rfl) (by kernel_rfl) (by kernel_rfl) (fun w1 hc => Ex.move rfl) rfl ?_
    refine AwC.take (i := 1) (NoP.thn (NoP.thn NoP.ret)) rfl (by kernel_rfl) (by kernel_rfl) (by kernel_rfl) (fun w1 hc => Ex.move rfl) rfl ?_
    refine AwC.take (i := 2) (NoP.thn (NoP.thn NoP.ret)) rfl (by kernel_rfl) (by kernel_rfl) (by kernel_rfl) (fun w1 hc => Ex.nilCheck rfl) rfl ?_
    refine AwC.take (i := 3) (NoP.thn (NoP.thn NoP.ret)) rfl (by kernel_rfl) (by kernel_rfl) (by kernel_rfl) (fun w1 hc => Ex.fieldAddr (q := 0) Try.underlying95 rfl (sz_93 _) rfl) rfl ?_
    refine AwC.take (i := 4) (NoP.thn (NoP.thn NoP.ret)) rfl (by kernel_rfl) (by kernel_rfl) (by kernel_rfl) (fun w1 hc => Ex.ldB (ag_93 _) rfl hc.1 rfl) rfl ?_
    refine AwC.take (i := 5) (NoP.thn (NoP.thn NoP.ret)) rfl (by kernel_rfl) (by kernel_rfl) (by kernel_rfl) (fun w1 hc => Ex.ldA (ag_99 _) (sz_99 _) l1 rfl hc.2) rfl ?_
    refine AwC.only (by assumption) (i := 6) (by kernel_rfl) rfl ?_
    refine Lw.valW (Xw.litA1 st_93 it_99 rfl l1 (by decide) (by decide)) rfl ?_
    rintro x w7 ⟨o7, -, hn7, -⟩
    have hC : Blk w7 A dskT [vs, ve, vw] ∧ Blk w7 W wrT c1 := ⟨hC.1.bs hn7, hC.2.bs hn7⟩
    have ow := own_bs ow hn7
    have os := own_bs os hn7
    have oe := own_bs oe hn7
    have z7 := hn7.size
    refine AwC.back ?_
    refine AwC.only (by assumption) (i := 7) (by kernel_rfl) rfl ?_
    refine Lw.valW (Xw.append3 (base := 0) st_93 it_99 rfl (by decide) rfl rfl ow (own_sl o7) o1 (by omega) (by omega) (Nat.zero_le _)) rfl ?_
    rintro s w8 ⟨o8, hg8, hcase⟩
    have e8 : flw wrC D.waits ++ c1 = flw wrC (D.waits ++ [(n, pad l)]) := by rw [flw_app, flw_one, hc1]
    rw [e8] at o8
    have hub : ∀ b, s.ownBlock = some b → vw.ownBlock = some b ∨ W ≤ b := fun b e => by
      rcases hcase with h | ⟨h, _⟩
      · rw [h] at e; exact .inl e
      · exact .inr (by have := h b e; omega)
    have hC : Blk w8 A dskT [vs, ve, vw] ∧ Blk w8 W wrT c1 := ⟨hC.1.by hg8 (fun e => (sw A e.symm).2 rfl), hC.2.by hg8 (fun e => by have := vwW _ e.symm; omega)⟩
    have os := own_heap os (fun k e => hg8.block k (own_block os k e).2 (fun e2 => dsw k e e2.symm))
    have oe := own_heap oe (fun k e => hg8.block k (own_block oe k e).2 (fun e2 => dew k e e2.symm))
    have C8 : Chg S w w8 := ((C5.below hd).below hn7).grown hg8 (fun k e => .inl (sw k e).1)
    refine AwC.back ?_
    refine AwC.take (i := 8) (NoP.thn (NoP.thn NoP.ret)) rfl (by kernel_rfl) (by kernel_rfl) (by kernel_rfl) (fun w1 hc => Ex.nilCheck rfl) rfl ?_
    refine AwC.take (i := 9) (NoP.thn (NoP.thn NoP.ret)) rfl (by kernel_rfl) (by kernel_rfl) (by kernel_rfl) (fun w1 hc => Ex.fieldAddr (q := 0) Try.underlying95 rfl (sz_93 _) rfl) rfl ?_
    refine AwC.done (by assumption) (by kernel_rfl) ?_
    exact Pw.thenN (Pw.seg (s) ⟨rfl, rfl, trivial⟩ (⟨C8, o8, hC.1, os, oe, hub⟩))
  rintro s w9 ⟨C9, o9, b_A, os, oe, hub⟩
  refine Aw.only (i := 10) (by kernel_rfl) rfl ?_
  refine Lw.unit (Xu.stB (u := s) (sz_93 _) rfl rfl (own_sl o9).one' b_A (show 2 < 3 by decide)) ?_
  rintro w10 ⟨b_A, hg10, hz10⟩
  have sA' : ∀ k, s.ownBlock = some k → k ≠ A := fun k e => by
    rcases hub k e with h | h
    · exact (sw k h).2
    · omega
  have o10 := own_heap o9 (fun k e => hg10.block k (own_block o9 k e).2 (fun e2 => sA' k e (Option.some.inj e2)))
  have os := own_heap os (fun k e => hg10.block k (own_block os k e).2 (fun e2 => (ss k e).2 (Option.some.inj e2)))
  have oe := own_heap oe (fun k e => hg10.block k (own_block oe k e).2 (fun e2 => (se k e).2 (Option.some.inj e2)))
  have C10 := C9.grown hg10 (fun k e => .inl (by cases e; exact sA))
  have z9 := C9.size
  have sb := own_block o9
  refine Aw.back ?_
  refine Aw.done (by kernel_rfl) ?_
  refine Pw.thenN (Cw.out ?_)
  refine Cw.seq ?_
  refine Cw.region ?_
  refine Lw.val (Ex.assign rfl) rfl ?_
  refine Lw.nil ?_
  refine Pw.thenN (Cw.out ?_)
  refine Cw.ret ?_
  refine Pw.ret1 rfl rfl ?_
  exact ⟨rfl, C10, vs, ve, s, b_A, os, by rw [List.length_set]; exact oe, by rw [List.length_append]; exact o10, .inl sA, fun k e => ⟨.inl (ss k e).1, (ss k e).2⟩, fun k e => ⟨.inl (se k e).1, (se k e).2⟩, fun k e => ⟨(hub k e).elim (fun h => .inl (sw k h).1) (fun h => .inr ⟨by omega, by have := sb k e; omega⟩), sA' k e⟩, dse, fun k e1 e2 => (hub k e2).elim (fun h => dsw k e1 h) (fun h => by have := vsW k e1; omega), fun k e1 e2 => (hub k e2).elim (fun h => dew k e1 h) (fun h => by have := ltS k (se k e1).1; omega), fun k e => e.elim (fun h => by have := ltS k h; omega) (fun h => h.2), ⟨by rw [List.length_set]; exact ok.len, ok.one, ok.few, ok.f1, fun b hb => (List.mem_or_eq_of_mem_set hb).elim (ok.f2 b) (fun e => by rw [e]; exact lp), fun x hx => (List.mem_append.1 hx).elim (ok.f3 x) (fun e => by rw [List.mem_singleton.1 e]; exact ⟨by have := ok.len; simp only; omega, lp⟩)⟩⟩
end Go.Proofs.Ytiaojbbgjlpikaa
