/- Contracts: a log: how many, where the next one is, the count that it tells. -/
import Derived.Test.YtiaojbbgjlpikaaOutRec
import Derived.Test.YtiaojbbgjlpikaaRng
namespace Go.Proofs.Ytiaojbbgjlpikaa
open Go Go.Dd Go.RowKit
set_option maxRecDepth 100000

abbrev logT : TypeId := 72
abbrev encN (n : Nat) : Value := .int .i64 (n : Int)
theorem _root_.Go.Dd.Chg.into {S T : Nat → Prop} {a b c : World} (h : Chg S a b) (k : Chg T b c) (hT : ∀ i, T i → S i ∨ a.heap.size ≤ i) : Chg S a c :=
  ⟨k.os.trans h.os, k.tape.trans h.tape, k.output.trans h.output, Nat.le_trans h.size k.size, fun i hi hs => (k.block i (Nat.lt_of_lt_of_le hi h.size) (fun e => (hT i e).elim hs (fun e => by omega))).trans (h.block i hi hs)⟩
theorem gro_into {S : Nat → Prop} {W w w' : World} (hz : W.heap.size ≤ w.heap.size) : ∀ i, gro S w w' i → S i ∨ W.heap.size ≤ i := fun i h => h.elim .inl (fun h => .inr (by omega))
/-- The same disk, by its own blocks alone. -/
theorem DiskAt.tight {w : World} {S : Nat → Prop} {A : Nat} {D : Dsk} (h : DiskAt w S A D) : ∃ T, DiskAt w T A D ∧ (∀ b, T b → S b) ∧ (∀ b, T b → ∃ o : Obj, w.heap[b]? = some o ∧ o.isCells = true) := by
  obtain ⟨vs, ve, vw, h⟩ := h
  have own : ∀ {E : TypeId} {sz n : Nat} {v : Value} {xs : List Value}, w.ownsRow 0 E sz v n xs → ∀ b, v.ownBlock = some b → ∃ o : Obj, w.heap[b]? = some o ∧ o.isCells = true := fun ho b e => by
    rcases ho.2 with ⟨rfl, _⟩ | ⟨g, cap, cur, rfl, _, hg, _⟩
    · cases e
    · cases e; exact ⟨_, hg, rfl⟩
  refine ⟨fun b => b = A ∨ vs.ownBlock = some b ∨ ve.ownBlock = some b ∨ vw.ownBlock = some b, ⟨vs, ve, vw, h.box, h.os, h.oe, h.ow, .inl rfl, fun b e => ⟨.inr (.inl e), (h.ss b e).2⟩, fun b e => ⟨.inr (.inr (.inl e)), (h.se b e).2⟩, fun b e => ⟨.inr (.inr (.inr e)), (h.sw b e).2⟩, h.dse, h.dsw, h.dew, fun b e => ?_, h.ok⟩, fun b e => ?_, fun b e => ?_⟩
  · rcases e with rfl | e | e | e
    · exact h.lt _ h.sA
    · exact h.lt _ (h.ss b e).1
    · exact h.lt _ (h.se b e).1
    · exact h.lt _ (h.sw b e).1
  · rcases e with rfl | e | e | e
    · exact h.sA
    · exact (h.ss b e).1
    · exact (h.se b e).1
    · exact (h.sw b e).1
  · rcases e with rfl | e | e | e
    · exact ⟨_, h.box, rfl⟩
    · exact own h.os b e
    · exact own h.oe b e
    · exact own h.ow b e
theorem DiskAt.ok {w : World} {S : Nat → Prop} {A : Nat} {D : Dsk} (h : DiskAt w S A D) : Dok D := by obtain ⟨_, _, _, h⟩ := h; exact h.ok
theorem DiskAt.lt {w : World} {S : Nat → Prop} {A : Nat} {D : Dsk} (h : DiskAt w S A D) : ∀ b, S b → b < w.heap.size := by obtain ⟨_, _, _, h⟩ := h; exact h.lt
theorem DiskAt.sA {w : World} {S : Nat → Prop} {A : Nat} {D : Dsk} (h : DiskAt w S A D) : S A := by obtain ⟨_, _, _, h⟩ := h; exact h.sA
theorem DiskAt.nc {B : Nat} {w w' : World} {S : Nat → Prop} {A : Nat} {D : Dsk} (h : DiskAt w S A D) (k : Nc B w w') : DiskAt w' S A D := by
  obtain ⟨vs, ve, vw, h⟩ := h
  exact ⟨vs, ve, vw, h.box.nc k, own_nc h.os k, own_nc h.oe k, own_nc h.ow k, h.sA, h.ss, h.se, h.sw, h.dse, h.dsw, h.dew, fun b e => Nat.lt_of_lt_of_le (h.lt b e) k.size, h.ok⟩

/-- A log in memory, with its disk. -/
structure LogV (w : World) (S : Nat → Prop) (L A : Nat) (u : Value) (T : Nat → Prop) (D : Dsk) (es : List Nat) : Prop where
  box : Blk w L logT [.pointer (some ⟨A, 0, none⟩), u]
  oe : w.ownsRow 0 3 1 u es.length (es.map encN)
  d : DiskAt w T A D
  sT : ∀ b, T b → S b
  sL : S L
  su : ∀ b, u.ownBlock = some b → S b
  tL : ¬ T L
  tu : ∀ b, u.ownBlock = some b → ¬ T b
  uL : u.ownBlock ≠ some L
  lt : ∀ b, S b → b < w.heap.size
def LogAt (w : World) (S : Nat → Prop) (L A : Nat) (D : Dsk) (es : List Nat) : Prop := ∃ u T, LogV w S L A u T D es
theorem LogV.bs {w w' : World} {S T : Nat → Prop} {L A : Nat} {u : Value} {D : Dsk} {es : List Nat} (h : LogV w S L A u T D es) (g : Below w.heap.size w w') : LogV w' S L A u T D es :=
  ⟨h.box.bs g, own_bs h.oe g, h.d.bs g, h.sT, h.sL, h.su, h.tL, h.tu, h.uL, fun b e => Nat.lt_of_lt_of_le (h.lt b e) g.size⟩
theorem LogAt.bs {w w' : World} {S : Nat → Prop} {L A : Nat} {D : Dsk} {es : List Nat} (h : LogAt w S L A D es) (g : Below w.heap.size w w') : LogAt w' S L A D es := by
  obtain ⟨u, T, h⟩ := h; exact ⟨u, T, h.bs g⟩
theorem LogAt.chg {w w' : World} {S R : Nat → Prop} {L A : Nat} {D : Dsk} {es : List Nat} (h : LogAt w S L A D es) (g : Chg R w w') (hR : ∀ b, S b → ¬ R b) : LogAt w' S L A D es := by
  obtain ⟨u, T, h⟩ := h
  exact ⟨u, T, h.box.chg g (hR _ h.sL), own_chg h.oe g (fun b e => hR b (h.su b e)), h.d.chg g (fun b e => hR b (h.sT b e)), h.sT, h.sL, h.su, h.tL, h.tu, h.uL, fun b e => Nat.lt_of_lt_of_le (h.lt b e) g.size⟩
theorem LogAt.wide {w : World} {S R : Nat → Prop} {L A : Nat} {D : Dsk} {es : List Nat} (h : LogAt w S L A D es) (hS : ∀ b, S b → R b) (hR : ∀ b, R b → b < w.heap.size) : LogAt w R L A D es := by
  obtain ⟨u, T, h⟩ := h
  exact ⟨u, T, h.box, h.oe, h.d, fun b e => hS b (h.sT b e), hS _ h.sL, fun b e => hS b (h.su b e), h.tL, h.tu, h.uL, hR⟩
theorem LogAt.lt {w : World} {S : Nat → Prop} {L A : Nat} {D : Dsk} {es : List Nat} (h : LogAt w S L A D es) : ∀ b, S b → b < w.heap.size := by obtain ⟨_, _, h⟩ := h; exact h.lt
theorem LogAt.disk {w : World} {S : Nat → Prop} {L A : Nat} {D : Dsk} {es : List Nat} (h : LogAt w S L A D es) : DiskAt w S A D := by obtain ⟨_, _, h⟩ := h; exact h.d.wide h.sT h.lt

theorem there_c (L A : Nat) (S : Nat → Prop) (D : Dsk) (es : List Nat) (w : World) (h : LogAt w S L A D es) : Fnc Try.prog 30 [.pointer (some ⟨L, 0, none⟩)] w (fun r w' => r = .bool true ∧ w' = w) := by
  obtain ⟨u, T, h⟩ := h
  have b_L := h.box
  refine Fnc.enter (n := 12) Try.func30 (by kernel_rfl) rfl rfl rfl ?_
  refine Cw.seq ?_
  refine Cw.region ?_
  refine Lw.val (Ex.assign rfl) rfl ?_
  refine Lw.nil ?_
  refine Pw.thenN (Cw.out ?_)
  refine Cw.seq ?_
  refine Cw.region ?_
  refine Lw.val (Ex.move rfl) rfl ?_
  refine Lw.val (Ex.nonP rfl rfl rfl) rfl ?_
  refine Lw.val (Ex.move rfl) rfl ?_
  refine Lw.know 5 (v' := .bool true) rfl (congrArg Value.bool (rfl)) ?_
  refine Lw.take (dj := 5) rfl rfl ?_
  refine Lw.val (Ex.move rfl) rfl ?_
  refine Lw.take (dj := 5) rfl rfl ?_
  refine Lw.val (Ex.nilCheck rfl) rfl ?_
  refine Lw.take (dj := 5) rfl rfl ?_
  refine Lw.val (Ex.fieldAddr (q := 0) Try.underlying72 rfl (sz_25 _) rfl) rfl ?_
  refine Lw.take (dj := 5) rfl rfl ?_
  refine Lw.val (Ex.ldB (ag_25 _) rfl (by assumption) rfl) rfl ?_
  refine Lw.take (dj := 5) rfl rfl ?_
  refine Lw.val (Ex.nonP rfl rfl rfl) rfl ?_
  refine Lw.val (Ex.pickT rfl rfl) rfl ?_
  refine Lw.val (Ex.assign rfl) rfl ?_
  refine Lw.nil ?_
  refine Pw.thenN (Cw.out ?_)
  refine Cw.ret ?_
  refine Pw.ret1 rfl rfl ?_
  exact ⟨rfl, rfl⟩
theorem theren_c (w : World) : Fnc Try.prog 30 [.pointer none] w (fun r w' => r = .bool false ∧ w' = w) := by
  refine Fnc.enter (n := 12) Try.func30 (by kernel_rfl) rfl rfl rfl ?_
  refine Cw.seq ?_
  refine Cw.region ?_
  refine Lw.val (Ex.assign rfl) rfl ?_
  refine Lw.nil ?_
  refine Pw.thenN (Cw.out ?_)
  refine Cw.seq ?_
  refine Cw.region ?_
  refine Lw.val (Ex.move rfl) rfl ?_
  refine Lw.val (Ex.nonP rfl rfl rfl) rfl ?_
  refine Lw.val (Ex.move rfl) rfl ?_
  refine Lw.know 5 (v' := .bool false) rfl (congrArg Value.bool (rfl)) ?_
  refine Lw.pass (dj := 5) rfl rfl rfl rfl ?_
  refine Lw.pass (dj := 5) rfl rfl rfl rfl ?_
  refine Lw.pass (dj := 5) rfl rfl rfl rfl ?_
  refine Lw.pass (dj := 5) rfl rfl rfl rfl ?_
  refine Lw.pass (dj := 5) rfl rfl rfl rfl ?_
  refine Lw.val (Ex.pickF rfl rfl) rfl ?_
  refine Lw.val (Ex.assign rfl) rfl ?_
  refine Lw.nil ?_
  refine Pw.thenN (Cw.out ?_)
  refine Cw.ret ?_
  refine Pw.ret1 rfl rfl ?_
  exact ⟨rfl, rfl⟩
/-- The sector behind the first n records. -/
def endN (es : List Nat) (n : Nat) : Nat := if n = 0 then 1 else es.getD (n - 1) 0
theorem end_c (L A n : Nat) (S : Nat → Prop) (D : Dsk) (es : List Nat) (w : World) (h : LogAt w S L A D es) (hn : n ≤ es.length) : Fnc Try.prog 29 [.pointer (some ⟨L, 0, none⟩), .int .i64 (n : Int)] w (fun r w' => r = .int .i64 ((endN es n : Nat) : Int) ∧ w' = w) := by
  obtain ⟨u, T, h⟩ := h
  have b_L := h.box
  have s_u : SlT encN w u es := own_sl h.oe
  have hle := s_u.le
  refine Fnc.enter (n := 15) Try.func29 (by kernel_rfl) rfl rfl rfl ?_
  refine Cw.seq ?_
  refine Cw.region ?_
  refine Lw.val (Ex.assign rfl) rfl ?_
  refine Lw.nil ?_
  refine Pw.thenN (Cw.out ?_)
  refine Cw.seq ?_
  refine Cw.seq ?_
  refine Cw.region ?_
  refine Lw.val (Ex.move rfl) rfl ?_
  refine Lw.val (Ex.eql rfl rfl) rfl ?_
  refine Lw.nil ?_
  refine Pw.thenN (Cw.out ?_)
  refine Cw.cond rfl ?_ ?_
  · intro g
    have g1 := of_decide_eq_true g
    refine Cw.seq ?_
    refine Cw.region ?_
    refine Lw.val (Ex.assign rfl) rfl ?_
    refine Lw.nil ?_
    refine Pw.thenN (Cw.out ?_)
    refine Cw.ret ?_
    refine Pw.thenR ?_
    refine Pw.ret1 rfl rfl ?_
    exact ⟨by unfold endN; rw [if_pos (by omega)]; rfl, rfl⟩
  intro g
  have g1 := of_decide_eq_false g
  refine Cw.skip ?_
  refine Pw.thenN (Cw.out ?_)
  refine Cw.seq ?_
  refine Cw.region ?_
  refine Lw.val (Ex.move rfl) rfl ?_
  refine Lw.val (Ex.nilCheck rfl) rfl ?_
  refine Lw.val (Ex.fieldAddr (q := 0) Try.underlying72 rfl (sz_33 _) rfl) rfl ?_
  refine Lw.val (Ex.ldB (ag_33 _) rfl (by assumption) rfl) rfl ?_
  refine Lw.val (Ex.move rfl) rfl ?_
  refine Lw.val (Ex.subI rfl rfl (by omega)) rfl ?_
  refine Lw.val (Ex.idxS st_33 rfl rfl s_u.shp (n - 1) (by omega) (by omega)) rfl ?_
  refine Lw.val (Ex.ldT (ag_3 _) rfl (by assumption) (by omega)) rfl ?_
  refine Lw.val (Ex.assign rfl) rfl ?_
  refine Lw.nil ?_
  refine Pw.thenN (Cw.out ?_)
  refine Cw.ret ?_
  refine Pw.ret1 rfl rfl ?_
  exact ⟨by unfold endN; rw [if_neg (by omega)]; rfl, rfl⟩
theorem olen_c (L A : Nat) (S : Nat → Prop) (D : Dsk) (es : List Nat) (w : World) (h : LogAt w S L A D es) : Fnc Try.prog 22 [.pointer (some ⟨L, 0, none⟩)] w (fun r w' => r = .int .i64 (es.length : Int) ∧ w' = w) := by
  have h0 := h
  obtain ⟨u, T, h⟩ := h
  refine Fnc.enter (n := 11) Try.func22 (by kernel_rfl) rfl rfl rfl ?_
  refine Cw.seq ?_
  refine Cw.region ?_
  refine Lw.val (Ex.assign rfl) rfl ?_
  refine Lw.nil ?_
  refine Pw.thenN (Cw.out ?_)
  refine Cw.seq ?_
  refine Cw.seq ?_
  refine Cw.region ?_
  refine Lw.val (Ex.move rfl) rfl ?_
  refine Lw.callF rfl rfl (there_c L A S D es w h0) ?_
  rintro _ w ⟨rfl, rfl⟩
  have b_L := h.box
  have s_u : SlT encN w u es := own_sl h.oe
  refine Lw.val (Ex.not rfl) rfl ?_
  refine Lw.nil ?_
  refine Pw.thenN (Cw.out ?_)
  refine Cw.condB rfl false (rfl) ?_
  refine Cw.skip ?_
  refine Pw.thenN (Cw.out ?_)
  refine Cw.seq ?_
  refine Cw.region ?_
  refine Lw.val (Ex.move rfl) rfl ?_
  refine Lw.val (Ex.nilCheck rfl) rfl ?_
  refine Lw.val (Ex.fieldAddr (q := 0) Try.underlying72 rfl (sz_33 _) rfl) rfl ?_
  refine Lw.val (Ex.ldB (ag_33 _) rfl (by assumption) rfl) rfl ?_
  refine Lw.val (Ex.lenS st_33 rfl (by assumption)) rfl ?_
  refine Lw.val (Ex.assign rfl) rfl ?_
  refine Lw.nil ?_
  refine Pw.thenN (Cw.out ?_)
  refine Cw.ret ?_
  refine Pw.ret1 rfl rfl ?_
  exact ⟨rfl, rfl⟩

/-! ### The count -/
def cx (n s : Nat) : By := cmark ++ Crc.four (BitVec.ofInt 32 (n : Int)) ++ Crc.four (BitVec.ofInt 32 (s : Int))
def cntB (n s : Nat) : By := pad (cx n s ++ Crc.four (Crc.of (cx n s)))
theorem cmark_len : cmark.length = 5 := rfl
theorem cx_len (n s : Nat) : (cx n s).length = 13 := rfl
theorem cntB_len (n s : Nat) : (cntB n s).length = 64 := pad_len (Nat.le_of_ble_eq_true rfl)
theorem pad_64 {b : By} (h : b.length = 64) : pad b = b := by simp [pad, h]
theorem tells_c (L A : Nat) (S : Nat → Prop) (D : Dsk) (es : List Nat) (w : World) (h : LogAt w S L A D es) (hw : D.waits = []) (he : 1 ≤ endN es es.length ∧ endN es es.length ≤ 1000000) :
    Fnc Try.prog 37 [.pointer (some ⟨L, 0, none⟩)] w (fun r w' => r = .tuple #[] ∧ Chg S w w' ∧ LogAt w' (gro S w w') L A ⟨D.seen.set 0 (cntB es.length (endN es es.length - 1)), D.seen.set 0 (cntB es.length (endN es es.length - 1)), []⟩ es) := by
  have h0 := h
  obtain ⟨u, T, h⟩ := h
  have b_L := h.box
  have s_u : SlT encN w u es := own_sl h.oe
  have hle := s_u.le
  obtain ⟨E, hE⟩ : ∃ E, E = endN es es.length := ⟨_, rfl⟩
  rw [← hE] at he ⊢
  have hB := Below.refl w.heap.size w
  have hV0 := h
  refine Fnc.enter (n := 39) Try.func37 (by kernel_rfl) rfl rfl rfl ?_
  refine Cw.seq ?_
  refine Cw.region ?_
  refine Lw.val (Ex.move rfl) rfl ?_
  refine Lw.val (Ex.nilCheck rfl) rfl ?_
  refine Lw.val (Ex.fieldAddr (q := 0) Try.underlying72 rfl (sz_33 _) rfl) rfl ?_
  refine Lw.val (Ex.ldB (ag_33 _) rfl (by assumption) rfl) rfl ?_
  refine Lw.val (Ex.lenS st_33 rfl (by assumption)) rfl ?_
  refine Lw.val (Ex.assign rfl) rfl ?_
  refine Lw.nil ?_
  refine Pw.thenN (Cw.out ?_)
  refine Cw.seq ?_
  refine Cw.region ?_
  have b_L := h.box
  refine Lw.valW (Xw.make (l := 64) (c := 64) st_53 it_5 rfl rfl rfl (Nat.le_refl _) (by decide) (by decide)) rfl ?_
  rintro b w1 ⟨o_b, hb, hn, -⟩
  have e0 : (List.replicate 64 [Value.int .u8 0]).flatten = zer.map b8 := rfl
  rw [e0] at o_b
  have yb := own_block o_b
  replace h := h.bs hn
  replace hB := hB.bs hn
  clear hn
  refine Lw.val (Ex.assign rfl) rfl ?_
  refine Lw.nil ?_
  refine Pw.thenN (Cw.out ?_)
  refine Cw.seq ?_
  refine Cw.region ?_
  refine Lw.valW (Xw.lit (vs := cmark.map b8) st_53 it_5 rfl rfl rfl rfl rfl) rfl ?_
  rintro m w2 ⟨o_m, hm, hn, -⟩
  obtain ⟨g2, hg2⟩ : ∃ g, g = w1.heap.size := ⟨_, rfl⟩
  rw [← hg2] at hm
  subst hm
  have m2 : Blk w2 g2 5 (cmark.map b8) := by
    obtain ⟨cap, cur, e, hb, htk, h1, h2, h3, h4⟩ := own_cells o_m rfl
    cases e
    have : cur = cmark.map b8 := by rw [← htk, List.take_of_length_le (by rw [h3]; exact Nat.le_refl _)]
    rw [← this]; exact hb
  have z1 := below_size hB
  replace h := h.bs hn
  replace hB := hB.bs hn
  replace o_b := o_b.bs hn
  clear hn
  refine Lw.valW (Xw.convS un_53 un_5 rfl m2 (own_sl o_m)) rfl ?_
  rintro _ w3 ⟨rfl, s_m, hg3, hz3⟩
  have z2 := below_size hB
  have hB3 := hB.grown hg3 z2 (by rintro _ ⟨⟩; omega)
  have o_b3 := own_heap o_b (fun k e => hg3.block k (own_block o_b k e).2 (by intro e2; cases e2; have := (yb _ e).2; omega))
  refine Lw.val (Ex.move rfl) rfl ?_
  refine Lw.val (Ex.conv32 us_3 un_32 rfl) rfl ?_
  refine Lw.callF rfl rfl (putFour_c _ cmark (BitVec.ofInt 32 (es.length : Int)) w3 s_m (by rw [cmark_len]; omega)) ?_
  rintro x1 w4 ⟨_, _, -, o_1, hn4⟩
  have z3 := below_size hB3
  have hB4 := hB3.trans (hn4.mono z3)
  have hL4 : LogAt w4 S L A D es := ⟨u, T, hV0.bs hB4⟩
  refine Lw.val (Ex.move rfl) rfl ?_
  refine Lw.val (Ex.move rfl) rfl ?_
  refine Lw.callF rfl rfl (end_c L A es.length S D es w4 hL4 (Nat.le_refl _)) ?_
  rintro _ w4 ⟨rfl, rfl⟩
  rw [← hE]
  have z4 := below_size hB4
  refine Lw.val (Ex.as (Ex.subI rfl rfl (by omega)) (congrArg (Value.int .i64) (show (E : Int) - 1 = ((E - 1 : Nat) : Int) by omega))) rfl ?_
  refine Lw.val (Ex.conv32 us_3 un_32 rfl) rfl ?_
  refine Lw.callF rfl rfl (putFour_c x1 _ (BitVec.ofInt 32 ((E - 1 : Nat) : Int)) w4 (own_slT o_1) (show 9 ≤ 16777200 by omega)) ?_
  rintro x2 w5 ⟨_, _, -, o_2, hn5⟩
  replace o_2 : w5.ownsRow _ 5 1 x2 13 ((cx es.length (E - 1)).map b8) := o_2
  obtain ⟨X, hX⟩ : ∃ X, X = cx es.length (E - 1) := ⟨_, rfl⟩
  have lX : X.length = 13 := by rw [hX]; rfl
  rw [← hX, ← lX] at o_2
  have hB5 := hB4.trans (hn5.mono z4)
  have z5 := below_size hB5
  refine Lw.val (Ex.assign rfl) rfl ?_
  refine Lw.nil ?_
  refine Pw.thenN (Cw.out ?_)
  refine Cw.seq ?_
  refine Cw.region ?_
  refine Lw.val (Ex.move rfl) rfl ?_
  refine Lw.val (Ex.move rfl) rfl ?_
  refine Lw.val (Ex.move rfl) rfl ?_
  refine Lw.callF rfl rfl (of_c x2 X w5 (own_slT o_2)) ?_
  rintro _ w6 ⟨rfl, hn6⟩
  have hB6 := hB5.trans (hn6.mono z5)
  have o_26 := own_bs o_2 hn6
  have z6 := below_size hB6
  refine Lw.callF rfl rfl (putFour_c x2 X (Crc.of X) w6 (own_slT o_26) (by omega)) ?_
  rintro x3 w7 ⟨_, _, -, o_3, hn7⟩
  have hB7 := hB6.trans (hn7.mono z6)
  have z7 := below_size hB7
  obtain ⟨Y, hY⟩ : ∃ Y, Y = X ++ Crc.four (Crc.of X) := ⟨_, rfl⟩
  have lY : Y.length = 17 := by rw [hY, List.length_append, lX]; rfl
  rw [← hY] at o_3
  have o_b7 := own_bs (own_bs (own_bs (own_bs o_b3 hn4) hn5) hn6) hn7
  refine Lw.valW (Xw.copy st_53 (by kernel_rfl) rfl rfl o_b7 (own_sl o_3) (by omega) (b8_ones Y)) rfl ?_
  rintro _ w8 ⟨rfl, o_b8, hg8, hz8⟩
  have eC : cntB es.length (E - 1) = pad Y := by rw [hY, hX]; rfl
  have eP : Y.map b8 ++ (zer.map b8).drop Y.length = (cntB es.length (E - 1)).map b8 := by
    rw [eC, pad, List.map_append, ← List.map_drop]
    congr 2
    rw [zer, List.drop_replicate]
  rw [eP] at o_b8
  have hB8 := hB7.grown hg8 z7 (fun k e => by have := (yb k e).1; omega)
  have hL8 : LogAt w8 S L A D es := ⟨u, T, hV0.bs hB8⟩
  have b_L8 := (hV0.bs hB8).box
  have lC := cntB_len es.length (E - 1)
  have s_b : SlT b8 w8 b (cntB es.length (E - 1)) := by
    have := own_sl o_b8
    unfold SlT; rw [lC]; exact this
  have hd8 : DiskAt w8 T A D := (hV0.bs hB8).d
  refine Lw.nil ?_
  refine Pw.thenN (Cw.out ?_)
  refine Cw.seq ?_
  refine Cw.region ?_
  refine Lw.val (Ex.move rfl) rfl ?_
  refine Lw.val (Ex.nilCheck rfl) rfl ?_
  refine Lw.val (Ex.fieldAddr (q := 0) Try.underlying72 rfl (sz_25 _) rfl) rfl ?_
  refine Lw.val (Ex.ldB (ag_25 _) rfl (by assumption) rfl) rfl ?_
  refine Lw.val (Ex.move rfl) rfl ?_
  refine Lw.callF rfl rfl (write_c A T D 0 b _ w8 hd8 s_b (by have := hd8.ok.len; have := hd8.ok.one; omega) (by omega) (by rw [hw]; exact Nat.zero_le _)) ?_
  rintro _ w9 ⟨rfl, hC9, hd9⟩
  rw [pad_64 lC, hw, List.nil_append] at hd9
  have b_L9 := b_L8.chg hC9 hV0.tL
  have C9 : Chg S w w9 := (Chg.of_below hB8).into hC9 (fun i e => .inl (hV0.sT i e))
  have z9 := hC9.size
  have z8 := below_size hB8
  refine Lw.nil ?_
  refine Pw.thenN (Cw.out ?_)
  refine Cw.region ?_
  refine Lw.val (Ex.move rfl) rfl ?_
  refine Lw.val (Ex.nilCheck rfl) rfl ?_
  refine Lw.val (Ex.fieldAddr (q := 0) Try.underlying72 rfl (sz_25 _) rfl) rfl ?_
  refine Lw.val (Ex.ldB (ag_25 _) rfl (by assumption) rfl) rfl ?_
  refine Lw.callF rfl rfl (sync_c A _ _ w9 hd9) ?_
  rintro _ w10 ⟨rfl, hC10, hd10⟩
  have C10 : Chg S w w10 := C9.into hC10 (fun i e => e.elim (fun e => .inl (hV0.sT i e)) (fun e => .inr (by omega)))
  have ltS := hV0.lt
  have nS : ∀ i, S i → ¬ T i → ¬ gro T w8 w9 i := fun i h1 h2 h3 => h3.elim h2 (fun h => by have := ltS i h1; omega)
  have b_L10 := b_L9.chg hC10 (nS L hV0.sL hV0.tL)
  have oe10 := own_chg (own_chg (hV0.bs hB8).oe hC9 hV0.tu) hC10 (fun b e => nS b (hV0.su b e) (hV0.tu b e))
  have z10 := hC10.size
  refine Lw.nil ?_
  refine Pw.end0 rfl ?_
  refine ⟨rfl, C10, u, gro (gro T w8 w9) w9 w10, b_L10, oe10, hd10, fun i e => ?_, .inl hV0.sL, fun i e => .inl (hV0.su i e), fun e => ?_, fun i e1 e => ?_, hV0.uL, fun i e => e.elim (fun e => by have := ltS i e; omega) (fun e => e.2)⟩
  · rcases e with (e | e) | e
    · exact .inl (hV0.sT i e)
    · exact .inr (by omega)
    · exact .inr (by omega)
  · rcases e with (e | e) | e
    · exact hV0.tL e
    · have := ltS L hV0.sL; omega
    · have := ltS L hV0.sL; omega
  · rcases e with (e | e) | e
    · exact hV0.tu i e1 e
    · have := ltS i (hV0.su i e1); omega
    · have := ltS i (hV0.su i e1); omega
end Go.Proofs.Ytiaojbbgjlpikaa
