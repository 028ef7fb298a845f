/- Contract: a record is added to a log. -/
import Derived.Test.YtiaojbbgjlpikaaOutChunk
namespace Go.Proofs.Ytiaojbbgjlpikaa
open Go Go.Dd Go.RowKit
set_option maxRecDepth 100000

def recBy (i : BitVec 32) (s : List Int) (l : List (BitVec 32)) : By := Crc.four i ++ Crc.four (BitVec.ofInt 32 ((putB s l).length : Int)) ++ putB s l
def nSec (b : By) : Nat := (b.length + 59) / 60
def padT (b : By) : By := b ++ List.replicate (60 * nSec b - b.length) 0#8
theorem padT_len (b : By) : (padT b).length = 60 * nSec b := by unfold padT nSec; rw [List.length_append, List.length_replicate]; omega
def secOf (n : Nat) (p : By) : By := p ++ Crc.four (Crc.on (Crc.of (Crc.four (BitVec.ofInt 32 (n : Int)))) p)
def prt (P : By) (k : Nat) : By := (P.drop (60 * k)).take 60
/-- Sectors written, one behind the other. -/
def wrs (l : List By) (a : Nat) (P : By) : Nat → List By
  | 0 => l
  | k + 1 => (wrs l a P k).set (a + k) (secOf (a + k) (prt P k))
theorem wrs_len {l : List By} {a : Nat} {P : By} : ∀ k, (wrs l a P k).length = l.length
  | 0 => rfl
  | k + 1 => by rw [wrs, List.length_set, wrs_len k]
theorem secOf_len {n : Nat} {p : By} (h : p.length = 60) : (secOf n p).length = 64 := by unfold secOf; rw [List.length_append, h]; rfl
theorem _root_.Go.Dd.Chg.nc {S : Nat → Prop} {B : Nat} {W A A' : World} (h : Chg S W A) (k : Nc B A A') (hB : W.heap.size ≤ B) : Chg S W A' := by
  obtain ⟨r, g, hr⟩ := k
  exact h.grown g (fun i e => .inr (by have := (hr i e).1; omega))
theorem kf_chg {B : Nat} {T : Nat → Prop} {W w w' : World} (h : KeepsFrom B W w) (k : Chg T w w') (hT : ∀ b, T b → ∃ o : Obj, w.heap[b]? = some o ∧ o.isCells = true) : KeepsFrom B W w' :=
  h.trans ⟨k.size, fun i o _ hi hc => (k.block i (Array.getElem?_eq_some_iff.1 hi).1 (fun e => by
    obtain ⟨o', ho, hc'⟩ := hT i e
    rw [hi] at ho; cases ho
    rw [hc] at hc'; cases hc')).trans hi⟩
theorem kp_chg {Nd T : Nat → Prop} {a b c : World} (h : Kp Nd a b) (k : Chg T b c) (hT : ∀ i, Nd i → ¬ T i) : Kp Nd a c := h.trans ⟨k.size, fun i hi hl => k.block i hl (hT i hi)⟩
theorem def_chg {T : Nat → Prop} {w w' : World} {d : Nat} {x : Option (List Deferred)} (h : w.heap[d]? = some (.deferred x)) (k : Chg T w w') (hT : ∀ b, T b → ∃ o : Obj, w.heap[b]? = some o ∧ o.isCells = true) : w'.heap[d]? = some (.deferred x) :=
  (k.block d (Array.getElem?_eq_some_iff.1 h).1 (fun e => by
    obtain ⟨o', ho, hc'⟩ := hT d e
    rw [h] at ho; cases ho; cases hc')).trans h
theorem def_bs {w w' : World} {d : Nat} {x : Option (List Deferred)} (h : w.heap[d]? = some (.deferred x)) (k : Below w.heap.size w w') : w'.heap[d]? = some (.deferred x) := (k.block d (Array.getElem?_eq_some_iff.1 h).1).trans h
theorem def_own {w w' : World} {d base : Nat} {x : Option (List Deferred)} {E : TypeId} {sz n : Nat} {v : Value} {xs : List Value} (h : w.heap[d]? = some (.deferred x)) (ho : w.ownsRow base E sz v n xs) (k : w.grownBy w' v.ownBlock) : w'.heap[d]? = some (.deferred x) :=
  (k.block d (Array.getElem?_eq_some_iff.1 h).1 (fun e => by
    rcases ho.2 with ⟨rfl, _⟩ | ⟨g, cap, cur, rfl, _, hg, _⟩
    · cases e
    · simp only [Value.ownBlock, Option.some.injEq] at e
      subst e
      rw [h] at hg; cases hg)).trans h
theorem def_blk {w w' : World} {d b : Nat} {x : Option (List Deferred)} {T : TypeId} {cs : List Value} (h : w.heap[d]? = some (.deferred x)) (hb : Blk w b T cs) (k : w.grownBy w' (some b)) : w'.heap[d]? = some (.deferred x) :=
  (k.block d (Array.getElem?_eq_some_iff.1 h).1 (fun e => by cases e; rw [show w.heap[_]? = _ from hb] at h; cases h)).trans h
theorem parts_get {v : Value} {K : Nat} {pre : List Value} {x : Value} (h : pre ++ [x] <+: parts v K) : x = cutp v 1 (60 * pre.length) (60 * pre.length + 60) ∧ pre.length < K := by
  have hl := h.length_le
  have hp : (parts v K).length = K := by simp [parts]
  rw [hp, List.length_append, List.length_singleton] at hl
  obtain ⟨r, hr⟩ := h
  have h1 : (parts v K)[pre.length]? = some x := by rw [← hr]; simp
  unfold parts at h1
  rw [List.getElem?_map, List.getElem?_range (by omega)] at h1
  simp only [Option.map_some, Option.some.injEq] at h1
  exact ⟨h1.symm, by omega⟩
theorem LogAt.nc {B : Nat} {w w' : World} {S : Nat → Prop} {L A : Nat} {D : Dsk} {es : List Nat} (h : LogAt w S L A D es) (k : Nc B w w') : LogAt w' S L A D es := by
  obtain ⟨u, T, h⟩ := h
  exact ⟨u, T, h.box.nc k, own_nc h.oe k, h.d.nc k, h.sT, h.sL, h.su, h.tL, h.tu, h.uL, fun b e => Nat.lt_of_lt_of_le (h.lt b e) k.size⟩
theorem own_cell {w : World} {base : Nat} {E : TypeId} {sz n : Nat} {v : Value} {xs : List Value} (ho : w.ownsRow base E sz v n xs) : ∀ b, v.ownBlock = some b → ∃ o : Obj, w.heap[b]? = some o ∧ o.isCells = true := fun b e => by
  rcases ho.2 with ⟨rfl, _⟩ | ⟨g, cap, cur, rfl, _, hg, _⟩
  · cases e
  · cases e; exact ⟨_, hg, rfl⟩
theorem endN_last (es : List Nat) (e : Nat) : endN (es ++ [e]) (es ++ [e]).length = e := by simp [endN]
theorem dlen_b (A : Nat) (S : Nat → Prop) (D : Dsk) (w : World) (h : DiskAt w S A D) : Fnc Try.prog 25 [.pointer (some ⟨A, 0, none⟩)] w (fun r w' => r = .int .i64 (D.seen.length : Int) ∧ Below w.heap.size w w') :=
  (dlen_c A S D w h).mono fun _ _ ⟨h1, h2⟩ => ⟨h1, by rw [h2]; exact Below.refl _ _⟩
theorem add_c (L A : Nat) (S : Nat → Prop) (D : Dsk) (es : List Nat) (ix : BitVec 32) (t : T4) (W : World) (h : LogAt W S L A D es) (hw : D.waits = []) (ht : t.at W) (he : 1 ≤ endN es es.length ∧ endN es es.length ≤ 100000) (hl : es.length ≤ 100000) :
    Fnc Try.prog 13 [.pointer (some ⟨L, 0, none⟩), .agg [u32 ix, t.x, t.y].toArray] W (fun r w' =>
      ((tok t.s t.l = false ∨ ix ≠ BitVec.ofInt 32 (es.length : Int)) ∧ r = .int .i64 1 ∧ Below W.heap.size W w') ∨
      (tok t.s t.l = true ∧ ix = BitVec.ofInt 32 (es.length : Int) ∧ D.seen.length < endN es es.length + nSec (recBy ix t.s t.l) ∧ r = .int .i64 6 ∧ Below W.heap.size W w') ∨
      (tok t.s t.l = true ∧ ix = BitVec.ofInt 32 (es.length : Int) ∧ endN es es.length + nSec (recBy ix t.s t.l) ≤ D.seen.length ∧ r = .int .i64 0 ∧ Chg S W w' ∧
        ∃ F, F = (wrs D.seen (endN es es.length) (padT (recBy ix t.s t.l)) (nSec (recBy ix t.s t.l))).set 0 (cntB (es.length + 1) (endN es es.length + nSec (recBy ix t.s t.l) - 1)) ∧ LogAt w' (gro S W w') L A ⟨F, F, []⟩ (es ++ [endN es es.length + nSec (recBy ix t.s t.l)]))) := by
  have h0 := h
  obtain ⟨u, T, h⟩ := h
  obtain ⟨E, hE⟩ : ∃ E, E = endN es es.length := ⟨_, rfl⟩
  rw [← hE] at he ⊢
  have hB := Below.refl W.heap.size W
  refine Fnc.enterG (n := 109) Try.func13 (by kernel_rfl) rfl rfl rfl ?_
  refine Cg.seq ?_
  refine Cg.region (by kernel_rfl) ?_
  refine Lw.boxV (cs := [.pointer (some ⟨L, 0, none⟩)]) rfl rfl rfl ?_
  rintro A_2 w eA_2 b_2 hn -
  replace hB := hB.bs hn
  replace ht := ht.bs hn
  clear hn
  have y2 := blk_lt b_2
  refine Lw.boxV (cs := [u32 ix, t.x, t.y]) rfl rfl rfl ?_
  rintro A_3 w eA_3 b_3 hn -
  replace hB := hB.bs hn
  replace ht := ht.bs hn
  replace b_2 := b_2.bs hn
  clear hn
  refine Lw.val (Ex.assign rfl) rfl ?_
  refine Lw.nil (Pg.low ?_)
  refine Pg.thenN (Cg.out ?_)
  refine Cg.seq ?_
  refine Cg.seq ?_
  refine Cg.region (by kernel_rfl) ?_
  refine Lw.val (Ex.ldB (ag_29 _) rfl (by assumption) rfl) rfl ?_
  have y3 := blk_lt b_3
  have zA : W.heap.size ≤ A_2 ∧ A_2 < A_3 := by omega
  refine Lw.callF rfl rfl (there_c L A S D es w (h0.bs hB)) ?_
  rintro _ w ⟨rfl, rfl⟩
  refine Lw.val (Ex.not rfl) rfl ?_
  refine Lw.nil (Pg.low ?_)
  refine Pg.thenN (Cg.out ?_)
  refine Cg.condB rfl false (rfl) ?_
  refine Cg.skip ?_
  refine Pg.thenN (Cg.out ?_)
  refine Cg.seq ?_
  refine Cg.region (by kernel_rfl) ?_
  refine Lw.val (Ex.fieldAddr (q := 1) Try.underlying39 rfl (sz_36 _) rfl) rfl ?_
  refine Lw.val (Ex.ldAt (ds := [t.x, t.y]) (k := 2) (ag_36 _) (sz_36 _) rfl rfl b_3 rfl) rfl ?_
  refine Lw.callF rfl rfl (tput_c t w ht) ?_
  rintro _ w ⟨hn, x, rfl, hx⟩
  replace hB := hB.bs hn
  replace ht := ht.bs hn
  replace b_2 := b_2.bs hn
  replace b_3 := b_3.bs hn
  clear hn
  have hVW := h
  have hV := h.bs hB
  have b_L := hV.box
  have s_u : SlT encN w u es := own_sl hV.oe
  refine Lw.val (Ex.move rfl) rfl ?_
  refine Lw.val (Ex.extract (i := 0) rfl rfl) rfl ?_
  refine Lw.val (Ex.extract (i := 1) rfl rfl) rfl ?_
  refine Lw.val (Ex.assign rfl) rfl ?_
  refine Lw.val (Ex.assign rfl) rfl ?_
  refine Lw.nil (Pg.low ?_)
  refine Pg.thenN (Cg.out ?_)
  refine Cg.seq ?_
  refine Cg.seq ?_
  have eix : decide (ix = BitVec.ofInt 32 (es.length : Int)) = decide (ix = BitVec.ofInt 32 (es.length : Int)) := rfl
  refine Cg.quiet mixed (by kernel_rfl) (by kernel_rfl) ?_
  refine Qw.val (fun w1 hq => Ex.move rfl) rfl ?_
  refine Qw.val (fun w1 hq => Ex.neq rfl rfl) rfl ?_
  refine Qw.val (fun w1 hq => Ex.move rfl) rfl ?_
  refine Qw.part 23 rfl ?_ ?_
  · intro g
    have hk : tok t.s t.l = false := by
      cases hk : tok t.s t.l with
      | false => rfl
      | true => simp [putE, hk] at g
    refine Qw.pass (dj := 23) rfl rfl rfl rfl ?_
    refine Qw.pass (dj := 23) rfl rfl rfl rfl ?_
    refine Qw.pass (dj := 23) rfl rfl rfl rfl ?_
    refine Qw.pass (dj := 23) rfl rfl rfl rfl ?_
    refine Qw.pass (dj := 23) rfl rfl rfl rfl ?_
    refine Qw.pass (dj := 23) rfl rfl rfl rfl ?_
    refine Qw.pass (dj := 23) rfl rfl rfl rfl ?_
    refine Qw.pass (dj := 23) rfl rfl rfl rfl ?_
    refine Qw.pass (dj := 23) rfl rfl rfl rfl ?_
    refine Qw.val (fun w1 hq => Ex.pickT rfl rfl) rfl ?_
    refine Qw.nil (fun w1 hq => (Pg.low ?_))
    refine Pg.thenN (Cg.out ?_)
    refine Cg.condT rfl ?_
    refine Cg.seq ?_
    refine Cg.region (by kernel_rfl) ?_
    refine Lw.val (Ex.assign rfl) rfl ?_
    refine Lw.nil (Pg.low ?_)
    refine Pg.thenN (Cg.out ?_)
    refine Cg.ret ?_
    refine Pg.thenR ?_
    refine Pg.close0 ?_
    refine Pw.ret1 rfl rfl ?_
    exact .inl ⟨.inl hk, rfl, hB.trans (hq.mono (below_size hB))⟩
  intro g
  have hk : tok t.s t.l = true := by
    cases hk : tok t.s t.l with
    | true => rfl
    | false => simp [putE, hk] at g
  refine Qw.take (dj := 23) rfl rfl ?_
  refine Qw.val (fun w1 hq => Ex.fieldAddr (q := 0) Try.underlying39 rfl (sz_32 _) rfl) rfl ?_
  refine Qw.take (dj := 23) rfl rfl ?_
  refine Qw.val (fun w1 hq => Ex.ldB (ag_32 _) rfl (Blk.bs (by assumption) hq) rfl) rfl ?_
  refine Qw.take (dj := 23) rfl rfl ?_
  refine Qw.val (fun w1 hq => Ex.ldB (ag_29 _) rfl (Blk.bs (by assumption) hq) rfl) rfl ?_
  refine Qw.take (dj := 23) rfl rfl ?_
  refine Qw.val (fun w1 hq => Ex.nilCheck rfl) rfl ?_
  refine Qw.take (dj := 23) rfl rfl ?_
  refine Qw.val (fun w1 hq => Ex.fieldAddr (q := 0) Try.underlying72 rfl (sz_33 _) rfl) rfl ?_
  refine Qw.take (dj := 23) rfl rfl ?_
  refine Qw.val (fun w1 hq => Ex.ldB (ag_33 _) rfl (Blk.bs (by assumption) hq) rfl) rfl ?_
  refine Qw.take (dj := 23) rfl rfl ?_
  refine Qw.val (fun w1 hq => Ex.lenS st_33 rfl (Sl.bs (by assumption) hq)) rfl ?_
  refine Qw.take (dj := 23) rfl rfl ?_
  refine Qw.val (fun w1 hq => Ex.conv32 us_3 un_32 rfl) rfl ?_
  refine Qw.take (dj := 23) rfl rfl ?_
  refine Qw.val (fun w1 hq => Ex.neq32 rfl rfl) rfl ?_
  refine Qw.val (fun w1 hq => Ex.pickF rfl rfl) rfl ?_
  refine Qw.nil (fun w1 hq => (Pg.low ?_))
  refine Pg.thenN (Cg.out ?_)
  refine Cg.cond rfl ?_ ?_
  · intro g
    have gi : ix ≠ BitVec.ofInt 32 (es.length : Int) := by simpa using g
    refine Cg.seq ?_
    refine Cg.region (by kernel_rfl) ?_
    refine Lw.val (Ex.assign rfl) rfl ?_
    refine Lw.nil (Pg.low ?_)
    refine Pg.thenN (Cg.out ?_)
    refine Cg.ret ?_
    refine Pg.thenR ?_
    refine Pg.close0 ?_
    refine Pw.ret1 rfl rfl ?_
    exact .inl ⟨.inr gi, rfl, hB.trans (hq.mono (below_size hB))⟩
  intro g
  have gi : ix = BitVec.ofInt 32 (es.length : Int) := by simpa using g
  replace hB := hB.bs hq
  replace ht := ht.bs hq
  replace b_2 := b_2.bs hq
  replace b_3 := b_3.bs hq
  replace hx := hx.bs hq
  clear hV b_L s_u hq
  refine Cg.skip ?_
  refine Pg.thenN (Cg.out ?_)
  refine Cg.seq ?_
  refine Cg.region (by kernel_rfl) ?_
  refine Lw.val (Ex.fieldAddr (q := 0) Try.underlying39 rfl (sz_32 _) rfl) rfl ?_
  refine Lw.val (Ex.ldB (ag_32 _) rfl (by assumption) rfl) rfl ?_
  refine Lw.callF rfl rfl (putFour_c (.slice none 0 0) [] ix w1 (Sl.nil _ _) (by decide)) ?_
  rintro x1 w ⟨_, _, -, o_1, hn⟩
  rw [List.nil_append] at o_1
  replace hB := hB.bs hn
  replace ht := ht.bs hn
  replace b_2 := b_2.bs hn
  replace b_3 := b_3.bs hn
  replace hx := hx.bs hn
  clear hn
  have eR : putR t.s t.l = putB t.s t.l := by simp [putR, hk]
  rw [eR] at hx
  obtain ⟨Tb, hTb⟩ : ∃ Tb, Tb = putB t.s t.l := ⟨_, rfl⟩
  rw [← hTb] at hx
  have sx := hx.slT
  have lTb : Tb.length ≤ 20000 := by
    obtain ⟨k1, k2⟩ := tok_ok hk
    have k3 := Shapes.size_le t.s
    have k4 := ((Shapes.ok_iff t.s).1 k1).1
    rw [hTb, putB, List.length_append, fours_len]
    simp only [headB, List.length_cons, List.length_map]
    omega
  refine Lw.val (Ex.move rfl) rfl ?_
  refine Lw.val (Ex.lenS st_53 rfl (by assumption)) rfl ?_
  refine Lw.val (Ex.conv32 us_3 un_32 rfl) rfl ?_
  refine Lw.callF rfl rfl (putFour_c x1 (Crc.four ix) (BitVec.ofInt 32 (Tb.length : Int)) w (own_slT o_1) (show 4 ≤ 16777200 by omega)) ?_
  rintro x2 w ⟨B2, hB2, zB2, o_2, hn⟩
  have zB := below_size hB
  have o_2b := own_block o_2
  have y23 : A_2 < B2 ∧ A_3 < B2 := by have := blk_lt b_2; have := blk_lt b_3; omega
  have WB2 : W.heap.size ≤ B2 := by omega
  replace hB := hB.bs hn
  replace ht := ht.bs hn
  replace b_2 := b_2.bs hn
  replace b_3 := b_3.bs hn
  replace sx := sx.bs hn
  clear hn hx o_1
  have l8 : (Crc.four ix ++ Crc.four (BitVec.ofInt 32 (Tb.length : Int))).length = 8 := rfl
  have zB := below_size hB
  refine Lw.val (Ex.move rfl) rfl ?_
  refine Lw.valW (Xw.append (base := B2) st_53 it_5 rfl (by decide) rfl rfl o_2 sx (b8_ones Tb) (by rw [l8]; omega) (by rw [l8]; omega) zB2) rfl ?_
  rintro x3 w3 ⟨o_3, hb3, hg3⟩
  rw [← List.map_append, ← List.length_append] at o_3
  obtain ⟨b, hb⟩ : ∃ b, b = recBy ix t.s t.l := ⟨_, rfl⟩
  have eb : Crc.four ix ++ Crc.four (BitVec.ofInt 32 (Tb.length : Int)) ++ Tb = b := by rw [hb, recBy, hTb]
  have lb : b.length = 8 + Tb.length := by rw [← eb, List.length_append, l8]
  rw [eb] at o_3
  rw [← hb]
  have b_2 := b_2.bl hb3 y23.1
  have b_3 := b_3.bl hb3 y23.2
  have hB := hB.trans (hb3.mono WB2)
  obtain ⟨w, hw3⟩ : ∃ w, w = w3 := ⟨_, rfl⟩
  subst hw3
  have z3 := hg3.size
  clear hb3 hg3 o_2 sx ht
  have hV := h.bs hB
  have b_L := hV.box
  have s_u : SlT encN w u es := own_sl hV.oe
  have zB := below_size hB
  refine Lw.val (Ex.assign rfl) rfl ?_
  refine Lw.nil (Pg.low ?_)
  refine Pg.thenN (Cg.out ?_)
  refine Cg.seq ?_
  refine Cg.any mixed (by kernel_rfl) (fun w1 hd _ => ?_)
  refine Aw.seg (St := Nat) (g := 1) [0, 1, 2, 3, 4, 5, 6, 7] 8 (fun s => [(2, .pointer (some ⟨A_2, 0, none⟩)), (3, .pointer (some ⟨A_3, 0, none⟩)), (7, x3), (8, .pointer (some ⟨s, 0, none⟩)), (49, .int .i64 (E : Int))]) (fun s w' => Below w.heap.size w w' ∧ w.heap.size ≤ s ∧ Blk w' s 3 [.int .i64 0]) (by kernel_rfl) rfl ?_ ?_
  · refine Aw.cls (fun w' => Below w.heap.size w w') (fun hC => ?_) (hd)
    refine AwC.take (i := 0) (NoP.thn (NoP.lift (NoP.thn NoP.retG))) rfl (by kernel_rfl) (by kernel_rfl) (by kernel_rfl) (fun w1 hc => Ex.ldB (ag_29 _) rfl (Blk.bs (by assumption) hc) rfl) rfl ?_
    refine AwC.take (i := 1) (NoP.thn (NoP.lift (NoP.thn NoP.retG))) rfl (by kernel_rfl) (by kernel_rfl) (by kernel_rfl) (fun w1 hc => Ex.ldB (ag_29 _) rfl (Blk.bs (by assumption) hc) rfl) rfl ?_
    refine AwC.take (i := 2) (NoP.thn (NoP.lift (NoP.thn NoP.retG))) rfl (by kernel_rfl) (by kernel_rfl) (by kernel_rfl) (fun w1 hc => Ex.nilCheck rfl) rfl ?_
    refine AwC.take (i := 3) (NoP.thn (NoP.lift (NoP.thn NoP.retG))) rfl (by kernel_rfl) (by kernel_rfl) (by kernel_rfl) (fun w1 hc => Ex.fieldAddr (q := 0) Try.underlying72 rfl (sz_33 _) rfl) rfl ?_
    refine AwC.take (i := 4) (NoP.thn (NoP.lift (NoP.thn NoP.retG))) rfl (by kernel_rfl) (by kernel_rfl) (by kernel_rfl) (fun w1 hc => Ex.ldB (ag_33 _) rfl (Blk.bs (by assumption) hc) rfl) rfl ?_
    refine AwC.take (i := 5) (NoP.thn (NoP.lift (NoP.thn NoP.retG))) rfl (by kernel_rfl) (by kernel_rfl) (by kernel_rfl) (fun w1 hc => Ex.lenS st_33 rfl (Sl.bs (by assumption) hc)) rfl ?_
    refine AwC.two (by assumption) (i := 6) (j := 7) (by kernel_rfl) rfl rfl ?_ ?_
    · refine Lw.callF rfl rfl (end_c L A es.length S D es w1 ((h0.bs hB).bs hd) (Nat.le_refl _)) ?_
      rintro _ w1 ⟨rfl, rfl⟩
      rw [← hE]
      refine AwC.back ?_
      refine AwC.only (by assumption) (i := 7) (by kernel_rfl) rfl ?_
      refine Lw.valW (Xw.new it_3) rfl ?_
      rintro _ w2 ⟨rfl, b8', hn8, -⟩
      have hd2 : Below w.heap.size w w2 := hd.trans (hn8.mono hd.size)
      refine AwC.back ?_
      refine AwC.done (by assumption) (by kernel_rfl) ?_
      exact Pw.thenN (Pw.seg (w1.heap.size) ⟨rfl, rfl, rfl, rfl, rfl, trivial⟩ (⟨hd2, hd.size, b8'⟩))
    · refine Lw.valW (Xw.new it_3) rfl ?_
      rintro _ w2 ⟨rfl, b8', hn8, -⟩
      have hd2 : Below w.heap.size w w2 := hd.trans (hn8.mono hd.size)
      refine AwC.back ?_
      refine AwC.only (by assumption) (i := 6) (by kernel_rfl) rfl ?_
      refine Lw.callF rfl rfl (end_c L A es.length S D es w2 ((h0.bs hB).bs hd2) (Nat.le_refl _)) ?_
      rintro _ w2 ⟨rfl, rfl⟩
      rw [← hE]
      refine AwC.back ?_
      refine AwC.done (by assumption) (by kernel_rfl) ?_
      exact Pw.thenN (Pw.seg (w1.heap.size) ⟨rfl, rfl, rfl, rfl, rfl, trivial⟩ (⟨hd2, hd.size, b8'⟩))
  have x3b0 := own_block o_3
  rintro A_8 w1 ⟨hd1, zA8, b_8⟩
  refine Aw.only (i := 8) (by kernel_rfl) rfl ?_
  refine Lw.unit (Xu.stB (u := .int .i64 (E : Int)) (sz_3 _) rfl rfl rfl b_8 Nat.zero_lt_one) ?_
  rintro w2 ⟨b_8, hg, hz2⟩
  have hd2 : Below w.heap.size w w2 := hd1.grown hg hd1.size (by rintro _ ⟨⟩; exact zA8)
  have z2 := hd2.size
  have o_3 := own_bs o_3 hd2
  have b_2 := b_2.bs hd2
  have b_3 := b_3.bs hd2
  have hB := hB.trans (hd2.mono zB)
  have x3b := own_block o_3
  obtain ⟨n, hn⟩ : ∃ n, n = nSec b := ⟨_, rfl⟩
  have hn' : n = (b.length + 59) / 60 := hn
  rw [← hn]
  clear hd1 hd2 hg hV b_L s_u
  have hV := h.bs hB
  have b_L := hV.box
  have s_u : SlT encN w2 u es := own_sl hV.oe
  have zB2 := below_size hB
  have s_3 := own_slT o_3
  refine Aw.back ?_
  refine Aw.done (by kernel_rfl) (Pg.low ?_)
  refine Pg.thenN (Cg.out ?_)
  refine Cg.seq ?_
  refine Cg.region (by kernel_rfl) ?_
  refine Lw.val (Ex.move rfl) rfl ?_
  refine Lw.val (Ex.lenS st_53 rfl (by assumption)) rfl ?_
  refine Lw.val (Ex.addI rfl rfl (by omega)) rfl ?_
  refine Lw.val (Ex.subI rfl rfl (by omega)) rfl ?_
  refine Lw.val (Ex.as (Ex.quoI rfl rfl (by omega) (by omega)) (congrArg (Value.int .i64) (show ((b.length : Int) + 60 - 1) / 60 = (n : Int) by omega))) rfl ?_
  refine Lw.val (Ex.assign rfl) rfl ?_
  refine Lw.nil (Pg.low ?_)
  refine Pg.thenN (Cg.out ?_)
  refine Cg.seq ?_
  refine Cg.seq ?_
  refine Cg.quiet mixed (by kernel_rfl) (by kernel_rfl) ?_
  refine Qw.val (fun w1 hq => Ex.ldB (ag_3 _) rfl (Blk.bs (by assumption) hq) rfl) rfl ?_
  refine Qw.val (fun w1 hq => Ex.move rfl) rfl ?_
  refine Qw.val (fun w1 hq => Ex.addI rfl rfl (by omega)) rfl ?_
  refine Qw.val (fun w1 hq => Ex.ldB (ag_29 _) rfl (Blk.bs (by assumption) hq) rfl) rfl ?_
  refine Qw.val (fun w1 hq => Ex.nilCheck rfl) rfl ?_
  refine Qw.val (fun w1 hq => Ex.fieldAddr (q := 0) Try.underlying72 rfl (sz_25 _) rfl) rfl ?_
  refine Qw.val (fun w1 hq => Ex.ldB (ag_25 _) rfl (Blk.bs (by assumption) hq) rfl) rfl ?_
  refine Qw.callF rfl rfl (fun w1 hq => (dlen_b A T D w1 (hV.d.bs hq)).q hq) ?_
  refine Qw.val (fun w1 hq => Ex.gtr rfl rfl) rfl ?_
  refine Qw.nil (fun w1 hq => (Pg.low ?_))
  refine Pg.thenN (Cg.out ?_)
  have hB := hB.trans (hq.mono zB2)
  have b_2 := b_2.bs hq
  have b_3 := b_3.bs hq
  have b_8 := b_8.bs hq
  have o_3 := own_bs o_3 hq
  have zq := hq.size
  clear s_3 hq hV b_L s_u
  refine Cg.cond rfl ?_ ?_
  · intro g
    have g1 := of_decide_eq_true g
    refine Cg.seq ?_
    refine Cg.region (by kernel_rfl) ?_
    refine Lw.val (Ex.assign rfl) rfl ?_
    refine Lw.nil (Pg.low ?_)
    refine Pg.thenN (Cg.out ?_)
    refine Cg.ret ?_
    refine Pg.thenR ?_
    refine Pg.close0 ?_
    refine Pw.ret1 rfl rfl ?_
    exact .inr (.inl ⟨hk, gi, by omega, rfl, hB⟩)
  intro g
  have g1 : E + n ≤ D.seen.length := by have := of_decide_eq_false g; omega
  obtain ⟨gx, cx3, -, ex, -, -⟩ := own_blk o_3 (by omega)
  have y81 := blk_lt b_8
  have s_3 := own_slT o_3
  refine Cg.skip ?_
  refine Pg.thenN (Cg.out ?_)
  refine Cg.seq ?_
  refine Cg.region (by kernel_rfl) ?_
  refine Lw.val (Ex.move rfl) rfl ?_
  refine Lw.val (Ex.move rfl) rfl ?_
  refine Lw.val (Ex.mulI rfl rfl (by omega)) rfl ?_
  refine Lw.val (Ex.move rfl) rfl ?_
  refine Lw.val (Ex.lenS st_53 rfl (by assumption)) rfl ?_
  refine Lw.val (Ex.as (Ex.subI rfl rfl (by omega)) (congrArg (Value.int .i64) (show (n : Int) * 60 - (b.length : Int) = ((60 * n - b.length : Nat) : Int) by omega))) rfl ?_
  refine Lw.valW (Xw.append0 (base := B2) (m := 60 * n - b.length) st_53 it_5 rfl un_3 rfl rfl o_3 ex (by omega) (by omega) (by omega)) rfl ?_
  rintro x4 w2 ⟨o_4, hg4, hc4⟩
  obtain ⟨P, hP⟩ : ∃ P, P = padT b := ⟨_, rfl⟩
  have lP : P.length = 60 * n := by rw [hP, padT_len, ← hn]
  have eP : b.map b8 ++ List.replicate (60 * n - b.length) (Value.int .u8 0) = P.map b8 := by
    rw [hP, padT, List.map_append, List.map_replicate, ← hn]
    rfl
  rw [eP, show b.length + (60 * n - b.length) = P.length by omega] at o_4
  rw [← hP]
  have gxb := x3b0 gx ex
  rw [ex] at hg4
  have hB := hB.grown hg4 (by omega) (by rintro _ ⟨⟩; omega)
  have b_2 := b_2.by hg4 (by intro e; cases e; omega)
  have b_8 := b_8.by hg4 (by intro e; cases e; omega)
  have z4 := hg4.size
  have s_4 := own_slT o_4
  refine Lw.val (Ex.assign rfl) rfl ?_
  refine Lw.nil (Pg.low ?_)
  refine Pg.thenN (Cg.out ?_)
  refine Cg.seq ?_
  refine Cg.seq ?_
  refine Cg.region (by kernel_rfl) ?_
  refine Lw.val (Ex.move rfl) rfl ?_
  refine Lw.callF rfl rfl (chunk_c x4 w2 s_4.one) ?_
  rintro _ w3 ⟨hn3, p, q, rfl, zp, zpq, b_p, b_q⟩
  have hB := hB.trans (hn3.mono (by omega))
  have b_2 := b_2.bs hn3
  have b_8 := b_8.bs hn3
  have s_4 := s_4.bs hn3
  have z3 := hn3.size
  have hV := h.bs hB
  obtain ⟨B3, hB3⟩ : ∃ B3, B3 = w3.heap.size := ⟨_, rfl⟩
  have yq := blk_lt b_q
  have zS : ∀ i, S i → i < W.heap.size := h.lt
  have a2 : W.heap.size ≤ A_2 ∧ A_2 < B3 := by have := blk_lt b_2; omega
  have a8 : W.heap.size ≤ A_8 ∧ A_8 < B3 ∧ A_8 < p ∧ A_8 < q := by have := blk_lt b_8; omega
  have a4 : ∀ i, x4.ownBlock = some i → W.heap.size ≤ i ∧ i < B3 ∧ i ≠ A_8 := fun i e => by
    have h1 := own_block o_4 i e
    rcases hc4 with h2 | h2
    · rw [h2, ex] at e; cases e; omega
    · have := h2 i e; omega
  have hWB3 : W.heap.size ≤ B3 := by have := below_size hB; omega
  have ltT : ∀ i, T i → i < W.heap.size := fun i e => h.lt i (h.sT i e)
  refine Lw.nil (Pg.low ?_)
  refine Pg.thenN (Cg.out ?_)
  refine Cg.block ?_
  refine Cg.range rfl ((chunk_sq p q n x4 w3 b_p b_q (by have := s_4.shp; rwa [lP] at this) (by omega))) (fun i e => by have e : i = p ∨ i = q := e; omega) (fun _ => rfl) (by kernel_rfl) (fun (pre : List (Value)) w' => ∃ T' ws, DiskAt w' T' A ⟨D.sure, wrs D.seen E P pre.length, ws⟩ ∧ ws.length ≤ pre.length ∧ (∀ i, T' i → T i ∨ B3 ≤ i) ∧ Blk w' A_2 29 [.pointer (some ⟨L, 0, none⟩)] ∧ Blk w' A_8 3 [.int .i64 ((E + pre.length : Nat) : Int)] ∧ Blk w' L logT [.pointer (some ⟨A, 0, none⟩), u] ∧ w'.ownsRow 0 3 1 u es.length (es.map encN) ∧ SlT b8 w' x4 P ∧ Chg S W w' ∧ B3 ≤ w'.heap.size) (by rintro _ ⟨⟩) ?_ ?_ ?_ ?_ ?_
  · exact ⟨T, [], by have := hV.d; rwa [show D = ⟨D.sure, D.seen, []⟩ by rw [← hw]] at this, Nat.zero_le _, fun i e => .inl e, b_2, b_8, hV.box, hV.oe, s_4, Chg.of_below hB, by omega⟩
  · rintro pre A1 A2 ⟨T', ws, i1, i2, i3, i4, i5, i6, i7, i8, i9, i10⟩ hc
    exact ⟨T', ws, i1.nc hc, i2, i3, i4.nc hc, i5.nc hc, i6.nc hc, own_nc i7 hc, i8.nc hc, i9.nc hc (by omega), by have := hc.size; omega⟩
  · rintro pre A1 A2 ⟨T', ws, i1, i2, i3, i4, i5, i6, i7, i8, i9, i10⟩ ⟨r, hc, hr⟩
    have hc : Below A1.heap.size A1 A2 := ⟨hc.os, hc.tape, hc.output, hc.size, fun k hk => hc.block k hk (by rcases hr with e | e <;> rw [e] <;> simp)⟩
    exact ⟨T', ws, i1.bs hc, i2, i3, i4.bs hc, i5.bs hc, i6.bs hc, own_bs i7 hc, i8.bs hc, i9.below hc, by have := hc.size; omega⟩
  · rintro l pre x w3 hl ⟨T', ws, i1, i2, i3, i4, i5, i6, i7, i8, i9, i10⟩ hlen hrec
    obtain ⟨ex', hk'⟩ := parts_get hlen
    obtain ⟨k, hk0⟩ : ∃ k, k = pre.length := ⟨_, rfl⟩
    rw [← hk0] at i1 i2 i5 ex' hk'
    refine Cg.region (by kernel_rfl) ?_
    refine Lw.val (Ex.assign rfl) rfl ?_
    refine Lw.nil (Pg.low ?_)
    refine Pg.asg (KeepsFrom.refl _ _) (Kp.refl) ?_
    rintro w hn hz hrec
    have i1 := i1.nc hn
    have i4 := i4.nc hn
    have i5 := i5.nc hn
    have i6 := i6.nc hn
    have i7 := own_nc i7 hn
    have i8 := i8.nc hn
    have i9 := i9.nc hn (by omega)
    have z0 := hn.size
    have i8k : SlT b8 w x (prt P k) := by
      have := Sl.cutp i8 (i := 60 * k) (j := 60 * k + 60) (by omega) (by omega)
      rw [ex']
      unfold SlT prt
      rw [List.length_take, List.length_drop, show min 60 (P.length - 60 * k) = 60 by omega, List.map_take, List.map_drop]
      simpa using this
    have lprt : (prt P k).length = 60 := by rw [prt, List.length_take, List.length_drop]; omega
    have KF : KeepsFrom B3 w w := KeepsFrom.refl _ _
    have KP : Kp (fun b => b = p ∨ b = q) w w := Kp.refl
    rw [hB3] at KF
    refine Cg.block ?_
    refine Cg.seq ?_
    refine Cg.region (by kernel_rfl) ?_
    refine Lw.val (Ex.ldB (ag_3 _) rfl (by assumption) rfl) rfl ?_
    refine Lw.val (Ex.conv32 us_3 un_32 rfl) rfl ?_
    refine Lw.callF rfl rfl (putFour_c (.slice none 0 0) [] (BitVec.ofInt 32 ((E + k : Nat) : Int)) w (Sl.nil _ _) (by decide)) ?_
    rintro y1 w4 ⟨_, _, -, o_y, hn4⟩
    rw [List.nil_append] at o_y
    refine Lw.callF rfl rfl (of_c y1 _ w4 (own_slT o_y)) ?_
    rintro _ w5 ⟨rfl, hn5⟩
    have i8k5 := (i8k.bs hn4).bs hn5
    refine Lw.val (Ex.move rfl) rfl ?_
    refine Lw.callF rfl rfl (on_c _ x (prt P k) w5 i8k5) ?_
    rintro _ w6 ⟨rfl, hn6⟩
    have hn46 : Below w.heap.size w w6 := by have z4 := hn4.size; have z5 := hn5.size; exact (hn4.trans (hn5.mono (by omega))).trans (hn6.mono (by omega))
    have i1 := i1.bs hn46
    have i4 := i4.bs hn46
    have i5 := i5.bs hn46
    have i6 := i6.bs hn46
    have i7 := own_bs i7 hn46
    have i8 := i8.bs hn46
    have i8k := i8k.bs hn46
    have i9 := i9.below hn46
    have KF := KF.bs hn46
    have KP := KP.bs hn46
    have z6 := hn46.size
    obtain ⟨sm, hsm⟩ : ∃ sm, sm = Crc.on (Crc.of (Crc.four (BitVec.ofInt 32 ((E + k : Nat) : Int)))) (prt P k) := ⟨_, rfl⟩
    rw [← hsm]
    refine Lw.val (Ex.assign rfl) rfl ?_
    refine Lw.nil (Pg.low ?_)
    refine Pg.thenN (Cg.out ?_)
    refine Cg.seq ?_
    refine Cg.any mixed (by kernel_rfl) (fun w7 hd _ => ?_)
    refine Aw.seg (St := Value) (g := 1) [0, 1, 2, 3, 4, 5, 6, 7, 8] 9 (fun s => [(8, .pointer (some ⟨A_8, 0, none⟩)), (83, .pointer (some ⟨A, 0, none⟩)), (84, .int .i64 ((E + k : Nat) : Int)), (88, s)]) (fun s w' => Below w6.heap.size w6 w' ∧ SlT b8 w' s (secOf (E + k) (prt P k))) (by kernel_rfl) rfl ?_ ?_
    · refine Aw.cls (fun w' => Below w6.heap.size w6 w') (fun hC => ?_) (hd)
      refine AwC.take (i := 0) (NoP.thn (NoP.lift (NoP.thn (NoP.blk NoP.rnd)))) rfl (by kernel_rfl) (by kernel_rfl) (by kernel_rfl) (fun w1 hc => Ex.ldB (ag_29 _) rfl (Blk.bs (by assumption) hc) rfl) rfl ?_
      refine AwC.take (i := 1) (NoP.thn (NoP.lift (NoP.thn (NoP.blk NoP.rnd)))) rfl (by kernel_rfl) (by kernel_rfl) (by kernel_rfl) (fun w1 hc => Ex.nilCheck rfl) rfl ?_
      refine AwC.take (i := 2) (NoP.thn (NoP.lift (NoP.thn (NoP.blk NoP.rnd)))) rfl (by kernel_rfl) (by kernel_rfl) (by kernel_rfl) (fun w1 hc => Ex.fieldAddr (q := 0) Try.underlying72 rfl (sz_25 _) rfl) rfl ?_
      refine AwC.take (i := 3) (NoP.thn (NoP.lift (NoP.thn (NoP.blk NoP.rnd)))) rfl (by kernel_rfl) (by kernel_rfl) (by kernel_rfl) (fun w1 hc => Ex.ldB (ag_25 _) rfl (Blk.bs (by assumption) hc) rfl) rfl ?_
      refine AwC.take (i := 4) (NoP.thn (NoP.lift (NoP.thn (NoP.blk NoP.rnd)))) rfl (by kernel_rfl) (by kernel_rfl) (by kernel_rfl) (fun w1 hc => Ex.ldB (ag_3 _) rfl (Blk.bs (by assumption) hc) rfl) rfl ?_
      refine AwC.take (i := 5) (NoP.thn (NoP.lift (NoP.thn (NoP.blk NoP.rnd)))) rfl (by kernel_rfl) (by kernel_rfl) (by kernel_rfl) (fun w1 hc => Ex.move rfl) rfl ?_
      refine AwC.take (i := 7) (NoP.thn (NoP.lift (NoP.thn (NoP.blk NoP.rnd)))) rfl (by kernel_rfl) (by kernel_rfl) (by kernel_rfl) (fun w1 hc => Ex.move rfl) rfl ?_
      refine AwC.only (by assumption) (i := 6) (by kernel_rfl) rfl ?_
      refine Lw.callF rfl rfl (bclone_c x (prt P k) w7 (i8k.bs hd) (by omega)) ?_
      rintro y w8 ⟨o_c, hn8⟩
      have hd8 : Below w6.heap.size w6 w8 := hd.trans (hn8.mono hd.size)
      refine AwC.back ?_
      refine AwC.only (by assumption) (i := 8) (by kernel_rfl) rfl ?_
      refine Lw.callF rfl rfl (putFour_c y (prt P k) sm w8 (own_slT o_c) (by omega)) ?_
      rintro s w9 ⟨_, _, -, o_s, hn9⟩
      have hd9 : Below w6.heap.size w6 w9 := hd8.trans (hn9.mono hd8.size)
      refine AwC.back ?_
      refine AwC.done (by assumption) (by kernel_rfl) ?_
      exact Pw.thenN (Pw.seg (s) ⟨rfl, rfl, rfl, rfl, trivial⟩ (⟨hd9, by have := own_slT o_s; rwa [hsm] at this⟩))
    rintro s w8 ⟨hd, s_s⟩
    have i1 := i1.bs hd
    have i4 := i4.bs hd
    have i5 := i5.bs hd
    have i6 := i6.bs hd
    have i7 := own_bs i7 hd
    have i8 := i8.bs hd
    have i9 := i9.below hd
    have KF := KF.bs hd
    have KP := KP.bs hd
    have z8 := hd.size
    have ls := secOf_len (n := E + k) lprt
    obtain ⟨R, hR, hRT, hRc⟩ := i1.tight
    refine Aw.only (i := 9) (by kernel_rfl) rfl ?_
    refine Lw.callF rfl rfl (write_c A R _ (E + k) s _ w8 hR s_s (by rw [wrs_len]; omega) (by rw [ls]; omega) (show ws.length ≤ 1000000 by omega)) ?_
    rintro _ w9 ⟨rfl, hC9, hD9⟩
    rw [pad_64 ls] at hD9
    have nR : ∀ i, W.heap.size ≤ i → i < B3 → ¬ R i := fun i h1 h2 h3 => (i3 i (hRT i h3)).elim (fun e => by have := ltT i e; omega) (fun e => by omega)
    have nL : ∀ i, S i → ¬ T i → ¬ R i := fun i h1 h2 h3 => (i3 i (hRT i h3)).elim h2 (fun e => by have := zS i h1; omega)
    have KF := kf_chg KF hC9 hRc
    have KP := kp_chg KP hC9 (fun i e => nR i (by have e : i = p ∨ i = q := e; omega) (by have e : i = p ∨ i = q := e; omega))
    have i4 := i4.chg hC9 (nR _ (by omega) (by omega))
    have i5 := i5.chg hC9 (nR _ (by omega) (by omega))
    have i6 := i6.chg hC9 (nL L h.sL h.tL)
    have i7 := own_chg i7 hC9 (fun i e => nL i (h.su i e) (h.tu i e))
    have i8 : SlT b8 w9 x4 P := Sl.chg i8 hC9 (fun i e _ => nR i (a4 i e).1 (a4 i e).2.1)
    have i9 := i9.into hC9 (fun i e => (i3 i (hRT i e)).elim (fun e => .inl (h.sT i e)) (fun e => .inr (by omega)))
    have z9 := hC9.size
    refine Aw.back ?_
    refine Aw.done (by kernel_rfl) (Pg.low ?_)
    refine Pg.thenN (Cg.out ?_)
    refine Cg.region (by kernel_rfl) ?_
    refine Lw.val (Ex.ldB (ag_3 _) rfl (by assumption) rfl) rfl ?_
    refine Lw.val (Ex.addI rfl rfl (by omega)) rfl ?_
    refine Lw.unit (Xu.stB (u := .int .i64 ((E + (k + 1) : Nat) : Int)) (sz_3 _) rfl rfl rfl i5 Nat.zero_lt_one) ?_
    rintro w10 ⟨i5', hg10, hz10⟩
    have C10 : Chg (fun i => i = A_8) w9 w10 := (Chg.refl _ _).grown hg10 (fun i e => .inl (Option.some.inj e).symm)
    have el : (pre ++ [x]).length = k + 1 := by rw [List.length_append, ← hk0]; rfl
    have nG : ∀ i, gro R w8 w9 i → T i ∨ B3 ≤ i := fun i e => e.elim (fun e => i3 i (hRT i e)) (fun e => .inr (by omega))
    refine Lw.nil (Pg.low ?_)
    refine Pg.blkN ?_
    exact Pg.rnd (KF.blk i5 hg10) (KP.grown hg10 (fun i e1 e2 => by cases e1; have e2 : A_8 = p ∨ A_8 = q := e2; omega)) (⟨gro R w8 w9, _, by rw [el]; exact hD9.chg C10 (fun i e e2 => by subst e2; exact (nG _ e).elim (fun e => by have := ltT _ e; omega) (fun e => by omega)), by rw [el, List.length_append]; simp only [List.length_singleton]; omega, nG, i4.by hg10 (by intro e; cases e; omega), by rw [el]; exact i5', i6.by hg10 (by intro e; cases e; have := zS _ h.sL; omega), own_heap i7 (fun i e => hg10.block i (own_block i7 i e).2 (by intro e2; cases e2; have := zS _ (h.su _ e); omega)), Sl.by i8 hg10 (.inr (fun e => (a4 _ e).2.2 rfl)), i9.grown hg10 (fun i e => by cases e; exact .inr (by omega)), by omega⟩)
  rintro d w3 hd0 ⟨T', ws, i1, i2, i3, i4, i5, i6, i7, i8, i9, i10⟩ hD
  have lpn : (parts x4 n).length = n := by simp [parts]
  rw [lpn] at i1 i2 i5
  obtain ⟨R, hR, hRT, hRc⟩ := i1.tight
  have nR : ∀ i, W.heap.size ≤ i → i < B3 → ¬ R i := fun i h1 h2 h3 => (i3 i (hRT i h3)).elim (fun e => by have := ltT i e; omega) (fun e => by omega)
  have nL : ∀ i, S i → ¬ T i → ¬ R i := fun i h1 h2 h3 => (i3 i (hRT i h3)).elim h2 (fun e => by have := zS i h1; omega)
  refine Pg.blkN ?_
  refine Pg.thenN (Cg.out ?_)
  refine Cg.seq ?_
  refine Cg.region (by kernel_rfl) ?_
  refine Lw.val (Ex.ldB (ag_29 _) rfl (by assumption) rfl) rfl ?_
  refine Lw.val (Ex.nilCheck rfl) rfl ?_
  refine Lw.val (Ex.fieldAddr (q := 0) Try.underlying72 rfl (sz_25 _) rfl) rfl ?_
  refine Lw.val (Ex.ldB (ag_25 _) rfl (by assumption) rfl) rfl ?_
  refine Lw.callF rfl rfl (sync_c A R _ w3 hR) ?_
  rintro _ w4 ⟨rfl, hC4, hD4⟩
  have hDd := def_chg hD hC4 hRc
  have i4 := i4.chg hC4 (nR _ (by omega) (by omega))
  have i5 := i5.chg hC4 (nR _ (by omega) (by omega))
  have i6 := i6.chg hC4 (nL L h.sL h.tL)
  have i7 := own_chg i7 hC4 (fun i e => nL i (h.su i e) (h.tu i e))
  have i9 := i9.into hC4 (fun i e => (i3 i (hRT i e)).elim (fun e => .inl (h.sT i e)) (fun e => .inr (by omega)))
  have z4' := hC4.size
  have nR4 : ∀ i, gro R w3 w4 i → T i ∨ B3 ≤ i := fun i e => e.elim (fun e => i3 i (hRT i e)) (fun e => .inr (by omega))
  clear hD i8 hC4
  refine Lw.nil (Pg.low ?_)
  refine Pg.thenN (Cg.out ?_)
  refine Cg.seq ?_
  refine Cg.any mixed (by kernel_rfl) (fun w5 hd _ => ?_)
  refine Aw.seg (St := Value) (g := 1) [0, 1, 2, 3, 4, 5, 6, 7, 8, 9] 10 (fun s => [(2, .pointer (some ⟨A_2, 0, none⟩)), (104, s), (106, .pointer (some ⟨L, 1, none⟩))]) (fun s w' => w'.heap[d]? = some (.deferred (some [])) ∧ Blk w' A_2 29 [.pointer (some ⟨L, 0, none⟩)] ∧ Blk w' L logT [.pointer (some ⟨A, 0, none⟩), u] ∧ w'.ownsRow 0 3 1 s (es ++ [E + n]).length ((es ++ [E + n]).map encN) ∧ DiskAt w' (gro R w3 w4) A ⟨wrs D.seen E P n, wrs D.seen E P n, []⟩ ∧ Chg S W w' ∧ (∀ i, s.ownBlock = some i → u.ownBlock = some i ∨ w4.heap.size ≤ i) ∧ w4.heap.size ≤ w'.heap.size) (by kernel_rfl) rfl ?_ ?_
  · have hC : Blk w5 A_2 29 [.pointer (some ⟨L, 0, none⟩)] ∧ Blk w5 L logT [.pointer (some ⟨A, 0, none⟩), u] ∧ Blk w5 A_8 3 [.int .i64 ((E + n : Nat) : Int)] := ⟨i4.bs hd, i6.bs hd, i5.bs hd⟩
    have i7 := own_bs i7 hd
    have hDd := def_bs hDd hd
    have hD5 := hD4.bs hd
    have i9 := i9.below hd
    have zd := hd.size
    refine Aw.cls (fun w' => Blk w' A_2 29 [.pointer (some ⟨L, 0, none⟩)] ∧ Blk w' L logT [.pointer (some ⟨A, 0, none⟩), u] ∧ Blk w' A_8 3 [.int .i64 ((E + n : Nat) : Int)]) (fun hC => ?_) (hC)
    refine AwC.take (i := 0) (NoP.thn (NoP.lift (NoP.thn NoP.retG))) rfl (by kernel_rfl) (by kernel_rfl) (by kernel_rfl) (fun w1 hc => Ex.ldB (ag_29 _) rfl hc.1 rfl) rfl ?_
    refine AwC.take (i := 1) (NoP.thn (NoP.lift (NoP.thn NoP.retG))) rfl (by kernel_rfl) (by kernel_rfl) (by kernel_rfl) (fun w1 hc => Ex.ldB (ag_29 _) rfl hc.1 rfl) rfl ?_
    refine AwC.take (i := 2) (NoP.thn (NoP.lift (NoP.thn NoP.retG))) rfl (by kernel_rfl) (by kernel_rfl) (by kernel_rfl) (fun w1 hc => Ex.nilCheck rfl) rfl ?_
    refine AwC.take (i := 3) (NoP.thn (NoP.lift (NoP.thn NoP.retG))) rfl (by kernel_rfl) (by kernel_rfl) (by kernel_rfl) (fun w1 hc => Ex.fieldAddr (q := 0) Try.underlying72 rfl (sz_33 _) rfl) rfl ?_
    refine AwC.take (i := 4) (NoP.thn (NoP.lift (NoP.thn NoP.retG))) rfl (by kernel_rfl) (by kernel_rfl) (by kernel_rfl) (fun w1 hc => Ex.ldB (ag_33 _) rfl hc.2.1 rfl) rfl ?_
    refine AwC.take (i := 5) (NoP.thn (NoP.lift (NoP.thn NoP.retG))) rfl (by kernel_rfl) (by kernel_rfl) (by kernel_rfl) (fun w1 hc => Ex.ldB (ag_3 _) rfl hc.2.2 rfl) rfl ?_
    refine AwC.only (by assumption) (i := 6) (by kernel_rfl) rfl ?_
    refine Lw.valW (Xw.lit (vs := [E + n].map encN) st_33 it_3 rfl rfl rfl rfl rfl) rfl ?_
    rintro y w6 ⟨o_y, -, hn6, -⟩
    have hC : Blk w6 A_2 29 [.pointer (some ⟨L, 0, none⟩)] ∧ Blk w6 L logT [.pointer (some ⟨A, 0, none⟩), u] ∧ Blk w6 A_8 3 [.int .i64 ((E + n : Nat) : Int)] := ⟨hC.1.bs hn6, hC.2.1.bs hn6, hC.2.2.bs hn6⟩
    have i7 := own_bs i7 hn6
    have hDd := def_bs hDd hn6
    have hD5 := hD5.bs hn6
    have i9 := i9.below hn6
    have z6 := hn6.size
    have eu : ∀ i, u.ownBlock = some i → i ≠ A_2 ∧ i ≠ L ∧ i ≠ A_8 ∧ ¬ gro R w3 w4 i := fun i e => by
      have h1 := h.su i e
      have h2 := zS i h1
      exact ⟨by omega, fun e2 => h.uL (by rw [e, e2]), by omega, fun e2 => (nR4 i e2).elim (h.tu i e) (fun e => by omega)⟩
    refine AwC.back ?_
    refine AwC.only (by assumption) (i := 7) (by kernel_rfl) rfl ?_
    refine Lw.valW (Xw.append3 (base := 0) st_33 it_3 rfl (by decide) rfl rfl i7 (own_sl o_y) (one_map (fun _ => rfl) _) (by omega) (by omega) (Nat.zero_le _)) rfl ?_
    rintro s w7 ⟨o_s, hg7, hcase⟩
    rw [← List.map_append] at o_s
    have hC : Blk w7 A_2 29 [.pointer (some ⟨L, 0, none⟩)] ∧ Blk w7 L logT [.pointer (some ⟨A, 0, none⟩), u] ∧ Blk w7 A_8 3 [.int .i64 ((E + n : Nat) : Int)] := ⟨hC.1.by hg7 (fun e => (eu _ e.symm).1 rfl), hC.2.1.by hg7 (fun e => (eu _ e.symm).2.1 rfl), hC.2.2.by hg7 (fun e => (eu _ e.symm).2.2.1 rfl)⟩
    have hDd := def_own hDd i7 hg7
    have C7 : Chg (fun i => u.ownBlock = some i) w6 w7 := (Chg.refl _ _).grown hg7 (fun i e => .inl e)
    have hD7 := hD5.chg C7 (fun i e1 e2 => (eu i e2).2.2.2 e1)
    have i9 := i9.grown hg7 (fun i e => .inl (h.su i e))
    have z7 := hg7.size
    have hub : ∀ i, s.ownBlock = some i → u.ownBlock = some i ∨ w4.heap.size ≤ i := fun i e => by
      rcases hcase with h | ⟨h, _⟩
      · rw [h] at e; exact .inl e
      · exact .inr (by have := h i e; omega)
    refine AwC.back ?_
    refine AwC.take (i := 8) (NoP.thn (NoP.lift (NoP.thn NoP.retG))) rfl (by kernel_rfl) (by kernel_rfl) (by kernel_rfl) (fun w1 hc => Ex.nilCheck rfl) rfl ?_
    refine AwC.take (i := 9) (NoP.thn (NoP.lift (NoP.thn NoP.retG))) rfl (by kernel_rfl) (by kernel_rfl) (by kernel_rfl) (fun w1 hc => Ex.fieldAddr (q := 0) Try.underlying72 rfl (sz_33 _) rfl) rfl ?_
    refine AwC.done (by assumption) (by kernel_rfl) ?_
    exact Pw.thenN (Pw.seg (s) ⟨rfl, rfl, rfl, trivial⟩ (⟨hDd, hC.1, hC.2.1, by rw [List.length_append]; exact o_s, hD7, i9, hub, by omega⟩))
  rintro s w8 ⟨hDd, i4, i6, o_s, hD8, i9, hub, z8⟩
  refine Aw.only (i := 10) (by kernel_rfl) rfl ?_
  refine Lw.unit (Xu.stB (u := s) (sz_33 _) rfl rfl (own_sl o_s).one' i6 Nat.one_lt_two) ?_
  rintro w9 ⟨i6', hg9, hz9⟩
  have sb := own_block o_s
  have zL := zS L h.sL
  have sL : ∀ i, s.ownBlock = some i → i ≠ L ∧ ¬ gro R w3 w4 i := fun i e => (hub i e).elim (fun e => ⟨fun e2 => h.uL (by rw [e, e2]), fun e2 => (nR4 i e2).elim (h.tu i e) (fun e3 => by have := zS i (h.su i e); omega)⟩) (fun e => ⟨by omega, fun e2 => e2.elim (fun e3 => by have := hR.lt i e3; omega) (fun e3 => by omega)⟩)
  have nL4 : ¬ gro R w3 w4 L := fun e => (nR4 L e).elim h.tL (fun e => by omega)
  have C9 : Chg (fun i => i = L) w8 w9 := (Chg.refl _ _).grown hg9 (fun i e => .inl (Option.some.inj e).symm)
  have hDd := def_blk hDd i6 hg9
  have i4 := i4.by hg9 (by intro e; cases e; omega)
  have o_s := own_chg o_s C9 (fun i e => (sL i e).1)
  have hD9 := hD8.chg C9 (fun i e e2 => nL4 (e2 ▸ e))
  have i9 := i9.into C9 (fun i e => .inl (e ▸ h.sL))
  obtain ⟨Q, hQ, hQT, hQc⟩ := hD9.tight
  have hLog : LogAt w9 (fun i => Q i ∨ i = L ∨ s.ownBlock = some i) L A ⟨wrs D.seen E P n, wrs D.seen E P n, []⟩ (es ++ [E + n]) :=
    ⟨s, Q, i6', o_s, hQ, fun i e => .inl e, .inr (.inl rfl), fun i e => .inr (.inr e), fun e => nL4 (hQT _ e), fun i e e2 => (sL i e).2 (hQT _ e2), fun e => (sL L e).1 rfl, fun i e => e.elim (fun e => hQ.lt i e) (fun e => e.elim (fun e => by rw [e]; exact blk_lt i6') (fun e => (own_block o_s i e).2))⟩
  have hLc : ∀ i, (Q i ∨ i = L ∨ s.ownBlock = some i) → ∃ o : Obj, w9.heap[i]? = some o ∧ o.isCells = true := fun i e => e.elim (hQc i) (fun e => e.elim (fun e => by rw [e]; exact ⟨_, i6', rfl⟩) (own_cell o_s i))
  have el := endN_last es (E + n)
  refine Aw.back ?_
  refine Aw.done (by kernel_rfl) (Pg.low ?_)
  refine Pg.thenN (Cg.out ?_)
  refine Cg.seq ?_
  refine Cg.region (by kernel_rfl) ?_
  refine Lw.val (Ex.ldB (ag_29 _) rfl (by assumption) rfl) rfl ?_
  refine Lw.callF rfl rfl (tells_c L A _ _ _ w9 hLog rfl (by rw [el]; omega)) ?_
  rintro _ w10 ⟨rfl, hC10, hL10⟩
  rw [el, List.length_append, List.length_singleton] at hL10
  have hDd := def_chg hDd hC10 hLc
  have zz : W.heap.size ≤ w3.heap.size ∧ W.heap.size ≤ w4.heap.size ∧ W.heap.size ≤ w9.heap.size := ⟨by omega, by omega, by omega⟩
  have inS : ∀ i, (Q i ∨ i = L ∨ s.ownBlock = some i) → S i ∨ W.heap.size ≤ i := fun i e => e.elim (fun e => (nR4 i (hQT i e)).elim (fun e => .inl (h.sT i e)) (fun e => .inr (by omega))) (fun e => e.elim (fun e => .inl (e ▸ h.sL)) (fun e => (hub i e).elim (fun e => .inl (h.su i e)) (fun e => .inr (by omega))))
  have i10 := i9.into hC10 inS
  have z10 := hC10.size
  refine Lw.nil (Pg.low ?_)
  refine Pg.thenN (Cg.out ?_)
  refine Cg.seq ?_
  refine Cg.region (by kernel_rfl) ?_
  refine Lw.val (Ex.assign rfl) rfl ?_
  refine Lw.nil (Pg.low ?_)
  refine Pg.thenN (Cg.out ?_)
  refine Cg.ret ?_
  refine Pg.close (hDd) (fun w hn _ => ?_)
  have hL11 := hL10.nc hn
  have i11 := i10.nc hn (by omega)
  have z11 := hn.size
  refine Pw.ret1 rfl rfl ?_
  exact .inr (.inr ⟨hk, gi, g1, rfl, i11, _, rfl, hL11.wide (fun i e => e.elim (fun e => (inS i e).elim .inl (fun e2 => .inr ⟨e2, by have := hLog.lt i e; omega⟩)) (fun e => .inr (by omega))) (fun i e => e.elim (fun e => by have := zS i e; omega) (fun e => e.2))⟩)
end Go.Proofs.Ytiaojbbgjlpikaa
