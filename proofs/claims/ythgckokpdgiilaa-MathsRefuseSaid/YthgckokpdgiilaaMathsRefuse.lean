/- Unlike shapes don't go together; what may not be goes with nothing: for any two tensors, any number of bits; no condition. -/
import Derived.Test.YthgckokpdgiilaaMathsLaw
import Derived.Test.YthgckokpdgiilaaTensorsArg
import Derived.Test.YthgckokpdgiilaaRows
namespace Go.Proofs.Ythgckokpdgiilaa
open Go Go.Dd Go.RowKit Go.ChangeShapes Go.WideShapes Go.ChangeAt

theorem own : ownKnob Try.prog.godebug = none := by kernel_rfl
theorem laidOut : laidOutB Try.prog = true := by kernel_rfl

/-- The error that is wanted. -/
theorem want_two (s t : List Int) (l m : List (BitVec 32)) : e2 s l t m = (if tok s l && tok t m then (if s = t then 0 else 10) else 1) := by
  unfold e2
  by_cases h : s = t
  · subst h; rfl
  · have h' : ¬ t = s := fun e => h e.symm
    simp [h, h']
theorem len_no {α : Type} {c l : List α} {E : Int} (h0 : E ≠ 0 → c = []) (h1 : E = 0 → c = l) (h2 : E = 0 → 0 < l.length) : (decide ((c.length : Int) = 0) == !decide (E = 0)) = true := by
  by_cases h : E = 0
  · rw [h1 h, decide_eq_false (by have := h2 h; omega), decide_eq_true h]; rfl
  · rw [h0 h, decide_eq_false h]; rfl
theorem e1_eq (s : List Int) (l : List (BitVec 32)) : (decide (e1 s l = 0) == tok s l) = true := by
  unfold e1; cases tok s l <;> rfl
theorem eSh_eq (s : List Int) (l : List (BitVec 32)) (z : Int) : decide (eSh s l z = 0) = (tok s l && decide (0 ≤ z) && decide (z ≤ 31)) := by
  unfold eSh e1
  by_cases h1 : z < 0
  · rw [if_pos (.inl h1), show decide (0 ≤ z) = false from decide_eq_false (by omega)]; simp
  · by_cases h2 : 31 < z
    · rw [if_pos (.inr h2), show decide (z ≤ 31) = false from decide_eq_false (by omega)]; simp
    · rw [if_neg (by omega), show decide (0 ≤ z) = true from decide_eq_true (by omega), show decide (z ≤ 31) = true from decide_eq_true (by omega)]
      cases tok s l <;> rfl
theorem eSh_ok {s : List Int} {l : List (BitVec 32)} {z : Int} (h : eSh s l z = 0) : tok s l = true := by
  have := eSh_eq s l z
  rw [decide_eq_true h] at this
  revert this
  cases tok s l <;> simp
theorem z2_len {f : BitVec 32 → BitVec 32 → BitVec 32} {s : List Int} {l m : List (BitVec 32)} (h : tok s l = true) : 0 < (z2 f s l m).length := by
  simp only [tok, Bool.and_eq_true] at h
  have := of_decide_eq_true h.1
  simp [z2]; omega
theorem z1_len {f : BitVec 32 → BitVec 32} {s : List Int} {l : List (BitVec 32)} (h : tok s l = true) : 0 < (z1 f s l).length := by
  simp only [tok, Bool.and_eq_true] at h
  have := of_decide_eq_true h.1
  simp [z1]; omega
theorem s_len {s : List Int} {l : List (BitVec 32)} (h : tok s l = true) : 0 < s.length := by
  simp only [tok, Bool.and_eq_true] at h
  exact ((Shapes.ok_iff s).1 h.1).1.1
theorem e2_ok {s t : List Int} {l m : List (BitVec 32)} (h : e2 s l t m = 0) : tok s l = true := by
  unfold e2 at h
  split at h
  · rename_i h1; simp only [Bool.and_eq_true] at h1; exact h1.1
  · cases h
theorem e1_ok {s : List Int} {l : List (BitVec 32)} : e1 s l = 0 ↔ tok s l = true := by
  unfold e1
  cases tok s l <;> simp

theorem mathsRefuse_w (a b : T4) (z : Int) (w : World) (ha : a.at w) (hb : b.at w) (b1 : a.s.length ≤ 1125899906842624) (b2 : a.l.length ≤ 1125899906842624) (b3 : b.s.length ≤ 1125899906842624) (b4 : b.l.length ≤ 1125899906842624) :
    Fnc Try.prog 7 [a.v, b.v, .int .i64 z] w (fun r w' => r = .bool true ∧ Below w.heap.size w w') := by
  have hB := Below.refl w.heap.size w
  have tz : ∀ c : T4, c.s.length ≤ 1125899906842624 → c.l.length ≤ 1125899906842624 → 0 ≤ tsz c.s c.l ∧ tsz c.s c.l ≤ 4503599627370496 := fun c h1 h2 => by unfold tsz; split <;> omega
  refine Fnc.enter (n := 122) Try.func7 (by kernel_rfl) rfl rfl rfl ?_
  refine Cw.seq ?_
  refine Cw.region ?_
  refine Lw.valW (Xw.box (cs := [a.x, a.y]) rfl rfl) rfl ?_
  rintro _ w1 ⟨rfl, ba, hn, -⟩
  replace hB := hB.bs hn
  replace ha := ha.bs hn
  replace hb := hb.bs hn
  refine Lw.valW (Xw.box (cs := [b.x, b.y]) rfl rfl) rfl ?_
  rintro _ w2 ⟨rfl, bb, hn, -⟩
  replace hB := hB.bs hn
  replace ha := ha.bs hn
  replace hb := hb.bs hn
  replace ba := ba.bs hn
  clear hn
  refine Lw.val (Ex.assign rfl) rfl ?_
  refine Lw.nil ?_
  refine Pw.thenN (Cw.out ?_)
  refine Cw.seq ?_
  refine Cw.seq ?_
  refine Cw.tail 7 mixed (by kernel_rfl) ?_
  refine Qw.callF rfl rfl (fun w1 hq => (alive_c w1).q hq) ?_
  refine Qw.val (fun w1 hq => Ex.not rfl) rfl ?_
  refine Qw.val (fun w1 hq => Ex.move rfl) rfl ?_
  refine Qw.know 19 (v' := .bool false) rfl (congrArg Value.bool (rfl)) ?_
  refine Qw.take (dj := 19) rfl rfl ?_
  refine Qw.val (fun w1 hq => Ex.ldA (ag_25 _) (sz_25 _) rfl rfl (Blk.bs (by assumption) hq)) rfl ?_
  refine Qw.take (dj := 19) rfl rfl ?_
  refine Qw.callF rfl rfl (fun w1 hq => (tsize_c a w1 (ha.bs hq) b1 b2).q hq) ?_
  refine Qw.take (dj := 19) rfl rfl ?_
  refine Qw.val (fun w1 hq => Ex.ldA (ag_25 _) (sz_25 _) rfl rfl (Blk.bs (by assumption) hq)) rfl ?_
  refine Qw.take (dj := 19) rfl rfl ?_
  refine Qw.callF rfl rfl (fun w1 hq => (tsize_c b w1 (hb.bs hq) b3 b4).q hq) ?_
  refine Qw.done (fun w3 hq => ?_)
  refine Lw.take (dj := 19) rfl rfl ?_
  replace hB := hB.bs hq
  replace ha := ha.bs hq
  replace hb := hb.bs hq
  replace ba := ba.bs hq
  replace bb := bb.bs hq
  clear hq
  refine Lw.valW (Xw.lit (vs := [tsz a.s a.l, tsz b.s b.l].map (Value.int .i64)) st_22 it_3 rfl rfl rfl rfl rfl) rfl ?_
  rintro u w4 ⟨ho, -, hn, -⟩
  replace hB := hB.bs hn
  replace ha := ha.bs hn
  replace hb := hb.bs hn
  replace ba := ba.bs hn
  replace bb := bb.bs hn
  refine Lw.take (dj := 19) rfl rfl ?_
  refine Lw.callF rfl rfl (beyond_c u [tsz a.s a.l, tsz b.s b.l] w4 (own_slT ho) (by intro x hx; simp at hx; rcases hx with rfl | rfl; exact tz a b1 b2; exact tz b b3 b4)) ?_
  rintro _ w5 ⟨rfl, hn⟩
  replace hB := hB.bs hn
  replace ha := ha.bs hn
  replace hb := hb.bs hn
  replace ba := ba.bs hn
  replace bb := bb.bs hn
  refine Lw.val (Ex.pickF rfl rfl) rfl ?_
  refine Lw.nil ?_
  refine Pw.thenN (Cw.out ?_)
  refine Cw.cond rfl ?_ ?_
  · intro _
    refine Cw.seq ?_
    refine Cw.region ?_
    refine Lw.callF rfl rfl (alive_c w5) ?_
    rintro _ w6 ⟨rfl, hn⟩
    replace hB := hB.bs hn
    replace ha := ha.bs hn
    replace hb := hb.bs hn
    replace ba := ba.bs hn
    replace bb := bb.bs hn
    refine Lw.val (Ex.assign rfl) rfl ?_
    refine Lw.nil ?_
    refine Pw.thenN (Cw.out ?_)
    refine Cw.ret ?_
    refine Pw.thenR ?_
    refine Pw.ret1 rfl rfl ?_
    exact ⟨rfl, hB⟩
  intro _
  clear ho hn
  have ha1 := ha.1
  have hb1 := hb.1
  refine Cw.skip ?_
  refine Pw.thenN (Cw.out ?_)
  refine Cw.seq ?_
  refine Cw.region ?_
  refine Lw.val (Ex.assign rfl) rfl ?_
  refine Lw.nil ?_
  refine Pw.thenN (Cw.out ?_)
  refine Cw.seq ?_
  refine Cw.seq ?_
  refine Cw.region ?_
  refine Lw.val (Ex.fieldAddr (q := 0) Try.underlying25 rfl (sz_22 _) rfl) rfl ?_
  refine Lw.val (Ex.ldB (ag_22 _) rfl (by assumption) rfl) rfl ?_
  refine Lw.val (Ex.fieldAddr (q := 0) Try.underlying25 rfl (sz_22 _) rfl) rfl ?_
  refine Lw.val (Ex.ldB (ag_22 _) rfl (by assumption) rfl) rfl ?_
  refine Lw.callF rfl rfl (sameInts_c a.x b.x a.s b.s w5 ha.1 hb.1) ?_
  rintro _ w6 ⟨rfl, hn⟩
  replace hB := hB.bs hn
  replace ha := ha.bs hn
  replace hb := hb.bs hn
  replace ba := ba.bs hn
  replace bb := bb.bs hn
  clear hn
  refine Lw.val (Ex.not rfl) rfl ?_
  refine Lw.nil ?_
  refine Pw.thenN (Cw.out ?_)
  refine Cw.mid (F := [(2, .int .i64 z), (3, .pointer (some ⟨w.heap.size, 0, none⟩)), (4, .pointer (some ⟨w1.heap.size, 0, none⟩)), (7, .int .i64 (if a.s = b.s then 0 else 10))]) (I := fun w' => w6 = w') ?_ ?_
  · refine Cw.cond rfl ?_ ?_
    · intro g
      have g' : ¬ a.s = b.s := by simpa using g
      refine Cw.region ?_
      refine Lw.val (Ex.assign rfl) rfl ?_
      refine Lw.nil ?_
      exact Pw.mid ⟨rfl, rfl, rfl, (by rw [if_neg g']; rfl), trivial⟩ (rfl)
    · intro g
      have g' : a.s = b.s := by simpa using g
      refine Cw.skip ?_
      exact Pw.mid ⟨rfl, rfl, rfl, (by rw [if_pos g']; rfl), trivial⟩ (rfl)
  rintro _ rfl
  refine Cw.out ?_
  refine Cw.seq ?_
  refine Cw.seq ?_
  refine Cw.region ?_
  refine Lw.val (Ex.ldA (ag_25 _) (sz_25 _) rfl rfl (by assumption)) rfl ?_
  refine Lw.callF rfl rfl (tcheck_c a.x a.y a.s a.l w6 ha.1 ha.2) ?_
  rintro _ w7 ⟨rfl, hn⟩
  replace hB := hB.bs hn
  replace ha := ha.bs hn
  replace hb := hb.bs hn
  replace ba := ba.bs hn
  replace bb := bb.bs hn
  clear hn
  refine Lw.val (Ex.not rfl) rfl ?_
  refine Lw.val (Ex.move rfl) rfl ?_
  refine Lw.part 37 rfl ?_ ?_
  · intro g
    have hwant : e2 a.s a.l b.s b.l = 1 := by
      rw [want_two, if_neg]
      intro h
      simp at g
      simp [g] at h
    refine Lw.pass (dj := 37) rfl rfl rfl rfl ?_
    refine Lw.pass (dj := 37) rfl rfl rfl rfl ?_
    refine Lw.pass (dj := 37) rfl rfl rfl rfl ?_
    refine Lw.val (Ex.pickT rfl rfl) rfl ?_
    refine Lw.nil ?_
    refine Pw.thenN (Cw.out ?_)
    refine Cw.condT rfl ?_
    refine Cw.region ?_
    refine Lw.val (Ex.assign rfl) rfl ?_
    refine Lw.nil ?_
    refine Pw.thenN (Cw.out ?_)
    refine Cw.seq ?_
    refine Cw.region ?_
    refine Lw.val (Ex.ldA (ag_25 _) (sz_25 _) rfl rfl (by assumption)) rfl ?_
    refine Lw.val (Ex.ldA (ag_25 _) (sz_25 _) rfl rfl (by assumption)) rfl ?_
    refine Lw.callF rfl rfl (add_p a b _ ha hb) ?_
    rintro r w ⟨hn, a1, rfl, ha1, n1, z1⟩
    replace hB := hB.bs hn
    replace ha := ha.bs hn
    replace hb := hb.bs hn
    replace ba := ba.bs hn
    replace bb := bb.bs hn
    clear hn
    refine Lw.val (Ex.move rfl) rfl ?_
    refine Lw.val (Ex.extract (i := 0) rfl rfl) rfl ?_
    refine Lw.val (Ex.extract (i := 1) rfl rfl) rfl ?_
    refine Lw.valW (Xw.new it_25) rfl ?_
    rintro _ w ⟨rfl, b, hn, -⟩
    refine Lw.unit (Xu.stA (cs := [a1.x, a1.y]) rfl rfl rfl rfl ha1.one b rfl) ?_
    rintro w ⟨b1, hg, -⟩
    have hn := hn.grown hg (below_size hn) (by rintro _ ⟨⟩; exact Nat.le_refl _)
    clear hg b
    replace hB := hB.bs hn
    replace ha := ha.bs hn
    replace hb := hb.bs hn
    replace ba := ba.bs hn
    replace bb := bb.bs hn
    replace ha1 := ha1.bs hn
    clear hn
    refine Lw.val (Ex.assign rfl) rfl ?_
    refine Lw.nil ?_
    refine Pw.thenN (Cw.out ?_)
    refine Cw.seq ?_
    refine Cw.region ?_
    refine Lw.val (Ex.ldA (ag_25 _) (sz_25 _) rfl rfl (by assumption)) rfl ?_
    refine Lw.val (Ex.ldA (ag_25 _) (sz_25 _) rfl rfl (by assumption)) rfl ?_
    refine Lw.callF rfl rfl (mul_p a b _ ha hb) ?_
    rintro r w ⟨hn, a2, rfl, ha2, n2, z2⟩
    replace hB := hB.bs hn
    replace ha := ha.bs hn
    replace hb := hb.bs hn
    replace ba := ba.bs hn
    replace bb := bb.bs hn
    replace ha1 := ha1.bs hn
    replace b1 := b1.bs hn
    clear hn
    refine Lw.val (Ex.move rfl) rfl ?_
    refine Lw.val (Ex.extract (i := 0) rfl rfl) rfl ?_
    refine Lw.val (Ex.extract (i := 1) rfl rfl) rfl ?_
    refine Lw.valW (Xw.new it_25) rfl ?_
    rintro _ w ⟨rfl, b, hn, -⟩
    refine Lw.unit (Xu.stA (cs := [a2.x, a2.y]) rfl rfl rfl rfl ha2.one b rfl) ?_
    rintro w ⟨b2, hg, -⟩
    have hn := hn.grown hg (below_size hn) (by rintro _ ⟨⟩; exact Nat.le_refl _)
    clear hg b
    replace hB := hB.bs hn
    replace ha := ha.bs hn
    replace hb := hb.bs hn
    replace ba := ba.bs hn
    replace bb := bb.bs hn
    replace ha1 := ha1.bs hn
    replace b1 := b1.bs hn
    replace ha2 := ha2.bs hn
    clear hn
    refine Lw.val (Ex.assign rfl) rfl ?_
    refine Lw.nil ?_
    refine Pw.thenN (Cw.out ?_)
    refine Cw.seq ?_
    refine Cw.region ?_
    refine Lw.val (Ex.ldA (ag_25 _) (sz_25 _) rfl rfl (by assumption)) rfl ?_
    refine Lw.callF rfl rfl (relu_p a _ ha) ?_
    rintro r w ⟨hn, a3, rfl, ha3, n3, z3⟩
    replace hB := hB.bs hn
    replace ha := ha.bs hn
    replace hb := hb.bs hn
    replace ba := ba.bs hn
    replace bb := bb.bs hn
    replace ha1 := ha1.bs hn
    replace b1 := b1.bs hn
    replace ha2 := ha2.bs hn
    replace b2 := b2.bs hn
    clear hn
    refine Lw.val (Ex.move rfl) rfl ?_
    refine Lw.val (Ex.extract (i := 0) rfl rfl) rfl ?_
    refine Lw.val (Ex.extract (i := 1) rfl rfl) rfl ?_
    refine Lw.valW (Xw.new it_25) rfl ?_
    rintro _ w ⟨rfl, b, hn, -⟩
    refine Lw.unit (Xu.stA (cs := [a3.x, a3.y]) rfl rfl rfl rfl ha3.one b rfl) ?_
    rintro w ⟨b3, hg, -⟩
    have hn := hn.grown hg (below_size hn) (by rintro _ ⟨⟩; exact Nat.le_refl _)
    clear hg b
    replace hB := hB.bs hn
    replace ha := ha.bs hn
    replace hb := hb.bs hn
    replace ba := ba.bs hn
    replace bb := bb.bs hn
    replace ha1 := ha1.bs hn
    replace b1 := b1.bs hn
    replace ha2 := ha2.bs hn
    replace b2 := b2.bs hn
    replace ha3 := ha3.bs hn
    clear hn
    refine Lw.val (Ex.assign rfl) rfl ?_
    refine Lw.nil ?_
    refine Pw.thenN (Cw.out ?_)
    refine Cw.seq ?_
    refine Cw.region ?_
    refine Lw.val (Ex.ldA (ag_25 _) (sz_25 _) rfl rfl (by assumption)) rfl ?_
    refine Lw.val (Ex.move rfl) rfl ?_
    refine Lw.callF rfl rfl (shift_p a z _ ha) ?_
    rintro r w ⟨hn, a4, rfl, ha4, n4, z4⟩
    replace hB := hB.bs hn
    replace ha := ha.bs hn
    replace hb := hb.bs hn
    replace ba := ba.bs hn
    replace bb := bb.bs hn
    replace ha1 := ha1.bs hn
    replace b1 := b1.bs hn
    replace ha2 := ha2.bs hn
    replace b2 := b2.bs hn
    replace ha3 := ha3.bs hn
    replace b3 := b3.bs hn
    clear hn
    refine Lw.val (Ex.move rfl) rfl ?_
    refine Lw.val (Ex.extract (i := 0) rfl rfl) rfl ?_
    refine Lw.val (Ex.extract (i := 1) rfl rfl) rfl ?_
    refine Lw.valW (Xw.new it_25) rfl ?_
    rintro _ w ⟨rfl, b, hn, -⟩
    refine Lw.unit (Xu.stA (cs := [a4.x, a4.y]) rfl rfl rfl rfl ha4.one b rfl) ?_
    rintro w ⟨b4, hg, -⟩
    have hn := hn.grown hg (below_size hn) (by rintro _ ⟨⟩; exact Nat.le_refl _)
    clear hg b
    replace hB := hB.bs hn
    replace ha := ha.bs hn
    replace hb := hb.bs hn
    replace ba := ba.bs hn
    replace bb := bb.bs hn
    replace ha1 := ha1.bs hn
    replace b1 := b1.bs hn
    replace ha2 := ha2.bs hn
    replace b2 := b2.bs hn
    replace ha3 := ha3.bs hn
    replace b3 := b3.bs hn
    replace ha4 := ha4.bs hn
    clear hn
    refine Lw.val (Ex.assign rfl) rfl ?_
    refine Lw.nil ?_
    refine Pw.thenN (Cw.out ?_)
    refine Cw.seq ?_
    refine Cw.region ?_
    refine Lw.val (Ex.ldA (ag_25 _) (sz_25 _) rfl rfl (by assumption)) rfl ?_
    refine Lw.callF rfl rfl (tcheck_c a.x a.y a.s a.l _ ha.1 ha.2) ?_
    rintro _ w ⟨rfl, hn⟩
    replace hB := hB.bs hn
    replace ha := ha.bs hn
    replace hb := hb.bs hn
    replace ba := ba.bs hn
    replace bb := bb.bs hn
    replace ha1 := ha1.bs hn
    replace b1 := b1.bs hn
    replace ha2 := ha2.bs hn
    replace b2 := b2.bs hn
    replace ha3 := ha3.bs hn
    replace b3 := b3.bs hn
    replace ha4 := ha4.bs hn
    replace b4 := b4.bs hn
    clear hn
    have t1 := ha1.2
    have t2 := ha2.1
    have t4 := ha4.2
    refine Lw.val (Ex.assign rfl) rfl ?_
    refine Lw.nil ?_
    refine Pw.thenN (Cw.out ?_)
    refine Cw.seq ?_
    refine Cw.region ?_
    refine Lw.val (Ex.move rfl) rfl ?_
    refine Lw.val (Ex.move rfl) rfl ?_
    refine Lw.val (Ex.eql rfl rfl) rfl ?_
    refine Lw.val (Ex.move rfl) rfl ?_
    refine Lw.know 70 (v' := .bool true) rfl (congrArg Value.bool (decide_eq_true hwant)) ?_
    refine Lw.take (dj := 70) rfl rfl ?_
    refine Lw.val (Ex.move rfl) rfl ?_
    refine Lw.take (dj := 70) rfl rfl ?_
    refine Lw.val (Ex.move rfl) rfl ?_
    refine Lw.take (dj := 70) rfl rfl ?_
    refine Lw.val (Ex.eql rfl rfl) rfl ?_
    refine Lw.val (Ex.pickT rfl rfl) rfl ?_
    refine Lw.val (Ex.move rfl) rfl ?_
    refine Lw.know 75 (v' := .bool true) rfl (congrArg Value.bool (decide_eq_true hwant)) ?_
    refine Lw.take (dj := 75) rfl rfl ?_
    refine Lw.val (Ex.fieldAddr (q := 0) Try.underlying25 rfl (sz_23 _) rfl) rfl ?_
    refine Lw.take (dj := 75) rfl rfl ?_
    refine Lw.val (Ex.ldB (ag_23 _) rfl (by assumption) rfl) rfl ?_
    refine Lw.take (dj := 75) rfl rfl ?_
    refine Lw.val (Ex.lenS st_23 rfl (by assumption)) rfl ?_
    refine Lw.take (dj := 75) rfl rfl ?_
    refine Lw.val (Ex.eql rfl rfl) rfl ?_
    refine Lw.take (dj := 75) rfl rfl ?_
    refine Lw.val (Ex.move rfl) rfl ?_
    refine Lw.take (dj := 75) rfl rfl ?_
    refine Lw.val (Ex.neq rfl rfl) rfl ?_
    refine Lw.take (dj := 75) rfl rfl ?_
    refine Lw.val (Ex.eqlB un_4 rfl rfl) rfl ?_
    refine Lw.val (Ex.pickT rfl rfl) rfl ?_
    refine Lw.val (Ex.move rfl) rfl ?_
    refine Lw.know 84 (v' := .bool true) rfl (congrArg Value.bool (len_no (fun h => (n1 h).2) (fun h => (z1 h).2.1) (fun h => z2_len (e2_ok h)))) ?_
    refine Lw.take (dj := 84) rfl rfl ?_
    refine Lw.val (Ex.fieldAddr (q := 0) Try.underlying25 rfl (sz_22 _) rfl) rfl ?_
    refine Lw.take (dj := 84) rfl rfl ?_
    refine Lw.val (Ex.ldB (ag_22 _) rfl (by assumption) rfl) rfl ?_
    refine Lw.take (dj := 84) rfl rfl ?_
    refine Lw.val (Ex.lenS st_22 rfl (by assumption)) rfl ?_
    refine Lw.take (dj := 84) rfl rfl ?_
    refine Lw.val (Ex.eql rfl rfl) rfl ?_
    refine Lw.take (dj := 84) rfl rfl ?_
    refine Lw.val (Ex.move rfl) rfl ?_
    refine Lw.take (dj := 84) rfl rfl ?_
    refine Lw.val (Ex.neq rfl rfl) rfl ?_
    refine Lw.take (dj := 84) rfl rfl ?_
    refine Lw.val (Ex.eqlB un_4 rfl rfl) rfl ?_
    refine Lw.val (Ex.pickT rfl rfl) rfl ?_
    refine Lw.val (Ex.move rfl) rfl ?_
    refine Lw.know 93 (v' := .bool true) rfl (congrArg Value.bool (len_no (fun h => (n2 h).1) (fun h => (z2 h).1) (fun h => s_len (e2_ok h)))) ?_
    refine Lw.take (dj := 93) rfl rfl ?_
    refine Lw.val (Ex.move rfl) rfl ?_
    refine Lw.take (dj := 93) rfl rfl ?_
    refine Lw.val (Ex.eql rfl rfl) rfl ?_
    refine Lw.take (dj := 93) rfl rfl ?_
    refine Lw.val (Ex.move rfl) rfl ?_
    refine Lw.take (dj := 93) rfl rfl ?_
    refine Lw.val (Ex.eqlB un_4 rfl rfl) rfl ?_
    refine Lw.val (Ex.pickT rfl rfl) rfl ?_
    refine Lw.val (Ex.move rfl) rfl ?_
    refine Lw.know 99 (v' := .bool true) rfl (congrArg Value.bool (e1_eq _ _)) ?_
    refine Lw.take (dj := 99) rfl rfl ?_
    refine Lw.val (Ex.move rfl) rfl ?_
    refine Lw.take (dj := 99) rfl rfl ?_
    refine Lw.val (Ex.eql rfl rfl) rfl ?_
    refine Lw.take (dj := 99) rfl rfl ?_
    refine Lw.val (Ex.move rfl) rfl ?_
    refine Lw.take (dj := 99) rfl rfl ?_
    refine Lw.val (Ex.move rfl) rfl ?_
    refine Lw.part 103 rfl ?_ ?_
    · intro g1
      refine Lw.take (dj := 103) rfl rfl ?_
      refine Lw.val (Ex.move rfl) rfl ?_
      refine Lw.take (dj := 103) rfl rfl ?_
      refine Lw.val (Ex.geq rfl rfl) rfl ?_
      refine Lw.take (dj := 99) rfl rfl ?_
      refine Lw.val (Ex.pickT rfl rfl) rfl ?_
      refine Lw.take (dj := 99) rfl rfl ?_
      refine Lw.val (Ex.move rfl) rfl ?_
      refine Lw.part 107 rfl ?_ ?_
      · intro g2
        refine Lw.take (dj := 107) rfl rfl ?_
        refine Lw.val (Ex.move rfl) rfl ?_
        refine Lw.take (dj := 107) rfl rfl ?_
        refine Lw.val (Ex.leq rfl rfl) rfl ?_
        refine Lw.take (dj := 99) rfl rfl ?_
        refine Lw.val (Ex.pickT rfl rfl) rfl ?_
        refine Lw.take (dj := 99) rfl rfl ?_
        refine Lw.val (Ex.eqlB un_4 rfl rfl) rfl ?_
        refine Lw.val (Ex.pickT rfl rfl) rfl ?_
        refine Lw.val (Ex.move rfl) rfl ?_
        refine Lw.know 113 (v' := .bool true) rfl (congrArg Value.bool (by rw [eSh_eq, g1, g2]; simp)) ?_
        refine Lw.take (dj := 113) rfl rfl ?_
        refine Lw.val (Ex.fieldAddr (q := 0) Try.underlying25 rfl (sz_23 _) rfl) rfl ?_
        refine Lw.take (dj := 113) rfl rfl ?_
        refine Lw.val (Ex.ldB (ag_23 _) rfl (by assumption) rfl) rfl ?_
        refine Lw.take (dj := 113) rfl rfl ?_
        refine Lw.val (Ex.lenS st_23 rfl (by assumption)) rfl ?_
        refine Lw.take (dj := 113) rfl rfl ?_
        refine Lw.val (Ex.eql rfl rfl) rfl ?_
        refine Lw.take (dj := 113) rfl rfl ?_
        refine Lw.val (Ex.move rfl) rfl ?_
        refine Lw.take (dj := 113) rfl rfl ?_
        refine Lw.val (Ex.neq rfl rfl) rfl ?_
        refine Lw.take (dj := 113) rfl rfl ?_
        refine Lw.val (Ex.eqlB un_4 rfl rfl) rfl ?_
        refine Lw.val (Ex.pickT rfl rfl) rfl ?_
        refine Lw.val (Ex.assign rfl) rfl ?_
        refine Lw.nil ?_
        refine Pw.thenN (Cw.out ?_)
        refine Cw.ret ?_
        refine Pw.ret1 rfl rfl ?_
        exact ⟨congrArg Value.bool (len_no (fun h => (n4 h).2) (fun h => (z4 h).2.1) (fun h => z1_len (eSh_ok h))), hB⟩
      · intro g2
        refine Lw.pass (dj := 107) rfl rfl rfl rfl ?_
        refine Lw.pass (dj := 107) rfl rfl rfl rfl ?_
        refine Lw.take (dj := 99) rfl rfl ?_
        refine Lw.val (Ex.pickF rfl rfl) rfl ?_
        refine Lw.take (dj := 99) rfl rfl ?_
        refine Lw.val (Ex.eqlB un_4 rfl rfl) rfl ?_
        refine Lw.val (Ex.pickT rfl rfl) rfl ?_
        refine Lw.val (Ex.move rfl) rfl ?_
        refine Lw.know 113 (v' := .bool true) rfl (congrArg Value.bool (by rw [eSh_eq, g1, g2]; simp)) ?_
        refine Lw.take (dj := 113) rfl rfl ?_
        refine Lw.val (Ex.fieldAddr (q := 0) Try.underlying25 rfl (sz_23 _) rfl) rfl ?_
        refine Lw.take (dj := 113) rfl rfl ?_
        refine Lw.val (Ex.ldB (ag_23 _) rfl (by assumption) rfl) rfl ?_
        refine Lw.take (dj := 113) rfl rfl ?_
        refine Lw.val (Ex.lenS st_23 rfl (by assumption)) rfl ?_
        refine Lw.take (dj := 113) rfl rfl ?_
        refine Lw.val (Ex.eql rfl rfl) rfl ?_
        refine Lw.take (dj := 113) rfl rfl ?_
        refine Lw.val (Ex.move rfl) rfl ?_
        refine Lw.take (dj := 113) rfl rfl ?_
        refine Lw.val (Ex.neq rfl rfl) rfl ?_
        refine Lw.take (dj := 113) rfl rfl ?_
        refine Lw.val (Ex.eqlB un_4 rfl rfl) rfl ?_
        refine Lw.val (Ex.pickT rfl rfl) rfl ?_
        refine Lw.val (Ex.assign rfl) rfl ?_
        refine Lw.nil ?_
        refine Pw.thenN (Cw.out ?_)
        refine Cw.ret ?_
        refine Pw.ret1 rfl rfl ?_
        exact ⟨congrArg Value.bool (len_no (fun h => (n4 h).2) (fun h => (z4 h).2.1) (fun h => z1_len (eSh_ok h))), hB⟩
    intro g1
    refine Lw.pass (dj := 103) rfl rfl rfl rfl ?_
    refine Lw.pass (dj := 103) rfl rfl rfl rfl ?_
    refine Lw.take (dj := 99) rfl rfl ?_
    refine Lw.val (Ex.pickF rfl rfl) rfl ?_
    refine Lw.take (dj := 99) rfl rfl ?_
    refine Lw.val (Ex.move rfl) rfl ?_
    refine Lw.pass (dj := 107) rfl rfl rfl rfl ?_
    refine Lw.pass (dj := 107) rfl rfl rfl rfl ?_
    refine Lw.take (dj := 99) rfl rfl ?_
    refine Lw.val (Ex.pickF rfl rfl) rfl ?_
    refine Lw.take (dj := 99) rfl rfl ?_
    refine Lw.val (Ex.eqlB un_4 rfl rfl) rfl ?_
    refine Lw.val (Ex.pickT rfl rfl) rfl ?_
    refine Lw.val (Ex.move rfl) rfl ?_
    refine Lw.know 113 (v' := .bool true) rfl (congrArg Value.bool (by rw [eSh_eq, g1]; simp)) ?_
    refine Lw.take (dj := 113) rfl rfl ?_
    refine Lw.val (Ex.fieldAddr (q := 0) Try.underlying25 rfl (sz_23 _) rfl) rfl ?_
    refine Lw.take (dj := 113) rfl rfl ?_
    refine Lw.val (Ex.ldB (ag_23 _) rfl (by assumption) rfl) rfl ?_
    refine Lw.take (dj := 113) rfl rfl ?_
    refine Lw.val (Ex.lenS st_23 rfl (by assumption)) rfl ?_
    refine Lw.take (dj := 113) rfl rfl ?_
    refine Lw.val (Ex.eql rfl rfl) rfl ?_
    refine Lw.take (dj := 113) rfl rfl ?_
    refine Lw.val (Ex.move rfl) rfl ?_
    refine Lw.take (dj := 113) rfl rfl ?_
    refine Lw.val (Ex.neq rfl rfl) rfl ?_
    refine Lw.take (dj := 113) rfl rfl ?_
    refine Lw.val (Ex.eqlB un_4 rfl rfl) rfl ?_
    refine Lw.val (Ex.pickT rfl rfl) rfl ?_
    refine Lw.val (Ex.assign rfl) rfl ?_
    refine Lw.nil ?_
    refine Pw.thenN (Cw.out ?_)
    refine Cw.ret ?_
    refine Pw.ret1 rfl rfl ?_
    exact ⟨congrArg Value.bool (len_no (fun h => (n4 h).2) (fun h => (z4 h).2.1) (fun h => z1_len (eSh_ok h))), hB⟩
  intro g
  have gA : tok a.s a.l = true := by simpa using g
  refine Lw.take (dj := 37) rfl rfl ?_
  refine Lw.val (Ex.ldA (ag_25 _) (sz_25 _) rfl rfl (by assumption)) rfl ?_
  refine Lw.take (dj := 37) rfl rfl ?_
  refine Lw.callF rfl rfl (tcheck_c b.x b.y b.s b.l w7 hb.1 hb.2) ?_
  rintro _ w8 ⟨rfl, hn⟩
  replace hB := hB.bs hn
  replace ha := ha.bs hn
  replace hb := hb.bs hn
  replace ba := ba.bs hn
  replace bb := bb.bs hn
  clear hn
  refine Lw.take (dj := 37) rfl rfl ?_
  refine Lw.val (Ex.not rfl) rfl ?_
  refine Lw.val (Ex.pickF rfl rfl) rfl ?_
  refine Lw.nil ?_
  refine Pw.thenN (Cw.out ?_)
  refine Cw.cond rfl ?_ ?_
  · intro g
    have hwant : e2 a.s a.l b.s b.l = 1 := by
      rw [want_two, if_neg]
      intro h
      simp at g
      simp [g] at h
    refine Cw.region ?_
    refine Lw.val (Ex.assign rfl) rfl ?_
    refine Lw.nil ?_
    refine Pw.thenN (Cw.out ?_)
    refine Cw.seq ?_
    refine Cw.region ?_
    refine Lw.val (Ex.ldA (ag_25 _) (sz_25 _) rfl rfl (by assumption)) rfl ?_
    refine Lw.val (Ex.ldA (ag_25 _) (sz_25 _) rfl rfl (by assumption)) rfl ?_
    refine Lw.callF rfl rfl (add_p a b _ ha hb) ?_
    rintro r w ⟨hn, a1, rfl, ha1, n1, z1⟩
    replace hB := hB.bs hn
    replace ha := ha.bs hn
    replace hb := hb.bs hn
    replace ba := ba.bs hn
    replace bb := bb.bs hn
    clear hn
    refine Lw.val (Ex.move rfl) rfl ?_
    refine Lw.val (Ex.extract (i := 0) rfl rfl) rfl ?_
    refine Lw.val (Ex.extract (i := 1) rfl rfl) rfl ?_
    refine Lw.valW (Xw.new it_25) rfl ?_
    rintro _ w ⟨rfl, b, hn, -⟩
    refine Lw.unit (Xu.stA (cs := [a1.x, a1.y]) rfl rfl rfl rfl ha1.one b rfl) ?_
    rintro w ⟨b1, hg, -⟩
    have hn := hn.grown hg (below_size hn) (by rintro _ ⟨⟩; exact Nat.le_refl _)
    clear hg b
    replace hB := hB.bs hn
    replace ha := ha.bs hn
    replace hb := hb.bs hn
    replace ba := ba.bs hn
    replace bb := bb.bs hn
    replace ha1 := ha1.bs hn
    clear hn
    refine Lw.val (Ex.assign rfl) rfl ?_
    refine Lw.nil ?_
    refine Pw.thenN (Cw.out ?_)
    refine Cw.seq ?_
    refine Cw.region ?_
    refine Lw.val (Ex.ldA (ag_25 _) (sz_25 _) rfl rfl (by assumption)) rfl ?_
    refine Lw.val (Ex.ldA (ag_25 _) (sz_25 _) rfl rfl (by assumption)) rfl ?_
    refine Lw.callF rfl rfl (mul_p a b _ ha hb) ?_
    rintro r w ⟨hn, a2, rfl, ha2, n2, z2⟩
    replace hB := hB.bs hn
    replace ha := ha.bs hn
    replace hb := hb.bs hn
    replace ba := ba.bs hn
    replace bb := bb.bs hn
    replace ha1 := ha1.bs hn
    replace b1 := b1.bs hn
    clear hn
    refine Lw.val (Ex.move rfl) rfl ?_
    refine Lw.val (Ex.extract (i := 0) rfl rfl) rfl ?_
    refine Lw.val (Ex.extract (i := 1) rfl rfl) rfl ?_
    refine Lw.valW (Xw.new it_25) rfl ?_
    rintro _ w ⟨rfl, b, hn, -⟩
    refine Lw.unit (Xu.stA (cs := [a2.x, a2.y]) rfl rfl rfl rfl ha2.one b rfl) ?_
    rintro w ⟨b2, hg, -⟩
    have hn := hn.grown hg (below_size hn) (by rintro _ ⟨⟩; exact Nat.le_refl _)
    clear hg b
    replace hB := hB.bs hn
    replace ha := ha.bs hn
    replace hb := hb.bs hn
    replace ba := ba.bs hn
    replace bb := bb.bs hn
    replace ha1 := ha1.bs hn
    replace b1 := b1.bs hn
    replace ha2 := ha2.bs hn
    clear hn
    refine Lw.val (Ex.assign rfl) rfl ?_
    refine Lw.nil ?_
    refine Pw.thenN (Cw.out ?_)
    refine Cw.seq ?_
    refine Cw.region ?_
    refine Lw.val (Ex.ldA (ag_25 _) (sz_25 _) rfl rfl (by assumption)) rfl ?_
    refine Lw.callF rfl rfl (relu_p a _ ha) ?_
    rintro r w ⟨hn, a3, rfl, ha3, n3, z3⟩
    replace hB := hB.bs hn
    replace ha := ha.bs hn
    replace hb := hb.bs hn
    replace ba := ba.bs hn
    replace bb := bb.bs hn
    replace ha1 := ha1.bs hn
    replace b1 := b1.bs hn
    replace ha2 := ha2.bs hn
    replace b2 := b2.bs hn
    clear hn
    refine Lw.val (Ex.move rfl) rfl ?_
    refine Lw.val (Ex.extract (i := 0) rfl rfl) rfl ?_
    refine Lw.val (Ex.extract (i := 1) rfl rfl) rfl ?_
    refine Lw.valW (Xw.new it_25) rfl ?_
    rintro _ w ⟨rfl, b, hn, -⟩
    refine Lw.unit (Xu.stA (cs := [a3.x, a3.y]) rfl rfl rfl rfl ha3.one b rfl) ?_
    rintro w ⟨b3, hg, -⟩
    have hn := hn.grown hg (below_size hn) (by rintro _ ⟨⟩; exact Nat.le_refl _)
    clear hg b
    replace hB := hB.bs hn
    replace ha := ha.bs hn
    replace hb := hb.bs hn
    replace ba := ba.bs hn
    replace bb := bb.bs hn
    replace ha1 := ha1.bs hn
    replace b1 := b1.bs hn
    replace ha2 := ha2.bs hn
    replace b2 := b2.bs hn
    replace ha3 := ha3.bs hn
    clear hn
    refine Lw.val (Ex.assign rfl) rfl ?_
    refine Lw.nil ?_
    refine Pw.thenN (Cw.out ?_)
    refine Cw.seq ?_
    refine Cw.region ?_
    refine Lw.val (Ex.ldA (ag_25 _) (sz_25 _) rfl rfl (by assumption)) rfl ?_
    refine Lw.val (Ex.move rfl) rfl ?_
    refine Lw.callF rfl rfl (shift_p a z _ ha) ?_
    rintro r w ⟨hn, a4, rfl, ha4, n4, z4⟩
    replace hB := hB.bs hn
    replace ha := ha.bs hn
    replace hb := hb.bs hn
    replace ba := ba.bs hn
    replace bb := bb.bs hn
    replace ha1 := ha1.bs hn
    replace b1 := b1.bs hn
    replace ha2 := ha2.bs hn
    replace b2 := b2.bs hn
    replace ha3 := ha3.bs hn
    replace b3 := b3.bs hn
    clear hn
    refine Lw.val (Ex.move rfl) rfl ?_
    refine Lw.val (Ex.extract (i := 0) rfl rfl) rfl ?_
    refine Lw.val (Ex.extract (i := 1) rfl rfl) rfl ?_
    refine Lw.valW (Xw.new it_25) rfl ?_
    rintro _ w ⟨rfl, b, hn, -⟩
    refine Lw.unit (Xu.stA (cs := [a4.x, a4.y]) rfl rfl rfl rfl ha4.one b rfl) ?_
    rintro w ⟨b4, hg, -⟩
    have hn := hn.grown hg (below_size hn) (by rintro _ ⟨⟩; exact Nat.le_refl _)
    clear hg b
    replace hB := hB.bs hn
    replace ha := ha.bs hn
    replace hb := hb.bs hn
    replace ba := ba.bs hn
    replace bb := bb.bs hn
    replace ha1 := ha1.bs hn
    replace b1 := b1.bs hn
    replace ha2 := ha2.bs hn
    replace b2 := b2.bs hn
    replace ha3 := ha3.bs hn
    replace b3 := b3.bs hn
    replace ha4 := ha4.bs hn
    clear hn
    refine Lw.val (Ex.assign rfl) rfl ?_
    refine Lw.nil ?_
    refine Pw.thenN (Cw.out ?_)
    refine Cw.seq ?_
    refine Cw.region ?_
    refine Lw.val (Ex.ldA (ag_25 _) (sz_25 _) rfl rfl (by assumption)) rfl ?_
    refine Lw.callF rfl rfl (tcheck_c a.x a.y a.s a.l _ ha.1 ha.2) ?_
    rintro _ w ⟨rfl, hn⟩
    replace hB := hB.bs hn
    replace ha := ha.bs hn
    replace hb := hb.bs hn
    replace ba := ba.bs hn
    replace bb := bb.bs hn
    replace ha1 := ha1.bs hn
    replace b1 := b1.bs hn
    replace ha2 := ha2.bs hn
    replace b2 := b2.bs hn
    replace ha3 := ha3.bs hn
    replace b3 := b3.bs hn
    replace ha4 := ha4.bs hn
    replace b4 := b4.bs hn
    clear hn
    have t1 := ha1.2
    have t2 := ha2.1
    have t4 := ha4.2
    refine Lw.val (Ex.assign rfl) rfl ?_
    refine Lw.nil ?_
    refine Pw.thenN (Cw.out ?_)
    refine Cw.seq ?_
    refine Cw.region ?_
    refine Lw.val (Ex.move rfl) rfl ?_
    refine Lw.val (Ex.move rfl) rfl ?_
    refine Lw.val (Ex.eql rfl rfl) rfl ?_
    refine Lw.val (Ex.move rfl) rfl ?_
    refine Lw.know 70 (v' := .bool true) rfl (congrArg Value.bool (decide_eq_true hwant)) ?_
    refine Lw.take (dj := 70) rfl rfl ?_
    refine Lw.val (Ex.move rfl) rfl ?_
    refine Lw.take (dj := 70) rfl rfl ?_
    refine Lw.val (Ex.move rfl) rfl ?_
    refine Lw.take (dj := 70) rfl rfl ?_
    refine Lw.val (Ex.eql rfl rfl) rfl ?_
    refine Lw.val (Ex.pickT rfl rfl) rfl ?_
    refine Lw.val (Ex.move rfl) rfl ?_
    refine Lw.know 75 (v' := .bool true) rfl (congrArg Value.bool (decide_eq_true hwant)) ?_
    refine Lw.take (dj := 75) rfl rfl ?_
    refine Lw.val (Ex.fieldAddr (q := 0) Try.underlying25 rfl (sz_23 _) rfl) rfl ?_
    refine Lw.take (dj := 75) rfl rfl ?_
    refine Lw.val (Ex.ldB (ag_23 _) rfl (by assumption) rfl) rfl ?_
    refine Lw.take (dj := 75) rfl rfl ?_
    refine Lw.val (Ex.lenS st_23 rfl (by assumption)) rfl ?_
    refine Lw.take (dj := 75) rfl rfl ?_
    refine Lw.val (Ex.eql rfl rfl) rfl ?_
    refine Lw.take (dj := 75) rfl rfl ?_
    refine Lw.val (Ex.move rfl) rfl ?_
    refine Lw.take (dj := 75) rfl rfl ?_
    refine Lw.val (Ex.neq rfl rfl) rfl ?_
    refine Lw.take (dj := 75) rfl rfl ?_
    refine Lw.val (Ex.eqlB un_4 rfl rfl) rfl ?_
    refine Lw.val (Ex.pickT rfl rfl) rfl ?_
    refine Lw.val (Ex.move rfl) rfl ?_
    refine Lw.know 84 (v' := .bool true) rfl (congrArg Value.bool (len_no (fun h => (n1 h).2) (fun h => (z1 h).2.1) (fun h => z2_len (e2_ok h)))) ?_
    refine Lw.take (dj := 84) rfl rfl ?_
    refine Lw.val (Ex.fieldAddr (q := 0) Try.underlying25 rfl (sz_22 _) rfl) rfl ?_
    refine Lw.take (dj := 84) rfl rfl ?_
    refine Lw.val (Ex.ldB (ag_22 _) rfl (by assumption) rfl) rfl ?_
    refine Lw.take (dj := 84) rfl rfl ?_
    refine Lw.val (Ex.lenS st_22 rfl (by assumption)) rfl ?_
    refine Lw.take (dj := 84) rfl rfl ?_
    refine Lw.val (Ex.eql rfl rfl) rfl ?_
    refine Lw.take (dj := 84) rfl rfl ?_
    refine Lw.val (Ex.move rfl) rfl ?_
    refine Lw.take (dj := 84) rfl rfl ?_
    refine Lw.val (Ex.neq rfl rfl) rfl ?_
    refine Lw.take (dj := 84) rfl rfl ?_
    refine Lw.val (Ex.eqlB un_4 rfl rfl) rfl ?_
    refine Lw.val (Ex.pickT rfl rfl) rfl ?_
    refine Lw.val (Ex.move rfl) rfl ?_
    refine Lw.know 93 (v' := .bool true) rfl (congrArg Value.bool (len_no (fun h => (n2 h).1) (fun h => (z2 h).1) (fun h => s_len (e2_ok h)))) ?_
    refine Lw.take (dj := 93) rfl rfl ?_
    refine Lw.val (Ex.move rfl) rfl ?_
    refine Lw.take (dj := 93) rfl rfl ?_
    refine Lw.val (Ex.eql rfl rfl) rfl ?_
    refine Lw.take (dj := 93) rfl rfl ?_
    refine Lw.val (Ex.move rfl) rfl ?_
    refine Lw.take (dj := 93) rfl rfl ?_
    refine Lw.val (Ex.eqlB un_4 rfl rfl) rfl ?_
    refine Lw.val (Ex.pickT rfl rfl) rfl ?_
    refine Lw.val (Ex.move rfl) rfl ?_
    refine Lw.know 99 (v' := .bool true) rfl (congrArg Value.bool (e1_eq _ _)) ?_
    refine Lw.take (dj := 99) rfl rfl ?_
    refine Lw.val (Ex.move rfl) rfl ?_
    refine Lw.take (dj := 99) rfl rfl ?_
    refine Lw.val (Ex.eql rfl rfl) rfl ?_
    refine Lw.take (dj := 99) rfl rfl ?_
    refine Lw.val (Ex.move rfl) rfl ?_
    refine Lw.take (dj := 99) rfl rfl ?_
    refine Lw.val (Ex.move rfl) rfl ?_
    refine Lw.part 103 rfl ?_ ?_
    · intro g1
      refine Lw.take (dj := 103) rfl rfl ?_
      refine Lw.val (Ex.move rfl) rfl ?_
      refine Lw.take (dj := 103) rfl rfl ?_
      refine Lw.val (Ex.geq rfl rfl) rfl ?_
      refine Lw.take (dj := 99) rfl rfl ?_
      refine Lw.val (Ex.pickT rfl rfl) rfl ?_
      refine Lw.take (dj := 99) rfl rfl ?_
      refine Lw.val (Ex.move rfl) rfl ?_
      refine Lw.part 107 rfl ?_ ?_
      · intro g2
        refine Lw.take (dj := 107) rfl rfl ?_
        refine Lw.val (Ex.move rfl) rfl ?_
        refine Lw.take (dj := 107) rfl rfl ?_
        refine Lw.val (Ex.leq rfl rfl) rfl ?_
        refine Lw.take (dj := 99) rfl rfl ?_
        refine Lw.val (Ex.pickT rfl rfl) rfl ?_
        refine Lw.take (dj := 99) rfl rfl ?_
        refine Lw.val (Ex.eqlB un_4 rfl rfl) rfl ?_
        refine Lw.val (Ex.pickT rfl rfl) rfl ?_
        refine Lw.val (Ex.move rfl) rfl ?_
        refine Lw.know 113 (v' := .bool true) rfl (congrArg Value.bool (by rw [eSh_eq, g1, g2]; simp)) ?_
        refine Lw.take (dj := 113) rfl rfl ?_
        refine Lw.val (Ex.fieldAddr (q := 0) Try.underlying25 rfl (sz_23 _) rfl) rfl ?_
        refine Lw.take (dj := 113) rfl rfl ?_
        refine Lw.val (Ex.ldB (ag_23 _) rfl (by assumption) rfl) rfl ?_
        refine Lw.take (dj := 113) rfl rfl ?_
        refine Lw.val (Ex.lenS st_23 rfl (by assumption)) rfl ?_
        refine Lw.take (dj := 113) rfl rfl ?_
        refine Lw.val (Ex.eql rfl rfl) rfl ?_
        refine Lw.take (dj := 113) rfl rfl ?_
        refine Lw.val (Ex.move rfl) rfl ?_
        refine Lw.take (dj := 113) rfl rfl ?_
        refine Lw.val (Ex.neq rfl rfl) rfl ?_
        refine Lw.take (dj := 113) rfl rfl ?_
        refine Lw.val (Ex.eqlB un_4 rfl rfl) rfl ?_
        refine Lw.val (Ex.pickT rfl rfl) rfl ?_
        refine Lw.val (Ex.assign rfl) rfl ?_
        refine Lw.nil ?_
        refine Pw.thenN (Cw.out ?_)
        refine Cw.ret ?_
        refine Pw.ret1 rfl rfl ?_
        exact ⟨congrArg Value.bool (len_no (fun h => (n4 h).2) (fun h => (z4 h).2.1) (fun h => z1_len (eSh_ok h))), hB⟩
      · intro g2
        refine Lw.pass (dj := 107) rfl rfl rfl rfl ?_
        refine Lw.pass (dj := 107) rfl rfl rfl rfl ?_
        refine Lw.take (dj := 99) rfl rfl ?_
        refine Lw.val (Ex.pickF rfl rfl) rfl ?_
        refine Lw.take (dj := 99) rfl rfl ?_
        refine Lw.val (Ex.eqlB un_4 rfl rfl) rfl ?_
        refine Lw.val (Ex.pickT rfl rfl) rfl ?_
        refine Lw.val (Ex.move rfl) rfl ?_
        refine Lw.know 113 (v' := .bool true) rfl (congrArg Value.bool (by rw [eSh_eq, g1, g2]; simp)) ?_
        refine Lw.take (dj := 113) rfl rfl ?_
        refine Lw.val (Ex.fieldAddr (q := 0) Try.underlying25 rfl (sz_23 _) rfl) rfl ?_
        refine Lw.take (dj := 113) rfl rfl ?_
        refine Lw.val (Ex.ldB (ag_23 _) rfl (by assumption) rfl) rfl ?_
        refine Lw.take (dj := 113) rfl rfl ?_
        refine Lw.val (Ex.lenS st_23 rfl (by assumption)) rfl ?_
        refine Lw.take (dj := 113) rfl rfl ?_
        refine Lw.val (Ex.eql rfl rfl) rfl ?_
        refine Lw.take (dj := 113) rfl rfl ?_
        refine Lw.val (Ex.move rfl) rfl ?_
        refine Lw.take (dj := 113) rfl rfl ?_
        refine Lw.val (Ex.neq rfl rfl) rfl ?_
        refine Lw.take (dj := 113) rfl rfl ?_
        refine Lw.val (Ex.eqlB un_4 rfl rfl) rfl ?_
        refine Lw.val (Ex.pickT rfl rfl) rfl ?_
        refine Lw.val (Ex.assign rfl) rfl ?_
        refine Lw.nil ?_
        refine Pw.thenN (Cw.out ?_)
        refine Cw.ret ?_
        refine Pw.ret1 rfl rfl ?_
        exact ⟨congrArg Value.bool (len_no (fun h => (n4 h).2) (fun h => (z4 h).2.1) (fun h => z1_len (eSh_ok h))), hB⟩
    intro g1
    refine Lw.pass (dj := 103) rfl rfl rfl rfl ?_
    refine Lw.pass (dj := 103) rfl rfl rfl rfl ?_
    refine Lw.take (dj := 99) rfl rfl ?_
    refine Lw.val (Ex.pickF rfl rfl) rfl ?_
    refine Lw.take (dj := 99) rfl rfl ?_
    refine Lw.val (Ex.move rfl) rfl ?_
    refine Lw.pass (dj := 107) rfl rfl rfl rfl ?_
    refine Lw.pass (dj := 107) rfl rfl rfl rfl ?_
    refine Lw.take (dj := 99) rfl rfl ?_
    refine Lw.val (Ex.pickF rfl rfl) rfl ?_
    refine Lw.take (dj := 99) rfl rfl ?_
    refine Lw.val (Ex.eqlB un_4 rfl rfl) rfl ?_
    refine Lw.val (Ex.pickT rfl rfl) rfl ?_
    refine Lw.val (Ex.move rfl) rfl ?_
    refine Lw.know 113 (v' := .bool true) rfl (congrArg Value.bool (by rw [eSh_eq, g1]; simp)) ?_
    refine Lw.take (dj := 113) rfl rfl ?_
    refine Lw.val (Ex.fieldAddr (q := 0) Try.underlying25 rfl (sz_23 _) rfl) rfl ?_
    refine Lw.take (dj := 113) rfl rfl ?_
    refine Lw.val (Ex.ldB (ag_23 _) rfl (by assumption) rfl) rfl ?_
    refine Lw.take (dj := 113) rfl rfl ?_
    refine Lw.val (Ex.lenS st_23 rfl (by assumption)) rfl ?_
    refine Lw.take (dj := 113) rfl rfl ?_
    refine Lw.val (Ex.eql rfl rfl) rfl ?_
    refine Lw.take (dj := 113) rfl rfl ?_
    refine Lw.val (Ex.move rfl) rfl ?_
    refine Lw.take (dj := 113) rfl rfl ?_
    refine Lw.val (Ex.neq rfl rfl) rfl ?_
    refine Lw.take (dj := 113) rfl rfl ?_
    refine Lw.val (Ex.eqlB un_4 rfl rfl) rfl ?_
    refine Lw.val (Ex.pickT rfl rfl) rfl ?_
    refine Lw.val (Ex.assign rfl) rfl ?_
    refine Lw.nil ?_
    refine Pw.thenN (Cw.out ?_)
    refine Cw.ret ?_
    refine Pw.ret1 rfl rfl ?_
    exact ⟨congrArg Value.bool (len_no (fun h => (n4 h).2) (fun h => (z4 h).2.1) (fun h => z1_len (eSh_ok h))), hB⟩
  · intro g
    have hwant : e2 a.s a.l b.s b.l = (if a.s = b.s then 0 else 10) := by
      rw [want_two, if_pos]
      simp at g
      simp [g, gA]
    refine Cw.skip ?_
    refine Pw.thenN (Cw.out ?_)
    refine Cw.seq ?_
    refine Cw.region ?_
    refine Lw.val (Ex.ldA (ag_25 _) (sz_25 _) rfl rfl (by assumption)) rfl ?_
    refine Lw.val (Ex.ldA (ag_25 _) (sz_25 _) rfl rfl (by assumption)) rfl ?_
    refine Lw.callF rfl rfl (add_p a b _ ha hb) ?_
    rintro r w ⟨hn, a1, rfl, ha1, n1, z1⟩
    replace hB := hB.bs hn
    replace ha := ha.bs hn
    replace hb := hb.bs hn
    replace ba := ba.bs hn
    replace bb := bb.bs hn
    clear hn
    refine Lw.val (Ex.move rfl) rfl ?_
    refine Lw.val (Ex.extract (i := 0) rfl rfl) rfl ?_
    refine Lw.val (Ex.extract (i := 1) rfl rfl) rfl ?_
    refine Lw.valW (Xw.new it_25) rfl ?_
    rintro _ w ⟨rfl, b, hn, -⟩
    refine Lw.unit (Xu.stA (cs := [a1.x, a1.y]) rfl rfl rfl rfl ha1.one b rfl) ?_
    rintro w ⟨b1, hg, -⟩
    have hn := hn.grown hg (below_size hn) (by rintro _ ⟨⟩; exact Nat.le_refl _)
    clear hg b
    replace hB := hB.bs hn
    replace ha := ha.bs hn
    replace hb := hb.bs hn
    replace ba := ba.bs hn
    replace bb := bb.bs hn
    replace ha1 := ha1.bs hn
    clear hn
    refine Lw.val (Ex.assign rfl) rfl ?_
    refine Lw.nil ?_
    refine Pw.thenN (Cw.out ?_)
    refine Cw.seq ?_
    refine Cw.region ?_
    refine Lw.val (Ex.ldA (ag_25 _) (sz_25 _) rfl rfl (by assumption)) rfl ?_
    refine Lw.val (Ex.ldA (ag_25 _) (sz_25 _) rfl rfl (by assumption)) rfl ?_
    refine Lw.callF rfl rfl (mul_p a b _ ha hb) ?_
    rintro r w ⟨hn, a2, rfl, ha2, n2, z2⟩
    replace hB := hB.bs hn
    replace ha := ha.bs hn
    replace hb := hb.bs hn
    replace ba := ba.bs hn
    replace bb := bb.bs hn
    replace ha1 := ha1.bs hn
    replace b1 := b1.bs hn
    clear hn
    refine Lw.val (Ex.move rfl) rfl ?_
    refine Lw.val (Ex.extract (i := 0) rfl rfl) rfl ?_
    refine Lw.val (Ex.extract (i := 1) rfl rfl) rfl ?_
    refine Lw.valW (Xw.new it_25) rfl ?_
    rintro _ w ⟨rfl, b, hn, -⟩
    refine Lw.unit (Xu.stA (cs := [a2.x, a2.y]) rfl rfl rfl rfl ha2.one b rfl) ?_
    rintro w ⟨b2, hg, -⟩
    have hn := hn.grown hg (below_size hn) (by rintro _ ⟨⟩; exact Nat.le_refl _)
    clear hg b
    replace hB := hB.bs hn
    replace ha := ha.bs hn
    replace hb := hb.bs hn
    replace ba := ba.bs hn
    replace bb := bb.bs hn
    replace ha1 := ha1.bs hn
    replace b1 := b1.bs hn
    replace ha2 := ha2.bs hn
    clear hn
    refine Lw.val (Ex.assign rfl) rfl ?_
    refine Lw.nil ?_
    refine Pw.thenN (Cw.out ?_)
    refine Cw.seq ?_
    refine Cw.region ?_
    refine Lw.val (Ex.ldA (ag_25 _) (sz_25 _) rfl rfl (by assumption)) rfl ?_
    refine Lw.callF rfl rfl (relu_p a _ ha) ?_
    rintro r w ⟨hn, a3, rfl, ha3, n3, z3⟩
    replace hB := hB.bs hn
    replace ha := ha.bs hn
    replace hb := hb.bs hn
    replace ba := ba.bs hn
    replace bb := bb.bs hn
    replace ha1 := ha1.bs hn
    replace b1 := b1.bs hn
    replace ha2 := ha2.bs hn
    replace b2 := b2.bs hn
    clear hn
    refine Lw.val (Ex.move rfl) rfl ?_
    refine Lw.val (Ex.extract (i := 0) rfl rfl) rfl ?_
    refine Lw.val (Ex.extract (i := 1) rfl rfl) rfl ?_
    refine Lw.valW (Xw.new it_25) rfl ?_
    rintro _ w ⟨rfl, b, hn, -⟩
    refine Lw.unit (Xu.stA (cs := [a3.x, a3.y]) rfl rfl rfl rfl ha3.one b rfl) ?_
    rintro w ⟨b3, hg, -⟩
    have hn := hn.grown hg (below_size hn) (by rintro _ ⟨⟩; exact Nat.le_refl _)
    clear hg b
    replace hB := hB.bs hn
    replace ha := ha.bs hn
    replace hb := hb.bs hn
    replace ba := ba.bs hn
    replace bb := bb.bs hn
    replace ha1 := ha1.bs hn
    replace b1 := b1.bs hn
    replace ha2 := ha2.bs hn
    replace b2 := b2.bs hn
    replace ha3 := ha3.bs hn
    clear hn
    refine Lw.val (Ex.assign rfl) rfl ?_
    refine Lw.nil ?_
    refine Pw.thenN (Cw.out ?_)
    refine Cw.seq ?_
    refine Cw.region ?_
    refine Lw.val (Ex.ldA (ag_25 _) (sz_25 _) rfl rfl (by assumption)) rfl ?_
    refine Lw.val (Ex.move rfl) rfl ?_
    refine Lw.callF rfl rfl (shift_p a z _ ha) ?_
    rintro r w ⟨hn, a4, rfl, ha4, n4, z4⟩
    replace hB := hB.bs hn
    replace ha := ha.bs hn
    replace hb := hb.bs hn
    replace ba := ba.bs hn
    replace bb := bb.bs hn
    replace ha1 := ha1.bs hn
    replace b1 := b1.bs hn
    replace ha2 := ha2.bs hn
    replace b2 := b2.bs hn
    replace ha3 := ha3.bs hn
    replace b3 := b3.bs hn
    clear hn
    refine Lw.val (Ex.move rfl) rfl ?_
    refine Lw.val (Ex.extract (i := 0) rfl rfl) rfl ?_
    refine Lw.val (Ex.extract (i := 1) rfl rfl) rfl ?_
    refine Lw.valW (Xw.new it_25) rfl ?_
    rintro _ w ⟨rfl, b, hn, -⟩
    refine Lw.unit (Xu.stA (cs := [a4.x, a4.y]) rfl rfl rfl rfl ha4.one b rfl) ?_
    rintro w ⟨b4, hg, -⟩
    have hn := hn.grown hg (below_size hn) (by rintro _ ⟨⟩; exact Nat.le_refl _)
    clear hg b
    replace hB := hB.bs hn
    replace ha := ha.bs hn
    replace hb := hb.bs hn
    replace ba := ba.bs hn
    replace bb := bb.bs hn
    replace ha1 := ha1.bs hn
    replace b1 := b1.bs hn
    replace ha2 := ha2.bs hn
    replace b2 := b2.bs hn
    replace ha3 := ha3.bs hn
    replace b3 := b3.bs hn
    replace ha4 := ha4.bs hn
    clear hn
    refine Lw.val (Ex.assign rfl) rfl ?_
    refine Lw.nil ?_
    refine Pw.thenN (Cw.out ?_)
    refine Cw.seq ?_
    refine Cw.region ?_
    refine Lw.val (Ex.ldA (ag_25 _) (sz_25 _) rfl rfl (by assumption)) rfl ?_
    refine Lw.callF rfl rfl (tcheck_c a.x a.y a.s a.l _ ha.1 ha.2) ?_
    rintro _ w ⟨rfl, hn⟩
    replace hB := hB.bs hn
    replace ha := ha.bs hn
    replace hb := hb.bs hn
    replace ba := ba.bs hn
    replace bb := bb.bs hn
    replace ha1 := ha1.bs hn
    replace b1 := b1.bs hn
    replace ha2 := ha2.bs hn
    replace b2 := b2.bs hn
    replace ha3 := ha3.bs hn
    replace b3 := b3.bs hn
    replace ha4 := ha4.bs hn
    replace b4 := b4.bs hn
    clear hn
    have t1 := ha1.2
    have t2 := ha2.1
    have t4 := ha4.2
    refine Lw.val (Ex.assign rfl) rfl ?_
    refine Lw.nil ?_
    refine Pw.thenN (Cw.out ?_)
    refine Cw.seq ?_
    refine Cw.region ?_
    refine Lw.val (Ex.move rfl) rfl ?_
    refine Lw.val (Ex.move rfl) rfl ?_
    refine Lw.val (Ex.eql rfl rfl) rfl ?_
    refine Lw.val (Ex.move rfl) rfl ?_
    refine Lw.know 70 (v' := .bool true) rfl (congrArg Value.bool (decide_eq_true hwant)) ?_
    refine Lw.take (dj := 70) rfl rfl ?_
    refine Lw.val (Ex.move rfl) rfl ?_
    refine Lw.take (dj := 70) rfl rfl ?_
    refine Lw.val (Ex.move rfl) rfl ?_
    refine Lw.take (dj := 70) rfl rfl ?_
    refine Lw.val (Ex.eql rfl rfl) rfl ?_
    refine Lw.val (Ex.pickT rfl rfl) rfl ?_
    refine Lw.val (Ex.move rfl) rfl ?_
    refine Lw.know 75 (v' := .bool true) rfl (congrArg Value.bool (decide_eq_true hwant)) ?_
    refine Lw.take (dj := 75) rfl rfl ?_
    refine Lw.val (Ex.fieldAddr (q := 0) Try.underlying25 rfl (sz_23 _) rfl) rfl ?_
    refine Lw.take (dj := 75) rfl rfl ?_
    refine Lw.val (Ex.ldB (ag_23 _) rfl (by assumption) rfl) rfl ?_
    refine Lw.take (dj := 75) rfl rfl ?_
    refine Lw.val (Ex.lenS st_23 rfl (by assumption)) rfl ?_
    refine Lw.take (dj := 75) rfl rfl ?_
    refine Lw.val (Ex.eql rfl rfl) rfl ?_
    refine Lw.take (dj := 75) rfl rfl ?_
    refine Lw.val (Ex.move rfl) rfl ?_
    refine Lw.take (dj := 75) rfl rfl ?_
    refine Lw.val (Ex.neq rfl rfl) rfl ?_
    refine Lw.take (dj := 75) rfl rfl ?_
    refine Lw.val (Ex.eqlB un_4 rfl rfl) rfl ?_
    refine Lw.val (Ex.pickT rfl rfl) rfl ?_
    refine Lw.val (Ex.move rfl) rfl ?_
    refine Lw.know 84 (v' := .bool true) rfl (congrArg Value.bool (len_no (fun h => (n1 h).2) (fun h => (z1 h).2.1) (fun h => z2_len (e2_ok h)))) ?_
    refine Lw.take (dj := 84) rfl rfl ?_
    refine Lw.val (Ex.fieldAddr (q := 0) Try.underlying25 rfl (sz_22 _) rfl) rfl ?_
    refine Lw.take (dj := 84) rfl rfl ?_
    refine Lw.val (Ex.ldB (ag_22 _) rfl (by assumption) rfl) rfl ?_
    refine Lw.take (dj := 84) rfl rfl ?_
    refine Lw.val (Ex.lenS st_22 rfl (by assumption)) rfl ?_
    refine Lw.take (dj := 84) rfl rfl ?_
    refine Lw.val (Ex.eql rfl rfl) rfl ?_
    refine Lw.take (dj := 84) rfl rfl ?_
    refine Lw.val (Ex.move rfl) rfl ?_
    refine Lw.take (dj := 84) rfl rfl ?_
    refine Lw.val (Ex.neq rfl rfl) rfl ?_
    refine Lw.take (dj := 84) rfl rfl ?_
    refine Lw.val (Ex.eqlB un_4 rfl rfl) rfl ?_
    refine Lw.val (Ex.pickT rfl rfl) rfl ?_
    refine Lw.val (Ex.move rfl) rfl ?_
    refine Lw.know 93 (v' := .bool true) rfl (congrArg Value.bool (len_no (fun h => (n2 h).1) (fun h => (z2 h).1) (fun h => s_len (e2_ok h)))) ?_
    refine Lw.take (dj := 93) rfl rfl ?_
    refine Lw.val (Ex.move rfl) rfl ?_
    refine Lw.take (dj := 93) rfl rfl ?_
    refine Lw.val (Ex.eql rfl rfl) rfl ?_
    refine Lw.take (dj := 93) rfl rfl ?_
    refine Lw.val (Ex.move rfl) rfl ?_
    refine Lw.take (dj := 93) rfl rfl ?_
    refine Lw.val (Ex.eqlB un_4 rfl rfl) rfl ?_
    refine Lw.val (Ex.pickT rfl rfl) rfl ?_
    refine Lw.val (Ex.move rfl) rfl ?_
    refine Lw.know 99 (v' := .bool true) rfl (congrArg Value.bool (e1_eq _ _)) ?_
    refine Lw.take (dj := 99) rfl rfl ?_
    refine Lw.val (Ex.move rfl) rfl ?_
    refine Lw.take (dj := 99) rfl rfl ?_
    refine Lw.val (Ex.eql rfl rfl) rfl ?_
    refine Lw.take (dj := 99) rfl rfl ?_
    refine Lw.val (Ex.move rfl) rfl ?_
    refine Lw.take (dj := 99) rfl rfl ?_
    refine Lw.val (Ex.move rfl) rfl ?_
    refine Lw.part 103 rfl ?_ ?_
    · intro g1
      refine Lw.take (dj := 103) rfl rfl ?_
      refine Lw.val (Ex.move rfl) rfl ?_
      refine Lw.take (dj := 103) rfl rfl ?_
      refine Lw.val (Ex.geq rfl rfl) rfl ?_
      refine Lw.take (dj := 99) rfl rfl ?_
      refine Lw.val (Ex.pickT rfl rfl) rfl ?_
      refine Lw.take (dj := 99) rfl rfl ?_
      refine Lw.val (Ex.move rfl) rfl ?_
      refine Lw.part 107 rfl ?_ ?_
      · intro g2
        refine Lw.take (dj := 107) rfl rfl ?_
        refine Lw.val (Ex.move rfl) rfl ?_
        refine Lw.take (dj := 107) rfl rfl ?_
        refine Lw.val (Ex.leq rfl rfl) rfl ?_
        refine Lw.take (dj := 99) rfl rfl ?_
        refine Lw.val (Ex.pickT rfl rfl) rfl ?_
        refine Lw.take (dj := 99) rfl rfl ?_
        refine Lw.val (Ex.eqlB un_4 rfl rfl) rfl ?_
        refine Lw.val (Ex.pickT rfl rfl) rfl ?_
        refine Lw.val (Ex.move rfl) rfl ?_
        refine Lw.know 113 (v' := .bool true) rfl (congrArg Value.bool (by rw [eSh_eq, g1, g2]; simp)) ?_
        refine Lw.take (dj := 113) rfl rfl ?_
        refine Lw.val (Ex.fieldAddr (q := 0) Try.underlying25 rfl (sz_23 _) rfl) rfl ?_
        refine Lw.take (dj := 113) rfl rfl ?_
        refine Lw.val (Ex.ldB (ag_23 _) rfl (by assumption) rfl) rfl ?_
        refine Lw.take (dj := 113) rfl rfl ?_
        refine Lw.val (Ex.lenS st_23 rfl (by assumption)) rfl ?_
        refine Lw.take (dj := 113) rfl rfl ?_
        refine Lw.val (Ex.eql rfl rfl) rfl ?_
        refine Lw.take (dj := 113) rfl rfl ?_
        refine Lw.val (Ex.move rfl) rfl ?_
        refine Lw.take (dj := 113) rfl rfl ?_
        refine Lw.val (Ex.neq rfl rfl) rfl ?_
        refine Lw.take (dj := 113) rfl rfl ?_
        refine Lw.val (Ex.eqlB un_4 rfl rfl) rfl ?_
        refine Lw.val (Ex.pickT rfl rfl) rfl ?_
        refine Lw.val (Ex.assign rfl) rfl ?_
        refine Lw.nil ?_
        refine Pw.thenN (Cw.out ?_)
        refine Cw.ret ?_
        refine Pw.ret1 rfl rfl ?_
        exact ⟨congrArg Value.bool (len_no (fun h => (n4 h).2) (fun h => (z4 h).2.1) (fun h => z1_len (eSh_ok h))), hB⟩
      · intro g2
        refine Lw.pass (dj := 107) rfl rfl rfl rfl ?_
        refine Lw.pass (dj := 107) rfl rfl rfl rfl ?_
        refine Lw.take (dj := 99) rfl rfl ?_
        refine Lw.val (Ex.pickF rfl rfl) rfl ?_
        refine Lw.take (dj := 99) rfl rfl ?_
        refine Lw.val (Ex.eqlB un_4 rfl rfl) rfl ?_
        refine Lw.val (Ex.pickT rfl rfl) rfl ?_
        refine Lw.val (Ex.move rfl) rfl ?_
        refine Lw.know 113 (v' := .bool true) rfl (congrArg Value.bool (by rw [eSh_eq, g1, g2]; simp)) ?_
        refine Lw.take (dj := 113) rfl rfl ?_
        refine Lw.val (Ex.fieldAddr (q := 0) Try.underlying25 rfl (sz_23 _) rfl) rfl ?_
        refine Lw.take (dj := 113) rfl rfl ?_
        refine Lw.val (Ex.ldB (ag_23 _) rfl (by assumption) rfl) rfl ?_
        refine Lw.take (dj := 113) rfl rfl ?_
        refine Lw.val (Ex.lenS st_23 rfl (by assumption)) rfl ?_
        refine Lw.take (dj := 113) rfl rfl ?_
        refine Lw.val (Ex.eql rfl rfl) rfl ?_
        refine Lw.take (dj := 113) rfl rfl ?_
        refine Lw.val (Ex.move rfl) rfl ?_
        refine Lw.take (dj := 113) rfl rfl ?_
        refine Lw.val (Ex.neq rfl rfl) rfl ?_
        refine Lw.take (dj := 113) rfl rfl ?_
        refine Lw.val (Ex.eqlB un_4 rfl rfl) rfl ?_
        refine Lw.val (Ex.pickT rfl rfl) rfl ?_
        refine Lw.val (Ex.assign rfl) rfl ?_
        refine Lw.nil ?_
        refine Pw.thenN (Cw.out ?_)
        refine Cw.ret ?_
        refine Pw.ret1 rfl rfl ?_
        exact ⟨congrArg Value.bool (len_no (fun h => (n4 h).2) (fun h => (z4 h).2.1) (fun h => z1_len (eSh_ok h))), hB⟩
    intro g1
    refine Lw.pass (dj := 103) rfl rfl rfl rfl ?_
    refine Lw.pass (dj := 103) rfl rfl rfl rfl ?_
    refine Lw.take (dj := 99) rfl rfl ?_
    refine Lw.val (Ex.pickF rfl rfl) rfl ?_
    refine Lw.take (dj := 99) rfl rfl ?_
    refine Lw.val (Ex.move rfl) rfl ?_
    refine Lw.pass (dj := 107) rfl rfl rfl rfl ?_
    refine Lw.pass (dj := 107) rfl rfl rfl rfl ?_
    refine Lw.take (dj := 99) rfl rfl ?_
    refine Lw.val (Ex.pickF rfl rfl) rfl ?_
    refine Lw.take (dj := 99) rfl rfl ?_
    refine Lw.val (Ex.eqlB un_4 rfl rfl) rfl ?_
    refine Lw.val (Ex.pickT rfl rfl) rfl ?_
    refine Lw.val (Ex.move rfl) rfl ?_
    refine Lw.know 113 (v' := .bool true) rfl (congrArg Value.bool (by rw [eSh_eq, g1]; simp)) ?_
    refine Lw.take (dj := 113) rfl rfl ?_
    refine Lw.val (Ex.fieldAddr (q := 0) Try.underlying25 rfl (sz_23 _) rfl) rfl ?_
    refine Lw.take (dj := 113) rfl rfl ?_
    refine Lw.val (Ex.ldB (ag_23 _) rfl (by assumption) rfl) rfl ?_
    refine Lw.take (dj := 113) rfl rfl ?_
    refine Lw.val (Ex.lenS st_23 rfl (by assumption)) rfl ?_
    refine Lw.take (dj := 113) rfl rfl ?_
    refine Lw.val (Ex.eql rfl rfl) rfl ?_
    refine Lw.take (dj := 113) rfl rfl ?_
    refine Lw.val (Ex.move rfl) rfl ?_
    refine Lw.take (dj := 113) rfl rfl ?_
    refine Lw.val (Ex.neq rfl rfl) rfl ?_
    refine Lw.take (dj := 113) rfl rfl ?_
    refine Lw.val (Ex.eqlB un_4 rfl rfl) rfl ?_
    refine Lw.val (Ex.pickT rfl rfl) rfl ?_
    refine Lw.val (Ex.assign rfl) rfl ?_
    refine Lw.nil ?_
    refine Pw.thenN (Cw.out ?_)
    refine Cw.ret ?_
    refine Pw.ret1 rfl rfl ?_
    exact ⟨congrArg Value.bool (len_no (fun h => (n4 h).2) (fun h => (z4 h).2.1) (fun h => z1_len (eSh_ok h))), hB⟩

set_option maxRecDepth 100000 in
theorem mathsRefuse_lifted (os : Os) (started : os.Started) (H : Type) (enc : TypeId × Value → H) :
    ReturnsInHanded {} Try.checked os 7 .any (Rows.mathsRefuseSpec.pre6 enc Try.prog Try.f7 Rows.mathsRefuseRow.domain false) (Rows.mathsRefuseSpec.post enc Try.prog Try.f7 false true false false) := by
  refine returnsInHanded_of_change_sized (C := Try.checked) own started (by kernel_rfl) Try.func7
    (ChangeSpec.witness6 (enc := enc) (C := Try.checked) false ⟨#[], #[.agg #[.slice none 0 0, .slice none 0 0], .agg #[.slice none 0 0, .slice none 0 0], .int .i64 0], []⟩ 8 (by kernel_rfl) (by kernel_rfl) (by kernel_rfl) (by kernel_rfl)) ?_
  intro W base args ds gs before hval0 hW hcnd hsz0 _
  have hval : ∀ (j : Nat) t v, Try.f7.params[j]? = some t → args[j]? = some v → Value.okWide Try.prog W .any base t v := hval0
  have hW' := hW
  obtain ⟨p, q, hA0, hV, rfl, hfz, hnd⟩ := hW
  have hA : DataW.TrodAll enc Try.prog W 0 (fun _ => true) true Try.f7.params.toList args.toList ds p := hA0
  have hsz : (DataW.weightsEach Try.prog (Try.f7.params.toList ++ Rows.mathsRefuseSpec.plain.varTypes Try.prog) (ds ++ gs)).all (· ≤ reachBytes) = true := hsz0
  rw [Try.params7] at hA hval hsz
  obtain ⟨v0, vs0, d0, ds0, p0, q0, hargs, rfl, rfl, h0, r0⟩ := trodAll_cons hA
  obtain ⟨v1, vs1, d1, ds1, p1, q1, rfl, rfl, rfl, h1, r1⟩ := trodAll_cons r0
  obtain ⟨v2, vs2, d2, ds2, p2, q2, rfl, rfl, rfl, h2, r2⟩ := trodAll_cons r1
  obtain ⟨rfl, rfl, rfl⟩ := trodAll_nil r2
  obtain rfl : args = #[v0, v1, v2] := by cases args; simp_all
  obtain ⟨rfl, rfl⟩ := trodVars_none hV
  have k0 := h0
  have lt0 : ∀ x ∈ p0, x.block < W.heap.size := by obtain ⟨m, hm⟩ := k0; exact DataW.trod_lt m _ _ _ hm
  have i0 := in_of (j := 0) (t := 25) hsz rfl rfl h0
  have o0 := hval 0 25 v0 rfl rfl
  have k1 := h1
  have lt1 : ∀ x ∈ p1, x.block < W.heap.size := by obtain ⟨m, hm⟩ := k1; exact DataW.trod_lt m _ _ _ hm
  have i1 := in_of (j := 1) (t := 25) hsz rfl rfl h1
  have o1 := hval 1 25 v1 rfl rfl
  have k2 := h2
  have lt2 : ∀ x ∈ p2, x.block < W.heap.size := by obtain ⟨m, hm⟩ := k2; exact DataW.trod_lt m _ _ _ hm
  have i2 := in_of (j := 2) (t := 3) hsz rfl rfl h2
  have o2 := hval 2 3 v2 rfl rfl
  clear hA0 hval0 hsz0 hsz
  obtain ⟨a, rfl, ha, ba1, ba2⟩ := arg_ten o0 i0
  obtain ⟨b, rfl, hb, bb1, bb2⟩ := arg_ten o1 i1
  obtain ⟨m, rfl, -⟩ := arg_int un_3 o2 i2
  refine (law_calls (mathsRefuse_w a b m W ha hb (by omega) (by omega) (by omega) (by omega))).mono fun e W' ⟨he, bel⟩ => ?_
  subst he
  exact ⟨_, rfl, _, _, _, [], _, [], hW', trodAll_mk1 (shut_bool un_4 _), (trodAll_cons_mk (Below.trod laidOut (by kernel_rfl) (of_decide_eq_true (by kernel_rfl)) k0 bel lt0) (trodAll_cons_mk (Below.trod laidOut (by kernel_rfl) (of_decide_eq_true (by kernel_rfl)) k1 bel lt1) (trodAll_cons_mk (Below.trod laidOut (by kernel_rfl) (of_decide_eq_true (by kernel_rfl)) k2 bel lt2) trodAll_mk0))), rfl, bel.frame _, fun h => by cases h⟩

/-- The statement. -/
theorem mathsRefuse_proved : Rows.MathsRefuseSaid :=
  OpenClaim.holds_of_wide 7 Try.f7 rfl rfl rfl rfl rfl rfl rfl ⟨rfl, rfl, rfl, rfl, rfl⟩ rfl rfl rfl rfl rfl (by kernel_rfl) Try.func7 (by kernel_rfl)
    (of_decide_eq_true (by kernel_rfl)) (by unfold Func.isWrapper; first | (rw [if_pos (by decide +kernel)]; kernel_rfl) | (rw [if_neg (by decide +kernel)]; exact ⟨rfl, rfl⟩))
    (fun os started H enc _ => mathsRefuse_lifted os started H enc)
#print axioms mathsRefuse_proved
end Go.Proofs.Ythgckokpdgiilaa
