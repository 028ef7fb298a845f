/- A tensor is as itself, and as another one just if the other one is as it; unlike ones that may be have unlike bytes; one number that is another one makes it another one: for any two tensors, any number, any other; no condition. -/
import Derived.Test.YtjfghiepdnonjaaTensorsLaws
import Derived.Test.YtjfghiepdnonjaaTensorsArg
import Derived.Test.YtjfghiepdnonjaaTwinTensor
namespace Go.Proofs.Ytjfghiepdnonjaa
open Go Go.Dd Go.RowKit Go.ChangeShapes Go.WideShapes Go.ChangeAt

theorem same_not {s t : List Int} {l m : List (BitVec 32)} (h1 : s = t) (h2 : l = m) : (!(decide (s = t) && decide (l = m))) = false := by rw [decide_eq_true h1, decide_eq_true h2]; rfl
theorem same_turn (s t : List Int) (l m : List (BitVec 32)) : (!((decide (t = s) && decide (m = l)) == (decide (s = t) && decide (l = m)))) = false := by
  have h1 : decide (t = s) = decide (s = t) := decide_eq_decide.2 ⟨Eq.symm, Eq.symm⟩
  have h2 : decide (m = l) = decide (l = m) := decide_eq_decide.2 ⟨Eq.symm, Eq.symm⟩
  rw [h1, h2]; simp
theorem same_bytes {s t : List Int} {l m : List (BitVec 32)} (h1 : putE s l = 0) (h2 : putE t m = 0) : (!((decide (s = t) && decide (l = m)) == decide (putR s l = putR t m))) = false := by
  have k1 : tok s l = true := by cases h : tok s l <;> simp [putE, h] at h1 ⊢
  have k2 : tok t m = true := by cases h : tok t m <;> simp [putE, h] at h2 ⊢
  have e : decide (putR s l = putR t m) = (decide (s = t) && decide (l = m)) := by
    rw [← Bool.decide_and]
    refine decide_eq_decide.2 ⟨fun h => ?_, fun ⟨h3, h4⟩ => by rw [h3, h4]⟩
    simp only [putR, k1, k2, if_true] at h
    obtain ⟨-, g1, g2⟩ := get_put k1
    obtain ⟨-, g3, g4⟩ := get_put k2
    rw [h] at g1 g2
    exact ⟨g1.symm.trans g3, g2.symm.trans g4⟩
  rw [e]; simp
theorem same_xor (s : List Int) (l : List (BitVec 32)) (k : Nat) (b : BitVec 32) (hk : k < l.length) : ((decide (s = s) && decide (l = l.set k (l.getD k default ^^^ b))) == decide (b = 0#32)) = true := by
  have e : decide (l = l.set k (l.getD k default ^^^ b)) = decide (b = 0#32) := by
    refine decide_eq_decide.2 ⟨fun h => ?_, fun h => ?_⟩
    · have h2 := congrArg (fun q => q.getD k default) h
      simp only [List.getD_eq_getElem?_getD, List.getElem?_set_self hk, Option.getD_some] at h2
      have h3 : (l[k]?.getD default) ^^^ ((l[k]?.getD default) ^^^ b) = 0#32 := by rw [← h2]; simp
      rwa [← BitVec.xor_assoc, BitVec.xor_self, BitVec.zero_xor] at h3
    · subst h
      have hx : l.getD k default = l[k] := by simp [hk]
      rw [BitVec.xor_zero, hx, List.set_getElem_self]
  rw [e]; simp

theorem tensorsSame_w (a b : T4) (zp : BitVec 16) (zq : BitVec 32) (W : World) (h_a : a.at W) (h_b : b.at W) (b1 : a.s.length ≤ 1125899906842624) (b2 : a.l.length ≤ 1125899906842624) (b3 : b.s.length ≤ 1125899906842624) (b4 : b.l.length ≤ 1125899906842624) :
    Fnc Try.prog 4 [a.v, b.v, .agg #[u16 zp, i32 zq]] W (fun r w' => r = .bool true ∧ Below W.heap.size W w') := by
  have hB := Below.refl W.heap.size W
  have tz : ∀ c : T4, c.s.length ≤ 1125899906842624 → c.l.length ≤ 1125899906842624 → 0 ≤ tsz c.s c.l ∧ tsz c.s c.l ≤ 4503599627370496 := fun c h1 h2 => by unfold tsz; split <;> omega
  refine Fnc.enter (n := 96) Try.func4 (by kernel_rfl) rfl rfl rfl ?_
  refine Cw.seq ?_
  refine Cw.region ?_
  refine Lw.boxV (cs := [a.x, a.y]) rfl rfl rfl ?_
  rintro A_a w eA_a b_a hn -
  replace hB := hB.bs hn
  replace h_a := h_a.bs hn
  replace h_b := h_b.bs hn
  clear hn
  refine Lw.boxV (cs := [b.x, b.y]) rfl rfl rfl ?_
  rintro A_b w eA_b b_b hn -
  replace hB := hB.bs hn
  replace h_a := h_a.bs hn
  replace h_b := h_b.bs hn
  replace b_a := b_a.bs hn
  clear hn
  refine Lw.boxV (cs := [u16 zp, i32 zq]) rfl rfl rfl ?_
  rintro A_z w eA_z b_z hn -
  replace hB := hB.bs hn
  replace h_a := h_a.bs hn
  replace h_b := h_b.bs hn
  replace b_a := b_a.bs hn
  replace b_b := b_b.bs hn
  clear hn
  refine Lw.val (Ex.assign rfl) rfl ?_
  refine Lw.nil ?_
  refine Pw.thenN (Cw.out ?_)
  refine Cw.seq ?_
  refine Cw.seq ?_
  refine Cw.tail 7 mixed (by kernel_rfl) ?_
  refine Qw.callF rfl rfl (fun w1 hq => (alive_c w1).q hq) ?_
  refine Qw.val (fun w1 hq => Ex.not rfl) rfl ?_
  refine Qw.val (fun w1 hq => Ex.move rfl) rfl ?_
  refine Qw.know 16 (v' := .bool false) rfl (congrArg Value.bool (rfl)) ?_
  refine Qw.take (dj := 16) rfl rfl ?_
  refine Qw.val (fun w1 hq => Ex.ldA (ag_25 _) (sz_25 _) rfl rfl (Blk.bs (by assumption) hq)) rfl ?_
  refine Qw.take (dj := 16) rfl rfl ?_
  refine Qw.callF rfl rfl (fun w1 hq => (tsize_c a w1 (h_a.bs hq) b1 b2).q hq) ?_
  refine Qw.take (dj := 16) rfl rfl ?_
  refine Qw.val (fun w1 hq => Ex.ldA (ag_25 _) (sz_25 _) rfl rfl (Blk.bs (by assumption) hq)) rfl ?_
  refine Qw.take (dj := 16) rfl rfl ?_
  refine Qw.callF rfl rfl (fun w1 hq => (tsize_c b w1 (h_b.bs hq) b3 b4).q hq) ?_
  refine Qw.done (fun w3 hq => ?_)
  refine Lw.take (dj := 16) rfl rfl ?_
  replace hB := hB.bs hq
  replace h_a := h_a.bs hq
  replace h_b := h_b.bs hq
  replace b_a := b_a.bs hq
  replace b_b := b_b.bs hq
  replace b_z := b_z.bs hq
  clear hq
  refine Lw.valW (Xw.lit (vs := [tsz a.s a.l, tsz b.s b.l].map (Value.int .i64)) st_22 it_3 rfl rfl rfl rfl rfl) rfl ?_
  rintro u w ⟨ho, -, hn, -⟩
  replace hB := hB.bs hn
  replace h_a := h_a.bs hn
  replace h_b := h_b.bs hn
  replace b_a := b_a.bs hn
  replace b_b := b_b.bs hn
  replace b_z := b_z.bs hn
  clear hn
  refine Lw.take (dj := 16) rfl rfl ?_
  refine Lw.callF rfl rfl (beyond_c u [tsz a.s a.l, tsz b.s b.l] w (own_slT ho) (by intro x hx; simp at hx; rcases hx with rfl | rfl; exact tz a b1 b2; exact tz b b3 b4)) ?_
  rintro _ w ⟨rfl, hn⟩
  replace hB := hB.bs hn
  replace h_a := h_a.bs hn
  replace h_b := h_b.bs hn
  replace b_a := b_a.bs hn
  replace b_b := b_b.bs hn
  replace b_z := b_z.bs hn
  clear hn
  refine Lw.val (Ex.pickF rfl rfl) rfl ?_
  refine Lw.nil ?_
  refine Pw.thenN (Cw.out ?_)
  refine Cw.cond rfl ?_ ?_
  · intro _
    refine Cw.seq ?_
    refine Cw.region ?_
    refine Lw.callF rfl rfl (alive_c _) ?_
    rintro _ w ⟨rfl, hn⟩
    replace hB := hB.bs hn
    replace h_a := h_a.bs hn
    replace h_b := h_b.bs hn
    replace b_a := b_a.bs hn
    replace b_b := b_b.bs hn
    replace b_z := b_z.bs hn
    clear hn
    refine Lw.val (Ex.assign rfl) rfl ?_
    refine Lw.nil ?_
    refine Pw.thenN (Cw.out ?_)
    refine Cw.ret ?_
    refine Pw.thenR ?_
    refine Pw.ret1 rfl rfl ?_
    exact ⟨rfl, hB⟩
  intro g
  have hbey := bey_no (Int.le_refl 0) (by intro x hx; simp at hx; rcases hx with rfl | rfl; exact (tz a b1 b2).1; exact (tz b b3 b4).1) g
  obtain ⟨la, lla⟩ : a.s.length ≤ 1048576 ∧ a.l.length ≤ 1048576 := by
    have := hbey (tsz a.s a.l) (by simp)
    unfold tsz at this; split at this <;> omega
  clear g hbey ho tz b1 b2 b3 b4
  refine Cw.skip ?_
  refine Pw.thenN (Cw.out ?_)
  refine Cw.seq ?_
  refine Cw.region ?_
  refine Lw.val (Ex.ldA (ag_25 _) (sz_25 _) rfl rfl (by assumption)) rfl ?_
  refine Lw.val (Ex.ldA (ag_25 _) (sz_25 _) rfl rfl (by assumption)) rfl ?_
  refine Lw.callF rfl rfl (same_c _ _ _ _ _ _ _ _ _ h_a.1 h_a.2 h_b.1 h_b.2) ?_
  rintro _ w ⟨rfl, hn⟩
  replace hB := hB.bs hn
  replace h_a := h_a.bs hn
  replace h_b := h_b.bs hn
  replace b_a := b_a.bs hn
  replace b_b := b_b.bs hn
  replace b_z := b_z.bs hn
  clear hn
  refine Lw.val (Ex.assign rfl) rfl ?_
  refine Lw.nil ?_
  refine Pw.thenN (Cw.out ?_)
  refine Cw.seq ?_
  refine Cw.region ?_
  refine Lw.val (Ex.ldA (ag_25 _) (sz_25 _) rfl rfl (by assumption)) rfl ?_
  refine Lw.callF rfl rfl (put_p a _ h_a) ?_
  rintro _ w ⟨hn, x, rfl, t_x⟩
  replace hB := hB.bs hn
  replace h_a := h_a.bs hn
  replace h_b := h_b.bs hn
  replace b_a := b_a.bs hn
  replace b_b := b_b.bs hn
  replace b_z := b_z.bs hn
  clear hn
  refine Lw.val (Ex.move rfl) rfl ?_
  refine Lw.val (Ex.extract (i := 0) rfl rfl) rfl ?_
  refine Lw.val (Ex.extract (i := 1) rfl rfl) rfl ?_
  refine Lw.val (Ex.assign rfl) rfl ?_
  refine Lw.val (Ex.assign rfl) rfl ?_
  refine Lw.nil ?_
  refine Pw.thenN (Cw.out ?_)
  refine Cw.seq ?_
  refine Cw.region ?_
  refine Lw.val (Ex.ldA (ag_25 _) (sz_25 _) rfl rfl (by assumption)) rfl ?_
  refine Lw.callF rfl rfl (put_p b _ h_b) ?_
  rintro _ w ⟨hn, y, rfl, t_y⟩
  replace hB := hB.bs hn
  replace h_a := h_a.bs hn
  replace h_b := h_b.bs hn
  replace b_a := b_a.bs hn
  replace b_b := b_b.bs hn
  replace b_z := b_z.bs hn
  replace t_x := t_x.bs hn
  clear hn
  refine Lw.val (Ex.move rfl) rfl ?_
  refine Lw.val (Ex.extract (i := 0) rfl rfl) rfl ?_
  refine Lw.val (Ex.extract (i := 1) rfl rfl) rfl ?_
  refine Lw.val (Ex.assign rfl) rfl ?_
  refine Lw.val (Ex.assign rfl) rfl ?_
  refine Lw.nil ?_
  refine Pw.thenN (Cw.out ?_)
  refine Cw.seq ?_
  refine Cw.seq ?_
  refine Cw.mid (F := [(3, .pointer (some ⟨A_a, 0, none⟩)), (5, .pointer (some ⟨A_z, 0, none⟩)), (63, .bool false)]) (I := fun w' => Below w.heap.size w w') ?_ ?_
  · have hM := Below.refl w.heap.size w
    refine Cw.region ?_
    refine Lw.val (Ex.ldA (ag_25 _) (sz_25 _) rfl rfl (by assumption)) rfl ?_
    refine Lw.val (Ex.ldA (ag_25 _) (sz_25 _) rfl rfl (by assumption)) rfl ?_
    refine Lw.callF rfl rfl (same_c _ _ _ _ _ _ _ _ _ h_a.1 h_a.2 h_a.1 h_a.2) ?_
    rintro _ w ⟨rfl, hn⟩
    replace hB := hB.bs hn
    replace h_a := h_a.bs hn
    replace h_b := h_b.bs hn
    replace b_a := b_a.bs hn
    replace b_b := b_b.bs hn
    replace b_z := b_z.bs hn
    replace t_x := t_x.bs hn
    replace t_y := t_y.bs hn
    replace hM := hM.bs hn
    clear hn
    refine Lw.val (Ex.not rfl) rfl ?_
    refine Lw.val (Ex.move rfl) rfl ?_
    refine Lw.know 42 (v' := .bool false) rfl (congrArg Value.bool (same_not rfl rfl)) ?_
    refine Lw.take (dj := 42) rfl rfl ?_
    refine Lw.val (Ex.ldA (ag_25 _) (sz_25 _) rfl rfl (by assumption)) rfl ?_
    refine Lw.take (dj := 42) rfl rfl ?_
    refine Lw.val (Ex.ldA (ag_25 _) (sz_25 _) rfl rfl (by assumption)) rfl ?_
    refine Lw.take (dj := 42) rfl rfl ?_
    refine Lw.callF rfl rfl (same_c _ _ _ _ _ _ _ _ _ h_b.1 h_b.2 h_a.1 h_a.2) ?_
    rintro _ w ⟨rfl, hn⟩
    replace hB := hB.bs hn
    replace h_a := h_a.bs hn
    replace h_b := h_b.bs hn
    replace b_a := b_a.bs hn
    replace b_b := b_b.bs hn
    replace b_z := b_z.bs hn
    replace t_x := t_x.bs hn
    replace t_y := t_y.bs hn
    replace hM := hM.bs hn
    clear hn
    refine Lw.take (dj := 42) rfl rfl ?_
    refine Lw.val (Ex.move rfl) rfl ?_
    refine Lw.take (dj := 42) rfl rfl ?_
    refine Lw.val (Ex.neqB un_4 rfl rfl) rfl ?_
    refine Lw.val (Ex.pickF rfl rfl) rfl ?_
    refine Lw.val (Ex.move rfl) rfl ?_
    refine Lw.know 49 (v' := .bool false) rfl (congrArg Value.bool (same_turn _ _ _ _)) ?_
    refine Lw.take (dj := 49) rfl rfl ?_
    refine Lw.val (Ex.move rfl) rfl ?_
    refine Lw.take (dj := 49) rfl rfl ?_
    refine Lw.val (Ex.eql rfl rfl) rfl ?_
    refine Lw.take (dj := 49) rfl rfl ?_
    refine Lw.val (Ex.move rfl) rfl ?_
    refine Lw.part 52 rfl ?_ ?_
    · intro e1
      have e1 := of_decide_eq_true e1
      refine Lw.take (dj := 52) rfl rfl ?_
      refine Lw.val (Ex.move rfl) rfl ?_
      refine Lw.take (dj := 52) rfl rfl ?_
      refine Lw.val (Ex.eql rfl rfl) rfl ?_
      refine Lw.take (dj := 49) rfl rfl ?_
      refine Lw.val (Ex.pickT rfl rfl) rfl ?_
      refine Lw.take (dj := 49) rfl rfl ?_
      refine Lw.val (Ex.move rfl) rfl ?_
      refine Lw.part 56 rfl ?_ ?_
      · intro e2
        have e2 := of_decide_eq_true e2
        refine Lw.take (dj := 56) rfl rfl ?_
        refine Lw.val (Ex.move rfl) rfl ?_
        refine Lw.take (dj := 56) rfl rfl ?_
        refine Lw.val (Ex.move rfl) rfl ?_
        refine Lw.take (dj := 56) rfl rfl ?_
        refine Lw.val (Ex.move rfl) rfl ?_
        refine Lw.take (dj := 56) rfl rfl ?_
        refine Lw.callF rfl rfl (sameBytes_c x y _ _ _ t_x t_y) ?_
        rintro _ w ⟨rfl, hn⟩
        replace hB := hB.bs hn
        replace h_a := h_a.bs hn
        replace h_b := h_b.bs hn
        replace b_a := b_a.bs hn
        replace b_b := b_b.bs hn
        replace b_z := b_z.bs hn
        replace t_x := t_x.bs hn
        replace t_y := t_y.bs hn
        replace hM := hM.bs hn
        clear hn
        refine Lw.take (dj := 56) rfl rfl ?_
        refine Lw.val (Ex.neqB un_4 rfl rfl) rfl ?_
        refine Lw.take (dj := 49) rfl rfl ?_
        refine Lw.val (Ex.pickT rfl rfl) rfl ?_
        refine Lw.val (Ex.pickF rfl rfl) rfl ?_
        refine Lw.nil ?_
        exact Pw.mid ⟨rfl, rfl, congrArg (fun b => some (Value.bool b)) (same_bytes e1 e2), trivial⟩ (hM)
      · intro _
        refine Lw.pass (dj := 56) rfl rfl rfl rfl ?_
        refine Lw.pass (dj := 56) rfl rfl rfl rfl ?_
        refine Lw.pass (dj := 56) rfl rfl rfl rfl ?_
        refine Lw.pass (dj := 56) rfl rfl rfl rfl ?_
        refine Lw.pass (dj := 56) rfl rfl rfl rfl ?_
        refine Lw.take (dj := 49) rfl rfl ?_
        refine Lw.val (Ex.pickF rfl rfl) rfl ?_
        refine Lw.val (Ex.pickF rfl rfl) rfl ?_
        refine Lw.nil ?_
        exact Pw.mid ⟨rfl, rfl, rfl, trivial⟩ (hM)
    · intro _
      refine Lw.pass (dj := 52) rfl rfl rfl rfl ?_
      refine Lw.pass (dj := 52) rfl rfl rfl rfl ?_
      refine Lw.take (dj := 49) rfl rfl ?_
      refine Lw.val (Ex.pickF rfl rfl) rfl ?_
      refine Lw.take (dj := 49) rfl rfl ?_
      refine Lw.val (Ex.move rfl) rfl ?_
      refine Lw.pass (dj := 56) rfl rfl rfl rfl ?_
      refine Lw.pass (dj := 56) rfl rfl rfl rfl ?_
      refine Lw.pass (dj := 56) rfl rfl rfl rfl ?_
      refine Lw.pass (dj := 56) rfl rfl rfl rfl ?_
      refine Lw.pass (dj := 56) rfl rfl rfl rfl ?_
      refine Lw.take (dj := 49) rfl rfl ?_
      refine Lw.val (Ex.pickF rfl rfl) rfl ?_
      refine Lw.val (Ex.pickF rfl rfl) rfl ?_
      refine Lw.nil ?_
      exact Pw.mid ⟨rfl, rfl, rfl, trivial⟩ (hM)
  intro w hn
  replace hB := hB.bs hn
  replace h_a := h_a.bs hn
  replace h_b := h_b.bs hn
  replace b_a := b_a.bs hn
  replace b_b := b_b.bs hn
  replace b_z := b_z.bs hn
  replace t_x := t_x.bs hn
  replace t_y := t_y.bs hn
  clear hn
  refine Cw.out ?_
  have h_a2 := h_a.2
  refine Cw.condB rfl false (rfl) ?_
  refine Cw.skip ?_
  refine Pw.thenN (Cw.out ?_)
  refine Cw.seq ?_
  refine Cw.seq ?_
  refine Cw.region ?_
  refine Lw.val (Ex.fieldAddr (q := 0) Try.underlying25 rfl (sz_23 _) rfl) rfl ?_
  refine Lw.val (Ex.ldB (ag_23 _) rfl (by assumption) rfl) rfl ?_
  refine Lw.val (Ex.lenS st_23 rfl (by assumption)) rfl ?_
  refine Lw.val (Ex.eql rfl rfl) rfl ?_
  refine Lw.nil ?_
  refine Pw.thenN (Cw.out ?_)
  refine Cw.cond rfl ?_ ?_
  · intro _
    refine Cw.seq ?_
    refine Cw.region ?_
    refine Lw.val (Ex.assign rfl) rfl ?_
    refine Lw.nil ?_
    refine Pw.thenN (Cw.out ?_)
    refine Cw.ret ?_
    refine Pw.thenR ?_
    refine Pw.ret1 rfl rfl ?_
    exact ⟨rfl, hB⟩
  intro g
  have l0 : 0 < a.l.length := by have := of_decide_eq_false g; omega
  clear g h_a2
  refine Cw.skip ?_
  refine Pw.thenN (Cw.out ?_)
  refine Cw.seq ?_
  refine Cw.region ?_
  refine Lw.val (Ex.ldA (ag_25 _) (sz_25 _) rfl rfl (by assumption)) rfl ?_
  refine Lw.callF rfl rfl (twinTensor_c a w h_a (by omega) (by omega)) ?_
  rintro _ w7 ⟨hn7, mx, my, rfl, hm⟩
  refine Lw.boxed (cs := [mx, my]) it_25 rfl rfl rfl rfl (fun _ => rfl) (hm.one) ?_
  rintro A_m w8 eA_m b_m hn8 zhn8
  have M := mine_new hm eA_m b_m hn8 zhn8 hn7.size
  have hw8 := bt hn7 hn8
  have z8 := hw8.size
  have b_m := M.box
  have y_m := M.sly
  have b_z8 := b_z.bs hw8
  clear hm hn7 hn8 eA_m zhn8
  obtain ⟨k, hk⟩ : ∃ k, k = zp.toNat % a.l.length := ⟨_, rfl⟩
  have hkl : k < a.l.length := by rw [hk]; exact Nat.mod_lt _ l0
  refine Lw.nil ?_
  refine Pw.thenN (Cw.out ?_)
  refine Cw.seq ?_
  refine Cw.region ?_
  refine Lw.val (Ex.fieldAddr (q := 0) Try.underlying42 rfl (sz_40 _) rfl) rfl ?_
  refine Lw.val (Ex.ldB (ag_40 _) rfl (by assumption) rfl) rfl ?_
  refine Lw.val (Ex.conv16_I us_40 un_3 rfl) rfl ?_
  refine Lw.val (Ex.fieldAddr (q := 0) Try.underlying25 rfl (sz_23 _) rfl) rfl ?_
  refine Lw.val (Ex.ldB (ag_23 _) rfl (by assumption) rfl) rfl ?_
  refine Lw.val (Ex.lenS st_23 rfl (by assumption)) rfl ?_
  refine Lw.val ((Ex.remN rfl rfl l0).as (congrArg (fun n : Nat => Value.int .i64 (n : Int)) hk.symm)) rfl ?_
  refine Lw.val (Ex.assign rfl) rfl ?_
  refine Lw.nil ?_
  refine Pw.thenN (Cw.out ?_)
  refine Cw.seq ?_
  refine Cw.tail 12 mixed (by kernel_rfl) ?_
  refine Qw.val (fun w1 hq => Ex.fieldAddr (q := 0) Try.underlying25 rfl (sz_23 _) rfl) rfl ?_
  refine Qw.val (fun w1 hq => Ex.ldB (ag_23 _) rfl (Blk.bs (by assumption) hq) rfl) rfl ?_
  refine Qw.val (fun w1 hq => Ex.move rfl) rfl ?_
  refine Qw.val (fun w1 hq => Ex.fieldAddr (q := 0) Try.underlying25 rfl (sz_23 _) rfl) rfl ?_
  refine Qw.val (fun w1 hq => Ex.ldB (ag_23 _) rfl (Blk.bs (by assumption) hq) rfl) rfl ?_
  refine Qw.val (fun w1 hq => Ex.move rfl) rfl ?_
  refine Qw.val (fun w1 hq => Ex.idxT st_23 rfl rfl (Sl.bs (by assumption) hq) _ rfl (by omega)) rfl ?_
  refine Qw.val (fun w1 hq => Ex.ldT (ag_21 _) rfl (Sl.bs (by assumption) hq) (by omega)) rfl ?_
  refine Qw.val (fun w1 hq => Ex.fieldAddr (q := 0) Try.underlying42 rfl (sz_21 _) rfl) rfl ?_
  refine Qw.val (fun w1 hq => Ex.ldB (ag_21 _) rfl (Blk.bs (by assumption) hq) rfl) rfl ?_
  refine Qw.val (fun w1 hq => Ex.xori32 rfl rfl) rfl ?_
  refine Qw.val (fun w1 hq => Ex.idxT st_23 rfl rfl (Sl.bs (by assumption) hq) _ rfl (by omega)) rfl ?_
  refine Qw.done (fun w9 hq => ?_)
  refine Lw.unit ((M.bs hq).st (sz_21 _) rfl rfl hkl) ?_
  rintro w10 ⟨M2, hg2, -⟩
  have hw10 := (M.bs hq).below (bt hw8 hq) (Nat.le_refl _) hg2
  clear hq
  have b_m := M2.box
  have h_m := mine_at M2
  have h_a := h_a.bs hw10
  have b_a := b_a.bs hw10
  have b_z := b_z.bs hw10
  have hB := hB.bs hw10
  clear M M2 hw8 hw10 hg2
  refine Lw.nil ?_
  refine Pw.thenN (Cw.out ?_)
  refine Cw.seq ?_
  refine Cw.any mixed (fun w1 hd _ => ?_)
  refine Aw.seg (St := Unit) (g := 2) [0, 1, 2, 3, 4, 5] 6 (fun s => [(91, .bool (decide (a.s = a.s) && decide (a.l = a.l.set k (a.l.getD k default ^^^ zq)))), (94, .bool (decide (zq = 0#32)))]) (fun s w' => Below w10.heap.size w10 w') (by kernel_rfl) rfl ?_ ?_
  · refine Aw.cls (fun w' => Below w10.heap.size w10 w') (fun hC => ?_) (hd)
    refine AwC.take (i := 0) (NoP.thn (NoP.thn NoP.ret)) rfl (by kernel_rfl) (by kernel_rfl) (by kernel_rfl) (fun w1 hc => Ex.ldA (ag_25 _) (sz_25 _) rfl rfl (Blk.bs (by assumption) hc)) rfl ?_
    refine AwC.take (i := 1) (NoP.thn (NoP.thn NoP.ret)) rfl (by kernel_rfl) (by kernel_rfl) (by kernel_rfl) (fun w1 hc => Ex.ldA (ag_25 _) (sz_25 _) rfl rfl (Blk.bs (by assumption) hc)) rfl ?_
    refine AwC.take (i := 3) (NoP.thn (NoP.thn NoP.ret)) rfl (by kernel_rfl) (by kernel_rfl) (by kernel_rfl) (fun w1 hc => Ex.fieldAddr (q := 0) Try.underlying42 rfl (sz_21 _) rfl) rfl ?_
    refine AwC.take (i := 4) (NoP.thn (NoP.thn NoP.ret)) rfl (by kernel_rfl) (by kernel_rfl) (by kernel_rfl) (fun w1 hc => Ex.ldB (ag_21 _) rfl (Blk.bs (by assumption) hc) rfl) rfl ?_
    refine AwC.take (i := 5) (NoP.thn (NoP.thn NoP.ret)) rfl (by kernel_rfl) (by kernel_rfl) (by kernel_rfl) (fun w1 hc => Ex.eqli32 rfl (show _ = some (i32 (0#32)) from rfl)) rfl ?_
    refine AwC.only (by assumption) (i := 2) (by kernel_rfl) rfl ?_
    refine Lw.callF rfl rfl (same_c _ _ _ _ _ _ _ _ w1 (h_a.bs hd).1 (h_a.bs hd).2 (h_m.bs hd).1 (h_m.bs hd).2) ?_
    rintro _ w2 ⟨rfl, hn⟩
    have hn2 := bt hd hn
    refine AwC.back ?_
    refine AwC.done (by assumption) (by kernel_rfl) ?_
    exact Pw.thenN (Pw.seg (()) ⟨rfl, rfl, trivial⟩ (hn2))
  rintro _ w2 hn
  refine Aw.take (i := 6) (NoP.thn NoP.ret) rfl (by kernel_rfl) (by kernel_rfl) (by kernel_rfl) (fun _ => Ex.eqlB un_4 rfl rfl) rfl ?_
  refine Aw.take (i := 7) (NoP.thn NoP.ret) rfl (by kernel_rfl) (by kernel_rfl) (by kernel_rfl) (fun _ => Ex.assign rfl) rfl ?_
  refine Aw.done (by kernel_rfl) ?_
  refine Pw.thenN (Cw.out ?_)
  refine Cw.ret ?_
  refine Pw.ret1 rfl rfl ?_
  exact ⟨congrArg Value.bool (same_xor _ _ _ _ hkl), bt hB hn⟩

set_option maxRecDepth 100000 in
set_option maxHeartbeats 2000000 in
theorem tensorsSame_lifted (os : Os) (started : os.Started) (H : Type) (enc : TypeId × Value → H) :
    ReturnsInHanded {} Try.checked os 4 .any (Rows.tensorsSameSpec.pre6 enc Try.prog Try.f4 Rows.tensorsSameRow.domain false) (Rows.tensorsSameSpec.post enc Try.prog Try.f4 false true false false) := by
  refine returnsInHanded_of_change_sized (C := Try.checked) own started (by kernel_rfl) Try.func4
    (ChangeSpec.witness6 (enc := enc) (C := Try.checked) false ⟨#[], #[.agg #[.slice none 0 0, .slice none 0 0], .agg #[.slice none 0 0, .slice none 0 0], .agg #[.int .u16 0, .int .i32 0]], []⟩ 8 (by kernel_rfl) (by kernel_rfl) (by kernel_rfl) (by kernel_rfl)) ?_
  intro W base args ds gs before hval0 hW hcnd hsz0 _
  have hval : ∀ (j : Nat) t v, Try.f4.params[j]? = some t → args[j]? = some v → Value.okWide Try.prog W .any base t v := hval0
  have hW' := hW
  obtain ⟨p, q, hA0, hV, rfl, hfz, hnd⟩ := hW
  have hA : DataW.TrodAll enc Try.prog W 0 (fun _ => true) true Try.f4.params.toList args.toList ds p := hA0
  have hsz : (DataW.weightsEach Try.prog (Try.f4.params.toList ++ Rows.tensorsSameSpec.plain.varTypes Try.prog) (ds ++ gs)).all (· ≤ reachBytes) = true := hsz0
  rw [Try.params4] at hA hval hsz
  obtain ⟨v0, vs0, d0, ds0, p0, q0, hargs, rfl, rfl, h0, r0⟩ := trodAll_cons hA
  obtain ⟨v1, vs1, d1, ds1, p1, q1, rfl, rfl, rfl, h1, r1⟩ := trodAll_cons r0
  obtain ⟨v2, vs2, d2, ds2, p2, q2, rfl, rfl, rfl, h2, r2⟩ := trodAll_cons r1
  obtain ⟨rfl, rfl, rfl⟩ := trodAll_nil r2
  obtain rfl : args = #[v0, v1, v2] := by cases args; simp_all
  obtain ⟨rfl, rfl⟩ := trodVars_none hV
  have k0 := h0
  have lt0 : ∀ x ∈ p0, x.block < W.heap.size := by obtain ⟨m, hm⟩ := k0; exact DataW.trod_lt m _ _ _ hm
  have i0 := in_of (j := 0) (t := 25) hsz rfl rfl h0
  have o0 := hval 0 25 v0 rfl rfl
  have k1 := h1
  have lt1 : ∀ x ∈ p1, x.block < W.heap.size := by obtain ⟨m, hm⟩ := k1; exact DataW.trod_lt m _ _ _ hm
  have i1 := in_of (j := 1) (t := 25) hsz rfl rfl h1
  have o1 := hval 1 25 v1 rfl rfl
  have k2 := h2
  have lt2 : ∀ x ∈ p2, x.block < W.heap.size := by obtain ⟨m, hm⟩ := k2; exact DataW.trod_lt m _ _ _ hm
  have i2 := in_of (j := 2) (t := 42) hsz rfl rfl h2
  have o2 := hval 2 42 v2 rfl rfl
  clear hA0 hval0 hsz0 hsz
  obtain ⟨a, rfl, ha, b1, b2⟩ := arg_ten o0 i0
  obtain ⟨b, rfl, hb, b3, b4⟩ := arg_ten o1 i1
  obtain ⟨cs, rfl, hin⟩ := arg_struct Try.underlying42 o2 i2
  obtain ⟨hlen, hel⟩ := hin.struct Try.underlying42
  have c2 : Try.prog.cellsOf 42 = 2 := by kernel_rfl
  have c16 : Try.prog.cellsOf 40 = 1 := by kernel_rfl
  have c32 : Try.prog.cellsOf 21 = 1 := by kernel_rfl
  rw [c2] at hlen
  obtain ⟨x, y, rfl⟩ := two_of hlen
  obtain ⟨p, e0⟩ := In.num (BitVec.ofInt 16) u16 (fun _ h => wf_u16 h) un_40 (hel 0 _ rfl)
  obtain ⟨q, e1⟩ := In.num (BitVec.ofInt 32) i32 (fun _ h => wf_i32 h) un_21 (hel 1 _ rfl)
  simp [c16, c32] at e0 e1
  subst e0 e1
  refine (law_calls (tensorsSame_w a b p q W ha hb (by omega) (by omega) (by omega) (by omega))).mono fun e W' ⟨he, bel⟩ => ?_
  subst he
  exact ⟨_, rfl, _, _, _, [], _, [], hW', trodAll_mk1 (shut_bool un_4 _), (trodAll_cons_mk (Below.trod laidOut (by kernel_rfl) (of_decide_eq_true (by kernel_rfl)) k0 bel lt0) (trodAll_cons_mk (Below.trod laidOut (by kernel_rfl) (of_decide_eq_true (by kernel_rfl)) k1 bel lt1) (trodAll_cons_mk (Below.trod laidOut (by kernel_rfl) (of_decide_eq_true (by kernel_rfl)) k2 bel lt2) trodAll_mk0))), rfl, bel.frame _, fun h => by cases h⟩

/-- The statement. -/
theorem tensorsSame_proved : Rows.TensorsSameSaid :=
  OpenClaim.holds_of_wide 4 Try.f4 rfl rfl rfl rfl rfl rfl rfl ⟨rfl, rfl, rfl, rfl, rfl⟩ rfl rfl rfl rfl rfl (by kernel_rfl) Try.func4 (by kernel_rfl)
    (of_decide_eq_true (by kernel_rfl)) (by unfold Func.isWrapper; first | (rw [if_pos (by decide +kernel)]; kernel_rfl) | (rw [if_neg (by decide +kernel)]; exact ⟨rfl, rfl⟩))
    (fun os started H enc _ => tensorsSame_lifted os started H enc)
#print axioms tensorsSame_proved
end Go.Proofs.Ytjfghiepdnonjaa
