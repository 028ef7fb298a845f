/- A product goes with sums, on either side: for any numbers, any three directions; no condition. -/
import Derived.Test.YtdliencelkdibaaProductsLaw
import Derived.Test.YtdliencelkdibaaMathsLaw
namespace Go.Proofs.Ytdliencelkdibaa
open Go Go.Dd Go.RowKit Go.ChangeShapes Go.WideShapes Go.ChangeAt


theorem add_yes {W w : World} {r : Value} {a b : T4} {m n : Nat} (ha : Two a m n) (hb : Two b m n) (h : Gets W w r (e2 a.s a.l b.s b.l) a.s (z2 (· + ·) a.s a.l b.l)) :
    ∃ c : T4, r = .tuple #[c.v, .int .i64 0] ∧ c.at w ∧ Two c m n ∧ c.l = ad (m * n) a.l b.l := by
  obtain ⟨c, hr, hc, -, hz⟩ := h
  have e0 : e2 a.s a.l b.s b.l = 0 := by unfold e2; rw [ha.ok, hb.ok, hb.s, ha.s, if_pos rfl]; rfl
  obtain ⟨h1, h2, -⟩ := hz e0
  have hz : z2 (· + ·) a.s a.l b.l = ad (m * n) a.l b.l := by
    unfold z2 ad
    rw [ha.s, (small_ok ha.m1 ha.n1).2]
  exact ⟨c, by rw [hr, e0], hc, ⟨by rw [h1, ha.s], by rw [h2, hz]; simp [ad], ha.m1, ha.n1⟩, by rw [h2, hz]⟩

theorem productsSums_w (u0 u1 u2 : Value) (l0 l1 l2 : List (BitVec 32)) (d0 d1 d2 : BitVec 8) (W : World) (h0 : SlT i32 W u0 l0) (h1 : SlT i32 W u1 l1) (h2 : SlT i32 W u2 l2) (q0 : l0.length ≤ 1125899906842624) (q1 : l1.length ≤ 1125899906842624) (q2 : l2.length ≤ 1125899906842624) :
    Fnc Try.prog 5 [.agg [u0, u1, u2].toArray, .agg [b8 d0, b8 d1, b8 d2].toArray] W (fun r w' => r = .bool true ∧ Below W.heap.size W w') := by
  have hB := Below.refl W.heap.size W
  refine Fnc.enter (n := 154) Try.func5 (by kernel_rfl) rfl rfl rfl ?_
  refine Cw.seq ?_
  refine Cw.region ?_
  refine Lw.boxV (cs := [u0, u1, u2]) rfl rfl rfl ?_
  rintro A_l w eA_l b_l hn -
  replace hB := hB.bs hn
  replace h0 := h0.bs hn
  replace h1 := h1.bs hn
  replace h2 := h2.bs hn
  clear hn
  refine Lw.boxV (cs := [b8 d0, b8 d1, b8 d2]) rfl rfl rfl ?_
  rintro A_d w eA_d b_d hn -
  replace hB := hB.bs hn
  replace h0 := h0.bs hn
  replace h1 := h1.bs hn
  replace h2 := h2.bs hn
  replace b_l := b_l.bs hn
  clear hn
  refine Lw.val (Ex.assign rfl) rfl ?_
  refine Lw.nil ?_
  refine Pw.thenN (Cw.out ?_)
  refine Cw.seq ?_
  refine Cw.seq ?_
  refine Cw.region ?_
  refine Lw.callF rfl rfl (alive_c _) ?_
  rintro _ w ⟨rfl, hn⟩
  replace hB := hB.bs hn
  replace h0 := h0.bs hn
  replace h1 := h1.bs hn
  replace h2 := h2.bs hn
  replace b_l := b_l.bs hn
  replace b_d := b_d.bs hn
  clear hn
  refine Lw.val (Ex.not rfl) rfl ?_
  refine Lw.val (Ex.move rfl) rfl ?_
  refine Lw.know 29 (v' := .bool false) rfl (congrArg Value.bool (rfl)) ?_
  refine Lw.take (dj := 29) rfl rfl ?_
  refine Lw.val (Ex.idxB un_23 sz_22 rfl rfl 0 rfl (by decide)) rfl ?_
  refine Lw.take (dj := 29) rfl rfl ?_
  refine Lw.val (Ex.ldB (ag_22 _) rfl (by assumption) rfl) rfl ?_
  refine Lw.take (dj := 29) rfl rfl ?_
  refine Lw.val (Ex.lenS st_22 rfl (by assumption)) rfl ?_
  refine Lw.take (dj := 29) rfl rfl ?_
  refine Lw.val (Ex.idxB un_23 sz_22 rfl rfl 1 rfl (by decide)) rfl ?_
  refine Lw.take (dj := 29) rfl rfl ?_
  refine Lw.val (Ex.ldB (ag_22 _) rfl (by assumption) rfl) rfl ?_
  refine Lw.take (dj := 29) rfl rfl ?_
  refine Lw.val (Ex.lenS st_22 rfl (by assumption)) rfl ?_
  refine Lw.take (dj := 29) rfl rfl ?_
  refine Lw.val (Ex.addI rfl rfl (by omega)) rfl ?_
  refine Lw.take (dj := 29) rfl rfl ?_
  refine Lw.val (Ex.idxB un_23 sz_22 rfl rfl 2 rfl (by decide)) rfl ?_
  refine Lw.take (dj := 29) rfl rfl ?_
  refine Lw.val (Ex.ldB (ag_22 _) rfl (by assumption) rfl) rfl ?_
  refine Lw.take (dj := 29) rfl rfl ?_
  refine Lw.val (Ex.lenS st_22 rfl (by assumption)) rfl ?_
  refine Lw.take (dj := 29) rfl rfl ?_
  refine Lw.val (Ex.addI rfl rfl (by omega)) rfl ?_
  refine Lw.take (dj := 29) rfl rfl ?_
  refine Lw.val (Ex.gtr rfl rfl) rfl ?_
  refine Lw.val (Ex.pickF rfl rfl) rfl ?_
  refine Lw.nil ?_
  refine Pw.thenN (Cw.out ?_)
  refine Cw.cond rfl ?_ ?_
  · intro _
    refine Cw.seq ?_
    refine Cw.region ?_
    refine Lw.callF rfl rfl (alive_c _) ?_
    rintro _ w ⟨rfl, hn⟩
    replace hB := hB.bs hn
    replace h0 := h0.bs hn
    replace h1 := h1.bs hn
    replace h2 := h2.bs hn
    replace b_l := b_l.bs hn
    replace b_d := b_d.bs hn
    clear hn
    refine Lw.val (Ex.assign rfl) rfl ?_
    refine Lw.nil ?_
    refine Pw.thenN (Cw.out ?_)
    refine Cw.ret ?_
    refine Pw.thenR ?_
    refine Pw.ret1 rfl rfl ?_
    exact ⟨rfl, hB⟩
  intro _
  refine Cw.skip ?_
  refine Pw.thenN (Cw.out ?_)
  refine Cw.seq ?_
  refine Cw.region ?_
  refine Lw.val (Ex.idxB un_39 sz_5 rfl rfl 0 rfl (by decide)) rfl ?_
  refine Lw.val (Ex.ldB (ag_5 _) rfl (by assumption) rfl) rfl ?_
  refine Lw.val (Ex.idxB un_39 sz_5 rfl rfl 1 rfl (by decide)) rfl ?_
  refine Lw.val (Ex.ldB (ag_5 _) rfl (by assumption) rfl) rfl ?_
  refine Lw.val (Ex.idxB un_23 sz_22 rfl rfl 0 rfl (by decide)) rfl ?_
  refine Lw.val (Ex.ldB (ag_22 _) rfl (by assumption) rfl) rfl ?_
  refine Lw.callF rfl rfl (made_c d0 d1 u0 l0 _ h0) ?_
  rintro _ w ⟨a, rfl, h_a, t_a, hn⟩
  replace hB := hB.bs hn
  replace h0 := h0.bs hn
  replace h1 := h1.bs hn
  replace h2 := h2.bs hn
  replace b_l := b_l.bs hn
  replace b_d := b_d.bs hn
  clear hn
  refine Lw.boxed (cs := [a.x, a.y]) it_28 rfl rfl rfl rfl (fun _ => rfl) (h_a.one) ?_
  rintro A_a w eA_a b_a hn -
  replace hB := hB.bs hn
  replace h0 := h0.bs hn
  replace h1 := h1.bs hn
  replace h2 := h2.bs hn
  replace b_l := b_l.bs hn
  replace b_d := b_d.bs hn
  replace h_a := h_a.bs hn
  clear hn
  refine Lw.nil ?_
  refine Pw.thenN (Cw.out ?_)
  refine Cw.seq ?_
  refine Cw.region ?_
  refine Lw.val (Ex.idxB un_39 sz_5 rfl rfl 0 rfl (by decide)) rfl ?_
  refine Lw.val (Ex.ldB (ag_5 _) rfl (by assumption) rfl) rfl ?_
  refine Lw.val (Ex.idxB un_39 sz_5 rfl rfl 1 rfl (by decide)) rfl ?_
  refine Lw.val (Ex.ldB (ag_5 _) rfl (by assumption) rfl) rfl ?_
  refine Lw.val (Ex.idxB un_23 sz_22 rfl rfl 1 rfl (by decide)) rfl ?_
  refine Lw.val (Ex.ldB (ag_22 _) rfl (by assumption) rfl) rfl ?_
  refine Lw.callF rfl rfl (made_c d0 d1 u1 l1 _ h1) ?_
  rintro _ w ⟨b, rfl, h_b, t_b, hn⟩
  replace hB := hB.bs hn
  replace h0 := h0.bs hn
  replace h1 := h1.bs hn
  replace h2 := h2.bs hn
  replace b_l := b_l.bs hn
  replace b_d := b_d.bs hn
  replace h_a := h_a.bs hn
  replace b_a := b_a.bs hn
  clear hn
  refine Lw.boxed (cs := [b.x, b.y]) it_28 rfl rfl rfl rfl (fun _ => rfl) (h_b.one) ?_
  rintro A_b w eA_b b_b hn -
  replace hB := hB.bs hn
  replace h0 := h0.bs hn
  replace h1 := h1.bs hn
  replace h2 := h2.bs hn
  replace b_l := b_l.bs hn
  replace b_d := b_d.bs hn
  replace h_a := h_a.bs hn
  replace b_a := b_a.bs hn
  replace h_b := h_b.bs hn
  clear hn
  refine Lw.nil ?_
  refine Pw.thenN (Cw.out ?_)
  refine Cw.seq ?_
  refine Cw.region ?_
  refine Lw.val (Ex.idxB un_39 sz_5 rfl rfl 1 rfl (by decide)) rfl ?_
  refine Lw.val (Ex.ldB (ag_5 _) rfl (by assumption) rfl) rfl ?_
  refine Lw.val (Ex.idxB un_39 sz_5 rfl rfl 2 rfl (by decide)) rfl ?_
  refine Lw.val (Ex.ldB (ag_5 _) rfl (by assumption) rfl) rfl ?_
  refine Lw.val (Ex.idxB un_23 sz_22 rfl rfl 2 rfl (by decide)) rfl ?_
  refine Lw.val (Ex.ldB (ag_22 _) rfl (by assumption) rfl) rfl ?_
  refine Lw.callF rfl rfl (made_c d1 d2 u2 l2 _ h2) ?_
  rintro _ w ⟨c, rfl, h_c, t_c, hn⟩
  replace hB := hB.bs hn
  replace h0 := h0.bs hn
  replace h1 := h1.bs hn
  replace h2 := h2.bs hn
  replace b_l := b_l.bs hn
  replace b_d := b_d.bs hn
  replace h_a := h_a.bs hn
  replace b_a := b_a.bs hn
  replace h_b := h_b.bs hn
  replace b_b := b_b.bs hn
  clear hn
  refine Lw.boxed (cs := [c.x, c.y]) it_28 rfl rfl rfl rfl (fun _ => rfl) (h_c.one) ?_
  rintro A_c w eA_c b_c hn -
  replace hB := hB.bs hn
  replace h0 := h0.bs hn
  replace h1 := h1.bs hn
  replace h2 := h2.bs hn
  replace b_l := b_l.bs hn
  replace b_d := b_d.bs hn
  replace h_a := h_a.bs hn
  replace b_a := b_a.bs hn
  replace h_b := h_b.bs hn
  replace b_b := b_b.bs hn
  replace h_c := h_c.bs hn
  clear hn
  refine Lw.nil ?_
  refine Pw.thenN (Cw.out ?_)
  refine Cw.seq ?_
  refine Cw.region ?_
  refine Lw.val (Ex.ldA (ag_28 _) (sz_28 _) rfl rfl (by assumption)) rfl ?_
  refine Lw.val (Ex.ldA (ag_28 _) (sz_28 _) rfl rfl (by assumption)) rfl ?_
  refine Lw.callF rfl rfl (add_p a b _ h_a h_b) ?_
  rintro r w ⟨hn, hg⟩
  obtain ⟨sum, rfl, h_sum, t_sum, l_sum⟩ := add_yes t_a t_b hg
  clear hg
  replace hB := hB.bs hn
  replace h0 := h0.bs hn
  replace h1 := h1.bs hn
  replace h2 := h2.bs hn
  replace b_l := b_l.bs hn
  replace b_d := b_d.bs hn
  replace h_a := h_a.bs hn
  replace b_a := b_a.bs hn
  replace h_b := h_b.bs hn
  replace b_b := b_b.bs hn
  replace h_c := h_c.bs hn
  replace b_c := b_c.bs hn
  clear hn
  refine Lw.val (Ex.move rfl) rfl ?_
  refine Lw.val (Ex.extract (i := 0) rfl rfl) rfl ?_
  refine Lw.val (Ex.extract (i := 1) rfl rfl) rfl ?_
  refine Lw.boxed (cs := [sum.x, sum.y]) it_28 rfl rfl rfl rfl (fun _ => rfl) (h_sum.one) ?_
  rintro A_sum w eA_sum b_sum hn -
  replace hB := hB.bs hn
  replace h0 := h0.bs hn
  replace h1 := h1.bs hn
  replace h2 := h2.bs hn
  replace b_l := b_l.bs hn
  replace b_d := b_d.bs hn
  replace h_a := h_a.bs hn
  replace b_a := b_a.bs hn
  replace h_b := h_b.bs hn
  replace b_b := b_b.bs hn
  replace h_c := h_c.bs hn
  replace b_c := b_c.bs hn
  replace h_sum := h_sum.bs hn
  clear hn
  refine Lw.val (Ex.assign rfl) rfl ?_
  refine Lw.nil ?_
  refine Pw.thenN (Cw.out ?_)
  refine Cw.seq ?_
  refine Cw.region ?_
  refine Lw.val (Ex.ldA (ag_28 _) (sz_28 _) rfl rfl (by assumption)) rfl ?_
  refine Lw.val (Ex.ldA (ag_28 _) (sz_28 _) rfl rfl (by assumption)) rfl ?_
  refine Lw.callF rfl rfl (prod_c a c _ h_a h_c) ?_
  rintro r w ⟨hn, hg⟩
  obtain ⟨ac, rfl, h_ac, t_ac, l_ac⟩ := prod_yes t_a t_c hg
  clear hg
  replace hB := hB.bs hn
  replace h0 := h0.bs hn
  replace h1 := h1.bs hn
  replace h2 := h2.bs hn
  replace b_l := b_l.bs hn
  replace b_d := b_d.bs hn
  replace h_a := h_a.bs hn
  replace b_a := b_a.bs hn
  replace h_b := h_b.bs hn
  replace b_b := b_b.bs hn
  replace h_c := h_c.bs hn
  replace b_c := b_c.bs hn
  replace h_sum := h_sum.bs hn
  replace b_sum := b_sum.bs hn
  clear hn
  refine Lw.val (Ex.move rfl) rfl ?_
  refine Lw.val (Ex.extract (i := 0) rfl rfl) rfl ?_
  refine Lw.val (Ex.extract (i := 1) rfl rfl) rfl ?_
  refine Lw.boxed (cs := [ac.x, ac.y]) it_28 rfl rfl rfl rfl (fun _ => rfl) (h_ac.one) ?_
  rintro A_ac w eA_ac b_ac hn -
  replace hB := hB.bs hn
  replace h0 := h0.bs hn
  replace h1 := h1.bs hn
  replace h2 := h2.bs hn
  replace b_l := b_l.bs hn
  replace b_d := b_d.bs hn
  replace h_a := h_a.bs hn
  replace b_a := b_a.bs hn
  replace h_b := h_b.bs hn
  replace b_b := b_b.bs hn
  replace h_c := h_c.bs hn
  replace b_c := b_c.bs hn
  replace h_sum := h_sum.bs hn
  replace b_sum := b_sum.bs hn
  replace h_ac := h_ac.bs hn
  clear hn
  refine Lw.val (Ex.assign rfl) rfl ?_
  refine Lw.nil ?_
  refine Pw.thenN (Cw.out ?_)
  refine Cw.seq ?_
  refine Cw.region ?_
  refine Lw.val (Ex.ldA (ag_28 _) (sz_28 _) rfl rfl (by assumption)) rfl ?_
  refine Lw.val (Ex.ldA (ag_28 _) (sz_28 _) rfl rfl (by assumption)) rfl ?_
  refine Lw.callF rfl rfl (prod_c b c _ h_b h_c) ?_
  rintro r w ⟨hn, hg⟩
  obtain ⟨bc, rfl, h_bc, t_bc, l_bc⟩ := prod_yes t_b t_c hg
  clear hg
  replace hB := hB.bs hn
  replace h0 := h0.bs hn
  replace h1 := h1.bs hn
  replace h2 := h2.bs hn
  replace b_l := b_l.bs hn
  replace b_d := b_d.bs hn
  replace h_a := h_a.bs hn
  replace b_a := b_a.bs hn
  replace h_b := h_b.bs hn
  replace b_b := b_b.bs hn
  replace h_c := h_c.bs hn
  replace b_c := b_c.bs hn
  replace h_sum := h_sum.bs hn
  replace b_sum := b_sum.bs hn
  replace h_ac := h_ac.bs hn
  replace b_ac := b_ac.bs hn
  clear hn
  refine Lw.val (Ex.move rfl) rfl ?_
  refine Lw.val (Ex.extract (i := 0) rfl rfl) rfl ?_
  refine Lw.val (Ex.extract (i := 1) rfl rfl) rfl ?_
  refine Lw.boxed (cs := [bc.x, bc.y]) it_28 rfl rfl rfl rfl (fun _ => rfl) (h_bc.one) ?_
  rintro A_bc w eA_bc b_bc hn -
  replace hB := hB.bs hn
  replace h0 := h0.bs hn
  replace h1 := h1.bs hn
  replace h2 := h2.bs hn
  replace b_l := b_l.bs hn
  replace b_d := b_d.bs hn
  replace h_a := h_a.bs hn
  replace b_a := b_a.bs hn
  replace h_b := h_b.bs hn
  replace b_b := b_b.bs hn
  replace h_c := h_c.bs hn
  replace b_c := b_c.bs hn
  replace h_sum := h_sum.bs hn
  replace b_sum := b_sum.bs hn
  replace h_ac := h_ac.bs hn
  replace b_ac := b_ac.bs hn
  replace h_bc := h_bc.bs hn
  clear hn
  refine Lw.val (Ex.assign rfl) rfl ?_
  refine Lw.nil ?_
  refine Pw.thenN (Cw.out ?_)
  refine Cw.seq ?_
  refine Cw.seq ?_
  refine Cw.region ?_
  refine Lw.val (Ex.move rfl) rfl ?_
  refine Lw.val (Ex.neq rfl rfl) rfl ?_
  refine Lw.val (Ex.move rfl) rfl ?_
  refine Lw.know 85 (v' := .bool false) rfl (congrArg Value.bool (rfl)) ?_
  refine Lw.take (dj := 85) rfl rfl ?_
  refine Lw.val (Ex.move rfl) rfl ?_
  refine Lw.take (dj := 85) rfl rfl ?_
  refine Lw.val (Ex.neq rfl rfl) rfl ?_
  refine Lw.val (Ex.pickF rfl rfl) rfl ?_
  refine Lw.val (Ex.move rfl) rfl ?_
  refine Lw.know 89 (v' := .bool false) rfl (congrArg Value.bool (rfl)) ?_
  refine Lw.take (dj := 89) rfl rfl ?_
  refine Lw.val (Ex.move rfl) rfl ?_
  refine Lw.take (dj := 89) rfl rfl ?_
  refine Lw.val (Ex.neq rfl rfl) rfl ?_
  refine Lw.val (Ex.pickF rfl rfl) rfl ?_
  refine Lw.nil ?_
  refine Pw.thenN (Cw.out ?_)
  refine Cw.condB rfl false (rfl) ?_
  refine Cw.skip ?_
  refine Pw.thenN (Cw.out ?_)
  refine Cw.seq ?_
  refine Cw.region ?_
  refine Lw.val (Ex.ldA (ag_28 _) (sz_28 _) rfl rfl (by assumption)) rfl ?_
  refine Lw.val (Ex.ldA (ag_28 _) (sz_28 _) rfl rfl (by assumption)) rfl ?_
  refine Lw.callF rfl rfl (prod_c sum c _ h_sum h_c) ?_
  rintro r w ⟨hn, hg⟩
  obtain ⟨left, rfl, h_left, t_left, l_left⟩ := prod_yes t_sum t_c hg
  clear hg
  replace hB := hB.bs hn
  replace h0 := h0.bs hn
  replace h1 := h1.bs hn
  replace h2 := h2.bs hn
  replace b_l := b_l.bs hn
  replace b_d := b_d.bs hn
  replace h_a := h_a.bs hn
  replace b_a := b_a.bs hn
  replace h_b := h_b.bs hn
  replace b_b := b_b.bs hn
  replace h_c := h_c.bs hn
  replace b_c := b_c.bs hn
  replace h_sum := h_sum.bs hn
  replace b_sum := b_sum.bs hn
  replace h_ac := h_ac.bs hn
  replace b_ac := b_ac.bs hn
  replace h_bc := h_bc.bs hn
  replace b_bc := b_bc.bs hn
  clear hn
  refine Lw.val (Ex.move rfl) rfl ?_
  refine Lw.val (Ex.extract (i := 0) rfl rfl) rfl ?_
  refine Lw.val (Ex.extract (i := 1) rfl rfl) rfl ?_
  refine Lw.boxed (cs := [left.x, left.y]) it_28 rfl rfl rfl rfl (fun _ => rfl) (h_left.one) ?_
  rintro A_left w eA_left b_left hn -
  replace hB := hB.bs hn
  replace h0 := h0.bs hn
  replace h1 := h1.bs hn
  replace h2 := h2.bs hn
  replace b_l := b_l.bs hn
  replace b_d := b_d.bs hn
  replace h_a := h_a.bs hn
  replace b_a := b_a.bs hn
  replace h_b := h_b.bs hn
  replace b_b := b_b.bs hn
  replace h_c := h_c.bs hn
  replace b_c := b_c.bs hn
  replace h_sum := h_sum.bs hn
  replace b_sum := b_sum.bs hn
  replace h_ac := h_ac.bs hn
  replace b_ac := b_ac.bs hn
  replace h_bc := h_bc.bs hn
  replace b_bc := b_bc.bs hn
  replace h_left := h_left.bs hn
  clear hn
  refine Lw.val (Ex.assign rfl) rfl ?_
  refine Lw.nil ?_
  refine Pw.thenN (Cw.out ?_)
  refine Cw.seq ?_
  refine Cw.region ?_
  refine Lw.val (Ex.ldA (ag_28 _) (sz_28 _) rfl rfl (by assumption)) rfl ?_
  refine Lw.val (Ex.ldA (ag_28 _) (sz_28 _) rfl rfl (by assumption)) rfl ?_
  refine Lw.callF rfl rfl (add_p ac bc _ h_ac h_bc) ?_
  rintro r w ⟨hn, hg⟩
  obtain ⟨right, rfl, h_right, t_right, l_right⟩ := add_yes t_ac t_bc hg
  clear hg
  replace hB := hB.bs hn
  replace h0 := h0.bs hn
  replace h1 := h1.bs hn
  replace h2 := h2.bs hn
  replace b_l := b_l.bs hn
  replace b_d := b_d.bs hn
  replace h_a := h_a.bs hn
  replace b_a := b_a.bs hn
  replace h_b := h_b.bs hn
  replace b_b := b_b.bs hn
  replace h_c := h_c.bs hn
  replace b_c := b_c.bs hn
  replace h_sum := h_sum.bs hn
  replace b_sum := b_sum.bs hn
  replace h_ac := h_ac.bs hn
  replace b_ac := b_ac.bs hn
  replace h_bc := h_bc.bs hn
  replace b_bc := b_bc.bs hn
  replace h_left := h_left.bs hn
  replace b_left := b_left.bs hn
  clear hn
  refine Lw.val (Ex.move rfl) rfl ?_
  refine Lw.val (Ex.extract (i := 0) rfl rfl) rfl ?_
  refine Lw.val (Ex.extract (i := 1) rfl rfl) rfl ?_
  refine Lw.boxed (cs := [right.x, right.y]) it_28 rfl rfl rfl rfl (fun _ => rfl) (h_right.one) ?_
  rintro A_right w eA_right b_right hn -
  replace hB := hB.bs hn
  replace h0 := h0.bs hn
  replace h1 := h1.bs hn
  replace h2 := h2.bs hn
  replace b_l := b_l.bs hn
  replace b_d := b_d.bs hn
  replace h_a := h_a.bs hn
  replace b_a := b_a.bs hn
  replace h_b := h_b.bs hn
  replace b_b := b_b.bs hn
  replace h_c := h_c.bs hn
  replace b_c := b_c.bs hn
  replace h_sum := h_sum.bs hn
  replace b_sum := b_sum.bs hn
  replace h_ac := h_ac.bs hn
  replace b_ac := b_ac.bs hn
  replace h_bc := h_bc.bs hn
  replace b_bc := b_bc.bs hn
  replace h_left := h_left.bs hn
  replace b_left := b_left.bs hn
  replace h_right := h_right.bs hn
  clear hn
  refine Lw.val (Ex.assign rfl) rfl ?_
  refine Lw.nil ?_
  refine Pw.thenN (Cw.out ?_)
  refine Cw.seq ?_
  refine Cw.region ?_
  refine Lw.val (Ex.idxB un_39 sz_5 rfl rfl 1 rfl (by decide)) rfl ?_
  refine Lw.val (Ex.ldB (ag_5 _) rfl (by assumption) rfl) rfl ?_
  refine Lw.val (Ex.idxB un_39 sz_5 rfl rfl 2 rfl (by decide)) rfl ?_
  refine Lw.val (Ex.ldB (ag_5 _) rfl (by assumption) rfl) rfl ?_
  refine Lw.val (Ex.idxB un_23 sz_22 rfl rfl 0 rfl (by decide)) rfl ?_
  refine Lw.val (Ex.ldB (ag_22 _) rfl (by assumption) rfl) rfl ?_
  refine Lw.callF rfl rfl (made_c d1 d2 u0 l0 _ h0) ?_
  rintro _ w ⟨x, rfl, h_x, t_x, hn⟩
  replace hB := hB.bs hn
  replace h0 := h0.bs hn
  replace h1 := h1.bs hn
  replace h2 := h2.bs hn
  replace b_l := b_l.bs hn
  replace b_d := b_d.bs hn
  replace h_a := h_a.bs hn
  replace b_a := b_a.bs hn
  replace h_b := h_b.bs hn
  replace b_b := b_b.bs hn
  replace h_c := h_c.bs hn
  replace b_c := b_c.bs hn
  replace h_sum := h_sum.bs hn
  replace b_sum := b_sum.bs hn
  replace h_ac := h_ac.bs hn
  replace b_ac := b_ac.bs hn
  replace h_bc := h_bc.bs hn
  replace b_bc := b_bc.bs hn
  replace h_left := h_left.bs hn
  replace b_left := b_left.bs hn
  replace h_right := h_right.bs hn
  replace b_right := b_right.bs hn
  clear hn
  refine Lw.boxed (cs := [x.x, x.y]) it_28 rfl rfl rfl rfl (fun _ => rfl) (h_x.one) ?_
  rintro A_x w eA_x b_x hn -
  replace hB := hB.bs hn
  replace h0 := h0.bs hn
  replace h1 := h1.bs hn
  replace h2 := h2.bs hn
  replace b_l := b_l.bs hn
  replace b_d := b_d.bs hn
  replace h_a := h_a.bs hn
  replace b_a := b_a.bs hn
  replace h_b := h_b.bs hn
  replace b_b := b_b.bs hn
  replace h_c := h_c.bs hn
  replace b_c := b_c.bs hn
  replace h_sum := h_sum.bs hn
  replace b_sum := b_sum.bs hn
  replace h_ac := h_ac.bs hn
  replace b_ac := b_ac.bs hn
  replace h_bc := h_bc.bs hn
  replace b_bc := b_bc.bs hn
  replace h_left := h_left.bs hn
  replace b_left := b_left.bs hn
  replace h_right := h_right.bs hn
  replace b_right := b_right.bs hn
  replace h_x := h_x.bs hn
  clear hn
  refine Lw.nil ?_
  refine Pw.thenN (Cw.out ?_)
  refine Cw.seq ?_
  refine Cw.region ?_
  refine Lw.val (Ex.ldA (ag_28 _) (sz_28 _) rfl rfl (by assumption)) rfl ?_
  refine Lw.val (Ex.ldA (ag_28 _) (sz_28 _) rfl rfl (by assumption)) rfl ?_
  refine Lw.callF rfl rfl (add_p c x _ h_c h_x) ?_
  rintro r w ⟨hn, hg⟩
  obtain ⟨cx, rfl, h_cx, t_cx, l_cx⟩ := add_yes t_c t_x hg
  clear hg
  replace hB := hB.bs hn
  replace h0 := h0.bs hn
  replace h1 := h1.bs hn
  replace h2 := h2.bs hn
  replace b_l := b_l.bs hn
  replace b_d := b_d.bs hn
  replace h_a := h_a.bs hn
  replace b_a := b_a.bs hn
  replace h_b := h_b.bs hn
  replace b_b := b_b.bs hn
  replace h_c := h_c.bs hn
  replace b_c := b_c.bs hn
  replace h_sum := h_sum.bs hn
  replace b_sum := b_sum.bs hn
  replace h_ac := h_ac.bs hn
  replace b_ac := b_ac.bs hn
  replace h_bc := h_bc.bs hn
  replace b_bc := b_bc.bs hn
  replace h_left := h_left.bs hn
  replace b_left := b_left.bs hn
  replace h_right := h_right.bs hn
  replace b_right := b_right.bs hn
  replace h_x := h_x.bs hn
  replace b_x := b_x.bs hn
  clear hn
  refine Lw.val (Ex.move rfl) rfl ?_
  refine Lw.val (Ex.extract (i := 0) rfl rfl) rfl ?_
  refine Lw.val (Ex.extract (i := 1) rfl rfl) rfl ?_
  refine Lw.boxed (cs := [cx.x, cx.y]) it_28 rfl rfl rfl rfl (fun _ => rfl) (h_cx.one) ?_
  rintro A_cx w eA_cx b_cx hn -
  replace hB := hB.bs hn
  replace h0 := h0.bs hn
  replace h1 := h1.bs hn
  replace h2 := h2.bs hn
  replace b_l := b_l.bs hn
  replace b_d := b_d.bs hn
  replace h_a := h_a.bs hn
  replace b_a := b_a.bs hn
  replace h_b := h_b.bs hn
  replace b_b := b_b.bs hn
  replace h_c := h_c.bs hn
  replace b_c := b_c.bs hn
  replace h_sum := h_sum.bs hn
  replace b_sum := b_sum.bs hn
  replace h_ac := h_ac.bs hn
  replace b_ac := b_ac.bs hn
  replace h_bc := h_bc.bs hn
  replace b_bc := b_bc.bs hn
  replace h_left := h_left.bs hn
  replace b_left := b_left.bs hn
  replace h_right := h_right.bs hn
  replace b_right := b_right.bs hn
  replace h_x := h_x.bs hn
  replace b_x := b_x.bs hn
  replace h_cx := h_cx.bs hn
  clear hn
  refine Lw.val (Ex.assign rfl) rfl ?_
  refine Lw.nil ?_
  refine Pw.thenN (Cw.out ?_)
  refine Cw.seq ?_
  refine Cw.region ?_
  refine Lw.val (Ex.ldA (ag_28 _) (sz_28 _) rfl rfl (by assumption)) rfl ?_
  refine Lw.val (Ex.ldA (ag_28 _) (sz_28 _) rfl rfl (by assumption)) rfl ?_
  refine Lw.callF rfl rfl (prod_c a x _ h_a h_x) ?_
  rintro r w ⟨hn, hg⟩
  obtain ⟨ax, rfl, h_ax, t_ax, l_ax⟩ := prod_yes t_a t_x hg
  clear hg
  replace hB := hB.bs hn
  replace h0 := h0.bs hn
  replace h1 := h1.bs hn
  replace h2 := h2.bs hn
  replace b_l := b_l.bs hn
  replace b_d := b_d.bs hn
  replace h_a := h_a.bs hn
  replace b_a := b_a.bs hn
  replace h_b := h_b.bs hn
  replace b_b := b_b.bs hn
  replace h_c := h_c.bs hn
  replace b_c := b_c.bs hn
  replace h_sum := h_sum.bs hn
  replace b_sum := b_sum.bs hn
  replace h_ac := h_ac.bs hn
  replace b_ac := b_ac.bs hn
  replace h_bc := h_bc.bs hn
  replace b_bc := b_bc.bs hn
  replace h_left := h_left.bs hn
  replace b_left := b_left.bs hn
  replace h_right := h_right.bs hn
  replace b_right := b_right.bs hn
  replace h_x := h_x.bs hn
  replace b_x := b_x.bs hn
  replace h_cx := h_cx.bs hn
  replace b_cx := b_cx.bs hn
  clear hn
  refine Lw.val (Ex.move rfl) rfl ?_
  refine Lw.val (Ex.extract (i := 0) rfl rfl) rfl ?_
  refine Lw.val (Ex.extract (i := 1) rfl rfl) rfl ?_
  refine Lw.boxed (cs := [ax.x, ax.y]) it_28 rfl rfl rfl rfl (fun _ => rfl) (h_ax.one) ?_
  rintro A_ax w eA_ax b_ax hn -
  replace hB := hB.bs hn
  replace h0 := h0.bs hn
  replace h1 := h1.bs hn
  replace h2 := h2.bs hn
  replace b_l := b_l.bs hn
  replace b_d := b_d.bs hn
  replace h_a := h_a.bs hn
  replace b_a := b_a.bs hn
  replace h_b := h_b.bs hn
  replace b_b := b_b.bs hn
  replace h_c := h_c.bs hn
  replace b_c := b_c.bs hn
  replace h_sum := h_sum.bs hn
  replace b_sum := b_sum.bs hn
  replace h_ac := h_ac.bs hn
  replace b_ac := b_ac.bs hn
  replace h_bc := h_bc.bs hn
  replace b_bc := b_bc.bs hn
  replace h_left := h_left.bs hn
  replace b_left := b_left.bs hn
  replace h_right := h_right.bs hn
  replace b_right := b_right.bs hn
  replace h_x := h_x.bs hn
  replace b_x := b_x.bs hn
  replace h_cx := h_cx.bs hn
  replace b_cx := b_cx.bs hn
  replace h_ax := h_ax.bs hn
  clear hn
  refine Lw.val (Ex.assign rfl) rfl ?_
  refine Lw.nil ?_
  refine Pw.thenN (Cw.out ?_)
  refine Cw.seq ?_
  refine Cw.seq ?_
  refine Cw.region ?_
  refine Lw.val (Ex.move rfl) rfl ?_
  refine Lw.val (Ex.neq rfl rfl) rfl ?_
  refine Lw.val (Ex.move rfl) rfl ?_
  refine Lw.know 126 (v' := .bool false) rfl (congrArg Value.bool (rfl)) ?_
  refine Lw.take (dj := 126) rfl rfl ?_
  refine Lw.val (Ex.move rfl) rfl ?_
  refine Lw.take (dj := 126) rfl rfl ?_
  refine Lw.val (Ex.neq rfl rfl) rfl ?_
  refine Lw.val (Ex.pickF rfl rfl) rfl ?_
  refine Lw.nil ?_
  refine Pw.thenN (Cw.out ?_)
  refine Cw.condB rfl false (rfl) ?_
  refine Cw.skip ?_
  refine Pw.thenN (Cw.out ?_)
  refine Cw.seq ?_
  refine Cw.region ?_
  refine Lw.val (Ex.ldA (ag_28 _) (sz_28 _) rfl rfl (by assumption)) rfl ?_
  refine Lw.val (Ex.ldA (ag_28 _) (sz_28 _) rfl rfl (by assumption)) rfl ?_
  refine Lw.callF rfl rfl (prod_c a cx _ h_a h_cx) ?_
  rintro r w ⟨hn, hg⟩
  obtain ⟨y, rfl, h_y, t_y, l_y⟩ := prod_yes t_a t_cx hg
  clear hg
  replace hB := hB.bs hn
  replace h0 := h0.bs hn
  replace h1 := h1.bs hn
  replace h2 := h2.bs hn
  replace b_l := b_l.bs hn
  replace b_d := b_d.bs hn
  replace h_a := h_a.bs hn
  replace b_a := b_a.bs hn
  replace h_b := h_b.bs hn
  replace b_b := b_b.bs hn
  replace h_c := h_c.bs hn
  replace b_c := b_c.bs hn
  replace h_sum := h_sum.bs hn
  replace b_sum := b_sum.bs hn
  replace h_ac := h_ac.bs hn
  replace b_ac := b_ac.bs hn
  replace h_bc := h_bc.bs hn
  replace b_bc := b_bc.bs hn
  replace h_left := h_left.bs hn
  replace b_left := b_left.bs hn
  replace h_right := h_right.bs hn
  replace b_right := b_right.bs hn
  replace h_x := h_x.bs hn
  replace b_x := b_x.bs hn
  replace h_cx := h_cx.bs hn
  replace b_cx := b_cx.bs hn
  replace h_ax := h_ax.bs hn
  replace b_ax := b_ax.bs hn
  clear hn
  refine Lw.val (Ex.move rfl) rfl ?_
  refine Lw.val (Ex.extract (i := 0) rfl rfl) rfl ?_
  refine Lw.val (Ex.extract (i := 1) rfl rfl) rfl ?_
  refine Lw.boxed (cs := [y.x, y.y]) it_28 rfl rfl rfl rfl (fun _ => rfl) (h_y.one) ?_
  rintro A_y w eA_y b_y hn -
  replace hB := hB.bs hn
  replace h0 := h0.bs hn
  replace h1 := h1.bs hn
  replace h2 := h2.bs hn
  replace b_l := b_l.bs hn
  replace b_d := b_d.bs hn
  replace h_a := h_a.bs hn
  replace b_a := b_a.bs hn
  replace h_b := h_b.bs hn
  replace b_b := b_b.bs hn
  replace h_c := h_c.bs hn
  replace b_c := b_c.bs hn
  replace h_sum := h_sum.bs hn
  replace b_sum := b_sum.bs hn
  replace h_ac := h_ac.bs hn
  replace b_ac := b_ac.bs hn
  replace h_bc := h_bc.bs hn
  replace b_bc := b_bc.bs hn
  replace h_left := h_left.bs hn
  replace b_left := b_left.bs hn
  replace h_right := h_right.bs hn
  replace b_right := b_right.bs hn
  replace h_x := h_x.bs hn
  replace b_x := b_x.bs hn
  replace h_cx := h_cx.bs hn
  replace b_cx := b_cx.bs hn
  replace h_ax := h_ax.bs hn
  replace b_ax := b_ax.bs hn
  replace h_y := h_y.bs hn
  clear hn
  refine Lw.val (Ex.assign rfl) rfl ?_
  refine Lw.nil ?_
  refine Pw.thenN (Cw.out ?_)
  refine Cw.seq ?_
  refine Cw.region ?_
  refine Lw.val (Ex.ldA (ag_28 _) (sz_28 _) rfl rfl (by assumption)) rfl ?_
  refine Lw.val (Ex.ldA (ag_28 _) (sz_28 _) rfl rfl (by assumption)) rfl ?_
  refine Lw.callF rfl rfl (add_p ac ax _ h_ac h_ax) ?_
  rintro r w ⟨hn, hg⟩
  obtain ⟨z, rfl, h_z, t_z, l_z⟩ := add_yes t_ac t_ax hg
  clear hg
  replace hB := hB.bs hn
  replace h0 := h0.bs hn
  replace h1 := h1.bs hn
  replace h2 := h2.bs hn
  replace b_l := b_l.bs hn
  replace b_d := b_d.bs hn
  replace h_a := h_a.bs hn
  replace b_a := b_a.bs hn
  replace h_b := h_b.bs hn
  replace b_b := b_b.bs hn
  replace h_c := h_c.bs hn
  replace b_c := b_c.bs hn
  replace h_sum := h_sum.bs hn
  replace b_sum := b_sum.bs hn
  replace h_ac := h_ac.bs hn
  replace b_ac := b_ac.bs hn
  replace h_bc := h_bc.bs hn
  replace b_bc := b_bc.bs hn
  replace h_left := h_left.bs hn
  replace b_left := b_left.bs hn
  replace h_right := h_right.bs hn
  replace b_right := b_right.bs hn
  replace h_x := h_x.bs hn
  replace b_x := b_x.bs hn
  replace h_cx := h_cx.bs hn
  replace b_cx := b_cx.bs hn
  replace h_ax := h_ax.bs hn
  replace b_ax := b_ax.bs hn
  replace h_y := h_y.bs hn
  replace b_y := b_y.bs hn
  clear hn
  refine Lw.val (Ex.move rfl) rfl ?_
  refine Lw.val (Ex.extract (i := 0) rfl rfl) rfl ?_
  refine Lw.val (Ex.extract (i := 1) rfl rfl) rfl ?_
  refine Lw.boxed (cs := [z.x, z.y]) it_28 rfl rfl rfl rfl (fun _ => rfl) (h_z.one) ?_
  rintro A_z w eA_z b_z hn -
  replace hB := hB.bs hn
  replace h0 := h0.bs hn
  replace h1 := h1.bs hn
  replace h2 := h2.bs hn
  replace b_l := b_l.bs hn
  replace b_d := b_d.bs hn
  replace h_a := h_a.bs hn
  replace b_a := b_a.bs hn
  replace h_b := h_b.bs hn
  replace b_b := b_b.bs hn
  replace h_c := h_c.bs hn
  replace b_c := b_c.bs hn
  replace h_sum := h_sum.bs hn
  replace b_sum := b_sum.bs hn
  replace h_ac := h_ac.bs hn
  replace b_ac := b_ac.bs hn
  replace h_bc := h_bc.bs hn
  replace b_bc := b_bc.bs hn
  replace h_left := h_left.bs hn
  replace b_left := b_left.bs hn
  replace h_right := h_right.bs hn
  replace b_right := b_right.bs hn
  replace h_x := h_x.bs hn
  replace b_x := b_x.bs hn
  replace h_cx := h_cx.bs hn
  replace b_cx := b_cx.bs hn
  replace h_ax := h_ax.bs hn
  replace b_ax := b_ax.bs hn
  replace h_y := h_y.bs hn
  replace b_y := b_y.bs hn
  replace h_z := h_z.bs hn
  clear hn
  refine Lw.val (Ex.assign rfl) rfl ?_
  refine Lw.nil ?_
  refine Pw.thenN (Cw.out ?_)
  refine Cw.seq ?_
  refine Cw.region ?_
  refine Lw.val (Ex.ldA (ag_28 _) (sz_28 _) rfl rfl (by assumption)) rfl ?_
  refine Lw.val (Ex.ldA (ag_28 _) (sz_28 _) rfl rfl (by assumption)) rfl ?_
  refine Lw.val (Ex.move rfl) rfl ?_
  refine Lw.val (Ex.move rfl) rfl ?_
  refine Lw.callF rfl rfl (same7_c left right _ h_left h_right (t_left.s.trans t_right.s.symm) (by rw [l_left, l_right, l_sum, l_ac, l_bc, prd_addl])) ?_
  rintro _ w ⟨rfl, hn⟩
  replace hB := hB.bs hn
  replace h0 := h0.bs hn
  replace h1 := h1.bs hn
  replace h2 := h2.bs hn
  replace b_l := b_l.bs hn
  replace b_d := b_d.bs hn
  replace h_a := h_a.bs hn
  replace b_a := b_a.bs hn
  replace h_b := h_b.bs hn
  replace b_b := b_b.bs hn
  replace h_c := h_c.bs hn
  replace b_c := b_c.bs hn
  replace h_sum := h_sum.bs hn
  replace b_sum := b_sum.bs hn
  replace h_ac := h_ac.bs hn
  replace b_ac := b_ac.bs hn
  replace h_bc := h_bc.bs hn
  replace b_bc := b_bc.bs hn
  replace h_left := h_left.bs hn
  replace b_left := b_left.bs hn
  replace h_right := h_right.bs hn
  replace b_right := b_right.bs hn
  replace h_x := h_x.bs hn
  replace b_x := b_x.bs hn
  replace h_cx := h_cx.bs hn
  replace b_cx := b_cx.bs hn
  replace h_ax := h_ax.bs hn
  replace b_ax := b_ax.bs hn
  replace h_y := h_y.bs hn
  replace b_y := b_y.bs hn
  replace h_z := h_z.bs hn
  replace b_z := b_z.bs hn
  clear hn
  refine Lw.val (Ex.move rfl) rfl ?_
  refine Lw.know 147 (v' := .bool true) rfl (congrArg Value.bool (rfl)) ?_
  refine Lw.take (dj := 147) rfl rfl ?_
  refine Lw.val (Ex.ldA (ag_28 _) (sz_28 _) rfl rfl (by assumption)) rfl ?_
  refine Lw.take (dj := 147) rfl rfl ?_
  refine Lw.val (Ex.ldA (ag_28 _) (sz_28 _) rfl rfl (by assumption)) rfl ?_
  refine Lw.take (dj := 147) rfl rfl ?_
  refine Lw.val (Ex.move rfl) rfl ?_
  refine Lw.take (dj := 147) rfl rfl ?_
  refine Lw.val (Ex.move rfl) rfl ?_
  refine Lw.take (dj := 147) rfl rfl ?_
  refine Lw.callF rfl rfl (same7_c y z _ h_y h_z (t_y.s.trans t_z.s.symm) (by rw [l_y, l_z, l_cx, l_ac, l_ax, prd_addr])) ?_
  rintro _ w ⟨rfl, hn⟩
  replace hB := hB.bs hn
  replace h0 := h0.bs hn
  replace h1 := h1.bs hn
  replace h2 := h2.bs hn
  replace b_l := b_l.bs hn
  replace b_d := b_d.bs hn
  replace h_a := h_a.bs hn
  replace b_a := b_a.bs hn
  replace h_b := h_b.bs hn
  replace b_b := b_b.bs hn
  replace h_c := h_c.bs hn
  replace b_c := b_c.bs hn
  replace h_sum := h_sum.bs hn
  replace b_sum := b_sum.bs hn
  replace h_ac := h_ac.bs hn
  replace b_ac := b_ac.bs hn
  replace h_bc := h_bc.bs hn
  replace b_bc := b_bc.bs hn
  replace h_left := h_left.bs hn
  replace b_left := b_left.bs hn
  replace h_right := h_right.bs hn
  replace b_right := b_right.bs hn
  replace h_x := h_x.bs hn
  replace b_x := b_x.bs hn
  replace h_cx := h_cx.bs hn
  replace b_cx := b_cx.bs hn
  replace h_ax := h_ax.bs hn
  replace b_ax := b_ax.bs hn
  replace h_y := h_y.bs hn
  replace b_y := b_y.bs hn
  replace h_z := h_z.bs hn
  replace b_z := b_z.bs hn
  clear hn
  refine Lw.val (Ex.pickT rfl rfl) rfl ?_
  refine Lw.val (Ex.assign rfl) rfl ?_
  refine Lw.nil ?_
  refine Pw.thenN (Cw.out ?_)
  refine Cw.ret ?_
  refine Pw.ret1 rfl rfl ?_
  exact ⟨rfl, hB⟩

set_option maxRecDepth 100000 in
set_option maxHeartbeats 2000000 in
theorem productsSums_lifted (os : Os) (started : os.Started) (H : Type) (enc : TypeId × Value → H) :
    ReturnsInHanded {} Try.checked os 5 .any (Rows.productsSumsSpec.pre6 enc Try.prog Try.f5 Rows.productsSumsRow.domain false) (Rows.productsSumsSpec.post enc Try.prog Try.f5 false true false false) := by
  refine returnsInHanded_of_change_sized (C := Try.checked) own started (by kernel_rfl) Try.func5
    (ChangeSpec.witness6 (enc := enc) (C := Try.checked) false ⟨#[], #[.agg #[.slice none 0 0, .slice none 0 0, .slice none 0 0], .agg #[.int .u8 0, .int .u8 0, .int .u8 0]], []⟩ 8 (by kernel_rfl) (by kernel_rfl) (by kernel_rfl) (by kernel_rfl)) ?_
  intro W base args ds gs before hval0 hW hcnd hsz0 _
  have hval : ∀ (j : Nat) t v, Try.f5.params[j]? = some t → args[j]? = some v → Value.okWide Try.prog W .any base t v := hval0
  have hW' := hW
  obtain ⟨p, q, hA0, hV, rfl, hfz, hnd⟩ := hW
  have hA : DataW.TrodAll enc Try.prog W 0 (fun _ => true) true Try.f5.params.toList args.toList ds p := hA0
  have hsz : (DataW.weightsEach Try.prog (Try.f5.params.toList ++ Rows.productsSumsSpec.plain.varTypes Try.prog) (ds ++ gs)).all (· ≤ reachBytes) = true := hsz0
  rw [Try.params5] at hA hval hsz
  obtain ⟨v0, vs0, d0, ds0, p0, q0, hargs, rfl, rfl, h0, r0⟩ := trodAll_cons hA
  obtain ⟨v1, vs1, d1, ds1, p1, q1, rfl, rfl, rfl, h1, r1⟩ := trodAll_cons r0
  obtain ⟨rfl, rfl, rfl⟩ := trodAll_nil r1
  obtain rfl : args = #[v0, v1] := by cases args; simp_all
  obtain ⟨rfl, rfl⟩ := trodVars_none hV
  have k0 := h0
  have lt0 : ∀ x ∈ p0, x.block < W.heap.size := by obtain ⟨m, hm⟩ := k0; exact DataW.trod_lt m _ _ _ hm
  have i0 := in_of (j := 0) (t := 23) hsz rfl rfl h0
  have o0 := hval 0 23 v0 rfl rfl
  have k1 := h1
  have lt1 : ∀ x ∈ p1, x.block < W.heap.size := by obtain ⟨m, hm⟩ := k1; exact DataW.trod_lt m _ _ _ hm
  have i1 := in_of (j := 1) (t := 39) hsz rfl rfl h1
  have o1 := hval 1 39 v1 rfl rfl
  clear hA0 hval0 hsz0 hsz
  obtain ⟨cs, rfl, hin⟩ := arg_array un_23 o0 i0
  obtain ⟨hl3, hel⟩ := hin.array un_23
  have c3 : Try.prog.cellsOf 23 = 3 := by kernel_rfl
  have c1 : Try.prog.cellsOf 22 = 1 := by kernel_rfl
  have kb1 : Try.prog.bytesOf 21 = 4 := by kernel_rfl
  have hr : reachBytes ≤ 140737488355328 := by decide
  rw [c3] at hl3
  rw [c1] at hel
  obtain ⟨x0, x1, x2, rfl⟩ := three_of hl3
  obtain ⟨u0, l0, e, s0, q0⟩ := (hel 0 (by decide)).slT un_22 (by kernel_rfl) (fun cs h => In.num (BitVec.ofInt 32) i32 (fun _ h => wf_i32 h) un_21 h)
  rw [kb1] at q0
  simp at e
  subst e
  obtain ⟨u1, l1, e, s1, q1⟩ := (hel 1 (by decide)).slT un_22 (by kernel_rfl) (fun cs h => In.num (BitVec.ofInt 32) i32 (fun _ h => wf_i32 h) un_21 h)
  rw [kb1] at q1
  simp at e
  subst e
  obtain ⟨u2, l2, e, s2, q2⟩ := (hel 2 (by decide)).slT un_22 (by kernel_rfl) (fun cs h => In.num (BitVec.ofInt 32) i32 (fun _ h => wf_i32 h) un_21 h)
  rw [kb1] at q2
  simp at e
  subst e
  obtain ⟨ds, rfl, hid⟩ := arg_array un_39 o1 i1
  obtain ⟨hl4, hed⟩ := hid.array un_39
  have c4 : Try.prog.cellsOf 39 = 3 := by kernel_rfl
  have c8 : Try.prog.cellsOf 5 = 1 := by kernel_rfl
  rw [c4] at hl4
  rw [c8] at hed
  obtain ⟨y0, y1, y2, rfl⟩ := three_of hl4
  obtain ⟨d0, e⟩ := In.num (BitVec.ofInt 8) b8 (fun _ h => wf_u8 h) un_5 (hed 0 (by decide))
  simp at e
  subst e
  obtain ⟨d1, e⟩ := In.num (BitVec.ofInt 8) b8 (fun _ h => wf_u8 h) un_5 (hed 1 (by decide))
  simp at e
  subst e
  obtain ⟨d2, e⟩ := In.num (BitVec.ofInt 8) b8 (fun _ h => wf_u8 h) un_5 (hed 2 (by decide))
  simp at e
  subst e
  refine (law_calls (productsSums_w x0 x1 x2 l0 l1 l2 d0 d1 d2 W s0 s1 s2 (by omega) (by omega) (by omega))).mono fun e W' ⟨he, bel⟩ => ?_
  subst he
  exact ⟨_, rfl, _, _, _, [], _, [], hW', trodAll_mk1 (shut_bool un_4 _), (trodAll_cons_mk (Below.trod laidOut (by kernel_rfl) (of_decide_eq_true (by kernel_rfl)) k0 bel lt0) (trodAll_cons_mk (Below.trod laidOut (by kernel_rfl) (of_decide_eq_true (by kernel_rfl)) k1 bel lt1) trodAll_mk0)), rfl, bel.frame _, fun h => by cases h⟩

/-- The statement. -/
theorem productsSums_proved : Rows.ProductsSumsSaid :=
  OpenClaim.holds_of_wide 5 Try.f5 rfl rfl rfl rfl rfl rfl rfl ⟨rfl, rfl, rfl, rfl, rfl⟩ rfl rfl rfl rfl rfl (by kernel_rfl) Try.func5 (by kernel_rfl)
    (of_decide_eq_true (by kernel_rfl)) (by unfold Func.isWrapper; first | (rw [if_pos (by decide +kernel)]; kernel_rfl) | (rw [if_neg (by decide +kernel)]; exact ⟨rfl, rfl⟩))
    (fun os started H enc _ => productsSums_lifted os started H enc)
#print axioms productsSums_proved
end Go.Proofs.Ytdliencelkdibaa
