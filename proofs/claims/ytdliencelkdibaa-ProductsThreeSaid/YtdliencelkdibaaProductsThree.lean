/- The product of three doesn't ask for how they are put together: for any numbers, any four directions; no condition. -/
import Derived.Test.YtdliencelkdibaaProductsLaw
namespace Go.Proofs.Ytdliencelkdibaa
open Go Go.Dd Go.RowKit Go.ChangeShapes Go.WideShapes Go.ChangeAt


theorem productsThree_w (u0 u1 u2 : Value) (l0 l1 l2 : List (BitVec 32)) (d0 d1 d2 d3 : BitVec 8) (W : World) (h0 : SlT i32 W u0 l0) (h1 : SlT i32 W u1 l1) (h2 : SlT i32 W u2 l2) (q0 : l0.length ≤ 1125899906842624) (q1 : l1.length ≤ 1125899906842624) (q2 : l2.length ≤ 1125899906842624) :
    Fnc Try.prog 3 [.agg [u0, u1, u2].toArray, .agg [b8 d0, b8 d1, b8 d2, b8 d3].toArray] W (fun r w' => r = .bool true ∧ Below W.heap.size W w') := by
  have hB := Below.refl W.heap.size W
  refine Fnc.enter (n := 89) Try.func3 (by kernel_rfl) rfl rfl rfl ?_
  refine Cw.seq ?_
  refine Cw.region ?_
  refine Lw.boxV (cs := [u0, u1, u2]) rfl rfl rfl ?_
  rintro A_l w eA_l b_l hn -
  replace hB := hB.bs hn
  replace h0 := h0.bs hn
  replace h1 := h1.bs hn
  replace h2 := h2.bs hn
  clear hn
  refine Lw.boxV (cs := [b8 d0, b8 d1, b8 d2, b8 d3]) rfl rfl rfl ?_
  rintro A_d w eA_d b_d hn -
  replace hB := hB.bs hn
  replace h0 := h0.bs hn
  replace h1 := h1.bs hn
  replace h2 := h2.bs hn
  replace b_l := b_l.bs hn
  clear hn
  refine Lw.val (Ex.assign rfl) rfl ?_
  refine Lw.nil ?_
  refine Pw.thenN (Cw.out ?_)
  refine Cw.seq ?_
  refine Cw.seq ?_
  refine Cw.region ?_
  refine Lw.callF rfl rfl (alive_c _) ?_
  rintro _ w ⟨rfl, hn⟩
  replace hB := hB.bs hn
  replace h0 := h0.bs hn
  replace h1 := h1.bs hn
  replace h2 := h2.bs hn
  replace b_l := b_l.bs hn
  replace b_d := b_d.bs hn
  clear hn
  refine Lw.val (Ex.not rfl) rfl ?_
  refine Lw.val (Ex.move rfl) rfl ?_
  refine Lw.know 18 (v' := .bool false) rfl (congrArg Value.bool (rfl)) ?_
  refine Lw.take (dj := 18) rfl rfl ?_
  refine Lw.val (Ex.idxB un_23 sz_22 rfl rfl 0 rfl (by decide)) rfl ?_
  refine Lw.take (dj := 18) rfl rfl ?_
  refine Lw.val (Ex.ldB (ag_22 _) rfl (by assumption) rfl) rfl ?_
  refine Lw.take (dj := 18) rfl rfl ?_
  refine Lw.val (Ex.lenS st_22 rfl (by assumption)) rfl ?_
  refine Lw.take (dj := 18) rfl rfl ?_
  refine Lw.val (Ex.idxB un_23 sz_22 rfl rfl 1 rfl (by decide)) rfl ?_
  refine Lw.take (dj := 18) rfl rfl ?_
  refine Lw.val (Ex.ldB (ag_22 _) rfl (by assumption) rfl) rfl ?_
  refine Lw.take (dj := 18) rfl rfl ?_
  refine Lw.val (Ex.lenS st_22 rfl (by assumption)) rfl ?_
  refine Lw.take (dj := 18) rfl rfl ?_
  refine Lw.val (Ex.addI rfl rfl (by omega)) rfl ?_
  refine Lw.take (dj := 18) rfl rfl ?_
  refine Lw.val (Ex.idxB un_23 sz_22 rfl rfl 2 rfl (by decide)) rfl ?_
  refine Lw.take (dj := 18) rfl rfl ?_
  refine Lw.val (Ex.ldB (ag_22 _) rfl (by assumption) rfl) rfl ?_
  refine Lw.take (dj := 18) rfl rfl ?_
  refine Lw.val (Ex.lenS st_22 rfl (by assumption)) rfl ?_
  refine Lw.take (dj := 18) rfl rfl ?_
  refine Lw.val (Ex.addI rfl rfl (by omega)) rfl ?_
  refine Lw.take (dj := 18) rfl rfl ?_
  refine Lw.val (Ex.gtr rfl rfl) rfl ?_
  refine Lw.val (Ex.pickF rfl rfl) rfl ?_
  refine Lw.nil ?_
  refine Pw.thenN (Cw.out ?_)
  refine Cw.cond rfl ?_ ?_
  · intro _
    refine Cw.seq ?_
    refine Cw.region ?_
    refine Lw.callF rfl rfl (alive_c _) ?_
    rintro _ w ⟨rfl, hn⟩
    replace hB := hB.bs hn
    replace h0 := h0.bs hn
    replace h1 := h1.bs hn
    replace h2 := h2.bs hn
    replace b_l := b_l.bs hn
    replace b_d := b_d.bs hn
    clear hn
    refine Lw.val (Ex.assign rfl) rfl ?_
    refine Lw.nil ?_
    refine Pw.thenN (Cw.out ?_)
    refine Cw.ret ?_
    refine Pw.thenR ?_
    refine Pw.ret1 rfl rfl ?_
    exact ⟨rfl, hB⟩
  intro _
  refine Cw.skip ?_
  refine Pw.thenN (Cw.out ?_)
  refine Cw.seq ?_
  refine Cw.region ?_
  refine Lw.val (Ex.idxB un_24 sz_5 rfl rfl 0 rfl (by decide)) rfl ?_
  refine Lw.val (Ex.ldB (ag_5 _) rfl (by assumption) rfl) rfl ?_
  refine Lw.val (Ex.idxB un_24 sz_5 rfl rfl 1 rfl (by decide)) rfl ?_
  refine Lw.val (Ex.ldB (ag_5 _) rfl (by assumption) rfl) rfl ?_
  refine Lw.val (Ex.idxB un_23 sz_22 rfl rfl 0 rfl (by decide)) rfl ?_
  refine Lw.val (Ex.ldB (ag_22 _) rfl (by assumption) rfl) rfl ?_
  refine Lw.callF rfl rfl (made_c d0 d1 u0 l0 _ h0) ?_
  rintro _ w ⟨a, rfl, h_a, t_a, hn⟩
  replace hB := hB.bs hn
  replace h0 := h0.bs hn
  replace h1 := h1.bs hn
  replace h2 := h2.bs hn
  replace b_l := b_l.bs hn
  replace b_d := b_d.bs hn
  clear hn
  refine Lw.boxed (cs := [a.x, a.y]) it_28 rfl rfl rfl rfl (fun _ => rfl) (h_a.one) ?_
  rintro A_a w eA_a b_a hn -
  replace hB := hB.bs hn
  replace h0 := h0.bs hn
  replace h1 := h1.bs hn
  replace h2 := h2.bs hn
  replace b_l := b_l.bs hn
  replace b_d := b_d.bs hn
  replace h_a := h_a.bs hn
  clear hn
  refine Lw.nil ?_
  refine Pw.thenN (Cw.out ?_)
  refine Cw.seq ?_
  refine Cw.region ?_
  refine Lw.val (Ex.idxB un_24 sz_5 rfl rfl 1 rfl (by decide)) rfl ?_
  refine Lw.val (Ex.ldB (ag_5 _) rfl (by assumption) rfl) rfl ?_
  refine Lw.val (Ex.idxB un_24 sz_5 rfl rfl 2 rfl (by decide)) rfl ?_
  refine Lw.val (Ex.ldB (ag_5 _) rfl (by assumption) rfl) rfl ?_
  refine Lw.val (Ex.idxB un_23 sz_22 rfl rfl 1 rfl (by decide)) rfl ?_
  refine Lw.val (Ex.ldB (ag_22 _) rfl (by assumption) rfl) rfl ?_
  refine Lw.callF rfl rfl (made_c d1 d2 u1 l1 _ h1) ?_
  rintro _ w ⟨b, rfl, h_b, t_b, hn⟩
  replace hB := hB.bs hn
  replace h0 := h0.bs hn
  replace h1 := h1.bs hn
  replace h2 := h2.bs hn
  replace b_l := b_l.bs hn
  replace b_d := b_d.bs hn
  replace h_a := h_a.bs hn
  replace b_a := b_a.bs hn
  clear hn
  refine Lw.boxed (cs := [b.x, b.y]) it_28 rfl rfl rfl rfl (fun _ => rfl) (h_b.one) ?_
  rintro A_b w eA_b b_b hn -
  replace hB := hB.bs hn
  replace h0 := h0.bs hn
  replace h1 := h1.bs hn
  replace h2 := h2.bs hn
  replace b_l := b_l.bs hn
  replace b_d := b_d.bs hn
  replace h_a := h_a.bs hn
  replace b_a := b_a.bs hn
  replace h_b := h_b.bs hn
  clear hn
  refine Lw.nil ?_
  refine Pw.thenN (Cw.out ?_)
  refine Cw.seq ?_
  refine Cw.region ?_
  refine Lw.val (Ex.idxB un_24 sz_5 rfl rfl 2 rfl (by decide)) rfl ?_
  refine Lw.val (Ex.ldB (ag_5 _) rfl (by assumption) rfl) rfl ?_
  refine Lw.val (Ex.idxB un_24 sz_5 rfl rfl 3 rfl (by decide)) rfl ?_
  refine Lw.val (Ex.ldB (ag_5 _) rfl (by assumption) rfl) rfl ?_
  refine Lw.val (Ex.idxB un_23 sz_22 rfl rfl 2 rfl (by decide)) rfl ?_
  refine Lw.val (Ex.ldB (ag_22 _) rfl (by assumption) rfl) rfl ?_
  refine Lw.callF rfl rfl (made_c d2 d3 u2 l2 _ h2) ?_
  rintro _ w ⟨c, rfl, h_c, t_c, hn⟩
  replace hB := hB.bs hn
  replace h0 := h0.bs hn
  replace h1 := h1.bs hn
  replace h2 := h2.bs hn
  replace b_l := b_l.bs hn
  replace b_d := b_d.bs hn
  replace h_a := h_a.bs hn
  replace b_a := b_a.bs hn
  replace h_b := h_b.bs hn
  replace b_b := b_b.bs hn
  clear hn
  refine Lw.boxed (cs := [c.x, c.y]) it_28 rfl rfl rfl rfl (fun _ => rfl) (h_c.one) ?_
  rintro A_c w eA_c b_c hn -
  replace hB := hB.bs hn
  replace h0 := h0.bs hn
  replace h1 := h1.bs hn
  replace h2 := h2.bs hn
  replace b_l := b_l.bs hn
  replace b_d := b_d.bs hn
  replace h_a := h_a.bs hn
  replace b_a := b_a.bs hn
  replace h_b := h_b.bs hn
  replace b_b := b_b.bs hn
  replace h_c := h_c.bs hn
  clear hn
  refine Lw.nil ?_
  refine Pw.thenN (Cw.out ?_)
  refine Cw.seq ?_
  refine Cw.region ?_
  refine Lw.val (Ex.ldA (ag_28 _) (sz_28 _) rfl rfl (by assumption)) rfl ?_
  refine Lw.val (Ex.ldA (ag_28 _) (sz_28 _) rfl rfl (by assumption)) rfl ?_
  refine Lw.callF rfl rfl (prod_c a b _ h_a h_b) ?_
  rintro r w ⟨hn, hg⟩
  obtain ⟨ab, rfl, h_ab, t_ab, l_ab⟩ := prod_yes t_a t_b hg
  clear hg
  replace hB := hB.bs hn
  replace h0 := h0.bs hn
  replace h1 := h1.bs hn
  replace h2 := h2.bs hn
  replace b_l := b_l.bs hn
  replace b_d := b_d.bs hn
  replace h_a := h_a.bs hn
  replace b_a := b_a.bs hn
  replace h_b := h_b.bs hn
  replace b_b := b_b.bs hn
  replace h_c := h_c.bs hn
  replace b_c := b_c.bs hn
  clear hn
  refine Lw.val (Ex.move rfl) rfl ?_
  refine Lw.val (Ex.extract (i := 0) rfl rfl) rfl ?_
  refine Lw.val (Ex.extract (i := 1) rfl rfl) rfl ?_
  refine Lw.boxed (cs := [ab.x, ab.y]) it_28 rfl rfl rfl rfl (fun _ => rfl) (h_ab.one) ?_
  rintro A_ab w eA_ab b_ab hn -
  replace hB := hB.bs hn
  replace h0 := h0.bs hn
  replace h1 := h1.bs hn
  replace h2 := h2.bs hn
  replace b_l := b_l.bs hn
  replace b_d := b_d.bs hn
  replace h_a := h_a.bs hn
  replace b_a := b_a.bs hn
  replace h_b := h_b.bs hn
  replace b_b := b_b.bs hn
  replace h_c := h_c.bs hn
  replace b_c := b_c.bs hn
  replace h_ab := h_ab.bs hn
  clear hn
  refine Lw.val (Ex.assign rfl) rfl ?_
  refine Lw.nil ?_
  refine Pw.thenN (Cw.out ?_)
  refine Cw.seq ?_
  refine Cw.region ?_
  refine Lw.val (Ex.ldA (ag_28 _) (sz_28 _) rfl rfl (by assumption)) rfl ?_
  refine Lw.val (Ex.ldA (ag_28 _) (sz_28 _) rfl rfl (by assumption)) rfl ?_
  refine Lw.callF rfl rfl (prod_c b c _ h_b h_c) ?_
  rintro r w ⟨hn, hg⟩
  obtain ⟨bc, rfl, h_bc, t_bc, l_bc⟩ := prod_yes t_b t_c hg
  clear hg
  replace hB := hB.bs hn
  replace h0 := h0.bs hn
  replace h1 := h1.bs hn
  replace h2 := h2.bs hn
  replace b_l := b_l.bs hn
  replace b_d := b_d.bs hn
  replace h_a := h_a.bs hn
  replace b_a := b_a.bs hn
  replace h_b := h_b.bs hn
  replace b_b := b_b.bs hn
  replace h_c := h_c.bs hn
  replace b_c := b_c.bs hn
  replace h_ab := h_ab.bs hn
  replace b_ab := b_ab.bs hn
  clear hn
  refine Lw.val (Ex.move rfl) rfl ?_
  refine Lw.val (Ex.extract (i := 0) rfl rfl) rfl ?_
  refine Lw.val (Ex.extract (i := 1) rfl rfl) rfl ?_
  refine Lw.boxed (cs := [bc.x, bc.y]) it_28 rfl rfl rfl rfl (fun _ => rfl) (h_bc.one) ?_
  rintro A_bc w eA_bc b_bc hn -
  replace hB := hB.bs hn
  replace h0 := h0.bs hn
  replace h1 := h1.bs hn
  replace h2 := h2.bs hn
  replace b_l := b_l.bs hn
  replace b_d := b_d.bs hn
  replace h_a := h_a.bs hn
  replace b_a := b_a.bs hn
  replace h_b := h_b.bs hn
  replace b_b := b_b.bs hn
  replace h_c := h_c.bs hn
  replace b_c := b_c.bs hn
  replace h_ab := h_ab.bs hn
  replace b_ab := b_ab.bs hn
  replace h_bc := h_bc.bs hn
  clear hn
  refine Lw.val (Ex.assign rfl) rfl ?_
  refine Lw.nil ?_
  refine Pw.thenN (Cw.out ?_)
  refine Cw.seq ?_
  refine Cw.seq ?_
  refine Cw.region ?_
  refine Lw.val (Ex.move rfl) rfl ?_
  refine Lw.val (Ex.neq rfl rfl) rfl ?_
  refine Lw.val (Ex.move rfl) rfl ?_
  refine Lw.know 68 (v' := .bool false) rfl (congrArg Value.bool (rfl)) ?_
  refine Lw.take (dj := 68) rfl rfl ?_
  refine Lw.val (Ex.move rfl) rfl ?_
  refine Lw.take (dj := 68) rfl rfl ?_
  refine Lw.val (Ex.neq rfl rfl) rfl ?_
  refine Lw.val (Ex.pickF rfl rfl) rfl ?_
  refine Lw.nil ?_
  refine Pw.thenN (Cw.out ?_)
  refine Cw.condB rfl false (rfl) ?_
  refine Cw.skip ?_
  refine Pw.thenN (Cw.out ?_)
  refine Cw.seq ?_
  refine Cw.region ?_
  refine Lw.val (Ex.ldA (ag_28 _) (sz_28 _) rfl rfl (by assumption)) rfl ?_
  refine Lw.val (Ex.ldA (ag_28 _) (sz_28 _) rfl rfl (by assumption)) rfl ?_
  refine Lw.callF rfl rfl (prod_c ab c _ h_ab h_c) ?_
  rintro r w ⟨hn, hg⟩
  obtain ⟨x, rfl, h_x, t_x, l_x⟩ := prod_yes t_ab t_c hg
  clear hg
  replace hB := hB.bs hn
  replace h0 := h0.bs hn
  replace h1 := h1.bs hn
  replace h2 := h2.bs hn
  replace b_l := b_l.bs hn
  replace b_d := b_d.bs hn
  replace h_a := h_a.bs hn
  replace b_a := b_a.bs hn
  replace h_b := h_b.bs hn
  replace b_b := b_b.bs hn
  replace h_c := h_c.bs hn
  replace b_c := b_c.bs hn
  replace h_ab := h_ab.bs hn
  replace b_ab := b_ab.bs hn
  replace h_bc := h_bc.bs hn
  replace b_bc := b_bc.bs hn
  clear hn
  refine Lw.val (Ex.move rfl) rfl ?_
  refine Lw.val (Ex.extract (i := 0) rfl rfl) rfl ?_
  refine Lw.val (Ex.extract (i := 1) rfl rfl) rfl ?_
  refine Lw.boxed (cs := [x.x, x.y]) it_28 rfl rfl rfl rfl (fun _ => rfl) (h_x.one) ?_
  rintro A_x w eA_x b_x hn -
  replace hB := hB.bs hn
  replace h0 := h0.bs hn
  replace h1 := h1.bs hn
  replace h2 := h2.bs hn
  replace b_l := b_l.bs hn
  replace b_d := b_d.bs hn
  replace h_a := h_a.bs hn
  replace b_a := b_a.bs hn
  replace h_b := h_b.bs hn
  replace b_b := b_b.bs hn
  replace h_c := h_c.bs hn
  replace b_c := b_c.bs hn
  replace h_ab := h_ab.bs hn
  replace b_ab := b_ab.bs hn
  replace h_bc := h_bc.bs hn
  replace b_bc := b_bc.bs hn
  replace h_x := h_x.bs hn
  clear hn
  refine Lw.val (Ex.assign rfl) rfl ?_
  refine Lw.nil ?_
  refine Pw.thenN (Cw.out ?_)
  refine Cw.seq ?_
  refine Cw.region ?_
  refine Lw.val (Ex.ldA (ag_28 _) (sz_28 _) rfl rfl (by assumption)) rfl ?_
  refine Lw.val (Ex.ldA (ag_28 _) (sz_28 _) rfl rfl (by assumption)) rfl ?_
  refine Lw.callF rfl rfl (prod_c a bc _ h_a h_bc) ?_
  rintro r w ⟨hn, hg⟩
  obtain ⟨y, rfl, h_y, t_y, l_y⟩ := prod_yes t_a t_bc hg
  clear hg
  replace hB := hB.bs hn
  replace h0 := h0.bs hn
  replace h1 := h1.bs hn
  replace h2 := h2.bs hn
  replace b_l := b_l.bs hn
  replace b_d := b_d.bs hn
  replace h_a := h_a.bs hn
  replace b_a := b_a.bs hn
  replace h_b := h_b.bs hn
  replace b_b := b_b.bs hn
  replace h_c := h_c.bs hn
  replace b_c := b_c.bs hn
  replace h_ab := h_ab.bs hn
  replace b_ab := b_ab.bs hn
  replace h_bc := h_bc.bs hn
  replace b_bc := b_bc.bs hn
  replace h_x := h_x.bs hn
  replace b_x := b_x.bs hn
  clear hn
  refine Lw.val (Ex.move rfl) rfl ?_
  refine Lw.val (Ex.extract (i := 0) rfl rfl) rfl ?_
  refine Lw.val (Ex.extract (i := 1) rfl rfl) rfl ?_
  refine Lw.boxed (cs := [y.x, y.y]) it_28 rfl rfl rfl rfl (fun _ => rfl) (h_y.one) ?_
  rintro A_y w eA_y b_y hn -
  replace hB := hB.bs hn
  replace h0 := h0.bs hn
  replace h1 := h1.bs hn
  replace h2 := h2.bs hn
  replace b_l := b_l.bs hn
  replace b_d := b_d.bs hn
  replace h_a := h_a.bs hn
  replace b_a := b_a.bs hn
  replace h_b := h_b.bs hn
  replace b_b := b_b.bs hn
  replace h_c := h_c.bs hn
  replace b_c := b_c.bs hn
  replace h_ab := h_ab.bs hn
  replace b_ab := b_ab.bs hn
  replace h_bc := h_bc.bs hn
  replace b_bc := b_bc.bs hn
  replace h_x := h_x.bs hn
  replace b_x := b_x.bs hn
  replace h_y := h_y.bs hn
  clear hn
  refine Lw.val (Ex.assign rfl) rfl ?_
  refine Lw.nil ?_
  refine Pw.thenN (Cw.out ?_)
  refine Cw.seq ?_
  refine Cw.region ?_
  refine Lw.val (Ex.ldA (ag_28 _) (sz_28 _) rfl rfl (by assumption)) rfl ?_
  refine Lw.val (Ex.ldA (ag_28 _) (sz_28 _) rfl rfl (by assumption)) rfl ?_
  refine Lw.val (Ex.move rfl) rfl ?_
  refine Lw.val (Ex.move rfl) rfl ?_
  refine Lw.callF rfl rfl (same7_c x y _ h_x h_y (t_x.s.trans t_y.s.symm) (by rw [l_x, l_y, l_ab, l_bc, prd_three])) ?_
  rintro _ w ⟨rfl, hn⟩
  replace hB := hB.bs hn
  replace h0 := h0.bs hn
  replace h1 := h1.bs hn
  replace h2 := h2.bs hn
  replace b_l := b_l.bs hn
  replace b_d := b_d.bs hn
  replace h_a := h_a.bs hn
  replace b_a := b_a.bs hn
  replace h_b := h_b.bs hn
  replace b_b := b_b.bs hn
  replace h_c := h_c.bs hn
  replace b_c := b_c.bs hn
  replace h_ab := h_ab.bs hn
  replace b_ab := b_ab.bs hn
  replace h_bc := h_bc.bs hn
  replace b_bc := b_bc.bs hn
  replace h_x := h_x.bs hn
  replace b_x := b_x.bs hn
  replace h_y := h_y.bs hn
  replace b_y := b_y.bs hn
  clear hn
  refine Lw.val (Ex.assign rfl) rfl ?_
  refine Lw.nil ?_
  refine Pw.thenN (Cw.out ?_)
  refine Cw.ret ?_
  refine Pw.ret1 rfl rfl ?_
  exact ⟨rfl, hB⟩

set_option maxRecDepth 100000 in
set_option maxHeartbeats 2000000 in
theorem productsThree_lifted (os : Os) (started : os.Started) (H : Type) (enc : TypeId × Value → H) :
    ReturnsInHanded {} Try.checked os 3 .any (Rows.productsThreeSpec.pre6 enc Try.prog Try.f3 Rows.productsThreeRow.domain false) (Rows.productsThreeSpec.post enc Try.prog Try.f3 false true false false) := by
  refine returnsInHanded_of_change_sized (C := Try.checked) own started (by kernel_rfl) Try.func3
    (ChangeSpec.witness6 (enc := enc) (C := Try.checked) false ⟨#[], #[.agg #[.slice none 0 0, .slice none 0 0, .slice none 0 0], .agg #[.int .u8 0, .int .u8 0, .int .u8 0, .int .u8 0]], []⟩ 8 (by kernel_rfl) (by kernel_rfl) (by kernel_rfl) (by kernel_rfl)) ?_
  intro W base args ds gs before hval0 hW hcnd hsz0 _
  have hval : ∀ (j : Nat) t v, Try.f3.params[j]? = some t → args[j]? = some v → Value.okWide Try.prog W .any base t v := hval0
  have hW' := hW
  obtain ⟨p, q, hA0, hV, rfl, hfz, hnd⟩ := hW
  have hA : DataW.TrodAll enc Try.prog W 0 (fun _ => true) true Try.f3.params.toList args.toList ds p := hA0
  have hsz : (DataW.weightsEach Try.prog (Try.f3.params.toList ++ Rows.productsThreeSpec.plain.varTypes Try.prog) (ds ++ gs)).all (· ≤ reachBytes) = true := hsz0
  rw [Try.params3] at hA hval hsz
  obtain ⟨v0, vs0, d0, ds0, p0, q0, hargs, rfl, rfl, h0, r0⟩ := trodAll_cons hA
  obtain ⟨v1, vs1, d1, ds1, p1, q1, rfl, rfl, rfl, h1, r1⟩ := trodAll_cons r0
  obtain ⟨rfl, rfl, rfl⟩ := trodAll_nil r1
  obtain rfl : args = #[v0, v1] := by cases args; simp_all
  obtain ⟨rfl, rfl⟩ := trodVars_none hV
  have k0 := h0
  have lt0 : ∀ x ∈ p0, x.block < W.heap.size := by obtain ⟨m, hm⟩ := k0; exact DataW.trod_lt m _ _ _ hm
  have i0 := in_of (j := 0) (t := 23) hsz rfl rfl h0
  have o0 := hval 0 23 v0 rfl rfl
  have k1 := h1
  have lt1 : ∀ x ∈ p1, x.block < W.heap.size := by obtain ⟨m, hm⟩ := k1; exact DataW.trod_lt m _ _ _ hm
  have i1 := in_of (j := 1) (t := 24) hsz rfl rfl h1
  have o1 := hval 1 24 v1 rfl rfl
  clear hA0 hval0 hsz0 hsz
  obtain ⟨cs, rfl, hin⟩ := arg_array un_23 o0 i0
  obtain ⟨hl3, hel⟩ := hin.array un_23
  have c3 : Try.prog.cellsOf 23 = 3 := by kernel_rfl
  have c1 : Try.prog.cellsOf 22 = 1 := by kernel_rfl
  have kb1 : Try.prog.bytesOf 21 = 4 := by kernel_rfl
  have hr : reachBytes ≤ 140737488355328 := by decide
  rw [c3] at hl3
  rw [c1] at hel
  obtain ⟨x0, x1, x2, rfl⟩ := three_of hl3
  obtain ⟨u0, l0, e, s0, q0⟩ := (hel 0 (by decide)).slT un_22 (by kernel_rfl) (fun cs h => In.num (BitVec.ofInt 32) i32 (fun _ h => wf_i32 h) un_21 h)
  rw [kb1] at q0
  simp at e
  subst e
  obtain ⟨u1, l1, e, s1, q1⟩ := (hel 1 (by decide)).slT un_22 (by kernel_rfl) (fun cs h => In.num (BitVec.ofInt 32) i32 (fun _ h => wf_i32 h) un_21 h)
  rw [kb1] at q1
  simp at e
  subst e
  obtain ⟨u2, l2, e, s2, q2⟩ := (hel 2 (by decide)).slT un_22 (by kernel_rfl) (fun cs h => In.num (BitVec.ofInt 32) i32 (fun _ h => wf_i32 h) un_21 h)
  rw [kb1] at q2
  simp at e
  subst e
  obtain ⟨ds, rfl, hid⟩ := arg_array un_24 o1 i1
  obtain ⟨hl4, hed⟩ := hid.array un_24
  have c4 : Try.prog.cellsOf 24 = 4 := by kernel_rfl
  have c8 : Try.prog.cellsOf 5 = 1 := by kernel_rfl
  rw [c4] at hl4
  rw [c8] at hed
  obtain ⟨y0, y1, y2, y3, rfl⟩ := four_of hl4
  obtain ⟨d0, e⟩ := In.num (BitVec.ofInt 8) b8 (fun _ h => wf_u8 h) un_5 (hed 0 (by decide))
  simp at e
  subst e
  obtain ⟨d1, e⟩ := In.num (BitVec.ofInt 8) b8 (fun _ h => wf_u8 h) un_5 (hed 1 (by decide))
  simp at e
  subst e
  obtain ⟨d2, e⟩ := In.num (BitVec.ofInt 8) b8 (fun _ h => wf_u8 h) un_5 (hed 2 (by decide))
  simp at e
  subst e
  obtain ⟨d3, e⟩ := In.num (BitVec.ofInt 8) b8 (fun _ h => wf_u8 h) un_5 (hed 3 (by decide))
  simp at e
  subst e
  refine (law_calls (productsThree_w x0 x1 x2 l0 l1 l2 d0 d1 d2 d3 W s0 s1 s2 (by omega) (by omega) (by omega))).mono fun e W' ⟨he, bel⟩ => ?_
  subst he
  exact ⟨_, rfl, _, _, _, [], _, [], hW', trodAll_mk1 (shut_bool un_4 _), (trodAll_cons_mk (Below.trod laidOut (by kernel_rfl) (of_decide_eq_true (by kernel_rfl)) k0 bel lt0) (trodAll_cons_mk (Below.trod laidOut (by kernel_rfl) (of_decide_eq_true (by kernel_rfl)) k1 bel lt1) trodAll_mk0)), rfl, bel.frame _, fun h => by cases h⟩

/-- The statement. -/
theorem productsThree_proved : Rows.ProductsThreeSaid :=
  OpenClaim.holds_of_wide 3 Try.f3 rfl rfl rfl rfl rfl rfl rfl ⟨rfl, rfl, rfl, rfl, rfl⟩ rfl rfl rfl rfl rfl (by kernel_rfl) Try.func3 (by kernel_rfl)
    (of_decide_eq_true (by kernel_rfl)) (by unfold Func.isWrapper; first | (rw [if_pos (by decide +kernel)]; kernel_rfl) | (rw [if_neg (by decide +kernel)]; exact ⟨rfl, rfl⟩))
    (fun os started H enc _ => productsThree_lifted os started H enc)
#print axioms productsThree_proved
end Go.Proofs.Ytdliencelkdibaa
