/- Maths of one tensor as the document has it: for any tensor, any number of bits; no condition. -/
import Derived.Test.YthgckokpdgiilaaGreatDoorRefMaths
import Derived.Test.YthgckokpdgiilaaGreatDoorBookArg
namespace Go.Proofs.YthgckokpdgiilaaGreatDoor
open Go Go.Dd Go.RowKit Go.ChangeShapes Go.WideShapes Go.ChangeAt
set_option maxRecDepth 100000

theorem Ans.gives {W w : World} {r : Value} {e : Int} {s : List Int} {l : List (BitVec 32)} (h : Ans W w r e s l) : Gives W w r e s l := by
  obtain ⟨x, y, rfl, q1, q2⟩ := h
  by_cases he : e = 0
  · exact ⟨⟨x, y, s, l⟩, rfl, (q2 he).held, fun h => absurd he h, fun _ => ⟨rfl, rfl⟩⟩
  · obtain ⟨rfl, rfl⟩ := q1 he
    exact ⟨⟨_, _, [], []⟩, rfl, held_nil _ _ _, fun _ => ⟨rfl, rfl⟩, fun h => absurd h he⟩
theorem relu_g (a : T4) (W : World) (ha : a.at W) : Fnc Tryz.prog 16 [a.v] W (fun r w' => Below W.heap.size W w' ∧ Gives W w' r (e1 a.s a.l) a.s (z1 reluB a.s a.l)) :=
  (relu_c a W ha).mono fun r w' ⟨h1, h2⟩ => ⟨h1, by rw [ofE_one] at h2; exact h2.gives⟩
theorem shift_g (a : T4) (n : Int) (W : World) (ha : a.at W) : Fnc Tryz.prog 17 [a.v, .int .i64 n] W (fun r w' => Below W.heap.size W w' ∧ Gives W w' r (eSh a.s a.l n) a.s (z1 (shB n.toNat) a.s a.l)) :=
  (shift_c a n W ha).mono fun r w' ⟨h1, h2⟩ => ⟨h1, by unfold shE at h2; rw [ofE_one] at h2; exact h2.gives⟩
theorem rrelu_g (a : T4) (W : World) (ha : a.at W) : Fnc Tryz.prog 18 [a.v] W (fun r w' => Below W.heap.size W w' ∧ Gives W w' r (e1 a.s a.l) a.s (z1 reluB a.s a.l)) :=
  (rrelu_c a W ha).mono fun _ _ ⟨h1, h2⟩ => ⟨h1, h2.gives⟩
theorem rshift_g (a : T4) (n : Int) (W : World) (ha : a.at W) : Fnc Tryz.prog 19 [a.v, .int .i64 n] W (fun r w' => Below W.heap.size W w' ∧ Gives W w' r (eSh a.s a.l n) a.s (z1 (shB n.toNat) a.s a.l)) :=
  (rshift_c a n W ha).mono fun _ _ ⟨h1, h2⟩ => ⟨h1, h2.gives⟩

theorem mathsOne_w (a : T4) (n : Int) (W : World) (h_a : a.at W) (b1 : a.s.length ≤ 1125899906842624) (b2 : a.l.length ≤ 1125899906842624) :
    Fnc Tryz.prog 4 [a.v, .int .i64 n] W (fun r w' => r = .bool true ∧ Below W.heap.size W w') := by
  have hB := Below.refl W.heap.size W
  refine Fnc.enter (n := 77) Tryz.func4 (by kernel_rfl) rfl rfl rfl ?_
  refine Cw.seq ?_
  refine Cw.region ?_
  refine Lw.boxV (cs := [a.x, a.y]) rfl rfl rfl ?_
  rintro A_a w eA_a b_a hn -
  replace hB := hB.bs hn
  replace h_a := h_a.bs hn
  clear hn
  refine Lw.val (Ex.assign rfl) rfl ?_
  refine Lw.nil ?_
  refine Pw.thenN (Cw.out ?_)
  refine Cw.seq ?_
  refine Cw.seq ?_
  refine Cw.region ?_
  refine Lw.val (Ex.ldA (ag_25 _) (sz_25 _) rfl rfl (by assumption)) rfl ?_
  refine Lw.callF rfl rfl (tsize_c a _ h_a b1 b2) ?_
  rintro _ w ⟨rfl, hn⟩
  replace hB := hB.bs hn
  replace h_a := h_a.bs hn
  replace b_a := b_a.bs hn
  clear hn
  refine Lw.valW (Xw.lit (vs := [tsz a.s a.l].map (Value.int .i64)) st_22 it_3 rfl rfl rfl rfl rfl) rfl ?_
  rintro u w ⟨ho, -, hn, -⟩
  replace hB := hB.bs hn
  replace h_a := h_a.bs hn
  replace b_a := b_a.bs hn
  clear hn
  refine Lw.callF rfl rfl (beyond_c u [tsz a.s a.l] w (own_slT ho) (by intro x hx; simp at hx; rw [hx]; exact tsz_bd b1 b2)) ?_
  rintro _ w ⟨rfl, hn⟩
  replace hB := hB.bs hn
  replace h_a := h_a.bs hn
  replace b_a := b_a.bs hn
  clear hn
  refine Lw.nil ?_
  refine Pw.thenN (Cw.out ?_)
  clear ho
  refine Cw.cond rfl ?_ ?_
  · intro _
    refine Cw.seq ?_
    refine Cw.region ?_
    refine Lw.val (Ex.assign rfl) rfl ?_
    refine Lw.nil ?_
    refine Pw.thenN (Cw.out ?_)
    refine Cw.ret ?_
    refine Pw.thenR ?_
    refine Pw.ret1 rfl rfl ?_
    exact ⟨rfl, hB⟩
  intro g
  have g' : bey 0 [tsz a.s a.l] = false := by simpa using g
  have hbey := bey_no (Int.le_refl 0) (by intro x hx; simp at hx; rw [hx]; exact (tsz_bd b1 b2).1) g'
  obtain ⟨la, lla⟩ := tsz_le (hbey (tsz a.s a.l) (by simp))
  clear g' hbey b1 b2
  have t0 := below_size hB
  refine Cw.skip ?_
  refine Pw.thenN (Cw.out ?_)
  refine Cw.seq ?_
  refine Cw.region ?_
  refine Lw.val (Ex.ldA (ag_25 _) (sz_25 _) rfl rfl (by assumption)) rfl ?_
  refine Lw.callF rfl rfl (twin2_c a _ h_a (by omega) (by omega)) ?_
  rintro _ w ⟨hn, tx, ty, rfl, h_t⟩
  have zc_t := hn.size
  replace hB := hB.bs hn
  replace h_a := h_a.bs hn
  replace b_a := b_a.bs hn
  clear hn
  have o_t := h_t.held.at.one
  refine Lw.boxed (cs := [tx, ty]) it_25 rfl rfl rfl rfl (fun _ => rfl) (o_t) ?_
  rintro A_t w eA_t b_t hn zhn
  have zb_t := hn.size
  replace hB := hB.bs hn
  replace h_a := h_a.bs hn
  replace b_a := b_a.bs hn
  replace h_t := h_t.bs hn
  clear hn
  refine Lw.nil ?_
  refine Pw.thenN (Cw.out ?_)
  refine Cw.seq ?_
  refine Cw.region ?_
  refine Lw.val (Ex.ldA (ag_25 _) (sz_25 _) rfl rfl (by assumption)) rfl ?_
  refine Lw.callF rfl rfl (relu_g ⟨tx, ty, a.s, a.l⟩ _ h_t.held.at) ?_
  rintro _ w ⟨hn, x, rfl, h_x, n_x, y_x⟩
  have zc_x := hn.size
  replace hB := hB.bs hn
  replace h_a := h_a.bs hn
  replace b_a := b_a.bs hn
  replace h_t := h_t.bs hn
  replace b_t := b_t.bs hn
  clear hn
  refine Lw.val (Ex.move rfl) rfl ?_
  refine Lw.val (Ex.extract (i := 0) rfl rfl) rfl ?_
  refine Lw.val (Ex.extract (i := 1) rfl rfl) rfl ?_
  have o_x := h_x.at.one
  refine Lw.boxed (cs := [x.x, x.y]) it_25 rfl rfl rfl rfl (fun _ => rfl) (o_x) ?_
  rintro A_x w eA_x b_x hn zhn
  have zb_x := hn.size
  replace hB := hB.bs hn
  replace h_a := h_a.bs hn
  replace b_a := b_a.bs hn
  replace h_t := h_t.bs hn
  replace b_t := b_t.bs hn
  replace h_x := h_x.bs hn
  clear hn
  refine Lw.val (Ex.assign rfl) rfl ?_
  refine Lw.nil ?_
  refine Pw.thenN (Cw.out ?_)
  refine Cw.seq ?_
  refine Cw.region ?_
  refine Lw.val (Ex.ldA (ag_25 _) (sz_25 _) rfl rfl (by assumption)) rfl ?_
  refine Lw.val (Ex.move rfl) rfl ?_
  refine Lw.callF rfl rfl (shift_g ⟨tx, ty, a.s, a.l⟩ n _ h_t.held.at) ?_
  rintro _ w ⟨hn, y, rfl, h_y, n_y, y_y⟩
  have zc_y := hn.size
  replace hB := hB.bs hn
  replace h_a := h_a.bs hn
  replace b_a := b_a.bs hn
  replace h_t := h_t.bs hn
  replace b_t := b_t.bs hn
  replace h_x := h_x.bs hn
  replace b_x := b_x.bs hn
  clear hn
  refine Lw.val (Ex.move rfl) rfl ?_
  refine Lw.val (Ex.extract (i := 0) rfl rfl) rfl ?_
  refine Lw.val (Ex.extract (i := 1) rfl rfl) rfl ?_
  have o_y := h_y.at.one
  refine Lw.boxed (cs := [y.x, y.y]) it_25 rfl rfl rfl rfl (fun _ => rfl) (o_y) ?_
  rintro A_y w eA_y b_y hn zhn
  have zb_y := hn.size
  replace hB := hB.bs hn
  replace h_a := h_a.bs hn
  replace b_a := b_a.bs hn
  replace h_t := h_t.bs hn
  replace b_t := b_t.bs hn
  replace h_x := h_x.bs hn
  replace b_x := b_x.bs hn
  replace h_y := h_y.bs hn
  clear hn
  refine Lw.val (Ex.assign rfl) rfl ?_
  refine Lw.nil ?_
  refine Pw.thenN (Cw.out ?_)
  refine Cw.seq ?_
  refine Cw.region ?_
  refine Lw.val (Ex.ldA (ag_25 _) (sz_25 _) rfl rfl (by assumption)) rfl ?_
  refine Lw.callF rfl rfl (rrelu_g a _ h_a) ?_
  rintro _ w ⟨hn, p, rfl, h_p, n_p, y_p⟩
  have zc_p := hn.size
  replace hB := hB.bs hn
  replace h_a := h_a.bs hn
  replace b_a := b_a.bs hn
  replace h_t := h_t.bs hn
  replace b_t := b_t.bs hn
  replace h_x := h_x.bs hn
  replace b_x := b_x.bs hn
  replace h_y := h_y.bs hn
  replace b_y := b_y.bs hn
  clear hn
  refine Lw.val (Ex.move rfl) rfl ?_
  refine Lw.val (Ex.extract (i := 0) rfl rfl) rfl ?_
  refine Lw.val (Ex.extract (i := 1) rfl rfl) rfl ?_
  have o_p := h_p.at.one
  refine Lw.boxed (cs := [p.x, p.y]) it_25 rfl rfl rfl rfl (fun _ => rfl) (o_p) ?_
  rintro A_p w eA_p b_p hn zhn
  have zb_p := hn.size
  replace hB := hB.bs hn
  replace h_a := h_a.bs hn
  replace b_a := b_a.bs hn
  replace h_t := h_t.bs hn
  replace b_t := b_t.bs hn
  replace h_x := h_x.bs hn
  replace b_x := b_x.bs hn
  replace h_y := h_y.bs hn
  replace b_y := b_y.bs hn
  replace h_p := h_p.bs hn
  clear hn
  refine Lw.val (Ex.assign rfl) rfl ?_
  refine Lw.nil ?_
  refine Pw.thenN (Cw.out ?_)
  refine Cw.seq ?_
  refine Cw.region ?_
  refine Lw.val (Ex.ldA (ag_25 _) (sz_25 _) rfl rfl (by assumption)) rfl ?_
  refine Lw.val (Ex.move rfl) rfl ?_
  refine Lw.callF rfl rfl (rshift_g a n _ h_a) ?_
  rintro _ w ⟨hn, q, rfl, h_q, n_q, y_q⟩
  have zc_q := hn.size
  replace hB := hB.bs hn
  replace h_a := h_a.bs hn
  replace b_a := b_a.bs hn
  replace h_t := h_t.bs hn
  replace b_t := b_t.bs hn
  replace h_x := h_x.bs hn
  replace b_x := b_x.bs hn
  replace h_y := h_y.bs hn
  replace b_y := b_y.bs hn
  replace h_p := h_p.bs hn
  replace b_p := b_p.bs hn
  clear hn
  refine Lw.val (Ex.move rfl) rfl ?_
  refine Lw.val (Ex.extract (i := 0) rfl rfl) rfl ?_
  refine Lw.val (Ex.extract (i := 1) rfl rfl) rfl ?_
  have o_q := h_q.at.one
  refine Lw.boxed (cs := [q.x, q.y]) it_25 rfl rfl rfl rfl (fun _ => rfl) (o_q) ?_
  rintro A_q w eA_q b_q hn zhn
  have zb_q := hn.size
  replace hB := hB.bs hn
  replace h_a := h_a.bs hn
  replace b_a := b_a.bs hn
  replace h_t := h_t.bs hn
  replace b_t := b_t.bs hn
  replace h_x := h_x.bs hn
  replace b_x := b_x.bs hn
  replace h_y := h_y.bs hn
  replace b_y := b_y.bs hn
  replace h_p := h_p.bs hn
  replace b_p := b_p.bs hn
  replace h_q := h_q.bs hn
  clear hn
  refine Lw.val (Ex.assign rfl) rfl ?_
  refine Lw.nil ?_
  refine Pw.thenN (Cw.out ?_)
  refine Cw.seq ?_
  refine Cw.seq ?_
  refine Cw.region ?_
  refine Lw.val (Ex.ldA (ag_25 _) (sz_25 _) rfl rfl (by assumption)) rfl ?_
  refine Lw.val (Ex.ldA (ag_25 _) (sz_25 _) rfl rfl (by assumption)) rfl ?_
  refine Lw.callF rfl rfl (sameTensor_c x p _ h_x.at h_p.at) ?_
  rintro _ w ⟨rfl, hn⟩
  replace hB := hB.bs hn
  replace h_a := h_a.bs hn
  replace b_a := b_a.bs hn
  replace h_t := h_t.bs hn
  replace b_t := b_t.bs hn
  replace h_x := h_x.bs hn
  replace b_x := b_x.bs hn
  replace h_y := h_y.bs hn
  replace b_y := b_y.bs hn
  replace h_p := h_p.bs hn
  replace b_p := b_p.bs hn
  replace h_q := h_q.bs hn
  replace b_q := b_q.bs hn
  clear hn
  refine Lw.val (Ex.not rfl) rfl ?_
  refine Lw.val (Ex.move rfl) rfl ?_
  refine Lw.know 47 (v' := .bool false) rfl (congrArg Value.bool (same_ans n_x y_x n_p y_p)) ?_
  refine Lw.take (dj := 47) rfl rfl ?_
  refine Lw.val (Ex.ldA (ag_25 _) (sz_25 _) rfl rfl (by assumption)) rfl ?_
  refine Lw.take (dj := 47) rfl rfl ?_
  refine Lw.val (Ex.ldA (ag_25 _) (sz_25 _) rfl rfl (by assumption)) rfl ?_
  refine Lw.take (dj := 47) rfl rfl ?_
  refine Lw.callF rfl rfl (sameTensor_c y q _ h_y.at h_q.at) ?_
  rintro _ w ⟨rfl, hn⟩
  replace hB := hB.bs hn
  replace h_a := h_a.bs hn
  replace b_a := b_a.bs hn
  replace h_t := h_t.bs hn
  replace b_t := b_t.bs hn
  replace h_x := h_x.bs hn
  replace b_x := b_x.bs hn
  replace h_y := h_y.bs hn
  replace b_y := b_y.bs hn
  replace h_p := h_p.bs hn
  replace b_p := b_p.bs hn
  replace h_q := h_q.bs hn
  replace b_q := b_q.bs hn
  clear hn
  refine Lw.take (dj := 47) rfl rfl ?_
  refine Lw.val (Ex.not rfl) rfl ?_
  refine Lw.val (Ex.pickF rfl rfl) rfl ?_
  refine Lw.val (Ex.move rfl) rfl ?_
  refine Lw.know 53 (v' := .bool false) rfl (congrArg Value.bool (same_ans n_y y_y n_q y_q)) ?_
  refine Lw.take (dj := 53) rfl rfl ?_
  refine Lw.val (Ex.move rfl) rfl ?_
  refine Lw.take (dj := 53) rfl rfl ?_
  refine Lw.val (Ex.move rfl) rfl ?_
  refine Lw.take (dj := 53) rfl rfl ?_
  refine Lw.val (Ex.neq rfl rfl) rfl ?_
  refine Lw.val (Ex.pickF rfl rfl) rfl ?_
  refine Lw.val (Ex.move rfl) rfl ?_
  refine Lw.know 58 (v' := .bool false) rfl (congrArg Value.bool (by simp)) ?_
  refine Lw.take (dj := 58) rfl rfl ?_
  refine Lw.val (Ex.move rfl) rfl ?_
  refine Lw.take (dj := 58) rfl rfl ?_
  refine Lw.val (Ex.move rfl) rfl ?_
  refine Lw.take (dj := 58) rfl rfl ?_
  refine Lw.val (Ex.neq rfl rfl) rfl ?_
  refine Lw.val (Ex.pickF rfl rfl) rfl ?_
  refine Lw.val (Ex.move rfl) rfl ?_
  refine Lw.know 63 (v' := .bool false) rfl (congrArg Value.bool (by simp)) ?_
  refine Lw.take (dj := 63) rfl rfl ?_
  refine Lw.val (Ex.ldA (ag_25 _) (sz_25 _) rfl rfl (by assumption)) rfl ?_
  refine Lw.take (dj := 63) rfl rfl ?_
  refine Lw.val (Ex.ldA (ag_25 _) (sz_25 _) rfl rfl (by assumption)) rfl ?_
  refine Lw.take (dj := 63) rfl rfl ?_
  refine Lw.callF rfl rfl (leftTensor_c a tx ty _ _ _ h_a h_t) ?_
  rintro _ w ⟨rfl, hn⟩
  replace hB := hB.bs hn
  replace h_a := h_a.bs hn
  replace b_a := b_a.bs hn
  replace h_t := h_t.bs hn
  replace b_t := b_t.bs hn
  replace h_x := h_x.bs hn
  replace b_x := b_x.bs hn
  replace h_y := h_y.bs hn
  replace b_y := b_y.bs hn
  replace h_p := h_p.bs hn
  replace b_p := b_p.bs hn
  replace h_q := h_q.bs hn
  replace b_q := b_q.bs hn
  clear hn
  refine Lw.take (dj := 63) rfl rfl ?_
  refine Lw.val (Ex.not rfl) rfl ?_
  refine Lw.val (Ex.pickF rfl rfl) rfl ?_
  refine Lw.nil ?_
  refine Pw.thenN (Cw.out ?_)
  refine Cw.condB rfl false (rfl) ?_
  refine Cw.skip ?_
  refine Pw.thenN (Cw.out ?_)
  refine Cw.seq ?_
  refine Cw.region ?_
  refine Lw.val (Ex.build (vs := []) (cs := [.int .i64 0, .slice none 0 0, .slice none 0 0, .slice none 0 0, .slice none 0 0, .slice none 0 0, .slice none 0 0, .slice none 0 0, .slice none 0 0, .slice none 0 0, .slice none 0 0, .slice none 0 0, .slice none 0 0, .slice none 0 0, .slice none 0 0, .slice none 0 0]) rfl (by kernel_rfl)) rfl ?_
  have zy := blk_lt b_y
  have K0 : Heldall w W.heap.size w.heap.size [⟨tx, ty, a.s, a.l⟩, x, y] :=
    ⟨_, _, by omega, zc_t, h_t.held, _, _, by omega, zc_x, h_x, _, _, by omega, zc_y, h_y, (by show _ ≤ _; omega)⟩
  refine Lw.boxed (cs := .int .i64 0 :: List.replicate 15 (.slice none 0 0)) it_49 rfl rfl rfl rfl (fun _ => rfl) (rfl) ?_
  rintro A_k w eA_k b_k hn zhn
  have zk := hn.size
  replace hB := hB.bs hn
  replace h_a := h_a.bs hn
  replace b_a := b_a.bs hn
  replace h_t := h_t.bs hn
  replace b_t := b_t.bs hn
  replace h_x := h_x.bs hn
  replace b_x := b_x.bs hn
  replace h_y := h_y.bs hn
  replace b_y := b_y.bs hn
  replace h_p := h_p.bs hn
  replace b_p := b_p.bs hn
  replace h_q := h_q.bs hn
  replace b_q := b_q.bs hn
  replace K0 := K0.bs hn
  clear hn
  have h_k := bk_new b_k
  have zw := below_size hB
  have K := K0.keeps (Int.le_refl 0) (show (0 : Int) + 2 * ((3 : Nat) : Int) ≤ 1000000 by decide) (by
    dsimp only at n_x y_x n_y y_y
    intro c hc
    have e0 : (z1 reluB a.s a.l).length ≤ 4096 ∧ (z1 (shB n.toNat) a.s a.l).length ≤ 4096 := by
      have := Shapes.size_le a.s
      rw [z1_lenN, z1_lenN]
      omega
    simp only [List.mem_cons, List.not_mem_nil, or_false] at hc
    rcases hc with rfl | rfl | rfl
    · exact ⟨by show a.s.length ≤ _; omega, by show a.l.length ≤ _; omega⟩
    · exact few_ans n_x y_x (by omega) (fun _ => by omega)
    · exact few_ans n_y y_y (by omega) (fun _ => by omega))
  rw [← eA_k] at K
  have h_t := h_t.held
  clear K0 b_k
  refine Lw.nil ?_
  refine Pw.thenN (Cw.out ?_)
  refine Cw.seq ?_
  refine Cw.region ?_
  refine Lw.val (Ex.ldA (ag_25 _) (sz_25 _) rfl rfl (by assumption)) rfl ?_
  refine Lw.callF rfl rfl (bookTensor_c w A_k A_k _ _ _ _ _ _ _ tx ty _ _ _ _ h_k h_t.rx.sl h_t.ry.sl (fun b e => by have := h_t.by' b e; omega) (by omega) (show 0 ≤ 700 by decide)) ?_
  rintro _ w ⟨rfl, hn, _, _, h_k⟩
  have hB := hB.trans (hn.mono (show W.heap.size ≤ A_k by omega))
  have K := K.below hn
  have h_x := h_x.below hn (by omega)
  have h_y := h_y.below hn (by omega)
  have b_x := b_x.keep (hn.block A_x (by omega))
  have b_y := b_y.keep (hn.block A_y (by omega))
  refine Lw.nil ?_
  refine Pw.thenN (Cw.out ?_)
  refine Cw.seq ?_
  refine Cw.region ?_
  refine Lw.val (Ex.ldA (ag_25 _) (sz_25 _) rfl rfl (by assumption)) rfl ?_
  refine Lw.callF rfl rfl (bookTensor_c w A_k A_k _ _ _ _ _ _ _ x.x x.y _ _ _ _ h_k h_x.rx.sl h_x.ry.sl (fun b e => by have := h_x.by' b e; omega) (by omega) (show 2 ≤ 700 by decide)) ?_
  rintro _ w ⟨rfl, hn, _, _, h_k⟩
  have hB := hB.trans (hn.mono (show W.heap.size ≤ A_k by omega))
  have K := K.below hn
  have h_y := h_y.below hn (by omega)
  have b_y := b_y.keep (hn.block A_y (by omega))
  refine Lw.nil ?_
  refine Pw.thenN (Cw.out ?_)
  refine Cw.seq ?_
  refine Cw.region ?_
  refine Lw.val (Ex.ldA (ag_25 _) (sz_25 _) rfl rfl (by assumption)) rfl ?_
  refine Lw.callF rfl rfl (bookTensor_c w A_k A_k _ _ _ _ _ _ _ y.x y.y _ _ _ _ h_k h_y.rx.sl h_y.ry.sl (fun b e => by have := h_y.by' b e; omega) (by omega) (show 4 ≤ 700 by decide)) ?_
  rintro _ w ⟨rfl, hn, _, _, h_k⟩
  have hB := hB.trans (hn.mono (show W.heap.size ≤ A_k by omega))
  have K := K.below hn
  refine Lw.nil ?_
  refine Pw.thenN (Cw.out ?_)
  refine Cw.seq ?_
  refine Cw.region ?_
  refine Lw.callF rfl rfl (apartT_c w A_k A_k W.heap.size _ _ _ _ _ _ h_k K (by omega)) ?_
  rintro _ w ⟨rfl, hn⟩
  refine Lw.val (Ex.assign rfl) rfl ?_
  refine Lw.nil ?_
  refine Pw.thenN (Cw.out ?_)
  refine Cw.ret ?_
  refine Pw.ret1 rfl rfl ?_
  exact ⟨rfl, hB.trans hn⟩

/-! A world for the witness: the settled one, the tables laid. -/
def laidCells : DataW Unit → Array Value
  | .agg l => (l.map fun d => match d with | .lit (.int k n) => Value.int k n | _ => Value.bool false).toArray
  | _ => #[]
noncomputable def laidWorld (os : Os) : World :=
  { World.holding Tryz.prog os ⟨#[], #[], []⟩ with heap := Rows.mathsOneRow.laid.foldl (fun h x => h.modify ((Tryz.prog.globalNamed x.1).getD 0) fun | .cells _ t fz => .cells (laidCells x.2) t fz | o => o) (World.holding Tryz.prog os ⟨#[], #[], []⟩).heap }
theorem laid_met (os : Os) (args : Array Value) : laidMetH Tryz.prog Rows.mathsOneRow.laid ((laidWorld os).forCall (fun _ _ => 0) ⟨#[], args, []⟩).memory :=
  laidMetH_of_parts (laidMet_of_run' 8 (by kernel_rfl) (by kernel_rfl)) (by kernel_rfl)

set_option maxRecDepth 100000 in
set_option maxHeartbeats 2000000 in
theorem mathsOne_lifted (os : Os) (started : os.Started) (H : Type) (enc : TypeId × Value → H) :
    ReturnsInHanded {} Tryz.checked os 4 .any (fun w args => (Rows.mathsOneSpec.pre enc Tryz.prog Tryz.f4 Rows.mathsOneRow.domain false w args ∧ laidMetH Tryz.prog Rows.mathsOneRow.laid w) ∧ sizedMet enc Tryz.prog Tryz.f4 (OpenSpec.ofChange Rows.mathsOneSpec) false w args) (Rows.mathsOneSpec.post enc Tryz.prog Tryz.f4 false true false false) := by
  refine returnsInHanded_of_change_and (C := Tryz.checked) (X := fun w _ => laidMetH Tryz.prog Rows.mathsOneRow.laid w) (fun _ _ _ hh h => h.of_heap hh) own started (by kernel_rfl) Tryz.func4
    (ChangeSpec.witness_at (enc := enc) (C := Tryz.checked) (os := os) (X := fun w _ => laidMetH Tryz.prog Rows.mathsOneRow.laid w) false (laidWorld os) #[.agg #[.slice none 0 0, .slice none 0 0], .int .i64 0] 8 rfl (by kernel_rfl) (by kernel_rfl) (by kernel_rfl) (by kernel_rfl) (by kernel_rfl) (laid_met os _)) ?_
  intro W base args ds gs before hval0 hW hcnd hsz0 _ _
  have hval : ∀ (j : Nat) t v, Tryz.f4.params[j]? = some t → args[j]? = some v → Value.okWide Tryz.prog W .any base t v := hval0
  have hW' := hW
  obtain ⟨p, q, hA0, hV, rfl, hfz, hnd⟩ := hW
  have hA : DataW.TrodAll enc Tryz.prog W 0 (fun _ => true) true Tryz.f4.params.toList args.toList ds p := hA0
  have hsz : (DataW.weightsEach Tryz.prog (Tryz.f4.params.toList ++ Rows.mathsOneSpec.plain.varTypes Tryz.prog) (ds ++ gs)).all (· ≤ reachBytes) = true := hsz0
  rw [Tryz.params4] at hA hval hsz
  obtain ⟨v0, vs0, d0, ds0, p0, q0, hargs, rfl, rfl, h0, r0⟩ := trodAll_cons hA
  obtain ⟨v1, vs1, d1, ds1, p1, q1, rfl, rfl, rfl, h1, r1⟩ := trodAll_cons r0
  obtain ⟨rfl, rfl, rfl⟩ := trodAll_nil r1
  obtain rfl : args = #[v0, v1] := by cases args; simp_all
  obtain ⟨rfl, rfl⟩ := trodVars_none hV
  have k0 := h0
  have lt0 : ∀ x ∈ p0, x.block < W.heap.size := by obtain ⟨m, hm⟩ := k0; exact DataW.trod_lt m _ _ _ hm
  have i0 := in_of (j := 0) (t := 25) hsz rfl rfl h0
  have o0 := hval 0 25 v0 rfl rfl
  have k1 := h1
  have lt1 : ∀ x ∈ p1, x.block < W.heap.size := by obtain ⟨m, hm⟩ := k1; exact DataW.trod_lt m _ _ _ hm
  have i1 := in_of (j := 1) (t := 3) hsz rfl rfl h1
  have o1 := hval 1 3 v1 rfl rfl
  clear hA0 hval0 hsz0 hsz
  obtain ⟨a, rfl, ha, ba1, ba2⟩ := arg_ten o0 i0
  obtain ⟨m, rfl, -⟩ := arg_int un_3 o1 i1
  refine (law_calls (mathsOne_w a m W ha (by omega) (by omega))).mono fun e W' ⟨he, bel⟩ => ?_
  subst he
  exact ⟨_, rfl, _, _, _, [], _, [], hW', trodAll_mk1 (shut_bool un_4 _), (trodAll_cons_mk (Below.trod laidOut (by kernel_rfl) (of_decide_eq_true (by kernel_rfl)) k0 bel lt0) (trodAll_cons_mk (Below.trod laidOut (by kernel_rfl) (of_decide_eq_true (by kernel_rfl)) k1 bel lt1) trodAll_mk0)), rfl, bel.frame _, fun h => by cases h⟩

/-- The statement. -/
theorem mathsOne_holds : Rows.MathsOneSaid :=
  OpenClaim.holds_of_wide 4 Tryz.f4 rfl rfl rfl rfl rfl rfl rfl ⟨rfl, rfl, rfl, rfl, rfl⟩ rfl rfl rfl rfl rfl (by kernel_rfl) Tryz.func4 (by kernel_rfl)
    (of_decide_eq_true (by kernel_rfl)) (by unfold Func.isWrapper; first | (rw [if_pos (by decide +kernel)]; kernel_rfl) | (rw [if_neg (by decide +kernel)]; exact ⟨rfl, rfl⟩))
    (fun os started H enc _ => mathsOne_lifted os started H enc)
/-- The card. -/
theorem mathsOne_proved : Rows.MathsOneCardSaid :=
  Claim7.holds_tied_plain_at .later [] [.data, .data, .data] true (true, "737beb89466c23a93984482d4d716b4f97e1012da176a5bf8a950510520d73c8") false
    mathsOne_holds (fun _ h => by cases h) (by kernel_rfl) (fun _ h => by cases h) mathsOne_row_tie rfl ⟨rfl, rfl⟩ (by kernel_rfl) rfl
    (fun f fn hf hfn => by
      obtain rfl : f = 4 := Option.some.inj ((show Tryz.prog.funcNamed "drydock/drydocklaw06.MathsOne" = some 4 by kernel_rfl).symm.trans hf) |>.symm
      obtain rfl : fn = Tryz.f4 := (Option.some.inj (Tryz.func4.symm.trans hfn)).symm
      refine ⟨by kernel_rfl, fun j t ht => ?_⟩
      rw [Tryz.params4] at ht
      have h3 : t ∈ [25, 3] := List.mem_of_getElem? (by simpa using ht)
      have h4 : ([25, 3] : List TypeId).all (fun t => Tryz.prog.wantsStandIn t == false) = true := by kernel_rfl
      exact eq_of_beq (List.all_eq_true.1 h4 t h3))
    (by kernel_rfl)
#print axioms mathsOne_proved
end Go.Proofs.YthgckokpdgiilaaGreatDoor
