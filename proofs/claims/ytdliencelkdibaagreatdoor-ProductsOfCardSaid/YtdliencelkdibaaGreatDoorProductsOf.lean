/- Rows with columns as the document has it: for any two tensors, any two shapes; no condition. -/
import Derived.Test.YtdliencelkdibaaGreatDoorRefProducts
import Derived.Test.YtdliencelkdibaaGreatDoorBookMix
import Derived.Test.YtdliencelkdibaaGreatDoorBookArg
namespace Go.Proofs.YtdliencelkdibaaGreatDoor
open Go Go.Dd Go.RowKit Go.ChangeShapes Go.WideShapes Go.ChangeAt
set_option maxRecDepth 100000

theorem Ans0.gives {W w : World} {r : Value} {e : Int} {s : List Int} {l : List (BitVec 32)} (h : Ans0 W w r e s l) : Gives W w r e s l := by
  obtain ⟨x, y, rfl, q1, q2⟩ := h
  by_cases he : e = 0
  · exact ⟨⟨x, y, s, l⟩, rfl, (q2 he).held, fun h => absurd he h, fun _ => ⟨rfl, rfl⟩⟩
  · obtain ⟨rfl, rfl⟩ := q1 he
    exact ⟨⟨_, _, [], []⟩, rfl, held_nil _ _ _, fun _ => ⟨rfl, rfl⟩, fun h => absurd h he⟩
theorem PShp.gives {W w : World} {r : Value} {a b : List Int} (h : PShp W w r a b) : GivesI W w r (pshE a b) [a.getD 0 default, b.getD 1 default] := by
  obtain ⟨x, rfl, h1, h2⟩ := h
  by_cases he : pshE a b = 0
  · exact ⟨x, _, rfl, held_ints (.inl (h2 he)) (fun b e => (own_block (h2 he) b e).2), fun h => absurd he h, fun _ => rfl⟩
  · rw [h1 he]
    exact ⟨_, [], rfl, held_nil _ _ _, fun _ => rfl, fun h => absurd h he⟩
theorem prod_g (a b : T4) (W : World) (h_a : a.at W) (h_b : b.at W) : Fnc Tryz.prog 8 [a.v, b.v] W (fun r w' => Below W.heap.size W w' ∧ Gives W w' r (prdE a b) [a.s.getD 0 default, b.s.getD 1 default] (prdL a b)) :=
  (prod0_c a b W h_a h_b).mono fun _ _ ⟨h1, h2⟩ => ⟨h1, h2.gives⟩
theorem rprod_g (a b : T4) (W : World) (h_a : a.at W) (h_b : b.at W) : Fnc Tryz.prog 9 [a.v, b.v] W (fun r w' => Below W.heap.size W w' ∧ Gives W w' r (prdE a b) [a.s.getD 0 default, b.s.getD 1 default] (prdL a b)) :=
  (rprod_c a b W h_a h_b).mono fun _ _ ⟨h1, h2⟩ => ⟨h1, h2.gives⟩
theorem pshape_g (u v : Value) (a b : List Int) (W : World) (hu : SlT (Value.int .i64) W u a) (hv : SlT (Value.int .i64) W v b) : Fnc Tryz.prog 10 [u, v] W (fun r w' => Below W.heap.size W w' ∧ GivesI W w' r (pshE a b) [a.getD 0 default, b.getD 1 default]) :=
  (pshape_c u v a b W hu hv).mono fun _ _ ⟨h1, h2⟩ => ⟨h1, h2.gives⟩
theorem rpshape_g (u v : Value) (a b : List Int) (W : World) (hu : SlT (Value.int .i64) W u a) (hv : SlT (Value.int .i64) W v b) : Fnc Tryz.prog 11 [u, v] W (fun r w' => Below W.heap.size W w' ∧ GivesI W w' r (pshE a b) [a.getD 0 default, b.getD 1 default]) :=
  (rpshape_c u v a b W hu hv).mono fun _ _ ⟨h1, h2⟩ => ⟨h1, h2.gives⟩
theorem prdL_len {a b : T4} (h : prdE a b = 0) : (prdL a b).length ≤ 4096 := by
  unfold prdE at h
  split at h
  · rename_i h1
    simp only [Bool.and_eq_true] at h1
    have ka := (tok_ok h1.1).1
    have kb := (tok_ok h1.2).1
    unfold pshE at h
    rw [ka, kb] at h
    simp only [Bool.and_self, if_true] at h
    split at h
    · rename_i h2
      have d0 := ok_dims ka (i := 0) (by omega)
      have d1 := ok_dims kb (i := 1) (by omega)
      unfold prdL
      rw [prd_length]
      have := Nat.mul_le_mul (show (a.s.getD 0 default).toNat ≤ 64 by omega) (show (b.s.getD 1 default).toNat ≤ 64 by omega)
      omega
    · cases h
  · cases h

theorem productsOf_w (a b : T4) (s0 s1 : Value) (l0 l1 : List Int) (W : World) (h_a : a.at W) (h_b : b.at W) (x_0 : SlT (Value.int .i64) W s0 l0) (x_1 : SlT (Value.int .i64) W s1 l1) (b1 : a.s.length ≤ 1125899906842624) (b2 : a.l.length ≤ 1125899906842624) (b3 : b.s.length ≤ 1125899906842624) (b4 : b.l.length ≤ 1125899906842624)
    (b5 : l0.length ≤ 1125899906842624) (b6 : l1.length ≤ 1125899906842624) :
    Fnc Tryz.prog 3 [a.v, b.v, .agg #[s0, s1]] W (fun r w' => r = .bool true ∧ Below W.heap.size W w') := by
  have hB := Below.refl W.heap.size W
  refine Fnc.enter (n := 128) Tryz.func3 (by kernel_rfl) rfl rfl rfl ?_
  refine Cw.seq ?_
  refine Cw.region ?_
  refine Lw.boxV (cs := [a.x, a.y]) rfl rfl rfl ?_
  rintro A_a w eA_a b_a hn -
  replace hB := hB.bs hn
  replace h_a := h_a.bs hn
  replace h_b := h_b.bs hn
  replace x_0 := x_0.bs hn
  replace x_1 := x_1.bs hn
  clear hn
  refine Lw.boxV (cs := [b.x, b.y]) rfl rfl rfl ?_
  rintro A_b w eA_b b_b hn -
  replace hB := hB.bs hn
  replace h_a := h_a.bs hn
  replace h_b := h_b.bs hn
  replace x_0 := x_0.bs hn
  replace x_1 := x_1.bs hn
  replace b_a := b_a.bs hn
  clear hn
  refine Lw.boxV (cs := [s0, s1]) rfl rfl rfl ?_
  rintro A_s w eA_s b_s hn -
  replace hB := hB.bs hn
  replace h_a := h_a.bs hn
  replace h_b := h_b.bs hn
  replace x_0 := x_0.bs hn
  replace x_1 := x_1.bs hn
  replace b_a := b_a.bs hn
  replace b_b := b_b.bs hn
  clear hn
  refine Lw.val (Ex.assign rfl) rfl ?_
  refine Lw.nil ?_
  refine Pw.thenN (Cw.out ?_)
  refine Cw.seq ?_
  refine Cw.seq ?_
  refine Cw.tail 10 mixed (by kernel_rfl) ?_
  refine Qw.val (fun w1 hq => Ex.ldA (ag_25 _) (sz_25 _) rfl rfl (Blk.bs (by assumption) hq)) rfl ?_
  refine Qw.callF rfl rfl (fun w1 hq => (tsize_c a w1 (h_a.bs hq) b1 b2).q hq) ?_
  refine Qw.val (fun w1 hq => Ex.ldA (ag_25 _) (sz_25 _) rfl rfl (Blk.bs (by assumption) hq)) rfl ?_
  refine Qw.callF rfl rfl (fun w1 hq => (tsize_c b w1 (h_b.bs hq) b3 b4).q hq) ?_
  refine Qw.val (fun w1 hq => Ex.idxB un_26 sz_22 rfl rfl 0 rfl (by decide)) rfl ?_
  refine Qw.val (fun w1 hq => Ex.ldB (ag_22 _) rfl (Blk.bs (by assumption) hq) rfl) rfl ?_
  refine Qw.val (fun w1 hq => Ex.lenS st_22 rfl (Sl.bs (by assumption) hq)) rfl ?_
  refine Qw.val (fun w1 hq => Ex.idxB un_26 sz_22 rfl rfl 1 rfl (by decide)) rfl ?_
  refine Qw.val (fun w1 hq => Ex.ldB (ag_22 _) rfl (Blk.bs (by assumption) hq) rfl) rfl ?_
  refine Qw.val (fun w1 hq => Ex.lenS st_22 rfl (Sl.bs (by assumption) hq)) rfl ?_
  refine Qw.done (fun w3 hq => ?_)
  replace hB := hB.bs hq
  replace h_a := h_a.bs hq
  replace h_b := h_b.bs hq
  replace x_0 := x_0.bs hq
  replace x_1 := x_1.bs hq
  replace b_a := b_a.bs hq
  replace b_b := b_b.bs hq
  replace b_s := b_s.bs hq
  clear hq
  refine Lw.valW (Xw.lit (vs := [tsz a.s a.l, tsz b.s b.l, (l0.length : Int), (l1.length : Int)].map (Value.int .i64)) st_22 it_3 rfl rfl rfl rfl rfl) rfl ?_
  rintro u w ⟨ho, -, hn, -⟩
  replace hB := hB.bs hn
  replace h_a := h_a.bs hn
  replace h_b := h_b.bs hn
  replace x_0 := x_0.bs hn
  replace x_1 := x_1.bs hn
  replace b_a := b_a.bs hn
  replace b_b := b_b.bs hn
  replace b_s := b_s.bs hn
  clear hn
  refine Lw.callF rfl rfl (beyond_c u [tsz a.s a.l, tsz b.s b.l, (l0.length : Int), (l1.length : Int)] w (own_slT ho) (by intro x hx; simp at hx; rcases hx with rfl | rfl | rfl | rfl; exact tsz_bd b1 b2; exact tsz_bd b3 b4; omega; omega)) ?_
  rintro _ w ⟨rfl, hn⟩
  replace hB := hB.bs hn
  replace h_a := h_a.bs hn
  replace h_b := h_b.bs hn
  replace x_0 := x_0.bs hn
  replace x_1 := x_1.bs hn
  replace b_a := b_a.bs hn
  replace b_b := b_b.bs hn
  replace b_s := b_s.bs hn
  clear hn
  refine Lw.nil ?_
  refine Pw.thenN (Cw.out ?_)
  clear ho
  refine Cw.cond rfl ?_ ?_
  · intro _
    refine Cw.seq ?_
    refine Cw.region ?_
    refine Lw.val (Ex.assign rfl) rfl ?_
    refine Lw.nil ?_
    refine Pw.thenN (Cw.out ?_)
    refine Cw.ret ?_
    refine Pw.thenR ?_
    refine Pw.ret1 rfl rfl ?_
    exact ⟨rfl, hB⟩
  intro g
  have g' : bey 0 [tsz a.s a.l, tsz b.s b.l, (l0.length : Int), (l1.length : Int)] = false := by simpa using g
  have hbey := bey_no (Int.le_refl 0) (by intro x hx; simp at hx; rcases hx with rfl | rfl | rfl | rfl; exact (tsz_bd b1 b2).1; exact (tsz_bd b3 b4).1; omega; omega) g'
  obtain ⟨la, lla⟩ := tsz_le (hbey (tsz a.s a.l) (by simp))
  obtain ⟨lb, llb⟩ := tsz_le (hbey (tsz b.s b.l) (by simp))
  have ll0 := hbey (l0.length : Int) (by simp)
  have ll1 := hbey (l1.length : Int) (by simp)
  clear g' hbey b1 b2 b3 b4 b5 b6
  have t0 := below_size hB
  refine Cw.skip ?_
  refine Pw.thenN (Cw.out ?_)
  refine Cw.seq ?_
  refine Cw.region ?_
  refine Lw.val (Ex.ldA (ag_25 _) (sz_25 _) rfl rfl (by assumption)) rfl ?_
  refine Lw.callF rfl rfl (twin2_c a _ h_a (by omega) (by omega)) ?_
  rintro _ w ⟨hn, tx, ty, rfl, h_t⟩
  have zc_t := hn.size
  replace hB := hB.bs hn
  replace h_a := h_a.bs hn
  replace h_b := h_b.bs hn
  replace x_0 := x_0.bs hn
  replace x_1 := x_1.bs hn
  replace b_a := b_a.bs hn
  replace b_b := b_b.bs hn
  replace b_s := b_s.bs hn
  clear hn
  have o_t := h_t.held.at.one
  refine Lw.boxed (cs := [tx, ty]) it_25 rfl rfl rfl rfl (fun _ => rfl) (o_t) ?_
  rintro A_t w eA_t b_t hn zhn
  have zb_t := hn.size
  replace hB := hB.bs hn
  replace h_a := h_a.bs hn
  replace h_b := h_b.bs hn
  replace x_0 := x_0.bs hn
  replace x_1 := x_1.bs hn
  replace b_a := b_a.bs hn
  replace b_b := b_b.bs hn
  replace b_s := b_s.bs hn
  replace h_t := h_t.bs hn
  clear hn
  refine Lw.nil ?_
  refine Pw.thenN (Cw.out ?_)
  refine Cw.seq ?_
  refine Cw.region ?_
  refine Lw.val (Ex.ldA (ag_25 _) (sz_25 _) rfl rfl (by assumption)) rfl ?_
  refine Lw.callF rfl rfl (twin2_c b _ h_b (by omega) (by omega)) ?_
  rintro _ w ⟨hn, ux, uy, rfl, h_u⟩
  have zc_u := hn.size
  replace hB := hB.bs hn
  replace h_a := h_a.bs hn
  replace h_b := h_b.bs hn
  replace x_0 := x_0.bs hn
  replace x_1 := x_1.bs hn
  replace b_a := b_a.bs hn
  replace b_b := b_b.bs hn
  replace b_s := b_s.bs hn
  replace h_t := h_t.bs hn
  replace b_t := b_t.bs hn
  clear hn
  have o_u := h_u.held.at.one
  refine Lw.boxed (cs := [ux, uy]) it_25 rfl rfl rfl rfl (fun _ => rfl) (o_u) ?_
  rintro A_u w eA_u b_u hn zhn
  have zb_u := hn.size
  replace hB := hB.bs hn
  replace h_a := h_a.bs hn
  replace h_b := h_b.bs hn
  replace x_0 := x_0.bs hn
  replace x_1 := x_1.bs hn
  replace b_a := b_a.bs hn
  replace b_b := b_b.bs hn
  replace b_s := b_s.bs hn
  replace h_t := h_t.bs hn
  replace b_t := b_t.bs hn
  replace h_u := h_u.bs hn
  clear hn
  refine Lw.nil ?_
  refine Pw.thenN (Cw.out ?_)
  refine Cw.seq ?_
  refine Cw.region ?_
  refine Lw.val (Ex.idxB un_26 sz_22 rfl rfl 0 rfl (by decide)) rfl ?_
  refine Lw.val (Ex.ldB (ag_22 _) rfl (by assumption) rfl) rfl ?_
  refine Lw.callF rfl rfl (twinI_c s0 l0 _ x_0 (by omega)) ?_
  rintro p w ⟨hn, h_p⟩
  have zc_p := hn.size
  replace hB := hB.bs hn
  replace h_a := h_a.bs hn
  replace h_b := h_b.bs hn
  replace x_0 := x_0.bs hn
  replace x_1 := x_1.bs hn
  replace b_a := b_a.bs hn
  replace b_b := b_b.bs hn
  replace b_s := b_s.bs hn
  replace h_t := h_t.bs hn
  replace b_t := b_t.bs hn
  replace h_u := h_u.bs hn
  replace b_u := b_u.bs hn
  clear hn
  refine Lw.val (Ex.assign rfl) rfl ?_
  refine Lw.nil ?_
  refine Pw.thenN (Cw.out ?_)
  refine Cw.seq ?_
  refine Cw.region ?_
  refine Lw.val (Ex.idxB un_26 sz_22 rfl rfl 1 rfl (by decide)) rfl ?_
  refine Lw.val (Ex.ldB (ag_22 _) rfl (by assumption) rfl) rfl ?_
  refine Lw.callF rfl rfl (twinI_c s1 l1 _ x_1 (by omega)) ?_
  rintro q w ⟨hn, h_q⟩
  have zc_q := hn.size
  replace hB := hB.bs hn
  replace h_a := h_a.bs hn
  replace h_b := h_b.bs hn
  replace x_0 := x_0.bs hn
  replace x_1 := x_1.bs hn
  replace b_a := b_a.bs hn
  replace b_b := b_b.bs hn
  replace b_s := b_s.bs hn
  replace h_t := h_t.bs hn
  replace b_t := b_t.bs hn
  replace h_u := h_u.bs hn
  replace b_u := b_u.bs hn
  replace h_p := h_p.bs hn
  clear hn
  refine Lw.val (Ex.assign rfl) rfl ?_
  refine Lw.nil ?_
  refine Pw.thenN (Cw.out ?_)
  refine Cw.seq ?_
  refine Cw.region ?_
  refine Lw.val (Ex.ldA (ag_25 _) (sz_25 _) rfl rfl (by assumption)) rfl ?_
  refine Lw.val (Ex.ldA (ag_25 _) (sz_25 _) rfl rfl (by assumption)) rfl ?_
  refine Lw.callF rfl rfl (prod_g ⟨tx, ty, a.s, a.l⟩ ⟨ux, uy, b.s, b.l⟩ _ h_t.held.at h_u.held.at) ?_
  rintro _ w ⟨hn, x, rfl, h_x, n_x, y_x⟩
  have zc_x := hn.size
  replace hB := hB.bs hn
  replace h_a := h_a.bs hn
  replace h_b := h_b.bs hn
  replace x_0 := x_0.bs hn
  replace x_1 := x_1.bs hn
  replace b_a := b_a.bs hn
  replace b_b := b_b.bs hn
  replace b_s := b_s.bs hn
  replace h_t := h_t.bs hn
  replace b_t := b_t.bs hn
  replace h_u := h_u.bs hn
  replace b_u := b_u.bs hn
  replace h_p := h_p.bs hn
  replace h_q := h_q.bs hn
  clear hn
  refine Lw.val (Ex.move rfl) rfl ?_
  refine Lw.val (Ex.extract (i := 0) rfl rfl) rfl ?_
  refine Lw.val (Ex.extract (i := 1) rfl rfl) rfl ?_
  have o_x := h_x.at.one
  refine Lw.boxed (cs := [x.x, x.y]) it_25 rfl rfl rfl rfl (fun _ => rfl) (o_x) ?_
  rintro A_x w eA_x b_x hn zhn
  have zb_x := hn.size
  replace hB := hB.bs hn
  replace h_a := h_a.bs hn
  replace h_b := h_b.bs hn
  replace x_0 := x_0.bs hn
  replace x_1 := x_1.bs hn
  replace b_a := b_a.bs hn
  replace b_b := b_b.bs hn
  replace b_s := b_s.bs hn
  replace h_t := h_t.bs hn
  replace b_t := b_t.bs hn
  replace h_u := h_u.bs hn
  replace b_u := b_u.bs hn
  replace h_p := h_p.bs hn
  replace h_q := h_q.bs hn
  replace h_x := h_x.bs hn
  clear hn
  refine Lw.val (Ex.assign rfl) rfl ?_
  refine Lw.nil ?_
  refine Pw.thenN (Cw.out ?_)
  refine Cw.seq ?_
  refine Cw.region ?_
  refine Lw.val (Ex.ldA (ag_25 _) (sz_25 _) rfl rfl (by assumption)) rfl ?_
  refine Lw.val (Ex.ldA (ag_25 _) (sz_25 _) rfl rfl (by assumption)) rfl ?_
  refine Lw.callF rfl rfl (rprod_g a b _ h_a h_b) ?_
  rintro _ w ⟨hn, y, rfl, h_y, n_y, y_y⟩
  have zc_y := hn.size
  replace hB := hB.bs hn
  replace h_a := h_a.bs hn
  replace h_b := h_b.bs hn
  replace x_0 := x_0.bs hn
  replace x_1 := x_1.bs hn
  replace b_a := b_a.bs hn
  replace b_b := b_b.bs hn
  replace b_s := b_s.bs hn
  replace h_t := h_t.bs hn
  replace b_t := b_t.bs hn
  replace h_u := h_u.bs hn
  replace b_u := b_u.bs hn
  replace h_p := h_p.bs hn
  replace h_q := h_q.bs hn
  replace h_x := h_x.bs hn
  replace b_x := b_x.bs hn
  clear hn
  refine Lw.val (Ex.move rfl) rfl ?_
  refine Lw.val (Ex.extract (i := 0) rfl rfl) rfl ?_
  refine Lw.val (Ex.extract (i := 1) rfl rfl) rfl ?_
  have o_y := h_y.at.one
  refine Lw.boxed (cs := [y.x, y.y]) it_25 rfl rfl rfl rfl (fun _ => rfl) (o_y) ?_
  rintro A_y w eA_y b_y hn zhn
  have zb_y := hn.size
  replace hB := hB.bs hn
  replace h_a := h_a.bs hn
  replace h_b := h_b.bs hn
  replace x_0 := x_0.bs hn
  replace x_1 := x_1.bs hn
  replace b_a := b_a.bs hn
  replace b_b := b_b.bs hn
  replace b_s := b_s.bs hn
  replace h_t := h_t.bs hn
  replace b_t := b_t.bs hn
  replace h_u := h_u.bs hn
  replace b_u := b_u.bs hn
  replace h_p := h_p.bs hn
  replace h_q := h_q.bs hn
  replace h_x := h_x.bs hn
  replace b_x := b_x.bs hn
  replace h_y := h_y.bs hn
  clear hn
  refine Lw.val (Ex.assign rfl) rfl ?_
  refine Lw.nil ?_
  refine Pw.thenN (Cw.out ?_)
  refine Cw.seq ?_
  refine Cw.region ?_
  refine Lw.val (Ex.move rfl) rfl ?_
  refine Lw.val (Ex.move rfl) rfl ?_
  refine Lw.callF rfl rfl (pshape_g p q l0 l1 _ h_p.held.at.1 h_q.held.at.1) ?_
  rintro _ w ⟨hn, z, lz, rfl, h_z, n_z, y_z⟩
  have zc_z := hn.size
  replace hB := hB.bs hn
  replace h_a := h_a.bs hn
  replace h_b := h_b.bs hn
  replace x_0 := x_0.bs hn
  replace x_1 := x_1.bs hn
  replace b_a := b_a.bs hn
  replace b_b := b_b.bs hn
  replace b_s := b_s.bs hn
  replace h_t := h_t.bs hn
  replace b_t := b_t.bs hn
  replace h_u := h_u.bs hn
  replace b_u := b_u.bs hn
  replace h_p := h_p.bs hn
  replace h_q := h_q.bs hn
  replace h_x := h_x.bs hn
  replace b_x := b_x.bs hn
  replace h_y := h_y.bs hn
  replace b_y := b_y.bs hn
  clear hn
  refine Lw.val (Ex.move rfl) rfl ?_
  refine Lw.val (Ex.extract (i := 0) rfl rfl) rfl ?_
  refine Lw.val (Ex.extract (i := 1) rfl rfl) rfl ?_
  refine Lw.val (Ex.assign rfl) rfl ?_
  refine Lw.val (Ex.assign rfl) rfl ?_
  refine Lw.nil ?_
  refine Pw.thenN (Cw.out ?_)
  refine Cw.seq ?_
  refine Cw.region ?_
  refine Lw.val (Ex.idxB un_26 sz_22 rfl rfl 0 rfl (by decide)) rfl ?_
  refine Lw.val (Ex.ldB (ag_22 _) rfl (by assumption) rfl) rfl ?_
  refine Lw.val (Ex.idxB un_26 sz_22 rfl rfl 1 rfl (by decide)) rfl ?_
  refine Lw.val (Ex.ldB (ag_22 _) rfl (by assumption) rfl) rfl ?_
  have hC := Below.refl w.heap.size w
  refine Lw.callF rfl rfl (rpshape_g s0 s1 l0 l1 _ x_0 x_1) ?_
  rintro _ w ⟨hn, v, lv, rfl, h_v, n_v, y_v⟩
  have zc_v := hn.size
  replace hB := hB.bs hn
  replace h_a := h_a.bs hn
  replace h_b := h_b.bs hn
  replace x_0 := x_0.bs hn
  replace x_1 := x_1.bs hn
  replace b_a := b_a.bs hn
  replace b_b := b_b.bs hn
  replace b_s := b_s.bs hn
  replace h_t := h_t.bs hn
  replace b_t := b_t.bs hn
  replace h_u := h_u.bs hn
  replace b_u := b_u.bs hn
  replace h_p := h_p.bs hn
  replace h_q := h_q.bs hn
  replace h_x := h_x.bs hn
  replace b_x := b_x.bs hn
  replace h_y := h_y.bs hn
  replace b_y := b_y.bs hn
  replace h_z := h_z.bs hn
  replace hC := hC.bs hn
  clear hn
  refine Lw.val (Ex.move rfl) rfl ?_
  refine Lw.val (Ex.extract (i := 0) rfl rfl) rfl ?_
  refine Lw.val (Ex.extract (i := 1) rfl rfl) rfl ?_
  refine Lw.val (Ex.assign rfl) rfl ?_
  refine Lw.val (Ex.assign rfl) rfl ?_
  refine Lw.nil ?_
  refine Pw.thenN (Cw.out ?_)
  refine Cw.seq ?_
  refine Cw.seq ?_
  refine Cw.region ?_
  refine Lw.val (Ex.ldA (ag_25 _) (sz_25 _) rfl rfl (by assumption)) rfl ?_
  refine Lw.val (Ex.ldA (ag_25 _) (sz_25 _) rfl rfl (by assumption)) rfl ?_
  refine Lw.callF rfl rfl (sameTensor_c x y _ h_x.at h_y.at) ?_
  rintro _ w ⟨rfl, hn⟩
  replace hB := hB.bs hn
  replace h_a := h_a.bs hn
  replace h_b := h_b.bs hn
  replace x_0 := x_0.bs hn
  replace x_1 := x_1.bs hn
  replace b_a := b_a.bs hn
  replace b_b := b_b.bs hn
  replace b_s := b_s.bs hn
  replace h_t := h_t.bs hn
  replace b_t := b_t.bs hn
  replace h_u := h_u.bs hn
  replace b_u := b_u.bs hn
  replace h_p := h_p.bs hn
  replace h_q := h_q.bs hn
  replace h_x := h_x.bs hn
  replace b_x := b_x.bs hn
  replace h_y := h_y.bs hn
  replace b_y := b_y.bs hn
  replace h_z := h_z.bs hn
  replace hC := hC.bs hn
  replace h_v := h_v.bs hn
  clear hn
  refine Lw.val (Ex.not rfl) rfl ?_
  refine Lw.val (Ex.move rfl) rfl ?_
  refine Lw.know 72 (v' := .bool false) rfl (congrArg Value.bool (same_ans n_x y_x n_y y_y)) ?_
  refine Lw.take (dj := 72) rfl rfl ?_
  refine Lw.val (Ex.move rfl) rfl ?_
  refine Lw.take (dj := 72) rfl rfl ?_
  refine Lw.val (Ex.move rfl) rfl ?_
  refine Lw.take (dj := 72) rfl rfl ?_
  refine Lw.val (Ex.neq rfl rfl) rfl ?_
  refine Lw.val (Ex.pickF rfl rfl) rfl ?_
  refine Lw.val (Ex.move rfl) rfl ?_
  refine Lw.know 77 (v' := .bool false) rfl (congrArg Value.bool (by simp; rfl)) ?_
  refine Lw.take (dj := 77) rfl rfl ?_
  refine Lw.val (Ex.move rfl) rfl ?_
  refine Lw.take (dj := 77) rfl rfl ?_
  refine Lw.val (Ex.move rfl) rfl ?_
  refine Lw.take (dj := 77) rfl rfl ?_
  refine Lw.callF rfl rfl (sameInts_c z v lz lv _ h_z.at.1 h_v.at.1) ?_
  rintro _ w ⟨rfl, hn⟩
  replace hB := hB.bs hn
  replace h_a := h_a.bs hn
  replace h_b := h_b.bs hn
  replace x_0 := x_0.bs hn
  replace x_1 := x_1.bs hn
  replace b_a := b_a.bs hn
  replace b_b := b_b.bs hn
  replace b_s := b_s.bs hn
  replace h_t := h_t.bs hn
  replace b_t := b_t.bs hn
  replace h_u := h_u.bs hn
  replace b_u := b_u.bs hn
  replace h_p := h_p.bs hn
  replace h_q := h_q.bs hn
  replace h_x := h_x.bs hn
  replace b_x := b_x.bs hn
  replace h_y := h_y.bs hn
  replace b_y := b_y.bs hn
  replace h_z := h_z.bs hn
  replace hC := hC.bs hn
  replace h_v := h_v.bs hn
  clear hn
  refine Lw.take (dj := 77) rfl rfl ?_
  refine Lw.val (Ex.not rfl) rfl ?_
  refine Lw.val (Ex.pickF rfl rfl) rfl ?_
  refine Lw.val (Ex.move rfl) rfl ?_
  refine Lw.know 83 (v' := .bool false) rfl (congrArg Value.bool (same_int n_z y_z n_v y_v)) ?_
  refine Lw.take (dj := 83) rfl rfl ?_
  refine Lw.val (Ex.move rfl) rfl ?_
  refine Lw.take (dj := 83) rfl rfl ?_
  refine Lw.val (Ex.move rfl) rfl ?_
  refine Lw.take (dj := 83) rfl rfl ?_
  refine Lw.val (Ex.neq rfl rfl) rfl ?_
  refine Lw.val (Ex.pickF rfl rfl) rfl ?_
  refine Lw.val (Ex.move rfl) rfl ?_
  refine Lw.know 88 (v' := .bool false) rfl (congrArg Value.bool (by simp)) ?_
  refine Lw.take (dj := 88) rfl rfl ?_
  refine Lw.val (Ex.ldA (ag_25 _) (sz_25 _) rfl rfl (by assumption)) rfl ?_
  refine Lw.take (dj := 88) rfl rfl ?_
  refine Lw.val (Ex.ldA (ag_25 _) (sz_25 _) rfl rfl (by assumption)) rfl ?_
  refine Lw.take (dj := 88) rfl rfl ?_
  refine Lw.callF rfl rfl (leftTensor_c a tx ty _ _ _ h_a h_t) ?_
  rintro _ w ⟨rfl, hn⟩
  replace hB := hB.bs hn
  replace h_a := h_a.bs hn
  replace h_b := h_b.bs hn
  replace x_0 := x_0.bs hn
  replace x_1 := x_1.bs hn
  replace b_a := b_a.bs hn
  replace b_b := b_b.bs hn
  replace b_s := b_s.bs hn
  replace h_t := h_t.bs hn
  replace b_t := b_t.bs hn
  replace h_u := h_u.bs hn
  replace b_u := b_u.bs hn
  replace h_p := h_p.bs hn
  replace h_q := h_q.bs hn
  replace h_x := h_x.bs hn
  replace b_x := b_x.bs hn
  replace h_y := h_y.bs hn
  replace b_y := b_y.bs hn
  replace h_z := h_z.bs hn
  replace hC := hC.bs hn
  replace h_v := h_v.bs hn
  clear hn
  refine Lw.take (dj := 88) rfl rfl ?_
  refine Lw.val (Ex.not rfl) rfl ?_
  refine Lw.val (Ex.pickF rfl rfl) rfl ?_
  refine Lw.val (Ex.move rfl) rfl ?_
  refine Lw.know 94 (v' := .bool false) rfl (congrArg Value.bool (rfl)) ?_
  refine Lw.take (dj := 94) rfl rfl ?_
  refine Lw.val (Ex.ldA (ag_25 _) (sz_25 _) rfl rfl (by assumption)) rfl ?_
  refine Lw.take (dj := 94) rfl rfl ?_
  refine Lw.val (Ex.ldA (ag_25 _) (sz_25 _) rfl rfl (by assumption)) rfl ?_
  refine Lw.take (dj := 94) rfl rfl ?_
  refine Lw.callF rfl rfl (leftTensor_c b ux uy _ _ _ h_b h_u) ?_
  rintro _ w ⟨rfl, hn⟩
  replace hB := hB.bs hn
  replace h_a := h_a.bs hn
  replace h_b := h_b.bs hn
  replace x_0 := x_0.bs hn
  replace x_1 := x_1.bs hn
  replace b_a := b_a.bs hn
  replace b_b := b_b.bs hn
  replace b_s := b_s.bs hn
  replace h_t := h_t.bs hn
  replace b_t := b_t.bs hn
  replace h_u := h_u.bs hn
  replace b_u := b_u.bs hn
  replace h_p := h_p.bs hn
  replace h_q := h_q.bs hn
  replace h_x := h_x.bs hn
  replace b_x := b_x.bs hn
  replace h_y := h_y.bs hn
  replace b_y := b_y.bs hn
  replace h_z := h_z.bs hn
  replace hC := hC.bs hn
  replace h_v := h_v.bs hn
  clear hn
  refine Lw.take (dj := 94) rfl rfl ?_
  refine Lw.val (Ex.not rfl) rfl ?_
  refine Lw.val (Ex.pickF rfl rfl) rfl ?_
  refine Lw.val (Ex.move rfl) rfl ?_
  refine Lw.know 100 (v' := .bool false) rfl (congrArg Value.bool (rfl)) ?_
  refine Lw.take (dj := 100) rfl rfl ?_
  refine Lw.val (Ex.move rfl) rfl ?_
  refine Lw.take (dj := 100) rfl rfl ?_
  refine Lw.val (Ex.idxB un_26 sz_22 rfl rfl 0 rfl (by decide)) rfl ?_
  refine Lw.take (dj := 100) rfl rfl ?_
  refine Lw.val (Ex.ldB (ag_22 _) rfl (by assumption) rfl) rfl ?_
  refine Lw.take (dj := 100) rfl rfl ?_
  refine Lw.callF rfl rfl (leftInts_c p s0 l0 _ _ h_p.tx x_0) ?_
  rintro _ w ⟨rfl, hn⟩
  replace hB := hB.bs hn
  replace h_a := h_a.bs hn
  replace h_b := h_b.bs hn
  replace x_0 := x_0.bs hn
  replace x_1 := x_1.bs hn
  replace b_a := b_a.bs hn
  replace b_b := b_b.bs hn
  replace b_s := b_s.bs hn
  replace h_t := h_t.bs hn
  replace b_t := b_t.bs hn
  replace h_u := h_u.bs hn
  replace b_u := b_u.bs hn
  replace h_p := h_p.bs hn
  replace h_q := h_q.bs hn
  replace h_x := h_x.bs hn
  replace b_x := b_x.bs hn
  replace h_y := h_y.bs hn
  replace b_y := b_y.bs hn
  replace h_z := h_z.bs hn
  replace hC := hC.bs hn
  replace h_v := h_v.bs hn
  clear hn
  refine Lw.take (dj := 100) rfl rfl ?_
  refine Lw.val (Ex.not rfl) rfl ?_
  refine Lw.val (Ex.pickF rfl rfl) rfl ?_
  refine Lw.val (Ex.move rfl) rfl ?_
  refine Lw.know 107 (v' := .bool false) rfl (congrArg Value.bool (rfl)) ?_
  refine Lw.take (dj := 107) rfl rfl ?_
  refine Lw.val (Ex.move rfl) rfl ?_
  refine Lw.take (dj := 107) rfl rfl ?_
  refine Lw.val (Ex.idxB un_26 sz_22 rfl rfl 1 rfl (by decide)) rfl ?_
  refine Lw.take (dj := 107) rfl rfl ?_
  refine Lw.val (Ex.ldB (ag_22 _) rfl (by assumption) rfl) rfl ?_
  refine Lw.take (dj := 107) rfl rfl ?_
  refine Lw.callF rfl rfl (leftInts_c q s1 l1 _ _ h_q.tx x_1) ?_
  rintro _ w ⟨rfl, hn⟩
  replace hB := hB.bs hn
  replace h_a := h_a.bs hn
  replace h_b := h_b.bs hn
  replace x_0 := x_0.bs hn
  replace x_1 := x_1.bs hn
  replace b_a := b_a.bs hn
  replace b_b := b_b.bs hn
  replace b_s := b_s.bs hn
  replace h_t := h_t.bs hn
  replace b_t := b_t.bs hn
  replace h_u := h_u.bs hn
  replace b_u := b_u.bs hn
  replace h_p := h_p.bs hn
  replace h_q := h_q.bs hn
  replace h_x := h_x.bs hn
  replace b_x := b_x.bs hn
  replace h_y := h_y.bs hn
  replace b_y := b_y.bs hn
  replace h_z := h_z.bs hn
  replace hC := hC.bs hn
  replace h_v := h_v.bs hn
  clear hn
  refine Lw.take (dj := 107) rfl rfl ?_
  refine Lw.val (Ex.not rfl) rfl ?_
  refine Lw.val (Ex.pickF rfl rfl) rfl ?_
  refine Lw.nil ?_
  refine Pw.thenN (Cw.out ?_)
  refine Cw.condB rfl false (rfl) ?_
  refine Cw.skip ?_
  refine Pw.thenN (Cw.out ?_)
  refine Cw.seq ?_
  refine Cw.region ?_
  refine Lw.val (Ex.build (vs := []) (cs := [.int .i64 0, .slice none 0 0, .slice none 0 0, .slice none 0 0, .slice none 0 0, .slice none 0 0, .slice none 0 0, .slice none 0 0, .slice none 0 0, .slice none 0 0, .slice none 0 0, .slice none 0 0, .slice none 0 0, .slice none 0 0, .slice none 0 0, .slice none 0 0]) rfl (by kernel_rfl)) rfl ?_
  have zx := blk_lt b_x
  have zC := below_size hC
  have h_t := h_t.held
  have h_u := h_u.held
  have h_p := h_p.held
  have h_q := h_q.held
  have K0 : Heldall w W.heap.size w.heap.size [⟨tx, ty, a.s, a.l⟩, ⟨ux, uy, b.s, b.l⟩, li p l0, li q l1, x, li z lz] :=
    ⟨_, _, by omega, zc_t, h_t, _, _, by omega, zc_u, h_u, _, _, by omega, zc_p, h_p, _, _, by omega, zc_q, h_q, _, _, by omega, zc_x, h_x, _, _, by omega, zc_z, h_z, (by show _ ≤ _; omega)⟩
  refine Lw.boxed (cs := .int .i64 0 :: List.replicate 15 (.slice none 0 0)) it_54 rfl rfl rfl rfl (fun _ => rfl) (rfl) ?_
  rintro A_k w eA_k b_k hn zhn
  have zk := hn.size
  replace hB := hB.bs hn
  replace h_a := h_a.bs hn
  replace h_b := h_b.bs hn
  replace x_0 := x_0.bs hn
  replace x_1 := x_1.bs hn
  replace b_a := b_a.bs hn
  replace b_b := b_b.bs hn
  replace b_s := b_s.bs hn
  replace h_t := h_t.bs hn
  replace b_t := b_t.bs hn
  replace h_u := h_u.bs hn
  replace b_u := b_u.bs hn
  replace h_p := h_p.bs hn
  replace h_q := h_q.bs hn
  replace h_x := h_x.bs hn
  replace b_x := b_x.bs hn
  replace h_y := h_y.bs hn
  replace b_y := b_y.bs hn
  replace h_z := h_z.bs hn
  replace hC := hC.bs hn
  replace h_v := h_v.bs hn
  replace K0 := K0.bs hn
  clear hn
  have h_k := bk_new b_k
  have zw := below_size hB
  have perm : [⟨tx, ty, a.s, a.l⟩, ⟨ux, uy, b.s, b.l⟩, li p l0, li q l1, x, li z lz].Perm ([(⟨tx, ty, a.s, a.l⟩, true), (⟨ux, uy, b.s, b.l⟩, true), (x, true), (li p l0, false), (li q l1, false), (li z lz, false)].map (·.1) : List T4) :=
    .cons _ (.cons _ (List.perm_middle (l₁ := [li p l0, li q l1]) (a := x) (l₂ := [li z lz])))
  have K := mix_keeps (n := 0) (fun c hc => K0.each c (perm.mem_iff.2 hc)) (K0.dis.perm perm fun h => h.symm) (Int.le_refl 0) (show (0 : Int) + 2 * ((6 : Nat) : Int) ≤ 1000000 by decide) (by
    dsimp only at n_x y_x
    intro c hc
    simp only [List.map_cons, List.map_nil, List.mem_cons, List.not_mem_nil, or_false] at hc
    rcases hc with rfl | rfl | rfl | rfl | rfl | rfl
    · exact ⟨by show a.s.length ≤ _; omega, by show a.l.length ≤ _; omega⟩
    · exact ⟨by show b.s.length ≤ _; omega, by show b.l.length ≤ _; omega⟩
    · exact few_ans n_x y_x (by simp) (fun h => by have := prdL_len h; omega)
    · exact ⟨by show l0.length ≤ _; omega, by simp⟩
    · exact ⟨by show l1.length ≤ _; omega, by simp⟩
    · refine ⟨?_, by simp⟩
      show lz.length ≤ _
      by_cases h : pshE l0 l1 = 0
      · rw [y_z h]; simp
      · rw [n_z h]; simp)
  rw [← eA_k] at K
  clear K0 perm b_k
  refine Lw.nil ?_
  refine Pw.thenN (Cw.out ?_)
  refine Cw.seq ?_
  refine Cw.region ?_
  refine Lw.val (Ex.ldA (ag_25 _) (sz_25 _) rfl rfl (by assumption)) rfl ?_
  refine Lw.callF rfl rfl (bookTensor_c w A_k A_k _ _ _ _ _ _ _ tx ty _ _ _ _ h_k h_t.rx.sl h_t.ry.sl (fun b e => by have := h_t.by' b e; omega) (by omega) (show 0 ≤ 700 by decide)) ?_
  rintro _ w ⟨rfl, hn, _, _, h_k⟩
  have hB := hB.trans (hn.mono (show W.heap.size ≤ A_k by omega))
  have K := K.below hn
  have h_u := h_u.below hn (by omega)
  have h_x := h_x.below hn (by omega)
  have h_p := h_p.below hn (by omega)
  have h_q := h_q.below hn (by omega)
  have h_z := h_z.below hn (by omega)
  have b_u := b_u.keep (hn.block A_u (by omega))
  have b_x := b_x.keep (hn.block A_x (by omega))
  refine Lw.nil ?_
  refine Pw.thenN (Cw.out ?_)
  refine Cw.seq ?_
  refine Cw.region ?_
  refine Lw.val (Ex.ldA (ag_25 _) (sz_25 _) rfl rfl (by assumption)) rfl ?_
  refine Lw.callF rfl rfl (bookTensor_c w A_k A_k _ _ _ _ _ _ _ ux uy _ _ _ _ h_k h_u.rx.sl h_u.ry.sl (fun b e => by have := h_u.by' b e; omega) (by omega) (show 2 ≤ 700 by decide)) ?_
  rintro _ w ⟨rfl, hn, _, _, h_k⟩
  have hB := hB.trans (hn.mono (show W.heap.size ≤ A_k by omega))
  have K := K.below hn
  have h_x := h_x.below hn (by omega)
  have h_p := h_p.below hn (by omega)
  have h_q := h_q.below hn (by omega)
  have h_z := h_z.below hn (by omega)
  have b_x := b_x.keep (hn.block A_x (by omega))
  refine Lw.nil ?_
  refine Pw.thenN (Cw.out ?_)
  refine Cw.seq ?_
  refine Cw.region ?_
  refine Lw.val (Ex.ldA (ag_25 _) (sz_25 _) rfl rfl (by assumption)) rfl ?_
  refine Lw.callF rfl rfl (bookTensor_c w A_k A_k _ _ _ _ _ _ _ x.x x.y _ _ _ _ h_k h_x.rx.sl h_x.ry.sl (fun b e => by have := h_x.by' b e; omega) (by omega) (show 4 ≤ 700 by decide)) ?_
  rintro _ w ⟨rfl, hn, _, _, h_k⟩
  have hB := hB.trans (hn.mono (show W.heap.size ≤ A_k by omega))
  have K := K.below hn
  have h_p := h_p.below hn (by omega)
  have h_q := h_q.below hn (by omega)
  have h_z := h_z.below hn (by omega)
  refine Lw.nil ?_
  refine Pw.thenN (Cw.out ?_)
  refine Cw.seq ?_
  refine Cw.region ?_
  refine Lw.val (Ex.move rfl) rfl ?_
  refine Lw.callF rfl rfl (bookInts2_c w A_k A_k _ _ _ _ _ _ _ p _ _ h_k h_p.rx.sl (by omega) (show 6 ≤ 800 by decide)) ?_
  rintro _ w ⟨rfl, hn, _, h_k⟩
  have hB := hB.trans (hn.mono (show W.heap.size ≤ A_k by omega))
  have K := K.below hn
  have h_q := h_q.below hn (by omega)
  have h_z := h_z.below hn (by omega)
  refine Lw.nil ?_
  refine Pw.thenN (Cw.out ?_)
  refine Cw.seq ?_
  refine Cw.region ?_
  refine Lw.val (Ex.move rfl) rfl ?_
  refine Lw.callF rfl rfl (bookInts2_c w A_k A_k _ _ _ _ _ _ _ q _ _ h_k h_q.rx.sl (by omega) (show 7 ≤ 800 by decide)) ?_
  rintro _ w ⟨rfl, hn, _, h_k⟩
  have hB := hB.trans (hn.mono (show W.heap.size ≤ A_k by omega))
  have K := K.below hn
  have h_z := h_z.below hn (by omega)
  refine Lw.nil ?_
  refine Pw.thenN (Cw.out ?_)
  refine Cw.seq ?_
  refine Cw.region ?_
  refine Lw.val (Ex.move rfl) rfl ?_
  refine Lw.callF rfl rfl (bookInts2_c w A_k A_k _ _ _ _ _ _ _ z _ _ h_k h_z.rx.sl (by omega) (show 8 ≤ 800 by decide)) ?_
  rintro _ w ⟨rfl, hn, _, h_k⟩
  have hB := hB.trans (hn.mono (show W.heap.size ≤ A_k by omega))
  have K := K.below hn
  refine Lw.nil ?_
  refine Pw.thenN (Cw.out ?_)
  refine Cw.seq ?_
  refine Cw.region ?_
  refine Lw.callF rfl rfl (apartT_c w A_k A_k W.heap.size _ _ _ _ _ _ h_k K (by omega)) ?_
  rintro _ w ⟨rfl, hn⟩
  refine Lw.val (Ex.assign rfl) rfl ?_
  refine Lw.nil ?_
  refine Pw.thenN (Cw.out ?_)
  refine Cw.ret ?_
  refine Pw.ret1 rfl rfl ?_
  exact ⟨rfl, hB.trans hn⟩

/-! A world for the witness: the settled one, the tables laid. -/
def laidCells : DataW Unit → Array Value
  | .agg l => (l.map fun d => match d with | .lit (.int k n) => Value.int k n | _ => Value.bool false).toArray
  | _ => #[]
noncomputable def laidWorld (os : Os) : World :=
  { World.holding Tryz.prog os ⟨#[], #[], []⟩ with heap := Rows.productsOfRow.laid.foldl (fun h x => h.modify ((Tryz.prog.globalNamed x.1).getD 0) fun | .cells _ t fz => .cells (laidCells x.2) t fz | o => o) (World.holding Tryz.prog os ⟨#[], #[], []⟩).heap }
theorem laid_met (os : Os) (args : Array Value) : laidMetH Tryz.prog Rows.productsOfRow.laid ((laidWorld os).forCall (fun _ _ => 0) ⟨#[], args, []⟩).memory :=
  laidMetH_of_parts (laidMet_of_run' 8 (by kernel_rfl) (by kernel_rfl)) (by kernel_rfl)

set_option maxRecDepth 100000 in
set_option maxHeartbeats 2000000 in
theorem productsOf_lifted (os : Os) (started : os.Started) (H : Type) (enc : TypeId × Value → H) :
    ReturnsInHanded {} Tryz.checked os 3 .any (fun w args => (Rows.productsOfSpec.pre enc Tryz.prog Tryz.f3 Rows.productsOfRow.domain false w args ∧ laidMetH Tryz.prog Rows.productsOfRow.laid w) ∧ sizedMet enc Tryz.prog Tryz.f3 (OpenSpec.ofChange Rows.productsOfSpec) false w args) (Rows.productsOfSpec.post enc Tryz.prog Tryz.f3 false true false false) := by
  refine returnsInHanded_of_change_and (C := Tryz.checked) (X := fun w _ => laidMetH Tryz.prog Rows.productsOfRow.laid w) (fun _ _ _ hh h => h.of_heap hh) own started (by kernel_rfl) Tryz.func3
    (ChangeSpec.witness_at (enc := enc) (C := Tryz.checked) (os := os) (X := fun w _ => laidMetH Tryz.prog Rows.productsOfRow.laid w) false (laidWorld os) #[.agg #[.slice none 0 0, .slice none 0 0], .agg #[.slice none 0 0, .slice none 0 0], .agg #[.slice none 0 0, .slice none 0 0]] 8 rfl (by kernel_rfl) (by kernel_rfl) (by kernel_rfl) (by kernel_rfl) (by kernel_rfl) (laid_met os _)) ?_
  intro W base args ds gs before hval0 hW hcnd hsz0 _ _
  have hval : ∀ (j : Nat) t v, Tryz.f3.params[j]? = some t → args[j]? = some v → Value.okWide Tryz.prog W .any base t v := hval0
  have hW' := hW
  obtain ⟨p, q, hA0, hV, rfl, hfz, hnd⟩ := hW
  have hA : DataW.TrodAll enc Tryz.prog W 0 (fun _ => true) true Tryz.f3.params.toList args.toList ds p := hA0
  have hsz : (DataW.weightsEach Tryz.prog (Tryz.f3.params.toList ++ Rows.productsOfSpec.plain.varTypes Tryz.prog) (ds ++ gs)).all (· ≤ reachBytes) = true := hsz0
  rw [Tryz.params3] at hA hval hsz
  obtain ⟨v0, vs0, d0, ds0, p0, q0, hargs, rfl, rfl, h0, r0⟩ := trodAll_cons hA
  obtain ⟨v1, vs1, d1, ds1, p1, q1, rfl, rfl, rfl, h1, r1⟩ := trodAll_cons r0
  obtain ⟨v2, vs2, d2, ds2, p2, q2, rfl, rfl, rfl, h2, r2⟩ := trodAll_cons r1
  obtain ⟨rfl, rfl, rfl⟩ := trodAll_nil r2
  obtain rfl : args = #[v0, v1, v2] := by cases args; simp_all
  obtain ⟨rfl, rfl⟩ := trodVars_none hV
  have k0 := h0
  have lt0 : ∀ x ∈ p0, x.block < W.heap.size := by obtain ⟨m, hm⟩ := k0; exact DataW.trod_lt m _ _ _ hm
  have i0 := in_of (j := 0) (t := 25) hsz rfl rfl h0
  have o0 := hval 0 25 v0 rfl rfl
  have k1 := h1
  have lt1 : ∀ x ∈ p1, x.block < W.heap.size := by obtain ⟨m, hm⟩ := k1; exact DataW.trod_lt m _ _ _ hm
  have i1 := in_of (j := 1) (t := 25) hsz rfl rfl h1
  have o1 := hval 1 25 v1 rfl rfl
  have k2 := h2
  have lt2 : ∀ x ∈ p2, x.block < W.heap.size := by obtain ⟨m, hm⟩ := k2; exact DataW.trod_lt m _ _ _ hm
  have i2 := in_of (j := 2) (t := 26) hsz rfl rfl h2
  have o2 := hval 2 26 v2 rfl rfl
  clear hA0 hval0 hsz0 hsz
  obtain ⟨a, rfl, ha, ba1, ba2⟩ := arg_ten o0 i0
  obtain ⟨b, rfl, hb, bb1, bb2⟩ := arg_ten o1 i1
  obtain ⟨cs, rfl, hin⟩ := arg_array Tryz.underlying26 o2 i2
  obtain ⟨hlen, hel⟩ := hin.array Tryz.underlying26
  have c3 : Tryz.prog.cellsOf 26 = 2 := by kernel_rfl
  have c1 : Tryz.prog.cellsOf 22 = 1 := by kernel_rfl
  rw [c3] at hlen
  rw [c1] at hel
  obtain ⟨u0, u1, rfl⟩ := two_of hlen
  obtain ⟨u0', l0, e0, h3, q3⟩ := (hel 0 (by decide)).slT un_22 (by kernel_rfl) (fun cs h => (In.int un_3 h).imp fun _ h => h.1)
  obtain ⟨u1', l1, e1, h4, q4⟩ := (hel 1 (by decide)).slT un_22 (by kernel_rfl) (fun cs h => (In.int un_3 h).imp fun _ h => h.1)
  simp at e0 e1
  subst e0 e1
  have kb : Tryz.prog.bytesOf 3 = 8 := by kernel_rfl
  rw [kb] at q3 q4
  have hr : reachBytes ≤ 140737488355328 := by decide
  refine (law_calls (productsOf_w a b u0 u1 l0 l1 W ha hb h3 h4 (by omega) (by omega) (by omega) (by omega) (by omega) (by omega))).mono fun e W' ⟨he, bel⟩ => ?_
  subst he
  exact ⟨_, rfl, _, _, _, [], _, [], hW', trodAll_mk1 (shut_bool un_4 _), (trodAll_cons_mk (Below.trod laidOut (by kernel_rfl) (of_decide_eq_true (by kernel_rfl)) k0 bel lt0) (trodAll_cons_mk (Below.trod laidOut (by kernel_rfl) (of_decide_eq_true (by kernel_rfl)) k1 bel lt1) (trodAll_cons_mk (Below.trod laidOut (by kernel_rfl) (of_decide_eq_true (by kernel_rfl)) k2 bel lt2) trodAll_mk0))), rfl, bel.frame _, fun h => by cases h⟩

/-- The statement. -/
theorem productsOf_holds : Rows.ProductsOfSaid :=
  OpenClaim.holds_of_wide 3 Tryz.f3 rfl rfl rfl rfl rfl rfl rfl ⟨rfl, rfl, rfl, rfl, rfl⟩ rfl rfl rfl rfl rfl (by kernel_rfl) Tryz.func3 (by kernel_rfl)
    (of_decide_eq_true (by kernel_rfl)) (by unfold Func.isWrapper; first | (rw [if_pos (by decide +kernel)]; kernel_rfl) | (rw [if_neg (by decide +kernel)]; exact ⟨rfl, rfl⟩))
    (fun os started H enc _ => productsOf_lifted os started H enc)
/-- The card. -/
theorem productsOf_proved : Rows.ProductsOfCardSaid :=
  Claim7.holds_tied_plain_at .later [] [.data, .data, .data] true (true, "8961688dec8e7fd7ba00a983fbffdf92041b4ca6e4dabc41f186eb330fe948f8") false
    productsOf_holds (fun _ h => by cases h) (by kernel_rfl) (fun _ h => by cases h) productsOf_row_tie rfl ⟨rfl, rfl⟩ (by kernel_rfl) rfl
    (fun f fn hf hfn => by
      obtain rfl : f = 3 := Option.some.inj ((show Tryz.prog.funcNamed "drydock/drydocklaw07.ProductsOf" = some 3 by kernel_rfl).symm.trans hf) |>.symm
      obtain rfl : fn = Tryz.f3 := (Option.some.inj (Tryz.func3.symm.trans hfn)).symm
      refine ⟨by kernel_rfl, fun j t ht => ?_⟩
      rw [Tryz.params3] at ht
      have h3 : t ∈ [25, 25, 26] := List.mem_of_getElem? (by simpa using ht)
      have h4 : ([25, 25, 26] : List TypeId).all (fun t => Tryz.prog.wantsStandIn t == false) = true := by kernel_rfl
      exact eq_of_beq (List.all_eq_true.1 h4 t h3))
    (by kernel_rfl)
#print axioms productsOf_proved
end Go.Proofs.YtdliencelkdibaaGreatDoor
