/- Another shape, another order, sums along a direction, as the document has it: for any tensor, any list, any direction; no condition. -/
import Derived.Test.YtkhndfaampkbnaaGreatDoorRefSum
import Derived.Test.YtkhndfaampkbnaaGreatDoorBookMix
import Derived.Test.YtkhndfaampkbnaaGreatDoorBookArg
namespace Go.Proofs.YtkhndfaampkbnaaGreatDoor
open Go Go.Dd Go.RowKit Go.ChangeShapes Go.WideShapes Go.ChangeAt
set_option maxRecDepth 100000

theorem size_nat (s : List Int) : (Shapes.size s).toNat ≤ 4096 := by have := Shapes.size_le s; omega
theorem AnsK.gives {W w : World} {r : Value} {e : Int} {s : List Int} {l : List (BitVec 32)} (h : AnsK W w r e s l) : Gives W w r e s l := by
  obtain ⟨x, y, rfl, q1, q2⟩ := h
  by_cases he : e = 0
  · have M := q2 he
    exact ⟨⟨x, y, s, l⟩, rfl, ⟨M.row, M.col, M.row.lt, M.col.lt, M.apart⟩, fun h => absurd he h, fun _ => ⟨rfl, rfl⟩⟩
  · obtain ⟨rfl, rfl⟩ := q1 he
    exact ⟨⟨_, _, [], []⟩, rfl, held_nil _ _ _, fun _ => ⟨rfl, rfl⟩, fun h => absurd h he⟩
theorem shape_g (t : T4) (u : Value) (s : List Int) (W : World) (h_t : t.at W) (h_u : SlT (Value.int .i64) W u s) : Fnc Tryz.prog 18 [t.v, u] W (fun r w' => Below W.heap.size W w' ∧ Gives W w' r (mvE t s) s t.l) :=
  (mshape_c t u s W h_t h_u).mono fun _ _ ⟨h1, h2⟩ => ⟨h1, h2.gives⟩
theorem rshape_g (t : T4) (u : Value) (s : List Int) (W : World) (h_t : t.at W) (h_u : SlT (Value.int .i64) W u s) : Fnc Tryz.prog 21 [t.v, u] W (fun r w' => Below W.heap.size W w' ∧ Gives W w' r (mvE t s) s t.l) :=
  (rmshape_c t u s W h_t h_u).mono fun _ _ ⟨h1, h2⟩ => ⟨h1, h2.gives⟩
theorem turn_g (t : T4) (u : Value) (o : List Int) (W : World) (h_t : t.at W) (h_u : SlT (Value.int .i64) W u o) : Fnc Tryz.prog 19 [t.v, u] W (fun r w' => Below W.heap.size W w' ∧ Gives W w' r (tnE t o) (turn t.s o) (tuL t.s t.l o)) :=
  (mturn_c t u o W h_t h_u).mono fun _ _ ⟨h1, h2⟩ => ⟨h1, h2.gives⟩
theorem rturn_g (t : T4) (u : Value) (o : List Int) (W : World) (h_t : t.at W) (h_u : SlT (Value.int .i64) W u o) : Fnc Tryz.prog 22 [t.v, u] W (fun r w' => Below W.heap.size W w' ∧ Gives W w' r (tnE t o) (turn t.s o) (tuL t.s t.l o)) :=
  (rmturn_c t u o W h_t h_u).mono fun _ _ ⟨h1, h2⟩ => ⟨h1, h2.gives⟩
theorem sum_g (t : T4) (al : Int) (W : World) (h_t : t.at W) : Fnc Tryz.prog 20 [t.v, .int .i64 al] W (fun r w' => Below W.heap.size W w' ∧ Gives W w' r (suE t al) (without t.s al.toNat) (suL t.s t.l al.toNat)) :=
  (msum_c t al W h_t).mono fun _ _ ⟨h1, h2⟩ => ⟨h1, h2.gives⟩
theorem rsum_g (t : T4) (al : Int) (W : World) (h_t : t.at W) : Fnc Tryz.prog 23 [t.v, .int .i64 al] W (fun r w' => Below W.heap.size W w' ∧ Gives W w' r (suE t al) (without t.s al.toNat) (suL t.s t.l al.toNat)) :=
  (rmsum_c t al W h_t).mono fun _ _ ⟨h1, h2⟩ => ⟨h1, h2.gives⟩
theorem without_le (s : List Int) (k : Nat) : (without s k).length ≤ s.length + 1 := by
  unfold without
  split
  · simp
  · rw [List.length_append, List.length_take, List.length_drop]; omega
set_option maxHeartbeats 2000000 in
theorem movesOne_w (a : T4) (v : Value) (s : List Int) (al : Int) (W : World) (h_a : a.at W) (h_v : SlT (Value.int .i64) W v s) (b1 : a.s.length ≤ 1125899906842624) (b2 : a.l.length ≤ 1125899906842624) (b3 : s.length ≤ 1125899906842624) :
    Fnc Tryz.prog 4 [a.v, v, .int .i64 al] W (fun r w' => r = .bool true ∧ Below W.heap.size W w') := by
  have hB := Below.refl W.heap.size W
  refine Fnc.enter (n := 123) Tryz.func4 (by kernel_rfl) rfl rfl rfl ?_
  refine Cw.seq ?_
  refine Cw.region ?_
  refine Lw.boxV (cs := [a.x, a.y]) rfl rfl rfl ?_
  rintro A_a w eA_a b_a hn -
  replace hB := hB.bs hn
  replace h_a := h_a.bs hn
  replace h_v := h_v.bs hn
  clear hn
  refine Lw.val (Ex.assign rfl) rfl ?_
  refine Lw.nil ?_
  refine Pw.thenN (Cw.out ?_)
  refine Cw.seq ?_
  refine Cw.seq ?_
  refine Cw.region ?_
  refine Lw.val (Ex.ldA (ag_29 _) (sz_29 _) rfl rfl (by assumption)) rfl ?_
  refine Lw.callF rfl rfl (tsize_c a _ h_a b1 b2) ?_
  rintro _ w ⟨rfl, hn⟩
  replace hB := hB.bs hn
  replace h_a := h_a.bs hn
  replace h_v := h_v.bs hn
  replace b_a := b_a.bs hn
  clear hn
  refine Lw.val (Ex.move rfl) rfl ?_
  refine Lw.val (Ex.lenS st_26 rfl (by assumption)) rfl ?_
  refine Lw.valW (Xw.lit (vs := [tsz a.s a.l, (s.length : Int)].map (Value.int .i64)) st_26 it_3 rfl rfl rfl rfl rfl) rfl ?_
  rintro g w ⟨ho, -, hn, -⟩
  replace hB := hB.bs hn
  replace h_a := h_a.bs hn
  replace h_v := h_v.bs hn
  replace b_a := b_a.bs hn
  clear hn
  refine Lw.callF rfl rfl (beyond_c g [tsz a.s a.l, (s.length : Int)] w (own_slT ho) (by intro x hx; simp at hx; rcases hx with rfl | rfl; exact tsz_bd b1 b2; omega)) ?_
  rintro _ w ⟨rfl, hn⟩
  replace hB := hB.bs hn
  replace h_a := h_a.bs hn
  replace h_v := h_v.bs hn
  replace b_a := b_a.bs hn
  clear hn
  refine Lw.nil ?_
  refine Pw.thenN (Cw.out ?_)
  clear ho
  refine Cw.cond rfl ?_ ?_
  · intro _
    refine Cw.seq ?_
    refine Cw.region ?_
    refine Lw.val (Ex.assign rfl) rfl ?_
    refine Lw.nil ?_
    refine Pw.thenN (Cw.out ?_)
    refine Cw.ret ?_
    refine Pw.thenR ?_
    refine Pw.ret1 rfl rfl ?_
    exact ⟨rfl, hB⟩
  intro g1
  have hbey := bey_no (Int.le_refl 0) (by intro x hx; simp at hx; rcases hx with rfl | rfl; exact (tsz_bd b1 b2).1; omega) g1
  obtain ⟨la, lla⟩ := tsz_le (hbey (tsz a.s a.l) (by simp))
  have ls := hbey (s.length : Int) (by simp)
  clear g1 hbey b1 b2 b3
  have t0 := below_size hB
  refine Cw.skip ?_
  refine Pw.thenN (Cw.out ?_)
  refine Cw.seq ?_
  refine Cw.region ?_
  refine Lw.val (Ex.ldA (ag_29 _) (sz_29 _) rfl rfl (by assumption)) rfl ?_
  refine Lw.callF rfl rfl (twin2_c a _ h_a (by omega) (by omega)) ?_
  rintro _ w ⟨hn, tx, ty, rfl, h_t⟩
  have zc_t := hn.size
  replace hB := hB.bs hn
  replace h_a := h_a.bs hn
  replace h_v := h_v.bs hn
  replace b_a := b_a.bs hn
  clear hn
  have o_t := h_t.held.at.one
  refine Lw.boxed (cs := [tx, ty]) it_29 rfl rfl rfl rfl (fun _ => rfl) (o_t) ?_
  rintro A_t w eA_t b_t hn zhn
  have zb_t := hn.size
  replace hB := hB.bs hn
  replace h_a := h_a.bs hn
  replace h_v := h_v.bs hn
  replace b_a := b_a.bs hn
  replace h_t := h_t.bs hn
  clear hn
  refine Lw.nil ?_
  refine Pw.thenN (Cw.out ?_)
  refine Cw.seq ?_
  refine Cw.region ?_
  refine Lw.val (Ex.move rfl) rfl ?_
  refine Lw.callF rfl rfl (twinI_c v s _ h_v (by omega)) ?_
  rintro u w ⟨hn, h_u⟩
  have zc_u := hn.size
  replace hB := hB.bs hn
  replace h_a := h_a.bs hn
  replace h_v := h_v.bs hn
  replace b_a := b_a.bs hn
  replace h_t := h_t.bs hn
  replace b_t := b_t.bs hn
  clear hn
  refine Lw.val (Ex.assign rfl) rfl ?_
  refine Lw.nil ?_
  refine Pw.thenN (Cw.out ?_)
  refine Cw.seq ?_
  refine Cw.region ?_
  refine Lw.val (Ex.ldA (ag_29 _) (sz_29 _) rfl rfl (by assumption)) rfl ?_
  refine Lw.val (Ex.move rfl) rfl ?_
  refine Lw.callF rfl rfl (shape_g ⟨tx, ty, a.s, a.l⟩ u s _ h_t.held.at h_u.held.at.1) ?_
  rintro _ w ⟨hn, x, rfl, h_x, n_x, y_x⟩
  have zc_x := hn.size
  replace hB := hB.bs hn
  replace h_a := h_a.bs hn
  replace h_v := h_v.bs hn
  replace b_a := b_a.bs hn
  replace h_t := h_t.bs hn
  replace b_t := b_t.bs hn
  replace h_u := h_u.bs hn
  clear hn
  refine Lw.val (Ex.move rfl) rfl ?_
  refine Lw.val (Ex.extract (i := 0) rfl rfl) rfl ?_
  refine Lw.val (Ex.extract (i := 1) rfl rfl) rfl ?_
  have o_x := h_x.at.one
  refine Lw.boxed (cs := [x.x, x.y]) it_29 rfl rfl rfl rfl (fun _ => rfl) (o_x) ?_
  rintro A_x w eA_x b_x hn zhn
  have zb_x := hn.size
  replace hB := hB.bs hn
  replace h_a := h_a.bs hn
  replace h_v := h_v.bs hn
  replace b_a := b_a.bs hn
  replace h_t := h_t.bs hn
  replace b_t := b_t.bs hn
  replace h_u := h_u.bs hn
  replace h_x := h_x.bs hn
  clear hn
  refine Lw.val (Ex.assign rfl) rfl ?_
  refine Lw.nil ?_
  refine Pw.thenN (Cw.out ?_)
  refine Cw.seq ?_
  refine Cw.region ?_
  refine Lw.val (Ex.ldA (ag_29 _) (sz_29 _) rfl rfl (by assumption)) rfl ?_
  refine Lw.val (Ex.move rfl) rfl ?_
  refine Lw.callF rfl rfl (turn_g ⟨tx, ty, a.s, a.l⟩ u s _ h_t.held.at h_u.held.at.1) ?_
  rintro _ w ⟨hn, y, rfl, h_y, n_y, y_y⟩
  have zc_y := hn.size
  replace hB := hB.bs hn
  replace h_a := h_a.bs hn
  replace h_v := h_v.bs hn
  replace b_a := b_a.bs hn
  replace h_t := h_t.bs hn
  replace b_t := b_t.bs hn
  replace h_u := h_u.bs hn
  replace h_x := h_x.bs hn
  replace b_x := b_x.bs hn
  clear hn
  refine Lw.val (Ex.move rfl) rfl ?_
  refine Lw.val (Ex.extract (i := 0) rfl rfl) rfl ?_
  refine Lw.val (Ex.extract (i := 1) rfl rfl) rfl ?_
  have o_y := h_y.at.one
  refine Lw.boxed (cs := [y.x, y.y]) it_29 rfl rfl rfl rfl (fun _ => rfl) (o_y) ?_
  rintro A_y w eA_y b_y hn zhn
  have zb_y := hn.size
  replace hB := hB.bs hn
  replace h_a := h_a.bs hn
  replace h_v := h_v.bs hn
  replace b_a := b_a.bs hn
  replace h_t := h_t.bs hn
  replace b_t := b_t.bs hn
  replace h_u := h_u.bs hn
  replace h_x := h_x.bs hn
  replace b_x := b_x.bs hn
  replace h_y := h_y.bs hn
  clear hn
  refine Lw.val (Ex.assign rfl) rfl ?_
  refine Lw.nil ?_
  refine Pw.thenN (Cw.out ?_)
  refine Cw.seq ?_
  refine Cw.region ?_
  refine Lw.val (Ex.ldA (ag_29 _) (sz_29 _) rfl rfl (by assumption)) rfl ?_
  refine Lw.val (Ex.move rfl) rfl ?_
  refine Lw.callF rfl rfl (sum_g ⟨tx, ty, a.s, a.l⟩ al _ h_t.held.at) ?_
  rintro _ w ⟨hn, z, rfl, h_z, n_z, y_z⟩
  have zc_z := hn.size
  replace hB := hB.bs hn
  replace h_a := h_a.bs hn
  replace h_v := h_v.bs hn
  replace b_a := b_a.bs hn
  replace h_t := h_t.bs hn
  replace b_t := b_t.bs hn
  replace h_u := h_u.bs hn
  replace h_x := h_x.bs hn
  replace b_x := b_x.bs hn
  replace h_y := h_y.bs hn
  replace b_y := b_y.bs hn
  clear hn
  refine Lw.val (Ex.move rfl) rfl ?_
  refine Lw.val (Ex.extract (i := 0) rfl rfl) rfl ?_
  refine Lw.val (Ex.extract (i := 1) rfl rfl) rfl ?_
  have o_z := h_z.at.one
  refine Lw.boxed (cs := [z.x, z.y]) it_29 rfl rfl rfl rfl (fun _ => rfl) (o_z) ?_
  rintro A_z w eA_z b_z hn zhn
  have zb_z := hn.size
  replace hB := hB.bs hn
  replace h_a := h_a.bs hn
  replace h_v := h_v.bs hn
  replace b_a := b_a.bs hn
  replace h_t := h_t.bs hn
  replace b_t := b_t.bs hn
  replace h_u := h_u.bs hn
  replace h_x := h_x.bs hn
  replace b_x := b_x.bs hn
  replace h_y := h_y.bs hn
  replace b_y := b_y.bs hn
  replace h_z := h_z.bs hn
  clear hn
  refine Lw.val (Ex.assign rfl) rfl ?_
  refine Lw.nil ?_
  refine Pw.thenN (Cw.out ?_)
  refine Cw.seq ?_
  refine Cw.region ?_
  refine Lw.val (Ex.ldA (ag_29 _) (sz_29 _) rfl rfl (by assumption)) rfl ?_
  refine Lw.val (Ex.move rfl) rfl ?_
  have hC := Below.refl w.heap.size w
  refine Lw.callF rfl rfl (rshape_g a v s _ h_a h_v) ?_
  rintro _ w ⟨hn, p, rfl, h_p, n_p, y_p⟩
  have zc_p := hn.size
  replace hB := hB.bs hn
  replace h_a := h_a.bs hn
  replace h_v := h_v.bs hn
  replace b_a := b_a.bs hn
  replace h_t := h_t.bs hn
  replace b_t := b_t.bs hn
  replace h_u := h_u.bs hn
  replace h_x := h_x.bs hn
  replace b_x := b_x.bs hn
  replace h_y := h_y.bs hn
  replace b_y := b_y.bs hn
  replace h_z := h_z.bs hn
  replace b_z := b_z.bs hn
  replace hC := hC.bs hn
  clear hn
  refine Lw.val (Ex.move rfl) rfl ?_
  refine Lw.val (Ex.extract (i := 0) rfl rfl) rfl ?_
  refine Lw.val (Ex.extract (i := 1) rfl rfl) rfl ?_
  have o_p := h_p.at.one
  refine Lw.boxed (cs := [p.x, p.y]) it_29 rfl rfl rfl rfl (fun _ => rfl) (o_p) ?_
  rintro A_p w eA_p b_p hn zhn
  have zb_p := hn.size
  replace hB := hB.bs hn
  replace h_a := h_a.bs hn
  replace h_v := h_v.bs hn
  replace b_a := b_a.bs hn
  replace h_t := h_t.bs hn
  replace b_t := b_t.bs hn
  replace h_u := h_u.bs hn
  replace h_x := h_x.bs hn
  replace b_x := b_x.bs hn
  replace h_y := h_y.bs hn
  replace b_y := b_y.bs hn
  replace h_z := h_z.bs hn
  replace b_z := b_z.bs hn
  replace hC := hC.bs hn
  replace h_p := h_p.bs hn
  clear hn
  refine Lw.val (Ex.assign rfl) rfl ?_
  refine Lw.nil ?_
  refine Pw.thenN (Cw.out ?_)
  refine Cw.seq ?_
  refine Cw.region ?_
  refine Lw.val (Ex.ldA (ag_29 _) (sz_29 _) rfl rfl (by assumption)) rfl ?_
  refine Lw.val (Ex.move rfl) rfl ?_
  refine Lw.callF rfl rfl (rturn_g a v s _ h_a h_v) ?_
  rintro _ w ⟨hn, q, rfl, h_q, n_q, y_q⟩
  have zc_q := hn.size
  replace hB := hB.bs hn
  replace h_a := h_a.bs hn
  replace h_v := h_v.bs hn
  replace b_a := b_a.bs hn
  replace h_t := h_t.bs hn
  replace b_t := b_t.bs hn
  replace h_u := h_u.bs hn
  replace h_x := h_x.bs hn
  replace b_x := b_x.bs hn
  replace h_y := h_y.bs hn
  replace b_y := b_y.bs hn
  replace h_z := h_z.bs hn
  replace b_z := b_z.bs hn
  replace hC := hC.bs hn
  replace h_p := h_p.bs hn
  replace b_p := b_p.bs hn
  clear hn
  refine Lw.val (Ex.move rfl) rfl ?_
  refine Lw.val (Ex.extract (i := 0) rfl rfl) rfl ?_
  refine Lw.val (Ex.extract (i := 1) rfl rfl) rfl ?_
  have o_q := h_q.at.one
  refine Lw.boxed (cs := [q.x, q.y]) it_29 rfl rfl rfl rfl (fun _ => rfl) (o_q) ?_
  rintro A_q w eA_q b_q hn zhn
  have zb_q := hn.size
  replace hB := hB.bs hn
  replace h_a := h_a.bs hn
  replace h_v := h_v.bs hn
  replace b_a := b_a.bs hn
  replace h_t := h_t.bs hn
  replace b_t := b_t.bs hn
  replace h_u := h_u.bs hn
  replace h_x := h_x.bs hn
  replace b_x := b_x.bs hn
  replace h_y := h_y.bs hn
  replace b_y := b_y.bs hn
  replace h_z := h_z.bs hn
  replace b_z := b_z.bs hn
  replace hC := hC.bs hn
  replace h_p := h_p.bs hn
  replace b_p := b_p.bs hn
  replace h_q := h_q.bs hn
  clear hn
  refine Lw.val (Ex.assign rfl) rfl ?_
  refine Lw.nil ?_
  refine Pw.thenN (Cw.out ?_)
  refine Cw.seq ?_
  refine Cw.region ?_
  refine Lw.val (Ex.ldA (ag_29 _) (sz_29 _) rfl rfl (by assumption)) rfl ?_
  refine Lw.val (Ex.move rfl) rfl ?_
  refine Lw.callF rfl rfl (rsum_g a al _ h_a) ?_
  rintro _ w ⟨hn, r, rfl, h_r, n_r, y_r⟩
  have zc_r := hn.size
  replace hB := hB.bs hn
  replace h_a := h_a.bs hn
  replace h_v := h_v.bs hn
  replace b_a := b_a.bs hn
  replace h_t := h_t.bs hn
  replace b_t := b_t.bs hn
  replace h_u := h_u.bs hn
  replace h_x := h_x.bs hn
  replace b_x := b_x.bs hn
  replace h_y := h_y.bs hn
  replace b_y := b_y.bs hn
  replace h_z := h_z.bs hn
  replace b_z := b_z.bs hn
  replace hC := hC.bs hn
  replace h_p := h_p.bs hn
  replace b_p := b_p.bs hn
  replace h_q := h_q.bs hn
  replace b_q := b_q.bs hn
  clear hn
  refine Lw.val (Ex.move rfl) rfl ?_
  refine Lw.val (Ex.extract (i := 0) rfl rfl) rfl ?_
  refine Lw.val (Ex.extract (i := 1) rfl rfl) rfl ?_
  have o_r := h_r.at.one
  refine Lw.boxed (cs := [r.x, r.y]) it_29 rfl rfl rfl rfl (fun _ => rfl) (o_r) ?_
  rintro A_r w eA_r b_r hn zhn
  have zb_r := hn.size
  replace hB := hB.bs hn
  replace h_a := h_a.bs hn
  replace h_v := h_v.bs hn
  replace b_a := b_a.bs hn
  replace h_t := h_t.bs hn
  replace b_t := b_t.bs hn
  replace h_u := h_u.bs hn
  replace h_x := h_x.bs hn
  replace b_x := b_x.bs hn
  replace h_y := h_y.bs hn
  replace b_y := b_y.bs hn
  replace h_z := h_z.bs hn
  replace b_z := b_z.bs hn
  replace hC := hC.bs hn
  replace h_p := h_p.bs hn
  replace b_p := b_p.bs hn
  replace h_q := h_q.bs hn
  replace b_q := b_q.bs hn
  replace h_r := h_r.bs hn
  clear hn
  refine Lw.val (Ex.assign rfl) rfl ?_
  refine Lw.nil ?_
  refine Pw.thenN (Cw.out ?_)
  refine Cw.seq ?_
  refine Cw.seq ?_
  refine Cw.region ?_
  refine Lw.val (Ex.ldA (ag_29 _) (sz_29 _) rfl rfl (by assumption)) rfl ?_
  refine Lw.val (Ex.ldA (ag_29 _) (sz_29 _) rfl rfl (by assumption)) rfl ?_
  refine Lw.callF rfl rfl (sameTensor_c x p _ h_x.at h_p.at) ?_
  rintro _ w ⟨rfl, hn⟩
  replace hB := hB.bs hn
  replace h_a := h_a.bs hn
  replace h_v := h_v.bs hn
  replace b_a := b_a.bs hn
  replace h_t := h_t.bs hn
  replace b_t := b_t.bs hn
  replace h_u := h_u.bs hn
  replace h_x := h_x.bs hn
  replace b_x := b_x.bs hn
  replace h_y := h_y.bs hn
  replace b_y := b_y.bs hn
  replace h_z := h_z.bs hn
  replace b_z := b_z.bs hn
  replace hC := hC.bs hn
  replace h_p := h_p.bs hn
  replace b_p := b_p.bs hn
  replace h_q := h_q.bs hn
  replace b_q := b_q.bs hn
  replace h_r := h_r.bs hn
  replace b_r := b_r.bs hn
  clear hn
  refine Lw.val (Ex.not rfl) rfl ?_
  refine Lw.val (Ex.move rfl) rfl ?_
  refine Lw.know 72 (v' := .bool false) rfl (congrArg Value.bool (same_ans n_x y_x n_p y_p)) ?_
  refine Lw.take (dj := 72) rfl rfl ?_
  refine Lw.val (Ex.ldA (ag_29 _) (sz_29 _) rfl rfl (by assumption)) rfl ?_
  refine Lw.take (dj := 72) rfl rfl ?_
  refine Lw.val (Ex.ldA (ag_29 _) (sz_29 _) rfl rfl (by assumption)) rfl ?_
  refine Lw.take (dj := 72) rfl rfl ?_
  refine Lw.callF rfl rfl (sameTensor_c y q _ h_y.at h_q.at) ?_
  rintro _ w ⟨rfl, hn⟩
  replace hB := hB.bs hn
  replace h_a := h_a.bs hn
  replace h_v := h_v.bs hn
  replace b_a := b_a.bs hn
  replace h_t := h_t.bs hn
  replace b_t := b_t.bs hn
  replace h_u := h_u.bs hn
  replace h_x := h_x.bs hn
  replace b_x := b_x.bs hn
  replace h_y := h_y.bs hn
  replace b_y := b_y.bs hn
  replace h_z := h_z.bs hn
  replace b_z := b_z.bs hn
  replace hC := hC.bs hn
  replace h_p := h_p.bs hn
  replace b_p := b_p.bs hn
  replace h_q := h_q.bs hn
  replace b_q := b_q.bs hn
  replace h_r := h_r.bs hn
  replace b_r := b_r.bs hn
  clear hn
  refine Lw.take (dj := 72) rfl rfl ?_
  refine Lw.val (Ex.not rfl) rfl ?_
  refine Lw.val (Ex.pickF rfl rfl) rfl ?_
  refine Lw.val (Ex.move rfl) rfl ?_
  refine Lw.know 78 (v' := .bool false) rfl (congrArg Value.bool (same_ans n_y y_y n_q y_q)) ?_
  refine Lw.take (dj := 78) rfl rfl ?_
  refine Lw.val (Ex.ldA (ag_29 _) (sz_29 _) rfl rfl (by assumption)) rfl ?_
  refine Lw.take (dj := 78) rfl rfl ?_
  refine Lw.val (Ex.ldA (ag_29 _) (sz_29 _) rfl rfl (by assumption)) rfl ?_
  refine Lw.take (dj := 78) rfl rfl ?_
  refine Lw.callF rfl rfl (sameTensor_c z r _ h_z.at h_r.at) ?_
  rintro _ w ⟨rfl, hn⟩
  replace hB := hB.bs hn
  replace h_a := h_a.bs hn
  replace h_v := h_v.bs hn
  replace b_a := b_a.bs hn
  replace h_t := h_t.bs hn
  replace b_t := b_t.bs hn
  replace h_u := h_u.bs hn
  replace h_x := h_x.bs hn
  replace b_x := b_x.bs hn
  replace h_y := h_y.bs hn
  replace b_y := b_y.bs hn
  replace h_z := h_z.bs hn
  replace b_z := b_z.bs hn
  replace hC := hC.bs hn
  replace h_p := h_p.bs hn
  replace b_p := b_p.bs hn
  replace h_q := h_q.bs hn
  replace b_q := b_q.bs hn
  replace h_r := h_r.bs hn
  replace b_r := b_r.bs hn
  clear hn
  refine Lw.take (dj := 78) rfl rfl ?_
  refine Lw.val (Ex.not rfl) rfl ?_
  refine Lw.val (Ex.pickF rfl rfl) rfl ?_
  refine Lw.val (Ex.move rfl) rfl ?_
  refine Lw.know 84 (v' := .bool false) rfl (congrArg Value.bool (same_ans n_z y_z n_r y_r)) ?_
  refine Lw.take (dj := 84) rfl rfl ?_
  refine Lw.val (Ex.move rfl) rfl ?_
  refine Lw.take (dj := 84) rfl rfl ?_
  refine Lw.val (Ex.move rfl) rfl ?_
  refine Lw.take (dj := 84) rfl rfl ?_
  refine Lw.val (Ex.neq rfl rfl) rfl ?_
  refine Lw.val (Ex.pickF rfl rfl) rfl ?_
  refine Lw.val (Ex.move rfl) rfl ?_
  refine Lw.know 89 (v' := .bool false) rfl (congrArg Value.bool (by simp; rfl)) ?_
  refine Lw.take (dj := 89) rfl rfl ?_
  refine Lw.val (Ex.move rfl) rfl ?_
  refine Lw.take (dj := 89) rfl rfl ?_
  refine Lw.val (Ex.move rfl) rfl ?_
  refine Lw.take (dj := 89) rfl rfl ?_
  refine Lw.val (Ex.neq rfl rfl) rfl ?_
  refine Lw.val (Ex.pickF rfl rfl) rfl ?_
  refine Lw.val (Ex.move rfl) rfl ?_
  refine Lw.know 94 (v' := .bool false) rfl (congrArg Value.bool (by simp; rfl)) ?_
  refine Lw.take (dj := 94) rfl rfl ?_
  refine Lw.val (Ex.move rfl) rfl ?_
  refine Lw.take (dj := 94) rfl rfl ?_
  refine Lw.val (Ex.move rfl) rfl ?_
  refine Lw.take (dj := 94) rfl rfl ?_
  refine Lw.val (Ex.neq rfl rfl) rfl ?_
  refine Lw.val (Ex.pickF rfl rfl) rfl ?_
  refine Lw.val (Ex.move rfl) rfl ?_
  refine Lw.know 99 (v' := .bool false) rfl (congrArg Value.bool (by simp; rfl)) ?_
  refine Lw.take (dj := 99) rfl rfl ?_
  refine Lw.val (Ex.ldA (ag_29 _) (sz_29 _) rfl rfl (by assumption)) rfl ?_
  refine Lw.take (dj := 99) rfl rfl ?_
  refine Lw.val (Ex.ldA (ag_29 _) (sz_29 _) rfl rfl (by assumption)) rfl ?_
  refine Lw.take (dj := 99) rfl rfl ?_
  refine Lw.callF rfl rfl (leftTensor_c a tx ty _ _ _ h_a h_t) ?_
  rintro _ w ⟨rfl, hn⟩
  replace hB := hB.bs hn
  replace h_a := h_a.bs hn
  replace h_v := h_v.bs hn
  replace b_a := b_a.bs hn
  replace h_t := h_t.bs hn
  replace b_t := b_t.bs hn
  replace h_u := h_u.bs hn
  replace h_x := h_x.bs hn
  replace b_x := b_x.bs hn
  replace h_y := h_y.bs hn
  replace b_y := b_y.bs hn
  replace h_z := h_z.bs hn
  replace b_z := b_z.bs hn
  replace hC := hC.bs hn
  replace h_p := h_p.bs hn
  replace b_p := b_p.bs hn
  replace h_q := h_q.bs hn
  replace b_q := b_q.bs hn
  replace h_r := h_r.bs hn
  replace b_r := b_r.bs hn
  clear hn
  refine Lw.take (dj := 99) rfl rfl ?_
  refine Lw.val (Ex.not rfl) rfl ?_
  refine Lw.val (Ex.pickF rfl rfl) rfl ?_
  refine Lw.val (Ex.move rfl) rfl ?_
  refine Lw.know 105 (v' := .bool false) rfl (congrArg Value.bool (rfl)) ?_
  refine Lw.take (dj := 105) rfl rfl ?_
  refine Lw.val (Ex.move rfl) rfl ?_
  refine Lw.take (dj := 105) rfl rfl ?_
  refine Lw.val (Ex.move rfl) rfl ?_
  refine Lw.take (dj := 105) rfl rfl ?_
  refine Lw.callF rfl rfl (leftInts_c u v s _ _ h_u.tx h_v) ?_
  rintro _ w ⟨rfl, hn⟩
  replace hB := hB.bs hn
  replace h_a := h_a.bs hn
  replace h_v := h_v.bs hn
  replace b_a := b_a.bs hn
  replace h_t := h_t.bs hn
  replace b_t := b_t.bs hn
  replace h_u := h_u.bs hn
  replace h_x := h_x.bs hn
  replace b_x := b_x.bs hn
  replace h_y := h_y.bs hn
  replace b_y := b_y.bs hn
  replace h_z := h_z.bs hn
  replace b_z := b_z.bs hn
  replace hC := hC.bs hn
  replace h_p := h_p.bs hn
  replace b_p := b_p.bs hn
  replace h_q := h_q.bs hn
  replace b_q := b_q.bs hn
  replace h_r := h_r.bs hn
  replace b_r := b_r.bs hn
  clear hn
  refine Lw.take (dj := 105) rfl rfl ?_
  refine Lw.val (Ex.not rfl) rfl ?_
  refine Lw.val (Ex.pickF rfl rfl) rfl ?_
  refine Lw.nil ?_
  refine Pw.thenN (Cw.out ?_)
  refine Cw.condB rfl false (rfl) ?_
  refine Cw.skip ?_
  refine Pw.thenN (Cw.out ?_)
  refine Cw.seq ?_
  refine Cw.region ?_
  refine Lw.val (Ex.build (vs := []) (cs := [.int .i64 0, .slice none 0 0, .slice none 0 0, .slice none 0 0, .slice none 0 0, .slice none 0 0, .slice none 0 0, .slice none 0 0, .slice none 0 0, .slice none 0 0, .slice none 0 0, .slice none 0 0, .slice none 0 0, .slice none 0 0, .slice none 0 0, .slice none 0 0]) rfl (by kernel_rfl)) rfl ?_
  have zt := blk_lt b_t
  have zx := blk_lt b_x
  have zy := blk_lt b_y
  have zz := blk_lt b_z
  have zC := below_size hC
  have h_t := h_t.held
  have h_u := h_u.held
  have K0 : Heldall w W.heap.size w.heap.size [⟨tx, ty, a.s, a.l⟩, li u s, x, y, z] :=
    ⟨_, _, by omega, zc_t, h_t, _, _, by omega, zc_u, h_u, _, _, by omega, zc_x, h_x, _, _, by omega, zc_y, h_y, _, _, by omega, zc_z, h_z, (by show _ ≤ _; omega)⟩
  refine Lw.boxed (cs := .int .i64 0 :: List.replicate 15 (.slice none 0 0)) it_51 rfl rfl rfl rfl (fun _ => rfl) (rfl) ?_
  rintro A_k w eA_k b_k hn zhn
  have zk := hn.size
  replace hB := hB.bs hn
  replace h_a := h_a.bs hn
  replace h_v := h_v.bs hn
  replace b_a := b_a.bs hn
  replace h_t := h_t.bs hn
  replace b_t := b_t.bs hn
  replace h_u := h_u.bs hn
  replace h_x := h_x.bs hn
  replace b_x := b_x.bs hn
  replace h_y := h_y.bs hn
  replace b_y := b_y.bs hn
  replace h_z := h_z.bs hn
  replace b_z := b_z.bs hn
  replace hC := hC.bs hn
  replace h_p := h_p.bs hn
  replace b_p := b_p.bs hn
  replace h_q := h_q.bs hn
  replace b_q := b_q.bs hn
  replace h_r := h_r.bs hn
  replace b_r := b_r.bs hn
  replace K0 := K0.bs hn
  clear hn
  have h_k := bk_new b_k
  have zw := below_size hB
  have perm : [⟨tx, ty, a.s, a.l⟩, li u s, x, y, z].Perm ([(⟨tx, ty, a.s, a.l⟩, true), (li u s, false), (x, true), (y, true), (z, true)].map (·.1) : List T4) := List.Perm.refl _
  have K := mix_keeps (n := 0) (fun c hc => K0.each c (perm.mem_iff.2 hc)) (K0.dis.perm perm fun h => h.symm) (Int.le_refl 0) (show (0 : Int) + 2 * ((5 : Nat) : Int) ≤ 1000000 by decide) (by
    dsimp only at n_x y_x n_y y_y n_z y_z
    intro c hc
    simp only [List.map_cons, List.map_nil, List.mem_cons, List.not_mem_nil, or_false] at hc
    rcases hc with rfl | rfl | rfl | rfl | rfl
    · exact ⟨by show a.s.length ≤ _; omega, by show a.l.length ≤ _; omega⟩
    · exact ⟨by show s.length ≤ _; omega, by simp⟩
    · exact few_ans n_x y_x (by omega) (fun _ => by omega)
    · exact few_ans n_y y_y (by rw [turn_length]; omega) (fun _ => by unfold tuL; rw [List.length_map, List.length_range]; exact Nat.le_trans (size_nat _) (by decide))
    · exact few_ans n_z y_z (by have := without_le a.s al.toNat; omega) (fun _ => by unfold suL; rw [List.length_map, List.length_range]; exact Nat.le_trans (size_nat _) (by decide)))
  rw [← eA_k] at K
  clear K0 perm b_k
  refine Lw.nil ?_
  refine Pw.thenN (Cw.out ?_)
  refine Cw.seq ?_
  refine Cw.region ?_
  refine Lw.val (Ex.ldA (ag_29 _) (sz_29 _) rfl rfl (by assumption)) rfl ?_
  refine Lw.callF rfl rfl (bookTensor_c w A_k A_k _ _ _ _ _ _ _ tx ty _ _ _ _ h_k h_t.rx.sl h_t.ry.sl (fun b e => by have := h_t.by' b e; omega) (by omega) (show 0 ≤ 700 by decide)) ?_
  rintro _ w ⟨rfl, hn, _, _, h_k⟩
  have hB := hB.trans (hn.mono (show W.heap.size ≤ A_k by omega))
  have K := K.below hn
  have h_u := h_u.below hn (by omega)
  have h_x := h_x.below hn (by omega)
  have h_y := h_y.below hn (by omega)
  have h_z := h_z.below hn (by omega)
  have b_x := b_x.keep (hn.block A_x (by omega))
  have b_y := b_y.keep (hn.block A_y (by omega))
  have b_z := b_z.keep (hn.block A_z (by omega))
  refine Lw.nil ?_
  refine Pw.thenN (Cw.out ?_)
  refine Cw.seq ?_
  refine Cw.region ?_
  refine Lw.val (Ex.move rfl) rfl ?_
  refine Lw.callF rfl rfl (bookInts2_c w A_k A_k _ _ _ _ _ _ _ u _ _ h_k h_u.rx.sl (by omega) (show 2 ≤ 800 by decide)) ?_
  rintro _ w ⟨rfl, hn, _, h_k⟩
  have hB := hB.trans (hn.mono (show W.heap.size ≤ A_k by omega))
  have K := K.below hn
  have h_x := h_x.below hn (by omega)
  have h_y := h_y.below hn (by omega)
  have h_z := h_z.below hn (by omega)
  have b_x := b_x.keep (hn.block A_x (by omega))
  have b_y := b_y.keep (hn.block A_y (by omega))
  have b_z := b_z.keep (hn.block A_z (by omega))
  refine Lw.nil ?_
  refine Pw.thenN (Cw.out ?_)
  refine Cw.seq ?_
  refine Cw.region ?_
  refine Lw.val (Ex.ldA (ag_29 _) (sz_29 _) rfl rfl (by assumption)) rfl ?_
  refine Lw.callF rfl rfl (bookTensor_c w A_k A_k _ _ _ _ _ _ _ x.x x.y _ _ _ _ h_k h_x.rx.sl h_x.ry.sl (fun b e => by have := h_x.by' b e; omega) (by omega) (show 3 ≤ 700 by decide)) ?_
  rintro _ w ⟨rfl, hn, _, _, h_k⟩
  have hB := hB.trans (hn.mono (show W.heap.size ≤ A_k by omega))
  have K := K.below hn
  have h_y := h_y.below hn (by omega)
  have h_z := h_z.below hn (by omega)
  have b_y := b_y.keep (hn.block A_y (by omega))
  have b_z := b_z.keep (hn.block A_z (by omega))
  refine Lw.nil ?_
  refine Pw.thenN (Cw.out ?_)
  refine Cw.seq ?_
  refine Cw.region ?_
  refine Lw.val (Ex.ldA (ag_29 _) (sz_29 _) rfl rfl (by assumption)) rfl ?_
  refine Lw.callF rfl rfl (bookTensor_c w A_k A_k _ _ _ _ _ _ _ y.x y.y _ _ _ _ h_k h_y.rx.sl h_y.ry.sl (fun b e => by have := h_y.by' b e; omega) (by omega) (show 5 ≤ 700 by decide)) ?_
  rintro _ w ⟨rfl, hn, _, _, h_k⟩
  have hB := hB.trans (hn.mono (show W.heap.size ≤ A_k by omega))
  have K := K.below hn
  have h_z := h_z.below hn (by omega)
  have b_z := b_z.keep (hn.block A_z (by omega))
  refine Lw.nil ?_
  refine Pw.thenN (Cw.out ?_)
  refine Cw.seq ?_
  refine Cw.region ?_
  refine Lw.val (Ex.ldA (ag_29 _) (sz_29 _) rfl rfl (by assumption)) rfl ?_
  refine Lw.callF rfl rfl (bookTensor_c w A_k A_k _ _ _ _ _ _ _ z.x z.y _ _ _ _ h_k h_z.rx.sl h_z.ry.sl (fun b e => by have := h_z.by' b e; omega) (by omega) (show 7 ≤ 700 by decide)) ?_
  rintro _ w ⟨rfl, hn, _, _, h_k⟩
  have hB := hB.trans (hn.mono (show W.heap.size ≤ A_k by omega))
  have K := K.below hn
  refine Lw.nil ?_
  refine Pw.thenN (Cw.out ?_)
  refine Cw.seq ?_
  refine Cw.region ?_
  refine Lw.callF rfl rfl (apartT_c w A_k A_k W.heap.size _ _ _ _ _ _ h_k K (by omega)) ?_
  rintro _ w ⟨rfl, hn⟩
  refine Lw.val (Ex.assign rfl) rfl ?_
  refine Lw.nil ?_
  refine Pw.thenN (Cw.out ?_)
  refine Cw.ret ?_
  refine Pw.ret1 rfl rfl ?_
  exact ⟨rfl, hB.trans hn⟩

/-! A world for the witness: the settled one, the tables laid. -/
def laidCells : DataW Unit → Array Value
  | .agg l => (l.map fun d => match d with | .lit (.int k n) => Value.int k n | _ => Value.bool false).toArray
  | _ => #[]
noncomputable def laidWorld (os : Os) : World :=
  { World.holding Tryz.prog os ⟨#[], #[], []⟩ with heap := Rows.movesOneRow.laid.foldl (fun h x => h.modify ((Tryz.prog.globalNamed x.1).getD 0) fun | .cells _ t fz => .cells (laidCells x.2) t fz | o => o) (World.holding Tryz.prog os ⟨#[], #[], []⟩).heap }
theorem laid_met (os : Os) (args : Array Value) : laidMetH Tryz.prog Rows.movesOneRow.laid ((laidWorld os).forCall (fun _ _ => 0) ⟨#[], args, []⟩).memory :=
  laidMetH_of_parts (laidMet_of_run' 8 (by kernel_rfl) (by kernel_rfl)) (by kernel_rfl)

set_option maxRecDepth 100000 in
set_option maxHeartbeats 2000000 in
theorem movesOne_lifted (os : Os) (started : os.Started) (H : Type) (enc : TypeId × Value → H) :
    ReturnsInHanded {} Tryz.checked os 4 .any (fun w args => (Rows.movesOneSpec.pre enc Tryz.prog Tryz.f4 Rows.movesOneRow.domain false w args ∧ laidMetH Tryz.prog Rows.movesOneRow.laid w) ∧ sizedMet enc Tryz.prog Tryz.f4 (OpenSpec.ofChange Rows.movesOneSpec) false w args) (Rows.movesOneSpec.post enc Tryz.prog Tryz.f4 false true false false) := by
  refine returnsInHanded_of_change_and (C := Tryz.checked) (X := fun w _ => laidMetH Tryz.prog Rows.movesOneRow.laid w) (fun _ _ _ hh h => h.of_heap hh) own started (by kernel_rfl) Tryz.func4
    (ChangeSpec.witness_at (enc := enc) (C := Tryz.checked) (os := os) (X := fun w _ => laidMetH Tryz.prog Rows.movesOneRow.laid w) false (laidWorld os) #[.agg #[.slice none 0 0, .slice none 0 0], .slice none 0 0, .int .i64 0] 8 rfl (by kernel_rfl) (by kernel_rfl) (by kernel_rfl) (by kernel_rfl) (by kernel_rfl) (laid_met os _)) ?_
  intro W base args ds gs before hval0 hW hcnd hsz0 _ _
  have hval : ∀ (j : Nat) t v, Tryz.f4.params[j]? = some t → args[j]? = some v → Value.okWide Tryz.prog W .any base t v := hval0
  have hW' := hW
  obtain ⟨p, q, hA0, hV, rfl, hfz, hnd⟩ := hW
  have hA : DataW.TrodAll enc Tryz.prog W 0 (fun _ => true) true Tryz.f4.params.toList args.toList ds p := hA0
  have hsz : (DataW.weightsEach Tryz.prog (Tryz.f4.params.toList ++ Rows.movesOneSpec.plain.varTypes Tryz.prog) (ds ++ gs)).all (· ≤ reachBytes) = true := hsz0
  rw [Tryz.params4] at hA hval hsz
  obtain ⟨v0, vs0, d0, ds0, p0, q0, hargs, rfl, rfl, h0, r0⟩ := trodAll_cons hA
  obtain ⟨v1, vs1, d1, ds1, p1, q1, rfl, rfl, rfl, h1, r1⟩ := trodAll_cons r0
  obtain ⟨v2, vs2, d2, ds2, p2, q2, rfl, rfl, rfl, h2, r2⟩ := trodAll_cons r1
  obtain ⟨rfl, rfl, rfl⟩ := trodAll_nil r2
  obtain rfl : args = #[v0, v1, v2] := by cases args; simp_all
  obtain ⟨rfl, rfl⟩ := trodVars_none hV
  have k0 := h0
  have lt0 : ∀ x ∈ p0, x.block < W.heap.size := by obtain ⟨m, hm⟩ := k0; exact DataW.trod_lt m _ _ _ hm
  have i0 := in_of (j := 0) (t := 29) hsz rfl rfl h0
  have o0 := hval 0 29 v0 rfl rfl
  have k1 := h1
  have lt1 : ∀ x ∈ p1, x.block < W.heap.size := by obtain ⟨m, hm⟩ := k1; exact DataW.trod_lt m _ _ _ hm
  have i1 := in_of (j := 1) (t := 26) hsz rfl rfl h1
  have o1 := hval 1 26 v1 rfl rfl
  have k2 := h2
  have lt2 : ∀ x ∈ p2, x.block < W.heap.size := by obtain ⟨m, hm⟩ := k2; exact DataW.trod_lt m _ _ _ hm
  have i2 := in_of (j := 2) (t := 3) hsz rfl rfl h2
  have o2 := hval 2 3 v2 rfl rfl
  clear hA0 hval0 hsz0 hsz
  obtain ⟨a, rfl, ha, ba1, ba2⟩ := arg_ten o0 i0
  obtain ⟨l0, h3, q3⟩ := arg_slT un_26 (by kernel_rfl) (fun cs h => (In.int un_3 h).imp fun _ h => h.1) o1 i1
  obtain ⟨m, rfl, -⟩ := arg_int un_3 o2 i2
  have kb : Tryz.prog.bytesOf 3 = 8 := by kernel_rfl
  rw [kb] at q3
  have hr : reachBytes ≤ 140737488355328 := by decide
  refine (law_calls (movesOne_w a v1 l0 m W ha h3 (by omega) (by omega) (by omega))).mono fun e W' ⟨he, bel⟩ => ?_
  subst he
  exact ⟨_, rfl, _, _, _, [], _, [], hW', trodAll_mk1 (shut_bool un_4 _), (trodAll_cons_mk (Below.trod laidOut (by kernel_rfl) (of_decide_eq_true (by kernel_rfl)) k0 bel lt0) (trodAll_cons_mk (Below.trod laidOut (by kernel_rfl) (of_decide_eq_true (by kernel_rfl)) k1 bel lt1) (trodAll_cons_mk (Below.trod laidOut (by kernel_rfl) (of_decide_eq_true (by kernel_rfl)) k2 bel lt2) trodAll_mk0))), rfl, bel.frame _, fun h => by cases h⟩

/-- The statement. -/
theorem movesOne_holds : Rows.MovesOneSaid :=
  OpenClaim.holds_of_wide 4 Tryz.f4 rfl rfl rfl rfl rfl rfl rfl ⟨rfl, rfl, rfl, rfl, rfl⟩ rfl rfl rfl rfl rfl (by kernel_rfl) Tryz.func4 (by kernel_rfl)
    (of_decide_eq_true (by kernel_rfl)) (by unfold Func.isWrapper; first | (rw [if_pos (by decide +kernel)]; kernel_rfl) | (rw [if_neg (by decide +kernel)]; exact ⟨rfl, rfl⟩))
    (fun os started H enc _ => movesOne_lifted os started H enc)
/-- The card. -/
theorem movesOne_proved : Rows.MovesOneCardSaid :=
  Claim7.holds_tied_plain_at .later [] [.data, .data, .data] true (true, "be97d0136d3698b2f6b7e916e1623318bba926cc5f820086381b3c84f1dcd1a2") false
    movesOne_holds (fun _ h => by cases h) (by kernel_rfl) (fun _ h => by cases h) movesOne_row_tie rfl ⟨rfl, rfl⟩ (by kernel_rfl) rfl
    (fun f fn hf hfn => by
      obtain rfl : f = 4 := Option.some.inj ((show Tryz.prog.funcNamed "drydock/drydocklaw09.MovesOne" = some 4 by kernel_rfl).symm.trans hf) |>.symm
      obtain rfl : fn = Tryz.f4 := (Option.some.inj (Tryz.func4.symm.trans hfn)).symm
      refine ⟨by kernel_rfl, fun j t ht => ?_⟩
      rw [Tryz.params4] at ht
      have h3 : t ∈ [29, 26, 3] := List.mem_of_getElem? (by simpa using ht)
      have h4 : ([29, 26, 3] : List TypeId).all (fun t => Tryz.prog.wantsStandIn t == false) = true := by kernel_rfl
      exact eq_of_beq (List.all_eq_true.1 h4 t h3))
    (by kernel_rfl)
#print axioms movesOne_proved
end Go.Proofs.YtkhndfaampkbnaaGreatDoor
