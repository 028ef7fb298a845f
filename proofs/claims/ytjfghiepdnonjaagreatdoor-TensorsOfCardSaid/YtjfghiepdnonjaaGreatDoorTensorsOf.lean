/- Tensors as the document has them: for any two tensors, any places; no condition. -/
import Derived.Test.YtjfghiepdnonjaaGreatDoorTensorsRef
import Derived.Test.YtjfghiepdnonjaaGreatDoorBookArg
namespace Go.Proofs.YtjfghiepdnonjaaGreatDoor
open Go Go.Dd Go.RowKit Go.ChangeShapes Go.WideShapes Go.ChangeAt
set_option maxRecDepth 100000

def nwE (s : List Int) : Int := if Shapes.ok s then 0 else 1
theorem new_gives {W w : World} {r : Value} {s : List Int} (h : (Shapes.ok s = true ∧ ∃ x y, r = .tuple #[.agg #[x, y], .int .i64 0] ∧ Made1 W w x y s (List.replicate (Shapes.size s).toNat 0#32)) ∨ (Shapes.ok s = false ∧ r = .tuple #[.agg #[.slice none 0 0, .slice none 0 0], .int .i64 1])) :
    Gives W w r (nwE s) s (List.replicate (Shapes.size s).toNat 0#32) := by
  unfold nwE
  rcases h with ⟨h1, x, y, rfl, h2⟩ | ⟨h1, rfl⟩
  · exact ⟨⟨x, y, s, _⟩, by rw [h1]; rfl, h2.held, fun h => by simp [h1] at h, fun _ => ⟨rfl, rfl⟩⟩
  · exact ⟨⟨_, _, [], []⟩, by rw [h1]; rfl, held_nil _ _ _, fun _ => ⟨rfl, rfl⟩, fun h => by simp [h1] at h⟩
theorem new_g (u : Value) (s : List Int) (W : World) (hu : SlT (Value.int .i64) W u s) : Fnc Tryz.prog 10 [u] W (fun r w' => Below W.heap.size W w' ∧ Gives W w' r (nwE s) s (List.replicate (Shapes.size s).toNat 0#32)) :=
  (new_c u s W hu).mono fun _ _ ⟨h1, h2⟩ => ⟨h1, new_gives h2⟩
theorem rnew_g (u : Value) (s : List Int) (W : World) (hu : SlT (Value.int .i64) W u s) : Fnc Tryz.prog 11 [u] W (fun r w' => Below W.heap.size W w' ∧ Gives W w' r (nwE s) s (List.replicate (Shapes.size s).toNat 0#32)) :=
  (rnew_c u s W hu).mono fun _ _ ⟨h1, h2⟩ => ⟨h1, new_gives h2⟩

theorem tensorsOf_w (a b : T4) (s0 : Value) (l0 : List Int) (W : World) (h_a : a.at W) (h_b : b.at W) (x_0 : SlT (Value.int .i64) W s0 l0) (b1 : a.s.length ≤ 1125899906842624) (b2 : a.l.length ≤ 1125899906842624) (b3 : b.s.length ≤ 1125899906842624) (b4 : b.l.length ≤ 1125899906842624) (b5 : l0.length ≤ 1125899906842624) :
    Fnc Tryz.prog 3 [a.v, b.v, s0] W (fun r w' => r = .bool true ∧ Below W.heap.size W w') := by
  have hB := Below.refl W.heap.size W
  refine Fnc.enter (n := 109) Tryz.func3 (by kernel_rfl) rfl rfl rfl ?_
  refine Cw.seq ?_
  refine Cw.region ?_
  refine Lw.boxV (cs := [a.x, a.y]) rfl rfl rfl ?_
  rintro A_a w eA_a b_a hn -
  replace hB := hB.bs hn
  replace h_a := h_a.bs hn
  replace h_b := h_b.bs hn
  replace x_0 := x_0.bs hn
  clear hn
  refine Lw.boxV (cs := [b.x, b.y]) rfl rfl rfl ?_
  rintro A_b w eA_b b_b hn -
  replace hB := hB.bs hn
  replace h_a := h_a.bs hn
  replace h_b := h_b.bs hn
  replace x_0 := x_0.bs hn
  replace b_a := b_a.bs hn
  clear hn
  refine Lw.val (Ex.assign rfl) rfl ?_
  refine Lw.nil ?_
  refine Pw.thenN (Cw.out ?_)
  refine Cw.seq ?_
  refine Cw.seq ?_
  refine Cw.tail 6 mixed (by kernel_rfl) ?_
  refine Qw.val (fun w1 hq => Ex.ldA (ag_25 _) (sz_25 _) rfl rfl (Blk.bs (by assumption) hq)) rfl ?_
  refine Qw.callF rfl rfl (fun w1 hq => (tsize_c a w1 (h_a.bs hq) b1 b2).q hq) ?_
  refine Qw.val (fun w1 hq => Ex.ldA (ag_25 _) (sz_25 _) rfl rfl (Blk.bs (by assumption) hq)) rfl ?_
  refine Qw.callF rfl rfl (fun w1 hq => (tsize_c b w1 (h_b.bs hq) b3 b4).q hq) ?_
  refine Qw.val (fun w1 hq => Ex.move rfl) rfl ?_
  refine Qw.val (fun w1 hq => Ex.lenS st_22 rfl (Sl.bs (by assumption) hq)) rfl ?_
  refine Qw.done (fun w3 hq => ?_)
  replace hB := hB.bs hq
  replace h_a := h_a.bs hq
  replace h_b := h_b.bs hq
  replace x_0 := x_0.bs hq
  replace b_a := b_a.bs hq
  replace b_b := b_b.bs hq
  clear hq
  refine Lw.valW (Xw.lit (vs := [tsz a.s a.l, tsz b.s b.l, (l0.length : Int)].map (Value.int .i64)) st_22 it_3 rfl rfl rfl rfl rfl) rfl ?_
  rintro u w ⟨ho, -, hn, -⟩
  replace hB := hB.bs hn
  replace h_a := h_a.bs hn
  replace h_b := h_b.bs hn
  replace x_0 := x_0.bs hn
  replace b_a := b_a.bs hn
  replace b_b := b_b.bs hn
  clear hn
  refine Lw.callF rfl rfl (beyond_c u [tsz a.s a.l, tsz b.s b.l, (l0.length : Int)] w (own_slT ho) (by intro x hx; simp at hx; rcases hx with rfl | rfl | rfl; exact tsz_bd b1 b2; exact tsz_bd b3 b4; omega)) ?_
  rintro _ w ⟨rfl, hn⟩
  replace hB := hB.bs hn
  replace h_a := h_a.bs hn
  replace h_b := h_b.bs hn
  replace x_0 := x_0.bs hn
  replace b_a := b_a.bs hn
  replace b_b := b_b.bs hn
  clear hn
  refine Lw.nil ?_
  refine Pw.thenN (Cw.out ?_)
  clear ho
  refine Cw.cond rfl ?_ ?_
  · intro _
    refine Cw.seq ?_
    refine Cw.region ?_
    refine Lw.val (Ex.assign rfl) rfl ?_
    refine Lw.nil ?_
    refine Pw.thenN (Cw.out ?_)
    refine Cw.ret ?_
    refine Pw.thenR ?_
    refine Pw.ret1 rfl rfl ?_
    exact ⟨rfl, hB⟩
  intro g
  have g' : bey 0 [tsz a.s a.l, tsz b.s b.l, (l0.length : Int)] = false := by simpa using g
  have hbey := bey_no (Int.le_refl 0) (by intro x hx; simp at hx; rcases hx with rfl | rfl | rfl; exact (tsz_bd b1 b2).1; exact (tsz_bd b3 b4).1; omega) g'
  obtain ⟨la, lla⟩ := tsz_le (hbey (tsz a.s a.l) (by simp))
  obtain ⟨lb, llb⟩ := tsz_le (hbey (tsz b.s b.l) (by simp))
  clear g' hbey b1 b2 b3 b4 b5
  have t0 := below_size hB
  refine Cw.skip ?_
  refine Pw.thenN (Cw.out ?_)
  refine Cw.seq ?_
  refine Cw.region ?_
  refine Lw.val (Ex.ldA (ag_25 _) (sz_25 _) rfl rfl (by assumption)) rfl ?_
  refine Lw.callF rfl rfl (twin2_c a _ h_a (by omega) (by omega)) ?_
  rintro _ w ⟨hn, tx, ty, rfl, h_t⟩
  have zc_t := hn.size
  replace hB := hB.bs hn
  replace h_a := h_a.bs hn
  replace h_b := h_b.bs hn
  replace x_0 := x_0.bs hn
  replace b_a := b_a.bs hn
  replace b_b := b_b.bs hn
  clear hn
  have o_t := h_t.held.at.one
  refine Lw.boxed (cs := [tx, ty]) it_25 rfl rfl rfl rfl (fun _ => rfl) (o_t) ?_
  rintro A_t w eA_t b_t hn zhn
  have zb_t := hn.size
  replace hB := hB.bs hn
  replace h_a := h_a.bs hn
  replace h_b := h_b.bs hn
  replace x_0 := x_0.bs hn
  replace b_a := b_a.bs hn
  replace b_b := b_b.bs hn
  replace h_t := h_t.bs hn
  clear hn
  refine Lw.nil ?_
  refine Pw.thenN (Cw.out ?_)
  refine Cw.seq ?_
  refine Cw.region ?_
  refine Lw.val (Ex.ldA (ag_25 _) (sz_25 _) rfl rfl (by assumption)) rfl ?_
  refine Lw.callF rfl rfl (twin2_c b _ h_b (by omega) (by omega)) ?_
  rintro _ w ⟨hn, ux, uy, rfl, h_u⟩
  have zc_u := hn.size
  replace hB := hB.bs hn
  replace h_a := h_a.bs hn
  replace h_b := h_b.bs hn
  replace x_0 := x_0.bs hn
  replace b_a := b_a.bs hn
  replace b_b := b_b.bs hn
  replace h_t := h_t.bs hn
  replace b_t := b_t.bs hn
  clear hn
  have o_u := h_u.held.at.one
  refine Lw.boxed (cs := [ux, uy]) it_25 rfl rfl rfl rfl (fun _ => rfl) (o_u) ?_
  rintro A_u w eA_u b_u hn zhn
  have zb_u := hn.size
  replace hB := hB.bs hn
  replace h_a := h_a.bs hn
  replace h_b := h_b.bs hn
  replace x_0 := x_0.bs hn
  replace b_a := b_a.bs hn
  replace b_b := b_b.bs hn
  replace h_t := h_t.bs hn
  replace b_t := b_t.bs hn
  replace h_u := h_u.bs hn
  clear hn
  refine Lw.nil ?_
  refine Pw.thenN (Cw.out ?_)
  refine Cw.seq ?_
  refine Cw.region ?_
  refine Lw.val (Ex.ldA (ag_25 _) (sz_25 _) rfl rfl (by assumption)) rfl ?_
  refine Lw.val (Ex.move rfl) rfl ?_
  have hC := Below.refl w.heap.size w
  refine Lw.callF rfl rfl (tat_c ⟨tx, ty, a.s, a.l⟩ s0 l0 _ h_t.held.at x_0) ?_
  rintro _ w ⟨rfl, hn⟩
  replace hB := hB.bs hn
  replace h_a := h_a.bs hn
  replace h_b := h_b.bs hn
  replace x_0 := x_0.bs hn
  replace b_a := b_a.bs hn
  replace b_b := b_b.bs hn
  replace h_t := h_t.bs hn
  replace b_t := b_t.bs hn
  replace h_u := h_u.bs hn
  replace b_u := b_u.bs hn
  replace hC := hC.bs hn
  clear hn
  refine Lw.val (Ex.move rfl) rfl ?_
  refine Lw.val (Ex.extract (i := 0) rfl rfl) rfl ?_
  refine Lw.val (Ex.extract (i := 1) rfl rfl) rfl ?_
  refine Lw.val (Ex.assign rfl) rfl ?_
  refine Lw.val (Ex.assign rfl) rfl ?_
  refine Lw.nil ?_
  refine Pw.thenN (Cw.out ?_)
  refine Cw.seq ?_
  refine Cw.region ?_
  refine Lw.val (Ex.ldA (ag_25 _) (sz_25 _) rfl rfl (by assumption)) rfl ?_
  refine Lw.val (Ex.move rfl) rfl ?_
  refine Lw.callF rfl rfl (rtat_c a s0 l0 _ h_a x_0) ?_
  rintro _ w ⟨rfl, hn⟩
  replace hB := hB.bs hn
  replace h_a := h_a.bs hn
  replace h_b := h_b.bs hn
  replace x_0 := x_0.bs hn
  replace b_a := b_a.bs hn
  replace b_b := b_b.bs hn
  replace h_t := h_t.bs hn
  replace b_t := b_t.bs hn
  replace h_u := h_u.bs hn
  replace b_u := b_u.bs hn
  replace hC := hC.bs hn
  clear hn
  refine Lw.val (Ex.move rfl) rfl ?_
  refine Lw.val (Ex.extract (i := 0) rfl rfl) rfl ?_
  refine Lw.val (Ex.extract (i := 1) rfl rfl) rfl ?_
  refine Lw.val (Ex.assign rfl) rfl ?_
  refine Lw.val (Ex.assign rfl) rfl ?_
  refine Lw.nil ?_
  refine Pw.thenN (Cw.out ?_)
  refine Cw.seq ?_
  refine Cw.region ?_
  refine Lw.val (Ex.fieldAddr (q := 0) Tryz.underlying25 rfl (sz_22 _) rfl) rfl ?_
  refine Lw.val (Ex.ldB (ag_22 _) rfl (by assumption) rfl) rfl ?_
  have zC0 := below_size hC
  refine Lw.callF rfl rfl (new_g tx a.s _ h_t.held.at.1) ?_
  rintro _ w ⟨hn, x, rfl, h_x, n_x, y_x⟩
  have zc_x := hn.size
  replace hB := hB.bs hn
  replace h_a := h_a.bs hn
  replace h_b := h_b.bs hn
  replace x_0 := x_0.bs hn
  replace b_a := b_a.bs hn
  replace b_b := b_b.bs hn
  replace h_t := h_t.bs hn
  replace b_t := b_t.bs hn
  replace h_u := h_u.bs hn
  replace b_u := b_u.bs hn
  replace hC := hC.bs hn
  clear hn
  refine Lw.val (Ex.move rfl) rfl ?_
  refine Lw.val (Ex.extract (i := 0) rfl rfl) rfl ?_
  refine Lw.val (Ex.extract (i := 1) rfl rfl) rfl ?_
  have o_x := h_x.at.one
  refine Lw.boxed (cs := [x.x, x.y]) it_25 rfl rfl rfl rfl (fun _ => rfl) (o_x) ?_
  rintro A_x w eA_x b_x hn zhn
  have zb_x := hn.size
  replace hB := hB.bs hn
  replace h_a := h_a.bs hn
  replace h_b := h_b.bs hn
  replace x_0 := x_0.bs hn
  replace b_a := b_a.bs hn
  replace b_b := b_b.bs hn
  replace h_t := h_t.bs hn
  replace b_t := b_t.bs hn
  replace h_u := h_u.bs hn
  replace b_u := b_u.bs hn
  replace hC := hC.bs hn
  replace h_x := h_x.bs hn
  clear hn
  refine Lw.val (Ex.assign rfl) rfl ?_
  refine Lw.nil ?_
  refine Pw.thenN (Cw.out ?_)
  refine Cw.seq ?_
  refine Cw.region ?_
  refine Lw.val (Ex.fieldAddr (q := 0) Tryz.underlying25 rfl (sz_22 _) rfl) rfl ?_
  refine Lw.val (Ex.ldB (ag_22 _) rfl (by assumption) rfl) rfl ?_
  have zC := below_size hC
  have K0 : Heldall w W.heap.size w.heap.size [⟨tx, ty, a.s, a.l⟩, ⟨ux, uy, b.s, b.l⟩, x] :=
    ⟨_, _, by omega, zc_t, h_t.held, _, _, by omega, zc_u, h_u.held, _, _, by omega, zc_x, h_x, (by show _ ≤ _; have := blk_lt b_x; omega)⟩
  have hD := Below.refl w.heap.size w
  refine Lw.callF rfl rfl (rnew_g a.x a.s _ h_a.1) ?_
  rintro _ w ⟨hn, y, rfl, h_y, n_y, y_y⟩
  have zc_y := hn.size
  replace hB := hB.bs hn
  replace h_a := h_a.bs hn
  replace h_b := h_b.bs hn
  replace x_0 := x_0.bs hn
  replace b_a := b_a.bs hn
  replace b_b := b_b.bs hn
  replace h_t := h_t.bs hn
  replace b_t := b_t.bs hn
  replace h_u := h_u.bs hn
  replace b_u := b_u.bs hn
  replace hC := hC.bs hn
  replace h_x := h_x.bs hn
  replace b_x := b_x.bs hn
  replace K0 := K0.bs hn
  replace hD := hD.bs hn
  clear hn
  refine Lw.val (Ex.move rfl) rfl ?_
  refine Lw.val (Ex.extract (i := 0) rfl rfl) rfl ?_
  refine Lw.val (Ex.extract (i := 1) rfl rfl) rfl ?_
  have o_y := h_y.at.one
  refine Lw.boxed (cs := [y.x, y.y]) it_25 rfl rfl rfl rfl (fun _ => rfl) (o_y) ?_
  rintro A_y w eA_y b_y hn zhn
  have zb_y := hn.size
  replace hB := hB.bs hn
  replace h_a := h_a.bs hn
  replace h_b := h_b.bs hn
  replace x_0 := x_0.bs hn
  replace b_a := b_a.bs hn
  replace b_b := b_b.bs hn
  replace h_t := h_t.bs hn
  replace b_t := b_t.bs hn
  replace h_u := h_u.bs hn
  replace b_u := b_u.bs hn
  replace hC := hC.bs hn
  replace h_x := h_x.bs hn
  replace b_x := b_x.bs hn
  replace K0 := K0.bs hn
  replace hD := hD.bs hn
  replace h_y := h_y.bs hn
  clear hn
  refine Lw.val (Ex.assign rfl) rfl ?_
  refine Lw.nil ?_
  refine Pw.thenN (Cw.out ?_)
  refine Cw.seq ?_
  refine Cw.region ?_
  refine Lw.val (Ex.build (vs := []) (cs := [.int .i64 0, .slice none 0 0, .slice none 0 0, .slice none 0 0, .slice none 0 0, .slice none 0 0, .slice none 0 0, .slice none 0 0, .slice none 0 0, .slice none 0 0, .slice none 0 0, .slice none 0 0, .slice none 0 0, .slice none 0 0, .slice none 0 0, .slice none 0 0]) rfl (by kernel_rfl)) rfl ?_
  have zD := below_size hD
  refine Lw.boxed (cs := .int .i64 0 :: List.replicate 15 (.slice none 0 0)) it_50 rfl rfl rfl rfl (fun _ => rfl) (rfl) ?_
  rintro A_k w eA_k b_k hn zhn
  replace hB := hB.bs hn
  replace h_a := h_a.bs hn
  replace h_b := h_b.bs hn
  replace x_0 := x_0.bs hn
  replace b_a := b_a.bs hn
  replace b_b := b_b.bs hn
  replace h_t := h_t.bs hn
  replace b_t := b_t.bs hn
  replace h_u := h_u.bs hn
  replace b_u := b_u.bs hn
  replace hC := hC.bs hn
  replace h_x := h_x.bs hn
  replace b_x := b_x.bs hn
  replace K0 := K0.bs hn
  replace h_y := h_y.bs hn
  replace b_y := b_y.bs hn
  clear hn
  refine Lw.nil ?_
  refine Pw.thenN (Cw.out ?_)
  refine Cw.seq ?_
  refine Cw.seq ?_
  refine Cw.quiet mixed (by kernel_rfl) ?_
  refine Qw.val (fun w1 hq => Ex.ldA (ag_25 _) (sz_25 _) rfl rfl (Blk.bs (by assumption) hq)) rfl ?_
  refine Qw.callF rfl rfl (fun w1 hq => (tcheck_c tx ty a.s a.l w1 (h_t.held.at.1.bs hq) (h_t.held.at.2.bs hq)).q hq) ?_
  refine Qw.val (fun w1 hq => Ex.ldA (ag_25 _) (sz_25 _) rfl rfl (Blk.bs (by assumption) hq)) rfl ?_
  refine Qw.callF rfl rfl (fun w1 hq => (rtcheck_c a.x a.y a.s a.l w1 (h_a.1.bs hq) (h_a.2.bs hq)).q hq) ?_
  refine Qw.val (fun w1 hq => Ex.neqB un_4 rfl rfl) rfl ?_
  refine Qw.val (fun w1 hq => Ex.move rfl) rfl ?_
  refine Qw.know 60 (v' := .bool false) rfl (congrArg Value.bool (by simp)) ?_
  refine Qw.take (dj := 60) rfl rfl ?_
  refine Qw.val (fun w1 hq => Ex.move rfl) rfl ?_
  refine Qw.take (dj := 60) rfl rfl ?_
  refine Qw.val (fun w1 hq => Ex.move rfl) rfl ?_
  refine Qw.take (dj := 60) rfl rfl ?_
  refine Qw.val (fun w1 hq => Ex.neqi32 rfl rfl) rfl ?_
  refine Qw.val (fun w1 hq => Ex.pickF rfl rfl) rfl ?_
  refine Qw.val (fun w1 hq => Ex.move rfl) rfl ?_
  refine Qw.know 65 (v' := .bool false) rfl (congrArg Value.bool (by simp)) ?_
  refine Qw.take (dj := 65) rfl rfl ?_
  refine Qw.val (fun w1 hq => Ex.move rfl) rfl ?_
  refine Qw.take (dj := 65) rfl rfl ?_
  refine Qw.val (fun w1 hq => Ex.move rfl) rfl ?_
  refine Qw.take (dj := 65) rfl rfl ?_
  refine Qw.val (fun w1 hq => Ex.neq rfl rfl) rfl ?_
  refine Qw.val (fun w1 hq => Ex.pickF rfl rfl) rfl ?_
  refine Qw.val (fun w1 hq => Ex.move rfl) rfl ?_
  refine Qw.know 70 (v' := .bool false) rfl (congrArg Value.bool (by simp)) ?_
  refine Qw.take (dj := 70) rfl rfl ?_
  refine Qw.val (fun w1 hq => Ex.ldA (ag_25 _) (sz_25 _) rfl rfl (Blk.bs (by assumption) hq)) rfl ?_
  refine Qw.take (dj := 70) rfl rfl ?_
  refine Qw.val (fun w1 hq => Ex.ldA (ag_25 _) (sz_25 _) rfl rfl (Blk.bs (by assumption) hq)) rfl ?_
  refine Qw.take (dj := 70) rfl rfl ?_
  refine Qw.callF rfl rfl (fun w1 hq => (same_c tx ty ux uy a.s b.s a.l b.l w1 (h_t.held.at.1.bs hq) (h_t.held.at.2.bs hq) (h_u.held.at.1.bs hq) (h_u.held.at.2.bs hq)).q hq) ?_
  refine Qw.take (dj := 70) rfl rfl ?_
  refine Qw.val (fun w1 hq => Ex.ldA (ag_25 _) (sz_25 _) rfl rfl (Blk.bs (by assumption) hq)) rfl ?_
  refine Qw.take (dj := 70) rfl rfl ?_
  refine Qw.val (fun w1 hq => Ex.ldA (ag_25 _) (sz_25 _) rfl rfl (Blk.bs (by assumption) hq)) rfl ?_
  refine Qw.take (dj := 70) rfl rfl ?_
  refine Qw.callF rfl rfl (fun w1 hq => (rsameT_c a b w1 (h_a.bs hq) (h_b.bs hq)).q hq) ?_
  refine Qw.take (dj := 70) rfl rfl ?_
  refine Qw.val (fun w1 hq => Ex.neqB un_4 rfl rfl) rfl ?_
  refine Qw.val (fun w1 hq => Ex.pickF rfl rfl) rfl ?_
  refine Qw.val (fun w1 hq => Ex.move rfl) rfl ?_
  refine Qw.know 79 (v' := .bool false) rfl (congrArg Value.bool (by simp)) ?_
  refine Qw.take (dj := 79) rfl rfl ?_
  refine Qw.val (fun w1 hq => Ex.ldA (ag_25 _) (sz_25 _) rfl rfl (Blk.bs (by assumption) hq)) rfl ?_
  refine Qw.take (dj := 79) rfl rfl ?_
  refine Qw.val (fun w1 hq => Ex.ldA (ag_25 _) (sz_25 _) rfl rfl (Blk.bs (by assumption) hq)) rfl ?_
  refine Qw.take (dj := 79) rfl rfl ?_
  refine Qw.callF rfl rfl (fun w1 hq => (sameTensor_c x y w1 (h_x.at.bs hq) (h_y.at.bs hq)).q hq) ?_
  refine Qw.take (dj := 79) rfl rfl ?_
  refine Qw.val (fun w1 hq => Ex.not rfl) rfl ?_
  refine Qw.val (fun w1 hq => Ex.pickF rfl rfl) rfl ?_
  refine Qw.val (fun w1 hq => Ex.move rfl) rfl ?_
  refine Qw.know 85 (v' := .bool false) rfl (congrArg Value.bool (same_ans n_x y_x n_y y_y)) ?_
  refine Qw.take (dj := 85) rfl rfl ?_
  refine Qw.val (fun w1 hq => Ex.move rfl) rfl ?_
  refine Qw.take (dj := 85) rfl rfl ?_
  refine Qw.val (fun w1 hq => Ex.move rfl) rfl ?_
  refine Qw.take (dj := 85) rfl rfl ?_
  refine Qw.val (fun w1 hq => Ex.neq rfl rfl) rfl ?_
  refine Qw.val (fun w1 hq => Ex.pickF rfl rfl) rfl ?_
  refine Qw.val (fun w1 hq => Ex.move rfl) rfl ?_
  refine Qw.know 90 (v' := .bool false) rfl (congrArg Value.bool (by simp)) ?_
  refine Qw.take (dj := 90) rfl rfl ?_
  refine Qw.val (fun w1 hq => Ex.ldA (ag_25 _) (sz_25 _) rfl rfl (Blk.bs (by assumption) hq)) rfl ?_
  refine Qw.take (dj := 90) rfl rfl ?_
  refine Qw.val (fun w1 hq => Ex.ldA (ag_25 _) (sz_25 _) rfl rfl (Blk.bs (by assumption) hq)) rfl ?_
  refine Qw.take (dj := 90) rfl rfl ?_
  refine Qw.callF rfl rfl (fun w1 hq => (leftTensor_c a tx ty _ _ w1 (h_a.bs hq) (h_t.bs hq)).q hq) ?_
  refine Qw.take (dj := 90) rfl rfl ?_
  refine Qw.val (fun w1 hq => Ex.not rfl) rfl ?_
  refine Qw.val (fun w1 hq => Ex.pickF rfl rfl) rfl ?_
  refine Qw.val (fun w1 hq => Ex.move rfl) rfl ?_
  refine Qw.know 96 (v' := .bool false) rfl (congrArg Value.bool (rfl)) ?_
  refine Qw.take (dj := 96) rfl rfl ?_
  refine Qw.val (fun w1 hq => Ex.ldA (ag_25 _) (sz_25 _) rfl rfl (Blk.bs (by assumption) hq)) rfl ?_
  refine Qw.take (dj := 96) rfl rfl ?_
  refine Qw.val (fun w1 hq => Ex.ldA (ag_25 _) (sz_25 _) rfl rfl (Blk.bs (by assumption) hq)) rfl ?_
  refine Qw.take (dj := 96) rfl rfl ?_
  refine Qw.callF rfl rfl (fun w1 hq => (leftTensor_c b ux uy _ _ w1 (h_b.bs hq) (h_u.bs hq)).q hq) ?_
  refine Qw.take (dj := 96) rfl rfl ?_
  refine Qw.val (fun w1 hq => Ex.not rfl) rfl ?_
  refine Qw.val (fun w1 hq => Ex.pickF rfl rfl) rfl ?_
  refine Qw.nil (fun w hq => ?_)
  refine Pw.thenN (Cw.out ?_)
  refine Cw.condB rfl false (rfl) ?_
  refine Cw.skip ?_
  refine Pw.thenN (Cw.out ?_)
  refine Cw.seq ?_
  replace hB := hB.bs hq
  replace h_a := h_a.bs hq
  replace h_b := h_b.bs hq
  replace x_0 := x_0.bs hq
  replace b_a := b_a.bs hq
  replace b_b := b_b.bs hq
  replace h_t := h_t.bs hq
  replace b_t := b_t.bs hq
  replace h_u := h_u.bs hq
  replace b_u := b_u.bs hq
  replace hC := hC.bs hq
  replace h_x := h_x.bs hq
  replace b_x := b_x.bs hq
  replace K0 := K0.bs hq
  replace h_y := h_y.bs hq
  replace b_y := b_y.bs hq
  replace b_k := b_k.bs hq
  clear hq
  have zw := below_size hB
  have h_k := bk_new b_k
  have K := K0.keeps (n := 0) (Int.le_refl 0) (show (0 : Int) + 2 * ((3 : Nat) : Int) ≤ 1000000 by decide) (by
    intro c hc
    simp only [List.mem_cons, List.not_mem_nil, or_false] at hc
    rcases hc with rfl | rfl | rfl
    · exact ⟨by show a.s.length ≤ _; omega, by show a.l.length ≤ _; omega⟩
    · exact ⟨by show b.s.length ≤ _; omega, by show b.l.length ≤ _; omega⟩
    · exact few_ans n_x y_x (by omega) (fun _ => by have := Shapes.size_le a.s; simp; omega))
  have K : Keeps w W.heap.size A_k _ _ := ⟨K.ki, K.kn, fun b hb => by have := K.li b hb; omega, fun b hb => by have := K.ln b hb; omega, K.xin⟩
  have h_t := h_t.held
  have h_u := h_u.held
  have zAx := blk_lt b_x
  have zAu := blk_lt b_u
  refine Cw.region ?_
  refine Lw.val (Ex.ldA (ag_25 _) (sz_25 _) rfl rfl (by assumption)) rfl ?_
  refine Lw.callF rfl rfl (bookTensor_c w A_k A_k _ _ _ _ _ _ _ tx ty _ _ _ _ h_k h_t.rx.sl h_t.ry.sl (fun b e => by have := h_t.by' b e; omega) (by omega) (show 0 ≤ 700 by decide)) ?_
  rintro _ w ⟨rfl, hn, _, _, h_k⟩
  have hB := hB.trans (hn.mono (show W.heap.size ≤ A_k by omega))
  have K := K.below hn
  have h_u := h_u.below hn (by omega)
  have h_x := h_x.below hn (by omega)
  have b_u := b_u.keep (hn.block A_u (by omega))
  have b_x := b_x.keep (hn.block A_x (by omega))
  refine Lw.nil ?_
  refine Pw.thenN (Cw.out ?_)
  refine Cw.seq ?_
  refine Cw.region ?_
  refine Lw.val (Ex.ldA (ag_25 _) (sz_25 _) rfl rfl (by assumption)) rfl ?_
  refine Lw.callF rfl rfl (bookTensor_c w A_k A_k _ _ _ _ _ _ _ ux uy _ _ _ _ h_k h_u.rx.sl h_u.ry.sl (fun b e => by have := h_u.by' b e; omega) (by omega) (show 2 ≤ 700 by decide)) ?_
  rintro _ w ⟨rfl, hn, _, _, h_k⟩
  have hB := hB.trans (hn.mono (show W.heap.size ≤ A_k by omega))
  have K := K.below hn
  have h_x := h_x.below hn (by omega)
  have b_x := b_x.keep (hn.block A_x (by omega))
  refine Lw.nil ?_
  refine Pw.thenN (Cw.out ?_)
  refine Cw.seq ?_
  refine Cw.region ?_
  refine Lw.val (Ex.ldA (ag_25 _) (sz_25 _) rfl rfl (by assumption)) rfl ?_
  refine Lw.callF rfl rfl (bookTensor_c w A_k A_k _ _ _ _ _ _ _ x.x x.y _ _ _ _ h_k h_x.rx.sl h_x.ry.sl (fun b e => by have := h_x.by' b e; omega) (by omega) (show 4 ≤ 700 by decide)) ?_
  rintro _ w ⟨rfl, hn, _, _, h_k⟩
  have hB := hB.trans (hn.mono (show W.heap.size ≤ A_k by omega))
  have K := K.below hn
  refine Lw.nil ?_
  refine Pw.thenN (Cw.out ?_)
  refine Cw.seq ?_
  refine Cw.region ?_
  refine Lw.callF rfl rfl (apartT_c w A_k A_k W.heap.size _ _ _ _ _ _ h_k K (by omega)) ?_
  rintro _ w ⟨rfl, hn⟩
  refine Lw.val (Ex.assign rfl) rfl ?_
  refine Lw.nil ?_
  refine Pw.thenN (Cw.out ?_)
  refine Cw.ret ?_
  refine Pw.ret1 rfl rfl ?_
  exact ⟨rfl, hB.trans hn⟩

/-! A world for the witness: the settled one, the tables laid. -/
def laidCells : DataW Unit → Array Value
  | .agg l => (l.map fun d => match d with | .lit (.int k n) => Value.int k n | _ => Value.bool false).toArray
  | _ => #[]
noncomputable def laidWorld (os : Os) : World :=
  { World.holding Tryz.prog os ⟨#[], #[], []⟩ with heap := Rows.tensorsOfRow.laid.foldl (fun h x => h.modify ((Tryz.prog.globalNamed x.1).getD 0) fun | .cells _ t fz => .cells (laidCells x.2) t fz | o => o) (World.holding Tryz.prog os ⟨#[], #[], []⟩).heap }
theorem laid_met (os : Os) (args : Array Value) : laidMetH Tryz.prog Rows.tensorsOfRow.laid ((laidWorld os).forCall (fun _ _ => 0) ⟨#[], args, []⟩).memory :=
  laidMetH_of_parts (laidMet_of_run' 8 (by kernel_rfl) (by kernel_rfl)) (by kernel_rfl)

set_option maxRecDepth 100000 in
set_option maxHeartbeats 2000000 in
theorem tensorsOf_lifted (os : Os) (started : os.Started) (H : Type) (enc : TypeId × Value → H) :
    ReturnsInHanded {} Tryz.checked os 3 .any (fun w args => (Rows.tensorsOfSpec.pre enc Tryz.prog Tryz.f3 Rows.tensorsOfRow.domain false w args ∧ laidMetH Tryz.prog Rows.tensorsOfRow.laid w) ∧ sizedMet enc Tryz.prog Tryz.f3 (OpenSpec.ofChange Rows.tensorsOfSpec) false w args) (Rows.tensorsOfSpec.post enc Tryz.prog Tryz.f3 false true false false) := by
  refine returnsInHanded_of_change_and (C := Tryz.checked) (X := fun w _ => laidMetH Tryz.prog Rows.tensorsOfRow.laid w) (fun _ _ _ hh h => h.of_heap hh) own started (by kernel_rfl) Tryz.func3
    (ChangeSpec.witness_at (enc := enc) (C := Tryz.checked) (os := os) (X := fun w _ => laidMetH Tryz.prog Rows.tensorsOfRow.laid w) false (laidWorld os) #[.agg #[.slice none 0 0, .slice none 0 0], .agg #[.slice none 0 0, .slice none 0 0], .slice none 0 0] 8 rfl (by kernel_rfl) (by kernel_rfl) (by kernel_rfl) (by kernel_rfl) (by kernel_rfl) (laid_met os _)) ?_
  intro W base args ds gs before hval0 hW hcnd hsz0 _ _
  have hval : ∀ (j : Nat) t v, Tryz.f3.params[j]? = some t → args[j]? = some v → Value.okWide Tryz.prog W .any base t v := hval0
  have hW' := hW
  obtain ⟨p, q, hA0, hV, rfl, hfz, hnd⟩ := hW
  have hA : DataW.TrodAll enc Tryz.prog W 0 (fun _ => true) true Tryz.f3.params.toList args.toList ds p := hA0
  have hsz : (DataW.weightsEach Tryz.prog (Tryz.f3.params.toList ++ Rows.tensorsOfSpec.plain.varTypes Tryz.prog) (ds ++ gs)).all (· ≤ reachBytes) = true := hsz0
  rw [Tryz.params3] at hA hval hsz
  obtain ⟨v0, vs0, d0, ds0, p0, q0, hargs, rfl, rfl, h0, r0⟩ := trodAll_cons hA
  obtain ⟨v1, vs1, d1, ds1, p1, q1, rfl, rfl, rfl, h1, r1⟩ := trodAll_cons r0
  obtain ⟨v2, vs2, d2, ds2, p2, q2, rfl, rfl, rfl, h2, r2⟩ := trodAll_cons r1
  obtain ⟨rfl, rfl, rfl⟩ := trodAll_nil r2
  obtain rfl : args = #[v0, v1, v2] := by cases args; simp_all
  obtain ⟨rfl, rfl⟩ := trodVars_none hV
  have k0 := h0
  have lt0 : ∀ x ∈ p0, x.block < W.heap.size := by obtain ⟨m, hm⟩ := k0; exact DataW.trod_lt m _ _ _ hm
  have i0 := in_of (j := 0) (t := 25) hsz rfl rfl h0
  have o0 := hval 0 25 v0 rfl rfl
  have k1 := h1
  have lt1 : ∀ x ∈ p1, x.block < W.heap.size := by obtain ⟨m, hm⟩ := k1; exact DataW.trod_lt m _ _ _ hm
  have i1 := in_of (j := 1) (t := 25) hsz rfl rfl h1
  have o1 := hval 1 25 v1 rfl rfl
  have k2 := h2
  have lt2 : ∀ x ∈ p2, x.block < W.heap.size := by obtain ⟨m, hm⟩ := k2; exact DataW.trod_lt m _ _ _ hm
  have i2 := in_of (j := 2) (t := 22) hsz rfl rfl h2
  have o2 := hval 2 22 v2 rfl rfl
  clear hA0 hval0 hsz0 hsz
  obtain ⟨a, rfl, ha, ba1, ba2⟩ := arg_ten o0 i0
  obtain ⟨b, rfl, hb, bb1, bb2⟩ := arg_ten o1 i1
  obtain ⟨l0, h3, q3⟩ := arg_slT un_22 (by kernel_rfl) (fun cs h => (In.int un_3 h).imp fun _ h => h.1) o2 i2
  have kb : Tryz.prog.bytesOf 3 = 8 := by kernel_rfl
  rw [kb] at q3
  have hr : reachBytes ≤ 140737488355328 := by decide
  refine (law_calls (tensorsOf_w a b v2 l0 W ha hb h3 (by omega) (by omega) (by omega) (by omega) (by omega))).mono fun e W' ⟨he, bel⟩ => ?_
  subst he
  exact ⟨_, rfl, _, _, _, [], _, [], hW', trodAll_mk1 (shut_bool un_4 _), (trodAll_cons_mk (Below.trod laidOut (by kernel_rfl) (of_decide_eq_true (by kernel_rfl)) k0 bel lt0) (trodAll_cons_mk (Below.trod laidOut (by kernel_rfl) (of_decide_eq_true (by kernel_rfl)) k1 bel lt1) (trodAll_cons_mk (Below.trod laidOut (by kernel_rfl) (of_decide_eq_true (by kernel_rfl)) k2 bel lt2) trodAll_mk0))), rfl, bel.frame _, fun h => by cases h⟩

/-- The statement. -/
theorem tensorsOf_holds : Rows.TensorsOfSaid :=
  OpenClaim.holds_of_wide 3 Tryz.f3 rfl rfl rfl rfl rfl rfl rfl ⟨rfl, rfl, rfl, rfl, rfl⟩ rfl rfl rfl rfl rfl (by kernel_rfl) Tryz.func3 (by kernel_rfl)
    (of_decide_eq_true (by kernel_rfl)) (by unfold Func.isWrapper; first | (rw [if_pos (by decide +kernel)]; kernel_rfl) | (rw [if_neg (by decide +kernel)]; exact ⟨rfl, rfl⟩))
    (fun os started H enc _ => tensorsOf_lifted os started H enc)
/-- The card. -/
theorem tensorsOf_proved : Rows.TensorsOfCardSaid :=
  Claim7.holds_tied_plain_at .later [] [.data, .data, .data] true (true, "a79a60944991e0861b3d4b3dcc40c637d990ad043f35a96b5a92c2af1c69eab9") false
    tensorsOf_holds (fun _ h => by cases h) (by kernel_rfl) (fun _ h => by cases h) tensorsOf_row_tie rfl ⟨rfl, rfl⟩ (by kernel_rfl) rfl
    (fun f fn hf hfn => by
      obtain rfl : f = 3 := Option.some.inj ((show Tryz.prog.funcNamed "drydock/drydocklaw05.TensorsOf" = some 3 by kernel_rfl).symm.trans hf) |>.symm
      obtain rfl : fn = Tryz.f3 := (Option.some.inj (Tryz.func3.symm.trans hfn)).symm
      refine ⟨by kernel_rfl, fun j t ht => ?_⟩
      rw [Tryz.params3] at ht
      have h3 : t ∈ [25, 25, 22] := List.mem_of_getElem? (by simpa using ht)
      have h4 : ([25, 25, 22] : List TypeId).all (fun t => Tryz.prog.wantsStandIn t == false) = true := by kernel_rfl
      exact eq_of_beq (List.all_eq_true.1 h4 t h3))
    (by kernel_rfl)
#print axioms tensorsOf_proved
end Go.Proofs.YtjfghiepdnonjaaGreatDoor
