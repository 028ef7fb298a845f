/- What windows make as the document has it: for any two tensors, any step, any pad; no condition. -/
import Derived.Test.YtgjpjpdmkeifeaaGreatDoorRefWin
import Derived.Test.YtgjpjpdmkeifeaaGreatDoorWinSld
import Derived.Test.YtgjpjpdmkeifeaaGreatDoorBookMix
import Derived.Test.YtgjpjpdmkeifeaaGreatDoorBookArg
namespace Go.Proofs.YtgjpjpdmkeifeaaGreatDoor
open Go Go.Dd Go.RowKit Go.ChangeShapes Go.WideShapes Go.ChangeAt
set_option maxRecDepth 100000

theorem size_nat (s : List Int) : (Shapes.size s).toNat ≤ 4096 := by have := Shapes.size_le s; omega
theorem AnsW.gives {W w : World} {r : Value} {e : Int} {s : List Int} {l : List (BitVec 32)} (h : AnsW W w r e s l) : Gives W w r e s l := by
  obtain ⟨x, y, rfl, q1, q2⟩ := h
  by_cases he : e = 0
  · exact ⟨⟨x, y, s, l⟩, rfl, (q2 he).held, fun h => absurd he h, fun _ => ⟨rfl, rfl⟩⟩
  · obtain ⟨rfl, rfl⟩ := q1 he
    exact ⟨⟨_, _, [], []⟩, rfl, held_nil _ _ _, fun _ => ⟨rfl, rfl⟩, fun h => absurd h he⟩
theorem GotI.gives {W w : World} {r : Value} {e : Int} {l : List Int} (h : GotI W w r e l) : GivesI W w r e l := by
  obtain ⟨x, m, rfl, ho, q1, q2⟩ := h
  exact ⟨x, m, rfl, held_ints (.inl ho) (fun b e => (own_block ho b e).2), fun h => (q1 h).2, q2⟩
theorem of_g (a b : T4) (st p : Int) (W : World) (h_a : a.at W) (h_b : b.at W) : Fnc Tryz.prog 17 [a.v, b.v, .int .i64 st, .int .i64 p] W (fun r w' => Below W.heap.size W w' ∧ Gives W w' r (wofE a b st p) (wshS a.s b.s st p) (wofL a b st p)) :=
  (wof0_c a b st p W h_a h_b).mono fun _ _ ⟨h1, h2⟩ => ⟨h1, h2.gives⟩
theorem rof_g (a b : T4) (st p : Int) (W : World) (h_a : a.at W) (h_b : b.at W) : Fnc Tryz.prog 18 [a.v, b.v, .int .i64 st, .int .i64 p] W (fun r w' => Below W.heap.size W w' ∧ Gives W w' r (wofE a b st p) (wshS a.s b.s st p) (wofL a b st p)) :=
  (rof_c a b st p W h_a h_b).mono fun _ _ ⟨h1, h2⟩ => ⟨h1, h2.gives⟩
theorem shape_g (u v : Value) (t s : List Int) (st p : Int) (W : World) (h_u : SlT (Value.int .i64) W u t) (h_v : SlT (Value.int .i64) W v s) : Fnc Tryz.prog 19 [u, v, .int .i64 st, .int .i64 p] W (fun r w' => Below W.heap.size W w' ∧ GivesI W w' r (wshE t s st p) (wshS t s st p)) :=
  (wshape_c t s st p u v W h_u h_v).mono fun _ _ ⟨h1, h2⟩ => ⟨h1, h2.gives⟩
theorem rshape_g (u v : Value) (t s : List Int) (st p : Int) (W : World) (h_u : SlT (Value.int .i64) W u t) (h_v : SlT (Value.int .i64) W v s) : Fnc Tryz.prog 20 [u, v, .int .i64 st, .int .i64 p] W (fun r w' => Below W.heap.size W w' ∧ GivesI W w' r (wshE t s st p) (wshS t s st p)) :=
  (rwshape_c t s st p u v W h_u h_v).mono fun _ _ ⟨h1, h2⟩ => ⟨h1, h2.gives⟩
set_option maxHeartbeats 2000000 in
theorem windowsOf_w (z : Sld) (a b : T4) (hza : z.T = a) (hzb : z.W = b) (W : World) (h_a : a.at W) (h_b : b.at W) (f1 : few z.T) (f2 : few z.W) :
    Fnc Tryz.prog 4 [z.v] W (fun r w' => r = .bool true ∧ Below W.heap.size W w') := by
  have hB := Below.refl W.heap.size W
  have h_za : z.T.at W := hza ▸ h_a
  have h_zb : z.W.at W := hzb ▸ h_b
  refine Fnc.enter (n := 114) Tryz.func4 (by kernel_rfl) rfl rfl rfl ?_
  refine Cw.seq ?_
  refine Cw.region ?_
  refine Lw.boxV (cs := z.c) rfl rfl rfl ?_
  rintro A_z w eA_z b_z hn -
  replace hB := hB.bs hn
  replace h_a := h_a.bs hn
  replace h_b := h_b.bs hn
  replace h_za := h_za.bs hn
  replace h_zb := h_zb.bs hn
  clear hn
  refine Lw.val (Ex.assign rfl) rfl ?_
  refine Lw.nil ?_
  refine Pw.thenN (Cw.out ?_)
  refine Cw.seq ?_
  refine Cw.seq ?_
  refine Cw.region ?_
  refine Lw.val (Ex.ldA (ag_27 _) (sz_27 _) rfl rfl (by assumption)) rfl ?_
  refine Lw.callF rfl rfl (great_c z _ h_za h_zb f1 f2) ?_
  rintro _ w ⟨rfl, hn⟩
  replace hB := hB.bs hn
  replace h_a := h_a.bs hn
  replace h_b := h_b.bs hn
  replace h_za := h_za.bs hn
  replace h_zb := h_zb.bs hn
  replace b_z := b_z.bs hn
  clear hn
  refine Lw.nil ?_
  refine Pw.thenN (Cw.out ?_)
  refine Cw.cond rfl ?_ ?_
  · intro _
    refine Cw.seq ?_
    refine Cw.region ?_
    refine Lw.val (Ex.assign rfl) rfl ?_
    refine Lw.nil ?_
    refine Pw.thenN (Cw.out ?_)
    refine Cw.ret ?_
    refine Pw.thenR ?_
    refine Pw.ret1 rfl rfl ?_
    exact ⟨rfl, hB⟩
  intro g1
  obtain ⟨la, lla, lb, llb⟩ := gr_no g1 f1 f2
  obtain ⟨st, hst⟩ : ∃ s, s = z.step := ⟨_, rfl⟩
  obtain ⟨p, hp⟩ : ∃ s, s = z.pad := ⟨_, rfl⟩
  rw [show z.c = [a.x, a.y, b.x, b.y, .int .i64 st, .int .i64 p, .int .i64 z.wide] by rw [hst, hp, ← hza, ← hzb]] at b_z
  rw [hza] at la lla
  rw [hzb] at lb llb
  clear h_za h_zb hza hzb f1 f2 g1 hst hp
  have h_a1 := h_a.1
  have h_b1 := h_b.1
  have t0 := below_size hB
  refine Cw.skip ?_
  refine Pw.thenN (Cw.out ?_)
  refine Cw.seq ?_
  refine Cw.region ?_
  refine Lw.val (Ex.fieldAddr (q := 1) Tryz.underlying27 rfl (sz_25 _) rfl) rfl ?_
  refine Lw.val (Ex.ldAt (ds := [a.x, a.y]) (ag_25 _) (sz_25 _) rfl rfl (by assumption) rfl) rfl ?_
  refine Lw.callF rfl rfl (twin2_c a _ h_a (by omega) (by omega)) ?_
  rintro _ w ⟨hn, tx, ty, rfl, h_t⟩
  have zc_t := hn.size
  replace hB := hB.bs hn
  replace h_a := h_a.bs hn
  replace h_b := h_b.bs hn
  replace b_z := b_z.bs hn
  replace h_a1 := h_a1.bs hn
  replace h_b1 := h_b1.bs hn
  clear hn
  have o_t := h_t.held.at.one
  refine Lw.boxed (cs := [tx, ty]) it_25 rfl rfl rfl rfl (fun _ => rfl) (o_t) ?_
  rintro A_t w eA_t b_t hn zhn
  have zb_t := hn.size
  replace hB := hB.bs hn
  replace h_a := h_a.bs hn
  replace h_b := h_b.bs hn
  replace b_z := b_z.bs hn
  replace h_a1 := h_a1.bs hn
  replace h_b1 := h_b1.bs hn
  replace h_t := h_t.bs hn
  clear hn
  refine Lw.nil ?_
  refine Pw.thenN (Cw.out ?_)
  refine Cw.seq ?_
  refine Cw.region ?_
  refine Lw.val (Ex.fieldAddr (q := 1) Tryz.underlying27 rfl (sz_25 _) rfl) rfl ?_
  refine Lw.val (Ex.ldAt (ds := [b.x, b.y]) (ag_25 _) (sz_25 _) rfl rfl (by assumption) rfl) rfl ?_
  refine Lw.callF rfl rfl (twin2_c b _ h_b (by omega) (by omega)) ?_
  rintro _ w ⟨hn, ux, uy, rfl, h_u⟩
  have zc_u := hn.size
  replace hB := hB.bs hn
  replace h_a := h_a.bs hn
  replace h_b := h_b.bs hn
  replace b_z := b_z.bs hn
  replace h_a1 := h_a1.bs hn
  replace h_b1 := h_b1.bs hn
  replace h_t := h_t.bs hn
  replace b_t := b_t.bs hn
  clear hn
  have o_u := h_u.held.at.one
  refine Lw.boxed (cs := [ux, uy]) it_25 rfl rfl rfl rfl (fun _ => rfl) (o_u) ?_
  rintro A_u w eA_u b_u hn zhn
  have zb_u := hn.size
  replace hB := hB.bs hn
  replace h_a := h_a.bs hn
  replace h_b := h_b.bs hn
  replace b_z := b_z.bs hn
  replace h_a1 := h_a1.bs hn
  replace h_b1 := h_b1.bs hn
  replace h_t := h_t.bs hn
  replace b_t := b_t.bs hn
  replace h_u := h_u.bs hn
  clear hn
  refine Lw.nil ?_
  refine Pw.thenN (Cw.out ?_)
  refine Cw.seq ?_
  refine Cw.region ?_
  refine Lw.val (Ex.ldA (ag_25 _) (sz_25 _) rfl rfl (by assumption)) rfl ?_
  refine Lw.val (Ex.ldA (ag_25 _) (sz_25 _) rfl rfl (by assumption)) rfl ?_
  refine Lw.val (Ex.fieldAddr (q := 0) Tryz.underlying27 rfl (sz_3 _) rfl) rfl ?_
  refine Lw.val (Ex.ldB (ag_3 _) rfl (by assumption) rfl) rfl ?_
  refine Lw.val (Ex.fieldAddr (q := 0) Tryz.underlying27 rfl (sz_3 _) rfl) rfl ?_
  refine Lw.val (Ex.ldB (ag_3 _) rfl (by assumption) rfl) rfl ?_
  refine Lw.callF rfl rfl (of_g ⟨tx, ty, a.s, a.l⟩ ⟨ux, uy, b.s, b.l⟩ st p _ h_t.held.at h_u.held.at) ?_
  rintro _ w ⟨hn, x, rfl, h_x, n_x, y_x⟩
  have zc_x := hn.size
  replace hB := hB.bs hn
  replace h_a := h_a.bs hn
  replace h_b := h_b.bs hn
  replace b_z := b_z.bs hn
  replace h_a1 := h_a1.bs hn
  replace h_b1 := h_b1.bs hn
  replace h_t := h_t.bs hn
  replace b_t := b_t.bs hn
  replace h_u := h_u.bs hn
  replace b_u := b_u.bs hn
  clear hn
  refine Lw.val (Ex.move rfl) rfl ?_
  refine Lw.val (Ex.extract (i := 0) rfl rfl) rfl ?_
  refine Lw.val (Ex.extract (i := 1) rfl rfl) rfl ?_
  have o_x := h_x.at.one
  refine Lw.boxed (cs := [x.x, x.y]) it_25 rfl rfl rfl rfl (fun _ => rfl) (o_x) ?_
  rintro A_x w eA_x b_x hn zhn
  have zb_x := hn.size
  replace hB := hB.bs hn
  replace h_a := h_a.bs hn
  replace h_b := h_b.bs hn
  replace b_z := b_z.bs hn
  replace h_a1 := h_a1.bs hn
  replace h_b1 := h_b1.bs hn
  replace h_t := h_t.bs hn
  replace b_t := b_t.bs hn
  replace h_u := h_u.bs hn
  replace b_u := b_u.bs hn
  replace h_x := h_x.bs hn
  clear hn
  refine Lw.val (Ex.assign rfl) rfl ?_
  refine Lw.nil ?_
  refine Pw.thenN (Cw.out ?_)
  refine Cw.seq ?_
  refine Cw.region ?_
  refine Lw.val (Ex.fieldAddr (q := 1) Tryz.underlying27 rfl (sz_25 _) rfl) rfl ?_
  refine Lw.val (Ex.ldAt (ds := [a.x, a.y]) (ag_25 _) (sz_25 _) rfl rfl (by assumption) rfl) rfl ?_
  refine Lw.val (Ex.fieldAddr (q := 1) Tryz.underlying27 rfl (sz_25 _) rfl) rfl ?_
  refine Lw.val (Ex.ldAt (ds := [b.x, b.y]) (ag_25 _) (sz_25 _) rfl rfl (by assumption) rfl) rfl ?_
  refine Lw.val (Ex.fieldAddr (q := 0) Tryz.underlying27 rfl (sz_3 _) rfl) rfl ?_
  refine Lw.val (Ex.ldB (ag_3 _) rfl (by assumption) rfl) rfl ?_
  refine Lw.val (Ex.fieldAddr (q := 0) Tryz.underlying27 rfl (sz_3 _) rfl) rfl ?_
  refine Lw.val (Ex.ldB (ag_3 _) rfl (by assumption) rfl) rfl ?_
  refine Lw.callF rfl rfl (rof_g a b st p _ h_a h_b) ?_
  rintro _ w ⟨hn, y, rfl, h_y, n_y, y_y⟩
  have zc_y := hn.size
  replace hB := hB.bs hn
  replace h_a := h_a.bs hn
  replace h_b := h_b.bs hn
  replace b_z := b_z.bs hn
  replace h_a1 := h_a1.bs hn
  replace h_b1 := h_b1.bs hn
  replace h_t := h_t.bs hn
  replace b_t := b_t.bs hn
  replace h_u := h_u.bs hn
  replace b_u := b_u.bs hn
  replace h_x := h_x.bs hn
  replace b_x := b_x.bs hn
  clear hn
  refine Lw.val (Ex.move rfl) rfl ?_
  refine Lw.val (Ex.extract (i := 0) rfl rfl) rfl ?_
  refine Lw.val (Ex.extract (i := 1) rfl rfl) rfl ?_
  have o_y := h_y.at.one
  refine Lw.boxed (cs := [y.x, y.y]) it_25 rfl rfl rfl rfl (fun _ => rfl) (o_y) ?_
  rintro A_y w eA_y b_y hn zhn
  have zb_y := hn.size
  replace hB := hB.bs hn
  replace h_a := h_a.bs hn
  replace h_b := h_b.bs hn
  replace b_z := b_z.bs hn
  replace h_a1 := h_a1.bs hn
  replace h_b1 := h_b1.bs hn
  replace h_t := h_t.bs hn
  replace b_t := b_t.bs hn
  replace h_u := h_u.bs hn
  replace b_u := b_u.bs hn
  replace h_x := h_x.bs hn
  replace b_x := b_x.bs hn
  replace h_y := h_y.bs hn
  clear hn
  refine Lw.val (Ex.assign rfl) rfl ?_
  refine Lw.nil ?_
  refine Pw.thenN (Cw.out ?_)
  refine Cw.seq ?_
  refine Cw.region ?_
  refine Lw.val (Ex.fieldAddr (q := 0) Tryz.underlying25 rfl (sz_22 _) rfl) rfl ?_
  refine Lw.val (Ex.ldB (ag_22 _) rfl (by assumption) rfl) rfl ?_
  refine Lw.val (Ex.fieldAddr (q := 0) Tryz.underlying25 rfl (sz_22 _) rfl) rfl ?_
  refine Lw.val (Ex.ldB (ag_22 _) rfl (by assumption) rfl) rfl ?_
  refine Lw.val (Ex.fieldAddr (q := 0) Tryz.underlying27 rfl (sz_3 _) rfl) rfl ?_
  refine Lw.val (Ex.ldB (ag_3 _) rfl (by assumption) rfl) rfl ?_
  refine Lw.val (Ex.fieldAddr (q := 0) Tryz.underlying27 rfl (sz_3 _) rfl) rfl ?_
  refine Lw.val (Ex.ldB (ag_3 _) rfl (by assumption) rfl) rfl ?_
  refine Lw.callF rfl rfl (shape_g tx ux a.s b.s st p _ h_t.held.at.1 h_u.held.at.1) ?_
  rintro _ w ⟨hn, z, lz, rfl, h_z, n_z, y_z⟩
  have zc_z := hn.size
  replace hB := hB.bs hn
  replace h_a := h_a.bs hn
  replace h_b := h_b.bs hn
  replace b_z := b_z.bs hn
  replace h_a1 := h_a1.bs hn
  replace h_b1 := h_b1.bs hn
  replace h_t := h_t.bs hn
  replace b_t := b_t.bs hn
  replace h_u := h_u.bs hn
  replace b_u := b_u.bs hn
  replace h_x := h_x.bs hn
  replace b_x := b_x.bs hn
  replace h_y := h_y.bs hn
  replace b_y := b_y.bs hn
  clear hn
  refine Lw.val (Ex.move rfl) rfl ?_
  refine Lw.val (Ex.extract (i := 0) rfl rfl) rfl ?_
  refine Lw.val (Ex.extract (i := 1) rfl rfl) rfl ?_
  refine Lw.val (Ex.assign rfl) rfl ?_
  refine Lw.val (Ex.assign rfl) rfl ?_
  refine Lw.nil ?_
  refine Pw.thenN (Cw.out ?_)
  refine Cw.seq ?_
  refine Cw.region ?_
  refine Lw.val (Ex.fieldAddr (q := 1) Tryz.underlying27 rfl (sz_25 _) rfl) rfl ?_
  refine Lw.val (Ex.fieldAddr (q := 0) Tryz.underlying25 rfl (sz_22 _) rfl) rfl ?_
  refine Lw.val (Ex.ldB (ag_22 _) rfl (by assumption) rfl) rfl ?_
  refine Lw.val (Ex.fieldAddr (q := 1) Tryz.underlying27 rfl (sz_25 _) rfl) rfl ?_
  refine Lw.val (Ex.fieldAddr (q := 0) Tryz.underlying25 rfl (sz_22 _) rfl) rfl ?_
  refine Lw.val (Ex.ldB (ag_22 _) rfl (by assumption) rfl) rfl ?_
  refine Lw.val (Ex.fieldAddr (q := 0) Tryz.underlying27 rfl (sz_3 _) rfl) rfl ?_
  refine Lw.val (Ex.ldB (ag_3 _) rfl (by assumption) rfl) rfl ?_
  refine Lw.val (Ex.fieldAddr (q := 0) Tryz.underlying27 rfl (sz_3 _) rfl) rfl ?_
  refine Lw.val (Ex.ldB (ag_3 _) rfl (by assumption) rfl) rfl ?_
  have hC := Below.refl w.heap.size w
  refine Lw.callF rfl rfl (rshape_g a.x b.x a.s b.s st p _ h_a.1 h_b.1) ?_
  rintro _ w ⟨hn, v, lv, rfl, h_v, n_v, y_v⟩
  have zc_v := hn.size
  replace hB := hB.bs hn
  replace h_a := h_a.bs hn
  replace h_b := h_b.bs hn
  replace b_z := b_z.bs hn
  replace h_a1 := h_a1.bs hn
  replace h_b1 := h_b1.bs hn
  replace h_t := h_t.bs hn
  replace b_t := b_t.bs hn
  replace h_u := h_u.bs hn
  replace b_u := b_u.bs hn
  replace h_x := h_x.bs hn
  replace b_x := b_x.bs hn
  replace h_y := h_y.bs hn
  replace b_y := b_y.bs hn
  replace h_z := h_z.bs hn
  replace hC := hC.bs hn
  clear hn
  refine Lw.val (Ex.move rfl) rfl ?_
  refine Lw.val (Ex.extract (i := 0) rfl rfl) rfl ?_
  refine Lw.val (Ex.extract (i := 1) rfl rfl) rfl ?_
  refine Lw.val (Ex.assign rfl) rfl ?_
  refine Lw.val (Ex.assign rfl) rfl ?_
  refine Lw.nil ?_
  refine Pw.thenN (Cw.out ?_)
  refine Cw.seq ?_
  refine Cw.seq ?_
  refine Cw.region ?_
  refine Lw.val (Ex.ldA (ag_25 _) (sz_25 _) rfl rfl (by assumption)) rfl ?_
  refine Lw.val (Ex.ldA (ag_25 _) (sz_25 _) rfl rfl (by assumption)) rfl ?_
  refine Lw.callF rfl rfl (sameTensor_c x y _ h_x.at h_y.at) ?_
  rintro _ w ⟨rfl, hn⟩
  replace hB := hB.bs hn
  replace h_a := h_a.bs hn
  replace h_b := h_b.bs hn
  replace b_z := b_z.bs hn
  replace h_a1 := h_a1.bs hn
  replace h_b1 := h_b1.bs hn
  replace h_t := h_t.bs hn
  replace b_t := b_t.bs hn
  replace h_u := h_u.bs hn
  replace b_u := b_u.bs hn
  replace h_x := h_x.bs hn
  replace b_x := b_x.bs hn
  replace h_y := h_y.bs hn
  replace b_y := b_y.bs hn
  replace h_z := h_z.bs hn
  replace hC := hC.bs hn
  replace h_v := h_v.bs hn
  clear hn
  refine Lw.val (Ex.not rfl) rfl ?_
  refine Lw.val (Ex.move rfl) rfl ?_
  refine Lw.know 74 (v' := .bool false) rfl (congrArg Value.bool (same_ans n_x y_x n_y y_y)) ?_
  refine Lw.take (dj := 74) rfl rfl ?_
  refine Lw.val (Ex.move rfl) rfl ?_
  refine Lw.take (dj := 74) rfl rfl ?_
  refine Lw.val (Ex.move rfl) rfl ?_
  refine Lw.take (dj := 74) rfl rfl ?_
  refine Lw.val (Ex.neq rfl rfl) rfl ?_
  refine Lw.val (Ex.pickF rfl rfl) rfl ?_
  refine Lw.val (Ex.move rfl) rfl ?_
  refine Lw.know 79 (v' := .bool false) rfl (congrArg Value.bool (by simp; rfl)) ?_
  refine Lw.take (dj := 79) rfl rfl ?_
  refine Lw.val (Ex.move rfl) rfl ?_
  refine Lw.take (dj := 79) rfl rfl ?_
  refine Lw.val (Ex.move rfl) rfl ?_
  refine Lw.take (dj := 79) rfl rfl ?_
  refine Lw.callF rfl rfl (sameInts_c z v lz lv _ h_z.at.1 h_v.at.1) ?_
  rintro _ w ⟨rfl, hn⟩
  replace hB := hB.bs hn
  replace h_a := h_a.bs hn
  replace h_b := h_b.bs hn
  replace b_z := b_z.bs hn
  replace h_a1 := h_a1.bs hn
  replace h_b1 := h_b1.bs hn
  replace h_t := h_t.bs hn
  replace b_t := b_t.bs hn
  replace h_u := h_u.bs hn
  replace b_u := b_u.bs hn
  replace h_x := h_x.bs hn
  replace b_x := b_x.bs hn
  replace h_y := h_y.bs hn
  replace b_y := b_y.bs hn
  replace h_z := h_z.bs hn
  replace hC := hC.bs hn
  replace h_v := h_v.bs hn
  clear hn
  refine Lw.take (dj := 79) rfl rfl ?_
  refine Lw.val (Ex.not rfl) rfl ?_
  refine Lw.val (Ex.pickF rfl rfl) rfl ?_
  refine Lw.val (Ex.move rfl) rfl ?_
  refine Lw.know 85 (v' := .bool false) rfl (congrArg Value.bool (same_int n_z y_z n_v y_v)) ?_
  refine Lw.take (dj := 85) rfl rfl ?_
  refine Lw.val (Ex.move rfl) rfl ?_
  refine Lw.take (dj := 85) rfl rfl ?_
  refine Lw.val (Ex.move rfl) rfl ?_
  refine Lw.take (dj := 85) rfl rfl ?_
  refine Lw.val (Ex.neq rfl rfl) rfl ?_
  refine Lw.val (Ex.pickF rfl rfl) rfl ?_
  refine Lw.val (Ex.move rfl) rfl ?_
  refine Lw.know 90 (v' := .bool false) rfl (congrArg Value.bool (by simp)) ?_
  refine Lw.take (dj := 90) rfl rfl ?_
  refine Lw.val (Ex.ldA (ag_25 _) (sz_25 _) rfl rfl (by assumption)) rfl ?_
  refine Lw.take (dj := 90) rfl rfl ?_
  refine Lw.val (Ex.fieldAddr (q := 1) Tryz.underlying27 rfl (sz_25 _) rfl) rfl ?_
  refine Lw.take (dj := 90) rfl rfl ?_
  refine Lw.val (Ex.ldAt (ds := [a.x, a.y]) (ag_25 _) (sz_25 _) rfl rfl (by assumption) rfl) rfl ?_
  refine Lw.take (dj := 90) rfl rfl ?_
  refine Lw.callF rfl rfl (leftTensor_c a tx ty _ _ _ h_a h_t) ?_
  rintro _ w ⟨rfl, hn⟩
  replace hB := hB.bs hn
  replace h_a := h_a.bs hn
  replace h_b := h_b.bs hn
  replace b_z := b_z.bs hn
  replace h_a1 := h_a1.bs hn
  replace h_b1 := h_b1.bs hn
  replace h_t := h_t.bs hn
  replace b_t := b_t.bs hn
  replace h_u := h_u.bs hn
  replace b_u := b_u.bs hn
  replace h_x := h_x.bs hn
  replace b_x := b_x.bs hn
  replace h_y := h_y.bs hn
  replace b_y := b_y.bs hn
  replace h_z := h_z.bs hn
  replace hC := hC.bs hn
  replace h_v := h_v.bs hn
  clear hn
  refine Lw.take (dj := 90) rfl rfl ?_
  refine Lw.val (Ex.not rfl) rfl ?_
  refine Lw.val (Ex.pickF rfl rfl) rfl ?_
  refine Lw.val (Ex.move rfl) rfl ?_
  refine Lw.know 97 (v' := .bool false) rfl (congrArg Value.bool (rfl)) ?_
  refine Lw.take (dj := 97) rfl rfl ?_
  refine Lw.val (Ex.ldA (ag_25 _) (sz_25 _) rfl rfl (by assumption)) rfl ?_
  refine Lw.take (dj := 97) rfl rfl ?_
  refine Lw.val (Ex.fieldAddr (q := 1) Tryz.underlying27 rfl (sz_25 _) rfl) rfl ?_
  refine Lw.take (dj := 97) rfl rfl ?_
  refine Lw.val (Ex.ldAt (ds := [b.x, b.y]) (ag_25 _) (sz_25 _) rfl rfl (by assumption) rfl) rfl ?_
  refine Lw.take (dj := 97) rfl rfl ?_
  refine Lw.callF rfl rfl (leftTensor_c b ux uy _ _ _ h_b h_u) ?_
  rintro _ w ⟨rfl, hn⟩
  replace hB := hB.bs hn
  replace h_a := h_a.bs hn
  replace h_b := h_b.bs hn
  replace b_z := b_z.bs hn
  replace h_a1 := h_a1.bs hn
  replace h_b1 := h_b1.bs hn
  replace h_t := h_t.bs hn
  replace b_t := b_t.bs hn
  replace h_u := h_u.bs hn
  replace b_u := b_u.bs hn
  replace h_x := h_x.bs hn
  replace b_x := b_x.bs hn
  replace h_y := h_y.bs hn
  replace b_y := b_y.bs hn
  replace h_z := h_z.bs hn
  replace hC := hC.bs hn
  replace h_v := h_v.bs hn
  clear hn
  refine Lw.take (dj := 97) rfl rfl ?_
  refine Lw.val (Ex.not rfl) rfl ?_
  refine Lw.val (Ex.pickF rfl rfl) rfl ?_
  refine Lw.nil ?_
  refine Pw.thenN (Cw.out ?_)
  refine Cw.condB rfl false (rfl) ?_
  refine Cw.skip ?_
  refine Pw.thenN (Cw.out ?_)
  refine Cw.seq ?_
  refine Cw.region ?_
  refine Lw.val (Ex.build (vs := []) (cs := [.int .i64 0, .slice none 0 0, .slice none 0 0, .slice none 0 0, .slice none 0 0, .slice none 0 0, .slice none 0 0, .slice none 0 0, .slice none 0 0, .slice none 0 0, .slice none 0 0, .slice none 0 0, .slice none 0 0, .slice none 0 0, .slice none 0 0, .slice none 0 0]) rfl (by kernel_rfl)) rfl ?_
  have zx := blk_lt b_x
  have zC := below_size hC
  have h_t := h_t.held
  have h_u := h_u.held
  have K0 : Heldall w W.heap.size w.heap.size [⟨tx, ty, a.s, a.l⟩, ⟨ux, uy, b.s, b.l⟩, x, li z lz] :=
    ⟨_, _, by omega, zc_t, h_t, _, _, by omega, zc_u, h_u, _, _, by omega, zc_x, h_x, _, _, by omega, zc_z, h_z, (by show _ ≤ _; omega)⟩
  refine Lw.boxed (cs := .int .i64 0 :: List.replicate 15 (.slice none 0 0)) it_53 rfl rfl rfl rfl (fun _ => rfl) (rfl) ?_
  rintro A_k w eA_k b_k hn zhn
  have zk := hn.size
  replace hB := hB.bs hn
  replace h_a := h_a.bs hn
  replace h_b := h_b.bs hn
  replace b_z := b_z.bs hn
  replace h_a1 := h_a1.bs hn
  replace h_b1 := h_b1.bs hn
  replace h_t := h_t.bs hn
  replace b_t := b_t.bs hn
  replace h_u := h_u.bs hn
  replace b_u := b_u.bs hn
  replace h_x := h_x.bs hn
  replace b_x := b_x.bs hn
  replace h_y := h_y.bs hn
  replace b_y := b_y.bs hn
  replace h_z := h_z.bs hn
  replace hC := hC.bs hn
  replace h_v := h_v.bs hn
  replace K0 := K0.bs hn
  clear hn
  have h_k := bk_new b_k
  have zw := below_size hB
  have perm : [⟨tx, ty, a.s, a.l⟩, ⟨ux, uy, b.s, b.l⟩, x, li z lz].Perm ([(⟨tx, ty, a.s, a.l⟩, true), (⟨ux, uy, b.s, b.l⟩, true), (x, true), (li z lz, false)].map (·.1) : List T4) := List.Perm.refl _
  have K := mix_keeps (n := 0) (fun c hc => K0.each c (perm.mem_iff.2 hc)) (K0.dis.perm perm fun h => h.symm) (Int.le_refl 0) (show (0 : Int) + 2 * ((4 : Nat) : Int) ≤ 1000000 by decide) (by
    dsimp only at n_x y_x
    intro c hc
    simp only [List.map_cons, List.map_nil, List.mem_cons, List.not_mem_nil, or_false] at hc
    rcases hc with rfl | rfl | rfl | rfl
    · exact ⟨by show a.s.length ≤ _; omega, by show a.l.length ≤ _; omega⟩
    · exact ⟨by show b.s.length ≤ _; omega, by show b.l.length ≤ _; omega⟩
    · exact few_ans n_x y_x (by show 3 ≤ _; decide) (fun _ => by rw [wofL_len]; exact Nat.le_trans (size_nat _) (by decide))
    · refine ⟨?_, by simp⟩
      show lz.length ≤ _
      by_cases h : wshE a.s b.s st p = 0
      · rw [y_z h]; show 3 ≤ _; decide
      · rw [n_z h]; simp)
  rw [← eA_k] at K
  clear K0 perm b_k
  refine Lw.nil ?_
  refine Pw.thenN (Cw.out ?_)
  refine Cw.seq ?_
  refine Cw.region ?_
  refine Lw.val (Ex.ldA (ag_25 _) (sz_25 _) rfl rfl (by assumption)) rfl ?_
  refine Lw.callF rfl rfl (bookTensor_c w A_k A_k _ _ _ _ _ _ _ tx ty _ _ _ _ h_k h_t.rx.sl h_t.ry.sl (fun b e => by have := h_t.by' b e; omega) (by omega) (show 0 ≤ 700 by decide)) ?_
  rintro _ w ⟨rfl, hn, _, _, h_k⟩
  have hB := hB.trans (hn.mono (show W.heap.size ≤ A_k by omega))
  have K := K.below hn
  have h_u := h_u.below hn (by omega)
  have h_x := h_x.below hn (by omega)
  have h_z := h_z.below hn (by omega)
  have b_u := b_u.keep (hn.block A_u (by omega))
  have b_x := b_x.keep (hn.block A_x (by omega))
  refine Lw.nil ?_
  refine Pw.thenN (Cw.out ?_)
  refine Cw.seq ?_
  refine Cw.region ?_
  refine Lw.val (Ex.ldA (ag_25 _) (sz_25 _) rfl rfl (by assumption)) rfl ?_
  refine Lw.callF rfl rfl (bookTensor_c w A_k A_k _ _ _ _ _ _ _ ux uy _ _ _ _ h_k h_u.rx.sl h_u.ry.sl (fun b e => by have := h_u.by' b e; omega) (by omega) (show 2 ≤ 700 by decide)) ?_
  rintro _ w ⟨rfl, hn, _, _, h_k⟩
  have hB := hB.trans (hn.mono (show W.heap.size ≤ A_k by omega))
  have K := K.below hn
  have h_x := h_x.below hn (by omega)
  have h_z := h_z.below hn (by omega)
  have b_x := b_x.keep (hn.block A_x (by omega))
  refine Lw.nil ?_
  refine Pw.thenN (Cw.out ?_)
  refine Cw.seq ?_
  refine Cw.region ?_
  refine Lw.val (Ex.ldA (ag_25 _) (sz_25 _) rfl rfl (by assumption)) rfl ?_
  refine Lw.callF rfl rfl (bookTensor_c w A_k A_k _ _ _ _ _ _ _ x.x x.y _ _ _ _ h_k h_x.rx.sl h_x.ry.sl (fun b e => by have := h_x.by' b e; omega) (by omega) (show 4 ≤ 700 by decide)) ?_
  rintro _ w ⟨rfl, hn, _, _, h_k⟩
  have hB := hB.trans (hn.mono (show W.heap.size ≤ A_k by omega))
  have K := K.below hn
  have h_z := h_z.below hn (by omega)
  refine Lw.nil ?_
  refine Pw.thenN (Cw.out ?_)
  refine Cw.seq ?_
  refine Cw.region ?_
  refine Lw.val (Ex.move rfl) rfl ?_
  refine Lw.callF rfl rfl (bookInts2_c w A_k A_k _ _ _ _ _ _ _ z _ _ h_k h_z.rx.sl (by omega) (show 6 ≤ 800 by decide)) ?_
  rintro _ w ⟨rfl, hn, _, h_k⟩
  have hB := hB.trans (hn.mono (show W.heap.size ≤ A_k by omega))
  have K := K.below hn
  refine Lw.nil ?_
  refine Pw.thenN (Cw.out ?_)
  refine Cw.seq ?_
  refine Cw.region ?_
  refine Lw.callF rfl rfl (apartT_c w A_k A_k W.heap.size _ _ _ _ _ _ h_k K (by omega)) ?_
  rintro _ w ⟨rfl, hn⟩
  refine Lw.val (Ex.assign rfl) rfl ?_
  refine Lw.nil ?_
  refine Pw.thenN (Cw.out ?_)
  refine Cw.ret ?_
  refine Pw.ret1 rfl rfl ?_
  exact ⟨rfl, hB.trans hn⟩

/-! A world for the witness: the settled one, the tables laid. -/
def laidCells : DataW Unit → Array Value
  | .agg l => (l.map fun d => match d with | .lit (.int k n) => Value.int k n | _ => Value.bool false).toArray
  | _ => #[]
noncomputable def laidWorld (os : Os) : World :=
  { World.holding Tryz.prog os ⟨#[], #[], []⟩ with heap := Rows.windowsOfRow.laid.foldl (fun h x => h.modify ((Tryz.prog.globalNamed x.1).getD 0) fun | .cells _ t fz => .cells (laidCells x.2) t fz | o => o) (World.holding Tryz.prog os ⟨#[], #[], []⟩).heap }
theorem laid_met (os : Os) (args : Array Value) : laidMetH Tryz.prog Rows.windowsOfRow.laid ((laidWorld os).forCall (fun _ _ => 0) ⟨#[], args, []⟩).memory :=
  laidMetH_of_parts (laidMet_of_run' 8 (by kernel_rfl) (by kernel_rfl)) (by kernel_rfl)

set_option maxRecDepth 100000 in
set_option maxHeartbeats 2000000 in
theorem windowsOf_lifted (os : Os) (started : os.Started) (H : Type) (enc : TypeId × Value → H) :
    ReturnsInHanded {} Tryz.checked os 4 .any (fun w args => (Rows.windowsOfSpec.pre enc Tryz.prog Tryz.f4 Rows.windowsOfRow.domain false w args ∧ laidMetH Tryz.prog Rows.windowsOfRow.laid w) ∧ sizedMet enc Tryz.prog Tryz.f4 (OpenSpec.ofChange Rows.windowsOfSpec) false w args) (Rows.windowsOfSpec.post enc Tryz.prog Tryz.f4 false true false false) := by
  refine returnsInHanded_of_change_and (C := Tryz.checked) (X := fun w _ => laidMetH Tryz.prog Rows.windowsOfRow.laid w) (fun _ _ _ hh h => h.of_heap hh) own started (by kernel_rfl) Tryz.func4
    (ChangeSpec.witness_at (enc := enc) (C := Tryz.checked) (os := os) (X := fun w _ => laidMetH Tryz.prog Rows.windowsOfRow.laid w) false (laidWorld os) #[.agg #[.slice none 0 0, .slice none 0 0, .slice none 0 0, .slice none 0 0, .int .i64 0, .int .i64 0, .int .i64 0]] 8 rfl (by kernel_rfl) (by kernel_rfl) (by kernel_rfl) (by kernel_rfl) (by kernel_rfl) (laid_met os _)) ?_
  intro W base args ds gs before hval0 hW hcnd hsz0 _ _
  have hval : ∀ (j : Nat) t v, Tryz.f4.params[j]? = some t → args[j]? = some v → Value.okWide Tryz.prog W .any base t v := hval0
  have hW' := hW
  obtain ⟨p, q, hA0, hV, rfl, hfz, hnd⟩ := hW
  have hA : DataW.TrodAll enc Tryz.prog W 0 (fun _ => true) true Tryz.f4.params.toList args.toList ds p := hA0
  have hsz : (DataW.weightsEach Tryz.prog (Tryz.f4.params.toList ++ Rows.windowsOfSpec.plain.varTypes Tryz.prog) (ds ++ gs)).all (· ≤ reachBytes) = true := hsz0
  rw [Tryz.params4] at hA hval hsz
  obtain ⟨v0, vs0, d0, ds0, p0, q0, hargs, rfl, rfl, h0, r0⟩ := trodAll_cons hA
  obtain ⟨rfl, rfl, rfl⟩ := trodAll_nil r0
  obtain rfl : args = #[v0] := by cases args; simp_all
  obtain ⟨rfl, rfl⟩ := trodVars_none hV
  have k0 := h0
  have lt0 : ∀ x ∈ p0, x.block < W.heap.size := by obtain ⟨m, hm⟩ := k0; exact DataW.trod_lt m _ _ _ hm
  have i0 := in_of (j := 0) (t := 27) hsz rfl rfl h0
  have o0 := hval 0 27 v0 rfl rfl
  clear hA0 hval0 hsz0 hsz
  obtain ⟨z, rfl, u1, u2, f1, f2⟩ := arg_sld o0 i0
  refine (law_calls (windowsOf_w z z.T z.W rfl rfl W u1 u2 f1 f2)).mono fun e W' ⟨he, bel⟩ => ?_
  subst he
  exact ⟨_, rfl, _, _, _, [], _, [], hW', trodAll_mk1 (shut_bool un_4 _), (trodAll_cons_mk (Below.trod laidOut (by kernel_rfl) (of_decide_eq_true (by kernel_rfl)) k0 bel lt0) trodAll_mk0), rfl, bel.frame _, fun h => by cases h⟩

/-- The statement. -/
theorem windowsOf_holds : Rows.WindowsOfSaid :=
  OpenClaim.holds_of_wide 4 Tryz.f4 rfl rfl rfl rfl rfl rfl rfl ⟨rfl, rfl, rfl, rfl, rfl⟩ rfl rfl rfl rfl rfl (by kernel_rfl) Tryz.func4 (by kernel_rfl)
    (of_decide_eq_true (by kernel_rfl)) (by unfold Func.isWrapper; first | (rw [if_pos (by decide +kernel)]; kernel_rfl) | (rw [if_neg (by decide +kernel)]; exact ⟨rfl, rfl⟩))
    (fun os started H enc _ => windowsOf_lifted os started H enc)
/-- The card. -/
theorem windowsOf_proved : Rows.WindowsOfCardSaid :=
  Claim7.holds_tied_plain_at .later [] [.data, .data, .data] true (true, "a9d4c3d2c6f2e006dade4aaac14e12343803f4783514ed67684f9887a7138035") false
    windowsOf_holds (fun _ h => by cases h) (by kernel_rfl) (fun _ h => by cases h) windowsOf_row_tie rfl ⟨rfl, rfl⟩ (by kernel_rfl) rfl
    (fun f fn hf hfn => by
      obtain rfl : f = 4 := Option.some.inj ((show Tryz.prog.funcNamed "drydock/drydocklaw08.WindowsOf" = some 4 by kernel_rfl).symm.trans hf) |>.symm
      obtain rfl : fn = Tryz.f4 := (Option.some.inj (Tryz.func4.symm.trans hfn)).symm
      refine ⟨by kernel_rfl, fun j t ht => ?_⟩
      rw [Tryz.params4] at ht
      have h3 : t ∈ [27] := List.mem_of_getElem? (by simpa using ht)
      have h4 : ([27] : List TypeId).all (fun t => Tryz.prog.wantsStandIn t == false) = true := by kernel_rfl
      exact eq_of_beq (List.all_eq_true.1 h4 t h3))
    (by kernel_rfl)
#print axioms windowsOf_proved
end Go.Proofs.YtgjpjpdmkeifeaaGreatDoor
