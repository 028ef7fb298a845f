/- What the outright statements on tensors share. -/
import Derived.Test.YtjfghiepdnonjaaGetCode
import Derived.Test.YtjfghiepdnonjaaTensorsAt
import Derived.Test.YtjfghiepdnonjaaTwins
import Derived.Test.YtjfghiepdnonjaaStr
import Derived.Test.YtjfghiepdnonjaaOpen
import Derived.Test.YtjfghiepdnonjaaRows
namespace Go.Proofs.Ytjfghiepdnonjaa
open Go Go.Dd Go.RowKit Go.ChangeShapes Go.WideShapes Go.ChangeAt

theorem own : ownKnob Try.prog.godebug = none := by kernel_rfl
theorem laidOut : laidOutB Try.prog = true := by kernel_rfl

def nwE (s : List Int) : Int := if Shapes.ok s then 0 else 1
theorem new_p (u : Value) (s : List Int) (W : World) (hu : SlT (Value.int .i64) W u s) : Fnc Try.prog 15 [u] W (fun r w' => Below W.heap.size W w' ∧ Gets W w' r (nwE s) s (List.replicate (Shapes.size s).toNat 0#32)) :=
  (new_c u s W hu).mono fun _ w' ⟨h1, h2⟩ => ⟨h1, by
    unfold nwE
    rcases h2 with ⟨h, x, y, rfl, hm⟩ | ⟨h, rfl⟩
    · exact ⟨⟨x, y, s, _⟩, by rw [h]; rfl, hm.at, fun e => by simp [h] at e, fun _ => ⟨rfl, rfl, hm⟩⟩
    · exact ⟨⟨_, _, [], []⟩, by rw [h]; rfl, nilT _, fun _ => ⟨rfl, rfl⟩, fun e => by simp [h] at e⟩⟩
theorem get_p (v : Value) (b : List (BitVec 8)) (W : World) (h_b : SlT b8 W v b) : Fnc Try.prog 10 [v] W (fun r w' => Below W.heap.size W w' ∧ Gets W w' r (gtE b) (gtS b) (gtL b)) :=
  (get_c v b W h_b).mono fun _ w' ⟨h1, x, y, h2, h3, h4⟩ => ⟨h1, by
    unfold gtE at h2 ⊢
    cases h : gtK b
    · obtain ⟨rfl, rfl⟩ := h3 h
      exact ⟨⟨_, _, [], []⟩, by rw [h2, h]; rfl, nilT _, fun _ => ⟨rfl, rfl⟩, fun e => by simp at e⟩
    · exact ⟨⟨x, y, _, _⟩, by rw [h2, h]; rfl, (h4 h).at, fun e => by simp at e, fun _ => ⟨rfl, rfl, h4 h⟩⟩⟩
theorem put_p (a : T4) (W : World) (h_a : a.at W) : Fnc Try.prog 8 [a.v] W (fun r w' => Below W.heap.size W w' ∧ ∃ x, r = .tuple #[x, .int .i64 (putE a.s a.l)] ∧ SlT b8 w' x (putR a.s a.l)) :=
  (tput_c a W h_a).mono fun _ _ ⟨h1, x, h2, h3⟩ => ⟨h1, x, h2, h3.slT⟩

theorem of5_c (u v : Value) (s : List Int) (l : List (BitVec 32)) (W : World) (h_u : SlT (Value.int .i64) W u s) (h_v : SlT i32 W v l) : Fnc Try.prog 17 [u, v] W (fun r w' => ∃ a : T4, r = a.v ∧ a.s = s ∧ a.l = l ∧ a.at w' ∧ Below W.heap.size W w') := by
  have hB := Below.refl W.heap.size W
  have hu0 := h_u
  have hv0 := h_v
  refine Fnc.enter (n := 8) Try.func17 (by kernel_rfl) rfl rfl rfl ?_
  refine Cw.seq ?_
  refine Cw.region ?_
  refine Lw.newA it_25 rfl ?_
  rintro A_r w eA_r b_r hn -
  replace hB := hB.bs hn
  replace h_u := h_u.bs hn
  replace h_v := h_v.bs hn
  clear hn
  refine Lw.nil ?_
  refine Pw.thenN (Cw.out ?_)
  refine Cw.seq ?_
  refine Cw.region ?_
  refine Lw.val (Ex.move rfl) rfl ?_
  refine Lw.val (Ex.move rfl) rfl ?_
  have z := below_size hB
  refine Lw.val (Ex.build (vs := [(0, u), (1, v)]) (cs := [u, v]) rfl (bt_ten _ _ h_u.one h_v.one)) rfl ?_
  refine Lw.unit (Xu.stA (cs := [u, v]) rfl rfl rfl rfl (by simp [h_u.one', h_v.one']) b_r rfl) ?_
  rintro w3 ⟨b, hg, -⟩
  have hne : ∀ {α : Type} {enc : α → Value} {x : Value} {l : List α}, SlT enc W x l → SlT enc w x l → SlT enc w3 x l := fun h0 h1 => Sl.stay h1 fun k e hk => hg.block k (Sl.blk h1 hk k e) fun e2 => by
    have := Sl.blk h0 hk k e
    cases e2
    omega
  refine Lw.nil ?_
  refine Pw.thenN (Cw.out ?_)
  refine Cw.ret ?_
  refine Pw.retC rfl rfl (by assumption) (Try.underlying25) rfl rfl rfl ?_
  exact ⟨⟨u, v, s, l⟩, rfl, rfl, rfl, ⟨hne hu0 h_u, hne hv0 h_v⟩, hB.grown hg (below_size hB) (by rintro _ ⟨⟩; omega)⟩

theorem alive_c (w0 : World) : Fnc Try.prog 5 [] w0 (fun r w' => r = .bool true ∧ Below w0.heap.size w0 w') := by
  have hB := Below.refl w0.heap.size w0
  have e_t : nwE [2, 2] = 0 := by kernel_rfl
  refine Fnc.enter (n := 93) Try.func5 (by kernel_rfl) rfl rfl rfl ?_
  refine Cw.seq ?_
  refine Cw.region ?_
  refine Lw.val (Ex.assign rfl) rfl ?_
  refine Lw.nil ?_
  refine Pw.thenN (Cw.out ?_)
  refine Cw.seq ?_
  refine Cw.region ?_
  refine Lw.valW (Xw.lit (vs := ([2, 2] : List Int).map (Value.int .i64)) st_22 it_3 rfl rfl rfl rfl rfl) rfl ?_
  rintro u w ⟨ho, -, hn, -⟩
  have t_u := own_slT ho
  clear ho
  replace hB := hB.bs hn
  clear hn
  refine Lw.callF rfl rfl (new_p u [2, 2] _ t_u) ?_
  rintro r w ⟨hn, t, rfl, h_t, -, hz⟩
  rw [e_t]
  obtain ⟨s_t, l_t, -⟩ := hz e_t
  clear hz
  replace hB := hB.bs hn
  replace t_u := t_u.bs hn
  clear hn
  refine Lw.val (Ex.move rfl) rfl ?_
  refine Lw.val (Ex.extract (i := 0) rfl rfl) rfl ?_
  refine Lw.val (Ex.extract (i := 1) rfl rfl) rfl ?_
  refine Lw.boxed (cs := [t.x, t.y]) it_25 rfl rfl rfl rfl (fun _ => rfl) (h_t.one) ?_
  rintro A_t w eA_t b_t hn -
  replace hB := hB.bs hn
  replace t_u := t_u.bs hn
  replace h_t := h_t.bs hn
  clear hn
  refine Lw.val (Ex.assign rfl) rfl ?_
  refine Lw.nil ?_
  refine Pw.thenN (Cw.out ?_)
  refine Cw.seq ?_
  refine Cw.region ?_
  refine Lw.valW (Xw.lit (vs := ([2, 2] : List Int).map (Value.int .i64)) st_22 it_3 rfl rfl rfl rfl rfl) rfl ?_
  rintro u1 w ⟨ho, -, hn, -⟩
  have t_u1 := own_slT ho
  clear ho
  replace hB := hB.bs hn
  replace h_t := h_t.bs hn
  replace b_t := b_t.bs hn
  clear hn
  refine Lw.valW (Xw.lit (vs := ([1#32, 2#32, 3#32, 4#32] : List (BitVec 32)).map i32) st_23 it_21 rfl (by kernel_rfl) rfl rfl rfl) rfl ?_
  rintro u2 w ⟨ho, -, hn, -⟩
  have t_u2 := own_slT ho
  clear ho
  replace hB := hB.bs hn
  replace h_t := h_t.bs hn
  replace b_t := b_t.bs hn
  replace t_u1 := t_u1.bs hn
  clear hn
  refine Lw.callF rfl rfl (of5_c u1 u2 [2, 2] [1#32, 2#32, 3#32, 4#32] _ t_u1 t_u2) ?_
  rintro _ w ⟨p, rfl, s_p, l_p, h_p, hn⟩
  replace hB := hB.bs hn
  replace h_t := h_t.bs hn
  replace b_t := b_t.bs hn
  replace t_u1 := t_u1.bs hn
  replace t_u2 := t_u2.bs hn
  clear hn
  clear t_u t_u1 t_u2
  refine Lw.valW (Xw.lit (vs := ([1, 0] : List Int).map (Value.int .i64)) st_22 it_3 rfl rfl rfl rfl rfl) rfl ?_
  rintro u1 w ⟨ho, -, hn, -⟩
  have t_u1 := own_slT ho
  clear ho
  replace hB := hB.bs hn
  replace h_t := h_t.bs hn
  replace b_t := b_t.bs hn
  replace h_p := h_p.bs hn
  clear hn
  refine Lw.callF rfl rfl (tat_c p u1 [1, 0] _ h_p t_u1) ?_
  rintro _ w ⟨rfl, hn⟩
  have e1 : tatV p.s p.l [1, 0] = 3#32 := by rw [s_p, l_p]; kernel_rfl
  have e2 : tatE p.s p.l [1, 0] = 0 := by rw [s_p, l_p]; kernel_rfl
  rw [e1, e2]
  replace hB := hB.bs hn
  replace h_t := h_t.bs hn
  replace b_t := b_t.bs hn
  replace h_p := h_p.bs hn
  replace t_u1 := t_u1.bs hn
  clear hn e1 e2
  clear t_u1 h_p
  refine Lw.val (Ex.move rfl) rfl ?_
  refine Lw.val (Ex.extract (i := 0) rfl rfl) rfl ?_
  refine Lw.val (Ex.extract (i := 1) rfl rfl) rfl ?_
  refine Lw.val (Ex.assign rfl) rfl ?_
  refine Lw.val (Ex.assign rfl) rfl ?_
  refine Lw.nil ?_
  refine Pw.thenN (Cw.out ?_)
  refine Cw.seq ?_
  refine Cw.region ?_
  refine Lw.valW (Xw.lit (vs := ([2] : List Int).map (Value.int .i64)) st_22 it_3 rfl rfl rfl rfl rfl) rfl ?_
  rintro u1 w ⟨ho, -, hn, -⟩
  have t_u1 := own_slT ho
  clear ho
  replace hB := hB.bs hn
  replace h_t := h_t.bs hn
  replace b_t := b_t.bs hn
  clear hn
  refine Lw.valW (Xw.lit (vs := ([5#32, 4294967295#32] : List (BitVec 32)).map i32) st_23 it_21 rfl (by kernel_rfl) rfl rfl rfl) rfl ?_
  rintro u2 w ⟨ho, -, hn, -⟩
  have t_u2 := own_slT ho
  clear ho
  replace hB := hB.bs hn
  replace h_t := h_t.bs hn
  replace b_t := b_t.bs hn
  replace t_u1 := t_u1.bs hn
  clear hn
  refine Lw.callF rfl rfl (of5_c u1 u2 [2] [5#32, 4294967295#32] _ t_u1 t_u2) ?_
  rintro _ w ⟨q, rfl, s_q, l_q, h_q, hn⟩
  replace hB := hB.bs hn
  replace h_t := h_t.bs hn
  replace b_t := b_t.bs hn
  replace t_u1 := t_u1.bs hn
  replace t_u2 := t_u2.bs hn
  clear hn
  clear t_u1 t_u2
  refine Lw.callF rfl rfl (put_p q _ h_q) ?_
  rintro _ w ⟨hn, y, rfl, t_y⟩
  have e1 : putE q.s q.l = 0 := by rw [s_q, l_q]; kernel_rfl
  have e2 : putR q.s q.l = [1#8, 2#8, 5#8, 0#8, 0#8, 0#8, 255#8, 255#8, 255#8, 255#8] := by rw [s_q, l_q]; kernel_rfl
  rw [e1]
  rw [e2] at t_y
  replace hB := hB.bs hn
  replace h_t := h_t.bs hn
  replace b_t := b_t.bs hn
  replace h_q := h_q.bs hn
  clear hn e1 e2
  clear h_q
  refine Lw.val (Ex.move rfl) rfl ?_
  refine Lw.val (Ex.extract (i := 0) rfl rfl) rfl ?_
  refine Lw.val (Ex.extract (i := 1) rfl rfl) rfl ?_
  refine Lw.val (Ex.assign rfl) rfl ?_
  refine Lw.val (Ex.assign rfl) rfl ?_
  refine Lw.nil ?_
  refine Pw.thenN (Cw.out ?_)
  refine Cw.seq ?_
  refine Cw.region ?_
  refine Lw.valW (Xw.lit (vs := [1#8, 2#8, 5#8, 0#8, 0#8, 0#8, 255#8, 255#8, 255#8, 255#8].map b8) st_26 it_5 rfl (by kernel_rfl) rfl rfl rfl) rfl ?_
  rintro _ w3 ⟨ho, rfl, hn3, hs3⟩
  refine Lw.valW (Xw.convStr st_26 un_5 rfl ho) rfl ?_
  rintro v w4 ⟨-, t_v, hg, hs4⟩
  have t_v : SlT b8 w4 v [1#8, 2#8, 5#8, 0#8, 0#8, 0#8, 255#8, 255#8, 255#8, 255#8] := t_v
  have hn := hn3.grown hg (below_size hn3) (by rintro _ ⟨⟩; exact Nat.le_refl _)
  clear ho hn3 hs3 hg hs4
  replace hB := hB.bs hn
  replace h_t := h_t.bs hn
  replace b_t := b_t.bs hn
  replace t_y := t_y.bs hn
  clear hn
  have e_x : gtE [1#8, 2#8, 5#8, 0#8, 0#8, 0#8, 255#8, 255#8, 255#8, 255#8] = 0 := by kernel_rfl
  refine Lw.callF rfl rfl (get_p v _ _ t_v) ?_
  rintro r w ⟨hn, x, rfl, h_x, -, hz⟩
  rw [e_x]
  obtain ⟨s_x, l_x, -⟩ := hz e_x
  clear hz
  replace hB := hB.bs hn
  replace h_t := h_t.bs hn
  replace b_t := b_t.bs hn
  replace t_y := t_y.bs hn
  clear hn
  refine Lw.val (Ex.move rfl) rfl ?_
  refine Lw.val (Ex.extract (i := 0) rfl rfl) rfl ?_
  refine Lw.val (Ex.extract (i := 1) rfl rfl) rfl ?_
  refine Lw.boxed (cs := [x.x, x.y]) it_25 rfl rfl rfl rfl (fun _ => rfl) (h_x.one) ?_
  rintro A_x w eA_x b_x hn -
  replace hB := hB.bs hn
  replace h_t := h_t.bs hn
  replace b_t := b_t.bs hn
  replace t_y := t_y.bs hn
  replace h_x := h_x.bs hn
  clear hn
  refine Lw.val (Ex.assign rfl) rfl ?_
  refine Lw.nil ?_
  refine Pw.thenN (Cw.out ?_)
  refine Cw.seq ?_
  refine Cw.region ?_
  have s_x : x.s = [2] := by rw [s_x]; kernel_rfl
  have l_x : x.l = [5#32, 4294967295#32] := by rw [l_x]; kernel_rfl
  clear e_x t_v
  refine Lw.valW (Xw.lit (vs := ([1#8, 0#8] : List (BitVec 8)).map b8) st_26 it_5 rfl (by kernel_rfl) rfl rfl rfl) rfl ?_
  rintro v w ⟨ho, -, hn, -⟩
  have t_v := own_slT ho
  clear ho
  replace hB := hB.bs hn
  replace h_t := h_t.bs hn
  replace b_t := b_t.bs hn
  replace t_y := t_y.bs hn
  replace h_x := h_x.bs hn
  replace b_x := b_x.bs hn
  clear hn
  refine Lw.callF rfl rfl (get_p v _ _ t_v) ?_
  rintro r w ⟨hn, c1, rfl, h_c1, -, -⟩
  rw [show gtE [1#8, 0#8] = 4 by kernel_rfl]
  replace hB := hB.bs hn
  replace h_t := h_t.bs hn
  replace b_t := b_t.bs hn
  replace t_y := t_y.bs hn
  replace h_x := h_x.bs hn
  replace b_x := b_x.bs hn
  replace t_v := t_v.bs hn
  clear hn
  refine Lw.val (Ex.move rfl) rfl ?_
  refine Lw.val (Ex.extract (i := 0) rfl rfl) rfl ?_
  refine Lw.val (Ex.extract (i := 1) rfl rfl) rfl ?_
  refine Lw.boxed (cs := [c1.x, c1.y]) it_25 rfl rfl rfl rfl (fun _ => rfl) (h_c1.one) ?_
  rintro A_c1 w eA_c1 b_c1 hn -
  replace hB := hB.bs hn
  replace h_t := h_t.bs hn
  replace b_t := b_t.bs hn
  replace t_y := t_y.bs hn
  replace h_x := h_x.bs hn
  replace b_x := b_x.bs hn
  clear hn
  refine Lw.val (Ex.assign rfl) rfl ?_
  refine Lw.nil ?_
  refine Pw.thenN (Cw.out ?_)
  refine Cw.seq ?_
  refine Cw.region ?_
  refine Lw.valW (Xw.lit (vs := ([1#8, 1#8, 5#8, 0#8, 0#8, 0#8, 0#8] : List (BitVec 8)).map b8) st_26 it_5 rfl (by kernel_rfl) rfl rfl rfl) rfl ?_
  rintro v w ⟨ho, -, hn, -⟩
  have t_v := own_slT ho
  clear ho
  replace hB := hB.bs hn
  replace h_t := h_t.bs hn
  replace b_t := b_t.bs hn
  replace t_y := t_y.bs hn
  replace h_x := h_x.bs hn
  replace b_x := b_x.bs hn
  replace b_c1 := b_c1.bs hn
  clear hn
  refine Lw.callF rfl rfl (get_p v _ _ t_v) ?_
  rintro r w ⟨hn, c2, rfl, h_c2, -, -⟩
  rw [show gtE [1#8, 1#8, 5#8, 0#8, 0#8, 0#8, 0#8] = 4 by kernel_rfl]
  replace hB := hB.bs hn
  replace h_t := h_t.bs hn
  replace b_t := b_t.bs hn
  replace t_y := t_y.bs hn
  replace h_x := h_x.bs hn
  replace b_x := b_x.bs hn
  replace b_c1 := b_c1.bs hn
  replace t_v := t_v.bs hn
  clear hn
  clear t_v
  refine Lw.val (Ex.move rfl) rfl ?_
  refine Lw.val (Ex.extract (i := 0) rfl rfl) rfl ?_
  refine Lw.val (Ex.extract (i := 1) rfl rfl) rfl ?_
  refine Lw.boxed (cs := [c2.x, c2.y]) it_25 rfl rfl rfl rfl (fun _ => rfl) (h_c2.one) ?_
  rintro A_c2 w eA_c2 b_c2 hn -
  replace hB := hB.bs hn
  replace h_t := h_t.bs hn
  replace b_t := b_t.bs hn
  replace t_y := t_y.bs hn
  replace h_x := h_x.bs hn
  replace b_x := b_x.bs hn
  replace b_c1 := b_c1.bs hn
  clear hn
  refine Lw.val (Ex.assign rfl) rfl ?_
  refine Lw.nil ?_
  refine Pw.thenN (Cw.out ?_)
  refine Cw.seq ?_
  refine Cw.any mixed (fun w1 hd _ => ?_)
  replace hB := hB.bs hd
  replace h_t := h_t.bs hd
  replace b_t := b_t.bs hd
  replace t_y := t_y.bs hd
  replace h_x := h_x.bs hd
  replace b_x := b_x.bs hd
  replace b_c1 := b_c1.bs hd
  replace b_c2 := b_c2.bs hd
  clear hd
  refine Aw.take (i := 0) (NoP.thn NoP.ret) rfl (by kernel_rfl) (by kernel_rfl) (by kernel_rfl) (fun _ => Ex.move rfl) rfl ?_
  refine Aw.take (i := 1) (NoP.thn NoP.ret) rfl (by kernel_rfl) (by kernel_rfl) (by kernel_rfl) (fun _ => Ex.eql rfl rfl) rfl ?_
  refine Aw.take (i := 2) (NoP.thn NoP.ret) rfl (by kernel_rfl) (by kernel_rfl) (by kernel_rfl) (fun _ => Ex.move rfl) rfl ?_
  refine Aw.know 51 (v' := .bool true) rfl (congrArg Value.bool (rfl)) ?_
  refine Aw.takeG (i := 3) (dj := 51) (NoP.thn NoP.ret) rfl rfl rfl (by kernel_rfl) (by kernel_rfl) (by kernel_rfl) (fun _ => Ex.fieldAddr (q := 0) Try.underlying25 rfl (sz_23 _) rfl) rfl ?_
  refine Aw.seg (St := Unit) (g := 38) [4, 5, 6] 7 (fun s => [(3, i32 3#32), (4, .int .i64 0), (5, y), (6, .int .i64 0), (7, .pointer (some ⟨A_x, 0, none⟩)), (8, .int .i64 0), (10, .int .i64 4), (12, .int .i64 4), (51, .bool true), (55, .bool true)]) (fun s w' => Below w1.heap.size w1 w') (by kernel_rfl) rfl ?_ ?_
  · refine Aw.cls (fun w' => Below w1.heap.size w1 w') (fun hC => ?_) (Below.refl _ _)
    refine AwC.takeG (i := 4) (dj := 51) (NoP.thn (NoP.thn NoP.ret)) rfl rfl rfl (by kernel_rfl) (by kernel_rfl) (by kernel_rfl) (fun w1 hc => Ex.ldB (ag_23 _) rfl (Blk.bs (by assumption) hc) rfl) rfl ?_
    refine AwC.only (by assumption) (i := 5) (by kernel_rfl) rfl ?_
    refine Lw.take (dj := 51) rfl rfl ?_
    refine Lw.valW (Xw.make (l := 4) (c := 4) st_23 it_21 rfl rfl rfl (Nat.le_refl _) (by decide) (by decide)) rfl ?_
    rintro z w2 ⟨ho, -, hn2, -⟩
    have t_z : SlT i32 w2 z (List.replicate 4 0#32) := own_slT (by rw [← rep_flat (enc := i32) (z := 0#32) 4]; exact ho)
    refine AwC.back ?_
    refine AwC.only (by assumption) (i := 6) (by kernel_rfl) rfl ?_
    refine Lw.take (dj := 51) rfl rfl ?_
    refine Lw.callF rfl rfl (sameNumbers_c t.y z t.l (List.replicate 4 0#32) w2 (h_t.bs hn2).2 t_z) ?_
    rintro _ w3 ⟨rfl, hn⟩
    have hn3 := bt hn2 hn
    refine AwC.back ?_
    refine AwC.done (by assumption) (by kernel_rfl) ?_
    exact Pw.thenN (Pw.seg (()) ⟨rfl, rfl, rfl, rfl, rfl, rfl, rfl, rfl, rfl, congrArg (fun b => some (Value.bool b)) (by rw [l_t]; kernel_rfl), trivial⟩ (hn3))
  rintro _ w hn
  replace hB := hB.bs hn
  replace h_t := h_t.bs hn
  replace b_t := b_t.bs hn
  replace t_y := t_y.bs hn
  replace h_x := h_x.bs hn
  replace b_x := b_x.bs hn
  replace b_c1 := b_c1.bs hn
  replace b_c2 := b_c2.bs hn
  clear hn
  refine Aw.take (i := 7) (NoP.thn NoP.ret) rfl (by kernel_rfl) (by kernel_rfl) (by kernel_rfl) (fun _ => Ex.pickT rfl rfl) rfl ?_
  refine Aw.take (i := 8) (NoP.thn NoP.ret) rfl (by kernel_rfl) (by kernel_rfl) (by kernel_rfl) (fun _ => Ex.move rfl) rfl ?_
  refine Aw.takeG (i := 9) (dj := 57) (NoP.thn NoP.ret) rfl rfl rfl (by kernel_rfl) (by kernel_rfl) (by kernel_rfl) (fun _ => Ex.move rfl) rfl ?_
  refine Aw.takeG (i := 10) (dj := 57) (NoP.thn NoP.ret) rfl rfl rfl (by kernel_rfl) (by kernel_rfl) (by kernel_rfl) (fun _ => Ex.eqli32 rfl (show _ = some (i32 (3#32)) from rfl)) rfl ?_
  refine Aw.take (i := 11) (NoP.thn NoP.ret) rfl (by kernel_rfl) (by kernel_rfl) (by kernel_rfl) (fun _ => Ex.pickT rfl rfl) rfl ?_
  refine Aw.take (i := 12) (NoP.thn NoP.ret) rfl (by kernel_rfl) (by kernel_rfl) (by kernel_rfl) (fun _ => Ex.move rfl) rfl ?_
  refine Aw.know 61 (v' := .bool true) rfl (congrArg Value.bool (rfl)) ?_
  refine Aw.takeG (i := 13) (dj := 61) (NoP.thn NoP.ret) rfl rfl rfl (by kernel_rfl) (by kernel_rfl) (by kernel_rfl) (fun _ => Ex.move rfl) rfl ?_
  refine Aw.takeG (i := 14) (dj := 61) (NoP.thn NoP.ret) rfl rfl rfl (by kernel_rfl) (by kernel_rfl) (by kernel_rfl) (fun _ => Ex.eql rfl rfl) rfl ?_
  refine Aw.take (i := 15) (NoP.thn NoP.ret) rfl (by kernel_rfl) (by kernel_rfl) (by kernel_rfl) (fun _ => Ex.pickT rfl rfl) rfl ?_
  refine Aw.take (i := 16) (NoP.thn NoP.ret) rfl (by kernel_rfl) (by kernel_rfl) (by kernel_rfl) (fun _ => Ex.move rfl) rfl ?_
  refine Aw.know 65 (v' := .bool true) rfl (congrArg Value.bool (rfl)) ?_
  refine Aw.takeG (i := 17) (dj := 65) (NoP.thn NoP.ret) rfl rfl rfl (by kernel_rfl) (by kernel_rfl) (by kernel_rfl) (fun _ => Ex.move rfl) rfl ?_
  refine Aw.only (i := 18) (by kernel_rfl) rfl ?_
  refine Lw.take (dj := 65) rfl rfl ?_
  refine Lw.val (Ex.strOf (l := [1#8, 2#8, 5#8, 0#8, 0#8, 0#8, 255#8, 255#8, 255#8, 255#8]) st_26 un_5 un_9 rfl t_y) rfl ?_
  refine Aw.back ?_
  refine Aw.takeG (i := 19) (dj := 65) (NoP.thn NoP.ret) rfl rfl rfl (by kernel_rfl) (by kernel_rfl) (by kernel_rfl) (fun _ => Ex.eqlS rfl rfl) rfl ?_
  refine Aw.take (i := 20) (NoP.thn NoP.ret) rfl (by kernel_rfl) (by kernel_rfl) (by kernel_rfl) (fun _ => Ex.pickT rfl rfl) rfl ?_
  refine Aw.take (i := 21) (NoP.thn NoP.ret) rfl (by kernel_rfl) (by kernel_rfl) (by kernel_rfl) (fun _ => Ex.move rfl) rfl ?_
  refine Aw.know 70 (v' := .bool true) rfl (congrArg Value.bool ((by kernel_rfl))) ?_
  refine Aw.takeG (i := 22) (dj := 70) (NoP.thn NoP.ret) rfl rfl rfl (by kernel_rfl) (by kernel_rfl) (by kernel_rfl) (fun _ => Ex.move rfl) rfl ?_
  refine Aw.takeG (i := 23) (dj := 70) (NoP.thn NoP.ret) rfl rfl rfl (by kernel_rfl) (by kernel_rfl) (by kernel_rfl) (fun _ => Ex.eql rfl rfl) rfl ?_
  refine Aw.take (i := 24) (NoP.thn NoP.ret) rfl (by kernel_rfl) (by kernel_rfl) (by kernel_rfl) (fun _ => Ex.pickT rfl rfl) rfl ?_
  refine Aw.take (i := 25) (NoP.thn NoP.ret) rfl (by kernel_rfl) (by kernel_rfl) (by kernel_rfl) (fun _ => Ex.move rfl) rfl ?_
  refine Aw.know 74 (v' := .bool true) rfl (congrArg Value.bool (rfl)) ?_
  refine Aw.seg (St := Unit) (g := 14) [26, 27, 28, 29, 30] 31 (fun s => [(8, .int .i64 0), (10, .int .i64 4), (12, .int .i64 4), (74, .bool true), (79, .bool true)]) (fun s w' => Below w.heap.size w w') (by kernel_rfl) rfl ?_ ?_
  · refine Aw.cls (fun w' => Below w.heap.size w w') (fun hC => ?_) (Below.refl _ _)
    refine AwC.takeG (i := 26) (dj := 74) (NoP.thn (NoP.thn NoP.ret)) rfl rfl rfl (by kernel_rfl) (by kernel_rfl) (by kernel_rfl) (fun w1 hc => Ex.ldA (ag_25 _) (sz_25 _) rfl rfl (Blk.bs (by assumption) hc)) rfl ?_
    refine AwC.two (by first | assumption | exact Below.refl _ _) (i := 27) (j := 28) (by kernel_rfl) rfl rfl ?_ ?_
    · refine Lw.take (dj := 74) rfl rfl ?_
      refine Lw.valW (Xw.lit (vs := ([2] : List (Int)).map (Value.int .i64)) st_22 it_3 rfl (by kernel_rfl) rfl rfl rfl) rfl ?_
      rintro y1 w2 ⟨hoy1, -, hn2, -⟩
      refine AwC.back ?_
      refine AwC.only (by first | assumption | exact Below.refl _ _) (i := 28) (by kernel_rfl) rfl ?_
      refine Lw.take (dj := 74) rfl rfl ?_
      refine Lw.valW (Xw.lit (vs := ([5#32, 4294967295#32] : List (BitVec 32)).map (i32)) st_23 it_21 rfl (by kernel_rfl) rfl rfl rfl) rfl ?_
      rintro z1 w3 ⟨hoz1, -, hn3, -⟩
      have hn23 := bt hn2 hn3
      refine AwC.back ?_
      refine AwC.only (by first | assumption | exact Below.refl _ _) (i := 29) (by kernel_rfl) rfl ?_
      refine Lw.take (dj := 74) rfl rfl ?_
      refine Lw.callF rfl rfl (of5_c y1 z1 [2] [5#32, 4294967295#32] w3 ((own_slT hoy1).bs hn3) (own_slT hoz1)) ?_
      rintro _ w4 ⟨c, rfl, s_c, l_c, h_c, hn⟩
      have hn4 := bt hn23 hn
      refine AwC.back ?_
      refine AwC.only (by first | assumption | exact Below.refl _ _) (i := 30) (by kernel_rfl) rfl ?_
      refine Lw.take (dj := 74) rfl rfl ?_
      refine Lw.callF rfl rfl (same_c _ _ _ _ _ _ _ _ _ (h_x.bs hn4).1 (h_x.bs hn4).2 h_c.1 h_c.2) ?_
      rintro _ w5 ⟨rfl, hn⟩
      have hn5 := bt hn4 hn
      refine AwC.back ?_
      refine AwC.done (by first | assumption | exact Below.refl _ _) (by kernel_rfl) ?_
      exact Pw.thenN (Pw.seg (()) ⟨rfl, rfl, rfl, rfl, congrArg (fun b => some (Value.bool b)) (by rw [s_x, s_c, l_x, l_c]; rfl), trivial⟩ (hn5))
    · refine Lw.take (dj := 74) rfl rfl ?_
      refine Lw.valW (Xw.lit (vs := ([5#32, 4294967295#32] : List (BitVec 32)).map (i32)) st_23 it_21 rfl (by kernel_rfl) rfl rfl rfl) rfl ?_
      rintro z1 w2 ⟨hoz1, -, hn2, -⟩
      refine AwC.back ?_
      refine AwC.only (by first | assumption | exact Below.refl _ _) (i := 27) (by kernel_rfl) rfl ?_
      refine Lw.take (dj := 74) rfl rfl ?_
      refine Lw.valW (Xw.lit (vs := ([2] : List (Int)).map (Value.int .i64)) st_22 it_3 rfl (by kernel_rfl) rfl rfl rfl) rfl ?_
      rintro y1 w3 ⟨hoy1, -, hn3, -⟩
      have hn23 := bt hn2 hn3
      refine AwC.back ?_
      refine AwC.only (by first | assumption | exact Below.refl _ _) (i := 29) (by kernel_rfl) rfl ?_
      refine Lw.take (dj := 74) rfl rfl ?_
      refine Lw.callF rfl rfl (of5_c y1 z1 [2] [5#32, 4294967295#32] w3 (own_slT hoy1) ((own_slT hoz1).bs hn3)) ?_
      rintro _ w4 ⟨c, rfl, s_c, l_c, h_c, hn⟩
      have hn4 := bt hn23 hn
      refine AwC.back ?_
      refine AwC.only (by first | assumption | exact Below.refl _ _) (i := 30) (by kernel_rfl) rfl ?_
      refine Lw.take (dj := 74) rfl rfl ?_
      refine Lw.callF rfl rfl (same_c _ _ _ _ _ _ _ _ _ (h_x.bs hn4).1 (h_x.bs hn4).2 h_c.1 h_c.2) ?_
      rintro _ w5 ⟨rfl, hn⟩
      have hn5 := bt hn4 hn
      refine AwC.back ?_
      refine AwC.done (by first | assumption | exact Below.refl _ _) (by kernel_rfl) ?_
      exact Pw.thenN (Pw.seg (()) ⟨rfl, rfl, rfl, rfl, congrArg (fun b => some (Value.bool b)) (by rw [s_x, s_c, l_x, l_c]; rfl), trivial⟩ (hn5))
  rintro _ w hn
  replace hB := hB.bs hn
  replace h_t := h_t.bs hn
  replace b_t := b_t.bs hn
  replace t_y := t_y.bs hn
  replace h_x := h_x.bs hn
  replace b_x := b_x.bs hn
  replace b_c1 := b_c1.bs hn
  replace b_c2 := b_c2.bs hn
  clear hn
  refine Aw.take (i := 31) (NoP.thn NoP.ret) rfl (by kernel_rfl) (by kernel_rfl) (by kernel_rfl) (fun _ => Ex.pickT rfl rfl) rfl ?_
  refine Aw.take (i := 32) (NoP.thn NoP.ret) rfl (by kernel_rfl) (by kernel_rfl) (by kernel_rfl) (fun _ => Ex.move rfl) rfl ?_
  refine Aw.takeG (i := 33) (dj := 81) (NoP.thn NoP.ret) rfl rfl rfl (by kernel_rfl) (by kernel_rfl) (by kernel_rfl) (fun _ => Ex.move rfl) rfl ?_
  refine Aw.takeG (i := 34) (dj := 81) (NoP.thn NoP.ret) rfl rfl rfl (by kernel_rfl) (by kernel_rfl) (by kernel_rfl) (fun _ => Ex.eql rfl rfl) rfl ?_
  refine Aw.take (i := 35) (NoP.thn NoP.ret) rfl (by kernel_rfl) (by kernel_rfl) (by kernel_rfl) (fun _ => Ex.pickT rfl rfl) rfl ?_
  refine Aw.take (i := 36) (NoP.thn NoP.ret) rfl (by kernel_rfl) (by kernel_rfl) (by kernel_rfl) (fun _ => Ex.move rfl) rfl ?_
  refine Aw.know 85 (v' := .bool true) rfl (congrArg Value.bool (rfl)) ?_
  refine Aw.takeG (i := 37) (dj := 85) (NoP.thn NoP.ret) rfl rfl rfl (by kernel_rfl) (by kernel_rfl) (by kernel_rfl) (fun _ => Ex.move rfl) rfl ?_
  refine Aw.takeG (i := 38) (dj := 85) (NoP.thn NoP.ret) rfl rfl rfl (by kernel_rfl) (by kernel_rfl) (by kernel_rfl) (fun _ => Ex.eql rfl rfl) rfl ?_
  refine Aw.take (i := 39) (NoP.thn NoP.ret) rfl (by kernel_rfl) (by kernel_rfl) (by kernel_rfl) (fun _ => Ex.pickT rfl rfl) rfl ?_
  refine Aw.take (i := 40) (NoP.thn NoP.ret) rfl (by kernel_rfl) (by kernel_rfl) (by kernel_rfl) (fun _ => Ex.move rfl) rfl ?_
  refine Aw.know 89 (v' := .bool true) rfl (congrArg Value.bool (rfl)) ?_
  refine Aw.takeG (i := 41) (dj := 89) (NoP.thn NoP.ret) rfl rfl rfl (by kernel_rfl) (by kernel_rfl) (by kernel_rfl) (fun _ => Ex.move rfl) rfl ?_
  refine Aw.takeG (i := 42) (dj := 89) (NoP.thn NoP.ret) rfl rfl rfl (by kernel_rfl) (by kernel_rfl) (by kernel_rfl) (fun _ => Ex.eql rfl rfl) rfl ?_
  refine Aw.take (i := 43) (NoP.thn NoP.ret) rfl (by kernel_rfl) (by kernel_rfl) (by kernel_rfl) (fun _ => Ex.pickT rfl rfl) rfl ?_
  refine Aw.take (i := 44) (NoP.thn NoP.ret) rfl (by kernel_rfl) (by kernel_rfl) (by kernel_rfl) (fun _ => Ex.assign rfl) rfl ?_
  refine Aw.done (by kernel_rfl) ?_
  refine Pw.thenN (Cw.out ?_)
  refine Cw.ret ?_
  refine Pw.ret1 rfl rfl ?_
  exact ⟨rfl, hB⟩
end Go.Proofs.Ytjfghiepdnonjaa
