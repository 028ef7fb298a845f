/- What the outright statements on products share. -/
import Derived.Test.YtdliencelkdibaaProductsCode
import Derived.Test.YtdliencelkdibaaInt
import Derived.Test.YtdliencelkdibaaOpen
import Derived.Test.YtdliencelkdibaaRows
namespace Go.Proofs.Ytdliencelkdibaa
open Go Go.Dd Go.RowKit Go.ChangeShapes Go.WideShapes Go.ChangeAt

theorem own : ownKnob Try.prog.godebug = none := by kernel_rfl
theorem laidOut : laidOutB Try.prog = true := by kernel_rfl

theorem of2_c (m n : Int) (u : Value) (l : List (BitVec 32)) (w : World) (hu : SlT i32 w u l) : Fnc Try.prog 13 [.int .i64 m, .int .i64 n, u] w (fun r w' => ∃ a : T4, r = a.v ∧ a.s = [m, n] ∧ a.l = l ∧ a.at w' ∧ Below w.heap.size w w') := by
  have hB := Below.refl w.heap.size w
  have hu0 := hu
  refine Fnc.enter (n := 12) Try.func13 (by kernel_rfl) rfl rfl rfl ?_
  refine Cw.seq ?_
  refine Cw.region ?_
  refine Lw.valW (Xw.new it_28) rfl ?_
  rintro _ w1 ⟨rfl, b, hn, hs1⟩
  replace hB := hB.bs hn
  replace hu := hu.bs hn
  refine Lw.nil ?_
  refine Pw.thenN (Cw.out ?_)
  refine Cw.seq ?_
  refine Cw.region ?_
  refine Lw.val (Ex.move rfl) rfl ?_
  refine Lw.val (Ex.move rfl) rfl ?_
  refine Lw.valW (Xw.lit (vs := [m, n].map (Value.int .i64)) st_26 it_3 rfl rfl rfl rfl rfl) rfl ?_
  rintro x w2 ⟨ho, -, hn, -⟩
  replace hB := hB.bs hn
  replace hu := hu.bs hn
  replace b := b.bs hn
  refine Lw.val (Ex.move rfl) rfl ?_
  refine Lw.val (Ex.build (vs := [(0, x), (1, u)]) (cs := [x, u]) rfl (bt_ten _ _ (own_sl ho).one hu.one)) rfl ?_
  refine Lw.unit (Xu.stA (cs := [x, u]) rfl rfl rfl rfl (by simp [(own_sl ho).one', hu.one']) b rfl) ?_
  rintro w3 ⟨b, hg, -⟩
  have z := hn.size
  have hB3 := hB.grown hg (below_size hB) (by rintro _ ⟨⟩; exact Nat.le_refl _)
  refine Lw.nil ?_
  refine Pw.thenN (Cw.out ?_)
  refine Cw.ret ?_
  refine Pw.retC rfl rfl (by assumption) (Try.underlying28) rfl rfl rfl ?_
  refine ⟨⟨x, u, [m, n], l⟩, rfl, rfl, rfl, ⟨own_slT (ho.kept hg (.inr ?_)), hu0.bs hB3⟩, hB3⟩
  intro h
  have := (own_block ho _ h).1
  omega

theorem refused_c (u v : Value) (a b : List Int) (e : Int) (w : World) (hu : SlT (Value.int .i64) w u a) (hv : SlT (Value.int .i64) w v b) (he : pshE a b = e) (h0 : e ≠ 0) :
    Fnc Try.prog 17 [u, v, .int .i64 e] w (fun r w' => r = .bool true ∧ Below w.heap.size w w') := by
  refine Fnc.enter (n := 23) Try.func17 (by kernel_rfl) rfl rfl rfl ?_
  refine Cw.seq ?_
  refine Cw.region ?_
  refine Lw.val (Ex.assign rfl) rfl ?_
  refine Lw.nil ?_
  refine Pw.thenN (Cw.out ?_)
  refine Cw.seq ?_
  refine Cw.region ?_
  refine Lw.val (Ex.move rfl) rfl ?_
  refine Lw.val (Ex.move rfl) rfl ?_
  refine Lw.callF rfl rfl (pshape_c u v a b w hu hv) ?_
  rintro _ w1 ⟨hn, x, rfl, h1, -⟩
  obtain rfl := h1 (by rw [he]; exact h0)
  refine Lw.val (Ex.move rfl) rfl ?_
  refine Lw.val (Ex.extract (i := 0) rfl rfl) rfl ?_
  refine Lw.val (Ex.extract (i := 1) rfl rfl) rfl ?_
  refine Lw.val (Ex.assign rfl) rfl ?_
  refine Lw.val (Ex.assign rfl) rfl ?_
  refine Lw.nil ?_
  refine Pw.thenN (Cw.out ?_)
  refine Cw.seq ?_
  refine Cw.region ?_
  refine Lw.val (Ex.move rfl) rfl ?_
  refine Lw.val (Ex.move rfl) rfl ?_
  refine Lw.val (Ex.eql rfl rfl) rfl ?_
  refine Lw.val (Ex.move rfl) rfl ?_
  have hnil := Sl.nil w1 1
  refine Lw.know 18 (v' := .bool true) rfl (congrArg Value.bool (decide_eq_true he)) ?_
  refine Lw.take (dj := 18) rfl rfl ?_
  refine Lw.val (Ex.move rfl) rfl ?_
  refine Lw.take (dj := 18) rfl rfl ?_
  refine Lw.val (Ex.lenS st_26 rfl (by assumption)) rfl ?_
  refine Lw.take (dj := 18) rfl rfl ?_
  refine Lw.val (Ex.eql rfl rfl) rfl ?_
  refine Lw.val (Ex.pickT rfl rfl) rfl ?_
  refine Lw.val (Ex.assign rfl) rfl ?_
  refine Lw.nil ?_
  refine Pw.thenN (Cw.out ?_)
  refine Cw.ret ?_
  refine Pw.ret1 rfl rfl ?_
  exact ⟨rfl, hn⟩

theorem alive_c (w0 : World) : Fnc Try.prog 6 [] w0 (fun r w' => r = .bool true ∧ Below w0.heap.size w0 w') := by
  have hB := Below.refl w0.heap.size w0
  refine Fnc.enter (n := 51) Try.func6 (by kernel_rfl) rfl rfl rfl ?_
  refine Cw.seq ?_
  refine Cw.region ?_
  refine Lw.val (Ex.assign rfl) rfl ?_
  refine Lw.nil ?_
  refine Pw.thenN (Cw.out ?_)
  refine Cw.seq ?_
  refine Cw.region ?_
  refine Lw.valW (Xw.lit (vs := ([1#32, 2#32, 3#32, 4#32] : List (BitVec 32)).map i32) st_22 it_21 rfl (by kernel_rfl) rfl rfl rfl) rfl ?_
  rintro u w ⟨ho, -, hn, -⟩
  have t := own_slT ho
  clear ho
  replace hB := hB.bs hn
  clear hn
  refine Lw.callF rfl rfl (of2_c 2 2 u [1#32, 2#32, 3#32, 4#32] _ t) ?_
  rintro _ w ⟨p, rfl, s_p, l_p, h_p, hn⟩
  replace hB := hB.bs hn
  clear hn t
  refine Lw.valW (Xw.lit (vs := ([5#32, 6#32] : List (BitVec 32)).map i32) st_22 it_21 rfl (by kernel_rfl) rfl rfl rfl) rfl ?_
  rintro u w ⟨ho, -, hn, -⟩
  have t := own_slT ho
  clear ho
  replace hB := hB.bs hn
  replace h_p := h_p.bs hn
  clear hn
  refine Lw.callF rfl rfl (of2_c 2 1 u [5#32, 6#32] _ t) ?_
  rintro _ w ⟨q, rfl, s_q, l_q, h_q, hn⟩
  replace hB := hB.bs hn
  replace h_p := h_p.bs hn
  clear hn t
  refine Lw.callF rfl rfl (prod_c p q _ h_p h_q) ?_
  rintro r w ⟨hn, a, rfl, h_a, -, hz⟩
  replace hB := hB.bs hn
  replace h_p := h_p.bs hn
  replace h_q := h_q.bs hn
  clear hn
  have e0 : prdE p q = 0 := by unfold prdE; rw [s_p, l_p, s_q, l_q]; kernel_rfl
  obtain ⟨s_a, l_a, -⟩ := hz e0
  have s_a : a.s = [2, 1] := by rw [s_a, s_p, s_q]; rfl
  have l_a : a.l = [17#32, 39#32] := by rw [l_a]; unfold prdL; rw [s_p, l_p, s_q, l_q]; kernel_rfl
  rw [e0]
  clear hz e0
  refine Lw.val (Ex.move rfl) rfl ?_
  refine Lw.val (Ex.extract (i := 0) rfl rfl) rfl ?_
  refine Lw.val (Ex.extract (i := 1) rfl rfl) rfl ?_
  refine Lw.boxed (cs := [a.x, a.y]) it_28 rfl rfl rfl rfl (fun _ => rfl) (h_a.one) ?_
  rintro A_a w eA_a b_a hn -
  replace hB := hB.bs hn
  replace h_a := h_a.bs hn
  clear hn
  refine Lw.val (Ex.assign rfl) rfl ?_
  refine Lw.nil ?_
  refine Pw.thenN (Cw.out ?_)
  refine Cw.seq ?_
  refine Cw.region ?_
  refine Lw.valW (Xw.lit (vs := ([2, 3] : List Int).map (Value.int .i64)) st_26 it_3 rfl rfl rfl rfl rfl) rfl ?_
  rintro u w ⟨ho, -, hn, -⟩
  have t_u := own_slT ho
  clear ho
  replace hB := hB.bs hn
  replace h_a := h_a.bs hn
  replace b_a := b_a.bs hn
  clear hn
  refine Lw.valW (Xw.lit (vs := ([3, 4] : List Int).map (Value.int .i64)) st_26 it_3 rfl rfl rfl rfl rfl) rfl ?_
  rintro v w ⟨ho, -, hn, -⟩
  have t_v := own_slT ho
  clear ho
  replace hB := hB.bs hn
  replace h_a := h_a.bs hn
  replace b_a := b_a.bs hn
  replace t_u := t_u.bs hn
  clear hn
  refine Lw.callF rfl rfl (pshape_c u v [2, 3] [3, 4] _ t_u t_v) ?_
  rintro _ w ⟨hn, x, rfl, -, h1⟩
  have e0 : pshE [2, 3] [3, 4] = 0 := by kernel_rfl
  rw [e0]
  have t_x : SlT (Value.int .i64) w x [2, 4] := own_slT (h1 e0)
  clear h1 e0
  replace hB := hB.bs hn
  replace h_a := h_a.bs hn
  replace b_a := b_a.bs hn
  replace t_u := t_u.bs hn
  replace t_v := t_v.bs hn
  clear hn
  refine Lw.val (Ex.move rfl) rfl ?_
  refine Lw.val (Ex.extract (i := 0) rfl rfl) rfl ?_
  refine Lw.val (Ex.extract (i := 1) rfl rfl) rfl ?_
  refine Lw.val (Ex.assign rfl) rfl ?_
  refine Lw.val (Ex.assign rfl) rfl ?_
  refine Lw.nil ?_
  refine Pw.thenN (Cw.out ?_)
  refine Cw.seq ?_
  refine Cw.any mixed (fun w1 hd _ => ?_)
  replace hB := hB.bs hd
  replace h_a := h_a.bs hd
  replace b_a := b_a.bs hd
  replace t_x := t_x.bs hd
  clear hd
  refine Aw.take (i := 0) (NoP.thn NoP.ret) rfl (by kernel_rfl) (by kernel_rfl) (by kernel_rfl) (fun _ => Ex.move rfl) rfl ?_
  refine Aw.take (i := 1) (NoP.thn NoP.ret) rfl (by kernel_rfl) (by kernel_rfl) (by kernel_rfl) (fun _ => Ex.eql rfl rfl) rfl ?_
  refine Aw.take (i := 2) (NoP.thn NoP.ret) rfl (by kernel_rfl) (by kernel_rfl) (by kernel_rfl) (fun _ => Ex.move rfl) rfl ?_
  refine Aw.know 21 (v' := .bool true) rfl (congrArg Value.bool (rfl)) ?_
  refine Aw.seg (St := Unit) (g := 26) [3, 4, 5, 6] 7 (fun s => [(3, x), (4, .int .i64 0), (21, .bool true), (25, .bool true)]) (fun s w' => Below w1.heap.size w1 w') (by kernel_rfl) rfl ?_ ?_
  · refine Aw.cls (fun w' => Below w1.heap.size w1 w') (fun hC => ?_) (Below.refl _ _)
    refine AwC.takeG (i := 3) (dj := 21) (NoP.thn (NoP.thn NoP.ret)) rfl rfl rfl (by kernel_rfl) (by kernel_rfl) (by kernel_rfl) (fun w1 hc => Ex.ldA (ag_28 _) (sz_28 _) rfl rfl (Blk.bs (by assumption) hc)) rfl ?_
    refine AwC.only (by assumption) (i := 4) (by kernel_rfl) rfl ?_
    refine Lw.take (dj := 21) rfl rfl ?_
    refine Lw.valW (Xw.lit (vs := ([17#32, 39#32] : List (BitVec 32)).map i32) st_22 it_21 rfl (by kernel_rfl) rfl rfl rfl) rfl ?_
    rintro y w2 ⟨ho, -, hn2, -⟩
    refine AwC.back ?_
    refine AwC.only (by assumption) (i := 5) (by kernel_rfl) rfl ?_
    refine Lw.take (dj := 21) rfl rfl ?_
    refine Lw.callF rfl rfl (of2_c 2 1 y [17#32, 39#32] w2 (own_slT ho)) ?_
    rintro _ w3 ⟨c, rfl, s_c, l_c, h_c, hn⟩
    have hn3 := bt hn2 hn
    clear ho hn2 hn
    refine AwC.back ?_
    refine AwC.only (by assumption) (i := 6) (by kernel_rfl) rfl ?_
    refine Lw.take (dj := 21) rfl rfl ?_
    refine Lw.callF rfl rfl (same_c _ _ _ _ _ _ _ _ _ (h_a.bs hn3).1 (h_a.bs hn3).2 h_c.1 h_c.2) ?_
    rintro _ w4 ⟨rfl, hn⟩
    have hn4 := bt hn3 hn
    refine AwC.back ?_
    refine AwC.done (by assumption) (by kernel_rfl) ?_
    exact Pw.thenN (Pw.seg (()) ⟨rfl, rfl, rfl, congrArg (fun b => some (Value.bool b)) (by rw [s_a, s_c, l_a, l_c]; rfl), trivial⟩ (hn4))
  rintro _ w hn
  replace hB := hB.bs hn
  replace h_a := h_a.bs hn
  replace b_a := b_a.bs hn
  replace t_x := t_x.bs hn
  clear hn
  refine Aw.take (i := 7) (NoP.thn NoP.ret) rfl (by kernel_rfl) (by kernel_rfl) (by kernel_rfl) (fun _ => Ex.pickT rfl rfl) rfl ?_
  refine Aw.take (i := 8) (NoP.thn NoP.ret) rfl (by kernel_rfl) (by kernel_rfl) (by kernel_rfl) (fun _ => Ex.move rfl) rfl ?_
  refine Aw.takeG (i := 9) (dj := 27) (NoP.thn NoP.ret) rfl rfl rfl (by kernel_rfl) (by kernel_rfl) (by kernel_rfl) (fun _ => Ex.move rfl) rfl ?_
  refine Aw.takeG (i := 10) (dj := 27) (NoP.thn NoP.ret) rfl rfl rfl (by kernel_rfl) (by kernel_rfl) (by kernel_rfl) (fun _ => Ex.eql rfl rfl) rfl ?_
  refine Aw.take (i := 11) (NoP.thn NoP.ret) rfl (by kernel_rfl) (by kernel_rfl) (by kernel_rfl) (fun _ => Ex.pickT rfl rfl) rfl ?_
  refine Aw.take (i := 12) (NoP.thn NoP.ret) rfl (by kernel_rfl) (by kernel_rfl) (by kernel_rfl) (fun _ => Ex.move rfl) rfl ?_
  refine Aw.know 31 (v' := .bool true) rfl (congrArg Value.bool (rfl)) ?_
  refine Aw.takeG (i := 13) (dj := 31) (NoP.thn NoP.ret) rfl rfl rfl (by kernel_rfl) (by kernel_rfl) (by kernel_rfl) (fun _ => Ex.move rfl) rfl ?_
  refine Aw.only (i := 14) (by kernel_rfl) rfl ?_
  refine Lw.take (dj := 31) rfl rfl ?_
  refine Lw.valW (Xw.lit (vs := ([2, 4] : List Int).map (Value.int .i64)) st_26 it_3 rfl rfl rfl rfl rfl) rfl ?_
  rintro y w ⟨ho, -, hn, -⟩
  have t_y := own_slT ho
  clear ho
  replace hB := hB.bs hn
  replace h_a := h_a.bs hn
  replace b_a := b_a.bs hn
  replace t_x := t_x.bs hn
  clear hn
  refine Aw.back ?_
  refine Aw.only (i := 15) (by kernel_rfl) rfl ?_
  refine Lw.take (dj := 31) rfl rfl ?_
  refine Lw.callF rfl rfl (sameInts_c x y [2, 4] [2, 4] _ t_x t_y) ?_
  rintro _ w ⟨rfl, hn⟩
  replace hB := hB.bs hn
  replace h_a := h_a.bs hn
  replace b_a := b_a.bs hn
  replace t_x := t_x.bs hn
  replace t_y := t_y.bs hn
  clear hn
  refine Aw.back ?_
  refine Aw.take (i := 16) (NoP.thn NoP.ret) rfl (by kernel_rfl) (by kernel_rfl) (by kernel_rfl) (fun _ => Ex.pickT rfl rfl) rfl ?_
  refine Aw.take (i := 17) (NoP.thn NoP.ret) rfl (by kernel_rfl) (by kernel_rfl) (by kernel_rfl) (fun _ => Ex.move rfl) rfl ?_
  refine Aw.know 36 (v' := .bool true) rfl (congrArg Value.bool (rfl)) ?_
  clear t_x t_y t_u t_v
  refine Aw.seg (St := Value × Value) (g := 13) [18, 19] 20 (fun s => [(36, .bool true), (37, s.1), (38, s.2)]) (fun s w' => Below w.heap.size w w' ∧ SlT (Value.int .i64) w' s.1 [2, 3] ∧ SlT (Value.int .i64) w' s.2 [2, 3]) (by kernel_rfl) rfl ?_ ?_
  · refine Aw.two (i := 18) (j := 19) (by kernel_rfl) rfl rfl ?_ ?_
    · refine Lw.take (dj := 36) rfl rfl ?_
      refine Lw.valW (Xw.lit (vs := ([2, 3] : List Int).map (Value.int .i64)) st_26 it_3 rfl rfl rfl rfl rfl) rfl ?_
      rintro y w2 ⟨ho, -, hn2, -⟩
      refine Aw.back ?_
      refine Aw.only (i := 19) (by kernel_rfl) rfl ?_
      refine Lw.take (dj := 36) rfl rfl ?_
      refine Lw.valW (Xw.lit (vs := ([2, 3] : List Int).map (Value.int .i64)) st_26 it_3 rfl rfl rfl rfl rfl) rfl ?_
      rintro z w3 ⟨hp, -, hn3, -⟩
      refine Aw.back ?_
      refine Aw.done (by kernel_rfl) ?_
      exact Pw.thenN (Pw.seg ((y, z)) ⟨rfl, rfl, rfl, trivial⟩ (⟨bt hn2 hn3, (own_slT ho).bs hn3, own_slT hp⟩))
    · refine Lw.take (dj := 36) rfl rfl ?_
      refine Lw.valW (Xw.lit (vs := ([2, 3] : List Int).map (Value.int .i64)) st_26 it_3 rfl rfl rfl rfl rfl) rfl ?_
      rintro z w2 ⟨hp, -, hn2, -⟩
      refine Aw.back ?_
      refine Aw.only (i := 18) (by kernel_rfl) rfl ?_
      refine Lw.take (dj := 36) rfl rfl ?_
      refine Lw.valW (Xw.lit (vs := ([2, 3] : List Int).map (Value.int .i64)) st_26 it_3 rfl rfl rfl rfl rfl) rfl ?_
      rintro y w3 ⟨ho, -, hn3, -⟩
      refine Aw.back ?_
      refine Aw.done (by kernel_rfl) ?_
      exact Pw.thenN (Pw.seg ((y, z)) ⟨rfl, rfl, rfl, trivial⟩ (⟨bt hn2 hn3, own_slT ho, (own_slT hp).bs hn3⟩))
  rintro ⟨y, z⟩ w ⟨hn, t_y, t_z⟩
  dsimp only at t_y t_z ⊢
  replace hB := hB.bs hn
  replace h_a := h_a.bs hn
  replace b_a := b_a.bs hn
  clear hn
  refine Aw.only (i := 20) (by kernel_rfl) rfl ?_
  refine Lw.take (dj := 36) rfl rfl ?_
  refine Lw.callF rfl rfl (refused_c y z [2, 3] [2, 3] 10 _ t_y t_z (by kernel_rfl) (by decide)) ?_
  rintro _ w ⟨rfl, hn⟩
  replace hB := hB.bs hn
  replace h_a := h_a.bs hn
  replace b_a := b_a.bs hn
  clear hn
  refine Aw.back ?_
  refine Aw.take (i := 21) (NoP.thn NoP.ret) rfl (by kernel_rfl) (by kernel_rfl) (by kernel_rfl) (fun _ => Ex.pickT rfl rfl) rfl ?_
  refine Aw.take (i := 22) (NoP.thn NoP.ret) rfl (by kernel_rfl) (by kernel_rfl) (by kernel_rfl) (fun _ => Ex.move rfl) rfl ?_
  refine Aw.know 41 (v' := .bool true) rfl (congrArg Value.bool (rfl)) ?_
  refine Aw.seg (St := Value × Value) (g := 8) [23, 24] 25 (fun s => [(41, .bool true), (42, s.1), (43, s.2)]) (fun s w' => Below w.heap.size w w' ∧ SlT (Value.int .i64) w' s.1 [2] ∧ SlT (Value.int .i64) w' s.2 [2]) (by kernel_rfl) rfl ?_ ?_
  · refine Aw.two (i := 23) (j := 24) (by kernel_rfl) rfl rfl ?_ ?_
    · refine Lw.take (dj := 41) rfl rfl ?_
      refine Lw.valW (Xw.lit (vs := ([2] : List Int).map (Value.int .i64)) st_26 it_3 rfl rfl rfl rfl rfl) rfl ?_
      rintro y w2 ⟨ho, -, hn2, -⟩
      refine Aw.back ?_
      refine Aw.only (i := 24) (by kernel_rfl) rfl ?_
      refine Lw.take (dj := 41) rfl rfl ?_
      refine Lw.valW (Xw.lit (vs := ([2] : List Int).map (Value.int .i64)) st_26 it_3 rfl rfl rfl rfl rfl) rfl ?_
      rintro z w3 ⟨hp, -, hn3, -⟩
      refine Aw.back ?_
      refine Aw.done (by kernel_rfl) ?_
      exact Pw.thenN (Pw.seg ((y, z)) ⟨rfl, rfl, rfl, trivial⟩ (⟨bt hn2 hn3, (own_slT ho).bs hn3, own_slT hp⟩))
    · refine Lw.take (dj := 41) rfl rfl ?_
      refine Lw.valW (Xw.lit (vs := ([2] : List Int).map (Value.int .i64)) st_26 it_3 rfl rfl rfl rfl rfl) rfl ?_
      rintro z w2 ⟨hp, -, hn2, -⟩
      refine Aw.back ?_
      refine Aw.only (i := 23) (by kernel_rfl) rfl ?_
      refine Lw.take (dj := 41) rfl rfl ?_
      refine Lw.valW (Xw.lit (vs := ([2] : List Int).map (Value.int .i64)) st_26 it_3 rfl rfl rfl rfl rfl) rfl ?_
      rintro y w3 ⟨ho, -, hn3, -⟩
      refine Aw.back ?_
      refine Aw.done (by kernel_rfl) ?_
      exact Pw.thenN (Pw.seg ((y, z)) ⟨rfl, rfl, rfl, trivial⟩ (⟨bt hn2 hn3, own_slT ho, (own_slT hp).bs hn3⟩))
  rintro ⟨y, z⟩ w ⟨hn, t_y, t_z⟩
  dsimp only at t_y t_z ⊢
  replace hB := hB.bs hn
  replace h_a := h_a.bs hn
  replace b_a := b_a.bs hn
  clear hn
  refine Aw.only (i := 25) (by kernel_rfl) rfl ?_
  refine Lw.take (dj := 41) rfl rfl ?_
  refine Lw.callF rfl rfl (refused_c y z [2] [2] 10 _ t_y t_z (by kernel_rfl) (by decide)) ?_
  rintro _ w ⟨rfl, hn⟩
  replace hB := hB.bs hn
  replace h_a := h_a.bs hn
  replace b_a := b_a.bs hn
  clear hn
  refine Aw.back ?_
  refine Aw.take (i := 26) (NoP.thn NoP.ret) rfl (by kernel_rfl) (by kernel_rfl) (by kernel_rfl) (fun _ => Ex.pickT rfl rfl) rfl ?_
  refine Aw.take (i := 27) (NoP.thn NoP.ret) rfl (by kernel_rfl) (by kernel_rfl) (by kernel_rfl) (fun _ => Ex.move rfl) rfl ?_
  refine Aw.know 46 (v' := .bool true) rfl (congrArg Value.bool (rfl)) ?_
  refine Aw.seg (St := Value × Value) (g := 3) [28, 29] 30 (fun s => [(46, .bool true), (47, s.1), (48, s.2)]) (fun s w' => Below w.heap.size w w' ∧ SlT (Value.int .i64) w' s.1 [0] ∧ SlT (Value.int .i64) w' s.2 [1, 1]) (by kernel_rfl) rfl ?_ ?_
  · refine Aw.two (i := 28) (j := 29) (by kernel_rfl) rfl rfl ?_ ?_
    · refine Lw.take (dj := 46) rfl rfl ?_
      refine Lw.valW (Xw.lit (vs := ([0] : List Int).map (Value.int .i64)) st_26 it_3 rfl rfl rfl rfl rfl) rfl ?_
      rintro y w2 ⟨ho, -, hn2, -⟩
      refine Aw.back ?_
      refine Aw.only (i := 29) (by kernel_rfl) rfl ?_
      refine Lw.take (dj := 46) rfl rfl ?_
      refine Lw.valW (Xw.lit (vs := ([1, 1] : List Int).map (Value.int .i64)) st_26 it_3 rfl rfl rfl rfl rfl) rfl ?_
      rintro z w3 ⟨hp, -, hn3, -⟩
      refine Aw.back ?_
      refine Aw.done (by kernel_rfl) ?_
      exact Pw.thenN (Pw.seg ((y, z)) ⟨rfl, rfl, rfl, trivial⟩ (⟨bt hn2 hn3, (own_slT ho).bs hn3, own_slT hp⟩))
    · refine Lw.take (dj := 46) rfl rfl ?_
      refine Lw.valW (Xw.lit (vs := ([1, 1] : List Int).map (Value.int .i64)) st_26 it_3 rfl rfl rfl rfl rfl) rfl ?_
      rintro z w2 ⟨hp, -, hn2, -⟩
      refine Aw.back ?_
      refine Aw.only (i := 28) (by kernel_rfl) rfl ?_
      refine Lw.take (dj := 46) rfl rfl ?_
      refine Lw.valW (Xw.lit (vs := ([0] : List Int).map (Value.int .i64)) st_26 it_3 rfl rfl rfl rfl rfl) rfl ?_
      rintro y w3 ⟨ho, -, hn3, -⟩
      refine Aw.back ?_
      refine Aw.done (by kernel_rfl) ?_
      exact Pw.thenN (Pw.seg ((y, z)) ⟨rfl, rfl, rfl, trivial⟩ (⟨bt hn2 hn3, own_slT ho, (own_slT hp).bs hn3⟩))
  rintro ⟨y, z⟩ w ⟨hn, t_y, t_z⟩
  dsimp only at t_y t_z ⊢
  replace hB := hB.bs hn
  replace h_a := h_a.bs hn
  replace b_a := b_a.bs hn
  clear hn
  refine Aw.only (i := 30) (by kernel_rfl) rfl ?_
  refine Lw.take (dj := 46) rfl rfl ?_
  refine Lw.callF rfl rfl (refused_c y z [0] [1, 1] 1 _ t_y t_z (by kernel_rfl) (by decide)) ?_
  rintro _ w ⟨rfl, hn⟩
  replace hB := hB.bs hn
  replace h_a := h_a.bs hn
  replace b_a := b_a.bs hn
  clear hn
  refine Aw.back ?_
  refine Aw.take (i := 31) (NoP.thn NoP.ret) rfl (by kernel_rfl) (by kernel_rfl) (by kernel_rfl) (fun _ => Ex.pickT rfl rfl) rfl ?_
  refine Aw.take (i := 32) (NoP.thn NoP.ret) rfl (by kernel_rfl) (by kernel_rfl) (by kernel_rfl) (fun _ => Ex.assign rfl) rfl ?_
  refine Aw.done (by kernel_rfl) ?_
  refine Pw.thenN (Cw.out ?_)
  refine Cw.ret ?_
  refine Pw.ret1 rfl rfl ?_
  exact ⟨rfl, hB⟩

theorem small_ok {m n : Nat} (h1 : 1 ≤ m ∧ m ≤ 64) (h2 : 1 ≤ n ∧ n ≤ 64) : Shapes.ok [(m : Int), (n : Int)] = true ∧ (Shapes.size [(m : Int), (n : Int)]).toNat = m * n := by
  have h := mul64 (m := (m : Int)) (n := (n : Int)) (by omega) (by omega)
  have hok := two_ok (m := (m : Int)) (n := (n : Int)) (by omega) (by omega) h.2
  refine ⟨hok, ?_⟩
  rw [Shapes.size_ok hok]
  simp [Shapes.prod]
  exact_mod_cast Int.toNat_natCast (m * n)
/-- Any tensor of two directions. -/
structure Two (a : T4) (m n : Nat) : Prop where
  s : a.s = [(m : Int), (n : Int)]
  l : a.l.length = m * n
  m1 : 1 ≤ m ∧ m ≤ 64
  n1 : 1 ≤ n ∧ n ≤ 64
theorem Two.ok {a : T4} {m n : Nat} (h : Two a m n) : tok a.s a.l = true := by
  have := small_ok h.m1 h.n1
  have hp := Shapes.size_le [(m : Int), (n : Int)]
  rw [h.s]
  simp only [tok, this.1, Bool.true_and, decide_eq_true_eq, h.l]
  omega
theorem Two.prdE {a b : T4} {m k n : Nat} (ha : Two a m k) (hb : Two b k n) : prdE a b = 0 := by
  unfold Go.Proofs.Ytdliencelkdibaa.prdE
  rw [ha.ok, hb.ok, ha.s, hb.s]
  exact pshE_yes (small_ok ha.m1 ha.n1).1 (small_ok hb.m1 hb.n1).1 ⟨rfl, rfl, rfl⟩
theorem Two.prdL {a b : T4} {m k n : Nat} (ha : Two a m k) (hb : Two b k n) : prdL a b = prd m k n a.l b.l := by
  unfold Go.Proofs.Ytdliencelkdibaa.prdL
  rw [ha.s, hb.s]; rfl
theorem Two.prod {a b c : T4} {m k n : Nat} (ha : Two a m k) (hb : Two b k n) (hs : c.s = [a.s.getD 0 default, b.s.getD 1 default]) (hl : c.l = Go.Proofs.Ytdliencelkdibaa.prdL a b) : Two c m n ∧ c.l = prd m k n a.l b.l :=
  ⟨⟨by rw [hs, ha.s, hb.s]; rfl, by rw [hl, ha.prdL hb, prd_length], ha.m1, hb.n1⟩, by rw [hl, ha.prdL hb]⟩

theorem made_c (pm pn : BitVec 8) (u : Value) (l : List (BitVec 32)) (W : World) (hu : SlT i32 W u l) :
    Fnc Try.prog 7 [b8 pm, b8 pn, u] W (fun r w' => ∃ a : T4, r = a.v ∧ a.at w' ∧ Two a (1 + pm.toNat % 9) (1 + pn.toNat % 9) ∧ Below W.heap.size W w') := by
  have hB := Below.refl W.heap.size W
  obtain ⟨m, hm⟩ : ∃ m, m = 1 + pm.toNat % 9 := ⟨_, rfl⟩
  obtain ⟨n, hn⟩ : ∃ n, n = 1 + pn.toNat % 9 := ⟨_, rfl⟩
  have m1 : 1 ≤ m ∧ m ≤ 64 := by omega
  have n1 : 1 ≤ n ∧ n ≤ 64 := by omega
  have m9 : m ≤ 9 := by omega
  have n9 : n ≤ 9 := by omega
  have hmn : m * n ≤ 9 * 9 := Nat.mul_le_mul m9 n9
  obtain ⟨hok, hsz⟩ := small_ok m1 n1
  have hle := hu.le
  rw [← hm, ← hn]
  refine Fnc.enter (n := 55) Try.func7 (by kernel_rfl) rfl rfl rfl ?_
  refine Cw.seq ?_
  refine Cw.region ?_
  have z0 := below_size hB
  refine Lw.newA it_28 rfl ?_
  rintro A_r w eA_r b_r hn -
  replace hB := hB.bs hn
  replace hu := hu.bs hn
  clear hn
  refine Lw.nil ?_
  refine Pw.thenN (Cw.out ?_)
  refine Cw.seq ?_
  refine Cw.region ?_
  refine Lw.val (Ex.move rfl) rfl ?_
  refine Lw.val (Ex.rem8 (c := 9) rfl rfl (by decide)) rfl ?_
  refine Lw.val (Ex.convI64 us_5 un_3 rfl (by omega)) rfl ?_
  refine Lw.val ((Ex.addI rfl rfl (by omega)).as (congrArg (Value.int .i64) (show (1 : Int) + ((pm.toNat % 9 : Nat) : Int) = (m : Int) by omega))) rfl ?_
  refine Lw.val (Ex.move rfl) rfl ?_
  refine Lw.val (Ex.rem8 (c := 9) rfl rfl (by decide)) rfl ?_
  refine Lw.val (Ex.convI64 us_5 un_3 rfl (by omega)) rfl ?_
  refine Lw.val ((Ex.addI rfl rfl (by omega)).as (congrArg (Value.int .i64) (show (1 : Int) + ((pn.toNat % 9 : Nat) : Int) = (n : Int) by omega))) rfl ?_
  have z1 : W.heap.size ≤ A_r := by omega
  refine Lw.valW (Xw.lit (vs := [(m : Int), (n : Int)].map (Value.int .i64)) st_26 it_3 rfl rfl rfl rfl rfl) rfl ?_
  rintro sv w ⟨ho, -, hn, -⟩
  have sl_s := own_slT ho
  clear ho
  have zr := blk_lt b_r
  replace hB := hB.bs hn
  replace hu := hu.bs hn
  replace b_r := b_r.bs hn
  clear hn
  have zw := blk_lt b_r
  refine Lw.val (Ex.assign rfl) rfl ?_
  refine Lw.nil ?_
  refine Pw.thenN (Cw.out ?_)
  refine Cw.seq ?_
  refine Cw.region ?_
  refine Lw.val (Ex.move rfl) rfl ?_
  refine Lw.callF rfl rfl (new_c sv [(m : Int), (n : Int)] w sl_s) ?_
  rintro r w3 ⟨hn3, hcase⟩
  obtain ⟨zx, zy, rfl, hz⟩ : ∃ x y, r = .tuple #[.agg #[x, y], .int .i64 0] ∧ Made1 w w3 x y [(m : Int), (n : Int)] (List.replicate (m * n) 0#32) := by
    rw [hsz] at hcase
    rcases hcase with ⟨_, h⟩ | ⟨h, _⟩
    · exact h
    · rw [hok] at h; cases h
  refine Lw.val (Ex.move rfl) rfl ?_
  refine Lw.val (Ex.extract (i := 0) rfl rfl) rfl ?_
  refine Lw.val (Ex.extract (i := 1) rfl rfl) rfl ?_
  refine Lw.boxed (cs := [zx, zy]) it_28 rfl rfl rfl rfl (fun _ => rfl) (hz.one) ?_
  rintro A_t w4 eA_t b_t hn4 zhn4
  have M := mine_new hz eA_t b_t hn4 zhn4 hn3.size
  have hw4 := bt hn3 hn4
  clear hz b_t hcase eA_t hn3 hn4 zhn4
  refine Lw.val (Ex.assign rfl) rfl ?_
  refine Lw.nil ?_
  refine Pw.thenN (Cw.out ?_)
  refine Cw.seq ?_
  refine Cw.seq ?_
  refine Cw.region ?_
  refine Lw.val (Ex.assign rfl) rfl ?_
  refine Lw.nil ?_
  refine Pw.thenN (Cw.out ?_)
  refine Cw.block ?_
  refine Cw.loop (S := (Nat × List (BitVec 32))) (fun s => [(2, u), (6, .pointer (some ⟨A_r, 0, none⟩)), (8, .pointer (some ⟨A_t, 0, none⟩)), (10, .int .i64 (s.1 : Int))]) (fun s w' => s.1 ≤ m * n ∧ s.2.length = m * n ∧ Below w.heap.size w w' ∧ MineT w' w.heap.size w4.heap.size A_t zx zy [(m : Int), (n : Int)] s.2) (fun s => m * n - s.1) ((0, List.replicate (m * n) 0#32)) ⟨rfl, rfl, rfl, rfl, trivial⟩ ?_ ?_
  · exact ⟨by simp, by simp, hw4, M⟩
  clear M hw4
  rintro ⟨i, c⟩ w5 ⟨hi, lc, hw, M⟩
  dsimp only at hi lc M ⊢
  have b_t := M.box
  have y_t := M.sly
  have hu5 := hu.bs hw
  refine Cw.seq ?_
  refine Cw.seq ?_
  refine Cw.region ?_
  refine Lw.val (Ex.move rfl) rfl ?_
  refine Lw.val (Ex.fieldAddr (q := 0) Try.underlying28 rfl (sz_22 _) rfl) rfl ?_
  refine Lw.val (Ex.ldB (ag_22 _) rfl (by assumption) rfl) rfl ?_
  refine Lw.val (Ex.lenS st_22 rfl (by assumption)) rfl ?_
  refine Lw.val (Ex.lss rfl rfl) rfl ?_
  refine Lw.val (Ex.move rfl) rfl ?_
  refine Lw.part 30 rfl ?_ ?_
  · intro g
    have hi' : i < m * n := by simp at g; omega
    refine Lw.take (dj := 30) rfl rfl ?_
    refine Lw.val (Ex.move rfl) rfl ?_
    refine Lw.take (dj := 30) rfl rfl ?_
    refine Lw.val (Ex.lenS st_22 rfl (by assumption)) rfl ?_
    refine Lw.take (dj := 30) rfl rfl ?_
    refine Lw.val (Ex.gtr rfl rfl) rfl ?_
    refine Lw.val (Ex.pickT rfl rfl) rfl ?_
    refine Lw.nil ?_
    refine Pw.thenN (Cw.out ?_)
    refine Cw.cond rfl ?_ ?_
    · intro h
      have hl0 : 1 ≤ l.length := by simp at h; omega
      have hml : i % l.length < l.length := Nat.mod_lt _ hl0
      refine Cw.skip ?_
      refine Pw.thenN (Cw.out ?_)
      refine Cw.seq ?_
      refine Cw.block ?_
      refine Cw.tail 17 mixed (by kernel_rfl) ?_
      refine Qw.val (fun w1 hq => Ex.fieldAddr (q := 0) Try.underlying28 rfl (sz_22 _) rfl) rfl ?_
      refine Qw.val (fun w1 hq => Ex.ldB (ag_22 _) rfl (Blk.bs (by assumption) hq) rfl) rfl ?_
      refine Qw.val (fun w1 hq => Ex.move rfl) rfl ?_
      refine Qw.val (fun w1 hq => Ex.move rfl) rfl ?_
      refine Qw.val (fun w1 hq => Ex.move rfl) rfl ?_
      refine Qw.val (fun w1 hq => Ex.move rfl) rfl ?_
      refine Qw.val (fun w1 hq => Ex.lenS st_22 rfl (Sl.bs (by assumption) hq)) rfl ?_
      refine Qw.val (fun w1 hq => Ex.remN rfl rfl hl0) rfl ?_
      refine Qw.val (fun w1 hq => Ex.idxT st_22 rfl rfl (hu5.bs hq) _ rfl hml) rfl ?_
      refine Qw.val (fun w1 hq => Ex.ldT (ag_21 _) rfl (hu5.bs hq) hml) rfl ?_
      refine Qw.val (fun w1 hq => Ex.move rfl) rfl ?_
      refine Qw.val (fun w1 hq => Ex.move rfl) rfl ?_
      refine Qw.val (fun w1 hq => Ex.lenS st_22 rfl (Sl.bs (by assumption) hq)) rfl ?_
      refine Qw.val (fun w1 hq => Ex.quoN rfl rfl (by omega) hl0) rfl ?_
      refine Qw.val (fun w1 hq => Ex.convi32 us_3 un_21 rfl) rfl ?_
      refine Qw.val (fun w1 hq => Ex.addi32 rfl rfl) rfl ?_
      refine Qw.val (fun w1 hq => Ex.idxT st_22 rfl rfl (Sl.bs (by assumption) hq) _ rfl (by omega)) rfl ?_
      refine Qw.done (fun wt hq => ?_)
      refine Lw.unit ((M.bs hq).st (sz_21 _) rfl rfl (by omega)) ?_
      rintro w7 ⟨M7, hg7, -⟩
      refine Lw.nil ?_
      refine Pw.blkN ?_
      refine Pw.thenN (Cw.out ?_)
      refine Cw.region ?_
      refine Lw.val (Ex.move rfl) rfl ?_
      refine Lw.val (Ex.addI rfl rfl (by omega)) rfl ?_
      refine Lw.val (Ex.assign rfl) rfl ?_
      refine Lw.nil ?_
      exact Pw.thenN (Pw.next ((i + 1, c.set i (l.getD (i % l.length) default + BitVec.ofInt 32 ((i / l.length : Nat) : Int)))) ⟨rfl, rfl, rfl, rfl, trivial⟩ (⟨hi', by rw [List.length_set]; exact lc, (M.bs hq).below (bt hw hq) (Nat.le_refl _) hg7, M7⟩) (by simp only; omega))
    · intro _
      have b_r5 := b_r.bs hw
      refine Cw.exit ?_
      refine Pw.thenE ?_
      refine Pw.thenE ?_
      refine Pw.blkHit ?_
      refine Pw.thenN (Cw.out ?_)
      refine Cw.seq ?_
      refine Cw.region ?_
      refine Lw.val (Ex.ldA (ag_28 _) (sz_28 _) rfl rfl (by assumption)) rfl ?_
      refine Lw.unit (Xu.stA (cs := [zx, zy]) rfl rfl rfl rfl (by simp [M.sh.one', M.sly.one']) b_r5 rfl) ?_
      rintro w9 ⟨b_r9, hg9, -⟩
      have M9 := M.keep hg9 (by rintro _ ⟨⟩; omega)
      have hB9 := (bt hB hw).grown hg9 (below_size (bt hB hw)) (by rintro _ ⟨⟩; omega)
      refine Lw.nil ?_
      refine Pw.thenN (Cw.out ?_)
      refine Cw.ret ?_
      refine Pw.retC rfl rfl (by assumption) (Try.underlying28) rfl rfl rfl ?_
      exact ⟨T4.mk zx zy [(m : Int), (n : Int)] c, rfl, mine_at M9, ⟨rfl, lc, m1, n1⟩, hB9⟩
  · intro g
    have b_r5 := b_r.bs hw
    refine Lw.pass (dj := 30) rfl rfl rfl rfl ?_
    refine Lw.pass (dj := 30) rfl rfl rfl rfl ?_
    refine Lw.pass (dj := 30) rfl rfl rfl rfl ?_
    refine Lw.val (Ex.pickF rfl rfl) rfl ?_
    refine Lw.nil ?_
    refine Pw.thenN (Cw.out ?_)
    refine Cw.condF rfl ?_
    refine Cw.exit ?_
    refine Pw.thenE ?_
    refine Pw.thenE ?_
    refine Pw.blkHit ?_
    refine Pw.thenN (Cw.out ?_)
    refine Cw.seq ?_
    refine Cw.region ?_
    refine Lw.val (Ex.ldA (ag_28 _) (sz_28 _) rfl rfl (by assumption)) rfl ?_
    refine Lw.unit (Xu.stA (cs := [zx, zy]) rfl rfl rfl rfl (by simp [M.sh.one', M.sly.one']) b_r5 rfl) ?_
    rintro w9 ⟨b_r9, hg9, -⟩
    have M9 := M.keep hg9 (by rintro _ ⟨⟩; omega)
    have hB9 := (bt hB hw).grown hg9 (below_size (bt hB hw)) (by rintro _ ⟨⟩; omega)
    refine Lw.nil ?_
    refine Pw.thenN (Cw.out ?_)
    refine Cw.ret ?_
    refine Pw.retC rfl rfl (by assumption) (Try.underlying28) rfl rfl rfl ?_
    exact ⟨T4.mk zx zy [(m : Int), (n : Int)] c, rfl, mine_at M9, ⟨rfl, lc, m1, n1⟩, hB9⟩

theorem same7_c (a b : T4) (w : World) (ha : a.at w) (hb : b.at w) (hs : a.s = b.s) (hl : a.l = b.l) :
    Fnc Try.prog 9 [a.v, b.v, .int .i64 0, .int .i64 0] w (fun r w' => r = .bool true ∧ Below w.heap.size w w') := by
  have hB := Below.refl w.heap.size w
  refine Fnc.enter (n := 20) Try.func9 (by kernel_rfl) rfl rfl rfl ?_
  refine Cw.seq ?_
  refine Cw.region ?_
  refine Lw.boxV (cs := [a.x, a.y]) rfl rfl rfl ?_
  rintro A_a w eA_a b_a hn -
  replace hB := hB.bs hn
  replace ha := ha.bs hn
  replace hb := hb.bs hn
  clear hn
  refine Lw.boxV (cs := [b.x, b.y]) rfl rfl rfl ?_
  rintro A_b w eA_b b_b hn -
  replace hB := hB.bs hn
  replace ha := ha.bs hn
  replace hb := hb.bs hn
  replace b_a := b_a.bs hn
  clear hn
  refine Lw.val (Ex.assign rfl) rfl ?_
  refine Lw.nil ?_
  refine Pw.thenN (Cw.out ?_)
  refine Cw.seq ?_
  refine Cw.region ?_
  refine Lw.val (Ex.move rfl) rfl ?_
  refine Lw.val (Ex.eql rfl rfl) rfl ?_
  refine Lw.val (Ex.move rfl) rfl ?_
  refine Lw.know 11 (v' := .bool true) rfl (congrArg Value.bool (rfl)) ?_
  refine Lw.take (dj := 11) rfl rfl ?_
  refine Lw.val (Ex.move rfl) rfl ?_
  refine Lw.take (dj := 11) rfl rfl ?_
  refine Lw.val (Ex.eql rfl rfl) rfl ?_
  refine Lw.val (Ex.pickT rfl rfl) rfl ?_
  refine Lw.val (Ex.move rfl) rfl ?_
  refine Lw.know 15 (v' := .bool true) rfl (congrArg Value.bool (rfl)) ?_
  refine Lw.take (dj := 15) rfl rfl ?_
  refine Lw.val (Ex.ldA (ag_28 _) (sz_28 _) rfl rfl (by assumption)) rfl ?_
  refine Lw.take (dj := 15) rfl rfl ?_
  refine Lw.val (Ex.ldA (ag_28 _) (sz_28 _) rfl rfl (by assumption)) rfl ?_
  refine Lw.take (dj := 15) rfl rfl ?_
  refine Lw.callF rfl rfl (same_c _ _ _ _ _ _ _ _ _ ha.1 ha.2 hb.1 hb.2) ?_
  rintro _ w ⟨rfl, hn⟩
  replace hB := hB.bs hn
  replace ha := ha.bs hn
  replace hb := hb.bs hn
  replace b_a := b_a.bs hn
  replace b_b := b_b.bs hn
  clear hn
  refine Lw.val (Ex.pickT rfl rfl) rfl ?_
  refine Lw.val (Ex.assign rfl) rfl ?_
  refine Lw.nil ?_
  refine Pw.thenN (Cw.out ?_)
  refine Cw.ret ?_
  refine Pw.ret1 rfl rfl ?_
  exact ⟨congrArg Value.bool (by rw [hs, hl]; simp), hB⟩
theorem prod_yes {W w : World} {r : Value} {a b : T4} {m k n : Nat} (ha : Two a m k) (hb : Two b k n) (h : Gets W w r (prdE a b) [a.s.getD 0 default, b.s.getD 1 default] (prdL a b)) :
    ∃ c : T4, r = .tuple #[c.v, .int .i64 0] ∧ c.at w ∧ Two c m n ∧ c.l = prd m k n a.l b.l := by
  obtain ⟨c, hr, hc, -, hz⟩ := h
  have e0 := ha.prdE hb
  obtain ⟨h1, h2, -⟩ := hz e0
  obtain ⟨h3, h4⟩ := ha.prod hb h1 h2
  exact ⟨c, by rw [hr, e0], hc, h3, h4⟩
theorem two_of {α : Type} {l : List α} (h : l.length = 2) : ∃ a b, l = [a, b] := by
  match l, h with
  | [a, b], _ => exact ⟨a, b, rfl⟩
theorem three_of {α : Type} {l : List α} (h : l.length = 3) : ∃ a b c, l = [a, b, c] := by
  match l, h with
  | [a, b, c], _ => exact ⟨a, b, c, rfl⟩
theorem four_of {α : Type} {l : List α} (h : l.length = 4) : ∃ a b c d, l = [a, b, c, d] := by
  match l, h with
  | [a, b, c, d], _ => exact ⟨a, b, c, d, rfl⟩

end Go.Proofs.Ytdliencelkdibaa
