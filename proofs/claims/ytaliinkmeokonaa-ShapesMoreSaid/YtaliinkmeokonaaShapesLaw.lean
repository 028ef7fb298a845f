/- Contracts: what the statements on shapes use besides. -/
import Derived.Test.YtaliinkmeokonaaShapesCode
import Derived.Test.YtaliinkmeokonaaTwins
namespace Go.Proofs.Ytaliinkmeokonaa
open Go Go.Dd Go.RowKit

theorem ints_c (v : Value) (w : World) : Fnc Try.prog 13 [v] w (fun r w' => r = v ∧ Below w.heap.size w w') := by
  refine Fnc.enter (n := 4) Try.func13 (by kernel_rfl) rfl rfl rfl ?_
  refine Cw.seq ?_
  refine Cw.region ?_
  refine Lw.val (Ex.assign rfl) rfl ?_
  refine Lw.nil ?_
  refine Pw.thenN (Cw.out ?_)
  refine Cw.seq ?_
  refine Cw.region ?_
  refine Lw.val (Ex.move rfl) rfl ?_
  refine Lw.val (Ex.assign rfl) rfl ?_
  refine Lw.nil ?_
  refine Pw.thenN (Cw.out ?_)
  refine Cw.ret ?_
  refine Pw.ret1 rfl rfl ?_
  exact ⟨rfl, Below.refl _ _⟩

theorem alive_c (w0 : World) : Fnc Try.prog 7 [] w0 (fun r w' => r = .bool true ∧ Below w0.heap.size w0 w') := by
  have hB0 := Below.refl w0.heap.size w0
  refine Fnc.enter (n := 86) Try.func7 (by kernel_rfl) rfl rfl rfl ?_
  refine Cw.seq ?_
  refine Cw.region ?_
  refine Lw.val (Ex.assign rfl) rfl ?_
  refine Lw.nil ?_
  refine Pw.thenN (Cw.out ?_)
  refine Cw.seq ?_
  refine Cw.region ?_
  refine Lw.valW (Xw.lit (vs := [2, 3].map (Value.int .i64)) st_22 it_3 rfl rfl rfl rfl rfl) rfl ?_
  rintro u1 w1 ⟨ho, -, b1, -⟩
  have hB1 := bt hB0 b1
  have hu1 := own_sl ho
  refine Lw.callF rfl rfl (ints_c u1 w1) ?_
  rintro u1 w2 ⟨rfl, b2⟩
  have hB2 := bt hB1 b2
  have hu1 := hu1.bs b2
  refine Lw.valW (Xw.lit (vs := [1, 2].map (Value.int .i64)) st_22 it_3 rfl rfl rfl rfl rfl) rfl ?_
  rintro u3 w3 ⟨ho, -, b3, -⟩
  have hB3 := bt hB2 b3
  have hu3 := own_sl ho
  refine Lw.callF rfl rfl (ints_c u3 w3) ?_
  rintro u3 w4 ⟨rfl, b4⟩
  have hB4 := bt hB3 b4
  have hu3 := hu3.bs b4
  refine Lw.callF rfl rfl (index_c [2, 3] [1, 2] u1 u3 w4 (hu1.bs (bt b3 b4)) hu3) ?_
  rintro _ w5 ⟨rfl, b5⟩
  have hB5 := bt hB4 b5
  refine Lw.val (Ex.move rfl) rfl ?_
  refine Lw.val (Ex.extract (i := 0) rfl rfl) rfl ?_
  refine Lw.val (Ex.extract (i := 1) rfl rfl) rfl ?_
  refine Lw.val (Ex.assign rfl) rfl ?_
  refine Lw.val (Ex.assign rfl) rfl ?_
  refine Lw.nil ?_
  refine Pw.thenN (Cw.out ?_)
  refine Cw.seq ?_
  refine Cw.region ?_
  refine Lw.valW (Xw.lit (vs := [2, 3].map (Value.int .i64)) st_22 it_3 rfl rfl rfl rfl rfl) rfl ?_
  rintro u6 w6 ⟨ho, -, b6, -⟩
  have hB6 := bt hB5 b6
  have hu6 := own_sl ho
  refine Lw.callF rfl rfl (ints_c u6 w6) ?_
  rintro u6 w7 ⟨rfl, b7⟩
  have hB7 := bt hB6 b7
  have hu6 := hu6.bs b7
  refine Lw.callF rfl rfl (at_c [2, 3] u6 4 w7 hu6) ?_
  rintro _ w8 ⟨xa, rfl, hx, b8⟩
  have hB8 := bt hB7 b8
  have hxa := hx.sl
  refine Lw.val (Ex.move rfl) rfl ?_
  refine Lw.val (Ex.extract (i := 0) rfl rfl) rfl ?_
  refine Lw.val (Ex.extract (i := 1) rfl rfl) rfl ?_
  refine Lw.val (Ex.assign rfl) rfl ?_
  refine Lw.val (Ex.assign rfl) rfl ?_
  refine Lw.nil ?_
  refine Pw.thenN (Cw.out ?_)
  refine Cw.seq ?_
  refine Cw.region ?_
  refine Lw.valW (Xw.lit (vs := [2, 3].map (Value.int .i64)) st_22 it_3 rfl rfl rfl rfl rfl) rfl ?_
  rintro u9 w9 ⟨ho, -, b9, -⟩
  have hB9 := bt hB8 b9
  have hu9 := own_sl ho
  refine Lw.callF rfl rfl (ints_c u9 w9) ?_
  rintro u9 w10 ⟨rfl, b10⟩
  have hB10 := bt hB9 b10
  have hu9 := hu9.bs b10
  refine Lw.callF rfl rfl (at_c [2, 3] u9 6 w10 hu9) ?_
  rintro _ w11 ⟨xb, rfl, hx, b11⟩
  have hB11 := bt hB10 b11
  refine Lw.val (Ex.move rfl) rfl ?_
  refine Lw.val (Ex.extract (i := 0) rfl rfl) rfl ?_
  refine Lw.val (Ex.extract (i := 1) rfl rfl) rfl ?_
  refine Lw.val (Ex.assign rfl) rfl ?_
  refine Lw.val (Ex.assign rfl) rfl ?_
  refine Lw.nil ?_
  refine Pw.thenN (Cw.out ?_)
  refine Cw.seq ?_
  refine Cw.region ?_
  refine Lw.valW (Xw.lit (vs := [2, 3].map (Value.int .i64)) st_22 it_3 rfl rfl rfl rfl rfl) rfl ?_
  rintro u12 w12 ⟨ho, -, b12, -⟩
  have hB12 := bt hB11 b12
  have hu12 := own_sl ho
  refine Lw.callF rfl rfl (ints_c u12 w12) ?_
  rintro u12 w13 ⟨rfl, b13⟩
  have hB13 := bt hB12 b13
  have hu12 := hu12.bs b13
  refine Lw.callF rfl rfl (size_c u12 [2, 3] w13 hu12) ?_
  rintro _ w14 ⟨rfl, b14⟩
  have hB14 := bt hB13 b14
  refine Lw.val (Ex.eql rfl rfl) rfl ?_
  refine Lw.val (Ex.move rfl) rfl ?_
  refine Lw.know 31 (v' := .bool true) rfl (congrArg Value.bool (by decide)) ?_
  refine Lw.take (dj := 31) rfl rfl ?_
  refine Lw.val (Ex.move rfl) rfl ?_
  refine Lw.take (dj := 31) rfl rfl ?_
  refine Lw.val (Ex.eql rfl rfl) rfl ?_
  refine Lw.val (Ex.pickT rfl rfl) rfl ?_
  refine Lw.val (Ex.move rfl) rfl ?_
  refine Lw.know 35 (v' := .bool true) rfl (congrArg Value.bool (by decide)) ?_
  refine Lw.take (dj := 35) rfl rfl ?_
  refine Lw.val (Ex.move rfl) rfl ?_
  refine Lw.take (dj := 35) rfl rfl ?_
  refine Lw.val (Ex.eql rfl rfl) rfl ?_
  refine Lw.val (Ex.pickT rfl rfl) rfl ?_
  refine Lw.val (Ex.move rfl) rfl ?_
  refine Lw.know 39 (v' := .bool true) rfl (congrArg Value.bool (by decide)) ?_
  refine Lw.take (dj := 39) rfl rfl ?_
  refine Lw.val (Ex.move rfl) rfl ?_
  refine Lw.take (dj := 39) rfl rfl ?_
  refine Lw.valW (Xw.lit (vs := [1, 1].map (Value.int .i64)) st_22 it_3 rfl rfl rfl rfl rfl) rfl ?_
  rintro u15 w15 ⟨ho, -, b15, -⟩
  have hB15 := bt hB14 b15
  have hu15 := own_sl ho
  refine Lw.take (dj := 39) rfl rfl ?_
  refine Lw.callF rfl rfl (ints_c u15 w15) ?_
  rintro u15 w16 ⟨rfl, b16⟩
  have hB16 := bt hB15 b16
  have hu15 := hu15.bs b16
  refine Lw.take (dj := 39) rfl rfl ?_
  refine Lw.callF rfl rfl (sameInts_c xa u15 (Shapes.atl [2, 3] 4) [1, 1] w16 (hxa.bs (bt (bt (bt (bt (bt (bt (bt (b9) b10) b11) b12) b13) b14) b15) b16)) hu15) ?_
  rintro _ w17 ⟨rfl, b17⟩
  have hB17 := bt hB16 b17
  refine Lw.val (Ex.pickT rfl rfl) rfl ?_
  refine Lw.val (Ex.move rfl) rfl ?_
  refine Lw.know 45 (v' := .bool true) rfl (congrArg Value.bool (by decide)) ?_
  refine Lw.take (dj := 45) rfl rfl ?_
  refine Lw.val (Ex.move rfl) rfl ?_
  refine Lw.take (dj := 45) rfl rfl ?_
  refine Lw.val (Ex.eql rfl rfl) rfl ?_
  refine Lw.val (Ex.pickT rfl rfl) rfl ?_
  refine Lw.val (Ex.move rfl) rfl ?_
  refine Lw.know 49 (v' := .bool true) rfl (congrArg Value.bool (by decide)) ?_
  refine Lw.take (dj := 49) rfl rfl ?_
  refine Lw.val (Ex.move rfl) rfl ?_
  refine Lw.take (dj := 49) rfl rfl ?_
  refine Lw.val (Ex.eql rfl rfl) rfl ?_
  refine Lw.val (Ex.pickT rfl rfl) rfl ?_
  refine Lw.val (Ex.move rfl) rfl ?_
  refine Lw.know 53 (v' := .bool true) rfl (congrArg Value.bool (by decide)) ?_
  refine Lw.take (dj := 53) rfl rfl ?_
  refine Lw.callF rfl rfl (check_c _ [] w17 (Sl.nil _ 1)) ?_
  rintro _ w18 ⟨rfl, b18⟩
  have hB18 := bt hB17 b18
  refine Lw.take (dj := 53) rfl rfl ?_
  refine Lw.val (Ex.not rfl) rfl ?_
  refine Lw.val (Ex.pickT rfl rfl) rfl ?_
  refine Lw.val (Ex.move rfl) rfl ?_
  refine Lw.know 57 (v' := .bool true) rfl (congrArg Value.bool (by decide)) ?_
  refine Lw.take (dj := 57) rfl rfl ?_
  refine Lw.valW (Xw.lit (vs := [64, 64].map (Value.int .i64)) st_22 it_3 rfl rfl rfl rfl rfl) rfl ?_
  rintro u19 w19 ⟨ho, -, b19, -⟩
  have hB19 := bt hB18 b19
  have hu19 := own_sl ho
  refine Lw.take (dj := 57) rfl rfl ?_
  refine Lw.callF rfl rfl (ints_c u19 w19) ?_
  rintro u19 w20 ⟨rfl, b20⟩
  have hB20 := bt hB19 b20
  have hu19 := hu19.bs b20
  refine Lw.take (dj := 57) rfl rfl ?_
  refine Lw.callF rfl rfl (check_c u19 [64, 64] w20 hu19) ?_
  rintro _ w21 ⟨rfl, b21⟩
  have hB21 := bt hB20 b21
  refine Lw.val (Ex.pickT rfl rfl) rfl ?_
  refine Lw.val (Ex.move rfl) rfl ?_
  refine Lw.know 62 (v' := .bool true) rfl (congrArg Value.bool (by decide)) ?_
  refine Lw.take (dj := 62) rfl rfl ?_
  refine Lw.valW (Xw.lit (vs := [64, 64, 2].map (Value.int .i64)) st_22 it_3 rfl rfl rfl rfl rfl) rfl ?_
  rintro u22 w22 ⟨ho, -, b22, -⟩
  have hB22 := bt hB21 b22
  have hu22 := own_sl ho
  refine Lw.take (dj := 62) rfl rfl ?_
  refine Lw.callF rfl rfl (ints_c u22 w22) ?_
  rintro u22 w23 ⟨rfl, b23⟩
  have hB23 := bt hB22 b23
  have hu22 := hu22.bs b23
  refine Lw.take (dj := 62) rfl rfl ?_
  refine Lw.callF rfl rfl (check_c u22 [64, 64, 2] w23 hu22) ?_
  rintro _ w24 ⟨rfl, b24⟩
  have hB24 := bt hB23 b24
  refine Lw.take (dj := 62) rfl rfl ?_
  refine Lw.val (Ex.not rfl) rfl ?_
  refine Lw.val (Ex.pickT rfl rfl) rfl ?_
  refine Lw.val (Ex.move rfl) rfl ?_
  refine Lw.know 68 (v' := .bool true) rfl (congrArg Value.bool (by decide)) ?_
  refine Lw.take (dj := 68) rfl rfl ?_
  refine Lw.valW (Xw.lit (vs := [0].map (Value.int .i64)) st_22 it_3 rfl rfl rfl rfl rfl) rfl ?_
  rintro u25 w25 ⟨ho, -, b25, -⟩
  have hB25 := bt hB24 b25
  have hu25 := own_sl ho
  refine Lw.take (dj := 68) rfl rfl ?_
  refine Lw.callF rfl rfl (ints_c u25 w25) ?_
  rintro u25 w26 ⟨rfl, b26⟩
  have hB26 := bt hB25 b26
  have hu25 := hu25.bs b26
  refine Lw.take (dj := 68) rfl rfl ?_
  refine Lw.callF rfl rfl (check_c u25 [0] w26 hu25) ?_
  rintro _ w27 ⟨rfl, b27⟩
  have hB27 := bt hB26 b27
  refine Lw.take (dj := 68) rfl rfl ?_
  refine Lw.val (Ex.not rfl) rfl ?_
  refine Lw.val (Ex.pickT rfl rfl) rfl ?_
  refine Lw.val (Ex.move rfl) rfl ?_
  refine Lw.know 74 (v' := .bool true) rfl (congrArg Value.bool (by decide)) ?_
  refine Lw.take (dj := 74) rfl rfl ?_
  refine Lw.valW (Xw.lit (vs := [1, 1, 1, 1, 1].map (Value.int .i64)) st_22 it_3 rfl rfl rfl rfl rfl) rfl ?_
  rintro u28 w28 ⟨ho, -, b28, -⟩
  have hB28 := bt hB27 b28
  have hu28 := own_sl ho
  refine Lw.take (dj := 74) rfl rfl ?_
  refine Lw.callF rfl rfl (ints_c u28 w28) ?_
  rintro u28 w29 ⟨rfl, b29⟩
  have hB29 := bt hB28 b29
  have hu28 := hu28.bs b29
  refine Lw.take (dj := 74) rfl rfl ?_
  refine Lw.callF rfl rfl (check_c u28 [1, 1, 1, 1, 1] w29 hu28) ?_
  rintro _ w30 ⟨rfl, b30⟩
  have hB30 := bt hB29 b30
  refine Lw.take (dj := 74) rfl rfl ?_
  refine Lw.val (Ex.not rfl) rfl ?_
  refine Lw.val (Ex.pickT rfl rfl) rfl ?_
  refine Lw.val (Ex.move rfl) rfl ?_
  refine Lw.know 80 (v' := .bool true) rfl (congrArg Value.bool (by decide)) ?_
  refine Lw.take (dj := 80) rfl rfl ?_
  refine Lw.valW (Xw.lit (vs := [65].map (Value.int .i64)) st_22 it_3 rfl rfl rfl rfl rfl) rfl ?_
  rintro u31 w31 ⟨ho, -, b31, -⟩
  have hB31 := bt hB30 b31
  have hu31 := own_sl ho
  refine Lw.take (dj := 80) rfl rfl ?_
  refine Lw.callF rfl rfl (ints_c u31 w31) ?_
  rintro u31 w32 ⟨rfl, b32⟩
  have hB32 := bt hB31 b32
  have hu31 := hu31.bs b32
  refine Lw.take (dj := 80) rfl rfl ?_
  refine Lw.callF rfl rfl (check_c u31 [65] w32 hu31) ?_
  rintro _ w33 ⟨rfl, b33⟩
  have hB33 := bt hB32 b33
  refine Lw.take (dj := 80) rfl rfl ?_
  refine Lw.val (Ex.not rfl) rfl ?_
  refine Lw.val (Ex.pickT rfl rfl) rfl ?_
  refine Lw.val (Ex.assign rfl) rfl ?_
  refine Lw.nil ?_
  refine Pw.thenN (Cw.out ?_)
  refine Cw.ret ?_
  refine Pw.ret1 rfl rfl ?_
  exact ⟨congrArg Value.bool (by decide), hB33⟩

theorem lex_take : ∀ {a b : List Int} {i : Nat}, i < a.length → a.length ≤ b.length → a.take i = b.take i → a.getD i default ≠ b.getD i default → Shapes.lex a b = decide (a.getD i default < b.getD i default)
  | x :: a, y :: b, 0, _, _, _, hn => by simp [Shapes.lex] at hn ⊢; simp [hn]
  | x :: a, y :: b, i + 1, h, hl, ht, hn => by
    simp at ht
    obtain ⟨rfl, ht⟩ := ht
    have := lex_take (a := a) (b := b) (i := i) (by simpa using h) (by simpa using hl) ht (by simpa using hn)
    simpa [Shapes.lex] using this
  | [], _, _, h, _, _, _ => by simp at h
  | _ :: _, [], _, _, hl, _, _ => by simp at hl
theorem lex_same : ∀ {a b : List Int}, a = b.take a.length → Shapes.lex a b = false
  | [], _, _ => by simp [Shapes.lex]
  | x :: a, [], h => by simp at h
  | x :: a, y :: b, h => by
    simp at h
    obtain ⟨rfl, h⟩ := h
    simpa [Shapes.lex] using lex_same (a := a) (b := b) h

theorem rises_c (u v : Value) (a b : List Int) (w : World) (hu : SlT (Value.int .i64) w u a) (hv : SlT (Value.int .i64) w v b) (hl : a.length ≤ b.length) : Fnc Try.prog 12 [u, v] w (fun r w' => r = .bool (Shapes.lex a b) ∧ Below w.heap.size w w') := by
  have hle := hu.le
  refine Fnc.enter (n := 30) Try.func12 (by kernel_rfl) rfl rfl rfl ?_
  refine Cw.seq ?_
  refine Cw.region ?_
  refine Lw.val (Ex.assign rfl) rfl ?_
  refine Lw.nil ?_
  refine Pw.thenN (Cw.out ?_)
  refine Cw.seq ?_
  refine Cw.seq ?_
  refine Cw.region ?_
  refine Lw.val (Ex.assign rfl) rfl ?_
  refine Lw.nil ?_
  refine Pw.thenN (Cw.out ?_)
  refine Cw.block ?_
  refine Cw.loop (S := Nat) (fun i => [(0, u), (1, v), (5, .int .i64 (i : Int))]) (fun i w' => i ≤ a.length ∧ a.take i = b.take i ∧ Below w.heap.size w w') (fun i => a.length - i) (0) ⟨rfl, rfl, rfl, trivial⟩ ?_ ?_
  · exact ⟨by omega, by simp, Below.refl _ _⟩
  rintro i w1 ⟨hi, ht, hB1⟩
  have hu1 := hu.bs hB1
  have hv1 := hv.bs hB1
  refine Cw.seq ?_
  refine Cw.seq ?_
  refine Cw.region ?_
  refine Lw.val (Ex.move rfl) rfl ?_
  refine Lw.val (Ex.move rfl) rfl ?_
  refine Lw.val (Ex.lenS st_22 rfl (by assumption)) rfl ?_
  refine Lw.val (Ex.lss rfl rfl) rfl ?_
  refine Lw.nil ?_
  refine Pw.thenN (Cw.out ?_)
  refine Cw.cond rfl ?_ ?_
  · intro h
    have hi' : i < a.length := by simp at h; omega
    refine Cw.skip ?_
    refine Pw.thenN (Cw.out ?_)
    refine Cw.seq ?_
    refine Cw.block ?_
    refine Cw.seq ?_
    refine Cw.quiet mixed (by kernel_rfl) ?_
    refine Qw.val (fun w1 hq => Ex.move rfl) rfl ?_
    refine Qw.val (fun w1 hq => Ex.move rfl) rfl ?_
    refine Qw.val (fun w1 hq => Ex.idxT st_22 rfl rfl (Sl.bs (by assumption) hq) _ rfl (by omega)) rfl ?_
    refine Qw.val (fun w1 hq => Ex.ldT (ag_3 _) rfl (Sl.bs (by assumption) hq) (by omega)) rfl ?_
    refine Qw.val (fun w1 hq => Ex.move rfl) rfl ?_
    refine Qw.val (fun w1 hq => Ex.move rfl) rfl ?_
    refine Qw.val (fun w1 hq => Ex.idxT st_22 rfl rfl (Sl.bs (by assumption) hq) _ rfl (by omega)) rfl ?_
    refine Qw.val (fun w1 hq => Ex.ldT (ag_3 _) rfl (Sl.bs (by assumption) hq) (by omega)) rfl ?_
    refine Qw.val (fun w1 hq => Ex.neq rfl rfl) rfl ?_
    refine Qw.nil (fun w2 hq => ?_)
    refine Pw.thenN (Cw.out ?_)
    have hB2 := bt hB1 hq
    have hu2 := hu.bs hB2
    have hv2 := hv.bs hB2
    refine Cw.cond rfl ?_ ?_
    · intro g
      have g' : a.getD i default ≠ b.getD i default := by simpa using g
      refine Cw.seq ?_
      refine Cw.quiet mixed (by kernel_rfl) ?_
      refine Qw.val (fun w1 hq => Ex.move rfl) rfl ?_
      refine Qw.val (fun w1 hq => Ex.move rfl) rfl ?_
      refine Qw.val (fun w1 hq => Ex.idxT st_22 rfl rfl (Sl.bs (by assumption) hq) _ rfl (by omega)) rfl ?_
      refine Qw.val (fun w1 hq => Ex.ldT (ag_3 _) rfl (Sl.bs (by assumption) hq) (by omega)) rfl ?_
      refine Qw.val (fun w1 hq => Ex.move rfl) rfl ?_
      refine Qw.val (fun w1 hq => Ex.move rfl) rfl ?_
      refine Qw.val (fun w1 hq => Ex.idxT st_22 rfl rfl (Sl.bs (by assumption) hq) _ rfl (by omega)) rfl ?_
      refine Qw.val (fun w1 hq => Ex.ldT (ag_3 _) rfl (Sl.bs (by assumption) hq) (by omega)) rfl ?_
      refine Qw.val (fun w1 hq => Ex.lss rfl rfl) rfl ?_
      refine Qw.val (fun w1 hq => Ex.assign rfl) rfl ?_
      refine Qw.nil (fun w3 hq => ?_)
      refine Pw.thenN (Cw.out ?_)
      refine Cw.ret ?_
      refine Pw.blkR ?_
      refine Pw.thenR ?_
      refine Pw.thenR ?_
      refine Pw.blkR ?_
      refine Pw.thenR ?_
      refine Pw.ret1 rfl rfl ?_
      exact ⟨by rw [lex_take hi' hl ht g'], bt hB2 hq⟩
    · intro g
      have g' : a.getD i default = b.getD i default := by simpa using g
      have hib : i < b.length := by omega
      have gg : a[i] = b[i] := by simpa [hi', hib] using g'
      refine Cw.skip ?_
      refine Pw.blkN ?_
      refine Pw.thenN (Cw.out ?_)
      refine Cw.region ?_
      refine Lw.val (Ex.move rfl) rfl ?_
      refine Lw.val (Ex.addI rfl rfl (by omega)) rfl ?_
      refine Lw.val (Ex.assign rfl) rfl ?_
      refine Lw.nil ?_
      exact Pw.thenN (Pw.next (i + 1) ⟨rfl, rfl, rfl, trivial⟩ (⟨hi', by rw [List.take_succ_eq_append_getElem hi', List.take_succ_eq_append_getElem hib, ht, gg], hB2⟩) (by omega))
  · intro h
    have hi' : i = a.length := by simp at h; omega
    subst hi'
    refine Cw.exit ?_
    refine Pw.thenE ?_
    refine Pw.thenE ?_
    refine Pw.blkHit ?_
    refine Pw.thenN (Cw.out ?_)
    refine Cw.seq ?_
    refine Cw.region ?_
    refine Lw.val (Ex.assign rfl) rfl ?_
    refine Lw.nil ?_
    refine Pw.thenN (Cw.out ?_)
    refine Cw.ret ?_
    refine Pw.ret1 rfl rfl ?_
    exact ⟨by rw [lex_same (by rw [← ht, List.take_length])], hB1⟩
