/- Each place among all is that of just one list of places, and back; these rise as lists do: for any numbers; no condition. -/
import Derived.Test.YtaliinkmeokonaaShapesLaw
import Derived.Test.YtaliinkmeokonaaOpen
import Derived.Test.YtaliinkmeokonaaRows
namespace Go.Proofs.Ytaliinkmeokonaa
open Go Go.Dd Go.RowKit Go.ChangeShapes Go.WideShapes Go.ChangeAt

theorem own : ownKnob Try.prog.godebug = none := by kernel_rfl
theorem laidOut : laidOutB Try.prog = true := by kernel_rfl

theorem back_at {s : List Int} (hs : Shapes.ok s = true) {i : Int} (h0 : 0 ≤ i) (h1 : i < Shapes.size s) : Shapes.ate s i = 0 ∧ Shapes.index s (Shapes.atl s i) = (i, 0) ∧ (Shapes.atl s i).length = s.length := by
  have g := ((Shapes.ok_iff s).1 hs).2.1
  have hz := Shapes.size_ok hs
  have e : Shapes.atl s i = Shapes.place s i := by rw [Shapes.atl, if_pos ⟨h0, h1⟩]
  refine ⟨by rw [Shapes.ate, if_pos ⟨h0, h1⟩], ?_, by rw [e, Shapes.place_length]⟩
  rw [e, Shapes.index, hs, Shapes.place_in h0 g, Shapes.idx_place h0 g, Int.emod_eq_of_lt h0 (by omega)]
  rfl
theorem back_lex {s : List Int} (hs : Shapes.ok s = true) {i : Int} (h0 : 1 ≤ i) (h1 : i < Shapes.size s) : Shapes.lex (Shapes.atl s (i - 1)) (Shapes.atl s i) = true := by
  have g := ((Shapes.ok_iff s).1 hs).2.1
  have hz := Shapes.size_ok hs
  rw [Shapes.atl, if_pos ⟨by omega, by omega⟩, Shapes.atl, if_pos ⟨by omega, by omega⟩, Shapes.lex_iff g (Shapes.place_in (by omega) g) (Shapes.place_in (by omega) g), Shapes.idx_place (by omega) g, Shapes.idx_place (by omega) g, Int.emod_eq_of_lt (by omega) (by omega), Int.emod_eq_of_lt (by omega) (by omega)]
  omega
theorem atl_out {s : List Int} {i : Int} (h : i < 0 ∨ Shapes.size s ≤ i) : Shapes.ate s i = 1 := by rw [Shapes.ate, if_neg (by omega)]

theorem shapesBack_w (v : Value) (s : List Int) (w : World) (hv : SlT (Value.int .i64) w v s) :
    Fnc Try.prog 3 [v] w (fun r w' => r = .bool true ∧ Below w.heap.size w w') := by
  have hle := hv.le
  have hsz := Shapes.size_le s
  refine Fnc.enter (n := 90) Try.func3 (by kernel_rfl) rfl rfl rfl ?_
  refine Cw.seq ?_
  refine Cw.region ?_
  refine Lw.val (Ex.assign rfl) rfl ?_
  refine Lw.nil ?_
  refine Pw.thenN (Cw.out ?_)
  refine Cw.seq ?_
  refine Cw.seq ?_
  refine Cw.region ?_
  refine Lw.callF rfl rfl (alive_c w) ?_
  rintro _ w1 ⟨rfl, hB1⟩
  have hv1 := hv.bs hB1
  refine Lw.val (Ex.not rfl) rfl ?_
  refine Lw.val (Ex.move rfl) rfl ?_
  refine Lw.know 16 (v' := .bool false) rfl (congrArg Value.bool (rfl)) ?_
  refine Lw.take (dj := 16) rfl rfl ?_
  refine Lw.val (Ex.move rfl) rfl ?_
  refine Lw.take (dj := 16) rfl rfl ?_
  refine Lw.val (Ex.lenS st_22 rfl (by assumption)) rfl ?_
  refine Lw.take (dj := 16) rfl rfl ?_
  refine Lw.val (Ex.gtr rfl rfl) rfl ?_
  refine Lw.val (Ex.pickF rfl rfl) rfl ?_
  refine Lw.nil ?_
  refine Pw.thenN (Cw.out ?_)
  refine Cw.cond rfl ?_ ?_
  · intro _
    refine Cw.seq ?_
    refine Cw.region ?_
    refine Lw.callF rfl rfl (alive_c w1) ?_
    rintro _ w2 ⟨rfl, hB2⟩
    refine Lw.val (Ex.assign rfl) rfl ?_
    refine Lw.nil ?_
    refine Pw.thenN (Cw.out ?_)
    refine Cw.ret ?_
    refine Pw.thenR ?_
    refine Pw.ret1 rfl rfl ?_
    exact ⟨rfl, bt hB1 hB2⟩
  intro _
  refine Cw.skip ?_
  refine Pw.thenN (Cw.out ?_)
  refine Cw.seq ?_
  refine Cw.region ?_
  refine Lw.val (Ex.move rfl) rfl ?_
  refine Lw.callF rfl rfl (size_c v s w1 hv1) ?_
  rintro _ w2 ⟨rfl, hB2⟩
  have hB2' := bt hB1 hB2
  refine Lw.val (Ex.assign rfl) rfl ?_
  refine Lw.nil ?_
  refine Pw.thenN (Cw.out ?_)
  refine Cw.seq ?_
  refine Cw.seq ?_
  refine Cw.region ?_
  refine Lw.val (Ex.move rfl) rfl ?_
  refine Lw.val (Ex.gtr rfl rfl) rfl ?_
  refine Lw.val (Ex.move rfl) rfl ?_
  refine Lw.callF rfl rfl (check_c v s w2 (hv.bs hB2')) ?_
  rintro _ w3 ⟨rfl, hB3⟩
  have hB3' := bt hB2' hB3
  refine Lw.val (Ex.neqB un_4 rfl rfl) rfl ?_
  refine Lw.nil ?_
  refine Pw.thenN (Cw.out ?_)
  refine Cw.condB rfl false (by rw [Shapes.size_pos]; simp) ?_
  refine Cw.skip ?_
  refine Pw.thenN (Cw.out ?_)
  refine Cw.seq ?_
  refine Cw.region ?_
  refine Lw.val (Ex.assign rfl) rfl ?_
  refine Lw.nil ?_
  refine Pw.thenN (Cw.out ?_)
  refine Cw.seq ?_
  refine Cw.seq ?_
  refine Cw.region ?_
  refine Lw.val (Ex.assign rfl) rfl ?_
  refine Lw.nil ?_
  refine Pw.thenN (Cw.out ?_)
  refine Cw.block ?_
  refine Cw.loop (S := (Nat × Value)) (fun t => [(0, v), (3, .int .i64 (Shapes.size s)), (4, t.2), (5, .int .i64 (t.1 : Int))]) (fun t w' => (t.1 : Int) ≤ Shapes.size s ∧ (1 ≤ t.1 → SlT (Value.int .i64) w' t.2 (Shapes.atl s ((t.1 : Int) - 1))) ∧ Below w.heap.size w w') (fun t => (Shapes.size s).toNat - t.1) ((0, .slice none 0 0)) ⟨rfl, rfl, rfl, rfl, trivial⟩ ?_ ?_
  · exact ⟨by simpa using hsz.1, by simp, hB3'⟩
  rintro ⟨i, la⟩ w4 ⟨hi, hla, hB4⟩
  dsimp only at hi hla ⊢
  have hv4 := hv.bs hB4
  refine Cw.seq ?_
  refine Cw.seq ?_
  refine Cw.region ?_
  refine Lw.val (Ex.move rfl) rfl ?_
  refine Lw.val (Ex.move rfl) rfl ?_
  refine Lw.val (Ex.lss rfl rfl) rfl ?_
  refine Lw.nil ?_
  refine Pw.thenN (Cw.out ?_)
  refine Cw.cond rfl ?_ ?_
  · intro h
    have hi' : (i : Int) < Shapes.size s := of_decide_eq_true h
    have hok : Shapes.ok s = true := decide_eq_true (by omega)
    obtain ⟨q1, q2, q3⟩ := back_at hok (i := (i : Int)) (by omega) hi'
    refine Cw.skip ?_
    refine Pw.thenN (Cw.out ?_)
    refine Cw.seq ?_
    refine Cw.block ?_
    refine Cw.seq ?_
    refine Cw.region ?_
    refine Lw.val (Ex.move rfl) rfl ?_
    refine Lw.val (Ex.move rfl) rfl ?_
    refine Lw.callF rfl rfl (at_c s v (i : Int) w4 hv4) ?_
    rintro _ w5 ⟨x, rfl, hx, hB5⟩
    have hB5' := bt hB4 hB5
    have hxs := hx.sl
    refine Lw.val (Ex.move rfl) rfl ?_
    refine Lw.val (Ex.extract (i := 0) rfl rfl) rfl ?_
    refine Lw.val (Ex.extract (i := 1) rfl rfl) rfl ?_
    refine Lw.val (Ex.assign rfl) rfl ?_
    refine Lw.val (Ex.assign rfl) rfl ?_
    refine Lw.nil ?_
    refine Pw.thenN (Cw.out ?_)
    refine Cw.seq ?_
    refine Cw.region ?_
    refine Lw.val (Ex.move rfl) rfl ?_
    refine Lw.val (Ex.move rfl) rfl ?_
    refine Lw.callF rfl rfl (index_c s (Shapes.atl s i) v x w5 (hv.bs hB5') hxs) ?_
    rintro _ w6 ⟨rfl, hB6⟩
    have hB6' := bt hB5' hB6
    have hx6 := hxs.bs hB6
    have hv6 := hv.bs hB6'
    rw [q1, q2]
    refine Lw.val (Ex.move rfl) rfl ?_
    refine Lw.val (Ex.extract (i := 0) rfl rfl) rfl ?_
    refine Lw.val (Ex.extract (i := 1) rfl rfl) rfl ?_
    refine Lw.val (Ex.assign rfl) rfl ?_
    refine Lw.val (Ex.assign rfl) rfl ?_
    refine Lw.nil ?_
    refine Pw.thenN (Cw.out ?_)
    refine Cw.seq ?_
    refine Cw.seq ?_
    refine Cw.region ?_
    refine Lw.val (Ex.move rfl) rfl ?_
    refine Lw.val (Ex.neq rfl rfl) rfl ?_
    refine Lw.val (Ex.move rfl) rfl ?_
    refine Lw.know 48 (v' := .bool false) rfl (congrArg Value.bool (rfl)) ?_
    refine Lw.take (dj := 48) rfl rfl ?_
    refine Lw.val (Ex.move rfl) rfl ?_
    refine Lw.take (dj := 48) rfl rfl ?_
    refine Lw.val (Ex.neq rfl rfl) rfl ?_
    refine Lw.val (Ex.pickF rfl rfl) rfl ?_
    refine Lw.val (Ex.move rfl) rfl ?_
    refine Lw.know 52 (v' := .bool false) rfl (congrArg Value.bool (rfl)) ?_
    refine Lw.take (dj := 52) rfl rfl ?_
    refine Lw.val (Ex.move rfl) rfl ?_
    refine Lw.take (dj := 52) rfl rfl ?_
    refine Lw.val (Ex.move rfl) rfl ?_
    refine Lw.take (dj := 52) rfl rfl ?_
    refine Lw.val (Ex.neq rfl rfl) rfl ?_
    refine Lw.val (Ex.pickF rfl rfl) rfl ?_
    refine Lw.val (Ex.move rfl) rfl ?_
    refine Lw.know 57 (v' := .bool false) rfl (congrArg Value.bool (by simp)) ?_
    refine Lw.take (dj := 57) rfl rfl ?_
    refine Lw.val (Ex.move rfl) rfl ?_
    refine Lw.take (dj := 57) rfl rfl ?_
    refine Lw.val (Ex.lenS st_22 rfl (by assumption)) rfl ?_
    refine Lw.take (dj := 57) rfl rfl ?_
    refine Lw.val (Ex.move rfl) rfl ?_
    refine Lw.take (dj := 57) rfl rfl ?_
    refine Lw.val (Ex.lenS st_22 rfl (by assumption)) rfl ?_
    refine Lw.take (dj := 57) rfl rfl ?_
    refine Lw.val (Ex.neq rfl rfl) rfl ?_
    refine Lw.val (Ex.pickF rfl rfl) rfl ?_
    refine Lw.nil ?_
    refine Pw.thenN (Cw.out ?_)
    refine Cw.condB rfl false (by rw [q3]; simp) ?_
    refine Cw.skip ?_
    refine Pw.thenN (Cw.out ?_)
    refine Cw.seq ?_
    refine Cw.seq ?_
    refine Cw.region ?_
    refine Lw.val (Ex.move rfl) rfl ?_
    refine Lw.val (Ex.gtr rfl rfl) rfl ?_
    refine Lw.val (Ex.move rfl) rfl ?_
    refine Lw.part 66 rfl ?_ ?_
    · intro g
      have g1 : 1 ≤ i := by simp at g; omega
      have hla5 := (hla g1).bs (bt hB5 hB6)
      refine Lw.take (dj := 66) rfl rfl ?_
      refine Lw.val (Ex.move rfl) rfl ?_
      refine Lw.take (dj := 66) rfl rfl ?_
      refine Lw.val (Ex.move rfl) rfl ?_
      refine Lw.take (dj := 66) rfl rfl ?_
      refine Lw.callF rfl rfl (rises_c la x (Shapes.atl s ((i : Int) - 1)) (Shapes.atl s (i : Int)) w6 hla5 hx6 (by rw [q3, (back_at hok (i := (i : Int) - 1) (by omega) (by omega)).2.2]; exact Nat.le_refl _)) ?_
      rintro _ w7 ⟨rfl, hB7⟩
      rw [back_lex hok (by omega) hi']
      refine Lw.take (dj := 66) rfl rfl ?_
      refine Lw.val (Ex.not rfl) rfl ?_
      refine Lw.val (Ex.pickT rfl rfl) rfl ?_
      refine Lw.nil ?_
      refine Pw.thenN (Cw.out ?_)
      refine Cw.condB rfl false (rfl) ?_
      refine Cw.skip ?_
      refine Pw.thenN (Cw.out ?_)
      refine Cw.region ?_
      refine Lw.val (Ex.move rfl) rfl ?_
      refine Lw.val (Ex.assign rfl) rfl ?_
      refine Lw.nil ?_
      refine Pw.blkN ?_
      refine Pw.thenN (Cw.out ?_)
      refine Cw.region ?_
      refine Lw.val (Ex.move rfl) rfl ?_
      refine Lw.val (Ex.addI rfl rfl (by omega)) rfl ?_
      refine Lw.val (Ex.assign rfl) rfl ?_
      refine Lw.nil ?_
      exact Pw.thenN (Pw.next ((i + 1, x)) ⟨rfl, rfl, rfl, rfl, trivial⟩ (⟨by simp only; omega, fun _ => by simpa using hx6.bs hB7, bt hB6' hB7⟩) (by simp only; omega))
    · intro g
      refine Lw.pass (dj := 66) rfl rfl rfl rfl ?_
      refine Lw.pass (dj := 66) rfl rfl rfl rfl ?_
      refine Lw.pass (dj := 66) rfl rfl rfl rfl ?_
      refine Lw.pass (dj := 66) rfl rfl rfl rfl ?_
      refine Lw.val (Ex.pickF rfl rfl) rfl ?_
      refine Lw.nil ?_
      refine Pw.thenN (Cw.out ?_)
      refine Cw.condF rfl ?_
      refine Cw.skip ?_
      refine Pw.thenN (Cw.out ?_)
      refine Cw.region ?_
      refine Lw.val (Ex.move rfl) rfl ?_
      refine Lw.val (Ex.assign rfl) rfl ?_
      refine Lw.nil ?_
      refine Pw.blkN ?_
      refine Pw.thenN (Cw.out ?_)
      refine Cw.region ?_
      refine Lw.val (Ex.move rfl) rfl ?_
      refine Lw.val (Ex.addI rfl rfl (by omega)) rfl ?_
      refine Lw.val (Ex.assign rfl) rfl ?_
      refine Lw.nil ?_
      exact Pw.thenN (Pw.next ((i + 1, x)) ⟨rfl, rfl, rfl, rfl, trivial⟩ (⟨by simp only; omega, fun _ => by simpa using hx6, hB6'⟩) (by simp only; omega))
  · intro h
    refine Cw.exit ?_
    refine Pw.thenE ?_
    refine Pw.thenE ?_
    refine Pw.blkHit ?_
    refine Pw.thenN (Cw.out ?_)
    refine Cw.seq ?_
    refine Cw.region ?_
    refine Lw.val (Ex.move rfl) rfl ?_
    refine Lw.val (Ex.move rfl) rfl ?_
    refine Lw.callF rfl rfl (at_c s v (Shapes.size s) w4 hv4) ?_
    rintro _ w5 ⟨x, rfl, hx, hB5⟩
    have hB5' := bt hB4 hB5
    refine Lw.val (Ex.move rfl) rfl ?_
    refine Lw.val (Ex.extract (i := 0) rfl rfl) rfl ?_
    refine Lw.val (Ex.extract (i := 1) rfl rfl) rfl ?_
    refine Lw.val (Ex.assign rfl) rfl ?_
    refine Lw.val (Ex.assign rfl) rfl ?_
    refine Lw.nil ?_
    refine Pw.thenN (Cw.out ?_)
    refine Cw.seq ?_
    refine Cw.region ?_
    refine Lw.val (Ex.move rfl) rfl ?_
    refine Lw.callF rfl rfl (at_c s v (-1) w5 (hv.bs hB5')) ?_
    rintro _ w6 ⟨y, rfl, hy, hB6⟩
    have hB6' := bt hB5' hB6
    rw [atl_out (.inr (Int.le_refl _)), atl_out (.inl (by decide))]
    refine Lw.val (Ex.move rfl) rfl ?_
    refine Lw.val (Ex.extract (i := 0) rfl rfl) rfl ?_
    refine Lw.val (Ex.extract (i := 1) rfl rfl) rfl ?_
    refine Lw.val (Ex.assign rfl) rfl ?_
    refine Lw.val (Ex.assign rfl) rfl ?_
    refine Lw.nil ?_
    refine Pw.thenN (Cw.out ?_)
    refine Cw.seq ?_
    refine Cw.region ?_
    refine Lw.val (Ex.move rfl) rfl ?_
    refine Lw.val (Ex.eql rfl rfl) rfl ?_
    refine Lw.val (Ex.move rfl) rfl ?_
    refine Lw.know 86 (v' := .bool true) rfl (congrArg Value.bool (rfl)) ?_
    refine Lw.take (dj := 86) rfl rfl ?_
    refine Lw.val (Ex.move rfl) rfl ?_
    refine Lw.take (dj := 86) rfl rfl ?_
    refine Lw.val (Ex.eql rfl rfl) rfl ?_
    refine Lw.val (Ex.pickT rfl rfl) rfl ?_
    refine Lw.val (Ex.assign rfl) rfl ?_
    refine Lw.nil ?_
    refine Pw.thenN (Cw.out ?_)
    refine Cw.ret ?_
    refine Pw.ret1 rfl rfl ?_
    exact ⟨rfl, hB6'⟩

set_option maxRecDepth 100000 in
theorem shapesBack_lifted (os : Os) (started : os.Started) (H : Type) (enc : TypeId × Value → H) :
    ReturnsInHanded {} Try.checked os 3 .any (Rows.shapesBackSpec.pre6 enc Try.prog Try.f3 Rows.shapesBackRow.domain false) (Rows.shapesBackSpec.post enc Try.prog Try.f3 false true false false) := by
  refine returnsInHanded_of_change_sized (C := Try.checked) own started (by kernel_rfl) Try.func3
    (ChangeSpec.witness6 (enc := enc) (C := Try.checked) false ⟨#[], #[.slice none 0 0], []⟩ 8 (by kernel_rfl) (by kernel_rfl) (by kernel_rfl) (by kernel_rfl)) ?_
  intro W base args ds gs before hval0 hW hcnd hsz0 _
  have hval : ∀ (j : Nat) t v, Try.f3.params[j]? = some t → args[j]? = some v → Value.okWide Try.prog W .any base t v := hval0
  have hW' := hW
  obtain ⟨p, q, hA0, hV, rfl, hfz, hnd⟩ := hW
  have hA : DataW.TrodAll enc Try.prog W 0 (fun _ => true) true Try.f3.params.toList args.toList ds p := hA0
  have hsz : (DataW.weightsEach Try.prog (Try.f3.params.toList ++ Rows.shapesBackSpec.plain.varTypes Try.prog) (ds ++ gs)).all (· ≤ reachBytes) = true := hsz0
  rw [Try.params3] at hA hval hsz
  obtain ⟨v0, vs0, d0, ds0, p0, q0, hargs, rfl, rfl, h0, r0⟩ := trodAll_cons hA
  obtain ⟨rfl, rfl, rfl⟩ := trodAll_nil r0
  obtain rfl : args = #[v0] := by cases args; simp_all
  obtain ⟨rfl, rfl⟩ := trodVars_none hV
  have k0 := h0
  have lt0 : ∀ x ∈ p0, x.block < W.heap.size := by obtain ⟨m, hm⟩ := k0; exact DataW.trod_lt m _ _ _ hm
  have i0 := in_of (j := 0) (t := 22) hsz rfl rfl h0
  have o0 := hval 0 22 v0 rfl rfl
  clear hA0 hval0 hsz0 hsz
  obtain ⟨l, hl, -⟩ := arg_slT un_22 (by kernel_rfl) (fun cs h => (In.int un_3 h).imp fun _ h => h.1) o0 i0
  refine (law_calls (shapesBack_w v0 l W hl)).mono fun e W' ⟨he, bel⟩ => ?_
  subst he
  exact ⟨_, rfl, _, _, _, [], _, [], hW', trodAll_mk1 (shut_bool un_4 _), (trodAll_cons_mk (Below.trod laidOut (by kernel_rfl) (of_decide_eq_true (by kernel_rfl)) k0 bel lt0) trodAll_mk0), rfl, bel.frame _, fun h => by cases h⟩

/-- The statement. -/
theorem shapesBack_proved : Rows.ShapesBackSaid :=
  OpenClaim.holds_of_wide 3 Try.f3 rfl rfl rfl rfl rfl rfl rfl ⟨rfl, rfl, rfl, rfl, rfl⟩ rfl rfl rfl rfl rfl (by kernel_rfl) Try.func3 (by kernel_rfl)
    (of_decide_eq_true (by kernel_rfl)) (by unfold Func.isWrapper; first | (rw [if_pos (by decide +kernel)]; kernel_rfl) | (rw [if_neg (by decide +kernel)]; exact ⟨rfl, rfl⟩))
    (fun os started H enc _ => shapesBack_lifted os started H enc)
#print axioms shapesBack_proved
end Go.Proofs.Ytaliinkmeokonaa
