/- Directions in another order have as many numbers: for any numbers, from any one on; no condition. -/
import Derived.Test.YtaliinkmeokonaaShapesLaw
import Derived.Test.YtaliinkmeokonaaOpen
import Derived.Test.YtaliinkmeokonaaRows
namespace Go.Proofs.Ytaliinkmeokonaa
open Go Go.Dd Go.RowKit Go.ChangeShapes Go.WideShapes Go.ChangeAt

theorem own : ownKnob Try.prog.godebug = none := by kernel_rfl
theorem laidOut : laidOutB Try.prog = true := by kernel_rfl

theorem turn_size (a b : List Int) : Shapes.size (b ++ a) = Shapes.size (a ++ b) := by
  unfold Shapes.size
  rw [List.length_append, List.length_append, Nat.add_comm]
  split
  · rfl
  · rcases Shapes.tim_eq (b ++ a) 1 (by omega) (by omega) with ⟨g, l, t⟩ | ⟨g, t⟩
    · rcases Shapes.tim_eq (a ++ b) 1 (by omega) (by omega) with ⟨g', l', t'⟩ | ⟨g', t'⟩
      · rw [t, t', Shapes.prod_append, Shapes.prod_append, Int.mul_comm (Shapes.prod b)]
      · refine absurd ⟨Shapes.good_append.2 (Shapes.good_append.1 g).symm, ?_⟩ g'
        rw [Shapes.prod_append] at l ⊢; rw [Int.mul_comm (Shapes.prod a)]; exact l
    · rcases Shapes.tim_eq (a ++ b) 1 (by omega) (by omega) with ⟨g', l', t'⟩ | ⟨g', t'⟩
      · refine absurd ⟨Shapes.good_append.2 (Shapes.good_append.1 g').symm, ?_⟩ g
        rw [Shapes.prod_append] at l' ⊢; rw [Int.mul_comm (Shapes.prod b)]; exact l'
      · rw [t, t']

theorem shapesTurned_w (v : Value) (s : List Int) (q : BitVec 8) (w : World) (hv : SlT (Value.int .i64) w v s) :
    Fnc Try.prog 5 [v, b8 q] w (fun r w' => r = .bool true ∧ Below w.heap.size w w') := by
  have hle := hv.le
  refine Fnc.enter (n := 45) Try.func5 (by kernel_rfl) rfl rfl rfl ?_
  refine Cw.seq ?_
  refine Cw.region ?_
  refine Lw.val (Ex.assign rfl) rfl ?_
  refine Lw.nil ?_
  refine Pw.thenN (Cw.out ?_)
  refine Cw.seq ?_
  refine Cw.seq ?_
  refine Cw.region ?_
  refine Lw.callF rfl rfl (alive_c w) ?_
  rintro _ w1 ⟨rfl, hB1⟩
  have hv1 := hv.bs hB1
  refine Lw.val (Ex.not rfl) rfl ?_
  refine Lw.val (Ex.move rfl) rfl ?_
  refine Lw.know 9 (v' := .bool false) rfl (congrArg Value.bool (rfl)) ?_
  refine Lw.take (dj := 9) rfl rfl ?_
  refine Lw.val (Ex.move rfl) rfl ?_
  refine Lw.take (dj := 9) rfl rfl ?_
  refine Lw.val (Ex.lenS st_22 rfl (by assumption)) rfl ?_
  refine Lw.take (dj := 9) rfl rfl ?_
  refine Lw.val (Ex.gtr rfl rfl) rfl ?_
  refine Lw.val (Ex.pickF rfl rfl) rfl ?_
  refine Lw.val (Ex.move rfl) rfl ?_
  refine Lw.part 14 rfl ?_ ?_
  · intro _
    refine Lw.pass (dj := 14) rfl rfl rfl rfl ?_
    refine Lw.pass (dj := 14) rfl rfl rfl rfl ?_
    refine Lw.pass (dj := 14) rfl rfl rfl rfl ?_
    refine Lw.val (Ex.pickT rfl rfl) rfl ?_
    refine Lw.nil ?_
    refine Pw.thenN (Cw.out ?_)
    refine Cw.condT rfl ?_
    refine Cw.seq ?_
    refine Cw.region ?_
    refine Lw.callF rfl rfl (alive_c w1) ?_
    rintro _ w2 ⟨rfl, hB2⟩
    refine Lw.val (Ex.assign rfl) rfl ?_
    refine Lw.nil ?_
    refine Pw.thenN (Cw.out ?_)
    refine Cw.ret ?_
    refine Pw.thenR ?_
    refine Pw.ret1 rfl rfl ?_
    exact ⟨rfl, bt hB1 hB2⟩
  intro h1
  have h1' := of_decide_eq_false h1
  refine Lw.take (dj := 14) rfl rfl ?_
  refine Lw.val (Ex.move rfl) rfl ?_
  refine Lw.take (dj := 14) rfl rfl ?_
  refine Lw.val (Ex.lenS st_22 rfl (by assumption)) rfl ?_
  refine Lw.take (dj := 14) rfl rfl ?_
  refine Lw.val (Ex.eql rfl rfl) rfl ?_
  refine Lw.val (Ex.pickF rfl rfl) rfl ?_
  refine Lw.nil ?_
  refine Pw.thenN (Cw.out ?_)
  refine Cw.cond rfl ?_ ?_
  · intro _
    refine Cw.seq ?_
    refine Cw.region ?_
    refine Lw.callF rfl rfl (alive_c w1) ?_
    rintro _ w2 ⟨rfl, hB2⟩
    refine Lw.val (Ex.assign rfl) rfl ?_
    refine Lw.nil ?_
    refine Pw.thenN (Cw.out ?_)
    refine Cw.ret ?_
    refine Pw.thenR ?_
    refine Pw.ret1 rfl rfl ?_
    exact ⟨rfl, bt hB1 hB2⟩
  intro h2
  have h2' := of_decide_eq_false h2
  have hpos : 0 < s.length := by omega
  obtain ⟨k, hk⟩ : ∃ k, k = q.toNat % s.length := ⟨_, rfl⟩
  have hkl : k < s.length := by rw [hk]; exact Nat.mod_lt _ hpos
  refine Cw.skip ?_
  refine Pw.thenN (Cw.out ?_)
  refine Cw.seq ?_
  refine Cw.region ?_
  refine Lw.val (Ex.move rfl) rfl ?_
  refine Lw.val (Ex.conv8_I us_5 un_3 rfl) rfl ?_
  refine Lw.val (Ex.move rfl) rfl ?_
  refine Lw.val (Ex.lenS st_22 rfl (by assumption)) rfl ?_
  refine Lw.val (Ex.remN rfl rfl (by omega)) rfl ?_
  refine Lw.val (Ex.assign rfl) rfl ?_
  refine Lw.nil ?_
  refine Pw.thenN (Cw.out ?_)
  refine Cw.seq ?_
  refine Cw.know 5 (v' := .int .i64 (k : Int)) rfl (by rw [hk]) ?_
  have hsh := hv.shp
  refine Cw.any mixed (fun w2 hd _ => ?_)
  refine Aw.take (i := 0) (NoP.thn NoP.ret) rfl (by kernel_rfl) (by kernel_rfl) (by kernel_rfl) (fun _ => Ex.move rfl) rfl ?_
  refine Aw.take (i := 1) (NoP.thn NoP.ret) rfl (by kernel_rfl) (by kernel_rfl) (by kernel_rfl) (fun _ => Ex.move rfl) rfl ?_
  refine Aw.take (i := 2) (NoP.thn NoP.ret) rfl (by kernel_rfl) (by kernel_rfl) (by kernel_rfl) (fun _ => Ex.cutLv st_22 rfl rfl hsh (by omega)) rfl ?_
  refine Aw.take (i := 4) (NoP.thn NoP.ret) rfl (by kernel_rfl) (by kernel_rfl) (by kernel_rfl) (fun _ => Ex.move rfl) rfl ?_
  refine Aw.take (i := 5) (NoP.thn NoP.ret) rfl (by kernel_rfl) (by kernel_rfl) (by kernel_rfl) (fun _ => Ex.move rfl) rfl ?_
  refine Aw.take (i := 6) (NoP.thn NoP.ret) rfl (by kernel_rfl) (by kernel_rfl) (by kernel_rfl) (fun _ => Ex.cutHv st_22 rfl rfl hsh (by omega)) rfl ?_
  refine Aw.only (i := 3) (by kernel_rfl) rfl ?_
  have hB2 := bt hB1 hd
  have hv2 := hv.bs hB2
  refine Lw.valW (Xw.append (base := w2.heap.size) st_22 it_3 rfl (by decide) rfl rfl (World.ownsRow_nil _ _ _ _) (SlT.drop hv2 (Nat.le_of_lt hkl)) (one_map (fun _ => rfl) _) (by simp; omega) (by simp; omega) (Nat.le_refl _)) rfl ?_
  rintro v3 w3 ⟨ho3, hB3, -⟩
  have hv3 := hv2.bs hB3
  refine Aw.back ?_
  refine Aw.only (i := 7) (by kernel_rfl) rfl ?_
  refine Lw.valW (Xw.append (base := w2.heap.size) st_22 it_3 rfl (by decide) rfl rfl ho3 (SlT.take hv3 (Nat.le_of_lt hkl)) (one_map (fun _ => rfl) _) (by simp; omega) (by simp; omega) hB3.size) rfl ?_
  rintro v4 w4 ⟨ho4, hB4, -⟩
  have hB4' := bt hB2 (hB3.trans hB4)
  have hlen : 0 + (s.drop k).length + (s.take k).length = (s.drop k ++ s.take k).length := by simp
  have hv4 : SlT (Value.int .i64) w4 v4 (s.drop k ++ s.take k) := by
    unfold SlT; rw [← hlen, List.map_append]; exact own_sl ho4
  refine Aw.back ?_
  refine Aw.take (i := 8) (NoP.thn NoP.ret) rfl (by kernel_rfl) (by kernel_rfl) (by kernel_rfl) (fun _ => Ex.assign rfl) rfl ?_
  refine Aw.done (by kernel_rfl) ?_
  refine Pw.thenN (Cw.out ?_)
  refine Cw.seq ?_
  refine Cw.region ?_
  refine Lw.val (Ex.move rfl) rfl ?_
  refine Lw.callF rfl rfl (check_c v4 _ w4 hv4) ?_
  rintro _ w5 ⟨rfl, hB5⟩
  have hB5' := bt hB4' hB5
  refine Lw.val (Ex.move rfl) rfl ?_
  refine Lw.callF rfl rfl (check_c v s w5 (hv.bs hB5')) ?_
  rintro _ w6 ⟨rfl, hB6⟩
  have hB6' := bt hB5' hB6
  have ez : Shapes.size (s.drop k ++ s.take k) = Shapes.size s := by rw [turn_size, List.take_append_drop]
  have eo : Shapes.ok (s.drop k ++ s.take k) = Shapes.ok s := by unfold Shapes.ok; rw [ez]
  rw [eo]
  refine Lw.val (Ex.eqlB un_4 rfl rfl) rfl ?_
  refine Lw.val (Ex.move rfl) rfl ?_
  refine Lw.know 38 (v' := .bool true) rfl (congrArg Value.bool (by simp)) ?_
  refine Lw.take (dj := 38) rfl rfl ?_
  refine Lw.val (Ex.move rfl) rfl ?_
  refine Lw.take (dj := 38) rfl rfl ?_
  refine Lw.callF rfl rfl (size_c v4 _ w6 (hv4.bs (bt hB5 hB6))) ?_
  rintro _ w7 ⟨rfl, hB7⟩
  have hB7' := bt hB6' hB7
  refine Lw.take (dj := 38) rfl rfl ?_
  refine Lw.val (Ex.move rfl) rfl ?_
  refine Lw.take (dj := 38) rfl rfl ?_
  refine Lw.callF rfl rfl (size_c v s w7 (hv.bs hB7')) ?_
  rintro _ w8 ⟨rfl, hB8⟩
  rw [ez]
  refine Lw.take (dj := 38) rfl rfl ?_
  refine Lw.val (Ex.eql rfl rfl) rfl ?_
  refine Lw.val (Ex.pickT rfl rfl) rfl ?_
  refine Lw.val (Ex.assign rfl) rfl ?_
  refine Lw.nil ?_
  refine Pw.thenN (Cw.out ?_)
  refine Cw.ret ?_
  refine Pw.ret1 rfl rfl ?_
  exact ⟨congrArg Value.bool (by simp), bt hB7' hB8⟩

set_option maxRecDepth 100000 in
theorem shapesTurned_lifted (os : Os) (started : os.Started) (H : Type) (enc : TypeId × Value → H) :
    ReturnsInHanded {} Try.checked os 5 .any (Rows.shapesTurnedSpec.pre6 enc Try.prog Try.f5 Rows.shapesTurnedRow.domain false) (Rows.shapesTurnedSpec.post enc Try.prog Try.f5 false true false false) := by
  refine returnsInHanded_of_change_sized (C := Try.checked) own started (by kernel_rfl) Try.func5
    (ChangeSpec.witness6 (enc := enc) (C := Try.checked) false ⟨#[], #[.slice none 0 0, .int .u8 0], []⟩ 8 (by kernel_rfl) (by kernel_rfl) (by kernel_rfl) (by kernel_rfl)) ?_
  intro W base args ds gs before hval0 hW hcnd hsz0 _
  have hval : ∀ (j : Nat) t v, Try.f5.params[j]? = some t → args[j]? = some v → Value.okWide Try.prog W .any base t v := hval0
  have hW' := hW
  obtain ⟨p, q, hA0, hV, rfl, hfz, hnd⟩ := hW
  have hA : DataW.TrodAll enc Try.prog W 0 (fun _ => true) true Try.f5.params.toList args.toList ds p := hA0
  have hsz : (DataW.weightsEach Try.prog (Try.f5.params.toList ++ Rows.shapesTurnedSpec.plain.varTypes Try.prog) (ds ++ gs)).all (· ≤ reachBytes) = true := hsz0
  rw [Try.params5] at hA hval hsz
  obtain ⟨v0, vs0, d0, ds0, p0, q0, hargs, rfl, rfl, h0, r0⟩ := trodAll_cons hA
  obtain ⟨v1, vs1, d1, ds1, p1, q1, rfl, rfl, rfl, h1, r1⟩ := trodAll_cons r0
  obtain ⟨rfl, rfl, rfl⟩ := trodAll_nil r1
  obtain rfl : args = #[v0, v1] := by cases args; simp_all
  obtain ⟨rfl, rfl⟩ := trodVars_none hV
  have k0 := h0
  have lt0 : ∀ x ∈ p0, x.block < W.heap.size := by obtain ⟨m, hm⟩ := k0; exact DataW.trod_lt m _ _ _ hm
  have i0 := in_of (j := 0) (t := 22) hsz rfl rfl h0
  have o0 := hval 0 22 v0 rfl rfl
  have k1 := h1
  have lt1 : ∀ x ∈ p1, x.block < W.heap.size := by obtain ⟨m, hm⟩ := k1; exact DataW.trod_lt m _ _ _ hm
  have i1 := in_of (j := 1) (t := 5) hsz rfl rfl h1
  have o1 := hval 1 5 v1 rfl rfl
  clear hA0 hval0 hsz0 hsz
  obtain ⟨l, hl, -⟩ := arg_slT un_22 (by kernel_rfl) (fun cs h => (In.int un_3 h).imp fun _ h => h.1) o0 i0
  obtain ⟨q, rfl⟩ := arg_num (BitVec.ofInt 8) b8 (fun _ h => wf_u8 h) un_5 o1 i1
  refine (law_calls (shapesTurned_w v0 l q W hl)).mono fun e W' ⟨he, bel⟩ => ?_
  subst he
  exact ⟨_, rfl, _, _, _, [], _, [], hW', trodAll_mk1 (shut_bool un_4 _), (trodAll_cons_mk (Below.trod laidOut (by kernel_rfl) (of_decide_eq_true (by kernel_rfl)) k0 bel lt0) (trodAll_cons_mk (Below.trod laidOut (by kernel_rfl) (of_decide_eq_true (by kernel_rfl)) k1 bel lt1) trodAll_mk0)), rfl, bel.frame _, fun h => by cases h⟩

/-- The statement. -/
theorem shapesTurned_proved : Rows.ShapesTurnedSaid :=
  OpenClaim.holds_of_wide 5 Try.f5 rfl rfl rfl rfl rfl rfl rfl ⟨rfl, rfl, rfl, rfl, rfl⟩ rfl rfl rfl rfl rfl (by kernel_rfl) Try.func5 (by kernel_rfl)
    (of_decide_eq_true (by kernel_rfl)) (by unfold Func.isWrapper; first | (rw [if_pos (by decide +kernel)]; kernel_rfl) | (rw [if_neg (by decide +kernel)]; exact ⟨rfl, rfl⟩))
    (fun os started H enc _ => shapesTurned_lifted os started H enc)
#print axioms shapesTurned_proved
end Go.Proofs.Ytaliinkmeokonaa
