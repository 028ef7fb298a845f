/- All bytes with their sum behind have one sum, that of four noughts; with any other four bytes behind they have another one: for any bytes, by what their sum turns; no condition. -/
import Derived.Test.YtpejahmpjohjeaaSumsCode
import Derived.Test.YtpejahmpjohjeaaOpen
import Derived.Test.YtpejahmpjohjeaaRows
namespace Go.Proofs.Ytpejahmpjohjeaa
open Go Go.Dd Go.RowKit Go.ChangeShapes Go.WideShapes Go.ChangeAt

theorem own : ownKnob Try.prog.godebug = none := by kernel_rfl
theorem laidOut : laidOutB Try.prog = true := by kernel_rfl

theorem end_law (b : List (BitVec 8)) (x : BitVec 32) : (decide (Crc.of (b ++ Crc.four (Crc.of b ^^^ x)) = Crc.of [0#8, 0#8, 0#8, 0#8]) == decide (x = 0#32)) = true := by
  have h : (Crc.of (b ++ Crc.four (Crc.of b ^^^ x)) = Crc.of [0#8, 0#8, 0#8, 0#8]) ↔ x = 0#32 := by
    have h4 : [0#8, 0#8, 0#8, 0#8] = Crc.four 0#32 := by decide
    unfold Crc.of
    rw [Crc.on_append, h4]
    unfold Crc.on
    rw [BitVec.not_not, Crc.run_four, Crc.run_four]
    generalize Crc.run (~~~ 0#32) b = A
    have e : A ^^^ (~~~ A ^^^ x) = ~~~ 0#32 ^^^ x := by
      rw [← BitVec.xor_assoc]
      have n : ∀ y : BitVec 32, ~~~ y = y ^^^ BitVec.allOnes 32 := fun y => by rw [BitVec.xor_allOnes]
      have : A ^^^ ~~~ A = ~~~ 0#32 := by rw [n A, n 0#32, ← BitVec.xor_assoc, BitVec.xor_self]
      rw [this]
    rw [e]
    constructor
    · intro h
      have h' := congrArg (fun y => ~~~ y) h
      simp only [BitVec.not_not] at h'
      have := Crc.iter_eq 32 _ _ h'
      have h2 : ~~~ 0#32 ^^^ (~~~ 0#32 ^^^ x) = ~~~ 0#32 ^^^ (~~~ 0#32 ^^^ 0#32) := by rw [this]
      rw [← BitVec.xor_assoc, ← BitVec.xor_assoc, BitVec.xor_self, BitVec.zero_xor, BitVec.zero_xor] at h2
      exact h2
    · intro h; rw [h]
  rw [beq_iff_eq]; exact decide_eq_decide.2 h

theorem sumsEnd_w (v : Value) (l : List (BitVec 8)) (x : BitVec 32) (w : World) (hv : SlT b8 w v l) :
    Fnc Try.prog 7 [v, u32 x] w (fun r w' => r = .bool true ∧ Below w.heap.size w w') := by
  refine Fnc.enter (n := 32) Try.func7 (by kernel_rfl) rfl rfl rfl ?_
  refine Cw.seq ?_
  refine Cw.region ?_
  refine Lw.val (Ex.assign rfl) rfl ?_
  refine Lw.nil ?_
  refine Pw.thenN (Cw.out ?_)
  refine Cw.seq ?_
  refine Cw.seq ?_
  refine Cw.region ?_
  refine Lw.callF rfl rfl (alive_c w) ?_
  rintro _ w1 ⟨rfl, hB1⟩
  have hv1 := hv.bs hB1
  refine Lw.val (Ex.not rfl) rfl ?_
  refine Lw.val (Ex.move rfl) rfl ?_
  refine Lw.know 9 (v' := .bool false) rfl (congrArg Value.bool (rfl)) ?_
  refine Lw.take (dj := 9) rfl rfl ?_
  refine Lw.val (Ex.move rfl) rfl ?_
  refine Lw.take (dj := 9) rfl rfl ?_
  refine Lw.val (Ex.lenS st_22 rfl (by assumption)) rfl ?_
  refine Lw.take (dj := 9) rfl rfl ?_
  refine Lw.val (Ex.gtr rfl rfl) rfl ?_
  refine Lw.val (Ex.pickF rfl rfl) rfl ?_
  refine Lw.nil ?_
  refine Pw.thenN (Cw.out ?_)
  refine Cw.cond rfl ?_ ?_
  · intro _
    refine Cw.seq ?_
    refine Cw.region ?_
    refine Lw.callF rfl rfl (alive_c w1) ?_
    rintro _ w2 ⟨rfl, hB2⟩
    refine Lw.val (Ex.assign rfl) rfl ?_
    refine Lw.nil ?_
    refine Pw.thenN (Cw.out ?_)
    refine Cw.ret ?_
    refine Pw.thenR ?_
    refine Pw.ret1 rfl rfl ?_
    exact ⟨rfl, bt hB1 hB2⟩
  · intro hlen
    have hlen' : l.length ≤ 100000 := by simp at hlen; omega
    refine Cw.skip ?_
    refine Pw.thenN (Cw.out ?_)
    refine Cw.seq ?_
    refine Cw.region ?_
    refine Lw.val (Ex.move rfl) rfl ?_
    refine Lw.callF rfl rfl (of_c v l w1 hv1) ?_
    rintro _ w2 ⟨rfl, hB2⟩
    have hB2' := bt hB1 hB2
    have hs2 := hB2'.size
    refine Lw.val (Ex.assign rfl) rfl ?_
    refine Lw.nil ?_
    refine Pw.thenN (Cw.out ?_)
    refine Cw.seq ?_
    refine Cw.region ?_
    refine Lw.val (Ex.move rfl) rfl ?_
    refine Lw.valW (Xw.append (base := w.heap.size) st_22 it_5 rfl (by decide) rfl rfl (World.ownsRow_nil _ _ _ _) (hv.bs hB2') (one_map (fun _ => rfl) _) (by omega) (by omega) hs2) rfl ?_
    rintro v3 w3 ⟨ho3, hB3, _⟩
    have hB3' := hB2'.trans hB3
    refine Lw.val (Ex.move rfl) rfl ?_
    refine Lw.val (Ex.move rfl) rfl ?_
    refine Lw.val (Ex.xor32 rfl rfl) rfl ?_
    refine Lw.callF rfl rfl (four_c (Crc.of l ^^^ x) w3) ?_
    rintro v4 w4 ⟨b4, hb4, _, ho4, hB4⟩
    have hB4' := bt hB3' hB4
    have hs4 := hB4'.size
    refine Lw.valW (Xw.append (base := w.heap.size) st_22 it_5 rfl (by decide) rfl rfl (own_bs ho3 hB4) (own_sl ho4) (one_map (fun _ => rfl) _) (by omega) (by omega) hs4) rfl ?_
    rintro v5 w5 ⟨ho5, hB5, _⟩
    have hB5' := hB4'.trans hB5
    have hall : Sl w5 1 v5 (l ++ Crc.four (Crc.of l ^^^ x)).length ((l ++ Crc.four (Crc.of l ^^^ x)).map b8) := by simpa [Crc.four] using own_sl ho5
    refine Lw.val (Ex.assign rfl) rfl ?_
    refine Lw.nil ?_
    refine Pw.thenN (Cw.out ?_)
    refine Cw.seq ?_
    refine Cw.region ?_
    refine Lw.val (Ex.move rfl) rfl ?_
    refine Lw.callF rfl rfl (of_c v5 (l ++ Crc.four (Crc.of l ^^^ x)) w5 hall) ?_
    rintro _ w6 ⟨rfl, hB6⟩
    have hB6' := bt hB5' hB6
    refine Lw.valW (Xw.lit (vs := [0#8, 0#8, 0#8, 0#8].map b8) st_22 it_5 rfl rfl rfl rfl rfl) rfl ?_
    rintro v7 w7 ⟨ho7, -, hB7, -⟩
    have hB7' := bt hB6' hB7
    refine Lw.callF rfl rfl (of_c v7 [0#8, 0#8, 0#8, 0#8] w7 (own_sl ho7)) ?_
    rintro _ w8 ⟨rfl, hB8⟩
    refine Lw.val (Ex.eql32 rfl rfl) rfl ?_
    refine Lw.val (Ex.move rfl) rfl ?_
    refine Lw.val (Ex.eql32 rfl (show _ = some (u32 (0#32)) from rfl)) rfl ?_
    refine Lw.val (Ex.eqlB un_4 rfl rfl) rfl ?_
    refine Lw.val (Ex.assign rfl) rfl ?_
    refine Lw.nil ?_
    refine Pw.thenN (Cw.out ?_)
    refine Cw.ret ?_
    refine Pw.ret1 rfl rfl ?_
    exact ⟨congrArg Value.bool (end_law l x), bt hB7' hB8⟩

set_option maxRecDepth 100000 in
theorem sumsEnd_lifted (os : Os) (started : os.Started) (H : Type) (enc : TypeId × Value → H) :
    ReturnsInHanded {} Try.checked os 7 .any (Rows.sumsEndSpec.pre6 enc Try.prog Try.f7 Rows.sumsEndRow.domain false) (Rows.sumsEndSpec.post enc Try.prog Try.f7 false true false false) := by
  refine returnsInHanded_of_change_sized (C := Try.checked) own started (by kernel_rfl) Try.func7
    (ChangeSpec.witness6 (enc := enc) (C := Try.checked) false ⟨#[], #[.slice none 0 0, .int .u32 0], []⟩ 8 (by kernel_rfl) (by kernel_rfl) (by kernel_rfl) (by kernel_rfl)) ?_
  intro W base args ds gs before hval0 hW hcnd hsz0 _
  have hval : ∀ (j : Nat) t v, Try.f7.params[j]? = some t → args[j]? = some v → Value.okWide Try.prog W .any base t v := hval0
  have hW' := hW
  obtain ⟨p, q, hA0, hV, rfl, hfz, hnd⟩ := hW
  have hA : DataW.TrodAll enc Try.prog W 0 (fun _ => true) true Try.f7.params.toList args.toList ds p := hA0
  have hsz : (DataW.weightsEach Try.prog (Try.f7.params.toList ++ Rows.sumsEndSpec.plain.varTypes Try.prog) (ds ++ gs)).all (· ≤ reachBytes) = true := hsz0
  rw [Try.params7] at hA hval hsz
  obtain ⟨v0, vs0, d0, ds0, p0, q0, hargs, rfl, rfl, h0, r0⟩ := trodAll_cons hA
  obtain ⟨v1, vs1, d1, ds1, p1, q1, rfl, rfl, rfl, h1, r1⟩ := trodAll_cons r0
  obtain ⟨rfl, rfl, rfl⟩ := trodAll_nil r1
  obtain rfl : args = #[v0, v1] := by cases args; simp_all
  obtain ⟨rfl, rfl⟩ := trodVars_none hV
  have k0 := h0
  have lt0 : ∀ x ∈ p0, x.block < W.heap.size := by obtain ⟨m, hm⟩ := k0; exact DataW.trod_lt m _ _ _ hm
  have i0 := in_of (j := 0) (t := 22) hsz rfl rfl h0
  have o0 := hval 0 22 v0 rfl rfl
  have k1 := h1
  have lt1 : ∀ x ∈ p1, x.block < W.heap.size := by obtain ⟨m, hm⟩ := k1; exact DataW.trod_lt m _ _ _ hm
  have i1 := in_of (j := 1) (t := 23) hsz rfl rfl h1
  have o1 := hval 1 23 v1 rfl rfl
  clear hA0 hval0 hsz0 hsz
  obtain ⟨l, hl, -⟩ := arg_slT un_22 (by kernel_rfl) (fun cs h => In.num (BitVec.ofInt 8) b8 (fun _ h => wf_u8 h) un_5 h) o0 i0
  obtain ⟨s, rfl⟩ := arg_num (BitVec.ofInt 32) u32 (fun _ h => wf_u32 h) un_23 o1 i1
  refine (law_calls (sumsEnd_w v0 l s W hl)).mono fun e W' ⟨he, bel⟩ => ?_
  subst he
  exact ⟨_, rfl, _, _, _, [], _, [], hW', trodAll_mk1 (shut_bool un_4 _), (trodAll_cons_mk (Below.trod laidOut (by kernel_rfl) (of_decide_eq_true (by kernel_rfl)) k0 bel lt0) (trodAll_cons_mk (Below.trod laidOut (by kernel_rfl) (of_decide_eq_true (by kernel_rfl)) k1 bel lt1) trodAll_mk0)), rfl, bel.frame _, fun h => by cases h⟩

/-- The statement. -/
theorem sumsEnd_proved : Rows.SumsEndSaid :=
  OpenClaim.holds_of_wide 7 Try.f7 rfl rfl rfl rfl rfl rfl rfl ⟨rfl, rfl, rfl, rfl, rfl⟩ rfl rfl rfl rfl rfl (by kernel_rfl) Try.func7 (by kernel_rfl)
    (of_decide_eq_true (by kernel_rfl)) (by unfold Func.isWrapper; first | (rw [if_pos (by decide +kernel)]; kernel_rfl) | (rw [if_neg (by decide +kernel)]; exact ⟨rfl, rfl⟩))
    (fun os started H enc _ => sumsEnd_lifted os started H enc)
#print axioms sumsEnd_proved
end Go.Proofs.Ytpejahmpjohjeaa
