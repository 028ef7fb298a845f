/- A sum may be reckoned in pieces, wherever they are parted; of none it stays: for any bytes, any others, any sum ahead; no condition. -/
import Derived.Test.YtpejahmpjohjeaaSumsCode
import Derived.Test.YtpejahmpjohjeaaOpen
import Derived.Test.YtpejahmpjohjeaaRows
namespace Go.Proofs.Ytpejahmpjohjeaa
open Go Go.Dd Go.RowKit Go.ChangeShapes Go.WideShapes Go.ChangeAt

theorem own : ownKnob Try.prog.godebug = none := by kernel_rfl
theorem laidOut : laidOutB Try.prog = true := by kernel_rfl

theorem sumsPieces_w (va vb : Value) (a b : List (BitVec 8)) (s : BitVec 32) (w : World) (ha : SlT b8 w va a) (hb : SlT b8 w vb b) (la : a.length ≤ 140737488351232) (lb : b.length ≤ 140737488351232) :
    Fnc Try.prog 4 [va, vb, u32 s] w (fun r w' => r = .bool true ∧ Below w.heap.size w w') := by
  refine Fnc.enter (n := 47) Try.func4 (by kernel_rfl) rfl rfl rfl ?_
  refine Cw.seq ?_
  refine Cw.region ?_
  refine Lw.val (Ex.assign rfl) rfl ?_
  refine Lw.nil ?_
  refine Pw.thenN (Cw.out ?_)
  refine Cw.seq ?_
  refine Cw.seq ?_
  refine Cw.region ?_
  refine Lw.callF rfl rfl (alive_c w) ?_
  rintro _ w1 ⟨rfl, hB1⟩
  have ha1 := ha.bs hB1
  have hb1 := hb.bs hB1
  refine Lw.val (Ex.not rfl) rfl ?_
  refine Lw.val (Ex.move rfl) rfl ?_
  refine Lw.know 10 (v' := .bool false) rfl (congrArg Value.bool (rfl)) ?_
  refine Lw.take (dj := 10) rfl rfl ?_
  refine Lw.val (Ex.move rfl) rfl ?_
  refine Lw.take (dj := 10) rfl rfl ?_
  refine Lw.val (Ex.lenS st_22 rfl (by assumption)) rfl ?_
  refine Lw.take (dj := 10) rfl rfl ?_
  refine Lw.val (Ex.move rfl) rfl ?_
  refine Lw.take (dj := 10) rfl rfl ?_
  refine Lw.val (Ex.lenS st_22 rfl (by assumption)) rfl ?_
  refine Lw.take (dj := 10) rfl rfl ?_
  refine Lw.val (Ex.addI rfl rfl (by omega)) rfl ?_
  refine Lw.take (dj := 10) rfl rfl ?_
  refine Lw.val (Ex.gtr rfl rfl) rfl ?_
  refine Lw.val (Ex.pickF rfl rfl) rfl ?_
  refine Lw.nil ?_
  refine Pw.thenN (Cw.out ?_)
  refine Cw.cond rfl ?_ ?_
  · intro _
    refine Cw.seq ?_
    refine Cw.region ?_
    refine Lw.callF rfl rfl (alive_c w1) ?_
    rintro _ w2 ⟨rfl, hB2⟩
    refine Lw.val (Ex.assign rfl) rfl ?_
    refine Lw.nil ?_
    refine Pw.thenN (Cw.out ?_)
    refine Cw.ret ?_
    refine Pw.thenR ?_
    refine Pw.ret1 rfl rfl ?_
    exact ⟨rfl, bt hB1 hB2⟩
  · intro hlen
    have hlen' : a.length + b.length ≤ 100000 := by simp at hlen; omega
    have hs1 := hB1.size
    refine Cw.skip ?_
    refine Pw.thenN (Cw.out ?_)
    refine Cw.seq ?_
    refine Cw.region ?_
    refine Lw.val (Ex.move rfl) rfl ?_
    refine Lw.valW (Xw.append (base := w.heap.size) st_22 it_5 rfl (by decide) rfl rfl (World.ownsRow_nil _ _ _ _) ha1 (one_map (fun _ => rfl) _) (by omega) (by omega) hs1) rfl ?_
    rintro v2 w2 ⟨ho2, hB2, _⟩
    have hB2' := hB1.trans hB2
    have hb2 := hb.bs hB2'
    have hs2 := hB2'.size
    refine Lw.val (Ex.move rfl) rfl ?_
    refine Lw.valW (Xw.append (base := w.heap.size) st_22 it_5 rfl (by decide) rfl rfl ho2 hb2 (one_map (fun _ => rfl) _) (by omega) (by omega) hs2) rfl ?_
    rintro v3 w3 ⟨ho3, hB3, _⟩
    have hB3' := hB2'.trans hB3
    have hall : Sl w3 1 v3 (a ++ b).length ((a ++ b).map b8) := by simpa using own_sl ho3
    refine Lw.val (Ex.assign rfl) rfl ?_
    refine Lw.nil ?_
    refine Pw.thenN (Cw.out ?_)
    refine Cw.seq ?_
    refine Cw.region ?_
    refine Lw.val (Ex.move rfl) rfl ?_
    refine Lw.callF rfl rfl (of_c v3 (a ++ b) w3 hall) ?_
    rintro _ w4 ⟨rfl, hB4⟩
    have hB4' := bt hB3' hB4
    refine Lw.val (Ex.move rfl) rfl ?_
    refine Lw.callF rfl rfl (of_c va a w4 (ha.bs hB4')) ?_
    rintro _ w5 ⟨rfl, hB5⟩
    have hB5' := bt hB4' hB5
    refine Lw.val (Ex.move rfl) rfl ?_
    refine Lw.callF rfl rfl (on_c (Crc.of a) vb b w5 (hb.bs hB5')) ?_
    rintro _ w6 ⟨rfl, hB6⟩
    have hB6' := bt hB5' hB6
    refine Lw.val (Ex.eql32 rfl rfl) rfl ?_
    refine Lw.val (Ex.move rfl) rfl ?_
    refine Lw.know 30 (v' := .bool true) rfl (congrArg Value.bool ((decide_eq_true (Crc.on_append _ _ _)))) ?_
    refine Lw.take (dj := 30) rfl rfl ?_
    refine Lw.val (Ex.move rfl) rfl ?_
    refine Lw.take (dj := 30) rfl rfl ?_
    refine Lw.val (Ex.move rfl) rfl ?_
    refine Lw.take (dj := 30) rfl rfl ?_
    refine Lw.callF rfl rfl (on_c s v3 (a ++ b) w6 (((hall.bs hB4).bs hB5).bs hB6)) ?_
    rintro _ w7 ⟨rfl, hB7⟩
    have hB7' := bt hB6' hB7
    refine Lw.take (dj := 30) rfl rfl ?_
    refine Lw.val (Ex.move rfl) rfl ?_
    refine Lw.take (dj := 30) rfl rfl ?_
    refine Lw.val (Ex.move rfl) rfl ?_
    refine Lw.take (dj := 30) rfl rfl ?_
    refine Lw.callF rfl rfl (on_c s va a w7 (ha.bs hB7')) ?_
    rintro _ w8 ⟨rfl, hB8⟩
    have hB8' := bt hB7' hB8
    refine Lw.take (dj := 30) rfl rfl ?_
    refine Lw.val (Ex.move rfl) rfl ?_
    refine Lw.take (dj := 30) rfl rfl ?_
    refine Lw.callF rfl rfl (on_c (Crc.on s a) vb b w8 (hb.bs hB8')) ?_
    rintro _ w9 ⟨rfl, hB9⟩
    have hB9' := bt hB8' hB9
    refine Lw.take (dj := 30) rfl rfl ?_
    refine Lw.val (Ex.eql32 rfl rfl) rfl ?_
    refine Lw.val (Ex.pickT rfl rfl) rfl ?_
    refine Lw.val (Ex.move rfl) rfl ?_
    refine Lw.know 41 (v' := .bool true) rfl (congrArg Value.bool ((decide_eq_true (Crc.on_append _ _ _)))) ?_
    refine Lw.take (dj := 41) rfl rfl ?_
    refine Lw.val (Ex.move rfl) rfl ?_
    refine Lw.take (dj := 41) rfl rfl ?_
    refine Lw.callF rfl rfl (on_c s _ [] w9 (Sl.nil _ _)) ?_
    rintro _ w10 ⟨rfl, hB10⟩
    refine Lw.take (dj := 41) rfl rfl ?_
    refine Lw.val (Ex.move rfl) rfl ?_
    refine Lw.take (dj := 41) rfl rfl ?_
    refine Lw.val (Ex.eql32 rfl rfl) rfl ?_
    refine Lw.val (Ex.pickT rfl rfl) rfl ?_
    refine Lw.val (Ex.assign rfl) rfl ?_
    refine Lw.nil ?_
    refine Pw.thenN (Cw.out ?_)
    refine Cw.ret ?_
    refine Pw.ret1 rfl rfl ?_
    exact ⟨congrArg Value.bool (decide_eq_true (Crc.on_nil _)), bt hB9' hB10⟩

set_option maxRecDepth 100000 in
theorem sumsPieces_lifted (os : Os) (started : os.Started) (H : Type) (enc : TypeId × Value → H) :
    ReturnsInHanded {} Try.checked os 4 .any (Rows.sumsPiecesSpec.pre6 enc Try.prog Try.f4 Rows.sumsPiecesRow.domain false) (Rows.sumsPiecesSpec.post enc Try.prog Try.f4 false true false false) := by
  refine returnsInHanded_of_change_sized (C := Try.checked) own started (by kernel_rfl) Try.func4
    (ChangeSpec.witness6 (enc := enc) (C := Try.checked) false ⟨#[], #[.slice none 0 0, .slice none 0 0, .int .u32 0], []⟩ 8 (by kernel_rfl) (by kernel_rfl) (by kernel_rfl) (by kernel_rfl)) ?_
  intro W base args ds gs before hval0 hW hcnd hsz0 _
  have hval : ∀ (j : Nat) t v, Try.f4.params[j]? = some t → args[j]? = some v → Value.okWide Try.prog W .any base t v := hval0
  have hW' := hW
  obtain ⟨p, q, hA0, hV, rfl, hfz, hnd⟩ := hW
  have hA : DataW.TrodAll enc Try.prog W 0 (fun _ => true) true Try.f4.params.toList args.toList ds p := hA0
  have hsz : (DataW.weightsEach Try.prog (Try.f4.params.toList ++ Rows.sumsPiecesSpec.plain.varTypes Try.prog) (ds ++ gs)).all (· ≤ reachBytes) = true := hsz0
  rw [Try.params4] at hA hval hsz
  obtain ⟨v0, vs0, d0, ds0, p0, q0, hargs, rfl, rfl, h0, r0⟩ := trodAll_cons hA
  obtain ⟨v1, vs1, d1, ds1, p1, q1, rfl, rfl, rfl, h1, r1⟩ := trodAll_cons r0
  obtain ⟨v2, vs2, d2, ds2, p2, q2, rfl, rfl, rfl, h2, r2⟩ := trodAll_cons r1
  obtain ⟨rfl, rfl, rfl⟩ := trodAll_nil r2
  obtain rfl : args = #[v0, v1, v2] := by cases args; simp_all
  obtain ⟨rfl, rfl⟩ := trodVars_none hV
  have k0 := h0
  have lt0 : ∀ x ∈ p0, x.block < W.heap.size := by obtain ⟨m, hm⟩ := k0; exact DataW.trod_lt m _ _ _ hm
  have i0 := in_of (j := 0) (t := 22) hsz rfl rfl h0
  have o0 := hval 0 22 v0 rfl rfl
  have k1 := h1
  have lt1 : ∀ x ∈ p1, x.block < W.heap.size := by obtain ⟨m, hm⟩ := k1; exact DataW.trod_lt m _ _ _ hm
  have i1 := in_of (j := 1) (t := 22) hsz rfl rfl h1
  have o1 := hval 1 22 v1 rfl rfl
  have k2 := h2
  have lt2 : ∀ x ∈ p2, x.block < W.heap.size := by obtain ⟨m, hm⟩ := k2; exact DataW.trod_lt m _ _ _ hm
  have i2 := in_of (j := 2) (t := 23) hsz rfl rfl h2
  have o2 := hval 2 23 v2 rfl rfl
  clear hA0 hval0 hsz0 hsz
  obtain ⟨a, ha, la⟩ := arg_slT un_22 (by kernel_rfl) (fun cs h => In.num (BitVec.ofInt 8) b8 (fun _ h => wf_u8 h) un_5 h) o0 i0
  obtain ⟨b, hb, lb⟩ := arg_slT un_22 (by kernel_rfl) (fun cs h => In.num (BitVec.ofInt 8) b8 (fun _ h => wf_u8 h) un_5 h) o1 i1
  obtain ⟨s, rfl⟩ := arg_num (BitVec.ofInt 32) u32 (fun _ h => wf_u32 h) un_23 o2 i2
  have e8 : Try.prog.bytesOf 5 = 1 := by kernel_rfl
  rw [e8] at la lb
  unfold reachBytes at la lb
  refine (law_calls (sumsPieces_w v0 v1 a b s W ha hb (by omega) (by omega))).mono fun e W' ⟨he, bel⟩ => ?_
  subst he
  exact ⟨_, rfl, _, _, _, [], _, [], hW', trodAll_mk1 (shut_bool un_4 _), (trodAll_cons_mk (Below.trod laidOut (by kernel_rfl) (of_decide_eq_true (by kernel_rfl)) k0 bel lt0) (trodAll_cons_mk (Below.trod laidOut (by kernel_rfl) (of_decide_eq_true (by kernel_rfl)) k1 bel lt1) (trodAll_cons_mk (Below.trod laidOut (by kernel_rfl) (of_decide_eq_true (by kernel_rfl)) k2 bel lt2) trodAll_mk0))), rfl, bel.frame _, fun h => by cases h⟩

/-- The statement. -/
theorem sumsPieces_proved : Rows.SumsPiecesSaid :=
  OpenClaim.holds_of_wide 4 Try.f4 rfl rfl rfl rfl rfl rfl rfl ⟨rfl, rfl, rfl, rfl, rfl⟩ rfl rfl rfl rfl rfl (by kernel_rfl) Try.func4 (by kernel_rfl)
    (of_decide_eq_true (by kernel_rfl)) (by unfold Func.isWrapper; first | (rw [if_pos (by decide +kernel)]; kernel_rfl) | (rw [if_neg (by decide +kernel)]; exact ⟨rfl, rfl⟩))
    (fun os started H enc _ => sumsPieces_lifted os started H enc)
#print axioms sumsPieces_proved
end Go.Proofs.Ytpejahmpjohjeaa
