/- When one byte of the disk turns, a log that is opened again says so, or has all that was added: for any lists, any byte; no condition. -/
import Derived.Test.YtiaojbbgjlpikaaOutRot
namespace Go.Proofs.Ytiaojbbgjlpikaa
open Go Go.Dd Go.RowKit Go.ChangeShapes Go.WideShapes
set_option maxRecDepth 100000

theorem four_of {α : Type} {l : List α} (h : l.length = 4) : ∃ a b c d, l = [a, b, c, d] := by
  match l, h with
  | [a, b, c, d], _ => exact ⟨a, b, c, d, rfl⟩

theorem outlogsTurned_w (v : Value) (ps : List (Value × Nums)) (sx : BitVec 16) (ax bx : BitVec 8) (W : World) (h : LL W v ps) (hm : ps.length ≤ 1125899906842624) :
    Fnc Try.prog 7 [.agg #[v, u16 sx, b8 ax, b8 bx]] W (fun r w' => r = .bool true ∧ Below W.heap.size W w') := by
  have hB := Below.refl W.heap.size W
  refine Fnc.enter (n := 83) Try.func7 (by kernel_rfl) rfl rfl rfl ?_
  refine Cw.seq ?_
  refine Cw.region ?_
  refine Lw.boxV (cs := [v, u16 sx, b8 ax, b8 bx]) rfl rfl rfl ?_
  rintro A_z w eA_z b_z hn -
  replace hB := hB.bs hn
  clear hn
  refine Lw.val (Ex.assign rfl) rfl ?_
  refine Lw.nil ?_
  refine Pw.thenN (Cw.out ?_)
  refine Cw.seq ?_
  refine Cw.region ?_
  refine Lw.val (Ex.fieldAddr (q := 0) Try.underlying62 rfl (sz_22 _) rfl) rfl ?_
  refine Lw.val (Ex.ldB (ag_22 _) rfl (by assumption) rfl) rfl ?_
  refine Lw.val (Ex.assign rfl) rfl ?_
  refine Lw.nil ?_
  refine Pw.thenN (Cw.out ?_)
  refine Cw.seq ?_
  refine Cw.region ?_
  refine Lw.val (Ex.fieldAddr (q := 0) Try.underlying62 rfl (sz_60 _) rfl) rfl ?_
  refine Lw.val (Ex.ldB (ag_60 _) rfl (by assumption) rfl) rfl ?_
  refine Lw.val (Ex.assign rfl) rfl ?_
  refine Lw.nil ?_
  refine Pw.thenN (Cw.out ?_)
  refine Cw.seq ?_
  refine Cw.region ?_
  refine Lw.val (Ex.fieldAddr (q := 0) Try.underlying62 rfl (sz_5 _) rfl) rfl ?_
  refine Lw.val (Ex.ldB (ag_5 _) rfl (by assumption) rfl) rfl ?_
  refine Lw.val (Ex.assign rfl) rfl ?_
  refine Lw.nil ?_
  refine Pw.thenN (Cw.out ?_)
  refine Cw.seq ?_
  refine Cw.region ?_
  refine Lw.val (Ex.fieldAddr (q := 0) Try.underlying62 rfl (sz_5 _) rfl) rfl ?_
  refine Lw.val (Ex.ldB (ag_5 _) rfl (by assumption) rfl) rfl ?_
  refine Lw.val (Ex.assign rfl) rfl ?_
  refine Lw.nil ?_
  refine Pw.thenN (Cw.out ?_)
  refine Cw.seq ?_
  refine Cw.seq ?_
  refine Cw.region ?_
  refine Lw.val (Ex.move rfl) rfl ?_
  refine Lw.callF rfl rfl (fit_c v ps w (h.bs hB) hm) ?_
  rintro _ w ⟨rfl, hn⟩
  have hB := hB.trans (hn.mono (below_size hB))
  refine Lw.val (Ex.not rfl) rfl ?_
  refine Lw.nil ?_
  refine Pw.thenN (Cw.out ?_)
  refine Cw.cond rfl ?_ ?_
  · intro g
    refine Cw.seq ?_
    refine Cw.region ?_
    refine Lw.callF rfl rfl (lives_c w) ?_
    rintro _ w99 ⟨rfl, hn99⟩
    refine Lw.val (Ex.assign rfl) rfl ?_
    refine Lw.nil ?_
    refine Pw.thenN (Cw.out ?_)
    refine Cw.ret ?_
    refine Pw.thenR ?_
    refine Pw.ret1 rfl rfl ?_
    exact ⟨rfl, hB.trans (hn99.mono (below_size hB))⟩
  intro g
  have f1 : fitB ps = true := by simpa using g
  obtain ⟨x1, m1⟩ := fitB_ok f1
  have z0 := below_size hB
  refine Cw.skip ?_
  refine Pw.thenN (Cw.out ?_)
  refine Cw.seq ?_
  refine Cw.region ?_
  refine Lw.callF rfl rfl (dnew_c 600 w (by omega) (by omega)) ?_
  rintro _ w1 ⟨hn1, A, rfl, hD⟩
  have z1 := hn1.size
  have hB1 := hB.trans (hn1.mono z0)
  obtain ⟨l0, hl0⟩ : ∃ l0, l0 = List.replicate 600 zer := ⟨_, rfl⟩
  have ll0 : l0.length = 600 := by rw [hl0, List.length_replicate]
  have on0 : OnDisk l0 [] := by rw [hl0]; exact onDisk_new (by decide)
  rw [← hl0] at hD
  clear hl0
  refine Lw.val (Ex.move rfl) rfl ?_
  refine Lw.val (Ex.extract (i := 0) rfl rfl) rfl ?_
  refine Lw.val (Ex.extract (i := 1) rfl rfl) rfl ?_
  refine Lw.val (Ex.assign rfl) rfl ?_
  refine Lw.val (Ex.assign rfl) rfl ?_
  refine Lw.nil ?_
  refine Pw.thenN (Cw.out ?_)
  refine Cw.seq ?_
  refine Cw.region ?_
  refine Lw.val (Ex.move rfl) rfl ?_
  refine Lw.callF rfl rfl (open1_c A _ l0 [] w1 hD on0 (by omega)) ?_
  rintro _ w2 ⟨hn2, L, rfl, hL⟩
  have z2 := hn2.size
  have hB2 := hB1.trans (hn2.mono (by omega))
  have hL := hL.wide (T := Nw W w2) (fun b e => e.elim (fun e => ⟨by omega, by omega⟩) (fun e => ⟨by omega, e.2⟩)) (fun b e => e.2)
  have st := (stN_two f1 f1).1
  refine Lw.val (Ex.move rfl) rfl ?_
  refine Lw.val (Ex.extract (i := 0) rfl rfl) rfl ?_
  refine Lw.val (Ex.extract (i := 1) rfl rfl) rfl ?_
  refine Lw.val (Ex.assign rfl) rfl ?_
  refine Lw.val (Ex.assign rfl) rfl ?_
  refine Lw.nil ?_
  refine Pw.thenN (Cw.out ?_)
  refine Cw.seq ?_
  refine Cw.seq ?_
  refine Cw.region ?_
  refine Lw.val (Ex.move rfl) rfl ?_
  refine Lw.val (Ex.neq rfl rfl) rfl ?_
  refine Lw.val (Ex.move rfl) rfl ?_
  refine Lw.know 35 (v' := .bool false) rfl (congrArg Value.bool (rfl)) ?_
  refine Lw.take (dj := 35) rfl rfl ?_
  refine Lw.val (Ex.move rfl) rfl ?_
  refine Lw.take (dj := 35) rfl rfl ?_
  refine Lw.val (Ex.neq rfl rfl) rfl ?_
  refine Lw.val (Ex.pickF rfl rfl) rfl ?_
  refine Lw.val (Ex.move rfl) rfl ?_
  refine Lw.know 39 (v' := .bool false) rfl (congrArg Value.bool (rfl)) ?_
  refine Lw.take (dj := 39) rfl rfl ?_
  refine Lw.val (Ex.move rfl) rfl ?_
  refine Lw.take (dj := 39) rfl rfl ?_
  refine Lw.val (Ex.move rfl) rfl ?_
  refine Lw.take (dj := 39) rfl rfl ?_
  refine Lw.callF rfl rfl (added_c L A (Nw W w2) l0 [] v ps W w2 hL h hB2 (fun b e => e.1) x1 (by simp; omega) (by rw [List.nil_append]; omega)) ?_
  rintro _ w3 ⟨rfl, hC3, l1, hL, ll1, -⟩
  rw [List.nil_append] at hL
  have z3 := hC3.size
  have hB3 := hC3.to_below (fun b e => e.1) (below_size hB2)
  have hB3 := hB2.trans hB3
  have hL := hL.nw (by omega) z3
  have ll1 : l1.length = 600 := by omega
  obtain ⟨N, hN⟩ : ∃ N, N = sx.toNat % 600 := ⟨_, rfl⟩
  obtain ⟨K, hK⟩ : ∃ K, K = ax.toNat % 64 := ⟨_, rfl⟩
  have hN6 : N < 600 := by rw [hN]; exact Nat.mod_lt _ (by decide)
  have hK6 : K < 64 := by rw [hK]; exact Nat.mod_lt _ (by decide)
  refine Lw.take (dj := 39) rfl rfl ?_
  refine Lw.val (Ex.not rfl) rfl ?_
  refine Lw.val (Ex.pickF rfl rfl) rfl ?_
  refine Lw.val (Ex.move rfl) rfl ?_
  refine Lw.know 45 (v' := .bool false) rfl (congrArg Value.bool (rfl)) ?_
  refine Lw.take (dj := 45) rfl rfl ?_
  refine Lw.val (Ex.move rfl) rfl ?_
  refine Lw.take (dj := 45) rfl rfl ?_
  refine Lw.val (Ex.move rfl) rfl ?_
  refine Lw.take (dj := 45) rfl rfl ?_
  refine Lw.val (Ex.conv16_I us_60 un_3 rfl) rfl ?_
  refine Lw.take (dj := 45) rfl rfl ?_
  refine Lw.val ((Ex.remI rfl rfl (by omega) (by omega)).as (congrArg (Value.int .i64) (show (sx.toNat : Int) % 600 = (N : Int) by omega))) rfl ?_
  refine Lw.take (dj := 45) rfl rfl ?_
  refine Lw.val (Ex.move rfl) rfl ?_
  refine Lw.take (dj := 45) rfl rfl ?_
  refine Lw.val (Ex.conv8_I us_5 un_3 rfl) rfl ?_
  refine Lw.take (dj := 45) rfl rfl ?_
  refine Lw.val ((Ex.remI rfl rfl (by omega) (by omega)).as (congrArg (Value.int .i64) (show (ax.toNat : Int) % 64 = (K : Int) by omega))) rfl ?_
  refine Lw.take (dj := 45) rfl rfl ?_
  refine Lw.val (Ex.move rfl) rfl ?_
  refine Lw.take (dj := 45) rfl rfl ?_
  refine Lw.callF rfl rfl (rot_c A _ ⟨l1, l1, []⟩ N K bx w3 hL.log.disk rfl (show N < l1.length by omega) hK6) ?_
  rintro _ w4 ⟨rfl, hC4, hD4⟩
  have z4 := hC4.size
  have hB4 := hB3.trans (hC4.to_below (fun b e => e.1) (below_size hB3))
  have hot := open_turned hL.on (n := N) (k := K) (by omega) hK6 bx
  obtain ⟨l2, hl2⟩ : ∃ l2, l2 = l1.set N (rotB (l1.getD N []) K bx) := ⟨_, rfl⟩
  have ll2 : l2.length = 600 := by rw [hl2, List.length_set]; exact ll1
  rw [← hl2] at hot
  replace hD4 : DiskAt w4 (gro (Nw W w3) w3 w4) A ⟨l2, l2, []⟩ := by rw [hl2]; exact hD4
  refine Lw.take (dj := 45) rfl rfl ?_
  refine Lw.val (Ex.neq rfl rfl) rfl ?_
  refine Lw.val (Ex.pickF rfl rfl) rfl ?_
  refine Lw.nil ?_
  refine Pw.thenN (Cw.out ?_)
  refine Cw.condB rfl false (rfl) ?_
  refine Cw.skip ?_
  refine Pw.thenN (Cw.out ?_)
  refine Cw.seq ?_
  refine Cw.region ?_
  refine Lw.val (Ex.move rfl) rfl ?_
  rcases hot with hon | ⟨hne, e, es, he, hO, hbd⟩
  · refine Lw.callF rfl rfl (open1_c A _ l2 (nums2 ps) w4 hD4 hon (by omega)) ?_
    rintro _ w5 ⟨hn5, L2, rfl, hL2⟩
    have hB5 := hB4.trans (hn5.mono (below_size hB4))
    refine Lw.val (Ex.move rfl) rfl ?_
    refine Lw.val (Ex.extract (i := 0) rfl rfl) rfl ?_
    refine Lw.val (Ex.extract (i := 1) rfl rfl) rfl ?_
    refine Lw.val (Ex.assign rfl) rfl ?_
    refine Lw.val (Ex.assign rfl) rfl ?_
    refine Lw.nil ?_
    refine Pw.thenN (Cw.out ?_)
    refine Cw.seq ?_
    refine Cw.seq ?_
    refine Cw.region ?_
    refine Lw.val (Ex.move rfl) rfl ?_
    refine Lw.val (Ex.neq rfl rfl) rfl ?_
    refine Lw.nil ?_
    refine Pw.thenN (Cw.out ?_)
    refine Cw.condB rfl false (rfl) ?_
    refine Cw.skip ?_
    refine Pw.thenN (Cw.out ?_)
    refine Cw.seq ?_
    refine Cw.region ?_
    refine Lw.val (Ex.move rfl) rfl ?_
    refine Lw.val (Ex.move rfl) rfl ?_
    refine Lw.callF rfl rfl (told_c L2 A _ l2 _ v ps w5 hL2 (h.bs hB5)) ?_
    rintro _ w6 ⟨rfl, hn6⟩
    have hB6 := hB5.trans (hn6.mono (below_size hB5))
    rw [decide_eq_true (rfl : nums2 ps = nums2 ps)]
    refine Lw.val (Ex.move rfl) rfl ?_
    refine Lw.know 80 (v' := .bool true) rfl (congrArg Value.bool (rfl)) ?_
    refine Lw.take (dj := 80) rfl rfl ?_
    refine Lw.callF rfl rfl (lives_c w6) ?_
    rintro _ w7 ⟨rfl, hn7⟩
    refine Lw.val (Ex.pickT rfl rfl) rfl ?_
    refine Lw.val (Ex.assign rfl) rfl ?_
    refine Lw.nil ?_
    refine Pw.thenN (Cw.out ?_)
    refine Cw.ret ?_
    refine Pw.ret1 rfl rfl ?_
    exact ⟨rfl, hB6.trans (hn7.mono (below_size hB6))⟩
  · have e0 : e ≠ 0 := by omega
    refine Lw.callF rfl rfl (open_c A _ ⟨l2, l2, []⟩ e es w4 hD4 (show 2 ≤ l2.length by omega) hO hbd) ?_
    rintro r w5 ⟨hn5, -, hr⟩
    obtain rfl := hr e0
    have hB5 := hB4.trans (hn5.mono (below_size hB4))
    have eb : (decide (bx = 0#8)) = false := decide_eq_false hne
    rcases he with rfl | rfl
    · refine Lw.val (Ex.move rfl) rfl ?_
      refine Lw.val (Ex.extract (i := 0) rfl rfl) rfl ?_
      refine Lw.val (Ex.extract (i := 1) rfl rfl) rfl ?_
      refine Lw.val (Ex.assign rfl) rfl ?_
      refine Lw.val (Ex.assign rfl) rfl ?_
      refine Lw.nil ?_
      refine Pw.thenN (Cw.out ?_)
      refine Cw.seq ?_
      refine Cw.seq ?_
      refine Cw.region ?_
      refine Lw.val (Ex.move rfl) rfl ?_
      refine Lw.val (Ex.neq rfl rfl) rfl ?_
      refine Lw.nil ?_
      refine Pw.thenN (Cw.out ?_)
      refine Cw.condB rfl true (rfl) ?_
      refine Cw.seq ?_
      refine Cw.region ?_
      refine Lw.val (Ex.move rfl) rfl ?_
      refine Lw.val (Ex.neq8 rfl (show _ = some (b8 (0#8)) from rfl)) rfl ?_
      refine Lw.val (Ex.move rfl) rfl ?_
      refine Lw.know 66 (v' := .bool true) rfl (congrArg Value.bool ((by rw [eb]; rfl))) ?_
      refine Lw.take (dj := 66) rfl rfl ?_
      refine Lw.val (Ex.move rfl) rfl ?_
      refine Lw.take (dj := 66) rfl rfl ?_
      refine Lw.val (Ex.eql rfl rfl) rfl ?_
      refine Lw.take (dj := 66) rfl rfl ?_
      refine Lw.val (Ex.move rfl) rfl ?_
      refine Lw.know 69 (v' := .bool false) rfl (congrArg Value.bool (rfl)) ?_
      refine Lw.take (dj := 69) rfl rfl ?_
      refine Lw.val (Ex.move rfl) rfl ?_
      refine Lw.take (dj := 69) rfl rfl ?_
      refine Lw.val (Ex.eql rfl rfl) rfl ?_
      refine Lw.take (dj := 66) rfl rfl ?_
      refine Lw.val (Ex.pickF rfl rfl) rfl ?_
      refine Lw.val (Ex.pickT rfl rfl) rfl ?_
      refine Lw.val (Ex.move rfl) rfl ?_
      refine Lw.know 74 (v' := .bool true) rfl (congrArg Value.bool (rfl)) ?_
      refine Lw.take (dj := 74) rfl rfl ?_
      refine Lw.callF rfl rfl (lives_c w5) ?_
      rintro _ w7 ⟨rfl, hn7⟩
      refine Lw.val (Ex.pickT rfl rfl) rfl ?_
      refine Lw.val (Ex.assign rfl) rfl ?_
      refine Lw.nil ?_
      refine Pw.thenN (Cw.out ?_)
      refine Cw.ret ?_
      refine Pw.thenR ?_
      refine Pw.ret1 rfl rfl ?_
      exact ⟨rfl, hB5.trans (hn7.mono (below_size hB5))⟩
    · refine Lw.val (Ex.move rfl) rfl ?_
      refine Lw.val (Ex.extract (i := 0) rfl rfl) rfl ?_
      refine Lw.val (Ex.extract (i := 1) rfl rfl) rfl ?_
      refine Lw.val (Ex.assign rfl) rfl ?_
      refine Lw.val (Ex.assign rfl) rfl ?_
      refine Lw.nil ?_
      refine Pw.thenN (Cw.out ?_)
      refine Cw.seq ?_
      refine Cw.seq ?_
      refine Cw.region ?_
      refine Lw.val (Ex.move rfl) rfl ?_
      refine Lw.val (Ex.neq rfl rfl) rfl ?_
      refine Lw.nil ?_
      refine Pw.thenN (Cw.out ?_)
      refine Cw.condB rfl true (rfl) ?_
      refine Cw.seq ?_
      refine Cw.region ?_
      refine Lw.val (Ex.move rfl) rfl ?_
      refine Lw.val (Ex.neq8 rfl (show _ = some (b8 (0#8)) from rfl)) rfl ?_
      refine Lw.val (Ex.move rfl) rfl ?_
      refine Lw.know 66 (v' := .bool true) rfl (congrArg Value.bool ((by rw [eb]; rfl))) ?_
      refine Lw.take (dj := 66) rfl rfl ?_
      refine Lw.val (Ex.move rfl) rfl ?_
      refine Lw.take (dj := 66) rfl rfl ?_
      refine Lw.val (Ex.eql rfl rfl) rfl ?_
      refine Lw.take (dj := 66) rfl rfl ?_
      refine Lw.val (Ex.move rfl) rfl ?_
      refine Lw.know 69 (v' := .bool true) rfl (congrArg Value.bool (rfl)) ?_
      refine Lw.pass (dj := 69) rfl rfl rfl rfl ?_
      refine Lw.pass (dj := 69) rfl rfl rfl rfl ?_
      refine Lw.take (dj := 66) rfl rfl ?_
      refine Lw.val (Ex.pickT rfl rfl) rfl ?_
      refine Lw.val (Ex.pickT rfl rfl) rfl ?_
      refine Lw.val (Ex.move rfl) rfl ?_
      refine Lw.take (dj := 74) rfl rfl ?_
      refine Lw.know 74 (v' := .bool true) rfl (congrArg Value.bool (rfl)) ?_
      refine Lw.callF rfl rfl (lives_c w5) ?_
      rintro _ w7 ⟨rfl, hn7⟩
      refine Lw.val (Ex.pickT rfl rfl) rfl ?_
      refine Lw.val (Ex.assign rfl) rfl ?_
      refine Lw.nil ?_
      refine Pw.thenN (Cw.out ?_)
      refine Cw.ret ?_
      refine Pw.thenR ?_
      refine Pw.ret1 rfl rfl ?_
      exact ⟨rfl, hB5.trans (hn7.mono (below_size hB5))⟩

set_option maxRecDepth 100000 in
set_option maxHeartbeats 2000000 in
theorem outlogsTurned_lifted (os : Os) (started : os.Started) (H : Type) (enc : TypeId × Value → H) :
    ReturnsInHanded {} Try.checked os 7 .any (Rows.outlogsTurnedSpec.pre6 enc Try.prog Try.f7 Rows.outlogsTurnedRow.domain false) (Rows.outlogsTurnedSpec.post enc Try.prog Try.f7 false true false false) := by
  refine returnsInHanded_of_change_sized (C := Try.checked) own started (by kernel_rfl) Try.func7
    (ChangeSpec.witness6 (enc := enc) (C := Try.checked) false ⟨#[], #[.agg #[.slice none 0 0, .int .u16 0, .int .u8 0, .int .u8 0]], []⟩ 8 (by kernel_rfl) (by kernel_rfl) (by kernel_rfl) (by kernel_rfl)) ?_
  intro W base args ds gs before hval0 hW hcnd hsz0 _
  have hval : ∀ (j : Nat) t v, Try.f7.params[j]? = some t → args[j]? = some v → Value.okWide Try.prog W .any base t v := hval0
  have hW' := hW
  obtain ⟨p, q, hA0, hV, rfl, hfz, hnd⟩ := hW
  have hA : DataW.TrodAll enc Try.prog W 0 (fun _ => true) true Try.f7.params.toList args.toList ds p := hA0
  have hsz : (DataW.weightsEach Try.prog (Try.f7.params.toList ++ Rows.outlogsTurnedSpec.plain.varTypes Try.prog) (ds ++ gs)).all (· ≤ reachBytes) = true := hsz0
  rw [Try.params7] at hA hval hsz
  obtain ⟨v0, vs0, d0, ds0, p0, q0, hargs, rfl, rfl, h0, r0⟩ := trodAll_cons hA
  obtain ⟨rfl, rfl, rfl⟩ := trodAll_nil r0
  obtain rfl : args = #[v0] := by cases args; simp_all
  obtain ⟨rfl, rfl⟩ := trodVars_none hV
  have k0 := h0
  have lt0 : ∀ x ∈ p0, x.block < W.heap.size := by obtain ⟨m, hm⟩ := k0; exact DataW.trod_lt m _ _ _ hm
  have i0 := in_of (j := 0) (t := 62) hsz rfl rfl h0
  have o0 := hval 0 62 v0 rfl rfl
  clear hA0 hval0 hsz0 hsz
  obtain ⟨cs, rfl, hin⟩ := arg_struct Try.underlying62 o0 i0
  obtain ⟨hlen, hel⟩ := hin.struct Try.underlying62
  have c5 : Try.prog.cellsOf 62 = 4 := by kernel_rfl
  have c1 : Try.prog.cellsOf 22 = 1 := by kernel_rfl
  have c2 : Try.prog.cellsOf 60 = 1 := by kernel_rfl
  have c3 : Try.prog.cellsOf 5 = 1 := by kernel_rfl
  rw [c5] at hlen
  obtain ⟨u0, u1, u2, u3, rfl⟩ := four_of hlen
  obtain ⟨a, ps, e0, hl, hm⟩ := in_ll (hel 0 _ rfl)
  obtain ⟨sx, e1⟩ := In.num (BitVec.ofInt 16) u16 (fun _ h => wf_u16 h) un_60 (hel 1 _ rfl)
  obtain ⟨ax, e2⟩ := In.num (BitVec.ofInt 8) b8 (fun _ h => wf_u8 h) un_5 (hel 2 _ rfl)
  obtain ⟨bx, e3⟩ := In.num (BitVec.ofInt 8) b8 (fun _ h => wf_u8 h) un_5 (hel 3 _ rfl)
  simp [c1, c2, c3] at e0 e1 e2 e3
  subst e0 e1 e2 e3
  refine (law_calls (outlogsTurned_w u0 ps sx ax bx W hl hm)).mono fun e W' ⟨he, bel⟩ => ?_
  subst he
  exact ⟨_, rfl, _, _, _, [], _, [], hW', trodAll_mk1 (shut_bool un_4 _), (trodAll_cons_mk (Below.trod laidOut (by kernel_rfl) (of_decide_eq_true (by kernel_rfl)) k0 bel lt0) trodAll_mk0), rfl, bel.frame _, fun h => by cases h⟩

/-- The statement. -/
theorem outlogsTurned_proved : Rows.OutlogsTurnedSaid :=
  OpenClaim.holds_of_wide 7 Try.f7 rfl rfl rfl rfl rfl rfl rfl ⟨rfl, rfl, rfl, rfl, rfl⟩ rfl rfl rfl rfl rfl (by kernel_rfl) Try.func7 (by kernel_rfl)
    (of_decide_eq_true (by kernel_rfl)) (by unfold Func.isWrapper; first | (rw [if_pos (by decide +kernel)]; kernel_rfl) | (rw [if_neg (by decide +kernel)]; exact ⟨rfl, rfl⟩))
    (fun os started H enc _ => outlogsTurned_lifted os started H enc)
#print axioms outlogsTurned_proved
end Go.Proofs.Ytiaojbbgjlpikaa
