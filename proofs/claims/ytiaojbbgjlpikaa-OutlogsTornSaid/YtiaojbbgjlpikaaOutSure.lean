/- All that was added is there behind any failure; what is cut is gone: for any lists; no condition. -/
import Derived.Test.YtiaojbbgjlpikaaOutAgain
namespace Go.Proofs.Ytiaojbbgjlpikaa
open Go Go.Dd Go.RowKit Go.ChangeShapes Go.WideShapes
set_option maxRecDepth 100000

abbrev i8v (b : BitVec 8) : Value := .int .i8 b.toInt
theorem wf_i8 {m : Int} (h : (Lit.int .i8 m).wf = true) : Value.int .i8 m = i8v (BitVec.ofInt 8 m) := by
  simp [Lit.wf, IntKind.min, IntKind.max, IntKind.signed, IntKind.bits] at h
  have : (BitVec.ofInt 8 m).toInt = m := by rw [BitVec.toInt_ofInt, Int.bmod_def]; omega
  unfold i8v; rw [this]
theorem i8_bd (b : BitVec 8) : -9223372036854775808 ≤ b.toInt ∧ b.toInt ≤ 9223372036854775807 := by
  have h1 := BitVec.toInt_lt (x := b)
  have h2 := BitVec.le_toInt (x := b)
  omega

theorem five_of {α : Type} {l : List α} (h : l.length = 5) : ∃ a b c d e, l = [a, b, c, d, e] := by
  match l, h with
  | [a, b, c, d, e], _ => exact ⟨a, b, c, d, e, rfl⟩

theorem outlogsSure_w (v u : Value) (ps qs : List (Value × Nums)) (c : BitVec 8) (kp : BitVec 64) (tn : BitVec 8) (W : World) (h : LL W v ps) (hq : LL W u qs) (hm : ps.length ≤ 1125899906842624) (hm2 : qs.length ≤ 1125899906842624) :
    Fnc Try.prog 4 [.agg #[v, u, b8 c, u64 kp, i8v tn]] W (fun r w' => r = .bool true ∧ Below W.heap.size W w') := by
  have hB := Below.refl W.heap.size W
  refine Fnc.enter (n := 149) Try.func4 (by kernel_rfl) rfl rfl rfl ?_
  refine Cw.seq ?_
  refine Cw.region ?_
  refine Lw.boxV (cs := [v, u, b8 c, u64 kp, i8v tn]) rfl rfl rfl ?_
  rintro A_z w eA_z b_z hn -
  replace hB := hB.bs hn
  clear hn
  refine Lw.val (Ex.assign rfl) rfl ?_
  refine Lw.nil ?_
  refine Pw.thenN (Cw.out ?_)
  refine Cw.seq ?_
  refine Cw.region ?_
  refine Lw.val (Ex.fieldAddr (q := 0) Try.underlying46 rfl (sz_22 _) rfl) rfl ?_
  refine Lw.val (Ex.ldB (ag_22 _) rfl (by assumption) rfl) rfl ?_
  refine Lw.val (Ex.assign rfl) rfl ?_
  refine Lw.nil ?_
  refine Pw.thenN (Cw.out ?_)
  refine Cw.seq ?_
  refine Cw.region ?_
  refine Lw.val (Ex.fieldAddr (q := 0) Try.underlying46 rfl (sz_22 _) rfl) rfl ?_
  refine Lw.val (Ex.ldB (ag_22 _) rfl (by assumption) rfl) rfl ?_
  refine Lw.val (Ex.assign rfl) rfl ?_
  refine Lw.nil ?_
  refine Pw.thenN (Cw.out ?_)
  refine Cw.seq ?_
  refine Cw.region ?_
  refine Lw.val (Ex.fieldAddr (q := 0) Try.underlying46 rfl (sz_5 _) rfl) rfl ?_
  refine Lw.val (Ex.ldB (ag_5 _) rfl (by assumption) rfl) rfl ?_
  refine Lw.val (Ex.assign rfl) rfl ?_
  refine Lw.nil ?_
  refine Pw.thenN (Cw.out ?_)
  refine Cw.seq ?_
  refine Cw.region ?_
  refine Lw.val (Ex.fieldAddr (q := 0) Try.underlying46 rfl (sz_43 _) rfl) rfl ?_
  refine Lw.val (Ex.ldB (ag_43 _) rfl (by assumption) rfl) rfl ?_
  refine Lw.val (Ex.assign rfl) rfl ?_
  refine Lw.nil ?_
  refine Pw.thenN (Cw.out ?_)
  refine Cw.seq ?_
  refine Cw.region ?_
  refine Lw.val (Ex.fieldAddr (q := 0) Try.underlying46 rfl (sz_44 _) rfl) rfl ?_
  refine Lw.val (Ex.ldB (ag_44 _) rfl (by assumption) rfl) rfl ?_
  refine Lw.val (Ex.assign rfl) rfl ?_
  refine Lw.nil ?_
  refine Pw.thenN (Cw.out ?_)
  refine Cw.seq ?_
  refine Cw.seq ?_
  refine Cw.region ?_
  refine Lw.val (Ex.move rfl) rfl ?_
  refine Lw.callF rfl rfl (fit_c v ps w (h.bs hB) hm) ?_
  rintro _ w ⟨rfl, hn⟩
  have hB := hB.trans (hn.mono (below_size hB))
  refine Lw.val (Ex.not rfl) rfl ?_
  refine Lw.val (Ex.move rfl) rfl ?_
  refine Lw.part 31 rfl ?_ ?_
  · intro g
    refine Lw.pass (dj := 31) rfl rfl rfl rfl ?_
    refine Lw.pass (dj := 31) rfl rfl rfl rfl ?_
    refine Lw.pass (dj := 31) rfl rfl rfl rfl ?_
    refine Lw.val (Ex.pickT rfl rfl) rfl ?_
    refine Lw.nil ?_
    refine Pw.thenN (Cw.out ?_)
    refine Cw.condT rfl ?_
    refine Cw.seq ?_
    refine Cw.region ?_
    refine Lw.callF rfl rfl (lives_c w) ?_
    rintro _ w99 ⟨rfl, hn99⟩
    refine Lw.val (Ex.assign rfl) rfl ?_
    refine Lw.nil ?_
    refine Pw.thenN (Cw.out ?_)
    refine Cw.ret ?_
    refine Pw.thenR ?_
    refine Pw.ret1 rfl rfl ?_
    exact ⟨rfl, hB.trans (hn99.mono (below_size hB))⟩
  intro g
  have f1 : fitB ps = true := by simpa using g
  refine Lw.take (dj := 31) rfl rfl ?_
  refine Lw.val (Ex.move rfl) rfl ?_
  refine Lw.take (dj := 31) rfl rfl ?_
  refine Lw.callF rfl rfl (fit_c u qs w (hq.bs hB) hm2) ?_
  rintro _ w ⟨rfl, hn⟩
  have hB := hB.trans (hn.mono (below_size hB))
  refine Lw.take (dj := 31) rfl rfl ?_
  refine Lw.val (Ex.not rfl) rfl ?_
  refine Lw.val (Ex.pickF rfl rfl) rfl ?_
  refine Lw.nil ?_
  refine Pw.thenN (Cw.out ?_)
  refine Cw.cond rfl ?_ ?_
  · intro g
    refine Cw.seq ?_
    refine Cw.region ?_
    refine Lw.callF rfl rfl (lives_c w) ?_
    rintro _ w99 ⟨rfl, hn99⟩
    refine Lw.val (Ex.assign rfl) rfl ?_
    refine Lw.nil ?_
    refine Pw.thenN (Cw.out ?_)
    refine Cw.ret ?_
    refine Pw.thenR ?_
    refine Pw.ret1 rfl rfl ?_
    exact ⟨rfl, hB.trans (hn99.mono (below_size hB))⟩
  intro g
  have f2 : fitB qs = true := by simpa using g
  obtain ⟨x1, m1⟩ := fitB_ok f1
  obtain ⟨x2, m2⟩ := fitB_ok f2
  have z0 := below_size hB
  refine Cw.skip ?_
  refine Pw.thenN (Cw.out ?_)
  refine Cw.seq ?_
  refine Cw.region ?_
  refine Lw.callF rfl rfl (dnew_c 600 w (by omega) (by omega)) ?_
  rintro _ w1 ⟨hn1, A, rfl, hD⟩
  have z1 := hn1.size
  have hB1 := hB.trans (hn1.mono z0)
  obtain ⟨l0, hl0⟩ : ∃ l0, l0 = List.replicate 600 zer := ⟨_, rfl⟩
  have ll0 : l0.length = 600 := by rw [hl0, List.length_replicate]
  have on0 : OnDisk l0 [] := by rw [hl0]; exact onDisk_new (by decide)
  rw [← hl0] at hD
  clear hl0
  refine Lw.val (Ex.move rfl) rfl ?_
  refine Lw.val (Ex.extract (i := 0) rfl rfl) rfl ?_
  refine Lw.val (Ex.extract (i := 1) rfl rfl) rfl ?_
  refine Lw.val (Ex.assign rfl) rfl ?_
  refine Lw.val (Ex.assign rfl) rfl ?_
  refine Lw.nil ?_
  refine Pw.thenN (Cw.out ?_)
  refine Cw.seq ?_
  refine Cw.region ?_
  refine Lw.val (Ex.move rfl) rfl ?_
  refine Lw.callF rfl rfl (open1_c A _ l0 [] w1 hD on0 (by omega)) ?_
  rintro _ w2 ⟨hn2, L, rfl, hL⟩
  have z2 := hn2.size
  have hB2 := hB1.trans (hn2.mono (by omega))
  have hL := hL.wide (T := Nw W w2) (fun b e => e.elim (fun e => ⟨by omega, by omega⟩) (fun e => ⟨by omega, e.2⟩)) (fun b e => e.2)
  have st := stN_two f1 f2
  refine Lw.val (Ex.move rfl) rfl ?_
  refine Lw.val (Ex.extract (i := 0) rfl rfl) rfl ?_
  refine Lw.val (Ex.extract (i := 1) rfl rfl) rfl ?_
  refine Lw.val (Ex.assign rfl) rfl ?_
  refine Lw.val (Ex.assign rfl) rfl ?_
  refine Lw.nil ?_
  refine Pw.thenN (Cw.out ?_)
  refine Cw.seq ?_
  refine Cw.seq ?_
  refine Cw.region ?_
  refine Lw.val (Ex.move rfl) rfl ?_
  refine Lw.val (Ex.neq rfl rfl) rfl ?_
  refine Lw.val (Ex.move rfl) rfl ?_
  refine Lw.know 48 (v' := .bool false) rfl (congrArg Value.bool (rfl)) ?_
  refine Lw.take (dj := 48) rfl rfl ?_
  refine Lw.val (Ex.move rfl) rfl ?_
  refine Lw.take (dj := 48) rfl rfl ?_
  refine Lw.val (Ex.neq rfl rfl) rfl ?_
  refine Lw.val (Ex.pickF rfl rfl) rfl ?_
  refine Lw.val (Ex.move rfl) rfl ?_
  refine Lw.know 52 (v' := .bool false) rfl (congrArg Value.bool (rfl)) ?_
  refine Lw.take (dj := 52) rfl rfl ?_
  refine Lw.val (Ex.move rfl) rfl ?_
  refine Lw.take (dj := 52) rfl rfl ?_
  refine Lw.val (Ex.move rfl) rfl ?_
  refine Lw.take (dj := 52) rfl rfl ?_
  refine Lw.callF rfl rfl (added_c L A (Nw W w2) l0 [] v ps W w2 hL h hB2 (fun b e => e.1) x1 (by simp; omega) (by rw [List.nil_append]; omega)) ?_
  rintro _ w3 ⟨rfl, hC3, l1, hL, ll1, -⟩
  rw [List.nil_append] at hL
  have z3 := hC3.size
  have hB3 := hC3.to_below (fun b e => e.1) (below_size hB2)
  have hB3 := hB2.trans hB3
  have hL := hL.nw (by omega) z3
  have ll1 : l1.length = 600 := by omega
  refine Lw.take (dj := 52) rfl rfl ?_
  refine Lw.val (Ex.not rfl) rfl ?_
  refine Lw.val (Ex.pickF rfl rfl) rfl ?_
  refine Lw.val (Ex.move rfl) rfl ?_
  refine Lw.know 58 (v' := .bool false) rfl (congrArg Value.bool (rfl)) ?_
  refine Lw.take (dj := 58) rfl rfl ?_
  refine Lw.val (Ex.move rfl) rfl ?_
  refine Lw.take (dj := 58) rfl rfl ?_
  refine Lw.val (Ex.move rfl) rfl ?_
  refine Lw.take (dj := 58) rfl rfl ?_
  refine Lw.callF rfl rfl (told_c L A _ l1 _ v ps w3 hL (h.bs hB3)) ?_
  rintro _ w4 ⟨rfl, hn4⟩
  rw [decide_eq_true (rfl : nums2 ps = nums2 ps)]
  have z4 := hn4.size
  have hL := hL.bs hn4
  have hB4 := hB3.trans (hn4.mono (by omega))
  obtain ⟨S0, hS0, hL⟩ : ∃ S0, (∀ b, S0 b → b < w4.heap.size) ∧ LogIs w4 S0 L A l1 (nums2 ps) := ⟨_, fun b e => Nat.lt_of_lt_of_le e.2 z4, hL⟩
  obtain ⟨N, hN⟩ : ∃ N, N = c.toNat % (ps.length + 1) := ⟨_, rfl⟩
  have hNl : N < ps.length + 1 := by rw [hN]; exact Nat.mod_lt _ (Nat.succ_pos _)
  have s_v := h.sl.bs hB4
  refine Lw.take (dj := 58) rfl rfl ?_
  refine Lw.val (Ex.not rfl) rfl ?_
  refine Lw.val (Ex.pickF rfl rfl) rfl ?_
  refine Lw.nil ?_
  refine Pw.thenN (Cw.out ?_)
  refine Cw.condB rfl false (rfl) ?_
  refine Cw.skip ?_
  refine Pw.thenN (Cw.out ?_)
  refine Cw.seq ?_
  refine Cw.region ?_
  refine Lw.val (Ex.move rfl) rfl ?_
  refine Lw.val (Ex.conv8_I us_5 un_3 rfl) rfl ?_
  refine Lw.val (Ex.move rfl) rfl ?_
  refine Lw.val (Ex.lenS st_22 rfl (by assumption)) rfl ?_
  refine Lw.val ((Ex.addI rfl rfl (by omega)).as (congrArg (Value.int .i64) (show (ps.length : Int) + 1 = ((ps.length + 1 : Nat) : Int) by omega))) rfl ?_
  refine Lw.val ((Ex.remN rfl rfl (Nat.succ_pos _)).as (congrArg (fun n : Nat => Value.int .i64 (n : Int)) hN.symm)) rfl ?_
  refine Lw.val (Ex.assign rfl) rfl ?_
  refine Lw.nil ?_
  refine Pw.thenN (Cw.out ?_)
  refine Cw.seq ?_
  refine Cw.seq ?_
  refine Cw.region ?_
  refine Lw.val (Ex.assign rfl) rfl ?_
  refine Lw.nil ?_
  refine Pw.thenN (Cw.out ?_)
  refine Cw.block ?_
  have lN : (nums2 (ps.take N)).length = N := by rw [nums2_len, List.length_take]; omega
  have lNi : ((nums2 (ps.take N)).length : Int) = (N : Int) := by rw [lN]
  have stT : stN (nums2 (ps.take N) ++ nums2 qs) ≤ 501 := by
    have e1 := stN_app (nums2 (ps.take N)) (nums2 qs)
    have e2 := stN_app (nums2 ps) (nums2 qs)
    have e3 : stN (nums2 (ps.take N)) ≤ stN (nums2 ps) := by rw [nums2_take]; exact stN_le
    omega
  refine Cw.loop (S := Nat) (fun i => [(3, v), (4, u), (6, u64 kp), (7, i8v tn), (8, .pointer (some ⟨A, 0, none⟩)), (12, .int .i64 (N : Int)), (13, .int .i64 (i : Int))]) (fun i w' => i ≤ 2 ∧ Below W.heap.size W w' ∧ w4.heap.size ≤ w'.heap.size ∧ LogIs w' S0 L A l1 (nums2 ps)) (fun i => 2 - i) (0) ⟨rfl, rfl, rfl, rfl, rfl, rfl, rfl, trivial⟩ ?_ ?_
  · exact ⟨by omega, hB4, Nat.le_refl _, hL⟩
  clear hL hD
  rintro i w5 ⟨hi, hB, z5, hL⟩
  refine Cw.seq ?_
  refine Cw.seq ?_
  refine Cw.region ?_
  refine Lw.val (Ex.move rfl) rfl ?_
  refine Lw.val (Ex.lss rfl rfl) rfl ?_
  refine Lw.nil ?_
  refine Pw.thenN (Cw.out ?_)
  refine Cw.cond rfl ?_ ?_
  · intro g
    have hi' : i < 2 := by have := of_decide_eq_true g; omega
    refine Cw.skip ?_
    refine Pw.thenN (Cw.out ?_)
    refine Cw.seq ?_
    refine Cw.block ?_
    refine Cw.seq ?_
    refine Cw.region ?_
    refine Lw.val (Ex.move rfl) rfl ?_
    refine Lw.val (Ex.move rfl) rfl ?_
    refine Lw.val (Ex.move rfl) rfl ?_
    refine Lw.val (Ex.convI64 us_44 un_3 rfl (i8_bd tn)) rfl ?_
    refine Lw.callF rfl rfl (fail1_c A S0 l1 kp tn.toInt w5 hL.log.disk) ?_
    rintro _ w6 ⟨hn6, A1, rfl, hD1⟩
    have z6 := hn6.size
    have hL := hL.bs hn6
    have hB := hB.trans (hn6.mono (by omega))
    refine Lw.val (Ex.move rfl) rfl ?_
    refine Lw.val (Ex.extract (i := 0) rfl rfl) rfl ?_
    refine Lw.val (Ex.extract (i := 1) rfl rfl) rfl ?_
    refine Lw.val (Ex.assign rfl) rfl ?_
    refine Lw.val (Ex.assign rfl) rfl ?_
    refine Lw.nil ?_
    refine Pw.thenN (Cw.out ?_)
    refine Cw.seq ?_
    refine Cw.region ?_
    refine Lw.val (Ex.move rfl) rfl ?_
    refine Lw.callF rfl rfl (open1_c A1 _ l1 (nums2 ps) w6 hD1 hL.on (by omega)) ?_
    rintro _ w7 ⟨hn7, L1, rfl, hL1⟩
    have z7 := hn7.size
    have hL := hL.bs hn7
    have hB := hB.trans (hn7.mono (by omega))
    obtain ⟨S1, hS1, hL1⟩ : ∃ S1, (∀ b, S1 b → w5.heap.size ≤ b ∧ b < w7.heap.size) ∧ LogIs w7 S1 L1 A1 l1 (nums2 ps) := by
      refine ⟨_, fun b e => ?_, hL1⟩
      rcases e with e | e <;> omega
    clear hD1
    refine Lw.val (Ex.move rfl) rfl ?_
    refine Lw.val (Ex.extract (i := 0) rfl rfl) rfl ?_
    refine Lw.val (Ex.extract (i := 1) rfl rfl) rfl ?_
    refine Lw.val (Ex.assign rfl) rfl ?_
    refine Lw.val (Ex.assign rfl) rfl ?_
    refine Lw.nil ?_
    refine Pw.thenN (Cw.out ?_)
    refine Cw.seq ?_
    refine Cw.seq ?_
    refine Cw.region ?_
    refine Lw.val (Ex.move rfl) rfl ?_
    refine Lw.val (Ex.neq rfl rfl) rfl ?_
    refine Lw.val (Ex.move rfl) rfl ?_
    refine Lw.know 89 (v' := .bool false) rfl (congrArg Value.bool (rfl)) ?_
    refine Lw.take (dj := 89) rfl rfl ?_
    refine Lw.val (Ex.move rfl) rfl ?_
    refine Lw.take (dj := 89) rfl rfl ?_
    refine Lw.val (Ex.neq rfl rfl) rfl ?_
    refine Lw.val (Ex.pickF rfl rfl) rfl ?_
    refine Lw.val (Ex.move rfl) rfl ?_
    refine Lw.know 93 (v' := .bool false) rfl (congrArg Value.bool (rfl)) ?_
    refine Lw.take (dj := 93) rfl rfl ?_
    refine Lw.val (Ex.move rfl) rfl ?_
    refine Lw.take (dj := 93) rfl rfl ?_
    refine Lw.val (Ex.move rfl) rfl ?_
    refine Lw.take (dj := 93) rfl rfl ?_
    refine Lw.callF rfl rfl (told_c L1 A1 S1 l1 _ v ps w7 hL1 (h.bs hB)) ?_
    rintro _ w8 ⟨rfl, hn8⟩
    rw [decide_eq_true (rfl : nums2 ps = nums2 ps)]
    have z8 := hn8.size
    have hL := hL.bs hn8
    have hL1 := hL1.bs hn8
    have hB := hB.trans (hn8.mono (by omega))
    refine Lw.take (dj := 93) rfl rfl ?_
    refine Lw.val (Ex.not rfl) rfl ?_
    refine Lw.val (Ex.pickF rfl rfl) rfl ?_
    refine Lw.nil ?_
    refine Pw.thenN (Cw.out ?_)
    refine Cw.condB rfl false (rfl) ?_
    refine Cw.skip ?_
    refine Pw.thenN (Cw.out ?_)
    refine Cw.seq ?_
    refine Cw.seq ?_
    refine Cw.region ?_
    refine Lw.val (Ex.move rfl) rfl ?_
    refine Lw.val (Ex.move rfl) rfl ?_
    refine Lw.callF rfl rfl (cut1_c L1 A1 S1 l1 (nums2 ps) N w8 hL1 (by rw [nums2_len]; omega)) ?_
    rintro _ w9 ⟨rfl, hC9, hL1⟩
    rw [← nums2_take] at hL1
    have z9 := hC9.size
    have hL := hL.chg hC9 (fun b e e2 => by have := hS0 b e; have := hS1 b e2; omega)
    have hB := hB.trans (hC9.to_below (fun b e => by have := hS1 b e; omega) (by omega))
    obtain ⟨S2, hS2, l2, ll2, hL1⟩ : ∃ S2, (∀ b, S2 b → w5.heap.size ≤ b ∧ b < w9.heap.size) ∧ ∃ l2, l2.length = 600 ∧ LogIs w9 S2 L1 A1 l2 (nums2 (ps.take N)) := by
      refine ⟨_, fun b e => ?_, _, ?_, hL1⟩
      · rcases e with e | e
        · have := hS1 b e; omega
        · omega
      · rw [List.length_set]; exact ll1
    have hv := (h.bs hB).take (n := N) (by omega)
    refine Lw.val (Ex.neq rfl rfl) rfl ?_
    refine Lw.val (Ex.move rfl) rfl ?_
    refine Lw.know 103 (v' := .bool false) rfl (congrArg Value.bool (rfl)) ?_
    refine Lw.take (dj := 103) rfl rfl ?_
    refine Lw.val (Ex.move rfl) rfl ?_
    refine Lw.take (dj := 103) rfl rfl ?_
    refine Lw.val (Ex.move rfl) rfl ?_
    refine Lw.take (dj := 103) rfl rfl ?_
    refine Lw.val (Ex.move rfl) rfl ?_
    refine Lw.take (dj := 103) rfl rfl ?_
    refine Lw.val (Ex.cutHv st_22 rfl rfl h.sl.shp (by omega)) rfl ?_
    refine Lw.take (dj := 103) rfl rfl ?_
    refine Lw.callF rfl rfl (told_c L1 A1 S2 l2 _ _ (ps.take N) w9 hL1 hv) ?_
    rintro _ w10 ⟨rfl, hn10⟩
    rw [decide_eq_true (rfl : nums2 (ps.take N) = nums2 (ps.take N))]
    have z10 := hn10.size
    have hL := hL.bs hn10
    have hL1 := hL1.bs hn10
    have hB := hB.trans (hn10.mono (by omega))
    have ha := added_c L1 A1 S2 l2 (nums2 (ps.take N)) u qs W w10 hL1 hq hB (fun b e => by have := hS2 b e; omega) x2 (by rw [lN]; omega) (by omega)
    rw [lNi] at ha
    refine Lw.take (dj := 103) rfl rfl ?_
    refine Lw.val (Ex.not rfl) rfl ?_
    refine Lw.val (Ex.pickF rfl rfl) rfl ?_
    refine Lw.val (Ex.move rfl) rfl ?_
    refine Lw.know 111 (v' := .bool false) rfl (congrArg Value.bool (rfl)) ?_
    refine Lw.take (dj := 111) rfl rfl ?_
    refine Lw.val (Ex.move rfl) rfl ?_
    refine Lw.take (dj := 111) rfl rfl ?_
    refine Lw.val (Ex.move rfl) rfl ?_
    refine Lw.take (dj := 111) rfl rfl ?_
    refine Lw.val (Ex.move rfl) rfl ?_
    refine Lw.take (dj := 111) rfl rfl ?_
    refine Lw.callF rfl rfl (ha) ?_
    rintro _ w11 ⟨rfl, hC11, l3, hL1, ll3, -⟩
    have z11 := hC11.size
    have hL := hL.chg hC11 (fun b e e2 => by have := hS0 b e; have := hS2 b e2; omega)
    have hB := hB.trans (hC11.to_below (fun b e => by have := hS2 b e; omega) (by omega))
    refine Lw.take (dj := 111) rfl rfl ?_
    refine Lw.val (Ex.not rfl) rfl ?_
    refine Lw.val (Ex.pickF rfl rfl) rfl ?_
    refine Lw.nil ?_
    refine Pw.thenN (Cw.out ?_)
    refine Cw.condB rfl false (rfl) ?_
    refine Cw.skip ?_
    refine Pw.thenN (Cw.out ?_)
    refine Cw.seq ?_
    refine Cw.region ?_
    refine Lw.val (Ex.move rfl) rfl ?_
    refine Lw.val (Ex.move rfl) rfl ?_
    refine Lw.val (Ex.move rfl) rfl ?_
    refine Lw.val (Ex.convI64 us_44 un_3 rfl (i8_bd tn)) rfl ?_
    refine Lw.callF rfl rfl (fail1_c A1 _ l3 kp tn.toInt w11 hL1.log.disk) ?_
    rintro _ w12 ⟨hn12, A2, rfl, hD2⟩
    have z12 := hn12.size
    have hL := hL.bs hn12
    have hB := hB.trans (hn12.mono (by omega))
    refine Lw.val (Ex.move rfl) rfl ?_
    refine Lw.val (Ex.extract (i := 0) rfl rfl) rfl ?_
    refine Lw.val (Ex.extract (i := 1) rfl rfl) rfl ?_
    refine Lw.val (Ex.assign rfl) rfl ?_
    refine Lw.val (Ex.assign rfl) rfl ?_
    refine Lw.nil ?_
    refine Pw.thenN (Cw.out ?_)
    refine Cw.seq ?_
    refine Cw.region ?_
    refine Lw.val (Ex.move rfl) rfl ?_
    refine Lw.callF rfl rfl (open1_c A2 _ l3 _ w12 hD2 hL1.on (by omega)) ?_
    rintro _ w13 ⟨hn13, L2, rfl, hL2⟩
    have z13 := hn13.size
    have hL := hL.bs hn13
    have hB := hB.trans (hn13.mono (by omega))
    have z := below_size hB
    have hv := (h.bs hB).take (n := N) (by omega)
    have hu := hq.bs hB
    have lpN : (ps.take N).length = N := by rw [List.length_take]; omega
    refine Lw.val (Ex.move rfl) rfl ?_
    refine Lw.val (Ex.extract (i := 0) rfl rfl) rfl ?_
    refine Lw.val (Ex.extract (i := 1) rfl rfl) rfl ?_
    refine Lw.val (Ex.assign rfl) rfl ?_
    refine Lw.val (Ex.assign rfl) rfl ?_
    refine Lw.nil ?_
    refine Pw.thenN (Cw.out ?_)
    refine Cw.seq ?_
    refine Cw.region ?_
    refine Lw.val (Ex.move rfl) rfl ?_
    refine Lw.val (Ex.neq rfl rfl) rfl ?_
    refine Lw.val (Ex.move rfl) rfl ?_
    refine Lw.know 133 (v' := .bool false) rfl (congrArg Value.bool (rfl)) ?_
    refine Lw.take (dj := 133) rfl rfl ?_
    refine Lw.val (Ex.move rfl) rfl ?_
    refine Lw.take (dj := 133) rfl rfl ?_
    refine Lw.val (Ex.neq rfl rfl) rfl ?_
    refine Lw.val (Ex.pickF rfl rfl) rfl ?_
    refine Lw.val (Ex.move rfl) rfl ?_
    refine Lw.know 137 (v' := .bool false) rfl (congrArg Value.bool (rfl)) ?_
    refine Lw.take (dj := 137) rfl rfl ?_
    refine Lw.val (Ex.move rfl) rfl ?_
    refine Lw.take (dj := 137) rfl rfl ?_
    refine Lw.val (Ex.move rfl) rfl ?_
    refine Lw.take (dj := 137) rfl rfl ?_
    refine Lw.val (Ex.move rfl) rfl ?_
    refine Lw.take (dj := 137) rfl rfl ?_
    refine Lw.val (Ex.cutHv st_22 rfl rfl h.sl.shp (by omega)) rfl ?_
    refine Lw.take (dj := 137) rfl rfl ?_
    refine Lw.valW (Xw.append2 (base := w13.heap.size) (k := 0) (m := (ps.take N).length) (xs := []) st_22 it_34 rfl (by decide) rfl rfl ⟨rfl, .inl ⟨rfl, rfl⟩⟩ hv.sl hv.ones (by omega) (by omega) (Nat.le_refl _)) rfl ?_
    rintro v1 w14 ⟨o_v, hn, -⟩
    rw [List.nil_append, Nat.zero_add] at o_v
    have z14 := hn.size
    have hu' := hu.bs hn
    refine Lw.take (dj := 137) rfl rfl ?_
    refine Lw.val (Ex.move rfl) rfl ?_
    refine Lw.take (dj := 137) rfl rfl ?_
    refine Lw.valW (Xw.append2 (base := w13.heap.size) st_22 it_34 rfl (by decide) rfl rfl o_v hu'.sl hu'.ones (by omega) (by omega) z14) rfl ?_
    rintro v2 w15 ⟨o_v2, hn2, -⟩
    rw [← List.map_append] at o_v2
    have hn := hn.trans hn2
    have ll := hv.app hu hn o_v2
    have z15 := hn.size
    have hL := hL.bs hn
    have hL2 := hL2.bs hn
    have hB := hB.trans (hn.mono z)
    refine Lw.take (dj := 137) rfl rfl ?_
    refine Lw.callF rfl rfl (told_c L2 A2 _ l3 _ v2 (ps.take N ++ qs) w15 hL2 ll) ?_
    rintro _ w16 ⟨rfl, hn16⟩
    rw [nums2_app, decide_eq_true rfl]
    have z16 := hn16.size
    have hL := hL.bs hn16
    have hB := hB.trans (hn16.mono (by omega))
    refine Lw.take (dj := 137) rfl rfl ?_
    refine Lw.val (Ex.not rfl) rfl ?_
    refine Lw.val (Ex.pickF rfl rfl) rfl ?_
    refine Lw.nil ?_
    refine Pw.thenN (Cw.out ?_)
    refine Cw.condB rfl false (rfl) ?_
    refine Cw.skip ?_
    refine Pw.blkN ?_
    refine Pw.thenN (Cw.out ?_)
    refine Cw.region ?_
    refine Lw.val (Ex.move rfl) rfl ?_
    refine Lw.val (Ex.addI rfl rfl (by omega)) rfl ?_
    refine Lw.val (Ex.assign rfl) rfl ?_
    refine Lw.nil ?_
    exact Pw.thenN (Pw.next (i + 1) ⟨rfl, rfl, rfl, rfl, rfl, rfl, rfl, trivial⟩ (⟨by omega, hB, by omega, hL⟩) (by omega))
  intro g
  refine Cw.exit ?_
  refine Pw.thenE ?_
  refine Pw.thenE ?_
  refine Pw.blkHit ?_
  refine Pw.thenN (Cw.out ?_)
  refine Cw.seq ?_
  refine Cw.region ?_
  refine Lw.callF rfl rfl (lives_c w5) ?_
  rintro _ w6 ⟨rfl, hn6⟩
  refine Lw.val (Ex.assign rfl) rfl ?_
  refine Lw.nil ?_
  refine Pw.thenN (Cw.out ?_)
  refine Cw.ret ?_
  refine Pw.ret1 rfl rfl ?_
  exact ⟨rfl, hB.trans (hn6.mono (below_size hB))⟩

set_option maxRecDepth 100000 in
set_option maxHeartbeats 2000000 in
theorem outlogsSure_lifted (os : Os) (started : os.Started) (H : Type) (enc : TypeId × Value → H) :
    ReturnsInHanded {} Try.checked os 4 .any (Rows.outlogsSureSpec.pre6 enc Try.prog Try.f4 Rows.outlogsSureRow.domain false) (Rows.outlogsSureSpec.post enc Try.prog Try.f4 false true false false) := by
  refine returnsInHanded_of_change_sized (C := Try.checked) own started (by kernel_rfl) Try.func4
    (ChangeSpec.witness6 (enc := enc) (C := Try.checked) false ⟨#[], #[.agg #[.slice none 0 0, .slice none 0 0, .int .u8 0, .int .u64 0, .int .i8 0]], []⟩ 8 (by kernel_rfl) (by kernel_rfl) (by kernel_rfl) (by kernel_rfl)) ?_
  intro W base args ds gs before hval0 hW hcnd hsz0 _
  have hval : ∀ (j : Nat) t v, Try.f4.params[j]? = some t → args[j]? = some v → Value.okWide Try.prog W .any base t v := hval0
  have hW' := hW
  obtain ⟨p, q, hA0, hV, rfl, hfz, hnd⟩ := hW
  have hA : DataW.TrodAll enc Try.prog W 0 (fun _ => true) true Try.f4.params.toList args.toList ds p := hA0
  have hsz : (DataW.weightsEach Try.prog (Try.f4.params.toList ++ Rows.outlogsSureSpec.plain.varTypes Try.prog) (ds ++ gs)).all (· ≤ reachBytes) = true := hsz0
  rw [Try.params4] at hA hval hsz
  obtain ⟨v0, vs0, d0, ds0, p0, q0, hargs, rfl, rfl, h0, r0⟩ := trodAll_cons hA
  obtain ⟨rfl, rfl, rfl⟩ := trodAll_nil r0
  obtain rfl : args = #[v0] := by cases args; simp_all
  obtain ⟨rfl, rfl⟩ := trodVars_none hV
  have k0 := h0
  have lt0 : ∀ x ∈ p0, x.block < W.heap.size := by obtain ⟨m, hm⟩ := k0; exact DataW.trod_lt m _ _ _ hm
  have i0 := in_of (j := 0) (t := 46) hsz rfl rfl h0
  have o0 := hval 0 46 v0 rfl rfl
  clear hA0 hval0 hsz0 hsz
  obtain ⟨cs, rfl, hin⟩ := arg_struct Try.underlying46 o0 i0
  obtain ⟨hlen, hel⟩ := hin.struct Try.underlying46
  have c5 : Try.prog.cellsOf 46 = 5 := by kernel_rfl
  have c1 : Try.prog.cellsOf 22 = 1 := by kernel_rfl
  have c2 : Try.prog.cellsOf 5 = 1 := by kernel_rfl
  have c3 : Try.prog.cellsOf 43 = 1 := by kernel_rfl
  have c4 : Try.prog.cellsOf 44 = 1 := by kernel_rfl
  rw [c5] at hlen
  obtain ⟨u0, u1, u2, u3, u4, rfl⟩ := five_of hlen
  obtain ⟨a, ps, e0, hl, hm⟩ := in_ll (hel 0 _ rfl)
  obtain ⟨b, qs, e1, hl2, hm2⟩ := in_ll (hel 1 _ rfl)
  obtain ⟨c, e2⟩ := In.num (BitVec.ofInt 8) b8 (fun _ h => wf_u8 h) un_5 (hel 2 _ rfl)
  obtain ⟨kp, e3⟩ := In.num (BitVec.ofInt 64) u64 (fun _ h => wf_u64 h) un_43 (hel 3 _ rfl)
  obtain ⟨tn, e4⟩ := In.num (BitVec.ofInt 8) i8v (fun _ h => wf_i8 h) un_44 (hel 4 _ rfl)
  simp [c1, c2, c3, c4] at e0 e1 e2 e3 e4
  subst e0 e1 e2 e3 e4
  refine (law_calls (outlogsSure_w u0 u1 ps qs c kp tn W hl hl2 hm hm2)).mono fun e W' ⟨he, bel⟩ => ?_
  subst he
  exact ⟨_, rfl, _, _, _, [], _, [], hW', trodAll_mk1 (shut_bool un_4 _), (trodAll_cons_mk (Below.trod laidOut (by kernel_rfl) (of_decide_eq_true (by kernel_rfl)) k0 bel lt0) trodAll_mk0), rfl, bel.frame _, fun h => by cases h⟩

/-- The statement. -/
theorem outlogsSure_proved : Rows.OutlogsSureSaid :=
  OpenClaim.holds_of_wide 4 Try.f4 rfl rfl rfl rfl rfl rfl rfl ⟨rfl, rfl, rfl, rfl, rfl⟩ rfl rfl rfl rfl rfl (by kernel_rfl) Try.func4 (by kernel_rfl)
    (of_decide_eq_true (by kernel_rfl)) (by unfold Func.isWrapper; first | (rw [if_pos (by decide +kernel)]; kernel_rfl) | (rw [if_neg (by decide +kernel)]; exact ⟨rfl, rfl⟩))
    (fun os started H enc _ => outlogsSure_lifted os started H enc)
#print axioms outlogsSure_proved
end Go.Proofs.Ytiaojbbgjlpikaa
