/- A shift never falls where a number rises, is within -128 to 127, and, where it need not be cut, within a half of what it rounds; by 0 what is within stays: for any tensor, any number of bits; no condition. -/
import Derived.Test.YthgckokpdgiilaaMathsMore
import Derived.Test.YthgckokpdgiilaaInt
namespace Go.Proofs.Ythgckokpdgiilaa
open Go Go.Dd Go.RowKit Go.ChangeShapes Go.WideShapes Go.ChangeAt


theorem clamp_mono {u v : Int} (h : u ≤ v) : clampI u ≤ clampI v := by unfold clampI; omega
theorem clamp_in (v : Int) : -128 ≤ clampI v ∧ clampI v ≤ 127 := by unfold clampI; omega
theorem shI_mono {u v : Int} (j : Nat) (h : u ≤ v) : shI j u ≤ shI j v := by
  have hp : (0 : Int) < 2 ^ j := Int.pow_pos (by decide)
  exact clamp_mono (Int.ediv_le_ediv hp (by omega))
theorem shI_zero {z : Int} (h : -128 ≤ z ∧ z ≤ 127) : shI 0 z = z := by
  have e : (z + 1 * 2 ^ 0 / 2 ^ 1) / 2 ^ 0 = z := by
    have h1 : (1 : Int) * 2 ^ 0 / 2 ^ 1 = 0 := by decide
    have h2 : (2 : Int) ^ 0 = 1 := rfl
    rw [h1, h2]; omega
  unfold shI
  rw [e]
  unfold clampI; omega
theorem shI_far (j : Nat) (z : Int) : (shI j z < 127 → -(2 ^ j : Int) ≤ 2 * (shI j z * 2 ^ j - z)) ∧ (-128 < shI j z → 2 * (shI j z * 2 ^ j - z) ≤ 2 ^ j) := by
  have hb : (2 : Int) ^ j = 1 ∨ ∃ h : Int, (2 : Int) ^ j = 2 * h ∧ 0 < h := by
    cases j with
    | zero => exact .inl rfl
    | succ j => exact .inr ⟨2 ^ j, by rw [Int.pow_succ, Int.mul_comm], Int.pow_pos (by decide)⟩
  have hp : (0 : Int) < 2 ^ j := Int.pow_pos (by decide)
  have e : (1 : Int) * 2 ^ j / 2 ^ 1 = 2 ^ j / 2 := by rw [Int.one_mul]; rfl
  unfold shI
  rw [e]
  generalize (2 : Int) ^ j = b at *
  have h1 := Int.ediv_mul_le (z + b / 2) (b := b) (by omega)
  have h2 := Int.lt_ediv_add_one_mul_self (z + b / 2) hp
  generalize (z + b / 2) / b = v at *
  rw [Int.add_mul, Int.one_mul] at h2
  have h3 : clampI v < 127 → v ≤ clampI v := by unfold clampI; omega
  have h4 : -128 < clampI v → clampI v ≤ v := by unfold clampI; omega
  generalize clampI v = y at *
  refine ⟨fun h => ?_, fun h => ?_⟩
  · have h5 := Int.mul_le_mul_of_nonneg_right (h3 h) (Int.le_of_lt hp)
    omega
  · have h5 := Int.mul_le_mul_of_nonneg_right (h4 h) (Int.le_of_lt hp)
    omega
theorem shB_int (j : Nat) (x : BitVec 32) : (shB j x).toInt = shI j x.toInt := by
  have h : -128 ≤ shI j x.toInt ∧ shI j x.toInt ≤ 127 := clamp_in _
  unfold shB
  rw [BitVec.toInt_ofInt, Int.bmod_def]; omega

theorem mathsShift_w (a : T4) (nb : BitVec 8) (W : World) (h_a : a.at W) (b1 : a.s.length ≤ 1125899906842624) (b2 : a.l.length ≤ 1125899906842624) :
    Fnc Try.prog 6 [a.v, b8 nb] W (fun r w' => r = .bool true ∧ Below W.heap.size W w') := by
  have hB := Below.refl W.heap.size W
  have tz : 0 ≤ tsz a.s a.l ∧ tsz a.s a.l ≤ 4503599627370496 := by unfold tsz; split <;> omega
  obtain ⟨k, hk⟩ : ∃ k, k = nb.toNat % 32 := ⟨_, rfl⟩
  have hk2 : k ≤ 31 := by omega
  obtain ⟨b, hb⟩ : ∃ b : Int, b = 1 * 2 ^ k := ⟨_, rfl⟩
  have hb1 : b = 2 ^ k := by rw [hb, Int.one_mul]
  have hb2 : 1 ≤ b ∧ b ≤ 2147483648 := by rw [hb1]; exact pow_le k hk2
  refine Fnc.enter (n := 205) Try.func6 (by kernel_rfl) rfl rfl rfl ?_
  refine Cw.seq ?_
  refine Cw.region ?_
  refine Lw.boxV (cs := [a.x, a.y]) rfl rfl rfl ?_
  rintro A_a w eA_a b_a hn -
  replace hB := hB.bs hn
  replace h_a := h_a.bs hn
  clear hn
  refine Lw.val (Ex.assign rfl) rfl ?_
  refine Lw.nil ?_
  refine Pw.thenN (Cw.out ?_)
  refine Cw.seq ?_
  refine Cw.seq ?_
  refine Cw.region ?_
  refine Lw.callF rfl rfl (alive_c _) ?_
  rintro _ w ⟨rfl, hn⟩
  replace hB := hB.bs hn
  replace h_a := h_a.bs hn
  replace b_a := b_a.bs hn
  clear hn
  refine Lw.val (Ex.not rfl) rfl ?_
  refine Lw.val (Ex.move rfl) rfl ?_
  refine Lw.know 14 (v' := .bool false) rfl (congrArg Value.bool (rfl)) ?_
  refine Lw.take (dj := 14) rfl rfl ?_
  refine Lw.val (Ex.ldA (ag_25 _) (sz_25 _) rfl rfl (by assumption)) rfl ?_
  refine Lw.take (dj := 14) rfl rfl ?_
  refine Lw.callF rfl rfl (tsize_c a _ h_a b1 b2) ?_
  rintro _ w ⟨rfl, hn⟩
  replace hB := hB.bs hn
  replace h_a := h_a.bs hn
  replace b_a := b_a.bs hn
  clear hn
  refine Lw.take (dj := 14) rfl rfl ?_
  refine Lw.valW (Xw.lit (vs := [tsz a.s a.l].map (Value.int .i64)) st_22 it_3 rfl rfl rfl rfl rfl) rfl ?_
  rintro u w ⟨ho, -, hn, -⟩
  replace hB := hB.bs hn
  replace h_a := h_a.bs hn
  replace b_a := b_a.bs hn
  clear hn
  refine Lw.take (dj := 14) rfl rfl ?_
  refine Lw.callF rfl rfl (beyond_c u [tsz a.s a.l] _ (own_slT ho) (by intro x hx; simp at hx; subst hx; exact tz)) ?_
  rintro _ w ⟨rfl, hn⟩
  replace hB := hB.bs hn
  replace h_a := h_a.bs hn
  replace b_a := b_a.bs hn
  clear hn
  refine Lw.val (Ex.pickF rfl rfl) rfl ?_
  refine Lw.val (Ex.move rfl) rfl ?_
  refine Lw.part 20 rfl ?_ ?_
  · intro _
    refine Lw.pass (dj := 20) rfl rfl rfl rfl ?_
    refine Lw.pass (dj := 20) rfl rfl rfl rfl ?_
    refine Lw.pass (dj := 20) rfl rfl rfl rfl ?_
    refine Lw.val (Ex.pickT rfl rfl) rfl ?_
    refine Lw.nil ?_
    refine Pw.thenN (Cw.out ?_)
    refine Cw.condT rfl ?_
    refine Cw.seq ?_
    refine Cw.region ?_
    refine Lw.callF rfl rfl (alive_c _) ?_
    rintro _ w ⟨rfl, hn⟩
    replace hB := hB.bs hn
    replace h_a := h_a.bs hn
    replace b_a := b_a.bs hn
    clear hn
    refine Lw.val (Ex.assign rfl) rfl ?_
    refine Lw.nil ?_
    refine Pw.thenN (Cw.out ?_)
    refine Cw.ret ?_
    refine Pw.thenR ?_
    refine Pw.ret1 rfl rfl ?_
    exact ⟨rfl, hB⟩
  intro hbe
  have hsm := bey_no (Int.le_refl 0) (by intro x hx; simp at hx; subst hx; exact tz.1) hbe (tsz a.s a.l) (by simp)
  have hl1 : a.l.length ≤ 1048576 := by unfold tsz at hsm; split at hsm <;> omega
  clear ho hbe hsm
  refine Lw.take (dj := 20) rfl rfl ?_
  refine Lw.val (Ex.ldA (ag_25 _) (sz_25 _) rfl rfl (by assumption)) rfl ?_
  refine Lw.take (dj := 20) rfl rfl ?_
  refine Lw.callF rfl rfl (tcheck_c a.x a.y a.s a.l _ h_a.1 h_a.2) ?_
  rintro _ w ⟨rfl, hn⟩
  replace hB := hB.bs hn
  replace h_a := h_a.bs hn
  replace b_a := b_a.bs hn
  clear hn
  refine Lw.take (dj := 20) rfl rfl ?_
  refine Lw.val (Ex.not rfl) rfl ?_
  refine Lw.val (Ex.pickF rfl rfl) rfl ?_
  refine Lw.nil ?_
  refine Pw.thenN (Cw.out ?_)
  refine Cw.cond rfl ?_ ?_
  · intro _
    refine Cw.seq ?_
    refine Cw.region ?_
    refine Lw.callF rfl rfl (alive_c _) ?_
    rintro _ w ⟨rfl, hn⟩
    replace hB := hB.bs hn
    replace h_a := h_a.bs hn
    replace b_a := b_a.bs hn
    clear hn
    refine Lw.val (Ex.assign rfl) rfl ?_
    refine Lw.nil ?_
    refine Pw.thenN (Cw.out ?_)
    refine Cw.ret ?_
    refine Pw.thenR ?_
    refine Pw.ret1 rfl rfl ?_
    exact ⟨rfl, hB⟩
  intro hk
  have t_a : tok a.s a.l = true := by simpa using hk
  obtain ⟨hok, ln_a⟩ := tok_ok t_a
  have hgd := (Shapes.ok_iff a.s).1 hok
  clear hk
  refine Cw.skip ?_
  refine Pw.thenN (Cw.out ?_)
  refine Cw.seq ?_
  refine Cw.region ?_
  refine Lw.val (Ex.move rfl) rfl ?_
  refine Lw.val (Ex.rem8 (c := 32) rfl rfl (by decide)) rfl ?_
  refine Lw.val ((Ex.convI64 us_5 un_3 rfl (by omega)).as (congrArg (fun m : Nat => Value.int .i64 (m : Int)) hk.symm)) rfl ?_
  refine Lw.val (Ex.assign rfl) rfl ?_
  refine Lw.nil ?_
  refine Pw.thenN (Cw.out ?_)
  refine Cw.seq ?_
  refine Cw.region ?_
  refine Lw.val (Ex.ldA (ag_25 _) (sz_25 _) rfl rfl (by assumption)) rfl ?_
  refine Lw.val (Ex.move rfl) rfl ?_
  refine Lw.callF rfl rfl (shift_p a k _ h_a) ?_
  rintro r w ⟨hn, x, rfl, h_x, -, hz⟩
  replace hB := hB.bs hn
  replace h_a := h_a.bs hn
  replace b_a := b_a.bs hn
  clear hn
  have e0 : eSh a.s a.l (k : Int) = 0 := by
    unfold eSh
    rw [if_neg (by omega)]
    exact e1_zero t_a
  obtain ⟨s_x, l_x, -⟩ := hz e0
  rw [e0]
  rw [z1_map t_a, Int.toNat_natCast] at l_x
  clear hz
  refine Lw.val (Ex.move rfl) rfl ?_
  refine Lw.val (Ex.extract (i := 0) rfl rfl) rfl ?_
  refine Lw.val (Ex.extract (i := 1) rfl rfl) rfl ?_
  refine Lw.boxed (cs := [x.x, x.y]) it_25 rfl rfl rfl rfl (fun _ => rfl) (h_x.one) ?_
  rintro A_x w eA_x b_x hn -
  replace hB := hB.bs hn
  replace h_a := h_a.bs hn
  replace b_a := b_a.bs hn
  replace h_x := h_x.bs hn
  clear hn
  refine Lw.val (Ex.assign rfl) rfl ?_
  refine Lw.nil ?_
  refine Pw.thenN (Cw.out ?_)
  refine Cw.seq ?_
  refine Cw.seq ?_
  refine Cw.region ?_
  refine Lw.val (Ex.move rfl) rfl ?_
  refine Lw.val (Ex.neq rfl rfl) rfl ?_
  refine Lw.val (Ex.move rfl) rfl ?_
  have y_a := h_a.2
  have y_x := h_x.2
  have n_x : x.l.length = a.l.length := by rw [l_x, List.length_map]
  have v_x : ∀ i, i < a.l.length → (x.l.getD i default).toInt = shI k (a.l.getD i default).toInt := fun i hi => by rw [l_x, getD_map hi, shB_int]
  refine Lw.know 37 (v' := .bool false) rfl (congrArg Value.bool (rfl)) ?_
  refine Lw.take (dj := 37) rfl rfl ?_
  refine Lw.val (Ex.fieldAddr (q := 0) Try.underlying25 rfl (sz_23 _) rfl) rfl ?_
  refine Lw.take (dj := 37) rfl rfl ?_
  refine Lw.val (Ex.ldB (ag_23 _) rfl (by assumption) rfl) rfl ?_
  refine Lw.take (dj := 37) rfl rfl ?_
  refine Lw.val (Ex.lenS st_23 rfl (by assumption)) rfl ?_
  refine Lw.take (dj := 37) rfl rfl ?_
  refine Lw.val (Ex.fieldAddr (q := 0) Try.underlying25 rfl (sz_23 _) rfl) rfl ?_
  refine Lw.take (dj := 37) rfl rfl ?_
  refine Lw.val (Ex.ldB (ag_23 _) rfl (by assumption) rfl) rfl ?_
  refine Lw.take (dj := 37) rfl rfl ?_
  refine Lw.val (Ex.lenS st_23 rfl (by assumption)) rfl ?_
  refine Lw.take (dj := 37) rfl rfl ?_
  refine Lw.val (Ex.neq rfl rfl) rfl ?_
  refine Lw.val (Ex.pickF rfl rfl) rfl ?_
  refine Lw.nil ?_
  refine Pw.thenN (Cw.out ?_)
  refine Cw.condB rfl false (by simp [n_x]) ?_
  refine Cw.skip ?_
  refine Pw.thenN (Cw.out ?_)
  refine Cw.seq ?_
  refine Cw.region ?_
  refine Lw.val (Ex.move rfl) rfl ?_
  refine Lw.val ((Ex.shlI (m := 1) rfl rfl (by omega) (by omega)).as (congrArg (Value.int .i64) hb.symm)) rfl ?_
  refine Lw.val (Ex.assign rfl) rfl ?_
  refine Lw.nil ?_
  refine Pw.thenN (Cw.out ?_)
  refine Cw.seq ?_
  refine Cw.seq ?_
  refine Cw.region ?_
  refine Lw.val (Ex.assign rfl) rfl ?_
  refine Lw.nil ?_
  refine Pw.thenN (Cw.out ?_)
  refine Cw.block ?_
  refine Cw.loop (S := Nat) (fun i => [(2, .pointer (some ⟨A_a, 0, none⟩)), (5, .int .i64 (k : Int)), (6, .pointer (some ⟨A_x, 0, none⟩)), (8, .int .i64 b), (9, .int .i64 (i : Int))]) (fun i w' => i ≤ a.l.length ∧ Below w.heap.size w w') (fun i => a.l.length - i) (0) ⟨rfl, rfl, rfl, rfl, rfl, trivial⟩ ?_ ?_
  · exact ⟨by omega, Below.refl _ _⟩
  rintro i u ⟨hi, hw⟩
  replace hB := hB.bs hw
  replace h_a := h_a.bs hw
  replace b_a := b_a.bs hw
  replace h_x := h_x.bs hw
  replace b_x := b_x.bs hw
  replace y_a := y_a.bs hw
  replace y_x := y_x.bs hw
  refine Cw.seq ?_
  refine Cw.seq ?_
  refine Cw.region ?_
  refine Lw.val (Ex.move rfl) rfl ?_
  refine Lw.val (Ex.fieldAddr (q := 0) Try.underlying25 rfl (sz_23 _) rfl) rfl ?_
  refine Lw.val (Ex.ldB (ag_23 _) rfl (by assumption) rfl) rfl ?_
  refine Lw.val (Ex.lenS st_23 rfl (by assumption)) rfl ?_
  refine Lw.val (Ex.lss rfl rfl) rfl ?_
  refine Lw.nil ?_
  refine Pw.thenN (Cw.out ?_)
  refine Cw.cond rfl ?_ ?_
  · intro h
    have hi' : i < a.l.length := by simp at h; omega
    have v1 := v_x i hi'
    have far := shI_far k (a.l.getD i default).toInt
    have yin : -128 ≤ shI k (a.l.getD i default).toInt ∧ shI k (a.l.getD i default).toInt ≤ 127 := clamp_in _
    rw [← v1, ← hb1] at far
    rw [← v1] at yin
    have zin : -2147483648 ≤ (a.l.getD i default).toInt ∧ (a.l.getD i default).toInt ≤ 2147483647 := by
      have h1 := BitVec.toInt_lt (x := a.l.getD i default); have h2 := BitVec.le_toInt (a.l.getD i default); omega
    obtain ⟨y, hy⟩ : ∃ y, y = (x.l.getD i default).toInt := ⟨_, rfl⟩
    obtain ⟨z, hz⟩ : ∃ z, z = (a.l.getD i default).toInt := ⟨_, rfl⟩
    rw [← hy] at far yin v1
    rw [← hz] at far zin v1
    have p1 := Int.mul_le_mul_of_nonneg_right yin.1 (show 0 ≤ b by omega)
    have p2 := Int.mul_le_mul_of_nonneg_right yin.2 (show 0 ≤ b by omega)
    refine Cw.skip ?_
    refine Pw.thenN (Cw.out ?_)
    refine Cw.seq ?_
    refine Cw.block ?_
    refine Cw.seq ?_
    refine Cw.region ?_
    refine Lw.val (Ex.fieldAddr (q := 0) Try.underlying25 rfl (sz_23 _) rfl) rfl ?_
    refine Lw.val (Ex.ldB (ag_23 _) rfl (by assumption) rfl) rfl ?_
    refine Lw.val (Ex.move rfl) rfl ?_
    refine Lw.val (Ex.idxT st_23 rfl rfl (by assumption) _ rfl (by omega)) rfl ?_
    refine Lw.val (Ex.ldT (ag_21 _) rfl (by assumption) (by omega)) rfl ?_
    refine Lw.val ((Ex.convi32_I us_21 un_2 rfl).as (congrArg (Value.int .i64) hy.symm)) rfl ?_
    refine Lw.val (Ex.assign rfl) rfl ?_
    refine Lw.nil ?_
    refine Pw.thenN (Cw.out ?_)
    refine Cw.seq ?_
    refine Cw.region ?_
    refine Lw.val (Ex.move rfl) rfl ?_
    refine Lw.val (Ex.move rfl) rfl ?_
    refine Lw.val (Ex.mulI rfl rfl (by omega)) rfl ?_
    refine Lw.val (Ex.fieldAddr (q := 0) Try.underlying25 rfl (sz_23 _) rfl) rfl ?_
    refine Lw.val (Ex.ldB (ag_23 _) rfl (by assumption) rfl) rfl ?_
    refine Lw.val (Ex.move rfl) rfl ?_
    refine Lw.val (Ex.idxT st_23 rfl rfl (by assumption) _ rfl (by omega)) rfl ?_
    refine Lw.val (Ex.ldT (ag_21 _) rfl (by assumption) (by omega)) rfl ?_
    refine Lw.val ((Ex.convi32_I us_21 un_2 rfl).as (congrArg (Value.int .i64) hz.symm)) rfl ?_
    refine Lw.val (Ex.subI rfl rfl (by omega)) rfl ?_
    refine Lw.val (Ex.mulI rfl rfl (by omega)) rfl ?_
    refine Lw.val (Ex.assign rfl) rfl ?_
    refine Lw.nil ?_
    refine Pw.thenN (Cw.out ?_)
    refine Cw.seq ?_
    refine Cw.seq ?_
    refine Cw.mid (F := [(2, .pointer (some ⟨A_a, 0, none⟩)), (5, .int .i64 (k : Int)), (6, .pointer (some ⟨A_x, 0, none⟩)), (8, .int .i64 b), (9, .int .i64 (i : Int)), (115, .bool false)]) (I := fun w' => u = w') ?_ ?_
    · refine Cw.region ?_
      refine Lw.val (Ex.move rfl) rfl ?_
      refine Lw.val (Ex.lss rfl rfl) rfl ?_
      refine Lw.val (Ex.move rfl) rfl ?_
      refine Lw.know 74 (v' := .bool false) rfl (congrArg Value.bool (by simp; omega)) ?_
      refine Lw.take (dj := 74) rfl rfl ?_
      refine Lw.val (Ex.move rfl) rfl ?_
      refine Lw.take (dj := 74) rfl rfl ?_
      refine Lw.val (Ex.gtr rfl rfl) rfl ?_
      refine Lw.val (Ex.pickF rfl rfl) rfl ?_
      refine Lw.val (Ex.move rfl) rfl ?_
      refine Lw.know 78 (v' := .bool false) rfl (congrArg Value.bool (by simp; omega)) ?_
      refine Lw.take (dj := 78) rfl rfl ?_
      refine Lw.val (Ex.move rfl) rfl ?_
      refine Lw.take (dj := 78) rfl rfl ?_
      refine Lw.val (Ex.gtr rfl rfl) rfl ?_
      refine Lw.take (dj := 78) rfl rfl ?_
      refine Lw.val (Ex.move rfl) rfl ?_
      refine Lw.part 81 rfl ?_ ?_
      · intro g1
        have g1' := of_decide_eq_true g1
        refine Lw.take (dj := 81) rfl rfl ?_
        refine Lw.val (Ex.move rfl) rfl ?_
        refine Lw.take (dj := 81) rfl rfl ?_
        refine Lw.val (Ex.lss rfl rfl) rfl ?_
        refine Lw.take (dj := 78) rfl rfl ?_
        refine Lw.val (Ex.pickT rfl rfl) rfl ?_
        refine Lw.take (dj := 78) rfl rfl ?_
        refine Lw.val (Ex.move rfl) rfl ?_
        refine Lw.part 85 rfl ?_ ?_
        · intro g2
          have g2' := of_decide_eq_true g2
          refine Lw.take (dj := 85) rfl rfl ?_
          refine Lw.val (Ex.move rfl) rfl ?_
          refine Lw.take (dj := 85) rfl rfl ?_
          refine Lw.val (Ex.move rfl) rfl ?_
          refine Lw.take (dj := 85) rfl rfl ?_
          refine Lw.val (Ex.gtr rfl rfl) rfl ?_
          refine Lw.take (dj := 85) rfl rfl ?_
          refine Lw.val (Ex.move rfl) rfl ?_
          refine Lw.know 89 (v' := .bool false) rfl (congrArg Value.bool (by simp; omega)) ?_
          refine Lw.take (dj := 89) rfl rfl ?_
          refine Lw.val (Ex.move rfl) rfl ?_
          refine Lw.take (dj := 89) rfl rfl ?_
          refine Lw.val (Ex.move rfl) rfl ?_
          refine Lw.take (dj := 89) rfl rfl ?_
          refine Lw.val (Ex.negI rfl (by omega)) rfl ?_
          refine Lw.take (dj := 89) rfl rfl ?_
          refine Lw.val (Ex.lss rfl rfl) rfl ?_
          refine Lw.take (dj := 85) rfl rfl ?_
          refine Lw.val (Ex.pickF rfl rfl) rfl ?_
          refine Lw.take (dj := 78) rfl rfl ?_
          refine Lw.val (Ex.pickT rfl rfl) rfl ?_
          refine Lw.val (Ex.pickF rfl rfl) rfl ?_
          refine Lw.val (Ex.move rfl) rfl ?_
          refine Lw.know 97 (v' := .bool false) rfl (congrArg Value.bool (by simp; omega)) ?_
          refine Lw.take (dj := 97) rfl rfl ?_
          refine Lw.val (Ex.move rfl) rfl ?_
          refine Lw.take (dj := 97) rfl rfl ?_
          refine Lw.val (Ex.eql rfl rfl) rfl ?_
          refine Lw.take (dj := 97) rfl rfl ?_
          refine Lw.val (Ex.move rfl) rfl ?_
          refine Lw.know 100 (v' := .bool false) rfl (congrArg Value.bool (by simp; omega)) ?_
          refine Lw.pass (dj := 100) rfl rfl rfl rfl ?_
          refine Lw.pass (dj := 100) rfl rfl rfl rfl ?_
          refine Lw.pass (dj := 100) rfl rfl rfl rfl ?_
          refine Lw.take (dj := 97) rfl rfl ?_
          refine Lw.val (Ex.pickF rfl rfl) rfl ?_
          refine Lw.val (Ex.pickF rfl rfl) rfl ?_
          refine Lw.val (Ex.move rfl) rfl ?_
          refine Lw.take (dj := 106) rfl rfl ?_
          refine Lw.val (Ex.move rfl) rfl ?_
          refine Lw.take (dj := 106) rfl rfl ?_
          refine Lw.val (Ex.eql rfl rfl) rfl ?_
          refine Lw.take (dj := 106) rfl rfl ?_
          refine Lw.val (Ex.move rfl) rfl ?_
          refine Lw.know 109 (v' := .bool false) rfl (congrArg Value.bool (by simp; omega)) ?_
          refine Lw.pass (dj := 109) rfl rfl rfl rfl ?_
          refine Lw.pass (dj := 109) rfl rfl rfl rfl ?_
          refine Lw.pass (dj := 109) rfl rfl rfl rfl ?_
          refine Lw.pass (dj := 109) rfl rfl rfl rfl ?_
          refine Lw.take (dj := 106) rfl rfl ?_
          refine Lw.val (Ex.pickF rfl rfl) rfl ?_
          refine Lw.val (Ex.pickF rfl rfl) rfl ?_
          refine Lw.nil ?_
          exact Pw.mid ⟨rfl, rfl, rfl, rfl, rfl, rfl, trivial⟩ (rfl)
        · intro g2
          have g2' := of_decide_eq_false g2
          refine Lw.pass (dj := 85) rfl rfl rfl rfl ?_
          refine Lw.pass (dj := 85) rfl rfl rfl rfl ?_
          refine Lw.pass (dj := 85) rfl rfl rfl rfl ?_
          refine Lw.pass (dj := 85) rfl rfl rfl rfl ?_
          refine Lw.passN (dj := 89) rfl rfl rfl ?_
          refine Lw.passN (dj := 89) rfl rfl rfl ?_
          refine Lw.passN (dj := 89) rfl rfl rfl ?_
          refine Lw.passN (dj := 89) rfl rfl rfl ?_
          refine Lw.pass (dj := 85) rfl rfl rfl rfl ?_
          refine Lw.take (dj := 78) rfl rfl ?_
          refine Lw.val (Ex.pickF rfl rfl) rfl ?_
          refine Lw.val (Ex.pickF rfl rfl) rfl ?_
          refine Lw.val (Ex.move rfl) rfl ?_
          refine Lw.take (dj := 97) rfl rfl ?_
          refine Lw.val (Ex.move rfl) rfl ?_
          refine Lw.take (dj := 97) rfl rfl ?_
          refine Lw.val (Ex.eql rfl rfl) rfl ?_
          refine Lw.take (dj := 97) rfl rfl ?_
          refine Lw.val (Ex.move rfl) rfl ?_
          refine Lw.know 100 (v' := .bool true) rfl (congrArg Value.bool (by simp; omega)) ?_
          refine Lw.take (dj := 100) rfl rfl ?_
          refine Lw.val (Ex.move rfl) rfl ?_
          refine Lw.take (dj := 100) rfl rfl ?_
          refine Lw.val (Ex.move rfl) rfl ?_
          refine Lw.take (dj := 100) rfl rfl ?_
          refine Lw.val (Ex.gtr rfl rfl) rfl ?_
          refine Lw.take (dj := 97) rfl rfl ?_
          refine Lw.val (Ex.pickT rfl rfl) rfl ?_
          refine Lw.val (Ex.pickF rfl rfl) rfl ?_
          refine Lw.val (Ex.move rfl) rfl ?_
          refine Lw.know 106 (v' := .bool false) rfl (congrArg Value.bool (by simp; omega)) ?_
          refine Lw.take (dj := 106) rfl rfl ?_
          refine Lw.val (Ex.move rfl) rfl ?_
          refine Lw.take (dj := 106) rfl rfl ?_
          refine Lw.val (Ex.eql rfl rfl) rfl ?_
          refine Lw.take (dj := 106) rfl rfl ?_
          refine Lw.val (Ex.move rfl) rfl ?_
          refine Lw.know 109 (v' := .bool false) rfl (congrArg Value.bool (by simp; omega)) ?_
          refine Lw.pass (dj := 109) rfl rfl rfl rfl ?_
          refine Lw.pass (dj := 109) rfl rfl rfl rfl ?_
          refine Lw.pass (dj := 109) rfl rfl rfl rfl ?_
          refine Lw.pass (dj := 109) rfl rfl rfl rfl ?_
          refine Lw.take (dj := 106) rfl rfl ?_
          refine Lw.val (Ex.pickF rfl rfl) rfl ?_
          refine Lw.val (Ex.pickF rfl rfl) rfl ?_
          refine Lw.nil ?_
          exact Pw.mid ⟨rfl, rfl, rfl, rfl, rfl, rfl, trivial⟩ (rfl)
      · intro g1
        have g1' := of_decide_eq_false g1
        refine Lw.pass (dj := 81) rfl rfl rfl rfl ?_
        refine Lw.pass (dj := 81) rfl rfl rfl rfl ?_
        refine Lw.take (dj := 78) rfl rfl ?_
        refine Lw.val (Ex.pickF rfl rfl) rfl ?_
        refine Lw.take (dj := 78) rfl rfl ?_
        refine Lw.val (Ex.move rfl) rfl ?_
        refine Lw.pass (dj := 85) rfl rfl rfl rfl ?_
        refine Lw.pass (dj := 85) rfl rfl rfl rfl ?_
        refine Lw.pass (dj := 85) rfl rfl rfl rfl ?_
        refine Lw.pass (dj := 85) rfl rfl rfl rfl ?_
        refine Lw.passN (dj := 89) rfl rfl rfl ?_
        refine Lw.passN (dj := 89) rfl rfl rfl ?_
        refine Lw.passN (dj := 89) rfl rfl rfl ?_
        refine Lw.passN (dj := 89) rfl rfl rfl ?_
        refine Lw.pass (dj := 85) rfl rfl rfl rfl ?_
        refine Lw.take (dj := 78) rfl rfl ?_
        refine Lw.val (Ex.pickF rfl rfl) rfl ?_
        refine Lw.val (Ex.pickF rfl rfl) rfl ?_
        refine Lw.val (Ex.move rfl) rfl ?_
        refine Lw.take (dj := 97) rfl rfl ?_
        refine Lw.val (Ex.move rfl) rfl ?_
        refine Lw.take (dj := 97) rfl rfl ?_
        refine Lw.val (Ex.eql rfl rfl) rfl ?_
        refine Lw.take (dj := 97) rfl rfl ?_
        refine Lw.val (Ex.move rfl) rfl ?_
        refine Lw.know 100 (v' := .bool false) rfl (congrArg Value.bool (by simp; omega)) ?_
        refine Lw.pass (dj := 100) rfl rfl rfl rfl ?_
        refine Lw.pass (dj := 100) rfl rfl rfl rfl ?_
        refine Lw.pass (dj := 100) rfl rfl rfl rfl ?_
        refine Lw.take (dj := 97) rfl rfl ?_
        refine Lw.val (Ex.pickF rfl rfl) rfl ?_
        refine Lw.val (Ex.pickF rfl rfl) rfl ?_
        refine Lw.val (Ex.move rfl) rfl ?_
        refine Lw.take (dj := 106) rfl rfl ?_
        refine Lw.val (Ex.move rfl) rfl ?_
        refine Lw.take (dj := 106) rfl rfl ?_
        refine Lw.val (Ex.eql rfl rfl) rfl ?_
        refine Lw.take (dj := 106) rfl rfl ?_
        refine Lw.val (Ex.move rfl) rfl ?_
        refine Lw.know 109 (v' := .bool true) rfl (congrArg Value.bool (by simp; omega)) ?_
        refine Lw.take (dj := 109) rfl rfl ?_
        refine Lw.val (Ex.move rfl) rfl ?_
        refine Lw.take (dj := 109) rfl rfl ?_
        refine Lw.val (Ex.move rfl) rfl ?_
        refine Lw.take (dj := 109) rfl rfl ?_
        refine Lw.val (Ex.negI rfl (by omega)) rfl ?_
        refine Lw.take (dj := 109) rfl rfl ?_
        refine Lw.val (Ex.lss rfl rfl) rfl ?_
        refine Lw.take (dj := 106) rfl rfl ?_
        refine Lw.val (Ex.pickT rfl rfl) rfl ?_
        refine Lw.val (Ex.pickF rfl rfl) rfl ?_
        refine Lw.nil ?_
        exact Pw.mid ⟨rfl, rfl, rfl, rfl, rfl, congrArg (fun b => some (Value.bool b)) (decide_eq_false (by omega)), trivial⟩ (rfl)
    rintro _ rfl
    refine Cw.out ?_
    refine Cw.condF rfl ?_
    refine Cw.skip ?_
    refine Pw.thenN (Cw.out ?_)
    refine Cw.seq ?_
    refine Cw.seq ?_
    refine Cw.mid (F := [(2, .pointer (some ⟨A_a, 0, none⟩)), (5, .int .i64 (k : Int)), (6, .pointer (some ⟨A_x, 0, none⟩)), (8, .int .i64 b), (9, .int .i64 (i : Int)), (173, .bool false)]) (I := fun w' => Below u.heap.size u w') ?_ ?_
    · refine Cw.quiet mixed (by kernel_rfl) ?_
      refine Qw.val (fun w1 hq => Ex.move rfl) rfl ?_
      refine Qw.val (fun w1 hq => Ex.gtr rfl rfl) rfl ?_
      refine Qw.val (fun w1 hq => Ex.move rfl) rfl ?_
      refine Qw.part 118 rfl ?_ ?_
      · intro g
        have hi0 : 0 < i := by simpa using g
        have m1 := v_x (i - 1) (by omega)
        have m2 := v_x i hi'
        refine Qw.take (dj := 118) rfl rfl ?_
        refine Qw.val (fun w1 hq => Ex.fieldAddr (q := 0) Try.underlying25 rfl (sz_23 _) rfl) rfl ?_
        refine Qw.take (dj := 118) rfl rfl ?_
        refine Qw.val (fun w1 hq => Ex.ldB (ag_23 _) rfl (Blk.bs (by assumption) hq) rfl) rfl ?_
        refine Qw.take (dj := 118) rfl rfl ?_
        refine Qw.val (fun w1 hq => Ex.move rfl) rfl ?_
        refine Qw.take (dj := 118) rfl rfl ?_
        refine Qw.val (fun w1 hq => (Ex.subI rfl rfl (by omega)).as (congrArg (Value.int .i64) (show (i : Int) - 1 = ((i - 1 : Nat) : Int) by omega))) rfl ?_
        refine Qw.take (dj := 118) rfl rfl ?_
        refine Qw.val (fun w1 hq => Ex.idxT st_23 rfl rfl (Sl.bs (by assumption) hq) _ rfl (by omega)) rfl ?_
        refine Qw.take (dj := 118) rfl rfl ?_
        refine Qw.val (fun w1 hq => Ex.ldT (ag_21 _) rfl (Sl.bs (by assumption) hq) (by omega)) rfl ?_
        refine Qw.take (dj := 118) rfl rfl ?_
        refine Qw.val (fun w1 hq => Ex.fieldAddr (q := 0) Try.underlying25 rfl (sz_23 _) rfl) rfl ?_
        refine Qw.take (dj := 118) rfl rfl ?_
        refine Qw.val (fun w1 hq => Ex.ldB (ag_23 _) rfl (Blk.bs (by assumption) hq) rfl) rfl ?_
        refine Qw.take (dj := 118) rfl rfl ?_
        refine Qw.val (fun w1 hq => Ex.move rfl) rfl ?_
        refine Qw.take (dj := 118) rfl rfl ?_
        refine Qw.val (fun w1 hq => Ex.idxT st_23 rfl rfl (Sl.bs (by assumption) hq) _ rfl (by omega)) rfl ?_
        refine Qw.take (dj := 118) rfl rfl ?_
        refine Qw.val (fun w1 hq => Ex.ldT (ag_21 _) rfl (Sl.bs (by assumption) hq) (by omega)) rfl ?_
        refine Qw.take (dj := 118) rfl rfl ?_
        refine Qw.val (fun w1 hq => Ex.leq rfl rfl) rfl ?_
        refine Qw.take (dj := 118) rfl rfl ?_
        refine Qw.val (fun w1 hq => Ex.move rfl) rfl ?_
        refine Qw.part 131 rfl ?_ ?_
        · intro g1
          have g1' := shI_mono k (of_decide_eq_true g1)
          refine Qw.take (dj := 131) rfl rfl ?_
          refine Qw.val (fun w1 hq => Ex.fieldAddr (q := 0) Try.underlying25 rfl (sz_23 _) rfl) rfl ?_
          refine Qw.take (dj := 131) rfl rfl ?_
          refine Qw.val (fun w1 hq => Ex.ldB (ag_23 _) rfl (Blk.bs (by assumption) hq) rfl) rfl ?_
          refine Qw.take (dj := 131) rfl rfl ?_
          refine Qw.val (fun w1 hq => Ex.move rfl) rfl ?_
          refine Qw.take (dj := 131) rfl rfl ?_
          refine Qw.val (fun w1 hq => (Ex.subI rfl rfl (by omega)).as (congrArg (Value.int .i64) (show (i : Int) - 1 = ((i - 1 : Nat) : Int) by omega))) rfl ?_
          refine Qw.take (dj := 131) rfl rfl ?_
          refine Qw.val (fun w1 hq => Ex.idxT st_23 rfl rfl (Sl.bs (by assumption) hq) _ rfl (by omega)) rfl ?_
          refine Qw.take (dj := 131) rfl rfl ?_
          refine Qw.val (fun w1 hq => Ex.ldT (ag_21 _) rfl (Sl.bs (by assumption) hq) (by omega)) rfl ?_
          refine Qw.take (dj := 131) rfl rfl ?_
          refine Qw.val (fun w1 hq => Ex.fieldAddr (q := 0) Try.underlying25 rfl (sz_23 _) rfl) rfl ?_
          refine Qw.take (dj := 131) rfl rfl ?_
          refine Qw.val (fun w1 hq => Ex.ldB (ag_23 _) rfl (Blk.bs (by assumption) hq) rfl) rfl ?_
          refine Qw.take (dj := 131) rfl rfl ?_
          refine Qw.val (fun w1 hq => Ex.move rfl) rfl ?_
          refine Qw.take (dj := 131) rfl rfl ?_
          refine Qw.val (fun w1 hq => Ex.idxT st_23 rfl rfl (Sl.bs (by assumption) hq) _ rfl (by omega)) rfl ?_
          refine Qw.take (dj := 131) rfl rfl ?_
          refine Qw.val (fun w1 hq => Ex.ldT (ag_21 _) rfl (Sl.bs (by assumption) hq) (by omega)) rfl ?_
          refine Qw.take (dj := 131) rfl rfl ?_
          refine Qw.val (fun w1 hq => Ex.gtr rfl rfl) rfl ?_
          refine Qw.take (dj := 118) rfl rfl ?_
          refine Qw.val (fun w1 hq => Ex.pickT rfl rfl) rfl ?_
          refine Qw.take (dj := 118) rfl rfl ?_
          refine Qw.val (fun w1 hq => Ex.move rfl) rfl ?_
          refine Qw.know 145 (v' := .bool false) rfl (congrArg Value.bool (decide_eq_false (by rw [m1, m2]; omega))) ?_
          refine Qw.take (dj := 145) rfl rfl ?_
          refine Qw.val (fun w1 hq => Ex.fieldAddr (q := 0) Try.underlying25 rfl (sz_23 _) rfl) rfl ?_
          refine Qw.take (dj := 145) rfl rfl ?_
          refine Qw.val (fun w1 hq => Ex.ldB (ag_23 _) rfl (Blk.bs (by assumption) hq) rfl) rfl ?_
          refine Qw.take (dj := 145) rfl rfl ?_
          refine Qw.val (fun w1 hq => Ex.move rfl) rfl ?_
          refine Qw.take (dj := 145) rfl rfl ?_
          refine Qw.val (fun w1 hq => (Ex.subI rfl rfl (by omega)).as (congrArg (Value.int .i64) (show (i : Int) - 1 = ((i - 1 : Nat) : Int) by omega))) rfl ?_
          refine Qw.take (dj := 145) rfl rfl ?_
          refine Qw.val (fun w1 hq => Ex.idxT st_23 rfl rfl (Sl.bs (by assumption) hq) _ rfl (by omega)) rfl ?_
          refine Qw.take (dj := 145) rfl rfl ?_
          refine Qw.val (fun w1 hq => Ex.ldT (ag_21 _) rfl (Sl.bs (by assumption) hq) (by omega)) rfl ?_
          refine Qw.take (dj := 145) rfl rfl ?_
          refine Qw.val (fun w1 hq => Ex.fieldAddr (q := 0) Try.underlying25 rfl (sz_23 _) rfl) rfl ?_
          refine Qw.take (dj := 145) rfl rfl ?_
          refine Qw.val (fun w1 hq => Ex.ldB (ag_23 _) rfl (Blk.bs (by assumption) hq) rfl) rfl ?_
          refine Qw.take (dj := 145) rfl rfl ?_
          refine Qw.val (fun w1 hq => Ex.move rfl) rfl ?_
          refine Qw.take (dj := 145) rfl rfl ?_
          refine Qw.val (fun w1 hq => Ex.idxT st_23 rfl rfl (Sl.bs (by assumption) hq) _ rfl (by omega)) rfl ?_
          refine Qw.take (dj := 145) rfl rfl ?_
          refine Qw.val (fun w1 hq => Ex.ldT (ag_21 _) rfl (Sl.bs (by assumption) hq) (by omega)) rfl ?_
          refine Qw.take (dj := 145) rfl rfl ?_
          refine Qw.val (fun w1 hq => Ex.geq rfl rfl) rfl ?_
          refine Qw.take (dj := 145) rfl rfl ?_
          refine Qw.val (fun w1 hq => Ex.move rfl) rfl ?_
          refine Qw.part 158 rfl ?_ ?_
          · intro g2
            have g2' := shI_mono k (of_decide_eq_true g2)
            refine Qw.take (dj := 158) rfl rfl ?_
            refine Qw.val (fun w1 hq => Ex.fieldAddr (q := 0) Try.underlying25 rfl (sz_23 _) rfl) rfl ?_
            refine Qw.take (dj := 158) rfl rfl ?_
            refine Qw.val (fun w1 hq => Ex.ldB (ag_23 _) rfl (Blk.bs (by assumption) hq) rfl) rfl ?_
            refine Qw.take (dj := 158) rfl rfl ?_
            refine Qw.val (fun w1 hq => Ex.move rfl) rfl ?_
            refine Qw.take (dj := 158) rfl rfl ?_
            refine Qw.val (fun w1 hq => (Ex.subI rfl rfl (by omega)).as (congrArg (Value.int .i64) (show (i : Int) - 1 = ((i - 1 : Nat) : Int) by omega))) rfl ?_
            refine Qw.take (dj := 158) rfl rfl ?_
            refine Qw.val (fun w1 hq => Ex.idxT st_23 rfl rfl (Sl.bs (by assumption) hq) _ rfl (by omega)) rfl ?_
            refine Qw.take (dj := 158) rfl rfl ?_
            refine Qw.val (fun w1 hq => Ex.ldT (ag_21 _) rfl (Sl.bs (by assumption) hq) (by omega)) rfl ?_
            refine Qw.take (dj := 158) rfl rfl ?_
            refine Qw.val (fun w1 hq => Ex.fieldAddr (q := 0) Try.underlying25 rfl (sz_23 _) rfl) rfl ?_
            refine Qw.take (dj := 158) rfl rfl ?_
            refine Qw.val (fun w1 hq => Ex.ldB (ag_23 _) rfl (Blk.bs (by assumption) hq) rfl) rfl ?_
            refine Qw.take (dj := 158) rfl rfl ?_
            refine Qw.val (fun w1 hq => Ex.move rfl) rfl ?_
            refine Qw.take (dj := 158) rfl rfl ?_
            refine Qw.val (fun w1 hq => Ex.idxT st_23 rfl rfl (Sl.bs (by assumption) hq) _ rfl (by omega)) rfl ?_
            refine Qw.take (dj := 158) rfl rfl ?_
            refine Qw.val (fun w1 hq => Ex.ldT (ag_21 _) rfl (Sl.bs (by assumption) hq) (by omega)) rfl ?_
            refine Qw.take (dj := 158) rfl rfl ?_
            refine Qw.val (fun w1 hq => Ex.lss rfl rfl) rfl ?_
            refine Qw.take (dj := 145) rfl rfl ?_
            refine Qw.val (fun w1 hq => Ex.pickT rfl rfl) rfl ?_
            refine Qw.take (dj := 118) rfl rfl ?_
            refine Qw.val (fun w1 hq => Ex.pickF rfl rfl) rfl ?_
            refine Qw.val (fun w1 hq => Ex.pickT rfl rfl) rfl ?_
            refine Qw.nil (fun w2 hq => ?_)
            exact Pw.mid ⟨rfl, rfl, rfl, rfl, rfl, congrArg (fun b => some (Value.bool b)) (decide_eq_false (by rw [m1, m2]; omega)), trivial⟩ (hq)
          · intro g2
            refine Qw.pass (dj := 158) rfl rfl rfl rfl ?_
            refine Qw.pass (dj := 158) rfl rfl rfl rfl ?_
            refine Qw.pass (dj := 158) rfl rfl rfl rfl ?_
            refine Qw.pass (dj := 158) rfl rfl rfl rfl ?_
            refine Qw.pass (dj := 158) rfl rfl rfl rfl ?_
            refine Qw.pass (dj := 158) rfl rfl rfl rfl ?_
            refine Qw.pass (dj := 158) rfl rfl rfl rfl ?_
            refine Qw.pass (dj := 158) rfl rfl rfl rfl ?_
            refine Qw.pass (dj := 158) rfl rfl rfl rfl ?_
            refine Qw.pass (dj := 158) rfl rfl rfl rfl ?_
            refine Qw.pass (dj := 158) rfl rfl rfl rfl ?_
            refine Qw.pass (dj := 158) rfl rfl rfl rfl ?_
            refine Qw.take (dj := 145) rfl rfl ?_
            refine Qw.val (fun w1 hq => Ex.pickF rfl rfl) rfl ?_
            refine Qw.take (dj := 118) rfl rfl ?_
            refine Qw.val (fun w1 hq => Ex.pickF rfl rfl) rfl ?_
            refine Qw.val (fun w1 hq => Ex.pickT rfl rfl) rfl ?_
            refine Qw.nil (fun w2 hq => ?_)
            exact Pw.mid ⟨rfl, rfl, rfl, rfl, rfl, rfl, trivial⟩ (hq)
        · intro g1
          refine Qw.pass (dj := 131) rfl rfl rfl rfl ?_
          refine Qw.pass (dj := 131) rfl rfl rfl rfl ?_
          refine Qw.pass (dj := 131) rfl rfl rfl rfl ?_
          refine Qw.pass (dj := 131) rfl rfl rfl rfl ?_
          refine Qw.pass (dj := 131) rfl rfl rfl rfl ?_
          refine Qw.pass (dj := 131) rfl rfl rfl rfl ?_
          refine Qw.pass (dj := 131) rfl rfl rfl rfl ?_
          refine Qw.pass (dj := 131) rfl rfl rfl rfl ?_
          refine Qw.pass (dj := 131) rfl rfl rfl rfl ?_
          refine Qw.pass (dj := 131) rfl rfl rfl rfl ?_
          refine Qw.pass (dj := 131) rfl rfl rfl rfl ?_
          refine Qw.pass (dj := 131) rfl rfl rfl rfl ?_
          refine Qw.take (dj := 118) rfl rfl ?_
          refine Qw.val (fun w1 hq => Ex.pickF rfl rfl) rfl ?_
          refine Qw.take (dj := 118) rfl rfl ?_
          refine Qw.val (fun w1 hq => Ex.move rfl) rfl ?_
          refine Qw.take (dj := 145) rfl rfl ?_
          refine Qw.val (fun w1 hq => Ex.fieldAddr (q := 0) Try.underlying25 rfl (sz_23 _) rfl) rfl ?_
          refine Qw.take (dj := 145) rfl rfl ?_
          refine Qw.val (fun w1 hq => Ex.ldB (ag_23 _) rfl (Blk.bs (by assumption) hq) rfl) rfl ?_
          refine Qw.take (dj := 145) rfl rfl ?_
          refine Qw.val (fun w1 hq => Ex.move rfl) rfl ?_
          refine Qw.take (dj := 145) rfl rfl ?_
          refine Qw.val (fun w1 hq => (Ex.subI rfl rfl (by omega)).as (congrArg (Value.int .i64) (show (i : Int) - 1 = ((i - 1 : Nat) : Int) by omega))) rfl ?_
          refine Qw.take (dj := 145) rfl rfl ?_
          refine Qw.val (fun w1 hq => Ex.idxT st_23 rfl rfl (Sl.bs (by assumption) hq) _ rfl (by omega)) rfl ?_
          refine Qw.take (dj := 145) rfl rfl ?_
          refine Qw.val (fun w1 hq => Ex.ldT (ag_21 _) rfl (Sl.bs (by assumption) hq) (by omega)) rfl ?_
          refine Qw.take (dj := 145) rfl rfl ?_
          refine Qw.val (fun w1 hq => Ex.fieldAddr (q := 0) Try.underlying25 rfl (sz_23 _) rfl) rfl ?_
          refine Qw.take (dj := 145) rfl rfl ?_
          refine Qw.val (fun w1 hq => Ex.ldB (ag_23 _) rfl (Blk.bs (by assumption) hq) rfl) rfl ?_
          refine Qw.take (dj := 145) rfl rfl ?_
          refine Qw.val (fun w1 hq => Ex.move rfl) rfl ?_
          refine Qw.take (dj := 145) rfl rfl ?_
          refine Qw.val (fun w1 hq => Ex.idxT st_23 rfl rfl (Sl.bs (by assumption) hq) _ rfl (by omega)) rfl ?_
          refine Qw.take (dj := 145) rfl rfl ?_
          refine Qw.val (fun w1 hq => Ex.ldT (ag_21 _) rfl (Sl.bs (by assumption) hq) (by omega)) rfl ?_
          refine Qw.take (dj := 145) rfl rfl ?_
          refine Qw.val (fun w1 hq => Ex.geq rfl rfl) rfl ?_
          refine Qw.take (dj := 145) rfl rfl ?_
          refine Qw.val (fun w1 hq => Ex.move rfl) rfl ?_
          refine Qw.part 158 rfl ?_ ?_
          · intro g2
            have g2' := shI_mono k (of_decide_eq_true g2)
            refine Qw.take (dj := 158) rfl rfl ?_
            refine Qw.val (fun w1 hq => Ex.fieldAddr (q := 0) Try.underlying25 rfl (sz_23 _) rfl) rfl ?_
            refine Qw.take (dj := 158) rfl rfl ?_
            refine Qw.val (fun w1 hq => Ex.ldB (ag_23 _) rfl (Blk.bs (by assumption) hq) rfl) rfl ?_
            refine Qw.take (dj := 158) rfl rfl ?_
            refine Qw.val (fun w1 hq => Ex.move rfl) rfl ?_
            refine Qw.take (dj := 158) rfl rfl ?_
            refine Qw.val (fun w1 hq => (Ex.subI rfl rfl (by omega)).as (congrArg (Value.int .i64) (show (i : Int) - 1 = ((i - 1 : Nat) : Int) by omega))) rfl ?_
            refine Qw.take (dj := 158) rfl rfl ?_
            refine Qw.val (fun w1 hq => Ex.idxT st_23 rfl rfl (Sl.bs (by assumption) hq) _ rfl (by omega)) rfl ?_
            refine Qw.take (dj := 158) rfl rfl ?_
            refine Qw.val (fun w1 hq => Ex.ldT (ag_21 _) rfl (Sl.bs (by assumption) hq) (by omega)) rfl ?_
            refine Qw.take (dj := 158) rfl rfl ?_
            refine Qw.val (fun w1 hq => Ex.fieldAddr (q := 0) Try.underlying25 rfl (sz_23 _) rfl) rfl ?_
            refine Qw.take (dj := 158) rfl rfl ?_
            refine Qw.val (fun w1 hq => Ex.ldB (ag_23 _) rfl (Blk.bs (by assumption) hq) rfl) rfl ?_
            refine Qw.take (dj := 158) rfl rfl ?_
            refine Qw.val (fun w1 hq => Ex.move rfl) rfl ?_
            refine Qw.take (dj := 158) rfl rfl ?_
            refine Qw.val (fun w1 hq => Ex.idxT st_23 rfl rfl (Sl.bs (by assumption) hq) _ rfl (by omega)) rfl ?_
            refine Qw.take (dj := 158) rfl rfl ?_
            refine Qw.val (fun w1 hq => Ex.ldT (ag_21 _) rfl (Sl.bs (by assumption) hq) (by omega)) rfl ?_
            refine Qw.take (dj := 158) rfl rfl ?_
            refine Qw.val (fun w1 hq => Ex.lss rfl rfl) rfl ?_
            refine Qw.take (dj := 145) rfl rfl ?_
            refine Qw.val (fun w1 hq => Ex.pickT rfl rfl) rfl ?_
            refine Qw.take (dj := 118) rfl rfl ?_
            refine Qw.val (fun w1 hq => Ex.pickF rfl rfl) rfl ?_
            refine Qw.val (fun w1 hq => Ex.pickT rfl rfl) rfl ?_
            refine Qw.nil (fun w2 hq => ?_)
            exact Pw.mid ⟨rfl, rfl, rfl, rfl, rfl, congrArg (fun b => some (Value.bool b)) (decide_eq_false (by rw [m1, m2]; omega)), trivial⟩ (hq)
          · intro g2
            refine Qw.pass (dj := 158) rfl rfl rfl rfl ?_
            refine Qw.pass (dj := 158) rfl rfl rfl rfl ?_
            refine Qw.pass (dj := 158) rfl rfl rfl rfl ?_
            refine Qw.pass (dj := 158) rfl rfl rfl rfl ?_
            refine Qw.pass (dj := 158) rfl rfl rfl rfl ?_
            refine Qw.pass (dj := 158) rfl rfl rfl rfl ?_
            refine Qw.pass (dj := 158) rfl rfl rfl rfl ?_
            refine Qw.pass (dj := 158) rfl rfl rfl rfl ?_
            refine Qw.pass (dj := 158) rfl rfl rfl rfl ?_
            refine Qw.pass (dj := 158) rfl rfl rfl rfl ?_
            refine Qw.pass (dj := 158) rfl rfl rfl rfl ?_
            refine Qw.pass (dj := 158) rfl rfl rfl rfl ?_
            refine Qw.take (dj := 145) rfl rfl ?_
            refine Qw.val (fun w1 hq => Ex.pickF rfl rfl) rfl ?_
            refine Qw.take (dj := 118) rfl rfl ?_
            refine Qw.val (fun w1 hq => Ex.pickF rfl rfl) rfl ?_
            refine Qw.val (fun w1 hq => Ex.pickT rfl rfl) rfl ?_
            refine Qw.nil (fun w2 hq => ?_)
            exact Pw.mid ⟨rfl, rfl, rfl, rfl, rfl, rfl, trivial⟩ (hq)
      · intro g
        refine Qw.pass (dj := 118) rfl rfl rfl rfl ?_
        refine Qw.pass (dj := 118) rfl rfl rfl rfl ?_
        refine Qw.pass (dj := 118) rfl rfl rfl rfl ?_
        refine Qw.pass (dj := 118) rfl rfl rfl rfl ?_
        refine Qw.pass (dj := 118) rfl rfl rfl rfl ?_
        refine Qw.pass (dj := 118) rfl rfl rfl rfl ?_
        refine Qw.pass (dj := 118) rfl rfl rfl rfl ?_
        refine Qw.pass (dj := 118) rfl rfl rfl rfl ?_
        refine Qw.pass (dj := 118) rfl rfl rfl rfl ?_
        refine Qw.pass (dj := 118) rfl rfl rfl rfl ?_
        refine Qw.pass (dj := 118) rfl rfl rfl rfl ?_
        refine Qw.pass (dj := 118) rfl rfl rfl rfl ?_
        refine Qw.pass (dj := 118) rfl rfl rfl rfl ?_
        refine Qw.passN (dj := 131) rfl rfl rfl ?_
        refine Qw.passN (dj := 131) rfl rfl rfl ?_
        refine Qw.passN (dj := 131) rfl rfl rfl ?_
        refine Qw.passN (dj := 131) rfl rfl rfl ?_
        refine Qw.passN (dj := 131) rfl rfl rfl ?_
        refine Qw.passN (dj := 131) rfl rfl rfl ?_
        refine Qw.passN (dj := 131) rfl rfl rfl ?_
        refine Qw.passN (dj := 131) rfl rfl rfl ?_
        refine Qw.passN (dj := 131) rfl rfl rfl ?_
        refine Qw.passN (dj := 131) rfl rfl rfl ?_
        refine Qw.passN (dj := 131) rfl rfl rfl ?_
        refine Qw.passN (dj := 131) rfl rfl rfl ?_
        refine Qw.pass (dj := 118) rfl rfl rfl rfl ?_
        refine Qw.pass (dj := 118) rfl rfl rfl rfl ?_
        refine Qw.passN (dj := 145) rfl rfl rfl ?_
        refine Qw.passN (dj := 145) rfl rfl rfl ?_
        refine Qw.passN (dj := 145) rfl rfl rfl ?_
        refine Qw.passN (dj := 145) rfl rfl rfl ?_
        refine Qw.passN (dj := 145) rfl rfl rfl ?_
        refine Qw.passN (dj := 145) rfl rfl rfl ?_
        refine Qw.passN (dj := 145) rfl rfl rfl ?_
        refine Qw.passN (dj := 145) rfl rfl rfl ?_
        refine Qw.passN (dj := 145) rfl rfl rfl ?_
        refine Qw.passN (dj := 145) rfl rfl rfl ?_
        refine Qw.passN (dj := 145) rfl rfl rfl ?_
        refine Qw.passN (dj := 145) rfl rfl rfl ?_
        refine Qw.passN (dj := 145) rfl rfl rfl ?_
        refine Qw.passN (dj := 158) rfl rfl rfl ?_
        refine Qw.passN (dj := 158) rfl rfl rfl ?_
        refine Qw.passN (dj := 158) rfl rfl rfl ?_
        refine Qw.passN (dj := 158) rfl rfl rfl ?_
        refine Qw.passN (dj := 158) rfl rfl rfl ?_
        refine Qw.passN (dj := 158) rfl rfl rfl ?_
        refine Qw.passN (dj := 158) rfl rfl rfl ?_
        refine Qw.passN (dj := 158) rfl rfl rfl ?_
        refine Qw.passN (dj := 158) rfl rfl rfl ?_
        refine Qw.passN (dj := 158) rfl rfl rfl ?_
        refine Qw.passN (dj := 158) rfl rfl rfl ?_
        refine Qw.passN (dj := 158) rfl rfl rfl ?_
        refine Qw.passN (dj := 145) rfl rfl rfl ?_
        refine Qw.pass (dj := 118) rfl rfl rfl rfl ?_
        refine Qw.val (fun w1 hq => Ex.pickF rfl rfl) rfl ?_
        refine Qw.nil (fun w2 hq => ?_)
        exact Pw.mid ⟨rfl, rfl, rfl, rfl, rfl, rfl, trivial⟩ (hq)
    rintro u2 hu2
    replace hB := hB.bs hu2
    replace h_a := h_a.bs hu2
    replace b_a := b_a.bs hu2
    replace h_x := h_x.bs hu2
    replace b_x := b_x.bs hu2
    replace y_a := y_a.bs hu2
    replace y_x := y_x.bs hu2
    refine Cw.out ?_
    refine Cw.condF rfl ?_
    refine Cw.skip ?_
    refine Pw.thenN (Cw.out ?_)
    refine Cw.seq ?_
    refine Cw.mid (F := [(2, .pointer (some ⟨A_a, 0, none⟩)), (5, .int .i64 (k : Int)), (6, .pointer (some ⟨A_x, 0, none⟩)), (8, .int .i64 b), (9, .int .i64 (i : Int)), (204, .bool false)]) (I := fun w' => Below u2.heap.size u2 w') ?_ ?_
    · refine Cw.quiet mixed (by kernel_rfl) ?_
      refine Qw.val (fun w1 hq => Ex.move rfl) rfl ?_
      refine Qw.val (fun w1 hq => Ex.eql rfl rfl) rfl ?_
      refine Qw.val (fun w1 hq => Ex.move rfl) rfl ?_
      refine Qw.part 176 rfl ?_ ?_
      · intro g
        have hk0 : k = 0 := by simpa using g
        refine Qw.take (dj := 176) rfl rfl ?_
        refine Qw.val (fun w1 hq => Ex.fieldAddr (q := 0) Try.underlying25 rfl (sz_23 _) rfl) rfl ?_
        refine Qw.take (dj := 176) rfl rfl ?_
        refine Qw.val (fun w1 hq => Ex.ldB (ag_23 _) rfl (Blk.bs (by assumption) hq) rfl) rfl ?_
        refine Qw.take (dj := 176) rfl rfl ?_
        refine Qw.val (fun w1 hq => Ex.move rfl) rfl ?_
        refine Qw.take (dj := 176) rfl rfl ?_
        refine Qw.val (fun w1 hq => Ex.idxT st_23 rfl rfl (Sl.bs (by assumption) hq) _ rfl (by omega)) rfl ?_
        refine Qw.take (dj := 176) rfl rfl ?_
        refine Qw.val (fun w1 hq => Ex.ldT (ag_21 _) rfl (Sl.bs (by assumption) hq) (by omega)) rfl ?_
        refine Qw.take (dj := 176) rfl rfl ?_
        refine Qw.val (fun w1 hq => Ex.geq rfl rfl) rfl ?_
        refine Qw.val (fun w1 hq => Ex.pickT rfl rfl) rfl ?_
        refine Qw.val (fun w1 hq => Ex.move rfl) rfl ?_
        refine Qw.part 184 rfl ?_ ?_
        · intro g1
          have g1' := of_decide_eq_true g1
          refine Qw.take (dj := 184) rfl rfl ?_
          refine Qw.val (fun w1 hq => Ex.fieldAddr (q := 0) Try.underlying25 rfl (sz_23 _) rfl) rfl ?_
          refine Qw.take (dj := 184) rfl rfl ?_
          refine Qw.val (fun w1 hq => Ex.ldB (ag_23 _) rfl (Blk.bs (by assumption) hq) rfl) rfl ?_
          refine Qw.take (dj := 184) rfl rfl ?_
          refine Qw.val (fun w1 hq => Ex.move rfl) rfl ?_
          refine Qw.take (dj := 184) rfl rfl ?_
          refine Qw.val (fun w1 hq => Ex.idxT st_23 rfl rfl (Sl.bs (by assumption) hq) _ rfl (by omega)) rfl ?_
          refine Qw.take (dj := 184) rfl rfl ?_
          refine Qw.val (fun w1 hq => Ex.ldT (ag_21 _) rfl (Sl.bs (by assumption) hq) (by omega)) rfl ?_
          refine Qw.take (dj := 184) rfl rfl ?_
          refine Qw.val (fun w1 hq => Ex.leq rfl rfl) rfl ?_
          refine Qw.val (fun w1 hq => Ex.pickT rfl rfl) rfl ?_
          refine Qw.val (fun w1 hq => Ex.move rfl) rfl ?_
          refine Qw.part 192 rfl ?_ ?_
          · intro g2
            have g2' := of_decide_eq_true g2
            have hxa : x.l.getD i default = a.l.getD i default := BitVec.eq_of_toInt_eq (by rw [v_x i hi', hk0]; exact shI_zero ⟨g1', g2'⟩)
            refine Qw.take (dj := 192) rfl rfl ?_
            refine Qw.val (fun w1 hq => Ex.fieldAddr (q := 0) Try.underlying25 rfl (sz_23 _) rfl) rfl ?_
            refine Qw.take (dj := 192) rfl rfl ?_
            refine Qw.val (fun w1 hq => Ex.ldB (ag_23 _) rfl (Blk.bs (by assumption) hq) rfl) rfl ?_
            refine Qw.take (dj := 192) rfl rfl ?_
            refine Qw.val (fun w1 hq => Ex.move rfl) rfl ?_
            refine Qw.take (dj := 192) rfl rfl ?_
            refine Qw.val (fun w1 hq => Ex.idxT st_23 rfl rfl (Sl.bs (by assumption) hq) _ rfl (by omega)) rfl ?_
            refine Qw.take (dj := 192) rfl rfl ?_
            refine Qw.val (fun w1 hq => Ex.ldT (ag_21 _) rfl (Sl.bs (by assumption) hq) (by omega)) rfl ?_
            refine Qw.take (dj := 192) rfl rfl ?_
            refine Qw.val (fun w1 hq => Ex.fieldAddr (q := 0) Try.underlying25 rfl (sz_23 _) rfl) rfl ?_
            refine Qw.take (dj := 192) rfl rfl ?_
            refine Qw.val (fun w1 hq => Ex.ldB (ag_23 _) rfl (Blk.bs (by assumption) hq) rfl) rfl ?_
            refine Qw.take (dj := 192) rfl rfl ?_
            refine Qw.val (fun w1 hq => Ex.move rfl) rfl ?_
            refine Qw.take (dj := 192) rfl rfl ?_
            refine Qw.val (fun w1 hq => Ex.idxT st_23 rfl rfl (Sl.bs (by assumption) hq) _ rfl (by omega)) rfl ?_
            refine Qw.take (dj := 192) rfl rfl ?_
            refine Qw.val (fun w1 hq => Ex.ldT (ag_21 _) rfl (Sl.bs (by assumption) hq) (by omega)) rfl ?_
            refine Qw.take (dj := 192) rfl rfl ?_
            refine Qw.val (fun w1 hq => Ex.neqi32 rfl rfl) rfl ?_
            refine Qw.val (fun w1 hq => Ex.pickT rfl rfl) rfl ?_
            refine Qw.nil (fun w2 hq => ?_)
            exact Pw.mid ⟨rfl, rfl, rfl, rfl, rfl, congrArg (fun b => some (Value.bool b)) (by rw [decide_eq_true hxa]; rfl), trivial⟩ (hq)
          · intro g2
            refine Qw.pass (dj := 192) rfl rfl rfl rfl ?_
            refine Qw.pass (dj := 192) rfl rfl rfl rfl ?_
            refine Qw.pass (dj := 192) rfl rfl rfl rfl ?_
            refine Qw.pass (dj := 192) rfl rfl rfl rfl ?_
            refine Qw.pass (dj := 192) rfl rfl rfl rfl ?_
            refine Qw.pass (dj := 192) rfl rfl rfl rfl ?_
            refine Qw.pass (dj := 192) rfl rfl rfl rfl ?_
            refine Qw.pass (dj := 192) rfl rfl rfl rfl ?_
            refine Qw.pass (dj := 192) rfl rfl rfl rfl ?_
            refine Qw.pass (dj := 192) rfl rfl rfl rfl ?_
            refine Qw.pass (dj := 192) rfl rfl rfl rfl ?_
            refine Qw.val (fun w1 hq => Ex.pickF rfl rfl) rfl ?_
            refine Qw.nil (fun w2 hq => ?_)
            exact Pw.mid ⟨rfl, rfl, rfl, rfl, rfl, rfl, trivial⟩ (hq)
        · intro g1
          refine Qw.pass (dj := 184) rfl rfl rfl rfl ?_
          refine Qw.pass (dj := 184) rfl rfl rfl rfl ?_
          refine Qw.pass (dj := 184) rfl rfl rfl rfl ?_
          refine Qw.pass (dj := 184) rfl rfl rfl rfl ?_
          refine Qw.pass (dj := 184) rfl rfl rfl rfl ?_
          refine Qw.pass (dj := 184) rfl rfl rfl rfl ?_
          refine Qw.val (fun w1 hq => Ex.pickF rfl rfl) rfl ?_
          refine Qw.val (fun w1 hq => Ex.move rfl) rfl ?_
          refine Qw.pass (dj := 192) rfl rfl rfl rfl ?_
          refine Qw.pass (dj := 192) rfl rfl rfl rfl ?_
          refine Qw.pass (dj := 192) rfl rfl rfl rfl ?_
          refine Qw.pass (dj := 192) rfl rfl rfl rfl ?_
          refine Qw.pass (dj := 192) rfl rfl rfl rfl ?_
          refine Qw.pass (dj := 192) rfl rfl rfl rfl ?_
          refine Qw.pass (dj := 192) rfl rfl rfl rfl ?_
          refine Qw.pass (dj := 192) rfl rfl rfl rfl ?_
          refine Qw.pass (dj := 192) rfl rfl rfl rfl ?_
          refine Qw.pass (dj := 192) rfl rfl rfl rfl ?_
          refine Qw.pass (dj := 192) rfl rfl rfl rfl ?_
          refine Qw.val (fun w1 hq => Ex.pickF rfl rfl) rfl ?_
          refine Qw.nil (fun w2 hq => ?_)
          exact Pw.mid ⟨rfl, rfl, rfl, rfl, rfl, rfl, trivial⟩ (hq)
      · intro g
        refine Qw.pass (dj := 176) rfl rfl rfl rfl ?_
        refine Qw.pass (dj := 176) rfl rfl rfl rfl ?_
        refine Qw.pass (dj := 176) rfl rfl rfl rfl ?_
        refine Qw.pass (dj := 176) rfl rfl rfl rfl ?_
        refine Qw.pass (dj := 176) rfl rfl rfl rfl ?_
        refine Qw.pass (dj := 176) rfl rfl rfl rfl ?_
        refine Qw.val (fun w1 hq => Ex.pickF rfl rfl) rfl ?_
        refine Qw.val (fun w1 hq => Ex.move rfl) rfl ?_
        refine Qw.pass (dj := 184) rfl rfl rfl rfl ?_
        refine Qw.pass (dj := 184) rfl rfl rfl rfl ?_
        refine Qw.pass (dj := 184) rfl rfl rfl rfl ?_
        refine Qw.pass (dj := 184) rfl rfl rfl rfl ?_
        refine Qw.pass (dj := 184) rfl rfl rfl rfl ?_
        refine Qw.pass (dj := 184) rfl rfl rfl rfl ?_
        refine Qw.val (fun w1 hq => Ex.pickF rfl rfl) rfl ?_
        refine Qw.val (fun w1 hq => Ex.move rfl) rfl ?_
        refine Qw.pass (dj := 192) rfl rfl rfl rfl ?_
        refine Qw.pass (dj := 192) rfl rfl rfl rfl ?_
        refine Qw.pass (dj := 192) rfl rfl rfl rfl ?_
        refine Qw.pass (dj := 192) rfl rfl rfl rfl ?_
        refine Qw.pass (dj := 192) rfl rfl rfl rfl ?_
        refine Qw.pass (dj := 192) rfl rfl rfl rfl ?_
        refine Qw.pass (dj := 192) rfl rfl rfl rfl ?_
        refine Qw.pass (dj := 192) rfl rfl rfl rfl ?_
        refine Qw.pass (dj := 192) rfl rfl rfl rfl ?_
        refine Qw.pass (dj := 192) rfl rfl rfl rfl ?_
        refine Qw.pass (dj := 192) rfl rfl rfl rfl ?_
        refine Qw.val (fun w1 hq => Ex.pickF rfl rfl) rfl ?_
        refine Qw.nil (fun w2 hq => ?_)
        exact Pw.mid ⟨rfl, rfl, rfl, rfl, rfl, rfl, trivial⟩ (hq)
    rintro u3 hu3
    refine Cw.out ?_
    refine Cw.condF rfl ?_
    refine Cw.skip ?_
    refine Pw.blkN ?_
    refine Pw.thenN (Cw.out ?_)
    refine Cw.region ?_
    refine Lw.val (Ex.move rfl) rfl ?_
    refine Lw.val (Ex.addI rfl rfl (by omega)) rfl ?_
    refine Lw.val (Ex.assign rfl) rfl ?_
    refine Lw.nil ?_
    exact Pw.thenN (Pw.next (i + 1) ⟨rfl, rfl, rfl, rfl, rfl, trivial⟩ (⟨hi', bt hw (bt hu2 hu3)⟩) (by omega))
  intro h
  refine Cw.exit ?_
  refine Pw.thenE ?_
  refine Pw.thenE ?_
  refine Pw.blkHit ?_
  refine Pw.thenN (Cw.out ?_)
  refine Cw.seq ?_
  refine Cw.region ?_
  refine Lw.val (Ex.assign rfl) rfl ?_
  refine Lw.nil ?_
  refine Pw.thenN (Cw.out ?_)
  refine Cw.ret ?_
  refine Pw.ret1 rfl rfl ?_
  exact ⟨rfl, hB⟩

set_option maxRecDepth 100000 in
theorem mathsShift_lifted (os : Os) (started : os.Started) (H : Type) (enc : TypeId × Value → H) :
    ReturnsInHanded {} Try.checked os 6 .any (Rows.mathsShiftSpec.pre6 enc Try.prog Try.f6 Rows.mathsShiftRow.domain false) (Rows.mathsShiftSpec.post enc Try.prog Try.f6 false true false false) := by
  refine returnsInHanded_of_change_sized (C := Try.checked) own started (by kernel_rfl) Try.func6
    (ChangeSpec.witness6 (enc := enc) (C := Try.checked) false ⟨#[], #[.agg #[.slice none 0 0, .slice none 0 0], .int .u8 0], []⟩ 8 (by kernel_rfl) (by kernel_rfl) (by kernel_rfl) (by kernel_rfl)) ?_
  intro W base args ds gs before hval0 hW hcnd hsz0 _
  have hval : ∀ (j : Nat) t v, Try.f6.params[j]? = some t → args[j]? = some v → Value.okWide Try.prog W .any base t v := hval0
  have hW' := hW
  obtain ⟨p, q, hA0, hV, rfl, hfz, hnd⟩ := hW
  have hA : DataW.TrodAll enc Try.prog W 0 (fun _ => true) true Try.f6.params.toList args.toList ds p := hA0
  have hsz : (DataW.weightsEach Try.prog (Try.f6.params.toList ++ Rows.mathsShiftSpec.plain.varTypes Try.prog) (ds ++ gs)).all (· ≤ reachBytes) = true := hsz0
  rw [Try.params6] at hA hval hsz
  obtain ⟨v0, vs0, d0, ds0, p0, q0, hargs, rfl, rfl, h0, r0⟩ := trodAll_cons hA
  obtain ⟨v1, vs1, d1, ds1, p1, q1, rfl, rfl, rfl, h1, r1⟩ := trodAll_cons r0
  obtain ⟨rfl, rfl, rfl⟩ := trodAll_nil r1
  obtain rfl : args = #[v0, v1] := by cases args; simp_all
  obtain ⟨rfl, rfl⟩ := trodVars_none hV
  have k0 := h0
  have lt0 : ∀ x ∈ p0, x.block < W.heap.size := by obtain ⟨m, hm⟩ := k0; exact DataW.trod_lt m _ _ _ hm
  have i0 := in_of (j := 0) (t := 25) hsz rfl rfl h0
  have o0 := hval 0 25 v0 rfl rfl
  have k1 := h1
  have lt1 : ∀ x ∈ p1, x.block < W.heap.size := by obtain ⟨m, hm⟩ := k1; exact DataW.trod_lt m _ _ _ hm
  have i1 := in_of (j := 1) (t := 5) hsz rfl rfl h1
  have o1 := hval 1 5 v1 rfl rfl
  clear hA0 hval0 hsz0 hsz
  obtain ⟨a, rfl, ha, b1, b2⟩ := arg_ten o0 i0
  obtain ⟨nb, rfl⟩ := arg_num (BitVec.ofInt 8) b8 (fun _ h => wf_u8 h) un_5 o1 i1
  refine (law_calls (mathsShift_w a nb W ha (by omega) (by omega))).mono fun e W' ⟨he, bel⟩ => ?_
  subst he
  exact ⟨_, rfl, _, _, _, [], _, [], hW', trodAll_mk1 (shut_bool un_4 _), (trodAll_cons_mk (Below.trod laidOut (by kernel_rfl) (of_decide_eq_true (by kernel_rfl)) k0 bel lt0) (trodAll_cons_mk (Below.trod laidOut (by kernel_rfl) (of_decide_eq_true (by kernel_rfl)) k1 bel lt1) trodAll_mk0)), rfl, bel.frame _, fun h => by cases h⟩

/-- The statement. -/
theorem mathsShift_proved : Rows.MathsShiftSaid :=
  OpenClaim.holds_of_wide 6 Try.f6 rfl rfl rfl rfl rfl rfl rfl ⟨rfl, rfl, rfl, rfl, rfl⟩ rfl rfl rfl rfl rfl (by kernel_rfl) Try.func6 (by kernel_rfl)
    (of_decide_eq_true (by kernel_rfl)) (by unfold Func.isWrapper; first | (rw [if_pos (by decide +kernel)]; kernel_rfl) | (rw [if_neg (by decide +kernel)]; exact ⟨rfl, rfl⟩))
    (fun os started H enc _ => mathsShift_lifted os started H enc)
#print axioms mathsShift_proved
end Go.Proofs.Ythgckokpdgiilaa
