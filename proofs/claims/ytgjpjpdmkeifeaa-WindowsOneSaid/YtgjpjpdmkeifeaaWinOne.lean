/- A window of one number, by steps of 1, nothing around, is the picture times that number; with noughts around, and a step, it picks from the picture, and noughts: for any picture, any number, any step, any pad; no condition. -/
import Derived.Test.YtgjpjpdmkeifeaaWinMore
import Derived.Test.YtgjpjpdmkeifeaaTwinTensor
import Derived.Test.YtgjpjpdmkeifeaaInt
namespace Go.Proofs.Ytgjpjpdmkeifeaa
open Go Go.Dd Go.RowKit Go.ChangeShapes Go.WideShapes Go.ChangeAt

section
variable {t f : T4} {n : BitVec 32}
theorem one_E (ht : tok t.s t.l = true) (hf : f.s = [1, 1, 1, 1]) (hl : f.l = [n]) {q p : Int} (hq : 1 ≤ q ∧ q ≤ 8) (hp : 0 ≤ p ∧ p ≤ 8) :
    wofE t f q p = 0 ∨ wofE t f q p = 10 := by
  have kf : tok f.s f.l = true := by rw [hf, hl]; exact (show tok [1, 1, 1, 1] [n] = true from by unfold tok; rfl)
  rw [wofE_tok ht kf]
  have o1 : Shapes.ok t.s = true := (tok_ok ht).1
  have o2 : Shapes.ok f.s = true := by rw [hf]; rfl
  have hA : wshA t.s f.s q p = false := by
    simp only [wshA, o1, o2, Bool.not_true, Bool.false_or, Bool.or_eq_false_iff, decide_eq_false_iff_not]
    omega
  unfold wshE
  rw [hA, if_neg (by decide)]
  split
  · exact .inl rfl
  · exact .inr rfl
theorem one_S (hf : f.s = [1, 1, 1, 1]) (q p : Int) : wshS t.s f.s q p = [1, slid (t.s.getD 1 default + 2 * p) 1 q, slid (t.s.getD 2 default + 2 * p) 1 q] := by
  unfold wshS; rw [hf]; rfl
theorem one_N (hf : f.s = [1, 1, 1, 1]) : wofN f = 1 := by unfold wofN; rw [hf]; rfl
theorem slid_one {r : Int} (h : 1 ≤ r) : slid r 1 1 = r := by unfold slid; rw [if_neg (by omega), Int.ediv_one]; omega
theorem one_same (ht : tok t.s t.l = true) (h3 : t.s.length = 3) (h0 : t.s.getD 0 default = 1) (hf : f.s = [1, 1, 1, 1]) (hl : f.l = [n]) :
    wofE t f 1 0 = 0 ∧ wshS t.s f.s 1 0 = t.s ∧ wofL t f 1 0 = t.l.map (· * n) := by
  obtain ⟨o1, o3⟩ := tok_ok ht
  have T := (Shapes.ok_iff t.s).1 o1
  have g1 := good_at T.2.1 (k := 1) (by omega)
  have g2 := good_at T.2.1 (k := 2) (by omega)
  have kf : tok f.s f.l = true := by rw [hf, hl]; exact (show tok [1, 1, 1, 1] [n] = true from by unfold tok; rfl)
  have o2 : Shapes.ok f.s = true := by rw [hf]; rfl
  have eS : wshS t.s f.s 1 0 = t.s := by
    rw [one_S hf, show t.s.getD 1 default + 2 * 0 = t.s.getD 1 default by omega, show t.s.getD 2 default + 2 * 0 = t.s.getD 2 default by omega, slid_one g1.1, slid_one g2.1]
    conv => rhs; rw [list3 h3, h0]
  refine ⟨?_, eS, ?_⟩
  · rw [wofE_tok ht kf]
    have hA : wshA t.s f.s 1 0 = false := by
      simp only [wshA, o1, o2, Bool.not_true, Bool.false_or]; rfl
    have hB : wshB t.s f.s = true := by
      simp only [wshB, h3, hf, h0]; rfl
    unfold wshE
    rw [hA, hB, eS, o1]; rfl
  · apply List.ext_getElem (by rw [wofL_len, eS, List.length_map, o3])
    intro i h1 h2
    rw [List.length_map] at h2
    have hi : i < (Shapes.size t.s).toNat := by omega
    have e1 : (wofL t f 1 0)[i] = wofF t f 1 0 i := by simp [wofL]
    rw [e1, List.getElem_map]
    unfold wofF
    rw [one_N hf, hf, hl, ← hf, eS, show f.s.drop 1 = [1, 1, 1] by rw [hf]; rfl]
    have hz : Shapes.size t.s = 1 * (t.s.getD 1 default * t.s.getD 2 default) := by rw [Shapes.size_ok o1, prod3 h3, h0]
    have c0 : spc t.s i = 0 := Int.ediv_eq_zero_of_lt (by omega) (by omega)
    rw [winS_one c0, show spy t.s i * 1 - 0 = spy t.s i by omega, show spx t.s i * 1 - 0 = spx t.s i by omega]
    have := pic_spot (s := t.s) (l := t.l) (j := i) g1.1 g2.1
    rw [c0] at this
    rw [this]
    simp [h2]
/-- The number at a place. -/
theorem one_at (hf : f.s = [1, 1, 1, 1]) (hl : f.l = [n]) {q p : Int} (e : wofE t f q p = 0) {i : Nat} (hi : i < (Shapes.size (wshS t.s f.s q p)).toNat) {r c : Int}
    (hr : (i : Int) / (wshS t.s f.s q p).getD 2 default * q - p = r) (hc : (i : Int) % (wshS t.s f.s q p).getD 2 default * q - p = c) :
    (wofL t f q p).getD i default = if r < 0 ∨ t.s.getD 1 default ≤ r ∨ c < 0 ∨ t.s.getD 2 default ≤ c then 0#32 else t.l.getD (r * t.s.getD 2 default + c).toNat default * n := by
  obtain ⟨k1, k2, k3⟩ := wofE_ok e
  have W := win_ok k1 k2 k3
  have s1 := good_at W.gS (k := 1) (by have := W.lS; omega)
  have s2 := good_at W.gS (k := 2) (by have := W.lS; omega)
  obtain ⟨S, hS⟩ : ∃ S, S = wshS t.s f.s q p := ⟨_, rfl⟩
  have S0 : S.getD 0 default = 1 := by rw [hS, one_S hf]; rfl
  have okS := W.ok
  have lS := W.lS
  rw [← hS] at hi hr hc s1 s2 okS lS
  have hz : Shapes.size S = 1 * (S.getD 1 default * S.getD 2 default) := by rw [Shapes.size_ok okS, prod3 lS, S0]
  have hiz : (i : Int) < S.getD 1 default * S.getD 2 default := by omega
  have c0 : spc S i = 0 := Int.ediv_eq_zero_of_lt (by omega) hiz
  have y0 : spy S i = (i : Int) / S.getD 2 default := by
    unfold spy
    exact Int.emod_eq_of_lt (Int.ediv_nonneg (by omega) (by omega)) (Int.ediv_lt_of_lt_mul (by omega) hiz)
  have e1 : (wofL t f q p).getD i default = wofF t f q p i := by simp [wofL, ← hS, hi]
  rw [e1]
  unfold wofF
  rw [one_N hf, ← hS, hl, show f.s.drop 1 = [1, 1, 1] by rw [hf]; rfl, winS_one c0, y0]
  rw [show spx S i = (i : Int) % S.getD 2 default from rfl, hr, hc]
  unfold pic
  split
  · simp
  · rw [Int.zero_mul, Int.zero_add]
end
theorem windowsOne_w (t : T4) (n : BitVec 32) (a b : BitVec 8) (W : World) (h_t : t.at W) (f1 : few t) :
    Fnc Try.prog 3 [t.v, i32 n, .agg #[b8 a, b8 b]] W (fun r w' => r = .bool true ∧ Below W.heap.size W w') := by
  have hB := Below.refl W.heap.size W
  obtain ⟨p, hp⟩ : ∃ k, k = b.toNat % 9 := ⟨_, rfl⟩
  obtain ⟨q, hq⟩ : ∃ k, k = a.toNat % 8 := ⟨_, rfl⟩
  have hp2 : p ≤ 8 := by omega
  have hq2 : q ≤ 7 := by omega
  obtain ⟨Q, hQ⟩ : ∃ Q : Int, Q = 1 + (q : Int) := ⟨_, rfl⟩
  refine Fnc.enter (n := 203) Try.func3 (by kernel_rfl) rfl rfl rfl ?_
  refine Cw.seq ?_
  refine Cw.region ?_
  refine Lw.boxV (cs := [t.x, t.y]) rfl rfl rfl ?_
  rintro A_t w eA_t b_t hn -
  replace hB := hB.bs hn
  replace h_t := h_t.bs hn
  clear hn
  refine Lw.boxV (cs := [b8 a, b8 b]) rfl rfl rfl ?_
  rintro A_q w eA_q b_q hn -
  replace hB := hB.bs hn
  replace h_t := h_t.bs hn
  replace b_t := b_t.bs hn
  clear hn
  refine Lw.val (Ex.assign rfl) rfl ?_
  refine Lw.nil ?_
  refine Pw.thenN (Cw.out ?_)
  refine Cw.seq ?_
  refine Cw.seq ?_
  refine Cw.region ?_
  refine Lw.callF rfl rfl (alive_c _) ?_
  rintro _ w ⟨rfl, hn⟩
  replace hB := hB.bs hn
  replace h_t := h_t.bs hn
  replace b_t := b_t.bs hn
  replace b_q := b_q.bs hn
  clear hn
  refine Lw.val (Ex.not rfl) rfl ?_
  refine Lw.val (Ex.move rfl) rfl ?_
  refine Lw.know 24 (v' := .bool false) rfl (congrArg Value.bool (rfl)) ?_
  refine Lw.take (dj := 24) rfl rfl ?_
  refine Lw.val (Ex.ldA (ag_25 _) (sz_25 _) rfl rfl (by assumption)) rfl ?_
  refine Lw.take (dj := 24) rfl rfl ?_
  refine Lw.callF rfl rfl (tsize_c t _ h_t f1.1 f1.2) ?_
  rintro _ w ⟨rfl, hn⟩
  replace hB := hB.bs hn
  replace h_t := h_t.bs hn
  replace b_t := b_t.bs hn
  replace b_q := b_q.bs hn
  clear hn
  refine Lw.take (dj := 24) rfl rfl ?_
  refine Lw.valW (Xw.lit (vs := [tsz t.s t.l].map (Value.int .i64)) st_22 it_3 rfl rfl rfl rfl rfl) rfl ?_
  rintro u w ⟨ho, -, hn, -⟩
  replace hB := hB.bs hn
  replace h_t := h_t.bs hn
  replace b_t := b_t.bs hn
  replace b_q := b_q.bs hn
  clear hn
  refine Lw.take (dj := 24) rfl rfl ?_
  refine Lw.callF rfl rfl (beyond_c u [tsz t.s t.l] _ (own_slT ho) (by intro x hx; simp at hx; subst hx; exact tsz_bd f1.1 f1.2)) ?_
  rintro _ w ⟨rfl, hn⟩
  replace hB := hB.bs hn
  replace h_t := h_t.bs hn
  replace b_t := b_t.bs hn
  replace b_q := b_q.bs hn
  clear hn
  refine Lw.val (Ex.pickF rfl rfl) rfl ?_
  refine Lw.val (Ex.move rfl) rfl ?_
  clear ho
  refine Lw.part 30 rfl ?_ ?_
  · intro _
    refine Lw.pass (dj := 30) rfl rfl rfl rfl ?_
    refine Lw.pass (dj := 30) rfl rfl rfl rfl ?_
    refine Lw.pass (dj := 30) rfl rfl rfl rfl ?_
    refine Lw.val (Ex.pickT rfl rfl) rfl ?_
    refine Lw.val (Ex.move rfl) rfl ?_
    refine Lw.pass (dj := 35) rfl rfl rfl rfl ?_
    refine Lw.pass (dj := 35) rfl rfl rfl rfl ?_
    refine Lw.pass (dj := 35) rfl rfl rfl rfl ?_
    refine Lw.pass (dj := 35) rfl rfl rfl rfl ?_
    refine Lw.val (Ex.pickT rfl rfl) rfl ?_
    refine Lw.val (Ex.move rfl) rfl ?_
    refine Lw.pass (dj := 41) rfl rfl rfl rfl ?_
    refine Lw.pass (dj := 41) rfl rfl rfl rfl ?_
    refine Lw.pass (dj := 41) rfl rfl rfl rfl ?_
    refine Lw.pass (dj := 41) rfl rfl rfl rfl ?_
    refine Lw.pass (dj := 41) rfl rfl rfl rfl ?_
    refine Lw.val (Ex.pickT rfl rfl) rfl ?_
    refine Lw.nil ?_
    refine Pw.thenN (Cw.out ?_)
    refine Cw.condT rfl ?_
    refine Cw.seq ?_
    refine Cw.region ?_
    refine Lw.callF rfl rfl (alive_c _) ?_
    rintro _ w ⟨rfl, hn⟩
    replace hB := hB.bs hn
    replace h_t := h_t.bs hn
    replace b_t := b_t.bs hn
    replace b_q := b_q.bs hn
    clear hn
    refine Lw.val (Ex.assign rfl) rfl ?_
    refine Lw.nil ?_
    refine Pw.thenN (Cw.out ?_)
    refine Cw.ret ?_
    refine Pw.thenR ?_
    refine Pw.ret1 rfl rfl ?_
    exact ⟨rfl, hB⟩
  intro g1
  have hsm := bey_no (Int.le_refl 0) (by intro x hx; simp at hx; subst hx; exact (tsz_bd f1.1 f1.2).1) g1 (tsz t.s t.l) (by simp)
  have hl1 : t.s.length ≤ 1048576 ∧ t.l.length ≤ 1048576 := by unfold tsz at hsm; split at hsm <;> omega
  clear hsm
  refine Lw.take (dj := 30) rfl rfl ?_
  refine Lw.val (Ex.ldA (ag_25 _) (sz_25 _) rfl rfl (by assumption)) rfl ?_
  refine Lw.take (dj := 30) rfl rfl ?_
  refine Lw.callF rfl rfl (tcheck_c t.x t.y t.s t.l _ h_t.1 h_t.2) ?_
  rintro _ w ⟨rfl, hn⟩
  replace hB := hB.bs hn
  replace h_t := h_t.bs hn
  replace b_t := b_t.bs hn
  replace b_q := b_q.bs hn
  clear hn
  refine Lw.take (dj := 30) rfl rfl ?_
  refine Lw.val (Ex.not rfl) rfl ?_
  refine Lw.val (Ex.pickF rfl rfl) rfl ?_
  refine Lw.val (Ex.move rfl) rfl ?_
  refine Lw.part 35 rfl ?_ ?_
  · intro _
    refine Lw.pass (dj := 35) rfl rfl rfl rfl ?_
    refine Lw.pass (dj := 35) rfl rfl rfl rfl ?_
    refine Lw.pass (dj := 35) rfl rfl rfl rfl ?_
    refine Lw.pass (dj := 35) rfl rfl rfl rfl ?_
    refine Lw.val (Ex.pickT rfl rfl) rfl ?_
    refine Lw.val (Ex.move rfl) rfl ?_
    refine Lw.pass (dj := 41) rfl rfl rfl rfl ?_
    refine Lw.pass (dj := 41) rfl rfl rfl rfl ?_
    refine Lw.pass (dj := 41) rfl rfl rfl rfl ?_
    refine Lw.pass (dj := 41) rfl rfl rfl rfl ?_
    refine Lw.pass (dj := 41) rfl rfl rfl rfl ?_
    refine Lw.val (Ex.pickT rfl rfl) rfl ?_
    refine Lw.nil ?_
    refine Pw.thenN (Cw.out ?_)
    refine Cw.condT rfl ?_
    refine Cw.seq ?_
    refine Cw.region ?_
    refine Lw.callF rfl rfl (alive_c _) ?_
    rintro _ w ⟨rfl, hn⟩
    replace hB := hB.bs hn
    replace h_t := h_t.bs hn
    replace b_t := b_t.bs hn
    replace b_q := b_q.bs hn
    clear hn
    refine Lw.val (Ex.assign rfl) rfl ?_
    refine Lw.nil ?_
    refine Pw.thenN (Cw.out ?_)
    refine Cw.ret ?_
    refine Pw.thenR ?_
    refine Pw.ret1 rfl rfl ?_
    exact ⟨rfl, hB⟩
  intro g2
  have k_t : tok t.s t.l = true := by simpa using g2
  have h_t1 := h_t.1
  refine Lw.take (dj := 35) rfl rfl ?_
  refine Lw.val (Ex.fieldAddr (q := 0) Try.underlying25 rfl (sz_22 _) rfl) rfl ?_
  refine Lw.take (dj := 35) rfl rfl ?_
  refine Lw.val (Ex.ldB (ag_22 _) rfl (by assumption) rfl) rfl ?_
  refine Lw.take (dj := 35) rfl rfl ?_
  refine Lw.val (Ex.lenS st_22 rfl (by assumption)) rfl ?_
  refine Lw.take (dj := 35) rfl rfl ?_
  refine Lw.val (Ex.neq rfl rfl) rfl ?_
  refine Lw.val (Ex.pickF rfl rfl) rfl ?_
  refine Lw.val (Ex.move rfl) rfl ?_
  refine Lw.part 41 rfl ?_ ?_
  · intro _
    refine Lw.pass (dj := 41) rfl rfl rfl rfl ?_
    refine Lw.pass (dj := 41) rfl rfl rfl rfl ?_
    refine Lw.pass (dj := 41) rfl rfl rfl rfl ?_
    refine Lw.pass (dj := 41) rfl rfl rfl rfl ?_
    refine Lw.pass (dj := 41) rfl rfl rfl rfl ?_
    refine Lw.val (Ex.pickT rfl rfl) rfl ?_
    refine Lw.nil ?_
    refine Pw.thenN (Cw.out ?_)
    refine Cw.condT rfl ?_
    refine Cw.seq ?_
    refine Cw.region ?_
    refine Lw.callF rfl rfl (alive_c _) ?_
    rintro _ w ⟨rfl, hn⟩
    replace hB := hB.bs hn
    replace h_t := h_t.bs hn
    replace b_t := b_t.bs hn
    replace b_q := b_q.bs hn
    replace h_t1 := h_t1.bs hn
    clear hn
    refine Lw.val (Ex.assign rfl) rfl ?_
    refine Lw.nil ?_
    refine Pw.thenN (Cw.out ?_)
    refine Cw.ret ?_
    refine Pw.thenR ?_
    refine Pw.ret1 rfl rfl ?_
    exact ⟨rfl, hB⟩
  intro g3
  have h3 : t.s.length = 3 := by have := g3; simp at this; omega
  refine Lw.take (dj := 41) rfl rfl ?_
  refine Lw.val (Ex.fieldAddr (q := 0) Try.underlying25 rfl (sz_22 _) rfl) rfl ?_
  refine Lw.take (dj := 41) rfl rfl ?_
  refine Lw.val (Ex.ldB (ag_22 _) rfl (by assumption) rfl) rfl ?_
  refine Lw.take (dj := 41) rfl rfl ?_
  refine Lw.val (Ex.idxT st_22 rfl rfl (by assumption) 0 rfl (by omega)) rfl ?_
  refine Lw.take (dj := 41) rfl rfl ?_
  refine Lw.val (Ex.ldT (ag_3 _) rfl (by assumption) (by omega)) rfl ?_
  refine Lw.take (dj := 41) rfl rfl ?_
  refine Lw.val (Ex.neq rfl rfl) rfl ?_
  refine Lw.val (Ex.pickF rfl rfl) rfl ?_
  refine Lw.nil ?_
  refine Pw.thenN (Cw.out ?_)
  refine Cw.cond rfl ?_ ?_
  · intro _
    refine Cw.seq ?_
    refine Cw.region ?_
    refine Lw.callF rfl rfl (alive_c _) ?_
    rintro _ w ⟨rfl, hn⟩
    replace hB := hB.bs hn
    replace h_t := h_t.bs hn
    replace b_t := b_t.bs hn
    replace b_q := b_q.bs hn
    replace h_t1 := h_t1.bs hn
    clear hn
    refine Lw.val (Ex.assign rfl) rfl ?_
    refine Lw.nil ?_
    refine Pw.thenN (Cw.out ?_)
    refine Cw.ret ?_
    refine Pw.thenR ?_
    refine Pw.ret1 rfl rfl ?_
    exact ⟨rfl, hB⟩
  intro g4
  have h0 : t.s.getD 0 default = 1 := by simpa using g4
  clear g1 g2 g3 g4
  have T := (Shapes.ok_iff t.s).1 (tok_ok k_t).1
  have d1 := good_at T.2.1 (k := 1) (by omega)
  have d2 := good_at T.2.1 (k := 2) (by omega)
  have lt : (t.l.length : Int) = t.s.getD 1 default * t.s.getD 2 default := by
    have := Shapes.size_ok (tok_ok k_t).1
    have h5 := (tok_ok k_t).2
    have h6 := Shapes.size_le t.s
    rw [prod3 h3, h0] at this
    omega
  refine Cw.skip ?_
  refine Pw.thenN (Cw.out ?_)
  refine Cw.seq ?_
  refine Cw.region ?_
  refine Lw.valW (Xw.lit (vs := ([1, 1, 1, 1] : List Int).map (Value.int .i64)) st_22 it_3 rfl rfl rfl rfl rfl) rfl ?_
  rintro u1 w ⟨ho, -, hn, -⟩
  have t_u := own_slT ho
  clear ho
  replace hB := hB.bs hn
  replace h_t := h_t.bs hn
  replace b_t := b_t.bs hn
  replace b_q := b_q.bs hn
  replace h_t1 := h_t1.bs hn
  clear hn
  refine Lw.val (Ex.move rfl) rfl ?_
  refine Lw.valW (Xw.lit (vs := ([n] : List (BitVec 32)).map i32) st_23 it_21 rfl rfl rfl rfl rfl) rfl ?_
  rintro u2 w ⟨ho, -, hn, -⟩
  have t_v := own_slT ho
  clear ho
  replace hB := hB.bs hn
  replace h_t := h_t.bs hn
  replace b_t := b_t.bs hn
  replace b_q := b_q.bs hn
  replace h_t1 := h_t1.bs hn
  replace t_u := t_u.bs hn
  clear hn
  refine Lw.callF rfl rfl (of8_c u1 u2 [1, 1, 1, 1] [n] _ t_u t_v) ?_
  rintro _ w ⟨f, rfl, s_f, l_f, h_f, hn⟩
  clear t_v
  replace hB := hB.bs hn
  replace h_t := h_t.bs hn
  replace b_t := b_t.bs hn
  replace b_q := b_q.bs hn
  replace h_t1 := h_t1.bs hn
  replace t_u := t_u.bs hn
  clear hn t_u
  refine Lw.boxed (cs := [f.x, f.y]) it_25 rfl rfl rfl rfl (fun _ => rfl) (h_f.one) ?_
  rintro A_f w eA_f b_f hn -
  replace hB := hB.bs hn
  replace h_t := h_t.bs hn
  replace b_t := b_t.bs hn
  replace b_q := b_q.bs hn
  replace h_t1 := h_t1.bs hn
  replace h_f := h_f.bs hn
  clear hn
  refine Lw.nil ?_
  refine Pw.thenN (Cw.out ?_)
  refine Cw.seq ?_
  refine Cw.region ?_
  refine Lw.val (Ex.ldA (ag_25 _) (sz_25 _) rfl rfl (by assumption)) rfl ?_
  refine Lw.callF rfl rfl (twinTensor_c t w h_t (by omega) (by omega)) ?_
  rintro _ w7 ⟨hn7, mx, my, rfl, hm⟩
  refine Lw.boxed (cs := [mx, my]) it_25 rfl rfl rfl rfl (fun _ => rfl) (hm.one) ?_
  rintro A_m w8 eA_m b_m hn8 zhn8
  have M := mine_new hm eA_m b_m hn8 zhn8 hn7.size
  have hw8 := bt hn7 hn8
  clear hm b_m hn7 hn8 eA_m zhn8
  obtain ⟨mul, hmul⟩ : ∃ l, l = t.l.map (· * n) := ⟨_, rfl⟩
  have n1 : mul.length = t.l.length := by rw [hmul, List.length_map]
  refine Lw.nil ?_
  refine Pw.thenN (Cw.out ?_)
  refine Cw.seq ?_
  refine Cw.seq ?_
  refine Cw.region ?_
  refine Lw.val (Ex.assign rfl) rfl ?_
  refine Lw.nil ?_
  refine Pw.thenN (Cw.out ?_)
  refine Cw.block ?_
  refine Cw.loop (S := Nat) (fun i => [(1, i32 n), (3, .pointer (some ⟨A_t, 0, none⟩)), (5, .pointer (some ⟨A_q, 0, none⟩)), (7, .pointer (some ⟨A_f, 0, none⟩)), (8, .pointer (some ⟨A_m, 0, none⟩)), (9, .int .i64 (i : Int))]) (fun i w' => i ≤ t.l.length ∧ Below w.heap.size w w' ∧ MineT w' w.heap.size w8.heap.size A_m mx my t.s (mul.take i ++ t.l.drop i)) (fun i => t.l.length - i) (0) ⟨rfl, rfl, rfl, rfl, rfl, rfl, trivial⟩ ?_ ?_
  · exact ⟨by omega, hw8, by rw [td_zero]; exact M⟩
  clear M hw8
  rintro i w11 ⟨hi, hw, M⟩
  have b_m := M.box
  have y_m := M.sly
  have e1 := td_len (i := i) n1
  refine Cw.seq ?_
  refine Cw.seq ?_
  refine Cw.region ?_
  refine Lw.val (Ex.move rfl) rfl ?_
  refine Lw.val (Ex.fieldAddr (q := 0) Try.underlying25 rfl (sz_23 _) rfl) rfl ?_
  refine Lw.val (Ex.ldB (ag_23 _) rfl (by assumption) rfl) rfl ?_
  refine Lw.val (Ex.lenS st_23 rfl (by assumption)) rfl ?_
  refine Lw.val (Ex.lss rfl rfl) rfl ?_
  refine Lw.nil ?_
  refine Pw.thenN (Cw.out ?_)
  refine Cw.cond rfl ?_ ?_
  · intro h
    have hi' : i < t.l.length := by simp at h; omega
    refine Cw.skip ?_
    refine Pw.thenN (Cw.out ?_)
    refine Cw.seq ?_
    refine Cw.block ?_
    refine Cw.tail 11 mixed (by kernel_rfl) ?_
    refine Qw.val (fun w1 hq => Ex.fieldAddr (q := 0) Try.underlying25 rfl (sz_23 _) rfl) rfl ?_
    refine Qw.val (fun w1 hq => Ex.ldB (ag_23 _) rfl (Blk.bs (by assumption) hq) rfl) rfl ?_
    refine Qw.val (fun w1 hq => Ex.move rfl) rfl ?_
    refine Qw.val (fun w1 hq => Ex.fieldAddr (q := 0) Try.underlying25 rfl (sz_23 _) rfl) rfl ?_
    refine Qw.val (fun w1 hq => Ex.ldB (ag_23 _) rfl (Blk.bs (by assumption) hq) rfl) rfl ?_
    refine Qw.val (fun w1 hq => Ex.move rfl) rfl ?_
    refine Qw.val (fun w1 hq => Ex.idxT st_23 rfl rfl (Sl.bs (by assumption) hq) _ rfl (by omega)) rfl ?_
    refine Qw.val (fun w1 hq => Ex.ldT (ag_21 _) rfl (Sl.bs (by assumption) hq) (by omega)) rfl ?_
    refine Qw.val (fun w1 hq => Ex.move rfl) rfl ?_
    refine Qw.val (fun w1 hq => Ex.muli32 rfl rfl) rfl ?_
    refine Qw.val (fun w1 hq => Ex.idxT st_23 rfl rfl (Sl.bs (by assumption) hq) _ rfl (by omega)) rfl ?_
    refine Qw.done (fun wt hq => ?_)
    refine Lw.unit ((M.bs hq).st (sz_21 _) rfl rfl (by omega)) ?_
    rintro w12 ⟨M2, hg2, -⟩
    have hw2 := (M.bs hq).below (bt hw hq) (Nat.le_refl _) hg2
    rw [td_get n1 hi', show t.l.getD i default * n = mul.getD i default by rw [hmul, getD_map (f := fun z => z * n) hi'], td_set n1 hi'] at M2
    refine Lw.nil ?_
    refine Pw.blkN ?_
    refine Pw.thenN (Cw.out ?_)
    refine Cw.region ?_
    refine Lw.val (Ex.move rfl) rfl ?_
    refine Lw.val (Ex.addI rfl rfl (by omega)) rfl ?_
    refine Lw.val (Ex.assign rfl) rfl ?_
    refine Lw.nil ?_
    exact Pw.thenN (Pw.next (i + 1) ⟨rfl, rfl, rfl, rfl, rfl, rfl, trivial⟩ (⟨hi', hw2, M2⟩) (by omega))
  intro h
  have hi' : i = t.l.length := by simp at h; omega
  subst hi'
  rw [td_all n1] at M
  obtain ⟨m, hmm⟩ : ∃ m : T4, m = T4.mk mx my t.s mul := ⟨_, rfl⟩
  have h_m : m.at w11 := by rw [hmm]; exact mine_at M
  have b_m : Blk w11 A_m 25 [m.x, m.y] := by rw [hmm]; exact M.box
  have s_m : m.s = t.s := by rw [hmm]
  have l_m : m.l = t.l.map (· * n) := by rw [hmm]; exact hmul
  clear M hmm y_m hmul n1 e1
  replace hB := hB.bs hw
  replace h_t := h_t.bs hw
  replace b_t := b_t.bs hw
  replace b_q := b_q.bs hw
  replace h_t1 := h_t1.bs hw
  replace h_f := h_f.bs hw
  replace b_f := b_f.bs hw
  clear hw
  obtain ⟨o1, o2, o3⟩ := one_same k_t h3 h0 s_f l_f
  refine Cw.exit ?_
  refine Pw.thenE ?_
  refine Pw.thenE ?_
  refine Pw.blkHit ?_
  refine Pw.thenN (Cw.out ?_)
  refine Cw.seq ?_
  refine Cw.region ?_
  refine Lw.val (Ex.ldA (ag_25 _) (sz_25 _) rfl rfl (by assumption)) rfl ?_
  refine Lw.val (Ex.ldA (ag_25 _) (sz_25 _) rfl rfl (by assumption)) rfl ?_
  refine Lw.callF rfl rfl (wof_c t f 1 0 _ h_t h_f) ?_
  rintro r w ⟨hn, x, rfl, h_x, -, hz⟩
  obtain ⟨s_x, l_x, -⟩ := hz o1
  rw [o1]
  rw [o2] at s_x
  rw [o3] at l_x
  replace hB := hB.bs hn
  replace h_t := h_t.bs hn
  replace b_t := b_t.bs hn
  replace b_q := b_q.bs hn
  replace h_t1 := h_t1.bs hn
  replace h_f := h_f.bs hn
  replace b_f := b_f.bs hn
  replace b_m := b_m.bs hn
  replace h_m := h_m.bs hn
  clear hn hz
  refine Lw.val (Ex.move rfl) rfl ?_
  refine Lw.val (Ex.extract (i := 0) rfl rfl) rfl ?_
  refine Lw.val (Ex.extract (i := 1) rfl rfl) rfl ?_
  refine Lw.boxed (cs := [x.x, x.y]) it_25 rfl rfl rfl rfl (fun _ => rfl) (h_x.one) ?_
  rintro A_x w eA_x b_x hn -
  replace hB := hB.bs hn
  replace h_t := h_t.bs hn
  replace b_t := b_t.bs hn
  replace b_q := b_q.bs hn
  replace h_t1 := h_t1.bs hn
  replace h_f := h_f.bs hn
  replace b_f := b_f.bs hn
  replace b_m := b_m.bs hn
  replace h_m := h_m.bs hn
  replace h_x := h_x.bs hn
  clear hn
  refine Lw.val (Ex.assign rfl) rfl ?_
  refine Lw.nil ?_
  refine Pw.thenN (Cw.out ?_)
  refine Cw.seq ?_
  refine Cw.seq ?_
  refine Cw.region ?_
  refine Lw.val (Ex.move rfl) rfl ?_
  refine Lw.val (Ex.neq rfl rfl) rfl ?_
  refine Lw.val (Ex.move rfl) rfl ?_
  refine Lw.know 81 (v' := .bool false) rfl (congrArg Value.bool (rfl)) ?_
  refine Lw.take (dj := 81) rfl rfl ?_
  refine Lw.val (Ex.ldA (ag_25 _) (sz_25 _) rfl rfl (by assumption)) rfl ?_
  refine Lw.take (dj := 81) rfl rfl ?_
  refine Lw.val (Ex.ldA (ag_25 _) (sz_25 _) rfl rfl (by assumption)) rfl ?_
  refine Lw.take (dj := 81) rfl rfl ?_
  refine Lw.callF rfl rfl (same_c _ _ _ _ _ _ _ _ _ h_x.1 h_x.2 h_m.1 h_m.2) ?_
  rintro _ w ⟨rfl, hn⟩
  replace hB := hB.bs hn
  replace h_t := h_t.bs hn
  replace b_t := b_t.bs hn
  replace b_q := b_q.bs hn
  replace h_t1 := h_t1.bs hn
  replace h_f := h_f.bs hn
  replace b_f := b_f.bs hn
  replace b_m := b_m.bs hn
  replace h_m := h_m.bs hn
  replace h_x := h_x.bs hn
  replace b_x := b_x.bs hn
  clear hn
  refine Lw.take (dj := 81) rfl rfl ?_
  refine Lw.val (Ex.not rfl) rfl ?_
  refine Lw.val (Ex.pickF rfl rfl) rfl ?_
  refine Lw.nil ?_
  refine Pw.thenN (Cw.out ?_)
  refine Cw.condB rfl false (by rw [decide_eq_true (s_x.trans s_m.symm), decide_eq_true (l_x.trans l_m.symm)]; rfl) ?_
  refine Cw.skip ?_
  refine Pw.thenN (Cw.out ?_)
  refine Cw.seq ?_
  refine Cw.region ?_
  refine Lw.val (Ex.idxB un_26 sz_5 rfl rfl 1 rfl (by decide)) rfl ?_
  refine Lw.val (Ex.ldB (ag_5 _) rfl (by assumption) rfl) rfl ?_
  refine Lw.val (Ex.rem8 (c := 9) rfl rfl (by decide)) rfl ?_
  refine Lw.val ((Ex.convI64 us_5 un_3 rfl (by omega)).as (congrArg (fun m : Nat => Value.int .i64 (m : Int)) hp.symm)) rfl ?_
  refine Lw.val (Ex.assign rfl) rfl ?_
  refine Lw.nil ?_
  refine Pw.thenN (Cw.out ?_)
  refine Cw.seq ?_
  refine Cw.region ?_
  refine Lw.val (Ex.idxB un_26 sz_5 rfl rfl 0 rfl (by decide)) rfl ?_
  refine Lw.val (Ex.ldB (ag_5 _) rfl (by assumption) rfl) rfl ?_
  refine Lw.val (Ex.rem8 (c := 8) rfl rfl (by decide)) rfl ?_
  refine Lw.val ((Ex.convI64 us_5 un_3 rfl (by omega)).as (congrArg (fun m : Nat => Value.int .i64 (m : Int)) hq.symm)) rfl ?_
  refine Lw.val ((Ex.addI rfl rfl (by omega)).as (congrArg (Value.int .i64) hQ.symm)) rfl ?_
  refine Lw.val (Ex.assign rfl) rfl ?_
  refine Lw.nil ?_
  refine Pw.thenN (Cw.out ?_)
  refine Cw.seq ?_
  refine Cw.region ?_
  refine Lw.val (Ex.ldA (ag_25 _) (sz_25 _) rfl rfl (by assumption)) rfl ?_
  refine Lw.val (Ex.ldA (ag_25 _) (sz_25 _) rfl rfl (by assumption)) rfl ?_
  refine Lw.val (Ex.move rfl) rfl ?_
  refine Lw.val (Ex.move rfl) rfl ?_
  refine Lw.callF rfl rfl (wof_c t f Q (p : Int) _ h_t h_f) ?_
  rintro r w ⟨hn, y, rfl, h_y, -, hz⟩
  replace hB := hB.bs hn
  replace h_t := h_t.bs hn
  replace b_t := b_t.bs hn
  replace b_q := b_q.bs hn
  replace h_t1 := h_t1.bs hn
  replace h_f := h_f.bs hn
  replace b_f := b_f.bs hn
  replace b_m := b_m.bs hn
  replace h_m := h_m.bs hn
  replace h_x := h_x.bs hn
  replace b_x := b_x.bs hn
  clear hn
  refine Lw.val (Ex.move rfl) rfl ?_
  refine Lw.val (Ex.extract (i := 0) rfl rfl) rfl ?_
  refine Lw.val (Ex.extract (i := 1) rfl rfl) rfl ?_
  refine Lw.boxed (cs := [y.x, y.y]) it_25 rfl rfl rfl rfl (fun _ => rfl) (h_y.one) ?_
  rintro A_y w eA_y b_y hn -
  replace hB := hB.bs hn
  replace h_t := h_t.bs hn
  replace b_t := b_t.bs hn
  replace b_q := b_q.bs hn
  replace h_t1 := h_t1.bs hn
  replace h_f := h_f.bs hn
  replace b_f := b_f.bs hn
  replace b_m := b_m.bs hn
  replace h_m := h_m.bs hn
  replace h_x := h_x.bs hn
  replace b_x := b_x.bs hn
  replace h_y := h_y.bs hn
  clear hn
  refine Lw.val (Ex.assign rfl) rfl ?_
  refine Lw.nil ?_
  refine Pw.thenN (Cw.out ?_)
  refine Cw.seq ?_
  refine Cw.seq ?_
  refine Cw.region ?_
  refine Lw.val (Ex.move rfl) rfl ?_
  refine Lw.val (Ex.neq rfl rfl) rfl ?_
  refine Lw.nil ?_
  refine Pw.thenN (Cw.out ?_)
  have eE := one_E k_t s_f l_f (q := Q) (p := (p : Int)) (by omega) (by omega)
  obtain ⟨E, hE⟩ : ∃ E, E = wofE t f Q (p : Int) := ⟨_, rfl⟩
  rw [← hE] at eE hz ⊢
  refine Cw.cond rfl ?_ ?_
  · intro g
    refine Cw.seq ?_
    refine Cw.region ?_
    refine Lw.val (Ex.move rfl) rfl ?_
    refine Lw.val (Ex.eql rfl rfl) rfl ?_
    refine Lw.val (Ex.assign rfl) rfl ?_
    refine Lw.nil ?_
    refine Pw.thenN (Cw.out ?_)
    refine Cw.ret ?_
    refine Pw.thenR ?_
    refine Pw.ret1 rfl rfl ?_
    have g : E ≠ 0 := by simpa using g
    exact ⟨congrArg Value.bool (decide_eq_true (eE.resolve_left g)), hB⟩
  intro g
  have e0 : E = 0 := by simpa using g
  obtain ⟨s_y, l_y, -⟩ := hz e0
  rw [hE] at e0
  clear hz eE g hE
  obtain ⟨k1, k2, k3⟩ := wofE_ok e0
  have V := win_ok k1 k2 k3
  have lS := V.lS
  have s1 := good_at V.gS (k := 1) (by omega)
  have s2 := good_at V.gS (k := 2) (by omega)
  rw [← s_y] at lS s1 s2
  have ln_y : y.l.length = (Shapes.size y.s).toNat := by rw [l_y, s_y]; exact wofL_len _ _ _ _
  have szy := Shapes.size_le y.s
  have h_y1 := h_y.1
  have h_y2 := h_y.2
  have h_m2 := h_m.2
  have ln_m : m.l.length = t.l.length := by rw [l_m, List.length_map]
  refine Cw.skip ?_
  refine Pw.thenN (Cw.out ?_)
  refine Cw.seq ?_
  refine Cw.region ?_
  refine Lw.val (Ex.fieldAddr (q := 0) Try.underlying25 rfl (sz_22 _) rfl) rfl ?_
  refine Lw.val (Ex.ldB (ag_22 _) rfl (by assumption) rfl) rfl ?_
  refine Lw.val (Ex.idxT st_22 rfl rfl (by assumption) 1 rfl (by omega)) rfl ?_
  refine Lw.val (Ex.ldT (ag_3 _) rfl (by assumption) (by omega)) rfl ?_
  refine Lw.val (Ex.assign rfl) rfl ?_
  refine Lw.nil ?_
  refine Pw.thenN (Cw.out ?_)
  refine Cw.seq ?_
  refine Cw.region ?_
  refine Lw.val (Ex.fieldAddr (q := 0) Try.underlying25 rfl (sz_22 _) rfl) rfl ?_
  refine Lw.val (Ex.ldB (ag_22 _) rfl (by assumption) rfl) rfl ?_
  refine Lw.val (Ex.idxT st_22 rfl rfl (by assumption) 2 rfl (by omega)) rfl ?_
  refine Lw.val (Ex.ldT (ag_3 _) rfl (by assumption) (by omega)) rfl ?_
  refine Lw.val (Ex.assign rfl) rfl ?_
  refine Lw.nil ?_
  refine Pw.thenN (Cw.out ?_)
  refine Cw.seq ?_
  refine Cw.seq ?_
  refine Cw.region ?_
  refine Lw.val (Ex.assign rfl) rfl ?_
  refine Lw.nil ?_
  refine Pw.thenN (Cw.out ?_)
  refine Cw.block ?_
  refine Cw.loop (S := Nat) (fun i => [(3, .pointer (some ⟨A_t, 0, none⟩)), (8, .pointer (some ⟨A_m, 0, none⟩)), (12, .int .i64 (p : Int)), (13, .int .i64 Q), (14, .pointer (some ⟨A_y, 0, none⟩)), (16, .int .i64 (t.s.getD 1 default)), (17, .int .i64 (t.s.getD 2 default)), (18, .int .i64 (i : Int))]) (fun i w' => i ≤ y.l.length ∧ w' = w) (fun i => y.l.length - i) (0) ⟨rfl, rfl, rfl, rfl, rfl, rfl, rfl, rfl, trivial⟩ ?_ ?_
  · exact ⟨Nat.zero_le _, rfl⟩
  rintro i w2 ⟨hi, rfl⟩
  refine Cw.seq ?_
  refine Cw.seq ?_
  refine Cw.region ?_
  refine Lw.val (Ex.move rfl) rfl ?_
  refine Lw.val (Ex.fieldAddr (q := 0) Try.underlying25 rfl (sz_23 _) rfl) rfl ?_
  refine Lw.val (Ex.ldB (ag_23 _) rfl (by assumption) rfl) rfl ?_
  refine Lw.val (Ex.lenS st_23 rfl (by assumption)) rfl ?_
  refine Lw.val (Ex.lss rfl rfl) rfl ?_
  refine Lw.nil ?_
  refine Pw.thenN (Cw.out ?_)
  refine Cw.cond rfl ?_ ?_
  · intro h
    have hi' : i < y.l.length := by simp at h; omega
    obtain ⟨r, hr⟩ : ∃ r, (i : Int) / y.s.getD 2 default * Q - (p : Int) = r := ⟨_, rfl⟩
    obtain ⟨c, hc⟩ : ∃ r, (i : Int) % y.s.getD 2 default * Q - (p : Int) = r := ⟨_, rfl⟩
    have key : y.l.getD i default = if r < 0 ∨ t.s.getD 1 default ≤ r ∨ c < 0 ∨ t.s.getD 2 default ≤ c then 0#32 else t.l.getD (r * t.s.getD 2 default + c).toNat default * n := by
      have hr' := hr
      have hc' := hc
      have hi2 := hi'
      rw [ln_y] at hi2
      rw [s_y] at hr' hc' hi2
      rw [l_y]
      exact one_at s_f l_f e0 hi2 hr' hc'
    have b1 : 0 ≤ (i : Int) / y.s.getD 2 default ∧ (i : Int) / y.s.getD 2 default ≤ 4096 := ⟨Int.ediv_nonneg (by omega) (by omega), by have := Int.ediv_le_self (y.s.getD 2 default) (show 0 ≤ (i : Int) by omega); omega⟩
    have b2 : 0 ≤ (i : Int) % y.s.getD 2 default ∧ (i : Int) % y.s.getD 2 default < 64 := ⟨Int.emod_nonneg _ (by omega), by have := Int.emod_lt_of_pos (i : Int) (show 0 < y.s.getD 2 default by omega); omega⟩
    have m1 : 0 ≤ (i : Int) / y.s.getD 2 default * Q ∧ (i : Int) / y.s.getD 2 default * Q ≤ 4096 * 8 := ⟨Int.mul_nonneg b1.1 (by omega), Int.mul_le_mul b1.2 (by omega) (by omega) (by decide)⟩
    have m2 : 0 ≤ (i : Int) % y.s.getD 2 default * Q ∧ (i : Int) % y.s.getD 2 default * Q ≤ 64 * 8 := ⟨Int.mul_nonneg b2.1 (by omega), Int.mul_le_mul (by omega) (by omega) (by omega) (by decide)⟩
    refine Cw.skip ?_
    refine Pw.thenN (Cw.out ?_)
    refine Cw.seq ?_
    refine Cw.block ?_
    refine Cw.seq ?_
    refine Cw.region ?_
    refine Lw.val (Ex.move rfl) rfl ?_
    refine Lw.val (Ex.fieldAddr (q := 0) Try.underlying25 rfl (sz_22 _) rfl) rfl ?_
    refine Lw.val (Ex.ldB (ag_22 _) rfl (by assumption) rfl) rfl ?_
    refine Lw.val (Ex.idxT st_22 rfl rfl (by assumption) 2 rfl (by omega)) rfl ?_
    refine Lw.val (Ex.ldT (ag_3 _) rfl (by assumption) (by omega)) rfl ?_
    refine Lw.val (Ex.quoI rfl rfl (by omega) (by omega)) rfl ?_
    refine Lw.val (Ex.move rfl) rfl ?_
    refine Lw.val (Ex.mulI rfl rfl (by omega)) rfl ?_
    refine Lw.val (Ex.move rfl) rfl ?_
    refine Lw.val ((Ex.subI rfl rfl (by omega)).as (congrArg (Value.int .i64) hr)) rfl ?_
    refine Lw.val (Ex.assign rfl) rfl ?_
    refine Lw.nil ?_
    refine Pw.thenN (Cw.out ?_)
    refine Cw.seq ?_
    refine Cw.region ?_
    refine Lw.val (Ex.move rfl) rfl ?_
    refine Lw.val (Ex.fieldAddr (q := 0) Try.underlying25 rfl (sz_22 _) rfl) rfl ?_
    refine Lw.val (Ex.ldB (ag_22 _) rfl (by assumption) rfl) rfl ?_
    refine Lw.val (Ex.idxT st_22 rfl rfl (by assumption) 2 rfl (by omega)) rfl ?_
    refine Lw.val (Ex.ldT (ag_3 _) rfl (by assumption) (by omega)) rfl ?_
    refine Lw.val (Ex.remI rfl rfl (by omega) (by omega)) rfl ?_
    refine Lw.val (Ex.move rfl) rfl ?_
    refine Lw.val (Ex.mulI rfl rfl (by omega)) rfl ?_
    refine Lw.val (Ex.move rfl) rfl ?_
    refine Lw.val ((Ex.subI rfl rfl (by omega)).as (congrArg (Value.int .i64) hc)) rfl ?_
    refine Lw.val (Ex.assign rfl) rfl ?_
    refine Lw.nil ?_
    refine Pw.thenN (Cw.out ?_)
    refine Cw.seq ?_
    refine Cw.region ?_
    refine Lw.val (Ex.assign (show _ = some (i32 (0#32)) from rfl)) rfl ?_
    refine Lw.nil ?_
    refine Pw.thenN (Cw.out ?_)
    refine Cw.seq ?_
    refine Cw.seq ?_
    refine Cw.region ?_
    refine Lw.val (Ex.move rfl) rfl ?_
    refine Lw.val (Ex.geq rfl rfl) rfl ?_
    refine Lw.val (Ex.move rfl) rfl ?_
    refine Lw.part 145 rfl ?_ ?_
    · intro ga
      refine Lw.take (dj := 145) rfl rfl ?_
      refine Lw.val (Ex.move rfl) rfl ?_
      refine Lw.take (dj := 145) rfl rfl ?_
      refine Lw.val (Ex.move rfl) rfl ?_
      refine Lw.take (dj := 145) rfl rfl ?_
      refine Lw.val (Ex.lss rfl rfl) rfl ?_
      refine Lw.val (Ex.pickT rfl rfl) rfl ?_
      refine Lw.val (Ex.move rfl) rfl ?_
      refine Lw.part 150 rfl ?_ ?_
      · intro gb
        refine Lw.take (dj := 150) rfl rfl ?_
        refine Lw.val (Ex.move rfl) rfl ?_
        refine Lw.take (dj := 150) rfl rfl ?_
        refine Lw.val (Ex.geq rfl rfl) rfl ?_
        refine Lw.val (Ex.pickT rfl rfl) rfl ?_
        refine Lw.val (Ex.move rfl) rfl ?_
        refine Lw.part 154 rfl ?_ ?_
        · intro gc
          refine Lw.take (dj := 154) rfl rfl ?_
          refine Lw.val (Ex.move rfl) rfl ?_
          refine Lw.take (dj := 154) rfl rfl ?_
          refine Lw.val (Ex.move rfl) rfl ?_
          refine Lw.take (dj := 154) rfl rfl ?_
          refine Lw.val (Ex.lss rfl rfl) rfl ?_
          refine Lw.val (Ex.pickT rfl rfl) rfl ?_
          refine Lw.nil ?_
          refine Pw.thenN (Cw.out ?_)
          refine Cw.cond rfl ?_ ?_
          · intro gd
            have g1 : 0 ≤ r := by simpa using ga
            have g2 : r < t.s.getD 1 default := by simpa using gb
            have g3 : 0 ≤ c := by simpa using gc
            have g4 : c < t.s.getD 2 default := by simpa using gd
            have m3 : 0 ≤ r * t.s.getD 2 default := Int.mul_nonneg g1 (by omega)
            have m4 : (r + 1) * t.s.getD 2 default ≤ t.s.getD 1 default * t.s.getD 2 default := Int.mul_le_mul_of_nonneg_right (by omega) (by omega)
            rw [Int.add_mul, Int.one_mul] at m4
            obtain ⟨k, hk⟩ : ∃ k : Nat, r * t.s.getD 2 default + c = (k : Int) := ⟨_, (Int.toNat_of_nonneg (by omega)).symm⟩
            have hkl : k < m.l.length := by omega
            have hkt : k < t.l.length := by omega
            refine Cw.region ?_
            refine Lw.val (Ex.fieldAddr (q := 0) Try.underlying25 rfl (sz_23 _) rfl) rfl ?_
            refine Lw.val (Ex.ldB (ag_23 _) rfl (by assumption) rfl) rfl ?_
            refine Lw.val (Ex.move rfl) rfl ?_
            refine Lw.val (Ex.move rfl) rfl ?_
            refine Lw.val (Ex.mulI rfl rfl (by omega)) rfl ?_
            refine Lw.val (Ex.move rfl) rfl ?_
            refine Lw.val (Ex.addI rfl rfl (by omega)) rfl ?_
            refine Lw.val (Ex.idxT st_23 rfl rfl h_m2 k hk hkl) rfl ?_
            refine Lw.val (Ex.ldT (ag_21 _) rfl (by assumption) (by omega)) rfl ?_
            refine Lw.val (Ex.assign rfl) rfl ?_
            refine Lw.nil ?_
            refine Pw.thenN (Cw.out ?_)
            refine Cw.seq ?_
            refine Cw.region ?_
            refine Lw.val (Ex.fieldAddr (q := 0) Try.underlying25 rfl (sz_23 _) rfl) rfl ?_
            refine Lw.val (Ex.ldB (ag_23 _) rfl (by assumption) rfl) rfl ?_
            refine Lw.val (Ex.move rfl) rfl ?_
            refine Lw.val (Ex.idxT st_23 rfl rfl (by assumption) _ rfl (by omega)) rfl ?_
            refine Lw.val (Ex.ldT (ag_21 _) rfl (by assumption) (by omega)) rfl ?_
            refine Lw.val (Ex.move rfl) rfl ?_
            refine Lw.val (Ex.neqi32 rfl rfl) rfl ?_
            refine Lw.nil ?_
            refine Pw.thenN (Cw.out ?_)
            refine Cw.condB rfl false (by rw [key, if_neg (by omega), hk, Int.toNat_natCast, l_m, getD_map (f := fun z => z * n) hkt]; simp) ?_
            refine Cw.skip ?_
            refine Pw.blkN ?_
            refine Pw.thenN (Cw.out ?_)
            refine Cw.region ?_
            refine Lw.val (Ex.move rfl) rfl ?_
            refine Lw.val (Ex.addI rfl rfl (by omega)) rfl ?_
            refine Lw.val (Ex.assign rfl) rfl ?_
            refine Lw.nil ?_
            exact Pw.thenN (Pw.next (i + 1) ⟨rfl, rfl, rfl, rfl, rfl, rfl, rfl, rfl, trivial⟩ (⟨hi', rfl⟩) (by omega))
          · intro gd
            refine Cw.skip ?_
            refine Pw.thenN (Cw.out ?_)
            refine Cw.seq ?_
            refine Cw.region ?_
            refine Lw.val (Ex.fieldAddr (q := 0) Try.underlying25 rfl (sz_23 _) rfl) rfl ?_
            refine Lw.val (Ex.ldB (ag_23 _) rfl (by assumption) rfl) rfl ?_
            refine Lw.val (Ex.move rfl) rfl ?_
            refine Lw.val (Ex.idxT st_23 rfl rfl (by assumption) _ rfl (by omega)) rfl ?_
            refine Lw.val (Ex.ldT (ag_21 _) rfl (by assumption) (by omega)) rfl ?_
            refine Lw.val (Ex.move rfl) rfl ?_
            refine Lw.val (Ex.neqi32 rfl rfl) rfl ?_
            refine Lw.nil ?_
            refine Pw.thenN (Cw.out ?_)
            refine Cw.condB rfl false (by rw [key, if_pos (by have g := of_decide_eq_false gd; omega)]; rfl) ?_
            refine Cw.skip ?_
            refine Pw.blkN ?_
            refine Pw.thenN (Cw.out ?_)
            refine Cw.region ?_
            refine Lw.val (Ex.move rfl) rfl ?_
            refine Lw.val (Ex.addI rfl rfl (by omega)) rfl ?_
            refine Lw.val (Ex.assign rfl) rfl ?_
            refine Lw.nil ?_
            exact Pw.thenN (Pw.next (i + 1) ⟨rfl, rfl, rfl, rfl, rfl, rfl, rfl, rfl, trivial⟩ (⟨hi', rfl⟩) (by omega))
        · intro gc
          refine Lw.pass (dj := 154) rfl rfl rfl rfl ?_
          refine Lw.pass (dj := 154) rfl rfl rfl rfl ?_
          refine Lw.pass (dj := 154) rfl rfl rfl rfl ?_
          refine Lw.val (Ex.pickF rfl rfl) rfl ?_
          refine Lw.nil ?_
          refine Pw.thenN (Cw.out ?_)
          refine Cw.condF rfl ?_
          refine Cw.skip ?_
          refine Pw.thenN (Cw.out ?_)
          refine Cw.seq ?_
          refine Cw.region ?_
          refine Lw.val (Ex.fieldAddr (q := 0) Try.underlying25 rfl (sz_23 _) rfl) rfl ?_
          refine Lw.val (Ex.ldB (ag_23 _) rfl (by assumption) rfl) rfl ?_
          refine Lw.val (Ex.move rfl) rfl ?_
          refine Lw.val (Ex.idxT st_23 rfl rfl (by assumption) _ rfl (by omega)) rfl ?_
          refine Lw.val (Ex.ldT (ag_21 _) rfl (by assumption) (by omega)) rfl ?_
          refine Lw.val (Ex.move rfl) rfl ?_
          refine Lw.val (Ex.neqi32 rfl rfl) rfl ?_
          refine Lw.nil ?_
          refine Pw.thenN (Cw.out ?_)
          refine Cw.condB rfl false (by rw [key, if_pos (by have g := of_decide_eq_false gc; omega)]; rfl) ?_
          refine Cw.skip ?_
          refine Pw.blkN ?_
          refine Pw.thenN (Cw.out ?_)
          refine Cw.region ?_
          refine Lw.val (Ex.move rfl) rfl ?_
          refine Lw.val (Ex.addI rfl rfl (by omega)) rfl ?_
          refine Lw.val (Ex.assign rfl) rfl ?_
          refine Lw.nil ?_
          exact Pw.thenN (Pw.next (i + 1) ⟨rfl, rfl, rfl, rfl, rfl, rfl, rfl, rfl, trivial⟩ (⟨hi', rfl⟩) (by omega))
      · intro gb
        refine Lw.pass (dj := 150) rfl rfl rfl rfl ?_
        refine Lw.pass (dj := 150) rfl rfl rfl rfl ?_
        refine Lw.val (Ex.pickF rfl rfl) rfl ?_
        refine Lw.val (Ex.move rfl) rfl ?_
        refine Lw.pass (dj := 154) rfl rfl rfl rfl ?_
        refine Lw.pass (dj := 154) rfl rfl rfl rfl ?_
        refine Lw.pass (dj := 154) rfl rfl rfl rfl ?_
        refine Lw.val (Ex.pickF rfl rfl) rfl ?_
        refine Lw.nil ?_
        refine Pw.thenN (Cw.out ?_)
        refine Cw.condF rfl ?_
        refine Cw.skip ?_
        refine Pw.thenN (Cw.out ?_)
        refine Cw.seq ?_
        refine Cw.region ?_
        refine Lw.val (Ex.fieldAddr (q := 0) Try.underlying25 rfl (sz_23 _) rfl) rfl ?_
        refine Lw.val (Ex.ldB (ag_23 _) rfl (by assumption) rfl) rfl ?_
        refine Lw.val (Ex.move rfl) rfl ?_
        refine Lw.val (Ex.idxT st_23 rfl rfl (by assumption) _ rfl (by omega)) rfl ?_
        refine Lw.val (Ex.ldT (ag_21 _) rfl (by assumption) (by omega)) rfl ?_
        refine Lw.val (Ex.move rfl) rfl ?_
        refine Lw.val (Ex.neqi32 rfl rfl) rfl ?_
        refine Lw.nil ?_
        refine Pw.thenN (Cw.out ?_)
        refine Cw.condB rfl false (by rw [key, if_pos (by have g := of_decide_eq_false gb; omega)]; rfl) ?_
        refine Cw.skip ?_
        refine Pw.blkN ?_
        refine Pw.thenN (Cw.out ?_)
        refine Cw.region ?_
        refine Lw.val (Ex.move rfl) rfl ?_
        refine Lw.val (Ex.addI rfl rfl (by omega)) rfl ?_
        refine Lw.val (Ex.assign rfl) rfl ?_
        refine Lw.nil ?_
        exact Pw.thenN (Pw.next (i + 1) ⟨rfl, rfl, rfl, rfl, rfl, rfl, rfl, rfl, trivial⟩ (⟨hi', rfl⟩) (by omega))
    · intro ga
      refine Lw.pass (dj := 145) rfl rfl rfl rfl ?_
      refine Lw.pass (dj := 145) rfl rfl rfl rfl ?_
      refine Lw.pass (dj := 145) rfl rfl rfl rfl ?_
      refine Lw.val (Ex.pickF rfl rfl) rfl ?_
      refine Lw.val (Ex.move rfl) rfl ?_
      refine Lw.pass (dj := 150) rfl rfl rfl rfl ?_
      refine Lw.pass (dj := 150) rfl rfl rfl rfl ?_
      refine Lw.val (Ex.pickF rfl rfl) rfl ?_
      refine Lw.val (Ex.move rfl) rfl ?_
      refine Lw.pass (dj := 154) rfl rfl rfl rfl ?_
      refine Lw.pass (dj := 154) rfl rfl rfl rfl ?_
      refine Lw.pass (dj := 154) rfl rfl rfl rfl ?_
      refine Lw.val (Ex.pickF rfl rfl) rfl ?_
      refine Lw.nil ?_
      refine Pw.thenN (Cw.out ?_)
      refine Cw.condF rfl ?_
      refine Cw.skip ?_
      refine Pw.thenN (Cw.out ?_)
      refine Cw.seq ?_
      refine Cw.region ?_
      refine Lw.val (Ex.fieldAddr (q := 0) Try.underlying25 rfl (sz_23 _) rfl) rfl ?_
      refine Lw.val (Ex.ldB (ag_23 _) rfl (by assumption) rfl) rfl ?_
      refine Lw.val (Ex.move rfl) rfl ?_
      refine Lw.val (Ex.idxT st_23 rfl rfl (by assumption) _ rfl (by omega)) rfl ?_
      refine Lw.val (Ex.ldT (ag_21 _) rfl (by assumption) (by omega)) rfl ?_
      refine Lw.val (Ex.move rfl) rfl ?_
      refine Lw.val (Ex.neqi32 rfl rfl) rfl ?_
      refine Lw.nil ?_
      refine Pw.thenN (Cw.out ?_)
      refine Cw.condB rfl false (by rw [key, if_pos (by have g := of_decide_eq_false ga; omega)]; rfl) ?_
      refine Cw.skip ?_
      refine Pw.blkN ?_
      refine Pw.thenN (Cw.out ?_)
      refine Cw.region ?_
      refine Lw.val (Ex.move rfl) rfl ?_
      refine Lw.val (Ex.addI rfl rfl (by omega)) rfl ?_
      refine Lw.val (Ex.assign rfl) rfl ?_
      refine Lw.nil ?_
      exact Pw.thenN (Pw.next (i + 1) ⟨rfl, rfl, rfl, rfl, rfl, rfl, rfl, rfl, trivial⟩ (⟨hi', rfl⟩) (by omega))
  intro h
  refine Cw.exit ?_
  refine Pw.thenE ?_
  refine Pw.thenE ?_
  refine Pw.blkHit ?_
  refine Pw.thenN (Cw.out ?_)
  refine Cw.seq ?_
  have e_1 : y.s.getD 1 default = (t.s.getD 1 default + 2 * (p : Int) - 1) / Q + 1 := by
    rw [s_y, one_S s_f]
    show slid (t.s.getD 1 default + 2 * (p : Int)) 1 Q = _
    unfold slid; rw [if_neg (by omega)]
  have e_2 : y.s.getD 2 default = (t.s.getD 2 default + 2 * (p : Int) - 1) / Q + 1 := by
    rw [s_y, one_S s_f]
    show slid (t.s.getD 2 default + 2 * (p : Int)) 1 Q = _
    unfold slid; rw [if_neg (by omega)]
  have z1 : 0 ≤ (t.s.getD 1 default + 2 * (p : Int) - 1) / Q ∧ (t.s.getD 1 default + 2 * (p : Int) - 1) / Q ≤ 64 := ⟨Int.ediv_nonneg (by omega) (by omega), by omega⟩
  have z2 : 0 ≤ (t.s.getD 2 default + 2 * (p : Int) - 1) / Q ∧ (t.s.getD 2 default + 2 * (p : Int) - 1) / Q ≤ 64 := ⟨Int.ediv_nonneg (by omega) (by omega), by omega⟩
  refine Cw.quiet mixed (by kernel_rfl) ?_
  refine Qw.val (fun w1 hq => Ex.fieldAddr (q := 0) Try.underlying25 rfl (sz_22 _) rfl) rfl ?_
  refine Qw.val (fun w1 hq => Ex.ldB (ag_22 _) rfl (Blk.bs (by assumption) hq) rfl) rfl ?_
  refine Qw.val (fun w1 hq => Ex.idxT st_22 rfl rfl (Sl.bs (by assumption) hq) 1 rfl (by omega)) rfl ?_
  refine Qw.val (fun w1 hq => Ex.ldT (ag_3 _) rfl (Sl.bs (by assumption) hq) (by omega)) rfl ?_
  refine Qw.val (fun w1 hq => Ex.move rfl) rfl ?_
  refine Qw.val (fun w1 hq => Ex.move rfl) rfl ?_
  refine Qw.val (fun w1 hq => Ex.mulI rfl rfl (by omega)) rfl ?_
  refine Qw.val (fun w1 hq => Ex.addI rfl rfl (by omega)) rfl ?_
  refine Qw.val (fun w1 hq => Ex.subI rfl rfl (by omega)) rfl ?_
  refine Qw.val (fun w1 hq => Ex.move rfl) rfl ?_
  refine Qw.val (fun w1 hq => Ex.quoI rfl rfl (by omega) (by omega)) rfl ?_
  refine Qw.val (fun w1 hq => Ex.addI rfl rfl (by omega)) rfl ?_
  refine Qw.val (fun w1 hq => Ex.eql rfl rfl) rfl ?_
  refine Qw.val (fun w1 hq => Ex.move rfl) rfl ?_
  refine Qw.know 188 (v' := .bool true) rfl (congrArg Value.bool (decide_eq_true e_1)) ?_
  refine Qw.take (dj := 188) rfl rfl ?_
  refine Qw.val (fun w1 hq => Ex.fieldAddr (q := 0) Try.underlying25 rfl (sz_22 _) rfl) rfl ?_
  refine Qw.take (dj := 188) rfl rfl ?_
  refine Qw.val (fun w1 hq => Ex.ldB (ag_22 _) rfl (Blk.bs (by assumption) hq) rfl) rfl ?_
  refine Qw.take (dj := 188) rfl rfl ?_
  refine Qw.val (fun w1 hq => Ex.idxT st_22 rfl rfl (Sl.bs (by assumption) hq) 2 rfl (by omega)) rfl ?_
  refine Qw.take (dj := 188) rfl rfl ?_
  refine Qw.val (fun w1 hq => Ex.ldT (ag_3 _) rfl (Sl.bs (by assumption) hq) (by omega)) rfl ?_
  refine Qw.take (dj := 188) rfl rfl ?_
  refine Qw.val (fun w1 hq => Ex.move rfl) rfl ?_
  refine Qw.take (dj := 188) rfl rfl ?_
  refine Qw.val (fun w1 hq => Ex.move rfl) rfl ?_
  refine Qw.take (dj := 188) rfl rfl ?_
  refine Qw.val (fun w1 hq => Ex.mulI rfl rfl (by omega)) rfl ?_
  refine Qw.take (dj := 188) rfl rfl ?_
  refine Qw.val (fun w1 hq => Ex.addI rfl rfl (by omega)) rfl ?_
  refine Qw.take (dj := 188) rfl rfl ?_
  refine Qw.val (fun w1 hq => Ex.subI rfl rfl (by omega)) rfl ?_
  refine Qw.take (dj := 188) rfl rfl ?_
  refine Qw.val (fun w1 hq => Ex.move rfl) rfl ?_
  refine Qw.take (dj := 188) rfl rfl ?_
  refine Qw.val (fun w1 hq => Ex.quoI rfl rfl (by omega) (by omega)) rfl ?_
  refine Qw.take (dj := 188) rfl rfl ?_
  refine Qw.val (fun w1 hq => Ex.addI rfl rfl (by omega)) rfl ?_
  refine Qw.take (dj := 188) rfl rfl ?_
  refine Qw.val (fun w1 hq => Ex.eql rfl rfl) rfl ?_
  refine Qw.val (fun w1 hq => Ex.pickT rfl rfl) rfl ?_
  refine Qw.val (fun w1 hq => Ex.assign rfl) rfl ?_
  refine Qw.nil (fun w3 hq => ?_)
  refine Pw.thenN (Cw.out ?_)
  refine Cw.ret ?_
  refine Pw.ret1 rfl rfl ?_
  exact ⟨congrArg Value.bool (decide_eq_true e_2), bt hB hq⟩

set_option maxRecDepth 100000 in
set_option maxHeartbeats 2000000 in
theorem windowsOne_lifted (os : Os) (started : os.Started) (H : Type) (enc : TypeId × Value → H) :
    ReturnsInHanded {} Try.checked os 3 .any (Rows.windowsOneSpec.pre6 enc Try.prog Try.f3 Rows.windowsOneRow.domain false) (Rows.windowsOneSpec.post enc Try.prog Try.f3 false true false false) := by
  refine returnsInHanded_of_change_sized (C := Try.checked) own started (by kernel_rfl) Try.func3
    (ChangeSpec.witness6 (enc := enc) (C := Try.checked) false ⟨#[], #[.agg #[.slice none 0 0, .slice none 0 0], .int .i32 0, .agg #[.int .u8 0, .int .u8 0]], []⟩ 8 (by kernel_rfl) (by kernel_rfl) (by kernel_rfl) (by kernel_rfl)) ?_
  intro W base args ds gs before hval0 hW hcnd hsz0 _
  have hval : ∀ (j : Nat) t v, Try.f3.params[j]? = some t → args[j]? = some v → Value.okWide Try.prog W .any base t v := hval0
  have hW' := hW
  obtain ⟨p, q, hA0, hV, rfl, hfz, hnd⟩ := hW
  have hA : DataW.TrodAll enc Try.prog W 0 (fun _ => true) true Try.f3.params.toList args.toList ds p := hA0
  have hsz : (DataW.weightsEach Try.prog (Try.f3.params.toList ++ Rows.windowsOneSpec.plain.varTypes Try.prog) (ds ++ gs)).all (· ≤ reachBytes) = true := hsz0
  rw [Try.params3] at hA hval hsz
  obtain ⟨v0, vs0, d0, ds0, p0, q0, hargs, rfl, rfl, h0, r0⟩ := trodAll_cons hA
  obtain ⟨v1, vs1, d1, ds1, p1, q1, rfl, rfl, rfl, h1, r1⟩ := trodAll_cons r0
  obtain ⟨v2, vs2, d2, ds2, p2, q2, rfl, rfl, rfl, h2, r2⟩ := trodAll_cons r1
  obtain ⟨rfl, rfl, rfl⟩ := trodAll_nil r2
  obtain rfl : args = #[v0, v1, v2] := by cases args; simp_all
  obtain ⟨rfl, rfl⟩ := trodVars_none hV
  have k0 := h0
  have lt0 : ∀ x ∈ p0, x.block < W.heap.size := by obtain ⟨m, hm⟩ := k0; exact DataW.trod_lt m _ _ _ hm
  have i0 := in_of (j := 0) (t := 25) hsz rfl rfl h0
  have o0 := hval 0 25 v0 rfl rfl
  have k1 := h1
  have lt1 : ∀ x ∈ p1, x.block < W.heap.size := by obtain ⟨m, hm⟩ := k1; exact DataW.trod_lt m _ _ _ hm
  have i1 := in_of (j := 1) (t := 21) hsz rfl rfl h1
  have o1 := hval 1 21 v1 rfl rfl
  have k2 := h2
  have lt2 : ∀ x ∈ p2, x.block < W.heap.size := by obtain ⟨m, hm⟩ := k2; exact DataW.trod_lt m _ _ _ hm
  have i2 := in_of (j := 2) (t := 26) hsz rfl rfl h2
  have o2 := hval 2 26 v2 rfl rfl
  clear hA0 hval0 hsz0 hsz
  obtain ⟨t, rfl, ht, b1, b2⟩ := arg_ten o0 i0
  obtain ⟨n, rfl⟩ := arg_num (BitVec.ofInt 32) i32 (fun _ h => wf_i32 h) un_21 o1 i1
  obtain ⟨cs, rfl, hin⟩ := arg_array Try.underlying26 o2 i2
  obtain ⟨hlen, hel⟩ := hin.array Try.underlying26
  have c2 : Try.prog.cellsOf 26 = 2 := by kernel_rfl
  have c1 : Try.prog.cellsOf 5 = 1 := by kernel_rfl
  rw [c2] at hlen
  rw [c1] at hel
  obtain ⟨x0, x1, rfl⟩ := two_of hlen
  obtain ⟨a, e0⟩ := In.num (BitVec.ofInt 8) b8 (fun _ h => wf_u8 h) un_5 (hel 0 (by decide))
  obtain ⟨b, e1⟩ := In.num (BitVec.ofInt 8) b8 (fun _ h => wf_u8 h) un_5 (hel 1 (by decide))
  simp at e0 e1
  subst e0 e1
  refine (law_calls (windowsOne_w t n a b W ht ⟨by omega, by omega⟩)).mono fun e W' ⟨he, bel⟩ => ?_
  subst he
  exact ⟨_, rfl, _, _, _, [], _, [], hW', trodAll_mk1 (shut_bool un_4 _), (trodAll_cons_mk (Below.trod laidOut (by kernel_rfl) (of_decide_eq_true (by kernel_rfl)) k0 bel lt0) (trodAll_cons_mk (Below.trod laidOut (by kernel_rfl) (of_decide_eq_true (by kernel_rfl)) k1 bel lt1) (trodAll_cons_mk (Below.trod laidOut (by kernel_rfl) (of_decide_eq_true (by kernel_rfl)) k2 bel lt2) trodAll_mk0))), rfl, bel.frame _, fun h => by cases h⟩

/-- The statement. -/
theorem windowsOne_proved : Rows.WindowsOneSaid :=
  OpenClaim.holds_of_wide 3 Try.f3 rfl rfl rfl rfl rfl rfl rfl ⟨rfl, rfl, rfl, rfl, rfl⟩ rfl rfl rfl rfl rfl (by kernel_rfl) Try.func3 (by kernel_rfl)
    (of_decide_eq_true (by kernel_rfl)) (by unfold Func.isWrapper; first | (rw [if_pos (by decide +kernel)]; kernel_rfl) | (rw [if_neg (by decide +kernel)]; exact ⟨rfl, rfl⟩))
    (fun os started H enc _ => windowsOne_lifted os started H enc)
#print axioms windowsOne_proved
end Go.Proofs.Ytgjpjpdmkeifeaa
