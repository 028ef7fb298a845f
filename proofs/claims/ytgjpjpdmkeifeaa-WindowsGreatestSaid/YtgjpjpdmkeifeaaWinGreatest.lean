/- Of squares the greatest number is there, and none is greater; squares of one number change nothing; squares of squares are those as wide as both together: for any picture, any two widths; no condition. -/
import Derived.Test.YtgjpjpdmkeifeaaWinMore
import Derived.Test.YtgjpjpdmkeifeaaInt
namespace Go.Proofs.Ytgjpjpdmkeifeaa
open Go Go.Dd Go.RowKit Go.ChangeShapes Go.WideShapes Go.ChangeAt

theorem wpoE_tok {t : T4} {w : Int} (h : tok t.s t.l = true) : wpoE t w = poolE t.s w := by unfold wpoE; rw [h]; rfl
theorem poolE_is {s : List Int} {w : Int} (h : Shapes.ok s = true) (h3 : s.length = 3) (hw : 1 ≤ w ∧ w ≤ 64) : poolE s w = if w ≤ s.getD 1 default ∧ w ≤ s.getD 2 default then 0 else 10 := by
  have hA : pshA s w = false := by
    simp only [pshA, h, Bool.not_true, Bool.false_or, Bool.or_eq_false_iff, decide_eq_false_iff_not]; omega
  unfold poolE
  rw [hA, if_neg (by decide)]
  by_cases h2 : w ≤ s.getD 1 default ∧ w ≤ s.getD 2 default
  · have : pshB s w = true := by simp only [pshB, decide_eq_true h3, decide_eq_true h2.1, decide_eq_true h2.2]; rfl
    rw [this, if_pos rfl, if_pos h2]
  · have : pshB s w = false := by
      simp only [pshB, decide_eq_true h3, Bool.true_and]
      by_cases h4 : w ≤ s.getD 1 default
      · rw [decide_eq_false (show ¬ w ≤ s.getD 2 default from fun h5 => h2 ⟨h4, h5⟩), Bool.and_false]
      · rw [decide_eq_false h4, Bool.false_and]
    rw [this, if_neg (by decide), if_neg h2]
theorem wpoL_len (t : T4) (w : Int) : (wpoL t w).length = (Shapes.size (pshS t.s w)).toNat := by simp [wpoL, pooL]
theorem pool_one {t : T4} (h : tok t.s t.l = true) (h3 : t.s.length = 3) : wpoE t 1 = 0 ∧ pshS t.s 1 = t.s ∧ wpoL t 1 = t.l := by
  obtain ⟨o1, o2⟩ := tok_ok h
  have T := (Shapes.ok_iff t.s).1 o1
  have g1 := good_at T.2.1 (k := 1) (by omega)
  have g2 := good_at T.2.1 (k := 2) (by omega)
  obtain ⟨c1, -⟩ := slid_same (r := t.s.getD 1 default) (w := 1) (by omega) g1.1
  obtain ⟨c2, -⟩ := slid_same (r := t.s.getD 2 default) (w := 1) (by omega) g2.1
  have eS : pshS t.s 1 = t.s := by
    unfold pshS
    rw [c1, c2, Int.ediv_one, Int.ediv_one]
    exact (list3 h3).symm
  refine ⟨?_, eS, ?_⟩
  · rw [wpoE_tok h, poolE_is o1 h3 (by omega), if_pos ⟨g1.1, g2.1⟩]
  · apply List.ext_getElem (by rw [wpoL_len, eS, o2])
    intro i h1 h2
    have e : (wpoL t 1)[i] = pooV t.l t.s t.s 1 i := by simp [wpoL, pooL, eS]
    rw [e, pooV_one g1.1 g2.1]
    simp [h2]
theorem pool_S {t : T4} {m : Nat} (h : PoolOK t m) : (pshS t.s m).getD 0 default = t.s.getD 0 default ∧ (pshS t.s m).getD 1 default = t.s.getD 1 default / m ∧ (pshS t.s m).getD 2 default = t.s.getD 2 default / m ∧ t.s.getD 1 default / m * m ≤ t.s.getD 1 default ∧ t.s.getD 2 default / m * m ≤ t.s.getD 2 default ∧ 1 ≤ t.s.getD 1 default / m ∧ 1 ≤ t.s.getD 2 default / m :=
  ⟨rfl, h.s1, h.s2, Int.ediv_mul_le _ (by have := h.w; omega), Int.ediv_mul_le _ (by have := h.w; omega), (slid_same h.w.1 h.w1).2.1, (slid_same h.w.1 h.w2).2.1⟩
theorem pool_E2 {t : T4} {m n : Nat} (h : PoolOK t m) (ok : Shapes.ok t.s = true) (hn : 1 ≤ n) (hmn : m * n ≤ 64) (hn2 : n ≤ 64) : poolE (pshS t.s m) n = poolE t.s ((m * n : Nat) : Int) := by
  have hm := h.w
  obtain ⟨-, e1, e2, -⟩ := pool_S h
  have mn1 : 1 ≤ m * n := Nat.mul_le_mul (show 1 ≤ m by omega) hn
  rw [poolE_is h.ok rfl (by omega), poolE_is ok h.lt (by omega), e1, e2]
  have k1 : (n : Int) ≤ t.s.getD 1 default / m ↔ ((m * n : Nat) : Int) ≤ t.s.getD 1 default := by
    rw [Int.le_ediv_iff_mul_le (by omega), Int.natCast_mul, Int.mul_comm]
  have k2 : (n : Int) ≤ t.s.getD 2 default / m ↔ ((m * n : Nat) : Int) ≤ t.s.getD 2 default := by
    rw [Int.le_ediv_iff_mul_le (by omega), Int.natCast_mul, Int.mul_comm]
  simp only [k1, k2]
theorem pool_two {t x : T4} {m n : Nat} (h : PoolOK t m) (g : PoolOK t ((m * n : Nat) : Int)) (hn : 1 ≤ n) (hx : x.s = pshS t.s m) (hl : x.l = wpoL t m) : pshS x.s n = pshS t.s ((m * n : Nat) : Int) ∧ wpoL x n = wpoL t ((m * n : Nat) : Int) := by
  have hm := h.w
  obtain ⟨d0, d1, d2, d3, d4, d5, d6⟩ := pool_S h
  obtain ⟨b0, b1, b2, b3, b4, b5, b6⟩ := pool_S g
  have n1 : (n : Int) ≤ t.s.getD 1 default / m := by rw [Int.le_ediv_iff_mul_le (by omega), Int.mul_comm, ← Int.natCast_mul]; exact g.w1
  have n2 : (n : Int) ≤ t.s.getD 2 default / m := by rw [Int.le_ediv_iff_mul_le (by omega), Int.mul_comm, ← Int.natCast_mul]; exact g.w2
  have dd : ∀ r : Int, r / ((m * n : Nat) : Int) = r / m / n := fun r => by rw [Int.natCast_mul, Int.ediv_ediv_of_nonneg (by omega)]
  obtain ⟨c1, -, -, c4⟩ := slid_same (r := t.s.getD 1 default / m) (w := (n : Int)) (by omega) n1
  obtain ⟨c2, -, -, c5⟩ := slid_same (r := t.s.getD 2 default / m) (w := (n : Int)) (by omega) n2
  have eS : pshS x.s n = pshS t.s ((m * n : Nat) : Int) := by
    show [x.s.getD 0 default, slid (x.s.getD 1 default) n n, slid (x.s.getD 2 default) n n] = [t.s.getD 0 default, slid (t.s.getD 1 default) _ _, slid (t.s.getD 2 default) _ _]
    rw [hx, d0, d1, d2, c1, c2, g.s1, g.s2, dd, dd]
  refine ⟨eS, ?_⟩
  have okb := g.ok
  have lb : (pshS t.s ((m * n : Nat) : Int)).length = 3 := rfl
  have oka := h.ok
  have la : (pshS t.s (m : Int)).length = 3 := rfl
  have za : Shapes.size (pshS t.s (m : Int)) = t.s.getD 0 default * (t.s.getD 1 default / m * (t.s.getD 2 default / m)) := by rw [Shapes.size_ok oka, prod3 la, d0, d1, d2]
  unfold wpoL pooL
  rw [eS, Int.toNat_natCast, Int.toNat_natCast]
  refine List.map_congr_left fun i hi => ?_
  rw [List.mem_range] at hi
  have ci := spc_in okb lb (i := (i : Int)) (by omega)
  rw [hx]
  refine pooV_two (by omega) hn (by rw [b1]; exact b5) (by rw [b2]; exact b6) (by rw [b1, d1, dd]; exact c4) (by rw [b2, d2, dd]; exact c5) ?_
  rintro c y v rfl hy hv
  rw [d1] at hy
  rw [d2] at hv
  have e1 : 0 ≤ (spc (pshS t.s ((m * n : Nat) : Int)) i * (t.s.getD 1 default / m) + y) * (t.s.getD 2 default / m) := Int.mul_nonneg (by have := Int.mul_nonneg ci.1 (show 0 ≤ t.s.getD 1 default / (m : Int) by omega); omega) (by omega)
  have e2 : (spc (pshS t.s ((m * n : Nat) : Int)) i * (t.s.getD 1 default / m) + y + 1) * (t.s.getD 2 default / m) ≤ (t.s.getD 0 default * (t.s.getD 1 default / m)) * (t.s.getD 2 default / m) := by
    refine Int.mul_le_mul_of_nonneg_right ?_ (by omega)
    have : (spc (pshS t.s ((m * n : Nat) : Int)) i + 1) * (t.s.getD 1 default / m) ≤ t.s.getD 0 default * (t.s.getD 1 default / m) := Int.mul_le_mul_of_nonneg_right (by rw [b0] at ci; omega) (by omega)
    rw [Int.add_mul, Int.one_mul] at this
    omega
  rw [Int.add_mul _ 1, Int.one_mul, Int.mul_assoc (t.s.getD 0 default)] at e2
  refine ⟨((spc (pshS t.s ((m * n : Nat) : Int)) i * (t.s.getD 1 default / m) + y) * (t.s.getD 2 default / m) + v).toNat, by rw [d1, d2]; exact Int.toNat_of_nonneg (by omega), ?_⟩
  rw [hl]
  unfold wpoL
  rw [pooL_at (by omega), Int.toNat_natCast]
theorem pool_is {t : T4} {m : Nat} (h : tok t.s t.l = true) (h3 : t.s.length = 3) (hm : 1 ≤ m ∧ m ≤ 64) : wpoE t m = if (m : Int) ≤ t.s.getD 1 default ∧ (m : Int) ≤ t.s.getD 2 default then 0 else 10 := by
  rw [wpoE_tok h, poolE_is (tok_ok h).1 h3 (by omega)]
theorem any_last {f : Nat → BitVec 32} {v : BitVec 32} (k : Nat) : ((List.range (k + 1)).any fun j => decide (f j = v)) = (((List.range k).any fun j => decide (f j = v)) || decide (f k = v)) := by
  rw [List.range_succ, List.any_append]; simp
theorem windowsGreatest_w (t : T4) (a b : BitVec 8) (W : World) (h_t : t.at W) (f1 : few t) :
    Fnc Try.prog 4 [t.v, b8 a, b8 b] W (fun r w' => r = .bool true ∧ Below W.heap.size W w') := by
  have hB := Below.refl W.heap.size W
  obtain ⟨m0, hm0⟩ : ∃ k, k = a.toNat % 9 := ⟨_, rfl⟩
  obtain ⟨n0, hn0⟩ : ∃ k, k = b.toNat % 7 := ⟨_, rfl⟩
  obtain ⟨m, hm⟩ : ∃ m, m = 1 + m0 := ⟨_, rfl⟩
  obtain ⟨n, hnn⟩ : ∃ m, m = 1 + n0 := ⟨_, rfl⟩
  have m1 : 1 ≤ m ∧ m ≤ 9 := by omega
  have n1 : 1 ≤ n ∧ n ≤ 7 := by omega
  have mn1 : 1 ≤ m * n := Nat.mul_le_mul m1.1 n1.1
  have mn2 : m * n ≤ 9 * 7 := Nat.mul_le_mul m1.2 n1.2
  have mni : (m : Int) * (n : Int) = ((m * n : Nat) : Int) := (Int.natCast_mul m n).symm
  refine Fnc.enter (n := 210) Try.func4 (by kernel_rfl) rfl rfl rfl ?_
  refine Cw.seq ?_
  refine Cw.region ?_
  refine Lw.boxV (cs := [t.x, t.y]) rfl rfl rfl ?_
  rintro A_t w eA_t b_t hn -
  replace hB := hB.bs hn
  replace h_t := h_t.bs hn
  clear hn
  refine Lw.val (Ex.assign rfl) rfl ?_
  refine Lw.nil ?_
  refine Pw.thenN (Cw.out ?_)
  refine Cw.seq ?_
  refine Cw.seq ?_
  refine Cw.region ?_
  refine Lw.callF rfl rfl (alive_c _) ?_
  rintro _ w ⟨rfl, hn⟩
  replace hB := hB.bs hn
  replace h_t := h_t.bs hn
  replace b_t := b_t.bs hn
  clear hn
  refine Lw.val (Ex.not rfl) rfl ?_
  refine Lw.val (Ex.move rfl) rfl ?_
  refine Lw.know 26 (v' := .bool false) rfl (congrArg Value.bool (rfl)) ?_
  refine Lw.take (dj := 26) rfl rfl ?_
  refine Lw.val (Ex.ldA (ag_25 _) (sz_25 _) rfl rfl (by assumption)) rfl ?_
  refine Lw.take (dj := 26) rfl rfl ?_
  refine Lw.callF rfl rfl (tsize_c t _ h_t f1.1 f1.2) ?_
  rintro _ w ⟨rfl, hn⟩
  replace hB := hB.bs hn
  replace h_t := h_t.bs hn
  replace b_t := b_t.bs hn
  clear hn
  refine Lw.take (dj := 26) rfl rfl ?_
  refine Lw.valW (Xw.lit (vs := [tsz t.s t.l].map (Value.int .i64)) st_22 it_3 rfl rfl rfl rfl rfl) rfl ?_
  rintro u w ⟨ho, -, hn, -⟩
  replace hB := hB.bs hn
  replace h_t := h_t.bs hn
  replace b_t := b_t.bs hn
  clear hn
  refine Lw.take (dj := 26) rfl rfl ?_
  refine Lw.callF rfl rfl (beyond_c u [tsz t.s t.l] _ (own_slT ho) (by intro x hx; simp at hx; subst hx; exact tsz_bd f1.1 f1.2)) ?_
  rintro _ w ⟨rfl, hn⟩
  replace hB := hB.bs hn
  replace h_t := h_t.bs hn
  replace b_t := b_t.bs hn
  clear hn
  refine Lw.val (Ex.pickF rfl rfl) rfl ?_
  refine Lw.val (Ex.move rfl) rfl ?_
  clear ho
  refine Lw.part 32 rfl ?_ ?_
  · intro _
    refine Lw.pass (dj := 32) rfl rfl rfl rfl ?_
    refine Lw.pass (dj := 32) rfl rfl rfl rfl ?_
    refine Lw.pass (dj := 32) rfl rfl rfl rfl ?_
    refine Lw.val (Ex.pickT rfl rfl) rfl ?_
    refine Lw.val (Ex.move rfl) rfl ?_
    refine Lw.pass (dj := 37) rfl rfl rfl rfl ?_
    refine Lw.pass (dj := 37) rfl rfl rfl rfl ?_
    refine Lw.pass (dj := 37) rfl rfl rfl rfl ?_
    refine Lw.pass (dj := 37) rfl rfl rfl rfl ?_
    refine Lw.val (Ex.pickT rfl rfl) rfl ?_
    refine Lw.nil ?_
    refine Pw.thenN (Cw.out ?_)
    refine Cw.condT rfl ?_
    refine Cw.seq ?_
    refine Cw.region ?_
    refine Lw.callF rfl rfl (alive_c _) ?_
    rintro _ w ⟨rfl, hn⟩
    replace hB := hB.bs hn
    replace h_t := h_t.bs hn
    replace b_t := b_t.bs hn
    clear hn
    refine Lw.val (Ex.assign rfl) rfl ?_
    refine Lw.nil ?_
    refine Pw.thenN (Cw.out ?_)
    refine Cw.ret ?_
    refine Pw.thenR ?_
    refine Pw.ret1 rfl rfl ?_
    exact ⟨rfl, hB⟩
  intro g1
  refine Lw.take (dj := 32) rfl rfl ?_
  refine Lw.val (Ex.ldA (ag_25 _) (sz_25 _) rfl rfl (by assumption)) rfl ?_
  refine Lw.take (dj := 32) rfl rfl ?_
  refine Lw.callF rfl rfl (tcheck_c t.x t.y t.s t.l _ h_t.1 h_t.2) ?_
  rintro _ w ⟨rfl, hn⟩
  replace hB := hB.bs hn
  replace h_t := h_t.bs hn
  replace b_t := b_t.bs hn
  clear hn
  refine Lw.take (dj := 32) rfl rfl ?_
  refine Lw.val (Ex.not rfl) rfl ?_
  refine Lw.val (Ex.pickF rfl rfl) rfl ?_
  refine Lw.val (Ex.move rfl) rfl ?_
  refine Lw.part 37 rfl ?_ ?_
  · intro _
    refine Lw.pass (dj := 37) rfl rfl rfl rfl ?_
    refine Lw.pass (dj := 37) rfl rfl rfl rfl ?_
    refine Lw.pass (dj := 37) rfl rfl rfl rfl ?_
    refine Lw.pass (dj := 37) rfl rfl rfl rfl ?_
    refine Lw.val (Ex.pickT rfl rfl) rfl ?_
    refine Lw.nil ?_
    refine Pw.thenN (Cw.out ?_)
    refine Cw.condT rfl ?_
    refine Cw.seq ?_
    refine Cw.region ?_
    refine Lw.callF rfl rfl (alive_c _) ?_
    rintro _ w ⟨rfl, hn⟩
    replace hB := hB.bs hn
    replace h_t := h_t.bs hn
    replace b_t := b_t.bs hn
    clear hn
    refine Lw.val (Ex.assign rfl) rfl ?_
    refine Lw.nil ?_
    refine Pw.thenN (Cw.out ?_)
    refine Cw.ret ?_
    refine Pw.thenR ?_
    refine Pw.ret1 rfl rfl ?_
    exact ⟨rfl, hB⟩
  intro g2
  have k_t : tok t.s t.l = true := by simpa using g2
  have h_t1 := h_t.1
  refine Lw.take (dj := 37) rfl rfl ?_
  refine Lw.val (Ex.fieldAddr (q := 0) Try.underlying25 rfl (sz_22 _) rfl) rfl ?_
  refine Lw.take (dj := 37) rfl rfl ?_
  refine Lw.val (Ex.ldB (ag_22 _) rfl (by assumption) rfl) rfl ?_
  refine Lw.take (dj := 37) rfl rfl ?_
  refine Lw.val (Ex.lenS st_22 rfl (by assumption)) rfl ?_
  refine Lw.take (dj := 37) rfl rfl ?_
  refine Lw.val (Ex.neq rfl rfl) rfl ?_
  refine Lw.val (Ex.pickF rfl rfl) rfl ?_
  refine Lw.nil ?_
  refine Pw.thenN (Cw.out ?_)
  refine Cw.cond rfl ?_ ?_
  · intro _
    refine Cw.seq ?_
    refine Cw.region ?_
    refine Lw.callF rfl rfl (alive_c _) ?_
    rintro _ w ⟨rfl, hn⟩
    replace hB := hB.bs hn
    replace h_t := h_t.bs hn
    replace b_t := b_t.bs hn
    replace h_t1 := h_t1.bs hn
    clear hn
    refine Lw.val (Ex.assign rfl) rfl ?_
    refine Lw.nil ?_
    refine Pw.thenN (Cw.out ?_)
    refine Cw.ret ?_
    refine Pw.thenR ?_
    refine Pw.ret1 rfl rfl ?_
    exact ⟨rfl, hB⟩
  intro g3
  have h3 : t.s.length = 3 := by have := g3; simp at this; omega
  clear g1 g2 g3
  have T := (Shapes.ok_iff t.s).1 (tok_ok k_t).1
  have d0 := good_at T.2.1 (k := 0) (by omega)
  have d1 := good_at T.2.1 (k := 1) (by omega)
  have d2 := good_at T.2.1 (k := 2) (by omega)
  obtain ⟨o1, o2, o3⟩ := pool_one k_t h3
  have eF := pool_is k_t h3 (m := m) (by omega)
  have eG := pool_is k_t h3 (m := m * n) (by omega)
  refine Cw.skip ?_
  refine Pw.thenN (Cw.out ?_)
  refine Cw.seq ?_
  refine Cw.region ?_
  refine Lw.val (Ex.move rfl) rfl ?_
  refine Lw.val (Ex.rem8 (c := 9) rfl rfl (by decide)) rfl ?_
  refine Lw.val ((Ex.convI64 us_5 un_3 rfl (by omega)).as (congrArg (fun m : Nat => Value.int .i64 (m : Int)) hm0.symm)) rfl ?_
  refine Lw.val ((Ex.addI rfl rfl (by omega)).as (congrArg (Value.int .i64) (show (1 : Int) + (m0 : Int) = (m : Int) by omega))) rfl ?_
  refine Lw.val (Ex.assign rfl) rfl ?_
  refine Lw.nil ?_
  refine Pw.thenN (Cw.out ?_)
  refine Cw.seq ?_
  refine Cw.region ?_
  refine Lw.val (Ex.move rfl) rfl ?_
  refine Lw.val (Ex.rem8 (c := 7) rfl rfl (by decide)) rfl ?_
  refine Lw.val ((Ex.convI64 us_5 un_3 rfl (by omega)).as (congrArg (fun m : Nat => Value.int .i64 (m : Int)) hn0.symm)) rfl ?_
  refine Lw.val ((Ex.addI rfl rfl (by omega)).as (congrArg (Value.int .i64) (show (1 : Int) + (n0 : Int) = (n : Int) by omega))) rfl ?_
  refine Lw.val (Ex.assign rfl) rfl ?_
  refine Lw.nil ?_
  refine Pw.thenN (Cw.out ?_)
  refine Cw.seq ?_
  refine Cw.region ?_
  refine Lw.val (Ex.ldA (ag_25 _) (sz_25 _) rfl rfl (by assumption)) rfl ?_
  refine Lw.callF rfl rfl (wpo_c t 1 _ h_t) ?_
  rintro r w ⟨hn, one, rfl, h_one, -, z_one⟩
  obtain ⟨s_one, l_one, -⟩ := z_one o1
  rw [o1]
  rw [o2] at s_one
  rw [o3] at l_one
  clear z_one
  replace hB := hB.bs hn
  replace h_t := h_t.bs hn
  replace b_t := b_t.bs hn
  replace h_t1 := h_t1.bs hn
  clear hn
  refine Lw.val (Ex.move rfl) rfl ?_
  refine Lw.val (Ex.extract (i := 0) rfl rfl) rfl ?_
  refine Lw.val (Ex.extract (i := 1) rfl rfl) rfl ?_
  refine Lw.boxed (cs := [one.x, one.y]) it_25 rfl rfl rfl rfl (fun _ => rfl) (h_one.one) ?_
  rintro A_one w eA_one b_one hn -
  replace hB := hB.bs hn
  replace h_t := h_t.bs hn
  replace b_t := b_t.bs hn
  replace h_t1 := h_t1.bs hn
  replace h_one := h_one.bs hn
  clear hn
  refine Lw.val (Ex.assign rfl) rfl ?_
  refine Lw.nil ?_
  refine Pw.thenN (Cw.out ?_)
  refine Cw.seq ?_
  refine Cw.region ?_
  refine Lw.val (Ex.ldA (ag_25 _) (sz_25 _) rfl rfl (by assumption)) rfl ?_
  refine Lw.val (Ex.move rfl) rfl ?_
  refine Lw.callF rfl rfl (wpo_c t (m : Int) _ h_t) ?_
  rintro r w ⟨hn, x, rfl, h_x, -, z_x⟩
  replace hB := hB.bs hn
  replace h_t := h_t.bs hn
  replace b_t := b_t.bs hn
  replace h_t1 := h_t1.bs hn
  replace h_one := h_one.bs hn
  replace b_one := b_one.bs hn
  clear hn
  refine Lw.val (Ex.move rfl) rfl ?_
  refine Lw.val (Ex.extract (i := 0) rfl rfl) rfl ?_
  refine Lw.val (Ex.extract (i := 1) rfl rfl) rfl ?_
  refine Lw.boxed (cs := [x.x, x.y]) it_25 rfl rfl rfl rfl (fun _ => rfl) (h_x.one) ?_
  rintro A_x w eA_x b_x hn -
  replace hB := hB.bs hn
  replace h_t := h_t.bs hn
  replace b_t := b_t.bs hn
  replace h_t1 := h_t1.bs hn
  replace h_one := h_one.bs hn
  replace b_one := b_one.bs hn
  replace h_x := h_x.bs hn
  clear hn
  refine Lw.val (Ex.assign rfl) rfl ?_
  refine Lw.nil ?_
  refine Pw.thenN (Cw.out ?_)
  refine Cw.seq ?_
  refine Cw.region ?_
  refine Lw.val (Ex.ldA (ag_25 _) (sz_25 _) rfl rfl (by assumption)) rfl ?_
  refine Lw.val (Ex.move rfl) rfl ?_
  refine Lw.val (Ex.move rfl) rfl ?_
  refine Lw.val ((Ex.mulI rfl rfl (by omega)).as (congrArg (Value.int .i64) mni)) rfl ?_
  refine Lw.callF rfl rfl (wpo_c t ((m * n : Nat) : Int) _ h_t) ?_
  rintro r w ⟨hn, z, rfl, h_z, -, z_z⟩
  replace hB := hB.bs hn
  replace h_t := h_t.bs hn
  replace b_t := b_t.bs hn
  replace h_t1 := h_t1.bs hn
  replace h_one := h_one.bs hn
  replace b_one := b_one.bs hn
  replace h_x := h_x.bs hn
  replace b_x := b_x.bs hn
  clear hn
  refine Lw.val (Ex.move rfl) rfl ?_
  refine Lw.val (Ex.extract (i := 0) rfl rfl) rfl ?_
  refine Lw.val (Ex.extract (i := 1) rfl rfl) rfl ?_
  refine Lw.boxed (cs := [z.x, z.y]) it_25 rfl rfl rfl rfl (fun _ => rfl) (h_z.one) ?_
  rintro A_z w eA_z b_z hn -
  replace hB := hB.bs hn
  replace h_t := h_t.bs hn
  replace b_t := b_t.bs hn
  replace h_t1 := h_t1.bs hn
  replace h_one := h_one.bs hn
  replace b_one := b_one.bs hn
  replace h_x := h_x.bs hn
  replace b_x := b_x.bs hn
  replace h_z := h_z.bs hn
  clear hn
  refine Lw.val (Ex.assign rfl) rfl ?_
  refine Lw.nil ?_
  refine Pw.thenN (Cw.out ?_)
  refine Cw.seq ?_
  refine Cw.seq ?_
  refine Cw.region ?_
  refine Lw.val (Ex.ldA (ag_25 _) (sz_25 _) rfl rfl (by assumption)) rfl ?_
  refine Lw.val (Ex.ldA (ag_25 _) (sz_25 _) rfl rfl (by assumption)) rfl ?_
  refine Lw.val (Ex.move rfl) rfl ?_
  refine Lw.callF rfl rfl (same8_c one t 0 0 _ h_one h_t) ?_
  rintro _ w ⟨rfl, hn⟩
  replace hB := hB.bs hn
  replace h_t := h_t.bs hn
  replace b_t := b_t.bs hn
  replace h_t1 := h_t1.bs hn
  replace h_one := h_one.bs hn
  replace b_one := b_one.bs hn
  replace h_x := h_x.bs hn
  replace b_x := b_x.bs hn
  replace h_z := h_z.bs hn
  replace b_z := b_z.bs hn
  clear hn
  refine Lw.val (Ex.not rfl) rfl ?_
  refine Lw.val (Ex.move rfl) rfl ?_
  refine Lw.know 76 (v' := .bool false) rfl (congrArg Value.bool (by rw [decide_eq_true s_one, decide_eq_true l_one]; rfl)) ?_
  refine Lw.take (dj := 76) rfl rfl ?_
  refine Lw.val (Ex.move rfl) rfl ?_
  refine Lw.take (dj := 76) rfl rfl ?_
  refine Lw.val (Ex.eql rfl rfl) rfl ?_
  refine Lw.take (dj := 76) rfl rfl ?_
  refine Lw.val (Ex.fieldAddr (q := 0) Try.underlying25 rfl (sz_22 _) rfl) rfl ?_
  refine Lw.take (dj := 76) rfl rfl ?_
  refine Lw.val (Ex.ldB (ag_22 _) rfl (by assumption) rfl) rfl ?_
  refine Lw.take (dj := 76) rfl rfl ?_
  refine Lw.val (Ex.idxT st_22 rfl rfl (by assumption) 1 rfl (by omega)) rfl ?_
  refine Lw.take (dj := 76) rfl rfl ?_
  refine Lw.val (Ex.ldT (ag_3 _) rfl (by assumption) (by omega)) rfl ?_
  refine Lw.take (dj := 76) rfl rfl ?_
  refine Lw.val (Ex.move rfl) rfl ?_
  refine Lw.take (dj := 76) rfl rfl ?_
  refine Lw.val (Ex.geq rfl rfl) rfl ?_
  refine Lw.take (dj := 76) rfl rfl ?_
  refine Lw.val (Ex.move rfl) rfl ?_
  have mnm : (m : Int) ≤ ((m * n : Nat) : Int) := by have := Nat.mul_le_mul_left m n1.1; omega
  obtain ⟨G, hG⟩ : ∃ G, G = wpoE t ((m * n : Nat) : Int) := ⟨_, rfl⟩
  rw [← hG] at z_z eG ⊢
  rcases Classical.em ((m : Int) ≤ t.s.getD 1 default ∧ (m : Int) ≤ t.s.getD 2 default) with hF | hF
  · rw [if_pos hF] at eF
    obtain ⟨s_x, l_x, -⟩ := z_x eF
    rw [eF]
    clear z_x
    refine Lw.know 85 (v' := .bool true) rfl (congrArg Value.bool (decide_eq_true hF.1)) ?_
    refine Lw.take (dj := 85) rfl rfl ?_
    refine Lw.val (Ex.fieldAddr (q := 0) Try.underlying25 rfl (sz_22 _) rfl) rfl ?_
    refine Lw.take (dj := 85) rfl rfl ?_
    refine Lw.val (Ex.ldB (ag_22 _) rfl (by assumption) rfl) rfl ?_
    refine Lw.take (dj := 85) rfl rfl ?_
    refine Lw.val (Ex.idxT st_22 rfl rfl (by assumption) 2 rfl (by omega)) rfl ?_
    refine Lw.take (dj := 85) rfl rfl ?_
    refine Lw.val (Ex.ldT (ag_3 _) rfl (by assumption) (by omega)) rfl ?_
    refine Lw.take (dj := 85) rfl rfl ?_
    refine Lw.val (Ex.move rfl) rfl ?_
    refine Lw.take (dj := 85) rfl rfl ?_
    refine Lw.val (Ex.geq rfl rfl) rfl ?_
    refine Lw.take (dj := 76) rfl rfl ?_
    refine Lw.val (Ex.pickT rfl rfl) rfl ?_
    refine Lw.take (dj := 76) rfl rfl ?_
    refine Lw.val (Ex.neqB un_4 rfl rfl) rfl ?_
    refine Lw.val (Ex.pickF rfl rfl) rfl ?_
    refine Lw.nil ?_
    refine Pw.thenN (Cw.out ?_)
    refine Cw.condB rfl false (by rw [decide_eq_true hF.2]; rfl) ?_
    refine Cw.skip ?_
    refine Pw.thenN (Cw.out ?_)
    refine Cw.seq ?_
    refine Cw.seq ?_
    refine Cw.region ?_
    refine Lw.val (Ex.move rfl) rfl ?_
    refine Lw.val (Ex.neq rfl rfl) rfl ?_
    refine Lw.nil ?_
    refine Pw.thenN (Cw.out ?_)
    refine Cw.condB rfl false (rfl) ?_
    refine Cw.skip ?_
    refine Pw.thenN (Cw.out ?_)
    refine Cw.seq ?_
    refine Cw.seq ?_
    refine Cw.region ?_
    refine Lw.val (Ex.assign rfl) rfl ?_
    refine Lw.nil ?_
    refine Pw.thenN (Cw.out ?_)
    refine Cw.block ?_
    have P := pool_ok k_t ((wpoE_tok k_t).symm.trans eF)
    obtain ⟨c0, c1, c2, c3, c4, c5, c6⟩ := pool_S P
    rw [← s_x] at c0 c1 c2
    rw [← c1] at c3 c5
    rw [← c2] at c4 c6
    have lx : x.s.length = 3 := by rw [s_x]; rfl
    have okx : Shapes.ok x.s = true := by rw [s_x]; exact P.ok
    have ln_x : x.l.length = (Shapes.size x.s).toNat := by rw [l_x, s_x]; exact wpoL_len _ _
    have szx := Shapes.size_le x.s
    have gx := ((Shapes.ok_iff _).1 okx).2.1
    have x1 := good_at gx (k := 1) (by omega)
    have x2 := good_at gx (k := 2) (by omega)
    have p1 : 1 * 1 ≤ x.s.getD 1 default * x.s.getD 2 default := Int.mul_le_mul x1.1 x2.1 (by decide) (by omega)
    have p2 : x.s.getD 1 default * x.s.getD 2 default ≤ 64 * 64 := Int.mul_le_mul x1.2 x2.2 (by omega) (by decide)
    have tl : (t.l.length : Int) = t.s.getD 0 default * (t.s.getD 1 default * t.s.getD 2 default) := P.tl
    have tl4 : (t.l.length : Int) ≤ 4096 := by have h5 := (tok_ok k_t).2; have h6 := Shapes.size_le t.s; omega
    have mm : ((m * m : Nat) : Int) = (m : Int) * (m : Int) := Int.natCast_mul m m
    have mm2 : m * m ≤ 9 * 9 := Nat.mul_le_mul m1.2 m1.2
    have h_x1 := h_x.1
    have h_x2 := h_x.2
    have h_t2 := h_t.2
    refine Cw.loop (S := Nat) (fun i => [(3, .pointer (some ⟨A_t, 0, none⟩)), (7, .int .i64 (m : Int)), (8, .int .i64 (n : Int)), (11, .pointer (some ⟨A_x, 0, none⟩)), (13, .pointer (some ⟨A_z, 0, none⟩)), (14, .int .i64 G), (15, .int .i64 (i : Int))]) (fun i w' => i ≤ x.l.length ∧ Below w.heap.size w w') (fun i => x.l.length - i) (0) ⟨rfl, rfl, rfl, rfl, rfl, rfl, rfl, trivial⟩ ?_ ?_
    · exact ⟨Nat.zero_le _, Below.refl _ _⟩
    rintro i w2 ⟨hi, hw⟩
    have b_x2 := b_x.bs hw
    have b_t2 := b_t.bs hw
    have h_x12 := h_x1.bs hw
    have h_x22 := h_x2.bs hw
    have h_t12 := h_t1.bs hw
    have h_t22 := h_t2.bs hw
    refine Cw.seq ?_
    refine Cw.seq ?_
    refine Cw.region ?_
    refine Lw.val (Ex.move rfl) rfl ?_
    refine Lw.val (Ex.fieldAddr (q := 0) Try.underlying25 rfl (sz_23 _) rfl) rfl ?_
    refine Lw.val (Ex.ldB (ag_23 _) rfl (by assumption) rfl) rfl ?_
    refine Lw.val (Ex.lenS st_23 rfl (by assumption)) rfl ?_
    refine Lw.val (Ex.lss rfl rfl) rfl ?_
    refine Lw.nil ?_
    refine Pw.thenN (Cw.out ?_)
    refine Cw.cond rfl ?_ ?_
    · intro h
      have hi' : i < x.l.length := by simp at h; omega
      have ci := spc_in okx lx (i := (i : Int)) (by omega)
      obtain ⟨-, ay, ax⟩ := spot_on (s := x.s) (j := (i : Int)) x1.1 x2.1
      have ym : 0 ≤ spy x.s i * (m : Int) ∧ (spy x.s i + 1) * (m : Int) ≤ t.s.getD 1 default := ⟨Int.mul_nonneg ay.1 (by omega), Int.le_trans (Int.mul_le_mul_of_nonneg_right (show spy x.s i + 1 ≤ x.s.getD 1 default by omega) (by omega)) c3⟩
      have xm : 0 ≤ spx x.s i * (m : Int) ∧ (spx x.s i + 1) * (m : Int) ≤ t.s.getD 2 default := ⟨Int.mul_nonneg ax.1 (by omega), Int.le_trans (Int.mul_le_mul_of_nonneg_right (show spx x.s i + 1 ≤ x.s.getD 2 default by omega) (by omega)) c4⟩
      rw [Int.add_mul, Int.one_mul] at ym xm
      have key : Mx (pooF t.l t.s x.s m i) (m * m) (x.l.getD i default) := by
        rw [l_x, show wpoL t (m : Int) = pooL t.l t.s x.s m by unfold wpoL; rw [s_x, Int.toNat_natCast], pooL_at (by omega)]
        exact pooV_mx m1.1
      have hi0 : (0 : Int) ≤ (i : Int) := by omega
      refine Cw.skip ?_
      refine Pw.thenN (Cw.out ?_)
      refine Cw.seq ?_
      refine Cw.block ?_
      refine Cw.seq ?_
      refine Cw.quiet mixed (by kernel_rfl) ?_
      refine Qw.val (fun w1 hq => Ex.move rfl) rfl ?_
      refine Qw.val (fun w1 hq => Ex.fieldAddr (q := 0) Try.underlying25 rfl (sz_22 _) rfl) rfl ?_
      refine Qw.val (fun w1 hq => Ex.ldB (ag_22 _) rfl (Blk.bs (by assumption) hq) rfl) rfl ?_
      refine Qw.val (fun w1 hq => Ex.idxT st_22 rfl rfl (Sl.bs (by assumption) hq) 1 rfl (by omega)) rfl ?_
      refine Qw.val (fun w1 hq => Ex.ldT (ag_3 _) rfl (Sl.bs (by assumption) hq) (by omega)) rfl ?_
      refine Qw.val (fun w1 hq => Ex.fieldAddr (q := 0) Try.underlying25 rfl (sz_22 _) rfl) rfl ?_
      refine Qw.val (fun w1 hq => Ex.ldB (ag_22 _) rfl (Blk.bs (by assumption) hq) rfl) rfl ?_
      refine Qw.val (fun w1 hq => Ex.idxT st_22 rfl rfl (Sl.bs (by assumption) hq) 2 rfl (by omega)) rfl ?_
      refine Qw.val (fun w1 hq => Ex.ldT (ag_3 _) rfl (Sl.bs (by assumption) hq) (by omega)) rfl ?_
      refine Qw.val (fun w1 hq => Ex.mulI rfl rfl (by omega)) rfl ?_
      refine Qw.val (fun w1 hq => (Ex.quoI rfl rfl (by omega) (by omega)).as (congrArg (Value.int .i64) (show _ = spc x.s i from rfl))) rfl ?_
      refine Qw.val (fun w1 hq => Ex.assign rfl) rfl ?_
      refine Qw.nil (fun w3 hq => ?_)
      refine Pw.thenN (Cw.out ?_)
      refine Cw.seq ?_
      have hw3 := bt hw hq
      clear hq
      have b_x3 := b_x.bs hw3
      have h_x13 := h_x1.bs hw3
      refine Cw.quiet mixed (by kernel_rfl) ?_
      refine Qw.val (fun w1 hq => Ex.move rfl) rfl ?_
      refine Qw.val (fun w1 hq => Ex.fieldAddr (q := 0) Try.underlying25 rfl (sz_22 _) rfl) rfl ?_
      refine Qw.val (fun w1 hq => Ex.ldB (ag_22 _) rfl (Blk.bs (by assumption) hq) rfl) rfl ?_
      refine Qw.val (fun w1 hq => Ex.idxT st_22 rfl rfl (Sl.bs (by assumption) hq) 2 rfl (by omega)) rfl ?_
      refine Qw.val (fun w1 hq => Ex.ldT (ag_3 _) rfl (Sl.bs (by assumption) hq) (by omega)) rfl ?_
      refine Qw.val (fun w1 hq => (Ex.quoI rfl rfl (by omega) (by omega))) rfl ?_
      refine Qw.val (fun w1 hq => Ex.fieldAddr (q := 0) Try.underlying25 rfl (sz_22 _) rfl) rfl ?_
      refine Qw.val (fun w1 hq => Ex.ldB (ag_22 _) rfl (Blk.bs (by assumption) hq) rfl) rfl ?_
      refine Qw.val (fun w1 hq => Ex.idxT st_22 rfl rfl (Sl.bs (by assumption) hq) 1 rfl (by omega)) rfl ?_
      refine Qw.val (fun w1 hq => Ex.ldT (ag_3 _) rfl (Sl.bs (by assumption) hq) (by omega)) rfl ?_
      refine Qw.val (fun w1 hq => (Ex.remI rfl rfl (Int.ediv_nonneg (by omega) (by omega)) (by omega)).as (congrArg (Value.int .i64) (show _ = spy x.s i from rfl))) rfl ?_
      refine Qw.val (fun w1 hq => Ex.move rfl) rfl ?_
      refine Qw.val (fun w1 hq => Ex.mulI rfl rfl (by omega)) rfl ?_
      refine Qw.val (fun w1 hq => Ex.assign rfl) rfl ?_
      refine Qw.nil (fun w4 hq => ?_)
      refine Pw.thenN (Cw.out ?_)
      refine Cw.seq ?_
      have hw4 := bt hw3 hq
      clear hq hw3 hw
      have b_x4 := b_x.bs hw4
      have h_x14 := h_x1.bs hw4
      refine Cw.region ?_
      refine Lw.val (Ex.move rfl) rfl ?_
      refine Lw.val (Ex.fieldAddr (q := 0) Try.underlying25 rfl (sz_22 _) rfl) rfl ?_
      refine Lw.val (Ex.ldB (ag_22 _) rfl (by assumption) rfl) rfl ?_
      refine Lw.val (Ex.idxT st_22 rfl rfl (by assumption) 2 rfl (by omega)) rfl ?_
      refine Lw.val (Ex.ldT (ag_3 _) rfl (by assumption) (by omega)) rfl ?_
      refine Lw.val ((Ex.remI rfl rfl (by omega) (by omega)).as (congrArg (Value.int .i64) (show _ = spx x.s i from rfl))) rfl ?_
      refine Lw.val (Ex.move rfl) rfl ?_
      refine Lw.val (Ex.mulI rfl rfl (by omega)) rfl ?_
      refine Lw.val (Ex.assign rfl) rfl ?_
      refine Lw.nil ?_
      refine Pw.thenN (Cw.out ?_)
      refine Cw.seq ?_
      refine Cw.region ?_
      refine Lw.val (Ex.assign rfl) rfl ?_
      refine Lw.nil ?_
      refine Pw.thenN (Cw.out ?_)
      refine Cw.seq ?_
      refine Cw.seq ?_
      refine Cw.region ?_
      refine Lw.val (Ex.assign rfl) rfl ?_
      refine Lw.nil ?_
      refine Pw.thenN (Cw.out ?_)
      refine Cw.block ?_
      refine Cw.loop (S := Nat) (fun k => [(3, .pointer (some ⟨A_t, 0, none⟩)), (7, .int .i64 (m : Int)), (8, .int .i64 (n : Int)), (11, .pointer (some ⟨A_x, 0, none⟩)), (13, .pointer (some ⟨A_z, 0, none⟩)), (14, .int .i64 G), (15, .int .i64 (i : Int)), (16, .int .i64 (spc x.s i)), (17, .int .i64 (spy x.s i * (m : Int))), (18, .int .i64 (spx x.s i * (m : Int))), (19, .bool ((List.range k).any fun j => decide (pooF t.l t.s x.s m i j = x.l.getD i default))), (20, .int .i64 (k : Int))]) (fun k w' => k ≤ m * m ∧ Below w.heap.size w w') (fun k => m * m - k) (0) ⟨rfl, rfl, rfl, rfl, rfl, rfl, rfl, rfl, rfl, rfl, rfl, rfl, trivial⟩ ?_ ?_
      · exact ⟨Nat.zero_le _, hw4⟩
      clear b_x2 b_t2 h_x12 h_x22 h_t12 h_t22 b_x3 h_x13 b_x4 h_x14 hw4
      rintro k w2 ⟨hk, hw⟩
      refine Cw.seq ?_
      refine Cw.seq ?_
      refine Cw.region ?_
      refine Lw.val (Ex.move rfl) rfl ?_
      refine Lw.val (Ex.move rfl) rfl ?_
      refine Lw.val (Ex.move rfl) rfl ?_
      refine Lw.val (Ex.mulI rfl rfl (by omega)) rfl ?_
      refine Lw.val (Ex.lss rfl rfl) rfl ?_
      refine Lw.nil ?_
      refine Pw.thenN (Cw.out ?_)
      refine Cw.cond rfl ?_ ?_
      · intro h
        have hk' : k < m * m := by have := of_decide_eq_true h; omega
        have km : (0 : Int) ≤ ((k / m : Nat) : Int) ∧ ((k / m : Nat) : Int) < m := ⟨Int.natCast_nonneg _, by have := Nat.div_lt_of_lt_mul hk'; exact_mod_cast this⟩
        have kr : (0 : Int) ≤ ((k % m : Nat) : Int) ∧ ((k % m : Nat) : Int) < m := ⟨Int.natCast_nonneg _, by have := Nat.mod_lt k (show 0 < m by omega); exact_mod_cast this⟩
        obtain ⟨kd, hkd⟩ : ∃ d : Nat, d = k / m := ⟨_, rfl⟩
        obtain ⟨ke, hke⟩ : ∃ d : Nat, d = k % m := ⟨_, rfl⟩
        rw [← hkd] at km
        rw [← hke] at kr
        have e1 : 0 ≤ spc x.s i * t.s.getD 1 default := Int.mul_nonneg ci.1 (by omega)
        have e2 : (spc x.s i + 1) * t.s.getD 1 default ≤ t.s.getD 0 default * t.s.getD 1 default := Int.mul_le_mul_of_nonneg_right (by omega) (by omega)
        have e0 : t.s.getD 0 default * t.s.getD 1 default ≤ 64 * 64 := Int.mul_le_mul d0.2 d1.2 (by omega) (by decide)
        rw [Int.add_mul, Int.one_mul] at e2
        have e3 : 0 ≤ (spc x.s i * t.s.getD 1 default + spy x.s i * (m : Int) + (kd : Int)) * t.s.getD 2 default := Int.mul_nonneg (by omega) (by omega)
        have e4 : (spc x.s i * t.s.getD 1 default + spy x.s i * (m : Int) + (kd : Int) + 1) * t.s.getD 2 default ≤ (t.s.getD 0 default * t.s.getD 1 default) * t.s.getD 2 default := Int.mul_le_mul_of_nonneg_right (by omega) (by omega)
        rw [Int.add_mul _ 1, Int.one_mul, Int.mul_assoc (t.s.getD 0 default)] at e4
        obtain ⟨K, hK⟩ : ∃ K : Nat, (spc x.s i * t.s.getD 1 default + spy x.s i * (m : Int) + (kd : Int)) * t.s.getD 2 default + spx x.s i * (m : Int) + (ke : Int) = (K : Int) := ⟨_, (Int.toNat_of_nonneg (by omega)).symm⟩
        have hKl : K < t.l.length := by omega
        have eo : t.l.getD K default = pooF t.l t.s x.s m i k := by
          unfold pooF
          rw [← hkd, ← hke, pic_in (by omega) (by omega), ← Int.add_assoc, ← Int.add_assoc, hK, Int.toNat_natCast]
        have le := key.2 k hk'
        have b_t5 := b_t.bs hw
        have b_x5 := b_x.bs hw
        have h_t15 := h_t1.bs hw
        have h_t25 := h_t2.bs hw
        refine Cw.skip ?_
        refine Pw.thenN (Cw.out ?_)
        refine Cw.seq ?_
        refine Cw.block ?_
        refine Cw.seq ?_
        refine Cw.quiet mixed (by kernel_rfl) ?_
        refine Qw.val (fun w1 hq => Ex.fieldAddr (q := 0) Try.underlying25 rfl (sz_23 _) rfl) rfl ?_
        refine Qw.val (fun w1 hq => Ex.ldB (ag_23 _) rfl (Blk.bs (by assumption) hq) rfl) rfl ?_
        refine Qw.val (fun w1 hq => Ex.move rfl) rfl ?_
        refine Qw.val (fun w1 hq => Ex.fieldAddr (q := 0) Try.underlying25 rfl (sz_22 _) rfl) rfl ?_
        refine Qw.val (fun w1 hq => Ex.ldB (ag_22 _) rfl (Blk.bs (by assumption) hq) rfl) rfl ?_
        refine Qw.val (fun w1 hq => Ex.idxT st_22 rfl rfl (Sl.bs (by assumption) hq) 1 rfl (by omega)) rfl ?_
        refine Qw.val (fun w1 hq => Ex.ldT (ag_3 _) rfl (Sl.bs (by assumption) hq) (by omega)) rfl ?_
        refine Qw.val (fun w1 hq => Ex.mulI rfl rfl (by omega)) rfl ?_
        refine Qw.val (fun w1 hq => Ex.move rfl) rfl ?_
        refine Qw.val (fun w1 hq => Ex.addI rfl rfl (by omega)) rfl ?_
        refine Qw.val (fun w1 hq => Ex.move rfl) rfl ?_
        refine Qw.val (fun w1 hq => Ex.move rfl) rfl ?_
        refine Qw.val (fun w1 hq => (Ex.quoI rfl rfl (by omega) (by omega)).as (congrArg (Value.int .i64) (show (k : Int) / (m : Int) = (kd : Int) by rw [hkd]; rfl))) rfl ?_
        refine Qw.val (fun w1 hq => Ex.addI rfl rfl (by omega)) rfl ?_
        refine Qw.val (fun w1 hq => Ex.fieldAddr (q := 0) Try.underlying25 rfl (sz_22 _) rfl) rfl ?_
        refine Qw.val (fun w1 hq => Ex.ldB (ag_22 _) rfl (Blk.bs (by assumption) hq) rfl) rfl ?_
        refine Qw.val (fun w1 hq => Ex.idxT st_22 rfl rfl (Sl.bs (by assumption) hq) 2 rfl (by omega)) rfl ?_
        refine Qw.val (fun w1 hq => Ex.ldT (ag_3 _) rfl (Sl.bs (by assumption) hq) (by omega)) rfl ?_
        refine Qw.val (fun w1 hq => Ex.mulI rfl rfl (by omega)) rfl ?_
        refine Qw.val (fun w1 hq => Ex.move rfl) rfl ?_
        refine Qw.val (fun w1 hq => Ex.addI rfl rfl (by omega)) rfl ?_
        refine Qw.val (fun w1 hq => Ex.move rfl) rfl ?_
        refine Qw.val (fun w1 hq => Ex.move rfl) rfl ?_
        refine Qw.val (fun w1 hq => (Ex.remI rfl rfl (by omega) (by omega)).as (congrArg (Value.int .i64) (show (k : Int) % (m : Int) = (ke : Int) by rw [hke]; rfl))) rfl ?_
        refine Qw.val (fun w1 hq => Ex.addI rfl rfl (by omega)) rfl ?_
        refine Qw.val (fun w1 hq => Ex.idxT st_23 rfl rfl (Sl.bs h_t25 hq) K hK hKl) rfl ?_
        refine Qw.val (fun w1 hq => (Ex.ldT (ag_21 _) rfl (Sl.bs h_t25 hq) hKl).as (congrArg i32 eo)) rfl ?_
        refine Qw.val (fun w1 hq => Ex.assign rfl) rfl ?_
        refine Qw.nil (fun w5 hq => ?_)
        refine Pw.thenN (Cw.out ?_)
        refine Cw.seq ?_
        refine Cw.seq ?_
        have hw5 := bt hw hq
        have b_x6 := b_x.bs hw5
        have h_x16 := h_x1.bs hw5
        have h_x26 := h_x2.bs hw5
        clear hq
        refine Cw.region ?_
        refine Lw.val (Ex.move rfl) rfl ?_
        refine Lw.val (Ex.fieldAddr (q := 0) Try.underlying25 rfl (sz_23 _) rfl) rfl ?_
        refine Lw.val (Ex.ldB (ag_23 _) rfl (by assumption) rfl) rfl ?_
        refine Lw.val (Ex.move rfl) rfl ?_
        refine Lw.val (Ex.idxT st_23 rfl rfl (by assumption) _ rfl (by omega)) rfl ?_
        refine Lw.val (Ex.ldT (ag_21 _) rfl (by assumption) (by omega)) rfl ?_
        refine Lw.val (Ex.gtr rfl rfl) rfl ?_
        refine Lw.nil ?_
        refine Pw.thenN (Cw.out ?_)
        refine Cw.condB rfl false (decide_eq_false (by omega)) ?_
        refine Cw.skip ?_
        refine Pw.thenN (Cw.out ?_)
        refine Cw.region ?_
        refine Lw.val (Ex.move rfl) rfl ?_
        refine Lw.val (Ex.move rfl) rfl ?_
        refine Lw.part 184 rfl ?_ ?_
        · intro g
          refine Lw.pass (dj := 184) rfl rfl rfl rfl ?_
          refine Lw.pass (dj := 184) rfl rfl rfl rfl ?_
          refine Lw.pass (dj := 184) rfl rfl rfl rfl ?_
          refine Lw.pass (dj := 184) rfl rfl rfl rfl ?_
          refine Lw.pass (dj := 184) rfl rfl rfl rfl ?_
          refine Lw.pass (dj := 184) rfl rfl rfl rfl ?_
          refine Lw.pass (dj := 184) rfl rfl rfl rfl ?_
          refine Lw.val (Ex.pickT rfl rfl) rfl ?_
          refine Lw.val (Ex.assign rfl) rfl ?_
          refine Lw.nil ?_
          refine Pw.blkN ?_
          refine Pw.thenN (Cw.out ?_)
          refine Cw.region ?_
          refine Lw.val (Ex.move rfl) rfl ?_
          refine Lw.val (Ex.addI rfl rfl (by omega)) rfl ?_
          refine Lw.val (Ex.assign rfl) rfl ?_
          refine Lw.nil ?_
          exact Pw.thenN (Pw.next (k + 1) ⟨rfl, rfl, rfl, rfl, rfl, rfl, rfl, rfl, rfl, rfl, congrArg (fun b => some (Value.bool b)) (by rw [any_last, g]; rfl), rfl, trivial⟩ (⟨hk', hw5⟩) (by omega))
        intro g
        refine Lw.take (dj := 184) rfl rfl ?_
        refine Lw.val (Ex.move rfl) rfl ?_
        refine Lw.take (dj := 184) rfl rfl ?_
        refine Lw.val (Ex.fieldAddr (q := 0) Try.underlying25 rfl (sz_23 _) rfl) rfl ?_
        refine Lw.take (dj := 184) rfl rfl ?_
        refine Lw.val (Ex.ldB (ag_23 _) rfl (by assumption) rfl) rfl ?_
        refine Lw.take (dj := 184) rfl rfl ?_
        refine Lw.val (Ex.move rfl) rfl ?_
        refine Lw.take (dj := 184) rfl rfl ?_
        refine Lw.val (Ex.idxT st_23 rfl rfl (by assumption) _ rfl (by omega)) rfl ?_
        refine Lw.take (dj := 184) rfl rfl ?_
        refine Lw.val (Ex.ldT (ag_21 _) rfl (by assumption) (by omega)) rfl ?_
        refine Lw.take (dj := 184) rfl rfl ?_
        refine Lw.val (Ex.eqli32 rfl rfl) rfl ?_
        refine Lw.val (Ex.pickF rfl rfl) rfl ?_
        refine Lw.val (Ex.assign rfl) rfl ?_
        refine Lw.nil ?_
        refine Pw.blkN ?_
        refine Pw.thenN (Cw.out ?_)
        refine Cw.region ?_
        refine Lw.val (Ex.move rfl) rfl ?_
        refine Lw.val (Ex.addI rfl rfl (by omega)) rfl ?_
        refine Lw.val (Ex.assign rfl) rfl ?_
        refine Lw.nil ?_
        exact Pw.thenN (Pw.next (k + 1) ⟨rfl, rfl, rfl, rfl, rfl, rfl, rfl, rfl, rfl, rfl, congrArg (fun b => some (Value.bool b)) (by rw [any_last, g, Bool.false_or]), rfl, trivial⟩ (⟨hk', hw5⟩) (by omega))
      intro h
      have hk' : k = m * m := by have := of_decide_eq_false h; omega
      subst hk'
      have th : ((List.range (m * m)).any fun j => decide (pooF t.l t.s x.s m i j = x.l.getD i default)) = true := by
        obtain ⟨⟨j, hj, e⟩, -⟩ := key
        exact List.any_eq_true.2 ⟨j, List.mem_range.2 hj, decide_eq_true e⟩
      refine Cw.exit ?_
      refine Pw.thenE ?_
      refine Pw.thenE ?_
      refine Pw.blkHit ?_
      refine Pw.thenN (Cw.out ?_)
      refine Cw.seq ?_
      refine Cw.region ?_
      refine Lw.val (Ex.move rfl) rfl ?_
      refine Lw.val (Ex.not rfl) rfl ?_
      refine Lw.nil ?_
      refine Pw.thenN (Cw.out ?_)
      refine Cw.condB rfl false (by rw [th]; rfl) ?_
      refine Cw.skip ?_
      refine Pw.blkN ?_
      refine Pw.thenN (Cw.out ?_)
      refine Cw.region ?_
      refine Lw.val (Ex.move rfl) rfl ?_
      refine Lw.val (Ex.addI rfl rfl (by omega)) rfl ?_
      refine Lw.val (Ex.assign rfl) rfl ?_
      refine Lw.nil ?_
      exact Pw.thenN (Pw.next (i + 1) ⟨rfl, rfl, rfl, rfl, rfl, rfl, rfl, trivial⟩ (⟨hi', hw⟩) (by omega))
    intro h
    clear b_x2 b_t2 h_x12 h_x22 h_t12 h_t22
    replace hB := hB.bs hw
    replace h_t := h_t.bs hw
    replace b_t := b_t.bs hw
    replace h_t1 := h_t1.bs hw
    replace h_one := h_one.bs hw
    replace b_one := b_one.bs hw
    replace h_x := h_x.bs hw
    replace b_x := b_x.bs hw
    replace h_z := h_z.bs hw
    replace b_z := b_z.bs hw
    replace h_x1 := h_x1.bs hw
    replace h_x2 := h_x2.bs hw
    replace h_t2 := h_t2.bs hw
    clear hw
    refine Cw.exit ?_
    refine Pw.thenE ?_
    refine Pw.thenE ?_
    refine Pw.blkHit ?_
    refine Pw.thenN (Cw.out ?_)
    refine Cw.seq ?_
    refine Cw.region ?_
    refine Lw.val (Ex.ldA (ag_25 _) (sz_25 _) rfl rfl (by assumption)) rfl ?_
    refine Lw.val (Ex.move rfl) rfl ?_
    refine Lw.callF rfl rfl (wpo_c x (n : Int) _ h_x) ?_
    rintro r w ⟨hn, y, rfl, h_y, -, z_y⟩
    replace hB := hB.bs hn
    replace h_t := h_t.bs hn
    replace b_t := b_t.bs hn
    replace h_t1 := h_t1.bs hn
    replace h_one := h_one.bs hn
    replace b_one := b_one.bs hn
    replace h_x := h_x.bs hn
    replace b_x := b_x.bs hn
    replace h_z := h_z.bs hn
    replace b_z := b_z.bs hn
    replace h_x1 := h_x1.bs hn
    replace h_x2 := h_x2.bs hn
    replace h_t2 := h_t2.bs hn
    clear hn
    refine Lw.val (Ex.move rfl) rfl ?_
    refine Lw.val (Ex.extract (i := 0) rfl rfl) rfl ?_
    refine Lw.val (Ex.extract (i := 1) rfl rfl) rfl ?_
    refine Lw.boxed (cs := [y.x, y.y]) it_25 rfl rfl rfl rfl (fun _ => rfl) (h_y.one) ?_
    rintro A_y w eA_y b_y hn -
    replace hB := hB.bs hn
    replace h_t := h_t.bs hn
    replace b_t := b_t.bs hn
    replace h_t1 := h_t1.bs hn
    replace h_one := h_one.bs hn
    replace b_one := b_one.bs hn
    replace h_x := h_x.bs hn
    replace b_x := b_x.bs hn
    replace h_z := h_z.bs hn
    replace b_z := b_z.bs hn
    replace h_x1 := h_x1.bs hn
    replace h_x2 := h_x2.bs hn
    replace h_t2 := h_t2.bs hn
    replace h_y := h_y.bs hn
    clear hn
    refine Lw.val (Ex.assign rfl) rfl ?_
    refine Lw.nil ?_
    refine Pw.thenN (Cw.out ?_)
    refine Cw.seq ?_
    refine Cw.seq ?_
    refine Cw.region ?_
    refine Lw.val (Ex.move rfl) rfl ?_
    refine Lw.val (Ex.neq rfl rfl) rfl ?_
    refine Lw.nil ?_
    refine Pw.thenN (Cw.out ?_)
    have eE := pool_E2 P (tok_ok k_t).1 n1.1 (by omega) (by omega)
    have k_x : tok x.s x.l = true := by simp only [tok, okx, Bool.true_and, decide_eq_true_eq]; omega
    rw [← s_x, ← wpoE_tok k_t, ← wpoE_tok k_x, ← hG] at eE
    rw [eE] at z_y ⊢
    refine Cw.cond rfl ?_ ?_
    · intro g
      have g : G ≠ 0 := by simpa using g
      refine Cw.seq ?_
      refine Cw.region ?_
      refine Lw.val (Ex.move rfl) rfl ?_
      refine Lw.val (Ex.eql rfl rfl) rfl ?_
      refine Lw.val (Ex.assign rfl) rfl ?_
      refine Lw.nil ?_
      refine Pw.thenN (Cw.out ?_)
      refine Cw.ret ?_
      refine Pw.thenR ?_
      refine Pw.ret1 rfl rfl ?_
      have g10 : G = 10 := by
        rw [eG] at g ⊢
        split at g
        · exact absurd rfl g
        · rename_i h9; rw [if_neg h9]
      exact ⟨congrArg Value.bool (decide_eq_true g10), hB⟩
    intro g
    have g0 : G = 0 := by simpa using g
    obtain ⟨s_y, l_y, -⟩ := z_y g0
    obtain ⟨s_z, l_z, -⟩ := z_z g0
    have Q := pool_ok k_t ((wpoE_tok k_t).symm.trans (hG.symm.trans g0))
    obtain ⟨r1, r2⟩ := pool_two P Q n1.1 s_x l_x
    refine Cw.skip ?_
    refine Pw.thenN (Cw.out ?_)
    refine Cw.seq ?_
    refine Cw.region ?_
    refine Lw.val (Ex.ldA (ag_25 _) (sz_25 _) rfl rfl (by assumption)) rfl ?_
    refine Lw.val (Ex.ldA (ag_25 _) (sz_25 _) rfl rfl (by assumption)) rfl ?_
    refine Lw.val (Ex.move rfl) rfl ?_
    refine Lw.val (Ex.move rfl) rfl ?_
    refine Lw.callF rfl rfl (same8_c y z G G _ h_y h_z) ?_
    rintro _ w ⟨rfl, hn⟩
    replace hB := hB.bs hn
    replace h_t := h_t.bs hn
    replace b_t := b_t.bs hn
    replace h_t1 := h_t1.bs hn
    replace h_one := h_one.bs hn
    replace b_one := b_one.bs hn
    replace h_x := h_x.bs hn
    replace b_x := b_x.bs hn
    replace h_z := h_z.bs hn
    replace b_z := b_z.bs hn
    replace h_x1 := h_x1.bs hn
    replace h_x2 := h_x2.bs hn
    replace h_t2 := h_t2.bs hn
    replace h_y := h_y.bs hn
    replace b_y := b_y.bs hn
    clear hn
    refine Lw.val (Ex.assign rfl) rfl ?_
    refine Lw.nil ?_
    refine Pw.thenN (Cw.out ?_)
    refine Cw.ret ?_
    refine Pw.ret1 rfl rfl ?_
    exact ⟨congrArg Value.bool (by rw [decide_eq_true rfl, decide_eq_true (s_y.trans (r1.trans s_z.symm)), decide_eq_true (l_y.trans (r2.trans l_z.symm))]; rfl), hB⟩
  rw [if_neg hF] at eF
  rw [if_neg (by omega)] at eG
  rw [eF, eG]
  refine Lw.part 85 rfl ?_ ?_
  · intro g
    refine Lw.take (dj := 85) rfl rfl ?_
    refine Lw.val (Ex.fieldAddr (q := 0) Try.underlying25 rfl (sz_22 _) rfl) rfl ?_
    refine Lw.take (dj := 85) rfl rfl ?_
    refine Lw.val (Ex.ldB (ag_22 _) rfl (by assumption) rfl) rfl ?_
    refine Lw.take (dj := 85) rfl rfl ?_
    refine Lw.val (Ex.idxT st_22 rfl rfl (by assumption) 2 rfl (by omega)) rfl ?_
    refine Lw.take (dj := 85) rfl rfl ?_
    refine Lw.val (Ex.ldT (ag_3 _) rfl (by assumption) (by omega)) rfl ?_
    refine Lw.take (dj := 85) rfl rfl ?_
    refine Lw.val (Ex.move rfl) rfl ?_
    refine Lw.take (dj := 85) rfl rfl ?_
    refine Lw.val (Ex.geq rfl rfl) rfl ?_
    refine Lw.take (dj := 76) rfl rfl ?_
    refine Lw.val (Ex.pickT rfl rfl) rfl ?_
    refine Lw.take (dj := 76) rfl rfl ?_
    refine Lw.val (Ex.neqB un_4 rfl rfl) rfl ?_
    refine Lw.val (Ex.pickF rfl rfl) rfl ?_
    refine Lw.nil ?_
    refine Pw.thenN (Cw.out ?_)
    refine Cw.condB rfl false (by have g1 := of_decide_eq_true g; have h9 : ¬ (m : Int) ≤ t.s.getD 2 default := fun h => hF ⟨g1, h⟩; rw [decide_eq_false h9]; rfl) ?_
    refine Cw.skip ?_
    refine Pw.thenN (Cw.out ?_)
    refine Cw.seq ?_
    refine Cw.seq ?_
    refine Cw.region ?_
    refine Lw.val (Ex.move rfl) rfl ?_
    refine Lw.val (Ex.neq rfl rfl) rfl ?_
    refine Lw.nil ?_
    refine Pw.thenN (Cw.out ?_)
    refine Cw.condB rfl true (rfl) ?_
    refine Cw.seq ?_
    refine Cw.region ?_
    refine Lw.val (Ex.move rfl) rfl ?_
    refine Lw.val (Ex.eql rfl rfl) rfl ?_
    refine Lw.val (Ex.move rfl) rfl ?_
    refine Lw.know 99 (v' := .bool true) rfl (congrArg Value.bool (rfl)) ?_
    refine Lw.take (dj := 99) rfl rfl ?_
    refine Lw.val (Ex.move rfl) rfl ?_
    refine Lw.take (dj := 99) rfl rfl ?_
    refine Lw.val (Ex.eql rfl rfl) rfl ?_
    refine Lw.val (Ex.pickT rfl rfl) rfl ?_
    refine Lw.val (Ex.assign rfl) rfl ?_
    refine Lw.nil ?_
    refine Pw.thenN (Cw.out ?_)
    refine Cw.ret ?_
    refine Pw.thenR ?_
    refine Pw.ret1 rfl rfl ?_
    exact ⟨rfl, hB⟩
  intro g
  refine Lw.pass (dj := 85) rfl rfl rfl rfl ?_
  refine Lw.pass (dj := 85) rfl rfl rfl rfl ?_
  refine Lw.pass (dj := 85) rfl rfl rfl rfl ?_
  refine Lw.pass (dj := 85) rfl rfl rfl rfl ?_
  refine Lw.pass (dj := 85) rfl rfl rfl rfl ?_
  refine Lw.pass (dj := 85) rfl rfl rfl rfl ?_
  refine Lw.take (dj := 76) rfl rfl ?_
  refine Lw.val (Ex.pickF rfl rfl) rfl ?_
  refine Lw.take (dj := 76) rfl rfl ?_
  refine Lw.val (Ex.neqB un_4 rfl rfl) rfl ?_
  refine Lw.val (Ex.pickF rfl rfl) rfl ?_
  refine Lw.nil ?_
  refine Pw.thenN (Cw.out ?_)
  refine Cw.condB rfl false (rfl) ?_
  refine Cw.skip ?_
  refine Pw.thenN (Cw.out ?_)
  refine Cw.seq ?_
  refine Cw.seq ?_
  refine Cw.region ?_
  refine Lw.val (Ex.move rfl) rfl ?_
  refine Lw.val (Ex.neq rfl rfl) rfl ?_
  refine Lw.nil ?_
  refine Pw.thenN (Cw.out ?_)
  refine Cw.condB rfl true (rfl) ?_
  refine Cw.seq ?_
  refine Cw.region ?_
  refine Lw.val (Ex.move rfl) rfl ?_
  refine Lw.val (Ex.eql rfl rfl) rfl ?_
  refine Lw.val (Ex.move rfl) rfl ?_
  refine Lw.know 99 (v' := .bool true) rfl (congrArg Value.bool (rfl)) ?_
  refine Lw.take (dj := 99) rfl rfl ?_
  refine Lw.val (Ex.move rfl) rfl ?_
  refine Lw.take (dj := 99) rfl rfl ?_
  refine Lw.val (Ex.eql rfl rfl) rfl ?_
  refine Lw.val (Ex.pickT rfl rfl) rfl ?_
  refine Lw.val (Ex.assign rfl) rfl ?_
  refine Lw.nil ?_
  refine Pw.thenN (Cw.out ?_)
  refine Cw.ret ?_
  refine Pw.thenR ?_
  refine Pw.ret1 rfl rfl ?_
  exact ⟨rfl, hB⟩

set_option maxRecDepth 100000 in
set_option maxHeartbeats 2000000 in
theorem windowsGreatest_lifted (os : Os) (started : os.Started) (H : Type) (enc : TypeId × Value → H) :
    ReturnsInHanded {} Try.checked os 4 .any (Rows.windowsGreatestSpec.pre6 enc Try.prog Try.f4 Rows.windowsGreatestRow.domain false) (Rows.windowsGreatestSpec.post enc Try.prog Try.f4 false true false false) := by
  refine returnsInHanded_of_change_sized (C := Try.checked) own started (by kernel_rfl) Try.func4
    (ChangeSpec.witness6 (enc := enc) (C := Try.checked) false ⟨#[], #[.agg #[.slice none 0 0, .slice none 0 0], .int .u8 0, .int .u8 0], []⟩ 8 (by kernel_rfl) (by kernel_rfl) (by kernel_rfl) (by kernel_rfl)) ?_
  intro W base args ds gs before hval0 hW hcnd hsz0 _
  have hval : ∀ (j : Nat) t v, Try.f4.params[j]? = some t → args[j]? = some v → Value.okWide Try.prog W .any base t v := hval0
  have hW' := hW
  obtain ⟨p, q, hA0, hV, rfl, hfz, hnd⟩ := hW
  have hA : DataW.TrodAll enc Try.prog W 0 (fun _ => true) true Try.f4.params.toList args.toList ds p := hA0
  have hsz : (DataW.weightsEach Try.prog (Try.f4.params.toList ++ Rows.windowsGreatestSpec.plain.varTypes Try.prog) (ds ++ gs)).all (· ≤ reachBytes) = true := hsz0
  rw [Try.params4] at hA hval hsz
  obtain ⟨v0, vs0, d0, ds0, p0, q0, hargs, rfl, rfl, h0, r0⟩ := trodAll_cons hA
  obtain ⟨v1, vs1, d1, ds1, p1, q1, rfl, rfl, rfl, h1, r1⟩ := trodAll_cons r0
  obtain ⟨v2, vs2, d2, ds2, p2, q2, rfl, rfl, rfl, h2, r2⟩ := trodAll_cons r1
  obtain ⟨rfl, rfl, rfl⟩ := trodAll_nil r2
  obtain rfl : args = #[v0, v1, v2] := by cases args; simp_all
  obtain ⟨rfl, rfl⟩ := trodVars_none hV
  have k0 := h0
  have lt0 : ∀ x ∈ p0, x.block < W.heap.size := by obtain ⟨m, hm⟩ := k0; exact DataW.trod_lt m _ _ _ hm
  have i0 := in_of (j := 0) (t := 25) hsz rfl rfl h0
  have o0 := hval 0 25 v0 rfl rfl
  have k1 := h1
  have lt1 : ∀ x ∈ p1, x.block < W.heap.size := by obtain ⟨m, hm⟩ := k1; exact DataW.trod_lt m _ _ _ hm
  have i1 := in_of (j := 1) (t := 5) hsz rfl rfl h1
  have o1 := hval 1 5 v1 rfl rfl
  have k2 := h2
  have lt2 : ∀ x ∈ p2, x.block < W.heap.size := by obtain ⟨m, hm⟩ := k2; exact DataW.trod_lt m _ _ _ hm
  have i2 := in_of (j := 2) (t := 5) hsz rfl rfl h2
  have o2 := hval 2 5 v2 rfl rfl
  clear hA0 hval0 hsz0 hsz
  obtain ⟨t, rfl, ht, b1, b2⟩ := arg_ten o0 i0
  obtain ⟨a, rfl⟩ := arg_num (BitVec.ofInt 8) b8 (fun _ h => wf_u8 h) un_5 o1 i1
  obtain ⟨b, rfl⟩ := arg_num (BitVec.ofInt 8) b8 (fun _ h => wf_u8 h) un_5 o2 i2
  refine (law_calls (windowsGreatest_w t a b W ht ⟨by omega, by omega⟩)).mono fun e W' ⟨he, bel⟩ => ?_
  subst he
  exact ⟨_, rfl, _, _, _, [], _, [], hW', trodAll_mk1 (shut_bool un_4 _), (trodAll_cons_mk (Below.trod laidOut (by kernel_rfl) (of_decide_eq_true (by kernel_rfl)) k0 bel lt0) (trodAll_cons_mk (Below.trod laidOut (by kernel_rfl) (of_decide_eq_true (by kernel_rfl)) k1 bel lt1) (trodAll_cons_mk (Below.trod laidOut (by kernel_rfl) (of_decide_eq_true (by kernel_rfl)) k2 bel lt2) trodAll_mk0))), rfl, bel.frame _, fun h => by cases h⟩

/-- The statement. -/
theorem windowsGreatest_proved : Rows.WindowsGreatestSaid :=
  OpenClaim.holds_of_wide 4 Try.f4 rfl rfl rfl rfl rfl rfl rfl ⟨rfl, rfl, rfl, rfl, rfl⟩ rfl rfl rfl rfl rfl (by kernel_rfl) Try.func4 (by kernel_rfl)
    (of_decide_eq_true (by kernel_rfl)) (by unfold Func.isWrapper; first | (rw [if_pos (by decide +kernel)]; kernel_rfl) | (rw [if_neg (by decide +kernel)]; exact ⟨rfl, rfl⟩))
    (fun os started H enc _ => windowsGreatest_lifted os started H enc)
#print axioms windowsGreatest_proved
end Go.Proofs.Ytgjpjpdmkeifeaa
