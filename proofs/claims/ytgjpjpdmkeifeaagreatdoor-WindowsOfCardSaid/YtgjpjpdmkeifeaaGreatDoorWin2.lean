/- Plain law: windows, for what is stated of them. Nothing here names a program. -/
import Derived.Test.YtgjpjpdmkeifeaaGreatDoorWin
namespace Go.Dd
open Go Go.RowKit

theorem spot_back {s : List Int} {c y x : Int} (h1 : 0 ≤ y ∧ y < s.getD 1 default) (h2 : 0 ≤ x ∧ x < s.getD 2 default) :
    spc s ((c * s.getD 1 default + y) * s.getD 2 default + x) = c ∧ spy s ((c * s.getD 1 default + y) * s.getD 2 default + x) = y ∧ spx s ((c * s.getD 1 default + y) * s.getD 2 default + x) = x := by
  unfold spc spy spx
  generalize s.getD 1 default = H at *
  generalize s.getD 2 default = V at *
  have e0 : (c * H + y) * V + x = x + (c * H + y) * V := Int.add_comm _ _
  have e1 : ((c * H + y) * V + x) / V = c * H + y := by
    rw [e0, Int.add_mul_ediv_right _ _ (by omega), Int.ediv_eq_zero_of_lt h2.1 h2.2, Int.zero_add]
  refine ⟨?_, ?_, ?_⟩
  · have e2 : (c * H + y) * V + x = (y * V + x) + c * (H * V) := by rw [Int.add_mul, Int.mul_assoc]; omega
    have e3 : 0 ≤ y * V := Int.mul_nonneg h1.1 (by omega)
    have e4 : (y + 1) * V ≤ H * V := Int.mul_le_mul_of_nonneg_right (by omega) (by omega)
    rw [Int.add_mul] at e4
    rw [e2, Int.add_mul_ediv_right _ _ (by omega), Int.ediv_eq_zero_of_lt (by omega) (by omega), Int.zero_add]
  · rw [e1, show c * H + y = y + c * H from Int.add_comm _ _, Int.add_mul_emod_self_right, Int.emod_eq_of_lt h1.1 h1.2]
  · rw [e0, Int.add_mul_emod_self_right, Int.emod_eq_of_lt h2.1 h2.2]
theorem spot_on {s : List Int} {j : Int} (h1 : 1 ≤ s.getD 1 default) (h2 : 1 ≤ s.getD 2 default) :
    (spc s j * s.getD 1 default + spy s j) * s.getD 2 default + spx s j = j ∧ (0 ≤ spy s j ∧ spy s j < s.getD 1 default) ∧ (0 ≤ spx s j ∧ spx s j < s.getD 2 default) := by
  have a1 : 0 ≤ spy s j ∧ spy s j < s.getD 1 default := ⟨Int.emod_nonneg _ (by omega), Int.emod_lt_of_pos _ (by omega)⟩
  have a2 : 0 ≤ spx s j ∧ spx s j < s.getD 2 default := ⟨Int.emod_nonneg _ (by omega), Int.emod_lt_of_pos _ (by omega)⟩
  have e : (j / s.getD 2 default / s.getD 1 default * s.getD 1 default + spy s j) * s.getD 2 default + spx s j = j := by
    unfold spy spx
    rw [Int.emod_def (j / s.getD 2 default), Int.emod_def j]
    rw [show j / s.getD 2 default / s.getD 1 default * s.getD 1 default + (j / s.getD 2 default - s.getD 1 default * (j / s.getD 2 default / s.getD 1 default)) = j / s.getD 2 default by rw [Int.mul_comm (s.getD 1 default)]; omega]
    rw [Int.mul_comm (s.getD 2 default)]; omega
  have b := spot_back (s := s) (c := j / s.getD 2 default / s.getD 1 default) a1 a2
  rw [e] at b
  exact ⟨by rw [b.1]; exact e, a1, a2⟩
theorem pic_in {l : List (BitVec 32)} {r w c y x : Int} (h1 : 0 ≤ y ∧ y < r) (h2 : 0 ≤ x ∧ x < w) : pic l r w c y x = l.getD ((c * r + y) * w + x).toNat default := if_neg (by omega)
theorem pic_out {l : List (BitVec 32)} {r w c y x : Int} (h : y < 0 ∨ r ≤ y ∨ x < 0 ∨ w ≤ x) : pic l r w c y x = 0#32 := if_pos h
theorem pic_spot {s : List Int} {l : List (BitVec 32)} {j : Nat} (h1 : 1 ≤ s.getD 1 default) (h2 : 1 ≤ s.getD 2 default) : pic l (s.getD 1 default) (s.getD 2 default) (spc s j) (spy s j) (spx s j) = l.getD j default := by
  obtain ⟨e, a, b⟩ := spot_on (j := (j : Int)) h1 h2
  rw [pic_in a b, e, Int.toNat_natCast]
theorem pic_add {a b c : List (BitVec 32)} (h : ∀ i, c.getD i default = a.getD i default + b.getD i default) (r w k y x : Int) : pic c r w k y x = pic a r w k y x + pic b r w k y x := by
  unfold pic
  split
  · rfl
  · exact h _

/-- All sums. -/
def winL (tl wl : List (BitVec 32)) (t s ws : List Int) (one : Nat) (step pad : Int) : List (BitVec 32) := (List.range (Shapes.size s).toNat).map fun i => winS tl wl t s ws one step pad i one
theorem winL_length (tl wl : List (BitVec 32)) (t s ws : List Int) (one : Nat) (step pad : Int) : (winL tl wl t s ws one step pad).length = (Shapes.size s).toNat := by simp [winL]
theorem winL_at {tl wl : List (BitVec 32)} {t s ws : List Int} {one : Nat} {step pad : Int} {i : Nat} (h : i < (Shapes.size s).toNat) : (winL tl wl t s ws one step pad).getD i default = winS tl wl t s ws one step pad i one := by simp [winL, h]
theorem winS_addl {a b c : List (BitVec 32)} (h : ∀ i, c.getD i default = a.getD i default + b.getD i default) (wl : List (BitVec 32)) (t s ws : List Int) (one : Nat) (step pad : Int) (i n : Nat) :
    winS c wl t s ws one step pad i n = winS a wl t s ws one step pad i n + winS b wl t s ws one step pad i n := by
  unfold winS
  rw [← sm_add]
  refine sm_congr fun j _ => ?_
  unfold winT
  rw [pic_add h, BitVec.add_mul]
theorem winS_addr {a b c : List (BitVec 32)} (h : ∀ i, c.getD i default = a.getD i default + b.getD i default) (tl : List (BitVec 32)) (t s ws : List Int) (one : Nat) (step pad : Int) (i n : Nat) :
    winS tl c t s ws one step pad i n = winS tl a t s ws one step pad i n + winS tl b t s ws one step pad i n := by
  unfold winS
  rw [← sm_add]
  refine sm_congr fun j _ => ?_
  unfold winT
  rw [h, BitVec.mul_add]
theorem winS_one {tl : List (BitVec 32)} {n : BitVec 32} {t s : List Int} {step pad : Int} {i : Nat} (h : spc s i = 0) :
    winS tl [n] t s [1, 1, 1] 1 step pad i 1 = pic tl (t.getD 1 default) (t.getD 2 default) 0 (spy s i * step - pad) (spx s i * step - pad) * n := by
  have e1 : spc [1, 1, 1] ((0 : Nat) : Int) = 0 := rfl
  have e2 : spy [1, 1, 1] ((0 : Nat) : Int) = 0 := rfl
  have e3 : spx [1, 1, 1] ((0 : Nat) : Int) = 0 := rfl
  show 0#32 + winT tl [n] t s [1, 1, 1] 1 step pad i 0 = _
  unfold winT
  rw [h, e1, e2, e3, Int.add_zero, Int.add_zero]
  simp
theorem winS_full {tl ol : List (BitVec 32)} {t s : List Int} {N i : Nat} (hc : spc s i = 0) (hy : spy s i = 0) (hx : spx s i = 0) (h1 : 1 ≤ t.getD 1 default) (h2 : 1 ≤ t.getD 2 default) :
    winS tl ol t s t N 3 0 i N = sm N fun j => ol.getD j default * tl.getD j default := by
  unfold winS
  refine sm_congr fun j _ => ?_
  unfold winT
  rw [hc, hy, hx, show (0 * 3 - 0 : Int) = 0 from rfl, Int.zero_add, Int.zero_add, pic_spot h1 h2, BitVec.mul_comm]
  simp
/-- A picture that stands within noughts. -/
theorem winS_wide {tl vl fl : List (BitVec 32)} {t t' s ws : List Int} {N i : Nat} {step p C : Int} (hw : ∀ c y x, 0 ≤ c → c < C → pic vl (t'.getD 1 default) (t'.getD 2 default) c y x = pic tl (t.getD 1 default) (t.getD 2 default) c (y - p) (x - p))
    (hc : ∀ j, j < N → 0 ≤ spc ws (j : Nat) ∧ spc ws (j : Nat) < C) : winS vl fl t' s ws N step 0 i N = winS tl fl t s ws N step p i N := by
  unfold winS
  refine sm_congr fun j hj => ?_
  unfold winT
  obtain ⟨h1, h2⟩ := hc j hj
  rw [hw _ _ _ h1 h2]
  congr 2
  · omega
  · omega
/-- What stands at a place, when the first i numbers were brought there. -/
def padF (tl : List (BitVec 32)) (h w : Int) (s : List Int) (p : Int) (i : Nat) (j : Nat) : BitVec 32 :=
  if spy s j - p < 0 ∨ h ≤ spy s j - p ∨ spx s j - p < 0 ∨ w ≤ spx s j - p ∨ (i : Int) ≤ (spc s j * h + (spy s j - p)) * w + (spx s j - p) then 0#32 else tl.getD ((spc s j * h + (spy s j - p)) * w + (spx s j - p)).toNat default
theorem padF_pic {tl : List (BitVec 32)} {t s : List Int} {p C : Int} {i : Nat} (h1 : 1 ≤ t.getD 1 default) (h2 : 1 ≤ t.getD 2 default) (hi : (i : Int) = C * (t.getD 1 default * t.getD 2 default)) {j : Nat} (hc : spc s j < C) :
    padF tl (t.getD 1 default) (t.getD 2 default) s p i j = pic tl (t.getD 1 default) (t.getD 2 default) (spc s j) (spy s j - p) (spx s j - p) := by
  unfold padF pic
  by_cases h : spy s j - p < 0 ∨ t.getD 1 default ≤ spy s j - p ∨ spx s j - p < 0 ∨ t.getD 2 default ≤ spx s j - p
  · rw [if_pos h, if_pos (by omega)]
  · rw [if_neg h, if_neg]
    rintro (g | g | g | g | g)
    · omega
    · omega
    · omega
    · omega
    · generalize spy s j - p = y at *
      generalize spx s j - p = x at *
      generalize t.getD 1 default = H at *
      generalize t.getD 2 default = V at *
      have e1 : (spc s j * H + y + 1) * V ≤ (C * H) * V := by
        refine Int.mul_le_mul_of_nonneg_right ?_ (by omega)
        have : (spc s j + 1) * H ≤ C * H := Int.mul_le_mul_of_nonneg_right (by omega) (by omega)
        rw [Int.add_mul, Int.one_mul] at this
        omega
      rw [Int.add_mul _ 1 V, Int.one_mul, Int.mul_assoc C] at e1
      omega
theorem pic_pad {tl vl : List (BitVec 32)} {t s : List Int} {p C : Int} (hp : 0 ≤ p) (hs1 : s.getD 1 default = t.getD 1 default + 2 * p) (hs2 : s.getD 2 default = t.getD 2 default + 2 * p)
    (hv : ∀ j : Nat, (j : Int) < C * (s.getD 1 default * s.getD 2 default) → vl.getD j default = pic tl (t.getD 1 default) (t.getD 2 default) (spc s j) (spy s j - p) (spx s j - p)) :
    ∀ c y x, 0 ≤ c → c < C → pic vl (s.getD 1 default) (s.getD 2 default) c y x = pic tl (t.getD 1 default) (t.getD 2 default) c (y - p) (x - p) := by
  intro c y x h0 h1
  by_cases h : y < 0 ∨ s.getD 1 default ≤ y ∨ x < 0 ∨ s.getD 2 default ≤ x
  · rw [pic_out h, pic_out (by omega)]
  · have hy : 0 ≤ y ∧ y < s.getD 1 default := by omega
    have hx : 0 ≤ x ∧ x < s.getD 2 default := by omega
    obtain ⟨b1, b2, b3⟩ := spot_back (c := c) hy hx
    have e3 : 0 ≤ (c * s.getD 1 default + y) * s.getD 2 default := Int.mul_nonneg (by have := Int.mul_nonneg h0 (show 0 ≤ s.getD 1 default by omega); omega) (by omega)
    have e1 : (c * s.getD 1 default + y + 1) * s.getD 2 default ≤ (C * s.getD 1 default) * s.getD 2 default := by
      refine Int.mul_le_mul_of_nonneg_right ?_ (by omega)
      have : (c + 1) * s.getD 1 default ≤ C * s.getD 1 default := Int.mul_le_mul_of_nonneg_right (by omega) (by omega)
      rw [Int.add_mul, Int.one_mul] at this
      omega
    rw [Int.add_mul _ 1, Int.one_mul, Int.mul_assoc C] at e1
    rw [pic_in hy hx, hv _ (by rw [Int.toNat_of_nonneg (by omega)]; omega), Int.toNat_of_nonneg (by omega), b1, b2, b3]
theorem pad_set {tl : List (BitVec 32)} {t s : List Int} {p : Int} {i M : Nat} (hp : 0 ≤ p) (hs1 : s.getD 1 default = t.getD 1 default + 2 * p) (hs2 : s.getD 2 default = t.getD 2 default + 2 * p)
    (h1 : 1 ≤ t.getD 1 default) (h2 : 1 ≤ t.getD 2 default) {k : Nat} (hk : (k : Int) = (spc t i * s.getD 1 default + (spy t i + p)) * s.getD 2 default + (spx t i + p)) :
    ((List.range M).map (padF tl (t.getD 1 default) (t.getD 2 default) s p i)).set k (tl.getD i default) = (List.range M).map (padF tl (t.getD 1 default) (t.getD 2 default) s p (i + 1)) := by
  obtain ⟨e, ay, ax⟩ := spot_on (j := (i : Int)) h1 h2
  obtain ⟨b1, b2, b3⟩ := spot_back (s := s) (c := spc t i) (y := spy t i + p) (x := spx t i + p) (by omega) (by omega)
  rw [← hk] at b1 b2 b3
  apply List.ext_getElem (by simp)
  intro j hj1 hj2
  simp only [List.length_set, List.length_map, List.length_range] at hj1
  rw [List.getElem_set]
  by_cases hjk : k = j
  · subst hjk
    rw [if_pos rfl]
    simp only [List.getElem_map, List.getElem_range]
    unfold padF
    rw [b1, b2, b3, show spy t i + p - p = spy t i by omega, show spx t i + p - p = spx t i by omega, e, if_neg (by omega), Int.toNat_natCast]
  · rw [if_neg hjk]
    simp only [List.getElem_map, List.getElem_range]
    unfold padF
    obtain ⟨e', ay', ax'⟩ := spot_on (s := s) (j := (j : Int)) (by omega) (by omega)
    by_cases h : spy s j - p < 0 ∨ t.getD 1 default ≤ spy s j - p ∨ spx s j - p < 0 ∨ t.getD 2 default ≤ spx s j - p
    · rw [if_pos (by omega), if_pos (by omega)]
    · have hne : (spc s j * t.getD 1 default + (spy s j - p)) * t.getD 2 default + (spx s j - p) ≠ (i : Int) := by
        intro he
        obtain ⟨d1, d2, d3⟩ := spot_back (s := t) (c := spc s j) (y := spy s j - p) (x := spx s j - p) (by omega) (by omega)
        rw [he] at d1 d2 d3
        apply hjk
        have : (k : Int) = (j : Int) := by
          rw [hk, d1, d2, d3, show spy s j - p + p = spy s j by omega, show spx s j - p + p = spx s j by omega, e']
        omega
      by_cases hi : (i : Int) ≤ (spc s j * t.getD 1 default + (spy s j - p)) * t.getD 2 default + (spx s j - p)
      · rw [if_pos (by omega), if_pos (by push_cast; omega)]
      · rw [if_neg (by omega), if_neg (by push_cast; omega)]
theorem padF_zero (tl : List (BitVec 32)) {t s : List Int} {p : Int} (h1 : 1 ≤ t.getD 1 default) (h2 : 1 ≤ t.getD 2 default) (M : Nat) (hc : ∀ j, j < M → 0 ≤ spc s (j : Nat)) :
    (List.range M).map (padF tl (t.getD 1 default) (t.getD 2 default) s p 0) = List.replicate M 0#32 := by
  apply List.ext_getElem (by simp)
  intro j hj1 hj2
  simp only [List.length_map, List.length_range] at hj1
  simp only [List.getElem_map, List.getElem_range, List.getElem_replicate]
  unfold padF
  by_cases h : spy s j - p < 0 ∨ t.getD 1 default ≤ spy s j - p ∨ spx s j - p < 0 ∨ t.getD 2 default ≤ spx s j - p
  · rw [if_pos (by omega)]
  · have e1 := hc j hj1
    have e2 : 0 ≤ spc s j * t.getD 1 default := Int.mul_nonneg e1 (by omega)
    have e3 : 0 ≤ (spc s j * t.getD 1 default + (spy s j - p)) * t.getD 2 default := Int.mul_nonneg (by omega) (by omega)
    rw [if_pos (by push_cast; omega)]
/-- Windows that stand beside one another. -/
theorem winS_piece {tl fl : List (BitVec 32)} {t s s' ws : List Int} {N i o : Nat} {step pad : Int} (h1 : s'.getD 1 default = s.getD 1 default) (h2 : s'.getD 2 default = s.getD 2 default) (k1 : 1 ≤ s.getD 1 default) (k2 : 1 ≤ s.getD 2 default)
    (hi : (i : Int) < s.getD 1 default * s.getD 2 default) {k : Nat} (hk : (k : Int) = o * (s.getD 1 default * s.getD 2 default) + i) :
    winS tl ((fl.drop (o * N)).take N) t s' ws N step pad i N = winS tl fl t s ws N step pad k N := by
  obtain ⟨e, ay, ax⟩ := spot_on (j := (i : Int)) k1 k2
  have c0 : spc s i = 0 := Int.ediv_eq_zero_of_lt (by omega) hi
  have c0' : spc s' i = 0 := by unfold spc; rw [h1, h2]; exact c0
  have ek : (k : Int) = (o * s.getD 1 default + spy s i) * s.getD 2 default + spx s i := by
    rw [hk]
    rw [c0, Int.zero_mul, Int.zero_add] at e
    rw [Int.add_mul, ← Int.mul_assoc]; omega
  obtain ⟨b1, b2, b3⟩ := spot_back (s := s) (c := (o : Int)) ay ax
  rw [← ek] at b1 b2 b3
  have ey : spy s' i = spy s i := by unfold spy; rw [h1, h2]
  have ex : spx s' i = spx s i := by unfold spx; rw [h2]
  unfold winS
  refine sm_congr fun j hj => ?_
  unfold winT
  rw [b1, b2, b3, c0', ey, ex]
  congr 1
  rw [Int.toNat_natCast]
  simp [hj]

/-! ### The greatest -/
def smax (p q : BitVec 32) : BitVec 32 := if p.toInt < q.toInt then q else p
theorem smax_int (p q : BitVec 32) : (smax p q).toInt = if p.toInt < q.toInt then q.toInt else p.toInt := by unfold smax; split <;> rfl
def mx (f : Nat → BitVec 32) (p : BitVec 32) : Nat → BitVec 32
  | 0 => p
  | n + 1 => smax (mx f p n) (f n)
/-- It is the greatest of these. -/
def Mx (f : Nat → BitVec 32) (n : Nat) (v : BitVec 32) : Prop := (∃ k, k < n ∧ f k = v) ∧ ∀ k, k < n → (f k).toInt ≤ v.toInt
theorem mx_mx {f : Nat → BitVec 32} : ∀ {n : Nat}, Mx f (n + 1) (mx f (f 0) (n + 1))
  | 0 => by
    have e : mx f (f 0) 1 = f 0 := by simp [mx, smax]
    rw [e]
    exact ⟨⟨0, by omega, rfl⟩, fun k hk => by obtain rfl : k = 0 := by omega
                                              exact Int.le_refl _⟩
  | n + 1 => by
    obtain ⟨⟨k, hk, e⟩, h⟩ := mx_mx (f := f) (n := n)
    show Mx f (n + 2) (smax (mx f (f 0) (n + 1)) (f (n + 1)))
    unfold smax
    split
    · exact ⟨⟨n + 1, by omega, rfl⟩, fun j hj => by
        rcases Nat.lt_or_ge j (n + 1) with hl | hl
        · have := h j hl; omega
        · obtain rfl : j = n + 1 := by omega
          exact Int.le_refl _⟩
    · exact ⟨⟨k, by omega, e⟩, fun j hj => by
        rcases Nat.lt_or_ge j (n + 1) with hl | hl
        · exact h j hl
        · obtain rfl : j = n + 1 := by omega
          omega⟩
theorem Mx.unique {f : Nat → BitVec 32} {n : Nat} {u v : BitVec 32} (h : Mx f n u) (g : Mx f n v) : u = v := by
  obtain ⟨⟨i, hi, rfl⟩, h2⟩ := h
  obtain ⟨⟨j, hj, rfl⟩, g2⟩ := g
  exact BitVec.toInt_inj.1 (by have := h2 j hj; have := g2 i hi; omega)
theorem Mx.congr {f g : Nat → BitVec 32} {n : Nat} {v : BitVec 32} (h : Mx f n v) (e : ∀ k, k < n → f k = g k) : Mx g n v := by
  obtain ⟨⟨k, hk, h1⟩, h2⟩ := h
  exact ⟨⟨k, hk, by rw [← e k hk]; exact h1⟩, fun j hj => by rw [← e j hj]; exact h2 j hj⟩
/-- The greatest of the greatest. -/
theorem Mx.two {f : Nat → BitVec 32} {g : Nat → Nat → BitVec 32} {u : Nat → BitVec 32} {n m q : Nat} {v : BitVec 32} (h : Mx u n v) (hg : ∀ k, k < n → Mx (g k) m (u k))
    (to : ∀ k j, k < n → j < m → ∃ r, r < q ∧ f r = g k j) (fro : ∀ r, r < q → ∃ k j, k < n ∧ j < m ∧ f r = g k j) : Mx f q v := by
  obtain ⟨⟨k, hk, rfl⟩, h2⟩ := h
  obtain ⟨⟨j, hj, e⟩, -⟩ := hg k hk
  obtain ⟨r, hr, er⟩ := to k j hk hj
  refine ⟨⟨r, hr, by rw [er, e]⟩, fun r hr => ?_⟩
  obtain ⟨k', j', hk', hj', e'⟩ := fro r hr
  rw [e']
  exact Int.le_trans ((hg k' hk').2 j' hj') (h2 k' hk')
/-- The number at a place of the pool. -/
def pooF (tl : List (BitVec 32)) (t s : List Int) (m : Nat) (i k : Nat) : BitVec 32 := pic tl (t.getD 1 default) (t.getD 2 default) (spc s i) (spy s i * m + ((k / m : Nat) : Int)) (spx s i * m + ((k % m : Nat) : Int))
def pooV (tl : List (BitVec 32)) (t s : List Int) (m : Nat) (i : Nat) : BitVec 32 := mx (pooF tl t s m i) (pooF tl t s m i 0) (m * m)
def pooL (tl : List (BitVec 32)) (t s : List Int) (m : Nat) : List (BitVec 32) := (List.range (Shapes.size s).toNat).map (pooV tl t s m)
theorem pooV_mx {tl : List (BitVec 32)} {t s : List Int} {m i : Nat} (hm : 1 ≤ m) : Mx (pooF tl t s m i) (m * m) (pooV tl t s m i) := by
  have h1 : 1 ≤ m * m := Nat.mul_le_mul hm hm
  obtain ⟨n, hn⟩ : ∃ n, m * m = n + 1 := ⟨m * m - 1, by omega⟩
  unfold pooV
  rw [hn]
  exact mx_mx
theorem pooL_at {tl : List (BitVec 32)} {t s : List Int} {m i : Nat} (h : i < (Shapes.size s).toNat) : (pooL tl t s m).getD i default = pooV tl t s m i := by simp [pooL, h]
/-- Squares of one number. -/
theorem pooV_one {tl : List (BitVec 32)} {s : List Int} {i : Nat} (h1 : 1 ≤ s.getD 1 default) (h2 : 1 ≤ s.getD 2 default) : pooV tl s s 1 i = tl.getD i default := by
  have e : pooF tl s s 1 i 0 = tl.getD i default := by
    unfold pooF
    rw [show ((0 / 1 : Nat) : Int) = 0 from rfl, Int.add_zero, Int.add_zero, show ((1 : Nat) : Int) = 1 from rfl, Int.mul_one, Int.mul_one]
    exact pic_spot h1 h2
  show smax (pooF tl s s 1 i 0) (pooF tl s s 1 i 0) = _
  rw [e]
  simp [smax]
/-- Squares of squares. -/
theorem pooV_two {tl xl : List (BitVec 32)} {t a b : List Int} {m n i : Nat} (hm : 1 ≤ m) (hn : 1 ≤ n) (b1 : 1 ≤ b.getD 1 default) (b2 : 1 ≤ b.getD 2 default)
    (q1 : b.getD 1 default * n ≤ a.getD 1 default) (q2 : b.getD 2 default * n ≤ a.getD 2 default)
    (hx : ∀ c y x : Int, c = spc b i → 0 ≤ y ∧ y < a.getD 1 default → 0 ≤ x ∧ x < a.getD 2 default → ∃ j : Nat, (j : Int) = (c * a.getD 1 default + y) * a.getD 2 default + x ∧ xl.getD j default = pooV tl t a m j) :
    pooV xl a b n i = pooV tl t b (m * n) i := by
  have hmn : 1 ≤ m * n := Nat.mul_le_mul hm hn
  refine Mx.unique (Mx.two (pooV_mx hn) (g := fun k => pooF tl t a m (((spc b i * a.getD 1 default + (spy b i * n + ((k / n : Nat) : Int))) * a.getD 2 default + (spx b i * n + ((k % n : Nat) : Int))).toNat)) (m := m * m) (q := m * n * (m * n)) (fun k hk => ?_) (fun k j hk hj => ?_) (fun r hr => ?_)) (pooV_mx hmn)
  all_goals obtain ⟨-, ay, ax⟩ := spot_on (j := (i : Int)) b1 b2
  all_goals have y1 : (spy b i + 1) * n ≤ b.getD 1 default * n := Int.mul_le_mul_of_nonneg_right (by omega) (by omega)
  all_goals have x1 : (spx b i + 1) * n ≤ b.getD 2 default * n := Int.mul_le_mul_of_nonneg_right (by omega) (by omega)
  all_goals have y0 : 0 ≤ spy b i * n := Int.mul_nonneg (by omega) (by omega)
  all_goals have x0 : 0 ≤ spx b i * n := Int.mul_nonneg (by omega) (by omega)
  all_goals rw [Int.add_mul, Int.one_mul] at y1 x1
  · obtain ⟨k1, k2, -⟩ := at_rc hk
    have n1 : (0 : Int) ≤ ((k / n : Nat) : Int) := Int.natCast_nonneg _
    have n2 : (0 : Int) ≤ ((k % n : Nat) : Int) := Int.natCast_nonneg _
    obtain ⟨j, hj, e⟩ := hx (spc b i) (spy b i * n + ((k / n : Nat) : Int)) (spx b i * n + ((k % n : Nat) : Int)) rfl (by omega) (by omega)
    rw [← hj, Int.toNat_natCast]
    have e2 : pooF xl a b n i k = xl.getD j default := by
      unfold pooF
      rw [pic_in (by omega) (by omega), ← hj, Int.toNat_natCast]
    rw [e2, e]
    exact pooV_mx hm
  · obtain ⟨k1, k2, -⟩ := at_rc hk
    obtain ⟨j1, j2, -⟩ := at_rc hj
    have n1 : (0 : Int) ≤ ((k / n : Nat) : Int) := Int.natCast_nonneg _
    have n2 : (0 : Int) ≤ ((k % n : Nat) : Int) := Int.natCast_nonneg _
    refine ⟨(k / n * m + j / m) * (m * n) + (k % n * m + j % m), ?_, ?_⟩
    · refine rc_lt ?_ ?_
      · rw [Nat.mul_comm m n]; exact rc_lt k1 j1
      · rw [Nat.mul_comm m n]; exact rc_lt k2 j2
    · have l2 : k % n * m + j % m < m * n := by rw [Nat.mul_comm m n]; exact rc_lt k2 j2
      have e1 : ((k / n * m + j / m) * (m * n) + (k % n * m + j % m)) / (m * n) = k / n * m + j / m := by
        rw [Nat.mul_comm (k / n * m + j / m), Nat.mul_add_div (by omega), Nat.div_eq_of_lt l2, Nat.add_zero]
      have e2 : ((k / n * m + j / m) * (m * n) + (k % n * m + j % m)) % (m * n) = k % n * m + j % m := by
        rw [Nat.mul_comm (k / n * m + j / m), Nat.mul_add_mod, Nat.mod_eq_of_lt l2]
      obtain ⟨i', hi', -⟩ := hx (spc b i) (spy b i * n + ((k / n : Nat) : Int)) (spx b i * n + ((k % n : Nat) : Int)) rfl (by omega) (by omega)
      obtain ⟨c1, c2, c3⟩ := spot_back (s := a) (c := spc b i) (y := spy b i * n + ((k / n : Nat) : Int)) (x := spx b i * n + ((k % n : Nat) : Int)) (by omega) (by omega)
      show pooF tl t b (m * n) i _ = pooF tl t a m _ j
      unfold pooF
      rw [e1, e2, ← hi', Int.toNat_natCast, hi', c1, c2, c3]
      push_cast
      congr 1
      · rw [Int.add_mul, Int.mul_comm (m : Int) (n : Int), Int.mul_assoc]; omega
      · rw [Int.add_mul, Int.mul_comm (m : Int) (n : Int), Int.mul_assoc]; omega
  · obtain ⟨r1, r2, r3⟩ := at_rc hr
    have f1 : r / (m * n) / m < n := Nat.div_lt_of_lt_mul (by omega)
    have f2 : r % (m * n) / m < n := Nat.div_lt_of_lt_mul (by omega)
    have g1 : r / (m * n) % m < m := Nat.mod_lt _ (by omega)
    have g2 : r % (m * n) % m < m := Nat.mod_lt _ (by omega)
    refine ⟨r / (m * n) / m * n + r % (m * n) / m, r / (m * n) % m * m + r % (m * n) % m, rc_lt f1 f2, rc_lt g1 g2, ?_⟩
    have e1 : (r / (m * n) / m * n + r % (m * n) / m) / n = r / (m * n) / m := by rw [Nat.mul_comm (r / (m * n) / m), Nat.mul_add_div (by omega), Nat.div_eq_of_lt f2, Nat.add_zero]
    have e2 : (r / (m * n) / m * n + r % (m * n) / m) % n = r % (m * n) / m := by rw [Nat.mul_comm (r / (m * n) / m), Nat.mul_add_mod, Nat.mod_eq_of_lt f2]
    have e3 : (r / (m * n) % m * m + r % (m * n) % m) / m = r / (m * n) % m := by rw [Nat.mul_comm (r / (m * n) % m), Nat.mul_add_div (by omega), Nat.div_eq_of_lt g2, Nat.add_zero]
    have e4 : (r / (m * n) % m * m + r % (m * n) % m) % m = r % (m * n) % m := by rw [Nat.mul_comm (r / (m * n) % m), Nat.mul_add_mod, Nat.mod_eq_of_lt g2]
    have n1 : (0 : Int) ≤ ((r / (m * n) / m : Nat) : Int) := Int.natCast_nonneg _
    have n2 : (0 : Int) ≤ ((r % (m * n) / m : Nat) : Int) := Int.natCast_nonneg _
    obtain ⟨i', hi', -⟩ := hx (spc b i) (spy b i * n + ((r / (m * n) / m : Nat) : Int)) (spx b i * n + ((r % (m * n) / m : Nat) : Int)) rfl (by omega) (by omega)
    obtain ⟨c1, c2, c3⟩ := spot_back (s := a) (c := spc b i) (y := spy b i * n + ((r / (m * n) / m : Nat) : Int)) (x := spx b i * n + ((r % (m * n) / m : Nat) : Int)) (by omega) (by omega)
    show pooF tl t b (m * n) i r = pooF tl t a m _ _
    unfold pooF
    rw [e1, e2, e3, e4, ← hi', Int.toNat_natCast, hi', c1, c2, c3]
    have h5 : m * (r / (m * n) / m) + r / (m * n) % m = r / (m * n) := Nat.div_add_mod _ _
    have h6 : m * (r % (m * n) / m) + r % (m * n) % m = r % (m * n) := Nat.div_add_mod _ _
    have h7 : ((r / (m * n) : Nat) : Int) = (m : Int) * ((r / (m * n) / m : Nat) : Int) + ((r / (m * n) % m : Nat) : Int) := by exact_mod_cast h5.symm
    have h8 : ((r % (m * n) : Nat) : Int) = (m : Int) * ((r % (m * n) / m : Nat) : Int) + ((r % (m * n) % m : Nat) : Int) := by exact_mod_cast h6.symm
    rw [h7, h8, Int.natCast_mul]
    generalize ((r / (m * n) / m : Nat) : Int) = Q1
    generalize ((r / (m * n) % m : Nat) : Int) = Q2
    generalize ((r % (m * n) / m : Nat) : Int) = R1
    generalize ((r % (m * n) % m : Nat) : Int) = R2
    have q : ∀ z Q : Int, z * ((m : Int) * (n : Int)) + ((m : Int) * Q + Q2) = (z * n + Q) * m + Q2 := fun z Q => by
      rw [Int.add_mul, Int.mul_comm Q, Int.mul_comm (m : Int) (n : Int), ← Int.mul_assoc]; omega
    have q' : ∀ z Q : Int, z * ((m : Int) * (n : Int)) + ((m : Int) * Q + R2) = (z * n + Q) * m + R2 := fun z Q => by
      rw [Int.add_mul, Int.mul_comm Q, Int.mul_comm (m : Int) (n : Int), ← Int.mul_assoc]; omega
    rw [q, q']
end Go.Dd
