/- Plain law on shapes: nothing here names a program. -/
namespace Go.Dd.Shapes

def prod : List Int → Int
  | [] => 1
  | x :: s => x * prod s
/-- The product, as long as each is a direction and it is not too great. -/
def tim (n : Int) : List Int → Int
  | [] => n
  | x :: l => if x < 1 ∨ 64 < x then 0 else if 4096 < n * x then 0 else tim (n * x) l
def size (s : List Int) : Int := if s.length < 1 ∨ 4 < s.length then 0 else tim 1 s
def good (s : List Int) : Prop := ∀ x ∈ s, 1 ≤ x ∧ x ≤ 64
def ok (s : List Int) : Bool := decide (0 < size s)
def inn : List Int → List Int → Bool
  | [], [] => true
  | x :: s, a :: t => decide (0 ≤ a) && decide (a < x) && inn s t
  | _, _ => false
def idx : List Int → List Int → Int
  | _ :: s, a :: t => a * prod s + idx s t
  | _, _ => 0
def place : List Int → Int → List Int
  | [], _ => []
  | x :: s, i => (i / prod s % x) :: place s i
def lex : List Int → List Int → Bool
  | a :: s, b :: t => if a = b then lex s t else decide (a < b)
  | _, _ => false
/-- What Index tells. -/
def index (s t : List Int) : Int × Int := if ok s && inn s t then (idx s t, 0) else (0, 1)

/-- What At tells. -/
def atl (s : List Int) (i : Int) : List Int := if 0 ≤ i ∧ i < size s then place s i else []
def ate (s : List Int) (i : Int) : Int := if 0 ≤ i ∧ i < size s then 0 else 1

theorem good_cons {x : Int} {s : List Int} : good (x :: s) ↔ (1 ≤ x ∧ x ≤ 64) ∧ good s := by simp [good]
theorem good_append {s t : List Int} : good (s ++ t) ↔ good s ∧ good t := by
  simp only [good, List.mem_append]
  exact ⟨fun h => ⟨fun x hx => h x (.inl hx), fun x hx => h x (.inr hx)⟩, fun h x hx => hx.elim (h.1 x) (h.2 x)⟩
theorem good_drop {s : List Int} (h : good s) (k : Nat) : good (s.drop k) := fun x hx => h x (List.mem_of_mem_drop hx)
theorem prod_append (s t : List Int) : prod (s ++ t) = prod s * prod t := by
  induction s with
  | nil => simp [prod]
  | cons x s ih => simp [prod, ih, Int.mul_assoc]
theorem prod_pos : ∀ {s : List Int}, good s → 1 ≤ prod s
  | [], _ => by simp [prod]
  | x :: s, h => by
    have h1 := (good_cons.1 h).1
    have h2 := prod_pos (good_cons.1 h).2
    have := Int.mul_le_mul h1.1 h2 (by omega) (by omega)
    simpa [prod] using this
theorem tim_eq : ∀ (s : List Int) (n : Int), 1 ≤ n → n ≤ 4096 → (good s ∧ n * prod s ≤ 4096 ∧ tim n s = n * prod s) ∨ (¬ (good s ∧ n * prod s ≤ 4096) ∧ tim n s = 0)
  | [], n, h1, h2 => .inl ⟨by simp [good], by simpa [prod] using h2, by simp [tim, prod]⟩
  | x :: s, n, h1, h2 => by
    by_cases hx : x < 1 ∨ 64 < x
    · exact .inr ⟨fun h => by have := (good_cons.1 h.1).1; omega, by simp [tim, hx]⟩
    · have hx1 : 1 ≤ x := by omega
      have hnx : 1 ≤ n * x := by have := Int.mul_le_mul h1 hx1 (by omega) (by omega); simpa using this
      by_cases h4 : 4096 < n * x
      · refine .inr ⟨fun h => ?_, by simp [tim, hx, h4]⟩
        have h5 := prod_pos (good_cons.1 h.1).2
        have h6 := Int.mul_le_mul (Int.le_refl (n * x)) h5 (by omega) (by omega)
        have h7 := h.2
        simp only [prod, ← Int.mul_assoc] at h7
        omega
      · have ht : tim n (x :: s) = tim (n * x) s := by simp [tim, hx, h4]
        have e : n * prod (x :: s) = n * x * prod s := by simp [prod, Int.mul_assoc]
        rw [ht, e]
        rcases tim_eq s (n * x) hnx (by omega) with ⟨g, l, t⟩ | ⟨g, t⟩
        · exact .inl ⟨good_cons.2 ⟨by omega, g⟩, l, t⟩
        · exact .inr ⟨fun h => g ⟨(good_cons.1 h.1).2, h.2⟩, t⟩
theorem tim_pos (s : List Int) : 0 ≤ tim 1 s ∧ tim 1 s ≤ 4096 := by
  rcases tim_eq s 1 (by omega) (by omega) with ⟨g, l, t⟩ | ⟨g, t⟩
  · have := prod_pos g; omega
  · omega
theorem size_le (s : List Int) : 0 ≤ size s ∧ size s ≤ 4096 := by
  unfold size
  split
  · omega
  · exact tim_pos s
theorem ok_iff (s : List Int) : ok s = true ↔ (1 ≤ s.length ∧ s.length ≤ 4) ∧ good s ∧ prod s ≤ 4096 := by
  unfold ok size
  rw [decide_eq_true_iff]
  split
  · omega
  · rcases tim_eq s 1 (by omega) (by omega) with ⟨g, l, t⟩ | ⟨g, t⟩
    · have := prod_pos g
      simp only [Int.one_mul] at l t
      rw [t]; exact ⟨fun _ => ⟨by omega, g, l⟩, fun _ => by omega⟩
    · simp only [Int.one_mul] at g
      rw [t]; exact ⟨fun h => by omega, fun h => absurd h.2 g⟩
theorem size_ok {s : List Int} (h : ok s = true) : size s = prod s := by
  have h1 := (ok_iff s).1 h
  unfold size
  rw [if_neg (by omega)]
  rcases tim_eq s 1 (by omega) (by omega) with ⟨g, l, t⟩ | ⟨g, t⟩
  · simpa using t
  · exact absurd ⟨h1.2.1, by simpa using h1.2.2⟩ g
theorem size_no {s : List Int} (h : ok s = false) : size s = 0 := by
  have := size_le s
  unfold ok at h
  have := of_decide_eq_false h
  omega
theorem size_pos (s : List Int) : decide (0 < size s) = ok s := rfl
theorem ok_prod {s : List Int} (h : ok s = true) (k : Nat) : 1 ≤ prod (s.drop k) ∧ prod (s.drop k) ≤ 4096 := by
  obtain ⟨_, g, l⟩ := (ok_iff s).1 h
  have h1 := prod_pos (good_drop g k)
  refine ⟨h1, ?_⟩
  have h2 : prod s = prod (s.take k) * prod (s.drop k) := by rw [← prod_append, List.take_append_drop]
  have h3 := prod_pos (s := s.take k) fun x hx => g x (List.mem_of_mem_take hx)
  have := Int.mul_le_mul h3 (Int.le_refl (prod (s.drop k))) (by omega) (by omega)
  omega
theorem prod_drop {s : List Int} {k : Nat} (h : k < s.length) : prod (s.drop k) = s.getD k default * prod (s.drop (k + 1)) := by
  rw [List.drop_eq_getElem_cons h]; simp [prod, h]

theorem inn_length : ∀ {s t : List Int}, inn s t = true → t.length = s.length
  | [], [], _ => rfl
  | x :: s, a :: t, h => by simp only [inn, Bool.and_eq_true] at h; simp [inn_length h.2]
  | [], _ :: _, h => by simp [inn] at h
  | _ :: _, [], h => by simp [inn] at h
theorem inn_at : ∀ {s t : List Int} {k : Nat}, inn s t = true → k < s.length → 0 ≤ t.getD k default ∧ t.getD k default < s.getD k default
  | _ :: _, _ :: _, 0, h, _ => by simp only [inn, Bool.and_eq_true, decide_eq_true_eq] at h; simpa using h.1
  | _ :: s, _ :: t, k + 1, h, hk => by
    simp only [inn, Bool.and_eq_true, decide_eq_true_eq] at h
    simpa using inn_at (s := s) (t := t) (k := k) h.2 (by simpa using hk)
  | [], _, _, _, hk => by simp at hk
  | _ :: _, [], _, h, _ => by simp [inn] at h
theorem inn_drop {s t : List Int} {k : Nat} (h1 : k < s.length) (h2 : t.length = s.length) : inn (s.drop k) (t.drop k) = (decide (0 ≤ t.getD k default) && decide (t.getD k default < s.getD k default) && inn (s.drop (k + 1)) (t.drop (k + 1))) := by
  have h3 : k < t.length := by omega
  rw [List.drop_eq_getElem_cons h1, List.drop_eq_getElem_cons h3]
  simp [inn, h1, h3]
theorem idx_drop {s t : List Int} {k : Nat} (h1 : k < s.length) (h2 : t.length = s.length) : idx (s.drop k) (t.drop k) = t.getD k default * prod (s.drop (k + 1)) + idx (s.drop (k + 1)) (t.drop (k + 1)) := by
  have h3 : k < t.length := by omega
  rw [List.drop_eq_getElem_cons h1, List.drop_eq_getElem_cons h3]
  simp [idx, h3]
theorem idx_lt : ∀ {s t : List Int}, good s → inn s t = true → 0 ≤ idx s t ∧ idx s t < prod s
  | [], [], _, _ => by simp [idx, prod]
  | x :: s, a :: t, g, h => by
    simp only [inn, Bool.and_eq_true, decide_eq_true_eq] at h
    have ih := idx_lt (good_cons.1 g).2 h.2
    have hp := prod_pos (good_cons.1 g).2
    have h1 : 0 ≤ a * prod s := Int.mul_nonneg h.1.1 (by omega)
    have h2 : (a + 1) * prod s ≤ x * prod s := Int.mul_le_mul_of_nonneg_right (by omega) (by omega)
    rw [Int.add_mul] at h2
    simp only [idx, prod]
    omega
  | [], _ :: _, _, h => by simp [inn] at h
  | _ :: _, [], _, h => by simp [inn] at h
theorem place_length (s : List Int) (i : Int) : (place s i).length = s.length := by
  induction s with
  | nil => rfl
  | cons x s ih => simp [place, ih]
theorem place_at {i : Int} : ∀ {s : List Int} {k : Nat}, k < s.length → (place s i).getD k default = i / prod (s.drop (k + 1)) % s.getD k default
  | x :: s, 0, _ => by simp [place]
  | x :: s, k + 1, h => by
    have := place_at (i := i) (s := s) (k := k) (by simpa using h)
    simpa [place] using this
theorem place_in {i : Int} (hi : 0 ≤ i) : ∀ {s : List Int}, good s → inn s (place s i) = true
  | [], _ => rfl
  | x :: s, g => by
    have h1 := (good_cons.1 g).1
    simp only [place, inn, place_in hi (good_cons.1 g).2, Bool.and_true, Bool.and_eq_true, decide_eq_true_eq]
    exact ⟨Int.emod_nonneg _ (by omega), Int.emod_lt_of_pos _ (by omega)⟩
theorem emod_mul (i p x : Int) (hi : 0 ≤ i) (hp : 0 ≤ p) (hx : 0 ≤ x) : i / p % x * p + i % p = i % (x * p) := by
  obtain ⟨i, rfl⟩ := Int.eq_ofNat_of_zero_le hi
  obtain ⟨p, rfl⟩ := Int.eq_ofNat_of_zero_le hp
  obtain ⟨x, rfl⟩ := Int.eq_ofNat_of_zero_le hx
  have h := Nat.mod_mul (x := i) (a := p) (b := x)
  have : i / p % x * p + i % p = i % (x * p) := by rw [Nat.mul_comm x p, h, Nat.mul_comm p]; omega
  exact_mod_cast this
theorem idx_place {i : Int} (hi : 0 ≤ i) : ∀ {s : List Int}, good s → idx s (place s i) = i % prod s
  | [], _ => by simp [idx, prod]
  | x :: s, g => by
    have hp := prod_pos (good_cons.1 g).2
    have h1 := (good_cons.1 g).1
    simp only [place, idx, idx_place hi (good_cons.1 g).2, prod]
    exact emod_mul _ _ _ hi (by omega) (by omega)
theorem lex_iff : ∀ {s a b : List Int}, good s → inn s a = true → inn s b = true → (lex a b = true ↔ idx s a < idx s b)
  | [], [], [], _, _, _ => by simp [lex, idx]
  | x :: s, a :: t, b :: u, g, h, k => by
    simp only [inn, Bool.and_eq_true, decide_eq_true_eq] at h k
    have h1 := idx_lt (good_cons.1 g).2 h.2
    have k1 := idx_lt (good_cons.1 g).2 k.2
    have ih := lex_iff (good_cons.1 g).2 h.2 k.2
    have hp := prod_pos (good_cons.1 g).2
    simp only [lex, idx]
    by_cases hab : a = b
    · subst hab
      simp only [if_true]
      rw [ih]; omega
    · rw [if_neg hab, decide_eq_true_iff]
      rcases Int.lt_or_gt_of_ne hab with hlt | hgt
      · have := Int.mul_le_mul_of_nonneg_right (c := prod s) (show a + 1 ≤ b by omega) (by omega)
        rw [Int.add_mul] at this
        exact ⟨fun _ => by omega, fun _ => hlt⟩
      · have := Int.mul_le_mul_of_nonneg_right (c := prod s) (show b + 1 ≤ a by omega) (by omega)
        rw [Int.add_mul] at this
        exact ⟨fun h => by omega, fun h => by omega⟩
  | [], _ :: _, _, _, h, _ => by simp [inn] at h
  | [], [], _ :: _, _, _, h => by simp [inn] at h
  | _ :: _, [], _, _, h, _ => by simp [inn] at h
  | _ :: _, _ :: _, [], _, _, h => by simp [inn] at h
end Go.Dd.Shapes
