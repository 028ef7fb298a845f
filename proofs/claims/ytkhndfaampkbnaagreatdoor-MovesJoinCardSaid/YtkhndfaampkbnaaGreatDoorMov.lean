/- Plain law: numbers that are moved. Nothing here names a program. -/
import Derived.Test.YtkhndfaampkbnaaGreatDoorSum
import Derived.Test.YtkhndfaampkbnaaGreatDoorShp
import Derived.Test.YtkhndfaampkbnaaGreatDoorOps
namespace Go.Dd
open Go Go.RowKit

/-! ### Sums of whole numbers -/
def isum (f : Nat → Int) : Nat → Int
  | 0 => 0
  | n + 1 => isum f n + f n
theorem isum_le {f g : Nat → Int} : ∀ {n : Nat}, (∀ i, i < n → f i ≤ g i) → isum f n ≤ isum g n
  | 0, _ => Int.le_refl _
  | n + 1, h => by
    have h1 := isum_le (n := n) fun i hi => h i (by omega)
    have h2 := h n (by omega)
    simp only [isum]; omega
theorem isum_pos {f : Nat → Int} : ∀ {n : Nat}, (∀ i, i < n → 0 ≤ f i) → 0 ≤ isum f n
  | 0, _ => Int.le_refl _
  | n + 1, h => by
    have h1 := isum_pos (n := n) fun i hi => h i (by omega)
    have h2 := h n (by omega)
    simp only [isum]; omega
theorem isum_mono {f : Nat → Int} {n m : Nat} (hm : n ≤ m) (h : ∀ i, i < m → 0 ≤ f i) : isum f n ≤ isum f m := by
  induction m with
  | zero => obtain rfl : n = 0 := by omega
            exact Int.le_refl _
  | succ m ih =>
    rcases Nat.lt_or_ge n (m + 1) with hl | hl
    · have h1 := ih (by omega) fun i hi => h i (by omega)
      have h2 := h m (by omega)
      simp only [isum]; omega
    · obtain rfl : n = m + 1 := by omega
      exact Int.le_refl _
theorem isum_congr {f g : Nat → Int} : ∀ {n : Nat}, (∀ i, i < n → f i = g i) → isum f n = isum g n
  | 0, _ => rfl
  | n + 1, h => by simp only [isum]; rw [isum_congr (n := n) fun i hi => h i (by omega), h n (by omega)]
def lsum (f : Nat → Int) : List Nat → Int
  | [] => 0
  | x :: l => f x + lsum f l
theorem lsum_append (f : Nat → Int) : ∀ (l m : List Nat), lsum f (l ++ m) = lsum f l + lsum f m
  | [], m => by simp [lsum]
  | x :: l, m => by simp only [List.cons_append, lsum]; rw [lsum_append f l m]; omega
theorem lsum_perm {f : Nat → Int} {l m : List Nat} (h : l.Perm m) : lsum f l = lsum f m := by
  induction h with
  | nil => rfl
  | cons x _ ih => simp only [lsum]; rw [ih]
  | swap x y l => simp only [lsum]; omega
  | trans _ _ h1 h2 => rw [h1, h2]
theorem lsum_range (f : Nat → Int) : ∀ n, lsum f (List.range n) = isum f n
  | 0 => rfl
  | n + 1 => by rw [List.range_succ, lsum_append, lsum_range f n]; simp [isum, lsum]
theorem isum_list (f : Nat → Int) (l : List Nat) : ∀ n, n ≤ l.length → isum (fun j => f (l.getD j default)) n = lsum f (l.take n)
  | 0, _ => by simp [isum, lsum]
  | n + 1, h => by
    rw [isum, isum_list f l n (by omega), List.take_succ_eq_append_getElem (by omega), lsum_append]
    have : n < l.length := by omega
    simp [lsum, this]
theorem isum_all (f : Nat → Int) (l : List Nat) : isum (fun j => f (l.getD j default)) l.length = lsum f l := by rw [isum_list f l _ (Nat.le_refl _), List.take_length]
theorem prod_tele {s : List Int} : ∀ {n : Nat}, n ≤ s.length → isum (fun k => (s.getD k default - 1) * Shapes.prod (s.drop (k + 1))) n = Shapes.prod s - Shapes.prod (s.drop n)
  | 0, _ => by simp [isum]
  | n + 1, h => by
    rw [isum, prod_tele (n := n) (by omega), Shapes.prod_drop (s := s) (k := n) (by omega), Int.sub_mul, Int.one_mul]; omega
theorem prod_perm {l m : List Int} (h : l.Perm m) : Shapes.prod l = Shapes.prod m := by
  induction h with
  | nil => rfl
  | cons x _ ih => simp only [Shapes.prod]; rw [ih]
  | swap x y l => simp only [Shapes.prod]; rw [← Int.mul_assoc, ← Int.mul_assoc, Int.mul_comm x y]
  | trans _ _ h1 h2 => rw [h1, h2]

theorem dim_at {s : List Int} (h : Shapes.good s) {k : Nat} (hk : k < s.length) : 1 ≤ s.getD k default ∧ s.getD k default ≤ 64 := by
  have : s.getD k default ∈ s := by simp [hk]
  exact h _ this

/-! ### Orders -/
def ordC (o : List Int) (j : Nat) : Bool := decide (0 ≤ o.getD j default) && decide (o.getD j default < (o.length : Int)) && !(o.take j).contains (o.getD j default)
def ordOk (o : List Int) : Bool := (List.range o.length).all (ordC o)
theorem ordOk_iff {o : List Int} : ordOk o = true ↔ ∀ j, j < o.length → ordC o j = true := by
  unfold ordOk
  rw [List.all_eq_true]
  exact ⟨fun h j hj => h j (List.mem_range.2 hj), fun h j hj => h j (List.mem_range.1 hj)⟩
theorem ordOk_no {o : List Int} {j : Nat} (hj : j < o.length) (h : ordC o j = false) : ordOk o = false := by
  cases hk : ordOk o with
  | false => rfl
  | true => rw [ordOk_iff.1 hk j hj] at h; cases h
theorem ord_in {o : List Int} (h : ordOk o = true) {j : Nat} (hj : j < o.length) : 0 ≤ o.getD j default ∧ o.getD j default < (o.length : Int) := by
  have := ordOk_iff.1 h j hj
  simp only [ordC, Bool.and_eq_true, decide_eq_true_eq] at this
  exact this.1
theorem ord_ne {o : List Int} (h : ordOk o = true) {i j : Nat} (hij : i < j) (hj : j < o.length) : o.getD i default ≠ o.getD j default := by
  intro e
  have := ordOk_iff.1 h j hj
  simp only [ordC, Bool.and_eq_true, Bool.not_eq_true'] at this
  have h2 := this.2
  have hm : o.getD j default ∈ o.take j := by
    rw [← e]
    have hi : i < o.length := by omega
    have h3 : i < (o.take j).length := by rw [List.length_take]; omega
    have : (o.take j)[i] = o.getD i default := by simp [hi]
    rw [← this]
    exact List.getElem_mem h3
  have : (o.take j).contains (o.getD j default) = true := by simpa using hm
  rw [this] at h2
  cases h2
/-- The order, as places. -/
def ordN (o : List Int) : List Nat := o.map Int.toNat
theorem perm1 : ∀ a : Fin 1, [a.val].isPerm [0] = true := by decide
theorem perm2 : ∀ a b : Fin 2, a ≠ b → [a.val, b.val].isPerm [0, 1] = true := by decide
theorem perm3 : ∀ a b c : Fin 3, a ≠ b → a ≠ c → b ≠ c → [a.val, b.val, c.val].isPerm [0, 1, 2] = true := by decide +kernel
theorem perm4' : ∀ a b c d : Fin 4, (a == b || a == c || a == d || b == c || b == d || c == d || [a.val, b.val, c.val, d.val].isPerm [0, 1, 2, 3]) = true := by decide +kernel
theorem perm4 (a b c d : Fin 4) (h1 : a ≠ b) (h2 : a ≠ c) (h3 : a ≠ d) (h4 : b ≠ c) (h5 : b ≠ d) (h6 : c ≠ d) : [a.val, b.val, c.val, d.val].isPerm [0, 1, 2, 3] = true := by
  have := perm4' a b c d
  rw [beq_false_of_ne h1, beq_false_of_ne h2, beq_false_of_ne h3, beq_false_of_ne h4, beq_false_of_ne h5, beq_false_of_ne h6] at this
  exact this
theorem fin_ne {n : Nat} {a b : Fin n} (h : a.val ≠ b.val) : a ≠ b := fun e => h (congrArg Fin.val e)
theorem ord_perm {o : List Int} (h : ordOk o = true) (hl : o.length ≤ 4) : (ordN o).Perm (List.range o.length) := by
  have hr : ∀ {j : Nat}, j < o.length → (o.getD j default).toNat < o.length := fun hj => by have := ord_in h hj; omega
  have hn : ∀ {i j : Nat}, i < j → j < o.length → (o.getD i default).toNat ≠ (o.getD j default).toNat := fun hij hj e => by
    have h1 := ord_in h (j := _) (Nat.lt_trans hij hj)
    have h2 := ord_in h hj
    exact ord_ne h hij hj (by omega)
  match o, hl, @hr, @hn with
  | [], _, _, _ => exact List.Perm.refl _
  | [a], _, hr, _ => exact List.isPerm_iff.1 (perm1 ⟨_, hr (j := 0) (by simp)⟩)
  | [a, b], _, hr, hn => exact List.isPerm_iff.1 (perm2 ⟨_, hr (j := 0) (by simp)⟩ ⟨_, hr (j := 1) (by simp)⟩ (fin_ne (hn (i := 0) (j := 1) (by simp) (by simp))))
  | [a, b, c], _, hr, hn => exact List.isPerm_iff.1 (perm3 ⟨_, hr (j := 0) (by simp)⟩ ⟨_, hr (j := 1) (by simp)⟩ ⟨_, hr (j := 2) (by simp)⟩ (fin_ne (hn (i := 0) (j := 1) (by simp) (by simp))) (fin_ne (hn (i := 0) (j := 2) (by simp) (by simp))) (fin_ne (hn (i := 1) (j := 2) (by simp) (by simp))))
  | [a, b, c, d], _, hr, hn => exact List.isPerm_iff.1 (perm4 ⟨_, hr (j := 0) (by simp)⟩ ⟨_, hr (j := 1) (by simp)⟩ ⟨_, hr (j := 2) (by simp)⟩ ⟨_, hr (j := 3) (by simp)⟩ (fin_ne (hn (i := 0) (j := 1) (by simp) (by simp))) (fin_ne (hn (i := 0) (j := 2) (by simp) (by simp))) (fin_ne (hn (i := 0) (j := 3) (by simp) (by simp))) (fin_ne (hn (i := 1) (j := 2) (by simp) (by simp))) (fin_ne (hn (i := 1) (j := 3) (by simp) (by simp))) (fin_ne (hn (i := 2) (j := 3) (by simp) (by simp))))
  | _ :: _ :: _ :: _ :: _ :: _, hl, _, _ => simp at hl

/-- The shape in another order. -/
def turn (s o : List Int) : List Int := o.map fun k => s.getD k.toNat default
theorem turn_length (s o : List Int) : (turn s o).length = o.length := by simp [turn]
theorem turn_at {s o : List Int} {j : Nat} (h : j < o.length) : (turn s o).getD j default = s.getD (o.getD j default).toNat default := by simp [turn, h]
theorem range_getD (s : List Int) : (List.range s.length).map (fun k => s.getD k default) = s := by
  apply List.ext_getElem (by simp)
  intro i h1 h2
  simp [h2]
theorem turn_prod {s o : List Int} (h : ordOk o = true) (hl : o.length = s.length) (h4 : s.length ≤ 4) : Shapes.prod (turn s o) = Shapes.prod s := by
  have p := (ord_perm h (by omega)).map fun k => s.getD k default
  rw [hl, range_getD] at p
  have e : turn s o = (ordN o).map fun k => s.getD k default := by simp [turn, ordN]
  rw [e]
  exact prod_perm p
theorem turn_ok {s o : List Int} (hs : Shapes.ok s = true) (h : ordOk o = true) (hl : o.length = s.length) : Shapes.ok (turn s o) = true := by
  have S := (Shapes.ok_iff s).1 hs
  rw [Shapes.ok_iff, turn_length, turn_prod h hl S.1.2, hl]
  refine ⟨S.1, ?_, S.2.2⟩
  intro y hy
  obtain ⟨k, hk, rfl⟩ := List.mem_map.1 hy
  obtain ⟨j, hj, e⟩ := List.getElem_of_mem hk
  have h1 := ord_in h hj
  rw [show o.getD j default = k by simp [hj, e]] at h1
  have h2 : k.toNat < s.length := by omega
  refine S.2.1 _ ?_
  simp [h2]
/-- Where the number stands that comes to a place. -/
def tuF (s o at' : List Int) (j : Nat) : Int := at'.getD j default * Shapes.prod (s.drop ((o.getD j default).toNat + 1))
def tuS (s o at' : List Int) (n : Nat) : Int := isum (tuF s o at') n
theorem tuF_pos {s o at' : List Int} (hs : Shapes.ok s = true) {j : Nat} (h : 0 ≤ at'.getD j default) : 0 ≤ tuF s o at' j := Int.mul_nonneg h (by have := (Shapes.ok_prod hs ((o.getD j default).toNat + 1)).1; omega)
theorem tuS_lt {s o at' : List Int} (hs : Shapes.ok s = true) (h : ordOk o = true) (hl : o.length = s.length) (hi : Shapes.inn (turn s o) at' = true) : 0 ≤ tuS s o at' o.length ∧ tuS s o at' o.length < Shapes.prod s := by
  have S := (Shapes.ok_iff s).1 hs
  have hin : ∀ j, j < o.length → 0 ≤ at'.getD j default ∧ at'.getD j default < s.getD (o.getD j default).toNat default := fun j hj => by
    have := Shapes.inn_at hi (k := j) (by rw [turn_length]; exact hj)
    rwa [turn_at hj] at this
  refine ⟨isum_pos fun j hj => tuF_pos hs (hin j hj).1, ?_⟩
  have p := ord_perm h (by omega)
  have e : isum (fun j => (fun k => (s.getD k default - 1) * Shapes.prod (s.drop (k + 1))) ((ordN o).getD j default)) (ordN o).length = Shapes.prod s - 1 := by
    refine (isum_all (fun k => (s.getD k default - 1) * Shapes.prod (s.drop (k + 1))) (ordN o)).trans ?_
    rw [lsum_perm p, lsum_range, hl, prod_tele (Nat.le_refl _), List.drop_length]; rfl
  have hlen : (ordN o).length = o.length := by simp [ordN]
  rw [hlen] at e
  have : tuS s o at' o.length ≤ Shapes.prod s - 1 := by
    rw [← e]
    refine isum_le fun j hj => ?_
    have hj' : (ordN o).getD j default = (o.getD j default).toNat := by simp [ordN, hj]
    dsimp only
    rw [hj']
    unfold tuF
    exact Int.mul_le_mul_of_nonneg_right (by have := hin j hj; omega) (by have := (Shapes.ok_prod hs ((o.getD j default).toNat + 1)).1; omega)
  omega
theorem tuS_le {s o at' : List Int} (hs : Shapes.ok s = true) (h : ordOk o = true) (hl : o.length = s.length) (hi : Shapes.inn (turn s o) at' = true) {n : Nat} (hn : n ≤ o.length) : 0 ≤ tuS s o at' n ∧ tuS s o at' n ≤ 4096 := by
  have S := (Shapes.ok_iff s).1 hs
  have hin : ∀ j, j < o.length → 0 ≤ at'.getD j default := fun j hj => (Shapes.inn_at hi (k := j) (by rw [turn_length]; exact hj)).1
  have h1 := isum_mono (f := tuF s o at') hn fun j hj => tuF_pos hs (hin j hj)
  have h2 := tuS_lt hs h hl hi
  unfold tuS at h2 ⊢
  exact ⟨isum_pos fun j hj => tuF_pos hs (hin j (by omega)), by have := S.2.2; omega⟩
def tuL (s : List Int) (l : List (BitVec 32)) (o : List Int) : List (BitVec 32) := (List.range (Shapes.size (turn s o)).toNat).map fun i : Nat => l.getD (tuS s o (Shapes.place (turn s o) (i : Int)) o.length).toNat default

/-! ### Sums along a direction -/
def without (s : List Int) (k : Nat) : List Int := if s.length = 1 then [1] else s.take k ++ s.drop (k + 1)
/-- The number at a place. -/
def suF (s : List Int) (l : List (BitVec 32)) (k i j : Nat) : BitVec 32 := l.getD (i / (Shapes.prod (s.drop (k + 1))).toNat * (Shapes.prod (s.drop (k + 1))).toNat * (s.getD k default).toNat + i % (Shapes.prod (s.drop (k + 1))).toNat + j * (Shapes.prod (s.drop (k + 1))).toNat) default
def suL (s : List Int) (l : List (BitVec 32)) (k : Nat) : List (BitVec 32) := (List.range (Shapes.size (without s k)).toNat).map fun i => sm (s.getD k default).toNat (suF s l k i)
theorem prod_split {s : List Int} {k : Nat} (h : k < s.length) : Shapes.prod s = Shapes.prod (s.take k) * (s.getD k default * Shapes.prod (s.drop (k + 1))) := by
  rw [← Shapes.prod_drop h, ← Shapes.prod_append, List.take_append_drop]
theorem without_prod {s : List Int} {k : Nat} (h : k < s.length) : Shapes.prod (without s k) = Shapes.prod (s.take k) * Shapes.prod (s.drop (k + 1)) := by
  unfold without
  split
  · rename_i h1
    obtain rfl : k = 0 := by omega
    rw [List.take_zero, List.drop_of_length_le (by omega)]; rfl
  · exact Shapes.prod_append _ _
theorem without_ok {s : List Int} {k : Nat} (hs : Shapes.ok s = true) (h : k < s.length) : Shapes.ok (without s k) = true := by
  have S := (Shapes.ok_iff s).1 hs
  rw [Shapes.ok_iff]
  have pt := Shapes.prod_pos (s := s.take k) fun x hx => S.2.1 x (List.mem_of_mem_take hx)
  have pd := (Shapes.ok_prod hs (k + 1)).1
  have d := dim_at S.2.1 h
  refine ⟨?_, ?_, ?_⟩
  · unfold without
    split
    · simp
    · rw [List.length_append, List.length_take, List.length_drop]; omega
  · unfold without
    split
    · intro x hx; simp at hx; subst hx; omega
    · intro x hx
      rcases List.mem_append.1 hx with hx | hx
      · exact S.2.1 x (List.mem_of_mem_take hx)
      · exact S.2.1 x (List.mem_of_mem_drop hx)
  · rw [without_prod h]
    have e := prod_split h
    have h1 : 1 * Shapes.prod (s.drop (k + 1)) ≤ s.getD k default * Shapes.prod (s.drop (k + 1)) := Int.mul_le_mul_of_nonneg_right d.1 (by omega)
    have h2 : Shapes.prod (s.take k) * (1 * Shapes.prod (s.drop (k + 1))) ≤ Shapes.prod (s.take k) * (s.getD k default * Shapes.prod (s.drop (k + 1))) := Int.mul_le_mul_of_nonneg_left h1 (by omega)
    rw [Int.one_mul] at h2
    omega
/-- The place of a number of a sum. -/
theorem su_lt {P a n i j : Nat} (hi : i < P * a) (hj : j < n) : i / a * a * n + i % a + j * a < P * (n * a) := by
  obtain ⟨h1, h2, -⟩ := at_rc hi
  have h3 := rc_lt (rc_lt h1 hj) h2
  have e : (i / a * n + j) * a + i % a = i / a * a * n + i % a + j * a := by
    rw [Nat.add_mul, Nat.mul_assoc (i / a) n a, Nat.mul_comm n a, ← Nat.mul_assoc]; omega
  rw [e] at h3
  rw [← Nat.mul_assoc P n a]
  exact h3
theorem set_selfD {l : List (BitVec 32)} {i : Nat} {a : BitVec 32} (h : i < l.length) (e : l.getD i default = a) : l.set i a = l := by
  have : l[i] = a := by rw [← e]; simp [h]
  rw [← this]
  exact List.set_getElem_self h
theorem getD_set {l : List (BitVec 32)} {i : Nat} {a : BitVec 32} (h : i < l.length) : (l.set i a).getD i default = a := by simp [h]
end Go.Dd
