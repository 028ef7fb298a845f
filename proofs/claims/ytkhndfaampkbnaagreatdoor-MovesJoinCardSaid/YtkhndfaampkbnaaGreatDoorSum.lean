/- Plain law: sums that wrap round; products of rows with columns. Nothing here names a program. -/
namespace Go.Dd

abbrev B32 := BitVec 32

/-- The sum of the first n. -/
def sm : Nat → (Nat → B32) → B32
  | 0, _ => 0#32
  | n + 1, f => sm n f + f n
theorem sm_congr {f g : Nat → B32} : ∀ {n : Nat}, (∀ i, i < n → f i = g i) → sm n f = sm n g
  | 0, _ => rfl
  | n + 1, h => by rw [sm, sm, sm_congr fun i hi => h i (by omega), h n (by omega)]
theorem sm_zero {f : Nat → B32} : ∀ {n : Nat}, (∀ i, i < n → f i = 0#32) → sm n f = 0#32
  | 0, _ => rfl
  | n + 1, h => by rw [sm, sm_zero fun i hi => h i (by omega), h n (by omega)]; rfl
theorem sm_add (f g : Nat → B32) : ∀ n : Nat, sm n (fun i => f i + g i) = sm n f + sm n g
  | 0 => rfl
  | n + 1 => by
    rw [sm, sm, sm, sm_add f g n]
    rw [BitVec.add_assoc, BitVec.add_assoc, ← BitVec.add_assoc (sm n g), BitVec.add_comm (sm n g) (f n), BitVec.add_assoc]
theorem sm_mull (c : B32) (f : Nat → B32) : ∀ n : Nat, sm n (fun i => c * f i) = c * sm n f
  | 0 => by simp [sm]
  | n + 1 => by rw [sm, sm, sm_mull c f n, BitVec.mul_add]
theorem sm_mulr (c : B32) (f : Nat → B32) (n : Nat) : sm n (fun i => f i * c) = sm n f * c := by
  rw [BitVec.mul_comm, ← sm_mull]; exact sm_congr fun i _ => BitVec.mul_comm _ _
theorem sm_comm (f : Nat → Nat → B32) (n : Nat) : ∀ m : Nat, sm m (fun i => sm n (f i)) = sm n (fun j => sm m (fun i => f i j))
  | 0 => (sm_zero fun _ _ => rfl).symm
  | m + 1 => by
    rw [sm, sm_comm f n m, ← sm_add]
    rfl
theorem sm_one {f : Nat → B32} {k : Nat} : ∀ {n : Nat}, (∀ i, i < n → i ≠ k → f i = 0#32) → sm n f = if k < n then f k else 0#32
  | 0, _ => rfl
  | n + 1, h => by
    rw [sm, sm_one (k := k) fun i hi hne => h i (by omega) hne]
    by_cases hk : k < n
    · rw [if_pos hk, if_pos (by omega), h n (by omega) (by omega)]; simp
    · rw [if_neg hk]
      by_cases hn : k = n
      · subst hn; rw [if_pos (by omega)]; simp
      · rw [if_neg (by omega), h n (by omega) (fun e => hn e.symm)]; rfl
theorem sm_app (f : Nat → B32) (m : Nat) : ∀ n : Nat, sm (m + n) f = sm m f + sm n (fun i => f (m + i))
  | 0 => by simp [sm]
  | n + 1 => by rw [← Nat.add_assoc, sm, sm, sm_app f m n, BitVec.add_assoc]

/-- Rows of k numbers with columns of as many. -/
def prd (m k n : Nat) (a b : List B32) : List B32 := (List.range (m * n)).map fun i => sm k fun p => a.getD (i / n * k + p) default * b.getD (p * n + i % n) default
theorem prd_length (m k n : Nat) (a b : List B32) : (prd m k n a b).length = m * n := by simp [prd]
theorem prd_at {m k n i j : Nat} (a b : List B32) (hi : i < m) (hj : j < n) : (prd m k n a b).getD (i * n + j) default = sm k fun p => a.getD (i * k + p) default * b.getD (p * n + j) default := by
  have h : i * n + j < m * n := by
    have := Nat.mul_le_mul_right n (show i + 1 ≤ m by omega)
    rw [Nat.succ_mul] at this
    omega
  have hn : 0 < n := by omega
  have e1 : (i * n + j) / n = i := by rw [Nat.mul_comm, Nat.mul_add_div hn, Nat.div_eq_of_lt hj]; omega
  have e2 : (i * n + j) % n = j := by rw [Nat.mul_comm, Nat.mul_add_mod, Nat.mod_eq_of_lt hj]
  simp only [prd, List.getD_eq_getElem?_getD, List.getElem?_map, List.getElem?_range h, Option.map_some, Option.getD_some, e1, e2]
theorem at_rc {m n i : Nat} (h : i < m * n) : i / n < m ∧ i % n < n ∧ i / n * n + i % n = i := by
  have hn : 0 < n := by
    rcases Nat.eq_zero_or_pos n with h0 | h0
    · subst h0; simp at h
    · exact h0
  exact ⟨(Nat.div_lt_iff_lt_mul hn).2 h, Nat.mod_lt _ hn, by have := Nat.div_add_mod i n; rw [Nat.mul_comm] at this; exact this⟩
theorem prd_ext {m k n : Nat} {a b : List B32} {l : List B32} (hl : l.length = m * n) (h : ∀ i j, i < m → j < n → (sm k fun p => a.getD (i * k + p) default * b.getD (p * n + j) default) = l.getD (i * n + j) default) : prd m k n a b = l := by
  apply List.ext_getElem (by rw [prd_length, hl])
  intro i h1 h2
  rw [prd_length] at h1
  obtain ⟨h3, h4, h5⟩ := at_rc h1
  have h6 := prd_at (k := k) a b h3 h4
  have h7 := h _ _ h3 h4
  rw [h7, h5] at h6
  rw [h5] at *
  have e1 : (prd m k n a b).getD i default = (prd m k n a b)[i] := by simp [prd_length, h1]
  have e2 : l.getD i default = l[i] := by simp [h2]
  rw [← e1, ← e2, h6]
theorem prd_three (m p q r : Nat) (a b c : List B32) : prd m q r (prd m p q a b) c = prd m p r a (prd p q r b c) := by
  refine prd_ext (prd_length _ _ _ _ _) fun i j hi hj => ?_
  rw [prd_at _ _ hi hj]
  have e1 : (sm q fun x => (prd m p q a b).getD (i * q + x) default * c.getD (x * r + j) default) = sm q fun x => sm p fun y => a.getD (i * p + y) default * b.getD (y * q + x) default * c.getD (x * r + j) default :=
    sm_congr fun x hx => by rw [prd_at _ _ hi hx, sm_mulr]
  have e2 : (sm p fun y => a.getD (i * p + y) default * (prd p q r b c).getD (y * r + j) default) = sm p fun y => sm q fun x => a.getD (i * p + y) default * b.getD (y * q + x) default * c.getD (x * r + j) default :=
    sm_congr fun y hy => by
      rw [prd_at _ _ hy hj, ← sm_mull]
      exact sm_congr fun x _ => (BitVec.mul_assoc _ _ _).symm
  rw [e1, e2, sm_comm]

/-- Sums of tensors, number by number. -/
def ad (n : Nat) (a b : List B32) : List B32 := (List.range n).map fun i => a.getD i default + b.getD i default
theorem ad_at {n i : Nat} (a b : List B32) (h : i < n) : (ad n a b).getD i default = a.getD i default + b.getD i default := by simp [ad, h]
theorem rc_lt {m n i j : Nat} (hi : i < m) (hj : j < n) : i * n + j < m * n := by
  have := Nat.mul_le_mul_right n (show i + 1 ≤ m by omega)
  rw [Nat.succ_mul] at this
  omega
theorem prd_addl (m k n : Nat) (a b c : List B32) : prd m k n (ad (m * k) a b) c = ad (m * n) (prd m k n a c) (prd m k n b c) := by
  refine prd_ext (by simp [ad]) fun i j hi hj => ?_
  rw [ad_at _ _ (rc_lt hi hj), prd_at _ _ hi hj, prd_at _ _ hi hj, ← sm_add]
  exact sm_congr fun p hp => by rw [ad_at _ _ (rc_lt hi hp), BitVec.add_mul]
theorem prd_addr (m k n : Nat) (a b c : List B32) : prd m k n a (ad (k * n) b c) = ad (m * n) (prd m k n a b) (prd m k n a c) := by
  refine prd_ext (by simp [ad]) fun i j hi hj => ?_
  rw [ad_at _ _ (rc_lt hi hj), prd_at _ _ hi hj, prd_at _ _ hi hj, ← sm_add]
  exact sm_congr fun p hp => by rw [ad_at _ _ (rc_lt hp hj), BitVec.mul_add]

/-- Ones where both directions are the same. -/
def eye (n : Nat) : List B32 := (List.range (n * n)).map fun i => if i / n = i % n then 1#32 else 0#32
theorem eye_at {n i j : Nat} (hi : i < n) (hj : j < n) : (eye n).getD (i * n + j) default = if i = j then 1#32 else 0#32 := by
  have hn : 0 < n := by omega
  have e1 : (i * n + j) / n = i := by rw [Nat.mul_comm, Nat.mul_add_div hn, Nat.div_eq_of_lt hj]; omega
  have e2 : (i * n + j) % n = j := by rw [Nat.mul_comm, Nat.mul_add_mod, Nat.mod_eq_of_lt hj]
  simp only [eye, List.getD_eq_getElem?_getD, List.getElem?_map, List.getElem?_range (rc_lt hi hj), Option.map_some, Option.getD_some, e1, e2]
theorem prd_eyel {m n : Nat} {a : List B32} (h : a.length = m * n) : prd m m n (eye m) a = a := by
  refine prd_ext h fun i j hi hj => ?_
  rw [sm_one (k := i) fun p hp hne => by rw [eye_at hi hp, if_neg (Ne.symm hne)]; simp]
  rw [if_pos hi, eye_at hi hi, if_pos rfl]; simp
theorem prd_eyer {m n : Nat} {a : List B32} (h : a.length = m * n) : prd m n n a (eye n) = a := by
  refine prd_ext h fun i j hi hj => ?_
  rw [sm_one (k := j) fun p hp hne => by rw [eye_at hp hj, if_neg hne]; simp]
  rw [if_pos hj, eye_at hj hj, if_pos rfl]; simp
theorem prd_zero (m k n : Nat) (a b : List B32) (h : ∀ i, b.getD i default = 0#32) : prd m k n a b = List.replicate (m * n) 0#32 := by
  refine prd_ext (by simp) fun i j hi hj => ?_
  rw [sm_zero fun p _ => by rw [h]; simp]
  simp [rc_lt hi hj]
theorem prd_one (k : Nat) (a b : List B32) : prd 1 k 1 a b = [sm k fun p => a.getD p default * b.getD p default] := by
  refine prd_ext rfl fun i j hi hj => ?_
  obtain rfl : i = 0 := by omega
  obtain rfl : j = 0 := by omega
  simp
end Go.Dd
