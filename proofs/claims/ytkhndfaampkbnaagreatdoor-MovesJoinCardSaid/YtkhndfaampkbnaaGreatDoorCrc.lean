/- The plain law of the sums: a register of 32 bits, fed byte by byte. No program in sight. -/
namespace Go.Dd.Crc

def poly : BitVec 32 := 3988292384#32
/-- One bit. -/
def bit (r : BitVec 32) : BitVec 32 := if r.getLsbD 0 = true then (r >>> 1) ^^^ poly else r >>> 1
def iter : Nat → BitVec 32 → BitVec 32
  | 0, r => r
  | k + 1, r => iter k (bit r)
/-- One byte. -/
def feed (r : BitVec 32) (c : BitVec 8) : BitVec 32 := iter 8 (r ^^^ c.setWidth 32)
def run (r : BitVec 32) (l : List (BitVec 8)) : BitVec 32 := l.foldl feed r
def on (s : BitVec 32) (l : List (BitVec 8)) : BitVec 32 := ~~~ run (~~~ s) l
def of (l : List (BitVec 8)) : BitVec 32 := on 0#32 l

theorem iter_succ' (k : Nat) (r : BitVec 32) : iter (k + 1) r = bit (iter k r) := by
  induction k generalizing r with
  | zero => rfl
  | succ k ih => rw [iter, ih]; rfl
theorem iter_add (j k : Nat) (r : BitVec 32) : iter (j + k) r = iter k (iter j r) := by
  induction j generalizing r with
  | zero => rw [Nat.zero_add]; rfl
  | succ j ih => rw [Nat.succ_add, iter, ih]; rfl

theorem bit_xor (a b : BitVec 32) : bit (a ^^^ b) = bit a ^^^ bit b := by
  unfold bit
  rw [BitVec.getLsbD_xor, BitVec.ushiftRight_xor_distrib]
  cases ha : a.getLsbD 0 <;> cases hb : b.getLsbD 0 <;> simp
  · rw [BitVec.xor_assoc]
  · rw [BitVec.xor_assoc, BitVec.xor_assoc, BitVec.xor_comm poly]
  · have : (a >>> 1 ^^^ poly) ^^^ (b >>> 1 ^^^ poly) = (a >>> 1 ^^^ b >>> 1) ^^^ (poly ^^^ poly) := by
      ac_rfl
    rw [this, BitVec.xor_self, BitVec.xor_zero]
theorem iter_xor (k : Nat) (a b : BitVec 32) : iter k (a ^^^ b) = iter k a ^^^ iter k b := by
  induction k generalizing a b with
  | zero => rfl
  | succ k ih => rw [iter, bit_xor, ih]; rfl
theorem bit_zero : bit 0#32 = 0#32 := by decide
theorem iter_zero (k : Nat) : iter k 0#32 = 0#32 := by
  induction k with
  | zero => rfl
  | succ k ih => rw [iter, bit_zero, ih]

theorem bit_inj (a : BitVec 32) (h : bit a = 0#32) : a = 0#32 := by
  unfold bit at h
  split at h
  · exfalso
    have h1 : (a >>> 1 ^^^ poly).getLsbD 31 = false := by rw [h]; simp
    rw [BitVec.getLsbD_xor, BitVec.getLsbD_ushiftRight] at h1
    have h2 : poly.getLsbD 31 = true := by decide
    have h3 : a.getLsbD (1 + 31) = false := BitVec.getLsbD_of_ge _ _ (by omega)
    rw [h2, h3] at h1
    cases h1
  · rename_i h0
    apply BitVec.eq_of_getLsbD_eq
    intro i hi
    rw [BitVec.getLsbD_zero]
    cases i with
    | zero => simpa using h0
    | succ i =>
      have h1 : (a >>> 1).getLsbD i = false := by rw [h]; simp
      rw [BitVec.getLsbD_ushiftRight, Nat.add_comm] at h1
      exact h1
theorem iter_inj (k : Nat) (a : BitVec 32) (h : iter k a = 0#32) : a = 0#32 := by
  induction k generalizing a with
  | zero => exact h
  | succ k ih => exact bit_inj a (ih _ h)
theorem xor_eq_zero (a b : BitVec 32) (h : a ^^^ b = 0#32) : a = b := by
  have : (a ^^^ b) ^^^ b = 0#32 ^^^ b := by rw [h]
  rw [BitVec.xor_assoc, BitVec.xor_self, BitVec.xor_zero, BitVec.zero_xor] at this
  exact this
theorem iter_eq (k : Nat) (a b : BitVec 32) (h : iter k a = iter k b) : a = b :=
  xor_eq_zero a b (iter_inj k _ (by rw [iter_xor, h, BitVec.xor_self]))

/-- A register whose lowest k bits are 0 is only shifted. -/
theorem iter_shift : ∀ (k : Nat) (r : BitVec 32), (∀ i, i < k → r.getLsbD i = false) → iter k r = r >>> k
  | 0, r, _ => by simp [iter]
  | k + 1, r, h => by
    have h0 : bit r = r >>> 1 := by unfold bit; rw [if_neg (by rw [h 0 (by omega)]; simp)]
    rw [iter, h0, iter_shift k (r >>> 1) (fun i hi => by rw [BitVec.getLsbD_ushiftRight, Nat.add_comm]; exact h (i + 1) (by omega))]
    rw [← BitVec.shiftRight_add, Nat.add_comm]

/-- The program's table. -/
def tab (c : BitVec 8) : BitVec 32 := iter 8 (c.setWidth 32)
theorem feed_tab (r : BitVec 32) (c : BitVec 8) : feed r c = tab (r.setWidth 8 ^^^ c) ^^^ r >>> 8 := by
  unfold feed tab
  have h : r ^^^ c.setWidth 32 = (r.setWidth 8 ^^^ c).setWidth 32 ^^^ (r &&& 4294967040#32) := by
    apply BitVec.eq_of_getLsbD_eq
    intro i hi
    have hm : (4294967040#32).getLsbD i = decide (8 ≤ i) := by
      have : ∀ i : Fin 32, (4294967040#32).getLsbD i.val = decide (8 ≤ i.val) := by decide
      exact this ⟨i, hi⟩
    simp only [BitVec.getLsbD_xor, BitVec.getLsbD_setWidth, BitVec.getLsbD_and, hm, hi, decide_true, Bool.true_and]
    by_cases h8 : i < 8
    · simp [h8, show ¬ 8 ≤ i by omega]
    · simp [h8, show 8 ≤ i by omega]
  rw [h, iter_xor, iter_shift 8 (r &&& 4294967040#32)]
  · congr 1
    apply BitVec.eq_of_getLsbD_eq
    intro i hi
    rw [BitVec.getLsbD_ushiftRight, BitVec.getLsbD_ushiftRight, BitVec.getLsbD_and]
    by_cases h24 : 8 + i < 32
    · have : ∀ i : Fin 24, (4294967040#32).getLsbD (8 + i.val) = true := by decide
      rw [this ⟨i, by omega⟩, Bool.and_true]
    · rw [BitVec.getLsbD_of_ge r _ (by omega), Bool.false_and]
  · intro i hi
    rw [BitVec.getLsbD_and]
    have : ∀ i : Fin 8, (4294967040#32).getLsbD i.val = false := by decide
    rw [this ⟨i, hi⟩, Bool.and_false]

/-- The program's way of one bit, and the document's. -/
theorem low_bit (r : BitVec 32) : (r.getLsbD 0 = true ∧ r &&& 1#32 = 1#32) ∨ (r.getLsbD 0 = false ∧ r &&& 1#32 = 0#32) := by
  have h1 : ∀ i, i < 32 → (1#32).getLsbD i = decide (i = 0) := fun i hi => by
    have : ∀ i : Fin 32, (1#32).getLsbD i.val = decide (i.val = 0) := by decide
    exact this ⟨i, hi⟩
  cases h : r.getLsbD 0
  · right
    refine ⟨rfl, ?_⟩
    apply BitVec.eq_of_getLsbD_eq
    intro i hi
    rw [BitVec.getLsbD_and, h1 i hi, BitVec.getLsbD_zero]
    by_cases h0 : i = 0
    · subst h0; rw [h]; rfl
    · simp [h0]
  · left
    refine ⟨rfl, ?_⟩
    apply BitVec.eq_of_getLsbD_eq
    intro i hi
    rw [BitVec.getLsbD_and, h1 i hi]
    by_cases h0 : i = 0
    · subst h0; rw [h]; rfl
    · simp [h0]
theorem bit_prog (r : BitVec 32) : r >>> 1 ^^^ (3988292384#32 &&& -(r &&& 1#32)) = bit r := by
  unfold bit
  rcases low_bit r with ⟨h, h1⟩ | ⟨h, h1⟩
  · rw [h1, h, if_pos rfl]
    have : 3988292384#32 &&& -(1#32) = poly := by decide
    rw [this]
  · rw [h1, h, if_neg (by simp)]
    have : 3988292384#32 &&& -(0#32) = 0#32 := by decide
    rw [this, BitVec.xor_zero]
theorem bit_ref (r : BitVec 32) : (if r &&& 1#32 = 1#32 then r >>> 1 ^^^ 3988292384#32 else r >>> 1) = bit r := by
  unfold bit
  rcases low_bit r with ⟨h, h1⟩ | ⟨h, h1⟩
  · rw [h1, h, if_pos rfl, if_pos rfl]; rfl
  · rw [h1, h, if_neg (by decide), if_neg (by simp)]

/-! ### Lists -/
theorem run_append (r : BitVec 32) (a b : List (BitVec 8)) : run r (a ++ b) = run (run r a) b := List.foldl_append
theorem on_append (s : BitVec 32) (a b : List (BitVec 8)) : on s (a ++ b) = on (on s a) b := by
  unfold on; rw [run_append, BitVec.not_not]
theorem on_nil (s : BitVec 32) : on s [] = s := by unfold on run; simp

def xors : List (BitVec 8) → List (BitVec 8) → List (BitVec 8)
  | a :: l, b :: m => (a ^^^ b) :: xors l m
  | _, _ => []

theorem feed_xor (r s : BitVec 32) (a b : BitVec 8) : feed (r ^^^ s) (a ^^^ b) = feed r a ^^^ feed s b := by
  unfold feed
  rw [← iter_xor, BitVec.setWidth_xor]
  congr 1
  ac_rfl
theorem run_xor : ∀ (l m : List (BitVec 8)) (r s : BitVec 32), l.length = m.length → run (r ^^^ s) (xors l m) = run r l ^^^ run s m
  | [], [], r, s, _ => rfl
  | a :: l, b :: m, r, s, h => by
    simp only [xors, run, List.foldl_cons]
    rw [feed_xor]
    exact run_xor l m (feed r a) (feed s b) (by simpa using h)
  | [], _ :: _, _, _, h => by simp at h
  | _ :: _, [], _, _, h => by simp at h
theorem run_zeros (k : Nat) : run 0#32 (List.replicate k 0#8) = 0#32 := by
  induction k with
  | zero => rfl
  | succ k ih =>
    have : feed 0#32 0#8 = 0#32 := by unfold feed; rw [show (0#32 ^^^ BitVec.setWidth 32 0#8) = 0#32 by decide, iter_zero]
    simp only [List.replicate_succ, run, List.foldl_cons] at *
    rw [this]; exact ih
theorem run_zeros_inj (k : Nat) (r : BitVec 32) (h : run r (List.replicate k 0#8) = 0#32) : r = 0#32 := by
  induction k generalizing r with
  | zero => exact h
  | succ k ih =>
    simp only [List.replicate_succ, run, List.foldl_cons] at h
    have := ih _ h
    unfold feed at this
    have := iter_inj 8 _ this
    rwa [show BitVec.setWidth 32 0#8 = 0#32 by decide, BitVec.xor_zero] at this

/-- The four bytes of a number, the lowest first. -/
def four (n : BitVec 32) : List (BitVec 8) := [n.setWidth 8, (n >>> 8).setWidth 8, (n >>> 16).setWidth 8, (n >>> 24).setWidth 8]

theorem iter_shl (k : Nat) (hk : k ≤ 32) (c : BitVec 8) (h : 8 + k ≤ 32) : iter k (c.setWidth 32 <<< k) = c.setWidth 32 := by
  rw [iter_shift k _ (fun i hi => by rw [BitVec.getLsbD_shiftLeft]; simp [hi])]
  apply BitVec.eq_of_getLsbD_eq
  intro i hi
  rw [BitVec.getLsbD_ushiftRight, BitVec.getLsbD_shiftLeft, BitVec.getLsbD_setWidth, BitVec.getLsbD_setWidth]
  by_cases h8 : i < 8
  · have e : k + i - k = i := by omega
    have a1 : k + i < 32 := by omega
    simp [a1, hi]
  · rw [BitVec.getLsbD_of_ge c (k + i - k) (by omega), BitVec.getLsbD_of_ge c i (by omega)]
    simp

theorem four_join (n : BitVec 32) : (n.setWidth 8).setWidth 32 ^^^ ((n >>> 8).setWidth 8).setWidth 32 <<< 8 ^^^ ((n >>> 16).setWidth 8).setWidth 32 <<< 16 ^^^ ((n >>> 24).setWidth 8).setWidth 32 <<< 24 = n := by
  apply BitVec.eq_of_getLsbD_eq
  intro i hi
  simp only [BitVec.getLsbD_xor, BitVec.getLsbD_setWidth, BitVec.getLsbD_shiftLeft, BitVec.getLsbD_ushiftRight, hi, decide_true, Bool.true_and]
  by_cases h1 : i < 8
  · simp [h1, show i < 16 by omega, show i < 24 by omega]
  · by_cases h2 : i < 16
    · simp [h1, h2, show i < 24 by omega, show i - 8 < 32 by omega, show i - 8 < 8 by omega, show 8 + (i - 8) = i by omega]
    · by_cases h3 : i < 24
      · simp [h1, h2, h3, show i - 8 < 32 by omega, show ¬ i - 8 < 8 by omega, show i - 16 < 32 by omega, show i - 16 < 8 by omega, show 16 + (i - 16) = i by omega]
      · simp [h1, h2, h3, show i - 8 < 32 by omega, show ¬ i - 8 < 8 by omega, show i - 16 < 32 by omega, show ¬ i - 16 < 8 by omega, show i - 24 < 32 by omega, show i - 24 < 8 by omega, show 24 + (i - 24) = i by omega]

theorem run_four (r n : BitVec 32) : run r (four n) = iter 32 (r ^^^ n) := by
  simp only [run, four, List.foldl_cons, List.foldl_nil, feed]
  have e1 := iter_shl 8 (by omega) ((n >>> 8).setWidth 8) (by omega)
  have e2 := iter_shl 16 (by omega) ((n >>> 16).setWidth 8) (by omega)
  have e3 := iter_shl 24 (by omega) ((n >>> 24).setWidth 8) (by omega)
  have s : ∀ x : BitVec 32, iter 32 x = iter 8 (iter 8 (iter 8 (iter 8 x))) := fun x => by
    show iter (8 + (8 + (8 + 8))) x = _
    rw [iter_add, iter_add, iter_add]
  have hj := four_join n
  generalize (n.setWidth 8).setWidth 32 = b0 at *
  generalize ((n >>> 8).setWidth 8).setWidth 32 = b1 at *
  generalize ((n >>> 16).setWidth 8).setWidth 32 = b2 at *
  generalize ((n >>> 24).setWidth 8).setWidth 32 = b3 at *
  have t2 : iter 8 (iter 8 (b2 <<< 16)) = b2 := by rw [← iter_add]; exact e2
  have t3 : iter 8 (iter 8 (iter 8 (b3 <<< 24))) = b3 := by rw [← iter_add, ← iter_add]; exact e3
  rw [s, ← hj]
  clear hj s e2 e3
  generalize b1 <<< 8 = c1 at *
  generalize b2 <<< 16 = c2 at *
  generalize b3 <<< 24 = c3 at *
  have : r ^^^ (b0 ^^^ c1 ^^^ c2 ^^^ c3) = (((r ^^^ b0) ^^^ c1) ^^^ c2) ^^^ c3 := by ac_rfl
  rw [this]
  rw [iter_xor 8 _ c3, iter_xor 8 _ c2, iter_xor 8 _ c1, e1, iter_xor 8 _ (iter 8 c3), iter_xor 8 _ (iter 8 c2), t2, iter_xor 8 _ (iter 8 (iter 8 c3)), t3]

theorem four_inj (n m : BitVec 32) (h : four n = four m) : n = m := by
  rw [← four_join n, ← four_join m]
  simp only [four, List.cons.injEq, and_true] at h
  rw [h.1, h.2.1, h.2.2.1, h.2.2.2]

theorem xors_length : ∀ (l m : List (BitVec 8)), (xors l m).length = min l.length m.length
  | [], _ => by simp [xors]
  | _ :: _, [] => by simp [xors]
  | _ :: l, _ :: m => by simp [xors, xors_length l m]
theorem xors_append : ∀ (a b c d : List (BitVec 8)), a.length = c.length → xors (a ++ b) (c ++ d) = xors a c ++ xors b d
  | [], b, [], d, _ => rfl
  | x :: a, b, y :: c, d, h => by simp only [List.cons_append, xors, xors_append a b c d (by simpa using h)]
  | [], _, _ :: _, _, h => by simp at h
  | _ :: _, _, [], _, h => by simp at h
theorem xors_zero : ∀ (l : List (BitVec 8)), xors l (List.replicate l.length 0#8) = l
  | [] => rfl
  | a :: l => by simp [List.replicate_succ, xors, xors_zero l]

/-- Two lists of one length: their sums part just as the sum, from an empty register, of what parts them. -/
theorem of_xor (l m : List (BitVec 8)) (h : l.length = m.length) : of (xors l m) ^^^ of l = of m ^^^ of (List.replicate l.length 0#8) := by
  unfold of on
  have h1 := run_xor l m (~~~ 0#32) 0#32 h
  have h2 := run_xor (List.replicate l.length 0#8) m (~~~ 0#32) 0#32 (by simpa using h)
  have h3 : xors (List.replicate l.length 0#8) m = m := by
    rw [h]; clear h h1 h2
    induction m with
    | nil => rfl
    | cons a m ih => simp [List.replicate_succ, xors, ih]
  rw [BitVec.xor_zero] at h1 h2
  rw [h3] at h2
  rw [h1, h2]
  generalize run (~~~ 0#32) l = A
  generalize run 0#32 m = B
  generalize run (~~~ 0#32) (List.replicate l.length 0#8) = Z
  have n : ∀ x : BitVec 32, ~~~ x = x ^^^ BitVec.allOnes 32 := fun x => by rw [BitVec.xor_allOnes]
  simp only [n]
  have e1 : (A ^^^ B ^^^ BitVec.allOnes 32) ^^^ (A ^^^ BitVec.allOnes 32) = (A ^^^ A) ^^^ (BitVec.allOnes 32 ^^^ BitVec.allOnes 32) ^^^ B := by ac_rfl
  have e2 : (Z ^^^ B ^^^ BitVec.allOnes 32) ^^^ (Z ^^^ BitVec.allOnes 32) = (Z ^^^ Z) ^^^ (BitVec.allOnes 32 ^^^ BitVec.allOnes 32) ^^^ B := by ac_rfl
  rw [e1, e2]
  simp only [BitVec.xor_self]

/-- What parts two lists within four neighbours parts their sums. -/
theorem of_part (p s : List (BitVec 8)) (b : List (BitVec 8)) (n : BitVec 32) (hb : b.length = 4) : (of (p ++ b ++ s) = of (p ++ xors b (four n) ++ s)) ↔ n = 0#32 := by
  have h1 : xors (p ++ b ++ s) (List.replicate p.length 0#8 ++ four n ++ List.replicate s.length 0#8) = p ++ xors b (four n) ++ s := by
    rw [xors_append (p ++ b) s _ _ (by simp [hb, four]), xors_append _ _ _ _ (by simp), xors_zero, xors_zero]
  have h2 := run_xor (p ++ b ++ s) (List.replicate p.length 0#8 ++ four n ++ List.replicate s.length 0#8) (~~~ 0#32) 0#32 (by simp [hb, four]; omega)
  rw [h1, BitVec.xor_zero] at h2
  have h3 : run 0#32 (List.replicate p.length 0#8 ++ four n ++ List.replicate s.length 0#8) = run (iter 32 n) (List.replicate s.length 0#8) := by
    rw [run_append, run_append, run_zeros, run_four, BitVec.zero_xor]
  rw [h3] at h2
  unfold of on
  rw [h2]
  constructor
  · intro h
    have h' := congrArg (fun x => ~~~ x) h
    simp only [BitVec.not_not] at h'
    generalize run (~~~ 0#32) (p ++ b ++ s) = A at h'
    generalize hG : run (iter 32 n) (List.replicate s.length 0#8) = G at h'
    have : G = 0#32 := by
      have h4 : A ^^^ A = A ^^^ (A ^^^ G) := by rw [← h']
      rw [← BitVec.xor_assoc, BitVec.xor_self, BitVec.zero_xor] at h4
      exact h4.symm
    rw [this] at hG
    exact iter_inj 32 n (run_zeros_inj _ _ hG)
  · intro h
    rw [h, iter_zero, run_zeros, BitVec.xor_zero]

end Go.Dd.Crc
