/- A disk as a value: its sectors, and writes that are not sure. Nothing here names a program. -/
import Derived.Test.YtiaojbbgjlpikaaCel
import Derived.Test.YtiaojbbgjlpikaaBook
namespace Go.Dd
open Go Go.RowKit

abbrev By := List (BitVec 8)
structure Dsk where
  sure : List By
  seen : List By
  waits : List (Nat × By)
def secC (b : By) : List Value := b.map b8 ++ [.int .i64 0]
def wrC (x : Nat × By) : List Value := .int .i64 (x.1 : Int) :: (x.2.map b8 ++ [.int .i64 0])
def zer : By := List.replicate 64 0#8
def pad (l : By) : By := l ++ List.replicate (64 - l.length) 0#8
theorem pad_len {l : By} (h : l.length ≤ 64) : (pad l).length = 64 := by simp [pad]; omega
theorem zer_len : zer.length = 64 := by simp [zer]
theorem secC_len {b : By} (h : b.length = 64) : (secC b).length = 65 := by simp [secC, h]
theorem wrC_len {x : Nat × By} (h : x.2.length = 64) : (wrC x).length = 66 := by simp [wrC, h]
theorem b8_ones (b : By) : (b.map b8).all (·.oneCell') = true := by simp [Value.oneCell']
theorem secC_ones (b : By) : (secC b).all (·.oneCell') = true := by simp [secC, Value.oneCell']
theorem wrC_ones (x : Nat × By) : (wrC x).all (·.oneCell') = true := by simp [wrC, Value.oneCell']
structure Dok (D : Dsk) : Prop where
  len : D.seen.length = D.sure.length
  one : 1 ≤ D.sure.length
  few : D.sure.length ≤ 16384
  f1 : ∀ b ∈ D.sure, b.length = 64
  f2 : ∀ b ∈ D.seen, b.length = 64
  f3 : ∀ x ∈ D.waits, x.1 < D.sure.length ∧ x.2.length = 64
theorem secs_len {l : List By} (h : ∀ b ∈ l, b.length = 64) : ∀ b ∈ l, (secC b).length = 65 := fun b hb => secC_len (h b hb)
theorem wrs_len {m : Nat} {l : List (Nat × By)} (h : ∀ x ∈ l, x.1 < m ∧ x.2.length = 64) : ∀ x ∈ l, (wrC x).length = 66 := fun x hx => wrC_len (h x hx).2
/-- Bytes written into a new write. -/
theorem wrC_spl {n : Nat} {l : By} (h : l.length ≤ 64) : spl (wrC (n, zer)) 1 (l.map b8) = wrC (n, pad l) := by
  simp only [spl, wrC, List.take_succ_cons, List.take_zero, List.length_map, pad, zer]
  rw [show 1 + l.length = l.length + 1 by omega, List.drop_succ_cons, List.drop_append_of_le_length (by simp; omega), ← List.map_drop, List.drop_replicate]
  simp
theorem secC_arr {b : By} (h : b.length = 64) : ((secC b).drop 0).take 64 = b.map b8 := by
  rw [List.drop_zero, secC, List.take_append_of_le_length (by simp [h]), List.take_of_length_le (by simp [h])]
theorem wrC_arr {x : Nat × By} (h : x.2.length = 64) : ((wrC x).drop 1).take 64 = x.2.map b8 := by
  rw [wrC, List.drop_succ_cons, List.drop_zero, List.take_append_of_le_length (by simp [h]), List.take_of_length_le (by simp [h])]
/-- A sector's bytes are others; its first half is. -/
theorem secC_spl {b c : By} (hb : b.length = 64) (hc : c.length = 64) : spl (secC b) 0 (c.map b8) = secC c := by
  simp only [spl, List.take_zero, List.nil_append, List.length_map, hc, Nat.zero_add, secC]
  rw [List.drop_append, List.drop_of_length_le (by simp [hb])]
  simp [hb]
theorem secC_half {b c : By} (hb : b.length = 64) (hc : c.length = 64) : spl (secC b) 0 ((c.take 32).map b8) = secC (c.take 32 ++ b.drop 32) := by
  have h1 : (c.take 32).length = 32 := by rw [List.length_take]; omega
  simp only [spl, List.take_zero, List.nil_append, List.length_map, h1, Nat.zero_add, secC]
  rw [List.drop_append_of_le_length (by simp [hb]), List.map_append, List.append_assoc, List.map_drop]
theorem secC_bad {b : By} (hb : b.length = 64) : spl (secC b) 64 [.int .i64 0] = secC b := by
  rw [spl_one (by rw [secC_len hb]; decide)]
  unfold secC
  rw [List.set_append_right _ _ (by simp [hb])]
  simp [hb]
/-! ### What is left when it fails -/
def kept (keep : BitVec 64) (i : Nat) : Bool := decide (keep >>> (i % 64) &&& 1#64 = 1#64)
def failS (keep : BitVec 64) (torn : Int) (l : List By) (i : Nat) (x : Nat × By) : List By :=
  if (i : Int) = torn then l.set x.1 (x.2.take 32 ++ (l.getD x.1 []).drop 32) else if kept keep i then l.set x.1 x.2 else l
def failL (keep : BitVec 64) (torn : Int) (l : List By) (ws : List (Nat × By)) : List By := ws.zipIdx.foldl (fun l p => failS keep torn l p.2 p.1) l
theorem failL_step {keep : BitVec 64} {torn : Int} {l : List By} {ws : List (Nat × By)} {i : Nat} (h : i < ws.length) : failL keep torn l (ws.take (i + 1)) = failS keep torn (failL keep torn l (ws.take i)) i ws[i] := by
  unfold failL
  rw [List.take_succ_eq_append_getElem h, List.zipIdx_append, List.foldl_append]
  simp [Nat.min_eq_left (Nat.le_of_lt h)]
theorem failS_len {keep : BitVec 64} {torn : Int} {l : List By} {i : Nat} {x : Nat × By} : (failS keep torn l i x).length = l.length := by
  unfold failS; split <;> (try split) <;> simp
theorem failS_64 {keep : BitVec 64} {torn : Int} {l : List By} {i : Nat} {x : Nat × By} (h : ∀ b ∈ l, b.length = 64) (hx : x.1 < l.length ∧ x.2.length = 64) : ∀ b ∈ failS keep torn l i x, b.length = 64 := fun b hb => by
  have hg : (l.getD x.1 []).length = 64 := by
    rw [List.getD_eq_getElem?_getD, List.getElem?_eq_getElem hx.1]; exact h _ (List.getElem_mem hx.1)
  unfold failS at hb
  split at hb
  · rcases List.mem_or_eq_of_mem_set hb with h1 | h1
    · exact h b h1
    · subst h1; rw [List.length_append, List.length_take, List.length_drop]; omega
  · split at hb
    · rcases List.mem_or_eq_of_mem_set hb with h1 | h1
      · exact h b h1
      · subst h1; exact hx.2
    · exact h b hb
theorem failL_len {keep : BitVec 64} {torn : Int} {l : List By} {ws : List (Nat × By)} : ∀ i, i ≤ ws.length → (failL keep torn l (ws.take i)).length = l.length
  | 0, _ => by simp [failL]
  | i + 1, h => by rw [failL_step h, failS_len, failL_len i (by omega)]
theorem failL_64 {keep : BitVec 64} {torn : Int} {l : List By} {ws : List (Nat × By)} (h : ∀ b ∈ l, b.length = 64) (hw : ∀ x ∈ ws, x.1 < l.length ∧ x.2.length = 64) : ∀ i, i ≤ ws.length → ∀ b ∈ failL keep torn l (ws.take i), b.length = 64
  | 0, _ => by simpa [failL] using h
  | i + 1, hi => by
    rw [failL_step hi]
    exact failS_64 (failL_64 h hw i (by omega)) (by rw [failL_len i (by omega)]; exact hw _ (List.getElem_mem hi))
/-- Blocks of one's own, and all new ones. -/
def gro (S : Nat → Prop) (w w' : World) : Nat → Prop := fun b => S b ∨ (w.heap.size ≤ b ∧ b < w'.heap.size)
end Go.Dd
