/- Plain law: what a log's sectors tell when its last record was not wholly kept. -/
import Derived.Test.YtiaojbbgjlpikaaOutRot
namespace Go.Proofs.Ytiaojbbgjlpikaa
open Go Go.Dd Go.RowKit
set_option maxRecDepth 100000

/-- The sectors 1 to k of another list. -/
def mixS (l l2 : List By) : Nat → List By
  | 0 => l
  | k + 1 => (mixS l l2 k).set (k + 1) (l2.getD (k + 1) [])
def wtsS (l2 : List By) (k : Nat) : List (Nat × By) := (List.range k).map fun i => (i + 1, l2.getD (i + 1) [])
theorem mixS_len (l l2 : List By) : ∀ k, (mixS l l2 k).length = l.length
  | 0 => rfl
  | k + 1 => by rw [mixS, List.length_set, mixS_len]
theorem mixS_get {l l2 : List By} : ∀ k i, k < l.length → (mixS l l2 k).getD i [] = if 1 ≤ i ∧ i ≤ k then l2.getD i [] else l.getD i []
  | 0, i, _ => by rw [if_neg (by omega)]; rfl
  | k + 1, i, h => by
    have ih := mixS_get (l := l) (l2 := l2) k i (by omega)
    rw [mixS]
    by_cases h1 : k + 1 = i
    · rw [if_pos (by omega), ← h1, getD_set (by rw [mixS_len]; exact h)]
    · rw [getD_set_ne h1, ih]
      by_cases h2 : 1 ≤ i ∧ i ≤ k
      · rw [if_pos h2, if_pos (by omega)]
      · rw [if_neg h2, if_neg (by omega)]
theorem mixS_64 {l l2 : List By} (h : ∀ b ∈ l, b.length = 64) (h2 : ∀ b ∈ l2, b.length = 64) (hl : l2.length = l.length) : ∀ k, k < l.length → ∀ b ∈ mixS l l2 k, b.length = 64
  | 0, _ => h
  | k + 1, hk => fun b hb => (List.mem_or_eq_of_mem_set hb).elim (mixS_64 h h2 hl k (by omega) b) (fun e => by
    rw [e, List.getD_eq_getElem?_getD, List.getElem?_eq_getElem (by omega)]
    exact h2 _ (List.getElem_mem _))
theorem wtsS_len (l2 : List By) (k : Nat) : (wtsS l2 k).length = k := by simp [wtsS]
theorem wtsS_succ (l2 : List By) (k : Nat) : wtsS l2 (k + 1) = wtsS l2 k ++ [(k + 1, l2.getD (k + 1) [])] := by
  unfold wtsS; rw [List.range_succ, List.map_append]; rfl
theorem wtsS_mem {l2 : List By} {k : Nat} {x : Nat × By} (h : x ∈ wtsS l2 k) : 1 ≤ x.1 ∧ x.1 ≤ k ∧ x.2 = l2.getD x.1 [] := by
  obtain ⟨i, hi, rfl⟩ := List.mem_map.1 h
  have := List.mem_range.1 hi
  exact ⟨Nat.succ_pos _, this, rfl⟩
theorem failL_same {keep : BitVec 64} {torn : Int} {l : List By} {ws : List (Nat × By)} {i : Nat} (hi : i < l.length) (h : ∀ x ∈ ws, x.1 = i → x.2 = l.getD i []) : ∀ k, k ≤ ws.length → (failL keep torn l (ws.take k)).getD i [] = l.getD i []
  | 0, _ => by simp [failL]
  | k + 1, hk => by
    have ih := failL_same (keep := keep) (torn := torn) hi h k (by omega)
    have hl := failL_len (keep := keep) (torn := torn) (l := l) (ws := ws) k (by omega)
    have hm := h ws[k] (List.getElem_mem _)
    rw [failL_step (by omega)]
    unfold failS
    by_cases e : ws[k].1 = i
    · have e2 := hm e
      rw [e]
      split
      · rw [getD_set (by omega), ih, e2, List.take_append_drop]
      · split
        · rw [getD_set (by omega), e2]
        · exact ih
    · split
      · rw [getD_set_ne e]; exact ih
      · split
        · rw [getD_set_ne e]; exact ih
        · exact ih
theorem failL_all {keep : BitVec 64} {torn : Int} {l : List By} {ws : List (Nat × By)} {i : Nat} (hi : i < l.length) (h : ∀ x ∈ ws, x.1 = i → x.2 = l.getD i []) : (failL keep torn l ws).getD i [] = l.getD i [] := by
  have := failL_same (keep := keep) (torn := torn) hi h ws.length (Nat.le_refl _)
  rwa [List.take_length] at this
theorem failL_64' {keep : BitVec 64} {torn : Int} {l : List By} {ws : List (Nat × By)} (h : ∀ b ∈ l, b.length = 64) (hw : ∀ x ∈ ws, x.1 < l.length ∧ x.2.length = 64) : ∀ b ∈ failL keep torn l ws, b.length = 64 := by
  have := failL_64 (keep := keep) (torn := torn) h hw ws.length (Nat.le_refl _)
  rwa [List.take_length] at this
theorem failL_len' {keep : BitVec 64} {torn : Int} {l : List By} {ws : List (Nat × By)} : (failL keep torn l ws).length = l.length := by
  have := failL_len (keep := keep) (torn := torn) (l := l) (ws := ws) ws.length (Nat.le_refl _)
  rwa [List.take_length] at this
theorem wts_ok {l l2 : List By} (h2 : ∀ b ∈ l2, b.length = 64) (hl : l2.length = l.length) {k : Nat} (hk : k < l.length) : ∀ x ∈ wtsS l2 k, x.1 < l.length ∧ x.2.length = 64 := fun x hx => by
  obtain ⟨h3, h4, h5⟩ := wtsS_mem hx
  refine ⟨by omega, ?_⟩
  rw [h5, List.getD_eq_getElem?_getD, List.getElem?_eq_getElem (by omega)]
  exact h2 _ (List.getElem_mem _)
/-- Some sectors of a record more change nothing. -/
theorem tear_first {l l2 : List By} {ls : List Nums} {x : Nums} (keep : BitVec 64) (torn : Int) (h : OnDisk l ls) (h2 : OnDisk l2 (ls ++ [x])) (hl : l2.length = l.length) (he : ∀ i, 1 ≤ i → i < stN ls → l2.getD i [] = l.getD i []) (m : Nat) (hm : m + 1 = l.length) :
    OnDisk (failL keep torn l (wtsS l2 m)) ls := by
  have hf := h.fit
  refine h.other (failL_64' h.s64 (wts_ok h2.s64 hl (by omega))) failL_len' (fun i h1 h3 => ?_) ?_
  · refine failL_all (by omega) fun y hy e => ?_
    rw [(wtsS_mem hy).2.2, e, he i h1 h3]
  · rw [failL_all (by omega) (fun y hy e => by have := (wtsS_mem hy).1; omega)]
    exact h.head
theorem mix_on {l l2 : List By} {ls : List Nums} {x : Nums} (h : OnDisk l ls) (h2 : OnDisk l2 (ls ++ [x])) (hl : l2.length = l.length) (he : ∀ i, 1 ≤ i → i < stN ls → l2.getD i [] = l.getD i []) (m : Nat) (hm : m + 1 = l.length) : OnDisk (mixS l l2 m) ls := by
  refine h.other (mixS_64 h.s64 h2.s64 hl m (by omega)) (mixS_len _ _ _) (fun i h1 h3 => ?_) ?_
  · have hf := h.fit
    rw [mixS_get m i (by omega), if_pos (by omega), he i h1 h3]
  · rw [mixS_get m 0 (by omega), if_neg (by omega)]; exact h.head
theorem mix_all {l l2 : List By} {ls : List Nums} {x : Nums} (h : OnDisk l ls) (h2 : OnDisk l2 (ls ++ [x])) (hl : l2.length = l.length) (m : Nat) (hm : m + 1 = l.length) : OnDisk ((mixS l l2 m).set 0 (l2.getD 0 [])) (ls ++ [x]) := by
  have hf := h2.fit
  refine h2.other (fun b hb => (List.mem_or_eq_of_mem_set hb).elim (mixS_64 h.s64 h2.s64 hl m (by omega) b) (fun e => ?_)) (by rw [List.length_set, mixS_len, hl]) (fun i h1 h3 => ?_) ?_
  · rw [e, List.getD_eq_getElem?_getD, List.getElem?_eq_getElem (by omega)]
    exact h2.s64 _ (List.getElem_mem _)
  · rw [getD_set_ne (by omega), mixS_get m i (by omega), if_pos (by omega)]
  · rw [getD_set (by rw [mixS_len]; omega)]; exact h2.head
theorem cnt_half (n s : Nat) : (cntB n s).drop 32 = List.replicate 32 0#8 := by
  have d13 : (cntB n s).drop 13 = Crc.four (Crc.of (cx n s)) ++ List.replicate 47 0#8 := by rw [cntB_eq]; exact List.drop_left (l₁ := cx n s)
  have d17 : (cntB n s).drop 17 = List.replicate 47 0#8 := by rw [show 17 = 13 + 4 from rfl, ← List.drop_drop, d13]; exact List.drop_left (l₁ := Crc.four (Crc.of (cx n s)))
  rw [show 32 = 17 + 15 from rfl, ← List.drop_drop, d17, List.drop_replicate]
theorem head_half {l : List By} {ls : List Nums} (h : OnDisk l ls) : (l.getD 0 []).drop 32 = List.replicate 32 0#8 := by
  rcases h.head with h1 | ⟨-, h1⟩
  · rw [h1]; exact cnt_half _ _
  · rw [h1]; rfl
/-- The count is kept, or not. -/
theorem tear_count {l l2 : List By} {ls : List Nums} {x : Nums} (keep : BitVec 64) (torn : Int) (h : OnDisk l ls) (h2 : OnDisk l2 (ls ++ [x])) :
    failL keep torn l [(0, l2.getD 0 [])] = l ∨ failL keep torn l [(0, l2.getD 0 [])] = l.set 0 (l2.getD 0 []) := by
  have e : failL keep torn l [(0, l2.getD 0 [])] = failS keep torn l 0 (0, l2.getD 0 []) := rfl
  rw [e]
  unfold failS
  split
  · right
    congr 1
    show (l2.getD 0 []).take 32 ++ (l.getD 0 []).drop 32 = _
    rw [head_half h, ← head_half h2, List.take_append_drop]
  · split
    · exact .inr rfl
    · exact .inl rfl
end Go.Proofs.Ytiaojbbgjlpikaa
