/- What the cards on tensors share. -/
import Derived.Test.YtkhndfaampkbnaaGreatDoorBookTen
import Derived.Test.YtkhndfaampkbnaaGreatDoorTensorsArg
import Derived.Test.YtkhndfaampkbnaaGreatDoorCards
import Derived.Test.YtkhndfaampkbnaaGreatDoorTie
import Derived.SevenTiedAt
import Derived.LaidLaws
import Derived.LaidHandle
import Derived.JoinedOf
namespace Go.Proofs.YtkhndfaampkbnaaGreatDoor
open Go Go.Dd Go.RowKit
set_option maxRecDepth 100000

theorem own : ownKnob Tryz.prog.godebug = none := by kernel_rfl
theorem laidOut : laidOutB Tryz.prog = true := by kernel_rfl
/-- Two answers of the same reckoning are the same. -/
theorem same_ans {e : Int} {s s1 s2 : List Int} {l l1 l2 : List (BitVec 32)} (a0 : e ≠ 0 → s1 = [] ∧ l1 = []) (a1 : e = 0 → s1 = s ∧ l1 = l) (b0 : e ≠ 0 → s2 = [] ∧ l2 = []) (b1 : e = 0 → s2 = s ∧ l2 = l) : (!(decide (s1 = s2) && decide (l1 = l2))) = false := by
  have : s1 = s2 ∧ l1 = l2 := by
    by_cases h : e = 0
    · rw [(a1 h).1, (a1 h).2, (b1 h).1, (b1 h).2]; exact ⟨rfl, rfl⟩
    · rw [(a0 h).1, (a0 h).2, (b0 h).1, (b0 h).2]; exact ⟨rfl, rfl⟩
  rw [this.1, this.2]
  simp
theorem few_ans {e : Int} {s s1 : List Int} {l l1 : List (BitVec 32)} (a0 : e ≠ 0 → s1 = [] ∧ l1 = []) (a1 : e = 0 → s1 = s ∧ l1 = l) (hs : s.length ≤ 16777216) (hl : e = 0 → l.length ≤ 16777216) : s1.length ≤ 16777216 ∧ l1.length ≤ 16777216 := by
  by_cases h : e = 0
  · rw [(a1 h).1, (a1 h).2]; exact ⟨hs, hl h⟩
  · rw [(a0 h).1, (a0 h).2]; simp
theorem tsz_le {s : List Int} {l : List (BitVec 32)} (h : tsz s l ≤ 1048576) : s.length ≤ 1048576 ∧ l.length ≤ 1048576 := by
  unfold tsz at h
  split at h <;> omega
theorem tsz_bd {s : List Int} {l : List (BitVec 32)} (h1 : s.length ≤ 1125899906842624) (h2 : l.length ≤ 1125899906842624) : 0 ≤ tsz s l ∧ tsz s l ≤ 4503599627370496 := by unfold tsz; split <;> omega
end Go.Proofs.YtkhndfaampkbnaaGreatDoor
