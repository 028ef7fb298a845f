/- An answer of the moves, as a tensor of its own. -/
import Derived.Test.YtkhndfaampkbnaaGreatDoorBookTen
import Derived.Test.YtkhndfaampkbnaaGreatDoorMovesCode
namespace Go.Proofs.YtkhndfaampkbnaaGreatDoor
open Go Go.Dd Go.RowKit
set_option maxRecDepth 100000

theorem size_nat (s : List Int) : (Shapes.size s).toNat ≤ 4096 := by have := Shapes.size_le s; omega
theorem AnsK.gives {W w : World} {r : Value} {e : Int} {s : List Int} {l : List (BitVec 32)} (h : AnsK W w r e s l) : Gives W w r e s l := by
  obtain ⟨x, y, rfl, q1, q2⟩ := h
  by_cases he : e = 0
  · have M := q2 he
    exact ⟨⟨x, y, s, l⟩, rfl, ⟨M.row, M.col, M.row.lt, M.col.lt, M.apart⟩, fun h => absurd he h, fun _ => ⟨rfl, rfl⟩⟩
  · obtain ⟨rfl, rfl⟩ := q1 he
    exact ⟨⟨_, _, [], []⟩, rfl, held_nil _ _ _, fun _ => ⟨rfl, rfl⟩, fun h => absurd h he⟩
end Go.Proofs.YtkhndfaampkbnaaGreatDoor
