/- Lists of whole numbers in memory; some that are joined along a direction. -/
import Derived.Test.YtkhndfaampkbnaaGreatDoorTensorsCode
namespace Go.Proofs.YtkhndfaampkbnaaGreatDoor
open Go Go.Dd Go.RowKit
set_option maxRecDepth 100000

instance : Inhabited T4 := ⟨⟨.slice none 0 0, .slice none 0 0, [], []⟩⟩
/-- Lists of whole numbers, in memory. -/
structure LI (w : World) (v : Value) (ps : List (Value × List Int)) : Prop where
  sl : SlT (fun p : Value × List Int => p.1) w v ps
  each : ∀ p ∈ ps, SlT (Value.int .i64) w p.1 p.2
theorem LI.bs {w w' : World} {v : Value} {ps : List (Value × List Int)} (h : LI w v ps) (g : Below w.heap.size w w') : LI w' v ps := ⟨h.sl.bs g, fun p hp => (h.each p hp).bs g⟩
abbrev ints2 (ps : List (Value × List Int)) : List (List Int) := ps.map (·.2)
def jn1 (k : Nat) (s x : List Int) : Option (List Int) := if x.length = s.length ∧ k < s.length ∧ (∀ m, m < s.length → m ≠ k → s.getD m default = x.getD m default) then some (s.set k (s.getD k default + x.getD k default)) else none
def jnR (k : Nat) : List Int → List (List Int) → Option (List Int)
  | s, [] => some s
  | s, x :: r => match jn1 k s x with
    | some s' => jnR k s' r
    | none => none
theorem okd {s : List Int} (h : Shapes.ok s = true) {i : Nat} (hi : i < s.length) : 1 ≤ s.getD i default ∧ s.getD i default ≤ 64 := by
  rw [List.getD_eq_getElem?_getD, List.getElem?_eq_getElem hi]
  exact ((Shapes.ok_iff s).1 h).2.1 _ (List.getElem_mem hi)
end Go.Proofs.YtkhndfaampkbnaaGreatDoor
