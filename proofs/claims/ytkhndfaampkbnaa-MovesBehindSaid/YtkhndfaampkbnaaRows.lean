/-
  No cell of these rows narrows 'for every input' (looked for: loops, veiled, ifaces, maps, wideKeys, modest, calm, conditions, laid).
  DERIVED. THE GIVEN ROWS OF THIS SEAT. 4 by the template 'for every input the law returns true; each argument reads behind the call as it read before'; 0 by the template 'total and deterministic' (their statements: YtkhndfaampkbnaaTotals.lean).
  GIVEN WITH THE SEED: the statements are not yours to turn. If you find one false, say at which input.
  Laid BY PROGRAM, IN A SANDBOX (cutbox-rows.mjs): the forced cells as the released guide's own fill.sh prints them over the translation e4f06d4f6f7682ed… (all of the seat's roots in one cut). By AI agents, Wed Nov 11 2026. No macro, syntax, notation, axiom, sorry.
-/
import Derived.Test.YtkhndfaampkbnaaChecked
import GoSem.Claim
import GoSem.ClaimJoined
import GoSem.ClaimMapViews
import Derived.JoinedTies
import Derived.KernelRfl
namespace Go.Proofs.Ytkhndfaampkbnaa
/- THE CELL 'sum', in the pinned program and in every row, IS THE sha256 OF THE DUMP (.gsa) THAT YtkhndfaampkbnaaProg.lean LOADS. Nothing in Lean hashes anything: it is a label: what it is worth is what the hold of that sum in a sandbox is worth. -/
noncomputable def Try.pinned : Pinned := { name := "ytkhndfaampkbnaa", sum := "e4f06d4f6f7682ed1bbd82868a1a589bcba57699c4f5db422e1d3f1dc2d0c7a1", checked := Try.checked }
namespace Rows
def none {H : Type} : Left H := { results := [], args := [] }

/-- 'drydocklaw09.MovesShapes': WHATEVER THE INPUT: true; the input reads as it did. -/
def movesShapesSpec : ChangeSpec := { name := "movesShapes", fn := fun _ => fun
  | [d1, d2] => { results := [.lit (.bool true)], args := [d1, d2] }
  | _ => none }
def movesShapesRow : OpenClaim := { program := "ytkhndfaampkbnaa", sum := "e4f06d4f6f7682ed1bbd82868a1a589bcba57699c4f5db422e1d3f1dc2d0c7a1", func := "drydock/drydocklaw09.MovesShapes", spec := "movesShapes", unfollowed := true, recurses := true, apart := false }
def MovesShapesSaid : Prop := movesShapesRow.holds Try.pinned (OpenSpec.ofChange movesShapesSpec)

/-- ITS FALSE NEIGHBOUR: 'it returns false'. Refute it at one input. -/
def movesShapesWrong : ChangeSpec := { name := "movesShapes", fn := fun _ => fun
  | [d1, d2] => { results := [.lit (.bool false)], args := [d1, d2] }
  | _ => none }
def MovesShapesWrongFalsely : Prop := movesShapesRow.holds Try.pinned (OpenSpec.ofChange movesShapesWrong)

/-- 'drydocklaw09.MovesBehind': WHATEVER THE INPUT: true; the input reads as it did. -/
def movesBehindSpec : ChangeSpec := { name := "movesBehind", fn := fun _ => fun
  | [d1, d2] => { results := [.lit (.bool true)], args := [d1, d2] }
  | _ => none }
def movesBehindRow : OpenClaim := { program := "ytkhndfaampkbnaa", sum := "e4f06d4f6f7682ed1bbd82868a1a589bcba57699c4f5db422e1d3f1dc2d0c7a1", func := "drydock/drydocklaw09.MovesBehind", spec := "movesBehind", unfollowed := true, recurses := true, apart := false }
def MovesBehindSaid : Prop := movesBehindRow.holds Try.pinned (OpenSpec.ofChange movesBehindSpec)

/-- ITS FALSE NEIGHBOUR: 'it returns false'. Refute it at one input. -/
def movesBehindWrong : ChangeSpec := { name := "movesBehind", fn := fun _ => fun
  | [d1, d2] => { results := [.lit (.bool false)], args := [d1, d2] }
  | _ => none }
def MovesBehindWrongFalsely : Prop := movesBehindRow.holds Try.pinned (OpenSpec.ofChange movesBehindWrong)

/-- 'drydocklaw09.MovesSums': WHATEVER THE INPUT: true; the input reads as it did. -/
def movesSumsSpec : ChangeSpec := { name := "movesSums", fn := fun _ => fun
  | [d1, d2, d3] => { results := [.lit (.bool true)], args := [d1, d2, d3] }
  | _ => none }
def movesSumsRow : OpenClaim := { program := "ytkhndfaampkbnaa", sum := "e4f06d4f6f7682ed1bbd82868a1a589bcba57699c4f5db422e1d3f1dc2d0c7a1", func := "drydock/drydocklaw09.MovesSums", spec := "movesSums", unfollowed := true, recurses := true, apart := false }
def MovesSumsSaid : Prop := movesSumsRow.holds Try.pinned (OpenSpec.ofChange movesSumsSpec)

/-- ITS FALSE NEIGHBOUR: 'it returns false'. Refute it at one input. -/
def movesSumsWrong : ChangeSpec := { name := "movesSums", fn := fun _ => fun
  | [d1, d2, d3] => { results := [.lit (.bool false)], args := [d1, d2, d3] }
  | _ => none }
def MovesSumsWrongFalsely : Prop := movesSumsRow.holds Try.pinned (OpenSpec.ofChange movesSumsWrong)

/-- 'drydocklaw09.MovesJoins': WHATEVER THE INPUT: true; the input reads as it did. -/
def movesJoinsSpec : ChangeSpec := { name := "movesJoins", fn := fun _ => fun
  | [d1, d2] => { results := [.lit (.bool true)], args := [d1, d2] }
  | _ => none }
def movesJoinsRow : OpenClaim := { program := "ytkhndfaampkbnaa", sum := "e4f06d4f6f7682ed1bbd82868a1a589bcba57699c4f5db422e1d3f1dc2d0c7a1", func := "drydock/drydocklaw09.MovesJoins", spec := "movesJoins", unfollowed := true, recurses := true, apart := false }
def MovesJoinsSaid : Prop := movesJoinsRow.holds Try.pinned (OpenSpec.ofChange movesJoinsSpec)

/-- ITS FALSE NEIGHBOUR: 'it returns false'. Refute it at one input. -/
def movesJoinsWrong : ChangeSpec := { name := "movesJoins", fn := fun _ => fun
  | [d1, d2] => { results := [.lit (.bool false)], args := [d1, d2] }
  | _ => none }
def MovesJoinsWrongFalsely : Prop := movesJoinsRow.holds Try.pinned (OpenSpec.ofChange movesJoinsWrong)

/- THE SECOND FORM. 'bulk': how many values and letters a reading holds, each counted each time it is reached (what is shared counts as often as it is met; a slice's spare places count too). A statement '..UptoSaid' is the law's where the arguments, and the package variables that the reading takes, are together of bulk at most 1048576: NARROWER than '..Said'. Prove '..Said' where nothing that the law and all that it calls make is longer than what came in: it says more and counts as full. Else prove '..UptoSaid'. A law counts once. -/
mutual
def uptoBulk {H : Type} : DataW H → Nat
  | .lit (.string bytes) => bytes.length + 1
  | .lit _ => 1
  | .nil => 1
  | .ptr d => uptoBulk d + 1
  | .slice elems spare => uptoBulkAll elems + uptoBulkAll spare + 1
  | .agg parts => uptoBulkAll parts + 1
  | .iface _ d => uptoBulk d + 1
  | .map entries => uptoBulkEntries entries + 1
  | .held _ => 1
def uptoBulkAll {H : Type} : List (DataW H) → Nat
  | [] => 0
  | d :: r => uptoBulk d + uptoBulkAll r
def uptoBulkEntries {H : Type} : List (Lit × DataW H) → Nat
  | [] => 0
  | x :: r => uptoBulkEntry x + uptoBulkEntries r
def uptoBulkEntry {H : Type} : Lit × DataW H → Nat
  | (.string bytes, d) => bytes.length + uptoBulk d + 1
  | (_, d) => uptoBulk d + 1
 end
def uptoSmall : (H : Type) → List (DataW H) → Bool := fun _ ds => decide (uptoBulkAll ds ≤ 1048576)
def OpenSpec.upto (s : _root_.Go.ChangeSpec) : _root_.Go.OpenSpec := { _root_.Go.OpenSpec.ofChange s with cond := some uptoSmall }

/-- 'drydocklaw09.MovesShapes', WHERE WHAT IT READS IS OF BULK AT MOST 1048576: true; the input reads as it did. -/
def movesShapesUptoRow : OpenClaim := { program := "ytkhndfaampkbnaa", sum := "e4f06d4f6f7682ed1bbd82868a1a589bcba57699c4f5db422e1d3f1dc2d0c7a1", func := "drydock/drydocklaw09.MovesShapes", spec := "movesShapes", unfollowed := true, recurses := true, apart := false, narrowed := true }
def MovesShapesUptoSaid : Prop := movesShapesUptoRow.holds Try.pinned (OpenSpec.upto movesShapesSpec)

/-- 'drydocklaw09.MovesBehind', WHERE WHAT IT READS IS OF BULK AT MOST 1048576: true; the input reads as it did. -/
def movesBehindUptoRow : OpenClaim := { program := "ytkhndfaampkbnaa", sum := "e4f06d4f6f7682ed1bbd82868a1a589bcba57699c4f5db422e1d3f1dc2d0c7a1", func := "drydock/drydocklaw09.MovesBehind", spec := "movesBehind", unfollowed := true, recurses := true, apart := false, narrowed := true }
def MovesBehindUptoSaid : Prop := movesBehindUptoRow.holds Try.pinned (OpenSpec.upto movesBehindSpec)

/-- 'drydocklaw09.MovesSums', WHERE WHAT IT READS IS OF BULK AT MOST 1048576: true; the input reads as it did. -/
def movesSumsUptoRow : OpenClaim := { program := "ytkhndfaampkbnaa", sum := "e4f06d4f6f7682ed1bbd82868a1a589bcba57699c4f5db422e1d3f1dc2d0c7a1", func := "drydock/drydocklaw09.MovesSums", spec := "movesSums", unfollowed := true, recurses := true, apart := false, narrowed := true }
def MovesSumsUptoSaid : Prop := movesSumsUptoRow.holds Try.pinned (OpenSpec.upto movesSumsSpec)

/-- 'drydocklaw09.MovesJoins', WHERE WHAT IT READS IS OF BULK AT MOST 1048576: true; the input reads as it did. -/
def movesJoinsUptoRow : OpenClaim := { program := "ytkhndfaampkbnaa", sum := "e4f06d4f6f7682ed1bbd82868a1a589bcba57699c4f5db422e1d3f1dc2d0c7a1", func := "drydock/drydocklaw09.MovesJoins", spec := "movesJoins", unfollowed := true, recurses := true, apart := false, narrowed := true }
def MovesJoinsUptoSaid : Prop := movesJoinsUptoRow.holds Try.pinned (OpenSpec.upto movesJoinsSpec)

end Rows
end Go.Proofs.Ytkhndfaampkbnaa
