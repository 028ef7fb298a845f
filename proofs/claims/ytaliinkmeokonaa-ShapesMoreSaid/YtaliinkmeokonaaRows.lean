/-
  No cell of these rows narrows 'for every input' (looked for: loops, veiled, ifaces, maps, wideKeys, modest, calm, conditions, laid).
  DERIVED. THE GIVEN ROWS OF THIS SEAT. 4 by the template 'for every input the law returns true; each argument reads behind the call as it read before'; 0 by the template 'total and deterministic' (their statements: YtaliinkmeokonaaTotals.lean).
  GIVEN WITH THE SEED: the statements are not yours to turn. If you find one false, say at which input.
  Laid BY PROGRAM, IN A SANDBOX (cutbox-rows.mjs): the forced cells as the released guide's own fill.sh prints them over the translation 4337dc65eb2ee90c… (all of the seat's roots in one cut). By AI agents, Wed Nov 11 2026. No macro, syntax, notation, axiom, sorry.
-/
import Derived.Test.YtaliinkmeokonaaChecked
import GoSem.Claim
import GoSem.ClaimJoined
import GoSem.ClaimMapViews
import Derived.JoinedTies
import Derived.KernelRfl
namespace Go.Proofs.Ytaliinkmeokonaa
/- THE CELL 'sum', in the pinned program and in every row, IS THE sha256 OF THE DUMP (.gsa) THAT YtaliinkmeokonaaProg.lean LOADS. Nothing in Lean hashes anything: it is a label: what it is worth is what the hold of that sum in a sandbox is worth. -/
noncomputable def Try.pinned : Pinned := { name := "ytaliinkmeokonaa", sum := "4337dc65eb2ee90ceb17dbc2bc9f149d9f9228508ad50771bf940d6e482b00db", checked := Try.checked }
namespace Rows
def none {H : Type} : Left H := { results := [], args := [] }

/-- 'drydocklaw04.ShapesBack': WHATEVER THE INPUT: true; the input reads as it did. -/
def shapesBackSpec : ChangeSpec := { name := "shapesBack", fn := fun _ => fun
  | [d] => { results := [.lit (.bool true)], args := [d] }
  | _ => none }
def shapesBackRow : OpenClaim := { program := "ytaliinkmeokonaa", sum := "4337dc65eb2ee90ceb17dbc2bc9f149d9f9228508ad50771bf940d6e482b00db", func := "drydock/drydocklaw04.ShapesBack", spec := "shapesBack", unfollowed := true, recurses := true, apart := false }
def ShapesBackSaid : Prop := shapesBackRow.holds Try.pinned (OpenSpec.ofChange shapesBackSpec)

/-- ITS FALSE NEIGHBOUR: 'it returns false'. Refute it at one input. -/
def shapesBackWrong : ChangeSpec := { name := "shapesBack", fn := fun _ => fun
  | [d] => { results := [.lit (.bool false)], args := [d] }
  | _ => none }
def ShapesBackWrongFalsely : Prop := shapesBackRow.holds Try.pinned (OpenSpec.ofChange shapesBackWrong)

/-- 'drydocklaw04.ShapesMore': WHATEVER THE INPUT: true; the input reads as it did. -/
def shapesMoreSpec : ChangeSpec := { name := "shapesMore", fn := fun _ => fun
  | [d1, d2, d3] => { results := [.lit (.bool true)], args := [d1, d2, d3] }
  | _ => none }
def shapesMoreRow : OpenClaim := { program := "ytaliinkmeokonaa", sum := "4337dc65eb2ee90ceb17dbc2bc9f149d9f9228508ad50771bf940d6e482b00db", func := "drydock/drydocklaw04.ShapesMore", spec := "shapesMore", unfollowed := true, recurses := true, apart := false }
def ShapesMoreSaid : Prop := shapesMoreRow.holds Try.pinned (OpenSpec.ofChange shapesMoreSpec)

/-- ITS FALSE NEIGHBOUR: 'it returns false'. Refute it at one input. -/
def shapesMoreWrong : ChangeSpec := { name := "shapesMore", fn := fun _ => fun
  | [d1, d2, d3] => { results := [.lit (.bool false)], args := [d1, d2, d3] }
  | _ => none }
def ShapesMoreWrongFalsely : Prop := shapesMoreRow.holds Try.pinned (OpenSpec.ofChange shapesMoreWrong)

/-- 'drydocklaw04.ShapesTurned': WHATEVER THE INPUT: true; the input reads as it did. -/
def shapesTurnedSpec : ChangeSpec := { name := "shapesTurned", fn := fun _ => fun
  | [d1, d2] => { results := [.lit (.bool true)], args := [d1, d2] }
  | _ => none }
def shapesTurnedRow : OpenClaim := { program := "ytaliinkmeokonaa", sum := "4337dc65eb2ee90ceb17dbc2bc9f149d9f9228508ad50771bf940d6e482b00db", func := "drydock/drydocklaw04.ShapesTurned", spec := "shapesTurned", unfollowed := true, recurses := true, apart := false }
def ShapesTurnedSaid : Prop := shapesTurnedRow.holds Try.pinned (OpenSpec.ofChange shapesTurnedSpec)

/-- ITS FALSE NEIGHBOUR: 'it returns false'. Refute it at one input. -/
def shapesTurnedWrong : ChangeSpec := { name := "shapesTurned", fn := fun _ => fun
  | [d1, d2] => { results := [.lit (.bool false)], args := [d1, d2] }
  | _ => none }
def ShapesTurnedWrongFalsely : Prop := shapesTurnedRow.holds Try.pinned (OpenSpec.ofChange shapesTurnedWrong)

/-- 'drydocklaw04.ShapesLess': WHATEVER THE INPUT: true; the input reads as it did. -/
def shapesLessSpec : ChangeSpec := { name := "shapesLess", fn := fun _ => fun
  | [d1, d2, d3] => { results := [.lit (.bool true)], args := [d1, d2, d3] }
  | _ => none }
def shapesLessRow : OpenClaim := { program := "ytaliinkmeokonaa", sum := "4337dc65eb2ee90ceb17dbc2bc9f149d9f9228508ad50771bf940d6e482b00db", func := "drydock/drydocklaw04.ShapesLess", spec := "shapesLess", unfollowed := true, recurses := true, apart := false }
def ShapesLessSaid : Prop := shapesLessRow.holds Try.pinned (OpenSpec.ofChange shapesLessSpec)

/-- ITS FALSE NEIGHBOUR: 'it returns false'. Refute it at one input. -/
def shapesLessWrong : ChangeSpec := { name := "shapesLess", fn := fun _ => fun
  | [d1, d2, d3] => { results := [.lit (.bool false)], args := [d1, d2, d3] }
  | _ => none }
def ShapesLessWrongFalsely : Prop := shapesLessRow.holds Try.pinned (OpenSpec.ofChange shapesLessWrong)

/- THE SECOND FORM. 'bulk': how many values and letters a reading holds, each counted each time it is reached (what is shared counts as often as it is met; a slice's spare places count too). A statement '..UptoSaid' is the law's where the arguments, and the package variables that the reading takes, are together of bulk at most 1048576: NARROWER than '..Said'. Prove '..Said' where nothing that the law and all that it calls make is longer than what came in: it says more and counts as full. Else prove '..UptoSaid'. A law counts once. -/
mutual
def uptoBulk {H : Type} : DataW H → Nat
  | .lit (.string bytes) => bytes.length + 1
  | .lit _ => 1
  | .nil => 1
  | .ptr d => uptoBulk d + 1
  | .slice elems spare => uptoBulkAll elems + uptoBulkAll spare + 1
  | .agg parts => uptoBulkAll parts + 1
  | .iface _ d => uptoBulk d + 1
  | .map entries => uptoBulkEntries entries + 1
  | .held _ => 1
def uptoBulkAll {H : Type} : List (DataW H) → Nat
  | [] => 0
  | d :: r => uptoBulk d + uptoBulkAll r
def uptoBulkEntries {H : Type} : List (Lit × DataW H) → Nat
  | [] => 0
  | x :: r => uptoBulkEntry x + uptoBulkEntries r
def uptoBulkEntry {H : Type} : Lit × DataW H → Nat
  | (.string bytes, d) => bytes.length + uptoBulk d + 1
  | (_, d) => uptoBulk d + 1
 end
def uptoSmall : (H : Type) → List (DataW H) → Bool := fun _ ds => decide (uptoBulkAll ds ≤ 1048576)
def OpenSpec.upto (s : _root_.Go.ChangeSpec) : _root_.Go.OpenSpec := { _root_.Go.OpenSpec.ofChange s with cond := some uptoSmall }

/-- 'drydocklaw04.ShapesBack', WHERE WHAT IT READS IS OF BULK AT MOST 1048576: true; the input reads as it did. -/
def shapesBackUptoRow : OpenClaim := { program := "ytaliinkmeokonaa", sum := "4337dc65eb2ee90ceb17dbc2bc9f149d9f9228508ad50771bf940d6e482b00db", func := "drydock/drydocklaw04.ShapesBack", spec := "shapesBack", unfollowed := true, recurses := true, apart := false, narrowed := true }
def ShapesBackUptoSaid : Prop := shapesBackUptoRow.holds Try.pinned (OpenSpec.upto shapesBackSpec)

/-- 'drydocklaw04.ShapesMore', WHERE WHAT IT READS IS OF BULK AT MOST 1048576: true; the input reads as it did. -/
def shapesMoreUptoRow : OpenClaim := { program := "ytaliinkmeokonaa", sum := "4337dc65eb2ee90ceb17dbc2bc9f149d9f9228508ad50771bf940d6e482b00db", func := "drydock/drydocklaw04.ShapesMore", spec := "shapesMore", unfollowed := true, recurses := true, apart := false, narrowed := true }
def ShapesMoreUptoSaid : Prop := shapesMoreUptoRow.holds Try.pinned (OpenSpec.upto shapesMoreSpec)

/-- 'drydocklaw04.ShapesTurned', WHERE WHAT IT READS IS OF BULK AT MOST 1048576: true; the input reads as it did. -/
def shapesTurnedUptoRow : OpenClaim := { program := "ytaliinkmeokonaa", sum := "4337dc65eb2ee90ceb17dbc2bc9f149d9f9228508ad50771bf940d6e482b00db", func := "drydock/drydocklaw04.ShapesTurned", spec := "shapesTurned", unfollowed := true, recurses := true, apart := false, narrowed := true }
def ShapesTurnedUptoSaid : Prop := shapesTurnedUptoRow.holds Try.pinned (OpenSpec.upto shapesTurnedSpec)

/-- 'drydocklaw04.ShapesLess', WHERE WHAT IT READS IS OF BULK AT MOST 1048576: true; the input reads as it did. -/
def shapesLessUptoRow : OpenClaim := { program := "ytaliinkmeokonaa", sum := "4337dc65eb2ee90ceb17dbc2bc9f149d9f9228508ad50771bf940d6e482b00db", func := "drydock/drydocklaw04.ShapesLess", spec := "shapesLess", unfollowed := true, recurses := true, apart := false, narrowed := true }
def ShapesLessUptoSaid : Prop := shapesLessUptoRow.holds Try.pinned (OpenSpec.upto shapesLessSpec)

end Rows
end Go.Proofs.Ytaliinkmeokonaa
