/-
  No cell of these rows narrows 'for every input' (looked for: loops, veiled, ifaces, maps, wideKeys, modest, calm, conditions, laid).
  DERIVED. THE GIVEN ROWS OF THIS SEAT. 2 by the template 'for every input the law returns true; each argument reads behind the call as it read before'; 0 by the template 'total and deterministic' (their statements: YtjfghiepdnonjaaTotals.lean).
  GIVEN WITH THE SEED: the statements are not yours to turn. If you find one false, say at which input.
  Laid BY PROGRAM, IN A SANDBOX (cutbox-rows.mjs): the forced cells as the released guide's own fill.sh prints them over the translation 37fbc4ee6896fd2a… (all of the seat's roots in one cut). By AI agents, Wed Nov 11 2026. No macro, syntax, notation, axiom, sorry.
-/
import Derived.Test.YtjfghiepdnonjaaChecked
import GoSem.Claim
import GoSem.ClaimJoined
import GoSem.ClaimMapViews
import Derived.JoinedTies
import Derived.KernelRfl
namespace Go.Proofs.Ytjfghiepdnonjaa
/- THE CELL 'sum', in the pinned program and in every row, IS THE sha256 OF THE DUMP (.gsa) THAT YtjfghiepdnonjaaProg.lean LOADS. Nothing in Lean hashes anything: it is a label: what it is worth is what the hold of that sum in a sandbox is worth. -/
noncomputable def Try.pinned : Pinned := { name := "ytjfghiepdnonjaa", sum := "37fbc4ee6896fd2af3183efabdacccc9af8e55bf20e130f093a060ec1d58ce36", checked := Try.checked }
namespace Rows
def none {H : Type} : Left H := { results := [], args := [] }

/-- 'drydocklaw05.TensorsBack': WHATEVER THE INPUT: true; the input reads as it did. -/
def tensorsBackSpec : ChangeSpec := { name := "tensorsBack", fn := fun _ => fun
  | [d1, d2] => { results := [.lit (.bool true)], args := [d1, d2] }
  | _ => none }
def tensorsBackRow : OpenClaim := { program := "ytjfghiepdnonjaa", sum := "37fbc4ee6896fd2af3183efabdacccc9af8e55bf20e130f093a060ec1d58ce36", func := "drydock/drydocklaw05.TensorsBack", spec := "tensorsBack", unfollowed := true, recurses := true, apart := false }
def TensorsBackSaid : Prop := tensorsBackRow.holds Try.pinned (OpenSpec.ofChange tensorsBackSpec)

/-- ITS FALSE NEIGHBOUR: 'it returns false'. Refute it at one input. -/
def tensorsBackWrong : ChangeSpec := { name := "tensorsBack", fn := fun _ => fun
  | [d1, d2] => { results := [.lit (.bool false)], args := [d1, d2] }
  | _ => none }
def TensorsBackWrongFalsely : Prop := tensorsBackRow.holds Try.pinned (OpenSpec.ofChange tensorsBackWrong)

/-- 'drydocklaw05.TensorsSame': WHATEVER THE INPUT: true; the input reads as it did. -/
def tensorsSameSpec : ChangeSpec := { name := "tensorsSame", fn := fun _ => fun
  | [d1, d2, d3] => { results := [.lit (.bool true)], args := [d1, d2, d3] }
  | _ => none }
def tensorsSameRow : OpenClaim := { program := "ytjfghiepdnonjaa", sum := "37fbc4ee6896fd2af3183efabdacccc9af8e55bf20e130f093a060ec1d58ce36", func := "drydock/drydocklaw05.TensorsSame", spec := "tensorsSame", unfollowed := true, recurses := true, apart := false }
def TensorsSameSaid : Prop := tensorsSameRow.holds Try.pinned (OpenSpec.ofChange tensorsSameSpec)

/-- ITS FALSE NEIGHBOUR: 'it returns false'. Refute it at one input. -/
def tensorsSameWrong : ChangeSpec := { name := "tensorsSame", fn := fun _ => fun
  | [d1, d2, d3] => { results := [.lit (.bool false)], args := [d1, d2, d3] }
  | _ => none }
def TensorsSameWrongFalsely : Prop := tensorsSameRow.holds Try.pinned (OpenSpec.ofChange tensorsSameWrong)

/- THE SECOND FORM. 'bulk': how many values and letters a reading holds, each counted each time it is reached (what is shared counts as often as it is met; a slice's spare places count too). A statement '..UptoSaid' is the law's where the arguments, and the package variables that the reading takes, are together of bulk at most 1048576: NARROWER than '..Said'. Prove '..Said' where nothing that the law and all that it calls make is longer than what came in: it says more and counts as full. Else prove '..UptoSaid'. A law counts once. -/
mutual
def uptoBulk {H : Type} : DataW H → Nat
  | .lit (.string bytes) => bytes.length + 1
  | .lit _ => 1
  | .nil => 1
  | .ptr d => uptoBulk d + 1
  | .slice elems spare => uptoBulkAll elems + uptoBulkAll spare + 1
  | .agg parts => uptoBulkAll parts + 1
  | .iface _ d => uptoBulk d + 1
  | .map entries => uptoBulkEntries entries + 1
  | .held _ => 1
def uptoBulkAll {H : Type} : List (DataW H) → Nat
  | [] => 0
  | d :: r => uptoBulk d + uptoBulkAll r
def uptoBulkEntries {H : Type} : List (Lit × DataW H) → Nat
  | [] => 0
  | x :: r => uptoBulkEntry x + uptoBulkEntries r
def uptoBulkEntry {H : Type} : Lit × DataW H → Nat
  | (.string bytes, d) => bytes.length + uptoBulk d + 1
  | (_, d) => uptoBulk d + 1
 end
def uptoSmall : (H : Type) → List (DataW H) → Bool := fun _ ds => decide (uptoBulkAll ds ≤ 1048576)
def OpenSpec.upto (s : _root_.Go.ChangeSpec) : _root_.Go.OpenSpec := { _root_.Go.OpenSpec.ofChange s with cond := some uptoSmall }

/-- 'drydocklaw05.TensorsBack', WHERE WHAT IT READS IS OF BULK AT MOST 1048576: true; the input reads as it did. -/
def tensorsBackUptoRow : OpenClaim := { program := "ytjfghiepdnonjaa", sum := "37fbc4ee6896fd2af3183efabdacccc9af8e55bf20e130f093a060ec1d58ce36", func := "drydock/drydocklaw05.TensorsBack", spec := "tensorsBack", unfollowed := true, recurses := true, apart := false, narrowed := true }
def TensorsBackUptoSaid : Prop := tensorsBackUptoRow.holds Try.pinned (OpenSpec.upto tensorsBackSpec)

/-- 'drydocklaw05.TensorsSame', WHERE WHAT IT READS IS OF BULK AT MOST 1048576: true; the input reads as it did. -/
def tensorsSameUptoRow : OpenClaim := { program := "ytjfghiepdnonjaa", sum := "37fbc4ee6896fd2af3183efabdacccc9af8e55bf20e130f093a060ec1d58ce36", func := "drydock/drydocklaw05.TensorsSame", spec := "tensorsSame", unfollowed := true, recurses := true, apart := false, narrowed := true }
def TensorsSameUptoSaid : Prop := tensorsSameUptoRow.holds Try.pinned (OpenSpec.upto tensorsSameSpec)

end Rows
end Go.Proofs.Ytjfghiepdnonjaa
