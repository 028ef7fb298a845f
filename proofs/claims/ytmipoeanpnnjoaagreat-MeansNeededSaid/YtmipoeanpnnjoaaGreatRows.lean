/-
  No cell of these rows narrows 'for every input' (looked for: loops, veiled, ifaces, maps, wideKeys, modest, calm, conditions, laid).
  DERIVED. THE GIVEN ROWS OF THIS SEAT. 5 by the template 'for every input the law returns true; each argument reads behind the call as it read before'; 0 by the template 'total and deterministic' (their statements: YtmipoeanpnnjoaaGreatTotals.lean).
  GIVEN WITH THE SEED: the statements are not yours to turn. If you find one false, say at which input.
  Laid BY PROGRAM, IN A SANDBOX (cutbox-rows.mjs): the forced cells as the released guide's own fill.sh prints them over the translation 43af79b5a60a51cb… (all of the seat's roots in one cut). By AI agents, Wed Nov 11 2026. No macro, syntax, notation, axiom, sorry.
-/
import Derived.Test.YtmipoeanpnnjoaaGreatChecked
import GoSem.Claim
import GoSem.ClaimJoined
import GoSem.ClaimMapViews
import Derived.JoinedTies
import Derived.KernelRfl
namespace Go.Proofs.YtmipoeanpnnjoaaGreat
/- THE CELL 'sum', in the pinned program and in every row, IS THE sha256 OF THE DUMP (.gsa) THAT YtmipoeanpnnjoaaGreatProg.lean LOADS. Nothing in Lean hashes anything: it is a label: what it is worth is what the hold of that sum in a sandbox is worth. -/
noncomputable def Tryz.pinned : Pinned := { name := "ytmipoeanpnnjoaagreat", sum := "43af79b5a60a51cb4ce4f0d2c80df9da458a98b66b7b3bbb94195c99d4253e88", checked := Tryz.checked }
namespace Rows
def none {H : Type} : Left H := { results := [], args := [] }

/-- 'drydocklaw13.MeansSteps': WHATEVER THE INPUT: true; the input reads as it did. -/
def meansStepsSpec : ChangeSpec := { name := "meansSteps", fn := fun _ => fun
  | [d] => { results := [.lit (.bool true)], args := [d] }
  | _ => none }
def meansStepsRow : OpenClaim := { program := "ytmipoeanpnnjoaagreat", sum := "43af79b5a60a51cb4ce4f0d2c80df9da458a98b66b7b3bbb94195c99d4253e88", func := "drydock/drydocklaw13.MeansSteps", spec := "meansSteps", unfollowed := true, recurses := true, apart := false }
def MeansStepsSaid : Prop := meansStepsRow.holds Tryz.pinned (OpenSpec.ofChange meansStepsSpec)

/-- ITS FALSE NEIGHBOUR: 'it returns false'. Refute it at one input. -/
def meansStepsWrong : ChangeSpec := { name := "meansSteps", fn := fun _ => fun
  | [d] => { results := [.lit (.bool false)], args := [d] }
  | _ => none }
def MeansStepsWrongFalsely : Prop := meansStepsRow.holds Tryz.pinned (OpenSpec.ofChange meansStepsWrong)

/-- 'drydocklaw13.MeansMore': WHATEVER THE INPUT: true; the input reads as it did. -/
def meansMoreSpec : ChangeSpec := { name := "meansMore", fn := fun _ => fun
  | [d1, d2, d3] => { results := [.lit (.bool true)], args := [d1, d2, d3] }
  | _ => none }
def meansMoreRow : OpenClaim := { program := "ytmipoeanpnnjoaagreat", sum := "43af79b5a60a51cb4ce4f0d2c80df9da458a98b66b7b3bbb94195c99d4253e88", func := "drydock/drydocklaw13.MeansMore", spec := "meansMore", unfollowed := true, recurses := true, apart := false }
def MeansMoreSaid : Prop := meansMoreRow.holds Tryz.pinned (OpenSpec.ofChange meansMoreSpec)

/-- ITS FALSE NEIGHBOUR: 'it returns false'. Refute it at one input. -/
def meansMoreWrong : ChangeSpec := { name := "meansMore", fn := fun _ => fun
  | [d1, d2, d3] => { results := [.lit (.bool false)], args := [d1, d2, d3] }
  | _ => none }
def MeansMoreWrongFalsely : Prop := meansMoreRow.holds Tryz.pinned (OpenSpec.ofChange meansMoreWrong)

/-- 'drydocklaw13.MeansNeeded': WHATEVER THE INPUT: true; the input reads as it did. -/
def meansNeededSpec : ChangeSpec := { name := "meansNeeded", fn := fun _ => fun
  | [d1, d2, d3] => { results := [.lit (.bool true)], args := [d1, d2, d3] }
  | _ => none }
def meansNeededRow : OpenClaim := { program := "ytmipoeanpnnjoaagreat", sum := "43af79b5a60a51cb4ce4f0d2c80df9da458a98b66b7b3bbb94195c99d4253e88", func := "drydock/drydocklaw13.MeansNeeded", spec := "meansNeeded", unfollowed := true, recurses := true, apart := false }
def MeansNeededSaid : Prop := meansNeededRow.holds Tryz.pinned (OpenSpec.ofChange meansNeededSpec)

/-- ITS FALSE NEIGHBOUR: 'it returns false'. Refute it at one input. -/
def meansNeededWrong : ChangeSpec := { name := "meansNeeded", fn := fun _ => fun
  | [d1, d2, d3] => { results := [.lit (.bool false)], args := [d1, d2, d3] }
  | _ => none }
def MeansNeededWrongFalsely : Prop := meansNeededRow.holds Tryz.pinned (OpenSpec.ofChange meansNeededWrong)

/-- 'drydocklaw13.MeansFields': WHATEVER THE INPUT: true; the input reads as it did. -/
def meansFieldsSpec : ChangeSpec := { name := "meansFields", fn := fun _ => fun
  | [d1, d2, d3] => { results := [.lit (.bool true)], args := [d1, d2, d3] }
  | _ => none }
def meansFieldsRow : OpenClaim := { program := "ytmipoeanpnnjoaagreat", sum := "43af79b5a60a51cb4ce4f0d2c80df9da458a98b66b7b3bbb94195c99d4253e88", func := "drydock/drydocklaw13.MeansFields", spec := "meansFields", unfollowed := true, recurses := true, apart := false }
def MeansFieldsSaid : Prop := meansFieldsRow.holds Tryz.pinned (OpenSpec.ofChange meansFieldsSpec)

/-- ITS FALSE NEIGHBOUR: 'it returns false'. Refute it at one input. -/
def meansFieldsWrong : ChangeSpec := { name := "meansFields", fn := fun _ => fun
  | [d1, d2, d3] => { results := [.lit (.bool false)], args := [d1, d2, d3] }
  | _ => none }
def MeansFieldsWrongFalsely : Prop := meansFieldsRow.holds Tryz.pinned (OpenSpec.ofChange meansFieldsWrong)

/-- 'drydocklaw13.MeansBack': WHATEVER THE INPUT: true; the input reads as it did. -/
def meansBackSpec : ChangeSpec := { name := "meansBack", fn := fun _ => fun
  | [d1, d2] => { results := [.lit (.bool true)], args := [d1, d2] }
  | _ => none }
def meansBackRow : OpenClaim := { program := "ytmipoeanpnnjoaagreat", sum := "43af79b5a60a51cb4ce4f0d2c80df9da458a98b66b7b3bbb94195c99d4253e88", func := "drydock/drydocklaw13.MeansBack", spec := "meansBack", unfollowed := true, recurses := true, apart := false }
def MeansBackSaid : Prop := meansBackRow.holds Tryz.pinned (OpenSpec.ofChange meansBackSpec)

/-- ITS FALSE NEIGHBOUR: 'it returns false'. Refute it at one input. -/
def meansBackWrong : ChangeSpec := { name := "meansBack", fn := fun _ => fun
  | [d1, d2] => { results := [.lit (.bool false)], args := [d1, d2] }
  | _ => none }
def MeansBackWrongFalsely : Prop := meansBackRow.holds Tryz.pinned (OpenSpec.ofChange meansBackWrong)

/- THE SECOND FORM. 'bulk': how many values and letters a reading holds, each counted each time it is reached (what is shared counts as often as it is met; a slice's spare places count too). A statement '..UptoSaid' is the law's where the arguments, and the package variables that the reading takes, are together of bulk at most 1048576: NARROWER than '..Said'. Prove '..Said' where nothing that the law and all that it calls make is longer than what came in: it says more and counts as full. Else prove '..UptoSaid'. A law counts once. -/
mutual
def uptoBulk {H : Type} : DataW H → Nat
  | .lit (.string bytes) => bytes.length + 1
  | .lit _ => 1
  | .nil => 1
  | .ptr d => uptoBulk d + 1
  | .slice elems spare => uptoBulkAll elems + uptoBulkAll spare + 1
  | .agg parts => uptoBulkAll parts + 1
  | .iface _ d => uptoBulk d + 1
  | .map entries => uptoBulkEntries entries + 1
  | .held _ => 1
def uptoBulkAll {H : Type} : List (DataW H) → Nat
  | [] => 0
  | d :: r => uptoBulk d + uptoBulkAll r
def uptoBulkEntries {H : Type} : List (Lit × DataW H) → Nat
  | [] => 0
  | x :: r => uptoBulkEntry x + uptoBulkEntries r
def uptoBulkEntry {H : Type} : Lit × DataW H → Nat
  | (.string bytes, d) => bytes.length + uptoBulk d + 1
  | (_, d) => uptoBulk d + 1
 end
def uptoSmall : (H : Type) → List (DataW H) → Bool := fun _ ds => decide (uptoBulkAll ds ≤ 1048576)
def OpenSpec.upto (s : _root_.Go.ChangeSpec) : _root_.Go.OpenSpec := { _root_.Go.OpenSpec.ofChange s with cond := some uptoSmall }

/-- 'drydocklaw13.MeansSteps', WHERE WHAT IT READS IS OF BULK AT MOST 1048576: true; the input reads as it did. -/
def meansStepsUptoRow : OpenClaim := { program := "ytmipoeanpnnjoaagreat", sum := "43af79b5a60a51cb4ce4f0d2c80df9da458a98b66b7b3bbb94195c99d4253e88", func := "drydock/drydocklaw13.MeansSteps", spec := "meansSteps", unfollowed := true, recurses := true, apart := false, narrowed := true }
def MeansStepsUptoSaid : Prop := meansStepsUptoRow.holds Tryz.pinned (OpenSpec.upto meansStepsSpec)

/-- 'drydocklaw13.MeansMore', WHERE WHAT IT READS IS OF BULK AT MOST 1048576: true; the input reads as it did. -/
def meansMoreUptoRow : OpenClaim := { program := "ytmipoeanpnnjoaagreat", sum := "43af79b5a60a51cb4ce4f0d2c80df9da458a98b66b7b3bbb94195c99d4253e88", func := "drydock/drydocklaw13.MeansMore", spec := "meansMore", unfollowed := true, recurses := true, apart := false, narrowed := true }
def MeansMoreUptoSaid : Prop := meansMoreUptoRow.holds Tryz.pinned (OpenSpec.upto meansMoreSpec)

/-- 'drydocklaw13.MeansNeeded', WHERE WHAT IT READS IS OF BULK AT MOST 1048576: true; the input reads as it did. -/
def meansNeededUptoRow : OpenClaim := { program := "ytmipoeanpnnjoaagreat", sum := "43af79b5a60a51cb4ce4f0d2c80df9da458a98b66b7b3bbb94195c99d4253e88", func := "drydock/drydocklaw13.MeansNeeded", spec := "meansNeeded", unfollowed := true, recurses := true, apart := false, narrowed := true }
def MeansNeededUptoSaid : Prop := meansNeededUptoRow.holds Tryz.pinned (OpenSpec.upto meansNeededSpec)

/-- 'drydocklaw13.MeansFields', WHERE WHAT IT READS IS OF BULK AT MOST 1048576: true; the input reads as it did. -/
def meansFieldsUptoRow : OpenClaim := { program := "ytmipoeanpnnjoaagreat", sum := "43af79b5a60a51cb4ce4f0d2c80df9da458a98b66b7b3bbb94195c99d4253e88", func := "drydock/drydocklaw13.MeansFields", spec := "meansFields", unfollowed := true, recurses := true, apart := false, narrowed := true }
def MeansFieldsUptoSaid : Prop := meansFieldsUptoRow.holds Tryz.pinned (OpenSpec.upto meansFieldsSpec)

/-- 'drydocklaw13.MeansBack', WHERE WHAT IT READS IS OF BULK AT MOST 1048576: true; the input reads as it did. -/
def meansBackUptoRow : OpenClaim := { program := "ytmipoeanpnnjoaagreat", sum := "43af79b5a60a51cb4ce4f0d2c80df9da458a98b66b7b3bbb94195c99d4253e88", func := "drydock/drydocklaw13.MeansBack", spec := "meansBack", unfollowed := true, recurses := true, apart := false, narrowed := true }
def MeansBackUptoSaid : Prop := meansBackUptoRow.holds Tryz.pinned (OpenSpec.upto meansBackSpec)

end Rows
end Go.Proofs.YtmipoeanpnnjoaaGreat
