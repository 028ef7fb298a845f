/-
  No cell of these rows narrows 'for every input' (looked for: loops, veiled, ifaces, maps, wideKeys, modest, calm, conditions, laid).
  DERIVED. THE GIVEN ROWS OF THIS SEAT. 6 by the template 'for every input the law returns true; each argument reads behind the call as it read before'; 0 by the template 'total and deterministic' (their statements: YthgckokpdgiilaaTotals.lean).
  GIVEN WITH THE SEED: the statements are not yours to turn. If you find one false, say at which input.
  Laid BY PROGRAM, IN A SANDBOX (cutbox-rows.mjs): the forced cells as the released guide's own fill.sh prints them over the translation 6a48164552824f66… (all of the seat's roots in one cut). By AI agents, Wed Nov 11 2026. No macro, syntax, notation, axiom, sorry.
-/
import Derived.Test.YthgckokpdgiilaaChecked
import GoSem.Claim
import GoSem.ClaimJoined
import GoSem.ClaimMapViews
import Derived.JoinedTies
import Derived.KernelRfl
namespace Go.Proofs.Ythgckokpdgiilaa
/- THE CELL 'sum', in the pinned program and in every row, IS THE sha256 OF THE DUMP (.gsa) THAT YthgckokpdgiilaaProg.lean LOADS. Nothing in Lean hashes anything: it is a label: what it is worth is what the hold of that sum in a sandbox is worth. -/
noncomputable def Try.pinned : Pinned := { name := "ythgckokpdgiilaa", sum := "6a48164552824f66688dbd956597fefcaaf9e2381be292fbe75375fb88c4d3b4", checked := Try.checked }
namespace Rows
def none {H : Type} : Left H := { results := [], args := [] }

/-- 'drydocklaw06.MathsLaws': WHATEVER THE INPUT: true; the input reads as it did. -/
def mathsLawsSpec : ChangeSpec := { name := "mathsLaws", fn := fun _ => fun
  | [d] => { results := [.lit (.bool true)], args := [d] }
  | _ => none }
def mathsLawsRow : OpenClaim := { program := "ythgckokpdgiilaa", sum := "6a48164552824f66688dbd956597fefcaaf9e2381be292fbe75375fb88c4d3b4", func := "drydock/drydocklaw06.MathsLaws", spec := "mathsLaws", unfollowed := true, recurses := true, apart := false }
def MathsLawsSaid : Prop := mathsLawsRow.holds Try.pinned (OpenSpec.ofChange mathsLawsSpec)

/-- ITS FALSE NEIGHBOUR: 'it returns false'. Refute it at one input. -/
def mathsLawsWrong : ChangeSpec := { name := "mathsLaws", fn := fun _ => fun
  | [d] => { results := [.lit (.bool false)], args := [d] }
  | _ => none }
def MathsLawsWrongFalsely : Prop := mathsLawsRow.holds Try.pinned (OpenSpec.ofChange mathsLawsWrong)

/-- 'drydocklaw06.MathsNoughts': WHATEVER THE INPUT: true; the input reads as it did. -/
def mathsNoughtsSpec : ChangeSpec := { name := "mathsNoughts", fn := fun _ => fun
  | [d] => { results := [.lit (.bool true)], args := [d] }
  | _ => none }
def mathsNoughtsRow : OpenClaim := { program := "ythgckokpdgiilaa", sum := "6a48164552824f66688dbd956597fefcaaf9e2381be292fbe75375fb88c4d3b4", func := "drydock/drydocklaw06.MathsNoughts", spec := "mathsNoughts", unfollowed := true, recurses := true, apart := false }
def MathsNoughtsSaid : Prop := mathsNoughtsRow.holds Try.pinned (OpenSpec.ofChange mathsNoughtsSpec)

/-- ITS FALSE NEIGHBOUR: 'it returns false'. Refute it at one input. -/
def mathsNoughtsWrong : ChangeSpec := { name := "mathsNoughts", fn := fun _ => fun
  | [d] => { results := [.lit (.bool false)], args := [d] }
  | _ => none }
def MathsNoughtsWrongFalsely : Prop := mathsNoughtsRow.holds Try.pinned (OpenSpec.ofChange mathsNoughtsWrong)

/-- 'drydocklaw06.MathsRelu': WHATEVER THE INPUT: true; the input reads as it did. -/
def mathsReluSpec : ChangeSpec := { name := "mathsRelu", fn := fun _ => fun
  | [d] => { results := [.lit (.bool true)], args := [d] }
  | _ => none }
def mathsReluRow : OpenClaim := { program := "ythgckokpdgiilaa", sum := "6a48164552824f66688dbd956597fefcaaf9e2381be292fbe75375fb88c4d3b4", func := "drydock/drydocklaw06.MathsRelu", spec := "mathsRelu", unfollowed := true, recurses := true, apart := false }
def MathsReluSaid : Prop := mathsReluRow.holds Try.pinned (OpenSpec.ofChange mathsReluSpec)

/-- ITS FALSE NEIGHBOUR: 'it returns false'. Refute it at one input. -/
def mathsReluWrong : ChangeSpec := { name := "mathsRelu", fn := fun _ => fun
  | [d] => { results := [.lit (.bool false)], args := [d] }
  | _ => none }
def MathsReluWrongFalsely : Prop := mathsReluRow.holds Try.pinned (OpenSpec.ofChange mathsReluWrong)

/-- 'drydocklaw06.MathsShift': WHATEVER THE INPUT: true; the input reads as it did. -/
def mathsShiftSpec : ChangeSpec := { name := "mathsShift", fn := fun _ => fun
  | [d1, d2] => { results := [.lit (.bool true)], args := [d1, d2] }
  | _ => none }
def mathsShiftRow : OpenClaim := { program := "ythgckokpdgiilaa", sum := "6a48164552824f66688dbd956597fefcaaf9e2381be292fbe75375fb88c4d3b4", func := "drydock/drydocklaw06.MathsShift", spec := "mathsShift", unfollowed := true, recurses := true, apart := false }
def MathsShiftSaid : Prop := mathsShiftRow.holds Try.pinned (OpenSpec.ofChange mathsShiftSpec)

/-- ITS FALSE NEIGHBOUR: 'it returns false'. Refute it at one input. -/
def mathsShiftWrong : ChangeSpec := { name := "mathsShift", fn := fun _ => fun
  | [d1, d2] => { results := [.lit (.bool false)], args := [d1, d2] }
  | _ => none }
def MathsShiftWrongFalsely : Prop := mathsShiftRow.holds Try.pinned (OpenSpec.ofChange mathsShiftWrong)

/-- 'drydocklaw06.MathsRefuse': WHATEVER THE INPUT: true; the input reads as it did. -/
def mathsRefuseSpec : ChangeSpec := { name := "mathsRefuse", fn := fun _ => fun
  | [d1, d2, d3] => { results := [.lit (.bool true)], args := [d1, d2, d3] }
  | _ => none }
def mathsRefuseRow : OpenClaim := { program := "ythgckokpdgiilaa", sum := "6a48164552824f66688dbd956597fefcaaf9e2381be292fbe75375fb88c4d3b4", func := "drydock/drydocklaw06.MathsRefuse", spec := "mathsRefuse", unfollowed := true, recurses := true, apart := false }
def MathsRefuseSaid : Prop := mathsRefuseRow.holds Try.pinned (OpenSpec.ofChange mathsRefuseSpec)

/-- ITS FALSE NEIGHBOUR: 'it returns false'. Refute it at one input. -/
def mathsRefuseWrong : ChangeSpec := { name := "mathsRefuse", fn := fun _ => fun
  | [d1, d2, d3] => { results := [.lit (.bool false)], args := [d1, d2, d3] }
  | _ => none }
def MathsRefuseWrongFalsely : Prop := mathsRefuseRow.holds Try.pinned (OpenSpec.ofChange mathsRefuseWrong)

/-- 'drydocklaw06.MathsBack': WHATEVER THE INPUT: true; the input reads as it did. -/
def mathsBackSpec : ChangeSpec := { name := "mathsBack", fn := fun _ => fun
  | [d1, d2] => { results := [.lit (.bool true)], args := [d1, d2] }
  | _ => none }
def mathsBackRow : OpenClaim := { program := "ythgckokpdgiilaa", sum := "6a48164552824f66688dbd956597fefcaaf9e2381be292fbe75375fb88c4d3b4", func := "drydock/drydocklaw06.MathsBack", spec := "mathsBack", unfollowed := true, recurses := true, apart := false }
def MathsBackSaid : Prop := mathsBackRow.holds Try.pinned (OpenSpec.ofChange mathsBackSpec)

/-- ITS FALSE NEIGHBOUR: 'it returns false'. Refute it at one input. -/
def mathsBackWrong : ChangeSpec := { name := "mathsBack", fn := fun _ => fun
  | [d1, d2] => { results := [.lit (.bool false)], args := [d1, d2] }
  | _ => none }
def MathsBackWrongFalsely : Prop := mathsBackRow.holds Try.pinned (OpenSpec.ofChange mathsBackWrong)

/- THE SECOND FORM. 'bulk': how many values and letters a reading holds, each counted each time it is reached (what is shared counts as often as it is met; a slice's spare places count too). A statement '..UptoSaid' is the law's where the arguments, and the package variables that the reading takes, are together of bulk at most 1048576: NARROWER than '..Said'. Prove '..Said' where nothing that the law and all that it calls make is longer than what came in: it says more and counts as full. Else prove '..UptoSaid'. A law counts once. -/
mutual
def uptoBulk {H : Type} : DataW H → Nat
  | .lit (.string bytes) => bytes.length + 1
  | .lit _ => 1
  | .nil => 1
  | .ptr d => uptoBulk d + 1
  | .slice elems spare => uptoBulkAll elems + uptoBulkAll spare + 1
  | .agg parts => uptoBulkAll parts + 1
  | .iface _ d => uptoBulk d + 1
  | .map entries => uptoBulkEntries entries + 1
  | .held _ => 1
def uptoBulkAll {H : Type} : List (DataW H) → Nat
  | [] => 0
  | d :: r => uptoBulk d + uptoBulkAll r
def uptoBulkEntries {H : Type} : List (Lit × DataW H) → Nat
  | [] => 0
  | x :: r => uptoBulkEntry x + uptoBulkEntries r
def uptoBulkEntry {H : Type} : Lit × DataW H → Nat
  | (.string bytes, d) => bytes.length + uptoBulk d + 1
  | (_, d) => uptoBulk d + 1
 end
def uptoSmall : (H : Type) → List (DataW H) → Bool := fun _ ds => decide (uptoBulkAll ds ≤ 1048576)
def OpenSpec.upto (s : _root_.Go.ChangeSpec) : _root_.Go.OpenSpec := { _root_.Go.OpenSpec.ofChange s with cond := some uptoSmall }

/-- 'drydocklaw06.MathsLaws', WHERE WHAT IT READS IS OF BULK AT MOST 1048576: true; the input reads as it did. -/
def mathsLawsUptoRow : OpenClaim := { program := "ythgckokpdgiilaa", sum := "6a48164552824f66688dbd956597fefcaaf9e2381be292fbe75375fb88c4d3b4", func := "drydock/drydocklaw06.MathsLaws", spec := "mathsLaws", unfollowed := true, recurses := true, apart := false, narrowed := true }
def MathsLawsUptoSaid : Prop := mathsLawsUptoRow.holds Try.pinned (OpenSpec.upto mathsLawsSpec)

/-- 'drydocklaw06.MathsNoughts', WHERE WHAT IT READS IS OF BULK AT MOST 1048576: true; the input reads as it did. -/
def mathsNoughtsUptoRow : OpenClaim := { program := "ythgckokpdgiilaa", sum := "6a48164552824f66688dbd956597fefcaaf9e2381be292fbe75375fb88c4d3b4", func := "drydock/drydocklaw06.MathsNoughts", spec := "mathsNoughts", unfollowed := true, recurses := true, apart := false, narrowed := true }
def MathsNoughtsUptoSaid : Prop := mathsNoughtsUptoRow.holds Try.pinned (OpenSpec.upto mathsNoughtsSpec)

/-- 'drydocklaw06.MathsRelu', WHERE WHAT IT READS IS OF BULK AT MOST 1048576: true; the input reads as it did. -/
def mathsReluUptoRow : OpenClaim := { program := "ythgckokpdgiilaa", sum := "6a48164552824f66688dbd956597fefcaaf9e2381be292fbe75375fb88c4d3b4", func := "drydock/drydocklaw06.MathsRelu", spec := "mathsRelu", unfollowed := true, recurses := true, apart := false, narrowed := true }
def MathsReluUptoSaid : Prop := mathsReluUptoRow.holds Try.pinned (OpenSpec.upto mathsReluSpec)

/-- 'drydocklaw06.MathsShift', WHERE WHAT IT READS IS OF BULK AT MOST 1048576: true; the input reads as it did. -/
def mathsShiftUptoRow : OpenClaim := { program := "ythgckokpdgiilaa", sum := "6a48164552824f66688dbd956597fefcaaf9e2381be292fbe75375fb88c4d3b4", func := "drydock/drydocklaw06.MathsShift", spec := "mathsShift", unfollowed := true, recurses := true, apart := false, narrowed := true }
def MathsShiftUptoSaid : Prop := mathsShiftUptoRow.holds Try.pinned (OpenSpec.upto mathsShiftSpec)

/-- 'drydocklaw06.MathsRefuse', WHERE WHAT IT READS IS OF BULK AT MOST 1048576: true; the input reads as it did. -/
def mathsRefuseUptoRow : OpenClaim := { program := "ythgckokpdgiilaa", sum := "6a48164552824f66688dbd956597fefcaaf9e2381be292fbe75375fb88c4d3b4", func := "drydock/drydocklaw06.MathsRefuse", spec := "mathsRefuse", unfollowed := true, recurses := true, apart := false, narrowed := true }
def MathsRefuseUptoSaid : Prop := mathsRefuseUptoRow.holds Try.pinned (OpenSpec.upto mathsRefuseSpec)

/-- 'drydocklaw06.MathsBack', WHERE WHAT IT READS IS OF BULK AT MOST 1048576: true; the input reads as it did. -/
def mathsBackUptoRow : OpenClaim := { program := "ythgckokpdgiilaa", sum := "6a48164552824f66688dbd956597fefcaaf9e2381be292fbe75375fb88c4d3b4", func := "drydock/drydocklaw06.MathsBack", spec := "mathsBack", unfollowed := true, recurses := true, apart := false, narrowed := true }
def MathsBackUptoSaid : Prop := mathsBackUptoRow.holds Try.pinned (OpenSpec.upto mathsBackSpec)

end Rows
end Go.Proofs.Ythgckokpdgiilaa
