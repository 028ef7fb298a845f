/-
  No cell of these rows narrows 'for every input' (looked for: loops, veiled, ifaces, maps, wideKeys, modest, calm, conditions, laid).
  DERIVED. THE GIVEN ROWS OF THIS SEAT. 5 by the template 'for every input the law returns true; each argument reads behind the call as it read before'; 0 by the template 'total and deterministic' (their statements: YtgjpjpdmkeifeaaTotals.lean).
  GIVEN WITH THE SEED: the statements are not yours to turn. If you find one false, say at which input.
  Laid BY PROGRAM, IN A SANDBOX (cutbox-rows.mjs): the forced cells as the released guide's own fill.sh prints them over the translation ec2b40afb59fe3f7… (all of the seat's roots in one cut). By AI agents, Wed Nov 11 2026. No macro, syntax, notation, axiom, sorry.
-/
import Derived.Test.YtgjpjpdmkeifeaaChecked
import GoSem.Claim
import GoSem.ClaimJoined
import GoSem.ClaimMapViews
import Derived.JoinedTies
import Derived.KernelRfl
namespace Go.Proofs.Ytgjpjpdmkeifeaa
/- THE CELL 'sum', in the pinned program and in every row, IS THE sha256 OF THE DUMP (.gsa) THAT YtgjpjpdmkeifeaaProg.lean LOADS. Nothing in Lean hashes anything: it is a label: what it is worth is what the hold of that sum in a sandbox is worth. -/
noncomputable def Try.pinned : Pinned := { name := "ytgjpjpdmkeifeaa", sum := "ec2b40afb59fe3f7a7475bcab3439ec804b98c8dff4d06f7f6039719e6c037eb", checked := Try.checked }
namespace Rows
def none {H : Type} : Left H := { results := [], args := [] }

/-- 'drydocklaw08.WindowsOne': WHATEVER THE INPUT: true; the input reads as it did. -/
def windowsOneSpec : ChangeSpec := { name := "windowsOne", fn := fun _ => fun
  | [d1, d2, d3] => { results := [.lit (.bool true)], args := [d1, d2, d3] }
  | _ => none }
def windowsOneRow : OpenClaim := { program := "ytgjpjpdmkeifeaa", sum := "ec2b40afb59fe3f7a7475bcab3439ec804b98c8dff4d06f7f6039719e6c037eb", func := "drydock/drydocklaw08.WindowsOne", spec := "windowsOne", unfollowed := true, recurses := true, apart := false }
def WindowsOneSaid : Prop := windowsOneRow.holds Try.pinned (OpenSpec.ofChange windowsOneSpec)

/-- ITS FALSE NEIGHBOUR: 'it returns false'. Refute it at one input. -/
def windowsOneWrong : ChangeSpec := { name := "windowsOne", fn := fun _ => fun
  | [d1, d2, d3] => { results := [.lit (.bool false)], args := [d1, d2, d3] }
  | _ => none }
def WindowsOneWrongFalsely : Prop := windowsOneRow.holds Try.pinned (OpenSpec.ofChange windowsOneWrong)

/-- 'drydocklaw08.WindowsGreatest': WHATEVER THE INPUT: true; the input reads as it did. -/
def windowsGreatestSpec : ChangeSpec := { name := "windowsGreatest", fn := fun _ => fun
  | [d1, d2, d3] => { results := [.lit (.bool true)], args := [d1, d2, d3] }
  | _ => none }
def windowsGreatestRow : OpenClaim := { program := "ytgjpjpdmkeifeaa", sum := "ec2b40afb59fe3f7a7475bcab3439ec804b98c8dff4d06f7f6039719e6c037eb", func := "drydock/drydocklaw08.WindowsGreatest", spec := "windowsGreatest", unfollowed := true, recurses := true, apart := false }
def WindowsGreatestSaid : Prop := windowsGreatestRow.holds Try.pinned (OpenSpec.ofChange windowsGreatestSpec)

/-- ITS FALSE NEIGHBOUR: 'it returns false'. Refute it at one input. -/
def windowsGreatestWrong : ChangeSpec := { name := "windowsGreatest", fn := fun _ => fun
  | [d1, d2, d3] => { results := [.lit (.bool false)], args := [d1, d2, d3] }
  | _ => none }
def WindowsGreatestWrongFalsely : Prop := windowsGreatestRow.holds Try.pinned (OpenSpec.ofChange windowsGreatestWrong)

/-- 'drydocklaw08.WindowsFull': WHATEVER THE INPUT: true; the input reads as it did. -/
def windowsFullSpec : ChangeSpec := { name := "windowsFull", fn := fun _ => fun
  | [d] => { results := [.lit (.bool true)], args := [d] }
  | _ => none }
def windowsFullRow : OpenClaim := { program := "ytgjpjpdmkeifeaa", sum := "ec2b40afb59fe3f7a7475bcab3439ec804b98c8dff4d06f7f6039719e6c037eb", func := "drydock/drydocklaw08.WindowsFull", spec := "windowsFull", unfollowed := true, recurses := true, apart := false }
def WindowsFullSaid : Prop := windowsFullRow.holds Try.pinned (OpenSpec.ofChange windowsFullSpec)

/-- ITS FALSE NEIGHBOUR: 'it returns false'. Refute it at one input. -/
def windowsFullWrong : ChangeSpec := { name := "windowsFull", fn := fun _ => fun
  | [d] => { results := [.lit (.bool false)], args := [d] }
  | _ => none }
def WindowsFullWrongFalsely : Prop := windowsFullRow.holds Try.pinned (OpenSpec.ofChange windowsFullWrong)

/-- 'drydocklaw08.WindowsWhole': WHATEVER THE INPUT: true; the input reads as it did. -/
def windowsWholeSpec : ChangeSpec := { name := "windowsWhole", fn := fun _ => fun
  | [d] => { results := [.lit (.bool true)], args := [d] }
  | _ => none }
def windowsWholeRow : OpenClaim := { program := "ytgjpjpdmkeifeaa", sum := "ec2b40afb59fe3f7a7475bcab3439ec804b98c8dff4d06f7f6039719e6c037eb", func := "drydock/drydocklaw08.WindowsWhole", spec := "windowsWhole", unfollowed := true, recurses := true, apart := false }
def WindowsWholeSaid : Prop := windowsWholeRow.holds Try.pinned (OpenSpec.ofChange windowsWholeSpec)

/-- ITS FALSE NEIGHBOUR: 'it returns false'. Refute it at one input. -/
def windowsWholeWrong : ChangeSpec := { name := "windowsWhole", fn := fun _ => fun
  | [d] => { results := [.lit (.bool false)], args := [d] }
  | _ => none }
def WindowsWholeWrongFalsely : Prop := windowsWholeRow.holds Try.pinned (OpenSpec.ofChange windowsWholeWrong)

/-- 'drydocklaw08.WindowsSums': WHATEVER THE INPUT: true; the input reads as it did. -/
def windowsSumsSpec : ChangeSpec := { name := "windowsSums", fn := fun _ => fun
  | [d1, d2] => { results := [.lit (.bool true)], args := [d1, d2] }
  | _ => none }
def windowsSumsRow : OpenClaim := { program := "ytgjpjpdmkeifeaa", sum := "ec2b40afb59fe3f7a7475bcab3439ec804b98c8dff4d06f7f6039719e6c037eb", func := "drydock/drydocklaw08.WindowsSums", spec := "windowsSums", unfollowed := true, recurses := true, apart := false }
def WindowsSumsSaid : Prop := windowsSumsRow.holds Try.pinned (OpenSpec.ofChange windowsSumsSpec)

/-- ITS FALSE NEIGHBOUR: 'it returns false'. Refute it at one input. -/
def windowsSumsWrong : ChangeSpec := { name := "windowsSums", fn := fun _ => fun
  | [d1, d2] => { results := [.lit (.bool false)], args := [d1, d2] }
  | _ => none }
def WindowsSumsWrongFalsely : Prop := windowsSumsRow.holds Try.pinned (OpenSpec.ofChange windowsSumsWrong)

/- THE SECOND FORM. 'bulk': how many values and letters a reading holds, each counted each time it is reached (what is shared counts as often as it is met; a slice's spare places count too). A statement '..UptoSaid' is the law's where the arguments, and the package variables that the reading takes, are together of bulk at most 1048576: NARROWER than '..Said'. Prove '..Said' where nothing that the law and all that it calls make is longer than what came in: it says more and counts as full. Else prove '..UptoSaid'. A law counts once. -/
mutual
def uptoBulk {H : Type} : DataW H → Nat
  | .lit (.string bytes) => bytes.length + 1
  | .lit _ => 1
  | .nil => 1
  | .ptr d => uptoBulk d + 1
  | .slice elems spare => uptoBulkAll elems + uptoBulkAll spare + 1
  | .agg parts => uptoBulkAll parts + 1
  | .iface _ d => uptoBulk d + 1
  | .map entries => uptoBulkEntries entries + 1
  | .held _ => 1
def uptoBulkAll {H : Type} : List (DataW H) → Nat
  | [] => 0
  | d :: r => uptoBulk d + uptoBulkAll r
def uptoBulkEntries {H : Type} : List (Lit × DataW H) → Nat
  | [] => 0
  | x :: r => uptoBulkEntry x + uptoBulkEntries r
def uptoBulkEntry {H : Type} : Lit × DataW H → Nat
  | (.string bytes, d) => bytes.length + uptoBulk d + 1
  | (_, d) => uptoBulk d + 1
 end
def uptoSmall : (H : Type) → List (DataW H) → Bool := fun _ ds => decide (uptoBulkAll ds ≤ 1048576)
def OpenSpec.upto (s : _root_.Go.ChangeSpec) : _root_.Go.OpenSpec := { _root_.Go.OpenSpec.ofChange s with cond := some uptoSmall }

/-- 'drydocklaw08.WindowsOne', WHERE WHAT IT READS IS OF BULK AT MOST 1048576: true; the input reads as it did. -/
def windowsOneUptoRow : OpenClaim := { program := "ytgjpjpdmkeifeaa", sum := "ec2b40afb59fe3f7a7475bcab3439ec804b98c8dff4d06f7f6039719e6c037eb", func := "drydock/drydocklaw08.WindowsOne", spec := "windowsOne", unfollowed := true, recurses := true, apart := false, narrowed := true }
def WindowsOneUptoSaid : Prop := windowsOneUptoRow.holds Try.pinned (OpenSpec.upto windowsOneSpec)

/-- 'drydocklaw08.WindowsGreatest', WHERE WHAT IT READS IS OF BULK AT MOST 1048576: true; the input reads as it did. -/
def windowsGreatestUptoRow : OpenClaim := { program := "ytgjpjpdmkeifeaa", sum := "ec2b40afb59fe3f7a7475bcab3439ec804b98c8dff4d06f7f6039719e6c037eb", func := "drydock/drydocklaw08.WindowsGreatest", spec := "windowsGreatest", unfollowed := true, recurses := true, apart := false, narrowed := true }
def WindowsGreatestUptoSaid : Prop := windowsGreatestUptoRow.holds Try.pinned (OpenSpec.upto windowsGreatestSpec)

/-- 'drydocklaw08.WindowsFull', WHERE WHAT IT READS IS OF BULK AT MOST 1048576: true; the input reads as it did. -/
def windowsFullUptoRow : OpenClaim := { program := "ytgjpjpdmkeifeaa", sum := "ec2b40afb59fe3f7a7475bcab3439ec804b98c8dff4d06f7f6039719e6c037eb", func := "drydock/drydocklaw08.WindowsFull", spec := "windowsFull", unfollowed := true, recurses := true, apart := false, narrowed := true }
def WindowsFullUptoSaid : Prop := windowsFullUptoRow.holds Try.pinned (OpenSpec.upto windowsFullSpec)

/-- 'drydocklaw08.WindowsWhole', WHERE WHAT IT READS IS OF BULK AT MOST 1048576: true; the input reads as it did. -/
def windowsWholeUptoRow : OpenClaim := { program := "ytgjpjpdmkeifeaa", sum := "ec2b40afb59fe3f7a7475bcab3439ec804b98c8dff4d06f7f6039719e6c037eb", func := "drydock/drydocklaw08.WindowsWhole", spec := "windowsWhole", unfollowed := true, recurses := true, apart := false, narrowed := true }
def WindowsWholeUptoSaid : Prop := windowsWholeUptoRow.holds Try.pinned (OpenSpec.upto windowsWholeSpec)

/-- 'drydocklaw08.WindowsSums', WHERE WHAT IT READS IS OF BULK AT MOST 1048576: true; the input reads as it did. -/
def windowsSumsUptoRow : OpenClaim := { program := "ytgjpjpdmkeifeaa", sum := "ec2b40afb59fe3f7a7475bcab3439ec804b98c8dff4d06f7f6039719e6c037eb", func := "drydock/drydocklaw08.WindowsSums", spec := "windowsSums", unfollowed := true, recurses := true, apart := false, narrowed := true }
def WindowsSumsUptoSaid : Prop := windowsSumsUptoRow.holds Try.pinned (OpenSpec.upto windowsSumsSpec)

end Rows
end Go.Proofs.Ytgjpjpdmkeifeaa
