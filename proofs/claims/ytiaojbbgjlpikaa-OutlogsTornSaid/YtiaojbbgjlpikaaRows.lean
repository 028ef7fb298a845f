/-
  No cell of these rows narrows 'for every input' (looked for: loops, veiled, ifaces, maps, wideKeys, modest, calm, conditions, laid).
  DERIVED. THE GIVEN ROWS OF THIS SEAT. 5 by the template 'for every input the law returns true; each argument reads behind the call as it read before'; 0 by the template 'total and deterministic' (their statements: YtiaojbbgjlpikaaTotals.lean).
  GIVEN WITH THE SEED: the statements are not yours to turn. If you find one false, say at which input.
  Laid BY PROGRAM, IN A SANDBOX (cutbox-rows.mjs): the forced cells as the released guide's own fill.sh prints them over the translation 2199abe823d11123… (all of the seat's roots in one cut). By AI agents, Wed Nov 11 2026. No macro, syntax, notation, axiom, sorry.
-/
import Derived.Test.YtiaojbbgjlpikaaChecked
import GoSem.Claim
import GoSem.ClaimJoined
import GoSem.ClaimMapViews
import Derived.JoinedTies
import Derived.KernelRfl
namespace Go.Proofs.Ytiaojbbgjlpikaa
/- THE CELL 'sum', in the pinned program and in every row, IS THE sha256 OF THE DUMP (.gsa) THAT YtiaojbbgjlpikaaProg.lean LOADS. Nothing in Lean hashes anything: it is a label: what it is worth is what the hold of that sum in a sandbox is worth. -/
noncomputable def Try.pinned : Pinned := { name := "ytiaojbbgjlpikaa", sum := "2199abe823d111230428f373c87ee2b80051b2ad8e78a14cb4e26db027532f70", checked := Try.checked }
namespace Rows
def none {H : Type} : Left H := { results := [], args := [] }

/-- 'drydocklaw19.OutlogsFull': WHATEVER THE INPUT: true; the input reads as it did. -/
def outlogsFullSpec : ChangeSpec := { name := "outlogsFull", fn := fun _ => fun
  | [d1, d2] => { results := [.lit (.bool true)], args := [d1, d2] }
  | _ => none }
def outlogsFullRow : OpenClaim := { program := "ytiaojbbgjlpikaa", sum := "2199abe823d111230428f373c87ee2b80051b2ad8e78a14cb4e26db027532f70", func := "drydock/drydocklaw19.OutlogsFull", spec := "outlogsFull", unfollowed := true, recurses := true, apart := false }
def OutlogsFullSaid : Prop := outlogsFullRow.holds Try.pinned (OpenSpec.ofChange outlogsFullSpec)

/-- ITS FALSE NEIGHBOUR: 'it returns false'. Refute it at one input. -/
def outlogsFullWrong : ChangeSpec := { name := "outlogsFull", fn := fun _ => fun
  | [d1, d2] => { results := [.lit (.bool false)], args := [d1, d2] }
  | _ => none }
def OutlogsFullWrongFalsely : Prop := outlogsFullRow.holds Try.pinned (OpenSpec.ofChange outlogsFullWrong)

/-- 'drydocklaw19.OutlogsSure': WHATEVER THE INPUT: true; the input reads as it did. -/
def outlogsSureSpec : ChangeSpec := { name := "outlogsSure", fn := fun _ => fun
  | [d] => { results := [.lit (.bool true)], args := [d] }
  | _ => none }
def outlogsSureRow : OpenClaim := { program := "ytiaojbbgjlpikaa", sum := "2199abe823d111230428f373c87ee2b80051b2ad8e78a14cb4e26db027532f70", func := "drydock/drydocklaw19.OutlogsSure", spec := "outlogsSure", unfollowed := true, recurses := true, apart := false }
def OutlogsSureSaid : Prop := outlogsSureRow.holds Try.pinned (OpenSpec.ofChange outlogsSureSpec)

/-- ITS FALSE NEIGHBOUR: 'it returns false'. Refute it at one input. -/
def outlogsSureWrong : ChangeSpec := { name := "outlogsSure", fn := fun _ => fun
  | [d] => { results := [.lit (.bool false)], args := [d] }
  | _ => none }
def OutlogsSureWrongFalsely : Prop := outlogsSureRow.holds Try.pinned (OpenSpec.ofChange outlogsSureWrong)

/-- 'drydocklaw19.OutlogsTorn': WHATEVER THE INPUT: true; the input reads as it did. -/
def outlogsTornSpec : ChangeSpec := { name := "outlogsTorn", fn := fun _ => fun
  | [d] => { results := [.lit (.bool true)], args := [d] }
  | _ => none }
def outlogsTornRow : OpenClaim := { program := "ytiaojbbgjlpikaa", sum := "2199abe823d111230428f373c87ee2b80051b2ad8e78a14cb4e26db027532f70", func := "drydock/drydocklaw19.OutlogsTorn", spec := "outlogsTorn", unfollowed := true, recurses := true, apart := false }
def OutlogsTornSaid : Prop := outlogsTornRow.holds Try.pinned (OpenSpec.ofChange outlogsTornSpec)

/-- ITS FALSE NEIGHBOUR: 'it returns false'. Refute it at one input. -/
def outlogsTornWrong : ChangeSpec := { name := "outlogsTorn", fn := fun _ => fun
  | [d] => { results := [.lit (.bool false)], args := [d] }
  | _ => none }
def OutlogsTornWrongFalsely : Prop := outlogsTornRow.holds Try.pinned (OpenSpec.ofChange outlogsTornWrong)

/-- 'drydocklaw19.OutlogsAgain': WHATEVER THE INPUT: true; the input reads as it did. -/
def outlogsAgainSpec : ChangeSpec := { name := "outlogsAgain", fn := fun _ => fun
  | [d1, d2, d3] => { results := [.lit (.bool true)], args := [d1, d2, d3] }
  | _ => none }
def outlogsAgainRow : OpenClaim := { program := "ytiaojbbgjlpikaa", sum := "2199abe823d111230428f373c87ee2b80051b2ad8e78a14cb4e26db027532f70", func := "drydock/drydocklaw19.OutlogsAgain", spec := "outlogsAgain", unfollowed := true, recurses := true, apart := false }
def OutlogsAgainSaid : Prop := outlogsAgainRow.holds Try.pinned (OpenSpec.ofChange outlogsAgainSpec)

/-- ITS FALSE NEIGHBOUR: 'it returns false'. Refute it at one input. -/
def outlogsAgainWrong : ChangeSpec := { name := "outlogsAgain", fn := fun _ => fun
  | [d1, d2, d3] => { results := [.lit (.bool false)], args := [d1, d2, d3] }
  | _ => none }
def OutlogsAgainWrongFalsely : Prop := outlogsAgainRow.holds Try.pinned (OpenSpec.ofChange outlogsAgainWrong)

/-- 'drydocklaw19.OutlogsTurned': WHATEVER THE INPUT: true; the input reads as it did. -/
def outlogsTurnedSpec : ChangeSpec := { name := "outlogsTurned", fn := fun _ => fun
  | [d] => { results := [.lit (.bool true)], args := [d] }
  | _ => none }
def outlogsTurnedRow : OpenClaim := { program := "ytiaojbbgjlpikaa", sum := "2199abe823d111230428f373c87ee2b80051b2ad8e78a14cb4e26db027532f70", func := "drydock/drydocklaw19.OutlogsTurned", spec := "outlogsTurned", unfollowed := true, recurses := true, apart := false }
def OutlogsTurnedSaid : Prop := outlogsTurnedRow.holds Try.pinned (OpenSpec.ofChange outlogsTurnedSpec)

/-- ITS FALSE NEIGHBOUR: 'it returns false'. Refute it at one input. -/
def outlogsTurnedWrong : ChangeSpec := { name := "outlogsTurned", fn := fun _ => fun
  | [d] => { results := [.lit (.bool false)], args := [d] }
  | _ => none }
def OutlogsTurnedWrongFalsely : Prop := outlogsTurnedRow.holds Try.pinned (OpenSpec.ofChange outlogsTurnedWrong)

/- THE SECOND FORM. 'bulk': how many values and letters a reading holds, each counted each time it is reached (what is shared counts as often as it is met; a slice's spare places count too). A statement '..UptoSaid' is the law's where the arguments, and the package variables that the reading takes, are together of bulk at most 1048576: NARROWER than '..Said'. Prove '..Said' where nothing that the law and all that it calls make is longer than what came in: it says more and counts as full. Else prove '..UptoSaid'. A law counts once. -/
mutual
def uptoBulk {H : Type} : DataW H → Nat
  | .lit (.string bytes) => bytes.length + 1
  | .lit _ => 1
  | .nil => 1
  | .ptr d => uptoBulk d + 1
  | .slice elems spare => uptoBulkAll elems + uptoBulkAll spare + 1
  | .agg parts => uptoBulkAll parts + 1
  | .iface _ d => uptoBulk d + 1
  | .map entries => uptoBulkEntries entries + 1
  | .held _ => 1
def uptoBulkAll {H : Type} : List (DataW H) → Nat
  | [] => 0
  | d :: r => uptoBulk d + uptoBulkAll r
def uptoBulkEntries {H : Type} : List (Lit × DataW H) → Nat
  | [] => 0
  | x :: r => uptoBulkEntry x + uptoBulkEntries r
def uptoBulkEntry {H : Type} : Lit × DataW H → Nat
  | (.string bytes, d) => bytes.length + uptoBulk d + 1
  | (_, d) => uptoBulk d + 1
 end
def uptoSmall : (H : Type) → List (DataW H) → Bool := fun _ ds => decide (uptoBulkAll ds ≤ 1048576)
def OpenSpec.upto (s : _root_.Go.ChangeSpec) : _root_.Go.OpenSpec := { _root_.Go.OpenSpec.ofChange s with cond := some uptoSmall }

/-- 'drydocklaw19.OutlogsFull', WHERE WHAT IT READS IS OF BULK AT MOST 1048576: true; the input reads as it did. -/
def outlogsFullUptoRow : OpenClaim := { program := "ytiaojbbgjlpikaa", sum := "2199abe823d111230428f373c87ee2b80051b2ad8e78a14cb4e26db027532f70", func := "drydock/drydocklaw19.OutlogsFull", spec := "outlogsFull", unfollowed := true, recurses := true, apart := false, narrowed := true }
def OutlogsFullUptoSaid : Prop := outlogsFullUptoRow.holds Try.pinned (OpenSpec.upto outlogsFullSpec)

/-- 'drydocklaw19.OutlogsSure', WHERE WHAT IT READS IS OF BULK AT MOST 1048576: true; the input reads as it did. -/
def outlogsSureUptoRow : OpenClaim := { program := "ytiaojbbgjlpikaa", sum := "2199abe823d111230428f373c87ee2b80051b2ad8e78a14cb4e26db027532f70", func := "drydock/drydocklaw19.OutlogsSure", spec := "outlogsSure", unfollowed := true, recurses := true, apart := false, narrowed := true }
def OutlogsSureUptoSaid : Prop := outlogsSureUptoRow.holds Try.pinned (OpenSpec.upto outlogsSureSpec)

/-- 'drydocklaw19.OutlogsTorn', WHERE WHAT IT READS IS OF BULK AT MOST 1048576: true; the input reads as it did. -/
def outlogsTornUptoRow : OpenClaim := { program := "ytiaojbbgjlpikaa", sum := "2199abe823d111230428f373c87ee2b80051b2ad8e78a14cb4e26db027532f70", func := "drydock/drydocklaw19.OutlogsTorn", spec := "outlogsTorn", unfollowed := true, recurses := true, apart := false, narrowed := true }
def OutlogsTornUptoSaid : Prop := outlogsTornUptoRow.holds Try.pinned (OpenSpec.upto outlogsTornSpec)

/-- 'drydocklaw19.OutlogsAgain', WHERE WHAT IT READS IS OF BULK AT MOST 1048576: true; the input reads as it did. -/
def outlogsAgainUptoRow : OpenClaim := { program := "ytiaojbbgjlpikaa", sum := "2199abe823d111230428f373c87ee2b80051b2ad8e78a14cb4e26db027532f70", func := "drydock/drydocklaw19.OutlogsAgain", spec := "outlogsAgain", unfollowed := true, recurses := true, apart := false, narrowed := true }
def OutlogsAgainUptoSaid : Prop := outlogsAgainUptoRow.holds Try.pinned (OpenSpec.upto outlogsAgainSpec)

/-- 'drydocklaw19.OutlogsTurned', WHERE WHAT IT READS IS OF BULK AT MOST 1048576: true; the input reads as it did. -/
def outlogsTurnedUptoRow : OpenClaim := { program := "ytiaojbbgjlpikaa", sum := "2199abe823d111230428f373c87ee2b80051b2ad8e78a14cb4e26db027532f70", func := "drydock/drydocklaw19.OutlogsTurned", spec := "outlogsTurned", unfollowed := true, recurses := true, apart := false, narrowed := true }
def OutlogsTurnedUptoSaid : Prop := outlogsTurnedUptoRow.holds Try.pinned (OpenSpec.upto outlogsTurnedSpec)

end Rows
end Go.Proofs.Ytiaojbbgjlpikaa
