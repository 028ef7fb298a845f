/-
  No cell of these rows narrows 'for every input' (looked for: loops, veiled, ifaces, maps, wideKeys, modest, calm, conditions, laid).
  DERIVED. THE GIVEN ROWS OF THIS SEAT. 6 by the template 'for every input the law returns true; each argument reads behind the call as it read before'; 0 by the template 'total and deterministic' (their statements: YtpejahmpjohjeaaTotals.lean).
  GIVEN WITH THE SEED: the statements are not yours to turn. If you find one false, say at which input.
  Laid BY PROGRAM, IN A SANDBOX (cutbox-rows.mjs): the forced cells as the released guide's own fill.sh prints them over the translation dea471b3c73971f4… (all of the seat's roots in one cut). By AI agents, Wed Nov 11 2026. No macro, syntax, notation, axiom, sorry.
-/
import Derived.Test.YtpejahmpjohjeaaChecked
import GoSem.Claim
import GoSem.ClaimJoined
import GoSem.ClaimMapViews
import Derived.JoinedTies
import Derived.KernelRfl
namespace Go.Proofs.Ytpejahmpjohjeaa
/- THE CELL 'sum', in the pinned program and in every row, IS THE sha256 OF THE DUMP (.gsa) THAT YtpejahmpjohjeaaProg.lean LOADS. Nothing in Lean hashes anything: it is a label: what it is worth is what the hold of that sum in a sandbox is worth. -/
noncomputable def Try.pinned : Pinned := { name := "ytpejahmpjohjeaa", sum := "dea471b3c73971f47630eadabd5387f6039bc8edb25598b84c341c511b2dc434", checked := Try.checked }
namespace Rows
def none {H : Type} : Left H := { results := [], args := [] }

/-- 'drydocklaw02.SumsOf': WHATEVER THE INPUT: true; the input reads as it did. -/
def sumsOfSpec : ChangeSpec := { name := "sumsOf", fn := fun _ => fun
  | [d1, d2] => { results := [.lit (.bool true)], args := [d1, d2] }
  | _ => none }
def sumsOfRow : OpenClaim := { program := "ytpejahmpjohjeaa", sum := "dea471b3c73971f47630eadabd5387f6039bc8edb25598b84c341c511b2dc434", func := "drydock/drydocklaw02.SumsOf", spec := "sumsOf", apart := false }
def SumsOfSaid : Prop := sumsOfRow.holds Try.pinned (OpenSpec.ofChange sumsOfSpec)

/-- ITS FALSE NEIGHBOUR: 'it returns false'. Refute it at one input. -/
def sumsOfWrong : ChangeSpec := { name := "sumsOf", fn := fun _ => fun
  | [d1, d2] => { results := [.lit (.bool false)], args := [d1, d2] }
  | _ => none }
def SumsOfWrongFalsely : Prop := sumsOfRow.holds Try.pinned (OpenSpec.ofChange sumsOfWrong)

/-- 'drydocklaw02.SumsPieces': WHATEVER THE INPUT: true; the input reads as it did. -/
def sumsPiecesSpec : ChangeSpec := { name := "sumsPieces", fn := fun _ => fun
  | [d1, d2, d3] => { results := [.lit (.bool true)], args := [d1, d2, d3] }
  | _ => none }
def sumsPiecesRow : OpenClaim := { program := "ytpejahmpjohjeaa", sum := "dea471b3c73971f47630eadabd5387f6039bc8edb25598b84c341c511b2dc434", func := "drydock/drydocklaw02.SumsPieces", spec := "sumsPieces", apart := false }
def SumsPiecesSaid : Prop := sumsPiecesRow.holds Try.pinned (OpenSpec.ofChange sumsPiecesSpec)

/-- ITS FALSE NEIGHBOUR: 'it returns false'. Refute it at one input. -/
def sumsPiecesWrong : ChangeSpec := { name := "sumsPieces", fn := fun _ => fun
  | [d1, d2, d3] => { results := [.lit (.bool false)], args := [d1, d2, d3] }
  | _ => none }
def SumsPiecesWrongFalsely : Prop := sumsPiecesRow.holds Try.pinned (OpenSpec.ofChange sumsPiecesWrong)

/-- 'drydocklaw02.SumsUnlike': WHATEVER THE INPUT: true; the input reads as it did. -/
def sumsUnlikeSpec : ChangeSpec := { name := "sumsUnlike", fn := fun _ => fun
  | [d1, d2, d3] => { results := [.lit (.bool true)], args := [d1, d2, d3] }
  | _ => none }
def sumsUnlikeRow : OpenClaim := { program := "ytpejahmpjohjeaa", sum := "dea471b3c73971f47630eadabd5387f6039bc8edb25598b84c341c511b2dc434", func := "drydock/drydocklaw02.SumsUnlike", spec := "sumsUnlike", apart := false }
def SumsUnlikeSaid : Prop := sumsUnlikeRow.holds Try.pinned (OpenSpec.ofChange sumsUnlikeSpec)

/-- ITS FALSE NEIGHBOUR: 'it returns false'. Refute it at one input. -/
def sumsUnlikeWrong : ChangeSpec := { name := "sumsUnlike", fn := fun _ => fun
  | [d1, d2, d3] => { results := [.lit (.bool false)], args := [d1, d2, d3] }
  | _ => none }
def SumsUnlikeWrongFalsely : Prop := sumsUnlikeRow.holds Try.pinned (OpenSpec.ofChange sumsUnlikeWrong)

/-- 'drydocklaw02.SumsThree': WHATEVER THE INPUT: true; the input reads as it did. -/
def sumsThreeSpec : ChangeSpec := { name := "sumsThree", fn := fun _ => fun
  | [d] => { results := [.lit (.bool true)], args := [d] }
  | _ => none }
def sumsThreeRow : OpenClaim := { program := "ytpejahmpjohjeaa", sum := "dea471b3c73971f47630eadabd5387f6039bc8edb25598b84c341c511b2dc434", func := "drydock/drydocklaw02.SumsThree", spec := "sumsThree", apart := false }
def SumsThreeSaid : Prop := sumsThreeRow.holds Try.pinned (OpenSpec.ofChange sumsThreeSpec)

/-- ITS FALSE NEIGHBOUR: 'it returns false'. Refute it at one input. -/
def sumsThreeWrong : ChangeSpec := { name := "sumsThree", fn := fun _ => fun
  | [d] => { results := [.lit (.bool false)], args := [d] }
  | _ => none }
def SumsThreeWrongFalsely : Prop := sumsThreeRow.holds Try.pinned (OpenSpec.ofChange sumsThreeWrong)

/-- 'drydocklaw02.SumsEnd': WHATEVER THE INPUT: true; the input reads as it did. -/
def sumsEndSpec : ChangeSpec := { name := "sumsEnd", fn := fun _ => fun
  | [d1, d2] => { results := [.lit (.bool true)], args := [d1, d2] }
  | _ => none }
def sumsEndRow : OpenClaim := { program := "ytpejahmpjohjeaa", sum := "dea471b3c73971f47630eadabd5387f6039bc8edb25598b84c341c511b2dc434", func := "drydock/drydocklaw02.SumsEnd", spec := "sumsEnd", apart := false }
def SumsEndSaid : Prop := sumsEndRow.holds Try.pinned (OpenSpec.ofChange sumsEndSpec)

/-- ITS FALSE NEIGHBOUR: 'it returns false'. Refute it at one input. -/
def sumsEndWrong : ChangeSpec := { name := "sumsEnd", fn := fun _ => fun
  | [d1, d2] => { results := [.lit (.bool false)], args := [d1, d2] }
  | _ => none }
def SumsEndWrongFalsely : Prop := sumsEndRow.holds Try.pinned (OpenSpec.ofChange sumsEndWrong)

/-- 'drydocklaw02.SumsAlike': WHATEVER THE INPUT: true; the input reads as it did. -/
def sumsAlikeSpec : ChangeSpec := { name := "sumsAlike", fn := fun _ => fun
  | [d1, d2] => { results := [.lit (.bool true)], args := [d1, d2] }
  | _ => none }
def sumsAlikeRow : OpenClaim := { program := "ytpejahmpjohjeaa", sum := "dea471b3c73971f47630eadabd5387f6039bc8edb25598b84c341c511b2dc434", func := "drydock/drydocklaw02.SumsAlike", spec := "sumsAlike", apart := false }
def SumsAlikeSaid : Prop := sumsAlikeRow.holds Try.pinned (OpenSpec.ofChange sumsAlikeSpec)

/-- ITS FALSE NEIGHBOUR: 'it returns false'. Refute it at one input. -/
def sumsAlikeWrong : ChangeSpec := { name := "sumsAlike", fn := fun _ => fun
  | [d1, d2] => { results := [.lit (.bool false)], args := [d1, d2] }
  | _ => none }
def SumsAlikeWrongFalsely : Prop := sumsAlikeRow.holds Try.pinned (OpenSpec.ofChange sumsAlikeWrong)

/- THE SECOND FORM. 'bulk': how many values and letters a reading holds, each counted each time it is reached (what is shared counts as often as it is met; a slice's spare places count too). A statement '..UptoSaid' is the law's where the arguments, and the package variables that the reading takes, are together of bulk at most 1048576: NARROWER than '..Said'. Prove '..Said' where nothing that the law and all that it calls make is longer than what came in: it says more and counts as full. Else prove '..UptoSaid'. A law counts once. -/
mutual
def uptoBulk {H : Type} : DataW H → Nat
  | .lit (.string bytes) => bytes.length + 1
  | .lit _ => 1
  | .nil => 1
  | .ptr d => uptoBulk d + 1
  | .slice elems spare => uptoBulkAll elems + uptoBulkAll spare + 1
  | .agg parts => uptoBulkAll parts + 1
  | .iface _ d => uptoBulk d + 1
  | .map entries => uptoBulkEntries entries + 1
  | .held _ => 1
def uptoBulkAll {H : Type} : List (DataW H) → Nat
  | [] => 0
  | d :: r => uptoBulk d + uptoBulkAll r
def uptoBulkEntries {H : Type} : List (Lit × DataW H) → Nat
  | [] => 0
  | x :: r => uptoBulkEntry x + uptoBulkEntries r
def uptoBulkEntry {H : Type} : Lit × DataW H → Nat
  | (.string bytes, d) => bytes.length + uptoBulk d + 1
  | (_, d) => uptoBulk d + 1
 end
def uptoSmall : (H : Type) → List (DataW H) → Bool := fun _ ds => decide (uptoBulkAll ds ≤ 1048576)
def OpenSpec.upto (s : _root_.Go.ChangeSpec) : _root_.Go.OpenSpec := { _root_.Go.OpenSpec.ofChange s with cond := some uptoSmall }

/-- 'drydocklaw02.SumsOf', WHERE WHAT IT READS IS OF BULK AT MOST 1048576: true; the input reads as it did. -/
def sumsOfUptoRow : OpenClaim := { program := "ytpejahmpjohjeaa", sum := "dea471b3c73971f47630eadabd5387f6039bc8edb25598b84c341c511b2dc434", func := "drydock/drydocklaw02.SumsOf", spec := "sumsOf", apart := false, narrowed := true }
def SumsOfUptoSaid : Prop := sumsOfUptoRow.holds Try.pinned (OpenSpec.upto sumsOfSpec)

/-- 'drydocklaw02.SumsPieces', WHERE WHAT IT READS IS OF BULK AT MOST 1048576: true; the input reads as it did. -/
def sumsPiecesUptoRow : OpenClaim := { program := "ytpejahmpjohjeaa", sum := "dea471b3c73971f47630eadabd5387f6039bc8edb25598b84c341c511b2dc434", func := "drydock/drydocklaw02.SumsPieces", spec := "sumsPieces", apart := false, narrowed := true }
def SumsPiecesUptoSaid : Prop := sumsPiecesUptoRow.holds Try.pinned (OpenSpec.upto sumsPiecesSpec)

/-- 'drydocklaw02.SumsUnlike', WHERE WHAT IT READS IS OF BULK AT MOST 1048576: true; the input reads as it did. -/
def sumsUnlikeUptoRow : OpenClaim := { program := "ytpejahmpjohjeaa", sum := "dea471b3c73971f47630eadabd5387f6039bc8edb25598b84c341c511b2dc434", func := "drydock/drydocklaw02.SumsUnlike", spec := "sumsUnlike", apart := false, narrowed := true }
def SumsUnlikeUptoSaid : Prop := sumsUnlikeUptoRow.holds Try.pinned (OpenSpec.upto sumsUnlikeSpec)

/-- 'drydocklaw02.SumsThree', WHERE WHAT IT READS IS OF BULK AT MOST 1048576: true; the input reads as it did. -/
def sumsThreeUptoRow : OpenClaim := { program := "ytpejahmpjohjeaa", sum := "dea471b3c73971f47630eadabd5387f6039bc8edb25598b84c341c511b2dc434", func := "drydock/drydocklaw02.SumsThree", spec := "sumsThree", apart := false, narrowed := true }
def SumsThreeUptoSaid : Prop := sumsThreeUptoRow.holds Try.pinned (OpenSpec.upto sumsThreeSpec)

/-- 'drydocklaw02.SumsEnd', WHERE WHAT IT READS IS OF BULK AT MOST 1048576: true; the input reads as it did. -/
def sumsEndUptoRow : OpenClaim := { program := "ytpejahmpjohjeaa", sum := "dea471b3c73971f47630eadabd5387f6039bc8edb25598b84c341c511b2dc434", func := "drydock/drydocklaw02.SumsEnd", spec := "sumsEnd", apart := false, narrowed := true }
def SumsEndUptoSaid : Prop := sumsEndUptoRow.holds Try.pinned (OpenSpec.upto sumsEndSpec)

/-- 'drydocklaw02.SumsAlike', WHERE WHAT IT READS IS OF BULK AT MOST 1048576: true; the input reads as it did. -/
def sumsAlikeUptoRow : OpenClaim := { program := "ytpejahmpjohjeaa", sum := "dea471b3c73971f47630eadabd5387f6039bc8edb25598b84c341c511b2dc434", func := "drydock/drydocklaw02.SumsAlike", spec := "sumsAlike", apart := false, narrowed := true }
def SumsAlikeUptoSaid : Prop := sumsAlikeUptoRow.holds Try.pinned (OpenSpec.upto sumsAlikeSpec)

end Rows
end Go.Proofs.Ytpejahmpjohjeaa
