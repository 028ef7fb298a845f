/-
  No cell of these rows narrows 'for every input' (looked for: loops, veiled, ifaces, maps, wideKeys, modest, calm, conditions, laid).
  DERIVED. THE GIVEN ROWS OF THIS SEAT. 3 by the template 'for every input the law returns true; each argument reads behind the call as it read before'; 0 by the template 'total and deterministic' (their statements: YtdliencelkdibaaTotals.lean).
  GIVEN WITH THE SEED: the statements are not yours to turn. If you find one false, say at which input.
  Laid BY PROGRAM, IN A SANDBOX (cutbox-rows.mjs): the forced cells as the released guide's own fill.sh prints them over the translation f176b5422e2a783a… (all of the seat's roots in one cut). By AI agents, Wed Nov 11 2026. No macro, syntax, notation, axiom, sorry.
-/
import Derived.Test.YtdliencelkdibaaChecked
import GoSem.Claim
import GoSem.ClaimJoined
import GoSem.ClaimMapViews
import Derived.JoinedTies
import Derived.KernelRfl
namespace Go.Proofs.Ytdliencelkdibaa
/- THE CELL 'sum', in the pinned program and in every row, IS THE sha256 OF THE DUMP (.gsa) THAT YtdliencelkdibaaProg.lean LOADS. Nothing in Lean hashes anything: it is a label: what it is worth is what the hold of that sum in a sandbox is worth. -/
noncomputable def Try.pinned : Pinned := { name := "ytdliencelkdibaa", sum := "f176b5422e2a783a35dc8f2a7d04d335dc39a3ba52fdabaf21b2615b58020184", checked := Try.checked }
namespace Rows
def none {H : Type} : Left H := { results := [], args := [] }

/-- 'drydocklaw07.ProductsThree': WHATEVER THE INPUT: true; the input reads as it did. -/
def productsThreeSpec : ChangeSpec := { name := "productsThree", fn := fun _ => fun
  | [d1, d2] => { results := [.lit (.bool true)], args := [d1, d2] }
  | _ => none }
def productsThreeRow : OpenClaim := { program := "ytdliencelkdibaa", sum := "f176b5422e2a783a35dc8f2a7d04d335dc39a3ba52fdabaf21b2615b58020184", func := "drydock/drydocklaw07.ProductsThree", spec := "productsThree", unfollowed := true, recurses := true, apart := false }
def ProductsThreeSaid : Prop := productsThreeRow.holds Try.pinned (OpenSpec.ofChange productsThreeSpec)

/-- ITS FALSE NEIGHBOUR: 'it returns false'. Refute it at one input. -/
def productsThreeWrong : ChangeSpec := { name := "productsThree", fn := fun _ => fun
  | [d1, d2] => { results := [.lit (.bool false)], args := [d1, d2] }
  | _ => none }
def ProductsThreeWrongFalsely : Prop := productsThreeRow.holds Try.pinned (OpenSpec.ofChange productsThreeWrong)

/-- 'drydocklaw07.ProductsOne': WHATEVER THE INPUT: true; the input reads as it did. -/
def productsOneSpec : ChangeSpec := { name := "productsOne", fn := fun _ => fun
  | [d1, d2] => { results := [.lit (.bool true)], args := [d1, d2] }
  | _ => none }
def productsOneRow : OpenClaim := { program := "ytdliencelkdibaa", sum := "f176b5422e2a783a35dc8f2a7d04d335dc39a3ba52fdabaf21b2615b58020184", func := "drydock/drydocklaw07.ProductsOne", spec := "productsOne", unfollowed := true, recurses := true, apart := false }
def ProductsOneSaid : Prop := productsOneRow.holds Try.pinned (OpenSpec.ofChange productsOneSpec)

/-- ITS FALSE NEIGHBOUR: 'it returns false'. Refute it at one input. -/
def productsOneWrong : ChangeSpec := { name := "productsOne", fn := fun _ => fun
  | [d1, d2] => { results := [.lit (.bool false)], args := [d1, d2] }
  | _ => none }
def ProductsOneWrongFalsely : Prop := productsOneRow.holds Try.pinned (OpenSpec.ofChange productsOneWrong)

/-- 'drydocklaw07.ProductsSums': WHATEVER THE INPUT: true; the input reads as it did. -/
def productsSumsSpec : ChangeSpec := { name := "productsSums", fn := fun _ => fun
  | [d1, d2] => { results := [.lit (.bool true)], args := [d1, d2] }
  | _ => none }
def productsSumsRow : OpenClaim := { program := "ytdliencelkdibaa", sum := "f176b5422e2a783a35dc8f2a7d04d335dc39a3ba52fdabaf21b2615b58020184", func := "drydock/drydocklaw07.ProductsSums", spec := "productsSums", unfollowed := true, recurses := true, apart := false }
def ProductsSumsSaid : Prop := productsSumsRow.holds Try.pinned (OpenSpec.ofChange productsSumsSpec)

/-- ITS FALSE NEIGHBOUR: 'it returns false'. Refute it at one input. -/
def productsSumsWrong : ChangeSpec := { name := "productsSums", fn := fun _ => fun
  | [d1, d2] => { results := [.lit (.bool false)], args := [d1, d2] }
  | _ => none }
def ProductsSumsWrongFalsely : Prop := productsSumsRow.holds Try.pinned (OpenSpec.ofChange productsSumsWrong)

/- THE SECOND FORM. 'bulk': how many values and letters a reading holds, each counted each time it is reached (what is shared counts as often as it is met; a slice's spare places count too). A statement '..UptoSaid' is the law's where the arguments, and the package variables that the reading takes, are together of bulk at most 1048576: NARROWER than '..Said'. Prove '..Said' where nothing that the law and all that it calls make is longer than what came in: it says more and counts as full. Else prove '..UptoSaid'. A law counts once. -/
mutual
def uptoBulk {H : Type} : DataW H → Nat
  | .lit (.string bytes) => bytes.length + 1
  | .lit _ => 1
  | .nil => 1
  | .ptr d => uptoBulk d + 1
  | .slice elems spare => uptoBulkAll elems + uptoBulkAll spare + 1
  | .agg parts => uptoBulkAll parts + 1
  | .iface _ d => uptoBulk d + 1
  | .map entries => uptoBulkEntries entries + 1
  | .held _ => 1
def uptoBulkAll {H : Type} : List (DataW H) → Nat
  | [] => 0
  | d :: r => uptoBulk d + uptoBulkAll r
def uptoBulkEntries {H : Type} : List (Lit × DataW H) → Nat
  | [] => 0
  | x :: r => uptoBulkEntry x + uptoBulkEntries r
def uptoBulkEntry {H : Type} : Lit × DataW H → Nat
  | (.string bytes, d) => bytes.length + uptoBulk d + 1
  | (_, d) => uptoBulk d + 1
 end
def uptoSmall : (H : Type) → List (DataW H) → Bool := fun _ ds => decide (uptoBulkAll ds ≤ 1048576)
def OpenSpec.upto (s : _root_.Go.ChangeSpec) : _root_.Go.OpenSpec := { _root_.Go.OpenSpec.ofChange s with cond := some uptoSmall }

/-- 'drydocklaw07.ProductsThree', WHERE WHAT IT READS IS OF BULK AT MOST 1048576: true; the input reads as it did. -/
def productsThreeUptoRow : OpenClaim := { program := "ytdliencelkdibaa", sum := "f176b5422e2a783a35dc8f2a7d04d335dc39a3ba52fdabaf21b2615b58020184", func := "drydock/drydocklaw07.ProductsThree", spec := "productsThree", unfollowed := true, recurses := true, apart := false, narrowed := true }
def ProductsThreeUptoSaid : Prop := productsThreeUptoRow.holds Try.pinned (OpenSpec.upto productsThreeSpec)

/-- 'drydocklaw07.ProductsOne', WHERE WHAT IT READS IS OF BULK AT MOST 1048576: true; the input reads as it did. -/
def productsOneUptoRow : OpenClaim := { program := "ytdliencelkdibaa", sum := "f176b5422e2a783a35dc8f2a7d04d335dc39a3ba52fdabaf21b2615b58020184", func := "drydock/drydocklaw07.ProductsOne", spec := "productsOne", unfollowed := true, recurses := true, apart := false, narrowed := true }
def ProductsOneUptoSaid : Prop := productsOneUptoRow.holds Try.pinned (OpenSpec.upto productsOneSpec)

/-- 'drydocklaw07.ProductsSums', WHERE WHAT IT READS IS OF BULK AT MOST 1048576: true; the input reads as it did. -/
def productsSumsUptoRow : OpenClaim := { program := "ytdliencelkdibaa", sum := "f176b5422e2a783a35dc8f2a7d04d335dc39a3ba52fdabaf21b2615b58020184", func := "drydock/drydocklaw07.ProductsSums", spec := "productsSums", unfollowed := true, recurses := true, apart := false, narrowed := true }
def ProductsSumsUptoSaid : Prop := productsSumsUptoRow.holds Try.pinned (OpenSpec.upto productsSumsSpec)

end Rows
end Go.Proofs.Ytdliencelkdibaa
