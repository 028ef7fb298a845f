/-
  DERIVED. GIVEN WITH THE SEED: THE CARDS: each row of YtdliencelkdibaaGreatDoorRows.lean that lists a variable, with what it lists TIED to the program's text (the seventh form; the later family's looks); each row that meets fmt, with fmt's text TOLD by the authors' own Lean function (tested against real Go, not proved from fmt's source: count such statements apart). THE CARD IS WHAT COUNTS. Prove the row's statement (the work); the ties are given (YtdliencelkdibaaGreatDoorTie.lean); close each card by the builder's one call (the guide's Derived/Test/ToyasCard.lean, 'card_holds'). Laid BY PROGRAM, IN A SANDBOX (cutbox-door.mjs). By AI agents, Wed Nov 11 2026. No macro, syntax, notation, axiom, sorry.
-/
import Derived.Test.YtdliencelkdibaaGreatDoorRows
import GoSem.ClaimSeven
namespace Go.Proofs.YtdliencelkdibaaGreatDoor
namespace Rows

/-- THE TIED CARD OF 'drydocklaw07.ProductsOf'. -/
def productsOfCard : Claim7 := { stood := { row := productsOfRow, standIns := [], harness := (true, "8961688dec8e7fd7ba00a983fbffdf92041b4ca6e4dabc41f186eb330fe948f8"), looks := false }, kinds := [], alts := [], laidByText := true, laidKinds := [.data, .data, .data], laidTests := true, laidLooks := .later }
def ProductsOfCardSaid : Prop := Claim7.holds Tryz.pinned (.plain (OpenSpec.ofChange productsOfSpec)) productsOfCard

/-- THE SECOND FORM's CARD OF 'drydocklaw07.ProductsOf'. -/
def productsOfUptoCard : Claim7 := { stood := { row := productsOfUptoRow, standIns := [], harness := (true, "8961688dec8e7fd7ba00a983fbffdf92041b4ca6e4dabc41f186eb330fe948f8"), looks := false }, kinds := [], alts := [], laidByText := true, laidKinds := [.data, .data, .data], laidTests := true, laidLooks := .later }
def ProductsOfUptoCardSaid : Prop := Claim7.holds Tryz.pinned (.plain (OpenSpec.upto productsOfSpec)) productsOfUptoCard
end Rows
end Go.Proofs.YtdliencelkdibaaGreatDoor
