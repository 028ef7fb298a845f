/-
  DERIVED. GIVEN WITH THE SEED: THE CARDS: each row of YtaliinkmeokonaaGreatDoorRows.lean that lists a variable, with what it lists TIED to the program's text (the seventh form; the later family's looks); each row that meets fmt, with fmt's text TOLD by the authors' own Lean function (tested against real Go, not proved from fmt's source: count such statements apart). THE CARD IS WHAT COUNTS. Prove the row's statement (the work); the ties are given (YtaliinkmeokonaaGreatDoorTie.lean); close each card by the builder's one call (the guide's Derived/Test/ToyasCard.lean, 'card_holds'). Laid BY PROGRAM, IN A SANDBOX (cutbox-door.mjs). By AI agents, Wed Nov 11 2026. No macro, syntax, notation, axiom, sorry.
-/
import Derived.Test.YtaliinkmeokonaaGreatDoorRows
import GoSem.ClaimSeven
namespace Go.Proofs.YtaliinkmeokonaaGreatDoor
namespace Rows

/-- THE TIED CARD OF 'drydocklaw04.ShapesOf'. -/
def shapesOfCard : Claim7 := { stood := { row := shapesOfRow, standIns := [], harness := (true, "2dc4eb457d1da6864f18a15668aa6241e9ae3b137ec1b6b05c8de2f66e8b5983"), looks := false }, kinds := [], alts := [], laidByText := true, laidKinds := [.data, .data, .data], laidTests := true, laidLooks := .later }
def ShapesOfCardSaid : Prop := Claim7.holds Tryz.pinned (.plain (OpenSpec.ofChange shapesOfSpec)) shapesOfCard

/-- THE SECOND FORM's CARD OF 'drydocklaw04.ShapesOf'. -/
def shapesOfUptoCard : Claim7 := { stood := { row := shapesOfUptoRow, standIns := [], harness := (true, "2dc4eb457d1da6864f18a15668aa6241e9ae3b137ec1b6b05c8de2f66e8b5983"), looks := false }, kinds := [], alts := [], laidByText := true, laidKinds := [.data, .data, .data], laidTests := true, laidLooks := .later }
def ShapesOfUptoCardSaid : Prop := Claim7.holds Tryz.pinned (.plain (OpenSpec.upto shapesOfSpec)) shapesOfUptoCard
end Rows
end Go.Proofs.YtaliinkmeokonaaGreatDoor
