/-
  DERIVED. GIVEN WITH THE SEED: THE CARDS: each row of YtkhndfaampkbnaaGreatDoorRows.lean that lists a variable, with what it lists TIED to the program's text (the seventh form; the later family's looks); each row that meets fmt, with fmt's text TOLD by the authors' own Lean function (tested against real Go, not proved from fmt's source: count such statements apart). THE CARD IS WHAT COUNTS. Prove the row's statement (the work); the ties are given (YtkhndfaampkbnaaGreatDoorTie.lean); close each card by the builder's one call (the guide's Derived/Test/ToyasCard.lean, 'card_holds'). Laid BY PROGRAM, IN A SANDBOX (cutbox-door.mjs). By AI agents, Wed Nov 11 2026. No macro, syntax, notation, axiom, sorry.
-/
import Derived.Test.YtkhndfaampkbnaaGreatDoorRows
import GoSem.ClaimSeven
namespace Go.Proofs.YtkhndfaampkbnaaGreatDoor
namespace Rows

/-- THE TIED CARD OF 'drydocklaw09.MovesJoin'. -/
def movesJoinCard : Claim7 := { stood := { row := movesJoinRow, standIns := [], harness := (true, "be97d0136d3698b2f6b7e916e1623318bba926cc5f820086381b3c84f1dcd1a2"), looks := false }, kinds := [], alts := [], laidByText := true, laidKinds := [.data, .data, .data], laidTests := true, laidLooks := .later }
def MovesJoinCardSaid : Prop := Claim7.holds Tryz.pinned (.plain (OpenSpec.ofChange movesJoinSpec)) movesJoinCard

/-- THE TIED CARD OF 'drydocklaw09.MovesOne'. -/
def movesOneCard : Claim7 := { stood := { row := movesOneRow, standIns := [], harness := (true, "be97d0136d3698b2f6b7e916e1623318bba926cc5f820086381b3c84f1dcd1a2"), looks := false }, kinds := [], alts := [], laidByText := true, laidKinds := [.data, .data, .data], laidTests := true, laidLooks := .later }
def MovesOneCardSaid : Prop := Claim7.holds Tryz.pinned (.plain (OpenSpec.ofChange movesOneSpec)) movesOneCard

/-- THE SECOND FORM's CARD OF 'drydocklaw09.MovesJoin'. -/
def movesJoinUptoCard : Claim7 := { stood := { row := movesJoinUptoRow, standIns := [], harness := (true, "be97d0136d3698b2f6b7e916e1623318bba926cc5f820086381b3c84f1dcd1a2"), looks := false }, kinds := [], alts := [], laidByText := true, laidKinds := [.data, .data, .data], laidTests := true, laidLooks := .later }
def MovesJoinUptoCardSaid : Prop := Claim7.holds Tryz.pinned (.plain (OpenSpec.upto movesJoinSpec)) movesJoinUptoCard

/-- THE SECOND FORM's CARD OF 'drydocklaw09.MovesOne'. -/
def movesOneUptoCard : Claim7 := { stood := { row := movesOneUptoRow, standIns := [], harness := (true, "be97d0136d3698b2f6b7e916e1623318bba926cc5f820086381b3c84f1dcd1a2"), looks := false }, kinds := [], alts := [], laidByText := true, laidKinds := [.data, .data, .data], laidTests := true, laidLooks := .later }
def MovesOneUptoCardSaid : Prop := Claim7.holds Tryz.pinned (.plain (OpenSpec.upto movesOneSpec)) movesOneUptoCard
end Rows
end Go.Proofs.YtkhndfaampkbnaaGreatDoor
