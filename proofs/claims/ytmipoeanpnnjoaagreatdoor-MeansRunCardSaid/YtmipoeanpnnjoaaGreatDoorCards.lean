/-
  DERIVED. GIVEN WITH THE SEED: THE CARDS: each row of YtmipoeanpnnjoaaGreatDoorRows.lean that lists a variable, with what it lists TIED to the program's text (the seventh form; the later family's looks); each row that meets fmt, with fmt's text TOLD by the authors' own Lean function (tested against real Go, not proved from fmt's source: count such statements apart). THE CARD IS WHAT COUNTS. Prove the row's statement (the work); the ties are given (YtmipoeanpnnjoaaGreatDoorTie.lean); close each card by the builder's one call (the guide's Derived/Test/ToyasCard.lean, 'card_holds'). Laid BY PROGRAM, IN A SANDBOX (cutbox-door.mjs). By AI agents, Wed Nov 11 2026. No macro, syntax, notation, axiom, sorry.
-/
import Derived.Test.YtmipoeanpnnjoaaGreatDoorRows
import GoSem.ClaimSeven
namespace Go.Proofs.YtmipoeanpnnjoaaGreatDoor
namespace Rows

/-- THE TIED CARD OF 'drydocklaw13.MeansDo'. -/
def meansDoCard : Claim7 := { stood := { row := meansDoRow, standIns := [], harness := (true, "12f6ff630a68dfb2284c7fd28044138ea90098ab6f1849db645fccf93891bb26"), looks := false }, kinds := [], alts := [], laidByText := true, laidKinds := [.data, .data, .data], laidTests := true, laidLooks := .later }
def MeansDoCardSaid : Prop := Claim7.holds Tryz.pinned (.plain (OpenSpec.ofChange meansDoSpec)) meansDoCard

/-- THE TIED CARD OF 'drydocklaw13.MeansRun'. -/
def meansRunCard : Claim7 := { stood := { row := meansRunRow, standIns := [], harness := (true, "12f6ff630a68dfb2284c7fd28044138ea90098ab6f1849db645fccf93891bb26"), looks := false }, kinds := [], alts := [], laidByText := true, laidKinds := [.data, .data, .data], laidTests := true, laidLooks := .later }
def MeansRunCardSaid : Prop := Claim7.holds Tryz.pinned (.plain (OpenSpec.ofChange meansRunSpec)) meansRunCard

/-- THE SECOND FORM's CARD OF 'drydocklaw13.MeansDo'. -/
def meansDoUptoCard : Claim7 := { stood := { row := meansDoUptoRow, standIns := [], harness := (true, "12f6ff630a68dfb2284c7fd28044138ea90098ab6f1849db645fccf93891bb26"), looks := false }, kinds := [], alts := [], laidByText := true, laidKinds := [.data, .data, .data], laidTests := true, laidLooks := .later }
def MeansDoUptoCardSaid : Prop := Claim7.holds Tryz.pinned (.plain (OpenSpec.upto meansDoSpec)) meansDoUptoCard

/-- THE SECOND FORM's CARD OF 'drydocklaw13.MeansRun'. -/
def meansRunUptoCard : Claim7 := { stood := { row := meansRunUptoRow, standIns := [], harness := (true, "12f6ff630a68dfb2284c7fd28044138ea90098ab6f1849db645fccf93891bb26"), looks := false }, kinds := [], alts := [], laidByText := true, laidKinds := [.data, .data, .data], laidTests := true, laidLooks := .later }
def MeansRunUptoCardSaid : Prop := Claim7.holds Tryz.pinned (.plain (OpenSpec.upto meansRunSpec)) meansRunUptoCard
end Rows
end Go.Proofs.YtmipoeanpnnjoaaGreatDoor
