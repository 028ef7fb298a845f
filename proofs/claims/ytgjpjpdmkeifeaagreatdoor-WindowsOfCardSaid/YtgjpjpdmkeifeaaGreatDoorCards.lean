/-
  DERIVED. GIVEN WITH THE SEED: THE CARDS: each row of YtgjpjpdmkeifeaaGreatDoorRows.lean that lists a variable, with what it lists TIED to the program's text (the seventh form; the later family's looks); each row that meets fmt, with fmt's text TOLD by the authors' own Lean function (tested against real Go, not proved from fmt's source: count such statements apart). THE CARD IS WHAT COUNTS. Prove the row's statement (the work); the ties are given (YtgjpjpdmkeifeaaGreatDoorTie.lean); close each card by the builder's one call (the guide's Derived/Test/ToyasCard.lean, 'card_holds'). Laid BY PROGRAM, IN A SANDBOX (cutbox-door.mjs). By AI agents, Wed Nov 11 2026. No macro, syntax, notation, axiom, sorry.
-/
import Derived.Test.YtgjpjpdmkeifeaaGreatDoorRows
import GoSem.ClaimSeven
namespace Go.Proofs.YtgjpjpdmkeifeaaGreatDoor
namespace Rows

/-- THE TIED CARD OF 'drydocklaw08.WindowsPool'. -/
def windowsPoolCard : Claim7 := { stood := { row := windowsPoolRow, standIns := [], harness := (true, "a9d4c3d2c6f2e006dade4aaac14e12343803f4783514ed67684f9887a7138035"), looks := false }, kinds := [], alts := [], laidByText := true, laidKinds := [.data, .data, .data], laidTests := true, laidLooks := .later }
def WindowsPoolCardSaid : Prop := Claim7.holds Tryz.pinned (.plain (OpenSpec.ofChange windowsPoolSpec)) windowsPoolCard

/-- THE TIED CARD OF 'drydocklaw08.WindowsOf'. -/
def windowsOfCard : Claim7 := { stood := { row := windowsOfRow, standIns := [], harness := (true, "a9d4c3d2c6f2e006dade4aaac14e12343803f4783514ed67684f9887a7138035"), looks := false }, kinds := [], alts := [], laidByText := true, laidKinds := [.data, .data, .data], laidTests := true, laidLooks := .later }
def WindowsOfCardSaid : Prop := Claim7.holds Tryz.pinned (.plain (OpenSpec.ofChange windowsOfSpec)) windowsOfCard

/-- THE SECOND FORM's CARD OF 'drydocklaw08.WindowsPool'. -/
def windowsPoolUptoCard : Claim7 := { stood := { row := windowsPoolUptoRow, standIns := [], harness := (true, "a9d4c3d2c6f2e006dade4aaac14e12343803f4783514ed67684f9887a7138035"), looks := false }, kinds := [], alts := [], laidByText := true, laidKinds := [.data, .data, .data], laidTests := true, laidLooks := .later }
def WindowsPoolUptoCardSaid : Prop := Claim7.holds Tryz.pinned (.plain (OpenSpec.upto windowsPoolSpec)) windowsPoolUptoCard

/-- THE SECOND FORM's CARD OF 'drydocklaw08.WindowsOf'. -/
def windowsOfUptoCard : Claim7 := { stood := { row := windowsOfUptoRow, standIns := [], harness := (true, "a9d4c3d2c6f2e006dade4aaac14e12343803f4783514ed67684f9887a7138035"), looks := false }, kinds := [], alts := [], laidByText := true, laidKinds := [.data, .data, .data], laidTests := true, laidLooks := .later }
def WindowsOfUptoCardSaid : Prop := Claim7.holds Tryz.pinned (.plain (OpenSpec.upto windowsOfSpec)) windowsOfUptoCard
end Rows
end Go.Proofs.YtgjpjpdmkeifeaaGreatDoor
