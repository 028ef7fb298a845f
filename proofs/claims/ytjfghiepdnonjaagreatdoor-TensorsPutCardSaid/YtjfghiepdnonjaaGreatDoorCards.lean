/-
  DERIVED. GIVEN WITH THE SEED: THE CARDS: each row of YtjfghiepdnonjaaGreatDoorRows.lean that lists a variable, with what it lists TIED to the program's text (the seventh form; the later family's looks); each row that meets fmt, with fmt's text TOLD by the authors' own Lean function (tested against real Go, not proved from fmt's source: count such statements apart). THE CARD IS WHAT COUNTS. Prove the row's statement (the work); the ties are given (YtjfghiepdnonjaaGreatDoorTie.lean); close each card by the builder's one call (the guide's Derived/Test/ToyasCard.lean, 'card_holds'). Laid BY PROGRAM, IN A SANDBOX (cutbox-door.mjs). By AI agents, Wed Nov 11 2026. No macro, syntax, notation, axiom, sorry.
-/
import Derived.Test.YtjfghiepdnonjaaGreatDoorRows
import GoSem.ClaimSeven
namespace Go.Proofs.YtjfghiepdnonjaaGreatDoor
namespace Rows

/-- THE TIED CARD OF 'drydocklaw05.TensorsOf'. -/
def tensorsOfCard : Claim7 := { stood := { row := tensorsOfRow, standIns := [], harness := (true, "a79a60944991e0861b3d4b3dcc40c637d990ad043f35a96b5a92c2af1c69eab9"), looks := false }, kinds := [], alts := [], laidByText := true, laidKinds := [.data, .data, .data], laidTests := true, laidLooks := .later }
def TensorsOfCardSaid : Prop := Claim7.holds Tryz.pinned (.plain (OpenSpec.ofChange tensorsOfSpec)) tensorsOfCard

/-- THE TIED CARD OF 'drydocklaw05.TensorsPut'. -/
def tensorsPutCard : Claim7 := { stood := { row := tensorsPutRow, standIns := [], harness := (true, "a79a60944991e0861b3d4b3dcc40c637d990ad043f35a96b5a92c2af1c69eab9"), looks := false }, kinds := [], alts := [], laidByText := true, laidKinds := [.data, .data, .data], laidTests := true, laidLooks := .later }
def TensorsPutCardSaid : Prop := Claim7.holds Tryz.pinned (.plain (OpenSpec.ofChange tensorsPutSpec)) tensorsPutCard

/-- THE SECOND FORM's CARD OF 'drydocklaw05.TensorsOf'. -/
def tensorsOfUptoCard : Claim7 := { stood := { row := tensorsOfUptoRow, standIns := [], harness := (true, "a79a60944991e0861b3d4b3dcc40c637d990ad043f35a96b5a92c2af1c69eab9"), looks := false }, kinds := [], alts := [], laidByText := true, laidKinds := [.data, .data, .data], laidTests := true, laidLooks := .later }
def TensorsOfUptoCardSaid : Prop := Claim7.holds Tryz.pinned (.plain (OpenSpec.upto tensorsOfSpec)) tensorsOfUptoCard

/-- THE SECOND FORM's CARD OF 'drydocklaw05.TensorsPut'. -/
def tensorsPutUptoCard : Claim7 := { stood := { row := tensorsPutUptoRow, standIns := [], harness := (true, "a79a60944991e0861b3d4b3dcc40c637d990ad043f35a96b5a92c2af1c69eab9"), looks := false }, kinds := [], alts := [], laidByText := true, laidKinds := [.data, .data, .data], laidTests := true, laidLooks := .later }
def TensorsPutUptoCardSaid : Prop := Claim7.holds Tryz.pinned (.plain (OpenSpec.upto tensorsPutSpec)) tensorsPutUptoCard
end Rows
end Go.Proofs.YtjfghiepdnonjaaGreatDoor
