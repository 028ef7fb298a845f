/-
  DERIVED. GIVEN WITH THE SEED: THE CARDS: each row of YtblbopcaflaldaaGreatDoorRows.lean that lists a variable, with what it lists TIED to the program's text (the seventh form; the later family's looks); each row that meets fmt, with fmt's text TOLD by the authors' own Lean function (tested against real Go, not proved from fmt's source: count such statements apart). THE CARD IS WHAT COUNTS. Prove the row's statement (the work); the ties are given (YtblbopcaflaldaaGreatDoorTie.lean); close each card by the builder's one call (the guide's Derived/Test/ToyasCard.lean, 'card_holds'). Laid BY PROGRAM, IN A SANDBOX (cutbox-door.mjs). By AI agents, Wed Nov 11 2026. No macro, syntax, notation, axiom, sorry.
-/
import Derived.Test.YtblbopcaflaldaaGreatDoorRows
import GoSem.ClaimSeven
namespace Go.Proofs.YtblbopcaflaldaaGreatDoor
namespace Rows

/-- THE TIED CARD OF 'drydocklaw11.ModelsPut'. -/
def modelsPutCard : Claim7 := { stood := { row := modelsPutRow, standIns := [], harness := (true, "339cb06303f4fb3caa7f7332b200a530f232afd8be97a6eeaafabf058d1c6c2d"), looks := true }, kinds := [], alts := [], laidByText := true, laidKinds := [.data, .data, .data], laidTests := true, laidLooks := .later }
def ModelsPutCardSaid : Prop := Claim7.holds Tryz.pinned (.plain (OpenSpec.ofChange modelsPutSpec)) modelsPutCard

/-- THE TIED CARD OF 'drydocklaw11.ModelsText'. -/
def modelsTextCard : Claim7 := { stood := { row := modelsTextRow, standIns := [], harness := (true, "339cb06303f4fb3caa7f7332b200a530f232afd8be97a6eeaafabf058d1c6c2d"), looks := true }, kinds := [], alts := [], laidByText := true, laidKinds := [.data, .data, .data, .data, .sentinel, .sentinel, .pinned], laidTests := true, laidLooks := .later }
def ModelsTextCardSaid : Prop := Claim7.holds Tryz.pinned (.plain (OpenSpec.ofChange modelsTextSpec)) modelsTextCard

/-- THE TIED CARD OF 'drydocklaw11.ModelsLines'. -/
def modelsLinesCard : Claim7 := { stood := { row := modelsLinesRow, standIns := [], harness := (true, "339cb06303f4fb3caa7f7332b200a530f232afd8be97a6eeaafabf058d1c6c2d"), looks := true }, kinds := [], alts := [], laidByText := true, laidKinds := [.data, .data, .data, .data, .sentinel, .sentinel, .pinned], laidTests := true, laidLooks := .later }
def ModelsLinesCardSaid : Prop := Claim7.holds Tryz.pinned (.plain (OpenSpec.ofChange modelsLinesSpec)) modelsLinesCard

/-- THE TIED CARD OF 'drydocklaw11.ModelsBack'. -/
def modelsBackCard : Claim7 := { stood := { row := modelsBackRow, standIns := [], harness := (true, "339cb06303f4fb3caa7f7332b200a530f232afd8be97a6eeaafabf058d1c6c2d"), looks := true }, kinds := [], alts := [], laidByText := true, laidKinds := [.data, .data, .data, .data, .sentinel, .sentinel, .pinned], laidTests := true, laidLooks := .later }
def ModelsBackCardSaid : Prop := Claim7.holds Tryz.pinned (.plain (OpenSpec.ofChange modelsBackSpec)) modelsBackCard

/-- THE TIED CARD OF 'drydocklaw11.ModelsTurned'. -/
def modelsTurnedCard : Claim7 := { stood := { row := modelsTurnedRow, standIns := [], harness := (true, "339cb06303f4fb3caa7f7332b200a530f232afd8be97a6eeaafabf058d1c6c2d"), looks := true }, kinds := [], alts := [], laidByText := true, laidKinds := [.data, .data, .data, .data, .sentinel, .sentinel, .pinned], laidTests := true, laidLooks := .later }
def ModelsTurnedCardSaid : Prop := Claim7.holds Tryz.pinned (.plain (OpenSpec.ofChange modelsTurnedSpec)) modelsTurnedCard

/-- THE TIED CARD OF 'drydocklaw11.ModelsUnlike'. -/
def modelsUnlikeCard : Claim7 := { stood := { row := modelsUnlikeRow, standIns := [], harness := (true, "339cb06303f4fb3caa7f7332b200a530f232afd8be97a6eeaafabf058d1c6c2d"), looks := true }, kinds := [], alts := [], laidByText := true, laidKinds := [.data, .data, .data, .data, .sentinel, .sentinel, .pinned], laidTests := true, laidLooks := .later }
def ModelsUnlikeCardSaid : Prop := Claim7.holds Tryz.pinned (.plain (OpenSpec.ofChange modelsUnlikeSpec)) modelsUnlikeCard

/-- THE SECOND FORM's CARD OF 'drydocklaw11.ModelsPut'. -/
def modelsPutUptoCard : Claim7 := { stood := { row := modelsPutUptoRow, standIns := [], harness := (true, "339cb06303f4fb3caa7f7332b200a530f232afd8be97a6eeaafabf058d1c6c2d"), looks := true }, kinds := [], alts := [], laidByText := true, laidKinds := [.data, .data, .data], laidTests := true, laidLooks := .later }
def ModelsPutUptoCardSaid : Prop := Claim7.holds Tryz.pinned (.plain (OpenSpec.upto modelsPutSpec)) modelsPutUptoCard

/-- THE SECOND FORM's CARD OF 'drydocklaw11.ModelsText'. -/
def modelsTextUptoCard : Claim7 := { stood := { row := modelsTextUptoRow, standIns := [], harness := (true, "339cb06303f4fb3caa7f7332b200a530f232afd8be97a6eeaafabf058d1c6c2d"), looks := true }, kinds := [], alts := [], laidByText := true, laidKinds := [.data, .data, .data, .data, .sentinel, .sentinel, .pinned], laidTests := true, laidLooks := .later }
def ModelsTextUptoCardSaid : Prop := Claim7.holds Tryz.pinned (.plain (OpenSpec.upto modelsTextSpec)) modelsTextUptoCard

/-- THE SECOND FORM's CARD OF 'drydocklaw11.ModelsLines'. -/
def modelsLinesUptoCard : Claim7 := { stood := { row := modelsLinesUptoRow, standIns := [], harness := (true, "339cb06303f4fb3caa7f7332b200a530f232afd8be97a6eeaafabf058d1c6c2d"), looks := true }, kinds := [], alts := [], laidByText := true, laidKinds := [.data, .data, .data, .data, .sentinel, .sentinel, .pinned], laidTests := true, laidLooks := .later }
def ModelsLinesUptoCardSaid : Prop := Claim7.holds Tryz.pinned (.plain (OpenSpec.upto modelsLinesSpec)) modelsLinesUptoCard

/-- THE SECOND FORM's CARD OF 'drydocklaw11.ModelsBack'. -/
def modelsBackUptoCard : Claim7 := { stood := { row := modelsBackUptoRow, standIns := [], harness := (true, "339cb06303f4fb3caa7f7332b200a530f232afd8be97a6eeaafabf058d1c6c2d"), looks := true }, kinds := [], alts := [], laidByText := true, laidKinds := [.data, .data, .data, .data, .sentinel, .sentinel, .pinned], laidTests := true, laidLooks := .later }
def ModelsBackUptoCardSaid : Prop := Claim7.holds Tryz.pinned (.plain (OpenSpec.upto modelsBackSpec)) modelsBackUptoCard

/-- THE SECOND FORM's CARD OF 'drydocklaw11.ModelsTurned'. -/
def modelsTurnedUptoCard : Claim7 := { stood := { row := modelsTurnedUptoRow, standIns := [], harness := (true, "339cb06303f4fb3caa7f7332b200a530f232afd8be97a6eeaafabf058d1c6c2d"), looks := true }, kinds := [], alts := [], laidByText := true, laidKinds := [.data, .data, .data, .data, .sentinel, .sentinel, .pinned], laidTests := true, laidLooks := .later }
def ModelsTurnedUptoCardSaid : Prop := Claim7.holds Tryz.pinned (.plain (OpenSpec.upto modelsTurnedSpec)) modelsTurnedUptoCard

/-- THE SECOND FORM's CARD OF 'drydocklaw11.ModelsUnlike'. -/
def modelsUnlikeUptoCard : Claim7 := { stood := { row := modelsUnlikeUptoRow, standIns := [], harness := (true, "339cb06303f4fb3caa7f7332b200a530f232afd8be97a6eeaafabf058d1c6c2d"), looks := true }, kinds := [], alts := [], laidByText := true, laidKinds := [.data, .data, .data, .data, .sentinel, .sentinel, .pinned], laidTests := true, laidLooks := .later }
def ModelsUnlikeUptoCardSaid : Prop := Claim7.holds Tryz.pinned (.plain (OpenSpec.upto modelsUnlikeSpec)) modelsUnlikeUptoCard
end Rows
end Go.Proofs.YtblbopcaflaldaaGreatDoor
