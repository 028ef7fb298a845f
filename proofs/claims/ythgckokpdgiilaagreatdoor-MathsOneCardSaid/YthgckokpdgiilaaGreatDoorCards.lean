/-
  DERIVED. GIVEN WITH THE SEED: THE CARDS: each row of YthgckokpdgiilaaGreatDoorRows.lean that lists a variable, with what it lists TIED to the program's text (the seventh form; the later family's looks); each row that meets fmt, with fmt's text TOLD by the authors' own Lean function (tested against real Go, not proved from fmt's source: count such statements apart). THE CARD IS WHAT COUNTS. Prove the row's statement (the work); the ties are given (YthgckokpdgiilaaGreatDoorTie.lean); close each card by the builder's one call (the guide's Derived/Test/ToyasCard.lean, 'card_holds'). Laid BY PROGRAM, IN A SANDBOX (cutbox-door.mjs). By AI agents, Wed Nov 11 2026. No macro, syntax, notation, axiom, sorry.
-/
import Derived.Test.YthgckokpdgiilaaGreatDoorRows
import GoSem.ClaimSeven
namespace Go.Proofs.YthgckokpdgiilaaGreatDoor
namespace Rows

/-- THE TIED CARD OF 'drydocklaw06.MathsTwo'. -/
def mathsTwoCard : Claim7 := { stood := { row := mathsTwoRow, standIns := [], harness := (true, "737beb89466c23a93984482d4d716b4f97e1012da176a5bf8a950510520d73c8"), looks := false }, kinds := [], alts := [], laidByText := true, laidKinds := [.data, .data, .data], laidTests := true, laidLooks := .later }
def MathsTwoCardSaid : Prop := Claim7.holds Tryz.pinned (.plain (OpenSpec.ofChange mathsTwoSpec)) mathsTwoCard

/-- THE TIED CARD OF 'drydocklaw06.MathsOne'. -/
def mathsOneCard : Claim7 := { stood := { row := mathsOneRow, standIns := [], harness := (true, "737beb89466c23a93984482d4d716b4f97e1012da176a5bf8a950510520d73c8"), looks := false }, kinds := [], alts := [], laidByText := true, laidKinds := [.data, .data, .data], laidTests := true, laidLooks := .later }
def MathsOneCardSaid : Prop := Claim7.holds Tryz.pinned (.plain (OpenSpec.ofChange mathsOneSpec)) mathsOneCard

/-- THE SECOND FORM's CARD OF 'drydocklaw06.MathsTwo'. -/
def mathsTwoUptoCard : Claim7 := { stood := { row := mathsTwoUptoRow, standIns := [], harness := (true, "737beb89466c23a93984482d4d716b4f97e1012da176a5bf8a950510520d73c8"), looks := false }, kinds := [], alts := [], laidByText := true, laidKinds := [.data, .data, .data], laidTests := true, laidLooks := .later }
def MathsTwoUptoCardSaid : Prop := Claim7.holds Tryz.pinned (.plain (OpenSpec.upto mathsTwoSpec)) mathsTwoUptoCard

/-- THE SECOND FORM's CARD OF 'drydocklaw06.MathsOne'. -/
def mathsOneUptoCard : Claim7 := { stood := { row := mathsOneUptoRow, standIns := [], harness := (true, "737beb89466c23a93984482d4d716b4f97e1012da176a5bf8a950510520d73c8"), looks := false }, kinds := [], alts := [], laidByText := true, laidKinds := [.data, .data, .data], laidTests := true, laidLooks := .later }
def MathsOneUptoCardSaid : Prop := Claim7.holds Tryz.pinned (.plain (OpenSpec.upto mathsOneSpec)) mathsOneUptoCard
end Rows
end Go.Proofs.YthgckokpdgiilaaGreatDoor
