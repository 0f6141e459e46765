/-
  DERIVED. GIVEN WITH THE SEED: THE CARDS: each row of YtgokpcnabgacnaaGreatDoorRows.lean that lists a variable, with what it lists TIED to the program's text (the seventh form; the later family's looks); each row that meets fmt, with fmt's text TOLD by the authors' own Lean function (tested against real Go, not proved from fmt's source: count such statements apart). THE CARD IS WHAT COUNTS. Prove the row's statement (the work); the ties are given (YtgokpcnabgacnaaGreatDoorTie.lean); close each card by the builder's one call (the guide's Derived/Test/ToyasCard.lean, 'card_holds'). Laid BY PROGRAM, IN A SANDBOX (cutbox-door.mjs). By AI agents, Wed Nov 11 2026. No macro, syntax, notation, axiom, sorry.
-/
import Derived.Test.YtgokpcnabgacnaaGreatDoorRows
import GoSem.ClaimSeven
namespace Go.Proofs.YtgokpcnabgacnaaGreatDoor
namespace Rows

/-- THE TIED CARD OF 'bandplanlaw44.RoundsSchedules'. -/
def roundsSchedulesCard : Claim7 := { stood := { row := roundsSchedulesRow, standIns := [], harness := (true, "e1d54fce8f485212c40c52716ba907856d7b682b1c73a1681c930c5acd87c82c"), looks := true }, kinds := [], alts := [], laidByText := true, laidKinds := [.data, .data], laidTests := true, laidLooks := .later }
def RoundsSchedulesCardSaid : Prop := Claim7.holds Tryz.pinned (.plain (OpenSpec.ofChange roundsSchedulesSpec)) roundsSchedulesCard

/-- THE TIED CARD OF 'bandplanlaw44.RoundsOver'. -/
def roundsOverCard : Claim7 := { stood := { row := roundsOverRow, standIns := [], harness := (true, "e1d54fce8f485212c40c52716ba907856d7b682b1c73a1681c930c5acd87c82c"), looks := true }, kinds := [], alts := [], laidByText := true, laidKinds := [.data, .data], laidTests := true, laidLooks := .later }
def RoundsOverCardSaid : Prop := Claim7.holds Tryz.pinned (.plain (OpenSpec.ofChange roundsOverSpec)) roundsOverCard

/-- THE TIED CARD OF 'bandplanlaw44.RoundsPlays'. -/
def roundsPlaysCard : Claim7 := { stood := { row := roundsPlaysRow, standIns := [], harness := (true, "e1d54fce8f485212c40c52716ba907856d7b682b1c73a1681c930c5acd87c82c"), looks := true }, kinds := [], alts := [], laidByText := true, laidKinds := [.data, .data], laidTests := true, laidLooks := .later }
def RoundsPlaysCardSaid : Prop := Claim7.holds Tryz.pinned (.plain (OpenSpec.ofChange roundsPlaysSpec)) roundsPlaysCard

/-- THE TIED CARD OF 'bandplanlaw44.RoundsReplays'. -/
def roundsReplaysCard : Claim7 := { stood := { row := roundsReplaysRow, standIns := [], harness := (true, "e1d54fce8f485212c40c52716ba907856d7b682b1c73a1681c930c5acd87c82c"), looks := true }, kinds := [], alts := [], laidByText := true, laidKinds := [.data, .data], laidTests := true, laidLooks := .later }
def RoundsReplaysCardSaid : Prop := Claim7.holds Tryz.pinned (.plain (OpenSpec.ofChange roundsReplaysSpec)) roundsReplaysCard

/-- THE TIED CARD OF 'bandplanlaw44.RoundsHide'. -/
def roundsHideCard : Claim7 := { stood := { row := roundsHideRow, standIns := [], harness := (true, "e1d54fce8f485212c40c52716ba907856d7b682b1c73a1681c930c5acd87c82c"), looks := true }, kinds := [], alts := [], laidByText := true, laidKinds := [.data, .data], laidTests := true, laidLooks := .later }
def RoundsHideCardSaid : Prop := Claim7.holds Tryz.pinned (.plain (OpenSpec.ofChange roundsHideSpec)) roundsHideCard

/-- THE TIED CARD OF 'bandplanlaw44.RoundsNone'. -/
def roundsNoneCard : Claim7 := { stood := { row := roundsNoneRow, standIns := [], harness := (true, "e1d54fce8f485212c40c52716ba907856d7b682b1c73a1681c930c5acd87c82c"), looks := true }, kinds := [], alts := [], laidByText := true, laidKinds := [.data, .data], laidTests := true, laidLooks := .later }
def RoundsNoneCardSaid : Prop := Claim7.holds Tryz.pinned (.plain (OpenSpec.ofChange roundsNoneSpec)) roundsNoneCard

/-- THE SECOND FORM's CARD OF 'bandplanlaw44.RoundsSchedules'. -/
def roundsSchedulesUptoCard : Claim7 := { stood := { row := roundsSchedulesUptoRow, standIns := [], harness := (true, "e1d54fce8f485212c40c52716ba907856d7b682b1c73a1681c930c5acd87c82c"), looks := true }, kinds := [], alts := [], laidByText := true, laidKinds := [.data, .data], laidTests := true, laidLooks := .later }
def RoundsSchedulesUptoCardSaid : Prop := Claim7.holds Tryz.pinned (.plain (OpenSpec.upto roundsSchedulesSpec)) roundsSchedulesUptoCard

/-- THE SECOND FORM's CARD OF 'bandplanlaw44.RoundsOver'. -/
def roundsOverUptoCard : Claim7 := { stood := { row := roundsOverUptoRow, standIns := [], harness := (true, "e1d54fce8f485212c40c52716ba907856d7b682b1c73a1681c930c5acd87c82c"), looks := true }, kinds := [], alts := [], laidByText := true, laidKinds := [.data, .data], laidTests := true, laidLooks := .later }
def RoundsOverUptoCardSaid : Prop := Claim7.holds Tryz.pinned (.plain (OpenSpec.upto roundsOverSpec)) roundsOverUptoCard

/-- THE SECOND FORM's CARD OF 'bandplanlaw44.RoundsPlays'. -/
def roundsPlaysUptoCard : Claim7 := { stood := { row := roundsPlaysUptoRow, standIns := [], harness := (true, "e1d54fce8f485212c40c52716ba907856d7b682b1c73a1681c930c5acd87c82c"), looks := true }, kinds := [], alts := [], laidByText := true, laidKinds := [.data, .data], laidTests := true, laidLooks := .later }
def RoundsPlaysUptoCardSaid : Prop := Claim7.holds Tryz.pinned (.plain (OpenSpec.upto roundsPlaysSpec)) roundsPlaysUptoCard

/-- THE SECOND FORM's CARD OF 'bandplanlaw44.RoundsReplays'. -/
def roundsReplaysUptoCard : Claim7 := { stood := { row := roundsReplaysUptoRow, standIns := [], harness := (true, "e1d54fce8f485212c40c52716ba907856d7b682b1c73a1681c930c5acd87c82c"), looks := true }, kinds := [], alts := [], laidByText := true, laidKinds := [.data, .data], laidTests := true, laidLooks := .later }
def RoundsReplaysUptoCardSaid : Prop := Claim7.holds Tryz.pinned (.plain (OpenSpec.upto roundsReplaysSpec)) roundsReplaysUptoCard

/-- THE SECOND FORM's CARD OF 'bandplanlaw44.RoundsHide'. -/
def roundsHideUptoCard : Claim7 := { stood := { row := roundsHideUptoRow, standIns := [], harness := (true, "e1d54fce8f485212c40c52716ba907856d7b682b1c73a1681c930c5acd87c82c"), looks := true }, kinds := [], alts := [], laidByText := true, laidKinds := [.data, .data], laidTests := true, laidLooks := .later }
def RoundsHideUptoCardSaid : Prop := Claim7.holds Tryz.pinned (.plain (OpenSpec.upto roundsHideSpec)) roundsHideUptoCard

/-- THE SECOND FORM's CARD OF 'bandplanlaw44.RoundsNone'. -/
def roundsNoneUptoCard : Claim7 := { stood := { row := roundsNoneUptoRow, standIns := [], harness := (true, "e1d54fce8f485212c40c52716ba907856d7b682b1c73a1681c930c5acd87c82c"), looks := true }, kinds := [], alts := [], laidByText := true, laidKinds := [.data, .data], laidTests := true, laidLooks := .later }
def RoundsNoneUptoCardSaid : Prop := Claim7.holds Tryz.pinned (.plain (OpenSpec.upto roundsNoneSpec)) roundsNoneUptoCard
end Rows
end Go.Proofs.YtgokpcnabgacnaaGreatDoor
