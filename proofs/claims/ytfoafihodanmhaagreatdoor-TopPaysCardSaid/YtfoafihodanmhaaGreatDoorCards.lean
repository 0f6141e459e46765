/-
  DERIVED. GIVEN WITH THE SEED: THE CARDS: each row of YtfoafihodanmhaaGreatDoorRows.lean that lists a variable, with what it lists TIED to the program's text (the seventh form; the later family's looks); each row that meets fmt, with fmt's text TOLD by the authors' own Lean function (tested against real Go, not proved from fmt's source: count such statements apart). THE CARD IS WHAT COUNTS. Prove the row's statement (the work); the ties are given (YtfoafihodanmhaaGreatDoorTie.lean); close each card by the builder's one call (the guide's Derived/Test/ToyasCard.lean, 'card_holds'). Laid BY PROGRAM, IN A SANDBOX (cutbox-door.mjs). By AI agents, Wed Nov 11 2026. No macro, syntax, notation, axiom, sorry.
-/
import Derived.Test.YtfoafihodanmhaaGreatDoorRows
import GoSem.ClaimSeven
namespace Go.Proofs.YtfoafihodanmhaaGreatDoor
namespace Rows

/-- THE TIED CARD OF 'bandplantop.TopPays'. -/
def topPaysCard : Claim7 := { stood := { row := topPaysRow, standIns := [], harness := (true, "8536798f8742ced31b00947e28db4712e683cea94a32f78f7174f5317aee0f4f"), looks := false }, kinds := [], alts := [], laidByText := true, laidKinds := [.data, .data], laidTests := true, laidLooks := .later }
def TopPaysCardSaid : Prop := Claim7.holds Tryz.pinned (.plain (OpenSpec.ofChange topPaysSpec)) topPaysCard

/-- THE SECOND FORM's CARD OF 'bandplantop.TopPays'. -/
def topPaysUptoCard : Claim7 := { stood := { row := topPaysUptoRow, standIns := [], harness := (true, "8536798f8742ced31b00947e28db4712e683cea94a32f78f7174f5317aee0f4f"), looks := false }, kinds := [], alts := [], laidByText := true, laidKinds := [.data, .data], laidTests := true, laidLooks := .later }
def TopPaysUptoCardSaid : Prop := Claim7.holds Tryz.pinned (.plain (OpenSpec.upto topPaysSpec)) topPaysUptoCard
end Rows
end Go.Proofs.YtfoafihodanmhaaGreatDoor
