/-
  DERIVED. GIVEN WITH THE SEED: THE CARDS: each row of YtchbgfgboogniaaDoorRows.lean that lists a variable, with what it lists TIED to the program's text (the seventh form; the later family's looks); each row that meets fmt, with fmt's text TOLD by the authors' own Lean function (tested against real Go, not proved from fmt's source: count such statements apart). THE CARD IS WHAT COUNTS. Prove the row's statement (the work); the ties are given (YtchbgfgboogniaaDoorTie.lean); close each card by the builder's one call (the guide's Derived/Test/ToyasCard.lean, 'card_holds'). Laid BY PROGRAM, IN A SANDBOX (cutbox-door.mjs). By AI agents, Wed Nov 11 2026. No macro, syntax, notation, axiom, sorry.
-/
import Derived.Test.YtchbgfgboogniaaDoorRows
import GoSem.ClaimSeven
namespace Go.Proofs.YtchbgfgboogniaaDoor
namespace Rows

/-- THE TIED CARD OF 'bandplanlaw41.AccountHolds'. -/
def accountHoldsCard : Claim7 := { stood := { row := accountHoldsRow, standIns := [], harness := (true, "2f9ae974fd05e0477fc26dc70e693f91350d0aae99044bc0e85452c479802397"), looks := true }, kinds := [], alts := [], laidByText := true, laidKinds := [.data, .data], laidTests := true, laidLooks := .later }
def AccountHoldsCardSaid : Prop := Claim7.holds Tryd.pinned (.plain (OpenSpec.ofChange accountHoldsSpec)) accountHoldsCard

/-- THE TIED CARD OF 'bandplanlaw42.EnvelopeOpens'. -/
def envelopeOpensCard : Claim7 := { stood := { row := envelopeOpensRow, standIns := [], harness := (true, "2f9ae974fd05e0477fc26dc70e693f91350d0aae99044bc0e85452c479802397"), looks := true }, kinds := [], alts := [], laidByText := true, laidKinds := [.data, .data], laidTests := true, laidLooks := .later }
def EnvelopeOpensCardSaid : Prop := Claim7.holds Tryd.pinned (.plain (OpenSpec.ofChange envelopeOpensSpec)) envelopeOpensCard

/-- THE TIED CARD OF 'bandplanlaw42.EnvelopeNone'. -/
def envelopeNoneCard : Claim7 := { stood := { row := envelopeNoneRow, standIns := [], harness := (true, "2f9ae974fd05e0477fc26dc70e693f91350d0aae99044bc0e85452c479802397"), looks := true }, kinds := [], alts := [], laidByText := true, laidKinds := [.data, .data], laidTests := true, laidLooks := .later }
def EnvelopeNoneCardSaid : Prop := Claim7.holds Tryd.pinned (.plain (OpenSpec.ofChange envelopeNoneSpec)) envelopeNoneCard

/-- THE TIED CARD OF 'bandplanlaw42.EnvelopeValid'. -/
def envelopeValidCard : Claim7 := { stood := { row := envelopeValidRow, standIns := [], harness := (true, "2f9ae974fd05e0477fc26dc70e693f91350d0aae99044bc0e85452c479802397"), looks := true }, kinds := [], alts := [], laidByText := true, laidKinds := [.data, .data], laidTests := true, laidLooks := .later }
def EnvelopeValidCardSaid : Prop := Claim7.holds Tryd.pinned (.plain (OpenSpec.ofChange envelopeValidSpec)) envelopeValidCard

/-- THE TIED CARD OF 'bandplanlaw42.EnvelopeSeals'. -/
def envelopeSealsCard : Claim7 := { stood := { row := envelopeSealsRow, standIns := [], harness := (true, "2f9ae974fd05e0477fc26dc70e693f91350d0aae99044bc0e85452c479802397"), looks := true }, kinds := [], alts := [], laidByText := true, laidKinds := [.data, .data], laidTests := true, laidLooks := .later }
def EnvelopeSealsCardSaid : Prop := Claim7.holds Tryd.pinned (.plain (OpenSpec.ofChange envelopeSealsSpec)) envelopeSealsCard

/-- THE TIED CARD OF 'bandplanlaw42.EnvelopeDecodes'. -/
def envelopeDecodesCard : Claim7 := { stood := { row := envelopeDecodesRow, standIns := [], harness := (true, "2f9ae974fd05e0477fc26dc70e693f91350d0aae99044bc0e85452c479802397"), looks := true }, kinds := [], alts := [], laidByText := true, laidKinds := [.data, .data], laidTests := true, laidLooks := .later }
def EnvelopeDecodesCardSaid : Prop := Claim7.holds Tryd.pinned (.plain (OpenSpec.ofChange envelopeDecodesSpec)) envelopeDecodesCard

/-- THE TIED CARD OF 'bandplanlaw42.EnvelopeHides'. -/
def envelopeHidesCard : Claim7 := { stood := { row := envelopeHidesRow, standIns := [], harness := (true, "2f9ae974fd05e0477fc26dc70e693f91350d0aae99044bc0e85452c479802397"), looks := true }, kinds := [], alts := [], laidByText := true, laidKinds := [.data, .data], laidTests := true, laidLooks := .later }
def EnvelopeHidesCardSaid : Prop := Claim7.holds Tryd.pinned (.plain (OpenSpec.ofChange envelopeHidesSpec)) envelopeHidesCard

/-- THE SECOND FORM's CARD OF 'bandplanlaw41.AccountHolds'. -/
def accountHoldsUptoCard : Claim7 := { stood := { row := accountHoldsUptoRow, standIns := [], harness := (true, "2f9ae974fd05e0477fc26dc70e693f91350d0aae99044bc0e85452c479802397"), looks := true }, kinds := [], alts := [], laidByText := true, laidKinds := [.data, .data], laidTests := true, laidLooks := .later }
def AccountHoldsUptoCardSaid : Prop := Claim7.holds Tryd.pinned (.plain (OpenSpec.upto accountHoldsSpec)) accountHoldsUptoCard

/-- THE SECOND FORM's CARD OF 'bandplanlaw42.EnvelopeOpens'. -/
def envelopeOpensUptoCard : Claim7 := { stood := { row := envelopeOpensUptoRow, standIns := [], harness := (true, "2f9ae974fd05e0477fc26dc70e693f91350d0aae99044bc0e85452c479802397"), looks := true }, kinds := [], alts := [], laidByText := true, laidKinds := [.data, .data], laidTests := true, laidLooks := .later }
def EnvelopeOpensUptoCardSaid : Prop := Claim7.holds Tryd.pinned (.plain (OpenSpec.upto envelopeOpensSpec)) envelopeOpensUptoCard

/-- THE SECOND FORM's CARD OF 'bandplanlaw42.EnvelopeNone'. -/
def envelopeNoneUptoCard : Claim7 := { stood := { row := envelopeNoneUptoRow, standIns := [], harness := (true, "2f9ae974fd05e0477fc26dc70e693f91350d0aae99044bc0e85452c479802397"), looks := true }, kinds := [], alts := [], laidByText := true, laidKinds := [.data, .data], laidTests := true, laidLooks := .later }
def EnvelopeNoneUptoCardSaid : Prop := Claim7.holds Tryd.pinned (.plain (OpenSpec.upto envelopeNoneSpec)) envelopeNoneUptoCard

/-- THE SECOND FORM's CARD OF 'bandplanlaw42.EnvelopeValid'. -/
def envelopeValidUptoCard : Claim7 := { stood := { row := envelopeValidUptoRow, standIns := [], harness := (true, "2f9ae974fd05e0477fc26dc70e693f91350d0aae99044bc0e85452c479802397"), looks := true }, kinds := [], alts := [], laidByText := true, laidKinds := [.data, .data], laidTests := true, laidLooks := .later }
def EnvelopeValidUptoCardSaid : Prop := Claim7.holds Tryd.pinned (.plain (OpenSpec.upto envelopeValidSpec)) envelopeValidUptoCard

/-- THE SECOND FORM's CARD OF 'bandplanlaw42.EnvelopeSeals'. -/
def envelopeSealsUptoCard : Claim7 := { stood := { row := envelopeSealsUptoRow, standIns := [], harness := (true, "2f9ae974fd05e0477fc26dc70e693f91350d0aae99044bc0e85452c479802397"), looks := true }, kinds := [], alts := [], laidByText := true, laidKinds := [.data, .data], laidTests := true, laidLooks := .later }
def EnvelopeSealsUptoCardSaid : Prop := Claim7.holds Tryd.pinned (.plain (OpenSpec.upto envelopeSealsSpec)) envelopeSealsUptoCard

/-- THE SECOND FORM's CARD OF 'bandplanlaw42.EnvelopeDecodes'. -/
def envelopeDecodesUptoCard : Claim7 := { stood := { row := envelopeDecodesUptoRow, standIns := [], harness := (true, "2f9ae974fd05e0477fc26dc70e693f91350d0aae99044bc0e85452c479802397"), looks := true }, kinds := [], alts := [], laidByText := true, laidKinds := [.data, .data], laidTests := true, laidLooks := .later }
def EnvelopeDecodesUptoCardSaid : Prop := Claim7.holds Tryd.pinned (.plain (OpenSpec.upto envelopeDecodesSpec)) envelopeDecodesUptoCard

/-- THE SECOND FORM's CARD OF 'bandplanlaw42.EnvelopeHides'. -/
def envelopeHidesUptoCard : Claim7 := { stood := { row := envelopeHidesUptoRow, standIns := [], harness := (true, "2f9ae974fd05e0477fc26dc70e693f91350d0aae99044bc0e85452c479802397"), looks := true }, kinds := [], alts := [], laidByText := true, laidKinds := [.data, .data], laidTests := true, laidLooks := .later }
def EnvelopeHidesUptoCardSaid : Prop := Claim7.holds Tryd.pinned (.plain (OpenSpec.upto envelopeHidesSpec)) envelopeHidesUptoCard
end Rows
end Go.Proofs.YtchbgfgboogniaaDoor
