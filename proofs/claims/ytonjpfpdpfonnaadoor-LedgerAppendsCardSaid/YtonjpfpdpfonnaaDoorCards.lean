/-
  DERIVED. GIVEN WITH THE SEED: THE CARDS: each row of YtonjpfpdpfonnaaDoorRows.lean that lists a variable, with what it lists TIED to the program's text (the seventh form; the later family's looks); each row that meets fmt, with fmt's text TOLD by the authors' own Lean function (tested against real Go, not proved from fmt's source: count such statements apart). THE CARD IS WHAT COUNTS. Prove the row's statement (the work); the ties are given (YtonjpfpdpfonnaaDoorTie.lean); close each card by the builder's one call (the guide's Derived/Test/ToyasCard.lean, 'card_holds'). Laid BY PROGRAM, IN A SANDBOX (cutbox-door.mjs). By AI agents, Wed Nov 11 2026. No macro, syntax, notation, axiom, sorry.
-/
import Derived.Test.YtonjpfpdpfonnaaDoorRows
import GoSem.ClaimSeven
namespace Go.Proofs.YtonjpfpdpfonnaaDoor
namespace Rows

/-- THE TIED CARD OF 'bandplanlaw43.LedgerProves'. -/
def ledgerProvesCard : Claim7 := { stood := { row := ledgerProvesRow, standIns := [], harness := (true, "2cfb9f8629387f9011786ccc2a3848fb2995ecf199c1e0adf733361e0f2af099"), looks := true }, kinds := [], alts := [], laidByText := true, laidKinds := [.data, .data], laidTests := true, laidLooks := .later }
def LedgerProvesCardSaid : Prop := Claim7.holds Tryd.pinned (.plain (OpenSpec.ofChange ledgerProvesSpec)) ledgerProvesCard

/-- THE TIED CARD OF 'bandplanlaw43.LedgerAppends'. -/
def ledgerAppendsCard : Claim7 := { stood := { row := ledgerAppendsRow, standIns := [], harness := (true, "2cfb9f8629387f9011786ccc2a3848fb2995ecf199c1e0adf733361e0f2af099"), looks := true }, kinds := [], alts := [], laidByText := true, laidKinds := [.data, .data], laidTests := true, laidLooks := .later }
def LedgerAppendsCardSaid : Prop := Claim7.holds Tryd.pinned (.plain (OpenSpec.ofChange ledgerAppendsSpec)) ledgerAppendsCard

/-- THE TIED CARD OF 'bandplanlaw43.LedgerDecodes'. -/
def ledgerDecodesCard : Claim7 := { stood := { row := ledgerDecodesRow, standIns := [], harness := (true, "2cfb9f8629387f9011786ccc2a3848fb2995ecf199c1e0adf733361e0f2af099"), looks := true }, kinds := [], alts := [], laidByText := true, laidKinds := [.data, .data], laidTests := true, laidLooks := .later }
def LedgerDecodesCardSaid : Prop := Claim7.holds Tryd.pinned (.plain (OpenSpec.ofChange ledgerDecodesSpec)) ledgerDecodesCard

/-- THE TIED CARD OF 'bandplanlaw43.LedgerFull'. -/
def ledgerFullCard : Claim7 := { stood := { row := ledgerFullRow, standIns := [], harness := (true, "2cfb9f8629387f9011786ccc2a3848fb2995ecf199c1e0adf733361e0f2af099"), looks := true }, kinds := [], alts := [], laidByText := true, laidKinds := [.data, .data], laidTests := true, laidLooks := .later }
def LedgerFullCardSaid : Prop := Claim7.holds Tryd.pinned (.plain (OpenSpec.ofChange ledgerFullSpec)) ledgerFullCard

/-- THE TIED CARD OF 'bandplanlaw43.LedgerNone'. -/
def ledgerNoneCard : Claim7 := { stood := { row := ledgerNoneRow, standIns := [], harness := (true, "2cfb9f8629387f9011786ccc2a3848fb2995ecf199c1e0adf733361e0f2af099"), looks := true }, kinds := [], alts := [], laidByText := true, laidKinds := [.data, .data], laidTests := true, laidLooks := .later }
def LedgerNoneCardSaid : Prop := Claim7.holds Tryd.pinned (.plain (OpenSpec.ofChange ledgerNoneSpec)) ledgerNoneCard

/-- THE TIED CARD OF 'bandplanlaw43.LedgerRejects'. -/
def ledgerRejectsCard : Claim7 := { stood := { row := ledgerRejectsRow, standIns := [], harness := (true, "2cfb9f8629387f9011786ccc2a3848fb2995ecf199c1e0adf733361e0f2af099"), looks := true }, kinds := [], alts := [], laidByText := true, laidKinds := [.data, .data], laidTests := true, laidLooks := .later }
def LedgerRejectsCardSaid : Prop := Claim7.holds Tryd.pinned (.plain (OpenSpec.ofChange ledgerRejectsSpec)) ledgerRejectsCard

/-- THE TIED CARD OF 'bandplanlaw43.LedgerHolds'. -/
def ledgerHoldsCard : Claim7 := { stood := { row := ledgerHoldsRow, standIns := [], harness := (true, "2cfb9f8629387f9011786ccc2a3848fb2995ecf199c1e0adf733361e0f2af099"), looks := true }, kinds := [], alts := [], laidByText := true, laidKinds := [.data, .data], laidTests := true, laidLooks := .later }
def LedgerHoldsCardSaid : Prop := Claim7.holds Tryd.pinned (.plain (OpenSpec.ofChange ledgerHoldsSpec)) ledgerHoldsCard

/-- THE SECOND FORM's CARD OF 'bandplanlaw43.LedgerProves'. -/
def ledgerProvesUptoCard : Claim7 := { stood := { row := ledgerProvesUptoRow, standIns := [], harness := (true, "2cfb9f8629387f9011786ccc2a3848fb2995ecf199c1e0adf733361e0f2af099"), looks := true }, kinds := [], alts := [], laidByText := true, laidKinds := [.data, .data], laidTests := true, laidLooks := .later }
def LedgerProvesUptoCardSaid : Prop := Claim7.holds Tryd.pinned (.plain (OpenSpec.upto ledgerProvesSpec)) ledgerProvesUptoCard

/-- THE SECOND FORM's CARD OF 'bandplanlaw43.LedgerAppends'. -/
def ledgerAppendsUptoCard : Claim7 := { stood := { row := ledgerAppendsUptoRow, standIns := [], harness := (true, "2cfb9f8629387f9011786ccc2a3848fb2995ecf199c1e0adf733361e0f2af099"), looks := true }, kinds := [], alts := [], laidByText := true, laidKinds := [.data, .data], laidTests := true, laidLooks := .later }
def LedgerAppendsUptoCardSaid : Prop := Claim7.holds Tryd.pinned (.plain (OpenSpec.upto ledgerAppendsSpec)) ledgerAppendsUptoCard

/-- THE SECOND FORM's CARD OF 'bandplanlaw43.LedgerDecodes'. -/
def ledgerDecodesUptoCard : Claim7 := { stood := { row := ledgerDecodesUptoRow, standIns := [], harness := (true, "2cfb9f8629387f9011786ccc2a3848fb2995ecf199c1e0adf733361e0f2af099"), looks := true }, kinds := [], alts := [], laidByText := true, laidKinds := [.data, .data], laidTests := true, laidLooks := .later }
def LedgerDecodesUptoCardSaid : Prop := Claim7.holds Tryd.pinned (.plain (OpenSpec.upto ledgerDecodesSpec)) ledgerDecodesUptoCard

/-- THE SECOND FORM's CARD OF 'bandplanlaw43.LedgerFull'. -/
def ledgerFullUptoCard : Claim7 := { stood := { row := ledgerFullUptoRow, standIns := [], harness := (true, "2cfb9f8629387f9011786ccc2a3848fb2995ecf199c1e0adf733361e0f2af099"), looks := true }, kinds := [], alts := [], laidByText := true, laidKinds := [.data, .data], laidTests := true, laidLooks := .later }
def LedgerFullUptoCardSaid : Prop := Claim7.holds Tryd.pinned (.plain (OpenSpec.upto ledgerFullSpec)) ledgerFullUptoCard

/-- THE SECOND FORM's CARD OF 'bandplanlaw43.LedgerNone'. -/
def ledgerNoneUptoCard : Claim7 := { stood := { row := ledgerNoneUptoRow, standIns := [], harness := (true, "2cfb9f8629387f9011786ccc2a3848fb2995ecf199c1e0adf733361e0f2af099"), looks := true }, kinds := [], alts := [], laidByText := true, laidKinds := [.data, .data], laidTests := true, laidLooks := .later }
def LedgerNoneUptoCardSaid : Prop := Claim7.holds Tryd.pinned (.plain (OpenSpec.upto ledgerNoneSpec)) ledgerNoneUptoCard

/-- THE SECOND FORM's CARD OF 'bandplanlaw43.LedgerRejects'. -/
def ledgerRejectsUptoCard : Claim7 := { stood := { row := ledgerRejectsUptoRow, standIns := [], harness := (true, "2cfb9f8629387f9011786ccc2a3848fb2995ecf199c1e0adf733361e0f2af099"), looks := true }, kinds := [], alts := [], laidByText := true, laidKinds := [.data, .data], laidTests := true, laidLooks := .later }
def LedgerRejectsUptoCardSaid : Prop := Claim7.holds Tryd.pinned (.plain (OpenSpec.upto ledgerRejectsSpec)) ledgerRejectsUptoCard

/-- THE SECOND FORM's CARD OF 'bandplanlaw43.LedgerHolds'. -/
def ledgerHoldsUptoCard : Claim7 := { stood := { row := ledgerHoldsUptoRow, standIns := [], harness := (true, "2cfb9f8629387f9011786ccc2a3848fb2995ecf199c1e0adf733361e0f2af099"), looks := true }, kinds := [], alts := [], laidByText := true, laidKinds := [.data, .data], laidTests := true, laidLooks := .later }
def LedgerHoldsUptoCardSaid : Prop := Claim7.holds Tryd.pinned (.plain (OpenSpec.upto ledgerHoldsSpec)) ledgerHoldsUptoCard
end Rows
end Go.Proofs.YtonjpfpdpfonnaaDoor
