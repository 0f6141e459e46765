/-
  DERIVED. GIVEN WITH THE SEED: THE CARDS: each row of YtgcnpnbgjejkaaaDoorRows.lean that lists a variable, with what it lists TIED to the program's text (the seventh form; the later family's looks); each row that meets fmt, with fmt's text TOLD by the authors' own Lean function (tested against real Go, not proved from fmt's source: count such statements apart). THE CARD IS WHAT COUNTS. Prove the row's statement (the work); the ties are given (YtgcnpnbgjejkaaaDoorTie.lean); close each card by the builder's one call (the guide's Derived/Test/ToyasCard.lean, 'card_holds'). Laid BY PROGRAM, IN A SANDBOX (cutbox-door.mjs). By AI agents, Wed Nov 11 2026. No macro, syntax, notation, axiom, sorry.
-/
import Derived.Test.YtgcnpnbgjejkaaaDoorRows
import GoSem.ClaimSeven
namespace Go.Proofs.YtgcnpnbgjejkaaaDoor
namespace Rows

/-- THE TIED CARD OF 'bandplanlaw41.AccountTags'. -/
def accountTagsCard : Claim7 := { stood := { row := accountTagsRow, standIns := [], harness := (true, "0676e2366be91c519b4cbc3fc42724cd3c588d23a78e7364442dcd2c812ea3bb"), looks := true }, kinds := [], alts := [], laidByText := true, laidKinds := [.data, .data], laidTests := true, laidLooks := .later }
def AccountTagsCardSaid : Prop := Claim7.holds Tryd.pinned (.plain (OpenSpec.ofChange accountTagsSpec)) accountTagsCard

/-- THE TIED CARD OF 'bandplanlaw41.AccountNone'. -/
def accountNoneCard : Claim7 := { stood := { row := accountNoneRow, standIns := [], harness := (true, "0676e2366be91c519b4cbc3fc42724cd3c588d23a78e7364442dcd2c812ea3bb"), looks := true }, kinds := [], alts := [], laidByText := true, laidKinds := [.data, .data], laidTests := true, laidLooks := .later }
def AccountNoneCardSaid : Prop := Claim7.holds Tryd.pinned (.plain (OpenSpec.ofChange accountNoneSpec)) accountNoneCard

/-- THE TIED CARD OF 'bandplanlaw41.AccountHolds'. -/
def accountHoldsCard : Claim7 := { stood := { row := accountHoldsRow, standIns := [], harness := (true, "0676e2366be91c519b4cbc3fc42724cd3c588d23a78e7364442dcd2c812ea3bb"), looks := true }, kinds := [], alts := [], laidByText := true, laidKinds := [.data, .data], laidTests := true, laidLooks := .later }
def AccountHoldsCardSaid : Prop := Claim7.holds Tryd.pinned (.plain (OpenSpec.ofChange accountHoldsSpec)) accountHoldsCard

/-- THE SECOND FORM's CARD OF 'bandplanlaw41.AccountTags'. -/
def accountTagsUptoCard : Claim7 := { stood := { row := accountTagsUptoRow, standIns := [], harness := (true, "0676e2366be91c519b4cbc3fc42724cd3c588d23a78e7364442dcd2c812ea3bb"), looks := true }, kinds := [], alts := [], laidByText := true, laidKinds := [.data, .data], laidTests := true, laidLooks := .later }
def AccountTagsUptoCardSaid : Prop := Claim7.holds Tryd.pinned (.plain (OpenSpec.upto accountTagsSpec)) accountTagsUptoCard

/-- THE SECOND FORM's CARD OF 'bandplanlaw41.AccountNone'. -/
def accountNoneUptoCard : Claim7 := { stood := { row := accountNoneUptoRow, standIns := [], harness := (true, "0676e2366be91c519b4cbc3fc42724cd3c588d23a78e7364442dcd2c812ea3bb"), looks := true }, kinds := [], alts := [], laidByText := true, laidKinds := [.data, .data], laidTests := true, laidLooks := .later }
def AccountNoneUptoCardSaid : Prop := Claim7.holds Tryd.pinned (.plain (OpenSpec.upto accountNoneSpec)) accountNoneUptoCard

/-- THE SECOND FORM's CARD OF 'bandplanlaw41.AccountHolds'. -/
def accountHoldsUptoCard : Claim7 := { stood := { row := accountHoldsUptoRow, standIns := [], harness := (true, "0676e2366be91c519b4cbc3fc42724cd3c588d23a78e7364442dcd2c812ea3bb"), looks := true }, kinds := [], alts := [], laidByText := true, laidKinds := [.data, .data], laidTests := true, laidLooks := .later }
def AccountHoldsUptoCardSaid : Prop := Claim7.holds Tryd.pinned (.plain (OpenSpec.upto accountHoldsSpec)) accountHoldsUptoCard
end Rows
end Go.Proofs.YtgcnpnbgjejkaaaDoor
