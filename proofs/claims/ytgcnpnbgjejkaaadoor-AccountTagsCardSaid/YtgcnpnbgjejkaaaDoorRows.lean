/-
  NARROWER THAN 'FOR EVERY INPUT', by the rows' own cells (each row's printed sentence says how): AccountTags: laid · AccountNone: laid · AccountHolds: laid.
  DERIVED. THE GIVEN ROWS OF THIS SEAT. 3 by the template 'for every input the law returns true; each argument reads behind the call as it read before'; 0 by the template 'total and deterministic' (their statements: YtgcnpnbgjejkaaaDoorTotals.lean).
  GIVEN WITH THE SEED: the statements are not yours to turn. If you find one false, say at which input.
  Laid BY PROGRAM, IN A SANDBOX (cutbox-rows.mjs): the forced cells as the released guide's own fill.sh prints them over the translation 7bcaef8609687262… (all of the seat's roots in one cut). By AI agents, Wed Nov 11 2026. No macro, syntax, notation, axiom, sorry.
-/
import Derived.Test.YtgcnpnbgjejkaaaDoorChecked
import GoSem.Claim
import GoSem.ClaimJoined
import GoSem.ClaimMapViews
import Derived.JoinedTies
import Derived.KernelRfl
namespace Go.Proofs.YtgcnpnbgjejkaaaDoor
/- THE CELL 'sum', in the pinned program and in every row, IS THE sha256 OF THE DUMP (.gsa) THAT YtgcnpnbgjejkaaaDoorProg.lean LOADS. Nothing in Lean hashes anything: it is a label: what it is worth is what the hold of that sum in a sandbox is worth. -/
noncomputable def Tryd.pinned : Pinned := { name := "ytgcnpnbgjejkaaadoor", sum := "7bcaef860968726251c0d63112c4b50387d7f788dc95c94de47cd6f2fe98dfc6", checked := Tryd.checked }
namespace Rows
def none {H : Type} : Left H := { results := [], args := [] }

/- WHAT THE LISTED PACKAGE-LEVEL VARIABLES READ AS WHEN THE CALL BEGINS. Each datum BY PROGRAM (the guide's laid-datum.mjs) off the statement by which the dump's own 'gosem.cut.vars' lays the variable. In a bare row this is a premise. The card (YtgcnpnbgjejkaaaDoorCards.lean) ties it to the program's text. -/
def laid_bandplan_blake_order {H : Type} : DataW H := .agg [.agg [.lit (.int .u8 0), .lit (.int .u8 1), .lit (.int .u8 2), .lit (.int .u8 3), .lit (.int .u8 4), .lit (.int .u8 5), .lit (.int .u8 6), .lit (.int .u8 7), .lit (.int .u8 8), .lit (.int .u8 9), .lit (.int .u8 10), .lit (.int .u8 11), .lit (.int .u8 12), .lit (.int .u8 13), .lit (.int .u8 14), .lit (.int .u8 15)], .agg [.lit (.int .u8 14), .lit (.int .u8 10), .lit (.int .u8 4), .lit (.int .u8 8), .lit (.int .u8 9), .lit (.int .u8 15), .lit (.int .u8 13), .lit (.int .u8 6), .lit (.int .u8 1), .lit (.int .u8 12), .lit (.int .u8 0), .lit (.int .u8 2), .lit (.int .u8 11), .lit (.int .u8 7), .lit (.int .u8 5), .lit (.int .u8 3)], .agg [.lit (.int .u8 11), .lit (.int .u8 8), .lit (.int .u8 12), .lit (.int .u8 0), .lit (.int .u8 5), .lit (.int .u8 2), .lit (.int .u8 15), .lit (.int .u8 13), .lit (.int .u8 10), .lit (.int .u8 14), .lit (.int .u8 3), .lit (.int .u8 6), .lit (.int .u8 7), .lit (.int .u8 1), .lit (.int .u8 9), .lit (.int .u8 4)], .agg [.lit (.int .u8 7), .lit (.int .u8 9), .lit (.int .u8 3), .lit (.int .u8 1), .lit (.int .u8 13), .lit (.int .u8 12), .lit (.int .u8 11), .lit (.int .u8 14), .lit (.int .u8 2), .lit (.int .u8 6), .lit (.int .u8 5), .lit (.int .u8 10), .lit (.int .u8 4), .lit (.int .u8 0), .lit (.int .u8 15), .lit (.int .u8 8)], .agg [.lit (.int .u8 9), .lit (.int .u8 0), .lit (.int .u8 5), .lit (.int .u8 7), .lit (.int .u8 2), .lit (.int .u8 4), .lit (.int .u8 10), .lit (.int .u8 15), .lit (.int .u8 14), .lit (.int .u8 1), .lit (.int .u8 11), .lit (.int .u8 12), .lit (.int .u8 6), .lit (.int .u8 8), .lit (.int .u8 3), .lit (.int .u8 13)], .agg [.lit (.int .u8 2), .lit (.int .u8 12), .lit (.int .u8 6), .lit (.int .u8 10), .lit (.int .u8 0), .lit (.int .u8 11), .lit (.int .u8 8), .lit (.int .u8 3), .lit (.int .u8 4), .lit (.int .u8 13), .lit (.int .u8 7), .lit (.int .u8 5), .lit (.int .u8 15), .lit (.int .u8 14), .lit (.int .u8 1), .lit (.int .u8 9)], .agg [.lit (.int .u8 12), .lit (.int .u8 5), .lit (.int .u8 1), .lit (.int .u8 15), .lit (.int .u8 14), .lit (.int .u8 13), .lit (.int .u8 4), .lit (.int .u8 10), .lit (.int .u8 0), .lit (.int .u8 7), .lit (.int .u8 6), .lit (.int .u8 3), .lit (.int .u8 9), .lit (.int .u8 2), .lit (.int .u8 8), .lit (.int .u8 11)], .agg [.lit (.int .u8 13), .lit (.int .u8 11), .lit (.int .u8 7), .lit (.int .u8 14), .lit (.int .u8 12), .lit (.int .u8 1), .lit (.int .u8 3), .lit (.int .u8 9), .lit (.int .u8 5), .lit (.int .u8 0), .lit (.int .u8 15), .lit (.int .u8 4), .lit (.int .u8 8), .lit (.int .u8 6), .lit (.int .u8 2), .lit (.int .u8 10)], .agg [.lit (.int .u8 6), .lit (.int .u8 15), .lit (.int .u8 14), .lit (.int .u8 9), .lit (.int .u8 11), .lit (.int .u8 3), .lit (.int .u8 0), .lit (.int .u8 8), .lit (.int .u8 12), .lit (.int .u8 2), .lit (.int .u8 13), .lit (.int .u8 7), .lit (.int .u8 1), .lit (.int .u8 4), .lit (.int .u8 10), .lit (.int .u8 5)], .agg [.lit (.int .u8 10), .lit (.int .u8 2), .lit (.int .u8 8), .lit (.int .u8 4), .lit (.int .u8 7), .lit (.int .u8 6), .lit (.int .u8 1), .lit (.int .u8 5), .lit (.int .u8 15), .lit (.int .u8 11), .lit (.int .u8 9), .lit (.int .u8 14), .lit (.int .u8 3), .lit (.int .u8 12), .lit (.int .u8 13), .lit (.int .u8 0)]]
def laid_bandplan_blake_initial {H : Type} : DataW H := .agg [.lit (.int .u32 1779033703), .lit (.int .u32 3144134277), .lit (.int .u32 1013904242), .lit (.int .u32 2773480762), .lit (.int .u32 1359893119), .lit (.int .u32 2600822924), .lit (.int .u32 528734635), .lit (.int .u32 1541459225)]

/-- 'bandplanlaw41.AccountTags': WHATEVER THE INPUT: true; the input reads as it did. -/
def accountTagsSpec : ChangeSpec := { name := "accountTags", fn := fun _ => fun
  | [d1, d2, d3, d4, d5, d6] => { results := [.lit (.bool true)], args := [d1, d2, d3, d4, d5, d6] }
  | _ => none }
def accountTagsRow : OpenClaim := { program := "ytgcnpnbgjejkaaadoor", sum := "7bcaef860968726251c0d63112c4b50387d7f788dc95c94de47cd6f2fe98dfc6", func := "bandplan/bandplanlaw41.AccountTags", spec := "accountTags", inPlace := ["slices.overlaps[string]"], unfollowed := true, recurses := true, named := ["bandplan/blake.initial", "bandplan/blake.order"], plainKeys := false, apart := false, laid := [("bandplan/blake.order", laid_bandplan_blake_order), ("bandplan/blake.initial", laid_bandplan_blake_initial)] }
def AccountTagsSaid : Prop := accountTagsRow.holds Tryd.pinned (OpenSpec.ofChange accountTagsSpec)

/-- ITS FALSE NEIGHBOUR: 'it returns false'. Refute it at one input. -/
def accountTagsWrong : ChangeSpec := { name := "accountTags", fn := fun _ => fun
  | [d1, d2, d3, d4, d5, d6] => { results := [.lit (.bool false)], args := [d1, d2, d3, d4, d5, d6] }
  | _ => none }
def AccountTagsWrongFalsely : Prop := accountTagsRow.holds Tryd.pinned (OpenSpec.ofChange accountTagsWrong)

/-- 'bandplanlaw41.AccountNone': WHATEVER THE INPUT: true; the input reads as it did. -/
def accountNoneSpec : ChangeSpec := { name := "accountNone", fn := fun _ => fun
  | [d1, d2] => { results := [.lit (.bool true)], args := [d1, d2] }
  | _ => none }
def accountNoneRow : OpenClaim := { program := "ytgcnpnbgjejkaaadoor", sum := "7bcaef860968726251c0d63112c4b50387d7f788dc95c94de47cd6f2fe98dfc6", func := "bandplan/bandplanlaw41.AccountNone", spec := "accountNone", inPlace := ["slices.overlaps[string]"], unfollowed := true, recurses := true, named := ["bandplan/blake.initial", "bandplan/blake.order"], plainKeys := false, apart := false, laid := [("bandplan/blake.order", laid_bandplan_blake_order), ("bandplan/blake.initial", laid_bandplan_blake_initial)] }
def AccountNoneSaid : Prop := accountNoneRow.holds Tryd.pinned (OpenSpec.ofChange accountNoneSpec)

/-- ITS FALSE NEIGHBOUR: 'it returns false'. Refute it at one input. -/
def accountNoneWrong : ChangeSpec := { name := "accountNone", fn := fun _ => fun
  | [d1, d2] => { results := [.lit (.bool false)], args := [d1, d2] }
  | _ => none }
def AccountNoneWrongFalsely : Prop := accountNoneRow.holds Tryd.pinned (OpenSpec.ofChange accountNoneWrong)

/-- 'bandplanlaw41.AccountHolds': WHATEVER THE INPUT: true; the input reads as it did. -/
def accountHoldsSpec : ChangeSpec := { name := "accountHolds", fn := fun _ => fun
  | [d1, d2, d3] => { results := [.lit (.bool true)], args := [d1, d2, d3] }
  | _ => none }
def accountHoldsRow : OpenClaim := { program := "ytgcnpnbgjejkaaadoor", sum := "7bcaef860968726251c0d63112c4b50387d7f788dc95c94de47cd6f2fe98dfc6", func := "bandplan/bandplanlaw41.AccountHolds", spec := "accountHolds", inPlace := ["slices.overlaps[string]"], unfollowed := true, recurses := true, named := ["bandplan/blake.initial", "bandplan/blake.order"], plainKeys := false, apart := false, laid := [("bandplan/blake.order", laid_bandplan_blake_order), ("bandplan/blake.initial", laid_bandplan_blake_initial)] }
def AccountHoldsSaid : Prop := accountHoldsRow.holds Tryd.pinned (OpenSpec.ofChange accountHoldsSpec)

/-- ITS FALSE NEIGHBOUR: 'it returns false'. Refute it at one input. -/
def accountHoldsWrong : ChangeSpec := { name := "accountHolds", fn := fun _ => fun
  | [d1, d2, d3] => { results := [.lit (.bool false)], args := [d1, d2, d3] }
  | _ => none }
def AccountHoldsWrongFalsely : Prop := accountHoldsRow.holds Tryd.pinned (OpenSpec.ofChange accountHoldsWrong)

/- THE SECOND FORM. 'bulk': how many values and letters a reading holds, each counted each time it is reached (what is shared counts as often as it is met; a slice's spare places count too). A statement '..UptoSaid' is the law's where the arguments, and the package variables that the reading takes, are together of bulk at most 1048576: NARROWER than '..Said'. Prove '..Said' where nothing that the law and all that it calls make is longer than what came in: it says more and counts as full. Else prove '..UptoSaid'. A law counts once. -/
mutual
def uptoBulk {H : Type} : DataW H → Nat
  | .lit (.string bytes) => bytes.length + 1
  | .lit _ => 1
  | .nil => 1
  | .ptr d => uptoBulk d + 1
  | .slice elems spare => uptoBulkAll elems + uptoBulkAll spare + 1
  | .agg parts => uptoBulkAll parts + 1
  | .iface _ d => uptoBulk d + 1
  | .map entries => uptoBulkEntries entries + 1
  | .held _ => 1
def uptoBulkAll {H : Type} : List (DataW H) → Nat
  | [] => 0
  | d :: r => uptoBulk d + uptoBulkAll r
def uptoBulkEntries {H : Type} : List (Lit × DataW H) → Nat
  | [] => 0
  | x :: r => uptoBulkEntry x + uptoBulkEntries r
def uptoBulkEntry {H : Type} : Lit × DataW H → Nat
  | (.string bytes, d) => bytes.length + uptoBulk d + 1
  | (_, d) => uptoBulk d + 1
 end
def uptoSmall : (H : Type) → List (DataW H) → Bool := fun _ ds => decide (uptoBulkAll ds ≤ 1048576)
def OpenSpec.upto (s : _root_.Go.ChangeSpec) : _root_.Go.OpenSpec := { _root_.Go.OpenSpec.ofChange s with cond := some uptoSmall }

/-- 'bandplanlaw41.AccountTags', WHERE WHAT IT READS IS OF BULK AT MOST 1048576: true; the input reads as it did. -/
def accountTagsUptoRow : OpenClaim := { program := "ytgcnpnbgjejkaaadoor", sum := "7bcaef860968726251c0d63112c4b50387d7f788dc95c94de47cd6f2fe98dfc6", func := "bandplan/bandplanlaw41.AccountTags", spec := "accountTags", inPlace := ["slices.overlaps[string]"], unfollowed := true, recurses := true, named := ["bandplan/blake.initial", "bandplan/blake.order"], plainKeys := false, apart := false, laid := [("bandplan/blake.order", laid_bandplan_blake_order), ("bandplan/blake.initial", laid_bandplan_blake_initial)], narrowed := true }
def AccountTagsUptoSaid : Prop := accountTagsUptoRow.holds Tryd.pinned (OpenSpec.upto accountTagsSpec)

/-- 'bandplanlaw41.AccountNone', WHERE WHAT IT READS IS OF BULK AT MOST 1048576: true; the input reads as it did. -/
def accountNoneUptoRow : OpenClaim := { program := "ytgcnpnbgjejkaaadoor", sum := "7bcaef860968726251c0d63112c4b50387d7f788dc95c94de47cd6f2fe98dfc6", func := "bandplan/bandplanlaw41.AccountNone", spec := "accountNone", inPlace := ["slices.overlaps[string]"], unfollowed := true, recurses := true, named := ["bandplan/blake.initial", "bandplan/blake.order"], plainKeys := false, apart := false, laid := [("bandplan/blake.order", laid_bandplan_blake_order), ("bandplan/blake.initial", laid_bandplan_blake_initial)], narrowed := true }
def AccountNoneUptoSaid : Prop := accountNoneUptoRow.holds Tryd.pinned (OpenSpec.upto accountNoneSpec)

/-- 'bandplanlaw41.AccountHolds', WHERE WHAT IT READS IS OF BULK AT MOST 1048576: true; the input reads as it did. -/
def accountHoldsUptoRow : OpenClaim := { program := "ytgcnpnbgjejkaaadoor", sum := "7bcaef860968726251c0d63112c4b50387d7f788dc95c94de47cd6f2fe98dfc6", func := "bandplan/bandplanlaw41.AccountHolds", spec := "accountHolds", inPlace := ["slices.overlaps[string]"], unfollowed := true, recurses := true, named := ["bandplan/blake.initial", "bandplan/blake.order"], plainKeys := false, apart := false, laid := [("bandplan/blake.order", laid_bandplan_blake_order), ("bandplan/blake.initial", laid_bandplan_blake_initial)], narrowed := true }
def AccountHoldsUptoSaid : Prop := accountHoldsUptoRow.holds Tryd.pinned (OpenSpec.upto accountHoldsSpec)

end Rows
end Go.Proofs.YtgcnpnbgjejkaaaDoor
