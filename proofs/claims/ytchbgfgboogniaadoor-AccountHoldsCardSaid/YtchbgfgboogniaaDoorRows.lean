/-
  NARROWER THAN 'FOR EVERY INPUT', by the rows' own cells (each row's printed sentence says how): AccountHolds: laid · EnvelopeOpens: laid · EnvelopeNone: laid · EnvelopeValid: laid · EnvelopeSeals: laid · EnvelopeDecodes: laid · EnvelopeHides: laid.
  DERIVED. THE GIVEN ROWS OF THIS SEAT. 7 by the template 'for every input the law returns true; each argument reads behind the call as it read before'; 0 by the template 'total and deterministic' (their statements: YtchbgfgboogniaaDoorTotals.lean).
  GIVEN WITH THE SEED: the statements are not yours to turn. If you find one false, say at which input.
  Laid BY PROGRAM, IN A SANDBOX (cutbox-rows.mjs): the forced cells as the released guide's own fill.sh prints them over the translation 4b3acd5580d62d8d… (all of the seat's roots in one cut). By AI agents, Wed Nov 11 2026. No macro, syntax, notation, axiom, sorry.
-/
import Derived.Test.YtchbgfgboogniaaDoorChecked
import GoSem.Claim
import GoSem.ClaimJoined
import GoSem.ClaimMapViews
import Derived.JoinedTies
import Derived.KernelRfl
namespace Go.Proofs.YtchbgfgboogniaaDoor
/- THE CELL 'sum', in the pinned program and in every row, IS THE sha256 OF THE DUMP (.gsa) THAT YtchbgfgboogniaaDoorProg.lean LOADS. Nothing in Lean hashes anything: it is a label: what it is worth is what the hold of that sum in a sandbox is worth. -/
noncomputable def Tryd.pinned : Pinned := { name := "ytchbgfgboogniaadoor", sum := "4b3acd5580d62d8d0556b5f2256ebee7edefb49a43b0e69c90c486e45cbf14f1", checked := Tryd.checked }
namespace Rows
def none {H : Type} : Left H := { results := [], args := [] }

/- WHAT THE LISTED PACKAGE-LEVEL VARIABLES READ AS WHEN THE CALL BEGINS. Each datum BY PROGRAM (the guide's laid-datum.mjs) off the statement by which the dump's own 'gosem.cut.vars' lays the variable. In a bare row this is a premise. The card (YtchbgfgboogniaaDoorCards.lean) ties it to the program's text. -/
def laid_bandplan_blake_order {H : Type} : DataW H := .agg [.agg [.lit (.int .u8 0), .lit (.int .u8 1), .lit (.int .u8 2), .lit (.int .u8 3), .lit (.int .u8 4), .lit (.int .u8 5), .lit (.int .u8 6), .lit (.int .u8 7), .lit (.int .u8 8), .lit (.int .u8 9), .lit (.int .u8 10), .lit (.int .u8 11), .lit (.int .u8 12), .lit (.int .u8 13), .lit (.int .u8 14), .lit (.int .u8 15)], .agg [.lit (.int .u8 14), .lit (.int .u8 10), .lit (.int .u8 4), .lit (.int .u8 8), .lit (.int .u8 9), .lit (.int .u8 15), .lit (.int .u8 13), .lit (.int .u8 6), .lit (.int .u8 1), .lit (.int .u8 12), .lit (.int .u8 0), .lit (.int .u8 2), .lit (.int .u8 11), .lit (.int .u8 7), .lit (.int .u8 5), .lit (.int .u8 3)], .agg [.lit (.int .u8 11), .lit (.int .u8 8), .lit (.int .u8 12), .lit (.int .u8 0), .lit (.int .u8 5), .lit (.int .u8 2), .lit (.int .u8 15), .lit (.int .u8 13), .lit (.int .u8 10), .lit (.int .u8 14), .lit (.int .u8 3), .lit (.int .u8 6), .lit (.int .u8 7), .lit (.int .u8 1), .lit (.int .u8 9), .lit (.int .u8 4)], .agg [.lit (.int .u8 7), .lit (.int .u8 9), .lit (.int .u8 3), .lit (.int .u8 1), .lit (.int .u8 13), .lit (.int .u8 12), .lit (.int .u8 11), .lit (.int .u8 14), .lit (.int .u8 2), .lit (.int .u8 6), .lit (.int .u8 5), .lit (.int .u8 10), .lit (.int .u8 4), .lit (.int .u8 0), .lit (.int .u8 15), .lit (.int .u8 8)], .agg [.lit (.int .u8 9), .lit (.int .u8 0), .lit (.int .u8 5), .lit (.int .u8 7), .lit (.int .u8 2), .lit (.int .u8 4), .lit (.int .u8 10), .lit (.int .u8 15), .lit (.int .u8 14), .lit (.int .u8 1), .lit (.int .u8 11), .lit (.int .u8 12), .lit (.int .u8 6), .lit (.int .u8 8), .lit (.int .u8 3), .lit (.int .u8 13)], .agg [.lit (.int .u8 2), .lit (.int .u8 12), .lit (.int .u8 6), .lit (.int .u8 10), .lit (.int .u8 0), .lit (.int .u8 11), .lit (.int .u8 8), .lit (.int .u8 3), .lit (.int .u8 4), .lit (.int .u8 13), .lit (.int .u8 7), .lit (.int .u8 5), .lit (.int .u8 15), .lit (.int .u8 14), .lit (.int .u8 1), .lit (.int .u8 9)], .agg [.lit (.int .u8 12), .lit (.int .u8 5), .lit (.int .u8 1), .lit (.int .u8 15), .lit (.int .u8 14), .lit (.int .u8 13), .lit (.int .u8 4), .lit (.int .u8 10), .lit (.int .u8 0), .lit (.int .u8 7), .lit (.int .u8 6), .lit (.int .u8 3), .lit (.int .u8 9), .lit (.int .u8 2), .lit (.int .u8 8), .lit (.int .u8 11)], .agg [.lit (.int .u8 13), .lit (.int .u8 11), .lit (.int .u8 7), .lit (.int .u8 14), .lit (.int .u8 12), .lit (.int .u8 1), .lit (.int .u8 3), .lit (.int .u8 9), .lit (.int .u8 5), .lit (.int .u8 0), .lit (.int .u8 15), .lit (.int .u8 4), .lit (.int .u8 8), .lit (.int .u8 6), .lit (.int .u8 2), .lit (.int .u8 10)], .agg [.lit (.int .u8 6), .lit (.int .u8 15), .lit (.int .u8 14), .lit (.int .u8 9), .lit (.int .u8 11), .lit (.int .u8 3), .lit (.int .u8 0), .lit (.int .u8 8), .lit (.int .u8 12), .lit (.int .u8 2), .lit (.int .u8 13), .lit (.int .u8 7), .lit (.int .u8 1), .lit (.int .u8 4), .lit (.int .u8 10), .lit (.int .u8 5)], .agg [.lit (.int .u8 10), .lit (.int .u8 2), .lit (.int .u8 8), .lit (.int .u8 4), .lit (.int .u8 7), .lit (.int .u8 6), .lit (.int .u8 1), .lit (.int .u8 5), .lit (.int .u8 15), .lit (.int .u8 11), .lit (.int .u8 9), .lit (.int .u8 14), .lit (.int .u8 3), .lit (.int .u8 12), .lit (.int .u8 13), .lit (.int .u8 0)]]
def laid_bandplan_blake_initial {H : Type} : DataW H := .agg [.lit (.int .u32 1779033703), .lit (.int .u32 3144134277), .lit (.int .u32 1013904242), .lit (.int .u32 2773480762), .lit (.int .u32 1359893119), .lit (.int .u32 2600822924), .lit (.int .u32 528734635), .lit (.int .u32 1541459225)]

/-- 'bandplanlaw41.AccountHolds': WHATEVER THE INPUT: true; the input reads as it did. -/
def accountHoldsSpec : ChangeSpec := { name := "accountHolds", fn := fun _ => fun
  | [d1, d2, d3] => { results := [.lit (.bool true)], args := [d1, d2, d3] }
  | _ => none }
def accountHoldsRow : OpenClaim := { program := "ytchbgfgboogniaadoor", sum := "4b3acd5580d62d8d0556b5f2256ebee7edefb49a43b0e69c90c486e45cbf14f1", func := "bandplan/bandplanlaw41.AccountHolds", spec := "accountHolds", inPlace := ["slices.overlaps[string]"], unfollowed := true, recurses := true, named := ["bandplan/blake.initial", "bandplan/blake.order"], plainKeys := false, apart := false, laid := [("bandplan/blake.order", laid_bandplan_blake_order), ("bandplan/blake.initial", laid_bandplan_blake_initial)] }
def AccountHoldsSaid : Prop := accountHoldsRow.holds Tryd.pinned (OpenSpec.ofChange accountHoldsSpec)

/-- ITS FALSE NEIGHBOUR: 'it returns false'. Refute it at one input. -/
def accountHoldsWrong : ChangeSpec := { name := "accountHolds", fn := fun _ => fun
  | [d1, d2, d3] => { results := [.lit (.bool false)], args := [d1, d2, d3] }
  | _ => none }
def AccountHoldsWrongFalsely : Prop := accountHoldsRow.holds Tryd.pinned (OpenSpec.ofChange accountHoldsWrong)

/-- 'bandplanlaw42.EnvelopeOpens': WHATEVER THE INPUT: true; the input reads as it did. -/
def envelopeOpensSpec : ChangeSpec := { name := "envelopeOpens", fn := fun _ => fun
  | [d1, d2] => { results := [.lit (.bool true)], args := [d1, d2] }
  | _ => none }
def envelopeOpensRow : OpenClaim := { program := "ytchbgfgboogniaadoor", sum := "4b3acd5580d62d8d0556b5f2256ebee7edefb49a43b0e69c90c486e45cbf14f1", func := "bandplan/bandplanlaw42.EnvelopeOpens", spec := "envelopeOpens", inPlace := ["slices.overlaps[string]"], unfollowed := true, recurses := true, named := ["bandplan/blake.initial", "bandplan/blake.order"], plainKeys := false, apart := false, laid := [("bandplan/blake.order", laid_bandplan_blake_order), ("bandplan/blake.initial", laid_bandplan_blake_initial)] }
def EnvelopeOpensSaid : Prop := envelopeOpensRow.holds Tryd.pinned (OpenSpec.ofChange envelopeOpensSpec)

/-- ITS FALSE NEIGHBOUR: 'it returns false'. Refute it at one input. -/
def envelopeOpensWrong : ChangeSpec := { name := "envelopeOpens", fn := fun _ => fun
  | [d1, d2] => { results := [.lit (.bool false)], args := [d1, d2] }
  | _ => none }
def EnvelopeOpensWrongFalsely : Prop := envelopeOpensRow.holds Tryd.pinned (OpenSpec.ofChange envelopeOpensWrong)

/-- 'bandplanlaw42.EnvelopeNone': WHATEVER THE INPUT: true; the input reads as it did. -/
def envelopeNoneSpec : ChangeSpec := { name := "envelopeNone", fn := fun _ => fun
  | [d1, d2] => { results := [.lit (.bool true)], args := [d1, d2] }
  | _ => none }
def envelopeNoneRow : OpenClaim := { program := "ytchbgfgboogniaadoor", sum := "4b3acd5580d62d8d0556b5f2256ebee7edefb49a43b0e69c90c486e45cbf14f1", func := "bandplan/bandplanlaw42.EnvelopeNone", spec := "envelopeNone", inPlace := ["slices.overlaps[string]"], unfollowed := true, recurses := true, named := ["bandplan/blake.initial", "bandplan/blake.order"], plainKeys := false, apart := false, laid := [("bandplan/blake.order", laid_bandplan_blake_order), ("bandplan/blake.initial", laid_bandplan_blake_initial)] }
def EnvelopeNoneSaid : Prop := envelopeNoneRow.holds Tryd.pinned (OpenSpec.ofChange envelopeNoneSpec)

/-- ITS FALSE NEIGHBOUR: 'it returns false'. Refute it at one input. -/
def envelopeNoneWrong : ChangeSpec := { name := "envelopeNone", fn := fun _ => fun
  | [d1, d2] => { results := [.lit (.bool false)], args := [d1, d2] }
  | _ => none }
def EnvelopeNoneWrongFalsely : Prop := envelopeNoneRow.holds Tryd.pinned (OpenSpec.ofChange envelopeNoneWrong)

/-- 'bandplanlaw42.EnvelopeValid': WHATEVER THE INPUT: true; the input reads as it did. -/
def envelopeValidSpec : ChangeSpec := { name := "envelopeValid", fn := fun _ => fun
  | [d1, d2, d3] => { results := [.lit (.bool true)], args := [d1, d2, d3] }
  | _ => none }
def envelopeValidRow : OpenClaim := { program := "ytchbgfgboogniaadoor", sum := "4b3acd5580d62d8d0556b5f2256ebee7edefb49a43b0e69c90c486e45cbf14f1", func := "bandplan/bandplanlaw42.EnvelopeValid", spec := "envelopeValid", inPlace := ["slices.overlaps[string]"], unfollowed := true, recurses := true, named := ["bandplan/blake.initial", "bandplan/blake.order"], plainKeys := false, apart := false, laid := [("bandplan/blake.order", laid_bandplan_blake_order), ("bandplan/blake.initial", laid_bandplan_blake_initial)] }
def EnvelopeValidSaid : Prop := envelopeValidRow.holds Tryd.pinned (OpenSpec.ofChange envelopeValidSpec)

/-- ITS FALSE NEIGHBOUR: 'it returns false'. Refute it at one input. -/
def envelopeValidWrong : ChangeSpec := { name := "envelopeValid", fn := fun _ => fun
  | [d1, d2, d3] => { results := [.lit (.bool false)], args := [d1, d2, d3] }
  | _ => none }
def EnvelopeValidWrongFalsely : Prop := envelopeValidRow.holds Tryd.pinned (OpenSpec.ofChange envelopeValidWrong)

/-- 'bandplanlaw42.EnvelopeSeals': WHATEVER THE INPUT: true; the input reads as it did. -/
def envelopeSealsSpec : ChangeSpec := { name := "envelopeSeals", fn := fun _ => fun
  | [d1, d2, d3, d4, d5, d6, d7] => { results := [.lit (.bool true)], args := [d1, d2, d3, d4, d5, d6, d7] }
  | _ => none }
def envelopeSealsRow : OpenClaim := { program := "ytchbgfgboogniaadoor", sum := "4b3acd5580d62d8d0556b5f2256ebee7edefb49a43b0e69c90c486e45cbf14f1", func := "bandplan/bandplanlaw42.EnvelopeSeals", spec := "envelopeSeals", inPlace := ["slices.overlaps[string]"], unfollowed := true, recurses := true, named := ["bandplan/blake.initial", "bandplan/blake.order"], plainKeys := false, apart := false, laid := [("bandplan/blake.order", laid_bandplan_blake_order), ("bandplan/blake.initial", laid_bandplan_blake_initial)] }
def EnvelopeSealsSaid : Prop := envelopeSealsRow.holds Tryd.pinned (OpenSpec.ofChange envelopeSealsSpec)

/-- ITS FALSE NEIGHBOUR: 'it returns false'. Refute it at one input. -/
def envelopeSealsWrong : ChangeSpec := { name := "envelopeSeals", fn := fun _ => fun
  | [d1, d2, d3, d4, d5, d6, d7] => { results := [.lit (.bool false)], args := [d1, d2, d3, d4, d5, d6, d7] }
  | _ => none }
def EnvelopeSealsWrongFalsely : Prop := envelopeSealsRow.holds Tryd.pinned (OpenSpec.ofChange envelopeSealsWrong)

/-- 'bandplanlaw42.EnvelopeDecodes': WHATEVER THE INPUT: true; the input reads as it did. -/
def envelopeDecodesSpec : ChangeSpec := { name := "envelopeDecodes", fn := fun _ => fun
  | [d1, d2] => { results := [.lit (.bool true)], args := [d1, d2] }
  | _ => none }
def envelopeDecodesRow : OpenClaim := { program := "ytchbgfgboogniaadoor", sum := "4b3acd5580d62d8d0556b5f2256ebee7edefb49a43b0e69c90c486e45cbf14f1", func := "bandplan/bandplanlaw42.EnvelopeDecodes", spec := "envelopeDecodes", inPlace := ["slices.overlaps[string]"], unfollowed := true, recurses := true, named := ["bandplan/blake.initial", "bandplan/blake.order"], plainKeys := false, apart := false, laid := [("bandplan/blake.order", laid_bandplan_blake_order), ("bandplan/blake.initial", laid_bandplan_blake_initial)] }
def EnvelopeDecodesSaid : Prop := envelopeDecodesRow.holds Tryd.pinned (OpenSpec.ofChange envelopeDecodesSpec)

/-- ITS FALSE NEIGHBOUR: 'it returns false'. Refute it at one input. -/
def envelopeDecodesWrong : ChangeSpec := { name := "envelopeDecodes", fn := fun _ => fun
  | [d1, d2] => { results := [.lit (.bool false)], args := [d1, d2] }
  | _ => none }
def EnvelopeDecodesWrongFalsely : Prop := envelopeDecodesRow.holds Tryd.pinned (OpenSpec.ofChange envelopeDecodesWrong)

/-- 'bandplanlaw42.EnvelopeHides': WHATEVER THE INPUT: true; the input reads as it did. -/
def envelopeHidesSpec : ChangeSpec := { name := "envelopeHides", fn := fun _ => fun
  | [d1, d2, d3, d4, d5, d6, d7, d8] => { results := [.lit (.bool true)], args := [d1, d2, d3, d4, d5, d6, d7, d8] }
  | _ => none }
def envelopeHidesRow : OpenClaim := { program := "ytchbgfgboogniaadoor", sum := "4b3acd5580d62d8d0556b5f2256ebee7edefb49a43b0e69c90c486e45cbf14f1", func := "bandplan/bandplanlaw42.EnvelopeHides", spec := "envelopeHides", inPlace := ["slices.overlaps[string]"], unfollowed := true, recurses := true, named := ["bandplan/blake.initial", "bandplan/blake.order"], plainKeys := false, apart := false, laid := [("bandplan/blake.order", laid_bandplan_blake_order), ("bandplan/blake.initial", laid_bandplan_blake_initial)] }
def EnvelopeHidesSaid : Prop := envelopeHidesRow.holds Tryd.pinned (OpenSpec.ofChange envelopeHidesSpec)

/-- ITS FALSE NEIGHBOUR: 'it returns false'. Refute it at one input. -/
def envelopeHidesWrong : ChangeSpec := { name := "envelopeHides", fn := fun _ => fun
  | [d1, d2, d3, d4, d5, d6, d7, d8] => { results := [.lit (.bool false)], args := [d1, d2, d3, d4, d5, d6, d7, d8] }
  | _ => none }
def EnvelopeHidesWrongFalsely : Prop := envelopeHidesRow.holds Tryd.pinned (OpenSpec.ofChange envelopeHidesWrong)

/- THE SECOND FORM. 'bulk': how many values and letters a reading holds, each counted each time it is reached (what is shared counts as often as it is met; a slice's spare places count too). A statement '..UptoSaid' is the law's where the arguments, and the package variables that the reading takes, are together of bulk at most 1048576: NARROWER than '..Said'. Prove '..Said' where nothing that the law and all that it calls make is longer than what came in: it says more and counts as full. Else prove '..UptoSaid'. A law counts once. -/
mutual
def uptoBulk {H : Type} : DataW H → Nat
  | .lit (.string bytes) => bytes.length + 1
  | .lit _ => 1
  | .nil => 1
  | .ptr d => uptoBulk d + 1
  | .slice elems spare => uptoBulkAll elems + uptoBulkAll spare + 1
  | .agg parts => uptoBulkAll parts + 1
  | .iface _ d => uptoBulk d + 1
  | .map entries => uptoBulkEntries entries + 1
  | .held _ => 1
def uptoBulkAll {H : Type} : List (DataW H) → Nat
  | [] => 0
  | d :: r => uptoBulk d + uptoBulkAll r
def uptoBulkEntries {H : Type} : List (Lit × DataW H) → Nat
  | [] => 0
  | x :: r => uptoBulkEntry x + uptoBulkEntries r
def uptoBulkEntry {H : Type} : Lit × DataW H → Nat
  | (.string bytes, d) => bytes.length + uptoBulk d + 1
  | (_, d) => uptoBulk d + 1
 end
def uptoSmall : (H : Type) → List (DataW H) → Bool := fun _ ds => decide (uptoBulkAll ds ≤ 1048576)
def OpenSpec.upto (s : _root_.Go.ChangeSpec) : _root_.Go.OpenSpec := { _root_.Go.OpenSpec.ofChange s with cond := some uptoSmall }

/-- 'bandplanlaw41.AccountHolds', WHERE WHAT IT READS IS OF BULK AT MOST 1048576: true; the input reads as it did. -/
def accountHoldsUptoRow : OpenClaim := { program := "ytchbgfgboogniaadoor", sum := "4b3acd5580d62d8d0556b5f2256ebee7edefb49a43b0e69c90c486e45cbf14f1", func := "bandplan/bandplanlaw41.AccountHolds", spec := "accountHolds", inPlace := ["slices.overlaps[string]"], unfollowed := true, recurses := true, named := ["bandplan/blake.initial", "bandplan/blake.order"], plainKeys := false, apart := false, laid := [("bandplan/blake.order", laid_bandplan_blake_order), ("bandplan/blake.initial", laid_bandplan_blake_initial)], narrowed := true }
def AccountHoldsUptoSaid : Prop := accountHoldsUptoRow.holds Tryd.pinned (OpenSpec.upto accountHoldsSpec)

/-- 'bandplanlaw42.EnvelopeOpens', WHERE WHAT IT READS IS OF BULK AT MOST 1048576: true; the input reads as it did. -/
def envelopeOpensUptoRow : OpenClaim := { program := "ytchbgfgboogniaadoor", sum := "4b3acd5580d62d8d0556b5f2256ebee7edefb49a43b0e69c90c486e45cbf14f1", func := "bandplan/bandplanlaw42.EnvelopeOpens", spec := "envelopeOpens", inPlace := ["slices.overlaps[string]"], unfollowed := true, recurses := true, named := ["bandplan/blake.initial", "bandplan/blake.order"], plainKeys := false, apart := false, laid := [("bandplan/blake.order", laid_bandplan_blake_order), ("bandplan/blake.initial", laid_bandplan_blake_initial)], narrowed := true }
def EnvelopeOpensUptoSaid : Prop := envelopeOpensUptoRow.holds Tryd.pinned (OpenSpec.upto envelopeOpensSpec)

/-- 'bandplanlaw42.EnvelopeNone', WHERE WHAT IT READS IS OF BULK AT MOST 1048576: true; the input reads as it did. -/
def envelopeNoneUptoRow : OpenClaim := { program := "ytchbgfgboogniaadoor", sum := "4b3acd5580d62d8d0556b5f2256ebee7edefb49a43b0e69c90c486e45cbf14f1", func := "bandplan/bandplanlaw42.EnvelopeNone", spec := "envelopeNone", inPlace := ["slices.overlaps[string]"], unfollowed := true, recurses := true, named := ["bandplan/blake.initial", "bandplan/blake.order"], plainKeys := false, apart := false, laid := [("bandplan/blake.order", laid_bandplan_blake_order), ("bandplan/blake.initial", laid_bandplan_blake_initial)], narrowed := true }
def EnvelopeNoneUptoSaid : Prop := envelopeNoneUptoRow.holds Tryd.pinned (OpenSpec.upto envelopeNoneSpec)

/-- 'bandplanlaw42.EnvelopeValid', WHERE WHAT IT READS IS OF BULK AT MOST 1048576: true; the input reads as it did. -/
def envelopeValidUptoRow : OpenClaim := { program := "ytchbgfgboogniaadoor", sum := "4b3acd5580d62d8d0556b5f2256ebee7edefb49a43b0e69c90c486e45cbf14f1", func := "bandplan/bandplanlaw42.EnvelopeValid", spec := "envelopeValid", inPlace := ["slices.overlaps[string]"], unfollowed := true, recurses := true, named := ["bandplan/blake.initial", "bandplan/blake.order"], plainKeys := false, apart := false, laid := [("bandplan/blake.order", laid_bandplan_blake_order), ("bandplan/blake.initial", laid_bandplan_blake_initial)], narrowed := true }
def EnvelopeValidUptoSaid : Prop := envelopeValidUptoRow.holds Tryd.pinned (OpenSpec.upto envelopeValidSpec)

/-- 'bandplanlaw42.EnvelopeSeals', WHERE WHAT IT READS IS OF BULK AT MOST 1048576: true; the input reads as it did. -/
def envelopeSealsUptoRow : OpenClaim := { program := "ytchbgfgboogniaadoor", sum := "4b3acd5580d62d8d0556b5f2256ebee7edefb49a43b0e69c90c486e45cbf14f1", func := "bandplan/bandplanlaw42.EnvelopeSeals", spec := "envelopeSeals", inPlace := ["slices.overlaps[string]"], unfollowed := true, recurses := true, named := ["bandplan/blake.initial", "bandplan/blake.order"], plainKeys := false, apart := false, laid := [("bandplan/blake.order", laid_bandplan_blake_order), ("bandplan/blake.initial", laid_bandplan_blake_initial)], narrowed := true }
def EnvelopeSealsUptoSaid : Prop := envelopeSealsUptoRow.holds Tryd.pinned (OpenSpec.upto envelopeSealsSpec)

/-- 'bandplanlaw42.EnvelopeDecodes', WHERE WHAT IT READS IS OF BULK AT MOST 1048576: true; the input reads as it did. -/
def envelopeDecodesUptoRow : OpenClaim := { program := "ytchbgfgboogniaadoor", sum := "4b3acd5580d62d8d0556b5f2256ebee7edefb49a43b0e69c90c486e45cbf14f1", func := "bandplan/bandplanlaw42.EnvelopeDecodes", spec := "envelopeDecodes", inPlace := ["slices.overlaps[string]"], unfollowed := true, recurses := true, named := ["bandplan/blake.initial", "bandplan/blake.order"], plainKeys := false, apart := false, laid := [("bandplan/blake.order", laid_bandplan_blake_order), ("bandplan/blake.initial", laid_bandplan_blake_initial)], narrowed := true }
def EnvelopeDecodesUptoSaid : Prop := envelopeDecodesUptoRow.holds Tryd.pinned (OpenSpec.upto envelopeDecodesSpec)

/-- 'bandplanlaw42.EnvelopeHides', WHERE WHAT IT READS IS OF BULK AT MOST 1048576: true; the input reads as it did. -/
def envelopeHidesUptoRow : OpenClaim := { program := "ytchbgfgboogniaadoor", sum := "4b3acd5580d62d8d0556b5f2256ebee7edefb49a43b0e69c90c486e45cbf14f1", func := "bandplan/bandplanlaw42.EnvelopeHides", spec := "envelopeHides", inPlace := ["slices.overlaps[string]"], unfollowed := true, recurses := true, named := ["bandplan/blake.initial", "bandplan/blake.order"], plainKeys := false, apart := false, laid := [("bandplan/blake.order", laid_bandplan_blake_order), ("bandplan/blake.initial", laid_bandplan_blake_initial)], narrowed := true }
def EnvelopeHidesUptoSaid : Prop := envelopeHidesUptoRow.holds Tryd.pinned (OpenSpec.upto envelopeHidesSpec)

end Rows
end Go.Proofs.YtchbgfgboogniaaDoor
