/-
  NARROWER THAN 'FOR EVERY INPUT', by the rows' own cells (each row's printed sentence says how): LedgerProves: laid · LedgerAppends: laid · LedgerDecodes: laid · LedgerFull: laid · LedgerNone: laid · LedgerRejects: laid · LedgerHolds: laid.
  DERIVED. THE GIVEN ROWS OF THIS SEAT. 7 by the template 'for every input the law returns true; each argument reads behind the call as it read before'; 0 by the template 'total and deterministic' (their statements: YtonjpfpdpfonnaaDoorTotals.lean).
  GIVEN WITH THE SEED: the statements are not yours to turn. If you find one false, say at which input.
  Laid BY PROGRAM, IN A SANDBOX (cutbox-rows.mjs): the forced cells as the released guide's own fill.sh prints them over the translation d4c01ff7f28b5432… (all of the seat's roots in one cut). By AI agents, Wed Nov 11 2026. No macro, syntax, notation, axiom, sorry.
-/
import Derived.Test.YtonjpfpdpfonnaaDoorChecked
import GoSem.Claim
import GoSem.ClaimJoined
import GoSem.ClaimMapViews
import Derived.JoinedTies
import Derived.KernelRfl
namespace Go.Proofs.YtonjpfpdpfonnaaDoor
/- THE CELL 'sum', in the pinned program and in every row, IS THE sha256 OF THE DUMP (.gsa) THAT YtonjpfpdpfonnaaDoorProg.lean LOADS. Nothing in Lean hashes anything: it is a label: what it is worth is what the hold of that sum in a sandbox is worth. -/
noncomputable def Tryd.pinned : Pinned := { name := "ytonjpfpdpfonnaadoor", sum := "d4c01ff7f28b5432db161ca06ada47873d699b36af8f546caf639c06e7540bf2", checked := Tryd.checked }
namespace Rows
def none {H : Type} : Left H := { results := [], args := [] }

/- WHAT THE LISTED PACKAGE-LEVEL VARIABLES READ AS WHEN THE CALL BEGINS. Each datum BY PROGRAM (the guide's laid-datum.mjs) off the statement by which the dump's own 'gosem.cut.vars' lays the variable. In a bare row this is a premise. The card (YtonjpfpdpfonnaaDoorCards.lean) ties it to the program's text. -/
def laid_bandplan_blake_order {H : Type} : DataW H := .agg [.agg [.lit (.int .u8 0), .lit (.int .u8 1), .lit (.int .u8 2), .lit (.int .u8 3), .lit (.int .u8 4), .lit (.int .u8 5), .lit (.int .u8 6), .lit (.int .u8 7), .lit (.int .u8 8), .lit (.int .u8 9), .lit (.int .u8 10), .lit (.int .u8 11), .lit (.int .u8 12), .lit (.int .u8 13), .lit (.int .u8 14), .lit (.int .u8 15)], .agg [.lit (.int .u8 14), .lit (.int .u8 10), .lit (.int .u8 4), .lit (.int .u8 8), .lit (.int .u8 9), .lit (.int .u8 15), .lit (.int .u8 13), .lit (.int .u8 6), .lit (.int .u8 1), .lit (.int .u8 12), .lit (.int .u8 0), .lit (.int .u8 2), .lit (.int .u8 11), .lit (.int .u8 7), .lit (.int .u8 5), .lit (.int .u8 3)], .agg [.lit (.int .u8 11), .lit (.int .u8 8), .lit (.int .u8 12), .lit (.int .u8 0), .lit (.int .u8 5), .lit (.int .u8 2), .lit (.int .u8 15), .lit (.int .u8 13), .lit (.int .u8 10), .lit (.int .u8 14), .lit (.int .u8 3), .lit (.int .u8 6), .lit (.int .u8 7), .lit (.int .u8 1), .lit (.int .u8 9), .lit (.int .u8 4)], .agg [.lit (.int .u8 7), .lit (.int .u8 9), .lit (.int .u8 3), .lit (.int .u8 1), .lit (.int .u8 13), .lit (.int .u8 12), .lit (.int .u8 11), .lit (.int .u8 14), .lit (.int .u8 2), .lit (.int .u8 6), .lit (.int .u8 5), .lit (.int .u8 10), .lit (.int .u8 4), .lit (.int .u8 0), .lit (.int .u8 15), .lit (.int .u8 8)], .agg [.lit (.int .u8 9), .lit (.int .u8 0), .lit (.int .u8 5), .lit (.int .u8 7), .lit (.int .u8 2), .lit (.int .u8 4), .lit (.int .u8 10), .lit (.int .u8 15), .lit (.int .u8 14), .lit (.int .u8 1), .lit (.int .u8 11), .lit (.int .u8 12), .lit (.int .u8 6), .lit (.int .u8 8), .lit (.int .u8 3), .lit (.int .u8 13)], .agg [.lit (.int .u8 2), .lit (.int .u8 12), .lit (.int .u8 6), .lit (.int .u8 10), .lit (.int .u8 0), .lit (.int .u8 11), .lit (.int .u8 8), .lit (.int .u8 3), .lit (.int .u8 4), .lit (.int .u8 13), .lit (.int .u8 7), .lit (.int .u8 5), .lit (.int .u8 15), .lit (.int .u8 14), .lit (.int .u8 1), .lit (.int .u8 9)], .agg [.lit (.int .u8 12), .lit (.int .u8 5), .lit (.int .u8 1), .lit (.int .u8 15), .lit (.int .u8 14), .lit (.int .u8 13), .lit (.int .u8 4), .lit (.int .u8 10), .lit (.int .u8 0), .lit (.int .u8 7), .lit (.int .u8 6), .lit (.int .u8 3), .lit (.int .u8 9), .lit (.int .u8 2), .lit (.int .u8 8), .lit (.int .u8 11)], .agg [.lit (.int .u8 13), .lit (.int .u8 11), .lit (.int .u8 7), .lit (.int .u8 14), .lit (.int .u8 12), .lit (.int .u8 1), .lit (.int .u8 3), .lit (.int .u8 9), .lit (.int .u8 5), .lit (.int .u8 0), .lit (.int .u8 15), .lit (.int .u8 4), .lit (.int .u8 8), .lit (.int .u8 6), .lit (.int .u8 2), .lit (.int .u8 10)], .agg [.lit (.int .u8 6), .lit (.int .u8 15), .lit (.int .u8 14), .lit (.int .u8 9), .lit (.int .u8 11), .lit (.int .u8 3), .lit (.int .u8 0), .lit (.int .u8 8), .lit (.int .u8 12), .lit (.int .u8 2), .lit (.int .u8 13), .lit (.int .u8 7), .lit (.int .u8 1), .lit (.int .u8 4), .lit (.int .u8 10), .lit (.int .u8 5)], .agg [.lit (.int .u8 10), .lit (.int .u8 2), .lit (.int .u8 8), .lit (.int .u8 4), .lit (.int .u8 7), .lit (.int .u8 6), .lit (.int .u8 1), .lit (.int .u8 5), .lit (.int .u8 15), .lit (.int .u8 11), .lit (.int .u8 9), .lit (.int .u8 14), .lit (.int .u8 3), .lit (.int .u8 12), .lit (.int .u8 13), .lit (.int .u8 0)]]
def laid_bandplan_blake_initial {H : Type} : DataW H := .agg [.lit (.int .u32 1779033703), .lit (.int .u32 3144134277), .lit (.int .u32 1013904242), .lit (.int .u32 2773480762), .lit (.int .u32 1359893119), .lit (.int .u32 2600822924), .lit (.int .u32 528734635), .lit (.int .u32 1541459225)]

/-- 'bandplanlaw43.LedgerProves': WHATEVER THE INPUT: true; the input reads as it did. -/
def ledgerProvesSpec : ChangeSpec := { name := "ledgerProves", fn := fun _ => fun
  | [d1, d2, d3, d4] => { results := [.lit (.bool true)], args := [d1, d2, d3, d4] }
  | _ => none }
def ledgerProvesRow : OpenClaim := { program := "ytonjpfpdpfonnaadoor", sum := "d4c01ff7f28b5432db161ca06ada47873d699b36af8f546caf639c06e7540bf2", func := "bandplan/bandplanlaw43.LedgerProves", spec := "ledgerProves", unfollowed := true, recurses := true, named := ["bandplan/blake.initial", "bandplan/blake.order"], plainKeys := false, apart := false, laid := [("bandplan/blake.order", laid_bandplan_blake_order), ("bandplan/blake.initial", laid_bandplan_blake_initial)] }
def LedgerProvesSaid : Prop := ledgerProvesRow.holds Tryd.pinned (OpenSpec.ofChange ledgerProvesSpec)

/-- ITS FALSE NEIGHBOUR: 'it returns false'. Refute it at one input. -/
def ledgerProvesWrong : ChangeSpec := { name := "ledgerProves", fn := fun _ => fun
  | [d1, d2, d3, d4] => { results := [.lit (.bool false)], args := [d1, d2, d3, d4] }
  | _ => none }
def LedgerProvesWrongFalsely : Prop := ledgerProvesRow.holds Tryd.pinned (OpenSpec.ofChange ledgerProvesWrong)

/-- 'bandplanlaw43.LedgerAppends': WHATEVER THE INPUT: true; the input reads as it did. -/
def ledgerAppendsSpec : ChangeSpec := { name := "ledgerAppends", fn := fun _ => fun
  | [d1, d2, d3] => { results := [.lit (.bool true)], args := [d1, d2, d3] }
  | _ => none }
def ledgerAppendsRow : OpenClaim := { program := "ytonjpfpdpfonnaadoor", sum := "d4c01ff7f28b5432db161ca06ada47873d699b36af8f546caf639c06e7540bf2", func := "bandplan/bandplanlaw43.LedgerAppends", spec := "ledgerAppends", unfollowed := true, recurses := true, named := ["bandplan/blake.initial", "bandplan/blake.order"], plainKeys := false, apart := false, laid := [("bandplan/blake.order", laid_bandplan_blake_order), ("bandplan/blake.initial", laid_bandplan_blake_initial)] }
def LedgerAppendsSaid : Prop := ledgerAppendsRow.holds Tryd.pinned (OpenSpec.ofChange ledgerAppendsSpec)

/-- ITS FALSE NEIGHBOUR: 'it returns false'. Refute it at one input. -/
def ledgerAppendsWrong : ChangeSpec := { name := "ledgerAppends", fn := fun _ => fun
  | [d1, d2, d3] => { results := [.lit (.bool false)], args := [d1, d2, d3] }
  | _ => none }
def LedgerAppendsWrongFalsely : Prop := ledgerAppendsRow.holds Tryd.pinned (OpenSpec.ofChange ledgerAppendsWrong)

/-- 'bandplanlaw43.LedgerDecodes': WHATEVER THE INPUT: true; the input reads as it did. -/
def ledgerDecodesSpec : ChangeSpec := { name := "ledgerDecodes", fn := fun _ => fun
  | [d1, d2] => { results := [.lit (.bool true)], args := [d1, d2] }
  | _ => none }
def ledgerDecodesRow : OpenClaim := { program := "ytonjpfpdpfonnaadoor", sum := "d4c01ff7f28b5432db161ca06ada47873d699b36af8f546caf639c06e7540bf2", func := "bandplan/bandplanlaw43.LedgerDecodes", spec := "ledgerDecodes", unfollowed := true, recurses := true, named := ["bandplan/blake.initial", "bandplan/blake.order"], plainKeys := false, apart := false, laid := [("bandplan/blake.order", laid_bandplan_blake_order), ("bandplan/blake.initial", laid_bandplan_blake_initial)] }
def LedgerDecodesSaid : Prop := ledgerDecodesRow.holds Tryd.pinned (OpenSpec.ofChange ledgerDecodesSpec)

/-- ITS FALSE NEIGHBOUR: 'it returns false'. Refute it at one input. -/
def ledgerDecodesWrong : ChangeSpec := { name := "ledgerDecodes", fn := fun _ => fun
  | [d1, d2] => { results := [.lit (.bool false)], args := [d1, d2] }
  | _ => none }
def LedgerDecodesWrongFalsely : Prop := ledgerDecodesRow.holds Tryd.pinned (OpenSpec.ofChange ledgerDecodesWrong)

/-- 'bandplanlaw43.LedgerFull': WHATEVER THE INPUT: true; the input reads as it did. -/
def ledgerFullSpec : ChangeSpec := { name := "ledgerFull", fn := fun _ => fun
  | [d] => { results := [.lit (.bool true)], args := [d] }
  | _ => none }
def ledgerFullRow : OpenClaim := { program := "ytonjpfpdpfonnaadoor", sum := "d4c01ff7f28b5432db161ca06ada47873d699b36af8f546caf639c06e7540bf2", func := "bandplan/bandplanlaw43.LedgerFull", spec := "ledgerFull", unfollowed := true, recurses := true, named := ["bandplan/blake.initial", "bandplan/blake.order"], plainKeys := false, apart := false, laid := [("bandplan/blake.order", laid_bandplan_blake_order), ("bandplan/blake.initial", laid_bandplan_blake_initial)] }
def LedgerFullSaid : Prop := ledgerFullRow.holds Tryd.pinned (OpenSpec.ofChange ledgerFullSpec)

/-- ITS FALSE NEIGHBOUR: 'it returns false'. Refute it at one input. -/
def ledgerFullWrong : ChangeSpec := { name := "ledgerFull", fn := fun _ => fun
  | [d] => { results := [.lit (.bool false)], args := [d] }
  | _ => none }
def LedgerFullWrongFalsely : Prop := ledgerFullRow.holds Tryd.pinned (OpenSpec.ofChange ledgerFullWrong)

/-- 'bandplanlaw43.LedgerNone': WHATEVER THE INPUT: true; the input reads as it did. -/
def ledgerNoneSpec : ChangeSpec := { name := "ledgerNone", fn := fun _ => fun
  | [d1, d2, d3] => { results := [.lit (.bool true)], args := [d1, d2, d3] }
  | _ => none }
def ledgerNoneRow : OpenClaim := { program := "ytonjpfpdpfonnaadoor", sum := "d4c01ff7f28b5432db161ca06ada47873d699b36af8f546caf639c06e7540bf2", func := "bandplan/bandplanlaw43.LedgerNone", spec := "ledgerNone", inPlace := ["maps.clone"], unfollowed := true, recurses := true, named := ["bandplan/blake.initial", "bandplan/blake.order"], plainKeys := false, apart := false, laid := [("bandplan/blake.order", laid_bandplan_blake_order), ("bandplan/blake.initial", laid_bandplan_blake_initial)] }
def LedgerNoneSaid : Prop := ledgerNoneRow.holds Tryd.pinned (OpenSpec.ofChange ledgerNoneSpec)

/-- ITS FALSE NEIGHBOUR: 'it returns false'. Refute it at one input. -/
def ledgerNoneWrong : ChangeSpec := { name := "ledgerNone", fn := fun _ => fun
  | [d1, d2, d3] => { results := [.lit (.bool false)], args := [d1, d2, d3] }
  | _ => none }
def LedgerNoneWrongFalsely : Prop := ledgerNoneRow.holds Tryd.pinned (OpenSpec.ofChange ledgerNoneWrong)

/-- 'bandplanlaw43.LedgerRejects': WHATEVER THE INPUT: true; the input reads as it did. -/
def ledgerRejectsSpec : ChangeSpec := { name := "ledgerRejects", fn := fun _ => fun
  | [d1, d2, d3, d4] => { results := [.lit (.bool true)], args := [d1, d2, d3, d4] }
  | _ => none }
def ledgerRejectsRow : OpenClaim := { program := "ytonjpfpdpfonnaadoor", sum := "d4c01ff7f28b5432db161ca06ada47873d699b36af8f546caf639c06e7540bf2", func := "bandplan/bandplanlaw43.LedgerRejects", spec := "ledgerRejects", unfollowed := true, recurses := true, named := ["bandplan/blake.initial", "bandplan/blake.order"], plainKeys := false, apart := false, laid := [("bandplan/blake.order", laid_bandplan_blake_order), ("bandplan/blake.initial", laid_bandplan_blake_initial)] }
def LedgerRejectsSaid : Prop := ledgerRejectsRow.holds Tryd.pinned (OpenSpec.ofChange ledgerRejectsSpec)

/-- ITS FALSE NEIGHBOUR: 'it returns false'. Refute it at one input. -/
def ledgerRejectsWrong : ChangeSpec := { name := "ledgerRejects", fn := fun _ => fun
  | [d1, d2, d3, d4] => { results := [.lit (.bool false)], args := [d1, d2, d3, d4] }
  | _ => none }
def LedgerRejectsWrongFalsely : Prop := ledgerRejectsRow.holds Tryd.pinned (OpenSpec.ofChange ledgerRejectsWrong)

/-- 'bandplanlaw43.LedgerHolds': WHATEVER THE INPUT: true; the input reads as it did. -/
def ledgerHoldsSpec : ChangeSpec := { name := "ledgerHolds", fn := fun _ => fun
  | [d1, d2] => { results := [.lit (.bool true)], args := [d1, d2] }
  | _ => none }
def ledgerHoldsRow : OpenClaim := { program := "ytonjpfpdpfonnaadoor", sum := "d4c01ff7f28b5432db161ca06ada47873d699b36af8f546caf639c06e7540bf2", func := "bandplan/bandplanlaw43.LedgerHolds", spec := "ledgerHolds", inPlace := ["maps.clone"], unfollowed := true, recurses := true, named := ["bandplan/blake.initial", "bandplan/blake.order"], plainKeys := false, apart := false, laid := [("bandplan/blake.order", laid_bandplan_blake_order), ("bandplan/blake.initial", laid_bandplan_blake_initial)] }
def LedgerHoldsSaid : Prop := ledgerHoldsRow.holds Tryd.pinned (OpenSpec.ofChange ledgerHoldsSpec)

/-- ITS FALSE NEIGHBOUR: 'it returns false'. Refute it at one input. -/
def ledgerHoldsWrong : ChangeSpec := { name := "ledgerHolds", fn := fun _ => fun
  | [d1, d2] => { results := [.lit (.bool false)], args := [d1, d2] }
  | _ => none }
def LedgerHoldsWrongFalsely : Prop := ledgerHoldsRow.holds Tryd.pinned (OpenSpec.ofChange ledgerHoldsWrong)

/- THE SECOND FORM. 'bulk': how many values and letters a reading holds, each counted each time it is reached (what is shared counts as often as it is met; a slice's spare places count too). A statement '..UptoSaid' is the law's where the arguments, and the package variables that the reading takes, are together of bulk at most 1048576: NARROWER than '..Said'. Prove '..Said' where nothing that the law and all that it calls make is longer than what came in: it says more and counts as full. Else prove '..UptoSaid'. A law counts once. -/
mutual
def uptoBulk {H : Type} : DataW H → Nat
  | .lit (.string bytes) => bytes.length + 1
  | .lit _ => 1
  | .nil => 1
  | .ptr d => uptoBulk d + 1
  | .slice elems spare => uptoBulkAll elems + uptoBulkAll spare + 1
  | .agg parts => uptoBulkAll parts + 1
  | .iface _ d => uptoBulk d + 1
  | .map entries => uptoBulkEntries entries + 1
  | .held _ => 1
def uptoBulkAll {H : Type} : List (DataW H) → Nat
  | [] => 0
  | d :: r => uptoBulk d + uptoBulkAll r
def uptoBulkEntries {H : Type} : List (Lit × DataW H) → Nat
  | [] => 0
  | x :: r => uptoBulkEntry x + uptoBulkEntries r
def uptoBulkEntry {H : Type} : Lit × DataW H → Nat
  | (.string bytes, d) => bytes.length + uptoBulk d + 1
  | (_, d) => uptoBulk d + 1
 end
def uptoSmall : (H : Type) → List (DataW H) → Bool := fun _ ds => decide (uptoBulkAll ds ≤ 1048576)
def OpenSpec.upto (s : _root_.Go.ChangeSpec) : _root_.Go.OpenSpec := { _root_.Go.OpenSpec.ofChange s with cond := some uptoSmall }

/-- 'bandplanlaw43.LedgerProves', WHERE WHAT IT READS IS OF BULK AT MOST 1048576: true; the input reads as it did. -/
def ledgerProvesUptoRow : OpenClaim := { program := "ytonjpfpdpfonnaadoor", sum := "d4c01ff7f28b5432db161ca06ada47873d699b36af8f546caf639c06e7540bf2", func := "bandplan/bandplanlaw43.LedgerProves", spec := "ledgerProves", unfollowed := true, recurses := true, named := ["bandplan/blake.initial", "bandplan/blake.order"], plainKeys := false, apart := false, laid := [("bandplan/blake.order", laid_bandplan_blake_order), ("bandplan/blake.initial", laid_bandplan_blake_initial)], narrowed := true }
def LedgerProvesUptoSaid : Prop := ledgerProvesUptoRow.holds Tryd.pinned (OpenSpec.upto ledgerProvesSpec)

/-- 'bandplanlaw43.LedgerAppends', WHERE WHAT IT READS IS OF BULK AT MOST 1048576: true; the input reads as it did. -/
def ledgerAppendsUptoRow : OpenClaim := { program := "ytonjpfpdpfonnaadoor", sum := "d4c01ff7f28b5432db161ca06ada47873d699b36af8f546caf639c06e7540bf2", func := "bandplan/bandplanlaw43.LedgerAppends", spec := "ledgerAppends", unfollowed := true, recurses := true, named := ["bandplan/blake.initial", "bandplan/blake.order"], plainKeys := false, apart := false, laid := [("bandplan/blake.order", laid_bandplan_blake_order), ("bandplan/blake.initial", laid_bandplan_blake_initial)], narrowed := true }
def LedgerAppendsUptoSaid : Prop := ledgerAppendsUptoRow.holds Tryd.pinned (OpenSpec.upto ledgerAppendsSpec)

/-- 'bandplanlaw43.LedgerDecodes', WHERE WHAT IT READS IS OF BULK AT MOST 1048576: true; the input reads as it did. -/
def ledgerDecodesUptoRow : OpenClaim := { program := "ytonjpfpdpfonnaadoor", sum := "d4c01ff7f28b5432db161ca06ada47873d699b36af8f546caf639c06e7540bf2", func := "bandplan/bandplanlaw43.LedgerDecodes", spec := "ledgerDecodes", unfollowed := true, recurses := true, named := ["bandplan/blake.initial", "bandplan/blake.order"], plainKeys := false, apart := false, laid := [("bandplan/blake.order", laid_bandplan_blake_order), ("bandplan/blake.initial", laid_bandplan_blake_initial)], narrowed := true }
def LedgerDecodesUptoSaid : Prop := ledgerDecodesUptoRow.holds Tryd.pinned (OpenSpec.upto ledgerDecodesSpec)

/-- 'bandplanlaw43.LedgerFull', WHERE WHAT IT READS IS OF BULK AT MOST 1048576: true; the input reads as it did. -/
def ledgerFullUptoRow : OpenClaim := { program := "ytonjpfpdpfonnaadoor", sum := "d4c01ff7f28b5432db161ca06ada47873d699b36af8f546caf639c06e7540bf2", func := "bandplan/bandplanlaw43.LedgerFull", spec := "ledgerFull", unfollowed := true, recurses := true, named := ["bandplan/blake.initial", "bandplan/blake.order"], plainKeys := false, apart := false, laid := [("bandplan/blake.order", laid_bandplan_blake_order), ("bandplan/blake.initial", laid_bandplan_blake_initial)], narrowed := true }
def LedgerFullUptoSaid : Prop := ledgerFullUptoRow.holds Tryd.pinned (OpenSpec.upto ledgerFullSpec)

/-- 'bandplanlaw43.LedgerNone', WHERE WHAT IT READS IS OF BULK AT MOST 1048576: true; the input reads as it did. -/
def ledgerNoneUptoRow : OpenClaim := { program := "ytonjpfpdpfonnaadoor", sum := "d4c01ff7f28b5432db161ca06ada47873d699b36af8f546caf639c06e7540bf2", func := "bandplan/bandplanlaw43.LedgerNone", spec := "ledgerNone", inPlace := ["maps.clone"], unfollowed := true, recurses := true, named := ["bandplan/blake.initial", "bandplan/blake.order"], plainKeys := false, apart := false, laid := [("bandplan/blake.order", laid_bandplan_blake_order), ("bandplan/blake.initial", laid_bandplan_blake_initial)], narrowed := true }
def LedgerNoneUptoSaid : Prop := ledgerNoneUptoRow.holds Tryd.pinned (OpenSpec.upto ledgerNoneSpec)

/-- 'bandplanlaw43.LedgerRejects', WHERE WHAT IT READS IS OF BULK AT MOST 1048576: true; the input reads as it did. -/
def ledgerRejectsUptoRow : OpenClaim := { program := "ytonjpfpdpfonnaadoor", sum := "d4c01ff7f28b5432db161ca06ada47873d699b36af8f546caf639c06e7540bf2", func := "bandplan/bandplanlaw43.LedgerRejects", spec := "ledgerRejects", unfollowed := true, recurses := true, named := ["bandplan/blake.initial", "bandplan/blake.order"], plainKeys := false, apart := false, laid := [("bandplan/blake.order", laid_bandplan_blake_order), ("bandplan/blake.initial", laid_bandplan_blake_initial)], narrowed := true }
def LedgerRejectsUptoSaid : Prop := ledgerRejectsUptoRow.holds Tryd.pinned (OpenSpec.upto ledgerRejectsSpec)

/-- 'bandplanlaw43.LedgerHolds', WHERE WHAT IT READS IS OF BULK AT MOST 1048576: true; the input reads as it did. -/
def ledgerHoldsUptoRow : OpenClaim := { program := "ytonjpfpdpfonnaadoor", sum := "d4c01ff7f28b5432db161ca06ada47873d699b36af8f546caf639c06e7540bf2", func := "bandplan/bandplanlaw43.LedgerHolds", spec := "ledgerHolds", inPlace := ["maps.clone"], unfollowed := true, recurses := true, named := ["bandplan/blake.initial", "bandplan/blake.order"], plainKeys := false, apart := false, laid := [("bandplan/blake.order", laid_bandplan_blake_order), ("bandplan/blake.initial", laid_bandplan_blake_initial)], narrowed := true }
def LedgerHoldsUptoSaid : Prop := ledgerHoldsUptoRow.holds Tryd.pinned (OpenSpec.upto ledgerHoldsSpec)

end Rows
end Go.Proofs.YtonjpfpdpfonnaaDoor
