/-
  NARROWER THAN 'FOR EVERY INPUT', by the rows' own cells (each row's printed sentence says how): RoundsSchedules: laid · RoundsOver: laid · RoundsPlays: laid · RoundsReplays: laid · RoundsHide: laid · RoundsNone: laid.
  DERIVED. THE GIVEN ROWS OF THIS SEAT. 6 by the template 'for every input the law returns true; each argument reads behind the call as it read before'; 0 by the template 'total and deterministic' (their statements: YtgokpcnabgacnaaGreatDoorTotals.lean).
  GIVEN WITH THE SEED: the statements are not yours to turn. If you find one false, say at which input.
  Laid BY PROGRAM, IN A SANDBOX (cutbox-rows.mjs): the forced cells as the released guide's own fill.sh prints them over the translation 6ee4ff471d4ec879… (all of the seat's roots in one cut). By AI agents, Wed Nov 11 2026. No macro, syntax, notation, axiom, sorry.
-/
import Derived.Test.YtgokpcnabgacnaaGreatDoorChecked
import GoSem.Claim
import GoSem.ClaimJoined
import GoSem.ClaimMapViews
import Derived.JoinedTies
import Derived.KernelRfl
namespace Go.Proofs.YtgokpcnabgacnaaGreatDoor
/- THE CELL 'sum', in the pinned program and in every row, IS THE sha256 OF THE DUMP (.gsa) THAT YtgokpcnabgacnaaGreatDoorProg.lean LOADS. Nothing in Lean hashes anything: it is a label: what it is worth is what the hold of that sum in a sandbox is worth. -/
noncomputable def Tryz.pinned : Pinned := { name := "ytgokpcnabgacnaagreatdoor", sum := "6ee4ff471d4ec879f52d9f44be0bae1be21f9b08cb33b98360579ff9610582ff", checked := Tryz.checked }
namespace Rows
def none {H : Type} : Left H := { results := [], args := [] }

/- WHAT THE LISTED PACKAGE-LEVEL VARIABLES READ AS WHEN THE CALL BEGINS. Each datum BY PROGRAM (the guide's laid-datum.mjs) off the statement by which the dump's own 'gosem.cut.vars' lays the variable. In a bare row this is a premise. The card (YtgokpcnabgacnaaGreatDoorCards.lean) ties it to the program's text. -/
def laid_bandplan_blake_order {H : Type} : DataW H := .agg [.agg [.lit (.int .u8 0), .lit (.int .u8 1), .lit (.int .u8 2), .lit (.int .u8 3), .lit (.int .u8 4), .lit (.int .u8 5), .lit (.int .u8 6), .lit (.int .u8 7), .lit (.int .u8 8), .lit (.int .u8 9), .lit (.int .u8 10), .lit (.int .u8 11), .lit (.int .u8 12), .lit (.int .u8 13), .lit (.int .u8 14), .lit (.int .u8 15)], .agg [.lit (.int .u8 14), .lit (.int .u8 10), .lit (.int .u8 4), .lit (.int .u8 8), .lit (.int .u8 9), .lit (.int .u8 15), .lit (.int .u8 13), .lit (.int .u8 6), .lit (.int .u8 1), .lit (.int .u8 12), .lit (.int .u8 0), .lit (.int .u8 2), .lit (.int .u8 11), .lit (.int .u8 7), .lit (.int .u8 5), .lit (.int .u8 3)], .agg [.lit (.int .u8 11), .lit (.int .u8 8), .lit (.int .u8 12), .lit (.int .u8 0), .lit (.int .u8 5), .lit (.int .u8 2), .lit (.int .u8 15), .lit (.int .u8 13), .lit (.int .u8 10), .lit (.int .u8 14), .lit (.int .u8 3), .lit (.int .u8 6), .lit (.int .u8 7), .lit (.int .u8 1), .lit (.int .u8 9), .lit (.int .u8 4)], .agg [.lit (.int .u8 7), .lit (.int .u8 9), .lit (.int .u8 3), .lit (.int .u8 1), .lit (.int .u8 13), .lit (.int .u8 12), .lit (.int .u8 11), .lit (.int .u8 14), .lit (.int .u8 2), .lit (.int .u8 6), .lit (.int .u8 5), .lit (.int .u8 10), .lit (.int .u8 4), .lit (.int .u8 0), .lit (.int .u8 15), .lit (.int .u8 8)], .agg [.lit (.int .u8 9), .lit (.int .u8 0), .lit (.int .u8 5), .lit (.int .u8 7), .lit (.int .u8 2), .lit (.int .u8 4), .lit (.int .u8 10), .lit (.int .u8 15), .lit (.int .u8 14), .lit (.int .u8 1), .lit (.int .u8 11), .lit (.int .u8 12), .lit (.int .u8 6), .lit (.int .u8 8), .lit (.int .u8 3), .lit (.int .u8 13)], .agg [.lit (.int .u8 2), .lit (.int .u8 12), .lit (.int .u8 6), .lit (.int .u8 10), .lit (.int .u8 0), .lit (.int .u8 11), .lit (.int .u8 8), .lit (.int .u8 3), .lit (.int .u8 4), .lit (.int .u8 13), .lit (.int .u8 7), .lit (.int .u8 5), .lit (.int .u8 15), .lit (.int .u8 14), .lit (.int .u8 1), .lit (.int .u8 9)], .agg [.lit (.int .u8 12), .lit (.int .u8 5), .lit (.int .u8 1), .lit (.int .u8 15), .lit (.int .u8 14), .lit (.int .u8 13), .lit (.int .u8 4), .lit (.int .u8 10), .lit (.int .u8 0), .lit (.int .u8 7), .lit (.int .u8 6), .lit (.int .u8 3), .lit (.int .u8 9), .lit (.int .u8 2), .lit (.int .u8 8), .lit (.int .u8 11)], .agg [.lit (.int .u8 13), .lit (.int .u8 11), .lit (.int .u8 7), .lit (.int .u8 14), .lit (.int .u8 12), .lit (.int .u8 1), .lit (.int .u8 3), .lit (.int .u8 9), .lit (.int .u8 5), .lit (.int .u8 0), .lit (.int .u8 15), .lit (.int .u8 4), .lit (.int .u8 8), .lit (.int .u8 6), .lit (.int .u8 2), .lit (.int .u8 10)], .agg [.lit (.int .u8 6), .lit (.int .u8 15), .lit (.int .u8 14), .lit (.int .u8 9), .lit (.int .u8 11), .lit (.int .u8 3), .lit (.int .u8 0), .lit (.int .u8 8), .lit (.int .u8 12), .lit (.int .u8 2), .lit (.int .u8 13), .lit (.int .u8 7), .lit (.int .u8 1), .lit (.int .u8 4), .lit (.int .u8 10), .lit (.int .u8 5)], .agg [.lit (.int .u8 10), .lit (.int .u8 2), .lit (.int .u8 8), .lit (.int .u8 4), .lit (.int .u8 7), .lit (.int .u8 6), .lit (.int .u8 1), .lit (.int .u8 5), .lit (.int .u8 15), .lit (.int .u8 11), .lit (.int .u8 9), .lit (.int .u8 14), .lit (.int .u8 3), .lit (.int .u8 12), .lit (.int .u8 13), .lit (.int .u8 0)]]
def laid_bandplan_blake_initial {H : Type} : DataW H := .agg [.lit (.int .u32 1779033703), .lit (.int .u32 3144134277), .lit (.int .u32 1013904242), .lit (.int .u32 2773480762), .lit (.int .u32 1359893119), .lit (.int .u32 2600822924), .lit (.int .u32 528734635), .lit (.int .u32 1541459225)]

/-- 'bandplanlaw44.RoundsSchedules': WHATEVER THE INPUT: true; the input reads as it did. -/
def roundsSchedulesSpec : ChangeSpec := { name := "roundsSchedules", fn := fun _ => fun
  | [d1, d2, d3, d4] => { results := [.lit (.bool true)], args := [d1, d2, d3, d4] }
  | _ => none }
def roundsSchedulesRow : OpenClaim := { program := "ytgokpcnabgacnaagreatdoor", sum := "6ee4ff471d4ec879f52d9f44be0bae1be21f9b08cb33b98360579ff9610582ff", func := "bandplan/bandplanlaw44.RoundsSchedules", spec := "roundsSchedules", inPlace := ["slices.overlaps[string]", "maps.clone"], unfollowed := true, recurses := true, named := ["bandplan/blake.initial", "bandplan/blake.order"], plainKeys := false, apart := false, laid := [("bandplan/blake.order", laid_bandplan_blake_order), ("bandplan/blake.initial", laid_bandplan_blake_initial)] }
def RoundsSchedulesSaid : Prop := roundsSchedulesRow.holds Tryz.pinned (OpenSpec.ofChange roundsSchedulesSpec)

/-- ITS FALSE NEIGHBOUR: 'it returns false'. Refute it at one input. -/
def roundsSchedulesWrong : ChangeSpec := { name := "roundsSchedules", fn := fun _ => fun
  | [d1, d2, d3, d4] => { results := [.lit (.bool false)], args := [d1, d2, d3, d4] }
  | _ => none }
def RoundsSchedulesWrongFalsely : Prop := roundsSchedulesRow.holds Tryz.pinned (OpenSpec.ofChange roundsSchedulesWrong)

/-- 'bandplanlaw44.RoundsOver': WHATEVER THE INPUT: true; the input reads as it did. -/
def roundsOverSpec : ChangeSpec := { name := "roundsOver", fn := fun _ => fun
  | [d1, d2, d3] => { results := [.lit (.bool true)], args := [d1, d2, d3] }
  | _ => none }
def roundsOverRow : OpenClaim := { program := "ytgokpcnabgacnaagreatdoor", sum := "6ee4ff471d4ec879f52d9f44be0bae1be21f9b08cb33b98360579ff9610582ff", func := "bandplan/bandplanlaw44.RoundsOver", spec := "roundsOver", inPlace := ["slices.overlaps[string]", "maps.clone"], unfollowed := true, recurses := true, named := ["bandplan/blake.initial", "bandplan/blake.order"], plainKeys := false, apart := false, laid := [("bandplan/blake.order", laid_bandplan_blake_order), ("bandplan/blake.initial", laid_bandplan_blake_initial)] }
def RoundsOverSaid : Prop := roundsOverRow.holds Tryz.pinned (OpenSpec.ofChange roundsOverSpec)

/-- ITS FALSE NEIGHBOUR: 'it returns false'. Refute it at one input. -/
def roundsOverWrong : ChangeSpec := { name := "roundsOver", fn := fun _ => fun
  | [d1, d2, d3] => { results := [.lit (.bool false)], args := [d1, d2, d3] }
  | _ => none }
def RoundsOverWrongFalsely : Prop := roundsOverRow.holds Tryz.pinned (OpenSpec.ofChange roundsOverWrong)

/-- 'bandplanlaw44.RoundsPlays': WHATEVER THE INPUT: true; the input reads as it did. -/
def roundsPlaysSpec : ChangeSpec := { name := "roundsPlays", fn := fun _ => fun
  | [d] => { results := [.lit (.bool true)], args := [d] }
  | _ => none }
def roundsPlaysRow : OpenClaim := { program := "ytgokpcnabgacnaagreatdoor", sum := "6ee4ff471d4ec879f52d9f44be0bae1be21f9b08cb33b98360579ff9610582ff", func := "bandplan/bandplanlaw44.RoundsPlays", spec := "roundsPlays", inPlace := ["slices.overlaps[string]", "maps.clone"], unfollowed := true, recurses := true, named := ["bandplan/blake.initial", "bandplan/blake.order"], plainKeys := false, apart := false, laid := [("bandplan/blake.order", laid_bandplan_blake_order), ("bandplan/blake.initial", laid_bandplan_blake_initial)] }
def RoundsPlaysSaid : Prop := roundsPlaysRow.holds Tryz.pinned (OpenSpec.ofChange roundsPlaysSpec)

/-- ITS FALSE NEIGHBOUR: 'it returns false'. Refute it at one input. -/
def roundsPlaysWrong : ChangeSpec := { name := "roundsPlays", fn := fun _ => fun
  | [d] => { results := [.lit (.bool false)], args := [d] }
  | _ => none }
def RoundsPlaysWrongFalsely : Prop := roundsPlaysRow.holds Tryz.pinned (OpenSpec.ofChange roundsPlaysWrong)

/-- 'bandplanlaw44.RoundsReplays': WHATEVER THE INPUT: true; the input reads as it did. -/
def roundsReplaysSpec : ChangeSpec := { name := "roundsReplays", fn := fun _ => fun
  | [d1, d2, d3, d4] => { results := [.lit (.bool true)], args := [d1, d2, d3, d4] }
  | _ => none }
def roundsReplaysRow : OpenClaim := { program := "ytgokpcnabgacnaagreatdoor", sum := "6ee4ff471d4ec879f52d9f44be0bae1be21f9b08cb33b98360579ff9610582ff", func := "bandplan/bandplanlaw44.RoundsReplays", spec := "roundsReplays", inPlace := ["slices.overlaps[string]", "maps.clone"], unfollowed := true, recurses := true, named := ["bandplan/blake.initial", "bandplan/blake.order"], plainKeys := false, apart := false, laid := [("bandplan/blake.order", laid_bandplan_blake_order), ("bandplan/blake.initial", laid_bandplan_blake_initial)] }
def RoundsReplaysSaid : Prop := roundsReplaysRow.holds Tryz.pinned (OpenSpec.ofChange roundsReplaysSpec)

/-- ITS FALSE NEIGHBOUR: 'it returns false'. Refute it at one input. -/
def roundsReplaysWrong : ChangeSpec := { name := "roundsReplays", fn := fun _ => fun
  | [d1, d2, d3, d4] => { results := [.lit (.bool false)], args := [d1, d2, d3, d4] }
  | _ => none }
def RoundsReplaysWrongFalsely : Prop := roundsReplaysRow.holds Tryz.pinned (OpenSpec.ofChange roundsReplaysWrong)

/-- 'bandplanlaw44.RoundsHide': WHATEVER THE INPUT: true; the input reads as it did. -/
def roundsHideSpec : ChangeSpec := { name := "roundsHide", fn := fun _ => fun
  | [d] => { results := [.lit (.bool true)], args := [d] }
  | _ => none }
def roundsHideRow : OpenClaim := { program := "ytgokpcnabgacnaagreatdoor", sum := "6ee4ff471d4ec879f52d9f44be0bae1be21f9b08cb33b98360579ff9610582ff", func := "bandplan/bandplanlaw44.RoundsHide", spec := "roundsHide", inPlace := ["slices.overlaps[string]", "maps.clone"], unfollowed := true, recurses := true, named := ["bandplan/blake.initial", "bandplan/blake.order"], plainKeys := false, apart := false, laid := [("bandplan/blake.order", laid_bandplan_blake_order), ("bandplan/blake.initial", laid_bandplan_blake_initial)] }
def RoundsHideSaid : Prop := roundsHideRow.holds Tryz.pinned (OpenSpec.ofChange roundsHideSpec)

/-- ITS FALSE NEIGHBOUR: 'it returns false'. Refute it at one input. -/
def roundsHideWrong : ChangeSpec := { name := "roundsHide", fn := fun _ => fun
  | [d] => { results := [.lit (.bool false)], args := [d] }
  | _ => none }
def RoundsHideWrongFalsely : Prop := roundsHideRow.holds Tryz.pinned (OpenSpec.ofChange roundsHideWrong)

/-- 'bandplanlaw44.RoundsNone': WHATEVER THE INPUT: true; the input reads as it did. -/
def roundsNoneSpec : ChangeSpec := { name := "roundsNone", fn := fun _ => fun
  | [d1, d2] => { results := [.lit (.bool true)], args := [d1, d2] }
  | _ => none }
def roundsNoneRow : OpenClaim := { program := "ytgokpcnabgacnaagreatdoor", sum := "6ee4ff471d4ec879f52d9f44be0bae1be21f9b08cb33b98360579ff9610582ff", func := "bandplan/bandplanlaw44.RoundsNone", spec := "roundsNone", inPlace := ["slices.overlaps[string]", "maps.clone"], unfollowed := true, recurses := true, named := ["bandplan/blake.initial", "bandplan/blake.order"], plainKeys := false, apart := false, laid := [("bandplan/blake.order", laid_bandplan_blake_order), ("bandplan/blake.initial", laid_bandplan_blake_initial)] }
def RoundsNoneSaid : Prop := roundsNoneRow.holds Tryz.pinned (OpenSpec.ofChange roundsNoneSpec)

/-- ITS FALSE NEIGHBOUR: 'it returns false'. Refute it at one input. -/
def roundsNoneWrong : ChangeSpec := { name := "roundsNone", fn := fun _ => fun
  | [d1, d2] => { results := [.lit (.bool false)], args := [d1, d2] }
  | _ => none }
def RoundsNoneWrongFalsely : Prop := roundsNoneRow.holds Tryz.pinned (OpenSpec.ofChange roundsNoneWrong)

/- THE SECOND FORM. 'bulk': how many values and letters a reading holds, each counted each time it is reached (what is shared counts as often as it is met; a slice's spare places count too). A statement '..UptoSaid' is the law's where the arguments, and the package variables that the reading takes, are together of bulk at most 1048576: NARROWER than '..Said'. Prove '..Said' where nothing that the law and all that it calls make is longer than what came in: it says more and counts as full. Else prove '..UptoSaid'. A law counts once. -/
mutual
def uptoBulk {H : Type} : DataW H → Nat
  | .lit (.string bytes) => bytes.length + 1
  | .lit _ => 1
  | .nil => 1
  | .ptr d => uptoBulk d + 1
  | .slice elems spare => uptoBulkAll elems + uptoBulkAll spare + 1
  | .agg parts => uptoBulkAll parts + 1
  | .iface _ d => uptoBulk d + 1
  | .map entries => uptoBulkEntries entries + 1
  | .held _ => 1
def uptoBulkAll {H : Type} : List (DataW H) → Nat
  | [] => 0
  | d :: r => uptoBulk d + uptoBulkAll r
def uptoBulkEntries {H : Type} : List (Lit × DataW H) → Nat
  | [] => 0
  | x :: r => uptoBulkEntry x + uptoBulkEntries r
def uptoBulkEntry {H : Type} : Lit × DataW H → Nat
  | (.string bytes, d) => bytes.length + uptoBulk d + 1
  | (_, d) => uptoBulk d + 1
 end
def uptoSmall : (H : Type) → List (DataW H) → Bool := fun _ ds => decide (uptoBulkAll ds ≤ 1048576)
def OpenSpec.upto (s : _root_.Go.ChangeSpec) : _root_.Go.OpenSpec := { _root_.Go.OpenSpec.ofChange s with cond := some uptoSmall }

/-- 'bandplanlaw44.RoundsSchedules', WHERE WHAT IT READS IS OF BULK AT MOST 1048576: true; the input reads as it did. -/
def roundsSchedulesUptoRow : OpenClaim := { program := "ytgokpcnabgacnaagreatdoor", sum := "6ee4ff471d4ec879f52d9f44be0bae1be21f9b08cb33b98360579ff9610582ff", func := "bandplan/bandplanlaw44.RoundsSchedules", spec := "roundsSchedules", inPlace := ["slices.overlaps[string]", "maps.clone"], unfollowed := true, recurses := true, named := ["bandplan/blake.initial", "bandplan/blake.order"], plainKeys := false, apart := false, laid := [("bandplan/blake.order", laid_bandplan_blake_order), ("bandplan/blake.initial", laid_bandplan_blake_initial)], narrowed := true }
def RoundsSchedulesUptoSaid : Prop := roundsSchedulesUptoRow.holds Tryz.pinned (OpenSpec.upto roundsSchedulesSpec)

/-- 'bandplanlaw44.RoundsOver', WHERE WHAT IT READS IS OF BULK AT MOST 1048576: true; the input reads as it did. -/
def roundsOverUptoRow : OpenClaim := { program := "ytgokpcnabgacnaagreatdoor", sum := "6ee4ff471d4ec879f52d9f44be0bae1be21f9b08cb33b98360579ff9610582ff", func := "bandplan/bandplanlaw44.RoundsOver", spec := "roundsOver", inPlace := ["slices.overlaps[string]", "maps.clone"], unfollowed := true, recurses := true, named := ["bandplan/blake.initial", "bandplan/blake.order"], plainKeys := false, apart := false, laid := [("bandplan/blake.order", laid_bandplan_blake_order), ("bandplan/blake.initial", laid_bandplan_blake_initial)], narrowed := true }
def RoundsOverUptoSaid : Prop := roundsOverUptoRow.holds Tryz.pinned (OpenSpec.upto roundsOverSpec)

/-- 'bandplanlaw44.RoundsPlays', WHERE WHAT IT READS IS OF BULK AT MOST 1048576: true; the input reads as it did. -/
def roundsPlaysUptoRow : OpenClaim := { program := "ytgokpcnabgacnaagreatdoor", sum := "6ee4ff471d4ec879f52d9f44be0bae1be21f9b08cb33b98360579ff9610582ff", func := "bandplan/bandplanlaw44.RoundsPlays", spec := "roundsPlays", inPlace := ["slices.overlaps[string]", "maps.clone"], unfollowed := true, recurses := true, named := ["bandplan/blake.initial", "bandplan/blake.order"], plainKeys := false, apart := false, laid := [("bandplan/blake.order", laid_bandplan_blake_order), ("bandplan/blake.initial", laid_bandplan_blake_initial)], narrowed := true }
def RoundsPlaysUptoSaid : Prop := roundsPlaysUptoRow.holds Tryz.pinned (OpenSpec.upto roundsPlaysSpec)

/-- 'bandplanlaw44.RoundsReplays', WHERE WHAT IT READS IS OF BULK AT MOST 1048576: true; the input reads as it did. -/
def roundsReplaysUptoRow : OpenClaim := { program := "ytgokpcnabgacnaagreatdoor", sum := "6ee4ff471d4ec879f52d9f44be0bae1be21f9b08cb33b98360579ff9610582ff", func := "bandplan/bandplanlaw44.RoundsReplays", spec := "roundsReplays", inPlace := ["slices.overlaps[string]", "maps.clone"], unfollowed := true, recurses := true, named := ["bandplan/blake.initial", "bandplan/blake.order"], plainKeys := false, apart := false, laid := [("bandplan/blake.order", laid_bandplan_blake_order), ("bandplan/blake.initial", laid_bandplan_blake_initial)], narrowed := true }
def RoundsReplaysUptoSaid : Prop := roundsReplaysUptoRow.holds Tryz.pinned (OpenSpec.upto roundsReplaysSpec)

/-- 'bandplanlaw44.RoundsHide', WHERE WHAT IT READS IS OF BULK AT MOST 1048576: true; the input reads as it did. -/
def roundsHideUptoRow : OpenClaim := { program := "ytgokpcnabgacnaagreatdoor", sum := "6ee4ff471d4ec879f52d9f44be0bae1be21f9b08cb33b98360579ff9610582ff", func := "bandplan/bandplanlaw44.RoundsHide", spec := "roundsHide", inPlace := ["slices.overlaps[string]", "maps.clone"], unfollowed := true, recurses := true, named := ["bandplan/blake.initial", "bandplan/blake.order"], plainKeys := false, apart := false, laid := [("bandplan/blake.order", laid_bandplan_blake_order), ("bandplan/blake.initial", laid_bandplan_blake_initial)], narrowed := true }
def RoundsHideUptoSaid : Prop := roundsHideUptoRow.holds Tryz.pinned (OpenSpec.upto roundsHideSpec)

/-- 'bandplanlaw44.RoundsNone', WHERE WHAT IT READS IS OF BULK AT MOST 1048576: true; the input reads as it did. -/
def roundsNoneUptoRow : OpenClaim := { program := "ytgokpcnabgacnaagreatdoor", sum := "6ee4ff471d4ec879f52d9f44be0bae1be21f9b08cb33b98360579ff9610582ff", func := "bandplan/bandplanlaw44.RoundsNone", spec := "roundsNone", inPlace := ["slices.overlaps[string]", "maps.clone"], unfollowed := true, recurses := true, named := ["bandplan/blake.initial", "bandplan/blake.order"], plainKeys := false, apart := false, laid := [("bandplan/blake.order", laid_bandplan_blake_order), ("bandplan/blake.initial", laid_bandplan_blake_initial)], narrowed := true }
def RoundsNoneUptoSaid : Prop := roundsNoneUptoRow.holds Tryz.pinned (OpenSpec.upto roundsNoneSpec)

end Rows
end Go.Proofs.YtgokpcnabgacnaaGreatDoor
