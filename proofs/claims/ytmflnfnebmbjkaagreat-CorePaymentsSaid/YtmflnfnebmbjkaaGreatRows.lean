/-
  No cell of these rows narrows 'for every input' (looked for: loops, veiled, ifaces, maps, wideKeys, modest, calm, conditions, laid).
  DERIVED. THE GIVEN ROWS OF THIS SEAT. 6 by the template 'for every input the law returns true; each argument reads behind the call as it read before'; 0 by the template 'total and deterministic' (their statements: YtmflnfnebmbjkaaGreatTotals.lean).
  GIVEN WITH THE SEED: the statements are not yours to turn. If you find one false, say at which input.
  Laid BY PROGRAM, IN A SANDBOX (cutbox-rows.mjs): the forced cells as the released guide's own fill.sh prints them over the translation 5f7d43bcae778f94… (all of the seat's roots in one cut). By AI agents, Wed Nov 11 2026. No macro, syntax, notation, axiom, sorry.
-/
import Derived.Test.YtmflnfnebmbjkaaGreatChecked
import GoSem.Claim
import GoSem.ClaimJoined
import GoSem.ClaimMapViews
import Derived.JoinedTies
import Derived.KernelRfl
namespace Go.Proofs.YtmflnfnebmbjkaaGreat
/- THE CELL 'sum', in the pinned program and in every row, IS THE sha256 OF THE DUMP (.gsa) THAT YtmflnfnebmbjkaaGreatProg.lean LOADS. Nothing in Lean hashes anything: it is a label: what it is worth is what the hold of that sum in a sandbox is worth. -/
noncomputable def Tryz.pinned : Pinned := { name := "ytmflnfnebmbjkaagreat", sum := "5f7d43bcae778f94c6c1c1f330c39d6369b05a25877951dc0dba05c157a40e49", checked := Tryz.checked }
namespace Rows
def none {H : Type} : Left H := { results := [], args := [] }

/-- 'bandplanlaw40.CoreValues': WHATEVER THE INPUT: true; the input reads as it did. -/
def coreValuesSpec : ChangeSpec := { name := "coreValues", fn := fun _ => fun
  | [d1, d2, d3] => { results := [.lit (.bool true)], args := [d1, d2, d3] }
  | _ => none }
def coreValuesRow : OpenClaim := { program := "ytmflnfnebmbjkaagreat", sum := "5f7d43bcae778f94c6c1c1f330c39d6369b05a25877951dc0dba05c157a40e49", func := "bandplan/bandplanlaw40.CoreValues", spec := "coreValues", unfollowed := true, recurses := true, apart := false }
def CoreValuesSaid : Prop := coreValuesRow.holds Tryz.pinned (OpenSpec.ofChange coreValuesSpec)

/-- ITS FALSE NEIGHBOUR: 'it returns false'. Refute it at one input. -/
def coreValuesWrong : ChangeSpec := { name := "coreValues", fn := fun _ => fun
  | [d1, d2, d3] => { results := [.lit (.bool false)], args := [d1, d2, d3] }
  | _ => none }
def CoreValuesWrongFalsely : Prop := coreValuesRow.holds Tryz.pinned (OpenSpec.ofChange coreValuesWrong)

/-- 'bandplanlaw40.CoreBids': WHATEVER THE INPUT: true; the input reads as it did. -/
def coreBidsSpec : ChangeSpec := { name := "coreBids", fn := fun _ => fun
  | [d1, d2, d3] => { results := [.lit (.bool true)], args := [d1, d2, d3] }
  | _ => none }
def coreBidsRow : OpenClaim := { program := "ytmflnfnebmbjkaagreat", sum := "5f7d43bcae778f94c6c1c1f330c39d6369b05a25877951dc0dba05c157a40e49", func := "bandplan/bandplanlaw40.CoreBids", spec := "coreBids", unfollowed := true, recurses := true, apart := false }
def CoreBidsSaid : Prop := coreBidsRow.holds Tryz.pinned (OpenSpec.ofChange coreBidsSpec)

/-- ITS FALSE NEIGHBOUR: 'it returns false'. Refute it at one input. -/
def coreBidsWrong : ChangeSpec := { name := "coreBids", fn := fun _ => fun
  | [d1, d2, d3] => { results := [.lit (.bool false)], args := [d1, d2, d3] }
  | _ => none }
def CoreBidsWrongFalsely : Prop := coreBidsRow.holds Tryz.pinned (OpenSpec.ofChange coreBidsWrong)

/-- 'bandplanlaw40.CoreBlocking': WHATEVER THE INPUT: true; the input reads as it did. -/
def coreBlockingSpec : ChangeSpec := { name := "coreBlocking", fn := fun _ => fun
  | [d1, d2, d3, d4] => { results := [.lit (.bool true)], args := [d1, d2, d3, d4] }
  | _ => none }
def coreBlockingRow : OpenClaim := { program := "ytmflnfnebmbjkaagreat", sum := "5f7d43bcae778f94c6c1c1f330c39d6369b05a25877951dc0dba05c157a40e49", func := "bandplan/bandplanlaw40.CoreBlocking", spec := "coreBlocking", unfollowed := true, recurses := true, apart := false }
def CoreBlockingSaid : Prop := coreBlockingRow.holds Tryz.pinned (OpenSpec.ofChange coreBlockingSpec)

/-- ITS FALSE NEIGHBOUR: 'it returns false'. Refute it at one input. -/
def coreBlockingWrong : ChangeSpec := { name := "coreBlocking", fn := fun _ => fun
  | [d1, d2, d3, d4] => { results := [.lit (.bool false)], args := [d1, d2, d3, d4] }
  | _ => none }
def CoreBlockingWrongFalsely : Prop := coreBlockingRow.holds Tryz.pinned (OpenSpec.ofChange coreBlockingWrong)

/-- 'bandplanlaw40.CoreThreshold': WHATEVER THE INPUT: true; the input reads as it did. -/
def coreThresholdSpec : ChangeSpec := { name := "coreThreshold", fn := fun _ => fun
  | [d1, d2, d3] => { results := [.lit (.bool true)], args := [d1, d2, d3] }
  | _ => none }
def coreThresholdRow : OpenClaim := { program := "ytmflnfnebmbjkaagreat", sum := "5f7d43bcae778f94c6c1c1f330c39d6369b05a25877951dc0dba05c157a40e49", func := "bandplan/bandplanlaw40.CoreThreshold", spec := "coreThreshold", unfollowed := true, recurses := true, apart := false }
def CoreThresholdSaid : Prop := coreThresholdRow.holds Tryz.pinned (OpenSpec.ofChange coreThresholdSpec)

/-- ITS FALSE NEIGHBOUR: 'it returns false'. Refute it at one input. -/
def coreThresholdWrong : ChangeSpec := { name := "coreThreshold", fn := fun _ => fun
  | [d1, d2, d3] => { results := [.lit (.bool false)], args := [d1, d2, d3] }
  | _ => none }
def CoreThresholdWrongFalsely : Prop := coreThresholdRow.holds Tryz.pinned (OpenSpec.ofChange coreThresholdWrong)

/-- 'bandplanlaw40.CorePayments': WHATEVER THE INPUT: true; the input reads as it did. -/
def corePaymentsSpec : ChangeSpec := { name := "corePayments", fn := fun _ => fun
  | [d1, d2, d3] => { results := [.lit (.bool true)], args := [d1, d2, d3] }
  | _ => none }
def corePaymentsRow : OpenClaim := { program := "ytmflnfnebmbjkaagreat", sum := "5f7d43bcae778f94c6c1c1f330c39d6369b05a25877951dc0dba05c157a40e49", func := "bandplan/bandplanlaw40.CorePayments", spec := "corePayments", unfollowed := true, recurses := true, apart := false }
def CorePaymentsSaid : Prop := corePaymentsRow.holds Tryz.pinned (OpenSpec.ofChange corePaymentsSpec)

/-- ITS FALSE NEIGHBOUR: 'it returns false'. Refute it at one input. -/
def corePaymentsWrong : ChangeSpec := { name := "corePayments", fn := fun _ => fun
  | [d1, d2, d3] => { results := [.lit (.bool false)], args := [d1, d2, d3] }
  | _ => none }
def CorePaymentsWrongFalsely : Prop := corePaymentsRow.holds Tryz.pinned (OpenSpec.ofChange corePaymentsWrong)

/-- 'bandplanlaw40.CoreHolds': WHATEVER THE INPUT: true; the input reads as it did. -/
def coreHoldsSpec : ChangeSpec := { name := "coreHolds", fn := fun _ => fun
  | [d1, d2, d3, d4] => { results := [.lit (.bool true)], args := [d1, d2, d3, d4] }
  | _ => none }
def coreHoldsRow : OpenClaim := { program := "ytmflnfnebmbjkaagreat", sum := "5f7d43bcae778f94c6c1c1f330c39d6369b05a25877951dc0dba05c157a40e49", func := "bandplan/bandplanlaw40.CoreHolds", spec := "coreHolds", unfollowed := true, recurses := true, apart := false }
def CoreHoldsSaid : Prop := coreHoldsRow.holds Tryz.pinned (OpenSpec.ofChange coreHoldsSpec)

/-- ITS FALSE NEIGHBOUR: 'it returns false'. Refute it at one input. -/
def coreHoldsWrong : ChangeSpec := { name := "coreHolds", fn := fun _ => fun
  | [d1, d2, d3, d4] => { results := [.lit (.bool false)], args := [d1, d2, d3, d4] }
  | _ => none }
def CoreHoldsWrongFalsely : Prop := coreHoldsRow.holds Tryz.pinned (OpenSpec.ofChange coreHoldsWrong)

/- THE SECOND FORM. 'bulk': how many values and letters a reading holds, each counted each time it is reached (what is shared counts as often as it is met; a slice's spare places count too). A statement '..UptoSaid' is the law's where the arguments, and the package variables that the reading takes, are together of bulk at most 1048576: NARROWER than '..Said'. Prove '..Said' where nothing that the law and all that it calls make is longer than what came in: it says more and counts as full. Else prove '..UptoSaid'. A law counts once. -/
mutual
def uptoBulk {H : Type} : DataW H → Nat
  | .lit (.string bytes) => bytes.length + 1
  | .lit _ => 1
  | .nil => 1
  | .ptr d => uptoBulk d + 1
  | .slice elems spare => uptoBulkAll elems + uptoBulkAll spare + 1
  | .agg parts => uptoBulkAll parts + 1
  | .iface _ d => uptoBulk d + 1
  | .map entries => uptoBulkEntries entries + 1
  | .held _ => 1
def uptoBulkAll {H : Type} : List (DataW H) → Nat
  | [] => 0
  | d :: r => uptoBulk d + uptoBulkAll r
def uptoBulkEntries {H : Type} : List (Lit × DataW H) → Nat
  | [] => 0
  | x :: r => uptoBulkEntry x + uptoBulkEntries r
def uptoBulkEntry {H : Type} : Lit × DataW H → Nat
  | (.string bytes, d) => bytes.length + uptoBulk d + 1
  | (_, d) => uptoBulk d + 1
 end
def uptoSmall : (H : Type) → List (DataW H) → Bool := fun _ ds => decide (uptoBulkAll ds ≤ 1048576)
def OpenSpec.upto (s : _root_.Go.ChangeSpec) : _root_.Go.OpenSpec := { _root_.Go.OpenSpec.ofChange s with cond := some uptoSmall }

/-- 'bandplanlaw40.CoreValues', WHERE WHAT IT READS IS OF BULK AT MOST 1048576: true; the input reads as it did. -/
def coreValuesUptoRow : OpenClaim := { program := "ytmflnfnebmbjkaagreat", sum := "5f7d43bcae778f94c6c1c1f330c39d6369b05a25877951dc0dba05c157a40e49", func := "bandplan/bandplanlaw40.CoreValues", spec := "coreValues", unfollowed := true, recurses := true, apart := false, narrowed := true }
def CoreValuesUptoSaid : Prop := coreValuesUptoRow.holds Tryz.pinned (OpenSpec.upto coreValuesSpec)

/-- 'bandplanlaw40.CoreBids', WHERE WHAT IT READS IS OF BULK AT MOST 1048576: true; the input reads as it did. -/
def coreBidsUptoRow : OpenClaim := { program := "ytmflnfnebmbjkaagreat", sum := "5f7d43bcae778f94c6c1c1f330c39d6369b05a25877951dc0dba05c157a40e49", func := "bandplan/bandplanlaw40.CoreBids", spec := "coreBids", unfollowed := true, recurses := true, apart := false, narrowed := true }
def CoreBidsUptoSaid : Prop := coreBidsUptoRow.holds Tryz.pinned (OpenSpec.upto coreBidsSpec)

/-- 'bandplanlaw40.CoreBlocking', WHERE WHAT IT READS IS OF BULK AT MOST 1048576: true; the input reads as it did. -/
def coreBlockingUptoRow : OpenClaim := { program := "ytmflnfnebmbjkaagreat", sum := "5f7d43bcae778f94c6c1c1f330c39d6369b05a25877951dc0dba05c157a40e49", func := "bandplan/bandplanlaw40.CoreBlocking", spec := "coreBlocking", unfollowed := true, recurses := true, apart := false, narrowed := true }
def CoreBlockingUptoSaid : Prop := coreBlockingUptoRow.holds Tryz.pinned (OpenSpec.upto coreBlockingSpec)

/-- 'bandplanlaw40.CoreThreshold', WHERE WHAT IT READS IS OF BULK AT MOST 1048576: true; the input reads as it did. -/
def coreThresholdUptoRow : OpenClaim := { program := "ytmflnfnebmbjkaagreat", sum := "5f7d43bcae778f94c6c1c1f330c39d6369b05a25877951dc0dba05c157a40e49", func := "bandplan/bandplanlaw40.CoreThreshold", spec := "coreThreshold", unfollowed := true, recurses := true, apart := false, narrowed := true }
def CoreThresholdUptoSaid : Prop := coreThresholdUptoRow.holds Tryz.pinned (OpenSpec.upto coreThresholdSpec)

/-- 'bandplanlaw40.CorePayments', WHERE WHAT IT READS IS OF BULK AT MOST 1048576: true; the input reads as it did. -/
def corePaymentsUptoRow : OpenClaim := { program := "ytmflnfnebmbjkaagreat", sum := "5f7d43bcae778f94c6c1c1f330c39d6369b05a25877951dc0dba05c157a40e49", func := "bandplan/bandplanlaw40.CorePayments", spec := "corePayments", unfollowed := true, recurses := true, apart := false, narrowed := true }
def CorePaymentsUptoSaid : Prop := corePaymentsUptoRow.holds Tryz.pinned (OpenSpec.upto corePaymentsSpec)

/-- 'bandplanlaw40.CoreHolds', WHERE WHAT IT READS IS OF BULK AT MOST 1048576: true; the input reads as it did. -/
def coreHoldsUptoRow : OpenClaim := { program := "ytmflnfnebmbjkaagreat", sum := "5f7d43bcae778f94c6c1c1f330c39d6369b05a25877951dc0dba05c157a40e49", func := "bandplan/bandplanlaw40.CoreHolds", spec := "coreHolds", unfollowed := true, recurses := true, apart := false, narrowed := true }
def CoreHoldsUptoSaid : Prop := coreHoldsUptoRow.holds Tryz.pinned (OpenSpec.upto coreHoldsSpec)

end Rows
end Go.Proofs.YtmflnfnebmbjkaaGreat
