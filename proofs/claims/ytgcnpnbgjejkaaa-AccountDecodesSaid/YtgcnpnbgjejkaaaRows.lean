/-
  No cell of these rows narrows 'for every input' (looked for: loops, veiled, ifaces, maps, wideKeys, modest, calm, conditions, laid).
  DERIVED. THE GIVEN ROWS OF THIS SEAT. 4 by the template 'for every input the law returns true; each argument reads behind the call as it read before'; 0 by the template 'total and deterministic' (their statements: YtgcnpnbgjejkaaaTotals.lean).
  GIVEN WITH THE SEED: the statements are not yours to turn. If you find one false, say at which input.
  Laid BY PROGRAM, IN A SANDBOX (cutbox-rows.mjs): the forced cells as the released guide's own fill.sh prints them over the translation 3b66daf471650524… (all of the seat's roots in one cut). By AI agents, Wed Nov 11 2026. No macro, syntax, notation, axiom, sorry.
-/
import Derived.Test.YtgcnpnbgjejkaaaChecked
import GoSem.Claim
import GoSem.ClaimJoined
import GoSem.ClaimMapViews
import Derived.JoinedTies
import Derived.KernelRfl
namespace Go.Proofs.Ytgcnpnbgjejkaaa
/- THE CELL 'sum', in the pinned program and in every row, IS THE sha256 OF THE DUMP (.gsa) THAT YtgcnpnbgjejkaaaProg.lean LOADS. Nothing in Lean hashes anything: it is a label: what it is worth is what the hold of that sum in a sandbox is worth. -/
noncomputable def Try.pinned : Pinned := { name := "ytgcnpnbgjejkaaa", sum := "3b66daf471650524a816d7ae16eb65766537a408951550c85db70df3c1e87ba3", checked := Try.checked }
namespace Rows
def none {H : Type} : Left H := { results := [], args := [] }

/-- 'bandplanlaw41.AccountFull': WHATEVER THE INPUT: true; the input reads as it did. -/
def accountFullSpec : ChangeSpec := { name := "accountFull", fn := fun _ => fun
  | [d] => { results := [.lit (.bool true)], args := [d] }
  | _ => none }
def accountFullRow : OpenClaim := { program := "ytgcnpnbgjejkaaa", sum := "3b66daf471650524a816d7ae16eb65766537a408951550c85db70df3c1e87ba3", func := "bandplan/bandplanlaw41.AccountFull", spec := "accountFull", inPlace := ["slices.overlaps[string]"], unfollowed := true, recurses := true, plainKeys := false, apart := false }
def AccountFullSaid : Prop := accountFullRow.holds Try.pinned (OpenSpec.ofChange accountFullSpec)

/-- ITS FALSE NEIGHBOUR: 'it returns false'. Refute it at one input. -/
def accountFullWrong : ChangeSpec := { name := "accountFull", fn := fun _ => fun
  | [d] => { results := [.lit (.bool false)], args := [d] }
  | _ => none }
def AccountFullWrongFalsely : Prop := accountFullRow.holds Try.pinned (OpenSpec.ofChange accountFullWrong)

/-- 'bandplanlaw41.AccountPlays': WHATEVER THE INPUT: true; the input reads as it did. -/
def accountPlaysSpec : ChangeSpec := { name := "accountPlays", fn := fun _ => fun
  | [d1, d2, d3, d4] => { results := [.lit (.bool true)], args := [d1, d2, d3, d4] }
  | _ => none }
def accountPlaysRow : OpenClaim := { program := "ytgcnpnbgjejkaaa", sum := "3b66daf471650524a816d7ae16eb65766537a408951550c85db70df3c1e87ba3", func := "bandplan/bandplanlaw41.AccountPlays", spec := "accountPlays", inPlace := ["slices.overlaps[string]"], unfollowed := true, recurses := true, plainKeys := false, apart := false }
def AccountPlaysSaid : Prop := accountPlaysRow.holds Try.pinned (OpenSpec.ofChange accountPlaysSpec)

/-- ITS FALSE NEIGHBOUR: 'it returns false'. Refute it at one input. -/
def accountPlaysWrong : ChangeSpec := { name := "accountPlays", fn := fun _ => fun
  | [d1, d2, d3, d4] => { results := [.lit (.bool false)], args := [d1, d2, d3, d4] }
  | _ => none }
def AccountPlaysWrongFalsely : Prop := accountPlaysRow.holds Try.pinned (OpenSpec.ofChange accountPlaysWrong)

/-- 'bandplanlaw41.AccountOver': WHATEVER THE INPUT: true; the input reads as it did. -/
def accountOverSpec : ChangeSpec := { name := "accountOver", fn := fun _ => fun
  | [d1, d2, d3] => { results := [.lit (.bool true)], args := [d1, d2, d3] }
  | _ => none }
def accountOverRow : OpenClaim := { program := "ytgcnpnbgjejkaaa", sum := "3b66daf471650524a816d7ae16eb65766537a408951550c85db70df3c1e87ba3", func := "bandplan/bandplanlaw41.AccountOver", spec := "accountOver", inPlace := ["slices.overlaps[string]"], unfollowed := true, recurses := true, plainKeys := false, apart := false }
def AccountOverSaid : Prop := accountOverRow.holds Try.pinned (OpenSpec.ofChange accountOverSpec)

/-- ITS FALSE NEIGHBOUR: 'it returns false'. Refute it at one input. -/
def accountOverWrong : ChangeSpec := { name := "accountOver", fn := fun _ => fun
  | [d1, d2, d3] => { results := [.lit (.bool false)], args := [d1, d2, d3] }
  | _ => none }
def AccountOverWrongFalsely : Prop := accountOverRow.holds Try.pinned (OpenSpec.ofChange accountOverWrong)

/-- 'bandplanlaw41.AccountDecodes': WHATEVER THE INPUT: true; the input reads as it did. -/
def accountDecodesSpec : ChangeSpec := { name := "accountDecodes", fn := fun _ => fun
  | [d1, d2] => { results := [.lit (.bool true)], args := [d1, d2] }
  | _ => none }
def accountDecodesRow : OpenClaim := { program := "ytgcnpnbgjejkaaa", sum := "3b66daf471650524a816d7ae16eb65766537a408951550c85db70df3c1e87ba3", func := "bandplan/bandplanlaw41.AccountDecodes", spec := "accountDecodes", inPlace := ["slices.overlaps[string]"], unfollowed := true, recurses := true, plainKeys := false, apart := false }
def AccountDecodesSaid : Prop := accountDecodesRow.holds Try.pinned (OpenSpec.ofChange accountDecodesSpec)

/-- ITS FALSE NEIGHBOUR: 'it returns false'. Refute it at one input. -/
def accountDecodesWrong : ChangeSpec := { name := "accountDecodes", fn := fun _ => fun
  | [d1, d2] => { results := [.lit (.bool false)], args := [d1, d2] }
  | _ => none }
def AccountDecodesWrongFalsely : Prop := accountDecodesRow.holds Try.pinned (OpenSpec.ofChange accountDecodesWrong)

/- THE SECOND FORM. 'bulk': how many values and letters a reading holds, each counted each time it is reached (what is shared counts as often as it is met; a slice's spare places count too). A statement '..UptoSaid' is the law's where the arguments, and the package variables that the reading takes, are together of bulk at most 1048576: NARROWER than '..Said'. Prove '..Said' where nothing that the law and all that it calls make is longer than what came in: it says more and counts as full. Else prove '..UptoSaid'. A law counts once. -/
mutual
def uptoBulk {H : Type} : DataW H → Nat
  | .lit (.string bytes) => bytes.length + 1
  | .lit _ => 1
  | .nil => 1
  | .ptr d => uptoBulk d + 1
  | .slice elems spare => uptoBulkAll elems + uptoBulkAll spare + 1
  | .agg parts => uptoBulkAll parts + 1
  | .iface _ d => uptoBulk d + 1
  | .map entries => uptoBulkEntries entries + 1
  | .held _ => 1
def uptoBulkAll {H : Type} : List (DataW H) → Nat
  | [] => 0
  | d :: r => uptoBulk d + uptoBulkAll r
def uptoBulkEntries {H : Type} : List (Lit × DataW H) → Nat
  | [] => 0
  | x :: r => uptoBulkEntry x + uptoBulkEntries r
def uptoBulkEntry {H : Type} : Lit × DataW H → Nat
  | (.string bytes, d) => bytes.length + uptoBulk d + 1
  | (_, d) => uptoBulk d + 1
 end
def uptoSmall : (H : Type) → List (DataW H) → Bool := fun _ ds => decide (uptoBulkAll ds ≤ 1048576)
def OpenSpec.upto (s : _root_.Go.ChangeSpec) : _root_.Go.OpenSpec := { _root_.Go.OpenSpec.ofChange s with cond := some uptoSmall }

/-- 'bandplanlaw41.AccountFull', WHERE WHAT IT READS IS OF BULK AT MOST 1048576: true; the input reads as it did. -/
def accountFullUptoRow : OpenClaim := { program := "ytgcnpnbgjejkaaa", sum := "3b66daf471650524a816d7ae16eb65766537a408951550c85db70df3c1e87ba3", func := "bandplan/bandplanlaw41.AccountFull", spec := "accountFull", inPlace := ["slices.overlaps[string]"], unfollowed := true, recurses := true, plainKeys := false, apart := false, narrowed := true }
def AccountFullUptoSaid : Prop := accountFullUptoRow.holds Try.pinned (OpenSpec.upto accountFullSpec)

/-- 'bandplanlaw41.AccountPlays', WHERE WHAT IT READS IS OF BULK AT MOST 1048576: true; the input reads as it did. -/
def accountPlaysUptoRow : OpenClaim := { program := "ytgcnpnbgjejkaaa", sum := "3b66daf471650524a816d7ae16eb65766537a408951550c85db70df3c1e87ba3", func := "bandplan/bandplanlaw41.AccountPlays", spec := "accountPlays", inPlace := ["slices.overlaps[string]"], unfollowed := true, recurses := true, plainKeys := false, apart := false, narrowed := true }
def AccountPlaysUptoSaid : Prop := accountPlaysUptoRow.holds Try.pinned (OpenSpec.upto accountPlaysSpec)

/-- 'bandplanlaw41.AccountOver', WHERE WHAT IT READS IS OF BULK AT MOST 1048576: true; the input reads as it did. -/
def accountOverUptoRow : OpenClaim := { program := "ytgcnpnbgjejkaaa", sum := "3b66daf471650524a816d7ae16eb65766537a408951550c85db70df3c1e87ba3", func := "bandplan/bandplanlaw41.AccountOver", spec := "accountOver", inPlace := ["slices.overlaps[string]"], unfollowed := true, recurses := true, plainKeys := false, apart := false, narrowed := true }
def AccountOverUptoSaid : Prop := accountOverUptoRow.holds Try.pinned (OpenSpec.upto accountOverSpec)

/-- 'bandplanlaw41.AccountDecodes', WHERE WHAT IT READS IS OF BULK AT MOST 1048576: true; the input reads as it did. -/
def accountDecodesUptoRow : OpenClaim := { program := "ytgcnpnbgjejkaaa", sum := "3b66daf471650524a816d7ae16eb65766537a408951550c85db70df3c1e87ba3", func := "bandplan/bandplanlaw41.AccountDecodes", spec := "accountDecodes", inPlace := ["slices.overlaps[string]"], unfollowed := true, recurses := true, plainKeys := false, apart := false, narrowed := true }
def AccountDecodesUptoSaid : Prop := accountDecodesUptoRow.holds Try.pinned (OpenSpec.upto accountDecodesSpec)

end Rows
end Go.Proofs.Ytgcnpnbgjejkaaa
