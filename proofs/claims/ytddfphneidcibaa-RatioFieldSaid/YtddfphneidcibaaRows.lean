/-
  No cell of these rows narrows 'for every input' (looked for: loops, veiled, ifaces, maps, wideKeys, modest, calm, conditions, laid).
  DERIVED. THE GIVEN ROWS OF THIS SEAT. 15 by the template 'for every input the law returns true; each argument reads behind the call as it read before'; 0 by the template 'total and deterministic' (their statements: YtddfphneidcibaaTotals.lean).
  GIVEN WITH THE SEED: the statements are not yours to turn. If you find one false, say at which input.
  Laid BY PROGRAM, IN A SANDBOX (cutbox-rows.mjs): the forced cells as the released guide's own fill.sh prints them over the translation 3bfc425d8da090b8… (all of the seat's roots in one cut). By AI agents, Wed Nov 11 2026. No macro, syntax, notation, axiom, sorry.
-/
import Derived.Test.YtddfphneidcibaaChecked
import GoSem.Claim
import GoSem.ClaimJoined
import GoSem.ClaimMapViews
import Derived.JoinedTies
import Derived.KernelRfl
namespace Go.Proofs.Ytddfphneidcibaa
/- THE CELL 'sum', in the pinned program and in every row, IS THE sha256 OF THE DUMP (.gsa) THAT YtddfphneidcibaaProg.lean LOADS. Nothing in Lean hashes anything: it is a label: what it is worth is what the hold of that sum in a sandbox is worth. -/
noncomputable def Try.pinned : Pinned := { name := "ytddfphneidcibaa", sum := "3bfc425d8da090b8f5eb2cf0144c3ccb87017c08f629b226106ceb157a7ea9fc", checked := Try.checked }
namespace Rows
def none {H : Type} : Left H := { results := [], args := [] }

/-- 'bandplanlaw01.NumberOf': WHATEVER THE INPUT: true; the input reads as it did. -/
def numberOfSpec : ChangeSpec := { name := "numberOf", fn := fun _ => fun
  | [d] => { results := [.lit (.bool true)], args := [d] }
  | _ => none }
def numberOfRow : OpenClaim := { program := "ytddfphneidcibaa", sum := "3bfc425d8da090b8f5eb2cf0144c3ccb87017c08f629b226106ceb157a7ea9fc", func := "bandplan/bandplanlaw01.NumberOf", spec := "numberOf", apart := false }
def NumberOfSaid : Prop := numberOfRow.holds Try.pinned (OpenSpec.ofChange numberOfSpec)

/-- ITS FALSE NEIGHBOUR: 'it returns false'. Refute it at one input. -/
def numberOfWrong : ChangeSpec := { name := "numberOf", fn := fun _ => fun
  | [d] => { results := [.lit (.bool false)], args := [d] }
  | _ => none }
def NumberOfWrongFalsely : Prop := numberOfRow.holds Try.pinned (OpenSpec.ofChange numberOfWrong)

/-- 'bandplanlaw01.NumberPowers': WHATEVER THE INPUT: true; the input reads as it did. -/
def numberPowersSpec : ChangeSpec := { name := "numberPowers", fn := fun _ => fun
  | [d1, d2] => { results := [.lit (.bool true)], args := [d1, d2] }
  | _ => none }
def numberPowersRow : OpenClaim := { program := "ytddfphneidcibaa", sum := "3bfc425d8da090b8f5eb2cf0144c3ccb87017c08f629b226106ceb157a7ea9fc", func := "bandplan/bandplanlaw01.NumberPowers", spec := "numberPowers", apart := false }
def NumberPowersSaid : Prop := numberPowersRow.holds Try.pinned (OpenSpec.ofChange numberPowersSpec)

/-- ITS FALSE NEIGHBOUR: 'it returns false'. Refute it at one input. -/
def numberPowersWrong : ChangeSpec := { name := "numberPowers", fn := fun _ => fun
  | [d1, d2] => { results := [.lit (.bool false)], args := [d1, d2] }
  | _ => none }
def NumberPowersWrongFalsely : Prop := numberPowersRow.holds Try.pinned (OpenSpec.ofChange numberPowersWrong)

/-- 'bandplanlaw01.NumberTexts': WHATEVER THE INPUT: true; the input reads as it did. -/
def numberTextsSpec : ChangeSpec := { name := "numberTexts", fn := fun _ => fun
  | [d] => { results := [.lit (.bool true)], args := [d] }
  | _ => none }
def numberTextsRow : OpenClaim := { program := "ytddfphneidcibaa", sum := "3bfc425d8da090b8f5eb2cf0144c3ccb87017c08f629b226106ceb157a7ea9fc", func := "bandplan/bandplanlaw01.NumberTexts", spec := "numberTexts", apart := false }
def NumberTextsSaid : Prop := numberTextsRow.holds Try.pinned (OpenSpec.ofChange numberTextsSpec)

/-- ITS FALSE NEIGHBOUR: 'it returns false'. Refute it at one input. -/
def numberTextsWrong : ChangeSpec := { name := "numberTexts", fn := fun _ => fun
  | [d] => { results := [.lit (.bool false)], args := [d] }
  | _ => none }
def NumberTextsWrongFalsely : Prop := numberTextsRow.holds Try.pinned (OpenSpec.ofChange numberTextsWrong)

/-- 'bandplanlaw01.NumberReads': WHATEVER THE INPUT: true; the input reads as it did. -/
def numberReadsSpec : ChangeSpec := { name := "numberReads", fn := fun _ => fun
  | [d] => { results := [.lit (.bool true)], args := [d] }
  | _ => none }
def numberReadsRow : OpenClaim := { program := "ytddfphneidcibaa", sum := "3bfc425d8da090b8f5eb2cf0144c3ccb87017c08f629b226106ceb157a7ea9fc", func := "bandplan/bandplanlaw01.NumberReads", spec := "numberReads", apart := false }
def NumberReadsSaid : Prop := numberReadsRow.holds Try.pinned (OpenSpec.ofChange numberReadsSpec)

/-- ITS FALSE NEIGHBOUR: 'it returns false'. Refute it at one input. -/
def numberReadsWrong : ChangeSpec := { name := "numberReads", fn := fun _ => fun
  | [d] => { results := [.lit (.bool false)], args := [d] }
  | _ => none }
def NumberReadsWrongFalsely : Prop := numberReadsRow.holds Try.pinned (OpenSpec.ofChange numberReadsWrong)

/-- 'bandplanlaw01.NumberDivides': WHATEVER THE INPUT: true; the input reads as it did. -/
def numberDividesSpec : ChangeSpec := { name := "numberDivides", fn := fun _ => fun
  | [d1, d2] => { results := [.lit (.bool true)], args := [d1, d2] }
  | _ => none }
def numberDividesRow : OpenClaim := { program := "ytddfphneidcibaa", sum := "3bfc425d8da090b8f5eb2cf0144c3ccb87017c08f629b226106ceb157a7ea9fc", func := "bandplan/bandplanlaw01.NumberDivides", spec := "numberDivides", apart := false }
def NumberDividesSaid : Prop := numberDividesRow.holds Try.pinned (OpenSpec.ofChange numberDividesSpec)

/-- ITS FALSE NEIGHBOUR: 'it returns false'. Refute it at one input. -/
def numberDividesWrong : ChangeSpec := { name := "numberDivides", fn := fun _ => fun
  | [d1, d2] => { results := [.lit (.bool false)], args := [d1, d2] }
  | _ => none }
def NumberDividesWrongFalsely : Prop := numberDividesRow.holds Try.pinned (OpenSpec.ofChange numberDividesWrong)

/-- 'bandplanlaw01.NumberValid': WHATEVER THE INPUT: true; the input reads as it did. -/
def numberValidSpec : ChangeSpec := { name := "numberValid", fn := fun _ => fun
  | [d] => { results := [.lit (.bool true)], args := [d] }
  | _ => none }
def numberValidRow : OpenClaim := { program := "ytddfphneidcibaa", sum := "3bfc425d8da090b8f5eb2cf0144c3ccb87017c08f629b226106ceb157a7ea9fc", func := "bandplan/bandplanlaw01.NumberValid", spec := "numberValid", apart := false }
def NumberValidSaid : Prop := numberValidRow.holds Try.pinned (OpenSpec.ofChange numberValidSpec)

/-- ITS FALSE NEIGHBOUR: 'it returns false'. Refute it at one input. -/
def numberValidWrong : ChangeSpec := { name := "numberValid", fn := fun _ => fun
  | [d] => { results := [.lit (.bool false)], args := [d] }
  | _ => none }
def NumberValidWrongFalsely : Prop := numberValidRow.holds Try.pinned (OpenSpec.ofChange numberValidWrong)

/-- 'bandplanlaw01.NumberSums': WHATEVER THE INPUT: true; the input reads as it did. -/
def numberSumsSpec : ChangeSpec := { name := "numberSums", fn := fun _ => fun
  | [d1, d2] => { results := [.lit (.bool true)], args := [d1, d2] }
  | _ => none }
def numberSumsRow : OpenClaim := { program := "ytddfphneidcibaa", sum := "3bfc425d8da090b8f5eb2cf0144c3ccb87017c08f629b226106ceb157a7ea9fc", func := "bandplan/bandplanlaw01.NumberSums", spec := "numberSums", apart := false }
def NumberSumsSaid : Prop := numberSumsRow.holds Try.pinned (OpenSpec.ofChange numberSumsSpec)

/-- ITS FALSE NEIGHBOUR: 'it returns false'. Refute it at one input. -/
def numberSumsWrong : ChangeSpec := { name := "numberSums", fn := fun _ => fun
  | [d1, d2] => { results := [.lit (.bool false)], args := [d1, d2] }
  | _ => none }
def NumberSumsWrongFalsely : Prop := numberSumsRow.holds Try.pinned (OpenSpec.ofChange numberSumsWrong)

/-- 'bandplanlaw01.NumberRing': WHATEVER THE INPUT: true; the input reads as it did. -/
def numberRingSpec : ChangeSpec := { name := "numberRing", fn := fun _ => fun
  | [d1, d2, d3] => { results := [.lit (.bool true)], args := [d1, d2, d3] }
  | _ => none }
def numberRingRow : OpenClaim := { program := "ytddfphneidcibaa", sum := "3bfc425d8da090b8f5eb2cf0144c3ccb87017c08f629b226106ceb157a7ea9fc", func := "bandplan/bandplanlaw01.NumberRing", spec := "numberRing", apart := false }
def NumberRingSaid : Prop := numberRingRow.holds Try.pinned (OpenSpec.ofChange numberRingSpec)

/-- ITS FALSE NEIGHBOUR: 'it returns false'. Refute it at one input. -/
def numberRingWrong : ChangeSpec := { name := "numberRing", fn := fun _ => fun
  | [d1, d2, d3] => { results := [.lit (.bool false)], args := [d1, d2, d3] }
  | _ => none }
def NumberRingWrongFalsely : Prop := numberRingRow.holds Try.pinned (OpenSpec.ofChange numberRingWrong)

/-- 'bandplanlaw02.RatioMakes': WHATEVER THE INPUT: true; the input reads as it did. -/
def ratioMakesSpec : ChangeSpec := { name := "ratioMakes", fn := fun _ => fun
  | [d1, d2, d3, d4] => { results := [.lit (.bool true)], args := [d1, d2, d3, d4] }
  | _ => none }
def ratioMakesRow : OpenClaim := { program := "ytddfphneidcibaa", sum := "3bfc425d8da090b8f5eb2cf0144c3ccb87017c08f629b226106ceb157a7ea9fc", func := "bandplan/bandplanlaw02.RatioMakes", spec := "ratioMakes", inPlace := ["internal/bytealg.IndexByteString", "internal/bytealg.IndexString"], unfollowed := true, recurses := true, named := ["internal/bytealg.MaxLen"], apart := false }
def RatioMakesSaid : Prop := ratioMakesRow.holds Try.pinned (OpenSpec.ofChange ratioMakesSpec)

/-- ITS FALSE NEIGHBOUR: 'it returns false'. Refute it at one input. -/
def ratioMakesWrong : ChangeSpec := { name := "ratioMakes", fn := fun _ => fun
  | [d1, d2, d3, d4] => { results := [.lit (.bool false)], args := [d1, d2, d3, d4] }
  | _ => none }
def RatioMakesWrongFalsely : Prop := ratioMakesRow.holds Try.pinned (OpenSpec.ofChange ratioMakesWrong)

/-- 'bandplanlaw02.RatioTexts': WHATEVER THE INPUT: true; the input reads as it did. -/
def ratioTextsSpec : ChangeSpec := { name := "ratioTexts", fn := fun _ => fun
  | [d] => { results := [.lit (.bool true)], args := [d] }
  | _ => none }
def ratioTextsRow : OpenClaim := { program := "ytddfphneidcibaa", sum := "3bfc425d8da090b8f5eb2cf0144c3ccb87017c08f629b226106ceb157a7ea9fc", func := "bandplan/bandplanlaw02.RatioTexts", spec := "ratioTexts", inPlace := ["internal/bytealg.IndexByteString", "internal/bytealg.IndexString"], unfollowed := true, recurses := true, named := ["internal/bytealg.MaxLen"], apart := false }
def RatioTextsSaid : Prop := ratioTextsRow.holds Try.pinned (OpenSpec.ofChange ratioTextsSpec)

/-- ITS FALSE NEIGHBOUR: 'it returns false'. Refute it at one input. -/
def ratioTextsWrong : ChangeSpec := { name := "ratioTexts", fn := fun _ => fun
  | [d] => { results := [.lit (.bool false)], args := [d] }
  | _ => none }
def RatioTextsWrongFalsely : Prop := ratioTextsRow.holds Try.pinned (OpenSpec.ofChange ratioTextsWrong)

/-- 'bandplanlaw02.RatioReads': WHATEVER THE INPUT: true; the input reads as it did. -/
def ratioReadsSpec : ChangeSpec := { name := "ratioReads", fn := fun _ => fun
  | [d] => { results := [.lit (.bool true)], args := [d] }
  | _ => none }
def ratioReadsRow : OpenClaim := { program := "ytddfphneidcibaa", sum := "3bfc425d8da090b8f5eb2cf0144c3ccb87017c08f629b226106ceb157a7ea9fc", func := "bandplan/bandplanlaw02.RatioReads", spec := "ratioReads", inPlace := ["internal/bytealg.IndexByteString", "internal/bytealg.IndexString"], unfollowed := true, recurses := true, named := ["internal/bytealg.MaxLen"], apart := false }
def RatioReadsSaid : Prop := ratioReadsRow.holds Try.pinned (OpenSpec.ofChange ratioReadsSpec)

/-- ITS FALSE NEIGHBOUR: 'it returns false'. Refute it at one input. -/
def ratioReadsWrong : ChangeSpec := { name := "ratioReads", fn := fun _ => fun
  | [d] => { results := [.lit (.bool false)], args := [d] }
  | _ => none }
def RatioReadsWrongFalsely : Prop := ratioReadsRow.holds Try.pinned (OpenSpec.ofChange ratioReadsWrong)

/-- 'bandplanlaw02.RatioSums': WHATEVER THE INPUT: true; the input reads as it did. -/
def ratioSumsSpec : ChangeSpec := { name := "ratioSums", fn := fun _ => fun
  | [d1, d2] => { results := [.lit (.bool true)], args := [d1, d2] }
  | _ => none }
def ratioSumsRow : OpenClaim := { program := "ytddfphneidcibaa", sum := "3bfc425d8da090b8f5eb2cf0144c3ccb87017c08f629b226106ceb157a7ea9fc", func := "bandplan/bandplanlaw02.RatioSums", spec := "ratioSums", inPlace := ["internal/bytealg.IndexByteString", "internal/bytealg.IndexString"], unfollowed := true, recurses := true, named := ["internal/bytealg.MaxLen"], apart := false }
def RatioSumsSaid : Prop := ratioSumsRow.holds Try.pinned (OpenSpec.ofChange ratioSumsSpec)

/-- ITS FALSE NEIGHBOUR: 'it returns false'. Refute it at one input. -/
def ratioSumsWrong : ChangeSpec := { name := "ratioSums", fn := fun _ => fun
  | [d1, d2] => { results := [.lit (.bool false)], args := [d1, d2] }
  | _ => none }
def RatioSumsWrongFalsely : Prop := ratioSumsRow.holds Try.pinned (OpenSpec.ofChange ratioSumsWrong)

/-- 'bandplanlaw02.RatioValid': WHATEVER THE INPUT: true; the input reads as it did. -/
def ratioValidSpec : ChangeSpec := { name := "ratioValid", fn := fun _ => fun
  | [d] => { results := [.lit (.bool true)], args := [d] }
  | _ => none }
def ratioValidRow : OpenClaim := { program := "ytddfphneidcibaa", sum := "3bfc425d8da090b8f5eb2cf0144c3ccb87017c08f629b226106ceb157a7ea9fc", func := "bandplan/bandplanlaw02.RatioValid", spec := "ratioValid", inPlace := ["internal/bytealg.IndexByteString", "internal/bytealg.IndexString"], unfollowed := true, recurses := true, named := ["internal/bytealg.MaxLen"], apart := false }
def RatioValidSaid : Prop := ratioValidRow.holds Try.pinned (OpenSpec.ofChange ratioValidSpec)

/-- ITS FALSE NEIGHBOUR: 'it returns false'. Refute it at one input. -/
def ratioValidWrong : ChangeSpec := { name := "ratioValid", fn := fun _ => fun
  | [d] => { results := [.lit (.bool false)], args := [d] }
  | _ => none }
def RatioValidWrongFalsely : Prop := ratioValidRow.holds Try.pinned (OpenSpec.ofChange ratioValidWrong)

/-- 'bandplanlaw02.RatioCompares': WHATEVER THE INPUT: true; the input reads as it did. -/
def ratioComparesSpec : ChangeSpec := { name := "ratioCompares", fn := fun _ => fun
  | [d1, d2] => { results := [.lit (.bool true)], args := [d1, d2] }
  | _ => none }
def ratioComparesRow : OpenClaim := { program := "ytddfphneidcibaa", sum := "3bfc425d8da090b8f5eb2cf0144c3ccb87017c08f629b226106ceb157a7ea9fc", func := "bandplan/bandplanlaw02.RatioCompares", spec := "ratioCompares", inPlace := ["internal/bytealg.IndexByteString", "internal/bytealg.IndexString"], unfollowed := true, recurses := true, named := ["internal/bytealg.MaxLen"], apart := false }
def RatioComparesSaid : Prop := ratioComparesRow.holds Try.pinned (OpenSpec.ofChange ratioComparesSpec)

/-- ITS FALSE NEIGHBOUR: 'it returns false'. Refute it at one input. -/
def ratioComparesWrong : ChangeSpec := { name := "ratioCompares", fn := fun _ => fun
  | [d1, d2] => { results := [.lit (.bool false)], args := [d1, d2] }
  | _ => none }
def RatioComparesWrongFalsely : Prop := ratioComparesRow.holds Try.pinned (OpenSpec.ofChange ratioComparesWrong)

/-- 'bandplanlaw02.RatioField': WHATEVER THE INPUT: true; the input reads as it did. -/
def ratioFieldSpec : ChangeSpec := { name := "ratioField", fn := fun _ => fun
  | [d1, d2, d3] => { results := [.lit (.bool true)], args := [d1, d2, d3] }
  | _ => none }
def ratioFieldRow : OpenClaim := { program := "ytddfphneidcibaa", sum := "3bfc425d8da090b8f5eb2cf0144c3ccb87017c08f629b226106ceb157a7ea9fc", func := "bandplan/bandplanlaw02.RatioField", spec := "ratioField", inPlace := ["internal/bytealg.IndexByteString", "internal/bytealg.IndexString"], unfollowed := true, recurses := true, named := ["internal/bytealg.MaxLen"], apart := false }
def RatioFieldSaid : Prop := ratioFieldRow.holds Try.pinned (OpenSpec.ofChange ratioFieldSpec)

/-- ITS FALSE NEIGHBOUR: 'it returns false'. Refute it at one input. -/
def ratioFieldWrong : ChangeSpec := { name := "ratioField", fn := fun _ => fun
  | [d1, d2, d3] => { results := [.lit (.bool false)], args := [d1, d2, d3] }
  | _ => none }
def RatioFieldWrongFalsely : Prop := ratioFieldRow.holds Try.pinned (OpenSpec.ofChange ratioFieldWrong)

/- THE SECOND FORM. 'bulk': how many values and letters a reading holds, each counted each time it is reached (what is shared counts as often as it is met; a slice's spare places count too). A statement '..UptoSaid' is the law's where the arguments, and the package variables that the reading takes, are together of bulk at most 1048576: NARROWER than '..Said'. Prove '..Said' where nothing that the law and all that it calls make is longer than what came in: it says more and counts as full. Else prove '..UptoSaid'. A law counts once. -/
mutual
def uptoBulk {H : Type} : DataW H → Nat
  | .lit (.string bytes) => bytes.length + 1
  | .lit _ => 1
  | .nil => 1
  | .ptr d => uptoBulk d + 1
  | .slice elems spare => uptoBulkAll elems + uptoBulkAll spare + 1
  | .agg parts => uptoBulkAll parts + 1
  | .iface _ d => uptoBulk d + 1
  | .map entries => uptoBulkEntries entries + 1
  | .held _ => 1
def uptoBulkAll {H : Type} : List (DataW H) → Nat
  | [] => 0
  | d :: r => uptoBulk d + uptoBulkAll r
def uptoBulkEntries {H : Type} : List (Lit × DataW H) → Nat
  | [] => 0
  | x :: r => uptoBulkEntry x + uptoBulkEntries r
def uptoBulkEntry {H : Type} : Lit × DataW H → Nat
  | (.string bytes, d) => bytes.length + uptoBulk d + 1
  | (_, d) => uptoBulk d + 1
 end
def uptoSmall : (H : Type) → List (DataW H) → Bool := fun _ ds => decide (uptoBulkAll ds ≤ 1048576)
def OpenSpec.upto (s : _root_.Go.ChangeSpec) : _root_.Go.OpenSpec := { _root_.Go.OpenSpec.ofChange s with cond := some uptoSmall }

/-- 'bandplanlaw01.NumberOf', WHERE WHAT IT READS IS OF BULK AT MOST 1048576: true; the input reads as it did. -/
def numberOfUptoRow : OpenClaim := { program := "ytddfphneidcibaa", sum := "3bfc425d8da090b8f5eb2cf0144c3ccb87017c08f629b226106ceb157a7ea9fc", func := "bandplan/bandplanlaw01.NumberOf", spec := "numberOf", apart := false, narrowed := true }
def NumberOfUptoSaid : Prop := numberOfUptoRow.holds Try.pinned (OpenSpec.upto numberOfSpec)

/-- 'bandplanlaw01.NumberPowers', WHERE WHAT IT READS IS OF BULK AT MOST 1048576: true; the input reads as it did. -/
def numberPowersUptoRow : OpenClaim := { program := "ytddfphneidcibaa", sum := "3bfc425d8da090b8f5eb2cf0144c3ccb87017c08f629b226106ceb157a7ea9fc", func := "bandplan/bandplanlaw01.NumberPowers", spec := "numberPowers", apart := false, narrowed := true }
def NumberPowersUptoSaid : Prop := numberPowersUptoRow.holds Try.pinned (OpenSpec.upto numberPowersSpec)

/-- 'bandplanlaw01.NumberTexts', WHERE WHAT IT READS IS OF BULK AT MOST 1048576: true; the input reads as it did. -/
def numberTextsUptoRow : OpenClaim := { program := "ytddfphneidcibaa", sum := "3bfc425d8da090b8f5eb2cf0144c3ccb87017c08f629b226106ceb157a7ea9fc", func := "bandplan/bandplanlaw01.NumberTexts", spec := "numberTexts", apart := false, narrowed := true }
def NumberTextsUptoSaid : Prop := numberTextsUptoRow.holds Try.pinned (OpenSpec.upto numberTextsSpec)

/-- 'bandplanlaw01.NumberReads', WHERE WHAT IT READS IS OF BULK AT MOST 1048576: true; the input reads as it did. -/
def numberReadsUptoRow : OpenClaim := { program := "ytddfphneidcibaa", sum := "3bfc425d8da090b8f5eb2cf0144c3ccb87017c08f629b226106ceb157a7ea9fc", func := "bandplan/bandplanlaw01.NumberReads", spec := "numberReads", apart := false, narrowed := true }
def NumberReadsUptoSaid : Prop := numberReadsUptoRow.holds Try.pinned (OpenSpec.upto numberReadsSpec)

/-- 'bandplanlaw01.NumberDivides', WHERE WHAT IT READS IS OF BULK AT MOST 1048576: true; the input reads as it did. -/
def numberDividesUptoRow : OpenClaim := { program := "ytddfphneidcibaa", sum := "3bfc425d8da090b8f5eb2cf0144c3ccb87017c08f629b226106ceb157a7ea9fc", func := "bandplan/bandplanlaw01.NumberDivides", spec := "numberDivides", apart := false, narrowed := true }
def NumberDividesUptoSaid : Prop := numberDividesUptoRow.holds Try.pinned (OpenSpec.upto numberDividesSpec)

/-- 'bandplanlaw01.NumberValid', WHERE WHAT IT READS IS OF BULK AT MOST 1048576: true; the input reads as it did. -/
def numberValidUptoRow : OpenClaim := { program := "ytddfphneidcibaa", sum := "3bfc425d8da090b8f5eb2cf0144c3ccb87017c08f629b226106ceb157a7ea9fc", func := "bandplan/bandplanlaw01.NumberValid", spec := "numberValid", apart := false, narrowed := true }
def NumberValidUptoSaid : Prop := numberValidUptoRow.holds Try.pinned (OpenSpec.upto numberValidSpec)

/-- 'bandplanlaw01.NumberSums', WHERE WHAT IT READS IS OF BULK AT MOST 1048576: true; the input reads as it did. -/
def numberSumsUptoRow : OpenClaim := { program := "ytddfphneidcibaa", sum := "3bfc425d8da090b8f5eb2cf0144c3ccb87017c08f629b226106ceb157a7ea9fc", func := "bandplan/bandplanlaw01.NumberSums", spec := "numberSums", apart := false, narrowed := true }
def NumberSumsUptoSaid : Prop := numberSumsUptoRow.holds Try.pinned (OpenSpec.upto numberSumsSpec)

/-- 'bandplanlaw01.NumberRing', WHERE WHAT IT READS IS OF BULK AT MOST 1048576: true; the input reads as it did. -/
def numberRingUptoRow : OpenClaim := { program := "ytddfphneidcibaa", sum := "3bfc425d8da090b8f5eb2cf0144c3ccb87017c08f629b226106ceb157a7ea9fc", func := "bandplan/bandplanlaw01.NumberRing", spec := "numberRing", apart := false, narrowed := true }
def NumberRingUptoSaid : Prop := numberRingUptoRow.holds Try.pinned (OpenSpec.upto numberRingSpec)

/-- 'bandplanlaw02.RatioMakes', WHERE WHAT IT READS IS OF BULK AT MOST 1048576: true; the input reads as it did. -/
def ratioMakesUptoRow : OpenClaim := { program := "ytddfphneidcibaa", sum := "3bfc425d8da090b8f5eb2cf0144c3ccb87017c08f629b226106ceb157a7ea9fc", func := "bandplan/bandplanlaw02.RatioMakes", spec := "ratioMakes", inPlace := ["internal/bytealg.IndexByteString", "internal/bytealg.IndexString"], unfollowed := true, recurses := true, named := ["internal/bytealg.MaxLen"], apart := false, narrowed := true }
def RatioMakesUptoSaid : Prop := ratioMakesUptoRow.holds Try.pinned (OpenSpec.upto ratioMakesSpec)

/-- 'bandplanlaw02.RatioTexts', WHERE WHAT IT READS IS OF BULK AT MOST 1048576: true; the input reads as it did. -/
def ratioTextsUptoRow : OpenClaim := { program := "ytddfphneidcibaa", sum := "3bfc425d8da090b8f5eb2cf0144c3ccb87017c08f629b226106ceb157a7ea9fc", func := "bandplan/bandplanlaw02.RatioTexts", spec := "ratioTexts", inPlace := ["internal/bytealg.IndexByteString", "internal/bytealg.IndexString"], unfollowed := true, recurses := true, named := ["internal/bytealg.MaxLen"], apart := false, narrowed := true }
def RatioTextsUptoSaid : Prop := ratioTextsUptoRow.holds Try.pinned (OpenSpec.upto ratioTextsSpec)

/-- 'bandplanlaw02.RatioReads', WHERE WHAT IT READS IS OF BULK AT MOST 1048576: true; the input reads as it did. -/
def ratioReadsUptoRow : OpenClaim := { program := "ytddfphneidcibaa", sum := "3bfc425d8da090b8f5eb2cf0144c3ccb87017c08f629b226106ceb157a7ea9fc", func := "bandplan/bandplanlaw02.RatioReads", spec := "ratioReads", inPlace := ["internal/bytealg.IndexByteString", "internal/bytealg.IndexString"], unfollowed := true, recurses := true, named := ["internal/bytealg.MaxLen"], apart := false, narrowed := true }
def RatioReadsUptoSaid : Prop := ratioReadsUptoRow.holds Try.pinned (OpenSpec.upto ratioReadsSpec)

/-- 'bandplanlaw02.RatioSums', WHERE WHAT IT READS IS OF BULK AT MOST 1048576: true; the input reads as it did. -/
def ratioSumsUptoRow : OpenClaim := { program := "ytddfphneidcibaa", sum := "3bfc425d8da090b8f5eb2cf0144c3ccb87017c08f629b226106ceb157a7ea9fc", func := "bandplan/bandplanlaw02.RatioSums", spec := "ratioSums", inPlace := ["internal/bytealg.IndexByteString", "internal/bytealg.IndexString"], unfollowed := true, recurses := true, named := ["internal/bytealg.MaxLen"], apart := false, narrowed := true }
def RatioSumsUptoSaid : Prop := ratioSumsUptoRow.holds Try.pinned (OpenSpec.upto ratioSumsSpec)

/-- 'bandplanlaw02.RatioValid', WHERE WHAT IT READS IS OF BULK AT MOST 1048576: true; the input reads as it did. -/
def ratioValidUptoRow : OpenClaim := { program := "ytddfphneidcibaa", sum := "3bfc425d8da090b8f5eb2cf0144c3ccb87017c08f629b226106ceb157a7ea9fc", func := "bandplan/bandplanlaw02.RatioValid", spec := "ratioValid", inPlace := ["internal/bytealg.IndexByteString", "internal/bytealg.IndexString"], unfollowed := true, recurses := true, named := ["internal/bytealg.MaxLen"], apart := false, narrowed := true }
def RatioValidUptoSaid : Prop := ratioValidUptoRow.holds Try.pinned (OpenSpec.upto ratioValidSpec)

/-- 'bandplanlaw02.RatioCompares', WHERE WHAT IT READS IS OF BULK AT MOST 1048576: true; the input reads as it did. -/
def ratioComparesUptoRow : OpenClaim := { program := "ytddfphneidcibaa", sum := "3bfc425d8da090b8f5eb2cf0144c3ccb87017c08f629b226106ceb157a7ea9fc", func := "bandplan/bandplanlaw02.RatioCompares", spec := "ratioCompares", inPlace := ["internal/bytealg.IndexByteString", "internal/bytealg.IndexString"], unfollowed := true, recurses := true, named := ["internal/bytealg.MaxLen"], apart := false, narrowed := true }
def RatioComparesUptoSaid : Prop := ratioComparesUptoRow.holds Try.pinned (OpenSpec.upto ratioComparesSpec)

/-- 'bandplanlaw02.RatioField', WHERE WHAT IT READS IS OF BULK AT MOST 1048576: true; the input reads as it did. -/
def ratioFieldUptoRow : OpenClaim := { program := "ytddfphneidcibaa", sum := "3bfc425d8da090b8f5eb2cf0144c3ccb87017c08f629b226106ceb157a7ea9fc", func := "bandplan/bandplanlaw02.RatioField", spec := "ratioField", inPlace := ["internal/bytealg.IndexByteString", "internal/bytealg.IndexString"], unfollowed := true, recurses := true, named := ["internal/bytealg.MaxLen"], apart := false, narrowed := true }
def RatioFieldUptoSaid : Prop := ratioFieldUptoRow.holds Try.pinned (OpenSpec.upto ratioFieldSpec)

end Rows
end Go.Proofs.Ytddfphneidcibaa
