/-
  MORE ARGUMENTS out of a row's words: a string.
-/
import Derived.Test.YtglbgocldenooaaDoorGate
namespace Go.Proofs.YtglbgocldenooaaDoor
open Go.ChangeShapes Go.WideShapes Go.ChangeAt Go.RowKit
section
variable {H : Type} {enc : TypeId × Value → H} {P : Program}
theorem open_str {W : World} {t : TypeId} {v : Value} {d : DataW H} {p : List MemPlace} (ht : P.underlying t = some .string) {base : Nat} (hv : Value.okWide P W .any base t v) (_ : DataW.Trod enc P W 0 (fun _ => true) true t v d p) : ∃ s : ByteArray, v = .string s := by
  obtain ⟨s, hs⟩ := okWide_string ht hv
  exact ⟨s, hs⟩
end
end Go.Proofs.YtglbgocldenooaaDoor
