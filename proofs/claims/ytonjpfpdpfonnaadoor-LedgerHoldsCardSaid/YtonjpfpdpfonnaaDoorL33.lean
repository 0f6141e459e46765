/-
  LEDGERS: Copy.
-/
import Derived.Test.YtonjpfpdpfonnaaDoorL32
namespace Go.Proofs.YtonjpfpdpfonnaaDoor
open Go.RowKit
namespace Sx
section
variable {P : Program} {Γ : Cx} {σ : St} {Q : Exit → Act → World → Prop}
end
theorem bldL2 {A : Option Addr} {n c : Nat} {M : Option Nat} : Bld Tryd.prog 64 [0, 1] [isD (.slice A n c), isD (.map M)] [isD (.slice A n c), isD (.map M)] := fun L w vs hv => by
  obtain ⟨u, v, rfl, rfl, rfl⟩ := all2 hv
  exact ⟨[.slice A n c, .map M], ⟨rfl, rfl, trivial⟩, fun w' => by kernel_rfl⟩
end Sx
end Go.Proofs.YtonjpfpdpfonnaaDoor
