/-
  LEDGERS: Copy.
-/
import Derived.Test.YtonjpfpdpfonnaaDoorL32
namespace Go.Proofs.YtonjpfpdpfonnaaDoor
open Go.RowKit
namespace Sx
section
variable {P : Program} {Γ : Cx} {σ : St} {Q : Exit → Act → World → Prop}
end
end Sx
end Go.Proofs.YtonjpfpdpfonnaaDoor
