/-
  LEDGERS: clones of one's own, the iterator.
-/
import Derived.Test.YtonjpfpdpfonnaaDoorL14
import Derived.Test.YtonjpfpdpfonnaaDoorGV
namespace Go.Proofs.YtonjpfpdpfonnaaDoor
open Go.RowKit
namespace Sx
section
variable {P : Program} {Γ : Cx} {σ : St} {Q : Exit → Act → World → Prop} {a : Act} {w : World}
end
end Sx
end Go.Proofs.YtonjpfpdpfonnaaDoor
