/-
  LEDGERS: maps.Clone.
-/
import Derived.Test.YtonjpfpdpfonnaaDoorL31
import Derived.Laws.Externs
import Derived.MapKept
import Derived.WalkKit
namespace Go.Proofs.YtonjpfpdpfonnaaDoor
open Go.RowKit
namespace Sx
section
variable {P : Program} (w : World)
end
end Sx
end Go.Proofs.YtonjpfpdpfonnaaDoor
