/-
  LEDGERS: the reference, Consistent.
-/
import Derived.Test.YtonjpfpdpfonnaaDoorL24
namespace Go.Proofs.YtonjpfpdpfonnaaDoor
open Go.RowKit
namespace Sx
end Sx
end Go.Proofs.YtonjpfpdpfonnaaDoor
