/-
  LEDGERS: made, the list too one's own.
-/
import Derived.Test.YtonjpfpdpfonnaaDoorL30
namespace Go.Proofs.YtonjpfpdpfonnaaDoor
open Go.RowKit
namespace Sx
end Sx
end Go.Proofs.YtonjpfpdpfonnaaDoor
