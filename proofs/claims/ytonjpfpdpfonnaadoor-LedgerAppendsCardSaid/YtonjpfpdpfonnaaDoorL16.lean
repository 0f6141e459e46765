/-
  LEDGERS: nothing there.
-/
import Derived.Test.YtonjpfpdpfonnaaDoorL15
namespace Go.Proofs.YtonjpfpdpfonnaaDoor
open Go.RowKit
namespace Sx
end Sx
end Go.Proofs.YtonjpfpdpfonnaaDoor
