/-
  LEDGERS: LedgerHolds.
-/
import Derived.Test.YtonjpfpdpfonnaaDoorL35
namespace Go.Proofs.YtonjpfpdpfonnaaDoor
open Go.RowKit
namespace Sx
end Sx
end Go.Proofs.YtonjpfpdpfonnaaDoor
