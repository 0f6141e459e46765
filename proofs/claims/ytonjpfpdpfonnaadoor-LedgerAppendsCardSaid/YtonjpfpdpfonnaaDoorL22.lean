/-
  LEDGERS: LedgerFull.
-/
import Derived.Test.YtonjpfpdpfonnaaDoorL21
namespace Go.Proofs.YtonjpfpdpfonnaaDoor
open Go.RowKit
namespace Sx
end Sx
end Go.Proofs.YtonjpfpdpfonnaaDoor
