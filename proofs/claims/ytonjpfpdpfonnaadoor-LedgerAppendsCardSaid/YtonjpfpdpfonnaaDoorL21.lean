/-
  LEDGERS: LedgerDecodes, LedgerFull.
-/
import Derived.Test.YtonjpfpdpfonnaaDoorL20
namespace Go.Proofs.YtonjpfpdpfonnaaDoor
open Go.RowKit
namespace Sx
end Sx
end Go.Proofs.YtonjpfpdpfonnaaDoor
