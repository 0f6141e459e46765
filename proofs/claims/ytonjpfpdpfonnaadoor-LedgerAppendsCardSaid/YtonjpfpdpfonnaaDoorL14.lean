/-
  LEDGERS: LedgerProves.
-/
import Derived.Test.YtonjpfpdpfonnaaDoorGZ
namespace Go.Proofs.YtonjpfpdpfonnaaDoor
open Go.RowKit
namespace Sx
end Sx
end Go.Proofs.YtonjpfpdpfonnaaDoor
