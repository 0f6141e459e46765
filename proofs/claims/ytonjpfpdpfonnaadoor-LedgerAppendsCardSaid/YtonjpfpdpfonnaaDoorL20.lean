/-
  LEDGERS: the reference's Decode; encodings and back.
-/
import Derived.Test.YtonjpfpdpfonnaaDoorL19
namespace Go.Proofs.YtonjpfpdpfonnaaDoor
open Go.RowKit
namespace Sx
end Sx
end Go.Proofs.YtonjpfpdpfonnaaDoor
