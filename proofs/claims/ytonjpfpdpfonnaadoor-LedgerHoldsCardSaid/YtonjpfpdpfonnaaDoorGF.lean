/-
  THE WALKS of the reference's small functions: Words, Row, Lane, Right, G.
  THE WALKS of the reference's Right and G.
  APPEND to a row of bytes of the call's own, in this program's numbers.
  THE WALK of the reference's Compress.
  THE WALK of the reference's Hash: it computes Bl.hash.
-/
import Derived.Test.YtonjpfpdpfonnaaDoorGD
import Derived.Test.YtonjpfpdpfonnaaDoorGA
import Derived.Test.YtonjpfpdpfonnaaDoorGB
import Derived.Test.YtonjpfpdpfonnaaDoorGC
namespace Go.Proofs.YtonjpfpdpfonnaaDoor
open Go.RowKit
end Go.Proofs.YtonjpfpdpfonnaaDoor
namespace Go.Proofs.YtonjpfpdpfonnaaDoor
open Go.RowKit
end Go.Proofs.YtonjpfpdpfonnaaDoor
namespace Go.Proofs.YtonjpfpdpfonnaaDoor
open Go.RowKit
section
variable {w : World} {ops : Array Oper} {rest : List Oper} {o : Oper} {a : Act} {Q : Exit → Act → World → Prop}
end
end Go.Proofs.YtonjpfpdpfonnaaDoor
namespace Go.Proofs.YtonjpfpdpfonnaaDoor
open Go.RowKit
section
variable {w : World} {ops : Array Oper} {rest : List Oper} {o : Oper} {a : Act} {Q : Exit → Act → World → Prop}
end
namespace Bl
end Bl
end Go.Proofs.YtonjpfpdpfonnaaDoor
namespace Go.Proofs.YtonjpfpdpfonnaaDoor
open Go.RowKit
namespace Bl
end Bl
end Go.Proofs.YtonjpfpdpfonnaaDoor
