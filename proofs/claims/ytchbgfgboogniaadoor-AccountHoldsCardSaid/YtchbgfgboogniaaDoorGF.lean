/-
  THE WALKS of the reference's small functions: Words, Row, Lane, Right, G.
  THE WALKS of the reference's Right and G.
  APPEND to a row of bytes of the call's own, in this program's numbers.
  THE WALK of the reference's Compress.
  THE WALK of the reference's Hash: it computes Bl.hash.
-/
import Derived.Test.YtchbgfgboogniaaDoorGD
import Derived.Test.YtchbgfgboogniaaDoorGA
import Derived.Test.YtchbgfgboogniaaDoorGB
import Derived.Test.YtchbgfgboogniaaDoorGC
namespace Go.Proofs.YtchbgfgboogniaaDoor
open Go.RowKit
end Go.Proofs.YtchbgfgboogniaaDoor
namespace Go.Proofs.YtchbgfgboogniaaDoor
open Go.RowKit
end Go.Proofs.YtchbgfgboogniaaDoor
namespace Go.Proofs.YtchbgfgboogniaaDoor
open Go.RowKit
section
variable {w : World} {ops : Array Oper} {rest : List Oper} {o : Oper} {a : Act} {Q : Exit → Act → World → Prop}
end
end Go.Proofs.YtchbgfgboogniaaDoor
namespace Go.Proofs.YtchbgfgboogniaaDoor
open Go.RowKit
section
variable {w : World} {ops : Array Oper} {rest : List Oper} {o : Oper} {a : Act} {Q : Exit → Act → World → Prop}
end
namespace Bl
end Bl
end Go.Proofs.YtchbgfgboogniaaDoor
namespace Go.Proofs.YtchbgfgboogniaaDoor
open Go.RowKit
namespace Bl
end Bl
end Go.Proofs.YtchbgfgboogniaaDoor
