/-
  WIRE: value, and the reader's methods.
  WIRE: Read, Err, End; the reference's Ungroup.
  WIRE: the reference's readers.
  WIRE: what is written is read again, and what is read was written so; in plain terms.
-/
import Derived.Test.YtchbgfgboogniaaDoorGK
namespace Go.Proofs.YtchbgfgboogniaaDoor
open Go.RowKit
namespace Sx
end Sx
end Go.Proofs.YtchbgfgboogniaaDoor
namespace Go.Proofs.YtchbgfgboogniaaDoor
open Go.RowKit
namespace Sx
def endE (r : RT) : Int := if r.e = 0 ∧ r.p ≠ [] then 5 else r.e
end Sx
end Go.Proofs.YtchbgfgboogniaaDoor
namespace Go.Proofs.YtchbgfgboogniaaDoor
open Go.RowKit
namespace Sx
def u6 (p : List UInt8) : Nat × Nat × Int := match rdg 9 true p with | .ok (n, m) => (n, m, 0) | .error e => (0, 0, e)
def c6 (lim : Int) (p : List UInt8) : Nat × Nat × Int := if (u6 p).2.2 ≠ 0 then (0, 0, (u6 p).2.2) else if lim < ((u6 p).1 : Int) then (0, 0, 7) else ((u6 p).1, (u6 p).2.1, 0)
end Sx
end Go.Proofs.YtchbgfgboogniaaDoor
namespace Go.Proofs.YtchbgfgboogniaaDoor
open Go.RowKit
namespace Sx
end Sx
end Go.Proofs.YtchbgfgboogniaaDoor
