/- ROUNDS: agrees. -/
import Derived.Test.YtgokpcnabgacnaaGreatDoorGZBK
import Derived.Test.YtgokpcnabgacnaaGreatDoorGZBJ
namespace Go.Proofs.YtgokpcnabgacnaaGreatDoor
open Go.RowKit
namespace Sx
theorem bidsV_len {s:Rnd.S} (hg:Rnd.Good s) (r:Int):(Z4 s r).length≤1000000:=by
 unfold Z4
 split
 ·have:=rowsL_len hg r;omega
 ·simp
end Sx
end Go.Proofs.YtgokpcnabgacnaaGreatDoor
