/- ROUNDS: the reference's Valid, At, with. ROUNDS: the reference's Record, Of. -/
import Derived.Test.YtgokpcnabgacnaaGreatDoorGZBB
import Derived.Test.YtgokpcnabgacnaaGreatDoorGZBD
namespace Go.Proofs.YtgokpcnabgacnaaGreatDoor
open Go.RowKit
namespace Sx
def encKy (k:LB):List D:=[bD k]
instance:Row encKy 1:=⟨fun _=>rfl,fun _=>by unfold encKy;infer_instance,by decide⟩
instance (k:LB):Ones (encKy k):=by unfold encKy;infer_instance
def encNo (_:Unit):List D:=[isD (.slice none 0 0)]
instance:Row encNo 1:=⟨fun _=>rfl,fun _=>by unfold encNo;infer_instance,by decide⟩
end Sx
end Go.Proofs.YtgokpcnabgacnaaGreatDoor
