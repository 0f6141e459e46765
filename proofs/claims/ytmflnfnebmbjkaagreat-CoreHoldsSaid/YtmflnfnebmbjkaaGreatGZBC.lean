/- REFERENCE 39: Find, Valid, Wish, Has, Among. -/
import Derived.Test.YtmflnfnebmbjkaaGreatGZBB
namespace Go.Proofs.YtmflnfnebmbjkaaGreat
open Go.RowKit
namespace Sx
def encBo (x:Bool):List D:=[yM x]
instance:Row encBo 1:=⟨fun _=>rfl,fun x=>by unfold encBo;infer_instance,by decide⟩
