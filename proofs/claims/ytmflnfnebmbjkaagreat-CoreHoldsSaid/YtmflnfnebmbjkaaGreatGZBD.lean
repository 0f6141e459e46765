/- REFERENCE 39: ValidWishes, Free, Mark, All, Same. -/
import Derived.Test.YtmflnfnebmbjkaaGreatGZBC
set_option maxHeartbeats 8000000
set_option maxRecDepth 100000
namespace Go.Proofs.YtmflnfnebmbjkaaGreat
open Go.RowKit
namespace Sx
theorem qe (xs:List Int) (hl:xs.length≤1000000):Con Tryz.prog 13 [lsD z6 xs,lsD z6 xs] (yM true):=by
 refine yb Tryz.func13 k9 I k9 fun base w0=>(zt<|zi I<|ze<|zh<|zt<|zc I<|za I (zS (e:=3) I k9)<|zc I<|za I (zS (e:=3) I k9)<|za I (zT I I)<|ze<|zB I s9<|zv<|zg<|zh<|zt<|zi I<|ze<|SW.block<|yf (ι:={i:Nat // i≤xs.length}) (fun i=>zW [(0,lsD z6 xs),(1,lsD z6 xs),(5,iD (i.1:Int))] []) (fun i=>xs.length - i.1) (⟨0,JC _⟩) ?_ ?_)
 ·exact (sB [] I I)
 ·rintro ⟨i,hi⟩ K0 hK0;dsimp only at hi ⊢;refine zh (zt<|zc I<|zc I<|za I (zS (e:=3) I k9)<|za I (yd I I)<|ze<|zI I (fun hb14=> ?_) (fun hb14=> ?_))
  ·have h14:(i:Int) < (xs.length:Int):=oT hb14;refine zv (zg<|zh<|SW.block<|zh ?_);obtain ⟨x,hx⟩:∃ x,xs[i]? =some x:=⟨_,Je o9⟩
   exact yg [] (rr [0,1,2,3,4,5,6,7,8] .fin) k9 k9 (fun d _ _ _ _ h=>by cases d <;> exact h) (zC I I<|zC I I<|zk I I (ya (e:=3) 1 I I k9 k9 o9 (by simpa using hx))<|zk I I (yh I I k9 s9)<|zC I I<|zC I I<|zk I I (ya (e:=3) 1 I I k9 k9 o9 (by simpa using hx))<|zk I I (yh I I k9 s9)<|zk I I (zT I I)<|yO<|zB I s9<|zv<|SN.block<|zg<|zd<|zc I<|za I (Rd.add I I ⟨by omega,by omega⟩)<|zi I<|zw (fun aK wK hh=>hK0 (⟨i + 1,by omega⟩) (by dsimp only;omega) aK wK<|hh.sub<|⟨⟨_,I,⟨lq I,⟨lq I,⟨⟨_,I,zL s9⟩,t9⟩⟩⟩⟩,[],by decide,trivial⟩))
  ·have h14:¬(i:Int) < (xs.length:Int):=oF hb14;refine zR ?_
   repeat (first | refine zY ?_ | refine zZ d9 ?_)
   refine z1 (zg<|zt<|zi I<|ze<|zK (fn:=Tryz.f13) (fun _ _ h=>h)<|Rs.le (zU I<|zu I) ?_);exact zb _
