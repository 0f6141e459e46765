/- REFERENCE 40: Owed, Blocks, Core, Raised, Lowest. REFERENCE 40: VCG, Threshold, Raised. REFERENCE 40: Payments. -/
import Derived.Test.YtmflnfnebmbjkaaGreatGZBE
set_option maxHeartbeats 8000000
set_option maxRecDepth 100000
namespace Go.Proofs.YtmflnfnebmbjkaaGreat
open Go.RowKit
namespace Sx
section
theorem con_owed (V bd:Nat→Int) (n c:Nat) (hc:c < 2 ^ n) (hn:n≤6) (hV:∀ c < 2 ^ n,0≤V c∧V c≤6597069766656) (hb:∀ i < n,0≤bd i∧bd i≤1099511627776):Con Tryz.prog 44 [lsD yd<|zF V<|2 ^ n,lsD yd<|zF bd n,iD (c:Int)] (iD<|Co.need V bd n c):=by
 have hc64:c < 64:=Ju hc (Co.pow_le64 hn);have hVc:=hV c hc;refine z1 Tryz.func44 k9 I k9 fun base w0=>(zq<|zd I<|zT<|zc I<|zc I<|za I (zR (e:=3) 1 I I k9 k9 o9<|ZH hc)<|za I (zL I I k9 s9)<|zd I<|ze<|zh<|zq<|zd I<|ze<|SW.block<|z2 (ι:={i:Nat // i≤n}) (fun i=>z6 [(1,lsD yd<|zF bd n),(2,iD (c:Int)),(7,iD<|V c - Co.ic c bd i.1),(8,iD (i.1:Int))] []) (fun i=>n - i.1) (⟨0,JC _⟩) ?_ ?_)
 ·exact ⟨⟨_,I,⟨lq I,⟨lq I,⟨⟨_,I,zH (by simp [Co.ic,Co.sm])⟩,⟨lq I,t9⟩⟩⟩⟩⟩,[],by decide,trivial⟩
 ·rintro ⟨i,hi⟩ K0 hK0;dsimp only at hi ⊢;have hic:=ic_bd (p:=bd) (c:=c) (n:=i) (M:=1099511627776) d9 (fun j hj=>hb j o9);refine zh (zq<|zc I<|zc I<|za I (zU (e:=3) I k9)<|za I (ya I I)<|ze<|zD I (fun hb16=> ?_) (fun hb16=> ?_))
  ·have h16:i < n:=by have h:=oT hb16;rw [yl] at h;omega
   refine zx (zg<|zh<|SW.block<|zq<|zc I<|zc I<|zt (S:=[]) (zl (KP c i o9 o9) I ⟨zb _,zb _,t9⟩ I)<|ze<|zD I (fun hb21=> ?_) (fun hb21=> ?_))
   ·skip
    have hbi:=hb i o9;exact zf (zc I<|zc I<|zc I<|za I (zR (e:=3) 1 I I k9 k9 o9<|ZH o9)<|za I (zL I I k9 s9)<|za I (yu I I ⟨by omega,by omega⟩)<|zd I<|zy<|SN.block<|zg<|zf<|zc I<|za I (Rd.add I I ⟨by omega,by omega⟩)<|zd I<|zy (fun aK wK hh=>hK0 (⟨i + 1,by omega⟩) (by dsimp only;omega) aK wK<|hh.sub<|⟨⟨_,I,⟨lq I,⟨lq I,⟨⟨_,I,zH (by dsimp only;rw [ic_succ,if_pos hb21];congr 1;omega)⟩,⟨⟨_,I,zH s9⟩,t9⟩⟩⟩⟩⟩,[],by decide,trivial⟩))
   ·skip
    exact zx (SN.block<|zg<|zf<|zc I<|za I (Rd.add I I ⟨by omega,by omega⟩)<|zd I<|zy (fun aK wK hh=>hK0 (⟨i + 1,by omega⟩) (by dsimp only;omega) aK wK<|hh.sub<|⟨⟨_,I,⟨lq I,⟨lq I,⟨⟨_,I,zH (by dsimp only;rw [ic_succ,if_neg (by rw [hb21];decide)];simp)⟩,⟨⟨_,I,zH s9⟩,t9⟩⟩⟩⟩⟩,[],by decide,trivial⟩))
  ·have h16:¬i < n:=by have h:=oF hb16;rw [yl] at h;omega
   refine zP ?_
   repeat (first | refine zW ?_ | refine zX d9 ?_)
   refine zY (zg<|zq<|zc I<|zd I<|ze<|zE (fn:=Tryz.f44) (fun _ _ h=>h)<|Rs.le (zM I<|zo I) ?_);exact zH (by rw [show i=n by omega];rfl)
end
section
end
section
