/- REFERENCE 40: Owed, Blocks, Core, Raised, Lowest. REFERENCE 40: VCG, Threshold, Raised. REFERENCE 40: Payments. -/
import Derived.Test.YtmflnfnebmbjkaaGreatGZBE
set_option maxHeartbeats 8000000
set_option maxRecDepth 100000
namespace Go.Proofs.YtmflnfnebmbjkaaGreat
open Go.RowKit
namespace Sx
section
theorem con_owed (V bd:Nat→Int) (n c:Nat) (hc:c < 2 ^ n) (hn:n≤6) (hV:∀ c < 2 ^ n,0≤V c∧V c≤6597069766656) (hb:∀ i < n,0≤bd i∧bd i≤1099511627776):Con Tryz.prog 44 [lsD ya<|zD V<|2 ^ n,lsD ya<|zD bd n,iD (c:Int)] (iD<|Co.need V bd n c):=by
 have hc64:c < 64:=Ju hc (Co.pow_le64 hn);have hVc:=hV c hc;refine z1 Tryz.func44 k9 I k9 fun base w0=>(zt<|zd I<|zQ<|zc I<|zc I<|za I (zS (e:=3) 1 I I k9 k9 o9<|ZU hc)<|za I (zK I I k9 s9)<|zd I<|ze<|zh<|zt<|zd I<|ze<|SW.block<|z7 (ι:={i:Nat // i≤n}) (fun i=>z6 [(1,lsD ya<|zD bd n),(2,iD (c:Int)),(7,iD<|V c - Co.ic c bd i.1),(8,iD (i.1:Int))] []) (fun i=>n - i.1) (⟨0,JC _⟩) ?_ ?_)
 ·exact ⟨⟨_,I,⟨lq I,⟨lq I,⟨⟨_,I,zG (by simp [Co.ic,Co.sm])⟩,⟨lq I,t9⟩⟩⟩⟩⟩,[],by decide,trivial⟩
 ·rintro ⟨i,hi⟩ K0 hK0;dsimp only at hi ⊢;have hic:=ic_bd (p:=bd) (c:=c) (n:=i) (M:=1099511627776) d9 (fun j hj=>hb j o9);refine zh (zt<|zc I<|zc I<|za I (zV (e:=3) I k9)<|za I (yc I I)<|ze<|zE I (fun hb16=> ?_) (fun hb16=> ?_))
  ·have h16:i < n:=by have h:=oT hb16;rw [yi] at h;omega
   refine zx (zg<|zh<|SW.block<|zt<|zc I<|zc I<|zq (S:=[]) (zn (Wu c i o9 o9) I ⟨zb _,zb _,t9⟩ I)<|ze<|zE I (fun hb21=> ?_) (fun hb21=> ?_))
   ·skip
    have hbi:=hb i o9;exact zf (zc I<|zc I<|zc I<|za I (zS (e:=3) 1 I I k9 k9 o9<|ZU o9)<|za I (zK I I k9 s9)<|za I (yl I I ⟨by omega,by omega⟩)<|zd I<|zv<|SN.block<|zg<|zf<|zc I<|za I (Rd.add I I ⟨by omega,by omega⟩)<|zd I<|zv (fun aK wK hh=>hK0 (⟨i + 1,by omega⟩) (by dsimp only;omega) aK wK<|hh.sub<|⟨⟨_,I,⟨lq I,⟨lq I,⟨⟨_,I,zG (by dsimp only;rw [ic_succ,if_pos hb21];congr 1;omega)⟩,⟨⟨_,I,zG s9⟩,t9⟩⟩⟩⟩⟩,[],by decide,trivial⟩))
   ·skip
    exact zx (SN.block<|zg<|zf<|zc I<|za I (Rd.add I I ⟨by omega,by omega⟩)<|zd I<|zv (fun aK wK hh=>hK0 (⟨i + 1,by omega⟩) (by dsimp only;omega) aK wK<|hh.sub<|⟨⟨_,I,⟨lq I,⟨lq I,⟨⟨_,I,zG (by dsimp only;rw [ic_succ,if_neg (by rw [hb21];decide)];simp)⟩,⟨⟨_,I,zG s9⟩,t9⟩⟩⟩⟩⟩,[],by decide,trivial⟩))
  ·have h16:¬i < n:=by have h:=oF hb16;rw [yi] at h;omega
   refine zP ?_
   repeat (first | refine zW ?_ | refine zX d9 ?_)
   refine zY (zg<|zt<|zc I<|zd I<|ze<|zF (fn:=Tryz.f44) (fun _ _ h=>h)<|Rs.le (zN I<|zo I) ?_);exact zG (by rw [show i=n by omega];rfl)
end
section
theorem con_vcgR (b:Int) (l:List Co.Cl) (ws:List Co.Wi) (hw:ws.length≤1000000) (hv:Co.VW b l ws):Con Tryz.prog 17 [iD b,lsD z2 l,lsD yC ws] (Zi [lsD ya<|zD (Co.vcg (Co.vO b l ws) (Co.bO b l ws) l.length) l.length,iD 0]):=by
 have hn6:=hv.c.n;have hb2:=hv.c.b2;have hb1:=hv.c.b1;have hmk:=Co.mkt hv;have hS64:2 ^ l.length≤64:=Co.pow_le64 hn6;refine z1 Tryz.func17 k9 I k9 fun base w0=>(zt<|zd I<|zd I<|zQ<|zc I<|zc I<|zc I<|zq (S:=[]) (zn (W7 b l ws hw hv) I ⟨zb _,zb _,zb _,t9⟩ I)<|zc I<|za I (zi I I)<|za I (zi I I)<|zd I<|zd I<|ze<|zh<|zt<|zc I<|za I (yk I I)<|ze<|zI I I<|zx<|zg<|zt<|zc I<|zc I<|zc I<|zq (S:=[]) (zn (Wz b l ws hw hv) I ⟨zb _,zb _,zb _,t9⟩ I)<|zc I<|za I (zi I I)<|za I (zi I I)<|zd I ?_);refine zd I (zQ<|zd I<|zQ<|zd I<|ze<|zh<|zt<|zd I<|ze<|SW.block<|Yw 3 1 ya<|z7 (ι:={p:Nat × Wst // p.1≤l.length}) (fun p=>z6 [(1,lsD z2 l),(8,lsD ya<|zD (Co.vO b l ws)<|2 ^ l.length),(10,lsD ya<|zD (Co.bO b l ws) l.length),(13,iD ((2 ^ p.1.1:Nat):Int)),(12,isD<|.slice p.1.2.A (zD (Co.vcg (Co.vO b l ws) (Co.bO b l ws) l.length) p.1.1).length p.1.2.c),(14,iD (p.1.1:Int))] [.r p.1.2.F<|yp 3 1 ya p.1.2.A p.1.2.c<|zD (Co.vcg (Co.vO b l ws) (Co.bO b l ws) l.length) p.1.1]) (fun p=>l.length - p.1.1) (⟨(0,⟨none,0,[]⟩),JC _⟩) ?_ ?_)
 ·exact (sB [0] I I)
 ·rintro ⟨⟨i,t⟩,hi⟩ K0 hK0;dsimp only at hi ⊢;refine zh (zt<|zc I<|zc I<|za I (zV (e:=61) I k9)<|za I (yc I I)<|ze<|zE I (fun hb35=> ?_) (fun hb35=> ?_))
  ·have h35:(i:Int) < (l.length:Int):=oT hb35;refine zx (zg<|zh<|SW.block<|zh ?_);obtain ⟨o,ho⟩:∃ o,o=2 ^ l.length - 1 - 2 ^ i:=⟨_,rfl⟩
   have hoS:o < 2 ^ l.length:=by rw [ho];exact (Co.fullN _ hn6 i o9).1
   have h2i:=pow_64 (i:=i) o9;have h2i0:0 < 2 ^ i:=Nat.pow_pos d9
   have hvg:Co.need (Co.vO b l ws) (Co.bO b l ws) l.length o=Co.vcg (Co.vO b l ws) (Co.bO b l ws) l.length i:=by rw [ho];rfl
   exact zf (zc I<|zc I<|zc I<|zc I<|za I (zV (e:=3) I k9)<|za I (Rd.mono (yl I I ⟨by rw [yi];omega,by rw [yi];omega⟩) (show Le _ (iD<|((2 ^ l.length:Nat):Int) - 1) from zG (by rw [yi])))<|zc I<|za I (Rd.mono (yl I I ⟨by omega,by omega⟩) (show Le _ (iD (o:Int)) from zG (by rw [ho];congr 1;exact zaA _ hn6 i o9)))<|zq (S:=[]) (zn (con_owed (Co.vO b l ws) (Co.bO b l ws) l.length o hoS hn6 (fun c _=>Co.vO_ub hv c) hmk.bd0) I ⟨zb _,zb _,zb _,t9⟩ I)<|zq (S:=[]) (Zs I I qn I) (SWl.e4 (YV 0 1 8 I I (ZZ (l:=[_]) I) k9 k9 (by rw [yi,List.length_singleton];omega) d9 (fun _ h=>h) I) fun A48 F48 c48=>(zd I<|ze<|zf<|zc I<|za I (Rd.mono (Rd.mul I I ⟨by omega,by omega⟩) (show Le _ (iD ((2 ^ (i + 1):Nat):Int)) from zG (by rw [pw2 i o9])))<|zd I<|zv<|SN.block<|zg<|zf<|zc I<|za I (Rd.add I I ⟨by omega,by omega⟩)<|zd I<|zv (fun aK wK hh=>hK0 (⟨(i + 1,⟨A48,c48,F48⟩),by simp only;omega⟩) (by simp only;omega) aK wK<|hh.sub<|⟨⟨_,I,⟨lq I,⟨lq I,⟨lq I,⟨lq I,⟨⟨_,I,zG (by dsimp only;rw [qd,← hvg])⟩,⟨⟨_,I,zG s9⟩,t9⟩⟩⟩⟩⟩⟩⟩,[0],by decide,⟨⟨_,rfl,(by dsimp only;rw [qd,← hvg];exact zL _)⟩,trivial⟩⟩))))
  ·have h35:¬(i:Int) < (l.length:Int):=oF hb35;refine zP ?_
   repeat (first | refine zW ?_ | refine zX d9 ?_)
   refine zY (zg<|zt<|zc I<|zd I<|zd I<|ze<|SW.freezeT 0 6 I I (by rw [show i=l.length by omega];exact zb _)<|zF (fn:=Tryz.f17) (fun _ _ h=>h)<|Rs.le (Rs.two I (zo I)<|zo I) ?_);exact zb _
theorem con_vcgRN (b:Int) (l:List Co.Cl) (ws:List Co.Wi) (hw:ws.length≤1000000) (hl:l.length≤1000000) (hv:¬Co.VW b l ws):Con Tryz.prog 17 [iD b,lsD z2 l,lsD yC ws] (Zi [lsD ya [],iD 2]):=by
 refine z1 Tryz.func17 k9 I k9 fun base w0=>(zt<|zd I<|zd I<|zQ<|zc I<|zc I<|zc I<|zq (S:=[]) (zn (Wl b l ws hw hl hv) I ⟨zb _,zb _,zb _,t9⟩ I)<|zc I<|za I (zi I I)<|za I (zi I I)<|zd I<|zd I<|ze<|zh<|zt<|zc I<|za I (yk I I)<|ze<|ye I I<|zt<|zc I<|zd I<|zd I<|ze<|zF (fn:=Tryz.f17) (fun _ _ h=>h)<|Rs.le (Rs.two I (zo I)<|zo I) ?_);exact yR ⟨y9,zb _,t9⟩
end
section
