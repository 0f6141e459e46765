/- REFERENCE 40: Owed, Blocks, Core, Raised, Lowest. REFERENCE 40: VCG, Threshold, Raised. REFERENCE 40: Payments. -/
import Derived.Test.YtmflnfnebmbjkaaGreatGZBE
set_option maxHeartbeats 8000000
set_option maxRecDepth 100000
namespace Go.Proofs.YtmflnfnebmbjkaaGreat
open Go.RowKit
namespace Sx
section
theorem za7 (V bd:Nat→Int) (n c:Nat) (hc:c < 2 ^ n) (hn:n≤6) (hV:∀ c < 2 ^ n,0≤V c∧V c≤6597069766656) (hb:∀ i < n,0≤bd i∧bd i≤1099511627776):Con Tryz.prog 44 [lsD z2<|zC V<|2 ^ n,lsD z2<|zC bd n,iD (c:Int)] (iD<|Co.need V bd n c):=by
 have hc64:c < 64:=Ju hc (Co.pow_le64 hn);have hVc:=hV c hc;refine zZ Tryz.func44 k9 I k9 fun base w0=>(zt<|ze I<|zR<|zc I<|zc I<|za I (zQ (e:=3) 1 I I k9 k9 o9<|Zz hc)<|za I (zJ I I k9 s9)<|ze I<|zd<|zh<|zt<|ze I<|zd<|SW.block<|z6 (ι:={i:Nat // i≤n}) (fun i=>ya [(1,lsD z2<|zC bd n),(2,iD (c:Int)),(7,iD<|V c - Co.ic c bd i.1),(8,iD (i.1:Int))] []) (fun i=>n - i.1) (⟨0,JC _⟩) ?_ ?_)
 ·exact ⟨⟨_,I,⟨lq I,⟨lq I,⟨⟨_,I,zG (by simp [Co.ic,Co.sm])⟩,⟨lq I,t9⟩⟩⟩⟩⟩,[],by decide,trivial⟩
 ·rintro ⟨i,hi⟩ K0 hK0;dsimp only at hi ⊢;have hic:=ic_bd (p:=bd) (c:=c) (n:=i) (M:=1099511627776) d9 (fun j hj=>hb j o9);refine zh (zt<|zc I<|zc I<|za I (zV (e:=3) I k9)<|za I (yb I I)<|zd<|zD I (fun hb16=> ?_) (fun hb16=> ?_))
  ·have h16:i < n:=by have h:=oT hb16;rw [ye] at h;omega
   refine zw (zg<|zh<|SW.block<|zt<|zc I<|zc I<|zp (S:=[]) (zn (Kx c i o9 o9) I ⟨zb _,zb _,t9⟩ I)<|zd<|zD I (fun hb21=> ?_) (fun hb21=> ?_))
   ·skip
    have hbi:=hb i o9;exact zf (zc I<|zc I<|zc I<|za I (zQ (e:=3) 1 I I k9 k9 o9<|Zz o9)<|za I (zJ I I k9 s9)<|za I (yl I I ⟨by omega,by omega⟩)<|ze I<|zv<|SN.block<|zg<|zf<|zc I<|za I (Rd.add I I ⟨by omega,by omega⟩)<|ze I<|zv (fun aK wK hh=>hK0 (⟨i + 1,by omega⟩) (by dsimp only;omega) aK wK<|hh.sub<|⟨⟨_,I,⟨lq I,⟨lq I,⟨⟨_,I,zG (by dsimp only;rw [ic_succ,if_pos hb21];congr 1;omega)⟩,⟨⟨_,I,zG s9⟩,t9⟩⟩⟩⟩⟩,[],by decide,trivial⟩))
   ·skip
    exact zw (SN.block<|zg<|zf<|zc I<|za I (Rd.add I I ⟨by omega,by omega⟩)<|ze I<|zv (fun aK wK hh=>hK0 (⟨i + 1,by omega⟩) (by dsimp only;omega) aK wK<|hh.sub<|⟨⟨_,I,⟨lq I,⟨lq I,⟨⟨_,I,zG (by dsimp only;rw [ic_succ,if_neg (by rw [hb21];decide)];simp)⟩,⟨⟨_,I,zG s9⟩,t9⟩⟩⟩⟩⟩,[],by decide,trivial⟩))
  ·have h16:¬i < n:=by have h:=oF hb16;rw [ye] at h;omega
   refine zM ?_
   repeat (first | refine zW ?_ | refine zX d9 ?_)
   refine zY (zg<|zt<|zc I<|ze I<|zd<|zF (fn:=Tryz.f44) (fun _ _ h=>h)<|Rs.le (zN I<|zo I) ?_);exact zG (by rw [show i=n by omega];rfl)
theorem zb0 (V bd p:Nat→Int) (n c:Nat) (hc:c < 2 ^ n) (hmk:Co.Mkt n V bd) (hV:∀ c < 2 ^ n,0≤V c∧V c≤6597069766656) (hp:∀ i < n,0≤p i∧p i≤65970697666560):Con Tryz.prog 127 [lsD z2<|zC V<|2 ^ n,lsD z2<|zC bd n,lsD z2<|zC p n,iD (c:Int)] (yK<|decide (60 * Co.need V bd n c > Co.oc c p n)):=by
 have hn:=hmk.n6;have hc64:c < 64:=Ju hc (Co.pow_le64 hn);have hnd:=jo hmk hc;refine zZ Tryz.func127 k9 I k9 fun base w0=>(zt<|ze I<|zR<|ze I<|zd<|zh<|zt<|ze I<|zd<|SW.block<|z6 (ι:={i:Nat // i≤n}) (fun i=>ya [(0,lsD z2<|zC V<|2 ^ n),(1,lsD z2<|zC bd n),(2,lsD z2<|zC p n),(3,iD (c:Int)),(9,iD<|Co.oc c p i.1),(10,iD (i.1:Int))] []) (fun i=>n - i.1) (⟨0,JC _⟩) ?_ ?_)
 ·exact (sB [] I I)
 ·rintro ⟨i,hi⟩ K0 hK0;dsimp only at hi ⊢;have hoc:=Co.oc_ub (p:=p) (c:=c) (n:=i) (M:=65970697666560) d9 (fun j hj=>hp j o9);refine zh (zt<|zc I<|zc I<|za I (zV (e:=3) I k9)<|za I (yb I I)<|zd<|zD I (fun hb14=> ?_) (fun hb14=> ?_))
  ·have h14:i < n:=by have h:=oT hb14;rw [ye] at h;omega
   refine zw (zg<|zh<|SW.block<|zt<|zc I<|zc I<|zp (S:=[]) (zn (Kx c i o9 o9) I ⟨zb _,zb _,t9⟩ I)<|za I (yG I)<|zd<|zD I (fun hb20=> ?_) (fun hb20=> ?_))
   ·skip
    have hpi:=hp i o9;exact zf (zc I<|zc I<|zc I<|za I (zQ (e:=3) 1 I I k9 k9 o9<|Zz o9)<|za I (zJ I I k9 s9)<|za I (Rd.add I I ⟨by omega,by omega⟩)<|ze I<|zv<|SN.block<|zg<|zf<|zc I<|za I (Rd.add I I ⟨by omega,by omega⟩)<|ze I<|zv (fun aK wK hh=>hK0 (⟨i + 1,by omega⟩) (by dsimp only;omega) aK wK<|hh.sub<|⟨⟨_,I,⟨lq I,⟨lq I,⟨lq I,⟨lq I,⟨⟨_,I,zG (by dsimp only;rw [oc_succ,if_neg (by simpa using hb20)])⟩,⟨⟨_,I,zG s9⟩,t9⟩⟩⟩⟩⟩⟩⟩,[],by decide,trivial⟩))
   ·skip
    exact zw (SN.block<|zg<|zf<|zc I<|za I (Rd.add I I ⟨by omega,by omega⟩)<|ze I<|zv (fun aK wK hh=>hK0 (⟨i + 1,by omega⟩) (by dsimp only;omega) aK wK<|hh.sub<|⟨⟨_,I,⟨lq I,⟨lq I,⟨lq I,⟨lq I,⟨⟨_,I,zG (by dsimp only;rw [oc_succ,if_pos (by simpa using hb20)];simp)⟩,⟨⟨_,I,zG s9⟩,t9⟩⟩⟩⟩⟩⟩⟩,[],by decide,trivial⟩))
  ·have h14:¬i < n:=by have h:=oF hb14;rw [ye] at h;omega
   refine zM ?_
   repeat (first | refine zW ?_ | refine zX d9 ?_)
   refine zY (zg<|zt<|zc I<|zc I<|zc I<|zp (S:=[]) (zn (za7 V bd n c hc hn hV hmk.bd0) I ⟨zb _,zb _,zb _,t9⟩ I)<|za I (Rd.mul I I ⟨by omega,by omega⟩)<|zc I<|za I (y5 I I)<|ze I<|zd<|zF (fn:=Tryz.f127) (fun _ _ h=>h)<|Rs.le (zN I<|zo I) ?_);exact z7 (by rw [show i=n by omega])
theorem con_core (V bd p:Nat→Int) (n:Nat) (hmk:Co.Mkt n V bd) (hV:∀ c < 2 ^ n,0≤V c∧V c≤6597069766656) (hp:∀ i < n,0≤p i∧p i≤65970697666560):Con Tryz.prog 95 [lsD z2<|zC V<|2 ^ n,lsD z2<|zC bd n,lsD z2<|zC p n] (yK<|inB V bd n p):=by
 have hn:=hmk.n6;have hS64:=Co.pow_le64 hn;refine zZ Tryz.func95 k9 I k9 fun base w0=>(zt<|ze I<|zd<|zh<|zt<|ze I<|zd<|SW.block<|z6 (ι:={c:Nat // c≤2 ^ n∧∀ j < c,¬60 * Co.need V bd n j > Co.oc j p n}) (fun q=>ya [(0,lsD z2<|zC V<|2 ^ n),(1,lsD z2<|zC bd n),(2,lsD z2<|zC p n),(7,iD (q.1:Int))] []) (fun q=>2 ^ n - q.1) (⟨0,JC _,fun _ h=>absurd h<|Nat.not_lt_zero _⟩) ?_ ?_)
 ·exact (sB [] I I)
 ·rintro ⟨c,hc,hq⟩ K0 hK0;dsimp only at hc hq ⊢;refine zh (zt<|zc I<|zc I<|za I (zV (e:=3) I k9)<|za I (yb I I)<|zd<|zD I (fun hb11=> ?_) (fun hb11=> ?_))
  ·have h11:c < 2 ^ n:=by have h:=oT hb11;rw [ye] at h;omega
   refine zw (zg<|zh<|SW.block<|zt<|zc I<|zc I<|zc I<|zc I<|zp (S:=[]) (zn (zb0 V bd p n c o9 hmk hV hp) I ⟨zb _,zb _,zb _,zb _,t9⟩ I)<|zd<|zD I (fun hb18=> ?_) (fun hb18=> ?_))
   ·skip
    refine zt (ze I<|zd<|zF (fn:=Tryz.f95) (fun _ _ h=>h)<|Rs.le (zN I<|zo I) ?_);exact z7 (inB_f h11<|oT hb18).symm
   ·skip
    exact zw (SN.block<|zg<|zf<|zc I<|za I (Rd.add I I ⟨by omega,by omega⟩)<|ze I<|zv (fun aK wK hh=>hK0 (⟨c + 1,by omega,fun j hj=>(Nat.lt_succ_iff_lt_or_eq.1 hj).elim (hq j) (fun e=>by subst e;exact oF hb18)⟩) (by dsimp only;omega) aK wK<|hh.sub<|⟨⟨_,I,⟨lq I,⟨lq I,⟨lq I,⟨⟨_,I,zG s9⟩,t9⟩⟩⟩⟩⟩,[],by decide,trivial⟩))
  ·have h11:¬c < 2 ^ n:=by have h:=oF hb11;rw [ye] at h;omega
   refine zM ?_
   repeat (first | refine zW ?_ | refine zX d9 ?_)
   refine zY (zg<|zt<|ze I<|zd<|zF (fn:=Tryz.f95) (fun _ _ h=>h)<|Rs.le (zN I<|zo I) ?_);exact z7 (inB_t fun j hj=>hq j o9).symm
theorem zad (bd vc:Nat→Int) (n:Nat) (t0:Int) (hn:n≤6) (h0:0≤t0) (h1:t0≤65970697666560) (hb:∀ i < n,0≤bd i∧bd i≤1099511627776) (hvc:∀ i < n,0≤vc i∧vc i≤1099511627776):Con Tryz.prog 58 [lsD z2<|zC bd n,lsD z2<|zC vc n,iD t0] (lsD z2<|zC (Co.rs bd vc t0) n):=by
 refine zZ Tryz.func58 k9 I k9 fun base w0=>(zt<|ze I<|zR<|ze I<|zd<|zh<|zt<|ze I<|zd<|SW.block<|Yi 3 1 z2<|z6 (ι:={p:Nat × Wst // p.1≤n}) (fun p=>ya [(0,lsD z2<|zC bd n),(1,lsD z2<|zC vc n),(2,iD t0),(7,isD<|.slice p.1.2.A (zC (Co.rs bd vc t0) p.1.1).length p.1.2.c),(8,iD (p.1.1:Int))] [.r p.1.2.F<|yp 3 1 z2 p.1.2.A p.1.2.c<|zC (Co.rs bd vc t0) p.1.1]) (fun p=>n - p.1.1) (⟨(0,⟨none,0,[]⟩),JC _⟩) ?_ ?_)
 ·exact (sB [0] I I)
 ·rintro ⟨⟨i,t⟩,hi⟩ K0 hK0;dsimp only at hi ⊢;refine zh (zt<|zc I<|zc I<|za I (zV (e:=3) I k9)<|za I (yb I I)<|zd<|zD I (fun hb12=> ?_) (fun hb12=> ?_))
  ·have h12:i < n:=by have h:=oT hb12;rw [ye] at h;omega
   refine zw (zg<|zh<|SW.block ?_);have hbi:=hb i o9;have hvi:=hvc i o9
   refine yf (t.F ++ []) (rr [0,1,2,3,4,5,6,7,8,9,10,11,12,13]<|.n 14 (.e 15 (.r 16 .fin) .no) .no) k9 k9 (fun d _ _ _ _ h=>by cases d <;> exact h) (zB I I<|zB I I<|zB I I<|zj I I (zQ (e:=3) 1 I I k9 k9 o9<|Zz o9)<|zj I I (zJ I I k9<|Ye (j:=0) I ZY)<|zj I I (Rd.mul I I ⟨by omega,by omega⟩)<|zB I I<|zB I I<|zj I I (zQ (e:=3) 1 I I k9 k9 o9<|Zz o9)<|zj I I (zJ I I k9<|Ye (j:=0) I ZY)<|zj I I (Rd.mul I I ⟨by omega,by omega⟩)<|zB I I<|zj I I (Rd.add I I ⟨by omega,by omega⟩)<|zj I I (Rd.minI I I)<|yE I (Zg I I Y8 I)<|KD I (YA 0 1 8 I I (ZS (l:=[_]) I) k9 k9 (by rw [ye,Xq];omega) d9 (fun _ h=>mL _ h) I) ?_ yD)
   rintro _ ⟨A30,F30,c30,rfl⟩;exact yR I I (yz<|SN.block<|zg<|zf<|zc I<|za I (Rd.add I I ⟨by omega,by omega⟩)<|ze I<|zv (fun aK wK hh=>hK0 (⟨(i + 1,⟨A30,c30,F30⟩),by simp only;omega⟩) (by simp only;omega) aK wK<|hh.sub<|⟨⟨_,I,⟨lq I,⟨lq I,⟨lq I,⟨⟨_,I,zG (by dsimp only;rw [Yp];rfl)⟩,⟨⟨_,I,zG s9⟩,t9⟩⟩⟩⟩⟩⟩,[0],by decide,⟨⟨_,rfl,(by dsimp only;rw [Yp];exact zL _)⟩,trivial⟩⟩))
  ·have h12:¬i < n:=by have h:=oF hb12;rw [ye] at h;omega
   refine zM ?_
   repeat (first | refine zW ?_ | refine zX d9 ?_)
   refine zY (zg<|zt<|zc I<|ze I<|zd<|SW.freezeT 0 6 I I (by rw [show i=n by omega];exact zb _)<|zF (fn:=Tryz.f58) (fun _ _ h=>h)<|Rs.le (zN I<|zo I) ?_);exact zb _
theorem zaf (V bd:Nat→Int) (n:Nat) (hmk:Co.Mkt n V bd) (hV:∀ c < 2 ^ n,0≤V c∧V c≤6597069766656):Con Tryz.prog 54 [lsD z2<|zC V<|2 ^ n,lsD z2<|zC bd n,lsD z2<|zC (Co.vcg V bd n) n] (iD<|thT V bd n):=by
 have hth:=jH hmk (2 ^ n) (Js _);refine zZ Tryz.func54 k9 I k9 fun base w0=>(zt<|ze I<|zR<|ze I<|ze I<|zd<|zh<|SW.block<|z6 (ι:={q:Int × Int // 0≤q.1∧q.1≤thT V bd n∧thT V bd n≤q.2∧q.2≤65970697666560}) (fun q=>ya [(0,lsD z2<|zC V<|2 ^ n),(1,lsD z2<|zC bd n),(2,lsD z2<|zC (Co.vcg V bd n) n),(7,iD q.1.1),(8,iD q.1.2)] []) (fun q=>(q.1.2 - q.1.1).toNat) (⟨(0,65970697666560),Int.le_refl _,hth.1,hth.2,Int.le_refl _⟩) ?_ ?_)
 ·exact (sB [] I I)
 ·rintro ⟨⟨lo,hg⟩,hq0,hq1,hq2,hq3⟩ K0 hK0;dsimp only at hq0 hq1 hq2 hq3 ⊢;refine zh (zt<|zc I<|zc I<|za I (yb I I)<|zd<|zD I (fun hb12=> ?_) (fun hb12=> ?_))
  ·have h12:lo < hg:=oT hb12;refine zw (zg<|SW.block<|zh ?_);obtain ⟨m,hm⟩:∃ m,m=(lo + hg) / 2:=⟨_,rfl⟩
   have hm0:0≤m:=by omega
   have hm1:m≤65970697666560:=by omega
   refine zf (zc I<|zc I<|za I (Rd.add I I ⟨by omega,by omega⟩)<|za I (Rd.mono (qC I I ⟨by omega,by omega,by omega⟩) (show Le _ (iD m) from zG (by rw [hm])))<|ze I<|zR<|zc I<|zc I<|zc I<|zc I<|zc I<|zp (S:=[]) (zn (zad bd (Co.vcg V bd n) n m hmk.n6 hm0 hm1 hmk.bd0<|KS hmk) I ⟨zb _,zb _,zb _,t9⟩ I)<|zp (S:=[]) (zn (con_core V bd (Co.rs bd (Co.vcg V bd n) m) n hmk hV (fun i hi=>by have h1:=Co.rs_nonneg hmk hm0 hi;have h2:=hmk.bd0 i hi;omega)) I ⟨zb _,zb _,zb _,t9⟩ I)<|zd<|zD I (fun hb23=> ?_) (fun hb23=> ?_))
   ·skip
    exact zf (zc I<|ze I<|zv<|SN.block (fun aK wK hh=>hK0 (⟨(lo,m),hq0,hq1,(inB_iff hmk hm0).1 hb23,hm1⟩) (by dsimp only;omega) aK wK<|hh.sub<|sB [] I I))
   ·have hnm:¬thT V bd n≤m:=fun h=>by rw [(inB_iff hmk hm0).2 h] at hb23;cases hb23
    exact zf (zc I<|za I (Rd.add I I ⟨by omega,by omega⟩)<|ze I<|zv<|SN.block (fun aK wK hh=>hK0 (⟨(m + 1,hg),by omega,by omega,hq2,hq3⟩) (by dsimp only;omega) aK wK<|hh.sub<|sB [] I I))
  ·have h12:¬lo < hg:=oF hb12;refine zM ?_
   repeat (first | refine zW ?_ | refine zX d9 ?_)
   refine zY (zg<|zt<|zc I<|ze I<|zd<|zF (fn:=Tryz.f54) (fun _ _ h=>h)<|Rs.le (zN I<|zo I) ?_);exact zG (by rw [show thT V bd n=lo by omega])
end
section
theorem con_vcgR (b:Int) (l:List Co.Cl) (ws:List Co.Wi) (hw:ws.length≤1000000) (hv:Co.VW b l ws):Con Tryz.prog 17 [iD b,lsD z8 l,lsD yJ ws] (Zo [lsD z2<|zC (Co.vcg (Co.vO b l ws) (Co.bO b l ws) l.length) l.length,iD 0]):=by
 have hn6:=hv.c.n;have hb2:=hv.c.b2;have hb1:=hv.c.b1;have hmk:=Co.mkt hv;have hS64:2 ^ l.length≤64:=Co.pow_le64 hn6;refine zZ Tryz.func17 k9 I k9 fun base w0=>(zt<|ze I<|ze I<|zR<|zc I<|zc I<|zc I<|zp (S:=[]) (zn (Kl b l ws hw hv) I ⟨zb _,zb _,zb _,t9⟩ I)<|zc I<|za I (zi I I)<|za I (zi I I)<|ze I<|ze I<|zd<|zh<|zt<|zc I<|za I (yk I I)<|zd<|zI I I<|zw<|zg<|zt<|zc I<|zc I<|zc I<|zp (S:=[]) (zn (WD b l ws hw hv) I ⟨zb _,zb _,zb _,t9⟩ I)<|zc I<|za I (zi I I)<|za I (zi I I)<|ze I ?_);refine ze I (zR<|ze I<|zR<|ze I<|zd<|zh<|zt<|ze I<|zd<|SW.block<|Yi 3 1 z2<|z6 (ι:={p:Nat × Wst // p.1≤l.length}) (fun p=>ya [(1,lsD z8 l),(8,lsD z2<|zC (Co.vO b l ws)<|2 ^ l.length),(10,lsD z2<|zC (Co.bO b l ws) l.length),(13,iD ((2 ^ p.1.1:Nat):Int)),(12,isD<|.slice p.1.2.A (zC (Co.vcg (Co.vO b l ws) (Co.bO b l ws) l.length) p.1.1).length p.1.2.c),(14,iD (p.1.1:Int))] [.r p.1.2.F<|yp 3 1 z2 p.1.2.A p.1.2.c<|zC (Co.vcg (Co.vO b l ws) (Co.bO b l ws) l.length) p.1.1]) (fun p=>l.length - p.1.1) (⟨(0,⟨none,0,[]⟩),JC _⟩) ?_ ?_)
 ·exact (sB [0] I I)
 ·rintro ⟨⟨i,t⟩,hi⟩ K0 hK0;dsimp only at hi ⊢;refine zh (zt<|zc I<|zc I<|za I (zV (e:=61) I k9)<|za I (yb I I)<|zd<|zD I (fun hb35=> ?_) (fun hb35=> ?_))
  ·have h35:(i:Int) < (l.length:Int):=oT hb35;refine zw (zg<|zh<|SW.block<|zh ?_);obtain ⟨o,ho⟩:∃ o,o=2 ^ l.length - 1 - 2 ^ i:=⟨_,rfl⟩
   have hoS:o < 2 ^ l.length:=by rw [ho];exact (Co.fullN _ hn6 i o9).1
   have h2i:=pow_64 (i:=i) o9;have h2i0:0 < 2 ^ i:=Nat.pow_pos d9
   have hvg:Co.need (Co.vO b l ws) (Co.bO b l ws) l.length o=Co.vcg (Co.vO b l ws) (Co.bO b l ws) l.length i:=by rw [ho];rfl
   exact zf (zc I<|zc I<|zc I<|zc I<|za I (zV (e:=3) I k9)<|za I (Rd.mono (yl I I ⟨by rw [ye];omega,by rw [ye];omega⟩) (show Le _ (iD<|((2 ^ l.length:Nat):Int) - 1) from zG (by rw [ye])))<|zc I<|za I (Rd.mono (yl I I ⟨by omega,by omega⟩) (show Le _ (iD (o:Int)) from zG (by rw [ho];congr 1;exact zaE _ hn6 i o9)))<|zp (S:=[]) (zn (za7 (Co.vO b l ws) (Co.bO b l ws) l.length o hoS hn6 (fun c _=>Co.vO_ub hv c) hmk.bd0) I ⟨zb _,zb _,zb _,t9⟩ I)<|zp (S:=[]) (Zg I I Y8 I) (SWl.e4 (YA 0 1 8 I I (ZS (l:=[_]) I) k9 k9 (by rw [ye,List.length_singleton];omega) d9 (fun _ h=>h) I) fun A48 F48 c48=>(ze I<|zd<|zf<|zc I<|za I (Rd.mono (Rd.mul I I ⟨by omega,by omega⟩) (show Le _ (iD ((2 ^ (i + 1):Nat):Int)) from zG (by rw [pw2 i o9])))<|ze I<|zv<|SN.block<|zg<|zf<|zc I<|za I (Rd.add I I ⟨by omega,by omega⟩)<|ze I<|zv (fun aK wK hh=>hK0 (⟨(i + 1,⟨A48,c48,F48⟩),by simp only;omega⟩) (by simp only;omega) aK wK<|hh.sub<|⟨⟨_,I,⟨lq I,⟨lq I,⟨lq I,⟨lq I,⟨⟨_,I,zG (by dsimp only;rw [Yp,← hvg])⟩,⟨⟨_,I,zG s9⟩,t9⟩⟩⟩⟩⟩⟩⟩,[0],by decide,⟨⟨_,rfl,(by dsimp only;rw [Yp,← hvg];exact zL _)⟩,trivial⟩⟩))))
  ·have h35:¬(i:Int) < (l.length:Int):=oF hb35;refine zM ?_
   repeat (first | refine zW ?_ | refine zX d9 ?_)
   refine zY (zg<|zt<|zc I<|ze I<|ze I<|zd<|SW.freezeT 0 6 I I (by rw [show i=l.length by omega];exact zb _)<|zF (fn:=Tryz.f17) (fun _ _ h=>h)<|Rs.le (Rs.two I (zo I)<|zo I) ?_);exact zb _
theorem KK (b:Int) (l:List Co.Cl) (ws:List Co.Wi) (hw:ws.length≤1000000) (hv:Co.VW b l ws):Con Tryz.prog 21 [iD b,lsD z8 l,lsD yJ ws] (Zo [qKD 60<|thT (Co.vO b l ws) (Co.bO b l ws) l.length,iD 0]):=by
 have hn6:=hv.c.n;have hb2:=hv.c.b2;have hb1:=hv.c.b1;have hmk:=Co.mkt hv;have hth:=jH hmk (2 ^ l.length) (Js _);have hth2:0≤(thT (Co.vO b l ws) (Co.bO b l ws) l.length)∧(thT (Co.vO b l ws) (Co.bO b l ws) l.length)≤65970697666560:=hth;refine zZ Tryz.func21 k9 I k9 fun base w0=>(zt (SWl.e2 (S:=[]) (Ef.alloc (zs:=[.bool false,.slice none 0 0,.bool false,.slice none 0 0]) k9 I) fun g6=>(ze I<|zR<|zc I<|zc I<|zc I<|zp (S:=[]) (zn (Kl b l ws hw hv) I ⟨zb _,zb _,zb _,t9⟩ I)<|zc I<|za I (zi I I)<|za I (zi I I)<|ze I<|ze I<|zd<|zh<|zt<|zc I<|za I (yk I I)<|zd<|zI I I<|zw<|zg<|zt<|zc I<|zc I<|zc I<|zp (S:=[]) (zn (WD b l ws hw hv) I ⟨zb _,zb _,zb _,t9⟩ I)<|zc I<|za I (zi I I)<|za I (zi I I)<|ze I ?_)));refine ze I (zR<|zc I<|zc I<|zc I<|zp (S:=[]) (zn (con_vcgR b l ws hw hv) I ⟨zb _,zb _,zb _,t9⟩ I)<|zc I<|za I (zi I I)<|za I (zi I I)<|ze I<|ze I<|zR<|zc I<|zc I<|zc I<|zp (S:=[]) (zn (zaf (Co.vO b l ws) (Co.bO b l ws) l.length hmk (fun c _=>Co.vO_ub hv c)) I ⟨zb _,zb _,zb _,t9⟩ I)<|zp (S:=[]) (zn (VJ (z:=(thT (Co.vO b l ws) (Co.bO b l ws) l.length)) (jZ o9 o9) o9 o9 d9 d9 d9 I) I ⟨zb _,zb _,t9⟩ I)<|zp (S:=[_]) (zy 0 I I I k9 I<|m9 I)<|ze I<|zd<|zF (fn:=Tryz.f21) (fun _ _ h=>h)<|Rs.le (Rs.two I (zU 0 I I k9)<|zo I) ?_)
 exact zb _
theorem Ko (b:Int) (l:List Co.Cl) (ws:List Co.Wi) (hw:ws.length≤1000000) (hl:l.length≤1000000) (hv:¬Co.VW b l ws):Con Tryz.prog 21 [iD b,lsD z8 l,lsD yJ ws] (Zo [Yd 0 0,iD 2]):=by
 refine zZ Tryz.func21 k9 I k9 fun base w0=>(zt (SWl.e2 (S:=[]) (Ef.alloc (zs:=[.bool false,.slice none 0 0,.bool false,.slice none 0 0]) k9 I) fun g6=>(ze I<|zR<|zc I<|zc I<|zc I<|zp (S:=[]) (zn (Wr b l ws hw hl hv) I ⟨zb _,zb _,zb _,t9⟩ I)<|zc I<|za I (zi I I)<|za I (zi I I)<|ze I<|ze I<|zd<|zh<|zt<|zc I<|za I (yk I I)<|zd<|yg I I<|zt<|za I (yu I I bldR0)<|zc I<|zp (S:=[_]) (zy 0 I I I k9 I<|m9 I)<|ze I<|zd<|zF (fn:=Tryz.f21) (fun _ _ h=>h)<|Rs.le (Rs.two I (zU 0 I I k9)<|zo I) ?_)));exact yW ⟨le_rat0,zb _,t9⟩
end
section
