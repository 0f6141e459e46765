/- REFERENCE 40: Owed, Blocks, Core, Raised, Lowest. REFERENCE 40: VCG, Threshold, Raised. REFERENCE 40: Payments. -/
import Derived.Test.YtmflnfnebmbjkaaGreatGZBE
set_option maxHeartbeats 8000000
set_option maxRecDepth 100000
namespace Go.Proofs.YtmflnfnebmbjkaaGreat
open Go.RowKit
namespace Sx
section
theorem VM (V bd:Nat→Int) (n c:Nat) (hc:c < 2 ^ n) (hn:n≤6) (hV:∀ c < 2 ^ n,0≤V c∧V c≤6597069766656) (hb:∀ i < n,0≤bd i∧bd i≤1099511627776):Con Tryz.prog 44 [lsD z2<|zz V<|2 ^ n,lsD z2<|zz bd n,iD (c:Int)] (iD<|Co.need V bd n c):=by
 have hc64:c < 64:=Ju hc (Co.pow_le64 hn);have hVc:=hV c hc;refine z6 Tryz.func44 k9 I k9 fun base w0=>(zp<|zd I<|zS<|zc I<|zc I<|za I (zQ (e:=3) 1 I I k9 k9 o9<|Zh hc)<|za I (zK I I k9 s9)<|zd I<|ze<|zh<|zp<|zd I<|ze<|SW.block<|z1 (ι:={i:Nat // i≤n}) (fun i=>z8 [(1,lsD z2<|zz bd n),(2,iD (c:Int)),(7,iD<|V c - Co.ic c bd i.1),(8,iD (i.1:Int))] []) (fun i=>n - i.1) (⟨0,JC _⟩) ?_ ?_)
 ·exact ⟨⟨_,I,⟨lq I,⟨lq I,⟨⟨_,I,zE (by simp [Co.ic,Co.sm])⟩,⟨lq I,t9⟩⟩⟩⟩⟩,[],by decide,trivial⟩
 ·rintro ⟨i,hi⟩ K0 hK0;dsimp only at hi ⊢;have hic:=ic_bd (p:=bd) (c:=c) (n:=i) (M:=1099511627776) d9 (fun j hj=>hb j o9);refine zh (zp<|zc I<|zc I<|za I (zY (e:=3) I k9)<|za I (ya I I)<|ze<|zD I (fun hb16=> ?_) (fun hb16=> ?_))
  ·have h16:i < n:=by have h:=oT hb16;rw [zT] at h;omega
   refine zw (zg<|zh<|SW.block<|zp<|zc I<|zc I<|zq (S:=[]) (zn (Y9 c i o9 o9) I ⟨zb _,zb _,t9⟩ I)<|ze<|zD I (fun hb21=> ?_) (fun hb21=> ?_))
   ·skip
    have hbi:=hb i o9;exact zf (zc I<|zc I<|zc I<|za I (zQ (e:=3) 1 I I k9 k9 o9<|Zh o9)<|za I (zK I I k9 s9)<|za I (yl I I ⟨by omega,by omega⟩)<|zd I<|zv<|SN.block<|zg<|zf<|zc I<|za I (Rd.add I I ⟨by omega,by omega⟩)<|zd I<|zv (fun aK wK hh=>hK0 (⟨i + 1,by omega⟩) (by dsimp only;omega) aK wK<|hh.sub<|⟨⟨_,I,⟨lq I,⟨lq I,⟨⟨_,I,zE (by dsimp only;rw [ic_succ,if_pos hb21];congr 1;omega)⟩,⟨⟨_,I,zE s9⟩,t9⟩⟩⟩⟩⟩,[],by decide,trivial⟩))
   ·skip
    exact zw (SN.block<|zg<|zf<|zc I<|za I (Rd.add I I ⟨by omega,by omega⟩)<|zd I<|zv (fun aK wK hh=>hK0 (⟨i + 1,by omega⟩) (by dsimp only;omega) aK wK<|hh.sub<|⟨⟨_,I,⟨lq I,⟨lq I,⟨⟨_,I,zE (by dsimp only;rw [ic_succ,if_neg (by rw [hb21];decide)];simp)⟩,⟨⟨_,I,zE s9⟩,t9⟩⟩⟩⟩⟩,[],by decide,trivial⟩))
  ·have h16:¬i < n:=by have h:=oF hb16;rw [zT] at h;omega
   refine zL ?_
   repeat (first | refine zV ?_ | refine zW d9 ?_)
   refine zX (zg<|zp<|zc I<|zd I<|ze<|zG (fn:=Tryz.f44) (fun _ _ h=>h)<|Rs.le (zN I<|zo I) ?_);exact zE (by rw [show i=n by omega];rfl)
theorem zb5 (V bd p:Nat→Int) (n c:Nat) (hc:c < 2 ^ n) (hmk:Co.Mkt n V bd) (hV:∀ c < 2 ^ n,0≤V c∧V c≤6597069766656) (hp:∀ i < n,0≤p i∧p i≤65970697666560):Con Tryz.prog 127 [lsD z2<|zz V<|2 ^ n,lsD z2<|zz bd n,lsD z2<|zz p n,iD (c:Int)] (yK<|decide (60 * Co.need V bd n c > Co.oc c p n)):=by
 have hn:=hmk.n6;have hc64:c < 64:=Ju hc (Co.pow_le64 hn);have hnd:=qs hmk hc;refine z6 Tryz.func127 k9 I k9 fun base w0=>(zp<|zd I<|zS<|zd I<|ze<|zh<|zp<|zd I<|ze<|SW.block<|z1 (ι:={i:Nat // i≤n}) (fun i=>z8 [(0,lsD z2<|zz V<|2 ^ n),(1,lsD z2<|zz bd n),(2,lsD z2<|zz p n),(3,iD (c:Int)),(9,iD<|Co.oc c p i.1),(10,iD (i.1:Int))] []) (fun i=>n - i.1) (⟨0,JC _⟩) ?_ ?_)
 ·exact (sB [] I I)
 ·rintro ⟨i,hi⟩ K0 hK0;dsimp only at hi ⊢;have hoc:=Co.oc_ub (p:=p) (c:=c) (n:=i) (M:=65970697666560) d9 (fun j hj=>hp j o9);refine zh (zp<|zc I<|zc I<|za I (zY (e:=3) I k9)<|za I (ya I I)<|ze<|zD I (fun hb14=> ?_) (fun hb14=> ?_))
  ·have h14:i < n:=by have h:=oT hb14;rw [zT] at h;omega
   refine zw (zg<|zh<|SW.block<|zp<|zc I<|zc I<|zq (S:=[]) (zn (Y9 c i o9 o9) I ⟨zb _,zb _,t9⟩ I)<|za I (yF I)<|ze<|zD I (fun hb20=> ?_) (fun hb20=> ?_))
   ·skip
    have hpi:=hp i o9;exact zf (zc I<|zc I<|zc I<|za I (zQ (e:=3) 1 I I k9 k9 o9<|Zh o9)<|za I (zK I I k9 s9)<|za I (Rd.add I I ⟨by omega,by omega⟩)<|zd I<|zv<|SN.block<|zg<|zf<|zc I<|za I (Rd.add I I ⟨by omega,by omega⟩)<|zd I<|zv (fun aK wK hh=>hK0 (⟨i + 1,by omega⟩) (by dsimp only;omega) aK wK<|hh.sub<|⟨⟨_,I,⟨lq I,⟨lq I,⟨lq I,⟨lq I,⟨⟨_,I,zE (by dsimp only;rw [oc_succ,if_neg (by simpa using hb20)])⟩,⟨⟨_,I,zE s9⟩,t9⟩⟩⟩⟩⟩⟩⟩,[],by decide,trivial⟩))
   ·skip
    exact zw (SN.block<|zg<|zf<|zc I<|za I (Rd.add I I ⟨by omega,by omega⟩)<|zd I<|zv (fun aK wK hh=>hK0 (⟨i + 1,by omega⟩) (by dsimp only;omega) aK wK<|hh.sub<|⟨⟨_,I,⟨lq I,⟨lq I,⟨lq I,⟨lq I,⟨⟨_,I,zE (by dsimp only;rw [oc_succ,if_pos (by simpa using hb20)];simp)⟩,⟨⟨_,I,zE s9⟩,t9⟩⟩⟩⟩⟩⟩⟩,[],by decide,trivial⟩))
  ·have h14:¬i < n:=by have h:=oF hb14;rw [zT] at h;omega
   refine zL ?_
   repeat (first | refine zV ?_ | refine zW d9 ?_)
   refine zX (zg<|zp<|zc I<|zc I<|zc I<|zq (S:=[]) (zn (VM V bd n c hc hn hV hmk.bd0) I ⟨zb _,zb _,zb _,t9⟩ I)<|za I (Rd.mul I I ⟨by omega,by omega⟩)<|zc I<|za I (y6 I I)<|zd I<|ze<|zG (fn:=Tryz.f127) (fun _ _ h=>h)<|Rs.le (zN I<|zo I) ?_);exact yb (by rw [show i=n by omega])
theorem con_core (V bd p:Nat→Int) (n:Nat) (hmk:Co.Mkt n V bd) (hV:∀ c < 2 ^ n,0≤V c∧V c≤6597069766656) (hp:∀ i < n,0≤p i∧p i≤65970697666560):Con Tryz.prog 95 [lsD z2<|zz V<|2 ^ n,lsD z2<|zz bd n,lsD z2<|zz p n] (yK<|inB V bd n p):=by
 have hn:=hmk.n6;have hS64:=Co.pow_le64 hn;refine z6 Tryz.func95 k9 I k9 fun base w0=>(zp<|zd I<|ze<|zh<|zp<|zd I<|ze<|SW.block<|z1 (ι:={c:Nat // c≤2 ^ n∧∀ j < c,¬60 * Co.need V bd n j > Co.oc j p n}) (fun q=>z8 [(0,lsD z2<|zz V<|2 ^ n),(1,lsD z2<|zz bd n),(2,lsD z2<|zz p n),(7,iD (q.1:Int))] []) (fun q=>2 ^ n - q.1) (⟨0,JC _,fun _ h=>absurd h<|Nat.not_lt_zero _⟩) ?_ ?_)
 ·exact (sB [] I I)
 ·rintro ⟨c,hc,hq⟩ K0 hK0;dsimp only at hc hq ⊢;refine zh (zp<|zc I<|zc I<|za I (zY (e:=3) I k9)<|za I (ya I I)<|ze<|zD I (fun hb11=> ?_) (fun hb11=> ?_))
  ·have h11:c < 2 ^ n:=by have h:=oT hb11;rw [zT] at h;omega
   refine zw (zg<|zh<|SW.block<|zp<|zc I<|zc I<|zc I<|zc I<|zq (S:=[]) (zn (zb5 V bd p n c o9 hmk hV hp) I ⟨zb _,zb _,zb _,zb _,t9⟩ I)<|ze<|zD I (fun hb18=> ?_) (fun hb18=> ?_))
   ·skip
    refine zp (zd I<|ze<|zG (fn:=Tryz.f95) (fun _ _ h=>h)<|Rs.le (zN I<|zo I) ?_);exact yb (inB_f h11<|oT hb18).symm
   ·skip
    exact zw (SN.block<|zg<|zf<|zc I<|za I (Rd.add I I ⟨by omega,by omega⟩)<|zd I<|zv (fun aK wK hh=>hK0 (⟨c + 1,by omega,fun j hj=>(Nat.lt_succ_iff_lt_or_eq.1 hj).elim (hq j) (fun e=>by subst e;exact oF hb18)⟩) (by dsimp only;omega) aK wK<|hh.sub<|⟨⟨_,I,⟨lq I,⟨lq I,⟨lq I,⟨⟨_,I,zE s9⟩,t9⟩⟩⟩⟩⟩,[],by decide,trivial⟩))
  ·have h11:¬c < 2 ^ n:=by have h:=oF hb11;rw [zT] at h;omega
   refine zL ?_
   repeat (first | refine zV ?_ | refine zW d9 ?_)
   refine zX (zg<|zp<|zd I<|ze<|zG (fn:=Tryz.f95) (fun _ _ h=>h)<|Rs.le (zN I<|zo I) ?_);exact yb (inB_t fun j hj=>hq j o9).symm
theorem zaj (bd vc:Nat→Int) (n:Nat) (t0:Int) (hn:n≤6) (h0:0≤t0) (h1:t0≤65970697666560) (hb:∀ i < n,0≤bd i∧bd i≤1099511627776) (hvc:∀ i < n,0≤vc i∧vc i≤1099511627776):Con Tryz.prog 58 [lsD z2<|zz bd n,lsD z2<|zz vc n,iD t0] (lsD z2<|zz (Co.rs bd vc t0) n):=by
 refine z6 Tryz.func58 k9 I k9 fun base w0=>(zp<|zd I<|zS<|zd I<|ze<|zh<|zp<|zd I<|ze<|SW.block<|ZX 3 1 z2<|z1 (ι:={p:Nat × Wst // p.1≤n}) (fun p=>z8 [(0,lsD z2<|zz bd n),(1,lsD z2<|zz vc n),(2,iD t0),(7,isD<|.slice p.1.2.A (zz (Co.rs bd vc t0) p.1.1).length p.1.2.c),(8,iD (p.1.1:Int))] [.r p.1.2.F<|yq 3 1 z2 p.1.2.A p.1.2.c<|zz (Co.rs bd vc t0) p.1.1]) (fun p=>n - p.1.1) (⟨(0,⟨none,0,[]⟩),JC _⟩) ?_ ?_)
 ·exact (sB [0] I I)
 ·rintro ⟨⟨i,t⟩,hi⟩ K0 hK0;dsimp only at hi ⊢;refine zh (zp<|zc I<|zc I<|za I (zY (e:=3) I k9)<|za I (ya I I)<|ze<|zD I (fun hb12=> ?_) (fun hb12=> ?_))
  ·have h12:i < n:=by have h:=oT hb12;rw [zT] at h;omega
   refine zw (zg<|zh<|SW.block ?_);have hbi:=hb i o9;have hvi:=hvc i o9
   refine yf (t.F ++ []) (rr [0,1,2,3,4,5,6,7,8,9,10,11,12,13]<|.n 14 (.e 15 (.r 16 .fin) .no) .no) k9 k9 (fun d _ _ _ _ h=>by cases d <;> exact h) (zC I I<|zC I I<|zC I I<|zj I I (zQ (e:=3) 1 I I k9 k9 o9<|Zh o9)<|zj I I (zK I I k9<|ZV (j:=0) I ZR)<|zj I I (Rd.mul I I ⟨by omega,by omega⟩)<|zC I I<|zC I I<|zj I I (zQ (e:=3) 1 I I k9 k9 o9<|Zh o9)<|zj I I (zK I I k9<|ZV (j:=0) I ZR)<|zj I I (Rd.mul I I ⟨by omega,by omega⟩)<|zC I I<|zj I I (Rd.add I I ⟨by omega,by omega⟩)<|zj I I (Rd.minI I I)<|yC I (y5 I I YZ I)<|jC I (Z9 0 1 8 I I (ZL (l:=[_]) I) k9 k9 (by rw [zT,Xq];omega) d9 (fun _ h=>mL _ h) I) ?_ yB)
   rintro _ ⟨A30,F30,c30,rfl⟩;exact yR I I (yy<|SN.block<|zg<|zf<|zc I<|za I (Rd.add I I ⟨by omega,by omega⟩)<|zd I<|zv (fun aK wK hh=>hK0 (⟨(i + 1,⟨A30,c30,F30⟩),by simp only;omega⟩) (by simp only;omega) aK wK<|hh.sub<|⟨⟨_,I,⟨lq I,⟨lq I,⟨lq I,⟨⟨_,I,zE (by dsimp only;rw [ZQ];rfl)⟩,⟨⟨_,I,zE s9⟩,t9⟩⟩⟩⟩⟩⟩,[0],by decide,⟨⟨_,rfl,(by dsimp only;rw [ZQ];exact zI _)⟩,trivial⟩⟩))
  ·have h12:¬i < n:=by have h:=oF hb12;rw [zT] at h;omega
   refine zL ?_
   repeat (first | refine zV ?_ | refine zW d9 ?_)
   refine zX (zg<|zp<|zc I<|zd I<|ze<|SW.freezeT 0 6 I I (by rw [show i=n by omega];exact zb _)<|zG (fn:=Tryz.f58) (fun _ _ h=>h)<|Rs.le (zN I<|zo I) ?_);exact zb _
theorem zam (V bd:Nat→Int) (n:Nat) (hmk:Co.Mkt n V bd) (hV:∀ c < 2 ^ n,0≤V c∧V c≤6597069766656):Con Tryz.prog 54 [lsD z2<|zz V<|2 ^ n,lsD z2<|zz bd n,lsD z2<|zz (Co.vcg V bd n) n] (iD<|thT V bd n):=by
 have hth:=jJ hmk (2 ^ n) (Js _);refine z6 Tryz.func54 k9 I k9 fun base w0=>(zp<|zd I<|zS<|zd I<|zd I<|ze<|zh<|SW.block<|z1 (ι:={q:Int × Int // 0≤q.1∧q.1≤thT V bd n∧thT V bd n≤q.2∧q.2≤65970697666560}) (fun q=>z8 [(0,lsD z2<|zz V<|2 ^ n),(1,lsD z2<|zz bd n),(2,lsD z2<|zz (Co.vcg V bd n) n),(7,iD q.1.1),(8,iD q.1.2)] []) (fun q=>(q.1.2 - q.1.1).toNat) (⟨(0,65970697666560),Int.le_refl _,hth.1,hth.2,Int.le_refl _⟩) ?_ ?_)
 ·exact (sB [] I I)
 ·rintro ⟨⟨lo,hg⟩,hq0,hq1,hq2,hq3⟩ K0 hK0;dsimp only at hq0 hq1 hq2 hq3 ⊢;refine zh (zp<|zc I<|zc I<|za I (ya I I)<|ze<|zD I (fun hb12=> ?_) (fun hb12=> ?_))
  ·have h12:lo < hg:=oT hb12;refine zw (zg<|SW.block<|zh ?_);obtain ⟨m,hm⟩:∃ m,m=(lo + hg) / 2:=⟨_,rfl⟩
   have hm0:0≤m:=by omega
   have hm1:m≤65970697666560:=by omega
   refine zf (zc I<|zc I<|za I (Rd.add I I ⟨by omega,by omega⟩)<|za I (Rd.mono (qH I I ⟨by omega,by omega,by omega⟩) (show Le _ (iD m) from zE (by rw [hm])))<|zd I<|zS<|zc I<|zc I<|zc I<|zc I<|zc I<|zq (S:=[]) (zn (zaj bd (Co.vcg V bd n) n m hmk.n6 hm0 hm1 hmk.bd0<|Ka hmk) I ⟨zb _,zb _,zb _,t9⟩ I)<|zq (S:=[]) (zn (con_core V bd (Co.rs bd (Co.vcg V bd n) m) n hmk hV (fun i hi=>by have h1:=Co.rs_nonneg hmk hm0 hi;have h2:=hmk.bd0 i hi;omega)) I ⟨zb _,zb _,zb _,t9⟩ I)<|ze<|zD I (fun hb23=> ?_) (fun hb23=> ?_))
   ·skip
    exact zf (zc I<|zd I<|zv<|SN.block (fun aK wK hh=>hK0 (⟨(lo,m),hq0,hq1,(inB_iff hmk hm0).1 hb23,hm1⟩) (by dsimp only;omega) aK wK<|hh.sub<|sB [] I I))
   ·have hnm:¬thT V bd n≤m:=fun h=>by rw [(inB_iff hmk hm0).2 h] at hb23;cases hb23
    exact zf (zc I<|za I (Rd.add I I ⟨by omega,by omega⟩)<|zd I<|zv<|SN.block (fun aK wK hh=>hK0 (⟨(m + 1,hg),by omega,by omega,hq2,hq3⟩) (by dsimp only;omega) aK wK<|hh.sub<|sB [] I I))
  ·have h12:¬lo < hg:=oF hb12;refine zL ?_
   repeat (first | refine zV ?_ | refine zW d9 ?_)
   refine zX (zg<|zp<|zc I<|zd I<|ze<|zG (fn:=Tryz.f54) (fun _ _ h=>h)<|Rs.le (zN I<|zo I) ?_);exact zE (by rw [show thT V bd n=lo by omega])
end
section
def pW (p:Nat→Int) (k:Nat) (x:Int):Nat→Int:=fun j=>if j=k then x else p j
theorem pW_at {p:Nat→Int} {k:Nat} {x:Int}:pW p k x k=x:=Jh rfl
theorem pW_ne {p:Nat→Int} {k j:Nat} {x:Int} (h:j≠k):pW p k x j=p j:=Jb h
theorem pW_set0 {p:Nat→Int} {n k:Nat} {x:Int} (hk:k < n):(zz p n).set k x=zz (pW p k x) n:=WT hk pW_at fun j _ hj=>pW_ne hj
theorem pW_set {p:Nat→Int} {n k:Nat} {x y:Int} (hk:k < n):(zz (pW p k x) n).set k y=zz (pW p k y) n:=WT hk pW_at fun j _ hj=>by rw [pW_ne hj,pW_ne hj]
theorem pW_all {V bd:Nat→Int} {n k:Nat}:pW (pyS V bd n k) k (Co.lw V bd n k (pyS V bd n k)<|2 ^ n)=pyS V bd n (k + 1):=rfl
theorem W6 {c i j:Nat} {p:Nat→Int}:Co.ox c i p (j + 1)=Co.ox c i p j + (if Co.bt c j=true∨j=i then 0 else p j):=rfl
theorem blsRt1 {K x:Int}:Bls Tryz.prog 33 1 [0] [Yq<|Yi K x] ([x].flatMap<|Yi K):=⟨43,fun L w vs hv=>by
 obtain ⟨u,rfl,cs,rfl,hc⟩:=WL hv
 match cs,hc with
 | [a,b,c,d],hc=>
  obtain ⟨rfl,hb,rfl,hd,-⟩:=hc;have hb':=hb;have hd':=hd;obtain ⟨B,e,rfl,-⟩:=hb';obtain ⟨C,f,rfl,-⟩:=hd'
  exact ⟨[.bool<|decide (rn x K < 0),.slice B _ e,.bool<|decide (rd x K < 0),.slice C _ f],(show All L w (qKC K x) _ from ⟨I,hb,I,hd,t9⟩),fun w'=>by kernel_rfl⟩⟩
theorem V7 {f:Nat→Int} {i:Nat}:zz f (i + 1)=zz f i ++ [f i]:=ZQ
theorem con_vcgR (b:Int) (l:List Co.Cl) (ws:List Co.Wi) (hw:ws.length≤1000000) (hv:Co.VW b l ws):Con Tryz.prog 17 [iD b,lsD yc l,lsD yJ ws] (Zq [lsD z2<|zz (Co.vcg (Co.vO b l ws) (Co.bO b l ws) l.length) l.length,iD 0]):=by
 have hn6:=hv.c.n;have hb2:=hv.c.b2;have hb1:=hv.c.b1;have hmk:=Co.mkt hv;have hS64:2 ^ l.length≤64:=Co.pow_le64 hn6;refine z6 Tryz.func17 k9 I k9 fun base w0=>(zp<|zd I<|zd I<|zS<|zc I<|zc I<|zc I<|zq (S:=[]) (zn (Kp b l ws hw hv) I ⟨zb _,zb _,zb _,t9⟩ I)<|zc I<|za I (zi I I)<|za I (zi I I)<|zd I<|zd I<|ze<|zh<|zp<|zc I<|za I (yj I I)<|ze<|zJ I I<|zw<|zg<|zp<|zc I<|zc I<|zc I<|zq (S:=[]) (zn (WH b l ws hw hv) I ⟨zb _,zb _,zb _,t9⟩ I)<|zc I<|za I (zi I I)<|za I (zi I I)<|zd I ?_);refine zd I (zS<|zd I<|zS<|zd I<|ze<|zh<|zp<|zd I<|ze<|SW.block<|ZX 3 1 z2<|z1 (ι:={p:Nat × Wst // p.1≤l.length}) (fun p=>z8 [(1,lsD yc l),(8,lsD z2<|zz (Co.vO b l ws)<|2 ^ l.length),(10,lsD z2<|zz (Co.bO b l ws) l.length),(13,iD ((2 ^ p.1.1:Nat):Int)),(12,isD<|.slice p.1.2.A (zz (Co.vcg (Co.vO b l ws) (Co.bO b l ws) l.length) p.1.1).length p.1.2.c),(14,iD (p.1.1:Int))] [.r p.1.2.F<|yq 3 1 z2 p.1.2.A p.1.2.c<|zz (Co.vcg (Co.vO b l ws) (Co.bO b l ws) l.length) p.1.1]) (fun p=>l.length - p.1.1) (⟨(0,⟨none,0,[]⟩),JC _⟩) ?_ ?_)
 ·exact (sB [0] I I)
 ·rintro ⟨⟨i,t⟩,hi⟩ K0 hK0;dsimp only at hi ⊢;refine zh (zp<|zc I<|zc I<|za I (zY (e:=61) I k9)<|za I (ya I I)<|ze<|zD I (fun hb35=> ?_) (fun hb35=> ?_))
  ·have h35:(i:Int) < (l.length:Int):=oT hb35;refine zw (zg<|zh<|SW.block<|zh ?_);obtain ⟨o,ho⟩:∃ o,o=2 ^ l.length - 1 - 2 ^ i:=⟨_,rfl⟩
   have hoS:o < 2 ^ l.length:=by rw [ho];exact (Co.fullN _ hn6 i o9).1
   have h2i:=pow_64 (i:=i) o9;have h2i0:0 < 2 ^ i:=Nat.pow_pos d9
   have hvg:Co.need (Co.vO b l ws) (Co.bO b l ws) l.length o=Co.vcg (Co.vO b l ws) (Co.bO b l ws) l.length i:=by rw [ho];rfl
   exact zf (zc I<|zc I<|zc I<|zc I<|za I (zY (e:=3) I k9)<|za I (Rd.mono (yl I I ⟨by rw [zT];omega,by rw [zT];omega⟩) (show Le _ (iD<|((2 ^ l.length:Nat):Int) - 1) from zE (by rw [zT])))<|zc I<|za I (Rd.mono (yl I I ⟨by omega,by omega⟩) (show Le _ (iD (o:Int)) from zE (by rw [ho];congr 1;exact zaL _ hn6 i o9)))<|zq (S:=[]) (zn (VM (Co.vO b l ws) (Co.bO b l ws) l.length o hoS hn6 (fun c _=>Co.vO_ub hv c) hmk.bd0) I ⟨zb _,zb _,zb _,t9⟩ I)<|zq (S:=[]) (y5 I I YZ I) (SWl.e4 (Z9 0 1 8 I I (ZL (l:=[_]) I) k9 k9 (by rw [zT,List.length_singleton];omega) d9 (fun _ h=>h) I) fun A48 F48 c48=>(zd I<|ze<|zf<|zc I<|za I (Rd.mono (Rd.mul I I ⟨by omega,by omega⟩) (show Le _ (iD ((2 ^ (i + 1):Nat):Int)) from zE (by rw [pw2 i o9])))<|zd I<|zv<|SN.block<|zg<|zf<|zc I<|za I (Rd.add I I ⟨by omega,by omega⟩)<|zd I<|zv (fun aK wK hh=>hK0 (⟨(i + 1,⟨A48,c48,F48⟩),by simp only;omega⟩) (by simp only;omega) aK wK<|hh.sub<|⟨⟨_,I,⟨lq I,⟨lq I,⟨lq I,⟨lq I,⟨⟨_,I,zE (by dsimp only;rw [ZQ,← hvg])⟩,⟨⟨_,I,zE s9⟩,t9⟩⟩⟩⟩⟩⟩⟩,[0],by decide,⟨⟨_,rfl,(by dsimp only;rw [ZQ,← hvg];exact zI _)⟩,trivial⟩⟩))))
  ·have h35:¬(i:Int) < (l.length:Int):=oF hb35;refine zL ?_
   repeat (first | refine zV ?_ | refine zW d9 ?_)
   refine zX (zg<|zp<|zc I<|zd I<|zd I<|ze<|SW.freezeT 0 6 I I (by rw [show i=l.length by omega];exact zb _)<|zG (fn:=Tryz.f17) (fun _ _ h=>h)<|Rs.le (Rs.two I (zo I)<|zo I) ?_);exact zb _
theorem zak (bd vc:Nat→Int) (n:Nat) (t0:Int) (hn:n≤6) (h0:0≤t0) (h1:t0≤65970697666560) (hb:∀ i < n,0≤bd i∧bd i≤1099511627776) (hvc:∀ i < n,0≤vc i∧vc i≤1099511627776):ConR Tryz.prog 58 [] [lsD z2<|zz bd n,lsD z2<|zz vc n,iD t0] (fun t:Wst=>[.r t.F<|yq 3 1 z2 t.A t.c<|zz (Co.rs bd vc t0) n]) (fun t:Wst=>isD<|.slice t.A (zz (Co.rs bd vc t0) n).length t.c):=by
 refine qx Tryz.func58 k9 I k9 fun base w0=>(zp<|zd I<|zS<|zd I<|ze<|zh<|zp<|zd I<|ze<|SW.block<|ZX 3 1 z2<|z1 (ι:={p:Nat × Wst // p.1≤n}) (fun p=>z8 [(0,lsD z2<|zz bd n),(1,lsD z2<|zz vc n),(2,iD t0),(7,isD<|.slice p.1.2.A (zz (Co.rs bd vc t0) p.1.1).length p.1.2.c),(8,iD (p.1.1:Int))] [.r p.1.2.F<|yq 3 1 z2 p.1.2.A p.1.2.c<|zz (Co.rs bd vc t0) p.1.1]) (fun p=>n - p.1.1) (⟨(0,⟨none,0,[]⟩),JC _⟩) ?_ ?_)
 ·exact (sB [0] I I)
 ·rintro ⟨⟨i,t⟩,hi⟩ K0 hK0;dsimp only at hi ⊢;refine zh (zp<|zc I<|zc I<|za I (zY (e:=3) I k9)<|za I (ya I I)<|ze<|zD I (fun hb12=> ?_) (fun hb12=> ?_))
  ·have h12:i < n:=by have h:=oT hb12;rw [zT] at h;omega
   refine zw (zg<|zh<|SW.block ?_);have hbi:=hb i o9;have hvi:=hvc i o9
   refine yf (t.F ++ []) (rr [0,1,2,3,4,5,6,7,8,9,10,11,12,13]<|.n 14 (.e 15 (.r 16 .fin) .no) .no) k9 k9 (fun d _ _ _ _ h=>by cases d <;> exact h) (zC I I<|zC I I<|zC I I<|zj I I (zQ (e:=3) 1 I I k9 k9 o9<|Zh o9)<|zj I I (zK I I k9<|ZV (j:=0) I ZR)<|zj I I (Rd.mul I I ⟨by omega,by omega⟩)<|zC I I<|zC I I<|zj I I (zQ (e:=3) 1 I I k9 k9 o9<|Zh o9)<|zj I I (zK I I k9<|ZV (j:=0) I ZR)<|zj I I (Rd.mul I I ⟨by omega,by omega⟩)<|zC I I<|zj I I (Rd.add I I ⟨by omega,by omega⟩)<|zj I I (Rd.minI I I)<|yC I (y5 I I YZ I)<|jC I (Z9 0 1 8 I I (ZL (l:=[_]) I) k9 k9 (by rw [zT,Xq];omega) d9 (fun _ h=>mL _ h) I) ?_ yB)
   rintro _ ⟨A30,F30,c30,rfl⟩;exact yR I I (yy<|SN.block<|zg<|zf<|zc I<|za I (Rd.add I I ⟨by omega,by omega⟩)<|zd I<|zv (fun aK wK hh=>hK0 (⟨(i + 1,⟨A30,c30,F30⟩),by simp only;omega⟩) (by simp only;omega) aK wK<|hh.sub<|⟨⟨_,I,⟨lq I,⟨lq I,⟨lq I,⟨⟨_,I,zE (by dsimp only;rw [ZQ];rfl)⟩,⟨⟨_,I,zE s9⟩,t9⟩⟩⟩⟩⟩⟩,[0],by decide,⟨⟨_,rfl,(by dsimp only;rw [ZQ];exact zI _)⟩,trivial⟩⟩))
  ·have h12:¬i < n:=by have h:=oF hb12;rw [zT] at h;omega
   refine zL ?_
   repeat (first | refine zV ?_ | refine zW d9 ?_)
   refine zX (zg<|zp<|zc I<|zd I<|ze<|qb (fn:=Tryz.f58) (t) [0] (fun _ _ h=>h) (Rs.le (zN I<|zo I) ?_) d9 ⟨⟨_,I,(by rw [show i=n by omega];exact zI _)⟩,t9⟩);exact zE (by rw [show i=n by omega])
end
section
theorem VK (b:Int) (l:List Co.Cl) (ws:List Co.Wi) (hw:ws.length≤1000000) (hv:Co.VW b l ws):Con Tryz.prog 24 [iD b,lsD yc l,lsD yJ ws] (Zq [lsD (Yi 60)<|zz (pyS (Co.vO b l ws) (Co.bO b l ws) l.length l.length) l.length,iD 0]):=by
 have hn6:=hv.c.n;have hb2:=hv.c.b2;have hb1:=hv.c.b1;have hmk:=Co.mkt hv;have hS64:2 ^ l.length≤64:=Co.pow_le64 hn6;have hth:=jJ hmk (2 ^ l.length) (Js _);refine z6 Tryz.func24 k9 I k9 fun base w0=>(zp<|zd I<|zd I<|zS<|zc I<|zc I<|zc I<|zq (S:=[]) (zn (Kp b l ws hw hv) I ⟨zb _,zb _,zb _,t9⟩ I)<|zc I<|za I (zi I I)<|za I (zi I I)<|zd I<|zd I<|ze<|zh<|zp<|zc I<|za I (yj I I)<|ze<|zJ I I<|zw<|zg<|zp<|zc I<|zc I<|zc I<|zq (S:=[]) (zn (WH b l ws hw hv) I ⟨zb _,zb _,zb _,t9⟩ I)<|zc I<|za I (zi I I)<|za I (zi I I)<|zd I ?_);refine zd I (zS<|zc I<|zc I<|zc I<|zq (S:=[]) (zn (con_vcgR b l ws hw hv) I ⟨zb _,zb _,zb _,t9⟩ I)<|zc I<|za I (zi I I)<|za I (zi I I)<|zd I<|zd I<|zS<|zc I<|zc I<|zc I<|zc I<|zc I<|zq (S:=[]) (zn (zam (Co.vO b l ws) (Co.bO b l ws) l.length hmk (fun c _=>Co.vO_ub hv c)) I ⟨zb _,zb _,zb _,t9⟩ I) (SWl.e2 (S:=[]) (ZZ [] (zak (Co.bO b l ws) (Co.vcg (Co.vO b l ws) (Co.bO b l ws) l.length) l.length (thT (Co.vO b l ws) (Co.bO b l ws) l.length) hn6 hth.1 hth.2 hmk.bd0<|Ka hmk) I ⟨zb _,zb _,zb _,t9⟩ d9 t9 (fun _ h=>h) I) fun t=>(zd I<|ze<|zh<|zh<|SW.sub (σ':=z8 [(8,_),(10,_),(14,_)] [_]) (sB [0] I I)<|zf<|zd I<|ze<|SW.block<|z1 (ι:={k:Nat // k≤l.length}) (fun q=>z8 [(8,lsD z2<|zz (Co.vO b l ws)<|2 ^ l.length),(10,lsD z2<|zz (Co.bO b l ws) l.length),(14,isD<|.slice t.A (zz (pyS (Co.vO b l ws) (Co.bO b l ws) l.length q.1) l.length).length t.c),(15,iD (q.1:Int))] [.r t.F<|yq 3 1 z2 t.A t.c<|zz (pyS (Co.vO b l ws) (Co.bO b l ws) l.length q.1) l.length]) (fun q=>l.length - q.1) (⟨0,JC _⟩) ?_ ?_)))
 ·exact (sB [0] I I)
 ·rintro ⟨k,hk⟩ K0 hK0;dsimp only at hk ⊢;refine zh (zp<|zc I<|zc I<|za I (Z7 (e:=3) I k9)<|za I (ya I I)<|ze<|zD I (fun hb55=> ?_) (fun hb55=> ?_))
  ·have h55:k < l.length:=by have h:=oT hb55;rw [zT] at h;omega
   refine zw (zg<|zh<|SW.block<|zp<|zc I<|zc I<|za I (yp 0 1 I I I k9 k9 o9 (by rw [zT];omega))<|zq (S:=_) (yQ (v:=0) 0 I I I I k9 (by rw [zT];omega) (fun _ h=>h))<|zS<|zd I<|ze<|SW.block<|z1 (ι:={c:Nat // c≤2 ^ l.length}) (fun q=>z8 [(8,lsD z2<|zz (Co.vO b l ws)<|2 ^ l.length),(10,lsD z2<|zz (Co.bO b l ws) l.length),(14,isD<|.slice t.A (zz (pW (pyS (Co.vO b l ws) (Co.bO b l ws) l.length k) k<|Co.lw (Co.vO b l ws) (Co.bO b l ws) l.length k (pyS (Co.vO b l ws) (Co.bO b l ws) l.length k) q.1) l.length).length t.c),(15,iD (k:Int)),(16,iD (q.1:Int))] [.r t.F<|yq 3 1 z2 t.A t.c<|zz (pW (pyS (Co.vO b l ws) (Co.bO b l ws) l.length k) k<|Co.lw (Co.vO b l ws) (Co.bO b l ws) l.length k (pyS (Co.vO b l ws) (Co.bO b l ws) l.length k) q.1) l.length]) (fun q=>2 ^ l.length - q.1) (⟨0,JC _⟩) ?_ ?_)
   ·exact ⟨⟨_,I,⟨lq I,⟨lq I,⟨⟨_,I,zE (by rw [zT,zT])⟩,(sT I)⟩⟩⟩⟩,[0],by decide,⟨⟨_,rfl,(by rw [J7,pW_set0 o9];exact zI _)⟩,trivial⟩⟩
   ·rintro ⟨c,hc⟩ K1 hK1;dsimp only at hc ⊢;have hlw:=lw_bd hmk (Wb hmk hk) (i:=k) c hc;refine zh (zp<|zc I<|zc I<|za I (zY (e:=3) I k9)<|za I (ya I I)<|ze<|zD I (fun hb64=> ?_) (fun hb64=> ?_))
    ·have h64:c < 2 ^ l.length:=by have h:=oT hb64;rw [zT] at h;omega
     refine zw (zg<|zh<|SW.block<|zh<|zh ?_)
     have hc2:c < 2 ^ l.length:=by omega
     have hnd:=qs hmk hc2;refine zf (zc I<|zc I<|zq (S:=[]) (zn (Y9 c k o9 o9) I ⟨zb _,zb _,t9⟩ I)<|ze<|zD I (fun hb69=> ?_) (fun hb69=> ?_))
     ·skip
      refine zL ?_
      repeat (first | refine zV ?_ | refine zW d9 ?_ | refine Yy ?_)
      exact zX (zg<|zf<|zc I<|za I (Rd.add I I ⟨by omega,by omega⟩)<|zd I<|zv (fun aK wK hh=>hK1 (⟨c + 1,by omega⟩) (by dsimp only;omega) aK wK<|hh.sub<|⟨⟨_,I,⟨lq I,⟨lq I,⟨⟨_,I,zE (by dsimp only;rw [zT,zT])⟩,⟨lq I,⟨⟨_,I,zE s9⟩,t9⟩⟩⟩⟩⟩⟩,[0],by decide,⟨⟨_,rfl,(by dsimp only;rw [lw_yes hb69];exact zI _)⟩,trivial⟩⟩))
     ·skip
      refine zw (zg<|zp<|zc I<|zc I<|zc I<|zq (S:=[]) (zn (VM (Co.vO b l ws) (Co.bO b l ws) l.length c o9 hn6 (fun c _=>Co.vO_ub hv c) hmk.bd0) I ⟨zb _,zb _,zb _,t9⟩ I)<|za I (Rd.mul I I ⟨by omega,by omega⟩)<|zd I<|ze<|zh<|zp<|zd I<|ze<|SW.block<|z1 (ι:={j:Nat // j≤l.length}) (fun q=>z8 [(8,lsD z2<|zz (Co.vO b l ws)<|2 ^ l.length),(10,lsD z2<|zz (Co.bO b l ws) l.length),(14,isD<|.slice t.A (zz (pW (pyS (Co.vO b l ws) (Co.bO b l ws) l.length k) k<|Co.lw (Co.vO b l ws) (Co.bO b l ws) l.length k (pyS (Co.vO b l ws) (Co.bO b l ws) l.length k) c) l.length).length t.c),(15,iD (k:Int)),(16,iD (c:Int)),(17,iD<|60 * (Co.need (Co.vO b l ws) (Co.bO b l ws) l.length c) - (Co.ox c k (pyS (Co.vO b l ws) (Co.bO b l ws) l.length k) q.1)),(18,iD (q.1:Int))] [.r t.F<|yq 3 1 z2 t.A t.c<|zz (pW (pyS (Co.vO b l ws) (Co.bO b l ws) l.length k) k<|Co.lw (Co.vO b l ws) (Co.bO b l ws) l.length k (pyS (Co.vO b l ws) (Co.bO b l ws) l.length k) c) l.length]) (fun q=>l.length - q.1) (⟨0,JC _⟩) ?_ ?_)
      ·exact ⟨⟨_,I,⟨lq I,⟨lq I,⟨lq I,⟨lq I,⟨lq I,⟨⟨_,I,zE (by simp [Co.ox,Co.sm])⟩,⟨lq I,t9⟩⟩⟩⟩⟩⟩⟩⟩,[0],by decide,⟨lR rfl,trivial⟩⟩
      ·rintro ⟨j,hj⟩ K2 hK2;dsimp only at hj ⊢;have hox:=ox_bd (c:=c) (i:=k) (n:=j) (p:=(pyS (Co.vO b l ws) (Co.bO b l ws) l.length k)) o9 (fun i hi=>Wb hmk hk i o9);refine zh (zp<|zc I<|zc I<|za I (Z7 (e:=3) I k9)<|za I (ya I I)<|ze<|zD I (fun hb78=> ?_) (fun hb78=> ?_))
       ·have h78:j < l.length:=by have h:=oT hb78;rw [zT] at h;omega
        refine zw (zg<|zh<|SW.block<|zp<|zc I<|zc I<|za I (yj I I)<|zc I<|yn 84 I (fun hb84=> ?_) (fun hb84=> ?_))
        ·have hjk:j≠k:=by simp at hb84;omega
         refine zU hb84 (zl I) (zU hb84 (zl I)<|Zt (S:=[]) I I hb84 I (zn (Y9 c j o9 o9) I ⟨zb _,zb _,t9⟩ I) ?_);rintro _ rfl;refine zU hb84 (yF I) (za I (zF I hb84 I)<|ze<|zD I (fun hb89=> ?_) (fun hb89=> ?_))
         ·have hbj:Co.bt c j=false:=by simpa using hb89
          have hpj:=Wb hmk hk j o9;exact zf (zc I<|zc I<|zc I<|za I (yp 0 1 I I I k9 k9 o9 (by rw [zT];omega))<|za I (yv 0 I I k9 (show (zz (pW (pyS (Co.vO b l ws) (Co.bO b l ws) l.length k) k<|Co.lw (Co.vO b l ws) (Co.bO b l ws) l.length k (pyS (Co.vO b l ws) (Co.bO b l ws) l.length k) c) l.length)[j]? =some ((pyS (Co.vO b l ws) (Co.bO b l ws) l.length k) j) from (Zg o9).trans<|congrArg some<|pW_ne hjk) I zt)<|za I (yl I I ⟨by omega,by omega⟩)<|zd I<|zv<|SN.block<|zg<|zf<|zc I<|za I (Rd.add I I ⟨by omega,by omega⟩)<|zd I<|zv (fun aK wK hh=>hK2 (⟨j + 1,by omega⟩) (by dsimp only;omega) aK wK<|hh.sub<|⟨⟨_,I,⟨lq I,⟨lq I,⟨lq I,⟨lq I,⟨lq I,⟨⟨_,I,zE (by dsimp only;rw [W6,if_neg (fun h=>h.elim (fun h=>by rw [h] at hbj;cases hbj) hjk)];congr 1;omega)⟩,⟨⟨_,I,zE s9⟩,t9⟩⟩⟩⟩⟩⟩⟩⟩,[0],by decide,⟨lR rfl,trivial⟩⟩))
         ·have hbj:Co.bt c j=true:=by simpa using hb89
          exact zw (SN.block<|zg<|zf<|zc I<|za I (Rd.add I I ⟨by omega,by omega⟩)<|zd I<|zv (fun aK wK hh=>hK2 (⟨j + 1,by omega⟩) (by dsimp only;omega) aK wK<|hh.sub<|⟨⟨_,I,⟨lq I,⟨lq I,⟨lq I,⟨lq I,⟨lq I,⟨⟨_,I,zE (by dsimp only;rw [W6,if_pos<|.inl hbj];simp)⟩,⟨⟨_,I,zE s9⟩,t9⟩⟩⟩⟩⟩⟩⟩⟩,[0],by decide,⟨lR rfl,trivial⟩⟩))
        ·have hjk:j=k:=by simp at hb84;omega
         exact zR hb84 (zR hb84<|zR hb84<|zR hb84<|za I (zM I hb84 I)<|ze<|zJ I I<|zw<|SN.block<|zg<|zf<|zc I<|za I (Rd.add I I ⟨by omega,by omega⟩)<|zd I<|zv (fun aK wK hh=>hK2 (⟨j + 1,by omega⟩) (by dsimp only;omega) aK wK<|hh.sub<|⟨⟨_,I,⟨lq I,⟨lq I,⟨lq I,⟨lq I,⟨lq I,⟨⟨_,I,zE (by dsimp only;rw [W6,if_pos<|.inr hjk];simp)⟩,⟨⟨_,I,zE s9⟩,t9⟩⟩⟩⟩⟩⟩⟩⟩,[0],by decide,⟨lR rfl,trivial⟩⟩))
       ·have h78:¬j < l.length:=by have h:=oF hb78;rw [zT] at h;omega
        refine zL ?_
        repeat (first | refine zV ?_ | refine zW d9 ?_ | refine Yy ?_)
        exact zX (zg<|zf<|zc I<|zc I<|zc I<|zc I<|za I (yp 0 1 I I I k9 k9 o9 (by rw [zT];omega))<|za I (yv 0 I I k9 (show (zz (pW (pyS (Co.vO b l ws) (Co.bO b l ws) l.length k) k<|Co.lw (Co.vO b l ws) (Co.bO b l ws) l.length k (pyS (Co.vO b l ws) (Co.bO b l ws) l.length k) c) l.length)[k]? =some (Co.lw (Co.vO b l ws) (Co.bO b l ws) l.length k (pyS (Co.vO b l ws) (Co.bO b l ws) l.length k) c) from (Zg o9).trans<|congrArg some pW_at) I zt)<|zc I<|za I (Rd.maxI I I)<|za I (yp 0 1 I I I k9 k9 o9 (by rw [zT];omega))<|zq (S:=_) (yQ (v:=(max (Co.lw (Co.vO b l ws) (Co.bO b l ws) l.length k (pyS (Co.vO b l ws) (Co.bO b l ws) l.length k) c)<|60 * (Co.need (Co.vO b l ws) (Co.bO b l ws) l.length c) - (Co.ox c k (pyS (Co.vO b l ws) (Co.bO b l ws) l.length k) j))) 0 I I I I k9 (by rw [zT];omega) (fun _ h=>h))<|zv<|SN.block<|zg<|zf<|zc I<|za I (Rd.add I I ⟨by omega,by omega⟩)<|zd I<|zv (fun aK wK hh=>hK1 (⟨c + 1,by omega⟩) (by dsimp only;omega) aK wK<|hh.sub<|⟨⟨_,I,⟨lq I,⟨lq I,⟨⟨_,I,zE (by dsimp only;rw [zT,zT])⟩,⟨lq I,⟨⟨_,I,zE s9⟩,t9⟩⟩⟩⟩⟩⟩,[0],by decide,⟨⟨_,rfl,(by dsimp only;rw [Int.toNat_natCast,show j=l.length by omega,pW_set o9,lw_no hb69];exact zI _)⟩,trivial⟩⟩))
    ·have h64:¬c < 2 ^ l.length:=by have h:=oF hb64;rw [zT] at h;omega
     refine zL ?_
     repeat (first | refine zV ?_ | refine zW d9 ?_ | refine Yy ?_)
     exact zX (SN.block<|zg<|zf<|zc I<|za I (Rd.add I I ⟨by omega,by omega⟩)<|zd I<|zv (fun aK wK hh=>hK0 (⟨k + 1,by omega⟩) (by dsimp only;omega) aK wK<|hh.sub<|⟨⟨_,I,⟨lq I,⟨lq I,⟨⟨_,I,zE (by dsimp only;rw [zT,zT])⟩,⟨⟨_,I,zE s9⟩,t9⟩⟩⟩⟩⟩,[0],by decide,⟨⟨_,rfl,(by rw [show c=2 ^ l.length by omega,pW_all];exact zI _)⟩,trivial⟩⟩))
  ·have h55:¬k < l.length:=by have h:=oF hb55;rw [zT] at h;omega
   refine zL ?_
   repeat (first | refine zV ?_ | refine zW d9 ?_ | refine Yy ?_)
   refine zX (zg<|zh<|SW.sub (σ':=z8 [(14,isD<|.slice t.A (zz (pyS (Co.vO b l ws) (Co.bO b l ws) l.length l.length) l.length).length t.c)] [.r t.F<|yq 3 1 z2 t.A t.c<|zz (pyS (Co.vO b l ws) (Co.bO b l ws) l.length l.length) l.length]) (⟨⟨_,I,⟨⟨_,I,zE (by rw [zT,zT])⟩,t9⟩⟩,[0],by decide,⟨⟨_,rfl,(by rw [show k=l.length by omega];exact zI _)⟩,trivial⟩⟩)<|zf<|zd I<|ze<|zh<|zp<|zd I<|ze<|SW.block<|ZX 43 4 (Yi 60)<|z1 (ι:={p:Nat × Wst // p.1≤l.length}) (fun p=>z8 [(14,isD<|.slice t.A (zz (pyS (Co.vO b l ws) (Co.bO b l ws) l.length l.length) l.length).length t.c),(19,isD<|.slice p.1.2.A (zz (pyS (Co.vO b l ws) (Co.bO b l ws) l.length l.length) p.1.1).length p.1.2.c),(20,iD (p.1.1:Int))] [.r t.F<|yq 3 1 z2 t.A t.c<|zz (pyS (Co.vO b l ws) (Co.bO b l ws) l.length l.length) l.length,.r p.1.2.F<|yq 43 4 (Yi 60) p.1.2.A p.1.2.c<|zz (pyS (Co.vO b l ws) (Co.bO b l ws) l.length l.length) p.1.1]) (fun p=>l.length - p.1.1) (⟨(0,⟨none,0,[]⟩),JC _⟩) ?_ ?_)
   ·exact (sB [0,1] I I)
   ·rintro ⟨⟨i,t2⟩,hi⟩ K3 hK3;dsimp only at hi ⊢;refine zh (zp<|zc I<|zc I<|za I (Z7 (e:=3) I k9)<|za I (ya I I)<|ze<|zD I (fun hb108=> ?_) (fun hb108=> ?_))
    ·have h108:i < l.length:=by have h:=oT hb108;rw [zT] at h;omega
     refine zw (zg<|zh<|SW.block ?_);have hpi:=Wb hmk (Nat.le_refl _) i o9;exact zf (zc I<|zc I<|zc I<|za I (yp 0 1 I I I k9 k9 o9 (by rw [zT];omega))<|za I (yv 0 I I k9 (Zg o9) I zt)<|zq (S:=[]) (zn (VN (z:=(pyS (Co.vO b l ws) (Co.bO b l ws) l.length l.length) i) (j4 o9 o9) o9 o9 d9 d9 d9 I) I ⟨zb _,zb _,t9⟩ I)<|zq (S:=[]) (y5 I I (blsRt1 (K:=60) (x:=(pyS (Co.vO b l ws) (Co.bO b l ws) l.length l.length) i)) I) (SWl.e4 (Z9 1 4 64 I I (ZL (l:=[_]) I) k9 k9 (by rw [zT,List.length_singleton];omega) d9 (fun _ h=>h) I) fun A118 F118 c118=>(zd I<|zv<|SN.block<|zg<|zf<|zc I<|za I (Rd.add I I ⟨by omega,by omega⟩)<|zd I<|zv (fun aK wK hh=>hK3 (⟨(i + 1,⟨A118,c118,F118⟩),by simp only;omega⟩) (by simp only;omega) aK wK<|hh.sub<|⟨⟨_,I,⟨lq I,⟨⟨_,I,zE (by dsimp only;rw [V7])⟩,⟨⟨_,I,zE s9⟩,t9⟩⟩⟩⟩,[0,1],by decide,⟨lR rfl,⟨⟨_,rfl,(by dsimp only;rw [V7];exact zI _)⟩,trivial⟩⟩⟩))))
    ·have h108:¬i < l.length:=by have h:=oF hb108;rw [zT] at h;omega
     refine zL ?_
     repeat (first | refine zV ?_ | refine zW d9 ?_ | refine Yy ?_)
     refine zX (zg<|zp<|zc I<|zd I<|zd I<|ze<|SW.freezeT 1 6 I I (by rw [show i=l.length by omega];exact zb _)<|zG (fn:=Tryz.f24) (fun _ _ h=>h)<|Rs.le (Rs.two I (zo I)<|zo I) ?_);exact zb _
theorem KL (b:Int) (l:List Co.Cl) (ws:List Co.Wi) (hw:ws.length≤1000000) (hl:l.length≤1000000) (hv:¬Co.VW b l ws):Con Tryz.prog 24 [iD b,lsD yc l,lsD yJ ws] (Zq [lsD (Yi 60) [],iD 2]):=by
 refine z6 Tryz.func24 k9 I k9 fun base w0=>(zp<|zd I<|zd I<|zS<|zc I<|zc I<|zc I<|zq (S:=[]) (zn (Ww b l ws hw hl hv) I ⟨zb _,zb _,zb _,t9⟩ I)<|zc I<|za I (zi I I)<|za I (zi I I)<|zd I<|zd I<|ze<|zh<|zp<|zc I<|za I (yj I I)<|ze<|yg I I<|zp<|zc I<|zd I<|zd I<|ze<|zG (fn:=Tryz.f24) (fun _ _ h=>h)<|Rs.le (Rs.two I (zo I)<|zo I) ?_);exact yX ⟨ZF,zb _,t9⟩
