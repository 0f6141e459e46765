/- REFERENCE 40: Small, Blocking, Same. REFERENCE 40: Blocking. LAW 40: few, the market that is known. -/
import Derived.Test.YtmflnfnebmbjkaaGreatGZBF
set_option maxHeartbeats 8000000
set_option maxRecDepth 100000
namespace Go.Proofs.YtmflnfnebmbjkaaGreat
open Go.RowKit
namespace Sx
section
noncomputable instance (r:Rw):Decidable r.ok:=Classical.propDecidable _
theorem ju (K:Int) (p:Nat→Int) (n:Nat) (hn:n≤1000000):Con Tryz.prog 25 [lsD (Yi K)<|zz p n,lsD (Yi K)<|zz p n] (yK true):=by
 refine z6 Tryz.func25 k9 I k9 fun base w0=>(zp<|zd I<|ze<|zh<|zp<|zc I<|za I (zY (e:=43) I k9)<|zc I<|za I (zY (e:=43) I k9)<|za I (yj I I)<|ze<|zJ I s9<|zw<|zg<|zh<|zp<|zd I<|ze<|SW.block<|z1 (ι:={i:Nat // i≤n}) (fun i=>z8 [(0,lsD (Yi K)<|zz p n),(1,lsD (Yi K)<|zz p n),(5,iD (i.1:Int))] []) (fun i=>n - i.1) (⟨0,JC _⟩) ?_ ?_)
 ·exact (sB [] I I)
 ·rintro ⟨i,hi⟩ K0 hK0;dsimp only at hi ⊢;refine zh (zp<|zc I<|zc I<|za I (zY (e:=43) I k9)<|za I (ya I I)<|ze<|zD I (fun hb14=> ?_) (fun hb14=> ?_))
  ·have h14:i < n:=by have h:=oT hb14;rw [zT] at h;omega
   exact zw (zg<|zh<|SW.block<|zh<|yf [] (rr [0,1,2,3,4,5,6,7]<|.n 8 (.r 9 .fin) .no) k9 k9 (fun d _ _ _ _ h=>by cases d <;> exact h)<|zC I I<|zC I I<|zj I I (zQ (e:=43) 4 I I k9 k9 o9<|Zh o9)<|zj I I (y4 4 I k9 d9 (show 4≤4 by decide) s9)<|zC I I<|zC I I<|zj I I (zQ (e:=43) 4 I I k9 k9 o9<|Zh o9)<|zj I I (y4 4 I k9 d9 (show 4≤4 by decide) s9)<|yC I (zn (Vd I I) I ⟨zb _,zb _,t9⟩ I)<|zj I I (yF I)<|yu<|zJ I I<|zw<|SN.block<|zg<|zf<|zc I<|za I (Rd.add I I ⟨by omega,by omega⟩)<|zd I<|zv (fun aK wK hh=>hK0 (⟨i + 1,by omega⟩) (by dsimp only;omega) aK wK<|hh.sub<|⟨⟨_,I,⟨lq I,⟨lq I,⟨⟨_,I,zE s9⟩,t9⟩⟩⟩⟩,[],by decide,trivial⟩))
  ·have h14:¬i < n:=by have h:=oF hb14;rw [zT] at h;omega
   refine zL ?_
   repeat (first | refine zV ?_ | refine zW d9 ?_)
   refine zX (zg<|zp<|zd I<|ze<|zG (fn:=Tryz.f25) (fun _ _ h=>h)<|Rs.le (zN I<|zo I) ?_);exact zb _
end
section
end
section
def lfew (b:Int) (l:List Co.Cl) (ws:List Co.Wi):Bool:=decide (l.length≤20∧ws.length≤100) && ffew b l
theorem lfew_len {b:Int} {l:List Co.Cl} {ws:List Co.Wi} (h:lfew b l ws=true):l.length≤20∧ws.length≤100:=by
 unfold lfew at h;rw [JL] at h;exact oT h.1
def l0:List Co.Cl:=[⟨1,1⟩,⟨2,1⟩,⟨3,2⟩]
def w0_:List Co.Wi:=[⟨1,0,9⟩,⟨2,1,9⟩,⟨3,0,11⟩]
theorem l0_at {i:Nat} {c:Co.Cl} (h:l0[i]? =some c):(i=0∧c=⟨1,1⟩)∨(i=1∧c=⟨2,1⟩)∨(i=2∧c=⟨3,2⟩):=by
 match i,h with
 | 0,h=>exact .inl ⟨rfl,(JN h).symm⟩
 | 1,h=>exact .inr (.inl ⟨rfl,(JN h).symm⟩)
 | 2,h=>exact .inr (.inr ⟨rfl,(JN h).symm⟩)
 | k + 3,h=>simp [l0] at h
theorem w0_at {i:Nat} {c:Co.Wi} (h:w0_[i]? =some c):(i=0∧c=⟨1,0,9⟩)∨(i=1∧c=⟨2,1,9⟩)∨(i=2∧c=⟨3,0,11⟩):=by
 match i,h with
 | 0,h=>exact .inl ⟨rfl,(JN h).symm⟩
 | 1,h=>exact .inr (.inl ⟨rfl,(JN h).symm⟩)
 | 2,h=>exact .inr (.inr ⟨rfl,(JN h).symm⟩)
 | k + 3,h=>simp [w0_] at h
theorem vc0:Co.VC 4 l0 where
 b1:=by decide
 b2:=by decide
 n:=by decide
 ok i c h:=by rcases l0_at h with ⟨_,rfl⟩ | ⟨_,rfl⟩ | ⟨_,rfl⟩ <;> decide
 up i c d h k:=by
  rcases l0_at h with ⟨rfl,rfl⟩ | ⟨rfl,rfl⟩ | ⟨rfl,rfl⟩ <;> rcases l0_at k with ⟨e,rfl⟩ | ⟨e,rfl⟩ | ⟨e,rfl⟩ <;> first | decide | omega
 sum:=by decide
theorem vw0:Co.VW 4 l0 w0_ where
 c:=vc0
 ok i x h:=by
  rcases w0_at h with ⟨rfl,rfl⟩ | ⟨rfl,rfl⟩ | ⟨rfl,rfl⟩
  ·exact ⟨0,⟨1,1⟩,I,I,by decide,by decide,by decide,by decide⟩
  ·exact ⟨1,⟨2,1⟩,I,I,by decide,by decide,by decide,by decide⟩
  ·exact ⟨2,⟨3,2⟩,I,I,by decide,by decide,by decide,by decide⟩
 up i x y h k:=by
  rcases w0_at h with ⟨rfl,rfl⟩ | ⟨rfl,rfl⟩ | ⟨rfl,rfl⟩ <;> rcases w0_at k with ⟨e,rfl⟩ | ⟨e,rfl⟩ | ⟨e,rfl⟩ <;> first | decide | omega
abbrev V0:Nat→Int:=Co.vO 4 l0 w0_
abbrev B0_:Nat→Int:=Co.bO 4 l0 w0_
theorem k_vals:zz V0 (2 ^ l0.length)=[0,9,9,18,11,11,11,18]:=by decide +kernel
theorem k_bids:zz B0_ l0.length=[9,9,0]:=by decide +kernel
theorem k_vcg:zz (Co.vcg V0 B0_ l0.length) l0.length=[2,2,0]:=by decide +kernel
theorem k_in:∀ c < 8,60 * Co.need V0 B0_ 3 c≤Co.oc c (Co.rs B0_ (Co.vcg V0 B0_ 3) 210) 3:=by decide +kernel
theorem k_out:¬60 * Co.need V0 B0_ 3 4≤Co.oc 4 (Co.rs B0_ (Co.vcg V0 B0_ 3) 209) 3:=by decide +kernel
theorem k_thr:thT V0 B0_ l0.length=210:=by
 have hm:Co.Mkt 3 V0 B0_:=Co.mkt vw0;have h0:=(jJ hm (2 ^ 3)<|Js _).1;have h1:thT V0 B0_ 3≤210:=(Co.in_iff hm (fun _ _=>YQ _) (fun _ _=>Ye _) d9).1 k_in;have h2:¬thT V0 B0_ 3≤209:=fun h=>k_out ((Co.in_iff hm (G:=fun c=>gG V0 B0_ 3 c) (fun _ _=>YQ _) (fun _ _=>Ye _) d9).2 h 4 d9);show thT V0 B0_ 3=210;omega
theorem k_pay0:zz (Co.pay V0 B0_ 3 (Co.rs B0_ (Co.vcg V0 B0_ 3) 210) 3) 3=[330,330,0]:=by decide +kernel
theorem k_pay:zz (pyS V0 B0_ l0.length l0.length) l0.length=[330,330,0]:=by
 have h:thT V0 B0_ 3=210:=k_thr;show zz (Co.pay V0 B0_ 3 (Co.rs B0_ (Co.vcg V0 B0_ 3)<|thT V0 B0_ 3) 3) 3=_;rw [h];exact k_pay0
def rw_ (n d:Int):Rw:=⟨decide (n < 0),(Nm.dg 256 n.natAbs).reverse,decide (d < 0),(Nm.dg 256 d.natAbs).reverse⟩
def rs0:List Rw:=[rw_ 2 1,rw_ 2 1,rw_ 0 1]
theorem KS (n d:Int):(rw_ n d).num=n:=YP n
theorem jK (n d:Int):(rw_ n d).den=d:=YP d
theorem Wp {n:Int} (h1: -1000≤n) (h2:n≤1000):Good n 1:=jh (Wo o9 o9)
theorem rw_ok {n:Int} (h1: -1000≤n) (h2:n≤1000):(rw_ n 1).ok:=⟨(Wp h1 h2).rv,by rw [jK];decide⟩
theorem rs0_at {i:Nat} {r:Rw} (h:rs0[i]? =some r):(i=0∧r=rw_ 2 1)∨(i=1∧r=rw_ 2 1)∨(i=2∧r=rw_ 0 1):=by
 match i,h with
 | 0,h=>exact .inl ⟨rfl,(JN h).symm⟩
 | 1,h=>exact .inr (.inl ⟨rfl,(JN h).symm⟩)
 | 2,h=>exact .inr (.inr ⟨rfl,(JN h).symm⟩)
 | k + 3,h=>simp [rs0] at h
theorem rs0_ok (i:Nat) (r:Rw) (h:rs0[i]? =some r):r.ok:=by
 rcases rs0_at h with ⟨_,rfl⟩ | ⟨_,rfl⟩ | ⟨_,rfl⟩
 ·exact rw_ok d9 d9
 ·exact rw_ok d9 d9
 ·exact rw_ok d9 d9
theorem k_b0:B0_ 0=9∧B0_ 1=9∧B0_ 2=0:=by decide +kernel
theorem rs0_hi (i:Nat) (r:Rw) (h:rs0[i]? =some r):¬r.hi (B0_ i):=by
 have hb:=k_b0;unfold Rw.hi;rcases rs0_at h with ⟨rfl,rfl⟩ | ⟨rfl,rfl⟩ | ⟨rfl,rfl⟩
 ·rw [KS,jK,hb.1];decide
 ·rw [KS,jK,hb.2.1];decide
 ·rw [KS,jK,hb.2.2];decide
theorem rs0_byt:∀ r∈rs0,Byt r.b r.c:=fun r hr=>by
 have h:∀ n d:Int,Byt (rw_ n d).b (rw_ n d).c:=fun n d=>⟨fun x hx=>Nm.dg_lt d9 x<|List.mem_reverse.1 hx,fun x hx=>Nm.dg_lt d9 x<|List.mem_reverse.1 hx⟩;simp only [rs0,Jt,List.not_mem_nil,or_false] at hr
 rcases hr with rfl | rfl | rfl <;> exact h _ _
theorem rs0_vp:vpE rs0 B0_ l0.length=0:=vpE_no rfl rs0_ok rs0_hi
theorem rs0_K:kP rs0=1:=by simp only [rs0,kP,jK];decide
theorem rs0_X:∀ i < 3,xP rs0 i=[2,2,0].getD i 0:=fun i hi=>by
 unfold xP;rw [rs0_K]
 match i,hi with
 | 0,_=>show (rw_ 2 1).num * (1 / (rw_ 2 1).den)=_;rw [KS,jK];decide
 | 1,_=>show (rw_ 2 1).num * (1 / (rw_ 2 1).den)=_;rw [KS,jK];decide
 | 2,_=>show (rw_ 0 1).num * (1 / (rw_ 0 1).den)=_;rw [KS,jK];decide
theorem rs0_pay:PayK rs0 B0_ l0.length (kP rs0) (xP rs0):=payK d9 rs0_byt (Co.mkt vw0).bd0 rfl rs0_ok rs0_hi
theorem k_blk0:blkQ V0 B0_ 3 1 (fun i=>[2,2,0].getD i 0)=some 4:=by decide +kernel
theorem k_blk:blkQ V0 B0_ l0.length (kP rs0) (xP rs0)=some 4:=by
 rw [← k_blk0,rs0_K];show (List.range 8).find? _=(List.range 8).find? _;congr 1
 funext c
 show decide (Co.oc c (xP rs0) 3 < Co.need V0 B0_ 3 c * 1)=_;rw [show Co.oc c (xP rs0) 3=Co.oc c (fun i=>[2,2,0].getD i 0) 3 from Co.sm_congr fun i hi=>by rw [rs0_X i hi]]
theorem k_win:Co.wnr l0 4=[3]:=by decide +kernel
theorem con_few (b:Int) (l:List Co.Cl) (ws:List Co.Wi):Con Tryz.prog 9 [iD b,lsD yc l,lsD yJ ws] (yK<|lfew b l ws):=by
 refine z6 Tryz.func9 k9 I k9 fun base w0=>(zp<|zd I<|zS<|zc I<|za I (zY (e:=61) I k9)<|za I (ZC I I)<|zc I<|yn 10 I (fun hb10=> ?_) (fun hb10=> ?_))
 ·have h10:(l.length:Int)≤20:=oT hb10;refine zU hb10 (zl I) (zU hb10 (zY (e:=63) I k9)<|zU hb10 (ZC I I)<|za I (zF I hb10 I)<|zc I<|yn 15 I (fun hb15=> ?_) (fun hb15=> ?_))
  ·have h15:(ws.length:Int)≤100:=oT hb15;refine zU hb15 (zl I) (zU hb15 (zl I)<|Zt (S:=[]) I I hb15 I (zn (con_few40 b l o9) I ⟨zb _,zb _,t9⟩ I) ?_);rintro _ rfl;refine za I (zF I hb15 I) (zd I<|ze<|zG (fn:=Tryz.f9) (fun _ _ h=>h)<|Rs.le (zN I<|zo I) ?_);exact yb (by unfold lfew;rw [Jo (show l.length≤20∧ws.length≤100 by omega)];rfl)
  ·have h15:¬(ws.length:Int)≤100:=oF hb15;refine zR hb15 (zR hb15<|zR hb15<|za I (zM I hb15 I)<|zd I<|ze<|zG (fn:=Tryz.f9) (fun _ _ h=>h)<|Rs.le (zN I<|zo I) ?_);exact yb (by unfold lfew;rw [Jd (show ¬(l.length≤20∧ws.length≤100) by omega)];rfl)
 ·have h10:¬(l.length:Int)≤20:=oF hb10;refine zR hb10 (zR hb10<|zR hb10<|za I (zM I hb10 I)<|zc I<|zR I<|zR I<|zR I<|za I (zM I I I)<|zd I<|ze<|zG (fn:=Tryz.f9) (fun _ _ h=>h)<|Rs.le (zN I<|zo I) ?_);exact yb (by unfold lfew;rw [Jd (show ¬(l.length≤20∧ws.length≤100) by omega)];rfl)
