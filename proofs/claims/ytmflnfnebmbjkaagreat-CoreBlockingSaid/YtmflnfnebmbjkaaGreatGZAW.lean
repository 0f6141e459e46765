/- WHAT IS KNOWN OF RATIOS; the walks of ratio's Valid, Make, Of, Zero, From and of the reference's Valid, Reduce, Of, Same. THE WALKS of ratio's Sign, N -/
import Derived.Test.YtmflnfnebmbjkaaGreatGZAV
set_option maxHeartbeats 8000000
set_option maxRecDepth 100000
namespace Go.Proofs.YtmflnfnebmbjkaaGreat
open Go.RowKit
open Nm (W32)
namespace Sx
abbrev q6 (n d:Int):List D:=[isD<|.bool<|decide (n < 0),zcT n.natAbs,isD<|.bool<|decide (d < 0),zcT d.natAbs]
abbrev Ya (n d:Int):D:=Yj (q6 n d)
abbrev rratC (s:Bool) (b:LN) (t:Bool) (c:LN):List D:=[isD<|.bool s,zax b,isD<|.bool t,zax c]
abbrev zav (s:Bool) (b:LN) (t:Bool) (c:LN):D:=Yj (rratC s b t c)
theorem YA {n d n' d':Int} (h:n=n') (k:d=d'):Le (Ya n d) (Ya n' d'):=by subst h k;exact zb _
theorem leC_rat0:LeAll [isD<|.bool false,isD<|.slice none 0 0,isD<|.bool false,isD<|.slice none 0 0] (q6 0 0):=by
 have h:Le (isD<|.slice none 0 0) (zcT (0:Int).natAbs):=by
  have:(Nm.dg 256 (0:Int).natAbs).reverse=[]:=by rw [show (0:Int).natAbs=0 from rfl,Nm.dg_zero];rfl
  unfold zcT;rw [this];exact jz
 exact ⟨zb _,h,zb _,h,t9⟩
theorem le_rat0:Le (Yj [isD<|.bool false,isD<|.slice none 0 0,isD<|.bool false,isD<|.slice none 0 0]) (Ya 0 0):=zb0 leC_rat0
theorem bldR0:Bld Tryz.prog 43 [] [] [isD<|.bool false,isD<|.slice none 0 0,isD<|.bool false,isD<|.slice none 0 0]:=fun L w vs h=>by
 obtain rfl:=all0 h;exact ⟨[.bool false,.slice none 0 0,.bool false,.slice none 0 0],⟨I,I,I,I,t9⟩,fun w'=>by kernel_rfl⟩
theorem zaU {d e f g:D}:Bld Tryz.prog 43 [0,1] [Yj [d,e],Yj [f,g]] [d,e,f,g]:=fun L w vs h=>by
 obtain ⟨u,v,rfl,hu,hv⟩:=Wa h;obtain ⟨a,b,rfl,h1,h2⟩:=zcU hu;obtain ⟨a',b',rfl,h3,h4⟩:=zcU hv;exact ⟨[a,b,a',b'],⟨h1,h2,h3,h4,t9⟩,fun w'=>by kernel_rfl⟩
def okB (n d:Int):Bool:=decide (0 < d) && decide (Nat.gcd n.natAbs d.natAbs=1)
def toZ (s:Bool) (b:LN):Int:=sgn s (VG b.reverse)
def Kf (s:Bool) (b:LN) (t:Bool) (c:LN):Bool:=vld s b && (vld t c && okB (toZ s b) (toZ t c))
structure Good (n d:Int):Prop where
 hn:n.natAbs < zO
 hd:d.natAbs < zO
 pos:0 < d
 g:Nat.gcd n.natAbs d.natAbs=1
theorem valL_dg:∀ (n X:Nat),X≤n→VG (Nm.dg 256 X)=X
 | 0,X,h=>by
  obtain rfl:X=0:=by omega
  rw [Nm.dg_zero];rfl
 | n + 1,X,h=>by
  by_cases h0:X=0
  ·subst h0;rw [Nm.dg_zero];rfl
  ·rw [Nm.dg_pos d9 h0];simp only [VG];rw [valL_dg n (X / 256) o9];omega
theorem YV (n:Int):toZ (decide (n < 0)) (Nm.dg 256 n.natAbs).reverse=n:=by
 unfold toZ;rw [List.reverse_reverse,valL_dg _ _<|Js _];unfold sgn
 by_cases h:n < 0
 ·rw [Jo h,Jh rfl];omega
 ·rw [Jd h,Jb d9];omega
theorem VK {n d:Int} (hn:n.natAbs < zO) (hd:d.natAbs < zO):Kf (decide (n < 0)) (Nm.dg 256 n.natAbs).reverse (decide (d < 0)) (Nm.dg 256 d.natAbs).reverse=okB n d:=by
 unfold Kf;rw [zao hn,zao hd,YV,YV]
 rfl
theorem Good.ok {n d:Int} (h:Good n d):okB n d=true:=by unfold okB;rw [Jo h.pos,Jo h.g];rfl
theorem Good.rv {n d:Int} (h:Good n d):Kf (decide (n < 0)) (Nm.dg 256 n.natAbs).reverse (decide (d < 0)) (Nm.dg 256 d.natAbs).reverse=true:=by rw [VK h.hn h.hd,h.ok]
theorem Good.d0 {n d:Int} (h:Good n d):d≠0:=by have:=h.pos;omega
theorem rvld_out {s t:Bool} {b c:LN} (hb:∀ d∈b,d < 256) (hc:∀ d∈c,d < 256) (hv:Kf s b t c=true):∃ n d:Int,Good n d∧s=decide (n < 0)∧b=(Nm.dg 256 n.natAbs).reverse∧t=decide (d < 0)∧c=(Nm.dg 256 d.natAbs).reverse:=by
 unfold Kf at hv;simp only [JL] at hv;obtain ⟨h1,h2,h3⟩:=hv;obtain ⟨n,hn,rfl,rfl⟩:=jG hb h1;obtain ⟨d,hd,rfl,rfl⟩:=jG hc h2;rw [YV,YV] at h3;unfold okB at h3;simp only [JL,Jz] at h3;exact ⟨n,d,⟨hn,hd,h3.1,h3.2⟩,I,I,I,I⟩
structure Byt (b c:LN):Prop where
 l:∀ d∈b,d < 256
 r:∀ d∈c,d < 256
theorem cmpZ_eq0 {x y:Int}:qC x y=0↔x=y:=by
 unfold qC
 by_cases h:x < y
 ·rw [Jh h];omega
 ·rw [Jb h]
  by_cases h2:x=y
  ·rw [Jh h2];simp [h2]
  ·rw [Jb h2];simp [h2]
theorem sign_le {d:Int} (h:¬0 < d):d.sign≤0:=by
 rcases Int.lt_or_eq_of_le (Int.not_lt.1 h) with h | h
 ·rw [Int.sign_eq_neg_one_of_neg h];decide
 ·rw [h];decide
theorem zbc {d:Int} (h:0 < d):d.sign=1:=Int.sign_eq_one_of_pos h
theorem rv_1 {s t:Bool} {b c:LN} (h:vld t c=false):Con Tryz.prog 63 [zav s b t c] (yy false):=by
 refine z1 Tryz.func63 k9 I k9 fun base w0=>(zq (SWl.e2 (S:=[]) (yf I I) fun g1=>(zd I<|ze<|zh<|zq<|za I (zi (n:=2) I k9)<|za I (zv 0 2 I I k9 I zp)<|zt (S:=[]) (zl (con_signB h) I ⟨zb _,t9⟩ I)<|za I (ZF I I)<|ze<|yh I d9<|zq<|zd I<|ze ?_)));refine zE (fn:=Tryz.f63) (fun _ _ h=>h) (zM I<|zo I)
theorem rv_2 {s:Bool} {b:LN} {d:Int} (hd:d.natAbs < zO) (h:¬0 < d):Con Tryz.prog 63 [Yj<|rintC s b ++ qJ d] (yy false):=by
 refine z1 Tryz.func63 k9 I k9 fun base w0=>(zq (SWl.e2 (S:=[]) (yf I I) fun g1=>(zd I<|ze<|zh<|zq<|za I (zi (n:=2) I k9)<|za I (zv 0 2 I I k9 I zp)<|zt (S:=[]) (zl (Y3 hd) I ⟨zb _,t9⟩ I)<|za I (ZF I I)<|ze<|yh I (Jo<|sign_le h)<|zq<|zd I<|ze ?_)));refine zE (fn:=Tryz.f63) (fun _ _ h=>h) (zM I<|zo I)
theorem rv_3 {s:Bool} {b:LN} {d:Int} (hv:vld s b=false) (hd:d.natAbs < zO) (h:0 < d):Con Tryz.prog 63 [Yj<|rintC s b ++ qJ d] (yy false):=by
 refine z1 Tryz.func63 k9 I k9 fun base w0=>(zq (SWl.e2 (S:=[]) (yf I I) fun g1=>(zd I<|ze<|zh<|zq<|za I (zi (n:=2) I k9)<|za I (zv 0 2 I I k9 I zp)<|zt (S:=[]) (zl (Vt hd<|zbc h) I ⟨zb _,t9⟩ I)<|za I (ZF I I)<|ze<|zK I d9<|zx<|zg<|zq<|za I (zi (n:=0) I k9)<|za I (zv 0 2 I I k9 I zp)<|za I (zi (n:=2) I k9)<|za I (zv 0 2 I I k9 I zp)<|zt (S:=[]) (zl (con_gcdB (by rw [hv,Bool.false_and])) I ⟨zb _,zb _,t9⟩ I)<|zc I<|za I (zj I I)<|za I (zj I I) (SWl.e2 (S:=[]) (Ef.alloc (zs:=[.bool false,.slice none 0 0]) k9 I) fun g3=>(zt (S:=[_]) (zw 1 I I I k9 I<|m9 I)<|zd I<|ze<|zh<|z8 [] (rr [0,1,2,3]<|.n 4 (.n 5 (rr [6,7,8] .fin) .no) .no) k9 k9 (fun d _ _ _ _ h=>by cases d <;> exact h)<|zA I I<|zk I I (y1 I I)<|zA I I<|zm I I I d9 I I ?_)))))
 refine qG I I I d9 I I ?_ yo;refine qG I I I d9 I I ?_ yo;refine zm I I I d9 I I (zk I I (zG I d9 I)<|yU I I<|yn ?_);refine zE (fn:=Tryz.f63) (fun _ _ h=>h) (zM I<|zo I)
theorem rv_4 {n d:Int} (hn:n.natAbs < zO) (hd:d.natAbs < zO) (h:0 < d):Con Tryz.prog 63 [Ya n d] (yy<|decide (Nat.gcd n.natAbs d.natAbs=1)):=by
 have hg:(V1 n d).natAbs < zO:=Nat.lt_of_le_of_lt (gcd_le o9) hd
 refine z1 Tryz.func63 k9 I k9 fun base w0=>(zq (SWl.e2 (S:=[]) (yf I I) fun g1=>(zd I<|ze<|zh<|zq<|za I (zi (n:=2) I k9)<|za I (zv 0 2 I I k9 I zp)<|zt (S:=[]) (zl (Vt hd<|zbc h) I ⟨zb _,t9⟩ I)<|za I (ZF I I)<|ze<|zK I d9<|zx<|zg<|zq<|za I (zi (n:=0) I k9)<|za I (zv 0 2 I I k9 I zp)<|za I (zi (n:=2) I k9)<|za I (zv 0 2 I I k9 I zp)<|zt (S:=[]) (zl (con_gcd hn hd) I ⟨zb _,zb _,t9⟩ I)<|zc I<|za I (zj I I)<|za I (zj I I) (SWl.e2 (S:=[]) (Ef.alloc (zs:=[.bool false,.slice none 0 0]) k9 I) fun g3=>(zt (S:=[_]) (zw 1 I I I k9 I<|m9 I)<|zd I<|ze<|zh<|z8 [] (rr [0,1,2,3]<|.n 4 (.n 5 (rr [6,7,8] .fin) .no) .no) k9 k9 (fun d _ _ _ _ h=>by cases d <;> exact h)<|zA I I<|zk I I (y1 I I)<|zA I I<|zu I I I d9 I I (zv 1 2 I I k9 I zp) ?_)))))
 refine Zf I I I d9 I (zl (jQ d9 d9) I ⟨zb _,t9⟩ I) ?_ yo;rintro _ rfl;refine Zf I I I d9 I (zl (qT hg zbi) I ⟨zb _,zb _,t9⟩ I) ?_ yo;rintro _ rfl;refine zu I I I d9 I I (y1 I I) (zk I I (zC I d9 I)<|yU I I<|yn<|zE (fn:=Tryz.f63) (fun _ _ h=>h)<|Rs.le (zM I<|zo I) ?_);exact le_v (JY Value.bool<|JW.2<|cmpZ_eq0.trans (by unfold V1;omega))
theorem zcu {s t:Bool} {b c:LN} (hB:Byt b c):Con Tryz.prog 63 [zav s b t c] (yy<|Kf s b t c):=by
 cases h2:vld t c
 ·have e:Kf s b t c=false:=by unfold Kf;rw [h2,Bool.false_and,Bool.and_false]
  rw [e];exact rv_1 h2
 ·obtain ⟨d,hd,rfl,rfl⟩:=jG hB.r h2
  by_cases hp:0 < d
  ·cases h1:vld s b
   ·have e:Kf s b (decide (d < 0)) (Nm.dg 256 d.natAbs).reverse=false:=by unfold Kf;rw [h1,Bool.false_and]
    rw [e];exact rv_3 h1 hd hp
   ·obtain ⟨n,hn,rfl,rfl⟩:=jG hB.l h1;rw [VK hn hd];have h:=rv_4 hn hd hp
    have e:okB n d=decide (Nat.gcd n.natAbs d.natAbs=1):=by unfold okB;rw [Jo hp,Bool.true_and]
    rw [e];exact h
  ·have e:Kf s b (decide (d < 0)) (Nm.dg 256 d.natAbs).reverse=false:=by
    unfold Kf okB;rw [YV,Jd hp,Bool.false_and,Bool.and_false,Bool.and_false]
   rw [e];exact rv_2 hd hp
theorem Zp {n d:Int} (h:Good n d):Con Tryz.prog 63 [Ya n d] (yy true):=
 (rv_4 h.hn h.hd h.pos).mono ⟨zb _,trivial⟩ (zH (by rw [Jo h.g]))
theorem con_rvalF {s t:Bool} {b c:LN} (hB:Byt b c) (h:Kf s b t c=false):Con Tryz.prog 63 [zav s b t c] (yy false):=
 (zcu hB).mono ⟨zb _,trivial⟩ (zH (by rw [h]))
theorem rvR_1 {s t:Bool} {b c:LN} (h:vld s b=false):Con Tryz.prog 88 [zav s b t c] (yy false):=by
 refine z1 Tryz.func88 k9 I k9 fun base w0=>(zq (SWl.e2 (S:=[]) (yf I I) fun g1=>(zd I<|zT<|za I (zi (n:=0) I k9)<|za I (zv 0 2 I I k9 I zp)<|zt (S:=[]) (zl (KF h) I ⟨zb _,t9⟩ I)<|zc I<|zI I<|zI I<|zI I<|za I (zG I I I)<|zc I<|zI I<|zI I<|zI I<|zI I<|za I (zG I I I)<|zc I<|zI I<|zI I<|zI I<|zI I<|zI I<|zI I<|zI I<|za I (zG I I I)<|zc I<|zI I<|zI I<|zI I<|zI I<|zI I<|za I (zG I I I)<|zd I ?_)));refine ze ?_;refine zE (fn:=Tryz.f88) (fun _ _ h=>h) (zM I<|zo I)
theorem rvR_2 {s t:Bool} {b c:LN} (h1:vld s b=true) (h:vld t c=false):Con Tryz.prog 88 [zav s b t c] (yy false):=by
 refine z1 Tryz.func88 k9 I k9 fun base w0=>(zq (SWl.e2 (S:=[]) (yf I I) fun g1=>(zd I<|zT<|za I (zi (n:=0) I k9)<|za I (zv 0 2 I I k9 I zp)<|zt (S:=[]) (zl (jN _ _) I ⟨zb _,t9⟩ I)<|zc I<|zN h1 (zi (n:=2) I k9)<|zN h1 (zv 0 2 I I k9 I zp)<|y5 (S:=[]) I I h1 I (zl (KF h) I ⟨zb _,t9⟩ I) ?_)));rintro _ rfl;refine za I (zC I h1 I) (zc I<|zI I<|zI I<|zI I<|zI I<|za I (zG I I I)<|zc I<|zI I<|zI I<|zI I<|zI I<|zI I<|zI I<|zI I<|za I (zG I I I)<|zc I<|zI I<|zI I<|zI I<|zI I<|zI I<|za I (zG I I I)<|zd I<|ze ?_);refine zE (fn:=Tryz.f88) (fun _ _ h=>h) (zM I<|zo I)
theorem rvR_3 {n d:Int} (hn:n.natAbs < zO) (hd:d.natAbs < zO) (h:d < 0):Con Tryz.prog 88 [Ya n d] (yy false):=by
 refine z1 Tryz.func88 k9 I k9 fun base w0=>(zq (SWl.e2 (S:=[]) (yf I I) fun g1=>(zd I<|zT<|za I (zi (n:=0) I k9)<|za I (zv 0 2 I I k9 I zp)<|zt (S:=[]) (zl (Y2 (by assumption)) I ⟨zb _,t9⟩ I)<|zc I<|zN I (zi (n:=2) I k9)<|zN I (zv 0 2 I I k9 I zp)<|y5 (S:=[]) I I I I (zl (Y2 (by assumption)) I ⟨zb _,t9⟩ I) ?_)));rintro _ rfl;refine za I (zC I I I) (zc I<|zN I (zi (n:=2) I k9)<|zN I (zi (n:=0) I k9)<|zN I (zz 0 I I I k9 zp)<|zN I (yE I)<|za I (zC I I I)<|zc I<|Zx I I (by simp [h]) I I<|Zx I I (by simp [h]) I I<|Zx I I (by simp [h]) I I<|Zx I I (by simp [h]) I I<|Zx I I (by simp [h]) I I<|Zx I I (by simp [h]) I I<|Zx I I (by simp [h]) I I<|za I (zG I (by simp [h]) I)<|zc I<|zI I<|zI I<|zI I<|zI I<|zI I<|za I (zG I I I)<|zd I<|ze ?_);refine zE (fn:=Tryz.f88) (fun _ _ h=>h) (zM I<|zo I)
theorem rvR_4 {n d:Int} (hn:n.natAbs < zO) (hd:d.natAbs < zO) (h:¬d < 0):Con Tryz.prog 88 [Ya n d] (yy<|okB n d):=by
 refine z1 Tryz.func88 k9 I k9 fun base w0=>(zq (SWl.e2 (S:=[]) (yf I I) fun g1=>(zd I<|zT<|za I (zi (n:=0) I k9)<|za I (zv 0 2 I I k9 I zp)<|zt (S:=[]) (zl (Y2 (by assumption)) I ⟨zb _,t9⟩ I)<|zc I<|zN I (zi (n:=2) I k9)<|zN I (zv 0 2 I I k9 I zp)<|y5 (S:=[]) I I I I (zl (Y2 (by assumption)) I ⟨zb _,t9⟩ I) ?_)));rintro _ rfl;refine za I (zC I I I) (zc I<|zN I (zi (n:=2) I k9)<|zN I (zi (n:=0) I k9)<|zN I (zz 0 I I I k9 zp)<|zN I (yE I)<|za I (zC I I I)<|zc I<|y4 I I (by simp [h]) I I (zi (n:=0) I k9)<|y4 I I (by simp [h]) I I (zv 0 2 I I k9 I zp)<|y4 I I (by simp [h]) I I (zi (n:=2) I k9)<|y4 I I (by simp [h]) I I (zv 0 2 I I k9 I zp)<|y5 (S:=[]) I I (by simp [h]) I (zl (KQ (VA hn)<|VA hd) I ⟨zb _,zb _,t9⟩ I) ?_);rintro _ rfl;refine y5 (S:=[]) I I (by simp [h]) I (zl (V5 d9 d9) I ⟨zb _,t9⟩ I) ?_;rintro _ rfl;refine y5 (S:=[]) I I (by simp [h]) I (zl (con_same) I ⟨zb _,zb _,t9⟩ I) ?_
 rintro _ rfl;refine za I (zC I (by simp [h]) I) (zc I<|yt 26 I (fun hb26=> ?_) (fun hb26=> ?_))
 ·skip
  refine zN hb26 (zi (n:=2) I k9) (zN hb26 (zi (n:=1) I k9)<|zN hb26 (zz 0 I I I k9 zp)<|zN hb26 (Rd.len (e:=5) I k9)<|zN hb26 (y0 I I)<|za I (zC I hb26 I)<|zd I<|ze<|zE (fn:=Tryz.f88) (fun _ _ h=>h)<|Rs.le (zM I<|zo I) ?_)
  have h1:Nat.gcd n.natAbs d.natAbs=1:=by have:=oT hb26;unfold V1 at this;omega
  refine le_v (JY Value.bool ?_);unfold okB;rw [Jo h1,Bool.and_true];exact JW.2 (by have:=byt_len0 (x:=d);omega)
 ·skip
  refine zI hb26 (zI hb26<|zI hb26<|zI hb26<|zI hb26<|za I (zG I hb26 I)<|zd I<|ze<|zE (fn:=Tryz.f88) (fun _ _ h=>h)<|Rs.le (zM I<|zo I) ?_);have h1:¬Nat.gcd n.natAbs d.natAbs=1:=fun e=>oF hb26 (by unfold V1;omega);refine le_v (JY Value.bool ?_);unfold okB;rw [Jd h1,Bool.and_false]
theorem zaM {s t:Bool} {b c:LN} (hB:Byt b c):Con Tryz.prog 88 [zav s b t c] (yy<|Kf s b t c):=by
 cases h1:vld s b
 ·have e:Kf s b t c=false:=by unfold Kf;rw [h1,Bool.false_and]
  rw [e];exact rvR_1 h1
 ·cases h2:vld t c
  ·have e:Kf s b t c=false:=by unfold Kf;rw [h2,Bool.false_and,Bool.and_false]
   rw [e];exact rvR_2 h1 h2
  ·obtain ⟨n,hn,rfl,rfl⟩:=jG hB.l h1;obtain ⟨d,hd,rfl,rfl⟩:=jG hB.r h2;rw [VK hn hd]
   by_cases hp:d < 0
   ·have e:okB n d=false:=by unfold okB;rw [Jd o9,Bool.false_and]
    rw [e];exact rvR_3 hn hd hp
   ·exact rvR_4 hn hd hp
theorem zcv {n d:Int} (h:Good n d):Con Tryz.prog 88 [Ya n d] (yy true):=
 (rvR_4 h.hn h.hd (by have:=h.pos;omega)).mono ⟨zb _,trivial⟩ (zH (by rw [h.ok]))
theorem zcw {s t:Bool} {b c:LN} (hB:Byt b c) (h:Kf s b t c=false):Con Tryz.prog 88 [zav s b t c] (yy false):=
 (zaM hB).mono ⟨zb _,trivial⟩ (zH (by rw [h]))
def gz (n d:Int):Int:=if d < 0 then -V1 n d else V1 n d
def rn (n d:Int):Int:=dq n (gz n d)
def rd (n d:Int):Int:=dq d (gz n d)
theorem Vl (n d:Int):(gz n d).natAbs=Nat.gcd n.natAbs d.natAbs:=by
 unfold gz
 split
 ·rw [Int.natAbs_neg,zaG]
 ·rw [zaG]
theorem gz_ne (n:Int) {d:Int} (h:d≠0):gz n d≠0:=fun e=>by
 have h1:=Vl n d;have h2:0 < Nat.gcd n.natAbs d.natAbs:=Nat.gcd_pos_of_pos_right _ o9;rw [e] at h1;simp at h1;omega
theorem gz_le {n d:Int} (h:d≠0):(gz n d).natAbs≤d.natAbs:=by rw [Vl];exact Nat.gcd_le_right _ o9
theorem Ke {x:Int}:x.sign=0↔x=0:=Int.sign_eq_zero_iff_zero
theorem dq_one (x:Int):dq x 1=x:=by
 have h1:=dq_dr (y:=1) x d9;have h2:=Vq (x:=x) (y:=1) d9
 have h3:dr x 1=0:=by
  have:(1:Int).natAbs=1:=rfl;omega
 omega
theorem Good.gz1 {n d:Int} (h:Good n d):gz n d=1:=by
 have h1:=h.pos;unfold gz V1;rw [Jb o9,h.g]
 rfl
theorem Good.rn {n d:Int} (h:Good n d):rn n d=n:=by unfold Sx.rn;rw [h.gz1,dq_one]
theorem Good.rd {n d:Int} (h:Good n d):rd n d=d:=by unfold Sx.rd;rw [h.gz1,dq_one]
theorem Z0 {n:Int} (hn:n.natAbs < zO):Good n 1:=⟨hn,zbi,by decide,by simp⟩
theorem rn_abs {n d:Int} (hd:d≠0):(rn n d).natAbs≤n.natAbs:=zbC (gz_ne n hd)
theorem rd_abs {n d:Int} (hd:d≠0):(rd n d).natAbs≤d.natAbs:=zbC (gz_ne n hd)
theorem qB {n d:Int} (hn:n.natAbs < zO) (hd:d.natAbs < zO) (h0:d≠0):Con Tryz.prog 61 [Zc n,Zc d] (Zm [Ya (rn n d)<|rd n d,y6 0]):=by
 have hg:(V1 n d).natAbs < zO:=Nat.lt_of_le_of_lt (gcd_le h0) hd;have hz0:=gz_ne n h0;have hz5:(gz n d).natAbs < zO:=Nat.lt_of_le_of_lt (gz_le h0) hd;refine z1 Tryz.func61 k9 I k9 fun base w0=>(zq (SWl.e2 (S:=[]) (yf I I) fun g2=>(SWl.e2 (S:=[]) (yf I I) fun g3=>(SWl.e2 (S:=[]) (Ef.alloc (zs:=[.bool false,.slice none 0 0,.bool false,.slice none 0 0]) k9 I) fun g4=>(zd I<|ze<|zh<|zq<|za I (zv 0 2 I I k9 I zp)<|zt (S:=[]) (zl (KG hn) I ⟨zb _,t9⟩ I)<|za I (yE I)<|zc I<|zN I (zv 1 2 I I k9 I zp)<|y5 (S:=[]) I I I I (zl (Y3 hd) I ⟨zb _,t9⟩ I) ?_)))));rintro _ rfl;refine zN I (y1 I I) (za I (zG I I I)<|ze<|zK I (Jd (fun h=>h0<|Ke.1 h))<|zx<|zg<|zq<|za I (zv 0 2 I I k9 I zp)<|za I (zv 1 2 I I k9 I zp)<|zt (S:=[]) (zl (con_gcd hn hd) I ⟨zb _,zb _,t9⟩ I)<|zc I<|za I (zj I I)<|za I (zj I I) (SWl.e2 (S:=[]) (Ef.alloc (zs:=[.bool false,.slice none 0 0]) k9 I) fun g6=>(zt (S:=[_]) (zw 3 I I I k9 I<|m9 I)<|zd I<|ze<|zh<|zq<|zc I<|za I (y1 I I)<|zc I<|y4 I I d9 I I (zv 1 2 I I k9 I zp)<|y5 (S:=[]) I I d9 I (zl (Y3 hd) I ⟨zb _,t9⟩ I) ?_)))
 rintro _ rfl;refine y4 I I d9 I I (ya I I) (za I (zC I d9 I)<|ze<|zD I (fun hb33=> ?_) (fun hb33=> ?_))
 ·have hneg:d < 0:=Int.sign_neg_iff.1 (oT hb33);have hz: -V1 n d=gz n d:=(by unfold gz;rw [Jh hneg]);refine zf (za I (zv 3 2 I I k9 I zp)<|zt (S:=[]) (zl (con_neg hg) I ⟨zb _,t9⟩ I)<|zc I<|za I (zj I I)<|za I (zj I I)<|zt (S:=[_]) (zw 3 I I I k9 I<|m9 I)<|zd I<|ze<|zh<|zh<|SW.sub (σ':=St.of [(2,pA g2),(3,pA g3),(4,pA g4),(6,pA g6),(7,y6 0)] [(g2,qJ<|n),(g3,qJ<|d),(g4,[isD<|.bool false,isD<|.slice none 0 0,isD<|.bool false,isD<|.slice none 0 0]),(g6,qJ<|gz n d)]) (⟨⟨_,I,(sT I)⟩,[0,1,2,3],by decide,⟨la rfl,⟨la rfl,⟨la rfl,⟨⟨_,rfl,VX hz⟩,trivial⟩⟩⟩⟩⟩)<|zf<|zc I<|za I (yk I I)<|ze<|zK I d9<|zx<|zg<|zq<|za I (zv 0 2 I I k9 I zp)<|za I (zv 3 2 I I k9 I zp)<|zt (S:=[]) (zl (Yn hn hz5 hz0) I ⟨zb _,zb _,t9⟩ I)<|zc I<|za I (zj I I)<|za I (zj I I)<|za I (zj I I) (SWl.e2 (S:=[]) (Ef.alloc (zs:=[.bool false,.slice none 0 0]) k9 I) fun g8=>(SWl.e2 (S:=[]) (Ef.alloc (zs:=[.bool false,.slice none 0 0]) k9 I) fun g9=>(zt (S:=[_]) (zw 4 I I I k9 I<|m9 I)<|zt (S:=[_]) (zw 5 I I I k9 I<|m9 I)<|zd I<|ze<|zh<|zh<|SW.sub (σ':=St.of [(3,pA g3),(4,pA g4),(6,pA g6),(8,pA g8),(7,y6 0)] [(g3,qJ<|d),(g4,[isD<|.bool false,isD<|.slice none 0 0,isD<|.bool false,isD<|.slice none 0 0]),(g6,qJ<|gz n d),(g8,qJ<|rn n d)]) (sB [1,2,3,4] I I) ?_))))
  refine zf (zc I<|za I (yk I I)<|ze<|zK I d9<|zx<|zg<|zq<|za I (zv 0 2 I I k9 I zp)<|za I (zv 2 2 I I k9 I zp)<|zt (S:=[]) (zl (Yn hd hz5 hz0) I ⟨zb _,zb _,t9⟩ I)<|zc I<|za I (zj I I)<|za I (zj I I)<|za I (zj I I) (SWl.e2 (S:=[]) (Ef.alloc (zs:=[.bool false,.slice none 0 0]) k9 I) fun g10=>(SWl.e2 (S:=[]) (Ef.alloc (zs:=[.bool false,.slice none 0 0]) k9 I) fun g11=>(zt (S:=[_]) (zw 4 I I I k9 I<|m9 I)<|zt (S:=[_]) (zw 5 I I I k9 I<|m9 I)<|zd I<|ze<|zh<|zq<|zc I<|za I (yk I I)<|ze<|zK I d9<|zx<|zg<|zq<|za I (zv 3 2 I I k9 I zp)<|za I (zv 4 2 I I k9 I zp)<|za I (yD I I zaU)<|zt (S:=[_]) (zw 1 I I I k9 I<|m9 I) ?_))));refine zd I (ze ?_);refine zE (fn:=Tryz.f61) (fun _ _ h=>h) (Rs.two I (zV 1 I I k9)<|zo I)
 ·have hz:V1 n d=gz n d:=(by unfold gz;rw [Jb (fun hneg=>oF hb33<|Int.sign_neg_iff.2 hneg)]);refine zx (zg<|zh<|zh<|SW.sub (σ':=St.of [(2,pA g2),(3,pA g3),(4,pA g4),(6,pA g6),(7,y6 0)] [(g2,qJ<|n),(g3,qJ<|d),(g4,[isD<|.bool false,isD<|.slice none 0 0,isD<|.bool false,isD<|.slice none 0 0]),(g6,qJ<|gz n d)]) (⟨⟨_,I,(sT I)⟩,[0,1,2,3],by decide,⟨la rfl,⟨la rfl,⟨la rfl,⟨⟨_,rfl,VX hz⟩,trivial⟩⟩⟩⟩⟩)<|zf<|zc I<|za I (yk I I)<|ze<|zK I d9<|zx<|zg<|zq<|za I (zv 0 2 I I k9 I zp)<|za I (zv 3 2 I I k9 I zp)<|zt (S:=[]) (zl (Yn hn hz5 hz0) I ⟨zb _,zb _,t9⟩ I)<|zc I<|za I (zj I I)<|za I (zj I I)<|za I (zj I I) (SWl.e2 (S:=[]) (Ef.alloc (zs:=[.bool false,.slice none 0 0]) k9 I) fun g8=>(SWl.e2 (S:=[]) (Ef.alloc (zs:=[.bool false,.slice none 0 0]) k9 I) fun g9=>(zt (S:=[_]) (zw 4 I I I k9 I<|m9 I)<|zt (S:=[_]) (zw 5 I I I k9 I<|m9 I)<|zd I<|ze<|zh<|zh<|SW.sub (σ':=St.of [(3,pA g3),(4,pA g4),(6,pA g6),(8,pA g8),(7,y6 0)] [(g3,qJ<|d),(g4,[isD<|.bool false,isD<|.slice none 0 0,isD<|.bool false,isD<|.slice none 0 0]),(g6,qJ<|gz n d),(g8,qJ<|rn n d)]) (sB [1,2,3,4] I I)<|zf<|zc I<|za I (yk I I)<|ze<|zK I d9<|zx<|zg ?_))))
  refine zq (za I (zv 0 2 I I k9 I zp)<|za I (zv 2 2 I I k9 I zp)<|zt (S:=[]) (zl (Yn hd hz5 hz0) I ⟨zb _,zb _,t9⟩ I)<|zc I<|za I (zj I I)<|za I (zj I I)<|za I (zj I I) (SWl.e2 (S:=[]) (Ef.alloc (zs:=[.bool false,.slice none 0 0]) k9 I) fun g10=>(SWl.e2 (S:=[]) (Ef.alloc (zs:=[.bool false,.slice none 0 0]) k9 I) fun g11=>(zt (S:=[_]) (zw 4 I I I k9 I<|m9 I)<|zt (S:=[_]) (zw 5 I I I k9 I<|m9 I)<|zd I<|ze<|zh<|zq<|zc I<|za I (yk I I)<|ze<|zK I d9<|zx<|zg<|zq<|za I (zv 3 2 I I k9 I zp)<|za I (zv 4 2 I I k9 I zp)<|za I (yD I I zaU)<|zt (S:=[_]) (zw 1 I I I k9 I<|m9 I)<|zd I<|ze ?_))));refine zE (fn:=Tryz.f61) (fun _ _ h=>h) (Rs.two I (zV 1 I I k9)<|zo I)
theorem KM {n d:Int} (hn:n.natAbs < zO) (hd:d.natAbs < zO) (h0:d≠0):Con Tryz.prog 68 [Zc n,Zc d] (Ya (rn n d)<|rd n d):=by
 have hg:(V1 n d).natAbs < zO:=Nat.lt_of_le_of_lt (gcd_le h0) hd;have hz0:=gz_ne n h0;have hz5:(gz n d).natAbs < b2:=VA (Nat.lt_of_le_of_lt (gz_le h0) hd);have hn2:=VA hn;have hd2:=VA hd;refine z1 Tryz.func68 k9 I k9 fun base w0=>(zq (SWl.e2 (S:=[]) (yf I I) fun g2=>(SWl.e2 (S:=[]) (yf I I) fun g3=>(SWl.e2 (S:=[]) (Ef.alloc (zs:=[.bool false,.slice none 0 0,.bool false,.slice none 0 0]) k9 I) fun g4=>(zT<|za I (zv 0 2 I I k9 I zp)<|za I (zv 1 2 I I k9 I zp)<|zt (S:=[]) (zl (KQ hn2 hd2) I ⟨zb _,zb _,t9⟩ I) (SWl.e2 (S:=[]) (Ef.alloc (zs:=[.bool false,.slice none 0 0]) k9 I) fun g5=>(zt (S:=[_]) (zw 3 I I I k9 I<|m9 I)<|ze<|zh<|zq<|za I (zi (n:=0) I k9)<|za I (zz 1 I I I k9 zp)<|ze<|zD I (fun hb14=> ?_) (fun hb14=> ?_))))))))
 ·have hz: -V1 n d=gz n d:=(by unfold gz;rw [Jh<|oT hb14]);refine zf (za I (zv 3 2 I I k9 I zp)<|zt (S:=[]) (zl (con_negR<|qP hg) I ⟨zb _,t9⟩ I)<|zt (S:=[_]) (zw 3 I I I k9 I<|m9 I)<|ze<|zh<|SW.sub (σ':=St.of [(2,pA g2),(3,pA g3),(4,pA g4),(5,pA g5)] [(g2,qJ<|n),(g3,qJ<|d),(g4,[isD<|.bool false,isD<|.slice none 0 0,isD<|.bool false,isD<|.slice none 0 0]),(g5,qJ<|gz n d)]) (⟨⟨_,I,(sT I)⟩,[0,1,2,3],by decide,⟨la rfl,⟨la rfl,⟨la rfl,⟨⟨_,rfl,VX hz⟩,trivial⟩⟩⟩⟩⟩)<|zf<|za I (zv 0 2 I I k9 I zp)<|za I (zv 3 2 I I k9 I zp)<|zt (S:=[]) (zl (Y4 hn2 hz5 hz0) I ⟨zb _,zb _,t9⟩ I)<|zc I<|za I (zj I I)<|za I (zj I I) (SWl.e2 (S:=[]) (Ef.alloc (zs:=[.bool false,.slice none 0 0]) k9 I) fun g6=>(SWl.e2 (S:=[]) (Ef.alloc (zs:=[.bool false,.slice none 0 0]) k9 I) fun g7=>(zt (S:=[_]) (zw 4 I I I k9 I<|m9 I)<|zt (S:=[_]) (zw 5 I I I k9 I<|m9 I)<|zT<|za I (zv 1 2 I I k9 I zp)<|za I (zv 3 2 I I k9 I zp)<|zt (S:=[]) (zl (Y4 hd2 hz5 hz0) I ⟨zb _,zb _,t9⟩ I)<|zc I<|za I (zj I I)<|za I (zj I I) (SWl.e2 (S:=[]) (Ef.alloc (zs:=[.bool false,.slice none 0 0]) k9 I) fun g8=>(SWl.e2 (S:=[]) (Ef.alloc (zs:=[.bool false,.slice none 0 0]) k9 I) fun g9=>(zt (S:=[_]) (zw 6 I I I k9 I<|m9 I)<|zt (S:=[_]) (zw 7 I I I k9 I<|m9 I)<|zT<|za I (zv 4 2 I I k9 I zp)<|za I (zv 6 2 I I k9 I zp)<|za I (yD I I zaU) ?_)))))))
  refine zt (S:=[_]) (zw 2 I I I k9 I<|m9 I) (ze ?_);refine zE (fn:=Tryz.f68) (fun _ _ h=>h) (zM I<|zV 2 I I k9)
 ·have hz:V1 n d=gz n d:=(by unfold gz;rw [Jb<|oF hb14]);refine zx (zg<|zh<|SW.sub (σ':=St.of [(2,pA g2),(3,pA g3),(4,pA g4),(5,pA g5)] [(g2,qJ<|n),(g3,qJ<|d),(g4,[isD<|.bool false,isD<|.slice none 0 0,isD<|.bool false,isD<|.slice none 0 0]),(g5,qJ<|gz n d)]) (⟨⟨_,I,(sT I)⟩,[0,1,2,3],by decide,⟨la rfl,⟨la rfl,⟨la rfl,⟨⟨_,rfl,VX hz⟩,trivial⟩⟩⟩⟩⟩)<|zf<|za I (zv 0 2 I I k9 I zp)<|za I (zv 3 2 I I k9 I zp)<|zt (S:=[]) (zl (Y4 hn2 hz5 hz0) I ⟨zb _,zb _,t9⟩ I)<|zc I<|za I (zj I I)<|za I (zj I I) (SWl.e2 (S:=[]) (Ef.alloc (zs:=[.bool false,.slice none 0 0]) k9 I) fun g6=>(SWl.e2 (S:=[]) (Ef.alloc (zs:=[.bool false,.slice none 0 0]) k9 I) fun g7=>(zt (S:=[_]) (zw 4 I I I k9 I<|m9 I)<|zt (S:=[_]) (zw 5 I I I k9 I<|m9 I)<|zT<|za I (zv 1 2 I I k9 I zp)<|za I (zv 3 2 I I k9 I zp)<|zt (S:=[]) (zl (Y4 hd2 hz5 hz0) I ⟨zb _,zb _,t9⟩ I)<|zc I<|za I (zj I I)<|za I (zj I I) (SWl.e2 (S:=[]) (Ef.alloc (zs:=[.bool false,.slice none 0 0]) k9 I) fun g8=>(SWl.e2 (S:=[]) (Ef.alloc (zs:=[.bool false,.slice none 0 0]) k9 I) fun g9=>(zt (S:=[_]) (zw 6 I I I k9 I<|m9 I)<|zt (S:=[_]) (zw 7 I I I k9 I<|m9 I)<|zT<|za I (zv 4 2 I I k9 I zp)<|za I (zv 6 2 I I k9 I zp)<|za I (yD I I zaU)<|zt (S:=[_]) (zw 2 I I I k9 I<|m9 I)<|ze ?_)))))))
  refine zE (fn:=Tryz.f68) (fun _ _ h=>h) (zM I<|zV 2 I I k9)
theorem Vu {n d n2 d2:Int} (h1:n=n2) (h2:d=d2):Con Tryz.prog 22 [Ya n d,Ya n2 d2] (yy true):=by
 refine z1 Tryz.func22 k9 I k9 fun base w0=>(zq (SWl.e2 (S:=[]) (yf I I) fun g2=>(SWl.e2 (S:=[]) (yf I I) fun g3=>(zd I<|zT<|za I (zi (n:=0) I k9)<|za I (zv 0 2 I I k9 I zp)<|za I (zi (n:=0) I k9)<|za I (zv 1 2 I I k9 I zp)<|zt (S:=[]) (zl (WT (by first | rfl | assumption)) I ⟨zb _,zb _,t9⟩ I)<|zc I<|zN I (zi (n:=2) I k9)<|zN I (zv 0 2 I I k9 I zp)<|zN I (zi (n:=2) I k9)<|zN I (zv 1 2 I I k9 I zp)<|y5 (S:=[]) I I I I (zl (WT (by first | rfl | assumption)) I ⟨zb _,zb _,t9⟩ I) ?_))))
 rintro _ rfl;refine za I (zC I I I) (zd I<|ze ?_);refine zE (fn:=Tryz.f22) (fun _ _ h=>h) (zM I<|zo I)
theorem VZ {n:Int} (h1: -9223372036854775808≤n) (h2:n≤9223372036854775807):n.natAbs < zO:=by
 have h:n.natAbs < 256 ^ 9:=by omega
 exact Ju h (by unfold zO;exact Nat.pow_le_pow_right d9 d9)
theorem con_ofQ {n d:Int} (h1: -9223372036854775808≤n) (h2:n≤9223372036854775807) (h3: -9223372036854775808≤d) (h4:d≤9223372036854775807) (h0:d≠0):Con Tryz.prog 27 [y6 n,y6 d] (Zm [Ya (rn n d)<|rd n d,y6 0]):=by
 have hn:=VZ h1 h2;have hd:=VZ h3 h4;refine z1 Tryz.func27 k9 I k9 fun base w0=>(zq (SWl.e2 (S:=[]) (Ef.alloc (zs:=[.bool false,.slice none 0 0,.bool false,.slice none 0 0]) k9 I) fun g4=>(zd I<|zT<|zc I<|zt (S:=[]) (zl (jQ h1 h2) I ⟨zb _,t9⟩ I)<|zc I<|zt (S:=[]) (zl (jQ h3 h4) I ⟨zb _,t9⟩ I)<|zt (S:=[]) (zl (qB hn hd h0) I ⟨zb _,zb _,t9⟩ I)<|za I (zj I I)<|za I (zj I I)<|zt (S:=[_]) (zw 0 I I I k9 I<|m9 I)<|zd I<|ze ?_)));refine zE (fn:=Tryz.f27) (fun _ _ h=>h) (Rs.two I (zV 0 I I k9)<|zo I)
theorem zbI {n d:Int} (h1: -9223372036854775808≤n) (h2:n≤9223372036854775807) (h3: -9223372036854775808≤d) (h4:d≤9223372036854775807) (h0:d≠0):Con Tryz.prog 32 [y6 n,y6 d] (Ya (rn n d)<|rd n d):=by
 have hn:=VZ h1 h2;have hd:=VZ h3 h4;refine z1 Tryz.func32 k9 I k9 fun base w0=>(zq (SWl.e2 (S:=[]) (Ef.alloc (zs:=[.bool false,.slice none 0 0,.bool false,.slice none 0 0]) k9 I) fun g4=>(zT<|zc I<|zt (S:=[]) (zl (V5 h1 h2) I ⟨zb _,t9⟩ I)<|zc I<|zt (S:=[]) (zl (V5 h3 h4) I ⟨zb _,t9⟩ I)<|zt (S:=[]) (zl (KM hn hd h0) I ⟨zb _,zb _,t9⟩ I)<|zt (S:=[_]) (zw 0 I I I k9 I<|m9 I)<|ze ?_)));refine zE (fn:=Tryz.f32) (fun _ _ h=>h) (zM I<|zV 0 I I k9)
theorem con_zero:Con Tryz.prog 86 [] (Ya 0 1):=by
 refine z1 Tryz.func86 k9 I k9 fun base w0=>(zq (SWl.e2 (S:=[]) (Ef.alloc (zs:=[.bool false,.slice none 0 0,.bool false,.slice none 0 0]) k9 I) fun g0=>(zT<|zt (S:=[]) (zl (jQ d9 d9) I ⟨zb _,t9⟩ I)<|zt (S:=[]) (zl (jQ d9 d9) I ⟨zb _,t9⟩ I)<|za I (yD I I zaU)<|zt (S:=[_]) (zw 0 I I I k9 I<|m9 I)<|ze ?_)));refine zE (fn:=Tryz.f86) (fun _ _ h=>h) (zM I<|zV 0 I I k9)
end Sx
namespace Sx
theorem con_signQ {n d:Int} (hG:Good n d):Con Tryz.prog 29 [Ya n d] (y6 n.sign):=by
 refine z1 Tryz.func29 k9 I k9 fun base w0=>(zq (SWl.e2 (S:=[]) (yf I I) fun g1=>(zd I<|ze<|zh<|zq<|za I (zv 0 4 I I k9 I zp)<|zt (S:=[]) (zl (Zp hG) I ⟨zb _,t9⟩ I)<|za I (yE I)<|ze<|zK I I<|zx<|zg<|zq<|za I (zi (n:=0) I k9)<|za I (zv 0 2 I I k9 I zp)<|zt (S:=[]) (zl (Y3 hG.hn) I ⟨zb _,t9⟩ I)<|zd I<|ze ?_)));refine zE (fn:=Tryz.f29) (fun _ _ h=>h) (zM I<|zo I)
