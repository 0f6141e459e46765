/- WHAT IS KNOWN OF RATIOS; the walks of ratio's Valid, Make, Of, Zero, From and of the reference's Valid, Reduce, Of, Same. THE WALKS of ratio's Sign, N -/
import Derived.Test.YtmflnfnebmbjkaaGreatGZAV
set_option maxHeartbeats 8000000
set_option maxRecDepth 100000
namespace Go.Proofs.YtmflnfnebmbjkaaGreat
open Go.RowKit
open Nm (W32)
namespace Sx
abbrev jL (n d:Int):List D:=[isD<|.bool<|decide (n < 0),bytD n.natAbs,isD<|.bool<|decide (d < 0),bytD d.natAbs]
abbrev Yo (n d:Int):D:=Yq (jL n d)
abbrev rratC (s:Bool) (b:LN) (t:Bool) (c:LN):List D:=[isD<|.bool s,rawD b,isD<|.bool t,rawD c]
abbrev rratD (s:Bool) (b:LN) (t:Bool) (c:LN):D:=Yq (rratC s b t c)
theorem YX {n d n' d':Int} (h:n=n') (k:d=d'):Le (Yo n d) (Yo n' d'):=by subst h k;exact zb _
theorem leC_rat0:LeAll [isD<|.bool false,isD<|.slice none 0 0,isD<|.bool false,isD<|.slice none 0 0] (jL 0 0):=by
 have h:Le (isD<|.slice none 0 0) (bytD (0:Int).natAbs):=by
  have:(Nm.dg 256 (0:Int).natAbs).reverse=[]:=by rw [show (0:Int).natAbs=0 from rfl,Nm.dg_zero];rfl
  unfold bytD;rw [this];exact jg
 exact ⟨zb _,h,zb _,h,t9⟩
theorem le_rat0:Le (Yq [isD<|.bool false,isD<|.slice none 0 0,isD<|.bool false,isD<|.slice none 0 0]) (Yo 0 0):=zbx leC_rat0
theorem bldR0:Bld Tryz.prog 43 [] [] [isD<|.bool false,isD<|.slice none 0 0,isD<|.bool false,isD<|.slice none 0 0]:=fun L w vs h=>by
 obtain rfl:=all0 h;exact ⟨[.bool false,.slice none 0 0,.bool false,.slice none 0 0],⟨I,I,I,I,t9⟩,fun w'=>by kernel_rfl⟩
theorem zaq {d e f g:D}:Bld Tryz.prog 43 [0,1] [Yq [d,e],Yq [f,g]] [d,e,f,g]:=fun L w vs h=>by
 obtain ⟨u,v,rfl,hu,hv⟩:=V2 h;obtain ⟨a,b,rfl,h1,h2⟩:=agg2 hu;obtain ⟨a',b',rfl,h3,h4⟩:=agg2 hv;exact ⟨[a,b,a',b'],⟨h1,h2,h3,h4,t9⟩,fun w'=>by kernel_rfl⟩
def okB (n d:Int):Bool:=decide (0 < d) && decide (Nat.gcd n.natAbs d.natAbs=1)
def toZ (s:Bool) (b:LN):Int:=sgn s (Vp b.reverse)
def V9 (s:Bool) (b:LN) (t:Bool) (c:LN):Bool:=vld s b && (vld t c && okB (toZ s b) (toZ t c))
structure Good (n d:Int):Prop where
 hn:n.natAbs < zO
 hd:d.natAbs < zO
 pos:0 < d
 g:Nat.gcd n.natAbs d.natAbs=1
theorem valL_dg:∀ (n X:Nat),X≤n→Vp (Nm.dg 256 X)=X
 | 0,X,h=>by
  obtain rfl:X=0:=by omega
  rw [Nm.dg_zero];rfl
 | n + 1,X,h=>by
  by_cases h0:X=0
  ·subst h0;rw [Nm.dg_zero];rfl
  ·rw [Nm.dg_pos d9 h0];simp only [Vp];rw [valL_dg n (X / 256) o9];omega
theorem YP (n:Int):toZ (decide (n < 0)) (Nm.dg 256 n.natAbs).reverse=n:=by
 unfold toZ;rw [List.reverse_reverse,valL_dg _ _<|Js _];unfold sgn
 by_cases h:n < 0
 ·rw [Jo h,Jh rfl];omega
 ·rw [Jd h,Jb d9];omega
theorem zaI {n d:Int} (hn:n.natAbs < zO) (hd:d.natAbs < zO):V9 (decide (n < 0)) (Nm.dg 256 n.natAbs).reverse (decide (d < 0)) (Nm.dg 256 d.natAbs).reverse=okB n d:=by
 unfold V9;rw [vld_int hn,vld_int hd,YP,YP]
 rfl
theorem Good.ok {n d:Int} (h:Good n d):okB n d=true:=by unfold okB;rw [Jo h.pos,Jo h.g];rfl
theorem Good.rv {n d:Int} (h:Good n d):V9 (decide (n < 0)) (Nm.dg 256 n.natAbs).reverse (decide (d < 0)) (Nm.dg 256 d.natAbs).reverse=true:=by rw [zaI h.hn h.hd,h.ok]
theorem Good.d0 {n d:Int} (h:Good n d):d≠0:=by have:=h.pos;omega
theorem rvld_out {s t:Bool} {b c:LN} (hb:∀ d∈b,d < 256) (hc:∀ d∈c,d < 256) (hv:V9 s b t c=true):∃ n d:Int,Good n d∧s=decide (n < 0)∧b=(Nm.dg 256 n.natAbs).reverse∧t=decide (d < 0)∧c=(Nm.dg 256 d.natAbs).reverse:=by
 unfold V9 at hv;simp only [JL] at hv;obtain ⟨h1,h2,h3⟩:=hv;obtain ⟨n,hn,rfl,rfl⟩:=Vo hb h1;obtain ⟨d,hd,rfl,rfl⟩:=Vo hc h2;rw [YP,YP] at h3;unfold okB at h3;simp only [JL,Jz] at h3;exact ⟨n,d,⟨hn,hd,h3.1,h3.2⟩,I,I,I,I⟩
structure Byt (b c:LN):Prop where
 l:∀ d∈b,d < 256
 r:∀ d∈c,d < 256
theorem cmpZ_eq0 {x y:Int}:j3 x y=0↔x=y:=by
 unfold j3
 by_cases h:x < y
 ·rw [Jh h];omega
 ·rw [Jb h]
  by_cases h2:x=y
  ·rw [Jh h2];simp [h2]
  ·rw [Jb h2];simp [h2]
theorem sign_le {d:Int} (h:¬0 < d):d.sign≤0:=by
 rcases Int.lt_or_eq_of_le (Int.not_lt.1 h) with h | h
 ·rw [Int.sign_eq_neg_one_of_neg h];decide
 ·rw [h];decide
theorem zaG {d:Int} (h:0 < d):d.sign=1:=Int.sign_eq_one_of_pos h
theorem rv_1 {s t:Bool} {b c:LN} (h:vld t c=false):Con Tryz.prog 63 [rratD s b t c] (yK false):=by
 refine z6 Tryz.func63 k9 I k9 fun base w0=>(zp (SWl.e2 (S:=[]) (yo I I) fun g1=>(zd I<|ze<|zh<|zp<|za I (zm (n:=2) I k9)<|za I (zx 0 2 I I k9 I zt)<|zq (S:=[]) (zn (con_signB h) I ⟨zb _,t9⟩ I)<|za I (ZC I I)<|ze<|yg I d9<|zp<|zd I<|ze ?_)));refine zG (fn:=Tryz.f63) (fun _ _ h=>h) (zN I<|zo I)
theorem rv_2 {s:Bool} {b:LN} {d:Int} (hd:d.natAbs < zO) (h:¬0 < d):Con Tryz.prog 63 [Yq<|rintC s b ++ qu d] (yK false):=by
 refine z6 Tryz.func63 k9 I k9 fun base w0=>(zp (SWl.e2 (S:=[]) (yo I I) fun g1=>(zd I<|ze<|zh<|zp<|za I (zm (n:=2) I k9)<|za I (zx 0 2 I I k9 I zt)<|zq (S:=[]) (zn (YU hd) I ⟨zb _,t9⟩ I)<|za I (ZC I I)<|ze<|yg I (Jo<|sign_le h)<|zp<|zd I<|ze ?_)));refine zG (fn:=Tryz.f63) (fun _ _ h=>h) (zN I<|zo I)
theorem rv_3 {s:Bool} {b:LN} {d:Int} (hv:vld s b=false) (hd:d.natAbs < zO) (h:0 < d):Con Tryz.prog 63 [Yq<|rintC s b ++ qu d] (yK false):=by
 refine z6 Tryz.func63 k9 I k9 fun base w0=>(zp (SWl.e2 (S:=[]) (yo I I) fun g1=>(zd I<|ze<|zh<|zp<|za I (zm (n:=2) I k9)<|za I (zx 0 2 I I k9 I zt)<|zq (S:=[]) (zn (Vc hd<|zaG h) I ⟨zb _,t9⟩ I)<|za I (ZC I I)<|ze<|zJ I d9<|zw<|zg<|zp<|za I (zm (n:=0) I k9)<|za I (zx 0 2 I I k9 I zt)<|za I (zm (n:=2) I k9)<|za I (zx 0 2 I I k9 I zt)<|zq (S:=[]) (zn (con_gcdB (by rw [hv,Bool.false_and])) I ⟨zb _,zb _,t9⟩ I)<|zc I<|za I (zi I I)<|za I (zi I I) (SWl.e2 (S:=[]) (Ef.alloc (zs:=[.bool false,.slice none 0 0]) k9 I) fun g3=>(zq (S:=[_]) (zy 1 I I I k9 I<|m9 I)<|zd I<|ze<|zh<|yf [] (rr [0,1,2,3]<|.n 4 (.n 5 (rr [6,7,8] .fin) .no) .no) k9 k9 (fun d _ _ _ _ h=>by cases d <;> exact h)<|zC I I<|zj I I (yS I I)<|zC I I<|zk I I I d9 I I ?_)))))
 refine j5 I I I d9 I I ?_ yB;refine j5 I I I d9 I I ?_ yB;refine zk I I I d9 I I (zj I I (zM I d9 I)<|yR I I<|yu ?_);refine zG (fn:=Tryz.f63) (fun _ _ h=>h) (zN I<|zo I)
theorem rv_4 {n d:Int} (hn:n.natAbs < zO) (hd:d.natAbs < zO) (h:0 < d):Con Tryz.prog 63 [Yo n d] (yK<|decide (Nat.gcd n.natAbs d.natAbs=1)):=by
 have hg:(Wq n d).natAbs < zO:=Nat.lt_of_le_of_lt (gcd_le o9) hd
 refine z6 Tryz.func63 k9 I k9 fun base w0=>(zp (SWl.e2 (S:=[]) (yo I I) fun g1=>(zd I<|ze<|zh<|zp<|za I (zm (n:=2) I k9)<|za I (zx 0 2 I I k9 I zt)<|zq (S:=[]) (zn (Vc hd<|zaG h) I ⟨zb _,t9⟩ I)<|za I (ZC I I)<|ze<|zJ I d9<|zw<|zg<|zp<|za I (zm (n:=0) I k9)<|za I (zx 0 2 I I k9 I zt)<|za I (zm (n:=2) I k9)<|za I (zx 0 2 I I k9 I zt)<|zq (S:=[]) (zn (con_gcd hn hd) I ⟨zb _,zb _,t9⟩ I)<|zc I<|za I (zi I I)<|za I (zi I I) (SWl.e2 (S:=[]) (Ef.alloc (zs:=[.bool false,.slice none 0 0]) k9 I) fun g3=>(zq (S:=[_]) (zy 1 I I I k9 I<|m9 I)<|zd I<|ze<|zh<|yf [] (rr [0,1,2,3]<|.n 4 (.n 5 (rr [6,7,8] .fin) .no) .no) k9 k9 (fun d _ _ _ _ h=>by cases d <;> exact h)<|zC I I<|zj I I (yS I I)<|zC I I<|zu I I I d9 I I (zx 1 2 I I k9 I zt) ?_)))))
 refine ZI I I I d9 I (zn (jv d9 d9) I ⟨zb _,t9⟩ I) ?_ yB;rintro _ rfl;refine ZI I I I d9 I (zn (qz hg zaO) I ⟨zb _,zb _,t9⟩ I) ?_ yB;rintro _ rfl;refine zu I I I d9 I I (yS I I) (zj I I (zF I d9 I)<|yR I I<|yu<|zG (fn:=Tryz.f63) (fun _ _ h=>h)<|Rs.le (zN I<|zo I) ?_);exact le_v (JY Value.bool<|JW.2<|cmpZ_eq0.trans (by unfold Wq;omega))
theorem zbY {s t:Bool} {b c:LN} (hB:Byt b c):Con Tryz.prog 63 [rratD s b t c] (yK<|V9 s b t c):=by
 cases h2:vld t c
 ·have e:V9 s b t c=false:=by unfold V9;rw [h2,Bool.false_and,Bool.and_false]
  rw [e];exact rv_1 h2
 ·obtain ⟨d,hd,rfl,rfl⟩:=Vo hB.r h2
  by_cases hp:0 < d
  ·cases h1:vld s b
   ·have e:V9 s b (decide (d < 0)) (Nm.dg 256 d.natAbs).reverse=false:=by unfold V9;rw [h1,Bool.false_and]
    rw [e];exact rv_3 h1 hd hp
   ·obtain ⟨n,hn,rfl,rfl⟩:=Vo hB.l h1;rw [zaI hn hd];have h:=rv_4 hn hd hp
    have e:okB n d=decide (Nat.gcd n.natAbs d.natAbs=1):=by unfold okB;rw [Jo hp,Bool.true_and]
    rw [e];exact h
  ·have e:V9 s b (decide (d < 0)) (Nm.dg 256 d.natAbs).reverse=false:=by
    unfold V9 okB;rw [YP,Jd hp,Bool.false_and,Bool.and_false,Bool.and_false]
   rw [e];exact rv_2 hd hp
theorem Zj {n d:Int} (h:Good n d):Con Tryz.prog 63 [Yo n d] (yK true):=
 (rv_4 h.hn h.hd h.pos).mono ⟨zb _,trivial⟩ (zE (by rw [Jo h.g]))
theorem con_rvalF {s t:Bool} {b c:LN} (hB:Byt b c) (h:V9 s b t c=false):Con Tryz.prog 63 [rratD s b t c] (yK false):=
 (zbY hB).mono ⟨zb _,trivial⟩ (zE (by rw [h]))
def gz (n d:Int):Int:=if d < 0 then -Wq n d else Wq n d
def rn (n d:Int):Int:=dq n (gz n d)
def rd (n d:Int):Int:=dq d (gz n d)
theorem KZ (n d:Int):(gz n d).natAbs=Nat.gcd n.natAbs d.natAbs:=by
 unfold gz
 split
 ·rw [Int.natAbs_neg,zab]
 ·rw [zab]
theorem gz_ne (n:Int) {d:Int} (h:d≠0):gz n d≠0:=fun e=>by
 have h1:=KZ n d;have h2:0 < Nat.gcd n.natAbs d.natAbs:=Nat.gcd_pos_of_pos_right _ o9;rw [e] at h1;simp at h1;omega
theorem gz_le {n d:Int} (h:d≠0):(gz n d).natAbs≤d.natAbs:=by rw [KZ];exact Nat.gcd_le_right _ o9
theorem jW {x:Int}:x.sign=0↔x=0:=Int.sign_eq_zero_iff_zero
theorem dq_one (x:Int):dq x 1=x:=by
 have h1:=dq_dr (y:=1) x d9;have h2:=K9 (x:=x) (y:=1) d9
 have h3:dr x 1=0:=by
  have:(1:Int).natAbs=1:=rfl;omega
 omega
theorem Good.gz1 {n d:Int} (h:Good n d):gz n d=1:=by
 have h1:=h.pos;unfold gz Wq;rw [Jb o9,h.g]
 rfl
theorem Good.rn {n d:Int} (h:Good n d):rn n d=n:=by unfold Sx.rn;rw [h.gz1,dq_one]
theorem Good.rd {n d:Int} (h:Good n d):rd n d=d:=by unfold Sx.rd;rw [h.gz1,dq_one]
theorem jh {n:Int} (hn:n.natAbs < zO):Good n 1:=⟨hn,zaO,by decide,by simp⟩
theorem rn_abs {n d:Int} (hd:d≠0):(rn n d).natAbs≤n.natAbs:=za9 (gz_ne n hd)
theorem rd_abs {n d:Int} (hd:d≠0):(rd n d).natAbs≤d.natAbs:=za9 (gz_ne n hd)
theorem qk {n d:Int} (hn:n.natAbs < zO) (hd:d.natAbs < zO) (h0:d≠0):Con Tryz.prog 61 [Zs n,Zs d] (Zq [Yo (rn n d)<|rd n d,yZ 0]):=by
 have hg:(Wq n d).natAbs < zO:=Nat.lt_of_le_of_lt (gcd_le h0) hd;have hz0:=gz_ne n h0;have hz5:(gz n d).natAbs < zO:=Nat.lt_of_le_of_lt (gz_le h0) hd;refine z6 Tryz.func61 k9 I k9 fun base w0=>(zp (SWl.e2 (S:=[]) (yo I I) fun g2=>(SWl.e2 (S:=[]) (yo I I) fun g3=>(SWl.e2 (S:=[]) (Ef.alloc (zs:=[.bool false,.slice none 0 0,.bool false,.slice none 0 0]) k9 I) fun g4=>(zd I<|ze<|zh<|zp<|za I (zx 0 2 I I k9 I zt)<|zq (S:=[]) (zn (Kq hn) I ⟨zb _,t9⟩ I)<|za I (yF I)<|zc I<|zU I (zx 1 2 I I k9 I zt)<|Zt (S:=[]) I I I I (zn (YU hd) I ⟨zb _,t9⟩ I) ?_)))));rintro _ rfl;refine zU I (yS I I) (za I (zM I I I)<|ze<|zJ I (Jd (fun h=>h0<|jW.1 h))<|zw<|zg<|zp<|za I (zx 0 2 I I k9 I zt)<|za I (zx 1 2 I I k9 I zt)<|zq (S:=[]) (zn (con_gcd hn hd) I ⟨zb _,zb _,t9⟩ I)<|zc I<|za I (zi I I)<|za I (zi I I) (SWl.e2 (S:=[]) (Ef.alloc (zs:=[.bool false,.slice none 0 0]) k9 I) fun g6=>(zq (S:=[_]) (zy 3 I I I k9 I<|m9 I)<|zd I<|ze<|zh<|zp<|zc I<|za I (yS I I)<|zc I<|Yk I I d9 I I (zx 1 2 I I k9 I zt)<|Zt (S:=[]) I I d9 I (zn (YU hd) I ⟨zb _,t9⟩ I) ?_)))
 rintro _ rfl;refine Yk I I d9 I I (ya I I) (za I (zF I d9 I)<|ze<|zD I (fun hb33=> ?_) (fun hb33=> ?_))
 ·have hneg:d < 0:=Int.sign_neg_iff.1 (oT hb33);have hz: -Wq n d=gz n d:=(by unfold gz;rw [Jh hneg]);refine zf (za I (zx 3 2 I I k9 I zt)<|zq (S:=[]) (zn (con_neg hg) I ⟨zb _,t9⟩ I)<|zc I<|za I (zi I I)<|za I (zi I I)<|zq (S:=[_]) (zy 3 I I I k9 I<|m9 I)<|zd I<|ze<|zh<|zh<|SW.sub (σ':=St.of [(2,pA g2),(3,pA g3),(4,pA g4),(6,pA g6),(7,yZ 0)] [(g2,qu<|n),(g3,qu<|d),(g4,[isD<|.bool false,isD<|.slice none 0 0,isD<|.bool false,isD<|.slice none 0 0]),(g6,qu<|gz n d)]) (⟨⟨_,I,(sT I)⟩,[0,1,2,3],by decide,⟨la rfl,⟨la rfl,⟨la rfl,⟨⟨_,rfl,VD hz⟩,trivial⟩⟩⟩⟩⟩)<|zf<|zc I<|za I (yj I I)<|ze<|zJ I d9<|zw<|zg<|zp<|za I (zx 0 2 I I k9 I zt)<|za I (zx 3 2 I I k9 I zt)<|zq (S:=[]) (zn (Yg hn hz5 hz0) I ⟨zb _,zb _,t9⟩ I)<|zc I<|za I (zi I I)<|za I (zi I I)<|za I (zi I I) (SWl.e2 (S:=[]) (Ef.alloc (zs:=[.bool false,.slice none 0 0]) k9 I) fun g8=>(SWl.e2 (S:=[]) (Ef.alloc (zs:=[.bool false,.slice none 0 0]) k9 I) fun g9=>(zq (S:=[_]) (zy 4 I I I k9 I<|m9 I)<|zq (S:=[_]) (zy 5 I I I k9 I<|m9 I)<|zd I<|ze<|zh<|zh<|SW.sub (σ':=St.of [(3,pA g3),(4,pA g4),(6,pA g6),(8,pA g8),(7,yZ 0)] [(g3,qu<|d),(g4,[isD<|.bool false,isD<|.slice none 0 0,isD<|.bool false,isD<|.slice none 0 0]),(g6,qu<|gz n d),(g8,qu<|rn n d)]) (sB [1,2,3,4] I I) ?_))))
  refine zf (zc I<|za I (yj I I)<|ze<|zJ I d9<|zw<|zg<|zp<|za I (zx 0 2 I I k9 I zt)<|za I (zx 2 2 I I k9 I zt)<|zq (S:=[]) (zn (Yg hd hz5 hz0) I ⟨zb _,zb _,t9⟩ I)<|zc I<|za I (zi I I)<|za I (zi I I)<|za I (zi I I) (SWl.e2 (S:=[]) (Ef.alloc (zs:=[.bool false,.slice none 0 0]) k9 I) fun g10=>(SWl.e2 (S:=[]) (Ef.alloc (zs:=[.bool false,.slice none 0 0]) k9 I) fun g11=>(zq (S:=[_]) (zy 4 I I I k9 I<|m9 I)<|zq (S:=[_]) (zy 5 I I I k9 I<|m9 I)<|zd I<|ze<|zh<|zp<|zc I<|za I (yj I I)<|ze<|zJ I d9<|zw<|zg<|zp<|za I (zx 3 2 I I k9 I zt)<|za I (zx 4 2 I I k9 I zt)<|za I (yz I I zaq)<|zq (S:=[_]) (zy 1 I I I k9 I<|m9 I) ?_))));refine zd I (ze ?_);refine zG (fn:=Tryz.f61) (fun _ _ h=>h) (Rs.two I (zZ 1 I I k9)<|zo I)
 ·have hz:Wq n d=gz n d:=(by unfold gz;rw [Jb (fun hneg=>oF hb33<|Int.sign_neg_iff.2 hneg)]);refine zw (zg<|zh<|zh<|SW.sub (σ':=St.of [(2,pA g2),(3,pA g3),(4,pA g4),(6,pA g6),(7,yZ 0)] [(g2,qu<|n),(g3,qu<|d),(g4,[isD<|.bool false,isD<|.slice none 0 0,isD<|.bool false,isD<|.slice none 0 0]),(g6,qu<|gz n d)]) (⟨⟨_,I,(sT I)⟩,[0,1,2,3],by decide,⟨la rfl,⟨la rfl,⟨la rfl,⟨⟨_,rfl,VD hz⟩,trivial⟩⟩⟩⟩⟩)<|zf<|zc I<|za I (yj I I)<|ze<|zJ I d9<|zw<|zg<|zp<|za I (zx 0 2 I I k9 I zt)<|za I (zx 3 2 I I k9 I zt)<|zq (S:=[]) (zn (Yg hn hz5 hz0) I ⟨zb _,zb _,t9⟩ I)<|zc I<|za I (zi I I)<|za I (zi I I)<|za I (zi I I) (SWl.e2 (S:=[]) (Ef.alloc (zs:=[.bool false,.slice none 0 0]) k9 I) fun g8=>(SWl.e2 (S:=[]) (Ef.alloc (zs:=[.bool false,.slice none 0 0]) k9 I) fun g9=>(zq (S:=[_]) (zy 4 I I I k9 I<|m9 I)<|zq (S:=[_]) (zy 5 I I I k9 I<|m9 I)<|zd I<|ze<|zh<|zh<|SW.sub (σ':=St.of [(3,pA g3),(4,pA g4),(6,pA g6),(8,pA g8),(7,yZ 0)] [(g3,qu<|d),(g4,[isD<|.bool false,isD<|.slice none 0 0,isD<|.bool false,isD<|.slice none 0 0]),(g6,qu<|gz n d),(g8,qu<|rn n d)]) (sB [1,2,3,4] I I)<|zf<|zc I<|za I (yj I I)<|ze<|zJ I d9<|zw<|zg ?_))))
  refine zp (za I (zx 0 2 I I k9 I zt)<|za I (zx 2 2 I I k9 I zt)<|zq (S:=[]) (zn (Yg hd hz5 hz0) I ⟨zb _,zb _,t9⟩ I)<|zc I<|za I (zi I I)<|za I (zi I I)<|za I (zi I I) (SWl.e2 (S:=[]) (Ef.alloc (zs:=[.bool false,.slice none 0 0]) k9 I) fun g10=>(SWl.e2 (S:=[]) (Ef.alloc (zs:=[.bool false,.slice none 0 0]) k9 I) fun g11=>(zq (S:=[_]) (zy 4 I I I k9 I<|m9 I)<|zq (S:=[_]) (zy 5 I I I k9 I<|m9 I)<|zd I<|ze<|zh<|zp<|zc I<|za I (yj I I)<|ze<|zJ I d9<|zw<|zg<|zp<|za I (zx 3 2 I I k9 I zt)<|za I (zx 4 2 I I k9 I zt)<|za I (yz I I zaq)<|zq (S:=[_]) (zy 1 I I I k9 I<|m9 I)<|zd I<|ze ?_))));refine zG (fn:=Tryz.f61) (fun _ _ h=>h) (Rs.two I (zZ 1 I I k9)<|zo I)
theorem zai {n d:Int} (hn:n.natAbs < zO) (hd:d.natAbs < zO) (h0:d≠0):Con Tryz.prog 68 [Zs n,Zs d] (Yo (rn n d)<|rd n d):=by
 have hg:(Wq n d).natAbs < zO:=Nat.lt_of_le_of_lt (gcd_le h0) hd;have hz0:=gz_ne n h0;have hz5:(gz n d).natAbs < b2:=zbq (Nat.lt_of_le_of_lt (gz_le h0) hd);have hn2:=zbq hn;have hd2:=zbq hd;refine z6 Tryz.func68 k9 I k9 fun base w0=>(zp (SWl.e2 (S:=[]) (yo I I) fun g2=>(SWl.e2 (S:=[]) (yo I I) fun g3=>(SWl.e2 (S:=[]) (Ef.alloc (zs:=[.bool false,.slice none 0 0,.bool false,.slice none 0 0]) k9 I) fun g4=>(zS<|za I (zx 0 2 I I k9 I zt)<|za I (zx 1 2 I I k9 I zt)<|zq (S:=[]) (zn (zao hn2 hd2) I ⟨zb _,zb _,t9⟩ I) (SWl.e2 (S:=[]) (Ef.alloc (zs:=[.bool false,.slice none 0 0]) k9 I) fun g5=>(zq (S:=[_]) (zy 3 I I I k9 I<|m9 I)<|ze<|zh<|zp<|za I (zm (n:=0) I k9)<|za I (zB 1 I I I k9 zt)<|ze<|zD I (fun hb14=> ?_) (fun hb14=> ?_))))))))
 ·have hz: -Wq n d=gz n d:=(by unfold gz;rw [Jh<|oT hb14]);refine zf (za I (zx 3 2 I I k9 I zt)<|zq (S:=[]) (zn (con_negR<|b4_512 hg) I ⟨zb _,t9⟩ I)<|zq (S:=[_]) (zy 3 I I I k9 I<|m9 I)<|ze<|zh<|SW.sub (σ':=St.of [(2,pA g2),(3,pA g3),(4,pA g4),(5,pA g5)] [(g2,qu<|n),(g3,qu<|d),(g4,[isD<|.bool false,isD<|.slice none 0 0,isD<|.bool false,isD<|.slice none 0 0]),(g5,qu<|gz n d)]) (⟨⟨_,I,(sT I)⟩,[0,1,2,3],by decide,⟨la rfl,⟨la rfl,⟨la rfl,⟨⟨_,rfl,VD hz⟩,trivial⟩⟩⟩⟩⟩)<|zf<|za I (zx 0 2 I I k9 I zt)<|za I (zx 3 2 I I k9 I zt)<|zq (S:=[]) (zn (YV hn2 hz5 hz0) I ⟨zb _,zb _,t9⟩ I)<|zc I<|za I (zi I I)<|za I (zi I I) (SWl.e2 (S:=[]) (Ef.alloc (zs:=[.bool false,.slice none 0 0]) k9 I) fun g6=>(SWl.e2 (S:=[]) (Ef.alloc (zs:=[.bool false,.slice none 0 0]) k9 I) fun g7=>(zq (S:=[_]) (zy 4 I I I k9 I<|m9 I)<|zq (S:=[_]) (zy 5 I I I k9 I<|m9 I)<|zS<|za I (zx 1 2 I I k9 I zt)<|za I (zx 3 2 I I k9 I zt)<|zq (S:=[]) (zn (YV hd2 hz5 hz0) I ⟨zb _,zb _,t9⟩ I)<|zc I<|za I (zi I I)<|za I (zi I I) (SWl.e2 (S:=[]) (Ef.alloc (zs:=[.bool false,.slice none 0 0]) k9 I) fun g8=>(SWl.e2 (S:=[]) (Ef.alloc (zs:=[.bool false,.slice none 0 0]) k9 I) fun g9=>(zq (S:=[_]) (zy 6 I I I k9 I<|m9 I)<|zq (S:=[_]) (zy 7 I I I k9 I<|m9 I)<|zS<|za I (zx 4 2 I I k9 I zt)<|za I (zx 6 2 I I k9 I zt)<|za I (yz I I zaq) ?_)))))))
  refine zq (S:=[_]) (zy 2 I I I k9 I<|m9 I) (ze ?_);refine zG (fn:=Tryz.f68) (fun _ _ h=>h) (zN I<|zZ 2 I I k9)
 ·have hz:Wq n d=gz n d:=(by unfold gz;rw [Jb<|oF hb14]);refine zw (zg<|zh<|SW.sub (σ':=St.of [(2,pA g2),(3,pA g3),(4,pA g4),(5,pA g5)] [(g2,qu<|n),(g3,qu<|d),(g4,[isD<|.bool false,isD<|.slice none 0 0,isD<|.bool false,isD<|.slice none 0 0]),(g5,qu<|gz n d)]) (⟨⟨_,I,(sT I)⟩,[0,1,2,3],by decide,⟨la rfl,⟨la rfl,⟨la rfl,⟨⟨_,rfl,VD hz⟩,trivial⟩⟩⟩⟩⟩)<|zf<|za I (zx 0 2 I I k9 I zt)<|za I (zx 3 2 I I k9 I zt)<|zq (S:=[]) (zn (YV hn2 hz5 hz0) I ⟨zb _,zb _,t9⟩ I)<|zc I<|za I (zi I I)<|za I (zi I I) (SWl.e2 (S:=[]) (Ef.alloc (zs:=[.bool false,.slice none 0 0]) k9 I) fun g6=>(SWl.e2 (S:=[]) (Ef.alloc (zs:=[.bool false,.slice none 0 0]) k9 I) fun g7=>(zq (S:=[_]) (zy 4 I I I k9 I<|m9 I)<|zq (S:=[_]) (zy 5 I I I k9 I<|m9 I)<|zS<|za I (zx 1 2 I I k9 I zt)<|za I (zx 3 2 I I k9 I zt)<|zq (S:=[]) (zn (YV hd2 hz5 hz0) I ⟨zb _,zb _,t9⟩ I)<|zc I<|za I (zi I I)<|za I (zi I I) (SWl.e2 (S:=[]) (Ef.alloc (zs:=[.bool false,.slice none 0 0]) k9 I) fun g8=>(SWl.e2 (S:=[]) (Ef.alloc (zs:=[.bool false,.slice none 0 0]) k9 I) fun g9=>(zq (S:=[_]) (zy 6 I I I k9 I<|m9 I)<|zq (S:=[_]) (zy 7 I I I k9 I<|m9 I)<|zS<|za I (zx 4 2 I I k9 I zt)<|za I (zx 6 2 I I k9 I zt)<|za I (yz I I zaq)<|zq (S:=[_]) (zy 2 I I I k9 I<|m9 I)<|ze ?_)))))))
  refine zG (fn:=Tryz.f68) (fun _ _ h=>h) (zN I<|zZ 2 I I k9)
theorem Vd {n d n2 d2:Int} (h1:n=n2) (h2:d=d2):Con Tryz.prog 22 [Yo n d,Yo n2 d2] (yK true):=by
 refine z6 Tryz.func22 k9 I k9 fun base w0=>(zp (SWl.e2 (S:=[]) (yo I I) fun g2=>(SWl.e2 (S:=[]) (yo I I) fun g3=>(zd I<|zS<|za I (zm (n:=0) I k9)<|za I (zx 0 2 I I k9 I zt)<|za I (zm (n:=0) I k9)<|za I (zx 1 2 I I k9 I zt)<|zq (S:=[]) (zn (Wy (by first | rfl | assumption)) I ⟨zb _,zb _,t9⟩ I)<|zc I<|zU I (zm (n:=2) I k9)<|zU I (zx 0 2 I I k9 I zt)<|zU I (zm (n:=2) I k9)<|zU I (zx 1 2 I I k9 I zt)<|Zt (S:=[]) I I I I (zn (Wy (by first | rfl | assumption)) I ⟨zb _,zb _,t9⟩ I) ?_))))
 rintro _ rfl;refine za I (zF I I I) (zd I<|ze ?_);refine zG (fn:=Tryz.f22) (fun _ _ h=>h) (zN I<|zo I)
theorem VF {n:Int} (h1: -9223372036854775808≤n) (h2:n≤9223372036854775807):n.natAbs < zO:=by
 have h:n.natAbs < 256 ^ 9:=by omega
 exact Ju h (by unfold zO;exact Nat.pow_le_pow_right d9 d9)
theorem con_ofQ {n d:Int} (h1: -9223372036854775808≤n) (h2:n≤9223372036854775807) (h3: -9223372036854775808≤d) (h4:d≤9223372036854775807) (h0:d≠0):Con Tryz.prog 27 [yZ n,yZ d] (Zq [Yo (rn n d)<|rd n d,yZ 0]):=by
 have hn:=VF h1 h2;have hd:=VF h3 h4;refine z6 Tryz.func27 k9 I k9 fun base w0=>(zp (SWl.e2 (S:=[]) (Ef.alloc (zs:=[.bool false,.slice none 0 0,.bool false,.slice none 0 0]) k9 I) fun g4=>(zd I<|zS<|zc I<|zq (S:=[]) (zn (jv h1 h2) I ⟨zb _,t9⟩ I)<|zc I<|zq (S:=[]) (zn (jv h3 h4) I ⟨zb _,t9⟩ I)<|zq (S:=[]) (zn (qk hn hd h0) I ⟨zb _,zb _,t9⟩ I)<|za I (zi I I)<|za I (zi I I)<|zq (S:=[_]) (zy 0 I I I k9 I<|m9 I)<|zd I<|ze ?_)));refine zG (fn:=Tryz.f27) (fun _ _ h=>h) (Rs.two I (zZ 0 I I k9)<|zo I)
theorem zbg {n d:Int} (h1: -9223372036854775808≤n) (h2:n≤9223372036854775807) (h3: -9223372036854775808≤d) (h4:d≤9223372036854775807) (h0:d≠0):Con Tryz.prog 32 [yZ n,yZ d] (Yo (rn n d)<|rd n d):=by
 have hn:=VF h1 h2;have hd:=VF h3 h4;refine z6 Tryz.func32 k9 I k9 fun base w0=>(zp (SWl.e2 (S:=[]) (Ef.alloc (zs:=[.bool false,.slice none 0 0,.bool false,.slice none 0 0]) k9 I) fun g4=>(zS<|zc I<|zq (S:=[]) (zn (zbe h1 h2) I ⟨zb _,t9⟩ I)<|zc I<|zq (S:=[]) (zn (zbe h3 h4) I ⟨zb _,t9⟩ I)<|zq (S:=[]) (zn (zai hn hd h0) I ⟨zb _,zb _,t9⟩ I)<|zq (S:=[_]) (zy 0 I I I k9 I<|m9 I)<|ze ?_)));refine zG (fn:=Tryz.f32) (fun _ _ h=>h) (zN I<|zZ 0 I I k9)
theorem con_zero:Con Tryz.prog 86 [] (Yo 0 1):=by
 refine z6 Tryz.func86 k9 I k9 fun base w0=>(zp (SWl.e2 (S:=[]) (Ef.alloc (zs:=[.bool false,.slice none 0 0,.bool false,.slice none 0 0]) k9 I) fun g0=>(zS<|zq (S:=[]) (zn (jv d9 d9) I ⟨zb _,t9⟩ I)<|zq (S:=[]) (zn (jv d9 d9) I ⟨zb _,t9⟩ I)<|za I (yz I I zaq)<|zq (S:=[_]) (zy 0 I I I k9 I<|m9 I)<|ze ?_)));refine zG (fn:=Tryz.f86) (fun _ _ h=>h) (zN I<|zZ 0 I I k9)
end Sx
namespace Sx
theorem con_signQ {n d:Int} (hG:Good n d):Con Tryz.prog 29 [Yo n d] (yZ n.sign):=by
 refine z6 Tryz.func29 k9 I k9 fun base w0=>(zp (SWl.e2 (S:=[]) (yo I I) fun g1=>(zd I<|ze<|zh<|zp<|za I (zx 0 4 I I k9 I zt)<|zq (S:=[]) (zn (Zj hG) I ⟨zb _,t9⟩ I)<|za I (yF I)<|ze<|zJ I I<|zw<|zg<|zp<|za I (zm (n:=0) I k9)<|za I (zx 0 2 I I k9 I zt)<|zq (S:=[]) (zn (YU hG.hn) I ⟨zb _,t9⟩ I)<|zd I<|ze ?_)));refine zG (fn:=Tryz.f29) (fun _ _ h=>h) (zN I<|zo I)
