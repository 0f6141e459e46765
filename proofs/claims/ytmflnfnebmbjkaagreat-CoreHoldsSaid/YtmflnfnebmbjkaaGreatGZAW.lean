/- WHAT IS KNOWN OF RATIOS; the walks of ratio's Valid, Make, Of, Zero, From and of the reference's Valid, Reduce, Of, Same. THE WALKS of ratio's Sign, N -/
import Derived.Test.YtmflnfnebmbjkaaGreatGZAV
set_option maxHeartbeats 8000000
set_option maxRecDepth 100000
namespace Go.Proofs.YtmflnfnebmbjkaaGreat
open Go.RowKit
open Nm (W32)
namespace Sx
abbrev jh (n d:Int):List D:=[isD<|.bool<|decide (n < 0),bytD n.natAbs,isD<|.bool<|decide (d < 0),bytD d.natAbs]
abbrev Yk (n d:Int):D:=Ys (jh n d)
abbrev rratC (s:Bool) (b:LN) (t:Bool) (c:LN):List D:=[isD<|.bool s,rawD b,isD<|.bool t,rawD c]
abbrev rratD (s:Bool) (b:LN) (t:Bool) (c:LN):D:=Ys (rratC s b t c)
theorem YR {n d n' d':Int} (h:n=n') (k:d=d'):Le (Yk n d) (Yk n' d'):=by subst h k;exact zb _
theorem leC_rat0:LeAll [isD<|.bool false,isD<|.slice none 0 0,isD<|.bool false,isD<|.slice none 0 0] (jh 0 0):=by
 have h:Le (isD<|.slice none 0 0) (bytD (0:Int).natAbs):=by
  have:(Nm.dg 256 (0:Int).natAbs).reverse=[]:=by rw [show (0:Int).natAbs=0 from rfl,Nm.dg_zero];rfl
  unfold bytD;rw [this];exact jd
 exact ⟨zb _,h,zb _,h,t9⟩
theorem le_rat0:Le (Ys [isD<|.bool false,isD<|.slice none 0 0,isD<|.bool false,isD<|.slice none 0 0]) (Yk 0 0):=zbm leC_rat0
theorem bldR0:Bld Tryz.prog 43 [] [] [isD<|.bool false,isD<|.slice none 0 0,isD<|.bool false,isD<|.slice none 0 0]:=fun L w vs h=>by
 obtain rfl:=all0 h;exact ⟨[.bool false,.slice none 0 0,.bool false,.slice none 0 0],⟨I,I,I,I,t9⟩,fun w'=>by kernel_rfl⟩
theorem zad {d e f g:D}:Bld Tryz.prog 43 [0,1] [Ys [d,e],Ys [f,g]] [d,e,f,g]:=fun L w vs h=>by
 obtain ⟨u,v,rfl,hu,hv⟩:=VU h;obtain ⟨a,b,rfl,h1,h2⟩:=agg2 hu;obtain ⟨a',b',rfl,h3,h4⟩:=agg2 hv;exact ⟨[a,b,a',b'],⟨h1,h2,h3,h4,t9⟩,fun w'=>by kernel_rfl⟩
def okB (n d:Int):Bool:=decide (0 < d) && decide (Nat.gcd n.natAbs d.natAbs=1)
def toZ (s:Bool) (b:LN):Int:=sgn s (Vi b.reverse)
def V3 (s:Bool) (b:LN) (t:Bool) (c:LN):Bool:=vld s b && (vld t c && okB (toZ s b) (toZ t c))
structure Good (n d:Int):Prop where
 hn:n.natAbs < zE
 hd:d.natAbs < zE
 pos:0 < d
 g:Nat.gcd n.natAbs d.natAbs=1
theorem valL_dg:∀ (n X:Nat),X≤n→Vi (Nm.dg 256 X)=X
 | 0,X,h=>by
  obtain rfl:X=0:=by omega
  rw [Nm.dg_zero];rfl
 | n + 1,X,h=>by
  by_cases h0:X=0
  ·subst h0;rw [Nm.dg_zero];rfl
  ·rw [Nm.dg_pos d9 h0];simp only [Vi];rw [valL_dg n (X / 256) o9];omega
theorem YJ (n:Int):toZ (decide (n < 0)) (Nm.dg 256 n.natAbs).reverse=n:=by
 unfold toZ;rw [List.reverse_reverse,valL_dg _ _<|Js _];unfold sgn
 by_cases h:n < 0
 ·rw [Jo h,Jh rfl];omega
 ·rw [Jd h,Jb d9];omega
theorem zav {n d:Int} (hn:n.natAbs < zE) (hd:d.natAbs < zE):V3 (decide (n < 0)) (Nm.dg 256 n.natAbs).reverse (decide (d < 0)) (Nm.dg 256 d.natAbs).reverse=okB n d:=by
 unfold V3;rw [vld_int hn,vld_int hd,YJ,YJ]
 rfl
theorem Good.ok {n d:Int} (h:Good n d):okB n d=true:=by unfold okB;rw [Jo h.pos,Jo h.g];rfl
theorem Good.rv {n d:Int} (h:Good n d):V3 (decide (n < 0)) (Nm.dg 256 n.natAbs).reverse (decide (d < 0)) (Nm.dg 256 d.natAbs).reverse=true:=by rw [zav h.hn h.hd,h.ok]
theorem Good.d0 {n d:Int} (h:Good n d):d≠0:=by have:=h.pos;omega
theorem rvld_out {s t:Bool} {b c:LN} (hb:∀ d∈b,d < 256) (hc:∀ d∈c,d < 256) (hv:V3 s b t c=true):∃ n d:Int,Good n d∧s=decide (n < 0)∧b=(Nm.dg 256 n.natAbs).reverse∧t=decide (d < 0)∧c=(Nm.dg 256 d.natAbs).reverse:=by
 unfold V3 at hv;simp only [JL] at hv;obtain ⟨h1,h2,h3⟩:=hv;obtain ⟨n,hn,rfl,rfl⟩:=Vh hb h1;obtain ⟨d,hd,rfl,rfl⟩:=Vh hc h2;rw [YJ,YJ] at h3;unfold okB at h3;simp only [JL,Jz] at h3;exact ⟨n,d,⟨hn,hd,h3.1,h3.2⟩,I,I,I,I⟩
structure Byt (b c:LN):Prop where
 l:∀ d∈b,d < 256
 r:∀ d∈c,d < 256
theorem cmpZ_eq0 {x y:Int}:jT x y=0↔x=y:=by
 unfold jT
 by_cases h:x < y
 ·rw [Jh h];omega
 ·rw [Jb h]
  by_cases h2:x=y
  ·rw [Jh h2];simp [h2]
  ·rw [Jb h2];simp [h2]
theorem sign_le {d:Int} (h:¬0 < d):d.sign≤0:=by
 rcases Int.lt_or_eq_of_le (Int.not_lt.1 h) with h | h
 ·rw [Int.sign_eq_neg_one_of_neg h];decide
 ·rw [h];decide
theorem zat {d:Int} (h:0 < d):d.sign=1:=Int.sign_eq_one_of_pos h
theorem rv_1 {s t:Bool} {b c:LN} (h:vld t c=false):Con Tryz.prog 63 [rratD s b t c] (yM false):=by
 refine yb Tryz.func63 k9 I k9 fun base w0=>(zt (SWl.e2 (S:=[]) (yi I I) fun g1=>(zi I<|ze<|zh<|zt<|za I (zj (n:=2) I k9)<|za I (zp 0 2 I I k9 I zm)<|zo (S:=[]) (zn (con_signB h) I ⟨zb _,t9⟩ I)<|za I (YU I I)<|ze<|yj I d9<|zt<|zi I<|ze ?_)));refine zK (fn:=Tryz.f63) (fun _ _ h=>h) (zU I<|zu I)
theorem rv_2 {s:Bool} {b:LN} {d:Int} (hd:d.natAbs < zE) (h:¬0 < d):Con Tryz.prog 63 [Ys<|rintC s b ++ qq d] (yM false):=by
 refine yb Tryz.func63 k9 I k9 fun base w0=>(zt (SWl.e2 (S:=[]) (yi I I) fun g1=>(zi I<|ze<|zh<|zt<|za I (zj (n:=2) I k9)<|za I (zp 0 2 I I k9 I zm)<|zo (S:=[]) (zn (YN hd) I ⟨zb _,t9⟩ I)<|za I (YU I I)<|ze<|yj I (Jo<|sign_le h)<|zt<|zi I<|ze ?_)));refine zK (fn:=Tryz.f63) (fun _ _ h=>h) (zU I<|zu I)
theorem rv_3 {s:Bool} {b:LN} {d:Int} (hv:vld s b=false) (hd:d.natAbs < zE) (h:0 < d):Con Tryz.prog 63 [Ys<|rintC s b ++ qq d] (yM false):=by
 refine yb Tryz.func63 k9 I k9 fun base w0=>(zt (SWl.e2 (S:=[]) (yi I I) fun g1=>(zi I<|ze<|zh<|zt<|za I (zj (n:=2) I k9)<|za I (zp 0 2 I I k9 I zm)<|zo (S:=[]) (zn (KZ hd<|zat h) I ⟨zb _,t9⟩ I)<|za I (YU I I)<|ze<|zB I d9<|zv<|zg<|zt<|za I (zj (n:=0) I k9)<|za I (zp 0 2 I I k9 I zm)<|za I (zj (n:=2) I k9)<|za I (zp 0 2 I I k9 I zm)<|zo (S:=[]) (zn (con_gcdB (by rw [hv,Bool.false_and])) I ⟨zb _,zb _,t9⟩ I)<|zc I<|za I (zf I I)<|za I (zf I I) (SWl.e2 (S:=[]) (Ef.alloc (zs:=[.bool false,.slice none 0 0]) k9 I) fun g3=>(zo (S:=[_]) (zq 1 I I I k9 I<|m9 I)<|zi I<|ze<|zh<|yg [] (rr [0,1,2,3]<|.n 4 (.n 5 (rr [6,7,8] .fin) .no) .no) k9 k9 (fun d _ _ _ _ h=>by cases d <;> exact h)<|zC I I<|zk I I (Zq I I)<|zC I I<|zD I I I d9 I I ?_)))))
 refine jU I I I d9 I I ?_ yz;refine jU I I I d9 I I ?_ yz;refine zD I I I d9 I I (zk I I (zF I d9 I)<|Zd I I<|yO ?_);refine zK (fn:=Tryz.f63) (fun _ _ h=>h) (zU I<|zu I)
theorem rv_4 {n d:Int} (hn:n.natAbs < zE) (hd:d.natAbs < zE) (h:0 < d):Con Tryz.prog 63 [Yk n d] (yM<|decide (Nat.gcd n.natAbs d.natAbs=1)):=by
 have hg:(Wk n d).natAbs < zE:=Nat.lt_of_le_of_lt (gcd_le o9) hd
 refine yb Tryz.func63 k9 I k9 fun base w0=>(zt (SWl.e2 (S:=[]) (yi I I) fun g1=>(zi I<|ze<|zh<|zt<|za I (zj (n:=2) I k9)<|za I (zp 0 2 I I k9 I zm)<|zo (S:=[]) (zn (KZ hd<|zat h) I ⟨zb _,t9⟩ I)<|za I (YU I I)<|ze<|zB I d9<|zv<|zg<|zt<|za I (zj (n:=0) I k9)<|za I (zp 0 2 I I k9 I zm)<|za I (zj (n:=2) I k9)<|za I (zp 0 2 I I k9 I zm)<|zo (S:=[]) (zn (con_gcd hn hd) I ⟨zb _,zb _,t9⟩ I)<|zc I<|za I (zf I I)<|za I (zf I I) (SWl.e2 (S:=[]) (Ef.alloc (zs:=[.bool false,.slice none 0 0]) k9 I) fun g3=>(zo (S:=[_]) (zq 1 I I I k9 I<|m9 I)<|zi I<|ze<|zh<|yg [] (rr [0,1,2,3]<|.n 4 (.n 5 (rr [6,7,8] .fin) .no) .no) k9 k9 (fun d _ _ _ _ h=>by cases d <;> exact h)<|zC I I<|zk I I (Zq I I)<|zC I I<|zz I I I d9 I I (zp 1 2 I I k9 I zm) ?_)))))
 refine Zp I I I d9 I (zn (jr d9 d9) I ⟨zb _,t9⟩ I) ?_ yz;rintro _ rfl;refine Zp I I I d9 I (zn (qv hg zaB) I ⟨zb _,zb _,t9⟩ I) ?_ yz;rintro _ rfl;refine zz I I I d9 I I (Zq I I) (zk I I (zM I d9 I)<|Zd I I<|yO<|zK (fn:=Tryz.f63) (fun _ _ h=>h)<|Rs.le (zU I<|zu I) ?_);exact le_v (JY Value.bool<|JW.2<|cmpZ_eq0.trans (by unfold Wk;omega))
theorem zbM {s t:Bool} {b c:LN} (hB:Byt b c):Con Tryz.prog 63 [rratD s b t c] (yM<|V3 s b t c):=by
 cases h2:vld t c
 ·have e:V3 s b t c=false:=by unfold V3;rw [h2,Bool.false_and,Bool.and_false]
  rw [e];exact rv_1 h2
 ·obtain ⟨d,hd,rfl,rfl⟩:=Vh hB.r h2
  by_cases hp:0 < d
  ·cases h1:vld s b
   ·have e:V3 s b (decide (d < 0)) (Nm.dg 256 d.natAbs).reverse=false:=by unfold V3;rw [h1,Bool.false_and]
    rw [e];exact rv_3 h1 hd hp
   ·obtain ⟨n,hn,rfl,rfl⟩:=Vh hB.l h1;rw [zav hn hd];have h:=rv_4 hn hd hp
    have e:okB n d=decide (Nat.gcd n.natAbs d.natAbs=1):=by unfold okB;rw [Jo hp,Bool.true_and]
    rw [e];exact h
  ·have e:V3 s b (decide (d < 0)) (Nm.dg 256 d.natAbs).reverse=false:=by
    unfold V3 okB;rw [YJ,Jd hp,Bool.false_and,Bool.and_false,Bool.and_false]
   rw [e];exact rv_2 hd hp
theorem Zc {n d:Int} (h:Good n d):Con Tryz.prog 63 [Yk n d] (yM true):=
 (rv_4 h.hn h.hd h.pos).mono ⟨zb _,trivial⟩ (zL (by rw [Jo h.g]))
theorem con_rvalF {s t:Bool} {b c:LN} (hB:Byt b c) (h:V3 s b t c=false):Con Tryz.prog 63 [rratD s b t c] (yM false):=
 (zbM hB).mono ⟨zb _,trivial⟩ (zL (by rw [h]))
def gz (n d:Int):Int:=if d < 0 then -Wk n d else Wk n d
def rn (n d:Int):Int:=dq n (gz n d)
def rd (n d:Int):Int:=dq d (gz n d)
theorem KQ (n d:Int):(gz n d).natAbs=Nat.gcd n.natAbs d.natAbs:=by
 unfold gz
 split
 ·rw [Int.natAbs_neg,W0]
 ·rw [W0]
theorem gz_ne (n:Int) {d:Int} (h:d≠0):gz n d≠0:=fun e=>by
 have h1:=KQ n d;have h2:0 < Nat.gcd n.natAbs d.natAbs:=Nat.gcd_pos_of_pos_right _ o9;rw [e] at h1;simp at h1;omega
theorem gz_le {n d:Int} (h:d≠0):(gz n d).natAbs≤d.natAbs:=by rw [KQ];exact Nat.gcd_le_right _ o9
theorem jN {x:Int}:x.sign=0↔x=0:=Int.sign_eq_zero_iff_zero
theorem dq_one (x:Int):dq x 1=x:=by
 have h1:=dq_dr (y:=1) x d9;have h2:=KW (x:=x) (y:=1) d9
 have h3:dr x 1=0:=by
  have:(1:Int).natAbs=1:=rfl;omega
 omega
theorem Good.gz1 {n d:Int} (h:Good n d):gz n d=1:=by
 have h1:=h.pos;unfold gz Wk;rw [Jb o9,h.g]
 rfl
theorem Good.rn {n d:Int} (h:Good n d):rn n d=n:=by unfold Sx.rn;rw [h.gz1,dq_one]
theorem Good.rd {n d:Int} (h:Good n d):rd n d=d:=by unfold Sx.rd;rw [h.gz1,dq_one]
theorem je {n:Int} (hn:n.natAbs < zE):Good n 1:=⟨hn,zaB,by decide,by simp⟩
theorem rn_abs {n d:Int} (hd:d≠0):(rn n d).natAbs≤n.natAbs:=zaW (gz_ne n hd)
theorem zaw {n d:Int} (hd:d≠0):(rd n d).natAbs≤d.natAbs:=zaW (gz_ne n hd)
theorem qf {n d:Int} (hn:n.natAbs < zE) (hd:d.natAbs < zE) (h0:d≠0):Con Tryz.prog 61 [Zl n,Zl d] (Zz [Yk (rn n d)<|rd n d,yU 0]):=by
 have hg:(Wk n d).natAbs < zE:=Nat.lt_of_le_of_lt (gcd_le h0) hd;have hz0:=gz_ne n h0;have hz5:(gz n d).natAbs < zE:=Nat.lt_of_le_of_lt (gz_le h0) hd;refine yb Tryz.func61 k9 I k9 fun base w0=>(zt (SWl.e2 (S:=[]) (yi I I) fun g2=>(SWl.e2 (S:=[]) (yi I I) fun g3=>(SWl.e2 (S:=[]) (Ef.alloc (zs:=[.bool false,.slice none 0 0,.bool false,.slice none 0 0]) k9 I) fun g4=>(zi I<|ze<|zh<|zt<|za I (zp 0 2 I I k9 I zm)<|zo (S:=[]) (zn (Kg hn) I ⟨zb _,t9⟩ I)<|za I (yG I)<|zc I<|zJ I (zp 1 2 I I k9 I zm)<|Zb (S:=[]) I I I I (zn (YN hd) I ⟨zb _,t9⟩ I) ?_)))));rintro _ rfl;refine zJ I (Zq I I) (za I (zF I I I)<|ze<|zB I (Jd (fun h=>h0<|jN.1 h))<|zv<|zg<|zt<|za I (zp 0 2 I I k9 I zm)<|za I (zp 1 2 I I k9 I zm)<|zo (S:=[]) (zn (con_gcd hn hd) I ⟨zb _,zb _,t9⟩ I)<|zc I<|za I (zf I I)<|za I (zf I I) (SWl.e2 (S:=[]) (Ef.alloc (zs:=[.bool false,.slice none 0 0]) k9 I) fun g6=>(zo (S:=[_]) (zq 3 I I I k9 I<|m9 I)<|zi I<|ze<|zh<|zt<|zc I<|za I (Zq I I)<|zc I<|yN I I d9 I I (zp 1 2 I I k9 I zm)<|Zb (S:=[]) I I d9 I (zn (YN hd) I ⟨zb _,t9⟩ I) ?_)))
 rintro _ rfl;refine yN I I d9 I I (yd I I) (za I (zM I d9 I)<|ze<|zI I (fun hb33=> ?_) (fun hb33=> ?_))
 ·have hneg:d < 0:=Int.sign_neg_iff.1 (oT hb33);have hz: -Wk n d=gz n d:=(by unfold gz;rw [Jh hneg]);refine zd (za I (zp 3 2 I I k9 I zm)<|zo (S:=[]) (zn (con_neg hg) I ⟨zb _,t9⟩ I)<|zc I<|za I (zf I I)<|za I (zf I I)<|zo (S:=[_]) (zq 3 I I I k9 I<|m9 I)<|zi I<|ze<|zh<|zh<|SW.sub (σ':=St.of [(2,pA g2),(3,pA g3),(4,pA g4),(6,pA g6),(7,yU 0)] [(g2,qq<|n),(g3,qq<|d),(g4,[isD<|.bool false,isD<|.slice none 0 0,isD<|.bool false,isD<|.slice none 0 0]),(g6,qq<|gz n d)]) (⟨⟨_,I,(sT I)⟩,[0,1,2,3],by decide,⟨la rfl,⟨la rfl,⟨la rfl,⟨⟨_,rfl,Vv hz⟩,trivial⟩⟩⟩⟩⟩)<|zd<|zc I<|za I (zT I I)<|ze<|zB I d9<|zv<|zg<|zt<|za I (zp 0 2 I I k9 I zm)<|za I (zp 3 2 I I k9 I zm)<|zo (S:=[]) (zn (Z9 hn hz5 hz0) I ⟨zb _,zb _,t9⟩ I)<|zc I<|za I (zf I I)<|za I (zf I I)<|za I (zf I I) (SWl.e2 (S:=[]) (Ef.alloc (zs:=[.bool false,.slice none 0 0]) k9 I) fun g8=>(SWl.e2 (S:=[]) (Ef.alloc (zs:=[.bool false,.slice none 0 0]) k9 I) fun g9=>(zo (S:=[_]) (zq 4 I I I k9 I<|m9 I)<|zo (S:=[_]) (zq 5 I I I k9 I<|m9 I)<|zi I<|ze<|zh<|zh<|SW.sub (σ':=St.of [(3,pA g3),(4,pA g4),(6,pA g6),(8,pA g8),(7,yU 0)] [(g3,qq<|d),(g4,[isD<|.bool false,isD<|.slice none 0 0,isD<|.bool false,isD<|.slice none 0 0]),(g6,qq<|gz n d),(g8,qq<|rn n d)]) (sB [1,2,3,4] I I) ?_))))
  refine zd (zc I<|za I (zT I I)<|ze<|zB I d9<|zv<|zg<|zt<|za I (zp 0 2 I I k9 I zm)<|za I (zp 2 2 I I k9 I zm)<|zo (S:=[]) (zn (Z9 hd hz5 hz0) I ⟨zb _,zb _,t9⟩ I)<|zc I<|za I (zf I I)<|za I (zf I I)<|za I (zf I I) (SWl.e2 (S:=[]) (Ef.alloc (zs:=[.bool false,.slice none 0 0]) k9 I) fun g10=>(SWl.e2 (S:=[]) (Ef.alloc (zs:=[.bool false,.slice none 0 0]) k9 I) fun g11=>(zo (S:=[_]) (zq 4 I I I k9 I<|m9 I)<|zo (S:=[_]) (zq 5 I I I k9 I<|m9 I)<|zi I<|ze<|zh<|zt<|zc I<|za I (zT I I)<|ze<|zB I d9<|zv<|zg<|zt<|za I (zp 3 2 I I k9 I zm)<|za I (zp 4 2 I I k9 I zm)<|za I (yu I I zad)<|zo (S:=[_]) (zq 1 I I I k9 I<|m9 I) ?_))));refine zi I (ze ?_);refine zK (fn:=Tryz.f61) (fun _ _ h=>h) (Rs.two I (zO 1 I I k9)<|zu I)
 ·have hz:Wk n d=gz n d:=(by unfold gz;rw [Jb (fun hneg=>oF hb33<|Int.sign_neg_iff.2 hneg)]);refine zv (zg<|zh<|zh<|SW.sub (σ':=St.of [(2,pA g2),(3,pA g3),(4,pA g4),(6,pA g6),(7,yU 0)] [(g2,qq<|n),(g3,qq<|d),(g4,[isD<|.bool false,isD<|.slice none 0 0,isD<|.bool false,isD<|.slice none 0 0]),(g6,qq<|gz n d)]) (⟨⟨_,I,(sT I)⟩,[0,1,2,3],by decide,⟨la rfl,⟨la rfl,⟨la rfl,⟨⟨_,rfl,Vv hz⟩,trivial⟩⟩⟩⟩⟩)<|zd<|zc I<|za I (zT I I)<|ze<|zB I d9<|zv<|zg<|zt<|za I (zp 0 2 I I k9 I zm)<|za I (zp 3 2 I I k9 I zm)<|zo (S:=[]) (zn (Z9 hn hz5 hz0) I ⟨zb _,zb _,t9⟩ I)<|zc I<|za I (zf I I)<|za I (zf I I)<|za I (zf I I) (SWl.e2 (S:=[]) (Ef.alloc (zs:=[.bool false,.slice none 0 0]) k9 I) fun g8=>(SWl.e2 (S:=[]) (Ef.alloc (zs:=[.bool false,.slice none 0 0]) k9 I) fun g9=>(zo (S:=[_]) (zq 4 I I I k9 I<|m9 I)<|zo (S:=[_]) (zq 5 I I I k9 I<|m9 I)<|zi I<|ze<|zh<|zh<|SW.sub (σ':=St.of [(3,pA g3),(4,pA g4),(6,pA g6),(8,pA g8),(7,yU 0)] [(g3,qq<|d),(g4,[isD<|.bool false,isD<|.slice none 0 0,isD<|.bool false,isD<|.slice none 0 0]),(g6,qq<|gz n d),(g8,qq<|rn n d)]) (sB [1,2,3,4] I I)<|zd<|zc I<|za I (zT I I)<|ze<|zB I d9<|zv<|zg ?_))))
  refine zt (za I (zp 0 2 I I k9 I zm)<|za I (zp 2 2 I I k9 I zm)<|zo (S:=[]) (zn (Z9 hd hz5 hz0) I ⟨zb _,zb _,t9⟩ I)<|zc I<|za I (zf I I)<|za I (zf I I)<|za I (zf I I) (SWl.e2 (S:=[]) (Ef.alloc (zs:=[.bool false,.slice none 0 0]) k9 I) fun g10=>(SWl.e2 (S:=[]) (Ef.alloc (zs:=[.bool false,.slice none 0 0]) k9 I) fun g11=>(zo (S:=[_]) (zq 4 I I I k9 I<|m9 I)<|zo (S:=[_]) (zq 5 I I I k9 I<|m9 I)<|zi I<|ze<|zh<|zt<|zc I<|za I (zT I I)<|ze<|zB I d9<|zv<|zg<|zt<|za I (zp 3 2 I I k9 I zm)<|za I (zp 4 2 I I k9 I zm)<|za I (yu I I zad)<|zo (S:=[_]) (zq 1 I I I k9 I<|m9 I)<|zi I<|ze ?_))));refine zK (fn:=Tryz.f61) (fun _ _ h=>h) (Rs.two I (zO 1 I I k9)<|zu I)
theorem W8 {n d:Int} (hn:n.natAbs < zE) (hd:d.natAbs < zE) (h0:d≠0):Con Tryz.prog 68 [Zl n,Zl d] (Yk (rn n d)<|rd n d):=by
 have hg:(Wk n d).natAbs < zE:=Nat.lt_of_le_of_lt (gcd_le h0) hd;have hz0:=gz_ne n h0;have hz5:(gz n d).natAbs < b2:=zbd (Nat.lt_of_le_of_lt (gz_le h0) hd);have hn2:=zbd hn;have hd2:=zbd hd;refine yb Tryz.func68 k9 I k9 fun base w0=>(zt (SWl.e2 (S:=[]) (yi I I) fun g2=>(SWl.e2 (S:=[]) (yi I I) fun g3=>(SWl.e2 (S:=[]) (Ef.alloc (zs:=[.bool false,.slice none 0 0,.bool false,.slice none 0 0]) k9 I) fun g4=>(zP<|za I (zp 0 2 I I k9 I zm)<|za I (zp 1 2 I I k9 I zm)<|zo (S:=[]) (zn (zab hn2 hd2) I ⟨zb _,zb _,t9⟩ I) (SWl.e2 (S:=[]) (Ef.alloc (zs:=[.bool false,.slice none 0 0]) k9 I) fun g5=>(zo (S:=[_]) (zq 3 I I I k9 I<|m9 I)<|ze<|zh<|zt<|za I (zj (n:=0) I k9)<|za I (zx 1 I I I k9 zm)<|ze<|zI I (fun hb14=> ?_) (fun hb14=> ?_))))))))
 ·have hz: -Wk n d=gz n d:=(by unfold gz;rw [Jh<|oT hb14]);refine zd (za I (zp 3 2 I I k9 I zm)<|zo (S:=[]) (zn (con_negR<|b4_512 hg) I ⟨zb _,t9⟩ I)<|zo (S:=[_]) (zq 3 I I I k9 I<|m9 I)<|ze<|zh<|SW.sub (σ':=St.of [(2,pA g2),(3,pA g3),(4,pA g4),(5,pA g5)] [(g2,qq<|n),(g3,qq<|d),(g4,[isD<|.bool false,isD<|.slice none 0 0,isD<|.bool false,isD<|.slice none 0 0]),(g5,qq<|gz n d)]) (⟨⟨_,I,(sT I)⟩,[0,1,2,3],by decide,⟨la rfl,⟨la rfl,⟨la rfl,⟨⟨_,rfl,Vv hz⟩,trivial⟩⟩⟩⟩⟩)<|zd<|za I (zp 0 2 I I k9 I zm)<|za I (zp 3 2 I I k9 I zm)<|zo (S:=[]) (zn (YP hn2 hz5 hz0) I ⟨zb _,zb _,t9⟩ I)<|zc I<|za I (zf I I)<|za I (zf I I) (SWl.e2 (S:=[]) (Ef.alloc (zs:=[.bool false,.slice none 0 0]) k9 I) fun g6=>(SWl.e2 (S:=[]) (Ef.alloc (zs:=[.bool false,.slice none 0 0]) k9 I) fun g7=>(zo (S:=[_]) (zq 4 I I I k9 I<|m9 I)<|zo (S:=[_]) (zq 5 I I I k9 I<|m9 I)<|zP<|za I (zp 1 2 I I k9 I zm)<|za I (zp 3 2 I I k9 I zm)<|zo (S:=[]) (zn (YP hd2 hz5 hz0) I ⟨zb _,zb _,t9⟩ I)<|zc I<|za I (zf I I)<|za I (zf I I) (SWl.e2 (S:=[]) (Ef.alloc (zs:=[.bool false,.slice none 0 0]) k9 I) fun g8=>(SWl.e2 (S:=[]) (Ef.alloc (zs:=[.bool false,.slice none 0 0]) k9 I) fun g9=>(zo (S:=[_]) (zq 6 I I I k9 I<|m9 I)<|zo (S:=[_]) (zq 7 I I I k9 I<|m9 I)<|zP<|za I (zp 4 2 I I k9 I zm)<|za I (zp 6 2 I I k9 I zm)<|za I (yu I I zad) ?_)))))))
  refine zo (S:=[_]) (zq 2 I I I k9 I<|m9 I) (ze ?_);refine zK (fn:=Tryz.f68) (fun _ _ h=>h) (zU I<|zO 2 I I k9)
 ·have hz:Wk n d=gz n d:=(by unfold gz;rw [Jb<|oF hb14]);refine zv (zg<|zh<|SW.sub (σ':=St.of [(2,pA g2),(3,pA g3),(4,pA g4),(5,pA g5)] [(g2,qq<|n),(g3,qq<|d),(g4,[isD<|.bool false,isD<|.slice none 0 0,isD<|.bool false,isD<|.slice none 0 0]),(g5,qq<|gz n d)]) (⟨⟨_,I,(sT I)⟩,[0,1,2,3],by decide,⟨la rfl,⟨la rfl,⟨la rfl,⟨⟨_,rfl,Vv hz⟩,trivial⟩⟩⟩⟩⟩)<|zd<|za I (zp 0 2 I I k9 I zm)<|za I (zp 3 2 I I k9 I zm)<|zo (S:=[]) (zn (YP hn2 hz5 hz0) I ⟨zb _,zb _,t9⟩ I)<|zc I<|za I (zf I I)<|za I (zf I I) (SWl.e2 (S:=[]) (Ef.alloc (zs:=[.bool false,.slice none 0 0]) k9 I) fun g6=>(SWl.e2 (S:=[]) (Ef.alloc (zs:=[.bool false,.slice none 0 0]) k9 I) fun g7=>(zo (S:=[_]) (zq 4 I I I k9 I<|m9 I)<|zo (S:=[_]) (zq 5 I I I k9 I<|m9 I)<|zP<|za I (zp 1 2 I I k9 I zm)<|za I (zp 3 2 I I k9 I zm)<|zo (S:=[]) (zn (YP hd2 hz5 hz0) I ⟨zb _,zb _,t9⟩ I)<|zc I<|za I (zf I I)<|za I (zf I I) (SWl.e2 (S:=[]) (Ef.alloc (zs:=[.bool false,.slice none 0 0]) k9 I) fun g8=>(SWl.e2 (S:=[]) (Ef.alloc (zs:=[.bool false,.slice none 0 0]) k9 I) fun g9=>(zo (S:=[_]) (zq 6 I I I k9 I<|m9 I)<|zo (S:=[_]) (zq 7 I I I k9 I<|m9 I)<|zP<|za I (zp 4 2 I I k9 I zm)<|za I (zp 6 2 I I k9 I zm)<|za I (yu I I zad)<|zo (S:=[_]) (zq 2 I I I k9 I<|m9 I)<|ze ?_)))))))
  refine zK (fn:=Tryz.f68) (fun _ _ h=>h) (zU I<|zO 2 I I k9)
theorem K5 {n d n2 d2:Int} (h1:n=n2) (h2:d=d2):Con Tryz.prog 22 [Yk n d,Yk n2 d2] (yM true):=by
 refine yb Tryz.func22 k9 I k9 fun base w0=>(zt (SWl.e2 (S:=[]) (yi I I) fun g2=>(SWl.e2 (S:=[]) (yi I I) fun g3=>(zi I<|zP<|za I (zj (n:=0) I k9)<|za I (zp 0 2 I I k9 I zm)<|za I (zj (n:=0) I k9)<|za I (zp 1 2 I I k9 I zm)<|zo (S:=[]) (zn (Wt (by first | rfl | assumption)) I ⟨zb _,zb _,t9⟩ I)<|zc I<|zJ I (zj (n:=2) I k9)<|zJ I (zp 0 2 I I k9 I zm)<|zJ I (zj (n:=2) I k9)<|zJ I (zp 1 2 I I k9 I zm)<|Zb (S:=[]) I I I I (zn (Wt (by first | rfl | assumption)) I ⟨zb _,zb _,t9⟩ I) ?_))))
 rintro _ rfl;refine za I (zM I I I) (zi I<|ze ?_);refine zK (fn:=Tryz.f22) (fun _ _ h=>h) (zU I<|zu I)
theorem Vy {n:Int} (h1: -9223372036854775808≤n) (h2:n≤9223372036854775807):n.natAbs < zE:=by
 have h:n.natAbs < 256 ^ 9:=by omega
 exact Ju h (by unfold zE;exact Nat.pow_le_pow_right d9 d9)
theorem con_ofQ {n d:Int} (h1: -9223372036854775808≤n) (h2:n≤9223372036854775807) (h3: -9223372036854775808≤d) (h4:d≤9223372036854775807) (h0:d≠0):Con Tryz.prog 27 [yU n,yU d] (Zz [Yk (rn n d)<|rd n d,yU 0]):=by
 have hn:=Vy h1 h2;have hd:=Vy h3 h4;refine yb Tryz.func27 k9 I k9 fun base w0=>(zt (SWl.e2 (S:=[]) (Ef.alloc (zs:=[.bool false,.slice none 0 0,.bool false,.slice none 0 0]) k9 I) fun g4=>(zi I<|zP<|zc I<|zo (S:=[]) (zn (jr h1 h2) I ⟨zb _,t9⟩ I)<|zc I<|zo (S:=[]) (zn (jr h3 h4) I ⟨zb _,t9⟩ I)<|zo (S:=[]) (zn (qf hn hd h0) I ⟨zb _,zb _,t9⟩ I)<|za I (zf I I)<|za I (zf I I)<|zo (S:=[_]) (zq 0 I I I k9 I<|m9 I)<|zi I<|ze ?_)));refine zK (fn:=Tryz.f27) (fun _ _ h=>h) (Rs.two I (zO 0 I I k9)<|zu I)
theorem za3 {n d:Int} (h1: -9223372036854775808≤n) (h2:n≤9223372036854775807) (h3: -9223372036854775808≤d) (h4:d≤9223372036854775807) (h0:d≠0):Con Tryz.prog 32 [yU n,yU d] (Yk (rn n d)<|rd n d):=by
 have hn:=Vy h1 h2;have hd:=Vy h3 h4;refine yb Tryz.func32 k9 I k9 fun base w0=>(zt (SWl.e2 (S:=[]) (Ef.alloc (zs:=[.bool false,.slice none 0 0,.bool false,.slice none 0 0]) k9 I) fun g4=>(zP<|zc I<|zo (S:=[]) (zn (za1 h1 h2) I ⟨zb _,t9⟩ I)<|zc I<|zo (S:=[]) (zn (za1 h3 h4) I ⟨zb _,t9⟩ I)<|zo (S:=[]) (zn (W8 hn hd h0) I ⟨zb _,zb _,t9⟩ I)<|zo (S:=[_]) (zq 0 I I I k9 I<|m9 I)<|ze ?_)));refine zK (fn:=Tryz.f32) (fun _ _ h=>h) (zU I<|zO 0 I I k9)
theorem con_zero:Con Tryz.prog 86 [] (Yk 0 1):=by
 refine yb Tryz.func86 k9 I k9 fun base w0=>(zt (SWl.e2 (S:=[]) (Ef.alloc (zs:=[.bool false,.slice none 0 0,.bool false,.slice none 0 0]) k9 I) fun g0=>(zP<|zo (S:=[]) (zn (jr d9 d9) I ⟨zb _,t9⟩ I)<|zo (S:=[]) (zn (jr d9 d9) I ⟨zb _,t9⟩ I)<|za I (yu I I zad)<|zo (S:=[_]) (zq 0 I I I k9 I<|m9 I)<|ze ?_)));refine zK (fn:=Tryz.f86) (fun _ _ h=>h) (zU I<|zO 0 I I k9)
end Sx
namespace Sx
theorem Ws {n d:Int} (hG:Good n d):Con Tryz.prog 29 [Yk n d] (yU n.sign):=by
 refine yb Tryz.func29 k9 I k9 fun base w0=>(zt (SWl.e2 (S:=[]) (yi I I) fun g1=>(zi I<|ze<|zh<|zt<|za I (zp 0 4 I I k9 I zm)<|zo (S:=[]) (zn (Zc hG) I ⟨zb _,t9⟩ I)<|za I (yG I)<|ze<|zB I I<|zv<|zg<|zt<|za I (zj (n:=0) I k9)<|za I (zp 0 2 I I k9 I zm)<|zo (S:=[]) (zn (YN hG.hn) I ⟨zb _,t9⟩ I)<|zi I<|ze ?_)));refine zK (fn:=Tryz.f29) (fun _ _ h=>h) (zU I<|zu I)
