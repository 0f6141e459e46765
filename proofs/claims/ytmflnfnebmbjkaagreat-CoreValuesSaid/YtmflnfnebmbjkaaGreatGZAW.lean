/- WHAT IS KNOWN OF RATIOS; the walks of ratio's Valid, Make, Of, Zero, From and of the reference's Valid, Reduce, Of, Same. THE WALKS of ratio's Sign, N -/
import Derived.Test.YtmflnfnebmbjkaaGreatGZAV
set_option maxHeartbeats 8000000
set_option maxRecDepth 100000
namespace Go.Proofs.YtmflnfnebmbjkaaGreat
open Go.RowKit
open Nm (W32)
namespace Sx
abbrev jz (n d:Int):List D:=[isD<|.bool<|decide (n < 0),bytD n.natAbs,isD<|.bool<|decide (d < 0),bytD d.natAbs]
abbrev Ya (n d:Int):D:=Yq (jz n d)
abbrev rratC (s:Bool) (b:LN) (t:Bool) (c:LN):List D:=[isD<|.bool s,rawD b,isD<|.bool t,rawD c]
abbrev rratD (s:Bool) (b:LN) (t:Bool) (c:LN):D:=Yq (rratC s b t c)
theorem YL {n d n' d':Int} (h:n=n') (k:d=d'):Le (Ya n d) (Ya n' d'):=by subst h k;exact zc _
theorem leC_rat0:LeAll [isD<|.bool false,isD<|.slice none 0 0,isD<|.bool false,isD<|.slice none 0 0] (jz 0 0):=by
 have h:Le (isD<|.slice none 0 0) (bytD (0:Int).natAbs):=by
  have:(Nm.dg 256 (0:Int).natAbs).reverse=[]:=by rw [show (0:Int).natAbs=0 from rfl,Nm.dg_zero];rfl
  unfold bytD;rw [this];exact qX
 exact ⟨zc _,h,zc _,h,t9⟩
theorem le_rat0:Le (Yq [isD<|.bool false,isD<|.slice none 0 0,isD<|.bool false,isD<|.slice none 0 0]) (Ya 0 0):=Le.agg leC_rat0
theorem bldR0:Bld Tryz.prog 43 [] [] [isD<|.bool false,isD<|.slice none 0 0,isD<|.bool false,isD<|.slice none 0 0]:=fun L w vs h=>by
 obtain rfl:=all0 h;exact ⟨[.bool false,.slice none 0 0,.bool false,.slice none 0 0],⟨I,I,I,I,t9⟩,fun w'=>by kernel_rfl⟩
theorem W5 {d e f g:D}:Bld Tryz.prog 43 [0,1] [Yq [d,e],Yq [f,g]] [d,e,f,g]:=fun L w vs h=>by
 obtain ⟨u,v,rfl,hu,hv⟩:=VL h;obtain ⟨a,b,rfl,h1,h2⟩:=agg2 hu;obtain ⟨a',b',rfl,h3,h4⟩:=agg2 hv;exact ⟨[a,b,a',b'],⟨h1,h2,h3,h4,t9⟩,fun w'=>by kernel_rfl⟩
def okB (n d:Int):Bool:=decide (0 < d) && decide (Nat.gcd n.natAbs d.natAbs=1)
def toZ (s:Bool) (b:LN):Int:=sgn s (Vc b.reverse)
def VS (s:Bool) (b:LN) (t:Bool) (c:LN):Bool:=vld s b && (vld t c && okB (toZ s b) (toZ t c))
structure Good (n d:Int):Prop where
 hn:n.natAbs < zJ
 hd:d.natAbs < zJ
 pos:0 < d
 g:Nat.gcd n.natAbs d.natAbs=1
theorem valL_dg:∀ (n X:Nat),X≤n→Vc (Nm.dg 256 X)=X
 | 0,X,h=>by
  obtain rfl:X=0:=by omega
  rw [Nm.dg_zero];rfl
 | n + 1,X,h=>by
  by_cases h0:X=0
  ·subst h0;rw [Nm.dg_zero];rfl
  ·rw [Nm.dg_pos d9 h0];simp only [Vc];rw [valL_dg n (X / 256) o9];omega
theorem YC (n:Int):toZ (decide (n < 0)) (Nm.dg 256 n.natAbs).reverse=n:=by
 unfold toZ;rw [List.reverse_reverse,valL_dg _ _<|Js _];unfold sgn
 by_cases h:n < 0
 ·rw [Jo h,Jh rfl];omega
 ·rw [Jd h,Jb d9];omega
theorem zan {n d:Int} (hn:n.natAbs < zJ) (hd:d.natAbs < zJ):VS (decide (n < 0)) (Nm.dg 256 n.natAbs).reverse (decide (d < 0)) (Nm.dg 256 d.natAbs).reverse=okB n d:=by
 unfold VS;rw [vld_int hn,vld_int hd,YC,YC]
 rfl
theorem Good.ok {n d:Int} (h:Good n d):okB n d=true:=by unfold okB;rw [Jo h.pos,Jo h.g];rfl
theorem Good.rv {n d:Int} (h:Good n d):VS (decide (n < 0)) (Nm.dg 256 n.natAbs).reverse (decide (d < 0)) (Nm.dg 256 d.natAbs).reverse=true:=by rw [zan h.hn h.hd,h.ok]
theorem Good.d0 {n d:Int} (h:Good n d):d≠0:=by have:=h.pos;omega
theorem rvld_out {s t:Bool} {b c:LN} (hb:∀ d∈b,d < 256) (hc:∀ d∈c,d < 256) (hv:VS s b t c=true):∃ n d:Int,Good n d∧s=decide (n < 0)∧b=(Nm.dg 256 n.natAbs).reverse∧t=decide (d < 0)∧c=(Nm.dg 256 d.natAbs).reverse:=by
 unfold VS at hv;simp only [JL] at hv;obtain ⟨h1,h2,h3⟩:=hv;obtain ⟨n,hn,rfl,rfl⟩:=Vb hb h1;obtain ⟨d,hd,rfl,rfl⟩:=Vb hc h2;rw [YC,YC] at h3;unfold okB at h3;simp only [JL,Jz] at h3;exact ⟨n,d,⟨hn,hd,h3.1,h3.2⟩,I,I,I,I⟩
structure Byt (b c:LN):Prop where
 l:∀ d∈b,d < 256
 r:∀ d∈c,d < 256
theorem cmpZ_eq0 {x y:Int}:jN x y=0↔x=y:=by
 unfold jN
 by_cases h:x < y
 ·rw [Jh h];omega
 ·rw [Jb h]
  by_cases h2:x=y
  ·rw [Jh h2];simp [h2]
  ·rw [Jb h2];simp [h2]
theorem sign_le {d:Int} (h:¬0 < d):d.sign≤0:=by
 rcases Int.lt_or_eq_of_le (Int.not_lt.1 h) with h | h
 ·rw [Int.sign_eq_neg_one_of_neg h];decide
 ·rw [h];decide
theorem zal {d:Int} (h:0 < d):d.sign=1:=Int.sign_eq_one_of_pos h
theorem rv_1 {s t:Bool} {b c:LN} (h:vld t c=false):Con Tryz.prog 63 [rratD s b t c] (yG false):=by
 refine z6 Tryz.func63 k9 I k9 fun base w0=>(zo (SWl.e2 (S:=[]) (yj I I) fun g1=>(ze I<|zd<|zi<|zo<|za I (zj (n:=2) I k9)<|za I (zu 0 2 I I k9 I zm)<|zn (S:=[]) (zp (con_signB h) I ⟨zc _,t9⟩ I)<|za I (Zw I I)<|zd<|yg I d9<|zo<|ze I<|zd ?_)));refine zF (fn:=Tryz.f63) (fun _ _ h=>h) (zO I<|zq I)
theorem rv_2 {s:Bool} {b:LN} {d:Int} (hd:d.natAbs < zJ) (h:¬0 < d):Con Tryz.prog 63 [Yq<|rintC s b ++ qf d] (yG false):=by
 refine z6 Tryz.func63 k9 I k9 fun base w0=>(zo (SWl.e2 (S:=[]) (yj I I) fun g1=>(ze I<|zd<|zi<|zo<|za I (zj (n:=2) I k9)<|za I (zu 0 2 I I k9 I zm)<|zn (S:=[]) (zp (YG hd) I ⟨zc _,t9⟩ I)<|za I (Zw I I)<|zd<|yg I (Jo<|sign_le h)<|zo<|ze I<|zd ?_)));refine zF (fn:=Tryz.f63) (fun _ _ h=>h) (zO I<|zq I)
theorem rv_3 {s:Bool} {b:LN} {d:Int} (hv:vld s b=false) (hd:d.natAbs < zJ) (h:0 < d):Con Tryz.prog 63 [Yq<|rintC s b ++ qf d] (yG false):=by
 refine z6 Tryz.func63 k9 I k9 fun base w0=>(zo (SWl.e2 (S:=[]) (yj I I) fun g1=>(ze I<|zd<|zi<|zo<|za I (zj (n:=2) I k9)<|za I (zu 0 2 I I k9 I zm)<|zn (S:=[]) (zp (KV hd<|zal h) I ⟨zc _,t9⟩ I)<|za I (Zw I I)<|zd<|zH I d9<|zv<|zh<|zo<|za I (zj (n:=0) I k9)<|za I (zu 0 2 I I k9 I zm)<|za I (zj (n:=2) I k9)<|za I (zu 0 2 I I k9 I zm)<|zn (S:=[]) (zp (con_gcdB (by rw [hv,Bool.false_and])) I ⟨zc _,zc _,t9⟩ I)<|zb I<|za I (zg I I)<|za I (zg I I) (SWl.e2 (S:=[]) (Ef.alloc (zs:=[.bool false,.slice none 0 0]) k9 I) fun g3=>(zn (S:=[_]) (zw 1 I I I k9 I<|m9 I)<|ze I<|zd<|zi<|yf [] (rr [0,1,2,3]<|.n 4 (.n 5 (rr [6,7,8] .fin) .no) .no) k9 k9 (fun d _ _ _ _ h=>by cases d <;> exact h)<|zz I I<|zl I I (yL I I)<|zz I I<|zf I I I d9 I I ?_)))))
 refine jO I I I d9 I I ?_ y4;refine jO I I I d9 I I ?_ y4;refine zf I I I d9 I I (zl I I (zI I d9 I)<|yQ I I<|ym ?_);refine zF (fn:=Tryz.f63) (fun _ _ h=>h) (zO I<|zq I)
theorem rv_4 {n d:Int} (hn:n.natAbs < zJ) (hd:d.natAbs < zJ) (h:0 < d):Con Tryz.prog 63 [Ya n d] (yG<|decide (Nat.gcd n.natAbs d.natAbs=1)):=by
 have hg:(V8 n d).natAbs < zJ:=Nat.lt_of_le_of_lt (gcd_le o9) hd
 refine z6 Tryz.func63 k9 I k9 fun base w0=>(zo (SWl.e2 (S:=[]) (yj I I) fun g1=>(ze I<|zd<|zi<|zo<|za I (zj (n:=2) I k9)<|za I (zu 0 2 I I k9 I zm)<|zn (S:=[]) (zp (KV hd<|zal h) I ⟨zc _,t9⟩ I)<|za I (Zw I I)<|zd<|zH I d9<|zv<|zh<|zo<|za I (zj (n:=0) I k9)<|za I (zu 0 2 I I k9 I zm)<|za I (zj (n:=2) I k9)<|za I (zu 0 2 I I k9 I zm)<|zn (S:=[]) (zp (con_gcd hn hd) I ⟨zc _,zc _,t9⟩ I)<|zb I<|za I (zg I I)<|za I (zg I I) (SWl.e2 (S:=[]) (Ef.alloc (zs:=[.bool false,.slice none 0 0]) k9 I) fun g3=>(zn (S:=[_]) (zw 1 I I I k9 I<|m9 I)<|ze I<|zd<|zi<|yf [] (rr [0,1,2,3]<|.n 4 (.n 5 (rr [6,7,8] .fin) .no) .no) k9 k9 (fun d _ _ _ _ h=>by cases d <;> exact h)<|zz I I<|zl I I (yL I I)<|zz I I<|zt I I I d9 I I (zu 1 2 I I k9 I zm) ?_)))))
 refine ZB I I I d9 I (zp (jf d9 d9) I ⟨zc _,t9⟩ I) ?_ y4;rintro _ rfl;refine ZB I I I d9 I (zp (ql hg zas) I ⟨zc _,zc _,t9⟩ I) ?_ y4;rintro _ rfl;refine zt I I I d9 I I (yL I I) (zl I I (zB I d9 I)<|yQ I I<|ym<|zF (fn:=Tryz.f63) (fun _ _ h=>h)<|Rs.le (zO I<|zq I) ?_);exact le_v (JY Value.bool<|JW.2<|cmpZ_eq0.trans (by unfold V8;omega))
theorem zbA {s t:Bool} {b c:LN} (hB:Byt b c):Con Tryz.prog 63 [rratD s b t c] (yG<|VS s b t c):=by
 cases h2:vld t c
 ·have e:VS s b t c=false:=by unfold VS;rw [h2,Bool.false_and,Bool.and_false]
  rw [e];exact rv_1 h2
 ·obtain ⟨d,hd,rfl,rfl⟩:=Vb hB.r h2
  by_cases hp:0 < d
  ·cases h1:vld s b
   ·have e:VS s b (decide (d < 0)) (Nm.dg 256 d.natAbs).reverse=false:=by unfold VS;rw [h1,Bool.false_and]
    rw [e];exact rv_3 h1 hd hp
   ·obtain ⟨n,hn,rfl,rfl⟩:=Vb hB.l h1;rw [zan hn hd];have h:=rv_4 hn hd hp
    have e:okB n d=decide (Nat.gcd n.natAbs d.natAbs=1):=by unfold okB;rw [Jo hp,Bool.true_and]
    rw [e];exact h
  ·have e:VS s b (decide (d < 0)) (Nm.dg 256 d.natAbs).reverse=false:=by
    unfold VS okB;rw [YC,Jd hp,Bool.false_and,Bool.and_false,Bool.and_false]
   rw [e];exact rv_2 hd hp
theorem Zb {n d:Int} (h:Good n d):Con Tryz.prog 63 [Ya n d] (yG true):=
 (rv_4 h.hn h.hd h.pos).mono ⟨zc _,trivial⟩ (zG (by rw [Jo h.g]))
theorem con_rvalF {s t:Bool} {b c:LN} (hB:Byt b c) (h:VS s b t c=false):Con Tryz.prog 63 [rratD s b t c] (yG false):=
 (zbA hB).mono ⟨zc _,trivial⟩ (zG (by rw [h]))
def gz (n d:Int):Int:=if d < 0 then -V8 n d else V8 n d
def rn (n d:Int):Int:=dq n (gz n d)
def rd (n d:Int):Int:=dq d (gz n d)
theorem KN (n d:Int):(gz n d).natAbs=Nat.gcd n.natAbs d.natAbs:=by
 unfold gz
 split
 ·rw [Int.natAbs_neg,WQ]
 ·rw [WQ]
theorem gz_ne (n:Int) {d:Int} (h:d≠0):gz n d≠0:=fun e=>by
 have h1:=KN n d;have h2:0 < Nat.gcd n.natAbs d.natAbs:=Nat.gcd_pos_of_pos_right _ o9;rw [e] at h1;simp at h1;omega
theorem gz_le {n d:Int} (h:d≠0):(gz n d).natAbs≤d.natAbs:=by rw [KN];exact Nat.gcd_le_right _ o9
theorem jI {x:Int}:x.sign=0↔x=0:=Int.sign_eq_zero_iff_zero
theorem dq_one (x:Int):dq x 1=x:=by
 have h1:=dq_dr (y:=1) x d9;have h2:=KT (x:=x) (y:=1) d9
 have h3:dr x 1=0:=by
  have:(1:Int).natAbs=1:=rfl;omega
 omega
theorem Good.gz1 {n d:Int} (h:Good n d):gz n d=1:=by
 have h1:=h.pos;unfold gz V8;rw [Jb o9,h.g]
 rfl
theorem Good.rn {n d:Int} (h:Good n d):rn n d=n:=by unfold Sx.rn;rw [h.gz1,dq_one]
theorem Good.rd {n d:Int} (h:Good n d):rd n d=d:=by unfold Sx.rd;rw [h.gz1,dq_one]
theorem qY {n:Int} (hn:n.natAbs < zJ):Good n 1:=⟨hn,zas,by decide,by simp⟩
theorem rn_abs {n d:Int} (hd:d≠0):(rn n d).natAbs≤n.natAbs:=zaM (gz_ne n hd)
theorem rd_abs {n d:Int} (hd:d≠0):(rd n d).natAbs≤d.natAbs:=zaM (gz_ne n hd)
theorem Y7 {n d:Int} (hn:n.natAbs < zJ) (hd:d.natAbs < zJ) (h0:d≠0):Con Tryz.prog 61 [Zj n,Zj d] (Zu [Ya (rn n d)<|rd n d,yU 0]):=by
 have hg:(V8 n d).natAbs < zJ:=Nat.lt_of_le_of_lt (gcd_le h0) hd;have hz0:=gz_ne n h0;have hz5:(gz n d).natAbs < zJ:=Nat.lt_of_le_of_lt (gz_le h0) hd;refine z6 Tryz.func61 k9 I k9 fun base w0=>(zo (SWl.e2 (S:=[]) (yj I I) fun g2=>(SWl.e2 (S:=[]) (yj I I) fun g3=>(SWl.e2 (S:=[]) (Ef.alloc (zs:=[.bool false,.slice none 0 0,.bool false,.slice none 0 0]) k9 I) fun g4=>(ze I<|zd<|zi<|zo<|za I (zu 0 2 I I k9 I zm)<|zn (S:=[]) (zp (Kc hn) I ⟨zc _,t9⟩ I)<|za I (yF I)<|zb I<|zQ I (zu 1 2 I I k9 I zm)<|Zp (S:=[]) I I I I (zp (YG hd) I ⟨zc _,t9⟩ I) ?_)))));rintro _ rfl;refine zQ I (yL I I) (za I (zI I I I)<|zd<|zH I (Jd (fun h=>h0<|jI.1 h))<|zv<|zh<|zo<|za I (zu 0 2 I I k9 I zm)<|za I (zu 1 2 I I k9 I zm)<|zn (S:=[]) (zp (con_gcd hn hd) I ⟨zc _,zc _,t9⟩ I)<|zb I<|za I (zg I I)<|za I (zg I I) (SWl.e2 (S:=[]) (Ef.alloc (zs:=[.bool false,.slice none 0 0]) k9 I) fun g6=>(zn (S:=[_]) (zw 3 I I I k9 I<|m9 I)<|ze I<|zd<|zi<|zo<|zb I<|za I (yL I I)<|zb I<|YI I I d9 I I (zu 1 2 I I k9 I zm)<|Zp (S:=[]) I I d9 I (zp (YG hd) I ⟨zc _,t9⟩ I) ?_)))
 rintro _ rfl;refine YI I I d9 I I (yb I I) (za I (zB I d9 I)<|zd<|zD I (fun hb33=> ?_) (fun hb33=> ?_))
 ·have hneg:d < 0:=Int.sign_neg_iff.1 (oT hb33);have hz: -V8 n d=gz n d:=(by unfold gz;rw [Jh hneg]);refine zk (za I (zu 3 2 I I k9 I zm)<|zn (S:=[]) (zp (con_neg hg) I ⟨zc _,t9⟩ I)<|zb I<|za I (zg I I)<|za I (zg I I)<|zn (S:=[_]) (zw 3 I I I k9 I<|m9 I)<|ze I<|zd<|zi<|zi<|SW.sub (σ':=St.of [(2,pA g2),(3,pA g3),(4,pA g4),(6,pA g6),(7,yU 0)] [(g2,qf<|n),(g3,qf<|d),(g4,[isD<|.bool false,isD<|.slice none 0 0,isD<|.bool false,isD<|.slice none 0 0]),(g6,qf<|gz n d)]) (⟨⟨_,I,(sT I)⟩,[0,1,2,3],by decide,⟨la rfl,⟨la rfl,⟨la rfl,⟨⟨_,rfl,Vp hz⟩,trivial⟩⟩⟩⟩⟩)<|zk<|zb I<|za I (yn I I)<|zd<|zH I d9<|zv<|zh<|zo<|za I (zu 0 2 I I k9 I zm)<|za I (zu 3 2 I I k9 I zm)<|zn (S:=[]) (zp (Z0 hn hz5 hz0) I ⟨zc _,zc _,t9⟩ I)<|zb I<|za I (zg I I)<|za I (zg I I)<|za I (zg I I) (SWl.e2 (S:=[]) (Ef.alloc (zs:=[.bool false,.slice none 0 0]) k9 I) fun g8=>(SWl.e2 (S:=[]) (Ef.alloc (zs:=[.bool false,.slice none 0 0]) k9 I) fun g9=>(zn (S:=[_]) (zw 4 I I I k9 I<|m9 I)<|zn (S:=[_]) (zw 5 I I I k9 I<|m9 I)<|ze I<|zd<|zi<|zi<|SW.sub (σ':=St.of [(3,pA g3),(4,pA g4),(6,pA g6),(8,pA g8),(7,yU 0)] [(g3,qf<|d),(g4,[isD<|.bool false,isD<|.slice none 0 0,isD<|.bool false,isD<|.slice none 0 0]),(g6,qf<|gz n d),(g8,qf<|rn n d)]) (sB [1,2,3,4] I I) ?_))))
  refine zk (zb I<|za I (yn I I)<|zd<|zH I d9<|zv<|zh<|zo<|za I (zu 0 2 I I k9 I zm)<|za I (zu 2 2 I I k9 I zm)<|zn (S:=[]) (zp (Z0 hd hz5 hz0) I ⟨zc _,zc _,t9⟩ I)<|zb I<|za I (zg I I)<|za I (zg I I)<|za I (zg I I) (SWl.e2 (S:=[]) (Ef.alloc (zs:=[.bool false,.slice none 0 0]) k9 I) fun g10=>(SWl.e2 (S:=[]) (Ef.alloc (zs:=[.bool false,.slice none 0 0]) k9 I) fun g11=>(zn (S:=[_]) (zw 4 I I I k9 I<|m9 I)<|zn (S:=[_]) (zw 5 I I I k9 I<|m9 I)<|ze I<|zd<|zi<|zo<|zb I<|za I (yn I I)<|zd<|zH I d9<|zv<|zh<|zo<|za I (zu 3 2 I I k9 I zm)<|za I (zu 4 2 I I k9 I zm)<|za I (yy I I W5)<|zn (S:=[_]) (zw 1 I I I k9 I<|m9 I) ?_))));refine ze I (zd ?_);refine zF (fn:=Tryz.f61) (fun _ _ h=>h) (Rs.two I (zT 1 I I k9)<|zq I)
 ·have hz:V8 n d=gz n d:=(by unfold gz;rw [Jb (fun hneg=>oF hb33<|Int.sign_neg_iff.2 hneg)]);refine zv (zh<|zi<|zi<|SW.sub (σ':=St.of [(2,pA g2),(3,pA g3),(4,pA g4),(6,pA g6),(7,yU 0)] [(g2,qf<|n),(g3,qf<|d),(g4,[isD<|.bool false,isD<|.slice none 0 0,isD<|.bool false,isD<|.slice none 0 0]),(g6,qf<|gz n d)]) (⟨⟨_,I,(sT I)⟩,[0,1,2,3],by decide,⟨la rfl,⟨la rfl,⟨la rfl,⟨⟨_,rfl,Vp hz⟩,trivial⟩⟩⟩⟩⟩)<|zk<|zb I<|za I (yn I I)<|zd<|zH I d9<|zv<|zh<|zo<|za I (zu 0 2 I I k9 I zm)<|za I (zu 3 2 I I k9 I zm)<|zn (S:=[]) (zp (Z0 hn hz5 hz0) I ⟨zc _,zc _,t9⟩ I)<|zb I<|za I (zg I I)<|za I (zg I I)<|za I (zg I I) (SWl.e2 (S:=[]) (Ef.alloc (zs:=[.bool false,.slice none 0 0]) k9 I) fun g8=>(SWl.e2 (S:=[]) (Ef.alloc (zs:=[.bool false,.slice none 0 0]) k9 I) fun g9=>(zn (S:=[_]) (zw 4 I I I k9 I<|m9 I)<|zn (S:=[_]) (zw 5 I I I k9 I<|m9 I)<|ze I<|zd<|zi<|zi<|SW.sub (σ':=St.of [(3,pA g3),(4,pA g4),(6,pA g6),(8,pA g8),(7,yU 0)] [(g3,qf<|d),(g4,[isD<|.bool false,isD<|.slice none 0 0,isD<|.bool false,isD<|.slice none 0 0]),(g6,qf<|gz n d),(g8,qf<|rn n d)]) (sB [1,2,3,4] I I)<|zk<|zb I<|za I (yn I I)<|zd<|zH I d9<|zv<|zh ?_))))
  refine zo (za I (zu 0 2 I I k9 I zm)<|za I (zu 2 2 I I k9 I zm)<|zn (S:=[]) (zp (Z0 hd hz5 hz0) I ⟨zc _,zc _,t9⟩ I)<|zb I<|za I (zg I I)<|za I (zg I I)<|za I (zg I I) (SWl.e2 (S:=[]) (Ef.alloc (zs:=[.bool false,.slice none 0 0]) k9 I) fun g10=>(SWl.e2 (S:=[]) (Ef.alloc (zs:=[.bool false,.slice none 0 0]) k9 I) fun g11=>(zn (S:=[_]) (zw 4 I I I k9 I<|m9 I)<|zn (S:=[_]) (zw 5 I I I k9 I<|m9 I)<|ze I<|zd<|zi<|zo<|zb I<|za I (yn I I)<|zd<|zH I d9<|zv<|zh<|zo<|za I (zu 3 2 I I k9 I zm)<|za I (zu 4 2 I I k9 I zm)<|za I (yy I I W5)<|zn (S:=[_]) (zw 1 I I I k9 I<|m9 I)<|ze I<|zd ?_))));refine zF (fn:=Tryz.f61) (fun _ _ h=>h) (Rs.two I (zT 1 I I k9)<|zq I)
theorem WY {n d:Int} (hn:n.natAbs < zJ) (hd:d.natAbs < zJ) (h0:d≠0):Con Tryz.prog 68 [Zj n,Zj d] (Ya (rn n d)<|rd n d):=by
 have hg:(V8 n d).natAbs < zJ:=Nat.lt_of_le_of_lt (gcd_le h0) hd;have hz0:=gz_ne n h0;have hz5:(gz n d).natAbs < b2:=za2 (Nat.lt_of_le_of_lt (gz_le h0) hd);have hn2:=za2 hn;have hd2:=za2 hd;refine z6 Tryz.func68 k9 I k9 fun base w0=>(zo (SWl.e2 (S:=[]) (yj I I) fun g2=>(SWl.e2 (S:=[]) (yj I I) fun g3=>(SWl.e2 (S:=[]) (Ef.alloc (zs:=[.bool false,.slice none 0 0,.bool false,.slice none 0 0]) k9 I) fun g4=>(zL<|za I (zu 0 2 I I k9 I zm)<|za I (zu 1 2 I I k9 I zm)<|zn (S:=[]) (zp (W3 hn2 hd2) I ⟨zc _,zc _,t9⟩ I) (SWl.e2 (S:=[]) (Ef.alloc (zs:=[.bool false,.slice none 0 0]) k9 I) fun g5=>(zn (S:=[_]) (zw 3 I I I k9 I<|m9 I)<|zd<|zi<|zo<|za I (zj (n:=0) I k9)<|za I (zy 1 I I I k9 zm)<|zd<|zD I (fun hb14=> ?_) (fun hb14=> ?_))))))))
 ·have hz: -V8 n d=gz n d:=(by unfold gz;rw [Jh<|oT hb14]);refine zk (za I (zu 3 2 I I k9 I zm)<|zn (S:=[]) (zp (con_negR<|b4_512 hg) I ⟨zc _,t9⟩ I)<|zn (S:=[_]) (zw 3 I I I k9 I<|m9 I)<|zd<|zi<|SW.sub (σ':=St.of [(2,pA g2),(3,pA g3),(4,pA g4),(5,pA g5)] [(g2,qf<|n),(g3,qf<|d),(g4,[isD<|.bool false,isD<|.slice none 0 0,isD<|.bool false,isD<|.slice none 0 0]),(g5,qf<|gz n d)]) (⟨⟨_,I,(sT I)⟩,[0,1,2,3],by decide,⟨la rfl,⟨la rfl,⟨la rfl,⟨⟨_,rfl,Vp hz⟩,trivial⟩⟩⟩⟩⟩)<|zk<|za I (zu 0 2 I I k9 I zm)<|za I (zu 3 2 I I k9 I zm)<|zn (S:=[]) (zp (YH hn2 hz5 hz0) I ⟨zc _,zc _,t9⟩ I)<|zb I<|za I (zg I I)<|za I (zg I I) (SWl.e2 (S:=[]) (Ef.alloc (zs:=[.bool false,.slice none 0 0]) k9 I) fun g6=>(SWl.e2 (S:=[]) (Ef.alloc (zs:=[.bool false,.slice none 0 0]) k9 I) fun g7=>(zn (S:=[_]) (zw 4 I I I k9 I<|m9 I)<|zn (S:=[_]) (zw 5 I I I k9 I<|m9 I)<|zL<|za I (zu 1 2 I I k9 I zm)<|za I (zu 3 2 I I k9 I zm)<|zn (S:=[]) (zp (YH hd2 hz5 hz0) I ⟨zc _,zc _,t9⟩ I)<|zb I<|za I (zg I I)<|za I (zg I I) (SWl.e2 (S:=[]) (Ef.alloc (zs:=[.bool false,.slice none 0 0]) k9 I) fun g8=>(SWl.e2 (S:=[]) (Ef.alloc (zs:=[.bool false,.slice none 0 0]) k9 I) fun g9=>(zn (S:=[_]) (zw 6 I I I k9 I<|m9 I)<|zn (S:=[_]) (zw 7 I I I k9 I<|m9 I)<|zL<|za I (zu 4 2 I I k9 I zm)<|za I (zu 6 2 I I k9 I zm)<|za I (yy I I W5) ?_)))))))
  refine zn (S:=[_]) (zw 2 I I I k9 I<|m9 I) (zd ?_);refine zF (fn:=Tryz.f68) (fun _ _ h=>h) (zO I<|zT 2 I I k9)
 ·have hz:V8 n d=gz n d:=(by unfold gz;rw [Jb<|oF hb14]);refine zv (zh<|zi<|SW.sub (σ':=St.of [(2,pA g2),(3,pA g3),(4,pA g4),(5,pA g5)] [(g2,qf<|n),(g3,qf<|d),(g4,[isD<|.bool false,isD<|.slice none 0 0,isD<|.bool false,isD<|.slice none 0 0]),(g5,qf<|gz n d)]) (⟨⟨_,I,(sT I)⟩,[0,1,2,3],by decide,⟨la rfl,⟨la rfl,⟨la rfl,⟨⟨_,rfl,Vp hz⟩,trivial⟩⟩⟩⟩⟩)<|zk<|za I (zu 0 2 I I k9 I zm)<|za I (zu 3 2 I I k9 I zm)<|zn (S:=[]) (zp (YH hn2 hz5 hz0) I ⟨zc _,zc _,t9⟩ I)<|zb I<|za I (zg I I)<|za I (zg I I) (SWl.e2 (S:=[]) (Ef.alloc (zs:=[.bool false,.slice none 0 0]) k9 I) fun g6=>(SWl.e2 (S:=[]) (Ef.alloc (zs:=[.bool false,.slice none 0 0]) k9 I) fun g7=>(zn (S:=[_]) (zw 4 I I I k9 I<|m9 I)<|zn (S:=[_]) (zw 5 I I I k9 I<|m9 I)<|zL<|za I (zu 1 2 I I k9 I zm)<|za I (zu 3 2 I I k9 I zm)<|zn (S:=[]) (zp (YH hd2 hz5 hz0) I ⟨zc _,zc _,t9⟩ I)<|zb I<|za I (zg I I)<|za I (zg I I) (SWl.e2 (S:=[]) (Ef.alloc (zs:=[.bool false,.slice none 0 0]) k9 I) fun g8=>(SWl.e2 (S:=[]) (Ef.alloc (zs:=[.bool false,.slice none 0 0]) k9 I) fun g9=>(zn (S:=[_]) (zw 6 I I I k9 I<|m9 I)<|zn (S:=[_]) (zw 7 I I I k9 I<|m9 I)<|zL<|za I (zu 4 2 I I k9 I zm)<|za I (zu 6 2 I I k9 I zm)<|za I (yy I I W5)<|zn (S:=[_]) (zw 2 I I I k9 I<|m9 I)<|zd ?_)))))))
  refine zF (fn:=Tryz.f68) (fun _ _ h=>h) (zO I<|zT 2 I I k9)
theorem KW {n d n2 d2:Int} (h1:n=n2) (h2:d=d2):Con Tryz.prog 22 [Ya n d,Ya n2 d2] (yG true):=by
 refine z6 Tryz.func22 k9 I k9 fun base w0=>(zo (SWl.e2 (S:=[]) (yj I I) fun g2=>(SWl.e2 (S:=[]) (yj I I) fun g3=>(ze I<|zL<|za I (zj (n:=0) I k9)<|za I (zu 0 2 I I k9 I zm)<|za I (zj (n:=0) I k9)<|za I (zu 1 2 I I k9 I zm)<|zn (S:=[]) (zp (Wg (by first | rfl | assumption)) I ⟨zc _,zc _,t9⟩ I)<|zb I<|zQ I (zj (n:=2) I k9)<|zQ I (zu 0 2 I I k9 I zm)<|zQ I (zj (n:=2) I k9)<|zQ I (zu 1 2 I I k9 I zm)<|Zp (S:=[]) I I I I (zp (Wg (by first | rfl | assumption)) I ⟨zc _,zc _,t9⟩ I) ?_))))
 rintro _ rfl;refine za I (zB I I I) (ze I<|zd ?_);refine zF (fn:=Tryz.f22) (fun _ _ h=>h) (zO I<|zq I)
theorem Vs {n:Int} (h1: -9223372036854775808≤n) (h2:n≤9223372036854775807):n.natAbs < zJ:=by
 have h:n.natAbs < 256 ^ 9:=by omega
 exact Ju h (by unfold zJ;exact Nat.pow_le_pow_right d9 d9)
theorem con_ofQ {n d:Int} (h1: -9223372036854775808≤n) (h2:n≤9223372036854775807) (h3: -9223372036854775808≤d) (h4:d≤9223372036854775807) (h0:d≠0):Con Tryz.prog 27 [yU n,yU d] (Zu [Ya (rn n d)<|rd n d,yU 0]):=by
 have hn:=Vs h1 h2;have hd:=Vs h3 h4;refine z6 Tryz.func27 k9 I k9 fun base w0=>(zo (SWl.e2 (S:=[]) (Ef.alloc (zs:=[.bool false,.slice none 0 0,.bool false,.slice none 0 0]) k9 I) fun g4=>(ze I<|zL<|zb I<|zn (S:=[]) (zp (jf h1 h2) I ⟨zc _,t9⟩ I)<|zb I<|zn (S:=[]) (zp (jf h3 h4) I ⟨zc _,t9⟩ I)<|zn (S:=[]) (zp (Y7 hn hd h0) I ⟨zc _,zc _,t9⟩ I)<|za I (zg I I)<|za I (zg I I)<|zn (S:=[_]) (zw 0 I I I k9 I<|m9 I)<|ze I<|zd ?_)));refine zF (fn:=Tryz.f27) (fun _ _ h=>h) (Rs.two I (zT 0 I I k9)<|zq I)
theorem zaS {n d:Int} (h1: -9223372036854775808≤n) (h2:n≤9223372036854775807) (h3: -9223372036854775808≤d) (h4:d≤9223372036854775807) (h0:d≠0):Con Tryz.prog 32 [yU n,yU d] (Ya (rn n d)<|rd n d):=by
 have hn:=Vs h1 h2;have hd:=Vs h3 h4;refine z6 Tryz.func32 k9 I k9 fun base w0=>(zo (SWl.e2 (S:=[]) (Ef.alloc (zs:=[.bool false,.slice none 0 0,.bool false,.slice none 0 0]) k9 I) fun g4=>(zL<|zb I<|zn (S:=[]) (zp (zaQ h1 h2) I ⟨zc _,t9⟩ I)<|zb I<|zn (S:=[]) (zp (zaQ h3 h4) I ⟨zc _,t9⟩ I)<|zn (S:=[]) (zp (WY hn hd h0) I ⟨zc _,zc _,t9⟩ I)<|zn (S:=[_]) (zw 0 I I I k9 I<|m9 I)<|zd ?_)));refine zF (fn:=Tryz.f32) (fun _ _ h=>h) (zO I<|zT 0 I I k9)
theorem con_zero:Con Tryz.prog 86 [] (Ya 0 1):=by
 refine z6 Tryz.func86 k9 I k9 fun base w0=>(zo (SWl.e2 (S:=[]) (Ef.alloc (zs:=[.bool false,.slice none 0 0,.bool false,.slice none 0 0]) k9 I) fun g0=>(zL<|zn (S:=[]) (zp (jf d9 d9) I ⟨zc _,t9⟩ I)<|zn (S:=[]) (zp (jf d9 d9) I ⟨zc _,t9⟩ I)<|za I (yy I I W5)<|zn (S:=[_]) (zw 0 I I I k9 I<|m9 I)<|zd ?_)));refine zF (fn:=Tryz.f86) (fun _ _ h=>h) (zO I<|zT 0 I I k9)
end Sx
namespace Sx
theorem con_signQ {n d:Int} (hG:Good n d):Con Tryz.prog 29 [Ya n d] (yU n.sign):=by
 refine z6 Tryz.func29 k9 I k9 fun base w0=>(zo (SWl.e2 (S:=[]) (yj I I) fun g1=>(ze I<|zd<|zi<|zo<|za I (zu 0 4 I I k9 I zm)<|zn (S:=[]) (zp (Zb hG) I ⟨zc _,t9⟩ I)<|za I (yF I)<|zd<|zH I I<|zv<|zh<|zo<|za I (zj (n:=0) I k9)<|za I (zu 0 2 I I k9 I zm)<|zn (S:=[]) (zp (YG hG.hn) I ⟨zc _,t9⟩ I)<|ze I<|zd ?_)));refine zF (fn:=Tryz.f29) (fun _ _ h=>h) (zO I<|zq I)
