/- WHAT IS KNOWN OF RATIOS; the walks of ratio's Valid, Make, Of, Zero, From and of the reference's Valid, Reduce, Of, Same. THE WALKS of ratio's Sign, N -/
import Derived.Test.YtmflnfnebmbjkaaGreatGZAV
set_option maxHeartbeats 8000000
set_option maxRecDepth 100000
namespace Go.Proofs.YtmflnfnebmbjkaaGreat
open Go.RowKit
open Nm (W32)
namespace Sx
abbrev jJ (n d:Int):List D:=[isD<|.bool<|decide (n < 0),bytD n.natAbs,isD<|.bool<|decide (d < 0),bytD d.natAbs]
abbrev Yd (n d:Int):D:=Yu (jJ n d)
abbrev rratC (s:Bool) (b:LN) (t:Bool) (c:LN):List D:=[isD<|.bool s,rawD b,isD<|.bool t,rawD c]
abbrev rratD (s:Bool) (b:LN) (t:Bool) (c:LN):D:=Yu (rratC s b t c)
theorem YV {n d n' d':Int} (h:n=n') (k:d=d'):Le (Yd n d) (Yd n' d'):=by subst h k;exact zb _
theorem leC_rat0:LeAll [isD<|.bool false,isD<|.slice none 0 0,isD<|.bool false,isD<|.slice none 0 0] (jJ 0 0):=by
 have h:Le (isD<|.slice none 0 0) (bytD (0:Int).natAbs):=by
  have:(Nm.dg 256 (0:Int).natAbs).reverse=[]:=by rw [show (0:Int).natAbs=0 from rfl,Nm.dg_zero];rfl
  unfold bytD;rw [this];exact je
 exact ⟨zb _,h,zb _,h,t9⟩
theorem le_rat0:Le (Yu [isD<|.bool false,isD<|.slice none 0 0,isD<|.bool false,isD<|.slice none 0 0]) (Yd 0 0):=zbr leC_rat0
theorem bldR0:Bld Tryz.prog 43 [] [] [isD<|.bool false,isD<|.slice none 0 0,isD<|.bool false,isD<|.slice none 0 0]:=fun L w vs h=>by
 obtain rfl:=all0 h;exact ⟨[.bool false,.slice none 0 0,.bool false,.slice none 0 0],⟨I,I,I,I,t9⟩,fun w'=>by kernel_rfl⟩
theorem zaj {d e f g:D}:Bld Tryz.prog 43 [0,1] [Yu [d,e],Yu [f,g]] [d,e,f,g]:=fun L w vs h=>by
 obtain ⟨u,v,rfl,hu,hv⟩:=VY h;obtain ⟨a,b,rfl,h1,h2⟩:=agg2 hu;obtain ⟨a',b',rfl,h3,h4⟩:=agg2 hv;exact ⟨[a,b,a',b'],⟨h1,h2,h3,h4,t9⟩,fun w'=>by kernel_rfl⟩
def okB (n d:Int):Bool:=decide (0 < d) && decide (Nat.gcd n.natAbs d.natAbs=1)
def toZ (s:Bool) (b:LN):Int:=sgn s (Vp b.reverse)
def V5 (s:Bool) (b:LN) (t:Bool) (c:LN):Bool:=vld s b && (vld t c && okB (toZ s b) (toZ t c))
structure Good (n d:Int):Prop where
 hn:n.natAbs < zO
 hd:d.natAbs < zO
 pos:0 < d
 g:Nat.gcd n.natAbs d.natAbs=1
theorem valL_dg:∀ (n X:Nat),X≤n→Vp (Nm.dg 256 X)=X
 | 0,X,h=>by
  obtain rfl:X=0:=by omega
  rw [Nm.dg_zero];rfl
 | n + 1,X,h=>by
  by_cases h0:X=0
  ·subst h0;rw [Nm.dg_zero];rfl
  ·rw [Nm.dg_pos d9 h0];simp only [Vp];rw [valL_dg n (X / 256) o9];omega
theorem YM (n:Int):toZ (decide (n < 0)) (Nm.dg 256 n.natAbs).reverse=n:=by
 unfold toZ;rw [List.reverse_reverse,valL_dg _ _<|Js _];unfold sgn
 by_cases h:n < 0
 ·rw [Jo h,Jh rfl];omega
 ·rw [Jd h,Jb d9];omega
theorem zaB {n d:Int} (hn:n.natAbs < zO) (hd:d.natAbs < zO):V5 (decide (n < 0)) (Nm.dg 256 n.natAbs).reverse (decide (d < 0)) (Nm.dg 256 d.natAbs).reverse=okB n d:=by
 unfold V5;rw [vld_int hn,vld_int hd,YM,YM]
 rfl
theorem Good.ok {n d:Int} (h:Good n d):okB n d=true:=by unfold okB;rw [Jo h.pos,Jo h.g];rfl
theorem Good.rv {n d:Int} (h:Good n d):V5 (decide (n < 0)) (Nm.dg 256 n.natAbs).reverse (decide (d < 0)) (Nm.dg 256 d.natAbs).reverse=true:=by rw [zaB h.hn h.hd,h.ok]
theorem Good.d0 {n d:Int} (h:Good n d):d≠0:=by have:=h.pos;omega
theorem rvld_out {s t:Bool} {b c:LN} (hb:∀ d∈b,d < 256) (hc:∀ d∈c,d < 256) (hv:V5 s b t c=true):∃ n d:Int,Good n d∧s=decide (n < 0)∧b=(Nm.dg 256 n.natAbs).reverse∧t=decide (d < 0)∧c=(Nm.dg 256 d.natAbs).reverse:=by
 unfold V5 at hv;simp only [JL] at hv;obtain ⟨h1,h2,h3⟩:=hv;obtain ⟨n,hn,rfl,rfl⟩:=Vo hb h1;obtain ⟨d,hd,rfl,rfl⟩:=Vo hc h2;rw [YM,YM] at h3;unfold okB at h3;simp only [JL,Jz] at h3;exact ⟨n,d,⟨hn,hd,h3.1,h3.2⟩,I,I,I,I⟩
structure Byt (b c:LN):Prop where
 l:∀ d∈b,d < 256
 r:∀ d∈c,d < 256
theorem cmpZ_eq0 {x y:Int}:jY x y=0↔x=y:=by
 unfold jY
 by_cases h:x < y
 ·rw [Jh h];omega
 ·rw [Jb h]
  by_cases h2:x=y
  ·rw [Jh h2];simp [h2]
  ·rw [Jb h2];simp [h2]
theorem sign_le {d:Int} (h:¬0 < d):d.sign≤0:=by
 rcases Int.lt_or_eq_of_le (Int.not_lt.1 h) with h | h
 ·rw [Int.sign_eq_neg_one_of_neg h];decide
 ·rw [h];decide
theorem zaz {d:Int} (h:0 < d):d.sign=1:=Int.sign_eq_one_of_pos h
theorem rv_1 {s t:Bool} {b c:LN} (h:vld t c=false):Con Tryz.prog 63 [rratD s b t c] (yK false):=by
 refine zZ Tryz.func63 k9 I k9 fun base w0=>(zt (SWl.e2 (S:=[]) (yn I I) fun g1=>(ze I<|zd<|zh<|zt<|za I (zm (n:=2) I k9)<|za I (zx 0 2 I I k9 I zq)<|zp (S:=[]) (zn (con_signB h) I ⟨zb _,t9⟩ I)<|za I (ZB I I)<|zd<|yg I d9<|zt<|ze I<|zd ?_)));refine zF (fn:=Tryz.f63) (fun _ _ h=>h) (zN I<|zo I)
theorem rv_2 {s:Bool} {b:LN} {d:Int} (hd:d.natAbs < zO) (h:¬0 < d):Con Tryz.prog 63 [Yu<|rintC s b ++ qr d] (yK false):=by
 refine zZ Tryz.func63 k9 I k9 fun base w0=>(zt (SWl.e2 (S:=[]) (yn I I) fun g1=>(ze I<|zd<|zh<|zt<|za I (zm (n:=2) I k9)<|za I (zx 0 2 I I k9 I zq)<|zp (S:=[]) (zn (YR hd) I ⟨zb _,t9⟩ I)<|za I (ZB I I)<|zd<|yg I (Jo<|sign_le h)<|zt<|ze I<|zd ?_)));refine zF (fn:=Tryz.f63) (fun _ _ h=>h) (zN I<|zo I)
theorem rv_3 {s:Bool} {b:LN} {d:Int} (hv:vld s b=false) (hd:d.natAbs < zO) (h:0 < d):Con Tryz.prog 63 [Yu<|rintC s b ++ qr d] (yK false):=by
 refine zZ Tryz.func63 k9 I k9 fun base w0=>(zt (SWl.e2 (S:=[]) (yn I I) fun g1=>(ze I<|zd<|zh<|zt<|za I (zm (n:=2) I k9)<|za I (zx 0 2 I I k9 I zq)<|zp (S:=[]) (zn (Vd hd<|zaz h) I ⟨zb _,t9⟩ I)<|za I (ZB I I)<|zd<|zI I d9<|zw<|zg<|zt<|za I (zm (n:=0) I k9)<|za I (zx 0 2 I I k9 I zq)<|za I (zm (n:=2) I k9)<|za I (zx 0 2 I I k9 I zq)<|zp (S:=[]) (zn (con_gcdB (by rw [hv,Bool.false_and])) I ⟨zb _,zb _,t9⟩ I)<|zc I<|za I (zi I I)<|za I (zi I I) (SWl.e2 (S:=[]) (Ef.alloc (zs:=[.bool false,.slice none 0 0]) k9 I) fun g3=>(zp (S:=[_]) (zy 1 I I I k9 I<|m9 I)<|ze I<|zd<|zh<|yf [] (rr [0,1,2,3]<|.n 4 (.n 5 (rr [6,7,8] .fin) .no) .no) k9 k9 (fun d _ _ _ _ h=>by cases d <;> exact h)<|zB I I<|zj I I (yQ I I)<|zB I I<|zk I I I d9 I I ?_)))))
 refine j1 I I I d9 I I ?_ yD;refine j1 I I I d9 I I ?_ yD;refine zk I I I d9 I I (zj I I (zK I d9 I)<|yR I I<|yv ?_);refine zF (fn:=Tryz.f63) (fun _ _ h=>h) (zN I<|zo I)
theorem rv_4 {n d:Int} (hn:n.natAbs < zO) (hd:d.natAbs < zO) (h:0 < d):Con Tryz.prog 63 [Yd n d] (yK<|decide (Nat.gcd n.natAbs d.natAbs=1)):=by
 have hg:(Wk n d).natAbs < zO:=Nat.lt_of_le_of_lt (gcd_le o9) hd
 refine zZ Tryz.func63 k9 I k9 fun base w0=>(zt (SWl.e2 (S:=[]) (yn I I) fun g1=>(ze I<|zd<|zh<|zt<|za I (zm (n:=2) I k9)<|za I (zx 0 2 I I k9 I zq)<|zp (S:=[]) (zn (Vd hd<|zaz h) I ⟨zb _,t9⟩ I)<|za I (ZB I I)<|zd<|zI I d9<|zw<|zg<|zt<|za I (zm (n:=0) I k9)<|za I (zx 0 2 I I k9 I zq)<|za I (zm (n:=2) I k9)<|za I (zx 0 2 I I k9 I zq)<|zp (S:=[]) (zn (con_gcd hn hd) I ⟨zb _,zb _,t9⟩ I)<|zc I<|za I (zi I I)<|za I (zi I I) (SWl.e2 (S:=[]) (Ef.alloc (zs:=[.bool false,.slice none 0 0]) k9 I) fun g3=>(zp (S:=[_]) (zy 1 I I I k9 I<|m9 I)<|ze I<|zd<|zh<|yf [] (rr [0,1,2,3]<|.n 4 (.n 5 (rr [6,7,8] .fin) .no) .no) k9 k9 (fun d _ _ _ _ h=>by cases d <;> exact h)<|zB I I<|zj I I (yQ I I)<|zB I I<|zu I I I d9 I I (zx 1 2 I I k9 I zq) ?_)))))
 refine ZH I I I d9 I (zn (jt d9 d9) I ⟨zb _,t9⟩ I) ?_ yD;rintro _ rfl;refine ZH I I I d9 I (zn (qv hg zaH) I ⟨zb _,zb _,t9⟩ I) ?_ yD;rintro _ rfl;refine zu I I I d9 I I (yQ I I) (zj I I (zE I d9 I)<|yR I I<|yv<|zF (fn:=Tryz.f63) (fun _ _ h=>h)<|Rs.le (zN I<|zo I) ?_);exact le_v (JY Value.bool<|JW.2<|cmpZ_eq0.trans (by unfold Wk;omega))
theorem zbT {s t:Bool} {b c:LN} (hB:Byt b c):Con Tryz.prog 63 [rratD s b t c] (yK<|V5 s b t c):=by
 cases h2:vld t c
 ·have e:V5 s b t c=false:=by unfold V5;rw [h2,Bool.false_and,Bool.and_false]
  rw [e];exact rv_1 h2
 ·obtain ⟨d,hd,rfl,rfl⟩:=Vo hB.r h2
  by_cases hp:0 < d
  ·cases h1:vld s b
   ·have e:V5 s b (decide (d < 0)) (Nm.dg 256 d.natAbs).reverse=false:=by unfold V5;rw [h1,Bool.false_and]
    rw [e];exact rv_3 h1 hd hp
   ·obtain ⟨n,hn,rfl,rfl⟩:=Vo hB.l h1;rw [zaB hn hd];have h:=rv_4 hn hd hp
    have e:okB n d=decide (Nat.gcd n.natAbs d.natAbs=1):=by unfold okB;rw [Jo hp,Bool.true_and]
    rw [e];exact h
  ·have e:V5 s b (decide (d < 0)) (Nm.dg 256 d.natAbs).reverse=false:=by
    unfold V5 okB;rw [YM,Jd hp,Bool.false_and,Bool.and_false,Bool.and_false]
   rw [e];exact rv_2 hd hp
theorem Zh {n d:Int} (h:Good n d):Con Tryz.prog 63 [Yd n d] (yK true):=
 (rv_4 h.hn h.hd h.pos).mono ⟨zb _,trivial⟩ (zG (by rw [Jo h.g]))
theorem con_rvalF {s t:Bool} {b c:LN} (hB:Byt b c) (h:V5 s b t c=false):Con Tryz.prog 63 [rratD s b t c] (yK false):=
 (zbT hB).mono ⟨zb _,trivial⟩ (zG (by rw [h]))
def gz (n d:Int):Int:=if d < 0 then -Wk n d else Wk n d
def rn (n d:Int):Int:=dq n (gz n d)
def rd (n d:Int):Int:=dq d (gz n d)
theorem K4 (n d:Int):(gz n d).natAbs=Nat.gcd n.natAbs d.natAbs:=by
 unfold gz
 split
 ·rw [Int.natAbs_neg,W5]
 ·rw [W5]
theorem gz_ne (n:Int) {d:Int} (h:d≠0):gz n d≠0:=fun e=>by
 have h1:=K4 n d;have h2:0 < Nat.gcd n.natAbs d.natAbs:=Nat.gcd_pos_of_pos_right _ o9;rw [e] at h1;simp at h1;omega
theorem gz_le {n d:Int} (h:d≠0):(gz n d).natAbs≤d.natAbs:=by rw [K4];exact Nat.gcd_le_right _ o9
theorem jT {x:Int}:x.sign=0↔x=0:=Int.sign_eq_zero_iff_zero
theorem dq_one (x:Int):dq x 1=x:=by
 have h1:=dq_dr (y:=1) x d9;have h2:=Va (x:=x) (y:=1) d9
 have h3:dr x 1=0:=by
  have:(1:Int).natAbs=1:=rfl;omega
 omega
theorem Good.gz1 {n d:Int} (h:Good n d):gz n d=1:=by
 have h1:=h.pos;unfold gz Wk;rw [Jb o9,h.g]
 rfl
theorem Good.rn {n d:Int} (h:Good n d):rn n d=n:=by unfold Sx.rn;rw [h.gz1,dq_one]
theorem Good.rd {n d:Int} (h:Good n d):rd n d=d:=by unfold Sx.rd;rw [h.gz1,dq_one]
theorem jf {n:Int} (hn:n.natAbs < zO):Good n 1:=⟨hn,zaH,by decide,by simp⟩
theorem rn_abs {n d:Int} (hd:d≠0):(rn n d).natAbs≤n.natAbs:=za2 (gz_ne n hd)
theorem rd_abs {n d:Int} (hd:d≠0):(rd n d).natAbs≤d.natAbs:=za2 (gz_ne n hd)
theorem qi {n d:Int} (hn:n.natAbs < zO) (hd:d.natAbs < zO) (h0:d≠0):Con Tryz.prog 61 [Zq n,Zq d] (Zo [Yd (rn n d)<|rd n d,yY 0]):=by
 have hg:(Wk n d).natAbs < zO:=Nat.lt_of_le_of_lt (gcd_le h0) hd;have hz0:=gz_ne n h0;have hz5:(gz n d).natAbs < zO:=Nat.lt_of_le_of_lt (gz_le h0) hd;refine zZ Tryz.func61 k9 I k9 fun base w0=>(zt (SWl.e2 (S:=[]) (yn I I) fun g2=>(SWl.e2 (S:=[]) (yn I I) fun g3=>(SWl.e2 (S:=[]) (Ef.alloc (zs:=[.bool false,.slice none 0 0,.bool false,.slice none 0 0]) k9 I) fun g4=>(ze I<|zd<|zh<|zt<|za I (zx 0 2 I I k9 I zq)<|zp (S:=[]) (zn (Km hn) I ⟨zb _,t9⟩ I)<|za I (yG I)<|zc I<|zT I (zx 1 2 I I k9 I zq)<|Zu (S:=[]) I I I I (zn (YR hd) I ⟨zb _,t9⟩ I) ?_)))));rintro _ rfl;refine zT I (yQ I I) (za I (zK I I I)<|zd<|zI I (Jd (fun h=>h0<|jT.1 h))<|zw<|zg<|zt<|za I (zx 0 2 I I k9 I zq)<|za I (zx 1 2 I I k9 I zq)<|zp (S:=[]) (zn (con_gcd hn hd) I ⟨zb _,zb _,t9⟩ I)<|zc I<|za I (zi I I)<|za I (zi I I) (SWl.e2 (S:=[]) (Ef.alloc (zs:=[.bool false,.slice none 0 0]) k9 I) fun g6=>(zp (S:=[_]) (zy 3 I I I k9 I<|m9 I)<|ze I<|zd<|zh<|zt<|zc I<|za I (yQ I I)<|zc I<|Yg I I d9 I I (zx 1 2 I I k9 I zq)<|Zu (S:=[]) I I d9 I (zn (YR hd) I ⟨zb _,t9⟩ I) ?_)))
 rintro _ rfl;refine Yg I I d9 I I (yb I I) (za I (zE I d9 I)<|zd<|zD I (fun hb33=> ?_) (fun hb33=> ?_))
 ·have hneg:d < 0:=Int.sign_neg_iff.1 (oT hb33);have hz: -Wk n d=gz n d:=(by unfold gz;rw [Jh hneg]);refine zf (za I (zx 3 2 I I k9 I zq)<|zp (S:=[]) (zn (con_neg hg) I ⟨zb _,t9⟩ I)<|zc I<|za I (zi I I)<|za I (zi I I)<|zp (S:=[_]) (zy 3 I I I k9 I<|m9 I)<|ze I<|zd<|zh<|zh<|SW.sub (σ':=St.of [(2,pA g2),(3,pA g3),(4,pA g4),(6,pA g6),(7,yY 0)] [(g2,qr<|n),(g3,qr<|d),(g4,[isD<|.bool false,isD<|.slice none 0 0,isD<|.bool false,isD<|.slice none 0 0]),(g6,qr<|gz n d)]) (⟨⟨_,I,(sT I)⟩,[0,1,2,3],by decide,⟨la rfl,⟨la rfl,⟨la rfl,⟨⟨_,rfl,VD hz⟩,trivial⟩⟩⟩⟩⟩)<|zf<|zc I<|za I (yk I I)<|zd<|zI I d9<|zw<|zg<|zt<|za I (zx 0 2 I I k9 I zq)<|za I (zx 3 2 I I k9 I zq)<|zp (S:=[]) (zn (Yb hn hz5 hz0) I ⟨zb _,zb _,t9⟩ I)<|zc I<|za I (zi I I)<|za I (zi I I)<|za I (zi I I) (SWl.e2 (S:=[]) (Ef.alloc (zs:=[.bool false,.slice none 0 0]) k9 I) fun g8=>(SWl.e2 (S:=[]) (Ef.alloc (zs:=[.bool false,.slice none 0 0]) k9 I) fun g9=>(zp (S:=[_]) (zy 4 I I I k9 I<|m9 I)<|zp (S:=[_]) (zy 5 I I I k9 I<|m9 I)<|ze I<|zd<|zh<|zh<|SW.sub (σ':=St.of [(3,pA g3),(4,pA g4),(6,pA g6),(8,pA g8),(7,yY 0)] [(g3,qr<|d),(g4,[isD<|.bool false,isD<|.slice none 0 0,isD<|.bool false,isD<|.slice none 0 0]),(g6,qr<|gz n d),(g8,qr<|rn n d)]) (sB [1,2,3,4] I I) ?_))))
  refine zf (zc I<|za I (yk I I)<|zd<|zI I d9<|zw<|zg<|zt<|za I (zx 0 2 I I k9 I zq)<|za I (zx 2 2 I I k9 I zq)<|zp (S:=[]) (zn (Yb hd hz5 hz0) I ⟨zb _,zb _,t9⟩ I)<|zc I<|za I (zi I I)<|za I (zi I I)<|za I (zi I I) (SWl.e2 (S:=[]) (Ef.alloc (zs:=[.bool false,.slice none 0 0]) k9 I) fun g10=>(SWl.e2 (S:=[]) (Ef.alloc (zs:=[.bool false,.slice none 0 0]) k9 I) fun g11=>(zp (S:=[_]) (zy 4 I I I k9 I<|m9 I)<|zp (S:=[_]) (zy 5 I I I k9 I<|m9 I)<|ze I<|zd<|zh<|zt<|zc I<|za I (yk I I)<|zd<|zI I d9<|zw<|zg<|zt<|za I (zx 3 2 I I k9 I zq)<|za I (zx 4 2 I I k9 I zq)<|za I (yu I I zaj)<|zp (S:=[_]) (zy 1 I I I k9 I<|m9 I) ?_))));refine ze I (zd ?_);refine zF (fn:=Tryz.f61) (fun _ _ h=>h) (Rs.two I (zU 1 I I k9)<|zo I)
 ·have hz:Wk n d=gz n d:=(by unfold gz;rw [Jb (fun hneg=>oF hb33<|Int.sign_neg_iff.2 hneg)]);refine zw (zg<|zh<|zh<|SW.sub (σ':=St.of [(2,pA g2),(3,pA g3),(4,pA g4),(6,pA g6),(7,yY 0)] [(g2,qr<|n),(g3,qr<|d),(g4,[isD<|.bool false,isD<|.slice none 0 0,isD<|.bool false,isD<|.slice none 0 0]),(g6,qr<|gz n d)]) (⟨⟨_,I,(sT I)⟩,[0,1,2,3],by decide,⟨la rfl,⟨la rfl,⟨la rfl,⟨⟨_,rfl,VD hz⟩,trivial⟩⟩⟩⟩⟩)<|zf<|zc I<|za I (yk I I)<|zd<|zI I d9<|zw<|zg<|zt<|za I (zx 0 2 I I k9 I zq)<|za I (zx 3 2 I I k9 I zq)<|zp (S:=[]) (zn (Yb hn hz5 hz0) I ⟨zb _,zb _,t9⟩ I)<|zc I<|za I (zi I I)<|za I (zi I I)<|za I (zi I I) (SWl.e2 (S:=[]) (Ef.alloc (zs:=[.bool false,.slice none 0 0]) k9 I) fun g8=>(SWl.e2 (S:=[]) (Ef.alloc (zs:=[.bool false,.slice none 0 0]) k9 I) fun g9=>(zp (S:=[_]) (zy 4 I I I k9 I<|m9 I)<|zp (S:=[_]) (zy 5 I I I k9 I<|m9 I)<|ze I<|zd<|zh<|zh<|SW.sub (σ':=St.of [(3,pA g3),(4,pA g4),(6,pA g6),(8,pA g8),(7,yY 0)] [(g3,qr<|d),(g4,[isD<|.bool false,isD<|.slice none 0 0,isD<|.bool false,isD<|.slice none 0 0]),(g6,qr<|gz n d),(g8,qr<|rn n d)]) (sB [1,2,3,4] I I)<|zf<|zc I<|za I (yk I I)<|zd<|zI I d9<|zw<|zg ?_))))
  refine zt (za I (zx 0 2 I I k9 I zq)<|za I (zx 2 2 I I k9 I zq)<|zp (S:=[]) (zn (Yb hd hz5 hz0) I ⟨zb _,zb _,t9⟩ I)<|zc I<|za I (zi I I)<|za I (zi I I)<|za I (zi I I) (SWl.e2 (S:=[]) (Ef.alloc (zs:=[.bool false,.slice none 0 0]) k9 I) fun g10=>(SWl.e2 (S:=[]) (Ef.alloc (zs:=[.bool false,.slice none 0 0]) k9 I) fun g11=>(zp (S:=[_]) (zy 4 I I I k9 I<|m9 I)<|zp (S:=[_]) (zy 5 I I I k9 I<|m9 I)<|ze I<|zd<|zh<|zt<|zc I<|za I (yk I I)<|zd<|zI I d9<|zw<|zg<|zt<|za I (zx 3 2 I I k9 I zq)<|za I (zx 4 2 I I k9 I zq)<|za I (yu I I zaj)<|zp (S:=[_]) (zy 1 I I I k9 I<|m9 I)<|ze I<|zd ?_))));refine zF (fn:=Tryz.f61) (fun _ _ h=>h) (Rs.two I (zU 1 I I k9)<|zo I)
theorem zac {n d:Int} (hn:n.natAbs < zO) (hd:d.natAbs < zO) (h0:d≠0):Con Tryz.prog 68 [Zq n,Zq d] (Yd (rn n d)<|rd n d):=by
 have hg:(Wk n d).natAbs < zO:=Nat.lt_of_le_of_lt (gcd_le h0) hd;have hz0:=gz_ne n h0;have hz5:(gz n d).natAbs < b2:=zbk (Nat.lt_of_le_of_lt (gz_le h0) hd);have hn2:=zbk hn;have hd2:=zbk hd;refine zZ Tryz.func68 k9 I k9 fun base w0=>(zt (SWl.e2 (S:=[]) (yn I I) fun g2=>(SWl.e2 (S:=[]) (yn I I) fun g3=>(SWl.e2 (S:=[]) (Ef.alloc (zs:=[.bool false,.slice none 0 0,.bool false,.slice none 0 0]) k9 I) fun g4=>(zR<|za I (zx 0 2 I I k9 I zq)<|za I (zx 1 2 I I k9 I zq)<|zp (S:=[]) (zn (zah hn2 hd2) I ⟨zb _,zb _,t9⟩ I) (SWl.e2 (S:=[]) (Ef.alloc (zs:=[.bool false,.slice none 0 0]) k9 I) fun g5=>(zp (S:=[_]) (zy 3 I I I k9 I<|m9 I)<|zd<|zh<|zt<|za I (zm (n:=0) I k9)<|za I (zA 1 I I I k9 zq)<|zd<|zD I (fun hb14=> ?_) (fun hb14=> ?_))))))))
 ·have hz: -Wk n d=gz n d:=(by unfold gz;rw [Jh<|oT hb14]);refine zf (za I (zx 3 2 I I k9 I zq)<|zp (S:=[]) (zn (con_negR<|b4_512 hg) I ⟨zb _,t9⟩ I)<|zp (S:=[_]) (zy 3 I I I k9 I<|m9 I)<|zd<|zh<|SW.sub (σ':=St.of [(2,pA g2),(3,pA g3),(4,pA g4),(5,pA g5)] [(g2,qr<|n),(g3,qr<|d),(g4,[isD<|.bool false,isD<|.slice none 0 0,isD<|.bool false,isD<|.slice none 0 0]),(g5,qr<|gz n d)]) (⟨⟨_,I,(sT I)⟩,[0,1,2,3],by decide,⟨la rfl,⟨la rfl,⟨la rfl,⟨⟨_,rfl,VD hz⟩,trivial⟩⟩⟩⟩⟩)<|zf<|za I (zx 0 2 I I k9 I zq)<|za I (zx 3 2 I I k9 I zq)<|zp (S:=[]) (zn (YS hn2 hz5 hz0) I ⟨zb _,zb _,t9⟩ I)<|zc I<|za I (zi I I)<|za I (zi I I) (SWl.e2 (S:=[]) (Ef.alloc (zs:=[.bool false,.slice none 0 0]) k9 I) fun g6=>(SWl.e2 (S:=[]) (Ef.alloc (zs:=[.bool false,.slice none 0 0]) k9 I) fun g7=>(zp (S:=[_]) (zy 4 I I I k9 I<|m9 I)<|zp (S:=[_]) (zy 5 I I I k9 I<|m9 I)<|zR<|za I (zx 1 2 I I k9 I zq)<|za I (zx 3 2 I I k9 I zq)<|zp (S:=[]) (zn (YS hd2 hz5 hz0) I ⟨zb _,zb _,t9⟩ I)<|zc I<|za I (zi I I)<|za I (zi I I) (SWl.e2 (S:=[]) (Ef.alloc (zs:=[.bool false,.slice none 0 0]) k9 I) fun g8=>(SWl.e2 (S:=[]) (Ef.alloc (zs:=[.bool false,.slice none 0 0]) k9 I) fun g9=>(zp (S:=[_]) (zy 6 I I I k9 I<|m9 I)<|zp (S:=[_]) (zy 7 I I I k9 I<|m9 I)<|zR<|za I (zx 4 2 I I k9 I zq)<|za I (zx 6 2 I I k9 I zq)<|za I (yu I I zaj) ?_)))))))
  refine zp (S:=[_]) (zy 2 I I I k9 I<|m9 I) (zd ?_);refine zF (fn:=Tryz.f68) (fun _ _ h=>h) (zN I<|zU 2 I I k9)
 ·have hz:Wk n d=gz n d:=(by unfold gz;rw [Jb<|oF hb14]);refine zw (zg<|zh<|SW.sub (σ':=St.of [(2,pA g2),(3,pA g3),(4,pA g4),(5,pA g5)] [(g2,qr<|n),(g3,qr<|d),(g4,[isD<|.bool false,isD<|.slice none 0 0,isD<|.bool false,isD<|.slice none 0 0]),(g5,qr<|gz n d)]) (⟨⟨_,I,(sT I)⟩,[0,1,2,3],by decide,⟨la rfl,⟨la rfl,⟨la rfl,⟨⟨_,rfl,VD hz⟩,trivial⟩⟩⟩⟩⟩)<|zf<|za I (zx 0 2 I I k9 I zq)<|za I (zx 3 2 I I k9 I zq)<|zp (S:=[]) (zn (YS hn2 hz5 hz0) I ⟨zb _,zb _,t9⟩ I)<|zc I<|za I (zi I I)<|za I (zi I I) (SWl.e2 (S:=[]) (Ef.alloc (zs:=[.bool false,.slice none 0 0]) k9 I) fun g6=>(SWl.e2 (S:=[]) (Ef.alloc (zs:=[.bool false,.slice none 0 0]) k9 I) fun g7=>(zp (S:=[_]) (zy 4 I I I k9 I<|m9 I)<|zp (S:=[_]) (zy 5 I I I k9 I<|m9 I)<|zR<|za I (zx 1 2 I I k9 I zq)<|za I (zx 3 2 I I k9 I zq)<|zp (S:=[]) (zn (YS hd2 hz5 hz0) I ⟨zb _,zb _,t9⟩ I)<|zc I<|za I (zi I I)<|za I (zi I I) (SWl.e2 (S:=[]) (Ef.alloc (zs:=[.bool false,.slice none 0 0]) k9 I) fun g8=>(SWl.e2 (S:=[]) (Ef.alloc (zs:=[.bool false,.slice none 0 0]) k9 I) fun g9=>(zp (S:=[_]) (zy 6 I I I k9 I<|m9 I)<|zp (S:=[_]) (zy 7 I I I k9 I<|m9 I)<|zR<|za I (zx 4 2 I I k9 I zq)<|za I (zx 6 2 I I k9 I zq)<|za I (yu I I zaj)<|zp (S:=[_]) (zy 2 I I I k9 I<|m9 I)<|zd ?_)))))))
  refine zF (fn:=Tryz.f68) (fun _ _ h=>h) (zN I<|zU 2 I I k9)
theorem qh {n d n2 d2:Int} (h1:n=n2) (h2:d=d2):Con Tryz.prog 22 [Yd n d,Yd n2 d2] (yK true):=by
 refine zZ Tryz.func22 k9 I k9 fun base w0=>(zt (SWl.e2 (S:=[]) (yn I I) fun g2=>(SWl.e2 (S:=[]) (yn I I) fun g3=>(ze I<|zR<|za I (zm (n:=0) I k9)<|za I (zx 0 2 I I k9 I zq)<|za I (zm (n:=0) I k9)<|za I (zx 1 2 I I k9 I zq)<|zp (S:=[]) (zn (Wt (by first | rfl | assumption)) I ⟨zb _,zb _,t9⟩ I)<|zc I<|zT I (zm (n:=2) I k9)<|zT I (zx 0 2 I I k9 I zq)<|zT I (zm (n:=2) I k9)<|zT I (zx 1 2 I I k9 I zq)<|Zu (S:=[]) I I I I (zn (Wt (by first | rfl | assumption)) I ⟨zb _,zb _,t9⟩ I) ?_))))
 rintro _ rfl;refine za I (zE I I I) (ze I<|zd ?_);refine zF (fn:=Tryz.f22) (fun _ _ h=>h) (zN I<|zo I)
theorem VF {n:Int} (h1: -9223372036854775808≤n) (h2:n≤9223372036854775807):n.natAbs < zO:=by
 have h:n.natAbs < 256 ^ 9:=by omega
 exact Ju h (by unfold zO;exact Nat.pow_le_pow_right d9 d9)
theorem con_ofQ {n d:Int} (h1: -9223372036854775808≤n) (h2:n≤9223372036854775807) (h3: -9223372036854775808≤d) (h4:d≤9223372036854775807) (h0:d≠0):Con Tryz.prog 27 [yY n,yY d] (Zo [Yd (rn n d)<|rd n d,yY 0]):=by
 have hn:=VF h1 h2;have hd:=VF h3 h4;refine zZ Tryz.func27 k9 I k9 fun base w0=>(zt (SWl.e2 (S:=[]) (Ef.alloc (zs:=[.bool false,.slice none 0 0,.bool false,.slice none 0 0]) k9 I) fun g4=>(ze I<|zR<|zc I<|zp (S:=[]) (zn (jt h1 h2) I ⟨zb _,t9⟩ I)<|zc I<|zp (S:=[]) (zn (jt h3 h4) I ⟨zb _,t9⟩ I)<|zp (S:=[]) (zn (qi hn hd h0) I ⟨zb _,zb _,t9⟩ I)<|za I (zi I I)<|za I (zi I I)<|zp (S:=[_]) (zy 0 I I I k9 I<|m9 I)<|ze I<|zd ?_)));refine zF (fn:=Tryz.f27) (fun _ _ h=>h) (Rs.two I (zU 0 I I k9)<|zo I)
theorem zba {n d:Int} (h1: -9223372036854775808≤n) (h2:n≤9223372036854775807) (h3: -9223372036854775808≤d) (h4:d≤9223372036854775807) (h0:d≠0):Con Tryz.prog 32 [yY n,yY d] (Yd (rn n d)<|rd n d):=by
 have hn:=VF h1 h2;have hd:=VF h3 h4;refine zZ Tryz.func32 k9 I k9 fun base w0=>(zt (SWl.e2 (S:=[]) (Ef.alloc (zs:=[.bool false,.slice none 0 0,.bool false,.slice none 0 0]) k9 I) fun g4=>(zR<|zc I<|zp (S:=[]) (zn (za8 h1 h2) I ⟨zb _,t9⟩ I)<|zc I<|zp (S:=[]) (zn (za8 h3 h4) I ⟨zb _,t9⟩ I)<|zp (S:=[]) (zn (zac hn hd h0) I ⟨zb _,zb _,t9⟩ I)<|zp (S:=[_]) (zy 0 I I I k9 I<|m9 I)<|zd ?_)));refine zF (fn:=Tryz.f32) (fun _ _ h=>h) (zN I<|zU 0 I I k9)
theorem con_zero:Con Tryz.prog 86 [] (Yd 0 1):=by
 refine zZ Tryz.func86 k9 I k9 fun base w0=>(zt (SWl.e2 (S:=[]) (Ef.alloc (zs:=[.bool false,.slice none 0 0,.bool false,.slice none 0 0]) k9 I) fun g0=>(zR<|zp (S:=[]) (zn (jt d9 d9) I ⟨zb _,t9⟩ I)<|zp (S:=[]) (zn (jt d9 d9) I ⟨zb _,t9⟩ I)<|za I (yu I I zaj)<|zp (S:=[_]) (zy 0 I I I k9 I<|m9 I)<|zd ?_)));refine zF (fn:=Tryz.f86) (fun _ _ h=>h) (zN I<|zU 0 I I k9)
end Sx
namespace Sx
theorem con_signQ {n d:Int} (hG:Good n d):Con Tryz.prog 29 [Yd n d] (yY n.sign):=by
 refine zZ Tryz.func29 k9 I k9 fun base w0=>(zt (SWl.e2 (S:=[]) (yn I I) fun g1=>(ze I<|zd<|zh<|zt<|za I (zx 0 4 I I k9 I zq)<|zp (S:=[]) (zn (Zh hG) I ⟨zb _,t9⟩ I)<|za I (yG I)<|zd<|zI I I<|zw<|zg<|zt<|za I (zm (n:=0) I k9)<|za I (zx 0 2 I I k9 I zq)<|zp (S:=[]) (zn (YR hG.hn) I ⟨zb _,t9⟩ I)<|ze I<|zd ?_)));refine zF (fn:=Tryz.f29) (fun _ _ h=>h) (zN I<|zo I)
