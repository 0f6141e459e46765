/- WHAT IS KNOWN OF RATIOS; the walks of ratio's Valid, Make, Of, Zero, From and of the reference's Valid, Reduce, Of, Same. THE WALKS of ratio's Sign, N -/
import Derived.Test.YtfoafihodanmhaaGreatDoorGZAV
set_option maxHeartbeats 8000000
set_option maxRecDepth 100000
namespace Go.Proofs.YtfoafihodanmhaaGreatDoor
open Go.RowKit
open Nm (W32)
namespace Sx
abbrev zak (n d:Int):List D:=[isD<|.bool<|decide (n < 0),bytD n.natAbs,isD<|.bool<|decide (d < 0),bytD d.natAbs]
abbrev ju (n d:Int):D:=Z8 (zak n d)
abbrev rratC (s:Bool) (b:LN) (t:Bool) (c:LN):List D:=[isD<|.bool s,zeJ b,isD<|.bool t,zeJ c]
abbrev rratD (s:Bool) (b:LN) (t:Bool) (c:LN):D:=Z8 (rratC s b t c)
theorem jB {n d n' d':Int} (h:n=n') (k:d=d'):Le (ju n d) (ju n' d'):=by subst h k;exact zc _
theorem leC_rat0:LeAll [isD<|.bool false,isD<|.slice none 0 0,isD<|.bool false,isD<|.slice none 0 0] (zak 0 0):=by
 have h:Le (isD<|.slice none 0 0) (bytD (0:Int).natAbs):=by
  have:(Nm.dg 256 (0:Int).natAbs).reverse=[]:=by rw [show (0:Int).natAbs=0 from rfl,Nm.dg_zero];rfl
  unfold bytD;rw [this];exact KX
 exact ⟨zc _,h,zc _,h,t9⟩
theorem le_rat0:Le (Z8 [isD<|.bool false,isD<|.slice none 0 0,isD<|.bool false,isD<|.slice none 0 0]) (ju 0 0):=Le.agg leC_rat0
theorem bldR0:Bld Tryz.prog 78 [] [] [isD<|.bool false,isD<|.slice none 0 0,isD<|.bool false,isD<|.slice none 0 0]:=fun L w vs h=>by
 obtain rfl:=all0 h;exact ⟨[.bool false,.slice none 0 0,.bool false,.slice none 0 0],⟨I,I,I,I,t9⟩,fun w'=>by kernel_rfl⟩
theorem bldR2 {d e f g:D}:Bld Tryz.prog 78 [0,1] [Z8 [d,e],Z8 [f,g]] [d,e,f,g]:=fun L w vs h=>by
 obtain ⟨u,v,rfl,hu,hv⟩:=zbB h;obtain ⟨a,b,rfl,h1,h2⟩:=agg2 hu;obtain ⟨a',b',rfl,h3,h4⟩:=agg2 hv;exact ⟨[a,b,a',b'],⟨h1,h2,h3,h4,t9⟩,fun w'=>by kernel_rfl⟩
def okB (n d:Int):Bool:=decide (0 < d) && decide (Nat.gcd n.natAbs d.natAbs=1)
def toZ (s:Bool) (b:LN):Int:=sgn s (zbc b.reverse)
def zbK (s:Bool) (b:LN) (t:Bool) (c:LN):Bool:=vld s b && (vld t c && okB (toZ s b) (toZ t c))
structure Good (n d:Int):Prop where
 hn:n.natAbs < ya
 hd:d.natAbs < ya
 pos:0 < d
 g:Nat.gcd n.natAbs d.natAbs=1
theorem valL_dg:∀ (n X:Nat),X≤n→zbc (Nm.dg 256 X)=X
 | 0,X,h=>by
  obtain rfl:X=0:=by omega
  rw [Nm.dg_zero];rfl
 | n + 1,X,h=>by
  by_cases h0:X=0
  ·subst h0;rw [Nm.dg_zero];rfl
  ·rw [Nm.dg_pos d9 h0];simp only [zbc];rw [valL_dg n (X / 256) o9];omega
theorem ja (n:Int):toZ (decide (n < 0)) (Nm.dg 256 n.natAbs).reverse=n:=by
 unfold toZ;rw [List.reverse_reverse,valL_dg _ _<|Js _];unfold sgn
 by_cases h:n < 0
 ·rw [Jo h,Jh rfl];omega
 ·rw [Jd h,Jb d9];omega
theorem zdK {n d:Int} (hn:n.natAbs < ya) (hd:d.natAbs < ya):zbK (decide (n < 0)) (Nm.dg 256 n.natAbs).reverse (decide (d < 0)) (Nm.dg 256 d.natAbs).reverse=okB n d:=by
 unfold zbK;rw [vld_int hn,vld_int hd,ja,ja]
 rfl
theorem Good.ok {n d:Int} (h:Good n d):okB n d=true:=by unfold okB;rw [Jo h.pos,Jo h.g];rfl
theorem Good.rv {n d:Int} (h:Good n d):zbK (decide (n < 0)) (Nm.dg 256 n.natAbs).reverse (decide (d < 0)) (Nm.dg 256 d.natAbs).reverse=true:=by rw [zdK h.hn h.hd,h.ok]
theorem Good.d0 {n d:Int} (h:Good n d):d≠0:=by have:=h.pos;omega
theorem rvld_out {s t:Bool} {b c:LN} (hb:∀ d∈b,d < 256) (hc:∀ d∈c,d < 256) (hv:zbK s b t c=true):∃ n d:Int,Good n d∧s=decide (n < 0)∧b=(Nm.dg 256 n.natAbs).reverse∧t=decide (d < 0)∧c=(Nm.dg 256 d.natAbs).reverse:=by
 unfold zbK at hv;simp only [JL] at hv;obtain ⟨h1,h2,h3⟩:=hv;obtain ⟨n,hn,rfl,rfl⟩:=zbb hb h1;obtain ⟨d,hd,rfl,rfl⟩:=zbb hc h2;rw [ja,ja] at h3;unfold okB at h3;simp only [JL,Jz] at h3;exact ⟨n,d,⟨hn,hd,h3.1,h3.2⟩,I,I,I,I⟩
structure Byt (b c:LN):Prop where
 l:∀ d∈b,d < 256
 r:∀ d∈c,d < 256
theorem cmpZ_eq0 {x y:Int}:VA x y=0↔x=y:=by
 unfold VA
 by_cases h:x < y
 ·rw [Jh h];omega
 ·rw [Jb h]
  by_cases h2:x=y
  ·rw [Jh h2];simp [h2]
  ·rw [Jb h2];simp [h2]
theorem sign_le {d:Int} (h:¬0 < d):d.sign≤0:=by
 rcases Int.lt_or_eq_of_le (Int.not_lt.1 h) with h | h
 ·rw [Int.sign_eq_neg_one_of_neg h];decide
 ·rw [h];decide
theorem zdI {d:Int} (h:0 < d):d.sign=1:=Int.sign_eq_one_of_pos h
theorem rv_1 {s t:Bool} {b c:LN} (h:vld t c=false):Con Tryz.prog 56 [rratD s b t c] (yL false):=by
 refine yy Tryz.func56 k9 I k9 fun base w0=>(zn (SWl.e2 (S:=[]) (ym I I) fun g1=>(zf I<|ze<|zh<|zn<|za I (zg (n:=2) I k9)<|za I (zx 0 2 I I k9 I zm)<|zu (S:=[]) (zv (con_signB h) I ⟨zc _,t9⟩ I)<|za I (Zn I I)<|ze<|yj I d9<|zn<|zf I<|ze ?_)));refine zO (fn:=Tryz.f56) (fun _ _ h=>h) (zG I<|zk I)
theorem rv_2 {s:Bool} {b:LN} {d:Int} (hd:d.natAbs < ya) (h:¬0 < d):Con Tryz.prog 56 [Z8<|rintC s b ++ VL d] (yL false):=by
 refine yy Tryz.func56 k9 I k9 fun base w0=>(zn (SWl.e2 (S:=[]) (ym I I) fun g1=>(zf I<|ze<|zh<|zn<|za I (zg (n:=2) I k9)<|za I (zx 0 2 I I k9 I zm)<|zu (S:=[]) (zv (jj hd) I ⟨zc _,t9⟩ I)<|za I (Zn I I)<|ze<|yj I (Jo<|sign_le h)<|zn<|zf I<|ze ?_)));refine zO (fn:=Tryz.f56) (fun _ _ h=>h) (zG I<|zk I)
theorem rv_3 {s:Bool} {b:LN} {d:Int} (hv:vld s b=false) (hd:d.natAbs < ya) (h:0 < d):Con Tryz.prog 56 [Z8<|rintC s b ++ VL d] (yL false):=by
 refine yy Tryz.func56 k9 I k9 fun base w0=>(zn (SWl.e2 (S:=[]) (ym I I) fun g1=>(zf I<|ze<|zh<|zn<|za I (zg (n:=2) I k9)<|za I (zx 0 2 I I k9 I zm)<|zu (S:=[]) (zv (zaM hd<|zdI h) I ⟨zc _,t9⟩ I)<|za I (Zn I I)<|ze<|zK I d9<|zq<|zj<|zn<|za I (zg (n:=0) I k9)<|za I (zx 0 2 I I k9 I zm)<|za I (zg (n:=2) I k9)<|za I (zx 0 2 I I k9 I zm)<|zu (S:=[]) (zv (con_gcdB (by rw [hv,Bool.false_and])) I ⟨zc _,zc _,t9⟩ I)<|zd I<|za I (zo I I)<|za I (zo I I) (SWl.e2 (S:=[]) (Ef.alloc (zs:=[.bool false,.slice none 0 0]) k9 I) fun g3=>(zu (S:=[_]) (zA 1 I I I k9 I<|m9 I)<|zf I<|ze<|zh<|yl [] (rr [0,1,2,3]<|.n 4 (.n 5 (rr [6,7,8] .fin) .no) .no) k9 k9 (fun d _ _ _ _ h=>by cases d <;> exact h)<|zz I I<|zl I I (Zr I I)<|zz I I<|zD I I I d9 I I ?_)))))
 refine YK I I I d9 I I ?_ yB;refine YK I I I d9 I I ?_ yB;refine zD I I I d9 I I (zl I I (zw I d9 I)<|yR I I<|yE ?_);refine zO (fn:=Tryz.f56) (fun _ _ h=>h) (zG I<|zk I)
theorem rv_4 {n d:Int} (hn:n.natAbs < ya) (hd:d.natAbs < ya) (h:0 < d):Con Tryz.prog 56 [ju n d] (yL<|decide (Nat.gcd n.natAbs d.natAbs=1)):=by
 have hg:(zeY n d).natAbs < ya:=Nat.lt_of_le_of_lt (gcd_le o9) hd
 refine yy Tryz.func56 k9 I k9 fun base w0=>(zn (SWl.e2 (S:=[]) (ym I I) fun g1=>(zf I<|ze<|zh<|zn<|za I (zg (n:=2) I k9)<|za I (zx 0 2 I I k9 I zm)<|zu (S:=[]) (zv (zaM hd<|zdI h) I ⟨zc _,t9⟩ I)<|za I (Zn I I)<|ze<|zK I d9<|zq<|zj<|zn<|za I (zg (n:=0) I k9)<|za I (zx 0 2 I I k9 I zm)<|za I (zg (n:=2) I k9)<|za I (zx 0 2 I I k9 I zm)<|zu (S:=[]) (zv (con_gcd hn hd) I ⟨zc _,zc _,t9⟩ I)<|zd I<|za I (zo I I)<|za I (zo I I) (SWl.e2 (S:=[]) (Ef.alloc (zs:=[.bool false,.slice none 0 0]) k9 I) fun g3=>(zu (S:=[_]) (zA 1 I I I k9 I<|m9 I)<|zf I<|ze<|zh<|yl [] (rr [0,1,2,3]<|.n 4 (.n 5 (rr [6,7,8] .fin) .no) .no) k9 k9 (fun d _ _ _ _ h=>by cases d <;> exact h)<|zz I I<|zl I I (Zr I I)<|zz I I<|zy I I I d9 I I (zx 1 2 I I k9 I zm) ?_)))))
 refine Ys I I I d9 I (zv (Ki d9 d9) I ⟨zc _,t9⟩ I) ?_ yB;rintro _ rfl;refine Ys I I I d9 I (zv (qm hg zdS) I ⟨zc _,zc _,t9⟩ I) ?_ yB;rintro _ rfl;refine zy I I I d9 I I (Zr I I) (zl I I (zE I d9 I)<|yR I I<|yE<|zO (fn:=Tryz.f56) (fun _ _ h=>h)<|Rs.le (zG I<|zk I) ?_);exact le_v (JY Value.bool<|JW.2<|cmpZ_eq0.trans (by unfold zeY;omega))
theorem ze9 {s t:Bool} {b c:LN} (hB:Byt b c):Con Tryz.prog 56 [rratD s b t c] (yL<|zbK s b t c):=by
 cases h2:vld t c
 ·have e:zbK s b t c=false:=by unfold zbK;rw [h2,Bool.false_and,Bool.and_false]
  rw [e];exact rv_1 h2
 ·obtain ⟨d,hd,rfl,rfl⟩:=zbb hB.r h2
  by_cases hp:0 < d
  ·cases h1:vld s b
   ·have e:zbK s b (decide (d < 0)) (Nm.dg 256 d.natAbs).reverse=false:=by unfold zbK;rw [h1,Bool.false_and]
    rw [e];exact rv_3 h1 hd hp
   ·obtain ⟨n,hn,rfl,rfl⟩:=zbb hB.l h1;rw [zdK hn hd];have h:=rv_4 hn hd hp
    have e:okB n d=decide (Nat.gcd n.natAbs d.natAbs=1):=by unfold okB;rw [Jo hp,Bool.true_and]
    rw [e];exact h
  ·have e:zbK s b (decide (d < 0)) (Nm.dg 256 d.natAbs).reverse=false:=by
    unfold zbK okB;rw [ja,Jd hp,Bool.false_and,Bool.and_false,Bool.and_false]
   rw [e];exact rv_2 hd hp
theorem ZO {n d:Int} (h:Good n d):Con Tryz.prog 56 [ju n d] (yL true):=
 (rv_4 h.hn h.hd h.pos).mono ⟨zc _,trivial⟩ (zI (by rw [Jo h.g]))
theorem zcg {s t:Bool} {b c:LN} (hB:Byt b c) (h:zbK s b t c=false):Con Tryz.prog 56 [rratD s b t c] (yL false):=
 (ze9 hB).mono ⟨zc _,trivial⟩ (zI (by rw [h]))
def gz (n d:Int):Int:=if d < 0 then -zeY n d else zeY n d
def rn (n d:Int):Int:=dq n (gz n d)
def rd (n d:Int):Int:=dq d (gz n d)
theorem zaB (n d:Int):(gz n d).natAbs=Nat.gcd n.natAbs d.natAbs:=by
 unfold gz
 split
 ·rw [Int.natAbs_neg,zc5]
 ·rw [zc5]
theorem gz_ne (n:Int) {d:Int} (h:d≠0):gz n d≠0:=fun e=>by
 have h1:=zaB n d;have h2:0 < Nat.gcd n.natAbs d.natAbs:=Nat.gcd_pos_of_pos_right _ o9;rw [e] at h1;simp at h1;omega
theorem gz_le {n d:Int} (h:d≠0):(gz n d).natAbs≤d.natAbs:=by rw [zaB];exact Nat.gcd_le_right _ o9
theorem VU {x:Int}:x.sign=0↔x=0:=Int.sign_eq_zero_iff_zero
theorem dq_one (x:Int):dq x 1=x:=by
 have h1:=dq_dr (y:=1) x d9;have h2:=zaI (x:=x) (y:=1) d9
 have h3:dr x 1=0:=by
  have:(1:Int).natAbs=1:=rfl;omega
 omega
theorem Good.gz1 {n d:Int} (h:Good n d):gz n d=1:=by
 have h1:=h.pos;unfold gz zeY;rw [Jb o9,h.g]
 rfl
theorem Good.rn {n d:Int} (h:Good n d):rn n d=n:=by unfold Sx.rn;rw [h.gz1,dq_one]
theorem Good.rd {n d:Int} (h:Good n d):rd n d=d:=by unfold Sx.rd;rw [h.gz1,dq_one]
theorem VZ {n:Int} (hn:n.natAbs < ya):Good n 1:=⟨hn,zdS,by decide,by simp⟩
theorem rn_abs {n d:Int} (hd:d≠0):(rn n d).natAbs≤n.natAbs:=zeb (gz_ne n hd)
theorem rd_abs {n d:Int} (hd:d≠0):(rd n d).natAbs≤d.natAbs:=zeb (gz_ne n hd)
theorem jZ {n d:Int} (hn:n.natAbs < ya) (hd:d.natAbs < ya) (h0:d≠0):Con Tryz.prog 102 [YP n,YP d] (ZH [ju (rn n d)<|rd n d,ZK 0]):=by
 have hg:(zeY n d).natAbs < ya:=Nat.lt_of_le_of_lt (gcd_le h0) hd;have hz0:=gz_ne n h0;have hz5:(gz n d).natAbs < ya:=Nat.lt_of_le_of_lt (gz_le h0) hd;refine yy Tryz.func102 k9 I k9 fun base w0=>(zn (SWl.e2 (S:=[]) (ym I I) fun g2=>(SWl.e2 (S:=[]) (ym I I) fun g3=>(SWl.e2 (S:=[]) (Ef.alloc (zs:=[.bool false,.slice none 0 0,.bool false,.slice none 0 0]) k9 I) fun g4=>(zf I<|ze<|zh<|zn<|za I (zx 0 2 I I k9 I zm)<|zu (S:=[]) (zv (WB hn) I ⟨zc _,t9⟩ I)<|za I (yu I)<|zd I<|zJ I (zx 1 2 I I k9 I zm)<|yN (S:=[]) I I I I (zv (jj hd) I ⟨zc _,t9⟩ I) ?_)))));rintro _ rfl;refine zJ I (Zr I I) (za I (zw I I I)<|ze<|zK I (Jd (fun h=>h0<|VU.1 h))<|zq<|zj<|zn<|za I (zx 0 2 I I k9 I zm)<|za I (zx 1 2 I I k9 I zm)<|zu (S:=[]) (zv (con_gcd hn hd) I ⟨zc _,zc _,t9⟩ I)<|zd I<|za I (zo I I)<|za I (zo I I) (SWl.e2 (S:=[]) (Ef.alloc (zs:=[.bool false,.slice none 0 0]) k9 I) fun g6=>(zu (S:=[_]) (zA 3 I I I k9 I<|m9 I)<|zf I<|ze<|zh<|zn<|zd I<|za I (Zr I I)<|zd I<|yI I I d9 I I (zx 1 2 I I k9 I zm)<|yN (S:=[]) I I d9 I (zv (jj hd) I ⟨zc _,t9⟩ I) ?_)))
 rintro _ rfl;refine yI I I d9 I I (yc I I) (za I (zE I d9 I)<|ze<|zC I (fun hb33=> ?_) (fun hb33=> ?_))
 ·have hneg:d < 0:=Int.sign_neg_iff.1 (oT hb33);have hz: -zeY n d=gz n d:=(by unfold gz;rw [Jh hneg]);refine zi (za I (zx 3 2 I I k9 I zm)<|zu (S:=[]) (zv (con_neg hg) I ⟨zc _,t9⟩ I)<|zd I<|za I (zo I I)<|za I (zo I I)<|zu (S:=[_]) (zA 3 I I I k9 I<|m9 I)<|zf I<|ze<|zh<|zh<|SW.sub (σ':=St.of [(2,pA g2),(3,pA g3),(4,pA g4),(6,pA g6),(7,ZK 0)] [(g2,VL<|n),(g3,VL<|d),(g4,[isD<|.bool false,isD<|.slice none 0 0,isD<|.bool false,isD<|.slice none 0 0]),(g6,VL<|gz n d)]) (⟨⟨_,I,(sT I)⟩,[0,1,2,3],by decide,⟨la rfl,⟨la rfl,⟨la rfl,⟨⟨_,rfl,leC_int hz⟩,trivial⟩⟩⟩⟩⟩)<|zi<|zd I<|za I (yv I I)<|ze<|zK I d9<|zq<|zj<|zn<|za I (zx 0 2 I I k9 I zm)<|za I (zx 3 2 I I k9 I zm)<|zu (S:=[]) (zv (qh hn hz5 hz0) I ⟨zc _,zc _,t9⟩ I)<|zd I<|za I (zo I I)<|za I (zo I I)<|za I (zo I I) (SWl.e2 (S:=[]) (Ef.alloc (zs:=[.bool false,.slice none 0 0]) k9 I) fun g8=>(SWl.e2 (S:=[]) (Ef.alloc (zs:=[.bool false,.slice none 0 0]) k9 I) fun g9=>(zu (S:=[_]) (zA 4 I I I k9 I<|m9 I)<|zu (S:=[_]) (zA 5 I I I k9 I<|m9 I)<|zf I<|ze<|zh<|zh<|SW.sub (σ':=St.of [(3,pA g3),(4,pA g4),(6,pA g6),(8,pA g8),(7,ZK 0)] [(g3,VL<|d),(g4,[isD<|.bool false,isD<|.slice none 0 0,isD<|.bool false,isD<|.slice none 0 0]),(g6,VL<|gz n d),(g8,VL<|rn n d)]) (sB [1,2,3,4] I I) ?_))))
  refine zi (zd I<|za I (yv I I)<|ze<|zK I d9<|zq<|zj<|zn<|za I (zx 0 2 I I k9 I zm)<|za I (zx 2 2 I I k9 I zm)<|zu (S:=[]) (zv (qh hd hz5 hz0) I ⟨zc _,zc _,t9⟩ I)<|zd I<|za I (zo I I)<|za I (zo I I)<|za I (zo I I) (SWl.e2 (S:=[]) (Ef.alloc (zs:=[.bool false,.slice none 0 0]) k9 I) fun g10=>(SWl.e2 (S:=[]) (Ef.alloc (zs:=[.bool false,.slice none 0 0]) k9 I) fun g11=>(zu (S:=[_]) (zA 4 I I I k9 I<|m9 I)<|zu (S:=[_]) (zA 5 I I I k9 I<|m9 I)<|zf I<|ze<|zh<|zn<|zd I<|za I (yv I I)<|ze<|zK I d9<|zq<|zj<|zn<|za I (zx 3 2 I I k9 I zm)<|za I (zx 4 2 I I k9 I zm)<|za I (yF I I bldR2)<|zu (S:=[_]) (zA 1 I I I k9 I<|m9 I) ?_))));refine zf I (ze ?_);refine zO (fn:=Tryz.f102) (fun _ _ h=>h) (Rs.two I (yx 1 I I k9)<|zk I)
 ·have hz:zeY n d=gz n d:=(by unfold gz;rw [Jb (fun hneg=>oF hb33<|Int.sign_neg_iff.2 hneg)]);refine zq (zj<|zh<|zh<|SW.sub (σ':=St.of [(2,pA g2),(3,pA g3),(4,pA g4),(6,pA g6),(7,ZK 0)] [(g2,VL<|n),(g3,VL<|d),(g4,[isD<|.bool false,isD<|.slice none 0 0,isD<|.bool false,isD<|.slice none 0 0]),(g6,VL<|gz n d)]) (⟨⟨_,I,(sT I)⟩,[0,1,2,3],by decide,⟨la rfl,⟨la rfl,⟨la rfl,⟨⟨_,rfl,leC_int hz⟩,trivial⟩⟩⟩⟩⟩)<|zi<|zd I<|za I (yv I I)<|ze<|zK I d9<|zq<|zj<|zn<|za I (zx 0 2 I I k9 I zm)<|za I (zx 3 2 I I k9 I zm)<|zu (S:=[]) (zv (qh hn hz5 hz0) I ⟨zc _,zc _,t9⟩ I)<|zd I<|za I (zo I I)<|za I (zo I I)<|za I (zo I I) (SWl.e2 (S:=[]) (Ef.alloc (zs:=[.bool false,.slice none 0 0]) k9 I) fun g8=>(SWl.e2 (S:=[]) (Ef.alloc (zs:=[.bool false,.slice none 0 0]) k9 I) fun g9=>(zu (S:=[_]) (zA 4 I I I k9 I<|m9 I)<|zu (S:=[_]) (zA 5 I I I k9 I<|m9 I)<|zf I<|ze<|zh<|zh<|SW.sub (σ':=St.of [(3,pA g3),(4,pA g4),(6,pA g6),(8,pA g8),(7,ZK 0)] [(g3,VL<|d),(g4,[isD<|.bool false,isD<|.slice none 0 0,isD<|.bool false,isD<|.slice none 0 0]),(g6,VL<|gz n d),(g8,VL<|rn n d)]) (sB [1,2,3,4] I I)<|zi<|zd I<|za I (yv I I)<|ze<|zK I d9<|zq<|zj ?_))))
  refine zn (za I (zx 0 2 I I k9 I zm)<|za I (zx 2 2 I I k9 I zm)<|zu (S:=[]) (zv (qh hd hz5 hz0) I ⟨zc _,zc _,t9⟩ I)<|zd I<|za I (zo I I)<|za I (zo I I)<|za I (zo I I) (SWl.e2 (S:=[]) (Ef.alloc (zs:=[.bool false,.slice none 0 0]) k9 I) fun g10=>(SWl.e2 (S:=[]) (Ef.alloc (zs:=[.bool false,.slice none 0 0]) k9 I) fun g11=>(zu (S:=[_]) (zA 4 I I I k9 I<|m9 I)<|zu (S:=[_]) (zA 5 I I I k9 I<|m9 I)<|zf I<|ze<|zh<|zn<|zd I<|za I (yv I I)<|ze<|zK I d9<|zq<|zj<|zn<|za I (zx 3 2 I I k9 I zm)<|za I (zx 4 2 I I k9 I zm)<|za I (yF I I bldR2)<|zu (S:=[_]) (zA 1 I I I k9 I<|m9 I)<|zf I<|ze ?_))));refine zO (fn:=Tryz.f102) (fun _ _ h=>h) (Rs.two I (yx 1 I I k9)<|zk I)
theorem i64_512 {n:Int} (h1: -9223372036854775808≤n) (h2:n≤9223372036854775807):n.natAbs < ya:=by
 have h:n.natAbs < 256 ^ 9:=by omega
 exact Ju h (by unfold ya;exact Nat.pow_le_pow_right d9 d9)
theorem con_ofQ {n d:Int} (h1: -9223372036854775808≤n) (h2:n≤9223372036854775807) (h3: -9223372036854775808≤d) (h4:d≤9223372036854775807) (h0:d≠0):Con Tryz.prog 50 [ZK n,ZK d] (ZH [ju (rn n d)<|rd n d,ZK 0]):=by
 have hn:=i64_512 h1 h2;have hd:=i64_512 h3 h4;refine yy Tryz.func50 k9 I k9 fun base w0=>(zn (SWl.e2 (S:=[]) (Ef.alloc (zs:=[.bool false,.slice none 0 0,.bool false,.slice none 0 0]) k9 I) fun g4=>(zf I<|zN<|zd I<|zu (S:=[]) (zv (Ki h1 h2) I ⟨zc _,t9⟩ I)<|zd I<|zu (S:=[]) (zv (Ki h3 h4) I ⟨zc _,t9⟩ I)<|zu (S:=[]) (zv (jZ hn hd h0) I ⟨zc _,zc _,t9⟩ I)<|za I (zo I I)<|za I (zo I I)<|zu (S:=[_]) (zA 0 I I I k9 I<|m9 I)<|zf I<|ze ?_)));refine zO (fn:=Tryz.f50) (fun _ _ h=>h) (Rs.two I (yx 0 I I k9)<|zk I)
theorem con_zero:Con Tryz.prog 106 [] (ju 0 1):=by
 refine yy Tryz.func106 k9 I k9 fun base w0=>(zn (SWl.e2 (S:=[]) (Ef.alloc (zs:=[.bool false,.slice none 0 0,.bool false,.slice none 0 0]) k9 I) fun g0=>(zN<|zu (S:=[]) (zv (Ki d9 d9) I ⟨zc _,t9⟩ I)<|zu (S:=[]) (zv (Ki d9 d9) I ⟨zc _,t9⟩ I)<|za I (yF I I bldR2)<|zu (S:=[_]) (zA 0 I I I k9 I<|m9 I)<|ze ?_)));refine zO (fn:=Tryz.f106) (fun _ _ h=>h) (zG I<|yx 0 I I k9)
end Sx
namespace Sx
theorem WF {n d:Int} (hG:Good n d):Con Tryz.prog 14 [ju n d] (ZK n.sign):=by
 refine yy Tryz.func14 k9 I k9 fun base w0=>(zn (SWl.e2 (S:=[]) (ym I I) fun g1=>(zf I<|ze<|zh<|zn<|za I (zx 0 4 I I k9 I zm)<|zu (S:=[]) (zv (ZO hG) I ⟨zc _,t9⟩ I)<|za I (yu I)<|ze<|zK I I<|zq<|zj<|zn<|za I (zg (n:=0) I k9)<|za I (zx 0 2 I I k9 I zm)<|zu (S:=[]) (zv (jj hG.hn) I ⟨zc _,t9⟩ I)<|zf I<|ze ?_)));refine zO (fn:=Tryz.f14) (fun _ _ h=>h) (zG I<|zk I)
end Sx
namespace Sx
def apE (f e:Int):Int:=if f=0 then e else f
def apZ (f z:Int):Int:=if f=0 then z else 0
theorem Km {f e:Int} (h:f=0):apE f e=e:=Jh h
theorem zaV {f e:Int} (h:¬f=0):apE f e=f:=Jb h
theorem WT {f e:Int} (h:f=0):apZ f e=e:=Jh h
theorem apZ_no {f e:Int} (h:¬f=0):apZ f e=0:=Jb h
theorem zbA {f e:Int} (h:apE f e=0):f=0∧e=0:=by
 by_cases hf:f=0
 ·rw [Km hf] at h;exact ⟨hf,h⟩
 ·rw [zaV hf] at h;exact absurd h hf
theorem lim_lt (z:Int):(qY z).natAbs < ya:=by
 by_cases h:z.natAbs < ya
 ·rw [(yY h).1];exact h
 ·rw [(zdW h).1];exact Nat.lt_trans d9 zdS
theorem apZ_lt {f z:Int} (h:z.natAbs < ya):(apZ f z).natAbs < ya:=by
 unfold apZ
 split
 ·exact h
 ·exact Nat.lt_trans d9 zdS
theorem zdY {z:Int} (h:Y3 z=0):z.natAbs < ya:=Classical.byContradiction fun hn=>by rw [(zdW hn).2] at h;cases h
theorem zdX {z:Int} (h:Y3 z≠0):Y3 z=7∧¬z.natAbs < ya:=by
 by_cases hz:z.natAbs < ya
 ·exact absurd (yY hz).2 h
 ·exact ⟨(zdW hz).2,hz⟩
def zaE (l:List Int):Bool:=l.all fun z=>decide (z.natAbs < ya)
def qN (l:List Int) (n d:Int):Int:=if zaE l=true then rn n d else 0
def qD (l:List Int) (n d:Int):Int:=if zaE l=true then rd n d else 0
def qE (l:List Int):Int:=if zaE l=true then 0 else 7
theorem zd7 {l:List Int} {z:Int} (hf:zaE l=true) (h:z∈l):z.natAbs < ya:=by
 have:=List.all_eq_true.1 hf z h;simpa using this
theorem zd6 {n d:Int} (h:apE (apE 0<|Y3 n) (Y3 d)=0):zaE [n,d]=true∧apZ 0 (qY n)=n∧apZ (apE 0<|Y3 n) (qY d)=d:=by
 obtain ⟨h1,h2⟩:=zbA h;have h3:=(zbA h1).2;have f1:=zdY h3;have f2:=zdY h2;refine ⟨by simp [zaE,f1,f2],by rw [WT rfl,(yY f1).1],by rw [WT h1,(yY f2).1]⟩
theorem full_two {n d:Int} (h:¬apE (apE 0<|Y3 n) (Y3 d)=0):zaE [n,d]=false∧apE (apE 0<|Y3 n) (Y3 d)=7:=by
 by_cases h1:Y3 n=0
 ·rw [Km (rfl:(0:Int)=0),Km h1] at *;have:=zdX h;exact ⟨by simp [zaE,this.2],this.1⟩
 ·rw [Km (rfl:(0:Int)=0),zaV h1] at *;have:=zdX h1;exact ⟨by simp [zaE,this.2],this.1⟩
section
variable {x y d:Int}{jn:Int→Int→Int}
abbrev f2 (x y:Int):Int:=apE (apE 0<|Y3 x) (Y3 y)
abbrev f3 (jn:Int→Int→Int) (x y:Int):Int:=apE (f2 x y) (Y3<|jn (apZ 0<|qY x)<|apZ (apE 0<|Y3 x)<|qY y)
abbrev f4 (jn:Int→Int→Int) (x y d:Int):Int:=apE (f3 jn x y) (Y3 d)
theorem fits_four (h:f4 jn x y d=0):zaE [x,y,jn x y,d]=true∧apZ (f2 x y) (qY<|jn (apZ 0<|qY x)<|apZ (apE 0<|Y3 x)<|qY y)=jn x y∧apZ (f3 jn x y) (qY d)=d:=by
 obtain ⟨h1,h2⟩:=zbA h;obtain ⟨h3,h4⟩:=zbA h1;obtain ⟨f1,e1,e2⟩:=zd6 h3;rw [e1,e2] at h4;have f4:=zdY h4;have f5:=zdY h2;refine ⟨?_,?_,by rw [WT h1,(yY f5).1]⟩
 ·simp [zaE] at f1 ⊢;exact ⟨f1.1,f1.2,f4,f5⟩
 ·rw [WT h3,e1,e2,(yY f4).1]
theorem full_four (h:¬f4 jn x y d=0):zaE [x,y,jn x y,d]=false∧f4 jn x y d=7:=by
 by_cases h1:f2 x y=0
 ·obtain ⟨f1,e1,e2⟩:=zd6 h1
  have e3:f3 jn x y=Y3 (jn x y):=by unfold f3;rw [Km h1,e1,e2]
  have e4:f4 jn x y d=apE (Y3<|jn x y) (Y3 d):=by unfold f4;rw [e3]
  rw [e4] at h ⊢
  by_cases h2:Y3 (jn x y)=0
  ·rw [Km h2] at h ⊢;have:=zdX h;exact ⟨by simp [zaE,this.2],this.1⟩
  ·rw [zaV h2] at h ⊢;have:=zdX h2;exact ⟨by simp [zaE,this.2],this.1⟩
 ·obtain ⟨f1,e1⟩:=full_two h1
  have h2:f3 jn x y=7:=by unfold f3;rw [zaV h1];exact e1
  unfold f4;rw [zaV (by rw [h2];decide),h2];refine ⟨?_,I⟩;simp [zaE] at f1 ⊢;intro hx hy;exact absurd (f1 hx) o9
theorem calc_four {F1 F2 F3 F4 Z1 Z2 Z3 Z4:Int} (hF1:apE 0 (Y3 x)=F1) (hZ1:apZ 0 (qY x)=Z1) (hF2:apE F1 (Y3 y)=F2) (hZ2:apZ F1 (qY y)=Z2) (hF3:apE F2 (Y3<|jn Z1 Z2)=F3) (hZ3:apZ F2 (qY<|jn Z1 Z2)=Z3) (hF4:apE F3 (Y3 d)=F4) (hZ4:apZ F3 (qY d)=Z4):
  (F4=0→zaE [x,y,jn x y,d]=true∧Z3=jn x y∧Z4=d)∧(¬F4=0→zaE [x,y,jn x y,d]=false∧F4=7):=by
 subst hF1 hZ1 hF2 hZ2 hF3 hZ3 hF4 hZ4;exact ⟨fits_four,full_four⟩
end
theorem Good.mul0 {a b c e:Int} (h:Good a b) (k:Good c e):b * e≠0:=Int.mul_ne_zero h.d0 k.d0
theorem KP {g:Nat} {F:FuncId} {x y z e f E Z:Int} (hE:apE f e=E) (hZ:apZ f z=Z) (hop:f=0→Con Tryz.prog F [YP x,YP y] (ZH [YP z,ZK e])):ConB Tryz.prog 169 g ([ZK f]) ([ZK E]) [isD<|.func (.func F) #[] #[],YP x,YP y,pA g] (YP Z):=by
 refine con_ofB Tryz.func169 k9 I k9 fun base w0=>(zn (SWl.e2 (S:=[]) (ym I I) fun g5=>(SWl.e2 (S:=[]) (ym I I) fun g6=>(SWl.e2 (S:=[]) (Ef.alloc (zs:=[.bool false,.slice none 0 0]) k9 I) fun g7=>(ze<|zh<|zn<|za I (zp 0 I I I k9 zm)<|za I (yv I I)<|ze<|zC I (fun hb10=> ?_) (fun hb10=> ?_))))))
 ·have hf:¬f=0:=by simpa using hb10
  refine zn (za I (yF I I bldI0)<|zu (S:=[_]) (zA 3 I I I k9 I<|m9 I)<|ze<|zbG (fn:=Tryz.f169) (fun _ _ h=>h) (Rs.le (zG I<|yx 3 I I k9) ?_) I ?_)
  ·exact le_int0.trans (zb3<|(apZ_no hf).symm.trans hZ)
  ·exact ⟨Yi<|(zaV hf).symm.trans hE,t9⟩
 ·have hf:f=0:=by simpa using hb10
  refine zq (zj<|zn (SWl.e2 (S:=[]) (Ef.alloc (zs:=[.bool false,.slice none 0 0]) k9 I) fun g8=>(zN<|zd I<|za I (zx 1 2 I I k9 I zm)<|za I (zx 2 2 I I k9 I zm)<|zu (S:=[]) (j7 (cap:=[]) (hop hf) I I ⟨zc _,zc _,t9⟩ I)<|zd I<|za I (zo I I)<|za I (zo I I)<|zu (S:=[_]) (zA 4 I I I k9 I<|m9 I)<|zu (S:=[_]) (yW 0 I I I k9 I<|m9 I)<|zN<|za I (zx 4 2 I I k9 I zm)<|zu (S:=[_]) (zA 3 I I I k9 I<|m9 I)<|ze<|zbG (fn:=Tryz.f169) (fun _ _ h=>h) (Rs.le (zG I<|yx 3 I I k9) ?_) I ?_)))
  ·exact zb3 ((WT hf).symm.trans hZ)
  ·exact ⟨Yi<|(Km hf).symm.trans hE,t9⟩
abbrev mulF:Value:= .func (.func 166) #[] #[]
abbrev addF:Value:= .func (.func 167) #[] #[]
abbrev subF:Value:= .func (.func 168) #[] #[]
theorem bldU1 {a b:Nat}:Bld Tryz.prog 243 [0,1] [isD<|.func (.func a) #[] #[],isD<|.func (.func b) #[] #[]] [isD<|.func (.func a) #[] #[],isD<|.func (.func b) #[] #[]]:=fun L w vs h=>by
 obtain ⟨u,v,rfl,rfl,rfl⟩:=zbB h;exact ⟨[_,_],⟨I,I,t9⟩,fun w'=>by kernel_rfl⟩
theorem bldU2 {a:Nat}:Bld Tryz.prog 243 [0,1] [isD<|.func (.func a) #[] #[],isD .nilFunc] [isD<|.func (.func a) #[] #[],isD .nilFunc]:=fun L w vs h=>by
 obtain ⟨u,v,rfl,rfl,rfl⟩:=zbB h;exact ⟨[_,_],⟨I,I,t9⟩,fun w'=>by kernel_rfl⟩
theorem bldU3 {d e f g i j:D}:Bld Tryz.prog 244 [0,1,2] [Z8 [d,e],Z8 [f,g],Z8 [i,j]] [d,e,f,g,i,j]:=fun L w vs h=>by
 obtain ⟨u,v,z,rfl,hu,hv,hz⟩:=all3 h;obtain ⟨a,b,rfl,h1,h2⟩:=agg2 hu;obtain ⟨a',b',rfl,h3,h4⟩:=agg2 hv;obtain ⟨a2,b2,rfl,h5,h6⟩:=agg2 hz;exact ⟨[a,b,a',b',a2,b2],⟨h1,h2,h3,h4,h5,h6,t9⟩,fun w'=>by kernel_rfl⟩
theorem zch:Con Tryz.prog 142 [] (Z8 [isD mulF,isD addF,isD mulF,isD subF,isD mulF,isD .nilFunc]):=by
 refine yy Tryz.func142 k9 I k9 fun base w0=>(zn (SWl.e2 (S:=[]) (Ef.alloc (zs:=[.nilFunc,.nilFunc,.nilFunc,.nilFunc,.nilFunc,.nilFunc]) k9 I) fun g0=>(zN<|za I (yF I I (by first | exact bldU1 | exact bldU2))<|za I (yF I I (by first | exact bldU1 | exact bldU2))<|za I (yF I I (by first | exact bldU1 | exact bldU2))<|za I (yF I I bldU3)<|zu (S:=[_]) (zA 0 I I I k9 I<|m9 I)<|ze ?_)))
 refine zO (fn:=Tryz.f142) (fun _ _ h=>h) (zG I<|yx 0 I I k9)
theorem zcn {J:FuncId} {jn:Int→Int→Int} (hJ:∀ p q:Int,p.natAbs < ya→q.natAbs < ya→Con Tryz.prog J [YP p,YP q] (ZH [YP<|qY<|jn p q,ZK<|Y3<|jn p q])) {a b c e:Int} (ha:a.natAbs < ya) (hb:b.natAbs < ya) (hc:c.natAbs < ya) (he:e.natAbs < ya) (h0:b * e≠0):Con Tryz.prog 143 [ju a b,ju c e,isD mulF,isD<|.func (.func J) #[] #[]] (ZH [ju (qN [a * e,c * b,jn (a * e)<|c * b,b * e] (jn (a * e)<|c * b)<|b * e)<|qD [a * e,c * b,jn (a * e)<|c * b,b * e] (jn (a * e)<|c * b)<|b * e,ZK<|qE [a * e,c * b,jn (a * e)<|c * b,b * e]]):=by
 obtain ⟨F1,hF1⟩:∃ u,apE 0 (Y3<|a * e)=u:=⟨_,rfl⟩;obtain ⟨Z1,hZ1⟩:∃ u,apZ 0 (qY<|a * e)=u:=⟨_,rfl⟩;obtain ⟨F2,hF2⟩:∃ u,apE F1 (Y3<|c * b)=u:=⟨_,rfl⟩;obtain ⟨Z2,hZ2⟩:∃ u,apZ F1 (qY<|c * b)=u:=⟨_,rfl⟩;obtain ⟨F3,hF3⟩:∃ u,apE F2 (Y3<|jn Z1 Z2)=u:=⟨_,rfl⟩;obtain ⟨Z3,hZ3⟩:∃ u,apZ F2 (qY<|jn Z1 Z2)=u:=⟨_,rfl⟩;obtain ⟨F4,hF4⟩:∃ u,apE F3 (Y3<|b * e)=u:=⟨_,rfl⟩;obtain ⟨Z4,hZ4⟩:∃ u,apZ F3 (qY<|b * e)=u:=⟨_,rfl⟩;have hc4:=calc_four hF1 hZ1 hF2 hZ2 hF3 hZ3 hF4 hZ4
 have hz1:Z1.natAbs < ya:=by rw [← hZ1];exact apZ_lt (lim_lt _)
 have hz2:Z2.natAbs < ya:=by rw [← hZ2];exact apZ_lt (lim_lt _)
 refine yy Tryz.func143 k9 I k9 fun base w0=>(zn (SWl.e2 (S:=[]) (ym I I) fun g4=>(SWl.e2 (S:=[]) (ym I I) fun g5=>(SWl.e2 (S:=[]) (Ef.alloc (zs:=[.bool false,.slice none 0 0,.bool false,.slice none 0 0]) k9 I) fun g8=>(zf I<|zN (SWl.e2 (S:=[]) (Ef.alloc (zs:=[.int .i64 0]) k9 I) fun g10=>(zu (S:=[_]) (yW 3 I I I k9 I<|m9 I)<|zN<|za I (YA [.pointer<|some ⟨g10,0,none⟩] I)<|zf I<|zN (SWl.e2 (S:=[]) (Ef.alloc (zs:=[.bool false,.slice none 0 0]) k9 I) fun g12=>(ze<|zh<|zn<|zd I<|za I (Yo I I (r:= .bool false) (fun w=>by kernel_rfl))<|ze<|zK I I<|zn<|zd I<|zd I<|za I (zg (n:=0) I k9)<|za I (zx 0 2 I I k9 I zm) ?_)))))))));refine za I (zg (n:=2) I k9) (za I (zx 1 2 I I k9 I zm)<|zu (S:=[_]) (K5 (cap:=[.pointer<|some ⟨g10,0,none⟩]) 3 (KP hF1 hZ1 (fun _=>zde ha he)) I I ⟨zc _,zc _,zc _,zc _,t9⟩ I (m9 I) I) (SWl.e2 (S:=[]) (Ef.alloc (zs:=[.bool false,.slice none 0 0]) k9 I) fun g13=>(zu (S:=[_]) (zA 5 I I I k9 I<|m9 I)<|ze<|zh<|SW.sub (σ':=St.of [(4,pA g4),(5,pA g5),(8,pA g8),(10,pA g10),(12,pA g12),(13,pA g13),(2,isD mulF),(11,isD<|.func (.func 169) #[] #[.pointer<|some ⟨g10,0,none⟩]),(3,isD<|.func (.func J) #[] #[])] [(g4,zak (a)<|b),(g5,zak (c)<|e),(g8,[isD<|.bool false,isD<|.slice none 0 0,isD<|.bool false,isD<|.slice none 0 0]),(g10,[ZK F1]),(g12,[isD<|.bool false,isD<|.slice none 0 0]),(g13,VL Z1)]) (sB [0,1,2,3,4,5] I I)<|zi<|zd I<|zd I<|za I (zg (n:=0) I k9)<|za I (zx 1 2 I I k9 I zm)<|za I (zg (n:=2) I k9)<|za I (zx 0 2 I I k9 I zm)<|zu (S:=[_]) (K5 (cap:=[.pointer<|some ⟨g10,0,none⟩]) 3 (KP hF2 hZ2 (fun _=>zde hc hb)) I I ⟨zc _,zc _,zc _,zc _,t9⟩ I (m9 I) I) (SWl.e2 (S:=[]) (Ef.alloc (zs:=[.bool false,.slice none 0 0]) k9 I) fun g14=>(zu (S:=[_]) (zA 6 I I I k9 I<|m9 I)<|ze<|SW.sub (σ':=St.of [(4,pA g4),(5,pA g5),(8,pA g8),(10,pA g10),(12,pA g12),(13,pA g13),(14,pA g14),(2,isD mulF),(11,isD<|.func (.func 169) #[] #[.pointer<|some ⟨g10,0,none⟩]),(3,isD<|.func (.func J) #[] #[])] [(g4,zak (a)<|b),(g5,zak (c)<|e),(g8,[isD<|.bool false,isD<|.slice none 0 0,isD<|.bool false,isD<|.slice none 0 0]),(g10,[ZK F2]),(g12,[isD<|.bool false,isD<|.slice none 0 0]),(g13,VL Z1),(g14,VL Z2)]) (sB [0,1,2,3,4,5,6] I I)<|zi<|zd I<|zd I<|za I (zx 5 2 I I k9 I zm)<|za I (zx 6 2 I I k9 I zm)<|zu (S:=[_]) (K5 (cap:=[.pointer<|some ⟨g10,0,none⟩]) 3 (KP hF3 hZ3 (fun _=>hJ _ _ hz1 hz2)) I I ⟨zc _,zc _,zc _,zc _,t9⟩ I (m9 I) I)<|zu (S:=[_]) (zA 4 I I I k9 I<|m9 I)<|ze<|zh<|SW.sub (σ':=St.of [(4,pA g4),(5,pA g5),(8,pA g8),(10,pA g10),(12,pA g12),(2,isD mulF),(11,isD<|.func (.func 169) #[] #[.pointer<|some ⟨g10,0,none⟩])] [(g4,zak (a)<|b),(g5,zak (c)<|e),(g8,[isD<|.bool false,isD<|.slice none 0 0,isD<|.bool false,isD<|.slice none 0 0]),(g10,[ZK F3]),(g12,VL Z3)]) (sB [0,1,2,3,4] I I)<|zi<|zd I<|zd I<|za I (zg (n:=2) I k9)<|za I (zx 0 2 I I k9 I zm)<|za I (zg (n:=2) I k9)<|za I (zx 1 2 I I k9 I zm) ?_)))))
 refine zu (S:=[_]) (K5 (cap:=[.pointer<|some ⟨g10,0,none⟩]) 3 (KP hF4 hZ4 (fun _=>zde hb he)) I I ⟨zc _,zc _,zc _,zc _,t9⟩ I (m9 I) I) (SWl.e2 (S:=[]) (Ef.alloc (zs:=[.bool false,.slice none 0 0]) k9 I) fun g15=>(zu (S:=[_]) (zA 5 I I I k9 I<|m9 I)<|ze<|zh<|zn<|za I (zp 3 I I I k9 zm)<|za I (yv I I)<|ze<|zC I (fun hb53=> ?_) (fun hb53=> ?_)))
 ·obtain ⟨h1,h2⟩:=hc4.2 (by simpa using hb53)
  refine zh (yl [g8] (.r 0<|.r 1<|.e 2 (.r 3 .fin) .no) k9 k9 (fun d _ _ _ _ h=>by cases d <;> exact h)<|zl I I (yF I I bldR0)<|zl I I (zp 3 I I I k9<|ZR 2 I d9 zm)<|Zm I (zA 2 I I I k9 I<|Jc (i:=0) I)<|yR I I<|yE<|zO (fn:=Tryz.f143) (fun _ _ h=>h)<|Rs.le (Rs.two I (yx 2 I I k9)<|zk I) ?_)
  exact Zf ⟨le_rat0.trans<|jB (by unfold qN;rw [h1];rfl) (by unfold qD;rw [h1];rfl),Yi<|h2.trans (by unfold qE;rw [h1];rfl),t9⟩
 ·obtain ⟨h1,h2,h3⟩:=hc4.1 (by simpa using hb53);refine zq (zj<|zn<|za I (zx 4 2 I I k9 I zm)<|za I (zx 5 2 I I k9 I zm)<|zu (S:=[]) (zv (jZ (zd7 h1 s9) (zd7 h1 s9) h0) I ⟨zb3 h2,zb3 h3,t9⟩ I)<|za I (zo I I)<|za I (zo I I)<|zu (S:=[_]) (zA 2 I I I k9 I<|m9 I)<|zf I<|ze<|zO (fn:=Tryz.f143) (fun _ _ h=>h)<|Rs.le (Rs.two I (yx 2 I I k9)<|zk I) ?_);exact Zf ⟨jB (by unfold qN;rw [Jh h1]) (by unfold qD;rw [Jh h1]),Yi (by unfold qE;rw [Jh h1]),t9⟩
theorem con_addQ {a b c e:Int} (hG:Good a b) (hH:Good c e):Con Tryz.prog 109 [ju a b,ju c e] (ZH [ju (qN [a * e,c * b,a * e + c * b,b * e] (a * e + c * b)<|b * e)<|qD [a * e,c * b,a * e + c * b,b * e] (a * e + c * b)<|b * e,ZK<|qE [a * e,c * b,a * e + c * b,b * e]]):=by
 refine yy Tryz.func109 k9 I k9 fun base w0=>(zn (SWl.e2 (S:=[]) (ym I I) fun g2=>(SWl.e2 (S:=[]) (ym I I) fun g3=>(SWl.e2 (S:=[]) (Ef.alloc (zs:=[.bool false,.slice none 0 0,.bool false,.slice none 0 0]) k9 I) fun g4=>(zf I<|ze<|zh<|zn<|za I (zx 0 4 I I k9 I zm)<|zu (S:=[]) (zv (ZO (by assumption)) I ⟨zc _,t9⟩ I)<|za I (yu I)<|zd I<|zJ I (zx 1 4 I I k9 I zm)<|yN (S:=[]) I I I I (zv (ZO (by assumption)) I ⟨zc _,t9⟩ I) ?_)))));rintro _ rfl;refine zJ I (yu I) (za I (zw I I I)<|ze<|zK I I<|zq<|zj<|zn<|zu (S:=[]) (zv (zch) I t9 I)<|za I (zcK (e:=243) (n:=3) 2 I I k9 k9 d9 d9) (SWl.e2 (S:=[]) (Ef.alloc (zs:=[.nilFunc,.nilFunc]) k9 I) fun g6=>(zu (S:=[_]) (zA 3 I I I k9 I<|m9 I)<|zN<|za I (zx 0 4 I I k9 I zm)<|za I (zx 1 4 I I k9 I zm)<|za I (zg (n:=0) I k9)<|za I (zp 3 I I I k9 zm)<|za I (zg (n:=1) I k9)<|za I (zp 3 I I I k9 zm)<|zu (S:=[]) (zv (zcn (jn:=fun p q=>p + q) (fun p q hp hq=>con_add hp hq) hG.hn hG.hd hH.hn hH.hd<|hG.mul0 hH) I ⟨zc _,zc _,zc _,zc _,t9⟩ I)<|za I (zo I I)<|za I (zo I I)<|zu (S:=[_]) (zA 2 I I I k9 I<|m9 I)<|zf I<|ze ?_)))
 refine zO (fn:=Tryz.f109) (fun _ _ h=>h) (Rs.two I (yx 2 I I k9)<|zk I)
theorem con_subQ {a b c e:Int} (hG:Good a b) (hH:Good c e):Con Tryz.prog 112 [ju a b,ju c e] (ZH [ju (qN [a * e,c * b,a * e - c * b,b * e] (a * e - c * b)<|b * e)<|qD [a * e,c * b,a * e - c * b,b * e] (a * e - c * b)<|b * e,ZK<|qE [a * e,c * b,a * e - c * b,b * e]]):=by
 refine yy Tryz.func112 k9 I k9 fun base w0=>(zn (SWl.e2 (S:=[]) (ym I I) fun g2=>(SWl.e2 (S:=[]) (ym I I) fun g3=>(SWl.e2 (S:=[]) (Ef.alloc (zs:=[.bool false,.slice none 0 0,.bool false,.slice none 0 0]) k9 I) fun g4=>(zf I<|ze<|zh<|zn<|za I (zx 0 4 I I k9 I zm)<|zu (S:=[]) (zv (ZO (by assumption)) I ⟨zc _,t9⟩ I)<|za I (yu I)<|zd I<|zJ I (zx 1 4 I I k9 I zm)<|yN (S:=[]) I I I I (zv (ZO (by assumption)) I ⟨zc _,t9⟩ I) ?_)))));rintro _ rfl;refine zJ I (yu I) (za I (zw I I I)<|ze<|zK I I<|zq<|zj<|zn<|zu (S:=[]) (zv (zch) I t9 I)<|za I (zcK (e:=243) (n:=3) 2 I I k9 k9 d9 d9) (SWl.e2 (S:=[]) (Ef.alloc (zs:=[.nilFunc,.nilFunc]) k9 I) fun g6=>(zu (S:=[_]) (zA 3 I I I k9 I<|m9 I)<|zN<|za I (zx 0 4 I I k9 I zm)<|za I (zx 1 4 I I k9 I zm)<|za I (zg (n:=0) I k9)<|za I (zp 3 I I I k9 zm)<|za I (zg (n:=1) I k9)<|za I (zp 3 I I I k9 zm)<|zu (S:=[]) (zv (zcn (jn:=fun p q=>p - q) (fun p q hp hq=>con_sub hp hq) hG.hn hG.hd hH.hn hH.hd<|hG.mul0 hH) I ⟨zc _,zc _,zc _,zc _,t9⟩ I)<|za I (zo I I)<|za I (zo I I)<|zu (S:=[_]) (zA 2 I I I k9 I<|m9 I)<|zf I<|ze ?_)))
 refine zO (fn:=Tryz.f112) (fun _ _ h=>h) (Rs.two I (yx 2 I I k9)<|zk I)
