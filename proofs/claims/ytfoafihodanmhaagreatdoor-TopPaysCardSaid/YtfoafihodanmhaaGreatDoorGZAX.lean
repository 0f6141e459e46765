/- THE WALKS of the reference's Limited, Add, Mul, Quo of Ratios. THE WALKS of ratio's Compare, Min, Max and of the reference's Compare. THE WALKS of str -/
import Derived.Test.YtfoafihodanmhaaGreatDoorGZAW
import Derived.Lib.Bytealg
set_option maxHeartbeats 8000000
set_option maxRecDepth 100000
namespace Go.Proofs.YtfoafihodanmhaaGreatDoor
open Go.RowKit
open Nm (W32)
namespace Sx
end Sx
namespace Sx
theorem zel (x y:Int):VA x y=(x - y).sign:=by
 unfold VA
 by_cases h:x < y
 ·rw [Jh h,Int.sign_eq_neg_one_of_neg o9]
 ·rw [Jb h]
  by_cases h2:x=y
  ·rw [Jh h2,h2,Int.sub_self];rfl
  ·rw [Jb h2,Int.sign_eq_one_of_pos o9]
theorem cmpZ_bd (x y:Int): -1≤VA x y∧VA x y≤1:=by
 unfold VA
 split
 ·omega
 ·split <;> omega
theorem ze1 {n d:Int} (hd:0 < d):0≤dr n d∧dr n d < d:=by
 have h2:=zaI (x:=n) (y:=d) o9
 have h3:0≤dr n d:=by
  unfold dr sgn;rw [Jd (show ¬d < 0 by omega)];simp only [Bool.false_eq_true,if_false];omega
 omega
def zbM (n d m e:Int):Int:=VA (n * e) (m * d)
theorem zem {n d m e:Int} (hd:0 < d) (he:0 < e):zbM n d m e=((dq n d - dq m e) * (d * e) + (dr n d * e - dr m e * d)).sign:=by
 unfold zbM;rw [zel];congr 1;have h1:=dq_dr (y:=d) n o9;have h2:=dq_dr (y:=e) m o9
 have e1:n * e=dq n d * (d * e) + dr n d * e:=by
  rw [← Int.mul_assoc,← Int.add_mul,h1]
 have e2:m * d=dq m e * (d * e) + dr m e * d:=by
  rw [Int.mul_comm d e,← Int.mul_assoc,← Int.add_mul,h2]
 rw [Int.sub_mul];omega
theorem cmpQ_ne {n d m e:Int} (hd:0 < d) (he:0 < e) (h:¬dq n d=dq m e):zbM n d m e=VA (dq n d) (dq m e):=by
 have hr:=ze1 (n:=n) hd;have hs:=ze1 (n:=m) he;rw [zem hd he]
 generalize dq n d=p at *
 generalize dq m e=q at *
 generalize dr n d=r at *
 generalize dr m e=s at *
 have hde:0 < d * e:=Int.mul_pos hd he;have h1:0≤r * e:=Int.mul_nonneg hr.1 o9;have h2:0≤s * d:=Int.mul_nonneg hs.1 o9;have h3:r * e < d * e:=Int.mul_lt_mul_of_pos_right hr.2 he
 have h4:s * d < d * e:=by rw [Int.mul_comm d e];exact Int.mul_lt_mul_of_pos_right hs.2 hd
 unfold VA
 by_cases hlt:p < q
 ·rw [Jh hlt];have h5:(p - q) * (d * e)≤(-1) * (d * e):=Int.mul_le_mul_of_nonneg_right o9 o9;exact Int.sign_eq_neg_one_of_neg o9
 ·rw [Jb hlt,Jb h];have h5:1 * (d * e)≤(p - q) * (d * e):=Int.mul_le_mul_of_nonneg_right o9 o9;exact Int.sign_eq_one_of_pos o9
theorem zby {n d m e:Int} (hd:0 < d) (he:0 < e) (h:dq n d=dq m e):zbM n d m e=(dr n d * e - dr m e * d).sign:=by
 rw [zem hd he,h,Int.sub_self,Int.zero_mul,Int.zero_add]
structure CmpI (C n d m e o:Int):Prop where
 n5:n.natAbs < ya
 d5:d.natAbs < ya
 m5:m.natAbs < ya
 e5:e.natAbs < ya
 dp:0 < d
 ep:0 < e
 o1:o=1∨o= -1
 eq:o * zbM n d m e=C
theorem CmpI.a {C n d m e o:Int} (h:CmpI C n d m e o) (hne:¬dq n d=dq m e):o * VA (dq n d) (dq m e)=C:=by
 rw [← cmpQ_ne h.dp h.ep hne];exact h.eq
theorem CmpI.b {C n d m e o:Int} (h:CmpI C n d m e o) (he:dq n d=dq m e) (hr:dr n d=0) (hs:dr m e=0):(0:Int)=C:=by
 rw [← h.eq,zby h.dp h.ep he,hr,hs];simp
theorem CmpI.c {C n d m e o:Int} (h:CmpI C n d m e o) (he:dq n d=dq m e) (hr:dr n d=0) (hs:¬dr m e=0): -o=C:=by
 have h1:=ze1 (n:=m) h.ep;rw [← h.eq,zby h.dp h.ep he,hr,Int.zero_mul,Int.zero_sub,Int.sign_eq_neg_one_of_neg (by have:=Int.mul_pos (show 0 < dr m e by omega) h.dp;omega)];omega
theorem CmpI.d_ {C n d m e o:Int} (h:CmpI C n d m e o) (he:dq n d=dq m e) (hr:¬dr n d=0) (hs:dr m e=0):o=C:=by
 have h1:=ze1 (n:=n) h.dp;rw [← h.eq,zby h.dp h.ep he,hs,Int.zero_mul,Int.sub_zero,Int.sign_eq_one_of_pos<|Int.mul_pos o9 h.ep];omega
theorem CmpI.next {C n d m e o:Int} (h:CmpI C n d m e o) (he:dq n d=dq m e) (hr:¬dr n d=0) (hs:¬dr m e=0):CmpI C d (dr n d) e (dr m e) (-o):=by
 have h1:=ze1 (n:=n) h.dp;have h2:=ze1 (n:=m) h.ep;have b1:=zaI (x:=n) (y:=d) (by have:=h.dp;omega);have b2:=zaI (x:=m) (y:=e) (by have:=h.ep;omega);refine ⟨h.d5,Nat.lt_trans b1 h.d5,h.e5,Nat.lt_trans b2 h.e5,by omega,by omega,by have:=h.o1;omega,?_⟩;rw [← h.eq,zby h.dp h.ep he];unfold zbM;rw [zel,show dr n d * e - dr m e * d= -(d * dr m e - e * dr n d) by rw [Int.mul_comm d,Int.mul_comm e];omega,Int.sign_neg];rw [Int.neg_mul,Int.mul_neg]
theorem CmpI.start {a b c e:Int} (hG:Good a b) (hH:Good c e):CmpI (zbM a b c e) a b c e 1:=⟨hG.hn,hG.hd,hH.hn,hH.hd,hG.pos,hH.pos,.inl rfl,Int.one_mul _⟩
theorem KN {a b c e:Int} (hG:Good a b) (hH:Good c e):Con Tryz.prog 51 [ju a b,ju c e] (ZK<|zbM a b c e):=by
 refine yy Tryz.func51 k9 I k9 fun base w0=>(zn (SWl.e2 (S:=[]) (ym I I) fun g2=>(SWl.e2 (S:=[]) (ym I I) fun g3=>(zf I<|ze<|SW.scope<|zh<|zn<|za I (zx 0 4 I I k9 I zm)<|zu (S:=[]) (zv (ZO (by assumption)) I ⟨zc _,t9⟩ I)<|za I (yu I)<|zd I<|zJ I (zx 1 4 I I k9 I zm)<|yN (S:=[]) I I I I (zv (ZO (by assumption)) I ⟨zc _,t9⟩ I) ?_))));rintro _ rfl;refine zJ I (yu I) (za I (zw I I I)<|ze<|zK I I<|zq<|zj<|zn<|zf I<|ze<|zh<|SW.label<|zj<|zh<|SW.block<|yd (ι:={p:(Int × Int) × (Int × Int) × Int // CmpI (zbM a b c e) p.1.1 p.1.2 p.2.1.1 p.2.1.2 p.2.2}) (fun ⟨⟨⟨n,d⟩,⟨m,f⟩,o⟩,hI⟩=>St.of [(2,pA g2),(3,pA g3),(5,ZK o)] [(g2,zak (n)<|d),(g3,zak (m)<|f)]) (fun ⟨⟨⟨n,d⟩,⟨m,f⟩,o⟩,hI⟩=>d.natAbs) (⟨((a,b),(c,e),1),CmpI.start hG hH⟩) ?_ ?_)
 ·exact (sB [0,1] I I)
 ·rintro ⟨⟨⟨n,d⟩,⟨m,f⟩,o⟩,hI⟩ K0 hK0;simp only at hI
  have hd0:d≠0:=by have:=hI.dp;omega
  have he0:f≠0:=by have:=hI.ep;omega
  have hp5:=Nat.lt_of_le_of_lt (zeb (x:=n) hd0) hI.n5;have hq5:=Nat.lt_of_le_of_lt (zeb (x:=m) he0) hI.m5;have hrl:=zaI (x:=n) hd0;have hr5:=Nat.lt_trans hrl hI.d5;have hs5:=Nat.lt_trans (zaI (x:=m) he0) hI.e5;have hcb:=cmpZ_bd (dq n d) (dq m f);refine SW.block (zn<|za I (zg (n:=0) I k9)<|za I (zx 0 2 I I k9 I zm)<|za I (zg (n:=2) I k9)<|za I (zx 0 2 I I k9 I zm)<|zu (S:=[]) (zv (qh hI.n5 hI.d5 hd0) I ⟨zc _,zc _,t9⟩ I)<|zd I<|za I (zo I I)<|za I (zo I I)<|za I (zo I I) (SWl.e2 (S:=[]) (Ef.alloc (zs:=[.bool false,.slice none 0 0]) k9 I) fun g6=>(SWl.e2 (S:=[]) (Ef.alloc (zs:=[.bool false,.slice none 0 0]) k9 I) fun g7=>(zu (S:=[_]) (zA 2 I I I k9 I<|m9 I)<|zu (S:=[_]) (zA 3 I I I k9 I<|m9 I)<|zf I<|zN<|za I (zg (n:=0) I k9)<|za I (zx 1 2 I I k9 I zm)<|za I (zg (n:=2) I k9)<|za I (zx 1 2 I I k9 I zm)<|zu (S:=[]) (zv (qh hI.m5 hI.e5 he0) I ⟨zc _,zc _,t9⟩ I)<|zd I<|za I (zo I I)<|za I (zo I I)<|za I (zo I I) (SWl.e2 (S:=[]) (Ef.alloc (zs:=[.bool false,.slice none 0 0]) k9 I) fun g9=>(SWl.e2 (S:=[]) (Ef.alloc (zs:=[.bool false,.slice none 0 0]) k9 I) fun g10=>(zu (S:=[_]) (zA 4 I I I k9 I<|m9 I)<|zu (S:=[_]) (zA 5 I I I k9 I<|m9 I)<|zf I<|ze<|zh<|SW.sub (σ':=St.of [(2,pA g2),(3,pA g3),(6,pA g6),(7,pA g7),(9,pA g9),(10,pA g10),(5,ZK o)] [(g2,zak (n)<|d),(g3,zak (m)<|f),(g6,VL<|dq n d),(g7,VL<|dr n d),(g9,VL<|dq m f),(g10,VL<|dr m f)]) (sB [0,1,2,3,4,5] I I)<|zi ?_)))))))
  refine za I (zx 2 2 I I k9 I zm) (za I (zx 4 2 I I k9 I zm)<|zu (S:=[]) (zv (qm hp5 hq5) I ⟨zc _,zc _,t9⟩ I)<|zf I<|ze<|zh<|yl [] (.r 0<|.r 2<|.n 1 (.n 3 (.r 4<|.r 5 .fin) .no) .no) k9 k9 (fun d _ _ _ _ h=>by cases d <;> exact h)<|zl I I (zx 3 2 I I k9 I zm)<|zl I I (zx 5 2 I I k9 I zm)<|yZ I (zv (jj hr5) I ⟨zc _,t9⟩ I)<|yZ I (zv (jj hs5) I ⟨zc _,t9⟩ I)<|yR I I<|yR I I<|yE<|zh<|SW.block<|zn<|zd I<|za I (yv I I)<|zf I<|ze<|zC I (fun hb48=> ?_) (fun hb48=> ?_))
  ·have hne:¬dq n d=dq m f:=(fun e=>by rw [cmpZ_eq0.2 e] at hb48;exact absurd hb48 d9)
   refine zn (zd I<|zd I<|za I (Rd.mul I I ⟨by rcases hI.o1 with rfl | rfl <;> omega,by rcases hI.o1 with rfl | rfl <;> omega⟩)<|zf I<|ze<|zO (fn:=Tryz.f51) (fun _ _ h=>h)<|Rs.le (zG I<|zk I) ?_)
   exact Yi (hI.a hne)
  ·have heq:dq n d=dq m f:=cmpZ_eq0.1 (by simpa using hb48);refine zn (zd I<|za I (Zr I I)<|zd I<|z1 57 I (fun hb57=> ?_) (fun hb57=> ?_))
   ·have hr0:dr n d=0:=VU.1 (oT hb57);refine zJ hb57 (zH I) (zJ hb57 (Zr I I)<|za I (zE I hb57 I)<|zf I<|ze<|zC I (fun hb54=> ?_) (fun hb54=> ?_))
    ·have hs0:dr m f=0:=VU.1 (oT hb54);refine zQ ?_
     repeat (first | refine zX ?_ | refine zY d9 ?_ | refine zbH ?_)
     refine zZ (zj<|zn<|zf I<|ze<|zO (fn:=Tryz.f51) (fun _ _ h=>h)<|Rs.le (zG I<|zk I) ?_);exact Yi (hI.b heq hr0 hs0)
    ·have hs0:¬dr m f=0:=(fun e=>oF hb54 (by rw [e];rfl))
     refine zn (zd I<|za I (Zr I I)<|zf I<|ze<|yj I hb57<|zn<|zd I<|za I (zet I ⟨by rcases hI.o1 with rfl | rfl <;> omega,by rcases hI.o1 with rfl | rfl <;> omega⟩)<|zf I<|ze<|zO (fn:=Tryz.f51) (fun _ _ h=>h)<|Rs.le (zG I<|zk I) ?_)
     exact Yi (hI.c heq hr0 hs0)
   ·have hr0:¬dr n d=0:=(fun e=>oF hb57 (by rw [e];rfl));refine zt hb57 (zt hb57<|za I (zw I hb57 I)<|zf I<|ze<|zK I I<|zn<|zd I<|za I (Zr I I)<|zf I<|ze<|zK I hb57<|zn<|zd I<|za I (Zr I I)<|zf I<|ze<|zC I (fun hb66=> ?_) (fun hb66=> ?_))
    ·have hs0:dr m f=0:=VU.1 (oT hb66);refine zn (zd I<|zf I<|ze<|zO (fn:=Tryz.f51) (fun _ _ h=>h)<|Rs.le (zG I<|zk I) ?_);exact Yi (hI.d_ heq hr0 hs0)
    ·have hs0:¬dr m f=0:=(fun e=>oF hb66 (by rw [e];rfl))
     exact zq (SN.block<|zj<|zn<|za I (zg (n:=2) I k9)<|za I (zx 0 2 I I k9 I zm)<|za I (zx 3 2 I I k9 I zm)<|za I (yF I I bldR2)<|zu (S:=[_]) (zA 0 I I I k9 I<|m9 I)<|zN<|za I (zg (n:=2) I k9)<|za I (zx 1 2 I I k9 I zm)<|za I (zx 5 2 I I k9 I zm)<|za I (yF I I bldR2)<|zu (S:=[_]) (zA 1 I I I k9 I<|m9 I)<|ze<|zi<|zd I<|za I (zet I ⟨by rcases hI.o1 with rfl | rfl <;> omega,by rcases hI.o1 with rfl | rfl <;> omega⟩)<|zf I<|zF<|SN.block (fun a w hh=>hK0 (⟨((d,dr n d),(f,dr m f),-o),hI.next heq hr0 hs0⟩) (hrl) a w<|hh.sub<|sB [0,1] I I))
theorem con_minQ {a b c e:Int} (hG:Good a b) (hH:Good c e):Con Tryz.prog 110 [ju a b,ju c e] (ZH [ju (if zbM a b c e≤0 then a else c) (if zbM a b c e≤0 then b else e),ZK 0]):=by
 refine yy Tryz.func110 k9 I k9 fun base w0=>(zn (SWl.e2 (S:=[]) (ym I I) fun g2=>(SWl.e2 (S:=[]) (ym I I) fun g3=>(SWl.e2 (S:=[]) (Ef.alloc (zs:=[.bool false,.slice none 0 0,.bool false,.slice none 0 0]) k9 I) fun g4=>(zf I<|ze<|zh<|zn<|za I (zx 0 4 I I k9 I zm)<|zu (S:=[]) (zv (ZO (by assumption)) I ⟨zc _,t9⟩ I)<|za I (yu I)<|zd I<|zJ I (zx 1 4 I I k9 I zm)<|yN (S:=[]) I I I I (zv (ZO (by assumption)) I ⟨zc _,t9⟩ I) ?_)))));rintro _ rfl;refine zJ I (yu I) (za I (zw I I I)<|ze<|zK I I<|zq<|zj<|zh<|zn<|za I (zx 0 4 I I k9 I zm)<|za I (zx 1 4 I I k9 I zm)<|zu (S:=[]) (zv (KN hG hH) I ⟨zc _,zc _,t9⟩ I)<|za I (Zn I I)<|ze<|zC I (fun hb18=> ?_) (fun hb18=> ?_))
 ·have hc:=oT hb18;refine zn (za I (zg (n:=0) I k9)<|za I (zx 0 2 I I k9 I zm)<|za I (zg (n:=2) I k9)<|za I (zx 0 2 I I k9 I zm)<|zu (S:=[]) (zv (jZ hG.hn hG.hd hG.d0) I ⟨zc _,zc _,t9⟩ I)<|za I (zo I I)<|za I (zo I I)<|zu (S:=[_]) (zA 2 I I I k9 I<|m9 I)<|zf I<|ze<|zO (fn:=Tryz.f110) (fun _ _ h=>h)<|Rs.le (Rs.two I (yx 2 I I k9)<|zk I) ?_);exact Zf ⟨jB (by rw [Jh hc];exact hG.rn) (by rw [Jh hc];exact hG.rd),zc _,t9⟩
 ·have hc:=oF hb18;refine zq (zj<|zn<|za I (zg (n:=0) I k9)<|za I (zx 1 2 I I k9 I zm)<|za I (zg (n:=2) I k9)<|za I (zx 1 2 I I k9 I zm)<|zu (S:=[]) (zv (jZ hH.hn hH.hd hH.d0) I ⟨zc _,zc _,t9⟩ I)<|za I (zo I I)<|za I (zo I I)<|zu (S:=[_]) (zA 2 I I I k9 I<|m9 I)<|zf I<|ze<|zO (fn:=Tryz.f110) (fun _ _ h=>h)<|Rs.le (Rs.two I (yx 2 I I k9)<|zk I) ?_);exact Zf ⟨jB (by rw [Jb hc];exact hH.rn) (by rw [Jb hc];exact hH.rd),zc _,t9⟩
theorem con_maxQ {a b c e:Int} (hG:Good a b) (hH:Good c e):Con Tryz.prog 108 [ju a b,ju c e] (ZH [ju (if 0≤zbM a b c e then a else c) (if 0≤zbM a b c e then b else e),ZK 0]):=by
 refine yy Tryz.func108 k9 I k9 fun base w0=>(zn (SWl.e2 (S:=[]) (ym I I) fun g2=>(SWl.e2 (S:=[]) (ym I I) fun g3=>(SWl.e2 (S:=[]) (Ef.alloc (zs:=[.bool false,.slice none 0 0,.bool false,.slice none 0 0]) k9 I) fun g4=>(zf I<|ze<|zh<|zn<|za I (zx 0 4 I I k9 I zm)<|zu (S:=[]) (zv (ZO (by assumption)) I ⟨zc _,t9⟩ I)<|za I (yu I)<|zd I<|zJ I (zx 1 4 I I k9 I zm)<|yN (S:=[]) I I I I (zv (ZO (by assumption)) I ⟨zc _,t9⟩ I) ?_)))));rintro _ rfl;refine zJ I (yu I) (za I (zw I I I)<|ze<|zK I I<|zq<|zj<|zh<|zn<|za I (zx 0 4 I I k9 I zm)<|za I (zx 1 4 I I k9 I zm)<|zu (S:=[]) (zv (KN hG hH) I ⟨zc _,zc _,t9⟩ I)<|za I (YF I I)<|ze<|zC I (fun hb18=> ?_) (fun hb18=> ?_))
 ·have hc:=oT hb18;refine zn (za I (zg (n:=0) I k9)<|za I (zx 0 2 I I k9 I zm)<|za I (zg (n:=2) I k9)<|za I (zx 0 2 I I k9 I zm)<|zu (S:=[]) (zv (jZ hG.hn hG.hd hG.d0) I ⟨zc _,zc _,t9⟩ I)<|za I (zo I I)<|za I (zo I I)<|zu (S:=[_]) (zA 2 I I I k9 I<|m9 I)<|zf I<|ze<|zO (fn:=Tryz.f108) (fun _ _ h=>h)<|Rs.le (Rs.two I (yx 2 I I k9)<|zk I) ?_);exact Zf ⟨jB (by rw [Jh hc];exact hG.rn) (by rw [Jh hc];exact hG.rd),zc _,t9⟩
 ·have hc:=oF hb18;refine zq (zj<|zn<|za I (zg (n:=0) I k9)<|za I (zx 1 2 I I k9 I zm)<|za I (zg (n:=2) I k9)<|za I (zx 1 2 I I k9 I zm)<|zu (S:=[]) (zv (jZ hH.hn hH.hd hH.d0) I ⟨zc _,zc _,t9⟩ I)<|za I (zo I I)<|za I (zo I I)<|zu (S:=[_]) (zA 2 I I I k9 I<|m9 I)<|zf I<|ze<|zO (fn:=Tryz.f108) (fun _ _ h=>h)<|Rs.le (Rs.two I (yx 2 I I k9)<|zk I) ?_);exact Zf ⟨jB (by rw [Jb hc];exact hH.rn) (by rw [Jb hc];exact hH.rd),zc _,t9⟩
theorem cop_le {a b c e:Int} (hg:Nat.gcd a.natAbs b.natAbs=1) (he:0 < e) (h:a * e=c * b):b.natAbs≤e.natAbs:=by
 refine Nat.le_of_dvd o9 ?_;have h1:b.natAbs ∣ a.natAbs * e.natAbs:=⟨c.natAbs,by rw [← Int.natAbs_mul,h,Int.natAbs_mul,Nat.mul_comm]⟩;exact Nat.Coprime.dvd_of_dvd_mul_left (by rw [Nat.Coprime,Nat.gcd_comm];exact hg) h1
theorem Good.uniq {a b c e:Int} (hG:Good a b) (hH:Good c e) (h:a * e=c * b):a=c∧b=e:=by
 have h1:=cop_le hG.g hH.pos h;have h2:=cop_le hH.g hG.pos h.symm;have p1:=hG.pos;have p2:=hH.pos
 have hbe:b=e:=by omega
 subst hbe;exact ⟨Int.eq_of_mul_eq_mul_right o9 h,I⟩
theorem zea {x y:Int} (hy:y≠0) (h:x.natAbs % y.natAbs=0):dq x y * y=x:=by
 have h1:=dq_dr x hy;rw [dr_dvd h] at h1;omega
theorem zbi {n d:Int} (hn:n.natAbs < ya) (hd:d.natAbs < ya) (h0:d≠0):Good (rn n d) (rd n d)∧rn n d * d=n * rd n d:=by
 have hz:=gz_ne n h0;have e1:rn n d * gz n d=n:=zea hz (by rw [zaB];exact Nat.mod_eq_zero_of_dvd<|Nat.gcd_dvd_left _ _);have e2:rd n d * gz n d=d:=zea hz (by rw [zaB];exact Nat.mod_eq_zero_of_dvd<|Nat.gcd_dvd_right _ _);have hG:0 < Nat.gcd n.natAbs d.natAbs:=Nat.gcd_pos_of_pos_right _ o9;refine ⟨⟨Nat.lt_of_le_of_lt (rn_abs h0) hn,Nat.lt_of_le_of_lt (rd_abs h0) hd,?_,?_⟩,?_⟩
 ·have hgpos:(0 < d→0 < gz n d)∧(d < 0→gz n d < 0):=by
   unfold gz zeY
   constructor
   ·intro h;rw [Jb o9];omega
   ·intro h;rw [Jh h];omega
  rcases Int.lt_or_gt_of_ne h0 with h | h
  ·have hg:=hgpos.2 h;rcases Int.lt_or_le 0 (rd n d) with hr | hr
   ·exact hr
   ·have:=Int.mul_nonneg_of_nonpos_of_nonpos hr (Int.le_of_lt hg);omega
  ·have hg:=hgpos.1 h;rcases Int.lt_or_le 0 (rd n d) with hr | hr
   ·exact hr
   ·have:=Int.mul_le_mul_of_nonneg_right hr (Int.le_of_lt hg);omega
 ·have h1:n.natAbs=(rn n d).natAbs * Nat.gcd n.natAbs d.natAbs:=by rw [← zaB,← Int.natAbs_mul,e1]
  have h2:d.natAbs=(rd n d).natAbs * Nat.gcd n.natAbs d.natAbs:=by rw [← zaB,← Int.natAbs_mul,e2]
  have h3:Nat.gcd n.natAbs d.natAbs=Nat.gcd ((rn n d).natAbs * Nat.gcd n.natAbs d.natAbs) ((rd n d).natAbs * Nat.gcd n.natAbs d.natAbs):=by rw [← h1,← h2]
  rw [Nat.gcd_mul_right] at h3
  have h4:1 * Nat.gcd n.natAbs d.natAbs=Nat.gcd (rn n d).natAbs (rd n d).natAbs * Nat.gcd n.natAbs d.natAbs:=by rw [Nat.one_mul];exact h3
  exact (Nat.eq_of_mul_eq_mul_right hG h4).symm
 ·have:rn n d * d=rn n d * (rd n d * gz n d):=by rw [e2]
  rw [this,← Int.mul_assoc,Int.mul_right_comm,e1]
end Sx
namespace Sx
end Sx
namespace Sx
abbrev Row4:Type:=(Bool × LN) × (Bool × LN)
def rowsR:List Row4→List D
 | []=>[]
 | r :: rs=>isD (.bool r.1.1) :: zeJ r.1.2 :: isD (.bool r.2.1) :: zeJ r.2.2 :: rowsR rs
end Sx
namespace Sx
section
variable {n d N D:Int}
theorem con_ofE (h1: -9223372036854775808≤n) (h2:n≤9223372036854775807) (h3: -9223372036854775808≤d) (h4:d≤9223372036854775807) (h0:d≠0) (hN:rn n d=N) (hD:rd n d=D):Con Tryz.prog 50 [ZK n,ZK d] (ZH [ju N D,ZK 0]):=by
 subst hN hD;exact con_ofQ h1 h2 h3 h4 h0
theorem WG {f:FuncId} {ds:List Sx.D} {a b e A B E:Int} (h:Con Tryz.prog f ds (ZH [ju a b,ZK e])) (hA:a=A) (hB:b=B) (hE:e=E):Con Tryz.prog f ds (ZH [ju A B,ZK E]):=by subst hA hB hE;exact h
theorem con_eE {f:FuncId} {ds:List Sx.D} {a A:Int} (h:Con Tryz.prog f ds (ZK a)) (hA:a=A):Con Tryz.prog f ds (ZK A):=by subst hA;exact h
end
end Sx
namespace Sx
section
open Go.ChangeShapes Go.WideShapes Go.ChangeAt
variable {H:Type}{enc:TypeId × Value→H}
end
end Sx
namespace Sx
end Sx
namespace Sx
section
def Sm (k:Nat) (x:Int):Prop:=x.natAbs < 2 ^ k
theorem Sm.mul {i j:Nat} {x y:Int} (h:Sm i x) (k:Sm j y):Sm (i + j) (x * y):=by
 unfold Sm at *;rw [Int.natAbs_mul,Nat.pow_add];exact Nat.mul_lt_mul'' h k
theorem Sm.mono {i j:Nat} {x:Int} (h:Sm i x) (hij:i≤j):Sm j x:=Ju h (Nat.pow_le_pow_right d9 hij)
theorem Sm.add {i:Nat} {x y:Int} (h:Sm i x) (k:Sm i y):Sm (i + 1) (x + y):=by
 unfold Sm at *;rw [XI];omega
theorem Sm.sub {i:Nat} {x y:Int} (h:Sm i x) (k:Sm i y):Sm (i + 1) (x - y):=by
 unfold Sm at *;rw [XI];omega
theorem Sm.b {i:Nat} {x:Int} (h:Sm i x) (hi:i≤250):x.natAbs < ya:=by
 have h1:x.natAbs < 2 ^ 250:=h.mono hi;exact Nat.lt_trans h1 (by unfold ya;decide +kernel)
theorem Sm.le {i:Nat} {x y:Int} (h:Sm i x) (hy:y.natAbs≤x.natAbs):Sm i y:=Nat.lt_of_le_of_lt hy h
structure Gs (i j:Nat) (n d:Int):Prop where
 g:Good n d
 n:Sm i n
 d:Sm j d
section
variable {a b c e:Int}{i j k m:Nat}
theorem red_gs {P Q:Int} (hP:Sm i P) (hQ:Sm j Q) (hi:i≤250) (hj:j≤250) (h0:Q≠0):Gs i j (rn P Q) (rd P Q):=⟨(zbi (hP.b hi) (hQ.b hj) h0).1,hP.le<|rn_abs h0,hQ.le<|rd_abs h0⟩
theorem q_ok {l:List Int} (h:zaE l=true) (n d:Int):qN l n d=rn n d∧qD l n d=rd n d∧qE l=0:=⟨Jh h,Jh h,Jh h⟩
theorem fits4 {x y z w:Int} (h1:x.natAbs < ya) (h2:y.natAbs < ya) (h3:z.natAbs < ya) (h4:w.natAbs < ya):zaE [x,y,z,w]=true:=by simp [zaE,h1,h2,h3,h4]
theorem con_addS (hG:Gs i j a b) (hH:Gs k m c e) (hi:i + m≤200) (hk:k + j≤200) (hj:j + m≤200):Con Tryz.prog 109 [ju a b,ju c e] (ZH [ju (rn (a * e + c * b)<|b * e)<|rd (a * e + c * b)<|b * e,ZK 0]):=by
 have h1:=hG.n.mul hH.d;have h2:=hH.n.mul hG.d;have h3:=(h1.mono (j:=200) hi).add (h2.mono hk);have hf:=fits4 (h1.b o9) (h2.b o9) (h3.b o9) ((hG.d.mul hH.d).b o9);obtain ⟨e1,e2,e3⟩:=q_ok hf (a * e + c * b) (b * e);exact WG (con_addQ hG.g hH.g) e1 e2 e3
theorem con_subS (hG:Gs i j a b) (hH:Gs k m c e) (hi:i + m≤200) (hk:k + j≤200) (hj:j + m≤200):Con Tryz.prog 112 [ju a b,ju c e] (ZH [ju (rn (a * e - c * b)<|b * e)<|rd (a * e - c * b)<|b * e,ZK 0]):=by
 have h1:=hG.n.mul hH.d;have h2:=hH.n.mul hG.d;have h3:=(h1.mono (j:=200) hi).sub (h2.mono hk);have hf:=fits4 (h1.b o9) (h2.b o9) (h3.b o9) ((hG.d.mul hH.d).b o9);obtain ⟨e1,e2,e3⟩:=q_ok hf (a * e - c * b) (b * e);exact WG (con_subQ hG.g hH.g) e1 e2 e3
end
def okF (r:Row4):Bool:=decide (r.1.2.length≤5) && (decide (r.2.2.length≤5) && zbK r.1.1 r.1.2 r.2.1 r.2.2)
theorem zaw:∀ rows:List Row4,Ones (rowsR rows)
 | []=>inferInstanceAs (Ones [])
 | r :: rs=>by
  have:=zaw rs;exact inferInstanceAs (Ones<|isD (.bool r.1.1) :: zeJ r.1.2 :: isD (.bool r.2.1) :: zeJ r.2.2 :: rowsR rs)
instance (rows:List Row4):Ones (rowsR rows):=zaw rows
end
section
abbrev qKC (K x:Int):List D:=zak (rn x K) (rd x K)
abbrev qKD (K x:Int):D:=ju (rn x K) (rd x K)
structure BK (K x:Int):Prop where
 pos:0 < K
 k:Sm 61 K
 x:Sm 110 x
section
variable {K L x y:Int}
theorem BK.s (h:BK K x):Gs 110 61 (rn x K) (rd x K):=red_gs h.x h.k d9 d9 (by have:=h.pos;omega)
theorem BK.g (h:BK K x):Good (rn x K) (rd x K):=h.s.g
theorem BK.cr (h:BK K x):rn x K * K=x * rd x K:=(zbi (h.x.b d9) (h.k.b d9) (by have:=h.pos;omega)).2
theorem zcS {n d a b:Int} (hn:n.natAbs < ya) (hd:d.natAbs < ya) (h0:d≠0) (hG:Good a b) (h:n * b=a * d):rn n d=a∧rd n d=b:=by
 obtain ⟨h1,h2⟩:=zbi hn hd h0;refine h1.uniq hG (Int.eq_of_mul_eq_mul_right h0 ?_);rw [Int.mul_right_comm,h2,Int.mul_right_comm,h,Int.mul_right_comm]
theorem zbx (h:BK K x) (k:BK K y) (hs:BK K (x + y)):Con Tryz.prog 109 [qKD K x,qKD K y] (ZH [qKD K<|x + y,ZK 0]):=by
 have h1:=h.s.n.mul k.s.d;have h2:=k.s.n.mul h.s.d;have hp:=Int.mul_ne_zero h.g.d0 k.g.d0
 obtain ⟨e1,e2⟩:=zcS (n:=rn x K * rd y K + rn y K * rd x K) (d:=rd x K * rd y K) ((h1.add h2).b d9) ((h.s.d.mul k.s.d).b d9) hp hs.g (by
  have c1:=h.cr;have c2:=k.cr;have c3:=hs.cr
  have hK:K≠0:=by have:=h.pos;omega
  refine Int.eq_of_mul_eq_mul_right hK ?_
  generalize rn x K=a at *
  generalize rd x K=b at *
  generalize rn y K=c at *
  generalize rd y K=e at *
  generalize rn (x + y) K=p at *
  generalize rd (x + y) K=q at *
  grind)
 exact WG (con_addS h.s k.s d9 d9 d9) e1 e2 I
theorem con_subK (h:BK K x) (k:BK K y) (hs:BK K (x - y)):Con Tryz.prog 112 [qKD K x,qKD K y] (ZH [qKD K<|x - y,ZK 0]):=by
 have h1:=h.s.n.mul k.s.d;have h2:=k.s.n.mul h.s.d;have hp:=Int.mul_ne_zero h.g.d0 k.g.d0
 obtain ⟨e1,e2⟩:=zcS (n:=rn x K * rd y K - rn y K * rd x K) (d:=rd x K * rd y K) ((h1.sub h2).b d9) ((h.s.d.mul k.s.d).b d9) hp hs.g (by
  have c1:=h.cr;have c2:=k.cr;have c3:=hs.cr
  have hK:K≠0:=by have:=h.pos;omega
  refine Int.eq_of_mul_eq_mul_right hK ?_
  generalize rn x K=a at *
  generalize rd x K=b at *
  generalize rn y K=c at *
  generalize rd y K=e at *
  generalize rn (x - y) K=p at *
  generalize rd (x - y) K=q at *
  grind)
 exact WG (con_subS h.s k.s d9 d9 d9) e1 e2 I
theorem cmpK (h:BK K x) (k:BK K y):zbM (rn x K) (rd x K) (rn y K) (rd y K)=VA x y:=by
 have hb:=h.g.pos;have he:=k.g.pos;have hK:=h.pos
 have key:(rn x K * rd y K - rn y K * rd x K) * K=(x - y) * (rd x K * rd y K):=by
  have c1:=h.cr;have c2:=k.cr
  generalize rn x K=a at *
  generalize rd x K=b at *
  generalize rn y K=c at *
  generalize rd y K=e at *
  grind
 have hbe:=Int.mul_pos hb he;unfold zbM
 generalize rn x K * rd y K=P at *
 generalize rn y K * rd x K=R at *
 generalize rd x K * rd y K=T at *
 unfold VA
 by_cases h1:x < y
 ·have h2:(x - y) * T < 0:=Int.mul_neg_of_neg_of_pos o9 hbe;rw [← key] at h2
  have h3:P - R < 0:=by
   by_cases h4:P - R < 0
   ·exact h4
   ·exact absurd (Int.mul_nonneg (show 0≤P - R by omega) (by omega:0≤K)) o9
  rw [Jh h1,Jh o9]
 ·by_cases h2:x=y
  ·subst h2;rw [Int.sub_self,Int.zero_mul] at key;have h3:P - R=0:=(Int.mul_eq_zero.1 key).resolve_right o9;rw [Jb h1,Jh rfl,Jb o9,Jh o9]
  ·have h3:0 < (x - y) * T:=Int.mul_pos o9 hbe;rw [← key] at h3
   have h5:0 < P - R:=by
    by_cases h4:0 < P - R
    ·exact h4
    ·have:=Int.mul_nonneg (show 0≤ -(P - R) by omega) (by omega:0≤K);rw [Int.neg_mul] at this;omega
   rw [Jb h1,Jb h2,Jb o9,Jb o9]
theorem cmpL:VA x y≤0↔x≤y:=by unfold VA;split;constructor <;> intro _ <;> omega;split <;> constructor <;> intro _ <;> omega
theorem cmpG:0≤VA x y↔y≤x:=by unfold VA;split;constructor <;> intro _ <;> omega;split <;> constructor <;> intro _ <;> omega
theorem zfG:0 < VA x y↔y < x:=by unfold VA;split;constructor <;> intro _ <;> omega;split <;> constructor <;> intro _ <;> omega
theorem zbw (h:BK K x) (k:BK K y):Con Tryz.prog 51 [qKD K x,qKD K y] (ZK<|VA x y):=con_eE (KN h.g k.g) (cmpK h k)
theorem zeg (h:BK K x) (k:BK K y):Con Tryz.prog 108 [qKD K x,qKD K y] (ZH [qKD K<|max x y,ZK 0]):=by
 refine WG (con_maxQ h.g k.g) ?_ ?_ I
 ·rw [cmpK h k]
  by_cases hc:y≤x
  ·rw [Jh<|cmpG.2 hc,Int.max_eq_left hc]
  ·rw [Jb (fun e=>hc<|cmpG.1 e),Int.max_eq_right o9]
 ·rw [cmpK h k]
  by_cases hc:y≤x
  ·rw [Jh<|cmpG.2 hc,Int.max_eq_left hc]
  ·rw [Jb (fun e=>hc<|cmpG.1 e),Int.max_eq_right o9]
theorem con_minK (h:BK K x) (k:BK K y):Con Tryz.prog 110 [qKD K x,qKD K y] (ZH [qKD K<|min x y,ZK 0]):=by
 refine WG (con_minQ h.g k.g) ?_ ?_ I
 ·rw [cmpK h k]
  by_cases hc:x≤y
  ·rw [Jh<|cmpL.2 hc,Int.min_eq_left hc]
  ·rw [Jb (fun e=>hc<|cmpL.1 e),Int.min_eq_right o9]
 ·rw [cmpK h k]
  by_cases hc:x≤y
  ·rw [Jh<|cmpL.2 hc,Int.min_eq_left hc]
  ·rw [Jb (fun e=>hc<|cmpL.1 e),Int.min_eq_right o9]
theorem rn_of {n d z:Int} (h:BK K z) (hn:n.natAbs < ya) (hd:d.natAbs < ya) (h0:d≠0) (e:n * K=z * d):rn n d=rn z K∧rd n d=rd z K:=by
 refine zcS hn hd h0 h.g (Int.eq_of_mul_eq_mul_right (show K≠0 by have:=h.pos;omega) ?_);have c:=h.cr
 generalize rn z K=a at *
 generalize rd z K=b at *
 grind
theorem i64_q {n:Int} (h1: -9223372036854775808≤n) (h2:n≤9223372036854775807):n.natAbs < ya:=Nat.lt_of_le_of_lt (show n.natAbs≤9223372036854775808 by omega) (by unfold ya;decide +kernel)
theorem jG {n d z:Int} (h:BK K z) (h1: -9223372036854775808≤n) (h2:n≤9223372036854775807) (h3: -9223372036854775808≤d) (h4:d≤9223372036854775807) (h0:d≠0) (e:n * K=z * d):Con Tryz.prog 50 [ZK n,ZK d] (ZH [qKD K z,ZK 0]):=by
 obtain ⟨e1,e2⟩:=rn_of h (i64_q h1 h2) (i64_q h3 h4) h0 e;exact WG (con_ofQ h1 h2 h3 h4 h0) e1 e2 I
theorem good_K {n d z:Int} (h:BK K z) (hG:Good n d) (e:n * K=z * d):n=rn z K∧d=rd z K:=by
 obtain ⟨e1,e2⟩:=rn_of h hG.hn hG.hd hG.d0 e;rw [hG.rn] at e1;rw [hG.rd] at e2;exact ⟨e1,e2⟩
theorem zero_K (h:BK K 0):(0:Int)=rn 0 K∧(1:Int)=rd 0 K:=good_K h (VZ (by unfold ya;decide +kernel)) s9
theorem jF (h:BK K 0):Con Tryz.prog 106 [] (qKD K 0):=con_zero.mono trivial (jB (zero_K h).1 (zero_K h).2)
theorem sign_K (h:BK K x):(rn x K).sign=x.sign:=by
 have c:=h.cr;have hb:=h.g.pos;have hK:=h.pos
 generalize rn x K=a at *
 generalize rd x K=b at *
 rcases Int.lt_trichotomy x 0 with h1 | h1 | h1
 ·have h2:=Int.mul_neg_of_neg_of_pos h1 hb;rw [← c] at h2
  have h3:a < 0:=by
   by_cases h4:a < 0
   ·exact h4
   ·exact absurd (Int.mul_nonneg (show 0≤a by omega) (by omega:0≤K)) o9
  rw [Int.sign_eq_neg_one_of_neg h1,Int.sign_eq_neg_one_of_neg h3]
 ·subst h1;rw [Int.zero_mul] at c;rw [(Int.mul_eq_zero.1 c).resolve_right o9]
 ·have h2:=Int.mul_pos h1 hb;rw [← c] at h2
  have h3:0 < a:=by
   by_cases h4:0 < a
   ·exact h4
   ·have:=Int.mul_nonneg (show 0≤ -a by omega) (by omega:0≤K);rw [Int.neg_mul] at this;omega
  rw [Int.sign_eq_one_of_pos h1,Int.sign_eq_one_of_pos h3]
theorem zcf (h:BK K x):Con Tryz.prog 14 [qKD K x] (ZK x.sign):=con_eE (WF h.g) (sign_K h)
end
def jY (K:Int) (x:Int):List D:=qKC K x
instance (K:Int):Row (jY K) 4:=⟨fun _=>rfl,fun x=>by unfold jY;infer_instance,by decide⟩
instance (K x:Int):Ones (jY K x):=by unfold jY;infer_instance
def encRG (p:Int × Int):List D:=zak p.1 p.2
instance:Row encRG 4:=⟨fun _=>rfl,fun x=>by unfold encRG;infer_instance,by decide⟩
instance (p:Int × Int):Ones (encRG p):=by unfold encRG;infer_instance
end
end Sx
end Go.Proofs.YtfoafihodanmhaaGreatDoor
namespace Go.Proofs.YtfoafihodanmhaaGreatDoor
open Go.RowKit
namespace Acc
abbrev lt (x y:LB):Bool:=Op.bytesLess x y
structure T where
 name:LB
 role:Int
 key:LB
 dep:Int
 num:Int
def chr (c:UInt8):Prop:=(97≤c.toNat∧c.toNat≤122)∨(48≤c.toNat∧c.toNat≤57)∨c.toNat=45
instance (c:UInt8):Decidable (chr c):=by unfold chr;infer_instance
def isName (s:LB):Prop:=(∀ c∈s,chr c)∧1≤s.length∧s.length≤32
instance (s:LB):Decidable (isName s):=by unfold isName;infer_instance
def nums (r:Int):Int:=if r=1 then 512 else if r=2 then 32 else if r=3 then 1 else 0
def okN (nm:LB) (role:Int) (kl:Nat) (dep num:Int):Prop:=isName nm∧kl=32∧0≤dep∧dep≤1125899906842624∧0≤num∧num < nums role
instance (nm:LB) (role:Int) (kl:Nat) (dep num:Int):Decidable (okN nm role kl dep num):=by unfold okN;infer_instance
def ok (a:T):Prop:=okN a.name a.role a.key.length a.dep a.num
instance (a:T):Decidable (ok a):=by unfold ok;infer_instance
def clash (a x:T):Prop:=x.name=a.name∨(x.role=a.role∧x.num=a.num∧a.role≠3)
instance (a x:T):Decidable (clash a x):=by unfold clash;infer_instance
def pos (l:List T) (n:LB):Nat:=(l.takeWhile fun x=>lt x.name n).length
def find (l:List T) (n:LB):Option T:=l.find? fun x=>decide (x.name=n)
