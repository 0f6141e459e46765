/- THE WALKS of ratio's Compare, Min, Max and of the reference's Compare. THE WALKS of strings.Cut at a slash and of ratio's Parse. THE WALKS of the refe -/
import Derived.Test.YtmflnfnebmbjkaaGreatGZAX
import Derived.Lib.Bytealg
set_option maxHeartbeats 8000000
set_option maxRecDepth 100000
namespace Go.Proofs.YtmflnfnebmbjkaaGreat
open Go.RowKit
open Nm (W32)
namespace Sx
theorem zbm (x y:Int):j3 x y=(x - y).sign:=by
 unfold j3
 by_cases h:x < y
 ·rw [Jh h,Int.sign_eq_neg_one_of_neg o9]
 ·rw [Jb h]
  by_cases h2:x=y
  ·rw [Jh h2,h2,Int.sub_self];rfl
  ·rw [Jb h2,Int.sign_eq_one_of_pos o9]
theorem cmpZ_bd (x y:Int): -1≤j3 x y∧j3 x y≤1:=by
 unfold j3
 split
 ·omega
 ·split <;> omega
theorem zbQ {n d:Int} (hd:0 < d):0≤dr n d∧dr n d < d:=by
 have h2:=K9 (x:=n) (y:=d) o9
 have h3:0≤dr n d:=by
  unfold dr sgn;rw [Jd (show ¬d < 0 by omega)];simp only [Bool.false_eq_true,if_false];omega
 omega
def WQ (n d m e:Int):Int:=j3 (n * e) (m * d)
theorem zbn {n d m e:Int} (hd:0 < d) (he:0 < e):WQ n d m e=((dq n d - dq m e) * (d * e) + (dr n d * e - dr m e * d)).sign:=by
 unfold WQ;rw [zbm];congr 1;have h1:=dq_dr (y:=d) n o9;have h2:=dq_dr (y:=e) m o9
 have e1:n * e=dq n d * (d * e) + dr n d * e:=by
  rw [← Int.mul_assoc,← Int.add_mul,h1]
 have e2:m * d=dq m e * (d * e) + dr m e * d:=by
  rw [Int.mul_comm d e,← Int.mul_assoc,← Int.add_mul,h2]
 rw [Int.sub_mul];omega
theorem cmpQ_ne {n d m e:Int} (hd:0 < d) (he:0 < e) (h:¬dq n d=dq m e):WQ n d m e=j3 (dq n d) (dq m e):=by
 have hr:=zbQ (n:=n) hd;have hs:=zbQ (n:=m) he;rw [zbn hd he]
 generalize dq n d=p at *
 generalize dq m e=q at *
 generalize dr n d=r at *
 generalize dr m e=s at *
 have hde:0 < d * e:=Int.mul_pos hd he;have h1:0≤r * e:=Int.mul_nonneg hr.1 o9;have h2:0≤s * d:=Int.mul_nonneg hs.1 o9;have h3:r * e < d * e:=Int.mul_lt_mul_of_pos_right hr.2 he
 have h4:s * d < d * e:=by rw [Int.mul_comm d e];exact Int.mul_lt_mul_of_pos_right hs.2 hd
 unfold j3
 by_cases hlt:p < q
 ·rw [Jh hlt];have h5:(p - q) * (d * e)≤(-1) * (d * e):=Int.mul_le_mul_of_nonneg_right o9 o9;exact Int.sign_eq_neg_one_of_neg o9
 ·rw [Jb hlt,Jb h];have h5:1 * (d * e)≤(p - q) * (d * e):=Int.mul_le_mul_of_nonneg_right o9 o9;exact Int.sign_eq_one_of_pos o9
theorem VQ {n d m e:Int} (hd:0 < d) (he:0 < e) (h:dq n d=dq m e):WQ n d m e=(dr n d * e - dr m e * d).sign:=by
 rw [zbn hd he,h,Int.sub_self,Int.zero_mul,Int.zero_add]
structure CmpI (C n d m e o:Int):Prop where
 n5:n.natAbs < zO
 d5:d.natAbs < zO
 m5:m.natAbs < zO
 e5:e.natAbs < zO
 dp:0 < d
 ep:0 < e
 o1:o=1∨o= -1
 eq:o * WQ n d m e=C
theorem CmpI.a {C n d m e o:Int} (h:CmpI C n d m e o) (hne:¬dq n d=dq m e):o * j3 (dq n d) (dq m e)=C:=by
 rw [← cmpQ_ne h.dp h.ep hne];exact h.eq
theorem CmpI.b {C n d m e o:Int} (h:CmpI C n d m e o) (he:dq n d=dq m e) (hr:dr n d=0) (hs:dr m e=0):(0:Int)=C:=by
 rw [← h.eq,VQ h.dp h.ep he,hr,hs];simp
theorem CmpI.c {C n d m e o:Int} (h:CmpI C n d m e o) (he:dq n d=dq m e) (hr:dr n d=0) (hs:¬dr m e=0): -o=C:=by
 have h1:=zbQ (n:=m) h.ep;rw [← h.eq,VQ h.dp h.ep he,hr,Int.zero_mul,Int.zero_sub,Int.sign_eq_neg_one_of_neg (by have:=Int.mul_pos (show 0 < dr m e by omega) h.dp;omega)];omega
theorem CmpI.d_ {C n d m e o:Int} (h:CmpI C n d m e o) (he:dq n d=dq m e) (hr:¬dr n d=0) (hs:dr m e=0):o=C:=by
 have h1:=zbQ (n:=n) h.dp;rw [← h.eq,VQ h.dp h.ep he,hs,Int.zero_mul,Int.sub_zero,Int.sign_eq_one_of_pos<|Int.mul_pos o9 h.ep];omega
theorem CmpI.next {C n d m e o:Int} (h:CmpI C n d m e o) (he:dq n d=dq m e) (hr:¬dr n d=0) (hs:¬dr m e=0):CmpI C d (dr n d) e (dr m e) (-o):=by
 have h1:=zbQ (n:=n) h.dp;have h2:=zbQ (n:=m) h.ep;have b1:=K9 (x:=n) (y:=d) (by have:=h.dp;omega);have b2:=K9 (x:=m) (y:=e) (by have:=h.ep;omega);refine ⟨h.d5,Nat.lt_trans b1 h.d5,h.e5,Nat.lt_trans b2 h.e5,by omega,by omega,by have:=h.o1;omega,?_⟩;rw [← h.eq,VQ h.dp h.ep he];unfold WQ;rw [zbm,show dr n d * e - dr m e * d= -(d * dr m e - e * dr n d) by rw [Int.mul_comm d,Int.mul_comm e];omega,Int.sign_neg];rw [Int.neg_mul,Int.mul_neg]
theorem zce {a b c e:Int} (hG:Good a b) (hH:Good c e):CmpI (WQ a b c e) a b c e 1:=⟨hG.hn,hG.hd,hH.hn,hH.hd,hG.pos,hH.pos,.inl rfl,Int.one_mul _⟩
theorem j1 {a b c e:Int} (hG:Good a b) (hH:Good c e):Con Tryz.prog 28 [Yo a b,Yo c e] (yZ<|WQ a b c e):=by
 refine z6 Tryz.func28 k9 I k9 fun base w0=>(zp (SWl.e2 (S:=[]) (yo I I) fun g2=>(SWl.e2 (S:=[]) (yo I I) fun g3=>(zd I<|ze<|SW.scope<|zh<|zp<|za I (zx 0 4 I I k9 I zt)<|zq (S:=[]) (zn (Zj (by assumption)) I ⟨zb _,t9⟩ I)<|za I (yF I)<|zc I<|zU I (zx 1 4 I I k9 I zt)<|Zt (S:=[]) I I I I (zn (Zj (by assumption)) I ⟨zb _,t9⟩ I) ?_))));rintro _ rfl;refine zU I (yF I) (za I (zM I I I)<|ze<|zJ I I<|zw<|zg<|zp<|zd I<|ze<|zh<|SW.label<|zg<|zh<|SW.block<|z1 (ι:={p:(Int × Int) × (Int × Int) × Int // CmpI (WQ a b c e) p.1.1 p.1.2 p.2.1.1 p.2.1.2 p.2.2}) (fun ⟨⟨⟨n,d⟩,⟨m,f⟩,o⟩,hI⟩=>St.of [(2,pA g2),(3,pA g3),(5,yZ o)] [(g2,jL (n)<|d),(g3,jL (m)<|f)]) (fun ⟨⟨⟨n,d⟩,⟨m,f⟩,o⟩,hI⟩=>d.natAbs) (⟨((a,b),(c,e),1),zce hG hH⟩) ?_ ?_)
 ·exact (sB [0,1] I I)
 ·rintro ⟨⟨⟨n,d⟩,⟨m,f⟩,o⟩,hI⟩ K0 hK0;simp only at hI
  have hd0:d≠0:=by have:=hI.dp;omega
  have he0:f≠0:=by have:=hI.ep;omega
  have hp5:=Nat.lt_of_le_of_lt (za9 (x:=n) hd0) hI.n5;have hq5:=Nat.lt_of_le_of_lt (za9 (x:=m) he0) hI.m5;have hrl:=K9 (x:=n) hd0;have hr5:=Nat.lt_trans hrl hI.d5;have hs5:=Nat.lt_trans (K9 (x:=m) he0) hI.e5;have hcb:=cmpZ_bd (dq n d) (dq m f);refine SW.block (zp<|za I (zm (n:=0) I k9)<|za I (zx 0 2 I I k9 I zt)<|za I (zm (n:=2) I k9)<|za I (zx 0 2 I I k9 I zt)<|zq (S:=[]) (zn (Yg hI.n5 hI.d5 hd0) I ⟨zb _,zb _,t9⟩ I)<|zc I<|za I (zi I I)<|za I (zi I I)<|za I (zi I I) (SWl.e2 (S:=[]) (Ef.alloc (zs:=[.bool false,.slice none 0 0]) k9 I) fun g6=>(SWl.e2 (S:=[]) (Ef.alloc (zs:=[.bool false,.slice none 0 0]) k9 I) fun g7=>(zq (S:=[_]) (zy 2 I I I k9 I<|m9 I)<|zq (S:=[_]) (zy 3 I I I k9 I<|m9 I)<|zd I<|zS<|za I (zm (n:=0) I k9)<|za I (zx 1 2 I I k9 I zt)<|za I (zm (n:=2) I k9)<|za I (zx 1 2 I I k9 I zt)<|zq (S:=[]) (zn (Yg hI.m5 hI.e5 he0) I ⟨zb _,zb _,t9⟩ I)<|zc I<|za I (zi I I)<|za I (zi I I)<|za I (zi I I) (SWl.e2 (S:=[]) (Ef.alloc (zs:=[.bool false,.slice none 0 0]) k9 I) fun g9=>(SWl.e2 (S:=[]) (Ef.alloc (zs:=[.bool false,.slice none 0 0]) k9 I) fun g10=>(zq (S:=[_]) (zy 4 I I I k9 I<|m9 I)<|zq (S:=[_]) (zy 5 I I I k9 I<|m9 I)<|zd I<|ze<|zh<|SW.sub (σ':=St.of [(2,pA g2),(3,pA g3),(6,pA g6),(7,pA g7),(9,pA g9),(10,pA g10),(5,yZ o)] [(g2,jL (n)<|d),(g3,jL (m)<|f),(g6,qu<|dq n d),(g7,qu<|dr n d),(g9,qu<|dq m f),(g10,qu<|dr m f)]) (sB [0,1,2,3,4,5] I I)<|zf ?_)))))))
  refine za I (zx 2 2 I I k9 I zt) (za I (zx 4 2 I I k9 I zt)<|zq (S:=[]) (zn (qz hp5 hq5) I ⟨zb _,zb _,t9⟩ I)<|zd I<|ze<|zh<|yf [] (.r 0<|.r 2<|.n 1 (.n 3 (.r 4<|.r 5 .fin) .no) .no) k9 k9 (fun d _ _ _ _ h=>by cases d <;> exact h)<|zj I I (zx 3 2 I I k9 I zt)<|zj I I (zx 5 2 I I k9 I zt)<|yC I (zn (YU hr5) I ⟨zb _,t9⟩ I)<|yC I (zn (YU hs5) I ⟨zb _,t9⟩ I)<|yR I I<|yR I I<|yu<|zh<|SW.block<|zp<|zc I<|za I (yj I I)<|zd I<|ze<|zD I (fun hb48=> ?_) (fun hb48=> ?_))
  ·have hne:¬dq n d=dq m f:=(fun e=>by rw [cmpZ_eq0.2 e] at hb48;exact absurd hb48 d9)
   refine zp (zc I<|zc I<|za I (Rd.mul I I ⟨by rcases hI.o1 with rfl | rfl <;> omega,by rcases hI.o1 with rfl | rfl <;> omega⟩)<|zd I<|ze<|zG (fn:=Tryz.f28) (fun _ _ h=>h)<|Rs.le (zN I<|zo I) ?_)
   exact yU (hI.a hne)
  ·have heq:dq n d=dq m f:=cmpZ_eq0.1 (by simpa using hb48);refine zp (zc I<|za I (yS I I)<|zc I<|yn 57 I (fun hb57=> ?_) (fun hb57=> ?_))
   ·have hr0:dr n d=0:=jW.1 (oT hb57);refine zU hb57 (zl I) (zU hb57 (yS I I)<|za I (zF I hb57 I)<|zd I<|ze<|zD I (fun hb54=> ?_) (fun hb54=> ?_))
    ·have hs0:dr m f=0:=jW.1 (oT hb54);refine zL ?_
     repeat (first | refine zV ?_ | refine zW d9 ?_ | refine Yy ?_)
     refine zX (zg<|zp<|zd I<|ze<|zG (fn:=Tryz.f28) (fun _ _ h=>h)<|Rs.le (zN I<|zo I) ?_);exact yU (hI.b heq hr0 hs0)
    ·have hs0:¬dr m f=0:=(fun e=>oF hb54 (by rw [e];rfl))
     refine zp (zc I<|za I (yS I I)<|zd I<|ze<|yg I hb57<|zp<|zc I<|za I (Rd.neg I ⟨by rcases hI.o1 with rfl | rfl <;> omega,by rcases hI.o1 with rfl | rfl <;> omega⟩)<|zd I<|ze<|zG (fn:=Tryz.f28) (fun _ _ h=>h)<|Rs.le (zN I<|zo I) ?_)
     exact yU (hI.c heq hr0 hs0)
   ·have hr0:¬dr n d=0:=(fun e=>oF hb57 (by rw [e];rfl));refine zR hb57 (zR hb57<|za I (zM I hb57 I)<|zd I<|ze<|zJ I I<|zp<|zc I<|za I (yS I I)<|zd I<|ze<|zJ I hb57<|zp<|zc I<|za I (yS I I)<|zd I<|ze<|zD I (fun hb66=> ?_) (fun hb66=> ?_))
    ·have hs0:dr m f=0:=jW.1 (oT hb66);refine zp (zc I<|zd I<|ze<|zG (fn:=Tryz.f28) (fun _ _ h=>h)<|Rs.le (zN I<|zo I) ?_);exact yU (hI.d_ heq hr0 hs0)
    ·have hs0:¬dr m f=0:=(fun e=>oF hb66 (by rw [e];rfl))
     exact zw (SN.block<|zg<|zp<|za I (zm (n:=2) I k9)<|za I (zx 0 2 I I k9 I zt)<|za I (zx 3 2 I I k9 I zt)<|za I (yz I I zaq)<|zq (S:=[_]) (zy 0 I I I k9 I<|m9 I)<|zS<|za I (zm (n:=2) I k9)<|za I (zx 1 2 I I k9 I zt)<|za I (zx 5 2 I I k9 I zt)<|za I (yz I I zaq)<|zq (S:=[_]) (zy 1 I I I k9 I<|m9 I)<|ze<|zf<|zc I<|za I (Rd.neg I ⟨by rcases hI.o1 with rfl | rfl <;> omega,by rcases hI.o1 with rfl | rfl <;> omega⟩)<|zd I<|zv<|SN.block (fun a w hh=>hK0 (⟨((d,dr n d),(f,dr m f),-o),hI.next heq hr0 hs0⟩) (hrl) a w<|hh.sub<|sB [0,1] I I))
theorem con_minQ {a b c e:Int} (hG:Good a b) (hH:Good c e):Con Tryz.prog 96 [Yo a b,Yo c e] (Zq [Yo (if WQ a b c e≤0 then a else c) (if WQ a b c e≤0 then b else e),yZ 0]):=by
 refine z6 Tryz.func96 k9 I k9 fun base w0=>(zp (SWl.e2 (S:=[]) (yo I I) fun g2=>(SWl.e2 (S:=[]) (yo I I) fun g3=>(SWl.e2 (S:=[]) (Ef.alloc (zs:=[.bool false,.slice none 0 0,.bool false,.slice none 0 0]) k9 I) fun g4=>(zd I<|ze<|zh<|zp<|za I (zx 0 4 I I k9 I zt)<|zq (S:=[]) (zn (Zj (by assumption)) I ⟨zb _,t9⟩ I)<|za I (yF I)<|zc I<|zU I (zx 1 4 I I k9 I zt)<|Zt (S:=[]) I I I I (zn (Zj (by assumption)) I ⟨zb _,t9⟩ I) ?_)))));rintro _ rfl;refine zU I (yF I) (za I (zM I I I)<|ze<|zJ I I<|zw<|zg<|zh<|zp<|za I (zx 0 4 I I k9 I zt)<|za I (zx 1 4 I I k9 I zt)<|zq (S:=[]) (zn (j1 hG hH) I ⟨zb _,zb _,t9⟩ I)<|za I (ZC I I)<|ze<|zD I (fun hb18=> ?_) (fun hb18=> ?_))
 ·have hc:=oT hb18;refine zp (za I (zm (n:=0) I k9)<|za I (zx 0 2 I I k9 I zt)<|za I (zm (n:=2) I k9)<|za I (zx 0 2 I I k9 I zt)<|zq (S:=[]) (zn (qk hG.hn hG.hd hG.d0) I ⟨zb _,zb _,t9⟩ I)<|za I (zi I I)<|za I (zi I I)<|zq (S:=[_]) (zy 2 I I I k9 I<|m9 I)<|zd I<|ze<|zG (fn:=Tryz.f96) (fun _ _ h=>h)<|Rs.le (Rs.two I (zZ 2 I I k9)<|zo I) ?_);exact yX ⟨YX (by rw [Jh hc];exact hG.rn) (by rw [Jh hc];exact hG.rd),zb _,t9⟩
 ·have hc:=oF hb18;refine zw (zg<|zp<|za I (zm (n:=0) I k9)<|za I (zx 1 2 I I k9 I zt)<|za I (zm (n:=2) I k9)<|za I (zx 1 2 I I k9 I zt)<|zq (S:=[]) (zn (qk hH.hn hH.hd hH.d0) I ⟨zb _,zb _,t9⟩ I)<|za I (zi I I)<|za I (zi I I)<|zq (S:=[_]) (zy 2 I I I k9 I<|m9 I)<|zd I<|ze<|zG (fn:=Tryz.f96) (fun _ _ h=>h)<|Rs.le (Rs.two I (zZ 2 I I k9)<|zo I) ?_);exact yX ⟨YX (by rw [Jb hc];exact hH.rn) (by rw [Jb hc];exact hH.rd),zb _,t9⟩
theorem con_maxQ {a b c e:Int} (hG:Good a b) (hH:Good c e):Con Tryz.prog 94 [Yo a b,Yo c e] (Zq [Yo (if 0≤WQ a b c e then a else c) (if 0≤WQ a b c e then b else e),yZ 0]):=by
 refine z6 Tryz.func94 k9 I k9 fun base w0=>(zp (SWl.e2 (S:=[]) (yo I I) fun g2=>(SWl.e2 (S:=[]) (yo I I) fun g3=>(SWl.e2 (S:=[]) (Ef.alloc (zs:=[.bool false,.slice none 0 0,.bool false,.slice none 0 0]) k9 I) fun g4=>(zd I<|ze<|zh<|zp<|za I (zx 0 4 I I k9 I zt)<|zq (S:=[]) (zn (Zj (by assumption)) I ⟨zb _,t9⟩ I)<|za I (yF I)<|zc I<|zU I (zx 1 4 I I k9 I zt)<|Zt (S:=[]) I I I I (zn (Zj (by assumption)) I ⟨zb _,t9⟩ I) ?_)))));rintro _ rfl;refine zU I (yF I) (za I (zM I I I)<|ze<|zJ I I<|zw<|zg<|zh<|zp<|za I (zx 0 4 I I k9 I zt)<|za I (zx 1 4 I I k9 I zt)<|zq (S:=[]) (zn (j1 hG hH) I ⟨zb _,zb _,t9⟩ I)<|za I (Y1 I I)<|ze<|zD I (fun hb18=> ?_) (fun hb18=> ?_))
 ·have hc:=oT hb18;refine zp (za I (zm (n:=0) I k9)<|za I (zx 0 2 I I k9 I zt)<|za I (zm (n:=2) I k9)<|za I (zx 0 2 I I k9 I zt)<|zq (S:=[]) (zn (qk hG.hn hG.hd hG.d0) I ⟨zb _,zb _,t9⟩ I)<|za I (zi I I)<|za I (zi I I)<|zq (S:=[_]) (zy 2 I I I k9 I<|m9 I)<|zd I<|ze<|zG (fn:=Tryz.f94) (fun _ _ h=>h)<|Rs.le (Rs.two I (zZ 2 I I k9)<|zo I) ?_);exact yX ⟨YX (by rw [Jh hc];exact hG.rn) (by rw [Jh hc];exact hG.rd),zb _,t9⟩
 ·have hc:=oF hb18;refine zw (zg<|zp<|za I (zm (n:=0) I k9)<|za I (zx 1 2 I I k9 I zt)<|za I (zm (n:=2) I k9)<|za I (zx 1 2 I I k9 I zt)<|zq (S:=[]) (zn (qk hH.hn hH.hd hH.d0) I ⟨zb _,zb _,t9⟩ I)<|za I (zi I I)<|za I (zi I I)<|zq (S:=[_]) (zy 2 I I I k9 I<|m9 I)<|zd I<|ze<|zG (fn:=Tryz.f94) (fun _ _ h=>h)<|Rs.le (Rs.two I (zZ 2 I I k9)<|zo I) ?_);exact yX ⟨YX (by rw [Jb hc];exact hH.rn) (by rw [Jb hc];exact hH.rd),zb _,t9⟩
theorem cop_le {a b c e:Int} (hg:Nat.gcd a.natAbs b.natAbs=1) (he:0 < e) (h:a * e=c * b):b.natAbs≤e.natAbs:=by
 refine Nat.le_of_dvd o9 ?_;have h1:b.natAbs ∣ a.natAbs * e.natAbs:=⟨c.natAbs,by rw [← Int.natAbs_mul,h,Int.natAbs_mul,Nat.mul_comm]⟩;exact Nat.Coprime.dvd_of_dvd_mul_left (by rw [Nat.Coprime,Nat.gcd_comm];exact hg) h1
theorem Good.uniq {a b c e:Int} (hG:Good a b) (hH:Good c e) (h:a * e=c * b):a=c∧b=e:=by
 have h1:=cop_le hG.g hH.pos h;have h2:=cop_le hH.g hG.pos h.symm;have p1:=hG.pos;have p2:=hH.pos
 have hbe:b=e:=by omega
 subst hbe;exact ⟨Int.eq_of_mul_eq_mul_right o9 h,I⟩
theorem za8 {x y:Int} (hy:y≠0) (h:x.natAbs % y.natAbs=0):dq x y * y=x:=by
 have h1:=dq_dr x hy;rw [dr_dvd h] at h1;omega
theorem Vu {n d:Int} (hn:n.natAbs < zO) (hd:d.natAbs < zO) (h0:d≠0):Good (rn n d) (rd n d)∧rn n d * d=n * rd n d:=by
 have hz:=gz_ne n h0;have e1:rn n d * gz n d=n:=za8 hz (by rw [KZ];exact Nat.mod_eq_zero_of_dvd<|Nat.gcd_dvd_left _ _);have e2:rd n d * gz n d=d:=za8 hz (by rw [KZ];exact Nat.mod_eq_zero_of_dvd<|Nat.gcd_dvd_right _ _);have hG:0 < Nat.gcd n.natAbs d.natAbs:=Nat.gcd_pos_of_pos_right _ o9;refine ⟨⟨Nat.lt_of_le_of_lt (rn_abs h0) hn,Nat.lt_of_le_of_lt (rd_abs h0) hd,?_,?_⟩,?_⟩
 ·have hgpos:(0 < d→0 < gz n d)∧(d < 0→gz n d < 0):=by
   unfold gz Wq
   constructor
   ·intro h;rw [Jb o9];omega
   ·intro h;rw [Jh h];omega
  rcases Int.lt_or_gt_of_ne h0 with h | h
  ·have hg:=hgpos.2 h;rcases Int.lt_or_le 0 (rd n d) with hr | hr
   ·exact hr
   ·have:=Int.mul_nonneg_of_nonpos_of_nonpos hr (Int.le_of_lt hg);omega
  ·have hg:=hgpos.1 h;rcases Int.lt_or_le 0 (rd n d) with hr | hr
   ·exact hr
   ·have:=Int.mul_le_mul_of_nonneg_right hr (Int.le_of_lt hg);omega
 ·have h1:n.natAbs=(rn n d).natAbs * Nat.gcd n.natAbs d.natAbs:=by rw [← KZ,← Int.natAbs_mul,e1]
  have h2:d.natAbs=(rd n d).natAbs * Nat.gcd n.natAbs d.natAbs:=by rw [← KZ,← Int.natAbs_mul,e2]
  have h3:Nat.gcd n.natAbs d.natAbs=Nat.gcd ((rn n d).natAbs * Nat.gcd n.natAbs d.natAbs) ((rd n d).natAbs * Nat.gcd n.natAbs d.natAbs):=by rw [← h1,← h2]
  rw [Nat.gcd_mul_right] at h3
  have h4:1 * Nat.gcd n.natAbs d.natAbs=Nat.gcd (rn n d).natAbs (rd n d).natAbs * Nat.gcd n.natAbs d.natAbs:=by rw [Nat.one_mul];exact h3
  exact (Nat.eq_of_mul_eq_mul_right hG h4).symm
 ·have:rn n d * d=rn n d * (rd n d * gz n d):=by rw [e2]
  rw [this,← Int.mul_assoc,Int.mul_right_comm,e1]
end Sx
namespace Sx
end Sx
namespace Sx
abbrev Row4:Type:=(Bool × LN) × (Bool × LN)
def rowsR:List Row4→List D
 | []=>[]
 | r :: rs=>isD (.bool r.1.1) :: rawD r.1.2 :: isD (.bool r.2.1) :: rawD r.2.2 :: rowsR rs
end Sx
namespace Sx
section
variable {n d N D:Int}
theorem con_ofE (h1: -9223372036854775808≤n) (h2:n≤9223372036854775807) (h3: -9223372036854775808≤d) (h4:d≤9223372036854775807) (h0:d≠0) (hN:rn n d=N) (hD:rd n d=D):Con Tryz.prog 27 [yZ n,yZ d] (Zq [Yo N D,yZ 0]):=by
 subst hN hD;exact con_ofQ h1 h2 h3 h4 h0
theorem zbf (h1: -9223372036854775808≤n) (h2:n≤9223372036854775807) (h3: -9223372036854775808≤d) (h4:d≤9223372036854775807) (h0:d≠0) (hN:rn n d=N) (hD:rd n d=D):Con Tryz.prog 32 [yZ n,yZ d] (Yo N D):=by
 subst hN hD;exact zbg h1 h2 h3 h4 h0
theorem Kw {f:FuncId} {ds:List Sx.D} {a b e A B E:Int} (h:Con Tryz.prog f ds (Zq [Yo a b,yZ e])) (hA:a=A) (hB:b=B) (hE:e=E):Con Tryz.prog f ds (Zq [Yo A B,yZ E]):=by subst hA hB hE;exact h
theorem con_eE {f:FuncId} {ds:List Sx.D} {a A:Int} (h:Con Tryz.prog f ds (yZ a)) (hA:a=A):Con Tryz.prog f ds (yZ A):=by subst hA;exact h
end
end Sx
namespace Sx
section
open Go.ChangeShapes Go.WideShapes Go.ChangeAt
variable {H:Type}{enc:TypeId × Value→H}
end
end Sx
namespace Sx
end Sx
namespace Sx
section
def Sm (k:Nat) (x:Int):Prop:=x.natAbs < 2 ^ k
theorem Sm.mul {i j:Nat} {x y:Int} (h:Sm i x) (k:Sm j y):Sm (i + j) (x * y):=by
 unfold Sm at *;rw [Int.natAbs_mul,Nat.pow_add];exact Nat.mul_lt_mul'' h k
theorem Sm.mono {i j:Nat} {x:Int} (h:Sm i x) (hij:i≤j):Sm j x:=Ju h (Nat.pow_le_pow_right d9 hij)
theorem Sm.add {i:Nat} {x y:Int} (h:Sm i x) (k:Sm i y):Sm (i + 1) (x + y):=by
 unfold Sm at *;rw [XI];omega
theorem Sm.sub {i:Nat} {x y:Int} (h:Sm i x) (k:Sm i y):Sm (i + 1) (x - y):=by
 unfold Sm at *;rw [XI];omega
theorem Sm.b {i:Nat} {x:Int} (h:Sm i x) (hi:i≤250):x.natAbs < zO:=by
 have h1:x.natAbs < 2 ^ 250:=h.mono hi;exact Nat.lt_trans h1 (by unfold zO;decide +kernel)
theorem Sm.le {i:Nat} {x y:Int} (h:Sm i x) (hy:y.natAbs≤x.natAbs):Sm i y:=Nat.lt_of_le_of_lt hy h
structure Gs (i j : Nat) (n d : Int) : Prop where
  g : Good n d
  n : Sm i n
  d : Sm j d
section
variable {a b c e:Int}{i j k m:Nat}
theorem red_gs {P Q:Int} (hP:Sm i P) (hQ:Sm j Q) (hi:i≤250) (hj:j≤250) (h0:Q≠0):Gs i j (rn P Q) (rd P Q):=⟨(Vu (hP.b hi) (hQ.b hj) h0).1,hP.le<|rn_abs h0,hQ.le<|rd_abs h0⟩
theorem q_ok {l:List Int} (h:K5 l=true) (n d:Int):qN l n d=rn n d∧qD l n d=rd n d∧qE l=0:=⟨Jh h,Jh h,Jh h⟩
theorem fits4 {x y z w:Int} (h1:x.natAbs < zO) (h2:y.natAbs < zO) (h3:z.natAbs < zO) (h4:w.natAbs < zO):K5 [x,y,z,w]=true:=by simp [K5,h1,h2,h3,h4]
theorem con_addS (hG:Gs i j a b) (hH:Gs k m c e) (hi:i + m≤200) (hk:k + j≤200) (hj:j + m≤200):Con Tryz.prog 87 [Yo a b,Yo c e] (Zq [Yo (rn (a * e + c * b)<|b * e)<|rd (a * e + c * b)<|b * e,yZ 0]):=by
 have h1:=hG.n.mul hH.d;have h2:=hH.n.mul hG.d;have h3:=(h1.mono (j:=200) hi).add (h2.mono hk);have hf:=fits4 (h1.b o9) (h2.b o9) (h3.b o9) ((hG.d.mul hH.d).b o9);obtain ⟨e1,e2,e3⟩:=q_ok hf (a * e + c * b) (b * e);exact Kw (con_addQ hG.g hH.g) e1 e2 e3
theorem con_subS (hG:Gs i j a b) (hH:Gs k m c e) (hi:i + m≤200) (hk:k + j≤200) (hj:j + m≤200):Con Tryz.prog 67 [Yo a b,Yo c e] (Zq [Yo (rn (a * e - c * b)<|b * e)<|rd (a * e - c * b)<|b * e,yZ 0]):=by
 have h1:=hG.n.mul hH.d;have h2:=hH.n.mul hG.d;have h3:=(h1.mono (j:=200) hi).sub (h2.mono hk);have hf:=fits4 (h1.b o9) (h2.b o9) (h3.b o9) ((hG.d.mul hH.d).b o9);obtain ⟨e1,e2,e3⟩:=q_ok hf (a * e - c * b) (b * e);exact Kw (con_subQ hG.g hH.g) e1 e2 e3
end
def okF (r:Row4):Bool:=decide (r.1.2.length≤5) && (decide (r.2.2.length≤5) && V9 r.1.1 r.1.2 r.2.1 r.2.2)
theorem KW:∀ rows:List Row4,Ones (rowsR rows)
 | []=>inferInstanceAs (Ones [])
 | r :: rs=>by
  have:=KW rs;exact inferInstanceAs (Ones<|isD (.bool r.1.1) :: rawD r.1.2 :: isD (.bool r.2.1) :: rawD r.2.2 :: rowsR rs)
instance (rows:List Row4):Ones (rowsR rows):=KW rows
end
section
abbrev qKC (K x:Int):List D:=jL (rn x K) (rd x K)
abbrev qKD (K x:Int):D:=Yo (rn x K) (rd x K)
structure BK (K x:Int):Prop where
 pos:0 < K
 k:Sm 61 K
 x:Sm 110 x
section
variable {K L x y:Int}
theorem BK.s (h:BK K x):Gs 110 61 (rn x K) (rd x K):=red_gs h.x h.k d9 d9 (by have:=h.pos;omega)
theorem BK.g (h:BK K x):Good (rn x K) (rd x K):=h.s.g
theorem BK.cr (h:BK K x):rn x K * K=x * rd x K:=(Vu (h.x.b d9) (h.k.b d9) (by have:=h.pos;omega)).2
theorem WZ {n d a b:Int} (hn:n.natAbs < zO) (hd:d.natAbs < zO) (h0:d≠0) (hG:Good a b) (h:n * b=a * d):rn n d=a∧rd n d=b:=by
 obtain ⟨h1,h2⟩:=Vu hn hd h0;refine h1.uniq hG (Int.eq_of_mul_eq_mul_right h0 ?_);rw [Int.mul_right_comm,h2,Int.mul_right_comm,h,Int.mul_right_comm]
theorem VP (h:BK K x) (k:BK K y) (hs:BK K (x + y)):Con Tryz.prog 87 [qKD K x,qKD K y] (Zq [qKD K<|x + y,yZ 0]):=by
 have h1:=h.s.n.mul k.s.d;have h2:=k.s.n.mul h.s.d;have hp:=Int.mul_ne_zero h.g.d0 k.g.d0
 obtain ⟨e1,e2⟩:=WZ (n:=rn x K * rd y K + rn y K * rd x K) (d:=rd x K * rd y K) ((h1.add h2).b d9) ((h.s.d.mul k.s.d).b d9) hp hs.g (by
  have c1:=h.cr;have c2:=k.cr;have c3:=hs.cr
  have hK:K≠0:=by have:=h.pos;omega
  refine Int.eq_of_mul_eq_mul_right hK ?_
  generalize rn x K=a at *
  generalize rd x K=b at *
  generalize rn y K=c at *
  generalize rd y K=e at *
  generalize rn (x + y) K=p at *
  generalize rd (x + y) K=q at *
  grind)
 exact Kw (con_addS h.s k.s d9 d9 d9) e1 e2 I
theorem con_subK (h:BK K x) (k:BK K y) (hs:BK K (x - y)):Con Tryz.prog 67 [qKD K x,qKD K y] (Zq [qKD K<|x - y,yZ 0]):=by
 have h1:=h.s.n.mul k.s.d;have h2:=k.s.n.mul h.s.d;have hp:=Int.mul_ne_zero h.g.d0 k.g.d0
 obtain ⟨e1,e2⟩:=WZ (n:=rn x K * rd y K - rn y K * rd x K) (d:=rd x K * rd y K) ((h1.sub h2).b d9) ((h.s.d.mul k.s.d).b d9) hp hs.g (by
  have c1:=h.cr;have c2:=k.cr;have c3:=hs.cr
  have hK:K≠0:=by have:=h.pos;omega
  refine Int.eq_of_mul_eq_mul_right hK ?_
  generalize rn x K=a at *
  generalize rd x K=b at *
  generalize rn y K=c at *
  generalize rd y K=e at *
  generalize rn (x - y) K=p at *
  generalize rd (x - y) K=q at *
  grind)
 exact Kw (con_subS h.s k.s d9 d9 d9) e1 e2 I
theorem cmpK (h:BK K x) (k:BK K y):WQ (rn x K) (rd x K) (rn y K) (rd y K)=j3 x y:=by
 have hb:=h.g.pos;have he:=k.g.pos;have hK:=h.pos
 have key:(rn x K * rd y K - rn y K * rd x K) * K=(x - y) * (rd x K * rd y K):=by
  have c1:=h.cr;have c2:=k.cr
  generalize rn x K=a at *
  generalize rd x K=b at *
  generalize rn y K=c at *
  generalize rd y K=e at *
  grind
 have hbe:=Int.mul_pos hb he;unfold WQ
 generalize rn x K * rd y K=P at *
 generalize rn y K * rd x K=R at *
 generalize rd x K * rd y K=T at *
 unfold j3
 by_cases h1:x < y
 ·have h2:(x - y) * T < 0:=Int.mul_neg_of_neg_of_pos o9 hbe;rw [← key] at h2
  have h3:P - R < 0:=by
   by_cases h4:P - R < 0
   ·exact h4
   ·exact absurd (Int.mul_nonneg (show 0≤P - R by omega) (by omega:0≤K)) o9
  rw [Jh h1,Jh o9]
 ·by_cases h2:x=y
  ·subst h2;rw [Int.sub_self,Int.zero_mul] at key;have h3:P - R=0:=(Int.mul_eq_zero.1 key).resolve_right o9;rw [Jb h1,Jh rfl,Jb o9,Jh o9]
  ·have h3:0 < (x - y) * T:=Int.mul_pos o9 hbe;rw [← key] at h3
   have h5:0 < P - R:=by
    by_cases h4:0 < P - R
    ·exact h4
    ·have:=Int.mul_nonneg (show 0≤ -(P - R) by omega) (by omega:0≤K);rw [Int.neg_mul] at this;omega
   rw [Jb h1,Jb h2,Jb o9,Jb o9]
theorem cmpL:j3 x y≤0↔x≤y:=by unfold j3;split;constructor <;> intro _ <;> omega;split <;> constructor <;> intro _ <;> omega
theorem cmpG:0≤j3 x y↔y≤x:=by unfold j3;split;constructor <;> intro _ <;> omega;split <;> constructor <;> intro _ <;> omega
theorem cmpT:0 < j3 x y↔y < x:=by unfold j3;split;constructor <;> intro _ <;> omega;split <;> constructor <;> intro _ <;> omega
theorem con_cmpK (h:BK K x) (k:BK K y):Con Tryz.prog 28 [qKD K x,qKD K y] (yZ<|j3 x y):=con_eE (j1 h.g k.g) (cmpK h k)
theorem zbh (h:BK K x) (k:BK K y):Con Tryz.prog 94 [qKD K x,qKD K y] (Zq [qKD K<|max x y,yZ 0]):=by
 refine Kw (con_maxQ h.g k.g) ?_ ?_ I
 ·rw [cmpK h k]
  by_cases hc:y≤x
  ·rw [Jh<|cmpG.2 hc,Int.max_eq_left hc]
  ·rw [Jb (fun e=>hc<|cmpG.1 e),Int.max_eq_right o9]
 ·rw [cmpK h k]
  by_cases hc:y≤x
  ·rw [Jh<|cmpG.2 hc,Int.max_eq_left hc]
  ·rw [Jb (fun e=>hc<|cmpG.1 e),Int.max_eq_right o9]
theorem con_minK (h:BK K x) (k:BK K y):Con Tryz.prog 96 [qKD K x,qKD K y] (Zq [qKD K<|min x y,yZ 0]):=by
 refine Kw (con_minQ h.g k.g) ?_ ?_ I
 ·rw [cmpK h k]
  by_cases hc:x≤y
  ·rw [Jh<|cmpL.2 hc,Int.min_eq_left hc]
  ·rw [Jb (fun e=>hc<|cmpL.1 e),Int.min_eq_right o9]
 ·rw [cmpK h k]
  by_cases hc:x≤y
  ·rw [Jh<|cmpL.2 hc,Int.min_eq_left hc]
  ·rw [Jb (fun e=>hc<|cmpL.1 e),Int.min_eq_right o9]
theorem rn_of {n d z:Int} (h:BK K z) (hn:n.natAbs < zO) (hd:d.natAbs < zO) (h0:d≠0) (e:n * K=z * d):rn n d=rn z K∧rd n d=rd z K:=by
 refine WZ hn hd h0 h.g (Int.eq_of_mul_eq_mul_right (show K≠0 by have:=h.pos;omega) ?_);have c:=h.cr
 generalize rn z K=a at *
 generalize rd z K=b at *
 grind
theorem Wo {n:Int} (h1: -9223372036854775808≤n) (h2:n≤9223372036854775807):n.natAbs < zO:=Nat.lt_of_le_of_lt (show n.natAbs≤9223372036854775808 by omega) (by unfold zO;decide +kernel)
theorem jx {n d z:Int} (h:BK K z) (h1: -9223372036854775808≤n) (h2:n≤9223372036854775807) (h3: -9223372036854775808≤d) (h4:d≤9223372036854775807) (h0:d≠0) (e:n * K=z * d):Con Tryz.prog 27 [yZ n,yZ d] (Zq [qKD K z,yZ 0]):=by
 obtain ⟨e1,e2⟩:=rn_of h (Wo h1 h2) (Wo h3 h4) h0 e;exact Kw (con_ofQ h1 h2 h3 h4 h0) e1 e2 I
theorem VN {n d z:Int} (h:BK K z) (h1: -9223372036854775808≤n) (h2:n≤9223372036854775807) (h3: -9223372036854775808≤d) (h4:d≤9223372036854775807) (h0:d≠0) (e:n * K=z * d):Con Tryz.prog 32 [yZ n,yZ d] (qKD K z):=by
 obtain ⟨e1,e2⟩:=rn_of h (Wo h1 h2) (Wo h3 h4) h0 e;exact (zbg h1 h2 h3 h4 h0).mono (yI _) (YX e1 e2)
theorem good_K {n d z:Int} (h:BK K z) (hG:Good n d) (e:n * K=z * d):n=rn z K∧d=rd z K:=by
 obtain ⟨e1,e2⟩:=rn_of h hG.hn hG.hd hG.d0 e;rw [hG.rn] at e1;rw [hG.rd] at e2;exact ⟨e1,e2⟩
theorem zero_K (h:BK K 0):(0:Int)=rn 0 K∧(1:Int)=rd 0 K:=good_K h (jh (by unfold zO;decide +kernel)) s9
theorem Y8 (h:BK K 0):Con Tryz.prog 86 [] (qKD K 0):=con_zero.mono trivial (YX (zero_K h).1 (zero_K h).2)
end
def Yi (K:Int) (x:Int):List D:=qKC K x
instance (K:Int):Row (Yi K) 4:=⟨fun _=>rfl,fun x=>by unfold Yi;infer_instance,by decide⟩
instance (K x:Int):Ones (Yi K x):=by unfold Yi;infer_instance
def VH (p:Int × Int):List D:=jL p.1 p.2
instance:Row VH 4:=⟨fun _=>rfl,fun x=>by unfold VH;infer_instance,by decide⟩
instance (p:Int × Int):Ones (VH p):=by unfold VH;infer_instance
end
end Sx
end Go.Proofs.YtmflnfnebmbjkaaGreat
namespace Go.Proofs.YtmflnfnebmbjkaaGreat
open Go.RowKit
namespace Acc
abbrev lt (x y:LB):Bool:=Op.bytesLess x y
structure T where
 name:LB
 role:Int
 key:LB
 dep:Int
 num:Int
def chr (c:UInt8):Prop:=(97≤c.toNat∧c.toNat≤122)∨(48≤c.toNat∧c.toNat≤57)∨c.toNat=45
instance (c:UInt8):Decidable (chr c):=by unfold chr;infer_instance
def isName (s:LB):Prop:=(∀ c∈s,chr c)∧1≤s.length∧s.length≤32
instance (s:LB):Decidable (isName s):=by unfold isName;infer_instance
def nums (r:Int):Int:=if r=1 then 512 else if r=2 then 32 else if r=3 then 1 else 0
def okN (nm:LB) (role:Int) (kl:Nat) (dep num:Int):Prop:=isName nm∧kl=32∧0≤dep∧dep≤1125899906842624∧0≤num∧num < nums role
instance (nm:LB) (role:Int) (kl:Nat) (dep num:Int):Decidable (okN nm role kl dep num):=by unfold okN;infer_instance
def ok (a:T):Prop:=okN a.name a.role a.key.length a.dep a.num
instance (a:T):Decidable (ok a):=by unfold ok;infer_instance
def clash (a x:T):Prop:=x.name=a.name∨(x.role=a.role∧x.num=a.num∧a.role≠3)
instance (a x:T):Decidable (clash a x):=by unfold clash;infer_instance
def pos (l:List T) (n:LB):Nat:=(l.takeWhile fun x=>lt x.name n).length
def find (l:List T) (n:LB):Option T:=l.find? fun x=>decide (x.name=n)
