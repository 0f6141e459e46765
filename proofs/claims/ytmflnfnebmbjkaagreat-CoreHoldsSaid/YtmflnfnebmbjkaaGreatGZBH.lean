/- LAW 40: known. LAW 40: values, bids, threshold, payments, blocking. WHAT CAME IN: claims, wishes, Ratios. PAYMENTS have small denominators, in plain L -/
import Derived.Test.YtmflnfnebmbjkaaGreatGZBG
set_option maxHeartbeats 8000000
set_option maxRecDepth 100000
namespace Go.Proofs.YtmflnfnebmbjkaaGreat
open Go.RowKit
namespace Sx
section
theorem bldCl {x y:Int}:Bld Tryz.prog 61 [0,1] [iD x,iD y] [iD x,iD y]:=fun L w vs hv=>by
 obtain ⟨u,v,rfl,rfl,rfl⟩:=VU hv;exact ⟨[.int .i64 x,.int .i64 y],⟨I,I,t9⟩,fun w'=>by kernel_rfl⟩
theorem bldWi {x y z:Int}:Bld Tryz.prog 63 [0,1,2] [iD x,iD y,iD z] [iD x,iD y,iD z]:=fun L w vs hv=>by
 obtain ⟨u,v,q,rfl,rfl,rfl,rfl⟩:=all3 hv;exact ⟨[.int .i64 x,.int .i64 y,.int .i64 z],⟨I,I,I,t9⟩,fun w'=>by kernel_rfl⟩
theorem blsCl3 {a b c d e f:Int}:Bls Tryz.prog 22 3 [0,1,2] [Ys [iD a,iD b],Ys [iD c,iD d],Ys [iD e,iD f]] ([(⟨a,b⟩:Co.Cl),⟨c,d⟩,⟨e,f⟩].flatMap z8):=⟨61,fun L w vs hv=>by
 obtain ⟨u,v,q,rfl,hu,hw,hq⟩:=all3 hv;obtain ⟨_,_,rfl,rfl,rfl⟩:=agg2 hu;obtain ⟨_,_,rfl,rfl,rfl⟩:=agg2 hw;obtain ⟨_,_,rfl,rfl,rfl⟩:=agg2 hq
 exact ⟨[.int .i64 a,.int .i64 b,.int .i64 c,.int .i64 d,.int .i64 e,.int .i64 f],⟨I,I,I,I,I,I,t9⟩,fun w'=>by kernel_rfl⟩⟩
theorem agg3d {L:LN} {w:World} {x y z:Int} {v:Value} (h:(Ys [iD x,iD y,iD z]).R L w v):v= .agg #[.int .i64 x,.int .i64 y,.int .i64 z]:=by
 obtain ⟨cs,rfl,hc⟩:=h
 match cs,hc with
 | [a,b,c],hc=>obtain ⟨rfl,rfl,rfl,-⟩:=hc;rfl
theorem blsWi3 {a b c d e f g h i:Int}:Bls Tryz.prog 23 3 [0,1,2] [Ys [iD a,iD b,iD c],Ys [iD d,iD e,iD f],Ys [iD g,iD h,iD i]] ([(⟨a,b,c⟩:Co.Wi),⟨d,e,f⟩,⟨g,h,i⟩].flatMap y0):=⟨63,fun L w vs hv=>by
 obtain ⟨u,v,q,rfl,hu,hw,hq⟩:=all3 hv;rw [agg3d hu,agg3d hw,agg3d hq]
 exact ⟨[.int .i64 a,.int .i64 b,.int .i64 c,.int .i64 d,.int .i64 e,.int .i64 f,.int .i64 g,.int .i64 h,.int .i64 i],⟨I,I,I,I,I,I,I,I,I,t9⟩,fun w'=>by kernel_rfl⟩⟩
theorem blsI3 {x y z:Int}:Bls Tryz.prog 26 3 [0,1,2] [iD x,iD y,iD z] ([x,y,z].flatMap z6):=⟨3,fun L w vs hv=>by
 obtain ⟨u,v,q,rfl,rfl,rfl,rfl⟩:=all3 hv
 exact ⟨[.int .i64 x,.int .i64 y,.int .i64 z],⟨I,I,I,t9⟩,fun w'=>by kernel_rfl⟩⟩
theorem blsI8 {a b c d e f g h:Int}:Bls Tryz.prog 26 8 [0,1,2,3,4,5,6,7] [iD a,iD b,iD c,iD d,iD e,iD f,iD g,iD h] ([a,b,c,d,e,f,g,h].flatMap z6):=⟨3,fun L w vs hv=>by
 match vs,hv with
 | [a',b',c',d',e',f',g',h'],hv=>
  obtain ⟨rfl,rfl,rfl,rfl,rfl,rfl,rfl,rfl,-⟩:=hv
  exact ⟨[.int .i64 a,.int .i64 b,.int .i64 c,.int .i64 d,.int .i64 e,.int .i64 f,.int .i64 g,.int .i64 h],⟨I,I,I,I,I,I,I,I,t9⟩,fun w'=>by kernel_rfl⟩⟩
theorem WS {L:LN} {w:World} {n d:Int} {v:Value} (h:(Yk n d).R L w v):∃ B p q C r s,v= .agg #[.bool<|decide (n < 0),.slice B p q,.bool<|decide (d < 0),.slice C r s]∧All L w (jh n d) [.bool<|decide (n < 0),.slice B p q,.bool<|decide (d < 0),.slice C r s]:=by
 obtain ⟨cs,rfl,hc⟩:=h
 match cs,hc with
 | [a,b,c,e],hc=>
  obtain ⟨rfl,hb,rfl,hd,-⟩:=hc;have hb':=hb;have hd':=hd;obtain ⟨B,x,rfl,-⟩:=hb';obtain ⟨C,y,rfl,-⟩:=hd';exact ⟨B,_,x,C,_,y,I,I,hb,I,hd,t9⟩
theorem blsRG3 {a b c d e f:Int}:Bls Tryz.prog 33 3 [0,1,2] [Yk a b,Yk c d,Yk e f] ([(a,b),(c,d),(e,f)].flatMap VA):=⟨43,fun L w vs hv=>by
 obtain ⟨u,v,q,rfl,hu,hw,hq⟩:=all3 hv;obtain ⟨B,p1,q1,C,r1,s1,rfl,h1⟩:=WS hu;obtain ⟨B2,p2,q2,C2,r2,s2,rfl,h2⟩:=WS hw;obtain ⟨B3,p3,q3,C3,r3,s3,rfl,h3⟩:=WS hq
 exact ⟨_,h1.append<|h2.append<|h3.append (show All L w [] [] from t9),fun w'=>by kernel_rfl⟩⟩
theorem le_pay0:Le (lsD VA [(rn 330 60,rd 330 60),(rn 330 60,rd 330 60),(0,1)]) (lsD (ZJ 60)<|zy (pyS V0 B0_ l0.length l0.length) l0.length):=by
 rw [k_pay];obtain ⟨e1,e2⟩:=zero_K (K:=60) (YX d9 d9)
 have h:[(rn 330 60,rd 330 60),(rn 330 60,rd 330 60),((0:Int),(1:Int))].flatMap VA=[330,330,0].flatMap (ZJ 60):=by
  show jh (rn 330 60) (rd 330 60) ++ (jh (rn 330 60) (rd 330 60) ++ (jh 0 1 ++ []))=jh (rn 330 60) (rd 330 60) ++ (jh (rn 330 60) (rd 330 60) ++ (jh (rn 0 60) (rd 0 60) ++ []));rw [← e1,← e2]
 show Le (rwD 3<|[(rn 330 60,rd 330 60),(rn 330 60,rd 330 60),((0:Int),(1:Int))].flatMap VA) (rwD 3<|[330,330,0].flatMap<|ZJ 60);rw [h];exact zb _
theorem ZG:Con Tryz.prog 10 [] (yM true):=by
 refine yb Tryz.func10 k9 I k9 fun base w0=>(zt<|zi I<|zP<|za I (yu I I bldCl)<|za I (yu I I bldCl)<|za I (yu I I bldCl)<|zo (S:=[]) (ZR I I blsCl3 I)<|zi I<|zP<|za I (yu I I bldWi)<|za I (yu I I bldWi)<|za I (yu I I bldWi)<|zo (S:=[]) (ZR I I blsWi3 I)<|zi I<|ze<|zh<|SW.sub (σ':=zW [(1,_),(2,_)] []) (sB [] I I)<|zd<|zo (S:=[]) (zn (za2 (n:=2) (N:=2) (D:=1) d9 d9 d9 d9 d9 (Wj d9 d9).rn (Wj d9 d9).rd) I ⟨zb _,zb _,t9⟩ I)<|zo (S:=[]) (zn (za2 (n:=0) (N:=0) (D:=1) d9 d9 d9 d9 d9 (Wj d9 d9).rn (Wj d9 d9).rd) I ⟨zb _,zb _,t9⟩ I)<|zo (S:=[]) (zn (za4 (z:=330) (YX d9 d9) d9 d9 d9 d9 d9 d9) I ⟨zb _,zb _,t9⟩ I) (SWl.e2 (S:=[]) (Ef.alloc (zs:=[.bool false,.slice none 0 0,.bool false,.slice none 0 0]) k9 I) fun g3=>(SWl.e2 (S:=[]) (Ef.alloc (zs:=[.bool false,.slice none 0 0,.bool false,.slice none 0 0]) k9 I) fun g4=>(SWl.e2 (S:=[]) (Ef.alloc (zs:=[.bool false,.slice none 0 0,.bool false,.slice none 0 0]) k9 I) fun g5=>(zo (S:=[_]) (zq 0 I I I k9 I<|m9 I)<|zo (S:=[_]) (zq 1 I I I k9 I<|m9 I)<|zo (S:=[_]) (zq 2 I I I k9 I<|m9 I)<|zP ?_)))))
 refine zc I (zc I<|zo (S:=[]) (zn (KX 4 l0 w0_ d9 vw0) I ⟨zb _,zb _,zb _,t9⟩ I)<|zc I<|za I (zf I I)<|za I (zf I I)<|zi I<|zi I<|zP<|zc I<|zc I<|zo (S:=[]) (zn (VH 4 l0 w0_ d9 vw0) I ⟨zb _,zb _,zb _,t9⟩ I)<|zc I<|za I (zf I I)<|za I (zf I I)<|zi I<|zi I<|zP<|zc I<|zc I<|zo (S:=[]) (zn (con_vcg 4 l0 w0_ d9 vw0) I ⟨zb _,zb _,zb _,t9⟩ I)<|zc I<|za I (zf I I)<|za I (zf I I)<|zi I<|zi I<|ze<|zh<|SW.sub (σ':=zW [(1,lsD z8 l0),(2,lsD y0 w0_),(3,pA g3),(4,pA g4),(5,pA g5),(6,lsD z6 [0,9,9,18,11,11,11,18]),(8,lsD z6 [9,9,0]),(10,lsD z6 [2,2,0]),(7,iD 0),(9,iD 0),(11,iD 0)] [_,_,_]) (⟨⟨_,I,⟨lq I,⟨lq I,⟨lq I,⟨lq I,⟨lq I,⟨⟨_,I,(by rw [k_vals];exact zb _)⟩,⟨⟨_,I,(by rw [k_bids];exact zb _)⟩,⟨⟨_,I,(by rw [k_vcg];exact zb _)⟩,(sT I)⟩⟩⟩⟩⟩⟩⟩⟩⟩,[0,1,2],by decide,(sX rfl)⟩)<|zd<|zc I<|zc I<|za I (zp 0 4 I I k9 I zm) ?_);refine za I (zp 0 4 I I k9 I zm) (za I (zp 1 4 I I k9 I zm)<|zo (S:=[]) (ZR I I blsRG3 I)<|zo (S:=[]) (zn (Y5 4 l0 w0_ rs0 d9 rs0_byt (kP rs0) (xP rs0) d9 vw0 rs0_vp rs0_pay) I ⟨zb _,zb _,zb _,(show Le (lsD VA [(2,1),(2,1),(0,1)]) (lsD YW rs0) from zb _),t9⟩ I)<|zc I<|za I (zf I I)<|za I (zf I I)<|za I (zf I I)<|zi I<|zi I<|zi I<|ze<|zh<|SW.sub (σ':=zW [(1,lsD z8 l0),(2,lsD y0 w0_),(4,pA g4),(5,pA g5),(6,lsD z6 [0,9,9,18,11,11,11,18]),(8,lsD z6 [9,9,0]),(10,lsD z6 [2,2,0]),(12,lsD z6 [3]),(13,yM true),(7,iD 0),(9,iD 0),(11,iD 0),(14,iD 0)] [_,_]) (⟨⟨_,I,⟨lq I,⟨lq I,⟨lq I,⟨lq I,⟨lq I,⟨lq I,⟨lq I,⟨⟨_,I,(by rw [k_blk];show Le (lsD z6<|Co.wnr l0 4) _;rw [k_win];exact zb _)⟩,⟨⟨_,I,zL (by rw [k_blk];rfl)⟩,(sT I)⟩⟩⟩⟩⟩⟩⟩⟩⟩⟩,[1,2],by decide,(sX rfl)⟩)<|zd<|zc I<|zc I<|zo (S:=[]) (zn (qW 4 l0 w0_ d9 vw0) I ⟨zb _,zb _,zb _,t9⟩ I)<|zc I<|za I (zf I I)<|za I (zf I I) (SWl.e2 (S:=[]) (Ef.alloc (zs:=[.bool false,.slice none 0 0,.bool false,.slice none 0 0]) k9 I) fun g15=>(zo (S:=[_]) (zq 2 I I I k9 I<|m9 I)<|zi I<|zP<|zc I<|zc I<|zo (S:=[]) (zn (jH 4 l0 w0_ d9 vw0) I ⟨zb _,zb _,zb _,t9⟩ I)<|zc I<|za I (zf I I)<|za I (zf I I)<|zi I<|zi I<|ze<|zh ?_)))
 refine zh (SW.sub (σ':=zW [(4,_),(5,_),(15,_),(6,_),(8,_),(10,_),(12,_),(13,_),(17,_),(7,_),(9,_),(11,_),(14,_),(16,_),(18,_)] [.c g4<|jh 0 1,.c g5<|qKC 60 330,.c g15<|qKC 60 210]) (⟨⟨_,I,(sT I)⟩,[0,1,2],by decide,⟨la rfl,⟨la rfl,⟨⟨_,rfl,(by rw [k_thr];exact yC _)⟩,trivial⟩⟩⟩⟩)<|zd<|zc I<|za I (zT I I)<|zc I<|zJ I (zl I)<|zJ I (zT I I)<|za I (zF I I I)<|zc I<|zJ I (zl I)<|zJ I (zT I I)<|za I (zF I I I)<|zc I<|zJ I (zl I)<|zJ I (zT I I)<|za I (zF I I I)<|zc I<|zJ I (zl I)<|zJ I (zT I I)<|za I (zF I I I)<|zc I<|zJ I (zl I)<|zJ I (zT I I)<|za I (zF I I I)<|zc I<|zJ I (zl I)<|zJ I (yG I)<|za I (zF I I I)<|zc I<|zJ I (zl I)<|Zb (S:=[]) I I I I (ZR I I WD I) ?_);rintro _ rfl;refine Zb (S:=[]) I I I I (zn (qe [3] d9) I ⟨zb _,zb _,t9⟩ I) ?_;rintro _ rfl
 refine zJ I (yG I) (za I (zF I I I)<|ze<|zB I I<|zv<|zg<|zh<|yg [] (.r 0<|.n 1 (.n 2 (.r 3<|.r 4<|.n 5 (.n 6 (rr [7,8,9]<|.n 10 (.n 11 (rr [12,13,14]<|.n 15 (.n 16 (rr [17,18,19,20,21,22]<|.n 23 (.n 24 (.r 25<|.r 26 .fin) .no) .no) .no) .no) .no) .no) .no) .no) .no) .no) k9 k9 (fun d _ _ _ _ h=>by cases d <;> exact h)<|zC I I<|yL I (ZR I I blsI8 I)<|yL I (zn (qe [0,9,9,18,11,11,11,18] d9) I ⟨zb _,zb _,t9⟩ I)<|zC I I<|zz I I I I I I (zl I)<|Zp I I I (I) I (ZR I I blsI3 I) ?_ yz)
 rintro _ rfl;refine Zp I I I (I) I (zn (qe [9,9,0] d9) I ⟨zb _,zb _,t9⟩ I) ?_ yz;rintro _ rfl;refine zk I I (zM I I I) (zC I I<|zz I I I I I I (zl I)<|Zp I I I (I) I (ZR I I blsI3 I) ?_ yz);rintro _ rfl;refine Zp I I I (I) I (zn (qe [2,2,0] d9) I ⟨zb _,zb _,t9⟩ I) ?_ yz;rintro _ rfl;refine zk I I (zM I I I) (zC I I<|zz I I I I I I (zp 2 4 I I k9 I zm)<|Zp I I I (I) I (zn (za4 (z:=210) (YX d9 d9) d9 d9 d9 d9 d9 d9) I ⟨zb _,zb _,t9⟩ I) ?_ yz);rintro _ rfl;refine Zp I I I (I) I (zn (K5 I I) I ⟨zb _,zb _,t9⟩ I) ?_ yz;rintro _ rfl;refine zk I I (zM I I I) (zC I I<|zz I I I I I I (zl I)<|zz I I I I I I (zp 1 4 I I k9 I zm)<|zz I I I I I I (zp 1 4 I I k9 I zm)<|zz I I I I I I (zp 0 4 I I k9 I zm)<|Zp I I I (I) I (ZR I I blsRG3 I) ?_ yz);rintro _ rfl;refine Zp I I I (I) I (zn (K4 60 (pyS V0 B0_ l0.length l0.length) l0.length d9) I ⟨zb _,le_pay0,t9⟩ I) ?_ yz;rintro _ rfl;refine zk I I (zM I I I) (Zd I I<|yO<|zK (fn:=Tryz.f10) (fun _ _ h=>h)<|Rs.le (zU I<|zu I) ?_)
 exact zb _
end
section
end
end Sx
end Go.Proofs.YtmflnfnebmbjkaaGreat
namespace Go.Proofs.YtmflnfnebmbjkaaGreat
open Go.ChangeShapes Go.WideShapes Go.ChangeAt Go.RowKit
namespace Sx
instance:Inhabited Co.Cl:=⟨⟨0,0⟩⟩
instance:Inhabited Co.Wi:=⟨⟨0,0,0⟩⟩
instance:Inhabited Rw:=⟨⟨false,[],false,[]⟩⟩
theorem zbU:Came Tryz.prog 61 z8 (fun _=>True):=fun H enc W fuel cs x h=>by
 obtain ⟨hl,hf⟩:=Kp Tryz.underlying61 h;have hl':cs.length=2:=hl.trans k9;obtain ⟨_,_,h0⟩:=hf 0 _ rfl;obtain ⟨_,_,h1⟩:=hf 1 _ rfl;obtain ⟨a,-,a0⟩:=q5 Tryz.underlying3 _ _ _ _ _ _ h0;obtain ⟨c,-,a1⟩:=q5 Tryz.underlying3 _ _ _ _ _ _ h1;exact ⟨⟨a,c⟩,t9,Kr [[iD a],[iD c]] cs 0 ⟨a0,a1,t9⟩ (by simpa using hl')⟩
theorem came_claims:Came Tryz.prog 22 (fun l:List Co.Cl=>[lsD z8 l]) (fun l=>l.length≤maxLen∧∀ e∈l,True):=Va Tryz.underlying22 k9 d9 zbU
theorem came_wish:Came Tryz.prog 63 y0 (fun _=>True):=fun H enc W fuel cs x h=>by
 obtain ⟨hl,hf⟩:=Kp Tryz.underlying63 h;have hl':cs.length=3:=hl.trans k9;obtain ⟨_,_,h0⟩:=hf 0 _ rfl;obtain ⟨_,_,h1⟩:=hf 1 _ rfl;obtain ⟨_,_,h2⟩:=hf 2 _ rfl;obtain ⟨a,-,a0⟩:=q5 Tryz.underlying3 _ _ _ _ _ _ h0;obtain ⟨c,-,a1⟩:=q5 Tryz.underlying3 _ _ _ _ _ _ h1;obtain ⟨d,-,a2⟩:=q5 Tryz.underlying3 _ _ _ _ _ _ h2;exact ⟨⟨a,c,d⟩,t9,Kr [[iD a],[iD c],[iD d]] cs 0 ⟨a0,a1,a2,t9⟩ (by simpa using hl')⟩
theorem came_wishes:Came Tryz.prog 23 (fun l:List Co.Wi=>[lsD y0 l]) (fun l=>l.length≤maxLen∧∀ e∈l,True):=Va Tryz.underlying23 k9 d9 came_wish
end Sx
end Go.Proofs.YtmflnfnebmbjkaaGreat
namespace Go.Proofs.YtmflnfnebmbjkaaGreat
namespace Co
def Kth (z:Int):Prop:=∃ k:Nat,1≤k∧k≤6∧(60 / (k:Int)) ∣ z
theorem Kth.zero:Kth 0:=⟨1,by decide,by decide,Int.dvd_zero _⟩
theorem kth_fil:∀ (G:List Int) (a left:Int),G.length≤6→Kth (fil G a left)
 | [],a,_,_=>⟨1,by decide,by decide,⟨a,rfl⟩⟩
 | g :: G,a,left,h=>by
  rw [Xm] at h;rw [fil]
  split
  ·exact kth_fil G g _ o9
  ·exact ⟨G.length + 1,by omega,h,Int.dvd_mul_left _ _⟩
theorem kth_rch {V bd:Nat→Int} {n c:Nat} {G:List Int} (h:G.length≤6):Kth (rch V bd n c G):=by
 unfold rch
 split
 ·exact Kth.zero
 ·exact kth_fil G _ _ h
theorem kth_thr {r:Nat→Int} (h:∀ c,Kth<|r c):∀ k,Kth (thr r k)
 | 0=>Kth.zero
 | k + 1=>by
  rw [thr];have h1:=kth_thr h k
  by_cases e:thr r k≤r k
  ·rw [Int.max_eq_right e];exact h k
  ·rw [Int.max_eq_left o9];exact h1
section
variable {m:Int}
theorem dvd_max {x y:Int} (h:m ∣ x) (k:m ∣ y):m ∣ max x y:=by
 by_cases e:x≤y
 ·rw [Int.max_eq_right e];exact k
 ·rw [Int.max_eq_left o9];exact h
theorem dvd_min {x y:Int} (h:m ∣ x) (k:m ∣ y):m ∣ min x y:=by
 by_cases e:x≤y
 ·rw [Int.min_eq_left e];exact h
 ·rw [Int.min_eq_right o9];exact k
theorem dvd_sm {f:Nat→Int}:∀ {n:Nat},(∀ i < n,m ∣ f i)→m ∣ sm f n
 | 0,_=>Int.dvd_zero _
 | n + 1,h=>by
  rw [sm];exact Int.dvd_add (dvd_sm fun i hi=>h i o9) (h n o9)
theorem dvd_rs {bd v:Nat→Int} {t:Int} (h60:m ∣ 60) (ht:m ∣ t) (i:Nat):m ∣ rs bd v t i:=
 dvd_min (Int.dvd_trans h60 ⟨_,rfl⟩) (Int.dvd_add (Int.dvd_trans h60 ⟨_,rfl⟩) ht)
theorem dvd_ox {c i n:Nat} {p:Nat→Int} (hp:∀ k < n,m ∣ p k):m ∣ ox c i p n:=dvd_sm fun k hk=>by
 split
 ·exact Int.dvd_zero _
 ·exact hp k hk
theorem dvd_lw {V bd:Nat→Int} {n i:Nat} {p:Nat→Int} (h60:m ∣ 60) (hp:∀ k < n,m ∣ p k):∀ c,m ∣ lw V bd n i p c
 | 0=>Int.dvd_zero _
 | c + 1=>by
  rw [lw]
  split
  ·exact dvd_lw h60 hp c
  ·exact dvd_max (dvd_lw h60 hp c) (Int.dvd_sub (Int.dvd_trans h60 ⟨_,I⟩)<|dvd_ox hp)
theorem dvd_pay {V bd:Nat→Int} {n:Nat} {p:Nat→Int} (h60:m ∣ 60) (hp:∀ k < n,m ∣ p k):∀ j,∀ k < n,m ∣ pay V bd n p j k
 | 0,k,hk=>hp k hk
 | j + 1,k,hk=>by
  show m ∣ if k=j then lw V bd n j (pay V bd n p j) (2 ^ n) else pay V bd n p j k
  split
  ·exact dvd_lw h60 (dvd_pay h60 hp j) _
  ·exact dvd_pay h60 hp j k hk
end
theorem kth60 {k:Nat} (h1:1≤k) (h2:k≤6):(60 / (k:Int)) ∣ 60:=⟨k,(div60 k h2 o9).1.symm⟩
end Co
end Go.Proofs.YtmflnfnebmbjkaaGreat
namespace Go.Proofs.YtmflnfnebmbjkaaGreat
open Go.RowKit
namespace Sx
section
section
variable {V bd:Nat→Int}{n:Nat}
theorem thT_kth (h:Co.Mkt n V bd):Co.Kth (thT V bd n):=Co.kth_thr (fun c=>Co.kth_rch<|JG gG_len h.n6) _
theorem pyS_kth (h:Co.Mkt n V bd):∃ k:Nat,1≤k∧k≤6∧∀ i < n,(60 / (k:Int)) ∣ pyS V bd n n i:=by
 obtain ⟨k,h1,h2,h3⟩:=thT_kth h;exact ⟨k,h1,h2,Co.dvd_pay (Co.kth60 h1 h2) (fun i _=>Co.dvd_rs (Co.kth60 h1 h2) h3 i) n⟩
theorem pyS_in (h:Co.Mkt n V bd):Co.In V bd n (pyS V bd n n):=(Co.pay_spec (V5 h) (fun i hi=>(KI h i hi).1) n<|Js _).1
theorem pyS_vcg (h:Co.Mkt n V bd) {i:Nat} (hi:i < n):60 * Co.vcg V bd n i≤pyS V bd n n i∧pyS V bd n n i≤60 * bd i:=by
 refine ⟨Co.in_vcg h (pyS_in h) hi,?_⟩;have h1:=((Co.pay_spec (V5 h) (fun i hi=>(KI h i hi).1) n<|Js _).2.1 i hi).2;have h2:=(Co.rs_nonneg h (qi h (2 ^ n)<|Js _).1 hi).2;unfold pyS at *;unfold pyR thT at *;omega
theorem blk_pyS (h:Co.Mkt n V bd):VT V bd n 60 (pyS V bd n n)=none:=WE fun c hc=>by have:=pyS_in h c hc;omega
theorem thT_zero (h:Co.Mkt n V bd) (hb:VT V bd n 60 (fun i=>60 * Co.vcg V bd n i)=none):thT V bd n=0:=by
 have h0:=(qi h (2 ^ n)<|Js _).1
 have hi:Co.In V bd n (Co.rs bd (Co.vcg V bd n) 0):=fun c hc=>by
  unfold VT at hb;rw [List.find?_eq_none] at hb;have h1:=hb c (List.mem_range.2 hc);simp only [Jz] at h1
  have h2:Co.oc c (Co.rs bd (Co.vcg V bd n) 0) n=Co.oc c (fun i=>60 * Co.vcg V bd n i) n:=Co.sm_congr fun i hi=>by rw [Co.rs_zero h hi]
  rw [h2];omega
 have:=(inB_iff h<|Int.le_refl 0).1 (Jo hi);unfold thT at *;omega
theorem pyS_zero (h:Co.Mkt n V bd) (ht:thT V bd n=0):zy (pyS V bd n n) n=zy (fun i=>60 * Co.vcg V bd n i) n:=by
 unfold zy;refine List.map_congr_left fun i hi=> ?_;have hin:=List.mem_range.1 hi;have h1:=pyS_vcg h hin;have h2:=((Co.pay_spec (V5 h) (fun i hi=>(KI h i hi).1) n<|Js _).2.1 i hin).2
 have h3:pyR V bd n i=60 * Co.vcg V bd n i:=by unfold pyR;rw [ht,Co.rs_zero h hin]
 unfold pyS at *;omega
theorem thT_pos (h:Co.Mkt n V bd) {c:Nat} (hb:VT V bd n 60 (fun i=>60 * Co.vcg V bd n i)=some c):0 < thT V bd n:=by
 have h0:=(qi h (2 ^ n)<|Js _).1
 by_cases e:thT V bd n≤0
 ·have h1:=oT ((inB_iff h<|Int.le_refl 0).2 e);unfold VT at hb;have h2:=List.find?_some hb;have h3:=List.mem_range.1 (List.mem_of_find?_eq_some hb);have h4:=h1 c h3
  have h5:Co.oc c (Co.rs bd (Co.vcg V bd n) 0) n=Co.oc c (fun i=>60 * Co.vcg V bd n i) n:=Co.sm_congr fun i hi=>by rw [Co.rs_zero h hi]
  rw [h5] at h4;simp only [Jz] at h2;omega
 ·omega
end
def mkP (K:Int) (X:Nat→Int) (n:Nat):List Rw:=(zy X n).map fun x=>rw_ (rn x K) (rd x K)
section
variable {K:Int}{X bd:Nat→Int}{n:Nat}
theorem Yb:(mkP K X n).length=n:=by unfold mkP;rw [JO,zN]
theorem mkP_at {i:Nat} {r:Rw} (h:(mkP K X n)[i]? =some r):i < n∧r=rw_ (rn (X i) K) (rd (X i) K):=by
 have hi:i < n:=by have:=(Jg.1 h).1;rwa [Yb] at this
 unfold mkP at h;rw [JJ,yY hi] at h;exact ⟨hi,(JN h).symm⟩
theorem jo:∀ r∈mkP K X n,Byt r.b r.c:=fun r hr=>by
 unfold mkP at hr;obtain ⟨x,_,rfl⟩:=JI.1 hr;exact ⟨fun x hx=>Nm.dg_lt d9 x<|List.mem_reverse.1 hx,fun x hx=>Nm.dg_lt d9 x<|List.mem_reverse.1 hx⟩
theorem mkP_eq (i:Nat) (x:Int) (r:Rw) (hx:(zy X n)[i]? =some x) (hr:(mkP K X n)[i]? =some r):ZJ K x=YW r:=by
 obtain ⟨hi,rfl⟩:=mkP_at hr;rw [yY hi] at hx;obtain rfl:=JN hx
 rfl
theorem KO:Le (lsD (ZJ K)<|zy X n) (lsD YW<|mkP K X n):=le_lsD (by rw [zN,Yb]) mkP_eq
theorem mkP_le:Le (lsD YW<|mkP K X n) (lsD (ZJ K)<|zy X n):=le_lsD (by rw [zN,Yb]) fun i r x hr hx=>(mkP_eq i x r hx hr).symm
theorem mkP_ok (hB:∀ i < n,BK K<|X i) (hd:∀ i < n,rd (X i) K≤1000) (i:Nat) (r:Rw) (h:(mkP K X n)[i]? =some r):r.ok:=by
 obtain ⟨hi,rfl⟩:=mkP_at h;exact ⟨(hB i hi).g.rv,by rw [qj];exact hd i hi⟩
theorem KN {x:Int} (h:BK K x):rn x K < 0↔x < 0:=by
 have:=sign_K h;rw [← YY,this,YY]
theorem hi_iff {x b:Int} (h:BK K x):b * rd x K < rn x K↔b * K < x:=by
 have c:=h.cr;have hd:=h.g.pos;have hK:=h.pos
 generalize rn x K=a at *
 generalize rd x K=d at *
 constructor
 ·intro h1;refine Int.lt_of_mul_lt_mul_right (a:=d) ?_ o9;have:=Int.mul_lt_mul_of_pos_right h1 hK;rw [← c,Int.mul_right_comm];exact this
 ·intro h1;refine Int.lt_of_mul_lt_mul_right (a:=K) ?_ o9;have:=Int.mul_lt_mul_of_pos_right h1 hd;rw [c,Int.mul_right_comm];exact this
theorem jO (hB:∀ i < n,BK K<|X i) (hd:∀ i < n,rd (X i) K≤1000) (h0:∀ i < n,0≤X i∧X i≤bd i * K):vpE (mkP K X n) bd n=0:=by
 refine vpE_no Yb (mkP_ok hB hd) fun i r h hh=> ?_;obtain ⟨hi,rfl⟩:=mkP_at h;have h1:=h0 i hi;rcases hh with hh | hh
 ·rw [qP,KN<|hB i hi] at hh;omega
 ·rw [qP,qj,hi_iff<|hB i hi] at hh;omega
theorem Wc (hB:∀ i < n,BK K<|X i) (hd:∀ i < n,rd (X i) K≤1000) {i:Nat} (hi:i < n) (hx:X i < 0):vpE (mkP K X n) bd n=3:=by
 have hr:(mkP K X n)[i]? =some (rw_ (rn (X i) K)<|rd (X i) K):=by unfold mkP;rw [JJ,yY hi];rfl
 exact vpE_hi Yb (mkP_ok hB hd) hr (.inl (by rw [qP,KN<|hB i hi];exact hx))
theorem Vs (hK:0 < K) (hk:Sm 61 K) (hkb:K≤1000000000000000000) (hx:∀ i < n,0≤X i∧X i≤1099511627776000000000000000000):PayK (mkP K X n) bd n K X:=⟨hK,hk,hkb,hx,mkP_le⟩
end
end
section
def xL (p:Nat→Int) (m:Int) (i j:Nat):Int:=m * p j - (if j=i then 60 else 0)
theorem qk_mul {x m:Int} (h:BK 60 x) (k:BK (60 * m) (m * x)):rn x 60=rn (m * x) (60 * m)∧rd x 60=rd (m * x) (60 * m):=by
 refine good_K k h.g ?_;have:=h.cr
 generalize rn x 60=a at *
 generalize rd x 60=b at *
 grind
theorem le_mul {A:Option Addr} {e c n:Nat} {p:Nat→Int} {m:Int} (h:∀ i < n,BK 60<|p i) (k:∀ i < n,BK (60 * m)<|m * p i):LeR (yk e 4 (ZJ 60) A c<|zy p n) (yk e 4 (ZJ<|60 * m) A c<|zy (fun i=>m * p i) n):=by
 have hq:(zy p n).flatMap (ZJ 60)=(zy (fun i=>m * p i) n).flatMap (ZJ<|60 * m):=zaF (by rw [zN,zN]) fun i x y hx hy=>by
  have hi:i < n:=by have:=(Jg.1 hx).1;rwa [zN] at this
  rw [yY hi] at hx hy;rw [← JN hx,← JN hy];obtain ⟨e1,e2⟩:=qk_mul (h i hi) (k i hi);show jh (rn (p i) 60) (rd (p i) 60)=jh (rn (m * p i)<|60 * m) (rd (m * p i)<|60 * m);rw [e1,e2]
 unfold yk;rw [hq,zN,zN];exact zG _
theorem bkm {m x:Int} (h1:1≤m) (h2:m≤100) (h3: -65970697666560000≤x) (h4:x≤65970697666560000):BK (60 * m) x:=jw o9 (by
 show (60 * m).natAbs < 2 ^ 61
 have:(2:Nat) ^ 61=2305843009213693952:=by decide +kernel
 omega) o9 o9
theorem Wb {m x:Int} (h1:1≤m) (h2:m≤100) (h3:0≤x∧x≤65970697666560):0≤m * x∧m * x≤6597069766656000:=by
 refine ⟨Int.mul_nonneg o9 h3.1,?_⟩;have:=Int.mul_le_mul h2 h3.2 h3.1 d9;omega
theorem xL_set {p:Nat→Int} {m:Int} {n i:Nat} (hi:i < n):(zy (fun j=>m * p j) n).set i (m * p i - 60)=zy (xL p m i) n:=tbl_set hi (by unfold xL;rw [Jh rfl]) fun j _ hj=>by unfold xL;rw [Jb hj];simp
theorem za6 (p:Nat→Int) (n i:Nat) (m:Int) (hn:n≤6) (hi:i < n) (hm1:1≤m) (hm2:m≤100) (hp:∀ j < n,0≤p j∧p j≤65970697666560):Con Tryz.prog 30 [lsD (ZJ 60)<|zy p n,iD (i:Int),iD m] (lsD (ZJ<|60 * m)<|zy (xL p m i) n):=by
 have hmi:=Wb hm1 hm2 (hp i hi);refine yb Tryz.func30 k9 I k9 fun base w0=>(zt<|zi I<|ze<|zh<|Ku 43 4 (ZJ 60)<|zd<|zc I (SWl.e4 (Ef.appT 0 4 64 I I (Ks I) k9 k9 (by show 0 + (zy p n).length≤_;rw [zN];omega) d9 (fun _ h=>h) I) fun A13 F13 c13=>(zi I<|ze<|zh<|SW.sub (σ':=zW [(1,_),(2,_),(7,isD<|.slice A13 (zy (fun j=>m * p j) n).length c13)] [.r F13<|yk 43 4 (ZJ<|60 * m) A13 c13<|zy (fun j=>m * p j) n]) (⟨⟨_,I,⟨lq I,⟨lq I,⟨⟨_,I,zL (by show Value.slice A13 (zy p n).length c13=_;rw [zN,zN])⟩,t9⟩⟩⟩⟩,[0],by decide,⟨⟨_,rfl,(le_mul (fun j hj=>by have:=hp j hj;exact YX o9 o9) (fun j hj=>by have:=Wb hm1 hm2 (hp j hj);exact bkm hm1 hm2 o9 o9))⟩,trivial⟩⟩)<|zd<|zc I<|zo (S:=[]) (zn (YO (K:=60 * m) (z:=60) (bkm hm1 hm2 d9 d9) d9 d9 o9 o9 o9 (by rw [Int.one_mul])) I ⟨zb _,zb _,t9⟩ I)<|zc I<|za I (zf I I)<|za I (zf I I) (SWl.e2 (S:=[]) (Ef.alloc (zs:=[.bool false,.slice none 0 0,.bool false,.slice none 0 0]) k9 I) fun g8=>(zo (S:=[_]) (zq 1 I I I k9 I<|m9 I)<|zi I<|ze<|zh<|jA (fun σ=>∃ g10,σ=zW [(1,iD (i:Int)),(7,isD<|.slice A13 (zy (fun j=>m * p j) n).length c13),(9,iD 0),(11,iD 0),(10,pA g10)] [.r F13<|yk 43 4 (ZJ<|60 * m) A13 c13<|zy (fun j=>m * p j) n,.c g10<|qKC (60 * m)<|m * p i - 60]) ?_ ?_)))))
 ·refine yg [] (rr [0,1,2,3,4]<|.n 5 (rr [6,7,8]<|.n 9 (.e 10 (.r 11 .fin) .no) .no)<|.n 9 (.n 5 (rr [6,7,8]<|.e 10 (.r 11 .fin) .no) .no) .no) k9 k9 (fun d _ _ _ _ h=>by cases d <;> exact h) (zC I I<|zC I I<|zk I I (yl 0 4 I I I k9 k9 o9 (by rw [zN];omega))<|zk I I (zbi 0 4 I I k9 (show (zy (fun j=>m * p j) n)[i]? =some (m * p i) from yY hi) zm)<|zk I I (zp 1 4 I I k9 I zm)<|Zm I (zn (VD (K:=60 * m) (bkm hm1 hm2 o9 o9) (bkm hm1 hm2 d9 d9)<|bkm hm1 hm2 o9 o9) I ⟨zb _,zb _,t9⟩ I) ?_ ?_)
  ·rintro _ rfl;refine zC I I (zk I I (zf I I)<|zk I I (zf I I)<|SWz.efb I (EfB.alloc (zs:=[.bool false,.slice none 0 0,.bool false,.slice none 0 0]) k9 I) ?_ yz);rintro g10 _ rfl;exact yQ I (zq 2 I I I k9 I<|mR _ mC) (Zd I I<|yA<|Zn ⟨g10,I⟩<|sB [0,2] I I)
  refine SWz.efb I (EfB.alloc (zs:=[.bool false,.slice none 0 0,.bool false,.slice none 0 0]) k9 I) ?_ yz;rintro g10 _ rfl;exact yL I (zn (VD (K:=60 * m) (bkm hm1 hm2 o9 o9) (bkm hm1 hm2 d9 d9)<|bkm hm1 hm2 o9 o9) I ⟨zb _,zb _,t9⟩ I) (zC I I<|zk I I (zf I I)<|zk I I (zf I I)<|yQ I (zq 2 I I I k9 I<|mR _ mC)<|Zd I I<|yA<|Zn ⟨g10,I⟩<|sB [0,2] I I)
 ·rintro _ ⟨g10,rfl⟩;refine zg (zh<|zt<|zc I<|za I (zT I I)<|zc I<|zJ I (zl I)<|zJ I (zT I I)<|za I (zF I I I)<|ze<|zB I I<|zv<|zg<|zt<|zc I<|zc I<|za I (zp 1 4 I I k9 I zm)<|za I (yl 0 4 I I I k9 k9 o9 (by rw [zN];omega))<|zo (S:=_) (jf (v:=(m * p i - 60)) 0 4 I I I k9 (by rw [zN];omega) (fun _ h=>h))<|ze<|zh<|SW.sub (σ':=zW [(7,isD<|.slice A13 (zy (xL p m i) n).length c13)] [.r F13<|yk 43 4 (ZJ<|60 * m) A13 c13<|zy (xL p m i) n]) (⟨⟨_,I,⟨⟨_,I,zL (by rw [zN,zN])⟩,t9⟩⟩,[1],by decide,⟨⟨_,rfl,(by rw [J7,xL_set hi];exact zG _)⟩,trivial⟩⟩)<|zd<|zc I<|zi I<|ze<|SW.freezeT 0 6 I I (zb _)<|zK (fn:=Tryz.f30) (fun _ _ h=>h)<|Rs.le (zU I<|zu I) ?_);exact zb _
