/- LAW 40: known. LAW 40: values, bids, threshold, payments, blocking. WHAT CAME IN: claims, wishes, Ratios. -/
import Derived.Test.YtmflnfnebmbjkaaGreatGZBG
set_option maxHeartbeats 8000000
set_option maxRecDepth 100000
namespace Go.Proofs.YtmflnfnebmbjkaaGreat
open Go.RowKit
namespace Sx
section
theorem bldCl {x y:Int}:Bld Tryz.prog 61 [0,1] [iD x,iD y] [iD x,iD y]:=fun L w vs hv=>by
 obtain ⟨u,v,rfl,rfl,rfl⟩:=V2 hv;exact ⟨[.int .i64 x,.int .i64 y],⟨I,I,t9⟩,fun w'=>by kernel_rfl⟩
theorem bldWi {x y z:Int}:Bld Tryz.prog 63 [0,1,2] [iD x,iD y,iD z] [iD x,iD y,iD z]:=fun L w vs hv=>by
 obtain ⟨u,v,q,rfl,rfl,rfl,rfl⟩:=all3 hv;exact ⟨[.int .i64 x,.int .i64 y,.int .i64 z],⟨I,I,I,t9⟩,fun w'=>by kernel_rfl⟩
theorem blsCl3 {a b c d e f:Int}:Bls Tryz.prog 22 3 [0,1,2] [Yq [iD a,iD b],Yq [iD c,iD d],Yq [iD e,iD f]] ([(⟨a,b⟩:Co.Cl),⟨c,d⟩,⟨e,f⟩].flatMap yc):=⟨61,fun L w vs hv=>by
 obtain ⟨u,v,q,rfl,hu,hw,hq⟩:=all3 hv;obtain ⟨_,_,rfl,rfl,rfl⟩:=agg2 hu;obtain ⟨_,_,rfl,rfl,rfl⟩:=agg2 hw;obtain ⟨_,_,rfl,rfl,rfl⟩:=agg2 hq
 exact ⟨[.int .i64 a,.int .i64 b,.int .i64 c,.int .i64 d,.int .i64 e,.int .i64 f],⟨I,I,I,I,I,I,t9⟩,fun w'=>by kernel_rfl⟩⟩
theorem agg3d {L:LN} {w:World} {x y z:Int} {v:Value} (h:(Yq [iD x,iD y,iD z]).R L w v):v= .agg #[.int .i64 x,.int .i64 y,.int .i64 z]:=by
 obtain ⟨cs,rfl,hc⟩:=h
 match cs,hc with
 | [a,b,c],hc=>obtain ⟨rfl,rfl,rfl,-⟩:=hc;rfl
theorem blsWi3 {a b c d e f g h i:Int}:Bls Tryz.prog 23 3 [0,1,2] [Yq [iD a,iD b,iD c],Yq [iD d,iD e,iD f],Yq [iD g,iD h,iD i]] ([(⟨a,b,c⟩:Co.Wi),⟨d,e,f⟩,⟨g,h,i⟩].flatMap yJ):=⟨63,fun L w vs hv=>by
 obtain ⟨u,v,q,rfl,hu,hw,hq⟩:=all3 hv;rw [agg3d hu,agg3d hw,agg3d hq]
 exact ⟨[.int .i64 a,.int .i64 b,.int .i64 c,.int .i64 d,.int .i64 e,.int .i64 f,.int .i64 g,.int .i64 h,.int .i64 i],⟨I,I,I,I,I,I,I,I,I,t9⟩,fun w'=>by kernel_rfl⟩⟩
theorem blsI3 {x y z:Int}:Bls Tryz.prog 26 3 [0,1,2] [iD x,iD y,iD z] ([x,y,z].flatMap z2):=⟨3,fun L w vs hv=>by
 obtain ⟨u,v,q,rfl,rfl,rfl,rfl⟩:=all3 hv
 exact ⟨[.int .i64 x,.int .i64 y,.int .i64 z],⟨I,I,I,t9⟩,fun w'=>by kernel_rfl⟩⟩
theorem blsI8 {a b c d e f g h:Int}:Bls Tryz.prog 26 8 [0,1,2,3,4,5,6,7] [iD a,iD b,iD c,iD d,iD e,iD f,iD g,iD h] ([a,b,c,d,e,f,g,h].flatMap z2):=⟨3,fun L w vs hv=>by
 match vs,hv with
 | [a',b',c',d',e',f',g',h'],hv=>
  obtain ⟨rfl,rfl,rfl,rfl,rfl,rfl,rfl,rfl,-⟩:=hv
  exact ⟨[.int .i64 a,.int .i64 b,.int .i64 c,.int .i64 d,.int .i64 e,.int .i64 f,.int .i64 g,.int .i64 h],⟨I,I,I,I,I,I,I,I,t9⟩,fun w'=>by kernel_rfl⟩⟩
theorem W0 {L:LN} {w:World} {n d:Int} {v:Value} (h:(Yo n d).R L w v):∃ B p q C r s,v= .agg #[.bool<|decide (n < 0),.slice B p q,.bool<|decide (d < 0),.slice C r s]∧All L w (jL n d) [.bool<|decide (n < 0),.slice B p q,.bool<|decide (d < 0),.slice C r s]:=by
 obtain ⟨cs,rfl,hc⟩:=h
 match cs,hc with
 | [a,b,c,e],hc=>
  obtain ⟨rfl,hb,rfl,hd,-⟩:=hc;have hb':=hb;have hd':=hd;obtain ⟨B,x,rfl,-⟩:=hb';obtain ⟨C,y,rfl,-⟩:=hd';exact ⟨B,_,x,C,_,y,I,I,hb,I,hd,t9⟩
theorem blsRG3 {a b c d e f:Int}:Bls Tryz.prog 33 3 [0,1,2] [Yo a b,Yo c d,Yo e f] ([(a,b),(c,d),(e,f)].flatMap VH):=⟨43,fun L w vs hv=>by
 obtain ⟨u,v,q,rfl,hu,hw,hq⟩:=all3 hv;obtain ⟨B,p1,q1,C,r1,s1,rfl,h1⟩:=W0 hu;obtain ⟨B2,p2,q2,C2,r2,s2,rfl,h2⟩:=W0 hw;obtain ⟨B3,p3,q3,C3,r3,s3,rfl,h3⟩:=W0 hq
 exact ⟨_,h1.append<|h2.append<|h3.append (show All L w [] [] from t9),fun w'=>by kernel_rfl⟩⟩
theorem le_pay0:Le (lsD VH [(rn 330 60,rd 330 60),(rn 330 60,rd 330 60),(0,1)]) (lsD (Yi 60)<|zz (pyS V0 B0_ l0.length l0.length) l0.length):=by
 rw [k_pay];obtain ⟨e1,e2⟩:=zero_K (K:=60) (j4 d9 d9)
 have h:[(rn 330 60,rd 330 60),(rn 330 60,rd 330 60),((0:Int),(1:Int))].flatMap VH=[330,330,0].flatMap (Yi 60):=by
  show jL (rn 330 60) (rd 330 60) ++ (jL (rn 330 60) (rd 330 60) ++ (jL 0 1 ++ []))=jL (rn 330 60) (rd 330 60) ++ (jL (rn 330 60) (rd 330 60) ++ (jL (rn 0 60) (rd 0 60) ++ []));rw [← e1,← e2]
 show Le (rwD 3<|[(rn 330 60,rd 330 60),(rn 330 60,rd 330 60),((0:Int),(1:Int))].flatMap VH) (rwD 3<|[330,330,0].flatMap<|Yi 60);rw [h];exact zb _
theorem qy:Con Tryz.prog 10 [] (yK true):=by
 refine z6 Tryz.func10 k9 I k9 fun base w0=>(zp<|zd I<|zS<|za I (yz I I bldCl)<|za I (yz I I bldCl)<|za I (yz I I bldCl)<|zq (S:=[]) (y5 I I blsCl3 I)<|zd I<|zS<|za I (yz I I bldWi)<|za I (yz I I bldWi)<|za I (yz I I bldWi)<|zq (S:=[]) (y5 I I blsWi3 I)<|zd I<|ze<|zh<|SW.sub (σ':=z8 [(1,_),(2,_)] []) (sB [] I I)<|zf<|zq (S:=[]) (zn (zbf (n:=2) (N:=2) (D:=1) d9 d9 d9 d9 d9 (Wp d9 d9).rn (Wp d9 d9).rd) I ⟨zb _,zb _,t9⟩ I)<|zq (S:=[]) (zn (zbf (n:=0) (N:=0) (D:=1) d9 d9 d9 d9 d9 (Wp d9 d9).rn (Wp d9 d9).rd) I ⟨zb _,zb _,t9⟩ I)<|zq (S:=[]) (zn (VN (z:=330) (j4 d9 d9) d9 d9 d9 d9 d9 d9) I ⟨zb _,zb _,t9⟩ I) (SWl.e2 (S:=[]) (Ef.alloc (zs:=[.bool false,.slice none 0 0,.bool false,.slice none 0 0]) k9 I) fun g3=>(SWl.e2 (S:=[]) (Ef.alloc (zs:=[.bool false,.slice none 0 0,.bool false,.slice none 0 0]) k9 I) fun g4=>(SWl.e2 (S:=[]) (Ef.alloc (zs:=[.bool false,.slice none 0 0,.bool false,.slice none 0 0]) k9 I) fun g5=>(zq (S:=[_]) (zy 0 I I I k9 I<|m9 I)<|zq (S:=[_]) (zy 1 I I I k9 I<|m9 I)<|zq (S:=[_]) (zy 2 I I I k9 I<|m9 I)<|zS ?_)))))
 refine zc I (zc I<|zq (S:=[]) (zn (Va 4 l0 w0_ d9 vw0) I ⟨zb _,zb _,zb _,t9⟩ I)<|zc I<|za I (zi I I)<|za I (zi I I)<|zd I<|zd I<|zS<|zc I<|zc I<|zq (S:=[]) (zn (zbk 4 l0 w0_ d9 vw0) I ⟨zb _,zb _,zb _,t9⟩ I)<|zc I<|za I (zi I I)<|za I (zi I I)<|zd I<|zd I<|zS<|zc I<|zc I<|zq (S:=[]) (zn (con_vcg 4 l0 w0_ d9 vw0) I ⟨zb _,zb _,zb _,t9⟩ I)<|zc I<|za I (zi I I)<|za I (zi I I)<|zd I<|zd I<|ze<|zh<|SW.sub (σ':=z8 [(1,lsD yc l0),(2,lsD yJ w0_),(3,pA g3),(4,pA g4),(5,pA g5),(6,lsD z2 [0,9,9,18,11,11,11,18]),(8,lsD z2 [9,9,0]),(10,lsD z2 [2,2,0]),(7,iD 0),(9,iD 0),(11,iD 0)] [_,_,_]) (⟨⟨_,I,⟨lq I,⟨lq I,⟨lq I,⟨lq I,⟨lq I,⟨⟨_,I,(by rw [k_vals];exact zb _)⟩,⟨⟨_,I,(by rw [k_bids];exact zb _)⟩,⟨⟨_,I,(by rw [k_vcg];exact zb _)⟩,(sT I)⟩⟩⟩⟩⟩⟩⟩⟩⟩,[0,1,2],by decide,(sX rfl)⟩)<|zf<|zc I<|zc I<|za I (zx 0 4 I I k9 I zt) ?_);refine za I (zx 0 4 I I k9 I zt) (za I (zx 1 4 I I k9 I zt)<|zq (S:=[]) (y5 I I blsRG3 I)<|zq (S:=[]) (zn (con_block 4 l0 w0_ rs0 d9 rs0_byt (kP rs0) (xP rs0) d9 vw0 rs0_vp rs0_pay) I ⟨zb _,zb _,zb _,(show Le (lsD VH [(2,1),(2,1),(0,1)]) (lsD q5 rs0) from zb _),t9⟩ I)<|zc I<|za I (zi I I)<|za I (zi I I)<|za I (zi I I)<|zd I<|zd I<|zd I<|ze<|zh<|SW.sub (σ':=z8 [(1,lsD yc l0),(2,lsD yJ w0_),(4,pA g4),(5,pA g5),(6,lsD z2 [0,9,9,18,11,11,11,18]),(8,lsD z2 [9,9,0]),(10,lsD z2 [2,2,0]),(12,lsD z2 [3]),(13,yK true),(7,iD 0),(9,iD 0),(11,iD 0),(14,iD 0)] [_,_]) (⟨⟨_,I,⟨lq I,⟨lq I,⟨lq I,⟨lq I,⟨lq I,⟨lq I,⟨lq I,⟨⟨_,I,(by rw [k_blk];show Le (lsD z2<|Co.wnr l0 4) _;rw [k_win];exact zb _)⟩,⟨⟨_,I,zE (by rw [k_blk];rfl)⟩,(sT I)⟩⟩⟩⟩⟩⟩⟩⟩⟩⟩,[1,2],by decide,(sX rfl)⟩)<|zf<|zc I<|zc I<|zq (S:=[]) (zn (VJ 4 l0 w0_ d9 vw0) I ⟨zb _,zb _,zb _,t9⟩ I)<|zc I<|za I (zi I I)<|za I (zi I I) (SWl.e2 (S:=[]) (Ef.alloc (zs:=[.bool false,.slice none 0 0,.bool false,.slice none 0 0]) k9 I) fun g15=>(zq (S:=[_]) (zy 2 I I I k9 I<|m9 I)<|zd I<|zS<|zc I<|zc I<|zq (S:=[]) (zn (jN 4 l0 w0_ d9 vw0) I ⟨zb _,zb _,zb _,t9⟩ I)<|zc I<|za I (zi I I)<|za I (zi I I)<|zd I<|zd I<|ze<|zh ?_)))
 refine zh (SW.sub (σ':=z8 [(4,_),(5,_),(15,_),(6,_),(8,_),(10,_),(12,_),(13,_),(17,_),(7,_),(9,_),(11,_),(14,_),(16,_),(18,_)] [.c g4<|jL 0 1,.c g5<|qKC 60 330,.c g15<|qKC 60 210]) (⟨⟨_,I,(sT I)⟩,[0,1,2],by decide,⟨la rfl,⟨la rfl,⟨⟨_,rfl,(by rw [k_thr];exact yI _)⟩,trivial⟩⟩⟩⟩)<|zf<|zc I<|za I (yj I I)<|zc I<|zU I (zl I)<|zU I (yj I I)<|za I (zM I I I)<|zc I<|zU I (zl I)<|zU I (yj I I)<|za I (zM I I I)<|zc I<|zU I (zl I)<|zU I (yj I I)<|za I (zM I I I)<|zc I<|zU I (zl I)<|zU I (yj I I)<|za I (zM I I I)<|zc I<|zU I (zl I)<|zU I (yj I I)<|za I (zM I I I)<|zc I<|zU I (zl I)<|zU I (yF I)<|za I (zM I I I)<|zc I<|zU I (zl I)<|Zt (S:=[]) I I I I (y5 I I YZ I) ?_);rintro _ rfl;refine Zt (S:=[]) I I I I (zn (qj [3] d9) I ⟨zb _,zb _,t9⟩ I) ?_;rintro _ rfl
 refine zU I (yF I) (za I (zM I I I)<|ze<|zJ I I<|zw<|zg<|zh<|yf [] (.r 0<|.n 1 (.n 2 (.r 3<|.r 4<|.n 5 (.n 6 (rr [7,8,9]<|.n 10 (.n 11 (rr [12,13,14]<|.n 15 (.n 16 (rr [17,18,19,20,21,22]<|.n 23 (.n 24 (.r 25<|.r 26 .fin) .no) .no) .no) .no) .no) .no) .no) .no) .no) .no) k9 k9 (fun d _ _ _ _ h=>by cases d <;> exact h)<|zC I I<|yC I (y5 I I blsI8 I)<|yC I (zn (qj [0,9,9,18,11,11,11,18] d9) I ⟨zb _,zb _,t9⟩ I)<|zC I I<|zu I I I I I I (zl I)<|ZI I I I (I) I (y5 I I blsI3 I) ?_ yB)
 rintro _ rfl;refine ZI I I I (I) I (zn (qj [9,9,0] d9) I ⟨zb _,zb _,t9⟩ I) ?_ yB;rintro _ rfl;refine zj I I (zF I I I) (zC I I<|zu I I I I I I (zl I)<|ZI I I I (I) I (y5 I I blsI3 I) ?_ yB);rintro _ rfl;refine ZI I I I (I) I (zn (qj [2,2,0] d9) I ⟨zb _,zb _,t9⟩ I) ?_ yB;rintro _ rfl;refine zj I I (zF I I I) (zC I I<|zu I I I I I I (zx 2 4 I I k9 I zt)<|ZI I I I (I) I (zn (VN (z:=210) (j4 d9 d9) d9 d9 d9 d9 d9 d9) I ⟨zb _,zb _,t9⟩ I) ?_ yB);rintro _ rfl;refine ZI I I I (I) I (zn (Vd I I) I ⟨zb _,zb _,t9⟩ I) ?_ yB;rintro _ rfl;refine zj I I (zF I I I) (zC I I<|zu I I I I I I (zl I)<|zu I I I I I I (zx 1 4 I I k9 I zt)<|zu I I I I I I (zx 1 4 I I k9 I zt)<|zu I I I I I I (zx 0 4 I I k9 I zt)<|ZI I I I (I) I (y5 I I blsRG3 I) ?_ yB);rintro _ rfl;refine ZI I I I (I) I (zn (ju 60 (pyS V0 B0_ l0.length l0.length) l0.length d9) I ⟨zb _,le_pay0,t9⟩ I) ?_ yB;rintro _ rfl;refine zj I I (zF I I I) (yR I I<|yu<|zG (fn:=Tryz.f10) (fun _ _ h=>h)<|Rs.le (zN I<|zo I) ?_)
 exact zb _
end
section
theorem corePayments_con (b:Int) (l:List Co.Cl) (ws:List Co.Wi):ConN Tryz.prog 7 [iD b,lsD yc l,lsD yJ ws] (yK true):=by
 refine con_ofN Tryz.func7 k9 I k9 fun base w0=>(zp<|zd I<|ze<|zh<|zp<|zc I<|zc I<|zc I<|zq (S:=[]) (zn (con_few b l ws) I ⟨zb _,zb _,zb _,t9⟩ I)<|za I (yF I)<|ze<|zD I (fun hb15=> ?_) (fun hb15=> ?_))
 ·skip
  refine zp (zq (S:=[]) (zn (qy) I t9 I)<|zd I<|ze<|zG (fn:=Tryz.f7) (fun _ _ h=>h)<|Rs.le (zN I<|zo I) ?_);exact Kk I
 ·have hq:lfew b l ws=true:=(by have h:=hb15;revert h;cases lfew b l ws <;> simp);have hll:=lfew_len hq
  refine zw (zg<|zh ?_)
  by_cases hv:Co.VW b l ws
  ·have hn6:=hv.c.n;have hS64:2 ^ l.length≤64:=Co.pow_le64 hn6;refine zf (zc I<|zc I<|zc I<|zq (S:=[]) (zn (jN b l ws o9 hv) I ⟨zb _,zb _,zb _,t9⟩ I)<|zc I<|za I (zi I I)<|za I (zi I I)<|zd I<|zd I<|zS<|zc I<|zc I<|zc I<|zq (S:=[]) (zn (VK b l ws o9 hv) I ⟨zb _,zb _,zb _,t9⟩ I)<|zc I<|za I (zi I I)<|za I (zi I I)<|zd I<|zd I<|zS<|zc I<|zc I<|zq (S:=[]) (zn (ju 60 (pyS (Co.vO b l ws) (Co.bO b l ws) l.length l.length) l.length o9) I ⟨zb _,zb _,t9⟩ I)<|zc I<|zU I (zl I)<|zU I (zl I)<|zU I (yS I I)<|za I (zF I I I)<|zc I<|Zt (S:=[]) I I s9 I (zn (qy) I t9 I) ?_);rintro _ rfl;refine za I (zF I s9 I) (zd I<|ze<|zG (fn:=Tryz.f7) (fun _ _ h=>h)<|Rs.le (zN I<|zo I) ?_);exact Kk I
  ·skip
   refine zf (zc I<|zc I<|zc I<|zq (S:=[]) (zn (VL b l ws o9 o9 hv) I ⟨zb _,zb _,zb _,t9⟩ I)<|zc I<|za I (zi I I)<|za I (zi I I)<|zd I<|zd I<|zS<|zc I<|zc I<|zc I<|zq (S:=[]) (zn (KL b l ws o9 o9 hv) I ⟨zb _,zb _,zb _,t9⟩ I)<|zc I<|za I (zi I I)<|za I (zi I I)<|zd I<|zd I<|zS<|zc I<|zc I<|zq (S:=[]) (zn (ju 60 (fun _=>0) 0 d9) I ⟨(show Le (lsD (Yi 60) []) (lsD (Yi 60)<|zz (fun _=>0) 0) from zb _),(show Le (lsD (Yi 60) []) (lsD (Yi 60)<|zz (fun _=>0) 0) from zb _),t9⟩ I)<|zc I<|zU I (zl I)<|zU I (zl I)<|zU I (yS I I)<|za I (zF I I I)<|zc I<|Zt (S:=[]) I I s9 I (zn (qy) I t9 I) ?_);rintro _ rfl;refine za I (zF I s9 I) (zd I<|ze<|zG (fn:=Tryz.f7) (fun _ _ h=>h)<|Rs.le (zN I<|zo I) ?_);exact Kk I
end
end Sx
end Go.Proofs.YtmflnfnebmbjkaaGreat
namespace Go.Proofs.YtmflnfnebmbjkaaGreat
open Go.ChangeShapes Go.WideShapes Go.ChangeAt Go.RowKit
namespace Sx
instance:Inhabited Co.Cl:=⟨⟨0,0⟩⟩
instance:Inhabited Co.Wi:=⟨⟨0,0,0⟩⟩
instance:Inhabited Rw:=⟨⟨false,[],false,[]⟩⟩
theorem zb7:Came Tryz.prog 61 yc (fun _=>True):=fun H enc W fuel cs x h=>by
 obtain ⟨hl,hf⟩:=KB Tryz.underlying61 h;have hl':cs.length=2:=hl.trans k9;obtain ⟨_,_,h0⟩:=hf 0 _ rfl;obtain ⟨_,_,h1⟩:=hf 1 _ rfl;obtain ⟨a,-,a0⟩:=q9 Tryz.underlying3 _ _ _ _ _ _ h0;obtain ⟨c,-,a1⟩:=q9 Tryz.underlying3 _ _ _ _ _ _ h1;exact ⟨⟨a,c⟩,t9,KD [[iD a],[iD c]] cs 0 ⟨a0,a1,t9⟩ (by simpa using hl')⟩
theorem came_claims:Came Tryz.prog 22 (fun l:List Co.Cl=>[lsD yc l]) (fun l=>l.length≤maxLen∧∀ e∈l,True):=Vh Tryz.underlying22 k9 d9 zb7
theorem came_wish:Came Tryz.prog 63 yJ (fun _=>True):=fun H enc W fuel cs x h=>by
 obtain ⟨hl,hf⟩:=KB Tryz.underlying63 h;have hl':cs.length=3:=hl.trans k9;obtain ⟨_,_,h0⟩:=hf 0 _ rfl;obtain ⟨_,_,h1⟩:=hf 1 _ rfl;obtain ⟨_,_,h2⟩:=hf 2 _ rfl;obtain ⟨a,-,a0⟩:=q9 Tryz.underlying3 _ _ _ _ _ _ h0;obtain ⟨c,-,a1⟩:=q9 Tryz.underlying3 _ _ _ _ _ _ h1;obtain ⟨d,-,a2⟩:=q9 Tryz.underlying3 _ _ _ _ _ _ h2;exact ⟨⟨a,c,d⟩,t9,KD [[iD a],[iD c],[iD d]] cs 0 ⟨a0,a1,a2,t9⟩ (by simpa using hl')⟩
theorem came_wishes:Came Tryz.prog 23 (fun l:List Co.Wi=>[lsD yJ l]) (fun l=>l.length≤maxLen∧∀ e∈l,True):=Vh Tryz.underlying23 k9 d9 came_wish
