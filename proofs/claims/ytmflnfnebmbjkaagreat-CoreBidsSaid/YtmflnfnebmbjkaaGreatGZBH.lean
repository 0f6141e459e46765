/- LAW 40: known. LAW 40: values, bids, threshold, payments, blocking. WHAT CAME IN: claims, wishes, Ratios. -/
import Derived.Test.YtmflnfnebmbjkaaGreatGZBG
set_option maxHeartbeats 8000000
set_option maxRecDepth 100000
namespace Go.Proofs.YtmflnfnebmbjkaaGreat
open Go.RowKit
namespace Sx
section
theorem bldCl {x y:Int}:Bld Tryz.prog 61 [0,1] [iD x,iD y] [iD x,iD y]:=fun L w vs hv=>by
 obtain ⟨u,v,rfl,rfl,rfl⟩:=VR hv;exact ⟨[.int .i64 x,.int .i64 y],⟨I,I,t9⟩,fun w'=>by kernel_rfl⟩
theorem bldWi {x y z:Int}:Bld Tryz.prog 63 [0,1,2] [iD x,iD y,iD z] [iD x,iD y,iD z]:=fun L w vs hv=>by
 obtain ⟨u,v,q,rfl,rfl,rfl,rfl⟩:=all3 hv;exact ⟨[.int .i64 x,.int .i64 y,.int .i64 z],⟨I,I,I,t9⟩,fun w'=>by kernel_rfl⟩
theorem blsCl3 {a b c d e f:Int}:Bls Tryz.prog 22 3 [0,1,2] [Yq [iD a,iD b],Yq [iD c,iD d],Yq [iD e,iD f]] ([(⟨a,b⟩:Co.Cl),⟨c,d⟩,⟨e,f⟩].flatMap z2):=⟨61,fun L w vs hv=>by
 obtain ⟨u,v,q,rfl,hu,hw,hq⟩:=all3 hv;obtain ⟨_,_,rfl,rfl,rfl⟩:=agg2 hu;obtain ⟨_,_,rfl,rfl,rfl⟩:=agg2 hw;obtain ⟨_,_,rfl,rfl,rfl⟩:=agg2 hq
 exact ⟨[.int .i64 a,.int .i64 b,.int .i64 c,.int .i64 d,.int .i64 e,.int .i64 f],⟨I,I,I,I,I,I,t9⟩,fun w'=>by kernel_rfl⟩⟩
theorem agg3d {L:LN} {w:World} {x y z:Int} {v:Value} (h:(Yq [iD x,iD y,iD z]).R L w v):v= .agg #[.int .i64 x,.int .i64 y,.int .i64 z]:=by
 obtain ⟨cs,rfl,hc⟩:=h
 match cs,hc with
 | [a,b,c],hc=>obtain ⟨rfl,rfl,rfl,-⟩:=hc;rfl
theorem blsWi3 {a b c d e f g h i:Int}:Bls Tryz.prog 23 3 [0,1,2] [Yq [iD a,iD b,iD c],Yq [iD d,iD e,iD f],Yq [iD g,iD h,iD i]] ([(⟨a,b,c⟩:Co.Wi),⟨d,e,f⟩,⟨g,h,i⟩].flatMap yC):=⟨63,fun L w vs hv=>by
 obtain ⟨u,v,q,rfl,hu,hw,hq⟩:=all3 hv;rw [agg3d hu,agg3d hw,agg3d hq]
 exact ⟨[.int .i64 a,.int .i64 b,.int .i64 c,.int .i64 d,.int .i64 e,.int .i64 f,.int .i64 g,.int .i64 h,.int .i64 i],⟨I,I,I,I,I,I,I,I,I,t9⟩,fun w'=>by kernel_rfl⟩⟩
theorem blsI3 {x y z:Int}:Bls Tryz.prog 26 3 [0,1,2] [iD x,iD y,iD z] ([x,y,z].flatMap ya):=⟨3,fun L w vs hv=>by
 obtain ⟨u,v,q,rfl,rfl,rfl,rfl⟩:=all3 hv
 exact ⟨[.int .i64 x,.int .i64 y,.int .i64 z],⟨I,I,I,t9⟩,fun w'=>by kernel_rfl⟩⟩
theorem blsI8 {a b c d e f g h:Int}:Bls Tryz.prog 26 8 [0,1,2,3,4,5,6,7] [iD a,iD b,iD c,iD d,iD e,iD f,iD g,iD h] ([a,b,c,d,e,f,g,h].flatMap ya):=⟨3,fun L w vs hv=>by
 match vs,hv with
 | [a',b',c',d',e',f',g',h'],hv=>
  obtain ⟨rfl,rfl,rfl,rfl,rfl,rfl,rfl,rfl,-⟩:=hv
  exact ⟨[.int .i64 a,.int .i64 b,.int .i64 c,.int .i64 d,.int .i64 e,.int .i64 f,.int .i64 g,.int .i64 h],⟨I,I,I,I,I,I,I,I,t9⟩,fun w'=>by kernel_rfl⟩⟩
theorem WR {L:LN} {w:World} {n d:Int} {v:Value} (h:(Yi n d).R L w v):∃ B p q C r s,v= .agg #[.bool<|decide (n < 0),.slice B p q,.bool<|decide (d < 0),.slice C r s]∧All L w (jF n d) [.bool<|decide (n < 0),.slice B p q,.bool<|decide (d < 0),.slice C r s]:=by
 obtain ⟨cs,rfl,hc⟩:=h
 match cs,hc with
 | [a,b,c,e],hc=>
  obtain ⟨rfl,hb,rfl,hd,-⟩:=hc;have hb':=hb;have hd':=hd;obtain ⟨B,x,rfl,-⟩:=hb';obtain ⟨C,y,rfl,-⟩:=hd';exact ⟨B,_,x,C,_,y,I,I,hb,I,hd,t9⟩
theorem blsRG3 {a b c d e f:Int}:Bls Tryz.prog 33 3 [0,1,2] [Yi a b,Yi c d,Yi e f] ([(a,b),(c,d),(e,f)].flatMap Vy):=⟨43,fun L w vs hv=>by
 obtain ⟨u,v,q,rfl,hu,hw,hq⟩:=all3 hv;obtain ⟨B,p1,q1,C,r1,s1,rfl,h1⟩:=WR hu;obtain ⟨B2,p2,q2,C2,r2,s2,rfl,h2⟩:=WR hw;obtain ⟨B3,p3,q3,C3,r3,s3,rfl,h3⟩:=WR hq
 exact ⟨_,h1.append<|h2.append<|h3.append (show All L w [] [] from t9),fun w'=>by kernel_rfl⟩⟩
theorem le_pay0:Le (lsD Vy [(rn 330 60,rd 330 60),(rn 330 60,rd 330 60),(0,1)]) (lsD (Y0 60)<|zD (pyS V0 B0_ l0.length l0.length) l0.length):=by
 rw [k_pay];obtain ⟨e1,e2⟩:=zero_K (K:=60) (Kt d9 d9)
 have h:[(rn 330 60,rd 330 60),(rn 330 60,rd 330 60),((0:Int),(1:Int))].flatMap Vy=[330,330,0].flatMap (Y0 60):=by
  show jF (rn 330 60) (rd 330 60) ++ (jF (rn 330 60) (rd 330 60) ++ (jF 0 1 ++ []))=jF (rn 330 60) (rd 330 60) ++ (jF (rn 330 60) (rd 330 60) ++ (jF (rn 0 60) (rd 0 60) ++ []));rw [← e1,← e2]
 show Le (rwD 3<|[(rn 330 60,rd 330 60),(rn 330 60,rd 330 60),((0:Int),(1:Int))].flatMap Vy) (rwD 3<|[330,330,0].flatMap<|Y0 60);rw [h];exact zb _
theorem qu:Con Tryz.prog 10 [] (yL true):=by
 refine z1 Tryz.func10 k9 I k9 fun base w0=>(zt<|zd I<|zQ<|za I (yx I I bldCl)<|za I (yx I I bldCl)<|za I (yx I I bldCl)<|zq (S:=[]) (Zs I I blsCl3 I)<|zd I<|zQ<|za I (yx I I bldWi)<|za I (yx I I bldWi)<|za I (yx I I bldWi)<|zq (S:=[]) (Zs I I blsWi3 I)<|zd I<|ze<|zh<|SW.sub (σ':=z6 [(1,_),(2,_)] []) (sB [] I I)<|zf<|zq (S:=[]) (zn (za4 (n:=2) (N:=2) (D:=1) d9 d9 d9 d9 d9 (Wd d9 d9).rn (Wd d9 d9).rd) I ⟨zb _,zb _,t9⟩ I)<|zq (S:=[]) (zn (za4 (n:=0) (N:=0) (D:=1) d9 d9 d9 d9 d9 (Wd d9 d9).rn (Wd d9 d9).rd) I ⟨zb _,zb _,t9⟩ I)<|zq (S:=[]) (zn (za6 (z:=330) (Kt d9 d9) d9 d9 d9 d9 d9 d9) I ⟨zb _,zb _,t9⟩ I) (SWl.e2 (S:=[]) (Ef.alloc (zs:=[.bool false,.slice none 0 0,.bool false,.slice none 0 0]) k9 I) fun g3=>(SWl.e2 (S:=[]) (Ef.alloc (zs:=[.bool false,.slice none 0 0,.bool false,.slice none 0 0]) k9 I) fun g4=>(SWl.e2 (S:=[]) (Ef.alloc (zs:=[.bool false,.slice none 0 0,.bool false,.slice none 0 0]) k9 I) fun g5=>(zq (S:=[_]) (zy 0 I I I k9 I<|m9 I)<|zq (S:=[_]) (zy 1 I I I k9 I<|m9 I)<|zq (S:=[_]) (zy 2 I I I k9 I<|m9 I)<|zQ ?_)))))
 refine zc I (zc I<|zq (S:=[]) (zn (KY 4 l0 w0_ d9 vw0) I ⟨zb _,zb _,zb _,t9⟩ I)<|zc I<|za I (zi I I)<|za I (zi I I)<|zd I<|zd I<|zQ<|zc I<|zc I<|zq (S:=[]) (zn (VD 4 l0 w0_ d9 vw0) I ⟨zb _,zb _,zb _,t9⟩ I)<|zc I<|za I (zi I I)<|za I (zi I I)<|zd I<|zd I<|zQ<|zc I<|zc I<|zq (S:=[]) (zn (con_vcg 4 l0 w0_ d9 vw0) I ⟨zb _,zb _,zb _,t9⟩ I)<|zc I<|za I (zi I I)<|za I (zi I I)<|zd I<|zd I<|ze<|zh<|SW.sub (σ':=z6 [(1,lsD z2 l0),(2,lsD yC w0_),(3,pA g3),(4,pA g4),(5,pA g5),(6,lsD ya [0,9,9,18,11,11,11,18]),(8,lsD ya [9,9,0]),(10,lsD ya [2,2,0]),(7,iD 0),(9,iD 0),(11,iD 0)] [_,_,_]) (⟨⟨_,I,⟨lq I,⟨lq I,⟨lq I,⟨lq I,⟨lq I,⟨⟨_,I,(by rw [k_vals];exact zb _)⟩,⟨⟨_,I,(by rw [k_bids];exact zb _)⟩,⟨⟨_,I,(by rw [k_vcg];exact zb _)⟩,(sT I)⟩⟩⟩⟩⟩⟩⟩⟩⟩,[0,1,2],by decide,(sX rfl)⟩)<|zf<|zc I<|zc I<|za I (zw 0 4 I I k9 I zp) ?_);refine za I (zw 0 4 I I k9 I zp) (za I (zw 1 4 I I k9 I zp)<|zq (S:=[]) (Zs I I blsRG3 I)<|zq (S:=[]) (zn (con_block 4 l0 w0_ rs0 d9 rs0_byt (kP rs0) (xP rs0) d9 vw0 rs0_vp rs0_pay) I ⟨zb _,zb _,zb _,(show Le (lsD Vy [(2,1),(2,1),(0,1)]) (lsD qW rs0) from zb _),t9⟩ I)<|zc I<|za I (zi I I)<|za I (zi I I)<|za I (zi I I)<|zd I<|zd I<|zd I<|ze<|zh<|SW.sub (σ':=z6 [(1,lsD z2 l0),(2,lsD yC w0_),(4,pA g4),(5,pA g5),(6,lsD ya [0,9,9,18,11,11,11,18]),(8,lsD ya [9,9,0]),(10,lsD ya [2,2,0]),(12,lsD ya [3]),(13,yL true),(7,iD 0),(9,iD 0),(11,iD 0),(14,iD 0)] [_,_]) (⟨⟨_,I,⟨lq I,⟨lq I,⟨lq I,⟨lq I,⟨lq I,⟨lq I,⟨lq I,⟨⟨_,I,(by rw [k_blk];show Le (lsD ya<|Co.wnr l0 4) _;rw [k_win];exact zb _)⟩,⟨⟨_,I,zG (by rw [k_blk];rfl)⟩,(sT I)⟩⟩⟩⟩⟩⟩⟩⟩⟩⟩,[1,2],by decide,(sX rfl)⟩)<|zf<|zc I<|zc I<|zq (S:=[]) (zn (VA 4 l0 w0_ d9 vw0) I ⟨zb _,zb _,zb _,t9⟩ I)<|zc I<|za I (zi I I)<|za I (zi I I) (SWl.e2 (S:=[]) (Ef.alloc (zs:=[.bool false,.slice none 0 0,.bool false,.slice none 0 0]) k9 I) fun g15=>(zq (S:=[_]) (zy 2 I I I k9 I<|m9 I)<|zd I<|zQ<|zc I<|zc I<|zq (S:=[]) (zn (Wr 4 l0 w0_ d9 vw0) I ⟨zb _,zb _,zb _,t9⟩ I)<|zc I<|za I (zi I I)<|za I (zi I I)<|zd I<|zd I<|ze<|zh ?_)))
 refine zh (SW.sub (σ':=z6 [(4,_),(5,_),(15,_),(6,_),(8,_),(10,_),(12,_),(13,_),(17,_),(7,_),(9,_),(11,_),(14,_),(16,_),(18,_)] [.c g4<|jF 0 1,.c g5<|qKC 60 330,.c g15<|qKC 60 210]) (⟨⟨_,I,(sT I)⟩,[0,1,2],by decide,⟨la rfl,⟨la rfl,⟨⟨_,rfl,(by rw [k_thr];exact yJ _)⟩,trivial⟩⟩⟩⟩)<|zf<|zc I<|za I (yk I I)<|zc I<|zT I (zl I)<|zT I (yk I I)<|za I (zJ I I I)<|zc I<|zT I (zl I)<|zT I (yk I I)<|za I (zJ I I I)<|zc I<|zT I (zl I)<|zT I (yk I I)<|za I (zJ I I I)<|zc I<|zT I (zl I)<|zT I (yk I I)<|za I (zJ I I I)<|zc I<|zT I (zl I)<|zT I (yk I I)<|za I (zJ I I I)<|zc I<|zT I (zl I)<|zT I (yE I)<|za I (zJ I I I)<|zc I<|zT I (zl I)<|Zh (S:=[]) I I I I (Zs I I qn I) ?_);rintro _ rfl;refine Zh (S:=[]) I I I I (zn (ZN [3] d9) I ⟨zb _,zb _,t9⟩ I) ?_;rintro _ rfl
 refine zT I (yE I) (za I (zJ I I I)<|ze<|zI I I<|zx<|zg<|zh<|yf [] (.r 0<|.n 1 (.n 2 (.r 3<|.r 4<|.n 5 (.n 6 (rr [7,8,9]<|.n 10 (.n 11 (rr [12,13,14]<|.n 15 (.n 16 (rr [17,18,19,20,21,22]<|.n 23 (.n 24 (.r 25<|.r 26 .fin) .no) .no) .no) .no) .no) .no) .no) .no) .no) .no) k9 k9 (fun d _ _ _ _ h=>by cases d <;> exact h)<|zB I I<|yG I (Zs I I blsI8 I)<|yG I (zn (ZN [0,9,9,18,11,11,11,18] d9) I ⟨zb _,zb _,t9⟩ I)<|zB I I<|zu I I I I I I (zl I)<|ZH I I I (I) I (Zs I I blsI3 I) ?_ yF)
 rintro _ rfl;refine ZH I I I (I) I (zn (ZN [9,9,0] d9) I ⟨zb _,zb _,t9⟩ I) ?_ yF;rintro _ rfl;refine zj I I (zC I I I) (zB I I<|zu I I I I I I (zl I)<|ZH I I I (I) I (Zs I I blsI3 I) ?_ yF);rintro _ rfl;refine ZH I I I (I) I (zn (ZN [2,2,0] d9) I ⟨zb _,zb _,t9⟩ I) ?_ yF;rintro _ rfl;refine zj I I (zC I I I) (zB I I<|zu I I I I I I (zw 2 4 I I k9 I zp)<|ZH I I I (I) I (zn (za6 (z:=210) (Kt d9 d9) d9 d9 d9 d9 d9 d9) I ⟨zb _,zb _,t9⟩ I) ?_ yF);rintro _ rfl;refine ZH I I I (I) I (zn (K5 I I) I ⟨zb _,zb _,t9⟩ I) ?_ yF;rintro _ rfl;refine zj I I (zC I I I) (zB I I<|zu I I I I I I (zl I)<|zu I I I I I I (zw 1 4 I I k9 I zp)<|zu I I I I I I (zw 1 4 I I k9 I zp)<|zu I I I I I I (zw 0 4 I I k9 I zp)<|ZH I I I (I) I (Zs I I blsRG3 I) ?_ yF);rintro _ rfl;refine ZH I I I (I) I (zn (zbO 60 (pyS V0 B0_ l0.length l0.length) l0.length d9) I ⟨zb _,le_pay0,t9⟩ I) ?_ yF;rintro _ rfl;refine zj I I (zC I I I) (yU I I<|yu<|zF (fn:=Tryz.f10) (fun _ _ h=>h)<|Rs.le (zN I<|zo I) ?_)
 exact zb _
end
section
theorem coreBids_con (b:Int) (l:List Co.Cl) (ws:List Co.Wi):ConN Tryz.prog 4 [iD b,lsD z2 l,lsD yC ws] (yL true):=by
 refine con_ofN Tryz.func4 k9 I k9 fun base w0=>(zt<|zd I<|ze<|zh<|zt<|zc I<|zc I<|zc I<|zq (S:=[]) (zn (con_few b l ws) I ⟨zb _,zb _,zb _,t9⟩ I)<|za I (yE I)<|ze<|zE I (fun hb19=> ?_) (fun hb19=> ?_))
 ·skip
  refine zt (zq (S:=[]) (zn (qu) I t9 I)<|zd I<|ze<|zF (fn:=Tryz.f4) (fun _ _ h=>h)<|Rs.le (zN I<|zo I) ?_);exact Kc I
 ·have hq:lfew b l ws=true:=(by have h:=hb19;revert h;cases lfew b l ws <;> simp);have hll:=lfew_len hq
  refine zx (zg<|zh ?_)
  by_cases hv:Co.VW b l ws
  ·have hn6:=hv.c.n;have hS64:2 ^ l.length≤64:=Co.pow_le64 hn6;refine zf (zc I<|zc I<|zc I<|zq (S:=[]) (zn (VD b l ws o9 hv) I ⟨zb _,zb _,zb _,t9⟩ I)<|zc I<|za I (zi I I)<|za I (zi I I)<|zd I<|zd I<|zQ<|zc I<|zc I<|zc I<|zq (S:=[]) (zn (Wz b l ws o9 hv) I ⟨zb _,zb _,zb _,t9⟩ I)<|zc I<|za I (zi I I)<|za I (zi I I)<|zd I<|zd I<|zQ<|zc I<|zc I<|zc I<|zq (S:=[]) (zn (con_vcg b l ws o9 hv) I ⟨zb _,zb _,zb _,t9⟩ I)<|zc I<|za I (zi I I)<|za I (zi I I)<|zd I<|zd I<|zQ ?_);refine zc I (zc I<|zc I<|zq (S:=[]) (zn (con_vcgR b l ws o9 hv) I ⟨zb _,zb _,zb _,t9⟩ I)<|zc I<|za I (zi I I)<|za I (zi I I)<|zd I<|zd I<|zQ<|zc I<|zc I<|zq (S:=[]) (zn (ZN (zD (Co.bO b l ws) l.length) (by rw [yi];omega)) I ⟨zb _,zb _,t9⟩ I)<|zc I<|zT I (zl I)<|zT I (zl I)<|zT I (yP I I)<|za I (zC I I I)<|zc I<|ZK I I s9 I I (zl I)<|ZK I I s9 I I (zl I)<|Zh (S:=[]) I I s9 I (zn (ZN (zD (Co.vcg (Co.vO b l ws) (Co.bO b l ws) l.length) l.length) (by rw [yi];omega)) I ⟨zb _,zb _,t9⟩ I) ?_)
   rintro _ rfl;refine za I (zC I s9 I) (zc I<|zT I (zl I)<|zT I (zl I)<|zT I (yP I I)<|za I (zC I I I)<|zc I<|Zh (S:=[]) I I s9 I (zn (qu) I t9 I) ?_);rintro _ rfl;refine za I (zC I s9 I) (zd I<|ze<|zF (fn:=Tryz.f4) (fun _ _ h=>h)<|Rs.le (zN I<|zo I) ?_);exact Kc I
  ·skip
   refine zf (zc I<|zc I<|zc I<|zq (S:=[]) (zn (con_bidsN b l ws o9 o9 hv) I ⟨zb _,zb _,zb _,t9⟩ I)<|zc I<|za I (zi I I)<|za I (zi I I)<|zd I<|zd I<|zQ<|zc I<|zc I<|zc I<|zq (S:=[]) (zn (zbW b l ws o9 o9 hv) I ⟨zb _,zb _,zb _,t9⟩ I)<|zc I<|za I (zi I I)<|za I (zi I I)<|zd I<|zd I<|zQ<|zc I<|zc I<|zc I<|zq (S:=[]) (zn (con_vcgN b l ws o9 o9 hv) I ⟨zb _,zb _,zb _,t9⟩ I)<|zc I<|za I (zi I I)<|za I (zi I I)<|zd I<|zd I<|zQ ?_);refine zc I (zc I<|zc I<|zq (S:=[]) (zn (con_vcgRN b l ws o9 o9 hv) I ⟨zb _,zb _,zb _,t9⟩ I)<|zc I<|za I (zi I I)<|za I (zi I I)<|zd I<|zd I<|zQ<|zc I<|zc I<|zq (S:=[]) (zn (ZN [] d9) I ⟨zb _,zb _,t9⟩ I)<|zc I<|zT I (zl I)<|zT I (zl I)<|zT I (yP I I)<|za I (zC I I I)<|zc I<|ZK I I s9 I I (zl I)<|ZK I I s9 I I (zl I)<|Zh (S:=[]) I I s9 I (zn (ZN [] d9) I ⟨zb _,zb _,t9⟩ I) ?_)
   rintro _ rfl;refine za I (zC I s9 I) (zc I<|zT I (zl I)<|zT I (zl I)<|zT I (yP I I)<|za I (zC I I I)<|zc I<|Zh (S:=[]) I I s9 I (zn (qu) I t9 I) ?_);rintro _ rfl;refine za I (zC I s9 I) (zd I<|ze<|zF (fn:=Tryz.f4) (fun _ _ h=>h)<|Rs.le (zN I<|zo I) ?_);exact Kc I
end
end Sx
end Go.Proofs.YtmflnfnebmbjkaaGreat
namespace Go.Proofs.YtmflnfnebmbjkaaGreat
open Go.ChangeShapes Go.WideShapes Go.ChangeAt Go.RowKit
namespace Sx
instance:Inhabited Co.Cl:=⟨⟨0,0⟩⟩
instance:Inhabited Co.Wi:=⟨⟨0,0,0⟩⟩
instance:Inhabited Rw:=⟨⟨false,[],false,[]⟩⟩
theorem zbY:Came Tryz.prog 61 z2 (fun _=>True):=fun H enc W fuel cs x h=>by
 obtain ⟨hl,hf⟩:=Ks Tryz.underlying61 h;have hl':cs.length=2:=hl.trans k9;obtain ⟨_,_,h0⟩:=hf 0 _ rfl;obtain ⟨_,_,h1⟩:=hf 1 _ rfl;obtain ⟨a,-,a0⟩:=qZ Tryz.underlying3 _ _ _ _ _ _ h0;obtain ⟨c,-,a1⟩:=qZ Tryz.underlying3 _ _ _ _ _ _ h1;exact ⟨⟨a,c⟩,t9,Kv [[iD a],[iD c]] cs 0 ⟨a0,a1,t9⟩ (by simpa using hl')⟩
theorem came_claims:Came Tryz.prog 22 (fun l:List Co.Cl=>[lsD z2 l]) (fun l=>l.length≤maxLen∧∀ e∈l,True):=K9 Tryz.underlying22 k9 d9 zbY
theorem came_wish:Came Tryz.prog 63 yC (fun _=>True):=fun H enc W fuel cs x h=>by
 obtain ⟨hl,hf⟩:=Ks Tryz.underlying63 h;have hl':cs.length=3:=hl.trans k9;obtain ⟨_,_,h0⟩:=hf 0 _ rfl;obtain ⟨_,_,h1⟩:=hf 1 _ rfl;obtain ⟨_,_,h2⟩:=hf 2 _ rfl;obtain ⟨a,-,a0⟩:=qZ Tryz.underlying3 _ _ _ _ _ _ h0;obtain ⟨c,-,a1⟩:=qZ Tryz.underlying3 _ _ _ _ _ _ h1;obtain ⟨d,-,a2⟩:=qZ Tryz.underlying3 _ _ _ _ _ _ h2;exact ⟨⟨a,c,d⟩,t9,Kv [[iD a],[iD c],[iD d]] cs 0 ⟨a0,a1,a2,t9⟩ (by simpa using hl')⟩
theorem came_wishes:Came Tryz.prog 23 (fun l:List Co.Wi=>[lsD yC l]) (fun l=>l.length≤maxLen∧∀ e∈l,True):=K9 Tryz.underlying23 k9 d9 came_wish
