/- LAW 40: known. LAW 40: values, bids, threshold, payments, blocking. WHAT CAME IN: claims, wishes, Ratios. -/
import Derived.Test.YtmflnfnebmbjkaaGreatGZBG
set_option maxHeartbeats 8000000
set_option maxRecDepth 100000
namespace Go.Proofs.YtmflnfnebmbjkaaGreat
open Go.RowKit
namespace Sx
section
theorem bldCl {x y:Int}:Bld Tryz.prog 61 [0,1] [iD x,iD y] [iD x,iD y]:=fun L w vs hv=>by
 obtain ⟨u,v,rfl,rfl,rfl⟩:=VY hv;exact ⟨[.int .i64 x,.int .i64 y],⟨I,I,t9⟩,fun w'=>by kernel_rfl⟩
theorem bldWi {x y z:Int}:Bld Tryz.prog 63 [0,1,2] [iD x,iD y,iD z] [iD x,iD y,iD z]:=fun L w vs hv=>by
 obtain ⟨u,v,q,rfl,rfl,rfl,rfl⟩:=all3 hv;exact ⟨[.int .i64 x,.int .i64 y,.int .i64 z],⟨I,I,I,t9⟩,fun w'=>by kernel_rfl⟩
theorem blsCl3 {a b c d e f:Int}:Bls Tryz.prog 22 3 [0,1,2] [Yu [iD a,iD b],Yu [iD c,iD d],Yu [iD e,iD f]] ([(⟨a,b⟩:Co.Cl),⟨c,d⟩,⟨e,f⟩].flatMap z8):=⟨61,fun L w vs hv=>by
 obtain ⟨u,v,q,rfl,hu,hw,hq⟩:=all3 hv;obtain ⟨_,_,rfl,rfl,rfl⟩:=agg2 hu;obtain ⟨_,_,rfl,rfl,rfl⟩:=agg2 hw;obtain ⟨_,_,rfl,rfl,rfl⟩:=agg2 hq
 exact ⟨[.int .i64 a,.int .i64 b,.int .i64 c,.int .i64 d,.int .i64 e,.int .i64 f],⟨I,I,I,I,I,I,t9⟩,fun w'=>by kernel_rfl⟩⟩
theorem agg3d {L:LN} {w:World} {x y z:Int} {v:Value} (h:(Yu [iD x,iD y,iD z]).R L w v):v= .agg #[.int .i64 x,.int .i64 y,.int .i64 z]:=by
 obtain ⟨cs,rfl,hc⟩:=h
 match cs,hc with
 | [a,b,c],hc=>obtain ⟨rfl,rfl,rfl,-⟩:=hc;rfl
theorem blsWi3 {a b c d e f g h i:Int}:Bls Tryz.prog 23 3 [0,1,2] [Yu [iD a,iD b,iD c],Yu [iD d,iD e,iD f],Yu [iD g,iD h,iD i]] ([(⟨a,b,c⟩:Co.Wi),⟨d,e,f⟩,⟨g,h,i⟩].flatMap yJ):=⟨63,fun L w vs hv=>by
 obtain ⟨u,v,q,rfl,hu,hw,hq⟩:=all3 hv;rw [agg3d hu,agg3d hw,agg3d hq]
 exact ⟨[.int .i64 a,.int .i64 b,.int .i64 c,.int .i64 d,.int .i64 e,.int .i64 f,.int .i64 g,.int .i64 h,.int .i64 i],⟨I,I,I,I,I,I,I,I,I,t9⟩,fun w'=>by kernel_rfl⟩⟩
theorem blsI3 {x y z:Int}:Bls Tryz.prog 26 3 [0,1,2] [iD x,iD y,iD z] ([x,y,z].flatMap z2):=⟨3,fun L w vs hv=>by
 obtain ⟨u,v,q,rfl,rfl,rfl,rfl⟩:=all3 hv
 exact ⟨[.int .i64 x,.int .i64 y,.int .i64 z],⟨I,I,I,t9⟩,fun w'=>by kernel_rfl⟩⟩
theorem blsI8 {a b c d e f g h:Int}:Bls Tryz.prog 26 8 [0,1,2,3,4,5,6,7] [iD a,iD b,iD c,iD d,iD e,iD f,iD g,iD h] ([a,b,c,d,e,f,g,h].flatMap z2):=⟨3,fun L w vs hv=>by
 match vs,hv with
 | [a',b',c',d',e',f',g',h'],hv=>
  obtain ⟨rfl,rfl,rfl,rfl,rfl,rfl,rfl,rfl,-⟩:=hv
  exact ⟨[.int .i64 a,.int .i64 b,.int .i64 c,.int .i64 d,.int .i64 e,.int .i64 f,.int .i64 g,.int .i64 h],⟨I,I,I,I,I,I,I,I,t9⟩,fun w'=>by kernel_rfl⟩⟩
theorem WV {L:LN} {w:World} {n d:Int} {v:Value} (h:(Yd n d).R L w v):∃ B p q C r s,v= .agg #[.bool<|decide (n < 0),.slice B p q,.bool<|decide (d < 0),.slice C r s]∧All L w (jJ n d) [.bool<|decide (n < 0),.slice B p q,.bool<|decide (d < 0),.slice C r s]:=by
 obtain ⟨cs,rfl,hc⟩:=h
 match cs,hc with
 | [a,b,c,e],hc=>
  obtain ⟨rfl,hb,rfl,hd,-⟩:=hc;have hb':=hb;have hd':=hd;obtain ⟨B,x,rfl,-⟩:=hb';obtain ⟨C,y,rfl,-⟩:=hd';exact ⟨B,_,x,C,_,y,I,I,hb,I,hd,t9⟩
theorem blsRG3 {a b c d e f:Int}:Bls Tryz.prog 33 3 [0,1,2] [Yd a b,Yd c d,Yd e f] ([(a,b),(c,d),(e,f)].flatMap VH):=⟨43,fun L w vs hv=>by
 obtain ⟨u,v,q,rfl,hu,hw,hq⟩:=all3 hv;obtain ⟨B,p1,q1,C,r1,s1,rfl,h1⟩:=WV hu;obtain ⟨B2,p2,q2,C2,r2,s2,rfl,h2⟩:=WV hw;obtain ⟨B3,p3,q3,C3,r3,s3,rfl,h3⟩:=WV hq
 exact ⟨_,h1.append<|h2.append<|h3.append (show All L w [] [] from t9),fun w'=>by kernel_rfl⟩⟩
theorem le_pay0:Le (lsD VH [(rn 330 60,rd 330 60),(rn 330 60,rd 330 60),(0,1)]) (lsD (YZ 60)<|zC (pyS V0 B0_ l0.length l0.length) l0.length):=by
 rw [k_pay];obtain ⟨e1,e2⟩:=zero_K (K:=60) (jZ d9 d9)
 have h:[(rn 330 60,rd 330 60),(rn 330 60,rd 330 60),((0:Int),(1:Int))].flatMap VH=[330,330,0].flatMap (YZ 60):=by
  show jJ (rn 330 60) (rd 330 60) ++ (jJ (rn 330 60) (rd 330 60) ++ (jJ 0 1 ++ []))=jJ (rn 330 60) (rd 330 60) ++ (jJ (rn 330 60) (rd 330 60) ++ (jJ (rn 0 60) (rd 0 60) ++ []));rw [← e1,← e2]
 show Le (rwD 3<|[(rn 330 60,rd 330 60),(rn 330 60,rd 330 60),((0:Int),(1:Int))].flatMap VH) (rwD 3<|[330,330,0].flatMap<|YZ 60);rw [h];exact zb _
theorem qu:Con Tryz.prog 10 [] (yK true):=by
 refine zZ Tryz.func10 k9 I k9 fun base w0=>(zt<|ze I<|zR<|za I (yu I I bldCl)<|za I (yu I I bldCl)<|za I (yu I I bldCl)<|zp (S:=[]) (Zg I I blsCl3 I)<|ze I<|zR<|za I (yu I I bldWi)<|za I (yu I I bldWi)<|za I (yu I I bldWi)<|zp (S:=[]) (Zg I I blsWi3 I)<|ze I<|zd<|zh<|SW.sub (σ':=ya [(1,_),(2,_)] []) (sB [] I I)<|zf<|zp (S:=[]) (zn (za9 (n:=2) (N:=2) (D:=1) d9 d9 d9 d9 d9 (Wj d9 d9).rn (Wj d9 d9).rd) I ⟨zb _,zb _,t9⟩ I)<|zp (S:=[]) (zn (za9 (n:=0) (N:=0) (D:=1) d9 d9 d9 d9 d9 (Wj d9 d9).rn (Wj d9 d9).rd) I ⟨zb _,zb _,t9⟩ I)<|zp (S:=[]) (zn (VJ (z:=330) (jZ d9 d9) d9 d9 d9 d9 d9 d9) I ⟨zb _,zb _,t9⟩ I) (SWl.e2 (S:=[]) (Ef.alloc (zs:=[.bool false,.slice none 0 0,.bool false,.slice none 0 0]) k9 I) fun g3=>(SWl.e2 (S:=[]) (Ef.alloc (zs:=[.bool false,.slice none 0 0,.bool false,.slice none 0 0]) k9 I) fun g4=>(SWl.e2 (S:=[]) (Ef.alloc (zs:=[.bool false,.slice none 0 0,.bool false,.slice none 0 0]) k9 I) fun g5=>(zp (S:=[_]) (zy 0 I I I k9 I<|m9 I)<|zp (S:=[_]) (zy 1 I I I k9 I<|m9 I)<|zp (S:=[_]) (zy 2 I I I k9 I<|m9 I)<|zR ?_)))))
 refine zc I (zc I<|zp (S:=[]) (zn (Vb 4 l0 w0_ d9 vw0) I ⟨zb _,zb _,zb _,t9⟩ I)<|zc I<|za I (zi I I)<|za I (zi I I)<|ze I<|ze I<|zR<|zc I<|zc I<|zp (S:=[]) (zn (zbe 4 l0 w0_ d9 vw0) I ⟨zb _,zb _,zb _,t9⟩ I)<|zc I<|za I (zi I I)<|za I (zi I I)<|ze I<|ze I<|zR<|zc I<|zc I<|zp (S:=[]) (zn (con_vcg 4 l0 w0_ d9 vw0) I ⟨zb _,zb _,zb _,t9⟩ I)<|zc I<|za I (zi I I)<|za I (zi I I)<|ze I<|ze I<|zd<|zh<|SW.sub (σ':=ya [(1,lsD z8 l0),(2,lsD yJ w0_),(3,pA g3),(4,pA g4),(5,pA g5),(6,lsD z2 [0,9,9,18,11,11,11,18]),(8,lsD z2 [9,9,0]),(10,lsD z2 [2,2,0]),(7,iD 0),(9,iD 0),(11,iD 0)] [_,_,_]) (⟨⟨_,I,⟨lq I,⟨lq I,⟨lq I,⟨lq I,⟨lq I,⟨⟨_,I,(by rw [k_vals];exact zb _)⟩,⟨⟨_,I,(by rw [k_bids];exact zb _)⟩,⟨⟨_,I,(by rw [k_vcg];exact zb _)⟩,(sT I)⟩⟩⟩⟩⟩⟩⟩⟩⟩,[0,1,2],by decide,(sX rfl)⟩)<|zf<|zc I<|zc I<|za I (zx 0 4 I I k9 I zq) ?_);refine za I (zx 0 4 I I k9 I zq) (za I (zx 1 4 I I k9 I zq)<|zp (S:=[]) (Zg I I blsRG3 I)<|zp (S:=[]) (zn (con_block 4 l0 w0_ rs0 d9 rs0_byt (kP rs0) (xP rs0) d9 vw0 rs0_vp rs0_pay) I ⟨zb _,zb _,zb _,(show Le (lsD VH [(2,1),(2,1),(0,1)]) (lsD qX rs0) from zb _),t9⟩ I)<|zc I<|za I (zi I I)<|za I (zi I I)<|za I (zi I I)<|ze I<|ze I<|ze I<|zd<|zh<|SW.sub (σ':=ya [(1,lsD z8 l0),(2,lsD yJ w0_),(4,pA g4),(5,pA g5),(6,lsD z2 [0,9,9,18,11,11,11,18]),(8,lsD z2 [9,9,0]),(10,lsD z2 [2,2,0]),(12,lsD z2 [3]),(13,yK true),(7,iD 0),(9,iD 0),(11,iD 0),(14,iD 0)] [_,_]) (⟨⟨_,I,⟨lq I,⟨lq I,⟨lq I,⟨lq I,⟨lq I,⟨lq I,⟨lq I,⟨⟨_,I,(by rw [k_blk];show Le (lsD z2<|Co.wnr l0 4) _;rw [k_win];exact zb _)⟩,⟨⟨_,I,zG (by rw [k_blk];rfl)⟩,(sT I)⟩⟩⟩⟩⟩⟩⟩⟩⟩⟩,[1,2],by decide,(sX rfl)⟩)<|zf<|zc I<|zc I<|zp (S:=[]) (zn (qZ 4 l0 w0_ d9 vw0) I ⟨zb _,zb _,zb _,t9⟩ I)<|zc I<|za I (zi I I)<|za I (zi I I) (SWl.e2 (S:=[]) (Ef.alloc (zs:=[.bool false,.slice none 0 0,.bool false,.slice none 0 0]) k9 I) fun g15=>(zp (S:=[_]) (zy 2 I I I k9 I<|m9 I)<|ze I<|zR<|zc I<|zc I<|zp (S:=[]) (zn (Ww 4 l0 w0_ d9 vw0) I ⟨zb _,zb _,zb _,t9⟩ I)<|zc I<|za I (zi I I)<|za I (zi I I)<|ze I<|ze I<|zd<|zh ?_)))
 refine zh (SW.sub (σ':=ya [(4,_),(5,_),(15,_),(6,_),(8,_),(10,_),(12,_),(13,_),(17,_),(7,_),(9,_),(11,_),(14,_),(16,_),(18,_)] [.c g4<|jJ 0 1,.c g5<|qKC 60 330,.c g15<|qKC 60 210]) (⟨⟨_,I,(sT I)⟩,[0,1,2],by decide,⟨la rfl,⟨la rfl,⟨⟨_,rfl,(by rw [k_thr];exact yI _)⟩,trivial⟩⟩⟩⟩)<|zf<|zc I<|za I (yk I I)<|zc I<|zT I (zl I)<|zT I (yk I I)<|za I (zK I I I)<|zc I<|zT I (zl I)<|zT I (yk I I)<|za I (zK I I I)<|zc I<|zT I (zl I)<|zT I (yk I I)<|za I (zK I I I)<|zc I<|zT I (zl I)<|zT I (yk I I)<|za I (zK I I I)<|zc I<|zT I (zl I)<|zT I (yk I I)<|za I (zK I I I)<|zc I<|zT I (zl I)<|zT I (yG I)<|za I (zK I I I)<|zc I<|zT I (zl I)<|Zu (S:=[]) I I I I (Zg I I Y8 I) ?_);rintro _ rfl;refine Zu (S:=[]) I I I I (zn (qg [3] d9) I ⟨zb _,zb _,t9⟩ I) ?_;rintro _ rfl
 refine zT I (yG I) (za I (zK I I I)<|zd<|zI I I<|zw<|zg<|zh<|yf [] (.r 0<|.n 1 (.n 2 (.r 3<|.r 4<|.n 5 (.n 6 (rr [7,8,9]<|.n 10 (.n 11 (rr [12,13,14]<|.n 15 (.n 16 (rr [17,18,19,20,21,22]<|.n 23 (.n 24 (.r 25<|.r 26 .fin) .no) .no) .no) .no) .no) .no) .no) .no) .no) .no) k9 k9 (fun d _ _ _ _ h=>by cases d <;> exact h)<|zB I I<|yE I (Zg I I blsI8 I)<|yE I (zn (qg [0,9,9,18,11,11,11,18] d9) I ⟨zb _,zb _,t9⟩ I)<|zB I I<|zu I I I I I I (zl I)<|ZH I I I (I) I (Zg I I blsI3 I) ?_ yD)
 rintro _ rfl;refine ZH I I I (I) I (zn (qg [9,9,0] d9) I ⟨zb _,zb _,t9⟩ I) ?_ yD;rintro _ rfl;refine zj I I (zE I I I) (zB I I<|zu I I I I I I (zl I)<|ZH I I I (I) I (Zg I I blsI3 I) ?_ yD);rintro _ rfl;refine ZH I I I (I) I (zn (qg [2,2,0] d9) I ⟨zb _,zb _,t9⟩ I) ?_ yD;rintro _ rfl;refine zj I I (zE I I I) (zB I I<|zu I I I I I I (zx 2 4 I I k9 I zq)<|ZH I I I (I) I (zn (VJ (z:=210) (jZ d9 d9) d9 d9 d9 d9 d9 d9) I ⟨zb _,zb _,t9⟩ I) ?_ yD);rintro _ rfl;refine ZH I I I (I) I (zn (qh I I) I ⟨zb _,zb _,t9⟩ I) ?_ yD;rintro _ rfl;refine zj I I (zE I I I) (zB I I<|zu I I I I I I (zl I)<|zu I I I I I I (zx 1 4 I I k9 I zq)<|zu I I I I I I (zx 1 4 I I k9 I zq)<|zu I I I I I I (zx 0 4 I I k9 I zq)<|ZH I I I (I) I (Zg I I blsRG3 I) ?_ yD);rintro _ rfl;refine ZH I I I (I) I (zn (zbS 60 (pyS V0 B0_ l0.length l0.length) l0.length d9) I ⟨zb _,le_pay0,t9⟩ I) ?_ yD;rintro _ rfl;refine zj I I (zE I I I) (yR I I<|yv<|zF (fn:=Tryz.f10) (fun _ _ h=>h)<|Rs.le (zN I<|zo I) ?_)
 exact zb _
end
section
theorem coreThreshold_con (b:Int) (l:List Co.Cl) (ws:List Co.Wi):ConN Tryz.prog 6 [iD b,lsD z8 l,lsD yJ ws] (yK true):=by
 refine con_ofN Tryz.func6 k9 I k9 fun base w0=>(zt<|ze I<|zd<|zh<|zt<|zc I<|zc I<|zc I<|zp (S:=[]) (zn (con_few b l ws) I ⟨zb _,zb _,zb _,t9⟩ I)<|za I (yG I)<|zd<|zD I (fun hb15=> ?_) (fun hb15=> ?_))
 ·skip
  refine zt (zp (S:=[]) (zn (qu) I t9 I)<|ze I<|zd<|zF (fn:=Tryz.f6) (fun _ _ h=>h)<|Rs.le (zN I<|zo I) ?_);exact Kg I
 ·have hq:lfew b l ws=true:=(by have h:=hb15;revert h;cases lfew b l ws <;> simp);have hll:=lfew_len hq
  refine zw (zg<|zh ?_)
  by_cases hv:Co.VW b l ws
  ·have hn6:=hv.c.n;have hS64:2 ^ l.length≤64:=Co.pow_le64 hn6;refine zf (zc I<|zc I<|zc I<|zp (S:=[]) (zn (qZ b l ws o9 hv) I ⟨zb _,zb _,zb _,t9⟩ I)<|zc I<|za I (zi I I)<|za I (zi I I) (SWl.e2 (S:=[]) (Ef.alloc (zs:=[.bool false,.slice none 0 0,.bool false,.slice none 0 0]) k9 I) fun g7=>(zp (S:=[_]) (zy 0 I I I k9 I<|m9 I)<|ze I<|zR<|zc I<|zc I<|zc I<|zp (S:=[]) (zn (KK b l ws o9 hv) I ⟨zb _,zb _,zb _,t9⟩ I)<|zc I<|za I (zi I I)<|za I (zi I I) (SWl.e2 (S:=[]) (Ef.alloc (zs:=[.bool false,.slice none 0 0,.bool false,.slice none 0 0]) k9 I) fun g9=>(zp (S:=[_]) (zy 1 I I I k9 I<|m9 I)<|ze I<|zR<|za I (zx 0 4 I I k9 I zq)<|za I (zx 1 4 I I k9 I zq)<|zp (S:=[]) (zn (qh I I) I ⟨zb _,zb _,t9⟩ I)<|zc I<|zT I (zl I)<|zT I (zl I)<|zT I (yQ I I)<|za I (zE I I I)<|zc I<|Zu (S:=[]) I I s9 I (zn (qu) I t9 I) ?_)))));rintro _ rfl;refine za I (zE I s9 I) (ze I<|zd<|zF (fn:=Tryz.f6) (fun _ _ h=>h)<|Rs.le (zN I<|zo I) ?_)
   exact Kg I
  ·skip
   refine zf (zc I<|zc I<|zc I<|zp (S:=[]) (zn (KL b l ws o9 o9 hv) I ⟨zb _,zb _,zb _,t9⟩ I)<|zc I<|za I (zi I I)<|za I (zi I I) (SWl.e2 (S:=[]) (Ef.alloc (zs:=[.bool false,.slice none 0 0,.bool false,.slice none 0 0]) k9 I) fun g7=>(zp (S:=[_]) (zy 0 I I I k9 I<|m9 I)<|ze I<|zR<|zc I<|zc I<|zc I<|zp (S:=[]) (zn (Ko b l ws o9 o9 hv) I ⟨zb _,zb _,zb _,t9⟩ I)<|zc I<|za I (zi I I)<|za I (zi I I) (SWl.e2 (S:=[]) (Ef.alloc (zs:=[.bool false,.slice none 0 0,.bool false,.slice none 0 0]) k9 I) fun g9=>(zp (S:=[_]) (zy 1 I I I k9 I<|m9 I)<|ze I<|zR<|za I (zx 0 4 I I k9 I zq)<|za I (zx 1 4 I I k9 I zq)<|zp (S:=[]) (zn (qh I I) I ⟨zb _,zb _,t9⟩ I)<|zc I<|zT I (zl I)<|zT I (zl I)<|zT I (yQ I I)<|za I (zE I I I)<|zc I<|Zu (S:=[]) I I s9 I (zn (qu) I t9 I) ?_)))));rintro _ rfl;refine za I (zE I s9 I) (ze I<|zd<|zF (fn:=Tryz.f6) (fun _ _ h=>h)<|Rs.le (zN I<|zo I) ?_)
   exact Kg I
end
end Sx
end Go.Proofs.YtmflnfnebmbjkaaGreat
namespace Go.Proofs.YtmflnfnebmbjkaaGreat
open Go.ChangeShapes Go.WideShapes Go.ChangeAt Go.RowKit
namespace Sx
instance:Inhabited Co.Cl:=⟨⟨0,0⟩⟩
instance:Inhabited Co.Wi:=⟨⟨0,0,0⟩⟩
instance:Inhabited Rw:=⟨⟨false,[],false,[]⟩⟩
theorem zb2:Came Tryz.prog 61 z8 (fun _=>True):=fun H enc W fuel cs x h=>by
 obtain ⟨hl,hf⟩:=Kz Tryz.underlying61 h;have hl':cs.length=2:=hl.trans k9;obtain ⟨_,_,h0⟩:=hf 0 _ rfl;obtain ⟨_,_,h1⟩:=hf 1 _ rfl;obtain ⟨a,-,a0⟩:=q7 Tryz.underlying3 _ _ _ _ _ _ h0;obtain ⟨c,-,a1⟩:=q7 Tryz.underlying3 _ _ _ _ _ _ h1;exact ⟨⟨a,c⟩,t9,KB [[iD a],[iD c]] cs 0 ⟨a0,a1,t9⟩ (by simpa using hl')⟩
theorem came_claims:Came Tryz.prog 22 (fun l:List Co.Cl=>[lsD z8 l]) (fun l=>l.length≤maxLen∧∀ e∈l,True):=Vh Tryz.underlying22 k9 d9 zb2
theorem came_wish:Came Tryz.prog 63 yJ (fun _=>True):=fun H enc W fuel cs x h=>by
 obtain ⟨hl,hf⟩:=Kz Tryz.underlying63 h;have hl':cs.length=3:=hl.trans k9;obtain ⟨_,_,h0⟩:=hf 0 _ rfl;obtain ⟨_,_,h1⟩:=hf 1 _ rfl;obtain ⟨_,_,h2⟩:=hf 2 _ rfl;obtain ⟨a,-,a0⟩:=q7 Tryz.underlying3 _ _ _ _ _ _ h0;obtain ⟨c,-,a1⟩:=q7 Tryz.underlying3 _ _ _ _ _ _ h1;obtain ⟨d,-,a2⟩:=q7 Tryz.underlying3 _ _ _ _ _ _ h2;exact ⟨⟨a,c,d⟩,t9,KB [[iD a],[iD c],[iD d]] cs 0 ⟨a0,a1,a2,t9⟩ (by simpa using hl')⟩
theorem came_wishes:Came Tryz.prog 23 (fun l:List Co.Wi=>[lsD yJ l]) (fun l=>l.length≤maxLen∧∀ e∈l,True):=Vh Tryz.underlying23 k9 d9 came_wish
