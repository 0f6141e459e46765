/- LAW 40: known. LAW 40: values, bids, threshold, payments, blocking. WHAT CAME IN: claims, wishes, Ratios. -/
import Derived.Test.YtmflnfnebmbjkaaGreatGZBG
set_option maxHeartbeats 8000000
set_option maxRecDepth 100000
namespace Go.Proofs.YtmflnfnebmbjkaaGreat
open Go.RowKit
namespace Sx
section
theorem bldCl {x y:Int}:Bld Tryz.prog 61 [0,1] [iD x,iD y] [iD x,iD y]:=fun L w vs hv=>by
 obtain ⟨u,v,rfl,rfl,rfl⟩:=VL hv;exact ⟨[.int .i64 x,.int .i64 y],⟨I,I,t9⟩,fun w'=>by kernel_rfl⟩
theorem bldWi {x y z:Int}:Bld Tryz.prog 63 [0,1,2] [iD x,iD y,iD z] [iD x,iD y,iD z]:=fun L w vs hv=>by
 obtain ⟨u,v,q,rfl,rfl,rfl,rfl⟩:=all3 hv;exact ⟨[.int .i64 x,.int .i64 y,.int .i64 z],⟨I,I,I,t9⟩,fun w'=>by kernel_rfl⟩
theorem blsCl3 {a b c d e f:Int}:Bls Tryz.prog 22 3 [0,1,2] [Yq [iD a,iD b],Yq [iD c,iD d],Yq [iD e,iD f]] ([(⟨a,b⟩:Co.Cl),⟨c,d⟩,⟨e,f⟩].flatMap z7):=⟨61,fun L w vs hv=>by
 obtain ⟨u,v,q,rfl,hu,hw,hq⟩:=all3 hv;obtain ⟨_,_,rfl,rfl,rfl⟩:=agg2 hu;obtain ⟨_,_,rfl,rfl,rfl⟩:=agg2 hw;obtain ⟨_,_,rfl,rfl,rfl⟩:=agg2 hq
 exact ⟨[.int .i64 a,.int .i64 b,.int .i64 c,.int .i64 d,.int .i64 e,.int .i64 f],⟨I,I,I,I,I,I,t9⟩,fun w'=>by kernel_rfl⟩⟩
theorem agg3d {L:LN} {w:World} {x y z:Int} {v:Value} (h:(Yq [iD x,iD y,iD z]).R L w v):v= .agg #[.int .i64 x,.int .i64 y,.int .i64 z]:=by
 obtain ⟨cs,rfl,hc⟩:=h
 match cs,hc with
 | [a,b,c],hc=>obtain ⟨rfl,rfl,rfl,-⟩:=hc;rfl
theorem blsWi3 {a b c d e f g h i:Int}:Bls Tryz.prog 23 3 [0,1,2] [Yq [iD a,iD b,iD c],Yq [iD d,iD e,iD f],Yq [iD g,iD h,iD i]] ([(⟨a,b,c⟩:Co.Wi),⟨d,e,f⟩,⟨g,h,i⟩].flatMap yO):=⟨63,fun L w vs hv=>by
 obtain ⟨u,v,q,rfl,hu,hw,hq⟩:=all3 hv;rw [agg3d hu,agg3d hw,agg3d hq]
 exact ⟨[.int .i64 a,.int .i64 b,.int .i64 c,.int .i64 d,.int .i64 e,.int .i64 f,.int .i64 g,.int .i64 h,.int .i64 i],⟨I,I,I,I,I,I,I,I,I,t9⟩,fun w'=>by kernel_rfl⟩⟩
theorem blsI3 {x y z:Int}:Bls Tryz.prog 26 3 [0,1,2] [iD x,iD y,iD z] ([x,y,z].flatMap yc):=⟨3,fun L w vs hv=>by
 obtain ⟨u,v,q,rfl,rfl,rfl,rfl⟩:=all3 hv
 exact ⟨[.int .i64 x,.int .i64 y,.int .i64 z],⟨I,I,I,t9⟩,fun w'=>by kernel_rfl⟩⟩
theorem blsI8 {a b c d e f g h:Int}:Bls Tryz.prog 26 8 [0,1,2,3,4,5,6,7] [iD a,iD b,iD c,iD d,iD e,iD f,iD g,iD h] ([a,b,c,d,e,f,g,h].flatMap yc):=⟨3,fun L w vs hv=>by
 match vs,hv with
 | [a',b',c',d',e',f',g',h'],hv=>
  obtain ⟨rfl,rfl,rfl,rfl,rfl,rfl,rfl,rfl,-⟩:=hv
  exact ⟨[.int .i64 a,.int .i64 b,.int .i64 c,.int .i64 d,.int .i64 e,.int .i64 f,.int .i64 g,.int .i64 h],⟨I,I,I,I,I,I,I,I,t9⟩,fun w'=>by kernel_rfl⟩⟩
theorem WI {L:LN} {w:World} {n d:Int} {v:Value} (h:(Ya n d).R L w v):∃ B p q C r s,v= .agg #[.bool<|decide (n < 0),.slice B p q,.bool<|decide (d < 0),.slice C r s]∧All L w (jz n d) [.bool<|decide (n < 0),.slice B p q,.bool<|decide (d < 0),.slice C r s]:=by
 obtain ⟨cs,rfl,hc⟩:=h
 match cs,hc with
 | [a,b,c,e],hc=>
  obtain ⟨rfl,hb,rfl,hd,-⟩:=hc;have hb':=hb;have hd':=hd;obtain ⟨B,x,rfl,-⟩:=hb';obtain ⟨C,y,rfl,-⟩:=hd';exact ⟨B,_,x,C,_,y,I,I,hb,I,hd,t9⟩
theorem blsRG3 {a b c d e f:Int}:Bls Tryz.prog 33 3 [0,1,2] [Ya a b,Ya c d,Ya e f] ([(a,b),(c,d),(e,f)].flatMap Vu):=⟨43,fun L w vs hv=>by
 obtain ⟨u,v,q,rfl,hu,hw,hq⟩:=all3 hv;obtain ⟨B,p1,q1,C,r1,s1,rfl,h1⟩:=WI hu;obtain ⟨B2,p2,q2,C2,r2,s2,rfl,h2⟩:=WI hw;obtain ⟨B3,p3,q3,C3,r3,s3,rfl,h3⟩:=WI hq
 exact ⟨_,h1.append<|h2.append<|h3.append (show All L w [] [] from t9),fun w'=>by kernel_rfl⟩⟩
theorem le_pay0:Le (lsD Vu [(rn 330 60,rd 330 60),(rn 330 60,rd 330 60),(0,1)]) (lsD (YQ 60)<|zE (pyS V0 B0_ l0.length l0.length) l0.length):=by
 rw [k_pay];obtain ⟨e1,e2⟩:=zero_K (K:=60) (Kp d9 d9)
 have h:[(rn 330 60,rd 330 60),(rn 330 60,rd 330 60),((0:Int),(1:Int))].flatMap Vu=[330,330,0].flatMap (YQ 60):=by
  show jz (rn 330 60) (rd 330 60) ++ (jz (rn 330 60) (rd 330 60) ++ (jz 0 1 ++ []))=jz (rn 330 60) (rd 330 60) ++ (jz (rn 330 60) (rd 330 60) ++ (jz (rn 0 60) (rd 0 60) ++ []));rw [← e1,← e2]
 show Le (rwD 3<|[(rn 330 60,rd 330 60),(rn 330 60,rd 330 60),((0:Int),(1:Int))].flatMap Vu) (rwD 3<|[330,330,0].flatMap<|YQ 60);rw [h];exact zc _
theorem qk:Con Tryz.prog 10 [] (yG true):=by
 refine z6 Tryz.func10 k9 I k9 fun base w0=>(zo<|ze I<|zL<|za I (yy I I bldCl)<|za I (yy I I bldCl)<|za I (yy I I bldCl)<|zn (S:=[]) (ZK I I blsCl3 I)<|ze I<|zL<|za I (yy I I bldWi)<|za I (yy I I bldWi)<|za I (yy I I bldWi)<|zn (S:=[]) (ZK I I blsWi3 I)<|ze I<|zd<|zi<|SW.sub (σ':=z2 [(1,_),(2,_)] []) (sB [] I I)<|zk<|zn (S:=[]) (zp (zaR (n:=2) (N:=2) (D:=1) d9 d9 d9 d9 d9 (V7 d9 d9).rn (V7 d9 d9).rd) I ⟨zc _,zc _,t9⟩ I)<|zn (S:=[]) (zp (zaR (n:=0) (N:=0) (D:=1) d9 d9 d9 d9 d9 (V7 d9 d9).rn (V7 d9 d9).rd) I ⟨zc _,zc _,t9⟩ I)<|zn (S:=[]) (zp (zaT (z:=330) (Kp d9 d9) d9 d9 d9 d9 d9 d9) I ⟨zc _,zc _,t9⟩ I) (SWl.e2 (S:=[]) (Ef.alloc (zs:=[.bool false,.slice none 0 0,.bool false,.slice none 0 0]) k9 I) fun g3=>(SWl.e2 (S:=[]) (Ef.alloc (zs:=[.bool false,.slice none 0 0,.bool false,.slice none 0 0]) k9 I) fun g4=>(SWl.e2 (S:=[]) (Ef.alloc (zs:=[.bool false,.slice none 0 0,.bool false,.slice none 0 0]) k9 I) fun g5=>(zn (S:=[_]) (zw 0 I I I k9 I<|m9 I)<|zn (S:=[_]) (zw 1 I I I k9 I<|m9 I)<|zn (S:=[_]) (zw 2 I I I k9 I<|m9 I)<|zL ?_)))))
 refine zb I (zb I<|zn (S:=[]) (zp (jd 4 l0 w0_ d9 vw0) I ⟨zc _,zc _,zc _,t9⟩ I)<|zb I<|za I (zg I I)<|za I (zg I I)<|ze I<|ze I<|zL<|zb I<|zb I<|zn (S:=[]) (zp (zaX 4 l0 w0_ d9 vw0) I ⟨zc _,zc _,zc _,t9⟩ I)<|zb I<|za I (zg I I)<|za I (zg I I)<|ze I<|ze I<|zL<|zb I<|zb I<|zn (S:=[]) (zp (con_vcg 4 l0 w0_ d9 vw0) I ⟨zc _,zc _,zc _,t9⟩ I)<|zb I<|za I (zg I I)<|za I (zg I I)<|ze I<|ze I<|zd<|zi<|SW.sub (σ':=z2 [(1,lsD z7 l0),(2,lsD yO w0_),(3,pA g3),(4,pA g4),(5,pA g5),(6,lsD yc [0,9,9,18,11,11,11,18]),(8,lsD yc [9,9,0]),(10,lsD yc [2,2,0]),(7,iD 0),(9,iD 0),(11,iD 0)] [_,_,_]) (⟨⟨_,I,⟨lq I,⟨lq I,⟨lq I,⟨lq I,⟨lq I,⟨⟨_,I,(by rw [k_vals];exact zc _)⟩,⟨⟨_,I,(by rw [k_bids];exact zc _)⟩,⟨⟨_,I,(by rw [k_vcg];exact zc _)⟩,(sT I)⟩⟩⟩⟩⟩⟩⟩⟩⟩,[0,1,2],by decide,(sX rfl)⟩)<|zk<|zb I<|zb I<|za I (zu 0 4 I I k9 I zm) ?_);refine za I (zu 0 4 I I k9 I zm) (za I (zu 1 4 I I k9 I zm)<|zn (S:=[]) (ZK I I blsRG3 I)<|zn (S:=[]) (zp (con_block 4 l0 w0_ rs0 d9 rs0_byt (kP rs0) (xP rs0) d9 vw0 rs0_vp rs0_pay) I ⟨zc _,zc _,zc _,(show Le (lsD Vu [(2,1),(2,1),(0,1)]) (lsD qK rs0) from zc _),t9⟩ I)<|zb I<|za I (zg I I)<|za I (zg I I)<|za I (zg I I)<|ze I<|ze I<|ze I<|zd<|zi<|SW.sub (σ':=z2 [(1,lsD z7 l0),(2,lsD yO w0_),(4,pA g4),(5,pA g5),(6,lsD yc [0,9,9,18,11,11,11,18]),(8,lsD yc [9,9,0]),(10,lsD yc [2,2,0]),(12,lsD yc [3]),(13,yG true),(7,iD 0),(9,iD 0),(11,iD 0),(14,iD 0)] [_,_]) (⟨⟨_,I,⟨lq I,⟨lq I,⟨lq I,⟨lq I,⟨lq I,⟨lq I,⟨lq I,⟨⟨_,I,(by rw [k_blk];show Le (lsD yc<|Co.wnr l0 4) _;rw [k_win];exact zc _)⟩,⟨⟨_,I,zG (by rw [k_blk];rfl)⟩,(sT I)⟩⟩⟩⟩⟩⟩⟩⟩⟩⟩,[1,2],by decide,(sX rfl)⟩)<|zk<|zb I<|zb I<|zn (S:=[]) (zp (Vw 4 l0 w0_ d9 vw0) I ⟨zc _,zc _,zc _,t9⟩ I)<|zb I<|za I (zg I I)<|za I (zg I I) (SWl.e2 (S:=[]) (Ef.alloc (zs:=[.bool false,.slice none 0 0,.bool false,.slice none 0 0]) k9 I) fun g15=>(zn (S:=[_]) (zw 2 I I I k9 I<|m9 I)<|ze I<|zL<|zb I<|zb I<|zn (S:=[]) (zp (Wk 4 l0 w0_ d9 vw0) I ⟨zc _,zc _,zc _,t9⟩ I)<|zb I<|za I (zg I I)<|za I (zg I I)<|ze I<|ze I<|zd<|zi ?_)))
 refine zi (SW.sub (σ':=z2 [(4,_),(5,_),(15,_),(6,_),(8,_),(10,_),(12,_),(13,_),(17,_),(7,_),(9,_),(11,_),(14,_),(16,_),(18,_)] [.c g4<|jz 0 1,.c g5<|qKC 60 330,.c g15<|qKC 60 210]) (⟨⟨_,I,(sT I)⟩,[0,1,2],by decide,⟨la rfl,⟨la rfl,⟨⟨_,rfl,(by rw [k_thr];exact yD _)⟩,trivial⟩⟩⟩⟩)<|zk<|zb I<|za I (yn I I)<|zb I<|zQ I (zA I)<|zQ I (yn I I)<|za I (zI I I I)<|zb I<|zQ I (zA I)<|zQ I (yn I I)<|za I (zI I I I)<|zb I<|zQ I (zA I)<|zQ I (yn I I)<|za I (zI I I I)<|zb I<|zQ I (zA I)<|zQ I (yn I I)<|za I (zI I I I)<|zb I<|zQ I (zA I)<|zQ I (yn I I)<|za I (zI I I I)<|zb I<|zQ I (zA I)<|zQ I (yF I)<|za I (zI I I I)<|zb I<|zQ I (zA I)<|Zp (S:=[]) I I I I (ZK I I Ko I) ?_);rintro _ rfl;refine Zp (S:=[]) I I I I (zp (ZZ [3] d9) I ⟨zc _,zc _,t9⟩ I) ?_;rintro _ rfl
 refine zQ I (yF I) (za I (zI I I I)<|zd<|zH I I<|zv<|zh<|zi<|yf [] (.r 0<|.n 1 (.n 2 (.r 3<|.r 4<|.n 5 (.n 6 (rr [7,8,9]<|.n 10 (.n 11 (rr [12,13,14]<|.n 15 (.n 16 (rr [17,18,19,20,21,22]<|.n 23 (.n 24 (.r 25<|.r 26 .fin) .no) .no) .no) .no) .no) .no) .no) .no) .no) .no) k9 k9 (fun d _ _ _ _ h=>by cases d <;> exact h)<|zz I I<|yA I (ZK I I blsI8 I)<|yA I (zp (ZZ [0,9,9,18,11,11,11,18] d9) I ⟨zc _,zc _,t9⟩ I)<|zz I I<|zt I I I I I I (zA I)<|ZB I I I (I) I (ZK I I blsI3 I) ?_ y4)
 rintro _ rfl;refine ZB I I I (I) I (zp (ZZ [9,9,0] d9) I ⟨zc _,zc _,t9⟩ I) ?_ y4;rintro _ rfl;refine zl I I (zB I I I) (zz I I<|zt I I I I I I (zA I)<|ZB I I I (I) I (ZK I I blsI3 I) ?_ y4);rintro _ rfl;refine ZB I I I (I) I (zp (ZZ [2,2,0] d9) I ⟨zc _,zc _,t9⟩ I) ?_ y4;rintro _ rfl;refine zl I I (zB I I I) (zz I I<|zt I I I I I I (zu 2 4 I I k9 I zm)<|ZB I I I (I) I (zp (zaT (z:=210) (Kp d9 d9) d9 d9 d9 d9 d9 d9) I ⟨zc _,zc _,t9⟩ I) ?_ y4);rintro _ rfl;refine ZB I I I (I) I (zp (KW I I) I ⟨zc _,zc _,t9⟩ I) ?_ y4;rintro _ rfl;refine zl I I (zB I I I) (zz I I<|zt I I I I I I (zA I)<|zt I I I I I I (zu 1 4 I I k9 I zm)<|zt I I I I I I (zu 1 4 I I k9 I zm)<|zt I I I I I I (zu 0 4 I I k9 I zm)<|ZB I I I (I) I (ZK I I blsRG3 I) ?_ y4);rintro _ rfl;refine ZB I I I (I) I (zp (zbz 60 (pyS V0 B0_ l0.length l0.length) l0.length d9) I ⟨zc _,le_pay0,t9⟩ I) ?_ y4;rintro _ rfl;refine zl I I (zB I I I) (yQ I I<|ym<|zF (fn:=Tryz.f10) (fun _ _ h=>h)<|Rs.le (zO I<|zq I) ?_)
 exact zc _
end
section
theorem coreValues_con (b:Int) (l:List Co.Cl) (ws:List Co.Wi):ConN Tryz.prog 3 [iD b,lsD z7 l,lsD yO ws] (yG true):=by
 refine con_ofN Tryz.func3 k9 I k9 fun base w0=>(zo<|ze I<|zd<|zi<|zo<|zb I<|zb I<|zb I<|zn (S:=[]) (zp (con_few b l ws) I ⟨zc _,zc _,zc _,t9⟩ I)<|za I (yF I)<|zd<|zD I (fun hb15=> ?_) (fun hb15=> ?_))
 ·skip
  refine zo (zn (S:=[]) (zp (qk) I t9 I)<|ze I<|zd<|zF (fn:=Tryz.f3) (fun _ _ h=>h)<|Rs.le (zO I<|zq I) ?_);exact j6 I
 ·have hq:lfew b l ws=true:=(by have h:=hb15;revert h;cases lfew b l ws <;> simp);have hll:=lfew_len hq
  refine zv (zh<|zi ?_)
  by_cases hv:Co.VW b l ws
  ·have hn6:=hv.c.n;have hS64:2 ^ l.length≤64:=Co.pow_le64 hn6;refine zk (zb I<|zb I<|zb I<|zn (S:=[]) (zp (jd b l ws o9 hv) I ⟨zc _,zc _,zc _,t9⟩ I)<|zb I<|za I (zg I I)<|za I (zg I I)<|ze I<|ze I<|zL<|zb I<|zb I<|zb I<|zn (S:=[]) (zp (WW b l ws o9 hv) I ⟨zc _,zc _,zc _,t9⟩ I)<|zb I<|za I (zg I I)<|za I (zg I I)<|ze I<|ze I<|zL<|zb I<|zb I<|zn (S:=[]) (zp (ZZ (zE (Co.vO b l ws)<|2 ^ l.length) (by rw [yo];omega)) I ⟨zc _,zc _,t9⟩ I)<|zb I<|zQ I (zA I)<|zQ I (zA I)<|zQ I (yL I I)<|za I (zB I I I)<|zb I<|Zp (S:=[]) I I s9 I (zp (qk) I t9 I) ?_);rintro _ rfl;refine za I (zB I s9 I) (ze I<|zd<|zF (fn:=Tryz.f3) (fun _ _ h=>h)<|Rs.le (zO I<|zq I) ?_);exact j6 I
  ·skip
   refine zk (zb I<|zb I<|zb I<|zn (S:=[]) (zp (WX b l ws o9 o9 hv) I ⟨zc _,zc _,zc _,t9⟩ I)<|zb I<|za I (zg I I)<|za I (zg I I)<|ze I<|ze I<|zL<|zb I<|zb I<|zb I<|zn (S:=[]) (zp (We b l ws o9 o9 hv) I ⟨zc _,zc _,zc _,t9⟩ I)<|zb I<|za I (zg I I)<|za I (zg I I)<|ze I<|ze I<|zL<|zb I<|zb I<|zn (S:=[]) (zp (ZZ [] d9) I ⟨zc _,zc _,t9⟩ I)<|zb I<|zQ I (zA I)<|zQ I (zA I)<|zQ I (yL I I)<|za I (zB I I I)<|zb I<|Zp (S:=[]) I I s9 I (zp (qk) I t9 I) ?_);rintro _ rfl;refine za I (zB I s9 I) (ze I<|zd<|zF (fn:=Tryz.f3) (fun _ _ h=>h)<|Rs.le (zO I<|zq I) ?_);exact j6 I
end
end Sx
end Go.Proofs.YtmflnfnebmbjkaaGreat
namespace Go.Proofs.YtmflnfnebmbjkaaGreat
open Go.ChangeShapes Go.WideShapes Go.ChangeAt Go.RowKit
namespace Sx
instance:Inhabited Co.Cl:=⟨⟨0,0⟩⟩
instance:Inhabited Co.Wi:=⟨⟨0,0,0⟩⟩
instance:Inhabited Rw:=⟨⟨false,[],false,[]⟩⟩
theorem zbI:Came Tryz.prog 61 z7 (fun _=>True):=fun H enc W fuel cs x h=>by
 obtain ⟨hl,hf⟩:=Kn Tryz.underlying61 h;have hl':cs.length=2:=hl.trans k9;obtain ⟨_,_,h0⟩:=hf 0 _ rfl;obtain ⟨_,_,h1⟩:=hf 1 _ rfl;obtain ⟨a,-,a0⟩:=qP Tryz.underlying3 _ _ _ _ _ _ h0;obtain ⟨c,-,a1⟩:=qP Tryz.underlying3 _ _ _ _ _ _ h1;exact ⟨⟨a,c⟩,t9,Kr [[iD a],[iD c]] cs 0 ⟨a0,a1,t9⟩ (by simpa using hl')⟩
theorem came_claims:Came Tryz.prog 22 (fun l:List Co.Cl=>[lsD z7 l]) (fun l=>l.length≤maxLen∧∀ e∈l,True):=K4 Tryz.underlying22 k9 d9 zbI
theorem came_wish:Came Tryz.prog 63 yO (fun _=>True):=fun H enc W fuel cs x h=>by
 obtain ⟨hl,hf⟩:=Kn Tryz.underlying63 h;have hl':cs.length=3:=hl.trans k9;obtain ⟨_,_,h0⟩:=hf 0 _ rfl;obtain ⟨_,_,h1⟩:=hf 1 _ rfl;obtain ⟨_,_,h2⟩:=hf 2 _ rfl;obtain ⟨a,-,a0⟩:=qP Tryz.underlying3 _ _ _ _ _ _ h0;obtain ⟨c,-,a1⟩:=qP Tryz.underlying3 _ _ _ _ _ _ h1;obtain ⟨d,-,a2⟩:=qP Tryz.underlying3 _ _ _ _ _ _ h2;exact ⟨⟨a,c,d⟩,t9,Kr [[iD a],[iD c],[iD d]] cs 0 ⟨a0,a1,a2,t9⟩ (by simpa using hl')⟩
theorem came_wishes:Came Tryz.prog 23 (fun l:List Co.Wi=>[lsD yO l]) (fun l=>l.length≤maxLen∧∀ e∈l,True):=K4 Tryz.underlying23 k9 d9 came_wish
