/- LAW 40: known. LAW 40: values, bids, threshold, payments, blocking. WHAT CAME IN: claims, wishes, Ratios. -/
import Derived.Test.YtmflnfnebmbjkaaGreatGZBG
set_option maxHeartbeats 8000000
set_option maxRecDepth 100000
namespace Go.Proofs.YtmflnfnebmbjkaaGreat
open Go.RowKit
namespace Sx
section
theorem bldCl {x y:Int}:Bld Tryz.prog 61 [0,1] [iD x,iD y] [iD x,iD y]:=fun L w vs hv=>by
 obtain ⟨u,v,rfl,rfl,rfl⟩:=Wa hv;exact ⟨[.int .i64 x,.int .i64 y],⟨I,I,t9⟩,fun w'=>by kernel_rfl⟩
theorem bldWi {x y z:Int}:Bld Tryz.prog 63 [0,1,2] [iD x,iD y,iD z] [iD x,iD y,iD z]:=fun L w vs hv=>by
 obtain ⟨u,v,q,rfl,rfl,rfl,rfl⟩:=all3 hv;exact ⟨[.int .i64 x,.int .i64 y,.int .i64 z],⟨I,I,I,t9⟩,fun w'=>by kernel_rfl⟩
theorem blsCl3 {a b c d e f:Int}:Bls Tryz.prog 22 3 [0,1,2] [Yj [iD a,iD b],Yj [iD c,iD d],Yj [iD e,iD f]] ([(⟨a,b⟩:Co.Cl),⟨c,d⟩,⟨e,f⟩].flatMap z7):=⟨61,fun L w vs hv=>by
 obtain ⟨u,v,q,rfl,hu,hw,hq⟩:=all3 hv;obtain ⟨_,_,rfl,rfl,rfl⟩:=zcU hu;obtain ⟨_,_,rfl,rfl,rfl⟩:=zcU hw;obtain ⟨_,_,rfl,rfl,rfl⟩:=zcU hq
 exact ⟨[.int .i64 a,.int .i64 b,.int .i64 c,.int .i64 d,.int .i64 e,.int .i64 f],⟨I,I,I,I,I,I,t9⟩,fun w'=>by kernel_rfl⟩⟩
theorem agg3d {L:LN} {w:World} {x y z:Int} {v:Value} (h:(Yj [iD x,iD y,iD z]).R L w v):v= .agg #[.int .i64 x,.int .i64 y,.int .i64 z]:=by
 obtain ⟨cs,rfl,hc⟩:=h
 match cs,hc with
 | [a,b,c],hc=>obtain ⟨rfl,rfl,rfl,-⟩:=hc;rfl
theorem blsWi3 {a b c d e f g h i:Int}:Bls Tryz.prog 23 3 [0,1,2] [Yj [iD a,iD b,iD c],Yj [iD d,iD e,iD f],Yj [iD g,iD h,iD i]] ([(⟨a,b,c⟩:Co.Wi),⟨d,e,f⟩,⟨g,h,i⟩].flatMap yN):=⟨63,fun L w vs hv=>by
 obtain ⟨u,v,q,rfl,hu,hw,hq⟩:=all3 hv;rw [agg3d hu,agg3d hw,agg3d hq]
 exact ⟨[.int .i64 a,.int .i64 b,.int .i64 c,.int .i64 d,.int .i64 e,.int .i64 f,.int .i64 g,.int .i64 h,.int .i64 i],⟨I,I,I,I,I,I,I,I,I,t9⟩,fun w'=>by kernel_rfl⟩⟩
theorem blsI3 {x y z:Int}:Bls Tryz.prog 26 3 [0,1,2] [iD x,iD y,iD z] ([x,y,z].flatMap yd):=⟨3,fun L w vs hv=>by
 obtain ⟨u,v,q,rfl,rfl,rfl,rfl⟩:=all3 hv
 exact ⟨[.int .i64 x,.int .i64 y,.int .i64 z],⟨I,I,I,t9⟩,fun w'=>by kernel_rfl⟩⟩
theorem blsI8 {a b c d e f g h:Int}:Bls Tryz.prog 26 8 [0,1,2,3,4,5,6,7] [iD a,iD b,iD c,iD d,iD e,iD f,iD g,iD h] ([a,b,c,d,e,f,g,h].flatMap yd):=⟨3,fun L w vs hv=>by
 match vs,hv with
 | [a',b',c',d',e',f',g',h'],hv=>
  obtain ⟨rfl,rfl,rfl,rfl,rfl,rfl,rfl,rfl,-⟩:=hv
  exact ⟨[.int .i64 a,.int .i64 b,.int .i64 c,.int .i64 d,.int .i64 e,.int .i64 f,.int .i64 g,.int .i64 h],⟨I,I,I,I,I,I,I,I,t9⟩,fun w'=>by kernel_rfl⟩⟩
theorem zay {L:LN} {w:World} {n d:Int} {v:Value} (h:(Ya n d).R L w v):∃ B p q C r s,v= .agg #[.bool<|decide (n < 0),.slice B p q,.bool<|decide (d < 0),.slice C r s]∧All L w (q6 n d) [.bool<|decide (n < 0),.slice B p q,.bool<|decide (d < 0),.slice C r s]:=by
 obtain ⟨cs,rfl,hc⟩:=h
 match cs,hc with
 | [a,b,c,e],hc=>
  obtain ⟨rfl,hb,rfl,hd,-⟩:=hc;have hb':=hb;have hd':=hd;obtain ⟨B,x,rfl,-⟩:=hb';obtain ⟨C,y,rfl,-⟩:=hd';exact ⟨B,_,x,C,_,y,I,I,hb,I,hd,t9⟩
theorem blsRG3 {a b c d e f:Int}:Bls Tryz.prog 33 3 [0,1,2] [Ya a b,Ya c d,Ya e f] ([(a,b),(c,d),(e,f)].flatMap qa):=⟨43,fun L w vs hv=>by
 obtain ⟨u,v,q,rfl,hu,hw,hq⟩:=all3 hv;obtain ⟨B,p1,q1,C,r1,s1,rfl,h1⟩:=zay hu;obtain ⟨B2,p2,q2,C2,r2,s2,rfl,h2⟩:=zay hw;obtain ⟨B3,p3,q3,C3,r3,s3,rfl,h3⟩:=zay hq
 exact ⟨_,h1.append<|h2.append<|h3.append (show All L w [] [] from t9),fun w'=>by kernel_rfl⟩⟩
theorem le_pay0:Le (lsD qa [(rn 330 60,rd 330 60),(rn 330 60,rd 330 60),(0,1)]) (lsD (Y1 60)<|zF (pyS V0 B0_ l0.length l0.length) l0.length):=by
 rw [k_pay];obtain ⟨e1,e2⟩:=zero_K (K:=60) (KT d9 d9)
 have h:[(rn 330 60,rd 330 60),(rn 330 60,rd 330 60),((0:Int),(1:Int))].flatMap qa=[330,330,0].flatMap (Y1 60):=by
  show q6 (rn 330 60) (rd 330 60) ++ (q6 (rn 330 60) (rd 330 60) ++ (q6 0 1 ++ []))=q6 (rn 330 60) (rd 330 60) ++ (q6 (rn 330 60) (rd 330 60) ++ (q6 (rn 0 60) (rd 0 60) ++ []));rw [← e1,← e2]
 show Le (rwD 3<|[(rn 330 60,rd 330 60),(rn 330 60,rd 330 60),((0:Int),(1:Int))].flatMap qa) (rwD 3<|[330,330,0].flatMap<|Y1 60);rw [h];exact zb _
theorem Yq:Con Tryz.prog 10 [] (yy true):=by
 refine z1 Tryz.func10 k9 I k9 fun base w0=>(zq<|zd I<|zT<|za I (yD I I bldCl)<|za I (yD I I bldCl)<|za I (yD I I bldCl)<|zt (S:=[]) (Zy I I blsCl3 I)<|zd I<|zT<|za I (yD I I bldWi)<|za I (yD I I bldWi)<|za I (yD I I bldWi)<|zt (S:=[]) (Zy I I blsWi3 I)<|zd I<|ze<|zh<|SW.sub (σ':=z6 [(1,_),(2,_)] []) (sB [] I I)<|zf<|zt (S:=[]) (zl (Kj (n:=2) (N:=2) (D:=1) d9 d9 d9 d9 d9 (WJ d9 d9).rn (WJ d9 d9).rd) I ⟨zb _,zb _,t9⟩ I)<|zt (S:=[]) (zl (Kj (n:=0) (N:=0) (D:=1) d9 d9 d9 d9 d9 (WJ d9 d9).rn (WJ d9 d9).rd) I ⟨zb _,zb _,t9⟩ I)<|zt (S:=[]) (zl (Kk (z:=330) (KT d9 d9) d9 d9 d9 d9 d9 d9) I ⟨zb _,zb _,t9⟩ I) (SWl.e2 (S:=[]) (Ef.alloc (zs:=[.bool false,.slice none 0 0,.bool false,.slice none 0 0]) k9 I) fun g3=>(SWl.e2 (S:=[]) (Ef.alloc (zs:=[.bool false,.slice none 0 0,.bool false,.slice none 0 0]) k9 I) fun g4=>(SWl.e2 (S:=[]) (Ef.alloc (zs:=[.bool false,.slice none 0 0,.bool false,.slice none 0 0]) k9 I) fun g5=>(zt (S:=[_]) (zw 0 I I I k9 I<|m9 I)<|zt (S:=[_]) (zw 1 I I I k9 I<|m9 I)<|zt (S:=[_]) (zw 2 I I I k9 I<|m9 I)<|zT ?_)))))
 refine zc I (zc I<|zt (S:=[]) (zl (Vr 4 l0 w0_ d9 vw0) I ⟨zb _,zb _,zb _,t9⟩ I)<|zc I<|za I (zj I I)<|za I (zj I I)<|zd I<|zd I<|zT<|zc I<|zc I<|zt (S:=[]) (zl (zbM 4 l0 w0_ d9 vw0) I ⟨zb _,zb _,zb _,t9⟩ I)<|zc I<|za I (zj I I)<|za I (zj I I)<|zd I<|zd I<|zT<|zc I<|zc I<|zt (S:=[]) (zl (con_vcg 4 l0 w0_ d9 vw0) I ⟨zb _,zb _,zb _,t9⟩ I)<|zc I<|za I (zj I I)<|za I (zj I I)<|zd I<|zd I<|ze<|zh<|SW.sub (σ':=z6 [(1,lsD z7 l0),(2,lsD yN w0_),(3,pA g3),(4,pA g4),(5,pA g5),(6,lsD yd [0,9,9,18,11,11,11,18]),(8,lsD yd [9,9,0]),(10,lsD yd [2,2,0]),(7,iD 0),(9,iD 0),(11,iD 0)] [_,_,_]) (⟨⟨_,I,⟨lq I,⟨lq I,⟨lq I,⟨lq I,⟨lq I,⟨⟨_,I,(by rw [k_vals];exact zb _)⟩,⟨⟨_,I,(by rw [k_bids];exact zb _)⟩,⟨⟨_,I,(by rw [k_vcg];exact zb _)⟩,(sT I)⟩⟩⟩⟩⟩⟩⟩⟩⟩,[0,1,2],by decide,(sX rfl)⟩)<|zf<|zc I<|zc I<|za I (zv 0 4 I I k9 I zp) ?_);refine za I (zv 0 4 I I k9 I zp) (za I (zv 1 4 I I k9 I zp)<|zt (S:=[]) (Zy I I blsRG3 I)<|zt (S:=[]) (zl (W6 4 l0 w0_ rs0 d9 rs0_byt (kP rs0) (xP rs0) d9 vw0 rs0_vp rs0_pay) I ⟨zb _,zb _,zb _,(show Le (lsD qa [(2,1),(2,1),(0,1)]) (lsD ZW rs0) from zb _),t9⟩ I)<|zc I<|za I (zj I I)<|za I (zj I I)<|za I (zj I I)<|zd I<|zd I<|zd I<|ze<|zh<|SW.sub (σ':=z6 [(1,lsD z7 l0),(2,lsD yN w0_),(4,pA g4),(5,pA g5),(6,lsD yd [0,9,9,18,11,11,11,18]),(8,lsD yd [9,9,0]),(10,lsD yd [2,2,0]),(12,lsD yd [3]),(13,yy true),(7,iD 0),(9,iD 0),(11,iD 0),(14,iD 0)] [_,_]) (⟨⟨_,I,⟨lq I,⟨lq I,⟨lq I,⟨lq I,⟨lq I,⟨lq I,⟨lq I,⟨⟨_,I,(by rw [k_blk];show Le (lsD yd<|Co.wnr l0 4) _;rw [k_win];exact zb _)⟩,⟨⟨_,I,zH (by rw [k_blk];rfl)⟩,(sT I)⟩⟩⟩⟩⟩⟩⟩⟩⟩⟩,[1,2],by decide,(sX rfl)⟩)<|zf<|zc I<|zc I<|zt (S:=[]) (zl (V4 4 l0 w0_ d9 vw0) I ⟨zb _,zb _,zb _,t9⟩ I)<|zc I<|za I (zj I I)<|za I (zj I I) (SWl.e2 (S:=[]) (Ef.alloc (zs:=[.bool false,.slice none 0 0,.bool false,.slice none 0 0]) k9 I) fun g15=>(zt (S:=[_]) (zw 2 I I I k9 I<|m9 I)<|zd I<|zT<|zc I<|zc I<|zt (S:=[]) (zl (WW 4 l0 w0_ d9 vw0) I ⟨zb _,zb _,zb _,t9⟩ I)<|zc I<|za I (zj I I)<|za I (zj I I)<|zd I<|zd I<|ze<|zh ?_)))
 refine zh (SW.sub (σ':=z6 [(4,_),(5,_),(15,_),(6,_),(8,_),(10,_),(12,_),(13,_),(17,_),(7,_),(9,_),(11,_),(14,_),(16,_),(18,_)] [.c g4<|q6 0 1,.c g5<|qKC 60 330,.c g15<|qKC 60 210]) (⟨⟨_,I,(sT I)⟩,[0,1,2],by decide,⟨la rfl,⟨la rfl,⟨⟨_,rfl,(by rw [k_thr];exact yG _)⟩,trivial⟩⟩⟩⟩)<|zf<|zc I<|za I (yk I I)<|zc I<|zN I (zn I)<|zN I (yk I I)<|za I (zG I I I)<|zc I<|zN I (zn I)<|zN I (yk I I)<|za I (zG I I I)<|zc I<|zN I (zn I)<|zN I (yk I I)<|za I (zG I I I)<|zc I<|zN I (zn I)<|zN I (yk I I)<|za I (zG I I I)<|zc I<|zN I (zn I)<|zN I (yk I I)<|za I (zG I I I)<|zc I<|zN I (zn I)<|zN I (yE I)<|za I (zG I I I)<|zc I<|zN I (zn I)<|y5 (S:=[]) I I I I (Zy I I ju I) ?_);rintro _ rfl;refine y5 (S:=[]) I I I I (zl (Z8 [3] d9) I ⟨zb _,zb _,t9⟩ I) ?_;rintro _ rfl
 refine zN I (yE I) (za I (zG I I I)<|ze<|zK I I<|zx<|zg<|zh<|z8 [] (.r 0<|.n 1 (.n 2 (.r 3<|.r 4<|.n 5 (.n 6 (rr [7,8,9]<|.n 10 (.n 11 (rr [12,13,14]<|.n 15 (.n 16 (rr [17,18,19,20,21,22]<|.n 23 (.n 24 (.r 25<|.r 26 .fin) .no) .no) .no) .no) .no) .no) .no) .no) .no) .no) k9 k9 (fun d _ _ _ _ h=>by cases d <;> exact h)<|zA I I<|yg I (Zy I I blsI8 I)<|yg I (zl (Z8 [0,9,9,18,11,11,11,18] d9) I ⟨zb _,zb _,t9⟩ I)<|zA I I<|zu I I I I I I (zn I)<|Zf I I I (I) I (Zy I I blsI3 I) ?_ yo)
 rintro _ rfl;refine Zf I I I (I) I (zl (Z8 [9,9,0] d9) I ⟨zb _,zb _,t9⟩ I) ?_ yo;rintro _ rfl;refine zk I I (zC I I I) (zA I I<|zu I I I I I I (zn I)<|Zf I I I (I) I (Zy I I blsI3 I) ?_ yo);rintro _ rfl;refine Zf I I I (I) I (zl (Z8 [2,2,0] d9) I ⟨zb _,zb _,t9⟩ I) ?_ yo;rintro _ rfl;refine zk I I (zC I I I) (zA I I<|zu I I I I I I (zv 2 4 I I k9 I zp)<|Zf I I I (I) I (zl (Kk (z:=210) (KT d9 d9) d9 d9 d9 d9 d9 d9) I ⟨zb _,zb _,t9⟩ I) ?_ yo);rintro _ rfl;refine Zf I I I (I) I (zl (Vu I I) I ⟨zb _,zb _,t9⟩ I) ?_ yo;rintro _ rfl;refine zk I I (zC I I I) (zA I I<|zu I I I I I I (zn I)<|zu I I I I I I (zv 1 4 I I k9 I zp)<|zu I I I I I I (zv 1 4 I I k9 I zp)<|zu I I I I I I (zv 0 4 I I k9 I zp)<|Zf I I I (I) I (Zy I I blsRG3 I) ?_ yo);rintro _ rfl;refine Zf I I I (I) I (zl (zct 60 (pyS V0 B0_ l0.length l0.length) l0.length d9) I ⟨zb _,le_pay0,t9⟩ I) ?_ yo;rintro _ rfl;refine zk I I (zC I I I) (yU I I<|yn<|zE (fn:=Tryz.f10) (fun _ _ h=>h)<|Rs.le (zM I<|zo I) ?_)
 exact zb _
end
section
theorem bkL_len {l:List Co.Cl} (hn:l.length≤6) (o:Option Nat):(bkL l o).length≤1000000:=by
 cases o with
 | none=>exact JC _
 | some c=>have:=Co.wnr_len (l:=l) (c:=c);show (Co.wnr l c).length≤1000000;omega
theorem blk_cases {b:Int} {l:List Co.Cl} {ws:List Co.Wi} {rs:List Rw} (hby:∀ r∈rs,Byt r.b r.c):¬Co.VW b l ws∨(Co.VW b l ws∧vpE rs (Co.bO b l ws) l.length≠0)∨(Co.VW b l ws∧vpE rs (Co.bO b l ws) l.length=0∧∃ K X,PayK rs (Co.bO b l ws) l.length K X):=by
 by_cases hv:Co.VW b l ws
 ·by_cases h0:vpE rs (Co.bO b l ws) l.length=0
  ·obtain ⟨h1,h2,h3⟩:=za5 h0;exact .inr (.inr ⟨hv,h0,_,_,payK hv.c.n hby (Co.mkt hv).bd0 h1 h2 h3⟩)
  ·exact .inr (.inl ⟨hv,h0⟩)
 ·exact .inl hv
theorem coreBlocking_con (b:Int) (l:List Co.Cl) (ws:List Co.Wi) (rs:List Rw) (hby:∀ r∈rs,Byt r.b r.c):ConN Tryz.prog 5 [iD b,lsD z7 l,lsD yN ws,lsD ZW rs] (yy true):=by
 refine con_ofN Tryz.func5 k9 I k9 fun base w0=>(zq<|zd I<|ze<|zh<|zq<|zc I<|zc I<|zc I<|zt (S:=[]) (zl (con_few b l ws) I ⟨zb _,zb _,zb _,t9⟩ I)<|za I (yE I)<|zc I<|yt 20 I (fun hb20=> ?_) (fun hb20=> ?_))
 ·skip
  refine zI hb20 (zI hb20<|zI hb20<|za I (zC I hb20 I)<|ze<|yh I I<|zq<|zt (S:=[]) (zl (Yq) I t9 I)<|zd I<|ze<|zE (fn:=Tryz.f5) (fun _ _ h=>h)<|Rs.le (zM I<|zo I) ?_);exact qh I
 ·have hq:lfew b l ws=true:=(by have h:=hb20;revert h;cases lfew b l ws <;> simp);have hll:=lfew_len hq
  refine zN hb20 (zn I) (zN hb20 (zU (e:=43) I k9)<|zN hb20 (y0 I I)<|za I (zG I hb20 I)<|ze<|zD I (fun hb24=> ?_) (fun hb24=> ?_))
  ·skip
   refine zq (zt (S:=[]) (zl (Yq) I t9 I)<|zd I<|ze<|zE (fn:=Tryz.f5) (fun _ _ h=>h)<|Rs.le (zM I<|zo I) ?_);exact qh I
  ·have hrl:rs.length≤20:=by have h:=oF hb24;omega
   refine zx (zg<|zh ?_);rcases blk_cases (b:=b) (l:=l) (ws:=ws) hby with hv | ⟨hv,he⟩ | ⟨hv,h0,K,X,hX⟩
   ·skip
    refine zf (zc I<|zc I<|zc I<|zc I<|zt (S:=[]) (zl (zcF b l ws rs o9 hby o9 o9 hv) I ⟨zb _,zb _,zb _,zb _,t9⟩ I)<|zc I<|za I (zj I I)<|za I (zj I I)<|za I (zj I I)<|zd I<|zd I<|zd I<|zT<|zc I<|zc I<|zc I<|zc I<|zt (S:=[]) (zl (zaP b l ws rs o9 hby o9 o9 hv) I ⟨zb _,zb _,zb _,zb _,t9⟩ I)<|zc I<|za I (zj I I)<|za I (zj I I)<|za I (zj I I)<|zd I<|zd I<|zd I<|zT<|zc I<|zc I<|zt (S:=[]) (zl (Z8 [] d9) I ⟨zb _,zb _,t9⟩ I)<|zc I<|zN I (zn I)<|zN I (zn I)<|zN I (zbY k9 I I) ?_);refine za I (zC I I I) (zc I<|y4 I I s9 I I (zn I)<|y4 I I s9 I I (zn I)<|y4 I I s9 I I (y1 I I)<|za I (zC I s9 I)<|zc I<|y5 (S:=[]) I I s9 I (zl (Yq) I t9 I) ?_);rintro _ rfl;refine za I (zC I s9 I) (zd I<|ze<|zE (fn:=Tryz.f5) (fun _ _ h=>h)<|Rs.le (zM I<|zo I) ?_);exact qh I
   ·skip
    refine zf (zc I<|zc I<|zc I<|zc I<|zt (S:=[]) (zl (zcG b l ws rs o9 hby o9 hv he) I ⟨zb _,zb _,zb _,zb _,t9⟩ I)<|zc I<|za I (zj I I)<|za I (zj I I)<|za I (zj I I)<|zd I<|zd I<|zd I<|zT<|zc I<|zc I<|zc I<|zc I<|zt (S:=[]) (zl (zaQ b l ws rs o9 hby o9 hv he) I ⟨zb _,zb _,zb _,zb _,t9⟩ I)<|zc I<|za I (zj I I)<|za I (zj I I)<|za I (zj I I)<|zd I<|zd I<|zd I<|zT<|zc I<|zc I<|zt (S:=[]) (zl (Z8 [] d9) I ⟨zb _,zb _,t9⟩ I)<|zc I<|zN I (zn I)<|zN I (zn I)<|zN I (zbY k9 I I) ?_);refine za I (zC I I I) (zc I<|y4 I I s9 I I (zn I)<|y4 I I s9 I I (zn I)<|y4 I I s9 I I (y1 I I)<|za I (zC I s9 I)<|zc I<|y5 (S:=[]) I I s9 I (zl (Yq) I t9 I) ?_);rintro _ rfl;refine za I (zC I s9 I) (zd I<|ze<|zE (fn:=Tryz.f5) (fun _ _ h=>h)<|Rs.le (zM I<|zo I) ?_);exact qh I
   ·have hn6:=hv.c.n;refine zf (zc I<|zc I<|zc I<|zc I<|zt (S:=[]) (zl (W6 b l ws rs o9 hby K X o9 hv h0 hX) I ⟨zb _,zb _,zb _,zb _,t9⟩ I)<|zc I<|za I (zj I I)<|za I (zj I I)<|za I (zj I I)<|zd I<|zd I<|zd I<|zT<|zc I<|zc I<|zc I<|zc I<|zt (S:=[]) (zl (zcE b l ws rs o9 hby K X o9 hv h0 hX) I ⟨zb _,zb _,zb _,zb _,t9⟩ I)<|zc I<|za I (zj I I)<|za I (zj I I)<|za I (zj I I)<|zd I<|zd I<|zd I<|zT<|zc I<|zc I<|zt (S:=[]) (zl (Z8 (bkL l<|zaT (Co.vO b l ws) (Co.bO b l ws) l.length K X)<|bkL_len hn6 _) I ⟨zb _,zb _,t9⟩ I)<|zc I<|zN I (zn I)<|zN I (zn I)<|zN I (zbY k9 I I) ?_);refine za I (zC I I I) (zc I<|y4 I I s9 I I (zn I)<|y4 I I s9 I I (zn I)<|y4 I I s9 I I (y1 I I)<|za I (zC I s9 I)<|zc I<|y5 (S:=[]) I I s9 I (zl (Yq) I t9 I) ?_);rintro _ rfl;refine za I (zC I s9 I) (zd I<|ze<|zE (fn:=Tryz.f5) (fun _ _ h=>h)<|Rs.le (zM I<|zo I) ?_)
    exact qh I
end
end Sx
end Go.Proofs.YtmflnfnebmbjkaaGreat
namespace Go.Proofs.YtmflnfnebmbjkaaGreat
open Go.ChangeShapes Go.WideShapes Go.ChangeAt Go.RowKit
namespace Sx
instance:Inhabited Co.Cl:=⟨⟨0,0⟩⟩
instance:Inhabited Co.Wi:=⟨⟨0,0,0⟩⟩
instance:Inhabited Rw:=⟨⟨false,[],false,[]⟩⟩
theorem zcK:zb3 Tryz.prog 61 z7 (fun _=>True):=fun H enc W fuel cs x h=>by
 obtain ⟨hl,hf⟩:=Y5 Tryz.underlying61 h;have hl':cs.length=2:=hl.trans k9;obtain ⟨_,_,h0⟩:=hf 0 _ rfl;obtain ⟨_,_,h1⟩:=hf 1 _ rfl;obtain ⟨a,-,a0⟩:=jq Tryz.underlying3 _ _ _ _ _ _ h0;obtain ⟨c,-,a1⟩:=jq Tryz.underlying3 _ _ _ _ _ _ h1;exact ⟨⟨a,c⟩,t9,qp [[iD a],[iD c]] cs 0 ⟨a0,a1,t9⟩ (by simpa using hl')⟩
theorem came_claims:zb3 Tryz.prog 22 (fun l:List Co.Cl=>[lsD z7 l]) (fun l=>l.length≤maxLen∧∀ e∈l,True):=qF Tryz.underlying22 k9 d9 zcK
theorem came_wish:zb3 Tryz.prog 63 yN (fun _=>True):=fun H enc W fuel cs x h=>by
 obtain ⟨hl,hf⟩:=Y5 Tryz.underlying63 h;have hl':cs.length=3:=hl.trans k9;obtain ⟨_,_,h0⟩:=hf 0 _ rfl;obtain ⟨_,_,h1⟩:=hf 1 _ rfl;obtain ⟨_,_,h2⟩:=hf 2 _ rfl;obtain ⟨a,-,a0⟩:=jq Tryz.underlying3 _ _ _ _ _ _ h0;obtain ⟨c,-,a1⟩:=jq Tryz.underlying3 _ _ _ _ _ _ h1;obtain ⟨d,-,a2⟩:=jq Tryz.underlying3 _ _ _ _ _ _ h2;exact ⟨⟨a,c,d⟩,t9,qp [[iD a],[iD c],[iD d]] cs 0 ⟨a0,a1,a2,t9⟩ (by simpa using hl')⟩
theorem came_wishes:zb3 Tryz.prog 23 (fun l:List Co.Wi=>[lsD yN l]) (fun l=>l.length≤maxLen∧∀ e∈l,True):=qF Tryz.underlying23 k9 d9 came_wish
theorem le_b_raw {b:LB}:Le (bD b) (zax<|b.map UInt8.toNat):=by
 have e:cellsOf b=cN .u8 (b.map UInt8.toNat):=by
  unfold cellsOf cN;rw [List.map_map];rfl
 show Le (slD<|cellsOf b) _;rw [e];exact zb _
theorem zab:zb3 Tryz.prog 41 (fun q:Bool × LN=>[yy q.1,zax q.2]) (fun q=>∀ d∈q.2,d < 256):=fun H enc W fuel cs x h=>by
 obtain ⟨hl,hf⟩:=Y5 Tryz.underlying41 h;have hl':cs.length=2:=hl.trans k9;obtain ⟨_,_,h0⟩:=hf 0 _ rfl;obtain ⟨_,_,h1⟩:=hf 1 _ rfl;obtain ⟨a,-,a0⟩:=came_bool Tryz.underlying4 _ _ _ _ _ _ h0;obtain ⟨b,-,a1⟩:=zcL Tryz.underlying39 Tryz.underlying5 k9 _ _ _ _ _ _ h1;refine ⟨(a,b.map UInt8.toNat),fun d hd=> ?_,qp [[yy a],[zax<|b.map UInt8.toNat]] cs 0 ⟨a0,LeAll.all (ds:=[bD b]) (es:=[zax<|b.map UInt8.toNat]) ⟨le_b_raw,t9⟩ a1,t9⟩ (by simpa using hl')⟩;obtain ⟨v,_,rfl⟩:=JI.1 hd;exact v.toNat_lt
theorem zcJ:zb3 Tryz.prog 43 ZW (fun r=>Byt r.b r.c):=fun H enc W fuel cs x h=>by
 obtain ⟨hl,hf⟩:=Y5 Tryz.underlying43 h;have hl':cs.length=4:=hl.trans k9;obtain ⟨_,_,h0⟩:=hf 0 _ rfl;obtain ⟨_,_,h1⟩:=hf 1 _ rfl;obtain ⟨⟨s,b⟩,hb,a0⟩:=zab _ _ _ _ _ _ h0;obtain ⟨⟨t,c⟩,hc,a1⟩:=zab _ _ _ _ _ _ h1;exact ⟨⟨s,b,t,c⟩,⟨hb,hc⟩,qp [[yy s,zax b],[yy t,zax c]] cs 0 ⟨a0,a1,t9⟩ (by simpa using hl')⟩
theorem came_ratios:zb3 Tryz.prog 33 (fun l:List Rw=>[lsD ZW l]) (fun l=>l.length≤maxLen∧∀ e∈l,Byt e.b e.c):=qF Tryz.underlying33 k9 d9 zcJ
