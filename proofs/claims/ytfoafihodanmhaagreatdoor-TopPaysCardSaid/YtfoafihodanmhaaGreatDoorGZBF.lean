/- TOP: bidders copied. TOP: New, Bidders. TOP: bytes.Compare; functions that compare two numbers. TOP: the bids in order. THE WALK of (*blake.Hash).abso -/
import Derived.Test.YtfoafihodanmhaaGreatDoorGZBE
import Derived.Laws.Externs
import Derived.Lib.BytesEntry
import Derived.WalkKit
set_option maxHeartbeats 8000000
set_option maxRecDepth 100000
namespace Go.Proofs.YtfoafihodanmhaaGreatDoor
open Go.RowKit
namespace Sx
section
theorem YY {α:Type} {l:List α} {i:Nat} {x:α} (h:l[i]? =some x):l.set i x=l:=by
 refine Xh fun j=> ?_
 by_cases e:i=j
 ·subst e;rw [List.getElem?_set_self (Jg.1 h).1,h]
 ·rw [List.getElem?_set_ne e]
def Yr (p:Tp.Bd × Option Wst):List D:=[iD p.1.id,iD p.1.el,iD p.1.wv,match p.2 with | none=>lsD z7 p.1.bl | some s=>isD<|.slice s.A p.1.bl.length s.c]
instance:Row Yr 4:=⟨fun _=>rfl,fun x=>by obtain ⟨b,s⟩:=x;cases s <;> (unfold Yr;infer_instance),by decide⟩
instance (p:Tp.Bd × Option Wst):Ones (Yr p):=by obtain ⟨b,s⟩:=p;cases s <;> (unfold Yr;infer_instance)
def Zb (bs:List Tp.Bd) (ss:List Wst):List (Tp.Bd × Option Wst):=bs.zipIdx.map fun p=>(p.1,ss[p.2]?)
theorem yP {bs:List Tp.Bd} {ss:List Wst}:(Zb bs ss).length=bs.length:=by simp [Zb]
theorem Ye {bs:List Tp.Bd} {ss:List Wst} {i:Nat} {x:Tp.Bd} (h:bs[i]? =some x):(Zb bs ss)[i]? =some (x,ss[i]?):=by
 unfold Zb;rw [JJ,List.getElem?_zipIdx,h];simp
theorem Tp.bo_nil {bs:List Tp.Bd}:(Zb bs []).flatMap Yr=bs.flatMap yK:=by
 have h:Zb bs []=bs.map fun b=>(b,none):=by
  refine Xh fun i=> ?_;rw [JJ]
  cases hb:bs[i]? with
  | none=>rw [JM (by rw [yP];exact List.getElem?_eq_none_iff.1 hb)];rfl
  | some b=>rw [Ye hb];rfl
 rw [h,List.flatMap_map];rfl
theorem Tp.bo_set {bs:List Tp.Bd} {ss:List Wst} {x:Tp.Bd} {s:Wst} (h:bs[ss.length]? =some x):(Zb bs ss).set ss.length (x,some s)=Zb bs (ss ++ [s]):=by
 refine Xh fun j=> ?_;have hl:=(Jg.1 h).1
 by_cases e:ss.length=j
 ·subst e;rw [List.getElem?_set_self (by rw [yP];exact hl),Ye h];simp
 ·rw [List.getElem?_set_ne e]
  cases hb:bs[j]? with
  | none=>rw [JM (by rw [yP];exact List.getElem?_eq_none_iff.1 hb),JM (by rw [yP];exact List.getElem?_eq_none_iff.1 hb)]
  | some b=>
   rw [Ye hb,Ye hb]
   by_cases h2:j < ss.length
   ·rw [JB h2]
   ·rw [JM o9,JM (by rw [Jk,Xq];omega)]
def Tp.row (b:Tp.Bd) (s:Wst):Res:=yi 3 1 z7 s.A s.c b.bl
def Tp.rows (bs:List Tp.Bd) (ss:List Wst):List Res:=List.zipWith Tp.row bs ss
theorem zcA {bs:List Tp.Bd} {ss:List Wst} {x:Tp.Bd} {s:Wst} (h:bs[ss.length]? =some x):Tp.rows bs (ss ++ [s])=Tp.rows bs ss ++ [Tp.row x s]:=by
 have hl:=(Jg.1 h).1;unfold Tp.rows;rw [show bs=bs.take ss.length ++ x :: bs.drop (ss.length + 1) by rw [← (Jg.1 h).2,← List.drop_eq_getElem_cons hl,JV]];rw [List.zipWith_append (by rw [JE];omega)];rw [show List.zipWith Tp.row (x :: List.drop (ss.length + 1) bs) [s]=[Tp.row x s] by simp];congr 1
 have h2:List.zipWith Tp.row (List.take ss.length bs ++ x :: List.drop (ss.length + 1) bs) ss=List.zipWith Tp.row (List.take ss.length bs ++ x :: List.drop (ss.length + 1) bs) (ss ++ []):=by rw [JS]
 rw [h2,List.zipWith_append (by rw [JE];omega)];simp
theorem ZT {bs:List Tp.Bd} {ss:List Wst} {i:Nat} {x:Tp.Bd} {s:Wst} (h:bs[i]? =some x) (hs:ss[i]? =some s):(Tp.rows bs ss)[i]? =some (Tp.row x s):=by
 unfold Tp.rows;rw [List.getElem?_zipWith,h,hs]
theorem qn {bs:List Tp.Bd} {ss:List Wst} (h:ss.length=bs.length):(Tp.rows bs ss).length=bs.length:=by unfold Tp.rows;rw [List.length_zipWith];omega
structure Tp.Bst where
 A:Option Addr
 c:Nat
 F:LN
 ss:List Wst
 G:LN
structure Tp.NOk (l:List Tp.Pr) (bs:List Tp.Bd) (ac st:Int) (key:LB):Prop where
 vb:Tp.VB l bs
 c:((1≤ac∧ac≤100)∧1≤st)∧st≤50
 k0:1≤key.length
 k1:key.length≤32
theorem bldAu {l:List Tp.Pr} {bs:List Tp.Bd} {x y:Int} {b:LB}:Bld Tryz.prog 98 [0,1,2,3] [lsD yA l,lsD yK bs,Z8 [iD x,iD y],bD b] [lsD yA l,lsD yK bs,iD x,iD y,bD b,iD 0,isD<|.slice none 0 0]:=fun L w vs hv=>by
 obtain ⟨p,q,r,s,rfl,h1,h2,h3,h4⟩:=all4 hv;have h5:=h1;have h6:=h2;have h7:=h4;obtain ⟨A,c,rfl,-,-⟩:=h5;obtain ⟨A',c',rfl,-,-⟩:=h6;obtain ⟨cs,rfl,ha⟩:=h3;obtain ⟨u,v,rfl,rfl,rfl⟩:=zbB ha;obtain ⟨A2,c2,rfl,-,-⟩:=h7;exact ⟨[.slice A l.length c,.slice A' bs.length c',.int .i64 x,.int .i64 y,.slice A2 (cellsOf b).length c2,.int .i64 0,.slice none 0 0],⟨h1,h2,I,I,h4,I,I,t9⟩,fun w'=>by kernel_rfl⟩
theorem Vv {l:List Tp.Pr} {i:Nat} {x:Tp.Pr} (h:l[i]? =some x):(l.take<|i + 1).map Tp.Pr.re=(l.take i).map Tp.Pr.re ++ [x.re]:=by
 rw [List.take_add_one,h,XG];rfl
theorem Tp.NOk.ok {l:List Tp.Pr} {bs:List Tp.Bd} {ac st:Int} {key:LB} (h:Tp.NOk l bs ac st key) (hl:l.length≤1000):Tp.AOk ⟨l,bs,ac,st,key,0,l.map Tp.Pr.re⟩:=
 ⟨h.vb,hl,h.c.1.1.1,h.c.1.1.2,h.c.1.2,h.c.2,h.k0,h.k1,by simp,fun i x hx=>by
  dsimp only at hx;rw [List.getElem?_map] at hx
  cases hp:l[i]? with
  | none=>rw [hp] at hx;cases hx
  | some p=>rw [hp] at hx;obtain rfl:=JN hx;exact (h.vb.p i p hp).ok.2.2.2.2,JC _⟩
theorem zdi (l:List Tp.Pr) (hl:l.length≤1000000):Con Tryz.prog 25 [lsD yA l] (lsD yA l):=by
 refine yy Tryz.func25 k9 I k9 fun base w0=>(zn<|zf I<|ze<|zh<|zn<|zd I (KV 3 I fun A c hnil=>(za I (zcL (e:=61) I I k9)<|ze<|zC I (fun hb4=> ?_) (fun hb4=> ?_))))
 ·have hz:l=[]:=hnil (by simpa using hb4);refine zn (zf I<|ze<|zO (fn:=Tryz.f25) (fun _ _ h=>h)<|Rs.le (zG I<|zk I) ?_);subst hz;exact ZD
 ·skip
  refine zq (zj<|zn (SWl.e2 (S:=[]) (zah (e:=61) yA 5 40 k9 k9 I) fun g5=>(zd I (SWl.e4 (YW 0 5 40 I I (Y4 I) k9 k9 (by simp <;> omega) d9 (fun _ h=>h) I) fun A7 F7 c7=>(zf I<|ze<|SW.freezeT 0 2 I I (zc _)<|zO (fn:=Tryz.f25) (fun _ _ h=>h)<|Rs.le (zG I<|zk I) ?_)))))
  exact zc _
theorem WN (bs:List Tp.Bd) (hl:bs.length≤1000000):ConR Tryz.prog 73 [] [lsD yK bs] (fun t:Wst=>[.r t.F<|yi 59 4 yK t.A t.c<|bs]) (fun t:Wst=>isD<|.slice t.A bs.length t.c):=by
 refine yt Tryz.func73 k9 I k9 fun base w0=>(zn<|zf I<|ze<|zh<|zn<|zd I (KV 3 I fun A c hnil=>(za I (zcL (e:=59) I I k9)<|ze<|zC I (fun hb4=> ?_) (fun hb4=> ?_))))
 ·have hz:bs=[]:=hnil (by simpa using hb4);refine zh (Y5 59 4 yK<|zi<|zf I<|ze<|zV (fn:=Tryz.f73) (⟨none,0,[]⟩) [0] (fun _ _ h=>h) (Rs.le (zG I<|zk I) ?_) d9 ⟨⟨_,I,YL (by rw [hz]) (by rw [hz])⟩,t9⟩);exact zI (by rw [hz];rfl)
 ·skip
  refine zq (zj<|zn (SWl.e2 (S:=[]) (zah (e:=59) yK 4 48 k9 k9 I) fun g5=>(zd I (SWl.e4 (YW 0 4 48 I I (Y4 I) k9 k9 (by simp <;> omega) d9 (fun _ h=>h) I) fun A7 F7 c7=>(zf I<|ze<|zV (fn:=Tryz.f73) (⟨A7,c7,F7⟩) [0] (fun _ _ h=>h) (Rs.le (zG I<|zk I) ?_) d9 ⟨lR I,t9⟩)))))
  exact zc _
theorem WM (bs:List Tp.Bd) (hl:bs.length≤1000000) (hbl:∀ b∈bs,b.bl.length≤1000000):ConR Tryz.prog 26 [] [lsD yK bs] (fun _:Unit=>[]) (fun _:Unit=>lsD yK bs):=by
 refine yt Tryz.func26 k9 I k9 fun base w0=>(zn<|zf I<|zN<|zd I (SWl.e2 (S:=[]) (yh [] (WN bs hl) I ⟨zc _,t9⟩ d9 t9 (fun _ h=>h) I) fun s=>(zf I<|ze<|zh<|zn<|zd I<|za I (Zx (e:=59) I k9)<|zd I<|ze<|SW.block<|yd (ι:={i:Nat // i≤bs.length}) (fun i=>yb [(3,isD<|.slice s.A bs.length s.c),(8,iD (bs.length:Int)),(9,iD (i.1:Int))] [.r s.F<|yi 59 4 yK s.A s.c<|bs]) (fun i=>bs.length - i.1) (⟨0,JC _⟩) ?_ ?_)))
 ·exact (sB [0] I I)
 ·rintro ⟨i,hi⟩ K0 hK0;dsimp only at hi ⊢;refine zn (za I (yc I I)<|ze<|zh<|zC I (fun hb10=> ?_) (fun hb10=> ?_))
  ·have h10:(i:Int) < (bs.length:Int):=oT hb10;refine zq (zj<|zh<|SW.block<|zh ?_);obtain ⟨x,hx⟩:∃ x,bs[i]? =some x:=⟨_,List.getElem?_eq_getElem o9⟩;exact zi (zd I<|zf I<|ze<|zi<|zd I<|zd I<|zd I<|zd I<|za I (yf 0 4 I I I k9 k9 o9 o9)<|za I (jL (n:=3) 0 I I (List.length_pos_of_mem<|List.mem_of_getElem? (by simpa using hx)) k9)<|za I (zag (k:=3) 0 4 I I k9 (by simpa using hx) I d9 zm)<|zu (S:=[]) (yX [] (Vg x.bl<|hbl x<|List.mem_of_getElem? hx) I ⟨(zP<|zc _),t9⟩ I)<|za I (yf 0 4 I I I k9 k9 o9 o9)<|za I (jL (n:=3) 0 I I (List.length_pos_of_mem<|List.mem_of_getElem? (by simpa using hx)) k9)<|zu (S:=_) (Vr (v':=x) 0 4 I I I k9 (by simpa using hx) d9 I (fun _ h=>h))<|zF<|SN.block<|zj<|zi<|za I (Rd.add I I ⟨by omega,by omega⟩)<|zd I<|zF (fun aK wK hh=>hK0 (⟨i + 1,by omega⟩) (by dsimp only;omega) aK wK<|hh.sub<|⟨⟨_,I,⟨⟨_,I,zI s9⟩,⟨lq I,⟨⟨_,I,zI s9⟩,t9⟩⟩⟩⟩,[0],by decide,⟨⟨_,rfl,YL s9 (by rw [Int.toNat_natCast,YY hx])⟩,trivial⟩⟩))
  ·have h10:¬(i:Int) < (bs.length:Int):=oF hb10;refine zQ ?_
   repeat (first | refine zX ?_ | refine zY d9 ?_)
   refine zZ (zj<|zn<|zd I<|zf I<|ze<|SW.freezeT 0 2 I I (zc _)<|zV (fn:=Tryz.f26) (()) [] (fun _ _ h=>h) (Rs.le (zG I<|zk I) ?_) d9 t9);exact zc _
theorem WL (bs:List Tp.Bd) (hl:bs.length≤1000000) (hbl:∀ b∈bs,b.bl.length≤1000000):ConR Tryz.prog 26 [] [lsD yK bs] (fun t:{t:Tp.Bst // t.ss.length=bs.length}=>[.r t.1.F<|yi 59 4 Yr t.1.A t.1.c<|Zb bs t.1.ss,.r t.1.G<|Kf<|Tp.rows bs t.1.ss]) (fun t:{t:Tp.Bst // t.ss.length=bs.length}=>isD<|.slice t.1.A (Zb bs t.1.ss).length t.1.c):=by
 refine yt Tryz.func26 k9 I k9 fun base w0=>(zn<|zf I<|zN<|zd I (SWl.e2 (S:=[]) (yh [] (WN bs hl) I ⟨zc _,t9⟩ d9 t9 (fun _ h=>h) I) fun s=>(zf I<|ze<|zh<|zn<|zd I<|za I (Zx (e:=59) I k9)<|zd I<|ze<|SW.block<|ZU zeN [] d9 t9 ?_)));rintro _ ⟨G0,rfl⟩;refine yd (ι:={p:List Wst × LN // p.1.length≤bs.length}) (fun p=>yb [(3,isD<|.slice s.A (Zb bs p.1.1).length s.c),(8,iD (bs.length:Int)),(9,iD (p.1.1.length:Int))] [.r s.F<|yi 59 4 Yr s.A s.c<|Zb bs p.1.1,.r p.1.2<|Kf<|Tp.rows bs p.1.1]) (fun p=>bs.length - p.1.1.length) (⟨([],G0),JC _⟩) ?_ ?_
 ·exact ⟨⟨_,I,⟨⟨_,I,zI (by rw [yP])⟩,(sT I)⟩⟩,[0,1],by decide,⟨⟨_,rfl,YL (by rw [yP]) Tp.bo_nil.symm⟩,⟨⟨_,rfl,(by simp only [Tp.rows,List.zipWith_nil_right];exact zM _)⟩,trivial⟩⟩⟩
 ·rintro ⟨⟨ss,G⟩,hi⟩ K0 hK0;dsimp only at hi ⊢;refine zn (za I (yc I I)<|ze<|zh<|zC I (fun hb10=> ?_) (fun hb10=> ?_))
  ·have h10:(ss.length:Int) < (bs.length:Int):=oT hb10;refine zq (zj<|zh<|SW.block<|zh ?_);obtain ⟨x,hx⟩:∃ x,bs[ss.length]? =some x:=⟨_,Je o9⟩;have hox:=Ye (ss:=ss) hx;rw [JM<|Js _] at hox;refine zi (zd I<|zf I<|ze<|zi<|zd I<|zd I<|zd I<|zd I<|za I (yf 0 4 I I I k9 k9 o9 (by rw [yP];omega))<|za I (jL (n:=3) 0 I I (List.length_pos_of_mem<|Jc (show (Zb bs ss)[((ss.length:Nat):Int).toNat]? =some (x,none) from by rw [J7];exact hox)) k9)<|za I (zag (k:=3) 0 4 I I k9 (show (Zb bs ss)[((ss.length:Nat):Int).toNat]? =some (x,none) from by rw [J7];exact hox) I d9 zm) (SWl.e2 (S:=[]) (yh [] (Kj x.bl<|hbl x<|Jc hx) I ⟨zc _,t9⟩ d9 t9 (fun _ h=>h) I) fun s19=>(za I (yf 0 4 I I I k9 k9 o9 (by rw [yP];omega))<|za I (jL (n:=3) 0 I I (List.length_pos_of_mem<|Jc (show (Zb bs ss)[((ss.length:Nat):Int).toNat]? =some (x,none) from by rw [J7];exact hox)) k9)<|zu (S:=_) (Vr (v':=(x,some s19)) 0 4 I I I k9 (show (Zb bs ss)[((ss.length:Nat):Int).toNat]? =some (x,none) from by rw [J7];exact hox) d9 I (fun _ h=>h))<|zF<|SN.block<|zj<|ZU (zeM) [0,1] d9 (sX I) ?_)))
   rintro _ ⟨G2,rfl⟩;exact zi (za I (Rd.add I I ⟨by omega,by omega⟩)<|zd I<|zF (fun aK wK hh=>hK0 (⟨(ss ++ [s19],G2),by simp;omega⟩) (by simp;omega) aK wK<|hh.sub<|⟨⟨_,I,⟨⟨_,I,zI (by simp only [List.length_set,yP])⟩,⟨lq I,⟨⟨_,I,zI s9⟩,t9⟩⟩⟩⟩,[0,1],by decide,⟨⟨_,rfl,YL (by simp only [List.length_set,yP]) (by rw [Int.toNat_natCast,Tp.bo_set hx])⟩,⟨⟨_,rfl,(by dsimp only;rw [zcA hx];exact zM _)⟩,trivial⟩⟩⟩))
  ·have h10:¬(ss.length:Int) < (bs.length:Int):=oF hb10;refine zQ ?_
   repeat (first | refine zX ?_ | refine zY d9 ?_)
   refine zZ (zj<|zn<|zd I<|zf I<|ze<|zV (fn:=Tryz.f26) (⟨⟨s.A,s.c,s.F,ss,G⟩,by show ss.length=bs.length;omega⟩) [0,1] (fun _ _ h=>h) (Rs.le (zG I<|zk I) ?_) d9<|sX I);exact zc _
theorem zee (ac st:Int):Con Tryz.prog 24 [Z8 [iD ac,iD st]] (yL<|decide (((1≤ac∧ac≤100)∧1≤st)∧st≤50)):=by
 refine yy Tryz.func24 k9 I k9 fun base w0=>(zn (SWl.e2 (S:=[]) (ym I I) fun g1=>(zf I<|zN<|za I (zg (n:=0) I k9)<|za I (zp 0 I I I k9 zm)<|za I (YF I I)<|zd I<|z1 6 I (fun hb6=> ?_) (fun hb6=> ?_))))
 ·have h6:ac≥1:=oT hb6;refine zJ hb6 (zg (n:=0) I k9) (zJ hb6 (zp 0 I I I k9 zm)<|zJ hb6 (Zn I I)<|za I (zE I hb6 I)<|zd I<|z1 11 I (fun hb11=> ?_) (fun hb11=> ?_))
  ·have h11:ac≤100:=oT hb11;refine zJ hb11 (zg (n:=1) I k9) (zJ hb11 (zp 0 I I I k9 zm)<|zJ hb11 (YF I I)<|za I (zE I hb11 I)<|zd I<|z1 16 I (fun hb16=> ?_) (fun hb16=> ?_))
   ·have h16:st≥1:=oT hb16;refine zJ hb16 (zg (n:=1) I k9) (zJ hb16 (zp 0 I I I k9 zm)<|zJ hb16 (Zn I I)<|za I (zE I hb16 I)<|zf I<|ze<|zO (fn:=Tryz.f24) (fun _ _ h=>h)<|Rs.le (zG I<|zk I) ?_);exact KE ⟨⟨h6,h11⟩,h16⟩
   ·have h16:¬st≥1:=oF hb16;refine zt hb16 (zt hb16<|zt hb16<|za I (zw I hb16 I)<|zf I<|ze<|zO (fn:=Tryz.f24) (fun _ _ h=>h)<|Rs.le (zG I<|zk I) ?_);exact qx fun h=>h16 h.2
  ·have h11:¬ac≤100:=oF hb11;refine zt hb11 (zt hb11<|zt hb11<|za I (zw I hb11 I)<|zd I<|zt I<|zt I<|zt I<|za I (zw I I I)<|zf I<|ze<|zO (fn:=Tryz.f24) (fun _ _ h=>h)<|Rs.le (zG I<|zk I) ?_);exact qx fun h=>h11 h.1.2
 ·have h6:¬ac≥1:=oF hb6;refine zt hb6 (zt hb6<|zt hb6<|za I (zw I hb6 I)<|zd I<|zt I<|zt I<|zt I<|za I (zw I I I)<|zd I<|zt I<|zt I<|zt I<|za I (zw I I I)<|zf I<|ze<|zO (fn:=Tryz.f24) (fun _ _ h=>h)<|Rs.le (zG I<|zk I) ?_);exact qx fun h=>h6 h.1.1
end
section
theorem con_new (l:List Tp.Pr) (bs:List Tp.Bd) (ac st:Int) (key:LB) (hl:l.length≤1000) (hk:Tp.NOk l bs ac st key):ConR Tryz.prog 7 [] [lsD yA l,lsD yK bs,Z8 [iD ac,iD st],bD key] (fun t:Nat=>[.c t [lsD yA l,lsD yK bs,iD ac,iD st,bD key,iD 0,lsD z7<|l.map Tp.Pr.re]]) (fun t:Nat=>ZH [pA t,iD 0]):=by
 refine yt Tryz.func7 k9 I k9 fun base w0=>(zn (SWl.e2 (S:=[]) (ym I I) fun g6=>(zf I<|zf I<|ze<|zh<|zn<|zd I<|zu (S:=[]) (zv (zce l o9) I ⟨zc _,t9⟩ I)<|za I (yu I)<|zd I<|yI I I (by rw [Yl hk.vb.p];rfl) I I (zH I)<|yI I I (by rw [Yl hk.vb.p];rfl) I I (zH I)<|yN (S:=[]) I I (by rw [Yl hk.vb.p];rfl) I (yX [] (zcd l bs o9 (by have:=hk.vb.n;omega) (fun b hb=>by rw [hk.vb.bl hb];omega)) I ⟨(zP<|zc _),(zP<|zc _),t9⟩ I) ?_)));rintro _ rfl;refine yI I I (by rw [Yl hk.vb.p];rfl) I I (yu I) (za I (zw I (by rw [Yl hk.vb.p];rfl) I)<|zd I<|yI I I (by rw [jH hk.vb];rfl) I I (zx 0 2 I I k9 I zm)<|yN (S:=[]) I I (by rw [jH hk.vb];rfl) I (zv (zee ac st) I ⟨zc _,t9⟩ I) ?_);rintro _ rfl
 refine yI I I (by rw [jH hk.vb];rfl) I I (yu I) (za I (zw I (by rw [jH hk.vb];rfl) I)<|zd I<|yI I I (by rw [Jo hk.c];rfl) I I (zH I)<|yI I I (by rw [Jo hk.c];rfl) I I (Rd.len (e:=5) I k9)<|yI I I (by rw [Jo hk.c];rfl) I I (yc I I)<|za I (zw I (by rw [Jo hk.c];rfl) I)<|zd I<|yI I I (Jd (by rw [ye];have:=hk.k0;omega)) I I (zH I)<|yI I I (Jd (by rw [ye];have:=hk.k0;omega)) I I (Rd.len (e:=5) I k9)<|yI I I (Jd (by rw [ye];have:=hk.k0;omega)) I I (yV I I)<|za I (zw I (Jd (by rw [ye];have:=hk.k0;omega)) I)<|ze<|zK I (Jd (by rw [ye];have:=hk.k1;omega))<|zq<|zj<|zh<|yl [] (rr [0,2,4,5]<|.n 1 (.n 3 (.n 6 (.r 7<|.n 8 (.r 9 .fin) .no) .no) .no) .no) k9 k9 (fun d _ _ _ _ h=>by cases d <;> exact h)<|zz I I<|zz I I<|zl I I (zx 0 2 I I k9 I zm)<|zz I I<|yZ I (zv (zdi l o9) I ⟨zc _,t9⟩ I)<|jo I (Yu (WM bs (by have:=hk.vb.n;omega) (fun b hb=>by rw [hk.vb.bl hb];omega)) I ⟨zc _,t9⟩ I) ?_ yB)
 rintro _ _ ⟨⟨⟩,rfl,rfl⟩;refine yZ I (yX [] (zfi key (by have:=hk.k1;omega)) I ⟨(zP<|zc _),t9⟩ I) (zl I I (yF I I bldAu)<|ZB I (ym I I) ?_ yB);rintro _ ⟨g45,rfl⟩;refine yR I I (yE<|zh<|zn<|zd I<|za I (zT (e:=61) I k9)<|zd I<|ze<|SW.block<|Y5 3 1 z7<|yd (ι:={p:Nat × Wst // p.1≤l.length}) (fun p=>yb [(10,pA g45),(46,lsD yA l),(47,iD (l.length:Int)),(48,iD (p.1.1:Int))] [.c g45 [lsD yA l,lsD yK bs,iD ac,iD st,bD key,iD 0,isD<|.slice p.1.2.A ((l.take p.1.1).map Tp.Pr.re).length p.1.2.c],.r p.1.2.F<|yi 3 1 z7 p.1.2.A p.1.2.c<|(l.take p.1.1).map Tp.Pr.re]) (fun p=>l.length - p.1.1) (⟨(0,⟨none,0,[]⟩),JC _⟩) ?_ ?_)
 ·exact ⟨⟨_,I,(sT I)⟩,[1,2],by decide,⟨⟨_,rfl,⟨zc _,zc _,zc _,zc _,zc _,zc _,zI s9,trivial⟩⟩,⟨⟨_,rfl,YL s9 s9⟩,trivial⟩⟩⟩
 ·rintro ⟨⟨i,t⟩,hi⟩ K0 hK0;dsimp only at hi ⊢;refine zn (za I (yc I I)<|ze<|zh<|zC I (fun hb49=> ?_) (fun hb49=> ?_))
  ·have h49:(i:Int) < (l.length:Int):=oT hb49;refine zq (zj<|zh<|SW.block<|zh ?_);obtain ⟨x,hx⟩:∃ x,l[i]? =some x:=⟨_,Je o9⟩
   refine zi (za I (zU (e:=61) 5 I I k9 k9 o9 (by simpa using hx))<|za I (yn 5 I k9 d9 (show 5≤5 by decide) s9) (SWl.e2 (S:=[]) (Ef.alloc (zs:=[.int .i64 0,.int .i64 0,.int .i64 0,.int .i64 0,.int .i64 0]) k9 I) fun g12=>(zu (S:=[_]) (zA 2 I I I k9 I<|m9 I)<|ze<|yl (t.F ++ (g45 :: [])) (rr [0,1,2,3]<|.q 4<|.r 5<|.r 6<|.n 7 (.e 8 (.r 9<|.r 10<|.e 11 .fin .no) .no) .no) k9 k9 (fun d _ _ _ _ h=>by cases d <;> exact h)<|zz I I<|zz I I<|zl I I (zL I)<|zl I I (zg (n:=6) I k9)<|ZX I I (zp 0 I I I k9 zm)<|zl I I (zg (n:=4) I k9)<|zl I I (zp 2 I I I k9<|Zl 1 I d9<|ZR 0 I d9 zm)<|yZ I (YB I I WP I)<|jI I (YW 1 1 8 I I (Y4 (l:=[_]) I) k9 k9 (by rw [JO,JE,Xq];omega) d9 (fun _ h=>mL _ h) I) ?_ yB)))
   rintro _ ⟨A60,F60,c60,rfl⟩;exact zl I I (zL I) (zl I I (zg (n:=6) I k9)<|Zm I (yW 0 I I I k9 I<|mR _ mC)<|y9<|SN.block<|zj<|zi<|za I (Rd.add I I ⟨by omega,by omega⟩)<|zd I<|zF (fun aK wK hh=>hK0 (⟨(i + 1,⟨A60,c60,F60⟩),by simp only;omega⟩) (by simp only;omega) aK wK<|hh.sub<|⟨⟨_,I,⟨lq I,⟨lq I,⟨lq I,⟨⟨_,I,zI s9⟩,t9⟩⟩⟩⟩⟩,[0,2],by decide,⟨⟨_,rfl,⟨zc _,zc _,zc _,zc _,zc _,zc _,zI (by dsimp only;rw [Vv hx]),trivial⟩⟩,⟨⟨_,rfl,(by dsimp only;rw [Vv hx];exact zM _)⟩,trivial⟩⟩⟩))
  ·have h49:¬(i:Int) < (l.length:Int):=oF hb49;refine zQ ?_
   repeat (first | refine zX ?_ | refine zY d9 ?_)
   refine zZ (zj<|zh<|SW.freezeC 0 6 1 I I I<|zi<|zd I<|zf I<|zf I<|ze<|zV (fn:=Tryz.f7) (g45) [0] (fun _ _ h=>h) (Rs.le (Rs.two I (zk I)<|zk I) ?_) d9 ⟨⟨_,I,⟨zc _,zc _,zc _,zc _,zc _,zc _,(by rw [show i=l.length by omega,List.take_length];exact zc _),t9⟩⟩,t9⟩);exact zc _
theorem con_newN (l:List Tp.Pr) (bs:List Tp.Bd) (ac st:Int) (key:LB) (hl:l.length≤1000) (hbs:bs.length≤1000000) (hbl:∀ b∈bs,b.bl.length≤1000000) (hk:¬Tp.NOk l bs ac st key):Con Tryz.prog 7 [lsD yA l,lsD yK bs,Z8 [iD ac,iD st],bD key] (ZH [isD<|.pointer none,iD 2]):=by
 refine yy Tryz.func7 k9 I k9 fun base w0=>(zn (SWl.e2 (S:=[]) (ym I I) fun g6=>(zf I<|zf I<|ze<|zh<|zn<|zd I<|zu (S:=[]) (zv (zce l o9) I ⟨zc _,t9⟩ I)<|za I (yu I)<|zd I<|z1 16 I (fun hb16=> ?_) (fun hb16=> ?_))))
 ·skip
  refine zt hb16 (zt hb16<|zt hb16<|zt hb16<|za I (zE I hb16 I)<|zd I<|zt I<|zt I<|zt I<|za I (zE I I I)<|zd I<|zt I<|zt I<|zt I<|za I (zE I I I)<|zd I<|zt I<|zt I<|zt I<|za I (zE I I I)<|ze<|yj I I<|zn<|zf I<|zf I<|ze<|zO (fn:=Tryz.f7) (fun _ _ h=>h)<|Rs.le (Rs.two I (zk I)<|zk I) ?_);exact zc _
 ·skip
  refine zJ hb16 (zH I) (zJ hb16 (zH I)<|yN (S:=[]) I I hb16 I (yX [] (zcd l bs o9 hbs hbl) I ⟨(zP<|zc _),(zP<|zc _),t9⟩ I) ?_);rintro _ rfl;refine zJ hb16 (yu I) (za I (zw I hb16 I)<|zd I<|z1 22 I (fun hb22=> ?_) (fun hb22=> ?_))
  ·skip
   refine zt hb22 (zt hb22<|zt hb22<|za I (zE I hb22 I)<|zd I<|zt I<|zt I<|zt I<|za I (zE I I I)<|zd I<|zt I<|zt I<|zt I<|za I (zE I I I)<|ze<|yj I I<|zn<|zf I<|zf I<|ze<|zO (fn:=Tryz.f7) (fun _ _ h=>h)<|Rs.le (Rs.two I (zk I)<|zk I) ?_);exact zc _
  ·have h22:=Tp.vb_iff.1 (qp hb22);refine zJ hb22 (zx 0 2 I I k9 I zm) (yN (S:=[]) I I hb22 I (zv (zee ac st) I ⟨zc _,t9⟩ I) ?_);rintro _ rfl;refine zJ hb22 (yu I) (za I (zw I hb22 I)<|zd I<|z1 27 I (fun hb27=> ?_) (fun hb27=> ?_))
   ·skip
    refine zt hb27 (zt hb27<|zt hb27<|za I (zE I hb27 I)<|zd I<|zt I<|zt I<|zt I<|za I (zE I I I)<|ze<|yj I I<|zn<|zf I<|zf I<|ze<|zO (fn:=Tryz.f7) (fun _ _ h=>h)<|Rs.le (Rs.two I (zk I)<|zk I) ?_);exact zc _
   ·have h27:=Kn hb27;refine zJ hb27 (zH I) (zJ hb27 (Rd.len (e:=5) I k9)<|zJ hb27 (yc I I)<|za I (zw I hb27 I)<|zd I<|z1 32 I (fun hb32=> ?_) (fun hb32=> ?_))
    ·have h32:((cellsOf key).length:Int) < 1:=oT hb32;refine zt hb32 (zt hb32<|zt hb32<|za I (zE I hb32 I)<|ze<|yj I I<|zn<|zf I<|zf I<|ze<|zO (fn:=Tryz.f7) (fun _ _ h=>h)<|Rs.le (Rs.two I (zk I)<|zk I) ?_);exact zc _
    ·have h32:¬((cellsOf key).length:Int) < 1:=oF hb32;refine zJ hb32 (zH I) (zJ hb32 (Rd.len (e:=5) I k9)<|zJ hb32 (yV I I)<|za I (zw I hb32 I)<|ze<|yj I (Jo (Decidable.byContradiction fun h=>hk ⟨h22,h27,by rw [ye] at h32;omega,by rw [ye] at h;omega⟩))<|zn<|zf I<|zf I<|ze<|zO (fn:=Tryz.f7) (fun _ _ h=>h)<|Rs.le (Rs.two I (zk I)<|zk I) ?_);exact zc _
theorem zdk (ga:Nat) (a:Tp.Au) (ho:Tp.AOk a):ConR Tryz.prog 11 [.c ga [lsD yA a.cat,lsD yK a.bs,iD a.ac,iD a.st,bD a.key,iD (a.rd:Int),lsD z7 a.pr]] [pA ga] (fun _:Unit=>[.c ga [lsD yA a.cat,lsD yK a.bs,iD a.ac,iD a.st,bD a.key,iD (a.rd:Int),lsD z7 a.pr]]) (fun _:Unit=>lsD yK a.bs):=by
 have hk:=ho.k0;refine yt Tryz.func11 k9 I k9 fun base w0=>(zn<|zf I<|ze<|zh<|zn<|zd I<|zu (S:=[]) (yX [0] (qP a hk) I ⟨(Yp 0 I d9 ⟨(zP<|zc _),(zP<|zc _),(zP<|zc _),(zP<|zc _),(zP<|zc _),(zP<|zc _),(zP<|zc _),t9⟩),t9⟩ I)<|ze<|zK I I<|zq<|zj<|zn<|zd I<|za I (zL I)<|za I (zg (n:=1) I k9)<|za I (zp 0 I I I k9 zm) (SWl.e2 (S:=[]) (yh [] (WM a.bs (by have:=ho.vb.n;omega) (fun b hb=>by rw [ho.vb.bl hb];have:=ho.hl;omega)) I ⟨zc _,t9⟩ d9 t9 (fun _ h=>h) I) fun _=>(zf I<|ze<|zV (fn:=Tryz.f11) (()) [0] (fun _ _ h=>h) (Rs.le (zG I<|zk I) ?_) d9 ⟨la I,t9⟩)));exact zc _
end
section
section
variable {P:Program}{w:World}
theorem Wj {b:LB} {L:LN} {v:Value} (h:(bD b).R L w v):∃ s:ByteArray,(Extern.Bytes.bytesOf v).run P w= .ok s w:=by
 obtain ⟨A,c,rfl,_,hr,_⟩:=h
 cases A with
 | none=>exact ⟨_,rfl⟩
 | some p=>
  have h2:=Lib.run_loadBytesX (P:=P) w (b.map fun x=>(x.toNat:Int)) p .empty (fun j x hj=>by
   rw [JJ] at hj
   cases hb:b[j]? with
   | none=>rw [hb] at hj;cases hj
   | some y=>
    rw [hb] at hj;obtain rfl:=JN hj;have hjl:=(Jg.1 hb).1;obtain ⟨g,o,e,_,hc⟩:=hr (by rw [ye];omega);injection e with e;subst e
    have e2:(⟨g,o,none⟩:Addr).add j=⟨g,o + j,none⟩:=by unfold Addr.add;split <;> simp_all
    rw [e2]
    exact (hc j (by rw [ye];exact hjl)).trans (by unfold cellsOf;rw [JJ,hb];rfl))
  rw [JO] at h2;rw [ye];exact ⟨_,h2⟩
theorem zcP {a b:LB} {L:LN} {v u:Value} (hv:(bD a).R L w v) (hu:(bD b).R L w u):∃ z:Int,(Extern.BytealgCompare.compare #[v,u]).run P w= .ok (.int .i64 z) w:=by
 obtain ⟨s,hs⟩:=Wj (P:=P) hv;obtain ⟨r,hr⟩:=Wj (P:=P) hu;refine ⟨Extern.BytealgCompare.cmp s r,?_⟩
 change Sem.run P (do pure (goInt<|Extern.BytealgCompare.cmp (← Extern.Bytes.bytesOf v)<|← Extern.Bytes.bytesOf u)) w=_
 simp only [JD,hs,hr,Result.andThen,JK]
 rfl
end
theorem zcq {a b:LB} {L:LN} {w:World} {v u:Value} (hv:(bD a).R L w v) (hu:(bD b).R L w u):
  Calls Tryz.prog 85 #[v,u] w fun e w'=>(∃ z:Int,e= .returned (.int .i64 z))∧w'=w:=by
 obtain ⟨z,hz⟩:=zcP (P:=Tryz.prog) hv hu
 go_enter Tryz.func85,Tryz.ntmps85
 go_wp2
 rw [run_callFunc_extern Tryz.func126 k9 k9 k9 (e:=Extern.BytealgCompare.compare) k9,hz];simp only [Result.andThen];rw [Oper.upon_value]
 go_wp2
 go_ret
 exact ⟨⟨z,I⟩,I⟩
theorem con_bcmp (a b:LB):ConR Tryz.prog 85 [] [bD a,bD b] (fun _:Int=>[]) (fun t:Int=>iD t):=by
 refine ⟨enters_of Tryz.func85 k9 I,fun L w vs hL hG _ _ _ _ ha=> ?_⟩;obtain ⟨v,u,rfl,hv,hu⟩:=zbB ha;refine (zcq hv hu).mono ?_;rintro e w' ⟨⟨z,rfl⟩,rfl⟩;exact ⟨z,_,I,I,fun b hb=>(by cases hb),(by simp [fps]),fun g hg=>(by simp [fps] at hg),Only.refl _ _⟩
def cmD (P:Program) (n:Int):D:=⟨fun L w v=>∃ (F:FuncId) (cs:List Value) (ds:List D),v= .func (.func F) #[] cs.toArray∧All L w ds cs∧∀ i j,0≤i→i < n→0≤j→j < n→ConR P F [] (iD i :: iD j :: ds) (fun _:Int=>[]) (fun t:Int=>iD t),
 fun ⟨F,cs,ds,h,k,q⟩ ho hS=>⟨F,cs,ds,h,k.keep ho hS,q⟩,fun ⟨F,cs,ds,h,k,q⟩ hS=>⟨F,cs,ds,h,k.less hS,q⟩⟩
instance (P:Program) (n:Int):One (cmD P n):=⟨fun _ _ _ h=>by obtain ⟨F,cs,ds,rfl,_⟩:=h;rfl⟩
theorem le_cm_fn {P:Program} {n:Int} {F:FuncId} {ds:List D} (h:∀ i j,0≤i→i < n→0≤j→j < n→ConR P F [] (iD i :: iD j :: ds) (fun _:Int=>[]) (fun t:Int=>iD t)):Le (fnD F ds) (cmD P n):=fun _ _ _ ⟨cs,hv,ha⟩=>⟨F,cs,ds,hv,ha,h⟩
section
variable {P:Program}{Γ:Cx}{σ:St}{S:List Nat}{dst:Option Tmp}{ty:TypeId}{pos:String}{af:Array Edge}{gd:Option (Nat × Bool)}
theorem Ef.callC {x y z:Operand} {aT:Array TypeId} {n i j:Int} {k:Nat} (hx:σ.ev x=some (cmD P n)) (hy:σ.ev y=some (iD i)) (hz:σ.ev z=some (iD j)) (hi:0≤i∧i < n) (hj:0≤j∧j < n) (hk:yp Γ.nt k=true):
  Ef P Γ S ⟨some k,.call { callee:= .value x,args:= #[y,z],argTypes:=aT },ty,pos,af,gd⟩ σ (fun σ'=>∃ t:Int,σ'=σ.put k (iD t)):=by
 intro a w hh K Q hK;obtain ⟨F,cs,ds,hv,ha,hq⟩:=zR hh hx;have hcon:=hq i j hi.1 hi.2 hj.1 hj.2;have hyv:a.eval y= .int .i64 i:=zR hh hy;have hzv:a.eval z= .int .i64 j:=zR hh hz;unfold Oper.wp;rw [zbU (bd:=[]) hcon.en hv];simp only [Oper.upon];have hall:All (σ.L Γ) w (iD i :: iD j :: ds) ([] ++ #[y,z].toList.map a.eval ++ cs):=⟨hyv,hzv,ha⟩;refine (hcon.go (σ.L Γ) w _ hh.lt hh.gl (fun g hg=>by simp [fps] at hg) (fun g hg=>by simp [fps] at hg) (by simp [fps]) (fun b hb=>by cases hb) hall).mono ?_;rintro r w' ⟨t,v,rfl,hd,_,_,_,ho⟩;exact hK _ _ _ ⟨t,I⟩ ((hh.keep ho).put (by simpa [yp] using hk) hd) (ho.mono (by simp [fps]))
end
end
section
def Tp.In (n:Int) (xs:List Int):Prop:=∀ x∈xs,0≤x∧x < n
theorem Tp.In.set {n:Int} {xs:List Int} (h:Tp.In n xs) {i:Nat} {v:Int} (hv:0≤v∧v < n):Tp.In n (xs.set i v):=fun x hx=>by
 rcases List.mem_or_eq_of_mem_set hx with h1 | rfl
 ·exact h x h1
 ·exact hv
theorem Tp.In.at {n:Int} {xs:List Int} (h:Tp.In n xs) {i:Nat} {x:Int} (hx:xs[i]? =some x):0≤x∧x < n:=h x (Jc hx)
section
variable {P:Program}{Γ:Cx}{σ:St}{S:List Nat}{dst:Option Tmp}{ty:TypeId}{pos:String}{af:Array Edge}{gd:Option (Nat × Bool)}
theorem Rd.idxTn {x y:Operand} {T e c n:Nat} {kd:IntKind} {i:Int} {A:Option Addr} {F:LN} {α:Type} {enc:α→List D} {l:List α} (j sz:Nat) (hn:n=l.length) (hx:σ.ev x=some (isD<|.slice A n c)) (hj:σ.bx[j]? =some (.r F<|yi e sz enc A c l)) (hy:σ.ev y=some (isD<|.int kd i)) (hT:Yb P T e=true) (hs:(P.info? e).map (·.size)=some sz) (h0:0≤i) (hi:i.toNat < l.length):
  Rd P Γ S ⟨dst,.indexAddr T x y,ty,pos,af,gd⟩ σ (isD<|elP A<|i.toNat * sz):=by subst hn;exact yf j sz hx hj hy hT hs h0 hi
end
theorem con_isort (F:LN) (A:Option Addr) (c:Nat) (xs:List Int) (m:Int) (hl:xs.length≤1000000) (hx:Tp.In m xs):ConR Tryz.prog 151 [.r F<|yi 3 1 z7 A c<|xs] [isD<|.slice A (xs).length c,iD 0,iD (xs.length:Int),cmD Tryz.prog m] (fun t:{ys:List Int // ys.length=xs.length∧Tp.In m ys}=>[.r F<|yi 3 1 z7 A c<|t.1]) (fun t:{ys:List Int // ys.length=xs.length∧Tp.In m ys}=>isD<|.tuple #[]):=by
 refine yt Tryz.func151 k9 I k9 fun base w0=>(zn<|zd I<|za I (Rd.add I I ⟨by omega,by omega⟩)<|zf I<|ze<|SW.block<|yd (ι:={p:Nat × List Int // 1≤p.1∧(p.1≤xs.length∨p.1=1)∧p.2.length=xs.length∧Tp.In m p.2}) (fun p=>yb [(0,isD<|.slice A (p.1.2).length c),(1,iD 0),(2,iD (xs.length:Int)),(3,cmD Tryz.prog m),(8,iD (p.1.1:Int))] [.r F<|yi 3 1 z7 A c<|p.1.2]) (fun p=>xs.length - p.1.1) (⟨(1,xs),Js _,.inr I,I,hx⟩) ?_ ?_)
 ·exact (sB [0] I I)
 ·rintro ⟨⟨i,ys⟩,hi,hi2,hyl,hym⟩ K0 hK0;dsimp only at hi hi2 hyl hym ⊢;refine zh (zn<|zd I<|zd I<|za I (yc I I)<|ze<|zC I (fun hb14=> ?_) (fun hb14=> ?_))
  ·have h14:(i:Int) < (xs.length:Int):=oT hb14;refine zq (zj<|zh<|SW.block<|zn<|zd I<|zf I<|ze<|SW.block<|yd (ι:={q:Nat × List Int // q.1≤i∧q.2.length=xs.length∧Tp.In m q.2}) (fun q=>yb [(0,isD<|.slice A (q.1.2).length c),(1,iD 0),(2,iD (xs.length:Int)),(3,cmD Tryz.prog m),(8,iD (i:Int)),(9,iD (q.1.1:Int))] [.r F<|yi 3 1 z7 A c<|q.1.2]) (fun q=>q.1.1) (⟨(i,ys),Js _,hyl,hym⟩) ?_ ?_)
   ·exact (sB [0] I I)
   ·rintro ⟨⟨j,zs⟩,hj,hzl,hzm⟩ K1 hK1;dsimp only at hj hzl hzm ⊢
    refine zh (zh<|yl [] (rr [0,1,2,3,4,5,6,7,8,9,10,11,12,13]<|.n 14 (.r 15<|.r 16 .fin) .no) k9 k9 (fun d _ _ _ _ h=>by cases d <;> exact h)<|zz I I<|zz I I<|zl I I (yV I I)<|zz I I<|Zq 21 I (fun hb21=> ?_) (fun hb21=> ?_))
    ·have h21:(j:Int) > 0:=oT hb21;obtain ⟨u,hu⟩:∃ u,zs[j]? =some u:=⟨_,Je o9⟩;obtain ⟨v,hv⟩:∃ v,zs[j - 1]? =some v:=⟨_,Je o9⟩;refine zy I I I hb21 I I (zH I) (zy I I I hb21 I I (zH I)<|zy I I I hb21 I I (zH I)<|zy I I I hb21 I I (yf 0 1 I I I k9 k9 o9 (by rw [J7];omega))<|zy I I I hb21 I I (yr 0 I I k9 (by rw [J7];exact hu) I zm)<|zy I I I hb21 I I (zH I)<|zy I I I hb21 I I (zH I)<|zy I I I hb21 I I (Rd.mono (yG I I ⟨by omega,by omega⟩) (show Le _ (iD ((j - 1:Nat):Int)) from zI (by congr 1;omega)))<|zy I I I hb21 I I (yf 0 1 I I I k9 k9 o9 (by rw [J7];omega))<|zy I I I hb21 I I (yr 0 I I k9 (by rw [J7];exact hv) I zm)<|Ys I I I (hb21) I (Ef.callC I I I (hzm.at hu) (hzm.at hv) I) ?_ yB);rintro _ ⟨z,rfl⟩;refine zy I I I hb21 I I (yc I I) (zl I I (zE I hb21 I)<|yE<|zC I (fun hb34=> ?_) (fun hb34=> ?_))
     ·skip
      exact zq (zj<|zh<|SW.block<|yl (F ++ []) (rr [0,1,2,3,4,5,6,7,8]<|.q 9<|rr [10,11,12]<|.q 13<|.r 14<|.e 15 (.r 16<|.e 17 .fin .no) .no) k9 k9 (fun d _ _ _ _ h=>by cases d <;> exact h)<|zz I I<|zz I I<|zz I I<|zz I I<|zl I I (Rd.mono (yG I I ⟨by omega,by omega⟩) (show Le _ (iD ((j - 1:Nat):Int)) from zI (by congr 1;omega)))<|zz I I<|zz I I<|zl I I (Rd.mono (yG I I ⟨by omega,by omega⟩) (show Le _ (iD ((j - 1:Nat):Int)) from zI (by congr 1;omega)))<|zl I I (yf 0 1 I I I k9 k9 o9 (by rw [Int.toNat_natCast];omega))<|ZX I I (yr 0 I I k9 (by rw [Int.toNat_natCast];exact hv) I zm)<|zz I I<|zz I I<|zl I I (yf 0 1 I I I k9 k9 o9 (by rw [Int.toNat_natCast];omega))<|ZX I I (yr 0 I I k9 (by rw [Int.toNat_natCast];exact hu) I zm)<|zl I I (yf 0 1 I I I k9 k9 o9 (by rw [Int.toNat_natCast];omega))<|Zm I (yM (v:=v) 0 I I I I k9 (by rw [Int.toNat_natCast];omega) (fun _ h=>mL _ h))<|zl I I (Rd.idxTn (l:=zs.set ((j:Nat):Int).toNat v) 0 1 (by rw [List.length_set]) I I I k9 k9 o9 (by rw [List.length_set,Int.toNat_natCast];omega))<|Zm I (yM (v:=u) 0 I I I I k9 (by rw [List.length_set,Int.toNat_natCast];omega) (fun _ h=>mL _ h))<|y9<|SN.block<|zj<|zi<|zd I<|za I (Rd.mono (yG I I ⟨by omega,by omega⟩) (show Le _ (iD ((j - 1:Nat):Int)) from zI (by congr 1;omega)))<|zf I<|zF (fun aK wK hh=>hK1 (⟨(j - 1,(zs.set j v).set (j - 1) u),by dsimp only;omega,by simp [hzl],(hzm.set<|hzm.at hv).set<|hzm.at hu⟩) (by dsimp only;omega) aK wK<|hh.sub<|⟨⟨_,I,⟨⟨_,I,zI s9⟩,(sT I)⟩⟩,[0],by decide,⟨⟨_,rfl,YL s9 (by simp only [Int.toNat_natCast])⟩,trivial⟩⟩))
     ·skip
      refine zQ ?_
      repeat (first | refine zX ?_ | refine zY d9 ?_)
      exact zZ (SN.block<|zj<|zi<|zd I<|za I (Rd.add I I ⟨by omega,by omega⟩)<|zf I<|zF (fun aK wK hh=>hK0 (⟨(i + 1,zs),by dsimp only;omega,.inl (by dsimp only;omega),hzl,hzm⟩) (by dsimp only;omega) aK wK<|hh.sub<|⟨⟨_,I,⟨lq I,⟨lq I,⟨lq I,⟨lq I,⟨⟨_,I,zI s9⟩,t9⟩⟩⟩⟩⟩⟩,[0],by decide,⟨lR rfl,trivial⟩⟩))
    ·have h21:¬(j:Int) > 0:=oF hb21;refine zD I I I hb21 I I (zD I I I hb21 I I<|zD I I I hb21 I I<|zD I I I hb21 I I<|zD I I I hb21 I I<|zD I I I hb21 I I<|zD I I I hb21 I I<|zD I I I hb21 I I<|zD I I I hb21 I I<|zD I I I hb21 I I<|YK I I I (hb21) I I ?_ yB);refine zD I I I hb21 I I (zl I I (zw I hb21 I)<|yE<|zK I I<|zQ ?_)
     repeat (first | refine zX ?_ | refine zY d9 ?_)
     exact zZ (SN.block<|zj<|zi<|zd I<|za I (Rd.add I I ⟨by omega,by omega⟩)<|zf I<|zF (fun aK wK hh=>hK0 (⟨(i + 1,zs),by dsimp only;omega,.inl (by dsimp only;omega),hzl,hzm⟩) (by dsimp only;omega) aK wK<|hh.sub<|⟨⟨_,I,⟨lq I,⟨lq I,⟨lq I,⟨lq I,⟨⟨_,I,zI s9⟩,t9⟩⟩⟩⟩⟩⟩,[0],by decide,⟨lR rfl,trivial⟩⟩))
  ·have h14:¬(i:Int) < (xs.length:Int):=oF hb14;refine zQ ?_
   repeat (first | refine zX ?_ | refine zY d9 ?_)
   refine zZ (Ko (fn:=Tryz.f151) (⟨ys,hyl,hym⟩) [0] (Rs.le (Rs.none I) ?_) d9 ⟨lR I,t9⟩);exact zc _
theorem ze7 (F:LN) (A:Option Addr) (c:Nat) (xs:List Int) (m:Int) (hs:xs.length≤19) (hx:Tp.In m xs) (hl:xs.length≤1000000):ConR Tryz.prog 125 [.r F<|yi 3 1 z7 A c<|xs] [isD<|.slice A (xs).length c,iD (xs.length:Int),cmD Tryz.prog m] (fun t:{ys:List Int // ys.length=xs.length∧Tp.In m ys}=>[.r F<|yi 3 1 z7 A c<|t.1]) (fun t:{ys:List Int // ys.length=xs.length∧Tp.In m ys}=>isD<|.tuple #[]):=by
 refine yt Tryz.func125 k9 I k9 fun base w0=>(zn<|zf I<|zN<|zd I<|zf I<|zf I<|ze<|zh<|SW.block<|zcH 0<|zh<|zn<|zd I<|zd I<|za I (Zn I I)<|ze<|zK I (Jd o9)<|zQ ?_)
 repeat (first | refine zX ?_ | refine zY d9 ?_)
 refine zZ (zj<|zn<|zd I<|zd I<|zd I<|zd I<|Zc (yh [0] (con_isort F A c xs m hl hx) I ⟨zc _,zc _,zc _,zc _,t9⟩ d9 ⟨lR I,t9⟩ (fun _ h=>h) I) ?_);rintro _ ⟨⟨ys,hyl,hym⟩,rfl⟩;refine ze (SW.block<|zcH 0<|zh<|zn<|zd I<|zd I<|za I (yc I I)<|ze<|zK I (Jd o9)<|zQ ?_)
 repeat (first | refine zX ?_ | refine zY d9 ?_)
 refine zZ (Ko (fn:=Tryz.f125) (⟨ys,hyl,hym⟩) [0] (Rs.le (Rs.none I) ?_) d9 ⟨lR I,t9⟩);exact zc _
theorem zdb (F:LN) (A:Option Addr) (c:Nat) (xs:List Int) (m:Int) (hs:xs.length≤19) (hx:Tp.In m xs) (hl:xs.length≤1000000):ConR Tryz.prog 83 [.r F<|yi 3 1 z7 A c<|xs] [isD<|.slice A (xs).length c,cmD Tryz.prog m] (fun t:{ys:List Int // ys.length=xs.length∧Tp.In m ys}=>[.r F<|yi 3 1 z7 A c<|t.1]) (fun t:{ys:List Int // ys.length=xs.length∧Tp.In m ys}=>isD<|.tuple #[]):=by
 refine yt Tryz.func83 k9 I k9 fun base w0=>(zi<|zd I<|zd I<|za I (Zx (e:=3) I k9)<|zd I<|Zc (yh [0] (ze7 F A c xs m hs hx hl) I ⟨zc _,zc _,zc _,t9⟩ d9 ⟨lR I,t9⟩ (fun _ h=>h) I) ?_);rintro _ ⟨⟨ys,hyl,hym⟩,rfl⟩;refine zF (Ko (fn:=Tryz.f83) (⟨ys,hyl,hym⟩) [0] (Rs.le (Rs.none I) ?_) d9 ⟨lR I,t9⟩);exact zc _
end
end Sx
theorem zdm (w:World) (gh gb ob:Nat) (tH:TypeId) (st:LN) (blk bs:LB) (fill before written ti:Int) (t:Nat) (hti:ti=(t:Int)) (last:Bool) (hst:Bl.Words 8 st) (hblk:blk.length=64)
  (hH:Blk w gh tH (Zd st blk fill before written)) (hgl:Gl w) (hg2:3≤gh) (ht:t < 18446744073709551616)
  (hcell:∀ j,j < 64→w.cell? ⟨gb,ob + j,none⟩=some (.int .u8 (bs.getD j 0).toNat)) (hgb:gb < w.heap.size):
  Calls Tryz.prog 188 #[.pointer<|some ⟨gh,0,none⟩,.slice (some ⟨gb,ob,none⟩) 64 64,.int .u64 ti,.bool last] w fun e w'=>
   e= .returned (.tuple #[])∧Blk w' gh tH (Zd (Bl.comp st bs t last) blk fill before written)∧Only [gh] w w':=by
 subst hti;exact comp_any w gh gb ob tH st blk bs fill before written t last hst hblk hH hgl hg2 ht hcell hgb
def lenVb:Value→Nat | .slice _ n _=>n | _=>0
theorem Gl.drew {w:World} (h:Gl w):Gl w.drew:=⟨h.ini,h.tab,h.sz⟩
def AbsRel (w:World) (gh nk:Nat) (M part:LB) (written k:Nat) (wr:World):Prop:=
 (k=0→HS wr gh nk M written∧wr=w)∧(k=1→HS wr gh nk (M ++ part) (written + part.length)∧Only [gh] w wr)
def InRel (w:World) (gh nk:Nat) (M part:LB) (written c ga oa k:Nat) (p:Value) (wr:World):Prop:=
 k≤part.length∧(∃ A,p= .slice A (part.length - k) (c - k)∧(k < part.length→A=some ⟨ga,oa + k,none⟩))∧
 (∃ fill q,HSx wr gh nk (M ++ part.take k) written fill q∧(fill=0→M ++ part.take k≠[]→k < part.length))∧Only [gh] w wr
theorem abs_copy {w0 W3:World} {gh nk q fill k m d n c ga oa wn:Nat} {M part blk xs:LB} (hB3:Blk W3 gh 286 (Zd (Bl.stq nk (M ++ part.take k) q) (splice blk fill xs) (fill:Int) ((64 * q:Nat):Int) (wn:Int)))
  (hO:Only [gh] w0 W3) (hst:(Bl.stq nk (M ++ part.take k) q).length=8) (hl:blk.length=64) (hM:(M ++ part.take k).length=64 * q + fill) (ht:blk.take fill=(M ++ part.take k).drop (64 * q))
  (hm:part.length - k=m) (hd:c - k=d) (hxs:xs=(part.drop k).take n) (hxl:xs.length=n) (hn1:n≤m) (hn2:n≤64 - fill) (hn0:0 < n) (hmd:m≤d) (hc:part.length≤c) (hk:k≤part.length) (hf:fill < 64):
  InRel w0 gh nk M part wn c ga oa (k + n) (.slice (if d=n then some ⟨ga,oa + k,none⟩ else some ⟨ga,oa + k + n,none⟩) (m - n)<|d - n) (W3.setCell ⟨gh,73,none⟩<|.int .i64<|(fill:Int) + (n:Int)):=by
 have hl3:(splice blk fill xs).length=64:=by rw [KA (by rw [hl];omega),hl]
 refine ⟨by omega,⟨_,by rw [← hm,← hd,Nat.sub_sub,Nat.sub_sub],fun h=> ?_⟩,⟨fill + n,q,⟨splice blk fill xs,?_,hl3,?_,by omega,?_⟩,fun h=>by omega⟩,hO.setCell (p:=⟨gh,73,none⟩) (.inl s9) _⟩
 ·rw [Jb o9,J9]
 all_goals rw [List.take_add (l:=part),← Jq,← hxs]
 ·rw [Bl.stq_append (by rw [hM];omega)];have:=hB3.set 73 (.int .i64<|(fill:Int) + (n:Int));rw [Kg hst hl3] at this
  have e:((fill + n:Nat):Int)=(fill:Int) + (n:Int):=by omega
  rw [e];exact this
 ·rw [Jk,hM,hxl];omega
 ·rw [J3 (by rw [hM];omega),← ht];unfold splice;rw [← Jq,JQ (by simp [hl,hxl];omega),Ji (by simp [hl,hxl];omega)]
theorem zfu (w:World) (gh nk:Nat) (M part:LB) (written gp c:Nat) (A:Option Addr) (hS:HS w gh nk M written) (_hgp:gp≠gh) (hgps:gp < w.heap.size)
  (hcp:w.cell? ⟨gp,0,none⟩=some (.slice A part.length c)) (hc:part.length≤c) (hr:RB w A part) (hA:0 < part.length→∀ p,A=some p→p.block≠gh) (hnk:nk≤32)
  (hw1:written + part.length≤4611686018427387904) (hw2:M.length + part.length≤4611686018427387904) (hgl:Gl w) (hg2:3≤gh):
  Calls Tryz.prog 172 #[.pointer<|some ⟨gh,0,none⟩,.slice (some ⟨gp,0,none⟩) 1 1] w fun e w'=>
   e= .returned (.tuple #[])∧HS w' gh nk (M ++ part) (written + part.length)∧Only [gh] w w':=by
 obtain ⟨ga,oa,hga⟩:∃ ga oa,0 < part.length→A=some ⟨ga,oa,none⟩∧ga < w.heap.size∧ga≠gh∧∀ j,j < part.length→w.cell? ⟨ga,oa + j,none⟩=some (.int .u8 (part.getD j 0).toNat):=by
  by_cases h0:0 < part.length
  ·obtain ⟨g,o,rfl,h1,h2⟩:=hr h0;exact ⟨g,o,fun _=>⟨I,h1,hA h0 _ I,h2⟩⟩
  ·exact ⟨0,0,fun h=>absurd h h0⟩
 have Hga:=Jm hga;have HA:=Jm hA;clear hga hA hr
 go_enter Tryz.func172,Tryz.ntmps172
 go_wp2
 go_loopw [9,5,6] (fun a _ _ wr=>∃ k:Nat,k≤1∧a= .int .i64 k∧AbsRel w gh nk M part written k wr) (fun a _ _ _=>1 - (intOf a).toNat)
 case atStart=>exact ⟨0,by omega,rfl,fun _=>⟨hS,rfl⟩,fun h=>by cases h⟩
 case round=>
  obtain ⟨k,hk,rfl,hrel⟩:=hrel
  by_cases hlt:k < 1
  ·obtain rfl:k=0:=by omega
   obtain ⟨hS',rfl⟩:=hrel.1 rfl;clear hrel hk hlt hS;rw [show ((0:Nat):Int)=0 from rfl];obtain ⟨fill0,q0,⟨blk0,hB0,hl0,hM0,hf0,ht0⟩,hz0⟩:=hS';have hst:=Bl.stq_words (n:=nk) (M:=M) hnk q0;have c75:wr.cell? ⟨gh,75,none⟩=some (.int .i64 (written:Int)):=hB0.cellv (Zi hst.1 hl0 2);have f75:=hB0.frozen 75
   go_wp2
   have hB1:=hB0.set 75 (.int .i64 ((written + part.length:Nat):Int));rw [zam hst.1 hl0] at hB1;have hO1:=(Only.refl [gh] wr).setCell (p:=⟨gh,75,none⟩) (.inl s9) (.int .i64 ((written + part.length:Nat):Int))
   have eN:((written + part.length:Nat):Int)=(written:Int) + part.length:=by omega
   rw [eN] at hB1 hO1;clear c75 f75
   revert hB1 hO1
   generalize World.setCell _ _ _=W1
   intro hB1 hO1;rw [← eN] at hB1;clear eN;obtain ⟨w0,rfl⟩:∃ w0:World,w0=wr:=⟨_,rfl⟩
   go_loopw [5,6] (fun p _ wr=>∃ k:Nat,InRel w0 gh nk M part (written + part.length) c ga oa k p wr) (fun p _ _=>lenVb p)
   case atStart=>
    refine ⟨0,by omega,⟨A,rfl,fun h=>(Hga.out h).1⟩,⟨fill0,q0,⟨blk0,?_,hl0,?_,hf0,?_⟩,fun h h'=> ?_⟩,hO1⟩
    ·simpa using hB1
    ·simpa using hM0
    ·simpa using ht0
    ·exact absurd h (by have:=hz0 (by simpa using h');omega)
   case round=>
    clear hB1 hO1 hB0;obtain ⟨k,hk,⟨A',rfl,hA'⟩,⟨fill,q,⟨blk,hB,hl,hM,hf,ht⟩,hz⟩,hO⟩:=hrel;obtain ⟨m,hm⟩:∃ m,part.length - k=m:=⟨_,rfl⟩;obtain ⟨d,hd⟩:∃ d,c - k=d:=⟨_,rfl⟩;rw [hm,hd]
    have hmd:m≤d:=by omega
    by_cases hlt:k < part.length
    ·obtain ⟨rfl,hgas,hgah,hcell⟩:=Hga.out o9;obtain rfl:=hA' hlt;have hM':(M ++ part.take k).length=64 * q + fill:=hM
     have hMle:(M ++ part.take k).length≤4611686018427387904:=by simp;omega
     have hst:=Bl.stq_words (n:=nk) (M:=M ++ part.take k) hnk q;have c73:wr.cell? ⟨gh,73,none⟩=some (.int .i64 (fill:Int)):=hB.cellv (Zi hst.1 hl 0)
     have hm0:0 < m:=by omega
     have Hm:=Jm hm;have Hd:=Jm hd;have Hc:=Jm hcell;have HM:=Jm hM';have Ht:=Jm ht;have Hl:=Jm hl
     have hq:64 * q + fill≤4611686018427387904:=by omega
     clear hm hd hcell hM hM' ht hl hA' hMle
     go_upto_if 29 with (fail)
     go_cut [] (fun wx=>∃ fill q,HSx wx gh nk (M ++ part.take k) (written + part.length) fill q∧fill < 64∧Only [gh] w0 wx)
     case first=>
      by_cases h64:fill=64
      ·have hb64:((fill:Int) == 64)=true:=JT.2 o9;obtain ⟨t,Htq⟩:∃ t,Hid (t=64 * q):=⟨_,rfl⟩
       have htl:t + 64≤4611686018427387904:=by rw [Htq.out];omega
       rw [← Htq.out] at hB;have c74:wr.cell? ⟨gh,74,none⟩=some (.int .u64 (t:Int)):=hB.cellv (Zi hst.1 Hl.out 1);have f74:=hB.frozen 74
       go_wp2
       have hB2:=hB.set 74 (.int .u64<|(t:Int) + 64);rw [KI hst.1 Hl.out] at hB2;have hO2:=hO.setCell (p:=⟨gh,74,none⟩) (.inl s9) (.int .u64<|(t:Int) + 64);clear c74 f74 c73
       revert hB2 hO2
       generalize World.setCell _ _ _=W2
       intro hB2 hO2;have c74:W2.cell? ⟨gh,74,none⟩=some (.int .u64<|(t:Int) + 64):=hB2.cellv (Zi hst.1 Hl.out 1)
       go_still_tail 9,k9
       go_wp2_with (go_at_call 188;refine (zdm _ gh gh 9 _ _ blk blk _ _ _ _ (t + 64) o9 false hst Hl.out hB2.drew (hgl.keep hO2 (by simp;omega) (by simp;omega)).drew hg2 o9 (fun j hj=>hB2.cellv<|zaA hst.1 Hl.out hj) hB2.lt).mono ?_;rintro e W3 ⟨rfl,hB3,hO3⟩;have f73:=hB3.frozen 73;have c73:W3.cell? ⟨gh,73,none⟩=some (.int .i64 (fill:Int)):=hB3.cellv<|Zi (Bl.comp_words hst).1 Hl.out 0)
       go_meet
       have hB4:=hB3.set 73 (.int .i64 ((0:Nat):Int));rw [Kg (Bl.comp_words hst).1 Hl.out] at hB4;refine ⟨0,q + 1,⟨blk,?_,Hl.out,?_,by omega,?_⟩,by omega,(hO2.trans'<|Only.undrew (w:=W2) hO3).setCell (p:=⟨gh,73,none⟩) (.inl s9) _⟩
       ·have e1:Bl.stq nk (M ++ part.take k) (q + 1)=Bl.comp (Bl.stq nk (M ++ part.take k) q) blk (t + 64) false:=by
         simp only [Bl.stq]
         have:blk=(M ++ part.take k).drop (64 * q):=by rw [← Ht.out,h64,Ji (by rw [Hl.out];exact Js _)]
         rw [← this,Htq.out];congr 1
        have e2:((64 * (q + 1):Nat):Int)=(t:Int) + 64:=by rw [Htq.out];omega
        rw [e1,e2];exact hB4
       ·rw [HM.out,h64];omega
       ·rw [XD,JZ (by rw [HM.out];omega)]
      ·have hb64:((fill:Int) == 64)=false:=Xb.2 o9
       go_wp2
       go_meet
       exact ⟨fill,q,⟨blk,hB,Hl.out,HM.out,hf,Ht.out⟩,by omega,hO⟩
     case rest=>
      clear hB hf hst c73 hq hO HM Ht Hl hz hcp hgps HA;obtain ⟨fill,q,⟨blk,hB,hl,hM,hf,ht⟩,hf64,hO⟩:=hcut;have hst:=Bl.stq_words (n:=nk) (M:=M ++ part.take k) hnk q;have c73:wc.cell? ⟨gh,73,none⟩=some (.int .i64 (fill:Int)):=hB.cellv (Zi hst.1 hl 0);have HM:=Jm hM;have Ht:=Jm ht;have Hl:=Jm hl
      have hle:(M ++ part.take k).length≤4611686018427387904:=by simp;omega
      have hq:64 * q + fill≤4611686018427387904:=by rw [hM] at hle;exact hle
      clear hle;clear hM ht hl
      by_cases hdir:fill=0∧64 < m
      ·obtain ⟨h0,hm64⟩:=hdir;have hb0:((fill:Int) == 0)=true:=JT.2 o9
       have hm64':(64:Int) < (m:Int):=by omega
       have hd64:¬d=64:=by omega
       obtain ⟨t,Htq⟩:∃ t,Hid (t=64 * q):=⟨_,rfl⟩
       have htl:t + 64≤4611686018427387904 + 64:=by rw [Htq.out];omega
       rw [← Htq.out] at hB;have c74:wc.cell? ⟨gh,74,none⟩=some (.int .u64 (t:Int)):=hB.cellv (Zi hst.1 Hl.out 1);have f74:=hB.frozen 74
       go_wp2
       have hB2:=hB.set 74 (.int .u64<|(t:Int) + 64);rw [KI hst.1 Hl.out] at hB2;have hO2:=hO.setCell (p:=⟨gh,74,none⟩) (.inl s9) (.int .u64<|(t:Int) + 64);clear c74 f74 c73
       revert hB2 hO2
       generalize World.setCell _ _ _=W2
       intro hB2 hO2;have c74:W2.cell? ⟨gh,74,none⟩=some (.int .u64<|(t:Int) + 64):=hB2.cellv (Zi hst.1 Hl.out 1)
       have hd64':(64:Int)≤(d:Int):=by omega
       have hcb:∀ j,j < 64→W2.cell? ⟨ga,oa + k + j,none⟩=some (.int .u8 (((part.drop k).take 64).getD j 0).toNat):=by
        intro j hj
        have hkj:k + j < part.length:=by have:=Hm.out;omega
        rw [J9,hO2.cell (p:=⟨ga,oa + (k + j),none⟩) hgas (by simpa using hgah),Hc.out (k + j) hkj];simp [hj]
       have Hcb:=Jm hcb;clear hcb
       go_still_tail 7,k9
       go_wp2_with (go_at_call 188;refine (zdm _ gh ga (oa + k) _ _ blk ((part.drop k).take 64) _ _ _ _ (t + 64) o9 false hst Hl.out hB2.drew (hgl.keep hO2 (by simp;omega) (by simp;omega)).drew hg2 o9 Hcb.out<|Ju hgas hO2.size).mono ?_;rintro e W3 ⟨rfl,hB3,hO3⟩)
       go_roundw
       case rel=>
        have hm':=Hm.out;have hd':=Hd.out;refine ⟨k + 64,by omega,⟨_,by rw [← hm',← hd',Nat.sub_sub,Nat.sub_sub],fun _=>by rw [J9]⟩,⟨0,q + 1,⟨blk,?_,Hl.out,?_,by omega,?_⟩,fun _ _=>by omega⟩,hO2.trans'<|Only.undrew (w:=W2) hO3⟩
        all_goals rw [List.take_add,← Jq]
        ·have e1:Bl.stq nk (M ++ part.take k ++ (part.drop k).take 64) (q + 1)=Bl.comp (Bl.stq nk (M ++ part.take k) q) ((part.drop k).take 64) (t + 64) false:=by
          simp only [Bl.stq];have hnil:(M ++ part.take k).drop (64 * q)=[]:=JZ (by rw [HM.out];omega);rw [Bl.stq_append (by rw [HM.out];omega),J3 (by rw [HM.out];omega),hnil,J0,Htq.out];congr 1
         have e2:((64 * (q + 1):Nat):Int)=(t:Int) + 64:=by rw [Htq.out];omega
         have e3:((0:Nat):Int)=(fill:Int):=by omega
         rw [e1,e2,e3];exact hB3
        ·rw [Jk,HM.out,JE,JA];omega
        ·rw [XD,JZ];rw [Jk,HM.out,JE,JA];omega
       case measure=>simp only [lenVb];omega
      ·obtain ⟨n,hn⟩:∃ n,Nat.min m (64 - fill)=n:=⟨_,rfl⟩
       have hn1:n≤m:=by rw [← hn];exact Nat.min_le_left _ _
       have hn2:n≤64 - fill:=by rw [← hn];exact Nat.min_le_right _ _
       have hn0:0 < n:=by rw [← hn];exact Nat.lt_min.2 ⟨hm0,by omega⟩
       obtain ⟨xs,Hxs⟩:∃ xs,Hid (xs=(part.drop k).take n):=⟨_,rfl⟩
       have hxl:xs.length=n:=by rw [Hxs.out,JE,JA];have:=Hm.out;omega
       have Hn:=Jm hn;have f73:=hB.frozen 73
       have hcx:∀ j v,(cellsOf xs)[j]? =some v→wc.cell? ((⟨ga,oa + k,none⟩:Addr).add j)=some v:=by
        intro j v hv
        have hj:j < n:=by rw [← hxl];simpa using (Jg.1 hv).1
        have hkj:k + j < part.length:=by have:=Hm.out;omega
        rw [Xg,J9,hO.cell (p:=⟨ga,oa + (k + j),none⟩) hgas (by simpa using hgah),Hc.out (k + j) hkj,← hv,VD o9,Hxs.out];simp [hj]
       have Hcx:=Jm hcx;have hlen:(Zd (Bl.stq nk (M ++ part.take k) q) blk (fill:Int) ((64 * q:Nat):Int) ((written + part.length:Nat):Int)).length=76:=jf hst.1 Hl.out;have Hlen:=Jm hlen
       have hfI:(fill:Int)≤64:=by omega
       have hfne:¬64=fill:=by omega
       clear hn hcx hlen
       rcases (show (((fill:Int) == 0)=true∧(m:Int)≤64)∨((fill:Int) == 0)=false by
        by_cases h0:fill=0
        ·exact .inl ⟨JT.2 o9,by omega⟩
        ·exact .inr<|Xb.2 o9) with ⟨hb0,hm64⟩ | hb0
       all_goals
        go_wp2
        go_still_tail 9,k9
        refine zba I (.tmp 84) (.tmp 85) _ _ I 5 Tryz.underlying37 u8size _ _ _ _ _ _ I I gh (9 + fill) _ _ hB.drew (cellsOf xs) (by rw [ye,hxl];exact Hn.out.symm) (fun _=>⟨I,_,I,Hcx.out⟩) (by rw [Hlen.out,ye,hxl];omega) YT ?_;intro W3 hB3 hO3;rw [jb hst.1 Hl.out o9] at hB3
        have hl3:(splice blk fill xs).length=64:=by rw [KA (by rw [Hl.out];omega),Hl.out]
        rw [ye,hxl];have c73':W3.cell? ⟨gh,73,none⟩=some (.int .i64 (fill:Int)):=hB3.cellv (Zi hst.1 hl3 0);have f73':=hB3.frozen 73;have Hl3:=Jm hl3;have Hxl:=Jm hxl;clear hl3 hxl
        go_wp2
        go_roundw
        case rel=>
         exact ⟨k + n,abs_copy hB3 (hO.trans'<|Only.undrew (w:=wc) hO3) hst.1 Hl.out HM.out Ht.out Hm.out Hd.out Hxs.out Hxl.out hn1 hn2 hn0 hmd hc hk hf64⟩
        case measure=>simp only [lenVb];omega
    ·go_wp2
     obtain rfl:k=part.length:=by omega
     refine ⟨⟨1,by omega,rfl,⟨(fun h=>by cases h),fun _=>⟨⟨fill,q,?_,fun h'=> ?_⟩,hO⟩⟩⟩,by decide⟩
     ·rw [List.take_length] at hB hM ht;exact ⟨blk,hB,hl,hM,hf,ht⟩
     ·rw [List.take_length] at hz;rcases Xk fill with h0 | h0
      ·exact absurd (hz h0 h') (Nat.lt_irrefl _)
      ·exact h0
  ·obtain rfl:k=1:=by omega
   obtain ⟨hS',hO'⟩:=hrel.2 rfl
   go_wp2
   go_end0
   exact ⟨I,hS',hO'⟩
