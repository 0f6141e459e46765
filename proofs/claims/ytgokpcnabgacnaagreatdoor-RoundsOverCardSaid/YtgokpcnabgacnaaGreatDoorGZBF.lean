/- ROUNDS: the reference's New, Same. ROUNDS: the reference's Bids. ROUNDS: the reference's Reveal. -/
import Derived.Test.YtgokpcnabgacnaaGreatDoorGZBE
set_option maxHeartbeats 8000000
set_option maxRecDepth 100000
namespace Go.Proofs.YtgokpcnabgacnaaGreatDoor
open Go.RowKit
namespace Sx
section
instance:DecidableEq Rnd.Opn:=fun a b=>if h:a.acc=b.acc∧a.ser=b.ser∧a.bid=b.bid∧a.bad=b.bad then .isTrue (by cases a;cases b;simp only [Rnd.Opn.mk.injEq];exact h) else .isFalse fun e=>h (by rw [e];exact ⟨rfl,rfl,rfl,rfl⟩)
theorem At.mono {L:LN} {w:World} {A:Option Addr} {ds ds':List D} (h:At L w A ds) (hl:LeAll ds ds') (hn:ds.length=ds'.length):At L w A ds':=fun h0=>by
 obtain ⟨g,o,e,hg,hm,cs,ha,hc⟩:=h o9;exact ⟨g,o,e,hg,hm,cs,hl.all ha,hc⟩
theorem le_rwA {n:Nat} {ds ds':List D} (hl:LeAll ds ds') (hn:ds.length=ds'.length):Le (rwD n ds) (rwD n ds'):=fun _ _ _ ⟨A,c,h,hc,ha⟩=>⟨A,c,h,hc,At.mono ha hl hn⟩
theorem zdT:∀ n:Nat,LeAll ((List.replicate n ()).flatMap zhb) ((List.replicate n ([]:LB)).flatMap Z8)
 | 0=>trivial
 | n + 1=>by
  rw [Xc,Xc,J6,J6];exact ⟨zdX,zdT n⟩
theorem le_noKeys (n:Nat):Le (lsD zhb<|List.replicate n ()) (lsD Z8<|List.replicate n []):=by
 unfold lsD;rw [List.length_replicate,List.length_replicate];refine le_rwA (zdT n) ?_;simp [List.length_flatMap,zhb,Z8]
theorem bldRf3 {bk:List Acc.T} {ws:List Rnd.Win} {A:Option Addr} {n c:Nat}:Bld Tryz.prog 42 [0,1,3] [Zo [lsD Yz bk],lsD YB ws,isD<|.slice A n c] [lsD Yz bk,lsD YB ws,isD<|.slice none 0 0,isD<|.slice A n c,iD 0,isD<|.slice none 0 0]:=fun L w vs hv=>by
 obtain ⟨u,v,z,rfl,hu,hv',rfl⟩:=all3 hv;obtain ⟨cs,rfl,hc⟩:=hu;obtain ⟨q,rfl,hq⟩:=zeG hc;have hq':=hq;have hv2:=hv';obtain ⟨A1,c1,rfl,-⟩:=hq;obtain ⟨A2,c2,rfl,-⟩:=hv';exact ⟨[.slice A1 _ c1,.slice A2 _ c2,.slice none 0 0,.slice A n c,.int .i64 0,.slice none 0 0],⟨hq',hv2,V,V,V,V,t9⟩,fun w'=>by kernel_rfl⟩
def zds (ws:List Rnd.Win):Int:=if Rnd.ok ws then 0 else 2
def qW (bk:List Acc.T) (ws:List Rnd.Win):Rnd.S:=if Rnd.ok ws then Rnd.start bk ws else ⟨[],[],[],[],0,[]⟩
theorem zgq {α:Type} {l m:List α} {i:Nat} (hl:l.length=m.length) (hi:l.length≤i) (h:∀ j,j < i→l[j]? =m[j]?):l=m:=by
 apply Xh;intro j
 by_cases hj:j < i
 ·exact h j hj
 ·rw [JM o9,JM o9]
theorem jQ (bk:List Acc.T) (ws:List Rnd.Win) (hl:ws.length≤1000000):ConR Tryz.prog 13 [] [Zo [lsD Yz bk],lsD YB ws] (fun _:Unit=>[]) (fun _:Unit=>Yk [Zo<|rfD<|qW bk ws,iD<|zds ws]):=by
 refine yg Tryz.func13 k9 V k9 fun base w0=>(zp (SWl.e2 (S:=[]) (yv V V) fun g2=>(SWl.e2 (S:=[]) (zM (zs:=[.slice none 0 0,.slice none 0 0,.slice none 0 0,.slice none 0 0,.int .i64 0,.slice none 0 0]) k9 V) fun g4=>(zf V<|ze<|zk<|zp<|zd V<|zt (S:=[]) (zD [] (zfE ws hl) V ⟨(zo<|zb _),t9⟩ V)<|za V (yS V)<|ze<|zJ V (fun hb8=> ?_) (fun hb8=> ?_)))))
 ·have h8:¬Rnd.ok ws:=(by have h:(!decide (Rnd.ok ws))=true:=hb8;simpa using h);refine zp (za V (yq V V bldRf0)<|zt (S:=[_]) (zw 1 V V V k9 V<|m9 V)<|zf V<|ze<|zQ (fn:=Tryz.f13) (()) [] (fun _ _ h=>h) (Rs.le (ym V (zS 1 V V k9)<|zj V) ?_) d9 t9);exact yn ⟨by rw [qW,Jb h8];exact ZM ⟨Yb,Yb,Yb,Yb,zb _,Yb,trivial⟩,zF (by rw [zds,Jb h8]),trivial⟩
 ·have h8:Rnd.ok ws:=(by have h:(!decide (Rnd.ok ws))=false:=hb8;simpa using h)
  refine zr (zn<|zk<|yh (g4 :: []) (rr [0,1,2,3]<|.n 4 (.r 5<|.e 6 (.r 7 .fin) .no) .no) k9 k9 (fun d _ _ _ _ h=>by cases d <;> exact h)<|zl V V (zA 0 1 V V k9 V<|yK 1 V d9 zh)<|zL V V<|zL V V<|zl V V (yx (e:=26) V k9)<|ZP V (zgJ (e:=24) (n:=ws.length) zhb () 24 V V k9 k9 V V V V o9 d9 V) ?_ yf)
  rintro _ ⟨g14,rfl⟩;refine zl V V ((yq V V bldRf3)) (yy V (zw 1 V V V k9 V mC)<|Zh V V<|yI<|zO (σ':=zN [(4,_),(5,_)] [.c g4 [lsD Yz bk,lsD YB ws,isD<|.slice none 0 0,isD<|.slice (some ⟨g14,0,none⟩) (List.replicate ws.length ()).length ws.length,iD 0,isD<|.slice none 0 0],.r [g14]<|yP 24 1 zhb (some ⟨g14,0,none⟩) ws.length<|List.replicate ws.length ()]) (⟨⟨_,V,(sT V)⟩,[1,2],by decide,⟨⟨_,rfl,⟨zb _,zb _,zb _,zF s9,zb _,zb _,trivial⟩⟩,⟨lR rfl,trivial⟩⟩⟩)<|ql 0 3 1 V V V<|zQ (fn:=Tryz.f13) (()) [] (fun _ _ h=>h) (Rs.le (ym V (zS 0 V V k9)<|zj V) ?_) d9 t9);exact yn ⟨by rw [qW,Jh h8];exact ZM ⟨zb _,zb _,Yb,le_noKeys _,zb _,Yb,trivial⟩,zF (by rw [zds,Jh h8]),trivial⟩
theorem jP (l m:List Rnd.Opn) (hl:l.length≤1000000):ConN Tryz.prog 44 [lsD zap l,lsD zap m] (yj<|decide (l=m)):=by
 refine yO Tryz.func44 k9 V k9 fun base w0=>(zp<|zf V<|ze<|zk<|zp<|zd V<|za V (yx (e:=110) V k9)<|zd V<|za V (yx (e:=110) V k9)<|za V (ye V V)<|ze<|zJ V (fun hb10=> ?_) (fun hb10=> ?_))
 ·have h10:¬l.length=m.length:=by (have h:=hb10;simp at h;omega)
  refine zp (zf V<|ze<|zK (fn:=Tryz.f44) (fun _ _ h=>h)<|Rs.le (Rs.one V<|zj V) ?_);exact zZ (by symm;apply Jd;intro h;exact h10 (by rw [h]))
 ·have h10:l.length=m.length:=by (have h:=hb10;simp at h;omega)
  refine zr (zn<|zk<|zp<|zf V<|ze<|zX<|Zw (ι:={i:Nat // i≤l.length∧∀ j,j < i→l[j]? =m[j]?}) (fun i=>zN [(0,lsD zap l),(1,lsD zap m),(5,iD (i.1:Int))] []) (fun i=>l.length - i.1) (⟨0,JC _,fun j hj=>absurd hj<|Nat.not_lt_zero _⟩) ?_ ?_)
  ·exact (sB [] V V)
  ·rintro ⟨i,hi,hq⟩ K0 hK0;dsimp only at hi hq ⊢;refine zk (zp<|zd V<|zd V<|za V (yx (e:=110) V k9)<|za V (yF V V)<|ze<|zJ V (fun hb14=> ?_) (fun hb14=> ?_))
   ·have h14:(i:Int) < (l.length:Int):=oT hb14;refine zr (zn<|zk<|zX<|zk ?_);obtain ⟨x,hx⟩:∃ x,l[i]? =some x:=⟨_,Je o9⟩;obtain ⟨y,hy⟩:∃ y,m[i]? =some y:=⟨_,Je o9⟩
    refine yh [] (rr [0,1,2,3,4,5,6,7,8,9,10,11,12,13,14,15,16,17,18,19,20,21,22,23,24,25,26,27,28,29,30,31,32,33,34,35,36,37,38,39,40,41,42,43,44,45,46,47,48,49,50,51] .fin) k9 k9 (fun d _ _ _ _ h=>by cases d <;> exact h) (zL V V<|zL V V<|zl V V (yp (e:=110) 4 V V k9 k9 o9 (by simpa using hx))<|zl V V (yb (n:=0) V k9 (show 0 < 4 by decide))<|zl V V (ya V V k9 s9)<|zL V V<|zL V V<|zl V V (yp (e:=110) 4 V V k9 k9 o9 (by simpa using hy))<|zl V V (yb (n:=0) V k9 (show 0 < 4 by decide))<|zl V V (ya V V k9 s9)<|zl V V (zcI (p:=x.acc) (q:=y.acc) V V)<|zL V V<|YI 28 V (fun hb28=> ?_) (fun hb28=> ?_))
    ·have h28:¬x.acc=y.acc:=by simpa using hb28
     refine zH V V V hb28 V V (zH V V V hb28 V V<|zH V V V hb28 V V<|zH V V V hb28 V V<|zH V V V hb28 V V<|zH V V V hb28 V V<|zH V V V hb28 V V<|zH V V V hb28 V V<|zH V V V hb28 V V<|zH V V V hb28 V V<|zH V V V hb28 V V<|zl V V (zB V hb28 V)<|zL V V<|zH V V V V V V<|zH V V V V V V<|zH V V V V V V<|zH V V V V V V<|zH V V V V V V<|zH V V V V V V<|zH V V V V V V<|zH V V V V V V<|zH V V V V V V<|zH V V V V V V<|zH V V V V V V<|zH V V V V V V<|zH V V V V V V<|zl V V (zB V V V)<|zL V V<|zH V V V V V V<|zH V V V V V V<|zH V V V V V V<|zH V V V V V V<|zH V V V V V V<|zH V V V V V V<|zH V V V V V V<|zH V V V V V V<|zH V V V V V V<|zH V V V V V V<|zH V V V V V V<|zl V V (zB V V V) ?_);refine yI (zW V V<|zp<|zf V<|ze<|zK (fn:=Tryz.f44) (fun _ _ h=>h)<|Rs.le (Rs.one V<|zj V) ?_);exact zZ (by symm;apply Jd;intro h;rw [h,hy] at hx;obtain rfl:=JN hx;exact h28 rfl)
    ·have h28:x.acc=y.acc:=by simpa using hb28
     refine zG V V V hb28 V V (zI V) (zG V V V hb28 V V (zI V)<|zG V V V hb28 V V (yp (e:=110) 4 V V k9 k9 o9 (by simpa using hx))<|zG V V V hb28 V V (yb (n:=1) V k9 (show 1 < 4 by decide))<|zG V V V hb28 V V (ya V V k9 s9)<|zG V V V hb28 V V (zI V)<|zG V V V hb28 V V (zI V)<|zG V V V hb28 V V (yp (e:=110) 4 V V k9 k9 o9 (by simpa using hy))<|zG V V V hb28 V V (yb (n:=1) V k9 (show 1 < 4 by decide))<|zG V V V hb28 V V (ya V V k9 s9)<|zG V V V hb28 V V (ye V V)<|zl V V (zv V hb28 V)<|zL V V<|YI 41 V (fun hb41=> ?_) (fun hb41=> ?_))
     ·have h41:¬x.ser=y.ser:=by simpa using hb41
      refine zH V V V hb41 V V (zH V V V hb41 V V<|zH V V V hb41 V V<|zH V V V hb41 V V<|zH V V V hb41 V V<|zH V V V hb41 V V<|zH V V V hb41 V V<|zH V V V hb41 V V<|zH V V V hb41 V V<|zH V V V hb41 V V<|zH V V V hb41 V V<|zH V V V hb41 V V<|zH V V V hb41 V V<|zl V V (zB V hb41 V)<|zL V V<|zH V V V V V V<|zH V V V V V V<|zH V V V V V V<|zH V V V V V V<|zH V V V V V V<|zH V V V V V V<|zH V V V V V V<|zH V V V V V V<|zH V V V V V V<|zH V V V V V V<|zH V V V V V V<|zl V V (zB V V V)<|yI<|zW V V<|zp<|zf V<|ze<|zK (fn:=Tryz.f44) (fun _ _ h=>h)<|Rs.le (Rs.one V<|zj V) ?_);exact zZ (by symm;apply Jd;intro h;rw [h,hy] at hx;obtain rfl:=JN hx;exact h41 rfl)
     ·have h41:x.ser=y.ser:=by simpa using hb41
      refine zG V V V hb41 V V (zI V) (zG V V V hb41 V V (zI V)<|zG V V V hb41 V V (yp (e:=110) 4 V V k9 k9 o9 (by simpa using hx))<|zG V V V hb41 V V (yb (n:=2) V k9 (show 2 < 4 by decide))<|zG V V V hb41 V V (ya V V k9 s9)<|zG V V V hb41 V V (qP (e:=5) V k9 k9 k9 s9)<|zG V V V hb41 V V (zI V)<|zG V V V hb41 V V (zI V)<|zG V V V hb41 V V (yp (e:=110) 4 V V k9 k9 o9 (by simpa using hy))<|zG V V V hb41 V V (yb (n:=2) V k9 (show 2 < 4 by decide))<|zG V V V hb41 V V (ya V V k9 s9)<|zG V V V hb41 V V (qP (e:=5) V k9 k9 k9 s9)<|zG V V V hb41 V V (zcI (p:=x.bid) (q:=y.bid) V V)<|zl V V (zv V hb41 V)<|zL V V<|YI 56 V (fun hb56=> ?_) (fun hb56=> ?_))
      ·have h56:¬x.bid=y.bid:=by simpa using hb56
       refine zH V V V hb56 V V (zH V V V hb56 V V<|zH V V V hb56 V V<|zH V V V hb56 V V<|zH V V V hb56 V V<|zH V V V hb56 V V<|zH V V V hb56 V V<|zH V V V hb56 V V<|zH V V V hb56 V V<|zH V V V hb56 V V<|zH V V V hb56 V V<|zl V V (zB V hb56 V)<|yI<|zW V V<|zp<|zf V<|ze<|zK (fn:=Tryz.f44) (fun _ _ h=>h)<|Rs.le (Rs.one V<|zj V) ?_);exact zZ (by symm;apply Jd;intro h;rw [h,hy] at hx;obtain rfl:=JN hx;exact h56 rfl)
      ·have h56:x.bid=y.bid:=by simpa using hb56
       refine zG V V V hb56 V V (zI V) (zG V V V hb56 V V (zI V)<|zG V V V hb56 V V (yp (e:=110) 4 V V k9 k9 o9 (by simpa using hx))<|zG V V V hb56 V V (yb (n:=3) V k9 (show 3 < 4 by decide))<|zG V V V hb56 V V (ya V V k9 s9)<|zG V V V hb56 V V (zI V)<|zG V V V hb56 V V (zI V)<|zG V V V hb56 V V (yp (e:=110) 4 V V k9 k9 o9 (by simpa using hy))<|zG V V V hb56 V V (yb (n:=3) V k9 (show 3 < 4 by decide))<|zG V V V hb56 V V (ya V V k9 s9)<|zG V V V hb56 V V (Rd.neb k9 V V)<|zl V V (zv V hb56 V)<|yI<|zJ V (fun hb68=> ?_) (fun hb68=> ?_))
       ·have h68:¬x.bad=y.bad:=by simpa using hb68
        refine zp (zf V<|ze<|zK (fn:=Tryz.f44) (fun _ _ h=>h)<|Rs.le (Rs.one V<|zj V) ?_);exact zZ (by symm;apply Jd;intro h;rw [h,hy] at hx;obtain rfl:=JN hx;exact h68 rfl)
       ·have h68:x.bad=y.bad:=by simpa using hb68
        refine zr (yc<|zn<|zi<|zd V<|za V (yC V V ⟨by omega,by omega⟩)<|zf V<|zP ?_)
        have hxy:x=y:=by (cases x;cases y;simp only at h28 h41 h56 h68;simp only [Rnd.Opn.mk.injEq];exact ⟨h28,h41,h56,h68⟩)
        exact fun a w hh=>hK0 (⟨i + 1,by omega,fun j hj=>by (rcases Nat.lt_succ_iff_lt_or_eq.1 hj with h | h;exact hq j h;(rw [h,hx,hy,hxy]))⟩) (by dsimp only;omega) a w (hh.sub<|⟨⟨_,V,⟨lq V,⟨lq V,⟨⟨_,V,zF s9⟩,t9⟩⟩⟩⟩,[],by decide,trivial⟩)
   ·have h14:¬(i:Int) < (l.length:Int):=oF hb14;refine yZ ?_
    repeat (first | refine Ze ?_ | refine Zf d9 ?_)
    refine Zn (zn<|zp<|zf V<|ze<|zK (fn:=Tryz.f44) (fun _ _ h=>h)<|Rs.le (Rs.one V<|zj V) ?_);exact zZ (by symm;apply Jo;exact zgq h10 o9 hq)
end
section
end
section
theorem WY (s:Rnd.S) (r:Int) (key:LB) (now:Int) (hg:Rnd.Good s) (hkey:key.length≤100000):ConR Tryz.prog 31 [] [Zo [lsD Yz s.bk,lsD YB s.ws,lsD yX s.es,lsD Z8 s.ks,iD s.ck,lsD encE s.en],iD r,bD key,iD now] (fun _:Unit=>[]) (fun _:Unit=>Yk [Zo<|rfD<|Rnd.revS s r key now,iD<|Rnd.revE s r key now]):=by
 have hkl:=hg.kl;have henl:=hg.len;have hwl:=hg.win.1.2;refine yg Tryz.func31 k9 V k9 fun base w0=>(zp (SWl.e2 (S:=[]) (yv V V) fun g4=>(SWl.e2 (S:=[]) (zM (zs:=[.slice none 0 0,.slice none 0 0,.slice none 0 0,.slice none 0 0,.int .i64 0,.slice none 0 0]) k9 V) fun g8=>(zf V<|ze<|zk<|zp<|zd V<|za V (ZC (e:=5) V k9)<|za V (ye V V)<|zd V<|zU 17 V (fun hb17=> ?_) (fun hb17=> ?_)))))
 ·have h17:¬key.length=32:=by (simp at hb17;omega)
  refine zq hb17 (zq hb17<|za V (zB V hb17 V)<|zd V<|zq V<|zq V<|za V (zB V V V)<|ze<|zW V V<|zp<|za V (zA 0 6 V V k9 V zh)<|zt (S:=[_]) (zw 1 V V V k9 V<|m9 V)<|zf V<|ze<|zQ (fn:=Tryz.f31) (()) [] (fun _ _ h=>h) (Rs.le (ym V (zS 1 V V k9)<|zj V) ?_) d9 t9)
  have hE:Rnd.revE s r key now=2:=by (unfold Rnd.revE;rw [if_pos (fun h=>by have h1:=h.1;have h2:=h.2.1;have h3:=h.2.2;omega)])
  exact yn ⟨by rw [show Rnd.revS s r key now=s from if_neg (by rw [hE];decide)];exact zb _,zF (by rw [hE]),trivial⟩
 ·have h17:key.length=32:=by (simp at hb17;omega)
  refine zy hb17 (zI V) (zy hb17 (yF V V)<|za V (zv V hb17 V)<|zd V<|zU 21 V (fun hb21=> ?_) (fun hb21=> ?_))
  ·have h21:now < 0:=oT hb21;refine zq hb21 (zq hb21<|za V (zB V hb21 V)<|ze<|zW V V<|zp<|za V (zA 0 6 V V k9 V zh)<|zt (S:=[_]) (zw 1 V V V k9 V<|m9 V)<|zf V<|ze<|zQ (fn:=Tryz.f31) (()) [] (fun _ _ h=>h) (Rs.le (ym V (zS 1 V V k9)<|zj V) ?_) d9 t9)
   have hE:Rnd.revE s r key now=2:=by (unfold Rnd.revE;rw [if_pos (fun h=>by have h1:=h.1;have h2:=h.2.1;have h3:=h.2.2;omega)])
   exact yn ⟨by rw [show Rnd.revS s r key now=s from if_neg (by rw [hE];decide)];exact zb _,zF (by rw [hE]),trivial⟩
  ·have h21:¬now < 0:=oF hb21;refine zy hb21 (zI V) (zy hb21 (Zq V V)<|za V (zv V hb21 V)<|ze<|zJ V (fun hb24=> ?_) (fun hb24=> ?_))
   ·have h24:now > 1099511627776:=oT hb24;refine zp (za V (zA 0 6 V V k9 V zh)<|zt (S:=[_]) (zw 1 V V V k9 V<|m9 V)<|zf V<|ze<|zQ (fn:=Tryz.f31) (()) [] (fun _ _ h=>h) (Rs.le (ym V (zS 1 V V k9)<|zj V) ?_) d9 t9)
    have hE:Rnd.revE s r key now=2:=by (unfold Rnd.revE;rw [if_pos (fun h=>by have h1:=h.1;have h2:=h.2.1;have h3:=h.2.2;omega)])
    exact yn ⟨by rw [show Rnd.revS s r key now=s from if_neg (by rw [hE];decide)];exact zb _,zF (by rw [hE]),trivial⟩
   ·have h24:¬now > 1099511627776:=oF hb24;refine zr (zn<|zk<|zk ?_);have ht:key.length=32∧Rnd.time now:=⟨h17,by omega,by omega⟩;refine zi (zd V<|za V (zc (n:=4) V k9)<|za V (zg 0 V V V k9 zh)<|za V (yF V V)<|zd V<|zU 30 V (fun hb30=> ?_) (fun hb30=> ?_))
    ·have h30:now < s.ck:=oT hb30;refine zq hb30 (zq hb30<|za V (zB V hb30 V)<|zd V<|zq V<|zq V<|zq V<|zq V<|zq V<|za V (zB V V V)<|ze<|zW V V<|zp<|za V (zA 0 6 V V k9 V zh)<|zt (S:=[_]) (zw 1 V V V k9 V<|m9 V)<|zf V<|ze<|zQ (fn:=Tryz.f31) (()) [] (fun _ _ h=>h) (Rs.le (ym V (zS 1 V V k9)<|zj V) ?_) d9 t9)
     have hE:Rnd.revE s r key now=3:=by (unfold Rnd.revE;rw [if_neg<|not_not_intro ht,if_pos (fun h=>by have h1:=h.1;have h2:=h.2.1;have h3:=h.2.2;omega)])
     exact yn ⟨by rw [show Rnd.revS s r key now=s from if_neg (by rw [hE];decide)];exact zb _,zF (by rw [hE]),trivial⟩
    ·have h30:¬now < s.ck:=oF hb30;refine zy hb30 (zI V) (zy hb30 (yF V V)<|za V (zv V hb30 V)<|zd V<|zU 34 V (fun hb34=> ?_) (fun hb34=> ?_))
     ·have h34:r < 0:=oT hb34;refine zq hb34 (zq hb34<|zq hb34<|zq hb34<|zq hb34<|za V (zB V hb34 V)<|ze<|zW V V<|zp<|za V (zA 0 6 V V k9 V zh)<|zt (S:=[_]) (zw 1 V V V k9 V<|m9 V)<|zf V<|ze<|zQ (fn:=Tryz.f31) (()) [] (fun _ _ h=>h) (Rs.le (ym V (zS 1 V V k9)<|zj V) ?_) d9 t9)
      have hE:Rnd.revE s r key now=3:=by (unfold Rnd.revE;rw [if_neg<|not_not_intro ht,if_pos (fun h=>by have h1:=h.1;have h2:=h.2.1;have h3:=h.2.2;omega)])
      exact yn ⟨by rw [show Rnd.revS s r key now=s from if_neg (by rw [hE];decide)];exact zb _,zF (by rw [hE]),trivial⟩
     ·have h34:¬r < 0:=oF hb34;refine zy hb34 (zI V) (zy hb34 (zc (n:=1) V k9)<|zy hb34 (zg 0 V V V k9 zh)<|zy hb34 (yx (e:=26) V k9)<|zy hb34 (ZB V V)<|za V (zv V hb34 V)<|ze<|zJ V (fun hb40=> ?_) (fun hb40=> ?_))
      ·have h40:r≥(s.ws.length:Int):=oT hb40;refine zp (za V (zA 0 6 V V k9 V zh)<|zt (S:=[_]) (zw 1 V V V k9 V<|m9 V)<|zf V<|ze<|zQ (fn:=Tryz.f31) (()) [] (fun _ _ h=>h) (Rs.le (ym V (zS 1 V V k9)<|zj V) ?_) d9 t9)
       have hE:Rnd.revE s r key now=3:=by (unfold Rnd.revE;rw [if_neg<|not_not_intro ht,if_pos (fun h=>by have h1:=h.1;have h2:=h.2.1;have h3:=h.2.2;omega)])
       exact yn ⟨by rw [show Rnd.revS s r key now=s from if_neg (by rw [hE];decide)];exact zb _,zF (by rw [hE]),trivial⟩
      ·have h40:¬r≥(s.ws.length:Int):=oF hb40;refine zr (zn<|zk<|zk ?_);have hh:s.ck≤now∧Rnd.has s r:=⟨by omega,by omega,by omega⟩;obtain ⟨k,hk⟩:∃ k,s.ks[r.toNat]? =some k:=⟨_,List.getElem?_eq_getElem o9⟩;obtain ⟨w,hw⟩:∃ w,s.ws[r.toNat]? =some w:=⟨_,List.getElem?_eq_getElem o9⟩;have hkk:=Rnd.kyAt_some hk;have hwa:=Rnd.winAt_some hw;refine zi (zd V<|za V (zc (n:=1) V k9)<|za V (zg 0 V V V k9 zh)<|zd V<|za V (yp (e:=26) 4 V V k9 k9 o9 (by simpa using hw))<|za V (yb (n:=2) V k9 (show 2 < 4 by decide))<|za V (ya V V k9 s9)<|za V (yF V V)<|zd V<|zU 50 V (fun hb50=> ?_) (fun hb50=> ?_))
       ·have h50:now < w.rv:=oT hb50;refine zq hb50 (zq hb50<|zq hb50<|zq hb50<|zq hb50<|zq hb50<|zq hb50<|za V (zB V hb50 V)<|ze<|zW V V<|zp<|za V (zA 0 6 V V k9 V zh)<|zt (S:=[_]) (zw 1 V V V k9 V<|m9 V)<|zf V<|ze<|zQ (fn:=Tryz.f31) (()) [] (fun _ _ h=>h) (Rs.le (ym V (zS 1 V V k9)<|zj V) ?_) d9 t9)
        have hE:Rnd.revE s r key now=8:=by (unfold Rnd.revE;rw [if_neg<|not_not_intro ht,if_neg<|not_not_intro hh,if_pos (fun h=>by have h1:=h.1;rw [hwa] at h1;omega)])
        exact yn ⟨by rw [show Rnd.revS s r key now=s from if_neg (by rw [hE];decide)];exact zb _,zF (by rw [hE]),trivial⟩
       ·have h50:¬now < w.rv:=oF hb50;refine zy hb50 (zc (n:=3) V k9) (zy hb50 (zg 0 V V V k9 zh)<|zy hb50 (zI V)<|zy hb50 (yp (e:=24) 1 V V k9 k9 o9 (by simpa using hk))<|zy hb50 (ya V V k9 s9)<|zy hb50 (ZC (e:=5) V k9)<|zy hb50 (Zq V V)<|za V (zv V hb50 V)<|ze<|zJ V (fun hb58=> ?_) (fun hb58=> ?_))
        ·have h58:k≠[]:=by (intro h;subst h;simp at hb58)
         refine zp (za V (zA 0 6 V V k9 V zh)<|zt (S:=[_]) (zw 1 V V V k9 V<|m9 V)<|zf V<|ze<|zQ (fn:=Tryz.f31) (()) [] (fun _ _ h=>h) (Rs.le (ym V (zS 1 V V k9)<|zj V) ?_) d9 t9)
         have hE:Rnd.revE s r key now=8:=by (unfold Rnd.revE;rw [if_neg<|not_not_intro ht,if_neg<|not_not_intro hh,if_pos (fun h=>h58<|hkk.symm.trans h.2)])
         exact yn ⟨by rw [show Rnd.revS s r key now=s from if_neg (by rw [hE];decide)];exact zb _,zF (by rw [hE]),trivial⟩
        ·have h58:k=[]:=by (cases k;rfl;simp at hb58)
         refine zr (zn<|zk ?_);have hlate:(Rnd.winAt s.ws r.toNat).rv≤now∧Rnd.kyAt s.ks r.toNat=[]:=⟨by rw [hwa];omega,hkk.trans h58⟩;refine zi (zd V<|zt (S:=[]) (zY (zbn key hkey) V ⟨zb _,t9⟩ V)<|zd V<|za V (zm V V)<|za V (zm V V)<|zf V<|zf V<|ze<|zk<|zp<|zd V<|za V (zc (n:=1) V k9)<|za V (zg 0 V V V k9 zh)<|zd V<|za V (yp (e:=26) 4 V V k9 k9 o9 (by simpa using hw))<|za V (yb (n:=3) V k9 (show 3 < 4 by decide))<|za V (ya V V k9 s9)<|za V (qP (e:=5) V k9 k9 k9 s9)<|za V (zcI (p:=Env.comB key) (q:=w.cm) V V)<|ze<|zJ V (fun hb73=> ?_) (fun hb73=> ?_))
         ·have h73:¬Env.comB key=w.cm:=by simpa using hb73
          refine zp (za V (zA 0 6 V V k9 V zh)<|zt (S:=[_]) (zw 1 V V V k9 V<|m9 V)<|zf V<|ze<|zQ (fn:=Tryz.f31) (()) [] (fun _ _ h=>h) (Rs.le (ym V (zS 1 V V k9)<|zj V) ?_) d9 t9)
          have hE:Rnd.revE s r key now=10:=by (unfold Rnd.revE;rw [if_neg<|not_not_intro ht,if_neg<|not_not_intro hh,if_neg<|not_not_intro hlate,if_pos (by rw [hwa];exact h73)])
          exact yn ⟨by rw [show Rnd.revS s r key now=s from if_neg (by rw [hE];decide)];exact zb _,zF (by rw [hE]),trivial⟩
         ·have h73:Env.comB key=w.cm:=by simpa using hb73
          refine zr (zn<|zk<|zk ?_)
          have hcm:Env.comB key=(Rnd.winAt s.ws r.toNat).cm:=by rw [hwa];exact h73
          refine zi (za V (zc (n:=5) V k9)<|za V (zg 0 V V V k9 zh)<|za V (yx (e:=85) V k9)<|za V (ZB V V)<|ze<|zJ V (fun hb78=> ?_) (fun hb78=> ?_))
          ·have h78:(s.en.length:Int)≥4096:=oT hb78;refine zp (za V (zA 0 6 V V k9 V zh)<|zt (S:=[_]) (zw 1 V V V k9 V<|m9 V)<|zf V<|ze<|zQ (fn:=Tryz.f31) (()) [] (fun _ _ h=>h) (Rs.le (ym V (zS 1 V V k9)<|zj V) ?_) d9 t9)
           have hE:Rnd.revE s r key now=7:=by (unfold Rnd.revE;rw [if_neg<|not_not_intro ht,if_neg<|not_not_intro hh,if_neg<|not_not_intro hlate,if_neg<|not_not_intro hcm,if_pos o9])
           exact yn ⟨by rw [show Rnd.revS s r key now=s from if_neg (by rw [hE];decide)];exact zb _,zF (by rw [hE]),trivial⟩
          ·have h78:¬(s.en.length:Int)≥4096:=oF hb78;refine zr (zn<|zk<|zO (σ':=zN [(1,iD r),(2,bD key),(3,iD now),(4,pA g4),(8,pA g8)] [.c g4 [lsD Yz s.bk,lsD YB s.ws,lsD yX s.es,lsD Z8 s.ks,iD s.ck,lsD encE s.en],.c g8 [isD<|.slice none 0 0,isD<|.slice none 0 0,isD<|.slice none 0 0,isD<|.slice none 0 0,iD 0,isD<|.slice none 0 0]]) (sB [0,1] V V)<|zi<|zd V<|za V (ZU (r:=((now.toNat:Nat):Int)) .i64 V k9 k9<|zdU o9 o9) (SWl.e2 (S:=[]) (zC [] (Kh now.toNat o9) V ⟨zb _,t9⟩ d9 t9 (fun _ h=>h) V) fun s82=>(zd V<|za V (ZU (r:=((r.toNat:Nat):Int)) .i64 V k9 k9<|zdU o9 o9) (SWl.e2 (S:=[]) (zC [] (Kh r.toNat o9) V ⟨zb _,t9⟩ d9 t9 (fun _ h=>h) V) fun s85=>(SWl.e4 (yN 2 1 1 V V (YE 3 V V) k9 k9 (by have a1:=Zv (n:=now.toNat) o9;have a2:=Zv (n:=r.toNat) o9;omega) d9 (fun _ h=>h) V) fun A86 F86 c86=>(zf V<|ze<|zk<|zO (σ':=zN [(1,iD r),(2,bD key),(3,iD now),(4,pA g4),(8,pA g8),(12,isD<|.slice A86 (grp now.toNat ++ grp r.toNat).length c86)] [.c g4 [lsD Yz s.bk,lsD YB s.ws,lsD yX s.es,lsD Z8 s.ks,iD s.ck,lsD encE s.en],.c g8 [isD<|.slice none 0 0,isD<|.slice none 0 0,isD<|.slice none 0 0,isD<|.slice none 0 0,iD 0,isD<|.slice none 0 0],.r (⟨A86,c86,F86⟩:Ust).F<|yP 5 1 Yt (⟨A86,c86,F86⟩:Ust).A (⟨A86,c86,F86⟩:Ust).c<|grp now.toNat ++ grp r.toNat]) (sB [0,1,3] V V)<|Ys (fun σ=>σ=zN [(1,iD r),(2,bD key),(3,iD now),(4,pA g4),(8,pA g8)] [.c g4 [lsD Yz s.bk,lsD YB s.ws,lsD yX s.es,lsD Z8 s.ks,iD s.ck,lsD encE<|s.en ++ [(⟨2,Rnd.revP r key now⟩:Led.Ent)]],.c g8 [isD<|.slice none 0 0,isD<|.slice none 0 0,isD<|.slice none 0 0,isD<|.slice none 0 0,iD 0,isD<|.slice none 0 0]]) ?_ ?_))))))
           ·refine yh ((⟨A86,c86,F86⟩:Ust).F ++ (g4 :: [])) (.r 1<|.r 2<|.n 0 (.n 3 (.e 4 (.n 5 (.e 6 .fin .no) .no) .no) .no)<|.n 3 (.n 0 (.e 4 (.n 5 (.e 6 .fin .no) .no) .no)<|.e 4 (.n 0 (.n 5 (.e 6 .fin .no) .no) .no) .no) .no) k9 k9 (fun d _ _ _ _ h=>by cases d <;> exact h) (zL V V<|zL V V<|ZP V (qD (zA 0 6 V V k9 V zh) V) ?_ ?_)
            ·rintro _ rfl;refine ZG V (Zb (qS key o9) V ⟨zb _,t9⟩ V) ?_ yf;rintro _ _ ⟨s90,rfl,rfl⟩;refine yW V (yN 2 1 1 V V (YE 3 V V) k9 k9 (by have a1:=Zv (n:=now.toNat) o9;have a2:=Zv (n:=r.toNat) o9;have a3:=ZN (b:=key) o9;simp only [List.length_append];omega) d9 (fun _ h=>mL _<|mL _ h) V) ?_ yf;rintro _ ⟨A91,F91,c91,rfl⟩;exact YU 3 91 V V (Yc _) (yw V (zY (Y2 s 2 (Rnd.revP r key now) o9 (by have:=(Rnd.revP_len (r:=r) h17 ht.2 ⟨by omega,by omega⟩).1;omega)) V ⟨zb _,zb _,zb _,t9⟩ V)<|yy V (zw 0 V V V k9 V<|mL _<|mR _ mC)<|yz<|yA V<|sB [0,1] V V)
            refine ZG V (Zb (qS key o9) V ⟨zb _,t9⟩ V) ?_ yf;rintro _ _ ⟨s90,rfl,rfl⟩;refine ZP V (qD (zA 0 6 V V k9 V zh) V) ?_ ?_
            ·rintro _ rfl;refine yW V (yN 2 1 1 V V (YE 3 V V) k9 k9 (by have a1:=Zv (n:=now.toNat) o9;have a2:=Zv (n:=r.toNat) o9;have a3:=ZN (b:=key) o9;simp only [List.length_append];omega) d9 (fun _ h=>mL _<|mL _ h) V) ?_ yf;rintro _ ⟨A91,F91,c91,rfl⟩;exact YU 3 91 V V (Yc _) (yw V (zY (Y2 s 2 (Rnd.revP r key now) o9 (by have:=(Rnd.revP_len (r:=r) h17 ht.2 ⟨by omega,by omega⟩).1;omega)) V ⟨zb _,zb _,zb _,t9⟩ V)<|yy V (zw 0 V V V k9 V<|mL _<|mR _ mC)<|yz<|yA V<|sB [0,1] V V)
            refine yW V (yN 2 1 1 V V (YE 3 V V) k9 k9 (by have a1:=Zv (n:=now.toNat) o9;have a2:=Zv (n:=r.toNat) o9;have a3:=ZN (b:=key) o9;simp only [List.length_append];omega) d9 (fun _ h=>mL _<|mL _ h) V) ?_ yf;rintro _ ⟨A91,F91,c91,rfl⟩;exact yw V (qD (zA 0 6 V V k9 V zh) V) (YU 3 91 V V (Yc _)<|yw V (zY (Y2 s 2 (Rnd.revP r key now) o9 (by have:=(Rnd.revP_len (r:=r) h17 ht.2 ⟨by omega,by omega⟩).1;omega)) V ⟨zb _,zb _,zb _,t9⟩ V)<|yy V (zw 0 V V V k9 V<|mL _<|mR _ mC)<|yz<|yA V<|sB [0,1] V V)
           ·rintro _ rfl
            refine zn (zk<|zO (σ':=zN [(1,iD r),(2,bD key),(3,iD now),(4,pA g4),(8,pA g8)] [.c g4 [lsD Yz s.bk,lsD YB s.ws,lsD yX s.es,lsD Z8 s.ks,iD s.ck,lsD encE<|s.en ++ [(⟨2,Rnd.revP r key now⟩:Led.Ent)]],.c g8 [isD<|.slice none 0 0,isD<|.slice none 0 0,isD<|.slice none 0 0,isD<|.slice none 0 0,iD 0,isD<|.slice none 0 0]]) (sB [0,1] V V)<|Yf 24 1 Z8<|zi<|za V (zc (n:=3) V k9)<|za V (zg 0 V V V k9 zh) (SWl.e4 (yN 2 1 24 V V (SrcT.ls V) k9 k9 (by simp <;> omega) d9 (fun _ h=>h) V) fun A95 F95 c95=>(zf V<|zV<|zd V<|zd V<|zd V<|za V (jG 2 1 V V V k9 k9 o9 (by simp;omega))<|zt (S:=_) (zcK (v:=key) 2 V V V V k9 (by simp;omega) (fun _ h=>h))<|ze<|zk<|zO (σ':=zN [(1,iD r),(2,bD key),(3,iD now),(4,pA g4),(8,pA g8),(13,isD<|.slice A95 (s.ks.set r.toNat key).length c95)] [.c g4 [lsD Yz s.bk,lsD YB s.ws,lsD yX s.es,lsD Z8 s.ks,iD s.ck,lsD encE<|s.en ++ [(⟨2,Rnd.revP r key now⟩:Led.Ent)]],.c g8 [isD<|.slice none 0 0,isD<|.slice none 0 0,isD<|.slice none 0 0,isD<|.slice none 0 0,iD 0,isD<|.slice none 0 0],.r F95<|yP 24 1 Z8 A95 c95<|s.ks.set r.toNat key]) (⟨⟨_,V,⟨lq V,⟨lq V,⟨lq V,⟨lq V,⟨lq V,⟨⟨_,V,zF s9⟩,t9⟩⟩⟩⟩⟩⟩⟩,[0,1,2],by decide,⟨la rfl,⟨la rfl,⟨⟨_,rfl,ZZ s9 s9⟩,trivial⟩⟩⟩⟩)<|zi<|zd V<|zd V<|za V (zc (n:=3) V k9)<|zt (S:=[_]) (zR 0 V V V k9 V<|m9 V)<|za V (zc (n:=4) V k9)<|zt (S:=[_]) (zR 0 V V V k9 V<|m9 V)<|ze<|zk<|zO (σ':=zN [(4,pA g4),(8,pA g8)] [.c g4 [lsD Yz s.bk,lsD YB s.ws,lsD yX s.es,isD<|.slice A95 (s.ks.set r.toNat key).length c95,iD now,lsD encE<|s.en ++ [(⟨2,Rnd.revP r key now⟩:Led.Ent)]],.c g8 [isD<|.slice none 0 0,isD<|.slice none 0 0,isD<|.slice none 0 0,isD<|.slice none 0 0,iD 0,isD<|.slice none 0 0],.r F95<|yP 24 1 Z8 A95 c95<|s.ks.set r.toNat key]) (sB [0,1,2] V V)<|zi<|za V (zA 0 6 V V k9 V zh)<|zt (S:=[_]) (zw 1 V V V k9 V<|m9 V)<|zf V<|ze<|ql 1 3 2 V V V ?_)))
            refine zQ (fn:=Tryz.f31) (()) [] (fun _ _ h=>h) (Rs.le (ym V (zS 1 V V k9)<|zj V) ?_) d9 t9
            have hE:Rnd.revE s r key now=0:=by (unfold Rnd.revE;rw [if_neg<|not_not_intro ht,if_neg<|not_not_intro hh,if_neg<|not_not_intro hlate,if_neg<|not_not_intro hcm,if_neg o9])
            exact yn ⟨by rw [Rnd.revS,if_pos hE];exact zb _,zF (by rw [hE]),trivial⟩
