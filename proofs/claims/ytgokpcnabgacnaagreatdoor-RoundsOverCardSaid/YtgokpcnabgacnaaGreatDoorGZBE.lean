/- ROUNDS: the reference's Valid, At, with. ROUNDS: the reference's Record, Of. -/
import Derived.Test.YtgokpcnabgacnaaGreatDoorGZBB
import Derived.Test.YtgokpcnabgacnaaGreatDoorGZBD
set_option maxHeartbeats 8000000
set_option maxRecDepth 100000
namespace Go.Proofs.YtgokpcnabgacnaaGreatDoor
open Go.RowKit
namespace Sx
section
def Z8 (k:LB):List D:=[bD k]
instance:Row Z8 1:=⟨fun _=>rfl,fun _=>by unfold Z8;infer_instance,by decide⟩
instance (k:LB):Ones (Z8 k):=by unfold Z8;infer_instance
abbrev rfD (s:Rnd.S):List D:=[lsD Yz s.bk,lsD YB s.ws,lsD yX s.es,lsD Z8 s.ks,iD s.ck,lsD encE s.en]
theorem Wv {l:List Rnd.Win} {i:Nat} {x:Rnd.Win} (hx:l[i]? =some x) (hq:Rnd.okL 0 l↔Rnd.okL (Rnd.before l i) (l.drop i)) (h:¬Rnd.okW (Rnd.before l i) x):¬Rnd.ok l:=fun h2=>h ((Rnd.okL_step hx).1<|hq.1 h2.2).1
theorem zfK {l:List Rnd.Win} {i:Nat} {y:Rnd.Win} (h:l[i - 1]? =some y) (h0:0 < i):Rnd.before l i=y.en:=by
 obtain ⟨k,rfl⟩:∃ k,i=k + 1:=⟨i - 1,by omega⟩;exact Rnd.before_succ h
theorem zfE (l:List Rnd.Win) (hl:l.length≤1000000):ConN Tryz.prog 54 [lsD YB l] (yj<|decide (Rnd.ok l)):=by
 refine yO Tryz.func54 k9 V k9 fun base w0=>(zp<|zf V<|ze<|zk<|zp<|zf V<|ze<|zX<|Zw (ι:={i:Nat // i≤l.length∧0≤Rnd.before l i∧(Rnd.okL 0 l↔Rnd.okL (Rnd.before l i) (l.drop i))}) (fun i=>zN [(0,lsD YB l),(3,iD (i.1:Int))] []) (fun i=>l.length - i.1) (⟨0,JC _,Int.le_refl _,Iff.rfl⟩) ?_ ?_)
 ·exact (sB [] V V)
 ·rintro ⟨i,hi,hq⟩ K0 hK0;dsimp only at hi hq ⊢;refine zk (zp<|zd V<|zd V<|za V (yx (e:=26) V k9)<|za V (yF V V)<|ze<|zJ V (fun hb8=> ?_) (fun hb8=> ?_))
  ·have h8:(i:Int) < (l.length:Int):=oT hb8;refine zr (zn<|zk<|zX<|zk ?_);obtain ⟨x,hx⟩:∃ x,l[i]? =some x:=⟨_,Je o9⟩;refine zi (zd V<|zd V<|za V (yp (e:=26) 4 V V k9 k9 o9 (by simpa using hx))<|za V (ZK 4 V k9 d9 (show 4≤4 by decide) s9) (SWl.e2 (S:=[]) (zM (zs:=[.int .i64 0,.int .i64 0,.int .i64 0,.slice none 0 0]) k9 V) fun g4=>(zt (S:=[_]) (zw 0 V V V k9 V<|m9 V)<|ze<|zk ?_)));obtain ⟨y,hy⟩:∃ y,0 < i→l[i - 1]? =some y:=(by by_cases h:0 < i;exact ⟨l[i - 1],fun _=>Je o9⟩;exact ⟨x,fun h2=>absurd h2 h⟩)
   have hb0:i=0→Rnd.before l i=0:=fun h=>by rw [h];rfl
   have hbi:0 < i→Rnd.before l i=y.en:=fun h=>zfK (hy h) h
   refine yh [] (rr [0,1,2,3,4,5,6,7,8,9,10,11,12,13,14,15,16,17,18,19,20,21,22,23,24,25,26,27,28,29,30,31,32,33,34,35,36,37,38,39,40,41,42] .fin) k9 k9 (fun d _ _ _ _ h=>by cases d <;> exact h) (zl V V (zc (n:=0) V k9)<|zl V V (zg 0 V V V k9 zh)<|zl V V (yF V V)<|zL V V<|YI 18 V (fun hb18=> ?_) (fun hb18=> ?_))
   ·have h18:x.st < 0:=oT hb18;refine zH V V V hb18 V V (zH V V V hb18 V V<|zH V V V hb18 V V<|zH V V V hb18 V V<|zH V V V hb18 V V<|zl V V (zB V hb18 V)<|zL V V<|zH V V V V V V<|zH V V V V V V<|zH V V V V V V<|zH V V V V V V<|zH V V V V V V<|zl V V (zB V V V)<|zL V V<|zH V V V V V V<|zH V V V V V V<|zH V V V V V V<|zl V V (zB V V V)<|zL V V<|zH V V V V V V<|zH V V V V V V<|zH V V V V V V<|zH V V V V V V<|zl V V (zB V V V)<|zL V V<|zH V V V V V V<|zH V V V V V V<|zH V V V V V V<|yH V V V V V<|yH V V V V V<|yH V V V V V<|yH V V V V V<|yH V V V V V<|yH V V V V V<|yH V V V V V<|yH V V V V V<|yH V V V V V<|zH V V V V V V<|zl V V (zB V V V)<|yz ?_);refine zn (zW V V<|zp<|zf V<|ze<|zK (fn:=Tryz.f54) (fun _ _ h=>h)<|Rs.le (Rs.one V<|zj V) ?_)
    exact zZ (by symm;apply Jd;exact Wv hx hq.2 (by unfold Rnd.okW;first | omega | (have:=hbi o9;omega)))
   ·have h18:¬x.st < 0:=oF hb18;refine zG V V V hb18 V V (zc (n:=0) V k9) (zG V V V hb18 V V (zg 0 V V V k9 zh)<|zG V V V hb18 V V (zc (n:=1) V k9)<|zG V V V hb18 V V (zg 0 V V V k9 zh)<|zG V V V hb18 V V (ZB V V)<|zl V V (zv V hb18 V)<|zL V V<|YI 25 V (fun hb25=> ?_) (fun hb25=> ?_))
    ·have h25:x.st≥x.en:=oT hb25;refine zH V V V hb25 V V (zH V V V hb25 V V<|zH V V V hb25 V V<|zH V V V hb25 V V<|zH V V V hb25 V V<|zl V V (zB V hb25 V)<|zL V V<|zH V V V V V V<|zH V V V V V V<|zH V V V V V V<|zl V V (zB V V V)<|zL V V<|zH V V V V V V<|zH V V V V V V<|zH V V V V V V<|zH V V V V V V<|zl V V (zB V V V)<|zL V V<|zH V V V V V V<|zH V V V V V V<|zH V V V V V V<|yH V V V V V<|yH V V V V V<|yH V V V V V<|yH V V V V V<|yH V V V V V<|yH V V V V V<|yH V V V V V<|yH V V V V V<|yH V V V V V<|zH V V V V V V<|zl V V (zB V V V)<|yI<|zW V V<|zp<|zf V<|ze ?_);refine zK (fn:=Tryz.f54) (fun _ _ h=>h) (Rs.le (Rs.one V<|zj V) ?_)
     exact zZ (by symm;apply Jd;exact Wv hx hq.2 (by unfold Rnd.okW;first | omega | (have:=hbi o9;omega)))
    ·have h25:¬x.st≥x.en:=oF hb25;refine zG V V V hb25 V V (zc (n:=1) V k9) (zG V V V hb25 V V (zg 0 V V V k9 zh)<|zG V V V hb25 V V (zc (n:=2) V k9)<|zG V V V hb25 V V (zg 0 V V V k9 zh)<|zG V V V hb25 V V (Zq V V)<|zl V V (zv V hb25 V)<|zL V V<|YI 32 V (fun hb32=> ?_) (fun hb32=> ?_))
     ·have h32:x.en > x.rv:=oT hb32;refine zH V V V hb32 V V (zH V V V hb32 V V<|zH V V V hb32 V V<|zl V V (zB V hb32 V)<|zL V V<|zH V V V V V V<|zH V V V V V V<|zH V V V V V V<|zH V V V V V V<|zl V V (zB V V V)<|zL V V<|zH V V V V V V<|zH V V V V V V<|zH V V V V V V<|yH V V V V V<|yH V V V V V<|yH V V V V V<|yH V V V V V<|yH V V V V V<|yH V V V V V<|yH V V V V V<|yH V V V V V<|yH V V V V V<|zH V V V V V V<|zl V V (zB V V V)<|yI<|zW V V<|zp<|zf V<|ze<|zK (fn:=Tryz.f54) (fun _ _ h=>h)<|Rs.le (Rs.one V<|zj V) ?_)
      exact zZ (by symm;apply Jd;exact Wv hx hq.2 (by unfold Rnd.okW;first | omega | (have:=hbi o9;omega)))
     ·have h32:¬x.en > x.rv:=oF hb32;refine zG V V V hb32 V V (zc (n:=2) V k9) (zG V V V hb32 V V (zg 0 V V V k9 zh)<|zG V V V hb32 V V (Zq V V)<|zl V V (zv V hb32 V)<|zL V V<|YI 37 V (fun hb37=> ?_) (fun hb37=> ?_))
      ·have h37:x.rv > 1099511627776:=oT hb37;refine zH V V V hb37 V V (zH V V V hb37 V V<|zH V V V hb37 V V<|zH V V V hb37 V V<|zl V V (zB V hb37 V)<|zL V V<|zH V V V V V V<|zH V V V V V V<|zH V V V V V V<|yH V V V V V<|yH V V V V V<|yH V V V V V<|yH V V V V V<|yH V V V V V<|yH V V V V V<|yH V V V V V<|yH V V V V V<|yH V V V V V<|zH V V V V V V<|zl V V (zB V V V)<|yI<|zW V V<|zp<|zf V<|ze<|zK (fn:=Tryz.f54) (fun _ _ h=>h)<|Rs.le (Rs.one V<|zj V) ?_)
       exact zZ (by symm;apply Jd;exact Wv hx hq.2 (by unfold Rnd.okW;first | omega | (have:=hbi o9;omega)))
      ·have h37:¬x.rv > 1099511627776:=oF hb37;refine zG V V V hb37 V V (zc (n:=3) V k9) (zG V V V hb37 V V (zg 0 V V V k9 zh)<|zG V V V hb37 V V (ZC (e:=5) V k9)<|zG V V V hb37 V V (ye V V)<|zl V V (zv V hb37 V)<|zL V V<|YI 43 V (fun hb43=> ?_) (fun hb43=> ?_))
       ·have h43:¬x.cm.length=32:=by (simp at hb43;omega)
        refine zH V V V hb43 V V (zH V V V hb43 V V<|zH V V V hb43 V V<|yH V V V V V<|yH V V V V V<|yH V V V V V<|yH V V V V V<|yH V V V V V<|yH V V V V V<|yH V V V V V<|yH V V V V V<|yH V V V V V<|zH V V V hb43 V V<|zl V V (zB V hb43 V)<|yI<|zW V V<|zp<|zf V<|ze<|zK (fn:=Tryz.f54) (fun _ _ h=>h)<|Rs.le (Rs.one V<|zj V) ?_)
        exact zZ (by symm;apply Jd;exact Wv hx hq.2 (by unfold Rnd.okW;first | omega | (have:=hbi o9;omega)))
       ·have h43:x.cm.length=32:=by (simp at hb43;omega)
        refine zG V V V hb43 V V (zI V) (zG V V V hb43 V V (Zq V V)<|zG V V V hb43 V V (zI V)<|YI 46 V (fun hb46=> ?_) (fun hb46=> ?_))
        ·have h46:(i:Int) > 0:=oT hb46;refine zG V V V hb46 V V (zc (n:=0) V k9) (zG V V V hb46 V V (zg 0 V V V k9 zh)<|zG V V V hb46 V V (zI V)<|zG V V V hb46 V V (zI V)<|zG V V V hb46 V V (Zu (jF V V ⟨by omega,by omega⟩) (show Le _ (iD ((i - 1:Nat):Int)) from zF (by congr 1;omega)))<|zG V V V hb46 V V (yp (e:=26) 4 V V k9 k9 o9 (by have h:=hy o9;simpa using h))<|zG V V V hb46 V V (yb (n:=1) V k9 (show 1 < 4 by decide))<|zG V V V hb46 V V (ya V V k9 s9)<|zG V V V hb46 V V (yF V V)<|zG V V V hb43 V V (zB V hb46 V)<|zl V V (zv V hb43 V)<|yI<|zJ V (fun hb57=> ?_) (fun hb57=> ?_))
         ·have h57:x.st < y.en:=oT hb57;refine zp (zf V<|ze<|zK (fn:=Tryz.f54) (fun _ _ h=>h)<|Rs.le (Rs.one V<|zj V) ?_)
          exact zZ (by symm;apply Jd;exact Wv hx hq.2 (by unfold Rnd.okW;first | omega | (have:=hbi o9;omega)))
         ·have h57:¬x.st < y.en:=oF hb57
          exact zr (yc<|zn<|zi<|zd V<|za V (yC V V ⟨by omega,by omega⟩)<|zf V<|zP (fun a w hh=>hK0 (⟨i + 1,by omega,by rw [Rnd.before_succ hx];omega,hq.2.trans<|(Rnd.okL_step hx).trans ⟨fun h=>h.2,fun h=>⟨(by unfold Rnd.okW;first | omega | (have:=hbi o9;omega) | (have:=hb0 o9;omega)),h⟩⟩⟩) (by dsimp only;omega) a w<|hh.sub<|⟨⟨_,V,⟨lq V,⟨⟨_,V,zF s9⟩,t9⟩⟩⟩,[],by decide,trivial⟩))
        ·have h46:¬(i:Int) > 0:=oF hb46
         exact zH V V V hb46 V V (zH V V V hb46 V V<|zH V V V hb46 V V<|zH V V V hb46 V V<|zH V V V hb46 V V<|zH V V V hb46 V V<|zH V V V hb46 V V<|zH V V V hb46 V V<|zH V V V hb46 V V<|zG V V V hb43 V V (zv V hb46 V)<|zl V V (zv V hb43 V)<|yI<|zE V V<|zr<|yc<|zn<|zi<|zd V<|za V (yC V V ⟨by omega,by omega⟩)<|zf V<|zP (fun a w hh=>hK0 (⟨i + 1,by omega,by rw [Rnd.before_succ hx];omega,hq.2.trans<|(Rnd.okL_step hx).trans ⟨fun h=>h.2,fun h=>⟨(by unfold Rnd.okW;first | omega | (have:=hbi o9;omega) | (have:=hb0 o9;omega)),h⟩⟩⟩) (by dsimp only;omega) a w<|hh.sub<|⟨⟨_,V,⟨lq V,⟨⟨_,V,zF s9⟩,t9⟩⟩⟩,[],by decide,trivial⟩))
  ·have h8:¬(i:Int) < (l.length:Int):=oF hb8;refine yZ ?_
   repeat (first | refine Ze ?_ | refine Zf d9 ?_)
   refine Zn (zn<|zp<|zd V<|za V (yx (e:=26) V k9)<|za V (ZB V V)<|zd V<|zU 61 V (fun hb61=> ?_) (fun hb61=> ?_))
   ·have h61:(l.length:Int)≥1:=oT hb61;refine zy hb61 (zI V) (zy hb61 (yx (e:=26) V k9)<|zy hb61 (YR V V)<|za V (zB V hb61 V)<|zf V<|ze<|zK (fn:=Tryz.f54) (fun _ _ h=>h)<|Rs.le (Rs.one V<|zj V) ?_);have hok:Rnd.okL 0 l:=hq.2.2 (by rw [show i=l.length by omega];exact Rnd.okL_all _ _);exact zZ (by rw [JW];exact ⟨fun h=>⟨⟨by omega,by omega⟩,hok⟩,fun h=>by have:=h.1.2;omega⟩)
   ·have h61:¬(l.length:Int)≥1:=oF hb61;refine zq hb61 (zq hb61<|zq hb61<|za V (zv V hb61 V)<|zf V<|ze<|zK (fn:=Tryz.f54) (fun _ _ h=>h)<|Rs.le (Rs.one V<|zj V) ?_);exact zZ (by symm;apply Jd;intro h;have:=h.1.1;omega)
theorem con_At44 (s:Rnd.S) (r now:Int) (hg:s.ks.length=s.ws.length):Con Tryz.prog 17 [Zo [lsD Yz s.bk,lsD YB s.ws,lsD yX s.es,lsD Z8 s.ks,iD s.ck,lsD encE s.en],iD r,iD now] (Yk [iD<|Rnd.atS s r now,iD<|Rnd.atE s r now]):=by
 refine YP Tryz.func17 k9 V k9 fun base w0=>(zp (SWl.e2 (S:=[]) (yv V V) fun g3=>(zf V<|zf V<|ze<|zk<|zp<|zd V<|za V (yF V V)<|zd V<|zU 10 V (fun hb10=> ?_) (fun hb10=> ?_))))
 ·have h10:now < 0:=oT hb10;refine zq hb10 (zq hb10<|za V (zB V hb10 V)<|ze<|zW V V<|zp<|zf V<|zf V<|ze<|zK (fn:=Tryz.f17) (fun _ _ h=>h)<|Rs.le (ym V (zj V)<|zj V) ?_);have hE:Rnd.atE s r now=2:=Jh (fun h=>by have:=h.1;have:=h.2;omega);exact yn ⟨zF (by rw [Rnd.atS,hE];rfl),zF (by rw [hE]),t9⟩
 ·have h10:¬now < 0:=oF hb10;refine zy hb10 (zI V) (zy hb10 (Zq V V)<|za V (zv V hb10 V)<|ze<|zJ V (fun hb13=> ?_) (fun hb13=> ?_))
  ·have h13:now > 1099511627776:=oT hb13;refine zp (zf V<|zf V<|ze<|zK (fn:=Tryz.f17) (fun _ _ h=>h)<|Rs.le (ym V (zj V)<|zj V) ?_);have hE:Rnd.atE s r now=2:=Jh (fun h=>by have:=h.1;have:=h.2;omega);exact yn ⟨zF (by rw [Rnd.atS,hE];rfl),zF (by rw [hE]),t9⟩
  ·have h13:¬now > 1099511627776:=oF hb13;refine zr (zn<|zk<|zp<|zd V<|za V (yF V V)<|zd V<|zU 16 V (fun hb16=> ?_) (fun hb16=> ?_))
   ·have h16:r < 0:=oT hb16;refine zq hb16 (zq hb16<|zq hb16<|zq hb16<|zq hb16<|za V (zB V hb16 V)<|ze<|zW V V<|zp<|zf V<|zf V<|ze<|zK (fn:=Tryz.f17) (fun _ _ h=>h)<|Rs.le (ym V (zj V)<|zj V) ?_)
    have hE:Rnd.atE s r now=3:=by rw [Rnd.atE,Jb<|Jj ⟨by omega,by omega⟩,Jh (fun h=>by have:=h.1;have:=h.2;omega)]
    exact yn ⟨zF (by rw [Rnd.atS,hE];rfl),zF (by rw [hE]),t9⟩
   ·have h16:¬r < 0:=oF hb16;refine zy hb16 (zI V) (zy hb16 (zc (n:=1) V k9)<|zy hb16 (zg 0 V V V k9 zh)<|zy hb16 (yx (e:=26) V k9)<|zy hb16 (ZB V V)<|za V (zv V hb16 V)<|ze<|zJ V (fun hb22=> ?_) (fun hb22=> ?_))
    ·have h22:r≥(s.ws.length:Int):=oT hb22;refine zp (zf V<|zf V<|ze<|zK (fn:=Tryz.f17) (fun _ _ h=>h)<|Rs.le (ym V (zj V)<|zj V) ?_)
     have hE:Rnd.atE s r now=3:=by rw [Rnd.atE,Jb<|Jj ⟨by omega,by omega⟩,Jh (fun h=>by have:=h.1;have:=h.2;omega)]
     exact yn ⟨zF (by rw [Rnd.atS,hE];rfl),zF (by rw [hE]),t9⟩
    ·have h22:¬r≥(s.ws.length:Int):=oF hb22;refine zr (zn<|zk<|zk ?_);have ht:Rnd.time now:=⟨by omega,by omega⟩;have hh:Rnd.has s r:=⟨by omega,by omega⟩;obtain ⟨k,hk⟩:∃ k,s.ks[r.toNat]? =some k:=⟨_,Je o9⟩;obtain ⟨w,hw⟩:∃ w,s.ws[r.toNat]? =some w:=⟨_,Je o9⟩
     have hE:Rnd.atE s r now=0:=by rw [Rnd.atE,Jb (by simpa using ht),Jb (by simpa using hh)]
     have hS:Rnd.atS s r now=Rnd.stOf w k now:=by rw [Rnd.atS,Jh hE,Rnd.st,Rnd.winAt_some hw,Rnd.kyAt_some hk]
     refine zi (za V (zc (n:=3) V k9)<|za V (zg 0 V V V k9 zh)<|zd V<|za V (yp (e:=24) 1 V V k9 k9 o9 (by simpa using hk))<|za V (ya V V k9 s9)<|za V (ZC (e:=5) V k9)<|za V (Zq V V)<|ze<|zJ V (fun hb29=> ?_) (fun hb29=> ?_))
     ·have h29:k≠[]:=by (intro h;subst h;simp at hb29)
      refine zp (zf V<|zf V<|ze<|zK (fn:=Tryz.f17) (fun _ _ h=>h)<|Rs.le (ym V (zj V)<|zj V) ?_);exact yn ⟨zF (by rw [hS,Rnd.stOf,Jh h29]),zF (by rw [hE]),t9⟩
     ·have h29:k=[]:=by (cases k;rfl;simp at hb29)
      refine zr (zn<|zk<|zp<|zd V<|za V (zc (n:=1) V k9)<|za V (zg 0 V V V k9 zh)<|zd V<|za V (yp (e:=26) 4 V V k9 k9 o9 (by simpa using hw))<|za V (yb (n:=0) V k9 (show 0 < 4 by decide))<|za V (ya V V k9 s9)<|za V (yF V V)<|ze<|zJ V (fun hb37=> ?_) (fun hb37=> ?_))
      ·have h37:now < w.st:=oT hb37;refine zp (zf V<|zf V<|ze<|zK (fn:=Tryz.f17) (fun _ _ h=>h)<|Rs.le (ym V (zj V)<|zj V) ?_);exact yn ⟨zF (by rw [hS,Rnd.stOf,Jb<|Jj h29,Jh h37]),zF (by rw [hE]),t9⟩
      ·have h37:¬now < w.st:=oF hb37;refine zr (zn<|zk<|zp<|zd V<|za V (zc (n:=1) V k9)<|za V (zg 0 V V V k9 zh)<|zd V<|za V (yp (e:=26) 4 V V k9 k9 o9 (by simpa using hw))<|za V (yb (n:=1) V k9 (show 1 < 4 by decide))<|za V (ya V V k9 s9)<|za V (yF V V)<|ze<|zJ V (fun hb45=> ?_) (fun hb45=> ?_))
       ·have h45:now < w.en:=oT hb45;refine zp (zf V<|zf V<|ze<|zK (fn:=Tryz.f17) (fun _ _ h=>h)<|Rs.le (ym V (zj V)<|zj V) ?_);exact yn ⟨zF (by rw [hS,Rnd.stOf,Jb<|Jj h29,Jb h37,Jh h45]),zF (by rw [hE]),t9⟩
       ·have h45:¬now < w.en:=oF hb45;refine zr (zn<|zp<|zf V<|zf V<|ze<|zK (fn:=Tryz.f17) (fun _ _ h=>h)<|Rs.le (ym V (zj V)<|zj V) ?_);exact yn ⟨zF (by rw [hS,Rnd.stOf,Jb<|Jj h29,Jb h37,Jb h45]),zF (by rw [hE]),t9⟩
theorem Y2 (s:Rnd.S) (k:Int) (p:LB) (hn:s.en.length≤100000) (hp:p.length≤1000000):Con Tryz.prog 83 [Zo [lsD Yz s.bk,lsD YB s.ws,lsD yX s.es,lsD Z8 s.ks,iD s.ck,lsD encE s.en],iD k,bD p] (Zo<|rfD { s with en:=s.en ++ [⟨k,p⟩] }):=by
 refine YP Tryz.func83 k9 V k9 fun base w0=>(zp (SWl.e2 (S:=[]) (yv V V) fun g3=>(SWl.e2 (S:=[]) (zM (zs:=[.slice none 0 0,.slice none 0 0,.slice none 0 0,.slice none 0 0,.int .i64 0,.slice none 0 0]) k9 V) fun g6=>(ze<|zk<|Yf 85 2 encE<|zi<|za V (zc (n:=5) V k9)<|za V (zg 0 V V V k9 zh) (SWl.e4 (yN 2 2 32 V V (SrcT.ls V) k9 k9 (by simp <;> omega) d9 (fun _ h=>h) V) fun A9 F9 c9=>(zd V<|zd V<|za V (yq V V bldE2)<|zt (S:=[]) (ZL V V (blsE1 k p) V) (SWl.e4 (yN 2 2 32 V V (SrcT.ls (l:=[(⟨k,p⟩:Led.Ent)]) V) k9 k9 (by simp;omega) d9 (fun _ h=>h) V) fun A14 F14 c14=>(za V (zc (n:=5) V k9)<|zt (S:=[_]) (zR 0 V V V k9 V<|m9 V)<|ze<|zk<|zO (σ':=zN [(3,_),(6,_)] [.c g3 [lsD Yz s.bk,lsD YB s.ws,lsD yX s.es,lsD Z8 s.ks,iD s.ck,isD<|.slice A14 (s.en ++ [(⟨k,p⟩:Led.Ent)]).length c14],.c g6 [isD<|.slice none 0 0,isD<|.slice none 0 0,isD<|.slice none 0 0,isD<|.slice none 0 0,iD 0,isD<|.slice none 0 0],.r F14<|yP 85 2 encE A14 c14<|s.en ++ [(⟨k,p⟩:Led.Ent)]]) (⟨⟨_,V,(sT V)⟩,[0,1,2],by decide,⟨la rfl,⟨la rfl,⟨⟨_,rfl,ZZ s9 s9⟩,trivial⟩⟩⟩⟩)<|zi<|za V (zA 0 6 V V k9 V zh)<|zt (S:=[_]) (zw 1 V V V k9 V<|m9 V)<|ze<|ql 1 5 2 V V V<|zK (fn:=Tryz.f83) (fun _ _ h=>h)<|Rs.le (Rs.one V<|zS 1 V V k9) ?_))))))))
 exact zb _
end
section
def Rnd.hit (r:Int) (n:LB) (e:Env.T):Bool:=decide (e.rnd=r∧e.acc=n)
def Y3 (s:Rnd.S) (r:Int) (i:Nat):List Env.T:=((Acc.nm s.bk).take i).filterMap fun n=>s.es.find? (Rnd.hit r n)
theorem za6 {α:Type} {p:α→Bool}:∀ {l:List α},l.Pairwise (fun a b=>¬(p a=true∧p b=true))→l.filter p=(l.find? p).toList
 | [],_=>rfl
 | a :: l,h=>by
  obtain ⟨h1,h2⟩:=Xu.1 h
  by_cases ha:p a=true
  ·rw [List.filter_cons_of_pos ha,List.find?_cons_of_pos ha,List.filter_eq_nil_iff.2 fun x hx hp=>h1 x hx ⟨ha,hp⟩]
   rfl
  ·rw [List.filter_cons_of_neg ha,List.find?_cons_of_neg ha];exact za6 h2
theorem zfT {s:Rnd.S} (hg:Rnd.Good s) (r:Int) (n:LB):s.es.filter (Rnd.hit r n)=(s.es.find?<|Rnd.hit r n).toList:=
 za6 (hg.uni.imp fun h ⟨h1,h2⟩=>h (by
  unfold Rnd.hit at h1 h2;have h3:=oT h1;have h4:=oT h2
  exact ⟨h3.2.trans h4.2.symm,h3.1.trans h4.1.symm⟩))
theorem Wi {s:Rnd.S} (hg:Rnd.Good s) {r:Int} {i:Nat} {x:Acc.T} (hx:s.bk[i]? =some x):Y3 s r (i + 1)=Y3 s r i ++ s.es.filter (Rnd.hit r x.name):=by
 have h1:(Acc.nm s.bk)[i]? =some x.name:=by simp [hx]
 unfold Y3;rw [yr h1,List.filterMap_append,zfT hg];congr 1
theorem zeL {s:Rnd.S} (r:Int) (i:Nat):(Y3 s r i).length≤s.bk.length:=by
 unfold Y3;refine JG (List.length_filterMap_le _ _) ?_;rw [JE]
 have:(Acc.nm s.bk).length=s.bk.length:=by simp
 omega
theorem zeM {s:Rnd.S} (hg:Rnd.Good s) (r:Int):Y3 s r s.bk.length=yU s r:=by
 unfold Y3 yU;rw [Ji s9]
 by_cases h:Rnd.has s r
 ·rw [Jh h];unfold qM;congr 1
  funext n
  unfold Rnd.getE Rnd.hit;rw [show ((r.toNat:Nat):Int)=r from Int.toNat_of_nonneg h.1]
 ·rw [Jb h];refine List.filterMap_eq_nil_iff.2 fun n _=>List.find?_eq_none.2 fun e he=> ?_;unfold Rnd.hit;have h1:=(hg.aut e he).2;intro h2;have h3:=oT h2;rw [h3.1] at h1;exact h h1
theorem Kf {α:Type} {p:α→Bool} {l:List α} {k:Nat} {x:α} (hx:l[k]? =some x):(l.take<|k + 1).filter p=(l.take k).filter p ++ (if p x=true then [x] else []):=by
 rw [yr hx,List.filter_append];congr 1
 by_cases h:p x=true
 ·rw [Jh h,List.filter_cons_of_pos h];rfl
 ·rw [Jb h,List.filter_cons_of_neg h];rfl
def zhb (_:Unit):List D:=[isD<|.slice none 0 0]
instance:Row zhb 1:=⟨fun _=>rfl,fun _=>by unfold zhb;infer_instance,by decide⟩
theorem bldRf0:Bld Tryz.prog 42 [] [] [isD<|.slice none 0 0,isD<|.slice none 0 0,isD<|.slice none 0 0,isD<|.slice none 0 0,iD 0,isD<|.slice none 0 0]:=fun L w vs h=>by
 obtain rfl:=all0 h;exact ⟨[.slice none 0 0,.slice none 0 0,.slice none 0 0,.slice none 0 0,.int .i64 0,.slice none 0 0],⟨V,V,V,V,V,V,t9⟩,fun w'=>by kernel_rfl⟩
theorem WZ (s:Rnd.S) (k:Int) (p:LB) (hn:s.en.length≤4096) (hp:p.length≤1000000):Con Tryz.prog 32 [Zo [lsD Yz s.bk,lsD YB s.ws,lsD yX s.es,lsD Z8 s.ks,iD s.ck,lsD encE s.en],iD k,bD p] (Yk [Zo<|rfD<|Rnd.recS s k p,iD<|Rnd.recI s k p,iD<|Rnd.recE s k p]):=by
 refine YP Tryz.func32 k9 V k9 fun base w0=>(zp (SWl.e2 (S:=[]) (yv V V) fun g3=>(SWl.e2 (S:=[]) (zM (zs:=[.slice none 0 0,.slice none 0 0,.slice none 0 0,.slice none 0 0,.int .i64 0,.slice none 0 0]) k9 V) fun g6=>(zf V<|zf V<|ze<|zk<|zp<|zd V<|za V (YR V V)<|zd V<|zU 11 V (fun hb11=> ?_) (fun hb11=> ?_)))))
 ·have h11:k≤2:=oT hb11;refine zq hb11 (zq hb11<|zq hb11<|zq hb11<|zq hb11<|za V (zB V hb11 V)<|ze<|zW V V<|zp<|za V (zA 0 6 V V k9 V zh)<|zt (S:=[_]) (zw 1 V V V k9 V<|m9 V)<|zf V<|zf V<|ze<|zK (fn:=Tryz.f32) (fun _ _ h=>h)<|Rs.le (ZR V (zS 1 V V k9) (zj V)<|zj V) ?_);obtain ⟨e1,e2⟩:=Rnd.recE_bad (s:=s) (k:=k) (p:=p) o9;have e3:Rnd.recS s k p=s:=Rnd.rec_bad o9;exact yn ⟨by rw [e3];exact zb _,zF (by rw [e2]),zF (by rw [e1]),trivial⟩
 ·have h11:¬k≤2:=oF hb11;refine zy hb11 (zI V) (zy hb11 (zI V)<|zy hb11 (yq V V bldE2)<|ZD (S:=[]) V V hb11 V (zD [] (zhf k p.length) V ⟨(zo<|ZM ⟨zb _,ZV,t9⟩),t9⟩ V) ?_);rintro _ rfl;refine zy hb11 (yS V) (za V (zv V hb11 V)<|ze<|zJ V (fun hb17=> ?_) (fun hb17=> ?_))
  ·have h17:¬(0≤k∧k≤255∧p.length≤65536):=(by have h:=hb17;simp at h;omega);refine zp (za V (zA 0 6 V V k9 V zh)<|zt (S:=[_]) (zw 1 V V V k9 V<|m9 V)<|zf V<|zf V<|ze<|zK (fn:=Tryz.f32) (fun _ _ h=>h)<|Rs.le (ZR V (zS 1 V V k9) (zj V)<|zj V) ?_);obtain ⟨e1,e2⟩:=Rnd.recE_bad (s:=s) (k:=k) (p:=p) o9;have e3:Rnd.recS s k p=s:=Rnd.rec_bad o9;exact yn ⟨by rw [e3];exact zb _,zF (by rw [e2]),zF (by rw [e1]),trivial⟩
  ·have h17:0≤k∧k≤255∧p.length≤65536:=(by have h:=hb17;simp at h;omega);refine zr (zn<|zk<|zp<|za V (zc (n:=5) V k9)<|za V (zg 0 V V V k9 zh)<|za V (yx (e:=85) V k9)<|za V (ZB V V)<|ze<|zJ V (fun hb22=> ?_) (fun hb22=> ?_))
   ·have h22:(s.en.length:Int)≥4096:=oT hb22;refine zp (za V (zA 0 6 V V k9 V zh)<|zt (S:=[_]) (zw 1 V V V k9 V<|m9 V)<|zf V<|zf V<|ze<|zK (fn:=Tryz.f32) (fun _ _ h=>h)<|Rs.le (ZR V (zS 1 V V k9) (zj V)<|zj V) ?_)
    have e1:Rnd.recE s k p=7:=by (unfold Rnd.recE;rw [Jb<|Jj ⟨by omega,h17.2.1,h17.2.2⟩,Jh o9])
    exact yn ⟨by rw [Rnd.recS,Jb (by rw [e1];decide)];exact zb _,zF (by rw [Rnd.recI,Jb (by rw [e1];decide)]),zF (by rw [e1]),trivial⟩
   ·have h22:¬(s.en.length:Int)≥4096:=oF hb22
    refine zr (zn<|zk<|yh (g6 :: []) (rr [0,1,2,4,5,6]<|.n 3 (.e 7 (.r 8<|.r 9 .fin) .no) .no) k9 k9 (fun d _ _ _ _ h=>by cases d <;> exact h)<|zl V V (zA 0 6 V V k9 V<|yK 1 V d9 zh)<|zL V V<|zL V V<|zl V V (zc (n:=5) V k9)<|zl V V (zg 0 V V V k9<|yK 1 V d9 zh)<|zl V V (yx (e:=85) V k9)<|yw V (zY (Y2 s k p o9 hp) V ⟨zb _,zb _,zb _,t9⟩ V)<|yy V (zw 1 V V V k9 V mC)<|Zh V V<|Zh V V<|yI<|zK (fn:=Tryz.f32) (fun _ _ h=>h)<|Rs.le (ZR V (zS 1 V V k9) (zj V)<|zj V) ?_)
    have e1:Rnd.recE s k p=0:=by (unfold Rnd.recE;rw [Jb<|Jj ⟨by omega,h17.2.1,h17.2.2⟩,Jb o9])
    exact yn ⟨by rw [Rnd.recS,Jh e1];exact zb _,zF (by rw [Rnd.recI,Jh e1]),zF (by rw [e1]),trivial⟩
theorem con_Of44 (s:Rnd.S) (r:Int) (hg:Rnd.Good s) (hn:s.es.length≤1000000):ConR Tryz.prog 25 [] [Zo [lsD Yz s.bk,lsD YB s.ws,lsD yX s.es,lsD Z8 s.ks,iD s.ck,lsD encE s.en],iD r] (fun _:Unit=>[]) (fun _:Unit=>lsD yX<|yU s r):=by
 have hll:=hg.fine.len;refine yg Tryz.func25 k9 V k9 fun base w0=>(zp (SWl.e2 (S:=[]) (yv V V) fun g2=>(zf V<|zV<|zf V<|ze<|zk<|zk<|Yf 58 5 yX<|zi<|zf V<|ze<|zX<|Zw (ι:={p:Nat × Ust // p.1≤s.bk.length}) (fun p=>zN [(1,iD r),(2,pA g2),(5,isD<|.slice p.1.2.A (Y3 s r p.1.1).length p.1.2.c),(6,iD (p.1.1:Int))] [.c g2 [lsD Yz s.bk,lsD YB s.ws,lsD yX s.es,lsD Z8 s.ks,iD s.ck,lsD encE s.en],.r p.1.2.F<|yP 58 5 yX p.1.2.A p.1.2.c<|Y3 s r p.1.1]) (fun p=>s.bk.length - p.1.1) (⟨(0,⟨none,0,[]⟩),JC _⟩) ?_ ?_)))
 ·exact (sB [0,1] V V)
 ·rintro ⟨⟨i,u⟩,hi⟩ K0 hK0;dsimp only at hi ⊢;refine zk (zp<|zd V<|za V (zc (n:=0) V k9)<|za V (zc (n:=0) V k9)<|za V (zg 0 V V V k9 zh)<|za V (yx (e:=121) V k9)<|za V (yF V V)<|ze<|zJ V (fun hb13=> ?_) (fun hb13=> ?_))
  ·have h13:(i:Int) < (s.bk.length:Int):=oT hb13;refine zr (zn<|zk<|zX<|zk ?_);obtain ⟨x,hx⟩:∃ x,s.bk[i]? =some x:=⟨_,Je o9⟩;have hol:=zeL (s:=s) r (i + 1);rw [Wi hg hx,Jk] at hol;refine zi (zf V<|ze<|zX<|Zw (ι:={p:Nat × Ust // p.1≤s.es.length}) (fun p=>zN [(1,iD r),(2,pA g2),(5,isD<|.slice p.1.2.A (Y3 s r i ++ (s.es.take p.1.1).filter (Rnd.hit r x.name)).length p.1.2.c),(6,iD (i:Int)),(7,iD (p.1.1:Int))] [.c g2 [lsD Yz s.bk,lsD YB s.ws,lsD yX s.es,lsD Z8 s.ks,iD s.ck,lsD encE s.en],.r p.1.2.F<|yP 58 5 yX p.1.2.A p.1.2.c<|Y3 s r i ++ (s.es.take p.1.1).filter (Rnd.hit r x.name)]) (fun p=>s.es.length - p.1.1) (⟨(0,u),JC _⟩) ?_ ?_)
   ·exact ⟨⟨_,V,⟨lq V,⟨lq V,⟨⟨_,V,zF s9⟩,(sT V)⟩⟩⟩⟩,[0,1],by decide,⟨la rfl,⟨⟨_,rfl,ZZ s9 s9⟩,trivial⟩⟩⟩
   ·rintro ⟨⟨k,v⟩,hk⟩ K1 hK1;dsimp only at hk ⊢;refine zk (zp<|zd V<|za V (zc (n:=2) V k9)<|za V (zg 0 V V V k9 zh)<|za V (yx (e:=58) V k9)<|za V (yF V V)<|ze<|zJ V (fun hb20=> ?_) (fun hb20=> ?_))
    ·have h20:(k:Int) < (s.es.length:Int):=oT hb20;refine zr (zn<|zk<|zX<|zk ?_);obtain ⟨e,he⟩:∃ e,s.es[k]? =some e:=⟨_,Je o9⟩;have hfl:((s.es.take k).filter<|Rnd.hit r x.name).length≤(s.es.filter<|Rnd.hit r x.name).length:=((List.take_sublist k s.es).filter _).length_le
     refine yh [] (rr [0,1,2,3,4,5,6,7,8,9,10,11,12,13,14,15,16,17,18,19,20,21,22,23] .fin) k9 k9 (fun d _ _ _ _ h=>by cases d <;> exact h) (zl V V (zc (n:=2) V k9)<|zl V V (zg 0 V V V k9 zh)<|zL V V<|zl V V (yp (e:=58) 5 V V k9 k9 o9 (by simpa using he))<|zl V V (yb (n:=1) V k9 (show 1 < 5 by decide))<|zl V V (ya V V k9 s9)<|zL V V<|zl V V (yM V V)<|zL V V<|YI 31 V (fun hb31=> ?_) (fun hb31=> ?_))
     ·have h31:e.rnd=r:=oT hb31;refine zG V V V hb31 V V (zc (n:=2) V k9) (zG V V V hb31 V V (zg 0 V V V k9 zh)<|zG V V V hb31 V V (zI V)<|zG V V V hb31 V V (yp (e:=58) 5 V V k9 k9 o9 (by simpa using he))<|zG V V V hb31 V V (yb (n:=0) V k9 (show 0 < 5 by decide))<|zG V V V hb31 V V (ya V V k9 s9)<|zG V V V hb31 V V (zc (n:=0) V k9)<|zG V V V hb31 V V (zc (n:=0) V k9)<|zG V V V hb31 V V (zg 0 V V V k9 zh)<|zG V V V hb31 V V (zI V)<|zG V V V hb31 V V (yp (e:=121) 5 V V k9 k9 o9 (by simpa using hx))<|zG V V V hb31 V V (yb (n:=0) V k9 (show 0 < 5 by decide))<|zG V V V hb31 V V (ya V V k9 s9)<|zG V V V hb31 V V (zbB (p:=e.acc) (q:=x.name) V V)<|zl V V (zB V hb31 V)<|yI<|zJ V (fun hb46=> ?_) (fun hb46=> ?_))
      ·have h46:e.acc=x.name:=oT hb46;refine zi (zd V<|za V (zc (n:=2) V k9)<|za V (zg 0 V V V k9 zh)<|zd V<|za V (yp (e:=58) 5 V V k9 k9 o9 (by simpa using he))<|za V (ZK 5 V k9 d9 (show 5≤5 by decide) s9)<|zt (S:=[]) (ZL V V (zeA e) V) (SWl.e4 (yN 1 5 80 V V (SrcT.ls (l:=[e]) V) k9 k9 (by simp only [Jk,Xm,List.length_nil];omega) d9 (fun _ h=>h) V) fun A54 F54 c54=>(zf V<|zP<|yc<|zn<|zi<|zd V<|za V (yC V V ⟨by omega,by omega⟩)<|zf V<|zP ?_)));have hF:=Kf (p:=Rnd.hit r x.name) he;rw [Jh (show Rnd.hit r x.name e=true from Jo ⟨h31,h46⟩)] at hF
       exact fun a w hh=>hK1 (⟨(k + 1,⟨A54,c54,F54⟩),by dsimp only;omega⟩) (by dsimp only;omega) a w (hh.sub<|⟨⟨_,V,⟨lq V,⟨lq V,⟨⟨_,V,zF (by first | rw [hF,← List.append_assoc] | rw [hF])⟩,⟨lq V,⟨⟨_,V,zF s9⟩,t9⟩⟩⟩⟩⟩⟩,[0,1],by decide,⟨la rfl,⟨⟨_,rfl,ZZ (by first | rw [hF,← List.append_assoc] | rw [hF]) (by first | rw [hF,← List.append_assoc] | rw [hF])⟩,trivial⟩⟩⟩)
      ·have h46:¬e.acc=x.name:=oF hb46;refine zr (yc<|zn<|zi<|zd V<|za V (yC V V ⟨by omega,by omega⟩)<|zf V<|zP ?_);have hF:=Kf (p:=Rnd.hit r x.name) he
       rw [Jb (fun (h:Rnd.hit r x.name e=true)=>by have h2:=oT h;first | exact h31 h2.1 | exact h46 h2.2),JS] at hF
       exact fun a w hh=>hK1 (⟨(k + 1,v),by dsimp only;omega⟩) (by dsimp only;omega) a w (hh.sub<|⟨⟨_,V,⟨lq V,⟨lq V,⟨⟨_,V,zF (by first | rw [hF,← List.append_assoc] | rw [hF])⟩,⟨lq V,⟨⟨_,V,zF s9⟩,t9⟩⟩⟩⟩⟩⟩,[0,1],by decide,⟨la rfl,⟨⟨_,rfl,ZZ (by first | rw [hF,← List.append_assoc] | rw [hF]) (by first | rw [hF,← List.append_assoc] | rw [hF])⟩,trivial⟩⟩⟩)
     ·have h31:¬e.rnd=r:=oF hb31;refine zH V V V hb31 V V (zH V V V hb31 V V<|zH V V V hb31 V V<|zH V V V hb31 V V<|zH V V V hb31 V V<|zH V V V hb31 V V<|zH V V V hb31 V V<|zH V V V hb31 V V<|zH V V V hb31 V V<|zH V V V hb31 V V<|zH V V V hb31 V V<|zH V V V hb31 V V<|zH V V V hb31 V V<|zH V V V hb31 V V<|zl V V (zv V hb31 V)<|yI<|zE V V<|zr<|yc<|zn<|zi<|zd V<|za V (yC V V ⟨by omega,by omega⟩)<|zf V<|zP ?_);have hF:=Kf (p:=Rnd.hit r x.name) he
      rw [Jb (fun (h:Rnd.hit r x.name e=true)=>by have h2:=oT h;first | exact h31 h2.1 | exact h46 h2.2),JS] at hF
      exact fun a w hh=>hK1 (⟨(k + 1,v),by dsimp only;omega⟩) (by dsimp only;omega) a w (hh.sub<|⟨⟨_,V,⟨lq V,⟨lq V,⟨⟨_,V,zF (by first | rw [hF,← List.append_assoc] | rw [hF])⟩,⟨lq V,⟨⟨_,V,zF s9⟩,t9⟩⟩⟩⟩⟩⟩,[0,1],by decide,⟨la rfl,⟨⟨_,rfl,ZZ (by first | rw [hF,← List.append_assoc] | rw [hF]) (by first | rw [hF,← List.append_assoc] | rw [hF])⟩,trivial⟩⟩⟩)
    ·have h20:¬(k:Int) < (s.es.length:Int):=oF hb20;refine yZ ?_
     repeat (first | refine Ze ?_ | refine Zf d9 ?_)
     refine Zn (yc<|zn<|zi<|zd V<|za V (yC V V ⟨by omega,by omega⟩)<|zf V<|zP ?_)
     have hE:Y3 s r (i + 1)=Y3 s r i ++ (s.es.take k).filter (Rnd.hit r x.name):=by rw [Wi hg hx,Ji o9]
     exact fun a w hh=>hK0 (⟨(i + 1,v),by dsimp only;omega⟩) (by dsimp only;omega) a w (hh.sub<|⟨⟨_,V,⟨lq V,⟨lq V,⟨⟨_,V,zF (by rw [hE])⟩,⟨⟨_,V,zF s9⟩,t9⟩⟩⟩⟩⟩,[0,1],by decide,⟨la rfl,⟨⟨_,rfl,ZZ (by rw [hE]) (by rw [hE])⟩,trivial⟩⟩⟩)
  ·have h13:¬(i:Int) < (s.bk.length:Int):=oF hb13;refine yZ ?_
   repeat (first | refine Ze ?_ | refine Zf d9 ?_)
   refine Zn (zn<|zp<|zd V<|zf V<|ze<|qk 1 4 V V (zb _)<|zQ (fn:=Tryz.f25) (()) [] (fun _ _ h=>h) (Rs.le (Rs.one V<|zj V) ?_) d9 t9);rw [show i=s.bk.length by omega,zeM hg];exact zb _
