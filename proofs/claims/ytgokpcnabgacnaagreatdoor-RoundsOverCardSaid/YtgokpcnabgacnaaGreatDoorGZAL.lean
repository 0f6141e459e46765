/- ACCOUNTS: the reference's Name, Valid, Same, At, Of. ACCOUNTS: the reference's Remove, Add. -/
import Derived.Test.YtgokpcnabgacnaaGreatDoorGZAK
set_option maxHeartbeats 8000000
set_option maxRecDepth 100000
namespace Go.Proofs.YtgokpcnabgacnaaGreatDoor
open Go.RowKit
namespace Sx
section
theorem zex (s:LB) (hs:s.length≤1000000):ConN Tryz.prog 141 [yY s] (yj<|decide (Acc.isName s)):=by
 refine yO Tryz.func141 k9 V k9 fun base w0=>(zp<|zf V<|ze<|zk<|zp<|zf V<|ze<|zX<|Zw (ι:={i:Nat // i≤s.length∧∀ c∈s.take i,Acc.chr c}) (fun i=>zN [(0,yY s),(3,iD (i.1:Int))] []) (fun i=>s.length - i.1) (⟨0,JC _,by simp⟩) ?_ ?_)
 ·exact (sB [] V V)
 ·rintro ⟨i,hi⟩ K0 hK0;dsimp only at hi ⊢;refine zk (zp<|zd V<|zd V<|za V (Kr V k9)<|za V (yF V V)<|ze<|zJ V (fun hb7=> ?_) (fun hb7=> ?_))
  ·have h7:=oT hb7;refine zr (zn<|zk<|zX<|zk ?_);obtain ⟨c,hc⟩:∃ c,s[i]? =some c:=⟨_,Je o9⟩;refine zi (zd V<|zd V<|za V (jl V V k9 o9 (by simpa using hc))<|za V (ZB V V)<|zd V<|zU 14 V (fun hb14=> ?_) (fun hb14=> ?_))
   ·have h14:=oT hb14;refine zy hb14 (zI V) (zy hb14 (zI V)<|zy hb14 (jl V V k9 o9 (by simpa using hc))<|zy hb14 (YR V V)<|za V (zB V hb14 V)<|zd V<|zU 20 V (fun hb20=> ?_) (fun hb20=> ?_))
    ·have h20:=oT hb20;refine zq hb20 (zq hb20<|zq hb20<|zq hb20<|zq hb20<|YQ V V V V<|YQ V V V V<|YQ V V V V<|YQ V V V V<|zq hb20<|za V (zB V hb20 V)<|zd V<|zq V<|zq V<|zq V<|zq V<|za V (zB V V V)<|za V (yS V)<|ze<|zE V V<|zr<|yc<|zn<|zi<|zd V<|za V (yC V V ⟨by omega,by omega⟩)<|zf V<|zP ?_)
     have hgood:Acc.chr c:=by first | (unfold Acc.chr;omega) | ((have h38:=hb38;simp only [JX,Jz] at h38);unfold Acc.chr;omega)
     exact fun a w hh=>hK0 (⟨i + 1,by omega,fun d hd=>by rw [yr hc] at hd;rcases List.mem_append.1 hd with hd | hd;exact hi.2 d hd;rw [List.mem_singleton.1 hd];exact hgood⟩) (by dsimp only;omega) a w (hh.sub<|⟨⟨_,V,⟨lq V,⟨⟨_,V,zF s9⟩,t9⟩⟩⟩,[],by decide,trivial⟩)
    ·have h20:=oF hb20;refine zy hb20 (zI V) (zy hb20 (zI V)<|zy hb20 (jl V V k9 o9 (by simpa using hc))<|zy hb20 (ZB V V)<|zy hb20 (zI V)<|zU 25 V (fun hb25=> ?_) (fun hb25=> ?_))
     ·have h25:=oT hb25;refine zy hb25 (zI V) (zy hb25 (zI V)<|zy hb25 (jl V V k9 o9 (by simpa using hc))<|zy hb25 (YR V V)<|zy hb20 (zB V hb25 V)<|za V (zv V hb20 V)<|zd V<|zU 32 V (fun hb32=> ?_) (fun hb32=> ?_))
      ·have h32:=oT hb32;refine zq hb32 (zq hb32<|zq hb32<|zq hb32<|za V (zB V hb32 V)<|za V (yS V)<|ze<|zE V V<|zr<|yc<|zn<|zi<|zd V<|za V (yC V V ⟨by omega,by omega⟩)<|zf V<|zP ?_)
       have hgood:Acc.chr c:=by first | (unfold Acc.chr;omega) | ((have h38:=hb38;simp only [JX,Jz] at h38);unfold Acc.chr;omega)
       exact fun a w hh=>hK0 (⟨i + 1,by omega,fun d hd=>by rw [yr hc] at hd;rcases List.mem_append.1 hd with hd | hd;exact hi.2 d hd;rw [List.mem_singleton.1 hd];exact hgood⟩) (by dsimp only;omega) a w (hh.sub<|⟨⟨_,V,⟨lq V,⟨⟨_,V,zF s9⟩,t9⟩⟩⟩,[],by decide,trivial⟩)
      ·have h32:=oF hb32;refine zy hb32 (zI V) (zy hb32 (zI V)<|zy hb32 (jl V V k9 o9 (by simpa using hc))<|zy hb32 (yM V V)<|za V (zv V hb32 V)<|za V (yS V)<|ze<|zJ V (fun hb38=> ?_) (fun hb38=> ?_))
       ·have hbad:¬Acc.chr c:=by (have h38:=hb38;simp only [XF,Xi] at h38);unfold Acc.chr;omega
        refine zp (zf V<|ze<|zK (fn:=Tryz.f141) (fun _ _ h=>h)<|Rs.le (Rs.one V<|zj V) ?_)
        first | exact Le.trans (yi (fun h=>hbad<|h.1 c<|Jc hc)) zu | exact Le.trans (yi (fun h=>by have:=h.2.1;omega)) zu | exact Le.trans (Yp ⟨fun h=>⟨fun d hd=>hi.2 d (by rw [Ji o9];exact hd),by omega,by omega⟩,fun h=>by have:=h.2.2;omega⟩) zu
       ·skip
        refine zr (yc<|zn<|zi<|zd V<|za V (yC V V ⟨by omega,by omega⟩)<|zf V<|zP ?_)
        have hgood:Acc.chr c:=by first | (unfold Acc.chr;omega) | ((have h38:=hb38;simp only [JX,Jz] at h38);unfold Acc.chr;omega)
        exact fun a w hh=>hK0 (⟨i + 1,by omega,fun d hd=>by rw [yr hc] at hd;rcases List.mem_append.1 hd with hd | hd;exact hi.2 d hd;rw [List.mem_singleton.1 hd];exact hgood⟩) (by dsimp only;omega) a w (hh.sub<|⟨⟨_,V,⟨lq V,⟨⟨_,V,zF s9⟩,t9⟩⟩⟩,[],by decide,trivial⟩)
     ·have h25:=oF hb25;refine zq hb25 (zq hb25<|zq hb25<|zq hb25<|zy hb20 (zv V hb25 V)<|za V (zv V hb20 V)<|zd V<|zy V (zI V)<|zy V (zI V)<|zy V (jl V V k9 o9 (by simpa using hc))<|zy V (yM V V)<|za V (zv V V V)<|za V (yS V)<|ze<|zJ V (fun hb38=> ?_) (fun hb38=> ?_))
      ·have hbad:¬Acc.chr c:=by (have h38:=hb38;simp only [XF,Xi] at h38);unfold Acc.chr;omega
       refine zp (zf V<|ze<|zK (fn:=Tryz.f141) (fun _ _ h=>h)<|Rs.le (Rs.one V<|zj V) ?_)
       first | exact Le.trans (yi (fun h=>hbad<|h.1 c<|Jc hc)) zu | exact Le.trans (yi (fun h=>by have:=h.2.1;omega)) zu | exact Le.trans (Yp ⟨fun h=>⟨fun d hd=>hi.2 d (by rw [Ji o9];exact hd),by omega,by omega⟩,fun h=>by have:=h.2.2;omega⟩) zu
      ·skip
       refine zr (yc<|zn<|zi<|zd V<|za V (yC V V ⟨by omega,by omega⟩)<|zf V<|zP ?_)
       have hgood:Acc.chr c:=by first | (unfold Acc.chr;omega) | ((have h38:=hb38;simp only [JX,Jz] at h38);unfold Acc.chr;omega)
       exact fun a w hh=>hK0 (⟨i + 1,by omega,fun d hd=>by rw [yr hc] at hd;rcases List.mem_append.1 hd with hd | hd;exact hi.2 d hd;rw [List.mem_singleton.1 hd];exact hgood⟩) (by dsimp only;omega) a w (hh.sub<|⟨⟨_,V,⟨lq V,⟨⟨_,V,zF s9⟩,t9⟩⟩⟩,[],by decide,trivial⟩)
   ·have h14:=oF hb14;refine zq hb14 (zq hb14<|zq hb14<|zq hb14<|za V (zv V hb14 V)<|zd V<|zy V (zI V)<|zy V (zI V)<|zy V (jl V V k9 o9 (by simpa using hc))<|zy V (ZB V V)<|zy V (zI V)<|zU 25 V (fun hb25=> ?_) (fun hb25=> ?_))
    ·have h25:=oT hb25;refine zy hb25 (zI V) (zy hb25 (zI V)<|zy hb25 (jl V V k9 o9 (by simpa using hc))<|zy hb25 (YR V V)<|zy V (zB V hb25 V)<|za V (zv V V V)<|zd V<|zU 32 V (fun hb32=> ?_) (fun hb32=> ?_))
     ·have h32:=oT hb32;refine zq hb32 (zq hb32<|zq hb32<|zq hb32<|za V (zB V hb32 V)<|za V (yS V)<|ze<|zE V V<|zr<|yc<|zn<|zi<|zd V<|za V (yC V V ⟨by omega,by omega⟩)<|zf V<|zP ?_)
      have hgood:Acc.chr c:=by first | (unfold Acc.chr;omega) | ((have h38:=hb38;simp only [JX,Jz] at h38);unfold Acc.chr;omega)
      exact fun a w hh=>hK0 (⟨i + 1,by omega,fun d hd=>by rw [yr hc] at hd;rcases List.mem_append.1 hd with hd | hd;exact hi.2 d hd;rw [List.mem_singleton.1 hd];exact hgood⟩) (by dsimp only;omega) a w (hh.sub<|⟨⟨_,V,⟨lq V,⟨⟨_,V,zF s9⟩,t9⟩⟩⟩,[],by decide,trivial⟩)
     ·have h32:=oF hb32;refine zy hb32 (zI V) (zy hb32 (zI V)<|zy hb32 (jl V V k9 o9 (by simpa using hc))<|zy hb32 (yM V V)<|za V (zv V hb32 V)<|za V (yS V)<|ze<|zJ V (fun hb38=> ?_) (fun hb38=> ?_))
      ·have hbad:¬Acc.chr c:=by (have h38:=hb38;simp only [XF,Xi] at h38);unfold Acc.chr;omega
       refine zp (zf V<|ze<|zK (fn:=Tryz.f141) (fun _ _ h=>h)<|Rs.le (Rs.one V<|zj V) ?_)
       first | exact Le.trans (yi (fun h=>hbad<|h.1 c<|Jc hc)) zu | exact Le.trans (yi (fun h=>by have:=h.2.1;omega)) zu | exact Le.trans (Yp ⟨fun h=>⟨fun d hd=>hi.2 d (by rw [Ji o9];exact hd),by omega,by omega⟩,fun h=>by have:=h.2.2;omega⟩) zu
      ·skip
       refine zr (yc<|zn<|zi<|zd V<|za V (yC V V ⟨by omega,by omega⟩)<|zf V<|zP ?_)
       have hgood:Acc.chr c:=by first | (unfold Acc.chr;omega) | ((have h38:=hb38;simp only [JX,Jz] at h38);unfold Acc.chr;omega)
       exact fun a w hh=>hK0 (⟨i + 1,by omega,fun d hd=>by rw [yr hc] at hd;rcases List.mem_append.1 hd with hd | hd;exact hi.2 d hd;rw [List.mem_singleton.1 hd];exact hgood⟩) (by dsimp only;omega) a w (hh.sub<|⟨⟨_,V,⟨lq V,⟨⟨_,V,zF s9⟩,t9⟩⟩⟩,[],by decide,trivial⟩)
    ·have h25:=oF hb25;refine zq hb25 (zq hb25<|zq hb25<|zq hb25<|zy V (zv V hb25 V)<|za V (zv V V V)<|zd V<|zy V (zI V)<|zy V (zI V)<|zy V (jl V V k9 o9 (by simpa using hc))<|zy V (yM V V)<|za V (zv V V V)<|za V (yS V)<|ze<|zJ V (fun hb38=> ?_) (fun hb38=> ?_))
     ·have hbad:¬Acc.chr c:=by (have h38:=hb38;simp only [XF,Xi] at h38);unfold Acc.chr;omega
      refine zp (zf V<|ze<|zK (fn:=Tryz.f141) (fun _ _ h=>h)<|Rs.le (Rs.one V<|zj V) ?_)
      first | exact Le.trans (yi (fun h=>hbad<|h.1 c<|Jc hc)) zu | exact Le.trans (yi (fun h=>by have:=h.2.1;omega)) zu | exact Le.trans (Yp ⟨fun h=>⟨fun d hd=>hi.2 d (by rw [Ji o9];exact hd),by omega,by omega⟩,fun h=>by have:=h.2.2;omega⟩) zu
     ·skip
      refine zr (yc<|zn<|zi<|zd V<|za V (yC V V ⟨by omega,by omega⟩)<|zf V<|zP ?_)
      have hgood:Acc.chr c:=by first | (unfold Acc.chr;omega) | ((have h38:=hb38;simp only [JX,Jz] at h38);unfold Acc.chr;omega)
      exact fun a w hh=>hK0 (⟨i + 1,by omega,fun d hd=>by rw [yr hc] at hd;rcases List.mem_append.1 hd with hd | hd;exact hi.2 d hd;rw [List.mem_singleton.1 hd];exact hgood⟩) (by dsimp only;omega) a w (hh.sub<|⟨⟨_,V,⟨lq V,⟨⟨_,V,zF s9⟩,t9⟩⟩⟩,[],by decide,trivial⟩)
  ·have h7:=oF hb7;refine yZ ?_
   repeat (first | refine Ze ?_ | refine Zf d9 ?_)
   refine Zn (zn<|zp<|zd V<|za V (Kr V k9)<|za V (ZB V V)<|zd V<|zU 42 V (fun hb42=> ?_) (fun hb42=> ?_))
   ·have h42:=oT hb42;refine zy hb42 (zI V) (zy hb42 (Kr V k9)<|zy hb42 (YR V V)<|za V (zB V hb42 V)<|zf V<|ze<|zK (fn:=Tryz.f141) (fun _ _ h=>h)<|Rs.le (Rs.one V<|zj V) ?_)
    first | exact Le.trans (yi (fun h=>hbad<|h.1 c<|Jc hc)) zu | exact Le.trans (yi (fun h=>by have:=h.2.1;omega)) zu | exact Le.trans (Yp ⟨fun h=>⟨fun d hd=>hi.2 d (by rw [Ji o9];exact hd),by omega,by omega⟩,fun h=>by have:=h.2.2;omega⟩) zu
   ·have h42:=oF hb42;refine zq hb42 (zq hb42<|zq hb42<|za V (zv V hb42 V)<|zf V<|ze<|zK (fn:=Tryz.f141) (fun _ _ h=>h)<|Rs.le (Rs.one V<|zj V) ?_)
    first | exact Le.trans (yi (fun h=>hbad<|h.1 c<|Jc hc)) zu | exact Le.trans (yi (fun h=>by have:=h.2.1;omega)) zu | exact Le.trans (Yp ⟨fun h=>⟨fun d hd=>hi.2 d (by rw [Ji o9];exact hd),by omega,by omega⟩,fun h=>by have:=h.2.2;omega⟩) zu
theorem zhB (nm:LB) (role:Int) (kl:Nat) (dep num:Int) (hs:nm.length≤1000000):ConN Tryz.prog 111 [Zo [yY nm,iD role,zfi kl,iD dep,iD num]] (yj<|decide (Acc.okN nm role kl dep num)):=by
 refine yO Tryz.func111 k9 V k9 fun base w0=>(zp (SWl.e2 (S:=[]) (yv V V) fun g1=>(zf V<|zV<|zf V<|ze<|zk<|Ys (fun σ=>σ=zN [(1,pA g1),(3,iD (if role=1 then 512 else 0:Int))] [.c g1 [yY nm,iD role,zfi kl,iD dep,iD num]]) ?_ ?_)))
 ·skip
  refine zp (za V (zc (n:=1) V k9)<|za V (zg 0 V V V k9 zh)<|za V (yM V V)<|ze<|zJ V (fun hb6=> ?_) (fun hb6=> ?_))
  ·have hc:=oT hb6;exact zi (zf V<|zP<|yA V<|⟨⟨_,V,⟨lq V,⟨⟨_,V,zF (by rw [Jh hc])⟩,t9⟩⟩⟩,[0],by decide,⟨la rfl,trivial⟩⟩)
  ·have hc:=oF hb6;exact zr (yA V<|⟨⟨_,V,⟨lq V,⟨⟨_,V,zF (by rw [Jb hc])⟩,t9⟩⟩⟩,[0],by decide,⟨la rfl,trivial⟩⟩)
 ·rintro _ rfl
  refine zn (zk<|Ys (fun σ=>σ=zN [(1,pA g1),(3,iD (if role=2 then 32 else (if role=1 then 512 else 0:Int):Int))] [.c g1 [yY nm,iD role,zfi kl,iD dep,iD num]]) ?_ ?_)
  ·skip
   refine zp (za V (zc (n:=1) V k9)<|za V (zg 0 V V V k9 zh)<|za V (yM V V)<|ze<|zJ V (fun hb9=> ?_) (fun hb9=> ?_))
   ·have hc:=oT hb9;exact zi (zf V<|zP<|yA V<|⟨⟨_,V,⟨lq V,⟨⟨_,V,zF (by rw [Jh hc])⟩,t9⟩⟩⟩,[0],by decide,⟨la rfl,trivial⟩⟩)
   ·have hc:=oF hb9;exact zr (yA V<|⟨⟨_,V,⟨lq V,⟨⟨_,V,zF (by rw [Jb hc])⟩,t9⟩⟩⟩,[0],by decide,⟨la rfl,trivial⟩⟩)
  ·rintro _ rfl
   refine zn (zk<|Ys (fun σ=>σ=zN [(1,pA g1),(3,iD (if role=3 then 1 else (if role=2 then 32 else (if role=1 then 512 else 0:Int):Int):Int))] [.c g1 [yY nm,iD role,zfi kl,iD dep,iD num]]) ?_ ?_)
   ·skip
    refine zp (za V (zc (n:=1) V k9)<|za V (zg 0 V V V k9 zh)<|za V (yM V V)<|ze<|zJ V (fun hb12=> ?_) (fun hb12=> ?_))
    ·have hc:=oT hb12;exact zi (zf V<|zP<|yA V<|⟨⟨_,V,⟨lq V,⟨⟨_,V,zF (by rw [Jh hc])⟩,t9⟩⟩⟩,[0],by decide,⟨la rfl,trivial⟩⟩)
    ·have hc:=oF hb12;exact zr (yA V<|⟨⟨_,V,⟨lq V,⟨⟨_,V,zF (by rw [Jb hc])⟩,t9⟩⟩⟩,[0],by decide,⟨la rfl,trivial⟩⟩)
   ·rintro _ rfl;refine zn (zp<|za V (zc (n:=0) V k9)<|za V (zg 0 V V V k9 zh)<|zt (S:=[]) (zD [] (zex nm hs) V ⟨(zo<|zb _),t9⟩ V)<|zd V<|zU 16 V (fun hb16=> ?_) (fun hb16=> ?_))
    ·have h16:=oT hb16;refine zy hb16 (zc (n:=2) V k9) (zy hb16 (zg 0 V V V k9 zh)<|zy hb16 (Ks (e:=5) V k9)<|zy hb16 (yM V V)<|za V (zB V hb16 V)<|zd V<|zU 22 V (fun hb22=> ?_) (fun hb22=> ?_))
     ·have h22:kl=32:=by have h:=oT hb22;omega
      refine zy hb22 (zc (n:=3) V k9) (zy hb22 (zg 0 V V V k9 zh)<|zy hb22 (ZB V V)<|za V (zB V hb22 V)<|zd V<|zU 27 V (fun hb27=> ?_) (fun hb27=> ?_))
      ·have h27:=oT hb27;refine zy hb27 (zc (n:=3) V k9) (zy hb27 (zg 0 V V V k9 zh)<|zy hb27 (YR V V)<|za V (zB V hb27 V)<|zd V<|zU 32 V (fun hb32=> ?_) (fun hb32=> ?_))
       ·have h32:=oT hb32;refine zy hb32 (zc (n:=4) V k9) (zy hb32 (zg 0 V V V k9 zh)<|zy hb32 (ZB V V)<|za V (zB V hb32 V)<|zd V<|zU 37 V (fun hb37=> ?_) (fun hb37=> ?_))
        ·have h37:=oT hb37;refine zy hb37 (zc (n:=4) V k9) (zy hb37 (zg 0 V V V k9 zh)<|zy hb37 (zI V)<|zy hb37 (yF V V)<|za V (zB V hb37 V)<|zf V<|ze<|zK (fn:=Tryz.f111) (fun _ _ h=>h)<|Rs.le (Rs.one V<|zj V) ?_)
         first | exact Le.trans (yi (fun h=>h16 h.1)) zu | exact Le.trans (yi (fun h=>h22 h.2.1)) zu | exact Le.trans (yi (fun h=>by have h1:=h.2.2.1;have h2:=h.2.2.2.1;have h3:=h.2.2.2.2.1;omega)) zu | exact Le.trans (Yp (by rw [qm h16 h22 h27 h32 h37,qn])) zu
        ·have h37:=oF hb37;refine zq hb37 (zq hb37<|zq hb37<|zq hb37<|za V (zv V hb37 V)<|zf V<|ze<|zK (fn:=Tryz.f111) (fun _ _ h=>h)<|Rs.le (Rs.one V<|zj V) ?_)
         first | exact Le.trans (yi (fun h=>h16 h.1)) zu | exact Le.trans (yi (fun h=>h22 h.2.1)) zu | exact Le.trans (yi (fun h=>by have h1:=h.2.2.1;have h2:=h.2.2.2.1;have h3:=h.2.2.2.2.1;omega)) zu | exact Le.trans (Yp (by rw [qm h16 h22 h27 h32 h37,qn])) zu
       ·have h32:=oF hb32;refine zq hb32 (zq hb32<|zq hb32<|za V (zv V hb32 V)<|zd V<|zq V<|zq V<|zq V<|zq V<|za V (zv V V V)<|zf V<|ze<|zK (fn:=Tryz.f111) (fun _ _ h=>h)<|Rs.le (Rs.one V<|zj V) ?_)
        first | exact Le.trans (yi (fun h=>h16 h.1)) zu | exact Le.trans (yi (fun h=>h22 h.2.1)) zu | exact Le.trans (yi (fun h=>by have h1:=h.2.2.1;have h2:=h.2.2.2.1;have h3:=h.2.2.2.2.1;omega)) zu | exact Le.trans (Yp (by rw [qm h16 h22 h27 h32 h37,qn])) zu
      ·have h27:=oF hb27;refine zq hb27 (zq hb27<|zq hb27<|za V (zv V hb27 V)<|zd V<|zq V<|zq V<|zq V<|za V (zv V V V)<|zd V<|zq V<|zq V<|zq V<|zq V<|za V (zv V V V)<|zf V<|ze<|zK (fn:=Tryz.f111) (fun _ _ h=>h)<|Rs.le (Rs.one V<|zj V) ?_)
       first | exact Le.trans (yi (fun h=>h16 h.1)) zu | exact Le.trans (yi (fun h=>h22 h.2.1)) zu | exact Le.trans (yi (fun h=>by have h1:=h.2.2.1;have h2:=h.2.2.2.1;have h3:=h.2.2.2.2.1;omega)) zu | exact Le.trans (Yp (by rw [qm h16 h22 h27 h32 h37,qn])) zu
     ·have h22:¬kl=32:=by have h:=oF hb22;omega
      refine zq hb22 (zq hb22<|zq hb22<|za V (zv V hb22 V)<|zd V<|zq V<|zq V<|zq V<|za V (zv V V V)<|zd V<|zq V<|zq V<|zq V<|za V (zv V V V)<|zd V<|zq V<|zq V<|zq V<|zq V<|za V (zv V V V)<|zf V<|ze<|zK (fn:=Tryz.f111) (fun _ _ h=>h)<|Rs.le (Rs.one V<|zj V) ?_)
      first | exact Le.trans (yi (fun h=>h16 h.1)) zu | exact Le.trans (yi (fun h=>h22 h.2.1)) zu | exact Le.trans (yi (fun h=>by have h1:=h.2.2.1;have h2:=h.2.2.2.1;have h3:=h.2.2.2.2.1;omega)) zu | exact Le.trans (Yp (by rw [qm h16 h22 h27 h32 h37,qn])) zu
    ·have h16:=oF hb16;refine zq hb16 (zq hb16<|zq hb16<|zq hb16<|za V (zv V hb16 V)<|zd V<|zq V<|zq V<|zq V<|za V (zv V V V)<|zd V<|zq V<|zq V<|zq V<|za V (zv V V V)<|zd V<|zq V<|zq V<|zq V<|za V (zv V V V)<|zd V<|zq V<|zq V<|zq V<|zq V<|za V (zv V V V)<|zf V<|ze<|zK (fn:=Tryz.f111) (fun _ _ h=>h)<|Rs.le (Rs.one V<|zj V) ?_)
     first | exact Le.trans (yi (fun h=>h16 h.1)) zu | exact Le.trans (yi (fun h=>h22 h.2.1)) zu | exact Le.trans (yi (fun h=>by have h1:=h.2.2.1;have h2:=h.2.2.2.1;have h3:=h.2.2.2.2.1;omega)) zu | exact Le.trans (Yp (by rw [qm h16 h22 h27 h32 h37,qn])) zu
theorem con_AtR (l:List Acc.T) (n:LB) (hl:l.length≤1000000):ConN Tryz.prog 176 [Zo [lsD Yz l],yY n] (iD<|Vw l n):=by
 refine yO Tryz.func176 k9 V k9 fun base w0=>(zp (SWl.e2 (S:=[]) (yv V V) fun g2=>(zf V<|ze<|zk<|zp<|zf V<|ze<|zX<|Zw (ι:={i:Nat // i≤l.length∧∀ y∈l.take i,y.name≠n}) (fun i=>zN [(1,yY n),(2,pA g2),(5,iD (i.1:Int))] [.c g2 [lsD Yz l]]) (fun i=>l.length - i.1) (⟨0,JC _,by simp⟩) ?_ ?_)))
 ·exact (sB [0] V V)
 ·rintro ⟨i,hi⟩ K0 hK0;dsimp only at hi ⊢;refine zk (zp<|zd V<|za V (zc (n:=0) V k9)<|za V (zg 0 V V V k9 zh)<|za V (yx (e:=121) V k9)<|za V (yF V V)<|ze<|zJ V (fun hb10=> ?_) (fun hb10=> ?_))
  ·have h10:=oT hb10;refine zr (zn<|zk<|zX<|zk ?_);obtain ⟨x,hx⟩:∃ x,l[i]? =some x:=⟨_,Je o9⟩;refine zi (za V (zc (n:=0) V k9)<|za V (zg 0 V V V k9 zh)<|zd V<|za V (yp (e:=121) 5 V V k9 k9 o9 (by simpa using hx))<|za V (yb (n:=0) V k9 (show 0 < 5 by decide))<|za V (ya V V k9 s9)<|zd V<|za V (zbB (p:=x.name) (q:=n) V V)<|ze<|zJ V (fun hb20=> ?_) (fun hb20=> ?_))
   ·have h20:=oT hb20;refine zp (zd V<|zf V<|ze<|zK (fn:=Tryz.f176) (fun _ _ h=>h)<|Rs.le (Rs.one V<|zj V) ?_);exact Le.trans (zF (by rw [zac hx h20 hi.2])) zu
   ·have h20:=oF hb20;exact zr (yc<|zn<|zi<|zd V<|za V (yC V V ⟨by omega,by omega⟩)<|zf V<|zP (fun a w hh=>hK0 (⟨i + 1,by omega,fun d hd=>by rw [yr hx] at hd;rcases List.mem_append.1 hd with hd | hd;exact hi.2 d hd;rw [List.mem_singleton.1 hd];exact h20⟩) (by dsimp only;omega) a w<|hh.sub<|⟨⟨_,V,⟨lq V,⟨lq V,⟨⟨_,V,zF s9⟩,t9⟩⟩⟩⟩,[0],by decide,⟨la rfl,trivial⟩⟩))
  ·have h10:=oF hb10;refine yZ ?_
   repeat (first | refine Ze ?_ | refine Zf d9 ?_)
   refine Zn (zn<|zp<|zf V<|ze<|zK (fn:=Tryz.f176) (fun _ _ h=>h)<|Rs.le (Rs.one V<|zj V) ?_);exact Le.trans (zF (by rw [zcM (fun y hy=>hi.2 y (by rw [Ji o9];exact hy))])) zu
end
section
theorem con_AddR (l:List Acc.T) (a:Acc.T) (hf:Acc.Fine l) (hs:a.name.length≤1000000):ConR Tryz.prog 50 [] [Zo [lsD Yz l],Zo [yY a.name,iD a.role,bD a.key,iD a.dep,iD a.num]] (fun _:Unit=>[]) (fun _:Unit=>Yk [Zo [lsD Yz (Acc.add l a).1],iD (Acc.add l a).2]):=by
 have hll:=hf.len;refine yg Tryz.func50 k9 V k9 fun base w0=>(zp (SWl.e2 (S:=[]) (yv V V) fun g2=>(SWl.e2 (S:=[]) (yv V V) fun g3=>(SWl.e2 (S:=[]) (zM (zs:=[.slice none 0 0]) k9 V) fun g4=>(zf V<|ze<|zk<|zp<|za V (zA 1 5 V V k9 V zh)<|zt (S:=[]) (zD [] (zhB a.name a.role a.key.length a.dep a.num hs) V ⟨(zo<|ZM ⟨zb _,zb _,ZV,zb _,zb _,t9⟩),t9⟩ V)<|za V (yS V)<|ze<|zJ V (fun hb12=> ?_) (fun hb12=> ?_))))))
 ·have h12:¬Acc.ok a:=by have h:=hb12;simp at h;exact h
  refine zp (za V (zA 0 1 V V k9 V zh)<|zt (S:=[_]) (zw 2 V V V k9 V<|m9 V)<|zf V<|ze<|zQ (fn:=Tryz.f50) (()) [] (fun _ _ h=>h) (Rs.le (ym V (zS 2 V V k9)<|zj V) ?_) d9 t9);exact yn ⟨ZM ⟨by rw [YY h12];exact zb _,trivial⟩,zF (by rw [YY h12]),t9⟩
 ·have h12:Acc.ok a:=by have h:=hb12;simp at h;exact h
  refine zr (zn<|zp<|zf V<|ze<|zk<|Yf 121 5 Yz<|zi<|zf V<|ze<|zk<|zp<|zf V<|ze<|zX<|Zw (ι:={p:Nat × Ust // p.1≤l.length∧∀ y∈l.take p.1,¬Acc.clash a y}) (fun p=>zN [(2,pA g2),(3,pA g3),(4,pA g4),(6,isD<|.slice p.1.2.A (Acc.out l a p.1.1).length p.1.2.c),(7,yj<|decide (Acc.pos l a.name < p.1.1)),(8,iD (p.1.1:Int))] [.c g2 [lsD Yz l],.c g3 [yY a.name,iD a.role,bD a.key,iD a.dep,iD a.num],.c g4 [isD<|.slice none 0 0],.r p.1.2.F<|yP 121 5 Yz p.1.2.A p.1.2.c<|Acc.out l a p.1.1]) (fun p=>l.length - p.1.1) (⟨(0,⟨none,0,[]⟩),JC _,by simp⟩) ?_ ?_)
  ·exact ⟨⟨_,V,⟨lq V,⟨lq V,⟨lq V,⟨⟨_,V,zF (by dsimp only;rw [zdz];rfl)⟩,⟨⟨_,V,zF s9⟩,⟨lq V,t9⟩⟩⟩⟩⟩⟩⟩,[0,1,2,3],by decide,⟨la rfl,⟨la rfl,⟨la rfl,⟨⟨_,rfl,ZZ (by dsimp only;rw [zdz]) (by dsimp only;rw [zdz])⟩,trivial⟩⟩⟩⟩⟩
  ·rintro ⟨⟨i,t⟩,hi⟩ K0 hK0;dsimp only at hi ⊢;have hol:=zf1 (a:=a) hi.1;refine zk (zp<|zd V<|za V (zc (n:=0) V k9)<|za V (zg 0 V V V k9 zh)<|za V (yx (e:=121) V k9)<|za V (yF V V)<|ze<|zJ V (fun hb18=> ?_) (fun hb18=> ?_))
   ·have hb18:=oT hb18;refine zr (zn<|zk<|zX<|zk ?_);obtain ⟨x,hx⟩:∃ x,l[i]? =some x:=⟨_,Je o9⟩;have hxm:=Jc hx;refine zi (za V (zc (n:=0) V k9)<|za V (zg 0 V V V k9 zh)<|zd V<|za V (yp (e:=121) 5 V V k9 k9 o9 (by simpa using hx))<|za V (ZK 5 V k9 d9 (show 5≤5 by decide) s9) (SWl.e2 (S:=[]) (zM (zs:=[.string ⟨#[]⟩,.int .i64 0,.slice none 0 0,.int .i64 0,.int .i64 0]) k9 V) fun g9=>(zt (S:=[_]) (zw 4 V V V k9 V<|m9 V)<|ze<|zk<|Ys (fun σ=>¬Acc.clash a x∧σ=zN [(2,pA g2),(3,pA g3),(4,pA g4),(6,isD<|.slice t.A (Acc.out l a i).length t.c),(7,yj<|decide (Acc.pos l a.name < i)),(8,iD (i:Int)),(9,pA g9)] [.c g2 [lsD Yz l],.c g3 [yY a.name,iD a.role,bD a.key,iD a.dep,iD a.num],.c g4 [isD<|.slice none 0 0],.r t.F<|yP 121 5 Yz t.A t.c<|Acc.out l a i,.c g9 [yY x.name,iD x.role,bD x.key,iD x.dep,iD x.num]]) ?_ ?_)))
    ·skip
     refine zp (za V (zc (n:=0) V k9)<|za V (zg 4 V V V k9 zh)<|za V (zc (n:=0) V k9)<|za V (zg 1 V V V k9 zh)<|za V (zbB (p:=x.name) (q:=a.name) V V)<|zd V<|zU 31 V (fun hb31=> ?_) (fun hb31=> ?_))
     ·have h31:=oT hb31;refine zq hb31 (zq hb31<|zq hb31<|zq hb31<|zq hb31<|zq hb31<|YQ V V V V<|YQ V V V V<|YQ V V V V<|YQ V V V V<|YQ V V V V<|zq hb31<|zq hb31<|YQ V V V V<|YQ V V V V<|YQ V V V V<|zq hb31<|za V (zB V hb31 V)<|ze<|zW V V<|zp<|za V (zA 0 1 V V k9 V zh)<|zt (S:=[_]) (zw 2 V V V k9 V<|m9 V)<|zf V<|ze<|zQ (fn:=Tryz.f50) (()) [] (fun _ _ h=>h) (Rs.le (ym V (zS 2 V V k9)<|zj V) ?_) d9 t9);exact yn ⟨ZM ⟨by rw [Zl h12 ⟨x,hxm,.inl h31⟩];exact zb _,trivial⟩,zF (by rw [Zl h12 ⟨x,hxm,.inl h31⟩]),t9⟩
     ·have h31:=oF hb31;refine zy hb31 (zc (n:=1) V k9) (zy hb31 (zg 4 V V V k9 zh)<|zy hb31 (zc (n:=1) V k9)<|zy hb31 (zg 1 V V V k9 zh)<|zy hb31 (yM V V)<|zy hb31 (zI V)<|zU 37 V (fun hb37=> ?_) (fun hb37=> ?_))
      ·have h37:=oT hb37;refine zy hb37 (zc (n:=4) V k9) (zy hb37 (zg 4 V V V k9 zh)<|zy hb37 (zc (n:=4) V k9)<|zy hb37 (zg 1 V V V k9 zh)<|zy hb37 (yM V V)<|zy hb31 (zB V hb37 V)<|zy hb31 (zI V)<|zU 44 V (fun hb44=> ?_) (fun hb44=> ?_))
       ·have h44:=oT hb44;refine zy hb44 (zc (n:=1) V k9) (zy hb44 (zg 1 V V V k9 zh)<|zy hb44 (ye V V)<|zy hb31 (zB V hb44 V)<|za V (zv V hb31 V)<|ze<|zJ V (fun hb49=> ?_) (fun hb49=> ?_))
        ·have h48:a.role≠3:=by simpa using hb49
         refine zp (za V (zA 0 1 V V k9 V zh)<|zt (S:=[_]) (zw 2 V V V k9 V<|m9 V)<|zf V<|ze<|zQ (fn:=Tryz.f50) (()) [] (fun _ _ h=>h) (Rs.le (ym V (zS 2 V V k9)<|zj V) ?_) d9 t9);exact yn ⟨ZM ⟨by rw [Zl h12 ⟨x,hxm,.inr ⟨h37,h44,h48⟩⟩];exact zb _,trivial⟩,zF (by rw [Zl h12 ⟨x,hxm,.inr ⟨h37,h44,h48⟩⟩]),t9⟩
        ·have h48:¬a.role≠3:=by simpa using hb49
         refine zr ?_
         have hnc:¬Acc.clash a x:=by (rintro (e | ⟨e1,e2,e3⟩) <;> first | exact h31 e | exact h37 e1 | exact h44 e2 | exact h48 e3)
         exact yA ⟨hnc,V⟩ (sB [0,1,2,3,4] V V)
       ·have h44:=oF hb44;refine zq hb44 (zq hb44<|zq hb44<|zy hb31 (zv V hb44 V)<|za V (zv V hb31 V)<|ze<|zE V V<|zr ?_)
        have hnc:¬Acc.clash a x:=by (rintro (e | ⟨e1,e2,e3⟩) <;> first | exact h31 e | exact h37 e1 | exact h44 e2 | exact h48 e3)
        exact yA ⟨hnc,V⟩ (sB [0,1,2,3,4] V V)
      ·have h37:=oF hb37;refine zq hb37 (zq hb37<|zq hb37<|zq hb37<|zq hb37<|zy hb31 (zv V hb37 V)<|zy hb31 (zI V)<|zq V<|zq V<|zq V<|zy hb31 (zv V V V)<|za V (zv V hb31 V)<|ze<|zE V V<|zr ?_)
       have hnc:¬Acc.clash a x:=by (rintro (e | ⟨e1,e2,e3⟩) <;> first | exact h31 e | exact h37 e1 | exact h44 e2 | exact h48 e3)
       exact yA ⟨hnc,V⟩ (sB [0,1,2,3,4] V V)
    ·rintro _ ⟨hnc,rfl⟩;refine zn (zk<|zk ?_);have hne:x.name≠a.name:=fun e=>hnc (.inl e);refine zi (zd V<|za V (yS V)<|zd V<|zU 53 V (fun hb53=> ?_) (fun hb53=> ?_))
     ·have h53:¬Acc.pos l a.name < i:=by simpa using hb53
      refine zy hb53 (zc (n:=0) V k9) (zy hb53 (zg 1 V V V k9 zh)<|zy hb53 (zc (n:=0) V k9)<|zy hb53 (zg 4 V V V k9 zh)<|zy hb53 (Rd.lts V V)<|za V (zB V hb53 V)<|ze<|zJ V (fun hb59=> ?_) (fun hb59=> ?_))
      ·have h59:i=Acc.pos l a.name:=by have h:=zaa hf.srt hx hne h53;rw [show Acc.lt a.name x.name=true from hb59] at h;exact oT h.symm
       refine zi (zd V<|za V (zA 1 5 V V k9 V zh)<|zt (S:=[]) (ZL V V (zhH a) V) (SWl.e4 (yN 3 5 64 V V (SrcT.ls (l:=[a]) V) k9 k9 (by simp;omega) d9 (fun _ h=>h) V) fun A63 F63 c63=>(zf V<|zf V<|ze<|zi<|zd V<|za V (zA 3 5 V V k9 V zh)<|zt (S:=[]) (ZL V V (zhH x) V) (SWl.e4 (yN 4 5 64 V V (SrcT.ls (l:=[x]) V) k9 k9 (by simp;omega) d9 (fun _ h=>h) V) fun A67 F67 c67=>(zf V<|zP<|yc<|zn<|zi<|zd V<|za V (yC V V ⟨by omega,by omega⟩)<|zf V<|zP ?_)))))
       have hO:=zhW (a:=a) hx h59;have hP:decide (Acc.pos l a.name < i + 1)=true:=by simp;omega
       exact fun a w hh=>hK0 (⟨(i + 1,⟨A67,c67,F67⟩),by dsimp only;omega,fun y hy=>by dsimp only at hy;rw [yr hx] at hy;rcases List.mem_append.1 hy with hy | hy;exact hi.2 y hy;rw [List.mem_singleton.1 hy];exact hnc⟩) (by dsimp only;omega) a w (hh.sub<|⟨⟨_,V,⟨lq V,⟨lq V,⟨lq V,⟨⟨_,V,zF (by dsimp only;rw [hO])⟩,⟨⟨_,V,zF (by dsimp only;rw [hP])⟩,⟨⟨_,V,zF s9⟩,t9⟩⟩⟩⟩⟩⟩⟩,[0,1,2,4],by decide,⟨la rfl,⟨la rfl,⟨la rfl,⟨⟨_,rfl,ZZ (by dsimp only;rw [hO]) (by dsimp only;rw [hO])⟩,trivial⟩⟩⟩⟩⟩)
      ·have h59:¬i=Acc.pos l a.name:=by have h:=zaa hf.srt hx hne h53;rw [show Acc.lt a.name x.name=false from hb59] at h;exact oF h.symm
       refine zr (zn<|zi<|zd V<|za V (zA 4 5 V V k9 V zh)<|zt (S:=[]) (ZL V V (zhH x) V) (SWl.e4 (yN 3 5 64 V V (SrcT.ls (l:=[x]) V) k9 k9 (by simp;omega) d9 (fun _ h=>h) V) fun A67 F67 c67=>(zf V<|zP<|yc<|zn<|zi<|zd V<|za V (yC V V ⟨by omega,by omega⟩)<|zf V<|zP ?_)))
       have hO:=zf3 (a:=a) hx o9;have hP:decide (Acc.pos l a.name < i + 1)=decide (Acc.pos l a.name < i):=by rw [JW];omega
       exact fun a w hh=>hK0 (⟨(i + 1,⟨A67,c67,F67⟩),by dsimp only;omega,fun y hy=>by dsimp only at hy;rw [yr hx] at hy;rcases List.mem_append.1 hy with hy | hy;exact hi.2 y hy;rw [List.mem_singleton.1 hy];exact hnc⟩) (by dsimp only;omega) a w (hh.sub<|⟨⟨_,V,⟨lq V,⟨lq V,⟨lq V,⟨⟨_,V,zF (by dsimp only;rw [hO])⟩,⟨⟨_,V,zF (by dsimp only;rw [hP])⟩,⟨⟨_,V,zF s9⟩,t9⟩⟩⟩⟩⟩⟩⟩,[0,1,2,4],by decide,⟨la rfl,⟨la rfl,⟨la rfl,⟨⟨_,rfl,ZZ (by dsimp only;rw [hO]) (by dsimp only;rw [hO])⟩,trivial⟩⟩⟩⟩⟩)
     ·have h53:Acc.pos l a.name < i:=by simpa using hb53
      refine zq hb53 (zq hb53<|zq hb53<|zq hb53<|zq hb53<|za V (zv V hb53 V)<|ze<|zE V V<|zr<|zn<|zi<|zd V<|za V (zA 4 5 V V k9 V zh)<|zt (S:=[]) (ZL V V (zhH x) V) (SWl.e4 (yN 3 5 64 V V (SrcT.ls (l:=[x]) V) k9 k9 (by simp;omega) d9 (fun _ h=>h) V) fun A67 F67 c67=>(zf V<|zP<|yc<|zn<|zi<|zd V<|za V (yC V V ⟨by omega,by omega⟩)<|zf V<|zP ?_)))
      have hO:=zf4 (a:=a) hx h53;have hP:decide (Acc.pos l a.name < i + 1)=decide (Acc.pos l a.name < i):=by rw [JW];omega
      exact fun a w hh=>hK0 (⟨(i + 1,⟨A67,c67,F67⟩),by dsimp only;omega,fun y hy=>by dsimp only at hy;rw [yr hx] at hy;rcases List.mem_append.1 hy with hy | hy;exact hi.2 y hy;rw [List.mem_singleton.1 hy];exact hnc⟩) (by dsimp only;omega) a w (hh.sub<|⟨⟨_,V,⟨lq V,⟨lq V,⟨lq V,⟨⟨_,V,zF (by dsimp only;rw [hO])⟩,⟨⟨_,V,zF (by dsimp only;rw [hP])⟩,⟨⟨_,V,zF s9⟩,t9⟩⟩⟩⟩⟩⟩⟩,[0,1,2,4],by decide,⟨la rfl,⟨la rfl,⟨la rfl,⟨⟨_,rfl,ZZ (by dsimp only;rw [hO]) (by dsimp only;rw [hO])⟩,trivial⟩⟩⟩⟩⟩)
   ·have hb18:=oF hb18;refine yZ ?_
    repeat (first | refine Ze ?_ | refine Zf d9 ?_)
    refine Zn (zn<|zk<|zk ?_)
    obtain rfl:i=l.length:=by omega
    have hc:¬ ∃ x∈l,Acc.clash a x:=fun ⟨x,hx,hcl⟩=>hi.2 x (by rw [List.take_length];exact hx) hcl;refine zO (σ':=zN [(2,_),(3,_),(4,_),(6,_),(7,_)] [_,_,_,_]) (sB [0,1,2,3] V V) (zi<|zd V<|za V (yS V)<|ze<|zJ V (fun hb69=> ?_) (fun hb69=> ?_))
    ·have h69:¬Acc.pos l a.name < l.length:=by have h:=hb69;simpa using h
     refine zi (zd V<|za V (zA 1 5 V V k9 V zh)<|zt (S:=[]) (ZL V V (zhH a) V) (SWl.e4 (yN 3 5 64 V V (SrcT.ls (l:=[a]) V) k9 k9 (by simp;omega) d9 (fun _ h=>h) V) fun A73 F73 c73=>(zf V<|ze<|zk<|zk ?_)));have hE:=zeU h69;have hEL:=Acc.ins_len l a;refine zO (σ':=zN [(2,_),(4,_),(6,isD<|.slice (⟨A73,c73,F73⟩:Ust).A (Acc.ins l a).length (⟨A73,c73,F73⟩:Ust).c)] [.c g2 [lsD Yz l],.c g4 [isD<|.slice none 0 0],.r (⟨A73,c73,F73⟩:Ust).F<|yP 121 5 Yz (⟨A73,c73,F73⟩:Ust).A (⟨A73,c73,F73⟩:Ust).c<|Acc.ins l a]) (⟨⟨_,V,⟨lq V,⟨lq V,⟨⟨_,V,zF (by rw [hE])⟩,t9⟩⟩⟩⟩,[0,2,3],by decide,⟨la rfl,⟨la rfl,⟨⟨_,rfl,ZZ (by rw [hE]) (by rw [hE])⟩,trivial⟩⟩⟩⟩) (zi<|zd V<|za V (Y7 (e:=121) V k9)<|za V (Zq V V)<|ze<|zJ V (fun hb76=> ?_) (fun hb76=> ?_))
     ·have h76:256≤l.length:=by have h:=oT hb76;rw [hEL] at h;omega
      refine zp (za V (zA 0 1 V V k9 V zh)<|zt (S:=[_]) (zw 1 V V V k9 V<|m9 V)<|zf V<|ze<|zQ (fn:=Tryz.f50) (()) [] (fun _ _ h=>h) (Rs.le (ym V (zS 1 V V k9)<|zj V) ?_) d9 t9);exact yn ⟨ZM ⟨by rw [Z7 h12 hc h76];exact zb _,trivial⟩,zF (by rw [Z7 h12 hc h76]),t9⟩
     ·have h76:¬256≤l.length:=by have h:=oF hb76;rw [hEL] at h;omega
      refine zr (zn<|zp<|zd V<|za V (yq V V bldRB)<|zt (S:=[_]) (zw 1 V V V k9 V<|m9 V)<|zf V<|ze<|ql 1 0 2 V V V<|zQ (fn:=Tryz.f50) (()) [] (fun _ _ h=>h) (Rs.le (ym V (zS 1 V V k9)<|zj V) ?_) d9 t9);exact yn ⟨ZM ⟨by rw [Ya h12 hc h76];exact zb _,trivial⟩,zF (by rw [Ya h12 hc h76]),t9⟩
    ·have h69:Acc.pos l a.name < l.length:=by have h:=hb69;simpa using h
     refine zr (zn<|zk<|zk ?_);have hE:=zf2 h69;have hEL:=Acc.ins_len l a;refine zO (σ':=zN [(2,_),(4,_),(6,isD<|.slice t.A (Acc.ins l a).length t.c)] [.c g2 [lsD Yz l],.c g4 [isD<|.slice none 0 0],.r t.F<|yP 121 5 Yz t.A t.c<|Acc.ins l a]) (⟨⟨_,V,⟨lq V,⟨lq V,⟨⟨_,V,zF (by rw [hE])⟩,t9⟩⟩⟩⟩,[0,2,3],by decide,⟨la rfl,⟨la rfl,⟨⟨_,rfl,ZZ (by rw [hE]) (by rw [hE])⟩,trivial⟩⟩⟩⟩) (zi<|zd V<|za V (Y7 (e:=121) V k9)<|za V (Zq V V)<|ze<|zJ V (fun hb76=> ?_) (fun hb76=> ?_))
     ·have h76:256≤l.length:=by have h:=oT hb76;rw [hEL] at h;omega
      refine zp (za V (zA 0 1 V V k9 V zh)<|zt (S:=[_]) (zw 1 V V V k9 V<|m9 V)<|zf V<|ze<|zQ (fn:=Tryz.f50) (()) [] (fun _ _ h=>h) (Rs.le (ym V (zS 1 V V k9)<|zj V) ?_) d9 t9);exact yn ⟨ZM ⟨by rw [Z7 h12 hc h76];exact zb _,trivial⟩,zF (by rw [Z7 h12 hc h76]),t9⟩
     ·have h76:¬256≤l.length:=by have h:=oF hb76;rw [hEL] at h;omega
      refine zr (zn<|zp<|zd V<|za V (yq V V bldRB)<|zt (S:=[_]) (zw 1 V V V k9 V<|m9 V)<|zf V<|ze<|ql 1 0 2 V V V<|zQ (fn:=Tryz.f50) (()) [] (fun _ _ h=>h) (Rs.le (ym V (zS 1 V V k9)<|zj V) ?_) d9 t9);exact yn ⟨ZM ⟨by rw [Ya h12 hc h76];exact zb _,trivial⟩,zF (by rw [Ya h12 hc h76]),t9⟩
theorem wrap8 (x:Int):IntKind.u8.wrap x=x % 256:=by simp [IntKind.wrap,IntKind.signed,IntKind.bits]
theorem zgk {ds es:List D} (h:ds=es):LeAll ds es:=by subst h;exact yl _
theorem bldRB0:Bld Tryz.prog 31 [] [] [isD<|.slice none 0 0]:=fun L w vs h=>by
 obtain rfl:=all0 h;exact ⟨[.slice none 0 0],⟨V,t9⟩,fun w'=>by kernel_rfl⟩
