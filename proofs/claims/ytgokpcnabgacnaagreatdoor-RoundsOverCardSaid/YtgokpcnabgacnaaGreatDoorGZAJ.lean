/- ACCOUNTS: named, Valid, copied. ACCOUNTS: books as things. ACCOUNTS: put. ACCOUNTS: put, in one. -/
import Derived.Test.YtgokpcnabgacnaaGreatDoorGZAI
set_option maxHeartbeats 8000000
set_option maxRecDepth 100000
namespace Go.Proofs.YtgokpcnabgacnaaGreatDoor
open Go.RowKit
namespace Sx
section
theorem jO (b:LB) (hb:b.length≤1000000):ConN Tryz.prog 53 [bD b] (bD b):=by
 refine yO Tryz.func53 k9 V k9 fun base w0=>(zk (zdq 0 V fun A c=>(zi<|zf V<|ze<|zk<|zp<|zd V<|za V (Rd.eqN (e:=5) V V k9)<|ze<|zJ V (fun hb4=> ?_) (fun hb4=> ?_))))
 ·refine zdp 0 V hb4 fun hnil=>(zp<|zf V<|ze<|zK (fn:=Tryz.f53) (fun _ _ h=>h)<|Rs.le (Rs.one V<|zj V) ?_);subst hnil;exact Le.trans (zu (x:= .slice none 0 0)) (qY (Js _) Zz)
 ·skip
  refine zr (zn<|zp (SWl.e2 (S:=[]) (zdx (e:=5) Yt 1 1 k9 k9 V) fun g5=>(zd V (SWl.e4 (yN 1 1 1 V V (zbx 0 V V) k9 k9 (by simp <;> omega) d9 (fun _ h=>h) V) fun A7 F7 c7=>(zf V<|ze<|zbz 1 2 V V V<|zK (fn:=Tryz.f53) (fun _ _ h=>h)<|Rs.le (Rs.one V<|zj V) ?_)))))
  exact zb _
theorem con_named (s:LB):ConN Tryz.prog 159 [yY s] (yj<|decide (Acc.isName s)):=by
 refine yO Tryz.func159 k9 V k9 fun base w0=>(zp<|zf V<|ze<|zk<|zp<|zd V<|za V (Kr V k9)<|za V (yF V V)<|zd V<|zU 8 V (fun hb8=> ?_) (fun hb8=> ?_))
 ·have h8:=oT hb8;refine zq hb8 (zq hb8<|zq hb8<|za V (zB V hb8 V)<|ze<|zW V V<|zp<|zf V<|ze<|zK (fn:=Tryz.f159) (fun _ _ h=>h)<|Rs.le (Rs.one V<|zj V) ?_)
  first | exact Le.trans (yi (fun h=>by have:=h.2.1;omega)) zu | exact Le.trans (yi (fun h=>by have:=h.2.2;omega)) zu | exact Le.trans (yi (fun h=>hbad<|h.1 c<|Jc hc)) zu | exact Le.trans (Ka ⟨fun d hd=>hi.2 d (by rw [Ji o9];exact hd),by omega,by omega⟩) zu
 ·have h8:=oF hb8;refine zy hb8 (zI V) (zy hb8 (Kr V k9)<|zy hb8 (Zq V V)<|za V (zv V hb8 V)<|ze<|zJ V (fun hb12=> ?_) (fun hb12=> ?_))
  ·have h12:=oT hb12;refine zp (zf V<|ze<|zK (fn:=Tryz.f159) (fun _ _ h=>h)<|Rs.le (Rs.one V<|zj V) ?_)
   first | exact Le.trans (yi (fun h=>by have:=h.2.1;omega)) zu | exact Le.trans (yi (fun h=>by have:=h.2.2;omega)) zu | exact Le.trans (yi (fun h=>hbad<|h.1 c<|Jc hc)) zu | exact Le.trans (Ka ⟨fun d hd=>hi.2 d (by rw [Ji o9];exact hd),by omega,by omega⟩) zu
  ·have h12:=oF hb12;refine zr (zn<|zk<|zp<|zd V<|za V (Kr V k9)<|zd V<|ze<|zX<|Zw (ι:={i:Nat // i≤s.length∧∀ c∈s.take i,Acc.chr c}) (fun i=>zN [(0,yY s),(14,iD (s.length:Int)),(15,iD (i.1:Int))] []) (fun i=>s.length - i.1) (⟨0,JC _,by simp⟩) ?_ ?_)
   ·exact (sB [] V V)
   ·rintro ⟨i,hi⟩ K0 hK0;dsimp only at hi ⊢;refine zp (za V (yF V V)<|ze<|zk<|zJ V (fun hb16=> ?_) (fun hb16=> ?_))
    ·have h16:=oT hb16;refine zr (zn<|zk<|zX<|zp<|zd V<|zf V<|ze<|zk ?_);obtain ⟨c,hc⟩:∃ c,s[i]? =some c:=⟨_,Je o9⟩;refine zi (zd V<|zd V<|za V (jl V V k9 o9 (by simpa using hc))<|zf V<|zV<|zd V<|za V (yF V V)<|zd V<|zU 23 V (fun hb23=> ?_) (fun hb23=> ?_))
     ·have h23:=oT hb23;refine zq hb23 (zq hb23<|za V (zB V hb23 V)<|zd V<|zy V (zI V)<|zy V (yF V V)<|zy V (zI V)<|zU 30 V (fun hb30=> ?_) (fun hb30=> ?_))
      ·have h30:=oT hb30;refine zq hb30 (zq hb30<|zy V (zB V hb30 V)<|za V (zB V V V)<|zd V<|zy V (zI V)<|zy V (ye V V)<|za V (zB V V V)<|ze<|zJ V (fun hb38=> ?_) (fun hb38=> ?_))
       ·have hbad:¬Acc.chr c:=by (have h38:=hb38;simp only [XF,Xi] at h38);unfold Acc.chr;omega
        refine zp (zf V<|ze<|zK (fn:=Tryz.f159) (fun _ _ h=>h)<|Rs.le (Rs.one V<|zj V) ?_)
        first | exact Le.trans (yi (fun h=>by have:=h.2.1;omega)) zu | exact Le.trans (yi (fun h=>by have:=h.2.2;omega)) zu | exact Le.trans (yi (fun h=>hbad<|h.1 c<|Jc hc)) zu | exact Le.trans (Ka ⟨fun d hd=>hi.2 d (by rw [Ji o9];exact hd),by omega,by omega⟩) zu
       ·skip
        refine zr (yc<|zn<|zi<|za V (yC V V ⟨by omega,by omega⟩)<|zd V<|zP ?_)
        have hgood:Acc.chr c:=by first | (unfold Acc.chr;omega) | ((have h38:=hb38;simp only [JX,Jz] at h38);unfold Acc.chr;omega)
        exact fun a w hh=>hK0 (⟨i + 1,by omega,fun d hd=>by rw [yr hc] at hd;rcases List.mem_append.1 hd with hd | hd;exact hi.2 d hd;rw [List.mem_singleton.1 hd];exact hgood⟩) (by dsimp only;omega) a w (hh.sub<|⟨⟨_,V,⟨lq V,⟨lq V,⟨⟨_,V,zF s9⟩,t9⟩⟩⟩⟩,[],by decide,trivial⟩)
      ·have h30:=oF hb30;refine zy hb30 (zI V) (zy hb30 (Zq V V)<|zy V (zv V hb30 V)<|za V (zB V V V)<|zd V<|zU 35 V (fun hb35=> ?_) (fun hb35=> ?_))
       ·have h35:=oT hb35;refine zy hb35 (zI V) (zy hb35 (ye V V)<|za V (zB V hb35 V)<|ze<|zJ V (fun hb38=> ?_) (fun hb38=> ?_))
        ·have hbad:¬Acc.chr c:=by (have h38:=hb38;simp only [XF,Xi] at h38);unfold Acc.chr;omega
         refine zp (zf V<|ze<|zK (fn:=Tryz.f159) (fun _ _ h=>h)<|Rs.le (Rs.one V<|zj V) ?_)
         first | exact Le.trans (yi (fun h=>by have:=h.2.1;omega)) zu | exact Le.trans (yi (fun h=>by have:=h.2.2;omega)) zu | exact Le.trans (yi (fun h=>hbad<|h.1 c<|Jc hc)) zu | exact Le.trans (Ka ⟨fun d hd=>hi.2 d (by rw [Ji o9];exact hd),by omega,by omega⟩) zu
        ·skip
         refine zr (yc<|zn<|zi<|za V (yC V V ⟨by omega,by omega⟩)<|zd V<|zP ?_)
         have hgood:Acc.chr c:=by first | (unfold Acc.chr;omega) | ((have h38:=hb38;simp only [JX,Jz] at h38);unfold Acc.chr;omega)
         exact fun a w hh=>hK0 (⟨i + 1,by omega,fun d hd=>by rw [yr hc] at hd;rcases List.mem_append.1 hd with hd | hd;exact hi.2 d hd;rw [List.mem_singleton.1 hd];exact hgood⟩) (by dsimp only;omega) a w (hh.sub<|⟨⟨_,V,⟨lq V,⟨lq V,⟨⟨_,V,zF s9⟩,t9⟩⟩⟩⟩,[],by decide,trivial⟩)
       ·have h35:=oF hb35;refine zq hb35 (zq hb35<|za V (zv V hb35 V)<|ze<|zE V V<|zr<|yc<|zn<|zi<|za V (yC V V ⟨by omega,by omega⟩)<|zd V<|zP ?_)
        have hgood:Acc.chr c:=by first | (unfold Acc.chr;omega) | ((have h38:=hb38;simp only [JX,Jz] at h38);unfold Acc.chr;omega)
        exact fun a w hh=>hK0 (⟨i + 1,by omega,fun d hd=>by rw [yr hc] at hd;rcases List.mem_append.1 hd with hd | hd;exact hi.2 d hd;rw [List.mem_singleton.1 hd];exact hgood⟩) (by dsimp only;omega) a w (hh.sub<|⟨⟨_,V,⟨lq V,⟨lq V,⟨⟨_,V,zF s9⟩,t9⟩⟩⟩⟩,[],by decide,trivial⟩)
     ·have h23:=oF hb23;refine zy hb23 (zI V) (zy hb23 (Zq V V)<|za V (zv V hb23 V)<|zd V<|zU 27 V (fun hb27=> ?_) (fun hb27=> ?_))
      ·have h27:=oT hb27;refine zy hb27 (zI V) (zy hb27 (yF V V)<|zy hb27 (zI V)<|zU 30 V (fun hb30=> ?_) (fun hb30=> ?_))
       ·have h30:=oT hb30;refine zq hb30 (zq hb30<|zy hb27 (zB V hb30 V)<|za V (zB V hb27 V)<|zd V<|zy V (zI V)<|zy V (ye V V)<|za V (zB V V V)<|ze<|zJ V (fun hb38=> ?_) (fun hb38=> ?_))
        ·have hbad:¬Acc.chr c:=by (have h38:=hb38;simp only [XF,Xi] at h38);unfold Acc.chr;omega
         refine zp (zf V<|ze<|zK (fn:=Tryz.f159) (fun _ _ h=>h)<|Rs.le (Rs.one V<|zj V) ?_)
         first | exact Le.trans (yi (fun h=>by have:=h.2.1;omega)) zu | exact Le.trans (yi (fun h=>by have:=h.2.2;omega)) zu | exact Le.trans (yi (fun h=>hbad<|h.1 c<|Jc hc)) zu | exact Le.trans (Ka ⟨fun d hd=>hi.2 d (by rw [Ji o9];exact hd),by omega,by omega⟩) zu
        ·skip
         refine zr (yc<|zn<|zi<|za V (yC V V ⟨by omega,by omega⟩)<|zd V<|zP ?_)
         have hgood:Acc.chr c:=by first | (unfold Acc.chr;omega) | ((have h38:=hb38;simp only [JX,Jz] at h38);unfold Acc.chr;omega)
         exact fun a w hh=>hK0 (⟨i + 1,by omega,fun d hd=>by rw [yr hc] at hd;rcases List.mem_append.1 hd with hd | hd;exact hi.2 d hd;rw [List.mem_singleton.1 hd];exact hgood⟩) (by dsimp only;omega) a w (hh.sub<|⟨⟨_,V,⟨lq V,⟨lq V,⟨⟨_,V,zF s9⟩,t9⟩⟩⟩⟩,[],by decide,trivial⟩)
       ·have h30:=oF hb30;refine zy hb30 (zI V) (zy hb30 (Zq V V)<|zy hb27 (zv V hb30 V)<|za V (zB V hb27 V)<|zd V<|zU 35 V (fun hb35=> ?_) (fun hb35=> ?_))
        ·have h35:=oT hb35;refine zy hb35 (zI V) (zy hb35 (ye V V)<|za V (zB V hb35 V)<|ze<|zJ V (fun hb38=> ?_) (fun hb38=> ?_))
         ·have hbad:¬Acc.chr c:=by (have h38:=hb38;simp only [XF,Xi] at h38);unfold Acc.chr;omega
          refine zp (zf V<|ze<|zK (fn:=Tryz.f159) (fun _ _ h=>h)<|Rs.le (Rs.one V<|zj V) ?_)
          first | exact Le.trans (yi (fun h=>by have:=h.2.1;omega)) zu | exact Le.trans (yi (fun h=>by have:=h.2.2;omega)) zu | exact Le.trans (yi (fun h=>hbad<|h.1 c<|Jc hc)) zu | exact Le.trans (Ka ⟨fun d hd=>hi.2 d (by rw [Ji o9];exact hd),by omega,by omega⟩) zu
         ·skip
          refine zr (yc<|zn<|zi<|za V (yC V V ⟨by omega,by omega⟩)<|zd V<|zP ?_)
          have hgood:Acc.chr c:=by first | (unfold Acc.chr;omega) | ((have h38:=hb38;simp only [JX,Jz] at h38);unfold Acc.chr;omega)
          exact fun a w hh=>hK0 (⟨i + 1,by omega,fun d hd=>by rw [yr hc] at hd;rcases List.mem_append.1 hd with hd | hd;exact hi.2 d hd;rw [List.mem_singleton.1 hd];exact hgood⟩) (by dsimp only;omega) a w (hh.sub<|⟨⟨_,V,⟨lq V,⟨lq V,⟨⟨_,V,zF s9⟩,t9⟩⟩⟩⟩,[],by decide,trivial⟩)
        ·have h35:=oF hb35;refine zq hb35 (zq hb35<|za V (zv V hb35 V)<|ze<|zE V V<|zr<|yc<|zn<|zi<|za V (yC V V ⟨by omega,by omega⟩)<|zd V<|zP ?_)
         have hgood:Acc.chr c:=by first | (unfold Acc.chr;omega) | ((have h38:=hb38;simp only [JX,Jz] at h38);unfold Acc.chr;omega)
         exact fun a w hh=>hK0 (⟨i + 1,by omega,fun d hd=>by rw [yr hc] at hd;rcases List.mem_append.1 hd with hd | hd;exact hi.2 d hd;rw [List.mem_singleton.1 hd];exact hgood⟩) (by dsimp only;omega) a w (hh.sub<|⟨⟨_,V,⟨lq V,⟨lq V,⟨⟨_,V,zF s9⟩,t9⟩⟩⟩⟩,[],by decide,trivial⟩)
      ·have h27:=oF hb27;refine zq hb27 (zq hb27<|zq hb27<|YQ V V V V<|YQ V V V V<|zq hb27<|za V (zv V hb27 V)<|zd V<|zq V<|zq V<|za V (zv V V V)<|ze<|zE V V<|zr<|yc<|zn<|zi<|za V (yC V V ⟨by omega,by omega⟩)<|zd V<|zP ?_)
       have hgood:Acc.chr c:=by first | (unfold Acc.chr;omega) | ((have h38:=hb38;simp only [JX,Jz] at h38);unfold Acc.chr;omega)
       exact fun a w hh=>hK0 (⟨i + 1,by omega,fun d hd=>by rw [yr hc] at hd;rcases List.mem_append.1 hd with hd | hd;exact hi.2 d hd;rw [List.mem_singleton.1 hd];exact hgood⟩) (by dsimp only;omega) a w (hh.sub<|⟨⟨_,V,⟨lq V,⟨lq V,⟨⟨_,V,zF s9⟩,t9⟩⟩⟩⟩,[],by decide,trivial⟩)
    ·have h16:=oF hb16;refine yZ ?_
     repeat (first | refine Ze ?_ | refine Zf d9 ?_)
     refine Zn (zn<|zp<|zf V<|ze<|zK (fn:=Tryz.f159) (fun _ _ h=>h)<|Rs.le (Rs.one V<|zj V) ?_)
     first | exact Le.trans (yi (fun h=>by have:=h.2.1;omega)) zu | exact Le.trans (yi (fun h=>by have:=h.2.2;omega)) zu | exact Le.trans (yi (fun h=>hbad<|h.1 c<|Jc hc)) zu | exact Le.trans (Ka ⟨fun d hd=>hi.2 d (by rw [Ji o9];exact hd),by omega,by omega⟩) zu
theorem q8 (nm:LB) (role:Int) (kl:Nat) (dep num:Int):ConN Tryz.prog 108 [Zo [yY nm,iD role,zfi kl,iD dep,iD num]] (yj<|decide (Acc.okN nm role kl dep num)):=by
 refine yO Tryz.func108 k9 V k9 fun base w0=>(zp (SWl.e2 (S:=[]) (yv V V) fun g1=>(zf V<|ze<|zk<|zp<|za V (zc (n:=0) V k9)<|za V (zg 0 V V V k9 zh)<|zt (S:=[]) (zD [] (con_named nm) V ⟨(zo<|zb _),t9⟩ V)<|za V (yS V)<|zd V<|zU 7 V (fun hb7=> ?_) (fun hb7=> ?_))))
 ·have h7:¬Acc.isName nm:=by simpa using hb7
  refine zq hb7 (zq hb7<|zq hb7<|zq hb7<|za V (zB V hb7 V)<|zd V<|zq V<|zq V<|zq V<|za V (zB V V V)<|zd V<|zq V<|zq V<|zq V<|za V (zB V V V)<|zd V<|zq V<|zq V<|zq V<|za V (zB V V V)<|ze<|zW V V<|zp<|zf V<|ze<|zK (fn:=Tryz.f108) (fun _ _ h=>h)<|Rs.le (Rs.one V<|zj V) ?_)
  first | exact Le.trans (yi (fun h=>h7 h.1)) zu | exact Le.trans (yi (fun h=>h13 h.2.1)) zu | exact Le.trans (yi (fun h=>by have h1:=h.2.2.1;have h2:=h.2.2.2.1;have h3:=h.2.2.2.2.1;omega)) zu | exact Le.trans (Yp (by rw [Acc.okN_iff h7 h13 o9 o9 o9];simp only [Acc.nums, *];first | rfl | (simp;done) | (simp;omega) | omega)) zu | exact Le.trans (yi (fun h=>by have h1:=h.2.2.2.2.2;have h2:=h.2.2.2.2.1;simp [Acc.nums,h30,h35,h40] at h1;omega)) zu
 ·have h7:Acc.isName nm:=by simpa using hb7
  refine zy hb7 (zc (n:=2) V k9) (zy hb7 (zg 0 V V V k9 zh)<|zy hb7 (Ks (e:=5) V k9)<|zy hb7 (ye V V)<|za V (zv V hb7 V)<|zd V<|zU 13 V (fun hb13=> ?_) (fun hb13=> ?_))
  ·have h13:¬kl=32:=by have h:=(show (!decide ((kl:Int)=32))=true from hb13);simp at h;omega
   refine zq hb13 (zq hb13<|zq hb13<|za V (zB V hb13 V)<|zd V<|zq V<|zq V<|zq V<|za V (zB V V V)<|zd V<|zq V<|zq V<|zq V<|za V (zB V V V)<|ze<|zW V V<|zp<|zf V<|ze<|zK (fn:=Tryz.f108) (fun _ _ h=>h)<|Rs.le (Rs.one V<|zj V) ?_)
   first | exact Le.trans (yi (fun h=>h7 h.1)) zu | exact Le.trans (yi (fun h=>h13 h.2.1)) zu | exact Le.trans (yi (fun h=>by have h1:=h.2.2.1;have h2:=h.2.2.2.1;have h3:=h.2.2.2.2.1;omega)) zu | exact Le.trans (Yp (by rw [Acc.okN_iff h7 h13 o9 o9 o9];simp only [Acc.nums, *];first | rfl | (simp;done) | (simp;omega) | omega)) zu | exact Le.trans (yi (fun h=>by have h1:=h.2.2.2.2.2;have h2:=h.2.2.2.2.1;simp [Acc.nums,h30,h35,h40] at h1;omega)) zu
  ·have h13:kl=32:=by have h:=(show (!decide ((kl:Int)=32))=false from hb13);simp at h;omega
   refine zy hb13 (zc (n:=3) V k9) (zy hb13 (zg 0 V V V k9 zh)<|zy hb13 (yF V V)<|za V (zv V hb13 V)<|zd V<|zU 18 V (fun hb18=> ?_) (fun hb18=> ?_))
   ·have h18:=oT hb18;refine zq hb18 (zq hb18<|zq hb18<|za V (zB V hb18 V)<|zd V<|zq V<|zq V<|zq V<|za V (zB V V V)<|ze<|zW V V<|zp<|zf V<|ze<|zK (fn:=Tryz.f108) (fun _ _ h=>h)<|Rs.le (Rs.one V<|zj V) ?_)
    first | exact Le.trans (yi (fun h=>h7 h.1)) zu | exact Le.trans (yi (fun h=>h13 h.2.1)) zu | exact Le.trans (yi (fun h=>by have h1:=h.2.2.1;have h2:=h.2.2.2.1;have h3:=h.2.2.2.2.1;omega)) zu | exact Le.trans (Yp (by rw [Acc.okN_iff h7 h13 o9 o9 o9];simp only [Acc.nums, *];first | rfl | (simp;done) | (simp;omega) | omega)) zu | exact Le.trans (yi (fun h=>by have h1:=h.2.2.2.2.2;have h2:=h.2.2.2.2.1;simp [Acc.nums,h30,h35,h40] at h1;omega)) zu
   ·have h18:=oF hb18;refine zy hb18 (zc (n:=3) V k9) (zy hb18 (zg 0 V V V k9 zh)<|zy hb18 (Zq V V)<|za V (zv V hb18 V)<|zd V<|zU 23 V (fun hb23=> ?_) (fun hb23=> ?_))
    ·have h23:=oT hb23;refine zq hb23 (zq hb23<|zq hb23<|za V (zB V hb23 V)<|ze<|zW V V<|zp<|zf V<|ze<|zK (fn:=Tryz.f108) (fun _ _ h=>h)<|Rs.le (Rs.one V<|zj V) ?_)
     first | exact Le.trans (yi (fun h=>h7 h.1)) zu | exact Le.trans (yi (fun h=>h13 h.2.1)) zu | exact Le.trans (yi (fun h=>by have h1:=h.2.2.1;have h2:=h.2.2.2.1;have h3:=h.2.2.2.2.1;omega)) zu | exact Le.trans (Yp (by rw [Acc.okN_iff h7 h13 o9 o9 o9];simp only [Acc.nums, *];first | rfl | (simp;done) | (simp;omega) | omega)) zu | exact Le.trans (yi (fun h=>by have h1:=h.2.2.2.2.2;have h2:=h.2.2.2.2.1;simp [Acc.nums,h30,h35,h40] at h1;omega)) zu
    ·have h23:=oF hb23;refine zy hb23 (zc (n:=4) V k9) (zy hb23 (zg 0 V V V k9 zh)<|zy hb23 (yF V V)<|za V (zv V hb23 V)<|ze<|zJ V (fun hb27=> ?_) (fun hb27=> ?_))
     ·have h27:=oT hb27;refine zp (zf V<|ze<|zK (fn:=Tryz.f108) (fun _ _ h=>h)<|Rs.le (Rs.one V<|zj V) ?_)
      first | exact Le.trans (yi (fun h=>h7 h.1)) zu | exact Le.trans (yi (fun h=>h13 h.2.1)) zu | exact Le.trans (yi (fun h=>by have h1:=h.2.2.1;have h2:=h.2.2.2.1;have h3:=h.2.2.2.2.1;omega)) zu | exact Le.trans (Yp (by rw [Acc.okN_iff h7 h13 o9 o9 o9];simp only [Acc.nums, *];first | rfl | (simp;done) | (simp;omega) | omega)) zu | exact Le.trans (yi (fun h=>by have h1:=h.2.2.2.2.2;have h2:=h.2.2.2.2.1;simp [Acc.nums,h30,h35,h40] at h1;omega)) zu
     ·have h27:=oF hb27;refine zr (zn<|zk<|zp<|za V (zc (n:=1) V k9)<|za V (zg 0 V V V k9 zh)<|ze<|zX<|zp<|za V (yM V V)<|zf V<|ze<|zJ V (fun hb30=> ?_) (fun hb30=> ?_))
      ·have h30:=oT hb30;refine zp (za V (zc (n:=4) V k9)<|za V (zg 0 V V V k9 zh)<|za V (yF V V)<|zf V<|ze<|zK (fn:=Tryz.f108) (fun _ _ h=>h)<|Rs.le (Rs.one V<|zj V) ?_)
       first | exact Le.trans (yi (fun h=>h7 h.1)) zu | exact Le.trans (yi (fun h=>h13 h.2.1)) zu | exact Le.trans (yi (fun h=>by have h1:=h.2.2.1;have h2:=h.2.2.2.1;have h3:=h.2.2.2.2.1;omega)) zu | exact Le.trans (Yp (by rw [Acc.okN_iff h7 h13 o9 o9 o9];simp only [Acc.nums, *];first | rfl | (simp;done) | (simp;omega) | omega)) zu | exact Le.trans (yi (fun h=>by have h1:=h.2.2.2.2.2;have h2:=h.2.2.2.2.1;simp [Acc.nums,h30,h35,h40] at h1;omega)) zu
      ·have h30:=oF hb30;refine zp (za V (yM V V)<|zf V<|ze<|zJ V (fun hb35=> ?_) (fun hb35=> ?_))
       ·have h35:=oT hb35;refine zp (za V (zc (n:=4) V k9)<|za V (zg 0 V V V k9 zh)<|za V (yF V V)<|zf V<|ze<|zK (fn:=Tryz.f108) (fun _ _ h=>h)<|Rs.le (Rs.one V<|zj V) ?_)
        first | exact Le.trans (yi (fun h=>h7 h.1)) zu | exact Le.trans (yi (fun h=>h13 h.2.1)) zu | exact Le.trans (yi (fun h=>by have h1:=h.2.2.1;have h2:=h.2.2.2.1;have h3:=h.2.2.2.2.1;omega)) zu | exact Le.trans (Yp (by rw [Acc.okN_iff h7 h13 o9 o9 o9];simp only [Acc.nums, *];first | rfl | (simp;done) | (simp;omega) | omega)) zu | exact Le.trans (yi (fun h=>by have h1:=h.2.2.2.2.2;have h2:=h.2.2.2.2.1;simp [Acc.nums,h30,h35,h40] at h1;omega)) zu
       ·have h35:=oF hb35;refine zp (za V (yM V V)<|zf V<|ze<|zJ V (fun hb40=> ?_) (fun hb40=> ?_))
        ·have h40:=oT hb40;refine zp (za V (zc (n:=4) V k9)<|za V (zg 0 V V V k9 zh)<|za V (yM V V)<|zf V<|ze<|zK (fn:=Tryz.f108) (fun _ _ h=>h)<|Rs.le (Rs.one V<|zj V) ?_)
         first | exact Le.trans (yi (fun h=>h7 h.1)) zu | exact Le.trans (yi (fun h=>h13 h.2.1)) zu | exact Le.trans (yi (fun h=>by have h1:=h.2.2.1;have h2:=h.2.2.2.1;have h3:=h.2.2.2.2.1;omega)) zu | exact Le.trans (Yp (by rw [Acc.okN_iff h7 h13 o9 o9 o9];simp only [Acc.nums, *];first | rfl | (simp;done) | (simp;omega) | omega)) zu | exact Le.trans (yi (fun h=>by have h1:=h.2.2.2.2.2;have h2:=h.2.2.2.2.1;simp [Acc.nums,h30,h35,h40] at h1;omega)) zu
        ·have h40:=oF hb40;refine zr (yc<|zn<|zp<|zf V<|ze<|zK (fn:=Tryz.f108) (fun _ _ h=>h)<|Rs.le (Rs.one V<|zj V) ?_)
         first | exact Le.trans (yi (fun h=>h7 h.1)) zu | exact Le.trans (yi (fun h=>h13 h.2.1)) zu | exact Le.trans (yi (fun h=>by have h1:=h.2.2.1;have h2:=h.2.2.2.1;have h3:=h.2.2.2.2.1;omega)) zu | exact Le.trans (Yp (by rw [Acc.okN_iff h7 h13 o9 o9 o9];simp only [Acc.nums, *];first | rfl | (simp;done) | (simp;omega) | omega)) zu | exact Le.trans (yi (fun h=>by have h1:=h.2.2.2.2.2;have h2:=h.2.2.2.2.1;simp [Acc.nums,h30,h35,h40] at h1;omega)) zu
theorem WH (nm:LB) (role:Int) (b:LB) (dep num:Int) (hb:b.length≤1000000):ConN Tryz.prog 160 [Zo [yY nm,iD role,bD b,iD dep,iD num]] (Zo [yY nm,iD role,bD b,iD dep,iD num]):=by
 refine yO Tryz.func160 k9 V k9 fun base w0=>(zp (SWl.e2 (S:=[]) (yv V V) fun g1=>(SWl.e2 (S:=[]) (zM (zs:=[.string ⟨#[]⟩,.int .i64 0,.slice none 0 0,.int .i64 0,.int .i64 0]) k9 V) fun g2=>(zV<|za V (zc (n:=2) V k9)<|za V (zg 0 V V V k9 zh)<|zt (S:=[]) (zeR [] (jO _ (by first | assumption | (simp <;> omega))) V ⟨(zo<|zb _),t9⟩ V)<|za V (zc (n:=2) V k9)<|zt (S:=[_]) (zR 0 V V V k9 V<|m9 V)<|ze<|zk<|zO (σ':=zN [(1,pA g1),(2,pA g2)] [.c g1 [yY nm,iD role,nwD w0.heap.size<|bD b,iD dep,iD num],.c g2 [yY [],iD 0,isD<|.slice none 0 0,iD 0,iD 0]]) (sB [0,1] V V)<|zi<|za V (zA 0 5 V V k9 V zh)<|zt (S:=[_]) (zw 1 V V V k9 V<|m9 V)<|ze<|zK (fn:=Tryz.f160) (fun _ _ h=>h)<|Rs.le (Rs.one V<|zS 1 V V k9) ?_))))
 exact (jg ⟨zu,zu,(zb _),zu,zu,t9⟩)
end
section
structure Bst where
 M:Option (Nat × Nat)
 F1:LN
 F2:LN
 n:Ust
abbrev Acc.nm (l:List Acc.T):List LB:=l.map Acc.T.name
def zhF (g:Nat) (s:Bst) (l:List Acc.T):Box:= .c g [isD<|.map<|s.M.map Prod.fst,isD<|.slice s.n.A (Acc.nm l).length s.n.c,isD<|.map<|s.M.map Prod.snd]
def zhE (s:Bst) (l:List Acc.T):Box:= .r s.n.F (yP 9 1 YM s.n.A s.n.c<|Acc.nm l)
def zhG (s:Bst) (l:List Acc.T):Box:= .r s.F1 (Zc (s.M.map Prod.fst) Zi (Acc.nm l)<|acD l)
def zhD (s:Bst) (l:List Acc.T):Box:= .r s.F2 (Zc (s.M.map Prod.snd) Zy (Acc.seats l)<|seD l)
abbrev bookD (l:List Acc.T):D:=paD [mqD Zi (Acc.nm l)<|acD l,lsD YM<|Acc.nm l,mqD Zy (Acc.seats l)<|seD l]
theorem zcF {P:Program} {Γ:Cx} {σ:St} {Q:Exit→Act→World→Prop} {c:Code} {κ:Type} {enc:κ→Value} {K:List κ} {f:κ→D} {F:LN} (j:Nat) (hj:σ.bx[j]? =some (.r F<|Zc none enc K f)) (h:K=[]→SW P Γ σ c Q):SW P Γ σ c Q:=fun a w hh=>by
 obtain ⟨ks,_,hK,es,hm,hks,_⟩:=hh.resAt hj;rcases hm with ⟨_,rfl,_⟩ | ⟨g,ck,h0,_⟩
 ·have h1:ks=[]:=by simpa using hks.symm
  subst h1;exact h (List.eq_nil_iff_forall_not_mem.2 fun k hk=>by have:=(hK k).2 hk;simp at this) a w hh
 ·cases h0
theorem acD_eq {l l':List Acc.T} {k:LB} (h:Acc.find l' k=Acc.find l k):Le (acD l k) (acD l' k):=by unfold acD;rw [h];exact zb _
theorem seD_eq {l l':List Acc.T} {p:Int × Int} (h:Acc.seat l' p=Acc.seat l p):Le (seD l p) (seD l' p):=by unfold seD;rw [h];exact zb _
theorem acD_mem {l:List Acc.T} {a:Acc.T} (h:Acc.find l a.name=some a):acD l a.name=Zo (Yz a):=by unfold acD;rw [h];rfl
theorem seD_mem {l:List Acc.T} {a:Acc.T} (h:Acc.seat l (a.role,a.num)=some a):seD l (a.role,a.num)=yY a.name:=by unfold seD;rw [h];rfl
structure Acc.Free (l:List Acc.T) (a:Acc.T):Prop where
 fine:Acc.Fine l
 fine':Acc.Fine (Acc.ins l a)
 nm:a.name∉Acc.nm l
 st:a.role≠3→(a.role,a.num)∉Acc.seats l
theorem zc2 (r n:Int):Le (Zo [iD r,iD n]) (isD<|Zy (r,n)):=zaU (vs:=[.int .i64 r,.int .i64 n])
end
section
theorem con_put0 (gb:Nat) (n:Ust) (F1 F2:LN) (l:List Acc.T) (a:Acc.T) (A:Option Addr) (c:Nat) (F:LN) (R:Res) (hR:qb R (.slice A a.key.length c) (cellsOf a.key)) (hb:a.key.length≤1000000) (hl:l.length≤100000) (hf:Acc.Free l a):ConR Tryz.prog 110 [.c gb [isD<|.map none,isD<|.slice n.A (Acc.nm l).length n.c,isD<|.map none],.r n.F<|yP 9 1 YM n.A n.c<|Acc.nm l,.r F1<|Zc none Zi (Acc.nm l)<|acD l,.r F2<|Zc none Zy (Acc.seats l)<|seD l,.r F R] [pA gb,Zo [yY a.name,iD a.role,isD<|.slice A a.key.length c,iD a.dep,iD a.num]] (fun t:Nat × Nat × Ust × LN × LN=>[.c gb [isD<|.map<|some t.1,isD<|.slice t.2.2.1.A (Acc.nm<|Acc.ins l a).length t.2.2.1.c,isD<|.map<|some t.2.1],.r t.2.2.1.F<|yP 9 1 YM t.2.2.1.A t.2.2.1.c<|Acc.nm<|Acc.ins l a,.r t.2.2.2.1<|Zc (some t.1) Zi (Acc.nm<|Acc.ins l a)<|acD<|Acc.ins l a,.r t.2.2.2.2<|Zc (some t.2.1) Zy (Acc.seats<|Acc.ins l a)<|seD<|Acc.ins l a,.r F R]) (fun t:Nat × Nat × Ust × LN × LN=>isD<|.tuple #[]):=by
 have hin:Acc.nm (Acc.ins l a)=(Acc.nm l).take (Acc.pos l a.name) ++ a.name :: (Acc.nm l).drop (Acc.pos l a.name):=Acc.names_ins l a;have hpl:=Acc.pos_le l a.name
 have hil:(Acc.nm<|Acc.ins l a).length=(Acc.nm l).length + 1:=by simp [Acc.ins_len]
 refine yg Tryz.func110 k9 V k9 fun base w0=>(zk (zcF 2 V fun h0=> ?_))
 have hl0:l=[]:=by simpa using h0
 have hs0:Acc.seats l=[]:=by rw [hl0];rfl
 refine zi (SWl.e2 (S:=[]) (yv V V) fun g3=>(ze<|zk<|zp<|zd V<|za V (zz V)<|za V (zc (n:=0) V k9)<|za V (zg 0 V V V k9 zh)<|za V (zeO (kt:=9) (et:=121) V V k9)<|ze<|zW V V<|zi<|zd V<|zd V (SWl.e2 (S:=[]) (jo (enc:=Zi) (acD<|Acc.ins l a) V) fun g13=>(SWl.e2 (S:=[]) (jo (enc:=Zy) (seD<|Acc.ins l a) V) fun g14=>(za V (zz V)<|za V (zc (n:=0) V k9)<|zt (S:=[_]) (zR 0 V V V k9 V<|m9 V)<|za V (zz V)<|za V (zc (n:=2) V k9)<|zt (S:=[_]) (zR 0 V V V k9 V<|m9 V)<|ze<|zk<|zO (σ':=zN [(0,_),(3,_)] [_,_,_,_,_,_]) (sB [0,1,6,7,5,4] V V)<|yh ([g13] ++ []) (rr [0,1,2,3,4,5,6]<|.n 7 (.e 8 .fin .no) .no) k9 k9 (fun d _ _ _ _ h=>by cases d <;> exact h)<|zL V V<|zl V V (zz V)<|zl V V (zc (n:=0) V k9)<|zl V V (zg 0 V V V k9<|yB 2 V d9 zh)<|zl V V (zc (n:=0) V k9)<|zl V V (zg 4 V V V k9<|yB 2 V d9 zh)<|zl V V (zA 4 5 V V k9 V<|yB 2 V d9 zh)<|yw V (zD [5] (WH a.name a.role a.key a.dep a.num hb) V ⟨(ZQ ⟨(zo<|zb _),(zo<|zb _),(jJ 5 V hR d9),(zo<|zb _),(zo<|zb _),t9⟩),t9⟩ V)<|yy V (ja (kt:=9) (et:=121) 2 V V V (zb _) V (by rw [acD_mem<|Acc.find_ins hf.fine'.srt];exact zb _) k9 (zc4 _) s9 (fun _ h=>mL _ h)) ?_)))))
 refine yI (zk<|zO (σ':=zN [(0,_),(3,_)] [_,_,_,_,_,_]) (sB [0,1,5,2,3,4] V V)<|yh [] (rr [0,1,2,3,4,5]<|.n 6 (rr [7,8,9,10,11] .fin) .no) k9 k9 (fun d _ _ _ _ h=>by cases d <;> exact h)<|zL V V<|zl V V (zz V)<|zl V V (zc (n:=1) V k9)<|zl V V (zg 0 V V V k9 zh)<|zl V V (zc (n:=0) V k9)<|zl V V (zg 4 V V V k9 zh)<|yw V (zD [1] ((zcw lays26 l a.name hf.fine.srt o9)) V ⟨(YC 1 V d9),(zo<|zb _),t9⟩ V)<|zL V V<|zl V V (zm V V)<|zl V V (zm V V)<|Zh V V<|Zh V V<|yI<|zk<|zO (σ':=zN [(0,_),(3,_),(4,_)] [_,_,_,_,_,_]) (sB [0,1,2,3,4,5] V V)<|yh (n.F ++ (gb :: [])) (rr [0,1,2,3]<|.q 4<|rr [5,6,7]<|.n 8 (.e 9 (.r 10<|.r 11<|.e 12 .fin .no) .no) .no) k9 k9 (fun d _ _ _ _ h=>by cases d <;> exact h)<|zL V V<|zL V V<|zl V V (zz V)<|zl V V (zc (n:=1) V k9)<|Yy V V (zg 0 V V V k9 zh)<|zL V V<|zl V V (zc (n:=0) V k9)<|zl V V (zg 4 V V V k9<|yB 1 V d9<|yK 0 V d9 zh)<|yw V (Ef.litB (e:=9) [Zi a.name] V V (fun L w vs hv=>by obtain ⟨u,rfl,rfl⟩:=zeG hv;intro w';kernel_rfl) V)<|yW V (zC [1] ((zcy lays22 (Acc.nm l) n a.name (Acc.pos l a.name) (by simpa using hpl) (by simpa using (by omega:l.length≤1000000)))) V ⟨zb _,zb _,zb _,t9⟩ d9 ⟨lR V,t9⟩ (Vf (fun _ h=>mL _ h) Z3) V) ?_ yf)
 rintro _ ⟨t46,rfl⟩;refine zl V V (zz V) (zl V V (zc (n:=1) V k9)<|yy V (zR 0 V V V k9 V<|mR _ mC)<|yI<|zk<|zO (σ':=zN [(0,_),(3,_)] [.c gb [isD<|.map<|some g13,isD<|.slice t46.A (Acc.nm<|Acc.ins l a).length t46.c,isD<|.map<|some g14],.r t46.F<|yP 9 1 YM t46.A t46.c<|Acc.nm<|Acc.ins l a,.r [g13]<|Zc (some g13) Zi (a.name :: [])<|acD<|Acc.ins l a,.r [g14]<|Zc (some g14) Zy []<|seD<|Acc.ins l a,.c g3 [yY a.name,iD a.role,isD<|.slice A a.key.length c,iD a.dep,iD a.num],.r F R]) (⟨⟨_,V,(sT V)⟩,[0,5,1,2,3,4],by decide,⟨⟨_,rfl,⟨zb _,zF (by rw [hil]),zb _,trivial⟩⟩,⟨⟨_,rfl,ZZ (by rw [hin]) (by rw [hin])⟩,(sX rfl)⟩⟩⟩)<|zi<|za V (zc (n:=1) V k9)<|za V (zg 4 V V V k9 zh)<|za V (ye V V)<|ze<|zJ V (fun hb51=> ?_) (fun hb51=> ?_))
 ·have h51:a.role≠3:=by simpa using hb51
  refine yh ([g14] ++ []) (rr [0,1,2,3,4,5,6,7,8,9,10]<|.e 11 .fin .no) k9 k9 (fun d _ _ _ _ h=>by cases d <;> exact h) (zL V V<|zl V V (zz V)<|zl V V (zc (n:=2) V k9)<|zl V V (zg 0 V V V k9<|yB 3 V d9 zh)<|zl V V (zc (n:=1) V k9)<|zl V V (zg 4 V V V k9<|yB 3 V d9 zh)<|zl V V (zc (n:=4) V k9)<|zl V V (zg 4 V V V k9<|yB 3 V d9 zh)<|zl V V (yq V V zgA)<|zl V V (zc (n:=0) V k9)<|zl V V (zg 4 V V V k9<|yB 3 V d9 zh)<|yy V (ja (kt:=158) (et:=9) 3 V V V (zc2 _ _) V (by rw [seD_mem<|Acc.seat_mem hf.fine' (Acc.mem_ins.2<|.inl rfl) h51];exact zb _) k9 (keySt _) s9 (fun _ h=>mL _ h))<|yz ?_)
  refine Z1 (fn:=Tryz.f110) (⟨g13,g14,t46,[g13],[g14]⟩) [0,1,2,5,4] (Rs.none V) d9 ⟨la V,⟨lR V,⟨⟨_,V,Kw (fun k=>by rw [← Acc.mem_names_ins];simp [h0]) (fun _ _=>zb _)⟩,⟨⟨_,V,Kw (fun k=>by rw [← Acc.mem_seats_ins h51];simp [hs0]) (fun _ _=>zb _)⟩,⟨lR V,t9⟩⟩⟩⟩⟩
 ·have h51:a.role=3:=by simpa using hb51
  refine zr ?_;refine Z1 (fn:=Tryz.f110) (⟨g13,g14,t46,[g13],[g14]⟩) [0,1,2,3,5] (Rs.none V) d9 ⟨la V,⟨lR V,⟨⟨_,V,Kw (fun k=>by rw [← Acc.mem_names_ins];simp [h0]) (fun _ _=>zb _)⟩,⟨⟨_,V,Kw (fun k=>by rw [← Acc.mem_seats_ins3 h51];simp [hs0]) (fun _ _=>zb _)⟩,⟨lR V,t9⟩⟩⟩⟩⟩
theorem con_put1 (gb g1 g2:Nat) (n:Ust) (F1 F2:LN) (l:List Acc.T) (a:Acc.T) (A:Option Addr) (c:Nat) (F:LN) (R:Res) (hR:qb R (.slice A a.key.length c) (cellsOf a.key)) (hb:a.key.length≤1000000) (hl:l.length≤100000) (hf:Acc.Free l a):ConR Tryz.prog 110 [.c gb [isD<|.map<|some g1,isD<|.slice n.A (Acc.nm l).length n.c,isD<|.map<|some g2],.r n.F<|yP 9 1 YM n.A n.c<|Acc.nm l,.r F1<|Zc (some g1) Zi (Acc.nm l)<|acD l,.r F2<|Zc (some g2) Zy (Acc.seats l)<|seD l,.r F R] [pA gb,Zo [yY a.name,iD a.role,isD<|.slice A a.key.length c,iD a.dep,iD a.num]] (fun t:Nat × Nat × Ust × LN × LN=>[.c gb [isD<|.map<|some t.1,isD<|.slice t.2.2.1.A (Acc.nm<|Acc.ins l a).length t.2.2.1.c,isD<|.map<|some t.2.1],.r t.2.2.1.F<|yP 9 1 YM t.2.2.1.A t.2.2.1.c<|Acc.nm<|Acc.ins l a,.r t.2.2.2.1<|Zc (some t.1) Zi (Acc.nm<|Acc.ins l a)<|acD<|Acc.ins l a,.r t.2.2.2.2<|Zc (some t.2.1) Zy (Acc.seats<|Acc.ins l a)<|seD<|Acc.ins l a,.r F R]) (fun t:Nat × Nat × Ust × LN × LN=>isD<|.tuple #[]):=by
 have hin:Acc.nm (Acc.ins l a)=(Acc.nm l).take (Acc.pos l a.name) ++ a.name :: (Acc.nm l).drop (Acc.pos l a.name):=Acc.names_ins l a;have hpl:=Acc.pos_le l a.name
 have hil:(Acc.nm<|Acc.ins l a).length=(Acc.nm l).length + 1:=by simp [Acc.ins_len]
 refine yg Tryz.func110 k9 V k9 fun base w0=>(zp (SWl.e2 (S:=[]) (yv V V) fun g3=>(ze<|zk<|zp<|zd V<|za V (zz V)<|za V (zc (n:=0) V k9)<|za V (zg 0 V V V k9 zh)<|za V (zeO (kt:=9) (et:=121) V V k9)<|ze<|zE V V<|zr<|zn<|zk<|zO (σ':=zN [(0,_),(3,_)] [.c gb [isD<|.map<|some g1,isD<|.slice n.A (Acc.nm l).length n.c,isD<|.map<|some g2],.r n.F<|yP 9 1 YM n.A n.c<|Acc.nm l,.r F1<|Zc (some g1) Zi (Acc.nm l)<|acD<|Acc.ins l a,.r F2<|Zc (some g2) Zy (Acc.seats l)<|seD<|Acc.ins l a,.c g3 [yY a.name,iD a.role,isD<|.slice A a.key.length c,iD a.dep,iD a.num],.r F R]) (⟨⟨_,V,(sT V)⟩,[0,1,2,3,5,4],by decide,⟨la rfl,⟨lR rfl,⟨⟨_,rfl,Kw (fun _=>Iff.rfl) (fun k hk=>acD_eq<|Acc.find_ins' hf.fine.srt hf.fine'.srt hk)⟩,⟨⟨_,rfl,Kw (fun _=>Iff.rfl) (fun k hk=>seD_eq<|Acc.seat_ins' hf.fine hf.fine' hk)⟩,(sX rfl)⟩⟩⟩⟩⟩)<|yh (F1 ++ []) (rr [0,1,2,3,4,5,6]<|.n 7 (.e 8 .fin .no) .no) k9 k9 (fun d _ _ _ _ h=>by cases d <;> exact h)<|zL V V<|zl V V (zz V)<|zl V V (zc (n:=0) V k9)<|zl V V (zg 0 V V V k9<|yB 2 V d9 zh)<|zl V V (zc (n:=0) V k9)<|zl V V (zg 4 V V V k9<|yB 2 V d9 zh)<|zl V V (zA 4 5 V V k9 V<|yB 2 V d9 zh)<|yw V (zD [5] (WH a.name a.role a.key a.dep a.num hb) V ⟨(ZQ ⟨(zo<|zb _),(zo<|zb _),(jJ 5 V hR d9),(zo<|zb _),(zo<|zb _),t9⟩),t9⟩ V)<|yy V (ja (kt:=9) (et:=121) 2 V V V (zb _) V (by rw [acD_mem<|Acc.find_ins hf.fine'.srt];exact zb _) k9 (zc4 _) hf.nm (fun _ h=>mL _ h))<|yI<|zk<|zO (σ':=zN [(0,_),(3,_)] [_,_,_,_,_,_]) (sB [0,1,5,2,3,4] V V)<|yh [] (rr [0,1,2,3,4,5]<|.n 6 (rr [7,8,9,10,11] .fin) .no) k9 k9 (fun d _ _ _ _ h=>by cases d <;> exact h)<|zL V V<|zl V V (zz V)<|zl V V (zc (n:=1) V k9)<|zl V V (zg 0 V V V k9 zh) ?_)))
 refine zl V V (zc (n:=0) V k9) (zl V V (zg 4 V V V k9 zh)<|yw V (zD [1] ((zcw lays26 l a.name hf.fine.srt o9)) V ⟨(YC 1 V d9),(zo<|zb _),t9⟩ V)<|zL V V<|zl V V (zm V V)<|zl V V (zm V V)<|Zh V V<|Zh V V<|yI<|zk<|zO (σ':=zN [(0,_),(3,_),(4,_)] [_,_,_,_,_,_]) (sB [0,1,2,3,4,5] V V)<|yh (n.F ++ (gb :: [])) (rr [0,1,2,3]<|.q 4<|rr [5,6,7]<|.n 8 (.e 9 (.r 10<|.r 11<|.e 12 .fin .no) .no) .no) k9 k9 (fun d _ _ _ _ h=>by cases d <;> exact h)<|zL V V<|zL V V<|zl V V (zz V)<|zl V V (zc (n:=1) V k9)<|Yy V V (zg 0 V V V k9 zh)<|zL V V<|zl V V (zc (n:=0) V k9)<|zl V V (zg 4 V V V k9<|yB 1 V d9<|yK 0 V d9 zh)<|yw V (Ef.litB (e:=9) [Zi a.name] V V (fun L w vs hv=>by obtain ⟨u,rfl,rfl⟩:=zeG hv;intro w';kernel_rfl) V)<|yW V (zC [1] ((zcy lays22 (Acc.nm l) n a.name (Acc.pos l a.name) (by simpa using hpl) (by simpa using (by omega:l.length≤1000000)))) V ⟨zb _,zb _,zb _,t9⟩ d9 ⟨lR V,t9⟩ (Vf (fun _ h=>mL _ h) Z3) V) ?_ yf)
 rintro _ ⟨t46,rfl⟩;refine zl V V (zz V) (zl V V (zc (n:=1) V k9)<|yy V (zR 0 V V V k9 V<|mR _ mC)<|yI<|zk<|zO (σ':=zN [(0,_),(3,_)] [.c gb [isD<|.map<|some g1,isD<|.slice t46.A (Acc.nm<|Acc.ins l a).length t46.c,isD<|.map<|some g2],.r t46.F<|yP 9 1 YM t46.A t46.c<|Acc.nm<|Acc.ins l a,.r F1<|Zc (some g1) Zi (a.name :: (Acc.nm l))<|acD<|Acc.ins l a,.r F2<|Zc (some g2) Zy (Acc.seats l)<|seD<|Acc.ins l a,.c g3 [yY a.name,iD a.role,isD<|.slice A a.key.length c,iD a.dep,iD a.num],.r F R]) (⟨⟨_,V,(sT V)⟩,[0,5,1,2,3,4],by decide,⟨⟨_,rfl,⟨zb _,zF (by rw [hil]),zb _,trivial⟩⟩,⟨⟨_,rfl,ZZ (by rw [hin]) (by rw [hin])⟩,(sX rfl)⟩⟩⟩)<|zi<|za V (zc (n:=1) V k9)<|za V (zg 4 V V V k9 zh)<|za V (ye V V)<|ze<|zJ V (fun hb51=> ?_) (fun hb51=> ?_))
 ·have h51:a.role≠3:=by simpa using hb51
  refine yh (F2 ++ []) (rr [0,1,2,3,4,5,6,7,8,9,10]<|.e 11 .fin .no) k9 k9 (fun d _ _ _ _ h=>by cases d <;> exact h) (zL V V<|zl V V (zz V)<|zl V V (zc (n:=2) V k9)<|zl V V (zg 0 V V V k9<|yB 3 V d9 zh)<|zl V V (zc (n:=1) V k9)<|zl V V (zg 4 V V V k9<|yB 3 V d9 zh)<|zl V V (zc (n:=4) V k9)<|zl V V (zg 4 V V V k9<|yB 3 V d9 zh)<|zl V V (yq V V zgA)<|zl V V (zc (n:=0) V k9)<|zl V V (zg 4 V V V k9<|yB 3 V d9 zh)<|yy V (ja (kt:=158) (et:=9) 3 V V V (zc2 _ _) V (by rw [seD_mem<|Acc.seat_mem hf.fine' (Acc.mem_ins.2<|.inl rfl) h51];exact zb _) k9 (keySt _) (hf.st h51) (fun _ h=>mL _ h))<|yz ?_)
  refine Z1 (fn:=Tryz.f110) (⟨g1,g2,t46,F1,F2⟩) [0,1,2,5,4] (Rs.none V) d9 ⟨la V,⟨lR V,⟨⟨_,V,Kw (fun k=>Acc.mem_names_ins) (fun _ _=>zb _)⟩,⟨⟨_,V,Kw (fun k=>Acc.mem_seats_ins h51) (fun _ _=>zb _)⟩,⟨lR V,t9⟩⟩⟩⟩⟩
 ·have h51:a.role=3:=by simpa using hb51
  refine zr ?_;refine Z1 (fn:=Tryz.f110) (⟨g1,g2,t46,F1,F2⟩) [0,1,2,3,5] (Rs.none V) d9 ⟨la V,⟨lR V,⟨⟨_,V,Kw (fun k=>Acc.mem_names_ins) (fun _ _=>zb _)⟩,⟨⟨_,V,Kw (fun k=>Acc.mem_seats_ins3 h51) (fun _ _=>zb _)⟩,⟨lR V,t9⟩⟩⟩⟩⟩
end
section
theorem ConR.map {P:Program} {f:FuncId} {pre:List Box} {ad:List D} {ι ι':Type} {post:ι→List Box} {d:ι→D} {post':ι'→List Box} {d':ι'→D} (h:ConR P f pre ad post d) (g:ι→ι') (hp:∀ i,post i=post' (g i)) (hd:∀ i,d i=d' (g i)):ConR P f pre ad post' d':=
 ⟨h.en,fun L w vs h1 h2 h3 h4 h5 h6 h7=>(h.go L w vs h1 h2 h3 h4 h5 h6 h7).mono fun e w' ⟨i,v,a1,a2,a3,a4,a5,a6⟩=>⟨g i,v,a1,by rw [← hp,← hd];exact a2,by rw [← hp];exact a3,by rw [← hp];exact a4,by rw [← hp];exact a5,a6⟩⟩
theorem con_put (gb:Nat) (s:Bst) (l:List Acc.T) (a:Acc.T) (A:Option Addr) (c:Nat) (F:LN) (R:Res) (hR:qb R (.slice A a.key.length c) (cellsOf a.key)) (hb:a.key.length≤1000000) (hl:l.length≤100000) (hf:Acc.Free l a):
  ConR Tryz.prog 110 [zhF gb s l,zhE s l,zhG s l,zhD s l,.r F R] [pA gb,Zo [yY a.name,iD a.role,isD<|.slice A a.key.length c,iD a.dep,iD a.num]]
   (fun t:Bst=>[zhF gb t<|Acc.ins l a,zhE t<|Acc.ins l a,zhG t<|Acc.ins l a,zhD t<|Acc.ins l a,.r F R]) (fun _=>isD<|.tuple #[]):=by
 obtain ⟨M,F1,F2,n⟩:=s
 match M with
 | none=>exact (con_put0 gb n F1 F2 l a A c F R hR hb hl hf).map (fun t=>⟨some (t.1,t.2.1),t.2.2.2.1,t.2.2.2.2,t.2.2.1⟩) (fun _=>rfl) (fun _=>rfl)
 | some (g1,g2)=>exact (con_put1 gb g1 g2 n F1 F2 l a A c F R hR hb hl hf).map (fun t=>⟨some (t.1,t.2.1),t.2.2.2.1,t.2.2.2.2,t.2.2.1⟩) (fun _=>rfl) (fun _=>rfl)
theorem zf5 {l:List Acc.T} {a:Acc.T} (hf:Acc.Fine l) (ha:Acc.ok a) (hc:¬ ∃ x∈l,Acc.clash a x) (hl:l.length < 256):Acc.Free l a:=
 ⟨hf,hf.ins ha hc hl,fun h=>by obtain ⟨x,hx,e⟩:=JI.1 h;exact hc ⟨x,hx,.inl e⟩,fun h3 h=>by
  obtain ⟨x,hx,h4,e⟩:=Acc.mem_seats.1 h;injection e with e1 e2
  exact hc ⟨x,hx,.inr ⟨e1,e2,h3⟩⟩⟩
theorem YY {l:List Acc.T} {a:Acc.T} (h:¬Acc.ok a):Acc.add l a=(l,2):=by unfold Acc.add;rw [Jb h]
theorem Zl {l:List Acc.T} {a:Acc.T} (h:Acc.ok a) (hc:∃ x∈l,Acc.clash a x):Acc.add l a=(l,11):=by unfold Acc.add;rw [Jh h,Jh hc]
theorem Z7 {l:List Acc.T} {a:Acc.T} (h:Acc.ok a) (hc:¬ ∃ x∈l,Acc.clash a x) (hl:256≤l.length):Acc.add l a=(l,7):=by unfold Acc.add;rw [Jh h,Jb hc,Jh hl]
theorem Ya {l:List Acc.T} {a:Acc.T} (h:Acc.ok a) (hc:¬ ∃ x∈l,Acc.clash a x) (hl:¬256≤l.length):Acc.add l a=(Acc.ins l a,0):=by unfold Acc.add;rw [Jh h,Jb hc,Jb hl]
theorem qp {l:List Acc.T} {a:Acc.T} (h:a.name∈Acc.nm l):∃ x∈l,Acc.clash a x:=by
 obtain ⟨x,hx,e⟩:=JI.1 h;exact ⟨x,hx,.inl e⟩
theorem qo {l:List Acc.T} {a:Acc.T} (h:(a.role,a.num)∈Acc.seats l):∃ x∈l,Acc.clash a x:=by
 obtain ⟨x,hx,h3,e⟩:=Acc.mem_seats.1 h;injection e with e1 e2;exact ⟨x,hx,.inr ⟨e1,e2,by rw [← e1];exact h3⟩⟩
theorem ZE {l:List Acc.T} {a:Acc.T} (h1:a.name∉Acc.nm l) (h2:(a.role,a.num)∉Acc.seats l):¬ ∃ x∈l,Acc.clash a x:=by
 rintro ⟨x,hx,hc⟩;rcases hc with hc | ⟨e1,e2,h3⟩
 ·exact h1 (JI.2 ⟨x,hx,hc⟩)
 ·exact h2 (Acc.mem_seats.2 ⟨x,hx,by rw [e1];exact h3,by rw [e1,e2]⟩)
def Acc.zero:Acc.T:=⟨[],0,[],0,0⟩
def Wn (l:List Acc.T) (n:LB):Acc.T:=(Acc.find l n).getD Acc.zero
def Acc.getE (l:List Acc.T) (n:LB):Int:=if (Acc.find l n).isSome then 0 else 9
theorem YX {l:List Acc.T} {n:LB} {x:Acc.T} (h:Acc.find l n=some x):Wn l n=x∧Acc.getE l n=0:=by unfold Wn Acc.getE;rw [h];exact ⟨rfl,rfl⟩
theorem jb {l:List Acc.T} {n:LB} (h:Acc.find l n=none):Wn l n=Acc.zero∧Acc.getE l n=9:=by unfold Wn Acc.getE;rw [h];exact ⟨rfl,rfl⟩
theorem zeV {l:List Acc.T} {n:LB} {x:Acc.T} (h:Acc.find l n=some x):n∈Acc.nm l:=JI.2 ⟨x,Acc.find_some h⟩
theorem zhX {l:List Acc.T} {n:LB} (h:Acc.find l n=none):n∉Acc.nm l:=fun hm=>Acc.find_none.1 h (JI.1 hm)
theorem tup_ac {l:List Acc.T} {n:LB} {x:Acc.T} (h:Acc.find l n=some x):Le (Yk [acD l n,isD<|.bool true]) (Yk [Zo [yY x.name,iD x.role,bD x.key,iD x.dep,iD x.num],isD<|.bool true]):=by unfold acD;rw [h];exact zb _
theorem ac_x {l:List Acc.T} {n:LB} {x:Acc.T} (h:Acc.find l n=some x):Le (acD l n) (Zo [yY x.name,iD x.role,bD x.key,iD x.dep,iD x.num]):=by unfold acD;rw [h];exact zb _
theorem zf7:Le (Yk [isD<|.agg #[.string ⟨#[]⟩,.int .i64 0,.slice none 0 0,.int .i64 0,.int .i64 0],isD<|.bool false]) (Yk [Zo [yY [],iD 0,isD<|.slice none 0 0,iD 0,iD 0],isD<|.bool false]):=yn ⟨zaS (vs:=[.string ⟨#[]⟩,.int .i64 0,.slice none 0 0,.int .i64 0,.int .i64 0]),zb _,trivial⟩
theorem zhH (x:Acc.T):Bls Tryz.prog 29 1 [0] [Zo [yY x.name,iD x.role,bD x.key,iD x.dep,iD x.num]] ([x].flatMap Yz):=⟨121,fun L w vs hv=>by
 obtain ⟨u,rfl,cs,rfl,hc⟩:=zeG hv
 match cs,hc with
 | [a,b,c,d,e],hc=>
  obtain ⟨rfl,rfl,h3,rfl,rfl,-⟩:=hc;have h3':=h3;obtain ⟨A,cp,rfl,-⟩:=h3
  exact ⟨[.string _,.int .i64 _,.slice A _ cp,.int .i64 _,.int .i64 _],⟨V,V,h3',V,V,t9⟩,fun w'=>by kernel_rfl⟩⟩
theorem nwA5 {n:Nat} {x:Acc.T}:Le (Zo [nwD n<|yY x.name,nwD n<|iD x.role,nwD n<|bD x.key,nwD n<|iD x.dep,nwD n<|iD x.num]) (nwD n<|Zo<|Yz x):=by
 have h:LeAll [nwD n<|yY x.name,nwD n<|iD x.role,nwD n<|bD x.key,nwD n<|iD x.dep,nwD n<|iD x.num] ([yY x.name,iD x.role,bD x.key,iD x.dep,iD x.num].map<|nwD n):=⟨zb _,zb _,zb _,zb _,zb _,trivial⟩;exact jg h
theorem nwZ5 {n:Nat}:Le (Zo [yY [],iD 0,isD<|.slice none 0 0,iD 0,iD 0]) (nwD n<|Zo<|Yz Acc.zero):=by
 have h:LeAll [yY [],iD 0,isD<|.slice none 0 0,iD 0,iD 0] ([yY [],iD 0,bD [],iD 0,iD 0].map<|nwD n):=⟨zu,zu,Le.trans (zu (x:= .slice none 0 0))<|qY (Js _) Zz,zu,zu,trivial⟩;exact jg h
instance (a:Acc.T):Ones (Yz a):=by unfold Yz;infer_instance
