/- ROUNDS: the small functions. ROUNDS in plain Lean: the steps of a submission. ROUNDS: New. -/
import Derived.Test.YtgokpcnabgacnaaGreatDoorGZAW
set_option maxHeartbeats 8000000
set_option maxRecDepth 100000
namespace Go.Proofs.YtgokpcnabgacnaaGreatDoor
open Go.RowKit
namespace Sx
def YB (x:Rnd.Win):List D:=[iD x.st,iD x.en,iD x.rv,bD x.cm]
instance:Row YB 4:=⟨fun _=>rfl,fun _=>by unfold YB;infer_instance,by decide⟩
instance (w:Rnd.Win):Ones (YB w):=by unfold YB;infer_instance
instance (e:Env.T):Ones (yX e):=by unfold yX;infer_instance
def kyD (ks:List LB) (r:Int):D:=bD (Rnd.kyAt ks r.toNat)
abbrev mkD (ks:List LB):D:=mqD jM (Rnd.rks ks) (kyD ks)
abbrev rndD (p0:Addr) (ws:List Rnd.Win) (ck:Int) (p3:Addr) (A:Option Addr) (n c:Nat) (ks:List LB):D:=paD [isD<|.pointer<|some p0,lsD YB ws,iD ck,isD<|.pointer<|some p3,isD<|.slice A n c,mkD ks]
theorem keyZ (k:Int):∀ ks,KeyOk Tryz.prog 3 jM k ks:=keyOk_int k9 k
theorem zd4 (k:LB):∀ ks,KeyOk Tryz.prog 9 Zi k ks:=fun ks=>zd3 k9 k ks
theorem zcG:∀ {ws:List Rnd.Win} {b:Int} {x:Rnd.Win},Rnd.okL b ws→x∈ws→x.cm.length=32
 | _ :: _,_,_,h,hx=>by
  rcases Jt.1 hx with rfl | hx
  ·exact h.1.2.2.2.2
  ·exact zcG h.2 hx
theorem zct (l:List Rnd.Win) (hl:l.length≤1000000):ConN Tryz.prog 51 [lsD YB l] (yj<|decide (Rnd.ok l)):=by
 refine yO Tryz.func51 k9 V k9 fun base w0=>(zp<|zf V<|ze<|zk<|zp<|zd V<|za V (yx (e:=26) V k9)<|za V (yF V V)<|zd V<|zU 9 V (fun hb9=> ?_) (fun hb9=> ?_))
 ·have h9:(l.length:Int) < 1:=oT hb9;refine zq hb9 (zq hb9<|zq hb9<|za V (zB V hb9 V)<|ze<|zW V V<|zp<|zf V<|ze<|zK (fn:=Tryz.f51) (fun _ _ h=>h)<|Rs.le (Rs.one V<|zj V) ?_);exact zZ (by symm;apply Jd;intro h;have:=h.1.1;omega)
 ·have h9:¬(l.length:Int) < 1:=oF hb9;refine zy hb9 (zI V) (zy hb9 (yx (e:=26) V k9)<|zy hb9 (Zq V V)<|za V (zv V hb9 V)<|ze<|zJ V (fun hb13=> ?_) (fun hb13=> ?_))
  ·have h13:(l.length:Int) > 500:=oT hb13;refine zp (zf V<|ze<|zK (fn:=Tryz.f51) (fun _ _ h=>h)<|Rs.le (Rs.one V<|zj V) ?_);exact zZ (by symm;apply Jd;intro h;have:=h.1.2;omega)
  ·have h13:¬(l.length:Int) > 500:=oF hb13;refine zr (zn<|zp<|zf V<|ze<|zk<|zp<|zd V<|za V (yx (e:=26) V k9)<|zd V<|ze<|zX<|Zw (ι:={i:Nat // i≤l.length∧(Rnd.okL 0 l↔Rnd.okL (Rnd.before l i) (l.drop i))}) (fun i=>zN [(14,lsD YB l),(15,iD (l.length:Int)),(16,iD (i.1:Int)),(3,iD<|Rnd.before l i.1)] []) (fun i=>l.length - i.1) (⟨0,JC _,Iff.rfl⟩) ?_ ?_)
   ·exact (sB [] V V)
   ·rintro ⟨i,hi,hq⟩ K0 hK0;dsimp only at hi hq ⊢;refine zp (za V (yF V V)<|ze<|zk<|zJ V (fun hb17=> ?_) (fun hb17=> ?_))
    ·have h17:(i:Int) < (l.length:Int):=oT hb17;refine zr (zn<|zk<|zX<|zk ?_);obtain ⟨x,hx⟩:∃ x,l[i]? =some x:=⟨_,Je o9⟩;refine zi (za V (yp (e:=26) 4 V V k9 k9 o9 (by simpa using hx))<|za V (ZK 4 V k9 d9 (show 4≤4 by decide) s9) (SWl.e2 (S:=[]) (zM (zs:=[.int .i64 0,.int .i64 0,.int .i64 0,.slice none 0 0]) k9 V) fun g5=>(zt (S:=[_]) (zw 0 V V V k9 V<|m9 V)<|ze<|zk<|zp<|za V (zc (n:=0) V k9)<|za V (zg 0 V V V k9 zh)<|zd V<|za V (yF V V)<|zd V<|zU 24 V (fun hb24=> ?_) (fun hb24=> ?_))))
     ·have h24:x.st < Rnd.before l i:=oT hb24;refine zq hb24 (zq hb24<|zq hb24<|zq hb24<|zq hb24<|za V (zB V hb24 V)<|zd V<|zq V<|zq V<|zq V<|zq V<|zq V<|za V (zB V V V)<|zd V<|zq V<|zq V<|zq V<|za V (zB V V V)<|zd V<|zq V<|zq V<|zq V<|zq V<|za V (zB V V V)<|ze<|zW V V<|zp<|zf V<|ze<|zK (fn:=Tryz.f51) (fun _ _ h=>h)<|Rs.le (Rs.one V<|zj V) ?_);exact zZ (by symm;apply Jd;intro h;obtain ⟨⟨a1,a2,a3,a4,a5⟩,-⟩:=(Rnd.okL_step hx).1 (hq.1 h.2);exact absurd a1 o9)
     ·have h24:¬x.st < Rnd.before l i:=oF hb24;refine zy hb24 (zc (n:=0) V k9) (zy hb24 (zg 0 V V V k9 zh)<|zy hb24 (zc (n:=1) V k9)<|zy hb24 (zg 0 V V V k9 zh)<|zy hb24 (ZB V V)<|za V (zv V hb24 V)<|zd V<|zU 31 V (fun hb31=> ?_) (fun hb31=> ?_))
      ·have h31:x.st≥x.en:=oT hb31;refine zq hb31 (zq hb31<|zq hb31<|zq hb31<|zq hb31<|za V (zB V hb31 V)<|zd V<|zq V<|zq V<|zq V<|za V (zB V V V)<|zd V<|zq V<|zq V<|zq V<|zq V<|za V (zB V V V)<|ze<|zW V V<|zp<|zf V<|ze<|zK (fn:=Tryz.f51) (fun _ _ h=>h)<|Rs.le (Rs.one V<|zj V) ?_);exact zZ (by symm;apply Jd;intro h;obtain ⟨⟨a1,a2,a3,a4,a5⟩,-⟩:=(Rnd.okL_step hx).1 (hq.1 h.2);exact absurd a2 o9)
      ·have h31:¬x.st≥x.en:=oF hb31;refine zy hb31 (zc (n:=1) V k9) (zy hb31 (zg 0 V V V k9 zh)<|zy hb31 (zc (n:=2) V k9)<|zy hb31 (zg 0 V V V k9 zh)<|zy hb31 (Zq V V)<|za V (zv V hb31 V)<|zd V<|zU 38 V (fun hb38=> ?_) (fun hb38=> ?_))
       ·have h38:x.en > x.rv:=oT hb38;refine zq hb38 (zq hb38<|zq hb38<|za V (zB V hb38 V)<|zd V<|zq V<|zq V<|zq V<|zq V<|za V (zB V V V)<|ze<|zW V V<|zp<|zf V<|ze<|zK (fn:=Tryz.f51) (fun _ _ h=>h)<|Rs.le (Rs.one V<|zj V) ?_);exact zZ (by symm;apply Jd;intro h;obtain ⟨⟨a1,a2,a3,a4,a5⟩,-⟩:=(Rnd.okL_step hx).1 (hq.1 h.2);exact absurd a3 o9)
       ·have h38:¬x.en > x.rv:=oF hb38;refine zy hb38 (zc (n:=2) V k9) (zy hb38 (zg 0 V V V k9 zh)<|zy hb38 (Zq V V)<|za V (zv V hb38 V)<|zd V<|zU 43 V (fun hb43=> ?_) (fun hb43=> ?_))
        ·have h43:x.rv > 1099511627776:=oT hb43;refine zq hb43 (zq hb43<|zq hb43<|zq hb43<|za V (zB V hb43 V)<|ze<|zW V V<|zp<|zf V<|ze<|zK (fn:=Tryz.f51) (fun _ _ h=>h)<|Rs.le (Rs.one V<|zj V) ?_);exact zZ (by symm;apply Jd;intro h;obtain ⟨⟨a1,a2,a3,a4,a5⟩,-⟩:=(Rnd.okL_step hx).1 (hq.1 h.2);exact absurd a4 o9)
        ·have h43:¬x.rv > 1099511627776:=oF hb43;refine zy hb43 (zc (n:=3) V k9) (zy hb43 (zg 0 V V V k9 zh)<|zy hb43 (ZC (e:=5) V k9)<|zy hb43 (ye V V)<|za V (zv V hb43 V)<|ze<|zJ V (fun hb48=> ?_) (fun hb48=> ?_))
         ·have h48:¬x.cm.length=32:=by (simp at hb48;omega)
          refine zp (zf V<|ze<|zK (fn:=Tryz.f51) (fun _ _ h=>h)<|Rs.le (Rs.one V<|zj V) ?_);exact zZ (by symm;apply Jd;intro h;obtain ⟨⟨a1,a2,a3,a4,a5⟩,-⟩:=(Rnd.okL_step hx).1 (hq.1 h.2);exact absurd a5 h48)
         ·have h48:x.cm.length=32:=by (simp at hb48;omega)
          exact zr (zn<|zi<|za V (zc (n:=1) V k9)<|za V (zg 0 V V V k9 zh)<|zf V<|zP<|yc<|zn<|zi<|za V (yC V V ⟨by omega,by omega⟩)<|zd V<|zP (fun a w hh=>hK0 (⟨i + 1,by omega,hq.trans<|(Rnd.okL_step hx).trans ⟨fun h=>h.2,fun h=>⟨⟨by omega,by omega,by omega,by omega,by simpa using h48⟩,h⟩⟩⟩) (by dsimp only;omega) a w<|hh.sub<|⟨⟨_,V,⟨lq V,⟨lq V,⟨⟨_,V,zF s9⟩,⟨⟨_,V,zF (by rw [Rnd.before_succ hx])⟩,t9⟩⟩⟩⟩⟩,[],by decide,trivial⟩))
    ·have h17:¬(i:Int) < (l.length:Int):=oF hb17;refine yZ ?_
     repeat (first | refine Ze ?_ | refine Zf d9 ?_)
     refine Zn (zn<|zp<|zf V<|ze<|zK (fn:=Tryz.f51) (fun _ _ h=>h)<|Rs.le (Rs.one V<|zj V) ?_);exact zZ (by symm;apply Jo;refine ⟨⟨by omega,by omega⟩,hq.2 ?_⟩;rw [show i=l.length by omega];exact Rnd.okL_all _ _)
theorem WF (now:Int):ConN Tryz.prog 56 [iD now] (yj<|decide (Rnd.time now)):=by
 refine yO Tryz.func56 k9 V k9 fun base w0=>(zp<|zf V<|zV<|zd V<|za V (ZB V V)<|zd V<|zU 5 V (fun hb5=> ?_) (fun hb5=> ?_))
 ·have h5:now≥0:=oT hb5;refine zy hb5 (zI V) (zy hb5 (YR V V)<|za V (zB V hb5 V)<|zf V<|ze<|zK (fn:=Tryz.f56) (fun _ _ h=>h)<|Rs.le (Rs.one V<|zj V) ?_);exact zZ (by rw [JW];exact ⟨fun h=>⟨h5,h⟩,fun h=>h.2⟩)
 ·have h5:¬now≥0:=oF hb5;refine zq hb5 (zq hb5<|za V (zv V hb5 V)<|zf V<|ze<|zK (fn:=Tryz.f56) (fun _ _ h=>h)<|Rs.le (Rs.one V<|zj V) ?_);exact zZ (by symm;apply Jd;intro h;exact h5 h.1)
theorem Vk (e:Env.T) (h1:e.box.length≤1000000) (h2:e.tag.length≤1000000):Con Tryz.prog 63 [Zo [yY e.acc,iD e.rnd,iD e.ser,bD e.box,bD e.tag]] (Zo<|yX e):=by
 refine YP Tryz.func63 k9 V k9 fun base w0=>(zp (SWl.e2 (S:=[]) (yv V V) fun g1=>(SWl.e2 (S:=[]) (zM (zs:=[.string ⟨#[]⟩,.int .i64 0,.int .i64 0,.slice none 0 0,.slice none 0 0]) k9 V) fun g2=>(ze<|zk<|yh (g1 :: []) (.r 0<|.q 1<|.r 3<|.q 4<|.n 2 (.r 6<|.n 5 (.e 7 (.r 8<|.e 9 .fin .no) .no) .no) .no) k9 k9 (fun d _ _ _ _ h=>by cases d <;> exact h)<|zl V V (zc (n:=3) V k9)<|Yy V V (zg 0 V V V k9 zh)<|zl V V (zc (n:=4) V k9)<|Yy V V (zg 0 V V V k9 zh)<|yw V (zD [] (jO _ (by first | assumption | (simp <;> omega))) V ⟨(zo<|zb _),t9⟩ V)<|zl V V (zc (n:=3) V k9)<|yw V (zD [] (jO _ (by first | assumption | (simp <;> omega))) V ⟨(zo<|zb _),t9⟩ V)<|yy V (zR 0 V V V k9 V mC)<|zl V V (zc (n:=4) V k9)<|yy V (zR 0 V V V k9 V mC)<|yI<|zk<|zO (σ':=zN [(1,pA g1),(2,pA g2)] [.c g1 [yY e.acc,iD e.rnd,iD e.ser,bD e.box,bD e.tag],.c g2 [yY [],iD 0,iD 0,isD<|.slice none 0 0,isD<|.slice none 0 0]]) (sB [0,1] V V)<|zi<|za V (zA 0 5 V V k9 V zh)<|zt (S:=[_]) (zw 1 V V V k9 V<|m9 V)<|ze<|zK (fn:=Tryz.f63) (fun _ _ h=>h)<|Rs.le (Rs.one V<|zS 1 V V k9) ?_))))
 exact zb _
theorem zed:ConR Tryz.prog 64 [] [] (fun g:Nat=>[.c g [iD 0]]) (fun g:Nat=>Yk [isD<|.func (.func 116) #[] #[.pointer<|some ⟨g,0,none⟩],isD<|.func (.func 117) #[] #[.pointer<|some ⟨g,0,none⟩]]):=by
 refine yg Tryz.func64 k9 V k9 fun base w0=>(zp<|zf V<|zf V<|zV (SWl.e2 (S:=[]) (zM (zs:=[.int .i64 0]) k9 V) fun g2=>(zt (S:=[_]) (zR 0 V V V k9 V<|m9 V)<|zV<|za V (y9 [.pointer<|some ⟨g2,0,none⟩] V)<|zf V<|zV<|zd V<|za V (y9 [.pointer<|some ⟨g2,0,none⟩] V)<|zf V<|zf V<|ze ?_)));refine zQ (fn:=Tryz.f64) (g2) [0] (fun _ _ h=>h) (ym V (zj V)<|zj V) d9 ⟨la V,t9⟩
theorem ZI (ok:Bool) (c:Int):ConR Tryz.prog 65 [] [yj ok,iD c] (fun t:Nat × Nat=>[.c t.1 [yj ok],.c t.2 [iD c]]) (fun t:Nat × Nat=>isD<|.func (.func 118) #[] #[.pointer<|some ⟨t.1,0,none⟩,.pointer<|some ⟨t.2,0,none⟩]):=by
 refine yg Tryz.func65 k9 V k9 fun base w0=>(zp (SWl.e2 (S:=[]) (Yh V (fun _ _ _ h=>Zg<|One.h _ _ _ h) V) fun g2=>(SWl.e2 (S:=[]) (Yh V (fun _ _ _ h=>Zg<|One.h _ _ _ h) V) fun g3=>(zf V<|zV<|za V (y9 [.pointer<|some ⟨g2,0,none⟩,.pointer<|some ⟨g3,0,none⟩] V)<|zf V<|ze ?_))));refine zQ (fn:=Tryz.f65) ((g2,g3)) [0,1] (fun _ _ h=>h) (Rs.one V<|zj V) d9 (sX V)
theorem qd (ga gb:Nat) (ok:Bool) (c:Int):ConR Tryz.prog 118 [.c ga [yj ok],.c gb [iD c]] [pA ga,pA gb] (fun _:Unit=>[.c ga [yj ok],.c gb [iD c]]) (fun _:Unit=>iD<|unE ok c):=by
 refine yg Tryz.func118 k9 V k9 fun base w0=>(zp<|zf V<|ze<|zk<|zp<|za V (zg 0 V V V k9 zh)<|ze<|zJ V (fun hb3=> ?_) (fun hb3=> ?_))
 ·subst hb3;refine zp (zf V<|ze<|zQ (fn:=Tryz.f118) (()) [0,1] (fun _ _ h=>h) (Rs.le (Rs.one V<|zj V) ?_) d9<|sX V);exact zb _
 ·subst hb3;refine zr (zn<|zp<|za V (zg 1 V V V k9 zh)<|zf V<|ze<|zQ (fn:=Tryz.f118) (()) [0,1] (fun _ _ h=>h) (Rs.le (Rs.one V<|zj V) ?_) d9<|sX V);exact zb _
theorem K4 (g:Nat) (c:Int):ConR Tryz.prog 117 [.c g [iD c]] [pA g] (fun _:Unit=>[.c g [iD c]]) (fun _:Unit=>iD c):=by
 refine yg Tryz.func117 k9 V k9 fun base w0=>(zp<|zf V<|zV<|za V (zg 0 V V V k9 zh)<|zf V<|ze<|zQ (fn:=Tryz.f117) (()) [0] (fun _ _ h=>h) (Rs.le (Rs.one V<|zj V) ?_) d9 ⟨la V,t9⟩);exact zb _
theorem qF (p0 p3:Addr) (ws:List Rnd.Win) (ck:Int) (A:Option Addr) (n c:Nat) (ks:List LB):ConN Tryz.prog 55 [rndD p0 ws ck p3 A n c ks] (yj false):=by
 refine yO Tryz.func55 k9 V k9 fun base w0=>(zp<|zf V<|zV<|zd V<|za V (zbC V V k9)<|zd V<|zy V (zI V)<|zy V (yQ V)<|zy V (yb (n:=0) V k9 (show 0 < 6 by decide))<|zy V (ya V V k9 s9)<|zy V (YS V V k9)<|za V (zv V V V)<|zf V<|ze<|zK (fn:=Tryz.f55) (fun _ _ h=>h)<|Rs.le (Rs.one V<|zj V) ?_);exact zu
theorem zbk (p0 p3:Addr) (ws:List Rnd.Win) (ck:Int) (A:Option Addr) (n c:Nat) (ks:List LB) (r:Int):ConN Tryz.prog 57 [rndD p0 ws ck p3 A n c ks,iD r] (yj<|decide (0≤r∧r < (ws.length:Int))):=by
 refine yO Tryz.func57 k9 V k9 fun base w0=>(zp<|zf V<|zV<|zd V<|za V (ZB V V)<|zd V<|zU 7 V (fun hb7=> ?_) (fun hb7=> ?_))
 ·have h7:r≥0:=oT hb7;refine zy hb7 (zI V) (zy hb7 (zI V)<|zy hb7 (yQ V)<|zy hb7 (yb (n:=1) V k9 (show 1 < 6 by decide))<|zy hb7 (ya V V k9 s9)<|zy hb7 (yx (e:=26) V k9)<|zy hb7 (yF V V)<|za V (zB V hb7 V)<|zf V<|ze<|zK (fn:=Tryz.f57) (fun _ _ h=>h)<|Rs.le (Rs.one V<|zj V) ?_);exact zZ (by rw [JW];exact ⟨fun h=>⟨h7,h⟩,fun h=>h.2⟩)
 ·have h7:¬r≥0:=oF hb7;refine zq hb7 (zq hb7<|zq hb7<|zq hb7<|zq hb7<|zq hb7<|zq hb7<|za V (zv V hb7 V)<|zf V<|ze<|zK (fn:=Tryz.f57) (fun _ _ h=>h)<|Rs.le (Rs.one V<|zj V) ?_);exact zZ (by symm;apply Jd;intro h;exact h7 h.1)
theorem zbc (p0 p3:Addr) (ws:List Rnd.Win) (ck:Int) (A:Option Addr) (n c:Nat) (ks:List LB) (r now:Int) (w:Rnd.Win) (h0:0≤r) (hw:ws[r.toNat]? =some w):ConN Tryz.prog 58 [rndD p0 ws ck p3 A n c ks,iD r,iD now] (iD<|Rnd.stOf w (Rnd.kyAt ks r.toNat) now):=by
 have hrl:=(Jg.1 hw).1;refine yO Tryz.func58 k9 V k9 fun base w0=>(zp<|zf V<|zV<|zd V<|za V (yQ V)<|za V (yb (n:=1) V k9 (show 1 < 6 by decide))<|za V (ya V V k9 s9)<|zd V<|za V (yp (e:=26) 4 V V k9 k9 o9 hw)<|za V (ZK 4 V k9 d9 (show 4≤4 by decide) s9) (SWl.e2 (S:=[]) (zM (zs:=[.int .i64 0,.int .i64 0,.int .i64 0,.slice none 0 0]) k9 V) fun g7=>(zt (S:=[_]) (zw 0 V V V k9 V<|m9 V)<|ze<|zk ?_)))
 by_cases hm:Rnd.kyAt ks r.toNat≠[]
 ·have hin:=Rnd.mem_rks.2 ⟨h0,hm⟩;refine zi (zd V<|za V (yQ V)<|za V (yb (n:=5) V k9 (show 5 < 6 by decide))<|za V (ya V V k9 s9)<|zd V<|za V ((zbA (kt:=3) (et:=24) (ok:=true) V V (show Le (iD r) (isD<|jM r) from zb _) k9 (keyZ _) hin s9))<|zd V<|za V (zm V V)<|za V (zm V V)<|zf V<|zf V<|ze<|zk<|zX<|zp<|zd V<|zf V<|ze<|zW V V<|zp<|zf V<|ze<|zK (fn:=Tryz.f58) (fun _ _ h=>h)<|Rs.le (Rs.one V<|zj V) ?_);exact Le.trans (zF (by unfold Rnd.stOf;rw [Jh hm])) zu
 ·have hin:r∉Rnd.rks ks:=fun h=>hm (Rnd.mem_rks.1 h).2;refine zi (zd V<|za V (yQ V)<|za V (yb (n:=5) V k9 (show 5 < 6 by decide))<|za V (ya V V k9 s9)<|zd V<|za V ((WP (kt:=3) (et:=24) (z:= .slice none 0 0) (ok:=true) V V (show Le (iD r) (isD<|jM r) from zb _) k9 k9 (keyZ _) hin s9))<|zd V<|za V (zm V V)<|za V (zm V V)<|zf V<|zf V<|ze<|zk<|zX<|zp<|zd V<|zf V<|ze<|zE V V<|zp<|zd V<|za V (zc (n:=0) V k9)<|za V (zg 0 V V V k9 zh)<|za V (yF V V)<|zf V<|ze<|zJ V (fun hb28=> ?_) (fun hb28=> ?_))
  ·have h28:now < w.st:=oT hb28;refine zp (zf V<|ze<|zK (fn:=Tryz.f58) (fun _ _ h=>h)<|Rs.le (Rs.one V<|zj V) ?_);exact Le.trans (zF (by unfold Rnd.stOf;rw [Jb hm,Jh h28])) zu
  ·have h28:¬now < w.st:=oF hb28;refine zp (zd V<|za V (zc (n:=1) V k9)<|za V (zg 0 V V V k9 zh)<|za V (yF V V)<|zf V<|ze<|zJ V (fun hb33=> ?_) (fun hb33=> ?_))
   ·have h33:now < w.en:=oT hb33;refine zp (zf V<|ze<|zK (fn:=Tryz.f58) (fun _ _ h=>h)<|Rs.le (Rs.one V<|zj V) ?_);exact Le.trans (zF (by unfold Rnd.stOf;rw [Jb hm,Jb h28,Jh h33])) zu
   ·have h33:¬now < w.en:=oF hb33;refine zr (yc<|zn<|zp<|zf V<|ze<|zK (fn:=Tryz.f58) (fun _ _ h=>h)<|Rs.le (Rs.one V<|zj V) ?_);exact Le.trans (zF (by unfold Rnd.stOf;rw [Jb hm,Jb h28,Jb h33])) zu
end Sx
end Go.Proofs.YtgokpcnabgacnaaGreatDoor
namespace Go.Proofs.YtgokpcnabgacnaaGreatDoor
open Go.RowKit
open Sx
namespace Rnd
def busyE (es:List Env.T) (e:Env.T):Int:=if busy es e then 11 else 0
abbrev S.app (s:S) (k:Int) (b:LB):S:={ s with en:=Led.app s.en k b }
theorem subP_len {e:Env.T} {now:Int} (h:Env.ok e) (ht:time now):(subP e now).length≤65536∧(grp now.toNat).length≤10∧(Env.enc e).length≤4300:=by
 have a1:=Env.sgnT_len h;have a2:=(Env.ok_len h).2.2.2.2.2.2.2;have a3:=ZN (b:=e.tag) o9
 have a4:(Env.enc e).length≤4300:=by unfold Env.enc;rw [Jk];omega
 have a5:=ZN (b:=Env.enc e) o9;have a6:=Zv (n:=now.toNat) (by have:=ht.2;omega);exact ⟨by unfold subP;rw [Jk];omega,a6,a4⟩
def c1 (e:Env.T) (now:Int):Int:=unE (decide (Env.ok e∧time now)) 2
def c2 (s:S) (e:Env.T) (now:Int):Int:=if c1 e now=0 then unE (decide (s.ck≤now∧has s e.rnd)) 3 else c1 e now
def c3 (s:S) (e:Env.T) (now:Int):Int:=if c2 s e now=0 then unE (decide (st s e.rnd.toNat now=2)) 8 else c2 s e now
def c4 (s:S) (e:Env.T) (now:Int):Int:=if c3 s e now=0 then Env.autE s.bk e else c3 s e now
def c5 (s:S) (e:Env.T) (now:Int):Int:=if c4 s e now=0 then busyE s.es e else c4 s e now
def c6 (s:S) (e:Env.T) (now:Int):Int:=if c5 s e now=0 then y8 s.en 1 (subP e now) else c5 s e now
def s5 (s:S) (e:Env.T) (now:Int):S:=if c5 s e now=0 then s.app 1 (subP e now) else s
theorem unE_0 {b:Bool} {k:Int} (hk:k≠0):unE b k=0↔b=true:=by cases b <;> simp [unE,hk]
theorem c1_0 {e:Env.T} {now:Int}:c1 e now=0↔Env.ok e∧time now:=by unfold c1;rw [unE_0 d9,decide_eq_true_iff]
theorem c2_0 {s:S} {e:Env.T} {now:Int}:c2 s e now=0↔(Env.ok e∧time now)∧s.ck≤now∧has s e.rnd:=by
 unfold c2
 split
 ·rename_i h;rw [unE_0 d9,decide_eq_true_iff];exact ⟨fun k=>⟨c1_0.1 h,k⟩,fun k=>k.2⟩
 ·rename_i h;exact ⟨fun k=>absurd k h,fun k=>absurd (c1_0.2 k.1) h⟩
theorem c3_0 {s:S} {e:Env.T} {now:Int}:c3 s e now=0↔c2 s e now=0∧st s e.rnd.toNat now=2:=by
 unfold c3
 split
 ·rename_i h;rw [unE_0 d9,decide_eq_true_iff];exact ⟨fun k=>⟨h,k⟩,fun k=>k.2⟩
 ·rename_i h;exact ⟨fun k=>absurd k h,fun k=>absurd k.1 h⟩
theorem c4_0 {s:S} {e:Env.T} {now:Int}:c4 s e now=0↔c3 s e now=0∧Env.autE s.bk e=0:=by
 unfold c4
 split
 ·rename_i h;exact ⟨fun k=>⟨h,k⟩,fun k=>k.2⟩
 ·rename_i h;exact ⟨fun k=>absurd k h,fun k=>absurd k.1 h⟩
theorem c5_0 {s:S} {e:Env.T} {now:Int}:c5 s e now=0↔c4 s e now=0∧¬busy s.es e:=by
 by_cases h:c4 s e now=0
 ·unfold c5 busyE;rw [Jh h]
  by_cases hb:busy s.es e
  ·rw [Jh hb];exact ⟨fun k=>(by cases k),fun k=>absurd hb k.2⟩
  ·rw [Jb hb];exact ⟨fun _=>⟨h,hb⟩,fun _=>V⟩
 ·unfold c5;rw [Jb h];exact ⟨fun k=>absurd k h,fun k=>absurd k.1 h⟩
theorem c5_ok {s:S} {e:Env.T} {now:Int} (h:c5 s e now=0):(Env.ok e∧time now)∧(s.ck≤now∧has s e.rnd)∧st s e.rnd.toNat now=2∧Env.autE s.bk e=0∧¬busy s.es e:=by
 obtain ⟨h4,hb⟩:=c5_0.1 h;obtain ⟨h3,ha⟩:=c4_0.1 h4;obtain ⟨h2,hs⟩:=c3_0.1 h3;obtain ⟨h1,h1'⟩:=c2_0.1 h2;exact ⟨h1,h1',hs,ha,hb⟩
theorem WL {s:S} {e:Env.T} {now:Int} (hg:Good s) (h:c5 s e now=0):y8 s.en 1 (subP e now)=(if 4096≤s.en.length then 7 else 0)∧Led.app s.en 1 (subP e now)=(if 4096≤s.en.length then s.en else s.en ++ [⟨1,subP e now⟩]):=by
 have hl:=(subP_len (c5_ok h).1.1 (c5_ok h).1.2).1
 by_cases hn:s.en.length < 4096
 ·obtain ⟨a1,a2,_⟩:=Y4 (k:=1) ⟨by decide,by decide,hl⟩ hn;rw [a1,a2,Jb o9,Jb o9];exact ⟨V,V⟩
 ·obtain ⟨a1,a2,_⟩:=Yn (k:=1) ⟨by decide,by decide,hl⟩ hn;rw [a1,a2,Jh o9,Jh o9];exact ⟨V,V⟩
theorem subE_c6 {s:S} {e:Env.T} {now:Int} (hg:Good s):subE s e now=c6 s e now:=by
 unfold subE
 by_cases h1:Env.ok e∧time now
 ·rw [Jb (by simpa using h1)];have k1:=c1_0.2 h1
  by_cases h2:s.ck≤now∧has s e.rnd
  ·rw [Jb (by simpa using h2)];have k2:=c2_0.2 ⟨h1,h2⟩
   by_cases h3:st s e.rnd.toNat now=2
   ·rw [Jb (by simpa using h3)];have k3:=c3_0.2 ⟨k2,h3⟩
    by_cases h4:Env.autE s.bk e=0
    ·rw [Jb (by simpa using h4)];have k4:=c4_0.2 ⟨k3,h4⟩
     by_cases h5:busy s.es e
     ·rw [Jh h5];unfold c6 c5 busyE;rw [Jh k4,Jh h5]
      rfl
     ·rw [Jb h5];have k5:=c5_0.2 ⟨k4,h5⟩;unfold c6;rw [Jh k5,(WL hg k5).1]
    ·rw [Jh h4];unfold c6 c5 c4;rw [Jh k3,Jb h4,Jb h4]
   ·rw [Jh h3]
    have:c3 s e now=8:=by unfold c3;rw [Jh k2,Jd h3];rfl
    unfold c6 c5 c4;rw [this]
    rfl
  ·rw [Jh h2]
   have:c2 s e now=3:=by unfold c2;rw [Jh k1,Jd h2];rfl
   unfold c6 c5 c4 c3;rw [this]
   rfl
 ·rw [Jh h1]
  have:c1 e now=2:=by unfold c1;rw [Jd h1];rfl
  unfold c6 c5 c4 c3 c2;rw [this]
  rfl
theorem sub_no {s:S} {e:Env.T} {now:Int} (hg:Good s) (h:c6 s e now≠0):s5 s e now=subS s e now:=by
 unfold subS;rw [subE_c6 hg,Jb h];unfold s5
 split
 ·rename_i h5
  have h6:c6 s e now=y8 s.en 1 (subP e now):=by unfold c6;rw [Jh h5]
  rw [h6,(WL hg h5).1] at h
  have hn:4096≤s.en.length:=by
   apply Classical.byContradiction;intro hn;rw [Jb hn] at h;exact h V
  show { s with en:=Led.app s.en 1 (subP e now) }=s;rw [(WL hg h5).2,Jh hn]
 ·rfl
theorem sub_yes {s:S} {e:Env.T} {now:Int} (hg:Good s) (h:c6 s e now=0):c5 s e now=0∧s5 s e now={ s with en:=s.en ++ [⟨1,subP e now⟩] }∧subS s e now={ s with es:=put s.es e,ck:=now,en:=s.en ++ [⟨1,subP e now⟩] }:=by
 have h5:c5 s e now=0:=by
  apply Classical.byContradiction;intro h5;unfold c6 at h;rw [Jb h5] at h;exact h5 h
 have h6:c6 s e now=y8 s.en 1 (subP e now):=by unfold c6;rw [Jh h5]
 rw [h6,(WL hg h5).1] at h
 have hn:¬4096≤s.en.length:=fun hn=>by rw [Jh hn] at h;cases h
 refine ⟨h5,?_,?_⟩
 ·unfold s5;rw [Jh h5];show { s with en:=Led.app s.en 1 (subP e now) }=_;rw [(WL hg h5).2,Jb hn]
 ·unfold subS;rw [subE_c6 hg,Jh (by rw [h6,(WL hg h5).1,Jb hn])]
theorem keys_put {es:List Env.T} {e:Env.T} {i:Nat} (hi:e.rnd=(i:Int)) (q:LB):q∈keysE (put es e) i↔q=e.acc∨q∈keysE es i:=by
 rw [mem_keysE,mem_keysE]
 by_cases hq:e.acc=q
 ·subst hq;exact ⟨fun _=> .inl V,fun _=>⟨e,getE_put_self hi⟩⟩
 ·rw [getE_put_ne (fun h=>hq h.2)];exact ⟨.inr,fun h=>h.resolve_left (fun k=>hq k.symm)⟩
theorem keys_put_ne {es:List Env.T} {e:Env.T} {i:Nat} (hi:e.rnd≠(i:Int)) (q:LB):q∈keysE (put es e) i↔q∈keysE es i:=by
 rw [mem_keysE,mem_keysE,getE_put_ne (fun h=>hi h.1)]
def v1 (key:LB) (now:Int):Int:=unE (decide (key.length=32∧time now)) 2
def v2 (s:S) (r:Int) (key:LB) (now:Int):Int:=if v1 key now=0 then unE (decide (s.ck≤now∧has s r)) 3 else v1 key now
def late (s:S) (r now:Int):Prop:=(winAt s.ws r.toNat).rv≤now∧kyAt s.ks r.toNat=[]
instance (s:S) (r now:Int):Decidable (late s r now):=by unfold late;infer_instance
def v3 (s:S) (r:Int) (key:LB) (now:Int):Int:=if v2 s r key now=0 then unE (decide (late s r now)) 8 else v2 s r key now
def v4 (s:S) (r:Int) (key:LB) (now:Int):Int:=if v3 s r key now=0 then unE (decide (Env.comB key=(winAt s.ws r.toNat).cm)) 10 else v3 s r key now
def v5 (s:S) (r:Int) (key:LB) (now:Int):Int:=if v4 s r key now=0 then y8 s.en 2 (revP r key now) else v4 s r key now
def q4 (s:S) (r:Int) (key:LB) (now:Int):S:=if v4 s r key now=0 then s.app 2 (revP r key now) else s
theorem v1_0 {key:LB} {now:Int}:v1 key now=0↔key.length=32∧time now:=by unfold v1;rw [unE_0 d9,decide_eq_true_iff]
theorem step_0 {c k:Int} {b:Prop} [Decidable b] (hk:k≠0):(if c=0 then unE (decide b) k else c)=0↔c=0∧b:=by
 by_cases h:c=0
 ·rw [Jh h,unE_0 hk,decide_eq_true_iff];exact ⟨fun q=>⟨h,q⟩,fun q=>q.2⟩
 ·rw [Jb h];exact ⟨fun q=>absurd q h,fun q=>absurd q.1 h⟩
theorem step_t {c k:Int} {b:Prop} [Decidable b] (h:c=0) (hb:¬b):(if c=0 then unE (decide b) k else c)=k:=by rw [Jh h,Jd hb];rfl
theorem v2_0 {s:S} {r:Int} {key:LB} {now:Int}:v2 s r key now=0↔v1 key now=0∧s.ck≤now∧has s r:=step_0 d9
theorem v3_0 {s:S} {r:Int} {key:LB} {now:Int}:v3 s r key now=0↔v2 s r key now=0∧late s r now:=step_0 d9
theorem v4_0 {s:S} {r:Int} {key:LB} {now:Int}:v4 s r key now=0↔v3 s r key now=0∧Env.comB key=(winAt s.ws r.toNat).cm:=step_0 d9
theorem v4_ok {s:S} {r:Int} {key:LB} {now:Int} (h:v4 s r key now=0):(key.length=32∧time now)∧(s.ck≤now∧has s r)∧late s r now∧Env.comB key=(winAt s.ws r.toNat).cm:=by
 obtain ⟨h3,hc⟩:=v4_0.1 h;obtain ⟨h2,hl⟩:=v3_0.1 h3;obtain ⟨h1,hh⟩:=v2_0.1 h2;exact ⟨v1_0.1 h1,hh,hl,hc⟩
theorem revP_len {r:Int} {key:LB} {now:Int} (hk:key.length=32) (ht:time now) (hr:0≤r∧r≤1000000):(revP r key now).length≤65536∧(grp now.toNat).length≤10∧(grp r.toNat).length≤10:=by
 have a5:=ZN (b:=key) o9;have a6:=Zv (n:=now.toNat) (by have:=ht.2;omega);have a7:=Zv (n:=r.toNat) o9;exact ⟨by unfold revP;rw [Jk,Jk];omega,a6,a7⟩
theorem has_le {s:S} (hg:Good s) {r:Int} (h:has s r):0≤r∧r≤1000000:=by have:=hg.win.1.2;exact ⟨h.1,by have:=h.2;omega⟩
theorem app_gen {en:List Led.Ent} {k:Int} {b:LB} (hk:0≤k∧k≤255) (hl:b.length≤65536):y8 en k b=(if 4096≤en.length then 7 else 0)∧Led.app en k b=(if 4096≤en.length then en else en ++ [⟨k,b⟩])∧qc en k b=(if 4096≤en.length then 0 else (en.length:Int)):=by
 by_cases hn:en.length < 4096
 ·obtain ⟨a1,a2,a3⟩:=Y4 (k:=k) ⟨hk.1,hk.2,hl⟩ hn;rw [a1,a2,a3,Jb o9,Jb o9,Jb o9];exact ⟨V,V,V⟩
 ·obtain ⟨a1,a2,a3⟩:=Yn (k:=k) ⟨hk.1,hk.2,hl⟩ hn;rw [a1,a2,a3,Jh o9,Jh o9,Jh o9];exact ⟨V,V,V⟩
theorem WM {s:S} (hg:Good s) {r:Int} {key:LB} {now:Int} (h:v4 s r key now=0):y8 s.en 2 (revP r key now)=(if 4096≤s.en.length then 7 else 0)∧Led.app s.en 2 (revP r key now)=(if 4096≤s.en.length then s.en else s.en ++ [⟨2,revP r key now⟩]):=by
 obtain ⟨⟨h1,h2⟩,⟨h3,h4⟩,_⟩:=v4_ok h;obtain ⟨a,b,_⟩:=app_gen (en:=s.en) (k:=2) ⟨by decide,by decide⟩ (revP_len h1 h2<|has_le hg h4).1;exact ⟨a,b⟩
theorem revE_v5 {s:S} (hg:Good s) {r:Int} {key:LB} {now:Int}:revE s r key now=v5 s r key now:=by
 unfold revE
 by_cases h1:key.length=32∧time now
 ·rw [Jb (by simpa using h1)];have k1:=v1_0.2 h1
  by_cases h2:s.ck≤now∧has s r
  ·rw [Jb (by simpa using h2)];have k2:=v2_0.2 ⟨k1,h2⟩
   by_cases h3:late s r now
   ·rw [Jb (by exact fun h=>h h3)];have k3:=v3_0.2 ⟨k2,h3⟩
    by_cases h4:Env.comB key=(winAt s.ws r.toNat).cm
    ·rw [Jb (by simpa using h4)];have k4:=v4_0.2 ⟨k3,h4⟩;unfold v5;rw [Jh k4,(WM hg k4).1]
    ·rw [Jh h4];have:v4 s r key now=10:=step_t k3 h4;unfold v5;rw [this]
     rfl
   ·rw [Jh (by exact h3)];have:v3 s r key now=8:=step_t k2 h3;unfold v5 v4;rw [this]
    rfl
  ·rw [Jh h2];have:v2 s r key now=3:=step_t k1 h2;unfold v5 v4 v3;rw [this]
   rfl
 ·rw [Jh h1]
  have:v1 key now=2:=by unfold v1;rw [Jd h1];rfl
  unfold v5 v4 v3 v2;rw [this]
  rfl
theorem rev_no {s:S} (hg:Good s) {r:Int} {key:LB} {now:Int} (h:v5 s r key now≠0):q4 s r key now=revS s r key now:=by
 unfold revS;rw [revE_v5 hg,Jb h];unfold q4
 split
 ·rename_i h4
  have h6:v5 s r key now=y8 s.en 2 (revP r key now):=by unfold v5;rw [Jh h4]
  rw [h6,(WM hg h4).1] at h
  have hn:4096≤s.en.length:=by
   apply Classical.byContradiction;intro hn;rw [Jb hn] at h;exact h V
  show { s with en:=Led.app s.en 2 (revP r key now) }=s;rw [(WM hg h4).2,Jh hn]
 ·rfl
theorem rev_yes {s:S} (hg:Good s) {r:Int} {key:LB} {now:Int} (h:v5 s r key now=0):v4 s r key now=0∧q4 s r key now={ s with en:=s.en ++ [⟨2,revP r key now⟩] }∧revS s r key now={ s with ks:=s.ks.set r.toNat key,ck:=now,en:=s.en ++ [⟨2,revP r key now⟩] }:=by
 have h5:v4 s r key now=0:=by
  apply Classical.byContradiction;intro h5;unfold v5 at h;rw [Jb h5] at h;exact h5 h
 have h6:v5 s r key now=y8 s.en 2 (revP r key now):=by unfold v5;rw [Jh h5]
 rw [h6,(WM hg h5).1] at h
 have hn:¬4096≤s.en.length:=fun hn=>by rw [Jh hn] at h;cases h
 refine ⟨h5,?_,?_⟩
 ·unfold q4;rw [Jh h5];show { s with en:=Led.app s.en 2 (revP r key now) }=_;rw [(WM hg h5).2,Jb hn]
 ·unfold revS;rw [revE_v5 hg,Jh (by rw [h6,(WM hg h5).1,Jb hn])]
theorem stOf_4 {w:Win} {k:LB} {now:Int}:stOf w k now=4↔k≠[]:=by
 unfold stOf
 split
 ·rename_i h;exact ⟨fun _=>h,fun _=>rfl⟩
 ·rename_i h;refine ⟨fun hs=> ?_,fun hk=>absurd hk h⟩
  split at hs
  ·cases hs
  ·split at hs <;> cases hs
theorem kyAt_set {ks:List LB} {r:Nat} {key:LB} (h:r < ks.length):kyAt (ks.set r key) r=key:=by unfold kyAt;rw [Jr,List.getElem?_set_self h];rfl
theorem kyAt_set_ne {ks:List LB} {r q:Nat} {key:LB} (h:r≠q):kyAt (ks.set r key) q=kyAt ks q:=by unfold kyAt;rw [Jr,Jr,List.getElem?_set_ne h]
theorem rks_set {ks:List LB} {r:Int} {key:LB} (h0:0≤r) (h:r.toNat < ks.length) (hk:key≠[]) (q:Int):q∈rks (ks.set r.toNat key)↔q=r∨q∈rks ks:=by
 rw [mem_rks,mem_rks]
 by_cases hq:q=r
 ·subst hq;rw [kyAt_set h];exact ⟨fun _=> .inl V,fun _=>⟨h0,hk⟩⟩
 ·constructor
  ·rintro ⟨a,b⟩;rw [kyAt_set_ne o9] at b;exact .inr ⟨a,b⟩
  ·rintro (h1 | ⟨a,b⟩)
   ·exact absurd h1 hq
   ·exact ⟨a,by rw [kyAt_set_ne o9];exact b⟩
theorem recE_bad {s:S} {k:Int} {p:LB} (h:k≤2∨k > 255∨p.length > 65536):recE s k p=2∧recI s k p=0:=by
 have h2:recE s k p=2:=by unfold recE;rw [Jh o9]
 exact ⟨h2,by unfold recI;rw [h2,Jb d9]⟩
theorem rec_bad {s:S} {k:Int} {p:LB} (h:k≤2∨k > 255∨p.length > 65536):recS s k p=s:=by unfold recS;rw [(recE_bad h).1,Jb d9]
theorem rec_app {s:S} {k:Int} {p:LB} (h:2 < k∧k≤255∧p.length≤65536):recS s k p=s.app k p∧recE s k p=y8 s.en k p∧recI s k p=qc s.en k p:=by
 obtain ⟨a1,a2,a3⟩:=app_gen (en:=s.en) (k:=k) (b:=p) ⟨by omega,by omega⟩ h.2.2
 have hE:recE s k p=y8 s.en k p:=by unfold recE;rw [Jb (by simpa using h),a1]
 refine ⟨?_,hE,?_⟩
 ·unfold recS;rw [hE,a1];show _={ s with en:=Led.app s.en k p };rw [a2]
  split <;> simp_all
 ·unfold recI;rw [hE,a1,a3]
  split <;> simp_all
end Rnd
end Go.Proofs.YtgokpcnabgacnaaGreatDoor
namespace Go.Proofs.YtgokpcnabgacnaaGreatDoor
open Go.RowKit
namespace Sx
structure Rt where
 gb:Nat
 Fb:LN
 gl:Nat
 Fl:LN
 A:Option Addr
 c:Nat
 Fv:LN
 Ms:List (Option Nat)
 Fm:LN
 gk:Nat
 Fk:LN
abbrev bkBs (gb:Nat) (l:List Acc.T) (s:Bst):List Box:=[.c gb [isD<|.map<|s.M.map Prod.fst,isD<|.slice s.n.A (Acc.nm l).length s.n.c,isD<|.map<|s.M.map Prod.snd],.r s.n.F<|yP 9 1 YM s.n.A s.n.c<|Acc.nm l,.r s.F1<|Zc (s.M.map Prod.fst) Zi (Acc.nm l)<|acD l,.r s.F2<|Zc (s.M.map Prod.snd) Zy (Acc.seats l)<|seD l]
abbrev ldBs (gl:Nat) (es:List Led.Ent) (s:Lst):List Box:=[.c gl [isD<|.slice s.A es.length s.c,isD<|.map s.M],zbH s es,zbG s es]
def bkP (gb:Nat) (l:List Acc.T):Res:=zgX (bkBs gb l)
def ldP (gl:Nat) (es:List Led.Ent):Res:=zgX (ldBs gl es)
def zbI (es:List Env.T) (i:Nat) (nm:LB):D:=Zo (yX<|(Rnd.getE es i nm).getD Env.zero)
def mpR (es:List Env.T) (i:Nat) (M:Option Nat):Res:=Zc M Zi (Rnd.keysE es i) (zbI es i)
def mps (es:List Env.T) (Ms:List (Option Nat)):List Res:=Ms.mapIdx (mpR es)
abbrev rndBs (gr:Nat) (s:Rnd.S) (t:Rt):List Box:=[.c gr [pA t.gb,lsD YB s.ws,iD s.ck,pA t.gl,isD<|.slice t.A t.Ms.length t.c,isD<|.map<|some t.gk],.r t.Fb<|bkP t.gb s.bk,.r t.Fl<|ldP t.gl s.en,.r t.Fv<|yP 133 1 zeY t.A t.c t.Ms,.r t.Fm<|zbR<|mps s.es t.Ms,.r t.Fk<|Zc (some t.gk) jM (Rnd.rks s.ks)<|kyD s.ks]
def Yj (gr:Nat) (s:Rnd.S):Res:=zgX (fun t:{t:Rt // t.Ms.length=s.ws.length}=>rndBs gr s t.1)
theorem zir {gb:Nat} {l:List Acc.T} {F:LN}:Opens [.r F<|bkP gb l] (fun q=>∃ s,q=bkBs gb l s):=zaJ
theorem zhL {gb:Nat} {l:List Acc.T} (s:Bst):Opens (bkBs gb l s) (fun q=>∃ F,q=[.r F<|bkP gb l]):=zcZ (bs:=bkBs gb l) s
theorem ld_out {gl:Nat} {es:List Led.Ent} {F:LN}:Opens [.r F<|ldP gl es] (fun q=>∃ s,q=ldBs gl es s):=zaJ
theorem ld_in {gl:Nat} {es:List Led.Ent} (s:Lst):Opens (ldBs gl es s) (fun q=>∃ F,q=[.r F<|ldP gl es]):=zcZ (bs:=ldBs gl es) s
theorem Yv {gr:Nat} {s:Rnd.S} {F:LN}:Opens [.r F<|Yj gr s] (fun q=>∃ t:{t:Rt // t.Ms.length=s.ws.length},q=rndBs gr s t.1):=zaJ
theorem ZT {gr:Nat} {s:Rnd.S} (t:Rt) (h:t.Ms.length=s.ws.length):Opens (rndBs gr s t) (fun q=>∃ F,q=[.r F<|Yj gr s]):=zcZ (bs:=fun t:{t:Rt // t.Ms.length=s.ws.length}=>rndBs gr s t.1) ⟨t,h⟩
abbrev st0:Bst:=⟨none,[],[],⟨none,0,[]⟩⟩
abbrev ls0:Lst:=⟨none,0,[],none,[]⟩
theorem zdy {f:FuncId} {ad:List D} {gb:Nat} {l:List Acc.T} {F:LN} {d:D} (h:∀ s,ConR Tryz.prog f (bkBs gb l s) ad (fun _:Unit=>bkBs gb l s) (fun _=>d)):ConR Tryz.prog f [.r F<|bkP gb l] ad (fun F':LN=>[.r F'<|bkP gb l]) (fun _=>d):=
 qx (fun s=>(h s).reshape fun _=>(zhL s).trans fun q ⟨F',hq⟩=>Opens.refl ⟨F',hq,zb _⟩) (h st0).en zir
theorem ConR.ldT {f:FuncId} {ad:List D} {gl:Nat} {es es':List Led.Ent} {F:LN} {d:D} (h:∀ s,ConR Tryz.prog f (ldBs gl es s) ad (fun t:Lst=>ldBs gl es' t) (fun _=>d)):ConR Tryz.prog f [.r F<|ldP gl es] ad (fun F':LN=>[.r F'<|ldP gl es']) (fun _=>d):=
 qx (fun s=>(h s).reshape fun t=>(ld_in t).trans fun q ⟨F',hq⟩=>Opens.refl ⟨F',hq,zb _⟩) (h ls0).en ld_out
theorem zid {gb:Nat} {l:List Acc.T} {F:LN} (hf:Acc.Fine l):ConR Tryz.prog 52 [.r F<|bkP gb l] [pA gb] (fun t:LN × Nat × LN=>[.r t.1<|bkP gb l,.r t.2.2<|bkP t.2.1 l]) (fun t=>pA t.2.1):=
 qx (fun s=>(zeq gb s l hf).reshape fun k=>((zhL s).frame<|bkBs k.1 l k.2).trans fun q ⟨p,⟨F1,hp⟩,hq⟩=>by
  subst hp hq
  exact ((zhL k.2).cons _).trans fun q ⟨p,⟨F2,hp⟩,hq⟩=>by
   subst hp hq
   exact Opens.refl ⟨(F1,k.1,F2),V,zb _⟩) (zeq gb st0 l hf).en zir
theorem zhr {gl:Nat} {es:List Led.Ent} {F:LN} (hl:es.length≤1000000):ConR Tryz.prog 104 [.r F<|ldP gl es] [pA gl] (fun t:LN × Nat × LN=>[.r t.1<|ldP gl es,.r t.2.2<|ldP t.2.1 es]) (fun t=>pA t.2.1):=
 qx (fun s=>(zep gl s es hl).reshape fun k=>((ld_in s).frame<|ldBs k.1 es k.2).trans fun q ⟨p,⟨F1,hp⟩,hq⟩=>by
  subst hp hq
  exact ((ld_in k.2).cons _).trans fun q ⟨p,⟨F2,hp⟩,hq⟩=>by
   subst hp hq
   exact Opens.refl ⟨(F1,k.1,F2),V,zb _⟩) (zep gl ls0 es hl).en ld_out
theorem Vl {gl:Nat} {es es':List Led.Ent} {k:Int} {b:LB} {F:LN} (hn:es.length≤100000) (he:es'=Led.app es k b):ConR Tryz.prog 35 [.r F<|ldP gl es] [pA gl,Zo [iD k,bD b]] (fun F':LN=>[.r F'<|ldP gl es']) (fun _=>Yk [iD<|qc es k b,iD<|y8 es k b]):=
 ConR.ldT fun s=>zeT (zcz gl s es es' k b none 0 [] _ (qg _ _ _ _ rfl) hn he).en fun A c=>zcz gl s es es' k b A c [] _ (qg _ _ _ _ rfl) hn he
theorem zdR {pre:List Box} {R:Res} (h:∀ L w,R.R L [] w):Opens pre (fun q=>q=pre ++ [.r [] R]):=fun L w hn hb=>by
 have e:fps (pre ++ [.r [] R])=fps pre:=by rw [Yw];simp [fps,Box.fp]
 refine ⟨_,V,fun b hm=> ?_,by rw [e];exact hn,fun g hg=>by rw [e] at hg;exact hg⟩;rw [e];rcases Jf.1 hm with hm | hm
 ·exact hb b hm
 ·rw [Ja.1 hm];exact h _ w
theorem vecN_R {α:Type} (e sz:Nat) (enc:α→List D) (L:LN) (w:World):(yP e sz enc none 0 []).R L [] w:=⟨[],trivial,⟨by simp,.inl ⟨rfl,rfl⟩⟩,rfl⟩
theorem mapQN_R {κ:Type} (enc:κ→Value) (f:κ→D) (L:LN) (w:World):(Zc none enc [] f).R L [] w:=⟨[],List.nodup_nil,fun _=>Iff.rfl,#[],.inl ⟨rfl,rfl,rfl⟩,rfl,trivial⟩
theorem mapFN_R {κ:Type} (enc:κ→Value) (f:κ→D) (L:LN) (w:World):(zam none enc [] f).R L [] w:=⟨#[],.inl ⟨rfl,rfl,rfl⟩,rfl,trivial⟩
theorem ld_new {g:Nat}:Opens [.c g [isD<|.slice none 0 0,isD<|.map none]] (fun q=>∃ F,q=[.r F<|ldP g []]):=
 (zdR (R:=yP 85 2 encE none 0 [])<|vecN_R _ _ _).trans fun q hq=>by
  subst hq
  exact (zdR (R:=zam none zbJ (Led.keys 0)<|zaM [])<|mapFN_R _ _).trans fun q hq=>by
   subst hq;exact ld_in (gl:=g) (es:=[]) ls0
theorem mps_nil (n:Nat):∀ R∈mps [] (List.replicate n none),∀ L w,R.R L [] w:=fun R hR L w=>by
 unfold mps at hR;obtain ⟨i,hi,rfl⟩:=List.mem_mapIdx.1 hR;rw [List.getElem_replicate];exact mapQN_R _ _ L w
theorem rows_nil (n:Nat):Opens [] (fun q=>∃ F,q=[.r F<|zbR<|mps []<|List.replicate n none]):=zg0 (mps_nil n)
theorem rks_start (n:Nat):Rnd.rks (List.replicate n [])=[]:=by
 refine List.eq_nil_iff_forall_not_mem.2 fun r hr=>(Rnd.mem_rks.1 hr).2 ?_;unfold Rnd.kyAt;rw [Jr,Xj]
 split <;> rfl
theorem bldRd3 {p q:Addr} {M:Option Nat}:Bld Tryz.prog 104 [0,3,5] [isD<|.pointer<|some p,isD<|.pointer<|some q,isD<|.map M] [isD<|.pointer<|some p,isD<|.slice none 0 0,iD 0,isD<|.pointer<|some q,isD<|.slice none 0 0,isD<|.map M]:=fun L w vs hv=>by
 obtain ⟨u,v,z,rfl,rfl,rfl,rfl⟩:=all3 hv;exact ⟨[.pointer<|some p,.slice none 0 0,.int .i64 0,.pointer<|some q,.slice none 0 0,.map M],⟨V,V,V,V,V,V,t9⟩,fun w'=>by kernel_rfl⟩
theorem blsW1 {x:Rnd.Win}:Bls Tryz.prog 22 1 [0] [Zo [iD x.st,iD x.en,iD x.rv,bD x.cm]] ([x].flatMap YB):=⟨26,fun L w vs hv=>by
 obtain ⟨u,rfl,cs,rfl,hc⟩:=zeG hv
 match cs,hc with
 | [a,b,c,d],hc=>
  obtain ⟨rfl,rfl,rfl,h,-⟩:=hc;have h':=h;obtain ⟨A,cp,rfl,-⟩:=h
  exact ⟨[.int .i64 _,.int .i64 _,.int .i64 _,.slice A _ cp],⟨V,V,V,h',t9⟩,fun w'=>by kernel_rfl⟩⟩
theorem con_new (gb:Nat) (bk:List Acc.T) (F:LN) (ws:List Rnd.Win) (hf:Acc.Fine bk) (h:Rnd.ok ws):ConR Tryz.prog 12 [.r F<|bkP gb bk] [pA gb,lsD YB ws] (fun t:LN × Nat × LN=>[.r t.1<|bkP gb bk,.r t.2.2<|Yj t.2.1<|Rnd.start bk ws]) (fun t:LN × Nat × LN=>Yk [pA t.2.1,iD 0]):=by
 have hwl:=h.1.2;refine yg Tryz.func12 k9 V k9 fun base w0=>(zp<|zf V<|zf V<|ze<|zk<|zp<|zd V<|za V (YS V V k9)<|ze<|zE V V<|zr<|zn<|zk<|zp<|zd V<|zt (S:=[]) (zD [] (zct ws o9) V ⟨(zo<|zb _),t9⟩ V)<|za V (yS V)<|ze<|zE V (by simp [h])<|zr<|zn<|zp<|zd V<|YJ (zC [0] (zid hf) V ⟨zb _,t9⟩ d9 ⟨lR V,t9⟩ (fun _ h=>h) V) ?_);rintro _ ⟨⟨F1,g2,F2⟩,rfl⟩;refine SWl.e2 (S:=[]) (zM (zs:=[.slice none 0 0,.map none]) k9 V) fun g16=>(SWl.e2 (S:=[]) (jo (enc:=jM) (kyD []) V) fun g17=>(za V (yq V V bldRd3) (SWl.e2 (S:=[]) (yv V V) fun g19=>(zf V<|ze<|zk<|zk<|yd (ld_new) [2] d9 ⟨la V,t9⟩ ?_))));rintro _ ⟨Fl,rfl⟩;refine Yf 26 4 YB (zO (σ':=zN [(1,_),(6,_)] [_,_,_,_,_,_]) (sB [0,1,4,2,3,5] V V)<|zi<|zd V<|za V (yx (e:=26) V k9)<|zd V<|ze<|zX<|Zw (ι:={q:Nat × Ust // q.1≤ws.length}) (fun ⟨(i,t),hi⟩=>zN [(1,lsD YB ws),(6,pA g19),(20,lsD YB ws),(21,iD (ws.length:Int)),(22,iD (i:Int))] [.r F1<|bkP gb bk,.r F2<|bkP g2 bk,.r Fl<|ldP g16 [],.r [g17]<|Zc (some g17) jM []<|kyD [],.c g19 [pA g2,isD<|.slice t.A (ws.take i).length t.c,iD 0,pA g16,isD<|.slice none 0 0,isD<|.map<|some g17],.r t.F<|yP 26 4 YB t.A t.c<|ws.take i]) (fun ⟨(i,t),hi⟩=>ws.length - i) (⟨(0,⟨none,0,[]⟩),JC _⟩) ?_ ?_)
 ·exact (sB [0,1,2,3,4,5] V V)
 ·rintro ⟨⟨i,t⟩,hi⟩ K0 hK0;dsimp only at hi ⊢;refine zp (za V (yF V V)<|ze<|zk<|zJ V (fun hb23=> ?_) (fun hb23=> ?_))
  ·have hb23:=oT hb23;refine zr (zn<|zk<|zX<|zk ?_);obtain ⟨x,hx⟩:∃ x,ws[i]? =some x:=⟨_,Je o9⟩;have hcm:x.cm.length=32:=zcG h.2 (Jc hx)
   refine zi (za V (yp (e:=26) 4 V V k9 k9 o9 (by simpa using hx))<|za V (ZK 4 V k9 d9 (show 4≤4 by decide) s9) (SWl.e2 (S:=[]) (zM (zs:=[.int .i64 0,.int .i64 0,.int .i64 0,.slice none 0 0]) k9 V) fun g8=>(zt (S:=[_]) (zw 6 V V V k9 V<|m9 V)<|zV<|za V (zc (n:=3) V k9)<|za V (zg 6 V V V k9 zh)<|zt (S:=[]) (zD [] (jO x.cm (by have:=hcm;omega)) V ⟨(zo<|zb _),t9⟩ V)<|za V (zc (n:=3) V k9)<|zt (S:=[_]) (zR 6 V V V k9 V<|m9 V)<|ze<|yh (t.F ++ (g19 :: [])) (rr [0,1,2,3]<|.q 4<|.r 5<|.n 6 (.e 7 (.r 8<|.r 9<|.e 10 .fin .no) .no) .no) k9 k9 (fun d _ _ _ _ h=>by cases d <;> exact h)<|zL V V<|zL V V<|zl V V (zz V)<|zl V V (zc (n:=1) V k9)<|Yy V V (zg 4 V V V k9 zh)<|zl V V (zA 6 4 V V k9 V<|yB 5 V d9<|yK 4 V d9 zh)<|yw V (ZL V V blsW1 V)<|yW V (yN 5 4 48 V V (SrcT.ls (l:=[_]) V) k9 k9 (by simp <;> omega) d9 (fun _ h=>mL _ h) V) ?_ yf)))
   rintro _ ⟨A37,F37,c37,rfl⟩;exact zl V V (zz V) (zl V V (zc (n:=1) V k9)<|yy V (zR 4 V V V k9 V<|mR _ mC)<|yz<|yc<|zn<|zi<|za V (yC V V ⟨by omega,by omega⟩)<|zd V<|zP (fun a w hh=>hK0 (⟨(i + 1,⟨A37,c37,F37⟩),by dsimp only;omega⟩) (by dsimp only;omega) a w<|hh.sub<|⟨⟨_,V,⟨lq V,⟨lq V,⟨lq V,⟨lq V,⟨⟨_,V,zF s9⟩,t9⟩⟩⟩⟩⟩⟩,[0,1,2,3,4,6],by decide,⟨lR rfl,⟨lR rfl,⟨lR rfl,⟨lR rfl,⟨⟨_,rfl,⟨zb _,zF (by rw [yr hx]),zb _,zb _,zb _,zb _,trivial⟩⟩,⟨⟨_,rfl,ZZ (by rw [yr hx]) (by rw [yr hx])⟩,trivial⟩⟩⟩⟩⟩⟩⟩))
  ·have hb23:=oF hb23;have hie:i=ws.length:=o9;refine yZ ?_
   repeat (first | refine Ze ?_ | refine Zf d9 ?_)
   refine Zn (zn<|zk<|zO (σ':=zN [(1,_),(6,_)] [.r F1<|bkP gb bk,.r F2<|bkP g2 bk,.r Fl<|ldP g16 [],.r [g17]<|Zc (some g17) jM []<|kyD [],.c g19 [pA g2,isD<|.slice t.A ws.length t.c,iD 0,pA g16,isD<|.slice none 0 0,isD<|.map<|some g17],.r t.F<|yP 26 4 YB t.A t.c ws]) (⟨⟨_,V,(sT V)⟩,[0,1,2,3,4,5],by decide,⟨lR rfl,⟨lR rfl,⟨lR rfl,⟨lR rfl,⟨⟨_,rfl,⟨zb _,zF (by rw [hie,List.take_length]),zb _,zb _,zb _,zb _,trivial⟩⟩,⟨⟨_,rfl,ZZ (by rw [hie,List.take_length]) (by rw [hie,List.take_length])⟩,trivial⟩⟩⟩⟩⟩⟩⟩)<|zi<|zd V<|zd V<|za V (yx (e:=26) V k9) (SWl.e2 (S:=[]) (zgJ (e:=133) (n:=ws.length) zeY none 8 V V k9 k9 V V V V o9 d9 V) fun g44=>(za V (zz V)<|za V (zc (n:=4) V k9)<|zt (S:=[_]) (zR 4 V V V k9 V<|m9 V)<|ze<|zk<|ql 4 1 5 V V V<|yd (rows_nil ws.length) [] d9 t9 ?_)));rintro _ ⟨Fm,rfl⟩;refine zi (zd V<|zf V<|zf V<|ze<|yd (ZT (gr:=g19) (s:=Rnd.start bk ws) ⟨g2,F2,g16,Fl,some ⟨g44,0,none⟩,ws.length,[g44],List.replicate ws.length none,Fm,g17,[g17]⟩ (by simp [Rnd.start])) [4,1,2,5,6,3] d9 ⟨⟨_,V,⟨zb _,zb _,zb _,zb _,zF s9,zb _,t9⟩⟩,⟨lR V,⟨lR V,⟨lR V,⟨lR V,⟨⟨_,V,Kw (by simp [Rnd.start,rks_start]) (fun k hk=>by cases hk)⟩,t9⟩⟩⟩⟩⟩⟩ ?_)
   rintro _ ⟨Fr,rfl⟩;refine zQ (fn:=Tryz.f12) ((F1,g19,Fr)) [0,1] (fun _ _ h=>h) (Rs.le (ym V (zj V)<|zj V) ?_) d9 (sX V);exact zb _
