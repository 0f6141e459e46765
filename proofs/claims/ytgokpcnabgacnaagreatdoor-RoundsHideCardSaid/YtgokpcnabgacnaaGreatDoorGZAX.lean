/- ROUNDS: the small functions. ROUNDS in plain Lean: the steps of a submission. ROUNDS: New. -/
import Derived.Test.YtgokpcnabgacnaaGreatDoorGZAS
import Derived.Test.YtgokpcnabgacnaaGreatDoorGZAT
import Derived.Test.YtgokpcnabgacnaaGreatDoorGZAV
import Derived.Test.YtgokpcnabgacnaaGreatDoorGZAW
import Derived.Test.YtgokpcnabgacnaaGreatDoorGZAU
set_option maxHeartbeats 8000000
set_option maxRecDepth 100000
namespace Go.Proofs.YtgokpcnabgacnaaGreatDoor
open Go.RowKit
namespace Sx
def encW (x:Rnd.Win):List D:=[iD x.st,iD x.en,iD x.rv,bD x.cm]
instance:Row encW 4:=⟨fun _=>rfl,fun _=>by unfold encW;infer_instance,by decide⟩
instance (w:Rnd.Win):Ones (encW w):=by unfold encW;infer_instance
instance (e:Env.T):Ones (YT e):=by unfold YT;infer_instance
def kyD (ks:List LB) (r:Int):D:=bD (Rnd.kyAt ks r.toNat)
abbrev mkD (ks:List LB):D:=mqD Z2 (Rnd.rks ks) (kyD ks)
abbrev rndD (p0:Addr) (ws:List Rnd.Win) (ck:Int) (p3:Addr) (A:Option Addr) (n c:Nat) (ks:List LB):D:=paD [isD (.pointer (some p0)),lsD encW ws,iD ck,isD (.pointer (some p3)),isD (.slice A n c),mkD ks]
theorem keyZ (k:Int):∀ ks,KeyOk Tryz.prog 3 Z2 k ks:=keyOk_int k9 k
theorem keyNm6 (k:LB):∀ ks,KeyOk Tryz.prog 9 yA k ks:=fun ks=>keyOk_str k9 k ks
theorem Rnd.okL_cm:∀ {ws:List Rnd.Win} {b:Int} {x:Rnd.Win},Rnd.okL b ws→x∈ws→x.cm.length=32
 | _ :: _,_,_,h,hx=>by
  rcases List.mem_cons.1 hx with rfl | hx
  ·exact h.1.2.2.2.2
  ·exact Rnd.okL_cm h.2 hx
theorem con_validS (l:List Rnd.Win) (hl:l.length≤1000000):ConN Tryz.prog 51 [lsD encW l] (yc (decide (Rnd.ok l))):=by
 refine yJ Tryz.func51 k9 V k9 fun base w0=>(zh (zb (za V (zg V) (zf (zc (zh (zh (zb (za V (ze V) (za V (Zw (e:=26) V k9) (za V (yG V V) (za V (ze V) (zZ 9 V (fun hb9=> ?_) (fun hb9=> ?_))))))))))))))
 ·have h9:(l.length:Int) < 1:=oT hb9;refine zo V V (hb9) V V (zo V V (hb9) V V (zo V V (hb9) V V (za V (zD V (hb9) V) (zf (zc (yd V (V) (zh (zb (za V (zg V) (zf (zc (zR (fn:=Tryz.f51) (fun _ _ h=>h) (Rs.le (Rs.one V (zp V)) ?_)))))))))))));exact ym (by symm;apply decide_eq_false;intro h;have:=h.1.1;omega)
 ·have h9:¬(l.length:Int) < 1:=oF hb9;refine zm V V (hb9) V V (ze V) (zm V V (hb9) V V (Zw (e:=26) V k9) (zm V V (hb9) V V (ZK V V) (za V (zy V (hb9) V) (zf (zc (zI V (fun hb13=> ?_) (fun hb13=> ?_)))))))
  ·have h13:(l.length:Int) > 500:=oT hb13;refine zh (zb (za V (zg V) (zf (zc (zR (fn:=Tryz.f51) (fun _ _ h=>h) (Rs.le (Rs.one V (zp V)) ?_))))));exact ym (by symm;apply decide_eq_false;intro h;have:=h.1.2;omega)
  ·have h13:¬(l.length:Int) > 500:=oF hb13;refine zu (zc (zh (zb (za V (zg V) (zf (zc (zh (zh (zb (za V (ze V) (za V (Zw (e:=26) V k9) (za V (ze V) (zf (zc (zV (Zk (ι:={i:Nat // i≤l.length∧(Rnd.okL 0 l↔Rnd.okL (Rnd.before l i) (l.drop i))}) (fun i=>zK [(14,lsD encW l),(15,iD (l.length:Int)),(16,iD (i.1:Int)),(3,iD (Rnd.before l i.1))] []) (fun i=>l.length - i.1) (⟨0,Nat.zero_le _,Iff.rfl⟩) ?_ ?_))))))))))))))))
   ·exact (sB [] V V)
   ·rintro ⟨i,hi,hq⟩ K0 hK0;dsimp only at hi hq ⊢;refine zh (zb (za V (yG V V) (zf (zc (zh (zI V (fun hb17=> ?_) (fun hb17=> ?_)))))))
    ·have h17:(i:Int) < (l.length:Int):=oT hb17;refine zu (zc (zh (zV (zh ?_))));obtain ⟨x,hx⟩:∃ x,l[i]? =some x:=⟨_,List.getElem?_eq_getElem o9⟩;refine zb (za V (yH (e:=26) 4 V V k9 k9 o9 (by simpa using hx)) (za V (Ym 4 V k9 d9 (show 4≤4 by decide) s9) (zl (S:=[]) (zH (zs:=[.int .i64 0,.int .i64 0,.int .i64 0,.slice none 0 0]) k9 rfl) ?_)));rintro _ ⟨g5,rfl⟩;refine zl (S:=[_]) (zC 0 V V V k9 V (m9 V)) ?_;rintro _ rfl;refine zf (zc (zh (zh (zb (za V (zi (n:=0) V k9) (za V (zj 0 V V V k9 zn) (za V (ze V) (za V (yG V V) (za V (ze V) (zZ 24 V (fun hb24=> ?_) (fun hb24=> ?_)))))))))))
     ·have h24:x.st < Rnd.before l i:=oT hb24;refine zo V V (hb24) V V (zo V V (hb24) V V (zo V V (hb24) V V (zo V V (hb24) V V (zo V V (hb24) V V (za V (zD V (hb24) V) (za V (ze V) (zo V V (V) V V (zo V V (V) V V (zo V V (V) V V (zo V V (V) V V (zo V V (V) V V (za V (zD V (V) V) (za V (ze V) (zo V V (V) V V (zo V V (V) V V (zo V V (V) V V (za V (zD V (V) V) (za V (ze V) (zo V V (V) V V (zo V V (V) V V (zo V V (V) V V (zo V V (V) V V (za V (zD V (V) V) (zf (zc (yd V (V) (zh (zb (za V (zg V) (zf (zc (zR (fn:=Tryz.f51) (fun _ _ h=>h) (Rs.le (Rs.one V (zp V)) ?_)))))))))))))))))))))))))))))))));exact ym (by symm;apply decide_eq_false;intro h;obtain ⟨⟨a1,a2,a3,a4,a5⟩,-⟩:=(Rnd.okL_step hx).1 (hq.1 h.2);exact absurd a1 o9)
     ·have h24:¬x.st < Rnd.before l i:=oF hb24;refine zm V V (hb24) V V (zi (n:=0) V k9) (zm V V (hb24) V V (zj 0 V V V k9 zn) (zm V V (hb24) V V (zi (n:=1) V k9) (zm V V (hb24) V V (zj 0 V V V k9 zn) (zm V V (hb24) V V (Z5 V V) (za V (zy V (hb24) V) (za V (ze V) (zZ 31 V (fun hb31=> ?_) (fun hb31=> ?_))))))))
      ·have h31:x.st≥x.en:=oT hb31;refine zo V V (hb31) V V (zo V V (hb31) V V (zo V V (hb31) V V (zo V V (hb31) V V (zo V V (hb31) V V (za V (zD V (hb31) V) (za V (ze V) (zo V V (V) V V (zo V V (V) V V (zo V V (V) V V (za V (zD V (V) V) (za V (ze V) (zo V V (V) V V (zo V V (V) V V (zo V V (V) V V (zo V V (V) V V (za V (zD V (V) V) (zf (zc (yd V (V) (zh (zb (za V (zg V) (zf (zc (zR (fn:=Tryz.f51) (fun _ _ h=>h) (Rs.le (Rs.one V (zp V)) ?_))))))))))))))))))))))))));exact ym (by symm;apply decide_eq_false;intro h;obtain ⟨⟨a1,a2,a3,a4,a5⟩,-⟩:=(Rnd.okL_step hx).1 (hq.1 h.2);exact absurd a2 o9)
      ·have h31:¬x.st≥x.en:=oF hb31;refine zm V V (hb31) V V (zi (n:=1) V k9) (zm V V (hb31) V V (zj 0 V V V k9 zn) (zm V V (hb31) V V (zi (n:=2) V k9) (zm V V (hb31) V V (zj 0 V V V k9 zn) (zm V V (hb31) V V (ZK V V) (za V (zy V (hb31) V) (za V (ze V) (zZ 38 V (fun hb38=> ?_) (fun hb38=> ?_))))))))
       ·have h38:x.en > x.rv:=oT hb38;refine zo V V (hb38) V V (zo V V (hb38) V V (zo V V (hb38) V V (za V (zD V (hb38) V) (za V (ze V) (zo V V (V) V V (zo V V (V) V V (zo V V (V) V V (zo V V (V) V V (za V (zD V (V) V) (zf (zc (yd V (V) (zh (zb (za V (zg V) (zf (zc (zR (fn:=Tryz.f51) (fun _ _ h=>h) (Rs.le (Rs.one V (zp V)) ?_)))))))))))))))))));exact ym (by symm;apply decide_eq_false;intro h;obtain ⟨⟨a1,a2,a3,a4,a5⟩,-⟩:=(Rnd.okL_step hx).1 (hq.1 h.2);exact absurd a3 o9)
       ·have h38:¬x.en > x.rv:=oF hb38;refine zm V V (hb38) V V (zi (n:=2) V k9) (zm V V (hb38) V V (zj 0 V V V k9 zn) (zm V V (hb38) V V (ZK V V) (za V (zy V (hb38) V) (za V (ze V) (zZ 43 V (fun hb43=> ?_) (fun hb43=> ?_))))))
        ·have h43:x.rv > 1099511627776:=oT hb43;refine zo V V (hb43) V V (zo V V (hb43) V V (zo V V (hb43) V V (zo V V (hb43) V V (za V (zD V (hb43) V) (zf (zc (yd V (V) (zh (zb (za V (zg V) (zf (zc (zR (fn:=Tryz.f51) (fun _ _ h=>h) (Rs.le (Rs.one V (zp V)) ?_))))))))))))));exact ym (by symm;apply decide_eq_false;intro h;obtain ⟨⟨a1,a2,a3,a4,a5⟩,-⟩:=(Rnd.okL_step hx).1 (hq.1 h.2);exact absurd a4 o9)
        ·have h43:¬x.rv > 1099511627776:=oF hb43;refine zm V V (hb43) V V (zi (n:=3) V k9) (zm V V (hb43) V V (zj 0 V V V k9 zn) (zm V V (hb43) V V (Zq (e:=5) V k9) (zm V V (hb43) V V (zX V V) (za V (zy V (hb43) V) (zf (zc (zI V (fun hb48=> ?_) (fun hb48=> ?_))))))))
         ·have h48:¬x.cm.length=32:=by (simp at hb48;omega)
          refine zh (zb (za V (zg V) (zf (zc (zR (fn:=Tryz.f51) (fun _ _ h=>h) (Rs.le (Rs.one V (zp V)) ?_))))));exact ym (by symm;apply decide_eq_false;intro h;obtain ⟨⟨a1,a2,a3,a4,a5⟩,-⟩:=(Rnd.okL_step hx).1 (hq.1 h.2);exact absurd a5 h48)
         ·have h48:x.cm.length=32:=by (simp at hb48;omega)
          exact zu (zc (zb (za V (zi (n:=1) V k9) (za V (zj 0 V V V k9 zn) (za V (zg V) (zf (yf (zc (zb (za V (yM V V ⟨by omega,by omega⟩) (za rfl (ze rfl) (zf (fun a w hh=>hK0 (⟨i + 1,by omega,hq.trans ((Rnd.okL_step hx).trans ⟨fun h=>h.2,fun h=>⟨⟨by omega,by omega,by omega,by omega,by simpa using h48⟩,h⟩⟩)⟩) (by dsimp only;omega) a w (hh.sub (⟨⟨_,rfl,⟨lq rfl,⟨lq rfl,⟨⟨_,rfl,zE s9⟩,⟨⟨_,rfl,zE (by rw [Rnd.before_succ hx])⟩,trivial⟩⟩⟩⟩⟩,[],by decide,trivial⟩)))))))))))))))
    ·have h17:¬(i:Int) < (l.length:Int):=oF hb17;refine yW ?_
     repeat (first | refine Za ?_ | refine Zb d9 ?_)
     refine Zi (zc (zh (zb (za V (zg V) (zf (zc (zR (fn:=Tryz.f51) (fun _ _ h=>h) (Rs.le (Rs.one V (zp V)) ?_))))))));exact ym (by symm;apply decide_eq_true;refine ⟨⟨by omega,by omega⟩,hq.2 ?_⟩;rw [show i=l.length by omega];exact Rnd.okL_all _ _)
theorem con_validT (now:Int):ConN Tryz.prog 56 [iD now] (yc (decide (Rnd.time now))):=by
 refine yJ Tryz.func56 k9 V k9 fun base w0=>(zh (zb (za V (zg V) (zf (zc (zh (zb (za V (ze V) (za V (Z5 V V) (za V (ze V) (zZ 5 V (fun hb5=> ?_) (fun hb5=> ?_))))))))))))
 ·have h5:now≥0:=oT hb5;refine zm V V (hb5) V V (ze V) (zm V V (hb5) V V (Rd.leq V V) (za V (zD V (hb5) V) (za V (zg V) (zf (zc (zR (fn:=Tryz.f56) (fun _ _ h=>h) (Rs.le (Rs.one V (zp V)) ?_)))))));exact ym (by rw [decide_eq_decide];exact ⟨fun h=>⟨h5,h⟩,fun h=>h.2⟩)
 ·have h5:¬now≥0:=oF hb5;refine zo V V (hb5) V V (zo V V (hb5) V V (za V (zy V (hb5) V) (za V (zg V) (zf (zc (zR (fn:=Tryz.f56) (fun _ _ h=>h) (Rs.le (Rs.one V (zp V)) ?_)))))));exact ym (by symm;apply decide_eq_false;intro h;exact h5 h.1)
theorem con_cloneEv (e:Env.T) (h1:e.box.length≤1000000) (h2:e.tag.length≤1000000):Con Tryz.prog 63 [Zn [yp e.acc,iD e.rnd,iD e.ser,bD e.box,bD e.tag]] (Zn (YT e)):=by
 refine con_of Tryz.func63 k9 V k9 fun base w0=>(zh (zb (zl (S:=[]) (yV V V) ?_)));rintro _ ⟨g1,rfl⟩;refine zl (S:=[]) (zH (zs:=[.string ⟨#[]⟩,.int .i64 0,.int .i64 0,.slice none 0 0,.slice none 0 0]) k9 V) ?_;rintro _ ⟨g2,rfl⟩
 refine zf (zc (zh (yh (g1 :: []) (.r 0 (.q 1 (.r 3 (.q 4 (.n 2 (.r 6 (.n 5 (.e 7 (.r 8 (.e 9 .fin .no)) .no) .no)) .no))))) k9 k9 (fun d _ _ _ _ h=>by cases d <;> exact h) (zk rfl rfl (zi (n:=3) rfl k9) (SWz.rq rfl rfl (zj 0 rfl rfl rfl k9 zn) (zk rfl rfl (zi (n:=4) rfl k9) (SWz.rq rfl rfl (zj 0 rfl rfl rfl k9 zn) (zY rfl (zz [] (con_cloneB _ (by first | assumption | (simp <;> omega))) rfl ⟨(zq (zd _)),trivial⟩ rfl) ?_ zA))))))))
 rintro _ rfl
 refine zk V V (zi (n:=3) V k9) (zY V (zz [] (con_cloneB _ (by first | assumption | (simp <;> omega))) V ⟨(zq (zd _)),t9⟩ V) ?_ zA)
 rintro _ rfl;refine zL V (zN 0 V V V k9 V mC) ?_ zA;rintro _ rfl;refine zk V V (zi (n:=4) V k9) (zL V (zN 0 V V V k9 V mC) ?_ zA);rintro _ rfl;refine zP (zc (zh (zQ (σ':=zK [(1,pA g1),(2,pA g2)] [.c g1 [yp e.acc,iD e.rnd,iD e.ser,bD e.box,bD e.tag],.c g2 [yp [],iD 0,iD 0,isD (.slice none 0 0),isD (.slice none 0 0)]]) (sB [0,1] V V) (zb (za V (zG 0 5 V V k9 V zn) (zl (S:=[_]) (zC 1 V V V k9 V (m9 V)) ?_))))));rintro _ rfl;refine zf (zc (zR (fn:=Tryz.f63) (fun _ _ h=>h) (Rs.le (Rs.one V (yv 1 V V k9)) ?_)));exact zd _
theorem con_steps:ConR Tryz.prog 64 [] [] (fun g:Nat=>[.c g [iD 0]]) (fun g:Nat=>Yv [isD (.func (.func 116) #[] #[.pointer (some ⟨g,0,none⟩)]),isD (.func (.func 117) #[] #[.pointer (some ⟨g,0,none⟩)])]):=by
 refine zW Tryz.func64 k9 V k9 fun base w0=>(zh (zb (za V (zg V) (za V (zg V) (zf (zc (zh (zb (zl (S:=[]) (zH (zs:=[.int .i64 0]) k9 V) ?_)))))))));rintro _ ⟨g2,rfl⟩;refine zl (S:=[_]) (zN 0 V V V k9 V (m9 V)) ?_;rintro _ rfl;refine zf (zc (zh (zb (za V (yD [.pointer (some ⟨g2,0,none⟩)] V) (za V (zg V) (zf (zc (zh (zb (za V (ze V) (za V (yD [.pointer (some ⟨g2,0,none⟩)] V) (za V (zg V) (za V (zg V) (zf (zc ?_)))))))))))))));refine zJ (fn:=Tryz.f64) (g2) [0] (fun _ _ h=>h) (yN V (zp V) (zp V)) d9 ⟨la V,t9⟩
theorem Zh (ok:Bool) (c:Int):ConR Tryz.prog 65 [] [yc ok,iD c] (fun t:Nat × Nat=>[.c t.1 [yc ok],.c t.2 [iD c]]) (fun t:Nat × Nat=>isD (.func (.func 118) #[] #[.pointer (some ⟨t.1,0,none⟩),.pointer (some ⟨t.2,0,none⟩)])):=by
 refine zW Tryz.func65 k9 V k9 fun base w0=>(zh (zb (zl (S:=[]) (ZJ V (fun _ _ _ h=>yI (One.h _ _ _ h)) V) ?_)));rintro _ ⟨g2,rfl⟩;refine zl (S:=[]) (ZJ V (fun _ _ _ h=>yI (One.h _ _ _ h)) V) ?_;rintro _ ⟨g3,rfl⟩;refine za V (zg V) (zf (zc (zh (zb (za V (yD [.pointer (some ⟨g2,0,none⟩),.pointer (some ⟨g3,0,none⟩)] V) (za V (zg V) (zf (zc ?_))))))));refine zJ (fn:=Tryz.f65) ((g2,g3)) [0,1] (fun _ _ h=>h) (Rs.one V (zp V)) d9 (sX V)
theorem YG (ga gb:Nat) (ok:Bool) (c:Int):ConR Tryz.prog 118 [.c ga [yc ok],.c gb [iD c]] [pA ga,pA gb] (fun _:Unit=>[.c ga [yc ok],.c gb [iD c]]) (fun _:Unit=>iD (unE ok c)):=by
 refine zW Tryz.func118 k9 V k9 fun base w0=>(zh (zb (za V (zg V) (zf (zc (zh (zh (zb (za V (zj 0 V V V k9 zn) (zf (zc (zI V (fun hb3=> ?_) (fun hb3=> ?_)))))))))))))
 ·subst hb3;refine zh (zb (za V (zg V) (zf (zc (zJ (fn:=Tryz.f118) (()) [0,1] (fun _ _ h=>h) (Rs.le (Rs.one V (zp V)) ?_) d9 (sX V))))));exact zd _
 ·subst hb3;refine zu (zc (zh (zb (za V (zj 1 V V V k9 zn) (za V (zg V) (zf (zc (zJ (fn:=Tryz.f118) (()) [0,1] (fun _ _ h=>h) (Rs.le (Rs.one V (zp V)) ?_) d9 (sX V)))))))));exact zd _
theorem con_steps2 (g:Nat) (c:Int):ConR Tryz.prog 117 [.c g [iD c]] [pA g] (fun _:Unit=>[.c g [iD c]]) (fun _:Unit=>iD c):=by
 refine zW Tryz.func117 k9 V k9 fun base w0=>(zh (zb (za V (zg V) (zf (zc (zh (zb (za V (zj 0 V V V k9 zn) (za V (zg V) (zf (zc (zJ (fn:=Tryz.f117) (()) [0] (fun _ _ h=>h) (Rs.le (Rs.one V (zp V)) ?_) d9 ⟨la V,t9⟩))))))))))));exact zd _
theorem con_none (p0 p3:Addr) (ws:List Rnd.Win) (ck:Int) (A:Option Addr) (n c:Nat) (ks:List LB):ConN Tryz.prog 55 [rndD p0 ws ck p3 A n c ks] (yc false):=by
 refine yJ Tryz.func55 k9 V k9 fun base w0=>(zh (zb (za V (zg V) (zf (zc (zh (zb (za V (ze V) (za V (Rd.eqPA V V k9) (za V (ze V) (zm V V (V) V V (ze V) (zm V V (V) V V (yx V) (zm V V (V) V V (yk (n:=0) V k9 (show 0 < 6 by decide)) (zm rfl rfl (rfl) rfl rfl (yi rfl rfl k9 s9) (zm rfl rfl (rfl) rfl rfl (YO rfl rfl k9) (za rfl (zy rfl (rfl) rfl) (za rfl (zg rfl) (zf (zc (zR (fn:=Tryz.f55) (fun _ _ h=>h) (Rs.le (Rs.one rfl (zp rfl)) ?_)))))))))))))))))))));exact zv
theorem con_has (p0 p3:Addr) (ws:List Rnd.Win) (ck:Int) (A:Option Addr) (n c:Nat) (ks:List LB) (r:Int):ConN Tryz.prog 57 [rndD p0 ws ck p3 A n c ks,iD r] (yc (decide (0≤r∧r < (ws.length:Int)))):=by
 refine yJ Tryz.func57 k9 V k9 fun base w0=>(zh (zb (za V (zg V) (zf (zc (zh (zb (za V (ze V) (za V (Z5 V V) (za V (ze V) (zZ 7 V (fun hb7=> ?_) (fun hb7=> ?_))))))))))))
 ·have h7:r≥0:=oT hb7;refine zm V V (hb7) V V (ze V) (zm V V (hb7) V V (ze V) (zm V V (hb7) V V (yx V) (zm V V (hb7) V V (yk (n:=1) V k9 (show 1 < 6 by decide)) (zm rfl rfl (hb7) rfl rfl (yi rfl rfl k9 s9) (zm rfl rfl (hb7) rfl rfl (Zw (e:=26) rfl k9) (zm rfl rfl (hb7) rfl rfl (yG rfl rfl) (za rfl (zD rfl (hb7) rfl) (za rfl (zg rfl) (zf (zc (zR (fn:=Tryz.f57) (fun _ _ h=>h) (Rs.le (Rs.one rfl (zp rfl)) ?_))))))))))));exact ym (by rw [decide_eq_decide];exact ⟨fun h=>⟨h7,h⟩,fun h=>h.2⟩)
 ·have h7:¬r≥0:=oF hb7;refine zo V V (hb7) V V (zo V V (hb7) V V (zo V V (hb7) V V (zo V V (hb7) V V (zo V V (hb7) V V (zo V V (hb7) V V (zo V V (hb7) V V (za V (zy V (hb7) V) (za V (zg V) (zf (zc (zR (fn:=Tryz.f57) (fun _ _ h=>h) (Rs.le (Rs.one V (zp V)) ?_))))))))))));exact ym (by symm;apply decide_eq_false;intro h;exact h7 h.1)
theorem con_state (p0 p3:Addr) (ws:List Rnd.Win) (ck:Int) (A:Option Addr) (n c:Nat) (ks:List LB) (r now:Int) (w:Rnd.Win) (h0:0≤r) (hw:ws[r.toNat]? =some w):ConN Tryz.prog 58 [rndD p0 ws ck p3 A n c ks,iD r,iD now] (iD (Rnd.stOf w (Rnd.kyAt ks r.toNat) now)):=by
 have hrl:=(List.getElem?_eq_some_iff.1 hw).1;refine yJ Tryz.func58 k9 V k9 fun base w0=>(zh (zb (za V (zg V) (zf (zc (zh (zb (za V (ze V) (za V (yx V) (za V (yk (n:=1) V k9 (show 1 < 6 by decide)) (za rfl (yi rfl rfl k9 s9) (za rfl (ze rfl) (za rfl (yH (e:=26) 4 rfl rfl k9 k9 o9 hw) (za rfl (Ym 4 rfl k9 d9 (show 4≤4 by decide) s9) (zl (S:=[]) (zH (zs:=[.int .i64 0,.int .i64 0,.int .i64 0,.slice none 0 0]) k9 rfl) ?_)))))))))))))));rintro _ ⟨g7,rfl⟩;refine zl (S:=[_]) (zC 0 V V V k9 V (m9 V)) ?_;rintro _ rfl;refine zf (zc (zh ?_))
 by_cases hm:Rnd.kyAt ks r.toNat≠[]
 ·have hin:=Rnd.mem_rks.2 ⟨h0,hm⟩;refine zb (za V (ze V) (za V (yx V) (za V (yk (n:=5) V k9 (show 5 < 6 by decide)) (za rfl (yi rfl rfl k9 s9) (za rfl (ze rfl) (za rfl ((Rd.lookMQ (kt:=3) (et:=24) (ok:=true) rfl rfl (show Le (iD r) (isD (Z2 r)) from zd _) k9 (keyZ _) hin s9)) (za rfl (ze rfl) (za rfl (zr rfl rfl) (za rfl (zr rfl rfl) (za rfl (zg rfl) (za rfl (zg rfl) (zf (zc (zh (zV (zh (zb (za rfl (ze rfl) (za rfl (zg rfl) (zf (zc (yd rfl (rfl) (zh (zb (za rfl (zg rfl) (zf (zc (zR (fn:=Tryz.f58) (fun _ _ h=>h) (Rs.le (Rs.one rfl (zp rfl)) ?_)))))))))))))))))))))))))))));exact Le.trans (zE (by unfold Rnd.stOf;rw [if_pos hm])) zv
 ·have hin:r∉Rnd.rks ks:=fun h=>hm (Rnd.mem_rks.1 h).2;refine zb (za V (ze V) (za V (yx V) (za V (yk (n:=5) V k9 (show 5 < 6 by decide)) (za rfl (yi rfl rfl k9 s9) (za rfl (ze rfl) (za rfl ((Rd.lookMQN (kt:=3) (et:=24) (z:= .slice none 0 0) (ok:=true) rfl rfl (show Le (iD r) (isD (Z2 r)) from zd _) k9 k9 (keyZ _) hin s9)) (za rfl (ze rfl) (za rfl (zr rfl rfl) (za rfl (zr rfl rfl) (za rfl (zg rfl) (za rfl (zg rfl) (zf (zc (zh (zV (zh (zb (za rfl (ze rfl) (za rfl (zg rfl) (zf (zc (zB rfl (rfl) (zh (zb (za rfl (ze rfl) (za rfl (zi (n:=0) rfl k9) (za rfl (zj 0 rfl rfl rfl k9 zn) (za rfl (yG rfl rfl) (za rfl (zg rfl) (zf (zc (zI rfl (fun hb28=> ?_) (fun hb28=> ?_)))))))))))))))))))))))))))))))))
  ·have h28:now < w.st:=oT hb28;refine zh (zb (za V (zg V) (zf (zc (zR (fn:=Tryz.f58) (fun _ _ h=>h) (Rs.le (Rs.one V (zp V)) ?_))))));exact Le.trans (zE (by unfold Rnd.stOf;rw [if_neg hm,if_pos h28])) zv
  ·have h28:¬now < w.st:=oF hb28;refine zh (zb (za V (ze V) (za V (zi (n:=1) V k9) (za V (zj 0 V V V k9 zn) (za V (yG V V) (za V (zg V) (zf (zc (zI V (fun hb33=> ?_) (fun hb33=> ?_))))))))))
   ·have h33:now < w.en:=oT hb33;refine zh (zb (za V (zg V) (zf (zc (zR (fn:=Tryz.f58) (fun _ _ h=>h) (Rs.le (Rs.one V (zp V)) ?_))))));exact Le.trans (zE (by unfold Rnd.stOf;rw [if_neg hm,if_neg h28,if_pos h33])) zv
   ·have h33:¬now < w.en:=oF hb33;refine zu (yf (zc (zh (zb (za V (zg V) (zf (zc (zR (fn:=Tryz.f58) (fun _ _ h=>h) (Rs.le (Rs.one V (zp V)) ?_)))))))));exact Le.trans (zE (by unfold Rnd.stOf;rw [if_neg hm,if_neg h28,if_neg h33])) zv
end Sx
end Go.Proofs.YtgokpcnabgacnaaGreatDoor
namespace Go.Proofs.YtgokpcnabgacnaaGreatDoor
open Go.RowKit
open Sx
namespace Rnd
def busyE (es:List Env.T) (e:Env.T):Int:=if busy es e then 11 else 0
abbrev S.app (s:S) (k:Int) (b:LB):S:={ s with en:=Led.app s.en k b }
theorem subP_len {e:Env.T} {now:Int} (h:Env.ok e) (ht:time now):(subP e now).length≤65536∧(grp now.toNat).length≤10∧(Env.enc e).length≤4300:=by
 have a1:=Env.sgnT_len h;have a2:=(Env.ok_len h).2.2.2.2.2.2.2;have a3:=YC (b:=e.tag) o9
 have a4:(Env.enc e).length≤4300:=by unfold Env.enc;rw [List.length_append];omega
 have a5:=YC (b:=Env.enc e) o9;have a6:=Yg (n:=now.toNat) (by have:=ht.2;omega);exact ⟨by unfold subP;rw [List.length_append];omega,a6,a4⟩
def c1 (e:Env.T) (now:Int):Int:=unE (decide (Env.ok e∧time now)) 2
def c2 (s:S) (e:Env.T) (now:Int):Int:=if c1 e now=0 then unE (decide (s.ck≤now∧has s e.rnd)) 3 else c1 e now
def c3 (s:S) (e:Env.T) (now:Int):Int:=if c2 s e now=0 then unE (decide (st s e.rnd.toNat now=2)) 8 else c2 s e now
def c4 (s:S) (e:Env.T) (now:Int):Int:=if c3 s e now=0 then Env.autE s.bk e else c3 s e now
def c5 (s:S) (e:Env.T) (now:Int):Int:=if c4 s e now=0 then busyE s.es e else c4 s e now
def c6 (s:S) (e:Env.T) (now:Int):Int:=if c5 s e now=0 then yX s.en 1 (subP e now) else c5 s e now
def s5 (s:S) (e:Env.T) (now:Int):S:=if c5 s e now=0 then s.app 1 (subP e now) else s
theorem unE_0 {b:Bool} {k:Int} (hk:k≠0):unE b k=0↔b=true:=by cases b <;> simp [unE,hk]
theorem c1_0 {e:Env.T} {now:Int}:c1 e now=0↔Env.ok e∧time now:=by unfold c1;rw [unE_0 d9,decide_eq_true_iff]
theorem c2_0 {s:S} {e:Env.T} {now:Int}:c2 s e now=0↔(Env.ok e∧time now)∧s.ck≤now∧has s e.rnd:=by
 unfold c2
 split
 ·rename_i h;rw [unE_0 d9,decide_eq_true_iff];exact ⟨fun k=>⟨c1_0.1 h,k⟩,fun k=>k.2⟩
 ·rename_i h;exact ⟨fun k=>absurd k h,fun k=>absurd (c1_0.2 k.1) h⟩
theorem c3_0 {s:S} {e:Env.T} {now:Int}:c3 s e now=0↔c2 s e now=0∧st s e.rnd.toNat now=2:=by
 unfold c3
 split
 ·rename_i h;rw [unE_0 d9,decide_eq_true_iff];exact ⟨fun k=>⟨h,k⟩,fun k=>k.2⟩
 ·rename_i h;exact ⟨fun k=>absurd k h,fun k=>absurd k.1 h⟩
theorem c4_0 {s:S} {e:Env.T} {now:Int}:c4 s e now=0↔c3 s e now=0∧Env.autE s.bk e=0:=by
 unfold c4
 split
 ·rename_i h;exact ⟨fun k=>⟨h,k⟩,fun k=>k.2⟩
 ·rename_i h;exact ⟨fun k=>absurd k h,fun k=>absurd k.1 h⟩
theorem c5_0 {s:S} {e:Env.T} {now:Int}:c5 s e now=0↔c4 s e now=0∧¬busy s.es e:=by
 by_cases h:c4 s e now=0
 ·unfold c5 busyE;rw [if_pos h]
  by_cases hb:busy s.es e
  ·rw [if_pos hb];exact ⟨fun k=>(by cases k),fun k=>absurd hb k.2⟩
  ·rw [if_neg hb];exact ⟨fun _=>⟨h,hb⟩,fun _=>V⟩
 ·unfold c5;rw [if_neg h];exact ⟨fun k=>absurd k h,fun k=>absurd k.1 h⟩
theorem c5_ok {s:S} {e:Env.T} {now:Int} (h:c5 s e now=0):(Env.ok e∧time now)∧(s.ck≤now∧has s e.rnd)∧st s e.rnd.toNat now=2∧Env.autE s.bk e=0∧¬busy s.es e:=by
 obtain ⟨h4,hb⟩:=c5_0.1 h;obtain ⟨h3,ha⟩:=c4_0.1 h4;obtain ⟨h2,hs⟩:=c3_0.1 h3;obtain ⟨h1,h1'⟩:=c2_0.1 h2;exact ⟨h1,h1',hs,ha,hb⟩
theorem app_sub {s:S} {e:Env.T} {now:Int} (hg:Good s) (h:c5 s e now=0):yX s.en 1 (subP e now)=(if 4096≤s.en.length then 7 else 0)∧Led.app s.en 1 (subP e now)=(if 4096≤s.en.length then s.en else s.en ++ [⟨1,subP e now⟩]):=by
 have hl:=(subP_len (c5_ok h).1.1 (c5_ok h).1.2).1
 by_cases hn:s.en.length < 4096
 ·obtain ⟨a1,a2,_⟩:=Yt (k:=1) ⟨by decide,by decide,hl⟩ hn;rw [a1,a2,if_neg o9,if_neg o9];exact ⟨V,V⟩
 ·obtain ⟨a1,a2,_⟩:=ZN (k:=1) ⟨by decide,by decide,hl⟩ hn;rw [a1,a2,if_pos o9,if_pos o9];exact ⟨V,V⟩
theorem subE_c6 {s:S} {e:Env.T} {now:Int} (hg:Good s):subE s e now=c6 s e now:=by
 unfold subE
 by_cases h1:Env.ok e∧time now
 ·rw [if_neg (by simpa using h1)];have k1:=c1_0.2 h1
  by_cases h2:s.ck≤now∧has s e.rnd
  ·rw [if_neg (by simpa using h2)];have k2:=c2_0.2 ⟨h1,h2⟩
   by_cases h3:st s e.rnd.toNat now=2
   ·rw [if_neg (by simpa using h3)];have k3:=c3_0.2 ⟨k2,h3⟩
    by_cases h4:Env.autE s.bk e=0
    ·rw [if_neg (by simpa using h4)];have k4:=c4_0.2 ⟨k3,h4⟩
     by_cases h5:busy s.es e
     ·rw [if_pos h5];unfold c6 c5 busyE;rw [if_pos k4,if_pos h5]
      rfl
     ·rw [if_neg h5];have k5:=c5_0.2 ⟨k4,h5⟩;unfold c6;rw [if_pos k5,(app_sub hg k5).1]
    ·rw [if_pos h4];unfold c6 c5 c4;rw [if_pos k3,if_neg h4,if_neg h4]
   ·rw [if_pos h3]
    have:c3 s e now=8:=by unfold c3;rw [if_pos k2,decide_eq_false h3];rfl
    unfold c6 c5 c4;rw [this]
    rfl
  ·rw [if_pos h2]
   have:c2 s e now=3:=by unfold c2;rw [if_pos k1,decide_eq_false h2];rfl
   unfold c6 c5 c4 c3;rw [this]
   rfl
 ·rw [if_pos h1]
  have:c1 e now=2:=by unfold c1;rw [decide_eq_false h1];rfl
  unfold c6 c5 c4 c3 c2;rw [this]
  rfl
theorem sub_no {s:S} {e:Env.T} {now:Int} (hg:Good s) (h:c6 s e now≠0):s5 s e now=subS s e now:=by
 unfold subS;rw [subE_c6 hg,if_neg h];unfold s5
 split
 ·rename_i h5
  have h6:c6 s e now=yX s.en 1 (subP e now):=by unfold c6;rw [if_pos h5]
  rw [h6,(app_sub hg h5).1] at h
  have hn:4096≤s.en.length:=by
   apply Classical.byContradiction;intro hn;rw [if_neg hn] at h;exact h V
  show { s with en:=Led.app s.en 1 (subP e now) }=s;rw [(app_sub hg h5).2,if_pos hn]
 ·rfl
theorem sub_yes {s:S} {e:Env.T} {now:Int} (hg:Good s) (h:c6 s e now=0):c5 s e now=0∧s5 s e now={ s with en:=s.en ++ [⟨1,subP e now⟩] }∧subS s e now={ s with es:=put s.es e,ck:=now,en:=s.en ++ [⟨1,subP e now⟩] }:=by
 have h5:c5 s e now=0:=by
  apply Classical.byContradiction;intro h5;unfold c6 at h;rw [if_neg h5] at h;exact h5 h
 have h6:c6 s e now=yX s.en 1 (subP e now):=by unfold c6;rw [if_pos h5]
 rw [h6,(app_sub hg h5).1] at h
 have hn:¬4096≤s.en.length:=fun hn=>by rw [if_pos hn] at h;cases h
 refine ⟨h5,?_,?_⟩
 ·unfold s5;rw [if_pos h5];show { s with en:=Led.app s.en 1 (subP e now) }=_;rw [(app_sub hg h5).2,if_neg hn]
 ·unfold subS;rw [subE_c6 hg,if_pos (by rw [h6,(app_sub hg h5).1,if_neg hn])]
theorem keys_put {es:List Env.T} {e:Env.T} {i:Nat} (hi:e.rnd=(i:Int)) (q:LB):q∈keysE (put es e) i↔q=e.acc∨q∈keysE es i:=by
 rw [mem_keysE,mem_keysE]
 by_cases hq:e.acc=q
 ·subst hq;exact ⟨fun _=> .inl V,fun _=>⟨e,getE_put_self hi⟩⟩
 ·rw [getE_put_ne (fun h=>hq h.2)];exact ⟨.inr,fun h=>h.resolve_left (fun k=>hq k.symm)⟩
theorem keys_put_ne {es:List Env.T} {e:Env.T} {i:Nat} (hi:e.rnd≠(i:Int)) (q:LB):q∈keysE (put es e) i↔q∈keysE es i:=by
 rw [mem_keysE,mem_keysE,getE_put_ne (fun h=>hi h.1)]
def v1 (key:LB) (now:Int):Int:=unE (decide (key.length=32∧time now)) 2
def v2 (s:S) (r:Int) (key:LB) (now:Int):Int:=if v1 key now=0 then unE (decide (s.ck≤now∧has s r)) 3 else v1 key now
def late (s:S) (r now:Int):Prop:=(winAt s.ws r.toNat).rv≤now∧kyAt s.ks r.toNat=[]
instance (s:S) (r now:Int):Decidable (late s r now):=by unfold late;infer_instance
def v3 (s:S) (r:Int) (key:LB) (now:Int):Int:=if v2 s r key now=0 then unE (decide (late s r now)) 8 else v2 s r key now
def v4 (s:S) (r:Int) (key:LB) (now:Int):Int:=if v3 s r key now=0 then unE (decide (Env.comB key=(winAt s.ws r.toNat).cm)) 10 else v3 s r key now
def v5 (s:S) (r:Int) (key:LB) (now:Int):Int:=if v4 s r key now=0 then yX s.en 2 (revP r key now) else v4 s r key now
def q4 (s:S) (r:Int) (key:LB) (now:Int):S:=if v4 s r key now=0 then s.app 2 (revP r key now) else s
theorem v1_0 {key:LB} {now:Int}:v1 key now=0↔key.length=32∧time now:=by unfold v1;rw [unE_0 d9,decide_eq_true_iff]
theorem step_0 {c k:Int} {b:Prop} [Decidable b] (hk:k≠0):(if c=0 then unE (decide b) k else c)=0↔c=0∧b:=by
 by_cases h:c=0
 ·rw [if_pos h,unE_0 hk,decide_eq_true_iff];exact ⟨fun q=>⟨h,q⟩,fun q=>q.2⟩
 ·rw [if_neg h];exact ⟨fun q=>absurd q h,fun q=>absurd q.1 h⟩
theorem step_t {c k:Int} {b:Prop} [Decidable b] (h:c=0) (hb:¬b):(if c=0 then unE (decide b) k else c)=k:=by rw [if_pos h,decide_eq_false hb];rfl
theorem v2_0 {s:S} {r:Int} {key:LB} {now:Int}:v2 s r key now=0↔v1 key now=0∧s.ck≤now∧has s r:=step_0 d9
theorem v3_0 {s:S} {r:Int} {key:LB} {now:Int}:v3 s r key now=0↔v2 s r key now=0∧late s r now:=step_0 d9
theorem v4_0 {s:S} {r:Int} {key:LB} {now:Int}:v4 s r key now=0↔v3 s r key now=0∧Env.comB key=(winAt s.ws r.toNat).cm:=step_0 d9
theorem v4_ok {s:S} {r:Int} {key:LB} {now:Int} (h:v4 s r key now=0):(key.length=32∧time now)∧(s.ck≤now∧has s r)∧late s r now∧Env.comB key=(winAt s.ws r.toNat).cm:=by
 obtain ⟨h3,hc⟩:=v4_0.1 h;obtain ⟨h2,hl⟩:=v3_0.1 h3;obtain ⟨h1,hh⟩:=v2_0.1 h2;exact ⟨v1_0.1 h1,hh,hl,hc⟩
theorem revP_len {r:Int} {key:LB} {now:Int} (hk:key.length=32) (ht:time now) (hr:0≤r∧r≤1000000):(revP r key now).length≤65536∧(grp now.toNat).length≤10∧(grp r.toNat).length≤10:=by
 have a5:=YC (b:=key) o9;have a6:=Yg (n:=now.toNat) (by have:=ht.2;omega);have a7:=Yg (n:=r.toNat) o9;exact ⟨by unfold revP;rw [List.length_append,List.length_append];omega,a6,a7⟩
theorem has_le {s:S} (hg:Good s) {r:Int} (h:has s r):0≤r∧r≤1000000:=by have:=hg.win.1.2;exact ⟨h.1,by have:=h.2;omega⟩
theorem app_gen {en:List Led.Ent} {k:Int} {b:LB} (hk:0≤k∧k≤255) (hl:b.length≤65536):yX en k b=(if 4096≤en.length then 7 else 0)∧Led.app en k b=(if 4096≤en.length then en else en ++ [⟨k,b⟩])∧YF en k b=(if 4096≤en.length then 0 else (en.length:Int)):=by
 by_cases hn:en.length < 4096
 ·obtain ⟨a1,a2,a3⟩:=Yt (k:=k) ⟨hk.1,hk.2,hl⟩ hn;rw [a1,a2,a3,if_neg o9,if_neg o9,if_neg o9];exact ⟨V,V,V⟩
 ·obtain ⟨a1,a2,a3⟩:=ZN (k:=k) ⟨hk.1,hk.2,hl⟩ hn;rw [a1,a2,a3,if_pos o9,if_pos o9,if_pos o9];exact ⟨V,V,V⟩
theorem app_rev {s:S} (hg:Good s) {r:Int} {key:LB} {now:Int} (h:v4 s r key now=0):yX s.en 2 (revP r key now)=(if 4096≤s.en.length then 7 else 0)∧Led.app s.en 2 (revP r key now)=(if 4096≤s.en.length then s.en else s.en ++ [⟨2,revP r key now⟩]):=by
 obtain ⟨⟨h1,h2⟩,⟨h3,h4⟩,_⟩:=v4_ok h;obtain ⟨a,b,_⟩:=app_gen (en:=s.en) (k:=2) ⟨by decide,by decide⟩ (revP_len h1 h2 (has_le hg h4)).1;exact ⟨a,b⟩
theorem revE_v5 {s:S} (hg:Good s) {r:Int} {key:LB} {now:Int}:revE s r key now=v5 s r key now:=by
 unfold revE
 by_cases h1:key.length=32∧time now
 ·rw [if_neg (by simpa using h1)];have k1:=v1_0.2 h1
  by_cases h2:s.ck≤now∧has s r
  ·rw [if_neg (by simpa using h2)];have k2:=v2_0.2 ⟨k1,h2⟩
   by_cases h3:late s r now
   ·rw [if_neg (by exact fun h=>h h3)];have k3:=v3_0.2 ⟨k2,h3⟩
    by_cases h4:Env.comB key=(winAt s.ws r.toNat).cm
    ·rw [if_neg (by simpa using h4)];have k4:=v4_0.2 ⟨k3,h4⟩;unfold v5;rw [if_pos k4,(app_rev hg k4).1]
    ·rw [if_pos h4];have:v4 s r key now=10:=step_t k3 h4;unfold v5;rw [this]
     rfl
   ·rw [if_pos (by exact h3)];have:v3 s r key now=8:=step_t k2 h3;unfold v5 v4;rw [this]
    rfl
  ·rw [if_pos h2];have:v2 s r key now=3:=step_t k1 h2;unfold v5 v4 v3;rw [this]
   rfl
 ·rw [if_pos h1]
  have:v1 key now=2:=by unfold v1;rw [decide_eq_false h1];rfl
  unfold v5 v4 v3 v2;rw [this]
  rfl
theorem rev_no {s:S} (hg:Good s) {r:Int} {key:LB} {now:Int} (h:v5 s r key now≠0):q4 s r key now=revS s r key now:=by
 unfold revS;rw [revE_v5 hg,if_neg h];unfold q4
 split
 ·rename_i h4
  have h6:v5 s r key now=yX s.en 2 (revP r key now):=by unfold v5;rw [if_pos h4]
  rw [h6,(app_rev hg h4).1] at h
  have hn:4096≤s.en.length:=by
   apply Classical.byContradiction;intro hn;rw [if_neg hn] at h;exact h V
  show { s with en:=Led.app s.en 2 (revP r key now) }=s;rw [(app_rev hg h4).2,if_pos hn]
 ·rfl
theorem rev_yes {s:S} (hg:Good s) {r:Int} {key:LB} {now:Int} (h:v5 s r key now=0):v4 s r key now=0∧q4 s r key now={ s with en:=s.en ++ [⟨2,revP r key now⟩] }∧revS s r key now={ s with ks:=s.ks.set r.toNat key,ck:=now,en:=s.en ++ [⟨2,revP r key now⟩] }:=by
 have h5:v4 s r key now=0:=by
  apply Classical.byContradiction;intro h5;unfold v5 at h;rw [if_neg h5] at h;exact h5 h
 have h6:v5 s r key now=yX s.en 2 (revP r key now):=by unfold v5;rw [if_pos h5]
 rw [h6,(app_rev hg h5).1] at h
 have hn:¬4096≤s.en.length:=fun hn=>by rw [if_pos hn] at h;cases h
 refine ⟨h5,?_,?_⟩
 ·unfold q4;rw [if_pos h5];show { s with en:=Led.app s.en 2 (revP r key now) }=_;rw [(app_rev hg h5).2,if_neg hn]
 ·unfold revS;rw [revE_v5 hg,if_pos (by rw [h6,(app_rev hg h5).1,if_neg hn])]
theorem stOf_4 {w:Win} {k:LB} {now:Int}:stOf w k now=4↔k≠[]:=by
 unfold stOf
 split
 ·rename_i h;exact ⟨fun _=>h,fun _=>rfl⟩
 ·rename_i h;refine ⟨fun hs=> ?_,fun hk=>absurd hk h⟩
  split at hs
  ·cases hs
  ·split at hs <;> cases hs
theorem kyAt_set {ks:List LB} {r:Nat} {key:LB} (h:r < ks.length):kyAt (ks.set r key) r=key:=by unfold kyAt;rw [List.getD_eq_getElem?_getD,List.getElem?_set_self h];rfl
theorem kyAt_set_ne {ks:List LB} {r q:Nat} {key:LB} (h:r≠q):kyAt (ks.set r key) q=kyAt ks q:=by unfold kyAt;rw [List.getD_eq_getElem?_getD,List.getD_eq_getElem?_getD,List.getElem?_set_ne h]
theorem rks_set {ks:List LB} {r:Int} {key:LB} (h0:0≤r) (h:r.toNat < ks.length) (hk:key≠[]) (q:Int):q∈rks (ks.set r.toNat key)↔q=r∨q∈rks ks:=by
 rw [mem_rks,mem_rks]
 by_cases hq:q=r
 ·subst hq;rw [kyAt_set h];exact ⟨fun _=> .inl V,fun _=>⟨h0,hk⟩⟩
 ·constructor
  ·rintro ⟨a,b⟩;rw [kyAt_set_ne o9] at b;exact .inr ⟨a,b⟩
  ·rintro (h1 | ⟨a,b⟩)
   ·exact absurd h1 hq
   ·exact ⟨a,by rw [kyAt_set_ne o9];exact b⟩
theorem recE_bad {s:S} {k:Int} {p:LB} (h:k≤2∨k > 255∨p.length > 65536):recE s k p=2∧recI s k p=0:=by
 have h2:recE s k p=2:=by unfold recE;rw [if_pos o9]
 exact ⟨h2,by unfold recI;rw [h2,if_neg d9]⟩
theorem rec_bad {s:S} {k:Int} {p:LB} (h:k≤2∨k > 255∨p.length > 65536):recS s k p=s:=by unfold recS;rw [(recE_bad h).1,if_neg d9]
theorem rec_app {s:S} {k:Int} {p:LB} (h:2 < k∧k≤255∧p.length≤65536):recS s k p=s.app k p∧recE s k p=yX s.en k p∧recI s k p=YF s.en k p:=by
 obtain ⟨a1,a2,a3⟩:=app_gen (en:=s.en) (k:=k) (b:=p) ⟨by omega,by omega⟩ h.2.2
 have hE:recE s k p=yX s.en k p:=by unfold recE;rw [if_neg (by simpa using h),a1]
 refine ⟨?_,hE,?_⟩
 ·unfold recS;rw [hE,a1];show _={ s with en:=Led.app s.en k p };rw [a2]
  split <;> simp_all
 ·unfold recI;rw [hE,a1,a3]
  split <;> simp_all
end Rnd
end Go.Proofs.YtgokpcnabgacnaaGreatDoor
namespace Go.Proofs.YtgokpcnabgacnaaGreatDoor
open Go.RowKit
namespace Sx
structure Rt where
 gb:Nat
 Fb:LN
 gl:Nat
 Fl:LN
 A:Option Addr
 c:Nat
 Fv:LN
 Ms:List (Option Nat)
 Fm:LN
 gk:Nat
 Fk:LN
abbrev bkBs (gb:Nat) (l:List Acc.T) (s:Bst):List Box:=[.c gb [isD (.map (s.M.map Prod.fst)),isD (.slice s.n.A (Acc.nm l).length s.n.c),isD (.map (s.M.map Prod.snd))],.r s.n.F (yj 9 1 Zj s.n.A s.n.c (Acc.nm l)),.r s.F1 (ya (s.M.map Prod.fst) yA (Acc.nm l) (acD l)),.r s.F2 (ya (s.M.map Prod.snd) yu (Acc.seats l) (seD l))]
abbrev ldBs (gl:Nat) (es:List Led.Ent) (s:Lst):List Box:=[.c gl [isD (.slice s.A es.length s.c),isD (.map s.M)],ledE s es,ledM s es]
def bkP (gb:Nat) (l:List Acc.T):Res:=packR (bkBs gb l)
def ldP (gl:Nat) (es:List Led.Ent):Res:=packR (ldBs gl es)
def envD (es:List Env.T) (i:Nat) (nm:LB):D:=Zn (YT ((Rnd.getE es i nm).getD Env.zero))
def mpR (es:List Env.T) (i:Nat) (M:Option Nat):Res:=ya M yA (Rnd.keysE es i) (envD es i)
def mps (es:List Env.T) (Ms:List (Option Nat)):List Res:=Ms.mapIdx (mpR es)
abbrev rndBs (gr:Nat) (s:Rnd.S) (t:Rt):List Box:=[.c gr [pA t.gb,lsD encW s.ws,iD s.ck,pA t.gl,isD (.slice t.A t.Ms.length t.c),isD (.map (some t.gk))],.r t.Fb (bkP t.gb s.bk),.r t.Fl (ldP t.gl s.en),.r t.Fv (yj 133 1 encM t.A t.c t.Ms),.r t.Fm (rowR (mps s.es t.Ms)),.r t.Fk (ya (some t.gk) Z2 (Rnd.rks s.ks) (kyD s.ks))]
def yZ (gr:Nat) (s:Rnd.S):Res:=packR (fun t:{t:Rt // t.Ms.length=s.ws.length}=>rndBs gr s t.1)
theorem bk_out {gb:Nat} {l:List Acc.T} {F:LN}:Opens [.r F (bkP gb l)] (fun q=>∃ s,q=bkBs gb l s):=opens_out
theorem bk_in {gb:Nat} {l:List Acc.T} (s:Bst):Opens (bkBs gb l s) (fun q=>∃ F,q=[.r F (bkP gb l)]):=opens_in (bs:=bkBs gb l) s
theorem ld_out {gl:Nat} {es:List Led.Ent} {F:LN}:Opens [.r F (ldP gl es)] (fun q=>∃ s,q=ldBs gl es s):=opens_out
theorem ld_in {gl:Nat} {es:List Led.Ent} (s:Lst):Opens (ldBs gl es s) (fun q=>∃ F,q=[.r F (ldP gl es)]):=opens_in (bs:=ldBs gl es) s
theorem Z0 {gr:Nat} {s:Rnd.S} {F:LN}:Opens [.r F (yZ gr s)] (fun q=>∃ t:{t:Rt // t.Ms.length=s.ws.length},q=rndBs gr s t.1):=opens_out
theorem Zs {gr:Nat} {s:Rnd.S} (t:Rt) (h:t.Ms.length=s.ws.length):Opens (rndBs gr s t) (fun q=>∃ F,q=[.r F (yZ gr s)]):=opens_in (bs:=fun t:{t:Rt // t.Ms.length=s.ws.length}=>rndBs gr s t.1) ⟨t,h⟩
abbrev st0:Bst:=⟨none,[],[],⟨none,0,[]⟩⟩
abbrev ls0:Lst:=⟨none,0,[],none,[]⟩
theorem ConR.bkK {f:FuncId} {ad:List D} {gb:Nat} {l:List Acc.T} {F:LN} {d:D} (h:∀ s,ConR Tryz.prog f (bkBs gb l s) ad (fun _:Unit=>bkBs gb l s) (fun _=>d)):ConR Tryz.prog f [.r F (bkP gb l)] ad (fun F':LN=>[.r F' (bkP gb l)]) (fun _=>d):=
 ConR.preshape (fun s=>(h s).reshape fun _=>(bk_in s).trans fun q ⟨F',hq⟩=>Opens.refl ⟨F',hq,zd _⟩) (h st0).en bk_out
theorem ConR.ldT {f:FuncId} {ad:List D} {gl:Nat} {es es':List Led.Ent} {F:LN} {d:D} (h:∀ s,ConR Tryz.prog f (ldBs gl es s) ad (fun t:Lst=>ldBs gl es' t) (fun _=>d)):ConR Tryz.prog f [.r F (ldP gl es)] ad (fun F':LN=>[.r F' (ldP gl es')]) (fun _=>d):=
 ConR.preshape (fun s=>(h s).reshape fun t=>(ld_in t).trans fun q ⟨F',hq⟩=>Opens.refl ⟨F',hq,zd _⟩) (h ls0).en ld_out
theorem con_copyP {gb:Nat} {l:List Acc.T} {F:LN} (hf:Acc.Fine l):ConR Tryz.prog 52 [.r F (bkP gb l)] [pA gb] (fun t:LN × Nat × LN=>[.r t.1 (bkP gb l),.r t.2.2 (bkP t.2.1 l)]) (fun t=>pA t.2.1):=
 ConR.preshape (fun s=>(con_copyB gb s l hf).reshape fun k=>((bk_in s).frame (bkBs k.1 l k.2)).trans fun q ⟨p,⟨F1,hp⟩,hq⟩=>by
  subst hp hq
  exact ((bk_in k.2).cons _).trans fun q ⟨p,⟨F2,hp⟩,hq⟩=>by
   subst hp hq
   exact Opens.refl ⟨(F1,k.1,F2),V,zd _⟩) (con_copyB gb st0 l hf).en bk_out
theorem con_copyLP {gl:Nat} {es:List Led.Ent} {F:LN} (hl:es.length≤1000000):ConR Tryz.prog 104 [.r F (ldP gl es)] [pA gl] (fun t:LN × Nat × LN=>[.r t.1 (ldP gl es),.r t.2.2 (ldP t.2.1 es)]) (fun t=>pA t.2.1):=
 ConR.preshape (fun s=>(con_copyL gl s es hl).reshape fun k=>((ld_in s).frame (ldBs k.1 es k.2)).trans fun q ⟨p,⟨F1,hp⟩,hq⟩=>by
  subst hp hq
  exact ((ld_in k.2).cons _).trans fun q ⟨p,⟨F2,hp⟩,hq⟩=>by
   subst hp hq
   exact Opens.refl ⟨(F1,k.1,F2),V,zd _⟩) (con_copyL gl ls0 es hl).en ld_out
theorem con_appendP {gl:Nat} {es es':List Led.Ent} {k:Int} {b:LB} {F:LN} (hn:es.length≤100000) (he:es'=Led.app es k b):ConR Tryz.prog 35 [.r F (ldP gl es)] [pA gl,Zn [iD k,bD b]] (fun F':LN=>[.r F' (ldP gl es')]) (fun _=>Yv [iD (YF es k b),iD (yX es k b)]):=
 ConR.ldT fun s=>ConR.lookedE (con_append gl s es es' k b none 0 [] _ (YL _ _ _ _ rfl) hn he).en fun A c=>con_append gl s es es' k b A c [] _ (YL _ _ _ _ rfl) hn he
theorem opens_add {pre:List Box} {R:Res} (h:∀ L w,R.R L [] w):Opens pre (fun q=>q=pre ++ [.r [] R]):=fun L w hn hb=>by
 have e:fps (pre ++ [.r [] R])=fps pre:=by rw [ZY];simp [fps,Box.fp]
 refine ⟨_,V,fun b hm=> ?_,by rw [e];exact hn,fun g hg=>by rw [e] at hg;exact hg⟩;rw [e];rcases List.mem_append.1 hm with hm | hm
 ·exact hb b hm
 ·rw [List.mem_singleton.1 hm];exact h _ w
theorem vecN_R {α:Type} (e sz:Nat) (enc:α→List D) (L:LN) (w:World):(yj e sz enc none 0 []).R L [] w:=⟨[],trivial,⟨by simp,.inl ⟨rfl,rfl⟩⟩,rfl⟩
theorem mapQN_R {κ:Type} (enc:κ→Value) (f:κ→D) (L:LN) (w:World):(ya none enc [] f).R L [] w:=⟨[],List.nodup_nil,fun _=>Iff.rfl,#[],.inl ⟨rfl,rfl,rfl⟩,rfl,trivial⟩
theorem mapFN_R {κ:Type} (enc:κ→Value) (f:κ→D) (L:LN) (w:World):(mapF none enc [] f).R L [] w:=⟨#[],.inl ⟨rfl,rfl,rfl⟩,rfl,trivial⟩
theorem ld_new {g:Nat}:Opens [.c g [isD (.slice none 0 0),isD (.map none)]] (fun q=>∃ F,q=[.r F (ldP g [])]):=
 (opens_add (R:=yj 85 2 encE none 0 []) (vecN_R _ _ _)).trans fun q hq=>by
  subst hq
  exact (opens_add (R:=mapF none encN (Led.keys 0) (mkeys [])) (mapFN_R _ _)).trans fun q hq=>by
   subst hq;exact ld_in (gl:=g) (es:=[]) ls0
theorem mps_nil (n:Nat):∀ R∈mps [] (List.replicate n none),∀ L w,R.R L [] w:=fun R hR L w=>by
 unfold mps at hR;obtain ⟨i,hi,rfl⟩:=List.mem_mapIdx.1 hR;rw [List.getElem_replicate];exact mapQN_R _ _ L w
theorem rows_nil (n:Nat):Opens [] (fun q=>∃ F,q=[.r F (rowR (mps [] (List.replicate n none)))]):=opens_rowN (mps_nil n)
theorem rks_start (n:Nat):Rnd.rks (List.replicate n [])=[]:=by
 refine List.eq_nil_iff_forall_not_mem.2 fun r hr=>(Rnd.mem_rks.1 hr).2 ?_;unfold Rnd.kyAt;rw [List.getD_eq_getElem?_getD,List.getElem?_replicate]
 split <;> rfl
theorem bldRd3 {p q:Addr} {M:Option Nat}:Bld Tryz.prog 104 [0,3,5] [isD (.pointer (some p)),isD (.pointer (some q)),isD (.map M)] [isD (.pointer (some p)),isD (.slice none 0 0),iD 0,isD (.pointer (some q)),isD (.slice none 0 0),isD (.map M)]:=fun L w vs hv=>by
 obtain ⟨u,v,z,rfl,rfl,rfl,rfl⟩:=all3 hv;exact ⟨[.pointer (some p),.slice none 0 0,.int .i64 0,.pointer (some q),.slice none 0 0,.map M],⟨V,V,V,V,V,V,t9⟩,fun w'=>by kernel_rfl⟩
theorem blsW1 {x:Rnd.Win}:Bls Tryz.prog 22 1 [0] [Zn [iD x.st,iD x.en,iD x.rv,bD x.cm]] ([x].flatMap encW):=⟨26,fun L w vs hv=>by
 obtain ⟨u,rfl,cs,rfl,hc⟩:=all1 hv
 match cs,hc with
 | [a,b,c,d],hc=>
  obtain ⟨rfl,rfl,rfl,h,-⟩:=hc;have h':=h;obtain ⟨A,cp,rfl,-⟩:=h
  exact ⟨[.int .i64 _,.int .i64 _,.int .i64 _,.slice A _ cp],⟨V,V,V,h',t9⟩,fun w'=>by kernel_rfl⟩⟩
theorem con_new (gb:Nat) (bk:List Acc.T) (F:LN) (ws:List Rnd.Win) (hf:Acc.Fine bk) (h:Rnd.ok ws):ConR Tryz.prog 12 [.r F (bkP gb bk)] [pA gb,lsD encW ws] (fun t:LN × Nat × LN=>[.r t.1 (bkP gb bk),.r t.2.2 (yZ t.2.1 (Rnd.start bk ws))]) (fun t:LN × Nat × LN=>Yv [pA t.2.1,iD 0]):=by
 have hwl:=h.1.2;refine zW Tryz.func12 k9 V k9 fun base w0=>(zh (zb (za V (zg V) (za V (zg V) (zf (zc (zh (zh (zb (za V (ze V) (za V (YO V V k9) (zf (zc (zB V (V) (zu (zc (zh (zh (zb (za V (ze V) (zl (S:=[]) (zz [] (con_validS ws o9) V ⟨(zq (zd _)),t9⟩ V) ?_)))))))))))))))))))));rintro _ rfl;refine za V (yL V) (zf (zc (zB V (by simp [h]) (zu (zc (zh (zb (za V (ze V) (zl (zx [0] (con_copyP hf) V ⟨zd _,t9⟩ d9 ⟨lR V,t9⟩ (fun _ h=>h) V) ?_)))))))));rintro _ ⟨⟨F1,g2,F2⟩,rfl⟩;refine zl (S:=[]) (zH (zs:=[.slice none 0 0,.map none]) k9 V) ?_;rintro _ ⟨g16,rfl⟩;refine zl (S:=[]) (Ef.makeMapQ (enc:=Z2) (kyD []) V) ?_;rintro _ ⟨g17,rfl⟩;refine za V (yr V V bldRd3) (zl (S:=[]) (yV V V) ?_);rintro _ ⟨g19,rfl⟩;refine za V (zg V) (zf (zc (zh (zh (zM (ld_new) [2] d9 ⟨la V,t9⟩ ?_)))));rintro _ ⟨Fl,rfl⟩;refine Yk 26 4 encW (zQ (σ':=zK [(1,lsD encW ws),(6,pA g19)] [.r F1 (bkP gb bk),.r F2 (bkP g2 bk),.r Fl (ldP g16 []),.r [g17] (ya (some g17) Z2 [] (kyD [])),.c g19 [pA g2,isD (.slice none ([]:List Rnd.Win).length 0),iD 0,pA g16,isD (.slice none 0 0),isD (.map (some g17))],.r [] (yj 26 4 encW none 0 ([]:List Rnd.Win))]) (sB [0,1,4,2,3,5] V V) (zb (za V (ze V) (za V (Zw (e:=26) V k9) (za V (ze V) (zf (zc (zV (Zk (ι:={q:Nat × Ust // q.1≤ws.length}) (fun ⟨(i,t),hi⟩=>zK [(1,lsD encW ws),(6,pA g19),(20,lsD encW ws),(21,iD (ws.length:Int)),(22,iD (i:Int))] [.r F1 (bkP gb bk),.r F2 (bkP g2 bk),.r Fl (ldP g16 []),.r [g17] (ya (some g17) Z2 [] (kyD [])),.c g19 [pA g2,isD (.slice t.A (ws.take i).length t.c),iD 0,pA g16,isD (.slice none 0 0),isD (.map (some g17))],.r t.F (yj 26 4 encW t.A t.c (ws.take i))]) (fun ⟨(i,t),hi⟩=>ws.length - i) (⟨(0,⟨none,0,[]⟩),Nat.zero_le _⟩) ?_ ?_)))))))))
 ·exact (sB [0,1,2,3,4,5] V V)
 ·rintro ⟨⟨i,t⟩,hi⟩ K0 hK0;dsimp only at hi ⊢;refine zh (zb (za V (yG V V) (zf (zc (zh (zI V (fun hb23=> ?_) (fun hb23=> ?_)))))))
  ·have hb23:=oT hb23;refine zu (zc (zh (zV (zh ?_))));obtain ⟨x,hx⟩:∃ x,ws[i]? =some x:=⟨_,List.getElem?_eq_getElem o9⟩;have hcm:x.cm.length=32:=Rnd.okL_cm h.2 (List.mem_of_getElem? hx);refine zb (za V (yH (e:=26) 4 V V k9 k9 o9 (by simpa using hx)) (za V (Ym 4 V k9 d9 (show 4≤4 by decide) s9) (zl (S:=[]) (zH (zs:=[.int .i64 0,.int .i64 0,.int .i64 0,.slice none 0 0]) k9 rfl) ?_)));rintro _ ⟨g8,rfl⟩;refine zl (S:=[_]) (zC 6 V V V k9 V (m9 V)) ?_;rintro _ rfl;refine zf (zc (zh (zb (za V (zi (n:=3) V k9) (za V (zj 6 V V V k9 zn) (zl (S:=[]) (zz [] (con_cloneB x.cm (by have:=hcm;omega)) V ⟨(zq (zd _)),t9⟩ V) ?_))))));rintro _ rfl;refine za V (zi (n:=3) V k9) (zl (S:=[_]) (zN 6 V V V k9 V (m9 V)) ?_);rintro _ rfl
   refine zf (zc (yh (t.F ++ (g19 :: [])) (.r 0 (.r 1 (.r 2 (.r 3 (.q 4 (.r 5 (.n 6 (.e 7 (.r 8 (.r 9 (.e 10 .fin .no))) .no) .no))))))) k9 k9 (fun d _ _ _ _ h=>by cases d <;> exact h) (zk rfl rfl (ze rfl) (zk rfl rfl (ze rfl) (zk rfl rfl (zt rfl) (zk rfl rfl (zi (n:=1) rfl k9) (SWz.rq rfl rfl (zj 4 rfl rfl rfl k9 zn) (zk rfl rfl (zG 6 4 rfl rfl k9 rfl (zO 5 rfl d9 (yB 4 rfl d9 zn))) (zY rfl (ZB rfl rfl blsW1 rfl) ?_ zA)))))))))
   rintro _ rfl
   refine zL V (Zf 5 4 48 V V (SrcT.ls (l:=[_]) V) k9 k9 (by simp <;> omega) d9 (fun _ h=>mL _ h) V) ?_ zA
   rintro _ ⟨A37,F37,c37,rfl⟩;refine zk V V (zt V) (zk V V (zi (n:=1) V k9) (zL V (zN 4 V V V k9 V (mR _ mC)) ?_ zA));rintro _ rfl;exact zP (yf (zc (zb (za V (yM V V ⟨by omega,by omega⟩) (za rfl (ze rfl) (zf (fun a w hh=>hK0 (⟨(i + 1,⟨A37,c37,F37⟩),by dsimp only;omega⟩) (by dsimp only;omega) a w (hh.sub (⟨⟨_,rfl,⟨lq rfl,⟨lq rfl,⟨lq rfl,⟨lq rfl,⟨⟨_,rfl,zE s9⟩,trivial⟩⟩⟩⟩⟩⟩,[0,1,2,3,4,6],by decide,⟨lR rfl,⟨lR rfl,⟨lR rfl,⟨lR rfl,⟨⟨_,rfl,⟨zd _,zE (by rw [yq hx]),zd _,zd _,zd _,zd _,trivial⟩⟩,⟨⟨_,rfl,Z9 (by rw [yq hx]) (by rw [yq hx])⟩,trivial⟩⟩⟩⟩⟩⟩⟩)))))))))
  ·have hb23:=oF hb23;have hie:i=ws.length:=o9;refine yW ?_
   repeat (first | refine Za ?_ | refine Zb d9 ?_)
   refine Zi (zc (zh (zQ (σ':=zK [(1,lsD encW ws),(6,pA g19)] [.r F1 (bkP gb bk),.r F2 (bkP g2 bk),.r Fl (ldP g16 []),.r [g17] (ya (some g17) Z2 [] (kyD [])),.c g19 [pA g2,isD (.slice t.A ws.length t.c),iD 0,pA g16,isD (.slice none 0 0),isD (.map (some g17))],.r t.F (yj 26 4 encW t.A t.c ws)]) (⟨⟨_,V,(sT V)⟩,[0,1,2,3,4,5],by decide,⟨lR rfl,⟨lR rfl,⟨lR rfl,⟨lR rfl,⟨⟨_,rfl,⟨zd _,zE (by rw [hie,List.take_length]),zd _,zd _,zd _,zd _,trivial⟩⟩,⟨⟨_,rfl,Z9 (by rw [hie,List.take_length]) (by rw [hie,List.take_length])⟩,trivial⟩⟩⟩⟩⟩⟩⟩) (zb (za rfl (ze rfl) (za rfl (ze rfl) (za rfl (Zw (e:=26) rfl k9) (zl (S:=[]) (Ef.makeN (e:=133) (n:=ws.length) encM none 8 rfl rfl k9 k9 rfl rfl rfl rfl o9 d9 rfl) ?_))))))));rintro _ ⟨g44,rfl⟩;refine za V (zt V) (za V (zi (n:=4) V k9) (zl (S:=[_]) (zN 4 V V V k9 V (m9 V)) ?_));rintro _ rfl;refine zf (zc (zh (SW.freezeC 4 1 5 V V V (zM (rows_nil ws.length) [] d9 t9 ?_))));rintro _ ⟨Fm,rfl⟩;refine zb (za V (ze V) (za V (zg V) (za V (zg V) (zf (zc (zM (Zs (gr:=g19) (s:=Rnd.start bk ws) ⟨g2,F2,g16,Fl,some ⟨g44,0,none⟩,ws.length,[g44],List.replicate ws.length none,Fm,g17,[g17]⟩ (by simp [Rnd.start])) [4,1,2,5,6,3] d9 ⟨⟨_,V,⟨zd _,zd _,zd _,zd _,zE s9,zd _,t9⟩⟩,⟨lR V,⟨lR V,⟨lR V,⟨lR V,⟨⟨_,V,leMapQ (by simp [Rnd.start,rks_start]) (fun k hk=>by cases hk)⟩,trivial⟩⟩⟩⟩⟩⟩ ?_))))))
   rintro _ ⟨Fr,rfl⟩;refine zJ (fn:=Tryz.f12) ((F1,g19,Fr)) [0,1] (fun _ _ h=>h) (Rs.le (yN V (zp V) (zp V)) ?_) d9 (sX V);exact zd _
end Sx
end Go.Proofs.YtgokpcnabgacnaaGreatDoor
