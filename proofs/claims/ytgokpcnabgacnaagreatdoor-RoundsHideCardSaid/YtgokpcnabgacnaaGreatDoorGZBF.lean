/- ROUNDS: the reference's New, Same. ROUNDS: the reference's Bids. ROUNDS: the reference's Reveal. -/
import Derived.Test.YtgokpcnabgacnaaGreatDoorGZBE
set_option maxHeartbeats 8000000
set_option maxRecDepth 100000
namespace Go.Proofs.YtgokpcnabgacnaaGreatDoor
open Go.RowKit
namespace Sx
instance:DecidableEq Rnd.Opn:=fun a b=>if h:a.acc=b.acc∧a.ser=b.ser∧a.bid=b.bid∧a.bad=b.bad then .isTrue (by cases a;cases b;simp only [Rnd.Opn.mk.injEq];exact h) else .isFalse fun e=>h (by rw [e];exact ⟨rfl,rfl,rfl,rfl⟩)
theorem ext_upto {α:Type} {l m:List α} {i:Nat} (hl:l.length=m.length) (hi:l.length≤i) (h:∀ j,j < i→l[j]? =m[j]?):l=m:=by
 apply List.ext_getElem?;intro j
 by_cases hj:j < i
 ·exact h j hj
 ·rw [List.getElem?_eq_none o9,List.getElem?_eq_none o9]
theorem con_Same44 (l m:List Rnd.Opn) (hl:l.length≤1000000):ConN Tryz.prog 44 [lsD encO l,lsD encO m] (yc (decide (l=m))):=by
 refine yJ Tryz.func44 k9 V k9 fun base w0=>(zh (zb (za V (zg V) (zf (zc (zh (zh (zb (za V (ze V) (za V (Zw (e:=110) V k9) (za V (ze V) (za V (Zw (e:=110) V k9) (za V (zX V V) (zf (zc (zI V (fun hb10=> ?_) (fun hb10=> ?_)))))))))))))))))
 ·have h10:¬l.length=m.length:=by (have h:=hb10;simp at h;omega)
  refine zh (zb (za V (zg V) (zf (zc (zR (fn:=Tryz.f44) (fun _ _ h=>h) (Rs.le (Rs.one V (zp V)) ?_))))));exact ym (by symm;apply decide_eq_false;intro h;exact h10 (by rw [h]))
 ·have h10:l.length=m.length:=by (have h:=hb10;simp at h;omega)
  refine zu (zc (zh (zh (zb (za V (zg V) (zf (zc (zV (Zk (ι:={i:Nat // i≤l.length∧∀ j,j < i→l[j]? =m[j]?}) (fun i=>zK [(0,lsD encO l),(1,lsD encO m),(5,iD (i.1:Int))] []) (fun i=>l.length - i.1) (⟨0,Nat.zero_le _,fun j hj=>absurd hj (Nat.not_lt_zero _)⟩) ?_ ?_)))))))))
  ·exact (sB [] V V)
  ·rintro ⟨i,hi,hq⟩ K0 hK0;dsimp only at hi hq ⊢;refine zh (zh (zb (za V (ze V) (za V (ze V) (za V (Zw (e:=110) V k9) (za V (yG V V) (zf (zc (zI V (fun hb14=> ?_) (fun hb14=> ?_))))))))))
   ·have h14:(i:Int) < (l.length:Int):=oT hb14;refine zu (zc (zh (zV (zh ?_))));obtain ⟨x,hx⟩:∃ x,l[i]? =some x:=⟨_,List.getElem?_eq_getElem o9⟩;obtain ⟨y,hy⟩:∃ y,m[i]? =some y:=⟨_,List.getElem?_eq_getElem o9⟩
    refine yh [] (.r 0 (.r 1 (.r 2 (.r 3 (.r 4 (.r 5 (.r 6 (.r 7 (.r 8 (.r 9 (.r 10 (.r 11 (.r 12 (.r 13 (.r 14 (.r 15 (.r 16 (.r 17 (.r 18 (.r 19 (.r 20 (.r 21 (.r 22 (.r 23 (.r 24 (.r 25 (.r 26 (.r 27 (.r 28 (.r 29 (.r 30 (.r 31 (.r 32 (.r 33 (.r 34 (.r 35 (.r 36 (.r 37 (.r 38 (.r 39 (.r 40 (.r 41 (.r 42 (.r 43 (.r 44 (.r 45 (.r 46 (.r 47 (.r 48 (.r 49 (.r 50 (.r 51 .fin)))))))))))))))))))))))))))))))))))))))))))))))))))) k9 k9 (fun d _ _ _ _ h=>by cases d <;> exact h) (zk rfl rfl (ze rfl) (zk rfl rfl (ze rfl) (zk rfl rfl (yH (e:=110) 4 rfl rfl k9 k9 o9 (by simpa using hx)) (zk rfl rfl (yk (n:=0) rfl k9 (show 0 < 4 by decide)) (zk rfl rfl (yi rfl rfl k9 s9) (zk rfl rfl (ze rfl) (zk rfl rfl (ze rfl) (zk rfl rfl (yH (e:=110) 4 rfl rfl k9 k9 o9 (by simpa using hy)) (zk rfl rfl (yk (n:=0) rfl k9 (show 0 < 4 by decide)) (zk rfl rfl (yi rfl rfl k9 s9) (zk rfl rfl (Rd.nes (p:=x.acc) (q:=y.acc) rfl rfl) (zk rfl rfl (ze rfl) (SWz.split 28 rfl (fun hb28=> ?_) (fun hb28=> ?_))))))))))))))
    ·have h28:¬x.acc=y.acc:=by simpa using hb28
     refine zT V V V (hb28) V V (zT V V V (hb28) V V (zT V V V (hb28) V V (zT V V V (hb28) V V (zT V V V (hb28) V V (zT V V V (hb28) V V (zT V V V (hb28) V V (zT V V V (hb28) V V (zT V V V (hb28) V V (zT V V V (hb28) V V (zT V V V (hb28) V V (zk V V (zD V (hb28) V) (zk V V (ze V) (zT V V V (V) V V (zT V V V (V) V V (zT V V V (V) V V (zT V V V (V) V V (zT V V V (V) V V (zT V V V (V) V V (zT V V V (V) V V (zT V V V (V) V V (zT V V V (V) V V (zT V V V (V) V V (zT V V V (V) V V (zT V V V (V) V V (zT V V V (V) V V (zk V V (zD V (V) V) (zk V V (ze V) (zT V V V (V) V V (zT V V V (V) V V (zT V V V (V) V V (zT V V V (V) V V (zT V V V (V) V V (zT V V V (V) V V (zT V V V (V) V V (zT V V V (V) V V (zT V V V (V) V V (zT V V V (V) V V (zT V V V (V) V V (zk V V (zD V (V) V) ?_)))))))))))))))))))))))))))))))))))))));refine zP (zc (yd V (V) (zh (zb (za V (zg V) (zf (zc (zR (fn:=Tryz.f44) (fun _ _ h=>h) (Rs.le (Rs.one V (zp V)) ?_)))))))))
     exact ym (by symm;apply decide_eq_false;intro h;rw [h,hy] at hx;obtain rfl:=Option.some.inj hx;exact h28 rfl)
    ·have h28:x.acc=y.acc:=by simpa using hb28
     refine yb V V V (hb28) V V (ze V) (yb V V V (hb28) V V (ze V) (yb V V V (hb28) V V (yH (e:=110) 4 V V k9 k9 o9 (by simpa using hx)) (yb V V V (hb28) V V (yk (n:=1) V k9 (show 1 < 4 by decide)) (yb rfl rfl rfl (hb28) rfl rfl (yi rfl rfl k9 s9) (yb rfl rfl rfl (hb28) rfl rfl (ze rfl) (yb rfl rfl rfl (hb28) rfl rfl (ze rfl) (yb rfl rfl rfl (hb28) rfl rfl (yH (e:=110) 4 rfl rfl k9 k9 o9 (by simpa using hy)) (yb rfl rfl rfl (hb28) rfl rfl (yk (n:=1) rfl k9 (show 1 < 4 by decide)) (yb rfl rfl rfl (hb28) rfl rfl (yi rfl rfl k9 s9) (yb rfl rfl rfl (hb28) rfl rfl (zX rfl rfl) (zk rfl rfl (zy rfl (hb28) rfl) (zk rfl rfl (ze rfl) (SWz.split 41 rfl (fun hb41=> ?_) (fun hb41=> ?_))))))))))))))
     ·have h41:¬x.ser=y.ser:=by simpa using hb41
      refine zT V V V (hb41) V V (zT V V V (hb41) V V (zT V V V (hb41) V V (zT V V V (hb41) V V (zT V V V (hb41) V V (zT V V V (hb41) V V (zT V V V (hb41) V V (zT V V V (hb41) V V (zT V V V (hb41) V V (zT V V V (hb41) V V (zT V V V (hb41) V V (zT V V V (hb41) V V (zT V V V (hb41) V V (zk V V (zD V (hb41) V) (zk V V (ze V) (zT V V V (V) V V (zT V V V (V) V V (zT V V V (V) V V (zT V V V (V) V V (zT V V V (V) V V (zT V V V (V) V V (zT V V V (V) V V (zT V V V (V) V V (zT V V V (V) V V (zT V V V (V) V V (zT V V V (V) V V (zk V V (zD V (V) V) (zP (zc (yd V (V) (zh (zb (za V (zg V) (zf (zc (zR (fn:=Tryz.f44) (fun _ _ h=>h) (Rs.le (Rs.one V (zp V)) ?_))))))))))))))))))))))))))))))))))));exact ym (by symm;apply decide_eq_false;intro h;rw [h,hy] at hx;obtain rfl:=Option.some.inj hx;exact h41 rfl)
     ·have h41:x.ser=y.ser:=by simpa using hb41
      refine yb V V V (hb41) V V (ze V) (yb V V V (hb41) V V (ze V) (yb V V V (hb41) V V (yH (e:=110) 4 V V k9 k9 o9 (by simpa using hx)) (yb V V V (hb41) V V (yk (n:=2) V k9 (show 2 < 4 by decide)) (yb rfl rfl rfl (hb41) rfl rfl (yi rfl rfl k9 s9) (yb rfl rfl rfl (hb41) rfl rfl (Rd.str (e:=5) rfl k9 k9 k9 s9) (yb rfl rfl rfl (hb41) rfl rfl (ze rfl) (yb rfl rfl rfl (hb41) rfl rfl (ze rfl) (yb rfl rfl rfl (hb41) rfl rfl (yH (e:=110) 4 rfl rfl k9 k9 o9 (by simpa using hy)) (yb rfl rfl rfl (hb41) rfl rfl (yk (n:=2) rfl k9 (show 2 < 4 by decide)) (yb rfl rfl rfl (hb41) rfl rfl (yi rfl rfl k9 s9) (yb rfl rfl rfl (hb41) rfl rfl (Rd.str (e:=5) rfl k9 k9 k9 s9) (yb rfl rfl rfl (hb41) rfl rfl (Rd.nes (p:=x.bid) (q:=y.bid) rfl rfl) (zk rfl rfl (zy rfl (hb41) rfl) (zk rfl rfl (ze rfl) (SWz.split 56 rfl (fun hb56=> ?_) (fun hb56=> ?_))))))))))))))))
      ·have h56:¬x.bid=y.bid:=by simpa using hb56
       refine zT V V V (hb56) V V (zT V V V (hb56) V V (zT V V V (hb56) V V (zT V V V (hb56) V V (zT V V V (hb56) V V (zT V V V (hb56) V V (zT V V V (hb56) V V (zT V V V (hb56) V V (zT V V V (hb56) V V (zT V V V (hb56) V V (zT V V V (hb56) V V (zk V V (zD V (hb56) V) (zP (zc (yd V (V) (zh (zb (za V (zg V) (zf (zc (zR (fn:=Tryz.f44) (fun _ _ h=>h) (Rs.le (Rs.one V (zp V)) ?_)))))))))))))))))))));exact ym (by symm;apply decide_eq_false;intro h;rw [h,hy] at hx;obtain rfl:=Option.some.inj hx;exact h56 rfl)
      ·have h56:x.bid=y.bid:=by simpa using hb56
       refine yb V V V (hb56) V V (ze V) (yb V V V (hb56) V V (ze V) (yb V V V (hb56) V V (yH (e:=110) 4 V V k9 k9 o9 (by simpa using hx)) (yb V V V (hb56) V V (yk (n:=3) V k9 (show 3 < 4 by decide)) (yb rfl rfl rfl (hb56) rfl rfl (yi rfl rfl k9 s9) (yb rfl rfl rfl (hb56) rfl rfl (ze rfl) (yb rfl rfl rfl (hb56) rfl rfl (ze rfl) (yb rfl rfl rfl (hb56) rfl rfl (yH (e:=110) 4 rfl rfl k9 k9 o9 (by simpa using hy)) (yb rfl rfl rfl (hb56) rfl rfl (yk (n:=3) rfl k9 (show 3 < 4 by decide)) (yb rfl rfl rfl (hb56) rfl rfl (yi rfl rfl k9 s9) (yb rfl rfl rfl (hb56) rfl rfl (Rd.neb k9 rfl rfl) (zk rfl rfl (zy rfl (hb56) rfl) (zP (zc (zI rfl (fun hb68=> ?_) (fun hb68=> ?_)))))))))))))))
       ·have h68:¬x.bad=y.bad:=by simpa using hb68
        refine zh (zb (za V (zg V) (zf (zc (zR (fn:=Tryz.f44) (fun _ _ h=>h) (Rs.le (Rs.one V (zp V)) ?_))))));exact ym (by symm;apply decide_eq_false;intro h;rw [h,hy] at hx;obtain rfl:=Option.some.inj hx;exact h68 rfl)
       ·have h68:x.bad=y.bad:=by simpa using hb68
        refine zu (yf (zc (zb (za V (ze V) (za V (yM V V ⟨by omega,by omega⟩) (za rfl (zg rfl) (zf ?_)))))))
        have hxy:x=y:=by (cases x;cases y;simp only at h28 h41 h56 h68;simp only [Rnd.Opn.mk.injEq];exact ⟨h28,h41,h56,h68⟩)
        exact fun a w hh=>hK0 (⟨i + 1,by omega,fun j hj=>by (rcases Nat.lt_succ_iff_lt_or_eq.1 hj with h | h;exact hq j h;(rw [h,hx,hy,hxy]))⟩) (by dsimp only;omega) a w (hh.sub (⟨⟨_,rfl,⟨lq rfl,⟨lq rfl,⟨⟨_,rfl,zE s9⟩,trivial⟩⟩⟩⟩,[],by decide,trivial⟩))
   ·have h14:¬(i:Int) < (l.length:Int):=oF hb14;refine yW ?_
    repeat (first | refine Za ?_ | refine Zb d9 ?_)
    refine Zi (zc (zh (zb (za V (zg V) (zf (zc (zR (fn:=Tryz.f44) (fun _ _ h=>h) (Rs.le (Rs.one V (zp V)) ?_))))))));exact ym (by symm;apply decide_eq_true;exact ext_upto h10 o9 hq)
end Sx
end Go.Proofs.YtgokpcnabgacnaaGreatDoor
