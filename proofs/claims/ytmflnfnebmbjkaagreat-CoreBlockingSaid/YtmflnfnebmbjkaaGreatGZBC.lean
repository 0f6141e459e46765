/- REFERENCE 39: Find, Valid, Wish, Has, Among. -/
import Derived.Test.YtmflnfnebmbjkaaGreatGZBB
set_option maxHeartbeats 8000000
set_option maxRecDepth 100000
namespace Go.Proofs.YtmflnfnebmbjkaaGreat
open Go.RowKit
namespace Sx
def qj (x:Bool):List D:=[yy x]
instance:Row qj 1:=⟨fun _=>rfl,fun x=>by unfold qj;infer_instance,by decide⟩
def nI (a:LN):List Int:=a.map fun x:Nat=>(x:Int)
theorem Kw {α:Type} {l:List α} {i:Nat} {x:α} (hx:l[i]? =some x) (h:0 < i):∃ y,l[i - 1]? =some y:=by
 have:=(Jg.1 hx).1;exact ⟨_,Je o9⟩
theorem Vj {l:List Co.Cl} {i:Nat} {y:Co.Cl} (h:0 < i) (hy:l[i - 1]? =some y):Co.lastW l i=y.win:=by
 obtain ⟨k,rfl⟩:∃ k,i=k + 1:=⟨i - 1,by omega⟩;exact Co.wnO_get hy
theorem wish_at {ws:List Co.Wi} {w s:Int} {i:Nat} {x:Co.Wi} (hx:ws[i]? =some x) (h:x.win=w∧x.st=s) (hp:∀ j < i,∀ y,ws[j]? =some y→¬(y.win=w∧y.st=s)):Co.wish ws w s=x.val:=by
 obtain ⟨hlt,he⟩:=Jg.1 hx;unfold Co.wish
 have:ws.find? (fun x=>x.win == w && x.st == s)=some x:=by
  rw [List.find?_eq_some_iff_getElem];refine ⟨by simp [h.1,h.2],i,hlt,he,fun j hj=> ?_⟩;have:=hp j hj _ (Je o9);simp only [XF,Bool.and_eq_false_iff,Xb]
  by_cases h1:ws[j].win=w
  ·exact .inr fun h2=>this ⟨h1,h2⟩
  ·exact .inl h1
 rw [this]
theorem wish_no {ws:List Co.Wi} {w s:Int} (hp:∀ (j:Nat) y,ws[j]? =some y→¬(y.win=w∧y.st=s)):Co.wish ws w s=0:=by
 unfold Co.wish
 have:ws.find? (fun x=>x.win == w && x.st == s)=none:=by
  rw [List.find?_eq_none];intro x hx;obtain ⟨j,hj⟩:=List.getElem?_of_mem hx;have:=hp j x hj;simpa using this
 rw [this]
theorem le_has_t {xs:List Int} {n:Int} {i:Nat} {x:Int} (hx:xs[i]? =some x) (e:x=n):decide (n∈xs)=true:=Jo (by rw [← e];exact Jc hx)
theorem le_has_f {xs:List Int} {n:Int} (h:∀ (j:Nat) x,xs[j]? =some x→x≠n):decide (n∈xs)=false:=Jd fun hm=>by
 obtain ⟨j,hj⟩:=List.getElem?_of_mem hm;exact h j n hj I
theorem zbL (l:List Co.Cl) (w:Int) (hl:l.length≤1000000):Con Tryz.prog 78 [lsD z7 l,iD w] (iD<|Co.fZ l w):=by
 refine z1 Tryz.func78 k9 I k9 fun base w0=>(zq<|zd I<|ze<|zh<|zq<|zd I<|ze<|SW.block<|z2 (ι:={i:Nat // i≤l.length∧∀ j < i,∀ d,l[j]? =some d→d.win≠w}) (fun i=>z6 [(0,lsD z7 l),(1,iD w),(5,iD (i.1:Int))] []) (fun i=>l.length - i.1) (⟨0,JC _,fun _ h=>absurd h<|Nat.not_lt_zero _⟩) ?_ ?_)
 ·exact (sB [] I I)
 ·rintro ⟨i,hi,hp⟩ K0 hK0;dsimp only at hi hp ⊢;refine zh (zq<|zc I<|zc I<|za I (zU (e:=61) I k9)<|za I (ya I I)<|ze<|zD I (fun hb9=> ?_) (fun hb9=> ?_))
  ·have h9:(i:Int) < (l.length:Int):=oT hb9;refine zx (zg<|zh<|SW.block<|zh ?_);obtain ⟨x,hx⟩:∃ x,l[i]? =some x:=⟨_,Je o9⟩;refine zf (zc I<|zc I<|za I (zR (e:=61) 2 I I k9 k9 o9 (by simpa using hx))<|za I (zZ (n:=0) I k9 (show 0 < 2 by decide))<|za I (zL I I k9 s9)<|zc I<|za I (y1 I I)<|ze<|zD I (fun hb18=> ?_) (fun hb18=> ?_))
   ·have h18:x.win=w:=oT hb18;refine zq (zc I<|zd I<|ze<|zE (fn:=Tryz.f78) (fun _ _ h=>h)<|Rs.le (zM I<|zo I) ?_);exact zH (by rw [Co.fZ_some hx h18 hp])
   ·have h18:¬x.win=w:=oF hb18;exact zx (SN.block<|zg<|zf<|zc I<|za I (Rd.add I I ⟨by omega,by omega⟩)<|zd I<|zy (fun aK wK hh=>hK0 (⟨i + 1,by omega,fun j hj d hd=>(Nat.lt_succ_iff_lt_or_eq.1 hj).elim (fun h=>hp j h d hd) (fun e=>by subst e;rw [hx] at hd;rw [← Option.some.inj hd];exact h18)⟩) (by dsimp only;omega) aK wK<|hh.sub<|⟨⟨_,I,⟨lq I,⟨lq I,⟨⟨_,I,zH s9⟩,t9⟩⟩⟩⟩,[],by decide,trivial⟩))
  ·have h9:¬(i:Int) < (l.length:Int):=oF hb9;refine zP ?_
   repeat (first | refine zW ?_ | refine zX d9 ?_)
   refine zY (zg<|zq<|zd I<|ze<|zE (fn:=Tryz.f78) (fun _ _ h=>h)<|Rs.le (zM I<|zo I) ?_);exact zH (by rw [Co.fZ_none fun j c hc=>hp j (by have:=(Jg.1 hc).1;omega) c hc])
theorem WU (b:Int) (l:List Co.Cl) (hl:l.length≤1000000):Con Tryz.prog 77 [iD b,lsD z7 l] (yy<|decide (Co.VC b l)):=by
 refine z1 Tryz.func77 k9 I k9 fun base w0=>(zq<|zd I<|ze<|zh<|zq<|zc I<|za I (ya I I)<|zc I<|yt 9 I (fun hb9=> ?_) (fun hb9=> ?_))
 ·have h9:b < 1:=oT hb9;refine zI hb9 (zI hb9<|za I (zC I hb9 I)<|zc I<|zI I<|zI I<|zI I<|za I (zC I I I)<|ze<|yh I I<|zq<|zd I<|ze<|zE (fn:=Tryz.f77) (fun _ _ h=>h)<|Rs.le (zM I<|zo I) ?_);exact yb (by symm;apply Jd;intro h;have h1:=h.b1;have h2:=h.b2;have h3:=h.n;omega)
 ·have h9:¬b < 1:=oF hb9;refine zN hb9 (zn I) (zN hb9 (y0 I I)<|za I (zG I hb9 I)<|zc I<|yt 13 I (fun hb13=> ?_) (fun hb13=> ?_))
  ·have h13:b > 12:=oT hb13;refine zI hb13 (zI hb13<|zI hb13<|za I (zC I hb13 I)<|ze<|yh I I<|zq<|zd I<|ze<|zE (fn:=Tryz.f77) (fun _ _ h=>h)<|Rs.le (zM I<|zo I) ?_);exact yb (by symm;apply Jd;intro h;have h1:=h.b1;have h2:=h.b2;have h3:=h.n;omega)
  ·have h13:¬b > 12:=oF hb13;refine zN hb13 (zn I) (zN hb13 (zU (e:=61) I k9)<|zN hb13 (y0 I I)<|za I (zG I hb13 I)<|ze<|zD I (fun hb17=> ?_) (fun hb17=> ?_))
   ·have h17:(l.length:Int) > 6:=oT hb17;refine zq (zd I<|ze<|zE (fn:=Tryz.f77) (fun _ _ h=>h)<|Rs.le (zM I<|zo I) ?_);exact yb (by symm;apply Jd;intro h;have h1:=h.b1;have h2:=h.b2;have h3:=h.n;omega)
   ·have h17:¬(l.length:Int) > 6:=oF hb17;refine zx (zg<|zq<|zd I<|ze<|zh<|zq<|zd I<|ze<|SW.block<|z2 (ι:={i:Nat // i≤l.length∧Co.PC l i∧Co.sC (l.take i)≤12 * (i:Int)}) (fun i=>z6 [(0,iD b),(1,lsD z7 l),(5,iD<|Co.sC<|l.take i.1),(6,iD (i.1:Int))] []) (fun i=>l.length - i.1) (⟨0,JC _,Co.PC.zero,by simp [Co.sC]⟩) ?_ ?_)
    ·exact ⟨⟨_,I,⟨lq I,⟨lq I,⟨⟨_,I,zH (by simp [Co.sC])⟩,⟨lq I,t9⟩⟩⟩⟩⟩,[],by decide,trivial⟩
    ·rintro ⟨i,hi,hp,hs⟩ K0 hK0;dsimp only at hi hp hs ⊢;have hs0:=hp.sum;refine zh (zq<|zc I<|zc I<|za I (zU (e:=61) I k9)<|za I (ya I I)<|ze<|zD I (fun hb21=> ?_) (fun hb21=> ?_))
     ·have h21:(i:Int) < (l.length:Int):=oT hb21;refine zx (zg<|zh<|SW.block<|zh<|zh ?_);obtain ⟨x,hx⟩:∃ x,l[i]? =some x:=⟨_,Je o9⟩;have hst:=Co.sC_take l i x hx;obtain ⟨y,hy⟩:∃ y,0 < i→l[i - 1]? =some y:=(by by_cases h:0 < i;exact (Kw hx h).imp fun _ h2 _=>h2;exact ⟨x,fun h2=>absurd h2 h⟩)
      refine z8 [] (rr [0,1,2,3,4,5,6,7,8,9,10,11,12,13,14,15,16,17,18,19,20,21,22,23,24,25,26,27,28,29,30,31,32,33,34,35,36,37,38,39,40,41,42,43,44,45,46,47,48] .fin) k9 k9 (fun d _ _ _ _ h=>by cases d <;> exact h) (zA I I<|zA I I<|zk I I (zR (e:=61) 2 I I k9 k9 o9 (by simpa using hx))<|zk I I (zZ (n:=0) I k9 (show 0 < 2 by decide))<|zk I I (zL I I k9 s9)<|zk I I (ya I I)<|zA I I<|yO 30 I (fun hb30=> ?_) (fun hb30=> ?_))
      ·have h30:x.win < 0:=oT hb30;refine zm I I I hb30 I I (zm I I I hb30 I I<|zm I I I hb30 I I<|zm I I I hb30 I I<|zm I I I hb30 I I<|zm I I I hb30 I I<|zk I I (zC I hb30 I)<|zA I I<|zm I I I I I I<|zm I I I I I I<|zm I I I I I I<|zm I I I I I I<|zm I I I I I I<|zm I I I I I I<|zk I I (zC I I I)<|zA I I<|zm I I I I I I<|zm I I I I I I<|zm I I I I I I<|zm I I I I I I<|zm I I I I I I<|zm I I I I I I<|zm I I I I I I<|zk I I (zC I I I)<|zA I I<|zm I I I I I I<|zm I I I I I I<|zm I I I I I I<|zB I I I I I<|zB I I I I I<|zB I I I I I<|zB I I I I I<|zB I I I I I<|zB I I I I I<|zB I I I I I<|zB I I I I I<|zB I I I I I<|zB I I I I I<|zB I I I I I<|zB I I I I I ?_);refine zm I I I I I I (zk I I (zC I I I)<|yn<|yh I I<|zq<|zd I<|ze<|zE (fn:=Tryz.f77) (fun _ _ h=>h)<|Rs.le (zM I<|zo I) ?_);exact yb (by symm;apply Jd;intro h;have h1:=(Co.PC.step hx hp).1 (h.pc<|i + 1);have h2:=h.cnt hx;have h3:=h.ok i x hx;omega)
      ·have h30:¬x.win < 0:=oF hb30;refine zu I I I hb30 I I (zn I) (zu I I I hb30 I I (zn I)<|zu I I I hb30 I I (zR (e:=61) 2 I I k9 k9 o9 (by simpa using hx))<|zu I I I hb30 I I (zZ (n:=0) I k9 (show 0 < 2 by decide))<|zu I I I hb30 I I (zL I I k9 s9)<|zu I I I hb30 I I (y0 I I)<|zk I I (zG I hb30 I)<|zA I I<|yO 38 I (fun hb38=> ?_) (fun hb38=> ?_))
       ·have h38:x.win > 31:=oT hb38;refine zm I I I hb38 I I (zm I I I hb38 I I<|zm I I I hb38 I I<|zm I I I hb38 I I<|zm I I I hb38 I I<|zm I I I hb38 I I<|zk I I (zC I hb38 I)<|zA I I<|zm I I I I I I<|zm I I I I I I<|zm I I I I I I<|zm I I I I I I<|zm I I I I I I<|zm I I I I I I<|zm I I I I I I<|zk I I (zC I I I)<|zA I I<|zm I I I I I I<|zm I I I I I I<|zm I I I I I I<|zB I I I I I<|zB I I I I I<|zB I I I I I<|zB I I I I I<|zB I I I I I<|zB I I I I I<|zB I I I I I<|zB I I I I I<|zB I I I I I<|zB I I I I I<|zB I I I I I<|zB I I I I I<|zm I I I I I I<|zk I I (zC I I I)<|yn<|yh I I<|zq<|zd I ?_);refine ze (zE (fn:=Tryz.f77) (fun _ _ h=>h)<|Rs.le (zM I<|zo I) ?_);exact yb (by symm;apply Jd;intro h;have h1:=(Co.PC.step hx hp).1 (h.pc<|i + 1);have h2:=h.cnt hx;have h3:=h.ok i x hx;omega)
       ·have h38:¬x.win > 31:=oF hb38;refine zu I I I hb38 I I (zn I) (zu I I I hb38 I I (zn I)<|zu I I I hb38 I I (zR (e:=61) 2 I I k9 k9 o9 (by simpa using hx))<|zu I I I hb38 I I (zZ (n:=1) I k9 (show 1 < 2 by decide))<|zu I I I hb38 I I (zL I I k9 s9)<|zu I I I hb38 I I (ya I I)<|zk I I (zG I hb38 I)<|zA I I<|yO 46 I (fun hb46=> ?_) (fun hb46=> ?_))
        ·have h46:x.cnt < 1:=oT hb46;refine zm I I I hb46 I I (zm I I I hb46 I I<|zm I I I hb46 I I<|zm I I I hb46 I I<|zm I I I hb46 I I<|zm I I I hb46 I I<|zm I I I hb46 I I<|zk I I (zC I hb46 I)<|zA I I<|zm I I I I I I<|zm I I I I I I<|zm I I I I I I<|zB I I I I I<|zB I I I I I<|zB I I I I I<|zB I I I I I<|zB I I I I I<|zB I I I I I<|zB I I I I I<|zB I I I I I<|zB I I I I I<|zB I I I I I<|zB I I I I I<|zB I I I I I<|zm I I I I I I<|zk I I (zC I I I)<|yn<|yh I I<|zq<|zd I<|ze<|zE (fn:=Tryz.f77) (fun _ _ h=>h)<|Rs.le (zM I<|zo I) ?_);exact yb (by symm;apply Jd;intro h;have h1:=(Co.PC.step hx hp).1 (h.pc<|i + 1);have h2:=h.cnt hx;have h3:=h.ok i x hx;omega)
        ·have h46:¬x.cnt < 1:=oF hb46;refine zu I I I hb46 I I (zn I) (zu I I I hb46 I I (zn I)<|zu I I I hb46 I I (zR (e:=61) 2 I I k9 k9 o9 (by simpa using hx))<|zu I I I hb46 I I (zZ (n:=1) I k9 (show 1 < 2 by decide))<|zu I I I hb46 I I (zL I I k9 s9)<|zu I I I hb46 I I (zn I)<|zu I I I hb46 I I (y0 I I)<|zk I I (zG I hb46 I)<|zA I I<|yO 55 I (fun hb55=> ?_) (fun hb55=> ?_))
         ·have h55:x.cnt > b:=oT hb55;refine zm I I I hb55 I I (zm I I I hb55 I I<|zm I I I hb55 I I<|zB I I I I I<|zB I I I I I<|zB I I I I I<|zB I I I I I<|zB I I I I I<|zB I I I I I<|zB I I I I I<|zB I I I I I<|zB I I I I I<|zB I I I I I<|zB I I I I I<|zB I I I I I<|zm I I I hb55 I I<|zk I I (zC I hb55 I)<|yn<|yh I I<|zq<|zd I<|ze<|zE (fn:=Tryz.f77) (fun _ _ h=>h)<|Rs.le (zM I<|zo I) ?_);exact yb (by symm;apply Jd;intro h;have h1:=(Co.PC.step hx hp).1 (h.pc<|i + 1);have h2:=h.cnt hx;have h3:=h.ok i x hx;omega)
         ·have h55:¬x.cnt > b:=oF hb55;refine zu I I I hb55 I I (zn I) (zu I I I hb55 I I (y0 I I)<|zu I I I hb55 I I (zn I)<|yO 58 I (fun hb58=> ?_) (fun hb58=> ?_))
          ·have h58:(i:Int) > 0:=oT hb58;have hy:=hy o9;refine zu I I I hb58 I I (zn I) (zu I I I hb58 I I (zn I)<|zu I I I hb58 I I (zR (e:=61) 2 I I k9 k9 o9 (by simpa using hx))<|zu I I I hb58 I I (zZ (n:=0) I k9 (show 0 < 2 by decide))<|zu I I I hb58 I I (zL I I k9 s9)<|zu I I I hb58 I I (zn I)<|zu I I I hb58 I I (zn I)<|zu I I I hb58 I I (Rd.mono (yu I I ⟨by omega,by omega⟩) (show Le _ (iD ((i - 1:Nat):Int)) from zH (by congr 1;omega)))<|zu I I I hb58 I I (zR (e:=61) 2 I I k9 k9 o9 (by rw [J7];exact hy))<|zu I I I hb58 I I (zZ (n:=0) I k9 (show 0 < 2 by decide))<|zu I I I hb58 I I (zL I I k9 s9)<|zu I I I hb58 I I (ZF I I)<|zu I I I hb55 I I (zC I hb58 I)<|zk I I (zG I hb55 I)<|yn<|zD I (fun hb72=> ?_) (fun hb72=> ?_))
           ·have h72:x.win≤y.win:=oT hb72;refine zq (zd I<|ze<|zE (fn:=Tryz.f77) (fun _ _ h=>h)<|Rs.le (zM I<|zo I) ?_);exact yb (by symm;apply Jd;intro h;have h1:=(Co.PC.step hx hp).1 (h.pc<|i + 1);rw [Vj o9 hy] at h1;omega)
           ·have h72:¬x.win≤y.win:=oF hb72;exact zx (zg<|zf<|zc I<|zc I<|zc I<|za I (zR (e:=61) 2 I I k9 k9 o9 (by simpa using hx))<|za I (zZ (n:=1) I k9 (show 1 < 2 by decide))<|za I (zL I I k9 s9)<|za I (Rd.add I I ⟨by omega,by omega⟩)<|zd I<|zy<|SN.block<|zg<|zf<|zc I<|za I (Rd.add I I ⟨by omega,by omega⟩)<|zd I<|zy (fun aK wK hh=>hK0 (⟨i + 1,by omega,(Co.PC.step hx hp).2 ⟨by rw [Vj o9 hy];omega,by omega,by omega⟩,by rw [hst];omega⟩) (by dsimp only;omega) aK wK<|hh.sub<|⟨⟨_,I,⟨lq I,⟨lq I,⟨⟨_,I,zH (by rw [hst])⟩,⟨⟨_,I,zH s9⟩,t9⟩⟩⟩⟩⟩,[],by decide,trivial⟩))
          ·have h58:¬(i:Int) > 0:=oF hb58;exact zm I I I hb58 I I (zm I I I hb58 I I<|zm I I I hb58 I I<|zm I I I hb58 I I<|zm I I I hb58 I I<|zm I I I hb58 I I<|zm I I I hb58 I I<|zm I I I hb58 I I<|zm I I I hb58 I I<|zm I I I hb58 I I<|zm I I I hb58 I I<|zm I I I hb58 I I<|zu I I I hb55 I I (zG I hb58 I)<|zk I I (zG I hb55 I)<|yn<|zK I I<|zx<|zg<|zf<|zc I<|zc I<|zc I<|za I (zR (e:=61) 2 I I k9 k9 o9 (by simpa using hx))<|za I (zZ (n:=1) I k9 (show 1 < 2 by decide))<|za I (zL I I k9 s9)<|za I (Rd.add I I ⟨by omega,by omega⟩)<|zd I<|zy<|SN.block<|zg<|zf<|zc I<|za I (Rd.add I I ⟨by omega,by omega⟩)<|zd I<|zy (fun aK wK hh=>hK0 (⟨i + 1,by omega,(Co.PC.step hx hp).2 ⟨by rw [show i=0 by omega];show (-1:Int) < x.win;omega,by omega,by omega⟩,by rw [hst];omega⟩) (by dsimp only;omega) aK wK<|hh.sub<|⟨⟨_,I,⟨lq I,⟨lq I,⟨⟨_,I,zH (by rw [hst])⟩,⟨⟨_,I,zH s9⟩,t9⟩⟩⟩⟩⟩,[],by decide,trivial⟩))
     ·have h21:¬(i:Int) < (l.length:Int):=oF hb21;refine zP ?_
      repeat (first | refine zW ?_ | refine zX d9 ?_)
      refine zY (zg<|zq<|zc I<|zc I<|za I (ZF I I)<|zd I<|ze<|zE (fn:=Tryz.f77) (fun _ _ h=>h)<|Rs.le (zM I<|zo I) ?_);exact yb (JW.2 ⟨fun h=>Co.vc_of o9 o9 o9 (show i=l.length by omega) hp h,fun h=>by have:=h.sum;rwa [Ji o9]⟩)
theorem zbF (ws:List Co.Wi) (w s:Int) (hw:ws.length≤1000000):Con Tryz.prog 42 [lsD yN ws,iD w,iD s] (iD<|Co.wish ws w s):=by
 refine z1 Tryz.func42 k9 I k9 fun base w0=>(zq<|zd I<|ze<|zh<|zq<|zd I<|ze<|SW.block<|z2 (ι:={i:Nat // i≤ws.length∧∀ j < i,∀ y,ws[j]? =some y→¬(y.win=w∧y.st=s)}) (fun i=>z6 [(0,lsD yN ws),(1,iD w),(2,iD s),(7,iD (i.1:Int))] []) (fun i=>ws.length - i.1) (⟨0,JC _,fun _ h=>absurd h<|Nat.not_lt_zero _⟩) ?_ ?_)
 ·exact (sB [] I I)
 ·rintro ⟨i,hi,hp⟩ K0 hK0;dsimp only at hi hp ⊢;refine zh (zq<|zc I<|zc I<|za I (zU (e:=63) I k9)<|za I (ya I I)<|ze<|zD I (fun hb11=> ?_) (fun hb11=> ?_))
  ·have h11:(i:Int) < (ws.length:Int):=oT hb11;refine zx (zg<|zh<|SW.block<|zh ?_);obtain ⟨x,hx⟩:∃ x,ws[i]? =some x:=⟨_,Je o9⟩;refine zf (zc I<|zc I<|za I (zR (e:=63) 3 I I k9 k9 o9 (by simpa using hx))<|za I (zZ (n:=0) I k9 (show 0 < 3 by decide))<|za I (zL I I k9 s9)<|zc I<|za I (y1 I I)<|zc I<|yt 21 I (fun hb21=> ?_) (fun hb21=> ?_))
   ·have h21:x.win=w:=oT hb21;refine zN hb21 (zn I) (zN hb21 (zn I)<|zN hb21 (zR (e:=63) 3 I I k9 k9 o9 (by simpa using hx))<|zN hb21 (zZ (n:=1) I k9 (show 1 < 3 by decide))<|zN hb21 (zL I I k9 s9)<|zN hb21 (zn I)<|zN hb21 (y1 I I)<|za I (zC I hb21 I)<|ze<|zD I (fun hb29=> ?_) (fun hb29=> ?_))
    ·have h29:x.st=s:=oT hb29;refine zq (zc I<|zc I<|za I (zR (e:=63) 3 I I k9 k9 o9 (by simpa using hx))<|za I (zZ (n:=2) I k9 (show 2 < 3 by decide))<|za I (zL I I k9 s9)<|zd I<|ze<|zE (fn:=Tryz.f42) (fun _ _ h=>h)<|Rs.le (zM I<|zo I) ?_);exact zH (by rw [wish_at hx ⟨h21,h29⟩ hp])
    ·have h29:¬x.st=s:=oF hb29;have hno:¬(x.win=w∧x.st=s):=fun h=>h29 h.2;exact zx (SN.block<|zg<|zf<|zc I<|za I (Rd.add I I ⟨by omega,by omega⟩)<|zd I<|zy (fun aK wK hh=>hK0 (⟨i + 1,by omega,fun j hj y hy=>(Nat.lt_succ_iff_lt_or_eq.1 hj).elim (fun h=>hp j h y hy) (fun e=>by subst e;rw [hx] at hy;rw [← Option.some.inj hy];exact fun h=>hno h)⟩) (by dsimp only;omega) aK wK<|hh.sub<|⟨⟨_,I,⟨lq I,⟨lq I,⟨lq I,⟨⟨_,I,zH s9⟩,t9⟩⟩⟩⟩⟩,[],by decide,trivial⟩))
   ·have h21:¬x.win=w:=oF hb21;have hno:¬(x.win=w∧x.st=s):=fun h=>h21 h.1;exact zI hb21 (zI hb21<|zI hb21<|zI hb21<|zI hb21<|zI hb21<|zI hb21<|za I (zG I hb21 I)<|ze<|zK I I<|zx<|SN.block<|zg<|zf<|zc I<|za I (Rd.add I I ⟨by omega,by omega⟩)<|zd I<|zy (fun aK wK hh=>hK0 (⟨i + 1,by omega,fun j hj y hy=>(Nat.lt_succ_iff_lt_or_eq.1 hj).elim (fun h=>hp j h y hy) (fun e=>by subst e;rw [hx] at hy;rw [← Option.some.inj hy];exact fun h=>hno h)⟩) (by dsimp only;omega) aK wK<|hh.sub<|⟨⟨_,I,⟨lq I,⟨lq I,⟨lq I,⟨⟨_,I,zH s9⟩,t9⟩⟩⟩⟩⟩,[],by decide,trivial⟩))
  ·have h11:¬(i:Int) < (ws.length:Int):=oF hb11;refine zP ?_
   repeat (first | refine zW ?_ | refine zX d9 ?_)
   refine zY (zg<|zq<|zd I<|ze<|zE (fn:=Tryz.f42) (fun _ _ h=>h)<|Rs.le (zM I<|zo I) ?_);exact zH (by rw [wish_no fun j y hy=>hp j (by have:=(Jg.1 hy).1;omega) y hy])
theorem con_has39 (xs:List Int) (n:Int) (hl:xs.length≤1000000):Con Tryz.prog 119 [lsD yd xs,iD n] (yy<|decide (n∈xs)):=by
 refine z1 Tryz.func119 k9 I k9 fun base w0=>(zq<|zd I<|ze<|zh<|zq<|zd I<|ze<|SW.block<|z2 (ι:={i:Nat // i≤xs.length∧∀ j < i,∀ y,xs[j]? =some y→y≠n}) (fun i=>z6 [(0,lsD yd xs),(1,iD n),(5,iD (i.1:Int))] []) (fun i=>xs.length - i.1) (⟨0,JC _,fun _ h=>absurd h<|Nat.not_lt_zero _⟩) ?_ ?_)
 ·exact (sB [] I I)
 ·rintro ⟨i,hi,hp⟩ K0 hK0;dsimp only at hi hp ⊢;refine zh (zq<|zc I<|zc I<|za I (zU (e:=3) I k9)<|za I (ya I I)<|ze<|zD I (fun hb9=> ?_) (fun hb9=> ?_))
  ·have h9:(i:Int) < (xs.length:Int):=oT hb9;refine zx (zg<|zh<|SW.block<|zh ?_);obtain ⟨x,hx⟩:∃ x,xs[i]? =some x:=⟨_,Je o9⟩;refine zf (zc I<|zc I<|za I (zR (e:=3) 1 I I k9 k9 o9 (by simpa using hx))<|za I (zL I I k9 s9)<|zc I<|za I (y1 I I)<|ze<|zD I (fun hb17=> ?_) (fun hb17=> ?_))
   ·have h17:x=n:=oT hb17;refine zq (zd I<|ze<|zE (fn:=Tryz.f119) (fun _ _ h=>h)<|Rs.le (zM I<|zo I) ?_);exact yb (le_has_t hx h17).symm
   ·have h17:¬x=n:=oF hb17;exact zx (SN.block<|zg<|zf<|zc I<|za I (Rd.add I I ⟨by omega,by omega⟩)<|zd I<|zy (fun aK wK hh=>hK0 (⟨i + 1,by omega,fun j hj y hy=>(Nat.lt_succ_iff_lt_or_eq.1 hj).elim (fun h=>hp j h y hy) (fun e=>by subst e;rw [hx] at hy;rw [← Option.some.inj hy];exact h17)⟩) (by dsimp only;omega) aK wK<|hh.sub<|⟨⟨_,I,⟨lq I,⟨lq I,⟨⟨_,I,zH s9⟩,t9⟩⟩⟩⟩,[],by decide,trivial⟩))
  ·have h9:¬(i:Int) < (xs.length:Int):=oF hb9;refine zP ?_
   repeat (first | refine zW ?_ | refine zX d9 ?_)
   refine zY (zg<|zq<|zd I<|ze<|zE (fn:=Tryz.f119) (fun _ _ h=>h)<|Rs.le (zM I<|zo I) ?_);exact yb (le_has_f fun j y hy=>hp j (by have:=(Jg.1 hy).1;omega) y hy).symm
theorem con_among (b:Int) (l:List Co.Cl) (W:List Int) (hl:l.length≤1000000) (hW:W.length≤1000000) (hs:∀ (i:Nat) x y,W[i]? =some x→W[i + 1]? =some y→x < y) (hm:∀ (i:Nat) x,W[i]? =some x→∃ m,Co.fC l x=some m):Con Tryz.prog 79 [lsD z7 l,lsD yd W] (iD 0):=by
 refine z1 Tryz.func79 k9 I k9 fun base w0=>(zq<|zd I<|ze<|zh<|zq<|zd I<|ze<|SW.block<|z2 (ι:={i:Nat // 1≤i∧(i≤W.length∨i=1)}) (fun i=>z6 [(0,lsD z7 l),(1,lsD yd W),(5,iD (i.1:Int))] []) (fun i=>W.length - i.1) (⟨1,Js _,.inr I⟩) ?_ ?_)
 ·exact (sB [] I I)
 ·rintro ⟨i,hi,hi2⟩ K0 hK0;dsimp only at hi hi2 ⊢;refine zh (zq<|zc I<|zc I<|za I (zU (e:=3) I k9)<|za I (ya I I)<|ze<|zD I (fun hb10=> ?_) (fun hb10=> ?_))
  ·have h10:(i:Int) < (W.length:Int):=oT hb10;refine zx (zg<|zh<|SW.block<|zh ?_);obtain ⟨x,hx⟩:∃ x,W[i]? =some x:=⟨_,Je o9⟩;obtain ⟨y,hy⟩:=Kw hx o9;have hlt:=hs (i - 1) y x hy (by rw [show i - 1 + 1=i by omega];exact hx)
   exact z8 [] (rr [0,1,2,3,4,5,6,7,8,9] .fin) k9 k9 (fun d _ _ _ _ h=>by cases d <;> exact h) (zA I I<|zA I I<|zk I I (zR (e:=3) 1 I I k9 k9 o9 (by simpa using hx))<|zk I I (zL I I k9 s9)<|zA I I<|zA I I<|zk I I (Rd.mono (yu I I ⟨by omega,by omega⟩) (show Le _ (iD ((i - 1:Nat):Int)) from zH (by congr 1;omega)))<|zk I I (zR (e:=3) 1 I I k9 k9 o9 (by simpa using hy))<|zk I I (zL I I k9 s9)<|zk I I (ZF I I)<|yn<|zK I (decide_eq_false o9)<|zx<|SN.block<|zg<|zf<|zc I<|za I (Rd.add I I ⟨by omega,by omega⟩)<|zd I<|zy (fun aK wK hh=>hK0 (⟨i + 1,by omega,by omega⟩) (by dsimp only;omega) aK wK<|hh.sub<|⟨⟨_,I,⟨lq I,⟨lq I,⟨⟨_,I,zH s9⟩,t9⟩⟩⟩⟩,[],by decide,trivial⟩))
  ·have h10:¬(i:Int) < (W.length:Int):=oF hb10;refine zP ?_
   repeat (first | refine zW ?_ | refine zX d9 ?_)
   refine zY (zg<|zh<|zq<|zd I<|ze<|SW.block<|z2 (ι:={i:Nat // i≤W.length}) (fun i=>z6 [(0,lsD z7 l),(1,lsD yd W),(6,iD (i.1:Int))] []) (fun i=>W.length - i.1) (⟨0,JC _⟩) ?_ ?_)
   ·exact (sB [] I I)
   ·rintro ⟨i,hi⟩ K1 hK1;dsimp only at hi ⊢;refine zh (zq<|zc I<|zc I<|za I (zU (e:=3) I k9)<|za I (ya I I)<|ze<|zD I (fun hb26=> ?_) (fun hb26=> ?_))
    ·have h26:(i:Int) < (W.length:Int):=oT hb26;refine zx (zg<|zh<|SW.block<|zh ?_);obtain ⟨x,hx⟩:∃ x,W[i]? =some x:=⟨_,Je o9⟩;obtain ⟨m,hfm⟩:=hm i x hx
     have hfz:Co.fZ l x=(m:Int):=by rw [Co.fZ,hfm]
     exact zf (zc I<|zc I<|zc I<|za I (zR (e:=3) 1 I I k9 k9 o9 (by simpa using hx))<|za I (zL I I k9 s9)<|zt (S:=[]) (zl (zbL l x hl) I ⟨zb _,zb _,t9⟩ I)<|za I (ya I I)<|ze<|zK I (decide_eq_false o9)<|zx<|SN.block<|zg<|zf<|zc I<|za I (Rd.add I I ⟨by omega,by omega⟩)<|zd I<|zy (fun aK wK hh=>hK1 (⟨i + 1,by omega⟩) (by dsimp only;omega) aK wK<|hh.sub<|⟨⟨_,I,⟨lq I,⟨lq I,⟨⟨_,I,zH s9⟩,t9⟩⟩⟩⟩,[],by decide,trivial⟩))
    ·have h26:¬(i:Int) < (W.length:Int):=oF hb26;refine zP ?_
     repeat (first | refine zW ?_ | refine zX d9 ?_)
     refine zY (zg<|zq<|zd I<|ze<|zE (fn:=Tryz.f79) (fun _ _ h=>h)<|Rs.le (zM I<|zo I) ?_);exact zb _
