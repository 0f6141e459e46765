/- REFERENCE 39: Find, Valid, Wish, Has, Among. -/
import Derived.Test.YtmflnfnebmbjkaaGreatGZBB
set_option maxHeartbeats 8000000
set_option maxRecDepth 100000
namespace Go.Proofs.YtmflnfnebmbjkaaGreat
open Go.RowKit
namespace Sx
def Y6 (x:Bool):List D:=[yK x]
instance:Row Y6 1:=⟨fun _=>rfl,fun x=>by unfold Y6;infer_instance,by decide⟩
def nI (a:LN):List Int:=a.map fun x:Nat=>(x:Int)
theorem Kh {α:Type} {l:List α} {i:Nat} {x:α} (hx:l[i]? =some x) (h:0 < i):∃ y,l[i - 1]? =some y:=by
 have:=(Jg.1 hx).1;exact ⟨_,Je o9⟩
theorem KX {l:List Co.Cl} {i:Nat} {y:Co.Cl} (h:0 < i) (hy:l[i - 1]? =some y):Co.lastW l i=y.win:=by
 obtain ⟨k,rfl⟩:∃ k,i=k + 1:=⟨i - 1,by omega⟩;exact Co.wnO_get hy
theorem wish_at {ws:List Co.Wi} {w s:Int} {i:Nat} {x:Co.Wi} (hx:ws[i]? =some x) (h:x.win=w∧x.st=s) (hp:∀ j < i,∀ y,ws[j]? =some y→¬(y.win=w∧y.st=s)):Co.wish ws w s=x.val:=by
 obtain ⟨hlt,he⟩:=Jg.1 hx;unfold Co.wish
 have:ws.find? (fun x=>x.win == w && x.st == s)=some x:=by
  rw [List.find?_eq_some_iff_getElem];refine ⟨by simp [h.1,h.2],i,hlt,he,fun j hj=> ?_⟩;have:=hp j hj _ (Je o9);simp only [XF,Bool.and_eq_false_iff,Xb]
  by_cases h1:ws[j].win=w
  ·exact .inr fun h2=>this ⟨h1,h2⟩
  ·exact .inl h1
 rw [this]
theorem wish_no {ws:List Co.Wi} {w s:Int} (hp:∀ (j:Nat) y,ws[j]? =some y→¬(y.win=w∧y.st=s)):Co.wish ws w s=0:=by
 unfold Co.wish
 have:ws.find? (fun x=>x.win == w && x.st == s)=none:=by
  rw [List.find?_eq_none];intro x hx;obtain ⟨j,hj⟩:=List.getElem?_of_mem hx;have:=hp j x hj;simpa using this
 rw [this]
theorem le_has_t {xs:List Int} {n:Int} {i:Nat} {x:Int} (hx:xs[i]? =some x) (e:x=n):decide (n∈xs)=true:=Jo (by rw [← e];exact Jc hx)
theorem le_has_f {xs:List Int} {n:Int} (h:∀ (j:Nat) x,xs[j]? =some x→x≠n):decide (n∈xs)=false:=Jd fun hm=>by
 obtain ⟨j,hj⟩:=List.getElem?_of_mem hm;exact h j n hj I
theorem zbj (l:List Co.Cl) (w:Int) (hl:l.length≤1000000):Con Tryz.prog 78 [lsD yc l,iD w] (iD<|Co.fZ l w):=by
 refine z6 Tryz.func78 k9 I k9 fun base w0=>(zp<|zd I<|ze<|zh<|zp<|zd I<|ze<|SW.block<|z1 (ι:={i:Nat // i≤l.length∧∀ j < i,∀ d,l[j]? =some d→d.win≠w}) (fun i=>z8 [(0,lsD yc l),(1,iD w),(5,iD (i.1:Int))] []) (fun i=>l.length - i.1) (⟨0,JC _,fun _ h=>absurd h<|Nat.not_lt_zero _⟩) ?_ ?_)
 ·exact (sB [] I I)
 ·rintro ⟨i,hi,hp⟩ K0 hK0;dsimp only at hi hp ⊢;refine zh (zp<|zc I<|zc I<|za I (zY (e:=61) I k9)<|za I (ya I I)<|ze<|zD I (fun hb9=> ?_) (fun hb9=> ?_))
  ·have h9:(i:Int) < (l.length:Int):=oT hb9;refine zw (zg<|zh<|SW.block<|zh ?_);obtain ⟨x,hx⟩:∃ x,l[i]? =some x:=⟨_,Je o9⟩;refine zf (zc I<|zc I<|za I (zQ (e:=61) 2 I I k9 k9 o9 (by simpa using hx))<|za I (z7 (n:=0) I k9 (show 0 < 2 by decide))<|za I (zK I I k9 s9)<|zc I<|za I (yS I I)<|ze<|zD I (fun hb18=> ?_) (fun hb18=> ?_))
   ·have h18:x.win=w:=oT hb18;refine zp (zc I<|zd I<|ze<|zG (fn:=Tryz.f78) (fun _ _ h=>h)<|Rs.le (zN I<|zo I) ?_);exact zE (by rw [Co.fZ_some hx h18 hp])
   ·have h18:¬x.win=w:=oF hb18;exact zw (SN.block<|zg<|zf<|zc I<|za I (Rd.add I I ⟨by omega,by omega⟩)<|zd I<|zv (fun aK wK hh=>hK0 (⟨i + 1,by omega,fun j hj d hd=>(Nat.lt_succ_iff_lt_or_eq.1 hj).elim (fun h=>hp j h d hd) (fun e=>by subst e;rw [hx] at hd;rw [← Option.some.inj hd];exact h18)⟩) (by dsimp only;omega) aK wK<|hh.sub<|⟨⟨_,I,⟨lq I,⟨lq I,⟨⟨_,I,zE s9⟩,t9⟩⟩⟩⟩,[],by decide,trivial⟩))
  ·have h9:¬(i:Int) < (l.length:Int):=oF hb9;refine zL ?_
   repeat (first | refine zV ?_ | refine zW d9 ?_)
   refine zX (zg<|zp<|zd I<|ze<|zG (fn:=Tryz.f78) (fun _ _ h=>h)<|Rs.le (zN I<|zo I) ?_);exact zE (by rw [Co.fZ_none fun j c hc=>hp j (by have:=(Jg.1 hc).1;omega) c hc])
theorem Wz (b:Int) (l:List Co.Cl) (hl:l.length≤1000000):Con Tryz.prog 77 [iD b,lsD yc l] (yK<|decide (Co.VC b l)):=by
 refine z6 Tryz.func77 k9 I k9 fun base w0=>(zp<|zd I<|ze<|zh<|zp<|zc I<|za I (ya I I)<|zc I<|yn 9 I (fun hb9=> ?_) (fun hb9=> ?_))
 ·have h9:b < 1:=oT hb9;refine zR hb9 (zR hb9<|za I (zF I hb9 I)<|zc I<|zR I<|zR I<|zR I<|za I (zF I I I)<|ze<|yg I I<|zp<|zd I<|ze<|zG (fn:=Tryz.f77) (fun _ _ h=>h)<|Rs.le (zN I<|zo I) ?_);exact yb (by symm;apply Jd;intro h;have h1:=h.b1;have h2:=h.b2;have h3:=h.n;omega)
 ·have h9:¬b < 1:=oF hb9;refine zU hb9 (zl I) (zU hb9 (y6 I I)<|za I (zM I hb9 I)<|zc I<|yn 13 I (fun hb13=> ?_) (fun hb13=> ?_))
  ·have h13:b > 12:=oT hb13;refine zR hb13 (zR hb13<|zR hb13<|za I (zF I hb13 I)<|ze<|yg I I<|zp<|zd I<|ze<|zG (fn:=Tryz.f77) (fun _ _ h=>h)<|Rs.le (zN I<|zo I) ?_);exact yb (by symm;apply Jd;intro h;have h1:=h.b1;have h2:=h.b2;have h3:=h.n;omega)
  ·have h13:¬b > 12:=oF hb13;refine zU hb13 (zl I) (zU hb13 (zY (e:=61) I k9)<|zU hb13 (y6 I I)<|za I (zM I hb13 I)<|ze<|zD I (fun hb17=> ?_) (fun hb17=> ?_))
   ·have h17:(l.length:Int) > 6:=oT hb17;refine zp (zd I<|ze<|zG (fn:=Tryz.f77) (fun _ _ h=>h)<|Rs.le (zN I<|zo I) ?_);exact yb (by symm;apply Jd;intro h;have h1:=h.b1;have h2:=h.b2;have h3:=h.n;omega)
   ·have h17:¬(l.length:Int) > 6:=oF hb17;refine zw (zg<|zp<|zd I<|ze<|zh<|zp<|zd I<|ze<|SW.block<|z1 (ι:={i:Nat // i≤l.length∧Co.PC l i∧Co.sC (l.take i)≤12 * (i:Int)}) (fun i=>z8 [(0,iD b),(1,lsD yc l),(5,iD<|Co.sC<|l.take i.1),(6,iD (i.1:Int))] []) (fun i=>l.length - i.1) (⟨0,JC _,Co.PC.zero,by simp [Co.sC]⟩) ?_ ?_)
    ·exact ⟨⟨_,I,⟨lq I,⟨lq I,⟨⟨_,I,zE (by simp [Co.sC])⟩,⟨lq I,t9⟩⟩⟩⟩⟩,[],by decide,trivial⟩
    ·rintro ⟨i,hi,hp,hs⟩ K0 hK0;dsimp only at hi hp hs ⊢;have hs0:=hp.sum;refine zh (zp<|zc I<|zc I<|za I (zY (e:=61) I k9)<|za I (ya I I)<|ze<|zD I (fun hb21=> ?_) (fun hb21=> ?_))
     ·have h21:(i:Int) < (l.length:Int):=oT hb21;refine zw (zg<|zh<|SW.block<|zh<|zh ?_);obtain ⟨x,hx⟩:∃ x,l[i]? =some x:=⟨_,Je o9⟩;have hst:=Co.sC_take l i x hx;obtain ⟨y,hy⟩:∃ y,0 < i→l[i - 1]? =some y:=(by by_cases h:0 < i;exact (Kh hx h).imp fun _ h2 _=>h2;exact ⟨x,fun h2=>absurd h2 h⟩)
      refine yf [] (rr [0,1,2,3,4,5,6,7,8,9,10,11,12,13,14,15,16,17,18,19,20,21,22,23,24,25,26,27,28,29,30,31,32,33,34,35,36,37,38,39,40,41,42,43,44,45,46,47,48] .fin) k9 k9 (fun d _ _ _ _ h=>by cases d <;> exact h) (zC I I<|zC I I<|zj I I (zQ (e:=61) 2 I I k9 k9 o9 (by simpa using hx))<|zj I I (z7 (n:=0) I k9 (show 0 < 2 by decide))<|zj I I (zK I I k9 s9)<|zj I I (ya I I)<|zC I I<|yL 30 I (fun hb30=> ?_) (fun hb30=> ?_))
      ·have h30:x.win < 0:=oT hb30;refine zk I I I hb30 I I (zk I I I hb30 I I<|zk I I I hb30 I I<|zk I I I hb30 I I<|zk I I I hb30 I I<|zk I I I hb30 I I<|zj I I (zF I hb30 I)<|zC I I<|zk I I I I I I<|zk I I I I I I<|zk I I I I I I<|zk I I I I I I<|zk I I I I I I<|zk I I I I I I<|zj I I (zF I I I)<|zC I I<|zk I I I I I I<|zk I I I I I I<|zk I I I I I I<|zk I I I I I I<|zk I I I I I I<|zk I I I I I I<|zk I I I I I I<|zj I I (zF I I I)<|zC I I<|zk I I I I I I<|zk I I I I I I<|zk I I I I I I<|zA I I I I I<|zA I I I I I<|zA I I I I I<|zA I I I I I<|zA I I I I I<|zA I I I I I<|zA I I I I I<|zA I I I I I<|zA I I I I I<|zA I I I I I<|zA I I I I I<|zA I I I I I ?_);refine zk I I I I I I (zj I I (zF I I I)<|yu<|yg I I<|zp<|zd I<|ze<|zG (fn:=Tryz.f77) (fun _ _ h=>h)<|Rs.le (zN I<|zo I) ?_);exact yb (by symm;apply Jd;intro h;have h1:=(Co.PC.step hx hp).1 (h.pc<|i + 1);have h2:=h.cnt hx;have h3:=h.ok i x hx;omega)
      ·have h30:¬x.win < 0:=oF hb30;refine zu I I I hb30 I I (zl I) (zu I I I hb30 I I (zl I)<|zu I I I hb30 I I (zQ (e:=61) 2 I I k9 k9 o9 (by simpa using hx))<|zu I I I hb30 I I (z7 (n:=0) I k9 (show 0 < 2 by decide))<|zu I I I hb30 I I (zK I I k9 s9)<|zu I I I hb30 I I (y6 I I)<|zj I I (zM I hb30 I)<|zC I I<|yL 38 I (fun hb38=> ?_) (fun hb38=> ?_))
       ·have h38:x.win > 31:=oT hb38;refine zk I I I hb38 I I (zk I I I hb38 I I<|zk I I I hb38 I I<|zk I I I hb38 I I<|zk I I I hb38 I I<|zk I I I hb38 I I<|zj I I (zF I hb38 I)<|zC I I<|zk I I I I I I<|zk I I I I I I<|zk I I I I I I<|zk I I I I I I<|zk I I I I I I<|zk I I I I I I<|zk I I I I I I<|zj I I (zF I I I)<|zC I I<|zk I I I I I I<|zk I I I I I I<|zk I I I I I I<|zA I I I I I<|zA I I I I I<|zA I I I I I<|zA I I I I I<|zA I I I I I<|zA I I I I I<|zA I I I I I<|zA I I I I I<|zA I I I I I<|zA I I I I I<|zA I I I I I<|zA I I I I I<|zk I I I I I I<|zj I I (zF I I I)<|yu<|yg I I<|zp<|zd I ?_);refine ze (zG (fn:=Tryz.f77) (fun _ _ h=>h)<|Rs.le (zN I<|zo I) ?_);exact yb (by symm;apply Jd;intro h;have h1:=(Co.PC.step hx hp).1 (h.pc<|i + 1);have h2:=h.cnt hx;have h3:=h.ok i x hx;omega)
       ·have h38:¬x.win > 31:=oF hb38;refine zu I I I hb38 I I (zl I) (zu I I I hb38 I I (zl I)<|zu I I I hb38 I I (zQ (e:=61) 2 I I k9 k9 o9 (by simpa using hx))<|zu I I I hb38 I I (z7 (n:=1) I k9 (show 1 < 2 by decide))<|zu I I I hb38 I I (zK I I k9 s9)<|zu I I I hb38 I I (ya I I)<|zj I I (zM I hb38 I)<|zC I I<|yL 46 I (fun hb46=> ?_) (fun hb46=> ?_))
        ·have h46:x.cnt < 1:=oT hb46;refine zk I I I hb46 I I (zk I I I hb46 I I<|zk I I I hb46 I I<|zk I I I hb46 I I<|zk I I I hb46 I I<|zk I I I hb46 I I<|zk I I I hb46 I I<|zj I I (zF I hb46 I)<|zC I I<|zk I I I I I I<|zk I I I I I I<|zk I I I I I I<|zA I I I I I<|zA I I I I I<|zA I I I I I<|zA I I I I I<|zA I I I I I<|zA I I I I I<|zA I I I I I<|zA I I I I I<|zA I I I I I<|zA I I I I I<|zA I I I I I<|zA I I I I I<|zk I I I I I I<|zj I I (zF I I I)<|yu<|yg I I<|zp<|zd I<|ze<|zG (fn:=Tryz.f77) (fun _ _ h=>h)<|Rs.le (zN I<|zo I) ?_);exact yb (by symm;apply Jd;intro h;have h1:=(Co.PC.step hx hp).1 (h.pc<|i + 1);have h2:=h.cnt hx;have h3:=h.ok i x hx;omega)
        ·have h46:¬x.cnt < 1:=oF hb46;refine zu I I I hb46 I I (zl I) (zu I I I hb46 I I (zl I)<|zu I I I hb46 I I (zQ (e:=61) 2 I I k9 k9 o9 (by simpa using hx))<|zu I I I hb46 I I (z7 (n:=1) I k9 (show 1 < 2 by decide))<|zu I I I hb46 I I (zK I I k9 s9)<|zu I I I hb46 I I (zl I)<|zu I I I hb46 I I (y6 I I)<|zj I I (zM I hb46 I)<|zC I I<|yL 55 I (fun hb55=> ?_) (fun hb55=> ?_))
         ·have h55:x.cnt > b:=oT hb55;refine zk I I I hb55 I I (zk I I I hb55 I I<|zk I I I hb55 I I<|zA I I I I I<|zA I I I I I<|zA I I I I I<|zA I I I I I<|zA I I I I I<|zA I I I I I<|zA I I I I I<|zA I I I I I<|zA I I I I I<|zA I I I I I<|zA I I I I I<|zA I I I I I<|zk I I I hb55 I I<|zj I I (zF I hb55 I)<|yu<|yg I I<|zp<|zd I<|ze<|zG (fn:=Tryz.f77) (fun _ _ h=>h)<|Rs.le (zN I<|zo I) ?_);exact yb (by symm;apply Jd;intro h;have h1:=(Co.PC.step hx hp).1 (h.pc<|i + 1);have h2:=h.cnt hx;have h3:=h.ok i x hx;omega)
         ·have h55:¬x.cnt > b:=oF hb55;refine zu I I I hb55 I I (zl I) (zu I I I hb55 I I (y6 I I)<|zu I I I hb55 I I (zl I)<|yL 58 I (fun hb58=> ?_) (fun hb58=> ?_))
          ·have h58:(i:Int) > 0:=oT hb58;have hy:=hy o9;refine zu I I I hb58 I I (zl I) (zu I I I hb58 I I (zl I)<|zu I I I hb58 I I (zQ (e:=61) 2 I I k9 k9 o9 (by simpa using hx))<|zu I I I hb58 I I (z7 (n:=0) I k9 (show 0 < 2 by decide))<|zu I I I hb58 I I (zK I I k9 s9)<|zu I I I hb58 I I (zl I)<|zu I I I hb58 I I (zl I)<|zu I I I hb58 I I (Rd.mono (yl I I ⟨by omega,by omega⟩) (show Le _ (iD ((i - 1:Nat):Int)) from zE (by congr 1;omega)))<|zu I I I hb58 I I (zQ (e:=61) 2 I I k9 k9 o9 (by rw [J7];exact hy))<|zu I I I hb58 I I (z7 (n:=0) I k9 (show 0 < 2 by decide))<|zu I I I hb58 I I (zK I I k9 s9)<|zu I I I hb58 I I (ZC I I)<|zu I I I hb55 I I (zF I hb58 I)<|zj I I (zM I hb55 I)<|yu<|zD I (fun hb72=> ?_) (fun hb72=> ?_))
           ·have h72:x.win≤y.win:=oT hb72;refine zp (zd I<|ze<|zG (fn:=Tryz.f77) (fun _ _ h=>h)<|Rs.le (zN I<|zo I) ?_);exact yb (by symm;apply Jd;intro h;have h1:=(Co.PC.step hx hp).1 (h.pc<|i + 1);rw [KX o9 hy] at h1;omega)
           ·have h72:¬x.win≤y.win:=oF hb72;exact zw (zg<|zf<|zc I<|zc I<|zc I<|za I (zQ (e:=61) 2 I I k9 k9 o9 (by simpa using hx))<|za I (z7 (n:=1) I k9 (show 1 < 2 by decide))<|za I (zK I I k9 s9)<|za I (Rd.add I I ⟨by omega,by omega⟩)<|zd I<|zv<|SN.block<|zg<|zf<|zc I<|za I (Rd.add I I ⟨by omega,by omega⟩)<|zd I<|zv (fun aK wK hh=>hK0 (⟨i + 1,by omega,(Co.PC.step hx hp).2 ⟨by rw [KX o9 hy];omega,by omega,by omega⟩,by rw [hst];omega⟩) (by dsimp only;omega) aK wK<|hh.sub<|⟨⟨_,I,⟨lq I,⟨lq I,⟨⟨_,I,zE (by rw [hst])⟩,⟨⟨_,I,zE s9⟩,t9⟩⟩⟩⟩⟩,[],by decide,trivial⟩))
          ·have h58:¬(i:Int) > 0:=oF hb58;exact zk I I I hb58 I I (zk I I I hb58 I I<|zk I I I hb58 I I<|zk I I I hb58 I I<|zk I I I hb58 I I<|zk I I I hb58 I I<|zk I I I hb58 I I<|zk I I I hb58 I I<|zk I I I hb58 I I<|zk I I I hb58 I I<|zk I I I hb58 I I<|zk I I I hb58 I I<|zu I I I hb55 I I (zM I hb58 I)<|zj I I (zM I hb55 I)<|yu<|zJ I I<|zw<|zg<|zf<|zc I<|zc I<|zc I<|za I (zQ (e:=61) 2 I I k9 k9 o9 (by simpa using hx))<|za I (z7 (n:=1) I k9 (show 1 < 2 by decide))<|za I (zK I I k9 s9)<|za I (Rd.add I I ⟨by omega,by omega⟩)<|zd I<|zv<|SN.block<|zg<|zf<|zc I<|za I (Rd.add I I ⟨by omega,by omega⟩)<|zd I<|zv (fun aK wK hh=>hK0 (⟨i + 1,by omega,(Co.PC.step hx hp).2 ⟨by rw [show i=0 by omega];show (-1:Int) < x.win;omega,by omega,by omega⟩,by rw [hst];omega⟩) (by dsimp only;omega) aK wK<|hh.sub<|⟨⟨_,I,⟨lq I,⟨lq I,⟨⟨_,I,zE (by rw [hst])⟩,⟨⟨_,I,zE s9⟩,t9⟩⟩⟩⟩⟩,[],by decide,trivial⟩))
     ·have h21:¬(i:Int) < (l.length:Int):=oF hb21;refine zL ?_
      repeat (first | refine zV ?_ | refine zW d9 ?_)
      refine zX (zg<|zp<|zc I<|zc I<|za I (ZC I I)<|zd I<|ze<|zG (fn:=Tryz.f77) (fun _ _ h=>h)<|Rs.le (zN I<|zo I) ?_);exact yb (JW.2 ⟨fun h=>Co.vc_of o9 o9 o9 (show i=l.length by omega) hp h,fun h=>by have:=h.sum;rwa [Ji o9]⟩)
theorem zbc (ws:List Co.Wi) (w s:Int) (hw:ws.length≤1000000):Con Tryz.prog 42 [lsD yJ ws,iD w,iD s] (iD<|Co.wish ws w s):=by
 refine z6 Tryz.func42 k9 I k9 fun base w0=>(zp<|zd I<|ze<|zh<|zp<|zd I<|ze<|SW.block<|z1 (ι:={i:Nat // i≤ws.length∧∀ j < i,∀ y,ws[j]? =some y→¬(y.win=w∧y.st=s)}) (fun i=>z8 [(0,lsD yJ ws),(1,iD w),(2,iD s),(7,iD (i.1:Int))] []) (fun i=>ws.length - i.1) (⟨0,JC _,fun _ h=>absurd h<|Nat.not_lt_zero _⟩) ?_ ?_)
 ·exact (sB [] I I)
 ·rintro ⟨i,hi,hp⟩ K0 hK0;dsimp only at hi hp ⊢;refine zh (zp<|zc I<|zc I<|za I (zY (e:=63) I k9)<|za I (ya I I)<|ze<|zD I (fun hb11=> ?_) (fun hb11=> ?_))
  ·have h11:(i:Int) < (ws.length:Int):=oT hb11;refine zw (zg<|zh<|SW.block<|zh ?_);obtain ⟨x,hx⟩:∃ x,ws[i]? =some x:=⟨_,Je o9⟩;refine zf (zc I<|zc I<|za I (zQ (e:=63) 3 I I k9 k9 o9 (by simpa using hx))<|za I (z7 (n:=0) I k9 (show 0 < 3 by decide))<|za I (zK I I k9 s9)<|zc I<|za I (yS I I)<|zc I<|yn 21 I (fun hb21=> ?_) (fun hb21=> ?_))
   ·have h21:x.win=w:=oT hb21;refine zU hb21 (zl I) (zU hb21 (zl I)<|zU hb21 (zQ (e:=63) 3 I I k9 k9 o9 (by simpa using hx))<|zU hb21 (z7 (n:=1) I k9 (show 1 < 3 by decide))<|zU hb21 (zK I I k9 s9)<|zU hb21 (zl I)<|zU hb21 (yS I I)<|za I (zF I hb21 I)<|ze<|zD I (fun hb29=> ?_) (fun hb29=> ?_))
    ·have h29:x.st=s:=oT hb29;refine zp (zc I<|zc I<|za I (zQ (e:=63) 3 I I k9 k9 o9 (by simpa using hx))<|za I (z7 (n:=2) I k9 (show 2 < 3 by decide))<|za I (zK I I k9 s9)<|zd I<|ze<|zG (fn:=Tryz.f42) (fun _ _ h=>h)<|Rs.le (zN I<|zo I) ?_);exact zE (by rw [wish_at hx ⟨h21,h29⟩ hp])
    ·have h29:¬x.st=s:=oF hb29;have hno:¬(x.win=w∧x.st=s):=fun h=>h29 h.2;exact zw (SN.block<|zg<|zf<|zc I<|za I (Rd.add I I ⟨by omega,by omega⟩)<|zd I<|zv (fun aK wK hh=>hK0 (⟨i + 1,by omega,fun j hj y hy=>(Nat.lt_succ_iff_lt_or_eq.1 hj).elim (fun h=>hp j h y hy) (fun e=>by subst e;rw [hx] at hy;rw [← Option.some.inj hy];exact fun h=>hno h)⟩) (by dsimp only;omega) aK wK<|hh.sub<|⟨⟨_,I,⟨lq I,⟨lq I,⟨lq I,⟨⟨_,I,zE s9⟩,t9⟩⟩⟩⟩⟩,[],by decide,trivial⟩))
   ·have h21:¬x.win=w:=oF hb21;have hno:¬(x.win=w∧x.st=s):=fun h=>h21 h.1;exact zR hb21 (zR hb21<|zR hb21<|zR hb21<|zR hb21<|zR hb21<|zR hb21<|za I (zM I hb21 I)<|ze<|zJ I I<|zw<|SN.block<|zg<|zf<|zc I<|za I (Rd.add I I ⟨by omega,by omega⟩)<|zd I<|zv (fun aK wK hh=>hK0 (⟨i + 1,by omega,fun j hj y hy=>(Nat.lt_succ_iff_lt_or_eq.1 hj).elim (fun h=>hp j h y hy) (fun e=>by subst e;rw [hx] at hy;rw [← Option.some.inj hy];exact fun h=>hno h)⟩) (by dsimp only;omega) aK wK<|hh.sub<|⟨⟨_,I,⟨lq I,⟨lq I,⟨lq I,⟨⟨_,I,zE s9⟩,t9⟩⟩⟩⟩⟩,[],by decide,trivial⟩))
  ·have h11:¬(i:Int) < (ws.length:Int):=oF hb11;refine zL ?_
   repeat (first | refine zV ?_ | refine zW d9 ?_)
   refine zX (zg<|zp<|zd I<|ze<|zG (fn:=Tryz.f42) (fun _ _ h=>h)<|Rs.le (zN I<|zo I) ?_);exact zE (by rw [wish_no fun j y hy=>hp j (by have:=(Jg.1 hy).1;omega) y hy])
theorem con_has39 (xs:List Int) (n:Int) (hl:xs.length≤1000000):Con Tryz.prog 119 [lsD z2 xs,iD n] (yK<|decide (n∈xs)):=by
 refine z6 Tryz.func119 k9 I k9 fun base w0=>(zp<|zd I<|ze<|zh<|zp<|zd I<|ze<|SW.block<|z1 (ι:={i:Nat // i≤xs.length∧∀ j < i,∀ y,xs[j]? =some y→y≠n}) (fun i=>z8 [(0,lsD z2 xs),(1,iD n),(5,iD (i.1:Int))] []) (fun i=>xs.length - i.1) (⟨0,JC _,fun _ h=>absurd h<|Nat.not_lt_zero _⟩) ?_ ?_)
 ·exact (sB [] I I)
 ·rintro ⟨i,hi,hp⟩ K0 hK0;dsimp only at hi hp ⊢;refine zh (zp<|zc I<|zc I<|za I (zY (e:=3) I k9)<|za I (ya I I)<|ze<|zD I (fun hb9=> ?_) (fun hb9=> ?_))
  ·have h9:(i:Int) < (xs.length:Int):=oT hb9;refine zw (zg<|zh<|SW.block<|zh ?_);obtain ⟨x,hx⟩:∃ x,xs[i]? =some x:=⟨_,Je o9⟩;refine zf (zc I<|zc I<|za I (zQ (e:=3) 1 I I k9 k9 o9 (by simpa using hx))<|za I (zK I I k9 s9)<|zc I<|za I (yS I I)<|ze<|zD I (fun hb17=> ?_) (fun hb17=> ?_))
   ·have h17:x=n:=oT hb17;refine zp (zd I<|ze<|zG (fn:=Tryz.f119) (fun _ _ h=>h)<|Rs.le (zN I<|zo I) ?_);exact yb (le_has_t hx h17).symm
   ·have h17:¬x=n:=oF hb17;exact zw (SN.block<|zg<|zf<|zc I<|za I (Rd.add I I ⟨by omega,by omega⟩)<|zd I<|zv (fun aK wK hh=>hK0 (⟨i + 1,by omega,fun j hj y hy=>(Nat.lt_succ_iff_lt_or_eq.1 hj).elim (fun h=>hp j h y hy) (fun e=>by subst e;rw [hx] at hy;rw [← Option.some.inj hy];exact h17)⟩) (by dsimp only;omega) aK wK<|hh.sub<|⟨⟨_,I,⟨lq I,⟨lq I,⟨⟨_,I,zE s9⟩,t9⟩⟩⟩⟩,[],by decide,trivial⟩))
  ·have h9:¬(i:Int) < (xs.length:Int):=oF hb9;refine zL ?_
   repeat (first | refine zV ?_ | refine zW d9 ?_)
   refine zX (zg<|zp<|zd I<|ze<|zG (fn:=Tryz.f119) (fun _ _ h=>h)<|Rs.le (zN I<|zo I) ?_);exact yb (le_has_f fun j y hy=>hp j (by have:=(Jg.1 hy).1;omega) y hy).symm
theorem con_among (b:Int) (l:List Co.Cl) (W:List Int) (hl:l.length≤1000000) (hW:W.length≤1000000) (hs:∀ (i:Nat) x y,W[i]? =some x→W[i + 1]? =some y→x < y) (hm:∀ (i:Nat) x,W[i]? =some x→∃ m,Co.fC l x=some m):Con Tryz.prog 79 [lsD yc l,lsD z2 W] (iD 0):=by
 refine z6 Tryz.func79 k9 I k9 fun base w0=>(zp<|zd I<|ze<|zh<|zp<|zd I<|ze<|SW.block<|z1 (ι:={i:Nat // 1≤i∧(i≤W.length∨i=1)}) (fun i=>z8 [(0,lsD yc l),(1,lsD z2 W),(5,iD (i.1:Int))] []) (fun i=>W.length - i.1) (⟨1,Js _,.inr I⟩) ?_ ?_)
 ·exact (sB [] I I)
 ·rintro ⟨i,hi,hi2⟩ K0 hK0;dsimp only at hi hi2 ⊢;refine zh (zp<|zc I<|zc I<|za I (zY (e:=3) I k9)<|za I (ya I I)<|ze<|zD I (fun hb10=> ?_) (fun hb10=> ?_))
  ·have h10:(i:Int) < (W.length:Int):=oT hb10;refine zw (zg<|zh<|SW.block<|zh ?_);obtain ⟨x,hx⟩:∃ x,W[i]? =some x:=⟨_,Je o9⟩;obtain ⟨y,hy⟩:=Kh hx o9;have hlt:=hs (i - 1) y x hy (by rw [show i - 1 + 1=i by omega];exact hx)
   exact yf [] (rr [0,1,2,3,4,5,6,7,8,9] .fin) k9 k9 (fun d _ _ _ _ h=>by cases d <;> exact h) (zC I I<|zC I I<|zj I I (zQ (e:=3) 1 I I k9 k9 o9 (by simpa using hx))<|zj I I (zK I I k9 s9)<|zC I I<|zC I I<|zj I I (Rd.mono (yl I I ⟨by omega,by omega⟩) (show Le _ (iD ((i - 1:Nat):Int)) from zE (by congr 1;omega)))<|zj I I (zQ (e:=3) 1 I I k9 k9 o9 (by simpa using hy))<|zj I I (zK I I k9 s9)<|zj I I (ZC I I)<|yu<|zJ I (decide_eq_false o9)<|zw<|SN.block<|zg<|zf<|zc I<|za I (Rd.add I I ⟨by omega,by omega⟩)<|zd I<|zv (fun aK wK hh=>hK0 (⟨i + 1,by omega,by omega⟩) (by dsimp only;omega) aK wK<|hh.sub<|⟨⟨_,I,⟨lq I,⟨lq I,⟨⟨_,I,zE s9⟩,t9⟩⟩⟩⟩,[],by decide,trivial⟩))
  ·have h10:¬(i:Int) < (W.length:Int):=oF hb10;refine zL ?_
   repeat (first | refine zV ?_ | refine zW d9 ?_)
   refine zX (zg<|zh<|zp<|zd I<|ze<|SW.block<|z1 (ι:={i:Nat // i≤W.length}) (fun i=>z8 [(0,lsD yc l),(1,lsD z2 W),(6,iD (i.1:Int))] []) (fun i=>W.length - i.1) (⟨0,JC _⟩) ?_ ?_)
   ·exact (sB [] I I)
   ·rintro ⟨i,hi⟩ K1 hK1;dsimp only at hi ⊢;refine zh (zp<|zc I<|zc I<|za I (zY (e:=3) I k9)<|za I (ya I I)<|ze<|zD I (fun hb26=> ?_) (fun hb26=> ?_))
    ·have h26:(i:Int) < (W.length:Int):=oT hb26;refine zw (zg<|zh<|SW.block<|zh ?_);obtain ⟨x,hx⟩:∃ x,W[i]? =some x:=⟨_,Je o9⟩;obtain ⟨m,hfm⟩:=hm i x hx
     have hfz:Co.fZ l x=(m:Int):=by rw [Co.fZ,hfm]
     exact zf (zc I<|zc I<|zc I<|za I (zQ (e:=3) 1 I I k9 k9 o9 (by simpa using hx))<|za I (zK I I k9 s9)<|zq (S:=[]) (zn (zbj l x hl) I ⟨zb _,zb _,t9⟩ I)<|za I (ya I I)<|ze<|zJ I (decide_eq_false o9)<|zw<|SN.block<|zg<|zf<|zc I<|za I (Rd.add I I ⟨by omega,by omega⟩)<|zd I<|zv (fun aK wK hh=>hK1 (⟨i + 1,by omega⟩) (by dsimp only;omega) aK wK<|hh.sub<|⟨⟨_,I,⟨lq I,⟨lq I,⟨⟨_,I,zE s9⟩,t9⟩⟩⟩⟩,[],by decide,trivial⟩))
    ·have h26:¬(i:Int) < (W.length:Int):=oF hb26;refine zL ?_
     repeat (first | refine zV ?_ | refine zW d9 ?_)
     refine zX (zg<|zp<|zd I<|ze<|zG (fn:=Tryz.f79) (fun _ _ h=>h)<|Rs.le (zN I<|zo I) ?_);exact zb _
