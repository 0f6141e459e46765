/- REFERENCE 39: ValidWishes, Free, Mark, All, Same. -/
import Derived.Test.YtmflnfnebmbjkaaGreatGZBC
set_option maxHeartbeats 8000000
set_option maxRecDepth 100000
namespace Go.Proofs.YtmflnfnebmbjkaaGreat
open Go.RowKit
namespace Sx
theorem free_t {u:List Bool} {s c:Nat} (h:∀ k < c,u.getD (s + k) false=false):Co.free u s c=true:=by simp only [Co.free,Jz];exact h
theorem free_f {u:List Bool} {s c k:Nat} (hk:k < c) (h:u.getD (s + k) false=true):Co.free u s c=false:=by
 cases e:Co.free u s c
 ·rfl
 ·simp only [Co.free,Jz] at e;rw [e k hk] at h;cases h
theorem getB {u:List Bool} {k:Nat} (h:k < u.length):u[k]? =some (u.getD k false):=by rw [Jr,Je h];rfl
theorem qT {r:List Bool→Bool × Int × LN} {c:Nat} {f:Nat→Int} {u:List Bool} {s:Nat} (h:¬(Co.free u s c=true∧(r<|Co.mk u s c).1=true∧((Co.srN r c f u s).1=false∨(Co.srN r c f u s).2.1 < (r<|Co.mk u s c).2.1 + f s))):Co.srN r c f u (s + 1)=Co.srN r c f u s:=by rw [Co.srN];exact Jb h
theorem jm {r:List Bool→Bool × Int × LN} {c:Nat} {f:Nat→Int} {u:List Bool} {s:Nat} (h1:Co.free u s c=true) (h2:(r<|Co.mk u s c).1=true) (h3:(Co.srN r c f u s).1=false∨(Co.srN r c f u s).2.1 < (r<|Co.mk u s c).2.1 + f s):Co.srN r c f u (s + 1)=(true,(r<|Co.mk u s c).2.1 + f s,s :: (r<|Co.mk u s c).2.2):=by rw [Co.srN];exact Jh ⟨h1,h2,h3⟩
theorem srN_bd {r:List Bool→Bool × Int × LN} {c:Nat} {f:Nat→Int} {M B:Int} (hB:0≤B) (hr:∀ u,0≤(r u).2.1∧(r u).2.1≤M) (hf:∀ s,0≤f s∧f s≤B) (hM:0≤M) (u:List Bool):∀ m,0≤(Co.srN r c f u m).2.1∧(Co.srN r c f u m).2.1≤M + B
 | 0=>by simp [Co.srN];omega
 | m + 1=>by
  have ih:=srN_bd (c:=c) hB hr hf hM u m;rw [Co.srN]
  split
  ·have:=hr (Co.mk u m c);have:=hf m;dsimp only;omega
  ·exact ih
theorem srch_bd:∀ (l:Co.Cs) (u:List Bool),(∀ c∈l,∀ s,0≤c.2 s∧c.2 s≤1099511627776)→0≤(Co.srch l u).2.1∧(Co.srch l u).2.1≤(l.length:Int) * 1099511627776
 | [],u,_=>by simp [Co.srch]
 | c :: l,u,h=>by
  have h1:=srN_bd (r:=Co.srch l) (c:=c.1) (f:=c.2) (M:=(l.length:Int) * 1099511627776) (B:=1099511627776) d9 (fun u=>srch_bd l u fun d hd=>h d<|Jl _ hd) (h c<|mC ..) (Int.mul_nonneg o9 d9) u (u.length + 1 - c.1);rw [Co.srch,Xm,Int.natCast_add,Int.add_mul];simp only [Int.natCast_one,Int.one_mul];exact h1
theorem cs_bd {b:Int} {l:List Co.Cl} {ws:List Co.Wi} {g:Nat→Bool} (hv:Co.VW b l ws) {k:Nat}:∀ c∈(Co.cs l ws g).drop k,∀ s,0≤c.2 s∧c.2 s≤1099511627776:=fun c hc s=>by
 obtain ⟨i,hi⟩:=List.getElem?_of_mem (List.mem_of_mem_drop hc);rw [Co.cs_get] at hi;obtain ⟨d,hd,rfl⟩:=Option.map_eq_some_iff.1 hi;have:=Co.wish_le hv d.win (s:Int);dsimp only
 split
 ·exact this
 ·exact ⟨Int.le_refl _,by decide⟩
abbrev srD (r:Bool × Int × LN):D:=Zq [yK r.1,iD r.2.1,lsD z2<|nI r.2.2]
theorem drop_cs {l:List Co.Cl} {ws:List Co.Wi} {g:Nat→Bool} {k:Nat} {c:Co.Cl} (h:l[k]? =some c) (u:List Bool):Co.srch ((Co.cs l ws g).drop k) u=Co.srN (Co.srch<|(Co.cs l ws g).drop<|k + 1) c.cnt.toNat (fun s:Nat=>if g k then Co.wish ws c.win (s:Int) else 0) u (u.length + 1 - c.cnt.toNat):=by
 rw [Co.cs_drop h];rfl
theorem drop_nil {l:List Co.Cl} {ws:List Co.Wi} {g:Nat→Bool} (u:List Bool):Co.srch ((Co.cs l ws g).drop l.length) u=(true,0,[]):=by
 rw [JZ (by rw [Co.cs_len];exact Js _)];rfl
theorem zay {l:List Co.Cl} {i:Nat} {x:Co.Cl} (h:l[i]? =some x):(l.take<|i + 1).map (·.win)=(l.take i).map (·.win) ++ [x.win]:=by rw [List.take_add_one,h,XG];rfl
theorem srN_len {r:List Bool→Bool × Int × LN} {c:Nat} {f:Nat→Int} {M:Nat} (hr:∀ u,(r u).2.2.length≤M) (u:List Bool):∀ m,(Co.srN r c f u m).2.2.length≤M + 1
 | 0=>by simp [Co.srN]
 | m + 1=>by
  have ih:=srN_len (c:=c) (f:=f) hr u m;rw [Co.srN]
  split
  ·have:=hr (Co.mk u m c);dsimp only;rw [List.length_cons];omega
  ·exact ih
theorem Vr:∀ (l:Co.Cs) (u:List Bool),(Co.srch l u).2.2.length≤l.length
 | [],u=>by simp [Co.srch]
 | c :: l,u=>by rw [Co.srch,Xm];exact srN_len (Vr l) u _
theorem zaQ {a:LN}:(nI a).length=a.length:=by simp [nI]
theorem qi (b:Int) (l:List Co.Cl) (ws:List Co.Wi) (hl:l.length≤1000000) (hw:ws.length≤1000000):Con Tryz.prog 36 [iD b,lsD yc l,lsD yJ ws] (yK<|decide (Co.VW b l ws)):=by
 refine z6 Tryz.func36 k9 I k9 fun base w0=>(zp<|zd I<|ze<|zh<|zp<|zc I<|zc I<|zq (S:=[]) (zn (Wz b l hl) I ⟨zb _,zb _,t9⟩ I)<|za I (yF I)<|ze<|zD I (fun hb12=> ?_) (fun hb12=> ?_))
 ·have hv:¬Co.VC b l:=by simpa using hb12
  refine zp (zd I<|ze<|zG (fn:=Tryz.f36) (fun _ _ h=>h)<|Rs.le (zN I<|zo I) ?_);exact yb (Jd (fun h=>hv h.c)).symm
 ·have hv:Co.VC b l:=by simpa using hb12
  refine zw (zg<|zh<|zp<|zd I<|ze<|SW.block<|z1 (ι:={k:Nat // k≤ws.length∧Co.PW b l ws k}) (fun k=>z8 [(0,iD b),(1,lsD yc l),(2,lsD yJ ws),(7,iD (k.1:Int))] []) (fun k=>ws.length - k.1) (⟨0,JC _,Co.PW.zero⟩) ?_ ?_)
  ·exact (sB [] I I)
  ·rintro ⟨k,hk,hp⟩ K0 hK0;dsimp only at hk hp ⊢;refine zh (zp<|zc I<|zc I<|za I (zY (e:=63) I k9)<|za I (ya I I)<|ze<|zD I (fun hb16=> ?_) (fun hb16=> ?_))
   ·have h16:(k:Int) < (ws.length:Int):=oT hb16;refine zw (zg<|zh<|SW.block<|zh ?_);obtain ⟨x,hx⟩:∃ x,ws[k]? =some x:=⟨_,Je o9⟩;refine zf (zc I<|zc I<|zc I<|za I (zQ (e:=63) 3 I I k9 k9 o9 (by simpa using hx))<|za I (z7 (n:=0) I k9 (show 0 < 3 by decide))<|za I (zK I I k9 s9)<|zq (S:=[]) (zn (zbj l x.win hl) I ⟨zb _,zb _,t9⟩ I)<|zd I<|ze<|zh<|zh ?_);rcases Co.fZ_cases l x.win with ⟨hf,hz⟩ | ⟨m,c,hf,hz,hc,hcw⟩
    ·skip
     refine SW.sub (σ':=z8 [(0,_),(1,_),(2,_),(7,_),(8,iD<|-1)] []) (⟨⟨_,I,⟨lq I,⟨lq I,⟨lq I,⟨lq I,⟨⟨_,I,zE (by rw [hz])⟩,t9⟩⟩⟩⟩⟩⟩,[],by decide,trivial⟩) (yf [] (rr [0,1,2,3,4,5,6,7,8,9,10,11,12,13,14,15,16,17,18,19,20,21,22,23,24,25,26,27,28,29,30,31,32,33,34,35,36,37,38,39,40] .fin) k9 k9 (fun d _ _ _ _ h=>by cases d <;> exact h)<|zC I I<|zj I I (ya I I)<|zC I I<|zk I I I d9 I I<|zk I I I d9 I I<|zk I I I d9 I I<|zk I I I d9 I I<|zk I I I d9 I I<|zk I I I d9 I I<|zj I I (zF I d9 I)<|zC I I<|zk I I I I I I<|zk I I I I I I<|zk I I I I I I<|zk I I I I I I<|zk I I I I I I<|zk I I I I I I<|zk I I I I I I<|zk I I I I I I<|zk I I I I I I<|zk I I I I I I<|zk I I I I I I<|zk I I I I I I<|zk I I I I I I<|zj I I (zF I I I)<|zC I I<|zk I I I I I I<|zk I I I I I I<|zk I I I I I I<|zk I I I I I I<|zk I I I I I I<|zk I I I I I I<|zj I I (zF I I I)<|zC I I<|zk I I I I I I<|zk I I I I I I<|zk I I I I I I<|zk I I I I I I ?_)
     refine zk I I I I I I (zk I I I I I I<|zj I I (zF I I I)<|yu<|yg I I<|zp<|zd I<|ze<|zG (fn:=Tryz.f36) (fun _ _ h=>h)<|Rs.le (zN I<|zo I) ?_);exact yb (Jd (fun h=>by obtain ⟨m,c,h1,_⟩:=h.ok k x hx;rw [hf] at h1;cases h1)).symm
    ·have hcc:=hv.cnt hc;have hc1:=(hv.ok m c hc).2.2;have hb1:=hv.b1;have hb2:=hv.b2
     refine SW.sub (σ':=z8 [(0,_),(1,_),(2,_),(7,_),(8,iD (m:Int))] []) (⟨⟨_,I,⟨lq I,⟨lq I,⟨lq I,⟨lq I,⟨⟨_,I,zE (by rw [hz])⟩,t9⟩⟩⟩⟩⟩⟩,[],by decide,trivial⟩) (yf [] (rr [0,1,2,3,4,5,6,7,8,9,10,11,12,13,14,15,16,17,18,19,20,21,22,23,24,25,26,27,28,29,30,31,32,33,34,35,36,37,38,39,40] .fin) k9 k9 (fun d _ _ _ _ h=>by cases d <;> exact h)<|zC I I<|zj I I (ya I I)<|zC I I<|zu I I I (Jd o9) I I (zl I)<|zu I I I (Jd o9) I I (zl I)<|zu I I I (Jd o9) I I (zQ (e:=63) 3 I I k9 k9 o9 (by simpa using hx))<|zu I I I (Jd o9) I I (z7 (n:=1) I k9 (show 1 < 3 by decide))<|zu I I I (Jd o9) I I (zK I I k9 s9)<|zu I I I (Jd o9) I I (ya I I)<|zj I I (zM I (Jd o9) I)<|zC I I<|yL 36 I (fun hb36=> ?_) (fun hb36=> ?_))
     ·have h36:x.st < 0:=oT hb36;refine zk I I I hb36 I I (zk I I I hb36 I I<|zk I I I hb36 I I<|zk I I I hb36 I I<|zk I I I hb36 I I<|zk I I I hb36 I I<|zk I I I hb36 I I<|zk I I I hb36 I I<|zk I I I hb36 I I<|zk I I I hb36 I I<|zk I I I hb36 I I<|zk I I I hb36 I I<|zk I I I hb36 I I<|zj I I (zF I hb36 I)<|zC I I<|zk I I I I I I<|zk I I I I I I<|zk I I I I I I<|zk I I I I I I<|zk I I I I I I<|zk I I I I I I<|zj I I (zF I I I)<|zC I I<|zk I I I I I I<|zk I I I I I I<|zk I I I I I I<|zk I I I I I I<|zk I I I I I I<|zk I I I I I I<|zj I I (zF I I I)<|yu<|yg I I<|zp<|zd I<|ze<|zG (fn:=Tryz.f36) (fun _ _ h=>h)<|Rs.le (zN I<|zo I) ?_);exact yb (Jd (fun h=>by obtain ⟨m2,c2,h1,h2,h3,h4,h5,h6⟩:=h.ok k x hx;rw [hf] at h1;obtain rfl:=JN h1;rw [hc] at h2;obtain rfl:=JN h2;omega)).symm
     ·have h36:¬x.st < 0:=oF hb36;refine zu I I I hb36 I I (zl I) (zu I I I hb36 I I (zl I)<|zu I I I hb36 I I (zQ (e:=63) 3 I I k9 k9 o9 (by simpa using hx))<|zu I I I hb36 I I (z7 (n:=1) I k9 (show 1 < 3 by decide))<|zu I I I hb36 I I (zK I I k9 s9)<|zu I I I hb36 I I (zl I)<|zu I I I hb36 I I (zl I)<|zu I I I hb36 I I (zl I)<|zu I I I hb36 I I (zQ (e:=61) 2 I I k9 k9 o9 (by simpa using hc))<|zu I I I hb36 I I (z7 (n:=1) I k9 (show 1 < 2 by decide))<|zu I I I hb36 I I (zK I I k9 s9)<|zu I I I hb36 I I (yl I I ⟨by omega,by omega⟩)<|zu I I I hb36 I I (y6 I I)<|zj I I (zM I hb36 I)<|zC I I<|yL 51 I (fun hb51=> ?_) (fun hb51=> ?_))
      ·have h51:x.st > b - c.cnt:=oT hb51;refine zk I I I hb51 I I (zk I I I hb51 I I<|zk I I I hb51 I I<|zk I I I hb51 I I<|zk I I I hb51 I I<|zk I I I hb51 I I<|zj I I (zF I hb51 I)<|zC I I<|zk I I I I I I<|zk I I I I I I<|zk I I I I I I<|zk I I I I I I<|zk I I I I I I<|zk I I I I I I<|zj I I (zF I I I)<|yu<|yg I I<|zp<|zd I<|ze<|zG (fn:=Tryz.f36) (fun _ _ h=>h)<|Rs.le (zN I<|zo I) ?_);exact yb (Jd (fun h=>by obtain ⟨m2,c2,h1,h2,h3,h4,h5,h6⟩:=h.ok k x hx;rw [hf] at h1;obtain rfl:=JN h1;rw [hc] at h2;obtain rfl:=JN h2;omega)).symm
      ·have h51:¬(x.st > b - c.cnt):=oF hb51;refine zu I I I hb51 I I (zl I) (zu I I I hb51 I I (zl I)<|zu I I I hb51 I I (zQ (e:=63) 3 I I k9 k9 o9 (by simpa using hx))<|zu I I I hb51 I I (z7 (n:=2) I k9 (show 2 < 3 by decide))<|zu I I I hb51 I I (zK I I k9 s9)<|zu I I I hb51 I I (ya I I)<|zj I I (zM I hb51 I)<|zC I I<|yL 59 I (fun hb59=> ?_) (fun hb59=> ?_))
       ·have h59:x.val < 0:=oT hb59;refine zk I I I hb59 I I (zk I I I hb59 I I<|zk I I I hb59 I I<|zk I I I hb59 I I<|zk I I I hb59 I I<|zk I I I hb59 I I<|zj I I (zF I hb59 I)<|yu<|yg I I<|zp<|zd I<|ze<|zG (fn:=Tryz.f36) (fun _ _ h=>h)<|Rs.le (zN I<|zo I) ?_);exact yb (Jd (fun h=>by obtain ⟨m2,c2,h1,h2,h3,h4,h5,h6⟩:=h.ok k x hx;rw [hf] at h1;obtain rfl:=JN h1;rw [hc] at h2;obtain rfl:=JN h2;omega)).symm
       ·have h59:¬x.val < 0:=oF hb59;refine zu I I I hb59 I I (zl I) (zu I I I hb59 I I (zl I)<|zu I I I hb59 I I (zQ (e:=63) 3 I I k9 k9 o9 (by simpa using hx))<|zu I I I hb59 I I (z7 (n:=2) I k9 (show 2 < 3 by decide))<|zu I I I hb59 I I (zK I I k9 s9)<|zu I I I hb59 I I (y6 I I)<|zj I I (zM I hb59 I)<|yu<|zD I (fun hb66=> ?_) (fun hb66=> ?_))
        ·have h66:x.val > 1099511627776:=oT hb66;refine zp (zd I<|ze<|zG (fn:=Tryz.f36) (fun _ _ h=>h)<|Rs.le (zN I<|zo I) ?_);exact yb (Jd (fun h=>by obtain ⟨m2,c2,h1,h2,h3,h4,h5,h6⟩:=h.ok k x hx;rw [hf] at h1;obtain rfl:=JN h1;rw [hc] at h2;obtain rfl:=JN h2;omega)).symm
        ·have h66:¬x.val > 1099511627776:=oF hb66;refine zw (zg<|zh ?_);obtain ⟨y,hy⟩:∃ y,0 < k→ws[k - 1]? =some y:=(by by_cases h:0 < k;exact (Kh hx h).imp fun _ h2 _=>h2;exact ⟨x,fun h2=>absurd h2 h⟩)
         refine yf [] (rr [0,1,2,3,4,5,6,7,8,9,10,11,12,13,14,15,16,17,18,19,20,21,22,23,24,25,26,27,28,29,30,31,32,33,34,35,36,37,38,39,40,41,42,43] .fin) k9 k9 (fun d _ _ _ _ h=>by cases d <;> exact h) (zC I I<|zj I I (y6 I I)<|zC I I<|yL 69 I (fun hb69=> ?_) (fun hb69=> ?_))
         ·have h69:(k:Int) > 0:=oT hb69;refine zu I I I hb69 I I (zl I) (zu I I I hb69 I I (zl I)<|zu I I I hb69 I I (zQ (e:=63) 3 I I k9 k9 o9 (by simpa using hx))<|zu I I I hb69 I I (z7 (n:=0) I k9 (show 0 < 3 by decide))<|zu I I I hb69 I I (zK I I k9 s9)<|zu I I I hb69 I I (zl I)<|zu I I I hb69 I I (zl I)<|zu I I I hb69 I I (Rd.mono (yl I I ⟨by omega,by omega⟩) (show Le _ (iD ((k - 1:Nat):Int)) from zE (by congr 1;omega)))<|zu I I I hb69 I I (zQ (e:=63) 3 I I k9 k9 o9 (by have h:=hy o9;simpa using h))<|zu I I I hb69 I I (z7 (n:=0) I k9 (show 0 < 3 by decide))<|zu I I I hb69 I I (zK I I k9 s9)<|zu I I I hb69 I I (ya I I)<|zu I I I hb69 I I (zl I)<|yL 82 I (fun hb82=> ?_) (fun hb82=> ?_))
          ·have h82:x.win < y.win:=oT hb82;refine zk I I I hb82 I I (zk I I I hb82 I I<|zk I I I hb82 I I<|zk I I I hb82 I I<|zk I I I hb82 I I<|zk I I I hb82 I I<|zk I I I hb82 I I<|zk I I I hb82 I I<|zk I I I hb82 I I<|zk I I I hb82 I I<|zk I I I hb82 I I<|zk I I I hb82 I I<|zk I I I hb82 I I<|zA I I I I I<|zA I I I I I<|zA I I I I I<|zA I I I I I<|zA I I I I I<|zA I I I I I<|zA I I I I I<|zA I I I I I<|zA I I I I I<|zA I I I I I<|zA I I I I I<|zA I I I I I<|zk I I I hb82 I I<|zu I I I hb69 I I (zF I hb82 I)<|zj I I (zF I hb69 I)<|yu<|yg I I<|zp<|zd I<|ze<|zG (fn:=Tryz.f36) (fun _ _ h=>h)<|Rs.le (zN I<|zo I) ?_);exact yb (Jd (fun h=>by have h1:=h.lt (j:=k) (i:=k - 1) o9 (hy o9) hx;omega)).symm
          ·have h82:¬x.win < y.win:=oF hb82;refine zu I I I hb82 I I (zl I) (zu I I I hb82 I I (zl I)<|zu I I I hb82 I I (zQ (e:=63) 3 I I k9 k9 o9 (by simpa using hx))<|zu I I I hb82 I I (z7 (n:=0) I k9 (show 0 < 3 by decide))<|zu I I I hb82 I I (zK I I k9 s9)<|zu I I I hb82 I I (zl I)<|zu I I I hb82 I I (zl I)<|zu I I I hb82 I I (Rd.mono (yl I I ⟨by omega,by omega⟩) (show Le _ (iD ((k - 1:Nat):Int)) from zE (by congr 1;omega)))<|zu I I I hb82 I I (zQ (e:=63) 3 I I k9 k9 o9 (by have h:=hy o9;simpa using h))<|zu I I I hb82 I I (z7 (n:=0) I k9 (show 0 < 3 by decide))<|zu I I I hb82 I I (zK I I k9 s9)<|zu I I I hb82 I I (yS I I)<|zu I I I hb82 I I (zl I)<|yL 95 I (fun hb95=> ?_) (fun hb95=> ?_))
           ·have h95:x.win=y.win:=oT hb95;refine zu I I I hb95 I I (zl I) (zu I I I hb95 I I (zl I)<|zu I I I hb95 I I (zQ (e:=63) 3 I I k9 k9 o9 (by simpa using hx))<|zu I I I hb95 I I (z7 (n:=1) I k9 (show 1 < 3 by decide))<|zu I I I hb95 I I (zK I I k9 s9)<|zu I I I hb95 I I (zl I)<|zu I I I hb95 I I (zl I)<|zu I I I hb95 I I (Rd.mono (yl I I ⟨by omega,by omega⟩) (show Le _ (iD ((k - 1:Nat):Int)) from zE (by congr 1;omega)))<|zu I I I hb95 I I (zQ (e:=63) 3 I I k9 k9 o9 (by have h:=hy o9;simpa using h))<|zu I I I hb95 I I (z7 (n:=1) I k9 (show 1 < 3 by decide))<|zu I I I hb95 I I (zK I I k9 s9)<|zu I I I hb95 I I (ZC I I)<|zu I I I hb82 I I (zF I hb95 I)<|zu I I I hb69 I I (zM I hb82 I)<|zj I I (zF I hb69 I)<|yu<|zD I (fun hb110=> ?_) (fun hb110=> ?_))
            ·have h110:x.st≤y.st:=oT hb110;refine zp (zd I<|ze<|zG (fn:=Tryz.f36) (fun _ _ h=>h)<|Rs.le (zN I<|zo I) ?_);exact yb (Jd (fun h=>by have h1:=h.lt (j:=k) (i:=k - 1) o9 (hy o9) hx;omega)).symm
            ·have h110:¬x.st≤y.st:=oF hb110
             exact zw (SN.block<|zg<|zf<|zc I<|za I (Rd.add I I ⟨by omega,by omega⟩)<|zd I<|zv (fun aK wK hh=>hK0 (⟨k + 1,by omega,hp.step hx hf hc ⟨by omega,by omega,by omega,by omega⟩ fun y2 h0 hy2=>by first | omega | (have h:=hy h0;rw [h] at hy2;obtain rfl:=Option.some.inj hy2;omega)⟩) (by dsimp only;omega) aK wK<|hh.sub<|⟨⟨_,I,⟨lq I,⟨lq I,⟨lq I,⟨⟨_,I,zE s9⟩,t9⟩⟩⟩⟩⟩,[],by decide,trivial⟩))
           ·have h95:¬x.win=y.win:=oF hb95
            exact zk I I I hb95 I I (zk I I I hb95 I I<|zk I I I hb95 I I<|zk I I I hb95 I I<|zk I I I hb95 I I<|zk I I I hb95 I I<|zk I I I hb95 I I<|zk I I I hb95 I I<|zk I I I hb95 I I<|zk I I I hb95 I I<|zk I I I hb95 I I<|zk I I I hb95 I I<|zu I I I hb82 I I (zM I hb95 I)<|zu I I I hb69 I I (zM I hb82 I)<|zj I I (zF I hb69 I)<|yu<|zJ I I<|zw<|SN.block<|zg<|zf<|zc I<|za I (Rd.add I I ⟨by omega,by omega⟩)<|zd I<|zv (fun aK wK hh=>hK0 (⟨k + 1,by omega,hp.step hx hf hc ⟨by omega,by omega,by omega,by omega⟩ fun y2 h0 hy2=>by first | omega | (have h:=hy h0;rw [h] at hy2;obtain rfl:=Option.some.inj hy2;omega)⟩) (by dsimp only;omega) aK wK<|hh.sub<|⟨⟨_,I,⟨lq I,⟨lq I,⟨lq I,⟨⟨_,I,zE s9⟩,t9⟩⟩⟩⟩⟩,[],by decide,trivial⟩))
         ·have h69:¬(k:Int) > 0:=oF hb69;refine zk I I I hb69 I I (zk I I I hb69 I I<|zk I I I hb69 I I<|zk I I I hb69 I I<|zk I I I hb69 I I<|zk I I I hb69 I I<|zk I I I hb69 I I<|zk I I I hb69 I I<|zk I I I hb69 I I<|zk I I I hb69 I I<|zk I I I hb69 I I<|zk I I I hb69 I I<|zk I I I hb69 I I<|zA I I I I I<|zA I I I I I<|zA I I I I I<|zA I I I I I<|zA I I I I I<|zA I I I I I<|zA I I I I I<|zA I I I I I<|zA I I I I I<|zA I I I I I<|zA I I I I I<|zA I I I I I<|zA I I I I I<|zA I I I I I<|zA I I I I I<|zA I I I I I<|zA I I I I I<|zA I I I I I<|zA I I I I I<|zA I I I I I<|zA I I I I I<|zA I I I I I<|zA I I I I I<|zA I I I I I<|zA I I I I I<|zA I I I I I<|zk I I I hb69 I I ?_)
          exact zj I I (zM I hb69 I) (yu<|zJ I I<|zw<|SN.block<|zg<|zf<|zc I<|za I (Rd.add I I ⟨by omega,by omega⟩)<|zd I<|zv (fun aK wK hh=>hK0 (⟨k + 1,by omega,hp.step hx hf hc ⟨by omega,by omega,by omega,by omega⟩ fun y2 h0 hy2=>by first | omega | (have h:=hy h0;rw [h] at hy2;obtain rfl:=Option.some.inj hy2;omega)⟩) (by dsimp only;omega) aK wK<|hh.sub<|⟨⟨_,I,⟨lq I,⟨lq I,⟨lq I,⟨⟨_,I,zE s9⟩,t9⟩⟩⟩⟩⟩,[],by decide,trivial⟩))
   ·have h16:¬(k:Int) < (ws.length:Int):=oF hb16;refine zL ?_
    repeat (first | refine zV ?_ | refine zW d9 ?_)
    refine zX (zg<|zp<|zd I<|ze<|zG (fn:=Tryz.f36) (fun _ _ h=>h)<|Rs.le (zN I<|zo I) ?_);exact yb (Jo<|Co.vw_of hv (show k=ws.length by omega) hp).symm
theorem con_free (u:List Bool) (s c:Nat) (h:s + c≤u.length) (hu:u.length≤12):Con Tryz.prog 117 [lsD Y6 u,iD (s:Int),iD (c:Int)] (yK<|Co.free u s c):=by
 refine z6 Tryz.func117 k9 I k9 fun base w0=>(zp<|zd I<|ze<|zh<|zp<|zc I<|zd I<|ze<|SW.block<|z1 (ι:={k:Nat // k≤c∧∀ j < k,u.getD (s + j) false=false}) (fun k=>z8 [(0,lsD Y6 u),(1,iD (s:Int)),(2,iD (c:Int)),(7,iD ((s + k.1:Nat):Int))] []) (fun k=>c - k.1) (⟨0,JC _,fun _ h=>absurd h<|Nat.not_lt_zero _⟩) ?_ ?_)
 ·exact ⟨⟨_,I,⟨lq I,⟨lq I,⟨lq I,⟨⟨_,I,zE s9⟩,t9⟩⟩⟩⟩⟩,[],by decide,trivial⟩
 ·rintro ⟨k,hk,hp⟩ K0 hK0;dsimp only at hk hp ⊢;refine zh (zp<|zc I<|zc I<|zc I<|za I (Rd.add I I ⟨by omega,by omega⟩)<|za I (ya I I)<|ze<|zD I (fun hb13=> ?_) (fun hb13=> ?_))
  ·have h13:((s + k:Nat):Int) < (s:Int) + (c:Int):=oT hb13;refine zw (zg<|zh<|SW.block<|zp<|zc I<|zc I<|za I (zQ (e:=4) 1 I I k9 k9 o9 (by rw [J7];exact getB o9))<|za I (zK I I k9 s9)<|ze<|zD I (fun hb19=> ?_) (fun hb19=> ?_))
   ·skip
    refine zp (zd I<|ze<|zG (fn:=Tryz.f117) (fun _ _ h=>h)<|Rs.le (zN I<|zo I) ?_);exact yb (free_f (show k < c by omega) hb19).symm
   ·skip
    exact zw (SN.block<|zg<|zf<|zc I<|za I (Rd.add I I ⟨by omega,by omega⟩)<|zd I<|zv (fun aK wK hh=>hK0 (⟨k + 1,by omega,fun j hj=>(Nat.lt_succ_iff_lt_or_eq.1 hj).elim (hp j) (fun e=>by subst e;exact hb19)⟩) (by dsimp only;omega) aK wK<|hh.sub<|⟨⟨_,I,⟨lq I,⟨lq I,⟨lq I,⟨⟨_,I,zE (by simp;omega)⟩,t9⟩⟩⟩⟩⟩,[],by decide,trivial⟩))
  ·have h13:¬((s + k:Nat):Int) < (s:Int) + (c:Int):=oF hb13;refine zL ?_
   repeat (first | refine zV ?_ | refine zW d9 ?_)
   refine zX (zg<|zp<|zd I<|ze<|zG (fn:=Tryz.f117) (fun _ _ h=>h)<|Rs.le (zN I<|zo I) ?_);exact yb (free_t fun j hj=>hp j o9).symm
theorem con_mark (u:List Bool) (s c:Nat) (h:s + c≤u.length) (hu:u.length≤12):Con Tryz.prog 118 [lsD Y6 u,iD (s:Int),iD (c:Int)] (lsD Y6<|Co.mk u s c):=by
 refine z6 Tryz.func118 k9 I k9 fun base w0=>(zp<|zd I<|ze<|zh<|ZX 4 1 Y6<|zf<|zc I (SWl.e4 (Z9 0 1 1 I I (ZL I) k9 k9 (by show 0 + u.length≤_;omega) d9 (fun _ h=>h) I) fun A10 F10 c10=>(zd I<|ze<|zh<|zp<|zc I<|zd I<|ze<|SW.block<|z1 (ι:={k:Nat // k≤c}) (fun k=>z8 [(1,iD (s:Int)),(2,iD (c:Int)),(7,isD<|.slice A10 (Co.mk u s k.1).length c10),(8,iD ((s + k.1:Nat):Int))] [.r F10<|yq 4 1 Y6 A10 c10<|Co.mk u s k.1]) (fun k=>c - k.1) (⟨0,JC _⟩) ?_ ?_)))
 ·exact ⟨⟨_,I,⟨lq I,⟨lq I,⟨lq I,⟨⟨_,I,zE s9⟩,t9⟩⟩⟩⟩⟩,[0],by decide,⟨lR rfl,trivial⟩⟩
 ·rintro ⟨k,hk⟩ K0 hK0;dsimp only at hk ⊢;refine zh (zp<|zc I<|zc I<|zc I<|za I (Rd.add I I ⟨by omega,by omega⟩)<|za I (ya I I)<|ze<|zD I (fun hb16=> ?_) (fun hb16=> ?_))
  ·have h16:((s + k:Nat):Int) < (s:Int) + (c:Int):=oT hb16;exact zw (zg<|zh<|SW.block<|zf<|zc I<|zc I<|za I (yp 0 1 I I I k9 k9 o9 (by rw [Co.mk_len];omega))<|zq (S:=_) (yQ (v:=true) 0 I I I I k9 (by rw [Co.mk_len];omega) (fun _ h=>h))<|zv<|SN.block<|zg<|zf<|zc I<|za I (Rd.add I I ⟨by omega,by omega⟩)<|zd I<|zv (fun aK wK hh=>hK0 (⟨k + 1,by omega⟩) (by dsimp only;omega) aK wK<|hh.sub<|⟨⟨_,I,⟨lq I,⟨lq I,⟨⟨_,I,zE (by dsimp only;rw [Co.mk_len,Co.mk_len])⟩,⟨⟨_,I,zE (by simp;omega)⟩,t9⟩⟩⟩⟩⟩,[0],by decide,⟨⟨_,rfl,(by dsimp only;rw [Int.toNat_natCast];exact zI _)⟩,trivial⟩⟩))
  ·have h16:¬((s + k:Nat):Int) < (s:Int) + (c:Int):=oF hb16;refine zL ?_
   repeat (first | refine zV ?_ | refine zW d9 ?_)
   refine zX (zg<|zp<|zc I<|zd I<|ze<|SW.freezeT 0 6 I I (by rw [show k=c by omega];exact zb _)<|zG (fn:=Tryz.f118) (fun _ _ h=>h)<|Rs.le (zN I<|zo I) ?_);exact zb _
theorem zbl (l:List Co.Cl) (hl:l.length≤6):Con Tryz.prog 84 [lsD yc l] (lsD z2<|l.map (·.win)):=by
 refine z6 Tryz.func84 k9 I k9 fun base w0=>(zp<|zd I<|zS<|zd I<|ze<|zh<|zp<|zd I<|ze<|SW.block<|ZX 3 1 z2<|z1 (ι:={p:Nat × Wst // p.1≤l.length}) (fun p=>z8 [(0,lsD yc l),(3,isD<|.slice p.1.2.A ((l.take p.1.1).map (·.win)).length p.1.2.c),(4,iD (p.1.1:Int))] [.r p.1.2.F<|yq 3 1 z2 p.1.2.A p.1.2.c<|(l.take p.1.1).map (·.win)]) (fun p=>l.length - p.1.1) (⟨(0,⟨none,0,[]⟩),JC _⟩) ?_ ?_)
 ·exact (sB [0] I I)
 ·rintro ⟨⟨i,t⟩,hi⟩ K0 hK0;dsimp only at hi ⊢;refine zh (zp<|zc I<|zc I<|za I (zY (e:=61) I k9)<|za I (ya I I)<|ze<|zD I (fun hb8=> ?_) (fun hb8=> ?_))
  ·have h8:(i:Int) < (l.length:Int):=oT hb8;refine zw (zg<|zh<|SW.block ?_);obtain ⟨x,hx⟩:∃ x,l[i]? =some x:=⟨_,List.getElem?_eq_getElem o9⟩;exact zf (zc I<|zc I<|zc I<|za I (zQ (e:=61) 2 I I k9 k9 o9 (by simpa using hx))<|za I (z7 (n:=0) I k9 (show 0 < 2 by decide))<|za I (zK I I k9 s9)<|zq (S:=[]) (y5 I I YZ I) (SWl.e4 (Z9 0 1 8 I I (ZL (l:=[_]) I) k9 k9 (by rw [List.length_map,List.length_take,List.length_singleton];omega) d9 (fun _ h=>h) I) fun A18 F18 c18=>(zd I<|zv<|SN.block<|zg<|zf<|zc I<|za I (Rd.add I I ⟨by omega,by omega⟩)<|zd I<|zv (fun aK wK hh=>hK0 (⟨(i + 1,⟨A18,c18,F18⟩),by simp only;omega⟩) (by simp only;omega) aK wK<|hh.sub<|⟨⟨_,I,⟨lq I,⟨⟨_,I,zE (by dsimp only;rw [zay hx])⟩,⟨⟨_,I,zE s9⟩,t9⟩⟩⟩⟩,[0],by decide,⟨⟨_,rfl,(by dsimp only;rw [zay hx];exact zI _)⟩,trivial⟩⟩))))
  ·have h8:¬(i:Int) < (l.length:Int):=oF hb8;refine zL ?_
   repeat (first | refine zV ?_ | refine zW d9 ?_)
   refine zX (zg<|zp<|zc I<|zd I<|ze<|SW.freezeT 0 2 I I (by rw [Ji (show l.length≤i by omega)];exact zb _)<|zG (fn:=Tryz.f84) (fun _ _ h=>h)<|Rs.le (zN I<|zo I) ?_);exact zb _
theorem qj (xs:List Int) (hl:xs.length≤1000000):Con Tryz.prog 13 [lsD z2 xs,lsD z2 xs] (yK true):=by
 refine z6 Tryz.func13 k9 I k9 fun base w0=>(zp<|zd I<|ze<|zh<|zp<|zc I<|za I (zY (e:=3) I k9)<|zc I<|za I (zY (e:=3) I k9)<|za I (yj I I)<|ze<|zJ I s9<|zw<|zg<|zh<|zp<|zd I<|ze<|SW.block<|z1 (ι:={i:Nat // i≤xs.length}) (fun i=>z8 [(0,lsD z2 xs),(1,lsD z2 xs),(5,iD (i.1:Int))] []) (fun i=>xs.length - i.1) (⟨0,JC _⟩) ?_ ?_)
 ·exact (sB [] I I)
 ·rintro ⟨i,hi⟩ K0 hK0;dsimp only at hi ⊢;refine zh (zp<|zc I<|zc I<|za I (zY (e:=3) I k9)<|za I (ya I I)<|ze<|zD I (fun hb14=> ?_) (fun hb14=> ?_))
  ·have h14:(i:Int) < (xs.length:Int):=oT hb14;refine zw (zg<|zh<|SW.block<|zh ?_);obtain ⟨x,hx⟩:∃ x,xs[i]? =some x:=⟨_,Je o9⟩
   exact yf [] (rr [0,1,2,3,4,5,6,7,8] .fin) k9 k9 (fun d _ _ _ _ h=>by cases d <;> exact h) (zC I I<|zC I I<|zj I I (zQ (e:=3) 1 I I k9 k9 o9 (by simpa using hx))<|zj I I (zK I I k9 s9)<|zC I I<|zC I I<|zj I I (zQ (e:=3) 1 I I k9 k9 o9 (by simpa using hx))<|zj I I (zK I I k9 s9)<|zj I I (yj I I)<|yu<|zJ I s9<|zw<|SN.block<|zg<|zf<|zc I<|za I (Rd.add I I ⟨by omega,by omega⟩)<|zd I<|zv (fun aK wK hh=>hK0 (⟨i + 1,by omega⟩) (by dsimp only;omega) aK wK<|hh.sub<|⟨⟨_,I,⟨lq I,⟨lq I,⟨⟨_,I,zE s9⟩,t9⟩⟩⟩⟩,[],by decide,trivial⟩))
  ·have h14:¬(i:Int) < (xs.length:Int):=oF hb14;refine zL ?_
   repeat (first | refine zV ?_ | refine zW d9 ?_)
   refine zX (zg<|zp<|zd I<|ze<|zG (fn:=Tryz.f13) (fun _ _ h=>h)<|Rs.le (zN I<|zo I) ?_);exact zb _
