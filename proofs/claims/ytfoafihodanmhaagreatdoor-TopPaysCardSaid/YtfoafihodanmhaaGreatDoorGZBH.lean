/- TOP: apply. TOP: bidders settled. TOP: posted prices. -/
import Derived.Test.YtfoafihodanmhaaGreatDoorGZBG
set_option maxHeartbeats 8000000
set_option maxRecDepth 100000
namespace Go.Proofs.YtfoafihodanmhaaGreatDoor
open Go.RowKit
namespace Sx
section
def Tp.upd (x:Tp.Bd) (k:Nat) (w:Int):Tp.Bd:=⟨x.id,x.el,x.wv,x.bl.set k w⟩
theorem VG {cs bs:List Tp.Bd} (h:cs.map Tp.Bd.id=bs.map Tp.Bd.id) (i:Nat):Yc cs i=Yc bs i:=by
 cases i with
 | zero=>rfl
 | succ i=>rw [Yc,Yc,← JJ,← JJ,h]
theorem Vm {cs:List Tp.Bd} {j k:Nat} {x:Tp.Bd} {w:Int} (hx:cs[j]? =some x):(cs.set j<|Tp.upd x k w).map Tp.Bd.id=cs.map Tp.Bd.id:=by
 rw [List.map_set];exact YY (by rw [JJ,hx];rfl)
theorem Vo {bl:List Int} {k i:Nat} {w:Int} (hk:k < bl.length):Tp.blA (bl.set k w) i=if i=k then w else Tp.blA bl i:=by
 unfold Tp.blA
 by_cases h:i=k
 ·subst h;rw [List.getElem?_set_self hk,Jh rfl];rfl
 ·rw [List.getElem?_set_ne (fun e=>h e.symm),Jb h]
theorem zcx {l:List Tp.Pr} {bl:List Int} {k:Nat} {w:Int} (hk:k < bl.length):∀ i,Ka l (bl.set k w) i=Ka l bl i + if k < i then (w - Tp.blA bl k) * zeo l k else 0
 | 0=>by simp [Ka]
 | i + 1=>by
  rw [Ka,Ka,zcx hk i,Vo hk]
  by_cases h:i=k
  ·subst h;rw [Jh rfl,Jb<|Nat.lt_irrefl _,Jh<|Nat.lt_succ_self _,Int.sub_mul];omega
  ·rw [Jb h]
   by_cases h2:k < i
   ·rw [Jh h2,Jh o9];omega
   ·rw [Jb h2,Jb o9];omega
theorem Tp.VB.upd {l:List Tp.Pr} {cs:List Tp.Bd} (h:Tp.VB l cs) {j k:Nat} {x:Tp.Bd} {p:Tp.Pr} {v n d:Int} (hx:cs[j]? =some x) (hp:l[k]? =some p) (hv:x.bl[k]? =some v) (hd:Tp.Pk l x p k n d):Tp.VB l (cs.set j<|Tp.upd x k<|v + d):=by
 refine ⟨by rw [Xl];exact h.n,h.p,fun i b hb=> ?_⟩;rw [VG<|Vm hx];have hkl:=(Jg.1 hv).1;have hva:=Ym hv
 by_cases e:j=i
 ·subst e;rw [List.getElem?_set_self (Jg.1 hx).1] at hb;obtain rfl:=JN hb;have h1:=h.ok j x hx;refine ⟨h1.i0,h1.i1,h1.e0,h1.e1,h1.w0,h1.w1,⟨by show (x.bl.set k _).length=_;rw [Xl];exact h1.fi.len,fun q r m hq hm=> ?_⟩,?_⟩
  ·have hm2:(x.bl.set k<|v + d)[q]? =some m:=hm
   by_cases e2:k=q
   ·subst e2;rw [List.getElem?_set_self hkl] at hm2;obtain rfl:=JN hm2;rw [hp] at hq;obtain rfl:=JN hq;have h3:=hd.lo;have h4:=hd.hi;rw [hva] at h3 h4;exact ⟨h3,h4⟩
   ·rw [List.getElem?_set_ne e2] at hm2;exact h1.fi.ok q r m hq hm2
  ·show Ka l (x.bl.set k<|v + d) (x.bl.set k<|v + d).length≤x.el;rw [Xl,zcx hkl,Jh hkl,hva,zcw hp,show v + d - v=d by omega];exact hd.un
 ·rw [List.getElem?_set_ne e] at hb;exact h.ok i b hb
theorem Vl {q:Nat}:∀ {cs:List Tp.Bd} {j:Nat} {x y:Tp.Bd},cs[j]? =some x→Tp.tot q (cs.set j y)=Tp.tot q cs - Tp.blA x.bl q + Tp.blA y.bl q
 | c :: cs,0,x,y,h=>by
  obtain rfl:=JN h;rw [List.set_cons_zero,Tp.tot,Tp.tot];omega
 | c :: cs,j + 1,x,y,h=>by
  rw [List.set_cons_succ,Tp.tot,Tp.tot,Vl (x:=x) (by simpa using h)];omega
 | [],j,x,y,h=>by simp at h
theorem zaY {cs:List Tp.Bd} {j k n:Nat} {x:Tp.Bd} {v d:Int} (hx:cs[j]? =some x) (hv:x.bl[k]? =some v) (hk:k < n):(zB (fun q=>Tp.tot q cs) n).set k (Tp.tot k cs + d)=zB (fun q=>Tp.tot q<|cs.set j<|Tp.upd x k<|v + d) n:=by
 have hkl:=(Jg.1 hv).1;refine Wd hk ?_ fun q _ hq=> ?_
 ·rw [Vl hx,Tp.upd,Vo hkl,Jh rfl,Ym hv];omega
 ·rw [Vl hx,Tp.upd,Vo hkl,Jb hq];omega
theorem WW {cs:List Tp.Bd} {ss:List Wst} {j:Nat} {y:Tp.Bd} {s:Wst} (hs:ss[j]? =some s):(Tp.rows cs ss).set j (Tp.row y s)=Tp.rows (cs.set j y) ss:=by
 unfold Tp.rows;refine Xh fun i=> ?_;rw [List.getElem?_zipWith]
 by_cases e:j=i
 ·subst e
  by_cases hj:j < cs.length
  ·have hjs:=(Jg.1 hs).1;rw [List.getElem?_set_self (by rw [List.length_zipWith];omega),List.getElem?_set_self hj,hs]
  ·rw [JM (by rw [Xl,List.length_zipWith];omega),JM (by rw [Xl];omega)]
 ·rw [List.getElem?_set_ne e,List.getElem?_set_ne e,List.getElem?_zipWith]
theorem zcE {cs:List Tp.Bd} {ss:List Wst} {j k:Nat} {x:Tp.Bd} {w:Int} {s:Wst} (hx:cs[j]? =some x) (hs:ss[j]? =some s):(Zb (cs.set j<|Tp.upd x k w) ss).flatMap Yr=(Zb cs ss).flatMap Yr:=by
 rw [List.flatMap_def,List.flatMap_def];congr 1;refine Xh fun i=> ?_;rw [JJ,JJ]
 by_cases e:j=i
 ·subst e;rw [Ye hx,Ye (x:=Tp.upd x k w)<|List.getElem?_set_self (Jg.1 hx).1,hs];simp only [Option.map_some,Yr,Tp.upd,Xl]
 ·cases hb:cs[i]? with
  | none=>rw [JM (by rw [yP,Xl];exact List.getElem?_eq_none_iff.1 hb),JM (by rw [yP];exact List.getElem?_eq_none_iff.1 hb)]
  | some b=>rw [Ye hb,Ye (by rw [List.getElem?_set_ne e];exact hb)]
def Tp.sm (rs:List Int):Nat:=(rs.map Int.natAbs).sum
theorem Tp.sm_set:∀ {rs:List Int} {i:Nat} {n w:Int},rs[i]? =some n→w.natAbs < n.natAbs→Tp.sm (rs.set i w) < Tp.sm rs
 | r :: rs,0,n,w,h,hw=>by
  obtain rfl:=JN h;simp only [Tp.sm,List.set_cons_zero,JU,List.sum_cons];omega
 | r :: rs,i + 1,n,w,h,hw=>by
  have:=Tp.sm_set (rs:=rs) (i:=i) (n:=n) (w:=w) (by simpa using h) hw;simp only [Tp.sm,List.set_cons_succ,JU,List.sum_cons] at this ⊢;omega
 | [],i,n,w,h,_=>by simp at h
def zaZ (bs:List Tp.Bd) (id:Int):Int:=((bs.findIdx fun b=>b.id == id:Nat):Int)
theorem Tp.VB.mono {l:List Tp.Pr} {bs:List Tp.Bd} (h:Tp.VB l bs) {i:Nat}:∀ {j:Nat} {b c:Tp.Bd},i < j→bs[i]? =some b→bs[j]? =some c→b.id < c.id
 | 0,_,_,hij,_,_=>absurd hij (Nat.not_lt_zero _)
 | j + 1,b,c,hij,hb,hc=>by
  have h1:=(h.ok (j + 1) c hc).i0;obtain ⟨d,hd⟩:∃ d,bs[j]? =some d:=⟨_,Je (by have:=(Jg.1 hc).1;omega)⟩;rw [qc hd] at h1
  by_cases e:i=j
  ·subst e;rw [hb] at hd;obtain rfl:=JN hd;exact h1
  ·have:=Tp.VB.mono h (j:=j) o9 hb hd;omega
theorem Tp.VB.ix {l:List Tp.Pr} {bs:List Tp.Bd} (h:Tp.VB l bs) {i:Nat} {b:Tp.Bd} (hb:bs[i]? =some b):zaZ bs b.id=(i:Int):=by
 unfold zaZ;have hi:=(Jg.1 hb).1
 have h1:bs.findIdx (fun c=>c.id == b.id)=i:=by
  rw [List.findIdx_eq hi];refine ⟨by rw [(Jg.1 hb).2];simp,fun j hj=> ?_⟩;have:=h.mono hj (Je o9) hb;rw [Xb];omega
 rw [h1]
theorem Tp.VB.new {l:List Tp.Pr} {bs:List Tp.Bd} (h:Tp.VB l bs) {i:Nat} {b:Tp.Bd} (hb:bs[i]? =some b):b.id∉(bs.take i).map Tp.Bd.id:=fun hm=>by
 obtain ⟨c,hc,he⟩:=JI.1 hm;obtain ⟨j,hj⟩:=List.getElem?_of_mem hc;rw [JP] at hj
 split at hj
 ·rename_i hji;have:=h.mono hji hj hb;omega
 ·cases hj
section
variable {P:Program}{Γ:Cx}{σ:St}{S:List Nat}{ty:TypeId}{pos:String}{af:Array Edge}{gd:Option (Nat × Bool)}
theorem zdB {κ:Type} (enc:κ→Value) {T k kt et:Nat} {x:Operand} {n:Int} (f:κ→D) (hx:σ.ev x=some (iD n)) (hT:mapT P T kt et=true) (hk:yp Γ.nt k=true):Ef P Γ S ⟨some k,.makeMap T<|some x,ty,pos,af,gd⟩ σ (fun σ'=>∃ g,σ'=(⟨σ.tm,σ.bx ++ [.r [g]<|Wu (some g) enc [] f]⟩:St).put k (isD<|.map<|some g)):=by
 intro a w hh K Q hK;have hxv:a.eval x= .int .i64 n:=zR hh hx;have ho:Only [] w (w.alloc<|.map #[] 0):=(Only.refl [] w).alloc _;have h1:=hh.more ho (b:= .r [w.heap.size]<|Wu (some w.heap.size) enc [] f) ⟨[],List.nodup_nil,fun _=>Iff.rfl,#[],.inr ⟨w.heap.size,0,rfl,Xw w _,rfl,bn_nil 0⟩,rfl,trivial⟩ (fun g hg=>by rw [Ja.1 hg];exact Js _) (by simp [Box.fp])
 have e:(execOp a.eval ⟨some k,.makeMap T<|some x,ty,pos,af,gd⟩).run P w= .ok (.value<|.map<|some w.heap.size) (w.alloc<|.map #[] 0):=by
  have e0:(newObj<|.map #[] 0).run P w= .ok w.heap.size (w.alloc<|.map #[] 0):=rfl;simp [execOp,Instr.makeMap,e0,hxv,Jp<|jA hT,asInt,asIntOf]
 unfold Oper.wp;rw [e];exact hK _ _ _ ⟨_,I⟩ (h1.put (by simpa [yp] using hk) I) (ho.mono s9)
end
structure Tp.As where
 cs:List Tp.Bd
 rs:List Int
 ms:List Int
 G:LN
 re:Nat
 at_:Nat
structure Tp.AInv (l:List Tp.Pr) (n:Nat) (bs:List Tp.Bd) (s:Tp.As):Prop where
 vb:Tp.VB l s.cs
 ids:s.cs.map Tp.Bd.id=bs.map Tp.Bd.id
 rl:s.rs.length=n
 rb:∀ (i:Nat) v,s.rs[i]? =some v→ -12≤v∧v≤12
 ml:s.ms.length=l.length
 mi:∀ (i:Nat) v,s.ms[i]? =some v→0≤v∧(v < (n:Int)∨n=0)
 a:s.at_≤n
 r:s.re≤n∧(0 < n→s.re < n)
 no:n=0→s.cs=bs
def Tp.As.mu (n:Nat) (s:Tp.As):Nat:=Tp.sm s.rs * (n + 1) + (n - s.at_)
theorem Tp.mu_at {n:Nat} {s:Tp.As} {r:Nat} {G:LN} (h:s.at_ < n):Tp.As.mu n ⟨s.cs,s.rs,s.ms,G,r,s.at_ + 1⟩ < s.mu n:=by
 unfold Tp.As.mu;dsimp only;omega
theorem zep {n:Nat} {s t:Tp.As} (h:Tp.sm t.rs < Tp.sm s.rs):t.mu n < s.mu n:=by
 unfold Tp.As.mu;have h1:(Tp.sm t.rs + 1) * (n + 1)≤Tp.sm s.rs * (n + 1):=Nat.mul_le_mul_right _ h;rw [Nat.add_mul] at h1;omega
theorem zc4 {α:Type} {l:List α} {i j:Nat} {x y:α} (h:(l.set i x)[j]? =some y):y=x∨l[j]? =some y:=by
 by_cases e:i=j
 ·subst e
  by_cases hi:i < l.length
  ·rw [List.getElem?_set_self hi] at h;exact .inl (JN h).symm
  ·rw [JM (by rw [Xl];omega)] at h;cases h
 ·rw [List.getElem?_set_ne e] at h;exact .inr h
theorem Tp.Pk.lt {l:List Tp.Pr} {x:Tp.Bd} {p:Tp.Pr} {k:Nat} {n d:Int} (h:Tp.Pk l x p k n d) (hd:d≠0):(n - d).natAbs < n.natAbs:=by
 rcases h.ab with h1 | h1 <;> omega
theorem Tp.le_ids {bs:List Tp.Bd} {i:Nat} {x:Tp.Bd} {M:Option Nat} {f:Int→D} (hx:bs[i]? =some x):LeR (Wu M zfF (x.id :: (bs.take i).map Tp.Bd.id) f) (Wu M zfF ((bs.take<|i + 1).map Tp.Bd.id) f):=fun L F w ⟨ks,h1,h2,h3⟩=>⟨ks,h1,fun k=>(h2 k).trans (by
 rw [List.take_add_one,hx,XG];simp only [Jt,Jf,Option.toList_some,JU,XC,List.not_mem_nil,or_false]
 exact Or.comm),h3⟩
theorem zfm (gr:Nat) (l:List Tp.Pr) (bs:List Tp.Bd) (b:Tp.Bst) (is:List Tp.Bi) (od rs0 ms0:List Int) (t r m:Wst) (hl:l.length≤1000) (hv:Tp.VB l bs) (hss:b.ss.length=bs.length) (hi0:is.length≤19) (hok:∀ x∈is,Tp.OkI l bs x) (hol:od.length=is.length) (hod:Tp.In (is.length:Int) od) (hrl:rs0.length=is.length) (hrb:∀ (i:Nat) v,rs0[i]? =some v→ -12≤v∧v≤12) (hml:ms0.length=l.length) (hmb:∀ (i:Nat) v,ms0[i]? =some v→v=0):ConR Tryz.prog 40 [.c gr [lsD yA l,lsD ZA is,lsD z7 od,isD<|.slice b.A (Zb bs b.ss).length b.c,isD<|.slice t.A (zB (fun q=>Tp.tot q bs) l.length).length t.c,isD<|.slice r.A (rs0).length r.c,isD<|.slice m.A (ms0).length m.c],.r b.F<|yi 59 4 Yr b.A b.c<|Zb bs b.ss,.r b.G<|Kf<|Tp.rows bs b.ss,.r t.F<|yi 3 1 z7 t.A t.c<|zB (fun q=>Tp.tot q bs) l.length,.r r.F<|yi 3 1 z7 r.A r.c<|rs0,.r m.F<|yi 3 1 z7 m.A m.c<|ms0] [pA gr] (fun s:{s:Tp.As // Tp.AInv l is.length bs s}=>[.c gr [lsD yA l,lsD ZA is,lsD z7 od,isD<|.slice b.A (Zb s.1.cs b.ss).length b.c,isD<|.slice t.A (zB (fun q=>Tp.tot q s.1.cs) l.length).length t.c,isD<|.slice r.A (s.1.rs).length r.c,isD<|.slice m.A (s.1.ms).length m.c],.r b.F<|yi 59 4 Yr b.A b.c<|Zb s.1.cs b.ss,.r s.1.G<|Kf<|Tp.rows s.1.cs b.ss,.r t.F<|yi 3 1 z7 t.A t.c<|zB (fun q=>Tp.tot q s.1.cs) l.length,.r r.F<|yi 3 1 z7 r.A r.c<|s.1.rs,.r m.F<|yi 3 1 z7 m.A m.c<|s.1.ms]) (fun s:{s:Tp.As // Tp.AInv l is.length bs s}=>isD<|.tuple #[]):=by
 have hbn:=hv.n;refine yt Tryz.func40 k9 I k9 fun base w0=>(zn<|zd I<|za I (zL I)<|za I (zg (n:=3) I k9)<|za I (zp 0 I I I k9 zm)<|za I (Zx (e:=59) I k9) (SWl.e2 (S:=[]) (zdB zfF (kt:=3) (et:=3) (fun id=>iD<|zaZ bs id) I k9 I) fun g16=>(zf I<|ze<|zh<|zn<|zd I<|za I (zL I)<|za I (zg (n:=3) I k9)<|za I (zp 0 I I I k9 zm)<|za I (Zx (e:=59) I k9)<|zd I<|ze<|SW.block<|yd (ι:={i:Nat // i≤bs.length}) (fun i=>yb [(0,pA gr),(2,isD<|.map<|some g16),(20,isD<|.slice b.A (Zb bs b.ss).length b.c),(21,iD ((Zb bs b.ss).length:Int)),(22,iD (i.1:Int))] [.c gr [lsD yA l,lsD ZA is,lsD z7 od,isD<|.slice b.A (Zb bs b.ss).length b.c,isD<|.slice t.A (zB (fun q=>Tp.tot q bs) l.length).length t.c,isD<|.slice r.A (rs0).length r.c,isD<|.slice m.A (ms0).length m.c],.r b.F<|yi 59 4 Yr b.A b.c<|Zb bs b.ss,.r b.G<|Kf<|Tp.rows bs b.ss,.r t.F<|yi 3 1 z7 t.A t.c<|zB (fun q=>Tp.tot q bs) l.length,.r r.F<|yi 3 1 z7 r.A r.c<|rs0,.r m.F<|yi 3 1 z7 m.A m.c<|ms0,.r [g16]<|Wu (some g16) zfF ((bs.take i.1).map Tp.Bd.id) (fun id=>iD<|zaZ bs id)]) (fun i=>bs.length - i.1) (⟨0,Nat.zero_le _⟩) ?_ ?_)))
 ·exact (sB [0,1,2,3,4,5,6] I I)
 ·rintro ⟨i,hi⟩ K0 hK0;dsimp only at hi ⊢;refine zn (za I (yc I I)<|ze<|zh<|zC I (fun hb23=> ?_) (fun hb23=> ?_))
  ·have h23:i < bs.length:=by have h:=oT hb23;rw [yP] at h;omega
   refine zq (zj<|zh<|SW.block<|zh ?_);obtain ⟨x,hx⟩:∃ x,bs[i]? =some x:=⟨_,List.getElem?_eq_getElem o9⟩
   have hbo:(Zb bs b.ss)[((i:Nat):Int).toNat]? =some (x,b.ss[i]?):=by rw [Int.toNat_natCast,Ye hx]
   exact zi (zd I<|za I (yf 1 4 I I I k9 k9 o9 (by rw [yP];omega))<|za I (VY 1 4 I I k9 hbo zm) (SWl.e2 (S:=[]) (Ef.alloc (zs:=[.int .i64 0,.int .i64 0,.int .i64 0,.slice none 0 0]) k9 I) fun g4=>(zf I<|zu (S:=[_]) (zA 7 I I I k9 I<|m9 I)<|ze<|zi<|zd I<|za I (zg (n:=0) I k9)<|za I (zp 7 I I I k9 zm)<|zd I<|zu (za8 (kt:=3) (et:=3) 6 I I I (zc _) I (zI (by rw [hv.ix hx])) k9 (fun ks=>zb5 k9 _ ks) (hv.new hx) (fun _ h=>h))<|zF<|SN.block<|zj<|zi<|za I (Rd.add I I ⟨by omega,by omega⟩)<|zd I<|zF (fun aK wK hh=>hK0 (⟨i + 1,by omega⟩) (by dsimp only;omega) aK wK<|hh.sub<|⟨⟨_,I,⟨lq I,⟨lq I,⟨lq I,⟨lq I,⟨⟨_,I,zI s9⟩,t9⟩⟩⟩⟩⟩⟩,[0,1,2,3,4,5,7],by decide,⟨la rfl,⟨lR rfl,⟨lR rfl,⟨lR rfl,⟨lR rfl,⟨lR rfl,⟨⟨_,rfl,(Tp.le_ids hx)⟩,trivial⟩⟩⟩⟩⟩⟩⟩⟩))))
  ·have h23:¬i < bs.length:=by have h:=oF hb23;rw [yP] at h;omega
   refine zQ ?_
   repeat (first | refine zX ?_ | refine zY d9 ?_)
   refine zZ (zj<|zn<|zf I<|zN<|zf I<|ze<|SW.block<|yd (ι:={s:Tp.As // Tp.AInv l is.length bs s}) (fun s=>yb [(0,pA gr),(2,isD<|.map<|some g16),(5,iD (s.1.re:Int)),(6,iD (s.1.at_:Int))] [.c gr [lsD yA l,lsD ZA is,lsD z7 od,isD<|.slice b.A (Zb s.1.cs b.ss).length b.c,isD<|.slice t.A (zB (fun q=>Tp.tot q s.1.cs) l.length).length t.c,isD<|.slice r.A (s.1.rs).length r.c,isD<|.slice m.A (s.1.ms).length m.c],.r b.F<|yi 59 4 Yr b.A b.c<|Zb s.1.cs b.ss,.r s.1.G<|Kf<|Tp.rows s.1.cs b.ss,.r t.F<|yi 3 1 z7 t.A t.c<|zB (fun q=>Tp.tot q s.1.cs) l.length,.r r.F<|yi 3 1 z7 r.A r.c<|s.1.rs,.r m.F<|yi 3 1 z7 m.A m.c<|s.1.ms,.r [g16]<|Wu (some g16) zfF (bs.map Tp.Bd.id) (fun id=>iD<|zaZ bs id)]) (fun s=>s.1.mu is.length) (⟨⟨bs,rs0,ms0,b.G,0,0⟩,⟨hv,I,hrl,hrb,hml,fun i v h=>by rw [hmb i v h];omega,Nat.zero_le _,⟨Nat.zero_le _,fun h=>h⟩,fun _=>rfl⟩⟩) ?_ ?_)
   ·exact ⟨⟨_,I,(sT I)⟩,[0,1,2,3,4,5,6],by decide,⟨la rfl,⟨lR rfl,⟨lR rfl,⟨lR rfl,⟨lR rfl,⟨lR rfl,⟨⟨_,rfl,(by rw [show i=bs.length by omega,List.take_length];exact zM _)⟩,trivial⟩⟩⟩⟩⟩⟩⟩⟩
   ·rintro ⟨⟨cs,rs,ms,G,re,at_⟩,hI⟩ K1 hK1;dsimp only at hI ⊢
    have hil:cs.length=bs.length:=by have h:=congrArg List.length hI.ids;simpa using h
    have hcs:b.ss.length=cs.length:=by omega
    have hIv:Tp.VB l cs:=hI.vb;have hIrl:rs.length=is.length:=hI.rl;have hIml:ms.length=l.length:=hI.ml;have hIr:re≤is.length∧(0 < is.length→re < is.length):=hI.r;have hIa:at_≤is.length:=hI.a;refine zh (zn<|zd I<|zd I<|za I (zL I)<|za I (zg (n:=2) I k9)<|za I (zp 0 I I I k9 zm)<|za I (zT (e:=3) I k9)<|za I (yc I I)<|ze<|zC I (fun hb38=> ?_) (fun hb38=> ?_))
    ·have h38:(at_:Int) < (od.length:Int):=oT hb38;refine zq (zj<|SW.block<|zh ?_)
     have hat1:at_ < is.length:=by omega
     obtain ⟨o,ho⟩:∃ o,od[at_]? =some o:=⟨_,List.getElem?_eq_getElem o9⟩;obtain ⟨i,rfl⟩:∃ i:Nat,o=(i:Int):=⟨o.toNat,by have:=hod.at ho;omega⟩;have hoi:=hod.at ho;obtain ⟨y,hy⟩:∃ y,is[i]? =some y:=⟨_,List.getElem?_eq_getElem o9⟩;have hyo:=hok y (List.mem_of_getElem? hy);obtain ⟨xb,hxb,hxw⟩:=hyo.wh;obtain ⟨hk,hkx⟩:=List.getElem?_of_mem hxb
     have hix:zaZ bs y.who=(hk:Int):=by rw [← hxw];exact hv.ix hkx
     have hmem:y.who∈bs.map Tp.Bd.id:=by rw [← hxw];exact List.mem_map_of_mem hxb
     have hkb:=(List.getElem?_eq_some_iff.1 hkx).1;obtain ⟨x,hx⟩:∃ x,cs[hk]? =some x:=⟨_,List.getElem?_eq_getElem o9⟩;obtain ⟨s,hs⟩:∃ s,b.ss[hk]? =some s:=⟨_,List.getElem?_eq_getElem o9⟩;obtain ⟨k,hat⟩:∃ k:Nat,y.at_=(k:Int):=⟨y.at_.toNat,by have:=hyo.a0;omega⟩
     have hkl:k < l.length:=by have:=hyo.a1;omega
     obtain ⟨p,hp⟩:∃ p,l[k]? =some p:=⟨_,List.getElem?_eq_getElem o9⟩;obtain ⟨n,hn⟩:∃ n,rs[i]? =some n:=⟨_,List.getElem?_eq_getElem o9⟩;have hnb:=hI.rb i n hn;have hxo:=hIv.at hx;have hxl:x.bl.length=l.length:=hxo.fi.len;obtain ⟨v,hv2⟩:∃ v,x.bl[k]? =some v:=⟨_,List.getElem?_eq_getElem o9⟩;have hvf:=hxo.fi.ok k p v hp hv2;have hp1:=(hv.p k p hp).ok.2.2.1;have htk:=hIv.tot k cs.length;rw [List.take_length] at htk;obtain ⟨re2,hre⟩:∃ q:Nat,(q:Int)=max (re:Int) (at_:Int):=⟨max re at_,by omega⟩
     have hre2:re2≤is.length∧(0 < is.length→re2 < is.length):=by omega
     refine zi (zd I<|zd I<|za I (zaf I I)<|zf I<|zN<|zd I<|za I (zL I)<|za I (zg (n:=2) I k9)<|za I (zp 0 I I I k9 zm)<|zd I<|za I (zU (e:=3) 1 I I k9 k9 o9 (by rw [Int.toNat_natCast];exact ho))<|za I (zS I I k9 s9)<|zf I<|zN<|zd I<|zd I<|za I (zL I)<|za I (zg (n:=1) I k9)<|za I (zp 0 I I I k9 zm)<|zd I<|za I (zU (e:=105) 7 I I k9 k9 o9 (by simpa using hy))<|za I (yo (n:=0) I k9 (show 0 < 7 by decide))<|za I (zS I I k9 s9)<|za I (zeu (kt:=3) (et:=3) 6 I I I (zc _) k9 (fun ks=>zb5 k9 _ ks) hmem zm)<|zf I<|ze<|zh<|SW.sub (σ':=yb [(0,pA gr),(2,isD<|.map<|some g16),(5,iD (re2:Int)),(6,iD (at_:Int)),(7,iD (i:Int)),(8,iD (hk:Int))] [.c gr [lsD yA l,lsD ZA is,lsD z7 od,isD<|.slice b.A (Zb cs b.ss).length b.c,isD<|.slice t.A (zB (fun q=>Tp.tot q cs) l.length).length t.c,isD<|.slice r.A (rs).length r.c,isD<|.slice m.A (ms).length m.c],.r b.F<|yi 59 4 Yr b.A b.c<|Zb cs b.ss,.r G<|Kf<|Tp.rows cs b.ss,.r t.F<|yi 3 1 z7 t.A t.c<|zB (fun q=>Tp.tot q cs) l.length,.r r.F<|yi 3 1 z7 r.A r.c<|rs,.r m.F<|yi 3 1 z7 m.A m.c<|ms,.r [g16]<|Wu (some g16) zfF (bs.map Tp.Bd.id) (fun id=>iD<|zaZ bs id)]) (⟨⟨_,I,⟨lq I,⟨lq I,⟨⟨_,I,zI (by rw [hre])⟩,⟨lq I,⟨lq I,⟨⟨_,I,zI (by rw [hix])⟩,t9⟩⟩⟩⟩⟩⟩⟩,[0,1,2,3,4,5,6],by decide,(sX rfl)⟩)<|zi<|zd I<|zd I<|zd I ?_)
     refine Zc (yh [0,1,2,3,4,5] (con_part gr l cs (⟨b.A,b.c,b.F,b.ss,G⟩:Tp.Bst) is od rs ms t r m hl hIv hcs hi0 hIrl i hk k y x s p n hy hx hs hp hat hn o9 o9) I ⟨zc _,zc _,zc _,t9⟩ d9 (sX I) (fun _ h=>h) I) ?_;rintro _ ⟨⟨⟨d,G3⟩,hd⟩,rfl⟩;refine zf I (ze<|zh<|zn<|zd I<|za I (Zr I I)<|ze<|zC I (fun hb64=> ?_) (fun hb64=> ?_))
     ·skip
      refine zn (zd I<|za I (Rd.add I I ⟨by omega,by omega⟩)<|zf I<|ze<|zQ ?_)
      repeat (first | refine zX ?_ | refine zY d9 ?_)
      exact zZ (fun aK wK hh=>hK1 (⟨⟨cs,rs,ms,G3,re2,at_ + 1⟩,⟨hI.vb,hI.ids,hI.rl,hI.rb,hI.ml,hI.mi,by show at_ + 1≤_;omega,hre2,hI.no⟩⟩) (Tp.mu_at (s:=⟨cs,rs,ms,G,re,at_⟩) (by show at_ < _;omega)) aK wK<|hh.sub<|⟨⟨_,I,⟨lq I,⟨lq I,⟨lq I,⟨⟨_,I,zI s9⟩,t9⟩⟩⟩⟩⟩,[1,2,3,4,5,6,0],by decide,(sX rfl)⟩)
     ·skip
      refine zq (zj<|zh<|SW.sub (σ':=yb [(0,pA gr),(2,isD<|.map<|some g16),(5,iD (re2:Int)),(7,iD (i:Int)),(8,iD (hk:Int)),(9,iD d)] [.c gr [lsD yA l,lsD ZA is,lsD z7 od,isD<|.slice b.A (Zb cs b.ss).length b.c,isD<|.slice t.A (zB (fun q=>Tp.tot q cs) l.length).length t.c,isD<|.slice r.A (rs).length r.c,isD<|.slice m.A (ms).length m.c],.r b.F<|yi 59 4 Yr b.A b.c<|Zb cs b.ss,.r G3<|Kf<|Tp.rows cs b.ss,.r t.F<|yi 3 1 z7 t.A t.c<|zB (fun q=>Tp.tot q cs) l.length,.r r.F<|yi 3 1 z7 r.A r.c<|rs,.r m.F<|yi 3 1 z7 m.A m.c<|ms,.r [g16]<|Wu (some g16) zfF (bs.map Tp.Bd.id) (fun id=>iD<|zaZ bs id)]) (sB [1,2,3,4,5,6,0] I I) ?_)
      have hd0:d≠0:=by simpa using hb64
      have hdb:=hd.lo;have hdh:=hd.hi;rw [Ym hv2] at hdb hdh;have hab:=hd.ab;have hrs2:∀ (j:Nat) u,(rs.set i<|n - d)[j]? =some u→ -12≤u∧u≤12:=fun j u hu=>(zc4 hu).elim (fun e=>by omega) (hI.rb j u);refine zi (zd I<|za I (zL I)<|za I (zg (n:=1) I k9)<|za I (zp 0 I I I k9 zm)<|zd I<|za I (zU (e:=105) 7 I I k9 k9 o9 (by simpa using hy))<|za I (yo (n:=1) I k9 (show 1 < 7 by decide))<|za I (zS I I k9 s9)<|zf I<|ze<|zh<|ZU (Wq<|ZT hx hs) [2] d9 ⟨lR I,t9⟩ ?_);rintro _ ⟨G4,G5,rfl⟩;refine zi (zd I<|za I (zL I)<|za I (zg (n:=3) I k9)<|za I (zp 0 I I I k9 zm)<|zd I<|za I (yf 1 4 I I I k9 k9 o9 (by rw [yP];omega))<|za I (jL (n:=3) 1 I I (List.length_pos_of_mem<|List.mem_of_getElem? (show (Zb cs b.ss)[((hk:Nat):Int).toNat]? =some (x,some s) from by rw [Int.toNat_natCast,Ye hx,hs])) k9)<|za I (zag (k:=3) 1 4 I I k9 (show (Zb cs b.ss)[((hk:Nat):Int).toNat]? =some (x,some s) from by rw [Int.toNat_natCast,Ye hx,hs]) I d9 zm)<|zd I<|za I (yf 6 1 I I I k9 k9 o9 (by rw [hat,Int.toNat_natCast];show k < x.bl.length;omega))<|za I (yr 6 I I k9 (show x.bl[y.at_.toNat]? =some v from by rw [hat,Int.toNat_natCast];exact hv2) I zm)<|zd I<|za I (Rd.add I I ⟨by omega,by omega⟩)<|za I (yf 6 1 I I I k9 k9 o9 (by rw [hat,Int.toNat_natCast];show k < x.bl.length;omega))<|zu (S:=_) (yM (v:=(v + d)) 6 I I I I k9 (by rw [hat];omega) (fun _ h=>h))<|ze<|zh<|ZU (qQ (R:=Tp.row (Tp.upd x k<|v + d) s) (by rw [qn hcs];omega)) [7,6] d9 ⟨⟨_,I,YL (by show _=(x.bl.set k<|v + d).length;rw [List.length_set,List.length_set]) (by show _=(x.bl.set k<|v + d).flatMap z7;rw [hat,Int.toNat_natCast])⟩,⟨lR I,t9⟩⟩ ?_)
      rintro _ ⟨G6,rfl⟩;refine zi (zd I<|za I (zL I)<|za I (zg (n:=4) I k9)<|za I (zp 0 I I I k9 zm)<|zd I<|za I (yf 2 1 I I I k9 k9 o9 (by rw [zW,hat];omega))<|za I (yr 2 I I k9 (show (zB (fun q=>Tp.tot q cs) l.length)[y.at_.toNat]? =some (Tp.tot k cs) from by rw [hat,Int.toNat_natCast];exact yU hkl) I zm)<|zd I<|za I (Rd.add I I ⟨by omega,by omega⟩)<|za I (yf 2 1 I I I k9 k9 o9 (by rw [zW,hat];omega))<|zu (S:=_) (yM (v:=(Tp.tot k cs + d)) 2 I I I I k9 (by rw [zW,hat];omega) (fun _ h=>h))<|zN<|zd I<|za I (zL I)<|za I (zg (n:=5) I k9)<|za I (zp 0 I I I k9 zm)<|zd I<|za I (yf 2 1 I I I k9 k9 o9 o9)<|za I (yr 2 I I k9 (by rw [Int.toNat_natCast];exact hn) I zm)<|zd I<|za I (yG I I ⟨by omega,by omega⟩)<|za I (yf 2 1 I I I k9 k9 o9 o9)<|zu (S:=_) (yM (v:=(n - d)) 2 I I I I k9 o9 (fun _ h=>h))<|ze<|zh<|zn<|zd I<|za I (yc I I)<|ze<|zC I (fun hb110=> ?_) (fun hb110=> ?_))
      ·have h110:d < 0:=oT hb110;obtain ⟨q,hq⟩:∃ q,od[re2]? =some q:=⟨_,List.getElem?_eq_getElem o9⟩
       exact yl (m.F ++ []) (rr [0,1,2,3,4,5,6,7,8,9,10]<|.q 11<|.r 12<|.e 13 .fin .no) k9 k9 (fun d _ _ _ _ h=>by cases d <;> exact h) (zz I I<|zl I I (zL I)<|zl I I (zg (n:=6) I k9)<|zl I I (zp 0 I I I k9<|Zl 2 I d9 zm)<|zz I I<|zz I I<|zl I I (zL I)<|zl I I (zg (n:=2) I k9)<|zl I I (zp 0 I I I k9<|Zl 2 I d9 zm)<|zz I I<|zl I I (zU (e:=3) 1 I I k9 k9 o9 (by rw [Int.toNat_natCast];exact hq))<|ZX I I (zS I I k9 s9)<|zl I I (yf 2 1 I I I k9 k9 o9 (by rw [hat];omega))<|Zm I (yM (v:=q) 2 I I I I k9 (by rw [hat];omega) (fun _ h=>mL _ h))<|yE<|zi<|zf I<|zF<|SN.block (fun aK wK hh=>hK1 (⟨⟨(cs.set hk<|Tp.upd x k<|v + d),rs.set i<|n - d,ms.set k q,G6,re2,0⟩,⟨hIv.upd hx hp hv2 hd,by rw [Vm hx];exact hI.ids,by rw [List.length_set];exact hI.rl,hrs2,by rw [List.length_set];exact hI.ml,fun j u hu=>(zc4 hu).elim (fun e=>by rw [e];have:=hod.at hq;omega)<|hI.mi j u,Nat.zero_le _,hre2,fun h=>absurd h o9⟩⟩) (zep<|Tp.sm_set hn<|hd.lt hd0) aK wK<|hh.sub<|⟨⟨_,I,(sT I)⟩,[0,1,3,4,5,6,2],by decide,⟨⟨_,rfl,⟨zc _,zc _,zc _,zI (by simp only [yP,List.length_set]),zI (by simp only [zW,List.length_set]),zI (by simp only [List.length_set]),zI (by simp only [List.length_set]),trivial⟩⟩,⟨⟨_,rfl,YL (by simp only [yP,List.length_set]) (zcE hx hs).symm⟩,⟨⟨_,rfl,(by dsimp only;rw [WW hs];exact zM _)⟩,⟨⟨_,rfl,YL (by simp only [zW,List.length_set]) (by dsimp only;rw [hat,Int.toNat_natCast,zaY hx hv2 hkl])⟩,⟨⟨_,rfl,YL (by simp only [List.length_set]) (by simp only [Int.toNat_natCast])⟩,⟨⟨_,rfl,YL (by simp only [List.length_set]) (by dsimp only;rw [hat,Int.toNat_natCast])⟩,⟨lR rfl,trivial⟩⟩⟩⟩⟩⟩⟩⟩))
      ·have h110:¬d < 0:=oF hb110;exact zq (zj<|zi<|zf I<|zF<|SN.block (fun aK wK hh=>hK1 (⟨⟨(cs.set hk<|Tp.upd x k<|v + d),rs.set i<|n - d,ms,G6,re2,0⟩,⟨hIv.upd hx hp hv2 hd,by rw [Vm hx];exact hI.ids,by rw [List.length_set];exact hI.rl,hrs2,hI.ml,hI.mi,Nat.zero_le _,hre2,fun h=>absurd h o9⟩⟩) (zep<|Tp.sm_set hn<|hd.lt hd0) aK wK<|hh.sub<|⟨⟨_,I,(sT I)⟩,[0,1,4,5,6,2,3],by decide,⟨⟨_,rfl,⟨zc _,zc _,zc _,zI (by simp only [yP,List.length_set]),zI (by simp only [zW,List.length_set]),zI (by simp only [List.length_set]),zI (by simp only [List.length_set]),trivial⟩⟩,⟨⟨_,rfl,YL (by simp only [yP,List.length_set]) (zcE hx hs).symm⟩,⟨⟨_,rfl,(by dsimp only;rw [WW hs];exact zM _)⟩,⟨⟨_,rfl,YL (by simp only [zW,List.length_set]) (by dsimp only;rw [hat,Int.toNat_natCast,zaY hx hv2 hkl])⟩,⟨⟨_,rfl,YL (by simp only [List.length_set]) (by simp only [Int.toNat_natCast])⟩,⟨⟨_,rfl,(zM _)⟩,⟨lR rfl,trivial⟩⟩⟩⟩⟩⟩⟩⟩))
    ·have h38:¬(at_:Int) < (od.length:Int):=oF hb38;refine zQ ?_
     repeat (first | refine zX ?_ | refine zY d9 ?_)
     refine zZ (Ko (fn:=Tryz.f40) (⟨⟨cs,rs,ms,G,re,at_⟩,hI⟩) [0,1,2,3,4,5] (Rs.le (Rs.none I) ?_) d9<|sX I);exact zc _
end
section
def Tp.st (l:List Tp.Pr) (ac:Int) (c:Tp.Bd):Tp.Bd:=⟨c.id,(Tp.keep c.el c.wv (YO l c.bl) ac).1,(Tp.keep c.el c.wv (YO l c.bl) ac).2,c.bl⟩
theorem Tp.VB.st {l:List Tp.Pr} {cs:List Tp.Bd} {ac:Int} (h:Tp.VB l cs) (h1:1≤ac) (h2:ac≤100):Tp.VB l (cs.map<|Tp.st l ac):=by
 refine ⟨by rw [JO];exact h.n,h.p,fun i b hb=> ?_⟩;rw [VG (bs:=cs) (by rw [List.map_map];rfl)];rw [JJ] at hb
 cases hc:cs[i]? with
 | none=>rw [hc] at hb;cases hb
 | some c=>
  rw [hc] at hb;obtain rfl:=JN hb;have h3:=h.ok i c hc;have hu:0≤YO l c.bl:=(j4 h.p h3.fi _<|Js _).1;have h4:=zfy h3.e0 h3.e1 h3.w0 h3.w1 hu h3.un h1 h2;exact ⟨h3.i0,h3.i1,by show 0≤(Tp.keep c.el c.wv (YO l c.bl) ac).1;omega,h4.2.1,h4.2.2.1,h4.2.2.2,h3.fi,h4.1⟩
def Tp.zb:Tp.Bd × Option Wst:=(⟨0,0,0,[]⟩,some ⟨none,0,[]⟩)
def Tp.sv (l:List Tp.Pr) (ac:Int) (cs:List Tp.Bd) (i:Nat):List (Tp.Bd × Option Wst):=(cs.take i).map (fun c=>(Tp.st l ac c,none)) ++ List.replicate (cs.length - i) Tp.zb
theorem Yt {l:List Tp.Pr} {ac:Int} {cs:List Tp.Bd} {i:Nat} (h:i≤cs.length):(Tp.sv l ac cs i).length=cs.length:=by
 unfold Tp.sv;rw [Jk,JO,JE,List.length_replicate];omega
theorem Tp.sv_set {l:List Tp.Pr} {ac:Int} {cs:List Tp.Bd} {i:Nat} {x:Tp.Bd} (hx:cs[i]? =some x):(Tp.sv l ac cs i).set i (Tp.st l ac x,none)=Tp.sv l ac cs (i + 1):=by
 have hi:=(Jg.1 hx).1;unfold Tp.sv;rw [Xa _ _ (by rw [JO,JE];omega),JO,JE,show i - min i cs.length=0 by omega,show cs.length - i=(cs.length - (i + 1)) + 1 by omega,Xc,List.set_cons_zero,List.take_add_one,hx,XG,Jq]
 rfl
theorem Tp.sv_all {l:List Tp.Pr} {ac:Int} {cs:List Tp.Bd}:(Tp.sv l ac cs cs.length).flatMap Yr=(cs.map<|Tp.st l ac).flatMap yK:=by
 unfold Tp.sv;rw [Nat.sub_self,List.replicate_zero,JS,List.take_length,List.flatMap_map,List.flatMap_map]
 rfl
def Tp.Up (n:Nat) (ps ys:List Int):Prop:=ys.length=n∧∀ (i:Nat) y x,ys[i]? =some y→ps[i]? =some x→x≤y∧y≤549755813888
theorem Tp.frac {c num den:Int} (hc:0≤c) (hc2:c≤549755813888) (hn:0≤num) (hnd:num≤den) (hd:0 < den) (hd2:den≤1000):0≤c * num∧c * num≤549755813888000∧0≤c * num / max den 1∧c * num / max den 1≤c:=by
 have h1:0≤c * num:=Int.mul_nonneg hc hn;have h2:c * num≤c * den:=Int.mul_le_mul_of_nonneg_left hnd hc;have h3:c * den≤549755813888 * 1000:=Int.mul_le_mul hc2 hd2 o9 d9
 have h4:max den 1=den:=by omega
 rw [h4];refine ⟨h1,by omega,Int.ediv_nonneg h1 o9,?_⟩;have h5:c * num / den≤c * den / den:=Int.ediv_le_ediv hd h2;rw [Int.mul_ediv_cancel _ (by omega:den≠0)] at h5;exact h5
theorem zar {x:Int} (h0:0≤x) (h1:x≤1000):valV x=x:=by unfold valV;rw [Jh o9]
theorem zdc (ga:Nat) (a:Tp.Au) (ho:Tp.AOk a) (cs:List Tp.Bd) (b:Tp.Bst) (G:LN) (hv:Tp.VB a.cat cs) (hss:b.ss.length=cs.length):ConR Tryz.prog 41 [.c ga [lsD yA a.cat,lsD yK a.bs,iD a.ac,iD a.st,bD a.key,iD (a.rd:Int),lsD z7 a.pr],.r b.F<|yi 59 4 Yr b.A b.c<|Zb cs b.ss,.r G<|Kf<|Tp.rows cs b.ss] [pA ga,isD<|.slice b.A (Zb cs b.ss).length b.c] (fun t:Unit × Unit × LN=>[.c ga [lsD yA a.cat,lsD yK a.bs,iD a.ac,iD a.st,bD a.key,iD (a.rd:Int),lsD z7 a.pr],.r b.F<|yi 59 4 Yr b.A b.c<|Zb cs b.ss,.r t.2.2<|Kf<|Tp.rows cs b.ss]) (fun t:Unit × Unit × LN=>ZH [lsD yK<|cs.map<|Tp.st a.cat a.ac,iD 0]):=by
 have hcl:=ho.hl;have hn:=hv.n;have hc0:=ho.c0;have hc1:=ho.c1;refine yt Tryz.func41 k9 I k9 fun base w0=>(zn<|zf I<|zf I<|zN<|zd I<|za I (Zx (e:=59) I k9) (SWl.e2 (S:=[]) (V9 (e:=59) (n:=cs.length) (z:= .agg #[.int .i64 0,.int .i64 0,.int .i64 0,.slice none 0 0]) Yr Tp.zb 4 48 I I k9 k9 k9 d9 I (by rw [yP]) (by rw [yP]) o9 d9 I) fun g13=>(zf I<|ze<|zh<|zn<|zd I<|za I (Zx (e:=59) I k9)<|zd I<|ze<|SW.block<|yd (ι:={p:Nat × LN // p.1≤cs.length}) (fun p=>yb [(0,pA ga),(6,isD<|.slice (some ⟨g13,0,none⟩) (Tp.sv a.cat a.ac cs p.1.1).length cs.length),(14,isD<|.slice b.A (Zb cs b.ss).length b.c),(15,iD ((Zb cs b.ss).length:Int)),(16,iD (p.1.1:Int))] [.c ga [lsD yA a.cat,lsD yK a.bs,iD a.ac,iD a.st,bD a.key,iD (a.rd:Int),lsD z7 a.pr],.r b.F<|yi 59 4 Yr b.A b.c<|Zb cs b.ss,.r p.1.2<|Kf<|Tp.rows cs b.ss,.r [g13]<|yi 59 4 Yr (some ⟨g13,0,none⟩) cs.length<|Tp.sv a.cat a.ac cs p.1.1]) (fun p=>cs.length - p.1.1) (⟨(0,G),JC _⟩) ?_ ?_)))
 ·exact ⟨⟨_,I,⟨lq I,⟨⟨_,I,zI (by rw [Yt<|JC _])⟩,(sT I)⟩⟩⟩,[0,1,2,3],by decide,⟨la rfl,⟨lR rfl,⟨lR rfl,⟨⟨_,rfl,YL (by rw [Yt<|JC _,List.length_replicate]) (by simp [Tp.sv])⟩,trivial⟩⟩⟩⟩⟩
 ·rintro ⟨⟨i,G⟩,hi⟩ K0 hK0;dsimp only at hi ⊢;refine zn (za I (yc I I)<|ze<|zh<|zC I (fun hb17=> ?_) (fun hb17=> ?_))
  ·have h17:i < cs.length:=by have h:=oT hb17;rw [yP] at h;omega
   refine zq (zj<|zh<|SW.block<|zh ?_);obtain ⟨x,hx⟩:∃ x,cs[i]? =some x:=⟨_,Je o9⟩;obtain ⟨s,hs⟩:∃ s,b.ss[i]? =some s:=⟨_,Je o9⟩;refine ZU (Wq<|ZT hx hs) [2] d9 ⟨lR I,t9⟩ ?_;rintro _ ⟨G1,G2,rfl⟩;refine zi (zd I<|za I (yf 1 4 I I I k9 k9 o9 (by rw [yP];omega))<|za I (VY 1 4 I I k9 (show (Zb cs b.ss)[((i:Nat):Int).toNat]? =some (x,some s) from by rw [J7,Ye hx,hs]) zm) (SWl.e2 (S:=[]) (Ef.alloc (zs:=[.int .i64 0,.int .i64 0,.int .i64 0,.slice none 0 0]) k9 I) fun g8=>(zf I<|zu (S:=[_]) (zA 5 I I I k9 I<|m9 I)<|ze<|zh<|jq (fun σ=>∃ g9,σ=yb [(0,pA ga),(6,isD<|.slice (some ⟨g13,0,none⟩) (Tp.sv a.cat a.ac cs i).length cs.length),(14,isD<|.slice b.A (Zb cs b.ss).length b.c),(15,iD ((Zb cs b.ss).length:Int)),(16,iD (i:Int)),(7,iD (i:Int)),(9,pA g9),(10,iD 0)] [.c ga [lsD yA a.cat,lsD yK a.bs,iD a.ac,iD a.st,bD a.key,iD (a.rd:Int),lsD z7 a.pr],.r b.F<|yi 59 4 Yr b.A b.c<|Zb cs b.ss,.r [g13]<|yi 59 4 Yr (some ⟨g13,0,none⟩) cs.length<|Tp.sv a.cat a.ac cs i,.r G1<|yi 3 1 z7 s.A s.c x.bl,.r G2<|zeI (Tp.rows cs b.ss) i,.c g9 [iD (Tp.st a.cat a.ac x).id,iD (Tp.st a.cat a.ac x).el,iD (Tp.st a.cat a.ac x).wv,lsD z7 (Tp.st a.cat a.ac x).bl]]) ?_ ?_)))
   ·refine yl (G1 ++ []) (rr [0,1,2,3,4,5,6,7,8,9]<|.e 10 (rr [11,12,13]<|.n 14 (.e 15 (.r 16 .fin) .no) .no)<|.n 14 (.e 10 (rr [11,12,13]<|.e 15 (.r 16 .fin) .no) .no) .no) k9 k9 (fun d _ _ _ _ h=>by cases d <;> exact h) (zz I I<|zl I I (zL I)<|zl I I (zg (n:=0) I k9)<|zl I I (zp 0 I I I k9<|Zl 3 I d9 zm)<|zl I I (zx 5 4 I I k9 I<|Zl 3 I d9 zm)<|zz I I<|zl I I (zL I)<|zl I I (zg (n:=2) I k9)<|zl I I (zg (n:=0) I k9)<|zl I I (zp 0 I I I k9<|Zl 3 I d9 zm)<|jI I (yh [3] (zaN a.cat x G1 s.A s.c o9 hv.p (hv.at hx) a.ac hc0 hc1) I ⟨zc _,zc _,zc _,t9⟩ d9 ⟨lR I,t9⟩ (fun _ h=>h) I) ?_ ?_)
    ·rintro _ ⟨⟨⟩,rfl⟩;refine zz I I (zl I I (zo I I)<|zl I I (zo I I)<|zbE I (EfB.alloc (zs:=[.int .i64 0,.int .i64 0,.int .i64 0,.slice none 0 0]) k9 I) ?_ yB);rintro g9 _ rfl;exact Zm I (zA 6 I I I k9 I<|mR _ mC) (yR I I<|y9<|Zw ⟨g9,I⟩<|sB [0,1,2,5,3,6] I I)
    refine zbE I (EfB.alloc (zs:=[.int .i64 0,.int .i64 0,.int .i64 0,.slice none 0 0]) k9 I) ?_ yB;rintro g9 _ rfl;refine jI I (yh [3] (zaN a.cat x G1 s.A s.c o9 hv.p (hv.at hx) a.ac hc0 hc1) I ⟨zc _,zc _,zc _,t9⟩ d9 ⟨lR I,t9⟩ (fin_r (fun _ h=>mL _<|mL _ h) fin_nil) I) ?_ yB;rintro _ ⟨⟨⟩,rfl⟩;exact zz I I (zl I I (zo I I)<|zl I I (zo I I)<|Zm I (zA 5 I I I k9 I<|mR _ mC)<|yR I I<|y9<|Zw ⟨g9,I⟩<|sB [0,1,2,6,3,5] I I)
   ·rintro _ ⟨g9,rfl⟩;refine zj (zh<|zn<|zd I<|za I (yv I I)<|ze<|zK I I<|zq<|zj<|zi<|zd I<|zd I<|za I (zx 5 4 I I k9 I zm)<|za I (yf 2 4 I I I k9 k9 o9 (by rw [Yt o9];omega))<|zu (S:=_) (KY (v:=((Tp.st a.cat a.ac x),none)) 2 4 I I I k9 (by rw [Yt o9,J7];omega) (fun _ h=>h))<|zF<|SN.block<|zj<|ZU (qQ (by rw [qn hss];omega)) [2,3] d9 (sX I) ?_);rintro _ ⟨G3,rfl⟩
    exact zi (za I (Rd.add I I ⟨by omega,by omega⟩)<|zd I<|zF (fun aK wK hh=>hK0 (⟨(i + 1,G3),by dsimp only;omega⟩) (by dsimp only;omega) aK wK<|hh.sub<|⟨⟨_,I,⟨lq I,⟨⟨_,I,zI (by simp only [List.length_set];rw [Yt o9,Yt o9])⟩,⟨lq I,⟨lq I,⟨⟨_,I,zI s9⟩,t9⟩⟩⟩⟩⟩⟩,[0,1,4,3],by decide,⟨la rfl,⟨lR rfl,⟨⟨_,rfl,(by first | (rw [YY<|ZT hx hs];exact zM _) | (rw [← zdL,YY<|ZT hx hs];exact zM _))⟩,⟨⟨_,rfl,YL (by simp only [List.length_set];rw [Yt o9,Yt o9]) (by dsimp only;rw [Int.toNat_natCast,Tp.sv_set hx])⟩,trivial⟩⟩⟩⟩⟩))
  ·have h17:¬i < cs.length:=by have h:=oF hb17;rw [yP] at h;omega
   refine zQ ?_
   repeat (first | refine zX ?_ | refine zY d9 ?_)
   refine zZ (zj<|zh<|SW.sub (σ':=yb [(6,isD<|.slice (some ⟨g13,0,none⟩) (cs.map<|Tp.st a.cat a.ac).length cs.length)] [.c ga [lsD yA a.cat,lsD yK a.bs,iD a.ac,iD a.st,bD a.key,iD (a.rd:Int),lsD z7 a.pr],.r b.F<|yi 59 4 Yr b.A b.c<|Zb cs b.ss,.r G<|Kf<|Tp.rows cs b.ss,.r [g13]<|yi 59 4 yK (some ⟨g13,0,none⟩) cs.length<|cs.map<|Tp.st a.cat a.ac]) (⟨⟨_,I,⟨⟨_,I,zI (by rw [Yt hi,JO])⟩,t9⟩⟩,[0,1,2,3],by decide,⟨la rfl,⟨lR rfl,⟨lR rfl,⟨⟨_,rfl,YL (by rw [Yt hi,JO]) (by rw [show i=cs.length by omega,Tp.sv_all])⟩,trivial⟩⟩⟩⟩⟩)<|zi<|zd I<|zf I<|zf I<|ze<|SW.freezeT 3 4 I I (zc _)<|zV (fn:=Tryz.f41) (((),(),G)) [0,1,2] (fun _ _ h=>h) (Rs.le (Rs.two I (zk I)<|zk I) ?_) d9<|sX I);exact zc _
end
section
theorem step {ps ys:List Int} {i:Nat} {p v:Int} (h:∀ (j:Nat) y x,ys[j]? =some y→ps[j]? =some x→x≤y∧y≤549755813888∧(i≤j→y=x)) (hp:ps[i]? =some p) (h1:p≤v∧v≤549755813888):∀ (j:Nat) y x,(ys.set i v)[j]? =some y→ps[j]? =some x→x≤y∧y≤549755813888∧(i + 1≤j→y=x):=fun j y x hy hx=>by
 by_cases e:i=j
 ·subst e
  by_cases hi:i < ys.length
  ·rw [List.getElem?_set_self hi] at hy;obtain rfl:=JN hy;rw [hp] at hx;obtain rfl:=JN hx;exact ⟨h1.1,h1.2,fun h=>absurd h o9⟩
  ·rw [JM (by rw [Xl];omega)] at hy;cases hy
 ·rw [List.getElem?_set_ne e] at hy;have h2:=h j y x hy hx;exact ⟨h2.1,h2.2.1,fun h3=>h2.2.2 o9⟩
theorem zfb (gr:Nat) (a:Tp.Au) (ho:Tp.AOk a) (hck:∀ k < a.cat.length,Yd a k≤549755813888) (cs:List Tp.Bd) (b:Tp.Bst) (is:List Tp.Bi) (od rs ms:List Int) (t r m:Wst) (G:LN) (hv:Tp.VB a.cat cs) (hml:ms.length=a.cat.length) (hmi:∀ (i:Nat) v,ms[i]? =some v→0≤v∧(v < (is.length:Int)∨is.length=0)) (hno:is.length=0→cs=a.bs) (hpt:∀ x∈is,VR x.pt) (hi0:is.length≤19):ConR Tryz.prog 42 [.c gr [lsD yA a.cat,lsD ZA is,lsD z7 od,isD<|.slice b.A (Zb cs b.ss).length b.c,isD<|.slice t.A (zB (fun q=>Tp.tot q cs) a.cat.length).length t.c,isD<|.slice r.A (rs).length r.c,isD<|.slice m.A (ms).length m.c],.r b.F<|yi 59 4 Yr b.A b.c<|Zb cs b.ss,.r G<|Kf<|Tp.rows cs b.ss,.r t.F<|yi 3 1 z7 t.A t.c<|zB (fun q=>Tp.tot q cs) a.cat.length,.r r.F<|yi 3 1 z7 r.A r.c<|rs,.r m.F<|yi 3 1 z7 m.A m.c<|ms] [pA gr,lsD z7 a.pr,lsD z7<|zB (Yd a) a.cat.length,lsD z7<|zB (Y7 a) a.cat.length] (fun u:{ys:List Int // Tp.Up a.cat.length a.pr ys}=>[.c gr [lsD yA a.cat,lsD ZA is,lsD z7 od,isD<|.slice b.A (Zb cs b.ss).length b.c,isD<|.slice t.A (zB (fun q=>Tp.tot q cs) a.cat.length).length t.c,isD<|.slice r.A (rs).length r.c,isD<|.slice m.A (ms).length m.c],.r b.F<|yi 59 4 Yr b.A b.c<|Zb cs b.ss,.r G<|Kf<|Tp.rows cs b.ss,.r t.F<|yi 3 1 z7 t.A t.c<|zB (fun q=>Tp.tot q cs) a.cat.length,.r r.F<|yi 3 1 z7 r.A r.c<|rs,.r m.F<|yi 3 1 z7 m.A m.c<|ms]) (fun u:{ys:List Int // Tp.Up a.cat.length a.pr ys}=>lsD z7 u.1):=by
 have hpl:=ho.pl;have hcl:=ho.hl;have hs0:=ho.s0;have hs1:=ho.s1;refine yt Tryz.func42 k9 I k9 fun base w0=>(zn<|zf I<|zN<|zd I (SWl.e2 (S:=[]) (yh [] (Kj a.pr o9) I ⟨zc _,t9⟩ d9 t9 (fun _ h=>h) I) fun s=>(zf I<|ze<|zh<|zn<|zd I<|za I (zL I)<|za I (zg (n:=0) I k9)<|za I (zp 0 I I I k9 zm)<|za I (zT (e:=61) I k9)<|zd I<|ze<|SW.block<|yd (ι:={p:Nat × List Int // p.1≤a.cat.length∧p.2.length=a.cat.length∧∀ (j:Nat) y x,p.2[j]? =some y→a.pr[j]? =some x→x≤y∧y≤549755813888∧(p.1≤j→y=x)}) (fun p=>yb [(0,pA gr),(1,lsD z7 a.pr),(2,lsD z7<|zB (Yd a) a.cat.length),(3,lsD z7<|zB (Y7 a) a.cat.length),(9,isD<|.slice s.A (p.1.2).length s.c),(22,lsD yA a.cat),(23,iD (a.cat.length:Int)),(24,iD (p.1.1:Int))] [.c gr [lsD yA a.cat,lsD ZA is,lsD z7 od,isD<|.slice b.A (Zb cs b.ss).length b.c,isD<|.slice t.A (zB (fun q=>Tp.tot q cs) a.cat.length).length t.c,isD<|.slice r.A (rs).length r.c,isD<|.slice m.A (ms).length m.c],.r b.F<|yi 59 4 Yr b.A b.c<|Zb cs b.ss,.r G<|Kf<|Tp.rows cs b.ss,.r t.F<|yi 3 1 z7 t.A t.c<|zB (fun q=>Tp.tot q cs) a.cat.length,.r r.F<|yi 3 1 z7 r.A r.c<|rs,.r m.F<|yi 3 1 z7 m.A m.c<|ms,.r s.F<|yi 3 1 z7 s.A s.c<|p.1.2]) (fun p=>a.cat.length - p.1.1) (⟨(0,a.pr),JC _,hpl,fun j y x hy hx=>by rw [hx] at hy;obtain rfl:=JN hy;have:=ho.pb j x hx;exact ⟨Int.le_refl _,this.2,fun _=>rfl⟩⟩) ?_ ?_)))
 ·exact (sB [0,1,2,3,4,5,6] I I)
 ·rintro ⟨⟨i,ys⟩,hi,hyl,hyp⟩ K0 hK0;dsimp only at hi hyl hyp ⊢;refine zn (za I (yc I I)<|ze<|zh<|zC I (fun hb25=> ?_) (fun hb25=> ?_))
  ·have h25:(i:Int) < (a.cat.length:Int):=oT hb25;refine zq (zj<|zh<|SW.block<|zh ?_);obtain ⟨c,hc⟩:∃ c,a.cat[i]? =some c:=⟨_,Je o9⟩;obtain ⟨p,hp⟩:∃ p,a.pr[i]? =some p:=⟨_,Je o9⟩;obtain ⟨y,hy⟩:∃ y,ys[i]? =some y:=⟨_,Je o9⟩;have hyx:=hyp i y p hy hp;have hyq:y=p:=hyx.2.2 (Js _);have hpb:=ho.pb i p hp;have hpa:=WX hp;have hcb:=zcC (e:=Y7 a i) hpb.1 hpb.2 hs0 hs1;have hci:=hck i o9
   have hcp:p≤Yd a i:=by rw [Yd,hpa];exact hcb.2.2.1
   have hpo:=(ho.vb.p i c hc).ok.2.2.1
   refine zi (zd I<|za I (zU (e:=61) 5 I I k9 k9 o9 (by simpa using hc))<|za I (yn 5 I k9 d9 (show 5≤5 by decide) s9) (SWl.e2 (S:=[]) (Ef.alloc (zs:=[.int .i64 0,.int .i64 0,.int .i64 0,.int .i64 0,.int .i64 0]) k9 I) fun g11=>(zf I<|zu (S:=[_]) (zA 7 I I I k9 I<|m9 I)<|ze<|SW.block<|zh<|yl [] (rr [0,1,2,3,4,5,6,7,8,9,10] .fin) k9 k9 (fun d _ _ _ _ h=>by cases d <;> exact h)<|zz I I<|zl I I (zL I)<|zl I I (zg (n:=4) I k9)<|zl I I (zp 0 I I I k9 zm)<|zz I I<|zl I I (yf 3 1 I I I k9 k9 o9 (by rw [zW];omega))<|zl I I (yr 3 I I k9 (by rw [J7];exact yU o9) I zm)<|zl I I (zg (n:=2) I k9)<|zl I I (zp 7 I I I k9 zm)<|zl I I (yV I I)<|yR I I<|yE<|zC I (fun hb29=> ?_) (fun hb29=> ?_))))
   ·skip
    exact zi (zd I<|zd I<|zd I<|zd I<|za I (zU (e:=3) 1 I I k9 k9 o9 (by rw [Int.toNat_natCast];exact yU o9))<|za I (zS I I k9 s9)<|za I (yf 6 1 I I I k9 k9 o9 (by rw [Int.toNat_natCast];omega))<|zu (S:=_) (yM (v:=(Yd a i)) 6 I I I I k9 (by rw [Int.toNat_natCast];omega) (fun _ h=>h))<|zF<|SN.block<|SN.block<|zj<|zi<|za I (Rd.add I I ⟨by omega,by omega⟩)<|zd I<|zF (fun aK wK hh=>hK0 (⟨(i + 1,ys.set i<|Yd a i),by dsimp only;omega,by dsimp only;rw [List.length_set];exact hyl,step (i:=i) hyp hp ⟨hcp,hci⟩⟩) (by dsimp only;omega) aK wK<|hh.sub<|⟨⟨_,I,⟨lq I,⟨lq I,⟨lq I,⟨lq I,⟨⟨_,I,zI (by simp only [List.length_set])⟩,⟨lq I,⟨lq I,⟨⟨_,I,zI s9⟩,t9⟩⟩⟩⟩⟩⟩⟩⟩⟩,[0,1,2,3,4,5,7],by decide,⟨la rfl,⟨lR rfl,⟨lR rfl,⟨lR rfl,⟨lR rfl,⟨lR rfl,⟨⟨_,rfl,YL (by simp only [List.length_set]) (by simp only [Int.toNat_natCast])⟩,trivial⟩⟩⟩⟩⟩⟩⟩⟩))
   ·have h39:¬Tp.tot i cs > c.su:=oF hb29;refine zn (zd I<|zd I<|za I (zU (e:=3) 1 I I k9 k9 o9 (by rw [J7];exact yU o9))<|za I (zS I I k9 s9)<|za I (yV I I)<|zf I<|ze<|zC I (fun hb47=> ?_) (fun hb47=> ?_))
    ·have h52:Y7 a i > 0:=oT hb47;refine zh ?_
     have hne:is.length≠0:=fun h0=>by (have h1:=hno h0;rw [h1] at h39;have h2:Y7 a i > 0:=h52;unfold Y7 Tp.ex at h2;rw [WV hc] at h2;dsimp only at h2;omega)
     obtain ⟨u,hu⟩:∃ u,ms[i]? =some u:=⟨_,Je o9⟩;have hub:=hmi i u hu;obtain ⟨z,hz⟩:∃ z,is[u.toNat]? =some z:=⟨_,Je o9⟩;obtain ⟨nn,d,hG,hze,hn0,hnd,hd1⟩:=hpt z (Jc hz);have hdp:=hG.pos;have hfr:=Tp.frac (c:=Yd a i - p) o9 o9 hn0 hnd hdp hd1
     refine yl [] (rr [0,1,2,3,4,5,6,7,8,9,10,11,12,13]<|.n 14 (.e 15 .fin .no) .no) k9 k9 (fun d _ _ _ _ h=>by cases d <;> exact h) (zz I I<|zl I I (zL I)<|zl I I (zg (n:=1) I k9)<|zl I I (zp 0 I I I k9 zm)<|zz I I<|zl I I (zL I)<|zl I I (zg (n:=6) I k9)<|zl I I (zp 0 I I I k9 zm)<|zz I I<|zl I I (yf 5 1 I I I k9 k9 o9 (by rw [J7];omega))<|zl I I (yr 5 I I k9 (by rw [J7];exact hu) I zm)<|zl I I (zU (e:=105) 7 I I k9 k9 o9 hz)<|zl I I (yo (n:=3) I k9 (show 3 < 7 by decide))<|zl I I (yn 4 I k9 d9 (show 4≤4 by decide) s9)<|zbE I (EfB.alloc (zs:=[.bool false,.slice none 0 0,.bool false,.slice none 0 0]) k9 I) ?_ yB)
     rintro g12 _ rfl
     refine Zm I (zA 8 I I I k9 I<|mR _ mC) (yE<|zh<|SW.sub (σ':=yb [(0,_),(1,_),(2,_),(3,_),(9,_),(22,_),(23,_),(24,_),(10,_),(12,_)] [.c gr [lsD yA a.cat,lsD ZA is,lsD z7 od,isD<|.slice b.A (Zb cs b.ss).length b.c,isD<|.slice t.A (zB (fun q=>Tp.tot q cs) a.cat.length).length t.c,isD<|.slice r.A (rs).length r.c,isD<|.slice m.A (ms).length m.c],.r b.F<|yi 59 4 Yr b.A b.c<|Zb cs b.ss,.r G<|Kf<|Tp.rows cs b.ss,.r t.F<|yi 3 1 z7 t.A t.c<|zB (fun q=>Tp.tot q cs) a.cat.length,.r r.F<|yi 3 1 z7 r.A r.c<|rs,.r m.F<|yi 3 1 z7 m.A m.c<|ms,.r s.F<|yi 3 1 z7 s.A s.c<|ys,.c g12<|zak nn d]) (⟨⟨_,I,(sT I)⟩,[0,1,2,3,4,5,6,8],by decide,⟨la rfl,⟨lR rfl,⟨lR rfl,⟨lR rfl,⟨lR rfl,⟨lR rfl,⟨lR rfl,⟨⟨_,rfl,(zd2 hze)⟩,trivial⟩⟩⟩⟩⟩⟩⟩⟩⟩)<|zi<|za I (zg (n:=0) I k9)<|za I (zx 7 2 I I k9 I zm)<|zu (S:=[]) (zv (zaJ hG.hn) I ⟨zc _,t9⟩ I)<|zd I<|za I (zo I I)<|za I (zo I I)<|zf I<|zf I<|zN<|za I (zg (n:=2) I k9)<|za I (zx 7 2 I I k9 I zm)<|zu (S:=[]) (zv (zaJ hG.hd) I ⟨zc _,t9⟩ I)<|zd I<|za I (zo I I)<|za I (zo I I)<|zf I<|zf I<|ze<|SW.sub (σ':=yb [(0,_),(1,_),(2,_),(3,_),(9,_),(22,_),(23,_),(24,_),(10,_),(13,iD nn),(15,iD d)] [_,_,_,_,_,_,_]) (⟨⟨_,I,⟨lq I,⟨lq I,⟨lq I,⟨lq I,⟨lq I,⟨lq I,⟨lq I,⟨lq I,⟨lq I,⟨⟨_,I,(by rw [zar hn0 o9];exact zc _)⟩,⟨⟨_,I,(by rw [zar o9 hd1];exact zc _)⟩,t9⟩⟩⟩⟩⟩⟩⟩⟩⟩⟩⟩⟩,[0,1,2,3,4,5,6],by decide,(sX rfl)⟩)<|yl (s.F ++ []) (rr [0,1,2]<|.q 3<|rr [4,5,6]<|.q 7<|rr [8,9,10]<|.q 11<|rr [12,13,14,15,16,17,18,19]<|.e 20 .fin .no) k9 k9 (fun d _ _ _ _ h=>by cases d <;> exact h)<|zz I I<|zz I I<|zl I I (yf 6 1 I I I k9 k9 o9 (by rw [J7];omega))<|ZX I I (yr 6 I I k9 (by rw [J7];exact hy) I zm)<|zz I I<|zz I I<|zl I I (zU (e:=3) 1 I I k9 k9 o9 (by rw [J7];exact yU o9))<|ZX I I (zS I I k9 s9)<|zz I I<|zz I I ?_)
     exact zl I I (zU (e:=3) 1 I I k9 k9 o9 (by rw [Int.toNat_natCast];exact hp)) (ZX I I (zS I I k9 s9)<|zl I I (yG I I ⟨by omega,by omega⟩)<|zz I I<|zl I I (Rd.mul I I ⟨by omega,by omega⟩)<|zz I I<|zl I I (zaf I I)<|zl I I (Kq I I ⟨by omega,by omega,by omega⟩)<|zl I I (Rd.add I I ⟨by omega,by omega⟩)<|zl I I (yf 6 1 I I I k9 k9 o9 (by rw [Int.toNat_natCast];omega))<|Zm I (yM (v:=(y + (Yd a i - p) * nn / max d 1)) 6 I I I I k9 (by rw [Int.toNat_natCast];omega) (fun _ h=>mL _ h))<|y9<|SN.block<|SN.block<|zj<|zi<|za I (Rd.add I I ⟨by omega,by omega⟩)<|zd I<|zF (fun aK wK hh=>hK0 (⟨(i + 1,ys.set i<|y + (Yd a i - p) * nn / max d 1),by dsimp only;omega,by dsimp only;rw [List.length_set];exact hyl,step (i:=i) hyp hp o9⟩) (by dsimp only;omega) aK wK<|hh.sub<|⟨⟨_,I,⟨lq I,⟨lq I,⟨lq I,⟨lq I,⟨⟨_,I,zI (by simp only [List.length_set])⟩,⟨lq I,⟨lq I,⟨⟨_,I,zI s9⟩,t9⟩⟩⟩⟩⟩⟩⟩⟩⟩,[0,1,2,3,4,5,6],by decide,⟨la rfl,⟨lR rfl,⟨lR rfl,⟨lR rfl,⟨lR rfl,⟨lR rfl,⟨⟨_,rfl,YL (by simp only [List.length_set]) (by simp only [Int.toNat_natCast])⟩,trivial⟩⟩⟩⟩⟩⟩⟩⟩))
    ·skip
     exact zq (SN.block<|SN.block<|zj<|zi<|za I (Rd.add I I ⟨by omega,by omega⟩)<|zd I<|zF (fun aK wK hh=>hK0 (⟨(i + 1,ys),by dsimp only;omega,hyl,fun j y x hy hx=>by have h:=hyp j y x hy hx;exact ⟨h.1,h.2.1,fun h2=>h.2.2 (by dsimp only at h2 ⊢;omega)⟩⟩) (by dsimp only;omega) aK wK<|hh.sub<|⟨⟨_,I,⟨lq I,⟨lq I,⟨lq I,⟨lq I,⟨lq I,⟨lq I,⟨lq I,⟨⟨_,I,zI s9⟩,t9⟩⟩⟩⟩⟩⟩⟩⟩⟩,[0,1,2,3,4,5,6],by decide,(sX rfl)⟩))
  ·have h25:¬(i:Int) < (a.cat.length:Int):=oF hb25;refine zQ ?_
   repeat (first | refine zX ?_ | refine zY d9 ?_)
   refine zZ (zj<|zn<|zd I<|zf I<|ze<|SW.freezeT 6 8 I I (zc _)<|zV (fn:=Tryz.f42) (⟨ys,hyl,fun j y x hy hx=>⟨(hyp j y x hy hx).1,(hyp j y x hy hx).2.1⟩⟩) [0,1,2,3,4,5] (fun _ _ h=>h) (Rs.le (zG I<|zk I) ?_) d9<|sX I);exact zc _
