/- WALKING CODE BY WHAT IS KNOWN: strings and bytes, parts of slices, elements that are stored. Over any program. WHAT CAME IN, by what is known: data ma -/
import Derived.Test.YtmflnfnebmbjkaaGreatGZAE
import Derived.Deep.Slices
import Derived.Recover
import Derived.Stop.BytesEq
namespace Go.Proofs.YtmflnfnebmbjkaaGreat
open Go.RowKit
namespace Sx
section
variable {P:Program}{Γ:Cx}{σ:St}{S:List Nat}{dst:Option Tmp}{ty:TypeId}{pos:String}{af:Array Edge}{gd:Option (Nat × Bool)}{d:D}{Q:Exit→Act→World→Prop}{a:Act}{w:World}
section
variable {l:List Oper}{tz uz:Reg.Tz}{op:Op}
end
theorem Ef.litO {parts:List (Nat × Operand)} {T e n k:Nat} {idx:LN} {α:Type} {enc:α→List D} {l:List α} {es:List D} (sz:Nat) [Row enc sz] (hi:parts.map (·.1)=idx) (he:σ.evs (parts.map (·.2))=some es) (hn:n=l.length) (hm:n≤1000000)
  (hrun:∀ L w vs,All L w es vs→∃ cs,All L w (l.flatMap enc) cs∧∀ w':World,(Instr.buildSlice T n (idx.zip vs).toArray).run P w'= .ok (.slice (some ⟨w'.heap.size,0,none⟩) n n) (w'.alloc<|.cells cs.toArray e)) (hk:yi Γ.nt k=true):
  Ef P Γ S ⟨some k,.buildSlice T n parts.toArray,ty,pos,af,gd⟩ σ (fun σ'=>∃ g,σ'=(⟨σ.tm,σ.bx ++ [.r [g]<|yq e sz enc (some ⟨g,0,none⟩) n l]⟩:St).put k (isD<|.slice (some ⟨g,0,none⟩) l.length n)):=by
 intro a w hh K Q hK;obtain ⟨cs,hcs,hrun⟩:=hrun _ _ _ (y7 hh he)
 have e1:(parts.toArray.map fun (i,x)=>(i,a.eval x))=(idx.zip<|(parts.map (·.2)).map a.eval).toArray:=by
  rw [← hi];apply Xe;simp only [Array.toList_map];exact Y2 a.eval parts
 have e2:(execOp a.eval ⟨some k,.buildSlice T n parts.toArray,ty,pos,af,gd⟩).run P w= .ok (.value<|.slice (some ⟨w.heap.size,0,none⟩) l.length n) (w.alloc<|.cells cs.toArray e):=by
  simp only [execOp];rw [e1,JD,hrun w,← hn]
  rfl
 have hlen:=hcs.length;rw [YS (enc:=enc) (sz:=sz)] at hlen;unfold Oper.wp;rw [e2];have ho:Only [] w (w.alloc<|.cells cs.toArray e):=(Only.refl [] w).alloc _
 have h5:=hh.more ho (b:= .r [w.heap.size]<|yq e sz enc (some ⟨w.heap.size,0,none⟩) n l) ⟨cs,(hcs.less (fun x hx=>by
  rcases Jf.1 hx with hx | hx
  ·exact .inr (by rw [Ja.1 hx];exact Js _)
  ·exact .inl hx)).keep ho s9,⟨hlen,.inr ⟨w.heap.size,n,_,I,JC _,Xw w _,by omega,by simp only [maxLen];omega,by simp [hlen,hn],by simp [Ji,hlen]⟩⟩,I⟩ (fun g hg=>by rw [Ja.1 hg];exact Js _) (by simp [Box.fp])
 exact hK _ _ _ ⟨_,I⟩ (h5.put (by simpa [yi] using hk) I) ((Only.refl S w).alloc _)
theorem zbv {x y:Operand} {T e g n:Nat} {kd:IntKind} {i:Int} (hx:σ.ev x=some (pA g)) (hy:σ.ev y=some (isD<|.int kd i)) (hT:arrT P T e n=true) (hs:(P.info? e).map (·.size)=some 1) (h0:0≤i) (hi:i < (n:Int)):
  Rd P Γ S ⟨dst,.indexAddr T x y,ty,pos,af,gd⟩ σ (isD<|.pointer<|some ⟨g,i.toNat,none⟩):=by
 intro a w hh;have hxv:a.eval x= .pointer (some ⟨g,0,none⟩):=zP hh hx;have hyv:a.eval y= .int kd i:=zP hh hy;obtain ⟨inf,hi',hsz⟩:=Jy.1 hs;refine ⟨_,I,fun w' _=> ?_⟩;simp [execOp,hxv,hyv,Instr.indexAt,Jp<|je hT,Instr.sureAddr,asIntOf,sizeOf,typeInfo,hi',hsz,Addr.add,h0,hi];omega
theorem yQ {x y:Operand} {T e c i:Nat} {A:Option Addr} {F:LN} {α:Type} {enc:α→List D} {l:List α} {v:α} (j:Nat) [Row enc 1] [One d] (hx:σ.ev x=some (isD<|elP A<|i * 1)) (hj:σ.bx[j]? =some (.r F<|yq e 1 enc A c l)) (hy:σ.ev y=some d) (hd:enc v=[d]) (hT:jo P T 1=true) (hi:i < l.length) (hS:∀ g∈F,g∈S):
  Ef P Γ S ⟨none,.store T x y,ty,pos,af,gd⟩ σ (fun σ'=>σ'=σ.give [j] [.r F<|yq e 1 enc A c<|l.set i v]):=by
 intro a w hh K Q hK;have hxv:a.eval x=elP A (i * 1):=zP hh hx;have hyd:=zP hh hy;have h1c:=One.h (d:=d) _ _ _ hyd;obtain ⟨g,cur,xs,rfl,rfl,hg,hnc,hm,hcs,htk,hxl,ha⟩:=Yt (hh.resAt hj) o9
 have hic:i < cur.size:=by rw [hcs];omega
 obtain ⟨inf,hi',hs⟩:=Jy.1 (show (P.info? T).map (·.size)=some 1 by unfold jo at hT;rw [JT] at hT;exact hT)
 have hcell:w.cell? ⟨g,i,none⟩=some cur[i]:=by simp [World.cell?,hg,hic]
 have hfz:w.frozen? ⟨g,i,none⟩=false:=by simp [World.frozen?,hg]
 have e2:(execOp a.eval ⟨none,.store T x y,ty,pos,af,gd⟩).run P w= .ok .skip (w.setCell ⟨g,i,none⟩<|a.eval y):=by
  simp [execOp,hxv,elP,Instr.storeAt,Instr.sureAddr,storeVar,sizeOf,typeInfo,hi',hs,yO h1c,storeCells,run_store _ _ _ _ _ h1c,Addr.add,hcell,hfz]
 unfold Oper.wp;rw [e2];have ho:Only [g] w (w.setCell ⟨g,i,none⟩<|a.eval y):=(Only.refl [g] w).setCell (p:=⟨g,i,none⟩) (.inl s9) _
 have hg2:(w.setCell ⟨g,i,none⟩<|a.eval y).heap[g]? =some (.cells (cur.setIfInBounds i<|a.eval y) e (0,0)):=by
  simp [World.setCell,Array.getElem?_modify,hg]
 have hsub:SubBx σ.bx [j] [.r [g]<|yq e 1 enc (some ⟨g,0,none⟩) c l]:=⟨⟨_,hj,zI _⟩,trivial⟩;have hfp:fps [Box.r [g]<|yq e 1 enc (some ⟨g,0,none⟩) c l]=[g]:=rfl
 have hset:(l.set i v).flatMap enc=(l.flatMap enc).set i d:=by
  have:∀ (l:List α) (i:Nat),(l.set i v).flatMap enc=(l.flatMap enc).set i d:=by
   intro l
   induction l with
   | nil=>intro i;simp
   | cons x l ih=>
    intro i;have h1:=Row.len (enc:=enc) (sz:=1) x
    obtain ⟨u,hu⟩:∃ u,enc x=[u]:=by
     cases hx:enc x with
     | nil=>rw [hx] at h1;simp at h1
     | cons u us=>cases us with
      | nil=>exact ⟨u,rfl⟩
      | cons=>rw [hx] at h1;simp at h1
    cases i with
    | zero=>simp [hd,hu]
    | succ i=>simp [hu,ih i]
  exact this l i
 obtain ⟨h3,_⟩:=hh.give (post:=[.r [g]<|yq e 1 enc (some ⟨g,0,none⟩) c<|l.set i v]) hsub (by rw [hfp];exact ho) (fun b hb=>by
  rw [Ja.1 hb];refine ⟨xs.set i<|a.eval y,?_,⟨by simp [hxl],.inr ⟨g,c,_,by simp,JC _,hg2,by simpa using hnc,hm,by simp [hcs],?_⟩⟩,by simp [Value.ownBlock]⟩
  ·rw [hset];refine ((ha.set (i:=i) hyd).keep ho (fun x hx=> ?_)).less (fun x hx=> ?_)
   ·rw [Ja.1 hx];exact mL _ (yh.2 ⟨_,Jc hj,m9 I⟩)
   ·rcases Jf.1 hx with hx | hx
    ·exact .inl (mL _<|yh.2 ⟨_,Jc hj,hx⟩)
    ·exact .inl (Jw.1 hx).1
  ·rw [← htk]
   simp [List.take_set]) (by simp [fps,Box.fp]) (fun g' hg'=> .inl hg')
 exact hK _ _ _ I h3 (ho.mono (fun x hx _=>hS x hx))
end
end Sx
end Go.Proofs.YtmflnfnebmbjkaaGreat
namespace Go.Proofs.YtmflnfnebmbjkaaGreat
open Go.ChangeShapes Go.WideShapes Go.ChangeAt Go.RowKit
namespace Sx
section
section
variable {P:Program}
def Came (P:Program) (t:TypeId) {α:Type} (ec:α→List D) (ok:α→Prop):Prop:=∀ (H:Type) (enc:TypeId × Value→H) (W:World) (fuel:Nat) (cs:List Value) (x:DataW H × List MemPlace),DataW.trod enc P W 0 (fun _=>true) true fuel t cs=some x→∃ a,ok a∧All [] W (ec a) cs
theorem q9 {t:TypeId} {k:IntKind} (ht:P.underlying t=some (.int k)):Came P t (fun z:Int=>[isD<|.int k z]) (fun z=>(Lit.int k z).wf=true):=fun H enc W fuel cs x h=>by
 obtain ⟨z,rfl,-,hw⟩:=DataW.trod_int ht h;exact ⟨z,hw,I,t9⟩
theorem zbN {α:Type} {enc:α→List D}:Le (isD<|.slice none 0 0) (lsD enc []):=fun _ _ _ h=>⟨none,0,h,Js _,fun h0=>by simp at h0⟩
theorem Vh {t e sz:Nat} {α:Type} [Inhabited α] {ec:α→List D} {ok:α→Prop} [Row ec sz] (ht:P.underlying t=some (.slice e)) (hc:P.cellsOf e=sz) (hsz:0 < sz) (he:Came P e ec ok):Came P t (fun l:List α=>[lsD ec l]) (fun l=>l.length≤maxLen∧∀ x∈l,ok x):=fun H enc W fuel cs x h=>by
 rcases Go.Deep.open_slice ht h with ⟨rfl,-⟩ | ⟨a,len,cap,m,n,Dn,Pl,rfl,-,hl,hm,hmm,-,hx⟩
 ·exact ⟨[],⟨JC _,by simp⟩,zbN _ _ _ I,t9⟩
 simp only [if_true] at hmm;subst hmm
 have hx2:∀ i,i < len→∃ q:α × List Value,ok q.1∧W.cells? 0 (a.add<|i * sz) sz=some q.2∧All [] W (ec q.1) q.2:=fun i hi=>by
  obtain ⟨cs',h1,h2⟩:=hx i o9;rw [hc] at h1;obtain ⟨q,h3,h4⟩:=he _ _ _ _ _ _ h2;exact ⟨(q,cs'),h3,h1,h4⟩
 obtain ⟨X,hX⟩:=Go.Deep.choose_lt hx2
 have hlen:((List.range len).map fun i=>(X i).1).length=len:=by simp
 have hnth:0 < len→a.spot=none:=fun hi=>by
  obtain ⟨_,hl2,hcell⟩:=World.cells?_some (hX 0 hi).2.1;have h1:=hcell 0 hsz;rw [Je o9] at h1;have h2:=World.cell?_spot h1;simpa [Addr.add] using h2
 have key:∀ k,k≤len→∃ cs,All [] W (((List.range k).map fun i=>(X i).1).flatMap ec) cs∧cs.length=k * sz∧∀ j,j < cs.length→W.cell? (a.add j)=cs[j]? :=by
  intro k
  induction k with
  | zero=>intro _;exact ⟨[],trivial,by simp,by simp⟩
  | succ k ih=>
   intro hk;obtain ⟨cs,h1,h2,h3⟩:=ih o9;obtain ⟨_,hl2,hcell⟩:=World.cells?_some (hX k o9).2.1;refine ⟨cs ++ (X k).2,?_,?_,fun j hj=> ?_⟩
   ·rw [List.range_succ,XG,List.flatMap_append];exact h1.append (by simpa using (hX k o9).2.2)
   ·rw [Jk,h2,hl2,Nat.succ_mul]
   ·by_cases hjc:j < cs.length
    ·rw [JB hjc];exact h3 j hjc
    ·rw [JR o9];rw [Jk,hl2] at hj;have h4:=hcell (j - cs.length) o9;rw [Go.Deep.add_add,h2,show k * sz + (j - k * sz)=j by omega] at h4;rw [h2,h4]
 refine ⟨(List.range len).map fun i=>(X i).1,⟨by omega,fun x hx=> ?_⟩,⟨some a,m,by rw [hlen],by rw [hlen];exact hl,fun h0=> ?_⟩,t9⟩
 ·obtain ⟨i,hi,rfl⟩:=JI.1 hx;exact (hX i (by simpa using hi)).1
 ·obtain ⟨cs,h1,h2,h3⟩:=key len (Js _)
  have hpos:0 < len:=by
   rcases Xk len with h | h
   ·subst h;simp at h0
   ·exact h
  have hsp:=hnth hpos;obtain ⟨g,o,s⟩:=a;simp only at hsp;subst hsp
  have hcl:0 < cs.length:=by rw [h2];exact Nat.mul_pos hpos hsz
  have hc0:=h3 0 hcl;refine ⟨g,o,I,?_,by simp,cs,h1,fun j hj=> ?_⟩
  ·rw [Je hcl] at hc0;exact (by simpa [Addr.add] using cell_lt hc0)
  ·have:=h3 j hj;rw [Xg] at this;exact this
def Parts (L:LN) (w:World):List (List D)→List Value→Nat→Prop
 | [],_,_=>True
 | d :: ls,cs,o=>All L w d ((cs.drop o).take d.length)∧Parts L w ls cs (o + d.length)
theorem KD {L:LN} {w:World}:∀ (ls:List (List D)) (cs:List Value) (o:Nat),Parts L w ls cs o→cs.length=o + ls.flatten.length→All L w ls.flatten (cs.drop o)
 | [],cs,o,_,h=>by
  have:cs.drop o=[]:=JZ (by simp at h;omega);rw [this];trivial
 | d :: ls,cs,o,h,hl=>by
  have ih:=KD ls cs (o + d.length) h.2 (by simp at hl ⊢;omega)
  have e:cs.drop o=(cs.drop o).take d.length ++ cs.drop (o + d.length):=by
   rw [← List.drop_drop];exact (JV _ _).symm
  rw [e,List.flatten_cons];exact h.1.append ih
theorem KB {t:TypeId} {fs:Array Field} (ht:P.underlying t=some (.struct fs)) {H:Type} {enc:TypeId × Value→H} {W:World} {fuel:Nat} {cs:List Value} {x:DataW H × List MemPlace} (h:DataW.trod enc P W 0 (fun _=>true) true fuel t cs=some x):
  cs.length=P.cellsOf t∧∀ (i:Nat) (f:Field),fs[i]? =some f→∃ n y,DataW.trod enc P W 0 (fun _=>true) true n f.type ((cs.drop f.offset).take<|P.cellsOf f.type)=some y:=by
 obtain ⟨xs,n,_,_,hl,hlen,hf⟩:=DataW.trod_struct ht h;refine ⟨hl,fun i f hi=>⟨n,xs[i]'(by have:=(Jn.1 hi).1;omega),?_⟩⟩;rw [hf i f hi];exact Je _
theorem top_slice {t e:TypeId} {α:Type} {d:α→D} {ok:α→Prop} {base:Nat} {W:World} {v:Value} {H:Type} {enc:TypeId × Value→H} {x:DataW H} {p:List MemPlace} (hop:Came P t (fun a=>[d a]) ok) (ht:P.underlying t=some (.slice e)) (hv:Value.okWide P W .any base t v) (h:DataW.Trod enc P W 0 (fun _=>true) true t v x p):∃ a,ok a∧(d a).R [] W v:=by
 obtain ⟨A,n,c,rfl⟩:=okWide_slice ht hv;obtain ⟨fuel,h⟩:=h;obtain ⟨a,h1,h2⟩:=hop _ _ _ _ _ _ h;exact ⟨a,h1,h2.1⟩
theorem top_int {t:TypeId} {k:IntKind} {base:Nat} {W:World} {v:Value} {H:Type} {enc:TypeId × Value→H} {x:DataW H} {p:List MemPlace} (ht:P.underlying t=some (.int k)) (hv:Value.okWide P W .any base t v) (h:DataW.Trod enc P W 0 (fun _=>true) true t v x p):∃ z:Int,(Lit.int k z).wf=true∧(isD<|.int k z).R [] W v:=by
 obtain ⟨z,rfl,-,-,hz⟩:=open_int ht hv h;exact ⟨z,hz,I⟩
end
end
section
section
variable {P:Program}{Γ:Cx}{σ:St}{S:List Nat}{dst:Option Tmp}{ty:TypeId}{pos:String}{af:Array Edge}{gd:Option (Nat × Bool)}
end
section
variable {P:Program}{Γ:Cx}{σ σ':St}{S:List Nat}{l:List Oper}{Q:Exit→Act→World→Prop}{tz uz:Reg.Tz}{k:Nat}{op:Op}{ty:TypeId}{pos:String}{af:Array Edge}
end
end
section
theorem jq (F:LN) (R:Res):fps [.r F R]=F:=by simp [fps,Box.fp]
section
variable {P:Program}
end
section
variable {P:Program}{Γ:Cx}{σ:St}{Q:Exit→Act→World→Prop}
theorem KG {c:Code} {pre:List Box} {T:List Box→Prop} (ho:Opens pre T) (js:LN) (hjs:js.Nodup) (hs:SubBx σ.bx js pre) (h:∀ post,T post→SW P Γ (σ.give js post) c Q):SW P Γ σ c Q:=SW.opens js hjs hs ho h
end
section
variable {P:Program}{Γ:Cx}{σ:St}{S:List Nat}{dst:Option Tmp}{ty:TypeId}{pos:String}{af:Array Edge}{gd:Option (Nat × Bool)}{Q:Exit→Act→World→Prop}
end
end
section
section
variable {P:Program}{Γ:Cx}{σ σ':St}{Q:Exit→Act→World→Prop}{a:Act}{w:World}{ops:Array Oper}{rest:List Oper}{S:List Nat}{dst:Option Tmp}{ty:TypeId}{pos:String}{af:Array Edge}{gd:Option (Nat × Bool)}
end
end
section
abbrev Dg:Type:={d:LB // d.length=32}
def encG (d:Dg):List D:=(cellsOf d.1).map isD
instance:Row encG 32:=⟨fun x=>by unfold encG;rw [JO,KN,x.2],fun x=>by unfold encG;infer_instance,by decide⟩
section
variable {P:Program}{Γ:Cx}{σ:St}{S:List Nat}{dst:Option Tmp}{ty:TypeId}{pos:String}{af:Array Edge}{gd:Option (Nat × Bool)}{d:D}
