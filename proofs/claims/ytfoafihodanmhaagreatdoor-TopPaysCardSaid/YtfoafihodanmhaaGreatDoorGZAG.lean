/- WALKING CODE BY WHAT IS KNOWN: strings and bytes, parts of slices, elements that are stored. Over any program. WHAT CAME IN, by what is known: data ma -/
import Derived.Test.YtfoafihodanmhaaGreatDoorGZAF
import Derived.Deep.Slices
import Derived.Recover
import Derived.Stop.BytesEq
namespace Go.Proofs.YtfoafihodanmhaaGreatDoor
open Go.RowKit
namespace Sx
section
variable {P:Program}{Γ:Cx}{σ:St}{S:List Nat}{dst:Option Tmp}{ty:TypeId}{pos:String}{af:Array Edge}{gd:Option (Nat × Bool)}{d:D}{Q:Exit→Act→World→Prop}{a:Act}{w:World}
def EfL (P:Program) (Γ:Cx) (o:Oper) (σ:St) (T:LN→St→Prop):Prop:=
 ∀ a w,Holds Γ σ a w→∀ (K:Act→World→Prop) (Q:Exit→Act→World→Prop),(∀ G σ' a' w',(∀ g∈G,w.heap.size≤g)→T G σ'→Holds Γ σ' a' w'→Only [] w w'→K a' w')→o.wp P a w K Q
section
variable {l:List Oper}{tz uz:Reg.Tz}{op:Op}
theorem jo {T:LN→St→Prop} {i:Nat} (ho:l[i]? =some ⟨dst,op,ty,pos,af,none⟩) (h:EfL P Γ ⟨dst,op,ty,pos,af,none⟩ σ T) (hk:∀ G σ',T G σ'→SWz P Γ l Q (S ++ G) tz σ') (hu:SWz P Γ l Q S uz σ):SWz P Γ l Q S (.n i tz uz) σ:=by
 intro a w hh
 have e:l.getD i default=⟨dst,op,ty,pos,af,none⟩:=by rw [Jr,ho];rfl
 unfold Reg.wpG;rw [e];refine ⟨J4 I fun K hK=> ?_,hu a w hh⟩
 exact h a w hh K _ fun G σ' a' w' hg hT hh' hO=>hK _ _ ⟨S ++ G,fun x hx=>by
  rcases Jf.1 hx with hx | hx
  ·exact .inl hx
  ·exact .inr<|hg x hx,hO,hk G σ' hT a' w' hh'⟩
theorem SWz.eflg {T:LN→St→Prop} {i j t:Nat} {b c:Bool} (ho:l[i]? =some ⟨dst,op,ty,pos,af,some (j,b)⟩) (hj:(l[j]?).bind (·.dst)=some t) (ht:σ.tm t=some (isD<|.bool c)) (hc:c=b) (hn:yp Γ.nt t=true)
  (h:EfL P Γ ⟨dst,op,ty,pos,af,some (j,b)⟩ σ T) (hk:∀ G σ',T G σ'→SWz P Γ l Q (S ++ G) tz σ') (hu:SWz P Γ l Q S uz σ):SWz P Γ l Q S (.n i tz uz) σ:=by
 intro a w hh
 have e:l.getD i default=⟨dst,op,ty,pos,af,some (j,b)⟩:=by rw [Jr,ho];rfl
 unfold Reg.wpG;rw [e];refine ⟨wpList_step fun K hK=> ?_,hu a w hh⟩;rw [Yh (ops:=l.toArray) hh rfl (by simpa using hj) ht hn,Jh (by simp [hc])]
 exact h a w hh K _ fun G σ' a' w' hg hT hh' hO=>hK _ _ ⟨S ++ G,fun x hx=>by
  rcases Jf.1 hx with hx | hx
  ·exact .inl hx
  ·exact .inr<|hg x hx,hO,hk G σ' hT a' w' hh'⟩
end
theorem Yu {f:FuncId} {args:Array Operand} {aT:Array TypeId} {ad es:List D} {ι:Type} {post:ι→List Box} {d:ι→D} {k:Nat} (hcon:ConR P f [] ad post d) (he:σ.evs args.toList=some es) (hl:LeAll es ad) (hk:yp Γ.nt k=true):
  EfL P Γ ⟨some k,.call { callee:= .value<|.func f,args:=args,argTypes:=aT },ty,pos,af,gd⟩ σ (fun G σ'=>∃ i,G=fps (post i)∧σ'=(σ.give []<|post i).put k (d i)):=by
 intro a w hh K Q hK;have hall:=hl.all (Zt hh he);unfold Oper.wp;rw [YG (cap:=[]) hcon.en (show a.eval (.func f)= .func (.func f) #[] ([]:List Value).toArray from rfl),JS];simp only [Oper.upon];refine (hcon.go (σ.L Γ) w _ hh.lt hh.gl (by simp [fps]) (by simp [fps]) (by simp [fps]) s9 (by simpa [fps] using hall)).mono ?_;rintro r w' ⟨i,v,rfl,hd,hR,hnd,hnw,ho⟩
 have hnew:∀ g∈fps (post i),w.heap.size≤g:=fun g hg=>by
  rcases hnw g hg with h | h
  ·simp [fps] at h
  ·exact h
 have hs:SubBx σ.bx [] []:=trivial
 obtain ⟨h1,h2⟩:=hh.give (js:=[]) (pre:=[]) (post:=post i) hs ho (fun b hb=>(Box.less (hR b hb) (fun x hx=> .inl (by
  rcases Jf.1 hx with hx | hx
  ·exact mL _ hx
  ·exact mR _ (Jw.1 hx).1)))) hnd (fun g hg=> .inr<|hnew g hg)
 exact hK (fps<|post i) _ _ _ hnew ⟨i,I,I⟩ (h1.put (by simpa [yp] using hk)<|(d i).less hd (fun x hx=>by
  rcases h2 x hx with h3 | h3
  ·rcases Jf.1 h3 with h3 | h3
   ·exact .inl (mL _ h3)
   ·exact .inl (mR _ (Jw.1 h3).1)
  ·exact .inr h3)) (by simpa [fps] using ho)
theorem Yx {x y:Operand} {T e g n:Nat} {kd:IntKind} {i:Int} (hx:σ.ev x=some (pA g)) (hy:σ.ev y=some (isD<|.int kd i)) (hT:arrT P T e n=true) (hs:(P.info? e).map (·.size)=some 1) (h0:0≤i) (hi:i < (n:Int)):
  Rd P Γ S ⟨dst,.indexAddr T x y,ty,pos,af,gd⟩ σ (isD<|.pointer<|some ⟨g,i.toNat,none⟩):=by
 intro a w hh;have hxv:a.eval x= .pointer (some ⟨g,0,none⟩):=zR hh hx;have hyv:a.eval y= .int kd i:=zR hh hy;obtain ⟨inf,hi',hsz⟩:=Jy.1 hs;refine ⟨_,I,fun w' _=> ?_⟩;simp [execOp,hxv,hyv,Instr.indexAt,Jp<|qR hT,Instr.sureAddr,asIntOf,sizeOf,typeInfo,hi',hsz,Addr.add,h0,hi];omega
theorem yM {x y:Operand} {T e c i:Nat} {A:Option Addr} {F:LN} {α:Type} {enc:α→List D} {l:List α} {v:α} (j:Nat) [Row enc 1] [One d] (hx:σ.ev x=some (isD<|elP A<|i * 1)) (hj:σ.bx[j]? =some (.r F<|yi e 1 enc A c l)) (hy:σ.ev y=some d) (hd:enc v=[d]) (hT:Ke P T 1=true) (hi:i < l.length) (hS:∀ g∈F,g∈S):
  Ef P Γ S ⟨none,.store T x y,ty,pos,af,gd⟩ σ (fun σ'=>σ'=σ.give [j] [.r F<|yi e 1 enc A c<|l.set i v]):=by
 intro a w hh K Q hK;have hxv:a.eval x=elP A (i * 1):=zR hh hx;have hyd:=zR hh hy;have h1c:=One.h (d:=d) _ _ _ hyd;obtain ⟨g,cur,xs,rfl,rfl,hg,hnc,hm,hcs,htk,hxl,ha⟩:=YX (hh.resAt hj) o9
 have hic:i < cur.size:=by rw [hcs];omega
 obtain ⟨inf,hi',hs⟩:=Jy.1 (show (P.info? T).map (·.size)=some 1 by unfold Ke at hT;rw [JT] at hT;exact hT)
 have hcell:w.cell? ⟨g,i,none⟩=some cur[i]:=by simp [World.cell?,hg,hic]
 have hfz:w.frozen? ⟨g,i,none⟩=false:=by simp [World.frozen?,hg]
 have e2:(execOp a.eval ⟨none,.store T x y,ty,pos,af,gd⟩).run P w= .ok .skip (w.setCell ⟨g,i,none⟩<|a.eval y):=by
  simp [execOp,hxv,elP,Instr.storeAt,Instr.sureAddr,storeVar,sizeOf,typeInfo,hi',hs,Zo h1c,storeCells,run_store _ _ _ _ _ h1c,Addr.add,hcell,hfz]
 unfold Oper.wp;rw [e2];have ho:Only [g] w (w.setCell ⟨g,i,none⟩<|a.eval y):=(Only.refl [g] w).setCell (p:=⟨g,i,none⟩) (.inl s9) _
 have hg2:(w.setCell ⟨g,i,none⟩<|a.eval y).heap[g]? =some (.cells (cur.setIfInBounds i<|a.eval y) e (0,0)):=by
  simp [World.setCell,Array.getElem?_modify,hg]
 have hsub:SubBx σ.bx [j] [.r [g]<|yi e 1 enc (some ⟨g,0,none⟩) c l]:=⟨⟨_,hj,zM _⟩,trivial⟩;have hfp:fps [Box.r [g]<|yi e 1 enc (some ⟨g,0,none⟩) c l]=[g]:=rfl
 have hset:(l.set i v).flatMap enc=(l.flatMap enc).set i d:=by
  have:∀ (l:List α) (i:Nat),(l.set i v).flatMap enc=(l.flatMap enc).set i d:=by
   intro l
   induction l with
   | nil=>intro i;simp
   | cons x l ih=>
    intro i;have h1:=Row.len (enc:=enc) (sz:=1) x
    obtain ⟨u,hu⟩:∃ u,enc x=[u]:=by
     cases hx:enc x with
     | nil=>rw [hx] at h1;simp at h1
     | cons u us=>cases us with
      | nil=>exact ⟨u,rfl⟩
      | cons=>rw [hx] at h1;simp at h1
    cases i with
    | zero=>simp [hd,hu]
    | succ i=>simp [hu,ih i]
  exact this l i
 obtain ⟨h3,_⟩:=hh.give (post:=[.r [g]<|yi e 1 enc (some ⟨g,0,none⟩) c<|l.set i v]) hsub (by rw [hfp];exact ho) (fun b hb=>by
  rw [Ja.1 hb];refine ⟨xs.set i<|a.eval y,?_,⟨by simp [hxl],.inr ⟨g,c,_,by simp,JC _,hg2,by simpa using hnc,hm,by simp [hcs],?_⟩⟩,by simp [Value.ownBlock]⟩
  ·rw [hset];refine ((ha.set (i:=i) hyd).keep ho (fun x hx=> ?_)).less (fun x hx=> ?_)
   ·rw [Ja.1 hx];exact mL _ (yz.2 ⟨_,Jc hj,m9 I⟩)
   ·rcases Jf.1 hx with hx | hx
    ·exact .inl (mL _<|yz.2 ⟨_,Jc hj,hx⟩)
    ·exact .inl (Jw.1 hx).1
  ·rw [← htk]
   simp [List.take_set]) (by simp [fps,Box.fp]) (fun g' hg'=> .inl hg')
 exact hK _ _ _ I h3 (ho.mono (fun x hx _=>hS x hx))
end
end Sx
end Go.Proofs.YtfoafihodanmhaaGreatDoor
namespace Go.Proofs.YtfoafihodanmhaaGreatDoor
open Go.ChangeShapes Go.WideShapes Go.ChangeAt Go.RowKit
namespace Sx
section
section
variable {P:Program}
def K6 (P:Program) (t:TypeId) {α:Type} (ec:α→List D) (ok:α→Prop):Prop:=∀ (H:Type) (enc:TypeId × Value→H) (W:World) (fuel:Nat) (cs:List Value) (x:DataW H × List MemPlace),DataW.trod enc P W 0 (fun _=>true) true fuel t cs=some x→∃ a,ok a∧All [] W (ec a) cs
theorem Ze {t:TypeId} {k:IntKind} (ht:P.underlying t=some (.int k)):K6 P t (fun z:Int=>[isD<|.int k z]) (fun z=>(Lit.int k z).wf=true):=fun H enc W fuel cs x h=>by
 obtain ⟨z,rfl,-,hw⟩:=DataW.trod_int ht h;exact ⟨z,hw,I,t9⟩
theorem came_bool {t:TypeId} (ht:P.underlying t=some .bool):K6 P t (fun b:Bool=>[yL b]) (fun _=>True):=fun H enc W fuel cs x h=>by
 obtain ⟨s,rfl,-⟩:=DataW.trod_bool ht h;exact ⟨s,t9,I,t9⟩
theorem came_u8 {t:TypeId} (ht:P.underlying t=some (.int .u8)):K6 P t Ve (fun _=>True):=fun H enc W fuel cs x h=>by
 obtain ⟨z,rfl,-,hw⟩:=DataW.trod_int ht h
 have:0≤z∧z < 256:=by simp [Lit.wf,IntKind.min,IntKind.max,IntKind.signed,IntKind.bits] at hw;omega
 refine ⟨UInt8.ofNat z.toNat,t9,?_,t9⟩;show Value.int .u8 z=B8 _;unfold B8;congr 1;simp;omega
theorem zeU {α:Type} {enc:α→List D}:Le (isD<|.slice none 0 0) (lsD enc []):=fun _ _ _ h=>⟨none,0,h,Js _,fun h0=>by simp at h0⟩
theorem YD {t e sz:Nat} {α:Type} [Inhabited α] {ec:α→List D} {ok:α→Prop} [Row ec sz] (ht:P.underlying t=some (.slice e)) (hc:P.cellsOf e=sz) (hsz:0 < sz) (he:K6 P e ec ok):K6 P t (fun l:List α=>[lsD ec l]) (fun l=>l.length≤maxLen∧∀ x∈l,ok x):=fun H enc W fuel cs x h=>by
 rcases Go.Deep.open_slice ht h with ⟨rfl,-⟩ | ⟨a,len,cap,m,n,Dn,Pl,rfl,-,hl,hm,hmm,-,hx⟩
 ·exact ⟨[],⟨JC _,by simp⟩,zeU _ _ _ I,t9⟩
 simp only [if_true] at hmm;subst hmm
 have hx2:∀ i,i < len→∃ q:α × List Value,ok q.1∧W.cells? 0 (a.add<|i * sz) sz=some q.2∧All [] W (ec q.1) q.2:=fun i hi=>by
  obtain ⟨cs',h1,h2⟩:=hx i o9;rw [hc] at h1;obtain ⟨q,h3,h4⟩:=he _ _ _ _ _ _ h2;exact ⟨(q,cs'),h3,h1,h4⟩
 obtain ⟨X,hX⟩:=Go.Deep.choose_lt hx2
 have hlen:((List.range len).map fun i=>(X i).1).length=len:=by simp
 have hnth:0 < len→a.spot=none:=fun hi=>by
  obtain ⟨_,hl2,hcell⟩:=World.cells?_some (hX 0 hi).2.1;have h1:=hcell 0 hsz;rw [Je o9] at h1;have h2:=World.cell?_spot h1;simpa [Addr.add] using h2
 have key:∀ k,k≤len→∃ cs,All [] W (((List.range k).map fun i=>(X i).1).flatMap ec) cs∧cs.length=k * sz∧∀ j,j < cs.length→W.cell? (a.add j)=cs[j]? :=by
  intro k
  induction k with
  | zero=>intro _;exact ⟨[],trivial,by simp,by simp⟩
  | succ k ih=>
   intro hk;obtain ⟨cs,h1,h2,h3⟩:=ih o9;obtain ⟨_,hl2,hcell⟩:=World.cells?_some (hX k o9).2.1;refine ⟨cs ++ (X k).2,?_,?_,fun j hj=> ?_⟩
   ·rw [List.range_succ,XG,List.flatMap_append];exact h1.append (by simpa using (hX k o9).2.2)
   ·rw [Jk,h2,hl2,Nat.succ_mul]
   ·by_cases hjc:j < cs.length
    ·rw [JB hjc];exact h3 j hjc
    ·rw [JR o9];rw [Jk,hl2] at hj;have h4:=hcell (j - cs.length) o9;rw [Go.Deep.add_add,h2,show k * sz + (j - k * sz)=j by omega] at h4;rw [h2,h4]
 refine ⟨(List.range len).map fun i=>(X i).1,⟨by omega,fun x hx=> ?_⟩,⟨some a,m,by rw [hlen],by rw [hlen];exact hl,fun h0=> ?_⟩,t9⟩
 ·obtain ⟨i,hi,rfl⟩:=JI.1 hx;exact (hX i (by simpa using hi)).1
 ·obtain ⟨cs,h1,h2,h3⟩:=key len (Js _)
  have hpos:0 < len:=by
   rcases Xk len with h | h
   ·subst h;simp at h0
   ·exact h
  have hsp:=hnth hpos;obtain ⟨g,o,s⟩:=a;simp only at hsp;subst hsp
  have hcl:0 < cs.length:=by rw [h2];exact Nat.mul_pos hpos hsz
  have hc0:=h3 0 hcl;refine ⟨g,o,I,?_,by simp,cs,h1,fun j hj=> ?_⟩
  ·rw [Je hcl] at hc0;exact (by simpa [Addr.add] using zdn hc0)
  ·have:=h3 j hj;rw [Xg] at this;exact this
theorem zaS {t e:TypeId} (ht:P.underlying t=some (.slice e)) (he:P.underlying e=some (.int .u8)) (hc:P.cellsOf e=1):K6 P t (fun b:LB=>[bD b]) (fun b=>b.length≤maxLen):=fun H enc W fuel cs x h=>by
 obtain ⟨b,⟨h1,-⟩,h2⟩:=YD ht hc d9 (came_u8 he) _ _ _ _ _ _ h
 match cs,h2 with
 | [c],h2=>exact ⟨b,h1,zbo b _ _ _ h2.1,trivial⟩
def Parts (L:LN) (w:World):List (List D)→List Value→Nat→Prop
 | [],_,_=>True
 | d :: ls,cs,o=>All L w d ((cs.drop o).take d.length)∧Parts L w ls cs (o + d.length)
theorem ZS {L:LN} {w:World}:∀ (ls:List (List D)) (cs:List Value) (o:Nat),Parts L w ls cs o→cs.length=o + ls.flatten.length→All L w ls.flatten (cs.drop o)
 | [],cs,o,_,h=>by
  have:cs.drop o=[]:=JZ (by simp at h;omega);rw [this];trivial
 | d :: ls,cs,o,h,hl=>by
  have ih:=ZS ls cs (o + d.length) h.2 (by simp at hl ⊢;omega)
  have e:cs.drop o=(cs.drop o).take d.length ++ cs.drop (o + d.length):=by
   rw [← List.drop_drop];exact (JV _ _).symm
  rw [e,List.flatten_cons];exact h.1.append ih
theorem Zv {t:TypeId} {fs:Array Field} (ht:P.underlying t=some (.struct fs)) {H:Type} {enc:TypeId × Value→H} {W:World} {fuel:Nat} {cs:List Value} {x:DataW H × List MemPlace} (h:DataW.trod enc P W 0 (fun _=>true) true fuel t cs=some x):
  cs.length=P.cellsOf t∧∀ (i:Nat) (f:Field),fs[i]? =some f→∃ n y,DataW.trod enc P W 0 (fun _=>true) true n f.type ((cs.drop f.offset).take<|P.cellsOf f.type)=some y:=by
 obtain ⟨xs,n,_,_,hl,hlen,hf⟩:=DataW.trod_struct ht h;refine ⟨hl,fun i f hi=>⟨n,xs[i]'(by have:=(Jn.1 hi).1;omega),?_⟩⟩;rw [hf i f hi];exact Je _
theorem top_slice {t e:TypeId} {α:Type} {d:α→D} {ok:α→Prop} {base:Nat} {W:World} {v:Value} {H:Type} {enc:TypeId × Value→H} {x:DataW H} {p:List MemPlace} (hop:K6 P t (fun a=>[d a]) ok) (ht:P.underlying t=some (.slice e)) (hv:Value.okWide P W .any base t v) (h:DataW.Trod enc P W 0 (fun _=>true) true t v x p):∃ a,ok a∧(d a).R [] W v:=by
 obtain ⟨A,n,c,rfl⟩:=okWide_slice ht hv;obtain ⟨fuel,h⟩:=h;obtain ⟨a,h1,h2⟩:=hop _ _ _ _ _ _ h;exact ⟨a,h1,h2.1⟩
theorem top_struct {t:TypeId} {fs:Array Field} {α:Type} {ec:α→List D} {ok:α→Prop} {base:Nat} {W:World} {v:Value} {H:Type} {enc:TypeId × Value→H} {x:DataW H} {p:List MemPlace} (hop:K6 P t ec ok) (ht:P.underlying t=some (.struct fs)) (hv:Value.okWide P W .any base t v) (h:DataW.Trod enc P W 0 (fun _=>true) true t v x p):∃ a,ok a∧(Z8<|ec a).R [] W v:=by
 obtain ⟨cs,rfl,hsz⟩:=okWide_struct ht hv;obtain ⟨fuel,h⟩:=h;obtain ⟨a,h1,h2⟩:=hop _ _ _ _ _ _ h;exact ⟨a,h1,cs.toList,by simp,h2⟩
end
end
section
section
variable {P:Program}{Γ:Cx}{σ:St}{S:List Nat}{dst:Option Tmp}{ty:TypeId}{pos:String}{af:Array Edge}{gd:Option (Nat × Bool)}
end
section
variable {P:Program}{Γ:Cx}{σ σ':St}{S:List Nat}{l:List Oper}{Q:Exit→Act→World→Prop}{tz uz:Reg.Tz}{k:Nat}{op:Op}{ty:TypeId}{pos:String}{af:Array Edge}
end
end
section
theorem YS (F:LN) (R:Res):fps [.r F R]=F:=by simp [fps,Box.fp]
section
variable {P:Program}
end
theorem Opens.refl {pre:List Box} {T:List Box→Prop} (h:T pre):Opens pre T:=fun _ _ hn hb=>⟨pre,h,hb,hn,fun _ hg=>hg⟩
theorem ConR.reshape {P:Program} {f:FuncId} {ad:List D} {ι κ:Type} {pre:List Box} {post:ι→List Box} {post':κ→List Box} {d:ι→D} {d':κ→D} (h:ConR P f pre ad post d) (ho:∀ i,Opens (post i) (fun q=>∃ k,q=post' k∧Le (d i) (d' k))):ConR P f pre ad post' d':=by
 refine ⟨h.en,fun L w vs hL hG hgF hg hnd hbk ha=>(h.go L w vs hL hG hgF hg hnd hbk ha).mono ?_⟩;rintro r w' ⟨i,v,rfl,hd,hR,hn',hnw,hO⟩;obtain ⟨q,⟨k,rfl,hle⟩,h1,h2,h3⟩:=ho i L w' hn' hR;refine ⟨k,v,I,hle _ _ _ ((d i).less hd fun x hx=> .inl ?_),h1,h2,fun g hg'=>hnw g<|h3 g hg',hO⟩;rcases Jf.1 hx with hx | hx
 ·exact mL _ (h3 x hx)
 ·exact mR _ hx
section
variable {P:Program}{Γ:Cx}{σ:St}{Q:Exit→Act→World→Prop}
theorem ZU {c:Code} {pre:List Box} {T:List Box→Prop} (ho:Opens pre T) (js:LN) (hjs:js.Nodup) (hs:SubBx σ.bx js pre) (h:∀ post,T post→SW P Γ (σ.give js post) c Q):SW P Γ σ c Q:=SW.opens js hjs hs ho h
end
section
variable {P:Program}{Γ:Cx}{σ:St}{S:List Nat}{dst:Option Tmp}{ty:TypeId}{pos:String}{af:Array Edge}{gd:Option (Nat × Bool)}{Q:Exit→Act→World→Prop}
end
end
section
section
variable {P:Program}{Γ:Cx}{σ σ':St}{Q:Exit→Act→World→Prop}{a:Act}{w:World}{ops:Array Oper}{rest:List Oper}{S:List Nat}{dst:Option Tmp}{ty:TypeId}{pos:String}{af:Array Edge}{gd:Option (Nat × Bool)}
end
end
section
abbrev Dg:Type:={d:LB // d.length=32}
def encG (d:Dg):List D:=(cellsOf d.1).map isD
instance:Row encG 32:=⟨fun x=>by unfold encG;rw [JO,ye,x.2],fun x=>by unfold encG;infer_instance,by decide⟩
section
variable {P:Program}{Γ:Cx}{σ:St}{S:List Nat}{dst:Option Tmp}{ty:TypeId}{pos:String}{af:Array Edge}{gd:Option (Nat × Bool)}{d:D}
