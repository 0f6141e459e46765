/- WALKING CODE BY WHAT IS KNOWN: strings and bytes, parts of slices, elements that are stored. Over any program. WHAT CAME IN, by what is known: data ma -/
import Derived.Test.YtgokpcnabgacnaaGreatDoorGZAF
import Derived.Deep.Slices
import Derived.Recover
import Derived.Stop.BytesEq
namespace Go.Proofs.YtgokpcnabgacnaaGreatDoor
open Go.RowKit
namespace Sx
section
variable {P:Program}{Γ:Cx}{σ:St}{S:List Nat}{dst:Option Tmp}{ty:TypeId}{pos:String}{af:Array Edge}{gd:Option (Nat × Bool)}{d:D}{Q:Exit→Act→World→Prop}{a:Act}{w:World}
theorem Wx {S T:LN} (h:∀ s∈S,s∈σ.L Γ) (k:∀ s∈T,s∈σ.L Γ):∀ s∈S ++ T,s∈σ.L Γ:=fun s hs=>by
 rcases Jf.1 hs with hs | hs
 ·exact h s hs
 ·exact k s hs
def EfL (P:Program) (Γ:Cx) (o:Oper) (σ:St) (T:LN→St→Prop):Prop:=
 ∀ a w,Holds Γ σ a w→∀ (K:Act→World→Prop) (Q:Exit→Act→World→Prop),(∀ G σ' a' w',(∀ g∈G,w.heap.size≤g)→T G σ'→Holds Γ σ' a' w'→Only [] w w'→K a' w')→o.wp P a w K Q
section
variable {l:List Oper}{tz uz:Reg.Tz}{op:Op}
theorem ZG {T:LN→St→Prop} {i:Nat} (ho:l[i]? =some ⟨dst,op,ty,pos,af,none⟩) (h:EfL P Γ ⟨dst,op,ty,pos,af,none⟩ σ T) (hk:∀ G σ',T G σ'→SWz P Γ l Q (S ++ G) tz σ') (hu:SWz P Γ l Q S uz σ):SWz P Γ l Q S (.n i tz uz) σ:=by
 intro a w hh
 have e:l.getD i default=⟨dst,op,ty,pos,af,none⟩:=by rw [Jr,ho];rfl
 unfold Reg.wpG;rw [e];refine ⟨J4 V fun K hK=> ?_,hu a w hh⟩
 exact h a w hh K _ fun G σ' a' w' hg hT hh' hO=>hK _ _ ⟨S ++ G,fun x hx=>by
  rcases Jf.1 hx with hx | hx
  ·exact .inl hx
  ·exact .inr<|hg x hx,hO,hk G σ' hT a' w' hh'⟩
end
theorem Zb {f:FuncId} {args:Array Operand} {aT:Array TypeId} {ad es:List D} {ι:Type} {post:ι→List Box} {d:ι→D} {k:Nat} (hcon:ConR P f [] ad post d) (he:σ.evs args.toList=some es) (hl:LeAll es ad) (hk:yE Γ.nt k=true):
  EfL P Γ ⟨some k,.call { callee:= .value<|.func f,args:=args,argTypes:=aT },ty,pos,af,gd⟩ σ (fun G σ'=>∃ i,G=fps (post i)∧σ'=(σ.give []<|post i).put k (d i)):=by
 intro a w hh K Q hK;have hall:=hl.all (ZW hh he);unfold Oper.wp;rw [qr (cap:=[]) hcon.en (show a.eval (.func f)= .func (.func f) #[] ([]:List Value).toArray from rfl),JS];simp only [Oper.upon];refine (hcon.go (σ.L Γ) w _ hh.lt hh.gl (by simp [fps]) (by simp [fps]) (by simp [fps]) s9 (by simpa [fps] using hall)).mono ?_;rintro r w' ⟨i,v,rfl,hd,hR,hnd,hnw,ho⟩
 have hnew:∀ g∈fps (post i),w.heap.size≤g:=fun g hg=>by
  rcases hnw g hg with h | h
  ·simp [fps] at h
  ·exact h
 have hs:SubBx σ.bx [] []:=trivial
 obtain ⟨h1,h2⟩:=hh.give (js:=[]) (pre:=[]) (post:=post i) hs ho (fun b hb=>(Box.less (hR b hb) (fun x hx=> .inl (by
  rcases Jf.1 hx with hx | hx
  ·exact mL _ hx
  ·exact mR _ (Jw.1 hx).1)))) hnd (fun g hg=> .inr<|hnew g hg)
 exact hK (fps<|post i) _ _ _ hnew ⟨i,V,V⟩ (h1.put (by simpa [yE] using hk)<|(d i).less hd (fun x hx=>by
  rcases h2 x hx with h3 | h3
  ·rcases Jf.1 h3 with h3 | h3
   ·exact .inl (mL _ h3)
   ·exact .inl (mR _ (Jw.1 h3).1)
  ·exact .inr h3)) (by simpa [fps] using ho)
theorem zau {x:Operand} {sT dT e k:Nat} {b:LB} (hx:σ.ev x=some (yY b)) (hs:jA P sT=true) (hd:ZS P dT e=true) (he:zhY P e .u8=true) (hk:yE Γ.nt k=true):
  Ef P Γ S ⟨some k,.convert sT dT x,ty,pos,af,gd⟩ σ (fun σ'=>σ'=σ.put k (nwD Γ.w0.heap.size<|bD b)):=by
 intro a w hh K Q hK;have hxv:a.eval x= .string ⟨b.toArray⟩:=zT hh hx;have hrun:=run_bytes_of_string (P:=P) w sT dT e ⟨b.toArray⟩ (YA hs) (yo hd) (qt he);unfold Oper.wp execOp;simp only [hxv,JD,hrun,Jv,JK];have hsz:(ByteArray.mk b.toArray).size=b.length:=zcR b;rw [hsz];have hge:=grownCap_ge w b.length 0 e;have ho:Only [] w (w.drew.alloc<|.cells (bytesRow ⟨b.toArray⟩<|grownCap w b.length 0 e) e ((bytesRow ⟨b.toArray⟩<|grownCap w b.length 0 e).size,(bytesRow ⟨b.toArray⟩<|grownCap w b.length 0 e).size + 1)):=((Only.refl [] w).drew).alloc _;refine hK _ _ _ V ((hh.keep ho).put (by simpa [yE] using hk) ?_) (ho.mono s9);intro L' hL';refine ⟨_,_,by rw [zx],by rw [zx];exact hge,fun _=>⟨_,0,rfl,by simp,fun j hj=> ?_⟩,fun _ p hp hm=> ?_⟩
 ·have hj':j < b.length:=by simpa using hj
  rw [JF];have hb:=Xw w.drew (.cells (bytesRow ⟨b.toArray⟩<|grownCap w b.length 0 e) e ((bytesRow ⟨b.toArray⟩<|grownCap w b.length 0 e).size,(bytesRow ⟨b.toArray⟩<|grownCap w b.length 0 e).size + 1));rw [show w.drew.heap=w.heap from rfl] at hb;simp only [World.cell?,hb];rw [Vo hj']
  have e2:(bytesRow ⟨b.toArray⟩<|grownCap w b.length 0 e)[j]? =some (Value.int .u8 (b[j].toNat:Int)):=by
   unfold bytesRow;rw [Array.getElem?_append_left (by simpa using hj')];rw [Array.getElem?_map,Xn (by simpa using hj')];simp
  simpa using e2
 ·injection hp with hp;subst hp;simp only at hm;rcases hL' _ hm with h | h
  ·have:=hh.on.size;omega
  ·have:=hh.lt _ h;omega
theorem zdv {parts:List (Nat × Operand)} {T e n k:Nat} {idx:LN} {b:LB} (hi:parts.map (·.1)=idx) (he:σ.evs (parts.map (·.2))=some ((cellsOf b).map isD)) (hn:n=b.length) (hm:n≤1000000) (hrun:∀ w':World,(Instr.buildSlice T n (idx.zip<|cellsOf b).toArray).run P w'= .ok (.slice (some ⟨w'.heap.size,0,none⟩) n n) (w'.alloc<|.cells (cellsOf b).toArray e)) (hk:yE Γ.nt k=true):
  Ef P Γ S ⟨some k,.buildSlice T n parts.toArray,ty,pos,af,gd⟩ σ (fun σ'=>∃ g,σ'=(⟨σ.tm,σ.bx ++ [.r [g]<|yP e 1 Yt (some ⟨g,0,none⟩) n b]⟩:St).put k (isD<|.slice (some ⟨g,0,none⟩) b.length n)):=by
 intro a w hh K Q hK;have hcs:=jj (ZW hh he)
 have e1:(parts.toArray.map fun (i,x)=>(i,a.eval x))=(idx.zip<|cellsOf b).toArray:=by
  rw [← hi,← hcs];apply Xe;simp only [Array.toList_map];exact jI a.eval parts
 have e2:(execOp a.eval ⟨some k,.buildSlice T n parts.toArray,ty,pos,af,gd⟩).run P w= .ok (.value<|.slice (some ⟨w.heap.size,0,none⟩) b.length n) (w.alloc<|.cells (cellsOf b).toArray e):=by
  simp only [execOp];rw [e1,JD,hrun w,← hn]
  rfl
 unfold Oper.wp;rw [e2];have h5:=hh.more ((Only.refl [] w).alloc<|.cells (cellsOf b).toArray e) (b:= .r [w.heap.size]<|yP e 1 Yt (some ⟨w.heap.size,0,none⟩) n b) ⟨cellsOf b,by rw [Y9];exact qN _,⟨by simp,.inr ⟨w.heap.size,n,_,rfl,JC _,Xw w _,by omega,by simp only [maxLen];omega,by simp [hn],by simp [Ji]⟩⟩,rfl⟩ (fun g hg=>by rw [Ja.1 hg];exact Js _) (by simp [Box.fp]);exact hK _ _ _ ⟨_,V⟩ (h5.put (by simpa [yE] using hk) V) ((Only.refl S w).alloc _)
theorem zaK {g o:Nat}:Only [g] w (w.freeze ⟨g,o,none⟩ 1):=by
 unfold World.freeze;rw [Jb d9];refine ⟨V,V,V,by simp,fun k hk hn=> ?_⟩;have:¬g=k:=fun e=>hn (by rw [e];exact m9 rfl);simp [Array.getElem?_modify,this]
theorem zbt {g o:Nat} (p:Addr):(w.freeze ⟨g,o,none⟩ 1).cell? p=w.cell? p:=by
 unfold World.freeze;rw [Jb d9];simp only [World.cell?,Array.getElem?_modify]
 by_cases h:g=p.block
 ·rw [Jh h]
  cases hx:w.heap[p.block]? with
  | none=>simp
  | some x=>cases x <;> simp
 ·rw [Jb h]
theorem zfZ {x:Operand} {T e k c:Nat} {A:Option Addr} {F:LN} {b:LB} (j:Nat) (hx:σ.ev x=some (isD<|.slice A b.length c)) (hj:σ.bx[j]? =some (.r F<|yP e 1 Yt A c b)) (hT:ZS P T e=true) (he:zhY P e .u8=true) (h0:0 < b.length) (hS:∀ g∈F,g∈S) (hk:yE Γ.nt k=true):
  Ef P Γ S ⟨some k,.convert T T x,ty,pos,af,gd⟩ σ (fun σ'=>σ'=(⟨σ.tm,Zk σ.bx 0 [j]⟩:St).put k (bD b)):=by
 intro a w hh K Q hK;have hxv:a.eval x= .slice A b.length c:=zT hh hx;obtain ⟨g,cur,xs,rfl,rfl,hg,hnc,hm,hcs,htk,hxl,ha⟩:=VA (hh.resAt hj) h0
 have hsh:w.shape? g=some (e,cur.size):=by simp [World.shape?,hg]
 have e2:(execOp a.eval ⟨some k,.convert T T x,ty,pos,af,gd⟩).run P w= .ok (.value<|.slice (some ⟨g,0,none⟩) b.length c) (w.freeze ⟨g,cur.size,none⟩ 1):=by
  simp [execOp,hxv,convert,Jp<|yo hT,Jp<|qt he,markStringish,hsh]
 unfold Oper.wp;rw [e2];have ho:Only [g] w (w.freeze ⟨g,cur.size,none⟩ 1):=zaK;have hmem:=Jc hj
 have h1:Holds Γ ⟨σ.tm,Zk σ.bx 0 [j]⟩ a (w.freeze ⟨g,cur.size,none⟩ 1):=by
  refine hh.swap ho (fun x hx=>yD.2 ⟨_,hmem,hx⟩) (fun b' hb'=> .inl ⟨jN hb',fun x hx hm=> ?_⟩) (fun x hx=> .inl<|ZX hx) (YT hh.nd);have h2:=qj hh hj (g:=x) hx;exact h2 (mL _<|yD.2 ⟨b',hb',hm⟩)
 have hoff:=qj hh hj (g:=g) (m9 rfl);rw [Y9] at ha;have hxs:=jj ha;subst hxs;refine hK _ _ _ V (h1.put (by simpa [yE] using hk) ⟨some ⟨g,0,none⟩,c,by rw [zx],by rw [zx];exact hnc,fun _=>⟨g,0,rfl,?_,fun i hi=> ?_⟩,fun _ p hp hm=> ?_⟩) (ho.mono (fun x hx _=>hS x hx))
 ·exact Ju (Jn.1 hg).1 ho.size
 ·rw [zbt,JF]
  have hb:w.cell? ⟨g,i,none⟩=cur[i]? :=by simp [World.cell?,hg]
  rw [hb,← htk,JP]
  have:i < b.length * 1:=by simpa using hi
  rw [Jh this];simp
 ·injection hp with hp;subst hp;exact hoff hm
theorem zeN {x:Operand} {sT dT e g n:TypeId} {b:LB} (j:Nat) (hx:σ.ev x=some (isD<|.slice (some ⟨g,0,none⟩) n n)) (hj:σ.bx[j]? =some (.c g<|(cellsOf b).map isD)) (hn:b.length=n) (hs:ZS P sT e=true) (he:zhY P e .u8=true) (hd:jA P dT=true) (hS:Ap σ j S):Rd P Γ S ⟨dst,.convert sT dT x,ty,pos,af,gd⟩ σ (yY b):=by
 intro a w hh;have hv:a.eval x= .slice (some ⟨g,0,none⟩) n n:=zT hh hx;obtain ⟨t,cs,hb,ha⟩:=hh.boxAt hj;have hcs:=jj ha;subst hcs;refine ⟨_,V,fun w' ho=> ?_⟩;have hb':=hb.keep ho (fun hm=>hS.spec hh.nd hj g hm<|m9 rfl);have hr':RV w' (some ⟨g,0,none⟩) (cellsOf b):=fun _=>⟨g,0,rfl,hb'.lt,fun i hi=>by rw [JF,hb'.cell]⟩;have h3:=run_str (P:=P) (c:=n) (yo hs) (qt he) (YA hd) (zx b) hr';rw [zx,hn] at h3;simp only [execOp,hv,JD,h3]
 rfl
theorem Rd.idxA1 {x y:Operand} {T e g n:Nat} {kd:IntKind} {i:Int} (hx:σ.ev x=some (pA g)) (hy:σ.ev y=some (isD<|.int kd i)) (hT:arrT P T e n=true) (hs:(P.info? e).map (·.size)=some 1) (h0:0≤i) (hi:i < (n:Int)):
  Rd P Γ S ⟨dst,.indexAddr T x y,ty,pos,af,gd⟩ σ (isD<|.pointer<|some ⟨g,i.toNat,none⟩):=by
 intro a w hh;have hxv:a.eval x= .pointer (some ⟨g,0,none⟩):=zT hh hx;have hyv:a.eval y= .int kd i:=zT hh hy;obtain ⟨inf,hi',hsz⟩:=Jy.1 hs;refine ⟨_,V,fun w' _=> ?_⟩;simp [execOp,hxv,hyv,Instr.indexAt,Jp<|zeF hT,Instr.sureAddr,asIntOf,sizeOf,typeInfo,hi',hsz,Addr.add,h0,hi];omega
theorem zhU {x y:Operand} {T g i:Nat} {b:LB} {v:UInt8} (j:Nat) (hx:σ.ev x=some (isD<|.pointer<|some ⟨g,i,none⟩)) (hj:σ.bx[j]? =some (.c g<|(cellsOf b).map isD)) (hy:σ.ev y=some (isD<|B8 v)) (hT:zbL P T 1=true) (hi:i < b.length) (hS:g∈S):
  Ef P Γ S ⟨none,.store T x y,ty,pos,af,gd⟩ σ (fun σ'=>σ'=σ.set j ((cellsOf<|b.set i v).map isD)):=by
 have h:=zbE (P:=P) (Γ:=Γ) (S:=S) (ty:=ty) (pos:=pos) (af:=af) (gd:=gd) j hx hy hj hT (by simpa using hi) hS;intro a w hh K Q hK;refine h a w hh K Q fun σ' a' w' hT' hh' ho=>hK σ' a' w' ?_ hh' ho;show σ'=_;rw [hT'];congr 1;simp [cellsOf,List.map_set]
theorem zcK {x y:Operand} {T e c i:Nat} {A:Option Addr} {F:LN} {α:Type} {enc:α→List D} {l:List α} {v:α} (j:Nat) [Row enc 1] [One d] (hx:σ.ev x=some (isD<|elP A<|i * 1)) (hj:σ.bx[j]? =some (.r F<|yP e 1 enc A c l)) (hy:σ.ev y=some d) (hd:enc v=[d]) (hT:zbL P T 1=true) (hi:i < l.length) (hS:∀ g∈F,g∈S):
  Ef P Γ S ⟨none,.store T x y,ty,pos,af,gd⟩ σ (fun σ'=>σ'=σ.give [j] [.r F<|yP e 1 enc A c<|l.set i v]):=by
 intro a w hh K Q hK;have hxv:a.eval x=elP A (i * 1):=zT hh hx;have hyd:=zT hh hy;have h1c:=One.h (d:=d) _ _ _ hyd;obtain ⟨g,cur,xs,rfl,rfl,hg,hnc,hm,hcs,htk,hxl,ha⟩:=VA (hh.resAt hj) o9
 have hic:i < cur.size:=by rw [hcs];omega
 obtain ⟨inf,hi',hs⟩:=Jy.1 (show (P.info? T).map (·.size)=some 1 by unfold zbL at hT;rw [JT] at hT;exact hT)
 have hcell:w.cell? ⟨g,i,none⟩=some cur[i]:=by simp [World.cell?,hg,hic]
 have hfz:w.frozen? ⟨g,i,none⟩=false:=by simp [World.frozen?,hg]
 have e2:(execOp a.eval ⟨none,.store T x y,ty,pos,af,gd⟩).run P w= .ok .skip (w.setCell ⟨g,i,none⟩<|a.eval y):=by
  simp [execOp,hxv,elP,Instr.storeAt,Instr.sureAddr,storeVar,sizeOf,typeInfo,hi',hs,Zg h1c,storeCells,run_store _ _ _ _ _ h1c,Addr.add,hcell,hfz]
 unfold Oper.wp;rw [e2];have ho:Only [g] w (w.setCell ⟨g,i,none⟩<|a.eval y):=(Only.refl [g] w).setCell (p:=⟨g,i,none⟩) (.inl s9) _
 have hg2:(w.setCell ⟨g,i,none⟩<|a.eval y).heap[g]? =some (.cells (cur.setIfInBounds i<|a.eval y) e (0,0)):=by
  simp [World.setCell,Array.getElem?_modify,hg]
 have hsub:SubBx σ.bx [j] [.r [g]<|yP e 1 enc (some ⟨g,0,none⟩) c l]:=⟨⟨_,hj,yu _⟩,trivial⟩;have hfp:fps [Box.r [g]<|yP e 1 enc (some ⟨g,0,none⟩) c l]=[g]:=rfl
 have hset:(l.set i v).flatMap enc=(l.flatMap enc).set i d:=by
  have:∀ (l:List α) (i:Nat),(l.set i v).flatMap enc=(l.flatMap enc).set i d:=by
   intro l
   induction l with
   | nil=>intro i;simp
   | cons x l ih=>
    intro i;have h1:=Row.len (enc:=enc) (sz:=1) x
    obtain ⟨u,hu⟩:∃ u,enc x=[u]:=by
     cases hx:enc x with
     | nil=>rw [hx] at h1;simp at h1
     | cons u us=>cases us with
      | nil=>exact ⟨u,rfl⟩
      | cons=>rw [hx] at h1;simp at h1
    cases i with
    | zero=>simp [hd,hu]
    | succ i=>simp [hu,ih i]
  exact this l i
 obtain ⟨h3,_⟩:=hh.give (post:=[.r [g]<|yP e 1 enc (some ⟨g,0,none⟩) c<|l.set i v]) hsub (by rw [hfp];exact ho) (fun b hb=>by
  rw [Ja.1 hb];refine ⟨xs.set i<|a.eval y,?_,⟨by simp [hxl],.inr ⟨g,c,_,by simp,JC _,hg2,by simpa using hnc,hm,by simp [hcs],?_⟩⟩,by simp [Value.ownBlock]⟩
  ·rw [hset];refine ((ha.set (i:=i) hyd).keep ho (fun x hx=> ?_)).less (fun x hx=> ?_)
   ·rw [Ja.1 hx];exact mL _ (yD.2 ⟨_,Jc hj,m9 V⟩)
   ·rcases Jf.1 hx with hx | hx
    ·exact .inl (mL _<|yD.2 ⟨_,Jc hj,hx⟩)
    ·exact .inl (Jw.1 hx).1
  ·rw [← htk]
   simp [List.take_set]) (by simp [fps,Box.fp]) (fun g' hg'=> .inl hg')
 exact hK _ _ _ V h3 (ho.mono (fun x hx _=>hS x hx))
end
end Sx
end Go.Proofs.YtgokpcnabgacnaaGreatDoor
namespace Go.Proofs.YtgokpcnabgacnaaGreatDoor
open Go.ChangeShapes Go.WideShapes Go.ChangeAt Go.RowKit
namespace Sx
section
section
variable {P:Program}
def Came (P:Program) (t:TypeId) {α:Type} (ec:α→List D) (ok:α→Prop):Prop:=∀ (H:Type) (enc:TypeId × Value→H) (W:World) (fuel:Nat) (cs:List Value) (x:DataW H × List MemPlace),DataW.trod enc P W 0 (fun _=>true) true fuel t cs=some x→∃ a,ok a∧All [] W (ec a) cs
theorem qV {t:TypeId} {k:IntKind} (ht:P.underlying t=some (.int k)):Came P t (fun z:Int=>[isD<|.int k z]) (fun z=>(Lit.int k z).wf=true):=fun H enc W fuel cs x h=>by
 obtain ⟨z,rfl,-,hw⟩:=DataW.trod_int ht h;exact ⟨z,hw,V,t9⟩
theorem came_str {t:TypeId} (ht:P.underlying t=some .string):Came P t (fun b:LB=>[yY b]) (fun b=>b.length≤maxLen):=fun H enc W fuel cs x h=>by
 obtain ⟨⟨⟨s⟩⟩,rfl,-,hl⟩:=DataW.trod_string ht h;exact ⟨s,hl,V,t9⟩
theorem came_u8 {t:TypeId} (ht:P.underlying t=some (.int .u8)):Came P t Yt (fun _=>True):=fun H enc W fuel cs x h=>by
 obtain ⟨z,rfl,-,hw⟩:=DataW.trod_int ht h
 have:0≤z∧z < 256:=by simp [Lit.wf,IntKind.min,IntKind.max,IntKind.signed,IntKind.bits] at hw;omega
 refine ⟨UInt8.ofNat z.toNat,t9,?_,t9⟩;show Value.int .u8 z=B8 _;unfold B8;congr 1;simp;omega
theorem zg3 {α:Type} {enc:α→List D}:Le (isD<|.slice none 0 0) (lsD enc []):=fun _ _ _ h=>⟨none,0,h,Js _,fun h0=>by simp at h0⟩
theorem WK {t e sz:Nat} {α:Type} [Inhabited α] {ec:α→List D} {ok:α→Prop} [Row ec sz] (ht:P.underlying t=some (.slice e)) (hc:P.cellsOf e=sz) (hsz:0 < sz) (he:Came P e ec ok):Came P t (fun l:List α=>[lsD ec l]) (fun l=>l.length≤maxLen∧∀ x∈l,ok x):=fun H enc W fuel cs x h=>by
 rcases Go.Deep.open_slice ht h with ⟨rfl,-⟩ | ⟨a,len,cap,m,n,Dn,Pl,rfl,-,hl,hm,hmm,-,hx⟩
 ·exact ⟨[],⟨JC _,by simp⟩,zg3 _ _ _ V,t9⟩
 simp only [if_true] at hmm;subst hmm
 have hx2:∀ i,i < len→∃ q:α × List Value,ok q.1∧W.cells? 0 (a.add<|i * sz) sz=some q.2∧All [] W (ec q.1) q.2:=fun i hi=>by
  obtain ⟨cs',h1,h2⟩:=hx i o9;rw [hc] at h1;obtain ⟨q,h3,h4⟩:=he _ _ _ _ _ _ h2;exact ⟨(q,cs'),h3,h1,h4⟩
 obtain ⟨X,hX⟩:=Go.Deep.choose_lt hx2
 have hlen:((List.range len).map fun i=>(X i).1).length=len:=by simp
 have hnth:0 < len→a.spot=none:=fun hi=>by
  obtain ⟨_,hl2,hcell⟩:=World.cells?_some (hX 0 hi).2.1;have h1:=hcell 0 hsz;rw [Je o9] at h1;have h2:=World.cell?_spot h1;simpa [Addr.add] using h2
 have key:∀ k,k≤len→∃ cs,All [] W (((List.range k).map fun i=>(X i).1).flatMap ec) cs∧cs.length=k * sz∧∀ j,j < cs.length→W.cell? (a.add j)=cs[j]? :=by
  intro k
  induction k with
  | zero=>intro _;exact ⟨[],trivial,by simp,by simp⟩
  | succ k ih=>
   intro hk;obtain ⟨cs,h1,h2,h3⟩:=ih o9;obtain ⟨_,hl2,hcell⟩:=World.cells?_some (hX k o9).2.1;refine ⟨cs ++ (X k).2,?_,?_,fun j hj=> ?_⟩
   ·rw [List.range_succ,XG,List.flatMap_append];exact h1.append (by simpa using (hX k o9).2.2)
   ·rw [Jk,h2,hl2,Nat.succ_mul]
   ·by_cases hjc:j < cs.length
    ·rw [JB hjc];exact h3 j hjc
    ·rw [JR o9];rw [Jk,hl2] at hj;have h4:=hcell (j - cs.length) o9;rw [Go.Deep.add_add,h2,show k * sz + (j - k * sz)=j by omega] at h4;rw [h2,h4]
 refine ⟨(List.range len).map fun i=>(X i).1,⟨by omega,fun x hx=> ?_⟩,⟨some a,m,by rw [hlen],by rw [hlen];exact hl,fun h0=> ?_⟩,t9⟩
 ·obtain ⟨i,hi,rfl⟩:=JI.1 hx;exact (hX i (by simpa using hi)).1
 ·obtain ⟨cs,h1,h2,h3⟩:=key len (Js _)
  have hpos:0 < len:=by
   rcases Xk len with h | h
   ·subst h;simp at h0
   ·exact h
  have hsp:=hnth hpos;obtain ⟨g,o,s⟩:=a;simp only at hsp;subst hsp
  have hcl:0 < cs.length:=by rw [h2];exact Nat.mul_pos hpos hsz
  have hc0:=h3 0 hcl;refine ⟨g,o,V,?_,by simp,cs,h1,fun j hj=> ?_⟩
  ·rw [Je hcl] at hc0;exact (by simpa [Addr.add] using zfH hc0)
  ·have:=h3 j hj;rw [Xg] at this;exact this
theorem K7 {t e:TypeId} (ht:P.underlying t=some (.slice e)) (he:P.underlying e=some (.int .u8)) (hc:P.cellsOf e=1):Came P t (fun b:LB=>[bD b]) (fun b=>b.length≤maxLen):=fun H enc W fuel cs x h=>by
 obtain ⟨b,⟨h1,-⟩,h2⟩:=WK ht hc d9 (came_u8 he) _ _ _ _ _ _ h
 match cs,h2 with
 | [c],h2=>exact ⟨b,h1,Yc b _ _ _ h2.1,trivial⟩
def Parts (L:LN) (w:World):List (List D)→List Value→Nat→Prop
 | [],_,_=>True
 | d :: ls,cs,o=>All L w d ((cs.drop o).take d.length)∧Parts L w ls cs (o + d.length)
theorem Wd {L:LN} {w:World}:∀ (ls:List (List D)) (cs:List Value) (o:Nat),Parts L w ls cs o→cs.length=o + ls.flatten.length→All L w ls.flatten (cs.drop o)
 | [],cs,o,_,h=>by
  have:cs.drop o=[]:=JZ (by simp at h;omega);rw [this];trivial
 | d :: ls,cs,o,h,hl=>by
  have ih:=Wd ls cs (o + d.length) h.2 (by simp at hl ⊢;omega)
  have e:cs.drop o=(cs.drop o).take d.length ++ cs.drop (o + d.length):=by
   rw [← List.drop_drop];exact (JV _ _).symm
  rw [e,List.flatten_cons];exact h.1.append ih
theorem Vp {t:TypeId} {fs:Array Field} (ht:P.underlying t=some (.struct fs)) {H:Type} {enc:TypeId × Value→H} {W:World} {fuel:Nat} {cs:List Value} {x:DataW H × List MemPlace} (h:DataW.trod enc P W 0 (fun _=>true) true fuel t cs=some x):
  cs.length=P.cellsOf t∧∀ (i:Nat) (f:Field),fs[i]? =some f→∃ n y,DataW.trod enc P W 0 (fun _=>true) true n f.type ((cs.drop f.offset).take<|P.cellsOf f.type)=some y:=by
 obtain ⟨xs,n,_,_,hl,hlen,hf⟩:=DataW.trod_struct ht h;refine ⟨hl,fun i f hi=>⟨n,xs[i]'(by have:=(Jn.1 hi).1;omega),?_⟩⟩;rw [hf i f hi];exact Je _
theorem top_slice {t e:TypeId} {α:Type} {d:α→D} {ok:α→Prop} {base:Nat} {W:World} {v:Value} {H:Type} {enc:TypeId × Value→H} {x:DataW H} {p:List MemPlace} (hop:Came P t (fun a=>[d a]) ok) (ht:P.underlying t=some (.slice e)) (hv:Value.okWide P W .any base t v) (h:DataW.Trod enc P W 0 (fun _=>true) true t v x p):∃ a,ok a∧(d a).R [] W v:=by
 obtain ⟨A,n,c,rfl⟩:=okWide_slice ht hv;obtain ⟨fuel,h⟩:=h;obtain ⟨a,h1,h2⟩:=hop _ _ _ _ _ _ h;exact ⟨a,h1,h2.1⟩
theorem top_int {t:TypeId} {k:IntKind} {base:Nat} {W:World} {v:Value} {H:Type} {enc:TypeId × Value→H} {x:DataW H} {p:List MemPlace} (ht:P.underlying t=some (.int k)) (hv:Value.okWide P W .any base t v) (h:DataW.Trod enc P W 0 (fun _=>true) true t v x p):∃ z:Int,(Lit.int k z).wf=true∧(isD<|.int k z).R [] W v:=by
 obtain ⟨z,rfl,-,-,hz⟩:=open_int ht hv h;exact ⟨z,hz,V⟩
end
end
section
section
variable {P:Program}{Γ:Cx}{σ σ':St}{Q:Exit→Act→World→Prop}{a:Act}{w:World}{ops:Array Oper}{rest:List Oper}{S:List Nat}{dst:Option Tmp}{ty:TypeId}{pos:String}{af:Array Edge}{gd:Option (Nat × Bool)}
end
end
section
abbrev Dg:Type:={d:LB // d.length=32}
def encG (d:Dg):List D:=(cellsOf d.1).map isD
instance:Row encG 32:=⟨fun x=>by unfold encG;rw [JO,zx,x.2],fun x=>by unfold encG;infer_instance,by decide⟩
section
variable {P:Program}{Γ:Cx}{σ:St}{S:List Nat}{dst:Option Tmp}{ty:TypeId}{pos:String}{af:Array Edge}{gd:Option (Nat × Bool)}{d:D}
end
end
section
section
variable {P:Program}{Γ:Cx}{σ:St}{S:List Nat}{dst:Option Tmp}{ty:TypeId}{pos:String}{af:Array Edge}{gd:Option (Nat × Bool)}{d:D}
end
end
section
class Flat (d:D):Prop where
 h:∀ L L' w v,d.R L w v→d.R L' w v
instance (v:Value):Flat (isD v):=⟨fun _ _ _ _ h=>h⟩
class Flats (ds:List D):Prop where
 h:∀ L L' w vs,All L w ds vs→All L' w ds vs
instance:Flats []:=⟨fun _ _ _ vs h=>by cases vs with | nil=>trivial | cons=>exact h.elim⟩
instance (d:D) (ds:List D) [hd:Flat d] [hs:Flats ds]:Flats (d :: ds):=⟨fun L L' w vs h=>by
 cases vs with
 | nil=>exact h.elim
 | cons v vs=>exact ⟨hd.h _ _ _ _ h.1,hs.h _ _ _ _ h.2⟩⟩
instance (ds:List D) [hs:Flats ds]:Flat (Yk ds):=⟨fun L L' w v ⟨cs,hv,ha⟩=>⟨cs,hv,hs.h _ _ _ _ ha⟩⟩
theorem zfm (b:LB):Flats (b.flatMap Yt):=⟨fun L L' w vs h=>by
 induction b generalizing vs with
 | nil=>cases vs with | nil=>trivial | cons=>exact h.elim
 | cons x b ih=>
  cases vs with
  | nil=>exact h.elim
  | cons v vs=>exact ⟨h.1,ih vs h.2⟩⟩
class FlatBx (b:Box):Prop where
 h:∀ L L' w,b.R L w→b.R L' w
instance (F:LN) (e c:Nat) (A:Option Addr) (b:LB):FlatBx (.r F<|yP e 1 Yt A c b):=⟨fun L L' w ⟨xs,ha,h⟩=>⟨xs,(zfm b).h _ _ _ _ ha,h⟩⟩
section
variable {P:Program}{Γ:Cx}{σ:St}{S:List Nat}{dst:Option Tmp}{ty:TypeId}{pos:String}{af:Array Edge}{gd:Option (Nat × Bool)}{d:D}{a:Act}{w:World}
end
end
section
inductive El
 | k (b:LB)
 | x (A:Option Addr) (n c:Nat)
def encX:El→List D
 | .k b=>[bD b]
 | .x A n c=>[isD<|.slice A n c]
instance:Row encX 1:=⟨fun e=>by cases e <;> rfl,fun e=>by cases e <;> (unfold encX;infer_instance),by decide⟩
section
variable {P:Program}{Γ:Cx}{σ:St}{Q:Exit→Act→World→Prop}{a:Act}{w:World}
