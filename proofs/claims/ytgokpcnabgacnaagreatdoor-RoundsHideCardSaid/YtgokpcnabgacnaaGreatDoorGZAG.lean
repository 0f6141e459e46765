/- WALKING CODE BY WHAT IS KNOWN: strings and bytes, parts of slices, elements that are stored. Over any program. WHAT CAME IN, by what is known: data ma -/
import Derived.Test.YtgokpcnabgacnaaGreatDoorGZAF
import Derived.Test.YtgokpcnabgacnaaGreatDoorGZAB
import Derived.Deep.Slices
import Derived.Recover
import Derived.Stop.BytesEq
namespace Go.Proofs.YtgokpcnabgacnaaGreatDoor
open Go.RowKit
namespace Sx
section
variable {P : Program} {Γ : Cx} {σ : St} {S : List Nat} {dst : Option Tmp} {ty : TypeId} {pos : String} {af : Array Edge} {gd : Option (Nat × Bool)} {d : D} {Q : Exit → Act → World → Prop} {a : Act} {w : World}
theorem ins_append {S T:LN} (h:∀ s∈S,s∈σ.L Γ) (k:∀ s∈T,s∈σ.L Γ):∀ s∈S ++ T,s∈σ.L Γ:=fun s hs=>by
 rcases List.mem_append.1 hs with hs | hs
 ·exact h s hs
 ·exact k s hs
def EfL (P:Program) (Γ:Cx) (o:Oper) (σ:St) (T:LN→St→Prop):Prop:=
 ∀ a w,Holds Γ σ a w→∀ (K:Act→World→Prop) (Q:Exit→Act→World→Prop),(∀ G σ' a' w',(∀ g∈G,w.heap.size≤g)→T G σ'→Holds Γ σ' a' w'→Only [] w w'→K a' w')→o.wp P a w K Q
section
variable {l : List Oper} {tz uz : Reg.Tz} {op : Op}
theorem SWz.efl {T:LN→St→Prop} {i:Nat} (ho:l[i]? =some ⟨dst,op,ty,pos,af,none⟩) (h:EfL P Γ ⟨dst,op,ty,pos,af,none⟩ σ T) (hk:∀ G σ',T G σ'→SWz P Γ l Q (S ++ G) tz σ') (hu:SWz P Γ l Q S uz σ):SWz P Γ l Q S (.n i tz uz) σ:=by
 intro a w hh
 have e:l.getD i default=⟨dst,op,ty,pos,af,none⟩:=by rw [List.getD_eq_getElem?_getD,ho];rfl
 unfold Reg.wpG;rw [e];refine ⟨wpList_plain V fun K hK=> ?_,hu a w hh⟩
 exact h a w hh K _ fun G σ' a' w' hg hT hh' hO=>hK _ _ ⟨S ++ G,fun x hx=>by
  rcases List.mem_append.1 hx with hx | hx
  ·exact .inl hx
  ·exact .inr (hg x hx),hO,hk G σ' hT a' w' hh'⟩
end
theorem EfL.callR {f:FuncId} {args:Array Operand} {aT:Array TypeId} {ad es:List D} {ι:Type} {post:ι→List Box} {d:ι→D} {k:Nat} (hcon:ConR P f [] ad post d) (he:σ.evs args.toList=some es) (hl:LeAll es ad) (hk:yy Γ.nt k=true):
  EfL P Γ ⟨some k,.call { callee:= .value (.func f),args:=args,argTypes:=aT },ty,pos,af,gd⟩ σ (fun G σ'=>∃ i,G=fps (post i)∧σ'=(σ.give [] (post i)).put k (d i)):=by
 intro a w hh K Q hK;have hall:=hl.all (Zr hh he);unfold Oper.wp;rw [Yy (cap:=[]) hcon.en (show a.eval (.func f)= .func (.func f) #[] ([]:List Value).toArray from rfl),List.append_nil];simp only [Oper.upon];refine (hcon.go (σ.L Γ) w _ hh.lt hh.gl (by simp [fps]) (by simp [fps]) (by simp [fps]) s9 (by simpa [fps] using hall)).mono ?_;rintro r w' ⟨i,v,rfl,hd,hR,hnd,hnw,ho⟩
 have hnew:∀ g∈fps (post i),w.heap.size≤g:=fun g hg=>by
  rcases hnw g hg with h | h
  ·simp [fps] at h
  ·exact h
 have hs:SubBx σ.bx [] []:=trivial
 obtain ⟨h1,h2⟩:=hh.give (js:=[]) (pre:=[]) (post:=post i) hs ho (fun b hb=>(Box.less (hR b hb) (fun x hx=> .inl (by
  rcases List.mem_append.1 hx with hx | hx
  ·exact mL _ hx
  ·exact mR _ (List.mem_filter.1 hx).1)))) hnd (fun g hg=> .inr (hnew g hg))
 exact hK (fps (post i)) _ _ _ hnew ⟨i,V,V⟩ (h1.put (by simpa [yy] using hk) ((d i).less hd (fun x hx=>by
  rcases h2 x hx with h3 | h3
  ·rcases List.mem_append.1 h3 with h3 | h3
   ·exact .inl (mL _ h3)
   ·exact .inl (mR _ (List.mem_filter.1 h3).1)
  ·exact .inr h3))) (by simpa [fps] using ho)
theorem Ef.bytes {x:Operand} {sT dT e k:Nat} {b:LB} (hx:σ.ev x=some (yp b)) (hs:stringT P sT=true) (hd:ZL P dT e=true) (he:intT P e .u8=true) (hk:yy Γ.nt k=true):
  Ef P Γ S ⟨some k,.convert sT dT x,ty,pos,af,gd⟩ σ (fun σ'=>σ'=σ.put k (nwD Γ.w0.heap.size (bD b))):=by
 intro a w hh K Q hK;have hxv:a.eval x= .string ⟨b.toArray⟩:=zF hh hx;have hrun:=run_bytes_of_string (P:=P) w sT dT e ⟨b.toArray⟩ (ZZ hs) (yt hd) (intT_spec he);unfold Oper.wp execOp;simp only [hxv,Sem.run_bind,hrun,Result.andThen_ok,Sem.run_pure];have hsz:(ByteArray.mk b.toArray).size=b.length:=str_size b;rw [hsz];have hge:=grownCap_ge w b.length 0 e;have ho:Only [] w (w.drew.alloc (.cells (bytesRow ⟨b.toArray⟩ (grownCap w b.length 0 e)) e ((bytesRow ⟨b.toArray⟩ (grownCap w b.length 0 e)).size,(bytesRow ⟨b.toArray⟩ (grownCap w b.length 0 e)).size + 1))):=((Only.refl [] w).drew).alloc _;refine hK _ _ _ V ((hh.keep ho).put (by simpa [yy] using hk) ?_) (ho.mono s9);intro L' hL';refine ⟨_,_,by rw [zw],by rw [zw];exact hge,fun _=>⟨_,0,rfl,by simp,fun j hj=> ?_⟩,fun _ p hp hm=> ?_⟩
 ·have hj':j < b.length:=by simpa using hj
  rw [Nat.zero_add];have hb:=heap_alloc_new w.drew (.cells (bytesRow ⟨b.toArray⟩ (grownCap w b.length 0 e)) e ((bytesRow ⟨b.toArray⟩ (grownCap w b.length 0 e)).size,(bytesRow ⟨b.toArray⟩ (grownCap w b.length 0 e)).size + 1));rw [show w.drew.heap=w.heap from rfl] at hb;simp only [World.cell?,hb];rw [cellsOf_get hj']
  have e2:(bytesRow ⟨b.toArray⟩ (grownCap w b.length 0 e))[j]? =some (Value.int .u8 (b[j].toNat:Int)):=by
   unfold bytesRow;rw [Array.getElem?_append_left (by simpa using hj')];rw [Array.getElem?_map,Array.getElem?_eq_getElem (by simpa using hj')];simp
  simpa using e2
 ·injection hp with hp;subst hp;simp only at hm;rcases hL' _ hm with h | h
  ·have:=hh.on.size;omega
  ·have:=hh.lt _ h;omega
theorem Ef.litV {parts:List (Nat × Operand)} {T e n k:Nat} {idx:LN} {b:LB} (hi:parts.map (·.1)=idx) (he:σ.evs (parts.map (·.2))=some ((cellsOf b).map isD)) (hn:n=b.length) (hm:n≤1000000) (hrun:∀ w':World,(Instr.buildSlice T n (idx.zip (cellsOf b)).toArray).run P w'= .ok (.slice (some ⟨w'.heap.size,0,none⟩) n n) (w'.alloc (.cells (cellsOf b).toArray e))) (hk:yy Γ.nt k=true):
  Ef P Γ S ⟨some k,.buildSlice T n parts.toArray,ty,pos,af,gd⟩ σ (fun σ'=>∃ g,σ'=(⟨σ.tm,σ.bx ++ [.r [g] (yj e 1 ZP (some ⟨g,0,none⟩) n b)]⟩:St).put k (isD (.slice (some ⟨g,0,none⟩) b.length n))):=by
 intro a w hh K Q hK;have hcs:=all_isD (Zr hh he)
 have e1:(parts.toArray.map fun (i,x)=>(i,a.eval x))=(idx.zip (cellsOf b)).toArray:=by
  rw [← hi,← hcs];apply Array.ext';simp only [Array.toList_map];exact zip_parts a.eval parts
 have e2:(execOp a.eval ⟨some k,.buildSlice T n parts.toArray,ty,pos,af,gd⟩).run P w= .ok (.value (.slice (some ⟨w.heap.size,0,none⟩) b.length n)) (w.alloc (.cells (cellsOf b).toArray e)):=by
  simp only [execOp];rw [e1,Sem.run_bind,hrun w,← hn]
  rfl
 unfold Oper.wp;rw [e2];have h5:=hh.more ((Only.refl [] w).alloc (.cells (cellsOf b).toArray e)) (b:= .r [w.heap.size] (yj e 1 ZP (some ⟨w.heap.size,0,none⟩) n b)) ⟨cellsOf b,by rw [Yz];exact all_is _,⟨by simp,.inr ⟨w.heap.size,n,_,rfl,Nat.zero_le _,heap_alloc_new w _,by omega,by simp only [maxLen];omega,by simp [hn],by simp [List.take_of_length_le]⟩⟩,rfl⟩ (fun g hg=>by rw [List.mem_singleton.1 hg];exact Nat.le_refl _) (by simp [Box.fp]);exact hK _ _ _ ⟨_,V⟩ (h5.put (by simpa [yy] using hk) V) ((Only.refl S w).alloc _)
theorem only_freeze {g o:Nat}:Only [g] w (w.freeze ⟨g,o,none⟩ 1):=by
 unfold World.freeze;rw [if_neg d9];refine ⟨V,V,V,by simp,fun k hk hn=> ?_⟩;have:¬g=k:=fun e=>hn (by rw [e];exact m9 rfl);simp [Array.getElem?_modify,this]
theorem cell_freeze {g o:Nat} (p:Addr):(w.freeze ⟨g,o,none⟩ 1).cell? p=w.cell? p:=by
 unfold World.freeze;rw [if_neg d9];simp only [World.cell?,Array.getElem?_modify]
 by_cases h:g=p.block
 ·rw [if_pos h]
  cases hx:w.heap[p.block]? with
  | none=>simp
  | some x=>cases x <;> simp
 ·rw [if_neg h]
theorem Ef.mark {x:Operand} {T e k c:Nat} {A:Option Addr} {F:LN} {b:LB} (j:Nat) (hx:σ.ev x=some (isD (.slice A b.length c))) (hj:σ.bx[j]? =some (.r F (yj e 1 ZP A c b))) (hT:ZL P T e=true) (he:intT P e .u8=true) (h0:0 < b.length) (hS:∀ g∈F,g∈S) (hk:yy Γ.nt k=true):
  Ef P Γ S ⟨some k,.convert T T x,ty,pos,af,gd⟩ σ (fun σ'=>σ'=(⟨σ.tm,yS σ.bx 0 [j]⟩:St).put k (bD b)):=by
 intro a w hh K Q hK;have hxv:a.eval x= .slice A b.length c:=zF hh hx;obtain ⟨g,cur,xs,rfl,rfl,hg,hnc,hm,hcs,htk,hxl,ha⟩:=vec_some (hh.resAt hj) h0
 have hsh:w.shape? g=some (e,cur.size):=by simp [World.shape?,hg]
 have e2:(execOp a.eval ⟨some k,.convert T T x,ty,pos,af,gd⟩).run P w= .ok (.value (.slice (some ⟨g,0,none⟩) b.length c)) (w.freeze ⟨g,cur.size,none⟩ 1):=by
  simp [execOp,hxv,convert,run_underlying (yt hT),run_underlying (intT_spec he),markStringish,hsh]
 unfold Oper.wp;rw [e2];have ho:Only [g] w (w.freeze ⟨g,cur.size,none⟩ 1):=only_freeze;have hmem:=List.mem_of_getElem? hj
 have h1:Holds Γ ⟨σ.tm,yS σ.bx 0 [j]⟩ a (w.freeze ⟨g,cur.size,none⟩ 1):=by
  refine hh.swap ho (fun x hx=>mem_fps.2 ⟨_,hmem,hx⟩) (fun b' hb'=> .inl ⟨dropAt_sub hb',fun x hx hm=> ?_⟩) (fun x hx=> .inl (Zt hx)) (Yh hh.nd);have h2:=YN hh hj (g:=x) hx;exact h2 (mL _ (mem_fps.2 ⟨b',hb',hm⟩))
 have hoff:=YN hh hj (g:=g) (m9 rfl);rw [Yz] at ha;have hxs:=all_isD ha;subst hxs;refine hK _ _ _ V (h1.put (by simpa [yy] using hk) ⟨some ⟨g,0,none⟩,c,by rw [zw],by rw [zw];exact hnc,fun _=>⟨g,0,rfl,?_,fun i hi=> ?_⟩,fun _ p hp hm=> ?_⟩) (ho.mono (fun x hx _=>hS x hx))
 ·exact Nat.lt_of_lt_of_le (Array.getElem?_eq_some_iff.1 hg).1 ho.size
 ·rw [cell_freeze,Nat.zero_add]
  have hb:w.cell? ⟨g,i,none⟩=cur[i]? :=by simp [World.cell?,hg]
  rw [hb,← htk,List.getElem?_take]
  have:i < b.length * 1:=by simpa using hi
  rw [if_pos this];simp
 ·injection hp with hp;subst hp;exact hoff hm
theorem Rd.strBox {x:Operand} {sT dT e g n:TypeId} {b:LB} (j:Nat) (hx:σ.ev x=some (isD (.slice (some ⟨g,0,none⟩) n n))) (hj:σ.bx[j]? =some (.c g ((cellsOf b).map isD))) (hn:b.length=n) (hs:ZL P sT e=true) (he:intT P e .u8=true) (hd:stringT P dT=true) (hS:Ap σ j S):Rd P Γ S ⟨dst,.convert sT dT x,ty,pos,af,gd⟩ σ (yp b):=by
 intro a w hh;have hv:a.eval x= .slice (some ⟨g,0,none⟩) n n:=zF hh hx;obtain ⟨t,cs,hb,ha⟩:=hh.boxAt hj;have hcs:=all_isD ha;subst hcs;refine ⟨_,V,fun w' ho=> ?_⟩;have hb':=hb.keep ho (fun hm=>hS.spec hh.nd hj g hm (m9 rfl));have hr':RV w' (some ⟨g,0,none⟩) (cellsOf b):=fun _=>⟨g,0,rfl,hb'.lt,fun i hi=>by rw [Nat.zero_add,hb'.cell]⟩;have h3:=run_str (P:=P) (c:=n) (yt hs) (intT_spec he) (ZZ hd) (zw b) hr';rw [zw,hn] at h3;simp only [execOp,hv,Sem.run_bind,h3]
 rfl
theorem At.take {L:LN} {A:Option Addr} {ds:List D} (n:Nat) (h:At L w A ds):At L w A (ds.take n):=fun h0=>by
 obtain ⟨g,o,e,hg,hn,cs,h1,h2⟩:=h (by rw [List.length_take] at h0;omega);refine ⟨g,o,e,hg,hn,cs.take n,h1.take n,fun j hj=> ?_⟩;rw [List.length_take] at hj;rw [h2 j o9,List.getElem?_take,if_pos o9]
theorem flat_take {α:Type} {enc:α→List D} {sz:Nat} [Row enc sz]:∀ (l:List α) (k:Nat),(l.take k).flatMap enc=(l.flatMap enc).take (k * sz)
 | [],k=>by simp
 | x :: l,0=>by simp
 | x :: l,k + 1=>by
  have h:=Row.len (enc:=enc) (sz:=sz) x;rw [List.take_succ_cons,List.flatMap_cons,List.flatMap_cons,flat_take (sz:=sz) l k,Nat.succ_mul,Nat.add_comm (k * sz) sz,List.take_append,h,Nat.add_sub_cancel_left];congr 1;exact (List.take_of_length_le o9).symm
theorem flat_dropk {α:Type} {enc:α→List D} {sz:Nat} [Row enc sz]:∀ (l:List α) (k:Nat),(l.drop k).flatMap enc=(l.flatMap enc).drop (k * sz)
 | [],k=>by simp
 | x :: l,0=>by simp
 | x :: l,k + 1=>by
  have h:=Row.len (enc:=enc) (sz:=sz) x;rw [List.drop_succ_cons,List.flatMap_cons,flat_dropk (sz:=sz) l k,Nat.succ_mul,Nat.add_comm (k * sz) sz,List.drop_append,h,Nat.add_sub_cancel_left];rw [show (enc x).drop (sz + k * sz)=[] from List.drop_eq_nil_of_le o9,List.nil_append]
theorem Rd.idxA1 {x y:Operand} {T e g n:Nat} {kd:IntKind} {i:Int} (hx:σ.ev x=some (pA g)) (hy:σ.ev y=some (isD (.int kd i))) (hT:arrT P T e n=true) (hs:(P.info? e).map (·.size)=some 1) (h0:0≤i) (hi:i < (n:Int)):
  Rd P Γ S ⟨dst,.indexAddr T x y,ty,pos,af,gd⟩ σ (isD (.pointer (some ⟨g,i.toNat,none⟩))):=by
 intro a w hh;have hxv:a.eval x= .pointer (some ⟨g,0,none⟩):=zF hh hx;have hyv:a.eval y= .int kd i:=zF hh hy;obtain ⟨inf,hi',hsz⟩:=Option.map_eq_some_iff.1 hs;refine ⟨_,V,fun w' _=> ?_⟩;simp [execOp,hxv,hyv,Instr.indexAt,run_underlying (arrT_spec hT),Instr.sureAddr,asIntOf,sizeOf,typeInfo,hi',hsz,Addr.add,h0,hi];omega
theorem Ef.storeB8 {x y:Operand} {T g i:Nat} {b:LB} {v:UInt8} (j:Nat) (hx:σ.ev x=some (isD (.pointer (some ⟨g,i,none⟩)))) (hj:σ.bx[j]? =some (.c g ((cellsOf b).map isD))) (hy:σ.ev y=some (isD (B8 v))) (hT:sizeT P T 1=true) (hi:i < b.length) (hS:g∈S):
  Ef P Γ S ⟨none,.store T x y,ty,pos,af,gd⟩ σ (fun σ'=>σ'=σ.set j ((cellsOf (b.set i v)).map isD)):=by
 have h:=Ef.storeE (P:=P) (Γ:=Γ) (S:=S) (ty:=ty) (pos:=pos) (af:=af) (gd:=gd) j hx hy hj hT (by simpa using hi) hS;intro a w hh K Q hK;refine h a w hh K Q fun σ' a' w' hT' hh' ho=>hK σ' a' w' ?_ hh' ho;show σ'=_;rw [hT'];congr 1;simp [cellsOf,List.map_set]
theorem Ef.storeT1 {x y:Operand} {T e c i:Nat} {A:Option Addr} {F:LN} {α:Type} {enc:α→List D} {l:List α} {v:α} (j:Nat) [Row enc 1] [One d] (hx:σ.ev x=some (isD (elP A (i * 1)))) (hj:σ.bx[j]? =some (.r F (yj e 1 enc A c l))) (hy:σ.ev y=some d) (hd:enc v=[d]) (hT:sizeT P T 1=true) (hi:i < l.length) (hS:∀ g∈F,g∈S):
  Ef P Γ S ⟨none,.store T x y,ty,pos,af,gd⟩ σ (fun σ'=>σ'=σ.give [j] [.r F (yj e 1 enc A c (l.set i v))]):=by
 intro a w hh K Q hK;have hxv:a.eval x=elP A (i * 1):=zF hh hx;have hyd:=zF hh hy;have h1c:=One.h (d:=d) _ _ _ hyd;obtain ⟨g,cur,xs,rfl,rfl,hg,hnc,hm,hcs,htk,hxl,ha⟩:=vec_some (hh.resAt hj) o9
 have hic:i < cur.size:=by rw [hcs];omega
 obtain ⟨inf,hi',hs⟩:=Option.map_eq_some_iff.1 (show (P.info? T).map (·.size)=some 1 by unfold sizeT at hT;rw [beq_iff_eq] at hT;exact hT)
 have hcell:w.cell? ⟨g,i,none⟩=some cur[i]:=by simp [World.cell?,hg,hic]
 have hfz:w.frozen? ⟨g,i,none⟩=false:=by simp [World.frozen?,hg]
 have e2:(execOp a.eval ⟨none,.store T x y,ty,pos,af,gd⟩).run P w= .ok .skip (w.setCell ⟨g,i,none⟩ (a.eval y)):=by
  simp [execOp,hxv,elP,Instr.storeAt,Instr.sureAddr,storeVar,sizeOf,typeInfo,hi',hs,yI h1c,storeCells,run_store _ _ _ _ _ h1c,Addr.add,hcell,hfz]
 unfold Oper.wp;rw [e2];have ho:Only [g] w (w.setCell ⟨g,i,none⟩ (a.eval y)):=(Only.refl [g] w).setCell (p:=⟨g,i,none⟩) (.inl s9) _
 have hg2:(w.setCell ⟨g,i,none⟩ (a.eval y)).heap[g]? =some (.cells (cur.setIfInBounds i (a.eval y)) e (0,0)):=by
  simp [World.setCell,Array.getElem?_modify,hg]
 have hsub:SubBx σ.bx [j] [.r [g] (yj e 1 enc (some ⟨g,0,none⟩) c l)]:=⟨⟨_,hj,yo _⟩,trivial⟩;have hfp:fps [Box.r [g] (yj e 1 enc (some ⟨g,0,none⟩) c l)]=[g]:=rfl
 have hset:(l.set i v).flatMap enc=(l.flatMap enc).set i d:=by
  have:∀ (l:List α) (i:Nat),(l.set i v).flatMap enc=(l.flatMap enc).set i d:=by
   intro l
   induction l with
   | nil=>intro i;simp
   | cons x l ih=>
    intro i;have h1:=Row.len (enc:=enc) (sz:=1) x
    obtain ⟨u,hu⟩:∃ u,enc x=[u]:=by
     cases hx:enc x with
     | nil=>rw [hx] at h1;simp at h1
     | cons u us=>cases us with
      | nil=>exact ⟨u,rfl⟩
      | cons=>rw [hx] at h1;simp at h1
    cases i with
    | zero=>simp [hd,hu]
    | succ i=>simp [hu,ih i]
  exact this l i
 obtain ⟨h3,_⟩:=hh.give (post:=[.r [g] (yj e 1 enc (some ⟨g,0,none⟩) c (l.set i v))]) hsub (by rw [hfp];exact ho) (fun b hb=>by
  rw [List.mem_singleton.1 hb];refine ⟨xs.set i (a.eval y),?_,⟨by simp [hxl],.inr ⟨g,c,_,by simp,Nat.zero_le _,hg2,by simpa using hnc,hm,by simp [hcs],?_⟩⟩,by simp [Value.ownBlock]⟩
  ·rw [hset];refine ((ha.set (i:=i) hyd).keep ho (fun x hx=> ?_)).less (fun x hx=> ?_)
   ·rw [List.mem_singleton.1 hx];exact mL _ (mem_fps.2 ⟨_,List.mem_of_getElem? hj,m9 V⟩)
   ·rcases List.mem_append.1 hx with hx | hx
    ·exact .inl (mL _ (mem_fps.2 ⟨_,List.mem_of_getElem? hj,hx⟩))
    ·exact .inl (List.mem_filter.1 hx).1
  ·rw [← htk]
   simp [List.take_set]) (by simp [fps,Box.fp]) (fun g' hg'=> .inl hg')
 exact hK _ _ _ V h3 (ho.mono (fun x hx _=>hS x hx))
end
end Sx
end Go.Proofs.YtgokpcnabgacnaaGreatDoor
namespace Go.Proofs.YtgokpcnabgacnaaGreatDoor
open Go.ChangeShapes Go.WideShapes Go.ChangeAt Go.RowKit
namespace Sx
section
variable {P : Program}
def Came (P:Program) (t:TypeId) {α:Type} (ec:α→List D) (ok:α→Prop):Prop:=∀ (H:Type) (enc:TypeId × Value→H) (W:World) (fuel:Nat) (cs:List Value) (x:DataW H × List MemPlace),DataW.trod enc P W 0 (fun _=>true) true fuel t cs=some x→∃ a,ok a∧All [] W (ec a) cs
theorem came_int {t:TypeId} {k:IntKind} (ht:P.underlying t=some (.int k)):Came P t (fun z:Int=>[isD (.int k z)]) (fun z=>(Lit.int k z).wf=true):=fun H enc W fuel cs x h=>by
 obtain ⟨z,rfl,-,hw⟩:=DataW.trod_int ht h;exact ⟨z,hw,V,t9⟩
theorem came_str {t:TypeId} (ht:P.underlying t=some .string):Came P t (fun b:LB=>[yp b]) (fun b=>b.length≤maxLen):=fun H enc W fuel cs x h=>by
 obtain ⟨⟨⟨s⟩⟩,rfl,-,hl⟩:=DataW.trod_string ht h;exact ⟨s,hl,V,t9⟩
theorem came_u8 {t:TypeId} (ht:P.underlying t=some (.int .u8)):Came P t ZP (fun _=>True):=fun H enc W fuel cs x h=>by
 obtain ⟨z,rfl,-,hw⟩:=DataW.trod_int ht h
 have:0≤z∧z < 256:=by simp [Lit.wf,IntKind.min,IntKind.max,IntKind.signed,IntKind.bits] at hw;omega
 refine ⟨UInt8.ofNat z.toNat,t9,?_,t9⟩;show Value.int .u8 z=B8 _;unfold B8;congr 1;simp;omega
theorem le_nil_lsD {α:Type} {enc:α→List D}:Le (isD (.slice none 0 0)) (lsD enc []):=fun _ _ _ h=>⟨none,0,h,Nat.le_refl _,fun h0=>by simp at h0⟩
theorem came_slice {t e sz:Nat} {α:Type} [Inhabited α] {ec:α→List D} {ok:α→Prop} [Row ec sz] (ht:P.underlying t=some (.slice e)) (hc:P.cellsOf e=sz) (hsz:0 < sz) (he:Came P e ec ok):Came P t (fun l:List α=>[lsD ec l]) (fun l=>l.length≤maxLen∧∀ x∈l,ok x):=fun H enc W fuel cs x h=>by
 rcases Go.Deep.open_slice ht h with ⟨rfl,-⟩ | ⟨a,len,cap,m,n,Dn,Pl,rfl,-,hl,hm,hmm,-,hx⟩
 ·exact ⟨[],⟨Nat.zero_le _,by simp⟩,le_nil_lsD _ _ _ rfl,trivial⟩
 simp only [if_true] at hmm;subst hmm
 have hx2:∀ i,i < len→∃ q:α × List Value,ok q.1∧W.cells? 0 (a.add (i * sz)) sz=some q.2∧All [] W (ec q.1) q.2:=fun i hi=>by
  obtain ⟨cs',h1,h2⟩:=hx i o9;rw [hc] at h1;obtain ⟨q,h3,h4⟩:=he _ _ _ _ _ _ h2;exact ⟨(q,cs'),h3,h1,h4⟩
 obtain ⟨X,hX⟩:=Go.Deep.choose_lt hx2
 have hlen:((List.range len).map fun i=>(X i).1).length=len:=by simp
 have hnth:0 < len→a.spot=none:=fun hi=>by
  obtain ⟨_,hl2,hcell⟩:=World.cells?_some (hX 0 hi).2.1;have h1:=hcell 0 hsz;rw [List.getElem?_eq_getElem o9] at h1;have h2:=World.cell?_spot h1;simpa [Addr.add] using h2
 have key:∀ k,k≤len→∃ cs,All [] W (((List.range k).map fun i=>(X i).1).flatMap ec) cs∧cs.length=k * sz∧∀ j,j < cs.length→W.cell? (a.add j)=cs[j]? :=by
  intro k
  induction k with
  | zero=>intro _;exact ⟨[],trivial,by simp,by simp⟩
  | succ k ih=>
   intro hk;obtain ⟨cs,h1,h2,h3⟩:=ih o9;obtain ⟨_,hl2,hcell⟩:=World.cells?_some (hX k o9).2.1;refine ⟨cs ++ (X k).2,?_,?_,fun j hj=> ?_⟩
   ·rw [List.range_succ,List.map_append,List.flatMap_append];exact h1.append (by simpa using (hX k o9).2.2)
   ·rw [List.length_append,h2,hl2,Nat.succ_mul]
   ·by_cases hjc:j < cs.length
    ·rw [List.getElem?_append_left hjc];exact h3 j hjc
    ·rw [List.getElem?_append_right o9];rw [List.length_append,hl2] at hj;have h4:=hcell (j - cs.length) o9;rw [Go.Deep.add_add,h2,show k * sz + (j - k * sz)=j by omega] at h4;rw [h2,h4]
 refine ⟨(List.range len).map fun i=>(X i).1,⟨by omega,fun x hx=> ?_⟩,⟨some a,m,by rw [hlen],by rw [hlen];exact hl,fun h0=> ?_⟩,trivial⟩
 ·obtain ⟨i,hi,rfl⟩:=List.mem_map.1 hx;exact (hX i (by simpa using hi)).1
 ·obtain ⟨cs,h1,h2,h3⟩:=key len (Nat.le_refl _)
  have hpos:0 < len:=by
   rcases Nat.eq_zero_or_pos len with h | h
   ·subst h;simp at h0
   ·exact h
  have hsp:=hnth hpos;obtain ⟨g,o,s⟩:=a;simp only at hsp;subst hsp
  have hcl:0 < cs.length:=by rw [h2];exact Nat.mul_pos hpos hsz
  have hc0:=h3 0 hcl;refine ⟨g,o,V,?_,by simp,cs,h1,fun j hj=> ?_⟩
  ·rw [List.getElem?_eq_getElem hcl] at hc0;exact (by simpa [Addr.add] using cell_lt hc0)
  ·have:=h3 j hj;rw [Addr.add_mid] at this;exact this
theorem came_bytes {t e:TypeId} (ht:P.underlying t=some (.slice e)) (he:P.underlying e=some (.int .u8)) (hc:P.cellsOf e=1):Came P t (fun b:LB=>[bD b]) (fun b=>b.length≤maxLen):=fun H enc W fuel cs x h=>by
 obtain ⟨b,⟨h1,-⟩,h2⟩:=came_slice ht hc d9 (came_u8 he) _ _ _ _ _ _ h
 match cs,h2 with
 | [c],h2=>exact ⟨b,h1,le_ls_b b _ _ _ h2.1,trivial⟩
def Parts (L:LN) (w:World):List (List D)→List Value→Nat→Prop
 | [],_,_=>True
 | d :: ls,cs,o=>All L w d ((cs.drop o).take d.length)∧Parts L w ls cs (o + d.length)
theorem all_parts {L:LN} {w:World}:∀ (ls:List (List D)) (cs:List Value) (o:Nat),Parts L w ls cs o→cs.length=o + ls.flatten.length→All L w ls.flatten (cs.drop o)
 | [],cs,o,_,h=>by
  have:cs.drop o=[]:=List.drop_eq_nil_of_le (by simp at h;omega);rw [this];trivial
 | d :: ls,cs,o,h,hl=>by
  have ih:=all_parts ls cs (o + d.length) h.2 (by simp at hl ⊢;omega)
  have e:cs.drop o=(cs.drop o).take d.length ++ cs.drop (o + d.length):=by
   rw [← List.drop_drop];exact (List.take_append_drop _ _).symm
  rw [e,List.flatten_cons];exact h.1.append ih
theorem came_fields {t:TypeId} {fs:Array Field} (ht:P.underlying t=some (.struct fs)) {H:Type} {enc:TypeId × Value→H} {W:World} {fuel:Nat} {cs:List Value} {x:DataW H × List MemPlace} (h:DataW.trod enc P W 0 (fun _=>true) true fuel t cs=some x):
  cs.length=P.cellsOf t∧∀ (i:Nat) (f:Field),fs[i]? =some f→∃ n y,DataW.trod enc P W 0 (fun _=>true) true n f.type ((cs.drop f.offset).take (P.cellsOf f.type))=some y:=by
 obtain ⟨xs,n,_,_,hl,hlen,hf⟩:=DataW.trod_struct ht h;refine ⟨hl,fun i f hi=>⟨n,xs[i]'(by have:=(Array.getElem?_eq_some_iff.1 hi).1;omega),?_⟩⟩;rw [hf i f hi];exact List.getElem?_eq_getElem _
theorem top_slice {t e:TypeId} {α:Type} {d:α→D} {ok:α→Prop} {base:Nat} {W:World} {v:Value} {H:Type} {enc:TypeId × Value→H} {x:DataW H} {p:List MemPlace} (hop:Came P t (fun a=>[d a]) ok) (ht:P.underlying t=some (.slice e)) (hv:Value.okWide P W .any base t v) (h:DataW.Trod enc P W 0 (fun _=>true) true t v x p):∃ a,ok a∧(d a).R [] W v:=by
 obtain ⟨A,n,c,rfl⟩:=okWide_slice ht hv;obtain ⟨fuel,h⟩:=h;obtain ⟨a,h1,h2⟩:=hop _ _ _ _ _ _ h;exact ⟨a,h1,h2.1⟩
end
section
variable {P : Program} {Γ : Cx} {σ σ' : St} {Q : Exit → Act → World → Prop} {a : Act} {w : World} {ops : Array Oper} {rest : List Oper} {S : List Nat} {dst : Option Tmp} {ty : TypeId} {pos : String} {af : Array Edge} {gd : Option (Nat × Bool)}
def SP (Γ:Cx) (ch:List PanicEntry) (Q:Exit→Act→World→Prop) (σ:St):Prop:=∀ a w,Holds Γ σ a w→Q (.panic ch) a w
theorem SP.then {ch:List PanicEntry} {K:Act→World→Prop} (h:SP Γ ch Q σ):SP Γ ch (Exit.then K Q) σ:=h
theorem SP.block {ch:List PanicEntry} {n:Nat} (h:SP Γ ch Q σ):SP Γ ch (Exit.inBlock n Q) σ:=h
abbrev pan (v:Value):List PanicEntry:=[{ v:=v,recovered:=false }]
theorem SWl.panic {x:Operand} {T:TypeId} {v:Value} (hx:σ.ev x=some (isD (.iface T v))) (h:SP Γ (pan (.iface T v)) Q σ):SWl P Γ ops Q (⟨dst,.panic x,ty,pos,af,none⟩ :: rest) σ:=fun a w hh=>by
 have hv:a.eval x= .iface T v:=zF hh hx;refine wpList_plain V fun K hK=> ?_
 have e:(execOp a.eval ⟨dst,.panic x,ty,pos,af,none⟩).run P w= .halt (.panic (.iface T v)) w:=by
  simp only [execOp,hv,Instr.panic,Sem.run_bind,run_goPanic]
  rfl
 unfold Oper.wp;rw [e];exact h a w hh
def plainU (P:Program) (T:TypeId):Bool:=match P.underlying T with | some (.interface _) | none=>false | _=>true
theorem plainU_spec {T:TypeId} (h:plainU P T=true):∃ q,P.underlying T=some q∧∀ m,q≠ .interface m:=by
 unfold plainU at h
 split at h
 ·cases h
 ·cases h
 ·rename_i u h1 h2
  cases hu:P.underlying T with
  | none=>exact absurd hu h2
  | some q=>exact ⟨q,rfl,fun m e=>h1 m (by rw [hu,e])⟩
theorem Rd.makeI {x:Operand} {T:TypeId} {v:Value} {dx:D} (hx:σ.ev x=some dx) (hl:Le dx (isD v)) (hT:plainU P T=true):Rd P Γ S ⟨dst,.makeInterface T x,ty,pos,af,gd⟩ σ (isD (.iface T v)):=fun a w hh=>by
 have hv:a.eval x=v:=hl _ _ _ (zF hh hx);refine ⟨_,V,fun w' _=> ?_⟩;obtain ⟨q,hu,hq⟩:=plainU_spec hT;simp only [execOp,Instr.makeInterface,hv,Sem.run_bind,run_underlying hu,Result.andThen_ok]
 cases q <;> first | rfl | exact (hq _ rfl).elim
theorem Rd.assertY {x:Operand} {xT T:TypeId} {v:Value} (hx:σ.ev x=some (isD (.iface T v))) (hT:plainU P T=true):Rd P Γ S ⟨dst,.typeAssert x xT T true,ty,pos,af,gd⟩ σ (Yv [isD v,yc true]):=fun a w hh=>by
 have hv:a.eval x= .iface T v:=zF hh hx;refine ⟨.tuple #[v,.bool true],⟨[v,.bool true],V,V,V,t9⟩,fun w' _=> ?_⟩;obtain ⟨q,hu,hq⟩:=plainU_spec hT;simp only [execOp,Instr.typeAssert,hv,Sem.run_bind,run_underlying hu,Result.andThen_ok]
 cases q <;> first | exact (hq _ rfl).elim | simp
theorem SWl.defer {x:Operand} {aT:Array TypeId} {f:FuncId} {cap:List Value} (hx:σ.ev x=some (isD (.func (.func f) #[] cap.toArray)))
  (h:SWl P { Γ with df:={ target:= .fn (.func f) cap.toArray,args:= #[] } :: Γ.df } ops Q rest σ):SWl P Γ ops Q (⟨none,.defer { callee:= .value x,args:= #[],argTypes:=aT },ty,pos,af,none⟩ :: rest) σ:=fun a w hh=>by
 have hv:a.eval x= .func (.func f) #[] cap.toArray:=zF hh hx;refine wpList_plain V fun K hK=> ?_
 have e:(execOp a.eval ⟨none,.defer { callee:= .value x,args:= #[],argTypes:=aT },ty,pos,af,none⟩).run P w= .ok (.defer { target:= .fn (.func f) cap.toArray,args:= #[] }) w:=by
  simp [execOp,resolve,hv,Deferred.ofValue,Sem.run_bind,Sem.run_pure,Result.andThen_ok]
 unfold Oper.wp;rw [e];simp only [Oper.upon];refine hK _ _ (h _ w ⟨?_,hh.sz,hh.tm,hh.bx,hh.nd,hh.nw,hh.on,hh.bs,hh.dj⟩);show _ :: a.defers=_ :: Γ.df;rw [hh.df]
structure ConD (P:Program) (f:FuncId) (pre:List Box) (ad:List D) (u u':FrameMode) (post:List Box):Prop where
 en:enters P f
 go:∀ (L:LN) (w:World) (vs:List Value),(∀ x∈L,x < w.heap.size)→glob.R w→(∀ g∈fps pre,g∉glob.F)→(∀ g∈fps pre,g∉L)→(fps pre).Nodup→(∀ b∈pre,b.R (fps pre ++ L) w)→All (fps pre ++ L) w ad vs→
  CallsD P f vs.toArray u w fun e v w'=>(∃ r,e= .returned r)∧v=u'∧(∀ b∈post,b.R (fps post ++ L) w')∧(fps post).Nodup∧(∀ g∈fps post,g∈fps pre∨w.heap.size≤g)∧Only (fps pre) w w'
def RL (P:Program) (fn:Func) (R:Ending→World→Prop) (u:FrameMode) (Γ:Cx) (σ:St):Prop:=∀ a w,Holds Γ σ a w→Leaves P fn a.tmps R a.defers u w
theorem RL.defer {fn:Func} {R:Ending→World→Prop} {u u':FrameMode} {f:FuncId} {cap:List Value} {pre post:List Box} {nt:Nat} {base lent:LN} {w0:World} {df:List Deferred} (js:LN) (hu:u≠ .run) (hcon:ConD P f pre (cap.map isD) u u' post) (hjs:js.Nodup) (hs:SubBx σ.bx js pre)
  (h:RL P fn R (settle u') ⟨nt,base,w0,lent,df⟩ (σ.give js post)):RL P fn R u ⟨nt,base,w0,lent,{ target:= .fn (.func f) cap.toArray,args:= #[] } :: df⟩ σ:=fun a w hh=>by
 have hd:a.defers={ target:= .fn (.func f) cap.toArray,args:= #[] } :: df:=hh.df;rw [hd]
 have hL1:∀ x∈fps pre ++ (σ.L ⟨nt,base,w0,lent,{ target:= .fn (.func f) cap.toArray,args:= #[] } :: df⟩).filter (· ∉fps pre),x∈σ.L ⟨nt,base,w0,lent,{ target:= .fn (.func f) cap.toArray,args:= #[] } :: df⟩∨w.heap.size≤x:=fun x hx=>by
  rcases List.mem_append.1 hx with hx | hx
  ·exact .inl (mL _ (hs.fps hx))
  ·exact .inl (List.mem_filter.1 hx).1
 refine leaves_cons (f:=f) (args:=cap.toArray) hu (by simpa [invoke] using hcon.en _ w) ((hcon.go ((σ.L ⟨nt,base,w0,lent,{ target:= .fn (.func f) cap.toArray,args:= #[] } :: df⟩).filter (· ∉fps pre)) w cap (fun x hx=>hh.lt x (List.mem_filter.1 hx).1) hh.gl (fun g hg=>hh.off g (hs.fps hg)) (fun g hg hm=>by have:=(List.mem_filter.1 hm).2;simp at this;exact this hg) (ZR hh.nd hjs hs) (fun b' hb'=> ?_) ?_).mono ?_)
 ·obtain ⟨j,c,_,h5,h6⟩:=Zx hs b' hb';exact h6.2 _ _ (Box.less (hh.bx c (List.mem_of_getElem? h5)) hL1)
 ·exact all_is cap
 ·rintro e v w' ⟨⟨r,rfl⟩,rfl,hR,hnd,hnw,ho⟩;have hg:=(hh.give hs ho hR hnd hnw).1;exact h { a with defers:=df } w' ⟨V,hg.sz,hg.tm,hg.bx,hg.nd,hg.nw,hg.on,hg.bs,hg.dj⟩
theorem RL.fin {fn:Func} {pre:List Box} {ι:Type} {post:ι→List Box} {d:ι→D} {nt:Nat} {base:LN} {w0:World} (i:ι) (js:LN) (h:Rs P ⟨nt,base,w0,fps pre,[]⟩ fn σ (d i)) (hjs:js.Nodup) (hb:SubBx σ.bx js (post i)):
  RL P fn (fun e w'=>∃ i v,e= .returned v∧(d i).R (fps (post i) ++ base) w' v∧(∀ b∈post i,b.R (fps (post i) ++ base) w')∧(fps (post i)).Nodup∧(∀ g∈fps (post i),g∈fps pre∨w0.heap.size≤g)∧Only (fps pre) w0 w') .returning ⟨nt,base,w0,fps pre,[]⟩ σ:=fun a w hh=>by
 rw [show a.defers=[] from hh.df];exact Sx.retR i js h hjs hb hh
theorem SW.retL {fn:Func} {R:Ending→World→Prop} (hQ:∀ a w,bodyPostD P fn R .ret a w→Q .ret a w) (h:RL P fn R .returning Γ σ):SW P Γ σ .ret Q:=fun a w hh=>wp_ret (hQ a w (h a w hh))
theorem SN.retL {fn:Func} {R:Ending→World→Prop} (h:RL P fn R .returning Γ σ):SN Γ (bodyPostD P fn R) σ:=fun a w hh=>h a w hh
theorem SP.retL {fn:Func} {R:Ending→World→Prop} {ch:List PanicEntry} (h:RL P fn R (.panicking ch) Γ σ):SP Γ ch (bodyPostD P fn R) σ:=fun a w hh=>h a w hh
theorem con_ofRD {f : FuncId} {fn : Func} {c : Code} {pre : List Box} {ad : List D} {ι : Type} {post : ι → List Box} {d : ι → D} (hf : P.funcs[f]? = some fn) (hn : (fn.name == "runtime.NumGoroutine") = false) (hb : fn.body = some c) (hlen : Nat.ble ad.length fn.ntmps = true)
  (h:∀ (base:LN) (w0:World),SW P ⟨fn.ntmps,base,w0,fps pre,[]⟩ (zK (inits 0 ad) pre) c (bodyPostD P fn fun e w'=>∃ i v,e= .returned v∧(d i).R (fps (post i) ++ base) w' v∧(∀ b∈post i,b.R (fps (post i) ++ base) w')∧(fps (post i)).Nodup∧(∀ g∈fps (post i),g∈fps pre∨w0.heap.size≤g)∧Only (fps pre) w0 w')):ConR P f pre ad post d:=by
 refine ⟨enters_of hf hn (by rw [hb];rfl),fun L w vs hL hG hgF hg hnd hbk ha=> ?_⟩;refine calls_of_wp_defers hf hb (h L w _ _ ?_);have hl:=ha.length
 have hle:ad.length≤fn.ntmps:=by simpa using hlen
 refine ⟨V,by simp [hl];omega,fun i e hi=> ?_,hbk,hnd,fun g hg=> .inr hg,Only.refl _ _,hL,hg,hG,hgF⟩;have:=YM (pre:=[]) (post:=List.replicate (fn.ntmps - vs.length) undef) ha rfl i e hi
 have e1:vs.toArray ++ Array.replicate (fn.ntmps - vs.toArray.size) undef=([] ++ vs ++ List.replicate (fn.ntmps - vs.length) undef).toArray:=by
  apply Array.ext';simp
 rw [e1];exact this
theorem con_ofD {f : FuncId} {fn : Func} {c : Code} {id : Nat} {k1 k2 : Tmp} {t1 t2 : TypeId} {p1 p2 : String} {a1 a2 : Array Edge} {aT : Array TypeId} {pre post : List Box} {ad : List D} {u u' : FrameMode} {rv : Value} (hf : P.funcs[f]? = some fn) (hn : (fn.name == "runtime.NumGoroutine") = false)
  (hb:fn.body=some (.seq (.region id #[⟨some k1,.call { callee:= .builtin .recover,args:= #[],argTypes:=aT },t1,p1,a1,none⟩,⟨some k2,.assign (.tmp k1),t2,p2,a2,none⟩] false) c)) (hlen:Nat.ble ad.length fn.ntmps=true) (h1:Nat.blt k1 fn.ntmps=true) (h2:Nat.blt k2 fn.ntmps=true)
  (hu:(∃ v older,u= .panicking ({ v:=v,recovered:=false,goexit:=false } :: older)∧rv=v∧u'= .panicking ({ v:=v,recovered:=true } :: older))∨(u= .returning∧rv= .nilIface∧u'= .returning))
  (h:∀ (base:LN) (w0:World),SW P ⟨fn.ntmps,base,w0,fps pre,[]⟩ (((zK (inits 0 ad) pre).put k1 (isD rv)).put k2 (isD rv)) c (bodyPost P fn fun e w'=>(∃ r,e= .returned r)∧(∀ b∈post,b.R (fps post ++ base) w')∧(fps post).Nodup∧(∀ g∈fps post,g∈fps pre∨w0.heap.size≤g)∧Only (fps pre) w0 w')):ConD P f pre ad u u' post:=by
 refine ⟨enters_of hf hn (by rw [hb];rfl),fun L w vs hL hG hgF hg hnd hbk ha=> ?_⟩;refine callsD_of_wpS hf hb fun c₀ cs hc=> ?_;have hl:=ha.length
 have hle:ad.length≤fn.ntmps:=by simpa using hlen
 have hh:Holds ⟨fn.ntmps,L,w,fps pre,[]⟩ (zK (inits 0 ad) pre) { tmps:=vs.toArray ++ Array.replicate (fn.ntmps - vs.toArray.size) undef,defers:=[] } w:=by
  refine ⟨V,by simp [hl];omega,fun i e hi=> ?_,hbk,hnd,fun g hg=> .inr hg,Only.refl _ _,hL,hg,hG,hgF⟩;have:=YM (pre:=[]) (post:=List.replicate (fn.ntmps - vs.length) undef) ha rfl i e hi
  have e1:vs.toArray ++ Array.replicate (fn.ntmps - vs.toArray.size) undef=([] ++ vs ++ List.replicate (fn.ntmps - vs.length) undef).toArray:=by
   apply Array.ext';simp
  rw [e1];exact this
 have hk1:k1 < fn.ntmps:=by simpa using h1
 have hk2:k2 < fn.ntmps:=by simpa using h2
 generalize ha0:({ tmps:=vs.toArray ++ Array.replicate (fn.ntmps - vs.toArray.size) undef,defers:=[] }:Act)=a0 at hh
 have hrec:∀ v',(v'=rv)→Holds ⟨fn.ntmps,L,w,fps pre,[]⟩ (((zK (inits 0 ad) pre).put k1 (isD rv)).put k2 (isD rv)) ((a0.put (some k1) v').put (some k2) v') w:=fun v' e=>by
  subst e;exact (hh.put hk1 (d:=isD v') V).put hk2 V
 have hev:∀ v',(a0.put (some k1) v').eval (.tmp k1)=v':=fun v'=>by
  show ((a0.put (some k1) v').tmps.getD k1 undef)=v';rw [put_get (by rw [hh.sz];exact hk1)];simp
 refine wpS_seq (wpS_region ?_);have hlist:List.range (#[(⟨some k1,.call { callee:= .builtin .recover,args:= #[],argTypes:=aT },t1,p1,a1,none⟩:Oper),⟨some k2,.assign (.tmp k1),t2,p2,a2,none⟩]:Array Oper).size=[0,1]:=rfl;rw [hlist]
 have e0:(execOp a0.eval ⟨some k1,.call { callee:= .builtin .recover,args:= #[],argTypes:=aT },t1,p1,a1,none⟩).run P w= .ok .recover w:=by
  simp [execOp,go_sem]
 have e1:∀ v',(execOp (a0.put (some k1) v').eval ⟨some k2,.assign (.tmp k1),t2,p2,a2,none⟩).run P w= .ok (.value v') w:=fun v'=>by
  simp only [execOp,hev]
  rfl
 have fin:∀ cs',cs'={ c₀ with mode:=u' } :: cs→wpOpsS P #[(⟨some k1,.call { callee:= .builtin .recover,args:= #[],argTypes:=aT },t1,p1,a1,none⟩:Oper),⟨some k2,.assign (.tmp k1),t2,p2,a2,none⟩] (Exit.thenS (c.wpS P (bodyPostS P fn c₀ cs fun e v w'=>(∃ r,e= .returned r)∧v=u'∧(∀ b∈post,b.R (fps post ++ L) w')∧(fps post).Nodup∧(∀ g∈fps post,g∈fps pre∨w.heap.size≤g)∧Only (fps pre) w w')) (bodyPostS P fn c₀ cs fun e v w'=>(∃ r,e= .returned r)∧v=u'∧(∀ b∈post,b.R (fps post ++ L) w')∧(fps post).Nodup∧(∀ g∈fps post,g∈fps pre∨w.heap.size≤g)∧Only (fps pre) w w')) [1] (a0.put (some k1) rv) cs' w:=by
  intro cs' hcs;subst hcs;simp only [wpOpsS];simp only [List.getElem?_toArray,List.getElem?_cons_succ,List.getElem?_cons_zero,Region.wanted,if_true];rw [e1 rv];simp only [Oper.upon];refine wpS_of_wp (wp_mono (h L w _ _ (hrec rv V)) ?_);intro e a w' hq
  cases e with
  | normal=>obtain ⟨hd,v,hr,k1,k2,k3,k4,k5⟩:=hq;exact ⟨hd,u',rfl,v,hr,k1,rfl,k2,k3,k4,k5⟩
  | ret=>obtain ⟨hd,v,hr,k1,k2,k3,k4,k5⟩:=hq;exact ⟨hd,u',rfl,v,hr,k1,rfl,k2,k3,k4,k5⟩
  | panic ch=>obtain ⟨hd,⟨r,hr⟩,_⟩:=hq;cases hr
  | outgrown=>obtain ⟨⟨r,hr⟩,_⟩:=hq;cases hr
  | _=>exact hq.elim
 unfold wpOpsS;simp only [List.getElem?_toArray,List.getElem?_cons_zero,Region.wanted,if_true];rw [e0];simp only;rcases hu with ⟨v,older,rfl,rfl,rfl⟩ | ⟨rfl,rfl,rfl⟩
 ·have hr:recoverD (c₀ :: cs)=some (rv,{ c₀ with mode:= .panicking ({ v:=rv,recovered:=true } :: older) } :: cs):=by simp [recoverD,hc]
  rw [hr];exact fin _ V
 ·have hr:recoverD (c₀ :: cs)=none:=by simp [recoverD,hc]
  rw [hr];exact fin _ (by rw [← hc])
end
abbrev Dg:Type:={d:LB // d.length=32}
def encG (d:Dg):List D:=(cellsOf d.1).map isD
instance:Row encG 32:=⟨fun x=>by unfold encG;rw [List.length_map,zw,x.2],fun x=>by unfold encG;infer_instance,by decide⟩
section
variable {P : Program} {Γ : Cx} {σ : St} {S : List Nat} {dst : Option Tmp} {ty : TypeId} {pos : String} {af : Array Edge} {gd : Option (Nat × Bool)} {d : D}
end
section
variable {P : Program} {Γ : Cx} {σ : St} {S : List Nat} {dst : Option Tmp} {ty : TypeId} {pos : String} {af : Array Edge} {gd : Option (Nat × Bool)} {d : D}
end
class Flat (d:D):Prop where
 h:∀ L L' w v,d.R L w v→d.R L' w v
instance (v:Value):Flat (isD v):=⟨fun _ _ _ _ h=>h⟩
class Flats (ds:List D):Prop where
 h:∀ L L' w vs,All L w ds vs→All L' w ds vs
instance:Flats []:=⟨fun _ _ _ vs h=>by cases vs with | nil=>trivial | cons=>exact h.elim⟩
instance (d:D) (ds:List D) [hd:Flat d] [hs:Flats ds]:Flats (d :: ds):=⟨fun L L' w vs h=>by
 cases vs with
 | nil=>exact h.elim
 | cons v vs=>exact ⟨hd.h _ _ _ _ h.1,hs.h _ _ _ _ h.2⟩⟩
instance (ds:List D) [hs:Flats ds]:Flat (Yv ds):=⟨fun L L' w v ⟨cs,hv,ha⟩=>⟨cs,hv,hs.h _ _ _ _ ha⟩⟩
theorem flats_cells (b:LB):Flats (b.flatMap ZP):=⟨fun L L' w vs h=>by
 induction b generalizing vs with
 | nil=>cases vs with | nil=>trivial | cons=>exact h.elim
 | cons x b ih=>
  cases vs with
  | nil=>exact h.elim
  | cons v vs=>exact ⟨h.1,ih vs h.2⟩⟩
class FlatBx (b:Box):Prop where
 h:∀ L L' w,b.R L w→b.R L' w
instance (F:LN) (e c:Nat) (A:Option Addr) (b:LB):FlatBx (.r F (yj e 1 ZP A c b)):=⟨fun L L' w ⟨xs,ha,h⟩=>⟨xs,(flats_cells b).h _ _ _ _ ha,h⟩⟩
section
variable {P : Program} {Γ : Cx} {σ : St} {S : List Nat} {dst : Option Tmp} {ty : TypeId} {pos : String} {af : Array Edge} {gd : Option (Nat × Bool)} {d : D} {a : Act} {w : World}
end
inductive El
 | k (b:LB)
 | x (A:Option Addr) (n c:Nat)
def encX:El→List D
 | .k b=>[bD b]
 | .x A n c=>[isD (.slice A n c)]
instance:Row encX 1:=⟨fun e=>by cases e <;> rfl,fun e=>by cases e <;> (unfold encX;infer_instance),by decide⟩
theorem fps_set:∀ (bs:List Box) (k:Nat) (b b':Box),bs[k]? =some b→b'.fp=b.fp→fps (bs.set k b')=fps bs
 | [],k,b,b',h,_=>by simp at h
 | c :: bs,0,b,b',h,hf=>by
  simp at h;subst h;simp only [List.set_cons_zero,ZA,hf]
 | c :: bs,k + 1,b,b',h,hf=>by
  simp only [List.set_cons_succ,ZA];rw [fps_set bs k b b' (by simpa using h) hf]
section
variable {P : Program} {Γ : Cx} {σ : St} {Q : Exit → Act → World → Prop} {a : Act} {w : World}
theorem Holds.rebox (h:Holds Γ σ a w) {k:Nat} {b b':Box} (hk:σ.bx[k]? =some b) (hf:b'.fp=b.fp) (hR:b'.R (σ.L Γ) w):Holds Γ ⟨σ.tm,σ.bx.set k b'⟩ a w:=by
 have e:=fps_set σ.bx k b b' hk hf;refine h.swap (Only.refl [] w) s9 (fun c hc=> ?_) (fun g hg=> .inl (by rw [e] at hg;exact hg)) (by rw [e];exact h.nd);rcases List.mem_or_eq_of_mem_set hc with hc | rfl
 ·exact .inl ⟨hc,by simp⟩
 ·exact .inr (by rw [e];exact hR)
end
end Sx
end Go.Proofs.YtgokpcnabgacnaaGreatDoor
