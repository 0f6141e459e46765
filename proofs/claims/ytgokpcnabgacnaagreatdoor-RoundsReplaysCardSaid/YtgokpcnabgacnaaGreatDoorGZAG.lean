/- WALKING CODE BY WHAT IS KNOWN: strings and bytes, parts of slices, elements that are stored. Over any program. WHAT CAME IN, by what is known: data ma -/
import Derived.Test.YtgokpcnabgacnaaGreatDoorGZAF
import Derived.Deep.Slices
import Derived.Recover
import Derived.Stop.BytesEq
namespace Go.Proofs.YtgokpcnabgacnaaGreatDoor
open Go.RowKit
namespace Sx
section
variable {P:Program}{Γ:Cx}{σ:St}{S:List Nat}{dst:Option Tmp}{ty:TypeId}{pos:String}{af:Array Edge}{gd:Option (Nat × Bool)}{d:D}{Q:Exit→Act→World→Prop}{a:Act}{w:World}
theorem Wx {S T:LN} (h:∀ s∈S,s∈σ.L Γ) (k:∀ s∈T,s∈σ.L Γ):∀ s∈S ++ T,s∈σ.L Γ:=fun s hs=>by
 rcases Jf.1 hs with hs | hs
 ·exact h s hs
 ·exact k s hs
def EfL (P:Program) (Γ:Cx) (o:Oper) (σ:St) (T:LN→St→Prop):Prop:=
 ∀ a w,Holds Γ σ a w→∀ (K:Act→World→Prop) (Q:Exit→Act→World→Prop),(∀ G σ' a' w',(∀ g∈G,w.heap.size≤g)→T G σ'→Holds Γ σ' a' w'→Only [] w w'→K a' w')→o.wp P a w K Q
section
variable {l:List Oper}{tz uz:Reg.Tz}{op:Op}
theorem ZG {T:LN→St→Prop} {i:Nat} (ho:l[i]? =some ⟨dst,op,ty,pos,af,none⟩) (h:EfL P Γ ⟨dst,op,ty,pos,af,none⟩ σ T) (hk:∀ G σ',T G σ'→SWz P Γ l Q (S ++ G) tz σ') (hu:SWz P Γ l Q S uz σ):SWz P Γ l Q S (.n i tz uz) σ:=by
 intro a w hh
 have e:l.getD i default=⟨dst,op,ty,pos,af,none⟩:=by rw [Jr,ho];rfl
 unfold Reg.wpG;rw [e];refine ⟨J4 V fun K hK=> ?_,hu a w hh⟩
 exact h a w hh K _ fun G σ' a' w' hg hT hh' hO=>hK _ _ ⟨S ++ G,fun x hx=>by
  rcases Jf.1 hx with hx | hx
  ·exact .inl hx
  ·exact .inr<|hg x hx,hO,hk G σ' hT a' w' hh'⟩
end
theorem Zb {f:FuncId} {args:Array Operand} {aT:Array TypeId} {ad es:List D} {ι:Type} {post:ι→List Box} {d:ι→D} {k:Nat} (hcon:ConR P f [] ad post d) (he:σ.evs args.toList=some es) (hl:LeAll es ad) (hk:yE Γ.nt k=true):
  EfL P Γ ⟨some k,.call { callee:= .value<|.func f,args:=args,argTypes:=aT },ty,pos,af,gd⟩ σ (fun G σ'=>∃ i,G=fps (post i)∧σ'=(σ.give []<|post i).put k (d i)):=by
 intro a w hh K Q hK;have hall:=hl.all (ZW hh he);unfold Oper.wp;rw [qr (cap:=[]) hcon.en (show a.eval (.func f)= .func (.func f) #[] ([]:List Value).toArray from rfl),JS];simp only [Oper.upon];refine (hcon.go (σ.L Γ) w _ hh.lt hh.gl (by simp [fps]) (by simp [fps]) (by simp [fps]) s9 (by simpa [fps] using hall)).mono ?_;rintro r w' ⟨i,v,rfl,hd,hR,hnd,hnw,ho⟩
 have hnew:∀ g∈fps (post i),w.heap.size≤g:=fun g hg=>by
  rcases hnw g hg with h | h
  ·simp [fps] at h
  ·exact h
 have hs:SubBx σ.bx [] []:=trivial
 obtain ⟨h1,h2⟩:=hh.give (js:=[]) (pre:=[]) (post:=post i) hs ho (fun b hb=>(Box.less (hR b hb) (fun x hx=> .inl (by
  rcases Jf.1 hx with hx | hx
  ·exact mL _ hx
  ·exact mR _ (Jw.1 hx).1)))) hnd (fun g hg=> .inr<|hnew g hg)
 exact hK (fps<|post i) _ _ _ hnew ⟨i,V,V⟩ (h1.put (by simpa [yE] using hk)<|(d i).less hd (fun x hx=>by
  rcases h2 x hx with h3 | h3
  ·rcases Jf.1 h3 with h3 | h3
   ·exact .inl (mL _ h3)
   ·exact .inl (mR _ (Jw.1 h3).1)
  ·exact .inr h3)) (by simpa [fps] using ho)
theorem zau {x:Operand} {sT dT e k:Nat} {b:LB} (hx:σ.ev x=some (yY b)) (hs:jA P sT=true) (hd:ZS P dT e=true) (he:zhY P e .u8=true) (hk:yE Γ.nt k=true):
  Ef P Γ S ⟨some k,.convert sT dT x,ty,pos,af,gd⟩ σ (fun σ'=>σ'=σ.put k (nwD Γ.w0.heap.size<|bD b)):=by
 intro a w hh K Q hK;have hxv:a.eval x= .string ⟨b.toArray⟩:=zT hh hx;have hrun:=run_bytes_of_string (P:=P) w sT dT e ⟨b.toArray⟩ (YA hs) (yo hd) (qt he);unfold Oper.wp execOp;simp only [hxv,JD,hrun,Jv,JK];have hsz:(ByteArray.mk b.toArray).size=b.length:=zcR b;rw [hsz];have hge:=grownCap_ge w b.length 0 e;have ho:Only [] w (w.drew.alloc<|.cells (bytesRow ⟨b.toArray⟩<|grownCap w b.length 0 e) e ((bytesRow ⟨b.toArray⟩<|grownCap w b.length 0 e).size,(bytesRow ⟨b.toArray⟩<|grownCap w b.length 0 e).size + 1)):=((Only.refl [] w).drew).alloc _;refine hK _ _ _ V ((hh.keep ho).put (by simpa [yE] using hk) ?_) (ho.mono s9);intro L' hL';refine ⟨_,_,by rw [zx],by rw [zx];exact hge,fun _=>⟨_,0,rfl,by simp,fun j hj=> ?_⟩,fun _ p hp hm=> ?_⟩
 ·have hj':j < b.length:=by simpa using hj
  rw [JF];have hb:=Xw w.drew (.cells (bytesRow ⟨b.toArray⟩<|grownCap w b.length 0 e) e ((bytesRow ⟨b.toArray⟩<|grownCap w b.length 0 e).size,(bytesRow ⟨b.toArray⟩<|grownCap w b.length 0 e).size + 1));rw [show w.drew.heap=w.heap from rfl] at hb;simp only [World.cell?,hb];rw [Vo hj']
  have e2:(bytesRow ⟨b.toArray⟩<|grownCap w b.length 0 e)[j]? =some (Value.int .u8 (b[j].toNat:Int)):=by
   unfold bytesRow;rw [Array.getElem?_append_left (by simpa using hj')];rw [Array.getElem?_map,Xn (by simpa using hj')];simp
  simpa using e2
 ·injection hp with hp;subst hp;simp only at hm;rcases hL' _ hm with h | h
  ·have:=hh.on.size;omega
  ·have:=hh.lt _ h;omega
theorem zdv {parts:List (Nat × Operand)} {T e n k:Nat} {idx:LN} {b:LB} (hi:parts.map (·.1)=idx) (he:σ.evs (parts.map (·.2))=some ((cellsOf b).map isD)) (hn:n=b.length) (hm:n≤1000000) (hrun:∀ w':World,(Instr.buildSlice T n (idx.zip<|cellsOf b).toArray).run P w'= .ok (.slice (some ⟨w'.heap.size,0,none⟩) n n) (w'.alloc<|.cells (cellsOf b).toArray e)) (hk:yE Γ.nt k=true):
  Ef P Γ S ⟨some k,.buildSlice T n parts.toArray,ty,pos,af,gd⟩ σ (fun σ'=>∃ g,σ'=(⟨σ.tm,σ.bx ++ [.r [g]<|yP e 1 Yt (some ⟨g,0,none⟩) n b]⟩:St).put k (isD<|.slice (some ⟨g,0,none⟩) b.length n)):=by
 intro a w hh K Q hK;have hcs:=jj (ZW hh he)
 have e1:(parts.toArray.map fun (i,x)=>(i,a.eval x))=(idx.zip<|cellsOf b).toArray:=by
  rw [← hi,← hcs];apply Xe;simp only [Array.toList_map];exact jI a.eval parts
 have e2:(execOp a.eval ⟨some k,.buildSlice T n parts.toArray,ty,pos,af,gd⟩).run P w= .ok (.value<|.slice (some ⟨w.heap.size,0,none⟩) b.length n) (w.alloc<|.cells (cellsOf b).toArray e):=by
  simp only [execOp];rw [e1,JD,hrun w,← hn]
  rfl
 unfold Oper.wp;rw [e2];have h5:=hh.more ((Only.refl [] w).alloc<|.cells (cellsOf b).toArray e) (b:= .r [w.heap.size]<|yP e 1 Yt (some ⟨w.heap.size,0,none⟩) n b) ⟨cellsOf b,by rw [Y9];exact qN _,⟨by simp,.inr ⟨w.heap.size,n,_,rfl,JC _,Xw w _,by omega,by simp only [maxLen];omega,by simp [hn],by simp [Ji]⟩⟩,rfl⟩ (fun g hg=>by rw [Ja.1 hg];exact Js _) (by simp [Box.fp]);exact hK _ _ _ ⟨_,V⟩ (h5.put (by simpa [yE] using hk) V) ((Only.refl S w).alloc _)
theorem zaK {g o:Nat}:Only [g] w (w.freeze ⟨g,o,none⟩ 1):=by
 unfold World.freeze;rw [Jb d9];refine ⟨V,V,V,by simp,fun k hk hn=> ?_⟩;have:¬g=k:=fun e=>hn (by rw [e];exact m9 rfl);simp [Array.getElem?_modify,this]
theorem zbt {g o:Nat} (p:Addr):(w.freeze ⟨g,o,none⟩ 1).cell? p=w.cell? p:=by
 unfold World.freeze;rw [Jb d9];simp only [World.cell?,Array.getElem?_modify]
 by_cases h:g=p.block
 ·rw [Jh h]
  cases hx:w.heap[p.block]? with
  | none=>simp
  | some x=>cases x <;> simp
 ·rw [Jb h]
theorem zfZ {x:Operand} {T e k c:Nat} {A:Option Addr} {F:LN} {b:LB} (j:Nat) (hx:σ.ev x=some (isD<|.slice A b.length c)) (hj:σ.bx[j]? =some (.r F<|yP e 1 Yt A c b)) (hT:ZS P T e=true) (he:zhY P e .u8=true) (h0:0 < b.length) (hS:∀ g∈F,g∈S) (hk:yE Γ.nt k=true):
  Ef P Γ S ⟨some k,.convert T T x,ty,pos,af,gd⟩ σ (fun σ'=>σ'=(⟨σ.tm,Zk σ.bx 0 [j]⟩:St).put k (bD b)):=by
 intro a w hh K Q hK;have hxv:a.eval x= .slice A b.length c:=zT hh hx;obtain ⟨g,cur,xs,rfl,rfl,hg,hnc,hm,hcs,htk,hxl,ha⟩:=VA (hh.resAt hj) h0
 have hsh:w.shape? g=some (e,cur.size):=by simp [World.shape?,hg]
 have e2:(execOp a.eval ⟨some k,.convert T T x,ty,pos,af,gd⟩).run P w= .ok (.value<|.slice (some ⟨g,0,none⟩) b.length c) (w.freeze ⟨g,cur.size,none⟩ 1):=by
  simp [execOp,hxv,convert,Jp<|yo hT,Jp<|qt he,markStringish,hsh]
 unfold Oper.wp;rw [e2];have ho:Only [g] w (w.freeze ⟨g,cur.size,none⟩ 1):=zaK;have hmem:=Jc hj
 have h1:Holds Γ ⟨σ.tm,Zk σ.bx 0 [j]⟩ a (w.freeze ⟨g,cur.size,none⟩ 1):=by
  refine hh.swap ho (fun x hx=>yD.2 ⟨_,hmem,hx⟩) (fun b' hb'=> .inl ⟨jN hb',fun x hx hm=> ?_⟩) (fun x hx=> .inl<|ZX hx) (YT hh.nd);have h2:=qj hh hj (g:=x) hx;exact h2 (mL _<|yD.2 ⟨b',hb',hm⟩)
 have hoff:=qj hh hj (g:=g) (m9 rfl);rw [Y9] at ha;have hxs:=jj ha;subst hxs;refine hK _ _ _ V (h1.put (by simpa [yE] using hk) ⟨some ⟨g,0,none⟩,c,by rw [zx],by rw [zx];exact hnc,fun _=>⟨g,0,rfl,?_,fun i hi=> ?_⟩,fun _ p hp hm=> ?_⟩) (ho.mono (fun x hx _=>hS x hx))
 ·exact Ju (Jn.1 hg).1 ho.size
 ·rw [zbt,JF]
  have hb:w.cell? ⟨g,i,none⟩=cur[i]? :=by simp [World.cell?,hg]
  rw [hb,← htk,JP]
  have:i < b.length * 1:=by simpa using hi
  rw [Jh this];simp
 ·injection hp with hp;subst hp;exact hoff hm
theorem zeN {x:Operand} {sT dT e g n:TypeId} {b:LB} (j:Nat) (hx:σ.ev x=some (isD<|.slice (some ⟨g,0,none⟩) n n)) (hj:σ.bx[j]? =some (.c g<|(cellsOf b).map isD)) (hn:b.length=n) (hs:ZS P sT e=true) (he:zhY P e .u8=true) (hd:jA P dT=true) (hS:Ap σ j S):Rd P Γ S ⟨dst,.convert sT dT x,ty,pos,af,gd⟩ σ (yY b):=by
 intro a w hh;have hv:a.eval x= .slice (some ⟨g,0,none⟩) n n:=zT hh hx;obtain ⟨t,cs,hb,ha⟩:=hh.boxAt hj;have hcs:=jj ha;subst hcs;refine ⟨_,V,fun w' ho=> ?_⟩;have hb':=hb.keep ho (fun hm=>hS.spec hh.nd hj g hm<|m9 rfl);have hr':RV w' (some ⟨g,0,none⟩) (cellsOf b):=fun _=>⟨g,0,rfl,hb'.lt,fun i hi=>by rw [JF,hb'.cell]⟩;have h3:=ze2 (P:=P) (c:=n) (yo hs) (qt he) (YA hd) (zx b) hr';rw [zx,hn] at h3;simp only [execOp,hv,JD,h3]
 rfl
theorem At.take {L:LN} {A:Option Addr} {ds:List D} (n:Nat) (h:At L w A ds):At L w A (ds.take n):=fun h0=>by
 obtain ⟨g,o,e,hg,hn,cs,h1,h2⟩:=h (by rw [JE] at h0;omega);refine ⟨g,o,e,hg,hn,cs.take n,h1.take n,fun j hj=> ?_⟩;rw [JE] at hj;rw [h2 j o9,JP,Jh o9]
theorem za1 {α:Type} {enc:α→List D} {sz:Nat} [Row enc sz]:∀ (l:List α) (k:Nat),(l.take k).flatMap enc=(l.flatMap enc).take (k * sz)
 | [],k=>by simp
 | x :: l,0=>by simp
 | x :: l,k + 1=>by
  have h:=Row.len (enc:=enc) (sz:=sz) x;rw [Xo,J6,J6,za1 (sz:=sz) l k,Nat.succ_mul,Nat.add_comm (k * sz) sz,List.take_append,h,Nat.add_sub_cancel_left];congr 1;exact (Ji o9).symm
theorem KX {α:Type} {enc:α→List D} {sz:Nat} [Row enc sz]:∀ (l:List α) (k:Nat),(l.drop k).flatMap enc=(l.flatMap enc).drop (k * sz)
 | [],k=>by simp
 | x :: l,0=>by simp
 | x :: l,k + 1=>by
  have h:=Row.len (enc:=enc) (sz:=sz) x;rw [Xz,J6,KX (sz:=sz) l k,Nat.succ_mul,Nat.add_comm (k * sz) sz,List.drop_append,h,Nat.add_sub_cancel_left];rw [show (enc x).drop (sz + k * sz)=[] from JZ o9,J0]
theorem Rd.shL {x z:Operand} {T e hi:Nat} {α:Type} {enc:α→List D} {l:List α} {kz:IntKind} (sz:Nat) [Row enc sz] (hx:σ.ev x=some (lsD enc l)) (hz:σ.ev z=some (isD<|.int kz (hi:Int))) (hT:ZS P T e=true) (hs:(P.info? e).map (·.size)=some sz) (h2:hi≤l.length):
  Rd P Γ S ⟨dst,.slice T x none (some z) none,ty,pos,af,gd⟩ σ (lsD enc<|l.take hi):=by
 intro a w hh;obtain ⟨A,c,hxv,hc,ha⟩:=zT hh hx;have hzv:a.eval z= .int kz (hi:Int):=zT hh hz;obtain ⟨inf,hi',hsz⟩:=Jy.1 hs
 have e1:hi≤c:=by omega
 refine ⟨.slice A hi c,⟨A,c,by rw [JE,XA h2],by rw [JE];omega,by rw [za1 (sz:=sz)];exact ha.take _⟩,fun w' _=> ?_⟩
 cases A with
 | none=>simp [execOp,hxv,hzv,Instr.sliceAt,Instr.slice,Instr.sliceBounds,Instr.sliceBound,asIntOf,Jp<|yo hT,sizeOf,typeInfo,hi',hsz,e1]
 | some p=>
  obtain ⟨b,o,sp⟩:=p;simp [execOp,hxv,hzv,Instr.sliceAt,Instr.slice,Instr.sliceBounds,Instr.sliceBound,asIntOf,Jp<|yo hT,sizeOf,typeInfo,hi',hsz,e1,Addr.add]
theorem Rd.slL {x y:Operand} {T e lo:Nat} {α:Type} {enc:α→List D} {l:List α} {ky:IntKind} (sz:Nat) [Row enc sz] (hx:σ.ev x=some (lsD enc l)) (hy:σ.ev y=some (isD<|.int ky (lo:Int))) (hT:ZS P T e=true) (hs:(P.info? e).map (·.size)=some sz) (h2:lo≤l.length):
  Rd P Γ S ⟨dst,.slice T x (some y) none none,ty,pos,af,gd⟩ σ (lsD enc<|l.drop lo):=by
 intro a w hh;obtain ⟨A,c,hxv,hc,ha⟩:=zT hh hx;have hyv:a.eval y= .int ky (lo:Int):=zT hh hy;obtain ⟨inf,hi',hsz⟩:=Jy.1 hs
 have hrun:∀ w',(execOp a.eval ⟨dst,.slice T x (some y) none none,ty,pos,af,gd⟩).run P w'= .ok (.value<|.slice (if c=lo then A else A.map (·.add (lo * sz))) (l.length - lo)<|c - lo) w':=fun w'=>by
  simp [execOp,hxv,hyv,Instr.sliceAt,Instr.slice,Instr.sliceBounds,Instr.sliceBound,asIntOf,Jp<|yo hT,sizeOf,typeInfo,hi',hsz,h2]
 refine ⟨_,⟨_,_,by rw [JA],by rw [JA];omega,?_⟩,fun w' _=>hrun w'⟩;intro h0;rw [qE (enc:=enc) (sz:=sz),JA] at h0
 have hpos:lo < l.length:=by
  rcases Nat.lt_or_ge lo l.length with h | h
  ·exact h
  ·have:l.length - lo=0:=by omega
   rw [this,Nat.zero_mul] at h0;omega
 rw [Jb o9];rw [KX (sz:=sz)];obtain ⟨g,o,rfl,_⟩:=ha (by rw [qE (enc:=enc) (sz:=sz)];exact Nat.mul_pos o9<|Row.pos (enc:=enc));have h3:=At.drop (lo * sz) ha
 have e3:(some (⟨g,o,none⟩:Addr)).map (·.add (lo * sz))=some ⟨g,o + lo * sz,none⟩:=by simp [Xg]
 rw [e3];refine h3 ?_;rw [JA,qE (enc:=enc) (sz:=sz),← Nat.sub_mul];exact h0
theorem Rd.idxA1 {x y:Operand} {T e g n:Nat} {kd:IntKind} {i:Int} (hx:σ.ev x=some (pA g)) (hy:σ.ev y=some (isD<|.int kd i)) (hT:arrT P T e n=true) (hs:(P.info? e).map (·.size)=some 1) (h0:0≤i) (hi:i < (n:Int)):
  Rd P Γ S ⟨dst,.indexAddr T x y,ty,pos,af,gd⟩ σ (isD<|.pointer<|some ⟨g,i.toNat,none⟩):=by
 intro a w hh;have hxv:a.eval x= .pointer (some ⟨g,0,none⟩):=zT hh hx;have hyv:a.eval y= .int kd i:=zT hh hy;obtain ⟨inf,hi',hsz⟩:=Jy.1 hs;refine ⟨_,V,fun w' _=> ?_⟩;simp [execOp,hxv,hyv,Instr.indexAt,Jp<|zeF hT,Instr.sureAddr,asIntOf,sizeOf,typeInfo,hi',hsz,Addr.add,h0,hi];omega
theorem zhU {x y:Operand} {T g i:Nat} {b:LB} {v:UInt8} (j:Nat) (hx:σ.ev x=some (isD<|.pointer<|some ⟨g,i,none⟩)) (hj:σ.bx[j]? =some (.c g<|(cellsOf b).map isD)) (hy:σ.ev y=some (isD<|B8 v)) (hT:zbL P T 1=true) (hi:i < b.length) (hS:g∈S):
  Ef P Γ S ⟨none,.store T x y,ty,pos,af,gd⟩ σ (fun σ'=>σ'=σ.set j ((cellsOf<|b.set i v).map isD)):=by
 have h:=zbE (P:=P) (Γ:=Γ) (S:=S) (ty:=ty) (pos:=pos) (af:=af) (gd:=gd) j hx hy hj hT (by simpa using hi) hS;intro a w hh K Q hK;refine h a w hh K Q fun σ' a' w' hT' hh' ho=>hK σ' a' w' ?_ hh' ho;show σ'=_;rw [hT'];congr 1;simp [cellsOf,List.map_set]
theorem zcK {x y:Operand} {T e c i:Nat} {A:Option Addr} {F:LN} {α:Type} {enc:α→List D} {l:List α} {v:α} (j:Nat) [Row enc 1] [One d] (hx:σ.ev x=some (isD<|elP A<|i * 1)) (hj:σ.bx[j]? =some (.r F<|yP e 1 enc A c l)) (hy:σ.ev y=some d) (hd:enc v=[d]) (hT:zbL P T 1=true) (hi:i < l.length) (hS:∀ g∈F,g∈S):
  Ef P Γ S ⟨none,.store T x y,ty,pos,af,gd⟩ σ (fun σ'=>σ'=σ.give [j] [.r F<|yP e 1 enc A c<|l.set i v]):=by
 intro a w hh K Q hK;have hxv:a.eval x=elP A (i * 1):=zT hh hx;have hyd:=zT hh hy;have h1c:=One.h (d:=d) _ _ _ hyd;obtain ⟨g,cur,xs,rfl,rfl,hg,hnc,hm,hcs,htk,hxl,ha⟩:=VA (hh.resAt hj) o9
 have hic:i < cur.size:=by rw [hcs];omega
 obtain ⟨inf,hi',hs⟩:=Jy.1 (show (P.info? T).map (·.size)=some 1 by unfold zbL at hT;rw [JT] at hT;exact hT)
 have hcell:w.cell? ⟨g,i,none⟩=some cur[i]:=by simp [World.cell?,hg,hic]
 have hfz:w.frozen? ⟨g,i,none⟩=false:=by simp [World.frozen?,hg]
 have e2:(execOp a.eval ⟨none,.store T x y,ty,pos,af,gd⟩).run P w= .ok .skip (w.setCell ⟨g,i,none⟩<|a.eval y):=by
  simp [execOp,hxv,elP,Instr.storeAt,Instr.sureAddr,storeVar,sizeOf,typeInfo,hi',hs,Zg h1c,storeCells,run_store _ _ _ _ _ h1c,Addr.add,hcell,hfz]
 unfold Oper.wp;rw [e2];have ho:Only [g] w (w.setCell ⟨g,i,none⟩<|a.eval y):=(Only.refl [g] w).setCell (p:=⟨g,i,none⟩) (.inl s9) _
 have hg2:(w.setCell ⟨g,i,none⟩<|a.eval y).heap[g]? =some (.cells (cur.setIfInBounds i<|a.eval y) e (0,0)):=by
  simp [World.setCell,Array.getElem?_modify,hg]
 have hsub:SubBx σ.bx [j] [.r [g]<|yP e 1 enc (some ⟨g,0,none⟩) c l]:=⟨⟨_,hj,yu _⟩,trivial⟩;have hfp:fps [Box.r [g]<|yP e 1 enc (some ⟨g,0,none⟩) c l]=[g]:=rfl
 have hset:(l.set i v).flatMap enc=(l.flatMap enc).set i d:=by
  have:∀ (l:List α) (i:Nat),(l.set i v).flatMap enc=(l.flatMap enc).set i d:=by
   intro l
   induction l with
   | nil=>intro i;simp
   | cons x l ih=>
    intro i;have h1:=Row.len (enc:=enc) (sz:=1) x
    obtain ⟨u,hu⟩:∃ u,enc x=[u]:=by
     cases hx:enc x with
     | nil=>rw [hx] at h1;simp at h1
     | cons u us=>cases us with
      | nil=>exact ⟨u,rfl⟩
      | cons=>rw [hx] at h1;simp at h1
    cases i with
    | zero=>simp [hd,hu]
    | succ i=>simp [hu,ih i]
  exact this l i
 obtain ⟨h3,_⟩:=hh.give (post:=[.r [g]<|yP e 1 enc (some ⟨g,0,none⟩) c<|l.set i v]) hsub (by rw [hfp];exact ho) (fun b hb=>by
  rw [Ja.1 hb];refine ⟨xs.set i<|a.eval y,?_,⟨by simp [hxl],.inr ⟨g,c,_,by simp,JC _,hg2,by simpa using hnc,hm,by simp [hcs],?_⟩⟩,by simp [Value.ownBlock]⟩
  ·rw [hset];refine ((ha.set (i:=i) hyd).keep ho (fun x hx=> ?_)).less (fun x hx=> ?_)
   ·rw [Ja.1 hx];exact mL _ (yD.2 ⟨_,Jc hj,m9 V⟩)
   ·rcases Jf.1 hx with hx | hx
    ·exact .inl (mL _<|yD.2 ⟨_,Jc hj,hx⟩)
    ·exact .inl (Jw.1 hx).1
  ·rw [← htk]
   simp [List.take_set]) (by simp [fps,Box.fp]) (fun g' hg'=> .inl hg')
 exact hK _ _ _ V h3 (ho.mono (fun x hx _=>hS x hx))
end
end Sx
end Go.Proofs.YtgokpcnabgacnaaGreatDoor
namespace Go.Proofs.YtgokpcnabgacnaaGreatDoor
open Go.ChangeShapes Go.WideShapes Go.ChangeAt Go.RowKit
namespace Sx
section
section
variable {P:Program}
def zh0 (P:Program) (t:TypeId) {α:Type} (ec:α→List D) (ok:α→Prop):Prop:=∀ (H:Type) (enc:TypeId × Value→H) (W:World) (fuel:Nat) (cs:List Value) (x:DataW H × List MemPlace),DataW.trod enc P W 0 (fun _=>true) true fuel t cs=some x→∃ a,ok a∧All [] W (ec a) cs
theorem qV {t:TypeId} {k:IntKind} (ht:P.underlying t=some (.int k)):zh0 P t (fun z:Int=>[isD<|.int k z]) (fun z=>(Lit.int k z).wf=true):=fun H enc W fuel cs x h=>by
 obtain ⟨z,rfl,-,hw⟩:=DataW.trod_int ht h;exact ⟨z,hw,V,t9⟩
theorem came_str {t:TypeId} (ht:P.underlying t=some .string):zh0 P t (fun b:LB=>[yY b]) (fun b=>b.length≤maxLen):=fun H enc W fuel cs x h=>by
 obtain ⟨⟨⟨s⟩⟩,rfl,-,hl⟩:=DataW.trod_string ht h;exact ⟨s,hl,V,t9⟩
theorem came_u8 {t:TypeId} (ht:P.underlying t=some (.int .u8)):zh0 P t Yt (fun _=>True):=fun H enc W fuel cs x h=>by
 obtain ⟨z,rfl,-,hw⟩:=DataW.trod_int ht h
 have:0≤z∧z < 256:=by simp [Lit.wf,IntKind.min,IntKind.max,IntKind.signed,IntKind.bits] at hw;omega
 refine ⟨UInt8.ofNat z.toNat,t9,?_,t9⟩;show Value.int .u8 z=B8 _;unfold B8;congr 1;simp;omega
theorem zg3 {α:Type} {enc:α→List D}:Le (isD<|.slice none 0 0) (lsD enc []):=fun _ _ _ h=>⟨none,0,h,Js _,fun h0=>by simp at h0⟩
theorem WK {t e sz:Nat} {α:Type} [Inhabited α] {ec:α→List D} {ok:α→Prop} [Row ec sz] (ht:P.underlying t=some (.slice e)) (hc:P.cellsOf e=sz) (hsz:0 < sz) (he:zh0 P e ec ok):zh0 P t (fun l:List α=>[lsD ec l]) (fun l=>l.length≤maxLen∧∀ x∈l,ok x):=fun H enc W fuel cs x h=>by
 rcases Go.Deep.open_slice ht h with ⟨rfl,-⟩ | ⟨a,len,cap,m,n,Dn,Pl,rfl,-,hl,hm,hmm,-,hx⟩
 ·exact ⟨[],⟨JC _,by simp⟩,zg3 _ _ _ V,t9⟩
 simp only [if_true] at hmm;subst hmm
 have hx2:∀ i,i < len→∃ q:α × List Value,ok q.1∧W.cells? 0 (a.add<|i * sz) sz=some q.2∧All [] W (ec q.1) q.2:=fun i hi=>by
  obtain ⟨cs',h1,h2⟩:=hx i o9;rw [hc] at h1;obtain ⟨q,h3,h4⟩:=he _ _ _ _ _ _ h2;exact ⟨(q,cs'),h3,h1,h4⟩
 obtain ⟨X,hX⟩:=Go.Deep.choose_lt hx2
 have hlen:((List.range len).map fun i=>(X i).1).length=len:=by simp
 have hnth:0 < len→a.spot=none:=fun hi=>by
  obtain ⟨_,hl2,hcell⟩:=World.cells?_some (hX 0 hi).2.1;have h1:=hcell 0 hsz;rw [Je o9] at h1;have h2:=World.cell?_spot h1;simpa [Addr.add] using h2
 have key:∀ k,k≤len→∃ cs,All [] W (((List.range k).map fun i=>(X i).1).flatMap ec) cs∧cs.length=k * sz∧∀ j,j < cs.length→W.cell? (a.add j)=cs[j]? :=by
  intro k
  induction k with
  | zero=>intro _;exact ⟨[],trivial,by simp,by simp⟩
  | succ k ih=>
   intro hk;obtain ⟨cs,h1,h2,h3⟩:=ih o9;obtain ⟨_,hl2,hcell⟩:=World.cells?_some (hX k o9).2.1;refine ⟨cs ++ (X k).2,?_,?_,fun j hj=> ?_⟩
   ·rw [List.range_succ,XG,List.flatMap_append];exact h1.append (by simpa using (hX k o9).2.2)
   ·rw [Jk,h2,hl2,Nat.succ_mul]
   ·by_cases hjc:j < cs.length
    ·rw [JB hjc];exact h3 j hjc
    ·rw [JR o9];rw [Jk,hl2] at hj;have h4:=hcell (j - cs.length) o9;rw [Go.Deep.add_add,h2,show k * sz + (j - k * sz)=j by omega] at h4;rw [h2,h4]
 refine ⟨(List.range len).map fun i=>(X i).1,⟨by omega,fun x hx=> ?_⟩,⟨some a,m,by rw [hlen],by rw [hlen];exact hl,fun h0=> ?_⟩,t9⟩
 ·obtain ⟨i,hi,rfl⟩:=JI.1 hx;exact (hX i (by simpa using hi)).1
 ·obtain ⟨cs,h1,h2,h3⟩:=key len (Js _)
  have hpos:0 < len:=by
   rcases Xk len with h | h
   ·subst h;simp at h0
   ·exact h
  have hsp:=hnth hpos;obtain ⟨g,o,s⟩:=a;simp only at hsp;subst hsp
  have hcl:0 < cs.length:=by rw [h2];exact Nat.mul_pos hpos hsz
  have hc0:=h3 0 hcl;refine ⟨g,o,V,?_,by simp,cs,h1,fun j hj=> ?_⟩
  ·rw [Je hcl] at hc0;exact (by simpa [Addr.add] using zfH hc0)
  ·have:=h3 j hj;rw [Xg] at this;exact this
theorem K7 {t e:TypeId} (ht:P.underlying t=some (.slice e)) (he:P.underlying e=some (.int .u8)) (hc:P.cellsOf e=1):zh0 P t (fun b:LB=>[bD b]) (fun b=>b.length≤maxLen):=fun H enc W fuel cs x h=>by
 obtain ⟨b,⟨h1,-⟩,h2⟩:=WK ht hc d9 (came_u8 he) _ _ _ _ _ _ h
 match cs,h2 with
 | [c],h2=>exact ⟨b,h1,Yc b _ _ _ h2.1,trivial⟩
def Parts (L:LN) (w:World):List (List D)→List Value→Nat→Prop
 | [],_,_=>True
 | d :: ls,cs,o=>All L w d ((cs.drop o).take d.length)∧Parts L w ls cs (o + d.length)
theorem Wd {L:LN} {w:World}:∀ (ls:List (List D)) (cs:List Value) (o:Nat),Parts L w ls cs o→cs.length=o + ls.flatten.length→All L w ls.flatten (cs.drop o)
 | [],cs,o,_,h=>by
  have:cs.drop o=[]:=JZ (by simp at h;omega);rw [this];trivial
 | d :: ls,cs,o,h,hl=>by
  have ih:=Wd ls cs (o + d.length) h.2 (by simp at hl ⊢;omega)
  have e:cs.drop o=(cs.drop o).take d.length ++ cs.drop (o + d.length):=by
   rw [← List.drop_drop];exact (JV _ _).symm
  rw [e,List.flatten_cons];exact h.1.append ih
theorem Vp {t:TypeId} {fs:Array Field} (ht:P.underlying t=some (.struct fs)) {H:Type} {enc:TypeId × Value→H} {W:World} {fuel:Nat} {cs:List Value} {x:DataW H × List MemPlace} (h:DataW.trod enc P W 0 (fun _=>true) true fuel t cs=some x):
  cs.length=P.cellsOf t∧∀ (i:Nat) (f:Field),fs[i]? =some f→∃ n y,DataW.trod enc P W 0 (fun _=>true) true n f.type ((cs.drop f.offset).take<|P.cellsOf f.type)=some y:=by
 obtain ⟨xs,n,_,_,hl,hlen,hf⟩:=DataW.trod_struct ht h;refine ⟨hl,fun i f hi=>⟨n,xs[i]'(by have:=(Jn.1 hi).1;omega),?_⟩⟩;rw [hf i f hi];exact Je _
theorem top_slice {t e:TypeId} {α:Type} {d:α→D} {ok:α→Prop} {base:Nat} {W:World} {v:Value} {H:Type} {enc:TypeId × Value→H} {x:DataW H} {p:List MemPlace} (hop:zh0 P t (fun a=>[d a]) ok) (ht:P.underlying t=some (.slice e)) (hv:Value.okWide P W .any base t v) (h:DataW.Trod enc P W 0 (fun _=>true) true t v x p):∃ a,ok a∧(d a).R [] W v:=by
 obtain ⟨A,n,c,rfl⟩:=okWide_slice ht hv;obtain ⟨fuel,h⟩:=h;obtain ⟨a,h1,h2⟩:=hop _ _ _ _ _ _ h;exact ⟨a,h1,h2.1⟩
theorem top_int {t:TypeId} {k:IntKind} {base:Nat} {W:World} {v:Value} {H:Type} {enc:TypeId × Value→H} {x:DataW H} {p:List MemPlace} (ht:P.underlying t=some (.int k)) (hv:Value.okWide P W .any base t v) (h:DataW.Trod enc P W 0 (fun _=>true) true t v x p):∃ z:Int,(Lit.int k z).wf=true∧(isD<|.int k z).R [] W v:=by
 obtain ⟨z,rfl,-,-,hz⟩:=open_int ht hv h;exact ⟨z,hz,V⟩
end
end
section
section
variable {P:Program}{Γ:Cx}{σ σ':St}{Q:Exit→Act→World→Prop}{a:Act}{w:World}{ops:Array Oper}{rest:List Oper}{S:List Nat}{dst:Option Tmp}{ty:TypeId}{pos:String}{af:Array Edge}{gd:Option (Nat × Bool)}
def SP (Γ:Cx) (ch:List PanicEntry) (Q:Exit→Act→World→Prop) (σ:St):Prop:=∀ a w,Holds Γ σ a w→Q (.panic ch) a w
theorem SP.then {ch:List PanicEntry} {K:Act→World→Prop} (h:SP Γ ch Q σ):SP Γ ch (Exit.then K Q) σ:=h
theorem SP.block {ch:List PanicEntry} {n:Nat} (h:SP Γ ch Q σ):SP Γ ch (Exit.inBlock n Q) σ:=h
abbrev pan (v:Value):List PanicEntry:=[{ v:=v,recovered:=false }]
theorem KO {x:Operand} {T:TypeId} {v:Value} (hx:σ.ev x=some (isD<|.iface T v)) (h:SP Γ (pan<|.iface T v) Q σ):SWl P Γ ops Q (⟨dst,.panic x,ty,pos,af,none⟩ :: rest) σ:=fun a w hh=>by
 have hv:a.eval x= .iface T v:=zT hh hx;refine J4 V fun K hK=> ?_
 have e:(execOp a.eval ⟨dst,.panic x,ty,pos,af,none⟩).run P w= .halt (.panic<|.iface T v) w:=by
  simp only [execOp,hv,Instr.panic,JD,run_goPanic]
  rfl
 unfold Oper.wp;rw [e];exact h a w hh
def zge (P:Program) (T:TypeId):Bool:=match P.underlying T with | some (.interface _) | none=>false | _=>true
theorem zaH {T:TypeId} (h:zge P T=true):∃ q,P.underlying T=some q∧∀ m,q≠ .interface m:=by
 unfold zge at h
 split at h
 ·cases h
 ·cases h
 ·rename_i u h1 h2
  cases hu:P.underlying T with
  | none=>exact absurd hu h2
  | some q=>exact ⟨q,rfl,fun m e=>h1 m (by rw [hu,e])⟩
theorem Wk {x:Operand} {T:TypeId} {v:Value} {dx:D} (hx:σ.ev x=some dx) (hl:Le dx (isD v)) (hT:zge P T=true):Rd P Γ S ⟨dst,.makeInterface T x,ty,pos,af,gd⟩ σ (isD<|.iface T v):=fun a w hh=>by
 have hv:a.eval x=v:=hl _ _ _ (zT hh hx);refine ⟨_,V,fun w' _=> ?_⟩;obtain ⟨q,hu,hq⟩:=zaH hT;simp only [execOp,Instr.makeInterface,hv,JD,Jp hu,Jv]
 cases q <;> first | rfl | exact (hq _ rfl).elim
theorem zhT {x:Operand} {xT T:TypeId} {v:Value} (hx:σ.ev x=some (isD<|.iface T v)) (hT:zge P T=true):Rd P Γ S ⟨dst,.typeAssert x xT T true,ty,pos,af,gd⟩ σ (Yk [isD v,yj true]):=fun a w hh=>by
 have hv:a.eval x= .iface T v:=zT hh hx;refine ⟨.tuple #[v,.bool true],⟨[v,.bool true],V,V,V,t9⟩,fun w' _=> ?_⟩;obtain ⟨q,hu,hq⟩:=zaH hT;simp only [execOp,Instr.typeAssert,hv,JD,Jp hu,Jv]
 cases q <;> first | exact (hq _ rfl).elim | simp
theorem jT {x:Operand} {aT:Array TypeId} {f:FuncId} {cap:List Value} (hx:σ.ev x=some (isD<|.func (.func f) #[] cap.toArray))
  (h:SWl P { Γ with df:={ target:= .fn (.func f) cap.toArray,args:= #[] } :: Γ.df } ops Q rest σ):SWl P Γ ops Q (⟨none,.defer { callee:= .value x,args:= #[],argTypes:=aT },ty,pos,af,none⟩ :: rest) σ:=fun a w hh=>by
 have hv:a.eval x= .func (.func f) #[] cap.toArray:=zT hh hx;refine J4 V fun K hK=> ?_
 have e:(execOp a.eval ⟨none,.defer { callee:= .value x,args:= #[],argTypes:=aT },ty,pos,af,none⟩).run P w= .ok (.defer { target:= .fn (.func f) cap.toArray,args:= #[] }) w:=by
  simp [execOp,resolve,hv,Deferred.ofValue,JD,JK,Jv]
 unfold Oper.wp;rw [e];simp only [Oper.upon];refine hK _ _ (h _ w ⟨?_,hh.sz,hh.tm,hh.bx,hh.nd,hh.nw,hh.on,hh.bs,hh.dj⟩);show _ :: a.defers=_ :: Γ.df;rw [hh.df]
structure ConD (P:Program) (f:FuncId) (pre:List Box) (ad:List D) (u u':FrameMode) (post:List Box):Prop where
 en:ju P f
 go:∀ (L:LN) (w:World) (vs:List Value),(∀ x∈L,x < w.heap.size)→glob.R w→(∀ g∈fps pre,g∉glob.F)→(∀ g∈fps pre,g∉L)→(fps pre).Nodup→(∀ b∈pre,b.R (fps pre ++ L) w)→All (fps pre ++ L) w ad vs→
  CallsD P f vs.toArray u w fun e v w'=>(∃ r,e= .returned r)∧v=u'∧(∀ b∈post,b.R (fps post ++ L) w')∧(fps post).Nodup∧(∀ g∈fps post,g∈fps pre∨w.heap.size≤g)∧Only (fps pre) w w'
def RL (P:Program) (fn:Func) (R:Ending→World→Prop) (u:FrameMode) (Γ:Cx) (σ:St):Prop:=∀ a w,Holds Γ σ a w→Leaves P fn a.tmps R a.defers u w
theorem RL.defer {fn:Func} {R:Ending→World→Prop} {u u':FrameMode} {f:FuncId} {cap:List Value} {pre post:List Box} {nt:Nat} {base lent:LN} {w0:World} {df:List Deferred} (js:LN) (hu:u≠ .run) (hcon:ConD P f pre (cap.map isD) u u' post) (hjs:js.Nodup) (hs:SubBx σ.bx js pre)
  (h:RL P fn R (settle u') ⟨nt,base,w0,lent,df⟩ (σ.give js post)):RL P fn R u ⟨nt,base,w0,lent,{ target:= .fn (.func f) cap.toArray,args:= #[] } :: df⟩ σ:=fun a w hh=>by
 have hd:a.defers={ target:= .fn (.func f) cap.toArray,args:= #[] } :: df:=hh.df;rw [hd]
 have hL1:∀ x∈fps pre ++ (σ.L ⟨nt,base,w0,lent,{ target:= .fn (.func f) cap.toArray,args:= #[] } :: df⟩).filter (· ∉fps pre),x∈σ.L ⟨nt,base,w0,lent,{ target:= .fn (.func f) cap.toArray,args:= #[] } :: df⟩∨w.heap.size≤x:=fun x hx=>by
  rcases Jf.1 hx with hx | hx
  ·exact .inl (mL _<|hs.fps hx)
  ·exact .inl (Jw.1 hx).1
 refine leaves_cons (f:=f) (args:=cap.toArray) hu (by simpa [invoke] using hcon.en _ w) ((hcon.go ((σ.L ⟨nt,base,w0,lent,{ target:= .fn (.func f) cap.toArray,args:= #[] } :: df⟩).filter (· ∉fps pre)) w cap (fun x hx=>hh.lt x (Jw.1 hx).1) hh.gl (fun g hg=>hh.off g<|hs.fps hg) (fun g hg hm=>by have:=(Jw.1 hm).2;simp at this;exact this hg) (YD hh.nd hjs hs) (fun b' hb'=> ?_) ?_).mono ?_)
 ·obtain ⟨j,c,_,h5,h6⟩:=Ye hs b' hb';exact h6.2 _ _ (Box.less (hh.bx c<|Jc h5) hL1)
 ·exact qN cap
 ·rintro e v w' ⟨⟨r,rfl⟩,rfl,hR,hnd,hnw,ho⟩;have hg:=(hh.give hs ho hR hnd hnw).1;exact h { a with defers:=df } w' ⟨V,hg.sz,hg.tm,hg.bx,hg.nd,hg.nw,hg.on,hg.bs,hg.dj⟩
theorem RL.fin {fn:Func} {pre:List Box} {ι:Type} {post:ι→List Box} {d:ι→D} {nt:Nat} {base:LN} {w0:World} (i:ι) (js:LN) (h:Rs P ⟨nt,base,w0,fps pre,[]⟩ fn σ (d i)) (hjs:js.Nodup) (hb:SubBx σ.bx js (post i)):
  RL P fn (fun e w'=>∃ i v,e= .returned v∧(d i).R (fps (post i) ++ base) w' v∧(∀ b∈post i,b.R (fps (post i) ++ base) w')∧(fps<|post i).Nodup∧(∀ g∈fps (post i),g∈fps pre∨w0.heap.size≤g)∧Only (fps pre) w0 w') .returning ⟨nt,base,w0,fps pre,[]⟩ σ:=fun a w hh=>by
 rw [show a.defers=[] from hh.df];exact Sx.retR i js h hjs hb hh
theorem zfN {fn:Func} {R:Ending→World→Prop} (hQ:∀ a w,bodyPostD P fn R .ret a w→Q .ret a w) (h:RL P fn R .returning Γ σ):SW P Γ σ .ret Q:=fun a w hh=>wp_ret (hQ a w<|h a w hh)
theorem zfQ {fn:Func} {R:Ending→World→Prop} (h:RL P fn R .returning Γ σ):SN Γ (bodyPostD P fn R) σ:=fun a w hh=>h a w hh
theorem zfP {fn:Func} {R:Ending→World→Prop} {ch:List PanicEntry} (h:RL P fn R (.panicking ch) Γ σ):SP Γ ch (bodyPostD P fn R) σ:=fun a w hh=>h a w hh
theorem qT {f : FuncId} {fn : Func} {c : Code} {pre : List Box} {ad : List D} {ι : Type} {post : ι → List Box} {d : ι → D} (hf : P.funcs[f]? = some fn) (hn : (fn.name == "runtime.NumGoroutine") = false) (hb : fn.body = some c) (hlen : Nat.ble ad.length fn.ntmps = true)
  (h:∀ (base:LN) (w0:World),SW P ⟨fn.ntmps,base,w0,fps pre,[]⟩ (zN (Wy 0 ad) pre) c (bodyPostD P fn fun e w'=>∃ i v,e= .returned v∧(d i).R (fps (post i) ++ base) w' v∧(∀ b∈post i,b.R (fps (post i) ++ base) w')∧(fps<|post i).Nodup∧(∀ g∈fps (post i),g∈fps pre∨w0.heap.size≤g)∧Only (fps pre) w0 w')):ConR P f pre ad post d:=by
 refine ⟨enters_of hf hn (by rw [hb];rfl),fun L w vs hL hG hgF hg hnd hbk ha=> ?_⟩;refine calls_of_wp_defers hf hb (h L w _ _ ?_);have hl:=ha.length
 have hle:ad.length≤fn.ntmps:=by simpa using hlen
 refine ⟨V,by simp [hl];omega,fun i e hi=> ?_,hbk,hnd,fun g hg=> .inr hg,Only.refl _ _,hL,hg,hG,hgF⟩;have:=qh (pre:=[]) (post:=List.replicate (fn.ntmps - vs.length) undef) ha rfl i e hi
 have e1:vs.toArray ++ Array.replicate (fn.ntmps - vs.toArray.size) undef=([] ++ vs ++ List.replicate (fn.ntmps - vs.length) undef).toArray:=by
  apply Xe;simp
 rw [e1];exact this
theorem con_ofD {f : FuncId} {fn : Func} {c : Code} {id : Nat} {k1 k2 : Tmp} {t1 t2 : TypeId} {p1 p2 : String} {a1 a2 : Array Edge} {aT : Array TypeId} {pre post : List Box} {ad : List D} {u u' : FrameMode} {rv : Value} (hf : P.funcs[f]? = some fn) (hn : (fn.name == "runtime.NumGoroutine") = false)
  (hb:fn.body=some (.seq (.region id #[⟨some k1,.call { callee:= .builtin .recover,args:= #[],argTypes:=aT },t1,p1,a1,none⟩,⟨some k2,.assign<|.tmp k1,t2,p2,a2,none⟩] false) c)) (hlen:Nat.ble ad.length fn.ntmps=true) (h1:Nat.blt k1 fn.ntmps=true) (h2:Nat.blt k2 fn.ntmps=true)
  (hu:(∃ v older,u= .panicking ({ v:=v,recovered:=false,goexit:=false } :: older)∧rv=v∧u'= .panicking ({ v:=v,recovered:=true } :: older))∨(u= .returning∧rv= .nilIface∧u'= .returning))
  (h:∀ (base:LN) (w0:World),SW P ⟨fn.ntmps,base,w0,fps pre,[]⟩ (((zN (Wy 0 ad) pre).put k1<|isD rv).put k2<|isD rv) c (bodyPost P fn fun e w'=>(∃ r,e= .returned r)∧(∀ b∈post,b.R (fps post ++ base) w')∧(fps post).Nodup∧(∀ g∈fps post,g∈fps pre∨w0.heap.size≤g)∧Only (fps pre) w0 w')):ConD P f pre ad u u' post:=by
 refine ⟨enters_of hf hn (by rw [hb];rfl),fun L w vs hL hG hgF hg hnd hbk ha=> ?_⟩;refine callsD_of_wpS hf hb fun c₀ cs hc=> ?_;have hl:=ha.length
 have hle:ad.length≤fn.ntmps:=by simpa using hlen
 have hh:Holds ⟨fn.ntmps,L,w,fps pre,[]⟩ (zN (Wy 0 ad) pre) { tmps:=vs.toArray ++ Array.replicate (fn.ntmps - vs.toArray.size) undef,defers:=[] } w:=by
  refine ⟨V,by simp [hl];omega,fun i e hi=> ?_,hbk,hnd,fun g hg=> .inr hg,Only.refl _ _,hL,hg,hG,hgF⟩;have:=qh (pre:=[]) (post:=List.replicate (fn.ntmps - vs.length) undef) ha rfl i e hi
  have e1:vs.toArray ++ Array.replicate (fn.ntmps - vs.toArray.size) undef=([] ++ vs ++ List.replicate (fn.ntmps - vs.length) undef).toArray:=by
   apply Xe;simp
  rw [e1];exact this
 have hk1:k1 < fn.ntmps:=by simpa using h1
 have hk2:k2 < fn.ntmps:=by simpa using h2
 generalize ha0:({ tmps:=vs.toArray ++ Array.replicate (fn.ntmps - vs.toArray.size) undef,defers:=[] }:Act)=a0 at hh
 have hrec:∀ v',(v'=rv)→Holds ⟨fn.ntmps,L,w,fps pre,[]⟩ (((zN (Wy 0 ad) pre).put k1<|isD rv).put k2<|isD rv) ((a0.put (some k1) v').put (some k2) v') w:=fun v' e=>by
  subst e;exact (hh.put hk1 (d:=isD v') V).put hk2 V
 have hev:∀ v',(a0.put (some k1) v').eval (.tmp k1)=v':=fun v'=>by
  show ((a0.put (some k1) v').tmps.getD k1 undef)=v';rw [put_get (by rw [hh.sz];exact hk1)];simp
 refine wpS_seq (wpS_region ?_);have hlist:List.range (#[(⟨some k1,.call { callee:= .builtin .recover,args:= #[],argTypes:=aT },t1,p1,a1,none⟩:Oper),⟨some k2,.assign<|.tmp k1,t2,p2,a2,none⟩]:Array Oper).size=[0,1]:=rfl;rw [hlist]
 have e0:(execOp a0.eval ⟨some k1,.call { callee:= .builtin .recover,args:= #[],argTypes:=aT },t1,p1,a1,none⟩).run P w= .ok .recover w:=by
  simp [execOp,go_sem]
 have e1:∀ v',(execOp (a0.put (some k1) v').eval ⟨some k2,.assign<|.tmp k1,t2,p2,a2,none⟩).run P w= .ok (.value v') w:=fun v'=>by
  simp only [execOp,hev]
  rfl
 have fin:∀ cs',cs'={ c₀ with mode:=u' } :: cs→wpOpsS P #[(⟨some k1,.call { callee:= .builtin .recover,args:= #[],argTypes:=aT },t1,p1,a1,none⟩:Oper),⟨some k2,.assign<|.tmp k1,t2,p2,a2,none⟩] (Exit.thenS (c.wpS P (bodyPostS P fn c₀ cs fun e v w'=>(∃ r,e= .returned r)∧v=u'∧(∀ b∈post,b.R (fps post ++ L) w')∧(fps post).Nodup∧(∀ g∈fps post,g∈fps pre∨w.heap.size≤g)∧Only (fps pre) w w')) (bodyPostS P fn c₀ cs fun e v w'=>(∃ r,e= .returned r)∧v=u'∧(∀ b∈post,b.R (fps post ++ L) w')∧(fps post).Nodup∧(∀ g∈fps post,g∈fps pre∨w.heap.size≤g)∧Only (fps pre) w w')) [1] (a0.put (some k1) rv) cs' w:=by
  intro cs' hcs;subst hcs;simp only [wpOpsS];simp only [List.getElem?_toArray,J1,List.getElem?_cons_zero,Region.wanted,if_true];rw [e1 rv];simp only [Oper.upon];refine wpS_of_wp (wp_mono (h L w _ _<|hrec rv V) ?_);intro e a w' hq
  cases e with
  | normal=>obtain ⟨hd,v,hr,k1,k2,k3,k4,k5⟩:=hq;exact ⟨hd,u',rfl,v,hr,k1,rfl,k2,k3,k4,k5⟩
  | ret=>obtain ⟨hd,v,hr,k1,k2,k3,k4,k5⟩:=hq;exact ⟨hd,u',rfl,v,hr,k1,rfl,k2,k3,k4,k5⟩
  | panic ch=>obtain ⟨hd,⟨r,hr⟩,_⟩:=hq;cases hr
  | outgrown=>obtain ⟨⟨r,hr⟩,_⟩:=hq;cases hr
  | _=>exact hq.elim
 unfold wpOpsS;simp only [List.getElem?_toArray,List.getElem?_cons_zero,Region.wanted,if_true];rw [e0];simp only;rcases hu with ⟨v,older,rfl,rfl,rfl⟩ | ⟨rfl,rfl,rfl⟩
 ·have hr:recoverD (c₀ :: cs)=some (rv,{ c₀ with mode:= .panicking ({ v:=rv,recovered:=true } :: older) } :: cs):=by simp [recoverD,hc]
  rw [hr];exact fin _ V
 ·have hr:recoverD (c₀ :: cs)=none:=by simp [recoverD,hc]
  rw [hr];exact fin _ (by rw [← hc])
end
end
section
abbrev Dg:Type:={d:LB // d.length=32}
def encG (d:Dg):List D:=(cellsOf d.1).map isD
instance:Row encG 32:=⟨fun x=>by unfold encG;rw [JO,zx,x.2],fun x=>by unfold encG;infer_instance,by decide⟩
section
variable {P:Program}{Γ:Cx}{σ:St}{S:List Nat}{dst:Option Tmp}{ty:TypeId}{pos:String}{af:Array Edge}{gd:Option (Nat × Bool)}{d:D}
end
end
section
section
variable {P:Program}{Γ:Cx}{σ:St}{S:List Nat}{dst:Option Tmp}{ty:TypeId}{pos:String}{af:Array Edge}{gd:Option (Nat × Bool)}{d:D}
end
end
section
class Flat (d:D):Prop where
 h:∀ L L' w v,d.R L w v→d.R L' w v
instance (v:Value):Flat (isD v):=⟨fun _ _ _ _ h=>h⟩
class Flats (ds:List D):Prop where
 h:∀ L L' w vs,All L w ds vs→All L' w ds vs
instance:Flats []:=⟨fun _ _ _ vs h=>by cases vs with | nil=>trivial | cons=>exact h.elim⟩
instance (d:D) (ds:List D) [hd:Flat d] [hs:Flats ds]:Flats (d :: ds):=⟨fun L L' w vs h=>by
 cases vs with
 | nil=>exact h.elim
 | cons v vs=>exact ⟨hd.h _ _ _ _ h.1,hs.h _ _ _ _ h.2⟩⟩
instance (ds:List D) [hs:Flats ds]:Flat (Yk ds):=⟨fun L L' w v ⟨cs,hv,ha⟩=>⟨cs,hv,hs.h _ _ _ _ ha⟩⟩
theorem zfm (b:LB):Flats (b.flatMap Yt):=⟨fun L L' w vs h=>by
 induction b generalizing vs with
 | nil=>cases vs with | nil=>trivial | cons=>exact h.elim
 | cons x b ih=>
  cases vs with
  | nil=>exact h.elim
  | cons v vs=>exact ⟨h.1,ih vs h.2⟩⟩
class FlatBx (b:Box):Prop where
 h:∀ L L' w,b.R L w→b.R L' w
instance (F:LN) (e c:Nat) (A:Option Addr) (b:LB):FlatBx (.r F<|yP e 1 Yt A c b):=⟨fun L L' w ⟨xs,ha,h⟩=>⟨xs,(zfm b).h _ _ _ _ ha,h⟩⟩
section
variable {P:Program}{Γ:Cx}{σ:St}{S:List Nat}{dst:Option Tmp}{ty:TypeId}{pos:String}{af:Array Edge}{gd:Option (Nat × Bool)}{d:D}{a:Act}{w:World}
end
end
section
inductive El
 | k (b:LB)
 | x (A:Option Addr) (n c:Nat)
def encX:El→List D
 | .k b=>[bD b]
 | .x A n c=>[isD<|.slice A n c]
instance:Row encX 1:=⟨fun e=>by cases e <;> rfl,fun e=>by cases e <;> (unfold encX;infer_instance),by decide⟩
theorem fps_set:∀ (bs:List Box) (k:Nat) (b b':Box),bs[k]? =some b→b'.fp=b.fp→fps (bs.set k b')=fps bs
 | [],k,b,b',h,_=>by simp at h
 | c :: bs,0,b,b',h,hf=>by
  simp at h;subst h;simp only [List.set_cons_zero,Z2,hf]
 | c :: bs,k + 1,b,b',h,hf=>by
  simp only [List.set_cons_succ,Z2];rw [fps_set bs k b b' (by simpa using h) hf]
section
variable {P:Program}{Γ:Cx}{σ:St}{Q:Exit→Act→World→Prop}{a:Act}{w:World}
theorem Holds.rebox (h:Holds Γ σ a w) {k:Nat} {b b':Box} (hk:σ.bx[k]? =some b) (hf:b'.fp=b.fp) (hR:b'.R (σ.L Γ) w):Holds Γ ⟨σ.tm,σ.bx.set k b'⟩ a w:=by
 have e:=fps_set σ.bx k b b' hk hf;refine h.swap (Only.refl [] w) s9 (fun c hc=> ?_) (fun g hg=> .inl (by rw [e] at hg;exact hg)) (by rw [e];exact h.nd);rcases List.mem_or_eq_of_mem_set hc with hc | rfl
 ·exact .inl ⟨hc,by simp⟩
 ·exact .inr (by rw [e];exact hR)
