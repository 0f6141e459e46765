/- WALKING CODE BY WHAT IS KNOWN: strings, arrays of one's own, slices of one element. Over any program. WALKING CODE BY WHAT IS KNOWN: slices of structs -/
import Derived.Test.YtfoafihodanmhaaGreatDoorGZAD
import Derived.Lib.Strings
import Derived.Lib.IndexBytes
import Derived.Scope
import Derived.Laws.StructEq
import Derived.Laws.Cover3
namespace Go.Proofs.YtfoafihodanmhaaGreatDoor
open Go.RowKit
namespace Sx
section
section
variable {P:Program}{Γ:Cx}{σ:St}{S:List Nat}{dst:Option Tmp}{ty:TypeId}{pos:String}{af:Array Edge}{gd:Option (Nat × Bool)}{d:D}
theorem Kq {x y:Operand} {xT yT:TypeId} {p q:Int} (hx:σ.ev x=some (isD<|.int .i64 p)) (hy:σ.ev y=some (isD<|.int .i64 q)) (h:0≤p∧p≤9223372036854775807∧0 < q):Rd P Γ S ⟨dst,.binOp .quo xT x y yT,ty,pos,af,gd⟩ σ (isD<|.int .i64<|p / q):=Yo hx hy fun _=>by
 have h1:¬q=0:=by omega
 have h2:p.tdiv q=p / q:=Int.tdiv_eq_ediv_of_nonneg h.1;have h3:0≤p / q:=Int.ediv_nonneg h.1 o9;have h4:p / q≤p:=Int.ediv_le_self _ h.1;have h5:IntKind.i64.wrap (p / q)=p / q:=Wa o9 o9;simp [eqGuard,binOp,Op.intDiv,h1,h2,h5]
theorem Kp {x y:Operand} {xT yT:TypeId} {k:IntKind} {p q r:Int} (hx:σ.ev x=some (isD<|.int k p)) (hy:σ.ev y=some (isD<|.int k q)) (h:k.wrap (p - q)=r):Rd P Γ S ⟨dst,.binOp .sub xT x y yT,ty,pos,af,gd⟩ σ (isD<|.int k r):=Yo hx hy fun _=>by simp [eqGuard,binOp,Op.intArith,h]
theorem Vq {x y:Operand} {xT yT:TypeId} {k:IntKind} {p q r:Int} (hx:σ.ev x=some (isD<|.int k p)) (hy:σ.ev y=some (isD<|.int k q)) (h:k.wrap (p + q)=r):Rd P Γ S ⟨dst,.binOp .add xT x y yT,ty,pos,af,gd⟩ σ (isD<|.int k r):=Yo hx hy fun _=>by simp [eqGuard,binOp,Op.intArith,h]
theorem ZZ {x:Operand} {sT dT:TypeId} {kd ks:IntKind} {p r:Int} (kb:IntKind) (hx:σ.ev x=some (isD<|.int ks p)) (hs:intT P sT kb=true) (hd:intT P dT kd=true) (h:kd.wrap p=r):Rd P Γ S ⟨dst,.convert sT dT x,ty,pos,af,gd⟩ σ (isD<|.int kd r):=by
 subst h;exact Rd.cvi kb hx hs hd
def elemT (P:Program) (e:Nat):Bool:=match P.info? e with | some i=>(i.size == 1) && (match i.zero with | some z=>z.cells.size == 1 | none=>false) | none=>false
theorem ze0 {e:Nat} (h:elemT P e=true):∃ i z,P.info? e=some i∧i.size=1∧i.zero=some z∧z.cells.size=1:=by
 unfold elemT at h
 split at h
 ·rename_i i hi;simp only [JL,JT] at h;obtain ⟨h1,h2⟩:=h
  split at h2
  ·rename_i z hz;exact ⟨i,z,hi,h1,hz,by simpa using h2⟩
  ·cases h2
 ·cases h
theorem zdD {x:Operand} {T e k:Nat} {v:Value} (he:σ.ev x=some (isD v)) (hv:v.oneCell'=true) (hT:Yb P T e=true) (hE:elemT P e=true) (hk:yp Γ.nt k=true):
  Ef P Γ S ⟨some k,.buildSlice T 1 #[(0,x)],ty,pos,af,gd⟩ σ (fun σ'=>σ'=σ.put k (slD [v])):=by
 refine Ef.lit (parts:=[(0,x)]) (xs:=[v]) (e:=e) (by simp [St.evs,he]) hk fun w=> ?_;obtain ⟨i,z,h1,h2,h3,h4⟩:=ze0 hE;have hc:=Zo hv;simp [Instr.buildSlice,Jp<|yD hT,sizeOf,typeInfo,h1,h2,zeroValue,h3,Instr.fill,hc,newRow];have hr:Array.range 1= #[0]:=rfl;simp [hr]
theorem zdC {x y:Operand} {T e k n:Nat} {z:Value} {li ci:Int} (bytes:Nat) (hx:σ.ev x=some (isD<|.int .i64 li)) (hy:σ.ev y=some (isD<|.int .i64 ci)) (hT:Yb P T e=true)
  (hinfo:(P.info? e).map (fun i=>(i.zero,i.size,i.bytes))=some (some z,1,bytes)) (hzc:z.cells= #[z]) (hl:li=(n:Int)) (hc:ci=(n:Int)) (hn:n≤1099511627776) (hb:bytes≤128) (hk:yp Γ.nt k=true):
  Ef P Γ S ⟨some k,.makeSlice T x y,ty,pos,af,gd⟩ σ (fun σ'=>∃ g,σ'=(σ.mk' g<|(List.replicate n z).map isD).put k (isD<|.slice (some ⟨g,0,none⟩) n n)):=by
 intro a w hh K Q hK;have hxv:a.eval x= .int .i64 li:=zR hh hx;have hyv:a.eval y= .int .i64 ci:=zR hh hy
 cases hI:P.info? e with
 | none=>rw [hI] at hinfo;cases hinfo
 | some i=>
  rw [hI] at hinfo;injection hinfo with hinfo;injection hinfo with h1 h2;injection h2 with h2 h3;have hbc:=Xx hb hn
  have hbI:(i.bytes:Int) * (n:Int)≤281474976710656:=by
   rw [h3]
   have h4:((bytes * n:Nat):Int)≤281474976710656:=by omega
   rw [Int.natCast_mul] at h4;exact h4
  have hrun:=run_make (P:=P) w T e i z (yD hT) hI h1 .i64 .i64 (n:Int) (n:Int) o9 o9 hbI o9
  have hcs:madeCells z.cells ((n:Int).toNat * i.size)=(List.replicate n z).toArray:=by
   rw [J7,h2,Nat.mul_one,hzc,← jc]
  rw [hcs] at hrun;have h5:=(hh.box (t:=e)<|jr<|List.replicate n z).put (i:=k) (by simpa [yp] using hk) (d:=isD<|.slice (some ⟨w.heap.size,0,none⟩) n n) (v:= .slice (some ⟨w.heap.size,0,none⟩) n n) rfl;unfold Oper.wp execOp;simp only [hxv,hyv,hl,hc,JD,hrun,Jv,JK,J7];exact hK _ _ _ ⟨_,I⟩ h5 ((Only.refl S w).alloc _)
theorem Ya {x y:Operand} {T e g o n c:Nat} {i:Int} {kd:IntKind} (hx:σ.ev x=some (isD<|.slice (some ⟨g,o,none⟩) n c)) (hy:σ.ev y=some (isD<|.int kd i)) (hT:Yb P T e=true) (hs:(P.info? e).map (·.size)=some 1) (h0:0≤i) (hi:i < (n:Int)):
  Rd P Γ S ⟨dst,.indexAddr T x y,ty,pos,af,gd⟩ σ (isD<|.pointer<|some ⟨g,o + i.toNat,none⟩):=by
 intro a w hh;have hxv:a.eval x= .slice (some ⟨g,o,none⟩) n c:=zR hh hx;have hyv:a.eval y= .int kd i:=zR hh hy;refine ⟨_,I,fun w' _=> ?_⟩;obtain ⟨inf,hi',hsz⟩:=Jy.1 hs;simp [execOp,hxv,hyv,Instr.indexAt,asIntOf,Jp<|yD hT,sizeOf,typeInfo,hi',hsz,Addr.add,h0,hi]
theorem qe {x:Operand} {T g o:Nat} (j:Nat) {ds:List D} (hx:σ.ev x=some (isD<|.pointer<|some ⟨g,o,none⟩)) (hj:σ.bx[j]? =some (.c g ds)) (hd:ds[o]? =some d) (hT:jx P T=true) (hS:Ap σ j S):Rd P Γ S ⟨dst,.load T x,ty,pos,af,gd⟩ σ d:=zp j hx hj hd hT hS
theorem ZG {x y:Operand} {T g o:Nat} (j:Nat) {ds:List D} [One d] (hx:σ.ev x=some (isD<|.pointer<|some ⟨g,o,none⟩)) (hy:σ.ev y=some d) (hj:σ.bx[j]? =some (.c g ds)) (hT:Ke P T 1=true) (hfit:o < ds.length) (hS:g∈S):
  Ef P Γ S ⟨none,.store T x y,ty,pos,af,gd⟩ σ (fun σ'=>σ'=σ.set j (ds.set o d)):=yW j hx hy hj hT (by simpa using hfit) hS
theorem Zx {x:Operand} {T e n c:Nat} {A:Option Addr} (hx:σ.ev x=some (isD<|.slice A n c)) (hT:Yb P T e=true):Rd P Γ S ⟨dst,.call { callee:= .builtin .len,args:= #[x],argTypes:= #[T] },ty,pos,af,gd⟩ σ (isD<|.int .i64 (n:Int)):=by
 intro a w hh;have hv:a.eval x= .slice A n c:=zR hh hx;refine ⟨_,I,fun w' _=> ?_⟩;simp [execOp,resolve,invoke,builtin,hv,Builtin.len_,Jp<|yD hT,goInt]
theorem zb7:∀ {bs:List Box} {j:Nat} {b:Box},bs[j]? =some b→(fps bs).Nodup→(fps<|bs.eraseIdx j).Nodup∧(∀ x∈fps (bs.eraseIdx j),x∈fps bs)∧(∀ x∈b.fp,x∉fps (bs.eraseIdx j))
 | [],_,_,h,_=>by simp at h
 | c :: bs,0,b,h,hn=>by
  simp at h;subst h;rw [ZJ] at hn;have h2:=JH.1 hn;exact ⟨h2.2.1,fun x hx=>mR _ hx,fun x hx hm=>h2.2.2 x hx x hm I⟩
 | c :: bs,j + 1,b,h,hn=>by
  simp at h;rw [ZJ] at hn;have h2:=JH.1 hn;obtain ⟨k1,k2,k3⟩:=zb7 h h2.2.1;rw [List.eraseIdx_cons_succ,ZJ];refine ⟨JH.2 ⟨h2.1,k1,fun x hx y hy e=>h2.2.2 x hx y (k2 y hy) e⟩,fun x hx=> ?_,fun x hx hm=> ?_⟩
  ·rcases Jf.1 hx with hx | hx
   ·exact mL _ hx
   ·exact mR _ (k2 x hx)
  ·rcases Jf.1 hm with hm | hm
   ·exact h2.2.2 x hm x (yz.2 ⟨b,Jc h,hx⟩) I
   ·exact k3 x hx hm
theorem WU {L:LN} {w:World}:∀ {zs cs:List Value},All L w (zs.map isD) cs→cs=zs
 | [],[],_=>rfl
 | [],_ :: _,h=>h.elim
 | _ :: _,[],h=>h.elim
 | z :: zs,c :: cs,h=>by rw [WU h.2,show c=z from h.1]
theorem Holds.freeze {a:Act} {w:World} (h:Holds Γ σ a w) {i j g c:Nat} {xs:List Value} (hi:σ.tm i=some (isD<|.slice (some ⟨g,0,none⟩) xs.length c)) (hc:xs.length≤c) (hj:σ.bx[j]? =some (.c g<|xs.map isD)):Holds Γ ⟨fun k=>cond (Nat.beq k i) (some<|slD xs)<|σ.tm k,σ.bx.eraseIdx j⟩ a w:=by
 obtain ⟨k1,k2,k3⟩:=zb7 hj h.nd;have h1:Holds Γ ⟨σ.tm,σ.bx.eraseIdx j⟩ a w:=h.swap (Only.refl [] w) s9 (fun b hb=> .inl ⟨List.mem_of_mem_eraseIdx hb,by simp⟩) (fun x hx=> .inl<|k2 x hx) k1;have hg:g∈fps σ.bx:=yz.2 ⟨_,Jc hj,m9 rfl⟩;obtain ⟨t,cs,hb,ha⟩:=h.boxAt hj;have hcs:=WU ha;subst hcs;refine ⟨h1.df,h1.sz,fun k d hk=> ?_,h1.bx,h1.nd,h1.nw,h1.on,h1.bs,h1.dj⟩;have hk:(σ.put i<|slD cs).tm k=some d:=hk;rw [zas] at hk
 by_cases hki:k=i
 ·subst hki;simp at hk;subst hk;have hv:a.tmps.getD k undef= .slice (some ⟨g,0,none⟩) cs.length c:=h.tm k _ hi;refine ⟨some ⟨g,0,none⟩,c,hv,hc,hb.rv,fun _ p hp hm=> ?_⟩;injection hp with hp;subst hp;rcases Jf.1 hm with hm | hm
  ·exact k3 g (m9 I) hm
  ·have h2:=h.bs g hm;rcases h.nw g hg with h3 | h3
   ·omega
   ·exact h.dj.1 g h3 hm
 ·rw [Jb hki] at hk;exact h1.tm k d hk
theorem Vp {ops:Array Oper} {l:List Oper} {Q:Exit→Act→World→Prop} (i j:Nat) {g c n:Nat} {ds:List D} (xs:List Value) (hi:σ.tm i=some (isD<|.slice (some ⟨g,0,none⟩) n c)) (hj:σ.bx[j]? =some (.c g ds)) (hn:n=xs.length) (hc:n≤c) (hds:ds=xs.map isD) (h:SWl P Γ ops Q l ⟨fun k=>cond (Nat.beq k i) (some<|slD xs)<|σ.tm k,σ.bx.eraseIdx j⟩):SWl P Γ ops Q l σ:=
 fun a w hh=>by subst hn hds;exact h a w (hh.freeze hi hc hj)
theorem Holds.weak {a:Act} {w:World} (h:Holds Γ σ a w) {i:Nat} {d':D} (hi:σ.tm i=some d) (hl:Le d d'):Holds Γ (σ.put i d') a w:=by
 refine ⟨h.df,h.sz,fun k e hk=> ?_,h.bx,h.nd,h.nw,h.on,h.bs,h.dj⟩;rw [zas] at hk
 by_cases hki:k=i
 ·subst hki;simp at hk;subst hk;exact hl _ _ _ (h.tm k d hi)
 ·rw [Jb hki] at hk;exact h.tm k e hk
end
end
section
def At (L:LN) (w:World) (A:Option Addr) (ds:List D):Prop:=
 0 < ds.length→∃ g o,A=some ⟨g,o,none⟩∧g < w.heap.size∧g∉L∧∃ cs,All L w ds cs∧∀ j,j < cs.length→w.cell? ⟨g,o + j,none⟩=cs[j]?
theorem At.keep {L S:LN} {w w':World} {A:Option Addr} {ds:List D} (h:At L w A ds) (ho:Only S w w') (hS:∀ x∈S,x∈L):At L w' A ds:=fun h0=>by
 obtain ⟨g,o,e,hg,hn,cs,ha,hc⟩:=h h0;exact ⟨g,o,e,Ju hg ho.size,hn,cs,ha.keep ho hS,fun j hj=>(ho.cell (p:=⟨g,o + j,none⟩) hg (fun hm=>hn<|hS _ hm)).trans<|hc j hj⟩
theorem At.less {L L':LN} {w:World} {A:Option Addr} {ds:List D} (h:At L w A ds) (hS:∀ x∈L',x∈L∨w.heap.size≤x):At L' w A ds:=fun h0=>by
 obtain ⟨g,o,e,hg,hn,cs,ha,hc⟩:=h h0;refine ⟨g,o,e,hg,fun hm=> ?_,cs,ha.less hS,hc⟩;rcases hS _ hm with h' | h'
 ·exact hn h'
 ·omega
def rwD (n:Nat) (ds:List D):D:=⟨fun L w v=>∃ A c,v= .slice A n c∧n≤c∧At L w A ds,
 fun ⟨A,c,h,hc,ha⟩ ho hS=>⟨A,c,h,hc,ha.keep ho hS⟩,fun ⟨A,c,h,hc,ha⟩ hS=>⟨A,c,h,hc,ha.less hS⟩⟩
def paD (ds:List D):D:=⟨fun L w v=>∃ p,v= .pointer (some p)∧At L w (some p) ds,
 fun ⟨p,h,ha⟩ ho hS=>⟨p,h,ha.keep ho hS⟩,fun ⟨p,h,ha⟩ hS=>⟨p,h,ha.less hS⟩⟩
instance (n:Nat) (ds:List D):One (rwD n ds):=⟨fun _ _ _ h=>by obtain ⟨A,c,rfl,_⟩:=h;rfl⟩
instance (ds:List D):One (paD ds):=⟨fun _ _ _ h=>by obtain ⟨A,rfl,_⟩:=h;rfl⟩
section
variable {P:Program}{Γ:Cx}{σ:St}{S:List Nat}{dst:Option Tmp}{ty:TypeId}{pos:String}{af:Array Edge}{gd:Option (Nat × Bool)}{d:D}
theorem zT {x:Operand} {T e n:Nat} {ds:List D} (hx:σ.ev x=some (rwD n ds)) (hT:Yb P T e=true):Rd P Γ S ⟨dst,.call { callee:= .builtin .len,args:= #[x],argTypes:= #[T] },ty,pos,af,gd⟩ σ (isD<|.int .i64 (n:Int)):=by
 intro a w hh;obtain ⟨A,c,hv,_⟩:=zR hh hx;refine ⟨_,I,fun w' _=> ?_⟩;simp [execOp,resolve,invoke,builtin,hv,Builtin.len_,Jp<|yD hT,goInt]
theorem At.drop {L:LN} {w:World} {g o:Nat} {ds:List D} (k:Nat) (h:At L w (some ⟨g,o,none⟩) ds):At L w (some ⟨g,o + k,none⟩) (ds.drop k):=fun h0=>by
 rw [JA] at h0;obtain ⟨g',o',e,hg,hn,cs,ha,hc⟩:=h o9;injection e with e;injection e with e1 e2;subst e1 e2;refine ⟨g,o + k,I,hg,hn,cs.drop k,ha.drop k,fun j hj=> ?_⟩;rw [JA] at hj;rw [List.getElem?_drop,← hc (k + j) o9,J9]
theorem Rd.idxR {x y:Operand} {T e n:Nat} {ds:List D} {i:Int} {kd:IntKind} (sz:Nat) (hx:σ.ev x=some (rwD n ds)) (hy:σ.ev y=some (isD<|.int kd i)) (hT:Yb P T e=true) (hs:(P.info? e).map (·.size)=some sz) (h0:0≤i) (hi:i < (n:Int)) (hl:i.toNat * sz < ds.length):
  Rd P Γ S ⟨dst,.indexAddr T x y,ty,pos,af,gd⟩ σ (paD<|ds.drop<|i.toNat * sz):=by
 intro a w hh;obtain ⟨A,c,hxv,hc,ha⟩:=zR hh hx;have hyv:a.eval y= .int kd i:=zR hh hy;obtain ⟨g,o,rfl,hg,hn,cs,h1,h2⟩:=ha o9;refine ⟨.pointer<|some ⟨g,o + i.toNat * sz,none⟩,⟨_,I,At.drop _ ha⟩,fun w' _=> ?_⟩;obtain ⟨inf,hi',hsz⟩:=Jy.1 hs;simp [execOp,hxv,hyv,Instr.indexAt,asIntOf,Jp<|yD hT,sizeOf,typeInfo,hi',hsz,Addr.add,h0,hi]
theorem yo {x:Operand} {T k n:Nat} {ds:List D} (hx:σ.ev x=some (paD ds)) (hf:fldO P T k=some n) (hl:n < ds.length):Rd P Γ S ⟨dst,.fieldAddr T x k,ty,pos,af,gd⟩ σ (paD<|ds.drop n):=by
 intro a w hh;obtain ⟨p,hv,ha⟩:=zR hh hx;obtain ⟨g,o,e,hg,hn,cs,h1,h2⟩:=ha o9;injection e with e;subst e;refine ⟨.pointer<|some ⟨g,o + n,none⟩,⟨_,I,At.drop _ ha⟩,fun w' _=> ?_⟩;unfold fldO at hf
 split at hf
 ·rename_i fs hu
  split at hf
  ·rename_i f hk
   split at hf
   ·rename_i sz hs;simp only [Xy] at hf;subst hf;obtain ⟨i,hi,hsz⟩:=Jy.1 hs;simp [execOp,hv,Instr.fieldAt,Jp hu,hk,Instr.sureAddr,fieldPlace,sizeOf,typeInfo,hi,hsz,Addr.add]
   ·cases hf
  ·cases hf
 ·cases hf
theorem zS {x:Operand} {T:Nat} {ds:List D} (hx:σ.ev x=some (paD ds)) (hd:ds[0]? =some d) (hT:jx P T=true) (hS:∀ s∈S,s∈σ.L Γ):Rd P Γ S ⟨dst,.load T x,ty,pos,af,gd⟩ σ d:=by
 intro a w hh;obtain ⟨p,hv,ha⟩:=zR hh hx;have h0:0 < ds.length:=(Jg.1 hd).1;obtain ⟨g,o,e,hg,hn,cs,h1,h2⟩:=ha h0;injection e with e;subst e;obtain ⟨c,hc1,hc2⟩:=h1.at hd;refine ⟨c,hc2,fun w' ho=> ?_⟩
 have h4:w.cell? ⟨g,o,none⟩=some c:=by have:=h2 0 (by rw [h1.length];exact h0);rw [Nat.add_zero] at this;rw [this,hc1]
 have h3:=ZI (P:=P) hT ((ho.cell (p:=⟨g,o,none⟩) hg (fun hm=>hn<|hS _ hm)).trans h4);simp [execOp,hv,h3]
theorem yn {x:Operand} {T:Nat} (n:Nat) {ds:List D} (hx:σ.ev x=some (paD ds)) (hT:rowT P T n=true) (h0:0 < n) (hn:n≤ds.length) (hS:∀ s∈S,s∈σ.L Γ):Rd P Γ S ⟨dst,.load T x,ty,pos,af,gd⟩ σ (Z8<|ds.take n):=by
 intro a w hh;obtain ⟨p,hv,ha⟩:=zR hh hx;obtain ⟨g,o,e,hg,hgn,cs,h1,h2⟩:=ha o9;injection e with e;subst e;have hl:=h1.length;refine ⟨.agg (cs.take n).toArray,⟨_,I,h1.take n⟩,fun w' ho=> ?_⟩;unfold rowT at hT
 split at hT
 ·rename_i d hu;simp only [JL,JT] at hT
  have hlen:(cs.take n).length=n:=by rw [JE];omega
  have h3:=run_loadAt_mid (P:=P) w' g o T (cs.take n) d (fun i v hv'=>by
   have hi:i < n:=by have:=(Jg.1 hv').1;omega
   rw [List.getElem?_take_of_lt hi] at hv';rw [ho.cell (p:=⟨g,o + i,none⟩) hg (fun hm=>hgn<|hS _ hm),h2 i o9]
   exact hv') hu hT.1 (by rw [hlen];exact hT.2)
  simp [execOp,hv,h3]
 ·cases hT
def Bls (P:Program) (T n:Nat) (idx:LN) (es out:List D):Prop:=∃ e,∀ L w vs,All L w es vs→∃ cs,All L w out cs∧∀ w':World,(Instr.buildSlice T n (idx.zip vs).toArray).run P w'= .ok (.slice (some ⟨w'.heap.size,0,none⟩) n n) (w'.alloc<|.cells cs.toArray e)
theorem YB {parts:List (Nat × Operand)} {T n k:Nat} {idx:LN} {es out:List D} (hi:parts.map (·.1)=idx) (he:σ.evs (parts.map (·.2))=some es) (hb:Bls P T n idx es out) (hk:yp Γ.nt k=true):
  Ef P Γ S ⟨some k,.buildSlice T n parts.toArray,ty,pos,af,gd⟩ σ (fun σ'=>σ'=σ.put k (rwD n out)):=by
 intro a w hh K Q hK;obtain ⟨e,hb⟩:=hb;obtain ⟨cs,h1,h2⟩:=hb _ _ _ (Zt hh he)
 have e1:(parts.toArray.map fun (i,x)=>(i,a.eval x))=(idx.zip<|(parts.map (·.2)).map a.eval).toArray:=by
  rw [← hi];apply Xe;simp only [Array.toList_map];exact Kt a.eval parts
 have e2:(execOp a.eval ⟨some k,.buildSlice T n parts.toArray,ty,pos,af,gd⟩).run P w= .ok (.value<|.slice (some ⟨w.heap.size,0,none⟩) n n) (w.alloc<|.cells cs.toArray e):=by
  simp only [execOp];rw [e1,JD,h2 w]
  rfl
 unfold Oper.wp;rw [e2];have ho:Only [] w (w.alloc<|.cells cs.toArray e):=(Only.refl [] w).alloc _;refine hK _ _ _ I ((hh.keep ho).put (by simpa [yp] using hk) ⟨_,_,I,Js _,fun h0=>⟨_,0,I,by simp,fun hm=> ?_,cs,h1.keep ho s9,fun j hj=> ?_⟩⟩) ((Only.refl S w).alloc _)
 ·have:=hh.lt _ hm;omega
 ·rw [JF];exact (Blk.new w e cs).cell j
end
end
section
section
variable {P:Program}{Γ:Cx}{σ:St}{S:List Nat}{dst:Option Tmp}{ty:TypeId}{pos:String}{af:Array Edge}{gd:Option (Nat × Bool)}{d:D}
structure ConO (P:Program) (f:FuncId) (ads:List D) (n:Nat) (es:List D):Prop where
 en:Y1 P f
 go:∀ (L:LN) (w:World) (vs:List Value),(∀ x∈L,x < w.heap.size)→glob.R w→All L w ads vs→
  Calls P f vs.toArray w fun e w'=>∃ g,e= .returned (.slice (some ⟨g,0,none⟩) n n)∧w.heap.size≤g∧(∃ t cs,Blk w' g t cs∧All (g :: L) w' es cs)∧Only [] w w'
theorem Holds.boxO {a:Act} {w w':World} (h:Holds Γ σ a w) {g:Nat} {t:TypeId} {es:List D} {cs:List Value} (ho:Only [] w w') (hg:w.heap.size≤g) (hb:Blk w' g t cs) (hd:All (g :: σ.L Γ) w' es cs):Holds Γ (σ.mk' g es) a w':=
 h.more ho (b:= .c g es) ⟨t,cs,hb,hd⟩ (fun x hx=>by rw [Ja.1 hx];exact hg) (by simp [Box.fp])
theorem zex {f:FuncId} {args:Array Operand} {aT:Array TypeId} {ads ads' es:List D} {n k:Nat} (hcon:ConO P f ads n es) (he:σ.evs args.toList=some ads') (hl:LeAll ads' ads) (hk:yp Γ.nt k=true):
  Ef P Γ S ⟨some k,.call { callee:= .value<|.func f,args:=args,argTypes:=aT },ty,pos,af,gd⟩ σ (fun σ'=>∃ g,σ'=(σ.mk' g es).put k (isD<|.slice (some ⟨g,0,none⟩) n n)):=by
 intro a w hh K Q hK;have hall:=hl.all (Zt hh he)
 have e:(execOp a.eval ⟨some k,.call { callee:= .value<|.func f,args:=args,argTypes:=aT },ty,pos,af,gd⟩).run P w= .ok (.enter f (args.toList.map a.eval).toArray) w:=by
  have h:=hcon.en (args.toList.map a.eval).toArray w
  have e1:(args.map a.eval)=(args.toList.map a.eval).toArray:=by apply Xe;simp
  simp only [execOp,resolve,Deferred.ofValue,Act.eval,e1,JD,JK,Jv,invoke,Array.append_empty,Array.empty_append];exact h
 unfold Oper.wp;rw [e];simp only [Oper.upon];refine (hcon.go (σ.L Γ) w _ hh.lt hh.gl hall).mono ?_;rintro r w' ⟨g,rfl,hg,⟨t,cs,hb,ha⟩,ho⟩;exact hK _ _ _ ⟨g,I⟩ ((hh.boxO ho hg hb ha).put (by simpa [yp] using hk) I) (ho.mono s9)
theorem con_ofO {f : FuncId} {fn : Func} {c : Code} {ads es : List D} {n : Nat} (hf : P.funcs[f]? = some fn) (hn : (fn.name == "runtime.NumGoroutine") = false) (hb : fn.body = some c) (hlen : Nat.ble ads.length fn.ntmps = true)
  (h:∀ (base:LN) (w0:World),SW P ⟨fn.ntmps,base,w0,[],[]⟩ (St.of (VM 0 ads) []) c (bodyPost P fn fun e w'=>∃ g,e= .returned (.slice (some ⟨g,0,none⟩) n n)∧w0.heap.size≤g∧(∃ t cs,Blk w' g t cs∧All (g :: base) w' es cs)∧Only [] w0 w')):ConO P f ads n es:=by
 refine ⟨enters_of hf hn (by rw [hb];rfl),fun L w vs hL hG ha=> ?_⟩;refine calls_of_wp hf hb (h L w _ _ ?_);have hl:=ha.length
 have hle:ads.length≤fn.ntmps:=by simpa using hlen
 refine ⟨I,by simp [hl];omega,fun i e hi=> ?_,fun b hb=>by simp [St.of] at hb,by simp [St.of,fps],by simp [St.of,fps],Only.refl _ _,hL,by simp,hG,by simp⟩;have:=YC (pre:=[]) (post:=List.replicate (fn.ntmps - vs.length) undef) ha rfl i e hi
 have e1:vs.toArray ++ Array.replicate (fn.ntmps - vs.toArray.size) undef=([] ++ vs ++ List.replicate (fn.ntmps - vs.length) undef).toArray:=by
  apply Xe;simp
 rw [e1];simpa [St.L,St.of,fps] using this
theorem SW.retO {fn:Func} {Q:Exit→Act→World→Prop} {nt n t g:Nat} {base:LN} {w0:World} {xs es:List D} (hQ:∀ a w,bodyPost P fn (fun e w'=>∃ g,e= .returned (.slice (some ⟨g,0,none⟩) n n)∧w0.heap.size≤g∧(∃ t cs,Blk w' g t cs∧All (g :: base) w' es cs)∧Only [] w0 w') .ret a w→Q .ret a w)
  (j:Nat) (hr:fn.results= #[.tmp t]) (ht:σ.tm t=some (isD<|.slice (some ⟨g,0,none⟩) n n)) (hj:σ.bx[j]? =some (.c g xs)) (hl:LeAll xs es):SW P ⟨nt,base,w0,[],[]⟩ σ .ret Q:=by
 intro a w hh;refine wp_ret (hQ a w ?_);have hv:a.tmps.getD t undef= .slice (some ⟨g,0,none⟩) n n:=hh.tm _ _ ht;obtain ⟨t',cs,hb,ha⟩:=hh.bx (.c g xs) (Jc hj);have hg:g∈fps σ.bx:=yz.2 ⟨_,Jc hj,m9 rfl⟩
 have hL:∀ x∈g :: base,x∈σ.L ⟨nt,base,w0,[],[]⟩∨w.heap.size≤x:=fun x hx=>by
  rcases Jt.1 hx with rfl | hx
  ·exact .inl (mL _ hg)
  ·exact .inl (mR _ hx)
 have hgw:w0.heap.size≤g:=by
  rcases hh.nw g hg with h' | h'
  ·exact h'
  ·simp at h'
 exact bodyPost_ret (results_tmp hr a.tmps P w) hh.df ⟨g,by rw [hv],hgw,⟨t',cs,hb,hl.all<|ha.less hL⟩,hh.on⟩
theorem jK {x y:Operand} {xT yT:TypeId} {k ky:IntKind} {p r:Int} {s:Nat} (hx:σ.ev x=some (isD<|.int k p)) (hy:σ.ev y=some (isD<|.int ky (s:Int))) (h:k.wrap (p * 2 ^ (min s k.bits))=r):Rd P Γ S ⟨dst,.binOp .shl xT x y yT,ty,pos,af,gd⟩ σ (isD<|.int k r):=Yo hx hy fun _=>by
 have h0:¬((s:Int) < 0):=by omega
 simp [eqGuard,binOp,Op.shift,h0,h]
theorem jJ {x y:Operand} {xT yT:TypeId} {k ky:IntKind} {p r:Int} {s:Nat} (hx:σ.ev x=some (isD<|.int k p)) (hy:σ.ev y=some (isD<|.int ky (s:Int))) (h:p / 2 ^ (min s k.bits)=r):Rd P Γ S ⟨dst,.binOp .shr xT x y yT,ty,pos,af,gd⟩ σ (isD<|.int k r):=Yo hx hy fun _=>by
 have h0:¬((s:Int) < 0):=by omega
 have h1:p.fdiv (2 ^ (min s k.bits))=r:=by rw [Int.fdiv_eq_ediv_of_nonneg _ (by exact Int.le_of_lt<|Int.pow_pos d9)];exact h
 simp [eqGuard,binOp,Op.shift,h0,h1]
theorem zcI {x y:Operand} {xT yT:TypeId} {k:IntKind} {p q r:Int} (hx:σ.ev x=some (isD<|.int k p)) (hy:σ.ev y=some (isD<|.int k q)) (h:bits .or k p q=r):Rd P Γ S ⟨dst,.binOp .or xT x y yT,ty,pos,af,gd⟩ σ (isD<|.int k r):=Yo hx hy fun _=>by
 subst h;simp [eqGuard,binOp,go_sem]
theorem Rd.andW {x y:Operand} {xT yT:TypeId} {k:IntKind} {p q r:Int} (hx:σ.ev x=some (isD<|.int k p)) (hy:σ.ev y=some (isD<|.int k q)) (h:bits .and k p q=r):Rd P Γ S ⟨dst,.binOp .and xT x y yT,ty,pos,af,gd⟩ σ (isD<|.int k r):=Yo hx hy fun _=>by
 subst h;simp [eqGuard,binOp,go_sem]
theorem Rd.mulW {x y:Operand} {xT yT:TypeId} {k:IntKind} {p q r:Int} (hx:σ.ev x=some (isD<|.int k p)) (hy:σ.ev y=some (isD<|.int k q)) (h:k.wrap (p * q)=r):Rd P Γ S ⟨dst,.binOp .mul xT x y yT,ty,pos,af,gd⟩ σ (isD<|.int k r):=Yo hx hy fun _=>by simp [eqGuard,binOp,Op.intArith,h]
theorem Rd.quoW {x y:Operand} {xT yT:TypeId} {k:IntKind} {p q r:Int} (hx:σ.ev x=some (isD<|.int k p)) (hy:σ.ev y=some (isD<|.int k q)) (h0:q≠0) (h:k.wrap (p.tdiv q)=r):Rd P Γ S ⟨dst,.binOp .quo xT x y yT,ty,pos,af,gd⟩ σ (isD<|.int k r):=Yo hx hy fun _=>by simp [eqGuard,binOp,Op.intDiv,h0,h]
theorem Rd.remW {x y:Operand} {xT yT:TypeId} {k:IntKind} {p q r:Int} (hx:σ.ev x=some (isD<|.int k p)) (hy:σ.ev y=some (isD<|.int k q)) (h0:q≠0) (h:p.tmod q=r):Rd P Γ S ⟨dst,.binOp .rem xT x y yT,ty,pos,af,gd⟩ σ (isD<|.int k r):=Yo hx hy fun _=>by simp [eqGuard,binOp,Op.intDiv,h0,h]
theorem Y8 {z:Int} (h1:0≤z) (h2:z < 18446744073709551616):IntKind.u64.wrap z=z:=by
 simp [IntKind.wrap,IntKind.signed,IntKind.bits];omega
theorem wrap_u32 (z:Int):IntKind.u32.wrap z=z % 4294967296:=by
 simp [IntKind.wrap,IntKind.signed,IntKind.bits]
theorem zbN (z:Int):IntKind.u64.wrap z=z % 18446744073709551616:=by
 simp [IntKind.wrap,IntKind.signed,IntKind.bits]
theorem Rd.slE {x y z:Operand} {T e g o n c lo hi:Nat} {ky kz:IntKind} (hx:σ.ev x=some (isD<|.slice (some ⟨g,o,none⟩) n c)) (hy:σ.ev y=some (isD<|.int ky (lo:Int))) (hz:σ.ev z=some (isD<|.int kz (hi:Int))) (hT:Yb P T e=true) (hs:(P.info? e).map (·.size)=some 1) (h1:lo≤hi) (h2:hi≤c) (h3:lo < c):
  Rd P Γ S ⟨dst,.slice T x (some y) (some z) none,ty,pos,af,gd⟩ σ (isD<|.slice (some ⟨g,o + lo,none⟩) (hi - lo)<|c - lo):=by
 intro a w hh;have hxv:a.eval x= .slice (some ⟨g,o,none⟩) n c:=zR hh hx;have hyv:a.eval y= .int ky (lo:Int):=zR hh hy;have hzv:a.eval z= .int kz (hi:Int):=zR hh hz;refine ⟨_,I,fun w' _=> ?_⟩;obtain ⟨inf,hi',hsz⟩:=Jy.1 hs
 have e3:¬c=lo:=by omega
 simp [execOp,hxv,hyv,hzv,Instr.sliceAt,Instr.slice,Instr.sliceBounds,Instr.sliceBound,asIntOf,Jp<|yD hT,sizeOf,typeInfo,hi',hsz,Addr.add,h1,h2,e3]
theorem Rd.shS {x z:Operand} {T e hi:Nat} {xs:List Value} {kz:IntKind} (hx:σ.ev x=some (slD xs)) (hz:σ.ev z=some (isD<|.int kz (hi:Int))) (hT:Yb P T e=true) (hs:(P.info? e).map (·.size)=some 1) (h2:hi≤xs.length):
  Rd P Γ S ⟨dst,.slice T x none (some z) none,ty,pos,af,gd⟩ σ (slD<|xs.take hi):=by
 intro a w hh;obtain ⟨A,c,hxv,hc,hr,ha⟩:=zR hh hx;have hzv:a.eval z= .int kz (hi:Int):=zR hh hz
 have hl:(xs.take hi).length=hi:=by rw [JE];omega
 obtain ⟨inf,hi',hsz⟩:=Jy.1 hs
 have e1:hi≤c:=by omega
 refine ⟨.slice A hi c,⟨A,c,by rw [hl],by rw [hl];omega,hr.take hi,fun h0=>ha (by rw [hl] at h0;omega)⟩,fun w' _=> ?_⟩
 cases A with
 | none=>simp [execOp,hxv,hzv,Instr.sliceAt,Instr.slice,Instr.sliceBounds,Instr.sliceBound,asIntOf,Jp<|yD hT,sizeOf,typeInfo,hi',hsz,e1]
 | some p=>
  obtain ⟨b,o,sp⟩:=p;simp [execOp,hxv,hzv,Instr.sliceAt,Instr.slice,Instr.sliceBounds,Instr.sliceBound,asIntOf,Jp<|yD hT,sizeOf,typeInfo,hi',hsz,e1,Addr.add]
end
end
section
section
variable {P:Program}{Γ:Cx}{σ σ':St}{S:List Nat}{l:List Oper}{Q:Exit→Act→World→Prop}{tz uz:Reg.Tz}{k:Nat}{op:Op}{ty:TypeId}{pos:String}{af:Array Edge}
theorem YK {i j t:Nat} {b c:Bool} (ho:l[i]? =some ⟨some k,op,ty,pos,af,some (j,b)⟩) (hj:(l[j]?).bind (·.dst)=some t) (ht:σ.tm t=some (isD<|.bool c)) (hc:c= !b) (hn:yp Γ.nt t=true)
  (hd:yp Γ.nt k=true) (hk:SWz P Γ l Q S tz (σ.put k<|isD undef)) (hu:SWz P Γ l Q S uz σ):SWz P Γ l Q S (.n i tz uz) σ:=by
 intro a w hh
 have e:l.getD i default=⟨some k,op,ty,pos,af,some (j,b)⟩:=by rw [Jr,ho];rfl
 unfold Reg.wpG;rw [e];refine ⟨wpList_step fun K hK=> ?_,hu a w hh⟩
 rw [Yh (ops:=l.toArray) hh rfl (by simpa using hj) ht hn,Jb (by subst hc;cases b <;> simp)]
 exact hK _ _ ⟨S,Reg.Gr.refl S _,Only.refl _ _,hk _ _<|hh.put (by simpa [yp] using hd) I⟩
theorem zad {i j t:Nat} {b:Bool} (ho:l[i]? =some ⟨some k,op,ty,pos,af,some (j,b)⟩) (hj:(l[j]?).bind (·.dst)=some t) (ht:σ.tm t=some (isD undef)) (hn:yp Γ.nt t=true)
  (hd:yp Γ.nt k=true) (hk:SWz P Γ l Q S tz (σ.put k<|isD undef)) (hu:SWz P Γ l Q S uz σ):SWz P Γ l Q S (.n i tz uz) σ:=by
 intro a w hh
 have e:l.getD i default=⟨some k,op,ty,pos,af,some (j,b)⟩:=by rw [Jr,ho];rfl
 unfold Reg.wpG;rw [e];refine ⟨wpList_step fun K hK=> ?_,hu a w hh⟩;rw [jw (ops:=l.toArray) hh rfl (by simpa using hj) ht hn,Jb s9];exact hK _ _ ⟨S,Reg.Gr.refl S _,Only.refl _ _,hk _ _<|hh.put (by simpa [yp] using hd) I⟩
end
end
section
instance (f:Fn) (a b:Array Value):One (isD<|.func f a b):=⟨fun _ _ _ h=>by cases h;rfl⟩
instance:Ones (List.map isD []):=⟨fun d hd=>by simp at hd⟩
instance (v:Value) (vs:List Value) [o:One (isD v)] [os:Ones (List.map isD vs)]:Ones (List.map isD<|v :: vs):=⟨fun d hd=>by
 rcases Jt.1 (show d∈isD v :: List.map isD vs from hd) with rfl | hd
 ·exact o.h
 ·exact os.m d hd⟩
instance (ds es:List D) (o:Nat) [os:Ones ds] [ps:Ones es]:Ones (Yy ds o es):=by unfold Yy;infer_instance
instance:One (isD .nilFunc):=⟨fun _ _ _ h=>by cases h;rfl⟩
section
variable {P:Program}{Γ:Cx}{σ:St}{S:List Nat}{dst:Option Tmp}{ty:TypeId}{pos:String}{af:Array Edge}{gd:Option (Nat × Bool)}{d:D}{Q:Exit→Act→World→Prop}
theorem SW.label {n:Nat} (h:SN Γ Q σ):SW P Γ σ (.label n) Q:=fun a w hh=>wp_label (h a w hh)
theorem SW.scope {c:Code} (h:SW P Γ σ c (Exit.noGoto Q)):SW P Γ σ (.scope c) Q:=fun a w hh=>wp_scope_straight (h a w hh)
theorem zbH {n:Nat} (h:SE Γ n Q σ):SE Γ n (Exit.noGoto Q) σ:=h
theorem zdq {L:LN} {w:World}:∀ {es:List D} {vs:List Value} (cap:List Value),All L w es vs→All L w (es ++ cap.map isD) (vs ++ cap)
 | _,_,cap,h=>h.append (jr cap)
theorem YA {fn:Fn} {cp:Array Operand} (cs:List Value) (hc:σ.evs cp.toList=some (cs.map isD)):Rd P Γ S ⟨dst,.makeFunc fn #[] cp,ty,pos,af,gd⟩ σ (isD<|.func fn #[] cs.toArray):=by
 intro a w hh;have hall:=Zt hh hc
 have key:∀ {zs cs:List Value},All (σ.L Γ) w (zs.map isD) cs→cs=zs:=by
  intro zs
  induction zs with
  | nil=>intro cs h;cases cs with | nil=>rfl | cons=>exact h.elim
  | cons z zs ih=>intro cs h;cases cs with | nil=>exact h.elim | cons c cs=>rw [ih h.2,show c=z from h.1]
 have e:cp.map a.eval=cs.toArray:=by
  apply Xe;simpa using key hall
 exact ⟨_,I,fun w' _=>by simp [execOp,Instr.makeFunc,e]⟩
theorem YG {a:Act} {w:World} {x:Operand} {f:FuncId} {args:Array Operand} {aT:Array TypeId} {cap:List Value} (hen:Y1 P f) (hx:a.eval x= .func (.func f) #[] cap.toArray):
  (execOp a.eval ⟨dst,.call { callee:= .value x,args:=args,argTypes:=aT },ty,pos,af,gd⟩).run P w= .ok (.enter f (args.toList.map a.eval ++ cap).toArray) w:=by
 have h:=hen (args.toList.map a.eval ++ cap).toArray w
 have e1:(args.map a.eval) ++ cap.toArray=(args.toList.map a.eval ++ cap).toArray:=by apply Xe;simp
 simp only [execOp,resolve,hx,Deferred.ofValue,JD,JK,Jv,invoke,Array.empty_append];rw [e1];exact h
theorem j7 {x:Operand} {f:FuncId} {args:Array Operand} {aT:Array TypeId} {cap:List Value} {ds es:List D} {d:D} {k:Nat} (hcon:Con P f ds d) (hx:σ.ev x=some (isD<|.func (.func f) #[] cap.toArray)) (he:σ.evs args.toList=some es) (hl:LeAll (es ++ cap.map isD) ds) (hk:yp Γ.nt k=true):
  Ef P Γ S ⟨some k,.call { callee:= .value x,args:=args,argTypes:=aT },ty,pos,af,gd⟩ σ (fun σ'=>σ'=σ.put k d):=by
 intro a w hh K Q hK;have hall:=hl.all (zdq cap<|Zt hh he);unfold Oper.wp;rw [YG hcon.en (show a.eval x=_ from zR hh hx)];simp only [Oper.upon];refine (hcon.go (σ.L Γ) w _ hh.lt hh.gl hall).mono ?_;rintro r w' ⟨v,rfl,hd,ho⟩;exact hK _ _ _ I ((hh.keep ho).put (by simpa [yp] using hk) hd) (ho.mono s9)
theorem K5 {x:Operand} {f:FuncId} {args:Array Operand} {aT:Array TypeId} {cap:List Value} {g:Nat} {bs es ad ad':List D} {d:D} {k:Nat} (j:Nat) (hcon:ConB P f g bs es ad d) (hx:σ.ev x=some (isD<|.func (.func f) #[] cap.toArray)) (he:σ.evs args.toList=some ad') (hl:LeAll (ad' ++ cap.map isD) ad) (hj:σ.bx[j]? =some (.c g bs)) (hS:g∈S) (hk:yp Γ.nt k=true):
  Ef P Γ S ⟨some k,.call { callee:= .value x,args:=args,argTypes:=aT },ty,pos,af,gd⟩ σ (fun σ'=>σ'=(σ.set j es).put k d):=by
 intro a w hh K Q hK;have hall:=hl.all (zdq cap<|Zt hh he);unfold Oper.wp;rw [YG hcon.en (show a.eval x=_ from zR hh hx)];simp only [Oper.upon];have hgm:g∈fps σ.bx:=yz.2 ⟨_,Jc hj,m9 rfl⟩
 have hL1:∀ x∈g :: (σ.L Γ).filter (· ≠g),x∈σ.L Γ∨w.heap.size≤x:=fun x hx=>by
  rcases Jt.1 hx with rfl | hx
  ·exact .inl (mL _ hgm)
  ·exact .inl (Jw.1 hx).1
 obtain ⟨t,cs,hb,ha⟩:=hh.bx (.c g bs) (Jc hj)
 refine (hcon.go ((σ.L Γ).filter (· ≠g)) w _ (fun x hx=>hh.lt x (Jw.1 hx).1) hh.gl (hh.off g (by first | exact hgm | assumption)) s9 ⟨t,cs,hb,ha.less hL1⟩<|hall.less hL1).mono ?_
 rintro r w' ⟨v,rfl,hd,⟨t',cs',hb',ha'⟩,ho⟩
 have hL2:∀ x∈σ.L Γ,x∈g :: (σ.L Γ).filter (· ≠g)∨w'.heap.size≤x:=fun x hx=>by
  by_cases hxg:x=g
  ·exact .inl (by rw [hxg];exact mC)
  ·exact .inl (Jl _<|Jw.2 ⟨hx,by simpa using hxg⟩)
 refine hK _ _ _ I ((hh.set' hj hb' ho<|ha'.less hL2).put (by simpa [yp] using hk) ?_) (ho.mono (by intro z hz _;simp at hz;subst hz;exact hS));rw [L_set];exact d.less hd hL2
def arrT (P:Program) (T e n:Nat):Bool:=match P.underlying T with | some (.array n' e')=>n' == n && e' == e | _=>false
theorem qR {T e n:Nat} (h:arrT P T e n=true):P.underlying T=some (.array n e):=by
 unfold arrT at h
 split at h
 ·rename_i n' e' hu;rw [hu];simp at h;rw [h.1,h.2]
 ·cases h
theorem zcK {x y:Operand} {T e n:Nat} {ds:List D} {i:Int} {kd:IntKind} (sz:Nat) (hx:σ.ev x=some (Z8 ds)) (hy:σ.ev y=some (isD<|.int kd i)) (hT:arrT P T e n=true) (he:rowT P e sz=true) (h0:0≤i) (hi:i < (n:Int)):
  Rd P Γ S ⟨dst,.index T x y,ty,pos,af,gd⟩ σ (Z8<|(ds.drop<|i.toNat * sz).take sz):=by
 intro a w hh;obtain ⟨cs,hxv,ha⟩:=zR hh hx;have hyv:a.eval y= .int kd i:=zR hh hy;refine ⟨.agg ((cs.drop<|i.toNat * sz).take sz).toArray,⟨_,I,(ha.drop _).take _⟩,fun w' _=> ?_⟩;unfold rowT at he
 split at he
 ·rename_i dd hu;simp only [JL,JT] at he;obtain ⟨inf,h1,h2⟩:=Jy.1 he.2
  have hag:(isAgg e).run P w'= .ok true w':=by
   cases dd <;> simp [TypeDesc.isRow] at he <;> simp [isAgg,Jp hu]
  have ex:cs.toArray.extract (i.toNat * sz) (i.toNat * sz + sz)=((cs.drop<|i.toNat * sz).take sz).toArray:=by
   apply Xe;simp
  simp only [execOp,hxv,hyv,Instr.index,asIntOf,Jp<|qR hT,JD,JK,Jv,Jh<|And.intro h0 hi,sizeOf,typeInfo,part,hag,if_true];simp [h1,h2,ex,hag]
 ·cases he
end
end
section
def isIn (k:Nat):LN→Bool
 | []=>false
 | j :: js=>cond (Nat.beq k j) true (isIn k js)
def yQ:List Box→Nat→LN→List Box
 | [],_,_=>[]
 | b :: bs,k,js=>cond (isIn k js) (yQ bs (k + 1) js) (b :: yQ bs (k + 1) js)
theorem KF {k:Nat}:∀ {js:LN},isIn k js=true↔k∈js
 | []=>by simp [isIn]
 | j :: js=>by
  have h:=KF (k:=k) (js:=js)
  cases hb:Nat.beq k j
  ·have:k≠j:=fun e=>by subst e;rw [Nat.beq_refl] at hb;cases hb
   simp [isIn,hb,h,this]
  ·have:k=j:=Nat.eq_of_beq_eq_true hb;simp [isIn,hb,this]
theorem Z5:∀ {bs:List Box} {k:Nat} {js:LN} {b:Box},b∈yQ bs k js→∃ i,bs[i]? =some b∧k + i∉js
 | [],_,_,_,h=>by simp [yQ] at h
 | c :: bs,k,js,b,h=>by
  cases hk:isIn k js
  ·have hn:k∉js:=fun e=>by rw [KF.2 e] at hk;cases hk
   simp only [yQ,hk,cond_false] at h;rcases Jt.1 h with rfl | h
   ·exact ⟨0,I,hn⟩
   ·obtain ⟨i,h1,h2⟩:=Z5 h;exact ⟨i + 1,by simpa using h1,by rw [show k + (i + 1)=k + 1 + i by omega];exact h2⟩
  ·simp only [yQ,hk,cond_true] at h;obtain ⟨i,h1,h2⟩:=Z5 h;exact ⟨i + 1,by simpa using h1,by rw [show k + (i + 1)=k + 1 + i by omega];exact h2⟩
theorem qy:∀ {bs:List Box} {k:Nat} {js:LN},(fps bs).Nodup→(fps<|yQ bs k js).Nodup
 | [],_,_,_=>by simp [yQ,fps]
 | c :: bs,k,js,h=>by
  rw [ZJ] at h;have h2:=JH.1 h;have ih:=qy (k:=k + 1) (js:=js) h2.2.1
  cases hk:isIn k js
  ·simp only [yQ,hk,cond_false,ZJ];refine JH.2 ⟨h2.1,ih,fun x hx y hy e=> ?_⟩;obtain ⟨b,hb,hyb⟩:=yz.1 hy;obtain ⟨i,h3,_⟩:=Z5 hb;exact h2.2.2 x hx y (yz.2 ⟨b,Jc h3,hyb⟩) e
  ·simp only [yQ,hk,cond_true];exact ih
theorem ZN {bs:List Box} {js:LN} {x:Nat} (h:x∈fps (yQ bs 0 js)):x∈fps bs:=by
 obtain ⟨b,hb,hx⟩:=yz.1 h;obtain ⟨i,h3,_⟩:=Z5 hb;exact yz.2 ⟨b,Jc h3,hx⟩
theorem jE {bs:List Box} {js:LN} {pre:List Box} (hn:(fps bs).Nodup) (hs:SubBx bs js pre) {x:Nat} (h:x∈fps (yQ bs 0 js)):x∉fps pre:=fun hp=>by
 obtain ⟨b,hb,hx⟩:=yz.1 h;obtain ⟨i,h3,h4⟩:=Z5 hb;obtain ⟨b',hb',hx'⟩:=yz.1 hp;obtain ⟨j,c,hj,h5,h6⟩:=SubBx.mem hs b' hb';have:=Wx hn h3 h5 hx (by rw [h6.1];exact hx');subst this;rw [JF] at h4;exact h4 hj
def St.give (σ:St) (js:LN) (bs:List Box):St:=⟨σ.tm,yQ σ.bx 0 js ++ bs⟩
section
variable {P:Program}{Γ:Cx}{σ:St}{S:List Nat}{dst:Option Tmp}{ty:TypeId}{pos:String}{af:Array Edge}{gd:Option (Nat × Bool)}{d:D}{Q:Exit→Act→World→Prop}
theorem SubBx.fps {bs:List Box} {js:LN} {pre:List Box} (hs:SubBx bs js pre) {x:Nat} (h:x∈fps pre):x∈fps bs:=by
 obtain ⟨b',hb',hx'⟩:=yz.1 h;obtain ⟨j,c,_,h5,h6⟩:=SubBx.mem hs b' hb';exact yz.2 ⟨c,Jc h5,by rw [h6.1];exact hx'⟩
theorem Holds.give {a:Act} {w w':World} (h:Holds Γ σ a w) {js:LN} {pre post:List Box} (hs:SubBx σ.bx js pre) (ho:Only (fps pre) w w')
  (hR:∀ b∈post,b.R (fps post ++ (σ.L Γ).filter (· ∉fps pre)) w') (hnd:(fps post).Nodup) (hnw:∀ g∈fps post,g∈fps pre∨w.heap.size≤g):
  Holds Γ (σ.give js post) a w'∧∀ x∈(σ.give js post).L Γ,x∈fps post ++ (σ.L Γ).filter (· ∉fps pre)∨w'.heap.size≤x:=by
 have hL:∀ x∈(σ.give js post).L Γ,x∈fps post ++ (σ.L Γ).filter (· ∉fps pre)∨w'.heap.size≤x:=by
  intro x hx;simp only [St.give,St.L,qM,Jf] at hx;rcases hx with (hx | hx) | hx
  ·exact .inl (mR _<|Jw.2 ⟨mL _<|ZN hx,by simpa using jE h.nd hs hx⟩)
  ·exact .inl (mL _ hx)
  ·refine .inl (mR _<|Jw.2 ⟨mR _ hx,?_⟩);simp only [Jz];intro hp;have h1:=h.bs x hx;rcases h.nw x (hs.fps hp) with h2 | h2
   ·omega
   ·exact h.dj.1 x h2 hx
 refine ⟨h.swap ho (fun x hx=>hs.fps hx) (fun b hb=> ?_) (fun g hg=> ?_) ?_,hL⟩
 ·rcases Jf.1 hb with hb | hb
  ·obtain ⟨i,h1,_⟩:=Z5 hb;exact .inl ⟨Jc h1,fun x hx hm=>jE h.nd hs (yz.2 ⟨b,hb,hm⟩) hx⟩
  ·exact .inr (Box.less (hR b hb) hL)
 ·rw [qM] at hg;rcases Jf.1 hg with hg | hg
  ·exact .inl (ZN hg)
  ·rcases hnw g hg with h1 | h1
   ·exact .inl (hs.fps h1)
   ·exact .inr h1
 ·rw [qM];refine JH.2 ⟨qy h.nd,hnd,fun x hx y hy e=> ?_⟩;subst e;rcases hnw x hy with h1 | h1
  ·exact jE h.nd hs hx h1
  ·have:=h.lt x (mL _<|ZN hx);omega
theorem upon_R {f:FuncId} {vs:List Value} {pre:List Box} {ad:List D} {ι:Type} {post:ι→List Box} {d:ι→D} {a:Act} {w:World} (hcon:ConR P f pre ad post d) (hh:Holds Γ σ a w) {js:LN} (hjs:js.Nodup) (hs:SubBx σ.bx js pre) (hall:All (σ.L Γ) w ad vs):
  Calls P f vs.toArray w fun e w'=>∃ i v,e= .returned v∧Holds Γ (σ.give js<|post i) a w'∧(d i).R ((σ.give js<|post i).L Γ) w' v∧Only (fps pre) w w':=by
 have hL1:∀ x∈fps pre ++ (σ.L Γ).filter (· ∉fps pre),x∈σ.L Γ∨w.heap.size≤x:=fun x hx=>by
  rcases Jf.1 hx with hx | hx
  ·exact .inl (mL _<|hs.fps hx)
  ·exact .inl (Jw.1 hx).1
 refine (hcon.go ((σ.L Γ).filter (· ∉fps pre)) w vs (fun x hx=>hh.lt x (Jw.1 hx).1) hh.gl (fun g hg=>hh.off g<|hs.fps hg) (fun g hg hm=>by have:=(Jw.1 hm).2;simp at this;exact this hg) (YV hh.nd hjs hs) (fun b' hb'=> ?_)<|hall.less hL1).mono ?_
 ·obtain ⟨j,c,_,h5,h6⟩:=SubBx.mem hs b' hb';exact h6.2 _ _ (Box.less (hh.bx c<|Jc h5) hL1)
 ·rintro r w' ⟨i,v,rfl,hd,hR,hnd,hnw,ho⟩;obtain ⟨h1,h2⟩:=hh.give hs ho hR hnd hnw;exact ⟨i,v,I,h1,(d i).less hd h2,ho⟩
theorem yh {f:FuncId} {args:Array Operand} {aT:Array TypeId} {pre:List Box} {ad es:List D} {ι:Type} {post:ι→List Box} {d:ι→D} {k:Nat} (js:LN) (hcon:ConR P f pre ad post d) (he:σ.evs args.toList=some es) (hl:LeAll es ad) (hjs:js.Nodup) (hs:SubBx σ.bx js pre) (hS:∀ g∈fps pre,g∈S) (hk:yp Γ.nt k=true):
  Ef P Γ S ⟨some k,.call { callee:= .value<|.func f,args:=args,argTypes:=aT },ty,pos,af,gd⟩ σ (fun σ'=>∃ i,σ'=(σ.give js<|post i).put k (d i)):=by
 intro a w hh K Q hK;have hall:=hl.all (Zt hh he);unfold Oper.wp;rw [YG (cap:=[]) hcon.en (show a.eval (.func f)= .func (.func f) #[] ([]:List Value).toArray from rfl),JS];simp only [Oper.upon];refine (upon_R hcon hh hjs hs hall).mono ?_;rintro r w' ⟨i,v,rfl,h1,h2,ho⟩;exact hK _ _ _ ⟨i,I⟩ (h1.put (by simpa [yp] using hk) h2) (ho.mono (fun x hx _=>hS x hx))
theorem KZ {x:Operand} {f:FuncId} {args:Array Operand} {aT:Array TypeId} {cap:List Value} {pre:List Box} {ad es:List D} {ι:Type} {post:ι→List Box} {d:ι→D} {k:Nat} (js:LN) (hcon:ConR P f pre ad post d) (hx:σ.ev x=some (isD<|.func (.func f) #[] cap.toArray)) (he:σ.evs args.toList=some es) (hl:LeAll (es ++ cap.map isD) ad) (hjs:js.Nodup) (hs:SubBx σ.bx js pre) (hS:∀ g∈fps pre,g∈S) (hk:yp Γ.nt k=true):
  Ef P Γ S ⟨some k,.call { callee:= .value x,args:=args,argTypes:=aT },ty,pos,af,gd⟩ σ (fun σ'=>∃ i,σ'=(σ.give js<|post i).put k (d i)):=by
 intro a w hh K Q hK;have hall:=hl.all (zdq cap<|Zt hh he);unfold Oper.wp;rw [YG hcon.en (show a.eval x=_ from zR hh hx)];simp only [Oper.upon];refine (upon_R hcon hh hjs hs hall).mono ?_;rintro r w' ⟨i,v,rfl,h1,h2,ho⟩;exact hK _ _ _ ⟨i,I⟩ (h1.put (by simpa [yp] using hk) h2) (ho.mono (fun x hx _=>hS x hx))
def Opens (pre:List Box) (T:List Box→Prop):Prop:=∀ L w,(fps pre).Nodup→(∀ b∈pre,b.R (fps pre ++ L) w)→∃ post,T post∧(∀ b∈post,b.R (fps post ++ L) w)∧(fps post).Nodup∧∀ g∈fps post,g∈fps pre
theorem Holds.opens {a:Act} {w:World} (h:Holds Γ σ a w) {js:LN} {pre:List Box} {T:List Box→Prop} (hjs:js.Nodup) (hs:SubBx σ.bx js pre) (ho:Opens pre T):∃ post,T post∧Holds Γ (σ.give js post) a w:=by
 have hL1:∀ x∈fps pre ++ (σ.L Γ).filter (· ∉fps pre),x∈σ.L Γ∨w.heap.size≤x:=fun x hx=>by
  rcases Jf.1 hx with hx | hx
  ·exact .inl (mL _<|hs.fps hx)
  ·exact .inl (Jw.1 hx).1
 obtain ⟨post,h1,h2,h3,h4⟩:=ho ((σ.L Γ).filter (· ∉fps pre)) w (YV h.nd hjs hs) (fun b' hb'=>by
  obtain ⟨j,c,_,h5,h6⟩:=SubBx.mem hs b' hb'
  exact h6.2 _ _<|Box.less (h.bx c<|Jc h5) hL1)
 exact ⟨post,h1,(h.give hs (Only.refl _ w) h2 h3 (fun g hg=> .inl<|h4 g hg)).1⟩
theorem SW.opens {c:Code} (js:LN) {pre:List Box} {T:List Box→Prop} (hjs:js.Nodup) (hs:SubBx σ.bx js pre) (ho:Opens pre T) (h:∀ post,T post→SW P Γ (σ.give js post) c Q):SW P Γ σ c Q:=fun a w hh=>by
 obtain ⟨post,h1,h2⟩:=hh.opens hjs hs ho;exact h post h1 a w h2
end
end
section
def Bn (es:Array MapEntry) (ck:Nat):Prop:=(∀ x∈es.toList,x.born < ck)∧(es.toList.map (·.born)).Nodup
theorem bn_nil (ck:Nat):Bn #[] ck:=⟨by simp,by simp⟩
theorem bn_push {es:Array MapEntry} {ck:Nat} {e:MapEntry} (h:Bn es ck) (he:e.born=ck):Bn (es.push e) (ck + 1):=by
 refine ⟨fun x hx=> ?_,?_⟩
 ·simp only [Array.toList_push,Jf,Ja] at hx;rcases hx with hx | rfl
  ·exact Nat.lt_succ_of_lt (h.1 x hx)
  ·omega
 ·simp only [Array.toList_push,XG,JU,XC];refine JH.2 ⟨h.2,by simp,fun a ha b hb=> ?_⟩;obtain ⟨x,hx,rfl⟩:=JI.1 ha;have:=h.1 x hx;rw [Ja.1 hb];omega
def MapAt (w:World) (M:Option Nat) (es:Array MapEntry) (F:LN):Prop:=(M=none∧es= #[]∧F=[])∨∃ g ck,M=some g∧w.heap[g]? =some (.map es ck)∧F=[g]∧Bn es ck
theorem MapAt.lt {w:World} {M:Option Nat} {es:Array MapEntry} {F:LN} (h:MapAt w M es F):∀ g∈F,g < w.heap.size:=by
 rcases h with ⟨_,_,hF⟩ | ⟨g,ck,_,hh,hF,_⟩
 ·subst hF;simp
 ·subst hF;intro x hx;rw [Ja.1 hx];exact (Jn.1 hh).1
theorem MapAt.keep {w w':World} {S:LN} {M:Option Nat} {es:Array MapEntry} {F:LN} (h:MapAt w M es F) (ho:Only S w w') (hn:∀ x∈S,x∉F):MapAt w' M es F:=by
 rcases h with h | ⟨g,ck,hM,hh,hF,hbn⟩
 ·exact .inl h
 ·subst hF;exact .inr ⟨g,ck,hM,(ho.block g (Jn.1 hh).1 (fun hm=>hn g hm<|m9 I)).trans hh,I,hbn⟩
def mapR (M:Option Nat) {κ:Type} (enc:κ→Value) (ks:List κ) (ds:List D):Res where
 R L F w:=∃ es,MapAt w M es F∧es.toList.map (·.key)=ks.map enc∧All L w ds (es.toList.map (·.val))
 lt:=fun ⟨es,hm,_⟩=>hm.lt
 keep:=fun ⟨es,hm,hk,ha⟩ ho hS hn=>⟨es,hm.keep ho hn,hk,ha.keep ho hS⟩
 less:=fun ⟨es,hm,hk,ha⟩ hL=>⟨es,hm,hk,ha.less hL⟩
structure KeyOk (P:Program) (kt:TypeId) {κ:Type} [DecidableEq κ] (enc:κ→Value) (k:κ) (ks:List κ):Prop where
 chk:∀ e w,(Instr.checkKey e 10000 kt<|enc k).run P w= .ok () w
 find:∀ (w:World) (es:List MapEntry),es.map (·.key)=ks.map enc→(Instr.findKey kt (enc k) es).run P w= .ok ((ks.idxOf? k).bind fun i=>(es[i]?).map fun e=>(i,e.val)) w
 bits:Instr.sameBits 10000 (enc k) (enc k)=true
def mapT (P:Program) (T k e:Nat):Bool:=match P.underlying T with | some (.map k' e')=>k' == k && e' == e | _=>false
theorem jA {P:Program} {T k e:Nat} (h:mapT P T k e=true):P.underlying T=some (.map k e):=by
 unfold mapT at h
 split at h
 ·rename_i k' e' hu;rw [hu];simp at h;rw [h.1,h.2]
 ·cases h
section
variable {κ:Type}{enc:κ→Value}{P:Program}{Γ:Cx}{σ:St}{S:List Nat}{dst:Option Tmp}{ty:TypeId}{pos:String}{af:Array Edge}{gd:Option (Nat × Bool)}{d:D}
theorem Holds.resAt {a:Act} {w:World} (hh:Holds Γ σ a w) {j:Nat} {F:LN} {R:Res} (hj:σ.bx[j]? =some (.r F R)):R.R (σ.L Γ) F w:=hh.bx (.r F R) (Jc hj)
variable [DecidableEq κ]
theorem zeG {T kt et:Nat} {M:Option Nat} {F:LN} {es:Array MapEntry} {k:κ} {ks:List κ} {w:World} (hT:mapT P T kt et=true) (hm:MapAt w M es F) (hk:es.toList.map (·.key)=ks.map enc) (hok:KeyOk P kt enc k ks) (ok:Bool) {i:Nat} (hi:ks.idxOf? k=some i) {e:MapEntry} (he:es.toList[i]? =some e):
  (Instr.lookup T (.map M) (enc k) ok).run P w= .ok (if ok then .tuple #[e.val,.bool true] else e.val) w:=by
 rcases hm with ⟨rfl,rfl,_⟩ | ⟨g,ck,rfl,hg,_⟩
 ·simp at he
 ·have h1:(getObj g).run P w= .ok (.map es ck) w:=by simp [getObj,Sem.run,hg]
  have h2:=hok.find w es.toList hk;rw [hi] at h2;simp only [Option.bind_some,he,Option.map_some] at h2;simp [Instr.lookup,Jp<|jA hT,h1,hok.chk,h2]
theorem zbg {T kt et:Nat} {M:Option Nat} {F:LN} {es:Array MapEntry} {k:κ} {z:Value} {ks:List κ} {w:World} (hT:mapT P T kt et=true) (hz:(P.info? et).bind (·.zero)=some z) (hm:MapAt w M es F) (hk:es.toList.map (·.key)=ks.map enc) (hok:KeyOk P kt enc k ks) (ok:Bool) (hi:ks.idxOf? k=none):
  (Instr.lookup T (.map M) (enc k) ok).run P w= .ok (if ok then .tuple #[z,.bool false] else z) w:=by
 obtain ⟨inf,h3,h4⟩:=Option.bind_eq_some_iff.1 hz;have h2:=hok.find w es.toList hk;rw [hi] at h2;simp only [Option.bind_none] at h2;rcases hm with ⟨rfl,rfl,_⟩ | ⟨g,ck,rfl,hg,_⟩
 ·simp at h2;simp [Instr.lookup,Jp<|jA hT,hok.chk,h2,zeroValue,typeInfo,h3,h4]
 ·have h1:(getObj g).run P w= .ok (.map es ck) w:=by simp [getObj,Sem.run,hg]
  simp [Instr.lookup,Jp<|jA hT,h1,hok.chk,h2,zeroValue,typeInfo,h3,h4]
theorem Wr {w:World} {g:Nat} {o:Obj}:Only [g] w { w with heap:=w.heap.setIfInBounds g o }:=by
 refine ⟨I,I,I,by simp,fun k hk hn=> ?_⟩;have:¬g=k:=fun e=>hn (by rw [e];exact m9 rfl);simp [Xt,this]
theorem all_snoc {L:LN} {w:World} {ds:List D} {cs:List Value} {d:D} {v:Value} (h:All L w ds cs) (hd:d.R L w v):All L w (ds ++ [d]) (cs ++ [v]):=h.append (All.one hd)
theorem Wh {w:World} {g ck:Nat} {es:Array MapEntry} (o:Obj) (hg:w.heap[g]? =some (.map es ck)):(setObj g o).run P w= .ok () { w with heap:=w.heap.setIfInBounds g o }:=by
 simp [setObj,Sem.run,hg]
end
end
section
def VS (e sz:Nat) (A:Option Addr) (n c:Nat) (ds:List D):Res where
 R L F w:=∃ xs,All L w ds xs∧w.ownsRow 0 e sz (.slice A n c) n xs∧F=(Value.slice A n c).ownBlock.toList
 lt:=fun ⟨xs,ha,ho,hF⟩ x hx=>by
  subst hF;rcases ho.2 with ⟨h,_⟩ | ⟨g,cap,cur,h,_,hh,_⟩
  ·injection h with h1 h2 h3;subst h1;simp [Value.ownBlock] at hx
  ·injection h with h1 h2 h3;subst h1;simp [Value.ownBlock] at hx;rw [hx];exact (Jn.1 hh).1
 keep:=fun ⟨xs,ha,ho,hF⟩ hO hS hn=>by
  refine ⟨xs,ha.keep hO hS,⟨ho.1,?_⟩,hF⟩;rcases ho.2 with h | ⟨g,cap,cur,h,h2,hh,h3⟩
  ·exact .inl h
  ·refine .inr ⟨g,cap,cur,h,h2,(hO.block g (Jn.1 hh).1 (fun hm=>hn g hm ?_)).trans hh,h3⟩;injection h with h1;rw [hF,h1];simp [Value.ownBlock]
 less:=fun ⟨xs,ha,ho,hF⟩ hL=>⟨xs,ha.less hL,ho,hF⟩
theorem le_sl_rw {xs:List Value}:Le (slD xs) (rwD xs.length<|xs.map isD):=fun L w v ⟨A,c,hv,hc,hr,ha⟩=>⟨A,c,hv,hc,fun h0=>by
 rw [JO] at h0;obtain ⟨g,o,e,hg,hcell⟩:=hr h0
 exact ⟨g,o,e,hg,ha h0 _ e,xs,jr xs,hcell⟩⟩
theorem le_rw_sl {xs:List Value}:Le (rwD xs.length<|xs.map isD) (slD xs):=fun L w v ⟨A,c,hv,hc,ha⟩=>⟨A,c,hv,hc,fun h0=>by
 obtain ⟨g,o,e,hg,hn,cs,h1,h2⟩:=ha (by rw [JO];exact h0);rw [WU h1] at h2
 exact ⟨g,o,e,hg,h2⟩,fun h0 p hp=>by
 obtain ⟨g,o,e,hg,hn,_⟩:=ha (by rw [JO];exact h0);rw [e] at hp;injection hp with hp;subst hp
 exact hn⟩
section
variable {P:Program}{Γ:Cx}{σ:St}{S:List Nat}{dst:Option Tmp}{ty:TypeId}{pos:String}{af:Array Edge}{gd:Option (Nat × Bool)}{d:D}{Q:Exit→Act→World→Prop}
theorem vec_nil (e sz:Nat) {a:Act} {w:World} (h:Holds Γ σ a w):Holds Γ ⟨σ.tm,σ.bx ++ [.r []<|VS e sz none 0 0 []]⟩ a w:=
 h.more (Only.refl [] w) (b:= .r []<|VS e sz none 0 0 []) ⟨[],trivial,⟨by simp,.inl ⟨rfl,rfl⟩⟩,rfl⟩ (by simp [Box.fp]) (by simp [Box.fp])
def elT (P:Program) (e sz bytes:Nat):Bool:=match P.info? e with | some i=>(i.size == sz) && ((i.bytes == bytes) && (match i.zero with | some z=>z.cells.size == sz | none=>false)) | none=>false
theorem KL {e sz bytes:Nat} (h:elT P e sz bytes=true):∃ i z,P.info? e=some i∧i.size=sz∧i.bytes=bytes∧i.zero=some z∧z.cells.size=sz:=by
 unfold elT at h
 split at h
 ·rename_i i hi;simp only [JL,JT] at h;obtain ⟨h1,h3,h2⟩:=h
  split at h2
  ·rename_i z hz;exact ⟨i,z,hi,h1,h3,hz,by simpa using h2⟩
  ·cases h2
 ·cases h
