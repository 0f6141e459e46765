/- WALKING CODE BY WHAT IS KNOWN: strings, arrays of one's own, slices of one element. Over any program. WALKING CODE BY WHAT IS KNOWN: slices of structs -/
import Derived.Test.YtgokpcnabgacnaaGreatDoorGZAD
import Derived.Lib.Strings
import Derived.Lib.IndexBytes
import Derived.Scope
import Derived.Laws.StructEq
import Derived.Laws.Cover3
namespace Go.Proofs.YtgokpcnabgacnaaGreatDoor
open Go.RowKit
namespace Sx
section
section
variable {P:Program}{Γ:Cx}{σ:St}{S:List Nat}{dst:Option Tmp}{ty:TypeId}{pos:String}{af:Array Edge}{gd:Option (Nat × Bool)}{d:D}
theorem Rd.quoN {x y:Operand} {xT yT:TypeId} {p q:Int} (hx:σ.ev x=some (isD<|.int .i64 p)) (hy:σ.ev y=some (isD<|.int .i64 q)) (h:0≤p∧p≤9223372036854775807∧0 < q):Rd P Γ S ⟨dst,.binOp .quo xT x y yT,ty,pos,af,gd⟩ σ (isD<|.int .i64<|p / q):=Ym hx hy fun _=>by
 have h1:¬q=0:=by omega
 have h2:p.tdiv q=p / q:=Int.tdiv_eq_ediv_of_nonneg h.1;have h3:0≤p / q:=Int.ediv_nonneg h.1 o9;have h4:p / q≤p:=Int.ediv_le_self _ h.1;have h5:IntKind.i64.wrap (p / q)=p / q:=zcO o9 o9;simp [eqGuard,binOp,Op.intDiv,h1,h2,h5]
theorem Rd.remN {x y:Operand} {xT yT:TypeId} {p q:Int} (hx:σ.ev x=some (isD<|.int .i64 p)) (hy:σ.ev y=some (isD<|.int .i64 q)) (h:0≤p∧0 < q):Rd P Γ S ⟨dst,.binOp .rem xT x y yT,ty,pos,af,gd⟩ σ (isD<|.int .i64<|p % q):=Ym hx hy fun _=>by
 have h1:¬q=0:=by omega
 have h2:p.tmod q=p % q:=Int.tmod_eq_emod_of_nonneg h.1;simp [eqGuard,binOp,Op.intDiv,h1,h2]
theorem zfY {x y:Operand} {xT yT:TypeId} {k:IntKind} {p q r:Int} (hx:σ.ev x=some (isD<|.int k p)) (hy:σ.ev y=some (isD<|.int k q)) (h:k.wrap (p + q)=r):Rd P Γ S ⟨dst,.binOp .add xT x y yT,ty,pos,af,gd⟩ σ (isD<|.int k r):=Ym hx hy fun _=>by simp [eqGuard,binOp,Op.intArith,h]
theorem ZU {x:Operand} {sT dT:TypeId} {kd ks:IntKind} {p r:Int} (kb:IntKind) (hx:σ.ev x=some (isD<|.int ks p)) (hs:zhY P sT kb=true) (hd:zhY P dT kd=true) (h:kd.wrap p=r):Rd P Γ S ⟨dst,.convert sT dT x,ty,pos,af,gd⟩ σ (isD<|.int kd r):=by
 subst h;exact Wl kb hx hs hd
theorem wrap_u8 {z:Int} (h1:0≤z) (h2:z < 256):IntKind.u8.wrap z=z:=by
 simp [IntKind.wrap,IntKind.signed,IntKind.bits];omega
theorem str_get (b:LB) (i:Nat):(ByteArray.mk b.toArray)[i]? =b[i]? :=by
 by_cases h:i < b.length
 ·have h':i < (ByteArray.mk b.toArray).size:=by simpa [ByteArray.size] using h
  rw [Je h];simp only [getElem?_pos (ByteArray.mk b.toArray) i h']
  rfl
 ·rw [JM o9]
  have h':¬i < (ByteArray.mk b.toArray).size:=by simpa [ByteArray.size] using h
  simp only [getElem?_neg (ByteArray.mk b.toArray) i h']
theorem jl {x y:Operand} {T:TypeId} {b:LB} {i:Int} {c:UInt8} {kd:IntKind} (hx:σ.ev x=some (isD<|.string ⟨b.toArray⟩)) (hy:σ.ev y=some (isD<|.int kd i)) (hT:jA P T=true) (h0:0≤i) (hv:b[i.toNat]? =some c):
  Rd P Γ S ⟨dst,.index T x y,ty,pos,af,gd⟩ σ (isD<|.int .u8 (c.toNat:Int)):=by
 intro a w hh;have hxv:a.eval x= .string ⟨b.toArray⟩:=zT hh hx;have hyv:a.eval y= .int kd i:=zT hh hy;refine ⟨_,V,fun w' _=> ?_⟩;simp only [execOp,hxv,hyv,Instr.index,asIntOf,JD,JK,Jv,Jp<|YA hT,Jh h0,str_get,hv]
theorem zcR (b:LB):(ByteArray.mk b.toArray).size=b.length:=by simp [ByteArray.size]
theorem Rd.sadd {x y:Operand} {xT yT:TypeId} {p q:LB} (hx:σ.ev x=some (isD<|.string ⟨p.toArray⟩)) (hy:σ.ev y=some (isD<|.string ⟨q.toArray⟩)) (h:p.length + q.length≤9223372036854775807):Rd P Γ S ⟨dst,.binOp .add xT x y yT,ty,pos,af,gd⟩ σ (isD<|.string ⟨(p ++ q).toArray⟩):=Ym hx hy fun _=>by
 have e:(ByteArray.mk p.toArray) ++ (ByteArray.mk q.toArray)=⟨(p ++ q).toArray⟩:=by
  have h1:∀ (s t:ByteArray),s.data.toList=t.data.toList→s=t:=by
   intro s t h;obtain ⟨⟨s⟩⟩:=s;obtain ⟨⟨t⟩⟩:=t;simp at h;rw [h]
  apply h1;simp
 have h2:¬(((p.length + q.length:Nat):Int) > IntKind.i64.max):=by
  have:IntKind.i64.max=9223372036854775807:=by decide
  rw [this];omega
 simp only [eqGuard,binOp,Op.stringOp,zcR];rw [Jb h2,e]
 rfl
theorem Kr {x:Operand} {T:Nat} {b:LB} (hx:σ.ev x=some (isD<|.string ⟨b.toArray⟩)) (hT:jA P T=true):Rd P Γ S ⟨dst,.call { callee:= .builtin .len,args:= #[x],argTypes:= #[T] },ty,pos,af,gd⟩ σ (isD<|.int .i64 (b.length:Int)):=by
 have h:=Rd.lens (P:=P) (Γ:=Γ) (S:=S) (dst:=dst) (ty:=ty) (pos:=pos) (af:=af) (gd:=gd) hx hT;rw [zcR] at h;exact h
def elemT (P:Program) (e:Nat):Bool:=match P.info? e with | some i=>(i.size == 1) && (match i.zero with | some z=>z.cells.size == 1 | none=>false) | none=>false
theorem zhc {e:Nat} (h:elemT P e=true):∃ i z,P.info? e=some i∧i.size=1∧i.zero=some z∧z.cells.size=1:=by
 unfold elemT at h
 split at h
 ·rename_i i hi;simp only [JL,JT] at h;obtain ⟨h1,h2⟩:=h
  split at h2
  ·rename_i z hz;exact ⟨i,z,hi,h1,hz,by simpa using h2⟩
  ·cases h2
 ·cases h
theorem zdw {x:Operand} {T e k:Nat} {v:Value} (he:σ.ev x=some (isD v)) (hv:v.oneCell'=true) (hT:ZS P T e=true) (hE:elemT P e=true) (hk:yE Γ.nt k=true):
  Ef P Γ S ⟨some k,.buildSlice T 1 #[(0,x)],ty,pos,af,gd⟩ σ (fun σ'=>σ'=σ.put k (slD [v])):=by
 refine Ef.lit (parts:=[(0,x)]) (xs:=[v]) (e:=e) (by simp [St.evs,he]) hk fun w=> ?_;obtain ⟨i,z,h1,h2,h3,h4⟩:=zhc hE;have hc:=Zg hv;simp [Instr.buildSlice,Jp<|yo hT,sizeOf,typeInfo,h1,h2,zeroValue,h3,Instr.fill,hc,newRow];have hr:Array.range 1= #[0]:=rfl;simp [hr]
theorem Ef.make {x y:Operand} {T e k n:Nat} {z:Value} {li ci:Int} (bytes:Nat) (hx:σ.ev x=some (isD<|.int .i64 li)) (hy:σ.ev y=some (isD<|.int .i64 ci)) (hT:ZS P T e=true)
  (hinfo:(P.info? e).map (fun i=>(i.zero,i.size,i.bytes))=some (some z,1,bytes)) (hzc:z.cells= #[z]) (hl:li=(n:Int)) (hc:ci=(n:Int)) (hn:n≤1099511627776) (hb:bytes≤128) (hk:yE Γ.nt k=true):
  Ef P Γ S ⟨some k,.makeSlice T x y,ty,pos,af,gd⟩ σ (fun σ'=>∃ g,σ'=(σ.mk' g<|(List.replicate n z).map isD).put k (isD<|.slice (some ⟨g,0,none⟩) n n)):=by
 intro a w hh K Q hK;have hxv:a.eval x= .int .i64 li:=zT hh hx;have hyv:a.eval y= .int .i64 ci:=zT hh hy
 cases hI:P.info? e with
 | none=>rw [hI] at hinfo;cases hinfo
 | some i=>
  rw [hI] at hinfo;injection hinfo with hinfo;injection hinfo with h1 h2;injection h2 with h2 h3;have hbc:=Xx hb hn
  have hbI:(i.bytes:Int) * (n:Int)≤281474976710656:=by
   rw [h3]
   have h4:((bytes * n:Nat):Int)≤281474976710656:=by omega
   rw [Int.natCast_mul] at h4;exact h4
  have hrun:=run_make (P:=P) w T e i z (yo hT) hI h1 .i64 .i64 (n:Int) (n:Int) o9 o9 hbI o9
  have hcs:madeCells z.cells ((n:Int).toNat * i.size)=(List.replicate n z).toArray:=by
   rw [J7,h2,Nat.mul_one,hzc,← j9]
  rw [hcs] at hrun;have h5:=(hh.box (t:=e)<|qN<|List.replicate n z).put (i:=k) (by simpa [yE] using hk) (d:=isD<|.slice (some ⟨w.heap.size,0,none⟩) n n) (v:= .slice (some ⟨w.heap.size,0,none⟩) n n) rfl;unfold Oper.wp execOp;simp only [hxv,hyv,hl,hc,JD,hrun,Jv,JK,J7];exact hK _ _ _ ⟨_,V⟩ h5 ((Only.refl S w).alloc _)
theorem zfX {x y:Operand} {T e g o n c:Nat} {i:Int} {kd:IntKind} (hx:σ.ev x=some (isD<|.slice (some ⟨g,o,none⟩) n c)) (hy:σ.ev y=some (isD<|.int kd i)) (hT:ZS P T e=true) (hs:(P.info? e).map (·.size)=some 1) (h0:0≤i) (hi:i < (n:Int)):
  Rd P Γ S ⟨dst,.indexAddr T x y,ty,pos,af,gd⟩ σ (isD<|.pointer<|some ⟨g,o + i.toNat,none⟩):=by
 intro a w hh;have hxv:a.eval x= .slice (some ⟨g,o,none⟩) n c:=zT hh hx;have hyv:a.eval y= .int kd i:=zT hh hy;refine ⟨_,V,fun w' _=> ?_⟩;obtain ⟨inf,hi',hsz⟩:=Jy.1 hs;simp [execOp,hxv,hyv,Instr.indexAt,asIntOf,Jp<|yo hT,sizeOf,typeInfo,hi',hsz,Addr.add,h0,hi]
theorem Rd.loadE {x:Operand} {T g o:Nat} (j:Nat) {ds:List D} (hx:σ.ev x=some (isD<|.pointer<|some ⟨g,o,none⟩)) (hj:σ.bx[j]? =some (.c g ds)) (hd:ds[o]? =some d) (hT:VO P T=true) (hS:Ap σ j S):Rd P Γ S ⟨dst,.load T x,ty,pos,af,gd⟩ σ d:=zg j hx hj hd hT hS
theorem zbE {x y:Operand} {T g o:Nat} (j:Nat) {ds:List D} [One d] (hx:σ.ev x=some (isD<|.pointer<|some ⟨g,o,none⟩)) (hy:σ.ev y=some d) (hj:σ.bx[j]? =some (.c g ds)) (hT:zbL P T 1=true) (hfit:o < ds.length) (hS:g∈S):
  Ef P Γ S ⟨none,.store T x y,ty,pos,af,gd⟩ σ (fun σ'=>σ'=σ.set j (ds.set o d)):=zR j hx hy hj hT (by simpa using hfit) hS
theorem Y7 {x:Operand} {T e n c:Nat} {A:Option Addr} (hx:σ.ev x=some (isD<|.slice A n c)) (hT:ZS P T e=true):Rd P Γ S ⟨dst,.call { callee:= .builtin .len,args:= #[x],argTypes:= #[T] },ty,pos,af,gd⟩ σ (isD<|.int .i64 (n:Int)):=by
 intro a w hh;have hv:a.eval x= .slice A n c:=zT hh hx;refine ⟨_,V,fun w' _=> ?_⟩;simp [execOp,resolve,invoke,builtin,hv,Builtin.len_,Jp<|yo hT,goInt]
theorem zd7:∀ {bs:List Box} {j:Nat} {b:Box},bs[j]? =some b→(fps bs).Nodup→(fps<|bs.eraseIdx j).Nodup∧(∀ x∈fps (bs.eraseIdx j),x∈fps bs)∧(∀ x∈b.fp,x∉fps (bs.eraseIdx j))
 | [],_,_,h,_=>by simp at h
 | c :: bs,0,b,h,hn=>by
  simp at h;subst h;rw [Z2] at hn;have h2:=JH.1 hn;exact ⟨h2.2.1,fun x hx=>mR _ hx,fun x hx hm=>h2.2.2 x hx x hm V⟩
 | c :: bs,j + 1,b,h,hn=>by
  simp at h;rw [Z2] at hn;have h2:=JH.1 hn;obtain ⟨k1,k2,k3⟩:=zd7 h h2.2.1;rw [List.eraseIdx_cons_succ,Z2];refine ⟨JH.2 ⟨h2.1,k1,fun x hx y hy e=>h2.2.2 x hx y (k2 y hy) e⟩,fun x hx=> ?_,fun x hx hm=> ?_⟩
  ·rcases Jf.1 hx with hx | hx
   ·exact mL _ hx
   ·exact mR _ (k2 x hx)
  ·rcases Jf.1 hm with hm | hm
   ·exact h2.2.2 x hm x (yD.2 ⟨b,Jc h,hx⟩) V
   ·exact k3 x hx hm
theorem jj {L:LN} {w:World}:∀ {zs cs:List Value},All L w (zs.map isD) cs→cs=zs
 | [],[],_=>rfl
 | [],_ :: _,h=>h.elim
 | _ :: _,[],h=>h.elim
 | z :: zs,c :: cs,h=>by rw [jj h.2,show c=z from h.1]
theorem Holds.freeze {a:Act} {w:World} (h:Holds Γ σ a w) {i j g c:Nat} {xs:List Value} (hi:σ.tm i=some (isD<|.slice (some ⟨g,0,none⟩) xs.length c)) (hc:xs.length≤c) (hj:σ.bx[j]? =some (.c g<|xs.map isD)):Holds Γ ⟨fun k=>cond (Nat.beq k i) (some<|slD xs)<|σ.tm k,σ.bx.eraseIdx j⟩ a w:=by
 obtain ⟨k1,k2,k3⟩:=zd7 hj h.nd;have h1:Holds Γ ⟨σ.tm,σ.bx.eraseIdx j⟩ a w:=h.swap (Only.refl [] w) s9 (fun b hb=> .inl ⟨List.mem_of_mem_eraseIdx hb,by simp⟩) (fun x hx=> .inl<|k2 x hx) k1;have hg:g∈fps σ.bx:=yD.2 ⟨_,Jc hj,m9 rfl⟩;obtain ⟨t,cs,hb,ha⟩:=h.boxAt hj;have hcs:=jj ha;subst hcs;refine ⟨h1.df,h1.sz,fun k d hk=> ?_,h1.bx,h1.nd,h1.nw,h1.on,h1.bs,h1.dj⟩;have hk:(σ.put i<|slD cs).tm k=some d:=hk;rw [zca] at hk
 by_cases hki:k=i
 ·subst hki;simp at hk;subst hk;have hv:a.tmps.getD k undef= .slice (some ⟨g,0,none⟩) cs.length c:=h.tm k _ hi;refine ⟨some ⟨g,0,none⟩,c,hv,hc,hb.rv,fun _ p hp hm=> ?_⟩;injection hp with hp;subst hp;rcases Jf.1 hm with hm | hm
  ·exact k3 g (m9 V) hm
  ·have h2:=h.bs g hm;rcases h.nw g hg with h3 | h3
   ·omega
   ·exact h.dj.1 g h3 hm
 ·rw [Jb hki] at hk;exact h1.tm k d hk
theorem WN {ops:Array Oper} {l:List Oper} {Q:Exit→Act→World→Prop} (i j:Nat) {g c n:Nat} {ds:List D} (xs:List Value) (hi:σ.tm i=some (isD<|.slice (some ⟨g,0,none⟩) n c)) (hj:σ.bx[j]? =some (.c g ds)) (hn:n=xs.length) (hc:n≤c) (hds:ds=xs.map isD) (h:SWl P Γ ops Q l ⟨fun k=>cond (Nat.beq k i) (some<|slD xs)<|σ.tm k,σ.bx.eraseIdx j⟩):SWl P Γ ops Q l σ:=
 fun a w hh=>by subst hn hds;exact h a w (hh.freeze hi hc hj)
theorem Holds.weak {a:Act} {w:World} (h:Holds Γ σ a w) {i:Nat} {d':D} (hi:σ.tm i=some d) (hl:Le d d'):Holds Γ (σ.put i d') a w:=by
 refine ⟨h.df,h.sz,fun k e hk=> ?_,h.bx,h.nd,h.nw,h.on,h.bs,h.dj⟩;rw [zca] at hk
 by_cases hki:k=i
 ·subst hki;simp at hk;subst hk;exact hl _ _ _ (h.tm k d hi)
 ·rw [Jb hki] at hk;exact h.tm k e hk
end
end
section
def At (L:LN) (w:World) (A:Option Addr) (ds:List D):Prop:=
 0 < ds.length→∃ g o,A=some ⟨g,o,none⟩∧g < w.heap.size∧g∉L∧∃ cs,All L w ds cs∧∀ j,j < cs.length→w.cell? ⟨g,o + j,none⟩=cs[j]?
theorem At.keep {L S:LN} {w w':World} {A:Option Addr} {ds:List D} (h:At L w A ds) (ho:Only S w w') (hS:∀ x∈S,x∈L):At L w' A ds:=fun h0=>by
 obtain ⟨g,o,e,hg,hn,cs,ha,hc⟩:=h h0;exact ⟨g,o,e,Ju hg ho.size,hn,cs,ha.keep ho hS,fun j hj=>(ho.cell (p:=⟨g,o + j,none⟩) hg (fun hm=>hn<|hS _ hm)).trans<|hc j hj⟩
theorem At.less {L L':LN} {w:World} {A:Option Addr} {ds:List D} (h:At L w A ds) (hS:∀ x∈L',x∈L∨w.heap.size≤x):At L' w A ds:=fun h0=>by
 obtain ⟨g,o,e,hg,hn,cs,ha,hc⟩:=h h0;refine ⟨g,o,e,hg,fun hm=> ?_,cs,ha.less hS,hc⟩;rcases hS _ hm with h' | h'
 ·exact hn h'
 ·omega
def rwD (n:Nat) (ds:List D):D:=⟨fun L w v=>∃ A c,v= .slice A n c∧n≤c∧At L w A ds,
 fun ⟨A,c,h,hc,ha⟩ ho hS=>⟨A,c,h,hc,ha.keep ho hS⟩,fun ⟨A,c,h,hc,ha⟩ hS=>⟨A,c,h,hc,ha.less hS⟩⟩
def paD (ds:List D):D:=⟨fun L w v=>∃ p,v= .pointer (some p)∧At L w (some p) ds,
 fun ⟨p,h,ha⟩ ho hS=>⟨p,h,ha.keep ho hS⟩,fun ⟨p,h,ha⟩ hS=>⟨p,h,ha.less hS⟩⟩
instance (n:Nat) (ds:List D):One (rwD n ds):=⟨fun _ _ _ h=>by obtain ⟨A,c,rfl,_⟩:=h;rfl⟩
instance (ds:List D):One (paD ds):=⟨fun _ _ _ h=>by obtain ⟨A,rfl,_⟩:=h;rfl⟩
section
variable {P:Program}{Γ:Cx}{σ:St}{S:List Nat}{dst:Option Tmp}{ty:TypeId}{pos:String}{af:Array Edge}{gd:Option (Nat × Bool)}{d:D}
theorem yx {x:Operand} {T e n:Nat} {ds:List D} (hx:σ.ev x=some (rwD n ds)) (hT:ZS P T e=true):Rd P Γ S ⟨dst,.call { callee:= .builtin .len,args:= #[x],argTypes:= #[T] },ty,pos,af,gd⟩ σ (isD<|.int .i64 (n:Int)):=by
 intro a w hh;obtain ⟨A,c,hv,_⟩:=zT hh hx;refine ⟨_,V,fun w' _=> ?_⟩;simp [execOp,resolve,invoke,builtin,hv,Builtin.len_,Jp<|yo hT,goInt]
theorem At.drop {L:LN} {w:World} {g o:Nat} {ds:List D} (k:Nat) (h:At L w (some ⟨g,o,none⟩) ds):At L w (some ⟨g,o + k,none⟩) (ds.drop k):=fun h0=>by
 rw [JA] at h0;obtain ⟨g',o',e,hg,hn,cs,ha,hc⟩:=h o9;injection e with e;injection e with e1 e2;subst e1 e2;refine ⟨g,o + k,V,hg,hn,cs.drop k,ha.drop k,fun j hj=> ?_⟩;rw [JA] at hj;rw [List.getElem?_drop,← hc (k + j) o9,J9]
theorem Rd.idxR {x y:Operand} {T e n:Nat} {ds:List D} {i:Int} {kd:IntKind} (sz:Nat) (hx:σ.ev x=some (rwD n ds)) (hy:σ.ev y=some (isD<|.int kd i)) (hT:ZS P T e=true) (hs:(P.info? e).map (·.size)=some sz) (h0:0≤i) (hi:i < (n:Int)) (hl:i.toNat * sz < ds.length):
  Rd P Γ S ⟨dst,.indexAddr T x y,ty,pos,af,gd⟩ σ (paD<|ds.drop<|i.toNat * sz):=by
 intro a w hh;obtain ⟨A,c,hxv,hc,ha⟩:=zT hh hx;have hyv:a.eval y= .int kd i:=zT hh hy;obtain ⟨g,o,rfl,hg,hn,cs,h1,h2⟩:=ha o9;refine ⟨.pointer<|some ⟨g,o + i.toNat * sz,none⟩,⟨_,V,At.drop _ ha⟩,fun w' _=> ?_⟩;obtain ⟨inf,hi',hsz⟩:=Jy.1 hs;simp [execOp,hxv,hyv,Instr.indexAt,asIntOf,Jp<|yo hT,sizeOf,typeInfo,hi',hsz,Addr.add,h0,hi]
theorem yb {x:Operand} {T k n:Nat} {ds:List D} (hx:σ.ev x=some (paD ds)) (hf:fldO P T k=some n) (hl:n < ds.length):Rd P Γ S ⟨dst,.fieldAddr T x k,ty,pos,af,gd⟩ σ (paD<|ds.drop n):=by
 intro a w hh;obtain ⟨p,hv,ha⟩:=zT hh hx;obtain ⟨g,o,e,hg,hn,cs,h1,h2⟩:=ha o9;injection e with e;subst e;refine ⟨.pointer<|some ⟨g,o + n,none⟩,⟨_,V,At.drop _ ha⟩,fun w' _=> ?_⟩;unfold fldO at hf
 split at hf
 ·rename_i fs hu
  split at hf
  ·rename_i f hk
   split at hf
   ·rename_i sz hs;simp only [Xy] at hf;subst hf;obtain ⟨i,hi,hsz⟩:=Jy.1 hs;simp [execOp,hv,Instr.fieldAt,Jp hu,hk,Instr.sureAddr,fieldPlace,sizeOf,typeInfo,hi,hsz,Addr.add]
   ·cases hf
  ·cases hf
 ·cases hf
theorem ya {x:Operand} {T:Nat} {ds:List D} (hx:σ.ev x=some (paD ds)) (hd:ds[0]? =some d) (hT:VO P T=true) (hS:∀ s∈S,s∈σ.L Γ):Rd P Γ S ⟨dst,.load T x,ty,pos,af,gd⟩ σ d:=by
 intro a w hh;obtain ⟨p,hv,ha⟩:=zT hh hx;have h0:0 < ds.length:=(Jg.1 hd).1;obtain ⟨g,o,e,hg,hn,cs,h1,h2⟩:=ha h0;injection e with e;subst e;obtain ⟨c,hc1,hc2⟩:=h1.at hd;refine ⟨c,hc2,fun w' ho=> ?_⟩
 have h4:w.cell? ⟨g,o,none⟩=some c:=by have:=h2 0 (by rw [h1.length];exact h0);rw [Nat.add_zero] at this;rw [this,hc1]
 have h3:=Y8 (P:=P) hT ((ho.cell (p:=⟨g,o,none⟩) hg (fun hm=>hn<|hS _ hm)).trans h4);simp [execOp,hv,h3]
theorem ZK {x:Operand} {T:Nat} (n:Nat) {ds:List D} (hx:σ.ev x=some (paD ds)) (hT:rowT P T n=true) (h0:0 < n) (hn:n≤ds.length) (hS:∀ s∈S,s∈σ.L Γ):Rd P Γ S ⟨dst,.load T x,ty,pos,af,gd⟩ σ (Zo<|ds.take n):=by
 intro a w hh;obtain ⟨p,hv,ha⟩:=zT hh hx;obtain ⟨g,o,e,hg,hgn,cs,h1,h2⟩:=ha o9;injection e with e;subst e;have hl:=h1.length;refine ⟨.agg (cs.take n).toArray,⟨_,V,h1.take n⟩,fun w' ho=> ?_⟩;unfold rowT at hT
 split at hT
 ·rename_i d hu;simp only [JL,JT] at hT
  have hlen:(cs.take n).length=n:=by rw [JE];omega
  have h3:=run_loadAt_mid (P:=P) w' g o T (cs.take n) d (fun i v hv'=>by
   have hi:i < n:=by have:=(Jg.1 hv').1;omega
   rw [List.getElem?_take_of_lt hi] at hv';rw [ho.cell (p:=⟨g,o + i,none⟩) hg (fun hm=>hgn<|hS _ hm),h2 i o9]
   exact hv') hu hT.1 (by rw [hlen];exact hT.2)
  simp [execOp,hv,h3]
 ·cases hT
def Bls (P:Program) (T n:Nat) (idx:LN) (es out:List D):Prop:=∃ e,∀ L w vs,All L w es vs→∃ cs,All L w out cs∧∀ w':World,(Instr.buildSlice T n (idx.zip vs).toArray).run P w'= .ok (.slice (some ⟨w'.heap.size,0,none⟩) n n) (w'.alloc<|.cells cs.toArray e)
theorem ZL {parts:List (Nat × Operand)} {T n k:Nat} {idx:LN} {es out:List D} (hi:parts.map (·.1)=idx) (he:σ.evs (parts.map (·.2))=some es) (hb:Bls P T n idx es out) (hk:yE Γ.nt k=true):
  Ef P Γ S ⟨some k,.buildSlice T n parts.toArray,ty,pos,af,gd⟩ σ (fun σ'=>σ'=σ.put k (rwD n out)):=by
 intro a w hh K Q hK;obtain ⟨e,hb⟩:=hb;obtain ⟨cs,h1,h2⟩:=hb _ _ _ (ZW hh he)
 have e1:(parts.toArray.map fun (i,x)=>(i,a.eval x))=(idx.zip<|(parts.map (·.2)).map a.eval).toArray:=by
  rw [← hi];apply Xe;simp only [Array.toList_map];exact jI a.eval parts
 have e2:(execOp a.eval ⟨some k,.buildSlice T n parts.toArray,ty,pos,af,gd⟩).run P w= .ok (.value<|.slice (some ⟨w.heap.size,0,none⟩) n n) (w.alloc<|.cells cs.toArray e):=by
  simp only [execOp];rw [e1,JD,h2 w]
  rfl
 unfold Oper.wp;rw [e2];have ho:Only [] w (w.alloc<|.cells cs.toArray e):=(Only.refl [] w).alloc _;refine hK _ _ _ V ((hh.keep ho).put (by simpa [yE] using hk) ⟨_,_,V,Js _,fun h0=>⟨_,0,V,by simp,fun hm=> ?_,cs,h1.keep ho s9,fun j hj=> ?_⟩⟩) ((Only.refl S w).alloc _)
 ·have:=hh.lt _ hm;omega
 ·rw [JF];exact (Blk.new w e cs).cell j
end
end
section
section
variable {P:Program}{Γ:Cx}{σ:St}{S:List Nat}{dst:Option Tmp}{ty:TypeId}{pos:String}{af:Array Edge}{gd:Option (Nat × Bool)}{d:D}
theorem Rd.shrW {x y:Operand} {xT yT:TypeId} {k ky:IntKind} {p r:Int} {s:Nat} (hx:σ.ev x=some (isD<|.int k p)) (hy:σ.ev y=some (isD<|.int ky (s:Int))) (h:p / 2 ^ (min s k.bits)=r):Rd P Γ S ⟨dst,.binOp .shr xT x y yT,ty,pos,af,gd⟩ σ (isD<|.int k r):=Ym hx hy fun _=>by
 have h0:¬((s:Int) < 0):=by omega
 have h1:p.fdiv (2 ^ (min s k.bits))=r:=by rw [Int.fdiv_eq_ediv_of_nonneg _ (by exact Int.le_of_lt<|Int.pow_pos d9)];exact h
 simp [eqGuard,binOp,Op.shift,h0,h1]
theorem Rd.orW {x y:Operand} {xT yT:TypeId} {k:IntKind} {p q r:Int} (hx:σ.ev x=some (isD<|.int k p)) (hy:σ.ev y=some (isD<|.int k q)) (h:bits .or k p q=r):Rd P Γ S ⟨dst,.binOp .or xT x y yT,ty,pos,af,gd⟩ σ (isD<|.int k r):=Ym hx hy fun _=>by
 subst h;simp [eqGuard,binOp,go_sem]
theorem Rd.quoW {x y:Operand} {xT yT:TypeId} {k:IntKind} {p q r:Int} (hx:σ.ev x=some (isD<|.int k p)) (hy:σ.ev y=some (isD<|.int k q)) (h0:q≠0) (h:k.wrap (p.tdiv q)=r):Rd P Γ S ⟨dst,.binOp .quo xT x y yT,ty,pos,af,gd⟩ σ (isD<|.int k r):=Ym hx hy fun _=>by simp [eqGuard,binOp,Op.intDiv,h0,h]
theorem Kp {x y:Operand} {xT yT:TypeId} {k:IntKind} {p q r:Int} (hx:σ.ev x=some (isD<|.int k p)) (hy:σ.ev y=some (isD<|.int k q)) (h0:q≠0) (h:p.tmod q=r):Rd P Γ S ⟨dst,.binOp .rem xT x y yT,ty,pos,af,gd⟩ σ (isD<|.int k r):=Ym hx hy fun _=>by simp [eqGuard,binOp,Op.intDiv,h0,h]
theorem wrap_u64 {z:Int} (h1:0≤z) (h2:z < 18446744073709551616):IntKind.u64.wrap z=z:=by
 simp [IntKind.wrap,IntKind.signed,IntKind.bits];omega
end
end
section
section
variable {P:Program}{Γ:Cx}{σ σ':St}{S:List Nat}{l:List Oper}{Q:Exit→Act→World→Prop}{tz uz:Reg.Tz}{k:Nat}{op:Op}{ty:TypeId}{pos:String}{af:Array Edge}
theorem zgE {i j t:Nat} {b c:Bool} (ho:l[i]? =some ⟨some k,op,ty,pos,af,some (j,b)⟩) (hj:(l[j]?).bind (·.dst)=some t) (ht:σ.tm t=some (isD<|.bool c)) (hc:c= !b) (hn:yE Γ.nt t=true)
  (hd:yE Γ.nt k=true) (hk:SWz P Γ l Q S tz (σ.put k<|isD undef)) (hu:SWz P Γ l Q S uz σ):SWz P Γ l Q S (.n i tz uz) σ:=by
 intro a w hh
 have e:l.getD i default=⟨some k,op,ty,pos,af,some (j,b)⟩:=by rw [Jr,ho];rfl
 unfold Reg.wpG;rw [e];refine ⟨wpList_step fun K hK=> ?_,hu a w hh⟩
 rw [jd (ops:=l.toArray) hh rfl (by simpa using hj) ht hn,Jb (by subst hc;cases b <;> simp)]
 exact hK _ _ ⟨S,Reg.Gr.refl S _,Only.refl _ _,hk _ _<|hh.put (by simpa [yE] using hd) V⟩
end
end
section
instance (f:Fn) (a b:Array Value):One (isD<|.func f a b):=⟨fun _ _ _ h=>by cases h;rfl⟩
instance:Ones (List.map isD []):=⟨fun d hd=>by simp at hd⟩
instance (v:Value) (vs:List Value) [o:One (isD v)] [os:Ones (List.map isD vs)]:Ones (List.map isD<|v :: vs):=⟨fun d hd=>by
 rcases Jt.1 (show d∈isD v :: List.map isD vs from hd) with rfl | hd
 ·exact o.h
 ·exact os.m d hd⟩
instance (ds es:List D) (o:Nat) [os:Ones ds] [ps:Ones es]:Ones (zaA ds o es):=by unfold zaA;infer_instance
instance:One (isD .nilFunc):=⟨fun _ _ _ h=>by cases h;rfl⟩
section
variable {P:Program}{Γ:Cx}{σ:St}{S:List Nat}{dst:Option Tmp}{ty:TypeId}{pos:String}{af:Array Edge}{gd:Option (Nat × Bool)}{d:D}{Q:Exit→Act→World→Prop}
theorem all_cap {L:LN} {w:World}:∀ {es:List D} {vs:List Value} (cap:List Value),All L w es vs→All L w (es ++ cap.map isD) (vs ++ cap)
 | _,_,cap,h=>h.append (qN cap)
theorem y9 {fn:Fn} {cp:Array Operand} (cs:List Value) (hc:σ.evs cp.toList=some (cs.map isD)):Rd P Γ S ⟨dst,.makeFunc fn #[] cp,ty,pos,af,gd⟩ σ (isD<|.func fn #[] cs.toArray):=by
 intro a w hh;have hall:=ZW hh hc
 have key:∀ {zs cs:List Value},All (σ.L Γ) w (zs.map isD) cs→cs=zs:=by
  intro zs
  induction zs with
  | nil=>intro cs h;cases cs with | nil=>rfl | cons=>exact h.elim
  | cons z zs ih=>intro cs h;cases cs with | nil=>exact h.elim | cons c cs=>rw [ih h.2,show c=z from h.1]
 have e:cp.map a.eval=cs.toArray:=by
  apply Xe;simpa using key hall
 exact ⟨_,V,fun w' _=>by simp [execOp,Instr.makeFunc,e]⟩
theorem qr {a:Act} {w:World} {x:Operand} {f:FuncId} {args:Array Operand} {aT:Array TypeId} {cap:List Value} (hen:ju P f) (hx:a.eval x= .func (.func f) #[] cap.toArray):
  (execOp a.eval ⟨dst,.call { callee:= .value x,args:=args,argTypes:=aT },ty,pos,af,gd⟩).run P w= .ok (.enter f (args.toList.map a.eval ++ cap).toArray) w:=by
 have h:=hen (args.toList.map a.eval ++ cap).toArray w
 have e1:(args.map a.eval) ++ cap.toArray=(args.toList.map a.eval ++ cap).toArray:=by apply Xe;simp
 simp only [execOp,resolve,hx,Deferred.ofValue,JD,JK,Jv,invoke,Array.empty_append];rw [e1];exact h
def arrT (P:Program) (T e n:Nat):Bool:=match P.underlying T with | some (.array n' e')=>n' == n && e' == e | _=>false
theorem zeF {T e n:Nat} (h:arrT P T e n=true):P.underlying T=some (.array n e):=by
 unfold arrT at h
 split at h
 ·rename_i n' e' hu;rw [hu];simp at h;rw [h.1,h.2]
 ·cases h
end
end
section
def isIn (k:Nat):LN→Bool
 | []=>false
 | j :: js=>cond (Nat.beq k j) true (isIn k js)
def Zk:List Box→Nat→LN→List Box
 | [],_,_=>[]
 | b :: bs,k,js=>cond (isIn k js) (Zk bs (k + 1) js) (b :: Zk bs (k + 1) js)
theorem zd5 {k:Nat}:∀ {js:LN},isIn k js=true↔k∈js
 | []=>by simp [isIn]
 | j :: js=>by
  have h:=zd5 (k:=k) (js:=js)
  cases hb:Nat.beq k j
  ·have:k≠j:=fun e=>by subst e;rw [Nat.beq_refl] at hb;cases hb
   simp [isIn,hb,h,this]
  ·have:k=j:=Nat.eq_of_beq_eq_true hb;simp [isIn,hb,this]
theorem YK:∀ {bs:List Box} {k:Nat} {js:LN} {b:Box},b∈Zk bs k js→∃ i,bs[i]? =some b∧k + i∉js
 | [],_,_,_,h=>by simp [Zk] at h
 | c :: bs,k,js,b,h=>by
  cases hk:isIn k js
  ·have hn:k∉js:=fun e=>by rw [zd5.2 e] at hk;cases hk
   simp only [Zk,hk,cond_false] at h;rcases Jt.1 h with rfl | h
   ·exact ⟨0,V,hn⟩
   ·obtain ⟨i,h1,h2⟩:=YK h;exact ⟨i + 1,by simpa using h1,by rw [show k + (i + 1)=k + 1 + i by omega];exact h2⟩
  ·simp only [Zk,hk,cond_true] at h;obtain ⟨i,h1,h2⟩:=YK h;exact ⟨i + 1,by simpa using h1,by rw [show k + (i + 1)=k + 1 + i by omega];exact h2⟩
theorem YT:∀ {bs:List Box} {k:Nat} {js:LN},(fps bs).Nodup→(fps<|Zk bs k js).Nodup
 | [],_,_,_=>by simp [Zk,fps]
 | c :: bs,k,js,h=>by
  rw [Z2] at h;have h2:=JH.1 h;have ih:=YT (k:=k + 1) (js:=js) h2.2.1
  cases hk:isIn k js
  ·simp only [Zk,hk,cond_false,Z2];refine JH.2 ⟨h2.1,ih,fun x hx y hy e=> ?_⟩;obtain ⟨b,hb,hyb⟩:=yD.1 hy;obtain ⟨i,h3,_⟩:=YK hb;exact h2.2.2 x hx y (yD.2 ⟨b,Jc h3,hyb⟩) e
  ·simp only [Zk,hk,cond_true];exact ih
theorem ZX {bs:List Box} {js:LN} {x:Nat} (h:x∈fps (Zk bs 0 js)):x∈fps bs:=by
 obtain ⟨b,hb,hx⟩:=yD.1 h;obtain ⟨i,h3,_⟩:=YK hb;exact yD.2 ⟨b,Jc h3,hx⟩
theorem KD {bs:List Box} {js:LN} {pre:List Box} (hn:(fps bs).Nodup) (hs:SubBx bs js pre) {x:Nat} (h:x∈fps (Zk bs 0 js)):x∉fps pre:=fun hp=>by
 obtain ⟨b,hb,hx⟩:=yD.1 h;obtain ⟨i,h3,h4⟩:=YK hb;obtain ⟨b',hb',hx'⟩:=yD.1 hp;obtain ⟨j,c,hj,h5,h6⟩:=Ye hs b' hb';have:=za0 hn h3 h5 hx (by rw [h6.1];exact hx');subst this;rw [JF] at h4;exact h4 hj
def St.give (σ:St) (js:LN) (bs:List Box):St:=⟨σ.tm,Zk σ.bx 0 js ++ bs⟩
section
variable {P:Program}{Γ:Cx}{σ:St}{S:List Nat}{dst:Option Tmp}{ty:TypeId}{pos:String}{af:Array Edge}{gd:Option (Nat × Bool)}{d:D}{Q:Exit→Act→World→Prop}
theorem SubBx.fps {bs:List Box} {js:LN} {pre:List Box} (hs:SubBx bs js pre) {x:Nat} (h:x∈fps pre):x∈fps bs:=by
 obtain ⟨b',hb',hx'⟩:=yD.1 h;obtain ⟨j,c,_,h5,h6⟩:=Ye hs b' hb';exact yD.2 ⟨c,Jc h5,by rw [h6.1];exact hx'⟩
theorem Holds.give {a:Act} {w w':World} (h:Holds Γ σ a w) {js:LN} {pre post:List Box} (hs:SubBx σ.bx js pre) (ho:Only (fps pre) w w')
  (hR:∀ b∈post,b.R (fps post ++ (σ.L Γ).filter (· ∉fps pre)) w') (hnd:(fps post).Nodup) (hnw:∀ g∈fps post,g∈fps pre∨w.heap.size≤g):
  Holds Γ (σ.give js post) a w'∧∀ x∈(σ.give js post).L Γ,x∈fps post ++ (σ.L Γ).filter (· ∉fps pre)∨w'.heap.size≤x:=by
 have hL:∀ x∈(σ.give js post).L Γ,x∈fps post ++ (σ.L Γ).filter (· ∉fps pre)∨w'.heap.size≤x:=by
  intro x hx;simp only [St.give,St.L,Yw,Jf] at hx;rcases hx with (hx | hx) | hx
  ·exact .inl (mR _<|Jw.2 ⟨mL _<|ZX hx,by simpa using KD h.nd hs hx⟩)
  ·exact .inl (mL _ hx)
  ·refine .inl (mR _<|Jw.2 ⟨mR _ hx,?_⟩);simp only [Jz];intro hp;have h1:=h.bs x hx;rcases h.nw x (hs.fps hp) with h2 | h2
   ·omega
   ·exact h.dj.1 x h2 hx
 refine ⟨h.swap ho (fun x hx=>hs.fps hx) (fun b hb=> ?_) (fun g hg=> ?_) ?_,hL⟩
 ·rcases Jf.1 hb with hb | hb
  ·obtain ⟨i,h1,_⟩:=YK hb;exact .inl ⟨Jc h1,fun x hx hm=>KD h.nd hs (yD.2 ⟨b,hb,hm⟩) hx⟩
  ·exact .inr (Box.less (hR b hb) hL)
 ·rw [Yw] at hg;rcases Jf.1 hg with hg | hg
  ·exact .inl (ZX hg)
  ·rcases hnw g hg with h1 | h1
   ·exact .inl (hs.fps h1)
   ·exact .inr h1
 ·rw [Yw];refine JH.2 ⟨YT h.nd,hnd,fun x hx y hy e=> ?_⟩;subst e;rcases hnw x hy with h1 | h1
  ·exact KD h.nd hs hx h1
  ·have:=h.lt x (mL _<|ZX hx);omega
theorem upon_R {f:FuncId} {vs:List Value} {pre:List Box} {ad:List D} {ι:Type} {post:ι→List Box} {d:ι→D} {a:Act} {w:World} (hcon:ConR P f pre ad post d) (hh:Holds Γ σ a w) {js:LN} (hjs:js.Nodup) (hs:SubBx σ.bx js pre) (hall:All (σ.L Γ) w ad vs):
  Calls P f vs.toArray w fun e w'=>∃ i v,e= .returned v∧Holds Γ (σ.give js<|post i) a w'∧(d i).R ((σ.give js<|post i).L Γ) w' v∧Only (fps pre) w w':=by
 have hL1:∀ x∈fps pre ++ (σ.L Γ).filter (· ∉fps pre),x∈σ.L Γ∨w.heap.size≤x:=fun x hx=>by
  rcases Jf.1 hx with hx | hx
  ·exact .inl (mL _<|hs.fps hx)
  ·exact .inl (Jw.1 hx).1
 refine (hcon.go ((σ.L Γ).filter (· ∉fps pre)) w vs (fun x hx=>hh.lt x (Jw.1 hx).1) hh.gl (fun g hg=>hh.off g<|hs.fps hg) (fun g hg hm=>by have:=(Jw.1 hm).2;simp at this;exact this hg) (YD hh.nd hjs hs) (fun b' hb'=> ?_)<|hall.less hL1).mono ?_
 ·obtain ⟨j,c,_,h5,h6⟩:=Ye hs b' hb';exact h6.2 _ _ (Box.less (hh.bx c<|Jc h5) hL1)
 ·rintro r w' ⟨i,v,rfl,hd,hR,hnd,hnw,ho⟩;obtain ⟨h1,h2⟩:=hh.give hs ho hR hnd hnw;exact ⟨i,v,V,h1,(d i).less hd h2,ho⟩
theorem zC {f:FuncId} {args:Array Operand} {aT:Array TypeId} {pre:List Box} {ad es:List D} {ι:Type} {post:ι→List Box} {d:ι→D} {k:Nat} (js:LN) (hcon:ConR P f pre ad post d) (he:σ.evs args.toList=some es) (hl:LeAll es ad) (hjs:js.Nodup) (hs:SubBx σ.bx js pre) (hS:∀ g∈fps pre,g∈S) (hk:yE Γ.nt k=true):
  Ef P Γ S ⟨some k,.call { callee:= .value<|.func f,args:=args,argTypes:=aT },ty,pos,af,gd⟩ σ (fun σ'=>∃ i,σ'=(σ.give js<|post i).put k (d i)):=by
 intro a w hh K Q hK;have hall:=hl.all (ZW hh he);unfold Oper.wp;rw [qr (cap:=[]) hcon.en (show a.eval (.func f)= .func (.func f) #[] ([]:List Value).toArray from rfl),JS];simp only [Oper.upon];refine (upon_R hcon hh hjs hs hall).mono ?_;rintro r w' ⟨i,v,rfl,h1,h2,ho⟩;exact hK _ _ _ ⟨i,V⟩ (h1.put (by simpa [yE] using hk) h2) (ho.mono (fun x hx _=>hS x hx))
theorem yR {x:Operand} {f:FuncId} {args:Array Operand} {aT:Array TypeId} {cap:List Value} {pre:List Box} {ad es:List D} {ι:Type} {post:ι→List Box} {d:ι→D} {k:Nat} (js:LN) (hcon:ConR P f pre ad post d) (hx:σ.ev x=some (isD<|.func (.func f) #[] cap.toArray)) (he:σ.evs args.toList=some es) (hl:LeAll (es ++ cap.map isD) ad) (hjs:js.Nodup) (hs:SubBx σ.bx js pre) (hS:∀ g∈fps pre,g∈S) (hk:yE Γ.nt k=true):
  Ef P Γ S ⟨some k,.call { callee:= .value x,args:=args,argTypes:=aT },ty,pos,af,gd⟩ σ (fun σ'=>∃ i,σ'=(σ.give js<|post i).put k (d i)):=by
 intro a w hh K Q hK;have hall:=hl.all (all_cap cap<|ZW hh he);unfold Oper.wp;rw [qr hcon.en (show a.eval x=_ from zT hh hx)];simp only [Oper.upon];refine (upon_R hcon hh hjs hs hall).mono ?_;rintro r w' ⟨i,v,rfl,h1,h2,ho⟩;exact hK _ _ _ ⟨i,V⟩ (h1.put (by simpa [yE] using hk) h2) (ho.mono (fun x hx _=>hS x hx))
def Opens (pre:List Box) (T:List Box→Prop):Prop:=∀ L w,(fps pre).Nodup→(∀ b∈pre,b.R (fps pre ++ L) w)→∃ post,T post∧(∀ b∈post,b.R (fps post ++ L) w)∧(fps post).Nodup∧∀ g∈fps post,g∈fps pre
theorem Holds.opens {a:Act} {w:World} (h:Holds Γ σ a w) {js:LN} {pre:List Box} {T:List Box→Prop} (hjs:js.Nodup) (hs:SubBx σ.bx js pre) (ho:Opens pre T):∃ post,T post∧Holds Γ (σ.give js post) a w:=by
 have hL1:∀ x∈fps pre ++ (σ.L Γ).filter (· ∉fps pre),x∈σ.L Γ∨w.heap.size≤x:=fun x hx=>by
  rcases Jf.1 hx with hx | hx
  ·exact .inl (mL _<|hs.fps hx)
  ·exact .inl (Jw.1 hx).1
 obtain ⟨post,h1,h2,h3,h4⟩:=ho ((σ.L Γ).filter (· ∉fps pre)) w (YD h.nd hjs hs) (fun b' hb'=>by
  obtain ⟨j,c,_,h5,h6⟩:=Ye hs b' hb'
  exact h6.2 _ _<|Box.less (h.bx c<|Jc h5) hL1)
 exact ⟨post,h1,(h.give hs (Only.refl _ w) h2 h3 (fun g hg=> .inl<|h4 g hg)).1⟩
theorem SW.opens {c:Code} (js:LN) {pre:List Box} {T:List Box→Prop} (hjs:js.Nodup) (hs:SubBx σ.bx js pre) (ho:Opens pre T) (h:∀ post,T post→SW P Γ (σ.give js post) c Q):SW P Γ σ c Q:=fun a w hh=>by
 obtain ⟨post,h1,h2⟩:=hh.opens hjs hs ho;exact h post h1 a w h2
theorem SWl.opens {ops:Array Oper} {l:List Oper} (js:LN) {pre:List Box} {T:List Box→Prop} (hjs:js.Nodup) (hs:SubBx σ.bx js pre) (ho:Opens pre T) (h:∀ post,T post→SWl P Γ ops Q l (σ.give js post)):SWl P Γ ops Q l σ:=fun a w hh=>by
 obtain ⟨post,h1,h2⟩:=hh.opens hjs hs ho;exact h post h1 a w h2
end
end
section
def Bn (es:Array MapEntry) (ck:Nat):Prop:=(∀ x∈es.toList,x.born < ck)∧(es.toList.map (·.born)).Nodup
theorem bn_nil (ck:Nat):Bn #[] ck:=⟨by simp,by simp⟩
theorem zfI {es:Array MapEntry} {ck:Nat} {e:MapEntry} (h:Bn es ck) (he:e.born=ck):Bn (es.push e) (ck + 1):=by
 refine ⟨fun x hx=> ?_,?_⟩
 ·simp only [Array.toList_push,Jf,Ja] at hx;rcases hx with hx | rfl
  ·exact Nat.lt_succ_of_lt (h.1 x hx)
  ·omega
 ·simp only [Array.toList_push,XG,JU,XC];refine JH.2 ⟨h.2,by simp,fun a ha b hb=> ?_⟩;obtain ⟨x,hx,rfl⟩:=JI.1 ha;have:=h.1 x hx;rw [Ja.1 hb];omega
theorem bn_of {es es':Array MapEntry} {ck:Nat} (h:Bn es ck) (hs:(es'.toList.map (·.born)).Sublist (es.toList.map (·.born))):Bn es' ck:=
 ⟨fun x hx=>by
  obtain ⟨y,hy,e⟩:=JI.1 (hs.subset<|JI.2 ⟨x,hx,rfl⟩);rw [← e]
  exact h.1 y hy,h.2.sublist hs⟩
def MapAt (w:World) (M:Option Nat) (es:Array MapEntry) (F:LN):Prop:=(M=none∧es= #[]∧F=[])∨∃ g ck,M=some g∧w.heap[g]? =some (.map es ck)∧F=[g]∧Bn es ck
theorem MapAt.lt {w:World} {M:Option Nat} {es:Array MapEntry} {F:LN} (h:MapAt w M es F):∀ g∈F,g < w.heap.size:=by
 rcases h with ⟨_,_,hF⟩ | ⟨g,ck,_,hh,hF,_⟩
 ·subst hF;simp
 ·subst hF;intro x hx;rw [Ja.1 hx];exact (Jn.1 hh).1
theorem MapAt.keep {w w':World} {S:LN} {M:Option Nat} {es:Array MapEntry} {F:LN} (h:MapAt w M es F) (ho:Only S w w') (hn:∀ x∈S,x∉F):MapAt w' M es F:=by
 rcases h with h | ⟨g,ck,hM,hh,hF,hbn⟩
 ·exact .inl h
 ·subst hF;exact .inr ⟨g,ck,hM,(ho.block g (Jn.1 hh).1 (fun hm=>hn g hm<|m9 V)).trans hh,V,hbn⟩
def zeX (M:Option Nat) {κ:Type} (enc:κ→Value) (ks:List κ) (ds:List D):Res where
 R L F w:=∃ es,MapAt w M es F∧es.toList.map (·.key)=ks.map enc∧All L w ds (es.toList.map (·.val))
 lt:=fun ⟨es,hm,_⟩=>hm.lt
 keep:=fun ⟨es,hm,hk,ha⟩ ho hS hn=>⟨es,hm.keep ho hn,hk,ha.keep ho hS⟩
 less:=fun ⟨es,hm,hk,ha⟩ hL=>⟨es,hm,hk,ha.less hL⟩
structure KeyOk (P:Program) (kt:TypeId) {κ:Type} [DecidableEq κ] (enc:κ→Value) (k:κ) (ks:List κ):Prop where
 chk:∀ e w,(Instr.checkKey e 10000 kt<|enc k).run P w= .ok () w
 find:∀ (w:World) (es:List MapEntry),es.map (·.key)=ks.map enc→(Instr.findKey kt (enc k) es).run P w= .ok ((ks.idxOf? k).bind fun i=>(es[i]?).map fun e=>(i,e.val)) w
 bits:Instr.sameBits 10000 (enc k) (enc k)=true
def zfh (P:Program) (T k e:Nat):Bool:=match P.underlying T with | some (.map k' e')=>k' == k && e' == e | _=>false
theorem qG {P:Program} {T k e:Nat} (h:zfh P T k e=true):P.underlying T=some (.map k e):=by
 unfold zfh at h
 split at h
 ·rename_i k' e' hu;rw [hu];simp at h;rw [h.1,h.2]
 ·cases h
theorem zaU {vs:List Value}:Le (Zo<|vs.map isD) (isD<|.agg vs.toArray):=fun _ _ _ ⟨cs,hv,ha⟩=>by
 rw [jj ha] at hv;exact hv
theorem zaS {vs:List Value}:Le (isD<|.agg vs.toArray) (Zo<|vs.map isD):=fun _ _ _ h=>⟨vs,h,qN vs⟩
section
variable {κ:Type}{enc:κ→Value}{P:Program}{Γ:Cx}{σ:St}{S:List Nat}{dst:Option Tmp}{ty:TypeId}{pos:String}{af:Array Edge}{gd:Option (Nat × Bool)}{d:D}
theorem Holds.resAt {a:Act} {w:World} (hh:Holds Γ σ a w) {j:Nat} {F:LN} {R:Res} (hj:σ.bx[j]? =some (.r F R)):R.R (σ.L Γ) F w:=hh.bx (.r F R) (Jc hj)
theorem zhV {T k:Nat} (hk:yE Γ.nt k=true):Ef P Γ S ⟨some k,.makeMap T none,ty,pos,af,gd⟩ σ (fun σ'=>∃ g,σ'=(⟨σ.tm,σ.bx ++ [.r [g]<|zeX (some g) enc [] []]⟩:St).put k (isD<|.map<|some g)):=by
 intro a w hh K Q hK;have ho:Only [] w (w.alloc<|.map #[] 0):=(Only.refl [] w).alloc _;have h1:=hh.more ho (b:= .r [w.heap.size]<|zeX (some w.heap.size) enc [] []) ⟨#[],.inr ⟨w.heap.size,0,rfl,Xw w _,rfl,bn_nil 0⟩,rfl,trivial⟩ (fun g hg=>by rw [Ja.1 hg];exact Js _) (by simp [Box.fp])
 have e:(execOp a.eval ⟨some k,.makeMap T none,ty,pos,af,gd⟩).run P w= .ok (.value<|.map<|some w.heap.size) (w.alloc<|.map #[] 0):=by
  have e0:(newObj<|.map #[] 0).run P w= .ok w.heap.size (w.alloc<|.map #[] 0):=rfl;simp [execOp,Instr.makeMap,e0]
 unfold Oper.wp;rw [e];exact hK _ _ _ ⟨_,V⟩ (h1.put (by simpa [yE] using hk) V) ((Only.refl S w).alloc _)
variable [DecidableEq κ]
theorem Wt {T kt et:Nat} {M:Option Nat} {F:LN} {es:Array MapEntry} {k:κ} {ks:List κ} {w:World} (hT:zfh P T kt et=true) (hm:MapAt w M es F) (hk:es.toList.map (·.key)=ks.map enc) (hok:KeyOk P kt enc k ks) (ok:Bool) {i:Nat} (hi:ks.idxOf? k=some i) {e:MapEntry} (he:es.toList[i]? =some e):
  (Instr.lookup T (.map M) (enc k) ok).run P w= .ok (if ok then .tuple #[e.val,.bool true] else e.val) w:=by
 rcases hm with ⟨rfl,rfl,_⟩ | ⟨g,ck,rfl,hg,_⟩
 ·simp at he
 ·have h1:(getObj g).run P w= .ok (.map es ck) w:=by simp [getObj,Sem.run,hg]
  have h2:=hok.find w es.toList hk;rw [hi] at h2;simp only [Option.bind_some,he,Option.map_some] at h2;simp [Instr.lookup,Jp<|qG hT,h1,hok.chk,h2]
theorem VH {T kt et:Nat} {M:Option Nat} {F:LN} {es:Array MapEntry} {k:κ} {z:Value} {ks:List κ} {w:World} (hT:zfh P T kt et=true) (hz:(P.info? et).bind (·.zero)=some z) (hm:MapAt w M es F) (hk:es.toList.map (·.key)=ks.map enc) (hok:KeyOk P kt enc k ks) (ok:Bool) (hi:ks.idxOf? k=none):
  (Instr.lookup T (.map M) (enc k) ok).run P w= .ok (if ok then .tuple #[z,.bool false] else z) w:=by
 obtain ⟨inf,h3,h4⟩:=Option.bind_eq_some_iff.1 hz;have h2:=hok.find w es.toList hk;rw [hi] at h2;simp only [Option.bind_none] at h2;rcases hm with ⟨rfl,rfl,_⟩ | ⟨g,ck,rfl,hg,_⟩
 ·simp at h2;simp [Instr.lookup,Jp<|qG hT,hok.chk,h2,zeroValue,typeInfo,h3,h4]
 ·have h1:(getObj g).run P w= .ok (.map es ck) w:=by simp [getObj,Sem.run,hg]
  simp [Instr.lookup,Jp<|qG hT,h1,hok.chk,h2,zeroValue,typeInfo,h3,h4]
theorem Rd.look {x y:Operand} {T kt et:Nat} {M:Option Nat} {F:LN} {k:κ} {ks:List κ} {ds:List D} {dk:D} {ok:Bool} (j i:Nat) (hx:σ.ev x=some (isD<|.map M)) (hj:σ.bx[j]? =some (.r F<|zeX M enc ks ds)) (hy:σ.ev y=some dk) (hk:Le dk (isD<|enc k)) (hT:zfh P T kt et=true) (hok:KeyOk P kt enc k ks) (hi:ks.idxOf? k=some i) (hd:ds[i]? =some d) (hS:Ap σ j S):
  Rd P Γ S ⟨dst,.lookup T x y ok,ty,pos,af,gd⟩ σ (cond ok (Yk [d,isD<|.bool true]) d):=by
 intro a w hh;have hxv:a.eval x= .map M:=zT hh hx;have hyv:a.eval y=enc k:=hk _ _ _ (zT hh hy);obtain ⟨es,hm,hks,ha⟩:=hh.resAt hj;obtain ⟨v,h1,h2⟩:=ha.at hd
 obtain ⟨e,he,rfl⟩:∃ e,es.toList[i]? =some e∧e.val=v:=by
  rw [JJ] at h1;obtain ⟨e,h3,h4⟩:=Jy.1 h1;exact ⟨e,h3,h4⟩
 refine ⟨if ok then .tuple #[e.val,.bool true] else e.val,?_,fun w' ho=> ?_⟩
 ·cases ok
  ·exact h2
  ·exact ⟨[_,_],V,h2,V,t9⟩
 ·simp only [execOp,hxv,hyv,JD,Wt hT (hm.keep ho<|hS.spec hh.nd hj) hks hok ok hi he,Jv,JK]
theorem j8 {w:World} {g:Nat} {o:Obj}:Only [g] w { w with heap:=w.heap.setIfInBounds g o }:=by
 refine ⟨V,V,V,by simp,fun k hk hn=> ?_⟩;have:¬g=k:=fun e=>hn (by rw [e];exact m9 rfl);simp [Xt,this]
theorem zdo {L:LN} {w:World} {ds:List D} {cs:List Value} {d:D} {v:Value} (h:All L w ds cs) (hd:d.R L w v):All L w (ds ++ [d]) (cs ++ [v]):=h.append (All.one hd)
theorem qq {w:World} {g ck:Nat} {es:Array MapEntry} (o:Obj) (hg:w.heap[g]? =some (.map es ck)):(setObj g o).run P w= .ok () { w with heap:=w.heap.setIfInBounds g o }:=by
 simp [setObj,Sem.run,hg]
theorem Ef.mapNew {x y z:Operand} {T kt et g:Nat} {F:LN} {k:κ} {ks:List κ} {ds:List D} {dk dv:D} (j:Nat) (hx:σ.ev x=some (isD<|.map<|some g)) (hj:σ.bx[j]? =some (.r F<|zeX (some g) enc ks ds)) (hy:σ.ev y=some dk) (hk:Le dk (isD<|enc k)) (hz:σ.ev z=some dv) (hT:zfh P T kt et=true) (hok:KeyOk P kt enc k ks) (hi:ks.idxOf? k=none) (hS:∀ g∈F,g∈S):
  Ef P Γ S ⟨none,.mapUpdate T x y z,ty,pos,af,gd⟩ σ (fun σ'=>σ'=σ.give [j] [.r F<|zeX (some g) enc (ks ++ [k])<|ds ++ [dv]]):=by
 intro a w hh K Q hK;have hxv:a.eval x= .map (some g):=zT hh hx;have hyv:a.eval y=enc k:=hk _ _ _ (zT hh hy);have hzv:=zT hh hz;obtain ⟨es,hm,hks,ha⟩:=hh.resAt hj;rcases hm with ⟨h0,_⟩ | ⟨g',ck,hg',hg,hF,hbn⟩
 ·cases h0
 ·injection hg' with hg';subst hg' hF
  have h1:(getObj g).run P w= .ok (.map es ck) w:=by simp [getObj,Sem.run,hg]
  have h2:=hok.find w es.toList hks;rw [hi] at h2;simp only [Option.bind_none] at h2
  have e:(execOp a.eval ⟨none,.mapUpdate T x y z,ty,pos,af,gd⟩).run P w= .ok .skip { w with heap:=w.heap.setIfInBounds g (.map (es.push { key:=enc k,val:=a.eval z,born:=ck })<|ck + 1) }:=by
   simp [execOp,hxv,hyv,Instr.mapUpdate,Jp<|qG hT,h1,hok.chk,h2,qq _ hg]
  unfold Oper.wp;rw [e];have ho:Only [g] w { w with heap:=w.heap.setIfInBounds g (.map (es.push { key:=enc k,val:=a.eval z,born:=ck })<|ck + 1) }:=j8;have hlt:=(Jn.1 hg).1;have hsub:SubBx σ.bx [j] [.r [g]<|zeX (some g) enc ks ds]:=⟨⟨_,hj,yu _⟩,trivial⟩;have hfp:fps [Box.r [g]<|zeX (some g) enc ks ds]=[g]:=rfl
  obtain ⟨h3,_⟩:=hh.give (post:=[.r [g]<|zeX (some g) enc (ks ++ [k])<|ds ++ [dv]]) hsub (by rw [hfp];exact ho) (fun b hb=>by
   rw [Ja.1 hb];refine ⟨es.push { key:=enc k,val:=a.eval z,born:=ck },.inr ⟨g,ck + 1,V,by simp [Xt,hlt],rfl,zfI hbn rfl⟩,by simp [hks],?_⟩
   have hL:∀ n x,x∈fps [Box.r [g]<|zeX (some g) enc (ks ++ [k])<|ds ++ [dv]] ++ (σ.L Γ).filter (· ∉fps [Box.r [g]<|zeX (some g) enc ks ds])→x∈σ.L Γ∨n≤x:=fun n x hx=>by
    rcases Jf.1 hx with hx | hx
    ·exact .inl (mL _<|yD.2 ⟨_,Jc hj,hx⟩)
    ·exact .inl (Jw.1 hx).1
   have h4:=((zdo ha hzv).keep ho (fun x hx=>by rw [Ja.1 hx];exact mL _<|yD.2 ⟨_,Jc hj,m9 rfl⟩))
   have e5:(es.push { key:=enc k,val:=a.eval z,born:=ck }).toList.map (·.val)=es.toList.map (·.val) ++ [a.eval z]:=by simp
   rw [e5]
   exact h4.less<|hL _) (by simp [fps,Box.fp]) (fun g' hg'=> .inl hg')
  exact hK _ _ _ V h3 (ho.mono (fun x hx _=>hS x hx))
theorem zeO {x y:Operand} {T kt et yT:Nat} {m:Option Nat} (hx:σ.ev x=some (isD<|.map m)) (hy:σ.ev y=some (isD<|.map none)) (hT:zfh P T kt et=true):Rd P Γ S ⟨dst,.binOp .eql T x y yT,ty,pos,af,gd⟩ σ (isD<|.bool m.isNone):=Ym hx hy fun w=>by
 simp [eqGuard,binOp,run_equal_map_nil w T kt et m<|qG hT]
end
end
section
def zbF (e sz:Nat) (A:Option Addr) (n c:Nat) (ds:List D):Res where
 R L F w:=∃ xs,All L w ds xs∧w.ownsRow 0 e sz (.slice A n c) n xs∧F=(Value.slice A n c).ownBlock.toList
 lt:=fun ⟨xs,ha,ho,hF⟩ x hx=>by
  subst hF;rcases ho.2 with ⟨h,_⟩ | ⟨g,cap,cur,h,_,hh,_⟩
  ·injection h with h1 h2 h3;subst h1;simp [Value.ownBlock] at hx
  ·injection h with h1 h2 h3;subst h1;simp [Value.ownBlock] at hx;rw [hx];exact (Jn.1 hh).1
 keep:=fun ⟨xs,ha,ho,hF⟩ hO hS hn=>by
  refine ⟨xs,ha.keep hO hS,⟨ho.1,?_⟩,hF⟩;rcases ho.2 with h | ⟨g,cap,cur,h,h2,hh,h3⟩
  ·exact .inl h
  ·refine .inr ⟨g,cap,cur,h,h2,(hO.block g (Jn.1 hh).1 (fun hm=>hn g hm ?_)).trans hh,h3⟩;injection h with h1;rw [hF,h1];simp [Value.ownBlock]
 less:=fun ⟨xs,ha,ho,hF⟩ hL=>⟨xs,ha.less hL,ho,hF⟩
theorem zgi {xs:List Value}:Le (slD xs) (rwD xs.length<|xs.map isD):=fun L w v ⟨A,c,hv,hc,hr,ha⟩=>⟨A,c,hv,hc,fun h0=>by
 rw [JO] at h0;obtain ⟨g,o,e,hg,hcell⟩:=hr h0
 exact ⟨g,o,e,hg,ha h0 _ e,xs,qN xs,hcell⟩⟩
theorem le_rw_sl {xs:List Value}:Le (rwD xs.length<|xs.map isD) (slD xs):=fun L w v ⟨A,c,hv,hc,ha⟩=>⟨A,c,hv,hc,fun h0=>by
 obtain ⟨g,o,e,hg,hn,cs,h1,h2⟩:=ha (by rw [JO];exact h0);rw [jj h1] at h2
 exact ⟨g,o,e,hg,h2⟩,fun h0 p hp=>by
 obtain ⟨g,o,e,hg,hn,_⟩:=ha (by rw [JO];exact h0);rw [e] at hp;injection hp with hp;subst hp
 exact hn⟩
section
variable {P:Program}{Γ:Cx}{σ:St}{S:List Nat}{dst:Option Tmp}{ty:TypeId}{pos:String}{af:Array Edge}{gd:Option (Nat × Bool)}{d:D}{Q:Exit→Act→World→Prop}
theorem vec_nil (e sz:Nat) {a:Act} {w:World} (h:Holds Γ σ a w):Holds Γ ⟨σ.tm,σ.bx ++ [.r []<|zbF e sz none 0 0 []]⟩ a w:=
 h.more (Only.refl [] w) (b:= .r []<|zbF e sz none 0 0 []) ⟨[],trivial,⟨by simp,.inl ⟨rfl,rfl⟩⟩,rfl⟩ (by simp [Box.fp]) (by simp [Box.fp])
def elT (P:Program) (e sz bytes:Nat):Bool:=match P.info? e with | some i=>(i.size == sz) && ((i.bytes == bytes) && (match i.zero with | some z=>z.cells.size == sz | none=>false)) | none=>false
theorem qR {e sz bytes:Nat} (h:elT P e sz bytes=true):∃ i z,P.info? e=some i∧i.size=sz∧i.bytes=bytes∧i.zero=some z∧z.cells.size=sz:=by
 unfold elT at h
 split at h
 ·rename_i i hi;simp only [JL,JT] at h;obtain ⟨h1,h3,h2⟩:=h
  split at h2
  ·rename_i z hz;exact ⟨i,z,hi,h1,h3,hz,by simpa using h2⟩
  ·cases h2
 ·cases h
theorem Ef.makeV {x y:Operand} {T e k c:Nat} {ci:Int} (sz bytes:Nat) (hx:σ.ev x=some (isD<|.int .i64 0)) (hy:σ.ev y=some (isD<|.int .i64 ci)) (hT:ZS P T e=true) (hE:elT P e sz bytes=true) (hc:ci=(c:Int)) (hn:c≤1099511627776) (hb:bytes≤128) (hk:yE Γ.nt k=true):
  Ef P Γ S ⟨some k,.makeSlice T x y,ty,pos,af,gd⟩ σ (fun σ'=>∃ g,σ'=(⟨σ.tm,σ.bx ++ [.r [g]<|zbF e sz (some ⟨g,0,none⟩) 0 c []]⟩:St).put k (isD<|.slice (some ⟨g,0,none⟩) 0 c)):=by
 intro a w hh K Q hK;have hxv:a.eval x= .int .i64 0:=zT hh hx;have hyv:a.eval y= .int .i64 ci:=zT hh hy;obtain ⟨i,z,hI,h1,h2,h3,h4⟩:=qR hE;have hbc:=Xx hb hn
 have hbI:(i.bytes:Int) * (c:Int)≤281474976710656:=by
  rw [h2]
  have h5:((bytes * c:Nat):Int)≤281474976710656:=by omega
  rw [Int.natCast_mul] at h5;exact h5
 have hrun:=run_make (P:=P) w T e i z (yo hT) hI h3 .i64 .i64 (0:Int) (c:Int) o9 o9 hbI o9;have h5:=hh.more ((Only.refl [] w).alloc<|.cells (madeCells z.cells<|(c:Int).toNat * i.size) e) (b:= .r [w.heap.size]<|zbF e sz (some ⟨w.heap.size,0,none⟩) 0 c []) ⟨[],trivial,⟨by simp,.inr ⟨w.heap.size,c,_,rfl,JC _,Xw w _,JC _,by simp only [maxLen];omega,?_,by simp⟩⟩,rfl⟩ (fun g hg=>by rw [Ja.1 hg];exact Js _) (by simp [Box.fp])
 ·unfold Oper.wp execOp;simp only [hxv,hyv,hc,JD,hrun,Jv,JK,J7,Int.toNat_zero];exact hK _ _ _ ⟨_,V⟩ (h5.put (by simpa [yE] using hk) V) ((Only.refl S w).alloc _)
 ·rw [J7,h1];simp [madeCells,h4]
