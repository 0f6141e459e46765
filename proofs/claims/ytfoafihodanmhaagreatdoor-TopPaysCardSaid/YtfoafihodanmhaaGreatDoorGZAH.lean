/- PAIRS OF DIGESTS, compared. CALLS that read boxes of one's own and return things that are new and flat. SLICES OF SLICES of which one element's block  -/
import Derived.Test.YtfoafihodanmhaaGreatDoorGZAG
import Derived.RangeFuncOwn
import Derived.Sort.LoopGhostIn
import Derived.OrdersIn
import Derived.LoopN
namespace Go.Proofs.YtfoafihodanmhaaGreatDoor
open Go.RowKit
namespace Sx
section
section
variable {P:Program}{Γ:Cx}{σ:St}{S:List Nat}{dst:Option Tmp}{ty:TypeId}{pos:String}{af:Array Edge}{gd:Option (Nat × Bool)}{d:D}
end
end
section
class Flat (d:D):Prop where
 h:∀ L L' w v,d.R L w v→d.R L' w v
instance (v:Value):Flat (isD v):=⟨fun _ _ _ _ h=>h⟩
class Flats (ds:List D):Prop where
 h:∀ L L' w vs,All L w ds vs→All L' w ds vs
instance:Flats []:=⟨fun _ _ _ vs h=>by cases vs with | nil=>trivial | cons=>exact h.elim⟩
instance (d:D) (ds:List D) [hd:Flat d] [hs:Flats ds]:Flats (d :: ds):=⟨fun L L' w vs h=>by
 cases vs with
 | nil=>exact h.elim
 | cons v vs=>exact ⟨hd.h _ _ _ _ h.1,hs.h _ _ _ _ h.2⟩⟩
instance (ds:List D) [hs:Flats ds]:Flat (ZH ds):=⟨fun L L' w v ⟨cs,hv,ha⟩=>⟨cs,hv,hs.h _ _ _ _ ha⟩⟩
theorem zc7 (b:LB):Flats (b.flatMap Ve):=⟨fun L L' w vs h=>by
 induction b generalizing vs with
 | nil=>cases vs with | nil=>trivial | cons=>exact h.elim
 | cons x b ih=>
  cases vs with
  | nil=>exact h.elim
  | cons v vs=>exact ⟨h.1,ih vs h.2⟩⟩
class FlatBx (b:Box):Prop where
 h:∀ L L' w,b.R L w→b.R L' w
instance (F:LN) (e c:Nat) (A:Option Addr) (b:LB):FlatBx (.r F<|yi e 1 Ve A c b):=⟨fun L L' w ⟨xs,ha,h⟩=>⟨xs,(zc7 b).h _ _ _ _ ha,h⟩⟩
section
variable {P:Program}{Γ:Cx}{σ:St}{S:List Nat}{dst:Option Tmp}{ty:TypeId}{pos:String}{af:Array Edge}{gd:Option (Nat × Bool)}{d:D}{a:Act}{w:World}
theorem upon_RS {f:FuncId} {vs:List Value} {ad es:List D} {ι:Type} {post:ι→List Box} {d:ι→D} (hcon:ConR P f [] ad post d) (hd:∀ i,Flat<|d i) (hb:∀ i,∀ b∈post i,FlatBx b) (hh:Holds Γ σ a w) {js:LN} (hs:SeesAll Γ σ js es ad) (hall:All (σ.L Γ) w es vs):
  Calls P f vs.toArray w fun e w'=>∃ i v,e= .returned v∧Holds Γ (σ.give []<|post i) a w'∧(d i).R ((σ.give []<|post i).L Γ) w' v∧Only [] w w':=by
 classical
 have ho:Off Γ σ js ((σ.L Γ).filter (fun x=>decide (∀ j∈js,∀ b,σ.bx[j]? =some b→x∉b.fp))):=⟨fun x hx=>(Jw.1 hx).1,fun j hj b hb x hx hm=>by
  have:=(Jw.1 hm).2;simp only [Jz] at this
  exact this j hj b hb hx⟩
 refine (hcon.go _ w vs (fun g hg=>hh.lt g<|ho.1 g hg) hh.gl (by simp [fps]) (by simp [fps]) (by simp [fps]) s9 ?_).mono ?_
 ·simpa [fps] using hs.all hh ho hall
 ·rintro r w' ⟨i,v,rfl,hdv,hR,hnd,hnw,hO⟩;obtain ⟨h1,h2⟩:=hh.give (js:=[]) (pre:=[]) (by trivial) hO (fun b hbm=>(hb i b hbm).h _ _ _<|hR b hbm) hnd hnw;exact ⟨i,v,I,h1,(hd i).h _ _ _ _ hdv,hO⟩
theorem qW {f:FuncId} {args:Array Operand} {aT:Array TypeId} {ad es:List D} {ι:Type} {post:ι→List Box} {d:ι→D} {k:Nat} (js:LN) (hcon:ConR P f [] ad post d) (hd:∀ i,Flat<|d i) (hb:∀ i,∀ b∈post i,FlatBx b) (he:σ.evs args.toList=some es) (hs:SeesAll Γ σ js es ad) (hk:yp Γ.nt k=true):
  Ef P Γ S ⟨some k,.call { callee:= .value<|.func f,args:=args,argTypes:=aT },ty,pos,af,gd⟩ σ (fun σ'=>∃ i,σ'=(σ.give []<|post i).put k (d i)):=by
 intro a w hh K Q hK;have hall:=Zt hh he;unfold Oper.wp;rw [YG (cap:=[]) hcon.en (show a.eval (.func f)= .func (.func f) #[] ([]:List Value).toArray from rfl),JS];simp only [Oper.upon];refine (upon_RS hcon hd hb hh hs hall).mono ?_;rintro r w' ⟨i,v,rfl,h1,h2,ho⟩;exact hK _ _ _ ⟨i,I⟩ (h1.put (by simpa [yp] using hk) h2) (ho.mono s9)
end
end
section
inductive El
 | k (b:LB)
 | x (A:Option Addr) (n c:Nat)
def encX:El→List D
 | .k b=>[bD b]
 | .x A n c=>[isD<|.slice A n c]
instance:Row encX 1:=⟨fun e=>by cases e <;> rfl,fun e=>by cases e <;> (unfold encX;infer_instance),by decide⟩
section
variable {P:Program}{Γ:Cx}{σ:St}{Q:Exit→Act→World→Prop}{a:Act}{w:World}
end
end
end Sx
namespace Reg
theorem wpGany {P:Program} {Q:Exit→Act→World→Prop} {l:List Oper} (S:LN) (t:Tz) {a:Act} {w:World} (hok:okZL l t=true)
  (hQ:∀ (d:Option Tmp) (v:Value) (c:List PanicEntry) (a:Act) (w:World),Q (.panic c) (a.put d v) w→Q (.panic c) a w)
  (h:wpG P l Q t S a w):Go.wpAny P .any l.toArray Q l.toArray.size (Array.replicate l.toArray.size false) a w:=by
 simp only [okZL,JL,Jz] at hok;obtain ⟨⟨h1,h2⟩,h3⟩:=hok;refine jO (E:=t.eff) _ _ S _ _ ?_;have:=(qv (P:=P) (Q:=Q) (E:=t.eff) (ops:=l.toArray) rfl h1 hQ t).1 (Array.replicate l.length false) S a w h3 h;rw [h2] at this;simpa using this
end Reg
namespace Sx
section
section
variable {P:Program}{Γ:Cx}{σ σ':St}{Q:Exit→Act→World→Prop}{r:Nat}{l:List Oper}{a:Act}{w:World}
abbrev Rf (r:Nat):Fence:=Fence.wide.inRound r
def isDf (o:Oper):Bool:=match o.op with | .defer _=>true | _=>false
def noDf (l:List Oper):Bool:=l.all fun o=> !isDf o
theorem noDf_spec (h:noDf l=true) {o:Oper} (ho:o∈l):∀ c,o.op≠ .defer c:=fun c e=>by
 have h1:=List.all_eq_true.1 h o ho;simp [isDf,e] at h1
theorem qf (e:Fence.wide.depth.isSome=true):1≤0:=Bool.noConfusion (show false=true from e)
theorem upon_in {o:Oper} {K:Act→World→Prop}:∀ {x:Result Next},o.upon P a K Q x→o.uponIn Fence.wide 0 P a K Q x
 | .ok (.value _) _,h=>h
 | .ok .skip _,h=>h
 | .ok (.defer _) _,h=>h
 | .ok (.enter f args) w',h=>⟨qf,callsIn_wide.2 (Calls.mono h fun e w'' he=>by cases e <;> exact he)⟩
 | .ok (.row row args) w',h=>⟨qf,fun c cs _=>let ⟨v,w'',q,s⟩:=h c cs;⟨v,w'',q,stepsIn_wide.2 s⟩⟩
 | .halt (.panic _) _,h=>h
 | .ok n w',h=>by cases n <;> first | exact h | exact h.elim | exact ⟨qf,callsIn_wide.2 (Calls.mono h fun e w'' he=>by cases e <;> exact he)⟩ | exact ⟨qf,fun c cs _=>let ⟨v,w'',q,s⟩:=h c cs;⟨v,w'',q,stepsIn_wide.2 s⟩⟩
 | .halt n w',h=>by cases n <;> first | exact h | exact h.elim
theorem oper_in {o:Oper} {K:Act→World→Prop} (hd:∀ c,o.op≠ .defer c) (h:o.wp P a w K Q):o.wpIn (Rf r) 0 P a w K Q:=by
 refine ⟨fun _ _=>t9,?_⟩;rw [Oper.semAt_eq _ _ _ hd];exact upon_in h
theorem Wp {o:Oper} {K:Act→World→Prop} (h:o.wp P a w K Q):o.wpIn Fence.wide 0 P a w K Q:=⟨fun _ _=>trivial,upon_in h⟩
theorem op_in {i:Nat} {K K':Act→World→Prop} (hnd:noDf l=true) (hQ:¬LetsOut Q) (hK:∀ a w,K a w→K' a w) (h:wpOp P l.toArray Q i K a w):wpOpIn (Rf r) 0 P l.toArray Q i K' a w:=by
 unfold wpOp at h;unfold wpOpIn
 cases ho:l.toArray[i]? with
 | none=>simp only [ho] at h ⊢;exact hK _ _ h
 | some o=>
  simp only [ho] at h ⊢;have hm:o∈l:=Jc (i:=i) (by simpa using ho)
  split
  ·rename_i hw;rw [Jh hw] at h;rcases h with h | ⟨_,h⟩
   ·exact Oper.wpIn_mono hK (oper_in (noDf_spec hnd hm) h)
   ·exact absurd h hQ
  ·rename_i hw;rw [Jb hw] at h;exact ⟨fun _ _=>t9,hK _ _ h⟩
theorem ops_in (hnd:noDf l=true) (hQ:¬LetsOut Q):∀ (is:LN) (a:Act) (w:World),wpOps P l.toArray Q is a w→wpOpsIn (Rf r) 0 P l.toArray Q is a w
 | [],_,_,h=>h
 | i :: is,a,w,h=>by
  rw [wpOpsIn_cons];rw [wpOps_cons] at h;exact op_in hnd hQ (fun a w h=>ops_in hnd hQ is a w h) h
theorem any_in (hnd:noDf l=true) (hQ:¬LetsOut Q):∀ (n:Nat) (listed:Array Bool) (a:Act) (w:World),wpAny P .any l.toArray Q n listed a w→wpAnyIn (Rf r) 0 P .any l.toArray Q n listed a w
 | 0,_,_,_,h=>h
 | n + 1,listed,a,w,h=>⟨h.1,fun i hi=>op_in hnd hQ (fun a w h=>any_in hnd hQ n _ a w h)<|h.2 i hi⟩
def SWr (P:Program) (r:Nat) (Γ:Cx) (σ:St) (c:Code) (Q:Exit→Act→World→Prop):Prop:=∀ a w,Holds Γ σ a w→c.wpIn (Rf r) 0 P Q a w
theorem zbF {x y:Code} (h:SWr P r Γ σ x (Exit.then (fun a w=>y.wpIn (Rf r) 0 P Q a w) Q)):SWr P r Γ σ (.seq x y) Q:=fun a w hh=>wpIn_seq (h a w hh)
theorem VX {c:Code} (h:SWr P r Γ σ c Q):SN Γ (Exit.then (fun a w=>c.wpIn (Rf r) 0 P Q a w) Q) σ:=fun a w hh=>h a w hh
theorem zes (h:SN Γ Q σ):SWr P r Γ σ .skip Q:=fun a w hh=>wpIn_skip (h a w hh)
theorem YE {id:Nat} (hnd:noDf l=true) (hQ:∀ a w,Q .outgrown a w→False) (h:SWl P Γ l.toArray Q l σ):SWr P r Γ σ (.region id l.toArray false) Q:=fun a w hh=>by
 refine wpIn_region (ops_in hnd (fun ⟨a,w,h⟩=>hQ a w h) _ a w ?_);have h1:=h a w hh;have h2:=wpOps_eq_wpList (P:=P) (Q:=Q) (ops:=l.toArray) l 0 s9;rw [List.range_eq_range',List.size_toArray,h2];exact h1
theorem j5 {id:Nat} (S:LN) (t:Reg.Tz) (hnd:noDf l=true) (hQo:∀ a w,Q .outgrown a w→False) (hm:P.follows .mixedOrders=true) (hok:Reg.okZL l t=true)
  (hQ:∀ (d:Option Tmp) (v:Value) (c:List PanicEntry) (a:Act) (w:World),Q (.panic c) (a.put d v) w→Q (.panic c) a w) (h:SWz P Γ l Q S t σ):SWr P r Γ σ (.region id l.toArray true) Q:=fun a w hh=>
 wpIn_region_any hm (any_in hnd (fun ⟨a,w,h⟩=>hQo a w h) _ _ _ _<|Reg.wpGany S t hok hQ<|h a w.drew hh.drew)
theorem SWr.cond {c:Operand} {x y:Code} {b:Bool} (hc:σ.ev c=some (isD<|.bool b)) (ht:b=true→SWr P r Γ σ x Q) (hf:b=false→SWr P r Γ σ y Q):SWr P r Γ σ (.cond c x y) Q:=fun a w hh=>
 wpIn_cond_split (show a.eval c= .bool b from zR hh hc) (fun h=>ht h a w hh) (fun h=>hf h a w hh)
theorem zcG {c:Operand} {x y:Code} {b:Bool} (hc:σ.ev c=some (isD<|.bool b)) (hb:b=false) (hf:SWr P r Γ σ y Q):SWr P r Γ σ (.cond c x y) Q:=SWr.cond hc (fun h=>by rw [hb] at h;cases h) (fun _=>hf)
theorem qU {n:Nat} {c:Code} (h:SWr P r Γ σ c (Exit.inBlock n Q)):SWr P r Γ σ (.block n c) Q:=fun a w hh=>wpIn_block (h a w hh)
def rQ (Γ:Cx) (N:St→Prop) (X:Option Nat→St→Prop):Exit→Act→World→Prop
 | .normal,a,w=>∃ σ',N σ'∧Holds Γ σ' a w
 | .exit id,a,w=>∃ σ',X (some id) σ'∧Holds Γ σ' a w
 | .ret,a,w=>∃ σ',X none σ'∧Holds Γ σ' a w
 | _,_,_=>False
theorem jt {N:St→Prop} {X:Option Nat→St→Prop} (hN:N σ') (hs:Sub σ σ'):SN Γ (rQ Γ N X) σ:=fun _ _ hh=>⟨σ',hN,hh.sub hs⟩
def Yields (P:Program) (y:Nat) (vs:List Value) (w:World) (R:Bool→World→Prop):Prop:=
 ∃ fn tm ag bd,(Instr.yield y vs.toArray).run P w= .ok (.round y fn tm ag bd) w∧RoundIn Fence.wide 0 P y fn tm ag bd w fun e w'=>∃ b,e= .returned (.bool b)∧R b w'
structure ConY (P:Program) (y:Nat) (pre:List Box) (ad:List D) {ι:Type} (post:ι→List Box) (b:ι→Bool):Prop where
 go:∀ (L:LN) (w:World) (vs:List Value),(∀ x∈L,x < w.heap.size)→glob.R w→(∀ g∈fps pre,g∉glob.F)→(∀ g∈fps pre,g∉L)→(fps pre).Nodup→(∀ x∈pre,x.R (fps pre ++ L) w)→All (fps pre ++ L) w ad vs→
  Yields P y vs w fun u w'=>∃ i,u=b i∧(∀ x∈post i,x.R (fps (post i) ++ L) w')∧(fps<|post i).Nodup∧(∀ g∈fps (post i),g∈fps pre∨w.heap.size≤g)∧Only (fps pre) w w'
def Seq (P:Program) (f:FuncId) (cs:List D) {α κ:Type} (ib:α→κ→List Box) (dd:α→κ→List D) (items:List α):Prop:=
 ∀ (J Jx:Nat→Res) (y:Nat),(∀ (i:Nat) (x:α) (k:κ) (F:LN),items[i]? =some x→ConY P y (.r F (J i) :: ib x k) (dd x k) (fun t:LN × Bool=>[.r t.1 (if t.2=true then J (i + 1) else Jx<|i + 1)]) (fun t=>t.2))→
  ∀ F,ConR P f [.r F<|J 0] (isD (.func (.yield y) #[] #[]) :: cs) (fun t:LN × Option Nat=>[.r t.1 (match t.2 with | none=>J items.length | some i=>Jx<|i + 1)]) (fun _=>isD<|.tuple #[])
def fnD (f:FuncId) (ds:List D):D:=⟨fun L w v=>∃ cs:List Value,v= .func (.func f) #[] cs.toArray∧All L w ds cs,
 fun ⟨cs,h,k⟩ ho hS=>⟨cs,h,k.keep ho hS⟩,fun ⟨cs,h,k⟩ hS=>⟨cs,h,k.less hS⟩⟩
instance (f:FuncId) (ds:List D):One (fnD f ds):=⟨fun _ _ _ h=>by obtain ⟨cs,rfl,_⟩:=h;rfl⟩
def qj (P:Program) (ops:Array Oper) (Q:Exit→Act→World→Prop):List Oper→Act→World→Prop
 | [],a,w=>Q .normal a w
 | o :: rest,a,w=>if Region.wanted o (yielded ops a.tmps) then o.wpIn Fence.wide 0 P a w (qj P ops Q rest) Q else qj P ops Q rest (a.put o.dst undef) w
theorem Vt {ops:Array Oper}:∀ (l:List Oper) (k:Nat),(∀ j,j < l.length→l[j]? =ops[k + j]?)→∀ a w,qj P ops Q l a w→wpOpsIn Fence.wide 0 P ops Q (List.range' k l.length) a w
 | [],_,_,_,_,h=>h
 | o :: rest,k,hl,a,w,h=>by
  rw [Xm,List.range'_succ,wpOpsIn_cons]
  have h0:ops[k]? =some o:=by have:=hl 0 s9;simpa using this.symm
  have ih:=Vt rest (k + 1) (fun j hj=>by have:=hl (j + 1) (by simp;omega);rw [show k + 1 + j=k + (j + 1) by omega,← this];simp);unfold wpOpIn;simp only [h0];unfold qj at h
  split
  ·rename_i hw;rw [Jh hw] at h;exact Oper.wpIn_mono (fun a w h=>ih a w h) h
  ·rename_i hw;rw [Jb hw] at h;exact ⟨fun _ _=>t9,ih _ _ h⟩
def SWk (P:Program) (Γ:Cx) (ops:Array Oper) (Q:Exit→Act→World→Prop) (l:List Oper) (σ:St):Prop:=∀ a w,Holds Γ σ a w→qj P ops Q l a w
theorem zfC {id:Nat} (h:SWk P Γ l.toArray Q l σ):SW P Γ σ (.region id l.toArray false) Q:=fun a w hh=>by
 refine wpIn_wide (n:=0).1 (wpIn_region ?_);rw [List.range_eq_range',List.size_toArray];exact Vt l 0 s9 a w (h a w hh)
section
variable {ops:Array Oper}{op:Op}{dst:Option Tmp}{ty:TypeId}{pos:String}{af:Array Edge}{rest:List Oper}{k:Nat}{d:D}
theorem SWk.nil (h:SN Γ Q σ):SWk P Γ ops Q [] σ:=fun a w hh=>h a w hh
theorem SWk.rd (hd:yp Γ.nt k=true) (h:Rd P Γ [] ⟨some k,op,ty,pos,af,none⟩ σ d) (hk:SWk P Γ ops Q rest (σ.put k d)):SWk P Γ ops Q (⟨some k,op,ty,pos,af,none⟩ :: rest) σ:=fun a w hh=>by
 obtain ⟨v,h1,h2⟩:=h a w hh;unfold qj;rw [Jh (show Region.wanted _ _=true from rfl)];refine Wp ?_;unfold Oper.wp;rw [h2 w<|Only.refl _ _];exact hk _ _ (hh.put (by simpa [yp] using hd) h1)
theorem SWk.ef {S:LN} {T:St→Prop} (h:Ef P Γ S ⟨dst,op,ty,pos,af,none⟩ σ T) (hk:∀ σ',T σ'→SWk P Γ ops Q rest σ'):SWk P Γ ops Q (⟨dst,op,ty,pos,af,none⟩ :: rest) σ:=fun a w hh=>by
 unfold qj;rw [Jh (show Region.wanted _ _=true from rfl)];exact Wp (h a w hh _ _ fun σ' a' w' hT hh' _=>hk σ' hT a' w' hh')
theorem SWk.yield {x:Operand} {y:Nat} {args:Array Operand} {aT:Array TypeId} {pre:List Box} {ad es:List D} {ι:Type} {post:ι→List Box} {b:ι→Bool} (js:LN) (hcon:ConY P y pre ad post b) (hx:σ.ev x=some (isD<|.func (.yield y) #[] #[])) (he:σ.evs args.toList=some es) (hl:LeAll es ad) (hjs:js.Nodup) (hs:SubBx σ.bx js pre) (hk:yp Γ.nt k=true)
  (hn:∀ i,SWk P Γ ops Q rest<|(σ.give js<|post i).put k<|isD<|.bool<|b i):SWk P Γ ops Q (⟨some k,.call { callee:= .value x,args:=args,argTypes:=aT },ty,pos,af,none⟩ :: rest) σ:=fun a w hh=>by
 unfold qj;rw [Jh (show Region.wanted _ _=true from rfl)];have hall:=hl.all (Zt hh he);have hxv:a.eval x= .func (.yield y) #[] #[]:=zR hh hx
 have hL1:∀ x∈fps pre ++ (σ.L Γ).filter (· ∉fps pre),x∈σ.L Γ∨w.heap.size≤x:=fun x hx=>by
  rcases Jf.1 hx with hx | hx
  ·exact .inl (mL _<|hs.fps hx)
  ·exact .inl (Jw.1 hx).1
 obtain ⟨fn,tm,ag,bd,hy,hr⟩:=hcon.go ((σ.L Γ).filter (· ∉fps pre)) w _ (fun x hx=>hh.lt x (Jw.1 hx).1) hh.gl (fun g hg=>hh.off g<|hs.fps hg) (fun g hg hm=>by have:=(Jw.1 hm).2;simp at this;exact this hg) (YV hh.nd hjs hs) (fun b' hb'=>by
  obtain ⟨j,c,_,h5,h6⟩:=SubBx.mem hs b' hb'
  exact h6.2 _ _<|Box.less (hh.bx c<|Jc h5) hL1) (hall.less hL1)
 refine ⟨fun _ _=>t9,?_⟩
 have e1:args.map a.eval=(args.toList.map a.eval).toArray:=by apply Xe;simp
 have e:(execOp a.eval ⟨some k,.call { callee:= .value x,args:=args,argTypes:=aT },ty,pos,af,none⟩).run P w= .ok (.round y fn tm ag bd) w:=by
  simp only [execOp,resolve,hxv,Deferred.ofValue,JD,JK,Jv,invoke,Array.empty_append];rw [e1];simpa using hy
 rw [show Fence.wide.round=none from rfl,Oper.semAt_none,e,Oper.uponIn_round];refine ⟨qf,hr.mono ?_⟩;rintro e w' ⟨u,rfl,i,rfl,hR,hnd,hnw,ho⟩;exact hn i _ _ ((hh.give hs ho hR hnd hnw).1.put (by simpa [yp] using hk) I)
end
end
end
section
section
variable {P:Program}{Γ:Cx}{σ σ':St}{Q:Exit→Act→World→Prop}{a:Act}{w w':World}
theorem KD {y:Nat} {o:Obj}:Only [y] w (w.putObj y o):=Wr
theorem Holds.apart (h:Holds Γ σ a w) {g:Nat} (hg:g∈fps σ.bx):g∉Γ.base:=fun hb=>by
 rcases h.nw g hg with h' | h'
 ·have:=h.bs g hb;omega
 ·exact h.dj.1 g h' hb
theorem Holds.carry (h:Holds Γ σ a w) {d:D} {v:Value} (hd:d.R (Γ.lent ++ Γ.base) Γ.w0 v):d.R (σ.L Γ) w v:=by
 have h1:d.R (σ.L Γ ++ (Γ.lent ++ Γ.base)) Γ.w0 v:=d.less hd (fun x hx=>by
  rcases Jf.1 hx with hx | hx
  ·rcases Jf.1 hx with hx | hx
   ·rcases h.nw x hx with h' | h'
    ·exact .inr h'
    ·exact .inl (mL _ h')
   ·exact .inl (mR _ hx)
  ·exact .inl hx)
 exact d.less (d.keep h1 h.on (fun x hx=>mR _<|mL _ hx)) (fun x hx=> .inl<|mL _ hx)
theorem Holds.rebase (h:Holds Γ σ a w) {S:LN} (ho:Only S w w') (hS:∀ x∈S,x∈Γ.base) (hg:∀ x∈S,x∉glob.F):Holds ⟨Γ.nt,Γ.base,w',fps σ.bx,Γ.df⟩ σ a w':=
 ⟨h.df,h.sz,fun i d hi=>d.keep (h.tm i d hi) ho (fun x hx=>mR _<|hS x hx),
  fun b hb=>Box.keep (h.bx b hb) ho (fun x hx=>mR _<|hS x hx) (fun x hx hm=>h.apart (yz.2 ⟨b,hb,hm⟩)<|hS x hx),
  h.nd,fun g hg=> .inr hg,Only.refl _ _,fun g hg=>Ju (h.bs g hg)<|JG h.on.size ho.size,
  fun g hg=>h.apart hg,glob.keep h.gl ho (fun g hg' hm=>hg g hm hg'),h.off⟩
def dfR:Res where
 R _ F w:=∃ dk,F=[dk]∧w.heap[dk]? =some (.deferred<|some [])
 lt:=fun ⟨dk,h,k⟩ g hg=>by subst h;rw [Ja.1 hg];exact (Jn.1 k).1
 keep:=fun ⟨dk,h,k⟩ ho _ hn=>⟨dk,h,by subst h;exact (ho.block dk (Jn.1 k).1 (fun hm=>hn dk hm s9)).trans k⟩
 less:=fun h _=>h
def jR (y dk:Nat) (tm:Nat→Option D) (ts:Array Value) (T:Loop→List Box→Prop):Res where
 R L F w:=∃ lo bx,T lo bx∧F=y :: dk :: fps bx∧w.heap[y]? =some (.loop lo)∧w.heap[dk]? =some (.deferred<|some [])∧(∀ i d,tm i=some d→d.R L w (ts.getD i undef))∧∀ b∈bx,b.R L w
 lt:=fun ⟨lo,bx,_,hF,hy,hd,_,hb⟩ g hg=>by
  subst hF;rcases Jt.1 hg with rfl | hg
  ·exact (Jn.1 hy).1
  ·rcases Jt.1 hg with rfl | hg
   ·exact (Jn.1 hd).1
   ·obtain ⟨b,h1,h2⟩:=yz.1 hg;exact Box.lt (hb b h1) g h2
 keep:=fun ⟨lo,bx,hT,hF,hy,hd,htm,hb⟩ ho hS hn=>⟨lo,bx,hT,hF,
  (ho.block _ (Jn.1 hy).1 (fun hm=>hn _ hm (by rw [hF];simp))).trans hy,
  (ho.block _ (Jn.1 hd).1 (fun hm=>hn _ hm (by rw [hF];simp))).trans hd,
  fun i d hi=>d.keep (htm i d hi) ho hS,fun b hm=>Box.keep (hb b hm) ho hS (fun x hx hx'=>hn x hx (by rw [hF];exact Jl _<|Jl _<|yz.2 ⟨b,hm,hx'⟩))⟩
 less:=fun ⟨lo,bx,hT,hF,hy,hd,htm,hb⟩ hL=>⟨lo,bx,hT,hF,hy,hd,fun i d hi=>d.less (htm i d hi) hL,fun b hm=>Box.less (hb b hm) hL⟩
def zcU (tm:Nat→Option D):LN→List D→Nat→Option D
 | p :: ps,d :: ds=>zcU (fun j=>cond (Nat.beq j p) (some d)<|tm j) ps ds
 | _,_=>tm
def Wl (ts:Array Value):LN→List Value→Array Value
 | p :: ps,v :: vs=>Wl (ts.setIfInBounds p v) ps vs
 | _,_=>ts
theorem zat:∀ (ps:LN) (vs:List Value) (ts:Array Value),(Wl ts ps vs).size=ts.size
 | [],_,_=>rfl
 | _ :: _,[],_=>rfl
 | p :: ps,v :: vs,ts=>by simp [Wl,zat ps vs]
theorem zbX:∀ (ps:LN) (vs:List Value) (ts:Array Value),(ps.toArray.zip vs.toArray).foldl (fun tmps (t,a)=>tmps.setIfInBounds t a) ts=Wl ts ps vs
 | [],_,_=>by rw [List.zip_toArray];simp [Wl]
 | _ :: _,[],_=>by rw [List.zip_toArray];simp [Wl]
 | p :: ps,v :: vs,ts=>by
  have ih:=zbX ps vs (ts.setIfInBounds p v);rw [List.zip_toArray] at ih ⊢;simp only [List.zip_cons_cons];simpa [Wl] using ih
theorem zau {L:LN}:∀ (ps:LN) (ds:List D) (vs:List Value) (tm:Nat→Option D) (ts:Array Value),All L w ds vs→(∀ p∈ps,p < ts.size)→(∀ i d,tm i=some d→d.R L w (ts.getD i undef))→∀ i d,zcU tm ps ds i=some d→d.R L w ((Wl ts ps vs).getD i undef)
 | [],ds,vs,tm,ts,_,_,h,i,d,hi=>by simp only [zcU,Wl] at hi ⊢;exact h i d hi
 | p :: ps,[],[],tm,ts,_,_,h,i,d,hi=>by simp only [zcU,Wl] at hi ⊢;exact h i d hi
 | p :: ps,e :: ds,v :: vs,tm,ts,ha,hp,h,i,d,hi=>by
  refine zau ps ds vs _ (ts.setIfInBounds p v) ha.2 (fun q hq=>by simp;exact hp q<|Jl _ hq) (fun j d' hj=> ?_) i d hi;simp only [Xv,Xt]
  by_cases e':p=j
  ·subst e';have:Nat.beq p p=true:=Nat.beq_refl p;rw [this] at hj;simp only [cond_true,Xy] at hj;subst hj;rw [Jh rfl,Jh<|hp p s9];simpa using ha.1
  ·have hb:Nat.beq j p=false:=by
    cases hb:Nat.beq j p
    ·rfl
    ·exact absurd (Nat.eq_of_beq_eq_true hb).symm e'
   rw [hb] at hj;rw [Jb e'];have:=h j d' hj;rwa [Xv] at this
def jmp:Option Nat→Code
 | none=> .ret
 | some n=> .exit n
theorem conY_of {y dk nt:Nat} {tm:Nat→Option D} {ts:Array Value} {ps:LN} {assign body:Code} {fn:FuncId} {Bi Bn:List Box→Prop} {X:Option Nat→List Box→Prop} {ib:List Box} {ds:List D} {T1:St→Prop} {F:LN}
  (hts:ts.size=nt) (hps:ds.length=ps.length) (hpn:∀ p∈ps,p < nt)
  (hass:∀ bx,Bi bx→∀ base w0,SWr P y ⟨nt,base,w0,fps<|bx ++ ib,[]⟩ ⟨zcU tm ps ds,bx ++ ib⟩ assign<|rQ ⟨nt,base,w0,fps<|bx ++ ib,[]⟩ T1 (fun _ _=>False))
  (hbody:∀ σ2,T1 σ2→∀ base w0,SWr P y ⟨nt,base,w0,fps σ2.bx,[]⟩ σ2 body<|rQ ⟨nt,base,w0,fps σ2.bx,[]⟩ (fun σ3=>Bn σ3.bx) (fun c σ3=>X c σ3.bx)):
  ConY P y (.r F (jR y dk tm ts (fun lo bx=>lo={ state:= .ready,pending:=none,fn,tmps:=ts,params:=ps.toArray,assign,body,defers:=dk }∧Bi bx)) :: ib) ds
   (fun t:LN × Bool=>[.r t.1 (if t.2=true then jR y dk tm ts (fun lo bx=>lo={ state:= .ready,pending:=none,fn,tmps:=ts,params:=ps.toArray,assign,body,defers:=dk }∧Bn bx) else jR y dk tm ts (fun lo bx=>∃ c,lo={ state:= .done,pending:=some<|jmp c,fn,tmps:=ts,params:=ps.toArray,assign,body,defers:=dk }∧X c bx))]) (fun t=>t.2):=by
 refine ⟨fun L w vs hL hG hgF hgL hnd hbx ha=> ?_⟩;obtain ⟨lo,bx,⟨hlo,hBi⟩,hF,hy,hdk,htm,hbs⟩:=hbx (.r F _) mC;subst hF
 have hvl:vs.length=ps.length:=by rw [ha.length,hps]
 have hyl:=run_yield (P:=P) (args:=vs.toArray) hy (by rw [hlo];simp [hvl]);rw [hlo] at hyl hy;simp only at hyl;rw [zbX] at hyl;have hylt:=(Jn.1 hy).1;have hdlt:=(Jn.1 hdk).1
 -- blocks
 have hfp:fps (Box.r (y :: dk :: fps bx) (jR y dk tm ts (fun lo bx=>lo={ state:= .ready,pending:=none,fn,tmps:=ts,params:=ps.toArray,assign,body,defers:=dk }∧Bi bx)) :: ib)=y :: dk :: fps (bx ++ ib):=by
  rw [ZJ,qM];simp [Box.fp]
 rw [hfp] at hgF hgL hnd hbx ha htm hbs ⊢;have hyn:y∉fps (bx ++ ib):=fun h=>(Xd.1 hnd).1 (Jl _ h);have hyd:y≠dk:=fun h=>(Xd.1 hnd).1 (by rw [h];exact mC);have hnd2:=(Xd.1 hnd).2;have hdn:dk∉fps (bx ++ ib):=(Xd.1 hnd2).1
 have hLe:∀ x,x∈(y :: dk :: fps (bx ++ ib)) ++ L↔x∈fps (bx ++ ib) ++ (y :: dk :: L):=fun x=>by
  simp only [Jf,Jt]
  constructor
  ·rintro ((h | h | h) | h)
   ·exact .inr (.inl h)
   ·exact .inr (.inr<|.inl h)
   ·exact .inl h
   ·exact .inr (.inr<|.inr h)
  ·rintro (h | h | h | h)
   ·exact .inl (.inr<|.inr h)
   ·exact .inl (.inl h)
   ·exact .inl (.inr<|.inl h)
   ·exact .inr h
 have hL1:∀ x∈fps (bx ++ ib) ++ (y :: dk :: L),x∈(y :: dk :: fps (bx ++ ib)) ++ L∨w.heap.size≤x:=fun x hx=> .inl ((hLe x).2 hx)
 have hbase:∀ g∈y :: dk :: L,g < w.heap.size:=fun g hg=>by
  rcases Jt.1 hg with rfl | hg
  ·exact hylt
  ·rcases Jt.1 hg with rfl | hg
   ·exact hdlt
   ·exact hL g hg
 have hh:Holds ⟨nt,y :: dk :: L,w,fps<|bx ++ ib,[]⟩ ⟨zcU tm ps ds,bx ++ ib⟩ ⟨Wl ts ps vs,[]⟩ w:=by
  refine ⟨I,by simp [zat,hts],fun i d hi=> ?_,fun b hb=> ?_,(Xd.1 hnd2).2,fun g hg=> .inr hg,Only.refl _ _,hbase,fun g hg hm=> ?_,hG,fun g hg=>hgF g<|Jl _<|Jl _ hg⟩
  ·exact zau ps ds vs tm ts (ha.less hL1) (fun p hp=>by rw [hts];exact hpn p hp) (fun i d hi=>d.less (htm i d hi) hL1) i d hi
  ·rcases Jf.1 hb with hb | hb
   ·exact Box.less (hbs b hb) hL1
   ·exact Box.less (hbx b<|Jl _ hb) hL1
  ·rcases Jt.1 hm with rfl | hm
   ·exact hyn hg
   ·rcases Jt.1 hm with rfl | hm
    ·exact hdn hg
    ·exact hgL g (Jl _<|Jl _ hg) hm
 refine ⟨fn,_,assign,body,hyl,roundIn_of_wpIn t9 ?_⟩;refine wpIn_mono (hass bx hBi (y :: dk :: L) w _ w hh) ?_;rintro e a1 w1 hq
 cases e with
 | normal=>
  obtain ⟨σ2,hT1,h1⟩:=hq;have hy1:=(h1.on.block y hylt hyn).trans hy;have hd1:=(h1.on.block dk hdlt hdn).trans hdk;refine ⟨_,run_beginRound hy1 I,?_⟩
  generalize hw2:w1.putObj y _=w2
  have hy1lt:=(Jn.1 hy1).1
  have ho2:Only [y] w1 w2:=by rw [← hw2];exact KD
  have hy2:w2.heap[y]? =some (.loop { state:= .busy,pending:=none,fn,tmps:=ts,params:=ps.toArray,assign,body,defers:=dk }):=by rw [← hw2];exact World.putObj_heap_same hy1lt
  have hd2:w2.heap[dk]? =some (.deferred<|some []):=(ho2.block dk (Jn.1 hd1).1 (by simpa using Ne.symm hyd)).trans hd1;have h2:=h1.rebase ho2 (fun x hx=>by rw [Ja.1 hx];exact mC) (fun x hx=>by rw [Ja.1 hx];exact hgF y mC);refine wpIn_mono (hbody σ2 hT1 (y :: dk :: L) w2 _ _ h2) ?_
  have fin:∀ (σ3:St) (a3:Act) (w3:World) (jump:Option Code) (T:Loop→List Box→Prop),Holds ⟨nt,y :: dk :: L,w2,fps σ2.bx,[]⟩ σ3 a3 w3→T { state:=if jump.isNone then .ready else .done,pending:=jump,fn,tmps:=ts,params:=ps.toArray,assign,body,defers:=dk } σ3.bx→
    ∃ w4,(Instr.endRound y jump).run P w3= .ok (.bool jump.isNone) w4∧(jR y dk tm ts T).R ((y :: dk :: fps σ3.bx) ++ L) (y :: dk :: fps σ3.bx) w4∧(y :: dk :: fps σ3.bx).Nodup∧(∀ g∈y :: dk :: fps σ3.bx,g∈y :: dk :: fps (bx ++ ib)∨w.heap.size≤g)∧Only (y :: dk :: fps (bx ++ ib)) w w4:=by
   intro σ3 a3 w3 jump T h3 hT;have hy2n:y∉fps σ2.bx:=fun h=>h1.apart h mC;have hd2n:dk∉fps σ2.bx:=fun h=>h1.apart h (Jl _ mC);have hy3:=(h3.on.block y (Jn.1 hy2).1 hy2n).trans hy2;have hd3:=(h3.on.block dk (Jn.1 hd2).1 hd2n).trans hd2;have hy3lt:=(Jn.1 hy3).1;refine ⟨_,run_endRound jump hy3,?_⟩
   generalize hw4:w3.putObj y _=w4
   have ho4:Only [y] w3 w4:=by rw [← hw4];exact KD
   have hLL:∀ x∈(y :: dk :: fps σ3.bx) ++ L,x∈fps σ3.bx ++ (y :: dk :: L)∨w4.heap.size≤x:=fun x hx=>by
    left
    simp only [Jf,Jt] at hx ⊢;rcases hx with (h | h | h) | h
    ·exact .inr (.inl h)
    ·exact .inr (.inr<|.inl h)
    ·exact .inl h
    ·exact .inr (.inr<|.inr h)
   have hyb:∀ x∈[y],x∈fps σ3.bx ++ (y :: dk :: L):=fun x hx=>by rw [Ja.1 hx];exact mR _ mC
   refine ⟨⟨_,σ3.bx,hT,I,by rw [← hw4];exact World.putObj_heap_same hy3lt,(ho4.block dk (Jn.1 hd3).1 (by simpa using Ne.symm hyd)).trans hd3,fun i d hi=> ?_,fun b hb=> ?_⟩,?_,fun g hg=> ?_,?_⟩
   ·have e1:d.R (fps (bx ++ ib) ++ (y :: dk :: L)) w (ts.getD i undef):=d.less (htm i d hi) hL1;have e2:d.R (fps σ2.bx ++ (y :: dk :: L)) w1 (ts.getD i undef):=h1.carry e1;have e3:d.R (fps σ2.bx ++ (y :: dk :: L)) w2 (ts.getD i undef):=d.keep e2 ho2 (fun x hx=>by rw [Ja.1 hx];exact mR _ mC);have e4:d.R (fps σ3.bx ++ (y :: dk :: L)) w3 (ts.getD i undef):=h3.carry e3;exact d.less (d.keep e4 ho4 hyb) hLL
   ·exact Box.less (Box.keep (h3.bx b hb) ho4 hyb (fun x hx hm=>by rw [Ja.1 hx] at hm;exact h3.apart (yz.2 ⟨b,hb,hm⟩) mC)) hLL
   ·refine Xd.2 ⟨fun h=> ?_,Xd.2 ⟨fun h=>h3.apart h<|Jl _ mC,h3.nd⟩⟩;rcases Jt.1 h with h | h
    ·exact hyd h
    ·exact h3.apart h mC
   ·rcases Jt.1 hg with rfl | hg
    ·exact .inl mC
    ·rcases Jt.1 hg with rfl | hg
     ·exact .inl (Jl _ mC)
     ·rcases h3.nw g hg with h' | h'
      ·exact .inr (JG h1.on.size<|JG ho2.size h')
      ·rcases h1.nw g h' with h'' | h''
       ·exact .inr h''
       ·exact .inl (Jl _<|Jl _ h'')
   ·have o1:Only (y :: dk :: fps (bx ++ ib)) w w1:=h1.on.mono (fun x hx _=>Jl _<|Jl _ hx);have o2:=o1.trans ho2 (fun x hx _=>by rw [Ja.1 hx];exact mC)
    have o3:=o2.trans h3.on (fun x hx hlt=>by
     rcases h1.nw x hx with h' | h'
     ·exact absurd (Ju hlt h') (Nat.lt_irrefl _)
     ·exact Jl _<|Jl _ h')
    exact o3.trans ho4 (fun x hx _=>by rw [Ja.1 hx];exact mC)
  rintro e a3 w3 hq3
  have pk:∀ (F':LN) (R':Res) (w4:World),R'.R (F' ++ L) F' w4→F'.Nodup→(∀ g∈F',g∈y :: dk :: fps (bx ++ ib)∨w.heap.size≤g)→Only (y :: dk :: fps (bx ++ ib)) w w4→
    (∀ x∈[Box.r F' R'],x.R (fps [Box.r F' R'] ++ L) w4)∧(fps [Box.r F' R']).Nodup∧(∀ g∈fps [Box.r F' R'],g∈y :: dk :: fps (bx ++ ib)∨w.heap.size≤g)∧Only (y :: dk :: fps (bx ++ ib)) w w4:=by
   intro F' R' w4 k1 k2 k3 k4
   have e:fps [Box.r F' R']=F':=by simp [fps,Box.fp]
   rw [e];exact ⟨fun x hx=>by rw [Ja.1 hx];exact k1,k2,k3,k4⟩
  cases e with
  | normal=>
   obtain ⟨σ3,hB,h3⟩:=hq3;obtain ⟨w4,k0,k1,k2,k3,k4⟩:=fin σ3 a3 w3 none (fun lo bx=>lo={ state:= .ready,pending:=none,fn,tmps:=ts,params:=ps.toArray,assign,body,defers:=dk }∧Bn bx) h3 ⟨rfl,hB⟩;exact ⟨_,w4,k0,true,I,⟨y :: dk :: fps σ3.bx,true⟩,I,pk _ _ _ k1 k2 k3 k4⟩
  | ret=>
   obtain ⟨σ3,hB,h3⟩:=hq3;obtain ⟨w4,k0,k1,k2,k3,k4⟩:=fin σ3 a3 w3 (some .ret) (fun lo bx=>∃ c,lo={ state:= .done,pending:=some<|jmp c,fn,tmps:=ts,params:=ps.toArray,assign,body,defers:=dk }∧X c bx) h3 ⟨none,rfl,hB⟩;exact ⟨_,w4,k0,false,I,⟨y :: dk :: fps σ3.bx,false⟩,I,pk _ _ _ k1 k2 k3 k4⟩
  | exit id=>
   obtain ⟨σ3,hB,h3⟩:=hq3;obtain ⟨w4,k0,k1,k2,k3,k4⟩:=fin σ3 a3 w3 (some<|.exit id) (fun lo bx=>∃ c,lo={ state:= .done,pending:=some<|jmp c,fn,tmps:=ts,params:=ps.toArray,assign,body,defers:=dk }∧X c bx) h3 ⟨some id,rfl,hB⟩;exact ⟨_,w4,k0,false,I,⟨y :: dk :: fps σ3.bx,false⟩,I,pk _ _ _ k1 k2 k3 k4⟩
  | _=>exact hq3.elim
 | ret=>obtain ⟨_,h,_⟩:=hq;exact h.elim
 | exit id=>obtain ⟨_,h,_⟩:=hq;exact h.elim
 | _=>exact hq.elim
def Cx.mk' (Γ:Cx) (dk:Nat):Cx:={ Γ with df:={ target:= .collected dk,args:= #[] } :: Γ.df }
def psOk (nt:Nat) (ps:LN):Bool:=ps.all fun p=>Nat.blt p nt
theorem qV {g:Operand} {ps:LN} {assign body:Code} {gf:FuncId} {cs:List D} {α κ:Type} {ib:α→κ→List Box} {dd:α→κ→List D} {items:List α} (B:Nat→List Box→Prop) (X:Option Nat→Nat→List Box→Prop) (T1:Nat→α→κ→St→Prop)
  (hen:Y1 P gf) (hseq:Seq P gf cs ib dd items) (hg:σ.ev g=some (fnD gf cs)) (hB:B 0 σ.bx) (hps:psOk Γ.nt ps=true) (hlen:∀ x k,(dd x k).length=ps.length)
  (hass:∀ i x k,items[i]? =some x→∀ bx,B i bx→∀ y base w0,SWr P y ⟨Γ.nt,base,w0,fps<|bx ++ ib x k,[]⟩ ⟨zcU σ.tm ps<|dd x k,bx ++ ib x k⟩ assign<|rQ ⟨Γ.nt,base,w0,fps<|bx ++ ib x k,[]⟩ (T1 i x k) (fun _ _=>False))
  (hbody:∀ i x k,items[i]? =some x→∀ σ2,T1 i x k σ2→∀ y base w0,SWr P y ⟨Γ.nt,base,w0,fps σ2.bx,[]⟩ σ2 body<|rQ ⟨Γ.nt,base,w0,fps σ2.bx,[]⟩ (fun σ3=>B (i + 1) σ3.bx) (fun c σ3=>X c i σ3.bx))
  (hdone:∀ dk bx,B items.length bx→SN (Γ.mk' dk) Q ⟨σ.tm,bx ++ [.r [dk] dfR]⟩)
  (hexit:∀ dk n i bx,X (some n) i bx→SE (Γ.mk' dk) n Q ⟨σ.tm,bx ++ [.r [dk] dfR]⟩)
  (hret:∀ dk i bx,X none i bx→SW P (Γ.mk' dk) ⟨σ.tm,bx ++ [.r [dk] dfR]⟩ .ret Q):SW P Γ σ (.rangeFunc g ps.toArray assign body) Q:=by
 intro a w hh;refine (wpIn_wide (n:=0)).1 (wpIn_rangeFunc ?_);intro fn _;obtain ⟨cap,hgv,hcap⟩:=(show (fnD gf cs).R (σ.L Γ) w (a.eval g) from zR hh hg);have henter:=run_enterLoop_outer (P:=P) (w:=w) fn a.tmps ps.toArray assign body
 generalize hW1:(w.alloc<|.deferred<|some []).alloc _=W1 at henter
 have hoW:Only [] w W1:=by rw [← hW1];exact ((Only.refl [] w).alloc _).alloc _
 have hsz:W1.heap.size=w.heap.size + 2:=by rw [← hW1];simp
 have hL1:W1.heap[w.heap.size + 1]? =some (.loop { state:= .ready,pending:=none,fn,tmps:=a.tmps,params:=ps.toArray,assign,body,defers:=w.heap.size }):=by
  rw [← hW1];have:=World.alloc_heap_new (w.alloc<|.deferred<|some []) (.loop { state:= .ready,pending:=none,fn,tmps:=a.tmps,params:=ps.toArray,assign,body,defers:=w.heap.size });rwa [World.size_alloc] at this
 have hK1:W1.heap[w.heap.size]? =some (.deferred<|some []):=by
  rw [← hW1];exact (Below.heap_alloc _ _ _ s9).trans (World.alloc_heap_new w _)
 refine ⟨w.heap.size + 1,_,W1,{ target:= .fn (.func gf) cap.toArray,args:= #[.func (.yield<|w.heap.size + 1) #[] #[]] },W1,gf,#[.func (.yield<|w.heap.size + 1) #[] #[]] ++ cap.toArray,W1,henter,?_,fun _ _=>t9,?_,qf,?_⟩
 ·simp only [resolve,hgv];simp [go_sem]
 ·simp only [invoke];exact hen _ _
 ·have hcon:=hseq (fun i=>jR (w.heap.size + 1) w.heap.size σ.tm a.tmps (fun lo bx=>lo={ state:= .ready,pending:=none,fn,tmps:=a.tmps,params:=ps.toArray,assign,body,defers:=w.heap.size }∧B i bx))
   (fun i=>jR (w.heap.size + 1) w.heap.size σ.tm a.tmps (fun lo bx=>∃ c,lo={ state:= .done,pending:=some<|jmp c,fn,tmps:=a.tmps,params:=ps.toArray,assign,body,defers:=w.heap.size }∧X c (i - 1) bx)) (w.heap.size + 1)
   (fun i x k F hx=>conY_of hh.sz (hlen x k) (fun p hp=>by have:=List.all_eq_true.1 hps p hp;simpa using this) (fun bx hb base w0=>hass i x k hx bx hb _ base w0) (fun σ2 h2 base w0=>hbody i x k hx σ2 h2 _ base w0)) ((w.heap.size + 1) :: w.heap.size :: fps σ.bx)
  have hlt:=hh.lt
  have hfp1:fps [Box.r ((w.heap.size + 1) :: w.heap.size :: fps σ.bx)<|jR (w.heap.size + 1) w.heap.size σ.tm a.tmps (fun lo bx=>lo={ state:= .ready,pending:=none,fn,tmps:=a.tmps,params:=ps.toArray,assign,body,defers:=w.heap.size }∧B 0 bx)]=(w.heap.size + 1) :: w.heap.size :: fps σ.bx:=by simp [fps,Box.fp]
  have hgo:=hcon.go Γ.base W1 (.func (.yield<|w.heap.size + 1) #[] #[] :: cap) (fun x hx=>by have:=hlt x (mR _ hx);omega) (glob.keep hh.gl hoW s9);rw [hfp1] at hgo
  have hLW:∀ x∈((w.heap.size + 1) :: w.heap.size :: fps σ.bx) ++ Γ.base,x∈σ.L Γ∨w.heap.size≤x:=fun x hx=>by
   simp only [Jf,Jt] at hx;rcases hx with (h | h | h) | h
   ·exact .inr o9
   ·exact .inr o9
   ·exact .inl (mL _ h)
   ·exact .inl (mR _ h)
  have hgo2:=hgo (fun g hg hm=>by
    have hgl:=glob.lt hh.gl g hm;simp only [Jt] at hg;rcases hg with h | h | h
    ·omega
    ·omega
    ·exact hh.off g h hm) (fun g hg hm=>by
    have hgl:=hlt g (mR _ hm);simp only [Jt] at hg;rcases hg with h | h | h
    ·omega
    ·omega
    ·exact hh.apart h hm) (by
    refine Xd.2 ⟨fun h=> ?_,Xd.2 ⟨fun h=> ?_,hh.nd⟩⟩
    ·rcases Jt.1 h with h | h
     ·omega
     ·have:=hlt _ (mL _ h);omega
    ·have:=hlt _ (mL _ h);omega) (fun b hb=>by
    rw [Ja.1 hb]
    exact ⟨_,σ.bx,⟨I,hB⟩,I,hL1,hK1,fun i d hi=>d.keep (d.less (hh.tm i d hi) hLW) hoW s9,fun b hb=>Box.keep (Box.less (hh.bx b hb) hLW) hoW s9 s9⟩) ⟨I,(hcap.less hLW).keep hoW s9⟩
  have eargs:(#[.func (.yield<|w.heap.size + 1) #[] #[]] ++ cap.toArray:Array Value)=(.func (.yield<|w.heap.size + 1) #[] #[] :: cap).toArray:=by apply Xe;simp
  rw [eargs];refine callsIn_wide.2 (hgo2.mono ?_);rintro e w3 ⟨⟨F',t⟩,v,rfl,-,hR,hnd,hnw,ho⟩
  have e3:∀ R':Res,fps [Box.r F' R']=F':=fun R'=>by simp [fps,Box.fp]
  simp only [e3] at hR hnd hnw;have hR:=hR _ (m9 rfl)
  have main:∀ (T:Loop→List Box→Prop),(jR (w.heap.size + 1) w.heap.size σ.tm a.tmps T).R (F' ++ Γ.base) F' w3→∃ lo bx,T lo bx∧w3.heap[w.heap.size + 1]? =some (.loop lo)∧
    Holds (Γ.mk' w.heap.size) ⟨σ.tm,bx ++ [.r [w.heap.size] dfR]⟩ { a with defers:=[{ target:= .collected w.heap.size,args:= #[] }] ++ a.defers } (w3.putObj (w.heap.size + 1)<|.loop { lo with state:= .exhausted }):=by
   rintro T ⟨lo,bx,hT,hF,hy,hdk,htm,hbs⟩;subst hF;refine ⟨lo,bx,hT,hy,?_⟩;have ho4:Only [w.heap.size + 1] w3 (w3.putObj (w.heap.size + 1)<|.loop { lo with state:= .exhausted }):=KD
   have hfp4:fps (bx ++ [.r [w.heap.size] dfR])=fps bx ++ [w.heap.size]:=by simp [fps,Box.fp]
   have hLL:∀ x∈fps (bx ++ [.r [w.heap.size] dfR]) ++ Γ.base,x∈((w.heap.size + 1) :: w.heap.size :: fps bx) ++ Γ.base∨(w3.putObj (w.heap.size + 1)<|.loop { lo with state:= .exhausted }).heap.size≤x:=fun x hx=>by
    left
    rw [hfp4] at hx;simp only [Jf,Jt,List.not_mem_nil,or_false] at hx ⊢;rcases hx with (h | h) | h
    ·exact .inl (.inr<|.inr h)
    ·exact .inl (.inr<|.inl h)
    ·exact .inr h
   have hyb:∀ x∈[w.heap.size + 1],x∈((w.heap.size + 1) :: w.heap.size :: fps bx) ++ Γ.base:=fun x hx=>by rw [Ja.1 hx];exact mL _ mC
   have hnd2:=(Xd.1 hnd).2
   have hnw0:∀ g∈(w.heap.size + 1) :: w.heap.size :: fps bx,Γ.w0.heap.size≤g∨g∈Γ.lent:=fun g hg=>by
    have hs:=hh.on.size;rcases hnw g hg with h' | h'
    ·rcases Jt.1 h' with h' | h'
     ·exact .inl o9
     ·rcases Jt.1 h' with h' | h'
      ·exact .inl o9
      ·exact hh.nw g h'
    ·exact .inl o9
   refine ⟨by simp [Cx.mk',hh.df],hh.sz,fun i d hi=>d.less (d.keep (htm i d hi) ho4 hyb) hLL,fun b hb=> ?_,?_,fun g hg=> ?_,?_,hh.bs,hh.dj⟩
   ·rcases Jf.1 hb with hb | hb
    ·exact Box.less (Box.keep (hbs b hb) ho4 hyb (fun x hx hm=>by rw [Ja.1 hx] at hm;exact (Xd.1 hnd).1<|Jl _<|yz.2 ⟨b,hb,hm⟩)) hLL
    ·rw [Ja.1 hb];exact ⟨_,I,(ho4.block w.heap.size (Jn.1 hdk).1 s9).trans hdk⟩
   ·rw [hfp4]
    exact JH.2 ⟨(Xd.1 hnd2).2,by simp,fun x hx z hz e=>by
     rw [Ja.1 hz] at e;subst e
     exact (Xd.1 hnd2).1 hx⟩
   ·rw [hfp4] at hg;refine hnw0 g ?_;rcases Jf.1 hg with hg | hg
    ·exact Jl _ (Jl _ hg)
    ·rw [Ja.1 hg];exact Jl _ mC
   ·have hs:=hh.on.size;have o1:=hh.on.trans hoW s9
    have o2:=o1.trans ho (fun x hx hlt=>by
     rcases Jt.1 hx with h' | h'
     ·omega
     ·rcases Jt.1 h' with h' | h'
      ·omega
      ·rcases hh.nw x h' with h'' | h''
       ·omega
       ·exact h'')
    exact o2.trans ho4 (fun x hx hlt=>by rw [Ja.1 hx] at hlt;omega)
  cases t with
  | none=>
   obtain ⟨lo,bx,⟨rfl,hBn⟩,hy3,h4⟩:=main _ hR;exact ⟨none,_,run_endLoop hy3 s9,hdone _ bx hBn _ _ h4⟩
  | some i=>
   obtain ⟨lo,bx,⟨c,rfl,hX⟩,hy3,h4⟩:=main _ hR;refine ⟨some<|jmp c,_,run_endLoop hy3 s9,?_⟩
   cases c with
   | none=>exact (wpIn_wide (n:=0)).2 (hret _ _ bx hX _ _ h4)
   | some n=>exact wpIn_exit (hexit _ n _ bx hX _ _ h4)
def RM (P:Program) (fn:Func) (R:Ending→World→Prop) (Γ:Cx) (σ:St):Prop:=∀ a w,Holds Γ σ a w→LeavesInM Fence.wide 0 P fn a.tmps R a.defers .returning w
theorem Kr {fn:Func} {R:Ending→World→Prop} {dk:Nat} (j:Nat) (hj:σ.bx[j]? =some (.r [dk] dfR)) (h:RM P fn R Γ ⟨σ.tm,yQ σ.bx 0 [j] ++ []⟩):RM P fn R (Γ.mk' dk) σ:=fun a w hh=>by
 obtain ⟨q,hq,hdk⟩:=hh.resAt hj;injection hq with hq _;subst hq;have hd:a.defers={ target:= .collected dk,args:= #[] } :: Γ.df:=hh.df;rw [hd];have hsub:SubBx σ.bx [j] [.r [dk] dfR]:=⟨⟨_,hj,zM _⟩,trivial⟩;have hg:=(hh.give (w':=w.putObj dk<|.deferred none) hsub (by simpa [fps,Box.fp] using KD) (post:=[]) s9 (by simp [fps]) (by simp [fps])).1;exact ⟨by simp,.inl ⟨dk,_,rfl,run_takeDeferred hdk,h { a with defers:=Γ.df } _ ⟨rfl,hg.sz,hg.tm,hg.bx,hg.nd,hg.nw,hg.on,hg.bs,hg.dj⟩⟩⟩
theorem RM.fin {fn:Func} {d:D} {nt:Nat} {base:LN} {w0:World} (h:Rs P ⟨nt,base,w0,[],[]⟩ fn σ d):RM P fn (fun e w'=>∃ v,e= .returned v∧d.R base w' v∧Only [] w0 w') ⟨nt,base,w0,[],[]⟩ σ:=fun a w hh=>by
 obtain ⟨v,h1,h2⟩:=h a w hh;rw [show a.defers=[] from hh.df];exact ⟨v,h1,v,I,d.less h2 (fun x hx=> .inl<|mR _ hx),hh.on⟩
theorem jp {fn:Func} {R:Ending→World→Prop} (hQ:∀ a w,bodyPostM Fence.wide 0 P fn R .ret a w→Q .ret a w) (h:RM P fn R Γ σ):SW P Γ σ .ret Q:=fun a w hh=>wp_ret (hQ a w<|h a w hh)
theorem WH {f : FuncId} {fn : Func} {c : Code} {ds : List D} {d : D} (hf : P.funcs[f]? = some fn) (hn : (fn.name == "runtime.NumGoroutine") = false) (hb : fn.body = some c) (hlen : Nat.ble ds.length fn.ntmps = true)
  (h:∀ (base:LN) (w0:World),SW P ⟨fn.ntmps,base,w0,[],[]⟩ (St.of (VM 0 ds) []) c (bodyPostM Fence.wide 0 P fn fun e w'=>∃ v,e= .returned v∧d.R base w' v∧Only [] w0 w')):Con P f ds d:=by
 refine ⟨enters_of hf hn (by rw [hb];rfl),fun L w vs hL hG ha=> ?_⟩;refine callsIn_wide.1 (callsIn_of_wp_marks (F:=Fence.wide) (n:=0) hf hb t9<|(wpIn_wide (n:=0)).2<|h L w _ _ ?_);have hl:=ha.length
 have hle:ds.length≤fn.ntmps:=by simpa using hlen
 refine ⟨I,by simp [hl];omega,fun i e hi=> ?_,fun b hb=>by simp [St.of] at hb,by simp [St.of,fps],by simp [St.of,fps],Only.refl _ _,hL,by simp,hG,by simp⟩;have:=YC (pre:=[]) (post:=List.replicate (fn.ntmps - vs.length) undef) ha rfl i e hi
 have e1:vs.toArray ++ Array.replicate (fn.ntmps - vs.toArray.size) undef=([] ++ vs ++ List.replicate (fn.ntmps - vs.length) undef).toArray:=by
  apply Xe;simp
 rw [e1];simpa [St.L,St.of,fps] using this
theorem SW.loopG {ι:Type} (Γs:ι→Cx) (τ:ι→St) (μ:ι→Nat) (i₀:ι) {c:Code} (hΓ:Γ=Γs i₀) (h₀:Sub σ (τ i₀)) (round:∀ i,∀ K:Act→World→Prop,(∀ j,μ j < μ i→∀ a w,Holds (Γs j) (τ j) a w→K a w)→SW P (Γs i) (τ i) c (Exit.then K Q)):SW P Γ σ (.loop c) Q:=by
 intro a w hh;subst hΓ;refine wp_loop_ghost (fun n a w=>∃ i,μ i=n∧Holds (Γs i) (τ i) a w) (μ i₀) ⟨i₀,I,hh.sub h₀⟩ ?_;rintro n a' w' ⟨i,rfl,hi⟩;exact round i _ (fun j hlt a w hj=>⟨μ j,hlt,j,I,hj⟩) a' w' hi
end
end
section
section
variable {P:Program}(w:World)
end
section
variable {P:Program}{Γ:Cx}{σ:St}{S:List Nat}{dst:Option Tmp}{ty:TypeId}{pos:String}{af:Array Edge}{gd:Option (Nat × Bool)}{Q:Exit→Act→World→Prop}{a:Act}{w:World}
theorem Holds.freezeF (h:Holds Γ σ a w) {j k g:Nat} {f:FuncId} {ds:List D} (hj:σ.bx[j]? =some (.c g ds)) (hk:σ.tm k=some (isD<|.func (.func f) #[] #[.pointer<|some ⟨g,0,none⟩])):Holds Γ ((⟨σ.tm,yQ σ.bx 0 [j]⟩:St).put k<|fnD f [paD ds]) a w:=by
 refine (h.drop [j]).learn ?_;have hv:a.tmps.getD k undef= .func (.func f) #[] #[.pointer<|some ⟨g,0,none⟩]:=h.tm k _ hk;rw [hv];obtain ⟨t,cs,hb,ha⟩:=h.bx (.c g ds) (Jc hj)
 exact ⟨[.pointer<|some ⟨g,0,none⟩],I,⟨⟨g,0,none⟩,I,fun _=>⟨g,0,I,hb.lt,j3 h hj (by simp [Box.fp]),cs,ha.less (fun x hx=> .inl (by
  rcases Jf.1 hx with hx | hx
  ·exact mL _ (ZN hx)
  ·exact mR _ hx)),fun q hq=>by rw [JF];exact hb.cell q⟩⟩,t9⟩
theorem zcH (n:Nat) {c:Code} (h:SW P Γ σ c (Exit.then (Code.rounds P c Q n) Q)):SW P Γ σ (.loop c) Q:=fun a w hh=>wp_loop_rounds (n + 1) (h a w hh)
theorem zaf {x y:Operand} {ts:Array TypeId} {k:IntKind} {p q:Int} (hx:σ.ev x=some (isD<|.int k p)) (hy:σ.ev y=some (isD<|.int k q)):Rd P Γ S ⟨dst,.call { callee:= .builtin .max,args:= #[x,y],argTypes:=ts },ty,pos,af,gd⟩ σ (isD<|.int k<|max p q):=by
 intro a w hh;have hxv:a.eval x= .int k p:=zR hh hx;have hyv:a.eval y= .int k q:=zR hh hy;refine ⟨_,I,fun w' _=> ?_⟩
 have e:max p q=if q > p then q else p:=by split <;> omega
 rw [e];simp [execOp,resolve,invoke,builtin,hxv,hyv,Builtin.max_,Builtin.max2]
theorem zdy {x y:Operand} {ts:Array TypeId} {k:IntKind} {p q:Int} (hx:σ.ev x=some (isD<|.int k p)) (hy:σ.ev y=some (isD<|.int k q)):Rd P Γ S ⟨dst,.call { callee:= .builtin .min,args:= #[x,y],argTypes:=ts },ty,pos,af,gd⟩ σ (isD<|.int k<|min p q):=by
 intro a w hh;have hxv:a.eval x= .int k p:=zR hh hx;have hyv:a.eval y= .int k q:=zR hh hy;refine ⟨_,I,fun w' _=> ?_⟩
 have e:min p q=if q < p then q else p:=by split <;> omega
 rw [e];simp [execOp,resolve,invoke,builtin,hxv,hyv,Builtin.min_,Builtin.min2]
