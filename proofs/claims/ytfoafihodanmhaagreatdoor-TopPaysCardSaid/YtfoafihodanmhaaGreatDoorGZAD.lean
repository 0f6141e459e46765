/- WALKING CODE BY WHAT IS KNOWN: the code's forms, regions, reads, effects, calls by contracts. Over any program. WALKING CODE BY WHAT IS KNOWN: the sin -/
import Derived.Test.YtfoafihodanmhaaGreatDoorGZAC
import Derived.WalkSpells
namespace Go.Proofs.YtfoafihodanmhaaGreatDoor
open Go.RowKit
namespace Sx
section
def St.ev (σ:St):Operand→Option D
 | .tmp t=>σ.tm t
 | .const v=>some (isD v)
 | .global g=>some (pA g)
 | .func f=>some (isD<|.func (.func f) #[] #[])
def St.evs (σ:St):List Operand→Option (List D)
 | []=>some []
 | x :: xs=>match σ.ev x,σ.evs xs with | some d,some ds=>some (d :: ds) | _,_=>none
def yp (nt:Nat) (k:Nat):Bool:=Nat.blt k nt
section
variable {P:Program}{Γ:Cx}{σ σ':St}{S:List Nat}
theorem zR {a:Act} {w:World} {x:Operand} {d:D} (h:Holds Γ σ a w) (he:σ.ev x=some d):d.R (σ.L Γ) w (a.eval x):=by
 cases x with
 | tmp t=>exact h.tm t d he
 | const v=>simp only [St.ev,Xy] at he;subst he;rfl
 | global g=>simp only [St.ev,Xy] at he;subst he;rfl
 | func f=>simp only [St.ev,Xy] at he;subst he;rfl
theorem Zt {a:Act} {w:World} (h:Holds Γ σ a w):∀ {xs:List Operand} {ds:List D},σ.evs xs=some ds→All (σ.L Γ) w ds (xs.map a.eval)
 | [],ds,he=>by simp only [St.evs,Xy] at he;subst he;trivial
 | x :: xs,ds,he=>by
  simp only [St.evs] at he
  cases h1:σ.ev x with
  | none=>rw [h1] at he;cases he
  | some d=>
   cases h2:σ.evs xs with
   | none=>rw [h1,h2] at he;cases he
   | some es=>
    rw [h1,h2] at he;simp only [Xy] at he;subst he;exact ⟨zR h h1,Zt h h2⟩
def Rd (P:Program) (Γ:Cx) (S:LN) (o:Oper) (σ:St) (d:D):Prop:=
 ∀ a w,Holds Γ σ a w→∃ v,d.R (σ.L Γ) w v∧∀ w',Only S w w'→(execOp a.eval o).run P w'= .ok (.value v) w'
def Ef (P:Program) (Γ:Cx) (S:LN) (o:Oper) (σ:St) (T:St→Prop):Prop:=
 ∀ a w,Holds Γ σ a w→∀ (K:Act→World→Prop) (Q:Exit→Act→World→Prop),(∀ σ' a' w',T σ'→Holds Γ σ' a' w'→Only S w w'→K a' w')→o.wp P a w K Q
def SWl (P:Program) (Γ:Cx) (ops:Array Oper) (Q:Exit→Act→World→Prop) (l:List Oper) (σ:St):Prop:=∀ a w,Holds Γ σ a w→wpList P ops Q l a w
def SWz (P:Program) (Γ:Cx) (l:List Oper) (Q:Exit→Act→World→Prop) (S:LN) (t:Reg.Tz) (σ:St):Prop:=∀ a w,Holds Γ σ a w→Reg.wpG P l Q t S a w
def SW (P:Program) (Γ:Cx) (σ:St) (c:Code) (Q:Exit→Act→World→Prop):Prop:=∀ a w,Holds Γ σ a w→c.wp P Q a w
def SN (Γ:Cx) (Q:Exit→Act→World→Prop) (σ:St):Prop:=∀ a w,Holds Γ σ a w→Q .normal a w
variable {ops:Array Oper}{l rest:List Oper}{Q:Exit→Act→World→Prop}{tz uz:Reg.Tz}{dst:Option Tmp}{k:Nat}{op:Op}{ty:TypeId}{pos:String}{af:Array Edge}{gd:Option (Nat × Bool)}{d:D}
theorem Yh {o:Oper} {a:Act} {w:World} {j t:Nat} {b want:Bool} (h:Holds Γ σ a w) (hg:o.guard=some (j,want)) (hj:(ops[j]?).bind (·.dst)=some t) (ht:σ.tm t=some (isD<|.bool b)) (hn:yp Γ.nt t=true):
  Region.wanted o (yielded ops a.tmps)=(b == want):=by
 have h1:a.tmps.getD t undef= .bool b:=h.tm t _ ht
 have h2:t < a.tmps.size:=by rw [h.sz];simpa [yp] using hn
 have h3:a.tmps[t]? =some (.bool b):=by
  rw [Xv,Xn h2] at h1;rw [Xn h2];simpa using h1
 simp only [Region.wanted,hg,yielded,hj,Option.bind_some,h3]
 cases b <;> cases want <;> rfl
theorem jw {o:Oper} {a:Act} {w:World} {j t:Nat} {want:Bool} (h:Holds Γ σ a w) (hg:o.guard=some (j,want)) (hj:(ops[j]?).bind (·.dst)=some t) (ht:σ.tm t=some (isD undef)) (hn:yp Γ.nt t=true):
  Region.wanted o (yielded ops a.tmps)=false:=by
 have h1:a.tmps.getD t undef=undef:=h.tm t _ ht
 have h2:t < a.tmps.size:=by rw [h.sz];simpa [yp] using hn
 have h3:a.tmps[t]? =some undef:=by
  rw [Xv,Xn h2] at h1;rw [Xn h2];simpa using h1
 simp only [Region.wanted,hg,yielded,hj,Option.bind_some,h3,undef]
 rfl
theorem zF (h:SN Γ Q σ):SWl P Γ ops Q [] σ:=fun a w hh=>h a w hh
theorem za (hd:yp Γ.nt k=true) (h:Rd P Γ [] ⟨some k,op,ty,pos,af,none⟩ σ d) (hk:SWl P Γ ops Q rest (σ.put k d)):SWl P Γ ops Q (⟨some k,op,ty,pos,af,none⟩ :: rest) σ:=by
 intro a w hh;obtain ⟨v,h1,h2⟩:=h a w hh;refine J4 I fun K hK=> ?_;unfold Oper.wp;rw [h2 w<|Only.refl _ _];exact hK _ _ (hk _ _<|hh.put (by simpa [yp] using hd) h1)
theorem yI {j t:Nat} {b c:Bool} (hj:(ops[j]?).bind (·.dst)=some t) (ht:σ.tm t=some (isD<|.bool c)) (hc:c=b) (hn:yp Γ.nt t=true)
  (hd:yp Γ.nt k=true) (h:Rd P Γ [] ⟨some k,op,ty,pos,af,some (j,b)⟩ σ d) (hk:SWl P Γ ops Q rest (σ.put k d)):SWl P Γ ops Q (⟨some k,op,ty,pos,af,some (j,b)⟩ :: rest) σ:=by
 intro a w hh;obtain ⟨v,h1,h2⟩:=h a w hh;refine wpList_step fun K hK=> ?_;rw [Yh (ops:=ops) hh rfl hj ht hn,Jh (by simp [hc])];unfold Oper.wp;rw [h2 w<|Only.refl _ _];exact hK _ _ (hk _ _<|hh.put (by simpa [yp] using hd) h1)
theorem qr {j t:Nat} {b c:Bool} (hj:(ops[j]?).bind (·.dst)=some t) (ht:σ.tm t=some (isD<|.bool c)) (hc:c= !b) (hn:yp Γ.nt t=true)
  (hd:yp Γ.nt k=true) (hk:SWl P Γ ops Q rest (σ.put k<|isD undef)):SWl P Γ ops Q (⟨some k,op,ty,pos,af,some (j,b)⟩ :: rest) σ:=by
 intro a w hh;refine wpList_step fun K hK=> ?_
 rw [Yh (ops:=ops) hh rfl hj ht hn,Jb (by subst hc;cases b <;> simp)]
 exact hK _ _ (hk _ _<|hh.put (by simpa [yp] using hd) I)
theorem Zz {j t:Nat} {b:Bool} (hj:(ops[j]?).bind (·.dst)=some t) (ht:σ.tm t=some (isD undef)) (hn:yp Γ.nt t=true)
  (hd:yp Γ.nt k=true) (hk:SWl P Γ ops Q rest (σ.put k<|isD undef)):SWl P Γ ops Q (⟨some k,op,ty,pos,af,some (j,b)⟩ :: rest) σ:=by
 intro a w hh;refine wpList_step fun K hK=> ?_;rw [jw (ops:=ops) hh rfl hj ht hn,Jb s9];exact hK _ _ (hk _ _<|hh.put (by simpa [yp] using hd) I)
theorem Zc {T:St→Prop} (h:Ef P Γ S ⟨dst,op,ty,pos,af,none⟩ σ T) (hk:∀ σ',T σ'→SWl P Γ ops Q rest σ'):SWl P Γ ops Q (⟨dst,op,ty,pos,af,none⟩ :: rest) σ:=by
 intro a w hh;exact J4 I fun K hK=>(h a w hh K Q fun σ' a' w' hT hh' _=>hK _ _<|hk σ' hT a' w' hh')
theorem yN {T:St→Prop} {j t:Nat} {b c:Bool} (hj:(ops[j]?).bind (·.dst)=some t) (ht:σ.tm t=some (isD<|.bool c)) (hc:c=b) (hn:yp Γ.nt t=true)
  (h:Ef P Γ S ⟨dst,op,ty,pos,af,some (j,b)⟩ σ T) (hk:∀ σ',T σ'→SWl P Γ ops Q rest σ'):SWl P Γ ops Q (⟨dst,op,ty,pos,af,some (j,b)⟩ :: rest) σ:=by
 intro a w hh;refine wpList_step fun K hK=> ?_;rw [Yh (ops:=ops) hh rfl hj ht hn,Jh (by simp [hc])];exact h a w hh K Q fun σ' a' w' hT hh' _=>hK _ _ (hk σ' hT a' w' hh')
theorem z1 (t:Nat) {c:Bool} (_ht:σ.tm t=some (isD<|.bool c)) (h1:c=true→SWl P Γ ops Q l σ) (h2:c=false→SWl P Γ ops Q l σ):SWl P Γ ops Q l σ:=by
 cases h:c
 ·exact h2 h
 ·exact h1 h
theorem Zq (t:Nat) {c:Bool} (_ht:σ.tm t=some (isD<|.bool c)) (h1:c=true→SWz P Γ l Q S tz σ) (h2:c=false→SWz P Γ l Q S tz σ):SWz P Γ l Q S tz σ:=by
 cases h:c
 ·exact h2 h
 ·exact h1 h
theorem y9 (h:SN Γ Q σ):SWz P Γ l Q S .fin σ:=fun a w hh=>h a w hh
theorem yB:SWz P Γ l Q S .no σ:=fun _ _ _=>trivial
theorem yields {o:Oper} {a:Act} {w:World} {v:Value} (hw:Region.wanted o (yielded ops a.tmps)=true) (h2:∀ w',Only S w w'→(execOp a.eval o).run P w'= .ok (.value v) w'):Reg.YieldsX P ops S w o v a:=
 fun w' ho=> .inl ⟨hw,.inl<|h2 w' ho⟩
theorem zl {i:Nat} (ho:l[i]? =some ⟨some k,op,ty,pos,af,none⟩) (hd:yp Γ.nt k=true) (h:Rd P Γ S ⟨some k,op,ty,pos,af,none⟩ σ d) (hk:SWz P Γ l Q S tz (σ.put k d)):SWz P Γ l Q S (.r i tz) σ:=by
 intro a w hh;obtain ⟨v,h1,h2⟩:=h a w hh
 have e:l.getD i default=⟨some k,op,ty,pos,af,none⟩:=by rw [Jr,ho];rfl
 unfold Reg.wpG;rw [e];exact ⟨v,yields I h2,hk _ _<|hh.put (by simpa [yp] using hd) h1⟩
theorem zy {i j t:Nat} {b c:Bool} (ho:l[i]? =some ⟨some k,op,ty,pos,af,some (j,b)⟩) (hj:(l[j]?).bind (·.dst)=some t) (ht:σ.tm t=some (isD<|.bool c)) (hc:c=b) (hn:yp Γ.nt t=true)
  (hd:yp Γ.nt k=true) (h:Rd P Γ S ⟨some k,op,ty,pos,af,some (j,b)⟩ σ d) (hk:SWz P Γ l Q S tz (σ.put k d)):SWz P Γ l Q S (.r i tz) σ:=by
 intro a w hh;obtain ⟨v,h1,h2⟩:=h a w hh
 have e:l.getD i default=⟨some k,op,ty,pos,af,some (j,b)⟩:=by rw [Jr,ho];rfl
 unfold Reg.wpG;rw [e];exact ⟨v,yields (by rw [Yh (ops:=l.toArray) hh rfl (by simpa using hj) ht hn];simp [hc]) h2,hk _ _<|hh.put (by simpa [yp] using hd) h1⟩
theorem ZX {i:Nat} (ho:l[i]? =some ⟨some k,op,ty,pos,af,none⟩) (hd:yp Γ.nt k=true) (h:Rd P Γ [] ⟨some k,op,ty,pos,af,none⟩ σ d) (hk:SWz P Γ l Q S tz (σ.put k d)):SWz P Γ l Q S (.q i tz) σ:=by
 intro a w hh;obtain ⟨v,h1,h2⟩:=h a w hh
 have e:l.getD i default=⟨some k,op,ty,pos,af,none⟩:=by rw [Jr,ho];rfl
 unfold Reg.wpG;rw [e];exact ⟨v,yields I h2,hk _ _<|hh.put (by simpa [yp] using hd) h1⟩
theorem zD {i j t:Nat} {b c:Bool} (ho:l[i]? =some ⟨some k,op,ty,pos,af,some (j,b)⟩) (hj:(l[j]?).bind (·.dst)=some t) (ht:σ.tm t=some (isD<|.bool c)) (hc:c= !b) (hn:yp Γ.nt t=true)
  (hd:yp Γ.nt k=true) (hk:SWz P Γ l Q S tz (σ.put k<|isD undef)):SWz P Γ l Q S (.r i tz) σ:=by
 intro a w hh
 have e:l.getD i default=⟨some k,op,ty,pos,af,some (j,b)⟩:=by rw [Jr,ho];rfl
 unfold Reg.wpG;rw [e]
 exact ⟨undef,fun w' _=> .inr ⟨by rw [Yh (ops:=l.toArray) hh rfl (by simpa using hj) ht hn];subst hc;cases b <;> simp,rfl⟩,hk _ _<|hh.put (by simpa [yp] using hd) I⟩
theorem yk {i j t:Nat} {b:Bool} (ho:l[i]? =some ⟨some k,op,ty,pos,af,some (j,b)⟩) (hj:(l[j]?).bind (·.dst)=some t) (ht:σ.tm t=some (isD undef)) (hn:yp Γ.nt t=true)
  (hd:yp Γ.nt k=true) (hk:SWz P Γ l Q S tz (σ.put k<|isD undef)):SWz P Γ l Q S (.r i tz) σ:=by
 intro a w hh
 have e:l.getD i default=⟨some k,op,ty,pos,af,some (j,b)⟩:=by rw [Jr,ho];rfl
 unfold Reg.wpG;rw [e];exact ⟨undef,fun w' _=> .inr ⟨jw (ops:=l.toArray) hh I (by simpa using hj) ht hn,I⟩,hk _ _<|hh.put (by simpa [yp] using hd) I⟩
theorem ZB {T:St→Prop} {i:Nat} (ho:l[i]? =some ⟨dst,op,ty,pos,af,none⟩) (h:Ef P Γ [] ⟨dst,op,ty,pos,af,none⟩ σ T) (hk:∀ σ',T σ'→SWz P Γ l Q S tz σ') (hu:SWz P Γ l Q S uz σ):SWz P Γ l Q S (.n i tz uz) σ:=by
 intro a w hh
 have e:l.getD i default=⟨dst,op,ty,pos,af,none⟩:=by rw [Jr,ho];rfl
 unfold Reg.wpG;rw [e];refine ⟨J4 I fun K hK=> ?_,hu a w hh⟩;exact h a w hh K _ fun σ' a' w' hT hh' hO=>hK _ _ ⟨S,Reg.Gr.refl S _,hO,hk σ' hT a' w' hh'⟩
theorem Ys {T:St→Prop} {i j t:Nat} {b c:Bool} (ho:l[i]? =some ⟨dst,op,ty,pos,af,some (j,b)⟩) (hj:(l[j]?).bind (·.dst)=some t) (ht:σ.tm t=some (isD<|.bool c)) (hc:c=b) (hn:yp Γ.nt t=true)
  (h:Ef P Γ [] ⟨dst,op,ty,pos,af,some (j,b)⟩ σ T) (hk:∀ σ',T σ'→SWz P Γ l Q S tz σ') (hu:SWz P Γ l Q S uz σ):SWz P Γ l Q S (.n i tz uz) σ:=by
 intro a w hh
 have e:l.getD i default=⟨dst,op,ty,pos,af,some (j,b)⟩:=by rw [Jr,ho];rfl
 unfold Reg.wpG;rw [e];refine ⟨wpList_step fun K hK=> ?_,hu a w hh⟩;rw [Yh (ops:=l.toArray) hh rfl (by simpa using hj) ht hn,Jh (by simp [hc])];exact h a w hh K _ fun σ' a' w' hT hh' hO=>hK _ _ ⟨S,Reg.Gr.refl S _,hO,hk σ' hT a' w' hh'⟩
theorem jI {T:St→Prop} {i:Nat} (ho:l[i]? =some ⟨dst,op,ty,pos,af,none⟩) (h:Ef P Γ S ⟨dst,op,ty,pos,af,none⟩ σ T) (hk:∀ σ',T σ'→SWz P Γ l Q S tz σ') (hu:SWz P Γ l Q S uz σ):SWz P Γ l Q S (.e i tz uz) σ:=by
 intro a w hh
 have e:l.getD i default=⟨dst,op,ty,pos,af,none⟩:=by rw [Jr,ho];rfl
 unfold Reg.wpG;rw [e];refine ⟨J4 I fun K hK=> ?_,hu a w hh⟩;exact h a w hh K _ fun σ' a' w' hT hh' hO=>hK _ _ ⟨S,Reg.Gr.refl S _,hO,hk σ' hT a' w' hh'⟩
def EfB (P:Program) (Γ:Cx) (o:Oper) (σ:St) (T:Nat→St→Prop):Prop:=
 ∀ a w,Holds Γ σ a w→∀ (K:Act→World→Prop) (Q:Exit→Act→World→Prop),(∀ g σ' a' w',w.heap.size≤g→T g σ'→Holds Γ σ' a' w'→Only [] w w'→K a' w')→o.wp P a w K Q
theorem zbE {T:Nat→St→Prop} {i:Nat} (ho:l[i]? =some ⟨dst,op,ty,pos,af,none⟩) (h:EfB P Γ ⟨dst,op,ty,pos,af,none⟩ σ T) (hk:∀ g σ',T g σ'→SWz P Γ l Q (S ++ [g]) tz σ') (hu:SWz P Γ l Q S uz σ):SWz P Γ l Q S (.n i tz uz) σ:=by
 intro a w hh
 have e:l.getD i default=⟨dst,op,ty,pos,af,none⟩:=by rw [Jr,ho];rfl
 unfold Reg.wpG;rw [e];refine ⟨J4 I fun K hK=> ?_,hu a w hh⟩
 exact h a w hh K _ fun g σ' a' w' hg hT hh' hO=>hK _ _ ⟨S ++ [g],fun x hx=>by
  rcases Jf.1 hx with hx | hx
  ·exact .inl hx
  ·simp at hx;subst hx;exact .inr hg,hO,hk g σ' hT a' w' hh'⟩
theorem zj {c:Code} (h:SW P Γ σ c Q):SN Γ (Exit.then (fun a w=>c.wp P Q a w) Q) σ:=fun a w hh=>h a w hh
theorem SN.block {n:Nat} (h:SN Γ Q σ):SN Γ (Exit.inBlock n Q) σ:=fun a w hh=>h a w hh
theorem zh {x y:Code} (h:SW P Γ σ x (Exit.then (fun a w=>y.wp P Q a w) Q)):SW P Γ σ (.seq x y) Q:=fun a w hh=>wp_seq (h a w hh)
theorem zq (h:SN Γ Q σ):SW P Γ σ .skip Q:=fun a w hh=>wp_skip (h a w hh)
theorem zi {id:Nat} (h:SWl P Γ l.toArray Q l σ):SW P Γ σ (.region id l.toArray false) Q:=fun a w hh=>wp_region_lit (h a w hh)
theorem yl {id:Nat} (S:LN) (t:Reg.Tz) (hm:P.follows .mixedOrders=true) (hok:Reg.okZL l t=true)
  (hQ:∀ (d:Option Tmp) (v:Value) (c:List PanicEntry) (a:Act) (w:World),Q (.panic c) (a.put d v) w→Q (.panic c) a w) (h:SWz P Γ l Q S t σ):SW P Γ σ (.region id l.toArray true) Q:=
 fun a w hh=>Reg.wpGL S t hm hok hQ (h a w.drew hh.drew)
theorem zC {c:Operand} {x y:Code} {b:Bool} (hc:σ.ev c=some (isD<|.bool b)) (ht:b=true→SW P Γ σ x Q) (hf:b=false→SW P Γ σ y Q):SW P Γ σ (.cond c x y) Q:=by
 intro a w hh;have h1:a.eval c= .bool b:=zR hh hc;exact wp_cond_split h1 (fun h=>ht h a w hh) (fun h=>hf h a w hh)
theorem yj {c:Operand} {x y:Code} {b:Bool} (hc:σ.ev c=some (isD<|.bool b)) (hb:b=true) (ht:SW P Γ σ x Q):SW P Γ σ (.cond c x y) Q:=zC hc (fun _=>ht) (fun h=>by rw [hb] at h;cases h)
theorem zK {c:Operand} {x y:Code} {b:Bool} (hc:σ.ev c=some (isD<|.bool b)) (hb:b=false) (hf:SW P Γ σ y Q):SW P Γ σ (.cond c x y) Q:=zC hc (fun h=>by rw [hb] at h;cases h) (fun _=>hf)
theorem SW.block {n:Nat} {c:Code} (h:SW P Γ σ c (Exit.inBlock n Q)):SW P Γ σ (.block n c) Q:=fun a w hh=>wp_block (h a w hh)
def SE (Γ:Cx) (n:Nat) (Q:Exit→Act→World→Prop) (σ:St):Prop:=∀ a w,Holds Γ σ a w→Q (.exit n) a w
theorem zQ {n:Nat} (h:SE Γ n Q σ):SW P Γ σ (.exit n) Q:=fun a w hh=>wp_exit (h a w hh)
theorem zX {n:Nat} {K:Act→World→Prop} (h:SE Γ n Q σ):SE Γ n (Exit.then K Q) σ:=h
theorem zY {n m:Nat} (hne:n≠m) (h:SE Γ n Q σ):SE Γ n (Exit.inBlock m Q) σ:=fun a w hh=>by simp only [Exit.inBlock,Jb hne];exact h a w hh
theorem zZ {n:Nat} (h:SN Γ Q σ):SE Γ n (Exit.inBlock n Q) σ:=fun a w hh=>by simp only [Exit.inBlock,if_true];exact h a w hh
theorem SW.sub {c:Code} (hs:Sub σ σ') (h:SW P Γ σ' c Q):SW P Γ σ c Q:=fun a w hh=>h a w (hh.sub hs)
theorem jq {c:Code} (T:St→Prop) (h:SW P Γ σ c (Exit.then (fun a w=>∃ σ',T σ'∧Holds Γ σ' a w) Q)) (hk:∀ σ',T σ'→SN Γ Q σ'):SW P Γ σ c Q:=by
 intro a w hh;refine wp_mono (h a w hh) ?_;intro e a' w' hq
 cases e with
 | normal=>obtain ⟨σ',hT,h'⟩:=hq;exact hk σ' hT a' w' h'
 | _=>exact hq
theorem Zw {T:St→Prop} {σ':St} (hT:T σ') (hs:Sub σ σ'):SN Γ (Exit.then (fun a w=>∃ σ',T σ'∧Holds Γ σ' a w) Q) σ:=fun _ _ hh=>⟨σ',hT,hh.sub hs⟩
theorem yd {ι:Type} (τ:ι→St) (μ:ι→Nat) (i₀:ι) {c:Code} (h₀:Sub σ (τ i₀)) (round:∀ i,∀ K:Act→World→Prop,(∀ j,μ j < μ i→∀ a w,Holds Γ (τ j) a w→K a w)→SW P Γ (τ i) c (Exit.then K Q)):SW P Γ σ (.loop c) Q:=by
 intro a w hh;refine wp_loop_ghost (fun n a w=>∃ i,μ i=n∧Holds Γ (τ i) a w) (μ i₀) ⟨i₀,I,hh.sub h₀⟩ ?_;rintro n a' w' ⟨i,rfl,hi⟩;exact round i _ (fun j hlt a w hj=>⟨μ j,hlt,j,I,hj⟩) a' w' hi
def Y1 (P:Program) (f:FuncId):Prop:=∀ args w,(callFunc f args).run P w= .ok (.enter f args) w
structure Con (P:Program) (f:FuncId) (ds:List D) (d:D):Prop where
 en:Y1 P f
 go:∀ (L:LN) (w:World) (vs:List Value),(∀ g∈L,g < w.heap.size)→glob.R w→All L w ds vs→Calls P f vs.toArray w fun e w'=>∃ v,e= .returned v∧d.R L w' v∧Only [] w w'
theorem enters_of {f : FuncId} {fn : Func} (hf : P.funcs[f]? = some fn) (hn : (fn.name == "runtime.NumGoroutine") = false) (hb : fn.body.isNone = false) : Y1 P f := by
 intro args w
 have h1 : ¬ fn.name = "runtime.NumGoroutine" := by simpa using hn
 have h2:¬fn.body=none:=by intro h;rw [h] at hb;cases hb
 simp [callFunc,hf,h1,h2]
def VM (k:Nat):List D→List (Nat × D)
 | []=>[]
 | d :: ds=>(k,d) :: VM (k + 1) ds
theorem YC {L:LN} {w:World}:∀ {ds:List D} {vs:List Value} {k:Nat} {pre post:List Value},All L w ds vs→pre.length=k→∀ i d,lk (VM k ds) i=some d→d.R L w ((pre ++ vs ++ post).toArray.getD i undef)
 | [],[],_,_,_,_,_,i,d,h=>by simp [VM,lk] at h
 | d' :: ds,v :: vs,k,pre,post,h,hk,i,d,hi=>by
  simp only [VM,lk_cons] at hi
  by_cases hik:i=k
  ·subst hik;simp at hi;subst hi
   have e:(pre ++ v :: vs ++ post).toArray.getD i undef=v:=by
    rw [Xv,List.getElem?_toArray,Jq,JR o9];simp [hk]
   rw [e];exact h.1
  ·rw [Jb hik] at hi;have:=YC (k:=k + 1) (pre:=pre ++ [v]) (post:=post) h.2 (by simp [hk]) i d hi;simpa [Jq] using this
theorem yy {f : FuncId} {fn : Func} {c : Code} {ds : List D} {d : D} (hf : P.funcs[f]? = some fn) (hn : (fn.name == "runtime.NumGoroutine") = false) (hb : fn.body = some c) (hlen : Nat.ble ds.length fn.ntmps = true)
  (h:∀ (base:LN) (w0:World),SW P ⟨fn.ntmps,base,w0,[],[]⟩ (St.of (VM 0 ds) []) c (bodyPost P fn fun e w'=>∃ v,e= .returned v∧d.R base w' v∧Only [] w0 w')):Con P f ds d:=by
 refine ⟨enters_of hf hn (by rw [hb];rfl),fun L w vs hL hG ha=> ?_⟩;refine calls_of_wp hf hb (h L w _ _ ?_);have hl:=ha.length
 have hle:ds.length≤fn.ntmps:=by simpa using hlen
 refine ⟨I,by simp [hl];omega,fun i e hi=> ?_,fun b hb=>by simp [St.of] at hb,by simp [St.of,fps],by simp [St.of,fps],Only.refl _ _,hL,by simp,hG,by simp⟩;have:=YC (pre:=[]) (post:=List.replicate (fn.ntmps - vs.length) undef) ha rfl i e hi
 have e1:vs.toArray ++ Array.replicate (fn.ntmps - vs.toArray.size) undef=([] ++ vs ++ List.replicate (fn.ntmps - vs.length) undef).toArray:=by
  apply Xe;simp
 rw [e1];simpa [St.L,St.of,fps] using this
def Rs (P:Program) (Γ:Cx) (fn:Func) (σ:St) (d:D):Prop:=∀ a w,Holds Γ σ a w→∃ v,(results fn a.tmps).run P w= .ok v w∧d.R (σ.L Γ) w v
theorem zO {fn:Func} {d:D} {nt:Nat} {base:LN} {w0:World} (hQ:∀ a w,bodyPost P fn (fun e w'=>∃ v,e= .returned v∧d.R base w' v∧Only [] w0 w') .ret a w→Q .ret a w) (h:Rs P ⟨nt,base,w0,[],[]⟩ fn σ d):SW P ⟨nt,base,w0,[],[]⟩ σ .ret Q:=by
 intro a w hh;refine wp_ret (hQ a w ?_);obtain ⟨v,h1,h2⟩:=h a w hh;exact bodyPost_ret h1 hh.df ⟨v,I,d.less h2 (fun x hx=> .inl<|mR _ hx),hh.on⟩
structure ConB (P:Program) (f:FuncId) (g:Nat) (bs es ads:List D) (d:D):Prop where
 en:Y1 P f
 go:∀ (L:LN) (w:World) (vs:List Value),(∀ x∈L,x < w.heap.size)→glob.R w→g∉glob.F→g∉L→(∃ t cs,Blk w g t cs∧All (g :: L) w bs cs)→All (g :: L) w ads vs→
  Calls P f vs.toArray w fun e w'=>∃ v,e= .returned v∧d.R (g :: L) w' v∧(∃ t cs,Blk w' g t cs∧All (g :: L) w' es cs)∧Only [g] w w'
theorem con_ofB {f : FuncId} {fn : Func} {c : Code} {g : Nat} {bs es ads : List D} {d : D} (hf : P.funcs[f]? = some fn) (hn : (fn.name == "runtime.NumGoroutine") = false) (hb : fn.body = some c) (hlen : Nat.ble ads.length fn.ntmps = true)
  (h:∀ (base:LN) (w0:World),SW P ⟨fn.ntmps,base,w0,[g],[]⟩ (St.of (VM 0 ads) [(g,bs)]) c (bodyPost P fn fun e w'=>∃ v,e= .returned v∧d.R (g :: base) w' v∧(∃ t cs,Blk w' g t cs∧All (g :: base) w' es cs)∧Only [g] w0 w')):ConB P f g bs es ads d:=by
 refine ⟨enters_of hf hn (by rw [hb];rfl),fun L w vs hL hG hgF hg hbk ha=> ?_⟩;refine calls_of_wp hf hb (h L w _ _ ?_);have hl:=ha.length
 have hle:ads.length≤fn.ntmps:=by simpa using hlen
 refine ⟨I,by simp [hl];omega,fun i e hi=> ?_,fun b hb=> ?_,by simp [St.of,fps,toBox,Box.fp],by simp [St.of,fps,toBox,Box.fp],Only.refl _ _,hL,by simpa using hg,hG,by simpa using hgF⟩
 ·have:=YC (pre:=[]) (post:=List.replicate (fn.ntmps - vs.length) undef) ha rfl i e hi
  have e1:vs.toArray ++ Array.replicate (fn.ntmps - vs.toArray.size) undef=([] ++ vs ++ List.replicate (fn.ntmps - vs.length) undef).toArray:=by
   apply Xe;simp
  rw [e1];simpa [St.L,St.of,fps,toBox,Box.fp] using this
 ·simp only [St.of,JU,XC,Ja] at hb;subst hb;obtain ⟨t,cs,h1,h2⟩:=hbk;exact ⟨t,cs,h1,by simpa [St.L,St.of,fps,toBox,Box.fp] using h2⟩
theorem zbG {fn:Func} {d:D} {nt g:Nat} {base:LN} {w0:World} {xs es:List D} (hQ:∀ a w,bodyPost P fn (fun e w'=>∃ v,e= .returned v∧d.R (g :: base) w' v∧(∃ t cs,Blk w' g t cs∧All (g :: base) w' es cs)∧Only [g] w0 w') .ret a w→Q .ret a w)
  (h:Rs P ⟨nt,base,w0,[g],[]⟩ fn σ d) (hj:σ.bx[0]? =some (.c g xs)) (hl:LeAll xs es):SW P ⟨nt,base,w0,[g],[]⟩ σ .ret Q:=by
 intro a w hh;refine wp_ret (hQ a w ?_);obtain ⟨v,h1,h2⟩:=h a w hh;obtain ⟨t,cs,hb,ha⟩:=hh.bx (.c g xs) (Jc hj);have hg:g∈fps σ.bx:=yz.2 ⟨_,Jc hj,m9 rfl⟩
 have hL:∀ x∈g :: base,x∈σ.L ⟨nt,base,w0,[g],[]⟩∨w.heap.size≤x:=fun x hx=>by
  rcases Jt.1 hx with rfl | hx
  ·exact .inl (mL _ hg)
  ·exact .inl (mR _ hx)
 exact bodyPost_ret h1 hh.df ⟨v,I,d.less h2 hL,⟨t,cs,hb,hl.all<|ha.less hL⟩,hh.on⟩
structure ConR (P:Program) (f:FuncId) (pre:List Box) (ad:List D) {ι:Type} (post:ι→List Box) (d:ι→D):Prop where
 en:Y1 P f
 go:∀ (L:LN) (w:World) (vs:List Value),(∀ x∈L,x < w.heap.size)→glob.R w→(∀ g∈fps pre,g∉glob.F)→(∀ g∈fps pre,g∉L)→(fps pre).Nodup→(∀ b∈pre,b.R (fps pre ++ L) w)→All (fps pre ++ L) w ad vs→
  Calls P f vs.toArray w fun e w'=>∃ i v,e= .returned v∧(d i).R (fps (post i) ++ L) w' v∧(∀ b∈post i,b.R (fps (post i) ++ L) w')∧(fps<|post i).Nodup∧(∀ g∈fps (post i),g∈fps pre∨w.heap.size≤g)∧Only (fps pre) w w'
theorem yt {f : FuncId} {fn : Func} {c : Code} {pre : List Box} {ad : List D} {ι : Type} {post : ι → List Box} {d : ι → D} (hf : P.funcs[f]? = some fn) (hn : (fn.name == "runtime.NumGoroutine") = false) (hb : fn.body = some c) (hlen : Nat.ble ad.length fn.ntmps = true)
  (h:∀ (base:LN) (w0:World),SW P ⟨fn.ntmps,base,w0,fps pre,[]⟩ (yb (VM 0 ad) pre) c (bodyPost P fn fun e w'=>∃ i v,e= .returned v∧(d i).R (fps (post i) ++ base) w' v∧(∀ b∈post i,b.R (fps (post i) ++ base) w')∧(fps<|post i).Nodup∧(∀ g∈fps (post i),g∈fps pre∨w0.heap.size≤g)∧Only (fps pre) w0 w')):ConR P f pre ad post d:=by
 refine ⟨enters_of hf hn (by rw [hb];rfl),fun L w vs hL hG hgF hg hnd hbk ha=> ?_⟩;refine calls_of_wp hf hb (h L w _ _ ?_);have hl:=ha.length
 have hle:ad.length≤fn.ntmps:=by simpa using hlen
 refine ⟨I,by simp [hl];omega,fun i e hi=> ?_,hbk,hnd,fun g hg=> .inr hg,Only.refl _ _,hL,hg,hG,hgF⟩;have:=YC (pre:=[]) (post:=List.replicate (fn.ntmps - vs.length) undef) ha rfl i e hi
 have e1:vs.toArray ++ Array.replicate (fn.ntmps - vs.toArray.size) undef=([] ++ vs ++ List.replicate (fn.ntmps - vs.length) undef).toArray:=by
  apply Xe;simp
 rw [e1];exact this
theorem retR {fn:Func} {nt:Nat} {base:LN} {w0:World} {pre:List Box} {ι:Type} {post:ι→List Box} {d:ι→D} (i:ι) (js:LN)
  (h:Rs P ⟨nt,base,w0,fps pre,[]⟩ fn σ (d i)) (hjs:js.Nodup) (hb:SubBx σ.bx js (post i)) {a:Act} {w:World} (hh:Holds ⟨nt,base,w0,fps pre,[]⟩ σ a w):
  ∃ v,(results fn a.tmps).run P w= .ok v w∧∃ i v',Ending.returned v= .returned v'∧(d i).R (fps (post i) ++ base) w v'∧(∀ b∈post i,b.R (fps (post i) ++ base) w)∧(fps<|post i).Nodup∧(∀ g∈fps (post i),g∈fps pre∨w0.heap.size≤g)∧Only (fps pre) w0 w:=by
 obtain ⟨v,h1,h2⟩:=h a w hh
 have hid:∀ g∈fps (post i),g∈fps σ.bx:=by
  intro g hg;obtain ⟨b',h3,h4⟩:=yz.1 hg;obtain ⟨j,b,_,h5,h6⟩:=SubBx.mem hb b' h3;exact yz.2 ⟨b,Jc h5,by rw [h6.1];exact h4⟩
 have hL:∀ x∈fps (post i) ++ base,x∈σ.L ⟨nt,base,w0,fps pre,[]⟩∨w.heap.size≤x:=fun x hx=>by
  rcases Jf.1 hx with hx | hx
  ·exact .inl (mL _<|hid x hx)
  ·exact .inl (mR _ hx)
 refine ⟨v,h1,i,v,I,(d i).less h2 hL,fun b' hb'=> ?_,YV hh.nd hjs hb,fun g hg=> ?_,hh.on⟩
 ·obtain ⟨j,b,_,h5,h6⟩:=SubBx.mem hb b' hb';exact h6.2 _ _ (Box.less (hh.bx b<|Jc h5) hL)
 ·rcases hh.nw g (hid g hg) with h' | h'
  ·exact .inr h'
  ·exact .inl h'
theorem zV {fn:Func} {nt:Nat} {base:LN} {w0:World} {pre:List Box} {ι:Type} {post:ι→List Box} {d:ι→D} (i:ι) (js:LN)
  (hQ:∀ a w,bodyPost P fn (fun e w'=>∃ i v,e= .returned v∧(d i).R (fps (post i) ++ base) w' v∧(∀ b∈post i,b.R (fps (post i) ++ base) w')∧(fps<|post i).Nodup∧(∀ g∈fps (post i),g∈fps pre∨w0.heap.size≤g)∧Only (fps pre) w0 w') .ret a w→Q .ret a w)
  (h:Rs P ⟨nt,base,w0,fps pre,[]⟩ fn σ (d i)) (hjs:js.Nodup) (hb:SubBx σ.bx js (post i)):SW P ⟨nt,base,w0,fps pre,[]⟩ σ .ret Q:=by
 intro a w hh;refine wp_ret (hQ a w ?_);obtain ⟨v,h1,h2⟩:=Sx.retR i js h hjs hb hh;exact bodyPost_ret h1 hh.df h2
theorem Ko {fn:Func} {nt:Nat} {base:LN} {w0:World} {pre:List Box} {ι:Type} {post:ι→List Box} {d:ι→D} (i:ι) (js:LN)
  (h:Rs P ⟨nt,base,w0,fps pre,[]⟩ fn σ (d i)) (hjs:js.Nodup) (hb:SubBx σ.bx js (post i)):
  SN ⟨nt,base,w0,fps pre,[]⟩ (bodyPost P fn (fun e w'=>∃ i v,e= .returned v∧(d i).R (fps (post i) ++ base) w' v∧(∀ b∈post i,b.R (fps (post i) ++ base) w')∧(fps<|post i).Nodup∧(∀ g∈fps (post i),g∈fps pre∨w0.heap.size≤g)∧Only (fps pre) w0 w')) σ:=by
 intro a w hh;obtain ⟨v,h1,h2⟩:=Sx.retR i js h hjs hb hh;exact bodyPost_end h1 hh.df h2
theorem Con.mono {f:FuncId} {ds es:List D} {d e:D} (h:Con P f ds d) (h1:LeAll es ds) (h2:Le d e):Con P f es e:=
 ⟨h.en,fun L w vs hL hG ha=>(h.go L w vs hL hG<|h1.all ha).mono fun _ _ ⟨v,hv,hd,ho⟩=>⟨v,hv,h2 _ _ _ hd,ho⟩⟩
end
end
section
def fldO (P:Program) (T k:Nat):Option Nat:=
 match P.underlying T with
 | some (.struct fs)=>match fs[k]? with
  | some f=>match (P.info? f.type).map (·.size) with
   | some (_ + 1)=>some f.offset
   | _=>none
  | none=>none
 | _=>none
def jx (P:Program) (T:Nat):Bool:=match P.underlying T with | some d=> !d.isRow | none=>false
def rowT (P:Program) (T n:Nat):Bool:=match P.underlying T with | some d=>d.isRow && ((P.info? T).map (·.size) == some n) | none=>false
def Ap (σ:St) (j:Nat) (S:LN):Prop:=∀ s∈S,∃ i b,σ.bx[i]? =some b∧s∈b.fp∧i≠j
theorem zm {σ:St} {j:Nat}:Ap σ j []:=fun s h=>by simp at h
theorem ZR {σ:St} {j g:Nat} {ds:List D} {S:LN} (i:Nat) (h:σ.bx[i]? =some (.c g ds)) (hij:i≠j) (k:Ap σ j S):Ap σ j (g :: S):=fun s hs=>by
 rcases Jt.1 hs with rfl | hs
 ·exact ⟨i,_,h,m9 I,hij⟩
 ·exact k s hs
theorem Zl {σ:St} {j:Nat} {F:LN} {R:Res} {S:LN} (i:Nat) (h:σ.bx[i]? =some (.r F R)) (hij:i≠j) (k:Ap σ j S):Ap σ j (F ++ S):=fun s hs=>by
 rcases Jf.1 hs with hs | hs
 ·exact ⟨i,_,h,hs,hij⟩
 ·exact k s hs
section
variable {P:Program}{Γ:Cx}{σ:St}{S:List Nat}{dst:Option Tmp}{ty:TypeId}{pos:String}{af:Array Edge}{gd:Option (Nat × Bool)}{d:D}
theorem Ap.spec {σ:St} {j:Nat} {b:Box} (hn:(fps σ.bx).Nodup) (hj:σ.bx[j]? =some b) {S:LN} (h:Ap σ j S):∀ s∈S,s∉b.fp:=fun s hs hm=>by
 obtain ⟨i,c,hi,hc,hij⟩:=h s hs;exact hij (Wx hn hi hj hc hm)
theorem zH {x:Operand} (hx:σ.ev x=some d):Rd P Γ S ⟨dst,.move x,ty,pos,af,gd⟩ σ d:=fun a w hh=>⟨a.eval x,zR hh hx,fun _ _=>rfl⟩
theorem jM {x:Operand} (hx:σ.ev x=some d):Rd P Γ S ⟨dst,.assign x,ty,pos,af,gd⟩ σ d:=fun a w hh=>⟨a.eval x,zR hh hx,fun _ _=>rfl⟩
theorem zf {P:Program} {Γ:Cx} {σ:St} {Q:Exit→Act→World→Prop} {ops:Array Oper} {rest:List Oper} {k:Nat} {ty:TypeId} {pos:String} {af:Array Edge} {d:D} {x:Operand} (hx:σ.ev x=some d) (hk:SWl P Γ ops Q rest (σ.put k d)) (hd:yp Γ.nt k=true:=by rfl):SWl P Γ ops Q (⟨some k,.assign x,ty,pos,af,none⟩::rest) σ:=za hd (jM hx) hk
theorem zd {P:Program} {Γ:Cx} {σ:St} {Q:Exit→Act→World→Prop} {ops:Array Oper} {rest:List Oper} {k:Nat} {ty:TypeId} {pos:String} {af:Array Edge} {d:D} {x:Operand} (hx:σ.ev x=some d) (hk:SWl P Γ ops Q rest (σ.put k d)) (hd:yp Γ.nt k=true:=by rfl):SWl P Γ ops Q (⟨some k,.move x,ty,pos,af,none⟩::rest) σ:=za hd (zH hx) hk
theorem yR {P:Program} {Γ:Cx} {σ:St} {Q:Exit→Act→World→Prop} {S:List Nat} {l:List Oper} {tz:Reg.Tz} {i k:Nat} {ty:TypeId} {pos:String} {af:Array Edge} {d:D} {x:Operand} (ho:l[i]? = some ⟨some k,.assign x,ty,pos,af,none⟩) (hx:σ.ev x=some d) (hk:SWz P Γ l Q S tz (σ.put k d)) (hd:yp Γ.nt k=true:=by rfl):SWz P Γ l Q S (.r i tz) σ:=zl ho hd (jM hx) hk
theorem zz {P:Program} {Γ:Cx} {σ:St} {Q:Exit→Act→World→Prop} {S:List Nat} {l:List Oper} {tz:Reg.Tz} {i k:Nat} {ty:TypeId} {pos:String} {af:Array Edge} {d:D} {x:Operand} (ho:l[i]? = some ⟨some k,.move x,ty,pos,af,none⟩) (hx:σ.ev x=some d) (hk:SWz P Γ l Q S tz (σ.put k d)) (hd:yp Γ.nt k=true:=by rfl):SWz P Γ l Q S (.r i tz) σ:=zl ho hd (zH hx) hk
theorem zt {P:Program} {Γ:Cx} {σ:St} {Q:Exit→Act→World→Prop} {ops:Array Oper} {rest:List Oper} {k:Nat} {op:Op} {ty:TypeId} {pos:String} {af:Array Edge} {j t:Nat} {b c:Bool} (hc:c = !b) (hk:SWl P Γ ops Q rest (σ.put k (isD undef))) (hj:(ops[j]?).bind (·.dst)=some t:=by rfl) (ht:σ.tm t=some (isD (.bool c)):=by rfl) (hn:yp Γ.nt t=true:=by rfl) (hd:yp Γ.nt k=true:=by rfl):SWl P Γ ops Q (⟨some k,op,ty,pos,af,some (j,b)⟩::rest) σ:=qr hj ht hc hn hd hk
theorem zJ {P:Program} {Γ:Cx} {σ:St} {Q:Exit→Act→World→Prop} {ops:Array Oper} {rest:List Oper} {k:Nat} {op:Op} {ty:TypeId} {pos:String} {af:Array Edge} {d:D} {j t:Nat} {b c:Bool} (hc:c=b) (h:Rd P Γ [] ⟨some k,op,ty,pos,af,some (j,b)⟩ σ d) (hk:SWl P Γ ops Q rest (σ.put k d)) (hj:(ops[j]?).bind (·.dst)=some t:=by rfl) (ht:σ.tm t=some (isD (.bool c)):=by rfl) (hn:yp Γ.nt t=true:=by rfl) (hd:yp Γ.nt k=true:=by rfl):SWl P Γ ops Q (⟨some k,op,ty,pos,af,some (j,b)⟩::rest) σ:=yI hj ht hc hn hd h hk
theorem ze {P:Program} {Γ:Cx} {σ:St} {Q:Exit→Act→World→Prop} {ops:Array Oper} {c:Code} (h:SW P Γ σ c Q):SWl P Γ ops (Exit.then (fun a w=>c.wp P Q a w) Q) [] σ:=zF (zj h)
theorem zN {P:Program} {Γ:Cx} {σ:St} {Q:Exit→Act→World→Prop} {ops:Array Oper} {id:Nat} {l:List Oper} {y:Code} (h:SWl P Γ l.toArray (Exit.then (fun a w=>y.wp P Q a w) Q) l σ):SWl P Γ ops (Exit.then (fun a w=>(Code.seq (.region id l.toArray false) y).wp P Q a w) Q) [] σ:=ze (zh (zi h))
theorem yE {P:Program} {Γ:Cx} {σ:St} {Q:Exit→Act→World→Prop} {S:List Nat} {l:List Oper} {c:Code} (h:SW P Γ σ c Q):SWz P Γ l (Exit.then (fun a w=>c.wp P Q a w) Q) S .fin σ:=y9 (zj h)
theorem zn {P:Program} {Γ:Cx} {σ:St} {Q:Exit→Act→World→Prop} {id:Nat} {l:List Oper} {y:Code} (h:SWl P Γ l.toArray (Exit.then (fun a w=>y.wp P Q a w) Q) l σ):SW P Γ σ (.seq (.region id l.toArray false) y) Q:=zh (zi h)
theorem zu {P:Program} {Γ:Cx} {σ:St} {Q:Exit→Act→World→Prop} {ops:Array Oper} {rest:List Oper} {op:Op} {ty:TypeId} {pos:String} {af:Array Edge} {S:List Nat} {dst:Option Tmp} {τ:St} (h:Ef P Γ S ⟨dst,op,ty,pos,af,none⟩ σ (fun σ'=>σ'=τ)) (hk:SWl P Γ ops Q rest τ):SWl P Γ ops Q (⟨dst,op,ty,pos,af,none⟩::rest) σ:=Zc h fun _ e=>e ▸ hk
theorem SWl.e2.{u} {P:Program} {Γ:Cx} {σ:St} {Q:Exit→Act→World→Prop} {ops:Array Oper} {rest:List Oper} {op:Op} {ty:TypeId} {pos:String} {af:Array Edge} {S:List Nat} {dst:Option Tmp} {α:Sort u} {τ:α→St} (h:Ef P Γ S ⟨dst,op,ty,pos,af,none⟩ σ (fun σ'=>∃ a,σ'=τ a)) (hk:∀ a,SWl P Γ ops Q rest (τ a)):SWl P Γ ops Q (⟨dst,op,ty,pos,af,none⟩::rest) σ:=Zc h fun _ ⟨a,e⟩=>e ▸ hk a
theorem SWl.e4.{u,v,w} {P:Program} {Γ:Cx} {σ:St} {Q:Exit→Act→World→Prop} {ops:Array Oper} {rest:List Oper} {op:Op} {ty:TypeId} {pos:String} {af:Array Edge} {S:List Nat} {dst:Option Tmp} {α:Sort u} {β:Sort v} {γ:Sort w} {τ:α→β→γ→St} (h:Ef P Γ S ⟨dst,op,ty,pos,af,none⟩ σ (fun σ'=>∃ a b c,σ'=τ a b c)) (hk:∀ a b c,SWl P Γ ops Q rest (τ a b c)):SWl P Γ ops Q (⟨dst,op,ty,pos,af,none⟩::rest) σ:=Zc h fun _ ⟨a,b,c,e⟩=>e ▸ hk a b c
theorem Zm {P:Program} {Γ:Cx} {σ:St} {Q:Exit→Act→World→Prop} {S:List Nat} {l:List Oper} {tz:Reg.Tz} {i:Nat} {ty:TypeId} {pos:String} {af:Array Edge} {op:Op} {dst:Option Tmp} {τ:St} (ho:l[i]? = some ⟨dst,op,ty,pos,af,none⟩) (h:Ef P Γ S ⟨dst,op,ty,pos,af,none⟩ σ (fun σ'=>σ'=τ)) (hk:SWz P Γ l Q S tz τ):SWz P Γ l Q S (.e i tz .no) σ:=jI ho h (fun _ e=>e ▸ hk) yB
theorem yZ {P:Program} {Γ:Cx} {σ:St} {Q:Exit→Act→World→Prop} {S:List Nat} {l:List Oper} {tz:Reg.Tz} {i:Nat} {ty:TypeId} {pos:String} {af:Array Edge} {op:Op} {dst:Option Tmp} {τ:St} (ho:l[i]? = some ⟨dst,op,ty,pos,af,none⟩) (h:Ef P Γ [] ⟨dst,op,ty,pos,af,none⟩ σ (fun σ'=>σ'=τ)) (hk:SWz P Γ l Q S tz τ):SWz P Γ l Q S (.n i tz .no) σ:=ZB ho h (fun _ e=>e ▸ hk) yB
def rr (l:List Nat) (t:Reg.Tz):Reg.Tz:=l.foldr .r t
theorem Rd.le {o:Oper} {d':D} (h:Rd P Γ S o σ d) (hl:Le d d'):Rd P Γ S o σ d':=fun a w hh=>by
 obtain ⟨v,h1,h2⟩:=h a w hh;exact ⟨v,hl _ _ _ h1,h2⟩
theorem zo {x:Operand} {k:Nat} {ds:List D} (hx:σ.ev x=some (ZH ds)) (hk:ds[k]? =some d):Rd P Γ S ⟨dst,.extract x k,ty,pos,af,gd⟩ σ d:=by
 intro a w hh;obtain ⟨cs,hv,ha⟩:=zR hh hx;obtain ⟨c,h1,h2⟩:=ha.at hk;refine ⟨c,h2,fun w' _=> ?_⟩;simp [execOp,hv,Instr.extract,h1]
theorem zg {x:Operand} {T k n g o:Nat} (hx:σ.ev x=some (isD<|.pointer<|some ⟨g,o,none⟩)) (hf:fldO P T k=some n):Rd P Γ S ⟨dst,.fieldAddr T x k,ty,pos,af,gd⟩ σ (isD<|.pointer<|some ⟨g,o + n,none⟩):=by
 intro a w hh;have hv:a.eval x= .pointer (some ⟨g,o,none⟩):=zR hh hx;refine ⟨_,I,fun w' _=> ?_⟩;unfold fldO at hf
 split at hf
 ·rename_i fs hu
  split at hf
  ·rename_i f hk
   split at hf
   ·rename_i sz hs;simp only [Xy] at hf;subst hf;obtain ⟨i,hi,hsz⟩:=Jy.1 hs;simp [execOp,hv,Instr.fieldAt,Jp hu,hk,Instr.sureAddr,fieldPlace,sizeOf,typeInfo,hi,hsz,Addr.add]
   ·cases hf
  ·cases hf
 ·cases hf
theorem Holds.boxAt {a:Act} {w:World} (hh:Holds Γ σ a w) {j g:Nat} {ds:List D} (hj:σ.bx[j]? =some (.c g ds)):∃ t cs,Blk w g t cs∧All (σ.L Γ) w ds cs:=hh.bx (.c g ds) (Jc hj)
theorem ZI {T:Nat} {p:Addr} {v:Value} {w:World} (hT:jx P T=true) (hc:w.cell? p=some v):(Instr.loadAt T<|.pointer<|some p).run P w= .ok v w:=by
 unfold jx at hT
 split at hT
 ·rename_i d hu
  have hag:(isAgg T).run P w= .ok false w:=by
   cases d <;> simp [TypeDesc.isRow] at hT <;> simp [isAgg,Jp hu]
  simp [Instr.loadAt,Instr.sureAddr,loadVar,hag,hc]
 ·cases hT
theorem zp {x:Operand} {T g o:Nat} (j:Nat) {ds:List D} (hx:σ.ev x=some (isD<|.pointer<|some ⟨g,o,none⟩)) (hj:σ.bx[j]? =some (.c g ds)) (hd:ds[o]? =some d) (hT:jx P T=true) (hS:Ap σ j S):Rd P Γ S ⟨dst,.load T x,ty,pos,af,gd⟩ σ d:=by
 intro a w hh;have hv:a.eval x= .pointer (some ⟨g,o,none⟩):=zR hh hx;obtain ⟨t,cs,hb,ha⟩:=hh.boxAt hj;obtain ⟨c,h1,h2⟩:=ha.at hd;refine ⟨c,h2,fun w' ho=> ?_⟩;have h3:=ZI (P:=P) hT ((hb.keep ho (fun hm=>hS.spec hh.nd hj _ hm<|m9 rfl)).cellv h1);simp [execOp,hv,h3]
theorem zx {x:Operand} {T g o:Nat} (j n:Nat) {ds:List D} (hx:σ.ev x=some (isD<|.pointer<|some ⟨g,o,none⟩)) (hj:σ.bx[j]? =some (.c g ds)) (hT:rowT P T n=true) (hn:((ds.drop o).take n).length=n) (hS:Ap σ j S):Rd P Γ S ⟨dst,.load T x,ty,pos,af,gd⟩ σ (Z8<|(ds.drop o).take n):=by
 intro a w hh;have hv:a.eval x= .pointer (some ⟨g,o,none⟩):=zR hh hx;obtain ⟨t,cs,hb,ha⟩:=hh.boxAt hj;refine ⟨.agg ((cs.drop o).take n).toArray,⟨_,I,(ha.drop o).take n⟩,fun w' ho=> ?_⟩;have hb':=hb.keep ho (fun hm=>hS.spec hh.nd hj _ hm<|m9 rfl);unfold rowT at hT
 split at hT
 ·rename_i d hu;simp only [JL,JT] at hT
  have hl:((cs.drop o).take n).length=n:=by rw [← ((ha.drop o).take n).length] at hn;exact hn
  have h3:=run_loadAt_mid (P:=P) w' g o T ((cs.drop o).take n) d (fun i v hv'=>by
   rw [hb'.cell]
   have hi:i < n:=by have:=(Jg.1 hv').1;omega
   rw [List.getElem?_take_of_lt hi,List.getElem?_drop] at hv'
   exact hv') hu hT.1 (by rw [hl];exact hT.2)
  simp [execOp,hv,h3]
 ·cases hT
theorem qd {x:Operand} {T:Nat} {v:Value} (hx:σ.ev x=some (ptD v)) (hT:jx P T=true) (hS:∀ s∈S,s∈σ.L Γ):Rd P Γ S ⟨dst,.load T x,ty,pos,af,gd⟩ σ (isD v):=by
 intro a w hh;obtain ⟨g,o,hv,hl,hc,hn⟩:=zR hh hx;refine ⟨v,I,fun w' ho=> ?_⟩;have h3:=ZI (P:=P) hT ((ho.cell (p:=⟨g,o,none⟩) hl (fun hm=>hn<|hS _ hm)).trans hc);simp [execOp,hv,h3]
def Yb (P:Program) (T e:Nat):Bool:=match P.underlying T with | some (.slice e')=>e' == e | _=>false
theorem yD {T e:Nat} (h:Yb P T e=true):P.underlying T=some (.slice e):=by
 unfold Yb at h
 split at h
 ·rename_i e' hu;rw [hu];simp at h;rw [h]
 ·cases h
theorem Rd.len {x:Operand} {T e:Nat} {xs:List Value} (hx:σ.ev x=some (slD xs)) (hT:Yb P T e=true):Rd P Γ S ⟨dst,.call { callee:= .builtin .len,args:= #[x],argTypes:= #[T] },ty,pos,af,gd⟩ σ (isD<|.int .i64 (xs.length:Int)):=by
 intro a w hh;obtain ⟨A,c,hv,_⟩:=zR hh hx;refine ⟨_,I,fun w' _=> ?_⟩;simp [execOp,resolve,invoke,builtin,hv,Builtin.len_,Jp<|yD hT,goInt]
theorem KW {x y:Operand} {T e:Nat} {xs:List Value} {i:Int} {v:Value} {kd:IntKind} (hx:σ.ev x=some (slD xs)) (hy:σ.ev y=some (isD<|.int kd i)) (hT:Yb P T e=true) (hs:(P.info? e).map (·.size)=some 1) (h0:0≤i) (hv:xs[i.toNat]? =some v):
  Rd P Γ S ⟨dst,.indexAddr T x y,ty,pos,af,gd⟩ σ (ptD v):=by
 intro a w hh;obtain ⟨A,c,hxv,hc,hr,hn⟩:=zR hh hx;have hyv:a.eval y= .int kd i:=zR hh hy;have hlt:i.toNat < xs.length:=(Jg.1 hv).1;obtain ⟨g,o,rfl,hg,hcell⟩:=hr o9;refine ⟨.pointer<|some ⟨g,o + i.toNat,none⟩,⟨g,o + i.toNat,I,hg,(hcell _ hlt).trans hv,hn o9 _ I⟩,fun w' _=> ?_⟩;obtain ⟨inf,hi,hsz⟩:=Jy.1 hs;have hb:0≤i∧i < (xs.length:Int):=⟨h0,by omega⟩;simp [execOp,hxv,hyv,Instr.indexAt,asIntOf,Jp<|yD hT,sizeOf,typeInfo,hi,hsz,Addr.add,hb]
theorem zE {c x y:Operand} {b:Bool} (hc:σ.ev c=some (isD<|.bool b)) (hb:b=true) (hx:σ.ev x=some d):Rd P Γ S ⟨dst,.pick c x y,ty,pos,af,gd⟩ σ d:=by
 intro a w hh;have hv:a.eval c= .bool b:=zR hh hc;exact ⟨a.eval x,zR hh hx,fun w' _=>by simp [execOp,hv,hb,asBool]⟩
theorem zw {c x y:Operand} {b:Bool} (hc:σ.ev c=some (isD<|.bool b)) (hb:b=false) (hy:σ.ev y=some d):Rd P Γ S ⟨dst,.pick c x y,ty,pos,af,gd⟩ σ d:=by
 intro a w hh;have hv:a.eval c= .bool b:=zR hh hc;exact ⟨a.eval y,zR hh hy,fun w' _=>by simp [execOp,hv,hb,asBool]⟩
theorem Yo {x y:Operand} {op:BinOp} {xT yT:TypeId} {u v r:Value} (hx:σ.ev x=some (isD u)) (hy:σ.ev y=some (isD v)) (h:∀ w,((do eqGuard op xT x y u v;binOp op xT u v):Sem Value).run P w= .ok r w):
  Rd P Γ S ⟨dst,.binOp op xT x y yT,ty,pos,af,gd⟩ σ (isD r):=by
 intro a w hh;have hxv:a.eval x=u:=zR hh hx;have hyv:a.eval y=v:=zR hh hy;refine ⟨r,I,fun w' _=> ?_⟩;have h':=h w';simp only [execOp,hxv,hyv];rw [JD,h']
 rfl
theorem yc {x y:Operand} {xT yT:TypeId} {kd:IntKind} {p q:Int} (hx:σ.ev x=some (isD<|.int kd p)) (hy:σ.ev y=some (isD<|.int kd q)):Rd P Γ S ⟨dst,.binOp .lss xT x y yT,ty,pos,af,gd⟩ σ (isD<|.bool<|decide (p < q)):=Yo hx hy fun _=>by simp [eqGuard,binOp,Op.intCmp]
theorem Zn {x y:Operand} {xT yT:TypeId} {kd:IntKind} {p q:Int} (hx:σ.ev x=some (isD<|.int kd p)) (hy:σ.ev y=some (isD<|.int kd q)):Rd P Γ S ⟨dst,.binOp .leq xT x y yT,ty,pos,af,gd⟩ σ (isD<|.bool<|decide (p≤q)):=Yo hx hy fun _=>by simp [eqGuard,binOp,Op.intCmp]
theorem yV {x y:Operand} {xT yT:TypeId} {kd:IntKind} {p q:Int} (hx:σ.ev x=some (isD<|.int kd p)) (hy:σ.ev y=some (isD<|.int kd q)):Rd P Γ S ⟨dst,.binOp .gtr xT x y yT,ty,pos,af,gd⟩ σ (isD<|.bool<|decide (q < p)):=Yo hx hy fun _=>by simp [eqGuard,binOp,Op.intCmp]
theorem YF {x y:Operand} {xT yT:TypeId} {kd:IntKind} {p q:Int} (hx:σ.ev x=some (isD<|.int kd p)) (hy:σ.ev y=some (isD<|.int kd q)):Rd P Γ S ⟨dst,.binOp .geq xT x y yT,ty,pos,af,gd⟩ σ (isD<|.bool<|decide (q≤p)):=Yo hx hy fun _=>by simp [eqGuard,binOp,Op.intCmp]
theorem Zr {x y:Operand} {xT yT:TypeId} {kd:IntKind} {p q:Int} (hx:σ.ev x=some (isD<|.int kd p)) (hy:σ.ev y=some (isD<|.int kd q)):Rd P Γ S ⟨dst,.binOp .eql xT x y yT,ty,pos,af,gd⟩ σ (isD<|.bool<|decide (p=q)):=Yo hx hy fun _=>by simp [eqGuard,binOp,Op.intCmp,BEq.beq]
theorem yv {x y:Operand} {xT yT:TypeId} {kd:IntKind} {p q:Int} (hx:σ.ev x=some (isD<|.int kd p)) (hy:σ.ev y=some (isD<|.int kd q)):Rd P Γ S ⟨dst,.binOp .neq xT x y yT,ty,pos,af,gd⟩ σ (isD<|.bool<|!decide (p=q)):=Yo hx hy fun _=>by simp [eqGuard,binOp,Op.intCmp,bne,BEq.beq]
theorem Wa {z:Int} (h1: -9223372036854775808≤z) (h2:z≤9223372036854775807):IntKind.i64.wrap z=z:=by
 simp [IntKind.wrap,IntKind.signed,IntKind.bits];omega
theorem Rd.add {x y:Operand} {xT yT:TypeId} {p q:Int} (hx:σ.ev x=some (isD<|.int .i64 p)) (hy:σ.ev y=some (isD<|.int .i64 q)) (h: -9223372036854775808≤p + q∧p + q≤9223372036854775807):Rd P Γ S ⟨dst,.binOp .add xT x y yT,ty,pos,af,gd⟩ σ (isD<|.int .i64<|p + q):=Yo hx hy fun _=>by simp [eqGuard,binOp,Op.intArith,Wa h.1 h.2]
theorem yG {x y:Operand} {xT yT:TypeId} {p q:Int} (hx:σ.ev x=some (isD<|.int .i64 p)) (hy:σ.ev y=some (isD<|.int .i64 q)) (h: -9223372036854775808≤p - q∧p - q≤9223372036854775807):Rd P Γ S ⟨dst,.binOp .sub xT x y yT,ty,pos,af,gd⟩ σ (isD<|.int .i64<|p - q):=Yo hx hy fun _=>by simp [eqGuard,binOp,Op.intArith,Wa h.1 h.2]
theorem Rd.mul {x y:Operand} {xT yT:TypeId} {p q:Int} (hx:σ.ev x=some (isD<|.int .i64 p)) (hy:σ.ev y=some (isD<|.int .i64 q)) (h: -9223372036854775808≤p * q∧p * q≤9223372036854775807):Rd P Γ S ⟨dst,.binOp .mul xT x y yT,ty,pos,af,gd⟩ σ (isD<|.int .i64<|p * q):=Yo hx hy fun _=>by simp [eqGuard,binOp,Op.intArith,Wa h.1 h.2]
theorem yu {x:Operand} {xT:TypeId} {p:Bool} (hx:σ.ev x=some (isD<|.bool p)):Rd P Γ S ⟨dst,.unOp .not xT x,ty,pos,af,gd⟩ σ (isD<|.bool<|!p):=by
 intro a w hh;have hv:a.eval x= .bool p:=zR hh hx;exact ⟨_,I,fun w' _=>by simp [execOp,hv,Op.unary]⟩
theorem zet {x:Operand} {xT:TypeId} {p:Int} (hx:σ.ev x=some (isD<|.int .i64 p)) (h: -9223372036854775808≤ -p∧ -p≤9223372036854775807):Rd P Γ S ⟨dst,.unOp .neg xT x,ty,pos,af,gd⟩ σ (isD<|.int .i64<|-p):=by
 intro a w hh;have hv:a.eval x= .int .i64 p:=zR hh hx;refine ⟨_,I,fun w' _=> ?_⟩
 have:IntKind.i64.wrap (0 - p)= -p:=by rw [Int.zero_sub];exact Wa h.1 h.2
 simp only [execOp,hv,Op.unary,Op.intArith,this]
 rfl
def intT (P:Program) (T:Nat) (k:IntKind):Bool:=match P.underlying T with | some (.int k')=>k' == k | _=>false
theorem KG {T:Nat} {k:IntKind} (h:intT P T k=true):P.underlying T=some (.int k):=by
 unfold intT at h
 split at h
 ·rename_i e' hu;rw [hu];simp at h;rw [h]
 ·cases h
theorem Rd.cvi {x:Operand} {sT dT:TypeId} {kd ks:IntKind} {p:Int} (kb:IntKind) (hx:σ.ev x=some (isD<|.int ks p)) (hs:intT P sT kb=true) (hd:intT P dT kd=true):Rd P Γ S ⟨dst,.convert sT dT x,ty,pos,af,gd⟩ σ (isD<|.int kd<|kd.wrap p):=by
 intro a w hh;have hv:a.eval x= .int ks p:=zR hh hx;refine ⟨_,I,fun w' _=> ?_⟩;simp [execOp,hv,convert,Jp<|KG hs,Jp<|KG hd,Conv.intToInt]
theorem agg_cells {cs:List Value}:(Value.agg cs.toArray).cells=cs.toArray:=rfl
theorem ym {x:Operand} {T:Nat} {ds:List D} {k:Nat} (hx:σ.ev x=some (Z8 ds)) (hk:yp Γ.nt k=true):Ef P Γ S ⟨some k,.box T x,ty,pos,af,gd⟩ σ (fun σ'=>∃ g,σ'=(σ.mk' g ds).put k (pA g)):=by
 intro a w hh K Q hK;obtain ⟨cs,hv,ha⟩:=zR hh hx;have h1:=(hh.box (t:=T) ha).put (i:=k) (by simpa [yp] using hk) (d:=pA w.heap.size) (v:= .pointer<|some ⟨w.heap.size,0,none⟩) rfl
 have e:(execOp a.eval ⟨some k,.box T x,ty,pos,af,gd⟩).run P w= .ok (.value<|.pointer<|some ⟨w.heap.size,0,none⟩) (w.alloc<|.cells cs.toArray T):=by
  simp [execOp,hv,Instr.box,newVar,newRow,agg_cells]
 unfold Oper.wp;rw [e];exact hK _ _ _ ⟨_,I⟩ h1 ((Only.refl S w).alloc _)
theorem Y6 {x:Operand} {T:Nat} {d:D} {k:Nat} (hx:σ.ev x=some d) (hc:∀ L w v,d.R L w v→v.cells= #[v]) (hk:yp Γ.nt k=true):Ef P Γ S ⟨some k,.box T x,ty,pos,af,gd⟩ σ (fun σ'=>∃ g,σ'=(σ.mk' g [d]).put k (pA g)):=by
 intro a w hh K Q hK;have hv:=zR hh hx;have h1:=(hh.box (t:=T)<|All.one hv).put (i:=k) (by simpa [yp] using hk) (d:=pA w.heap.size) (v:= .pointer<|some ⟨w.heap.size,0,none⟩) rfl
 have e:(execOp a.eval ⟨some k,.box T x,ty,pos,af,gd⟩).run P w= .ok (.value<|.pointer<|some ⟨w.heap.size,0,none⟩) (w.alloc<|.cells [a.eval x].toArray T):=by
  simp [execOp,Instr.box,newVar,newRow,hc _ _ _ hv]
 unfold Oper.wp;rw [e];exact hK _ _ _ ⟨_,I⟩ h1 ((Only.refl S w).alloc _)
theorem jr {L:LN} {w:World}:∀ (zs:List Value),All L w (zs.map isD) zs
 | []=>trivial
 | _ :: zs=>⟨rfl,jr zs⟩
def zerosT (P:Program) (T:Nat):Option (List Value):=((P.info? T).bind (·.zero)).map (·.cells.toList)
theorem Ef.alloc {T:Nat} {zs:List Value} {k:Nat} (hz:zerosT P T=some zs) (hk:yp Γ.nt k=true):Ef P Γ S ⟨some k,.alloc T,ty,pos,af,gd⟩ σ (fun σ'=>∃ g,σ'=(σ.mk' g<|zs.map isD).put k (pA g)):=by
 intro a w hh K Q hK;obtain ⟨z,h1,h2⟩:=Jy.1 hz;obtain ⟨i,hi,hzi⟩:=Option.bind_eq_some_iff.1 h1;have h3:=(hh.box (t:=T)<|jr zs).put (i:=k) (by simpa [yp] using hk) (d:=pA w.heap.size) (v:= .pointer<|some ⟨w.heap.size,0,none⟩) rfl
 have hc:z.cells=zs.toArray:=by rw [← h2]
 have e:(execOp a.eval ⟨some k,.alloc T,ty,pos,af,gd⟩).run P w= .ok (.value<|.pointer<|some ⟨w.heap.size,0,none⟩) (w.alloc<|.cells zs.toArray T):=by
  simp [execOp,Instr.alloc,zeroValue,typeInfo,hi,hzi,newVar,newRow,hc]
 unfold Oper.wp;rw [e];exact hK _ _ _ ⟨_,I⟩ h3 ((Only.refl S w).alloc _)
theorem EfB.alloc {T:Nat} {zs:List Value} {k:Nat} (hz:zerosT P T=some zs) (hk:yp Γ.nt k=true):EfB P Γ ⟨some k,.alloc T,ty,pos,af,gd⟩ σ (fun g σ'=>σ'=(σ.mk' g<|zs.map isD).put k (pA g)):=by
 intro a w hh K Q hK;obtain ⟨z,h1,h2⟩:=Jy.1 hz;obtain ⟨i,hi,hzi⟩:=Option.bind_eq_some_iff.1 h1;have h3:=(hh.box (t:=T)<|jr zs).put (i:=k) (by simpa [yp] using hk) (d:=pA w.heap.size) (v:= .pointer<|some ⟨w.heap.size,0,none⟩) rfl
 have hc:z.cells=zs.toArray:=by rw [← h2]
 have e:(execOp a.eval ⟨some k,.alloc T,ty,pos,af,gd⟩).run P w= .ok (.value<|.pointer<|some ⟨w.heap.size,0,none⟩) (w.alloc<|.cells zs.toArray T):=by
  simp [execOp,Instr.alloc,zeroValue,typeInfo,hi,hzi,newVar,newRow,hc]
 unfold Oper.wp;rw [e];exact hK _ _ _ _ (Js _) I h3 ((Only.refl [] w).alloc _)
theorem zv {f:FuncId} {args:Array Operand} {aT:Array TypeId} {ds es:List D} {d:D} {k:Nat} (hcon:Con P f ds d) (he:σ.evs args.toList=some es) (hl:LeAll es ds) (hk:yp Γ.nt k=true):
  Ef P Γ S ⟨some k,.call { callee:= .value<|.func f,args:=args,argTypes:=aT },ty,pos,af,gd⟩ σ (fun σ'=>σ'=σ.put k d):=by
 intro a w hh K Q hK;have hall:=hl.all (Zt hh he)
 have e:(execOp a.eval ⟨some k,.call { callee:= .value<|.func f,args:=args,argTypes:=aT },ty,pos,af,gd⟩).run P w= .ok (.enter f (args.toList.map a.eval).toArray) w:=by
  have h:=hcon.en (args.toList.map a.eval).toArray w
  have e1:(args.map a.eval)=(args.toList.map a.eval).toArray:=by apply Xe;simp
  simp only [execOp,resolve,Deferred.ofValue,Act.eval,e1,JD,JK,Jv,invoke,Array.append_empty,Array.empty_append];exact h
 unfold Oper.wp;rw [e];simp only [Oper.upon];refine (hcon.go (σ.L Γ) w _ hh.lt hh.gl hall).mono ?_;rintro r w' ⟨v,rfl,hd,ho⟩;exact hK _ _ _ I ((hh.keep ho).put (by simpa [yp] using hk) hd) (ho.mono s9)
theorem Ef.callB {f:FuncId} {args:Array Operand} {aT:Array TypeId} {g:Nat} {bs es ads ads':List D} {d:D} {k:Nat} (j:Nat) (hcon:ConB P f g bs es ads d) (he:σ.evs args.toList=some ads') (hl:LeAll ads' ads) (hj:σ.bx[j]? =some (.c g bs)) (hS:g∈S) (hk:yp Γ.nt k=true):
  Ef P Γ S ⟨some k,.call { callee:= .value<|.func f,args:=args,argTypes:=aT },ty,pos,af,gd⟩ σ (fun σ'=>σ'=(σ.set j es).put k d):=by
 intro a w hh K Q hK;have hall:=hl.all (Zt hh he)
 have e:(execOp a.eval ⟨some k,.call { callee:= .value<|.func f,args:=args,argTypes:=aT },ty,pos,af,gd⟩).run P w= .ok (.enter f (args.toList.map a.eval).toArray) w:=by
  have h:=hcon.en (args.toList.map a.eval).toArray w
  have e1:(args.map a.eval)=(args.toList.map a.eval).toArray:=by apply Xe;simp
  simp only [execOp,resolve,Deferred.ofValue,Act.eval,e1,JD,JK,Jv,invoke,Array.append_empty,Array.empty_append];exact h
 unfold Oper.wp;rw [e];simp only [Oper.upon]
 -- the other blocks
 have hgm:g∈fps σ.bx:=yz.2 ⟨_,Jc hj,m9 rfl⟩
 have hgb:g∉Γ.base:=fun hm=>by
  rcases hh.nw g hgm with h' | h'
  ·have:=hh.bs g hm;omega
  ·exact hh.dj.1 g h' hm
 have hL1:∀ x∈g :: (σ.L Γ).filter (· ≠g),x∈σ.L Γ∨w.heap.size≤x:=fun x hx=>by
  rcases Jt.1 hx with rfl | hx
  ·exact .inl (mL _ hgm)
  ·exact .inl (Jw.1 hx).1
 obtain ⟨t,cs,hb,ha⟩:=hh.bx (.c g bs) (Jc hj)
 refine (hcon.go ((σ.L Γ).filter (· ≠g)) w _ (fun x hx=>hh.lt x (Jw.1 hx).1) hh.gl (hh.off g (by first | exact hgm | assumption)) s9 ⟨t,cs,hb,ha.less hL1⟩<|hall.less hL1).mono ?_
 rintro r w' ⟨v,rfl,hd,⟨t',cs',hb',ha'⟩,ho⟩
 have hL2:∀ x∈σ.L Γ,x∈g :: (σ.L Γ).filter (· ≠g)∨w'.heap.size≤x:=fun x hx=>by
  by_cases hxg:x=g
  ·exact .inl (by rw [hxg];exact mC)
  ·exact .inl (Jl _<|Jw.2 ⟨hx,by simpa using hxg⟩)
 refine hK _ _ _ I ((hh.set' hj hb' ho<|ha'.less hL2).put (by simpa [yp] using hk) ?_) (ho.mono (by intro z hz _;simp at hz;subst hz;exact hS));rw [L_set];exact d.less hd hL2
end
end
section
class One (d:D):Prop where
 h:∀ L w v,d.R L w v→v.oneCell'=true
instance (k:IntKind) (n:Int):One (isD<|.int k n):=⟨fun _ _ _ h=>by cases h;rfl⟩
instance (b:Bool):One (isD<|.bool b):=⟨fun _ _ _ h=>by cases h;rfl⟩
instance (s:ByteArray):One (isD<|.string s):=⟨fun _ _ _ h=>by cases h;rfl⟩
instance (a:Option Addr) (n c:Nat):One (isD<|.slice a n c):=⟨fun _ _ _ h=>by cases h;rfl⟩
instance (a:Option Addr):One (isD<|.pointer a):=⟨fun _ _ _ h=>by cases h;rfl⟩
instance (xs:List Value):One (slD xs):=⟨fun _ _ _ h=>by obtain ⟨A,c,rfl,_⟩:=h;rfl⟩
instance (x:Value):One (ptD x):=⟨fun _ _ _ h=>by obtain ⟨A,c,rfl,_⟩:=h;rfl⟩
class Ones (ds:List D):Prop where
 m:∀ d∈ds,∀ L w v,d.R L w v→v.oneCell'=true
instance:Ones []:=⟨fun d hd=>by simp at hd⟩
instance (d:D) (ds:List D) [o:One d] [os:Ones ds]:Ones (d :: ds):=⟨fun e he=>by
 rcases Jt.1 he with rfl | he
 ·exact o.h
 ·exact os.m e he⟩
instance (ds:List D) (n:Nat) [os:Ones ds]:Ones (ds.take n):=⟨fun d hd=>os.m d<|List.mem_of_mem_take hd⟩
instance (ds:List D) (n:Nat) [os:Ones ds]:Ones (ds.drop n):=⟨fun d hd=>os.m d<|List.mem_of_mem_drop hd⟩
instance (ds es:List D) [os:Ones ds] [ps:Ones es]:Ones (ds ++ es):=⟨fun d hd=>by
 rcases Jf.1 hd with h | h
 ·exact os.m d h
 ·exact ps.m d h⟩
theorem Ones.h {ds:List D} [os:Ones ds]:∀ L w cs,All L w ds cs→∀ v∈cs,v.oneCell'=true:=by
 have key:∀ (es:List D),(∀ d∈es,d∈ds)→∀ L w cs,All L w es cs→∀ v∈cs,v.oneCell'=true:=by
  intro es
  induction es with
  | nil=>intro _ L w cs h v hv;cases cs with | nil=>simp at hv | cons=>exact h.elim
  | cons d es ih=>
   intro hm L w cs h v hv
   cases cs with
   | nil=>exact h.elim
   | cons c cs=>
    rcases Jt.1 hv with rfl | hv
    ·exact os.m d (hm d s9) _ _ _ h.1
    ·exact ih (fun e he=>hm e<|Jl _ he) _ _ _ h.2 v hv
 exact key ds (fun _ h=>h)
theorem Zo {v:Value} (h:v.oneCell'=true):v.cells= #[v]:=by cases v <;> first | rfl | (simp [Value.oneCell'] at h)
def Ke (P:Program) (T n:Nat):Bool:=(P.info? T).map (·.size) == some n
def Yy (ds:List D) (o:Nat) (es:List D):List D:=ds.take o ++ (es ++ ds.drop (o + es.length))
section
variable {P:Program}{Γ:Cx}{σ:St}{S:List Nat}{dst:Option Tmp}{ty:TypeId}{pos:String}{af:Array Edge}{gd:Option (Nat × Bool)}{d:D}
theorem zA {x y:Operand} {T g o:Nat} (j:Nat) {ds es:List D} [Ones es] (hx:σ.ev x=some (isD<|.pointer<|some ⟨g,o,none⟩)) (hy:σ.ev y=some (Z8 es)) (hj:σ.bx[j]? =some (.c g ds)) (hT:Ke P T es.length=true) (hfit:Nat.ble (o + es.length) ds.length=true) (hS:g∈S):
  Ef P Γ S ⟨none,.store T x y,ty,pos,af,gd⟩ σ (fun σ'=>σ'=σ.set j (Yy ds o es)):=by
 intro a w hh K Q hK;have hxv:a.eval x= .pointer (some ⟨g,o,none⟩):=zR hh hx;obtain ⟨es',hyv,hae⟩:=zR hh hy;obtain ⟨t,cs,hb,ha⟩:=hh.boxAt hj;have h1:=ha.length;have h2:=hae.length
 have h3:o + es.length≤ds.length:=by simpa using hfit
 obtain ⟨h4,h5⟩:=Yk es' o cs w hb o9
 have hth:w.there g o es'.toArray.size:=fun i hi=>by
  have hi':i < es'.length:=by simpa using hi
  refine ⟨?_,hb.frozen _⟩;rw [hb.cell,Je o9]
  rfl
 have hsz:(P.info? T).map (·.size)=some es'.toArray.size:=by
  unfold Ke at hT;rw [JT] at hT;rw [hT];simp [h2]
 have e:(execOp a.eval ⟨none,.store T x y,ty,pos,af,gd⟩).run P w= .ok .skip (w.setCells g o es'):=by
  have h6:=run_storeAt_mid (P:=P) w g o T es'.toArray hth hsz (by
   rw [Array.all_eq_true_iff_forall_mem]
   exact fun v hv=>Ones.h (ds:=es) _ _ _ hae v (by simpa using hv))
  simp [execOp,hxv,hyv,h6]
 unfold Oper.wp;rw [e]
 have hall:All (σ.L Γ) w (Yy ds o es) (cs.take o ++ (es' ++ cs.drop (o + es'.length))):=by
  unfold Yy;rw [h2];exact (ha.take o).append (hae.append<|ha.drop _)
 exact hK _ _ _ I (hh.set hj h4 h5 hall) (h5.mono (by intro z hz _;simp at hz;subst hz;exact hS))
theorem yW {x y:Operand} {T g o:Nat} (j:Nat) {ds:List D} [One d] (hx:σ.ev x=some (isD<|.pointer<|some ⟨g,o,none⟩)) (hy:σ.ev y=some d) (hj:σ.bx[j]? =some (.c g ds)) (hT:Ke P T 1=true) (hfit:Nat.blt o ds.length=true) (hS:g∈S):
  Ef P Γ S ⟨none,.store T x y,ty,pos,af,gd⟩ σ (fun σ'=>σ'=σ.set j (ds.set o d)):=by
 intro a w hh K Q hK;have hxv:a.eval x= .pointer (some ⟨g,o,none⟩):=zR hh hx;have hyd:=zR hh hy;have h1c:=One.h (d:=d) _ _ _ hyd;obtain ⟨t,cs,hb,ha⟩:=hh.boxAt hj;have h1:=ha.length
 have h3:o < ds.length:=by simpa using hfit
 have hc:w.cell? ⟨g,o,none⟩=some cs[o]:=by rw [hb.cell,Je o9]
 obtain ⟨i,hi,hs⟩:=Jy.1 (show (P.info? T).map (·.size)=some 1 by unfold Ke at hT;rw [JT] at hT;exact hT)
 have e:(execOp a.eval ⟨none,.store T x y,ty,pos,af,gd⟩).run P w= .ok .skip (w.setCell ⟨g,o,none⟩<|a.eval y):=by
  simp [execOp,hxv,Instr.storeAt,Instr.sureAddr,storeVar,sizeOf,typeInfo,hi,hs,Zo h1c,storeCells,run_store _ _ _ _ _ h1c,Addr.add,hc,hb.frozen]
 unfold Oper.wp;rw [e];have ho:Only [g] w (w.setCell ⟨g,o,none⟩<|a.eval y):=(Only.refl [g] w).setCell (p:=⟨g,o,none⟩) (.inl s9) _;exact hK _ _ _ I (hh.set hj (hb.set o _) ho<|ha.set hyd) (ho.mono (by intro z hz _;simp at hz;subst hz;exact hS))
theorem Kt (f:Operand→Value):∀ (parts:List (Nat × Operand)),parts.map (fun x=>(x.1,f x.2))=(parts.map (·.1)).zip ((parts.map (·.2)).map f)
 | []=>rfl
 | (i,x) :: ps=>by simp only [JU,List.zip_cons_cons,Kt f ps]
def Bld (P:Program) (T:Nat) (idx:LN) (es out:List D):Prop:=∀ L w vs,All L w es vs→∃ cs,All L w out cs∧∀ w',(Instr.build T (idx.zip vs).toArray).run P w'= .ok (.agg cs.toArray) w'
theorem yF {parts:List (Nat × Operand)} {T:Nat} {idx:LN} {es out:List D} (hi:parts.map (·.1)=idx) (he:σ.evs (parts.map (·.2))=some es) (hb:Bld P T idx es out):Rd P Γ S ⟨dst,.build T parts.toArray,ty,pos,af,gd⟩ σ (Z8 out):=by
 intro a w hh;obtain ⟨cs,h1,h2⟩:=hb _ _ _ (Zt hh he);refine ⟨.agg cs.toArray,⟨cs,I,h1⟩,fun w' _=> ?_⟩
 have e:(parts.toArray.map fun (i,x)=>(i,a.eval x))=(idx.zip<|(parts.map (·.2)).map a.eval).toArray:=by
  rw [← hi];apply Xe;simp only [Array.toList_map];exact Kt a.eval parts
 have h3:=h2 w';simp only [execOp];rw [e,JD,h3]
 rfl
theorem Ef.lit {parts:List (Nat × Operand)} {T e n k:Nat} {xs:List Value} (he:σ.evs (parts.map (·.2))=some (xs.map isD)) (hk:yp Γ.nt k=true)
  (hrun:∀ w:World,(Instr.buildSlice T n ((parts.map (·.1)).zip xs).toArray).run P w= .ok (.slice (some ⟨w.heap.size,0,none⟩) xs.length xs.length) (w.alloc<|.cells xs.toArray e)):
  Ef P Γ S ⟨some k,.buildSlice T n parts.toArray,ty,pos,af,gd⟩ σ (fun σ'=>σ'=σ.put k (slD xs)):=by
 intro a w hh K Q hK;have hall:=Zt hh he
 have hvs:∀ {zs:List Value} {cs:List Value},All (σ.L Γ) w (zs.map isD) cs→cs=zs:=by
  intro zs
  induction zs with
  | nil=>intro cs h;cases cs with | nil=>rfl | cons=>exact h.elim
  | cons z zs ih=>intro cs h;cases cs with | nil=>exact h.elim | cons c cs=>rw [ih h.2,show c=z from h.1]
 have hv:=hvs hall
 have e1:(parts.toArray.map fun (i,x)=>(i,a.eval x))=((parts.map (·.1)).zip xs).toArray:=by
  rw [← hv];apply Xe;simp only [Array.toList_map];exact Kt a.eval parts
 have e2:(execOp a.eval ⟨some k,.buildSlice T n parts.toArray,ty,pos,af,gd⟩).run P w= .ok (.value<|.slice (some ⟨w.heap.size,0,none⟩) xs.length xs.length) (w.alloc<|.cells xs.toArray e):=by
  simp only [execOp];rw [e1,JD,hrun w]
  rfl
 unfold Oper.wp;rw [e2];have ho:Only [] w (w.alloc<|.cells xs.toArray e):=(Only.refl [] w).alloc _;refine hK _ _ _ I ((hh.keep ho).put (by simpa [yp] using hk) ⟨_,_,I,Js _,RV.new I,fun _ p hp hm=> ?_⟩) ((Only.refl S w).alloc _);injection hp with hp;subst hp;have:=hh.lt _ hm;simp at this
def ResV (σ:St) (P:Program):ResultVar→D→Prop
 | .tmp t,d=>σ.tm t=some d
 | .cell p T,d=>∃ (j g:Nat) (ds:List D),σ.tm p=some (pA g)∧σ.bx[j]? =some (.c g ds)∧((rowT P T ds.length=true∧d=Z8 ds)∨(jx P T=true∧ds[0]? =some d))
theorem zk {t:Nat} (h:σ.tm t=some d):ResV σ P (.tmp t) d:=h
theorem yx {p T:Nat} (j:Nat) {g:Nat} {ds:List D} (h1:σ.tm p=some (pA g)) (h2:σ.bx[j]? =some (.c g ds)) (h3:rowT P T ds.length=true):ResV σ P (.cell p T) (Z8 ds):=⟨j,g,ds,h1,h2,.inl ⟨h3,rfl⟩⟩
theorem za7 {p T:Nat} (j:Nat) {g:Nat} {ds:List D} (h1:σ.tm p=some (pA g)) (h2:σ.bx[j]? =some (.c g ds)) (h3:jx P T=true) (h4:ds[0]? =some d):ResV σ P (.cell p T) d:=⟨j,g,ds,h1,h2,.inr ⟨h3,h4⟩⟩
def VK (tmps:Array Value):ResultVar→Sem Value
 | .tmp t=>pure (tmps.getD t undef)
 | .cell a t=>do loadVar t (← asAddr (tmps.getD a undef))
theorem qK {r:ResultVar} {a:Act} {w:World} (hh:Holds Γ σ a w) (h:ResV σ P r d):∃ v,(VK a.tmps r).run P w= .ok v w∧d.R (σ.L Γ) w v:=by
 cases r with
 | tmp t=>exact ⟨_,rfl,hh.tm t d h⟩
 | cell p T=>
  obtain ⟨j,g,ds,hp,hj,h⟩:=h;have hpv:a.tmps.getD p undef= .pointer (some ⟨g,0,none⟩):=hh.tm _ _ hp;obtain ⟨t,cs,hb,ha⟩:=hh.boxAt hj;rcases h with ⟨hT,rfl⟩ | ⟨hT,hd⟩
  ·refine ⟨.agg cs.toArray,?_,⟨cs,I,ha⟩⟩;unfold rowT at hT
   split at hT
   ·rename_i d hu;simp only [JL,JT] at hT;have h3:=run_loadVar_mid (P:=P) w g 0 T cs d (fun i v hv'=>by rw [JF,hb.cell];exact hv') hu hT.1 (by rw [ha.length];exact hT.2);simp only [VK,hpv,asAddr,JD,JK,Jv,h3]
   ·cases hT
  ·obtain ⟨c,h1,h2⟩:=ha.at hd;refine ⟨c,?_,h2⟩;have h3:=ZI (P:=P) hT (hb.cellv h1);simp only [Instr.loadAt,Instr.sureAddr,JD,JK,Jv] at h3;simp only [VK,hpv,asAddr,JD,JK,Jv,h3]
theorem zG {fn:Func} {r:ResultVar} (h:fn.results= #[r]) (h1:ResV σ P r d):Rs P Γ fn σ d:=by
 intro a w hh;obtain ⟨v,hv,hd⟩:=qK hh h1;refine ⟨v,?_,hd⟩
 have e:results fn a.tmps=(do let x ← VK a.tmps r;pure x):=by cases r <;> simp [results,h,VK]
 simp [e,hv]
theorem Rs.two {fn:Func} {r s:ResultVar} {d e:D} (h:fn.results= #[r,s]) (h1:ResV σ P r d) (h2:ResV σ P s e):Rs P Γ fn σ (ZH [d,e]):=by
 intro a w hh;obtain ⟨v,hv,hd⟩:=qK hh h1;obtain ⟨u,hu,he⟩:=qK hh h2;refine ⟨.tuple #[v,u],?_,[v,u],I,hd,he,t9⟩
 have e:results fn a.tmps=(do let x ← VK a.tmps r;let y ← VK a.tmps s;pure<|.tuple #[x,y]):=by cases r <;> cases s <;> simp [results,h,VK]
 simp [e,hv,hu]
theorem j6 {fn:Func} {r s t:ResultVar} {d e f:D} (h:fn.results= #[r,s,t]) (h1:ResV σ P r d) (h2:ResV σ P s e) (h3:ResV σ P t f):Rs P Γ fn σ (ZH [d,e,f]):=by
 intro a w hh;obtain ⟨v,hv,hd⟩:=qK hh h1;obtain ⟨u,hu,he⟩:=qK hh h2;obtain ⟨z,hz,hf⟩:=qK hh h3;refine ⟨.tuple #[v,u,z],?_,[v,u,z],I,hd,he,hf,t9⟩
 have e:results fn a.tmps=(do let x ← VK a.tmps r;let y ← VK a.tmps s;let z ← VK a.tmps t;pure<|.tuple #[x,y,z]):=by cases r <;> cases s <;> cases t <;> simp [results,h,VK]
 simp [e,hv,hu,hz]
theorem Rs.le {fn:Func} {d':D} (h:Rs P Γ fn σ d) (hl:Le d d'):Rs P Γ fn σ d':=fun a w hh=>by
 obtain ⟨v,h1,h2⟩:=h a w hh;exact ⟨v,h1,hl _ _ _ h2⟩
