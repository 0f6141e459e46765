/- WHAT EVERY WALK NEEDS, over any program: blocks made since, slices as lists, append, make, strings out of bytes; cells of one kind of integer. A DRAWI -/
import Derived.Test.YtfoafihodanmhaaGreatDoorGZAB
import Derived.Laws.MakeOwn
import Derived.Lib.ConvBytes
import Derived.Laws.BitsAllLaws
import Derived.Deep.LoopGhost
namespace Go.Proofs.YtfoafihodanmhaaGreatDoor
open Go.RowKit
theorem Only.dd {S:LN} {w w':World} (h:Only S w w'):Only S w.drew w'.drew:=⟨h.os,h.tape,h.output,h.size,h.block⟩
theorem RV.new {w:World} {t:TypeId} {arr:Array Value} {xs:List Value} (h:arr=xs.toArray):RV (w.alloc<|.cells arr t) (some ⟨w.heap.size,0,none⟩) xs:=by
 subst h;exact fun _=>⟨_,0,I,(Blk.new w t xs).lt,fun j _=>by rw [JF];exact (Blk.new w t xs).cell j⟩
theorem Blk.rv {w:World} {g:Nat} {t:TypeId} {cs:List Value} (h:Blk w g t cs):RV w (some ⟨g,0,none⟩) cs:=fun _=>⟨_,0,rfl,h.lt,fun j _=>by rw [JF];exact h.cell j⟩
theorem jc (z:Value) (n:Nat):(madeCells #[z] n).toList=List.replicate n z:=by
 apply Xh;intro i;simp only [madeCells,Array.toList_map,Array.toList_range,JJ,Xj]
 by_cases h:i < n
 ·rw [List.getElem?_range h];simp [h,Nat.mod_one]
 ·rw [JM (by simpa using h)];simp [h]
section
variable {P:Program}{w:World}{ops:Array Oper}{rest:List Oper}{o:Oper}{a:Act}{Q:Exit→Act→World→Prop}
theorem q8 (hgd:o.guard=none) (t:TypeId) (x y:Operand) (ho:o.op= .makeSlice t x y) (e:TypeId) (z:Value) (bytes:Nat) (ht:P.underlying t=some (.slice e))
  (hinfo:(P.info? e).map (fun i=>(i.zero,i.size,i.bytes))=some (some z,1,bytes)) (hzc:z.cells= #[z]) (kl kc:IntKind) (li ci:Int) (l c:Nat) (hl:li=(l:Int)) (hci:ci=(c:Int)) (hx:a.eval x= .int kl li) (hy:a.eval y= .int kc ci)
  (hlc:l≤c) (hc:c≤1099511627776) (hb:bytes≤128)
  (h:∀ w',OwnS w' e (some ⟨w.heap.size,0,none⟩) c (List.replicate l z) (some w.heap.size)→Blk w' w.heap.size e (List.replicate c z)→Only [] w w'→wpList P ops Q rest (a.put o.dst<|.slice (some ⟨w.heap.size,0,none⟩) l c) w'):wpList P ops Q (o :: rest) a w:=by
 subst hl hci;refine J4 hgd fun K hK=> ?_
 cases hI:P.info? e with
 | none=>rw [hI] at hinfo;cases hinfo
 | some i=>
  rw [hI] at hinfo;injection hinfo with hinfo;injection hinfo with h1 h2;injection h2 with h2 h3;have hbc:=Xx hb hc
  have hbI:(i.bytes:Int) * (c:Int)≤281474976710656:=by
   rw [h3]
   have h4:((bytes * c:Nat):Int)≤281474976710656:=by omega
   rw [Int.natCast_mul] at h4;exact h4
  have hrun:=run_make (P:=P) w t e i z ht hI h1 kl kc (l:Int) (c:Int) o9 o9 hbI o9;unfold Oper.wp execOp;simp only [ho,hx,hy,JD,hrun,Jv,JK];simp only [J7,h2,Nat.mul_one,hzc]
  have hB:Blk (w.alloc<|.cells (madeCells #[z] c) e) w.heap.size e (List.replicate c z):=by
   have h4:=Blk.new w e (madeCells #[z] c).toList;rw [Array.toArray_toList] at h4;rw [← jc];exact h4
  refine hK _ _ (h _ (.inr ⟨w.heap.size,List.replicate (c - l) z,I,I,?_,by simp;omega,by simp only [maxLen];omega⟩) hB<|(Only.refl [] w).alloc _);rw [List.replicate_append_replicate,show l + (c - l)=c by omega];exact hB
end
@[go_sem] theorem extS_drew2 (S:LN) (w:World) (t:{ w':World // Only S w.drew.drew w' }) (p:Addr) (h:p.block < w.heap.size) (hn:p.block∉S):(Reg.extS S w.drew.drew t).cell? p=w.cell? p:=t.2.cell (w:=w.drew.drew) h hn
@[go_sem] theorem extS_drew3 (S:LN) (w:World) (t:{ w':World // Only S w.drew.drew.drew w' }) (p:Addr) (h:p.block < w.heap.size) (hn:p.block∉S):(Reg.extS S w.drew.drew.drew t).cell? p=w.cell? p:=t.2.cell (w:=w.drew.drew.drew) h hn
def cN (k:IntKind) (l:LN):List Value:=l.map fun n:Nat=> .int k (n:Int)
@[simp] theorem Zh (k:IntKind) (l:LN):(cN k l).length=l.length:=by simp [cN]
theorem cN_append (k:IntKind) (a b:LN):cN k (a ++ b)=cN k a ++ cN k b:=by simp [cN]
theorem ZQ {k:IntKind} {l:LN} {i:Nat} (h:i < l.length):(cN k l)[i]? =some (.int k ((l.getD i 0:Nat):Int)):=by simp [cN,h]
theorem ZW (k:IntKind) (l:LN) (i n:Nat):(cN k l).set i (.int k (n:Int))=cN k (l.set i n):=by simp [cN,List.map_set]
theorem VE (k:IntKind) (n:Nat):List.replicate n (Value.int k 0)=cN k (List.replicate n 0):=by simp [cN]
theorem RV.front {w:World} {A:Option Addr} {xs ys:List Value} (h:RV w A (xs ++ ys)):RV w A xs:=by
 intro h0;obtain ⟨g,o,e,hg,hc⟩:=h (by rw [Jk];omega);exact ⟨g,o,e,hg,fun j hj=>by rw [hc j (by rw [Jk];omega),JB hj]⟩
theorem RV.take {w:World} {A:Option Addr} {xs:List Value} (h:RV w A xs) (k:Nat):RV w A (xs.take k):=by
 rw [← JV k xs] at h;exact h.front
namespace Reg
variable {P:Program}{ops:Array Oper}{Q:Exit→Act→World→Prop}{E:Nat→Nat}{S:List Nat}
def Sl (S:LN):Nat→LN
 | 2=>S
 | _=>[]
theorem Sl_le (S:LN) (k:Nat) {w w':World} (h:Only (Sl S k) w w'):Only S w w':=by
 unfold Sl at h
 split at h
 ·exact h
 ·exact h.mono s9
def waitsY (ops:Array Oper) (E:Nat→Nat) (listed:Array Bool) (i:Nat):Bool:=
 (List.range ops.size).all fun j=> !(E j == 2) || listed.getD j true || ((ops.getD j default).after.any fun e=>Region.binds .any e && (e.on == i))
end Reg
namespace Sx
section
structure Glob where
 R:World→Prop
 F:LN
 lt:∀ {w:World},R w→∀ g∈F,g < w.heap.size
 keep:∀ {S:LN} {w w':World},R w→Only S w w'→(∀ g∈F,g∉S)→R w'
def glob:Glob:=⟨Gl,[1,2],
 fun h g hg=>Ju (show g < 3 by
  simp only [Jt,List.not_mem_nil,or_false] at hg
  rcases hg with rfl | rfl <;> decide) h.sz,
 fun h ho hn=>h.keep ho (hn _ s9)<|hn _ s9⟩
end
section
structure D where
 R:LN→World→Value→Prop
 keep:∀ {L S:LN} {w w':World} {v:Value},R L w v→Only S w w'→(∀ x∈S,x∈L)→R L w' v
 less:∀ {L L':LN} {w:World} {v:Value},R L w v→(∀ x∈L',x∈L∨w.heap.size≤x)→R L' w v
def isD (x:Value):D:=⟨fun _ _ v=>v=x,fun h _ _=>h,fun h _=>h⟩
abbrev pA (g : Nat) : D := isD (.pointer (some ⟨g, 0, none⟩))
def All (L:LN) (w:World):List D→List Value→Prop
 | [],[]=>True
 | d :: ds,c :: cs=>d.R L w c∧All L w ds cs
 | _,_=>False
theorem All.keep {L S:LN} {w w':World} (ho:Only S w w') (hS:∀ x∈S,x∈L):∀ {ds:List D} {cs:List Value},All L w ds cs→All L w' ds cs
 | [],[],_=>trivial
 | d :: _,_ :: _,h=>⟨d.keep h.1 ho hS,All.keep ho hS h.2⟩
theorem All.less {L L':LN} {w:World} (hS:∀ x∈L',x∈L∨w.heap.size≤x):∀ {ds:List D} {cs:List Value},All L w ds cs→All L' w ds cs
 | [],[],_=>trivial
 | d :: _,_ :: _,h=>⟨d.less h.1 hS,All.less hS h.2⟩
theorem All.length {L:LN} {w:World}:∀ {ds:List D} {cs:List Value},All L w ds cs→cs.length=ds.length
 | [],[],_=>rfl
 | _ :: _,_ :: _,h=>by simp [All.length h.2]
theorem All.at {L:LN} {w:World}:∀ {ds:List D} {cs:List Value} {i:Nat} {d:D},All L w ds cs→ds[i]? =some d→∃ c,cs[i]? =some c∧d.R L w c
 | [],[],i,d,_,h=>by simp at h
 | d' :: _,c :: _,0,d,h,he=>⟨c,by simp,by simp at he;subst he;exact h.1⟩
 | _ :: _,_ :: _,i + 1,d,h,he=>by
  obtain ⟨c,h1,h2⟩:=All.at (i:=i) h.2 (by simpa using he);exact ⟨c,by simpa using h1,h2⟩
theorem All.set {L:LN} {w:World}:∀ {ds:List D} {cs:List Value} {i:Nat} {d:D} {c:Value},All L w ds cs→d.R L w c→All L w (ds.set i d) (cs.set i c)
 | [],[],i,d,c,h,_=>by simp;exact h
 | _ :: _,_ :: _,0,d,c,h,hd=>⟨hd,h.2⟩
 | _ :: _,_ :: _,i + 1,d,c,h,hd=>⟨h.1,All.set h.2 hd⟩
theorem All.drop {L:LN} {w:World}:∀ {ds:List D} {cs:List Value} (n:Nat),All L w ds cs→All L w (ds.drop n) (cs.drop n)
 | _,_,0,h=>h
 | [],[],_ + 1,_=>trivial
 | _ :: _,_ :: _,n + 1,h=>All.drop n h.2
theorem All.take {L:LN} {w:World}:∀ {ds:List D} {cs:List Value} (n:Nat),All L w ds cs→All L w (ds.take n) (cs.take n)
 | [],[],n,_=>by simp;trivial
 | _ :: _,_ :: _,0,_=>trivial
 | _ :: _,_ :: _,n + 1,h=>⟨h.1,All.take n h.2⟩
theorem All.append {L:LN} {w:World}:∀ {ds:List D} {cs:List Value} {es:List D} {fs:List Value},All L w ds cs→All L w es fs→All L w (ds ++ es) (cs ++ fs)
 | [],[],_,_,_,h=>h
 | _ :: _,_ :: _,_,_,h,k=>⟨h.1,All.append h.2 k⟩
theorem All.one {L:LN} {w:World} {d:D} {v:Value} (h:d.R L w v):All L w [d] [v]:=⟨h,trivial⟩
def Z8 (ds:List D):D:=⟨fun L w v=>∃ cs:List Value,v= .agg cs.toArray∧All L w ds cs,
 fun ⟨cs,h,k⟩ ho hS=>⟨cs,h,k.keep ho hS⟩,fun ⟨cs,h,k⟩ hS=>⟨cs,h,k.less hS⟩⟩
def ZH (ds:List D):D:=⟨fun L w v=>∃ cs:List Value,v= .tuple cs.toArray∧All L w ds cs,
 fun ⟨cs,h,k⟩ ho hS=>⟨cs,h,k.keep ho hS⟩,fun ⟨cs,h,k⟩ hS=>⟨cs,h,k.less hS⟩⟩
def slD (xs:List Value):D:=⟨fun L w v=>∃ A c,v= .slice A xs.length c∧xs.length≤c∧RV w A xs∧(0 < xs.length→∀ p,A=some p→p.block∉L),
 fun ⟨A,c,h,hc,hr,ha⟩ ho hS=>⟨A,c,h,hc,fun h0=>(hr.keep ho (fun p hp hm=>ha h0 p hp<|hS _ hm)) h0,ha⟩,
 fun ⟨A,c,h,hc,hr,ha⟩ hS=>⟨A,c,h,hc,hr,fun h0 p hp hm=>by
  obtain ⟨g',o',e,hlt,_⟩:=hr h0;rw [e] at hp;injection hp with hp;subst hp;rcases hS _ hm with h' | h'
  ·exact ha h0 _ e h'
  ·simp only at h';omega⟩⟩
def ptD (x:Value):D:=⟨fun L w v=>∃ g o,v= .pointer (some ⟨g,o,none⟩)∧g < w.heap.size∧w.cell? ⟨g,o,none⟩=some x∧g∉L,
 fun ⟨g,o,h,hl,hc,ha⟩ ho hS=>⟨g,o,h,Ju hl ho.size,(ho.cell (p:=⟨g,o,none⟩) hl (fun hm=>ha<|hS _ hm)).trans hc,ha⟩,
 fun ⟨g,o,h,hl,hc,ha⟩ hS=>⟨g,o,h,hl,hc,fun hm=>by
  rcases hS _ hm with h' | h'
  ·exact ha h'
  ·omega⟩⟩
def Le (d d':D):Prop:=∀ L w v,d.R L w v→d'.R L w v
theorem zc (d:D):Le d d:=fun _ _ _ h=>h
theorem Le.trans {a b c:D} (h:Le a b) (k:Le b c):Le a c:=fun _ _ _ x=>k _ _ _ (h _ _ _ x)
def LeAll:List D→List D→Prop
 | [],[]=>True
 | d :: ds,e :: es=>Le d e∧LeAll ds es
 | _,_=>False
theorem LeAll.all {L:LN} {w:World}:∀ {ds es:List D} {cs:List Value},LeAll ds es→All L w ds cs→All L w es cs
 | [],[],[],_,_=>trivial
 | _ :: _,_ :: _,_ :: _,h,k=>⟨h.1 _ _ _ k.1,LeAll.all h.2 k.2⟩
theorem Zk:∀ (ds:List D),LeAll ds ds
 | []=>trivial
 | d :: ds=>⟨zc d,Zk ds⟩
theorem lq {x : Option D} {d : D} (h : x = some d) : ∃ d', x = some d' ∧ Le d' d := ⟨d, h, zc _⟩
theorem Le.agg {ds es:List D} (h:LeAll ds es):Le (Z8 ds) (Z8 es):=fun _ _ _ ⟨cs,hv,k⟩=>⟨cs,hv,h.all k⟩
theorem Zf {ds es:List D} (h:LeAll ds es):Le (ZH ds) (ZH es):=fun _ _ _ ⟨cs,hv,k⟩=>⟨cs,hv,h.all k⟩
theorem KX:Le (isD<|.slice none 0 0) (slD []):=fun _ _ _ h=>⟨none,0,h,Js _,RV.nil,fun h0=>absurd h0 s9⟩
theorem zI {x y:Value} (h:x=y):Le (isD x) (isD y):=fun _ _ _ k=>k.trans h
def lk:List (Nat × D)→Nat→Option D
 | [],_=>none
 | p :: r,i=>match Nat.beq i p.1 with | true=>some p.2 | false=>lk r i
theorem lk_cons (k:Nat) (d:D) (r:List (Nat × D)) (i:Nat):lk ((k,d) :: r) i=if i=k then some d else lk r i:=by
 by_cases h:i=k
 ·subst h;rw [Jh rfl];have:Nat.beq i i=true:=Nat.beq_refl i;simp [lk,this]
 ·rw [Jb h]
  have:Nat.beq i k=false:=by
   cases hb:Nat.beq i k
   ·rfl
   ·exact absurd (Nat.eq_of_beq_eq_true hb) h
  simp [lk,this]
structure Cx where
 nt:Nat
 base:LN
 w0:World
 /-- blocks of the caller's that may be changed -/
 lent:LN:=[]
 /-- calls that are deferred -/
 df:List Deferred:=[]
structure Res where
 R:LN→LN→World→Prop
 lt:∀ {L F:LN} {w:World},R L F w→∀ g∈F,g < w.heap.size
 keep:∀ {L F S:LN} {w w':World},R L F w→Only S w w'→(∀ x∈S,x∈L)→(∀ x∈S,x∉F)→R L F w'
 less:∀ {L L' F:LN} {w:World},R L F w→(∀ x∈L',x∈L∨w.heap.size≤x)→R L' F w
inductive Box
 | c (g:Nat) (ds:List D)
 | r (F:LN) (R:Res)
def Box.fp:Box→LN
 | .c g _=>[g]
 | .r F _=>F
def Box.R (L:LN) (w:World):Box→Prop
 | .c g ds=>∃ t cs,Blk w g t cs∧All L w ds cs
 | .r F R=>R.R L F w
theorem Box.lt {L:LN} {w:World} {b:Box} (h:b.R L w):∀ g∈b.fp,g < w.heap.size:=by
 cases b with
 | c g ds=>intro x hx;obtain ⟨t,cs,hb,_⟩:=h;rw [Ja.1 hx];exact hb.lt
 | r F R=>exact R.lt h
theorem Box.keep {L S:LN} {w w':World} {b:Box} (h:b.R L w) (ho:Only S w w') (hS:∀ x∈S,x∈L) (hn:∀ x∈S,x∉b.fp):b.R L w':=by
 cases b with
 | c g ds=>
  obtain ⟨t,cs,hb,ha⟩:=h;exact ⟨t,cs,hb.keep ho (fun hm=>hn g hm<|m9 I),ha.keep ho hS⟩
 | r F R=>exact R.keep h ho hS hn
theorem Box.less {L L':LN} {w:World} {b:Box} (h:b.R L w) (hL:∀ x∈L',x∈L∨w.heap.size≤x):b.R L' w:=by
 cases b with
 | c g ds=>
  obtain ⟨t,cs,hb,ha⟩:=h;exact ⟨t,cs,hb,ha.less hL⟩
 | r F R=>exact R.less h hL
def fps (bs:List Box):LN:=bs.flatMap Box.fp
theorem ZJ (b:Box) (bs:List Box):fps (b :: bs)=b.fp ++ fps bs:=rfl
theorem qM (xs bs:List Box):fps (xs ++ bs)=fps xs ++ fps bs:=by simp [fps]
theorem yz {g:Nat} {bs:List Box}:g∈fps bs↔∃ b∈bs,g∈b.fp:=by simp [fps]
structure St where
 tm:Nat→Option D
 bx:List Box
def St.L (Γ:Cx) (σ:St):LN:=fps σ.bx ++ Γ.base
structure Holds (Γ:Cx) (σ:St) (a:Act) (w:World):Prop where
 df:a.defers=Γ.df
 sz:a.tmps.size=Γ.nt
 tm:∀ i d,σ.tm i=some d→d.R (σ.L Γ) w (a.tmps.getD i undef)
 bx:∀ b∈σ.bx,b.R (σ.L Γ) w
 nd:(fps σ.bx).Nodup
 nw:∀ g∈fps σ.bx,Γ.w0.heap.size≤g∨g∈Γ.lent
 on:Only Γ.lent Γ.w0 w
 bs:∀ g∈Γ.base,g < Γ.w0.heap.size
 dj:(∀ g∈Γ.lent,g∉Γ.base)∧glob.R Γ.w0∧∀ g∈Γ.lent,g∉glob.F
section
variable {Γ:Cx}{σ σ':St}{a:Act}{w w':World}
theorem Holds.lt (h:Holds Γ σ a w):∀ g∈σ.L Γ,g < w.heap.size:=by
 intro g hg;rcases Jf.1 hg with hg | hg
 ·obtain ⟨b,hb,hgb⟩:=yz.1 hg;exact Box.lt (h.bx b hb) g hgb
 ·exact Ju (h.bs g hg) h.on.size
theorem Holds.gl (h:Holds Γ σ a w):glob.R w:=glob.keep h.dj.2.1 h.on (fun g hg hm=>h.dj.2.2 g hm hg)
theorem Holds.off (h:Holds Γ σ a w):∀ g∈fps σ.bx,g∉glob.F:=fun g hg hm=>by
 rcases h.nw g hg with h' | h'
 ·have:=glob.lt h.dj.2.1 g hm;omega
 ·exact h.dj.2.2 g h' hm
theorem Holds.swap (h:Holds Γ σ a w) {bx':List Box} {S:LN} (ho:Only S w w') (hS:∀ x∈S,x∈fps σ.bx)
  (hbx:∀ b∈bx',(b∈σ.bx∧∀ x∈S,x∉b.fp)∨b.R (fps bx' ++ Γ.base) w') (hids:∀ g∈fps bx',g∈fps σ.bx∨w.heap.size≤g) (hnd:(fps bx').Nodup):Holds Γ ⟨σ.tm,bx'⟩ a w':=by
 have hL1:∀ x∈σ.L Γ ++ (fps bx' ++ Γ.base),x∈σ.L Γ∨w.heap.size≤x:=by
  intro x hx;rcases Jf.1 hx with hx | hx
  ·exact .inl hx
  ·rcases Jf.1 hx with hx | hx
   ·rcases hids x hx with h' | h'
    ·exact .inl (mL _ h')
    ·exact .inr h'
   ·exact .inl (mR _ hx)
 have hS1:∀ x∈S,x∈σ.L Γ ++ (fps bx' ++ Γ.base):=fun x hx=>mL _ (mL _<|hS x hx);have hL2:∀ x∈fps bx' ++ Γ.base,x∈σ.L Γ ++ (fps bx' ++ Γ.base)∨w'.heap.size≤x:=fun x hx=> .inl (mR _ hx);refine ⟨h.df,h.sz,fun i d hi=>d.less (d.keep (d.less (h.tm i d hi) hL1) ho hS1) hL2,fun b hb=> ?_,hnd,fun g hg=> ?_,h.on.trans ho (fun x hx hlt=> ?_),h.bs,h.dj⟩
 ·rcases hbx b hb with ⟨h1,h2⟩ | h1
  ·exact Box.less (Box.keep (Box.less (h.bx b h1) hL1) ho hS1 h2) hL2
  ·exact h1
 ·rcases hids g hg with h' | h'
  ·exact h.nw g h'
  ·exact .inl (JG h.on.size h')
 ·rcases h.nw x (hS x hx) with h' | h'
  ·omega
  ·exact h'
theorem Holds.keep (h:Holds Γ σ a w) (ho:Only [] w w'):Holds Γ σ a w':=
 h.swap ho s9 (fun b hb=> .inl ⟨hb,by simp⟩) (fun g hg=> .inl hg) h.nd
theorem Holds.drew (h:Holds Γ σ a w):Holds Γ σ a w.drew:=h.keep (Only.refl [] w).drew
def toBox (p:Nat × List D):Box:= .c p.1 p.2
def St.of (l:List (Nat × D)) (bx:List (Nat × List D)):St:=⟨lk l,bx.map toBox⟩
def yb (l:List (Nat × D)) (bx:List Box):St:=⟨lk l,bx⟩
def St.put (σ:St) (i:Nat) (d:D):St:=⟨fun j=>cond (Nat.beq j i) (some d)<|σ.tm j,σ.bx⟩
theorem zas (σ:St) (i:Nat) (d:D) (j:Nat):(σ.put i d).tm j=if j=i then some d else σ.tm j:=by
 by_cases h:j=i
 ·subst h;have:Nat.beq j j=true:=Nat.beq_refl j;simp [St.put,this]
 ·rw [Jb h]
  have:Nat.beq j i=false:=by
   cases hb:Nat.beq j i
   ·rfl
   ·exact absurd (Nat.eq_of_beq_eq_true hb) h
  simp [St.put,this]
@[simp] theorem L_put (Γ:Cx) (σ:St) (i:Nat) (d:D):(σ.put i d).L Γ=σ.L Γ:=rfl
theorem put_get {a:Act} {i j:Nat} {v:Value} (hi:i < a.tmps.size):(a.put (some i) v).tmps.getD j undef=if j=i then v else a.tmps.getD j undef:=by
 simp only [Act.put,Xv,Xt]
 by_cases h:i=j
 ·subst h;simp [hi]
 ·have:¬j=i:=fun e=>h e.symm;simp [h,this]
theorem Holds.put (h:Holds Γ σ a w) {i:Nat} (hi:i < Γ.nt) {d:D} {v:Value} (hd:d.R (σ.L Γ) w v):Holds Γ (σ.put i d) (a.put (some i) v) w:=by
 have hs:i < a.tmps.size:=by rw [h.sz];exact hi
 refine ⟨by simpa [Act.put] using h.df,by simpa [Act.put] using h.sz,fun j e hj=> ?_,h.bx,h.nd,h.nw,h.on,h.bs,h.dj⟩;rw [put_get hs];rw [zas] at hj
 by_cases hji:j=i
 ·subst hji;simp at hj;subst hj;simpa using hd
 ·rw [Jb hji] at hj;rw [Jb hji];exact h.tm j e hj
theorem Holds.more (h:Holds Γ σ a w) (ho:Only [] w w') {b:Box} (hb:b.R (b.fp ++ σ.L Γ) w') (hnew:∀ g∈b.fp,w.heap.size≤g) (hnd:b.fp.Nodup):Holds Γ ⟨σ.tm,σ.bx ++ [b]⟩ a w':=by
 have hfp:fps (σ.bx ++ [b])=fps σ.bx ++ b.fp:=by rw [qM];simp [fps]
 refine h.swap ho s9 (fun c hc=> ?_) (fun g hg=> ?_) ?_
 ·rcases Jf.1 hc with hc | hc
  ·exact .inl ⟨hc,by simp⟩
  ·rw [Ja.1 hc];refine .inr (Box.less hb (fun x hx=> .inl ?_));rw [hfp] at hx;simp only [Jf,St.L] at hx ⊢;rcases hx with (hx | hx) | hx
   ·exact .inr (.inl hx)
   ·exact .inl hx
   ·exact .inr (.inr hx)
 ·rw [hfp] at hg;rcases Jf.1 hg with hg | hg
  ·exact .inl hg
  ·exact .inr (hnew g hg)
 ·rw [hfp];refine JH.2 ⟨h.nd,hnd,fun x hx y hy e=> ?_⟩;have h1:=h.lt x (mL _ hx);have h2:=hnew y hy;omega
def St.mk' (σ:St) (g:Nat) (ds:List D):St:=⟨σ.tm,σ.bx ++ [.c g ds]⟩
theorem Holds.box (h:Holds Γ σ a w) {t:TypeId} {ds:List D} {cs:List Value} (hd:All (σ.L Γ) w ds cs):Holds Γ (σ.mk' w.heap.size ds) a (w.alloc<|.cells cs.toArray t):=by
 have ho:Only [] w (w.alloc<|.cells cs.toArray t):=(Only.refl [] w).alloc _;refine h.more ho (b:= .c w.heap.size ds) ⟨t,cs,Blk.new w t cs,(hd.less (fun x hx=> ?_)).keep ho s9⟩ (fun g hg=>by rw [Ja.1 hg];exact Js _) (by simp [Box.fp]);rcases Jf.1 hx with hx | hx
 ·exact .inr (by rw [Ja.1 hx];exact Js _)
 ·exact .inl hx
def newC (b:Box) (es:List D):Box:=match b with | .c g _=> .c g es | .r F R=> .r F R
def j8:List Box→Nat→List D→List Box
 | [],_,_=>[]
 | b :: bs,0,es=>newC b es :: bs
 | b :: bs,j + 1,es=>b :: j8 bs j es
theorem newC_fp (b:Box) (es:List D):(newC b es).fp=b.fp:=by cases b <;> rfl
theorem qJ:∀ (bs:List Box) (j:Nat) (es:List D),fps (j8 bs j es)=fps bs
 | [],_,_=>rfl
 | b :: bs,0,es=>by simp only [j8,ZJ,newC_fp]
 | b :: bs,j + 1,es=>by simp only [j8,ZJ,qJ bs j es]
theorem Wg:∀ (bs:List Box) (j:Nat) (es:List D) (g:Nat) (ds:List D) (_:bs[j]? =some (.c g ds)) (_:(fps bs).Nodup) (x:Box),x∈j8 bs j es→x= .c g es∨(g∉x.fp∧x∈bs)
 | [],_,_,_,_,h,_,_,_=>by simp at h
 | b :: bs,0,es,g,ds,h,hn,x,hm=>by
  simp only [List.getElem?_cons_zero,Xy] at h;subst h;rw [ZJ] at hn;rcases Jt.1 hm with hm | hm
  ·exact .inl hm
  ·refine .inr ⟨fun e=> ?_,Jl _ hm⟩;exact (JH.1 hn).2.2 g (by simp [Box.fp]) g (yz.2 ⟨x,hm,e⟩) I
 | b :: bs,j + 1,es,g,ds,h,hn,x,hm=>by
  simp only [J1] at h;rw [ZJ] at hn;rcases Jt.1 hm with hm | hm
  ·subst hm;refine .inr ⟨fun e=> ?_,mC⟩;exact (JH.1 hn).2.2 g e g (yz.2 ⟨_,Jc h,by simp [Box.fp]⟩) I
  ·rcases Wg bs j es g ds h (JH.1 hn).2.1 x hm with h' | ⟨h1,h2⟩
   ·exact .inl h'
   ·exact .inr ⟨h1,Jl _ h2⟩
def St.set (σ:St) (j:Nat) (es:List D):St:=⟨σ.tm,j8 σ.bx j es⟩
@[simp] theorem L_set (Γ:Cx) (σ:St) (j:Nat) (es:List D):(σ.set j es).L Γ=σ.L Γ:=by simp [St.L,St.set,qJ]
theorem Holds.set' (h:Holds Γ σ a w) {j g:Nat} {ds es:List D} (hj:σ.bx[j]? =some (.c g ds)) {t:TypeId} {cs:List Value} (hb:Blk w' g t cs) (ho:Only [g] w w') (hd:All (σ.L Γ) w' es cs):Holds Γ (σ.set j es) a w':=by
 have hmem:=Jc hj;have hg:g∈fps σ.bx:=yz.2 ⟨_,hmem,by simp [Box.fp]⟩;refine h.swap ho (fun x hx=>by rw [Ja.1 hx];exact hg) (fun b hb'=> ?_) (fun x hx=> .inl (by rw [qJ] at hx;exact hx)) (by rw [qJ];exact h.nd);rcases Wg σ.bx j es g ds hj h.nd b hb' with rfl | ⟨h1,h2⟩
 ·refine .inr ⟨t,cs,hb,?_⟩;rw [qJ];exact hd
 ·exact .inl ⟨h2,fun x hx=>by rw [Ja.1 hx];exact h1⟩
theorem Holds.set (h:Holds Γ σ a w) {j g:Nat} {ds es:List D} (hj:σ.bx[j]? =some (.c g ds)) {t:TypeId} {cs:List Value} (hb:Blk w' g t cs) (ho:Only [g] w w') (hd:All (σ.L Γ) w es cs):Holds Γ (σ.set j es) a w':=
 h.set' hj hb ho (hd.keep ho (fun x hx=>by rw [Ja.1 hx];exact mL _<|yz.2 ⟨_,Jc hj,by simp [Box.fp]⟩))
def LeR (r r':Res):Prop:=∀ L F w,r.R L F w→r'.R L F w
theorem zM (r:Res):LeR r r:=fun _ _ _ h=>h
def SubBx (bs:List Box):LN→List Box→Prop
 | [],[]=>True
 | j :: js,.c g' ds' :: bs'=>(∃ ds,bs[j]? =some (.c g' ds)∧LeAll ds ds')∧SubBx bs js bs'
 | j :: js,.r F R :: bs'=>(∃ R',bs[j]? =some (.r F R')∧LeR R' R)∧SubBx bs js bs'
 | _,_=>False
def SubTm (σ:St):List (Nat × D)→Prop
 | []=>True
 | (i,d') :: r=>(∃ d,σ.tm i=some d∧Le d d')∧SubTm σ r
structure Sub (σ σ':St):Prop where
 tm:∃ l,σ'.tm=lk l∧SubTm σ l
 bx:∃ js:List Nat,js.Nodup∧SubBx σ.bx js σ'.bx
theorem la {x : Option Box} {g : Nat} {d : List D} (h : x = some (.c g d)) : ∃ ds, x = some (.c g ds) ∧ LeAll ds d := ⟨d, h, Zk _⟩
theorem lR {x : Option Box} {F : List Nat} {R : Res} (h : x = some (.r F R)) : ∃ R', x = some (.r F R') ∧ LeR R' R := ⟨R, h, zM _⟩
theorem sT {σ : St} : ∀ {l : List (Nat × D)}, l.map (fun p => σ.tm p.1) = l.map (fun p => some p.2) → SubTm σ l
  | [], _ => trivial
  | (i, d) :: r, h => ⟨⟨d, (List.cons.inj h).1, zc _⟩, sT (List.cons.inj h).2⟩
theorem sX {bs : List Box} : ∀ {js : List Nat} {bs' : List Box}, js.map (fun j => bs[j]?) = bs'.map some → SubBx bs js bs'
  | [], [], _ => trivial
  | [], _ :: _, h => by cases h
  | _ :: _, [], h => by cases h
  | j :: js, .c g ds :: bs', h => ⟨⟨ds, (List.cons.inj h).1, Zk _⟩, sX (List.cons.inj h).2⟩
  | j :: js, .r F R :: bs', h => ⟨⟨R, (List.cons.inj h).1, zM _⟩, sX (List.cons.inj h).2⟩
theorem sB {σ : St} {l : List (Nat × D)} {bs' : List Box} (js : List Nat) (h1 : l.map (fun p => σ.tm p.1) = l.map (fun p => some p.2)) (h2 : js.map (fun j => σ.bx[j]?) = bs'.map some) (hn : js.Nodup := by decide) : Sub σ (yb l bs') := ⟨⟨l, rfl, sT h1⟩, js, hn, sX h2⟩
theorem SubTm.spec {σ:St}:∀ {l:List (Nat × D)},SubTm σ l→∀ i d',lk l i=some d'→∃ d,σ.tm i=some d∧Le d d'
 | [],_,i,d',h=>by simp [lk] at h
 | (k,e) :: r,h,i,d',hi=>by
  simp only [lk_cons] at hi
  by_cases hik:i=k
  ·subst hik;simp at hi;subst hi;exact h.1
  ·rw [Jb hik] at hi;exact SubTm.spec h.2 i d' hi
def LeB (b b':Box):Prop:=b.fp=b'.fp∧∀ L w,b.R L w→b'.R L w
theorem SubBx.mem {bs:List Box}:∀ {js:LN} {bs':List Box},SubBx bs js bs'→∀ b'∈bs',∃ j b,j∈js∧bs[j]? =some b∧LeB b b'
 | [],[],_,_,h=>by simp at h
 | j :: js,.c g ds' :: bs',h,b',hm=>by
  rcases Jt.1 hm with hm | hm
  ·subst hm;obtain ⟨ds,h1,h2⟩:=h.1;exact ⟨j,_,by simp,h1,rfl,fun L w ⟨t,cs,hb,ha⟩=>⟨t,cs,hb,h2.all ha⟩⟩
  ·obtain ⟨i,b,h1,h2,h3⟩:=SubBx.mem h.2 b' hm;exact ⟨i,b,Jl _ h1,h2,h3⟩
 | j :: js,.r F R :: bs',h,b',hm=>by
  rcases Jt.1 hm with hm | hm
  ·subst hm;obtain ⟨R',h1,h2⟩:=h.1;exact ⟨j,_,by simp,h1,rfl,fun L w hR=>h2 _ _ _ hR⟩
  ·obtain ⟨i,b,h1,h2,h3⟩:=SubBx.mem h.2 b' hm;exact ⟨i,b,Jl _ h1,h2,h3⟩
theorem Wx:∀ {bs:List Box} {i j:Nat} {b c:Box} {g:Nat},(fps bs).Nodup→bs[i]? =some b→bs[j]? =some c→g∈b.fp→g∈c.fp→i=j
 | [],i,_,_,_,_,_,h,_,_,_=>by simp at h
 | x :: bs,0,0,_,_,_,_,_,_,_,_=>rfl
 | x :: bs,0,j + 1,b,c,g,hn,hi,hj,h1,h2=>by
  simp at hi hj;subst hi;rw [ZJ] at hn;exact absurd I ((JH.1 hn).2.2 g h1 g<|yz.2 ⟨c,Jc hj,h2⟩)
 | x :: bs,i + 1,0,b,c,g,hn,hi,hj,h1,h2=>by
  simp at hi hj;subst hj;rw [ZJ] at hn;exact absurd I ((JH.1 hn).2.2 g h2 g<|yz.2 ⟨b,Jc hi,h1⟩)
 | x :: bs,i + 1,j + 1,b,c,g,hn,hi,hj,h1,h2=>by
  simp at hi hj;rw [ZJ] at hn;rw [Wx (JH.1 hn).2.1 hi hj h1 h2]
theorem jU:∀ {bs:List Box} {b:Box},(fps bs).Nodup→b∈bs→b.fp.Nodup
 | x :: bs,b,hn,hm=>by
  rw [ZJ] at hn;rcases Jt.1 hm with rfl | hm
  ·exact (JH.1 hn).1
  ·exact jU (JH.1 hn).2.1 hm
theorem SubBx.tail {bs:List Box} {j:Nat} {js:LN} {b:Box} {bs':List Box} (h:SubBx bs (j :: js) (b :: bs')):SubBx bs js bs':=by cases b <;> exact h.2
theorem SubBx.head {bs:List Box} {j:Nat} {js:LN} {b:Box} {bs':List Box} (h:SubBx bs (j :: js) (b :: bs')):∃ c,bs[j]? =some c∧c.fp=b.fp:=by
 cases b with
 | c g ds=>obtain ⟨ds,h1,_⟩:=h.1;exact ⟨_,h1,rfl⟩
 | r F R=>obtain ⟨R',h1,_⟩:=h.1;exact ⟨_,h1,rfl⟩
theorem YV {bs:List Box} (hn:(fps bs).Nodup):∀ {js:LN} {bs':List Box},js.Nodup→SubBx bs js bs'→(fps bs').Nodup
 | [],[],_,_=>by simp [fps]
 | [],.c _ _ :: _,_,h=>h.elim
 | [],.r _ _ :: _,_,h=>h.elim
 | _ :: _,[],_,h=>h.elim
 | j :: js,b :: bs',hj,h=>by
  simp only [Xd] at hj;rw [ZJ];obtain ⟨c,h1,h2⟩:=h.head;refine JH.2 ⟨by rw [← h2];exact jU hn<|Jc h1,YV hn hj.2 h.tail,fun x hx y hy e=> ?_⟩;subst e;obtain ⟨b',hb',hxb⟩:=yz.1 hy;obtain ⟨i,b2,h3,h4,h5⟩:=SubBx.mem h.tail b' hb';have:=Wx hn h1 h4 (by rw [h2];exact hx) (by rw [h5.1];exact hxb);subst this;exact hj.1 h3
theorem Holds.sub (h:Holds Γ σ a w) (hs:Sub σ σ'):Holds Γ σ' a w:=by
 obtain ⟨js,hj,hb⟩:=hs.bx;have hmem:=fun b' hm=>SubBx.mem hb b' hm
 have hid:∀ g∈fps σ'.bx,g∈fps σ.bx:=by
  intro g hg;obtain ⟨b',h1,h2⟩:=yz.1 hg;obtain ⟨j,b,_,h3,h4⟩:=hmem b' h1;exact yz.2 ⟨b,Jc h3,by rw [h4.1];exact h2⟩
 have hL:∀ x∈σ'.L Γ,x∈σ.L Γ∨w.heap.size≤x:=by
  intro x hx;rcases Jf.1 hx with hx | hx
  ·exact .inl (mL _<|hid x hx)
  ·exact .inl (mR _ hx)
 refine ⟨h.df,h.sz,fun i d' hi=> ?_,fun b' hb'=> ?_,YV h.nd hj hb,fun g hg=>h.nw g<|hid g hg,h.on,h.bs,h.dj⟩
 ·obtain ⟨l,hl,hs'⟩:=hs.tm;rw [hl] at hi;obtain ⟨d,h1,h2⟩:=hs'.spec i d' hi;exact h2 _ _ _ (d.less (h.tm i d h1) hL)
 ·obtain ⟨j,b,_,h1,h2⟩:=hmem b' hb';exact h2.2 _ _ (Box.less (h.bx b<|Jc h1) hL)
end
end
end Sx
namespace Reg
variable {P:Program}{ops:Array Oper}{Q:Exit→Act→World→Prop}{E:Nat→Nat}{S:List Nat}
inductive Tz where
 | fin
 | r (i:Nat) (t:Tz)
 | q (i:Nat) (t:Tz)
 | no
 | n (i:Nat) (t:Tz) (u:Tz)
 | e (i:Nat) (t:Tz) (u:Tz)
def Tz.len:Tz→Nat
 | .fin=>0
 | .no=>0
 | .r _ t=>t.len + 1
 | .q _ t=>t.len + 1
 | .n _ t _=>t.len + 1
 | .e _ t _=>t.len + 1
def Tz.eff:Tz→Nat→Nat
 | .fin,_=>0
 | .no,_=>0
 | .r _ t,k=>t.eff k
 | .q _ t,k=>t.eff k
 | .n i t u,k=>if i == k then 1 else Nat.max (t.eff k) (u.eff k)
 | .e i t u,k=>if i == k then 2 else Nat.max (t.eff k) (u.eff k)
def Tz.heads:Tz→LN
 | .n i _ u=>i :: u.heads
 | .e i _ u=>i :: u.heads
 | _=>[]
def okZ (ops:Array Oper) (E:Nat→Nat):Bool→Tz→Array Bool→Bool
 | true,.fin,listed=>Region.ready .any ops listed == []
 | true,.r i t,listed=>decide (i < ops.size) && (E i == 0) && (Region.ready .any ops listed).contains i && Region.free .any ops listed i && okZ ops E true t (listed.setIfInBounds i true)
 | true,.q i t,listed=>decide (i < ops.size) && (E i == 0) && (Region.ready .any ops listed).contains i && Region.free .any ops listed i && waitsY ops E listed i && okZ ops E true t (listed.setIfInBounds i true)
 | top,.n i t u,listed=>decide (i < ops.size) && (E i == 1) && (!top || (Region.ready .any ops listed == i :: u.heads)) && okZ ops E true t (listed.setIfInBounds i true) && (u.heads == [] || u.len == t.len + 1) && okZ ops E false u listed
 | top,.e i t u,listed=>decide (i < ops.size) && (E i == 2) && (!top || (Region.ready .any ops listed == i :: u.heads)) && okZ ops E true t (listed.setIfInBounds i true) && (u.heads == [] || u.len == t.len + 1) && okZ ops E false u listed
 | false,.no,_=>true
 | _,_,_=>false
def okZL (l:List Oper) (t:Tz):Bool:=Region.noSelect l.toArray && decide (t.len=l.length) && okZ l.toArray t.eff true t (Array.replicate l.length false)
end Reg
namespace Reg
variable {P:Program}{ops:Array Oper}{Q:Exit→Act→World→Prop}{E:Nat→Nat}
def Gr (S S':LN) (w:World):Prop:=∀ x∈S',x∈S∨w.heap.size≤x
theorem Gr.refl (S:LN) (w:World):Gr S S w:=fun _ h=> .inl h
def Nz (S T:LN) (w:World) (K:LN→Act→World→Prop) (a':Act) (w':World):Prop:=∃ S',Gr S S' w∧Only T w w'∧K S' a' w'
def Ku (P:Program) (ops:Array Oper) (Q:Exit→Act→World→Prop) (E:Nat→Nat):Nat→Array Bool→LN→Act→World→Prop
 | 0,listed,_,a,w=>Region.ready .any ops listed=[]∧Q .normal a w
 | fuel + 1,listed,S,a,w=>
  (Region.ready .any ops listed=[]→Q .normal a w)∧
  ∀ i∈Region.ready .any ops listed,(E i≠0→wpOp P ops Q i (Nz S (Sl S<|E i) w<|Ku P ops Q E fuel<|listed.setIfInBounds i true) a w)∧
   (E i=0→stOp P ops w i (fun a'=>Ku P ops Q E fuel (listed.setIfInBounds i true) S a' w) a)
theorem jO:∀ (fuel:Nat) (listed:Array Bool) (S:LN) (a:Act) (w:World),Ku P ops Q E fuel listed S a w→wpAny P .any ops Q fuel listed a w
 | 0,_,_,_,_,h=>h
 | fuel + 1,_,_,_,_,h=>⟨h.1,fun i hi=>by
   by_cases hE:E i=0
   ·exact wpOp_of_stOp (fun a' h'=>jO fuel _ _ a' _ h') ((h.2 i hi).2 hE)
   ·exact wpOp_mono (fun a' w' ⟨S',_,_,h'⟩=>jO fuel _ S' a' w' h')<|(h.2 i hi).1 hE⟩
def Tb (b:Bool) (S:LN):LN:=if b then S else []
theorem Tb_grow {b:Bool} {S S':LN} {w:World} (h:Gr S S' w):∀ x∈Tb b S',x < w.heap.size→x∈Tb b S:=by
 intro x hx hlt
 cases b
 ·simp [Tb] at hx
 ·simp only [Tb,if_true] at hx ⊢;rcases h x hx with h | h
  ·exact h
  ·omega
theorem takeZ {b:Bool} {i:Nat} {oi:Oper} {v:Value} (hi:ops[i]? =some oi) (hEi:E i=0) (hsel:∀ (j:Nat) (o:Oper) cs b,ops[j]? =some o→o.op≠ .select cs b)
  (hQ:∀ c a w,Q (.panic c) (a.put oi.dst v) w→Q (.panic c) a w):
  ∀ (fuel:Nat) (listed:Array Bool) (S:LN) (a:Act) (w:World),
   (∀ j oj,ops[j]? =some oj→j≠i→listed.getD j true=false→(∀ e∈oj.after,Region.binds .any e=true→e.on≠i)→oi.apart ops oj=true)→
   (∀ j oj,ops[j]? =some oj→E j≠0→listed.getD j true=false→(∃ e∈oj.after,Region.binds .any e=true∧e.on=i)∨(∀ S w w',Only (Sl S<|E j) w w'→Only (Tb b S) w w'))→
   i∈Region.ready .any ops listed→YieldsX P ops (Tb b S) w oi v a→
   Ku P ops Q E fuel (listed.setIfInBounds i true) S (a.put oi.dst v) w→Ku P ops Q E (fuel + 1) listed S a w:=by
 intro fuel
 induction fuel with
 | zero=>
  intro listed S a w _ _ hr hy H;refine ⟨fun h=>(by rw [h] at hr;cases hr),fun j hj=> ?_⟩
  by_cases hji:j=i
  ·subst hji;exact ⟨fun h=>absurd hEi h,fun _=>(hy w<|Only.refl _ _).stOp hi H⟩
  ·have:=XB hj hji;rw [H.1] at this
   cases this
 | succ fuel ih=>
  intro listed S a w hfree hblk hr hy H;refine ⟨fun h=>(by rw [h] at hr;cases hr),fun j hj=> ?_⟩
  by_cases hji:j=i
  ·subst hji;exact ⟨fun h=>absurd hEi h,fun _=>(hy w<|Only.refl _ _).stOp hi H⟩
  ·obtain ⟨hjun,oj,hoj,hall⟩:=mem_ready.1 hj;have hun:=(mem_ready.1 hr).1;have hnot:=Ord.hnot_of hun hall hoj;have h1:=H.2 j (XB hj hji);have hap:=hfree j oj hoj hji hjun hnot
   have hblk':∀ k ok,ops[k]? =some ok→E k≠0→(listed.setIfInBounds j true).getD k true=false→(∃ e∈ok.after,Region.binds .any e=true∧e.on=i)∨(∀ S w w',Only (Sl S<|E k) w w'→Only (Tb b S) w w'):=fun k ok hk hEk hlk=>hblk k ok hk hEk (by
    by_cases hjk:j=k
    ·subst hjk;exact hjun
    ·rw [getD_set_ne true hjk] at hlk;exact hlk)
   refine ⟨fun hEj=> ?_,fun hEj=> ?_⟩
   ·rcases hblk j oj hoj hEj hjun with ⟨e,he,hb,ho⟩ | hT
    ·exact absurd ho (hnot e he hb)
    ·have h2:=zbO (Y:=fun a=>YieldsX P ops (Tb b S) w oi v a) hoj hap (fun cs b=>hsel j oj cs b hoj) hQ (fun a u h=>h.keep hap (fun cs b=>hsel i oi cs b hi) a u) (fun a d h w' hw=>(h w' hw).of_same rfl rfl) hy (h1.1 hEj);refine wpOp_mono (fun a' w' h3=> ?_) h2;obtain ⟨h4,S',h5,h6,h7⟩:=h3;refine ⟨S',h5,h6,ih (listed.setIfInBounds j true) S' a' w' (Ord.free_next hfree hjun) hblk' (XB hr<|Ne.symm hji) (fun w'' hw=>h4 w''<|(hT _ _ _ h6).trans hw<|Tb_grow h5) ?_⟩;rw [Xr _ _ hji];exact h7
   ·have h2:=zbS (Y:=fun a=>YieldsX P ops (Tb b S) w oi v a) hoj hap (fun cs b=>hsel j oj cs b hoj) (fun a u h=>h.keep hap (fun cs b=>hsel i oi cs b hi) a u) hy (h1.2 hEj);refine stOp_mono (fun a' h3=>ih (listed.setIfInBounds j true) S a' w (Ord.free_next hfree hjun) hblk' (XB hr<|Ne.symm hji) h3.1 ?_) h2;rw [Xr _ _ hji];exact h3.2
def wpG (P:Program) (l:List Oper) (Q:Exit→Act→World→Prop):Tz→LN→Act→World→Prop
 | .fin,_,a,w=>wpList P l.toArray Q [] a w
 | .no,_,_,_=>True
 | .r i t,S,a,w=>∃ v,YieldsX P l.toArray S w (l.getD i default) v a∧wpG P l Q t S (a.put (l.getD i default).dst v) w
 | .q i t,S,a,w=>∃ v,YieldsX P l.toArray [] w (l.getD i default) v a∧wpG P l Q t S (a.put (l.getD i default).dst v) w
 | .n i t u,S,a,w=>wpList P l.toArray (Exit.then (Nz S [] w<|wpG P l Q t) Q) [l.getD i default] a w∧wpG P l Q u S a w
 | .e i t u,S,a,w=>wpList P l.toArray (Exit.then (Nz S S w<|wpG P l Q t) Q) [l.getD i default] a w∧wpG P l Q u S a w
theorem zd9 {l:List Oper} {S T:LN} (hl:ops=l.toArray) {i:Nat} (hi:i < ops.size) {K K':LN→Act→World→Prop} {a:Act} {w:World} (hK:∀ S' a' w',K S' a' w'→K' S' a' w')
  (h':wpList P ops (Exit.then (Nz S T w K) Q) [l.getD i default] a w):wpOp P ops Q i (Nz S T w K') a w:=by
 have hgi:ops[i]? =some (l.getD i default):=by
  subst hl
  have:i < l.length:=by simpa using hi
  simp [List.getD,this]
 have ih:∀ a' w',Nz S T w K a' w'→Nz S T w K' a' w':=fun a' w' ⟨S',h1,h2,h3⟩=>⟨S',h1,h2,hK S' a' w' h3⟩;unfold wpOp;simp only [hgi];unfold wpList at h'
 split
 ·rename_i hw;rw [Jh hw] at h';rcases h' with h' | ⟨h1,a0,w0,h3⟩
  ·refine .inl ?_;have h3:=Oper.wp_mono (P:=P) (K':=Nz S T w K') (fun a' w' h4=>ih a' w' h4) h';unfold Oper.wp at h3 ⊢
   generalize (execOp a.eval<|l.getD i default).run P w=r at *
   cases r with
   | ok n w'=>
    cases n <;> simp only [Oper.upon] at h3 ⊢ <;> first | exact h3 | exact Calls.mono h3 (fun e w'' he=>by cases e <;> exact he)
   | halt x w'=>cases x <;> simp only [Oper.upon] at h3 ⊢ <;> exact h3
  ·exact .inr ⟨h1,a0,w0,h3⟩
 ·rename_i hw;rw [Jb hw] at h';exact ih _ _ h'
theorem zbP {listed:Array Bool} {i:Nat} (h:waitsY ops E listed i=true) (j:Nat) (oj:Oper) (hj:ops[j]? =some oj) (hE:E j≠0) (hl:listed.getD j true=false):(∃ e∈oj.after,Region.binds .any e=true∧e.on=i)∨(∀ S w w',Only (Sl S<|E j) w w'→Only (Tb false S) w w'):=by
 by_cases hE2:E j=2
 ·left
  have hlt:j < ops.size:=by
   rcases Nat.lt_or_ge j ops.size with h' | h'
   ·exact h'
   ·rw [Array.getElem?_eq_none h'] at hj;cases hj
  have h1:=List.all_eq_true.1 h j (List.mem_range.2 hlt)
  have hd:ops.getD j default=oj:=by simp [Array.getD,hlt] at hj ⊢;exact hj
  rw [hE2,hl,hd] at h1;simp only [beq_self_eq_true,Bool.not_true,Bool.false_or,Array.any_eq_true] at h1;obtain ⟨k,hk,h2⟩:=h1;simp only [JL,JT] at h2;exact ⟨oj.after[k],Array.getElem_mem hk,h2.1,h2.2⟩
 ·right
  intro S w w' h';unfold Sl at h'
  split at h'
  ·rename_i h2;exact absurd h2 hE2
  ·exact h'
theorem qv {l:List Oper} (hl:ops=l.toArray) (hsel:Region.noSelect ops=true) (hQ:∀ (d:Option Tmp) (v:Value) (c:List PanicEntry) (a:Act) (w:World),Q (.panic c) (a.put d v) w→Q (.panic c) a w):
  ∀ (t:Tz),(∀ (listed:Array Bool) (S:LN) (a:Act) (w:World),okZ ops E true t listed=true→wpG P l Q t S a w→Ku P ops Q E t.len listed S a w)∧
   (∀ (listed:Array Bool) (S:LN) (a:Act) (w:World) (n:Nat),okZ ops E false t listed=true→(t.heads=[]∨t.len=n + 1)→wpG P l Q t S a w→∀ k∈t.heads,E k≠0∧wpOp P ops Q k (Nz S (Sl S<|E k) w<|Ku P ops Q E n<|listed.setIfInBounds k true) a w)
 | .fin=>⟨fun listed S a w hok h=>⟨by simpa [okZ] using hok,by subst hl;exact h⟩,fun _ _ _ _ _ hok _ _=>by simp [okZ] at hok⟩
 | .no=>⟨fun _ _ _ _ hok _=>by simp [okZ] at hok,fun _ _ _ _ _ _ _ _ k hk=>by simp [Tz.heads] at hk⟩
 | .r i t=>⟨fun listed S a w hok h=>by
   simp only [okZ,JL,JT,Jz] at hok;obtain ⟨⟨⟨⟨hi,hE⟩,hr⟩,hf⟩,h2⟩:=hok;obtain ⟨v,hy,hn⟩:=h
   have hgi:ops[i]? =some (l.getD i default):=by
    subst hl
    have:i < l.length:=by simpa using hi
    simp [List.getD,this]
   rw [← hl] at hy
   exact takeZ (b:=true) hgi hE (Region.noSelect_spec hsel) (fun c a w=>hQ _ v c a w) t.len listed S a w (Region.free_spec hgi hf) (fun _ _ _ _ _=> .inr fun S _ _ h=>Sl_le S _ h) (by simpa using hr) hy<|(qv hl hsel hQ t).1 _ S _ w h2 hn,
  fun _ _ _ _ _ hok _ _=>by simp [okZ] at hok⟩
 | .q i t=>⟨fun listed S a w hok h=>by
   simp only [okZ,JL,JT,Jz] at hok;obtain ⟨⟨⟨⟨⟨hi,hE⟩,hr⟩,hf⟩,hw⟩,h2⟩:=hok;obtain ⟨v,hy,hn⟩:=h
   have hgi:ops[i]? =some (l.getD i default):=by
    subst hl
    have:i < l.length:=by simpa using hi
    simp [List.getD,this]
   rw [← hl] at hy
   exact takeZ (b:=false) hgi hE (Region.noSelect_spec hsel) (fun c a w=>hQ _ v c a w) t.len listed S a w (Region.free_spec hgi hf) (fun j oj hj hE' hlj=>(zbP hw j oj hj hE' hlj)) (by simpa using hr) hy<|(qv hl hsel hQ t).1 _ S _ w h2 hn,
  fun _ _ _ _ _ hok _ _=>by simp [okZ] at hok⟩
 | .n i t u=>by
  have main:∀ (listed:Array Bool) (S:LN) (a:Act) (w:World) (top:Bool),okZ ops E top (.n i t u) listed=true→wpG P l Q (.n i t u) S a w→∀ k∈i :: u.heads,E k≠0∧wpOp P ops Q k (Nz S (Sl S<|E k) w<|Ku P ops Q E t.len<|listed.setIfInBounds k true) a w:=by
   intro listed S a w top hok h k hk
   have hok':(decide (i < ops.size) && (E i == 1) && (!top || (Region.ready .any ops listed == i :: u.heads)) && okZ ops E true t (listed.setIfInBounds i true) && (u.heads == [] || u.len == t.len + 1) && okZ ops E false u listed)=true:=by cases top <;> exact hok
   simp only [JL,JT,Jz] at hok';obtain ⟨⟨⟨⟨⟨hi,hE⟩,_⟩,h2⟩,h3⟩,h4⟩:=hok';rcases Jt.1 hk with rfl | hk
   ·refine ⟨by rw [hE];decide,?_⟩;rw [hE];have h1:=h.1;rw [← hl] at h1;exact zd9 hl hi (fun S' a' w' h'=>(qv hl hsel hQ t).1 _ S' a' w' h2 h') h1
   ·refine (qv hl hsel hQ u).2 listed S a w t.len h4 ?_ h.2 k hk;simpa using h3
  refine ⟨fun listed S a w hok h=> ?_,fun listed S a w n hok hlen h k hk=> ?_⟩
  ·have hr:Region.ready .any ops listed=i :: u.heads:=by
    simp only [okZ,JL,JT,Jz,Bool.not_true,Bool.false_or] at hok;exact hok.1.1.1.2
   refine ⟨fun h0=>(by rw [hr] at h0;cases h0),fun j hj=> ?_⟩;rw [hr] at hj;obtain ⟨hE,hw⟩:=main listed S a w true hok h j hj;exact ⟨fun _=>hw,fun h0=>absurd h0 hE⟩
  ·have hn:t.len=n:=by
    rcases hlen with h0 | h0
    ·simp [Tz.heads] at h0
    ·simp [Tz.len] at h0;exact h0
   subst hn;exact main listed S a w false hok h k hk
 | .e i t u=>by
  have main:∀ (listed:Array Bool) (S:LN) (a:Act) (w:World) (top:Bool),okZ ops E top (.e i t u) listed=true→wpG P l Q (.e i t u) S a w→∀ k∈i :: u.heads,E k≠0∧wpOp P ops Q k (Nz S (Sl S<|E k) w<|Ku P ops Q E t.len<|listed.setIfInBounds k true) a w:=by
   intro listed S a w top hok h k hk
   have hok':(decide (i < ops.size) && (E i == 2) && (!top || (Region.ready .any ops listed == i :: u.heads)) && okZ ops E true t (listed.setIfInBounds i true) && (u.heads == [] || u.len == t.len + 1) && okZ ops E false u listed)=true:=by cases top <;> exact hok
   simp only [JL,JT,Jz] at hok';obtain ⟨⟨⟨⟨⟨hi,hE⟩,_⟩,h2⟩,h3⟩,h4⟩:=hok';rcases Jt.1 hk with rfl | hk
   ·refine ⟨by rw [hE];decide,?_⟩;rw [hE];have h1:=h.1;rw [← hl] at h1;exact zd9 hl hi (fun S' a' w' h'=>(qv hl hsel hQ t).1 _ S' a' w' h2 h') h1
   ·refine (qv hl hsel hQ u).2 listed S a w t.len h4 ?_ h.2 k hk;simpa using h3
  refine ⟨fun listed S a w hok h=> ?_,fun listed S a w n hok hlen h k hk=> ?_⟩
  ·have hr:Region.ready .any ops listed=i :: u.heads:=by
    simp only [okZ,JL,JT,Jz,Bool.not_true,Bool.false_or] at hok;exact hok.1.1.1.2
   refine ⟨fun h0=>(by rw [hr] at h0;cases h0),fun j hj=> ?_⟩;rw [hr] at hj;obtain ⟨hE,hw⟩:=main listed S a w true hok h j hj;exact ⟨fun _=>hw,fun h0=>absurd h0 hE⟩
  ·have hn:t.len=n:=by
    rcases hlen with h0 | h0
    ·simp [Tz.heads] at h0
    ·simp [Tz.len] at h0;exact h0
   subst hn;exact main listed S a w false hok h k hk
theorem wpGL {id:Nat} {l:List Oper} (S:LN) (t:Tz) {a:Act} {w:World} (hm:P.follows .mixedOrders=true) (hok:okZL l t=true)
  (hQ:∀ (d:Option Tmp) (v:Value) (c:List PanicEntry) (a:Act) (w:World),Q (.panic c) (a.put d v) w→Q (.panic c) a w)
  (h:wpG P l Q t S a w.drew):(Code.region id l.toArray true).wp P Q a w:=by
 simp only [okZL,JL,Jz] at hok;obtain ⟨⟨h1,h2⟩,h3⟩:=hok;refine wp_region_any hm (jO (E:=t.eff) _ _ S _ _ ?_);have:=(qv (P:=P) (Q:=Q) (E:=t.eff) (ops:=l.toArray) rfl h1 hQ t).1 (Array.replicate l.length false) S a w.drew h3 h;rw [h2] at this;simpa using this
