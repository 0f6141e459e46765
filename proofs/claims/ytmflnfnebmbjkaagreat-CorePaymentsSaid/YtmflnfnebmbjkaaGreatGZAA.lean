/- Plain words for memory, over any program: a block that is known whole, what a call may have changed, a slice that reads as a list of bytes. No program -/
import Derived.WalkKit
import Derived.Lib.Hide
import Derived.Deep.Draws
import Derived.Test.YtmflnfnebmbjkaaGreatRows
import Derived.ProofKit
import Derived.OpenShut
import Derived.ChangeSlices
import Derived.Deep.DeepHandedRow
import Derived.Lib.LaidTab
import Derived.Deep.MidRow
import Derived.Laws.CopyOwn
import Derived.Deep.AppendLies
import Derived.Maps.AppendAt
import Derived.Laws.BytesArg
import Derived.Laws.IdiomStrings
import Derived.Still
import Derived.Tactics
import Derived.Deep.RegionHeld3
import Derived.StillTactics
namespace Go.Proofs.YtmflnfnebmbjkaaGreat
open Go.RowKit
abbrev LB:=List UInt8
abbrev LN:=List Nat
theorem t9:True:=trivial
theorem m9.{u} {α:Type u} {a b:α} (h:a=b):a∈[b]:=List.mem_singleton.2 h
theorem mL.{u} {α:Type u} {a:α} {s:List α} (t:List α) (h:a∈s):a∈s++t:=List.mem_append_left t h
theorem mR.{u} {α:Type u} {a:α} {t:List α} (s:List α) (h:a∈t):a∈s++t:=List.mem_append_right s h
theorem mC.{u} {α:Type u} {a:α} {l:List α}:a∈a::l:=List.mem_cons_self
theorem oT {p:Prop} [Decidable p] (h:decide p=true):p:=of_decide_eq_true h
theorem oF {p:Prop} [Decidable p] (h:decide p=false):¬p:=of_decide_eq_false h
theorem I.{u} {α : Sort u} {a : α} : a = a := rfl
theorem k9 {p : Prop} (h : p := by kernel_rfl) : p := h
theorem d9 {p : Prop} (h : p := by decide) : p := h
theorem o9 {p : Prop} (h : p := by omega) : p := h
theorem s9 {p : Prop} (h : p := by simp) : p := h
theorem Ja:type_of% @List.mem_singleton:=@List.mem_singleton
theorem Jb:type_of% @if_neg:=@if_neg
theorem Jc:type_of% @List.mem_of_getElem?:=@List.mem_of_getElem?
theorem Jd:type_of% @decide_eq_false:=@decide_eq_false
theorem Je:type_of% @List.getElem?_eq_getElem:=@List.getElem?_eq_getElem
theorem Jf:type_of% @List.mem_append:=@List.mem_append
theorem Jg:type_of% @List.getElem?_eq_some_iff:=@List.getElem?_eq_some_iff
theorem Jh:type_of% @if_pos:=@if_pos
theorem Ji:type_of% @List.take_of_length_le:=@List.take_of_length_le
theorem Jj:type_of% @not_not_intro:=@not_not_intro
theorem Jk:type_of% @List.length_append:=@List.length_append
theorem Jl:type_of% @List.mem_cons_of_mem:=@List.mem_cons_of_mem
theorem Jm:type_of% @Go.Lib.hid:=@Go.Lib.hid
theorem Jn:type_of% @Array.getElem?_eq_some_iff:=@Array.getElem?_eq_some_iff
theorem Jo:type_of% @decide_eq_true:=@decide_eq_true
theorem Jp:type_of% @Go.run_underlying:=@Go.run_underlying
theorem Jq:type_of% @List.append_assoc:=@List.append_assoc
theorem Jr:type_of% @List.getD_eq_getElem?_getD:=@List.getD_eq_getElem?_getD
theorem Js:type_of% @Nat.le_refl:=@Nat.le_refl
theorem Jt:type_of% @List.mem_cons:=@List.mem_cons
theorem Ju:type_of% @Nat.lt_of_lt_of_le:=@Nat.lt_of_lt_of_le
theorem Jv:type_of% @Go.Result.andThen_ok:=@Go.Result.andThen_ok
theorem Jw:type_of% @List.mem_filter:=@List.mem_filter
theorem Jy:type_of% @Option.map_eq_some_iff:=@Option.map_eq_some_iff
theorem Jz:type_of% @decide_eq_true_eq:=@decide_eq_true_eq
theorem JA:type_of% @List.length_drop:=@List.length_drop
theorem JB:type_of% @List.getElem?_append_left:=@List.getElem?_append_left
theorem JC:type_of% @Nat.zero_le:=@Nat.zero_le
theorem JD:type_of% @Go.Sem.run_bind:=@Go.Sem.run_bind
theorem JE:type_of% @List.length_take:=@List.length_take
theorem JF:type_of% @Nat.zero_add:=@Nat.zero_add
theorem JG:type_of% @Nat.le_trans:=@Nat.le_trans
theorem JH:type_of% @List.nodup_append:=@List.nodup_append
theorem JI:type_of% @List.mem_map:=@List.mem_map
theorem JJ:type_of% @List.getElem?_map:=@List.getElem?_map
theorem JK:type_of% @Go.Sem.run_pure:=@Go.Sem.run_pure
theorem JL:type_of% @Bool.and_eq_true:=@Bool.and_eq_true
theorem JM:type_of% @List.getElem?_eq_none:=@List.getElem?_eq_none
theorem JN:type_of% @Option.some.inj:=@Option.some.inj
theorem JO:type_of% @List.length_map:=@List.length_map
theorem JP:type_of% @List.getElem?_take:=@List.getElem?_take
theorem JQ:type_of% @List.take_append_of_le_length:=@List.take_append_of_le_length
theorem JR:type_of% @List.getElem?_append_right:=@List.getElem?_append_right
theorem JS:type_of% @List.append_nil:=@List.append_nil
theorem JT:type_of% @beq_iff_eq:=@beq_iff_eq
theorem JU:type_of% @List.map_cons:=@List.map_cons
theorem JV:type_of% @List.take_append_drop:=@List.take_append_drop
theorem JW:type_of% @decide_eq_decide:=@decide_eq_decide
theorem JX:type_of% @Bool.not_eq_false':=@Bool.not_eq_false'
theorem JY:type_of% @congrArg:=@congrArg
theorem JZ:type_of% @List.drop_eq_nil_of_le:=@List.drop_eq_nil_of_le
theorem J0:type_of% @List.nil_append:=@List.nil_append
theorem J1:type_of% @List.getElem?_cons_succ:=@List.getElem?_cons_succ
theorem J2:type_of% @List.eq_nil_of_length_eq_zero:=@List.eq_nil_of_length_eq_zero
theorem J3:type_of% @List.drop_append_of_le_length:=@List.drop_append_of_le_length
theorem J4:type_of% @Go.wpList_plain:=@Go.wpList_plain
theorem J5:type_of% @UInt8.toNat_lt:=@UInt8.toNat_lt
theorem J6:type_of% @List.flatMap_cons:=@List.flatMap_cons
theorem J7:type_of% @Int.toNat_natCast:=@Int.toNat_natCast
theorem J8:type_of% @List.take_succ_eq_append_getElem:=@List.take_succ_eq_append_getElem
theorem J9:type_of% @Nat.add_assoc:=@Nat.add_assoc
theorem Xa:type_of% @List.set_append_right:=@List.set_append_right
theorem Xb:type_of% @beq_eq_false_iff_ne:=@beq_eq_false_iff_ne
theorem Xc:type_of% @List.replicate_succ:=@List.replicate_succ
theorem Xd:type_of% @List.nodup_cons:=@List.nodup_cons
theorem Xe:type_of% @Array.ext':=@Array.ext'
theorem Xf:type_of% @Go.u32_xor_nat:=@Go.u32_xor_nat
theorem Xg:type_of% @Go.Addr.add_mid:=@Go.Addr.add_mid
theorem Xh:type_of% @List.ext_getElem?:=@List.ext_getElem?
theorem Xi:type_of% @decide_eq_false_iff_not:=@decide_eq_false_iff_not
theorem Xj:type_of% @List.getElem?_replicate:=@List.getElem?_replicate
theorem Xk:type_of% @Nat.eq_zero_or_pos:=@Nat.eq_zero_or_pos
theorem Xl:type_of% @List.length_set:=@List.length_set
theorem Xm:type_of% @List.length_cons:=@List.length_cons
theorem Xn:type_of% @Array.getElem?_eq_getElem:=@Array.getElem?_eq_getElem
theorem Xo:type_of% @List.take_succ_cons:=@List.take_succ_cons
theorem Xp:type_of% @Classical.not_not:=@Classical.not_not
theorem Xq:type_of% @List.length_singleton:=@List.length_singleton
theorem Xr:type_of% @Array.setIfInBounds_comm:=@Array.setIfInBounds_comm
theorem Xs:type_of% @Go.Act.put_comm:=@Go.Act.put_comm
theorem Xt:type_of% @Array.getElem?_setIfInBounds:=@Array.getElem?_setIfInBounds
theorem Xu:type_of% @List.pairwise_cons:=@List.pairwise_cons
theorem Xv:type_of% @Array.getD_eq_getD_getElem?:=@Array.getD_eq_getD_getElem?
theorem Xw:type_of% @Go.heap_alloc_new:=@Go.heap_alloc_new
theorem Xx:type_of% @Nat.mul_le_mul:=@Nat.mul_le_mul
theorem Xy:type_of% @Option.some.injEq:=@Option.some.injEq
theorem Xz:type_of% @List.drop_succ_cons:=@List.drop_succ_cons
theorem XA:type_of% @Nat.min_eq_left:=@Nat.min_eq_left
theorem XB:type_of% @Go.ready_mono:=@Go.ready_mono
theorem XC:type_of% @List.map_nil:=@List.map_nil
theorem XD:type_of% @List.take_zero:=@List.take_zero
theorem XE:type_of% @List.getElem?_mapIdx:=@List.getElem?_mapIdx
theorem XF:type_of% @Bool.not_eq_true':=@Bool.not_eq_true'
theorem XG:type_of% @List.map_append:=@List.map_append
theorem XH:type_of% @Bool.eq_iff_iff:=@Bool.eq_iff_iff
theorem XI:type_of% @Nat.pow_succ:=@Nat.pow_succ
structure Only (S:LN) (w w':World):Prop where
 os:w'.os=w.os
 tape:w'.tape=w.tape
 output:w'.output=w.output
 size:w.heap.size≤w'.heap.size
 block:∀ k,k < w.heap.size→k∉S→w'.heap[k]? =w.heap[k]?
namespace Only
variable {S S':List Nat}{a w w' w'':World}
theorem refl (S:LN) (w:World):Only S w w:=⟨rfl,rfl,rfl,Js _,fun _ _ _=>rfl⟩
theorem trans (h:Only S w w') (k:Only S' w' w'') (hS:∀ x∈S',x < w.heap.size→x∈S):Only S w w'':=
 ⟨k.os.trans h.os,k.tape.trans h.tape,k.output.trans h.output,JG h.size k.size,fun i hi hn=>
  (k.block i (Ju hi h.size) (fun hm=>hn<|hS i hm hi)).trans<|h.block i hi hn⟩
theorem trans' (h:Only S w w') (k:Only S w' w''):Only S w w'':=h.trans k fun _ hx _=>hx
theorem mono (h:Only S w w') (hS:∀ x∈S,x < w.heap.size→x∈S'):Only S' w w':=
 ⟨h.os,h.tape,h.output,h.size,fun i hi hn=>h.block i hi fun hm=>hn<|hS i hm hi⟩
theorem drew (h:Only S a w):Only S a w.drew:=⟨h.os,h.tape,h.output,h.size,h.block⟩
theorem undrew (h:Only S w.drew w'):Only S w w':=⟨h.os,h.tape,h.output,h.size,h.block⟩
theorem alloc (h:Only S a w) (o:Obj):Only S a (w.alloc o):=
 ⟨h.os,h.tape,h.output,JG h.size s9,fun i hi hn=>(Below.heap_alloc w o i<|Ju hi h.size).trans<|h.block i hi hn⟩
theorem setCell (h:Only S a w) {p:Addr} (hp:p.block∈S∨a.heap.size≤p.block) (u:Value):Only S a (w.setCell p u):=
 ⟨h.os,h.tape,h.output,by simpa [World.setCell] using h.size,fun i hi hn=>(Below.heap_setCell w p u i (by
  rintro rfl;rcases hp with hp | hp
  ·exact hn hp
  ·omega)).trans<|h.block i hi hn⟩
theorem below (h:Only [] w w'):Below w.heap.size w w':=⟨h.os,h.tape,h.output,h.size,fun k hk=>h.block k hk s9⟩
theorem of_grown {r:Option Nat} (h:w.grownBy w' r):Only r.toList w w':=
 ⟨h.os,h.tape,h.output,h.size,fun k hk hn=>h.block k hk (fun e=>hn (by rw [← e];simp))⟩
theorem cell (h:Only S w w') {p:Addr} (hp:p.block < w.heap.size) (hn:p.block∉S):w'.cell? p=w.cell? p:=World.cell?_of_block (w:=w) (h.block p.block hp hn)
theorem frozen (h:Only S w w') {p:Addr} (hp:p.block < w.heap.size) (hn:p.block∉S):w'.frozen? p=w.frozen? p:=World.frozen?_of_block (w:=w) (h.block p.block hp hn)
end Only
def Blk (w:World) (g:Nat) (t:TypeId) (cs:List Value):Prop:=w.heap[g]? =some (.cells cs.toArray t (0,0))
namespace Blk
variable {w w':World}{g:Nat}{t:TypeId}{cs:List Value}{S:List Nat}
theorem lt (h:Blk w g t cs):g < w.heap.size:=by
 rcases Nat.lt_or_ge g w.heap.size with hlt | hge
 ·exact hlt
 ·unfold Blk at h;rw [Array.getElem?_eq_none hge] at h;cases h
theorem cell (h:Blk w g t cs) (i:Nat):w.cell? ⟨g,i,none⟩=cs[i]? :=by
 unfold Blk at h;simp [World.cell?,h]
theorem cellv (h:Blk w g t cs) {i:Nat} {v:Value} (hv:cs[i]? =some v):w.cell? ⟨g,i,none⟩=some v:=(h.cell i).trans hv
theorem frozen (h:Blk w g t cs) (i:Nat):w.frozen? ⟨g,i,none⟩=false:=by
 unfold Blk at h;simp [World.frozen?,h]
theorem new (w:World) (t:TypeId) (cs:List Value):Blk (w.alloc<|.cells cs.toArray t) w.heap.size t cs:=Xw w _
theorem drew (h:Blk w g t cs):Blk w.drew g t cs:=h
theorem alloc (h:Blk w g t cs) (o:Obj):Blk (w.alloc o) g t cs:=(Below.heap_alloc w o g h.lt).trans h
theorem set (h:Blk w g t cs) (i:Nat) (u:Value):Blk (w.setCell ⟨g,i,none⟩ u) g t (cs.set i u):=by
 unfold Blk at h ⊢;simp [World.setCell,Array.getElem?_modify,h]
theorem keep (h:Blk w g t cs) (ho:Only S w w') (hn:g∉S):Blk w' g t cs:=(ho.block g h.lt hn).trans h
theorem below {B:Nat} (h:Blk w g t cs) (hb:Below B w w') (hg:g < B):Blk w' g t cs:=(hb.block g hg).trans h
end Blk
abbrev B8 (b:UInt8):Value:= .int .u8 b.toNat
def cellsOf (bs:LB):List Value:=bs.map B8
@[simp] theorem KN (bs:LB):(cellsOf bs).length=bs.length:=by simp [cellsOf]
end Go.Proofs.YtmflnfnebmbjkaaGreat
namespace Go.Proofs.YtmflnfnebmbjkaaGreat
open Go.ChangeShapes Go.WideShapes Go.ChangeAt Go.RowKit
section
variable {H:Type}{enc:TypeId × Value→H}{P:Program}
theorem qP (hl:laidOutB P=true) {W W':World} (hb:Below W.heap.size W W'):∀ {ts:List TypeId} {vs:List Value} {ds:List (DataW H)} {ps:List MemPlace},
  (∀ t∈ts,P.readableRec t=true∧t < P.types.size)→DataW.TrodAll enc P W 0 (fun _=>true) true ts vs ds ps→(∀ x∈ps,x.block < W.heap.size)→
  DataW.TrodAll enc P W' 0 (fun b=>decide (b < W.heap.size)) true ts vs ds ps
 | [],[],[],_,_,h,_=>h
 | _ :: _,_ :: _,_ :: _,_,hT,⟨p,q,h1,h2,e⟩,hs=>
  ⟨p,q,Below.trod hl (hT _<|Jt.2<|Or.inl rfl).1 (hT _<|Jt.2<|Or.inl rfl).2 h1 hb (fun x hx=>hs x (by rw [e];exact mL _ hx)),
   qP hl hb (fun t ht=>hT t<|Jt.2<|Or.inr ht) h2 (fun x hx=>hs x (by rw [e];exact mR _ hx)),e⟩
theorem post_kept {f:Func} {s:ChangeSpec} {W W':World} {args:Array Value} {ds gs:List (DataW H)} {before:List MemPlace} {tb:TypeId}
  (hl:laidOutB P=true) (hts:∀ t∈f.params.toList,P.readableRec t=true∧t < P.types.size) (hrt:f.resultTypes= #[tb]) (hb4:P.underlying tb=some .bool) (hv:s.vars=[])
  (hW:DataW.Whole enc P f.params.toList s.vars false W args.toList ds gs before)
  (h1:(s.fn H<|ds ++ gs).results=[.lit<|.bool true]) (h2:(s.fn H<|ds ++ gs).args=ds) (h3:(s.fn H<|ds ++ gs).vars=[]) (hb:Below W.heap.size W W'):
  s.post enc P f false true false false W args (.bool true) W':=by
 have hW':=hW;have hlt:=hW.lt;obtain ⟨p,q,hA,hV,rfl,hfz,hnd⟩:=hW;refine ⟨ds,gs,_,[],p,[],hW',?_,?_,?_,hb.frame _,fun h=>by cases h⟩
 ·rw [hrt,h1];exact trodAll_cons_mk (shut_bool hb4 _) trodAll_mk0
 ·rw [h2];exact qP hl hb hts hA (fun x hx=>hlt x<|mL _ hx)
 ·rw [h3,hv]
  rfl
theorem cell_lt {w:World} {a:Addr} {v:Value} (h:w.cell? a=some v):a.block < w.heap.size:=by
 by_cases hl:a.block < w.heap.size
 ·exact hl
 ·have:w.heap[a.block]? =none:=by simp;omega
  simp [World.cell?,this] at h
end
end Go.Proofs.YtmflnfnebmbjkaaGreat
namespace Go.Proofs.YtmflnfnebmbjkaaGreat
open Go.RowKit
def fillTo {α:Type} (n:Nat) (f z:Nat→α) (k:Nat):List α:=(List.range n).map fun i=>if i < k then f i else z i
section
variable {α:Type}{n:Nat}{f z:Nat→α}
@[simp] theorem fillTo_length (k:Nat):(fillTo n f z k).length=n:=by simp [fillTo]
end
section
variable {P:Program}{w:World}{ops:Array Oper}{rest:List Oper}{o:Oper}{a:Act}{Q:Exit→Act→World→Prop}
theorem Yx {g:Nat} {t:TypeId}:∀ (l:List Value) (o:Nat) (cur:List Value) (w:World),Blk w g t cur→o + l.length≤cur.length→Blk (w.setCells g o l) g t (cur.take o ++ (l ++ cur.drop (o + l.length)))∧Only [g] w (w.setCells g o l)
 | [],o,cur,w,h,_=>by simp [World.setCells];exact ⟨h,Only.refl _ _⟩
 | v :: l,o,cur,w,h,hl=>by
  simp only [Xm] at hl;have h1:=h.set o v;obtain ⟨h2,h3⟩:=Yx l (o + 1) (cur.set o v) _ h1 (by simp;omega);simp only [World.setCells];refine ⟨?_,((Only.refl [g] w).setCell (p:=⟨g,o,none⟩) (.inl s9) v).trans' h3⟩
  have e:(cur.set o v).take (o + 1) ++ (l ++ (cur.set o v).drop (o + 1 + l.length))=cur.take o ++ (v :: l ++ cur.drop (o + (v :: l).length)):=by
   apply Xh;intro i;simp only [List.getElem?_append,JP,List.getElem?_set,List.getElem?_drop,JE,Xl,Xm,List.getElem?_cons]
   by_cases ha:i < o
   ·rw [Jh o9,Jh o9,Jb o9,Jh o9,Jh ha]
   ·by_cases hb:i=o
    ·subst hb;rw [Jh o9,Jh o9,Jh rfl,Jh o9,Jb o9,Jh o9,Jh o9]
    ·by_cases hc:i < o + 1 + l.length
     ·rw [Jb o9,Jh o9,Jb o9,Jh o9,Jb o9];congr 1;omega
     ·rw [Jb o9,Jb o9,Jb o9,Jb o9,Jb o9];congr 1;omega
  rw [← e];exact h2
end
section
variable {P:Program}{w:World}{ops:Array Oper}{rest:List Oper}{o:Oper}{a:Act}{Q:Exit→Act→World→Prop}
end
def RV (w:World) (A:Option Addr) (xs:List Value):Prop:=
 0 < xs.length→∃ g o,A=some ⟨g,o,none⟩∧g < w.heap.size∧∀ j,j < xs.length→w.cell? ⟨g,o + j,none⟩=xs[j]?
namespace RV
variable {w w':World}{A:Option Addr}{xs:List Value}{S:List Nat}
theorem keep (h:RV w A xs) (ho:Only S w w') (hn:∀ p,A=some p→p.block∉S):RV w' A xs:=by
 intro h0;obtain ⟨g,o,rfl,hg,hc⟩:=h h0;exact ⟨g,o,I,Ju hg ho.size,fun j hj=>(ho.cell (p:=⟨g,o + j,none⟩) hg<|hn ⟨g,o,none⟩ I).trans<|hc j hj⟩
theorem keep0 (h:RV w A xs) (ho:Only [] w w'):RV w' A xs:=h.keep ho s9
theorem nil:RV w A []:=fun h=>absurd h s9
theorem one (w:World) (t:TypeId) (v:Value):RV (w.alloc<|.cells #[v] t) (some ⟨w.heap.size,0,none⟩) [v]:=by
 intro _;refine ⟨w.heap.size,0,I,by simp,fun j hj=> ?_⟩
 have:j=0:=by simpa using hj
 subst this;exact (Blk.new w t [v]).cellv I
end RV
def OwnS (w:World) (e:TypeId) (A:Option Addr) (c:Nat) (xs:List Value) (G:Option Nat):Prop:=
 (A=none∧c=0∧xs=[]∧G=none)∨∃ g rest,A=some ⟨g,0,none⟩∧G=some g∧Blk w g e (xs ++ rest)∧xs.length + rest.length=c∧c≤maxLen
namespace OwnS
variable {w w':World}{e:TypeId}{A:Option Addr}{c:Nat}{xs:List Value}{G:Option Nat}{S:List Nat}
theorem none (w:World) (e:TypeId):OwnS w e none 0 [] none:= .inl ⟨rfl,rfl,rfl,rfl⟩
theorem keep (h:OwnS w e A c xs G) (ho:Only S w w') (hn:∀ g,G=some g→g∉S):OwnS w' e A c xs G:=by
 rcases h with h | ⟨g,r,h1,h2,h3,h4⟩
 ·exact .inl h
 ·exact .inr ⟨g,r,h1,h2,h3.keep ho<|hn g h2,h4⟩
theorem lt (h:OwnS w e A c xs G):∀ g,G=some g→g < w.heap.size:=by
 intro g hg;rcases h with h | ⟨g',r,_,h2,h3,_⟩
 ·rw [h.2.2.2] at hg;cases hg
 ·rw [h2] at hg;injection hg with hg;subst hg;exact h3.lt
theorem le (h:OwnS w e A c xs G):xs.length≤c:=by
 rcases h with h | ⟨g,r,_,_,_,h4,_⟩
 ·simp [h.2.2.1]
 ·omega
theorem reads (h:OwnS w e A c xs G):RV w A xs:=by
 intro h0;rcases h with h | ⟨g,r,h1,_,h3,_⟩
 ·rw [h.2.2.1] at h0;simp at h0
 ·exact ⟨g,0,h1,h3.lt,fun j hj=>by rw [JF,h3.cell,JB hj]⟩
theorem drew (h:OwnS w e A c xs G):OwnS w.drew e A c xs G:=h
theorem owns (h:OwnS w e A c xs G):w.ownsRow 0 e 1 (.slice A xs.length c) xs.length xs:=by
 refine ⟨by simp,?_⟩;rcases h with ⟨rfl,rfl,rfl,rfl⟩ | ⟨g,r,rfl,rfl,h3,h4,h5⟩
 ·exact .inl ⟨I,I⟩
 ·exact .inr ⟨g,c,(xs ++ r).toArray,I,JC _,h3,by omega,h5,by simp [h4],by simp⟩
theorem ownBlock (h:OwnS w e A c xs G):(Value.slice A xs.length c).ownBlock=G:=by
 rcases h with ⟨rfl,rfl,rfl,rfl⟩ | ⟨g,r,rfl,rfl,h3,h4,h5⟩ <;> simp [Value.ownBlock]
theorem of_owns {v:Value} {n:Nat} (h:w.ownsRow 0 e 1 v n xs):∃ A c,v= .slice A n c∧n=xs.length∧OwnS w e A c xs v.ownBlock:=by
 have hn:n=xs.length:=by have:=h.1;omega
 rcases h.2 with ⟨rfl,h0⟩ | ⟨g,cap,cur,rfl,_,hh,hnc,hm,hs,hx⟩
 ·have:xs=[]:=J2 o9;exact ⟨Option.none,0,by rw [h0],hn,.inl ⟨rfl,rfl,this,by simp [Value.ownBlock]⟩⟩
 ·refine ⟨_,_,I,hn,.inr ⟨g,cur.toList.drop n,I,by simp [Value.ownBlock],?_,?_,hm⟩⟩
  ·have e1:xs ++ cur.toList.drop n=cur.toList:=by rw [← hx,Nat.mul_one];exact JV _ _
   unfold Blk;rw [e1];simpa using hh
  ·have:cur.toList.length=cap:=by simp [hs]
   rw [JA,this];omega
end OwnS
section
variable {P:Program}{w:World}{ops:Array Oper}{rest:List Oper}{o:Oper}{a:Act}{Q:Exit→Act→World→Prop}
end
section
variable {P:Program}{w:World}{ops:Array Oper}{rest:List Oper}{o:Oper}{a:Act}{Q:Exit→Act→World→Prop}
theorem run_str {src dst e:TypeId} (hs:P.underlying src=some (.slice e)) (he:P.underlying e=some (.int .u8)) (hd:P.underlying dst=some .string) {A:Option Addr} {n c:Nat} {bs:LB} (hn:n=bs.length) (hr:RV w A (cellsOf bs)):
  (convert src dst (.slice A n c)).run P w= .ok (.string ⟨bs.toArray⟩) w:=by
 subst hn;rw [run_convert_bytes_string w src dst e A bs.length c hs he hd]
 cases A with
 | none=>
  have:bs=[]:=by
   rcases Xk bs.length with h | h
   ·exact J2 h
   ·obtain ⟨g,o',h1,_⟩:=hr (by simpa using h)
    cases h1
  subst this;simp [Conv.bytesToString]
  rfl
 | some ad=>
  have hl:=run_loadCells_list (P:=P) w ad ((bs.map (fun b=>(b.toNat:Int))).map<|Value.int .u8) (fun j v hj=>by
   have hj':j < bs.length:=by simpa using (Jg.1 hj).1
   obtain ⟨g,o',h1,_,hc⟩:=hr (by simp;omega);injection h1 with h1;subst h1;rw [Xg,hc j (by simpa using hj'),← hj];rw [cellsOf,List.map_map]
   rfl)
  simp only [JO] at hl;rw [run_bytesToString w ad bs.length c _ hl,foldl_push_byteCells];have he0:ByteArray.empty.data= #[]:=rfl;rw [he0];simp
theorem wpl_str (hgd:o.guard=none) (src dst e:TypeId) (x:Operand) (ho:o.op= .convert src dst x) (hs:P.underlying src=some (.slice e)) (he:P.underlying e=some (.int .u8)) (hd:P.underlying dst=some .string)
  (A:Option Addr) (n c:Nat) (bs:LB) (hx:a.eval x= .slice A n c) (hn:n=bs.length) (hr:RV w A (cellsOf bs)) (h:wpList P ops Q rest (a.put o.dst<|.string ⟨bs.toArray⟩) w):wpList P ops Q (o :: rest) a w:=
 J4 hgd fun K hK=>by
  unfold Oper.wp execOp;simp only [ho,hx,JD,run_str hs he hd hn hr,Jv,JK];exact hK _ _ h
end
end Go.Proofs.YtmflnfnebmbjkaaGreat
namespace Go.Proofs.YtmflnfnebmbjkaaGreat
namespace Ord
variable {P:Program}{ops:Array Oper}{Q:Exit→Act→World→Prop}
variable {E:Nat→Bool}
theorem hnot_of {i j:Nat} {oj:Oper} {listed:Array Bool} (hr:listed.getD i true=false) (hall:∀ e∈oj.after,Region.binds .any e=true→listed.getD e.on false=true) (_hj:ops[j]? =some oj):
  ∀ e∈oj.after,Region.binds .any e=true→e.on≠i:=fun e he hb heq=>by
 have h1:=hall e he hb;rw [heq] at h1;rcases Nat.lt_or_ge i listed.size with h' | h'
 ·simp [h'] at hr h1;rw [hr] at h1;cases h1
 ·simp [Array.getElem?_eq_none h'] at h1
theorem free_next {i j:Nat} {oi:Oper} {listed:Array Bool} (hfree:∀ k ok,ops[k]? =some ok→k≠i→listed.getD k true=false→(∀ e∈ok.after,Region.binds .any e=true→e.on≠i)→oi.apart ops ok=true) (hjun:listed.getD j true=false):
  ∀ k ok,ops[k]? =some ok→k≠i→(listed.setIfInBounds j true).getD k true=false→(∀ e∈ok.after,Region.binds .any e=true→e.on≠i)→oi.apart ops ok=true:=fun k ok hk hki hun hno=>by
 refine hfree k ok hk hki ?_ hno
 by_cases hjk:j=k
 ·subst hjk;exact hjun
 ·rw [getD_set_ne true hjk] at hun;exact hun
def isMove (o:Oper):Bool:=match o.op with | .move _ | .assign _=>true | _=>false
def stepOk (ops:Array Oper) (M:Array Nat) (E:Nat→Bool) (listed:Array Bool) (i:Nat):Bool:=
 if E i then Region.ready .any ops listed == [i]
 else (Region.ready .any ops listed).contains i && Region.free .any ops listed i &&
  (((ops[i]?).map isMove).getD false || (List.range ops.size).all fun j=> !E j || listed.getD j true || (M.getD j 0).testBit i)
end Ord
end Go.Proofs.YtmflnfnebmbjkaaGreat
namespace Go.Proofs.YtmflnfnebmbjkaaGreat
open Go.RowKit
namespace Reg
variable {P:Program}{ops:Array Oper}{Q:Exit→Act→World→Prop}{E:Nat→Bool}{S:List Nat}
def extS (S:LN) (w:World) (t:{ w':World // Only S w w' }):World:=t.1
@[go_sem] theorem extS_cell (S:LN) (w:World) (t:{ w':World // Only S w w' }) (p:Addr) (h:p.block < w.heap.size) (hn:p.block∉S):(extS S w t).cell? p=w.cell? p:=t.2.cell h hn
@[go_sem] theorem extS_drew (S:LN) (w:World) (t:{ w':World // Only S w.drew w' }) (p:Addr) (h:p.block < w.heap.size) (hn:p.block∉S):(extS S w.drew t).cell? p=w.cell? p:=t.2.cell (w:=w.drew) h hn
def YieldsX (P:Program) (ops:Array Oper) (S:LN) (w:World) (o:Oper) (v:Value) (a:Act):Prop:=∀ w',Only S w w'→YieldsAt P ops w' o v a
theorem j8 {Y:Act→Prop} {j:Nat} {oi oj:Oper} {v:Value} (hj:ops[j]? =some oj) (hap:oi.apart ops oj=true) (hsj:∀ cs b,oj.op≠ .select cs b)
  (hQ:∀ c a w,Q (.panic c) (a.put oi.dst v) w→Q (.panic c) a w) (keep:∀ a u,Y a→Y (a.put oj.dst u)) (keepD:∀ a d,Y a→Y { a with defers:=d :: a.defers })
  {K:Act→World→Prop} {a:Act} {w:World} (hy:Y a) (h:wpOp P ops Q j K (a.put oi.dst v) w):
  wpOp P ops Q j (fun a' w'=>Y a'∧K (a'.put oi.dst v) w') a w:=by
 obtain ⟨h1,h2,h3⟩:=Oper.apart_spec hap;unfold wpOp at *;simp only [hj] at *;rw [wanted_put oj a oi.dst v h1] at h
 split
 ·rename_i hw;simp only [hw,if_true] at h;rcases h with h | ⟨hasks,hlets⟩
  case inr=>exact .inr ⟨by unfold Oper.asks at *;rw [execOp_put oj hsj a oi.dst v h1] at hasks;exact hasks,hlets⟩
  refine .inl ?_;unfold Oper.wp at *;rw [execOp_put oj hsj a oi.dst v h1] at h
  generalize (execOp a.eval oj).run P w=r at *
  cases r with
  | ok n w'=>
   cases n <;> simp only [Oper.upon] at h ⊢
   case value u=>exact ⟨keep a u hy,by rw [← Xs a v u h2];exact h⟩
   case skip=>exact ⟨keep a _ hy,by rw [← Xs a v undef h2];exact h⟩
   case defer d=>
    refine ⟨keep _ _<|keepD a d hy,?_⟩;rw [← Xs _ v undef h2,← Act.put_defers];exact h
   case enter f args=>
    refine Calls.mono h fun e w'' he=> ?_
    cases e with
    | returned u=>exact ⟨keep a u hy,by rw [← Xs a v u h2];exact he⟩
    | panicked c=>exact hQ _ _ _ he
    | outgrown=>exact he
   case row row args=>exact Rows.mono h fun u w'' he=>⟨keep a u hy,by rw [← Xs a v u h2];exact he⟩
  | halt x w'=>
   cases x <;> simp only [Oper.upon] at h ⊢
   case panic u=>exact hQ _ _ _ h
 ·rename_i hw;simp only [hw] at h;exact ⟨keep a _ hy,by rw [← Xs a v undef h2];exact h⟩
theorem Kd {Y:Act→Prop} {j:Nat} {w:World} {oi oj:Oper} {v:Value} (hj:ops[j]? =some oj) (hap:oi.apart ops oj=true) (hsj:∀ cs b,oj.op≠ .select cs b) (keep:∀ a u,Y a→Y (a.put oj.dst u))
  {K:Act→Prop} {a:Act} (hy:Y a) (h:stOp P ops w j K (a.put oi.dst v)):stOp P ops w j (fun a'=>Y a'∧K (a'.put oi.dst v)) a:=by
 obtain ⟨h1,h2,h3⟩:=Oper.apart_spec hap;unfold stOp at *;simp only [hj] at *;rw [wanted_put oj a oi.dst v h1] at h
 split
 ·rename_i hw;simp only [hw,if_true] at h;unfold Oper.still at *;rw [execOp_put oj hsj a oi.dst v h1] at h
  generalize (execOp a.eval oj).run P w=r at *
  cases r with
  | ok n w'=>
   cases n <;> simp only [Oper.stillUpon] at h ⊢
   case value u=>exact ⟨h.1,keep a u hy,by rw [← Xs a v u h2];exact h.2⟩
   case skip=>exact ⟨h.1,keep a _ hy,by rw [← Xs a v undef h2];exact h.2⟩
   case enter f args=>obtain ⟨hw',u,hc,hn⟩:=h;exact ⟨hw',u,hc,keep a u hy,by rw [← Xs a v u h2];exact hn⟩
  | halt x w'=>simp only [Oper.stillUpon] at h
 ·rename_i hw;simp only [hw] at h;exact ⟨keep a _ hy,by rw [← Xs a v undef h2];exact h⟩
def Nx (S:LN) (w:World) (K:Act→World→Prop) (a':Act) (w':World):Prop:=Only S w w'∧K a' w'
def jH (P:Program) (ops:Array Oper) (Q:Exit→Act→World→Prop) (E:Nat→Bool) (S:LN):Nat→Array Bool→Act→World→Prop
 | 0,listed,a,w=>Region.ready .any ops listed=[]∧Q .normal a w
 | fuel + 1,listed,a,w=>
  (Region.ready .any ops listed=[]→Q .normal a w)∧
  ∀ i∈Region.ready .any ops listed,(E i=true→wpOp P ops Q i (Nx S w<|jH P ops Q E S fuel<|listed.setIfInBounds i true) a w)∧
   (E i=false→stOp P ops w i (fun a'=>jH P ops Q E S fuel (listed.setIfInBounds i true) a' w) a)
theorem jk:∀ (fuel:Nat) (listed:Array Bool) (a:Act) (w:World),jH P ops Q E S fuel listed a w→wpAny P .any ops Q fuel listed a w
 | 0,_,_,_,h=>h
 | fuel + 1,_,_,_,h=>⟨h.1,fun i hi=>by
   cases hE:E i
   ·exact wpOp_of_stOp (fun a' h'=>jk fuel _ a' _ h') ((h.2 i hi).2 hE)
   ·exact wpOp_mono (fun a' w' h'=>jk fuel _ a' w' h'.2)<|(h.2 i hi).1 hE⟩
theorem YieldsX.keep {w:World} {oi oj:Oper} {v:Value} (hap:oi.apart ops oj=true) (hsi:∀ cs b,oi.op≠ .select cs b) (a:Act) (u:Value) (h:YieldsX P ops S w oi v a):YieldsX P ops S w oi v (a.put oj.dst u):=by
 obtain ⟨_,_,h3⟩:=Oper.apart_spec hap;exact fun w' hw=>(h w' hw).of_same (execOp_put oi hsi a oj.dst u h3) (wanted_put oi a oj.dst u h3)
theorem take {i:Nat} {oi:Oper} {v:Value} (hi:ops[i]? =some oi) (hEi:E i=false) (hsel:∀ (j:Nat) (o:Oper) cs b,ops[j]? =some o→o.op≠ .select cs b)
  (hQ:∀ c a w,Q (.panic c) (a.put oi.dst v) w→Q (.panic c) a w):
  ∀ (fuel:Nat) (listed:Array Bool) (a:Act) (w:World),
   (∀ j oj,ops[j]? =some oj→j≠i→listed.getD j true=false→(∀ e∈oj.after,Region.binds .any e=true→e.on≠i)→oi.apart ops oj=true)→
   i∈Region.ready .any ops listed→YieldsX P ops S w oi v a→
   jH P ops Q E S fuel (listed.setIfInBounds i true) (a.put oi.dst v) w→jH P ops Q E S (fuel + 1) listed a w:=by
 intro fuel
 induction fuel with
 | zero=>
  intro listed a w _ hr hy H;refine ⟨fun h=>(by rw [h] at hr;cases hr),fun j hj=> ?_⟩
  by_cases hji:j=i
  ·subst hji;exact ⟨fun h=>(by rw [hEi] at h;cases h),fun _=>(hy w<|Only.refl _ _).stOp hi H⟩
  ·have:=XB hj hji;rw [H.1] at this
   cases this
 | succ fuel ih=>
  intro listed a w hfree hr hy H;refine ⟨fun h=>(by rw [h] at hr;cases hr),fun j hj=> ?_⟩
  by_cases hji:j=i
  ·subst hji;exact ⟨fun h=>(by rw [hEi] at h;cases h),fun _=>(hy w<|Only.refl _ _).stOp hi H⟩
  ·obtain ⟨hjun,oj,hoj,hall⟩:=mem_ready.1 hj;have hun:=(mem_ready.1 hr).1;have hnot:=Ord.hnot_of hun hall hoj;have h1:=H.2 j (XB hj hji);have hap:=hfree j oj hoj hji hjun hnot;refine ⟨fun hEj=> ?_,fun hEj=> ?_⟩
   ·have h2:=j8 (Y:=fun a=>YieldsX P ops S w oi v a) hoj hap (fun cs b=>hsel j oj cs b hoj) hQ (fun a u h=>h.keep hap (fun cs b=>hsel i oi cs b hi) a u) (fun a d h w' hw=>(h w' hw).of_same rfl rfl) hy (h1.1 hEj);refine wpOp_mono (fun a' w' h3=> ?_) h2;obtain ⟨h4,h5,h6⟩:=h3;refine ⟨h5,ih (listed.setIfInBounds j true) a' w' (Ord.free_next hfree hjun) (XB hr<|Ne.symm hji) (fun w'' hw=>h4 w''<|h5.trans' hw) ?_⟩;rw [Xr _ _ hji];exact h6
   ·have h2:=Kd (Y:=fun a=>YieldsX P ops S w oi v a) hoj hap (fun cs b=>hsel j oj cs b hoj) (fun a u h=>h.keep hap (fun cs b=>hsel i oi cs b hi) a u) hy (h1.2 hEj);refine stOp_mono (fun a' h3=>ih (listed.setIfInBounds j true) a' w (Ord.free_next hfree hjun) (XB hr<|Ne.symm hji) h3.1 ?_) h2;rw [Xr _ _ hji];exact h3.2
inductive Stp where
 | r (i:Nat)
 | e (i:Nat)
def Stp.at:Stp→Nat
 | .r i=>i
 | .e i=>i
def Stp.eff:Stp→Bool
 | .r _=>false
 | .e _=>true
def pick (l:List Oper):List Stp→List (Bool × Oper)
 | []=>[]
 | .r i :: ns=>(false,l.getD i default) :: pick l ns
 | .e i :: ns=>(true,l.getD i default) :: pick l ns
def jP (P:Program) (ops:Array Oper) (Q:Exit→Act→World→Prop) (S:LN):List (Bool × Oper)→Act→World→Prop
 | [],a,w=>wpList P ops Q [] a w
 | (true,o) :: rest,a,w=>wpList P ops (Exit.then (Nx S w<|jP P ops Q S rest) Q) [o] a w
 | (false,o) :: rest,a,w=>∃ v,YieldsX P ops S w o v a∧jP P ops Q S rest (a.put o.dst v) w
def stepOk (ops:Array Oper) (E:Nat→Bool) (listed:Array Bool) (s:Stp):Bool:=
 decide (s.at < ops.size) && (E s.at == s.eff) && (if s.eff then Region.ready .any ops listed == [s.at] else (Region.ready .any ops listed).contains s.at && Region.free .any ops listed s.at)
def zbH (ops:Array Oper) (E:Nat→Bool):List Stp→Array Bool→Bool
 | [],listed=>Region.ready .any ops listed == []
 | s :: ss,listed=>stepOk ops E listed s && zbH ops E ss (listed.setIfInBounds s.at true)
theorem jl {l:List Oper} (hl:ops=l.toArray) (hsel:Region.noSelect ops=true) (hQ:∀ (d:Option Tmp) (v:Value) (c:List PanicEntry) (a:Act) (w:World),Q (.panic c) (a.put d v) w→Q (.panic c) a w):
  ∀ (ss:List Stp) (listed:Array Bool) (a:Act) (w:World),zbH ops E ss listed=true→jP P ops Q S (pick l ss) a w→jH P ops Q E S ss.length listed a w
 | [],listed,a,w,hok,h=>⟨by simpa [zbH] using hok,h⟩
 | .r i :: ss,listed,a,w,hok,h=>by
  simp only [zbH,stepOk,Stp.at,Stp.eff,JL,JT,Bool.false_eq_true,if_false] at hok;obtain ⟨⟨⟨hi,hE⟩,hr,hf⟩,h2⟩:=hok;obtain ⟨v,hy,hn⟩:=h
  have hgi:ops[i]? =some (l.getD i default):=by
   subst hl
   have:i < l.length:=by simpa using hi
   simp [List.getD,this]
  have ih:=jl hl hsel hQ ss (listed.setIfInBounds i true) _ w h2 hn;exact take hgi hE (Region.noSelect_spec hsel) (fun c a w=>hQ _ v c a w) ss.length listed a w (Region.free_spec hgi hf) (by simpa using hr) hy ih
 | .e i :: ss,listed,a,w,hok,h=>by
  simp only [zbH,stepOk,Stp.at,Stp.eff,JL,JT,if_true] at hok;obtain ⟨⟨⟨hi,hE⟩,hr⟩,h2⟩:=hok
  have hgi:ops[i]? =some (l.getD i default):=by
   subst hl
   have:i < l.length:=by simpa using hi
   simp [List.getD,this]
  refine ⟨fun h0=>(by rw [hr] at h0;cases h0),fun j hj=> ?_⟩;rw [hr] at hj
  obtain rfl:j=i:=by simpa using hj
  refine ⟨fun _=> ?_,fun h0=>(by rw [hE] at h0;cases h0)⟩;have ih:∀ a' w',Nx S w (jP P ops Q S<|pick l ss) a' w'→Nx S w (jH P ops Q E S ss.length<|listed.setIfInBounds j true) a' w':=fun a' w' h'=>⟨h'.1,jl hl hsel hQ ss _ a' w' h2 h'.2⟩;have h':wpList P ops (Exit.then (Nx S w<|jP P ops Q S<|pick l ss) Q) [l.getD j default] a w:=h;unfold wpOp;simp only [hgi];unfold wpList at h'
  split
  ·rename_i hw;rw [Jh hw] at h';rcases h' with h' | ⟨h1,a0,w0,h3⟩
   ·refine .inl ?_;have h3:=Oper.wp_mono (P:=P) (K':=Nx S w<|jH P ops Q E S ss.length<|listed.setIfInBounds j true) (fun a' w' h4=>ih a' w' h4) h';unfold Oper.wp at h3 ⊢
    generalize (execOp a.eval<|l.getD j default).run P w=r at *
    cases r with
    | ok n w'=>
     cases n <;> simp only [Oper.upon] at h3 ⊢ <;> first | exact h3 | exact Calls.mono h3 (fun e w'' he=>by cases e <;> exact he)
    | halt x w'=>cases x <;> simp only [Oper.upon] at h3 ⊢ <;> exact h3
   ·exact .inr ⟨h1,a0,w0,h3⟩
  ·rename_i hw;rw [Jb hw] at h';exact ih _ _ h'
def effs:List Stp→Nat→Bool
 | [],_=>false
 | .r _ :: ss,i=>effs ss i
 | .e j :: ss,i=>(j == i) || effs ss i
def ok (l:List Oper) (ss:List Stp):Bool:=Region.noSelect l.toArray && decide (ss.length=l.length) && zbH l.toArray (effs ss) ss (Array.replicate l.length false)
theorem wp {id:Nat} {l:List Oper} (S:LN) (ss:List Stp) {a:Act} {w:World} (hm:P.follows .mixedOrders=true) (hok:ok l ss=true)
  (hQ:∀ (d:Option Tmp) (v:Value) (c:List PanicEntry) (a:Act) (w:World),Q (.panic c) (a.put d v) w→Q (.panic c) a w)
  (h:jP P l.toArray Q S (pick l ss) a w.drew):(Code.region id l.toArray true).wp P Q a w:=by
 simp only [ok,JL,Jz] at hok;obtain ⟨⟨h1,h2⟩,h3⟩:=hok;refine wp_region_any hm (jk (E:=effs ss) (S:=S) _ _ _ _ ?_);have:=jl (P:=P) (Q:=Q) (S:=S) rfl h1 hQ ss (Array.replicate l.length false) a w.drew h3 h;rw [h2] at this;simpa using this
def ZM (P:Program) (w:World) (K:Value→Prop):Result Next→Prop
 | .ok (.value v) w'=>w'=w∧K v
 | .ok .skip w'=>w'=w∧K undef
 | .ok (.enter f args) w'=>w'=w∧∃ v,Calls P f args w (fun e w''=>e= .returned v∧w''=w)∧K v
 | _=>False
def Kc (P:Program) (o:Oper) (a:Act) (w:World) (K:Value→Prop):Prop:=ZM P w K ((execOp a.eval o).run P w)
attribute [go_sem] Kc ZM
theorem read {a:Act} {w:World} {o:Oper} {rest:List (Bool × Oper)} (v:Value)
  (h:∀ (t:{ w':World // Only S w w' }) (K:Value→Prop),(∀ u,u=v→K u)→if Region.wanted o (yielded ops a.tmps)=true then Kc P o a (extS S w t) K else K undef)
  (b:Act) (ha:∀ K:Act→Prop,(∀ u,u=b→K u)→K (a.put o.dst v)) (hn:jP P ops Q S rest b w):jP P ops Q S ((false,o) :: rest) a w:=by
 refine ⟨v,fun w' hw=> ?_,ha (fun x=>jP P ops Q S rest x w) (fun u hu=>by rw [hu];exact hn)⟩;have h1:=h ⟨w',hw⟩ (fun u=>u=v) (fun _ h=>h)
 split at h1
 ·rename_i hwt;unfold Kc at h1;simp only [extS] at h1
  generalize hr:(execOp a.eval o).run P w'=r at h1
  cases r with
  | ok n w''=>
   cases n <;> simp only [ZM] at h1
   case value u=>obtain ⟨rfl,rfl⟩:=h1;exact .inl ⟨hwt,.inl hr⟩
   case skip=>obtain ⟨rfl,rfl⟩:=h1;exact .inl ⟨hwt,.inr<|.inl ⟨hr,rfl⟩⟩
   case enter f args=>obtain ⟨rfl,u,hc,rfl⟩:=h1;exact .inl ⟨hwt,.inr<|.inr ⟨f,args,hr,hc⟩⟩
  | halt x w''=>simp only [ZM] at h1
 ·rename_i hwt;exact .inr ⟨by simpa using hwt,h1.symm⟩
theorem eff {a:Act} {w:World} {o:Oper} {rest:List (Bool × Oper)} (h:wpList P ops (Exit.then (Nx S w<|jP P ops Q S rest) Q) [o] a w):jP P ops Q S ((true,o) :: rest) a w:=h
theorem fin {a:Act} {w:World} (h:wpList P ops Q [] a w):jP P ops Q S [] a w:=h
theorem done {a:Act} {w w':World} {K:Act→World→Prop} (ho:Only S w w') (h:K a w'):wpList P ops (Exit.then (Nx S w K) Q) [] a w':=⟨ho,h⟩
end Reg
namespace Reg
variable {P:Program}{ops:Array Oper}{Q:Exit→Act→World→Prop}{S:List Nat}
end Reg
namespace Reg
variable {P:Program}{ops:Array Oper}{Q:Exit→Act→World→Prop}{E:Nat→Bool}{S:List Nat}
