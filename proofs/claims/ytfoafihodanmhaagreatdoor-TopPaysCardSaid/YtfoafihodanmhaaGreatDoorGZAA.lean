/- Plain words for memory, over any program: a block that is known whole, what a call may have changed, a slice that reads as a list of bytes. No program -/
import Derived.WalkKit
import Derived.Lib.Hide
import Derived.Deep.Draws
import Derived.Laws.BitsAllLaws
import Derived.Test.YtfoafihodanmhaaGreatDoorProg
import Derived.WalkSpells
import Derived.WalkLawsBesides
import Derived.StillTailTactics
import Derived.Deep.MidRow
import Derived.Laws.CopyOwn
import Derived.Deep.AppendLies
import Derived.Maps.AppendAt
import Derived.Deep.DeepCutAuto
set_option maxHeartbeats 8000000
set_option maxRecDepth 100000
namespace Go.Proofs.YtfoafihodanmhaaGreatDoor
open Go.RowKit
abbrev LB:=List UInt8
abbrev LN:=List Nat
theorem t9:True:=trivial
theorem m9.{u} {α:Type u} {a b:α} (h:a=b):a∈[b]:=List.mem_singleton.2 h
theorem mL.{u} {α:Type u} {a:α} {s:List α} (t:List α) (h:a∈s):a∈s++t:=List.mem_append_left t h
theorem mR.{u} {α:Type u} {a:α} {t:List α} (s:List α) (h:a∈t):a∈s++t:=List.mem_append_right s h
theorem mC.{u} {α:Type u} {a:α} {l:List α}:a∈a::l:=List.mem_cons_self
theorem oT {p:Prop} [Decidable p] (h:decide p=true):p:=of_decide_eq_true h
theorem oF {p:Prop} [Decidable p] (h:decide p=false):¬p:=of_decide_eq_false h
theorem I.{u} {α : Sort u} {a : α} : a = a := rfl
theorem k9 {p : Prop} (h : p := by kernel_rfl) : p := h
theorem d9 {p : Prop} (h : p := by decide) : p := h
theorem o9 {p : Prop} (h : p := by omega) : p := h
theorem s9 {p : Prop} (h : p := by simp) : p := h
theorem Ja:type_of% @List.mem_singleton:=@List.mem_singleton
theorem Jb:type_of% @if_neg:=@if_neg
theorem Jc:type_of% @List.mem_of_getElem?:=@List.mem_of_getElem?
theorem Jd:type_of% @decide_eq_false:=@decide_eq_false
theorem Je:type_of% @List.getElem?_eq_getElem:=@List.getElem?_eq_getElem
theorem Jf:type_of% @List.mem_append:=@List.mem_append
theorem Jg:type_of% @List.getElem?_eq_some_iff:=@List.getElem?_eq_some_iff
theorem Jh:type_of% @if_pos:=@if_pos
theorem Ji:type_of% @List.take_of_length_le:=@List.take_of_length_le
theorem Jj:type_of% @not_not_intro:=@not_not_intro
theorem Jk:type_of% @List.length_append:=@List.length_append
theorem Jl:type_of% @List.mem_cons_of_mem:=@List.mem_cons_of_mem
theorem Jm:type_of% @Go.Lib.hid:=@Go.Lib.hid
theorem Jn:type_of% @Array.getElem?_eq_some_iff:=@Array.getElem?_eq_some_iff
theorem Jo:type_of% @decide_eq_true:=@decide_eq_true
theorem Jp:type_of% @Go.run_underlying:=@Go.run_underlying
theorem Jq:type_of% @List.append_assoc:=@List.append_assoc
theorem Jr:type_of% @List.getD_eq_getElem?_getD:=@List.getD_eq_getElem?_getD
theorem Js:type_of% @Nat.le_refl:=@Nat.le_refl
theorem Jt:type_of% @List.mem_cons:=@List.mem_cons
theorem Ju:type_of% @Nat.lt_of_lt_of_le:=@Nat.lt_of_lt_of_le
theorem Jv:type_of% @Go.Result.andThen_ok:=@Go.Result.andThen_ok
theorem Jw:type_of% @List.mem_filter:=@List.mem_filter
theorem Jy:type_of% @Option.map_eq_some_iff:=@Option.map_eq_some_iff
theorem Jz:type_of% @decide_eq_true_eq:=@decide_eq_true_eq
theorem JA:type_of% @List.length_drop:=@List.length_drop
theorem JB:type_of% @List.getElem?_append_left:=@List.getElem?_append_left
theorem JC:type_of% @Nat.zero_le:=@Nat.zero_le
theorem JD:type_of% @Go.Sem.run_bind:=@Go.Sem.run_bind
theorem JE:type_of% @List.length_take:=@List.length_take
theorem JF:type_of% @Nat.zero_add:=@Nat.zero_add
theorem JG:type_of% @Nat.le_trans:=@Nat.le_trans
theorem JH:type_of% @List.nodup_append:=@List.nodup_append
theorem JI:type_of% @List.mem_map:=@List.mem_map
theorem JJ:type_of% @List.getElem?_map:=@List.getElem?_map
theorem JK:type_of% @Go.Sem.run_pure:=@Go.Sem.run_pure
theorem JL:type_of% @Bool.and_eq_true:=@Bool.and_eq_true
theorem JM:type_of% @List.getElem?_eq_none:=@List.getElem?_eq_none
theorem JN:type_of% @Option.some.inj:=@Option.some.inj
theorem JO:type_of% @List.length_map:=@List.length_map
theorem JP:type_of% @List.getElem?_take:=@List.getElem?_take
theorem JQ:type_of% @List.take_append_of_le_length:=@List.take_append_of_le_length
theorem JR:type_of% @List.getElem?_append_right:=@List.getElem?_append_right
theorem JS:type_of% @List.append_nil:=@List.append_nil
theorem JT:type_of% @beq_iff_eq:=@beq_iff_eq
theorem JU:type_of% @List.map_cons:=@List.map_cons
theorem JV:type_of% @List.take_append_drop:=@List.take_append_drop
theorem JW:type_of% @decide_eq_decide:=@decide_eq_decide
theorem JX:type_of% @Bool.not_eq_false':=@Bool.not_eq_false'
theorem JY:type_of% @congrArg:=@congrArg
theorem JZ:type_of% @List.drop_eq_nil_of_le:=@List.drop_eq_nil_of_le
theorem J0:type_of% @List.nil_append:=@List.nil_append
theorem J1:type_of% @List.getElem?_cons_succ:=@List.getElem?_cons_succ
theorem J2:type_of% @List.eq_nil_of_length_eq_zero:=@List.eq_nil_of_length_eq_zero
theorem J3:type_of% @List.drop_append_of_le_length:=@List.drop_append_of_le_length
theorem J4:type_of% @Go.wpList_plain:=@Go.wpList_plain
theorem J5:type_of% @UInt8.toNat_lt:=@UInt8.toNat_lt
theorem J6:type_of% @List.flatMap_cons:=@List.flatMap_cons
theorem J7:type_of% @Int.toNat_natCast:=@Int.toNat_natCast
theorem J8:type_of% @List.take_succ_eq_append_getElem:=@List.take_succ_eq_append_getElem
theorem J9:type_of% @Nat.add_assoc:=@Nat.add_assoc
theorem Xa:type_of% @List.set_append_right:=@List.set_append_right
theorem Xb:type_of% @beq_eq_false_iff_ne:=@beq_eq_false_iff_ne
theorem Xc:type_of% @List.replicate_succ:=@List.replicate_succ
theorem Xd:type_of% @List.nodup_cons:=@List.nodup_cons
theorem Xe:type_of% @Array.ext':=@Array.ext'
theorem Xf:type_of% @Go.u32_xor_nat:=@Go.u32_xor_nat
theorem Xg:type_of% @Go.Addr.add_mid:=@Go.Addr.add_mid
theorem Xh:type_of% @List.ext_getElem?:=@List.ext_getElem?
theorem Xi:type_of% @decide_eq_false_iff_not:=@decide_eq_false_iff_not
theorem Xj:type_of% @List.getElem?_replicate:=@List.getElem?_replicate
theorem Xk:type_of% @Nat.eq_zero_or_pos:=@Nat.eq_zero_or_pos
theorem Xl:type_of% @List.length_set:=@List.length_set
theorem Xm:type_of% @List.length_cons:=@List.length_cons
theorem Xn:type_of% @Array.getElem?_eq_getElem:=@Array.getElem?_eq_getElem
theorem Xo:type_of% @List.take_succ_cons:=@List.take_succ_cons
theorem Xp:type_of% @Classical.not_not:=@Classical.not_not
theorem Xq:type_of% @List.length_singleton:=@List.length_singleton
theorem Xr:type_of% @Array.setIfInBounds_comm:=@Array.setIfInBounds_comm
theorem Xs:type_of% @Go.Act.put_comm:=@Go.Act.put_comm
theorem Xt:type_of% @Array.getElem?_setIfInBounds:=@Array.getElem?_setIfInBounds
theorem Xu:type_of% @List.pairwise_cons:=@List.pairwise_cons
theorem Xv:type_of% @Array.getD_eq_getD_getElem?:=@Array.getD_eq_getD_getElem?
theorem Xw:type_of% @Go.heap_alloc_new:=@Go.heap_alloc_new
theorem Xx:type_of% @Nat.mul_le_mul:=@Nat.mul_le_mul
theorem Xy:type_of% @Option.some.injEq:=@Option.some.injEq
theorem Xz:type_of% @List.drop_succ_cons:=@List.drop_succ_cons
theorem XA:type_of% @Nat.min_eq_left:=@Nat.min_eq_left
theorem XB:type_of% @Go.ready_mono:=@Go.ready_mono
theorem XC:type_of% @List.map_nil:=@List.map_nil
theorem XD:type_of% @List.take_zero:=@List.take_zero
theorem XE:type_of% @List.getElem?_mapIdx:=@List.getElem?_mapIdx
theorem XF:type_of% @Bool.not_eq_true':=@Bool.not_eq_true'
theorem XG:type_of% @List.map_append:=@List.map_append
theorem XH:type_of% @Bool.eq_iff_iff:=@Bool.eq_iff_iff
theorem XI:type_of% @Nat.pow_succ:=@Nat.pow_succ
structure Only (S:LN) (w w':World):Prop where
 os:w'.os=w.os
 tape:w'.tape=w.tape
 output:w'.output=w.output
 size:w.heap.size≤w'.heap.size
 block:∀ k,k < w.heap.size→k∉S→w'.heap[k]? =w.heap[k]?
namespace Only
variable {S S':List Nat}{a w w' w'':World}
theorem refl (S:LN) (w:World):Only S w w:=⟨rfl,rfl,rfl,Js _,fun _ _ _=>rfl⟩
theorem trans (h:Only S w w') (k:Only S' w' w'') (hS:∀ x∈S',x < w.heap.size→x∈S):Only S w w'':=
 ⟨k.os.trans h.os,k.tape.trans h.tape,k.output.trans h.output,JG h.size k.size,fun i hi hn=>
  (k.block i (Ju hi h.size) (fun hm=>hn<|hS i hm hi)).trans<|h.block i hi hn⟩
theorem trans' (h:Only S w w') (k:Only S w' w''):Only S w w'':=h.trans k fun _ hx _=>hx
theorem mono (h:Only S w w') (hS:∀ x∈S,x < w.heap.size→x∈S'):Only S' w w':=
 ⟨h.os,h.tape,h.output,h.size,fun i hi hn=>h.block i hi fun hm=>hn<|hS i hm hi⟩
theorem drew (h:Only S a w):Only S a w.drew:=⟨h.os,h.tape,h.output,h.size,h.block⟩
theorem undrew (h:Only S w.drew w'):Only S w w':=⟨h.os,h.tape,h.output,h.size,h.block⟩
theorem alloc (h:Only S a w) (o:Obj):Only S a (w.alloc o):=
 ⟨h.os,h.tape,h.output,JG h.size s9,fun i hi hn=>(Below.heap_alloc w o i<|Ju hi h.size).trans<|h.block i hi hn⟩
theorem setCell (h:Only S a w) {p:Addr} (hp:p.block∈S∨a.heap.size≤p.block) (u:Value):Only S a (w.setCell p u):=
 ⟨h.os,h.tape,h.output,by simpa [World.setCell] using h.size,fun i hi hn=>(Below.heap_setCell w p u i (by
  rintro rfl;rcases hp with hp | hp
  ·exact hn hp
  ·omega)).trans<|h.block i hi hn⟩
theorem below (h:Only [] w w'):Below w.heap.size w w':=⟨h.os,h.tape,h.output,h.size,fun k hk=>h.block k hk s9⟩
theorem of_grown {r:Option Nat} (h:w.grownBy w' r):Only r.toList w w':=
 ⟨h.os,h.tape,h.output,h.size,fun k hk hn=>h.block k hk (fun e=>hn (by rw [← e];simp))⟩
theorem cell (h:Only S w w') {p:Addr} (hp:p.block < w.heap.size) (hn:p.block∉S):w'.cell? p=w.cell? p:=World.cell?_of_block (w:=w) (h.block p.block hp hn)
theorem frozen (h:Only S w w') {p:Addr} (hp:p.block < w.heap.size) (hn:p.block∉S):w'.frozen? p=w.frozen? p:=World.frozen?_of_block (w:=w) (h.block p.block hp hn)
end Only
def Blk (w:World) (g:Nat) (t:TypeId) (cs:List Value):Prop:=w.heap[g]? =some (.cells cs.toArray t (0,0))
namespace Blk
variable {w w':World}{g:Nat}{t:TypeId}{cs:List Value}{S:List Nat}
theorem lt (h:Blk w g t cs):g < w.heap.size:=by
 rcases Nat.lt_or_ge g w.heap.size with hlt | hge
 ·exact hlt
 ·unfold Blk at h;rw [Array.getElem?_eq_none hge] at h;cases h
theorem cell (h:Blk w g t cs) (i:Nat):w.cell? ⟨g,i,none⟩=cs[i]? :=by
 unfold Blk at h;simp [World.cell?,h]
theorem cellv (h:Blk w g t cs) {i:Nat} {v:Value} (hv:cs[i]? =some v):w.cell? ⟨g,i,none⟩=some v:=(h.cell i).trans hv
theorem frozen (h:Blk w g t cs) (i:Nat):w.frozen? ⟨g,i,none⟩=false:=by
 unfold Blk at h;simp [World.frozen?,h]
theorem new (w:World) (t:TypeId) (cs:List Value):Blk (w.alloc<|.cells cs.toArray t) w.heap.size t cs:=Xw w _
theorem drew (h:Blk w g t cs):Blk w.drew g t cs:=h
theorem alloc (h:Blk w g t cs) (o:Obj):Blk (w.alloc o) g t cs:=(Below.heap_alloc w o g h.lt).trans h
theorem set (h:Blk w g t cs) (i:Nat) (u:Value):Blk (w.setCell ⟨g,i,none⟩ u) g t (cs.set i u):=by
 unfold Blk at h ⊢;simp [World.setCell,Array.getElem?_modify,h]
theorem far (h:Blk w g t cs) {p:Addr} (hp:g≠p.block) (u:Value):Blk (w.setCell p u) g t cs:=(Below.heap_setCell w p u g hp).trans h
theorem keep (h:Blk w g t cs) (ho:Only S w w') (hn:g∉S):Blk w' g t cs:=(ho.block g h.lt hn).trans h
theorem below {B:Nat} (h:Blk w g t cs) (hb:Below B w w') (hg:g < B):Blk w' g t cs:=(hb.block g hg).trans h
end Blk
abbrev B8 (b:UInt8):Value:= .int .u8 b.toNat
def cellsOf (bs:LB):List Value:=bs.map B8
@[simp] theorem ye (bs:LB):(cellsOf bs).length=bs.length:=by simp [cellsOf]
theorem VD {bs:LB} {i:Nat} (h:i < bs.length):(cellsOf bs)[i]? =some (.int .u8 (bs.getD i 0).toNat):=by simp [cellsOf,h]
theorem YT {bs:LB}:∀ u∈cellsOf bs,u.oneCell'=true:=by
 intro u hu;obtain ⟨b,_,rfl⟩:=JI.1 hu
 rfl
end Go.Proofs.YtfoafihodanmhaaGreatDoor
namespace Go.Proofs.YtfoafihodanmhaaGreatDoor
namespace Bl
def add32 (a b:Nat):Nat:=(a + b) % 4294967296
def ror (x n:Nat):Nat:=x / 2 ^ n ||| x * 2 ^ (32 - n) % 4294967296
theorem add32_lt (a b:Nat):add32 a b < 4294967296:=by unfold add32;omega
theorem ror_lt (x n:Nat) (h:x < 4294967296):ror x n < 4294967296:=by
 unfold ror;have h1:x / 2 ^ n < 2 ^ 32:=Nat.lt_of_le_of_lt (Nat.div_le_self _ _) h
 have h2:x * 2 ^ (32 - n) % 4294967296 < 2 ^ 32:=by omega
 exact Nat.or_lt_two_pow h1 h2
theorem xor_lt (a b:Nat) (h:a < 4294967296) (k:b < 4294967296):a ^^^ b < 4294967296:=Nat.xor_lt_two_pow (n:=32) h k
theorem add_cast (a b:Nat):((a:Int) + b) % 4294967296=((add32 a b:Nat):Int):=by simp [add32]
def ga (a b x:Nat):Nat:=add32 a (add32 b x)
structure Four where
 a:Nat
 b:Nat
 c:Nat
 d:Nat
def half (r s:Nat) (q:Four) (x:Nat):Four:=
 let a:=add32 q.a (add32 q.b x)
 let d:=ror (q.d ^^^ a) r
 let c:=add32 q.c d
 let b:=ror (q.b ^^^ c) s
 ⟨a,b,c,d⟩
def gmix (q:Four) (x y:Nat):Four:=half 8 7 (half 16 12 q x) y
def Four.ok (q:Four):Prop:=q.a < 4294967296∧q.b < 4294967296∧q.c < 4294967296∧q.d < 4294967296
theorem half_ok {r s:Nat} {q:Four} {x:Nat} (h:q.ok):(half r s q x).ok:=by
 obtain ⟨h1,h2,h3,h4⟩:=h;have ha:=add32_lt q.a (add32 q.b x);have hd:=ror_lt _ r (xor_lt _ _ h4 ha);have hc:=add32_lt q.c (ror (q.d ^^^ add32 q.a (add32 q.b x)) r);exact ⟨ha,ror_lt _ s<|xor_lt _ _ h2 hc,hc,hd⟩
theorem gmix_ok {q:Four} {x y:Nat} (h:q.ok):(gmix q x y).ok:=half_ok (half_ok h)
theorem or_rot (x p q:Nat) (hx:x < 4294967296):bits .or .u32 ((x:Int) * p % 4294967296) ((x:Int) / q)=((x / q ||| x * p % 4294967296:Nat):Int):=by
 have h1:x / q < 4294967296:=Nat.lt_of_le_of_lt (Nat.div_le_self _ _) hx
 have h2:x * p % 4294967296 < 4294967296:=by omega
 have:=u32_or_nat (x * p % 4294967296) (x / q) h2 h1;rw [Nat.or_comm] at this;rw [← this];simp
def mixw (ws:LN) (a b c d x y:Nat):LN:=
 let q:=Bl.gmix ⟨ws.getD a 0,ws.getD b 0,ws.getD c 0,ws.getD d 0⟩ x y
 (((ws.set a q.a).set b q.b).set c q.c).set d q.d
def iv:LN:=[1779033703,3144134277,1013904242,2773480762,1359893119,2600822924,528734635,1541459225]
def tab:List LN:=[[0,1,2,3,4,5,6,7,8,9,10,11,12,13,14,15],[14,10,4,8,9,15,13,6,1,12,0,2,11,7,5,3],[11,8,12,0,5,2,15,13,10,14,3,6,7,1,9,4],[7,9,3,1,13,12,11,14,2,6,5,10,4,0,15,8],[9,0,5,7,2,4,10,15,14,1,11,12,6,8,3,13],[2,12,6,10,0,11,8,3,4,13,7,5,15,14,1,9],[12,5,1,15,14,13,4,10,0,7,6,3,9,2,8,11],[13,11,7,14,12,1,3,9,5,0,15,4,8,6,2,10],[6,15,14,9,11,3,0,8,12,2,13,7,1,4,10,5],[10,2,8,4,7,6,1,5,15,11,9,14,3,12,13,0]]
def ivf (i:Nat):Nat:=iv.getD i 0
theorem ivf_all:(List.range 8).map ivf=iv:=by decide
def Words (n:Nat) (ws:LN):Prop:=ws.length=n∧∀ x∈ws,x < 4294967296
theorem Words.getD {n:Nat} {ws:LN} (h:Words n ws) (i:Nat):ws.getD i 0 < 4294967296:=by
 by_cases hi:i < ws.length
 ·simp [hi];exact h.2 _ (List.getElem_mem hi)
 ·simp [hi]
theorem Words.set {n:Nat} {ws:LN} (h:Words n ws) (i:Nat) {v:Nat} (hv:v < 4294967296):Words n (ws.set i v):=
 ⟨by simp [h.1],fun x hx=>(List.mem_or_eq_of_mem_set hx).elim (h.2 x) (fun e=>e ▸ hv)⟩
theorem mixw_words {n:Nat} {ws:LN} (h:Words n ws) (a b c d x y:Nat):Words n (mixw ws a b c d x y):=by
 have hq:(gmix ⟨ws.getD a 0,ws.getD b 0,ws.getD c 0,ws.getD d 0⟩ x y).ok:=gmix_ok ⟨h.getD a,h.getD b,h.getD c,h.getD d⟩;exact (((h.set a hq.1).set b hq.2.1).set c hq.2.2.1).set d hq.2.2.2
def mword (b0 b1 b2 b3:Nat):Nat:=((b0 ||| b1 * 256) ||| b2 * 65536) ||| b3 * 16777216
theorem mword_lt {b0 b1 b2 b3:Nat} (h0:b0 < 256) (h1:b1 < 256) (h2:b2 < 256) (h3:b3 < 256):mword b0 b1 b2 b3 < 4294967296:=by
 unfold mword;exact Nat.or_lt_two_pow (n:=32) (Nat.or_lt_two_pow (Nat.or_lt_two_pow o9 o9) o9) o9
theorem mword_cast {b0 b1 b2 b3:Nat} (h0:b0 < 256) (h1:b1 < 256) (h2:b2 < 256) (h3:b3 < 256):
  bits .or .u32 (bits .or .u32 (bits .or .u32 (b0:Int)<|(b1:Int) * 256)<|(b2:Int) * 65536) ((b3:Int) * 16777216)=((mword b0 b1 b2 b3:Nat):Int):=by
 have e1:=u32_or_nat b0 (b1 * 256) o9 o9;have l1:b0 ||| b1 * 256 < 4294967296:=Nat.or_lt_two_pow (n:=32) o9 o9;have e2:=u32_or_nat (b0 ||| b1 * 256) (b2 * 65536) l1 o9;have l2:(b0 ||| b1 * 256) ||| b2 * 65536 < 4294967296:=Nat.or_lt_two_pow (n:=32) l1 o9;have e3:=u32_or_nat ((b0 ||| b1 * 256) ||| b2 * 65536) (b3 * 16777216) l2 o9;simp only [Int.natCast_mul,Int.cast_ofNat_Int] at e1 e2 e3;rw [e1,e2,e3]
 rfl
def mw (bs:LB) (i:Nat):Nat:=mword (bs.getD (4 * i) 0).toNat (bs.getD (4 * i + 1) 0).toNat (bs.getD (4 * i + 2) 0).toNat (bs.getD (4 * i + 3) 0).toNat
def mws (bs:LB):LN:=(List.range 16).map (mw bs)
theorem mw_lt (bs:LB) (i:Nat):mw bs i < 4294967296:=mword_lt (J5 _) (J5 _) (J5 _) (J5 _)
theorem mws_words (bs:LB):Words 16 (mws bs):=⟨by simp [mws],fun x hx=>by obtain ⟨i,_,rfl⟩:=JI.1 hx;exact mw_lt _ _⟩
def round (m row v:LN):LN:=
 let x:=fun i=>m.getD (row.getD i 0) 0
 let v1:=mixw v 0 4 8 12 (x 0) (x 1)
 let v2:=mixw v1 1 5 9 13 (x 2) (x 3)
 let v3:=mixw v2 2 6 10 14 (x 4) (x 5)
 let v4:=mixw v3 3 7 11 15 (x 6) (x 7)
 let v5:=mixw v4 0 5 10 15 (x 8) (x 9)
 let v6:=mixw v5 1 6 11 12 (x 10) (x 11)
 let v7:=mixw v6 2 7 8 13 (x 12) (x 13)
 let v8:=mixw v7 3 4 9 14 (x 14) (x 15)
 v8
def rounds (m:LN):Nat→LN→LN
 | 0,v=>v
 | k + 1,v=>round m (tab.getD k []) (rounds m k v)
theorem zcR {m row v:LN} (h:Words 16 v):Words 16 (round m row v):=by
 unfold round;exact mixw_words (mixw_words (mixw_words (mixw_words (mixw_words (mixw_words (mixw_words (mixw_words h _ _ _ _ _ _) _ _ _ _ _ _) _ _ _ _ _ _) _ _ _ _ _ _) _ _ _ _ _ _) _ _ _ _ _ _) _ _ _ _ _ _) _ _ _ _ _ _
theorem rounds_words {m v:LN} (h:Words 16 v):∀ k,Words 16 (rounds m k v)
 | 0=>h
 | k + 1=>zcR (rounds_words h k)
theorem iv_words:Words 8 iv:=⟨by decide,by decide⟩
theorem tab_len (r:Nat) (h:r < 10):(tab.getD r []).length=16:=(by decide:∀ r:Fin 10,(tab.getD r.val []).length=16) ⟨r,h⟩
theorem tab_lt (r:Nat) (h:r < 10) (j:Nat):(tab.getD r []).getD j 0 < 16:=by
 by_cases hj:j < 16
 ·exact (by decide:∀ r:Fin 10,∀ j:Fin 16,(tab.getD r.val []).getD j.val 0 < 16) ⟨r,h⟩ ⟨j,hj⟩
 ·rw [Jr,JM (by rw [tab_len r h];omega)];decide
def vinit (st:LN) (t:Nat) (last:Bool):LN:=
 let v:=st ++ iv
 let v1:=v.set 12 (1359893119 ^^^ t % 4294967296)
 let v2:=v1.set 13 (2600822924 ^^^ t / 4294967296 % 4294967296)
 if last then v2.set 14 (528734635 ^^^ 4294967295) else v2
theorem vinit_words {st:LN} {t:Nat} {last:Bool} (h:Words 8 st):Words 16 (vinit st t last):=by
 have h0:Words 16 (st ++ iv):=⟨by simp [h.1,iv_words.1],fun x hx=>(Jf.1 hx).elim (h.2 x)<|iv_words.2 x⟩;have h1:=h0.set 12 (xor_lt 1359893119 (t % 4294967296) d9 o9);have h2:=h1.set 13 (xor_lt 2600822924 (t / 4294967296 % 4294967296) d9 o9);unfold vinit
 cases last
 ·exact h2
 ·exact h2.set 14 d9
def comp (st:LN) (bs:LB) (t:Nat) (last:Bool):LN:=
 let v:=rounds (mws bs) 10 (vinit st t last)
 (List.range 8).map fun i=>st.getD i 0 ^^^ (v.getD i 0 ^^^ v.getD (i + 8) 0)
theorem comp_words {st:LN} {bs:LB} {t:Nat} {last:Bool} (h:Words 8 st):Words 8 (comp st bs t last):=by
 have hv:=rounds_words (m:=mws bs) (vinit_words (t:=t) (last:=last) h) 10;refine ⟨by simp [comp],fun x hx=> ?_⟩;obtain ⟨i,_,rfl⟩:=JI.1 hx;exact xor_lt _ _ (h.getD i) (xor_lt _ _ (hv.getD i)<|hv.getD _)
end Bl
end Go.Proofs.YtfoafihodanmhaaGreatDoor
namespace Go.Proofs.YtfoafihodanmhaaGreatDoor
open Go.RowKit
theorem and31_16:bits BinOp.and IntKind.u64 (IntKind.u64.wrap<|-16) 31=16:=by decide +kernel
theorem and31_12:bits BinOp.and IntKind.u64 (IntKind.u64.wrap<|-12) 31=20:=by decide +kernel
theorem and31_8:bits BinOp.and IntKind.u64 (IntKind.u64.wrap<|-8) 31=24:=by decide +kernel
theorem and31_7:bits BinOp.and IntKind.u64 (IntKind.u64.wrap<|-7) 31=25:=by decide +kernel
theorem rot16 (x:Nat) (hx:x < 4294967296) (w:World):
  Calls Tryz.prog 197 #[.int .u32 x,.int .i64<|-16] w fun e w'=>e= .returned (.int .u32 (Bl.ror x 16:Nat))∧w'=w:=by
 have e1:=and31_16
 go_enter Tryz.func197,Tryz.ntmps197
 go_wp2
 go_ret
 exact ⟨JY (fun n=>Ending.returned<|.int .u32 n)<|Bl.or_rot x 65536 65536 hx,I⟩
theorem rot12 (x:Nat) (hx:x < 4294967296) (w:World):
  Calls Tryz.prog 197 #[.int .u32 x,.int .i64<|-12] w fun e w'=>e= .returned (.int .u32 (Bl.ror x 12:Nat))∧w'=w:=by
 have e1:=and31_12
 go_enter Tryz.func197,Tryz.ntmps197
 go_wp2
 go_ret
 exact ⟨JY (fun n=>Ending.returned<|.int .u32 n)<|Bl.or_rot x 1048576 4096 hx,I⟩
theorem rot8 (x:Nat) (hx:x < 4294967296) (w:World):
  Calls Tryz.prog 197 #[.int .u32 x,.int .i64<|-8] w fun e w'=>e= .returned (.int .u32 (Bl.ror x 8:Nat))∧w'=w:=by
 have e1:=and31_8
 go_enter Tryz.func197,Tryz.ntmps197
 go_wp2
 go_ret
 exact ⟨JY (fun n=>Ending.returned<|.int .u32 n)<|Bl.or_rot x 16777216 256 hx,I⟩
theorem rot7 (x:Nat) (hx:x < 4294967296) (w:World):
  Calls Tryz.prog 197 #[.int .u32 x,.int .i64<|-7] w fun e w'=>e= .returned (.int .u32 (Bl.ror x 7:Nat))∧w'=w:=by
 have e1:=and31_7
 go_enter Tryz.func197,Tryz.ntmps197
 go_wp2
 go_ret
 exact ⟨JY (fun n=>Ending.returned<|.int .u32 n)<|Bl.or_rot x 33554432 128 hx,I⟩
def yq (ws:LN):List Value:=ws.map fun (n:Nat)=>Value.int .u32 (n:Int)
theorem yw {ws:LN} {i n:Nat} (h:ws[i]? =some n):(yq ws)[i]? =some (.int .u32 (n:Int)):=by simp [yq,h]
theorem YQ (ws:LN) (i n:Nat):(yq ws).set i (.int .u32 (n:Int))=yq (ws.set i n):=by simp [yq,List.map_set]
structure Mx (w W:World) (g:Nat) (t:TypeId) (ws:LN) (a b c d va vb vc vd:Nat):Prop where
 blk:Blk W g t (yq ws)
 only:Only [g] w W
 ga:ws[a]? =some va
 gb:ws[b]? =some vb
 gc:ws[c]? =some vc
 gd:ws[d]? =some vd
 la:va < 4294967296
 lb:vb < 4294967296
 lc:vc < 4294967296
 ld:vd < 4294967296
 ab:a≠b
 ac:a≠c
 ad:a≠d
 bc:b≠c
 bd:b≠d
 cd:c≠d
namespace Mx
variable {w W:World}{g:Nat}{t:TypeId}{ws:List Nat}{a b c d va vb vc vd:Nat}
theorem store {i n:Nat} {X:Int} (hb:Blk W g t (yq ws)) (ho:Only [g] w W) (hX:X=(n:Int)):
  Blk ((W.setCell ⟨g,i,none⟩<|.int .u32 X).drew) g t (yq<|ws.set i n)∧Only [g] w ((W.setCell ⟨g,i,none⟩<|.int .u32 X).drew):=by
 subst hX;exact ⟨by rw [← YQ];exact (hb.set i _).drew,(ho.setCell (p:=⟨g,i,none⟩) (.inl s9) _).drew⟩
theorem lt_of {i v:Nat} (h:ws[i]? =some v):i < ws.length:=(Jg.1 h).1
theorem setA (h:Mx w W g t ws a b c d va vb vc vd) {n:Nat} {X:Int} (hX:X=(n:Int)) (hn:n < 4294967296):
  Mx w ((W.setCell ⟨g,a,none⟩<|.int .u32 X).drew) g t (ws.set a n) a b c d n vb vc vd:=by
 obtain ⟨h1,h2⟩:=store (i:=a) h.blk h.only hX;have:=lt_of h.ga;exact ⟨h1,h2,by simp [this],by simp [h.ab,h.gb],by simp [h.ac,h.gc],by simp [h.ad,h.gd],hn,h.lb,h.lc,h.ld,h.ab,h.ac,h.ad,h.bc,h.bd,h.cd⟩
theorem setB (h:Mx w W g t ws a b c d va vb vc vd) {n:Nat} {X:Int} (hX:X=(n:Int)) (hn:n < 4294967296):
  Mx w ((W.setCell ⟨g,b,none⟩<|.int .u32 X).drew) g t (ws.set b n) a b c d va n vc vd:=by
 obtain ⟨h1,h2⟩:=store (i:=b) h.blk h.only hX;have:=lt_of h.gb;exact ⟨h1,h2,by simp [h.ab.symm,h.ga],by simp [this],by simp [h.bc,h.gc],by simp [h.bd,h.gd],h.la,hn,h.lc,h.ld,h.ab,h.ac,h.ad,h.bc,h.bd,h.cd⟩
theorem setC (h:Mx w W g t ws a b c d va vb vc vd) {n:Nat} {X:Int} (hX:X=(n:Int)) (hn:n < 4294967296):
  Mx w ((W.setCell ⟨g,c,none⟩<|.int .u32 X).drew) g t (ws.set c n) a b c d va vb n vd:=by
 obtain ⟨h1,h2⟩:=store (i:=c) h.blk h.only hX;have:=lt_of h.gc;exact ⟨h1,h2,by simp [h.ac.symm,h.ga],by simp [h.bc.symm,h.gb],by simp [this],by simp [h.cd,h.gd],h.la,h.lb,hn,h.ld,h.ab,h.ac,h.ad,h.bc,h.bd,h.cd⟩
theorem setD (h:Mx w W g t ws a b c d va vb vc vd) {n:Nat} {X:Int} (hX:X=(n:Int)) (hn:n < 4294967296):
  Mx w ((W.setCell ⟨g,d,none⟩<|.int .u32 X).drew) g t (ws.set d n) a b c d va vb vc n:=by
 obtain ⟨h1,h2⟩:=store (i:=d) h.blk h.only hX;have:=lt_of h.gd;exact ⟨h1,h2,by simp [h.ad.symm,h.ga],by simp [h.bd.symm,h.gb],by simp [h.cd.symm,h.gc],by simp [this],h.la,h.lb,h.lc,hn,h.ab,h.ac,h.ad,h.bc,h.bd,h.cd⟩
theorem ca (h:Mx w W g t ws a b c d va vb vc vd):W.cell? ⟨g,a,none⟩=some (.int .u32 (va:Int)):=h.blk.cellv (yw h.ga)
theorem cb (h:Mx w W g t ws a b c d va vb vc vd):W.cell? ⟨g,b,none⟩=some (.int .u32 (vb:Int)):=h.blk.cellv (yw h.gb)
theorem cc (h:Mx w W g t ws a b c d va vb vc vd):W.cell? ⟨g,c,none⟩=some (.int .u32 (vc:Int)):=h.blk.cellv (yw h.gc)
theorem cdd (h:Mx w W g t ws a b c d va vb vc vd):W.cell? ⟨g,d,none⟩=some (.int .u32 (vd:Int)):=h.blk.cellv (yw h.gd)
end Mx
theorem add2 (p q r:Nat):((p:Int) + ((q:Int) + r) % 4294967296) % 4294967296=((Bl.add32 p (Bl.add32 q r):Nat):Int):=by simp [Bl.add32]
theorem eight (ws:LN) (a b c d a1 b1 c1 d1 a2 b2 c2 d2:Nat) (ab:a≠b) (ac:a≠c) (ad:a≠d) (bc:b≠c) (bd:b≠d) (cd:c≠d):
  ((((((((ws.set a a1).set d d1).set c c1).set b b1).set a a2).set d d2).set c c2).set b b2)=(((ws.set a a2).set b b2).set c c2).set d d2:=by
 apply Xh;intro i;simp only [List.getElem?_set,Xl]
 by_cases h1:a=i <;> by_cases h2:b=i <;> by_cases h3:c=i <;> by_cases h4:d=i <;> simp_all
theorem mix_walk (w:World) (g:Nat) (t:TypeId) (ws:LN) (a b c d va vb vc vd x y:Nat) (ha:(a:Int) < 16) (hb:(b:Int) < 16) (hc:(c:Int) < 16) (hd:(d:Int) < 16) (h:Mx w w g t ws a b c d va vb vc vd):
  Calls Tryz.prog 195 #[.pointer<|some ⟨g,0,none⟩,.int .i64 a,.int .i64 b,.int .i64 c,.int .i64 d,.int .u32 x,.int .u32 y] w fun e w'=>e= .returned (.tuple #[])∧Blk w' g t (yq<|Bl.mixw ws a b c d x y)∧Only [g] w w':=by
 have ca:=h.ca;have cb:=h.cb;have fz:=h.blk.frozen a
 go_enter Tryz.func195,Tryz.ntmps195
 go_wp2
 go_still_tail 15,k9
 go_wp2
 clear ca cb fz;have h1:=h.setA (add2 va vb x) (Bl.add32_lt _ _)
 revert h1
 generalize World.drew _=W1
 intro h1;obtain ⟨a1,ea1⟩:∃ n,n=Bl.add32 va (Bl.add32 vb x):=⟨_,rfl⟩;rw [← ea1] at h1;have Ha1:=Jm ea1;clear ea1;obtain ⟨z2,ez2⟩:∃ n,n=vd ^^^ a1:=⟨_,rfl⟩
 have xz2:bits .xor .u32 (vd:Int) (a1:Int)=(z2:Int):=by rw [ez2];exact Xf _ _ h1.ld h1.la
 have lz2:z2 < 4294967296:=by rw [ez2];exact Bl.xor_lt _ _ h1.ld h1.la
 have Hz2:=Jm ez2;clear ez2;have c1:=h1.cdd;have c2:=h1.ca;have fz:=h1.blk.frozen d
 go_still_tail 16,k9
 still_call (rot16 z2 lz2 _)
 repeat still_step
 refine wpStill_nil ?_
 go_wp2
 clear c1 c2 fz xz2;have h2:=h1.setD (n:=Bl.ror z2 16) rfl (Bl.ror_lt _ _ lz2)
 revert h2
 generalize World.drew _=W2
 intro h2;obtain ⟨d1,ed1⟩:∃ n,n=Bl.ror z2 16:=⟨_,rfl⟩;rw [← ed1] at h2;have Hd1:=Jm ed1;clear ed1 h1;have c1:=h2.cc;have c2:=h2.cdd;have fz:=h2.blk.frozen c
 go_still_tail 13,k9
 go_wp2
 clear c1 c2 fz;have h3:=h2.setC (Bl.add_cast vc d1) (Bl.add32_lt _ _)
 revert h3
 generalize World.drew _=W3
 intro h3;obtain ⟨c1v,ec1v⟩:∃ n,n=Bl.add32 vc d1:=⟨_,rfl⟩;rw [← ec1v] at h3;have Hc1v:=Jm ec1v;clear ec1v h2;obtain ⟨z4,ez4⟩:∃ n,n=vb ^^^ c1v:=⟨_,rfl⟩
 have xz4:bits .xor .u32 (vb:Int) (c1v:Int)=(z4:Int):=by rw [ez4];exact Xf _ _ h3.lb h3.lc
 have lz4:z4 < 4294967296:=by rw [ez4];exact Bl.xor_lt _ _ h3.lb h3.lc
 have Hz4:=Jm ez4;clear ez4;have c1:=h3.cb;have c2:=h3.cc;have fz:=h3.blk.frozen b
 go_still_tail 16,k9
 still_call (rot12 z4 lz4 _)
 repeat still_step
 refine wpStill_nil ?_
 go_wp2
 clear c1 c2 fz xz4;have h4:=h3.setB (n:=Bl.ror z4 12) rfl (Bl.ror_lt _ _ lz4)
 revert h4
 generalize World.drew _=W4
 intro h4;obtain ⟨b1,eb1⟩:∃ n,n=Bl.ror z4 12:=⟨_,rfl⟩;rw [← eb1] at h4;have Hb1:=Jm eb1;clear eb1 h3;have c1:=h4.ca;have c2:=h4.cb;have fz:=h4.blk.frozen a
 go_still_tail 15,k9
 go_wp2
 clear c1 c2 fz;have h5:=h4.setA (add2 a1 b1 y) (Bl.add32_lt _ _)
 revert h5
 generalize World.drew _=W5
 intro h5;obtain ⟨a2,ea2⟩:∃ n,n=Bl.add32 a1 (Bl.add32 b1 y):=⟨_,rfl⟩;rw [← ea2] at h5;have Ha2:=Jm ea2;clear ea2 h4;obtain ⟨z6,ez6⟩:∃ n,n=d1 ^^^ a2:=⟨_,rfl⟩
 have xz6:bits .xor .u32 (d1:Int) (a2:Int)=(z6:Int):=by rw [ez6];exact Xf _ _ h5.ld h5.la
 have lz6:z6 < 4294967296:=by rw [ez6];exact Bl.xor_lt _ _ h5.ld h5.la
 have Hz6:=Jm ez6;clear ez6;have c1:=h5.cdd;have c2:=h5.ca;have fz:=h5.blk.frozen d
 go_still_tail 16,k9
 still_call (rot8 z6 lz6 _)
 repeat still_step
 refine wpStill_nil ?_
 go_wp2
 clear c1 c2 fz xz6;have h6:=h5.setD (n:=Bl.ror z6 8) rfl (Bl.ror_lt _ _ lz6)
 revert h6
 generalize World.drew _=W6
 intro h6;obtain ⟨d2,ed2⟩:∃ n,n=Bl.ror z6 8:=⟨_,rfl⟩;rw [← ed2] at h6;have Hd2:=Jm ed2;clear ed2 h5;have c1:=h6.cc;have c2:=h6.cdd;have fz:=h6.blk.frozen c
 go_still_tail 13,k9
 go_wp2
 clear c1 c2 fz;have h7:=h6.setC (Bl.add_cast c1v d2) (Bl.add32_lt _ _)
 revert h7
 generalize World.drew _=W7
 intro h7;obtain ⟨c2v,ec2v⟩:∃ n,n=Bl.add32 c1v d2:=⟨_,rfl⟩;rw [← ec2v] at h7;have Hc2v:=Jm ec2v;clear ec2v h6;obtain ⟨z8,ez8⟩:∃ n,n=b1 ^^^ c2v:=⟨_,rfl⟩
 have xz8:bits .xor .u32 (b1:Int) (c2v:Int)=(z8:Int):=by rw [ez8];exact Xf _ _ h7.lb h7.lc
 have lz8:z8 < 4294967296:=by rw [ez8];exact Bl.xor_lt _ _ h7.lb h7.lc
 have Hz8:=Jm ez8;clear ez8;have c1:=h7.cb;have c2:=h7.cc;have fz:=h7.blk.frozen b
 go_still_tail 16,k9
 still_call (rot7 z8 lz8 _)
 repeat still_step
 refine wpStill_nil ?_
 go_wp2
 clear c1 c2 fz xz8;have h8:=h7.setB (n:=Bl.ror z8 7) rfl (Bl.ror_lt _ _ lz8)
 revert h8
 generalize World.drew _=W8
 intro h8;obtain ⟨b2,eb2⟩:∃ n,n=Bl.ror z8 7:=⟨_,rfl⟩;rw [← eb2] at h8;have Hb2:=Jm eb2;clear eb2 h7;refine bodyPost_end (results_none I _ _ _) I ⟨I,?_,h8.only⟩;have hb8:=h8.blk;rw [eight _ _ _ _ _ _ _ _ _ _ _ _ _ h.ab h.ac h.ad h.bc h.bd h.cd] at hb8
 have e1:ws.getD a 0=va:=by simp [h.ga]
 have e2:ws.getD b 0=vb:=by simp [h.gb]
 have e3:ws.getD c 0=vc:=by simp [h.gc]
 have e4:ws.getD d 0=vd:=by simp [h.gd]
 have e:Bl.mixw ws a b c d x y=(((ws.set a a2).set b b2).set c c2v).set d d2:=by
  simp only [Bl.mixw,Bl.gmix,Bl.half,e1,e2,e3,e4];rw [Hb2.out,Hz8.out,Hc2v.out,Hd2.out,Hz6.out,Ha2.out,Hb1.out,Hz4.out,Hc1v.out,Hd1.out,Hz2.out,Ha1.out]
 rw [e];exact hb8
theorem Vx (w:World) (g:Nat) (t:TypeId) (ws:LN) (a b c d x y:Nat) (hw:Bl.Words 16 ws) (hb:Blk w g t (yq ws)) (la:a < 16) (lb:b < 16) (lc:c < 16) (ld:d < 16)
  (ab:a≠b) (ac:a≠c) (ad:a≠d) (bc:b≠c) (bd:b≠d) (cd:c≠d):
  Calls Tryz.prog 195 #[.pointer<|some ⟨g,0,none⟩,.int .i64 a,.int .i64 b,.int .i64 c,.int .i64 d,.int .u32 x,.int .u32 y] w fun e w'=>e= .returned (.tuple #[])∧Blk w' g t (yq<|Bl.mixw ws a b c d x y)∧Only [g] w w':=by
 have gt:∀ i,i < 16→ws[i]? =some (ws.getD i 0):=fun i hi=>by have:=hw.1;simp [this,hi]
 exact mix_walk w g t ws a b c d _ _ _ _ x y o9 o9 o9 o9
  ⟨hb,Only.refl _ _,gt a la,gt b lb,gt c lc,gt d ld,hw.getD a,hw.getD b,hw.getD c,hw.getD d,ab,ac,ad,bc,bd,cd⟩
theorem mix_lane0 (w:World) (g:Nat) (t:TypeId) (ws:LN) (x y:Nat) (hw:Bl.Words 16 ws) (hb:Blk w g t (yq ws)):
  Calls Tryz.prog 195 #[.pointer<|some ⟨g,0,none⟩,.int .i64 0,.int .i64 4,.int .i64 8,.int .i64 12,.int .u32 x,.int .u32 y] w fun e w'=>e= .returned (.tuple #[])∧Blk w' g t (yq<|Bl.mixw ws 0 4 8 12 x y)∧Only [g] w w':=
 Vx w g t ws 0 4 8 12 x y hw hb d9 d9 d9 d9 d9 d9 d9 d9 d9 d9
theorem mix_lane1 (w:World) (g:Nat) (t:TypeId) (ws:LN) (x y:Nat) (hw:Bl.Words 16 ws) (hb:Blk w g t (yq ws)):
  Calls Tryz.prog 195 #[.pointer<|some ⟨g,0,none⟩,.int .i64 1,.int .i64 5,.int .i64 9,.int .i64 13,.int .u32 x,.int .u32 y] w fun e w'=>e= .returned (.tuple #[])∧Blk w' g t (yq<|Bl.mixw ws 1 5 9 13 x y)∧Only [g] w w':=
 Vx w g t ws 1 5 9 13 x y hw hb d9 d9 d9 d9 d9 d9 d9 d9 d9 d9
theorem mix_lane2 (w:World) (g:Nat) (t:TypeId) (ws:LN) (x y:Nat) (hw:Bl.Words 16 ws) (hb:Blk w g t (yq ws)):
  Calls Tryz.prog 195 #[.pointer<|some ⟨g,0,none⟩,.int .i64 2,.int .i64 6,.int .i64 10,.int .i64 14,.int .u32 x,.int .u32 y] w fun e w'=>e= .returned (.tuple #[])∧Blk w' g t (yq<|Bl.mixw ws 2 6 10 14 x y)∧Only [g] w w':=
 Vx w g t ws 2 6 10 14 x y hw hb d9 d9 d9 d9 d9 d9 d9 d9 d9 d9
theorem mix_lane3 (w:World) (g:Nat) (t:TypeId) (ws:LN) (x y:Nat) (hw:Bl.Words 16 ws) (hb:Blk w g t (yq ws)):
  Calls Tryz.prog 195 #[.pointer<|some ⟨g,0,none⟩,.int .i64 3,.int .i64 7,.int .i64 11,.int .i64 15,.int .u32 x,.int .u32 y] w fun e w'=>e= .returned (.tuple #[])∧Blk w' g t (yq<|Bl.mixw ws 3 7 11 15 x y)∧Only [g] w w':=
 Vx w g t ws 3 7 11 15 x y hw hb d9 d9 d9 d9 d9 d9 d9 d9 d9 d9
theorem mix_lane4 (w:World) (g:Nat) (t:TypeId) (ws:LN) (x y:Nat) (hw:Bl.Words 16 ws) (hb:Blk w g t (yq ws)):
  Calls Tryz.prog 195 #[.pointer<|some ⟨g,0,none⟩,.int .i64 0,.int .i64 5,.int .i64 10,.int .i64 15,.int .u32 x,.int .u32 y] w fun e w'=>e= .returned (.tuple #[])∧Blk w' g t (yq<|Bl.mixw ws 0 5 10 15 x y)∧Only [g] w w':=
 Vx w g t ws 0 5 10 15 x y hw hb d9 d9 d9 d9 d9 d9 d9 d9 d9 d9
theorem mix_lane5 (w:World) (g:Nat) (t:TypeId) (ws:LN) (x y:Nat) (hw:Bl.Words 16 ws) (hb:Blk w g t (yq ws)):
  Calls Tryz.prog 195 #[.pointer<|some ⟨g,0,none⟩,.int .i64 1,.int .i64 6,.int .i64 11,.int .i64 12,.int .u32 x,.int .u32 y] w fun e w'=>e= .returned (.tuple #[])∧Blk w' g t (yq<|Bl.mixw ws 1 6 11 12 x y)∧Only [g] w w':=
 Vx w g t ws 1 6 11 12 x y hw hb d9 d9 d9 d9 d9 d9 d9 d9 d9 d9
theorem mix_lane6 (w:World) (g:Nat) (t:TypeId) (ws:LN) (x y:Nat) (hw:Bl.Words 16 ws) (hb:Blk w g t (yq ws)):
  Calls Tryz.prog 195 #[.pointer<|some ⟨g,0,none⟩,.int .i64 2,.int .i64 7,.int .i64 8,.int .i64 13,.int .u32 x,.int .u32 y] w fun e w'=>e= .returned (.tuple #[])∧Blk w' g t (yq<|Bl.mixw ws 2 7 8 13 x y)∧Only [g] w w':=
 Vx w g t ws 2 7 8 13 x y hw hb d9 d9 d9 d9 d9 d9 d9 d9 d9 d9
theorem mix_lane7 (w:World) (g:Nat) (t:TypeId) (ws:LN) (x y:Nat) (hw:Bl.Words 16 ws) (hb:Blk w g t (yq ws)):
  Calls Tryz.prog 195 #[.pointer<|some ⟨g,0,none⟩,.int .i64 3,.int .i64 4,.int .i64 9,.int .i64 14,.int .u32 x,.int .u32 y] w fun e w'=>e= .returned (.tuple #[])∧Blk w' g t (yq<|Bl.mixw ws 3 4 9 14 x y)∧Only [g] w w':=
 Vx w g t ws 3 4 9 14 x y hw hb d9 d9 d9 d9 d9 d9 d9 d9 d9 d9
def Z0 {α:Type} (n:Nat) (f z:Nat→α) (k:Nat):List α:=(List.range n).map fun i=>if i < k then f i else z i
section
variable {α:Type}{n:Nat}{f z:Nat→α}
@[simp] theorem fillTo_length (k:Nat):(Z0 n f z k).length=n:=by simp [Z0]
theorem jV {k:Nat} (_hk:k < n):(Z0 n f z k).set k (f k)=Z0 n f z (k + 1):=by
 apply Xh;intro i;simp only [List.getElem?_set,Z0,JO,List.length_range,JJ]
 by_cases h:k=i
 ·subst h;simp [_hk]
 ·by_cases hi:i < n
  ·rw [List.getElem?_range hi]
   have:(i < k + 1)↔(i < k):=by omega
   simp [h,this]
  ·rw [JM (by simpa using hi)];simp [h]
theorem zda:Z0 n f z 0=(List.range n).map z:=by simp [Z0]
theorem jX:Z0 n f z n=(List.range n).map f:=by
 simp only [Z0];apply List.map_congr_left;intro i hi;simp [List.mem_range.1 hi]
theorem jW {k i:Nat} (hi:i < n):(Z0 n f z k)[i]? =some (if i < k then f i else z i):=by
 simp [Z0,hi]
end
section
variable {P:Program}{w:World}{ops:Array Oper}{rest:List Oper}{o:Oper}{a:Act}{Q:Exit→Act→World→Prop}
theorem zft {g:Nat} {t:TypeId} {cur:List Value} (h:Blk w g t cur) (cs:List Value):Blk (w.setRow g cs.toArray) g t cs:=setRow_heap w g _ _ t _ h
theorem zcX (w:World) (g:Nat) (cs:Array Value):Only [g] w (w.setRow g cs):=
 ⟨rfl,rfl,rfl,by simp [World.setRow],fun k _ hn=>setRow_other w g k cs (fun e=>hn (by simp [e]))⟩
theorem zba (hgd:o.guard=none) (d s:Operand) (dT sT:TypeId)
  (ho:o.op= .call { callee:= .builtin .copy,args:= #[d,s],argTypes:= #[dT,sT] }) (elem:TypeId) (hu:P.underlying dT=some (.slice elem)) (hsz:(P.info? elem).map (·.size)=some 1)
  (dp sp:Option Addr) (dLen dCap sLen sCap:Nat) (hd:a.eval d= .slice dp dLen dCap) (hs:a.eval s= .slice sp sLen sCap)
  (g off:Nat) (cur:List Value) (t:TypeId) (hg:Blk w g t cur) (cs:List Value) (hn:cs.length=Nat.min sLen dLen)
  (hpos:0 < cs.length→dp=some ⟨g,off,none⟩∧∃ ad,sp=some ad∧∀ j v,cs[j]? =some v→w.cell? (ad.add j)=some v)
  (hfit:off + cs.length≤cur.length) (h1:∀ v∈cs,v.oneCell'=true)
  (h:∀ w',Blk w' g t (splice cur off cs)→Only [g] w w'→wpList P ops Q rest (a.put o.dst<|goInt cs.length) w'):
  wpList P ops Q (o :: rest) a w:=by
 by_cases h0:cs.length=0
 ·obtain rfl:cs=[]:=J2 h0;exact wpList_copy_nothing hgd d s dT sT ho elem hu hsz dp sp dLen dCap sLen sCap hd hs (by simpa using hn.symm) (h w (by simpa [splice] using hg)<|Only.refl _ _)
 ·obtain ⟨rfl,ad,rfl,hsrc⟩:=hpos o9;refine wpList_copy_own hgd d s dT sT ho elem hu hsz g off dLen dCap ad sLen sCap hd hs cur.toArray t hg cs hn hsrc (by simpa using hfit) h1 ?_
  have e:(cur.toArray.toList.take off ++ (cs ++ cur.toArray.toList.drop (off + cs.length)))=splice cur off cs:=by simp [splice]
  rw [e];exact h _ (zft hg _) (zcX _ _ _)
theorem Yk {g:Nat} {t:TypeId}:∀ (l:List Value) (o:Nat) (cur:List Value) (w:World),Blk w g t cur→o + l.length≤cur.length→Blk (w.setCells g o l) g t (cur.take o ++ (l ++ cur.drop (o + l.length)))∧Only [g] w (w.setCells g o l)
 | [],o,cur,w,h,_=>by simp [World.setCells];exact ⟨h,Only.refl _ _⟩
 | v :: l,o,cur,w,h,hl=>by
  simp only [Xm] at hl;have h1:=h.set o v;obtain ⟨h2,h3⟩:=Yk l (o + 1) (cur.set o v) _ h1 (by simp;omega);simp only [World.setCells];refine ⟨?_,((Only.refl [g] w).setCell (p:=⟨g,o,none⟩) (.inl s9) v).trans' h3⟩
  have e:(cur.set o v).take (o + 1) ++ (l ++ (cur.set o v).drop (o + 1 + l.length))=cur.take o ++ (v :: l ++ cur.drop (o + (v :: l).length)):=by
   apply Xh;intro i;simp only [List.getElem?_append,JP,List.getElem?_set,List.getElem?_drop,JE,Xl,Xm,List.getElem?_cons]
   by_cases ha:i < o
   ·rw [Jh o9,Jh o9,Jb o9,Jh o9,Jh ha]
   ·by_cases hb:i=o
    ·subst hb;rw [Jh o9,Jh o9,Jh rfl,Jh o9,Jb o9,Jh o9,Jh o9]
    ·by_cases hc:i < o + 1 + l.length
     ·rw [Jb o9,Jh o9,Jb o9,Jh o9,Jb o9];congr 1;omega
     ·rw [Jb o9,Jb o9,Jb o9,Jb o9,Jb o9];congr 1;omega
  rw [← e];exact h2
theorem Y9 (hgd:o.guard=none) (ty:TypeId) (x y:Operand) (ho:o.op= .store ty x y)
  (g:Nat) (cells:List Value) (hx:a.eval x= .pointer (some ⟨g,0,none⟩)) (hy:a.eval y= .agg cells.toArray) (t:TypeId) (cur:List Value) (hb:Blk w g t cur) (hl:cur.length=cells.length)
  (hi:(P.info? ty).map (·.size)=some cells.length) (h1:∀ v∈cells,v.oneCell'=true)
  (h:∀ w',Blk w' g t cells→Only [g] w w'→wpList P ops Q rest (a.put o.dst undef) w'):wpList P ops Q (o :: rest) a w:=by
 refine wpList_store_mid hgd ty x y ho g 0 cells.toArray hx hy ?_ (by simpa using hi) (by simpa using h1) ?_
 ·intro j hj;refine ⟨?_,hb.frozen _⟩;rw [JF,hb.cell]
  have:j < cur.length:=by simpa [hl] using hj
  simp [this]
 ·obtain ⟨h2,h3⟩:=Yk cells 0 cur w hb o9;simp only [XD,J0,JF,← hl,List.drop_length,JS] at h2;exact h _ (by simpa using h2) (by simpa using h3)
theorem qi (hgd:o.guard=none) (ty:TypeId) (x:Operand) (ho:o.op= .load ty x)
  (b off:Nat) (hx:a.eval x= .pointer (some ⟨b,off,none⟩)) (cs:List Value) (d:TypeDesc) (hu:P.underlying ty=some d) (hd:d.isRow=true)
  (hi:(P.info? ty).map (·.size)=some cs.length) (hc:∀ j,j < cs.length→w.cell? ⟨b,off + j,none⟩=cs[j]?)
  (h:wpList P ops Q rest (a.put o.dst<|.agg cs.toArray) w):wpList P ops Q (o :: rest) a w:=
 wpList_load_mid hgd ty x ho b off hx cs d (fun j _ hv=>(hc j (Jg.1 hv).1).trans hv) hu hd hi h
theorem wpl_build (hgd:o.guard=none) (t:TypeId) (parts:Array (Nat × Operand)) (ho:o.op= .build t parts) (v:Value)
  (hrun:(Instr.build t (parts.map fun (i,x)=>(i,a.eval x))).run P w= .ok v w) (h:wpList P ops Q rest (a.put o.dst v) w):wpList P ops Q (o :: rest) a w:=
 J4 hgd fun K hK=>by
  unfold Oper.wp execOp;simp only [ho,JD,hrun,Jv,JK];exact hK _ _ h
theorem KC {t e:TypeId} {n:Nat} {cs:List Value} {k:Nat} {kd:IntKind} {v:Value} (hu:P.underlying t=some (.array n e)) {d:TypeDesc} (he:P.underlying e=some d) (hd:d.isRow=false)
  (hsz:(P.info? e).map (·.size)=some 1) (hk:k < n) (hv:cs[k]? =some v) (w:World):(Instr.index t (.agg cs.toArray)<|.int kd (k:Int)).run P w= .ok v w:=by
 obtain ⟨i,hi,hs⟩:=Jy.1 hsz;have h0:(0:Int)≤(k:Int)∧(k:Int) < (n:Int):=⟨by omega,by omega⟩
 have hag:(isAgg e).run P w= .ok false w:=by
  cases d <;> simp [TypeDesc.isRow] at hd <;> simp [isAgg,Jp he]
 simp only [Instr.index,asIntOf,JD,JK,Jv,Jp hu];rw [Jh h0];simp [sizeOf,typeInfo,hi,hs,part,hag,hv]
end
def Zd (st:LN) (blk:LB) (fill before written:Int):List Value:= .bool true :: (yq st ++ (cellsOf blk ++ [.int .i64 fill,.int .u64 before,.int .i64 written]))
@[simp] theorem q9 (ws:LN):(yq ws).length=ws.length:=by simp [yq]
section
variable {st:List Nat}{blk:List UInt8}{fill before written:Int}
theorem jf (hs:st.length=8) (hb:blk.length=64):(Zd st blk fill before written).length=76:=by simp [Zd,hs,hb]
theorem KH (hs:st.length=8) {i:Nat} (hi:i < 8):(Zd st blk fill before written)[1 + i]? =some (.int .u32 (st.getD i 0:Nat)):=by
 rw [Nat.add_comm];simp only [Zd,J1];rw [JB (by simp [hs,hi])];simp [yq,hs,hi]
theorem zaz (hs:st.length=8) {i:Nat} (hi:i < 8) (n:Nat):(Zd st blk fill before written).set (1 + i) (.int .u32 (n:Int))=Zd (st.set i n) blk fill before written:=by
 rw [Nat.add_comm];simp only [Zd,List.set_cons_succ];rw [List.set_append_left _ _ (by simp [hs,hi])];rw [YQ]
theorem zaA (hs:st.length=8) (hb:blk.length=64) {j:Nat} (hj:j < 64):(Zd st blk fill before written)[9 + j]? =some (.int .u8 (blk.getD j 0).toNat):=by
 have e:9 + j=(8 + j) + 1:=by omega
 rw [e];simp only [Zd,J1];rw [JR (by simp [hs]),JB (by simp [hs,hb];omega)];simp [hs,cellsOf,hb,hj]
theorem Zi (hs:st.length=8) (hb:blk.length=64) (j:Nat):(Zd st blk fill before written)[73 + j]? =[Value.int .i64 fill,.int .u64 before,.int .i64 written][j]? :=by
 have e:73 + j=(72 + j) + 1:=by omega
 rw [e];simp only [Zd,J1];rw [JR (by simp [hs];omega),JR (by simp [hs,hb];omega)];simp only [q9,ye,hs,hb];congr 1;omega
end
structure Gl (w:World):Prop where
 ini:∀ j,j < 8→w.cell? ⟨1,j,none⟩=some (.int .u32 (Bl.iv.getD j 0:Nat))
 tab:∀ r j,r < 10→j < 16→w.cell? ⟨2,16 * r + j,none⟩=some (.int .u8 ((Bl.tab.getD r []).getD j 0:Nat))
 sz:3≤w.heap.size
theorem Gl.keep {S:LN} {w w':World} (h:Gl w) (ho:Only S w w') (h0:1∉S) (h1:2∉S):Gl w':=
  ⟨fun j hj=>(ho.cell (p:=⟨_,j,none⟩) (Ju (show 1 < 3 by decide) h.sz) h0).trans<|h.ini j hj,
   fun r j hr hj=>(ho.cell (p:=⟨_,16 * r + j,none⟩) (Ju (show 2 < 3 by decide) h.sz) h1).trans<|h.tab r j hr hj,JG h.sz ho.size⟩
theorem zcM:(Tryz.prog.info? 209).map (·.size)=some 1:=by kernel_rfl
theorem arr16size:(Tryz.prog.info? 295).map (·.size)=some 16:=by kernel_rfl
theorem zbz:(Tryz.prog.info? 283).map (·.size)=some 8:=by kernel_rfl
theorem zeA {ws:LN}:∀ u∈yq ws,u.oneCell'=true:=by
 intro u hu;obtain ⟨b,_,rfl⟩:=JI.1 hu
 rfl
theorem wget {n:Nat} {ws:LN} (h:Bl.Words n ws) {i:Nat} (hi:i < n):ws[i]? =some (ws.getD i 0):=by have:=h.1;simp [this,hi]
theorem zeK {st:LN} {n:Nat} (hs:st.length=n):(List.range n).map (fun i=>st.getD i 0)=st:=by
 apply Xh;intro i
 by_cases hi:i < n
 ·rw [JJ,List.getElem?_range hi];simp [hs,hi]
 ·rw [JM (by simpa using hi),JM o9]
theorem vset {st:LN} {f z:Nat→Nat} {k:Nat} (hs:st.length=8) (hk:k < 8):(yq<|st ++ Z0 8 f z k).set (8 + k) (.int .u32 (f k:Nat))=yq (st ++ Z0 8 f z (k + 1)):=by
 rw [YQ,Xa _ _ o9,hs,Nat.add_sub_cancel_left,jV hk]
theorem iv_get {st:LN} (hs:st.length=8) (i:Nat) (_hi:i < 8):(st ++ Bl.iv)[8 + i]? =some (Bl.ivf i):=by
 rw [JR o9,hs,Nat.add_sub_cancel_left];have:i < Bl.iv.length:=_hi;simp [Bl.ivf,this]
theorem comp_any (w:World) (gh gb ob:Nat) (tH:TypeId) (st:LN) (blk bs:LB) (fill before written:Int) (t:Nat) (last:Bool) (hst:Bl.Words 8 st) (_hblk:blk.length=64)
  (hH:Blk w gh tH (Zd st blk fill before written)) (hgl:Gl w) (_hg2:3≤gh) (_ht:t < 18446744073709551616)
  (hcell:∀ j,j < 64→w.cell? ⟨gb,ob + j,none⟩=some (.int .u8 (bs.getD j 0).toNat)) (hgb:gb < w.heap.size):
  Calls Tryz.prog 188 #[.pointer<|some ⟨gh,0,none⟩,.slice (some ⟨gb,ob,none⟩) 64 64,.int .u64 t,.bool last] w fun e w'=>
   e= .returned (.tuple #[])∧Blk w' gh tH (Zd (Bl.comp st bs t last) blk fill before written)∧Only [gh] w w':=by
 have hC:=Jm hcell;clear hcell
 go_enter Tryz.func188,Tryz.ntmps188
 go_wp2
 go_loopw [17,9,10] (fun a _ _ wr=>∃ k:Nat,k≤16∧a= .int .i64 k∧Blk wr w.heap.size 294 (yq<|Z0 16 (Bl.mw bs) (fun _=>0) k)∧Only [] w wr) (fun a _ _ _=>16 - (intOf a).toNat)
 case atStart=>exact ⟨0,by omega,rfl,Blk.new w _ _,(Only.refl [] w).alloc _⟩
 case round=>
  obtain ⟨k,hk,rfl,hB,hO⟩:=hrel
  by_cases hlt:k < 16
  ·have e4:4 * k + 4 - 4 * k=4:=by omega
   obtain ⟨b0,E0⟩:∃ n,n=(bs.getD (4 * k) 0).toNat:=⟨_,rfl⟩;obtain ⟨b1,E1⟩:∃ n,n=(bs.getD (4 * k + 1) 0).toNat:=⟨_,rfl⟩;obtain ⟨b2,E2⟩:∃ n,n=(bs.getD (4 * k + 2) 0).toNat:=⟨_,rfl⟩;obtain ⟨b3,E3⟩:∃ n,n=(bs.getD (4 * k + 3) 0).toNat:=⟨_,rfl⟩
   have l0:b0 < 256:=by rw [E0];exact J5 _
   have l1:b1 < 256:=by rw [E1];exact J5 _
   have l2:b2 < 256:=by rw [E2];exact J5 _
   have l3:b3 < 256:=by rw [E3];exact J5 _
   have c0:wr.cell? ⟨gb,ob + 4 * k,none⟩=some (.int .u8 (b0:Int)):=by
    rw [hO.cell (p:=⟨gb,ob + 4 * k,none⟩) hgb s9,E0];exact hC.out _ o9
   have c1:wr.cell? ⟨gb,ob + 4 * k + 1,none⟩=some (.int .u8 (b1:Int)):=by
    rw [hO.cell (p:=⟨gb,ob + 4 * k + 1,none⟩) hgb s9,E1];exact hC.out (4 * k + 1) o9
   have c2:wr.cell? ⟨gb,ob + 4 * k + 2,none⟩=some (.int .u8 (b2:Int)):=by
    rw [hO.cell (p:=⟨gb,ob + 4 * k + 2,none⟩) hgb s9,E2];exact hC.out (4 * k + 2) o9
   have c3:wr.cell? ⟨gb,ob + 4 * k + 3,none⟩=some (.int .u8 (b3:Int)):=by
    rw [hO.cell (p:=⟨gb,ob + 4 * k + 3,none⟩) hgb s9,E3];exact hC.out (4 * k + 3) o9
   have cm:wr.cell? ⟨w.heap.size,k,none⟩=some (.int .u32 (0:Nat)):=hB.cellv (yw (by rw [jW hlt,Jb o9]))
   have Hn:Hid (Bl.mword b0 b1 b2 b3=Bl.mw bs k):=by rw [E0,E1,E2,E3];rfl
   clear E0 E1 E2 E3;have fz:=hB.frozen k
   go_wp2
   go_still_tail 24,k9
   go_wp2
   go_roundw
   case rel=>
    refine ⟨k + 1,by omega,by go_num,?_,?_⟩
    ·rw [Bl.mword_cast l0 l1 l2 l3,Hn.out,← jV hlt,← YQ];exact (hB.set k _).drew
    ·exact (hO.setCell (p:=⟨w.heap.size,k,none⟩) (.inr<|Js _) _).drew
   case measure=>simp [intOf];omega
  ·obtain rfl:k=16:=by omega
   rw [jX] at hB;have hB1:Blk wr w.heap.size 294 (yq<|Bl.mws bs):=hB;rw [show ((16:Nat):Int)=16 from rfl];clear hB hlt hk
   go_wp2
   have hV0:=Blk.new wr 294 (yq<|List.replicate 16 0);have hO0:=hO.alloc (.cells (yq<|List.replicate 16 0).toArray 294);have hM0:=hB1.alloc (.cells (yq<|List.replicate 16 0).toArray 294);have hl:w.heap.size < wr.heap.size:=hB1.lt
   revert hV0 hO0 hM0
   simp only [yq,Xc,List.replicate_zero,JU,XC]
   generalize World.alloc _ _=W1
   generalize wr.heap.size=gv at hl ⊢
   intro hV0 hO0 hM0;have hH1:=hH.keep hO0 s9;have hgv:w.heap.size < gv:=hl;have hgw:=hH.lt;clear hB1 hO
   go_still_tail 5,k9
   refine zba I (.tmp 55) (.tmp 59) _ _ I 209 Tryz.underlying203 zcM _ _ _ _ _ _ I I gv 0 _ _ hV0.drew (yq st) (by simp [hst.1]) (fun _=>⟨I,_,I,?_⟩) (by simp [hst.1]) zeA ?_
   ·intro j v hv
    have hj:j < 8:=by have:=(Jg.1 hv).1;simpa [hst.1] using this
    rw [Xg];show W1.cell? _=_;rw [hH1.cell,KH hst.1 hj,← hv];simp [yq,hst.1,hj]
   intro W2 hV2 hO2;have hO3:Only [] w W2:=hO0.trans (Only.undrew (w:=W1) hO2) (by simp;omega);have hM2:Blk W2 w.heap.size 294 (yq<|Bl.mws bs):=hM0.keep (Only.undrew (w:=W1) hO2) (by simp;omega)
   have hVe:splice (yq<|List.replicate 16 0) 0 (yq st)=yq (st ++ Z0 8 Bl.ivf (fun _=>0) 0):=by
    simp [splice,hst.1,yq,Z0,List.replicate,List.range,List.range.loop]
   have hV3:Blk W2 gv 294 (yq<|st ++ Z0 8 Bl.ivf (fun _=>0) 0):=by rw [← hVe];simpa [yq,List.replicate] using hV2
   clear hV2 hVe hO2 hV0 hM0 hO0 hH1
   have hini:∀ j,j < (yq Bl.iv).length→W2.cell? ⟨1,0 + j,none⟩=(yq Bl.iv)[j]? :=by
    intro j hj
    have hj':j < 8:=by simpa [Bl.iv] using hj
    rw [JF,(hgl.keep hO3 s9 s9).ini j hj'];have:j < Bl.iv.length:=hj';simp [yq,this]
   have Hini:=Jm hini;clear hini
   go_wp2_with (refine qi rfl 283 _ rfl 1 0 rfl (yq Bl.iv) _ Tryz.underlying283 rfl zbz Hini.out ?_)
   clear Hini;obtain ⟨ivc,Hiv⟩:∃ c,Hid (c=(yq Bl.iv).toArray):=⟨_,rfl⟩;rw [← Hiv.out]
   go_loopw [62,12,13] (fun a _ _ wr=>∃ k:Nat,k≤8∧a= .int .i64 k∧Blk wr gv 294 (yq<|st ++ Z0 8 Bl.ivf (fun _=>0) k)∧Blk wr w.heap.size 294 (yq<|Bl.mws bs)∧Only [] w wr) (fun a _ _ _=>8 - (intOf a).toNat)
   case atStart=>exact ⟨0,by omega,rfl,hV3,hM2,hO3⟩
   case round=>
    clear hV3 hM2 hO3;obtain ⟨k,hk,rfl,hV,hM,hO⟩:=hrel
    by_cases hlt:k < 8
    ·have hidx:∀ w,(Instr.index 283 (.agg ivc)<|.int .i64 (k:Int)).run Tryz.prog w= .ok (.int .u32 (Bl.ivf k:Nat)) w:=by
      rw [Hiv.out];have hk8:k < Bl.iv.length:=hlt;exact KC Tryz.underlying283 Tryz.underlying209 I zcM hlt (yw (by simp [Bl.ivf,hk8]))
     have cv:wr.cell? ⟨gv,8 + k,none⟩=some (.int .u32 (0:Nat)):=by
      refine hV.cellv (yw ?_);rw [JR (by rw [hst.1];omega),hst.1,Nat.add_sub_cancel_left,jW hlt,Jb o9]
     have fz:=hV.frozen (8 + k)
     go_wp2
     go_roundw
     case rel=>
      refine ⟨k + 1,by omega,by go_num,?_,?_,?_⟩
      ·rw [← vset hst.1 hlt];exact hV.set (8 + k) _
      ·exact hM.far (p:=⟨gv,8 + k,none⟩) (by simp;omega) _
      ·exact hO.setCell (p:=⟨gv,8 + k,none⟩) (.inr (by simp;omega)) _
     case measure=>simp [intOf];omega
    ·obtain rfl:k=8:=by omega
     rw [jX,Bl.ivf_all] at hV;rw [show ((8:Nat):Int)=8 from rfl];clear hlt hk;have c12:wr.cell? ⟨gv,12,none⟩=some (.int .u32 (1359893119:Int)):=hV.cellv (yw<|iv_get hst.1 4 d9);have c13:wr.cell? ⟨gv,13,none⟩=some (.int .u32 (2600822924:Int)):=hV.cellv (yw<|iv_get hst.1 5 d9);have f12:=hV.frozen 12;have f13:=hV.frozen 13;obtain ⟨z12,ez12⟩:∃ n,n=1359893119 ^^^ t % 4294967296:=⟨_,rfl⟩;obtain ⟨z13,ez13⟩:∃ n,n=2600822924 ^^^ t / 4294967296 % 4294967296:=⟨_,rfl⟩
     have x12:bits .xor .u32 1359893119 ((t:Int) % 4294967296)=(z12:Int):=by
      have:=Xf 1359893119 (t % 4294967296) d9 o9;rw [ez12];simpa using this
     have x13:bits .xor .u32 2600822924 ((t:Int) / 4294967296)=(z13:Int):=by
      have:=Xf 2600822924 (t / 4294967296) d9 o9;rw [ez13,Nat.mod_eq_of_lt o9];simpa using this
     have Hz12:=Jm ez12;have Hz13:=Jm ez13;clear ez12 ez13
     go_upto_if 84 with (fail)
     have hV5:Blk ((wr.setCell ⟨gv,12,none⟩<|.int .u32 (z12:Int)).setCell ⟨gv,13,none⟩<|.int .u32 (z13:Int)) gv 294 (yq<|((st ++ Bl.iv).set 12 z12).set 13 z13):=by
      rw [← YQ,← YQ];exact (hV.set 12 _).set 13 _
     have hM5:=(hM.far (p:=⟨gv,12,none⟩) (by simp;omega)<|.int .u32 (z12:Int)).far (p:=⟨gv,13,none⟩) (by simp;omega) (.int .u32 (z13:Int));have hO5:=(hO.setCell (p:=⟨gv,12,none⟩) (.inr (by simp;omega))<|.int .u32 (z12:Int)).setCell (p:=⟨gv,13,none⟩) (.inr (by simp;omega)) (.int .u32 (z13:Int));clear c12 c13 f12 f13 x12 x13 hV hM hO
     revert hV5 hM5 hO5
     generalize World.setCell (World.setCell _ _ _) _ _=W3
     intro hV5 hM5 hO5
     go_cut [] (fun wx=>Blk wx gv 294 (yq<|Bl.vinit st t last)∧Blk wx w.heap.size 294 (yq<|Bl.mws bs)∧Only [] w wx)
     case first=>
      cases last
      ·go_wp2
       go_meet
       have e:Bl.vinit st t false=((st ++ Bl.iv).set 12 z12).set 13 z13:=by rw [Hz12.out,Hz13.out];rfl
       exact ⟨by rw [e];exact hV5,hM5,hO5⟩
      ·have c14:W3.cell? ⟨gv,14,none⟩=some (.int .u32 (528734635:Int)):=by
        refine hV5.cellv (yw ?_);rw [List.getElem?_set_ne d9,List.getElem?_set_ne d9];exact iv_get hst.1 6 d9
       have f14:=hV5.frozen 14
       have x14:bits .xor .u32 528734635 4294967295=((528734635 ^^^ 4294967295:Nat):Int):=by decide +kernel
       go_wp2
       go_meet
       have e:Bl.vinit st t true=(((st ++ Bl.iv).set 12 z12).set 13 z13).set 14 (528734635 ^^^ 4294967295):=by rw [Hz12.out,Hz13.out];rfl
       refine ⟨?_,hM5.far (p:=⟨gv,14,none⟩) (by simp;omega) _,hO5.setCell (p:=⟨gv,14,none⟩) (.inr (by simp;omega)) _⟩;rw [e,← YQ];exact hV5.set 14 _
     case rest=>
      clear hV5 hM5 hO5 Hz12 Hz13;obtain ⟨hV6,hM6,hO6⟩:=hcut
      go_wp2
      go_loopw [89,14,15] (fun a _ _ wr=>∃ k:Nat,k≤10∧a= .int .i64 k∧Blk wr gv 294 (yq<|Bl.rounds (Bl.mws bs) k<|Bl.vinit st t last)∧Blk wr w.heap.size 294 (yq<|Bl.mws bs)∧Only [] w wr) (fun a _ _ _=>10 - (intOf a).toNat)
      case atStart=>exact ⟨0,by omega,rfl,hV6,hM6,hO6⟩
      case round=>
       clear hV6 hM6 hO6;obtain ⟨k,hk,rfl,hV,hM,hO⟩:=hrel
       by_cases hlt:k < 10
       ·have hrow:∀ j,j < ((Bl.tab.getD k []).map fun (n:Nat)=>Value.int .u8 (n:Int)).length→wr.cell? ⟨2,k * 16 + j,none⟩=((Bl.tab.getD k []).map fun (n:Nat)=>Value.int .u8 (n:Int))[j]? :=by
         intro j hj
         have hj':j < 16:=by rw [JO,Bl.tab_len k hlt] at hj;exact hj
         have hj2:j < (Bl.tab.getD k []).length:=by rw [Bl.tab_len k hlt];exact hj'
         rw [Nat.mul_comm,(hgl.keep hO s9 s9).tab k j hlt hj',JJ,Je hj2,Jr,Je hj2]
         rfl
        obtain ⟨row,Hrow⟩:∃ r,Hid (r=Bl.tab.getD k []):=⟨_,rfl⟩;rw [← Hrow.out] at hrow
        have rl:∀ j,row.getD j 0 < 16:=by rw [Hrow.out];exact Bl.tab_lt k hlt
        have rlen:row.length=16:=by rw [Hrow.out];exact Bl.tab_len k hlt
        have hrs:(Tryz.prog.info? 295).map (·.size)=some (row.map fun (n:Nat)=>Value.int .u8 (n:Int)).length:=by rw [JO,rlen];exact arr16size
        have Rl:=Jm rl;have Rlen:=Jm rlen;have Rs:=Jm hrs;have Rw:=Jm hrow;clear rl rlen hrs hrow
        go_wp2_with (first | (refine qi rfl 295 _ rfl 2 (k * 16) rfl (row.map fun (n:Nat)=>Value.int .u8 (n:Int)) _ Tryz.underlying295 rfl Rs.out Rw.out ?_) | (refine Y9 rfl 295 _ _ rfl wr.heap.size (row.map fun (n:Nat)=>Value.int .u8 (n:Int)) rfl rfl 295 [.int .u8 0,.int .u8 0,.int .u8 0,.int .u8 0,.int .u8 0,.int .u8 0,.int .u8 0,.int .u8 0,.int .u8 0,.int .u8 0,.int .u8 0,.int .u8 0,.int .u8 0,.int .u8 0,.int .u8 0,.int .u8 0] (Blk.new wr _ _) (by rw [JO,Rlen.out];rfl) Rs.out ?h1 ?_;case h1=>(intro v hv;obtain ⟨b,_,rfl⟩:=JI.1 hv;rfl));intro V0 hR0 hO0)
        go_frame
        have hV0:Blk V0 gv 294 (yq<|Bl.rounds (Bl.mws bs) k<|Bl.vinit st t last):=(hV.alloc _).keep hO0 (by have:=hV.lt;simp;omega);have hM0:Blk V0 w.heap.size 294 (yq<|Bl.mws bs):=(hM.alloc _).keep hO0 (by have:=hM.lt;simp;omega);have hP0:Only [] w V0:=(hO.alloc _).trans hO0 (by have:=hO.size;simp;omega);have hvr:gv < wr.heap.size:=hV.lt;have hw0:=Bl.rounds_words (m:=Bl.mws bs) (Bl.vinit_words (t:=t) (last:=last) hst) k
        revert hR0 hvr
        clear hO0
        generalize wr.heap.size=gr
        intro hR0 hvr;obtain ⟨vs0,Hv0⟩:∃ v,Hid (v=Bl.rounds (Bl.mws bs) k (Bl.vinit st t last)):=⟨_,rfl⟩;rw [← Hv0.out] at hV0 hw0;clear hV hM hO;have hmw:=Bl.mws_words bs;obtain ⟨p0,Hp0⟩:∃ n,Hid (n=row.getD 0 0):=⟨_,rfl⟩;obtain ⟨q0,Hq0⟩:∃ n,Hid (n=row.getD 1 0):=⟨_,rfl⟩;obtain ⟨x0,Hx0⟩:∃ n,Hid (n=(Bl.mws bs).getD p0 0):=⟨_,rfl⟩;obtain ⟨y0,Hy0⟩:∃ n,Hid (n=(Bl.mws bs).getD q0 0):=⟨_,rfl⟩
        have lp:p0 < 16:=by rw [Hp0.out];exact Rl.out _
        have lq:q0 < 16:=by rw [Hq0.out];exact Rl.out _
        have lp':(p0:Int) < 16:=by omega
        have lq':(q0:Int) < 16:=by omega
        have cp:V0.cell? ⟨gr,0,none⟩=some (.int .u8 (p0:Int)):=hR0.cellv (by have:=Rlen.out;rw [Hp0.out];simp [this]);have cq:V0.cell? ⟨gr,1,none⟩=some (.int .u8 (q0:Int)):=hR0.cellv (by have:=Rlen.out;rw [Hq0.out];simp [this]);have cx:V0.cell? ⟨w.heap.size,p0,none⟩=some (.int .u32 (x0:Int)):=hM0.cellv (yw (by have:=hmw.1;rw [Hx0.out];simp [this,lp]));have cy:V0.cell? ⟨w.heap.size,q0,none⟩=some (.int .u32 (y0:Int)):=hM0.cellv (yw (by have:=hmw.1;rw [Hy0.out];simp [this,lq]))
        go_still_tail 8,k9
        clear cp cq cx cy
        go_wp2_with (go_at_call 195;refine (mix_lane0 _ gv 294 vs0 x0 y0 hw0 hV0.drew).mono ?_;rintro e V1 ⟨rfl,hV1,hO1⟩)
        obtain ⟨vs1,Hv1⟩:∃ v,Hid (v=Bl.mixw vs0 0 4 8 12 x0 y0):=⟨_,rfl⟩
        have hw1:Bl.Words 16 vs1:=by rw [Hv1.out];exact Bl.mixw_words hw0 _ _ _ _ _ _
        rw [← Hv1.out] at hV1;have hP1:Only [] w V1:=hP0.trans (Only.undrew (w:=V0) hO1) (by simp;omega);have hM1:Blk V1 w.heap.size 294 (yq<|Bl.mws bs):=hM0.keep (Only.undrew (w:=V0) hO1) (by simp;omega);have hR1:=hR0.keep (Only.undrew (w:=V0) hO1) (by simp;omega);clear hO1 hP0 hM0 hR0 hV0 hw0 lp lq lp' lq';obtain ⟨p1,Hp1⟩:∃ n,Hid (n=row.getD 2 0):=⟨_,rfl⟩;obtain ⟨q1,Hq1⟩:∃ n,Hid (n=row.getD 3 0):=⟨_,rfl⟩;obtain ⟨x1,Hx1⟩:∃ n,Hid (n=(Bl.mws bs).getD p1 0):=⟨_,rfl⟩;obtain ⟨y1,Hy1⟩:∃ n,Hid (n=(Bl.mws bs).getD q1 0):=⟨_,rfl⟩
        have lp:p1 < 16:=by rw [Hp1.out];exact Rl.out _
        have lq:q1 < 16:=by rw [Hq1.out];exact Rl.out _
        have lp':(p1:Int) < 16:=by omega
        have lq':(q1:Int) < 16:=by omega
        have cp:V1.cell? ⟨gr,2,none⟩=some (.int .u8 (p1:Int)):=hR1.cellv (by have:=Rlen.out;rw [Hp1.out];simp [this]);have cq:V1.cell? ⟨gr,3,none⟩=some (.int .u8 (q1:Int)):=hR1.cellv (by have:=Rlen.out;rw [Hq1.out];simp [this]);have cx:V1.cell? ⟨w.heap.size,p1,none⟩=some (.int .u32 (x1:Int)):=hM1.cellv (yw (by have:=hmw.1;rw [Hx1.out];simp [this,lp]));have cy:V1.cell? ⟨w.heap.size,q1,none⟩=some (.int .u32 (y1:Int)):=hM1.cellv (yw (by have:=hmw.1;rw [Hy1.out];simp [this,lq]))
        go_still_tail 8,k9
        clear cp cq cx cy
        go_wp2_with (go_at_call 195;refine (mix_lane1 _ gv 294 vs1 x1 y1 hw1 hV1.drew).mono ?_;rintro e V2 ⟨rfl,hV2,hO2⟩)
        obtain ⟨vs2,Hv2⟩:∃ v,Hid (v=Bl.mixw vs1 1 5 9 13 x1 y1):=⟨_,rfl⟩
        have hw2:Bl.Words 16 vs2:=by rw [Hv2.out];exact Bl.mixw_words hw1 _ _ _ _ _ _
        rw [← Hv2.out] at hV2;have hP2:Only [] w V2:=hP1.trans (Only.undrew (w:=V1) hO2) (by simp;omega);have hM2:Blk V2 w.heap.size 294 (yq<|Bl.mws bs):=hM1.keep (Only.undrew (w:=V1) hO2) (by simp;omega);have hR2:=hR1.keep (Only.undrew (w:=V1) hO2) (by simp;omega);clear hO2 hP1 hM1 hR1 hV1 hw1 lp lq lp' lq';obtain ⟨p2,Hp2⟩:∃ n,Hid (n=row.getD 4 0):=⟨_,rfl⟩;obtain ⟨q2,Hq2⟩:∃ n,Hid (n=row.getD 5 0):=⟨_,rfl⟩;obtain ⟨x2,Hx2⟩:∃ n,Hid (n=(Bl.mws bs).getD p2 0):=⟨_,rfl⟩;obtain ⟨y2,Hy2⟩:∃ n,Hid (n=(Bl.mws bs).getD q2 0):=⟨_,rfl⟩
        have lp:p2 < 16:=by rw [Hp2.out];exact Rl.out _
        have lq:q2 < 16:=by rw [Hq2.out];exact Rl.out _
        have lp':(p2:Int) < 16:=by omega
        have lq':(q2:Int) < 16:=by omega
        have cp:V2.cell? ⟨gr,4,none⟩=some (.int .u8 (p2:Int)):=hR2.cellv (by have:=Rlen.out;rw [Hp2.out];simp [this]);have cq:V2.cell? ⟨gr,5,none⟩=some (.int .u8 (q2:Int)):=hR2.cellv (by have:=Rlen.out;rw [Hq2.out];simp [this]);have cx:V2.cell? ⟨w.heap.size,p2,none⟩=some (.int .u32 (x2:Int)):=hM2.cellv (yw (by have:=hmw.1;rw [Hx2.out];simp [this,lp]));have cy:V2.cell? ⟨w.heap.size,q2,none⟩=some (.int .u32 (y2:Int)):=hM2.cellv (yw (by have:=hmw.1;rw [Hy2.out];simp [this,lq]))
        go_still_tail 8,k9
        clear cp cq cx cy
        go_wp2_with (go_at_call 195;refine (mix_lane2 _ gv 294 vs2 x2 y2 hw2 hV2.drew).mono ?_;rintro e V3 ⟨rfl,hV3,hO3⟩)
        obtain ⟨vs3,Hv3⟩:∃ v,Hid (v=Bl.mixw vs2 2 6 10 14 x2 y2):=⟨_,rfl⟩
        have hw3:Bl.Words 16 vs3:=by rw [Hv3.out];exact Bl.mixw_words hw2 _ _ _ _ _ _
        rw [← Hv3.out] at hV3;have hP3:Only [] w V3:=hP2.trans (Only.undrew (w:=V2) hO3) (by simp;omega);have hM3:Blk V3 w.heap.size 294 (yq<|Bl.mws bs):=hM2.keep (Only.undrew (w:=V2) hO3) (by simp;omega);have hR3:=hR2.keep (Only.undrew (w:=V2) hO3) (by simp;omega);clear hO3 hP2 hM2 hR2 hV2 hw2 lp lq lp' lq';obtain ⟨p3,Hp3⟩:∃ n,Hid (n=row.getD 6 0):=⟨_,rfl⟩;obtain ⟨q3,Hq3⟩:∃ n,Hid (n=row.getD 7 0):=⟨_,rfl⟩;obtain ⟨x3,Hx3⟩:∃ n,Hid (n=(Bl.mws bs).getD p3 0):=⟨_,rfl⟩;obtain ⟨y3,Hy3⟩:∃ n,Hid (n=(Bl.mws bs).getD q3 0):=⟨_,rfl⟩
        have lp:p3 < 16:=by rw [Hp3.out];exact Rl.out _
        have lq:q3 < 16:=by rw [Hq3.out];exact Rl.out _
        have lp':(p3:Int) < 16:=by omega
        have lq':(q3:Int) < 16:=by omega
        have cp:V3.cell? ⟨gr,6,none⟩=some (.int .u8 (p3:Int)):=hR3.cellv (by have:=Rlen.out;rw [Hp3.out];simp [this]);have cq:V3.cell? ⟨gr,7,none⟩=some (.int .u8 (q3:Int)):=hR3.cellv (by have:=Rlen.out;rw [Hq3.out];simp [this]);have cx:V3.cell? ⟨w.heap.size,p3,none⟩=some (.int .u32 (x3:Int)):=hM3.cellv (yw (by have:=hmw.1;rw [Hx3.out];simp [this,lp]));have cy:V3.cell? ⟨w.heap.size,q3,none⟩=some (.int .u32 (y3:Int)):=hM3.cellv (yw (by have:=hmw.1;rw [Hy3.out];simp [this,lq]))
        go_still_tail 8,k9
        clear cp cq cx cy
        go_wp2_with (go_at_call 195;refine (mix_lane3 _ gv 294 vs3 x3 y3 hw3 hV3.drew).mono ?_;rintro e V4 ⟨rfl,hV4,hO4⟩)
        obtain ⟨vs4,Hv4⟩:∃ v,Hid (v=Bl.mixw vs3 3 7 11 15 x3 y3):=⟨_,rfl⟩
        have hw4:Bl.Words 16 vs4:=by rw [Hv4.out];exact Bl.mixw_words hw3 _ _ _ _ _ _
        rw [← Hv4.out] at hV4;have hP4:Only [] w V4:=hP3.trans (Only.undrew (w:=V3) hO4) (by simp;omega);have hM4:Blk V4 w.heap.size 294 (yq<|Bl.mws bs):=hM3.keep (Only.undrew (w:=V3) hO4) (by simp;omega);have hR4:=hR3.keep (Only.undrew (w:=V3) hO4) (by simp;omega);clear hO4 hP3 hM3 hR3 hV3 hw3 lp lq lp' lq';obtain ⟨p4,Hp4⟩:∃ n,Hid (n=row.getD 8 0):=⟨_,rfl⟩;obtain ⟨q4,Hq4⟩:∃ n,Hid (n=row.getD 9 0):=⟨_,rfl⟩;obtain ⟨x4,Hx4⟩:∃ n,Hid (n=(Bl.mws bs).getD p4 0):=⟨_,rfl⟩;obtain ⟨y4,Hy4⟩:∃ n,Hid (n=(Bl.mws bs).getD q4 0):=⟨_,rfl⟩
        have lp:p4 < 16:=by rw [Hp4.out];exact Rl.out _
        have lq:q4 < 16:=by rw [Hq4.out];exact Rl.out _
        have lp':(p4:Int) < 16:=by omega
        have lq':(q4:Int) < 16:=by omega
        have cp:V4.cell? ⟨gr,8,none⟩=some (.int .u8 (p4:Int)):=hR4.cellv (by have:=Rlen.out;rw [Hp4.out];simp [this]);have cq:V4.cell? ⟨gr,9,none⟩=some (.int .u8 (q4:Int)):=hR4.cellv (by have:=Rlen.out;rw [Hq4.out];simp [this]);have cx:V4.cell? ⟨w.heap.size,p4,none⟩=some (.int .u32 (x4:Int)):=hM4.cellv (yw (by have:=hmw.1;rw [Hx4.out];simp [this,lp]));have cy:V4.cell? ⟨w.heap.size,q4,none⟩=some (.int .u32 (y4:Int)):=hM4.cellv (yw (by have:=hmw.1;rw [Hy4.out];simp [this,lq]))
        go_still_tail 8,k9
        clear cp cq cx cy
        go_wp2_with (go_at_call 195;refine (mix_lane4 _ gv 294 vs4 x4 y4 hw4 hV4.drew).mono ?_;rintro e V5 ⟨rfl,hV5,hO5⟩)
        obtain ⟨vs5,Hv5⟩:∃ v,Hid (v=Bl.mixw vs4 0 5 10 15 x4 y4):=⟨_,rfl⟩
        have hw5:Bl.Words 16 vs5:=by rw [Hv5.out];exact Bl.mixw_words hw4 _ _ _ _ _ _
        rw [← Hv5.out] at hV5;have hP5:Only [] w V5:=hP4.trans (Only.undrew (w:=V4) hO5) (by simp;omega);have hM5:Blk V5 w.heap.size 294 (yq<|Bl.mws bs):=hM4.keep (Only.undrew (w:=V4) hO5) (by simp;omega);have hR5:=hR4.keep (Only.undrew (w:=V4) hO5) (by simp;omega);clear hO5 hP4 hM4 hR4 hV4 hw4 lp lq lp' lq';obtain ⟨p5,Hp5⟩:∃ n,Hid (n=row.getD 10 0):=⟨_,rfl⟩;obtain ⟨q5,Hq5⟩:∃ n,Hid (n=row.getD 11 0):=⟨_,rfl⟩;obtain ⟨x5,Hx5⟩:∃ n,Hid (n=(Bl.mws bs).getD p5 0):=⟨_,rfl⟩;obtain ⟨y5,Hy5⟩:∃ n,Hid (n=(Bl.mws bs).getD q5 0):=⟨_,rfl⟩
        have lp:p5 < 16:=by rw [Hp5.out];exact Rl.out _
        have lq:q5 < 16:=by rw [Hq5.out];exact Rl.out _
        have lp':(p5:Int) < 16:=by omega
        have lq':(q5:Int) < 16:=by omega
        have cp:V5.cell? ⟨gr,10,none⟩=some (.int .u8 (p5:Int)):=hR5.cellv (by have:=Rlen.out;rw [Hp5.out];simp [this]);have cq:V5.cell? ⟨gr,11,none⟩=some (.int .u8 (q5:Int)):=hR5.cellv (by have:=Rlen.out;rw [Hq5.out];simp [this]);have cx:V5.cell? ⟨w.heap.size,p5,none⟩=some (.int .u32 (x5:Int)):=hM5.cellv (yw (by have:=hmw.1;rw [Hx5.out];simp [this,lp]));have cy:V5.cell? ⟨w.heap.size,q5,none⟩=some (.int .u32 (y5:Int)):=hM5.cellv (yw (by have:=hmw.1;rw [Hy5.out];simp [this,lq]))
        go_still_tail 8,k9
        clear cp cq cx cy
        go_wp2_with (go_at_call 195;refine (mix_lane5 _ gv 294 vs5 x5 y5 hw5 hV5.drew).mono ?_;rintro e V6 ⟨rfl,hV6,hO6⟩)
        obtain ⟨vs6,Hv6⟩:∃ v,Hid (v=Bl.mixw vs5 1 6 11 12 x5 y5):=⟨_,rfl⟩
        have hw6:Bl.Words 16 vs6:=by rw [Hv6.out];exact Bl.mixw_words hw5 _ _ _ _ _ _
        rw [← Hv6.out] at hV6;have hP6:Only [] w V6:=hP5.trans (Only.undrew (w:=V5) hO6) (by simp;omega);have hM6:Blk V6 w.heap.size 294 (yq<|Bl.mws bs):=hM5.keep (Only.undrew (w:=V5) hO6) (by simp;omega);have hR6:=hR5.keep (Only.undrew (w:=V5) hO6) (by simp;omega);clear hO6 hP5 hM5 hR5 hV5 hw5 lp lq lp' lq';obtain ⟨p6,Hp6⟩:∃ n,Hid (n=row.getD 12 0):=⟨_,rfl⟩;obtain ⟨q6,Hq6⟩:∃ n,Hid (n=row.getD 13 0):=⟨_,rfl⟩;obtain ⟨x6,Hx6⟩:∃ n,Hid (n=(Bl.mws bs).getD p6 0):=⟨_,rfl⟩;obtain ⟨y6,Hy6⟩:∃ n,Hid (n=(Bl.mws bs).getD q6 0):=⟨_,rfl⟩
        have lp:p6 < 16:=by rw [Hp6.out];exact Rl.out _
        have lq:q6 < 16:=by rw [Hq6.out];exact Rl.out _
        have lp':(p6:Int) < 16:=by omega
        have lq':(q6:Int) < 16:=by omega
        have cp:V6.cell? ⟨gr,12,none⟩=some (.int .u8 (p6:Int)):=hR6.cellv (by have:=Rlen.out;rw [Hp6.out];simp [this]);have cq:V6.cell? ⟨gr,13,none⟩=some (.int .u8 (q6:Int)):=hR6.cellv (by have:=Rlen.out;rw [Hq6.out];simp [this]);have cx:V6.cell? ⟨w.heap.size,p6,none⟩=some (.int .u32 (x6:Int)):=hM6.cellv (yw (by have:=hmw.1;rw [Hx6.out];simp [this,lp]));have cy:V6.cell? ⟨w.heap.size,q6,none⟩=some (.int .u32 (y6:Int)):=hM6.cellv (yw (by have:=hmw.1;rw [Hy6.out];simp [this,lq]))
        go_still_tail 8,k9
        clear cp cq cx cy
        go_wp2_with (go_at_call 195;refine (mix_lane6 _ gv 294 vs6 x6 y6 hw6 hV6.drew).mono ?_;rintro e V7 ⟨rfl,hV7,hO7⟩)
        obtain ⟨vs7,Hv7⟩:∃ v,Hid (v=Bl.mixw vs6 2 7 8 13 x6 y6):=⟨_,rfl⟩
        have hw7:Bl.Words 16 vs7:=by rw [Hv7.out];exact Bl.mixw_words hw6 _ _ _ _ _ _
        rw [← Hv7.out] at hV7;have hP7:Only [] w V7:=hP6.trans (Only.undrew (w:=V6) hO7) (by simp;omega);have hM7:Blk V7 w.heap.size 294 (yq<|Bl.mws bs):=hM6.keep (Only.undrew (w:=V6) hO7) (by simp;omega);have hR7:=hR6.keep (Only.undrew (w:=V6) hO7) (by simp;omega);clear hO7 hP6 hM6 hR6 hV6 hw6 lp lq lp' lq';obtain ⟨p7,Hp7⟩:∃ n,Hid (n=row.getD 14 0):=⟨_,rfl⟩;obtain ⟨q7,Hq7⟩:∃ n,Hid (n=row.getD 15 0):=⟨_,rfl⟩;obtain ⟨x7,Hx7⟩:∃ n,Hid (n=(Bl.mws bs).getD p7 0):=⟨_,rfl⟩;obtain ⟨y7,Hy7⟩:∃ n,Hid (n=(Bl.mws bs).getD q7 0):=⟨_,rfl⟩
        have lp:p7 < 16:=by rw [Hp7.out];exact Rl.out _
        have lq:q7 < 16:=by rw [Hq7.out];exact Rl.out _
        have lp':(p7:Int) < 16:=by omega
        have lq':(q7:Int) < 16:=by omega
        have cp:V7.cell? ⟨gr,14,none⟩=some (.int .u8 (p7:Int)):=hR7.cellv (by have:=Rlen.out;rw [Hp7.out];simp [this]);have cq:V7.cell? ⟨gr,15,none⟩=some (.int .u8 (q7:Int)):=hR7.cellv (by have:=Rlen.out;rw [Hq7.out];simp [this]);have cx:V7.cell? ⟨w.heap.size,p7,none⟩=some (.int .u32 (x7:Int)):=hM7.cellv (yw (by have:=hmw.1;rw [Hx7.out];simp [this,lp]));have cy:V7.cell? ⟨w.heap.size,q7,none⟩=some (.int .u32 (y7:Int)):=hM7.cellv (yw (by have:=hmw.1;rw [Hy7.out];simp [this,lq]))
        go_still_tail 8,k9
        clear cp cq cx cy
        go_wp2_with (go_at_call 195;refine (mix_lane7 _ gv 294 vs7 x7 y7 hw7 hV7.drew).mono ?_;rintro e V8 ⟨rfl,hV8,hO8⟩)
        obtain ⟨vs8,Hv8⟩:∃ v,Hid (v=Bl.mixw vs7 3 4 9 14 x7 y7):=⟨_,rfl⟩
        have hw8:Bl.Words 16 vs8:=by rw [Hv8.out];exact Bl.mixw_words hw7 _ _ _ _ _ _
        rw [← Hv8.out] at hV8;have hP8:Only [] w V8:=hP7.trans (Only.undrew (w:=V7) hO8) (by simp;omega);have hM8:Blk V8 w.heap.size 294 (yq<|Bl.mws bs):=hM7.keep (Only.undrew (w:=V7) hO8) (by simp;omega);have hR8:=hR7.keep (Only.undrew (w:=V7) hO8) (by simp;omega);clear hO8 hP7 hM7 hR7 hV7 hw7 lp lq lp' lq'
        go_roundw
        case rel=>
         refine ⟨k + 1,by omega,by go_num,?_,hM8,hP8⟩
         have e:Bl.rounds (Bl.mws bs) (k + 1) (Bl.vinit st t last)=vs8:=by
          rw [Hv8.out,Hv7.out,Hv6.out,Hv5.out,Hv4.out,Hv3.out,Hv2.out,Hv1.out,Hv0.out];rw [Hx0.out,Hy0.out,Hp0.out,Hq0.out,Hx1.out,Hy1.out,Hp1.out,Hq1.out,Hx2.out,Hy2.out,Hp2.out,Hq2.out,Hx3.out,Hy3.out,Hp3.out,Hq3.out,Hx4.out,Hy4.out,Hp4.out,Hq4.out,Hx5.out,Hy5.out,Hp5.out,Hq5.out,Hx6.out,Hy6.out,Hp6.out,Hq6.out,Hx7.out,Hy7.out,Hp7.out,Hq7.out,Hrow.out]
          rfl
         rw [e];exact hV8
        case measure=>simp [intOf];omega
       ·obtain rfl:k=10:=by omega
        rw [show ((10:Nat):Int)=10 from rfl];clear hlt hk;have hvw:=Bl.rounds_words (m:=Bl.mws bs) (Bl.vinit_words (t:=t) (last:=last) hst) 10;have hcomp:Bl.comp st bs t last=(List.range 8).map fun i=>st.getD i 0 ^^^ ((Bl.rounds (Bl.mws bs) 10<|Bl.vinit st t last).getD i 0 ^^^ (Bl.rounds (Bl.mws bs) 10<|Bl.vinit st t last).getD (i + 8) 0):=rfl;obtain ⟨vf,Hvf⟩:∃ v,Hid (v=Bl.rounds (Bl.mws bs) 10 (Bl.vinit st t last)):=⟨_,rfl⟩;rw [← Hvf.out] at hV hvw hcomp;have Hcomp:=Jm hcomp;clear hcomp hM;have hH9:=hH.keep hO s9
        go_wp2
        go_loopw [168,16] (fun a _ wr=>∃ k:Nat,k≤8∧a= .int .i64 k∧Blk wr gv 294 (yq vf)∧Blk wr gh tH (Zd (Z0 8 (fun i=>st.getD i 0 ^^^ (vf.getD i 0 ^^^ vf.getD (i + 8) 0)) (fun i=>st.getD i 0) k) blk fill before written)∧Only [gh] w wr) (fun a _ _=>8 - (intOf a).toNat)
        case atStart=>
         refine ⟨0,by omega,rfl,hV,?_,hO.mono s9⟩;rw [zda,zeK hst.1];exact hH9
        case round=>
         clear hV hH9 hO;obtain ⟨k,hk,rfl,hV,hH9,hO⟩:=hrel
         by_cases hlt:k < 8
         ·obtain ⟨sv,Hs⟩:∃ n,Hid (n=st.getD k 0):=⟨_,rfl⟩;obtain ⟨v1,Hv1⟩:∃ n,Hid (n=vf.getD k 0):=⟨_,rfl⟩;obtain ⟨v2,Hv2⟩:∃ n,Hid (n=vf.getD (k + 8) 0):=⟨_,rfl⟩
          have ls:sv < 4294967296:=by rw [Hs.out];exact hst.getD _
          have lv1:v1 < 4294967296:=by rw [Hv1.out];exact hvw.getD _
          have lv2:v2 < 4294967296:=by rw [Hv2.out];exact hvw.getD _
          obtain ⟨z,Hz⟩:∃ n,Hid (n=v1 ^^^ v2):=⟨_,rfl⟩;obtain ⟨z',Hz'⟩:∃ n,Hid (n=sv ^^^ z):=⟨_,rfl⟩
          have xz:bits .xor .u32 (v1:Int) (v2:Int)=(z:Int):=by rw [Hz.out];exact Xf _ _ lv1 lv2
          have xz':bits .xor .u32 (sv:Int) (z:Int)=(z':Int):=by rw [Hz'.out];exact Xf _ _ ls (by rw [Hz.out];exact Bl.xor_lt _ _ lv1 lv2)
          have cs:wr.cell? ⟨gh,1 + k,none⟩=some (.int .u32 (sv:Int)):=hH9.cellv (by
           rw [KH s9 hlt,Jr,jW hlt,Jb o9,Hs.out];rfl)
          have c1:wr.cell? ⟨gv,k,none⟩=some (.int .u32 (v1:Int)):=hV.cellv (yw (by rw [Hv1.out];exact wget hvw o9));have c2:wr.cell? ⟨gv,k + 8,none⟩=some (.int .u32 (v2:Int)):=hV.cellv (yw (by rw [Hv2.out];exact wget hvw o9));have fz:=hH9.frozen (1 + k)
          have i1:(k:Int) < 16:=by omega
          have i2:(k:Int) + 8 < 16:=by omega
          have i3:0≤(k:Int) + 8:=by omega
          have i4:(k:Int) < 8:=by omega
          have w1:IntKind.i64.wrap ((k:Int) + 8)=(k:Int) + 8:=IntWalk.i64_in _ o9
          have t1:((k:Int) + 8).toNat=k + 8:=by omega
          go_wp2
          go_still_tail 18,k9
          go_wp2
          go_roundw
          case rel=>
           refine ⟨k + 1,by omega,by go_num,(hV.far (p:=⟨gh,1 + k,none⟩) (by simp;omega) _).drew,?_,(hO.setCell (p:=⟨gh,1 + k,none⟩) (.inl s9) _).drew⟩
           have e:(z':Int)=((st.getD k 0 ^^^ (vf.getD k 0 ^^^ vf.getD (k + 8) 0):Nat):Int):=by rw [Hz'.out,Hz.out,Hs.out,Hv1.out,Hv2.out]
           rw [e,← jV hlt,← zaz s9 hlt];exact (hH9.set (1 + k) _).drew
          case measure=>simp [intOf];omega
         ·obtain rfl:k=8:=by omega
          rw [jX,← Hcomp.out] at hH9
          go_wp2
          go_end0
          exact ⟨I,hH9,hO⟩
end Go.Proofs.YtfoafihodanmhaaGreatDoor
namespace Go.Proofs.YtfoafihodanmhaaGreatDoor
namespace Bl
def st0 (n:Nat):LN:=iv.set 0 (1779033703 ^^^ (16842784 + n * 256))
theorem st0_words {n:Nat} (h:n≤32):Words 8 (st0 n):=iv_words.set 0 (xor_lt _ _ d9 o9)
def stq (n:Nat) (M:LB):Nat→LN
 | 0=>st0 n
 | q + 1=>comp (stq n M q) (M.drop<|64 * q) (64 * (q + 1)) false
theorem stq_words {n:Nat} {M:LB} (h:n≤32):∀ q,Words 8 (stq n M q)
 | 0=>st0_words h
 | q + 1=>comp_words (stq_words h q)
theorem mws_congr {a b:LB} (h:∀ j,j < 64→a.getD j 0=b.getD j 0):mws a=mws b:=by
 unfold mws;apply List.map_congr_left;intro i hi;have hi:=List.mem_range.1 hi;unfold mw;rw [h (4 * i) o9,h (4 * i + 1) o9,h (4 * i + 2) o9,h (4 * i + 3) o9]
theorem comp_congr {a b:LB} (h:∀ j,j < 64→a.getD j 0=b.getD j 0) (st:LN) (t:Nat) (last:Bool):comp st a t last=comp st b t last:=by
 unfold comp;rw [mws_congr h]
theorem getD_append_left {α:Type} {a b:List α} {j:Nat} {d:α} (h:j < a.length):(a ++ b).getD j d=a.getD j d:=by
 simp [JB h]
theorem stq_append {n:Nat} {M x:LB}:∀ {q:Nat},64 * q≤M.length→stq n (M ++ x) q=stq n M q
 | 0,_=>rfl
 | q + 1,h=>by
  simp only [stq];rw [stq_append (q:=q) o9];refine comp_congr (fun j hj=> ?_) _ _ _;rw [J3 o9];exact getD_append_left (by rw [JA];omega)
def leb (ws:LN):LB:=(List.range 32).map fun i=>UInt8.ofNat (ws.getD (i / 4) 0 / 2 ^ (8 * (i % 4)))
@[simp] theorem leb_length (ws:LN):(leb ws).length=32:=by simp [leb]
def hashM (n:Nat) (M:LB):LB:=leb (comp (stq n M<|(M.length - 1) / 64) (M.drop<|64 * ((M.length - 1) / 64)) M.length true)
@[simp] theorem hashM_length (n:Nat) (M:LB):(hashM n M).length=32:=by simp [hashM]
def kblock (key:LB):LB:=if key.length=0 then [] else key ++ List.replicate (64 - key.length) 0
def hash (key b:LB):LB:=hashM key.length (kblock key ++ b)
@[simp] theorem hash_length (key b:LB):(hash key b).length=32:=by simp [hash]
