/- ACCOUNTS, in plain Lean: names in order, books. slices.BinarySearch, Insert and Delete at strings, by what is known (the shelf's contracts). ACCOUNTS: -/
import Derived.Test.YtgokpcnabgacnaaGreatDoorGZAH
import Derived.Shelf.Spec.SlicesInsertGrow
import Derived.Shelf.Spec.SearchS
import Derived.Shelf.Slices.Cells
import Derived.Test.YtgokpcnabgacnaaGreatDoorChecked
namespace Go.Proofs.YtgokpcnabgacnaaGreatDoor
open Go.RowKit
namespace Acc
abbrev lt (x y:LB):Bool:=Op.bytesLess x y
theorem lt_irr:∀ x:LB,lt x x=false
 | []=>rfl
 | a :: x=>by simp only [lt,Op.bytesLess,beq_self_eq_true,Bool.true_and];rw [show Op.bytesLess x x=false from lt_irr x];simp [UInt8.lt_irrefl]
theorem lt_trans:∀ {x y z:LB},lt x y=true→lt y z=true→lt x z=true
 | _,[],_,h,_=>by simp [lt,Op.bytesLess] at h
 | _,_ :: _,[],_,h=>by simp [lt,Op.bytesLess] at h
 | [],_ :: _,_ :: _,_,_=>rfl
 | a :: x,b :: y,c :: z,h,k=>by
  simp only [lt,Op.bytesLess,Bool.or_eq_true,Jz,JL,JT] at h k ⊢;rcases h with h | ⟨rfl,h⟩
  ·rcases k with k | ⟨rfl,k⟩
   ·exact .inl (UInt8.lt_trans h k)
   ·exact .inl h
  ·rcases k with k | ⟨rfl,k⟩
   ·exact .inl k
   ·exact .inr ⟨V,lt_trans h k⟩
theorem lt_tri:∀ (x y:LB),lt x y=true∨x=y∨lt y x=true
 | [],[]=> .inr (.inl rfl)
 | [],_ :: _=> .inl rfl
 | _ :: _,[]=> .inr (.inr rfl)
 | a :: x,b :: y=>by
  simp only [lt,Op.bytesLess,Bool.or_eq_true,Jz,JL,JT];rcases UInt8.lt_or_lt_of_ne (a:=a) (b:=b) |> fun f=>(Classical.em<|a=b).imp id f with rfl | h | h
  ·rcases lt_tri x y with h | h | h
   ·exact .inl (.inr ⟨V,h⟩)
   ·exact .inr (.inl (by rw [h]))
   ·exact .inr (.inr<|.inr ⟨V,h⟩)
  ·exact .inl (.inl h)
  ·exact .inr (.inr<|.inl h)
theorem lt_asym {x y:LB} (h:lt x y=true):lt y x=false:=by
 cases hb:lt y x
 ·rfl
 ·have:=lt_trans h hb;rw [lt_irr] at this
  cases this
theorem lt_ne {x y:LB} (h:lt x y=true):x≠y:=fun e=>by subst e;rw [lt_irr] at h;cases h
structure T where
 name:LB
 role:Int
 key:LB
 dep:Int
 num:Int
def chr (c:UInt8):Prop:=(97≤c.toNat∧c.toNat≤122)∨(48≤c.toNat∧c.toNat≤57)∨c.toNat=45
instance (c:UInt8):Decidable (chr c):=by unfold chr;infer_instance
def isName (s:LB):Prop:=(∀ c∈s,chr c)∧1≤s.length∧s.length≤32
instance (s:LB):Decidable (isName s):=by unfold isName;infer_instance
def nums (r:Int):Int:=if r=1 then 512 else if r=2 then 32 else if r=3 then 1 else 0
def okN (nm:LB) (role:Int) (kl:Nat) (dep num:Int):Prop:=isName nm∧kl=32∧0≤dep∧dep≤1125899906842624∧0≤num∧num < nums role
instance (nm:LB) (role:Int) (kl:Nat) (dep num:Int):Decidable (okN nm role kl dep num):=by unfold okN;infer_instance
def ok (a:T):Prop:=okN a.name a.role a.key.length a.dep a.num
theorem okN_iff {nm:LB} {role:Int} {kl:Nat} {dep num:Int} (h1:isName nm) (h2:kl=32) (h3:¬dep < 0) (h4:¬1125899906842624 < dep) (h5:¬num < 0):okN nm role kl dep num↔num < nums role:=by
 unfold okN;exact ⟨fun h=>h.2.2.2.2.2,fun h=>⟨h1,h2,by omega,by omega,by omega,h⟩⟩
instance (a:T):Decidable (ok a):=by unfold ok;infer_instance
def clash (a x:T):Prop:=x.name=a.name∨(x.role=a.role∧x.num=a.num∧a.role≠3)
instance (a x:T):Decidable (clash a x):=by unfold clash;infer_instance
def inOrder (l:List T):Prop:=l.Pairwise fun a b=>lt a.name b.name=true
structure Fine (l:List T):Prop where
 srt:inOrder l
 oks:∀ a∈l,ok a
 uni:l.Pairwise fun a b=>¬(b.role=a.role∧b.num=a.num∧a.role≠3)
 len:l.length≤256
def pos (l:List T) (n:LB):Nat:=(l.takeWhile fun x=>lt x.name n).length
def ins (l:List T) (a:T):List T:=l.takeWhile (fun x=>lt x.name a.name) ++ a :: l.dropWhile (fun x=>lt x.name a.name)
def add (l:List T) (a:T):List T × Int:=
 if ok a then if ∃ x∈l,clash a x then (l,11) else if 256≤l.length then (l,7) else (ins l a,0) else (l,2)
def find (l:List T) (n:LB):Option T:=l.find? fun x=>decide (x.name=n)
theorem ins_eq (l:List T) (a:T):ins l a=l.take (pos l a.name) ++ a :: l.drop (pos l a.name):=by
 unfold ins pos;have h:l.takeWhile (fun x=>lt x.name a.name) ++ l.dropWhile (fun x=>lt x.name a.name)=l:=List.takeWhile_append_dropWhile
 generalize l.takeWhile (fun x=>lt x.name a.name)=p at *
 generalize l.dropWhile (fun x=>lt x.name a.name)=q at *
 subst h;simp
theorem mem_ins {l:List T} {a x:T}:x∈ins l a↔x=a∨x∈l:=by
 rw [ins_eq,Jf,Jt]
 conv=>rhs;rw [← JV (pos l a.name) l,Jf]
 constructor
 ·rintro (h | h | h)
  ·exact .inr (.inl h)
  ·exact .inl h
  ·exact .inr (.inr h)
 ·rintro (h | h | h)
  ·exact .inr (.inl h)
  ·exact .inl h
  ·exact .inr (.inr h)
theorem ins_len (l:List T) (a:T):(ins l a).length=l.length + 1:=by
 have h:(l.takeWhile (fun x=>lt x.name a.name) ++ l.dropWhile (fun x=>lt x.name a.name)).length=l.length:=by rw [List.takeWhile_append_dropWhile]
 unfold ins;simp only [Jk,Xm] at h ⊢;omega
theorem perm_ins (l:List T) (a:T):(ins l a).Perm (a :: l):=by
 have h:l.takeWhile (fun x=>lt x.name a.name) ++ l.dropWhile (fun x=>lt x.name a.name)=l:=List.takeWhile_append_dropWhile;unfold ins;refine (List.perm_middle).trans ?_;rw [h]
theorem zdO:∀ {l:List T} {a:T},inOrder l→(∀ x∈l,x.name≠a.name)→inOrder (ins l a)
 | [],a,_,_=>by simp [ins,inOrder]
 | x :: l,a,h,hn=>by
  have h1:=Xu.1 h
  cases hb:lt x.name a.name
  ·have hax:lt a.name x.name=true:=by
    rcases lt_tri x.name a.name with h2 | h2 | h2
    ·rw [hb] at h2;cases h2
    ·exact absurd h2 (hn x mC)
    ·exact h2
   have e:ins (x :: l) a=a :: x :: l:=by simp [ins,hb]
   rw [e];refine Xu.2 ⟨fun y hy=> ?_,h⟩;rcases Jt.1 hy with rfl | hy
   ·exact hax
   ·exact lt_trans hax (h1.1 y hy)
  ·have e:ins (x :: l) a=x :: ins l a:=by simp [ins,hb]
   rw [e];refine Xu.2 ⟨fun y hy=> ?_,zdO h1.2 fun y hy=>hn y<|Jl _ hy⟩;rcases mem_ins.1 hy with rfl | hy
   ·exact hb
   ·exact h1.1 y hy
theorem Fine.nil:Fine []:=⟨List.Pairwise.nil,fun _ h=>by simp at h,List.Pairwise.nil,by simp⟩
theorem Fine.ins {l:List T} {a:T} (h:Fine l) (ha:ok a) (hc:¬ ∃ x∈l,clash a x) (hl:l.length < 256):Fine (ins l a):=by
 refine ⟨zdO h.srt fun x hx e=>hc ⟨x,hx,.inl e⟩,fun x hx=> ?_,?_,by rw [ins_len];omega⟩
 ·rcases mem_ins.1 hx with rfl | hx
  ·exact ha
  ·exact h.oks x hx
 ·refine List.Pairwise.perm (l:=a :: l) ?_ (perm_ins l a).symm (fun {x y} hxy hyx=>hxy ⟨hyx.1.symm,hyx.2.1.symm,by rw [hyx.1];exact hyx.2.2⟩);refine Xu.2 ⟨fun x hx hcl=>hc ⟨x,hx,.inr hcl⟩,h.uni⟩
theorem Fine.add {l:List T} (h:Fine l) (a:T):Fine (add l a).1:=by
 unfold Acc.add
 split
 ·split
  ·exact h
  ·split
   ·exact h
   ·exact h.ins (by assumption) (by assumption) o9
 ·exact h
theorem pos_le:∀ (l:List T) (n:LB),pos l n≤l.length
 | [],_=>Js _
 | x :: l,n=>by
  have ih:=pos_le l n;unfold pos at ih ⊢;rw [List.takeWhile_cons]
  split
  ·simp only [Xm];omega
  ·simp
theorem Wu {x:T} {l:List T} {n:LB} (h:lt x.name n=true):pos (x :: l) n=pos l n + 1:=by unfold pos;rw [List.takeWhile_cons,Jh h];rfl
theorem zcd {x:T} {l:List T} {n:LB} (h:lt x.name n=false):pos (x :: l) n=0:=by unfold pos;rw [List.takeWhile_cons,Jb (by simp [h])];rfl
theorem pos_lt:∀ {l:List T} {n:LB} {t:Nat},t < pos l n→lt ((l.map T.name)[t]?.getD n) n=true
 | [],_,_,h=>absurd h (Nat.not_lt_zero _)
 | x :: l,n,t,h=>by
  cases hb:lt x.name n
  ·rw [zcd hb] at h;exact absurd h (Nat.not_lt_zero _)
  ·rw [Wu hb] at h
   cases t with
   | zero=>simpa using hb
   | succ t=>simpa using pos_lt (l:=l) (n:=n) (t:=t) o9
theorem pos_ge:∀ {l:List T} {n:LB} {t:Nat},inOrder l→pos l n≤t→lt ((l.map T.name)[t]?.getD n) n=false
 | [],n,_,_,_=>by simpa using lt_irr n
 | x :: l,n,t,h,ht=>by
  have h1:=Xu.1 h
  cases hb:lt x.name n
  ·cases t with
   | zero=>simpa using hb
   | succ t=>
    simp only [JU,J1]
    cases hy:(l.map T.name)[t]? with
    | none=>exact lt_irr n
    | some y=>
     obtain ⟨z,hz,rfl⟩:=JI.1 (Jc hy)
     cases hb2:lt z.name n
     ·exact hb2
     ·have:=lt_trans (h1.1 z hz) hb2;rw [hb] at this
      cases this
  ·rw [Wu hb] at ht
   cases t with
   | zero=>omega
   | succ t=>simpa using pos_ge (l:=l) (n:=n) (t:=t) h1.2 o9
theorem pos_found:∀ {l:List T} {n:LB},inOrder l→((pos l n < l.length∧(l.map T.name)[pos l n]?.getD n=n)↔∃ x∈l,x.name=n)
 | [],n,_=>by simp
 | x :: l,n,h=>by
  have h1:=Xu.1 h
  cases hb:lt x.name n
  ·rw [zcd hb];simp only [JU,List.getElem?_cons_zero,Option.getD_some,Xm]
   constructor
   ·rintro ⟨_,e⟩;exact ⟨x,mC,e⟩
   ·rintro ⟨y,hy,e⟩;refine ⟨by omega,?_⟩;rcases Jt.1 hy with rfl | hy
    ·exact e
    ·have:=h1.1 y hy;rw [e,hb] at this
     cases this
  ·rw [Wu hb];simp only [JU,J1,Xm];have ih:=pos_found (l:=l) (n:=n) h1.2
   constructor
   ·rintro ⟨h2,e⟩;obtain ⟨y,hy,e⟩:=ih.1 ⟨by omega,e⟩;exact ⟨y,Jl _ hy,e⟩
   ·rintro ⟨y,hy,e⟩;rcases Jt.1 hy with rfl | hy
    ·exact absurd e (lt_ne hb)
    ·have:=ih.2 ⟨y,hy,e⟩;exact ⟨by omega,this.2⟩
end Acc
namespace Sx
theorem VT:∀ (l:List LB),l.flatMap YM=(l.map Zi).map isD
 | []=>rfl
 | s :: l=>by rw [J6,VT l];rfl
theorem zgr (l:List LB):∀ v∈l.map Zi,v.oneCell'=true:=fun v hv=>by
 obtain ⟨s,_,rfl⟩:=JI.1 hv
 rfl
theorem VB {e c:Nat} {A:Option Addr} {l:List LB} {L F:LN} {w:World} (h:(yP e 1 YM A c l).R L F w):(A=none∧c=0∧l=[]∧F=[])∨∃ g cur,A=some ⟨g,0,none⟩∧F=[g]∧Blk w g e cur∧l.length≤c∧c≤maxLen∧cur.length=c∧cur.take l.length=l.map Zi:=by
 obtain ⟨xs,ha,ho,hF⟩:=h;rw [VT] at ha;have hx:=jj ha;subst hx;rcases ho.2 with ⟨hv,hn⟩ | ⟨g,cap,cur,hv,_,hh,hnc,hcm,hcs,htk⟩
 ·injection hv with e1 e2 e3;subst e1 e3;exact .inl ⟨V,V,List.length_eq_zero_iff.1 hn,by rw [hF];rfl⟩
 ·injection hv with e1 e2 e3;subst e1 e3;refine .inr ⟨g,cur.toList,V,by rw [hF];rfl,?_,hnc,hcm,by simp [hcs],by simpa using htk⟩;unfold Blk;rw [Array.toArray_toList];exact hh
theorem vecS_in {e c g:Nat} {l:List LB} {L:LN} {w:World} {cur:List Value} (hb:Blk w g e cur) (hn:l.length≤c) (hm:c≤maxLen) (hl:cur.length=c) (ht:cur.take l.length=l.map Zi):(yP e 1 YM (some ⟨g,0,none⟩) c l).R L [g] w:=by
 refine ⟨l.map Zi,?_,⟨by simp,.inr ⟨g,c,cur.toArray,rfl,JC _,hb,hn,hm,by simp [hl],by simpa using ht⟩⟩,V⟩;rw [VT];exact qN _
theorem zbu {w:World} {g:Nat} {t:TypeId} {cur:List Value} {l:List LB} (h:Blk w g t cur) (ht:cur.take l.length=l.map Zi) (j:Nat) (v:Value) (hv:(l.map Zi)[j]? =some v):w.cell? ⟨g,0 + j,none⟩=some v:=by
 rw [JF,h.cell];rw [← ht,JP] at hv
 split at hv
 ·exact hv
 ·cases hv
theorem zeB {w:World} {g:Nat} {t:TypeId} {cur:List Value} (h:Blk w g t cur):w.shape? g=some (t,cur.length):=by
 unfold Blk at h;simp [World.shape?,h]
theorem bs_pos {l:List Acc.T} {n:LB} (h:Acc.inOrder l):Lib.bsGo (fun t=>Op.bytesLess ((l.map Acc.T.name)[t]?.getD n) n) l.length 0 l.length=Acc.pos l n:=by
 refine Lib.bsGo_spec _ _ (fun t ht=> ?_) (fun t ht=> ?_) _ _ _ o9 (JC _) ?_
 ·exact Acc.pos_lt ht
 ·exact Acc.pos_ge h ht
 ·exact Acc.pos_le l n
section
variable {P:Program}{ρ:Shelf.Ren}
theorem ba_eq (p q:LB):(ByteArray.mk p.toArray=ByteArray.mk q.toArray)↔p=q:=by
 constructor
 ·intro h;have h1:=JY (fun b:ByteArray=>b.data.toList) h;simpa using h1
 ·intro h;rw [h]
theorem zcw (L:Lays2.n26 P ρ) (l:List Acc.T) (n:LB) (h:Acc.inOrder l) (hl:l.length≤1000000):ConN P (ρ.f 26) [lsD YM<|l.map Acc.T.name,yY n] (Yk [iD<|Acc.pos l n,yj<|decide (∃ x∈l,x.name=n)]):=by
 refine ⟨enters_of L.f26 k9 V,fun LL w vs hL hG ha=> ?_⟩
 match vs,ha with
 | [v1,v2],ha=>
  obtain ⟨A,c,rfl,hc,hat⟩:=ha.1;obtain rfl:v2= .string ⟨n.toArray⟩:=ha.2.1;rw [VT] at hat;rw [JO] at hc
  have fin:∀ (b:Bool),b=decide (∃ x∈l,x.name=n)→∀ w',Only [] w w'→∃ v,Ending.returned (.tuple #[.int .i64 ((Acc.pos l n:Nat):Int),.bool b])= .returned v∧(nwD w.heap.size<|Yk [iD<|Acc.pos l n,yj<|decide (∃ x∈l,x.name=n)]).R LL w' v∧Only [] w w':=fun b hb w' ho=>by
   subst hb;have hl:LeAll [iD ((Acc.pos l n:Nat):Int),yj<|decide (∃ x∈l,x.name=n)] ([iD ((Acc.pos l n:Nat):Int),yj<|decide (∃ x∈l,x.name=n)].map<|nwD w.heap.size):=⟨zu,zu,trivial⟩;have ht:(Yk [iD ((Acc.pos l n:Nat):Int),yj<|decide (∃ x∈l,x.name=n)]).R LL w' (.tuple #[.int .i64 ((Acc.pos l n:Nat):Int),.bool<|decide (∃ x∈l,x.name=n)]):=⟨[_,_],rfl,rfl,rfl,trivial⟩;exact ⟨_,V,Zx hl _ _ _ ht,ho⟩
  rcases Xk l.length with h0 | h0
  ·have e0:=List.length_eq_zero_iff.1 h0;subst e0;refine (Any2.slices_BinarySearch_string_empty L A c ⟨n.toArray⟩ w).mono ?_;rintro e w' ⟨rfl,rfl⟩;exact fin false s9 _ (Only.refl [] _)
  ·obtain ⟨g,o,rfl,hg,hgn,cs,hcs,hcell⟩:=hat (by simpa using h0);have hx:=jj hcs;subst hx;have hpos:=bs_pos (n:=n) h
   have hcc:∀ j,j < l.length→w.cell? ⟨g,o + j,none⟩=some (.string ⟨((l.map Acc.T.name)[j]?.getD n).toArray⟩):=fun j hj=>by
    rw [hcell j (by simpa using hj)];simp [Zi,hj]
   have hcon:=Any2.slices_BinarySearch_string L g o l.length c (fun j=>⟨((l.map Acc.T.name)[j]?.getD n).toArray⟩) ⟨n.toArray⟩ w o9 hcc;simp only [zeE,hpos] at hcon;rw [JO];refine hcon.mono ?_;rintro e w' ⟨rfl,q,rfl⟩;refine fin _ ?_ _ ((Only.refl [] w).drewN q);rw [JW];rw [ba_eq];exact Acc.pos_found h
structure Ust where
 A:Option Addr
 c:Nat
 F:LN
theorem zcy (L:Lays2.n22 P ρ) (l:List LB) (s:Ust) (x:LB) (i:Nat) (hi:i≤l.length) (hl:l.length≤1000000):ConR P (ρ.f 22) [.r s.F<|yP (ρ.t 9) 1 YM s.A s.c l] [isD<|.slice s.A l.length s.c,iD i,bkD (ρ.t 9) [Zi x]] (fun t:Ust=>[.r t.F<|yP (ρ.t 9) 1 YM t.A t.c<|l.take i ++ x :: l.drop i]) (fun t=>isD<|.slice t.A (l.length + 1) t.c):=by
 refine ⟨enters_of L.f22 k9 V,fun LL w vs hL hG hgF hgL hnd hbk ha=> ?_⟩
 match vs,ha with
 | [v1,v2,v3],ha=>
  obtain rfl:v1= .slice s.A l.length s.c:=ha.1;obtain rfl:v2= .int .i64 (i:Int):=ha.2.1;obtain ⟨vb,rfl,hvb,hbx⟩:=ha.2.2.1;obtain ⟨A,c,F⟩:=s;simp only at *;have hv:=hbk (.r F _) mC
  have hfp:fps [Box.r F<|yP (ρ.t 9) 1 YM A c l]=F:=by simp [fps,Box.fp]
  rw [hfp] at hnd hv hvb ⊢
  have hll:(l.take i ++ x :: l.drop i).length=l.length + 1:=by simp;omega
  have hlm:(l.take i ++ x :: l.drop i).map Zi=(l.map Zi).take i ++ ([Zi x] ++ (l.map Zi).drop i):=by simp
  have fin:∀ {w':World} {g' c':Nat} {cur':List Value},Blk w' g' (ρ.t 9) cur'→l.length + 1≤c'→c'≤maxLen→cur'.length=c'→cur'.take (l.length + 1)=(l.map Zi).take i ++ ([Zi x] ++ (l.map Zi).drop i)→(g'∈F∨w.heap.size≤g')→Only (F) w w'→
    ∃ (t:Ust) (v:Value),Ending.returned (.slice (some ⟨g',0,none⟩) (l.length + 1) c')= .returned v∧(isD<|.slice t.A (l.length + 1) t.c).R (fps [Box.r t.F<|yP (ρ.t 9) 1 YM t.A t.c<|l.take i ++ x :: l.drop i] ++ LL) w' v∧(∀ b∈[Box.r t.F<|yP (ρ.t 9) 1 YM t.A t.c<|l.take i ++ x :: l.drop i],b.R (fps [Box.r t.F<|yP (ρ.t 9) 1 YM t.A t.c<|l.take i ++ x :: l.drop i] ++ LL) w')∧(fps [Box.r t.F<|yP (ρ.t 9) 1 YM t.A t.c<|l.take i ++ x :: l.drop i]).Nodup∧(∀ g∈fps [Box.r t.F<|yP (ρ.t 9) 1 YM t.A t.c<|l.take i ++ x :: l.drop i],g∈F∨w.heap.size≤g)∧Only (F) w w':=by
   intro w' g' c' cur' hb h1 h2 h3 h4 hg ho;refine ⟨⟨some ⟨g',0,none⟩,c',[g']⟩,_,V,V,fun b hb'=> ?_,by simp [fps,Box.fp],fun y hy=> ?_,ho⟩
   ·rw [Ja.1 hb'];exact vecS_in hb (by rw [hll];exact h1) h2 h3 (by rw [hll,hlm];exact h4)
   ·have:y=g':=by simpa [fps,Box.fp] using hy
    rw [this];exact hg
  have hvs:∀ j v,[Zi x][j]? =some v→w.cell? ⟨vb,0 + j,none⟩=some v:=fun j v hv=>zbu (l:=[x]) hbx rfl j v hv;have h1v:∀ v∈[Zi x],v.oneCell'=true:=zgr [x];have h1c:=zgr l
  by_cases hin:i=l.length
  ·subst hin
   have et:(l.map Zi).take l.length ++ ([Zi x] ++ (l.map Zi).drop l.length)=l.map Zi ++ [Zi x]:=by
    rw [Ji s9,List.drop_of_length_le s9];simp
   by_cases hroom:l.length + 1≤c
   ·rcases VB hv with ⟨_,h0,_,_⟩ | ⟨g,cur,rfl,rfl,hb,hnc,hcm,hlc,htk⟩
    ·omega
    refine (Any2.slices_Insert_string_end_room L g 0 l.length c vb 0 1 1 [Zi x] w d9 hroom (by simp only [maxLen] at hcm;omega) V (fun j hj=> ?_) (fun j hj=>hb.frozen _) hvs h1v).mono ?_
    ·rw [hb.cell,Je o9];rfl
    rintro e w' ⟨rfl,rfl⟩;rw [JF];obtain ⟨h5,h6⟩:=Z5 [Zi x] l.length cur w hb (by simp;omega);refine fin h5 hroom hcm (by simp;omega) ?_ (.inl s9) (h6.mono (fun y hy _=>by rw [Ja.1 hy];simp));rw [et,htk,← Jq,JQ s9,Ji s9]
   ·have hnc:l.length≤c:=by
     rcases VB hv with ⟨_,h0,h1,_⟩ | ⟨g,cur,_,_,hb,hnc,_⟩
     ·rw [h1];exact JC _
     ·exact hnc
    refine (Any2.slices_Insert_string_end_grow L A l.length c vb 0 1 1 (l.map Zi) [Zi x] w d9 hnc o9 o9 s9 V ?_ ?_ hvs h1v).mono ?_
    ·intro hA;rcases VB hv with ⟨_,_,h1,_⟩ | ⟨g,cur,h1,_⟩
     ·rw [h1];rfl
     ·rw [hA] at h1;cases h1
    ·intro a ha' j v hj;rcases VB hv with ⟨h1,_⟩ | ⟨g,cur,h1,_,hb,hnc,hcm,hlc,htk⟩
     ·rw [h1] at ha';cases ha'
     ·rw [h1] at ha';injection ha' with ha';subst ha';rw [Xg];exact zbu hb htk j v hj
    rintro e w' ⟨rfl,rfl⟩;have hge:=grownCap_ge w (l.length + 1) c (ρ.t 9);have hcm:=grownCap_le_maxLen w (l.length + 1) c (ρ.t 9) (by simp only [maxLen];omega)
    generalize grownCap w (l.length + 1) c (ρ.t 9)=C at hge hcm ⊢
    generalize hZ:Builtin.zeroCells (Value.string ⟨#[]⟩).cells (C - (l.length + 1))=Z
    have hZl:Z.size=C - (l.length + 1):=by rw [← hZ,size_zeroCells];simp [Value.cells]
    have hnew:=Blk.new w.drew (ρ.t 9) (l.map Zi ++ [Zi x] ++ Z.toList)
    have eA:(l.map Zi ++ [Zi x] ++ Z.toList).toArray=(l.map Zi ++ [Zi x]).toArray ++ Z:=by apply Xe;simp
    rw [eA] at hnew;refine fin hnew hge hcm (by simp [hZl];omega) ?_ (.inr<|Js _) (((Only.refl _ w).drew).alloc _);rw [et,JQ s9,Ji s9]
  ·rcases VB hv with ⟨_,_,h0,_⟩ | ⟨g,cur,rfl,rfl,hb,hnc,hcm,hlc,htk⟩
   ·rw [h0] at hi hin;simp at hi hin;omega
   have hcs:∀ j v,(l.map Zi)[j]? =some v→w.cell? ⟨g,0 + j,none⟩=some v:=fun j v hj=>zbu hb htk j v hj
   have hgv:vb≠g:=fun e=>by
    exact hvb (by rw [e];simp)
   by_cases hroom:l.length + 1≤c
   ·refine (Any2.slices_Insert_string_shift L g 0 l.length c i vb 0 1 1 (l.map Zi) [Zi x] w o9 d9 hroom (by simp only [maxLen] at hcm;omega) hgv s9 V hcs (fun j hj=> ?_) (fun j hj=>hb.frozen _) hvs h1c h1v (ρ.t 9) (ρ.t 9) 1 cur.length (zeB hbx) (zeB hb) o9 (hbx.frozen _)<|hbx.frozen _).mono ?_
    ·rw [JF,hb.cell,Je o9];rfl
    rintro e w' ⟨rfl,rfl⟩;rw [JF,JF];obtain ⟨h5,h6⟩:=Z5 ((l.map Zi).drop i) (i + 1) cur w.drew hb.drew (by simp;omega);obtain ⟨h7,h8⟩:=Z5 [Zi x] i _ _ h5 (by simp;omega);refine fin h7 hroom hcm (by simp;omega) ?_ (.inl s9) ((((Only.refl _ w).drew).trans'<|h6.mono (fun y hy _=>by rw [Ja.1 hy];simp)).trans'<|h8.mono (fun y hy _=>by rw [Ja.1 hy];simp))
    have e1:cur.take i=(l.map Zi).take i:=by rw [← htk,List.take_take,XA o9]
    have e2:(cur.take (i + 1) ++ ((l.map Zi).drop i ++ cur.drop (i + 1 + ((l.map Zi).drop i).length))).take i=(l.map Zi).take i:=by
     rw [JQ (by simp;omega),List.take_take,XA o9,e1]
    have e3:(cur.take (i + 1) ++ ((l.map Zi).drop i ++ cur.drop (i + 1 + ((l.map Zi).drop i).length))).drop (i + 1)=(l.map Zi).drop i ++ cur.drop (i + 1 + ((l.map Zi).drop i).length):=by
     rw [J3 (by simp;omega),List.drop_of_length_le (by simp;omega),J0]
    simp only [Xq];rw [e2,e3,← Jq,← Jq,JQ (by simp;omega),Ji (by simp;omega),Jq]
   ·refine (Any2.slices_Insert_string_grow L g 0 l.length c i vb 0 1 1 (l.map Zi) [Zi x] w o9 d9 hnc o9 o9 s9 V hcs hvs h1c h1v).mono ?_;rintro e w' ⟨rfl,rfl⟩;have hge:=grownCap_ge w (l.length + 1) c (ρ.t 9);have hcm2:=grownCap_le_maxLen w (l.length + 1) c (ρ.t 9) (by simp only [maxLen];omega)
    generalize grownCap w (l.length + 1) c (ρ.t 9)=C at hge hcm2 ⊢
    generalize hZ:Builtin.zeroCells (Value.string ⟨#[]⟩).cells (C - (l.length + 1))=Z
    generalize hY:Builtin.zeroCells (Value.string ⟨#[]⟩).cells (l.length + 1 - i)=Y
    have hZl:Z.size=C - (l.length + 1):=by rw [← hZ,size_zeroCells];simp [Value.cells]
    have hYl:Y.size=l.length + 1 - i:=by rw [← hY,size_zeroCells];simp [Value.cells]
    obtain ⟨ROW,hR⟩:∃ ROW:List Value,ROW=(l.map Zi).take i ++ Y.toList ++ Z.toList:=⟨_,rfl⟩
    have eA:((l.map Zi).take i).toArray ++ Y ++ Z=ROW.toArray:=by rw [hR];apply Xe;simp
    rw [eA]
    have hRl:ROW.length=C:=by rw [hR];simp [hZl,hYl];omega
    have hnew:=Blk.new w (ρ.t 9) ROW;have hnew2:Blk (w.alloc<|.cells ROW.toArray<|ρ.t 9).drew w.heap.size (ρ.t 9) ROW:=hnew.drew;obtain ⟨h5,h6⟩:=Z5 [Zi x] i ROW _ hnew2 (by simp;omega);obtain ⟨h7,h8⟩:=Z5 ((l.map Zi).drop i) (i + 1) _ _ h5.drew (by simp;omega);have hO:Only [w.heap.size] w (w.alloc<|.cells ROW.toArray<|ρ.t 9).drew:=(((Only.refl _ w).alloc _).drew);have hO2:=(hO.trans' h6).drew.trans' h8;refine fin h7 hge hcm2 (by simp;omega) ?_ (.inr<|Js _) (hO2.mono (fun y hy hlt=>by rw [Ja.1 hy] at hlt;omega))
    have e1:ROW.take i=(l.map Zi).take i:=by
     rw [hR,Jq,JQ (by simp;omega),Ji (by simp;omega)]
    simp only [Xq]
    have e2:(ROW.take i ++ ([Zi x] ++ ROW.drop (i + 1))).take (i + 1)=(l.map Zi).take i ++ [Zi x]:=by
     rw [e1,← Jq,JQ (by simp;omega),Ji (by simp;omega)]
    rw [e2,← Jq,JQ (by simp;omega),Ji (by simp;omega),Jq]
end
end Sx
namespace Acc
theorem zaN {l:List T} {n:LB}:n∈l.map T.name↔∃ x∈l,x.name=n:=JI
theorem find_some {l:List T} {n:LB} {x:T} (h:find l n=some x):x∈l∧x.name=n:=by
 unfold find at h;exact ⟨List.mem_of_find?_eq_some h,by simpa using List.find?_some h⟩
theorem find_none {l:List T} {n:LB}:find l n=none↔¬ ∃ x∈l,x.name=n:=by
 unfold find;rw [List.find?_eq_none];simp
theorem names_uni {l:List T} (h:inOrder l) {x y:T} (hx:x∈l) (hy:y∈l) (e:x.name=y.name):x=y:=by
 induction l with
 | nil=>cases hx
 | cons a l ih=>
  have h1:=Xu.1 h
  rcases Jt.1 hx with e1 | hx1 <;> rcases Jt.1 hy with e2 | hy1
  ·rw [e1,e2]
  ·exact absurd e (by rw [e1];exact lt_ne<|h1.1 y hy1)
  ·exact absurd e.symm (by rw [e2];exact lt_ne<|h1.1 x hx1)
  ·exact ih h1.2 hx1 hy1
theorem find_mem {l:List T} (h:inOrder l) {x:T} (hx:x∈l):find l x.name=some x:=by
 cases hf:find l x.name with
 | none=>exact absurd ⟨x,hx,rfl⟩ (find_none.1 hf)
 | some y=>
  obtain ⟨h1,h2⟩:=find_some hf;rw [names_uni h h1 hx h2]
def seats (l:List T):List (Int × Int):=(l.filter fun x=>decide (x.role≠3)).map fun x=>(x.role,x.num)
theorem mem_seats {l:List T} {p:Int × Int}:p∈seats l↔∃ x∈l,x.role≠3∧(x.role,x.num)=p:=by
 unfold seats;rw [JI]
 constructor
 ·rintro ⟨x,hx,e⟩;have:=Jw.1 hx;exact ⟨x,this.1,by simpa using this.2,e⟩
 ·rintro ⟨x,hx,h3,e⟩;exact ⟨x,Jw.2 ⟨hx,by simpa using h3⟩,e⟩
def seat (l:List T) (p:Int × Int):Option T:=l.find? fun x=>decide (x.role≠3∧(x.role,x.num)=p)
theorem seat_some {l:List T} {p:Int × Int} {x:T} (h:seat l p=some x):x∈l∧x.role≠3∧(x.role,x.num)=p:=by
 unfold seat at h;exact ⟨List.mem_of_find?_eq_some h,by simpa using List.find?_some h⟩
theorem seat_none {l:List T} {p:Int × Int}:seat l p=none↔p∉seats l:=by
 unfold seat;rw [List.find?_eq_none,mem_seats];simp only [Jz,not_exists,not_and]
theorem seats_uni {l:List T} (h:l.Pairwise fun a b=>¬(b.role=a.role∧b.num=a.num∧a.role≠3)) {x y:T} (hx:x∈l) (hy:y∈l) (h3:x.role≠3) (er:x.role=y.role) (en:x.num=y.num):x=y:=by
 induction l with
 | nil=>cases hx
 | cons a l ih=>
  have h1:=Xu.1 h
  rcases Jt.1 hx with e1 | hx1 <;> rcases Jt.1 hy with e2 | hy1
  ·rw [e1,e2]
  ·subst e1;exact absurd ⟨er.symm,en.symm,h3⟩ (h1.1 y hy1)
  ·subst e2;exact absurd ⟨er,en,by rw [← er];exact h3⟩ (h1.1 x hx1)
  ·exact ih h1.2 hx1 hy1
theorem seat_mem {l:List T} (h:Fine l) {x:T} (hx:x∈l) (h3:x.role≠3):seat l (x.role,x.num)=some x:=by
 cases hf:seat l (x.role,x.num) with
 | none=>exact absurd (mem_seats.2 ⟨x,hx,h3,rfl⟩) (seat_none.1 hf)
 | some y=>
  obtain ⟨h1,h2,e⟩:=seat_some hf;injection e with e1 e2;rw [seats_uni h.uni h1 hx h2 e1 e2]
theorem names_ins (l:List T) (a:T):(ins l a).map T.name=(l.map T.name).take (pos l a.name) ++ a.name :: (l.map T.name).drop (pos l a.name):=by
 rw [ins_eq,XG,JU,List.map_take,List.map_drop]
theorem mem_names_ins {l:List T} {a:T} {k:LB}:k∈a.name :: l.map T.name↔k∈(ins l a).map T.name:=by
 rw [Jt,zaN,zaN]
 constructor
 ·rintro (rfl | ⟨x,hx,e⟩)
  ·exact ⟨a,mem_ins.2<|.inl V,V⟩
  ·exact ⟨x,mem_ins.2<|.inr hx,e⟩
 ·rintro ⟨x,hx,e⟩;rcases mem_ins.1 hx with rfl | hx
  ·exact .inl e.symm
  ·exact .inr ⟨x,hx,e⟩
theorem mem_seats_ins {l:List T} {a:T} (h3:a.role≠3) {p:Int × Int}:p∈(a.role,a.num) :: seats l↔p∈seats (ins l a):=by
 rw [Jt,mem_seats,mem_seats]
 constructor
 ·rintro (rfl | ⟨x,hx,h,e⟩)
  ·exact ⟨a,mem_ins.2<|.inl V,h3,V⟩
  ·exact ⟨x,mem_ins.2<|.inr hx,h,e⟩
 ·rintro ⟨x,hx,h,e⟩;rcases mem_ins.1 hx with rfl | hx
  ·exact .inl e.symm
  ·exact .inr ⟨x,hx,h,e⟩
theorem mem_seats_ins3 {l:List T} {a:T} (h3:a.role=3) {p:Int × Int}:p∈seats l↔p∈seats (ins l a):=by
 rw [mem_seats,mem_seats]
 constructor
 ·rintro ⟨x,hx,h,e⟩;exact ⟨x,mem_ins.2<|.inr hx,h,e⟩
 ·rintro ⟨x,hx,h,e⟩;rcases mem_ins.1 hx with rfl | hx
  ·exact absurd h3 h
  ·exact ⟨x,hx,h,e⟩
theorem find_ins {l:List T} {a:T} (h:inOrder (ins l a)):find (ins l a) a.name=some a:=find_mem h (mem_ins.2<|.inl rfl)
theorem find_ins' {l:List T} {a:T} (hs:inOrder l) (h:inOrder (ins l a)) {k:LB} (hk:k∈l.map T.name):find (ins l a) k=find l k:=by
 obtain ⟨x,hx,rfl⟩:=zaN.1 hk;rw [find_mem h<|mem_ins.2<|.inr hx,find_mem hs hx]
theorem seat_ins' {l:List T} {a:T} (hs:Fine l) (h:Fine (ins l a)) {p:Int × Int} (hp:p∈seats l):seat (ins l a) p=seat l p:=by
 obtain ⟨x,hx,h3,rfl⟩:=mem_seats.1 hp;rw [seat_mem h (mem_ins.2<|.inr hx) h3,seat_mem hs hx h3]
end Acc
namespace Sx
section
def Yz (a:Acc.T):List D:=[yY a.name,iD a.role,bD a.key,iD a.dep,iD a.num]
instance:Row Yz 5:=⟨fun _=>rfl,fun _=>by unfold Yz;infer_instance,by decide⟩
def acD (l:List Acc.T) (k:LB):D:=Zo (Yz<|(Acc.find l k).getD ⟨[],0,[],0,0⟩)
def Zy (p:Int × Int):Value:= .agg #[.int .i64 p.1,.int .i64 p.2]
def seD (l:List Acc.T) (p:Int × Int):D:=yY (((Acc.seat l p).map Acc.T.name).getD [])
end
section
theorem zZ {n:Nat} {p q:Bool} (h:p=q):Le (yj p) (nwD n<|yj q):=by subst h;exact zu
theorem yr {α:Type} {l:List α} {i:Nat} {e:α} (h:l[i]? =some e):l.take (i + 1)=l.take i ++ [e]:=by
 obtain ⟨h1,h2⟩:=Jg.1 h;rw [← h2,J8 h1]
section
variable {P:Program}{Γ:Cx}{σ:St}{Q:Exit→Act→World→Prop}{a:Act}{w:World}
theorem qg (A:Option Addr) (n c:Nat) (b:LB) (h:b.length=n):qb (Vz (.slice A n c)<|cellsOf b) (.slice A b.length c) (cellsOf b):=by subst h;exact zaY _ _
def funcT (P:Program) (T:Nat):Bool:=match P.underlying T with | some (.func _ _ _)=>true | _=>false
theorem zad (d:Nat) {T:Nat} {f:Fn} {x y:Array Value} {w:World} (hT:funcT P T=true):(Op.equalIn (d + 1) T (.func f x y) .nilFunc).run P w= .ok false w:=by
 unfold funcT at hT
 split at hT
 ·rename_i q r z hu;simp [Op.equalIn,Jp hu]
 ·cases hT
theorem zbN {T:Nat} {f:Fn} {x y:Array Value} {w:World} (hT:funcT P T=true):(Op.equal T (.func f x y) .nilFunc).run P w= .ok false w:=zad 9999 hT
theorem Yb {α:Type} {enc:α→List D}:Le (isD<|.slice none 0 0) (lsD enc []):=fun _ _ _ h=>⟨none,0,h,Js _,fun h0=>by simp at h0⟩
theorem Rd.eqFnI {P:Program} {Γ:Cx} {σ:St} {S:LN} {dst:Option Tmp} {ty:TypeId} {pos:String} {af:Array Edge} {gd:Option (Nat × Bool)} {x y:Operand} {T yT:Nat} {f:Fn} {p q:Array Value} (hx:σ.ev x=some (isD<|.func f p q)) (hy:σ.ev y=some (isD .nilFunc)) (hT:funcT P T=true):Rd P Γ S ⟨dst,.binOp .eql T x y yT,ty,pos,af,gd⟩ σ (isD<|.bool false):=fun a w hh=>by
 have hxv:a.eval x= .func f p q:=zT hh hx;have hyv:a.eval y= .nilFunc:=zT hh hy;refine ⟨_,V,fun w' _=> ?_⟩;simp [execOp,hxv,hyv,eqGuard,binOp,zbN hT]
def noP (Q:Exit→Act→World→Prop):Exit→Act→World→Prop
 | .panic _,_,_=>False
 | e,a,w=>Q e a w
theorem con_ofNMp {P : Program} {f : FuncId} {fn : Func} {c : Code} {ds : List D} {d : D} (hf : P.funcs[f]? = some fn) (hn : (fn.name == "runtime.NumGoroutine") = false) (hb : fn.body = some c) (hlen : Nat.ble ds.length fn.ntmps = true)
  (h:∀ (base:LN) (w0:World),SW P ⟨fn.ntmps,base,w0,[],[]⟩ (St.of (Wy 0 ds) []) c<|noP (bodyPostM Fence.wide 0 P fn fun e w'=>∃ v,e= .returned v∧(nwD w0.heap.size d).R base w' v∧Only [] w0 w')):ConN P f ds d:=
 con_ofNM hf hn hb hlen fun base w0 a w hh=>Code.wp_mono (fun e a w hq=>by cases e <;> first | exact hq | exact hq.elim) (h base w0 a w hh)
end
section
variable {P:Program}{Γ:Cx}{σ:St}{S:List Nat}{d d':D}
theorem Zu {o:Oper} (h:Rd P Γ S o σ d) (hl:Le d d'):Rd P Γ S o σ d':=fun a w hh=>by
 obtain ⟨v,h1,h2⟩:=h a w hh;exact ⟨v,hl _ _ _ h1,h2⟩
end
section
variable {P:Program}{σ:St}{Q:Exit→Act→World→Prop}
theorem WQ {fn:Func} {nt:Nat} {base:LN} {w0:World} {pre:List Box} {ι:Type} {post:ι→List Box} {d:ι→D} (i:ι) (js:LN)
  (h:Rs P ⟨nt,base,w0,fps pre,[]⟩ fn σ (d i)) (hjs:js.Nodup) (hb:SubBx σ.bx js (post i)):
  RM P fn (fun e w'=>∃ i v,e= .returned v∧(d i).R (fps (post i) ++ base) w' v∧(∀ b∈post i,b.R (fps (post i) ++ base) w')∧(fps<|post i).Nodup∧(∀ g∈fps (post i),g∈fps pre∨w0.heap.size≤g)∧Only (fps pre) w0 w') ⟨nt,base,w0,fps pre,[]⟩ σ:=fun a w hh=>by
 obtain ⟨v,h1,h2⟩:=Sx.retR i js h hjs hb hh;rw [show a.defers=[] from hh.df];exact ⟨v,h1,h2⟩
theorem con_ofRMp {f : FuncId} {fn : Func} {c : Code} {pre : List Box} {ad : List D} {ι : Type} {post : ι → List Box} {d : ι → D} (hf : P.funcs[f]? = some fn) (hn : (fn.name == "runtime.NumGoroutine") = false) (hb : fn.body = some c) (hlen : Nat.ble ad.length fn.ntmps = true)
  (h:∀ (base:LN) (w0:World),SW P ⟨fn.ntmps,base,w0,fps pre,[]⟩ (zN (Wy 0 ad) pre) c<|noP (bodyPostM Fence.wide 0 P fn fun e w'=>∃ i v,e= .returned v∧(d i).R (fps (post i) ++ base) w' v∧(∀ b∈post i,b.R (fps (post i) ++ base) w')∧(fps<|post i).Nodup∧(∀ g∈fps (post i),g∈fps pre∨w0.heap.size≤g)∧Only (fps pre) w0 w')):ConR P f pre ad post d:=by
 refine ⟨enters_of hf hn (by rw [hb];rfl),fun L w vs hL hG hgF hg hnd hbk ha=> ?_⟩
 refine callsIn_wide.1 (callsIn_of_wp_marks (F:=Fence.wide) (n:=0) hf hb t9<|(wpIn_wide (n:=0)).2<|Code.wp_mono (fun e a w hq=>by cases e <;> first | exact hq | exact hq.elim)<|h L w _ _ ?_)
 have hl:=ha.length
 have hle:ad.length≤fn.ntmps:=by simpa using hlen
 refine ⟨V,by simp [hl];omega,fun i e hi=> ?_,hbk,hnd,fun g hg=> .inr hg,Only.refl _ _,hL,hg,hG,hgF⟩;have:=qh (pre:=[]) (post:=List.replicate (fn.ntmps - vs.length) undef) ha rfl i e hi
 have e1:vs.toArray ++ Array.replicate (fn.ntmps - vs.toArray.size) undef=([] ++ vs ++ List.replicate (fn.ntmps - vs.length) undef).toArray:=by
  apply Xe;simp
 rw [e1];exact this
end
theorem Yp {p q:Prop} [Decidable p] [Decidable q] (h:p↔q):Le (yj<|decide p) (yj<|decide q):=zF (by rw [JW.2 h])
theorem yi {q:Prop} [Decidable q] (h:¬q):Le (yj false) (yj<|decide q):=zF (by rw [Jd h])
theorem Ka {q:Prop} [Decidable q] (h:q):Le (yj true) (yj<|decide q):=zF (by rw [Jo h])
end
section
theorem seat_eq (a b:Int × Int) (w:World):(Op.equal 158 (Zy a)<|Zy b).run Tryz.prog w= .ok (decide (a=b)) w:=by
 obtain ⟨a1,a2⟩:=a;obtain ⟨b1,b2⟩:=b;have u3:=Tryz.underlying3;have a3:=Tryz.isAgg3;have z3:=Tryz.sizeOf3;have u4:=Tryz.underlying119;have a4:=Tryz.isAgg119;have z4:=Tryz.sizeOf119
 have h1:Tryz.prog.underlying 158=some (.struct<|Tryz.prog.fieldsOf 158):=by kernel_rfl
 have e:(Op.equal 158 (Zy (a1,a2))<|Zy (b1,b2)).run Tryz.prog w= .ok (a1 == b1 && a2 == b2) w:=by
  unfold Op.equal Zy;rw [show Op.maxDepth=9999 + 1 from rfl,run_equalIn_struct (P:=Tryz.prog) w 9999 158 _ _ h1 k9];simp only [Program.fieldsOf,Tryz.underlying158]
  go_simp
  by_cases h1:a1=b1 <;> by_cases h2:a2=b2 <;> simp [h1,h2]
 have e2:(a1 == b1 && a2 == b2)=decide ((a1,a2)=(b1,b2)):=by
  rw [XH];simp
 rw [e,e2]
theorem seat_chk' (n:Nat) (k:Int × Int) (e:Bool) (w:World):(Instr.checkKey e (n + 1 + 1) 158<|Zy k).run Tryz.prog w= .ok () w:=by
 have u3:=Tryz.underlying3;have a3:=Tryz.isAgg3;have z3:=Tryz.sizeOf3;have u4:=Tryz.underlying119;have a4:=Tryz.isAgg119;have z4:=Tryz.sizeOf119;unfold Instr.checkKey Zy;simp only [JD,Jp Tryz.underlying158,Jv];simp only [Instr.checkKey]
 go_simp
theorem seat_chk (k:Int × Int) (e:Bool) (w:World):(Instr.checkKey e 10000 158<|Zy k).run Tryz.prog w= .ok () w:=seat_chk' 9998 k e w
theorem seat_bits (n:Nat) (k:Int × Int):Instr.sameBits (n + 1) (Zy k) (Zy k)=true:=by simp [Zy,Instr.sameBits]
theorem keySt (p:Int × Int) (ks:List (Int × Int)):KeyOk Tryz.prog 158 Zy p ks:=
 zci k9 seat_eq seat_chk (seat_bits 9999) p ks
theorem zc4 (k:LB) (ks:List LB):KeyOk Tryz.prog 9 Zi k ks:=zd3 k9 k ks
theorem zgA {a b:Int}:Bld Tryz.prog 158 [0,1] [iD a,iD b] [iD a,iD b]:=fun L w vs hv=>by
 obtain ⟨u,v,rfl,rfl,rfl⟩:=zdB hv;exact ⟨[.int .i64 a,.int .i64 b],⟨V,V,t9⟩,fun w'=>by kernel_rfl⟩
theorem bldA0:Bld Tryz.prog 121 [] [] [yY [],iD 0,isD<|.slice none 0 0,iD 0,iD 0]:=fun L w vs h=>by
 obtain rfl:=all0 h;exact ⟨[.string ⟨#[]⟩,.int .i64 0,.slice none 0 0,.int .i64 0,.int .i64 0],⟨V,V,V,V,V,t9⟩,fun w'=>by kernel_rfl⟩
def renNm:Go.Shelf.Ren:=⟨fun | 17=>223 | 22=>161 | 26=>77 | 29=>188 | 30=>189 | 33=>136 | 34=>137 | 36=>213 | 38=>171 | n=>n,
 fun | 0=>0 | 3=>3 | 4=>4 | 9=>9 | 24=>114 | 40=>83 | n=>n,fun n=>n⟩
theorem lays22:Lays2.n22 Tryz.prog renNm where
 mixed:=by kernel_rfl
 f17:=Tryz.func223.trans (JY some k9)
 f22:=Tryz.func161.trans (JY some k9)
 f29:=Tryz.func188.trans (JY some k9)
 f30:=Tryz.func189.trans (JY some k9)
 f36:=Tryz.func213.trans (JY some k9)
 t0:=Tryz.underlying0
 a0:=Tryz.isAgg0
 z0:=Tryz.sizeOf0
 v0:=Tryz.zeroValue0
 t3:=Tryz.underlying3
 a3:=Tryz.isAgg3
 z3:=Tryz.sizeOf3
 v3:=Tryz.zeroValue3
 t4:=Tryz.underlying4
 a4:=Tryz.isAgg4
 z4:=Tryz.sizeOf4
 v4:=Tryz.zeroValue4
 t9:=Tryz.underlying9
 a9:=Tryz.isAgg9
 z9:=Tryz.sizeOf9
 v9:=Tryz.zeroValue9
 t24:=Tryz.underlying114
 a24:=Tryz.isAgg114
 z24:=Tryz.sizeOf114
 v24:=Tryz.zeroValue114
 i9:=by kernel_rfl
theorem lays26:Lays2.n26 Tryz.prog renNm where
 mixed:=by kernel_rfl
 f26:=Tryz.func77.trans (JY some k9)
 f33:=Tryz.func136.trans (JY some k9)
 f34:=Tryz.func137.trans (JY some k9)
 f38:=Tryz.func171.trans (JY some k9)
 t0:=Tryz.underlying0
 a0:=Tryz.isAgg0
 z0:=Tryz.sizeOf0
 v0:=Tryz.zeroValue0
 t3:=Tryz.underlying3
 a3:=Tryz.isAgg3
 z3:=Tryz.sizeOf3
 v3:=Tryz.zeroValue3
 t4:=Tryz.underlying4
 a4:=Tryz.isAgg4
 z4:=Tryz.sizeOf4
 v4:=Tryz.zeroValue4
 t9:=Tryz.underlying9
 a9:=Tryz.isAgg9
 z9:=Tryz.sizeOf9
 v9:=Tryz.zeroValue9
 t24:=Tryz.underlying114
 a24:=Tryz.isAgg114
 z24:=Tryz.sizeOf114
 v24:=Tryz.zeroValue114
 t40:=Tryz.underlying83
 a40:=Tryz.isAgg83
 z40:=Tryz.sizeOf83
 v40:=Tryz.zeroValue83
