/- LEDGERS IN PLAIN LEAN: roots, inclusion paths, consistency paths, what accepts them. No program in sight. LEDGERS IN PLAIN LEAN: the complete subtrees -/
import Derived.Test.YtgokpcnabgacnaaGreatDoorGZAA
import Derived.Test.YtgokpcnabgacnaaGreatDoorGZAF
import Derived.Test.YtgokpcnabgacnaaGreatDoorGZAM
import Derived.Test.YtgokpcnabgacnaaGreatDoorGZAN
set_option maxHeartbeats 8000000
set_option maxRecDepth 100000
namespace Go.Proofs.YtgokpcnabgacnaaGreatDoor
namespace Led
def bl (n:Nat):Nat:=2 ^ Nat.log2 (n - 1)
theorem bl_spec {n:Nat} (h:2≤n):0 < bl n∧bl n < n∧n≤2 * bl n:=by
 unfold bl;have h1:2 ^ Nat.log2 (n - 1)≤n - 1:=Nat.log2_self_le o9;have h2:n - 1 < 2 ^ (Nat.log2 (n - 1) + 1):=Nat.lt_log2_self;rw [Nat.pow_succ] at h2;exact ⟨Nat.pow_pos d9,by omega,by omega⟩
theorem bl_uniq {n i:Nat} (h1:2 ^ i < n) (h2:n≤2 * 2 ^ i):bl n=2 ^ i:=by
 unfold bl
 have:Nat.log2 (n - 1)=i:=by
  have h3:(n - 1)≠0:=by have:0 < 2 ^ i:=Nat.pow_pos d9;omega
  rw [Nat.log2_eq_iff h3];rw [Nat.pow_succ];omega
 rw [this]
structure Ent where
 kind:Int
 bytes:LB
abbrev Dig:=LB
section
variable (H : List UInt8 → Dig)
def leaf (e:Ent):Dig:=H (0 :: UInt8.ofNat e.kind.toNat :: e.bytes)
def join (a b:Dig):Dig:=H (1 :: (a ++ b))
def rootF:Nat→List Ent→Dig
 | 0,_=>H []
 | n + 1,l=>match l with
  | []=>H []
  | [e]=>leaf H e
  | l=>join H (rootF n (l.take (bl l.length))) (rootF n (l.drop (bl l.length)))
def root (l:List Ent):Dig:=rootF H l.length l
theorem rootF_more:∀ (n m:Nat) (l:List Ent),l.length≤n→l.length≤m→rootF H n l=rootF H m l:=by
 intro n
 induction n with
 | zero=>
  intro m l h _;have:l=[]:=List.eq_nil_of_length_eq_zero o9;subst this
  cases m <;> rfl
 | succ n ih=>
  intro m l h hm
  match l,m with
  | [],0=>rfl
  | [],m + 1=>rfl
  | e :: l,0=>simp at hm
  | [e],m + 1=>rfl
  | e :: f :: l,m + 1=>
   have hb:=bl_spec (n:=(e :: f :: l).length) s9
   have h1:((e :: f :: l).take (bl (e :: f :: l).length)).length=bl (e :: f :: l).length:=by rw [List.length_take];omega
   have h2:((e :: f :: l).drop (bl (e :: f :: l).length)).length=(e :: f :: l).length - bl (e :: f :: l).length:=List.length_drop;simp only [rootF];rw [ih m _ o9 o9,ih m _ o9 o9]
theorem rootF_step (n:Nat):∀ {l:List Ent},2≤l.length→rootF H (n + 1) l=join H (rootF H n (l.take (bl l.length))) (rootF H n (l.drop (bl l.length)))
 | e :: f :: l,_=>rfl
 | [],h=>by simp at h
 | [_],h=>by simp at h
theorem root_step {l:List Ent} (h:2≤l.length):root H l=join H (root H (l.take (bl l.length))) (root H (l.drop (bl l.length))):=by
 have hb:=bl_spec h
 have h1:(l.take (bl l.length)).length=bl l.length:=by rw [List.length_take];omega
 have h2:(l.drop (bl l.length)).length=l.length - bl l.length:=List.length_drop;obtain ⟨n,hn⟩:∃ n,l.length=n + 1:=⟨l.length - 1,by omega⟩
 have e1:root H l=rootF H (n + 1) l:=by unfold root;rw [hn]
 rw [e1,rootF_step H n h];unfold root;rw [rootF_more H n (l.take (bl l.length)).length _ o9 (Nat.le_refl _),rootF_more H n (l.drop (bl l.length)).length _ o9 (Nat.le_refl _)]
def consF:Nat→List Ent→Nat→Bool→List Dig
 | 0,_,_,_=>[]
 | n + 1,l,m,outer=>if m=l.length then (if outer=true then [] else [root H l]) else if m≤bl l.length then consF n (l.take (bl l.length)) m outer ++ [root H (l.drop (bl l.length))] else consF n (l.drop (bl l.length)) (m - bl l.length) false ++ [root H (l.take (bl l.length))]
def cons (l:List Ent) (m:Nat) (outer:Bool):List Dig:=consF H l.length l m outer
end
end Led
end Go.Proofs.YtgokpcnabgacnaaGreatDoor
namespace Go.Proofs.YtgokpcnabgacnaaGreatDoor
namespace Led
def up (s j:Nat):List (Nat × Nat):=(s,j) :: (if h:j % 2=1 then up (2 * s) (j / 2) else [])
termination_by j
decreasing_by omega
theorem up_even {s j:Nat} (h:¬j % 2=1):up s j=[(s,j)]:=by rw [up,dif_neg h]
theorem up_odd {s j:Nat} (h:j % 2=1):up s j=(s,j) :: up (2 * s) (j / 2):=by rw [up,dif_pos h]
def keys:Nat→List (Nat × Nat)
 | 0=>[]
 | n + 1=>keys n ++ up 1 n
theorem mem_up:∀ (j s:Nat) (p:Nat × Nat),p∈up s j→(p.2 + 1) * p.1=(j + 1) * s∧s≤p.1∧∃ k,p.1=2 ^ k * s:=by
 intro j
 induction j using Nat.strongRecOn with
 | ind j ih=>
  intro s p hp
  by_cases h:j % 2=1
  ·rw [up_odd h] at hp;rcases List.mem_cons.1 hp with rfl | hp
   ·exact ⟨V,Nat.le_refl _,0,by simp⟩
   ·obtain ⟨h1,h2,k,h3⟩:=ih (j / 2) o9 (2 * s) p hp;refine ⟨?_,by omega,k + 1,?_⟩
    ·rw [h1,← Nat.mul_assoc,show (j / 2 + 1) * 2=j + 1 by omega]
    ·rw [h3,Nat.pow_succ,Nat.mul_assoc]
  ·rw [up_even h] at hp;rw [List.mem_singleton.1 hp];exact ⟨V,Nat.le_refl _,0,by simp⟩
theorem up_mem:∀ (k j s:Nat),2 ^ k ∣ j + 1→(2 ^ k * s,j / 2 ^ k)∈up s j:=by
 intro k
 induction k with
 | zero=>intro j s _;rw [up];simp
 | succ k ih=>
  intro j s h
  have hj:j % 2=1:=by
   have:2 ∣ j + 1:=Nat.dvd_trans (by rw [Nat.pow_succ];exact Nat.dvd_mul_left _ _) h;omega
  have h2:2 ^ k ∣ j / 2 + 1:=by
   have e:j + 1=2 * (j / 2 + 1):=by omega
   rw [e,Nat.pow_succ,Nat.mul_comm (2 ^ k)] at h;exact Nat.dvd_of_mul_dvd_mul_left d9 h
  have:=ih (j / 2) (2 * s) h2;rw [up_odd hj];refine List.mem_cons_of_mem _ ?_;rw [Nat.div_div_eq_div_mul,← Nat.mul_assoc] at this;rw [Nat.pow_succ,Nat.mul_comm (2 ^ k) 2];rw [Nat.mul_comm 2 (2 ^ k)];rwa [Nat.mul_comm 2 (2 ^ k)] at this
theorem mem_keys {n:Nat} {p:Nat × Nat} (h:p∈keys n):(p.2 + 1) * p.1≤n∧∃ k,p.1=2 ^ k:=by
 induction n with
 | zero=>simp [keys] at h
 | succ n ih=>
  rcases List.mem_append.1 h with h | h
  ·obtain ⟨h1,h2⟩:=ih h;exact ⟨by omega,h2⟩
  ·obtain ⟨h1,_,k,h2⟩:=mem_up n 1 p h;exact ⟨by omega,k,by simpa using h2⟩
theorem keys_mem {k j n:Nat} (h:(j + 1) * 2 ^ k≤n):(2 ^ k,j)∈keys n:=by
 induction n with
 | zero=>
  have:0 < (j + 1) * 2 ^ k:=Nat.mul_pos o9 (Nat.pow_pos d9);omega
 | succ n ih=>
  by_cases hn:(j + 1) * 2 ^ k≤n
  ·exact mL _ (ih hn)
  ·have e:n + 1=(j + 1) * 2 ^ k:=by omega
   refine mR _ ?_;have h1:=up_mem k n 1 (by rw [e];exact Nat.dvd_mul_left _ _)
   have h2:n / 2 ^ k=j:=by
    have hp:0 < 2 ^ k:=Nat.pow_pos d9
    have e2:(j + 1) * 2 ^ k=j * 2 ^ k + 2 ^ k:=by rw [Nat.add_mul,Nat.one_mul]
    refine (Nat.div_eq_iff hp).2 ⟨?_,?_⟩ <;> omega
   rw [h2,Nat.mul_one] at h1;exact h1
theorem up_new {s j n:Nat} {old:List (Nat × Nat)} (hs:∀ p∈old,(p.2 + 1) * p.1≤n∨p.1 < s) (hj:(j + 1) * s=n + 1):(s,j)∉old:=fun h=>by
 rcases hs _ h with h' | h'
 ·have:(j + 1) * s≤n:=h';omega
 ·exact Nat.lt_irrefl _ h'
section
variable (H : List UInt8 → Dig)
def val (l:List Ent) (p:Nat × Nat):Dig:=root H ((l.drop (p.2 * p.1)).take p.1)
def spn (l:List Ent) (low n:Nat):Dig:=root H ((l.drop low).take n)
theorem val_app {l:List Ent} {p:Nat × Nat} (h:(p.2 + 1) * p.1≤l.length) (e:Ent):val H (l ++ [e]) p=val H l p:=by
 unfold val
 have e2:(p.2 + 1) * p.1=p.2 * p.1 + p.1:=by rw [Nat.add_mul,Nat.one_mul]
 rw [List.drop_append_of_le_length o9,List.take_append_of_le_length (by rw [List.length_drop];omega)]
theorem val_keys (l:List Ent) (e:Ent):(keys l.length).map (val H (l ++ [e]))=(keys l.length).map (val H l):=by
 refine List.map_congr_left fun p hp=>val_app H (mem_keys hp).1 e
theorem val_one {l:List Ent} {e:Ent}:val H (l ++ [e]) (1,l.length)=leaf H e:=by
 unfold val;simp only [Nat.mul_one];rw [List.drop_left]
 rfl
theorem spn_step {l:List Ent} {low n:Nat} (h:2≤n) (hl:low + n≤l.length):spn H l low n=join H (spn H l low (bl n)) (spn H l (low + bl n) (n - bl n)):=by
 have hb:=bl_spec h
 have hlen:((l.drop low).take n).length=n:=by rw [List.length_take,List.length_drop];omega
 unfold spn;rw [root_step H o9,hlen];congr 1
 ·rw [List.take_take,Nat.min_eq_left o9]
 ·rw [List.drop_take,List.drop_drop]
theorem bl_pow {k:Nat}:bl (2 * 2 ^ k)=2 ^ k:=bl_uniq (by have:0 < 2 ^ k:=Nat.pow_pos d9;omega) (Nat.le_refl _)
theorem val_join {l:List Ent} {k j:Nat} (hj:j % 2=1) (h:(j + 1) * 2 ^ k≤l.length):val H l (2 * 2 ^ k,j / 2)=join H (val H l (2 ^ k,j - 1)) (val H l (2 ^ k,j)):=by
 have hp:0 < 2 ^ k:=Nat.pow_pos d9
 have e1:j / 2 * (2 * 2 ^ k)=(j - 1) * 2 ^ k:=by rw [← Nat.mul_assoc];congr 1;omega
 have e2:(j - 1) * 2 ^ k + 2 ^ k=j * 2 ^ k:=by
  have:(j - 1 + 1) * 2 ^ k=j * 2 ^ k:=by congr 1;omega
  rw [← this,Nat.add_mul,Nat.one_mul]
 have e3:(j + 1) * 2 ^ k=j * 2 ^ k + 2 ^ k:=by rw [Nat.add_mul,Nat.one_mul]
 have h1:=spn_step H (l:=l) (low:=(j - 1) * 2 ^ k) (n:=2 * 2 ^ k) o9 o9;rw [bl_pow,e2,show 2 * 2 ^ k - 2 ^ k=2 ^ k by omega] at h1;unfold val;simp only;rw [e1];exact h1
end
end Led
end Go.Proofs.YtgokpcnabgacnaaGreatDoor
namespace Go.Proofs.YtgokpcnabgacnaaGreatDoor
open Go.RowKit
namespace Sx
end Sx
end Go.Proofs.YtgokpcnabgacnaaGreatDoor
namespace Go.Proofs.YtgokpcnabgacnaaGreatDoor
open Go.RowKit
theorem sum_any (w:World) (B:Option Addr) (d:Nat) (b:LB) (hd:b.length≤d) (hrb:RB w B b) (hbl:b.length≤2305843009213693952) (hgl:Gl w):
  Calls Tryz.prog 154 #[.slice B b.length d] w fun e w'=>e= .returned (.agg (cellsOf (Bl.hash [] b)).toArray)∧Only [] w w':=by
 have hl32:(cellsOf (Bl.hash [] b)).length=32:=by simp
 have hs32:(Tryz.prog.info? 219).map (·.size)=some (cellsOf (Bl.hash [] b)).length:=by rw [hl32];exact arr32size
 have Hs32:=Lib.hid hs32;have Hl32:=Lib.hid hl32;clear hl32 hs32
 go_enter Tryz.func154,Tryz.ntmps154
 go_upto_region 1 with (fail)
 have hR1:=Blk.new w 219 (List.replicate 32 (Value.int .u8 0));have hO1:=(Only.refl [] w).alloc (.cells (List.replicate 32 (Value.int .u8 0)).toArray 219)
 have hs1:(w.alloc (.cells (List.replicate 32 (Value.int .u8 0)).toArray 219)).heap.size=w.heap.size + 1:=by simp
 revert hR1 hO1 hs1
 simp only [List.replicate_succ,List.replicate_zero]
 generalize World.alloc _ _=W1
 intro hR1 hO1 hs1
 have hs1':w.heap.size < W1.heap.size:=by omega
 clear hs1
 go_wp2_with fail
 have hO2:=hO1.alloc (.cells #[.slice B b.length d] 24);refine (hashOf_any _ none 0 [] s9 s9 RB.nil (hgl.keep hO2 s9 s9) W1.heap.size B d b s9 (part_new _ _ _) hd (hrb.keep0 hO2) hbl).mono ?_;rintro e W2 ⟨rfl,hO3⟩;have hR2:=(hR1.alloc (.cells #[.slice B b.length d] 24)).keep hO3 s9;have hO4:=hO2.trans' hO3
 go_wp2_with (refine Yp rfl 219 _ _ rfl w.heap.size (cellsOf (Bl.hash [] b)) rfl rfl 219 _ hR2 (by rw [Hl32.out];rfl) Hs32.out ZI ?_;intro W5 hR5 hO5)
 exact bodyPost_ret (results_cell_row V _ _ w.heap.size 219 (cellsOf (Bl.hash [] b)).toArray (0,0) _ V hR5 Tryz.underlying219 V (by simpa using Hs32.out)) V ⟨V,hO4.trans hO5 s9⟩
end Go.Proofs.YtgokpcnabgacnaaGreatDoor
namespace Go.Proofs.YtgokpcnabgacnaaGreatDoor
open Go.RowKit
namespace Sx
theorem con_sum (b:LB) (hb:b.length≤2305843009213693952):Con Tryz.prog 154 [bD b] (gD (Bl.hash [] b)):=by
 refine ⟨enters_of Tryz.func154 k9 V,fun L w vs hL hG ha=> ?_⟩;obtain ⟨u,rfl,hu⟩:=all1 ha;obtain ⟨A,c,rfl,hc,hr⟩:=b_out hu;refine (sum_any w A c b hc (rb_of_rv hr) hb hG).mono ?_;rintro r w' ⟨rfl,ho⟩;exact ⟨_,V,V,ho⟩
theorem con_hashR (b:LB) (hb:b.length≤1099511627):Con Tryz.prog 175 [isD (.slice none 0 0),bD b] (bD (Bl.hash [] b)):=by
 refine ⟨enters_of Tryz.func175 k9 V,fun L w vs hL hG ha=> ?_⟩;obtain ⟨u,v,rfl,rfl,hv⟩:=all2 ha;obtain ⟨A,c,rfl,hc,hr⟩:=b_out hv;refine (hash_ref w none A 0 c [] b s9 RV.nil hr s9 hc hb).mono ?_;rintro r w' ⟨A',c',G,rfl,hO,hN,ho⟩;refine ⟨_,V,⟨A',c',by rw [zw,Bl.hash_length],?_,hO.reads,fun _ p hp hm=> ?_⟩,ho⟩
 ·rcases hO with ⟨_,_,h,_⟩ | ⟨g,r,_,_,_,h,_⟩
  ·have:=congrArg List.length h;simp at this
  ·omega
 ·rcases hO with ⟨h,_⟩ | ⟨g,r,h1,h2,_⟩
  ·rw [h] at hp;cases hp
  ·rw [h1] at hp;injection hp with hp;subst hp;have:=hN g h2;have:=hL _ hm;simp only at *;omega
abbrev HH:LB→Led.Dig:=Bl.hash []
@[simp] theorem leaf_len (e:Led.Ent):(Led.leaf HH e).length=32:=Bl.hash_length _ _
@[simp] theorem join_len (a b:LB):(Led.join HH a b).length=32:=Bl.hash_length _ _
@[simp] theorem hh_len (b:LB):(HH b).length=32:=Bl.hash_length _ _
@[simp] theorem rootF_len:∀ (n:Nat) (l:List Led.Ent),(Led.rootF HH n l).length=32
 | 0,_=>hh_len _
 | _ + 1,[]=>hh_len _
 | _ + 1,[_]=>leaf_len _
 | _ + 1,_ :: _ :: _=>join_len _ _
@[simp] theorem root_len (l:List Led.Ent):(Led.root HH l).length=32:=rootF_len _ _
@[simp] theorem val_len (l:List Led.Ent) (p:Nat × Nat):(Led.val HH l p).length=32:=root_len _
@[simp] theorem spn_len (l:List Led.Ent) (a b:Nat):(Led.spn HH l a b).length=32:=root_len _
def encE (e:Led.Ent):List D:=[iD e.kind,bD e.bytes]
instance:Row encE 2:=⟨fun _=>rfl,fun x=>by unfold encE;infer_instance,by decide⟩
def encN (p:Nat × Nat):Value:= .agg #[.int .i64 (p.1:Int),.int .i64 (p.2:Int)]
theorem le_key {a b:Int} {p q:Nat} (ha:a=(p:Int)) (hb:b=(q:Int)):Le (Zn [iD a,iD b]) (isD (encN (p,q))):=fun _ _ _ h=>by
 subst ha hb;exact le_agg_is (vs:=[.int .i64 (p:Int),.int .i64 (q:Int)]) _ _ _ h
class IsSl_l (d:D):Prop where
 h:∀ L w v,d.R L w v→∃ A n c,v= .slice A n c
instance (A:Option Addr) (n c:Nat):IsSl_l (isD (.slice A n c)):=⟨fun _ _ _ h=>⟨A,n,c,h⟩⟩
instance (xs:List Value):IsSl_l (slD xs):=⟨fun _ _ _ ⟨A,c,h,_⟩=>⟨A,_,c,h⟩⟩
instance (n:Nat) (ds:List D):IsSl_l (rwD n ds):=⟨fun _ _ _ ⟨A,c,h,_⟩=>⟨A,_,c,h⟩⟩
instance (n:Nat) (d:D) [h:IsSl_l d]:IsSl_l (nwD n d):=⟨fun L w v hv=>h.h _ _ _ (le_nw _ _ _ hv)⟩
theorem bldE2 {k:Int} {f:D} [hd:IsSl_l f]:Bld Tryz.prog 85 [0,1] [iD k,f] [iD k,f]:=fun L w vs hv=>by
 obtain ⟨u,v,rfl,rfl,hu⟩:=all2 hv;obtain ⟨A,n,c,rfl⟩:=hd.h _ _ _ hu;exact ⟨[.int .i64 k,.slice A n c],⟨V,hu,t9⟩,fun w'=>by kernel_rfl⟩
theorem bldE0:Bld Tryz.prog 85 [] [] [iD 0,isD (.slice none 0 0)]:=fun L w vs h=>by
 obtain rfl:=all0 h;exact ⟨[.int .i64 0,.slice none 0 0],⟨V,V,t9⟩,fun w'=>by kernel_rfl⟩
theorem bldN2 {a b:Int}:Bld Tryz.prog 224 [0,1] [iD a,iD b] [iD a,iD b]:=fun L w vs hv=>by
 obtain ⟨u,v,rfl,rfl,rfl⟩:=all2 hv;exact ⟨[.int .i64 a,.int .i64 b],⟨V,V,t9⟩,fun w'=>by kernel_rfl⟩
theorem blsB1 (a:UInt8):Bls Tryz.prog 24 1 [0] [isD (B8 a)] ([a].flatMap ZP):=⟨5,fun L w vs hv=>by
 obtain ⟨u,rfl,rfl⟩:=all1 hv
 exact ⟨[B8 a],⟨V,t9⟩,fun w'=>by kernel_rfl⟩⟩
theorem blsB2 (a b:UInt8):Bls Tryz.prog 24 2 [0,1] [isD (B8 a),isD (B8 b)] ([a,b].flatMap ZP):=⟨5,fun L w vs hv=>by
 obtain ⟨u,v,rfl,rfl,rfl⟩:=all2 hv
 exact ⟨[B8 a,B8 b],⟨V,V,t9⟩,fun w'=>by kernel_rfl⟩⟩
theorem wrap_b8 {k:Int} (h0:0≤k) (h1:k≤255):IntKind.u8.wrap k=((UInt8.ofNat k.toNat).toNat:Int):=by
 rw [wrap_u8 h0 o9];simp;omega
theorem node_eq (a b:Nat × Nat) (w:World):(Op.equal 224 (encN a) (encN b)).run Tryz.prog w= .ok (decide (a=b)) w:=by
 obtain ⟨a1,a2⟩:=a;obtain ⟨b1,b2⟩:=b;have u3:=Tryz.underlying3;have a3:=Tryz.isAgg3;have z3:=Tryz.sizeOf3
 have h1:Tryz.prog.underlying 224=some (.struct (Tryz.prog.fieldsOf 224)):=by kernel_rfl
 have e:(Op.equal 224 (encN (a1,a2)) (encN (b1,b2))).run Tryz.prog w= .ok ((a1:Int) == (b1:Int) && (a2:Int) == (b2:Int)) w:=by
  unfold Op.equal encN;rw [show Op.maxDepth=9999 + 1 from rfl,run_equalIn_struct (P:=Tryz.prog) w 9999 224 _ _ h1 k9];simp only [Program.fieldsOf,Tryz.underlying224]
  go_simp
  by_cases h1:(a1:Int)=(b1:Int) <;> by_cases h2:(a2:Int)=(b2:Int) <;> simp [h1,h2]
 have e2:((a1:Int) == (b1:Int) && (a2:Int) == (b2:Int))=decide ((a1,a2)=(b1,b2)):=by
  rw [Bool.eq_iff_iff];simp;omega
 rw [e,e2]
theorem node_chk' (n:Nat) (k:Nat × Nat) (e:Bool) (w:World):(Instr.checkKey e (n + 1 + 1) 224 (encN k)).run Tryz.prog w= .ok () w:=by
 have u3:=Tryz.underlying3;have a3:=Tryz.isAgg3;have z3:=Tryz.sizeOf3;unfold Instr.checkKey encN;simp only [Sem.run_bind,run_underlying Tryz.underlying224,Result.andThen_ok];simp only [Instr.checkKey]
 go_simp
theorem node_chk (k:Nat × Nat) (e:Bool) (w:World):(Instr.checkKey e 10000 224 (encN k)).run Tryz.prog w= .ok () w:=node_chk' 9998 k e w
theorem node_bits (n:Nat) (k:Nat × Nat):Instr.sameBits (n + 1) (encN k) (encN k)=true:=by simp [encN,Instr.sameBits]
theorem keyN (p:Nat × Nat) (ks:List (Nat × Nat)):KeyOk Tryz.prog 224 encN p ks:=
 keyOk_wide k9 node_eq node_chk (node_bits 9999) p ks
theorem con_sumN (b:LB) (hb:b.length≤2305843009213693952):ConN Tryz.prog 154 [bD b] (gD (HH b)):=
 ⟨(con_sum b hb).en,fun L w vs hL hG ha=>((con_sum b hb).go L w vs hL hG ha).mono fun _ _ ⟨v,hv,hd,ho⟩=>⟨v,hv,zv _ _ _ hd,ho⟩⟩
theorem blsE1 (k:Int) (b:LB):Bls Tryz.prog 40 1 [0] [Zn [iD k,bD b]] ([(⟨k,b⟩:Led.Ent)].flatMap encE):=⟨85,fun L w vs hv=>by
 obtain ⟨u,rfl,cs,rfl,hc⟩:=all1 hv;obtain ⟨x,y,rfl,rfl,hy⟩:=all2 hc;have hy':=hy;obtain ⟨A,c,rfl,-⟩:=hy
 exact ⟨[.int .i64 k,.slice A _ c],⟨V,hy',t9⟩,fun w'=>by kernel_rfl⟩⟩
structure Lst where
 A:Option Addr
 c:Nat
 F:LN
 M:Option Nat
 G:LN
abbrev mkeys (es:List Led.Ent):Nat × Nat→D:=fun p=>gD (Led.val HH es p)
abbrev ledC (g:Nat) (s:Lst) (es:List Led.Ent):Box:= .c g [isD (.slice s.A es.length s.c),isD (.map s.M)]
abbrev ledE (s:Lst) (es:List Led.Ent):Box:= .r s.F (yj 85 2 encE s.A s.c es)
abbrev ledM (s:Lst) (es:List Led.Ent):Box:= .r s.G (mapF s.M encN (Led.keys es.length) (mkeys es))
abbrev ledD (es:List Led.Ent):D:=paD [lsD encE es,mpD encN (Led.keys es.length) (mkeys es)]
theorem le_bool_n_l {n:Nat} {p q:Bool} (h:p=q):Le (yc p) (nwD n (yc q)):=by subst h;exact zv
theorem con_valid (k:Int) (n:Nat):ConN Tryz.prog 89 [Zn [iD k,lenD n]] (yc (decide (0≤k∧k≤255∧n≤65536))):=by
 refine yJ Tryz.func89 k9 V k9 fun base w0=>(zh (zb (zl (S:=[]) (yV V V) ?_)));rintro _ ⟨g1,rfl⟩;refine za V (zg V) (zf (zc (zh (zb (za V (zi (n:=0) V k9) (za V (zj 0 V V V k9 zn) (za V (Z5 V V) (za V (ze V) (zZ 6 V (fun hb6=> ?_) (fun hb6=> ?_))))))))))
 ·skip
  refine zm V V (hb6) V V (zi (n:=0) V k9) (zm V V (hb6) V V (zj 0 V V V k9 zn) (zm V V (hb6) V V (Rd.leq V V) (za V (zD V (hb6) V) (za V (ze V) (zZ 11 V (fun hb11=> ?_) (fun hb11=> ?_))))))
  ·skip
   refine zm V V (hb11) V V (zi (n:=1) V k9) (zm V V (hb11) V V (zj 0 V V V k9 zn) (zm V V (hb11) V V (Rd.lenN (e:=5) V k9) (zm V V (hb11) V V (Rd.leq V V) (za V (zD V (hb11) V) (za V (zg V) (zf (zc (zR (fn:=Tryz.f89) (fun _ _ h=>h) (Rs.le (Rs.one V (zp V)) ?_)))))))));exact le_bool_n_l (by rw [Bool.eq_iff_iff];simp at *;omega)
  ·skip
   refine zo V V (hb11) V V (zo V V (hb11) V V (zo V V (hb11) V V (zo V V (hb11) V V (za V (zy V (hb11) V) (za V (zg V) (zf (zc (zR (fn:=Tryz.f89) (fun _ _ h=>h) (Rs.le (Rs.one V (zp V)) ?_)))))))));exact le_bool_n_l (by rw [Bool.eq_iff_iff];simp at *;omega)
 ·skip
  refine zo V V (hb6) V V (zo V V (hb6) V V (zo V V (hb6) V V (za V (zy V (hb6) V) (za V (ze V) (zo V V (V) V V (zo V V (V) V V (zo V V (V) V V (zo V V (V) V V (za V (zy V (V) V) (za V (zg V) (zf (zc (zR (fn:=Tryz.f89) (fun _ _ h=>h) (Rs.le (Rs.one V (zp V)) ?_))))))))))))));exact le_bool_n_l (by rw [Bool.eq_iff_iff];simp at *;omega)
theorem con_cloneB_l (b:LB) (hb:b.length≤1000000):ConN Tryz.prog 53 [bD b] (bD b):=by
 refine yJ Tryz.func53 k9 V k9 fun base w0=>(zh (SW.lookB 0 V fun A c=>(zb (za V (zg V) (zf (zc (zh (zh (zb (za V (ze V) (za V (Rd.eqN (e:=5) V V k9) (zf (zc (zI V (fun hb4=> ?_) (fun hb4=> ?_)))))))))))))))
 ·refine SW.viewN 0 V hb4 fun hnil=>(zh (zb (za V (zg V) (zf (zc (zR (fn:=Tryz.f53) (fun _ _ h=>h) (Rs.le (Rs.one V (zp V)) ?_)))))));subst hnil;exact Le.trans (zv (x:= .slice none 0 0)) (le_nw_mono (Nat.le_refl _) Zz)
 ·skip
  refine zu (zc (zh (zb (zl (S:=[]) (Ef.lit0 (e:=5) ZP 1 1 k9 k9 V) ?_))));rintro _ ⟨g5,rfl⟩
  refine za V (ze V) (zl (Zf 1 1 1 V V (SrcT.view 0 V V) k9 k9 (by simp <;> omega) d9 (fun _ h=>h) V) ?_)
  rintro _ ⟨A7,F7,c7,rfl⟩;refine za V (zg V) (zf (zc (SW.freezeNB 1 2 V V V (zR (fn:=Tryz.f53) (fun _ _ h=>h) (Rs.le (Rs.one V (zp V)) ?_)))));exact zd _
theorem con_clone (k:Int) (b:LB) (hb:b.length≤1000000):ConN Tryz.prog 139 [Zn [iD k,bD b]] (Zn [iD k,bD b]):=by
 refine yJ Tryz.func139 k9 V k9 fun base w0=>(zh (zb (zl (S:=[]) (yV V V) ?_)));rintro _ ⟨g1,rfl⟩;refine zl (S:=[]) (zH (zs:=[.int .i64 0,.slice none 0 0]) k9 V) ?_;rintro _ ⟨g2,rfl⟩
 refine zf (zc (zh (yh (g2 :: []) (.r 0 (.r 1 (.r 2 (.r 3 (.n 4 (.r 5 (.e 6 .fin .no)) .no))))) k9 k9 (fun d _ _ _ _ h=>by cases d <;> exact h) (zk rfl rfl (zi (n:=0) rfl k9) (zk rfl rfl (zj 0 rfl rfl rfl k9 (yB 1 rfl d9 zn)) (zk rfl rfl (zi (n:=1) rfl k9) (zk rfl rfl (zj 0 rfl rfl rfl k9 (yB 1 rfl d9 zn)) (zY rfl (Ef.callNN [] (con_cloneB_l _ hb) rfl ⟨(zq (zd _)),trivial⟩ rfl) ?_ zA))))))))
 rintro _ rfl;refine zk V V (yr V V bldE2) (zL V (zC 1 V V V k9 V mC) ?_ zA);rintro _ rfl;refine zP (zc (zR (fn:=Tryz.f139) (fun _ _ h=>h) (Rs.le (Rs.one V (yv 1 V V k9)) ?_)));exact (le_nw_agg ⟨zv,(zd _),t9⟩)
theorem con_leaf (k:Int) (b:LB) (hb:b.length≤1000000) (hk:0≤k∧k≤255):ConN Tryz.prog 144 [Zn [iD k,bD b]] (gD (Led.leaf HH ⟨k,b⟩)):=by
 refine yJ Tryz.func144 k9 V k9 fun base w0=>(zh (zb (zl (S:=[]) (yV V V) ?_)));rintro _ ⟨g1,rfl⟩;refine zl (S:=[]) (zH (zs:=cellsOf (List.replicate 32 0)) k9 V) ?_;rintro _ ⟨g2,rfl⟩;refine zf (zc (zh (zb (za V (zi (n:=1) V k9) (za V (zj 0 V V V k9 zn) (za V (Zq (e:=5) V k9) (za V (yM V V ⟨by simp;omega,by simp;omega⟩) (zl (S:=[]) (Ef.makeT (e:=5) (c:=2 + b.length) ZP 1 1 rfl rfl k9 k9 s9 o9 d9 rfl) ?_))))))));rintro _ ⟨g8,rfl⟩;refine za V (zg V) (zf (zc (zh (zb (za V (ze V) (za V (zi (n:=0) V k9) (za V (zj 0 V V V k9 zn) (za V (Ye .i64 V k9 k9 (wrap_b8 hk.1 hk.2)) (zl (S:=[]) (ZB V V (blsB2 0 (UInt8.ofNat k.toNat)) V) ?_)))))))));rintro _ rfl
 refine zl (Zf 2 1 1 V V (SrcT.ls (l:=[_,_]) V) k9 k9 (by simp <;> omega) d9 (fun _ h=>h) V) ?_
 rintro _ ⟨A14,F14,c14,rfl⟩
 refine za V (zg V) (zf (zc (zh (zb (za V (ze V) (za V (zi (n:=1) V k9) (za V (zj 0 V V V k9 zn) (zl (Zf 2 1 1 V V (SrcT.b V) k9 k9 (by simp <;> omega) d9 (fun _ h=>h) V) ?_))))))))
 rintro _ ⟨A18,F18,c18,rfl⟩
 refine SWl.freezeT 2 18 V V (le_ls_b _) (zl (S:=[]) (zz [] ((con_sumN _ (by simp <;> omega))) V ⟨(zq (zd _)),t9⟩ V) ?_)
 rintro _ rfl
 refine zl (S:=[_]) (Z6 1 32 V V V k9 (by first | assumption | simp) (by first | assumption | simp) (m9 V)) ?_
 rintro _ rfl
 refine zf (zc (zR (fn:=Tryz.f144) (fun _ _ h=>h) (Rs.le (Rs.one V (ResV.cellG (n:=32) 1 V V k9 (by first | assumption | simp))) ?_)))
 exact (Le.trans (le_agg_g _) zv)
theorem con_join (a b:LB) (ha:a.length=32) (hb:b.length=32):ConN Tryz.prog 145 [gD a,gD b] (gD (Led.join HH a b)):=by
 refine yJ Tryz.func145 k9 V k9 fun base w0=>(zh (zb (zl (S:=[]) (Ef.boxL V (le_g_agg _) V) ?_)));rintro _ ⟨g2,rfl⟩;refine zl (S:=[]) (Ef.boxL V (le_g_agg _) V) ?_;rintro _ ⟨g3,rfl⟩;refine zl (S:=[]) (zH (zs:=cellsOf (List.replicate 32 0)) k9 V) ?_;rintro _ ⟨g4,rfl⟩;refine zf (zc (zh (zb (zl (S:=[]) (Ef.makeT (e:=5) (c:=65) ZP 1 1 V V k9 k9 V o9 d9 V) ?_))));rintro _ ⟨g6,rfl⟩;refine za V (zg V) (zf (zc (zh (zb (za V (ze V) (zl (S:=[]) (ZB V V (blsB1 1) V) ?_))))));rintro _ rfl
 refine zl (Zf 3 1 1 V V (SrcT.ls (l:=[_]) V) k9 k9 (by simp <;> omega) d9 (fun _ h=>h) V) ?_
 rintro _ ⟨A9,F9,c9,rfl⟩
 refine za V (zg V) (zf (zc (zh (zb (za V (ze V) (za V (Rd.slArr (e:=5) (n:=32) V k9 k9) (zl (Zf 3 1 1 V V (SrcT.box 0 V V (by first | assumption | simp)) k9 k9 (by simp <;> omega) d9 (fun _ h=>h) V) ?_)))))))
 rintro _ ⟨A12,F12,c12,rfl⟩
 refine za V (zg V) (zf (zc (zh (zb (za V (ze V) (za V (Rd.slArr (e:=5) (n:=32) V k9 k9) (zl (Zf 3 1 1 V V (SrcT.box 1 V V (by first | assumption | simp)) k9 k9 (by simp <;> omega) d9 (fun _ h=>h) V) ?_)))))))
 rintro _ ⟨A15,F15,c15,rfl⟩
 refine SWl.freezeT 3 15 V V (le_ls_b _) (zl (S:=[]) (zz [] ((con_sumN _ (by simp <;> omega))) V ⟨(zq (zd _)),t9⟩ V) ?_)
 rintro _ rfl
 refine zl (S:=[_]) (Z6 2 32 V V V k9 (by first | assumption | simp) (by first | assumption | simp) (m9 V)) ?_
 rintro _ rfl
 refine zf (zc (zR (fn:=Tryz.f145) (fun _ _ h=>h) (Rs.le (Rs.one V (ResV.cellG (n:=32) 2 V V k9 (by first | assumption | simp))) ?_)))
 exact (Le.trans (le_agg_g _) zv)
theorem SW.mapNil {P:Program} {Γ:Cx} {σ:St} {Q:Exit→Act→World→Prop} {c:Code} {κ:Type} {enc:κ→Value} {M:Option Nat} {ks:List κ} {ds:List D} {F:LN} (j:Nat) (hj:σ.bx[j]? =some (.r F (mapR M enc ks ds))) (hM:M=none) (h:ks=[]→SW P Γ σ c Q):SW P Γ σ c Q:=fun a w hh=>by
 refine h ?_ a w hh;obtain ⟨es,hm,hk,_⟩:=hh.resAt hj;rcases hm with ⟨_,h2,_⟩ | ⟨g,ck,h2,_⟩
 ·subst h2;simpa using hk.symm
 ·rw [hM] at h2;cases h2
def PInv (n sz j:Nat) (ks:List (Nat × Nat)):Prop:=(∃ r,sz=2 ^ r)∧(j + 1) * sz=n + 1∧ks ++ (Led.up sz j).tail=Led.keys (n + 1)∧(∀ p∈ks,(p.2 + 1) * p.1≤n∨p.1≤sz)∧∀ p∈Led.keys n,p∈ks
theorem PInv.start (n:Nat):PInv n 1 n (Led.keys n ++ [(1,n)]):=by
 refine ⟨⟨0,V⟩,by simp,?_,fun p hp=> ?_,fun p hp=>mL _ hp⟩
 ·show _=Led.keys n ++ Led.up 1 n;rw [Led.up];simp
 ·rcases List.mem_append.1 hp with hp | hp
  ·exact .inl (Led.mem_keys hp).1
  ·simp at hp;subst hp;exact .inr s9
theorem PInv.step {n sz j:Nat} {ks:List (Nat × Nat)} (h:PInv n sz j ks) (hj:j % 2=1):PInv n (2 * sz) (j / 2) (ks ++ [(2 * sz,j / 2)]):=by
 obtain ⟨⟨r,hr⟩,h2,h3,h4,h5⟩:=h;refine ⟨⟨r + 1,by rw [hr,Nat.pow_succ];omega⟩,?_,?_,fun p hp=> ?_,fun p hp=>mL _ (h5 p hp)⟩
 ·have:(j / 2 + 1) * (2 * sz)=(j + 1) * sz:=by
   have e:j=2 * (j / 2) + 1:=by omega
   generalize j / 2=q at *
   subst e;rw [← Nat.mul_assoc];congr 1;omega
  omega
 ·rw [← h3,Led.up_odd hj];rw [Led.up];simp
 ·rcases List.mem_append.1 hp with hp | hp
  ·rcases h4 p hp with h | h
   ·exact .inl h
   ·exact .inr o9
  ·simp at hp;subst hp;exact .inr (Nat.le_refl _)
theorem PInv.fin {n sz j:Nat} {ks:List (Nat × Nat)} (h:PInv n sz j ks) (hj:¬j % 2=1):ks=Led.keys (n + 1):=by
 have:=h.2.2.1;rw [Led.up_even hj] at this;simpa using this
theorem PInv.pos {n sz j:Nat} {ks:List (Nat × Nat)} (h:PInv n sz j ks):0 < sz:=by
 obtain ⟨⟨r,hr⟩,_⟩:=h;rw [hr];exact Nat.pow_pos d9
theorem PInv.le {n sz j:Nat} {ks:List (Nat × Nat)} (h:PInv n sz j ks):sz≤n + 1∧j≤n:=by
 have h0:=h.pos;have h2:=h.2.1
 constructor
 ·rw [← h2];exact Nat.le_mul_of_pos_left _ o9
 ·have:j + 1≤(j + 1) * sz:=Nat.le_mul_of_pos_right _ h0;omega
theorem PInv.left {n sz j:Nat} {ks:List (Nat × Nat)} (h:PInv n sz j ks) (hj:j % 2=1):(sz,j - 1)∈ks:=by
 have h0:=h.pos;obtain ⟨⟨r,hr⟩,h2,_,_,h5⟩:=h;refine h5 _ ?_;subst hr;refine Led.keys_mem ?_
 have:(j - 1 + 1) * 2 ^ r + 2 ^ r=(j + 1) * 2 ^ r:=by
  rw [← Nat.succ_mul];congr 1;omega
 omega
theorem PInv.new {n sz j:Nat} {ks:List (Nat × Nat)} (h:PInv n sz j ks) (hj:j % 2=1):(2 * sz,j / 2)∉ks:=by
 have h0:=h.pos;have h1:=(h.step hj).2.1
 exact Led.up_new (n:=n) (fun p hp=>by
  rcases h.2.2.2.1 p hp with h | h
  ·exact .inl h
  ·exact .inr o9) h1
theorem new_one {n:Nat}:(1,n)∉Led.keys n:=fun h=>by
 have:=(Led.mem_keys h).1;simp at this;omega
theorem PInv.join {n sz j:Nat} {ks:List (Nat × Nat)} {es':List Led.Ent} (h:PInv n sz j ks) (hj:j % 2=1) (hl:es'.length=n + 1):Led.join HH (Led.val HH es' (sz,j - 1)) (Led.val HH es' (sz,j))=Led.val HH es' (2 * sz,j / 2):=by
 obtain ⟨⟨r,hr⟩,h2,_⟩:=h;subst hr;rw [Led.val_join HH hj o9]
theorem mkeys_app (es:List Led.Ent) (e:Led.Ent):(Led.keys es.length).map (mkeys es)=(Led.keys es.length).map (mkeys (es ++ [e])):=by
 have h:=congrArg (List.map gD) (Led.val_keys HH es e);simp only [List.map_map] at h;exact h.symm
theorem con_push0 (gl:Nat) (sA:Option Addr) (sc:Nat) (sF sG:LN) (es es':List Led.Ent) (k:Int) (b:LB) (A:Option Addr) (c:Nat) (F:LN) (R:Res) (hR:YB R (.slice A b.length c) (cellsOf b)) (hb:b.length≤1000000) (hk:0≤k∧k≤255) (hn:es.length≤100000) (he:es'=es ++ [⟨k,b⟩]):ConR Tryz.prog 90 [.c gl [isD (.slice sA es.length sc),isD (.map none)],ledE ⟨sA,sc,sF,none,sG⟩ es,ledM ⟨sA,sc,sF,none,sG⟩ es,.r F R] [pA gl,Zn [iD k,isD (.slice A b.length c)]] (fun s:Lst=>[.c gl [isD (.slice s.A (es').length s.c),isD (.map s.M)],ledE s es',ledM s es',.r F R]) (fun s:Lst=>isD (.tuple #[])):=by
 have hl:es'.length=es.length + 1:=by rw [he];simp
 refine zW Tryz.func90 k9 V k9 fun base w0=>(zh (SW.mapNil 2 V V fun hk0=>(zb (zl (S:=[]) (yV V V) ?_))));rintro _ ⟨g3,rfl⟩
 refine zf (zc (zh (zb (za V (ze V) (za V (zt V) (za V (zi (n:=0) V k9) (za V (zj 0 V V V k9 zn) (za V (YJ (e:=85) V k9) (za V (zg V) (zf (zc (zh (yh (sF ++ (gl :: [])) (.r 0 (.r 1 (.r 2 (.r 3 (.q 4 (.r 5 (.n 6 (.n 7 (.e 8 (.r 9 (.r 10 (.e 11 .fin .no))) .no) .no) .no))))))) k9 k9 (fun d _ _ _ _ h=>by cases d <;> exact h) (zk rfl rfl (ze rfl) (zk rfl rfl (ze rfl) (zk rfl rfl (zt rfl) (zk rfl rfl (zi (n:=0) rfl k9) (SWz.rq rfl rfl (zj 0 rfl rfl rfl k9 zn) (zk rfl rfl (zG 4 2 rfl rfl k9 rfl (zO 1 rfl d9 (yB 0 rfl d9 zn))) (zY rfl (zz [3] (con_clone _ _ (by first | assumption | omega)) rfl ⟨(sees_agg ⟨(zq (zd _)),(sees_view 3 rfl hR d9),trivial⟩),trivial⟩ rfl) ?_ zA))))))))))))))))))))
 rintro _ rfl;refine zY V (ZB V V (blsE1 k b) V) ?_ zA;rintro _ rfl
 refine zL V (Zf 1 2 32 V V (SrcT.ls (l:=[_]) V) k9 k9 (by simp <;> omega) d9 (fun _ h=>mL _ h) V) ?_ zA
 rintro _ ⟨A20,F20,c20,rfl⟩;refine zk V V (zt V) (zk V V (zi (n:=0) V k9) (zL V (zN 0 V V V k9 V ((mR _ mC))) ?_ zA));rintro _ rfl;refine zP (zc (zh (zh (zb (za V (ze V) (za V (zt V) (za V (zi (n:=1) V k9) (za V (zj 0 V V V k9 zn) (za V (Rd.eqM (kt:=224) (et:=219) V V k9) (zf (zc (yd V (V) (zb (za V (ze V) (zl (S:=[]) (Ef.makeMapF (enc:=encN) (mkeys es') V) ?_)))))))))))))));rintro _ ⟨g29,rfl⟩;refine za V (zt V) (za V (zi (n:=1) V k9) (zl (S:=[_]) (zN 0 V V V k9 V (m9 V)) ?_));rintro _ rfl
 refine zf (zc (zh (zb (za V (zG 3 2 V V k9 V zn) (zl (S:=[]) (zz [2] (con_leaf _ _ (by first | assumption | omega) (by first | assumption | omega)) V ⟨(sees_agg ⟨(zq (zd _)),(sees_view 2 V hR d9),t9⟩),t9⟩ V) ?_)))))
 rintro _ rfl;refine zl (S:=[]) (zH (zs:=cellsOf (List.replicate 32 0)) k9 V) ?_;rintro _ ⟨g5,rfl⟩
 refine zl (S:=[_]) (Z6 6 32 V V V k9 (by first | assumption | simp) (by first | assumption | simp) (m9 V)) ?_
 rintro _ rfl;refine zf (zc (zh (zb (za V (ze V) (za V (yr V V bldN2) (zl (S:=[]) (zH (zs:=[.int .i64 0,.int .i64 0]) k9 V) ?_))))));rintro _ ⟨g6,rfl⟩;refine zl (S:=[_]) (zC 7 V V V k9 V (m9 V)) ?_;rintro _ rfl
 refine zf (zc (zh (zQ (σ':=zK [(0,pA gl),(5,pA g5),(6,pA g6)] [.c gl [isD (.slice A20 (es').length c20),isD (.map (some g29))],.r F20 (yj 85 2 encE A20 c20 es'),.r [g29] (mapF (some g29) encN ([]) (mkeys es')),.r F R,.c g5 ((cellsOf (Led.val HH es' (1,es.length))).map isD),.c g6 [iD (1),iD ((es.length:Int))]]) (⟨⟨_,V,(sT V)⟩,[0,4,5,2,6,7],by decide,⟨⟨_,rfl,⟨zE (by rw [he]),zd _,trivial⟩⟩,⟨⟨_,rfl,Z9 (by rw [he]) (by rw [he])⟩,⟨lR rfl,⟨lR rfl,⟨⟨_,rfl,(by rw [he,Led.val_one];exact yl _)⟩,⟨la rfl,trivial⟩⟩⟩⟩⟩⟩⟩) (yh ([g29] ++ []) (.r 0 (.r 1 (.r 2 (.r 3 (.r 4 (.r 5 (.e 6 .fin .no))))))) k9 k9 (fun d _ _ _ _ h=>by cases d <;> exact h) (zk rfl rfl (ze rfl) (zk rfl rfl (zt rfl) (zk rfl rfl (zi (n:=1) rfl k9) (zk rfl rfl (zj 0 rfl rfl rfl k9 (zO 2 rfl d9 zn)) (zk rfl rfl (zG 5 2 rfl rfl k9 rfl (zO 2 rfl d9 zn)) (zk rfl rfl (Rd.loadG 4 32 rfl rfl k9 (by first | assumption | simp) (zO 2 rfl d9 zn)) (zL rfl (Ef.mapNewF (kt:=224) (et:=219) 2 rfl rfl rfl (le_key rfl rfl) rfl rfl k9 (keyN _ _) s9 (fun _ h=>mL _ h)) ?_ zA)))))))))))
 rintro _ rfl;refine zP (zc (zV (Zk (ι:={q:Nat × Nat × List (Nat × Nat) // PInv es.length q.1 q.2.1 q.2.2}) (fun q=>zK [(0,pA gl),(5,pA g5),(6,pA g6)] [.c gl [isD (.slice A20 (es').length c20),isD (.map (some g29))],.r F20 (yj 85 2 encE A20 c20 es'),.r [g29] (mapF (some g29) encN (q.1.2.2) (mkeys es')),.r F R,.c g5 ((cellsOf (Led.val HH es' (q.1.1,q.1.2.1))).map isD),.c g6 [iD ((q.1.1:Int)),iD ((q.1.2.1:Int))]]) (fun q=>q.1.2.1) (⟨(1,es.length,Led.keys es.length ++ [(1,es.length)]),PInv.start _⟩) ?_ ?_)))
 ·exact ⟨⟨_,V,(sT V)⟩,[0,1,5,2,3,4],by decide,⟨la rfl,⟨lR rfl,⟨⟨_,rfl,leMap (by dsimp only;rw [hk0]) (by dsimp only;rw [hk0])⟩,(sX rfl)⟩⟩⟩⟩
 ·rintro ⟨⟨sz,j,ks⟩,hI⟩ K0 hK0;dsimp only at hI ⊢;refine zh (zh (zb (za V (zi (n:=1) V k9) (za V (zj 5 V V V k9 zn) (za V (Rd.remN V V ⟨by omega,by omega⟩) (za rfl (yY rfl rfl) (zf (zc (zI rfl (fun hb45=> ?_) (fun hb45=> ?_))))))))))
  ·have hb45:j % 2=1:=by have:=oT hb45;omega
   refine zu (zc (zV (zh (yh (g5 :: []) (.r 0 (.r 1 (.r 2 (.r 3 (.r 4 (.r 5 (.r 6 (.r 7 (.r 8 (.r 9 (.r 10 (.q 11 (.n 12 (.e 13 .fin .no) .no))))))))))))) k9 k9 (fun d _ _ _ _ h=>by cases d <;> exact h) (zk rfl rfl (ze rfl) (zk rfl rfl (zt rfl) (zk rfl rfl (zi (n:=1) rfl k9) (zk rfl rfl (zj 0 rfl rfl rfl k9 (yB 4 rfl d9 zn)) (zk rfl rfl (zi (n:=0) rfl k9) (zk rfl rfl (zj 5 rfl rfl rfl k9 (yB 4 rfl d9 zn)) (zk rfl rfl (zi (n:=1) rfl k9) (zk rfl rfl (zj 5 rfl rfl rfl k9 (yB 4 rfl d9 zn)) (zk rfl rfl (Rd.subi rfl rfl ⟨by have:=hI.le;omega,by have:=hI.le;omega⟩) (zk rfl rfl (yr rfl rfl bldN2) (zk rfl rfl (Rd.lookF (kt:=224) (et:=219) 2 rfl rfl rfl (le_key rfl o9) k9 (keyN _ _) (hI.left hb45) (yB 4 rfl d9 zn)) (SWz.rq rfl rfl (Rd.loadG 4 32 rfl rfl k9 (by first | assumption | simp) zn) (zY rfl (zz [] (con_join _ _ (by first | assumption | simp) (by first | assumption | simp)) rfl ⟨(zq (zd _)),(zq (zd _)),trivial⟩ rfl) ?_ zA)))))))))))))))))
   rintro _ rfl
   refine zL V (Z6 4 32 V V V k9 (by first | assumption | simp) (by first | assumption | simp) mC) ?_ zA
   rintro _ rfl;refine zP (zc (zh (zb (za V (zi (n:=0) V k9) (za V (zj 5 V V V k9 zn) (za V (Rd.mul V V ⟨by have:=hI.le;omega,by have:=hI.le;omega⟩) (za rfl (zi (n:=1) rfl k9) (za rfl (zj 5 rfl rfl rfl k9 zn) (za rfl (Rd.quoN rfl rfl ⟨by omega,by have:=hI.le;omega,by omega⟩) (za rfl (yr rfl rfl bldN2) (zl (S:=[_]) (zC 5 rfl rfl rfl k9 rfl (m9 rfl)) ?_)))))))))));rintro _ rfl
   refine zf (zc (yh ([g29] ++ []) (.r 0 (.r 1 (.r 2 (.r 3 (.r 4 (.r 5 (.e 6 .fin .no))))))) k9 k9 (fun d _ _ _ _ h=>by cases d <;> exact h) (zk rfl rfl (ze rfl) (zk rfl rfl (zt rfl) (zk rfl rfl (zi (n:=1) rfl k9) (zk rfl rfl (zj 0 rfl rfl rfl k9 (zO 2 rfl d9 zn)) (zk rfl rfl (zG 5 2 rfl rfl k9 rfl (zO 2 rfl d9 zn)) (zk rfl rfl (Rd.loadG 4 32 rfl rfl k9 (by first | assumption | simp) (zO 2 rfl d9 zn)) (zL rfl (Ef.mapNewF (kt:=224) (et:=219) 2 rfl rfl rfl (le_key o9 o9) rfl (by show gD _=gD _;rw [hI.join hb45 hl]) k9 (keyN _ _) (hI.new hb45) (fun _ h=>mL _ h)) ?_ zA)))))))))
   rintro _ rfl
   exact zP (yf (fun a w hh=>hK0 (⟨(2 * sz,j / 2,ks ++ [(2 * sz,j / 2)]),hI.step hb45⟩) (by simp only;omega) a w (hh.sub (⟨⟨_,V,(sT V)⟩,[0,1,5,2,3,4],by decide,⟨la rfl,⟨lR rfl,⟨lR rfl,⟨lR rfl,⟨⟨_,rfl,(by rw [← hI.join hb45 hl];exact yl _)⟩,⟨⟨_,rfl,⟨zE (by congr 1 <;> omega),zE (by congr 1 <;> omega),trivial⟩⟩,trivial⟩⟩⟩⟩⟩⟩⟩))))
  ·have hb45:¬j % 2=1:=by have:=oF hb45;omega
   refine yW ?_
   repeat (first | refine Za ?_ | refine Zb d9 ?_)
   refine Zi ?_;refine Zv (fn:=Tryz.f90) (⟨A20,c20,F20,some g29,[g29]⟩) [0,1,2,3] (Rs.none V) d9 ⟨la V,⟨lR V,⟨⟨_,V,leMap (by rw [hI.fin hb45,hl]) (by rw [hI.fin hb45,hl])⟩,⟨lR V,t9⟩⟩⟩⟩
theorem con_push1 (gl:Nat) (sA:Option Addr) (sc:Nat) (sF sG:LN) (gm:Nat) (es es':List Led.Ent) (k:Int) (b:LB) (A:Option Addr) (c:Nat) (F:LN) (R:Res) (hR:YB R (.slice A b.length c) (cellsOf b)) (hb:b.length≤1000000) (hk:0≤k∧k≤255) (hn:es.length≤100000) (he:es'=es ++ [⟨k,b⟩]):ConR Tryz.prog 90 [.c gl [isD (.slice sA es.length sc),isD (.map (some gm))],ledE ⟨sA,sc,sF,(some gm),sG⟩ es,ledM ⟨sA,sc,sF,(some gm),sG⟩ es,.r F R] [pA gl,Zn [iD k,isD (.slice A b.length c)]] (fun s:Lst=>[.c gl [isD (.slice s.A (es').length s.c),isD (.map s.M)],ledE s es',ledM s es',.r F R]) (fun s:Lst=>isD (.tuple #[])):=by
 have hl:es'.length=es.length + 1:=by rw [he];simp
 refine zW Tryz.func90 k9 V k9 fun base w0=>(zh (zb (zl (S:=[]) (yV V V) ?_)));rintro _ ⟨g3,rfl⟩
 refine zf (zc (zh (zb (za V (ze V) (za V (zt V) (za V (zi (n:=0) V k9) (za V (zj 0 V V V k9 zn) (za V (YJ (e:=85) V k9) (za V (zg V) (zf (zc (zh (yh (sF ++ (gl :: [])) (.r 0 (.r 1 (.r 2 (.r 3 (.q 4 (.r 5 (.n 6 (.n 7 (.e 8 (.r 9 (.r 10 (.e 11 .fin .no))) .no) .no) .no))))))) k9 k9 (fun d _ _ _ _ h=>by cases d <;> exact h) (zk rfl rfl (ze rfl) (zk rfl rfl (ze rfl) (zk rfl rfl (zt rfl) (zk rfl rfl (zi (n:=0) rfl k9) (SWz.rq rfl rfl (zj 0 rfl rfl rfl k9 zn) (zk rfl rfl (zG 4 2 rfl rfl k9 rfl (zO 1 rfl d9 (yB 0 rfl d9 zn))) (zY rfl (zz [3] (con_clone _ _ (by first | assumption | omega)) rfl ⟨(sees_agg ⟨(zq (zd _)),(sees_view 3 rfl hR d9),trivial⟩),trivial⟩ rfl) ?_ zA))))))))))))))))))))
 rintro _ rfl;refine zY V (ZB V V (blsE1 k b) V) ?_ zA;rintro _ rfl
 refine zL V (Zf 1 2 32 V V (SrcT.ls (l:=[_]) V) k9 k9 (by simp <;> omega) d9 (fun _ h=>mL _ h) V) ?_ zA
 rintro _ ⟨A20,F20,c20,rfl⟩;refine zk V V (zt V) (zk V V (zi (n:=0) V k9) (zL V (zN 0 V V V k9 V ((mR _ mC))) ?_ zA));rintro _ rfl
 refine zP (zc (zh (zh (zb (za V (ze V) (za V (zt V) (za V (zi (n:=1) V k9) (za V (zj 0 V V V k9 zn) (za V (Rd.eqM (kt:=224) (et:=219) V V k9) (zf (zc (zB V (V) (zu (zc (zh (zb (za V (zG 3 2 V V k9 V zn) (zl (S:=[]) (zz [2] (con_leaf _ _ (by first | assumption | omega) (by first | assumption | omega)) V ⟨(sees_agg ⟨(zq (zd _)),(sees_view 2 V hR d9),t9⟩),t9⟩ V) ?_))))))))))))))))))
 rintro _ rfl;refine zl (S:=[]) (zH (zs:=cellsOf (List.replicate 32 0)) k9 V) ?_;rintro _ ⟨g5,rfl⟩
 refine zl (S:=[_]) (Z6 5 32 V V V k9 (by first | assumption | simp) (by first | assumption | simp) (m9 V)) ?_
 rintro _ rfl;refine zf (zc (zh (zb (za V (ze V) (za V (yr V V bldN2) (zl (S:=[]) (zH (zs:=[.int .i64 0,.int .i64 0]) k9 V) ?_))))));rintro _ ⟨g6,rfl⟩;refine zl (S:=[_]) (zC 6 V V V k9 V (m9 V)) ?_;rintro _ rfl
 refine zf (zc (zh (zQ (σ':=zK [(0,pA gl),(5,pA g5),(6,pA g6)] [.c gl [isD (.slice A20 (es').length c20),isD (.map (some gm))],.r F20 (yj 85 2 encE A20 c20 es'),.r sG (mapF (some gm) encN (Led.keys es.length) (mkeys es')),.r F R,.c g5 ((cellsOf (Led.val HH es' (1,es.length))).map isD),.c g6 [iD (1),iD ((es.length:Int))]]) (⟨⟨_,V,(sT V)⟩,[0,4,1,2,5,6],by decide,⟨⟨_,rfl,⟨zE (by rw [he]),zd _,trivial⟩⟩,⟨⟨_,rfl,Z9 (by rw [he]) (by rw [he])⟩,⟨⟨_,rfl,leMap rfl (by rw [he];exact mkeys_app _ _)⟩,⟨lR rfl,⟨⟨_,rfl,(by rw [he,Led.val_one];exact yl _)⟩,⟨la rfl,trivial⟩⟩⟩⟩⟩⟩⟩) (yh (sG ++ []) (.r 0 (.r 1 (.r 2 (.r 3 (.r 4 (.r 5 (.e 6 .fin .no))))))) k9 k9 (fun d _ _ _ _ h=>by cases d <;> exact h) (zk rfl rfl (ze rfl) (zk rfl rfl (zt rfl) (zk rfl rfl (zi (n:=1) rfl k9) (zk rfl rfl (zj 0 rfl rfl rfl k9 (zO 2 rfl d9 zn)) (zk rfl rfl (zG 5 2 rfl rfl k9 rfl (zO 2 rfl d9 zn)) (zk rfl rfl (Rd.loadG 4 32 rfl rfl k9 (by first | assumption | simp) (zO 2 rfl d9 zn)) (zL rfl (Ef.mapNewF (kt:=224) (et:=219) 2 rfl rfl rfl (le_key rfl rfl) rfl rfl k9 (keyN _ _) new_one (fun _ h=>mL _ h)) ?_ zA)))))))))))
 rintro _ rfl;refine zP (zc (zV (Zk (ι:={q:Nat × Nat × List (Nat × Nat) // PInv es.length q.1 q.2.1 q.2.2}) (fun q=>zK [(0,pA gl),(5,pA g5),(6,pA g6)] [.c gl [isD (.slice A20 (es').length c20),isD (.map (some gm))],.r F20 (yj 85 2 encE A20 c20 es'),.r sG (mapF (some gm) encN (q.1.2.2) (mkeys es')),.r F R,.c g5 ((cellsOf (Led.val HH es' (q.1.1,q.1.2.1))).map isD),.c g6 [iD ((q.1.1:Int)),iD ((q.1.2.1:Int))]]) (fun q=>q.1.2.1) (⟨(1,es.length,Led.keys es.length ++ [(1,es.length)]),PInv.start _⟩) ?_ ?_)))
 ·exact (sB [0,1,5,2,3,4] V V)
 ·rintro ⟨⟨sz,j,ks⟩,hI⟩ K0 hK0;dsimp only at hI ⊢;refine zh (zh (zb (za V (zi (n:=1) V k9) (za V (zj 5 V V V k9 zn) (za V (Rd.remN V V ⟨by omega,by omega⟩) (za rfl (yY rfl rfl) (zf (zc (zI rfl (fun hb45=> ?_) (fun hb45=> ?_))))))))))
  ·have hb45:j % 2=1:=by have:=oT hb45;omega
   refine zu (zc (zV (zh (yh (g5 :: []) (.r 0 (.r 1 (.r 2 (.r 3 (.r 4 (.r 5 (.r 6 (.r 7 (.r 8 (.r 9 (.r 10 (.q 11 (.n 12 (.e 13 .fin .no) .no))))))))))))) k9 k9 (fun d _ _ _ _ h=>by cases d <;> exact h) (zk rfl rfl (ze rfl) (zk rfl rfl (zt rfl) (zk rfl rfl (zi (n:=1) rfl k9) (zk rfl rfl (zj 0 rfl rfl rfl k9 (yB 4 rfl d9 zn)) (zk rfl rfl (zi (n:=0) rfl k9) (zk rfl rfl (zj 5 rfl rfl rfl k9 (yB 4 rfl d9 zn)) (zk rfl rfl (zi (n:=1) rfl k9) (zk rfl rfl (zj 5 rfl rfl rfl k9 (yB 4 rfl d9 zn)) (zk rfl rfl (Rd.subi rfl rfl ⟨by have:=hI.le;omega,by have:=hI.le;omega⟩) (zk rfl rfl (yr rfl rfl bldN2) (zk rfl rfl (Rd.lookF (kt:=224) (et:=219) 2 rfl rfl rfl (le_key rfl o9) k9 (keyN _ _) (hI.left hb45) (yB 4 rfl d9 zn)) (SWz.rq rfl rfl (Rd.loadG 4 32 rfl rfl k9 (by first | assumption | simp) zn) (zY rfl (zz [] (con_join _ _ (by first | assumption | simp) (by first | assumption | simp)) rfl ⟨(zq (zd _)),(zq (zd _)),trivial⟩ rfl) ?_ zA)))))))))))))))))
   rintro _ rfl
   refine zL V (Z6 4 32 V V V k9 (by first | assumption | simp) (by first | assumption | simp) mC) ?_ zA
   rintro _ rfl;refine zP (zc (zh (zb (za V (zi (n:=0) V k9) (za V (zj 5 V V V k9 zn) (za V (Rd.mul V V ⟨by have:=hI.le;omega,by have:=hI.le;omega⟩) (za rfl (zi (n:=1) rfl k9) (za rfl (zj 5 rfl rfl rfl k9 zn) (za rfl (Rd.quoN rfl rfl ⟨by omega,by have:=hI.le;omega,by omega⟩) (za rfl (yr rfl rfl bldN2) (zl (S:=[_]) (zC 5 rfl rfl rfl k9 rfl (m9 rfl)) ?_)))))))))));rintro _ rfl
   refine zf (zc (yh (sG ++ []) (.r 0 (.r 1 (.r 2 (.r 3 (.r 4 (.r 5 (.e 6 .fin .no))))))) k9 k9 (fun d _ _ _ _ h=>by cases d <;> exact h) (zk rfl rfl (ze rfl) (zk rfl rfl (zt rfl) (zk rfl rfl (zi (n:=1) rfl k9) (zk rfl rfl (zj 0 rfl rfl rfl k9 (zO 2 rfl d9 zn)) (zk rfl rfl (zG 5 2 rfl rfl k9 rfl (zO 2 rfl d9 zn)) (zk rfl rfl (Rd.loadG 4 32 rfl rfl k9 (by first | assumption | simp) (zO 2 rfl d9 zn)) (zL rfl (Ef.mapNewF (kt:=224) (et:=219) 2 rfl rfl rfl (le_key o9 o9) rfl (by show gD _=gD _;rw [hI.join hb45 hl]) k9 (keyN _ _) (hI.new hb45) (fun _ h=>mL _ h)) ?_ zA)))))))))
   rintro _ rfl
   exact zP (yf (fun a w hh=>hK0 (⟨(2 * sz,j / 2,ks ++ [(2 * sz,j / 2)]),hI.step hb45⟩) (by simp only;omega) a w (hh.sub (⟨⟨_,V,(sT V)⟩,[0,1,5,2,3,4],by decide,⟨la rfl,⟨lR rfl,⟨lR rfl,⟨lR rfl,⟨⟨_,rfl,(by rw [← hI.join hb45 hl];exact yl _)⟩,⟨⟨_,rfl,⟨zE (by congr 1 <;> omega),zE (by congr 1 <;> omega),trivial⟩⟩,trivial⟩⟩⟩⟩⟩⟩⟩))))
  ·have hb45:¬j % 2=1:=by have:=oF hb45;omega
   refine yW ?_
   repeat (first | refine Za ?_ | refine Zb d9 ?_)
   refine Zi ?_;refine Zv (fn:=Tryz.f90) (⟨A20,c20,F20,some gm,sG⟩) [0,1,2,3] (Rs.none V) d9 ⟨la V,⟨lR V,⟨⟨_,V,leMap (by rw [hI.fin hb45,hl]) (by rw [hI.fin hb45,hl])⟩,⟨lR V,t9⟩⟩⟩⟩
theorem con_push (gl:Nat) (s:Lst) (es es':List Led.Ent) (k:Int) (b:LB) (A:Option Addr) (c:Nat) (F:LN) (R:Res) (hR:YB R (.slice A b.length c) (cellsOf b)) (hb:b.length≤1000000) (hk:0≤k∧k≤255) (hn:es.length≤100000) (he:es'=es ++ [⟨k,b⟩]):
  ConR Tryz.prog 90 [ledC gl s es,ledE s es,ledM s es,.r F R] [pA gl,Zn [iD k,isD (.slice A b.length c)]] (fun s:Lst=>[ledC gl s es',ledE s es',ledM s es',.r F R]) (fun _=>isD (.tuple #[])):=by
 obtain ⟨sA,sc,sF,M,sG⟩:=s
 cases M with
 | none=>exact con_push0 gl sA sc sF sG es es' k b A c F R hR hb hk hn he
 | some gm=>exact con_push1 gl sA sc sF sG gm es es' k b A c F R hR hb hk hn he
theorem con_len (es:List Led.Ent):ConN Tryz.prog 37 [ledD es] (iD (es.length:Int)):=by
 refine yJ Tryz.func37 k9 V k9 fun base w0=>(zh (zb (za V (zg V) (zf (zc (zh (zh (zb (za V (ze V) (za V (Rd.eqPA V V k9) (zf (zc (zB V (V) (zu (zc (zh (zb (za V (ze V) (za V (yx V) (za V (yk (n:=0) V k9 (show 0 < 2 by decide)) (za rfl (yi rfl rfl k9 s9) (za rfl (Zw (e:=85) rfl k9) (za rfl (zg rfl) (zf (zc (zR (fn:=Tryz.f37) (fun _ _ h=>h) (Rs.le (Rs.one rfl (zp rfl)) ?_)))))))))))))))))))))))))));exact zv
theorem con_at_no (es:List Led.Ent) (i:Int) (h:i < 0∨(es.length:Int)≤i):ConN Tryz.prog 80 [ledD es,iD i] (Yv [Zn [iD 0,bD []],iD 3]):=by
 refine yJ Tryz.func80 k9 V k9 fun base w0=>(zh (zb (zl (S:=[]) (zH (zs:=[.int .i64 0,.slice none 0 0]) k9 V) ?_)));rintro _ ⟨g4,rfl⟩;refine za V (zg V) (zf (zc (zh (zh (zb (za V (ze V) (za V (Rd.eqPA V V k9) (zf (zc (zB V (V) (zu (zc (zh (zh (zb (za V (ze V) (za V (yG V V) (za V (ze V) (zZ 11 V (fun hb11=> ?_) (fun hb11=> ?_))))))))))))))))))))
 ·skip
  refine zo V V (hb11) V V (zo V V (hb11) V V (zo V V (hb11) V V (zo V V (hb11) V V (zo V V (hb11) V V (zo V V (hb11) V V (zo V V (hb11) V V (za V (zD V (hb11) V) (zf (zc (yd V (V) (zh (zb (za V (yr V V bldE0) (zl (S:=[_]) (zC 0 V V V k9 V (m9 V)) ?_))))))))))))));rintro _ rfl;refine za V (zg V) (zf (zc (zR (fn:=Tryz.f80) (fun _ _ h=>h) (Rs.le (yN V (yv 0 V V k9) (zp V)) ?_))));exact le_nw_tup ⟨le_nw_agg ⟨zv,Le.trans (zv (x:= .slice none 0 0)) (le_nw_mono (Nat.le_refl _) Zz),t9⟩,zv,t9⟩
 ·skip
  refine zm V V (hb11) V V (ze V) (zm V V (hb11) V V (ze V) (zm V V (hb11) V V (yx V) (zm V V (hb11) V V (yk (n:=0) V k9 (show 0 < 2 by decide)) (zm rfl rfl (hb11) rfl rfl (yi rfl rfl k9 s9) (zm rfl rfl (hb11) rfl rfl (Zw (e:=85) rfl k9) (zm rfl rfl (hb11) rfl rfl (Z5 rfl rfl) (za rfl (zy rfl (hb11) rfl) (zf (zc (yd rfl (by first | rfl | (apply decide_eq_true;simp at *;omega)) (zh (zb (za rfl (yr rfl rfl bldE0) (zl (S:=[_]) (zC 0 rfl rfl rfl k9 rfl (m9 rfl)) ?_))))))))))))))
  rintro _ rfl;refine za V (zg V) (zf (zc (zR (fn:=Tryz.f80) (fun _ _ h=>h) (Rs.le (yN V (yv 0 V V k9) (zp V)) ?_))));exact le_nw_tup ⟨le_nw_agg ⟨zv,Le.trans (zv (x:= .slice none 0 0)) (le_nw_mono (Nat.le_refl _) Zz),t9⟩,zv,t9⟩
theorem con_at (es:List Led.Ent) (i:Nat) (e:Led.Ent) (h:es[i]? =some e) (hb:e.bytes.length≤1000000):ConN Tryz.prog 80 [ledD es,iD (i:Int)] (Yv [Zn [iD e.kind,bD e.bytes],iD 0]):=by
 have hi:=(List.getElem?_eq_some_iff.1 h).1;refine yJ Tryz.func80 k9 V k9 fun base w0=>(zh (zb (zl (S:=[]) (zH (zs:=[.int .i64 0,.slice none 0 0]) k9 V) ?_)));rintro _ ⟨g4,rfl⟩;refine za V (zg V) (zf (zc (zh (zh (zb (za V (ze V) (za V (Rd.eqPA V V k9) (zf (zc (zB V (V) (zu (zc (zh (zh (zb (za V (ze V) (za V (yG V V) (za V (ze V) (zm V V s9 V V (ze V) (zm V V s9 V V (ze V) (zm V V s9 V V (yx V) (zm V V s9 V V (yk (n:=0) V k9 (show 0 < 2 by decide)) (zm rfl rfl s9 rfl rfl (yi rfl rfl k9 s9) (zm rfl rfl s9 rfl rfl (Zw (e:=85) rfl k9) (zm rfl rfl s9 rfl rfl (Z5 rfl rfl) (za rfl (zy rfl s9 rfl) (zf (zc (zB rfl (by simp;omega) (zu (zc (zh (zb (za rfl (ze rfl) (za rfl (yx rfl) (za rfl (yk (n:=0) rfl k9 (show 0 < 2 by decide)) (za rfl (yi rfl rfl k9 s9) (za rfl (ze rfl) (za rfl (yH (e:=85) 2 rfl rfl k9 k9 o9 (by simpa using h)) ?_)))))))))))))))))))))))))))))))))))))))
 refine za V (Ym 2 V k9 d9 (show 2≤2 by decide) s9) (zl (S:=[]) (Ef.callNL [] (con_clone _ _ hb) rfl ⟨(zq (zd _)),trivial⟩ le_nw_aggD rfl) ?_);rintro _ rfl;refine zl (S:=[_]) (zC 0 V V V k9 V (m9 V)) ?_;rintro _ rfl;refine za V (zg V) (zf (zc (zR (fn:=Tryz.f80) (fun _ _ h=>h) (Rs.le (yN V (yv 0 V V k9) (zp V)) ?_))));exact (le_nw_tup ⟨(le_nw_agg ⟨(zd _),(zd _),t9⟩),zv,t9⟩)
end Sx
end Go.Proofs.YtgokpcnabgacnaaGreatDoor
