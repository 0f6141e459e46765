/- LEDGERS IN PLAIN LEAN: roots, inclusion paths, consistency paths, what accepts them. No program in sight. LEDGERS IN PLAIN LEAN: the complete subtrees -/
import Derived.Test.YtgokpcnabgacnaaGreatDoorGZAN
set_option maxHeartbeats 8000000
set_option maxRecDepth 100000
namespace Go.Proofs.YtgokpcnabgacnaaGreatDoor
namespace Led
def bl (n:Nat):Nat:=2 ^ Nat.log2 (n - 1)
theorem zfJ {n:Nat} (h:2≤n):0 < bl n∧bl n < n∧n≤2 * bl n:=by
 unfold bl;have h1:2 ^ Nat.log2 (n - 1)≤n - 1:=Nat.log2_self_le o9;have h2:n - 1 < 2 ^ (Nat.log2 (n - 1) + 1):=Nat.lt_log2_self;rw [XI] at h2;exact ⟨Nat.pow_pos d9,by omega,by omega⟩
theorem bl_uniq {n i:Nat} (h1:2 ^ i < n) (h2:n≤2 * 2 ^ i):bl n=2 ^ i:=by
 unfold bl
 have:Nat.log2 (n - 1)=i:=by
  have h3:(n - 1)≠0:=by have:0 < 2 ^ i:=Nat.pow_pos d9;omega
  rw [Nat.log2_eq_iff h3];rw [XI];omega
 rw [this]
structure Ent where
 kind:Int
 bytes:LB
abbrev Dig:=LB
section
variable (H:List UInt8→Dig)
def leaf (e:Ent):Dig:=H (0 :: UInt8.ofNat e.kind.toNat :: e.bytes)
def join (a b:Dig):Dig:=H (1 :: (a ++ b))
def rootF:Nat→List Ent→Dig
 | 0,_=>H []
 | n + 1,l=>match l with
  | []=>H []
  | [e]=>leaf H e
  | l=>join H (rootF n<|l.take<|bl l.length) (rootF n<|l.drop<|bl l.length)
def root (l:List Ent):Dig:=rootF H l.length l
theorem zb8:∀ (n m:Nat) (l:List Ent),l.length≤n→l.length≤m→rootF H n l=rootF H m l:=by
 intro n
 induction n with
 | zero=>
  intro m l h _;have:l=[]:=J2 o9;subst this
  cases m <;> rfl
 | succ n ih=>
  intro m l h hm
  match l,m with
  | [],0=>rfl
  | [],m + 1=>rfl
  | e :: l,0=>simp at hm
  | [e],m + 1=>rfl
  | e :: f :: l,m + 1=>
   have hb:=zfJ (n:=(e :: f :: l).length) s9
   have h1:((e :: f :: l).take<|bl (e :: f :: l).length).length=bl (e :: f :: l).length:=by rw [JE];omega
   have h2:((e :: f :: l).drop<|bl (e :: f :: l).length).length=(e :: f :: l).length - bl (e :: f :: l).length:=JA;simp only [rootF];rw [ih m _ o9 o9,ih m _ o9 o9]
theorem zgT (n:Nat):∀ {l:List Ent},2≤l.length→rootF H (n + 1) l=join H (rootF H n<|l.take<|bl l.length) (rootF H n<|l.drop<|bl l.length)
 | e :: f :: l,_=>rfl
 | [],h=>by simp at h
 | [_],h=>by simp at h
theorem root_step {l:List Ent} (h:2≤l.length):root H l=join H (root H<|l.take<|bl l.length) (root H<|l.drop<|bl l.length):=by
 have hb:=zfJ h
 have h1:(l.take<|bl l.length).length=bl l.length:=by rw [JE];omega
 have h2:(l.drop<|bl l.length).length=l.length - bl l.length:=JA;obtain ⟨n,hn⟩:∃ n,l.length=n + 1:=⟨l.length - 1,by omega⟩
 have e1:root H l=rootF H (n + 1) l:=by unfold root;rw [hn]
 rw [e1,zgT H n h];unfold root;rw [zb8 H n (l.take<|bl l.length).length _ o9<|Js _,zb8 H n (l.drop<|bl l.length).length _ o9<|Js _]
def consF:Nat→List Ent→Nat→Bool→List Dig
 | 0,_,_,_=>[]
 | n + 1,l,m,outer=>if m=l.length then (if outer=true then [] else [root H l]) else if m≤bl l.length then consF n (l.take<|bl l.length) m outer ++ [root H<|l.drop<|bl l.length] else consF n (l.drop<|bl l.length) (m - bl l.length) false ++ [root H<|l.take<|bl l.length]
def cons (l:List Ent) (m:Nat) (outer:Bool):List Dig:=consF H l.length l m outer
end
end Led
namespace Led
def up (s j:Nat):List (Nat × Nat):=(s,j) :: (if h:j % 2=1 then up (2 * s) (j / 2) else [])
termination_by j
decreasing_by omega
theorem up_even {s j:Nat} (h:¬j % 2=1):up s j=[(s,j)]:=by rw [up,dif_neg h]
theorem up_odd {s j:Nat} (h:j % 2=1):up s j=(s,j) :: up (2 * s) (j / 2):=by rw [up,dif_pos h]
def keys:Nat→List (Nat × Nat)
 | 0=>[]
 | n + 1=>keys n ++ up 1 n
theorem mem_up:∀ (j s:Nat) (p:Nat × Nat),p∈up s j→(p.2 + 1) * p.1=(j + 1) * s∧s≤p.1∧∃ k,p.1=2 ^ k * s:=by
 intro j
 induction j using Nat.strongRecOn with
 | ind j ih=>
  intro s p hp
  by_cases h:j % 2=1
  ·rw [up_odd h] at hp;rcases Jt.1 hp with rfl | hp
   ·exact ⟨V,Js _,0,by simp⟩
   ·obtain ⟨h1,h2,k,h3⟩:=ih (j / 2) o9 (2 * s) p hp;refine ⟨?_,by omega,k + 1,?_⟩
    ·rw [h1,← Nat.mul_assoc,show (j / 2 + 1) * 2=j + 1 by omega]
    ·rw [h3,XI,Nat.mul_assoc]
  ·rw [up_even h] at hp;rw [Ja.1 hp];exact ⟨V,Js _,0,by simp⟩
theorem up_mem:∀ (k j s:Nat),2 ^ k ∣ j + 1→(2 ^ k * s,j / 2 ^ k)∈up s j:=by
 intro k
 induction k with
 | zero=>intro j s _;rw [up];simp
 | succ k ih=>
  intro j s h
  have hj:j % 2=1:=by
   have:2 ∣ j + 1:=Nat.dvd_trans (by rw [XI];exact Nat.dvd_mul_left _ _) h;omega
  have h2:2 ^ k ∣ j / 2 + 1:=by
   have e:j + 1=2 * (j / 2 + 1):=by omega
   rw [e,XI,Nat.mul_comm<|2 ^ k] at h;exact Nat.dvd_of_mul_dvd_mul_left d9 h
  have:=ih (j / 2) (2 * s) h2;rw [up_odd hj];refine Jl _ ?_;rw [Nat.div_div_eq_div_mul,← Nat.mul_assoc] at this;rw [XI,Nat.mul_comm (2 ^ k) 2];rw [Nat.mul_comm 2<|2 ^ k];rwa [Nat.mul_comm 2<|2 ^ k] at this
theorem mem_keys {n:Nat} {p:Nat × Nat} (h:p∈keys n):(p.2 + 1) * p.1≤n∧∃ k,p.1=2 ^ k:=by
 induction n with
 | zero=>simp [keys] at h
 | succ n ih=>
  rcases Jf.1 h with h | h
  ·obtain ⟨h1,h2⟩:=ih h;exact ⟨by omega,h2⟩
  ·obtain ⟨h1,_,k,h2⟩:=mem_up n 1 p h;exact ⟨by omega,k,by simpa using h2⟩
theorem keys_mem {k j n:Nat} (h:(j + 1) * 2 ^ k≤n):(2 ^ k,j)∈keys n:=by
 induction n with
 | zero=>
  have:0 < (j + 1) * 2 ^ k:=Nat.mul_pos o9 (Nat.pow_pos d9);omega
 | succ n ih=>
  by_cases hn:(j + 1) * 2 ^ k≤n
  ·exact mL _ (ih hn)
  ·have e:n + 1=(j + 1) * 2 ^ k:=by omega
   refine mR _ ?_;have h1:=up_mem k n 1 (by rw [e];exact Nat.dvd_mul_left _ _)
   have h2:n / 2 ^ k=j:=by
    have hp:0 < 2 ^ k:=Nat.pow_pos d9
    have e2:(j + 1) * 2 ^ k=j * 2 ^ k + 2 ^ k:=by rw [Nat.add_mul,Nat.one_mul]
    refine (Nat.div_eq_iff hp).2 ⟨?_,?_⟩ <;> omega
   rw [h2,Nat.mul_one] at h1;exact h1
theorem up_new {s j n:Nat} {old:List (Nat × Nat)} (hs:∀ p∈old,(p.2 + 1) * p.1≤n∨p.1 < s) (hj:(j + 1) * s=n + 1):(s,j)∉old:=fun h=>by
 rcases hs _ h with h' | h'
 ·have:(j + 1) * s≤n:=h';omega
 ·exact Nat.lt_irrefl _ h'
section
variable (H:List UInt8→Dig)
def val (l:List Ent) (p:Nat × Nat):Dig:=root H ((l.drop<|p.2 * p.1).take p.1)
def spn (l:List Ent) (low n:Nat):Dig:=root H ((l.drop low).take n)
theorem val_app {l:List Ent} {p:Nat × Nat} (h:(p.2 + 1) * p.1≤l.length) (e:Ent):val H (l ++ [e]) p=val H l p:=by
 unfold val
 have e2:(p.2 + 1) * p.1=p.2 * p.1 + p.1:=by rw [Nat.add_mul,Nat.one_mul]
 rw [J3 o9,JQ (by rw [JA];omega)]
theorem val_keys (l:List Ent) (e:Ent):(keys l.length).map (val H<|l ++ [e])=(keys l.length).map (val H l):=by
 refine List.map_congr_left fun p hp=>val_app H (mem_keys hp).1 e
theorem val_one {l:List Ent} {e:Ent}:val H (l ++ [e]) (1,l.length)=leaf H e:=by
 unfold val;simp only [Nat.mul_one];rw [List.drop_left]
 rfl
theorem spn_step {l:List Ent} {low n:Nat} (h:2≤n) (hl:low + n≤l.length):spn H l low n=join H (spn H l low<|bl n) (spn H l (low + bl n)<|n - bl n):=by
 have hb:=zfJ h
 have hlen:((l.drop low).take n).length=n:=by rw [JE,JA];omega
 unfold spn;rw [root_step H o9,hlen];congr 1
 ·rw [List.take_take,XA o9]
 ·rw [List.drop_take,List.drop_drop]
theorem bl_pow {k:Nat}:bl (2 * 2 ^ k)=2 ^ k:=bl_uniq (by have:0 < 2 ^ k:=Nat.pow_pos d9;omega) (Js _)
theorem val_join {l:List Ent} {k j:Nat} (hj:j % 2=1) (h:(j + 1) * 2 ^ k≤l.length):val H l (2 * 2 ^ k,j / 2)=join H (val H l (2 ^ k,j - 1)) (val H l (2 ^ k,j)):=by
 have hp:0 < 2 ^ k:=Nat.pow_pos d9
 have e1:j / 2 * (2 * 2 ^ k)=(j - 1) * 2 ^ k:=by rw [← Nat.mul_assoc];congr 1;omega
 have e2:(j - 1) * 2 ^ k + 2 ^ k=j * 2 ^ k:=by
  have:(j - 1 + 1) * 2 ^ k=j * 2 ^ k:=by congr 1;omega
  rw [← this,Nat.add_mul,Nat.one_mul]
 have e3:(j + 1) * 2 ^ k=j * 2 ^ k + 2 ^ k:=by rw [Nat.add_mul,Nat.one_mul]
 have h1:=spn_step H (l:=l) (low:=(j - 1) * 2 ^ k) (n:=2 * 2 ^ k) o9 o9;rw [bl_pow,e2,show 2 * 2 ^ k - 2 ^ k=2 ^ k by omega] at h1;unfold val;simp only;rw [e1];exact h1
end
end Led
end Go.Proofs.YtgokpcnabgacnaaGreatDoor
namespace Go.Proofs.YtgokpcnabgacnaaGreatDoor
open Go.RowKit
namespace Sx
end Sx
theorem sum_any (w:World) (B:Option Addr) (d:Nat) (b:LB) (hd:b.length≤d) (hrb:RB w B b) (hbl:b.length≤2305843009213693952) (hgl:Gl w):
  Calls Tryz.prog 154 #[.slice B b.length d] w fun e w'=>e= .returned (.agg (cellsOf<|Bl.hash [] b).toArray)∧Only [] w w':=by
 have hl32:(cellsOf<|Bl.hash [] b).length=32:=by simp
 have hs32:(Tryz.prog.info? 219).map (·.size)=some (cellsOf<|Bl.hash [] b).length:=by rw [hl32];exact Wc
 have Hs32:=Jm hs32;have Hl32:=Jm hl32;clear hl32 hs32
 go_enter Tryz.func154,Tryz.ntmps154
 go_upto_region 1 with (fail)
 have hR1:=Blk.new w 219 (List.replicate 32<|Value.int .u8 0);have hO1:=(Only.refl [] w).alloc (.cells (List.replicate 32<|Value.int .u8 0).toArray 219)
 have hs1:(w.alloc<|.cells (List.replicate 32<|Value.int .u8 0).toArray 219).heap.size=w.heap.size + 1:=by simp
 revert hR1 hO1 hs1
 simp only [Xc,List.replicate_zero]
 generalize World.alloc _ _=W1
 intro hR1 hO1 hs1
 have hs1':w.heap.size < W1.heap.size:=by omega
 clear hs1
 go_wp2_with fail
 have hO2:=hO1.alloc (.cells #[.slice B b.length d] 24);refine (zcr _ none 0 [] s9 s9 RB.nil (hgl.keep hO2 s9 s9) W1.heap.size B d b s9 (zgf _ _ _) hd (hrb.keep0 hO2) hbl).mono ?_;rintro e W2 ⟨rfl,hO3⟩;have hR2:=(hR1.alloc<|.cells #[.slice B b.length d] 24).keep hO3 s9;have hO4:=hO2.trans' hO3
 go_wp2_with (refine YZ rfl 219 _ _ rfl w.heap.size (cellsOf<|Bl.hash [] b) rfl rfl 219 _ hR2 (by rw [Hl32.out];rfl) Hs32.out Yd ?_;intro W5 hR5 hO5)
 exact bodyPost_ret (results_cell_row V _ _ w.heap.size 219 (cellsOf<|Bl.hash [] b).toArray (0,0) _ V hR5 Tryz.underlying219 V (by simpa using Hs32.out)) V ⟨V,hO4.trans hO5 s9⟩
namespace Sx
section
theorem zfr (b:LB) (hb:b.length≤2305843009213693952):Con Tryz.prog 154 [bD b] (gD<|Bl.hash [] b):=by
 refine ⟨enters_of Tryz.func154 k9 V,fun L w vs hL hG ha=> ?_⟩;obtain ⟨u,rfl,hu⟩:=zeG ha;obtain ⟨A,c,rfl,hc,hr⟩:=KN hu;refine (sum_any w A c b hc (zcX hr) hb hG).mono ?_;rintro r w' ⟨rfl,ho⟩;exact ⟨_,V,V,ho⟩
theorem con_hashR (b:LB) (hb:b.length≤1099511627):Con Tryz.prog 175 [isD<|.slice none 0 0,bD b] (bD<|Bl.hash [] b):=by
 refine ⟨enters_of Tryz.func175 k9 V,fun L w vs hL hG ha=> ?_⟩;obtain ⟨u,v,rfl,rfl,hv⟩:=zdB ha;obtain ⟨A,c,rfl,hc,hr⟩:=KN hv;refine (zc5 w none A 0 c [] b s9 RV.nil hr s9 hc hb).mono ?_;rintro r w' ⟨A',c',G,rfl,hO,hN,ho⟩;refine ⟨_,V,⟨A',c',by rw [zx,Bl.hash_length],?_,hO.reads,fun _ p hp hm=> ?_⟩,ho⟩
 ·rcases hO with ⟨_,_,h,_⟩ | ⟨g,r,_,_,_,h,_⟩
  ·have:=JY List.length h;simp at this
  ·omega
 ·rcases hO with ⟨h,_⟩ | ⟨g,r,h1,h2,_⟩
  ·rw [h] at hp;cases hp
  ·rw [h1] at hp;injection hp with hp;subst hp;have:=hN g h2;have:=hL _ hm;simp only at *;omega
end
section
abbrev HH:LB→Led.Dig:=Bl.hash []
@[simp] theorem leaf_len (e:Led.Ent):(Led.leaf HH e).length=32:=Bl.hash_length _ _
@[simp] theorem join_len (a b:LB):(Led.join HH a b).length=32:=Bl.hash_length _ _
@[simp] theorem hh_len (b:LB):(HH b).length=32:=Bl.hash_length _ _
@[simp] theorem rootF_len:∀ (n:Nat) (l:List Led.Ent),(Led.rootF HH n l).length=32
 | 0,_=>hh_len _
 | _ + 1,[]=>hh_len _
 | _ + 1,[_]=>leaf_len _
 | _ + 1,_ :: _ :: _=>join_len _ _
@[simp] theorem zgb (l:List Led.Ent):(Led.root HH l).length=32:=rootF_len _ _
@[simp] theorem val_len (l:List Led.Ent) (p:Nat × Nat):(Led.val HH l p).length=32:=zgb _
@[simp] theorem spn_len (l:List Led.Ent) (a b:Nat):(Led.spn HH l a b).length=32:=zgb _
def encE (e:Led.Ent):List D:=[iD e.kind,bD e.bytes]
instance:Row encE 2:=⟨fun _=>rfl,fun x=>by unfold encE;infer_instance,by decide⟩
def zbJ (p:Nat × Nat):Value:= .agg #[.int .i64 (p.1:Int),.int .i64 (p.2:Int)]
theorem zcg {a b:Int} {p q:Nat} (ha:a=(p:Int)) (hb:b=(q:Int)):Le (Zo [iD a,iD b]) (isD<|zbJ (p,q)):=fun _ _ _ h=>by
 subst ha hb;exact zaU (vs:=[.int .i64 (p:Int),.int .i64 (q:Int)]) _ _ _ h
class IsSl_l (d:D):Prop where
 h:∀ L w v,d.R L w v→∃ A n c,v= .slice A n c
instance (A:Option Addr) (n c:Nat):IsSl_l (isD<|.slice A n c):=⟨fun _ _ _ h=>⟨A,n,c,h⟩⟩
instance (xs:List Value):IsSl_l (slD xs):=⟨fun _ _ _ ⟨A,c,h,_⟩=>⟨A,_,c,h⟩⟩
instance (n:Nat) (ds:List D):IsSl_l (rwD n ds):=⟨fun _ _ _ ⟨A,c,h,_⟩=>⟨A,_,c,h⟩⟩
instance (n:Nat) (d:D) [h:IsSl_l d]:IsSl_l (nwD n d):=⟨fun L w v hv=>h.h _ _ _<|zaR _ _ _ hv⟩
theorem bldE2 {k:Int} {f:D} [hd:IsSl_l f]:Bld Tryz.prog 85 [0,1] [iD k,f] [iD k,f]:=fun L w vs hv=>by
 obtain ⟨u,v,rfl,rfl,hu⟩:=zdB hv;obtain ⟨A,n,c,rfl⟩:=hd.h _ _ _ hu;exact ⟨[.int .i64 k,.slice A n c],⟨V,hu,t9⟩,fun w'=>by kernel_rfl⟩
theorem zhJ {a b:Int}:Bld Tryz.prog 224 [0,1] [iD a,iD b] [iD a,iD b]:=fun L w vs hv=>by
 obtain ⟨u,v,rfl,rfl,rfl⟩:=zdB hv;exact ⟨[.int .i64 a,.int .i64 b],⟨V,V,t9⟩,fun w'=>by kernel_rfl⟩
theorem blsB1 (a:UInt8):Bls Tryz.prog 24 1 [0] [isD<|B8 a] ([a].flatMap Yt):=⟨5,fun L w vs hv=>by
 obtain ⟨u,rfl,rfl⟩:=zeG hv
 exact ⟨[B8 a],⟨V,t9⟩,fun w'=>by kernel_rfl⟩⟩
theorem blsB2 (a b:UInt8):Bls Tryz.prog 24 2 [0,1] [isD<|B8 a,isD<|B8 b] ([a,b].flatMap Yt):=⟨5,fun L w vs hv=>by
 obtain ⟨u,v,rfl,rfl,rfl⟩:=zdB hv
 exact ⟨[B8 a,B8 b],⟨V,V,t9⟩,fun w'=>by kernel_rfl⟩⟩
theorem wrap_b8 {k:Int} (h0:0≤k) (h1:k≤255):IntKind.u8.wrap k=((UInt8.ofNat k.toNat).toNat:Int):=by
 rw [wrap_u8 h0 o9];simp;omega
theorem node_eq (a b:Nat × Nat) (w:World):(Op.equal 224 (zbJ a)<|zbJ b).run Tryz.prog w= .ok (decide (a=b)) w:=by
 obtain ⟨a1,a2⟩:=a;obtain ⟨b1,b2⟩:=b;have u3:=Tryz.underlying3;have a3:=Tryz.isAgg3;have z3:=Tryz.sizeOf3
 have h1:Tryz.prog.underlying 224=some (.struct<|Tryz.prog.fieldsOf 224):=by kernel_rfl
 have e:(Op.equal 224 (zbJ (a1,a2))<|zbJ (b1,b2)).run Tryz.prog w= .ok ((a1:Int) == (b1:Int) && (a2:Int) == (b2:Int)) w:=by
  unfold Op.equal zbJ;rw [show Op.maxDepth=9999 + 1 from rfl,run_equalIn_struct (P:=Tryz.prog) w 9999 224 _ _ h1 k9];simp only [Program.fieldsOf,Tryz.underlying224]
  go_simp
  by_cases h1:(a1:Int)=(b1:Int) <;> by_cases h2:(a2:Int)=(b2:Int) <;> simp [h1,h2]
 have e2:((a1:Int) == (b1:Int) && (a2:Int) == (b2:Int))=decide ((a1,a2)=(b1,b2)):=by
  rw [XH];simp;omega
 rw [e,e2]
theorem node_chk' (n:Nat) (k:Nat × Nat) (e:Bool) (w:World):(Instr.checkKey e (n + 1 + 1) 224<|zbJ k).run Tryz.prog w= .ok () w:=by
 have u3:=Tryz.underlying3;have a3:=Tryz.isAgg3;have z3:=Tryz.sizeOf3;unfold Instr.checkKey zbJ;simp only [JD,Jp Tryz.underlying224,Jv];simp only [Instr.checkKey]
 go_simp
theorem node_chk (k:Nat × Nat) (e:Bool) (w:World):(Instr.checkKey e 10000 224<|zbJ k).run Tryz.prog w= .ok () w:=node_chk' 9998 k e w
theorem node_bits (n:Nat) (k:Nat × Nat):Instr.sameBits (n + 1) (zbJ k) (zbJ k)=true:=by simp [zbJ,Instr.sameBits]
theorem keyN (p:Nat × Nat) (ks:List (Nat × Nat)):KeyOk Tryz.prog 224 zbJ p ks:=
 zci k9 node_eq node_chk (node_bits 9999) p ks
theorem zgu (b:LB) (hb:b.length≤2305843009213693952):ConN Tryz.prog 154 [bD b] (gD<|HH b):=
 ⟨(zfr b hb).en,fun L w vs hL hG ha=>((zfr b hb).go L w vs hL hG ha).mono fun _ _ ⟨v,hv,hd,ho⟩=>⟨v,hv,zu _ _ _ hd,ho⟩⟩
theorem blsE1 (k:Int) (b:LB):Bls Tryz.prog 40 1 [0] [Zo [iD k,bD b]] ([(⟨k,b⟩:Led.Ent)].flatMap encE):=⟨85,fun L w vs hv=>by
 obtain ⟨u,rfl,cs,rfl,hc⟩:=zeG hv;obtain ⟨x,y,rfl,rfl,hy⟩:=zdB hc;have hy':=hy;obtain ⟨A,c,rfl,-⟩:=hy
 exact ⟨[.int .i64 k,.slice A _ c],⟨V,hy',t9⟩,fun w'=>by kernel_rfl⟩⟩
structure Lst where
 A:Option Addr
 c:Nat
 F:LN
 M:Option Nat
 G:LN
abbrev zaM (es:List Led.Ent):Nat × Nat→D:=fun p=>gD (Led.val HH es p)
abbrev ledC (g:Nat) (s:Lst) (es:List Led.Ent):Box:= .c g [isD<|.slice s.A es.length s.c,isD<|.map s.M]
abbrev zbH (s:Lst) (es:List Led.Ent):Box:= .r s.F (yP 85 2 encE s.A s.c es)
abbrev zbG (s:Lst) (es:List Led.Ent):Box:= .r s.G (zam s.M zbJ (Led.keys es.length)<|zaM es)
abbrev ledD (es:List Led.Ent):D:=paD [lsD encE es,mpD zbJ (Led.keys es.length)<|zaM es]
theorem qz {n:Nat} {p q:Bool} (h:p=q):Le (yj p) (nwD n<|yj q):=by subst h;exact zu
end
section
theorem za9 (k:Int) (n:Nat):ConN Tryz.prog 89 [Zo [iD k,zfi n]] (yj<|decide (0≤k∧k≤255∧n≤65536)):=by
 refine yO Tryz.func89 k9 V k9 fun base w0=>(zp (SWl.e2 (S:=[]) (yv V V) fun g1=>(zf V<|zV<|za V (zc (n:=0) V k9)<|za V (zg 0 V V V k9 zh)<|za V (ZB V V)<|zd V<|zU 6 V (fun hb6=> ?_) (fun hb6=> ?_))))
 ·skip
  refine zy hb6 (zc (n:=0) V k9) (zy hb6 (zg 0 V V V k9 zh)<|zy hb6 (YR V V)<|za V (zB V hb6 V)<|zd V<|zU 11 V (fun hb11=> ?_) (fun hb11=> ?_))
  ·skip
   refine zy hb11 (zc (n:=1) V k9) (zy hb11 (zg 0 V V V k9 zh)<|zy hb11 (Ks (e:=5) V k9)<|zy hb11 (YR V V)<|za V (zB V hb11 V)<|zf V<|ze<|zK (fn:=Tryz.f89) (fun _ _ h=>h)<|Rs.le (Rs.one V<|zj V) ?_);exact qz (by rw [XH];simp at *;omega)
  ·skip
   refine zq hb11 (zq hb11<|zq hb11<|zq hb11<|za V (zv V hb11 V)<|zf V<|ze<|zK (fn:=Tryz.f89) (fun _ _ h=>h)<|Rs.le (Rs.one V<|zj V) ?_);exact qz (by rw [XH];simp at *;omega)
 ·skip
  refine zq hb6 (zq hb6<|zq hb6<|za V (zv V hb6 V)<|zd V<|zq V<|zq V<|zq V<|zq V<|za V (zv V V V)<|zf V<|ze<|zK (fn:=Tryz.f89) (fun _ _ h=>h)<|Rs.le (Rs.one V<|zj V) ?_);exact qz (by rw [XH];simp at *;omega)
theorem zer (b:LB) (hb:b.length≤1000000):ConN Tryz.prog 53 [bD b] (bD b):=by
 refine yO Tryz.func53 k9 V k9 fun base w0=>(zk (zdq 0 V fun A c=>(zi<|zf V<|ze<|zk<|zp<|zd V<|za V (Rd.eqN (e:=5) V V k9)<|ze<|zJ V (fun hb4=> ?_) (fun hb4=> ?_))))
 ·refine zdp 0 V hb4 fun hnil=>(zp<|zf V<|ze<|zK (fn:=Tryz.f53) (fun _ _ h=>h)<|Rs.le (Rs.one V<|zj V) ?_);subst hnil;exact Le.trans (zu (x:= .slice none 0 0)) (qY (Js _) Zz)
 ·skip
  refine zr (zn<|zp (SWl.e2 (S:=[]) (zdx (e:=5) Yt 1 1 k9 k9 V) fun g5=>(zd V (SWl.e4 (yN 1 1 1 V V (zbx 0 V V) k9 k9 (by simp <;> omega) d9 (fun _ h=>h) V) fun A7 F7 c7=>(zf V<|ze<|zbz 1 2 V V V<|zK (fn:=Tryz.f53) (fun _ _ h=>h)<|Rs.le (Rs.one V<|zj V) ?_)))))
  exact zb _
theorem zbp (k:Int) (b:LB) (hb:b.length≤1000000):ConN Tryz.prog 139 [Zo [iD k,bD b]] (Zo [iD k,bD b]):=by
 refine yO Tryz.func139 k9 V k9 fun base w0=>(zp (SWl.e2 (S:=[]) (yv V V) fun g1=>(SWl.e2 (S:=[]) (zM (zs:=[.int .i64 0,.slice none 0 0]) k9 V) fun g2=>(ze<|zk<|yh (g2 :: []) (rr [0,1,2,3]<|.n 4 (.r 5<|.e 6 .fin .no) .no) k9 k9 (fun d _ _ _ _ h=>by cases d <;> exact h)<|zl V V (zc (n:=0) V k9)<|zl V V (zg 0 V V V k9<|yK 1 V d9 zh)<|zl V V (zc (n:=1) V k9)<|zl V V (zg 0 V V V k9<|yK 1 V d9 zh)<|yw V (zeR [] (zer _ hb) V ⟨(zo<|zb _),t9⟩ V)<|zl V V (yq V V bldE2)<|yy V (zw 1 V V V k9 V mC)<|yI<|zK (fn:=Tryz.f139) (fun _ _ h=>h)<|Rs.le (Rs.one V<|zS 1 V V k9) ?_))))
 exact (jg ⟨zu,(zb _),t9⟩)
theorem zgx (k:Int) (b:LB) (hb:b.length≤1000000) (hk:0≤k∧k≤255):ConN Tryz.prog 144 [Zo [iD k,bD b]] (gD<|Led.leaf HH ⟨k,b⟩):=by
 refine yO Tryz.func144 k9 V k9 fun base w0=>(zp (SWl.e2 (S:=[]) (yv V V) fun g1=>(SWl.e2 (S:=[]) (zM (zs:=cellsOf<|List.replicate 32 0) k9 V) fun g2=>(zV<|za V (zc (n:=1) V k9)<|za V (zg 0 V V V k9 zh)<|za V (ZC (e:=5) V k9)<|za V (yC V V ⟨by simp;omega,by simp;omega⟩) (SWl.e2 (S:=[]) (zdu (e:=5) (c:=2 + b.length) Yt 1 1 V V k9 k9 s9 o9 d9 V) fun g8=>(zf V<|zV<|zd V<|za V (zc (n:=0) V k9)<|za V (zg 0 V V V k9 zh)<|za V (ZU .i64 V k9 k9<|wrap_b8 hk.1 hk.2)<|zt (S:=[]) (ZL V V (blsB2 0<|UInt8.ofNat k.toNat) V) (SWl.e4 (yN 2 1 1 V V (SrcT.ls (l:=[_,_]) V) k9 k9 (by simp <;> omega) d9 (fun _ h=>h) V) fun A14 F14 c14=>(zf V<|zV<|zd V<|za V (zc (n:=1) V k9)<|za V (zg 0 V V V k9 zh) (SWl.e4 (yN 2 1 1 V V (SrcT.b V) k9 k9 (by simp <;> omega) d9 (fun _ h=>h) V) fun A18 F18 c18=>(Ki 2 18 V V (Yc _)<|zt (S:=[]) (zD [] ((zgu _ (by simp <;> omega))) V ⟨(zo<|zb _),t9⟩ V)<|zt (S:=[_]) (Yo 1 32 V V V k9 (by first | assumption | simp) (by first | assumption | simp)<|m9 V)<|ze<|zK (fn:=Tryz.f144) (fun _ _ h=>h)<|Rs.le (Rs.one V<|jY (n:=32) 1 V V k9 (by first | assumption | simp)) ?_))))))))))
 exact (Le.trans (KW _) zu)
theorem zgy (a b:LB) (ha:a.length=32) (hb:b.length=32):ConN Tryz.prog 145 [gD a,gD b] (gD<|Led.join HH a b):=by
 refine yO Tryz.func145 k9 V k9 fun base w0=>(zp (SWl.e2 (S:=[]) (Ef.boxL V (zgj _) V) fun g2=>(SWl.e2 (S:=[]) (Ef.boxL V (zgj _) V) fun g3=>(SWl.e2 (S:=[]) (zM (zs:=cellsOf<|List.replicate 32 0) k9 V) fun g4=>(zV (SWl.e2 (S:=[]) (zdu (e:=5) (c:=65) Yt 1 1 V V k9 k9 V o9 d9 V) fun g6=>(zf V<|zV<|zd V<|zt (S:=[]) (ZL V V (blsB1 1) V) (SWl.e4 (yN 3 1 1 V V (SrcT.ls (l:=[_]) V) k9 k9 (by simp <;> omega) d9 (fun _ h=>h) V) fun A9 F9 c9=>(zf V<|zV<|zd V<|za V (Ko (e:=5) (n:=32) V k9 k9) (SWl.e4 (yN 3 1 1 V V (SrcT.box 0 V V (by first | assumption | simp)) k9 k9 (by simp <;> omega) d9 (fun _ h=>h) V) fun A12 F12 c12=>(zf V<|zV<|zd V<|za V (Ko (e:=5) (n:=32) V k9 k9) (SWl.e4 (yN 3 1 1 V V (SrcT.box 1 V V (by first | assumption | simp)) k9 k9 (by simp <;> omega) d9 (fun _ h=>h) V) fun A15 F15 c15=>(Ki 3 15 V V (Yc _)<|zt (S:=[]) (zD [] ((zgu _ (by simp <;> omega))) V ⟨(zo<|zb _),t9⟩ V)<|zt (S:=[_]) (Yo 2 32 V V V k9 (by first | assumption | simp) (by first | assumption | simp)<|m9 V)<|ze ?_)))))))))))))
 refine zK (fn:=Tryz.f145) (fun _ _ h=>h) (Rs.le (Rs.one V<|jY (n:=32) 2 V V k9 (by first | assumption | simp)) ?_)
 exact (Le.trans (KW _) zu)
end
section
theorem SW.mapNil {P:Program} {Γ:Cx} {σ:St} {Q:Exit→Act→World→Prop} {c:Code} {κ:Type} {enc:κ→Value} {M:Option Nat} {ks:List κ} {ds:List D} {F:LN} (j:Nat) (hj:σ.bx[j]? =some (.r F<|zeX M enc ks ds)) (hM:M=none) (h:ks=[]→SW P Γ σ c Q):SW P Γ σ c Q:=fun a w hh=>by
 refine h ?_ a w hh;obtain ⟨es,hm,hk,_⟩:=hh.resAt hj;rcases hm with ⟨_,h2,_⟩ | ⟨g,ck,h2,_⟩
 ·subst h2;simpa using hk.symm
 ·rw [hM] at h2;cases h2
def PInv (n sz j:Nat) (ks:List (Nat × Nat)):Prop:=(∃ r,sz=2 ^ r)∧(j + 1) * sz=n + 1∧ks ++ (Led.up sz j).tail=Led.keys (n + 1)∧(∀ p∈ks,(p.2 + 1) * p.1≤n∨p.1≤sz)∧∀ p∈Led.keys n,p∈ks
theorem PInv.start (n:Nat):PInv n 1 n (Led.keys n ++ [(1,n)]):=by
 refine ⟨⟨0,V⟩,by simp,?_,fun p hp=> ?_,fun p hp=>mL _ hp⟩
 ·show _=Led.keys n ++ Led.up 1 n;rw [Led.up];simp
 ·rcases Jf.1 hp with hp | hp
  ·exact .inl (Led.mem_keys hp).1
  ·simp at hp;subst hp;exact .inr s9
theorem PInv.step {n sz j:Nat} {ks:List (Nat × Nat)} (h:PInv n sz j ks) (hj:j % 2=1):PInv n (2 * sz) (j / 2) (ks ++ [(2 * sz,j / 2)]):=by
 obtain ⟨⟨r,hr⟩,h2,h3,h4,h5⟩:=h;refine ⟨⟨r + 1,by rw [hr,XI];omega⟩,?_,?_,fun p hp=> ?_,fun p hp=>mL _<|h5 p hp⟩
 ·have:(j / 2 + 1) * (2 * sz)=(j + 1) * sz:=by
   have e:j=2 * (j / 2) + 1:=by omega
   generalize j / 2=q at *
   subst e;rw [← Nat.mul_assoc];congr 1;omega
  omega
 ·rw [← h3,Led.up_odd hj];rw [Led.up];simp
 ·rcases Jf.1 hp with hp | hp
  ·rcases h4 p hp with h | h
   ·exact .inl h
   ·exact .inr o9
  ·simp at hp;subst hp;exact .inr (Js _)
theorem PInv.fin {n sz j:Nat} {ks:List (Nat × Nat)} (h:PInv n sz j ks) (hj:¬j % 2=1):ks=Led.keys (n + 1):=by
 have:=h.2.2.1;rw [Led.up_even hj] at this;simpa using this
theorem PInv.pos {n sz j:Nat} {ks:List (Nat × Nat)} (h:PInv n sz j ks):0 < sz:=by
 obtain ⟨⟨r,hr⟩,_⟩:=h;rw [hr];exact Nat.pow_pos d9
theorem PInv.le {n sz j:Nat} {ks:List (Nat × Nat)} (h:PInv n sz j ks):sz≤n + 1∧j≤n:=by
 have h0:=h.pos;have h2:=h.2.1
 constructor
 ·rw [← h2];exact Nat.le_mul_of_pos_left _ o9
 ·have:j + 1≤(j + 1) * sz:=Nat.le_mul_of_pos_right _ h0;omega
theorem PInv.left {n sz j:Nat} {ks:List (Nat × Nat)} (h:PInv n sz j ks) (hj:j % 2=1):(sz,j - 1)∈ks:=by
 have h0:=h.pos;obtain ⟨⟨r,hr⟩,h2,_,_,h5⟩:=h;refine h5 _ ?_;subst hr;refine Led.keys_mem ?_
 have:(j - 1 + 1) * 2 ^ r + 2 ^ r=(j + 1) * 2 ^ r:=by
  rw [← Nat.succ_mul];congr 1;omega
 omega
theorem PInv.new {n sz j:Nat} {ks:List (Nat × Nat)} (h:PInv n sz j ks) (hj:j % 2=1):(2 * sz,j / 2)∉ks:=by
 have h0:=h.pos;have h1:=(h.step hj).2.1
 exact Led.up_new (n:=n) (fun p hp=>by
  rcases h.2.2.2.1 p hp with h | h
  ·exact .inl h
  ·exact .inr o9) h1
theorem new_one {n:Nat}:(1,n)∉Led.keys n:=fun h=>by
 have:=(Led.mem_keys h).1;simp at this;omega
theorem PInv.join {n sz j:Nat} {ks:List (Nat × Nat)} {es':List Led.Ent} (h:PInv n sz j ks) (hj:j % 2=1) (hl:es'.length=n + 1):Led.join HH (Led.val HH es' (sz,j - 1)) (Led.val HH es' (sz,j))=Led.val HH es' (2 * sz,j / 2):=by
 obtain ⟨⟨r,hr⟩,h2,_⟩:=h;subst hr;rw [Led.val_join HH hj o9]
theorem mkeys_app (es:List Led.Ent) (e:Led.Ent):(Led.keys es.length).map (zaM es)=(Led.keys es.length).map (zaM<|es ++ [e]):=by
 have h:=JY (List.map gD) (Led.val_keys HH es e);simp only [List.map_map] at h;exact h.symm
theorem con_push0 (gl:Nat) (sA:Option Addr) (sc:Nat) (sF sG:LN) (es es':List Led.Ent) (k:Int) (b:LB) (A:Option Addr) (c:Nat) (F:LN) (R:Res) (hR:qb R (.slice A b.length c) (cellsOf b)) (hb:b.length≤1000000) (hk:0≤k∧k≤255) (hn:es.length≤100000) (he:es'=es ++ [⟨k,b⟩]):ConR Tryz.prog 90 [.c gl [isD<|.slice sA es.length sc,isD<|.map none],zbH ⟨sA,sc,sF,none,sG⟩ es,zbG ⟨sA,sc,sF,none,sG⟩ es,.r F R] [pA gl,Zo [iD k,isD<|.slice A b.length c]] (fun s:Lst=>[.c gl [isD<|.slice s.A (es').length s.c,isD<|.map s.M],zbH s es',zbG s es',.r F R]) (fun s:Lst=>isD<|.tuple #[]):=by
 have hl:es'.length=es.length + 1:=by rw [he];simp
 refine yg Tryz.func90 k9 V k9 fun base w0=>(zk (SW.mapNil 2 V V fun hk0=>(zi (SWl.e2 (S:=[]) (yv V V) fun g3=>(zV<|zd V<|za V (zz V)<|za V (zc (n:=0) V k9)<|za V (zg 0 V V V k9 zh)<|za V (Y7 (e:=85) V k9)<|zf V<|ze<|zk<|yh (sF ++ (gl :: [])) (rr [0,1,2,3]<|.q 4<|.r 5<|.n 6 (.n 7 (.e 8 (.r 9<|.r 10<|.e 11 .fin .no) .no) .no) .no) k9 k9 (fun d _ _ _ _ h=>by cases d <;> exact h)<|zL V V<|zL V V<|zl V V (zz V)<|zl V V (zc (n:=0) V k9)<|Yy V V (zg 0 V V V k9 zh)<|zl V V (zA 4 2 V V k9 V<|yB 1 V d9<|yK 0 V d9 zh)<|yw V (zD [3] (zbp _ _ (by first | assumption | omega)) V ⟨(ZQ ⟨(zo<|zb _),(jJ 3 V hR d9),t9⟩),t9⟩ V)<|yw V (ZL V V (blsE1 k b) V)<|yW V (yN 1 2 32 V V (SrcT.ls (l:=[_]) V) k9 k9 (by simp <;> omega) d9 (fun _ h=>mL _ h) V) ?_ yf)))))
 rintro _ ⟨A20,F20,c20,rfl⟩
 refine zl V V (zz V) (zl V V (zc (n:=0) V k9)<|yy V (zR 0 V V V k9 V<|(mR _ mC))<|yI<|zk<|zp<|zd V<|za V (zz V)<|za V (zc (n:=1) V k9)<|za V (zg 0 V V V k9 zh)<|za V (zeO (kt:=224) (et:=219) V V k9)<|ze<|zW V V<|zi<|zd V (SWl.e2 (S:=[]) (zf0 (enc:=zbJ) (zaM es') V) fun g29=>(za V (zz V)<|za V (zc (n:=1) V k9)<|zt (S:=[_]) (zR 0 V V V k9 V<|m9 V)<|zV<|za V (zA 3 2 V V k9 V zh)<|zt (S:=[]) (zD [2] (zgx _ _ (by first | assumption | omega) (by first | assumption | omega)) V ⟨(ZQ ⟨(zo<|zb _),(jJ 2 V hR d9),t9⟩),t9⟩ V) (SWl.e2 (S:=[]) (zM (zs:=cellsOf<|List.replicate 32 0) k9 V) fun g5=>(zt (S:=[_]) (Yo 6 32 V V V k9 (by first | assumption | simp) (by first | assumption | simp)<|m9 V)<|zV<|zd V<|za V (yq V V zhJ) (SWl.e2 (S:=[]) (zM (zs:=[.int .i64 0,.int .i64 0]) k9 V) fun g6=>(zt (S:=[_]) (zw 7 V V V k9 V<|m9 V)<|ze ?_)))))))
 refine zk (zO (σ':=zN [(0,_),(5,_),(6,_)] [.c gl [isD<|.slice A20 (es').length c20,isD<|.map<|some g29],.r F20<|yP 85 2 encE A20 c20 es',.r [g29]<|zam (some g29) zbJ ([])<|zaM es',.r F R,.c g5<|(cellsOf<|Led.val HH es' (1,es.length)).map isD,.c g6 [iD<|1,iD<|(es.length:Int)]]) (⟨⟨_,V,(sT V)⟩,[0,4,5,2,6,7],by decide,⟨⟨_,rfl,⟨zF (by rw [he]),zb _,trivial⟩⟩,⟨⟨_,rfl,ZZ (by rw [he]) (by rw [he])⟩,⟨lR rfl,⟨lR rfl,⟨⟨_,rfl,(by rw [he,Led.val_one];exact yl _)⟩,⟨la rfl,trivial⟩⟩⟩⟩⟩⟩⟩)<|yh ([g29] ++ []) (rr [0,1,2,3,4,5]<|.e 6 .fin .no) k9 k9 (fun d _ _ _ _ h=>by cases d <;> exact h)<|zL V V<|zl V V (zz V)<|zl V V (zc (n:=1) V k9)<|zl V V (zg 0 V V V k9<|yB 2 V d9 zh)<|zl V V (zA 5 2 V V k9 V<|yB 2 V d9 zh)<|zl V V (Kq 4 32 V V k9 (by first | assumption | simp)<|yB 2 V d9 zh)<|yy V (Va (kt:=224) (et:=219) 2 V V V (zcg V V) V V k9 (keyN _ _) s9 (fun _ h=>mL _ h))<|yI<|zX<|Zw (ι:={q:Nat × Nat × List (Nat × Nat) // PInv es.length q.1 q.2.1 q.2.2}) (fun q=>zN [(0,pA gl),(5,pA g5),(6,pA g6)] [.c gl [isD<|.slice A20 (es').length c20,isD<|.map<|some g29],.r F20<|yP 85 2 encE A20 c20 es',.r [g29]<|zam (some g29) zbJ (q.1.2.2)<|zaM es',.r F R,.c g5<|(cellsOf<|Led.val HH es' (q.1.1,q.1.2.1)).map isD,.c g6 [iD<|(q.1.1:Int),iD<|(q.1.2.1:Int)]]) (fun q=>q.1.2.1) (⟨(1,es.length,Led.keys es.length ++ [(1,es.length)]),PInv.start _⟩) ?_ ?_)
 ·exact ⟨⟨_,V,(sT V)⟩,[0,1,5,2,3,4],by decide,⟨la rfl,⟨lR rfl,⟨⟨_,rfl,zfj (by dsimp only;rw [hk0]) (by dsimp only;rw [hk0])⟩,(sX rfl)⟩⟩⟩⟩
 ·rintro ⟨⟨sz,j,ks⟩,hI⟩ K0 hK0;dsimp only at hI ⊢;refine zk (zp<|za V (zc (n:=1) V k9)<|za V (zg 5 V V V k9 zh)<|za V (Rd.remN V V ⟨by omega,by omega⟩)<|za V (yM V V)<|ze<|zJ V (fun hb45=> ?_) (fun hb45=> ?_))
  ·have hb45:j % 2=1:=by have:=oT hb45;omega
   refine zr (zn<|zX<|zk<|yh (g5 :: []) (rr [0,1,2,3,4,5,6,7,8,9,10]<|.q 11<|.n 12 (.e 13 .fin .no) .no) k9 k9 (fun d _ _ _ _ h=>by cases d <;> exact h)<|zL V V<|zl V V (zz V)<|zl V V (zc (n:=1) V k9)<|zl V V (zg 0 V V V k9<|yK 4 V d9 zh)<|zl V V (zc (n:=0) V k9)<|zl V V (zg 5 V V V k9<|yK 4 V d9 zh)<|zl V V (zc (n:=1) V k9)<|zl V V (zg 5 V V V k9<|yK 4 V d9 zh)<|zl V V (jF V V ⟨by have:=hI.le;omega,by have:=hI.le;omega⟩)<|zl V V (yq V V zhJ)<|zl V V (zgH (kt:=224) (et:=219) 2 V V V (zcg V o9) k9 (keyN _ _) (hI.left hb45)<|yK 4 V d9 zh)<|Yy V V (Kq 4 32 V V k9 (by first | assumption | simp) zh)<|yw V (zD [] (zgy _ _ (by first | assumption | simp) (by first | assumption | simp)) V ⟨(zo<|zb _),(zo<|zb _),t9⟩ V)<|yy V (Yo 4 32 V V V k9 (by first | assumption | simp) (by first | assumption | simp) mC)<|yI<|zp<|za V (zc (n:=0) V k9)<|za V (zg 5 V V V k9 zh)<|za V (Rd.mul V V ⟨by have:=hI.le;omega,by have:=hI.le;omega⟩)<|za V (zc (n:=1) V k9)<|za V (zg 5 V V V k9 zh)<|za V (Rd.quoN V V ⟨by omega,by have:=hI.le;omega,by omega⟩)<|za V (yq V V zhJ)<|zt (S:=[_]) (zw 5 V V V k9 V<|m9 V)<|ze<|yh ([g29] ++ []) (rr [0,1,2,3,4,5]<|.e 6 .fin .no) k9 k9 (fun d _ _ _ _ h=>by cases d <;> exact h)<|zL V V<|zl V V (zz V)<|zl V V (zc (n:=1) V k9)<|zl V V (zg 0 V V V k9<|yB 2 V d9 zh)<|zl V V (zA 5 2 V V k9 V<|yB 2 V d9 zh)<|zl V V (Kq 4 32 V V k9 (by first | assumption | simp)<|yB 2 V d9 zh) ?_)
   exact yy V (Va (kt:=224) (et:=219) 2 V V V (zcg o9 o9) V (by show gD _=gD _;rw [hI.join hb45 hl]) k9 (keyN _ _) (hI.new hb45) (fun _ h=>mL _ h)) (yz<|yc (fun a w hh=>hK0 (⟨(2 * sz,j / 2,ks ++ [(2 * sz,j / 2)]),hI.step hb45⟩) (by simp only;omega) a w<|hh.sub<|⟨⟨_,V,(sT V)⟩,[0,1,5,2,3,4],by decide,⟨la rfl,⟨lR rfl,⟨lR rfl,⟨lR rfl,⟨⟨_,rfl,(by rw [← hI.join hb45 hl];exact yl _)⟩,⟨⟨_,rfl,⟨zF (by congr 1 <;> omega),zF (by congr 1 <;> omega),trivial⟩⟩,trivial⟩⟩⟩⟩⟩⟩⟩))
  ·have hb45:¬j % 2=1:=by have:=oF hb45;omega
   refine yZ ?_
   repeat (first | refine Ze ?_ | refine Zf d9 ?_)
   refine Zn ?_;refine Z1 (fn:=Tryz.f90) (⟨A20,c20,F20,some g29,[g29]⟩) [0,1,2,3] (Rs.none V) d9 ⟨la V,⟨lR V,⟨⟨_,V,zfj (by rw [hI.fin hb45,hl]) (by rw [hI.fin hb45,hl])⟩,⟨lR V,t9⟩⟩⟩⟩
theorem con_push1 (gl:Nat) (sA:Option Addr) (sc:Nat) (sF sG:LN) (gm:Nat) (es es':List Led.Ent) (k:Int) (b:LB) (A:Option Addr) (c:Nat) (F:LN) (R:Res) (hR:qb R (.slice A b.length c) (cellsOf b)) (hb:b.length≤1000000) (hk:0≤k∧k≤255) (hn:es.length≤100000) (he:es'=es ++ [⟨k,b⟩]):ConR Tryz.prog 90 [.c gl [isD<|.slice sA es.length sc,isD<|.map<|some gm],zbH ⟨sA,sc,sF,(some gm),sG⟩ es,zbG ⟨sA,sc,sF,(some gm),sG⟩ es,.r F R] [pA gl,Zo [iD k,isD<|.slice A b.length c]] (fun s:Lst=>[.c gl [isD<|.slice s.A (es').length s.c,isD<|.map s.M],zbH s es',zbG s es',.r F R]) (fun s:Lst=>isD<|.tuple #[]):=by
 have hl:es'.length=es.length + 1:=by rw [he];simp
 refine yg Tryz.func90 k9 V k9 fun base w0=>(zp (SWl.e2 (S:=[]) (yv V V) fun g3=>(zV<|zd V<|za V (zz V)<|za V (zc (n:=0) V k9)<|za V (zg 0 V V V k9 zh)<|za V (Y7 (e:=85) V k9)<|zf V<|ze<|zk<|yh (sF ++ (gl :: [])) (rr [0,1,2,3]<|.q 4<|.r 5<|.n 6 (.n 7 (.e 8 (.r 9<|.r 10<|.e 11 .fin .no) .no) .no) .no) k9 k9 (fun d _ _ _ _ h=>by cases d <;> exact h)<|zL V V<|zL V V<|zl V V (zz V)<|zl V V (zc (n:=0) V k9)<|Yy V V (zg 0 V V V k9 zh)<|zl V V (zA 4 2 V V k9 V<|yB 1 V d9<|yK 0 V d9 zh)<|yw V (zD [3] (zbp _ _ (by first | assumption | omega)) V ⟨(ZQ ⟨(zo<|zb _),(jJ 3 V hR d9),t9⟩),t9⟩ V)<|yw V (ZL V V (blsE1 k b) V)<|yW V (yN 1 2 32 V V (SrcT.ls (l:=[_]) V) k9 k9 (by simp <;> omega) d9 (fun _ h=>mL _ h) V) ?_ yf)))
 rintro _ ⟨A20,F20,c20,rfl⟩
 refine zl V V (zz V) (zl V V (zc (n:=0) V k9)<|yy V (zR 0 V V V k9 V<|(mR _ mC))<|yI<|zk<|zp<|zd V<|za V (zz V)<|za V (zc (n:=1) V k9)<|za V (zg 0 V V V k9 zh)<|za V (zeO (kt:=224) (et:=219) V V k9)<|ze<|zE V V<|zr<|zn<|zp<|za V (zA 3 2 V V k9 V zh)<|zt (S:=[]) (zD [2] (zgx _ _ (by first | assumption | omega) (by first | assumption | omega)) V ⟨(ZQ ⟨(zo<|zb _),(jJ 2 V hR d9),t9⟩),t9⟩ V) (SWl.e2 (S:=[]) (zM (zs:=cellsOf<|List.replicate 32 0) k9 V) fun g5=>(zt (S:=[_]) (Yo 5 32 V V V k9 (by first | assumption | simp) (by first | assumption | simp)<|m9 V)<|zV<|zd V<|za V (yq V V zhJ) (SWl.e2 (S:=[]) (zM (zs:=[.int .i64 0,.int .i64 0]) k9 V) fun g6=>(zt (S:=[_]) (zw 6 V V V k9 V<|m9 V)<|ze<|zk<|zO (σ':=zN [(0,_),(5,_),(6,_)] [.c gl [isD<|.slice A20 (es').length c20,isD<|.map<|some gm],.r F20<|yP 85 2 encE A20 c20 es',.r sG<|zam (some gm) zbJ (Led.keys es.length)<|zaM es',.r F R,.c g5<|(cellsOf<|Led.val HH es' (1,es.length)).map isD,.c g6 [iD<|1,iD<|(es.length:Int)]]) (⟨⟨_,V,(sT V)⟩,[0,4,1,2,5,6],by decide,⟨⟨_,rfl,⟨zF (by rw [he]),zb _,trivial⟩⟩,⟨⟨_,rfl,ZZ (by rw [he]) (by rw [he])⟩,⟨⟨_,rfl,zfj rfl (by rw [he];exact mkeys_app _ _)⟩,⟨lR rfl,⟨⟨_,rfl,(by rw [he,Led.val_one];exact yl _)⟩,⟨la rfl,trivial⟩⟩⟩⟩⟩⟩⟩)<|yh (sG ++ []) (rr [0,1,2,3,4,5]<|.e 6 .fin .no) k9 k9 (fun d _ _ _ _ h=>by cases d <;> exact h)<|zL V V<|zl V V (zz V)<|zl V V (zc (n:=1) V k9) ?_)))))
 refine zl V V (zg 0 V V V k9<|yB 2 V d9 zh) (zl V V (zA 5 2 V V k9 V<|yB 2 V d9 zh)<|zl V V (Kq 4 32 V V k9 (by first | assumption | simp)<|yB 2 V d9 zh)<|yy V (Va (kt:=224) (et:=219) 2 V V V (zcg V V) V V k9 (keyN _ _) new_one (fun _ h=>mL _ h))<|yI<|zX<|Zw (ι:={q:Nat × Nat × List (Nat × Nat) // PInv es.length q.1 q.2.1 q.2.2}) (fun q=>zN [(0,pA gl),(5,pA g5),(6,pA g6)] [.c gl [isD<|.slice A20 (es').length c20,isD<|.map<|some gm],.r F20<|yP 85 2 encE A20 c20 es',.r sG<|zam (some gm) zbJ (q.1.2.2)<|zaM es',.r F R,.c g5<|(cellsOf<|Led.val HH es' (q.1.1,q.1.2.1)).map isD,.c g6 [iD<|(q.1.1:Int),iD<|(q.1.2.1:Int)]]) (fun q=>q.1.2.1) (⟨(1,es.length,Led.keys es.length ++ [(1,es.length)]),PInv.start _⟩) ?_ ?_)
 ·exact (sB [0,1,5,2,3,4] V V)
 ·rintro ⟨⟨sz,j,ks⟩,hI⟩ K0 hK0;dsimp only at hI ⊢;refine zk (zp<|za V (zc (n:=1) V k9)<|za V (zg 5 V V V k9 zh)<|za V (Rd.remN V V ⟨by omega,by omega⟩)<|za V (yM V V)<|ze<|zJ V (fun hb45=> ?_) (fun hb45=> ?_))
  ·have hb45:j % 2=1:=by have:=oT hb45;omega
   refine zr (zn<|zX<|zk<|yh (g5 :: []) (rr [0,1,2,3,4,5,6,7,8,9,10]<|.q 11<|.n 12 (.e 13 .fin .no) .no) k9 k9 (fun d _ _ _ _ h=>by cases d <;> exact h)<|zL V V<|zl V V (zz V)<|zl V V (zc (n:=1) V k9)<|zl V V (zg 0 V V V k9<|yK 4 V d9 zh)<|zl V V (zc (n:=0) V k9)<|zl V V (zg 5 V V V k9<|yK 4 V d9 zh)<|zl V V (zc (n:=1) V k9)<|zl V V (zg 5 V V V k9<|yK 4 V d9 zh)<|zl V V (jF V V ⟨by have:=hI.le;omega,by have:=hI.le;omega⟩)<|zl V V (yq V V zhJ)<|zl V V (zgH (kt:=224) (et:=219) 2 V V V (zcg V o9) k9 (keyN _ _) (hI.left hb45)<|yK 4 V d9 zh)<|Yy V V (Kq 4 32 V V k9 (by first | assumption | simp) zh)<|yw V (zD [] (zgy _ _ (by first | assumption | simp) (by first | assumption | simp)) V ⟨(zo<|zb _),(zo<|zb _),t9⟩ V)<|yy V (Yo 4 32 V V V k9 (by first | assumption | simp) (by first | assumption | simp) mC)<|yI<|zp<|za V (zc (n:=0) V k9)<|za V (zg 5 V V V k9 zh)<|za V (Rd.mul V V ⟨by have:=hI.le;omega,by have:=hI.le;omega⟩)<|za V (zc (n:=1) V k9)<|za V (zg 5 V V V k9 zh)<|za V (Rd.quoN V V ⟨by omega,by have:=hI.le;omega,by omega⟩)<|za V (yq V V zhJ)<|zt (S:=[_]) (zw 5 V V V k9 V<|m9 V)<|ze<|yh (sG ++ []) (rr [0,1,2,3,4,5]<|.e 6 .fin .no) k9 k9 (fun d _ _ _ _ h=>by cases d <;> exact h)<|zL V V<|zl V V (zz V)<|zl V V (zc (n:=1) V k9)<|zl V V (zg 0 V V V k9<|yB 2 V d9 zh)<|zl V V (zA 5 2 V V k9 V<|yB 2 V d9 zh)<|zl V V (Kq 4 32 V V k9 (by first | assumption | simp)<|yB 2 V d9 zh) ?_)
   exact yy V (Va (kt:=224) (et:=219) 2 V V V (zcg o9 o9) V (by show gD _=gD _;rw [hI.join hb45 hl]) k9 (keyN _ _) (hI.new hb45) (fun _ h=>mL _ h)) (yz<|yc (fun a w hh=>hK0 (⟨(2 * sz,j / 2,ks ++ [(2 * sz,j / 2)]),hI.step hb45⟩) (by simp only;omega) a w<|hh.sub<|⟨⟨_,V,(sT V)⟩,[0,1,5,2,3,4],by decide,⟨la rfl,⟨lR rfl,⟨lR rfl,⟨lR rfl,⟨⟨_,rfl,(by rw [← hI.join hb45 hl];exact yl _)⟩,⟨⟨_,rfl,⟨zF (by congr 1 <;> omega),zF (by congr 1 <;> omega),trivial⟩⟩,trivial⟩⟩⟩⟩⟩⟩⟩))
  ·have hb45:¬j % 2=1:=by have:=oF hb45;omega
   refine yZ ?_
   repeat (first | refine Ze ?_ | refine Zf d9 ?_)
   refine Zn ?_;refine Z1 (fn:=Tryz.f90) (⟨A20,c20,F20,some gm,sG⟩) [0,1,2,3] (Rs.none V) d9 ⟨la V,⟨lR V,⟨⟨_,V,zfj (by rw [hI.fin hb45,hl]) (by rw [hI.fin hb45,hl])⟩,⟨lR V,t9⟩⟩⟩⟩
theorem con_push (gl:Nat) (s:Lst) (es es':List Led.Ent) (k:Int) (b:LB) (A:Option Addr) (c:Nat) (F:LN) (R:Res) (hR:qb R (.slice A b.length c) (cellsOf b)) (hb:b.length≤1000000) (hk:0≤k∧k≤255) (hn:es.length≤100000) (he:es'=es ++ [⟨k,b⟩]):
  ConR Tryz.prog 90 [ledC gl s es,zbH s es,zbG s es,.r F R] [pA gl,Zo [iD k,isD<|.slice A b.length c]] (fun s:Lst=>[ledC gl s es',zbH s es',zbG s es',.r F R]) (fun _=>isD<|.tuple #[]):=by
 obtain ⟨sA,sc,sF,M,sG⟩:=s
 cases M with
 | none=>exact con_push0 gl sA sc sF sG es es' k b A c F R hR hb hk hn he
 | some gm=>exact con_push1 gl sA sc sF sG gm es es' k b A c F R hR hb hk hn he
end
section
end
section
theorem con_len (es:List Led.Ent):ConN Tryz.prog 37 [ledD es] (iD (es.length:Int)):=by
 refine yO Tryz.func37 k9 V k9 fun base w0=>(zp<|zf V<|ze<|zk<|zp<|zd V<|za V (zbC V V k9)<|ze<|zE V V<|zr<|zn<|zp<|zd V<|za V (yQ V)<|za V (yb (n:=0) V k9 (show 0 < 2 by decide))<|za V (ya V V k9 s9)<|za V (yx (e:=85) V k9)<|zf V<|ze<|zK (fn:=Tryz.f37) (fun _ _ h=>h)<|Rs.le (Rs.one V<|zj V) ?_);exact zu
theorem con_at (es:List Led.Ent) (i:Nat) (e:Led.Ent) (h:es[i]? =some e) (hb:e.bytes.length≤1000000):ConN Tryz.prog 80 [ledD es,iD (i:Int)] (Yk [Zo [iD e.kind,bD e.bytes],iD 0]):=by
 have hi:=(Jg.1 h).1;refine yO Tryz.func80 k9 V k9 fun base w0=>(zp (SWl.e2 (S:=[]) (zM (zs:=[.int .i64 0,.slice none 0 0]) k9 V) fun g4=>(zf V<|ze<|zk<|zp<|zd V<|za V (zbC V V k9)<|ze<|zE V V<|zr<|zn<|zk<|zp<|zd V<|za V (yF V V)<|zd V<|yL V V s9 V V (zI V)<|yL V V s9 V V (zI V)<|yL V V s9 V V (yQ V)<|yL V V s9 V V (yb (n:=0) V k9 (show 0 < 2 by decide))<|yL V V s9 V V (ya V V k9 s9)<|yL V V s9 V V (yx (e:=85) V k9)<|yL V V s9 V V (ZB V V)<|za V (zv V s9 V)<|ze<|zE V (by simp;omega)<|zr<|zn<|zp<|zd V<|za V (yQ V) ?_)));refine za V (yb (n:=0) V k9 (show 0 < 2 by decide)) (za V (ya V V k9 s9)<|zd V<|za V (yp (e:=85) 2 V V k9 k9 o9 (by simpa using h))<|za V (ZK 2 V k9 d9 (show 2≤2 by decide) s9)<|zt (S:=[]) (zeS [] (zbp _ _ hb) V ⟨(zo<|zb _),t9⟩ zcf V)<|zt (S:=[_]) (zw 0 V V V k9 V<|m9 V)<|zf V<|ze<|zK (fn:=Tryz.f80) (fun _ _ h=>h)<|Rs.le (ym V (zS 0 V V k9)<|zj V) ?_)
 exact (Zx ⟨(jg ⟨(zb _),(zb _),t9⟩),zu,t9⟩)
