/- THE WALKS of number's size, natOf, digits. THE WALKS of number's natOf and digits: bytes, the highest first, and words. THE WALK of number's digits. I -/
import Derived.Test.YtfoafihodanmhaaGreatDoorGZAP
import Derived.Test.YtfoafihodanmhaaGreatDoorGZAQ
import Derived.Laws.Rows
set_option maxHeartbeats 8000000
set_option maxRecDepth 100000
namespace Go.Proofs.YtfoafihodanmhaaGreatDoor
open Go.RowKit
open Nm (W32)
theorem zaU:∀ (f x:Nat),x < 2 ^ f→f≤64→Lib.bitLen x=Nm.len 2 x
 | 0,x,h,_=>by
  have:x=0:=by simpa using h
  subst this;rw [Nm.len_zero]
  rfl
 | f + 1,x,h,hf=>by
  by_cases h0:x=0
  ·subst h0;rw [Nm.len_zero];rfl
  ·rw [Lib.bitLen_half x h0<|Ju h<|Nat.pow_le_pow_right d9 hf,Nm.len_pos d9 h0,zaU f (x / 2) (by rw [XI] at h;omega) o9,Nat.add_comm]
theorem len32_at (w:World) (x b:Nat) (h:x < 4294967296) (hb:Lib.bitLen x=b):Calls Tryz.prog 170 #[.int .u32 (x:Int)] w fun e w'=>e= .returned (.int .i64 (b:Int))∧w=w':=by
 refine (zaT (x:Int) w o9 o9).mono ?_;rintro e w' ⟨rfl,rfl⟩;rw [J7,hb];exact ⟨I,I⟩
theorem VT (w:World) (A:Option Addr) (n c X:Nat) (hn:n≤999999) (hA:NatS w A n c X):
  Calls Tryz.prog 144 #[.slice A n c] w fun e w'=>∃ s:Nat,e= .returned (.int .i64 (s:Int))∧Hid (s=Nm.len 2 X)∧s≤32 * n∧w=w':=by
 rcases (show n=0∨∃ j,n=j + 1 from by cases n;exact .inl rfl;exact .inr ⟨_,rfl⟩) with rfl | ⟨j,rfl⟩
 ·have hX:X=0:=(Nm.len_eq_zero (B:=W32) d9).1 hA.n_eq.symm;subst hX
  go_enter Tryz.func144,Tryz.ntmps144
  go_wp2
  go_ret
  exact ⟨0,I,by unfold Hid;rw [Nm.len_zero],by omega,rfl⟩
 ·obtain ⟨ga,oa,hAe,hga,hca⟩:=hA.at o9;have c1:=hca j o9
  have hX0:X≠0:=by rintro rfl;have:=hA.n_eq;rw [Nm.len_zero] at this;omega
  have hb:=Nm.bits_top hX0;rw [← hA.n_eq,Nat.add_sub_cancel] at hb;have hx:X / W32 ^ j % W32=X / W32 ^ j:=Nm.top_word hA.lt;rw [hx] at c1
  have hxl:X / W32 ^ j < 4294967296:=by rw [← hx];exact Nat.mod_lt _ d9
  obtain ⟨x,Hx⟩:∃ x,Hid (x=X / W32 ^ j):=⟨_,rfl⟩;rw [← Hx.out] at c1 hb hxl;have e2:=zaU 32 x hxl d9;have hbl:Nm.len 2 x≤32:=(Nm.len_le d9 32 x).2 hxl;obtain ⟨b,Hb⟩:∃ b,Hid (b=Nm.len 2 x):=⟨_,rfl⟩;rw [← Hb.out] at hb hbl e2
  have hblI:(b:Int)≤32:=by omega
  have hlen:=len32_at w x b hxl e2;have Hlen:=Jm hlen;have Hhb:=Jm hb
  have hjm:(j:Int)≤1000000:=by omega
  have hj1:(j:Int) + 1≠0:=by omega
  have hj2:((j:Int) + 1 == 0)=false:=Xb.2 hj1;subst hAe;clear hb e2 hlen hca hx
  go_enter Tryz.func144,Tryz.ntmps144
  go_wp2_with (go_at_call 170;refine Hlen.out.mono ?_;rintro e w' ⟨rfl,rfl⟩)
  go_ret
  refine ⟨32 * j + b,by go_num,Hhb.out.symm,by omega,rfl⟩
structure BytS (w:World) (A:Option Addr) (n c X:Nat):Prop where
 n_eq:n=Nm.len 256 X
 le:n≤c
 rd:RV w A (cN .u8 (Nm.dg 256 X).reverse)
theorem BytS.keep {w w':World} {A:Option Addr} {n c X:Nat} (h:BytS w A n c X) (ho:Only [] w w'):BytS w' A n c X:=⟨h.n_eq,h.le,h.rd.keep0 ho⟩
theorem BytS.drew {w:World} {A:Option Addr} {n c X:Nat} (h:BytS w A n c X):BytS w.drew A n c X:=⟨h.n_eq,h.le,h.rd⟩
theorem BytS.zero (w:World) (A:Option Addr) (c:Nat):BytS w A 0 c 0:=⟨by rw [Nm.len_zero],JC _,by rw [Nm.dg_zero];exact RV.nil⟩
theorem zbh {l:LN} {i r:Nat} (h:i + r + 1=l.length):l.reverse.getD r 0=l.getD i 0:=by
 rw [Jr,Jr,List.getElem?_reverse o9];congr 2;omega
theorem BytS.at {w:World} {A:Option Addr} {n c X:Nat} (h:BytS w A n c X) (h0:0 < n):∃ g o,A=some ⟨g,o,none⟩∧g < w.heap.size∧∀ j r,j + r + 1=n→w.cell? ⟨g,o + r,none⟩=some (.int .u8 ((X / 256 ^ j % 256:Nat):Int)):=by
 have hl:(Nm.dg 256 X).length=n:=by rw [Nm.dg_length,h.n_eq]
 obtain ⟨g,o,e,hg,hc⟩:=h.rd (by rw [Zh,List.length_reverse];omega);refine ⟨g,o,e,hg,fun j r hj=> ?_⟩;rw [hc r (by rw [Zh,List.length_reverse];omega),ZQ (by rw [List.length_reverse];omega),zbh (i:=j) o9,Nm.dg_getD d9]
theorem i64_in {z:Int} (h1: -9223372036854775808≤z) (h2:z≤9223372036854775807):IntKind.i64.wrap z=z:=by
 simp [IntKind.wrap,IntKind.signed,IntKind.bits];omega
theorem or32 {u d s:Nat} (hs:s≤24) (hu:u < 2 ^ s) (hd:d < 256):bits .or .u32 (u:Int) ((d * 2 ^ s:Nat):Int)=((u + d * 2 ^ s:Nat):Int):=by
 have h24:2 ^ s≤2 ^ 24:=Nat.pow_le_pow_right d9 hs
 have h1:d * 2 ^ s < 4294967296:=by
  calc d * 2 ^ s≤255 * 2 ^ 24:=Xx o9 h24
   _ < 4294967296:=by decide
 rw [u32_or_nat u (d * 2 ^ s) o9 h1];congr 1;have:=Nat.two_pow_add_eq_or_of_lt hu d;rw [Nat.or_comm,Nat.mul_comm,Nat.add_comm];exact this.symm
theorem zb0 (w:World) (A:Option Addr) (n c X:Nat) (hn:n≤100000) (hA:BytS w A n c X):
  Calls Tryz.prog 119 #[.slice A n c] w fun e w'=>∃ A' n' c',e= .returned (.slice A' n' c')∧NatS w' A' n' c' X∧Only [] w w'∧(∀ p,A'=some p→w.heap.size≤p.block):=by
 have Hn:=Jm hA.n_eq;obtain ⟨m,Hm⟩:∃ m,Hid (m=(n + 3) / 4):=⟨_,rfl⟩
 have hmI:((n:Int) + 3) / 4=(m:Int):=by have:=Hm.out;omega
 have hm1:m≤100000:=by have:=Hm.out;omega
 go_enter Tryz.func119,Tryz.ntmps119
 go_wp2_with (refine q8 rfl 204 _ _ rfl 209 (.int .u32 0) 4 Tryz.underlying204 zay rfl .i64 .i64 _ _ m m o9 o9 rfl rfl (Js _) o9 d9 ?_;intro w1 _ hB1 hO1)
 rw [qZ] at hB1
 go_loopw [13] (fun i wr=>∃ k:Nat,k≤n∧i= .int .i64 (k:Int)∧Blk wr w.heap.size 209 (cN .u32<|Nm.pad W32 m<|X % 256 ^ k)∧Only [] w wr) (fun i _=>n - (intOf i).toNat)
 case atStart=>exact ⟨0,JC _,rfl,by rw [Nat.pow_zero,Nat.mod_one];exact hB1,hO1⟩
 case round=>
  clear hB1 hO1;obtain ⟨k,hk,rfl,hBk,hO⟩:=hrel
  by_cases hlt:k < n
  ·have hltI:(k:Int) < (n:Int):=by omega
   have hkm:(k:Int)≤100000:=by omega
   obtain ⟨ga,oa,hAe,hga,hca⟩:=(hA.keep hO).at o9;obtain ⟨r,Hr⟩:∃ r,Hid (k + r + 1=n):=⟨n - 1 - k,by unfold Hid;omega⟩
   have hrI:(n:Int) - 1 - (k:Int)=(r:Int):=by have:=Hr.out;omega
   have hrn:(r:Int) < (n:Int):=by omega
   have c1:=hca k r Hr.out;clear hca;obtain ⟨q,Hq⟩:∃ q,Hid (q=k / 4):=⟨_,rfl⟩
   have hqI:(k:Int) / 4=(q:Int):=by have:=Hq.out;omega
   have hqm:q < m:=by have:=Hq.out;have:=Hm.out;omega
   have hqmI:(q:Int) < (m:Int):=by omega
   have hq1:(q:Int)≤100000:=by omega
   have hwq:IntKind.i64.wrap (q:Int)=(q:Int):=i64_in o9 o9;have hfl:=Jm (Nm.word_fill X m k (by rw [← Hq.out];exact hqm));have hbf:=Nm.word_before X (k / 4) (k % 4) (Nat.mod_lt _ d9);rw [Nat.div_add_mod] at hbf;have c2:=hBk.cellv (i:=q) (ZQ (by simpa using hqm));rw [Nm.pad_getD _ _ _ _ hqm] at c2;rw [← Hq.out] at hfl hbf;have hdl:X / 256 ^ k % 256 < 256:=Nat.mod_lt _ d9
   generalize X / 256 ^ k % 256=d at c1 hfl hdl
   generalize X % 256 ^ k / W32 ^ q % W32=u at c2 hfl hbf
   have hdI:(d:Int) < 256:=by omega
   subst hAe;obtain ⟨r4,Hr4⟩:∃ r4,Hid (r4=k % 4):=⟨_,rfl⟩;rw [← Hr4.out] at hfl hbf
   have hr4I:(k:Int) % 4=(r4:Int):=by have:=Hr4.out;omega
   have hr4T:(k:Int).tmod 4=(r4:Int):=by rw [Int.tmod_eq_emod_of_nonneg o9];exact hr4I
   have hcase:r4=0∨r4=1∨r4=2∨r4=3:=by have:=Hr4.out;omega
   rcases hcase with rfl | rfl | rfl | rfl
   ·have hu:u < 2 ^ 0:=hbf
    have huI:(u:Int) < 4294967296:=by omega
    clear hbf;have hor:=or32 (u:=u) (d:=d) (s:=0) d9 hu hdl;obtain ⟨v,Hv⟩:∃ v:Nat,Hid (v=u + d * 2 ^ 0):=⟨u + d * 2 ^ 0,Eq.refl<|u + d * 2 ^ 0⟩;rw [← Hv.out] at hor
    have hor:bits .or .u32 (u:Int) ((d:Int))=(v:Int):=by rw [← hor];simp
    have hB':=hBk.set q (.int .u32 (v:Int));rw [ZW,hfl.out v Hv.out] at hB';have HB':=Jm hB';have fz:=hBk.frozen q;clear hB' hBk
    go_wp2
    refine wp_region_still_tail 12 k9 k9 ?_;simp only [Xo,XD,Xz,List.drop_zero]
    iterate 12 (refine wpStill_step ?_;intro K hK;go_simp;(try go_ints);(try ((go_ite <;> go_prune);go_simp));(try go_ints);refine hK _ ?_)
    refine wpStill_nil ?_
    go_wp2
    go_roundw
    case rel=>exact ⟨k + 1,by omega,by go_num,HB'.out.drew,(hO.setCell (p:=⟨w.heap.size,q,none⟩) (.inr<|Js _) _).drew⟩
    case measure=>simp [intOf];omega
   ·have hu:u < 2 ^ 8:=hbf
    have huI:(u:Int) < 4294967296:=by omega
    clear hbf;have hor:=or32 (u:=u) (d:=d) (s:=8) d9 hu hdl;obtain ⟨v,Hv⟩:∃ v:Nat,Hid (v=u + d * 2 ^ 8):=⟨u + d * 2 ^ 8,Eq.refl<|u + d * 2 ^ 8⟩;rw [← Hv.out] at hor
    have hor:bits .or .u32 (u:Int) ((d:Int) * 256)=(v:Int):=by rw [← hor];simp
    have hB':=hBk.set q (.int .u32 (v:Int));rw [ZW,hfl.out v Hv.out] at hB';have HB':=Jm hB';have fz:=hBk.frozen q;clear hB' hBk
    go_wp2
    refine wp_region_still_tail 12 k9 k9 ?_;simp only [Xo,XD,Xz,List.drop_zero]
    iterate 12 (refine wpStill_step ?_;intro K hK;go_simp;(try go_ints);(try ((go_ite <;> go_prune);go_simp));(try go_ints);refine hK _ ?_)
    refine wpStill_nil ?_
    go_wp2
    go_roundw
    case rel=>exact ⟨k + 1,by omega,by go_num,HB'.out.drew,(hO.setCell (p:=⟨w.heap.size,q,none⟩) (.inr<|Js _) _).drew⟩
    case measure=>simp [intOf];omega
   ·have hu:u < 2 ^ 16:=hbf
    have huI:(u:Int) < 4294967296:=by omega
    clear hbf;have hor:=or32 (u:=u) (d:=d) (s:=16) d9 hu hdl;obtain ⟨v,Hv⟩:∃ v:Nat,Hid (v=u + d * 2 ^ 16):=⟨u + d * 2 ^ 16,Eq.refl<|u + d * 2 ^ 16⟩;rw [← Hv.out] at hor
    have hor:bits .or .u32 (u:Int) ((d:Int) * 65536)=(v:Int):=by rw [← hor];simp
    have hB':=hBk.set q (.int .u32 (v:Int));rw [ZW,hfl.out v Hv.out] at hB';have HB':=Jm hB';have fz:=hBk.frozen q;clear hB' hBk
    go_wp2
    refine wp_region_still_tail 12 k9 k9 ?_;simp only [Xo,XD,Xz,List.drop_zero]
    iterate 12 (refine wpStill_step ?_;intro K hK;go_simp;(try go_ints);(try ((go_ite <;> go_prune);go_simp));(try go_ints);refine hK _ ?_)
    refine wpStill_nil ?_
    go_wp2
    go_roundw
    case rel=>exact ⟨k + 1,by omega,by go_num,HB'.out.drew,(hO.setCell (p:=⟨w.heap.size,q,none⟩) (.inr<|Js _) _).drew⟩
    case measure=>simp [intOf];omega
   ·have hu:u < 2 ^ 24:=hbf
    have huI:(u:Int) < 4294967296:=by omega
    clear hbf;have hor:=or32 (u:=u) (d:=d) (s:=24) d9 hu hdl;obtain ⟨v,Hv⟩:∃ v:Nat,Hid (v=u + d * 2 ^ 24):=⟨u + d * 2 ^ 24,Eq.refl<|u + d * 2 ^ 24⟩;rw [← Hv.out] at hor
    have hor:bits .or .u32 (u:Int) ((d:Int) * 16777216)=(v:Int):=by rw [← hor];simp
    have hB':=hBk.set q (.int .u32 (v:Int));rw [ZW,hfl.out v Hv.out] at hB';have HB':=Jm hB';have fz:=hBk.frozen q;clear hB' hBk
    go_wp2
    refine wp_region_still_tail 12 k9 k9 ?_;simp only [Xo,XD,Xz,List.drop_zero]
    iterate 12 (refine wpStill_step ?_;intro K hK;go_simp;(try go_ints);(try ((go_ite <;> go_prune);go_simp));(try go_ints);refine hK _ ?_)
    refine wpStill_nil ?_
    go_wp2
    go_roundw
    case rel=>exact ⟨k + 1,by omega,by go_num,HB'.out.drew,(hO.setCell (p:=⟨w.heap.size,q,none⟩) (.inr<|Js _) _).drew⟩
    case measure=>simp [intOf];omega
  ·obtain rfl:k=n:=by omega
   have hX:X < 256 ^ k:=by rw [Hn.out];exact Nm.lt_pow_len d9 X
   rw [Nat.mod_eq_of_lt hX] at hBk;have hl:=Nm.len_words X;rw [← Hn.out,← Hm.out] at hl;have Hlt:=Jm ((Nm.len_le d9 _ _).1 hl);clear hX hl
   go_wp2_with (go_at_call 121;refine (qa _ _ m m X (Js _) o9 Hlt.out hBk.rv).mono ?_;rintro e w' ⟨m',rfl,rfl,hN⟩)
   go_ret
   exact ⟨_,_,_,I,hN,hO,fun p hp=>by injection hp with hp;subst hp;exact Js _⟩
theorem ZL (w:World) (A:Option Addr) (n c X:Nat) (hn:n≤100000) (hA:BytS w A n c X):
  Calls Tryz.prog 119 #[.slice A n c] w fun e w'=>∃ A' n' c',e= .returned (.slice A' n' c')∧NatS w' A' n' c' X∧Only [] w w':=
 (zb0 w A n c X hn hA).mono fun _ _ ⟨A',n',c',h1,h2,h3,_⟩=>⟨A',n',c',h1,h2,h3⟩
theorem rev_set {l:LN} {i r v:Nat} (h:i + r + 1=l.length):l.reverse.set r v=(l.set i v).reverse:=by
 refine Xh fun j=> ?_
 by_cases hj:j < l.length
 ·rw [List.getElem?_reverse (by simpa using hj),Xl]
  by_cases e:j=r
  ·subst e;rw [List.getElem?_set_self (by simpa using hj),show l.length - 1 - j=i by omega,List.getElem?_set_self o9]
  ·rw [List.getElem?_set_ne o9,List.getElem?_set_ne o9,List.getElem?_reverse hj]
 ·rw [JM (by simp;omega),JM (by simp;omega)]
theorem zeros8r (n:Nat):List.replicate n (Value.int .u8 0)=cN .u8 (Nm.pad 256 n 0).reverse:=by rw [VE,Nm.pad_zero,List.reverse_replicate]
theorem KQ (X n k r d:Nat) (h:k + r + 1=n) (hd:d=X / 256 ^ k % 256):(Nm.pad 256 n<|X % 256 ^ k).reverse.set r d=(Nm.pad 256 n<|X % 256 ^ (k + 1)).reverse:=by
 rw [rev_set (i:=k) (by simpa using h),Nm.pad_next d9 o9 (Nat.mod_lt _<|Nat.pow_pos d9) (by rw [hd];exact Nat.mod_lt _ d9),hd,← Nm.mod_next]
def Frs (w:World) (A:Option Addr):Prop:=∀ p,A=some p→w.heap.size≤p.block
theorem Frs.none (w:World):Frs w none:=fun p h=>by cases h
theorem Frs.le {w w':World} {A:Option Addr} (h:Frs w' A) (hs:w.heap.size≤w'.heap.size):Frs w A:=fun p hp=>JG hs (h p hp)
theorem BytS.far {w w1 w2:World} {A:Option Addr} {n c X:Nat} {S:LN} (h:BytS w1 A n c X) (hf:Frs w A) (ho:Only S w1 w2) (hS:∀ g∈S,g < w.heap.size):BytS w2 A n c X:=
 ⟨h.n_eq,h.le,h.rd.keep ho fun p hp hm=>by have:=hf p hp;have:=hS _ hm;omega⟩
theorem ze3 (w:World) (A:Option Addr) (n c X:Nat) (hn:n≤99999) (hA:NatS w A n c X):
    Calls Tryz.prog 145 #[.slice A n c] w fun e w'=>∃ A' n' c',e= .returned (.slice A' n' c')∧BytS w' A' n' c' X∧Frs w A'∧Only [] w w':=by
  by_cases h0:X=0
  · subst h0
    have hn0:n=0:=by rw [hA.n_eq,Nm.len_zero]
    subst hn0
    go_enter Tryz.func145,Tryz.ntmps145
    go_wp2_with (go_at_call 144;refine (VT w A 0 c 0 d9 hA).mono ?_;rintro e w' ⟨s,rfl,hs,hs2,rfl⟩;obtain rfl:s=0:=by omega)
    go_ret
    exact ⟨_,_,_,I,BytS.zero _ _ _,Frs.none w,Only.refl _ _⟩
  · obtain ⟨n8,Hn8⟩:∃ n8,Hid (n8=Nm.len 256 X):=⟨_,rfl⟩
    have hn80:n8≠0:=by rw [Hn8.out];exact fun h=>h0 ((Nm.len_eq_zero d9).1 h)
    have hbb:=Nm.bytes_bits X
    rw [← Hn8.out] at hbb
    have Hbb:=Jm hbb
    have hn80I:(n8:Int)≠0:=by omega
    have hn80b:((n8:Int) == 0)=false:=Xb.2 hn80I
    clear hbb
    go_enter Tryz.func145,Tryz.ntmps145
    go_wp2_with (first
      | (go_at_call 144
         refine (VT w A n c X o9 hA).mono ?_
         rintro e w' ⟨s,rfl,hs,hs2,rfl⟩
         have hs8:((s:Int) + 7) / 8=(n8:Int):=by have:=Hbb.out;rw [← hs.out] at this;omega
         have hn8m:n8≤400000:=by omega
         have hn8I:(n8:Int)≤400000:=by omega
         have hwn:IntKind.i64.wrap (n8:Int)=(n8:Int):=i64_in o9 o9)
      | (refine q8 rfl 37 _ _ rfl 5 (.int .u8 0) 1 Tryz.underlying37 info8 rfl .i64 .i64 _ _ n8 n8 o9 o9 rfl rfl (Js _) o9 d9 ?_;intro w1 _ hB1 hO1))
    rw [zeros8r] at hB1
    go_loopw [16] (fun i wr=>∃ k:Nat,k≤n8∧i= .int .i64 (k:Int)∧Blk wr w.heap.size 5 (cN .u8 (Nm.pad 256 n8<|X % 256 ^ k).reverse)∧Only [] w wr) (fun i _=>n8 - (intOf i).toNat)
    case atStart=>exact ⟨0,JC _,rfl,by rw [Nat.pow_zero,Nat.mod_one];exact hB1,hO1⟩
    case round=>
      clear hB1 hO1
      obtain ⟨k,hk,rfl,hBk,hO⟩:=hrel
      by_cases hlt:k < n8
      · have hltI:(k:Int) < (n8:Int):=by omega
        have hkm:(k:Int)≤400000:=by omega
        obtain ⟨r,Hr⟩:∃ r,Hid (k + r + 1=n8):=⟨n8 - 1 - k,by unfold Hid;omega⟩
        have hrI:(n8:Int) - 1 - (k:Int)=(r:Int):=by have:=Hr.out;omega
        have hrn:(r:Int) < (n8:Int):=by omega
        obtain ⟨q,Hq⟩:∃ q,Hid (q=k / 4):=⟨_,rfl⟩
        have hqI:(k:Int) / 4=(q:Int):=by have:=Hq.out;omega
        have hqn:q < n:=by
          rw [hA.n_eq]
          apply Nat.lt_of_not_le
          intro hle
          have h1:=(Nm.len_le (B:=W32) d9 q X).1 hle
          rw [Nm.w32_pow] at h1
          have h2:=(Nm.len_le (B:=256) d9 (4 * q) X).2 h1
          rw [← Hn8.out] at h2
          have:=Hq.out
          omega
        have hqnI:(q:Int) < (n:Int):=by omega
        have hq1:(q:Int)≤400000:=by omega
        have hwq:IntKind.i64.wrap (q:Int)=(q:Int):=i64_in o9 o9
        obtain ⟨ga,oa,hAe,hga,hca⟩:=(hA.keep hO).at o9
        have c1:=hca q hqn
        obtain ⟨r4,Hr4⟩:∃ r4,Hid (r4=k % 4):=⟨_,rfl⟩
        have hr4I:(k:Int) % 4=(r4:Int):=by have:=Hr4.out;omega
        have hcase:r4=0∨r4=1∨r4=2∨r4=3:=by have:=Hr4.out;omega
        have hbw:=Nm.byte_word X q r4 o9
        rw [show 4 * q + r4=k by have:=Hr4.out;have:=Hq.out;omega] at hbw
        have hxl:X / W32 ^ q % W32 < 4294967296:=Nat.mod_lt _ d9
        obtain ⟨d,Hdx⟩:∃ d,Hid (d=X / 256 ^ k % 256):=⟨_,rfl⟩
        rw [← Hdx.out] at hbw
        generalize X / W32 ^ q % W32=x at c1 hbw hxl
        have hxI:(x:Int) < 4294967296:=by omega
        have Hbw:=Jm hbw
        subst hAe
        clear hca hbw
        rcases hcase with rfl | rfl | rfl | rfl
        · have Hd:Hid (x % 256=d):=by unfold Hid;have:=Hbw.out;simpa using this
          have hv2:(x:Int) % 256=(d:Int):=by have:=Hd.out;omega
          have hv2:((x:Int) / 1) % 256=(d:Int):=by have:=Hd.out;omega
          have hB':=hBk.set r (.int .u8 (d:Int))
          rw [ZW,KQ X n8 k r d Hr.out (by rw [Hdx.out])] at hB'
          have HB':=Jm hB'
          have c2:=hBk.cellv (i:=r) (ZQ (by simp;omega))
          have fz:=hBk.frozen r
          clear hB' hBk
          go_wp2
          go_roundw
          case rel=>exact ⟨k + 1,by omega,by go_num,HB'.out,hO.setCell (p:=⟨w.heap.size,r,none⟩) (.inr<|Js _) _⟩
          case measure=>simp [intOf];omega
        · have Hd:Hid (x / 256 % 256=d):=Hbw.out
          have hv2:((x:Int) / 256) % 256=(d:Int):=by have:=Hd.out;omega
          have hB':=hBk.set r (.int .u8 (d:Int))
          rw [ZW,KQ X n8 k r d Hr.out (by rw [Hdx.out])] at hB'
          have HB':=Jm hB'
          have c2:=hBk.cellv (i:=r) (ZQ (by simp;omega))
          have fz:=hBk.frozen r
          clear hB' hBk
          go_wp2
          go_roundw
          case rel=>exact ⟨k + 1,by omega,by go_num,HB'.out,hO.setCell (p:=⟨w.heap.size,r,none⟩) (.inr<|Js _) _⟩
          case measure=>simp [intOf];omega
        · have Hd:Hid (x / 65536 % 256=d):=Hbw.out
          have hv2:((x:Int) / 65536) % 256=(d:Int):=by have:=Hd.out;omega
          have hB':=hBk.set r (.int .u8 (d:Int))
          rw [ZW,KQ X n8 k r d Hr.out (by rw [Hdx.out])] at hB'
          have HB':=Jm hB'
          have c2:=hBk.cellv (i:=r) (ZQ (by simp;omega))
          have fz:=hBk.frozen r
          clear hB' hBk
          go_wp2
          go_roundw
          case rel=>exact ⟨k + 1,by omega,by go_num,HB'.out,hO.setCell (p:=⟨w.heap.size,r,none⟩) (.inr<|Js _) _⟩
          case measure=>simp [intOf];omega
        · have Hd:Hid (x / 16777216 % 256=d):=Hbw.out
          have hv3:(x:Int) / 16777216=(d:Int):=by have:=Hd.out;omega
          have hv2:((x:Int) / 16777216) % 256=(d:Int):=by have:=Hd.out;omega
          have hB':=hBk.set r (.int .u8 (d:Int))
          rw [ZW,KQ X n8 k r d Hr.out (by rw [Hdx.out])] at hB'
          have HB':=Jm hB'
          have c2:=hBk.cellv (i:=r) (ZQ (by simp;omega))
          have fz:=hBk.frozen r
          clear hB' hBk
          go_wp2
          go_roundw
          case rel=>exact ⟨k + 1,by omega,by go_num,HB'.out,hO.setCell (p:=⟨w.heap.size,r,none⟩) (.inr<|Js _) _⟩
          case measure=>simp [intOf];omega
      · obtain rfl:k=n8:=by omega
        have hX:X < 256 ^ k:=by rw [Hn8.out];exact Nm.lt_pow_len d9 X
        rw [Nat.mod_eq_of_lt hX] at hBk
        have hBS:BytS wr (some ⟨w.heap.size,0,none⟩) k k X:=⟨Hn8.out,Js _,by rw [Nm.dg_pad d9,← Hn8.out];exact hBk.rv⟩
        clear hX hBk
        go_wp2
        go_ret
        exact ⟨_,_,_,I,hBS,fun p hp=>by injection hp with hp;subst hp;exact Js _,hO⟩
structure IntS (w:World) (s:Bool) (A:Option Addr) (n c:Nat) (z:Int):Prop where
 sg:s=decide (z < 0)
 by_:BytS w A n c z.natAbs
theorem IntS.keep {w w':World} {s:Bool} {A:Option Addr} {n c:Nat} {z:Int} (h:IntS w s A n c z) (ho:Only [] w w'):IntS w' s A n c z:=⟨h.sg,h.by_.keep ho⟩
theorem IntS.zero (w:World) (A:Option Addr) (c:Nat):IntS w false A 0 c 0:=⟨rfl,BytS.zero w A c⟩
def ya:Nat:=256 ^ 64
def qY (z:Int):Int:=if z.natAbs < ya then z else 0
def Y3 (z:Int):Int:=if z.natAbs < ya then 0 else 7
theorem yY {z:Int} (h:z.natAbs < ya):qY z=z∧Y3 z=0:=by simp [qY,Y3,h]
theorem zdW {z:Int} (h:¬z.natAbs < ya):qY z=0∧Y3 z=7:=by simp [qY,Y3,h]
def RI (w:World) (z er:Int) (e:Ending) (w':World):Prop:=
 ∃ s A n c,e= .returned (.tuple #[.agg #[.bool s,.slice A n c],.int .i64 er])∧IntS w' s A n c z∧Frs w A∧Only [] w w'
def sgn (neg:Bool) (X:Nat):Int:=if neg then -(X:Int) else (X:Int)
theorem yH (neg:Bool) (X:Nat):(sgn neg X).natAbs=X:=by unfold sgn;split <;> simp
theorem sgn_neg (neg:Bool) (X:Nat):decide (sgn neg X < 0)=(neg && decide (0 < X)):=by
 unfold sgn
 cases neg <;> simp <;> omega
theorem Blk.two {w:World} {g:Nat} {t:TypeId} {a b:Value} (h:Blk w g t [a,b]):w.cell? ⟨g,0,none⟩=some a∧w.cell? ⟨g,1,none⟩=some b∧w.frozen? ⟨g,0,none⟩=false∧w.frozen? ⟨g,1,none⟩=false:=
 ⟨h.cell 0,h.cell 1,h.frozen 0,h.frozen 1⟩
theorem qC (w:World):Blk (w.alloc<|.cells #[.bool false,.slice none 0 0] 76) w.heap.size 76 [.bool false,.slice none 0 0]:=Blk.new w _ _
theorem Blk.put2 {w:World} {g:Nat} {t:TypeId} {a b:Value} (h:Blk w g t [a,b]) (u v:Value):Blk ((w.setCell ⟨g,0,none⟩ u).setCell ⟨g,1,none⟩ v) g t [u,v]:=(h.set 0 u).set 1 v
theorem yC (w:World) (g:Nat) (u v:Value):Only [g] w ((w.setCell ⟨g,0,none⟩ u).setCell ⟨g,1,none⟩ v):=
 ((Only.refl [g] w).setCell (p:=⟨g,0,none⟩) (.inl s9) u).setCell (p:=⟨g,1,none⟩) (.inl s9) v
theorem isz:(Tryz.prog.info? 76).map (·.size)=some 2:=by kernel_rfl
theorem Za {P:Program} {fn:Func} {p u:Tmp} {ty:TypeId} (h:fn.results= #[.cell p ty,.tmp u]) (tmps:Array Value) (w:World) (g:Nat) (t:TypeId) (cs:List Value) (d:TypeDesc)
  (hp:tmps.getD p undef= .pointer (some ⟨g,0,none⟩)) (hg:Blk w g t cs)
  (hu:P.underlying ty=some d) (hd:(match d with | .struct _ | .array _ _=>true | _=>false)=true) (hi:(P.info? ty).map (·.size)=some cs.length):
  (results fn tmps).run P w= .ok (.tuple #[.agg cs.toArray,tmps.getD u undef]) w:=by
 have hp':tmps[p]?.getD undef= .pointer (some ⟨g,0,none⟩):=by simpa using hp
 simp [results,h,hp',asAddr,run_loadVar_row w g t ty cs.toArray (0,0) d hg hu hd (by simpa using hi)]
theorem RI.of {w w1 w2 w3:World} {s:Bool} {A:Option Addr} {n c:Nat} {z er:Int} {g:Nat} {e:Ending} (he:e= .returned (.tuple #[.agg #[.bool s,.slice A n c],.int .i64 er])) (hI:IntS w2 s A n c z) (hF:Frs w1 A) (hg:g < w1.heap.size) (hg0:w.heap.size≤g) (h2:Only [] w w2) (h3:Only [g] w2 w3):RI w z er e w3:=
 ⟨s,A,n,c,he,⟨hI.sg,hI.by_.far hF h3 (by simpa using hg)⟩,fun p hp=>by have:=hF p hp;omega,h2.trans h3 (by intro x hx hlt;simp at hx;omega)⟩
theorem yS (w:World) (neg:Bool) (A:Option Addr) (n c X:Nat) (hn:n≤99999) (hA:NatS w A n c X):
    Calls Tryz.prog 120 #[.bool neg,.slice A n c] w (RI w (qY<|sgn neg X)<|Y3<|sgn neg X):=by
  have hlb:X < ya↔Nm.len 2 X≤512:=by rw [Nm.len_le d9,show 2 ^ 512=ya from by unfold ya;decide +kernel]
  have hO0:Only [] w (w.alloc<|.cells #[.bool false,.slice none 0 0] 76):=(Only.refl [] w).alloc _
  by_cases hb:X < ya
  · obtain ⟨e1,e2⟩:=yY (z:=sgn neg X) (by rw [yH];exact hb)
    rw [e1,e2]
    have hlen:=hlb.1 hb
    have hsg:=sgn_neg neg X
    have hn0:(0 < X)↔0 < n:=by
      rw [hA.n_eq]
      have:=Nm.len_eq_zero (B:=W32) (x:=X) d9
      omega
    have hs:decide (sgn neg X < 0)=(neg && decide (0 < n)):=by rw [hsg];simp only [hn0]
    have Hs:=Jm hs
    clear hsg hs hn0 e1 e2 hlb
    cases neg
    all_goals
      go_enter Tryz.func120,Tryz.ntmps120
      go_wp2_with (first
        | (go_at_call 144
           refine (VT _ A n c X o9<|hA.keep hO0).mono ?_
           rintro e w' ⟨s,rfl,hs,hs2,rfl⟩
           have hsI:(s:Int)≤512:=by have:=hs.out;omega)
        | (go_at_call 145
           refine (ze3 _ A n c X o9<|hA.keep hO0).mono ?_
           rintro e w2 ⟨A2,n2,c2,rfl,hD,hF,hO2⟩
           have hBr:=(qC w).keep hO2 s9
           obtain ⟨k0,k1,f0,f1⟩:=hBr.two))
    · have hD':BytS w2 A2 n2 c2 (sgn false X).natAbs:=by rw [yH];exact hD
      exact bodyPost_ret (Za I _ _ (w.heap.size) 76 [_,_] _ I (hBr.put2 _ _) Tryz.underlying76 I isz) I (RI.of I ⟨Hs.out.symm,hD'⟩ hF s9 (Js _) (hO0.trans' hO2)<|yC _ _ _ _)
    · have hD':BytS w2 A2 n2 c2 (sgn true X).natAbs:=by rw [yH];exact hD
      exact bodyPost_ret (Za I _ _ (w.heap.size) 76 [_,_] _ I (hBr.put2 _ _) Tryz.underlying76 I isz) I (RI.of I ⟨by rw [Hs.out];simp,hD'⟩ hF s9 (Js _) (hO0.trans' hO2)<|yC _ _ _ _)
  · obtain ⟨e1,e2⟩:=zdW (z:=sgn neg X) (by rw [yH];exact hb)
    rw [e1,e2]
    have hlen:512 < Nm.len 2 X:=by rw [hlb] at hb;omega
    clear e1 e2 hlb
    obtain ⟨k0,k1,f0,f1⟩:=(qC w).two
    go_enter Tryz.func120,Tryz.ntmps120
    go_wp2_with (go_at_call 144
                 refine (VT _ A n c X o9<|hA.keep hO0).mono ?_
                 rintro e w' ⟨s,rfl,hs,hs2,rfl⟩
                 have hsI:512 < (s:Int):=by have:=hs.out;omega)
    exact bodyPost_ret (Za I _ _ (w.heap.size) 76 [_,_] _ I ((qC w)) Tryz.underlying76 I isz) I (RI.of I (IntS.zero _ _ _) (Frs.none<|w.alloc<|.cells #[.bool false,.slice none 0 0] 76) s9 (Js _) hO0<|Only.refl _ _)
def vld (s:Bool) (b:LN):Bool:=if b.length=0 then !s else decide (b.length≤64) && decide (b.getD 0 0≠0)
theorem zbR (w:World) (s:Bool) (A:Option Addr) (n c:Nat) (b:LN) (hn:n=b.length) (hA:RV w A (cN .u8 b)):
  Calls Tryz.prog 114 #[.agg #[.bool s,.slice A n c]] w fun e w'=>e= .returned (.bool<|vld s b)∧Only [] w w':=by
 have Hn:=Jm hn;clear hn;have hO0:Only [] w (w.alloc<|.cells #[.bool s,.slice A n c] 76):=(Only.refl [] w).alloc _
 by_cases h0:n=0
 ·have hv:Hid ((!s)=vld s b):=by unfold Hid vld;rw [← Hn.out,Jh h0]
  subst h0
  go_enter Tryz.func114,Tryz.ntmps114
  go_wp2
  go_ret
  exact ⟨by rw [← hv.out];rfl,hO0⟩
 ·have h0b:((n:Int) == 0)=false:=Xb.2 o9
  have h0p:0 < n:=by omega
  have h0I:(0:Int) < (n:Int):=by omega
  by_cases h64:n≤64
  ·have h64I:(n:Int)≤64:=by omega
   obtain ⟨g,o,rfl,hg,hc⟩:=(hA.keep0 hO0) (by rw [Zh,← Hn.out];omega);have c1:=hc 0 (by rw [Zh,← Hn.out];omega);rw [ZQ (by rw [← Hn.out];omega),Nat.add_zero] at c1;obtain ⟨x,Hx⟩:∃ x,Hid (x=b.getD 0 0):=⟨_,rfl⟩;rw [← Hx.out] at c1
   have hne:g≠w.heap.size:=by
    obtain ⟨g',o',e',hg',_⟩:=hA (by rw [Zh,← Hn.out];omega);injection e' with e';injection e' with e1 e2;omega
   have hv:Hid (((x:Int) != 0)=vld s b):=by
    unfold Hid vld;rw [← Hn.out,Jb h0,Jo h64,← Hx.out,Bool.true_and]
    by_cases hx:x=0
    ·subst hx;rfl
    ·have:((x:Int) != 0)=true:=by rw [bne_iff_ne];omega
     rw [this];simp [hx]
   clear hc
   go_enter Tryz.func114,Tryz.ntmps114
   go_wp2
   go_ret
   exact ⟨by rw [← hv.out];rfl,hO0⟩
  ·have h64I:(64:Int) < (n:Int):=by omega
   have hv:Hid (false=vld s b):=by unfold Hid vld;rw [← Hn.out,Jb h0,Jd h64,Bool.false_and]
   go_enter Tryz.func114,Tryz.ntmps114
   go_wp2
   go_ret
   exact ⟨by rw [← hv.out];rfl,hO0⟩
theorem IntS.n_le {w:World} {s:Bool} {A:Option Addr} {n c:Nat} {z:Int} (h:IntS w s A n c z) (hz:z.natAbs < ya):n≤64:=by
 rw [h.by_.n_eq];exact (Nm.len_le (B:=256) d9 _ _).2 hz
theorem IntS.vld {w:World} {s:Bool} {A:Option Addr} {n c:Nat} {z:Int} (h:IntS w s A n c z) (hz:z.natAbs < ya):vld s (Nm.dg 256 z.natAbs).reverse=true:=by
 have hl:((Nm.dg 256 z.natAbs).reverse).length=n:=by rw [List.length_reverse,Nm.dg_length,h.by_.n_eq]
 have hle:=h.n_le hz;unfold Go.Proofs.YtfoafihodanmhaaGreatDoor.vld;rw [hl]
 by_cases h0:n=0
 ·rw [Jh h0];have:z.natAbs=0:=(Nm.len_eq_zero (B:=256) d9).1 (by rw [← h.by_.n_eq];exact h0)
  have hz0:z=0:=by omega
  rw [h.sg,hz0]
  rfl
 ·rw [Jb h0,Jo hle,Bool.true_and,Jz];rw [zbh (i:=n - 1) (by rw [Nm.dg_length,← h.by_.n_eq];omega),Nm.dg_getD d9];intro e
  have hlt:z.natAbs < 256 ^ (n - 1 + 1):=by rw [show n - 1 + 1=n by omega,h.by_.n_eq];exact Nm.lt_pow_len d9 _
  have:=(Nm.len_le (B:=256) d9 _ _).2 (Nm.top_zero d9 hlt e);rw [← h.by_.n_eq] at this;omega
theorem ZC (w:World) (s:Bool) (A:Option Addr) (n c:Nat) (z:Int) (h:IntS w s A n c z) (hz:z.natAbs < ya):
  Calls Tryz.prog 114 #[.agg #[.bool s,.slice A n c]] w fun e w'=>e= .returned (.bool true)∧Only [] w w':=by
 refine (zbR w s A n c _ (by rw [List.length_reverse,Nm.dg_length,h.by_.n_eq]) h.by_.rd).mono ?_;rintro e w' ⟨rfl,hO⟩;exact ⟨by rw [h.vld hz],hO⟩
theorem NatS.n_le {w:World} {A:Option Addr} {n c X k:Nat} (h:NatS w A n c X) (hX:X < W32 ^ k):n≤k:=by
 rw [h.n_eq];exact (Nm.len_le (B:=W32) d9 _ _).2 hX
theorem zbT (s:Bool) (X Y:Nat):sgn s (X + Y)=sgn s X + sgn s Y:=by
 unfold sgn
 cases s <;> simp <;> omega
theorem zeF {s t:Bool} (h:s≠t) {X Y:Nat} (hXY:Y≤X):sgn s (X - Y)=sgn s X + sgn t Y:=by
 unfold sgn
 cases s <;> cases t <;> simp at h ⊢ <;> omega
theorem zeE {s t:Bool} (h:s≠t) {X Y:Nat} (hXY:X≤Y):sgn t (Y - X)=sgn s X + sgn t Y:=by
 unfold sgn
 cases s <;> cases t <;> simp at h ⊢ <;> omega
theorem w32_sum {X Y k:Nat} (hX:X < W32 ^ k) (hY:Y < W32 ^ k):X + Y < W32 ^ (k + 1):=by
 rw [XI];have:W32 ^ k * 2≤W32 ^ k * W32:=Nat.mul_le_mul_left _ d9;omega
theorem KT (w:World) (s t:Bool) (A B:Option Addr) (n c m d X Y:Nat) (hX:X < W32 ^ 100) (hY:Y < W32 ^ 100) (hA:NatS w A n c X) (hB:NatS w B m d Y):
    Calls Tryz.prog 187 #[.bool s,.slice A n c,.bool t,.slice B m d] w (RI w (qY<|sgn s X + sgn t Y)<|Y3<|sgn s X + sgn t Y):=by
  have hn:=hA.n_le hX
  have hm:=hB.n_le hY
  have hO0:Only [] w (w.alloc<|.cells #[.bool false,.slice none 0 0] 76):=(Only.refl [] w).alloc _
  have hA0:=hA.keep hO0
  have hB0:=hB.keep hO0
  have HX:=Jm hX
  have HY:=Jm hY
  clear hX hY
  by_cases hst:s=t
  · subst hst
    rw [← zbT]
    have hbs:(s == s)=true:=by simp
    generalize hz:qY (sgn s<|X + Y)=z
    generalize he:Y3 (sgn s<|X + Y)=er
    have Hz:=Jm hz
    have He:=Jm he
    clear hz he
    go_enter Tryz.func187,Tryz.ntmps187
    go_wp2_with (first
      | (go_at_call 138
         refine (Vj _ A B n c m d X Y o9 o9 hA0 hB0).mono ?_
         rintro e w1 ⟨A1,n1,c1,rfl,hN1,hO1⟩)
      | (go_at_call 120
         have hb:=yS w1 s A1 n1 c1 (X + Y) (JG (hN1.n_le<|w32_sum HX.out HY.out) d9) hN1
         rw [Hz.out,He.out] at hb
         refine hb.mono ?_
         rintro e w2 ⟨s2,A2,n2,c2,rfl,hI,hF,hO2⟩
         have hBr:=(qC w).keep (hO1.trans' hO2) s9
         obtain ⟨k0,k1,f0,f1⟩:=hBr.two))
    exact bodyPost_ret (Za I _ _ (w.heap.size) 76 [_,_] _ I (hBr.put2 _ _) Tryz.underlying76 I isz) I (RI.of I hI hF (Ju s9 hO1.size) (Js _) ((hO0.trans' hO1).trans' hO2)<|yC _ _ _ _)
  · have hbs:(s == t)=false:=Xb.2 hst
    by_cases hle:Y≤X
    · rw [← zeF hst hle]
      generalize hz:qY (sgn s<|X - Y)=z
      generalize he:Y3 (sgn s<|X - Y)=er
      have Hz:=Jm hz
      have He:=Jm he
      clear hz he
      go_enter Tryz.func187,Tryz.ntmps187
      go_wp2_with (first
        | (go_at_call 118
           refine (Z6 _ A B n c m d X Y o9 o9 hA0 hB0).mono ?_
           rintro e w1 ⟨r,rfl,hr,hO1⟩
           have hr0:0≤r:=by rcases hr.out with h | h | h <;> omega)
        | (go_at_call 139
           refine (jP _ A B n c m d X Y o9 (hA0.keep hO1) (hB0.keep hO1) hle).mono ?_
           rintro e w2 ⟨A1,n1,c1,rfl,hN1,hO2⟩)
        | (go_at_call 120
           have hb:=yS w2 s A1 n1 c1 (X - Y) (JG (hN1.n_le<|Nat.lt_of_le_of_lt (Nat.sub_le _ _) HX.out) d9) hN1
           rw [Hz.out,He.out] at hb
           refine hb.mono ?_
           rintro e w3 ⟨s2,A2,n2,c2,rfl,hI,hF,hO3⟩
           have hBr:=(qC w).keep ((hO1.trans' hO2).trans' hO3) s9
           obtain ⟨k0,k1,f0,f1⟩:=hBr.two))
      exact bodyPost_ret (Za I _ _ (w.heap.size) 76 [_,_] _ I (hBr.put2 _ _) Tryz.underlying76 I isz) I (RI.of I hI hF (Ju s9 (hO1.trans' hO2).size) (Js _) (((hO0.trans' hO1).trans' hO2).trans' hO3)<|yC _ _ _ _)
    · rw [← zeE hst o9]
      generalize hz:qY (sgn t<|Y - X)=z
      generalize he:Y3 (sgn t<|Y - X)=er
      have Hz:=Jm hz
      have He:=Jm he
      clear hz he
      go_enter Tryz.func187,Tryz.ntmps187
      go_wp2_with (first
        | (go_at_call 118
           refine (Z6 _ A B n c m d X Y o9 o9 hA0 hB0).mono ?_
           rintro e w1 ⟨r,rfl,hr,hO1⟩
           have hr0:r < 0:=by rcases hr.out with h | h | h <;> omega)
        | (go_at_call 139
           refine (jP _ B A m d n c Y X o9 (hB0.keep hO1) (hA0.keep hO1) o9).mono ?_
           rintro e w2 ⟨A1,n1,c1,rfl,hN1,hO2⟩)
        | (go_at_call 120
           have hb:=yS w2 t A1 n1 c1 (Y - X) (JG (hN1.n_le<|Nat.lt_of_le_of_lt (Nat.sub_le _ _) HY.out) d9) hN1
           rw [Hz.out,He.out] at hb
           refine hb.mono ?_
           rintro e w3 ⟨s2,A2,n2,c2,rfl,hI,hF,hO3⟩
           have hBr:=(qC w).keep ((hO1.trans' hO2).trans' hO3) s9
           obtain ⟨k0,k1,f0,f1⟩:=hBr.two))
      exact bodyPost_ret (Za I _ _ (w.heap.size) 76 [_,_] _ I (hBr.put2 _ _) Tryz.underlying76 I isz) I (RI.of I hI hF (Ju s9 (hO1.trans' hO2).size) (Js _) (((hO0.trans' hO1).trans' hO2).trans' hO3)<|yC _ _ _ _)
def zfH (w:World) (a b c d:Value):World:=((w.alloc<|.cells #[a,b] 76).alloc<|.cells #[c,d] 76).alloc (.cells #[.bool false,.slice none 0 0] 76)
theorem KR (w:World) (a b c d:Value):Blk (zfH w a b c d) w.heap.size 76 [a,b]∧Blk (zfH w a b c d) (w.heap.size + 1) 76 [c,d]∧Blk (zfH w a b c d) (w.heap.size + 2) 76 [.bool false,.slice none 0 0]∧Only [] w (zfH w a b c d)∧(zfH w a b c d).heap.size=w.heap.size + 3:=by
 have h1:=Blk.new w 76 [a,b];have h2:=Blk.new (w.alloc<|.cells #[a,b] 76) 76 [c,d];have h3:=Blk.new ((w.alloc<|.cells #[a,b] 76).alloc<|.cells #[c,d] 76) 76 [.bool false,.slice none 0 0];refine ⟨(h1.alloc _).alloc _,?_,?_,(((Only.refl [] w).alloc _).alloc _).alloc _,?_⟩
 ·have:(w.alloc<|.cells #[a,b] 76).heap.size=w.heap.size + 1:=by simp
  rw [this] at h2;exact h2.alloc _
 ·have:((w.alloc<|.cells #[a,b] 76).alloc<|.cells #[c,d] 76).heap.size=w.heap.size + 2:=by simp
  rw [this] at h3;exact h3
 ·simp [zfH]
theorem IntS.nat {w:World} {s:Bool} {A:Option Addr} {n c:Nat} {z:Int} (h:IntS w s A n c z):sgn s z.natAbs=z:=by
 rw [h.sg];unfold sgn
 by_cases hz:z < 0
 ·rw [Jo hz,Jh rfl];omega
 ·rw [Jd hz,Jb s9];omega
theorem Zj {z:Int} (h:z.natAbs < ya):z.natAbs < W32 ^ 16:=by
 have:W32 ^ 16=ya:=by unfold ya;decide +kernel
 rw [this];exact h
theorem zdE {X:Nat} (h:X < W32 ^ 16):X < W32 ^ 100:=Ju h (Nat.pow_le_pow_right d9 d9)
theorem sgn_not (s:Bool) (X:Nat):sgn (!s) X= - sgn s X:=by
 unfold sgn
 cases s <;> simp
theorem sgn_mul (s t:Bool) (X Y:Nat):sgn (s != t) (X * Y)=sgn s X * sgn t Y:=by
 unfold sgn
 cases s <;> cases t <;> simp [Int.neg_mul,Int.mul_neg]
theorem w32_prod {X Y:Nat} (hX:X < W32 ^ 16) (hY:Y < W32 ^ 16):X * Y < W32 ^ 32:=by
 have:X * Y < W32 ^ 16 * W32 ^ 16:=Nat.mul_lt_mul'' hX hY;rwa [← Nat.pow_add] at this
theorem add_any (w:World) (s t:Bool) (A B:Option Addr) (n c m d:Nat) (x y:Int) (hx:x.natAbs < ya) (hy:y.natAbs < ya) (hA:IntS w s A n c x) (hB:IntS w t B m d y):
    Calls Tryz.prog 167 #[.agg #[.bool s,.slice A n c],.agg #[.bool t,.slice B m d]] w (RI w (qY<|x + y)<|Y3<|x + y):=by
  obtain ⟨hBa,hBb,hBr,hO0,hsz⟩:=KR w (.bool s) (.slice A n c) (.bool t) (.slice B m d)
  have hn:=hA.n_le hx
  have hm:=hB.n_le hy
  have hxw:=Zj hx
  have hyw:=Zj hy
  have hex:sgn s x.natAbs + sgn t y.natAbs=x + y:=by rw [hA.nat,hB.nat]
  have Hx:=Jm hx
  have Hy:=Jm hy
  have Hxw:=Jm hxw
  have Hyw:=Jm hyw
  have Hex:=Jm hex
  generalize hz:qY (x + y)=z
  generalize he:Y3 (x + y)=er
  have Hz:=Jm hz
  have He:=Jm he
  obtain ⟨K0,K1,-,-⟩:=hBa.two
  obtain ⟨L0,L1,-,-⟩:=hBb.two
  clear hx hy hxw hyw hex hz he
  unfold zfH at *
  go_enter Tryz.func167,Tryz.ntmps167
  go_wp2_with fail
  clear K0 K1 L0 L1
  refine (ZC _ s A n c x (hA.keep hO0) Hx.out).mono ?_
  rintro e w1 ⟨rfl,hO1⟩
  obtain ⟨K0,K1,-,-⟩:=(hBa.keep hO1 s9).two
  obtain ⟨L0,L1,-,-⟩:=(hBb.keep hO1 s9).two
  go_wp2_with fail
  clear K0 K1 L0 L1
  refine (ZC _ t B m d y ((hB.keep hO0).keep hO1) Hy.out).mono ?_
  rintro e w2 ⟨rfl,hO2⟩
  have hQ2:=hO1.trans' hO2
  obtain ⟨k0,k1,-,-⟩:=(hBa.keep hQ2 s9).two
  obtain ⟨l0,l1,-,-⟩:=(hBb.keep hQ2 s9).two
  have hA2:=(hA.keep hO0).keep hQ2
  have hB2:=(hB.keep hO0).keep hQ2
  have hBr2:=hBr.keep hQ2 s9
  have hP2:=hO0.trans' hQ2
  have hs2:w.heap.size + 3≤w2.heap.size:=by rw [← hsz];exact hQ2.size
  have hl0:w.heap.size < w2.heap.size:=by omega
  have hl1:w.heap.size + 1 < w2.heap.size:=by omega
  clear hBa hBb hBr hO0 hsz hO1 hO2 hQ2
  go_wp2
  refine Reg.wp [w.heap.size + 2] [.r 0,.r 1,.r 2,.r 3,.r 5,.r 6,.r 7,.r 8,.e 4,.e 9,.e 10,.r 11,.r 12,.e 13,.r 14] k9 k9 (fun d _ _ _ _ h=>by cases d <;> exact h) ?_
  simp only [Reg.pick,List.getD_cons_succ,List.getD_cons_zero]
  iterate 8 (apply Reg.read;(· (intro t K hK;go_simp;(try go_ints);(try ((go_ite <;> go_prune);go_simp));(try go_ints);exact hK _ rfl));(· (intro K hK;go_simp;exact hK _ rfl)))
  clear k0 k1 l0 l1
  refine Reg.eff ?_
  go_wp2_with (go_at_call 119;refine (ZL w2.drew A n c x.natAbs o9 hA2.by_.drew).mono ?_;rintro e w3 ⟨A3,n3,c3,rfl,hN3,hO3⟩)
  refine ⟨hO3.mono s9,?_⟩
  refine Reg.eff ?_
  go_wp2_with (go_at_call 119;refine (ZL w3 B m d y.natAbs o9<|hB2.by_.drew.keep hO3).mono ?_;rintro e w4 ⟨A4,n4,c4,rfl,hN4,hO4⟩)
  refine ⟨hO4.mono s9,?_⟩
  have hN3':=hN3.keep hO4
  clear hN3
  refine Reg.eff ?_
  go_wp2_with (go_at_call 187
               have hb:=KT w4 s t A3 A4 n3 c3 n4 c4 x.natAbs y.natAbs (zdE Hxw.out) (zdE Hyw.out) hN3' hN4
               rw [Hex.out,Hz.out,He.out] at hb
               refine hb.mono ?_
               rintro e w5 ⟨s2,A2,n2,c2,rfl,hI,hF,hO5⟩)
  refine ⟨hO5.mono s9,?_⟩
  have hsz4:w2.heap.size≤w4.heap.size:=(hO3.trans' hO4).size
  have hQ5:Only [] w2 w5:=Only.undrew (w:=w2) ((hO3.trans' hO4).trans' hO5)
  have hBr5:=hBr2.keep hQ5 s9
  obtain ⟨k0,k1,f0,f1⟩:=hBr5.two
  have hsw:=hQ5.size
  iterate 2 (apply Reg.read;(· (intro t K hK;go_simp;(try go_ints);(try ((go_ite <;> go_prune);go_simp));(try go_ints);exact hK _ rfl));(· (intro K hK;go_simp;exact hK _ rfl)))
  refine Reg.eff ?_
  go_wp2
  refine ⟨yC _ _ _ _,?_⟩
  (apply Reg.read;(· (intro t K hK;go_simp;(try go_ints);(try ((go_ite <;> go_prune);go_simp));(try go_ints);exact hK _ rfl));(· (intro K hK;go_simp;exact hK _ rfl)))
  refine Reg.fin ?_
  go_wp2
  exact bodyPost_ret (Za I _ _ (w.heap.size + 2) 76 [_,_] _ I (hBr5.put2 _ _) Tryz.underlying76 I isz) I (RI.of I hI hF (Ju (show w.heap.size + 2 < w2.heap.size by omega) hsz4) (Nat.le_add_right _ _) (hP2.trans' hQ5)<|yC _ _ _ _)
theorem sub_any (w:World) (s t:Bool) (A B:Option Addr) (n c m d:Nat) (x y:Int) (hx:x.natAbs < ya) (hy:y.natAbs < ya) (hA:IntS w s A n c x) (hB:IntS w t B m d y):
    Calls Tryz.prog 168 #[.agg #[.bool s,.slice A n c],.agg #[.bool t,.slice B m d]] w (RI w (qY<|x - y)<|Y3<|x - y):=by
  obtain ⟨hBa,hBb,hBr,hO0,hsz⟩:=KR w (.bool s) (.slice A n c) (.bool t) (.slice B m d)
  have hn:=hA.n_le hx
  have hm:=hB.n_le hy
  have hxw:=Zj hx
  have hyw:=Zj hy
  have hex:sgn s x.natAbs + sgn (!t) y.natAbs=x - y:=by rw [sgn_not,hA.nat,hB.nat];omega
  have Hx:=Jm hx
  have Hy:=Jm hy
  have Hxw:=Jm hxw
  have Hyw:=Jm hyw
  have Hex:=Jm hex
  generalize hz:qY (x - y)=z
  generalize he:Y3 (x - y)=er
  have Hz:=Jm hz
  have He:=Jm he
  obtain ⟨K0,K1,-,-⟩:=hBa.two
  obtain ⟨L0,L1,-,-⟩:=hBb.two
  clear hx hy hxw hyw hex hz he
  unfold zfH at *
  go_enter Tryz.func168,Tryz.ntmps168
  go_wp2_with fail
  clear K0 K1 L0 L1
  refine (ZC _ s A n c x (hA.keep hO0) Hx.out).mono ?_
  rintro e w1 ⟨rfl,hO1⟩
  obtain ⟨K0,K1,-,-⟩:=(hBa.keep hO1 s9).two
  obtain ⟨L0,L1,-,-⟩:=(hBb.keep hO1 s9).two
  go_wp2_with fail
  clear K0 K1 L0 L1
  refine (ZC _ t B m d y ((hB.keep hO0).keep hO1) Hy.out).mono ?_
  rintro e w2 ⟨rfl,hO2⟩
  have hQ2:=hO1.trans' hO2
  obtain ⟨k0,k1,-,-⟩:=(hBa.keep hQ2 s9).two
  obtain ⟨l0,l1,-,-⟩:=(hBb.keep hQ2 s9).two
  have hA2:=(hA.keep hO0).keep hQ2
  have hB2:=(hB.keep hO0).keep hQ2
  have hBr2:=hBr.keep hQ2 s9
  have hP2:=hO0.trans' hQ2
  have hs2:w.heap.size + 3≤w2.heap.size:=by rw [← hsz];exact hQ2.size
  have hl0:w.heap.size < w2.heap.size:=by omega
  have hl1:w.heap.size + 1 < w2.heap.size:=by omega
  clear hBa hBb hBr hO0 hsz hO1 hO2 hQ2
  go_wp2
  refine Reg.wp [w.heap.size + 2] [.r 0,.r 1,.r 2,.r 3,.r 5,.r 6,.r 7,.r 8,.r 9,.e 4,.e 10,.e 11,.r 12,.r 13,.e 14,.r 15] k9 k9 (fun d _ _ _ _ h=>by cases d <;> exact h) ?_
  simp only [Reg.pick,List.getD_cons_succ,List.getD_cons_zero]
  iterate 9 (apply Reg.read;(· (intro t K hK;go_simp;(try go_ints);(try ((go_ite <;> go_prune);go_simp));(try go_ints);exact hK _ rfl));(· (intro K hK;go_simp;exact hK _ rfl)))
  clear k0 k1 l0 l1
  refine Reg.eff ?_
  go_wp2_with (go_at_call 119;refine (ZL w2.drew A n c x.natAbs o9 hA2.by_.drew).mono ?_;rintro e w3 ⟨A3,n3,c3,rfl,hN3,hO3⟩)
  refine ⟨hO3.mono s9,?_⟩
  refine Reg.eff ?_
  go_wp2_with (go_at_call 119;refine (ZL w3 B m d y.natAbs o9<|hB2.by_.drew.keep hO3).mono ?_;rintro e w4 ⟨A4,n4,c4,rfl,hN4,hO4⟩)
  refine ⟨hO4.mono s9,?_⟩
  have hN3':=hN3.keep hO4
  clear hN3
  refine Reg.eff ?_
  go_wp2_with (go_at_call 187
               have hb:=KT w4 s (!t) A3 A4 n3 c3 n4 c4 x.natAbs y.natAbs (zdE Hxw.out) (zdE Hyw.out) hN3' hN4
               rw [Hex.out,Hz.out,He.out] at hb
               refine hb.mono ?_
               rintro e w5 ⟨s2,A2,n2,c2,rfl,hI,hF,hO5⟩)
  refine ⟨hO5.mono s9,?_⟩
  have hsz4:w2.heap.size≤w4.heap.size:=(hO3.trans' hO4).size
  have hQ5:Only [] w2 w5:=Only.undrew (w:=w2) ((hO3.trans' hO4).trans' hO5)
  have hBr5:=hBr2.keep hQ5 s9
  obtain ⟨k0,k1,f0,f1⟩:=hBr5.two
  have hsw:=hQ5.size
  iterate 2 (apply Reg.read;(· (intro t K hK;go_simp;(try go_ints);(try ((go_ite <;> go_prune);go_simp));(try go_ints);exact hK _ rfl));(· (intro K hK;go_simp;exact hK _ rfl)))
  refine Reg.eff ?_
  go_wp2
  refine ⟨yC _ _ _ _,?_⟩
  (apply Reg.read;(· (intro t K hK;go_simp;(try go_ints);(try ((go_ite <;> go_prune);go_simp));(try go_ints);exact hK _ rfl));(· (intro K hK;go_simp;exact hK _ rfl)))
  refine Reg.fin ?_
  go_wp2
  exact bodyPost_ret (Za I _ _ (w.heap.size + 2) 76 [_,_] _ I (hBr5.put2 _ _) Tryz.underlying76 I isz) I (RI.of I hI hF (Ju (show w.heap.size + 2 < w2.heap.size by omega) hsz4) (Nat.le_add_right _ _) (hP2.trans' hQ5)<|yC _ _ _ _)
theorem mul_any (w:World) (s t:Bool) (A B:Option Addr) (n c m d:Nat) (x y:Int) (hx:x.natAbs < ya) (hy:y.natAbs < ya) (hA:IntS w s A n c x) (hB:IntS w t B m d y):
    Calls Tryz.prog 166 #[.agg #[.bool s,.slice A n c],.agg #[.bool t,.slice B m d]] w (RI w (qY<|x * y)<|Y3<|x * y):=by
  obtain ⟨hBa,hBb,hBr,hO0,hsz⟩:=KR w (.bool s) (.slice A n c) (.bool t) (.slice B m d)
  have hn:=hA.n_le hx
  have hm:=hB.n_le hy
  have hxw:=Zj hx
  have hyw:=Zj hy
  have hex:sgn (s != t) (x.natAbs * y.natAbs)=x * y:=by rw [sgn_mul,hA.nat,hB.nat]
  have Hx:=Jm hx
  have Hy:=Jm hy
  have Hxw:=Jm hxw
  have Hyw:=Jm hyw
  have Hex:=Jm hex
  generalize hz:qY (x * y)=z
  generalize he:Y3 (x * y)=er
  have Hz:=Jm hz
  have He:=Jm he
  obtain ⟨K0,K1,-,-⟩:=hBa.two
  obtain ⟨L0,L1,-,-⟩:=hBb.two
  clear hx hy hxw hyw hex hz he
  unfold zfH at *
  go_enter Tryz.func166,Tryz.ntmps166
  go_wp2_with fail
  clear K0 K1 L0 L1
  refine (ZC _ s A n c x (hA.keep hO0) Hx.out).mono ?_
  rintro e w1 ⟨rfl,hO1⟩
  obtain ⟨K0,K1,-,-⟩:=(hBa.keep hO1 s9).two
  obtain ⟨L0,L1,-,-⟩:=(hBb.keep hO1 s9).two
  go_wp2_with fail
  clear K0 K1 L0 L1
  refine (ZC _ t B m d y ((hB.keep hO0).keep hO1) Hy.out).mono ?_
  rintro e w2 ⟨rfl,hO2⟩
  have hQ2:=hO1.trans' hO2
  obtain ⟨k0,k1,-,-⟩:=(hBa.keep hQ2 s9).two
  obtain ⟨l0,l1,-,-⟩:=(hBb.keep hQ2 s9).two
  have hA2:=(hA.keep hO0).keep hQ2
  have hB2:=(hB.keep hO0).keep hQ2
  have hBr2:=hBr.keep hQ2 s9
  have hP2:=hO0.trans' hQ2
  have hs2:w.heap.size + 3≤w2.heap.size:=by rw [← hsz];exact hQ2.size
  have hl0:w.heap.size < w2.heap.size:=by omega
  have hl1:w.heap.size + 1 < w2.heap.size:=by omega
  clear hBa hBb hBr hO0 hsz hO1 hO2 hQ2
  go_wp2
  refine Reg.wp [w.heap.size + 2] [.r 0,.r 1,.r 2,.r 3,.r 4,.r 5,.r 6,.r 8,.r 9,.e 7,.e 10,.e 11,.e 12,.r 13,.r 14,.e 15,.r 16] k9 k9 (fun d _ _ _ _ h=>by cases d <;> exact h) ?_
  simp only [Reg.pick,List.getD_cons_succ,List.getD_cons_zero]
  iterate 9 (apply Reg.read;(· (intro t K hK;go_simp;(try go_ints);(try ((go_ite <;> go_prune);go_simp));(try go_ints);exact hK _ rfl));(· (intro K hK;go_simp;exact hK _ rfl)))
  clear k0 k1 l0 l1
  refine Reg.eff ?_
  go_wp2_with (go_at_call 119;refine (ZL w2.drew A n c x.natAbs o9 hA2.by_.drew).mono ?_;rintro e w3 ⟨A3,n3,c3,rfl,hN3,hO3⟩)
  refine ⟨hO3.mono s9,?_⟩
  refine Reg.eff ?_
  go_wp2_with (go_at_call 119;refine (ZL w3 B m d y.natAbs o9<|hB2.by_.drew.keep hO3).mono ?_;rintro e w4 ⟨A4,n4,c4,rfl,hN4,hO4⟩)
  refine ⟨hO4.mono s9,?_⟩
  have hN3':=hN3.keep hO4
  clear hN3
  refine Reg.eff ?_
  go_wp2_with (go_at_call 186;refine (zeQ w4 A3 A4 n3 c3 n4 c4 x.natAbs y.natAbs (JG (hN3'.n_le Hxw.out) d9) (JG (hN4.n_le Hyw.out) d9) hN3' hN4).mono ?_;rintro e w6 ⟨A6,n6,c6,rfl,hN6,hO6⟩)
  refine ⟨hO6.mono s9,?_⟩
  refine Reg.eff ?_
  go_wp2_with (go_at_call 120
               have hb:=yS w6 (s != t) A6 n6 c6 (x.natAbs * y.natAbs) (JG (hN6.n_le<|w32_prod Hxw.out Hyw.out) d9) hN6
               rw [Hex.out,Hz.out,He.out] at hb
               refine hb.mono ?_
               rintro e w5 ⟨s2,A2,n2,c2,rfl,hI,hF,hO5⟩)
  refine ⟨hO5.mono s9,?_⟩
  have hsz4:w2.heap.size≤w6.heap.size:=((hO3.trans' hO4).trans' hO6).size
  have hQ5:Only [] w2 w5:=Only.undrew (w:=w2) (((hO3.trans' hO4).trans' hO6).trans' hO5)
  have hBr5:=hBr2.keep hQ5 s9
  obtain ⟨k0,k1,f0,f1⟩:=hBr5.two
  have hsw:=hQ5.size
  iterate 2 (apply Reg.read;(· (intro t K hK;go_simp;(try go_ints);(try ((go_ite <;> go_prune);go_simp));(try go_ints);exact hK _ rfl));(· (intro K hK;go_simp;exact hK _ rfl)))
  refine Reg.eff ?_
  go_wp2
  refine ⟨yC _ _ _ _,?_⟩
  (apply Reg.read;(· (intro t K hK;go_simp;(try go_ints);(try ((go_ite <;> go_prune);go_simp));(try go_ints);exact hK _ rfl));(· (intro K hK;go_simp;exact hK _ rfl)))
  refine Reg.fin ?_
  go_wp2
  exact bodyPost_ret (Za I _ _ (w.heap.size + 2) 76 [_,_] _ I (hBr5.put2 _ _) Tryz.underlying76 I isz) I (RI.of I hI hF (Ju (show w.heap.size + 2 < w2.heap.size by omega) hsz4) (Nat.le_add_right _ _) (hP2.trans' hQ5)<|yC _ _ _ _)
def RV1 (w:World) (z:Int) (e:Ending) (w':World):Prop:=
 ∃ s A n c,e= .returned (.agg #[.bool s,.slice A n c])∧IntS w' s A n c z∧Frs w A∧Only [] w w'
theorem RV1.of {w w1 w2 w3:World} {s:Bool} {A:Option Addr} {n c:Nat} {z:Int} {g:Nat} {e:Ending} (he:e= .returned (.agg #[.bool s,.slice A n c])) (hI:IntS w2 s A n c z) (hF:Frs w1 A) (hg:g < w1.heap.size) (hg0:w.heap.size≤g) (h2:Only [] w w2) (h3:Only [g] w2 w3):RV1 w z e w3:=
 ⟨s,A,n,c,he,⟨hI.sg,hI.by_.far hF h3 (by simpa using hg)⟩,fun p hp=>by have:=hF p hp;omega,h2.trans h3 (by intro x hx hlt;simp at hx;omega)⟩
theorem pad2 (U:Nat) (hU:U < 18446744073709551616):cN .u32 (Nm.pad W32 2 U)=[.int .u32 ((U % 4294967296:Nat):Int),.int .u32 ((U / 4294967296:Nat):Int)]:=by
 have:U / 4294967296 % 4294967296=U / 4294967296:=Nat.mod_eq_of_lt o9;simp [Nm.pad,cN,this]
theorem of_pos (w:World) (U:Nat) (hU:U≤9223372036854775807):
    Calls Tryz.prog 81 #[.int .i64 (U:Int)] w (RV1 w (U:Int)):=by
  have hUI:(U:Int)≤9223372036854775807:=by omega
  have HU2:=Jm (show U < W32 ^ 2 from Nat.lt_of_le_of_lt hU (by decide +kernel))
  have HP:=Jm (pad2 U o9)
  have Hz:Hid (qY (sgn false U)=(U:Int)):=(yY (z:=sgn false U) (by rw [yH];exact Nat.lt_of_le_of_lt hU (by unfold ya;decide +kernel))).1
  have He:Hid (Y3 (sgn false U)=0):=(yY (z:=sgn false U) (by rw [yH];exact Nat.lt_of_le_of_lt hU (by unfold ya;decide +kernel))).2
  obtain ⟨lo,Hlo⟩:∃ lo,Hid (lo=U % 4294967296):=⟨_,rfl⟩
  obtain ⟨hi,Hhi⟩:∃ hi,Hid (hi=U / 4294967296):=⟨_,rfl⟩
  have hlo:(U:Int) % 4294967296=(lo:Int):=by have:=Hlo.out;omega
  have hhi:(U:Int) / 4294967296=(hi:Int):=by have:=Hhi.out;omega
  rw [← Hlo.out,← Hhi.out] at HP
  have hR:RV ((w.alloc<|.cells #[.bool false,.slice none 0 0] 76).alloc<|.cells #[.int .u32 (lo:Int),.int .u32 (hi:Int)] 209) (some ⟨w.heap.size + 1,0,none⟩) (cN .u32<|Nm.pad W32 2 U):=by
    have h:=RV.new (w:=w.alloc<|.cells #[.bool false,.slice none 0 0] 76) (t:=209) (arr:= #[.int .u32 (lo:Int),.int .u32 (hi:Int)]) (xs:=cN .u32<|Nm.pad W32 2 U) (by rw [HP.out])
    simpa using h
  have hO0:Only [] w ((w.alloc<|.cells #[.bool false,.slice none 0 0] 76).alloc<|.cells #[.int .u32 (lo:Int),.int .u32 (hi:Int)] 209):=((Only.refl [] w).alloc _).alloc _
  have hBr:Blk ((w.alloc<|.cells #[.bool false,.slice none 0 0] 76).alloc<|.cells #[.int .u32 (lo:Int),.int .u32 (hi:Int)] 209) w.heap.size 76 [.bool false,.slice none 0 0]:=(qC w).alloc _
  clear hU
  go_enter Tryz.func81,Tryz.ntmps81
  go_wp2_with (first
    | (go_at_call 121
       refine (qa _ _ 2 2 U (Js _) o9 HU2.out hR).mono ?_
       rintro e w' ⟨m',rfl,rfl,hN⟩)
    | (go_at_call 120
       have hb:=yS _ false _ m' 2 U (JG (hN.n_le HU2.out) o9) hN
       rw [Hz.out,He.out] at hb
       refine hb.mono ?_
       rintro e w2 ⟨s2,A2,n2,c2,rfl,hI,hF,hO2⟩
       have hBr2:=hBr.keep hO2 s9
       have hlt2:w.heap.size < w2.heap.size:=Ju (by simp;omega) hO2.size
       have hne2:w.heap.size≠w2.heap.size:=Nat.ne_of_lt hlt2
       obtain ⟨k0,k1,f0,f1⟩:=hBr2.two))
  exact bodyPost_ret (results_cell_row I _ _ w.heap.size 76 #[.bool s2,.slice A2 n2 c2] (0,0) _ I ((hBr2.put2 _ _).alloc _) Tryz.underlying76 I isz) I (RV1.of I hI hF (by simp;omega) (Js _) (hO0.trans' hO2)<|(yC _ _ _ _).alloc _)
theorem of_neg (w:World) (U:Nat) (hU0:0 < U) (hU:U≤9223372036854775808):
    Calls Tryz.prog 81 #[.int .i64<|-(U:Int)] w (RV1 w<|-(U:Int)):=by
  have hUI: -(U:Int) < 0:=by omega
  have HU2:=Jm (show U < W32 ^ 2 from Nat.lt_of_le_of_lt hU (by decide +kernel))
  have HP:=Jm (pad2 U o9)
  have Hz:Hid (qY (sgn true U)= -(U:Int)):=(yY (z:=sgn true U) (by rw [yH];exact Nat.lt_of_le_of_lt hU (by unfold ya;decide +kernel))).1
  have He:Hid (Y3 (sgn true U)=0):=(yY (z:=sgn true U) (by rw [yH];exact Nat.lt_of_le_of_lt hU (by unfold ya;decide +kernel))).2
  obtain ⟨lo,Hlo⟩:∃ lo,Hid (lo=U % 4294967296):=⟨_,rfl⟩
  obtain ⟨hi,Hhi⟩:∃ hi,Hid (hi=U / 4294967296):=⟨_,rfl⟩
  have hlo:(U:Int) % 4294967296=(lo:Int):=by have:=Hlo.out;omega
  have hhi:(U:Int) / 4294967296=(hi:Int):=by have:=Hhi.out;omega
  have hhm:(hi:Int) % 4294967296=(hi:Int):=by have:=Hhi.out;omega
  have hw0:IntKind.u64.wrap (-(U:Int))= -(U:Int) + 18446744073709551616:=zbd o9 hUI
  have hw1:IntKind.u64.wrap (-(-(U:Int) + 18446744073709551616))=(U:Int):=by rw [zbd o9 o9];omega
  rw [← Hlo.out,← Hhi.out] at HP
  have hR:RV ((w.alloc<|.cells #[.bool false,.slice none 0 0] 76).alloc<|.cells #[.int .u32 (lo:Int),.int .u32 (hi:Int)] 209) (some ⟨w.heap.size + 1,0,none⟩) (cN .u32<|Nm.pad W32 2 U):=by
    have h:=RV.new (w:=w.alloc<|.cells #[.bool false,.slice none 0 0] 76) (t:=209) (arr:= #[.int .u32 (lo:Int),.int .u32 (hi:Int)]) (xs:=cN .u32<|Nm.pad W32 2 U) (by rw [HP.out])
    simpa using h
  have hO0:Only [] w ((w.alloc<|.cells #[.bool false,.slice none 0 0] 76).alloc<|.cells #[.int .u32 (lo:Int),.int .u32 (hi:Int)] 209):=((Only.refl [] w).alloc _).alloc _
  have hBr:Blk ((w.alloc<|.cells #[.bool false,.slice none 0 0] 76).alloc<|.cells #[.int .u32 (lo:Int),.int .u32 (hi:Int)] 209) w.heap.size 76 [.bool false,.slice none 0 0]:=(qC w).alloc _
  clear hU hU0
  go_enter Tryz.func81,Tryz.ntmps81
  go_wp2_with (first
    | (go_at_call 121
       refine (qa _ _ 2 2 U (Js _) o9 HU2.out hR).mono ?_
       rintro e w' ⟨m',rfl,rfl,hN⟩)
    | (go_at_call 120
       have hb:=yS _ true _ m' 2 U (JG (hN.n_le HU2.out) o9) hN
       rw [Hz.out,He.out] at hb
       refine hb.mono ?_
       rintro e w2 ⟨s2,A2,n2,c2,rfl,hI,hF,hO2⟩
       have hBr2:=hBr.keep hO2 s9
       have hlt2:w.heap.size < w2.heap.size:=Ju (by simp;omega) hO2.size
       have hne2:w.heap.size≠w2.heap.size:=Nat.ne_of_lt hlt2
       obtain ⟨k0,k1,f0,f1⟩:=hBr2.two))
  exact bodyPost_ret (results_cell_row I _ _ w.heap.size 76 #[.bool s2,.slice A2 n2 c2] (0,0) _ I ((hBr2.put2 _ _).alloc _) Tryz.underlying76 I isz) I (RV1.of I hI hF (by simp;omega) (Js _) (hO0.trans' hO2)<|(yC _ _ _ _).alloc _)
theorem of_any (w:World) (z:Int) (h1: -9223372036854775808≤z) (h2:z≤9223372036854775807):Calls Tryz.prog 81 #[.int .i64 z] w (RV1 w z):=by
 by_cases h:0≤z
 ·obtain ⟨U,rfl⟩:∃ U:Nat,z=(U:Int):=⟨z.toNat,by omega⟩;exact of_pos w U o9
 ·obtain ⟨U,rfl⟩:∃ U:Nat,z= -(U:Int):=⟨(-z).toNat,by omega⟩;exact of_neg w U o9 o9
def RQ (w:World) (X Y:Nat) (e:Ending) (w':World):Prop:=
 ∃ A n c B m d,e= .returned (.tuple #[.slice A n c,.slice B m d])∧NatS w' A n c (X / Y)∧NatS w' B m d (X % Y)∧Only [] w w'
