/- THE WALK of (*blake.Hash).finish: the hash of the message as 32 bytes. THE WALKS of the other functions of package blake: hashOf. Bytes read. THE WALK -/
import Derived.Test.YtfoafihodanmhaaGreatDoorGZBF
import Derived.WalkSpells
set_option maxHeartbeats 8000000
set_option maxRecDepth 100000
namespace Go.Proofs.YtfoafihodanmhaaGreatDoor
open Go.RowKit
theorem u8info:(Tryz.prog.info? 5).map (fun i=>(i.zero,i.size,i.bytes))=some (some<|.int .u8 0,1,1):=by kernel_rfl
theorem WS:(Tryz.prog.info? 218).map (·.size)=some 32:=by kernel_rfl
theorem leb_byte {s:LN} {k j:Nat} (hj:j < 4):((s.getD k 0:Nat):Int) / 2 ^ (8 * j) % 256=(((UInt8.ofNat<|s.getD ((4 * k + j) / 4) 0 / 2 ^ (8 * ((4 * k + j) % 4))).toNat:Nat):Int):=by
 have e1:(4 * k + j) / 4=k:=by omega
 have e2:(4 * k + j) % 4=j:=by omega
 rw [e1,e2,UInt8.toNat_ofNat',Int.natCast_emod,Int.natCast_ediv,Int.natCast_pow];simp
theorem hashM_eq {n q fill:Nat} {M blk b2:LB} (hM:M.length=64 * q + fill) (hf:fill≤64) (hz:M≠[]→0 < fill) (ht:blk.take fill=M.drop (64 * q)) (_hl:blk.length=64)
  (hb:b2=blk.take fill ++ List.replicate (64 - fill) (0:UInt8)):Bl.hashM n M=Bl.leb (Bl.comp (Bl.stq n M q) b2 (64 * q + fill) true):=by
 have e1:(M.length - 1) / 64=q:=by
  rcases Xk fill with h0 | h0
  ·have h1:M.length=0:=by
    rcases Xk M.length with h | h
    ·exact h
    ·have:=hz (fun e=>by rw [e] at h;exact absurd h s9);omega
   omega
  ·omega
 have e2:Bl.comp (Bl.stq n M q) b2 (64 * q + fill) true=Bl.comp (Bl.stq n M q) (M.drop<|64 * q) (64 * q + fill) true:=by
  refine Bl.comp_congr (fun j _=> ?_) _ _ _;rw [hb,← ht]
  by_cases hjf:j < (blk.take fill).length
  ·exact Bl.getD_append_left hjf
  ·rw [Jr,JR o9,Xj,Jr,JM o9]
   split <;> rfl
 rw [e2];unfold Bl.hashM;rw [e1,hM]
theorem zeZ (w:World) (gh nk:Nat) (M:LB) (written:Nat) (hS:HS w gh nk M written) (hnk:nk≤32) (hw2:M.length≤4611686018427387904) (hgl:Gl w) (hg2:3≤gh):
  Calls Tryz.prog 173 #[.pointer<|some ⟨gh,0,none⟩] w fun e w'=>e= .returned (.agg (cellsOf<|Bl.hashM nk M).toArray)∧Only [gh] w w':=by
 obtain ⟨fill,q,⟨blk,hB,hl,hM,hf,ht⟩,hz⟩:=hS;have hst:=Bl.stq_words (n:=nk) (M:=M) hnk q;obtain ⟨i0,hi0,hz0,hz1,hz2⟩:=info_parts u8info
 go_enter Tryz.func173,Tryz.ntmps173
 go_wp2
 have hB1:=hB.alloc (.cells (List.replicate 32<|Value.int .u8 0).toArray 218);have hR1:=Blk.new w 218 (List.replicate 32<|Value.int .u8 0);have hO1:=(Only.refl [gh] w).alloc (.cells (List.replicate 32<|Value.int .u8 0).toArray 218);have hgw:=hB.lt
 revert hB1 hR1 hO1
 simp only [Xc,List.replicate_zero]
 generalize World.alloc _ _=W1
 intro hB1 hR1 hO1;have c73:W1.cell? ⟨gh,73,none⟩=some (.int .i64 (fill:Int)):=hB1.cellv (Zi hst.1 hl 0)
 have hfI:(fill:Int)≤64:=by omega
 have HM:=Jm hM;have Ht:=Jm ht;have Hl:=Jm hl
 have hq:64 * q + fill≤4611686018427387904:=by omega
 have hlen:(Zd (Bl.stq nk M q) blk (fill:Int) ((64 * q:Nat):Int) (written:Int)).length=76:=jf hst.1 hl;have Hlen:=Jm hlen;clear hM ht hl hlen hB;have hOr:=Only.refl [gh] w
 go_still_tail 8,k9
 refine wpl_clear I (.tmp 14) _ I 5 Tryz.underlying37 i0 hi0 (.int .u8 0) hz0 I I _ (64 - fill) _ I gh (9 + fill) _ _ hB1.drew (fun h=>by rw [Jb o9]) (by rw [Hlen.out];omega) ?_;intro W2 hB2 hO2
 generalize (if 64=fill then (⟨gh,9,none⟩:Addr) else ⟨gh,9 + fill,none⟩)=A14
 have e2:(Zd (Bl.stq nk M q) blk (fill:Int) ((64 * q:Nat):Int) (written:Int)).take (9 + fill) ++ (List.replicate (64 - fill) (Value.int .u8 0) ++ (Zd (Bl.stq nk M q) blk (fill:Int) ((64 * q:Nat):Int) (written:Int)).drop (9 + fill + (64 - fill)))=Zd (Bl.stq nk M q) (blk.take fill ++ List.replicate (64 - fill) 0) (fill:Int) ((64 * q:Nat):Int) (written:Int):=by
  have:=jb (st:=Bl.stq nk M q) (blk:=blk) (xs:=List.replicate (64 - fill) 0) (f:=fill) (fill:=fill) (before:=((64 * q:Nat):Int)) (written:=written) hst.1 Hl.out (by simp;omega);simp only [splice,cellsOf,List.map_replicate,List.length_replicate] at this;refine this.trans ?_;congr 2;rw [JZ (by rw [Hl.out];omega),JS]
 rw [e2] at hB2;clear e2
 have hb2:(blk.take fill ++ List.replicate (64 - fill) (0:UInt8)).length=64:=by have:=Hl.out;simp;omega
 obtain ⟨b2,Hb2⟩:∃ b,Hid (b=blk.take fill ++ List.replicate (64 - fill) (0:UInt8)):=⟨_,rfl⟩;rw [← Hb2.out] at hB2 hb2;have Hbl:=Jm hb2;clear hb2 c73;have hR2:=hR1.keep (Only.undrew (w:=W1) hO2) (by simp;omega);have hO3:=hO1.trans' (Only.undrew (w:=W1) hO2);clear hO2 hO1 hR1 hB1 hOr;obtain ⟨t,Htq⟩:∃ t,Hid (t=64 * q):=⟨_,rfl⟩;rw [← Htq.out] at hB2
 have htl:t + fill≤4611686018427387904:=by rw [Htq.out];exact hq
 have c73:W2.cell? ⟨gh,73,none⟩=some (.int .i64 (fill:Int)):=hB2.cellv (Zi hst.1 Hbl.out 0);have c74:W2.cell? ⟨gh,74,none⟩=some (.int .u64 (t:Int)):=hB2.cellv (Zi hst.1 Hbl.out 1)
 go_wp2
 go_still_tail 15,k9
 go_wp2_with fail
 refine (zdm _ gh gh 9 _ _ b2 b2 _ _ _ _ (t + fill) ?hti true hst Hbl.out hB2.drew (hgl.keep hO3 (by simp;omega) (by simp;omega)).drew hg2 o9 (fun j hj=>hB2.cellv<|zaA hst.1 Hbl.out hj) hB2.lt).mono ?_
 case hti=>omega
 rintro e W3 ⟨rfl,hB3,hO4⟩;have hR3:=hR2.keep (Only.undrew (w:=W2) hO4) (by simp;omega);have hO5:=hO3.trans' (Only.undrew (w:=W2) hO4);have hS3:=hO5.size;have hst3:=Bl.comp_words (bs:=b2) (t:=t + fill) (last:=true) hst
 have hcq:Bl.hashM nk M=Bl.leb (Bl.comp (Bl.stq nk M q) b2 (t + fill) true):=by
  rw [Htq.out];exact hashM_eq HM.out hf hz Ht.out Hl.out Hb2.out
 have Hcq:=Jm hcq;clear hcq c73 c74 hB2 hO4 hO3 hR2;obtain ⟨st3,Hst3⟩:∃ s,Hid (s=Bl.comp (Bl.stq nk M q) b2 (t + fill) true):=⟨_,rfl⟩;rw [← Hst3.out] at hB3 hst3
 have hl8:(Tryz.prog.info? 283).map (·.size)=some (yq st3).length:=by rw [q9,hst3.1];exact zbz
 have Hl8:=Jm hl8;clear hl8
 go_upto_region 4 with (fail)
 have hB4:=hB3.alloc (.cells (List.replicate 32<|Value.int .u8 0).toArray 218);have hR4:=hR3.alloc (.cells (List.replicate 32<|Value.int .u8 0).toArray 218);have hU4:=Blk.new W3 218 (List.replicate 32<|Value.int .u8 0);have hO6:=hO5.alloc (.cells (List.replicate 32<|Value.int .u8 0).toArray 218);have hgs:w.heap.size < W3.heap.size:=hR3.lt
 revert hB4 hR4 hU4 hO6
 simp only [Xc,List.replicate_zero]
 generalize World.alloc _ _=W4
 generalize W3.heap.size=gs at hgs ⊢
 intro hB4 hR4 hU4 hO6;clear hB3 hR3 hO5 hS3
 have hload:∀ j,j < (yq st3).length→W4.cell? ⟨gh,1 + j,none⟩=(yq st3)[j]? :=by
  intro j hj
  have hj':j < 8:=by simpa [hst3.1] using hj
  rw [hB4.cell,KH hst3.1 hj',yw<|wget hst3 hj']
 have Hload:=Jm hload;clear hload
 go_wp2_with (refine qi rfl 283 _ rfl gh 1 rfl (yq st3) _ Tryz.underlying283 rfl Hl8.out Hload.out ?_)
 clear Hload Hl8;obtain ⟨sc,Hsc⟩:∃ c,Hid (c=(yq st3).toArray):=⟨_,rfl⟩;rw [← Hsc.out]
 have hU5:Blk W4 gs 218 (Z0 32 (fun i=>Value.int .u8 ((UInt8.ofNat<|st3.getD (i / 4) 0 / 2 ^ (8 * (i % 4))).toNat:Int)) (fun _=> .int .u8 0)<|4 * 0):=by
  have:(Z0 32 (fun i=>Value.int .u8 ((UInt8.ofNat<|st3.getD (i / 4) 0 / 2 ^ (8 * (i % 4))).toNat:Int)) (fun _=> .int .u8 0)<|4 * 0)=List.replicate 32 (Value.int .u8 0):=by
   simp [Z0,List.range,List.range.loop,List.replicate]
  rw [this];exact hU4
 clear hU4
 go_loopw [35,4,5,6,39] (fun a _ _ _ _ wr=>∃ k:Nat,k≤8∧a= .int .i64 k∧Blk wr gs 218 (Z0 32 (fun i=>Value.int .u8 ((UInt8.ofNat<|st3.getD (i / 4) 0 / 2 ^ (8 * (i % 4))).toNat:Int)) (fun _=> .int .u8 0)<|4 * k)∧Blk wr w.heap.size 218 (List.replicate 32<|Value.int .u8 0)∧Only [gh] w wr) (fun a _ _ _ _ _=>8 - (intOf a).toNat)
 case atStart=>exact ⟨0,by omega,rfl,hU5,hR4,hO6⟩
 case round=>
  clear hU5 hR4 hO6 hB4;obtain ⟨k,hk,rfl,hU,hR,hO⟩:=hrel
  by_cases hlt:k < 8
  ·obtain ⟨sv,Hs⟩:∃ n,Hid (n=st3.getD k 0):=⟨_,rfl⟩
   have ls:sv < 4294967296:=by rw [Hs.out];exact hst3.getD _
   have hidx:∀ w,(Instr.index 283 (.agg sc)<|.int .i64 (k:Int)).run Tryz.prog w= .ok (.int .u32 (sv:Nat)) w:=by
    rw [Hsc.out,Hs.out];exact KC Tryz.underlying283 Tryz.underlying209 I zcM hlt (yw<|wget hst3 hlt)
   go_wp2
   obtain ⟨wo,rfl⟩:∃ wo:World,wo=wr:=⟨_,rfl⟩
   go_loopw [39,6] (fun a _ wr=>∃ j:Nat,j≤4∧a= .int .i64 j∧Blk wr gs 218 (Z0 32 (fun i=>Value.int .u8 ((UInt8.ofNat<|st3.getD (i / 4) 0 / 2 ^ (8 * (i % 4))).toNat:Int)) (fun _=> .int .u8 0)<|4 * k + j)∧Blk wr w.heap.size 218 (List.replicate 32<|Value.int .u8 0)∧Only [gh] w wr) (fun a _ _=>4 - (intOf a).toNat)
   case atStart=>exact ⟨0,by omega,rfl,hU,hR,hO⟩
   case round=>
    clear hU hR hO hidx;obtain ⟨j,hj,rfl,hU,hR,hO⟩:=hrel
    by_cases hjlt:j < 4
    ·have cu:wr.cell? ⟨gs,4 * k + j,none⟩=some (.int .u8 0):=hU.cellv (by rw [jW o9,Jb o9]);have fu:=hU.frozen (4 * k + j)
     go_wp2
     go_roundw
     case rel=>
      refine ⟨j + 1,by omega,by go_num,?_,hR.far (p:=⟨gs,4 * k + j,none⟩) (by simp;omega) _,hO.setCell (p:=⟨gs,4 * k + j,none⟩) (.inr (by simp;omega)) _⟩;rw [Hs.out,leb_byte (s:=st3) hjlt,← J9,← jV o9];exact hU.set (4 * k + j) _
     case measure=>simp [intOf];omega
    ·obtain rfl:j=4:=by omega
     go_wp2
     go_roundw
     case rel=>exact ⟨k + 1,by omega,by go_num,hU,hR,hO⟩
     case measure=>simp [intOf];omega
  ·obtain rfl:k=8:=by omega
   have eL:Z0 32 (fun i=>Value.int .u8 ((UInt8.ofNat<|st3.getD (i / 4) 0 / 2 ^ (8 * (i % 4))).toNat:Int)) (fun _=> .int .u8 0) (4 * 8)=cellsOf (Bl.hashM nk M):=by
    rw [Hcq.out,← Hst3.out,show 4 * 8=32 from rfl,jX];simp [Bl.leb,cellsOf]
   rw [eL] at hU
   have hl32:(cellsOf<|Bl.hashM nk M).length=32:=by simp
   have hs32:(Tryz.prog.info? 218).map (·.size)=some (cellsOf<|Bl.hashM nk M).length:=by rw [hl32];exact WS
   have Hs32:=Jm hs32;have Hl32:=Jm hl32;clear eL hl32 hs32
   go_wp2_with (first | (refine qi rfl 218 _ rfl gs 0 rfl (cellsOf<|Bl.hashM nk M) _ Tryz.underlying218 rfl Hs32.out (fun j _=>by rw [JF];exact hU.cell j) ?_) | (refine Y9 rfl 218 _ _ rfl w.heap.size (cellsOf<|Bl.hashM nk M) rfl rfl 218 (List.replicate 32<|Value.int .u8 0) hR (by rw [Hl32.out];rfl) Hs32.out YT ?_;intro W9 hR9 hO9))
   have hO10:=hO.trans hO9 s9;exact bodyPost_ret (results_cell_row I _ _ w.heap.size 218 (cellsOf<|Bl.hashM nk M).toArray (0,0) _ I hR9 Tryz.underlying218 I (by simpa using Hs32.out)) I ⟨I,hO10⟩
theorem HS.lt {w:World} {gh nk wt:Nat} {M:LB} (h:HS w gh nk M wt):gh < w.heap.size:=by obtain ⟨_,_,⟨_,hb,_⟩,_⟩:=h;exact hb.lt
theorem RB.low {w:World} {A:Option Addr} {bs:LB} (h:RB w A bs) {g:Nat} (hg:w.heap.size≤g):0 < bs.length→∀ p,A=some p→p.block≠g:=by
 intro h0 p hp;obtain ⟨g',o,h1,h2,_⟩:=h h0;rw [h1] at hp;injection hp with hp;subst hp;simp;omega
theorem zeW (w:World) (A:Option Addr) (c:Nat) (key:LB) (hk:key.length≤32) (hc:key.length≤c) (hr:RB w A key) (hgl:Gl w)
  (gp:Nat) (B:Option Addr) (d:Nat) (b:LB) (hgp:gp < w.heap.size) (hcp:w.cell? ⟨gp,0,none⟩=some (.slice B b.length d)) (hd:b.length≤d) (hrb:RB w B b) (hbl:b.length≤2305843009213693952):
  Calls Tryz.prog 150 #[.slice A key.length c,.slice (some ⟨gp,0,none⟩) 1 1] w fun e w'=>e= .returned (.agg (cellsOf<|Bl.hash key b).toArray)∧Only [] w w':=by
 have Hcp:=Jm hcp;clear hcp
 have hkb:(Bl.kblock key).length≤64:=by unfold Bl.kblock;split <;> simp;omega
 have hl32:(cellsOf<|Bl.hash key b).length=32:=by simp
 have hs32:(Tryz.prog.info? 218).map (·.size)=some (cellsOf<|Bl.hash key b).length:=by rw [hl32];exact WS
 have Hs32:=Jm hs32;have Hl32:=Jm hl32;clear hl32 hs32
 go_enter Tryz.func150,Tryz.ntmps150
 go_upto_region 1 with (fail)
 have hR1:=Blk.new w 218 (List.replicate 32<|Value.int .u8 0);have hO1:=(Only.refl [] w).alloc (.cells (List.replicate 32<|Value.int .u8 0).toArray 218)
 have hs1:(w.alloc<|.cells (List.replicate 32<|Value.int .u8 0).toArray 218).heap.size=w.heap.size + 1:=by simp
 revert hR1 hO1 hs1
 simp only [Xc,List.replicate_zero]
 generalize World.alloc _ _=W1
 intro hR1 hO1 hs1
 have hs1':w.heap.size < W1.heap.size:=by omega
 clear hs1;have hsz:=hgl.sz
 go_wp2_with (first
  | (go_at_call 171;refine (start_any W1 A c key hk hc (hr.keep0 hO1)<|hgl.keep hO1 s9 s9).mono ?_;rintro e W2 ⟨rfl,hS2,hO2⟩;have hO2':=hO1.trans' hO2;have hR2:=hR1.keep hO2 s9;have hl2:=hS2.lt;clear hO1 hR1 hO2)
  | (go_at_call 172;refine (zfu W2 W1.heap.size key.length (Bl.kblock key) b 0 gp d B hS2 o9 o9 ((hO2'.cell (p:=⟨gp,0,none⟩) hgp s9).trans Hcp.out) hd (hrb.keep0 hO2') (hrb.low o9) hk o9 o9 (hgl.keep hO2' s9 s9) o9).mono ?_;rintro e W3 ⟨rfl,hS3,hO3⟩;have hO3':=hO2'.trans hO3 (by simp;omega);have hR3:=hR2.keep hO3 (by simp;omega);clear hS2 hO2' hR2 hO3)
  | (go_at_call 173;refine (zeZ W3 W1.heap.size key.length (Bl.kblock key ++ b) _ hS3 hk (by simp;omega) (hgl.keep hO3' s9 s9) o9).mono ?_;rintro e W4 ⟨rfl,hO4⟩;have hO4':=hO3'.trans hO4 (by simp;omega);have hR4:=hR3.keep hO4 (by simp;omega);clear hS3 hO3' hR3 hO4)
  | (refine Y9 rfl 218 _ _ rfl w.heap.size (cellsOf<|Bl.hash key b) rfl rfl 218 _ hR4 (by rw [Hl32.out];rfl) Hs32.out YT ?_;intro W5 hR5 hO5))
 exact bodyPost_ret (results_cell_row I _ _ w.heap.size 218 (cellsOf<|Bl.hash key b).toArray (0,0) _ I hR5 Tryz.underlying218 I (by simpa using Hs32.out)) I ⟨I,hO4'.trans hO5 s9⟩
theorem part_new (w:World) (t:TypeId) (v:Value):(w.alloc<|.cells #[v] t).cell? ⟨w.heap.size,0,none⟩=some v:=(Blk.new w t [v]).cellv rfl
namespace Sx
section
variable {w:World}
theorem zdN {A:Option Addr} {b:LB} (h:RV w A (cellsOf b)):RB w A b:=fun h0=>by
 obtain ⟨g,o,e,hg,hc⟩:=h (by rw [ye];exact h0);refine ⟨g,o,e,hg,fun j hj=> ?_⟩;rw [hc j (by rw [ye];exact hj)];simp [cellsOf,Je hj,Jr]
end
end Sx
theorem VJ {P:Program} {fn:Func} {p u:Tmp} {ty:TypeId} (h:fn.results= #[.cell p ty,.tmp u]) (tmps:Array Value) (w:World) (g:Nat) (t:TypeId) (cs:List Value) (d:TypeDesc)
  (hp:tmps.getD p undef= .pointer (some ⟨g,0,none⟩)) (hg:Blk w g t cs)
  (hu:P.underlying ty=some d) (hd:(match d with | .struct _ | .array _ _=>true | _=>false)=true) (hi:(P.info? ty).map (·.size)=some cs.length):
  (results fn tmps).run P w= .ok (.tuple #[.agg cs.toArray,tmps.getD u undef]) w:=by
 have hp':tmps[p]?.getD undef= .pointer (some ⟨g,0,none⟩):=by simpa using hp
 simp [results,h,hp',asAddr,run_loadVar_row w g t ty cs.toArray (0,0) d hg hu hd (by simpa using hi)]
theorem keyed_any (w:World) (A:Option Addr) (c:Nat) (key:LB) (hk1:1≤key.length) (hk:key.length≤32) (hc:key.length≤c) (hr:RB w A key)
  (B:Option Addr) (d:Nat) (b:LB) (hd:b.length≤d) (hrb:RB w B b) (hbl:b.length≤2305843009213693952) (hgl:Gl w):
  Calls Tryz.prog 124 #[.slice A key.length c,.slice B b.length d] w fun e w'=>e= .returned (.tuple #[.agg (cellsOf<|Bl.hash key b).toArray,.int .i64 0])∧Only [] w w':=by
 have hl32:(cellsOf<|Bl.hash key b).length=32:=by simp
 have hs32:(Tryz.prog.info? 218).map (·.size)=some (cellsOf<|Bl.hash key b).length:=by rw [hl32];exact WS
 have Hs32:=Jm hs32;have Hl32:=Jm hl32;clear hl32 hs32
 go_enter Tryz.func124,Tryz.ntmps124
 go_upto_region 1 with (fail)
 have hR1:=Blk.new w 218 (List.replicate 32<|Value.int .u8 0);have hO1:=(Only.refl [] w).alloc (.cells (List.replicate 32<|Value.int .u8 0).toArray 218)
 have hs1:(w.alloc<|.cells (List.replicate 32<|Value.int .u8 0).toArray 218).heap.size=w.heap.size + 1:=by simp
 revert hR1 hO1 hs1
 simp only [Xc,List.replicate_zero]
 generalize World.alloc _ _=W1
 intro hR1 hO1 hs1
 have hs1':w.heap.size < W1.heap.size:=by omega
 clear hs1
 go_wp2_with fail
 have hO2:=hO1.alloc (.cells #[.slice B b.length d] 37);refine (zeW _ A c key hk hc (hr.keep0 hO2) (hgl.keep hO2 s9 s9) W1.heap.size B d b s9 (part_new _ _ _) hd (hrb.keep0 hO2) hbl).mono ?_;rintro e W2 ⟨rfl,hO3⟩;have hR2:=(hR1.alloc<|.cells #[.slice B b.length d] 37).keep hO3 s9;have hO4:=hO2.trans' hO3
 go_wp2_with (refine Y9 rfl 218 _ _ rfl w.heap.size (cellsOf<|Bl.hash key b) rfl rfl 218 _ hR2 (by rw [Hl32.out];rfl) Hs32.out YT ?_;intro W5 hR5 hO5)
 exact bodyPost_ret (VJ I _ _ w.heap.size 218 (cellsOf<|Bl.hash key b) _ I hR5 Tryz.underlying218 I Hs32.out) I ⟨I,hO4.trans hO5 s9⟩
namespace Sx
section
theorem con_keyed (key b:LB) (hk1:1≤key.length) (hk:key.length≤32) (hb:b.length≤2305843009213693952):Con Tryz.prog 124 [bD key,bD b] (ZH [gD<|Bl.hash key b,iD 0]):=by
 refine ⟨enters_of Tryz.func124 k9 I,fun L w vs hL hG ha=> ?_⟩;obtain ⟨u,v,rfl,hu,hv⟩:=zbB ha;obtain ⟨A,c,rfl,hc,hr⟩:=b_out hu;obtain ⟨B,d,rfl,hd,hs⟩:=b_out hv;refine (keyed_any w A c key hk1 hk hc (zdN hr) B d b hd (zdN hs) hb hG).mono ?_;rintro r w' ⟨rfl,ho⟩;exact ⟨_,I,⟨_,I,I,I,t9⟩,ho⟩
end
section
def zca:Option LB→List D
 | none=>[isD<|.slice none 0 0]
 | some b=>[bD b]
instance:Row zca 1:=⟨fun x=>by cases x <;> rfl,fun x=>by cases x <;> (unfold zca;infer_instance),by decide⟩
theorem zed (gw:Nat) (t:Ust) (o:LB) (n:Nat) (hn:n≤9223372036854775807) (ho:o.length + 10≤65536):ConR Tryz.prog 122 [.c gw [iD 0,isD<|.slice t.A (o).length t.c],.r t.F<|yi 5 1 Ve t.A t.c<|o] [pA gw,iD (n:Int)]
  (fun q:Ust × {o':LB // o'.length≤o.length + 10}=>[.c gw [iD 0,isD<|.slice q.1.A (q.2.1).length q.1.c],.r q.1.F<|yi 5 1 Ve q.1.A q.1.c<|q.2.1]) (fun _=>isD<|.tuple #[]):=
 (con_wUint gw t o n hn ho).reshape fun s=>Opens.refl ⟨(s,⟨o ++ grp n,by rw [Jk];have:=zc3 (n:=n) o9;omega⟩),rfl,zc _⟩
theorem Tp.tg_set {n i:Nat} {ts:List (Option LB)} {b:LB} (hl:ts.length=n) (hi:i < n) (h:∀ j < i,∃ b,ts[j]? =some (some b)):∀ j < i + 1,∃ c,(ts.set i<|some b)[j]? =some (some c):=fun j hj=>by
 by_cases e:i=j
 ·subst e;exact ⟨b,List.getElem?_set_self o9⟩
 ·rw [List.getElem?_set_ne e];exact h j o9
theorem le_pt {r:Rw} {n d:Int} (h:qk r=zak n d):Le (Z8<|qk r) (ju n d):=by rw [h];exact zc _
theorem con_tags (ga:Nat) (a:Tp.Au) (ho:Tp.AOk a) (is:List Tp.Bi) (hi0:is.length≤1000000) (hok:∀ x∈is,Tp.OkI a.cat a.bs x):ConR Tryz.prog 82 [.c ga [lsD yA a.cat,lsD yK a.bs,iD a.ac,iD a.st,bD a.key,iD (a.rd:Int),lsD z7 a.pr]] [pA ga,lsD ZA is] (fun t:{ts:List (Option LB) // ts.length=is.length∧∀ j < is.length,∃ b,ts[j]? =some (some b)}=>[.c ga [lsD yA a.cat,lsD yK a.bs,iD a.ac,iD a.st,bD a.key,iD (a.rd:Int),lsD z7 a.pr]]) (fun t:{ts:List (Option LB) // ts.length=is.length∧∀ j < is.length,∃ b,ts[j]? =some (some b)}=>ZH [lsD zca t.1,iD 0]):=by
 have hrd:=ho.rd;have hcl:=ho.hl;refine yt Tryz.func82 k9 I k9 fun base w0=>(zn<|zf I<|zf I<|zN<|zd I<|za I (zT (e:=105) I k9) (SWl.e2 (S:=[]) (Zu (e:=37) (n:=is.length) zca none 24 I I k9 k9 I I I I o9 d9 I) fun g15=>(zf I<|ze<|zh<|zn<|zd I<|za I (zT (e:=105) I k9)<|zd I<|ze<|SW.block<|yd (ι:={p:Nat × List (Option LB) // p.1≤is.length∧p.2.length=is.length∧∀ j < p.1,∃ b,p.2[j]? =some (some b)}) (fun p=>yb [(0,pA ga),(6,isD<|.slice (some ⟨g15,0,none⟩) (p.1.2).length is.length),(16,lsD ZA is),(17,iD (is.length:Int)),(18,iD (p.1.1:Int))] [.c ga [lsD yA a.cat,lsD yK a.bs,iD a.ac,iD a.st,bD a.key,iD (a.rd:Int),lsD z7 a.pr],.r [g15]<|yi 37 1 zca (some ⟨g15,0,none⟩) is.length<|p.1.2]) (fun p=>is.length - p.1.1) (⟨(0,List.replicate is.length none),JC _,by simp,fun _ h=>absurd h<|Nat.not_lt_zero _⟩) ?_ ?_)))
 ·exact ⟨⟨_,I,⟨lq I,⟨⟨_,I,zI s9⟩,(sT I)⟩⟩⟩,[0,1],by decide,(sX rfl)⟩
 ·rintro ⟨⟨i,ts⟩,hi,hts,htb⟩ K0 hK0;dsimp only at hi hts htb ⊢;refine zn (za I (yc I I)<|ze<|zh<|zC I (fun hb19=> ?_) (fun hb19=> ?_))
  ·have h19:(i:Int) < (is.length:Int):=oT hb19;refine zq (zj<|zh<|SW.block<|zh ?_);obtain ⟨x,hx⟩:∃ x,is[i]? =some x:=⟨_,Je o9⟩;have hxo:=hok x (Jc hx);have hx1:=hxo.a0;have hx2:=hxo.a1;have hx3:=hxo.w0;obtain ⟨xb,hxb,hxw⟩:=hxo.wh
   have hid:x.who≤32:=by obtain ⟨k,hk⟩:=List.getElem?_of_mem hxb;have:=(ho.vb.ok k xb hk).i1;omega
   refine zi (zd I<|za I (zU (e:=105) 7 I I k9 k9 o9 (by simpa using hx))<|za I (yn 7 I k9 d9 (show 7≤7 by decide) s9) (SWl.e2 (S:=[]) (Ef.alloc (zs:=[.int .i64 0,.int .i64 0,.int .i64 0,.bool false,.slice none 0 0,.bool false,.slice none 0 0]) k9 I) fun g8=>(zf I<|zu (S:=[_]) (zA 2 I I I k9 I<|m9 I)<|zN (SWl.e2 (S:=[]) (Ef.alloc (zs:=[.int .i64 0,.slice none 0 0]) k9 I) fun g9=>(ze<|zh<|Y5 5 1 Ve<|zi<|zd I<|za I (zL I)<|za I (zg (n:=5) I k9)<|za I (zp 0 I I I k9 zm)<|Zc (yh [3,4] (zed g9 ⟨none,0,[]⟩ [] a.rd o9 (by first | (simp;done) | (have hz:=ho1;simp only [List.length_nil] at hz;omega))) I ⟨zc _,zc _,t9⟩ d9 (sX I) (fun _ h=>h) I) ?_)))))
   rintro _ ⟨⟨s1,o1,ho1⟩,rfl⟩
   refine zN (za I (zg (n:=0) I k9)<|za I (zp 2 I I I k9 zm)<|Zc (yh [3,4] (zed g9 s1 o1 x.who.toNat o9 (by first | (simp;done) | (have hz:=ho1;simp only [List.length_nil] at hz;omega))) I ⟨zc _,zI (by congr 1;omega),t9⟩ d9 (sX I) (fun _ h=>h) I) ?_)
   rintro _ ⟨⟨s2,o2,ho2⟩,rfl⟩
   refine zN (za I (zg (n:=1) I k9)<|za I (zp 2 I I I k9 zm)<|Zc (yh [3,4] (zed g9 s2 o2 x.at_.toNat o9 (by first | (simp;done) | (have hz:=ho1;simp only [List.length_nil] at hz;omega))) I ⟨zc _,zI (by congr 1;omega),t9⟩ d9 (sX I) (fun _ h=>h) I) ?_)
   rintro _ ⟨⟨s3,o3,ho3⟩,rfl⟩
   refine ze (zh<|SW.sub (σ':=yb [(0,_),(6,_),(16,_),(17,_),(18,_),(7,_),(9,_)] [_,_,_,_]) (sB [0,1,3,4] I I)<|zi<|zd I<|Zc (yh [2,3] (zed g9 s3 o3 i o9 (by first | (simp;done) | (have hz:=ho1;simp only [List.length_nil] at hz;omega))) I ⟨zc _,zc _,t9⟩ d9 (sX I) (fun _ h=>h) I) ?_)
   rintro _ ⟨⟨s4,o4,ho4⟩,rfl⟩
   refine zN (SWl.e2 (yh [2,3] (con_wEnd g9 s4 o4 (by have hz:=ho1;simp only [List.length_nil] at hz;omega)) I ⟨zc _,t9⟩ d9 (sX I) (fun _ h=>h) I) fun _=>(zd I<|za I (zo I I)<|za I (zo I I)<|zf I<|zf I<|ze<|zh<|zn<|zd I<|za I (yv I I)<|ze<|zK I I<|zq<|zj<|zh<|SW.sub (σ':=yb [(0,_),(6,_),(16,_),(17,_),(18,_),(7,_),(10,_)] [_,_]) (sB [0,1] I I)<|zi<|zd I<|za I (zL I)<|za I (zg (n:=4) I k9)<|za I (zp 0 I I I k9 zm)<|zd I<|zu (S:=[]) (zv (con_keyed a.key o4 ho.k0 ho.k1 (by have hz:=ho1;simp only [List.length_nil] at hz;omega)) I ⟨zc _,zc _,t9⟩ I)<|zd I<|za I (zo I I)<|za I (zo I I) (SWl.e2 (S:=[]) (Ef.alloc (zs:=cellsOf<|List.replicate 32 0) k9 I) fun g12=>(zu (S:=[_]) (Ef.storeG 2 32 I I I k9 (by first | assumption | (simp;done) | (simp;omega)) (by first | assumption | (simp;done) | (simp;omega))<|m9 I)<|zf I<|ze<|zh ?_))))
   exact zn (zd I<|za I (yv I I)<|ze<|zK I I<|zq<|zj<|zi<|zd I<|zd I<|za I (Rd.slArr (e:=5) (n:=32) I k9 k9)<|Vp 57 2 (cellsOf<|Bl.hash a.key o4) I I (by first | rfl | (simp;done)) d9 I<|za I (yf 1 1 I I I k9 k9 o9 (by rw [Int.toNat_natCast];omega))<|zu (S:=_) (yM (v:=some<|Bl.hash a.key o4) 1 I I I I k9 (by rw [Int.toNat_natCast];omega) (fun _ h=>h))<|zF<|SN.block<|zj<|zi<|za I (Rd.add I I ⟨by omega,by omega⟩)<|zd I<|zF (fun aK wK hh=>hK0 (⟨(i + 1,ts.set i<|some<|Bl.hash a.key o4),by dsimp only;omega,by simp [hts],Tp.tg_set hts o9 htb⟩) (by dsimp only;omega) aK wK<|hh.sub<|⟨⟨_,I,⟨lq I,⟨⟨_,I,zI s9⟩,⟨lq I,⟨lq I,⟨⟨_,I,zI s9⟩,t9⟩⟩⟩⟩⟩⟩,[0,1],by decide,⟨la rfl,⟨⟨_,rfl,YL s9 (by simp only [Int.toNat_natCast])⟩,trivial⟩⟩⟩))
  ·have h19:¬(i:Int) < (is.length:Int):=oF hb19;refine zQ ?_
   repeat (first | refine zX ?_ | refine zY d9 ?_)
   refine zZ (zj<|zn<|zd I<|zf I<|zf I<|ze<|SW.freezeT 1 4 I I (zc _)<|zV (fn:=Tryz.f82) (⟨ts,hts,fun j hj=>htb j o9⟩) [0] (fun _ _ h=>h) (Rs.le (Rs.two I (zk I)<|zk I) ?_) d9 ⟨la I,t9⟩);exact zc _
theorem zfl (is:List Tp.Bi) (ts:List (Option LB)) (hpt:∀ x∈is,VR x.pt) (hts:ts.length=is.length) (htb:∀ j < is.length,∃ b,ts[j]? =some (some b)) (i j:Int) (hi:0≤i) (hi2:i < (is.length:Int)) (hj:0≤j) (hj2:j < (is.length:Int)):ConR Tryz.prog 84 [] [iD i,iD j,paD [lsD ZA is],paD [lsD zca ts]] (fun t:Int=>[]) (fun t:Int=>iD t):=by
 obtain ⟨x,hx⟩:∃ x,is[i.toNat]? =some x:=⟨_,Je o9⟩;obtain ⟨y,hy⟩:∃ y,is[j.toNat]? =some y:=⟨_,Je o9⟩;obtain ⟨n1,d1,hG1,he1,_⟩:=hpt x (Jc hx);obtain ⟨n2,d2,hG2,he2,_⟩:=hpt y (Jc hy);obtain ⟨b1,hb1⟩:=htb i.toNat o9;obtain ⟨b2,hb2⟩:=htb j.toNat o9
 refine yt Tryz.func84 k9 I k9 fun base w0=>(zn<|zf I<|ze<|zh<|yl [] (rr [0,1,2,3,4,5,6,7,8,9,11,12,13,14,15,16,17,18]<|.n 10 (.n 19 (.n 20 (.n 21 (.r 22 .fin) .no) .no) .no) .no) k9 k9 (fun d _ _ _ _ h=>by cases d <;> exact h)<|zl I I (zS I I k9 s9)<|zz I I<|zl I I (zU (e:=105) 7 I I k9 k9 hi hx)<|zl I I (yo (n:=3) I k9 (show 3 < 7 by decide))<|zl I I (yn 4 I k9 d9 (show 4≤4 by decide) s9)<|zl I I (zS I I k9 s9)<|zz I I<|zl I I (zU (e:=105) 7 I I k9 k9 hj hy)<|zl I I (yo (n:=3) I k9 (show 3 < 7 by decide))<|zl I I (yn 4 I k9 d9 (show 4≤4 by decide) s9)<|zl I I (zS I I k9 s9)<|zz I I<|zl I I (zU (e:=37) 1 I I k9 k9 hi hb1)<|zl I I (zS I I k9 s9)<|zl I I (zS I I k9 s9)<|zz I I<|zl I I (zU (e:=37) 1 I I k9 k9 hj hb2)<|zl I I (zS I I k9 s9)<|yZ I (zv (KN hG1 hG2) I ⟨le_pt he1,le_pt he2,t9⟩ I)<|jo I (Yu (con_bcmp b1 b2) I ⟨zc _,zc _,t9⟩ I) ?_ yB)
 rintro _ _ ⟨z,rfl,rfl⟩;refine yZ I (YB I I blsCi2 I) (yZ I (zv (zdd [zbM n1 d1 n2 d2,z] s9) I ⟨zc _,t9⟩ I)<|yR I I<|yE<|zV (fn:=Tryz.f84) ((qA [zbM n1 d1 n2 d2,z])) [] (fun _ _ h=>h) (Rs.le (zG I<|zk I) ?_) d9 t9);exact zc _
end
section
theorem all5 {L:LN} {w:World} {d e f g h:D} {vs:List Value} (h0:All L w [d,e,f,g,h] vs):∃ a b c p q,vs=[a,b,c,p,q]∧d.R L w a∧e.R L w b∧f.R L w c∧g.R L w p∧h.R L w q:=by
 match vs,h0 with
 | [a,b,c,p,q],⟨h1,h2,h3,h4,h5,_⟩=>exact ⟨a,b,c,p,q,rfl,h1,h2,h3,h4,h5⟩
theorem zaD:∀ l:List Int,Flats (l.flatMap z7)
 | []=>inferInstanceAs (Flats [])
 | x :: l=>by
  haveI:=zaD l;exact inferInstanceAs (Flats<|iD x :: l.flatMap z7)
instance (F:LN) (e c:Nat) (A:Option Addr) (l:List Int):FlatBx (.r F<|yi e 1 z7 A c l):=⟨fun L L' w ⟨xs,ha,h⟩=>⟨xs,(zaD l).h _ _ _ _ ha,h⟩⟩
theorem bldRo {l:List Tp.Pr} {is:List Tp.Bi} {A B C:Option Addr} {n c m d k e:Nat}:Bld Tryz.prog 114 [0,1,3,4,6] [lsD yA l,lsD ZA is,isD<|.slice A n c,isD<|.slice B m d,isD<|.slice C k e] [lsD yA l,lsD ZA is,isD<|.slice none 0 0,isD<|.slice A n c,isD<|.slice B m d,isD<|.slice none 0 0,isD<|.slice C k e]:=fun L w vs hv=>by
 obtain ⟨p,q,r,s,t,rfl,h1,h2,rfl,rfl,rfl⟩:=all5 hv;have h5:=h1;have h6:=h2;obtain ⟨A1,c1,rfl,-,-⟩:=h5;obtain ⟨A2,c2,rfl,-,-⟩:=h6;exact ⟨[.slice A1 l.length c1,.slice A2 is.length c2,.slice none 0 0,.slice A n c,.slice B m d,.slice none 0 0,.slice C k e],⟨h1,h2,I,I,I,I,I,t9⟩,fun w'=>by kernel_rfl⟩
structure Tp.Rst where
 g:Nat
 od:List Int
 b:Tp.Bst
 t:Wst
 r:Wst
 m:Wst
def KU (i:Nat):List Int:=zB (fun k=>(k:Int)) i
theorem W0 {i:Nat}:KU (i + 1)=KU i ++ [(i:Int)]:=by unfold KU zB;rw [List.range_succ,XG];rfl
theorem qS {i:Nat}:(KU i).length=i:=zW
theorem Tp.odL_in {n:Nat}:Tp.In (n:Int) (KU n):=fun x hx=>by
 obtain ⟨k,hk⟩:=List.getElem?_of_mem hx
 have hkn:k < n:=by have:=(Jg.1 hk).1;rwa [qS] at this
 unfold KU at hk;rw [yU hkn] at hk;have h1:=JN hk;omega
theorem Vw {l:List Tp.Bi} {i:Nat} {x:Tp.Bi} (h:l[i]? =some x):(l.take<|i + 1).map Tp.Bi.ch=(l.take i).map Tp.Bi.ch ++ [x.ch]:=by
 rw [List.take_add_one,h,XG];rfl
theorem con_begin (ga:Nat) (a:Tp.Au) (ho:Tp.AOk a) (is:List Tp.Bi) (hi0:is.length≤19) (hok:∀ x∈is,Tp.OkI a.cat a.bs x) (hpt:∀ x∈is,VR x.pt):ConR Tryz.prog 39 [.c ga [lsD yA a.cat,lsD yK a.bs,iD a.ac,iD a.st,bD a.key,iD (a.rd:Int),lsD z7 a.pr]] [pA ga,lsD ZA is] (fun q:{q:Tp.Rst // q.b.ss.length=a.bs.length∧Tp.In (is.length:Int) q.od∧q.od.length=is.length}=>[.c ga [lsD yA a.cat,lsD yK a.bs,iD a.ac,iD a.st,bD a.key,iD (a.rd:Int),lsD z7 a.pr],.c q.1.g [lsD yA a.cat,lsD ZA is,lsD z7 q.1.od,isD<|.slice q.1.b.A (Zb a.bs q.1.b.ss).length q.1.b.c,isD<|.slice q.1.t.A (zB (fun k=>Tp.tot k a.bs) a.cat.length).length q.1.t.c,isD<|.slice q.1.r.A (is.map Tp.Bi.ch).length q.1.r.c,isD<|.slice q.1.m.A (List.replicate a.cat.length (0:Int)).length q.1.m.c],.r q.1.b.F<|yi 59 4 Yr q.1.b.A q.1.b.c<|Zb a.bs q.1.b.ss,.r q.1.b.G<|Kf<|Tp.rows a.bs q.1.b.ss,.r q.1.t.F<|yi 3 1 z7 q.1.t.A q.1.t.c<|zB (fun k=>Tp.tot k a.bs) a.cat.length,.r q.1.r.F<|yi 3 1 z7 q.1.r.A q.1.r.c<|is.map Tp.Bi.ch,.r q.1.m.F<|yi 3 1 z7 q.1.m.A q.1.m.c<|List.replicate a.cat.length (0:Int)]) (fun q:{q:Tp.Rst // q.b.ss.length=a.bs.length∧Tp.In (is.length:Int) q.od∧q.od.length=is.length}=>ZH [pA q.1.g,iD 0]):=by
 have hcl:=ho.hl;have hbl:=ho.vb.n;refine yt Tryz.func39 k9 I k9 fun base w0=>(zn (SWl.e2 (S:=[]) (Y6 I (fun _ _ _ h=>Zo<|One.h _ _ _ h) I) fun g3=>(zf I<|zf I<|zN<|zd I<|za I (zp 1 I I I k9 zm)<|Zc (yh [0] (con_tags ga a ho is o9 hok) I ⟨zc _,zc _,t9⟩ d9 ⟨la I,t9⟩ (fun _ h=>h) I) ?_)));rintro _ ⟨⟨ts,hts,htb⟩,rfl⟩;refine zd I (za I (zo I I)<|za I (zo I I) (SWl.e2 (S:=[]) (Ef.alloc (zs:=[.slice none 0 0]) k9 I) fun g6=>(zu (S:=[_]) (yW 2 I I I k9 I<|m9 I)<|zf I<|ze<|zh<|zn<|zd I<|za I (yv I I)<|ze<|zK I I<|zq<|zj<|zh<|jq (fun σ=>∃ (t:{t:Tp.Bst // t.ss.length=a.bs.length}) (s:Wst) (g37 g39:Nat),σ=yb [(0,pA ga),(3,pA g3),(6,pA g6),(8,pA g39)] [.c ga [lsD yA a.cat,lsD yK a.bs,iD a.ac,iD a.st,bD a.key,iD (a.rd:Int),lsD z7 a.pr],.c g3 [lsD ZA is],.c g6 [lsD zca ts],.c g39 [lsD yA a.cat,lsD ZA is,isD<|.slice none 0 0,isD<|.slice t.1.A (Zb a.bs t.1.ss).length t.1.c,isD<|.slice s.A (zB (fun k=>Tp.tot k a.bs) a.cat.length).length s.c,isD<|.slice none 0 0,isD<|.slice (some ⟨g37,0,none⟩) a.cat.length a.cat.length],.r t.1.F<|yi 59 4 Yr t.1.A t.1.c<|Zb a.bs t.1.ss,.r t.1.G<|Kf<|Tp.rows a.bs t.1.ss,.r s.F<|yi 3 1 z7 s.A s.c<|zB (fun k=>Tp.tot k a.bs) a.cat.length,.r [g37]<|yi 3 1 z7 (some ⟨g37,0,none⟩) a.cat.length<|List.replicate a.cat.length 0]) ?_ ?_)))
 ·refine yl [] (rr [0,1,2,3,4,5,6,7,8,10,12,13,14,15,16]<|.n 9 (.n 11 (.n 17 (.r 18<|.n 19 (.r 20 .fin) .no) .no)<|.n 17 (.n 11 (.r 18<|.n 19 (.r 20 .fin) .no) .no) .no)<|.n 17 (.n 9 (.n 11 (.r 18<|.n 19 (.r 20 .fin) .no) .no) .no) .no) k9 k9 (fun d _ _ _ _ h=>by cases d <;> exact h) (zz I I<|zl I I (zL I)<|zl I I (zg (n:=0) I k9)<|zl I I (zp 1 I I I k9 zm)<|zl I I (zp 0 I I I k9 zm)<|zz I I<|zl I I (zL I)<|zl I I (zg (n:=1) I k9)<|zl I I (zp 1 I I I k9 zm)<|zz I I<|zz I I<|zl I I (zL I)<|zl I I (zg (n:=0) I k9)<|zl I I (zp 1 I I I k9 zm)<|zl I I (zT (e:=61) I k9)<|jo I (Yu (WL a.bs o9 (fun b hb=>by rw [ho.vb.bl hb];omega)) I ⟨zc _,t9⟩ I) ?_ ?_)
  ·rintro _ _ ⟨t,rfl,rfl⟩;refine ZB I (qW [1] (VV a ho) (fun _=>inferInstance) (fun _ b hb=>by simp at hb;subst hb;infer_instance) I ⟨(Yp 1 I d9 ⟨(zP<|zc _),(zP<|zc _),(zP<|zc _),(zP<|zc _),(zP<|zc _),(zP<|zc _),(zP<|zc _),t9⟩),t9⟩ I) ?_ ?_
   ·rintro _ ⟨s,rfl⟩;refine ZB I (Zu (e:=3) (n:=a.cat.length) z7 0 8 I I k9 k9 I I I I o9 d9 I) ?_ yB;rintro _ ⟨g37,rfl⟩;refine zl I I (yF I I bldRo) (ZB I (ym I I) ?_ yB);rintro _ ⟨g39,rfl⟩;exact yR I I (y9<|Zw ⟨t,s,g37,g39,I⟩<|sB [1,0,2,7,3,4,5,6] I I)
   refine ZB I (Zu (e:=3) (n:=a.cat.length) z7 0 8 I I k9 k9 I I I I o9 d9 I) ?_ yB;rintro _ ⟨g37,rfl⟩;refine ZB I (qW [1] (VV a ho) (fun _=>inferInstance) (fun _ b hb=>by simp at hb;subst hb;infer_instance) I ⟨(Yp 1 I d9 ⟨(zP<|zc _),(zP<|zc _),(zP<|zc _),(zP<|zc _),(zP<|zc _),(zP<|zc _),(zP<|zc _),t9⟩),t9⟩ I) ?_ yB;rintro _ ⟨s,rfl⟩;refine zl I I (yF I I bldRo) (ZB I (ym I I) ?_ yB);rintro _ ⟨g39,rfl⟩;exact yR I I (y9<|Zw ⟨t,s,g37,g39,I⟩<|sB [1,0,2,7,3,4,6,5] I I)
  refine ZB I (Zu (e:=3) (n:=a.cat.length) z7 0 8 I I k9 k9 I I I I o9 d9 I) ?_ yB;rintro _ ⟨g37,rfl⟩;refine jo I (Yu (WL a.bs o9 (fun b hb=>by rw [ho.vb.bl hb];omega)) I ⟨zc _,t9⟩ I) ?_ yB;rintro _ _ ⟨t,rfl,rfl⟩;refine ZB I (qW [1] (VV a ho) (fun _=>inferInstance) (fun _ b hb=>by simp at hb;subst hb;infer_instance) I ⟨(Yp 1 I d9 ⟨(zP<|zc _),(zP<|zc _),(zP<|zc _),(zP<|zc _),(zP<|zc _),(zP<|zc _),(zP<|zc _),t9⟩),t9⟩ I) ?_ yB;rintro _ ⟨s,rfl⟩;refine zl I I (yF I I bldRo) (ZB I (ym I I) ?_ yB);rintro _ ⟨g39,rfl⟩;exact yR I I (y9<|Zw ⟨t,s,g37,g39,I⟩<|sB [1,0,2,7,4,5,6,3] I I)
 ·rintro _ ⟨t,s,g37,g39,rfl⟩;refine zj (zh<|zn<|za I (zp 1 I I I k9 zm)<|za I (zT (e:=105) I k9)<|zd I<|ze<|SW.block<|Y5 3 1 z7<|Y5 3 1 z7<|yd (ι:={p:Nat × Wst × Wst // p.1≤is.length}) (fun p=>yb [(0,pA ga),(3,pA g3),(6,pA g6),(8,pA g39),(40,lsD ZA is),(41,iD (is.length:Int)),(42,iD (p.1.1:Int))] [.c ga [lsD yA a.cat,lsD yK a.bs,iD a.ac,iD a.st,bD a.key,iD (a.rd:Int),lsD z7 a.pr],.c g3 [lsD ZA is],.c g6 [lsD zca ts],.c g39 [lsD yA a.cat,lsD ZA is,isD<|.slice p.1.2.1.A (KU p.1.1).length p.1.2.1.c,isD<|.slice t.1.A (Zb a.bs t.1.ss).length t.1.c,isD<|.slice s.A (zB (fun k=>Tp.tot k a.bs) a.cat.length).length s.c,isD<|.slice p.1.2.2.A ((is.take p.1.1).map Tp.Bi.ch).length p.1.2.2.c,isD<|.slice (⟨some ⟨g37,0,none⟩,a.cat.length,[g37]⟩:Wst).A ((List.replicate a.cat.length (0:Int))).length (⟨some ⟨g37,0,none⟩,a.cat.length,[g37]⟩:Wst).c],.r t.1.F<|yi 59 4 Yr t.1.A t.1.c<|Zb a.bs t.1.ss,.r t.1.G<|Kf<|Tp.rows a.bs t.1.ss,.r s.F<|yi 3 1 z7 s.A s.c<|zB (fun k=>Tp.tot k a.bs) a.cat.length,.r p.1.2.2.F<|yi 3 1 z7 p.1.2.2.A p.1.2.2.c<|(is.take p.1.1).map Tp.Bi.ch,.r [g37]<|yi 3 1 z7 (some ⟨g37,0,none⟩) a.cat.length<|List.replicate a.cat.length 0,.r p.1.2.1.F<|yi 3 1 z7 p.1.2.1.A p.1.2.1.c<|KU p.1.1]) (fun p=>is.length - p.1.1) (⟨(0,⟨none,0,[]⟩,⟨none,0,[]⟩),JC _⟩) ?_ ?_)
  ·exact ⟨⟨_,I,(sT I)⟩,[0,1,2,3,4,5,6,8,7,9],by decide,⟨la rfl,⟨la rfl,⟨la rfl,⟨⟨_,rfl,⟨zc _,zc _,zI (by rfl),zc _,zc _,zI s9,zI s9,trivial⟩⟩,⟨lR rfl,⟨lR rfl,⟨lR rfl,⟨⟨_,rfl,YL s9 s9⟩,⟨lR rfl,⟨⟨_,rfl,(zM _)⟩,trivial⟩⟩⟩⟩⟩⟩⟩⟩⟩⟩⟩
  ·rintro ⟨⟨i,o,r⟩,hi⟩ K0 hK0;dsimp only at hi ⊢;refine zn (za I (yc I I)<|ze<|zh<|zC I (fun hb43=> ?_) (fun hb43=> ?_))
   ·have h43:(i:Int) < (is.length:Int):=oT hb43;refine zq (zj<|zh<|SW.block<|zh ?_);obtain ⟨x,hx⟩:∃ x,is[i]? =some x:=⟨_,Je o9⟩
    refine zi (zd I<|za I (zU (e:=105) 7 I I k9 k9 o9 (by simpa using hx))<|za I (yn 7 I k9 d9 (show 7≤7 by decide) s9) (SWl.e2 (S:=[]) (Ef.alloc (zs:=[.int .i64 0,.int .i64 0,.int .i64 0,.bool false,.slice none 0 0,.bool false,.slice none 0 0]) k9 I) fun g10=>(zf I<|zu (S:=[_]) (zA 10 I I I k9 I<|m9 I)<|zN<|zd I<|zd I<|za I (zL I)<|za I (zg (n:=2) I k9)<|za I (zp 3 I I I k9 zm)<|zd I<|zu (S:=[]) (YB I I WP I) (SWl.e4 (YW 9 1 8 I I (Y4 (l:=[_]) I) k9 k9 (by rw [qS,Xq];omega) d9 (fun _ h=>h) I) fun A54 F54 c54=>(za I (zL I)<|za I (zg (n:=2) I k9)<|zu (S:=[_]) (yW 3 I I I k9 I<|m9 I)<|ze<|yl (r.F ++ (g39 :: [])) (rr [0,1,2,3]<|.q 4<|.r 5<|.r 6<|.n 7 (.e 8 (.r 9<|.r 10<|.e 11 .fin .no) .no) .no) k9 k9 (fun d _ _ _ _ h=>by cases d <;> exact h)<|zz I I<|zz I I<|zl I I (zL I)<|zl I I (zg (n:=5) I k9)<|ZX I I (zp 3 I I I k9 zm)<|zl I I (zg (n:=2) I k9)<|zl I I (zp 9 I I I k9<|Zl 7 I d9<|ZR 3 I d9 zm)<|yZ I (YB I I WP I)<|jI I (YW 7 1 8 I I (Y4 (l:=[_]) I) k9 k9 (by rw [JO,JE,Xq];omega) d9 (fun _ h=>mL _ h) I) ?_ yB)))))
    rintro _ ⟨A65,F65,c65,rfl⟩;exact zl I I (zL I) (zl I I (zg (n:=5) I k9)<|Zm I (yW 3 I I I k9 I<|mR _ mC)<|y9<|SN.block<|zj<|zi<|za I (Rd.add I I ⟨by omega,by omega⟩)<|zd I<|zF (fun aK wK hh=>hK0 (⟨(i + 1,⟨A54,c54,F54⟩,⟨A65,c65,F65⟩),by dsimp only;omega⟩) (by dsimp only;omega) aK wK<|hh.sub<|⟨⟨_,I,⟨lq I,⟨lq I,⟨lq I,⟨lq I,⟨lq I,⟨lq I,⟨⟨_,I,zI s9⟩,t9⟩⟩⟩⟩⟩⟩⟩⟩,[0,1,2,3,4,5,6,10,7,9],by decide,⟨la rfl,⟨la rfl,⟨la rfl,⟨⟨_,rfl,⟨zc _,zc _,zI (by dsimp only;rw [W0]),zc _,zc _,zI (by dsimp only;rw [Vw hx]),zc _,trivial⟩⟩,⟨lR rfl,⟨lR rfl,⟨lR rfl,⟨⟨_,rfl,(by dsimp only;rw [Vw hx];exact zM _)⟩,⟨lR rfl,⟨⟨_,rfl,(by dsimp only;rw [W0];exact zM _)⟩,trivial⟩⟩⟩⟩⟩⟩⟩⟩⟩⟩⟩))
   ·have h43:¬(i:Int) < (is.length:Int):=oF hb43;refine zQ ?_
    repeat (first | refine zX ?_ | refine zY d9 ?_)
    refine zZ (zj<|zh<|SW.freezeP 1 3 I I<|SW.freezeP 1 6 I I<|zi<|zd I<|za I (zL I)<|za I (zg (n:=2) I k9)<|za I (zp 1 I I I k9 zm)<|za I (VH I)<|Zc (yh [7] (zdb o.F o.A o.c (KU i) (is.length:Int) (by rw [qS];omega) (by rw [show i=is.length by omega];exact Tp.odL_in) (by rw [qS];omega)) I ⟨zc _,le_cm_fn fun u v hu hu2 hv hv2=>zfl is ts hpt hts htb u v hu hu2 hv hv2,t9⟩ d9 ⟨lR I,t9⟩ (fun _ h=>h) I) ?_);rintro _ ⟨⟨ys,hyl,hym⟩,rfl⟩;refine ze (zh<|SW.sub (σ':=yb [(0,_),(8,_)] [.c ga [lsD yA a.cat,lsD yK a.bs,iD a.ac,iD a.st,bD a.key,iD (a.rd:Int),lsD z7 a.pr],.c g39 [lsD yA a.cat,lsD ZA is,isD<|.slice o.A (ys).length o.c,isD<|.slice t.1.A (Zb a.bs t.1.ss).length t.1.c,isD<|.slice s.A (zB (fun k=>Tp.tot k a.bs) a.cat.length).length s.c,isD<|.slice r.A ((is.take i).map Tp.Bi.ch).length r.c,isD<|.slice (⟨some ⟨g37,0,none⟩,a.cat.length,[g37]⟩:Wst).A ((List.replicate a.cat.length (0:Int))).length (⟨some ⟨g37,0,none⟩,a.cat.length,[g37]⟩:Wst).c],.r t.1.F<|yi 59 4 Yr t.1.A t.1.c<|Zb a.bs t.1.ss,.r t.1.G<|Kf<|Tp.rows a.bs t.1.ss,.r s.F<|yi 3 1 z7 s.A s.c<|zB (fun k=>Tp.tot k a.bs) a.cat.length,.r r.F<|yi 3 1 z7 r.A r.c<|(is.take i).map Tp.Bi.ch,.r [g37]<|yi 3 1 z7 (some ⟨g37,0,none⟩) a.cat.length<|List.replicate a.cat.length 0,.r o.F<|yi 3 1 z7 o.A o.c<|ys]) (⟨⟨_,I,(sT I)⟩,[0,1,2,3,4,5,6,7],by decide,⟨la rfl,⟨⟨_,rfl,⟨zc _,zc _,zI (by rw [hyl]),zc _,zc _,zc _,zc _,trivial⟩⟩,(sX rfl)⟩⟩⟩)<|SW.freezeC 1 2 7 I I I<|zi<|zd I<|zf I<|zf I<|ze<|zV (fn:=Tryz.f39) (⟨⟨g39,ys,t.1,s,r,⟨some ⟨g37,0,none⟩,a.cat.length,[g37]⟩⟩,t.2,hym,by rw [hyl,qS];show i=is.length;omega⟩) [0,1,2,3,4,5,6] (fun _ _ h=>h) (Rs.le (Rs.two I (zk I)<|zk I) ?_) d9 ⟨la I,⟨⟨_,I,(by exact ⟨zc _,zc _,zc _,zc _,zc _,zI (by rw [show i=is.length by omega,List.take_length]),zc _,trivial⟩)⟩,⟨lR I,⟨lR I,⟨lR I,⟨⟨_,I,YL (by rw [show i=is.length by omega,List.take_length]) (by rw [show i=is.length by omega,List.take_length])⟩,⟨lR I,t9⟩⟩⟩⟩⟩⟩⟩)
    exact zc _
end
section
structure Tp.Pk (l:List Tp.Pr) (x:Tp.Bd) (p:Tp.Pr) (k:Nat) (n d:Int):Prop where
 ab:(0≤d∧d≤n)∨(n≤d∧d≤0)
 lo:0≤Tp.blA x.bl k + d
 hi:Tp.blA x.bl k + d≤p.su
 un:YO l x.bl + d * p.un≤x.el
theorem zfw {l:List Tp.Pr} {b:Tp.Bd} {p:Tp.Pr} {k:Nat} (hu:1≤p.un) (h1:YO l b.bl≤b.el) (h2:Tp.blA b.bl k≤p.su):0≤jk l b p k:=by
 unfold jk;have h3:0≤(b.el - YO l b.bl) / p.un:=Int.ediv_nonneg o9 o9;omega
theorem Tp.Pk.pos {l:List Tp.Pr} {x:Tp.Bd} {p:Tp.Pr} {k:Nat} {n:Int} (hu:1≤p.un) (h1:YO l x.bl≤x.el) (h0:0≤Tp.blA x.bl k) (h2:Tp.blA x.bl k≤p.su) (hn:0 < n):Tp.Pk l x p k n (min n<|jk l x p k):=by
 have hr:=zfw (k:=k) hu h1 h2;obtain ⟨h3,h4⟩:=zfx (l:=l) (b:=x) (k:=k) hu;exact ⟨.inl o9,by omega,by omega,h4 _<|Int.min_le_right _ _⟩
theorem Tp.Pk.neg {l:List Tp.Pr} {x:Tp.Bd} {p:Tp.Pr} {k:Nat} {n e:Int} (hu:1≤p.un) (h1:YO l x.bl≤x.el) (h0:0≤Tp.blA x.bl k) (h2:Tp.blA x.bl k≤p.su) (hn:n < 0):Tp.Pk l x p k n (-max (min (min (-n)<|Tp.blA x.bl k) e) 0):=by
 have h3: -max (min (min (-n)<|Tp.blA x.bl k) e) 0≤0:=by omega
 have h4: -max (min (min (-n)<|Tp.blA x.bl k) e) 0 * p.un≤0:=Int.mul_nonpos_of_nonpos_of_nonneg h3 o9;exact ⟨.inr o9,by omega,by omega,by omega⟩
theorem Tp.Pk.zero {l:List Tp.Pr} {x:Tp.Bd} {p:Tp.Pr} {k:Nat} (h1:YO l x.bl≤x.el) (h0:0≤Tp.blA x.bl k) (h2:Tp.blA x.bl k≤p.su):Tp.Pk l x p k 0 0:=⟨.inl o9,by omega,by omega,by omega⟩
theorem zab {l:List Tp.Pr} {bs:List Tp.Bd} (h:Tp.VB l bs):∀ i≤bs.length,-1≤Yc bs i
 | 0,_=>Int.le_refl _
 | i + 1,hi=>by
  obtain ⟨b,hb⟩:∃ b,bs[i]? =some b:=⟨_,Je o9⟩;rw [qc hb];have:=(h.ok i b hb).i0;have:=zab h i o9;omega
theorem Tp.VB.at {l:List Tp.Pr} {bs:List Tp.Bd} (h:Tp.VB l bs) {i:Nat} {b:Tp.Bd} (hb:bs[i]? =some b):Tp.OkB l (-1) b:=by
 have h1:=h.ok i b hb;have h2:=zab h i (by have:=(Jg.1 hb).1;omega);exact ⟨by have:=h1.i0;omega,h1.i1,h1.e0,h1.e1,h1.w0,h1.w1,h1.fi,h1.un⟩
theorem zdL {b:Tp.Bd} {s:Wst}:Tp.row b s=yi 3 1 z7 s.A s.c b.bl:=rfl
section
variable {P:Program}{Γ:Cx}{σ:St}{S:List Nat}{dst:Option Tmp}{ty:TypeId}{pos:String}{af:Array Edge}{gd:Option (Nat × Bool)}
theorem Rd.min3 {x y z:Operand} {ts:Array TypeId} {p q r:Int} (hx:σ.ev x=some (iD p)) (hy:σ.ev y=some (iD q)) (hz:σ.ev z=some (iD r)):Rd P Γ S ⟨dst,.call { callee:= .builtin .min,args:= #[x,y,z],argTypes:=ts },ty,pos,af,gd⟩ σ (iD<|min (min p q) r):=by
 intro a w hh;have h1:a.eval x= .int .i64 p:=zR hh hx;have h2:a.eval y= .int .i64 q:=zR hh hy;have h3:a.eval z= .int .i64 r:=zR hh hz;refine ⟨_,I,fun w' _=> ?_⟩
 have e:min (min p q) r=if r < (if q < p then q else p) then r else (if q < p then q else p):=by (repeat' split) <;> omega
 rw [e]
 by_cases h4:q < p
 ·simp [execOp,resolve,invoke,builtin,h1,h2,h3,Builtin.min_,Builtin.min2,h4]
 ·simp [execOp,resolve,invoke,builtin,h1,h2,h3,Builtin.min_,Builtin.min2,h4]
end
theorem con_part (gr:Nat) (l:List Tp.Pr) (bs:List Tp.Bd) (b:Tp.Bst) (is:List Tp.Bi) (od rs ms:List Int) (t r m:Wst) (hl:l.length≤1000) (hv:Tp.VB l bs) (hss:b.ss.length=bs.length) (hi0:is.length≤19) (hrs:rs.length=is.length) (i hk k:Nat) (y:Tp.Bi) (x:Tp.Bd) (s:Wst) (p:Tp.Pr) (n:Int) (hy:is[i]? =some y) (hx:bs[hk]? =some x) (hs:b.ss[hk]? =some s) (hp:l[k]? =some p) (hyk:y.at_=(k:Int)) (hn:rs[i]? =some n) (hn1: -1000≤n) (hn2:n≤1000):ConR Tryz.prog 86 [.c gr [lsD yA l,lsD ZA is,lsD z7 od,isD<|.slice b.A (Zb bs b.ss).length b.c,isD<|.slice t.A (zB (fun k=>Tp.tot k bs) l.length).length t.c,isD<|.slice r.A (rs).length r.c,isD<|.slice m.A (ms).length m.c],.r b.F<|yi 59 4 Yr b.A b.c<|Zb bs b.ss,.r b.G<|Kf<|Tp.rows bs b.ss,.r t.F<|yi 3 1 z7 t.A t.c<|zB (fun k=>Tp.tot k bs) l.length,.r r.F<|yi 3 1 z7 r.A r.c<|rs,.r m.F<|yi 3 1 z7 m.A m.c<|ms] [pA gr,iD (i:Int),iD (hk:Int)] (fun d:{d:Int × LN // Tp.Pk l x p k n d.1}=>[.c gr [lsD yA l,lsD ZA is,lsD z7 od,isD<|.slice b.A (Zb bs b.ss).length b.c,isD<|.slice t.A (zB (fun k=>Tp.tot k bs) l.length).length t.c,isD<|.slice r.A (rs).length r.c,isD<|.slice m.A (ms).length m.c],.r b.F<|yi 59 4 Yr b.A b.c<|Zb bs b.ss,.r d.1.2<|Kf<|Tp.rows bs b.ss,.r t.F<|yi 3 1 z7 t.A t.c<|zB (fun k=>Tp.tot k bs) l.length,.r r.F<|yi 3 1 z7 r.A r.c<|rs,.r m.F<|yi 3 1 z7 m.A m.c<|ms]) (fun d:{d:Int × LN // Tp.Pk l x p k n d.1}=>iD d.1.1):=by
 have hn32:=hv.n;have hil:=(Jg.1 hy).1;have hkb:=(Jg.1 hx).1;have hkl:=(Jg.1 hp).1;have hbx:=hv.at hx;have hpo:=(hv.p k p hp).ok;have hp1:=hpo.2.2.1;have hp2:=hpo.2.2.2.1;have hxl:=hbx.fi.len;obtain ⟨v,hvb⟩:∃ v,x.bl[k]? =some v:=⟨_,Je o9⟩;have hvp:=hbx.fi.ok k p v hp hvb;have hva:=Ym hvb;have htk:=hv.tot k bs.length;rw [List.take_length] at htk;have hun:=hbx.un;refine yt Tryz.func86 k9 I k9 fun base w0=>(zh<|ZU (Wq<|ZT hx hs) [2] d9 ⟨lR I,t9⟩ ?_);rintro _ ⟨G1,G2,rfl⟩
 refine zi (zf I<|ze<|zh<|yl [] (rr [0,1,2,3,4,5,6,7,8,9,10,11,12,13]<|.n 14 (.e 15 (.r 16 .fin) .no) .no) k9 k9 (fun d _ _ _ _ h=>by cases d <;> exact h)<|zz I I<|zl I I (zL I)<|zl I I (zg (n:=3) I k9)<|zl I I (zp 0 I I I k9 zm)<|zz I I<|zl I I (yf 1 4 I I I k9 k9 o9 (by rw [yP,J7];omega))<|zl I I (VY 1 4 I I k9 (show (Zb bs b.ss)[((hk:Nat):Int).toNat]? =some (x,some s) from by rw [J7,Ye hx,hs]) zm)<|zz I I<|zl I I (zL I)<|zl I I (zg (n:=5) I k9)<|zl I I (zp 0 I I I k9 zm)<|zz I I<|zl I I (yf 3 1 I I I k9 k9 o9 (by rw [J7];omega))<|zl I I (yr 3 I I k9 (by rw [J7];exact hn) I zm)<|zbE I (EfB.alloc (zs:=[.int .i64 0,.int .i64 0,.int .i64 0,.slice none 0 0]) k9 I) ?_ yB)
 rintro g7 _ rfl;refine Zm I (zA 7 I I I k9 I<|mR _ mC) (yR I I<|yE<|zn<|zd I<|za I (zL I)<|za I (zg (n:=1) I k9)<|za I (zp 0 I I I k9 zm)<|zd I<|za I (zU (e:=105) 7 I I k9 k9 o9 (by simpa using hy))<|za I (yo (n:=1) I k9 (show 1 < 7 by decide))<|za I (zS I I k9 s9)<|zf I<|ze<|zh<|SW.block<|zn<|zd I<|za I (yV I I)<|zf I<|ze<|zC I (fun hb34=> ?_) (fun hb34=> ?_))
 ·have h36:0 < n:=oT hb34
  refine zh (yl (G1 ++ []) (rr [0,1,2,3,4,5,6]<|.e 7 (rr [8,9,10,11,12] .fin) .no) k9 k9 (fun d _ _ _ _ h=>by cases d <;> exact h)<|zz I I<|zl I I (zL I)<|zl I I (zg (n:=0) I k9)<|zl I I (zp 0 I I I k9<|Zl 5 I d9 zm)<|zl I I (zx 7 4 I I k9 I<|Zl 5 I d9 zm)<|zz I I<|zz I I<|jI I (yh [5] (con_limit l x G1 s.A s.c o9 hv.p hbx k p hp n h36) I ⟨zc _,zc _,zI (by rw [hyk]),zc _,t9⟩ d9 ⟨lR I,t9⟩ (fun _ h=>h) I) ?_ yB)
  rintro _ ⟨⟨⟩,rfl⟩;refine zz I I (zl I I (zo I I)<|zl I I (zo I I)<|yR I I<|yR I I<|yE<|zn<|zd I<|zf I<|ze<|ZU (qQ (by rw [qn hss];omega)) [7,5] d9 (sX I) ?_);rintro _ ⟨G3,rfl⟩
  refine zV (fn:=Tryz.f86) (⟨(min n<|jk l x p k,G3),Tp.Pk.pos hp2.1 hun o9 o9 h36⟩) [0,1,6,2,3,4] (fun _ _ h=>h) (Rs.le (zG I<|zk I) ?_) d9 ⟨la I,⟨lR I,⟨⟨_,I,(by first | (rw [YY<|ZT hx hs];exact zM _) | (rw [← zdL,YY<|ZT hx hs];exact zM _))⟩,(sX I)⟩⟩⟩
  exact zc _
 ·have h36:¬0 < n:=oF hb34;refine zn (zd I<|za I (yc I I)<|zf I<|ze<|zC I (fun hb49=> ?_) (fun hb49=> ?_))
  ·have h49:n < 0:=oT hb49
   refine zh (yl [] (rr [0,1,2,3,4,5,6,7,8,9,10,11,12,13,14,15,16,17,18,19,20,21,22,23,24,25,26] .fin) k9 k9 (fun d _ _ _ _ h=>by cases d <;> exact h)<|zz I I<|zl I I (zet I ⟨by omega,by omega⟩)<|zl I I (zg (n:=3) I k9)<|zl I I (zp 7 I I I k9 zm)<|zz I I<|zl I I (yf 5 1 I I I k9 k9 o9 (by rw [hyk,J7];show k < x.bl.length;omega))<|zl I I (yr 5 I I k9 (show x.bl[y.at_.toNat]? =some v from by rw [hyk,J7];exact hvb) I zm)<|zz I I<|zl I I (zL I)<|zl I I (zg (n:=4) I k9)<|zl I I (zp 0 I I I k9 zm)<|zz I I<|zl I I (yf 2 1 I I I k9 k9 o9 (by rw [zW,hyk,J7];omega))<|zl I I (yr 2 I I k9 (show (zB (fun k=>Tp.tot k bs) l.length)[y.at_.toNat]? =some (Tp.tot k bs) from by rw [hyk,J7];exact yU hkl) I zm)<|zz I I<|zl I I (zL I)<|zl I I (zg (n:=0) I k9)<|zl I I (zp 0 I I I k9 zm)<|zz I I<|zl I I (zU (e:=61) 5 I I k9 k9 o9 (by rw [hyk,J7];exact hp))<|zl I I (yo (n:=2) I k9 (show 2 < 5 by decide))<|zl I I (zS I I k9 s9)<|zl I I (yG I I ⟨by omega,by omega⟩)<|zl I I (Rd.min3 I I I)<|zl I I (zaf I I)<|zl I I (zet I ⟨by omega,by omega⟩)<|yR I I<|yE<|ZU (qQ (by rw [qn hss];omega)) [5,6] d9 (sX I) ?_)
   rintro _ ⟨G3,rfl⟩
   refine zV (fn:=Tryz.f86) (⟨(-max (min (min (-n) v)<|Tp.tot k bs - p.su) 0,G3),by have:=Tp.Pk.neg (n:=n) (e:=Tp.tot k bs - p.su) hp2.1 hun (by omega:0≤Tp.blA x.bl k) o9 h49;rw [hva] at this;exact this⟩) [0,1,6,2,3,4] (fun _ _ h=>h) (Rs.le (zG I<|zk I) ?_) d9 ⟨la I,⟨lR I,⟨⟨_,I,(by first | (rw [YY<|ZT hx hs];exact zM _) | (rw [← zdL,YY<|ZT hx hs];exact zM _))⟩,(sX I)⟩⟩⟩
   exact zc _
  ·have h49:¬n < 0:=oF hb49;refine zq (SN.block<|zj<|zn<|zf I<|ze<|ZU (qQ (by rw [qn hss];omega)) [5,6] d9 (sX I) ?_);rintro _ ⟨G3,rfl⟩
   refine zV (fn:=Tryz.f86) (⟨(0,G3),by obtain rfl:n=0:=o9;exact Tp.Pk.zero hun o9 o9⟩) [0,1,6,2,3,4] (fun _ _ h=>h) (Rs.le (zG I<|zk I) ?_) d9 ⟨la I,⟨lR I,⟨⟨_,I,(by first | (rw [YY<|ZT hx hs];exact zM _) | (rw [← zdL,YY<|ZT hx hs];exact zM _))⟩,(sX I)⟩⟩⟩
   exact zc _
