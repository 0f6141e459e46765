/- THE WALK of the reference's Hash: it computes Bl.hash. THE WALK of blake.Keyed. The hash of bytes with a key as a contract. ACCOUNTS: tags. append(b,  -/
import Derived.Test.YtgokpcnabgacnaaGreatDoorGZAC
import Derived.Test.YtgokpcnabgacnaaGreatDoorGZAM
import Derived.Test.YtgokpcnabgacnaaGreatDoorGZAL
import Derived.Test.YtgokpcnabgacnaaGreatDoorGZAG
import Derived.Lib.AppendStr
import Derived.Test.YtgokpcnabgacnaaGreatDoorGZAE
set_option maxHeartbeats 8000000
set_option maxRecDepth 100000
namespace Go.Proofs.YtgokpcnabgacnaaGreatDoor
open Go.RowKit
namespace Bl
def stR (n:Nat) (M:LB) (i:Nat):LN:=
 if i≤(M.length - 1) / 64 then stq n M i else comp (stq n M ((M.length - 1) / 64)) (M.drop (64 * ((M.length - 1) / 64))) M.length true
theorem stR_words {n:Nat} {M:LB} (h:n≤32) (i:Nat):Words 8 (stR n M i):=by
 unfold stR
 split
 ·exact stq_words h i
 ·exact comp_words (stq_words h _)
theorem stR_zero (n:Nat) (M:LB):stR n M 0=st0 n:=by simp [stR,stq]
theorem padded_get {M:LB} {p i j:Nat} (_hj:j < 64) (_hi:64 * i + 64≤M.length + p):(((M ++ List.replicate p 0).drop (64 * i)).take 64).getD j 0=(M.drop (64 * i)).getD j 0:=by
 simp only [List.getD_eq_getElem?_getD,List.getElem?_take,List.getElem?_drop,List.getElem?_append,List.getElem?_replicate];rw [if_pos _hj]
 by_cases h:64 * i + j < M.length
 ·rw [if_pos h]
 ·rw [if_neg h,if_pos o9,List.getElem?_eq_none o9];rfl
theorem stR_next {n:Nat} {M:LB} {p i:Nat} (hi:i≤(M.length - 1) / 64) (hp:M.length + p=64 * ((M.length - 1) / 64) + 64):
  stR n M (i + 1)=comp (stR n M i) (((M ++ List.replicate p 0).drop (64 * i)).take 64) (if M.length < 64 * i + 64 then M.length else 64 * i + 64) (decide (64 * i + 64=M.length + p)):=by
 have e:comp (stR n M i) (((M ++ List.replicate p 0).drop (64 * i)).take 64)=comp (stR n M i) (M.drop (64 * i)):=by
  funext t l
  exact comp_congr (fun j hj=>padded_get hj o9) _ _ _
 rw [e]
 by_cases h:i=(M.length - 1) / 64
 ·subst h;rw [decide_eq_true o9];unfold stR;rw [if_neg o9,if_pos (Nat.le_refl _)];congr 1
  split <;> omega
 ·rw [decide_eq_false o9,if_neg o9];unfold stR;rw [if_pos o9,if_pos o9]
  rfl
theorem hashM_stR (n:Nat) (M:LB):leb (stR n M ((M.length - 1) / 64 + 1))=hashM n M:=by
 unfold stR hashM;rw [if_neg o9]
theorem leb_next (ws:LN) (k:Nat) (hk:k < 8):(leb ws).take (4 * k) ++ [UInt8.ofNat (ws.getD k 0),UInt8.ofNat (ws.getD k 0 / 256),UInt8.ofNat (ws.getD k 0 / 65536),UInt8.ofNat (ws.getD k 0 / 16777216)]=(leb ws).take (4 * (k + 1)):=by
 rw [show 4 * (k + 1)=4 * k + 4 by omega,List.take_add];congr 1;unfold leb;rw [← List.map_drop,← List.map_take]
 rcases (show k=0∨k=1∨k=2∨k=3∨k=4∨k=5∨k=6∨k=7 by omega) with rfl | rfl | rfl | rfl | rfl | rfl | rfl | rfl <;> simp [List.range,List.range.loop]
end Bl
theorem four_cells (x:Nat) (h:x < 4294967296): #[Value.int .u8 ((x:Int) % 256),.int .u8 ((x:Int) / 256 % 256),.int .u8 ((x:Int) / 65536 % 256),.int .u8 ((x:Int) / 16777216)]=(cellsOf [UInt8.ofNat x,UInt8.ofNat (x / 256),UInt8.ofNat (x / 65536),UInt8.ofNat (x / 16777216)]).toArray:=by
 have e:x / 16777216 % 256=x / 16777216:=Nat.mod_eq_of_lt o9;simp only [cellsOf,List.map_cons,List.map_nil,B8,UInt8.toNat_ofNat',Nat.reducePow,e]
 rfl
theorem compress_at (w:World) (A B:Option Addr) (ca cb nb:Nat) (ti:Int) (lb:Bool) (st:LN) (bs:LB) (t:Nat) (last:Bool) (hnb:nb=64) (hti:ti=(t:Int)) (hl:lb=last) (hst:Bl.Words 8 st) (hbs:bs.length=64) (hA:RV w A (zU st)) (hB:RV w B (cellsOf bs)) (hca:8≤ca) (hcb:64≤cb) (ht:t < 4611686018427387904):
  Calls Tryz.prog 205 #[.slice A 8 ca,.slice B nb cb,.int .i64 ti,.bool lb] w fun e w'=>∃ A' c' G,e= .returned (.slice A' 8 c')∧OwnS w' 275 A' c' (zU (Bl.comp st bs t last)) G∧New w G∧Only [] w w':=by
 subst hnb hti hl;exact compress_ref w A B ca cb st bs t lb hst hbs hA hB hca hcb ht
theorem hash_ref (w:World) (A B:Option Addr) (ca cb:Nat) (key b:LB) (hk:key.length≤32) (hA:RV w A (cellsOf key)) (hB:RV w B (cellsOf b)) (_hca:key.length≤ca) (_hcb:b.length≤cb) (hbl:b.length≤1099511627):
    Calls Tryz.prog 175 #[.slice A key.length ca,.slice B b.length cb] w fun e w'=>∃ A' c' G,e= .returned (.slice A' 32 c')∧OwnS w' 5 A' c' (cellsOf (Bl.hash key b)) G∧New w G∧Only [] w w':=by
  go_enter Tryz.func175,Tryz.ntmps175
  go_upto_if 14 with (fail)
  go_cut [5] (fun m wx=>∃ (Am:Option Addr) (cm:Nat) (G:Option Nat),m= .slice Am (Bl.kblock key).length cm∧OwnS wx 5 Am cm (cellsOf (Bl.kblock key)) G∧New w G∧Only [] w wx)
  case first=>
    by_cases h0:0 < key.length
    · have h0I:(0:Int) < (key.length:Int):=by omega
      go_wp2_with (at_builtin;refine Yf rfl (.tmp 15) (.tmp 16) rfl none 0 0 [] none rfl rfl (OwnS.none _ _) A key.length ca key rfl rfl hA (by simp;omega) ?_;intro A1 c1 w1 G1 hown1 hO1 hG1)
      rw [List.nil_append] at hown1
      have hG1':New w G1:=(New.none w).next (Nat.le_refl _) hG1
      have hO1':Only [] w w1:=hO1
      clear hO1 hG1
      go_loopw [5] (fun m wr=>∃ (k:Nat) (Am:Option Addr) (cm:Nat) (G:Option Nat),key.length + k≤64∧m= .slice Am (key.length + k) cm∧OwnS wr 5 Am cm (cellsOf (key ++ List.replicate k 0)) G∧New w G∧Only [] w wr) (fun m _=>64 - lenV m)
      case atStart=>exact ⟨0,A1,c1,G1,by omega,by simp,by simpa using hown1,hG1',hO1'⟩
      case round=>
        clear hown1 hG1' hO1'
        obtain ⟨k,Am,cm,G,hkk,rfl,hown,hnew,hO⟩:=hrel
        obtain ⟨n,hn⟩:∃ n,n=key.length + k:=⟨_,rfl⟩
        rw [← hn]
        rw [← hn] at hkk
        have Hn:=Lib.hid hn
        clear hn
        by_cases hlt:n < 64
        · have hltI:(n:Int) < 64:=by omega
          go_wp2_with (at_builtin;refine Yf rfl (.tmp 21) (.tmp 22) rfl Am n cm _ G rfl (by rw [Hn.out];simp) (hown.keep ((Only.refl [] wr).alloc _) s9) (some ⟨wr.heap.size,0,none⟩) 1 1 [0] rfl rfl (RV.one wr _ _) (by have:=Hn.out;simp;omega) ?_;intro A' c' w2 G' hown2 hO2 hG2)
          go_roundw
          case rel=>
            have e:=Hn.out
            refine ⟨k + 1,A',c',G',by omega,by rw [e,Nat.add_assoc],?_,hnew.next (Nat.le_trans hO.size s9) hG2,(hO.alloc _).trans hO2 hnew.out⟩
            rw [List.replicate_succ',← List.append_assoc]
            exact hown2
          case measure=>simp only [lenV];omega
        · obtain rfl:n=64:=by omega
          go_wp2
          go_meet
          have e:key ++ List.replicate k (0:UInt8)=Bl.kblock key:=by
            unfold Bl.kblock
            rw [if_neg o9,show 64 - key.length=k by have:=Hn.out;omega]
          rw [e] at hown
          exact ⟨Am,cm,G,by rw [← e];simp [← Hn.out],hown,hnew,hO⟩
    · have h0I:key.length≤0:=by omega
      go_wp2
      go_meet
      have e:Bl.kblock key=[]:=by unfold Bl.kblock;rw [if_pos o9]
      rw [e]
      exact ⟨none,0,none,V,OwnS.none _ _,New.none _,Only.refl _ _⟩
  case rest=>
    obtain ⟨Am,cm,G,rfl,hown,hnew,hO⟩:=hcut
    have hkb:(Bl.kblock key).length≤64:=by unfold Bl.kblock;split <;> simp;omega
    have hBr:RV wc B (cellsOf b):=hB.keep0 hO
    obtain ⟨nk,hnk⟩:∃ n,n=(Bl.kblock key).length:=⟨_,rfl⟩
    obtain ⟨ny,hny⟩:∃ n,n=key.length:=⟨_,rfl⟩
    obtain ⟨nb,hnb⟩:∃ n,n=b.length:=⟨_,rfl⟩
    rw [← hnk] at hkb
    rw [← hny] at hk
    rw [← hnb] at hbl
    rw [← hnk,← hny,← hnb]
    have Hnk:=Lib.hid hnk
    have Hny:=Lib.hid hny
    have Hnb:=Lib.hid hnb
    clear hnk hny hnb
    obtain ⟨z,Hz⟩:∃ n,Hid (n=1779033703 ^^^ (16842784 + ny * 256)):=⟨_,rfl⟩
    have xz:bits .xor .u32 1779033703 (16842784 + (ny:Int) * 256)=(z:Int):=by
      have:=u32_xor_nat 1779033703 (16842784 + ny * 256) d9 o9
      rw [Hz.out,← this]
      congr 1
    go_wp2_with (first
      | (at_builtin;refine Yf rfl (.tmp 24) (.tmp 25) rfl Am nk cm _ G rfl Hnk.out hown B nb cb b rfl Hnb.out hBr (by rw [← Hnk.out,← Hnb.out];omega) ?_
         intro A1 c1 w1 G1 hown1 hO1 hG1
         have hO1':=hO.trans hO1 hnew.out
         have hnew1:=hnew.next hO.size hG1
         clear hO1 hG1)
      | (go_at_call 204;refine (words_any w1).mono ?_
         rintro e w2 ⟨rfl,hBw,hO2⟩
         have hown2:=hown1.keep hO2 s9
         have c0:w2.cell? ⟨w1.heap.size,0,none⟩=some (.int .u32 1779033703):=hBw.cellv rfl
         have f0:=hBw.frozen 0))
    have hw1:=hown1.lt
    have hBh:Blk (w2.setCell ⟨w1.heap.size,0,none⟩ (.int .u32 (z:Int))) w1.heap.size 275 (zU (Bl.st0 ny)):=by
      have e:Bl.st0 ny=Bl.iv.set 0 z:=by rw [Hz.out];rfl
      rw [e,← Yq]
      exact hBw.set 0 _
    have hO3:Only [w1.heap.size] w2 (w2.setCell ⟨w1.heap.size,0,none⟩ (.int .u32 (z:Int))):=(Only.refl _ _).setCell (p:=⟨w1.heap.size,0,none⟩) (.inl s9) _
    have hown3:=hown2.keep hO3 (fun g hg=>by have:=hw1 g hg;simp;omega)
    have hO3':Only [] w (w2.setCell ⟨w1.heap.size,0,none⟩ (.int .u32 (z:Int))):=(hO1'.trans' hO2).trans hO3 (by have:=hO1'.size;simp;omega)
    have hgh3:∀ g,G1=some g→g≠w1.heap.size:=fun g hg=>by have:=hw1 g hg;omega
    clear xz c0 f0 hBw hown1 hown2 hO1' hO2 hO3 hown hnew hO hw1 hB hA
    revert hBh hown3 hO3'
    generalize World.setCell _ _ _=W3
    intro hBh hown3 hO3'
    revert hBh hgh3
    generalize w1.heap.size=gh
    intro hgh3 hBh
    obtain ⟨M,hM⟩:∃ M,M=Bl.kblock key ++ b:=⟨_,rfl⟩
    rw [← hM] at hown3
    obtain ⟨nM,hnM⟩:∃ n,n=nk + nb:=⟨_,rfl⟩
    have hml:nM=M.length:=by rw [hnM,hM,List.length_append,Hnk.out,Hnb.out]
    rw [← Int.natCast_add,← hnM]
    obtain ⟨q,hq⟩:∃ q,q=(nM - 1) / 64:=⟨_,rfl⟩
    have hq1:nM≤64 * q + 64:=by omega
    have hq2:64 * q < nM∨nM=0∧q=0:=by omega
    have hqb:q≤1099511627:=by omega
    have hMb:nM≤1099511691:=by omega
    have Hq2:=Lib.hid hq2
    have Hq:=Lib.hid hq
    have Hml:=Lib.hid hml
    have HM:=Lib.hid hM
    clear hq2 hq hml hM hnM Hnk Hz hkb
    go_loopw [5] (fun m wr=>∃ (k:Nat) (Am:Option Addr) (cm:Nat) (G:Option Nat),nM + k≤64 * q + 64∧m= .slice Am (nM + k) cm∧OwnS wr 5 Am cm (cellsOf (M ++ List.replicate k 0)) G∧New w G∧(∀ g,G=some g→g≠gh)∧Blk wr gh 275 (zU (Bl.st0 ny))∧Only [] w wr) (fun m _=>64 * q + 64 - lenV m)
    case atStart=>exact ⟨0,A1,c1,G1,by omega,rfl,by simpa using hown3,hnew1,hgh3,hBh,hO3'⟩
    case round=>
      clear hown3 hO3' hBh hgh3 hnew1
      obtain ⟨k,Am,cm,G,hkk,rfl,hown,hnew,hgh,hBh,hO⟩:=hrel
      obtain ⟨n,hn⟩:∃ n,n=nM + k:=⟨_,rfl⟩
      rw [← hn]
      rw [← hn] at hkk
      have hnb:n≤100 * 1099511627:=by omega
      by_cases hlt:n < 64 * q + 64
      · have hc:((n:Int) == 0)=true∨(((n:Int) == 0)=false∧((n:Int) % 64 == 0)=false∧((n:Int) % 64 != 0)=true):=by
          by_cases h0:n=0
          · left;exact beq_iff_eq.2 o9
          · right
            have h1:¬n % 64=0:=by
              intro h64
              rcases Hq2.out with h | ⟨h,h'⟩ <;> omega
            refine ⟨beq_eq_false_iff_ne.2 o9,beq_eq_false_iff_ne.2 o9,?_⟩
            rw [bne_iff_ne];omega
        have Hn:=Lib.hid hn
        clear hn
        rcases hc with hc | ⟨hc,hc2,hc3⟩
        all_goals
          go_wp2_with (at_builtin;refine Yf rfl (.tmp 50) (.tmp 51) rfl Am n cm _ G rfl (by rw [Hn.out,Hml.out];simp) (hown.keep ((Only.refl [] wr).alloc _) s9) (some ⟨wr.heap.size,0,none⟩) 1 1 [0] rfl rfl (RV.one wr _ _) (by have:=Hn.out;have:=Hml.out;simp;omega) ?_;intro A' c' w2 G' hown2 hO2 hG2)
          go_roundw
          case rel=>
            have e:=Hn.out
            have hlt':=hBh.lt
            refine ⟨k + 1,A',c',G',by omega,by rw [e,Nat.add_assoc],?_,hnew.next (Nat.le_trans hO.size s9) hG2,?_,(hBh.alloc _).keep hO2 (fun hm=> ?_),(hO.alloc _).trans hO2 hnew.out⟩
            · rw [List.replicate_succ',← List.append_assoc]
              exact hown2
            · intro g hg
              rcases hG2 with h | h
              · exact hgh g (by rw [← h];exact hg)
              · rw [h] at hg
                injection hg with hg
                simp at hg
                omega
            · cases G with
              | none=>simp at hm
              | some g=>exact hgh g rfl (by simp at hm;exact hm.symm)
          case measure=>simp only [lenV];omega
      · have hkN:nM + k=64 * q + 64:=by omega
        obtain ⟨N,rfl⟩:∃ N,N=n:=⟨_,rfl⟩
        have hNq:N=64 * q + 64:=by omega
        have t0:((N:Int) == 0)=false:=beq_eq_false_iff_ne.2 o9
        have t1:((N:Int) % 64 == 0)=true:=beq_iff_eq.2 o9
        have t2:((N:Int) % 64 != 0)=false:=by rw [bne_eq_false_iff_eq];omega
        have hNl:N=(M ++ List.replicate k (0:UInt8)).length:=by rw [List.length_append,List.length_replicate,← Hml.out];omega
        obtain ⟨gm,mrest,rfl,rfl,hBm⟩:=hown.blk (by rw [zw,← hNl];omega)
        have hcm:N≤cm:=by rw [hNl];simpa using hown.le
        have hcmx:cm≤maxLen:=by
          rcases hown with h | ⟨_,_,_,_,_,_,h⟩
          · cases h.1
          · exact h
        unfold maxLen at hcmx
        have HkN:=Lib.hid hkN
        have HNl:=Lib.hid hNl
        have HNq:=Lib.hid hNq
        have hgm:=hBm.lt
        have hN64:64≤N:=by omega
        have hq64:64 * q≤N:=by omega
        have hnN:nM≤N:=by omega
        have hRh:RV wr (some ⟨gh,0,none⟩) (zU (Bl.stR ny M 0)):=by rw [Bl.stR_zero];exact fun _=>⟨gh,0,rfl,hBh.lt,fun j _=>by rw [Nat.zero_add];exact hBh.cell j⟩
        have hRm:RV wr (some ⟨gm,0,none⟩) (cellsOf (M ++ List.replicate k 0)):=hown.reads
        clear hn hkN hlt hkk hNl hNq hown hgh hBh hnew hBm
        obtain ⟨wp,rfl⟩:∃ wp:World,wp=wr:=⟨_,rfl⟩
        go_wp2
        go_loopw [6,8,9] (fun h a _ wr=>∃ (i x:Nat) (Ah:Option Addr) (ch:Nat),i≤q + 1∧x=64 * i∧a= .int .i64 (x:Int)∧h= .slice Ah 8 ch∧8≤ch∧RV wr Ah (zU (Bl.stR ny M i))∧Only [] wp wr) (fun _ a _ _=>N - (intOf a).toNat)
        case atStart=>exact ⟨0,0,_,8,by omega,rfl,rfl,rfl,by omega,hRh,Only.refl _ _⟩
        case round=>
          clear hRh t0 t1 t2
          obtain ⟨i,x,Ah,ch,hi,hx,rfl,rfl,hch,hRh,hOr⟩:=hrel
          by_cases hlt:i≤q
          · have hNq:=HNq.out
            have hxN:x + 64≤N:=by omega
            have hxI:(x:Int) < (N:Int):=by omega
            have hxc:¬cm=x:=by omega
            have hxcI:(x:Int) + 64≤(cm:Int):=by omega
            have hws:=Bl.stR_words (n:=ny) (M:=M) hk i
            have hRb:RV wr (some ⟨gm,x,none⟩) (cellsOf (((M ++ List.replicate k 0).drop x).take 64)):=by
              have h1:=RV.slice rfl (hRm.keep0 hOr) x 64
              rw [Nat.zero_add] at h1
              simpa [cellsOf,List.map_take,List.map_drop] using h1
            have hbl64:(((M ++ List.replicate k (0:UInt8)).drop x).take 64).length=64:=by rw [List.length_take,List.length_drop,← HNl.out];omega
            have hnext:Bl.stR ny M (i + 1)=Bl.comp (Bl.stR ny M i) (((M ++ List.replicate k 0).drop x).take 64) (if nM < x + 64 then nM else x + 64) (decide (x + 64=N)):=by
              have h1:=Bl.stR_next (n:=ny) (M:=M) (p:=k) (i:=i) (by rw [← Hml.out,← Hq.out];exact hlt) (by rw [← Hml.out,← Hq.out];exact HkN.out)
              rw [h1,← Hml.out,HkN.out,← hNq,hx]
            have Hx:=Lib.hid hx
            have Hnext:=Lib.hid hnext
            have Hbl64:=Lib.hid hbl64
            have hcases:(nM < x + 64∧x + 64=N)∨(x + 64≤nM∧x + 64=N)∨(x + 64≤nM∧x + 64≠N):=by
              by_cases h1:x + 64=N
              · omega
              · have:=Hq2.out
                omega
            clear hx hnext hbl64 hNq
            rcases hcases with ⟨ha,hb⟩ | ⟨ha,hb⟩ | ⟨ha,hb⟩
            · have haI:(nM:Int) < (x:Int) + 64:=by omega
              have hbI:((x:Int) + 64 == (N:Int))=true:=beq_iff_eq.2 o9
              have Hb:=Lib.hid hb
              clear hb
              go_wp2_with (go_at_call 205;refine (compress_at _ Ah _ ch _ _ _ _ _ (((M ++ List.replicate k 0).drop x).take 64) nM true o9 rfl rfl hws Hbl64.out hRh hRb hch o9 o9).mono ?_;rintro e w2 ⟨A',c',G',rfl,hown',hnew',hO'⟩)
              go_roundw
              case rel=>
                refine ⟨i + 1,x + 64,A',c',by omega,by have:=Hx.out;omega,by go_num,rfl,by simpa [(Bl.comp_words hws).1] using hown'.le,?_,hOr.trans' hO'⟩
                rw [Hnext.out,if_pos ha,decide_eq_true Hb.out]
                exact hown'.reads
              case measure=>simp [intOf];omega
            · have haI:(x:Int) + 64≤(nM:Int):=by omega
              have hbI:((x:Int) + 64 == (N:Int))=true:=beq_iff_eq.2 o9
              have Hb:=Lib.hid hb
              clear hb
              go_wp2_with (go_at_call 205;refine (compress_at _ Ah _ ch _ _ _ _ _ (((M ++ List.replicate k 0).drop x).take 64) (x + 64) true o9 rfl rfl hws Hbl64.out hRh hRb hch o9 o9).mono ?_;rintro e w2 ⟨A',c',G',rfl,hown',hnew',hO'⟩)
              go_roundw
              case rel=>
                refine ⟨i + 1,x + 64,A',c',by omega,by have:=Hx.out;omega,by go_num,rfl,by simpa [(Bl.comp_words hws).1] using hown'.le,?_,hOr.trans' hO'⟩
                rw [Hnext.out,if_neg o9,decide_eq_true Hb.out]
                exact hown'.reads
              case measure=>simp [intOf];omega
            · have haI:(x:Int) + 64≤(nM:Int):=by omega
              have hbI:((x:Int) + 64 == (N:Int))=false:=beq_eq_false_iff_ne.2 o9
              have Hb:=Lib.hid hb
              clear hb
              go_wp2_with (go_at_call 205;refine (compress_at _ Ah _ ch _ _ _ _ _ (((M ++ List.replicate k 0).drop x).take 64) (x + 64) false o9 rfl rfl hws Hbl64.out hRh hRb hch o9 o9).mono ?_;rintro e w2 ⟨A',c',G',rfl,hown',hnew',hO'⟩)
              go_roundw
              case rel=>
                refine ⟨i + 1,x + 64,A',c',by omega,by have:=Hx.out;omega,by go_num,rfl,by simpa [(Bl.comp_words hws).1] using hown'.le,?_,hOr.trans' hO'⟩
                rw [Hnext.out,if_neg o9,decide_eq_false Hb.out]
                exact hown'.reads
              case measure=>simp [intOf];omega
          · obtain rfl:i=q + 1:=by omega
            obtain rfl:x=N:=by have:=HNq.out;omega
            have hws:=Bl.stR_words (n:=ny) (M:=M) hk (q + 1)
            obtain ⟨ws,Hws⟩:∃ ws,Hid (ws=Bl.stR ny M (q + 1)):=⟨_,rfl⟩
            rw [← Hws.out] at hws hRh
            obtain ⟨ga,oa,rfl,hga,hca⟩:=hRh (by rw [Zg,hws.1];decide)
            have Hca:=Lib.hid hca
            clear hca hlt hi hx
            obtain ⟨wv,rfl⟩:∃ wv:World,wv=wr:=⟨_,rfl⟩
            go_wp2
            go_loopw [10,11] (fun m i wr=>∃ (k:Nat) (Ao:Option Addr) (co:Nat) (G:Option Nat),k≤8∧i= .int .i64 k∧m= .slice Ao (4 * k) co∧OwnS wr 5 Ao co (cellsOf ((Bl.leb ws).take (4 * k))) G∧New wv G∧Only [] wv wr) (fun _ i _=>8 - (intOf i).toNat)
            case atStart=>exact ⟨0,none,0,none,by omega,rfl,rfl,OwnS.none _ _,New.none _,Only.refl _ _⟩
            case round=>
              obtain ⟨k,Ao,co,G,hk8,rfl,rfl,hown,hnewo,hOo⟩:=hrel
              by_cases hlt:k < 8
              · have hltI:(k:Int) < 8:=by omega
                obtain ⟨n0,H0⟩:∃ n,Hid (n=ws.getD k 0):=⟨_,rfl⟩
                have l0:n0 < 4294967296:=by rw [H0.out];exact hws.getD _
                have c0:wr.cell? ⟨ga,oa + k,none⟩=some (.int .u32 (n0:Int)):=by
                  rw [hOo.cell (p:=⟨ga,oa + k,none⟩) hga s9,Hca.out k (by rw [Zg,hws.1];exact hlt),H0.out]
                  exact ye (wget hws hlt)
                have hgar:ga < wr.heap.size:=Nat.lt_of_lt_of_le hga hOo.size
                have hgaG:ga∉G.toList:=hnewo.far hga
                go_wp2
                refine Reg.wp G.toList [.r 0,.r 1,.r 2,.r 3,.r 4,.r 5,.r 6,.r 7,.r 8,.r 9,.r 10,.r 11,.r 12,.r 13,.r 14,.r 15,.r 16,.r 17,.r 18,.r 19,.r 20,.r 21,.r 22,.r 23,.e 24,.e 25,.r 26] k9 k9 (fun d _ _ _ _ h=>by cases d <;> exact h) ?_
                simp only [Reg.pick,List.getD_cons_succ,List.getD_cons_zero]
                iterate 24 (apply Reg.read;(· (intro t K hK;go_simp;(try go_ints);(try ((go_ite <;> go_prune);go_simp));(try go_ints);exact hK _ rfl));(· (intro K hK;go_simp;exact hK _ rfl)))
                refine Reg.eff ?_
                go_wp2
                refine ⟨((Only.refl G.toList wr).alloc _).dd,?_⟩
                clear c0
                refine Reg.eff (Yf V (.tmp 82) (.tmp 106) V Ao (4 * k) co _ G V (by simp;omega) ((hown.keep ((Only.refl [] wr).alloc _) s9).drew) (some ⟨wr.heap.size,0,none⟩) 4 4 [UInt8.ofNat n0,UInt8.ofNat (n0 / 256),UInt8.ofNat (n0 / 65536),UInt8.ofNat (n0 / 16777216)] V V (RV.new (four_cells n0 l0)).drew (by simp;omega) ?_)
                intro A' c' w2 G' hown2 hO2 hG2
                refine Reg.done hO2 ?_
                (apply Reg.read;(· (intro t K hK;go_simp;(try go_ints);(try ((go_ite <;> go_prune);go_simp));(try go_ints);exact hK _ rfl));(· (intro K hK;go_simp;exact hK _ rfl)))
                refine Reg.fin ?_
                have hO1s:=hOo.size
                have hO2':Only [] wv w2:=((hOo.alloc _).drew).trans hO2 hnewo.out
                clear hO2 hOo hown
                go_wp2
                go_roundw
                case rel=>
                  refine ⟨k + 1,A',c',G',by omega,by go_num,rfl,?_,hnewo.next (Nat.le_trans hO1s s9) hG2,hO2'⟩
                  rw [H0.out,Bl.leb_next ws k hlt] at hown2
                  exact hown2
                case measure=>simp [intOf];omega
              · obtain rfl:k=8:=by omega
                rw [List.take_of_length_le s9,Hws.out,Hq.out,Hml.out,Bl.hashM_stR,HM.out,Hny.out] at hown
                go_wp2
                go_ret
                exact ⟨Ao,co,G,V,hown,hnewo.le (Nat.le_trans hO.size hOr.size),(hO.trans' hOr).trans' hOo⟩
end Go.Proofs.YtgokpcnabgacnaaGreatDoor
namespace Go.Proofs.YtgokpcnabgacnaaGreatDoor
open Go.RowKit
theorem results_row_tmp {P:Program} {fn:Func} {p u:Tmp} {ty:TypeId} (h:fn.results= #[.cell p ty,.tmp u]) (tmps:Array Value) (w:World) (g:Nat) (t:TypeId) (cs:List Value) (d:TypeDesc)
  (hp:tmps.getD p undef= .pointer (some ⟨g,0,none⟩)) (hg:Blk w g t cs)
  (hu:P.underlying ty=some d) (hd:(match d with | .struct _ | .array _ _=>true | _=>false)=true) (hi:(P.info? ty).map (·.size)=some cs.length):
  (results fn tmps).run P w= .ok (.tuple #[.agg cs.toArray,tmps.getD u undef]) w:=by
 have hp':tmps[p]?.getD undef= .pointer (some ⟨g,0,none⟩):=by simpa using hp
 simp [results,h,hp',asAddr,run_loadVar_row w g t ty cs.toArray (0,0) d hg hu hd (by simpa using hi)]
theorem keyed_any (w:World) (A:Option Addr) (c:Nat) (key:LB) (hk1:1≤key.length) (hk:key.length≤32) (hc:key.length≤c) (hr:RB w A key)
  (B:Option Addr) (d:Nat) (b:LB) (hd:b.length≤d) (hrb:RB w B b) (hbl:b.length≤2305843009213693952) (hgl:Gl w):
  Calls Tryz.prog 170 #[.slice A key.length c,.slice B b.length d] w fun e w'=>e= .returned (.tuple #[.agg (cellsOf (Bl.hash key b)).toArray,.int .i64 0])∧Only [] w w':=by
 have hl32:(cellsOf (Bl.hash key b)).length=32:=by simp
 have hs32:(Tryz.prog.info? 219).map (·.size)=some (cellsOf (Bl.hash key b)).length:=by rw [hl32];exact arr32size
 have Hs32:=Lib.hid hs32;have Hl32:=Lib.hid hl32;clear hl32 hs32
 go_enter Tryz.func170,Tryz.ntmps170
 go_upto_region 1 with (fail)
 have hR1:=Blk.new w 219 (List.replicate 32 (Value.int .u8 0));have hO1:=(Only.refl [] w).alloc (.cells (List.replicate 32 (Value.int .u8 0)).toArray 219)
 have hs1:(w.alloc (.cells (List.replicate 32 (Value.int .u8 0)).toArray 219)).heap.size=w.heap.size + 1:=by simp
 revert hR1 hO1 hs1
 simp only [List.replicate_succ,List.replicate_zero]
 generalize World.alloc _ _=W1
 intro hR1 hO1 hs1
 have hs1':w.heap.size < W1.heap.size:=by omega
 clear hs1
 go_wp2_with fail
 have hO2:=hO1.alloc (.cells #[.slice B b.length d] 24);refine (hashOf_any _ A c key hk hc (hr.keep0 hO2) (hgl.keep hO2 s9 s9) W1.heap.size B d b s9 (part_new _ _ _) hd (hrb.keep0 hO2) hbl).mono ?_;rintro e W2 ⟨rfl,hO3⟩;have hR2:=(hR1.alloc (.cells #[.slice B b.length d] 24)).keep hO3 s9;have hO4:=hO2.trans' hO3
 go_wp2_with (refine Yp rfl 219 _ _ rfl w.heap.size (cellsOf (Bl.hash key b)) rfl rfl 219 _ hR2 (by rw [Hl32.out];rfl) Hs32.out ZI ?_;intro W5 hR5 hO5)
 exact bodyPost_ret (results_row_tmp V _ _ w.heap.size 219 (cellsOf (Bl.hash key b)) _ V hR5 Tryz.underlying219 V Hs32.out) V ⟨V,hO4.trans hO5 s9⟩
end Go.Proofs.YtgokpcnabgacnaaGreatDoor
namespace Go.Proofs.YtgokpcnabgacnaaGreatDoor
open Go.RowKit
namespace Sx
theorem con_keyed (key b:LB) (hk1:1≤key.length) (hk:key.length≤32) (hb:b.length≤2305843009213693952):Con Tryz.prog 170 [bD key,bD b] (Yv [gD (Bl.hash key b),iD 0]):=by
 refine ⟨enters_of Tryz.func170 k9 V,fun L w vs hL hG ha=> ?_⟩;obtain ⟨u,v,rfl,hu,hv⟩:=all2 ha;obtain ⟨A,c,rfl,hc,hr⟩:=b_out hu;obtain ⟨B,d,rfl,hd,hs⟩:=b_out hv;refine (keyed_any w A c key hk1 hk hc (rb_of_rv hr) B d b hd (rb_of_rv hs) hb hG).mono ?_;rintro r w' ⟨rfl,ho⟩;exact ⟨_,V,⟨_,V,V,V,t9⟩,ho⟩
theorem rep_step {h:LB} {i:Nat} (hi:i < h.length):(h.take i ++ List.replicate (h.length - i) 0).set i h[i]=h.take (i + 1) ++ List.replicate (h.length - (i + 1)) 0:=by
 apply List.ext_getElem?;intro q
 by_cases hq:q < h.length
 ·rw [List.getElem?_set]
  by_cases e:i=q
  ·subst e;rw [if_pos rfl,if_pos (by simp;omega),List.getElem?_append_left (by simp;omega),List.getElem?_take,if_pos o9,List.getElem?_eq_getElem hi]
  ·rw [if_neg e]
   by_cases h2:q < i
   ·rw [List.getElem?_append_left (by simp;omega),List.getElem?_append_left (by simp;omega),List.getElem?_take,List.getElem?_take,if_pos h2,if_pos o9]
   ·rw [List.getElem?_append_right (by simp;omega),List.getElem?_append_right (by simp;omega)];rw [List.getElem?_replicate,List.getElem?_replicate,if_pos (by simp;omega),if_pos (by simp;omega)]
 ·rw [List.getElem?_eq_none (by simp;omega),List.getElem?_eq_none (by simp;omega)]
def Acc.tagE (l:List Acc.T) (nm q:LB):Int:=match Acc.find l nm with | none=>9 | some _=>if 65536 < q.length then 5 else 0
def ZD (l:List Acc.T) (nm q:LB):LB:=match Acc.find l nm with | none=>[] | some x=>if 65536 < q.length then [] else Bl.hash x.key q
theorem Acc.tag_no {l:List Acc.T} {nm q:LB} (h:Acc.find l nm=none):ZD l nm q=[]∧Acc.tagE l nm q=9:=by unfold ZD Acc.tagE;rw [h];exact ⟨rfl,rfl⟩
theorem Acc.tag_long {l:List Acc.T} {nm q:LB} {x:Acc.T} (h:Acc.find l nm=some x) (hq:65536 < q.length):ZD l nm q=[]∧Acc.tagE l nm q=5:=by unfold ZD Acc.tagE;rw [h];exact ⟨if_pos hq,if_pos hq⟩
theorem Acc.tag_yes {l:List Acc.T} {nm q:LB} {x:Acc.T} (h:Acc.find l nm=some x) (hq:¬65536 < q.length):ZD l nm q=Bl.hash x.key q∧Acc.tagE l nm q=0:=by unfold ZD Acc.tagE;rw [h];exact ⟨if_neg hq,if_neg hq⟩
def Acc.ver (E:Int) (T tg:LB):Int:=if E≠0 then E else if T=tg then 0 else 10
def ZC (l:List Acc.T) (nm q tg:LB):Int:=Acc.ver (Acc.tagE l nm q) (ZD l nm q) tg
theorem con_fixed (h:LB) (hh:h.length=32):ConN Tryz.prog 174 [bD h] (gD h):=by
 refine yJ Tryz.func174 k9 V k9 fun base w0=>(zh (zb (zl (S:=[]) (zH (zs:=cellsOf (List.replicate 32 0)) k9 V) ?_)));rintro _ ⟨g2,rfl⟩;refine zf (zc (zh (zb (zl (S:=[]) (zH (zs:=cellsOf (List.replicate 32 0)) k9 V) ?_))));rintro _ ⟨g3,rfl⟩;refine zf (zc (zh (zh (zb (za V (zg V) (zf (zc (zV (Zk (ι:={i:Nat // i≤32}) (fun i=>zK [(0,bD h),(2,pA g2),(3,pA g3),(4,iD (i.1:Int))] [.c g2 ((cellsOf (List.replicate 32 0)).map isD),.c g3 ((cellsOf (h.take i.1 ++ List.replicate (h.length - i.1) 0)).map isD)]) (fun i=>32 - i.1) (⟨0,by omega⟩) ?_ ?_)))))))))
 ·exact ⟨⟨_,V,(sT V)⟩,[0,1],by decide,⟨la rfl,⟨⟨_,rfl,(by rw [hh];exact yl _)⟩,trivial⟩⟩⟩
 ·rintro ⟨i,hi⟩ K0 hK0;dsimp only;refine zh (zh (zb (za V (ze V) (za V (yG V V) (zf (zc (zI V (fun hb6=> ?_) (fun hb6=> ?_))))))))
  ·have hb6:=oT hb6;refine zu (zc (zh (zV (zb (za V (ze V) (za V (ze V) (za V (ze V) (za V (Rd.idx (e:=5) V V k9 k9 o9 (cellsOf_get o9)) (za V (Rd.loadP V k9 s9) (za V (Rd.idxA1 (e:=5) (n:=32) V V k9 k9 o9 o9) (zl (S:=[_]) (Ef.storeB8 (v:=h[i]'o9) 1 V V V k9 (by simp;omega) (m9 V)) ?_)))))))))));rintro _ rfl;exact zf (yf (zc (zb (za V (ze V) (za V (yM V V ⟨by omega,by omega⟩) (za rfl (zg rfl) (zf (fun a w hh=>hK0 (⟨i + 1,by omega⟩) (by simp only;omega) a w (hh.sub (⟨⟨_,rfl,(sT rfl)⟩,[0,1],by decide,⟨la rfl,⟨⟨_,rfl,(by rw [← rep_step o9];exact yl _)⟩,trivial⟩⟩⟩))))))))))
  ·have hb6:=oF hb6;refine yW ?_
   repeat (first | refine Za ?_ | refine Zb d9 ?_)
   refine Zi (zc (zh (zb (za V (Rd.loadG 1 32 V V k9 (by first | assumption | (simp;done) | (simp;omega)) zn) (zl (S:=[_]) (Z6 0 32 V V V k9 (by first | assumption | (simp;done) | (simp;omega)) (by first | assumption | (simp;done) | (simp;omega)) (m9 V)) ?_)))))
   rintro _ rfl
   refine zf (zc (zR (fn:=Tryz.f174) (fun _ _ h=>h) (Rs.le (Rs.one V (ResV.cellG (n:=32) 0 V V k9 (by first | assumption | (simp;done) | (simp;omega)))) ?_)))
   have e:i=32:=by omega
   subst e;exact Le.trans (le_agg_g _) (Le.trans (zE (by rw [hh];simp [← hh])) zv)
theorem con_bytesEq (a b:LB):ConN Tryz.prog 98 [bD a,bD b] (yc (decide (a=b))):=by
 refine yJ Tryz.func98 k9 V k9 fun base w0=>(zh (zb (za V (zg V) (zf (zc (zh (zb (za V (ze V) (za V (Rd.str (e:=5) V k9 k9 k9 s9) (za V (ze V) (za V (Rd.str (e:=5) V k9 k9 k9 s9) (za V (Rd.eqs (p:=a) (q:=b) V V) (za V (zg V) (zf (zc (zR (fn:=Tryz.f98) (fun _ _ h=>h) (Rs.le (Rs.one V (zp V)) ?_)))))))))))))))));exact zv
theorem con_tag (gb:Nat) (s:Bst) (l:List Acc.T) (nm q:LB) (hf:Acc.Fine l) (hq:q.length≤1000000):ConR Tryz.prog 135 [.c gb [isD (.map (s.M.map Prod.fst)),isD (.slice s.n.A (Acc.nm l).length s.n.c),isD (.map (s.M.map Prod.snd))],.r s.n.F (yj 9 1 Zj s.n.A s.n.c (Acc.nm l)),.r s.F1 (ya (s.M.map Prod.fst) yA (Acc.nm l) (acD l)),.r s.F2 (ya (s.M.map Prod.snd) yu (Acc.seats l) (seD l))] [pA gb,yp nm,bD q] (fun _:Unit=>[.c gb [isD (.map (s.M.map Prod.fst)),isD (.slice s.n.A (Acc.nm l).length s.n.c),isD (.map (s.M.map Prod.snd))],.r s.n.F (yj 9 1 Zj s.n.A s.n.c (Acc.nm l)),.r s.F1 (ya (s.M.map Prod.fst) yA (Acc.nm l) (acD l)),.r s.F2 (ya (s.M.map Prod.snd) yu (Acc.seats l) (seD l))]) (fun _:Unit=>Yv [bD (ZD l nm q),iD (Acc.tagE l nm q)]):=by
 refine zW Tryz.func135 k9 V k9 fun base w0=>(zh (zb (za V (zg V) (za V (zg V) (zf (zc (zh (zb (za V (ze V) (za V (ze V) (zl (S:=[]) (zz [0,2,1,3] (con_get l nm hf) V ⟨(yn 0 V d9 ⟨(yC 2 V d9),(Zl 1 V d9),(yC 3 V d9),t9⟩),(zq (zd _)),t9⟩ V) ?_)))))))))));rintro _ rfl;refine za V (ze V) (za V (zr V V) (za V (zr V V) (zl (S:=[]) (zH (zs:=[.string ⟨#[]⟩,.int .i64 0,.slice none 0 0,.int .i64 0,.int .i64 0]) k9 V) ?_)));rintro _ ⟨g8,rfl⟩;refine zl (S:=[_]) (zC 4 V V V k9 V (m9 V)) ?_;rintro _ rfl;refine za V (zg V) (zf (zc (zh (zh ?_))));rcases hx:Acc.find l nm with _ | x
 ·have hg:=Acc.get_no hx;refine zQ (σ':=zK [(2,bD q),(8,pA g8),(9,iD 9)] [.c gb [isD (.map (s.M.map Prod.fst)),isD (.slice s.n.A (Acc.nm l).length s.n.c),isD (.map (s.M.map Prod.snd))],.r s.n.F (yj 9 1 Zj s.n.A s.n.c (Acc.nm l)),.r s.F1 (ya (s.M.map Prod.fst) yA (Acc.nm l) (acD l)),.r s.F2 (ya (s.M.map Prod.snd) yu (Acc.seats l) (seD l)),.c g8 [yp Acc.zero.name,iD Acc.zero.role,bD Acc.zero.key,iD Acc.zero.dep,iD Acc.zero.num]]) (⟨⟨_,V,⟨lq V,⟨lq V,⟨⟨_,V,zE (by rw [hg.2])⟩,t9⟩⟩⟩⟩,[0,1,2,3,4],by decide,⟨la rfl,⟨lR rfl,⟨lR rfl,⟨lR rfl,⟨⟨_,rfl,(by rw [hg.1];exact yl _)⟩,trivial⟩⟩⟩⟩⟩⟩) (zb (za rfl (ze rfl) (za rfl (zX rfl rfl) (zf (zc (yd rfl d9 (zh (zb (za rfl (ze rfl) (za rfl (zg rfl) (za rfl (zg rfl) (zf (zc (zJ (fn:=Tryz.f135) (()) [0,1,2,3] (fun _ _ h=>h) (Rs.le (yN rfl (zp rfl) (zp rfl)) ?_) d9 (sX rfl)))))))))))))));exact Zc ⟨by rw [(Acc.tag_no hx).1];exact Zz,zE (by rw [(Acc.tag_no hx).2]),trivial⟩
 ·have hg:=Yn hx;have hkl:=(hf.oks x (Acc.find_some hx).1).2.1;refine zQ (σ':=zK [(2,bD q),(8,pA g8),(9,iD 0)] [.c gb [isD (.map (s.M.map Prod.fst)),isD (.slice s.n.A (Acc.nm l).length s.n.c),isD (.map (s.M.map Prod.snd))],.r s.n.F (yj 9 1 Zj s.n.A s.n.c (Acc.nm l)),.r s.F1 (ya (s.M.map Prod.fst) yA (Acc.nm l) (acD l)),.r s.F2 (ya (s.M.map Prod.snd) yu (Acc.seats l) (seD l)),.c g8 [yp x.name,iD x.role,bD x.key,iD x.dep,iD x.num]]) (⟨⟨_,V,⟨lq V,⟨lq V,⟨⟨_,V,zE (by rw [hg.2])⟩,t9⟩⟩⟩⟩,[0,1,2,3,4],by decide,⟨la rfl,⟨lR rfl,⟨lR rfl,⟨lR rfl,⟨⟨_,rfl,(by rw [hg.1];exact yl _)⟩,trivial⟩⟩⟩⟩⟩⟩) (zb (za rfl (ze rfl) (za rfl (zX rfl rfl) (zf (zc (zB rfl d9 (zu (zc (zh (zh (zb (za rfl (ze rfl) (za rfl (Zq (e:=5) rfl k9) (za rfl (ZK rfl rfl) (zf (zc (zI rfl (fun hb22=> ?_) (fun hb22=> ?_))))))))))))))))))
  ·have h22:65536 < q.length:=by have h:=oT hb22;simp at h;omega
   refine zh (zb (za V (zg V) (za V (zg V) (zf (zc (zJ (fn:=Tryz.f135) (()) [0,1,2,3] (fun _ _ h=>h) (Rs.le (yN V (zp V) (zp V)) ?_) d9 (sX V)))))));exact Zc ⟨by rw [(Acc.tag_long hx h22).1];exact Zz,zE (by rw [(Acc.tag_long hx h22).2]),trivial⟩
  ·have h22:¬65536 < q.length:=by have h:=oF hb22;simp at h;omega
   refine zu (zc (zh (zb (za V (zi (n:=2) V k9) (za V (zj 4 V V V k9 zn) (za V (ze V) (zl (S:=[]) (yg (con_keyed x.key q o9 o9 o9) V ⟨zd _,zd _,t9⟩ V) ?_)))))));rintro _ rfl;refine za V (ze V) (za V (zr V V) (za V (zr V V) (zl (S:=[]) (zH (zs:=cellsOf (List.replicate 32 0)) k9 V) ?_)));rintro _ ⟨g10,rfl⟩
   refine zl (S:=[_]) (Z6 5 32 V V V k9 (by first | assumption | (simp;done) | (simp;omega)) (by first | assumption | (simp;done) | (simp;omega)) (m9 V)) ?_
   rintro _ rfl
   refine za V (zg V) (zf (zc (zh (zh (zb (za V (ze V) (za V (zX V V) (zf (zc (zB V d9 (zu (zc (zh (zb (za V (Rd.slArr (e:=5) (n:=32) V k9 k9) (SWl.freeze 33 5 (cellsOf (Bl.hash x.key q)) V V (by first | rfl | (simp;done)) d9 V (za V (zg V) (za V (zg V) (zf (zc (zJ (fn:=Tryz.f135) (()) [0,1,2,3] (fun _ _ h=>h) (Rs.le (yN V (zp V) (zp V)) ?_) d9 (sX V))))))))))))))))))))))
   exact Zc ⟨by rw [(Acc.tag_yes hx h22).1];exact zd _,zE (by rw [(Acc.tag_yes hx h22).2]),trivial⟩
theorem con_verify (gb:Nat) (s:Bst) (l:List Acc.T) (nm q tg:LB) (hf:Acc.Fine l) (hq:q.length≤1000000):ConR Tryz.prog 165 [.c gb [isD (.map (s.M.map Prod.fst)),isD (.slice s.n.A (Acc.nm l).length s.n.c),isD (.map (s.M.map Prod.snd))],.r s.n.F (yj 9 1 Zj s.n.A s.n.c (Acc.nm l)),.r s.F1 (ya (s.M.map Prod.fst) yA (Acc.nm l) (acD l)),.r s.F2 (ya (s.M.map Prod.snd) yu (Acc.seats l) (seD l))] [pA gb,yp nm,bD q,bD tg] (fun _:Unit=>[.c gb [isD (.map (s.M.map Prod.fst)),isD (.slice s.n.A (Acc.nm l).length s.n.c),isD (.map (s.M.map Prod.snd))],.r s.n.F (yj 9 1 Zj s.n.A s.n.c (Acc.nm l)),.r s.F1 (ya (s.M.map Prod.fst) yA (Acc.nm l) (acD l)),.r s.F2 (ya (s.M.map Prod.snd) yu (Acc.seats l) (seD l))]) (fun _:Unit=>iD (ZC l nm q tg)):=by
 refine zW Tryz.func165 k9 V k9 fun base w0=>(zh (zb (za V (zg V) (zf (zc (zh (zb (za V (ze V) (za V (ze V) (za V (ze V) (zl (zx [0,1,2,3] (con_tag gb s l nm q hf hq) V ⟨zd _,zd _,zd _,t9⟩ d9 (sX V) (fun _ h=>h) V) ?_)))))))))));rintro _ ⟨⟨⟩,rfl⟩;refine za V (ze V) (za V (zr V V) (za V (zr V V) (za V (zg V) (za V (zg V) (zf (zc (zh (zh (zb (za V (ze V) (za V (zX V V) (zf (zc (zI V (fun hb19=> ?_) (fun hb19=> ?_)))))))))))))))
 ·have h19:Acc.tagE l nm q≠0:=by simpa using hb19
  refine zh (zb (za V (ze V) (za V (zg V) (zf (zc (zJ (fn:=Tryz.f165) (()) [0,1,2,3] (fun _ _ h=>h) (Rs.le (Rs.one V (zp V)) ?_) d9 (sX V)))))));exact zE (by unfold ZC Acc.ver;rw [if_pos h19])
 ·have h19:¬Acc.tagE l nm q≠0:=by simpa using hb19
  refine zu (zc (zh (zh (zb (za V (ze V) (za V (ze V) (zl (S:=[]) (zz [] (con_bytesEq (ZD l nm q) tg) V ⟨(zq (zd _)),(zq (zd _)),t9⟩ V) ?_)))))));rintro _ rfl;refine za V (yL V) (zf (zc (zI V (fun hb24=> ?_) (fun hb24=> ?_))))
  ·have h24:¬ZD l nm q=tg:=by simpa using hb24
   refine zh (zb (za V (zg V) (zf (zc (zJ (fn:=Tryz.f165) (()) [0,1,2,3] (fun _ _ h=>h) (Rs.le (Rs.one V (zp V)) ?_) d9 (sX V))))));exact zE (by unfold ZC Acc.ver;rw [if_neg h19,if_neg h24])
  ·have h24:ZD l nm q=tg:=by simpa using hb24
   refine zu (zc (zh (zb (za V (zg V) (zf (zc (zJ (fn:=Tryz.f165) (()) [0,1,2,3] (fun _ _ h=>h) (Rs.le (Rs.one V (zp V)) ?_) d9 (sX V))))))));exact zE (by unfold ZC Acc.ver;rw [if_neg h19,if_pos h24])
section
variable {P : Program} {Γ : Cx} {σ : St} {S : List Nat} {ty : TypeId} {pos : String} {af : Array Edge} {gd : Option (Nat × Bool)}
theorem str_cells (s:LB):Go.Lib.strCells ⟨s.toArray⟩=cellsOf s:=by simp [Go.Lib.strCells,cellsOf,B8]
theorem run_append_str (w:World) (t u ty e:TypeId) (i:TypeInfo) (ht:P.underlying t=some (.slice e)) (hu:P.underlying u=some .string) (hi:P.info? e=some i) (hz:i.zero=some (.int .u8 0))
  (hsize:i.size=1) (hby:i.bytes=1) (v:Value) (n:Nat) (xs:List Value) (hown:w.ownsRow 0 e 1 v n xs) (s:ByteArray) (hl:n + s.size≤1099511627776):
  ∃ v' w',(Builtin.append_ #[t,u] ty #[v,.string s]).run P w= .ok v' w'∧w'.ownsRow 0 e 1 v' (n + s.size) (xs ++ Go.Lib.strCells s)∧w.grownBy w' v.ownBlock∧(v'.ownBlock=v.ownBlock∨v'.ownBlock=some w.heap.size):=by
 obtain ⟨v',w',hr,h2,h3,h4⟩:=Go.Lib.run_append_own_string (P:=P) w 0 t u ty e i ht hu hi hz hsize hby v n xs hown s (by unfold maxLen;omega) o9 (Nat.zero_le _);refine ⟨v',w',hr,h2,h3,?_⟩
 have hxl:xs.length=n:=by simpa using hown.1
 rcases hown.2 with ⟨rfl,rfl⟩ | ⟨g,cap,cur,rfl,hbg,hg,hnc,hcm,hcs,htake⟩
 ·by_cases hm:s.size=0
  ·exact .inl (by rw [h4.2 ⟨rfl,hm⟩])
  ·have hr':=run_append_nil_string (P:=P) w t u ty e i (.int .u8 0) ht hu hi hz s o9 o9 (by rw [hby];omega);rw [hr'] at hr;injection hr with e1 e2;exact .inr (by rw [← e1];rfl)
 ·by_cases hroom:n + s.size≤cap
  ·have hcs':cur.size=cap:=by simpa using hcs
   have hr':=Go.Lib.run_append_room_string (P:=P) w t u ty e i ht hu hi hsize g n cap cur hg s hroom o9;rw [hr'] at hr;injection hr with e1 e2;exact .inl (by rw [← e1];rfl)
  ·have hr':=Go.Lib.run_append_grow_string (P:=P) w t u ty e i (.int .u8 0) ht hu hi hz ⟨g,0,none⟩ n cap xs (by rw [hsize];simpa using hxl) (hown.cells (g:=g) rfl) s o9 o9 (by rw [hby];exact growslice_fits o9 o9);rw [hr'] at hr;injection hr with e1 e2;exact .inr (by rw [← e1];rfl)
theorem Ef.appStr {x y:Operand} {T u e k c:Nat} {A:Option Addr} {F:LN} {b s:LB} (j:Nat) (hx:σ.ev x=some (isD (.slice A b.length c))) (hj:σ.bx[j]? =some (.r F (yj e 1 ZP A c b))) (hy:σ.ev y=some (yp s)) (hT:ZL P T e=true) (hU:stringT P u=true) (hE:elT P e 1 1=true)
  (hz0:(P.info? e).map (·.zero)=some (some (.int .u8 0))) (hlen:b.length + s.length≤1099511627776) (hS:∀ g∈F,g∈S) (hk:yy Γ.nt k=true):
  Ef P Γ S ⟨some k,.call { callee:= .builtin .append,args:= #[x,y],argTypes:= #[T,u] },ty,pos,af,gd⟩ σ (fun σ'=>∃ A' F' c',σ'=(σ.give [j] [.r F' (yj e 1 ZP A' c' (b ++ s))]).put k (isD (.slice A' (b ++ s).length c'))):=by
 intro a w hh K Q hK;have hxv:a.eval x= .slice A b.length c:=zF hh hx;have hyv:a.eval y= .string ⟨s.toArray⟩:=zF hh hy;obtain ⟨i,z,hI,h1,h2,h3,h4⟩:=elT_spec hE;rw [hI] at hz0
 obtain rfl:z= .int .u8 0:=by
  have:i.zero=some (.int .u8 0):=by simpa using hz0
  rw [this] at h3;injection h3 with h3;exact h3.symm
 obtain ⟨xs,ha,hown,hF⟩:=hh.resAt hj
 have hsz:(⟨s.toArray⟩:ByteArray).size=s.length:=by simp [ByteArray.size]
 obtain ⟨v',w',hrun,ho2,hgr,hblk⟩:=run_append_str (P:=P) w T u ty e i (yt hT) (ZZ hU) hI h3 h1 h2 _ _ xs hown ⟨s.toArray⟩ (by rw [hsz];omega);rw [hsz,str_cells] at ho2
 have hOn:Only F w w':=by rw [hF];exact Only.of_grown hgr
 have hFL:∀ x∈F,x∈σ.L Γ:=fun x hx=>mL _ (mem_fps.2 ⟨_,List.mem_of_getElem? hj,hx⟩);have hsub:SubBx σ.bx [j] [.r F (yj e 1 ZP A c b)]:=⟨⟨_,hj,yo _⟩,trivial⟩
 have hfp:fps [Box.r F (yj e 1 ZP A c b)]=F:=by simp [fps,Box.fp]
 obtain ⟨A',c',rfl⟩:∃ A' c',v'= .slice A' (b.length + s.length) c':=by
  rcases ho2.2 with ⟨h5,h6⟩ | ⟨g,cap,cur,h5,_⟩
  ·exact ⟨none,0,by rw [h5];congr 1;omega⟩
  ·exact ⟨_,_,h5⟩
 have hF':∀ g∈(Value.slice A' (b.length + s.length) c').ownBlock.toList,g∈F∨w.heap.size≤g:=fun g hg=>by
  rcases hblk with h | h
  ·left;rw [hF,← h];exact hg
  ·right;rw [h] at hg;simp at hg;omega
 have hnd:((Value.slice A' (b.length + s.length) c').ownBlock.toList).Nodup:=by
  cases (Value.slice A' (b.length + s.length) c').ownBlock <;> simp
 have hall:All ((Value.slice A' (b.length + s.length) c').ownBlock.toList ++ (σ.L Γ).filter (· ∉F)) w' ((b ++ s).flatMap ZP) (xs ++ cellsOf s):=by
  have h5:All (σ.L Γ ++ ((Value.slice A' (b.length + s.length) c').ownBlock.toList ++ (σ.L Γ).filter (· ∉F))) w' ((b ++ s).flatMap ZP) (xs ++ cellsOf s):=by
   rw [List.flatMap_append,Yz s];refine ((ha.append (all_is (cellsOf s))).less (fun x hx=> ?_)).keep hOn (fun x hx=>mL _ (hFL x hx));rcases List.mem_append.1 hx with hx | hx
   ·exact .inl hx
   ·rcases List.mem_append.1 hx with hx | hx
    ·rcases hF' x hx with h | h
     ·exact .inl (hFL x h)
     ·exact .inr h
    ·exact .inl (List.mem_filter.1 hx).1
  exact h5.less (fun x hx=> .inl (mR _ hx))
 obtain ⟨h6,h7⟩:=hh.give (post:=[.r (Value.slice A' (b.length + s.length) c').ownBlock.toList (vecR e 1 A' (b.length + s.length) c' ((b ++ s).flatMap ZP))]) hsub (by rw [hfp];exact hOn) (fun bx hb=>by
  rw [List.mem_singleton.1 hb];refine ⟨xs ++ cellsOf s,?_,ho2,V⟩;rw [hfp]
  simpa [fps,Box.fp] using hall) (by simpa [fps,Box.fp] using hnd) (fun x hx=>by
  rw [hfp]
  exact hF' x (by simpa [fps,Box.fp] using hx))
 have e2:(execOp a.eval ⟨some k,.call { callee:= .builtin .append,args:= #[x,y],argTypes:= #[T,u] },ty,pos,af,gd⟩).run P w= .ok (.value (.slice A' (b.length + s.length) c')) w':=by
  simp only [execOp,resolve,invoke,builtin,Sem.run_bind,Sem.run_pure,Result.andThen_ok,List.map_toArray,List.map_cons,List.map_nil,hxv,hyv,hrun]
 unfold Oper.wp;rw [e2];refine hK _ _ _ ⟨A',(Value.slice A' (b.length + s.length) c').ownBlock.toList,c',?_⟩ (h6.put (by simpa [yy] using hk) (d:=isD (.slice A' (b.length + s.length) c')) V) (hOn.mono (fun x hx _=>hS x hx));unfold yj;rw [List.length_append]
end
section
variable {P : Program} {Γ : Cx} {σ : St} {S : List Nat} {dst : Option Tmp} {ty : TypeId} {pos : String} {af : Array Edge} {gd : Option (Nat × Bool)}
theorem Rd.makeFuncB {fn:Fn} {bp:Array Operand} (cs:List Value) (hc:σ.evs bp.toList=some (cs.map isD)):Rd P Γ S ⟨dst,.makeFunc fn bp #[],ty,pos,af,gd⟩ σ (isD (.func fn cs.toArray #[])):=by
 intro a w hh;have hall:=Zr hh hc
 have key:∀ {zs cs:List Value},All (σ.L Γ) w (zs.map isD) cs→cs=zs:=by
  intro zs
  induction zs with
  | nil=>intro cs h;cases cs with | nil=>rfl | cons=>exact h.elim
  | cons z zs ih=>intro cs h;cases cs with | nil=>exact h.elim | cons c cs=>rw [ih h.2,show c=z from h.1]
 have e:bp.map a.eval=cs.toArray:=by
  apply Array.ext';simpa using key hall
 exact ⟨_,V,fun w' _=>by simp [execOp,Instr.makeFunc,e]⟩
theorem run_callB {a:Act} {w:World} {x:Operand} {f:FuncId} {args:Array Operand} {aT:Array TypeId} {bd:List Value} (hen:enters P f) (hx:a.eval x= .func (.func f) bd.toArray #[]):
  (execOp a.eval ⟨dst,.call { callee:= .value x,args:=args,argTypes:=aT },ty,pos,af,gd⟩).run P w= .ok (.enter f (bd ++ args.toList.map a.eval).toArray) w:=by
 have h:=hen (bd ++ args.toList.map a.eval).toArray w
 have e1:bd.toArray ++ (args.map a.eval)=(bd ++ args.toList.map a.eval).toArray:=by apply Array.ext';simp
 simp only [execOp,resolve,hx,Deferred.ofValue,Sem.run_bind,Sem.run_pure,Result.andThen_ok,invoke,Array.append_empty];rw [e1];exact h
theorem all_bd {L:LN} {w:World} {es:List D} {vs:List Value} (bd:List Value) (h:All L w es vs):All L w (bd.map isD ++ es) (bd ++ vs):=(all_is bd).append h
theorem Ef.callBR {x:Operand} {f:FuncId} {args:Array Operand} {aT:Array TypeId} {bd:List Value} {pre:List Box} {ad es:List D} {ι:Type} {post:ι→List Box} {d:ι→D} {k:Nat} (js:LN) (hcon:ConR P f pre ad post d) (hx:σ.ev x=some (isD (.func (.func f) bd.toArray #[]))) (he:σ.evs args.toList=some es) (hl:LeAll (bd.map isD ++ es) ad) (hjs:js.Nodup) (hs:SubBx σ.bx js pre) (hS:∀ g∈fps pre,g∈S) (hk:yy Γ.nt k=true):
  Ef P Γ S ⟨some k,.call { callee:= .value x,args:=args,argTypes:=aT },ty,pos,af,gd⟩ σ (fun σ'=>∃ i,σ'=(σ.give js (post i)).put k (d i)):=by
 intro a w hh K Q hK;have hall:=hl.all (all_bd bd (Zr hh he));unfold Oper.wp;rw [run_callB hcon.en (show a.eval x=_ from zF hh hx)];simp only [Oper.upon];refine (upon_R hcon hh hjs hs hall).mono ?_;rintro r w' ⟨i,v,rfl,h1,h2,ho⟩;exact hK _ _ _ ⟨i,V⟩ (h1.put (by simpa [yy] using hk) h2) (ho.mono (fun x hx _=>hS x hx))
end
def grp (n:Nat):LB:=if h:n < 128 then [UInt8.ofNat n] else UInt8.ofNat (n % 128 + 128) :: grp (n / 128)
termination_by n
decreasing_by omega
theorem grp_lt {n:Nat} (h:n < 128):grp n=[UInt8.ofNat n]:=by rw [grp,dif_pos h]
theorem grp_ge {n:Nat} (h:¬n < 128):grp n=UInt8.ofNat (n % 128 + 128) :: grp (n / 128):=by rw [grp,dif_neg h]
theorem grp_len:∀ (k n:Nat),n < 128 ^ (k + 1)→(grp n).length≤k + 1
 | 0,n,h=>by rw [grp_lt (by simpa using h)];simp
 | k + 1,n,h=>by
  by_cases h1:n < 128
  ·rw [grp_lt h1];simp
  ·rw [grp_ge h1,List.length_cons];have:=grp_len k (n / 128) (Nat.div_lt_of_lt_mul (by rw [Nat.pow_succ] at h;omega));omega
theorem Yg {n:Nat} (h:n < 18446744073709551616):(grp n).length≤10:=grp_len 9 n (Nat.lt_of_lt_of_le h d9)
def Yw (b:LB):LB:=grp b.length ++ b
theorem u8_nat {n:Nat} (h:n < 256):(UInt8.ofNat n).toNat=n:=by rw [UInt8.toNat_ofNat'];omega
theorem or128:∀ b:Fin 256,bits .or .u8 ((b.val:Nat):Int) 128=((b.val % 128 + 128:Nat):Int):=by decide +kernel
theorem or128_w {m:Nat}:bits .or .u8 ((m % 256:Nat):Int) 128=((UInt8.ofNat (m % 128 + 128)).toNat:Int):=by
 have h:=or128 ⟨m % 256,Nat.mod_lt _ d9⟩;simp only at h;rw [h,u8_nat o9];congr 1;omega
theorem byte_w {m:Nat}:IntKind.u8.wrap (m:Int)=((m % 256:Nat):Int):=by rw [wrap8];omega
theorem low_w {m:Nat} (h:m < 128):IntKind.u8.wrap (m:Int)=((UInt8.ofNat m).toNat:Int):=by rw [wrap8,u8_nat o9];omega
theorem shr7_w {m:Nat}:(m:Int) / 2 ^ (min 7 IntKind.u64.bits)=((m / 128:Nat):Int):=by
 rw [show min 7 IntKind.u64.bits=7 from rfl,show (2:Int) ^ 7=128 from rfl];omega
theorem u64_w {n:Int} (h0:0≤n) (h:n≤9223372036854775807):IntKind.u64.wrap n=n:=wrap_u64 h0 o9
theorem con_groups (o:LB) (A:Option Addr) (c:Nat) (F:LN) (n:Nat) (hn:n < 18446744073709551616) (ho:o.length≤100000):ConR Tryz.prog 129 [.r F (yj 5 1 ZP A c (o))] [isD (.slice A o.length c),isD (.int .u64 (n:Int))] (fun t:Ust=>[.r t.F (yj 5 1 ZP t.A t.c (o ++ grp n))]) (fun t:Ust=>isD (.slice t.A (o ++ grp n).length t.c)):=by
 refine zW Tryz.func129 k9 V k9 fun base w0=>(zh (zb (za V (zg V) (zf (zc (zh (zV (Zk (ι:={p:Nat × LB × Ust // p.2.1 ++ grp p.1=o ++ grp n∧p.1≤n}) (fun ⟨(m,q,t),hq,hm⟩=>zK [(0,isD (.slice t.A q.length t.c)),(1,isD (.int .u64 (m:Int)))] [.r t.F (yj 5 1 ZP t.A t.c (q))]) (fun ⟨(m,q,t),hq,hm⟩=>m) (⟨(n,o,⟨A,c,F⟩),V,Nat.le_refl _⟩) ?_ ?_))))))))
 ·exact (sB [0] V V)
 ·rintro ⟨⟨m,q,t⟩,hq,hm⟩ K0 hK0;dsimp only at hq hm ⊢
  have hql:q.length≤100010:=by have h:=congrArg List.length hq;have:=Yg hn;simp only [List.length_append] at h;omega
  refine zh (zh (zb (za V (ze V) (za V (ZK V V) (zf (zc (zI V (fun hb6=> ?_) (fun hb6=> ?_))))))))
  ·have h6:¬m < 128:=by have h:=oT hb6;omega
   refine zu (zc (zV (zh (zb (za V (ze V) (za V (ze V) (za V (Ye (r:=((m % 256:Nat):Int)) .u64 V k9 k9 byte_w) (za V (Rd.orW (r:=((UInt8.ofNat (m % 128 + 128)).toNat:Int)) V V or128_w) (zl (S:=[]) (Ef.lit1 (e:=5) V V k9 k9 V) ?_)))))))));rintro _ rfl
   refine zl (Zf 0 1 1 V V (SrcT.b (b:=[UInt8.ofNat (m % 128 + 128)]) V) k9 k9 (by simp <;> omega) d9 (fun _ h=>h) V) ?_
   rintro _ ⟨A12,F12,c12,rfl⟩;exact za V (zg V) (zf (zc (zb (za V (ze V) (za V (Rd.shrW (s:=7) (r:=((m / 128:Nat):Int)) V V shr7_w) (za V (zg V) (zf (yf (fun a w hh=>hK0 (⟨(m / 128,q ++ [UInt8.ofNat (m % 128 + 128)],⟨A12,c12,F12⟩),by dsimp only;rw [List.append_assoc,← hq,grp_ge h6];rfl,by dsimp only;omega⟩) (by dsimp only;omega) a w (hh.sub (sB [0] rfl rfl)))))))))))
  ·have h6:m < 128:=by have h:=oF hb6;omega
   refine yW ?_
   repeat (first | refine Za ?_ | refine Zb d9 ?_)
   refine Zi (zc (zh (zb (za V (ze V) (za V (ze V) (za V (Ye (r:=((UInt8.ofNat m).toNat:Int)) .u64 V k9 k9 (low_w h6)) (zl (S:=[]) (Ef.lit1 (e:=5) V V k9 k9 V) ?_)))))));rintro _ rfl
   refine zl (Zf 0 1 1 V V (SrcT.b (b:=[UInt8.ofNat m]) V) k9 k9 (by simp <;> omega) d9 (fun _ h=>h) V) ?_
   rintro _ ⟨A19,F19,c19,rfl⟩;refine za V (zg V) (zf (zc (zJ (fn:=Tryz.f129) (⟨A19,c19,F19⟩) [0] (fun _ _ h=>h) (Rs.le (Rs.one V (zp V)) ?_) d9 ⟨⟨_,V,Z9 (by rw [← hq,grp_lt h6]) (by rw [← hq,grp_lt h6])⟩,t9⟩)));exact zE (by rw [← hq,grp_lt h6])
theorem con_ready (o:LB):ConN Tryz.prog 126 [paD [iD 0,bD o]] (yc true):=by
 refine yJ Tryz.func126 k9 V k9 fun base w0=>(zh (zb (za V (zg V) (zf (zc (zh (zb (za V (ze V) (za V (Rd.nePA V V k9) (za V (ze V) (zm V V (V) V V (ze V) (zm V V (V) V V (yx V) (zm V V (V) V V (yk (n:=0) V k9 (show 0 < 2 by decide)) (zm rfl rfl (rfl) rfl rfl (yk (n:=0) rfl k9 (show 0 < 2 by decide)) (zm rfl rfl (rfl) rfl rfl (yi rfl rfl k9 s9) (zm rfl rfl (rfl) rfl rfl (yY rfl rfl) (za rfl (zD rfl (rfl) rfl) (za rfl (zg rfl) (zf (zc (zR (fn:=Tryz.f126) (fun _ _ h=>h) (Rs.le (Rs.one rfl (zp rfl)) ?_))))))))))))))))))))));exact ym V
theorem con_keep (gw:Nat) (v0:Value) (A:Option Addr) (n c:Nat) (hn:n≤65536):ConR Tryz.prog 128 [.c gw [iD 0,isD v0]] [pA gw,isD (.slice A n c)] (fun _:Unit=>[.c gw [iD 0,isD (.slice A n c)]]) (fun _:Unit=>isD (.tuple #[])):=by
 refine zW Tryz.func128 k9 V k9 fun base w0=>(zh (zh (zb (za V (ze V) (za V (YJ (e:=5) V k9) (za V (ZK V V) (zf (zc (zB V (by simp;omega) (zu (zc (zb (za V (ze V) (za V (ze V) (za V (zt V) (za V (zi (n:=1) V k9) (zl (S:=[_]) (zN 0 V V V k9 V (m9 V)) ?_)))))))))))))))));rintro _ rfl;refine zf ?_;refine Zv (fn:=Tryz.f128) (()) [0] (Rs.none V) d9 ⟨la V,t9⟩
end Sx
end Go.Proofs.YtgokpcnabgacnaaGreatDoor
