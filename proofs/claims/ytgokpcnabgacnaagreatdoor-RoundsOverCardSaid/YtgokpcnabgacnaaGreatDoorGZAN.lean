/- THE WALK of the reference's Hash: it computes Bl.hash. THE WALK of blake.Keyed. The hash of bytes with a key as a contract. ACCOUNTS: tags. append(b,  -/
import Derived.Test.YtgokpcnabgacnaaGreatDoorGZAM
import Derived.Test.YtgokpcnabgacnaaGreatDoorGZAL
import Derived.Lib.AppendStr
set_option maxHeartbeats 8000000
set_option maxRecDepth 100000
namespace Go.Proofs.YtgokpcnabgacnaaGreatDoor
open Go.RowKit
namespace Bl
def stR (n:Nat) (M:LB) (i:Nat):LN:=
 if i≤(M.length - 1) / 64 then stq n M i else comp (stq n M<|(M.length - 1) / 64) (M.drop<|64 * ((M.length - 1) / 64)) M.length true
theorem stR_words {n:Nat} {M:LB} (h:n≤32) (i:Nat):Words 8 (stR n M i):=by
 unfold stR
 split
 ·exact stq_words h i
 ·exact comp_words (stq_words h _)
theorem stR_zero (n:Nat) (M:LB):stR n M 0=st0 n:=by simp [stR,stq]
theorem zgW {M:LB} {p i j:Nat} (_hj:j < 64) (_hi:64 * i + 64≤M.length + p):(((M ++ List.replicate p 0).drop<|64 * i).take 64).getD j 0=(M.drop<|64 * i).getD j 0:=by
 simp only [Jr,JP,List.getElem?_drop,List.getElem?_append,Xj];rw [Jh _hj]
 by_cases h:64 * i + j < M.length
 ·rw [Jh h]
 ·rw [Jb h,Jh o9,JM o9];rfl
theorem stR_next {n:Nat} {M:LB} {p i:Nat} (hi:i≤(M.length - 1) / 64) (hp:M.length + p=64 * ((M.length - 1) / 64) + 64):
  stR n M (i + 1)=comp (stR n M i) (((M ++ List.replicate p 0).drop<|64 * i).take 64) (if M.length < 64 * i + 64 then M.length else 64 * i + 64) (decide (64 * i + 64=M.length + p)):=by
 have e:comp (stR n M i) (((M ++ List.replicate p 0).drop<|64 * i).take 64)=comp (stR n M i) (M.drop<|64 * i):=by
  funext t l
  exact comp_congr (fun j hj=>zgW hj o9) _ _ _
 rw [e]
 by_cases h:i=(M.length - 1) / 64
 ·subst h;rw [Jo o9];unfold stR;rw [Jb o9,Jh<|Js _];congr 1
  split <;> omega
 ·rw [Jd o9,Jb o9];unfold stR;rw [Jh o9,Jh o9]
  rfl
theorem hashM_stR (n:Nat) (M:LB):leb (stR n M<|(M.length - 1) / 64 + 1)=hashM n M:=by
 unfold stR hashM;rw [Jb o9]
theorem leb_next (ws:LN) (k:Nat) (hk:k < 8):(leb ws).take (4 * k) ++ [UInt8.ofNat<|ws.getD k 0,UInt8.ofNat<|ws.getD k 0 / 256,UInt8.ofNat<|ws.getD k 0 / 65536,UInt8.ofNat<|ws.getD k 0 / 16777216]=(leb ws).take (4 * (k + 1)):=by
 rw [show 4 * (k + 1)=4 * k + 4 by omega,List.take_add];congr 1;unfold leb;rw [← List.map_drop,← List.map_take]
 rcases (show k=0∨k=1∨k=2∨k=3∨k=4∨k=5∨k=6∨k=7 by omega) with rfl | rfl | rfl | rfl | rfl | rfl | rfl | rfl <;> simp [List.range,List.range.loop]
end Bl
theorem zg7 (x:Nat) (h:x < 4294967296): #[Value.int .u8<|(x:Int) % 256,.int .u8<|(x:Int) / 256 % 256,.int .u8<|(x:Int) / 65536 % 256,.int .u8<|(x:Int) / 16777216]=(cellsOf [UInt8.ofNat x,UInt8.ofNat<|x / 256,UInt8.ofNat<|x / 65536,UInt8.ofNat<|x / 16777216]).toArray:=by
 have e:x / 16777216 % 256=x / 16777216:=Nat.mod_eq_of_lt o9;simp only [cellsOf,JU,XC,B8,UInt8.toNat_ofNat',Nat.reducePow,e]
 rfl
theorem Vn (w:World) (A B:Option Addr) (ca cb nb:Nat) (ti:Int) (lb:Bool) (st:LN) (bs:LB) (t:Nat) (last:Bool) (hnb:nb=64) (hti:ti=(t:Int)) (hl:lb=last) (hst:Bl.Words 8 st) (hbs:bs.length=64) (hA:RV w A (yk st)) (hB:RV w B (cellsOf bs)) (hca:8≤ca) (hcb:64≤cb) (ht:t < 4611686018427387904):
  Calls Tryz.prog 205 #[.slice A 8 ca,.slice B nb cb,.int .i64 ti,.bool lb] w fun e w'=>∃ A' c' G,e= .returned (.slice A' 8 c')∧OwnS w' 275 A' c' (yk<|Bl.comp st bs t last) G∧New w G∧Only [] w w':=by
 subst hnb hti hl;exact zez w A B ca cb st bs t lb hst hbs hA hB hca hcb ht
theorem zc5 (w:World) (A B:Option Addr) (ca cb:Nat) (key b:LB) (hk:key.length≤32) (hA:RV w A (cellsOf key)) (hB:RV w B (cellsOf b)) (_hca:key.length≤ca) (_hcb:b.length≤cb) (hbl:b.length≤1099511627):
    Calls Tryz.prog 175 #[.slice A key.length ca,.slice B b.length cb] w fun e w'=>∃ A' c' G,e= .returned (.slice A' 32 c')∧OwnS w' 5 A' c' (cellsOf<|Bl.hash key b) G∧New w G∧Only [] w w':=by
  go_enter Tryz.func175,Tryz.ntmps175
  go_upto_if 14 with (fail)
  go_cut [5] (fun m wx=>∃ (Am:Option Addr) (cm:Nat) (G:Option Nat),m= .slice Am (Bl.kblock key).length cm∧OwnS wx 5 Am cm (cellsOf<|Bl.kblock key) G∧New w G∧Only [] w wx)
  case first=>
    by_cases h0:0 < key.length
    · have h0I:(0:Int) < (key.length:Int):=by omega
      go_wp2_with (at_builtin;refine ZY rfl (.tmp 15) (.tmp 16) rfl none 0 0 [] none rfl rfl (OwnS.none _ _) A key.length ca key rfl rfl hA (by simp;omega) ?_;intro A1 c1 w1 G1 hown1 hO1 hG1)
      rw [J0] at hown1
      have hG1':New w G1:=(New.none w).next (Js _) hG1
      have hO1':Only [] w w1:=hO1
      clear hO1 hG1
      go_loopw [5] (fun m wr=>∃ (k:Nat) (Am:Option Addr) (cm:Nat) (G:Option Nat),key.length + k≤64∧m= .slice Am (key.length + k) cm∧OwnS wr 5 Am cm (cellsOf<|key ++ List.replicate k 0) G∧New w G∧Only [] w wr) (fun m _=>64 - lenV m)
      case atStart=>exact ⟨0,A1,c1,G1,by omega,by simp,by simpa using hown1,hG1',hO1'⟩
      case round=>
        clear hown1 hG1' hO1'
        obtain ⟨k,Am,cm,G,hkk,rfl,hown,hnew,hO⟩:=hrel
        obtain ⟨n,hn⟩:∃ n,n=key.length + k:=⟨_,rfl⟩
        rw [← hn]
        rw [← hn] at hkk
        have Hn:=Jm hn
        clear hn
        by_cases hlt:n < 64
        · have hltI:(n:Int) < 64:=by omega
          go_wp2_with (at_builtin;refine ZY rfl (.tmp 21) (.tmp 22) rfl Am n cm _ G rfl (by rw [Hn.out];simp) (hown.keep ((Only.refl [] wr).alloc _) s9) (some ⟨wr.heap.size,0,none⟩) 1 1 [0] rfl rfl (RV.one wr _ _) (by have:=Hn.out;simp;omega) ?_;intro A' c' w2 G' hown2 hO2 hG2)
          go_roundw
          case rel=>
            have e:=Hn.out
            refine ⟨k + 1,A',c',G',by omega,by rw [e,J9],?_,hnew.next (JG hO.size s9) hG2,(hO.alloc _).trans hO2 hnew.out⟩
            rw [List.replicate_succ',← Jq]
            exact hown2
          case measure=>simp only [lenV];omega
        · obtain rfl:n=64:=by omega
          go_wp2
          go_meet
          have e:key ++ List.replicate k (0:UInt8)=Bl.kblock key:=by
            unfold Bl.kblock
            rw [Jb o9,show 64 - key.length=k by have:=Hn.out;omega]
          rw [e] at hown
          exact ⟨Am,cm,G,by rw [← e];simp [← Hn.out],hown,hnew,hO⟩
    · have h0I:key.length≤0:=by omega
      go_wp2
      go_meet
      have e:Bl.kblock key=[]:=by unfold Bl.kblock;rw [Jh o9]
      rw [e]
      exact ⟨none,0,none,V,OwnS.none _ _,New.none _,Only.refl _ _⟩
  case rest=>
    obtain ⟨Am,cm,G,rfl,hown,hnew,hO⟩:=hcut
    have hkb:(Bl.kblock key).length≤64:=by unfold Bl.kblock;split <;> simp;omega
    have hBr:RV wc B (cellsOf b):=hB.keep0 hO
    obtain ⟨nk,hnk⟩:∃ n,n=(Bl.kblock key).length:=⟨_,rfl⟩
    obtain ⟨ny,hny⟩:∃ n,n=key.length:=⟨_,rfl⟩
    obtain ⟨nb,hnb⟩:∃ n,n=b.length:=⟨_,rfl⟩
    rw [← hnk] at hkb
    rw [← hny] at hk
    rw [← hnb] at hbl
    rw [← hnk,← hny,← hnb]
    have Hnk:=Jm hnk
    have Hny:=Jm hny
    have Hnb:=Jm hnb
    clear hnk hny hnb
    obtain ⟨z,Hz⟩:∃ n,Hid (n=1779033703 ^^^ (16842784 + ny * 256)):=⟨_,rfl⟩
    have xz:bits .xor .u32 1779033703 (16842784 + (ny:Int) * 256)=(z:Int):=by
      have:=Xf 1779033703 (16842784 + ny * 256) d9 o9
      rw [Hz.out,← this]
      congr 1
    go_wp2_with (first
      | (at_builtin;refine ZY rfl (.tmp 24) (.tmp 25) rfl Am nk cm _ G rfl Hnk.out hown B nb cb b rfl Hnb.out hBr (by rw [← Hnk.out,← Hnb.out];omega) ?_
         intro A1 c1 w1 G1 hown1 hO1 hG1
         have hO1':=hO.trans hO1 hnew.out
         have hnew1:=hnew.next hO.size hG1
         clear hO1 hG1)
      | (go_at_call 204;refine (zdE w1).mono ?_
         rintro e w2 ⟨rfl,hBw,hO2⟩
         have hown2:=hown1.keep hO2 s9
         have c0:w2.cell? ⟨w1.heap.size,0,none⟩=some (.int .u32 1779033703):=hBw.cellv rfl
         have f0:=hBw.frozen 0))
    have hw1:=hown1.lt
    have hBh:Blk (w2.setCell ⟨w1.heap.size,0,none⟩<|.int .u32 (z:Int)) w1.heap.size 275 (yk<|Bl.st0 ny):=by
      have e:Bl.st0 ny=Bl.iv.set 0 z:=by rw [Hz.out];rfl
      rw [e,← Y0]
      exact hBw.set 0 _
    have hO3:Only [w1.heap.size] w2 (w2.setCell ⟨w1.heap.size,0,none⟩<|.int .u32 (z:Int)):=(Only.refl _ _).setCell (p:=⟨w1.heap.size,0,none⟩) (.inl s9) _
    have hown3:=hown2.keep hO3 (fun g hg=>by have:=hw1 g hg;simp;omega)
    have hO3':Only [] w (w2.setCell ⟨w1.heap.size,0,none⟩<|.int .u32 (z:Int)):=(hO1'.trans' hO2).trans hO3 (by have:=hO1'.size;simp;omega)
    have hgh3:∀ g,G1=some g→g≠w1.heap.size:=fun g hg=>by have:=hw1 g hg;omega
    clear xz c0 f0 hBw hown1 hown2 hO1' hO2 hO3 hown hnew hO hw1 hB hA
    revert hBh hown3 hO3'
    generalize World.setCell _ _ _=W3
    intro hBh hown3 hO3'
    revert hBh hgh3
    generalize w1.heap.size=gh
    intro hgh3 hBh
    obtain ⟨M,hM⟩:∃ M,M=Bl.kblock key ++ b:=⟨_,rfl⟩
    rw [← hM] at hown3
    obtain ⟨nM,hnM⟩:∃ n,n=nk + nb:=⟨_,rfl⟩
    have hml:nM=M.length:=by rw [hnM,hM,Jk,Hnk.out,Hnb.out]
    rw [← Int.natCast_add,← hnM]
    obtain ⟨q,hq⟩:∃ q,q=(nM - 1) / 64:=⟨_,rfl⟩
    have hq1:nM≤64 * q + 64:=by omega
    have hq2:64 * q < nM∨nM=0∧q=0:=by omega
    have hqb:q≤1099511627:=by omega
    have hMb:nM≤1099511691:=by omega
    have Hq2:=Jm hq2
    have Hq:=Jm hq
    have Hml:=Jm hml
    have HM:=Jm hM
    clear hq2 hq hml hM hnM Hnk Hz hkb
    go_loopw [5] (fun m wr=>∃ (k:Nat) (Am:Option Addr) (cm:Nat) (G:Option Nat),nM + k≤64 * q + 64∧m= .slice Am (nM + k) cm∧OwnS wr 5 Am cm (cellsOf<|M ++ List.replicate k 0) G∧New w G∧(∀ g,G=some g→g≠gh)∧Blk wr gh 275 (yk<|Bl.st0 ny)∧Only [] w wr) (fun m _=>64 * q + 64 - lenV m)
    case atStart=>exact ⟨0,A1,c1,G1,by omega,rfl,by simpa using hown3,hnew1,hgh3,hBh,hO3'⟩
    case round=>
      clear hown3 hO3' hBh hgh3 hnew1
      obtain ⟨k,Am,cm,G,hkk,rfl,hown,hnew,hgh,hBh,hO⟩:=hrel
      obtain ⟨n,hn⟩:∃ n,n=nM + k:=⟨_,rfl⟩
      rw [← hn]
      rw [← hn] at hkk
      have hnb:n≤100 * 1099511627:=by omega
      by_cases hlt:n < 64 * q + 64
      · have hc:((n:Int) == 0)=true∨(((n:Int) == 0)=false∧((n:Int) % 64 == 0)=false∧((n:Int) % 64 != 0)=true):=by
          by_cases h0:n=0
          · left;exact JT.2 o9
          · right
            have h1:¬n % 64=0:=by
              intro h64
              rcases Hq2.out with h | ⟨h,h'⟩ <;> omega
            refine ⟨Xb.2 o9,Xb.2 o9,?_⟩
            rw [bne_iff_ne];omega
        have Hn:=Jm hn
        clear hn
        rcases hc with hc | ⟨hc,hc2,hc3⟩
        all_goals
          go_wp2_with (at_builtin;refine ZY rfl (.tmp 50) (.tmp 51) rfl Am n cm _ G rfl (by rw [Hn.out,Hml.out];simp) (hown.keep ((Only.refl [] wr).alloc _) s9) (some ⟨wr.heap.size,0,none⟩) 1 1 [0] rfl rfl (RV.one wr _ _) (by have:=Hn.out;have:=Hml.out;simp;omega) ?_;intro A' c' w2 G' hown2 hO2 hG2)
          go_roundw
          case rel=>
            have e:=Hn.out
            have hlt':=hBh.lt
            refine ⟨k + 1,A',c',G',by omega,by rw [e,J9],?_,hnew.next (JG hO.size s9) hG2,?_,(hBh.alloc _).keep hO2 (fun hm=> ?_),(hO.alloc _).trans hO2 hnew.out⟩
            · rw [List.replicate_succ',← Jq]
              exact hown2
            · intro g hg
              rcases hG2 with h | h
              · exact hgh g (by rw [← h];exact hg)
              · rw [h] at hg
                injection hg with hg
                simp at hg
                omega
            · cases G with
              | none=>simp at hm
              | some g=>exact hgh g rfl (by simp at hm;exact hm.symm)
          case measure=>simp only [lenV];omega
      · have hkN:nM + k=64 * q + 64:=by omega
        obtain ⟨N,rfl⟩:∃ N,N=n:=⟨_,rfl⟩
        have hNq:N=64 * q + 64:=by omega
        have t0:((N:Int) == 0)=false:=Xb.2 o9
        have t1:((N:Int) % 64 == 0)=true:=JT.2 o9
        have t2:((N:Int) % 64 != 0)=false:=by rw [bne_eq_false_iff_eq];omega
        have hNl:N=(M ++ List.replicate k (0:UInt8)).length:=by rw [Jk,List.length_replicate,← Hml.out];omega
        obtain ⟨gm,mrest,rfl,rfl,hBm⟩:=hown.blk (by rw [zx,← hNl];omega)
        have hcm:N≤cm:=by rw [hNl];simpa using hown.le
        have hcmx:cm≤maxLen:=by
          rcases hown with h | ⟨_,_,_,_,_,_,h⟩
          · cases h.1
          · exact h
        unfold maxLen at hcmx
        have HkN:=Jm hkN
        have HNl:=Jm hNl
        have HNq:=Jm hNq
        have hgm:=hBm.lt
        have hN64:64≤N:=by omega
        have hq64:64 * q≤N:=by omega
        have hnN:nM≤N:=by omega
        have hRh:RV wr (some ⟨gh,0,none⟩) (yk<|Bl.stR ny M 0):=by rw [Bl.stR_zero];exact fun _=>⟨gh,0,rfl,hBh.lt,fun j _=>by rw [JF];exact hBh.cell j⟩
        have hRm:RV wr (some ⟨gm,0,none⟩) (cellsOf<|M ++ List.replicate k 0):=hown.reads
        clear hn hkN hlt hkk hNl hNq hown hgh hBh hnew hBm
        obtain ⟨wp,rfl⟩:∃ wp:World,wp=wr:=⟨_,rfl⟩
        go_wp2
        go_loopw [6,8,9] (fun h a _ wr=>∃ (i x:Nat) (Ah:Option Addr) (ch:Nat),i≤q + 1∧x=64 * i∧a= .int .i64 (x:Int)∧h= .slice Ah 8 ch∧8≤ch∧RV wr Ah (yk<|Bl.stR ny M i)∧Only [] wp wr) (fun _ a _ _=>N - (intOf a).toNat)
        case atStart=>exact ⟨0,0,_,8,by omega,rfl,rfl,rfl,by omega,hRh,Only.refl _ _⟩
        case round=>
          clear hRh t0 t1 t2
          obtain ⟨i,x,Ah,ch,hi,hx,rfl,rfl,hch,hRh,hOr⟩:=hrel
          by_cases hlt:i≤q
          · have hNq:=HNq.out
            have hxN:x + 64≤N:=by omega
            have hxI:(x:Int) < (N:Int):=by omega
            have hxc:¬cm=x:=by omega
            have hxcI:(x:Int) + 64≤(cm:Int):=by omega
            have hws:=Bl.stR_words (n:=ny) (M:=M) hk i
            have hRb:RV wr (some ⟨gm,x,none⟩) (cellsOf<|((M ++ List.replicate k 0).drop x).take 64):=by
              have h1:=RV.slice rfl (hRm.keep0 hOr) x 64
              rw [JF] at h1
              simpa [cellsOf,List.map_take,List.map_drop] using h1
            have hbl64:(((M ++ List.replicate k (0:UInt8)).drop x).take 64).length=64:=by rw [JE,JA,← HNl.out];omega
            have hnext:Bl.stR ny M (i + 1)=Bl.comp (Bl.stR ny M i) (((M ++ List.replicate k 0).drop x).take 64) (if nM < x + 64 then nM else x + 64) (decide (x + 64=N)):=by
              have h1:=Bl.stR_next (n:=ny) (M:=M) (p:=k) (i:=i) (by rw [← Hml.out,← Hq.out];exact hlt) (by rw [← Hml.out,← Hq.out];exact HkN.out)
              rw [h1,← Hml.out,HkN.out,← hNq,hx]
            have Hx:=Jm hx
            have Hnext:=Jm hnext
            have Hbl64:=Jm hbl64
            have hcases:(nM < x + 64∧x + 64=N)∨(x + 64≤nM∧x + 64=N)∨(x + 64≤nM∧x + 64≠N):=by
              by_cases h1:x + 64=N
              · omega
              · have:=Hq2.out
                omega
            clear hx hnext hbl64 hNq
            rcases hcases with ⟨ha,hb⟩ | ⟨ha,hb⟩ | ⟨ha,hb⟩
            · have haI:(nM:Int) < (x:Int) + 64:=by omega
              have hbI:((x:Int) + 64 == (N:Int))=true:=JT.2 o9
              have Hb:=Jm hb
              clear hb
              go_wp2_with (go_at_call 205;refine (Vn _ Ah _ ch _ _ _ _ _ (((M ++ List.replicate k 0).drop x).take 64) nM true o9 rfl rfl hws Hbl64.out hRh hRb hch o9 o9).mono ?_;rintro e w2 ⟨A',c',G',rfl,hown',hnew',hO'⟩)
              go_roundw
              case rel=>
                refine ⟨i + 1,x + 64,A',c',by omega,by have:=Hx.out;omega,by go_num,rfl,by simpa [(Bl.comp_words hws).1] using hown'.le,?_,hOr.trans' hO'⟩
                rw [Hnext.out,Jh ha,Jo Hb.out]
                exact hown'.reads
              case measure=>simp [intOf];omega
            · have haI:(x:Int) + 64≤(nM:Int):=by omega
              have hbI:((x:Int) + 64 == (N:Int))=true:=JT.2 o9
              have Hb:=Jm hb
              clear hb
              go_wp2_with (go_at_call 205;refine (Vn _ Ah _ ch _ _ _ _ _ (((M ++ List.replicate k 0).drop x).take 64) (x + 64) true o9 rfl rfl hws Hbl64.out hRh hRb hch o9 o9).mono ?_;rintro e w2 ⟨A',c',G',rfl,hown',hnew',hO'⟩)
              go_roundw
              case rel=>
                refine ⟨i + 1,x + 64,A',c',by omega,by have:=Hx.out;omega,by go_num,rfl,by simpa [(Bl.comp_words hws).1] using hown'.le,?_,hOr.trans' hO'⟩
                rw [Hnext.out,Jb o9,Jo Hb.out]
                exact hown'.reads
              case measure=>simp [intOf];omega
            · have haI:(x:Int) + 64≤(nM:Int):=by omega
              have hbI:((x:Int) + 64 == (N:Int))=false:=Xb.2 o9
              have Hb:=Jm hb
              clear hb
              go_wp2_with (go_at_call 205;refine (Vn _ Ah _ ch _ _ _ _ _ (((M ++ List.replicate k 0).drop x).take 64) (x + 64) false o9 rfl rfl hws Hbl64.out hRh hRb hch o9 o9).mono ?_;rintro e w2 ⟨A',c',G',rfl,hown',hnew',hO'⟩)
              go_roundw
              case rel=>
                refine ⟨i + 1,x + 64,A',c',by omega,by have:=Hx.out;omega,by go_num,rfl,by simpa [(Bl.comp_words hws).1] using hown'.le,?_,hOr.trans' hO'⟩
                rw [Hnext.out,Jb o9,Jd Hb.out]
                exact hown'.reads
              case measure=>simp [intOf];omega
          · obtain rfl:i=q + 1:=by omega
            obtain rfl:x=N:=by have:=HNq.out;omega
            have hws:=Bl.stR_words (n:=ny) (M:=M) hk (q + 1)
            obtain ⟨ws,Hws⟩:∃ ws,Hid (ws=Bl.stR ny M (q + 1)):=⟨_,rfl⟩
            rw [← Hws.out] at hws hRh
            obtain ⟨ga,oa,rfl,hga,hca⟩:=hRh (by rw [ZH,hws.1];decide)
            have Hca:=Jm hca
            clear hca hlt hi hx
            obtain ⟨wv,rfl⟩:∃ wv:World,wv=wr:=⟨_,rfl⟩
            go_wp2
            go_loopw [10,11] (fun m i wr=>∃ (k:Nat) (Ao:Option Addr) (co:Nat) (G:Option Nat),k≤8∧i= .int .i64 k∧m= .slice Ao (4 * k) co∧OwnS wr 5 Ao co (cellsOf<|(Bl.leb ws).take<|4 * k) G∧New wv G∧Only [] wv wr) (fun _ i _=>8 - (intOf i).toNat)
            case atStart=>exact ⟨0,none,0,none,by omega,rfl,rfl,OwnS.none _ _,New.none _,Only.refl _ _⟩
            case round=>
              obtain ⟨k,Ao,co,G,hk8,rfl,rfl,hown,hnewo,hOo⟩:=hrel
              by_cases hlt:k < 8
              · have hltI:(k:Int) < 8:=by omega
                obtain ⟨n0,H0⟩:∃ n,Hid (n=ws.getD k 0):=⟨_,rfl⟩
                have l0:n0 < 4294967296:=by rw [H0.out];exact hws.getD _
                have c0:wr.cell? ⟨ga,oa + k,none⟩=some (.int .u32 (n0:Int)):=by
                  rw [hOo.cell (p:=⟨ga,oa + k,none⟩) hga s9,Hca.out k (by rw [ZH,hws.1];exact hlt),H0.out]
                  exact yt (wget hws hlt)
                have hgar:ga < wr.heap.size:=Ju hga hOo.size
                have hgaG:ga∉G.toList:=hnewo.far hga
                go_wp2
                refine Reg.wp G.toList [.r 0,.r 1,.r 2,.r 3,.r 4,.r 5,.r 6,.r 7,.r 8,.r 9,.r 10,.r 11,.r 12,.r 13,.r 14,.r 15,.r 16,.r 17,.r 18,.r 19,.r 20,.r 21,.r 22,.r 23,.e 24,.e 25,.r 26] k9 k9 (fun d _ _ _ _ h=>by cases d <;> exact h) ?_
                simp only [Reg.pick,List.getD_cons_succ,List.getD_cons_zero]
                iterate 24 (apply Reg.read;(· (intro t K hK;go_simp;(try go_ints);(try ((go_ite <;> go_prune);go_simp));(try go_ints);exact hK _ rfl));(· (intro K hK;go_simp;exact hK _ rfl)))
                refine Reg.eff ?_
                go_wp2
                refine ⟨((Only.refl G.toList wr).alloc _).dd,?_⟩
                clear c0
                refine Reg.eff (ZY V (.tmp 82) (.tmp 106) V Ao (4 * k) co _ G V (by simp;omega) ((hown.keep ((Only.refl [] wr).alloc _) s9).drew) (some ⟨wr.heap.size,0,none⟩) 4 4 [UInt8.ofNat n0,UInt8.ofNat<|n0 / 256,UInt8.ofNat<|n0 / 65536,UInt8.ofNat<|n0 / 16777216] V V (RV.new<|zg7 n0 l0).drew (by simp;omega) ?_)
                intro A' c' w2 G' hown2 hO2 hG2
                refine Reg.done hO2 ?_
                (apply Reg.read;(· (intro t K hK;go_simp;(try go_ints);(try ((go_ite <;> go_prune);go_simp));(try go_ints);exact hK _ rfl));(· (intro K hK;go_simp;exact hK _ rfl)))
                refine Reg.fin ?_
                have hO1s:=hOo.size
                have hO2':Only [] wv w2:=((hOo.alloc _).drew).trans hO2 hnewo.out
                clear hO2 hOo hown
                go_wp2
                go_roundw
                case rel=>
                  refine ⟨k + 1,A',c',G',by omega,by go_num,rfl,?_,hnewo.next (JG hO1s s9) hG2,hO2'⟩
                  rw [H0.out,Bl.leb_next ws k hlt] at hown2
                  exact hown2
                case measure=>simp [intOf];omega
              · obtain rfl:k=8:=by omega
                rw [Ji s9,Hws.out,Hq.out,Hml.out,Bl.hashM_stR,HM.out,Hny.out] at hown
                go_wp2
                go_ret
                exact ⟨Ao,co,G,V,hown,hnewo.le<|JG hO.size hOr.size,(hO.trans' hOr).trans' hOo⟩
theorem zaD {P:Program} {fn:Func} {p u:Tmp} {ty:TypeId} (h:fn.results= #[.cell p ty,.tmp u]) (tmps:Array Value) (w:World) (g:Nat) (t:TypeId) (cs:List Value) (d:TypeDesc)
  (hp:tmps.getD p undef= .pointer (some ⟨g,0,none⟩)) (hg:Blk w g t cs)
  (hu:P.underlying ty=some d) (hd:(match d with | .struct _ | .array _ _=>true | _=>false)=true) (hi:(P.info? ty).map (·.size)=some cs.length):
  (results fn tmps).run P w= .ok (.tuple #[.agg cs.toArray,tmps.getD u undef]) w:=by
 have hp':tmps[p]?.getD undef= .pointer (some ⟨g,0,none⟩):=by simpa using hp
 simp [results,h,hp',asAddr,run_loadVar_row w g t ty cs.toArray (0,0) d hg hu hd (by simpa using hi)]
theorem zd0 (w:World) (A:Option Addr) (c:Nat) (key:LB) (hk1:1≤key.length) (hk:key.length≤32) (hc:key.length≤c) (hr:RB w A key)
  (B:Option Addr) (d:Nat) (b:LB) (hd:b.length≤d) (hrb:RB w B b) (hbl:b.length≤2305843009213693952) (hgl:Gl w):
  Calls Tryz.prog 170 #[.slice A key.length c,.slice B b.length d] w fun e w'=>e= .returned (.tuple #[.agg (cellsOf<|Bl.hash key b).toArray,.int .i64 0])∧Only [] w w':=by
 have hl32:(cellsOf<|Bl.hash key b).length=32:=by simp
 have hs32:(Tryz.prog.info? 219).map (·.size)=some (cellsOf<|Bl.hash key b).length:=by rw [hl32];exact Wc
 have Hs32:=Jm hs32;have Hl32:=Jm hl32;clear hl32 hs32
 go_enter Tryz.func170,Tryz.ntmps170
 go_upto_region 1 with (fail)
 have hR1:=Blk.new w 219 (List.replicate 32<|Value.int .u8 0);have hO1:=(Only.refl [] w).alloc (.cells (List.replicate 32<|Value.int .u8 0).toArray 219)
 have hs1:(w.alloc<|.cells (List.replicate 32<|Value.int .u8 0).toArray 219).heap.size=w.heap.size + 1:=by simp
 revert hR1 hO1 hs1
 simp only [Xc,List.replicate_zero]
 generalize World.alloc _ _=W1
 intro hR1 hO1 hs1
 have hs1':w.heap.size < W1.heap.size:=by omega
 clear hs1
 go_wp2_with fail
 have hO2:=hO1.alloc (.cells #[.slice B b.length d] 24);refine (zcr _ A c key hk hc (hr.keep0 hO2) (hgl.keep hO2 s9 s9) W1.heap.size B d b s9 (zgf _ _ _) hd (hrb.keep0 hO2) hbl).mono ?_;rintro e W2 ⟨rfl,hO3⟩;have hR2:=(hR1.alloc<|.cells #[.slice B b.length d] 24).keep hO3 s9;have hO4:=hO2.trans' hO3
 go_wp2_with (refine YZ rfl 219 _ _ rfl w.heap.size (cellsOf<|Bl.hash key b) rfl rfl 219 _ hR2 (by rw [Hl32.out];rfl) Hs32.out Yd ?_;intro W5 hR5 hO5)
 exact bodyPost_ret (zaD V _ _ w.heap.size 219 (cellsOf<|Bl.hash key b) _ V hR5 Tryz.underlying219 V Hs32.out) V ⟨V,hO4.trans hO5 s9⟩
namespace Sx
section
theorem zej (key b:LB) (hk1:1≤key.length) (hk:key.length≤32) (hb:b.length≤2305843009213693952):Con Tryz.prog 170 [bD key,bD b] (Yk [gD<|Bl.hash key b,iD 0]):=by
 refine ⟨enters_of Tryz.func170 k9 V,fun L w vs hL hG ha=> ?_⟩;obtain ⟨u,v,rfl,hu,hv⟩:=zdB ha;obtain ⟨A,c,rfl,hc,hr⟩:=KN hu;obtain ⟨B,d,rfl,hd,hs⟩:=KN hv;refine (zd0 w A c key hk1 hk hc (zcX hr) B d b hd (zcX hs) hb hG).mono ?_;rintro r w' ⟨rfl,ho⟩;exact ⟨_,V,⟨_,V,V,V,t9⟩,ho⟩
theorem con_hashK (key b:LB) (hk:key.length≤32) (hb:b.length≤1099511627):Con Tryz.prog 175 [bD key,bD b] (bD<|Bl.hash key b):=by
 refine ⟨enters_of Tryz.func175 k9 V,fun L w vs hL hG ha=> ?_⟩;obtain ⟨u,v,rfl,hu,hv⟩:=zdB ha;obtain ⟨A0,c0,rfl,hc0,hr0⟩:=KN hu;obtain ⟨A,c,rfl,hc,hr⟩:=KN hv;refine (zc5 w A0 A c0 c key b hk hr0 hr hc0 hc hb).mono ?_;rintro r w' ⟨A',c',G,rfl,hO,hN,ho⟩;refine ⟨_,V,⟨A',c',by rw [zx,Bl.hash_length],?_,hO.reads,fun _ p hp hm=> ?_⟩,ho⟩
 ·rcases hO with ⟨_,_,h,_⟩ | ⟨g,r,_,_,_,h,_⟩
  ·have:=JY List.length h;simp at this
  ·omega
 ·rcases hO with ⟨h,_⟩ | ⟨g,r,h1,h2,_⟩
  ·rw [h] at hp;cases hp
  ·rw [h1] at hp;injection hp with hp;subst hp;have:=hN g h2;have:=hL _ hm;simp only at *;omega
end
section
theorem rep_step {h:LB} {i:Nat} (hi:i < h.length):(h.take i ++ List.replicate (h.length - i) 0).set i h[i]=h.take (i + 1) ++ List.replicate (h.length - (i + 1)) 0:=by
 apply Xh;intro q
 by_cases hq:q < h.length
 ·rw [List.getElem?_set]
  by_cases e:i=q
  ·subst e;rw [Jh rfl,Jh (by simp;omega),JB (by simp;omega),JP,Jh o9,Je hi]
  ·rw [Jb e]
   by_cases h2:q < i
   ·rw [JB (by simp;omega),JB (by simp;omega),JP,JP,Jh h2,Jh o9]
   ·rw [JR (by simp;omega),JR (by simp;omega)];rw [Xj,Xj,Jh (by simp;omega),Jh (by simp;omega)]
 ·rw [JM (by simp;omega),JM (by simp;omega)]
def Y5 (l:List Acc.T) (nm q:LB):Int:=match Acc.find l nm with | none=>9 | some _=>if 65536 < q.length then 5 else 0
def Z4 (l:List Acc.T) (nm q:LB):LB:=match Acc.find l nm with | none=>[] | some x=>if 65536 < q.length then [] else Bl.hash x.key q
theorem j0 {l:List Acc.T} {nm q:LB} (h:Acc.find l nm=none):Z4 l nm q=[]∧Y5 l nm q=9:=by unfold Z4 Y5;rw [h];exact ⟨rfl,rfl⟩
theorem jz {l:List Acc.T} {nm q:LB} {x:Acc.T} (h:Acc.find l nm=some x) (hq:65536 < q.length):Z4 l nm q=[]∧Y5 l nm q=5:=by unfold Z4 Y5;rw [h];exact ⟨Jh hq,Jh hq⟩
theorem YW {l:List Acc.T} {nm q:LB} {x:Acc.T} (h:Acc.find l nm=some x) (hq:¬65536 < q.length):Z4 l nm q=Bl.hash x.key q∧Y5 l nm q=0:=by unfold Z4 Y5;rw [h];exact ⟨Jb hq,Jb hq⟩
def jH (E:Int) (T tg:LB):Int:=if E≠0 then E else if T=tg then 0 else 10
def Yi (l:List Acc.T) (nm q tg:LB):Int:=jH (Y5 l nm q) (Z4 l nm q) tg
theorem zel (h:LB) (hh:h.length=32):ConN Tryz.prog 174 [bD h] (gD h):=by
 refine yO Tryz.func174 k9 V k9 fun base w0=>(zp (SWl.e2 (S:=[]) (zM (zs:=cellsOf<|List.replicate 32 0) k9 V) fun g2=>(zV (SWl.e2 (S:=[]) (zM (zs:=cellsOf<|List.replicate 32 0) k9 V) fun g3=>(ze<|zk<|zp<|zf V<|ze<|zX<|Zw (ι:={i:Nat // i≤32}) (fun i=>zN [(0,bD h),(2,pA g2),(3,pA g3),(4,iD (i.1:Int))] [.c g2<|(cellsOf<|List.replicate 32 0).map isD,.c g3<|(cellsOf<|h.take i.1 ++ List.replicate (h.length - i.1) 0).map isD]) (fun i=>32 - i.1) (⟨0,by omega⟩) ?_ ?_)))))
 ·exact ⟨⟨_,V,(sT V)⟩,[0,1],by decide,⟨la rfl,⟨⟨_,rfl,(by rw [hh];exact yl _)⟩,trivial⟩⟩⟩
 ·rintro ⟨i,hi⟩ K0 hK0;dsimp only;refine zk (zp<|zd V<|za V (yF V V)<|ze<|zJ V (fun hb6=> ?_) (fun hb6=> ?_))
  ·have hb6:=oT hb6;exact zr (zn<|zk<|zX<|zi<|zd V<|zd V<|zd V<|za V (Rd.idx (e:=5) V V k9 k9 o9<|Vo o9)<|za V (YF V k9 s9)<|za V (Rd.idxA1 (e:=5) (n:=32) V V k9 k9 o9 o9)<|zt (S:=[_]) (zhU (v:=h[i]'o9) 1 V V V k9 (by simp;omega)<|m9 V)<|zP<|yc<|zn<|zi<|zd V<|za V (yC V V ⟨by omega,by omega⟩)<|zf V<|zP (fun a w hh=>hK0 (⟨i + 1,by omega⟩) (by simp only;omega) a w<|hh.sub<|⟨⟨_,V,(sT V)⟩,[0,1],by decide,⟨la rfl,⟨⟨_,rfl,(by rw [← rep_step o9];exact yl _)⟩,trivial⟩⟩⟩))
  ·have hb6:=oF hb6;refine yZ ?_
   repeat (first | refine Ze ?_ | refine Zf d9 ?_)
   refine Zn (zn<|zp<|za V (Kq 1 32 V V k9 (by first | assumption | (simp;done) | (simp;omega)) zh)<|zt (S:=[_]) (Yo 0 32 V V V k9 (by first | assumption | (simp;done) | (simp;omega)) (by first | assumption | (simp;done) | (simp;omega))<|m9 V)<|ze<|zK (fn:=Tryz.f174) (fun _ _ h=>h)<|Rs.le (Rs.one V<|jY (n:=32) 0 V V k9 (by first | assumption | (simp;done) | (simp;omega))) ?_)
   have e:i=32:=by omega
   subst e;exact Le.trans (KW _) (Le.trans (zF (by rw [hh];simp [← hh])) zu)
theorem zhp (key b:LB) (hk:key.length≤32) (hb:b.length≤1000000):ConN Tryz.prog 177 [bD key,bD b] (gD<|Bl.hash key b):=by
 refine yO Tryz.func177 k9 V k9 fun base w0=>(zp (SWl.e2 (S:=[]) (zM (zs:=cellsOf<|List.replicate 32 0) k9 V) fun g4=>(zV<|zd V<|zd V<|zt (S:=[]) (zY (con_hashK key b hk o9) V ⟨zb _,zb _,t9⟩ V)<|zt (S:=[]) (zD [] (zel _ s9) V ⟨(zo<|zb _),t9⟩ V)<|zt (S:=[_]) (Yo 0 32 V V V k9 (by first | assumption | (simp;done) | (simp;omega)) (by first | assumption | (simp;done) | (simp;omega))<|m9 V)<|ze<|zK (fn:=Tryz.f177) (fun _ _ h=>h)<|Rs.le (Rs.one V<|jY (n:=32) 0 V V k9 (by first | assumption | (simp;done) | (simp;omega))) ?_)))
 exact (Le.trans (KW _) zu)
theorem zbr (a b:LB):ConN Tryz.prog 98 [bD a,bD b] (yj<|decide (a=b)):=by
 refine yO Tryz.func98 k9 V k9 fun base w0=>(zp<|zf V<|zV<|zd V<|za V (qP (e:=5) V k9 k9 k9 s9)<|zd V<|za V (qP (e:=5) V k9 k9 k9 s9)<|za V (zbB (p:=a) (q:=b) V V)<|zf V<|ze<|zK (fn:=Tryz.f98) (fun _ _ h=>h)<|Rs.le (Rs.one V<|zj V) ?_);exact zu
theorem con_tag (gb:Nat) (s:Bst) (l:List Acc.T) (nm q:LB) (hf:Acc.Fine l) (hq:q.length≤1000000):ConR Tryz.prog 135 [.c gb [isD<|.map<|s.M.map Prod.fst,isD<|.slice s.n.A (Acc.nm l).length s.n.c,isD<|.map<|s.M.map Prod.snd],.r s.n.F<|yP 9 1 YM s.n.A s.n.c<|Acc.nm l,.r s.F1<|Zc (s.M.map Prod.fst) Zi (Acc.nm l)<|acD l,.r s.F2<|Zc (s.M.map Prod.snd) Zy (Acc.seats l)<|seD l] [pA gb,yY nm,bD q] (fun _:Unit=>[.c gb [isD<|.map<|s.M.map Prod.fst,isD<|.slice s.n.A (Acc.nm l).length s.n.c,isD<|.map<|s.M.map Prod.snd],.r s.n.F<|yP 9 1 YM s.n.A s.n.c<|Acc.nm l,.r s.F1<|Zc (s.M.map Prod.fst) Zi (Acc.nm l)<|acD l,.r s.F2<|Zc (s.M.map Prod.snd) Zy (Acc.seats l)<|seD l]) (fun _:Unit=>Yk [bD<|Z4 l nm q,iD<|Y5 l nm q]):=by
 refine yg Tryz.func135 k9 V k9 fun base w0=>(zp<|zf V<|zf V<|zV<|zd V<|zd V<|zt (S:=[]) (zD [0,2,1,3] (zdh l nm hf) V ⟨(yG 0 V d9 ⟨(yV 2 V d9),(YC 1 V d9),(yV 3 V d9),t9⟩),(zo<|zb _),t9⟩ V)<|zd V<|za V (zm V V)<|za V (zm V V) (SWl.e2 (S:=[]) (zM (zs:=[.string ⟨#[]⟩,.int .i64 0,.slice none 0 0,.int .i64 0,.int .i64 0]) k9 V) fun g8=>(zt (S:=[_]) (zw 4 V V V k9 V<|m9 V)<|zf V<|ze<|zk<|zk ?_)));rcases hx:Acc.find l nm with _ | x
 ·have hg:=jb hx;refine zO (σ':=zN [(2,_),(8,_),(9,iD 9)] [.c gb [isD<|.map<|s.M.map Prod.fst,isD<|.slice s.n.A (Acc.nm l).length s.n.c,isD<|.map<|s.M.map Prod.snd],.r s.n.F<|yP 9 1 YM s.n.A s.n.c<|Acc.nm l,.r s.F1<|Zc (s.M.map Prod.fst) Zi (Acc.nm l)<|acD l,.r s.F2<|Zc (s.M.map Prod.snd) Zy (Acc.seats l)<|seD l,.c g8 [yY Acc.zero.name,iD Acc.zero.role,bD Acc.zero.key,iD Acc.zero.dep,iD Acc.zero.num]]) (⟨⟨_,V,⟨lq V,⟨lq V,⟨⟨_,V,zF (by rw [hg.2])⟩,t9⟩⟩⟩⟩,[0,1,2,3,4],by decide,⟨la rfl,⟨lR rfl,⟨lR rfl,⟨lR rfl,⟨⟨_,rfl,(by rw [hg.1];exact yl _)⟩,trivial⟩⟩⟩⟩⟩⟩) (zi<|zd V<|za V (ye V V)<|ze<|zW V d9<|zp<|zd V<|zf V<|zf V<|ze<|zQ (fn:=Tryz.f135) (()) [0,1,2,3] (fun _ _ h=>h) (Rs.le (ym V (zj V)<|zj V) ?_) d9<|sX V);exact yn ⟨by rw [(j0 hx).1];exact Zz,zF (by rw [(j0 hx).2]),trivial⟩
 ·have hg:=YX hx;have hkl:=(hf.oks x (Acc.find_some hx).1).2.1;refine zO (σ':=zN [(2,_),(8,_),(9,iD 0)] [.c gb [isD<|.map<|s.M.map Prod.fst,isD<|.slice s.n.A (Acc.nm l).length s.n.c,isD<|.map<|s.M.map Prod.snd],.r s.n.F<|yP 9 1 YM s.n.A s.n.c<|Acc.nm l,.r s.F1<|Zc (s.M.map Prod.fst) Zi (Acc.nm l)<|acD l,.r s.F2<|Zc (s.M.map Prod.snd) Zy (Acc.seats l)<|seD l,.c g8 [yY x.name,iD x.role,bD x.key,iD x.dep,iD x.num]]) (⟨⟨_,V,⟨lq V,⟨lq V,⟨⟨_,V,zF (by rw [hg.2])⟩,t9⟩⟩⟩⟩,[0,1,2,3,4],by decide,⟨la rfl,⟨lR rfl,⟨lR rfl,⟨lR rfl,⟨⟨_,rfl,(by rw [hg.1];exact yl _)⟩,trivial⟩⟩⟩⟩⟩⟩) (zi<|zd V<|za V (ye V V)<|ze<|zE V d9<|zr<|zn<|zk<|zp<|zd V<|za V (ZC (e:=5) V k9)<|za V (Zq V V)<|ze<|zJ V (fun hb22=> ?_) (fun hb22=> ?_))
  ·have h22:65536 < q.length:=by have h:=oT hb22;simp at h;omega
   refine zp (zf V<|zf V<|ze<|zQ (fn:=Tryz.f135) (()) [0,1,2,3] (fun _ _ h=>h) (Rs.le (ym V (zj V)<|zj V) ?_) d9<|sX V);exact yn ⟨by rw [(jz hx h22).1];exact Zz,zF (by rw [(jz hx h22).2]),trivial⟩
  ·have h22:¬65536 < q.length:=by have h:=oF hb22;simp at h;omega
   refine zr (zn<|zp<|za V (zc (n:=2) V k9)<|za V (zg 4 V V V k9 zh)<|zd V<|zt (S:=[]) (zY (zej x.key q o9 o9 o9) V ⟨zb _,zb _,t9⟩ V)<|zd V<|za V (zm V V)<|za V (zm V V) (SWl.e2 (S:=[]) (zM (zs:=cellsOf<|List.replicate 32 0) k9 V) fun g10=>(zt (S:=[_]) (Yo 5 32 V V V k9 (by first | assumption | (simp;done) | (simp;omega)) (by first | assumption | (simp;done) | (simp;omega))<|m9 V)<|zf V<|ze<|zk<|zp<|zd V<|za V (ye V V)<|ze<|zE V d9<|zr<|zn<|zp<|za V (Ko (e:=5) (n:=32) V k9 k9)<|WN 33 5 (cellsOf<|Bl.hash x.key q) V V (by first | rfl | (simp;done)) d9 V<|zf V<|zf V<|ze<|zQ (fn:=Tryz.f135) (()) [0,1,2,3] (fun _ _ h=>h) (Rs.le (ym V (zj V)<|zj V) ?_) d9<|sX V)))
   exact yn ⟨by rw [(YW hx h22).1];exact zb _,zF (by rw [(YW hx h22).2]),trivial⟩
theorem con_tagR (l:List Acc.T) (nm q:LB) (hf:Acc.Fine l) (hq:q.length≤1000000):ConN Tryz.prog 142 [Zo [lsD Yz l],yY nm,bD q] (Yk [yY<|Z4 l nm q,iD<|Y5 l nm q]):=by
 refine yO Tryz.func142 k9 V k9 fun base w0=>(zp (SWl.e2 (S:=[]) (yv V V) fun g3=>(zf V<|zf V<|zV<|za V (zA 0 1 V V k9 V zh)<|zd V<|zt (S:=[]) (zD [] (con_AtR l nm (by have:=hf.len;omega)) V ⟨(ZQ ⟨(zo<|zb _),t9⟩),(zo<|zb _),t9⟩ V)<|zf V<|ze<|zk<|zk ?_)));rcases zeW l nm with ⟨he,hx⟩ | ⟨i,x,he,hi,hx⟩
 ·skip
  refine zO (σ':=zN [(2,bD q),(3,pA g3),(8,iD<|-1)] [.c g3 [lsD Yz l]]) (⟨⟨_,V,⟨lq V,⟨lq V,⟨⟨_,V,zF (by rw [he])⟩,t9⟩⟩⟩⟩,[0],by decide,⟨la rfl,trivial⟩⟩) (zi<|zd V<|za V (yF V V)<|ze<|zW V d9<|zp<|zf V<|zf V<|ze<|zK (fn:=Tryz.f142) (fun _ _ h=>h)<|Rs.le (ym V (zj V)<|zj V) ?_);rw [(j0 hx (q:=q)).1,(j0 hx (q:=q)).2];exact Zx ⟨zu,zu,trivial⟩
 ·have hil:=(List.getElem?_eq_some_iff.1 hi).1;have hkl:=(hf.oks x (Acc.find_some hx).1).2.1;refine zO (σ':=zN [(2,bD q),(3,pA g3),(8,iD (i:Int))] [.c g3 [lsD Yz l]]) (⟨⟨_,V,⟨lq V,⟨lq V,⟨⟨_,V,zF (by rw [he])⟩,t9⟩⟩⟩⟩,[0],by decide,⟨la rfl,trivial⟩⟩) (zi<|zd V<|za V (yF V V)<|ze<|zE V s9<|zr<|zn<|zk<|zp<|zd V<|za V (ZC (e:=5) V k9)<|za V (Zq V V)<|ze<|zJ V (fun hb17=> ?_) (fun hb17=> ?_))
  ·have h22:65536 < q.length:=by have h:=oT hb17;simp at h;omega
   refine zp (zf V<|zf V<|ze<|zK (fn:=Tryz.f142) (fun _ _ h=>h)<|Rs.le (ym V (zj V)<|zj V) ?_);rw [(jz hx h22).1,(jz hx h22).2];exact Zx ⟨zu,zu,trivial⟩
  ·have h22:¬65536 < q.length:=by have h:=oF hb17;simp at h;omega
   refine zr (zn<|zp<|za V (zc (n:=0) V k9)<|za V (zg 0 V V V k9 zh)<|zd V<|za V (yp (e:=121) 5 V V k9 k9 o9 (by simpa using hi))<|za V (yb (n:=2) V k9 (show 2 < 5 by decide))<|za V (ya V V k9 s9)<|zd V<|zt (S:=[]) (zD [] (zhp x.key q o9 hq) V ⟨(zo<|zb _),(zo<|zb _),t9⟩ V) (SWl.e2 (S:=[]) (zM (zs:=cellsOf<|List.replicate 32 0) k9 V) fun g9=>(zt (S:=[_]) (Yo 1 32 V V V k9 (by first | assumption | (simp;done) | (simp;omega)) (by first | assumption | (simp;done) | (simp;omega))<|m9 V)<|zV<|za V (Ko (e:=5) (n:=32) V k9 k9)<|za V (zeN (e:=5) 1 V V (by first | assumption | (simp;done) | (simp;omega)) k9 k9 k9 zh)<|zf V<|zf V<|ze<|zK (fn:=Tryz.f142) (fun _ _ h=>h)<|Rs.le (ym V (zj V)<|zj V) ?_)))
   rw [(YW hx h22).1,(YW hx h22).2];exact Zx ⟨zu,zu,trivial⟩
theorem zhe (gb:Nat) (s:Bst) (l:List Acc.T) (nm q tg:LB) (hf:Acc.Fine l) (hq:q.length≤1000000):ConR Tryz.prog 165 [.c gb [isD<|.map<|s.M.map Prod.fst,isD<|.slice s.n.A (Acc.nm l).length s.n.c,isD<|.map<|s.M.map Prod.snd],.r s.n.F<|yP 9 1 YM s.n.A s.n.c<|Acc.nm l,.r s.F1<|Zc (s.M.map Prod.fst) Zi (Acc.nm l)<|acD l,.r s.F2<|Zc (s.M.map Prod.snd) Zy (Acc.seats l)<|seD l] [pA gb,yY nm,bD q,bD tg] (fun _:Unit=>[.c gb [isD<|.map<|s.M.map Prod.fst,isD<|.slice s.n.A (Acc.nm l).length s.n.c,isD<|.map<|s.M.map Prod.snd],.r s.n.F<|yP 9 1 YM s.n.A s.n.c<|Acc.nm l,.r s.F1<|Zc (s.M.map Prod.fst) Zi (Acc.nm l)<|acD l,.r s.F2<|Zc (s.M.map Prod.snd) Zy (Acc.seats l)<|seD l]) (fun _:Unit=>iD<|Yi l nm q tg):=by
 refine yg Tryz.func165 k9 V k9 fun base w0=>(zp<|zf V<|zV<|zd V<|zd V<|zd V (SWl.e2 (zC [0,1,2,3] (con_tag gb s l nm q hf hq) V ⟨zb _,zb _,zb _,t9⟩ d9 (sX V) (fun _ h=>h) V) fun _=>(zd V<|za V (zm V V)<|za V (zm V V)<|zf V<|zf V<|ze<|zk<|zp<|zd V<|za V (ye V V)<|ze<|zJ V (fun hb19=> ?_) (fun hb19=> ?_))))
 ·have h19:Y5 l nm q≠0:=by simpa using hb19
  refine zp (zd V<|zf V<|ze<|zQ (fn:=Tryz.f165) (()) [0,1,2,3] (fun _ _ h=>h) (Rs.le (Rs.one V<|zj V) ?_) d9<|sX V);exact zF (by unfold Yi jH;rw [Jh h19])
 ·have h19:¬Y5 l nm q≠0:=by simpa using hb19
  refine zr (zn<|zk<|zp<|zd V<|zd V<|zt (S:=[]) (zD [] (zbr (Z4 l nm q) tg) V ⟨(zo<|zb _),(zo<|zb _),t9⟩ V)<|za V (yS V)<|ze<|zJ V (fun hb24=> ?_) (fun hb24=> ?_))
  ·have h24:¬Z4 l nm q=tg:=by simpa using hb24
   refine zp (zf V<|ze<|zQ (fn:=Tryz.f165) (()) [0,1,2,3] (fun _ _ h=>h) (Rs.le (Rs.one V<|zj V) ?_) d9<|sX V);exact zF (by unfold Yi jH;rw [Jb h19,Jb h24])
  ·have h24:Z4 l nm q=tg:=by simpa using hb24
   refine zr (zn<|zp<|zf V<|ze<|zQ (fn:=Tryz.f165) (()) [0,1,2,3] (fun _ _ h=>h) (Rs.le (Rs.one V<|zj V) ?_) d9<|sX V);exact zF (by unfold Yi jH;rw [Jb h19,Jh h24])
end
section
section
variable {P:Program}{Γ:Cx}{σ:St}{S:List Nat}{ty:TypeId}{pos:String}{af:Array Edge}{gd:Option (Nat × Bool)}
theorem str_cells (s:LB):Go.Lib.strCells ⟨s.toArray⟩=cellsOf s:=by simp [Go.Lib.strCells,cellsOf,B8]
theorem zbQ (w:World) (t u ty e:TypeId) (i:TypeInfo) (ht:P.underlying t=some (.slice e)) (hu:P.underlying u=some .string) (hi:P.info? e=some i) (hz:i.zero=some (.int .u8 0))
  (hsize:i.size=1) (hby:i.bytes=1) (v:Value) (n:Nat) (xs:List Value) (hown:w.ownsRow 0 e 1 v n xs) (s:ByteArray) (hl:n + s.size≤1099511627776):
  ∃ v' w',(Builtin.append_ #[t,u] ty #[v,.string s]).run P w= .ok v' w'∧w'.ownsRow 0 e 1 v' (n + s.size) (xs ++ Go.Lib.strCells s)∧w.grownBy w' v.ownBlock∧(v'.ownBlock=v.ownBlock∨v'.ownBlock=some w.heap.size):=by
 obtain ⟨v',w',hr,h2,h3,h4⟩:=Go.Lib.run_append_own_string (P:=P) w 0 t u ty e i ht hu hi hz hsize hby v n xs hown s (by unfold maxLen;omega) o9 (JC _);refine ⟨v',w',hr,h2,h3,?_⟩
 have hxl:xs.length=n:=by simpa using hown.1
 rcases hown.2 with ⟨rfl,rfl⟩ | ⟨g,cap,cur,rfl,hbg,hg,hnc,hcm,hcs,htake⟩
 ·by_cases hm:s.size=0
  ·exact .inl (by rw [h4.2 ⟨rfl,hm⟩])
  ·have hr':=run_append_nil_string (P:=P) w t u ty e i (.int .u8 0) ht hu hi hz s o9 o9 (by rw [hby];omega);rw [hr'] at hr;injection hr with e1 e2;exact .inr (by rw [← e1];rfl)
 ·by_cases hroom:n + s.size≤cap
  ·have hcs':cur.size=cap:=by simpa using hcs
   have hr':=Go.Lib.run_append_room_string (P:=P) w t u ty e i ht hu hi hsize g n cap cur hg s hroom o9;rw [hr'] at hr;injection hr with e1 e2;exact .inl (by rw [← e1];rfl)
  ·have hr':=Go.Lib.run_append_grow_string (P:=P) w t u ty e i (.int .u8 0) ht hu hi hz ⟨g,0,none⟩ n cap xs (by rw [hsize];simpa using hxl) (hown.cells (g:=g) rfl) s o9 o9 (by rw [hby];exact growslice_fits o9 o9);rw [hr'] at hr;injection hr with e1 e2;exact .inr (by rw [← e1];rfl)
theorem Ef.appStr {x y:Operand} {T u e k c:Nat} {A:Option Addr} {F:LN} {b s:LB} (j:Nat) (hx:σ.ev x=some (isD<|.slice A b.length c)) (hj:σ.bx[j]? =some (.r F<|yP e 1 Yt A c b)) (hy:σ.ev y=some (yY s)) (hT:ZS P T e=true) (hU:jA P u=true) (hE:elT P e 1 1=true)
  (hz0:(P.info? e).map (·.zero)=some (some<|.int .u8 0)) (hlen:b.length + s.length≤1099511627776) (hS:∀ g∈F,g∈S) (hk:yE Γ.nt k=true):
  Ef P Γ S ⟨some k,.call { callee:= .builtin .append,args:= #[x,y],argTypes:= #[T,u] },ty,pos,af,gd⟩ σ (fun σ'=>∃ A' F' c',σ'=(σ.give [j] [.r F'<|yP e 1 Yt A' c'<|b ++ s]).put k (isD<|.slice A' (b ++ s).length c')):=by
 intro a w hh K Q hK;have hxv:a.eval x= .slice A b.length c:=zT hh hx;have hyv:a.eval y= .string ⟨s.toArray⟩:=zT hh hy;obtain ⟨i,z,hI,h1,h2,h3,h4⟩:=qR hE;rw [hI] at hz0
 obtain rfl:z= .int .u8 0:=by
  have:i.zero=some (.int .u8 0):=by simpa using hz0
  rw [this] at h3;injection h3 with h3;exact h3.symm
 obtain ⟨xs,ha,hown,hF⟩:=hh.resAt hj
 have hsz:(⟨s.toArray⟩:ByteArray).size=s.length:=by simp [ByteArray.size]
 obtain ⟨v',w',hrun,ho2,hgr,hblk⟩:=zbQ (P:=P) w T u ty e i (yo hT) (YA hU) hI h3 h1 h2 _ _ xs hown ⟨s.toArray⟩ (by rw [hsz];omega);rw [hsz,str_cells] at ho2
 have hOn:Only F w w':=by rw [hF];exact Only.of_grown hgr
 have hFL:∀ x∈F,x∈σ.L Γ:=fun x hx=>mL _ (yD.2 ⟨_,Jc hj,hx⟩);have hsub:SubBx σ.bx [j] [.r F<|yP e 1 Yt A c b]:=⟨⟨_,hj,yu _⟩,trivial⟩
 have hfp:fps [Box.r F<|yP e 1 Yt A c b]=F:=by simp [fps,Box.fp]
 obtain ⟨A',c',rfl⟩:∃ A' c',v'= .slice A' (b.length + s.length) c':=by
  rcases ho2.2 with ⟨h5,h6⟩ | ⟨g,cap,cur,h5,_⟩
  ·exact ⟨none,0,by rw [h5];congr 1;omega⟩
  ·exact ⟨_,_,h5⟩
 have hF':∀ g∈(Value.slice A' (b.length + s.length) c').ownBlock.toList,g∈F∨w.heap.size≤g:=fun g hg=>by
  rcases hblk with h | h
  ·left;rw [hF,← h];exact hg
  ·right;rw [h] at hg;simp at hg;omega
 have hnd:((Value.slice A' (b.length + s.length) c').ownBlock.toList).Nodup:=by
  cases (Value.slice A' (b.length + s.length) c').ownBlock <;> simp
 have hall:All ((Value.slice A' (b.length + s.length) c').ownBlock.toList ++ (σ.L Γ).filter (· ∉F)) w' ((b ++ s).flatMap Yt) (xs ++ cellsOf s):=by
  have h5:All (σ.L Γ ++ ((Value.slice A' (b.length + s.length) c').ownBlock.toList ++ (σ.L Γ).filter (· ∉F))) w' ((b ++ s).flatMap Yt) (xs ++ cellsOf s):=by
   rw [List.flatMap_append,Y9 s];refine ((ha.append<|qN<|cellsOf s).less (fun x hx=> ?_)).keep hOn (fun x hx=>mL _<|hFL x hx);rcases Jf.1 hx with hx | hx
   ·exact .inl hx
   ·rcases Jf.1 hx with hx | hx
    ·rcases hF' x hx with h | h
     ·exact .inl (hFL x h)
     ·exact .inr h
    ·exact .inl (Jw.1 hx).1
  exact h5.less (fun x hx=> .inl<|mR _ hx)
 obtain ⟨h6,h7⟩:=hh.give (post:=[.r (Value.slice A' (b.length + s.length) c').ownBlock.toList<|zbF e 1 A' (b.length + s.length) c'<|(b ++ s).flatMap Yt]) hsub (by rw [hfp];exact hOn) (fun bx hb=>by
  rw [Ja.1 hb];refine ⟨xs ++ cellsOf s,?_,ho2,V⟩;rw [hfp]
  simpa [fps,Box.fp] using hall) (by simpa [fps,Box.fp] using hnd) (fun x hx=>by
  rw [hfp]
  exact hF' x (by simpa [fps,Box.fp] using hx))
 have e2:(execOp a.eval ⟨some k,.call { callee:= .builtin .append,args:= #[x,y],argTypes:= #[T,u] },ty,pos,af,gd⟩).run P w= .ok (.value<|.slice A' (b.length + s.length) c') w':=by
  simp only [execOp,resolve,invoke,builtin,JD,JK,Jv,List.map_toArray,JU,XC,hxv,hyv,hrun]
 unfold Oper.wp;rw [e2];refine hK _ _ _ ⟨A',(Value.slice A' (b.length + s.length) c').ownBlock.toList,c',?_⟩ (h6.put (by simpa [yE] using hk) (d:=isD<|.slice A' (b.length + s.length) c') V) (hOn.mono (fun x hx _=>hS x hx));unfold yP;rw [Jk]
end
end
section
section
variable {P:Program}{Γ:Cx}{σ:St}{S:List Nat}{dst:Option Tmp}{ty:TypeId}{pos:String}{af:Array Edge}{gd:Option (Nat × Bool)}
theorem KT {fn:Fn} {bp:Array Operand} (cs:List Value) (hc:σ.evs bp.toList=some (cs.map isD)):Rd P Γ S ⟨dst,.makeFunc fn bp #[],ty,pos,af,gd⟩ σ (isD<|.func fn cs.toArray #[]):=by
 intro a w hh;have hall:=ZW hh hc
 have key:∀ {zs cs:List Value},All (σ.L Γ) w (zs.map isD) cs→cs=zs:=by
  intro zs
  induction zs with
  | nil=>intro cs h;cases cs with | nil=>rfl | cons=>exact h.elim
  | cons z zs ih=>intro cs h;cases cs with | nil=>exact h.elim | cons c cs=>rw [ih h.2,show c=z from h.1]
 have e:bp.map a.eval=cs.toArray:=by
  apply Xe;simpa using key hall
 exact ⟨_,V,fun w' _=>by simp [execOp,Instr.makeFunc,e]⟩
theorem run_callB {a:Act} {w:World} {x:Operand} {f:FuncId} {args:Array Operand} {aT:Array TypeId} {bd:List Value} (hen:ju P f) (hx:a.eval x= .func (.func f) bd.toArray #[]):
  (execOp a.eval ⟨dst,.call { callee:= .value x,args:=args,argTypes:=aT },ty,pos,af,gd⟩).run P w= .ok (.enter f (bd ++ args.toList.map a.eval).toArray) w:=by
 have h:=hen (bd ++ args.toList.map a.eval).toArray w
 have e1:bd.toArray ++ (args.map a.eval)=(bd ++ args.toList.map a.eval).toArray:=by apply Xe;simp
 simp only [execOp,resolve,hx,Deferred.ofValue,JD,JK,Jv,invoke,Array.append_empty];rw [e1];exact h
theorem all_bd {L:LN} {w:World} {es:List D} {vs:List Value} (bd:List Value) (h:All L w es vs):All L w (bd.map isD ++ es) (bd ++ vs):=(qN bd).append h
theorem Wm {x:Operand} {f:FuncId} {args:Array Operand} {aT:Array TypeId} {bd:List Value} {pre:List Box} {ad es:List D} {ι:Type} {post:ι→List Box} {d:ι→D} {k:Nat} (js:LN) (hcon:ConR P f pre ad post d) (hx:σ.ev x=some (isD<|.func (.func f) bd.toArray #[])) (he:σ.evs args.toList=some es) (hl:LeAll (bd.map isD ++ es) ad) (hjs:js.Nodup) (hs:SubBx σ.bx js pre) (hS:∀ g∈fps pre,g∈S) (hk:yE Γ.nt k=true):
  Ef P Γ S ⟨some k,.call { callee:= .value x,args:=args,argTypes:=aT },ty,pos,af,gd⟩ σ (fun σ'=>∃ i,σ'=(σ.give js<|post i).put k (d i)):=by
 intro a w hh K Q hK;have hall:=hl.all (all_bd bd<|ZW hh he);unfold Oper.wp;rw [run_callB hcon.en (show a.eval x=_ from zT hh hx)];simp only [Oper.upon];refine (upon_R hcon hh hjs hs hall).mono ?_;rintro r w' ⟨i,v,rfl,h1,h2,ho⟩;exact hK _ _ _ ⟨i,V⟩ (h1.put (by simpa [yE] using hk) h2) (ho.mono (fun x hx _=>hS x hx))
end
end
section
def grp (n:Nat):LB:=if h:n < 128 then [UInt8.ofNat n] else UInt8.ofNat (n % 128 + 128) :: grp (n / 128)
termination_by n
decreasing_by omega
theorem VS {n:Nat} (h:n < 128):grp n=[UInt8.ofNat n]:=by rw [grp,dif_pos h]
theorem grp_ge {n:Nat} (h:¬n < 128):grp n=UInt8.ofNat (n % 128 + 128) :: grp (n / 128):=by rw [grp,dif_neg h]
theorem grp_len:∀ (k n:Nat),n < 128 ^ (k + 1)→(grp n).length≤k + 1
 | 0,n,h=>by rw [VS (by simpa using h)];simp
 | k + 1,n,h=>by
  by_cases h1:n < 128
  ·rw [VS h1];simp
  ·rw [grp_ge h1,Xm];have:=grp_len k (n / 128) (Nat.div_lt_of_lt_mul (by rw [XI] at h;omega));omega
theorem Zv {n:Nat} (h:n < 18446744073709551616):(grp n).length≤10:=grp_len 9 n (Ju h d9)
def j5 (b:LB):LB:=grp b.length ++ b
theorem u8_nat {n:Nat} (h:n < 256):(UInt8.ofNat n).toNat=n:=by rw [UInt8.toNat_ofNat'];omega
theorem or128:∀ b:Fin 256,bits .or .u8 ((b.val:Nat):Int) 128=((b.val % 128 + 128:Nat):Int):=by decide +kernel
theorem or128_w {m:Nat}:bits .or .u8 ((m % 256:Nat):Int) 128=((UInt8.ofNat<|m % 128 + 128).toNat:Int):=by
 have h:=or128 ⟨m % 256,Nat.mod_lt _ d9⟩;simp only at h;rw [h,u8_nat o9];congr 1;omega
theorem byte_w {m:Nat}:IntKind.u8.wrap (m:Int)=((m % 256:Nat):Int):=by rw [wrap8];omega
theorem low_w {m:Nat} (h:m < 128):IntKind.u8.wrap (m:Int)=((UInt8.ofNat m).toNat:Int):=by rw [wrap8,u8_nat o9];omega
theorem low7_w {m:Nat}:IntKind.u8.wrap ((m % 128:Nat):Int)=((m % 128:Nat):Int):=by rw [wrap8];omega
theorem add128_w {m:Nat}:IntKind.u8.wrap (((m % 128:Nat):Int) + 128)=((UInt8.ofNat<|m % 128 + 128).toNat:Int):=by rw [wrap8,u8_nat o9];omega
theorem shr7_w {m:Nat}:(m:Int) / 2 ^ (min 7 IntKind.u64.bits)=((m / 128:Nat):Int):=by
 rw [show min 7 IntKind.u64.bits=7 from rfl,show (2:Int) ^ 7=128 from rfl];omega
theorem rem128_w {m:Nat}:(m:Int).tmod 128=((m % 128:Nat):Int):=by rw [Int.tmod_eq_emod_of_nonneg o9];omega
theorem quo128_w {m:Nat} (h:m < 18446744073709551616):IntKind.u64.wrap ((m:Int).tdiv 128)=((m / 128:Nat):Int):=by rw [Int.tdiv_eq_ediv_of_nonneg o9,wrap_u64 o9 o9];omega
theorem u64_w {n:Int} (h0:0≤n) (h:n≤9223372036854775807):IntKind.u64.wrap n=n:=wrap_u64 h0 o9
theorem WG (o:LB) (A:Option Addr) (c:Nat) (F:LN) (n:Nat) (hn:n < 18446744073709551616) (ho:o.length≤100000):ConR Tryz.prog 129 [.r F<|yP 5 1 Yt A c<|o] [isD<|.slice A o.length c,isD<|.int .u64 (n:Int)] (fun t:Ust=>[.r t.F<|yP 5 1 Yt t.A t.c<|o ++ grp n]) (fun t:Ust=>isD<|.slice t.A (o ++ grp n).length t.c):=by
 refine yg Tryz.func129 k9 V k9 fun base w0=>(zp<|zf V<|ze<|zk<|zX<|Zw (ι:={p:Nat × LB × Ust // p.2.1 ++ grp p.1=o ++ grp n∧p.1≤n}) (fun ⟨(m,q,t),hq,hm⟩=>zN [(0,isD<|.slice t.A q.length t.c),(1,isD<|.int .u64 (m:Int))] [.r t.F<|yP 5 1 Yt t.A t.c<|q]) (fun ⟨(m,q,t),hq,hm⟩=>m) (⟨(n,o,⟨A,c,F⟩),V,Js _⟩) ?_ ?_)
 ·exact (sB [0] V V)
 ·rintro ⟨⟨m,q,t⟩,hq,hm⟩ K0 hK0;dsimp only at hq hm ⊢
  have hql:q.length≤100010:=by have h:=JY List.length hq;have:=Zv hn;simp only [Jk] at h;omega
  refine zk (zp<|zd V<|za V (Zq V V)<|ze<|zJ V (fun hb6=> ?_) (fun hb6=> ?_))
  ·have h6:¬m < 128:=by have h:=oT hb6;omega
   exact zr (zn<|zX<|zp<|zd V<|zd V<|za V (ZU (r:=((m % 256:Nat):Int)) .u64 V k9 k9 byte_w)<|za V (Rd.orW (r:=((UInt8.ofNat<|m % 128 + 128).toNat:Int)) V V or128_w)<|zt (S:=[]) (zdw (e:=5) V V k9 k9 V) (SWl.e4 (yN 0 1 1 V V (SrcT.b (b:=[UInt8.ofNat<|m % 128 + 128]) V) k9 k9 (by simp <;> omega) d9 (fun _ h=>h) V) fun A12 F12 c12=>(zf V<|ze<|zi<|zd V<|za V (Rd.shrW (s:=7) (r:=((m / 128:Nat):Int)) V V shr7_w)<|zf V<|zP<|yc (fun a w hh=>hK0 (⟨(m / 128,q ++ [UInt8.ofNat<|m % 128 + 128],⟨A12,c12,F12⟩),by dsimp only;rw [List.append_assoc,← hq,grp_ge h6];rfl,by dsimp only;omega⟩) (by dsimp only;omega) a w<|hh.sub<|sB [0] V V))))
  ·have h6:m < 128:=by have h:=oF hb6;omega
   refine yZ ?_
   repeat (first | refine Ze ?_ | refine Zf d9 ?_)
   refine Zn (zn<|zp<|zd V<|zd V<|za V (ZU (r:=((UInt8.ofNat m).toNat:Int)) .u64 V k9 k9<|low_w h6)<|zt (S:=[]) (zdw (e:=5) V V k9 k9 V) (SWl.e4 (yN 0 1 1 V V (SrcT.b (b:=[UInt8.ofNat m]) V) k9 k9 (by simp <;> omega) d9 (fun _ h=>h) V) fun A19 F19 c19=>(zf V<|ze<|zQ (fn:=Tryz.f129) (⟨A19,c19,F19⟩) [0] (fun _ _ h=>h) (Rs.le (Rs.one V<|zj V) ?_) d9 ⟨⟨_,V,ZZ (by rw [← hq,VS h6]) (by rw [← hq,VS h6])⟩,t9⟩)))
   exact zF (by rw [← hq,VS h6])
theorem Kh (n:Nat) (hn:n < 18446744073709551616):ConR Tryz.prog 82 [] [isD<|.int .u64 (n:Int)] (fun t:Ust=>[.r t.F<|yP 5 1 Yt t.A t.c<|grp n]) (fun t:Ust=>isD<|.slice t.A (grp n).length t.c):=by
 refine yg Tryz.func82 k9 V k9 fun base w0=>(zp<|zf V<|zV<|zf V<|ze<|zk<|zX<|Yf 5 1 Yt<|Zw (ι:={p:Nat × LB × Ust // p.2.1 ++ grp p.1=grp n∧p.1≤n}) (fun ⟨(m,q,t),hq,hm⟩=>zN [(3,isD<|.slice t.A q.length t.c),(0,isD<|.int .u64 (m:Int))] [.r t.F<|yP 5 1 Yt t.A t.c<|q]) (fun ⟨(m,q,t),hq,hm⟩=>m) (⟨(n,[],⟨none,0,[]⟩),V,Js _⟩) ?_ ?_)
 ·exact (sB [0] V V)
 ·rintro ⟨⟨m,q,t⟩,hq,hm⟩ K0 hK0;dsimp only at hq hm ⊢
  have hql:q.length≤100010:=by have h:=JY List.length hq;have:=Zv hn;simp only [Jk] at h;omega
  refine zk (zp<|zd V<|za V (ZB V V)<|ze<|zJ V (fun hb5=> ?_) (fun hb5=> ?_))
  ·have h6:¬m < 128:=by have h:=oT hb5;omega
   exact zr (zn<|zX<|zp<|zd V<|zd V<|za V (Kp (r:=((m % 128:Nat):Int)) V V d9 rem128_w)<|za V (ZU (r:=((m % 128:Nat):Int)) .u64 V k9 k9 low7_w)<|za V (zfY (r:=((UInt8.ofNat<|m % 128 + 128).toNat:Int)) V V add128_w)<|zt (S:=[]) (zdw (e:=5) V V k9 k9 V) (SWl.e4 (yN 0 1 1 V V (SrcT.b (b:=[UInt8.ofNat<|m % 128 + 128]) V) k9 k9 (by simp <;> omega) d9 (fun _ h=>h) V) fun A12 F12 c12=>(zf V<|ze<|zi<|zd V<|za V (Rd.quoW (r:=((m / 128:Nat):Int)) V V d9<|quo128_w o9)<|zf V<|zP<|yc (fun a w hh=>hK0 (⟨(m / 128,q ++ [UInt8.ofNat<|m % 128 + 128],⟨A12,c12,F12⟩),by dsimp only;rw [List.append_assoc,← hq,grp_ge h6];rfl,by dsimp only;omega⟩) (by dsimp only;omega) a w<|hh.sub<|sB [0] V V))))
  ·have h6:m < 128:=by have h:=oF hb5;omega
   refine yZ ?_
   repeat (first | refine Ze ?_ | refine Zf d9 ?_)
   refine Zn (zn<|zp<|zd V<|zd V<|za V (ZU (r:=((UInt8.ofNat m).toNat:Int)) .u64 V k9 k9<|low_w h6)<|zt (S:=[]) (zdw (e:=5) V V k9 k9 V) (SWl.e4 (yN 0 1 1 V V (SrcT.b (b:=[UInt8.ofNat m]) V) k9 k9 (by simp <;> omega) d9 (fun _ h=>h) V) fun A19 F19 c19=>(zf V<|ze<|zQ (fn:=Tryz.f82) (⟨A19,c19,F19⟩) [0] (fun _ _ h=>h) (Rs.le (Rs.one V<|zj V) ?_) d9 ⟨⟨_,V,ZZ (by rw [← hq,VS h6]) (by rw [← hq,VS h6])⟩,t9⟩)))
   exact zF (by rw [← hq,VS h6])
theorem qS (b:LB) (hb:b.length≤1000000):ConR Tryz.prog 84 [] [bD b] (fun t:Ust=>[.r t.F<|yP 5 1 Yt t.A t.c<|j5 b]) (fun t:Ust=>isD<|.slice t.A (j5 b).length t.c):=by
 refine yg Tryz.func84 k9 V k9 fun base w0=>(zp<|zf V<|zV<|zd V<|za V (ZC (e:=5) V k9)<|za V (ZU (r:=((b.length:Nat):Int)) .i64 V k9 k9 (by rw [zx];exact u64_w o9 o9)) (SWl.e2 (S:=[]) (zC [] (Kh b.length o9) V ⟨zb _,t9⟩ d9 t9 (fun _ h=>h) V) fun t6=>(zd V (SWl.e4 (yN 0 1 1 V V (SrcT.b V) k9 k9 (by have:=Zv (n:=b.length) o9;omega) d9 (fun _ h=>h) V) fun A8 F8 c8=>(zf V<|ze ?_)))));refine zQ (fn:=Tryz.f84) (⟨A8,c8,F8⟩) [0] (fun _ _ h=>h) (Rs.one V<|zj V) d9 ⟨lR V,t9⟩
theorem zbg (o:LB):ConN Tryz.prog 126 [paD [iD 0,bD o]] (yj true):=by
 refine yO Tryz.func126 k9 V k9 fun base w0=>(zp<|zf V<|zV<|zd V<|za V (Rd.nePA V V k9)<|zd V<|zy V (zI V)<|zy V (yQ V)<|zy V (yb (n:=0) V k9 (show 0 < 2 by decide))<|zy V (yb (n:=0) V k9 (show 0 < 2 by decide))<|zy V (ya V V k9 s9)<|zy V (yM V V)<|za V (zB V V V)<|zf V<|ze<|zK (fn:=Tryz.f126) (fun _ _ h=>h)<|Rs.le (Rs.one V<|zj V) ?_);exact zZ V
theorem zdg (gw:Nat) (v0:Value) (A:Option Addr) (n c:Nat) (hn:n≤65536):ConR Tryz.prog 128 [.c gw [iD 0,isD v0]] [pA gw,isD<|.slice A n c] (fun _:Unit=>[.c gw [iD 0,isD<|.slice A n c]]) (fun _:Unit=>isD<|.tuple #[]):=by
 refine yg Tryz.func128 k9 V k9 fun base w0=>(zk<|zp<|zd V<|za V (Y7 (e:=5) V k9)<|za V (Zq V V)<|ze<|zE V (by simp;omega)<|zr<|zn<|zi<|zd V<|zd V<|za V (zz V)<|za V (zc (n:=1) V k9)<|zt (S:=[_]) (zR 0 V V V k9 V<|m9 V)<|zP ?_);refine Z1 (fn:=Tryz.f128) (()) [0] (Rs.none V) d9 ⟨la V,t9⟩
