/- THE WALK of (*blake.Hash).absorb with one part: the message grows by it. THE WALK of (*blake.Hash).finish: the hash of the message as 32 bytes. THE WA -/
import Derived.WalkSpells
import Derived.Test.YtgokpcnabgacnaaGreatDoorGZAF
set_option maxHeartbeats 8000000
set_option maxRecDepth 100000
namespace Go.Proofs.YtgokpcnabgacnaaGreatDoor
open Go.RowKit
theorem zfF (w:World) (gh gb ob:Nat) (tH:TypeId) (st:LN) (blk bs:LB) (fill before written ti:Int) (t:Nat) (hti:ti=(t:Int)) (last:Bool) (hst:Bl.Words 8 st) (hblk:blk.length=64)
  (hH:Blk w gh tH (Zt st blk fill before written)) (hgl:Gl w) (hg2:2≤gh) (ht:t < 18446744073709551616)
  (hcell:∀ j,j < 64→w.cell? ⟨gb,ob + j,none⟩=some (.int .u8 (bs.getD j 0).toNat)) (hgb:gb < w.heap.size):
  Calls Tryz.prog 222 #[.pointer<|some ⟨gh,0,none⟩,.slice (some ⟨gb,ob,none⟩) 64 64,.int .u64 ti,.bool last] w fun e w'=>
   e= .returned (.tuple #[])∧Blk w' gh tH (Zt (Bl.comp st bs t last) blk fill before written)∧Only [gh] w w':=by
 subst hti;exact comp_any w gh gb ob tH st blk bs fill before written t last hst hblk hH hgl hg2 ht hcell hgb
def lenV:Value→Nat | .slice _ n _=>n | _=>0
theorem Gl.drew {w:World} (h:Gl w):Gl w.drew:=⟨h.ini,h.tab,h.sz⟩
def AbsRel (w:World) (gh nk:Nat) (M part:LB) (written k:Nat) (wr:World):Prop:=
 (k=0→HS wr gh nk M written∧wr=w)∧(k=1→HS wr gh nk (M ++ part) (written + part.length)∧Only [gh] w wr)
def InRel (w:World) (gh nk:Nat) (M part:LB) (written c ga oa k:Nat) (p:Value) (wr:World):Prop:=
 k≤part.length∧(∃ A,p= .slice A (part.length - k) (c - k)∧(k < part.length→A=some ⟨ga,oa + k,none⟩))∧
 (∃ fill q,HSx wr gh nk (M ++ part.take k) written fill q∧(fill=0→M ++ part.take k≠[]→k < part.length))∧Only [gh] w wr
theorem abs_copy {w0 W3:World} {gh nk q fill k m d n c ga oa wn:Nat} {M part blk xs:LB} (hB3:Blk W3 gh 301 (Zt (Bl.stq nk (M ++ part.take k) q) (splice blk fill xs) (fill:Int) ((64 * q:Nat):Int) (wn:Int)))
  (hO:Only [gh] w0 W3) (hst:(Bl.stq nk (M ++ part.take k) q).length=8) (hl:blk.length=64) (hM:(M ++ part.take k).length=64 * q + fill) (ht:blk.take fill=(M ++ part.take k).drop (64 * q))
  (hm:part.length - k=m) (hd:c - k=d) (hxs:xs=(part.drop k).take n) (hxl:xs.length=n) (hn1:n≤m) (hn2:n≤64 - fill) (hn0:0 < n) (hmd:m≤d) (hc:part.length≤c) (hk:k≤part.length) (hf:fill < 64):
  InRel w0 gh nk M part wn c ga oa (k + n) (.slice (if d=n then some ⟨ga,oa + k,none⟩ else some ⟨ga,oa + k + n,none⟩) (m - n)<|d - n) (W3.setCell ⟨gh,73,none⟩<|.int .i64<|(fill:Int) + (n:Int)):=by
 have hl3:(splice blk fill xs).length=64:=by rw [VD (by rw [hl];omega),hl]
 refine ⟨by omega,⟨_,by rw [← hm,← hd,Nat.sub_sub,Nat.sub_sub],fun h=> ?_⟩,⟨fill + n,q,⟨splice blk fill xs,?_,hl3,?_,by omega,?_⟩,fun h=>by omega⟩,hO.setCell (p:=⟨gh,73,none⟩) (.inl s9) _⟩
 ·rw [Jb o9,J9]
 all_goals rw [List.take_add (l:=part),← Jq,← hxs]
 ·rw [Bl.stq_append (by rw [hM];omega)];have:=hB3.set 73 (.int .i64<|(fill:Int) + (n:Int));rw [Ve hst hl3] at this
  have e:((fill + n:Nat):Int)=(fill:Int) + (n:Int):=by omega
  rw [e];exact this
 ·rw [Jk,hM,hxl];omega
 ·rw [J3 (by rw [hM];omega),← ht];unfold splice;rw [← Jq,JQ (by simp [hl,hxl];omega),Ji (by simp [hl,hxl];omega)]
theorem zhN (w:World) (gh nk:Nat) (M part:LB) (written gp c:Nat) (A:Option Addr) (hS:HS w gh nk M written) (_hgp:gp≠gh) (hgps:gp < w.heap.size)
  (hcp:w.cell? ⟨gp,0,none⟩=some (.slice A part.length c)) (hc:part.length≤c) (hr:RB w A part) (hA:0 < part.length→∀ p,A=some p→p.block≠gh) (hnk:nk≤32)
  (hw1:written + part.length≤4611686018427387904) (hw2:M.length + part.length≤4611686018427387904) (hgl:Gl w) (hg2:2≤gh):
  Calls Tryz.prog 211 #[.pointer<|some ⟨gh,0,none⟩,.slice (some ⟨gp,0,none⟩) 1 1] w fun e w'=>
   e= .returned (.tuple #[])∧HS w' gh nk (M ++ part) (written + part.length)∧Only [gh] w w':=by
 obtain ⟨ga,oa,hga⟩:∃ ga oa,0 < part.length→A=some ⟨ga,oa,none⟩∧ga < w.heap.size∧ga≠gh∧∀ j,j < part.length→w.cell? ⟨ga,oa + j,none⟩=some (.int .u8 (part.getD j 0).toNat):=by
  by_cases h0:0 < part.length
  ·obtain ⟨g,o,rfl,h1,h2⟩:=hr h0;exact ⟨g,o,fun _=>⟨V,h1,hA h0 _ V,h2⟩⟩
  ·exact ⟨0,0,fun h=>absurd h h0⟩
 have Hga:=Jm hga;have HA:=Jm hA;clear hga hA hr
 go_enter Tryz.func211,Tryz.ntmps211
 go_wp2
 go_loopw [9,5,6] (fun a _ _ wr=>∃ k:Nat,k≤1∧a= .int .i64 k∧AbsRel w gh nk M part written k wr) (fun a _ _ _=>1 - (intOf a).toNat)
 case atStart=>exact ⟨0,by omega,rfl,fun _=>⟨hS,rfl⟩,fun h=>by cases h⟩
 case round=>
  obtain ⟨k,hk,rfl,hrel⟩:=hrel
  by_cases hlt:k < 1
  ·obtain rfl:k=0:=by omega
   obtain ⟨hS',rfl⟩:=hrel.1 rfl;clear hrel hk hlt hS;rw [show ((0:Nat):Int)=0 from rfl];obtain ⟨fill0,q0,⟨blk0,hB0,hl0,hM0,hf0,ht0⟩,hz0⟩:=hS';have hst:=Bl.stq_words (n:=nk) (M:=M) hnk q0;have c75:wr.cell? ⟨gh,75,none⟩=some (.int .i64 (written:Int)):=hB0.cellv (ZO hst.1 hl0 2);have f75:=hB0.frozen 75
   go_wp2
   have hB1:=hB0.set 75 (.int .i64 ((written + part.length:Nat):Int));rw [zbT hst.1 hl0] at hB1;have hO1:=(Only.refl [gh] wr).setCell (p:=⟨gh,75,none⟩) (.inl s9) (.int .i64 ((written + part.length:Nat):Int))
   have eN:((written + part.length:Nat):Int)=(written:Int) + part.length:=by omega
   rw [eN] at hB1 hO1;clear c75 f75
   revert hB1 hO1
   generalize World.setCell _ _ _=W1
   intro hB1 hO1;rw [← eN] at hB1;clear eN;obtain ⟨w0,rfl⟩:∃ w0:World,w0=wr:=⟨_,rfl⟩
   go_loopw [5,6] (fun p _ wr=>∃ k:Nat,InRel w0 gh nk M part (written + part.length) c ga oa k p wr) (fun p _ _=>lenV p)
   case atStart=>
    refine ⟨0,by omega,⟨A,rfl,fun h=>(Hga.out h).1⟩,⟨fill0,q0,⟨blk0,?_,hl0,?_,hf0,?_⟩,fun h h'=> ?_⟩,hO1⟩
    ·simpa using hB1
    ·simpa using hM0
    ·simpa using ht0
    ·exact absurd h (by have:=hz0 (by simpa using h');omega)
   case round=>
    clear hB1 hO1 hB0;obtain ⟨k,hk,⟨A',rfl,hA'⟩,⟨fill,q,⟨blk,hB,hl,hM,hf,ht⟩,hz⟩,hO⟩:=hrel;obtain ⟨m,hm⟩:∃ m,part.length - k=m:=⟨_,rfl⟩;obtain ⟨d,hd⟩:∃ d,c - k=d:=⟨_,rfl⟩;rw [hm,hd]
    have hmd:m≤d:=by omega
    by_cases hlt:k < part.length
    ·obtain ⟨rfl,hgas,hgah,hcell⟩:=Hga.out o9;obtain rfl:=hA' hlt;have hM':(M ++ part.take k).length=64 * q + fill:=hM
     have hMle:(M ++ part.take k).length≤4611686018427387904:=by simp;omega
     have hst:=Bl.stq_words (n:=nk) (M:=M ++ part.take k) hnk q;have c73:wr.cell? ⟨gh,73,none⟩=some (.int .i64 (fill:Int)):=hB.cellv (ZO hst.1 hl 0)
     have hm0:0 < m:=by omega
     have Hm:=Jm hm;have Hd:=Jm hd;have Hc:=Jm hcell;have HM:=Jm hM';have Ht:=Jm ht;have Hl:=Jm hl
     have hq:64 * q + fill≤4611686018427387904:=by omega
     clear hm hd hcell hM hM' ht hl hA' hMle
     go_upto_if 29 with (fail)
     go_cut [] (fun wx=>∃ fill q,HSx wx gh nk (M ++ part.take k) (written + part.length) fill q∧fill < 64∧Only [gh] w0 wx)
     case first=>
      by_cases h64:fill=64
      ·have hb64:((fill:Int) == 64)=true:=JT.2 o9;obtain ⟨t,Htq⟩:∃ t,Hid (t=64 * q):=⟨_,rfl⟩
       have htl:t + 64≤4611686018427387904:=by rw [Htq.out];omega
       rw [← Htq.out] at hB;have c74:wr.cell? ⟨gh,74,none⟩=some (.int .u64 (t:Int)):=hB.cellv (ZO hst.1 Hl.out 1);have f74:=hB.frozen 74
       go_wp2
       have hB2:=hB.set 74 (.int .u64<|(t:Int) + 64);rw [VR hst.1 Hl.out] at hB2;have hO2:=hO.setCell (p:=⟨gh,74,none⟩) (.inl s9) (.int .u64<|(t:Int) + 64);clear c74 f74 c73
       revert hB2 hO2
       generalize World.setCell _ _ _=W2
       intro hB2 hO2;have c74:W2.cell? ⟨gh,74,none⟩=some (.int .u64<|(t:Int) + 64):=hB2.cellv (ZO hst.1 Hl.out 1)
       go_still_tail 9,k9
       go_wp2_with (go_at_call 222;refine (zfF _ gh gh 9 _ _ blk blk _ _ _ _ (t + 64) o9 false hst Hl.out hB2.drew (hgl.keep hO2 (by simp;omega) (by simp;omega)).drew hg2 o9 (fun j hj=>hB2.cellv<|zcq hst.1 Hl.out hj) hB2.lt).mono ?_;rintro e W3 ⟨rfl,hB3,hO3⟩;have f73:=hB3.frozen 73;have c73:W3.cell? ⟨gh,73,none⟩=some (.int .i64 (fill:Int)):=hB3.cellv<|ZO (Bl.comp_words hst).1 Hl.out 0)
       go_meet
       have hB4:=hB3.set 73 (.int .i64 ((0:Nat):Int));rw [Ve (Bl.comp_words hst).1 Hl.out] at hB4;refine ⟨0,q + 1,⟨blk,?_,Hl.out,?_,by omega,?_⟩,by omega,(hO2.trans'<|Only.undrew (w:=W2) hO3).setCell (p:=⟨gh,73,none⟩) (.inl s9) _⟩
       ·have e1:Bl.stq nk (M ++ part.take k) (q + 1)=Bl.comp (Bl.stq nk (M ++ part.take k) q) blk (t + 64) false:=by
         simp only [Bl.stq]
         have:blk=(M ++ part.take k).drop (64 * q):=by rw [← Ht.out,h64,Ji (by rw [Hl.out];exact Js _)]
         rw [← this,Htq.out];congr 1
        have e2:((64 * (q + 1):Nat):Int)=(t:Int) + 64:=by rw [Htq.out];omega
        rw [e1,e2];exact hB4
       ·rw [HM.out,h64];omega
       ·rw [XD,JZ (by rw [HM.out];omega)]
      ·have hb64:((fill:Int) == 64)=false:=Xb.2 o9
       go_wp2
       go_meet
       exact ⟨fill,q,⟨blk,hB,Hl.out,HM.out,hf,Ht.out⟩,by omega,hO⟩
     case rest=>
      clear hB hf hst c73 hq hO HM Ht Hl hz hcp hgps HA;obtain ⟨fill,q,⟨blk,hB,hl,hM,hf,ht⟩,hf64,hO⟩:=hcut;have hst:=Bl.stq_words (n:=nk) (M:=M ++ part.take k) hnk q;have c73:wc.cell? ⟨gh,73,none⟩=some (.int .i64 (fill:Int)):=hB.cellv (ZO hst.1 hl 0);have HM:=Jm hM;have Ht:=Jm ht;have Hl:=Jm hl
      have hle:(M ++ part.take k).length≤4611686018427387904:=by simp;omega
      have hq:64 * q + fill≤4611686018427387904:=by rw [hM] at hle;exact hle
      clear hle;clear hM ht hl
      by_cases hdir:fill=0∧64 < m
      ·obtain ⟨h0,hm64⟩:=hdir;have hb0:((fill:Int) == 0)=true:=JT.2 o9
       have hm64':(64:Int) < (m:Int):=by omega
       have hd64:¬d=64:=by omega
       obtain ⟨t,Htq⟩:∃ t,Hid (t=64 * q):=⟨_,rfl⟩
       have htl:t + 64≤4611686018427387904 + 64:=by rw [Htq.out];omega
       rw [← Htq.out] at hB;have c74:wc.cell? ⟨gh,74,none⟩=some (.int .u64 (t:Int)):=hB.cellv (ZO hst.1 Hl.out 1);have f74:=hB.frozen 74
       go_wp2
       have hB2:=hB.set 74 (.int .u64<|(t:Int) + 64);rw [VR hst.1 Hl.out] at hB2;have hO2:=hO.setCell (p:=⟨gh,74,none⟩) (.inl s9) (.int .u64<|(t:Int) + 64);clear c74 f74 c73
       revert hB2 hO2
       generalize World.setCell _ _ _=W2
       intro hB2 hO2;have c74:W2.cell? ⟨gh,74,none⟩=some (.int .u64<|(t:Int) + 64):=hB2.cellv (ZO hst.1 Hl.out 1)
       have hd64':(64:Int)≤(d:Int):=by omega
       have hcb:∀ j,j < 64→W2.cell? ⟨ga,oa + k + j,none⟩=some (.int .u8 (((part.drop k).take 64).getD j 0).toNat):=by
        intro j hj
        have hkj:k + j < part.length:=by have:=Hm.out;omega
        rw [J9,hO2.cell (p:=⟨ga,oa + (k + j),none⟩) hgas (by simpa using hgah),Hc.out (k + j) hkj];simp [hj]
       have Hcb:=Jm hcb;clear hcb
       go_still_tail 7,k9
       go_wp2_with (go_at_call 222;refine (zfF _ gh ga (oa + k) _ _ blk ((part.drop k).take 64) _ _ _ _ (t + 64) o9 false hst Hl.out hB2.drew (hgl.keep hO2 (by simp;omega) (by simp;omega)).drew hg2 o9 Hcb.out<|Ju hgas hO2.size).mono ?_;rintro e W3 ⟨rfl,hB3,hO3⟩)
       go_roundw
       case rel=>
        have hm':=Hm.out;have hd':=Hd.out;refine ⟨k + 64,by omega,⟨_,by rw [← hm',← hd',Nat.sub_sub,Nat.sub_sub],fun _=>by rw [J9]⟩,⟨0,q + 1,⟨blk,?_,Hl.out,?_,by omega,?_⟩,fun _ _=>by omega⟩,hO2.trans'<|Only.undrew (w:=W2) hO3⟩
        all_goals rw [List.take_add,← Jq]
        ·have e1:Bl.stq nk (M ++ part.take k ++ (part.drop k).take 64) (q + 1)=Bl.comp (Bl.stq nk (M ++ part.take k) q) ((part.drop k).take 64) (t + 64) false:=by
          simp only [Bl.stq];have hnil:(M ++ part.take k).drop (64 * q)=[]:=JZ (by rw [HM.out];omega);rw [Bl.stq_append (by rw [HM.out];omega),J3 (by rw [HM.out];omega),hnil,J0,Htq.out];congr 1
         have e2:((64 * (q + 1):Nat):Int)=(t:Int) + 64:=by rw [Htq.out];omega
         have e3:((0:Nat):Int)=(fill:Int):=by omega
         rw [e1,e2,e3];exact hB3
        ·rw [Jk,HM.out,JE,JA];omega
        ·rw [XD,JZ];rw [Jk,HM.out,JE,JA];omega
       case measure=>simp only [lenV];omega
      ·obtain ⟨n,hn⟩:∃ n,Nat.min m (64 - fill)=n:=⟨_,rfl⟩
       have hn1:n≤m:=by rw [← hn];exact Nat.min_le_left _ _
       have hn2:n≤64 - fill:=by rw [← hn];exact Nat.min_le_right _ _
       have hn0:0 < n:=by rw [← hn];exact Nat.lt_min.2 ⟨hm0,by omega⟩
       obtain ⟨xs,Hxs⟩:∃ xs,Hid (xs=(part.drop k).take n):=⟨_,rfl⟩
       have hxl:xs.length=n:=by rw [Hxs.out,JE,JA];have:=Hm.out;omega
       have Hn:=Jm hn;have f73:=hB.frozen 73
       have hcx:∀ j v,(cellsOf xs)[j]? =some v→wc.cell? ((⟨ga,oa + k,none⟩:Addr).add j)=some v:=by
        intro j v hv
        have hj:j < n:=by rw [← hxl];simpa using (Jg.1 hv).1
        have hkj:k + j < part.length:=by have:=Hm.out;omega
        rw [Xg,J9,hO.cell (p:=⟨ga,oa + (k + j),none⟩) hgas (by simpa using hgah),Hc.out (k + j) hkj,← hv,Yl o9,Hxs.out];simp [hj]
       have Hcx:=Jm hcx;have hlen:(Zt (Bl.stq nk (M ++ part.take k) q) blk (fill:Int) ((64 * q:Nat):Int) ((written + part.length:Nat):Int)).length=76:=Kd hst.1 Hl.out;have Hlen:=Jm hlen
       have hfI:(fill:Int)≤64:=by omega
       have hfne:¬64=fill:=by omega
       clear hn hcx hlen
       rcases (show (((fill:Int) == 0)=true∧(m:Int)≤64)∨((fill:Int) == 0)=false by
        by_cases h0:fill=0
        ·exact .inl ⟨JT.2 o9,by omega⟩
        ·exact .inr<|Xb.2 o9) with ⟨hb0,hm64⟩ | hb0
       all_goals
        go_wp2
        go_still_tail 9,k9
        refine zak V (.tmp 84) (.tmp 85) _ _ V 5 Tryz.underlying24 u8size _ _ _ _ _ _ V V gh (9 + fill) _ _ hB.drew (cellsOf xs) (by rw [zx,hxl];exact Hn.out.symm) (fun _=>⟨V,_,V,Hcx.out⟩) (by rw [Hlen.out,zx,hxl];omega) Yd ?_;intro W3 hB3 hO3;rw [j6 hst.1 Hl.out o9] at hB3
        have hl3:(splice blk fill xs).length=64:=by rw [VD (by rw [Hl.out];omega),Hl.out]
        rw [zx,hxl];have c73':W3.cell? ⟨gh,73,none⟩=some (.int .i64 (fill:Int)):=hB3.cellv (ZO hst.1 hl3 0);have f73':=hB3.frozen 73;have Hl3:=Jm hl3;have Hxl:=Jm hxl;clear hl3 hxl
        go_wp2
        go_roundw
        case rel=>
         exact ⟨k + n,abs_copy hB3 (hO.trans'<|Only.undrew (w:=wc) hO3) hst.1 Hl.out HM.out Ht.out Hm.out Hd.out Hxs.out Hxl.out hn1 hn2 hn0 hmd hc hk hf64⟩
        case measure=>simp only [lenV];omega
    ·go_wp2
     obtain rfl:k=part.length:=by omega
     refine ⟨⟨1,by omega,rfl,⟨(fun h=>by cases h),fun _=>⟨⟨fill,q,?_,fun h'=> ?_⟩,hO⟩⟩⟩,by decide⟩
     ·rw [List.take_length] at hB hM ht;exact ⟨blk,hB,hl,hM,hf,ht⟩
     ·rw [List.take_length] at hz;rcases Xk fill with h0 | h0
      ·exact absurd (hz h0 h') (Nat.lt_irrefl _)
      ·exact h0
  ·obtain rfl:k=1:=by omega
   obtain ⟨hS',hO'⟩:=hrel.2 rfl
   go_wp2
   go_end0
   exact ⟨V,hS',hO'⟩
theorem u8info:(Tryz.prog.info? 5).map (fun i=>(i.zero,i.size,i.bytes))=some (some<|.int .u8 0,1,1):=by kernel_rfl
theorem Wc:(Tryz.prog.info? 219).map (·.size)=some 32:=by kernel_rfl
theorem leb_byte {s:LN} {k j:Nat} (hj:j < 4):((s.getD k 0:Nat):Int) / 2 ^ (8 * j) % 256=(((UInt8.ofNat<|s.getD ((4 * k + j) / 4) 0 / 2 ^ (8 * ((4 * k + j) % 4))).toNat:Nat):Int):=by
 have e1:(4 * k + j) / 4=k:=by omega
 have e2:(4 * k + j) % 4=j:=by omega
 rw [e1,e2,UInt8.toNat_ofNat',Int.natCast_emod,Int.natCast_ediv,Int.natCast_pow];simp
theorem hashM_eq {n q fill:Nat} {M blk b2:LB} (hM:M.length=64 * q + fill) (hf:fill≤64) (hz:M≠[]→0 < fill) (ht:blk.take fill=M.drop (64 * q)) (_hl:blk.length=64)
  (hb:b2=blk.take fill ++ List.replicate (64 - fill) (0:UInt8)):Bl.hashM n M=Bl.leb (Bl.comp (Bl.stq n M q) b2 (64 * q + fill) true):=by
 have e1:(M.length - 1) / 64=q:=by
  rcases Xk fill with h0 | h0
  ·have h1:M.length=0:=by
    rcases Xk M.length with h | h
    ·exact h
    ·have:=hz (fun e=>by rw [e] at h;exact absurd h s9);omega
   omega
  ·omega
 have e2:Bl.comp (Bl.stq n M q) b2 (64 * q + fill) true=Bl.comp (Bl.stq n M q) (M.drop<|64 * q) (64 * q + fill) true:=by
  refine Bl.comp_congr (fun j _=> ?_) _ _ _;rw [hb,← ht]
  by_cases hjf:j < (blk.take fill).length
  ·exact Bl.getD_append_left hjf
  ·rw [Jr,JR o9,Xj,Jr,JM o9]
   split <;> rfl
 rw [e2];unfold Bl.hashM;rw [e1,hM]
theorem zg9 (w:World) (gh nk:Nat) (M:LB) (written:Nat) (hS:HS w gh nk M written) (hnk:nk≤32) (hw2:M.length≤4611686018427387904) (hgl:Gl w) (hg2:2≤gh):
  Calls Tryz.prog 212 #[.pointer<|some ⟨gh,0,none⟩] w fun e w'=>e= .returned (.agg (cellsOf<|Bl.hashM nk M).toArray)∧Only [gh] w w':=by
 obtain ⟨fill,q,⟨blk,hB,hl,hM,hf,ht⟩,hz⟩:=hS;have hst:=Bl.stq_words (n:=nk) (M:=M) hnk q;obtain ⟨i0,hi0,hz0,hz1,hz2⟩:=info_parts u8info
 go_enter Tryz.func212,Tryz.ntmps212
 go_wp2
 have hB1:=hB.alloc (.cells (List.replicate 32<|Value.int .u8 0).toArray 219);have hR1:=Blk.new w 219 (List.replicate 32<|Value.int .u8 0);have hO1:=(Only.refl [gh] w).alloc (.cells (List.replicate 32<|Value.int .u8 0).toArray 219);have hgw:=hB.lt
 revert hB1 hR1 hO1
 simp only [Xc,List.replicate_zero]
 generalize World.alloc _ _=W1
 intro hB1 hR1 hO1;have c73:W1.cell? ⟨gh,73,none⟩=some (.int .i64 (fill:Int)):=hB1.cellv (ZO hst.1 hl 0)
 have hfI:(fill:Int)≤64:=by omega
 have HM:=Jm hM;have Ht:=Jm ht;have Hl:=Jm hl
 have hq:64 * q + fill≤4611686018427387904:=by omega
 have hlen:(Zt (Bl.stq nk M q) blk (fill:Int) ((64 * q:Nat):Int) (written:Int)).length=76:=Kd hst.1 hl;have Hlen:=Jm hlen;clear hM ht hl hlen hB;have hOr:=Only.refl [gh] w
 go_still_tail 8,k9
 refine wpl_clear V (.tmp 14) _ V 5 Tryz.underlying24 i0 hi0 (.int .u8 0) hz0 V V _ (64 - fill) _ V gh (9 + fill) _ _ hB1.drew (fun h=>by rw [Jb o9]) (by rw [Hlen.out];omega) ?_;intro W2 hB2 hO2
 generalize (if 64=fill then (⟨gh,9,none⟩:Addr) else ⟨gh,9 + fill,none⟩)=A14
 have e2:(Zt (Bl.stq nk M q) blk (fill:Int) ((64 * q:Nat):Int) (written:Int)).take (9 + fill) ++ (List.replicate (64 - fill) (Value.int .u8 0) ++ (Zt (Bl.stq nk M q) blk (fill:Int) ((64 * q:Nat):Int) (written:Int)).drop (9 + fill + (64 - fill)))=Zt (Bl.stq nk M q) (blk.take fill ++ List.replicate (64 - fill) 0) (fill:Int) ((64 * q:Nat):Int) (written:Int):=by
  have:=j6 (st:=Bl.stq nk M q) (blk:=blk) (xs:=List.replicate (64 - fill) 0) (f:=fill) (fill:=fill) (before:=((64 * q:Nat):Int)) (written:=written) hst.1 Hl.out (by simp;omega);simp only [splice,cellsOf,List.map_replicate,List.length_replicate] at this;refine this.trans ?_;congr 2;rw [JZ (by rw [Hl.out];omega),JS]
 rw [e2] at hB2;clear e2
 have hb2:(blk.take fill ++ List.replicate (64 - fill) (0:UInt8)).length=64:=by have:=Hl.out;simp;omega
 obtain ⟨b2,Hb2⟩:∃ b,Hid (b=blk.take fill ++ List.replicate (64 - fill) (0:UInt8)):=⟨_,rfl⟩;rw [← Hb2.out] at hB2 hb2;have Hbl:=Jm hb2;clear hb2 c73;have hR2:=hR1.keep (Only.undrew (w:=W1) hO2) (by simp;omega);have hO3:=hO1.trans' (Only.undrew (w:=W1) hO2);clear hO2 hO1 hR1 hB1 hOr;obtain ⟨t,Htq⟩:∃ t,Hid (t=64 * q):=⟨_,rfl⟩;rw [← Htq.out] at hB2
 have htl:t + fill≤4611686018427387904:=by rw [Htq.out];exact hq
 have c73:W2.cell? ⟨gh,73,none⟩=some (.int .i64 (fill:Int)):=hB2.cellv (ZO hst.1 Hbl.out 0);have c74:W2.cell? ⟨gh,74,none⟩=some (.int .u64 (t:Int)):=hB2.cellv (ZO hst.1 Hbl.out 1)
 go_wp2
 go_still_tail 15,k9
 go_wp2_with fail
 refine (zfF _ gh gh 9 _ _ b2 b2 _ _ _ _ (t + fill) ?hti true hst Hbl.out hB2.drew (hgl.keep hO3 (by simp;omega) (by simp;omega)).drew hg2 o9 (fun j hj=>hB2.cellv<|zcq hst.1 Hbl.out hj) hB2.lt).mono ?_
 case hti=>omega
 rintro e W3 ⟨rfl,hB3,hO4⟩;have hR3:=hR2.keep (Only.undrew (w:=W2) hO4) (by simp;omega);have hO5:=hO3.trans' (Only.undrew (w:=W2) hO4);have hS3:=hO5.size;have hst3:=Bl.comp_words (bs:=b2) (t:=t + fill) (last:=true) hst
 have hcq:Bl.hashM nk M=Bl.leb (Bl.comp (Bl.stq nk M q) b2 (t + fill) true):=by
  rw [Htq.out];exact hashM_eq HM.out hf hz Ht.out Hl.out Hb2.out
 have Hcq:=Jm hcq;clear hcq c73 c74 hB2 hO4 hO3 hR2;obtain ⟨st3,Hst3⟩:∃ s,Hid (s=Bl.comp (Bl.stq nk M q) b2 (t + fill) true):=⟨_,rfl⟩;rw [← Hst3.out] at hB3 hst3
 have hl8:(Tryz.prog.info? 298).map (·.size)=some (yk st3).length:=by rw [ZH,hst3.1];exact zdn
 have Hl8:=Jm hl8;clear hl8
 go_upto_region 4 with (fail)
 have hB4:=hB3.alloc (.cells (List.replicate 32<|Value.int .u8 0).toArray 219);have hR4:=hR3.alloc (.cells (List.replicate 32<|Value.int .u8 0).toArray 219);have hU4:=Blk.new W3 219 (List.replicate 32<|Value.int .u8 0);have hO6:=hO5.alloc (.cells (List.replicate 32<|Value.int .u8 0).toArray 219);have hgs:w.heap.size < W3.heap.size:=hR3.lt
 revert hB4 hR4 hU4 hO6
 simp only [Xc,List.replicate_zero]
 generalize World.alloc _ _=W4
 generalize W3.heap.size=gs at hgs ⊢
 intro hB4 hR4 hU4 hO6;clear hB3 hR3 hO5 hS3
 have hload:∀ j,j < (yk st3).length→W4.cell? ⟨gh,1 + j,none⟩=(yk st3)[j]? :=by
  intro j hj
  have hj':j < 8:=by simpa [hst3.1] using hj
  rw [hB4.cell,VQ hst3.1 hj',yt<|wget hst3 hj']
 have Hload:=Jm hload;clear hload
 go_wp2_with (refine jc rfl 298 _ rfl gh 1 rfl (yk st3) _ Tryz.underlying298 rfl Hl8.out Hload.out ?_)
 clear Hload Hl8;obtain ⟨sc,Hsc⟩:∃ c,Hid (c=(yk st3).toArray):=⟨_,rfl⟩;rw [← Hsc.out]
 have hU5:Blk W4 gs 219 (YG 32 (fun i=>Value.int .u8 ((UInt8.ofNat<|st3.getD (i / 4) 0 / 2 ^ (8 * (i % 4))).toNat:Int)) (fun _=> .int .u8 0)<|4 * 0):=by
  have:(YG 32 (fun i=>Value.int .u8 ((UInt8.ofNat<|st3.getD (i / 4) 0 / 2 ^ (8 * (i % 4))).toNat:Int)) (fun _=> .int .u8 0)<|4 * 0)=List.replicate 32 (Value.int .u8 0):=by
   simp [YG,List.range,List.range.loop,List.replicate]
  rw [this];exact hU4
 clear hU4
 go_loopw [35,4,5,6,39] (fun a _ _ _ _ wr=>∃ k:Nat,k≤8∧a= .int .i64 k∧Blk wr gs 219 (YG 32 (fun i=>Value.int .u8 ((UInt8.ofNat<|st3.getD (i / 4) 0 / 2 ^ (8 * (i % 4))).toNat:Int)) (fun _=> .int .u8 0)<|4 * k)∧Blk wr w.heap.size 219 (List.replicate 32<|Value.int .u8 0)∧Only [gh] w wr) (fun a _ _ _ _ _=>8 - (intOf a).toNat)
 case atStart=>exact ⟨0,by omega,rfl,hU5,hR4,hO6⟩
 case round=>
  clear hU5 hR4 hO6 hB4;obtain ⟨k,hk,rfl,hU,hR,hO⟩:=hrel
  by_cases hlt:k < 8
  ·obtain ⟨sv,Hs⟩:∃ n,Hid (n=st3.getD k 0):=⟨_,rfl⟩
   have ls:sv < 4294967296:=by rw [Hs.out];exact hst3.getD _
   have hidx:∀ w,(Instr.index 298 (.agg sc)<|.int .i64 (k:Int)).run Tryz.prog w= .ok (.int .u32 (sv:Nat)) w:=by
    rw [Hsc.out,Hs.out];exact VI Tryz.underlying298 Tryz.underlying275 V ze1 hlt (yt<|wget hst3 hlt)
   go_wp2
   obtain ⟨wo,rfl⟩:∃ wo:World,wo=wr:=⟨_,rfl⟩
   go_loopw [39,6] (fun a _ wr=>∃ j:Nat,j≤4∧a= .int .i64 j∧Blk wr gs 219 (YG 32 (fun i=>Value.int .u8 ((UInt8.ofNat<|st3.getD (i / 4) 0 / 2 ^ (8 * (i % 4))).toNat:Int)) (fun _=> .int .u8 0)<|4 * k + j)∧Blk wr w.heap.size 219 (List.replicate 32<|Value.int .u8 0)∧Only [gh] w wr) (fun a _ _=>4 - (intOf a).toNat)
   case atStart=>exact ⟨0,by omega,rfl,hU,hR,hO⟩
   case round=>
    clear hU hR hO hidx;obtain ⟨j,hj,rfl,hU,hR,hO⟩:=hrel
    by_cases hjlt:j < 4
    ·have cu:wr.cell? ⟨gs,4 * k + j,none⟩=some (.int .u8 0):=hU.cellv (by rw [KZ o9,Jb o9]);have fu:=hU.frozen (4 * k + j)
     go_wp2
     go_roundw
     case rel=>
      refine ⟨j + 1,by omega,by go_num,?_,hR.far (p:=⟨gs,4 * k + j,none⟩) (by simp;omega) _,hO.setCell (p:=⟨gs,4 * k + j,none⟩) (.inr (by simp;omega)) _⟩;rw [Hs.out,leb_byte (s:=st3) hjlt,← J9,← KY o9];exact hU.set (4 * k + j) _
     case measure=>simp [intOf];omega
    ·obtain rfl:j=4:=by omega
     go_wp2
     go_roundw
     case rel=>exact ⟨k + 1,by omega,by go_num,hU,hR,hO⟩
     case measure=>simp [intOf];omega
  ·obtain rfl:k=8:=by omega
   have eL:YG 32 (fun i=>Value.int .u8 ((UInt8.ofNat<|st3.getD (i / 4) 0 / 2 ^ (8 * (i % 4))).toNat:Int)) (fun _=> .int .u8 0) (4 * 8)=cellsOf (Bl.hashM nk M):=by
    rw [Hcq.out,← Hst3.out,show 4 * 8=32 from rfl,K2];simp [Bl.leb,cellsOf]
   rw [eL] at hU
   have hl32:(cellsOf<|Bl.hashM nk M).length=32:=by simp
   have hs32:(Tryz.prog.info? 219).map (·.size)=some (cellsOf<|Bl.hashM nk M).length:=by rw [hl32];exact Wc
   have Hs32:=Jm hs32;have Hl32:=Jm hl32;clear eL hl32 hs32
   go_wp2_with (first | (refine jc rfl 219 _ rfl gs 0 rfl (cellsOf<|Bl.hashM nk M) _ Tryz.underlying219 rfl Hs32.out (fun j _=>by rw [JF];exact hU.cell j) ?_) | (refine YZ rfl 219 _ _ rfl w.heap.size (cellsOf<|Bl.hashM nk M) rfl rfl 219 (List.replicate 32<|Value.int .u8 0) hR (by rw [Hl32.out];rfl) Hs32.out Yd ?_;intro W9 hR9 hO9))
   have hO10:=hO.trans hO9 s9;exact bodyPost_ret (results_cell_row V _ _ w.heap.size 219 (cellsOf<|Bl.hashM nk M).toArray (0,0) _ V hR9 Tryz.underlying219 V (by simpa using Hs32.out)) V ⟨V,hO10⟩
theorem HS.lt {w:World} {gh nk wt:Nat} {M:LB} (h:HS w gh nk M wt):gh < w.heap.size:=by obtain ⟨_,_,⟨_,hb,_⟩,_⟩:=h;exact hb.lt
theorem RB.low {w:World} {A:Option Addr} {bs:LB} (h:RB w A bs) {g:Nat} (hg:w.heap.size≤g):0 < bs.length→∀ p,A=some p→p.block≠g:=by
 intro h0 p hp;obtain ⟨g',o,h1,h2,_⟩:=h h0;rw [h1] at hp;injection hp with hp;subst hp;simp;omega
theorem zcr (w:World) (A:Option Addr) (c:Nat) (key:LB) (hk:key.length≤32) (hc:key.length≤c) (hr:RB w A key) (hgl:Gl w)
  (gp:Nat) (B:Option Addr) (d:Nat) (b:LB) (hgp:gp < w.heap.size) (hcp:w.cell? ⟨gp,0,none⟩=some (.slice B b.length d)) (hd:b.length≤d) (hrb:RB w B b) (hbl:b.length≤2305843009213693952):
  Calls Tryz.prog 187 #[.slice A key.length c,.slice (some ⟨gp,0,none⟩) 1 1] w fun e w'=>e= .returned (.agg (cellsOf<|Bl.hash key b).toArray)∧Only [] w w':=by
 have Hcp:=Jm hcp;clear hcp
 have hkb:(Bl.kblock key).length≤64:=by unfold Bl.kblock;split <;> simp;omega
 have hl32:(cellsOf<|Bl.hash key b).length=32:=by simp
 have hs32:(Tryz.prog.info? 219).map (·.size)=some (cellsOf<|Bl.hash key b).length:=by rw [hl32];exact Wc
 have Hs32:=Jm hs32;have Hl32:=Jm hl32;clear hl32 hs32
 go_enter Tryz.func187,Tryz.ntmps187
 go_upto_region 1 with (fail)
 have hR1:=Blk.new w 219 (List.replicate 32<|Value.int .u8 0);have hO1:=(Only.refl [] w).alloc (.cells (List.replicate 32<|Value.int .u8 0).toArray 219)
 have hs1:(w.alloc<|.cells (List.replicate 32<|Value.int .u8 0).toArray 219).heap.size=w.heap.size + 1:=by simp
 revert hR1 hO1 hs1
 simp only [Xc,List.replicate_zero]
 generalize World.alloc _ _=W1
 intro hR1 hO1 hs1
 have hs1':w.heap.size < W1.heap.size:=by omega
 clear hs1;have hsz:=hgl.sz
 go_wp2_with (first
  | (go_at_call 210;refine (start_any W1 A c key hk hc (hr.keep0 hO1)<|hgl.keep hO1 s9 s9).mono ?_;rintro e W2 ⟨rfl,hS2,hO2⟩;have hO2':=hO1.trans' hO2;have hR2:=hR1.keep hO2 s9;have hl2:=hS2.lt;clear hO1 hR1 hO2)
  | (go_at_call 211;refine (zhN W2 W1.heap.size key.length (Bl.kblock key) b 0 gp d B hS2 o9 o9 ((hO2'.cell (p:=⟨gp,0,none⟩) hgp s9).trans Hcp.out) hd (hrb.keep0 hO2') (hrb.low o9) hk o9 o9 (hgl.keep hO2' s9 s9) o9).mono ?_;rintro e W3 ⟨rfl,hS3,hO3⟩;have hO3':=hO2'.trans hO3 (by simp;omega);have hR3:=hR2.keep hO3 (by simp;omega);clear hS2 hO2' hR2 hO3)
  | (go_at_call 212;refine (zg9 W3 W1.heap.size key.length (Bl.kblock key ++ b) _ hS3 hk (by simp;omega) (hgl.keep hO3' s9 s9) o9).mono ?_;rintro e W4 ⟨rfl,hO4⟩;have hO4':=hO3'.trans hO4 (by simp;omega);have hR4:=hR3.keep hO4 (by simp;omega);clear hS3 hO3' hR3 hO4)
  | (refine YZ rfl 219 _ _ rfl w.heap.size (cellsOf<|Bl.hash key b) rfl rfl 219 _ hR4 (by rw [Hl32.out];rfl) Hs32.out Yd ?_;intro W5 hR5 hO5))
 exact bodyPost_ret (results_cell_row V _ _ w.heap.size 219 (cellsOf<|Bl.hash key b).toArray (0,0) _ V hR5 Tryz.underlying219 V (by simpa using Hs32.out)) V ⟨V,hO4'.trans hO5 s9⟩
theorem zgf (w:World) (t:TypeId) (v:Value):(w.alloc<|.cells #[v] t).cell? ⟨w.heap.size,0,none⟩=some v:=(Blk.new w t [v]).cellv rfl
namespace Sx
section
variable {w:World}
theorem zcX {A:Option Addr} {b:LB} (h:RV w A (cellsOf b)):RB w A b:=fun h0=>by
 obtain ⟨g,o,e,hg,hc⟩:=h (by rw [zx];exact h0);refine ⟨g,o,e,hg,fun j hj=> ?_⟩;rw [hc j (by rw [zx];exact hj)];simp [cellsOf,Je hj,Jr]
end
end Sx
theorem zav (w:World) {t:TypeId} {A:Array Value} {cs:List Value} (h:A=cs.toArray):Blk (w.alloc<|.cells A t) w.heap.size t cs:=by subst h;exact Blk.new w t cs
def zco (xs:LN):List Value:=xs.map fun (n:Nat)=>Value.int .i64 (n:Int)
theorem zcn {xs:LN} {i n:Nat} (h:xs[i]? =some n):(zco xs)[i]? =some (.int .i64 (n:Int)):=by simp [zco,h]
theorem zdE (w:World):Calls Tryz.prog 204 #[] w fun e w'=>e= .returned (.slice (some ⟨w.heap.size,0,none⟩) 8 8)∧Blk w' w.heap.size 275 (yk Bl.iv)∧Only [] w w':=by
 go_enter Tryz.func204,Tryz.ntmps204
 go_wp2
 go_ret
 exact ⟨V,Blk.new w _<|yk Bl.iv,(Only.refl [] w).alloc _⟩
def zbw (w:World) (os:List Obj):World:=os.foldl World.alloc w
theorem Vq:∀ (os:List Obj) (w:World) (i:Nat),i < os.length→(zbw w os).heap[w.heap.size + i]? =os[i]? ∧w.heap.size≤(zbw w os).heap.size
 | [],_,i,h=>by simp at h
 | o :: os,w,0,_=>by
  have hsz:∀ (os:List Obj) (w:World) (k:Nat),k < w.heap.size→(zbw w os).heap[k]? =w.heap[k]? ∧w.heap.size≤(zbw w os).heap.size:=by
   intro os
   induction os with
   | nil=>exact fun w k _=>⟨rfl,Js _⟩
   | cons o os ih=>
    intro w k hk;obtain ⟨h1,h2⟩:=ih (w.alloc o) k (by simp;omega);refine ⟨h1.trans<|Below.heap_alloc w o k hk,JG ?_ h2⟩;simp
  obtain ⟨h1,h2⟩:=hsz os (w.alloc o) w.heap.size s9;exact ⟨h1.trans<|Xw w o,JG s9 h2⟩
 | o :: os,w,i + 1,h=>by
  obtain ⟨h1,h2⟩:=Vq os (w.alloc o) i (by simpa using h)
  have e:(w.alloc o).heap.size + i=w.heap.size + (i + 1):=by simp;omega
  rw [e] at h1;exact ⟨by rw [J1];exact h1,JG s9 h2⟩
theorem zbv:∀ (os:List Obj) (w w0:World),Only [] w0 w→Only [] w0 (zbw w os)
 | [],_,_,h=>h
 | o :: os,w,w0,h=>zbv os (w.alloc o) w0 (h.alloc o)
def lane (i:Nat):LN:=[[0,4,8,12],[1,5,9,13],[2,6,10,14],[3,7,11,15],[0,5,10,15],[1,6,11,12],[2,7,8,13],[3,4,9,14]].getD i []
theorem lane_any (w:World) (i:Nat) (hi:i < 8):Calls Tryz.prog 221 #[.int .i64 (i:Int)] w fun e w'=>e= .returned (.slice (some ⟨w.heap.size,0,none⟩) 4 4)∧Blk w' w.heap.size 3 (zco<|lane i)∧Only [] w w':=by
 rcases (show i=0∨i=1∨i=2∨i=3∨i=4∨i=5∨i=6∨i=7 by omega) with rfl | rfl | rfl | rfl | rfl | rfl | rfl | rfl
 all_goals
  go_enter Tryz.func221,Tryz.ntmps221
  go_wp2
  go_ret
  exact ⟨V,zav w V,(Only.refl [] w).alloc _⟩
theorem wpl_load1 {P:Program} {w:World} {ops:Array Oper} {rest:List Oper} {o:Oper} {a:Act} {Q:Exit→Act→World→Prop} (hgd:o.guard=none) (ty:TypeId) (x:Operand) (ho:o.op= .load ty x)
  (p:Addr) (hx:a.eval x= .pointer (some p)) (d:TypeDesc) (hu:P.underlying ty=some d) (hd:d.isRow=false) (v:Value) (hc:w.cell? p=some v)
  (h:wpList P ops Q rest (a.put o.dst v) w):wpList P ops Q (o :: rest) a w:=
 J4 hgd fun K hK=>by
  have hag:(isAgg ty).run P w= .ok false w:=by
   cases d <;> simp [TypeDesc.isRow] at hd <;> simp [isAgg,Jp hu]
  have hl:(load p).run P w= .ok v w:=by simp [load,Sem.run,hc]
  unfold Oper.wp execOp;simp only [ho,hx,Instr.loadAt,Instr.sureAddr,JD,JK,Jv,loadVar,hag,Bool.false_eq_true,if_false,hl];exact hK _ _ h
theorem row_any (w:World) (r:Nat) (hr:r < 10):Calls Tryz.prog 219 #[.int .i64 (r:Int)] w fun e w'=>e= .returned (.slice (some ⟨w.heap.size + r,0,none⟩) 16 16)∧Blk w' (w.heap.size + r) 3 (zco<|Bl.tab.getD r [])∧Only [] w w':=by
 have hrI:(r:Int) < 10:=by omega
 go_enter Tryz.func219,Tryz.ntmps219
 go_wp2_with (refine wpl_load1 rfl 112 _ rfl _ rfl _ Tryz.underlying112 rfl (.slice (some ⟨w.heap.size + r,0,none⟩) 16 16) ?hc ?_)
 case hc=>
  show (zbw w [_,_,_,_,_,_,_,_,_,_,_]).cell? ⟨w.heap.size + 10,r,none⟩=_;unfold World.cell?;rw [(Vq _ w 10 s9).1]
  rcases (show r=0∨r=1∨r=2∨r=3∨r=4∨r=5∨r=6∨r=7∨r=8∨r=9 by omega) with rfl | rfl | rfl | rfl | rfl | rfl | rfl | rfl | rfl | rfl <;> rfl
 go_ret
 refine ⟨V,?_,zbv [_,_,_,_,_,_,_,_,_,_,_] w w<|Only.refl [] w⟩;show (zbw w [_,_,_,_,_,_,_,_,_,_,_]).heap[w.heap.size + r]? =_;rw [(Vq _ w r (by simp;omega)).1]
 rcases (show r=0∨r=1∨r=2∨r=3∨r=4∨r=5∨r=6∨r=7∨r=8∨r=9 by omega) with rfl | rfl | rfl | rfl | rfl | rfl | rfl | rfl | rfl | rfl <;> rfl
theorem zcY (x p q:Nat) (hx:x < 4294967296):bits .or .u32 ((x:Int) / q) ((x:Int) * p % 4294967296)=((x / q ||| x * p % 4294967296:Nat):Int):=by
 have h1:x / q < 4294967296:=Nat.lt_of_le_of_lt (Nat.div_le_self _ _) hx
 have h2:x * p % 4294967296 < 4294967296:=by omega
 have:=u32_or_nat (x / q) (x * p % 4294967296) h1 h2;rw [← this];simp
theorem right16 (x r:Nat) (hx:x < 4294967296) (hr:r=Bl.ror x 16) (w:World):
  Calls Tryz.prog 225 #[.int .u32 x,.int .i64 16] w fun e w'=>e= .returned (.int .u32 (r:Nat))∧w'=w.drew:=by
 have Hr:=Jm hr;clear hr
 have w16:IntKind.i64.wrap 16=16:=by decide
 go_enter Tryz.func225,Tryz.ntmps225
 go_wp2
 refine Ord.wp_tail 9 k9 k9 (fun d _ _ _ _ h=>by cases d <;> exact h) ?_
 simp only [Xo,XD,Xz,List.drop_zero]
 repeat still_step
 refine wpStill_nil ?_
 go_wp2
 go_ret
 exact ⟨JY (fun n=>Ending.returned<|.int .u32 n) (by rw [IntKind.wrap_u32',Hr.out];exact zcY x 65536 65536 hx),V⟩
theorem right12 (x r:Nat) (hx:x < 4294967296) (hr:r=Bl.ror x 12) (w:World):
  Calls Tryz.prog 225 #[.int .u32 x,.int .i64 12] w fun e w'=>e= .returned (.int .u32 (r:Nat))∧w'=w.drew:=by
 have Hr:=Jm hr;clear hr
 have w16:IntKind.i64.wrap 20=20:=by decide
 go_enter Tryz.func225,Tryz.ntmps225
 go_wp2
 refine Ord.wp_tail 9 k9 k9 (fun d _ _ _ _ h=>by cases d <;> exact h) ?_
 simp only [Xo,XD,Xz,List.drop_zero]
 repeat still_step
 refine wpStill_nil ?_
 go_wp2
 go_ret
 exact ⟨JY (fun n=>Ending.returned<|.int .u32 n) (by rw [IntKind.wrap_u32',Hr.out];exact zcY x 1048576 4096 hx),V⟩
theorem right8 (x r:Nat) (hx:x < 4294967296) (hr:r=Bl.ror x 8) (w:World):
  Calls Tryz.prog 225 #[.int .u32 x,.int .i64 8] w fun e w'=>e= .returned (.int .u32 (r:Nat))∧w'=w.drew:=by
 have Hr:=Jm hr;clear hr
 have w16:IntKind.i64.wrap 24=24:=by decide
 go_enter Tryz.func225,Tryz.ntmps225
 go_wp2
 refine Ord.wp_tail 9 k9 k9 (fun d _ _ _ _ h=>by cases d <;> exact h) ?_
 simp only [Xo,XD,Xz,List.drop_zero]
 repeat still_step
 refine wpStill_nil ?_
 go_wp2
 go_ret
 exact ⟨JY (fun n=>Ending.returned<|.int .u32 n) (by rw [IntKind.wrap_u32',Hr.out];exact zcY x 16777216 256 hx),V⟩
theorem right7 (x r:Nat) (hx:x < 4294967296) (hr:r=Bl.ror x 7) (w:World):
  Calls Tryz.prog 225 #[.int .u32 x,.int .i64 7] w fun e w'=>e= .returned (.int .u32 (r:Nat))∧w'=w.drew:=by
 have Hr:=Jm hr;clear hr
 have w16:IntKind.i64.wrap 25=25:=by decide
 go_enter Tryz.func225,Tryz.ntmps225
 go_wp2
 refine Ord.wp_tail 9 k9 k9 (fun d _ _ _ _ h=>by cases d <;> exact h) ?_
 simp only [Xo,XD,Xz,List.drop_zero]
 repeat still_step
 refine wpStill_nil ?_
 go_wp2
 go_ret
 exact ⟨JY (fun n=>Ending.returned<|.int .u32 n) (by rw [IntKind.wrap_u32',Hr.out];exact zcY x 33554432 128 hx),V⟩
theorem wset {ws:LN} {rest:List Value} {i n:Nat} (h:i < ws.length):(yk ws ++ rest).set i (.int .u32 (n:Int))=yk (ws.set i n) ++ rest:=by
 rw [List.set_append_left _ _ (by simpa using h),Y0]
theorem g_walk (w:World) (gv gl:Nat) (cv:Nat) (ws:LN) (rest:List Value) (a b c d x y:Nat) (hw:Bl.Words 16 ws) (hv:Blk w gv 275 (yk ws ++ rest)) (hl:Blk w gl 3 (zco [a,b,c,d])) (_hg:gl≠gv)
  (la:a < 16) (lb:b < 16) (lc:c < 16) (ld:d < 16) (ab:a≠b) (ac:a≠c) (ad:a≠d) (bc:b≠c) (bd:b≠d) (cd:c≠d):
  Calls Tryz.prog 220 #[.slice (some ⟨gv,0,none⟩) 16 cv,.slice (some ⟨gl,0,none⟩) 4 4,.int .u32 x,.int .u32 y] w fun e w'=>
   e= .returned (.tuple #[])∧Blk w' gv 275 (yk (Bl.mixw ws a b c d x y) ++ rest)∧Only [gv] w w':=by
 have hget:∀ i,i < 16→(yk ws ++ rest)[i]? =some (.int .u32 (ws.getD i 0:Nat)):=fun i hi=>by
  rw [JB (by simp [hw.1,hi])];exact yt (wget hw hi)
 obtain ⟨va,Hva⟩:∃ n,Hid (n=ws.getD a 0):=⟨_,rfl⟩;obtain ⟨vb,Hvb⟩:∃ n,Hid (n=ws.getD b 0):=⟨_,rfl⟩;obtain ⟨vc,Hvc⟩:∃ n,Hid (n=ws.getD c 0):=⟨_,rfl⟩;obtain ⟨vd,Hvd⟩:∃ n,Hid (n=ws.getD d 0):=⟨_,rfl⟩;have k0:w.cell? ⟨gl,0,none⟩=some (.int .i64 (a:Int)):=hl.cellv rfl;have k1:w.cell? ⟨gl,1,none⟩=some (.int .i64 (b:Int)):=hl.cellv rfl;have k2:w.cell? ⟨gl,2,none⟩=some (.int .i64 (c:Int)):=hl.cellv rfl;have k3:w.cell? ⟨gl,3,none⟩=some (.int .i64 (d:Int)):=hl.cellv rfl
 have ca:w.cell? ⟨gv,a,none⟩=some (.int .u32 (va:Int)):=by rw [Hva.out];exact hv.cellv (hget a la)
 have cb:w.cell? ⟨gv,b,none⟩=some (.int .u32 (vb:Int)):=by rw [Hvb.out];exact hv.cellv (hget b lb)
 have cc:w.cell? ⟨gv,c,none⟩=some (.int .u32 (vc:Int)):=by rw [Hvc.out];exact hv.cellv (hget c lc)
 have cd':w.cell? ⟨gv,d,none⟩=some (.int .u32 (vd:Int)):=by rw [Hvd.out];exact hv.cellv (hget d ld)
 have la':(a:Int) < 16:=by omega
 have lb':(b:Int) < 16:=by omega
 have lc':(c:Int) < 16:=by omega
 have ld':(d:Int) < 16:=by omega
 have Hget:=Jm hget;clear hget
 go_enter Tryz.func220,Tryz.ntmps220
 refine wp_seq_k fun K hK=>(Ord.wp_tail 28 k9 k9 (fun d _ _ _ _ h=>by cases d <;> exact h) ?_)
 simp only [Xo,XD,Xz,List.drop_zero]
 repeat still_step
 refine wpStill_nil ?_
 have lva:va < 4294967296:=by rw [Hva.out];exact hw.getD _
 have lvb:vb < 4294967296:=by rw [Hvb.out];exact hw.getD _
 have lvc:vc < 4294967296:=by rw [Hvc.out];exact hw.getD _
 have lvd:vd < 4294967296:=by rw [Hvd.out];exact hw.getD _
 obtain ⟨a1,Ha1⟩:∃ n,Hid (n=Bl.add32 va (Bl.add32 vb x)):=⟨_,rfl⟩
 have eA1:(((va:Int) + vb) % 4294967296 + x) % 4294967296=(a1:Int):=by rw [Ha1.out];simp [Bl.add32];omega
 have eB1:((va:Int) + vb + x) % 4294967296=(a1:Int):=by rw [Ha1.out];simp [Bl.add32];omega
 have la1:a1 < 4294967296:=by rw [Ha1.out];exact Bl.add32_lt _ _
 obtain ⟨zd1,Hzd1⟩:∃ n,Hid (n=vd ^^^ a1):=⟨_,rfl⟩
 have ezd1:bits .xor .u32 (vd:Int) (a1:Int)=(zd1:Int):=by rw [Hzd1.out];exact Xf _ _ lvd la1
 have lzd1:zd1 < 4294967296:=by rw [Hzd1.out];exact Bl.xor_lt _ _ lvd la1
 obtain ⟨d1,Hd1⟩:∃ n,Hid (n=Bl.ror zd1 16):=⟨_,rfl⟩
 have ld1:d1 < 4294967296:=by rw [Hd1.out];exact Bl.ror_lt _ _ lzd1
 go_wp2_with fail
 simp only [eA1];refine (right16 zd1 d1 lzd1 Hd1.out _).mono ?_;rintro e w' ⟨rfl,rfl⟩;obtain ⟨c1,Hc1⟩:∃ n,Hid (n=Bl.add32 vc d1):=⟨_,rfl⟩
 have eC1:((vc:Int) + d1) % 4294967296=(c1:Int):=by rw [Hc1.out];exact Bl.add_cast _ _
 have lc1:c1 < 4294967296:=by rw [Hc1.out];exact Bl.add32_lt _ _
 obtain ⟨zb1,Hzb1⟩:∃ n,Hid (n=vb ^^^ c1):=⟨_,rfl⟩
 have ezb1:bits .xor .u32 (vb:Int) (c1:Int)=(zb1:Int):=by rw [Hzb1.out];exact Xf _ _ lvb lc1
 have lzb1:zb1 < 4294967296:=by rw [Hzb1.out];exact Bl.xor_lt _ _ lvb lc1
 obtain ⟨b1,Hb1⟩:∃ n,Hid (n=Bl.ror zb1 12):=⟨_,rfl⟩
 have lb1:b1 < 4294967296:=by rw [Hb1.out];exact Bl.ror_lt _ _ lzb1
 go_wp2_with fail
 simp only [eC1];refine (right12 zb1 b1 lzb1 Hb1.out _).mono ?_;rintro e w' ⟨rfl,rfl⟩;clear eA1 eB1 eC1 ezd1 ezb1;obtain ⟨a2,Ha2⟩:∃ n,Hid (n=Bl.add32 a1 (Bl.add32 b1 y)):=⟨_,rfl⟩
 have eA2:(((a1:Int) + b1) % 4294967296 + y) % 4294967296=(a2:Int):=by rw [Ha2.out];simp [Bl.add32];omega
 have eB2:((a1:Int) + b1 + y) % 4294967296=(a2:Int):=by rw [Ha2.out];simp [Bl.add32];omega
 have la2:a2 < 4294967296:=by rw [Ha2.out];exact Bl.add32_lt _ _
 obtain ⟨zd2,Hzd2⟩:∃ n,Hid (n=d1 ^^^ a2):=⟨_,rfl⟩
 have ezd2:bits .xor .u32 (d1:Int) (a2:Int)=(zd2:Int):=by rw [Hzd2.out];exact Xf _ _ ld1 la2
 have lzd2:zd2 < 4294967296:=by rw [Hzd2.out];exact Bl.xor_lt _ _ ld1 la2
 obtain ⟨d2,Hd2⟩:∃ n,Hid (n=Bl.ror zd2 8):=⟨_,rfl⟩
 have ld2:d2 < 4294967296:=by rw [Hd2.out];exact Bl.ror_lt _ _ lzd2
 go_wp2_with fail
 simp only [eA2];refine (right8 zd2 d2 lzd2 Hd2.out _).mono ?_;rintro e w' ⟨rfl,rfl⟩;obtain ⟨c2,Hc2⟩:∃ n,Hid (n=Bl.add32 c1 d2):=⟨_,rfl⟩
 have eC2:((c1:Int) + d2) % 4294967296=(c2:Int):=by rw [Hc2.out];exact Bl.add_cast _ _
 have lc2:c2 < 4294967296:=by rw [Hc2.out];exact Bl.add32_lt _ _
 obtain ⟨zb2,Hzb2⟩:∃ n,Hid (n=b1 ^^^ c2):=⟨_,rfl⟩
 have ezb2:bits .xor .u32 (b1:Int) (c2:Int)=(zb2:Int):=by rw [Hzb2.out];exact Xf _ _ lb1 lc2
 have lzb2:zb2 < 4294967296:=by rw [Hzb2.out];exact Bl.xor_lt _ _ lb1 lc2
 obtain ⟨b2,Hb2⟩:∃ n,Hid (n=Bl.ror zb2 7):=⟨_,rfl⟩
 have lb2:b2 < 4294967296:=by rw [Hb2.out];exact Bl.ror_lt _ _ lzb2
 go_wp2_with fail
 simp only [eC2];refine (right7 zb2 b2 lzb2 Hb2.out _).mono ?_;rintro e w' ⟨rfl,rfl⟩;clear eA2 eB2 eC2 ezd2 ezb2
 go_wp2_with fail
 have fz:∀ i,w.frozen? ⟨gv,i,none⟩=false:=fun i=>hv.frozen i
 refine Ord.wp_tail 20 k9 k9 (fun d _ _ _ _ h=>by cases d <;> exact h) ?_
 simp only [Xo,XD,Xz,List.drop_zero]
 repeat still_step
 refine wpStill_nil ?_
 go_wp2
 refine bodyPost_end (results_none V _ _ _) V ⟨V,?_,?_⟩
 ·have e:Bl.mixw ws a b c d x y=(((ws.set a a2).set b b2).set c c2).set d d2:=by
   simp only [Bl.mixw,Bl.gmix,Bl.half,← Hva.out,← Hvb.out,← Hvc.out,← Hvd.out];rw [Hb2.out,Hzb2.out,Hc2.out,Hd2.out,Hzd2.out,Ha2.out,Hb1.out,Hzb1.out,Hc1.out,Hd1.out,Hzd1.out,Ha1.out]
  have hl:=hw.1;have h4:=(((hv.set a<|.int .u32 (a2:Int)).set b<|.int .u32 (b2:Int)).set c<|.int .u32 (c2:Int)).set d (.int .u32 (d2:Int));rw [wset o9,wset (by simp;omega),wset (by simp;omega),wset (by simp;omega),← e] at h4;exact h4
 ·have h5:=((((Only.refl [gv] w).setCell (p:=⟨gv,a,none⟩) (.inl s9)<|.int .u32 (a2:Int)).setCell (p:=⟨gv,b,none⟩) (.inl s9)<|.int .u32 (b2:Int)).setCell (p:=⟨gv,c,none⟩) (.inl s9)<|.int .u32 (c2:Int)).setCell (p:=⟨gv,d,none⟩) (.inl s9) (.int .u32 (d2:Int));exact ⟨h5.os,h5.tape,h5.output,h5.size,h5.block⟩
theorem info8:(Tryz.prog.info? 5).map (fun i=>(i.zero,i.size,i.bytes))=some (some<|.int .u8 0,1,1):=by kernel_rfl
section
variable {w:World}{ops:Array Oper}{rest:List Oper}{o:Oper}{a:Act}{Q:Exit→Act→World→Prop}
theorem ZY (hgd:o.guard=none) (s x:Operand) (ho:o.op= .call { callee:= .builtin .append,args:= #[s,x],argTypes:= #[24,24] })
  (A:Option Addr) (n c:Nat) (xs:LB) (G:Option Nat) (hs:a.eval s= .slice A n c) (hn:n=xs.length) (hown:OwnS w 5 A c (cellsOf xs) G)
  (B:Option Addr) (m d:Nat) (ys:LB) (hx:a.eval x= .slice B m d) (hm:m=ys.length) (hr:RV w B (cellsOf ys))
  (hlen:xs.length + ys.length≤1099511627776)
  (h:∀ A' c' w' G',OwnS w' 5 A' c' (cellsOf<|xs ++ ys) G'→Only G.toList w w'→(G'=G∨G'=some w.heap.size)→wpList Tryz.prog ops Q rest (a.put o.dst<|.slice A' (n + m) c') w'):wpList Tryz.prog ops Q (o :: rest) a w:=by
 have hi:=info8
 cases hI:Tryz.prog.info? 5 with
 | none=>rw [hI] at hi;cases hi
 | some i=>
  rw [hI] at hi;injection hi with hi;injection hi with h1 h2;injection h2 with h2 h3;refine zb4 hgd s x 24 ho 5 i (.int .u8 0) 1 Tryz.underlying24 hI h1 h2 h3 V A n c (cellsOf xs) G hs (by simpa using hn) hown B m d (cellsOf ys) hx (by simpa using hm) hr Yd (by simpa using hlen) d9 fun A' c' w' G' hw hO hG=>h A' c' w' G' (by simpa [cellsOf] using hw) hO hG
theorem zaw (hgd:o.guard=none) (x y:Operand) (ho:o.op= .store 219 x y) (g:Nat) (bs:LB) (hx:a.eval x= .pointer (some ⟨g,0,none⟩)) (hy:a.eval y= .agg (cellsOf bs).toArray)
  (cur:List Value) (hb:Blk w g 219 cur) (hc:cur.length=32) (hl:bs.length=32)
  (h:∀ w',Blk w' g 219 (cellsOf bs)→Only [g] w w'→wpList Tryz.prog ops Q rest (a.put o.dst undef) w'):wpList Tryz.prog ops Q (o :: rest) a w:=by
 have hs:(Tryz.prog.info? 219).map (·.size)=some 32:=by kernel_rfl
 exact YZ hgd _ x y ho g (cellsOf bs) hx hy _ cur hb (by simp [hc,hl]) (by simpa [hl] using hs) Yd h
end
theorem info32:(Tryz.prog.info? 275).map (fun i=>(i.zero,i.size,i.bytes))=some (some<|.int .u32 0,1,4):=by kernel_rfl
section
variable {w:World}{ops:Array Oper}{rest:List Oper}{o:Oper}{a:Act}{Q:Exit→Act→World→Prop}
theorem jq (hgd:o.guard=none) (s x:Operand) (ho:o.op= .call { callee:= .builtin .append,args:= #[s,x],argTypes:= #[280,280] })
  (A:Option Addr) (n c:Nat) (xs:LN) (G:Option Nat) (hs:a.eval s= .slice A n c) (hn:n=xs.length) (hown:OwnS w 275 A c (yk xs) G)
  (B:Option Addr) (m d:Nat) (ys:LN) (hx:a.eval x= .slice B m d) (hm:m=ys.length) (hr:RV w B (yk ys))
  (hlen:xs.length + ys.length≤1099511627776)
  (h:∀ A' c' w' G',OwnS w' 275 A' c' (yk<|xs ++ ys) G'→Only G.toList w w'→(G'=G∨G'=some w.heap.size)→wpList Tryz.prog ops Q rest (a.put o.dst<|.slice A' (n + m) c') w'):wpList Tryz.prog ops Q (o :: rest) a w:=by
 have hi:=info32
 cases hI:Tryz.prog.info? 275 with
 | none=>rw [hI] at hi;cases hi
 | some i=>
  rw [hI] at hi;injection hi with hi;injection hi with h1 h2;injection h2 with h2 h3;refine zb4 hgd s x 280 ho 275 i (.int .u32 0) 4 Tryz.underlying280 hI h1 h2 h3 V A n c (yk xs) G hs (by simpa using hn) hown B m d (yk ys) hx (by simpa using hm) hr (fun u hu=>by obtain ⟨n,_,rfl⟩:=JI.1 hu;rfl) (by simpa using hlen) d9 fun A' c' w' G' hw hO hG=>h A' c' w' G' (by simpa [yk] using hw) hO hG
end
namespace Bl
def lanesTo (m row v:LN):Nat→LN
 | 0=>v
 | j + 1=>mixw (lanesTo m row v j) ((lane j).getD 0 0) ((lane j).getD 1 0) ((lane j).getD 2 0) ((lane j).getD 3 0) (m.getD (row.getD (2 * j) 0) 0) (m.getD (row.getD (2 * j + 1) 0) 0)
theorem lanesTo_all (m row v:LN):lanesTo m row v 8=round m row v:=rfl
theorem lanesTo_words {m row v:LN} (h:Words 16 v):∀ j,Words 16 (lanesTo m row v j)
 | 0=>h
 | j + 1=>mixw_words (lanesTo_words h j) _ _ _ _ _ _
end Bl
theorem lane_four (j:Nat) (hj:j < 8):∃ a b c d,lane j=[a,b,c,d]∧a < 16∧b < 16∧c < 16∧d < 16∧a≠b∧a≠c∧a≠d∧b≠c∧b≠d∧c≠d:=by
 rcases (show j=0∨j=1∨j=2∨j=3∨j=4∨j=5∨j=6∨j=7 by omega) with rfl | rfl | rfl | rfl | rfl | rfl | rfl | rfl <;> exact ⟨_,_,_,_,rfl,by decide,by decide,by decide,by decide,by decide,by decide,by decide,by decide,by decide,by decide⟩
theorem nget {l:LN} {i:Nat} (h:i < l.length):l[i]? =some (l.getD i 0):=by simp [h]
theorem zez (w:World) (A B:Option Addr) (ca cb:Nat) (st:LN) (bs:LB) (t:Nat) (last:Bool) (hst:Bl.Words 8 st) (hbs:bs.length=64) (hA:RV w A (yk st)) (hB:RV w B (cellsOf bs)) (_hca:8≤ca) (_hcb:64≤cb) (ht:t < 4611686018427387904):
    Calls Tryz.prog 205 #[.slice A 8 ca,.slice B 64 cb,.int .i64 (t:Int),.bool last] w fun e w'=>∃ A' c' G,e= .returned (.slice A' 8 c')∧OwnS w' 275 A' c' (yk<|Bl.comp st bs t last) G∧New w G∧Only [] w w':=by
  obtain ⟨gb,ob,rfl,hgb,hcb'⟩:=hB (by simp [hbs])
  obtain ⟨gh,oh,rfl,hgh,hch'⟩:=hA (by simp [hst.1])
  have Hcb:=Jm hcb'
  have Hch:=Jm hch'
  have Hbs:=Jm hbs
  clear hcb' hch' hbs
  go_enter Tryz.func205,Tryz.ntmps205
  go_wp2
  go_loopw [9,10] (fun m i wr=>∃ (k:Nat) (Am:Option Addr) (cm:Nat) (G:Option Nat),k≤16∧i= .int .i64 k∧m= .slice Am k cm∧OwnS wr 275 Am cm (yk<|(List.range k).map<|Bl.mw bs) G∧New w G∧Only [] w wr) (fun _ i _=>16 - (intOf i).toNat)
  case atStart=>exact ⟨0,none,0,none,by omega,rfl,rfl,OwnS.none _ _,New.none _,Only.refl _ _⟩
  case round=>
    obtain ⟨k,Am,cm,G,hk,rfl,rfl,hown,hnew,hO⟩:=hrel
    by_cases hlt:k < 16
    ·
      have hltI:(k:Int) < 16:=by omega
      have hcell:∀ j,j < 64→wr.cell? ⟨gb,ob + j,none⟩=some (.int .u8 ((bs.getD j 0).toNat:Int)):=fun j hj=>by
        rw [hO.cell (p:=⟨gb,ob + j,none⟩) hgb s9,Hcb.out j (by simp [Hbs.out,hj]),Yl (by rw [Hbs.out];exact hj)]
      obtain ⟨b0,E0⟩:∃ n,n=(bs.getD (4 * k) 0).toNat:=⟨_,rfl⟩
      obtain ⟨b1,E1⟩:∃ n,n=(bs.getD (4 * k + 1) 0).toNat:=⟨_,rfl⟩
      obtain ⟨b2,E2⟩:∃ n,n=(bs.getD (4 * k + 2) 0).toNat:=⟨_,rfl⟩
      obtain ⟨b3,E3⟩:∃ n,n=(bs.getD (4 * k + 3) 0).toNat:=⟨_,rfl⟩
      have l0:b0 < 256:=by rw [E0];exact J5 _
      have l1:b1 < 256:=by rw [E1];exact J5 _
      have l2:b2 < 256:=by rw [E2];exact J5 _
      have l3:b3 < 256:=by rw [E3];exact J5 _
      have c0:wr.cell? ⟨gb,ob + 4 * k,none⟩=some (.int .u8 (b0:Int)):=by rw [E0];exact hcell _ o9
      have c1:wr.cell? ⟨gb,ob + (4 * k + 1),none⟩=some (.int .u8 (b1:Int)):=by rw [E1];exact hcell _ o9
      have c2:wr.cell? ⟨gb,ob + (4 * k + 2),none⟩=some (.int .u8 (b2:Int)):=by rw [E2];exact hcell _ o9
      have c3:wr.cell? ⟨gb,ob + (4 * k + 3),none⟩=some (.int .u8 (b3:Int)):=by rw [E3];exact hcell _ o9
      have eM:=Bl.mword_cast l0 l1 l2 l3
      have Hmw:Hid (Bl.mw bs k=Bl.mword b0 b1 b2 b3):=by rw [E0,E1,E2,E3];rfl
      have HeM:=Jm eM
      have hgb':gb < wr.heap.size:=Ju hgb hO.size
      have hgbG:gb∉G.toList:=hnew.far hgb
      clear E0 E1 E2 E3 hcell eM
      go_wp2
      refine Reg.wp G.toList [.r 0,.r 1,.r 2,.r 3,.r 4,.r 5,.r 6,.r 7,.r 8,.r 9,.r 10,.r 11,.r 12,.r 13,.r 14,.r 15,.r 16,.r 17,.r 18,.r 19,.r 20,.r 21,.r 22,.r 23,.r 24,.r 25,.r 26,.r 27,.r 28,.r 29,.r 30,.r 31,.r 32,.r 33,.e 34,.e 35,.r 36] k9 k9 (fun d _ _ _ _ h=>by cases d <;> exact h) ?_
      simp only [Reg.pick,List.getD_cons_succ,List.getD_cons_zero]
      iterate 34 (apply Reg.read;(· (intro t K hK;go_simp;(try go_ints);(try ((go_ite <;> go_prune);go_simp));(try go_ints);exact hK _ rfl));(· (intro K hK;go_simp;exact hK _ rfl)))
      refine Reg.eff ?_
      go_wp2
      refine ⟨((Only.refl G.toList wr).alloc _).dd,?_⟩
      simp only [HeM.out]
      rw [← Hmw.out]
      clear c0 c1 c2 c3 HeM
      refine Reg.eff (jq V (.tmp 21) (.tmp 55) V Am k cm _ G V s9 ((hown.keep ((Only.refl [] wr).alloc _) s9).drew) (some ⟨wr.heap.size,0,none⟩) 1 1 [Bl.mw bs k] V V (RV.one wr _ _).drew (by simp;omega) ?_)
      intro A' c' w2 G' hown2 hO2 hG2
      refine Reg.done hO2 ?_
      (apply Reg.read;(· (intro t K hK;go_simp;(try go_ints);(try ((go_ite <;> go_prune);go_simp));(try go_ints);exact hK _ rfl));(· (intro K hK;go_simp;exact hK _ rfl)))
      refine Reg.fin ?_
      have hO1s:=hO.size
      have hO2':Only [] w w2:=((hO.alloc _).drew).trans hO2 hnew.out
      clear hO2 hO hown
      go_wp2
      go_roundw
      case rel=>
        refine ⟨k + 1,A',c',G',by omega,by go_num,rfl,?_,hnew.next (JG hO1s s9) hG2,hO2'⟩
        rw [List.range_succ,XG];exact hown2
      case measure=>simp [intOf];omega
    · obtain rfl:k=16:=by omega
      clear hlt hk
      have hown:OwnS wr 275 Am cm (yk<|Bl.mws bs) G:=hown
      obtain ⟨gm,mrest,rfl,rfl,hBm⟩:=hown.blk (by simp [Bl.mws])
      have hgm:=hBm.lt
      have hgmw:=hnew gm rfl
      clear hown
      rw [show ((16:Nat):Int)=16 from rfl]
      have hAr:RV wr (some ⟨gh,oh,none⟩) (yk st):=fun _=>⟨gh,oh,rfl,Ju hgh hO.size,fun j hj=>(hO.cell (p:=⟨gh,oh + j,none⟩) hgh s9).trans<|Hch.out j hj⟩
      go_upto_region 7 with (fail)
      have hlw:st.length=8:=hst.1
      have Hlw:=Jm hlw
      clear hlw
      obtain ⟨z12,ez12⟩:∃ n,n=1359893119 ^^^ t % 4294967296:=⟨_,rfl⟩
      obtain ⟨z13,ez13⟩:∃ n,n=2600822924 ^^^ t / 4294967296 % 4294967296:=⟨_,rfl⟩
      have x12:bits .xor .u32 1359893119 ((t:Int) % 4294967296)=(z12:Int):=by
        have:=Xf 1359893119 (t % 4294967296) d9 o9;rw [ez12];simpa using this
      have x13:bits .xor .u32 2600822924 ((t:Int) / 4294967296)=(z13:Int):=by
        have:=Xf 2600822924 (t / 4294967296) d9 o9;rw [ez13,Nat.mod_eq_of_lt o9];simpa using this
      have Hz12:=Jm ez12
      have Hz13:=Jm ez13
      clear ez12 ez13
      go_upto_if 79 with (first
        | (at_builtin;refine jq rfl (.tmp 57) (.tmp 58) rfl none 0 0 [] none rfl rfl (OwnS.none _ _) (some ⟨gh,oh,none⟩) 8 ca st rfl Hlw.out.symm hAr (by rw [Hlw.out];decide) ?_
           intro A1 c1 w1 G1 hown1 hO1 hG1
           rw [J0] at hown1
           have hG1':New wr G1:=(New.none wr).next (Js _) hG1)
        | (go_at_call 204;refine (zdE w1).mono ?_
           rintro e w2 ⟨rfl,hBw,hO2⟩
           have hown2:=hown1.keep hO2 s9)
        | (at_builtin;refine jq rfl (.tmp 59) (.tmp 60) rfl A1 8 c1 st G1 rfl Hlw.out.symm hown2 (some ⟨w1.heap.size,0,none⟩) 8 8 Bl.iv rfl rfl (fun _=>⟨_,0,rfl,hBw.lt,fun j _=>by rw [JF];exact hBw.cell j⟩) (by rw [Hlw.out];decide) ?_
           intro A3 c3 w3 G3 hown3 hO3 hG3
           obtain ⟨gv,vrest,rfl,rfl,hV⟩:=hown3.blk (by rw [ZH,Jk,Hlw.out];decide)
           have c12:w3.cell? ⟨gv,12,none⟩=some (.int .u32 (1359893119:Int)):=hV.cellv (by rw [JB (by simp [Hlw.out,Bl.iv])];exact yt<|zck Hlw.out 4 d9)
           have c13:w3.cell? ⟨gv,13,none⟩=some (.int .u32 (2600822924:Int)):=hV.cellv (by rw [JB (by simp [Hlw.out,Bl.iv])];exact yt<|zck Hlw.out 5 d9)
           have f12:=hV.frozen 12
           have f13:=hV.frozen 13))
      have hNew3:New wr (some gv):=(hG1'.next (JG (Only.size hO1) hO2.size) hG3)
      have hO3':Only [] wr w3:=((hO1.mono s9).trans' hO2).trans hO3 hG1'.out
      have hgv:=hNew3 gv rfl
      have hM3:Blk w3 gm 275 (yk (Bl.mws bs) ++ mrest):=hBm.keep hO3' s9
      have hO4:Only [] w w3:=hO.trans' hO3'
      have hV5:Blk ((w3.setCell ⟨gv,12,none⟩<|.int .u32 (z12:Int)).setCell ⟨gv,13,none⟩<|.int .u32 (z13:Int)) gv 275 (yk (((st ++ Bl.iv).set 12 z12).set 13 z13) ++ vrest):=by
        rw [← wset (by rw [Xl,Jk,Hlw.out];decide),← wset (by rw [Jk,Hlw.out];decide)];exact (hV.set 12 _).set 13 _
      have hM5:=(hM3.far (p:=⟨gv,12,none⟩) (by simp;omega)<|.int .u32 (z12:Int)).far (p:=⟨gv,13,none⟩) (by simp;omega) (.int .u32 (z13:Int))
      have hO5:=(hO4.setCell (p:=⟨gv,12,none⟩) (.inr (by simp;omega))<|.int .u32 (z12:Int)).setCell (p:=⟨gv,13,none⟩) (.inr (by simp;omega)) (.int .u32 (z13:Int))
      have hS5:((w3.setCell ⟨gv,12,none⟩<|.int .u32 (z12:Int)).setCell ⟨gv,13,none⟩<|.int .u32 (z13:Int)).heap.size=w3.heap.size:=by simp [World.setCell]
      clear c12 c13 f12 f13 x12 x13 hV hM3 hown1 hown2 hown3 hO1 hO2 hO3 hG1 hG3 hBw hG1'
      revert hV5 hM5 hO5 hS5
      generalize World.setCell (World.setCell _ _ _) _ _=W3
      intro hV5 hM5 hO5 hS5
      have hgv3:=hV5.lt
      clear hS5
      go_cut [] (fun wx=>Blk wx gv 275 (yk (Bl.vinit st t last) ++ vrest)∧Blk wx gm 275 (yk (Bl.mws bs) ++ mrest)∧Only [] w wx)
      case first=>
        cases last
        · go_wp2
          go_meet
          have e:Bl.vinit st t false=((st ++ Bl.iv).set 12 z12).set 13 z13:=by rw [Hz12.out,Hz13.out];rfl
          exact ⟨by rw [e];exact hV5,hM5,hO5⟩
        · have c14:W3.cell? ⟨gv,14,none⟩=some (.int .u32 (528734635:Int)):=by
            refine hV5.cellv ?_
            rw [JB (by simp [Hlw.out,Bl.iv])]
            refine yt ?_
            rw [List.getElem?_set_ne d9,List.getElem?_set_ne d9]
            exact zck hst.1 6 d9
          have f14:=hV5.frozen 14
          have x14:bits .xor .u32 528734635 4294967295=((528734635 ^^^ 4294967295:Nat):Int):=by decide +kernel
          go_wp2
          go_meet
          have e:Bl.vinit st t true=(((st ++ Bl.iv).set 12 z12).set 13 z13).set 14 (528734635 ^^^ 4294967295):=by rw [Hz12.out,Hz13.out];rfl
          refine ⟨?_,hM5.far (p:=⟨gv,14,none⟩) (by simp;omega) _,hO5.setCell (p:=⟨gv,14,none⟩) (.inr (by simp;omega)) _⟩
          rw [e,← wset (by rw [Xl,Xl,Jk,Hlw.out];decide)]
          exact hV5.set 14 _
      case rest=>
        clear hV5 hM5 hO5 Hz12 Hz13 hO3' hO4 hNew3
        obtain ⟨hV6,hM6,hO6⟩:=hcut
        have hvw:=Bl.vinit_words (t:=t) (last:=last) hst
        go_wp2
        go_loopw [12,13,14] (fun a _ _ wr=>∃ k:Nat,k≤10∧a= .int .i64 k∧Blk wr gv 275 (yk (Bl.rounds (Bl.mws bs) k<|Bl.vinit st t last) ++ vrest)∧Blk wr gm 275 (yk (Bl.mws bs) ++ mrest)∧Only [] w wr) (fun a _ _ _=>10 - (intOf a).toNat)
        case atStart=>exact ⟨0,by omega,rfl,hV6,hM6,hO6⟩
        case round=>
          clear hV6 hM6 hO6
          obtain ⟨k,hk,rfl,hV,hM,hO⟩:=hrel
          by_cases hlt:k < 10
          · have hltI:(k:Int) < 10:=by omega
            go_wp2_with (go_at_call 219;refine (row_any _ k hlt).mono ?_;rintro e w1 ⟨rfl,hR1,hO1⟩)
            obtain ⟨wo,rfl⟩:∃ wo:World,wo=wr:=⟨_,rfl⟩
            obtain ⟨gr,Hgr⟩:∃ gr:Nat,Hid (gr=wo.heap.size + k):=⟨_,rfl⟩
            rw [← Hgr.out] at hR1
            rw [← Hgr.out]
            have hV1:=hV.keep hO1 s9
            have hM1:=hM.keep hO1 s9
            have hO1':=hO.trans' hO1
            have hgrv:gv≠gr:=by have:=hV.lt;have:=Hgr.out;omega
            have hgrm:gm≠gr:=by have:=hM.lt;have:=Hgr.out;omega
            obtain ⟨v0,Hv0⟩:∃ v0,Hid (v0=Bl.rounds (Bl.mws bs) k (Bl.vinit st t last)):=⟨_,rfl⟩
            have hv0:Bl.Words 16 v0:=by rw [Hv0.out];exact Bl.rounds_words hvw k
            rw [← Hv0.out] at hV1
            have hgr:=hR1.lt
            clear hV hM hO hO1
            go_loopw [14] (fun a wr=>∃ j:Nat,j≤8∧a= .int .i64 j∧Blk wr gv 275 (yk (Bl.lanesTo (Bl.mws bs) (Bl.tab.getD k []) v0 j) ++ vrest)∧Blk wr gm 275 (yk (Bl.mws bs) ++ mrest)∧Blk wr gr 3 (zco<|Bl.tab.getD k [])∧Only [] w wr) (fun a _=>8 - (intOf a).toNat)
            case atStart=>exact ⟨0,by omega,rfl,hV1,hM1,hR1,hO1'⟩
            case round=>
              clear hV1 hM1 hR1 hO1'
              obtain ⟨j,hj,rfl,hV,hM,hR,hO⟩:=hrel
              by_cases hlj:j < 8
              · have hljI:(j:Int) < 8:=by omega
                obtain ⟨x1,Hx1⟩:∃ n,Hid (n=(Bl.tab.getD k []).getD (2 * j) 0):=⟨_,rfl⟩
                obtain ⟨x2,Hx2⟩:∃ n,Hid (n=(Bl.tab.getD k []).getD (2 * j + 1) 0):=⟨_,rfl⟩
                obtain ⟨m1,Hm1⟩:∃ n,Hid (n=(Bl.mws bs).getD x1 0):=⟨_,rfl⟩
                obtain ⟨m2,Hm2⟩:∃ n,Hid (n=(Bl.mws bs).getD x2 0):=⟨_,rfl⟩
                have hx1:x1 < 16:=by rw [Hx1.out];exact Bl.tab_lt k hlt _
                have hx2:x2 < 16:=by rw [Hx2.out];exact Bl.tab_lt k hlt _
                have hx1I:(x1:Int) < 16:=by omega
                have hx2I:(x2:Int) < 16:=by omega
                have htl:=Bl.tab_len k hlt
                have cr1:wr.cell? ⟨gr,2 * j,none⟩=some (.int .i64 (x1:Int)):=hR.cellv (zcn (by rw [Hx1.out];exact nget o9))
                have cr2:wr.cell? ⟨gr,2 * j + 1,none⟩=some (.int .i64 (x2:Int)):=hR.cellv (zcn (by rw [Hx2.out];exact nget o9))
                have cm1:wr.cell? ⟨gm,x1,none⟩=some (.int .u32 (m1:Int)):=hM.cellv (by rw [JB (by rw [ZH];simp [Bl.mws];omega),Hm1.out];exact yt<|wget (Bl.mws_words bs) hx1)
                have cm2:wr.cell? ⟨gm,x2,none⟩=some (.int .u32 (m2:Int)):=hM.cellv (by rw [JB (by rw [ZH];simp [Bl.mws];omega),Hm2.out];exact yt<|wget (Bl.mws_words bs) hx2)
                have hgr':=hR.lt
                have hgm':=hM.lt
                have hgrv':gr≠gv:=Ne.symm hgrv
                have hgmv':gm≠gv:=by omega
                have hsv:=hV.lt
                clear htl
                go_wp2
                refine Reg.wp [gv] [.r 0,.r 1,.r 3,.r 4,.r 5,.r 6,.r 7,.r 8,.r 9,.r 10,.r 11,.r 12,.r 13,.r 14,.r 15,.r 16,.r 17,.r 18,.r 19,.e 2,.e 20] k9 k9 (fun d _ _ _ _ h=>by cases d <;> exact h) ?_
                simp only [Reg.pick,List.getD_cons_succ,List.getD_cons_zero]
                iterate 19 (apply Reg.read;(· (intro t K hK;go_simp;(try go_ints);(try ((go_ite <;> go_prune);go_simp));(try go_ints);exact hK _ rfl));(· (intro K hK;go_simp;exact hK _ rfl)))
                clear cr1 cr2 cm1 cm2
                refine Reg.eff ?_
                go_wp2_with (go_at_call 221;refine (lane_any _ j hlj).mono ?_;rintro e w1 ⟨rfl,hL1,hO1⟩)
                refine ⟨hO1.mono s9,?_⟩
                refine Reg.eff ?_
                obtain ⟨a1,a2,a3,a4,el,la,lb,lc,ld,ab,ac,ad,bc,bd,cd⟩:=lane_four j hlj
                have Hel:=Jm el
                rw [el] at hL1
                clear el
                have hO1w:Only [] wr w1:=Only.undrew (w:=wr) hO1
                go_wp2_with (go_at_call 220;refine (g_walk w1 gv _ c3 _ vrest a1 a2 a3 a4 m1 m2 (Bl.lanesTo_words hv0 j) (hV.keep hO1w s9) hL1 (by simp;omega) la lb lc ld ab ac ad bc bd cd).mono ?_;rintro e w2 ⟨rfl,hV2,hO2⟩)
                refine ⟨hO2,?_⟩
                refine Reg.fin ?_
                have hM2:=(hM.keep hO1w s9).keep hO2 (by simpa using hgmv')
                have hR2:=(hR.keep hO1w s9).keep hO2 (by simpa using hgrv')
                have hO2':Only [] w w2:=(hO.trans' hO1w).trans hO2 (by simp;omega)
                clear hM hR hO hV hO1 hO2 hL1 hO1w ab ac ad bc bd cd la lb lc ld
                go_wp2
                go_roundw
                case rel=>
                  refine ⟨j + 1,by omega,by go_num,?_,hM2,hR2,hO2'⟩
                  have e:Bl.lanesTo (Bl.mws bs) (Bl.tab.getD k []) v0 (j + 1)=Bl.mixw (Bl.lanesTo (Bl.mws bs) (Bl.tab.getD k []) v0 j) a1 a2 a3 a4 m1 m2:=by
                    rw [Bl.lanesTo,Hel.out,Hm1.out,Hm2.out,Hx1.out,Hx2.out];rfl
                  rw [e]
                  exact hV2
                case measure=>simp [intOf];omega
              · obtain rfl:j=8:=by omega
                rw [Bl.lanesTo_all] at hV
                rw [show ((8:Nat):Int)=8 from rfl]
                go_wp2
                refine ⟨⟨k + 1,by omega,by go_num,?_,hM,hO⟩,by simp [intOf];omega⟩
                rw [Bl.rounds,← Hv0.out]
                exact hV
          · obtain rfl:k=10:=by omega
            rw [show ((10:Nat):Int)=10 from rfl]
            obtain ⟨vv,Hvv⟩:∃ v,Hid (v=Bl.rounds (Bl.mws bs) 10 (Bl.vinit st t last)):=⟨_,rfl⟩
            have hvv:Bl.Words 16 vv:=by rw [Hvv.out];exact Bl.rounds_words hvw 10
            rw [← Hvv.out] at hV
            clear hlt hk hM
            obtain ⟨wv,rfl⟩:∃ wv:World,wv=wr:=⟨_,rfl⟩
            have hgvv:=hV.lt
            go_wp2
            go_loopw [15,16] (fun m i wr=>∃ (k:Nat) (Ao:Option Addr) (co:Nat) (G:Option Nat),k≤8∧i= .int .i64 k∧m= .slice Ao k co∧OwnS wr 275 Ao co (yk ((List.range k).map fun i=>st.getD i 0 ^^^ (vv.getD i 0 ^^^ vv.getD (i + 8) 0))) G∧New wv G∧Only [] wv wr) (fun _ i _=>8 - (intOf i).toNat)
            case atStart=>exact ⟨0,none,0,none,by omega,rfl,rfl,OwnS.none _ _,New.none _,Only.refl _ _⟩
            case round=>
              obtain ⟨k,Ao,co,G,hk,rfl,rfl,hown,hnewo,hOo⟩:=hrel
              by_cases hlt:k < 8
              · have hltI:(k:Int) < 8:=by omega
                obtain ⟨n0,H0⟩:∃ n,Hid (n=st.getD k 0):=⟨_,rfl⟩
                obtain ⟨n1,H1⟩:∃ n,Hid (n=vv.getD k 0):=⟨_,rfl⟩
                obtain ⟨n2,H2⟩:∃ n,Hid (n=vv.getD (k + 8) 0):=⟨_,rfl⟩
                have l0:n0 < 4294967296:=by rw [H0.out];exact hst.getD _
                have l1:n1 < 4294967296:=by rw [H1.out];exact hvv.getD _
                have l2:n2 < 4294967296:=by rw [H2.out];exact hvv.getD _
                have c0:wr.cell? ⟨gh,oh + k,none⟩=some (.int .u32 (n0:Int)):=by
                  rw [hOo.cell (p:=⟨gh,oh + k,none⟩) (Ju hgh hO.size) s9,hO.cell (p:=⟨gh,oh + k,none⟩) hgh s9,Hch.out k (by rw [ZH,Hlw.out];exact hlt),H0.out]
                  exact yt (wget hst hlt)
                have hV':=hV.keep hOo s9
                have c1:wr.cell? ⟨gv,k,none⟩=some (.int .u32 (n1:Int)):=hV'.cellv (by rw [JB (by rw [ZH,hvv.1];omega),H1.out];exact yt<|wget hvv o9)
                have c2:wr.cell? ⟨gv,k + 8,none⟩=some (.int .u32 (n2:Int)):=hV'.cellv (by rw [JB (by rw [ZH,hvv.1];omega),H2.out];exact yt<|wget hvv o9)
                have hghr:gh < wr.heap.size:=Ju (Ju hgh hO.size) hOo.size
                have hgvr:gv < wr.heap.size:=hV'.lt
                have hghG:gh∉G.toList:=hnewo.far (Ju hgh hO.size)
                have hgvG:gv∉G.toList:=hnewo.far hgvv
                have xx:bits .xor .u32 (bits .xor .u32 (n0:Int) (n1:Int)) (n2:Int)=((n0 ^^^ (n1 ^^^ n2):Nat):Int):=by
                  rw [Xf _ _ l0 l1,Xf _ _ (Bl.xor_lt _ _ l0 l1) l2,Nat.xor_assoc]
                have Hxx:=Jm xx
                clear xx hV'
                go_wp2
                refine Reg.wp G.toList [.r 0,.r 1,.r 2,.r 3,.r 4,.r 5,.r 6,.r 7,.r 8,.r 9,.r 10,.r 11,.r 12,.r 13,.r 14,.r 15,.e 16,.e 17,.r 18] k9 k9 (fun d _ _ _ _ h=>by cases d <;> exact h) ?_
                simp only [Reg.pick,List.getD_cons_succ,List.getD_cons_zero]
                iterate 16 (apply Reg.read;(· (intro t K hK;go_simp;(try go_ints);(try ((go_ite <;> go_prune);go_simp));(try go_ints);exact hK _ rfl));(· (intro K hK;go_simp;exact hK _ rfl)))
                refine Reg.eff ?_
                go_wp2
                refine ⟨((Only.refl G.toList wr).alloc _).dd,?_⟩
                simp only [Hxx.out]
                clear c0 c1 c2 Hxx
                refine Reg.eff (jq V (.tmp 121) (.tmp 137) V Ao k co _ G V s9 ((hown.keep ((Only.refl [] wr).alloc _) s9).drew) (some ⟨wr.heap.size,0,none⟩) 1 1 [n0 ^^^ (n1 ^^^ n2)] V V (RV.one wr _ _).drew (by simp;omega) ?_)
                intro A' c' w2 G' hown2 hO2 hG2
                refine Reg.done hO2 ?_
                (apply Reg.read;(· (intro t K hK;go_simp;(try go_ints);(try ((go_ite <;> go_prune);go_simp));(try go_ints);exact hK _ rfl));(· (intro K hK;go_simp;exact hK _ rfl)))
                refine Reg.fin ?_
                have hO1s:=hOo.size
                have hO2':Only [] wv w2:=((hOo.alloc _).drew).trans hO2 hnewo.out
                clear hO2 hOo hown
                go_wp2
                go_roundw
                case rel=>
                  refine ⟨k + 1,A',c',G',by omega,by go_num,rfl,?_,hnewo.next (JG hO1s s9) hG2,hO2'⟩
                  rw [List.range_succ,XG]
                  rw [H0.out,H1.out,H2.out] at hown2
                  exact hown2
                case measure=>simp [intOf];omega
              · obtain rfl:k=8:=by omega
                rw [show ((8:Nat):Int)=8 from rfl]
                rw [Hvv.out] at hown
                go_wp2
                go_ret
                exact ⟨Ao,co,G,V,hown,hnewo.le hO.size,hO.trans' hOo⟩
