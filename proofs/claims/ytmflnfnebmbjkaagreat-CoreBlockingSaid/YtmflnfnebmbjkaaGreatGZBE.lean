/- REFERENCE 39: Search, Solve, Best. REFERENCE 40: Few, Has, Winners, Values, Bids. -/
import Derived.Test.YtmflnfnebmbjkaaGreatGZBD
set_option maxHeartbeats 8000000
set_option maxRecDepth 100000
namespace Go.Proofs.YtmflnfnebmbjkaaGreat
open Go.RowKit
namespace Sx
section
theorem KL (b:Int) (l:List Co.Cl) (ws:List Co.Wi) (W:List Int) (hv:Co.VW b l ws) (hw:ws.length≤1000000) (hW:W.length≤1000000) (g:Nat→Bool) (hg:∀ (i:Nat) c,l[i]? =some c→decide (c.win∈W)=g i) (k:Nat) (hk:k≤l.length) (u:List Bool) (hu:(u.length:Int)=b) (ih:k < l.length→∀ u2:List Bool,(u2.length:Int)=b→Con Tryz.prog 80 [lsD z7 l,lsD yN ws,lsD yd W,iD<|(k:Int) + 1,lsD qj u2] (srD<|Co.srch ((Co.cs l ws g).drop<|k + 1) u2)):Con Tryz.prog 80 [lsD z7 l,lsD yN ws,lsD yd W,iD (k:Int),lsD qj u] (srD<|Co.srch ((Co.cs l ws g).drop k) u):=by
 have hn6:=hv.c.n;have hb2:=hv.c.b2;have hb1:=hv.c.b1;refine z1 Tryz.func80 k9 I k9 fun base w0=>(zq<|zd I<|zd I<|zd I<|ze<|zh<|zq<|zc I<|zc I<|za I (zU (e:=61) I k9)<|za I (y1 I I)<|ze<|zD I (fun hb23=> ?_) (fun hb23=> ?_))
 ·have hkl:k=l.length:=by (have h:=oT hb23;omega)
  refine zq (zd I<|zd I<|zd I<|ze<|zE (fn:=Tryz.f80) (fun _ _ h=>h)<|Rs.le (Zo I (zo I) (zo I)<|zo I) ?_);subst hkl;rw [drop_nil];exact yR ⟨zb _,zb _,y3,trivial⟩
 ·skip
  refine zx (zg<|zq<|zd I<|zd I<|ze<|zh ?_)
  have hkl:k < l.length:=by (have h:=hb23;simp at h;omega)
  obtain ⟨x,hx⟩:∃ x,l[k]? =some x:=⟨_,Je hkl⟩;have hxc:=hv.c.cnt hx;have hx1:=(hv.c.ok k x hx).2.2
  refine SW.sub (σ':=z6 [(0,_),(1,_),(2,_),(3,_),(4,_),(13,_),(14,_)] []) (sB [] I I) (zf<|zd I<|ze<|zh<|zq<|zd I<|ze<|SW.block<|z2 (ι:={s:Nat // s≤u.length + 1 - x.cnt.toNat}) (fun s=>z6 [(0,lsD z7 l),(1,lsD yN ws),(2,lsD yd W),(3,iD (k:Int)),(4,lsD qj u),(13,yy (Co.srN (Co.srch<|(Co.cs l ws g).drop<|k + 1) x.cnt.toNat (fun s:Nat=>if g k then Co.wish ws x.win (s:Int) else 0) u s.1).1),(14,iD (Co.srN (Co.srch<|(Co.cs l ws g).drop<|k + 1) x.cnt.toNat (fun s:Nat=>if g k then Co.wish ws x.win (s:Int) else 0) u s.1).2.1),(15,lsD yd<|nI (Co.srN (Co.srch<|(Co.cs l ws g).drop<|k + 1) x.cnt.toNat (fun s:Nat=>if g k then Co.wish ws x.win (s:Int) else 0) u s.1).2.2),(16,iD (s.1:Int))] []) (fun s=>u.length + 1 - x.cnt.toNat - s.1) (⟨0,JC _⟩) ?_ ?_)
  ·exact ⟨⟨_,I,⟨lq I,⟨lq I,⟨lq I,⟨lq I,⟨lq I,⟨lq I,⟨lq I,⟨⟨_,I,y3⟩,⟨lq I,t9⟩⟩⟩⟩⟩⟩⟩⟩⟩⟩,[],by decide,trivial⟩
  ·rintro ⟨s,hs⟩ K0 hK0;dsimp only at hs ⊢;refine zh (zq<|zc I<|zc I<|za I (zU (e:=4) I k9)<|zc I<|zc I<|za I (zR (e:=61) 2 I I k9 k9 o9 (by simpa using hx))<|za I (zZ (n:=1) I k9 (show 1 < 2 by decide))<|za I (zL I I k9 s9)<|za I (yu I I ⟨by omega,by omega⟩)<|za I (ZF I I)<|ze<|zD I (fun hb33=> ?_) (fun hb33=> ?_))
   ·have h33:=oT hb33;refine zx (zg<|zh<|SW.block<|zh<|zh ?_)
    have hs2:s + x.cnt.toNat≤u.length:=by omega
    refine zf (zc I<|zc I<|zc I<|zc I<|za I (zR (e:=61) 2 I I k9 k9 o9 (by simpa using hx))<|za I (zZ (n:=1) I k9 (show 1 < 2 by decide))<|za I (zL I I k9 s9)<|zt (S:=[]) (zl (con_free u s x.cnt.toNat o9 o9) I ⟨zb _,zb _,zH (by congr 1;omega),t9⟩ I)<|za I (yE I)<|ze<|zD I (fun hb44=> ?_) (fun hb44=> ?_))
    ·skip
     refine zP ?_
     repeat (first | refine zW ?_ | refine zX d9 ?_)
     exact zY (zg<|zf<|zc I<|za I (Rd.add I I ⟨by omega,by omega⟩)<|zd I<|zy (fun aK wK hh=>hK0 (⟨s + 1,by omega⟩) (by dsimp only;omega) aK wK<|hh.sub<|⟨⟨_,I,⟨lq I,⟨lq I,⟨lq I,⟨lq I,⟨lq I,⟨⟨_,I,zH (by dsimp only;rw [je (fun h=>by rw [h.1] at hb44;cases hb44)])⟩,⟨⟨_,I,zH (by dsimp only;rw [je (fun h=>by rw [h.1] at hb44;cases hb44)])⟩,⟨⟨_,I,(by dsimp only;rw [je (fun h=>by rw [h.1] at hb44;cases hb44)];exact zb _)⟩,⟨⟨_,I,zH s9⟩,t9⟩⟩⟩⟩⟩⟩⟩⟩⟩⟩,[],by decide,trivial⟩))
    ·skip
     refine zx (zg<|zh ?_)
     have hf:Co.free u s x.cnt.toNat=true:=by simpa using hb44
     have hqb:=srch_bd ((Co.cs l ws g).drop<|k + 1) (Co.mk u s x.cnt.toNat) (cs_bd hv)
     have hql:((Co.cs l ws g).drop<|k + 1).length≤6:=by rw [JA,Co.cs_len];omega
     have hwb:=Co.wish_le hv x.win (s:Int)
     refine zf (zc I<|zc I<|zc I<|zc I<|za I (Rd.add I I ⟨by omega,by omega⟩)<|zc I<|zc I<|zc I<|zc I<|za I (zR (e:=61) 2 I I k9 k9 o9 (by simpa using hx))<|za I (zZ (n:=1) I k9 (show 1 < 2 by decide))<|za I (zL I I k9 s9)<|zt (S:=[]) (zl (con_mark u s x.cnt.toNat o9 o9) I ⟨zb _,zb _,zH (by congr 1;omega),t9⟩ I)<|zt (S:=[]) (zl (ih o9 (Co.mk u s x.cnt.toNat) (by rw [Co.mk_len];exact hu)) I ⟨zb _,zb _,zb _,zb _,zb _,t9⟩ I)<|zc I<|za I (zj I I)<|za I (zj I I)<|za I (zj I I)<|zd I<|zd I<|zd I<|ze<|zh<|qq (fun σ=>σ=z6 [(0,lsD z7 l),(1,lsD yN ws),(2,lsD yd W),(3,iD (k:Int)),(4,lsD qj u),(13,yy (Co.srN (Co.srch<|(Co.cs l ws g).drop<|k + 1) x.cnt.toNat (fun s:Nat=>if g k then Co.wish ws x.win (s:Int) else 0) u s).1),(14,iD (Co.srN (Co.srch<|(Co.cs l ws g).drop<|k + 1) x.cnt.toNat (fun s:Nat=>if g k then Co.wish ws x.win (s:Int) else 0) u s).2.1),(15,lsD yd<|nI (Co.srN (Co.srch<|(Co.cs l ws g).drop<|k + 1) x.cnt.toNat (fun s:Nat=>if g k then Co.wish ws x.win (s:Int) else 0) u s).2.2),(16,iD (s:Int)),(17,yy ((Co.srch<|(Co.cs l ws g).drop<|k + 1)<|Co.mk u s x.cnt.toNat).1),(18,iD<|((Co.srch<|(Co.cs l ws g).drop<|k + 1)<|Co.mk u s x.cnt.toNat).2.1 + (fun s:Nat=>if g k then Co.wish ws x.win (s:Int) else 0) s),(19,lsD yd<|nI ((Co.srch<|(Co.cs l ws g).drop<|k + 1)<|Co.mk u s x.cnt.toNat).2.2)] []) ?_ ?_)
     ·skip
      refine zq (zc I<|zc I<|zc I<|za I (zR (e:=61) 2 I I k9 k9 o9 (by simpa using hx))<|za I (zZ (n:=0) I k9 (show 0 < 2 by decide))<|za I (zL I I k9 s9)<|zt (S:=[]) (zl (con_has39 W x.win hW) I ⟨zb _,zb _,t9⟩ I)<|ze<|zD I (fun hb69=> ?_) (fun hb69=> ?_))
      ·skip
       exact zf (zc I<|zc I<|zc I<|zc I<|za I (zR (e:=61) 2 I I k9 k9 o9 (by simpa using hx))<|za I (zZ (n:=0) I k9 (show 0 < 2 by decide))<|za I (zL I I k9 s9)<|zc I<|zt (S:=[]) (zl (zbF ws x.win (s:Int) hw) I ⟨zb _,zb _,zb _,t9⟩ I)<|za I (Rd.add I I ⟨by omega,by omega⟩)<|zd I<|zy<|yI I<|⟨⟨_,I,⟨lq I,⟨lq I,⟨lq I,⟨lq I,⟨lq I,⟨lq I,⟨lq I,⟨lq I,⟨lq I,⟨lq I,⟨⟨_,I,zH (by dsimp only;rw [if_pos (by rw [← hg k x hx];exact hb69)])⟩,⟨lq I,t9⟩⟩⟩⟩⟩⟩⟩⟩⟩⟩⟩⟩⟩,[],by decide,trivial⟩)
      ·skip
       exact zx (yI I<|⟨⟨_,I,⟨lq I,⟨lq I,⟨lq I,⟨lq I,⟨lq I,⟨lq I,⟨lq I,⟨lq I,⟨lq I,⟨lq I,⟨⟨_,I,zH (by dsimp only;rw [if_neg (by rw [← hg k x hx,hb69];decide)];simp)⟩,⟨lq I,t9⟩⟩⟩⟩⟩⟩⟩⟩⟩⟩⟩⟩⟩,[],by decide,trivial⟩)
     ·rintro _ rfl;refine zg (zq<|zc I<|zc I<|yt 81 I (fun hb81=> ?_) (fun hb81=> ?_))
      ·skip
       refine zN hb81 (zn I) (zN hb81 (yE I)<|zN hb81 (zn I)<|yt 84 I (fun hb84=> ?_) (fun hb84=> ?_))
       ·skip
        exact zI hb84 (zI hb84<|zI hb84<|zN hb81 (zC I hb84 I)<|za I (zC I hb81 I)<|ze<|yh I I<|zf<|zc I<|zc I (SWl.e2 (S:=[]) (Ef.litO (e:=3) (enc:=yd) (l:=[(s:Int)]) 1 I I I d9 (fun L w vs hv=>by obtain ⟨u,rfl,rfl⟩:=zal hv;exact ⟨[_],(show All L w [iD _] [_] from ⟨rfl,trivial⟩),fun w'=>by kernel_rfl⟩) I) fun g92=>(zc I (SWl.e4 (qt 0 1 8 I I (Yr I) k9 k9 (by have h1:=VI ((Co.cs l ws g).drop<|k + 1) (Co.mk u s x.cnt.toNat);rw [zbk,List.length_singleton];omega) d9 (fun _ h=>h) I) fun A94 F94 c94=>(Y6 0 94 I I (zb _)<|zd I<|zd I<|zd I<|zy<|SN.block<|zg<|zf<|zc I<|za I (Rd.add I I ⟨by omega,by omega⟩)<|zd I<|zy (fun aK wK hh=>hK0 (⟨s + 1,by omega⟩) (by dsimp only;omega) aK wK<|hh.sub<|⟨⟨_,I,⟨lq I,⟨lq I,⟨lq I,⟨lq I,⟨lq I,⟨⟨_,I,zH (by dsimp only;rw [jH hf hb81<|.inl (by simpa using hb84)])⟩,⟨⟨_,I,zH (by dsimp only;rw [jH hf hb81<|.inl (by simpa using hb84)])⟩,⟨⟨_,I,(by dsimp only;rw [jH hf hb81<|.inl (by simpa using hb84)];exact zb _)⟩,⟨⟨_,I,zH s9⟩,t9⟩⟩⟩⟩⟩⟩⟩⟩⟩⟩,[],by decide,trivial⟩))))))
       ·skip
        refine zN hb84 (zn I) (zN hb84 (zn I)<|zN hb84 (y0 I I)<|zN hb81 (zG I hb84 I)<|za I (zC I hb81 I)<|ze<|zD I (fun hb89=> ?_) (fun hb89=> ?_))
        ·have hlt:=oT hb89;exact zf (zc I<|zc I (SWl.e2 (S:=[]) (Ef.litO (e:=3) (enc:=yd) (l:=[(s:Int)]) 1 I I I d9 (fun L w vs hv=>by obtain ⟨u,rfl,rfl⟩:=zal hv;exact ⟨[_],(show All L w [iD _] [_] from ⟨rfl,trivial⟩),fun w'=>by kernel_rfl⟩) I) fun g92=>(zc I (SWl.e4 (qt 0 1 8 I I (Yr I) k9 k9 (by have h1:=VI ((Co.cs l ws g).drop<|k + 1) (Co.mk u s x.cnt.toNat);rw [zbk,List.length_singleton];omega) d9 (fun _ h=>h) I) fun A94 F94 c94=>(Y6 0 94 I I (zb _)<|zd I<|zd I<|zd I<|zy<|SN.block<|zg<|zf<|zc I<|za I (Rd.add I I ⟨by omega,by omega⟩)<|zd I<|zy (fun aK wK hh=>hK0 (⟨s + 1,by omega⟩) (by dsimp only;omega) aK wK<|hh.sub<|⟨⟨_,I,⟨lq I,⟨lq I,⟨lq I,⟨lq I,⟨lq I,⟨⟨_,I,zH (by dsimp only;rw [jH hf hb81<|.inr hlt])⟩,⟨⟨_,I,zH (by dsimp only;rw [jH hf hb81<|.inr hlt])⟩,⟨⟨_,I,(by dsimp only;rw [jH hf hb81<|.inr hlt];exact zb _)⟩,⟨⟨_,I,zH s9⟩,t9⟩⟩⟩⟩⟩⟩⟩⟩⟩⟩,[],by decide,trivial⟩))))))
        ·have hlt:=oF hb89;exact zx (SN.block<|zg<|zf<|zc I<|za I (Rd.add I I ⟨by omega,by omega⟩)<|zd I<|zy (fun aK wK hh=>hK0 (⟨s + 1,by omega⟩) (by dsimp only;omega) aK wK<|hh.sub<|⟨⟨_,I,⟨lq I,⟨lq I,⟨lq I,⟨lq I,⟨lq I,⟨⟨_,I,zH (by dsimp only;rw [je (fun h=>h.2.2.elim (fun h=>by simp [h] at hb84) hlt)])⟩,⟨⟨_,I,zH (by dsimp only;rw [je (fun h=>h.2.2.elim (fun h=>by simp [h] at hb84) hlt)])⟩,⟨⟨_,I,(by dsimp only;rw [je (fun h=>h.2.2.elim (fun h=>by simp [h] at hb84) hlt)];exact zb _)⟩,⟨⟨_,I,zH s9⟩,t9⟩⟩⟩⟩⟩⟩⟩⟩⟩⟩,[],by decide,trivial⟩))
      ·skip
       exact zI hb81 (zI hb81<|zI hb81<|yP I I I I<|yP I I I I<|yP I I I I<|zI hb81<|za I (zG I hb81 I)<|ze<|zK I I<|zx<|SN.block<|zg<|zf<|zc I<|za I (Rd.add I I ⟨by omega,by omega⟩)<|zd I<|zy (fun aK wK hh=>hK0 (⟨s + 1,by omega⟩) (by dsimp only;omega) aK wK<|hh.sub<|⟨⟨_,I,⟨lq I,⟨lq I,⟨lq I,⟨lq I,⟨lq I,⟨⟨_,I,zH (by dsimp only;rw [je (fun h=>by rw [h.2.1] at hb81;cases hb81)])⟩,⟨⟨_,I,zH (by dsimp only;rw [je (fun h=>by rw [h.2.1] at hb81;cases hb81)])⟩,⟨⟨_,I,(by dsimp only;rw [je (fun h=>by rw [h.2.1] at hb81;cases hb81)];exact zb _)⟩,⟨⟨_,I,zH s9⟩,t9⟩⟩⟩⟩⟩⟩⟩⟩⟩⟩,[],by decide,trivial⟩))
   ·have h33:=oF hb33;refine zP ?_
    repeat (first | refine zW ?_ | refine zX d9 ?_)
    refine zY (zg<|zq<|zc I<|zc I<|zc I<|zd I<|zd I<|zd I<|ze<|zE (fn:=Tryz.f80) (fun _ _ h=>h)<|Rs.le (Zo I (zo I) (zo I)<|zo I) ?_);rw [drop_cs hx,show u.length + 1 - x.cnt.toNat=s by omega];exact zb _
theorem KJ (b:Int) (l:List Co.Cl) (ws:List Co.Wi) (W:List Int) (hv:Co.VW b l ws) (hw:ws.length≤1000000) (hW:W.length≤1000000) (g:Nat→Bool) (hg:∀ (i:Nat) c,l[i]? =some c→decide (c.win∈W)=g i):∀ (m k:Nat),k + m=l.length→∀ u:List Bool,(u.length:Int)=b→Con Tryz.prog 80 [lsD z7 l,lsD yN ws,lsD yd W,iD (k:Int),lsD qj u] (srD<|Co.srch ((Co.cs l ws g).drop k) u)
 | 0,k,h,u,hu=>KL b l ws W hv hw hW g hg k o9 u hu fun h2=>absurd h2 o9
 | m + 1,k,h,u,hu=>KL b l ws W hv hw hW g hg k o9 u hu fun _ u2 hu2=>KJ b l ws W hv hw hW g hg m (k + 1) o9 u2 hu2
theorem jP (b:Int) (l:List Co.Cl) (ws:List Co.Wi) (W:List Int) (hv:Co.VW b l ws) (hw:ws.length≤1000000) (hW:W.length≤1000000) (g:Nat→Bool) (hg:∀ (i:Nat) c,l[i]? =some c→decide (c.win∈W)=g i):Con Tryz.prog 80 [lsD z7 l,lsD yN ws,lsD yd W,iD 0,lsD qj<|List.replicate b.toNat false] (srD<|Co.srch (Co.cs l ws g)<|List.replicate b.toNat false):=
 KJ b l ws W hv hw hW g hg l.length 0 o9 _ (by rw [List.length_replicate];have:=hv.c.b1;omega)
theorem zag {P:Program} {Γ:Cx} {σ:St} {l:List Oper} {Q:Exit→Act→World→Prop} {S:LN} {tz:Reg.Tz} {d:D} (i:Nat) {d':D} (hi:σ.tm i=some d) (hl:Le d d') (h:SWz P Γ l Q S tz (σ.put i d')):SWz P Γ l Q S tz σ:=fun a w hh=>h a w (hh.weak hi hl)
theorem blsSl1 {x:Co.Sl}:Bls Tryz.prog 75 1 [0] [Yj<|Yu x] ([x].flatMap Yu):=⟨83,fun L w vs hv=>by
 obtain ⟨u,rfl,cs,rfl,hc⟩:=zal hv
 match cs,hc with
 | [a,b,c],hc=>
  obtain ⟨rfl,rfl,rfl,-⟩:=hc
  exact ⟨[.int .i64 x.win,.int .i64 x.st,.int .i64 x.cnt],⟨I,I,I,t9⟩,fun w'=>by kernel_rfl⟩⟩
theorem zbb {b:Int} {l:List Co.Cl} {ws:List Co.Wi} {i:Nat} {x:Co.Sl} (h:(Co.slO b l ws)[i]? =some x):(Co.slO b l ws).take (i + 1)=(Co.slO b l ws).take i ++ [x]:=by rw [List.take_add_one,h];rfl
theorem fst_len {b:Int} {l:List Co.Cl} {ws:List Co.Wi} (hv:Co.VC b l):(Co.fst b l ws).length=l.length:=(Co.fst_fits (ws:=ws) (g:=fun _=>true) hv).2
theorem con_bestR (b:Int) (l:List Co.Cl) (ws:List Co.Wi) (W:List Int) (hv:Co.VW b l ws) (hw:ws.length≤1000000) (hW:W.length≤1000000) (g:Nat→Bool) (hg:∀ (i:Nat) c,l[i]? =some c→decide (c.win∈W)=g i) (hs:∀ (i:Nat) x y,W[i]? =some x→W[i + 1]? =some y→x < y) (hm:∀ (i:Nat) x,W[i]? =some x→∃ m,Co.fC l x=some m):Con Tryz.prog 37 [iD b,lsD z7 l,lsD yN ws,lsD yd W] (Zm [iD (Co.srch (Co.cs l ws g)<|List.replicate b.toNat false).2.1,iD 0]):=by
 have hn6:=hv.c.n;have hb2:=hv.c.b2;have hb1:=hv.c.b1;refine z1 Tryz.func37 k9 I k9 fun base w0=>(zq<|zd I<|zd I<|ze<|zh<|zq<|zc I<|zc I<|zc I<|zt (S:=[]) (zl (qA b l ws o9 hw) I ⟨zb _,zb _,zb _,t9⟩ I)<|za I (yE I)<|ze<|zK I (by simp [hv])<|zx<|zg<|zh<|zq<|zc I<|zc I<|zt (S:=[]) (zl (con_among b l W o9 hW hs hm) I ⟨zb _,zb _,t9⟩ I)<|zd I<|zT<|zc I<|za I (yk I I)<|ze<|zK I I<|zx<|zg<|zq ?_);refine zc I (zc I<|zc I<|zc I (SWl.e2 (S:=[]) (Zg (e:=4) (n:=b.toNat) qj false 1 I I k9 k9 I I o9 o9 o9 d9 I) fun g30=>(zbV 30 I (show Le _ (isD<|.slice (some ⟨g30,0,none⟩) (List.replicate b.toNat false).length b.toNat) from zH (by rw [List.length_replicate]))<|Y6 0 30 I I (zb _)<|zt (S:=[]) (zl (jP b l ws W hv hw hW g hg) I ⟨zb _,zb _,zb _,zb _,zb _,t9⟩ I)<|zc I<|za I (zj I I)<|za I (zj I I)<|za I (zj I I)<|zd I<|zd I<|zd I<|zT<|zc I<|zd I<|zd I<|ze<|zE (fn:=Tryz.f37) (fun _ _ h=>h)<|Rs.le (Rs.two I (zo I)<|zo I) ?_)))
 exact zb _
theorem zcq (b:Int) (l:List Co.Cl) (ws:List Co.Wi) (hv:Co.VW b l ws) (hw:ws.length≤1000000):Con Tryz.prog 41 [iD b,lsD z7 l,lsD yN ws] (Zm [lsD Yu<|Co.slO b l ws,iD<|Co.bst b l ws,iD 0]):=by
 have hn6:=hv.c.n;have hb2:=hv.c.b2;have hb1:=hv.c.b1;have hfl:=fst_len (ws:=ws) hv.c;have hsl:(Co.slO b l ws).length=l.length:=Co.slO_len;refine z1 Tryz.func41 k9 I k9 fun base w0=>(zq<|zd I<|zd I<|zd I<|ze<|zh<|zq<|zc I<|zc I<|zc I<|zt (S:=[]) (zl (qA b l ws o9 hw) I ⟨zb _,zb _,zb _,t9⟩ I)<|za I (yE I)<|ze<|zK I (by simp [hv])<|zx<|zg<|zh<|qq (fun σ=>σ=z6 [(1,lsD z7 l),(10,iD<|Co.bst b l ws),(11,lsD yd<|nI<|Co.fst b l ws)] []) ?_ ?_)
 ·refine z8 [] (rr [0,1,2,4]<|.n 3 (.n 5 (.n 6 (rr [7,8,9,10,11,12,13] .fin) .no) .no)<|.n 5 (.n 3 (.n 6 (rr [7,8,9,10,11,12,13] .fin) .no) .no) .no) k9 k9 (fun d _ _ _ _ h=>by cases d <;> exact h) (zA I I<|zA I I<|zA I I<|zA I I<|yV I (zl (zbN l hn6) I ⟨zb _,t9⟩ I) ?_ ?_)
  ·rintro _ rfl;refine yV I (Zg (e:=4) (n:=b.toNat) qj false 1 I I k9 k9 I I o9 o9 o9 d9 I) ?_ yo;rintro _ ⟨g25,rfl⟩;exact zag 25 I (show Le _ (isD<|.slice (some ⟨g25,0,none⟩) (List.replicate b.toNat false).length b.toNat) from zH (by rw [List.length_replicate])) (KW 0 25 I I (zb _)<|yg I (zl (jP b l ws (l.map (·.win)) hv hw (by rw [JO];omega) (fun _=>true) (fun i c hc=>Jo<|JI.2 ⟨c,Jc hc,I⟩)) I ⟨zb _,zb _,zb _,zb _,zb _,t9⟩ I)<|zA I I<|zk I I (zj I I)<|zk I I (zj I I)<|zk I I (zj I I)<|yU I I<|yU I I<|yU I I<|yq<|yI I<|sB [] I I)
  refine yV I (Zg (e:=4) (n:=b.toNat) qj false 1 I I k9 k9 I I o9 o9 o9 d9 I) ?_ yo;rintro _ ⟨g25,rfl⟩;exact yg I (zl (zbN l hn6) I ⟨zb _,t9⟩ I) (zag 25 I (show Le _ (isD<|.slice (some ⟨g25,0,none⟩) (List.replicate b.toNat false).length b.toNat) from zH (by rw [List.length_replicate]))<|KW 0 25 I I (zb _)<|yg I (zl (jP b l ws (l.map (·.win)) hv hw (by rw [JO];omega) (fun _=>true) (fun i c hc=>Jo<|JI.2 ⟨c,Jc hc,I⟩)) I ⟨zb _,zb _,zb _,zb _,zb _,t9⟩ I)<|zA I I<|zk I I (zj I I)<|zk I I (zj I I)<|zk I I (zj I I)<|yU I I<|yU I I<|yU I I<|yq<|yI I<|sB [] I I)
 ·rintro _ rfl;refine zg (zq<|zd I<|ze<|zh<|zq<|zd I<|ze<|SW.block<|Y7 83 3 Yu<|z2 (ι:={p:Nat × Wst // p.1≤l.length}) (fun p=>z6 [(1,lsD z7 l),(10,iD<|Co.bst b l ws),(11,lsD yd<|nI<|Co.fst b l ws),(12,isD<|.slice p.1.2.A ((Co.slO b l ws).take p.1.1).length p.1.2.c),(13,iD (p.1.1:Int))] [.r p.1.2.F<|yx 83 3 Yu p.1.2.A p.1.2.c<|(Co.slO b l ws).take p.1.1]) (fun p=>l.length - p.1.1) (⟨(0,⟨none,0,[]⟩),JC _⟩) ?_ ?_)
  ·exact (sB [0] I I)
  ·rintro ⟨⟨i,t⟩,hi⟩ K0 hK0;dsimp only at hi ⊢;refine zh (zq<|zc I<|zc I<|za I (zU (e:=3) I k9)<|za I (ya I I)<|ze<|zD I (fun hb33=> ?_) (fun hb33=> ?_))
   ·have h33:(i:Int) < ((nI<|Co.fst b l ws).length:Int):=oT hb33;refine zx (zg<|zh<|SW.block ?_)
    have hil:i < l.length:=by rw [zbk,hfl] at h33;omega
    obtain ⟨c,hc⟩:∃ c,l[i]? =some c:=⟨_,Je o9⟩;obtain ⟨s,hs1,hs2⟩:=Co.fst_le (ws:=ws) hv.c hc
    refine z8 (t.F ++ []) (rr [0,1,2,3,4,5,6,7,8,9,10,11,12,13,14,15]<|.n 16 (.e 17 (.r 18 .fin) .no) .no) k9 k9 (fun d _ _ _ _ h=>by cases d <;> exact h) (zA I I<|zA I I<|zA I I<|zk I I (zR (e:=61) 2 I I k9 k9 o9 (by simpa using hc))<|zk I I (zZ (n:=0) I k9 (show 0 < 2 by decide))<|zk I I (zL I I k9<|YY (j:=0) I Yf)<|zA I I<|zA I I<|zk I I (zR (e:=3) 1 I I k9 k9 o9 (by rw [J7];unfold nI;rw [JJ,hs1];rfl)) ?_)
    refine zk I I (zL I I k9<|YY (j:=0) I Yf) (zA I I<|zA I I<|zk I I (zR (e:=61) 2 I I k9 k9 o9 (by simpa using hc))<|zk I I (zZ (n:=1) I k9 (show 1 < 2 by decide))<|zk I I (zL I I k9<|YY (j:=0) I Yf)<|zk I I (yD I I bldSl)<|yg I (Zy I I (blsSl1 (x:=⟨c.win,(s:Int),c.cnt⟩)) I)<|Wb I (qt 0 3 24 I I (Yr (l:=[_]) I) k9 k9 (by rw [List.length_take,List.length_singleton];omega) d9 (fun _ h=>mL _ h) I) ?_ yo);rintro _ ⟨A53,F53,c53,rfl⟩;exact yU I I (yq<|SN.block<|zg<|zf<|zc I<|za I (Rd.add I I ⟨by omega,by omega⟩)<|zd I<|zy (fun aK wK hh=>hK0 (⟨(i + 1,⟨A53,c53,F53⟩),by simp only;omega⟩) (by simp only;omega) aK wK<|hh.sub<|⟨⟨_,I,⟨lq I,⟨lq I,⟨lq I,⟨⟨_,I,zH (by dsimp only;rw [zbb<|Co.slO_get hc hs1])⟩,⟨⟨_,I,zH s9⟩,t9⟩⟩⟩⟩⟩⟩,[0],by decide,⟨⟨_,rfl,(by dsimp only;rw [zbb<|Co.slO_get hc hs1];exact zQ _)⟩,trivial⟩⟩))
   ·have h33:¬(i:Int) < ((nI<|Co.fst b l ws).length:Int):=oF hb33;refine zP ?_
    repeat (first | refine zW ?_ | refine zX d9 ?_)
    refine zY (zg<|zq<|zc I<|zc I<|zd I<|zd I<|zd I<|ze<|SW.freezeT 0 6 I I (by rw [zbk,hfl] at h33;rw [Ji o9];exact zb _)<|zE (fn:=Tryz.f41) (fun _ _ h=>h)<|Rs.le (Zo I (zo I) (zo I)<|zo I) ?_);exact zb _
end
section
def ffew (b:Int) (l:List Co.Cl):Bool:=decide (((l.length≤3∨(l.length=4∧b≤8))∨6 < l.length)∨b≤6)
theorem half {c k:Nat}:((c / 2 ^ k:Nat):Int) / 2=((c / 2 ^ (k + 1):Nat):Int):=by
 rw [XI,← Nat.div_div_eq_div_mul];simp
theorem odd_bt {c i:Nat}:decide (((c / 2 ^ i:Nat):Int) % 2=1)=Co.bt c i:=by
 show _=Nat.testBit c i;rw [Nat.testBit_eq_decide_div_mod_eq,JW];omega
theorem wnr_yes {l:List Co.Cl} {c i:Nat} {x:Co.Cl} (hx:l[i]? =some x) (h:Co.bt c i=true):(Co.mem (i + 1)<|Co.fB c).map (Co.wnO l)=(Co.mem i<|Co.fB c).map (Co.wnO l) ++ [x.win]:=by
 rw [Co.mem_yes (by rw [Co.fB_n];exact h),XG];simp [Co.wnO_get hx]
theorem wnr_no {l:List Co.Cl} {c i:Nat} (h:Co.bt c i=false):(Co.mem (i + 1)<|Co.fB c).map (Co.wnO l)=(Co.mem i<|Co.fB c).map (Co.wnO l):=by rw [Co.mem_no (by rw [Co.fB_n];exact h)]
theorem Kc {f:Nat→Int} {i:Nat}:zF f (i + 1)=zF f i ++ [f i]:=by unfold zF;rw [List.range_succ,XG];rfl
theorem pw2:∀ i≤6,((2 ^ i:Nat):Int) * 2=((2 ^ (i + 1):Nat):Int):=by decide +kernel
theorem bO_at {b:Int} {l:List Co.Cl} {ws:List Co.Wi} {i:Nat} {c:Co.Cl} {s:Nat} (hc:l[i]? =some c) (hs:(Co.fst b l ws)[i]? =some s):Co.bO b l ws i=Co.wish ws c.win (s:Int):=by
 unfold Co.bO;rw [Co.wnO_get hc,Jr,hs];rfl
theorem ic_succ {c i:Nat} {p:Nat→Int}:Co.ic c p (i + 1)=Co.ic c p i + (if Co.bt c i=true then p i else 0):=rfl
theorem oc_succ {c i:Nat} {p:Nat→Int}:Co.oc c p (i + 1)=Co.oc c p i + (if Co.bt c i=true then 0 else p i):=rfl
noncomputable instance (V bd:Nat→Int) (n:Nat) (p:Nat→Int):Decidable (Co.In V bd n p):=Classical.propDecidable _
theorem con_few40 (b:Int) (l:List Co.Cl) (hl:l.length≤1000000):Con Tryz.prog 31 [iD b,lsD z7 l] (yy<|ffew b l):=by
 refine z1 Tryz.func31 k9 I k9 fun base w0=>(zq<|zd I<|zT<|zc I<|za I (zU (e:=61) I k9)<|za I (ZF I I)<|zc I<|yt 8 I (fun hb8=> ?_) (fun hb8=> ?_))
 ·have h8:(l.length:Int)≤3:=oT hb8;refine zI hb8 (zI hb8<|zI hb8<|zI hb8<|yP I I I I<|yP I I I I<|zI hb8<|za I (zC I hb8 I)<|zc I<|zI I<|zI I<|zI I<|za I (zC I I I)<|zc I<|zI I<|zI I<|za I (zC I I I)<|zd I<|ze<|zE (fn:=Tryz.f31) (fun _ _ h=>h)<|Rs.le (zM I<|zo I) ?_)
  exact yb (by unfold ffew;symm;first | (apply Jo;omega) | (apply Jd;omega) | (rw [JW];omega))
 ·have h8:¬(l.length:Int)≤3:=oF hb8;refine zN hb8 (zn I) (zN hb8 (zU (e:=61) I k9)<|zN hb8 (y1 I I)<|zN hb8 (zn I)<|yt 12 I (fun hb12=> ?_) (fun hb12=> ?_))
  ·have h12:(l.length:Int)=4:=oT hb12;refine zN hb12 (zn I) (zN hb12 (ZF I I)<|zN hb8 (zC I hb12 I)<|za I (zG I hb8 I)<|zc I<|yt 17 I (fun hb17=> ?_) (fun hb17=> ?_))
   ·have h17:b≤8:=oT hb17;refine zI hb17 (zI hb17<|zI hb17<|za I (zC I hb17 I)<|zc I<|zI I<|zI I<|za I (zC I I I)<|zd I<|ze<|zE (fn:=Tryz.f31) (fun _ _ h=>h)<|Rs.le (zM I<|zo I) ?_)
    exact yb (by unfold ffew;symm;first | (apply Jo;omega) | (apply Jd;omega) | (rw [JW];omega))
   ·have h17:¬b≤8:=oF hb17;refine zN hb17 (zn I) (zN hb17 (zU (e:=61) I k9)<|zN hb17 (y0 I I)<|za I (zG I hb17 I)<|zc I<|yt 22 I (fun hb22=> ?_) (fun hb22=> ?_))
    ·have h22:(l.length:Int) > 6:=oT hb22;refine zI hb22 (zI hb22<|za I (zC I hb22 I)<|zd I<|ze<|zE (fn:=Tryz.f31) (fun _ _ h=>h)<|Rs.le (zM I<|zo I) ?_)
     exact yb (by unfold ffew;symm;first | (apply Jo;omega) | (apply Jd;omega) | (rw [JW];omega))
    ·have h22:¬(l.length:Int) > 6:=oF hb22;refine zN hb22 (zn I) (zN hb22 (ZF I I)<|za I (zG I hb22 I)<|zd I<|ze<|zE (fn:=Tryz.f31) (fun _ _ h=>h)<|Rs.le (zM I<|zo I) ?_)
     exact yb (by unfold ffew;symm;first | (apply Jo;omega) | (apply Jd;omega) | (rw [JW];omega))
  ·have h12:¬(l.length:Int)=4:=oF hb12;refine zI hb12 (zI hb12<|zN hb8 (zG I hb12 I)<|za I (zG I hb8 I)<|zc I<|zN I (zn I)<|zN I (zU (e:=61) I k9)<|zN I (y0 I I)<|za I (zG I I I)<|zc I<|yt 22 I (fun hb22=> ?_) (fun hb22=> ?_))
   ·have h22:(l.length:Int) > 6:=oT hb22;refine zI hb22 (zI hb22<|za I (zC I hb22 I)<|zd I<|ze<|zE (fn:=Tryz.f31) (fun _ _ h=>h)<|Rs.le (zM I<|zo I) ?_)
    exact yb (by unfold ffew;symm;first | (apply Jo;omega) | (apply Jd;omega) | (rw [JW];omega))
   ·have h22:¬(l.length:Int) > 6:=oF hb22;refine zN hb22 (zn I) (zN hb22 (ZF I I)<|za I (zG I hb22 I)<|zd I<|ze<|zE (fn:=Tryz.f31) (fun _ _ h=>h)<|Rs.le (zM I<|zo I) ?_)
    exact yb (by unfold ffew;symm;first | (apply Jo;omega) | (apply Jd;omega) | (rw [JW];omega))
theorem KP (c i:Nat) (hc:c≤1000000) (hi:i≤1000000):Con Tryz.prog 51 [iD (c:Int),iD (i:Int)] (yy<|Co.bt c i):=by
 refine z1 Tryz.func51 k9 I k9 fun base w0=>(zq<|zd I<|ze<|zh<|zq<|zd I<|ze<|SW.block<|z2 (ι:={k:Nat // k≤i}) (fun k=>z6 [(0,iD ((c / 2 ^ k.1:Nat):Int)),(1,iD (i:Int)),(5,iD (k.1:Int))] []) (fun k=>i - k.1) (⟨0,JC _⟩) ?_ ?_)
 ·exact ⟨⟨_,I,⟨⟨_,I,zH s9⟩,(sT I)⟩⟩,[],by decide,trivial⟩
 ·rintro ⟨k,hk⟩ K0 hK0;dsimp only at hk ⊢;have hck:=Nat.div_le_self c (2 ^ k)
  generalize hq:c / 2 ^ k=q at hck ⊢
  refine zh (zq<|zc I<|zc I<|za I (ya I I)<|ze<|zD I (fun hb8=> ?_) (fun hb8=> ?_))
  ·have h8:(k:Int) < (i:Int):=oT hb8;exact zx (zg<|zh<|SW.block<|zf<|zc I<|za I (jY I I ⟨by omega,by omega,by omega⟩)<|zd I<|zy<|SN.block<|zg<|zf<|zc I<|za I (Rd.add I I ⟨by omega,by omega⟩)<|zd I<|zy (fun aK wK hh=>hK0 (⟨k + 1,by omega⟩) (by dsimp only;omega) aK wK<|hh.sub<|⟨⟨_,I,⟨⟨_,I,zH (by dsimp only;rw [← half,hq])⟩,⟨lq I,⟨⟨_,I,zH s9⟩,t9⟩⟩⟩⟩,[],by decide,trivial⟩))
  ·have h8:¬(k:Int) < (i:Int):=oF hb8;refine zP ?_
   repeat (first | refine zW ?_ | refine zX d9 ?_)
   refine zY (zg<|zq<|zc I<|za I (Wf I I ⟨by omega,by omega⟩)<|za I (y1 I I)<|zd I<|ze<|zE (fn:=Tryz.f51) (fun _ _ h=>h)<|Rs.le (zM I<|zo I) ?_);exact yb (by rw [← hq,show k=i by omega,odd_bt])
theorem KD (l:List Co.Cl) (c:Nat) (hl:l.length≤6) (hc:c≤1000000):Con Tryz.prog 38 [lsD z7 l,iD (c:Int)] (lsD yd<|Co.wnr l c):=by
 refine z1 Tryz.func38 k9 I k9 fun base w0=>(zq<|zd I<|zT<|zd I<|ze<|zh<|zq<|zd I<|ze<|SW.block<|Y7 3 1 yd<|z2 (ι:={p:Nat × Wst // p.1≤l.length}) (fun p=>z6 [(0,lsD z7 l),(1,iD (c:Int)),(5,isD<|.slice p.1.2.A ((Co.mem p.1.1<|Co.fB c).map<|Co.wnO l).length p.1.2.c),(6,iD (p.1.1:Int))] [.r p.1.2.F<|yx 3 1 yd p.1.2.A p.1.2.c<|(Co.mem p.1.1<|Co.fB c).map<|Co.wnO l]) (fun p=>l.length - p.1.1) (⟨(0,⟨none,0,[]⟩),JC _⟩) ?_ ?_)
 ·exact (sB [0] I I)
 ·rintro ⟨⟨i,t⟩,hi⟩ K0 hK0;dsimp only at hi ⊢;refine zh (zq<|zc I<|zc I<|za I (zU (e:=61) I k9)<|za I (ya I I)<|ze<|zD I (fun hb10=> ?_) (fun hb10=> ?_))
  ·have h10:(i:Int) < (l.length:Int):=oT hb10;refine zx (zg<|zh<|SW.block<|zh ?_);obtain ⟨x,hx⟩:∃ x,l[i]? =some x:=⟨_,Je o9⟩;refine zf (zc I<|zc I<|zt (S:=[]) (zl (KP c i hc o9) I ⟨zb _,zb _,t9⟩ I)<|ze<|zD I (fun hb15=> ?_) (fun hb15=> ?_))
   ·skip
    exact zf (zc I<|zc I<|zc I<|za I (zR (e:=61) 2 I I k9 k9 o9 (by simpa using hx))<|za I (zZ (n:=0) I k9 (show 0 < 2 by decide))<|za I (zL I I k9 s9)<|zt (S:=[]) (Zy I I ju I) (SWl.e4 (qt 0 1 8 I I (Yr (l:=[_]) I) k9 k9 (by have:=Co.mem_len (n:=i) (f:=Co.fB c);rw [List.length_map,List.length_singleton];omega) d9 (fun _ h=>h) I) fun A23 F23 c23=>(zd I<|zy<|SN.block<|zg<|zf<|zc I<|za I (Rd.add I I ⟨by omega,by omega⟩)<|zd I<|zy (fun aK wK hh=>hK0 (⟨(i + 1,⟨A23,c23,F23⟩),by simp only;omega⟩) (by simp only;omega) aK wK<|hh.sub<|⟨⟨_,I,⟨lq I,⟨lq I,⟨⟨_,I,zH (by dsimp only;rw [wnr_yes hx hb15])⟩,⟨⟨_,I,zH s9⟩,t9⟩⟩⟩⟩⟩,[0],by decide,⟨⟨_,rfl,(by dsimp only;rw [wnr_yes hx hb15];exact zQ _)⟩,trivial⟩⟩))))
   ·skip
    exact zx (SN.block<|zg<|zf<|zc I<|za I (Rd.add I I ⟨by omega,by omega⟩)<|zd I<|zy (fun aK wK hh=>hK0 (⟨(i + 1,t),by simp only;omega⟩) (by simp only;omega) aK wK<|hh.sub<|⟨⟨_,I,⟨lq I,⟨lq I,⟨⟨_,I,zH (by dsimp only;rw [wnr_no hb15])⟩,⟨⟨_,I,zH s9⟩,t9⟩⟩⟩⟩⟩,[0],by decide,⟨⟨_,rfl,(by dsimp only;rw [wnr_no hb15];exact zQ _)⟩,trivial⟩⟩))
  ·have h10:¬(i:Int) < (l.length:Int):=oF hb10;refine zP ?_
   repeat (first | refine zW ?_ | refine zX d9 ?_)
   refine zY (zg<|zq<|zc I<|zd I<|ze<|SW.freezeT 0 4 I I (by rw [show i=l.length by omega];exact zb _)<|zE (fn:=Tryz.f38) (fun _ _ h=>h)<|Rs.le (zM I<|zo I) ?_);exact zb _
theorem KE (b:Int) (l:List Co.Cl) (ws:List Co.Wi) (hw:ws.length≤1000000) (hv:Co.VW b l ws):Con Tryz.prog 12 [iD b,lsD z7 l,lsD yN ws] (Zm [lsD yd<|zF (Co.vO b l ws)<|2 ^ l.length,iD 0]):=by
 have hn6:=hv.c.n;have hb2:=hv.c.b2;have hb1:=hv.c.b1;obtain ⟨S,hS⟩:∃ S,S=2 ^ l.length:=⟨_,rfl⟩
 have hS64:S≤64:=by rw [hS];exact Co.pow_le64 hn6
 refine z1 Tryz.func12 k9 I k9 fun base w0=>(zq<|zd I<|zd I<|ze<|zh<|zq<|zc I<|zc I<|zc I<|zt (S:=[]) (zl (qA b l ws o9 hw) I ⟨zb _,zb _,zb _,t9⟩ I)<|za I (yE I)<|ze<|zK I (by simp [hv])<|zx<|zg<|zq<|zd I<|ze<|zh<|zq<|zd I<|ze<|SW.block<|z2 (ι:={k:Nat // k≤l.length}) (fun k=>z6 [(0,iD b),(1,lsD z7 l),(2,lsD yN ws),(8,iD ((2 ^ k.1:Nat):Int)),(9,iD (k.1:Int))] []) (fun k=>l.length - k.1) (⟨0,JC _⟩) ?_ ?_)
 ·exact (sB [] I I)
 ·rintro ⟨k,hk⟩ K0 hK0;dsimp only at hk ⊢;refine zh (zq<|zc I<|zc I<|za I (zU (e:=61) I k9)<|za I (ya I I)<|ze<|zD I (fun hb22=> ?_) (fun hb22=> ?_))
  ·have h22:(k:Int) < (l.length:Int):=oT hb22;refine zx (zg<|zh<|SW.block ?_);have h2k:=pow_64 (i:=k) o9;have h2k0:0 < 2 ^ k:=Nat.pow_pos d9;exact zf (zc I<|za I (Rd.mono (Rd.mul I I ⟨by omega,by omega⟩) (show Le _ (iD ((2 ^ (k + 1):Nat):Int)) from zH (by rw [pw2 k o9])))<|zd I<|zy<|SN.block<|zg<|zf<|zc I<|za I (Rd.add I I ⟨by omega,by omega⟩)<|zd I<|zy (fun aK wK hh=>hK0 (⟨k + 1,by omega⟩) (by dsimp only;omega) aK wK<|hh.sub<|⟨⟨_,I,⟨lq I,⟨lq I,⟨lq I,⟨lq I,⟨⟨_,I,zH s9⟩,t9⟩⟩⟩⟩⟩⟩,[],by decide,trivial⟩))
  ·have h22:¬(k:Int) < (l.length:Int):=oF hb22;refine zP ?_
   repeat (first | refine zW ?_ | refine zX d9 ?_)
   refine zY (zg<|zh<|SW.sub (σ':=z6 [(0,_),(1,_),(2,_),(8,iD (S:Int))] []) (⟨⟨_,I,⟨lq I,⟨lq I,⟨lq I,⟨⟨_,I,zH (by rw [hS,show k=l.length by omega])⟩,t9⟩⟩⟩⟩⟩,[],by decide,trivial⟩)<|zf<|zd I<|ze<|zh<|zq<|zd I<|ze<|SW.block<|Y7 3 1 yd<|z2 (ι:={p:Nat × Wst // p.1≤S}) (fun p=>z6 [(0,iD b),(1,lsD z7 l),(2,lsD yN ws),(8,iD (S:Int)),(10,isD<|.slice p.1.2.A (zF (Co.vO b l ws) p.1.1).length p.1.2.c),(11,iD (p.1.1:Int))] [.r p.1.2.F<|yx 3 1 yd p.1.2.A p.1.2.c<|zF (Co.vO b l ws) p.1.1]) (fun p=>S - p.1.1) (⟨(0,⟨none,0,[]⟩),JC _⟩) ?_ ?_)
   ·exact (sB [0] I I)
   ·rintro ⟨⟨i,t⟩,hi⟩ K1 hK1;dsimp only at hi ⊢;refine zh (zq<|zc I<|zc I<|za I (ya I I)<|ze<|zD I (fun hb29=> ?_) (fun hb29=> ?_))
    ·have h29:(i:Int) < (S:Int):=oT hb29;exact zx (zg<|zh<|SW.block<|zq<|zc I<|zc I<|zc I<|zc I<|zc I<|zt (S:=[]) (zl (KD l i hn6 o9) I ⟨zb _,zb _,t9⟩ I)<|zt (S:=[]) (zl (con_bestR b l ws (Co.wnr l i) hv hw (by have:=Co.wnr_len (l:=l) (c:=i);omega) (Co.bt i) (Co.wnr_bt hv.c) (Co.wnr_sorted hv.c)<|Co.wnr_mem hv.c) I ⟨zb _,zb _,zb _,zb _,t9⟩ I)<|zc I<|za I (zj I I)<|za I (zj I I)<|zd I<|zd I<|ze<|zf<|zc I<|zc I<|zt (S:=[]) (Zy I I ju I) (SWl.e4 (qt 0 1 8 I I (Yr (l:=[_]) I) k9 k9 (by rw [yl,List.length_singleton];omega) d9 (fun _ h=>h) I) fun A45 F45 c45=>(zd I<|zy<|SN.block<|zg<|zf<|zc I<|za I (Rd.add I I ⟨by omega,by omega⟩)<|zd I<|zy (fun aK wK hh=>hK1 (⟨(i + 1,⟨A45,c45,F45⟩),by simp only;omega⟩) (by simp only;omega) aK wK<|hh.sub<|⟨⟨_,I,⟨lq I,⟨lq I,⟨lq I,⟨lq I,⟨⟨_,I,zH (by dsimp only;rw [Kc];rfl)⟩,⟨⟨_,I,zH s9⟩,t9⟩⟩⟩⟩⟩⟩⟩,[0],by decide,⟨⟨_,rfl,(by dsimp only;rw [Kc];exact zQ _)⟩,trivial⟩⟩))))
    ·have h29:¬(i:Int) < (S:Int):=oF hb29;refine zP ?_
     repeat (first | refine zW ?_ | refine zX d9 ?_)
     refine zY (zg<|zq<|zc I<|zd I<|zd I<|ze<|SW.freezeT 0 6 I I (by rw [show i=S by omega,hS];exact zb _)<|zE (fn:=Tryz.f12) (fun _ _ h=>h)<|Rs.le (Rs.two I (zo I)<|zo I) ?_);exact zb _
theorem WQ (b:Int) (l:List Co.Cl) (ws:List Co.Wi) (hw:ws.length≤1000000) (hl:l.length≤1000000) (hv:¬Co.VW b l ws):Con Tryz.prog 12 [iD b,lsD z7 l,lsD yN ws] (Zm [lsD yd [],iD 2]):=by
 refine z1 Tryz.func12 k9 I k9 fun base w0=>(zq<|zd I<|zd I<|ze<|zh<|zq<|zc I<|zc I<|zc I<|zt (S:=[]) (zl (qA b l ws hl hw) I ⟨zb _,zb _,zb _,t9⟩ I)<|za I (yE I)<|ze<|yh I (by simp [hv])<|zq<|zd I<|zd I<|ze<|zE (fn:=Tryz.f12) (fun _ _ h=>h)<|Rs.le (Rs.two I (zo I)<|zo I) ?_);exact yR ⟨y3,zb _,t9⟩
theorem W7 (b:Int) (l:List Co.Cl) (ws:List Co.Wi) (hw:ws.length≤1000000) (hv:Co.VW b l ws):Con Tryz.prog 15 [iD b,lsD z7 l,lsD yN ws] (Zm [lsD yd<|zF (Co.bO b l ws) l.length,iD 0]):=by
 have hn6:=hv.c.n;have hb2:=hv.c.b2;have hb1:=hv.c.b1;have hsl:(Co.slO b l ws).length=l.length:=Co.slO_len
 generalize hS:Co.slO b l ws=S at hsl
 refine z1 Tryz.func15 k9 I k9 fun base w0=>(zq<|zd I<|zd I<|zT<|zc I<|zc I<|zc I<|zt (S:=[]) (zl (zcq b l ws hv hw) I ⟨zb _,zb _,zb _,t9⟩ I)<|zc I<|za I (zj I I)<|za I (zj I I)<|za I (zj I I)<|zd I<|zd I<|zd I<|ze<|zh<|zq<|zc I<|za I (yk I I)<|ze<|zK I I<|zx<|zg<|zh<|SW.sub (σ':=z6 [(2,_),(8,lsD Yu S)] []) (⟨⟨_,I,⟨lq I,⟨⟨_,I,(by rw [hS];exact zb _)⟩,t9⟩⟩⟩,[],by decide,trivial⟩)<|zf<|zd I<|ze<|zh<|zh ?_);refine zf (zd I<|ze<|SW.block<|Y7 3 1 yd<|z2 (ι:={p:Nat × Wst // p.1≤l.length}) (fun p=>z6 [(2,lsD yN ws),(8,lsD Yu S),(11,isD<|.slice p.1.2.A (zF (Co.bO b l ws) p.1.1).length p.1.2.c),(12,iD (p.1.1:Int))] [.r p.1.2.F<|yx 3 1 yd p.1.2.A p.1.2.c<|zF (Co.bO b l ws) p.1.1]) (fun p=>l.length - p.1.1) (⟨(0,⟨none,0,[]⟩),JC _⟩) ?_ ?_)
 ·exact (sB [0] I I)
 ·rintro ⟨⟨i,t⟩,hi⟩ K0 hK0;dsimp only at hi ⊢;refine zh (zq<|zc I<|zc I<|za I (zU (e:=83) I k9)<|za I (ya I I)<|ze<|zD I (fun hb27=> ?_) (fun hb27=> ?_))
  ·have h27:i < l.length:=by have h:=oT hb27;omega
   refine zx (zg<|zh<|SW.block ?_);obtain ⟨c,hc⟩:∃ c,l[i]? =some c:=⟨_,Je o9⟩;obtain ⟨s,p,hs1,hs2,hs3,hpw,hps,hpc⟩:=slO_at (ws:=ws) hv.c hc;rw [hS] at hs3
   refine z8 (t.F ++ []) (rr [0,1,2,3,4,5,6,7,8,9,10,11]<|.n 12 (.n 13 (.e 14 (.r 15 .fin) .no) .no) .no) k9 k9 (fun d _ _ _ _ h=>by cases d <;> exact h) (zA I I<|zA I I<|zA I I<|zA I I<|zk I I (zR (e:=83) 3 I I k9 k9 o9 (by simpa using hs3))<|zk I I (zZ (n:=0) I k9 (show 0 < 3 by decide))<|zk I I (zL I I k9<|YY (j:=0) I Yf)<|zA I I<|zA I I<|zk I I (zR (e:=83) 3 I I k9 k9 o9 (by simpa using hs3))<|zk I I (zZ (n:=1) I k9 (show 1 < 3 by decide))<|zk I I (zL I I k9<|YY (j:=0) I Yf)<|yg I (zl (zbF ws p.win p.st hw) I ⟨zb _,zb _,zb _,t9⟩ I)<|yg I (Zy I I ju I)<|Wb I (qt 0 1 8 I I (Yr (l:=[_]) I) k9 k9 (by rw [yl,Xq];omega) d9 (fun _ h=>mL _ h) I) ?_ yo)
   rintro _ ⟨A44,F44,c44,rfl⟩;exact yU I I (yq<|SN.block<|zg<|zf<|zc I<|za I (Rd.add I I ⟨by omega,by omega⟩)<|zd I<|zy (fun aK wK hh=>hK0 (⟨(i + 1,⟨A44,c44,F44⟩),by simp only;omega⟩) (by simp only;omega) aK wK<|hh.sub<|⟨⟨_,I,⟨lq I,⟨lq I,⟨⟨_,I,zH (by dsimp only;rw [Kc,bO_at hc hs1,← hpw,← hps])⟩,⟨⟨_,I,zH s9⟩,t9⟩⟩⟩⟩⟩,[0],by decide,⟨⟨_,rfl,(by dsimp only;rw [Kc,bO_at hc hs1,← hpw,← hps];exact zQ _)⟩,trivial⟩⟩))
  ·have h27:¬i < l.length:=by have h:=oF hb27;omega
   refine zP ?_
   repeat (first | refine zW ?_ | refine zX d9 ?_)
   refine zY (zg<|zq<|zc I<|zd I<|zd I<|ze<|SW.freezeT 0 6 I I (by rw [show i=l.length by omega];exact zb _)<|zE (fn:=Tryz.f15) (fun _ _ h=>h)<|Rs.le (Rs.two I (zo I)<|zo I) ?_);exact zb _
