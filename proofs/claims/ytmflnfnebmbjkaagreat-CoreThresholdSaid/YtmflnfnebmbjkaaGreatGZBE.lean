/- REFERENCE 39: Search, Solve, Best. REFERENCE 40: Few, Has, Winners, Values, Bids. -/
import Derived.Test.YtmflnfnebmbjkaaGreatGZBD
set_option maxHeartbeats 8000000
set_option maxRecDepth 100000
namespace Go.Proofs.YtmflnfnebmbjkaaGreat
open Go.RowKit
namespace Sx
section
theorem Ks (b:Int) (l:List Co.Cl) (ws:List Co.Wi) (W:List Int) (hv:Co.VW b l ws) (hw:ws.length≤1000000) (hW:W.length≤1000000) (g:Nat→Bool) (hg:∀ (i:Nat) c,l[i]? =some c→decide (c.win∈W)=g i) (k:Nat) (hk:k≤l.length) (u:List Bool) (hu:(u.length:Int)=b) (ih:k < l.length→∀ u2:List Bool,(u2.length:Int)=b→Con Tryz.prog 80 [lsD z8 l,lsD yJ ws,lsD z2 W,iD<|(k:Int) + 1,lsD Y4 u2] (srD<|Co.srch ((Co.cs l ws g).drop<|k + 1) u2)):Con Tryz.prog 80 [lsD z8 l,lsD yJ ws,lsD z2 W,iD (k:Int),lsD Y4 u] (srD<|Co.srch ((Co.cs l ws g).drop k) u):=by
 have hn6:=hv.c.n;have hb2:=hv.c.b2;have hb1:=hv.c.b1;refine zZ Tryz.func80 k9 I k9 fun base w0=>(zt<|ze I<|ze I<|ze I<|zd<|zh<|zt<|zc I<|zc I<|za I (zV (e:=61) I k9)<|za I (yQ I I)<|zd<|zD I (fun hb23=> ?_) (fun hb23=> ?_))
 ·have hkl:k=l.length:=by (have h:=oT hb23;omega)
  refine zt (ze I<|ze I<|ze I<|zd<|zF (fn:=Tryz.f80) (fun _ _ h=>h)<|Rs.le (qk I (zo I) (zo I)<|zo I) ?_);subst hkl;rw [drop_nil];exact yW ⟨zb _,zb _,ZV,trivial⟩
 ·skip
  refine zw (zg<|zt<|ze I<|ze I<|zd<|zh ?_)
  have hkl:k < l.length:=by (have h:=hb23;simp at h;omega)
  obtain ⟨x,hx⟩:∃ x,l[k]? =some x:=⟨_,Je hkl⟩;have hxc:=hv.c.cnt hx;have hx1:=(hv.c.ok k x hx).2.2
  refine SW.sub (σ':=ya [(0,_),(1,_),(2,_),(3,_),(4,_),(13,_),(14,_)] []) (sB [] I I) (zf<|ze I<|zd<|zh<|zt<|ze I<|zd<|SW.block<|z6 (ι:={s:Nat // s≤u.length + 1 - x.cnt.toNat}) (fun s=>ya [(0,lsD z8 l),(1,lsD yJ ws),(2,lsD z2 W),(3,iD (k:Int)),(4,lsD Y4 u),(13,yK (Co.srN (Co.srch<|(Co.cs l ws g).drop<|k + 1) x.cnt.toNat (fun s:Nat=>if g k then Co.wish ws x.win (s:Int) else 0) u s.1).1),(14,iD (Co.srN (Co.srch<|(Co.cs l ws g).drop<|k + 1) x.cnt.toNat (fun s:Nat=>if g k then Co.wish ws x.win (s:Int) else 0) u s.1).2.1),(15,lsD z2<|nI (Co.srN (Co.srch<|(Co.cs l ws g).drop<|k + 1) x.cnt.toNat (fun s:Nat=>if g k then Co.wish ws x.win (s:Int) else 0) u s.1).2.2),(16,iD (s.1:Int))] []) (fun s=>u.length + 1 - x.cnt.toNat - s.1) (⟨0,JC _⟩) ?_ ?_)
  ·exact ⟨⟨_,I,⟨lq I,⟨lq I,⟨lq I,⟨lq I,⟨lq I,⟨lq I,⟨lq I,⟨⟨_,I,ZV⟩,⟨lq I,t9⟩⟩⟩⟩⟩⟩⟩⟩⟩⟩,[],by decide,trivial⟩
  ·rintro ⟨s,hs⟩ K0 hK0;dsimp only at hs ⊢;refine zh (zt<|zc I<|zc I<|za I (zV (e:=4) I k9)<|zc I<|zc I<|za I (zQ (e:=61) 2 I I k9 k9 o9 (by simpa using hx))<|za I (z1 (n:=1) I k9 (show 1 < 2 by decide))<|za I (zJ I I k9 s9)<|za I (yl I I ⟨by omega,by omega⟩)<|za I (ZB I I)<|zd<|zD I (fun hb33=> ?_) (fun hb33=> ?_))
   ·have h33:=oT hb33;refine zw (zg<|zh<|SW.block<|zh<|zh ?_)
    have hs2:s + x.cnt.toNat≤u.length:=by omega
    refine zf (zc I<|zc I<|zc I<|zc I<|za I (zQ (e:=61) 2 I I k9 k9 o9 (by simpa using hx))<|za I (z1 (n:=1) I k9 (show 1 < 2 by decide))<|za I (zJ I I k9 s9)<|zp (S:=[]) (zn (con_free u s x.cnt.toNat o9 o9) I ⟨zb _,zb _,zG (by congr 1;omega),t9⟩ I)<|za I (yG I)<|zd<|zD I (fun hb44=> ?_) (fun hb44=> ?_))
    ·skip
     refine zM ?_
     repeat (first | refine zW ?_ | refine zX d9 ?_)
     exact zY (zg<|zf<|zc I<|za I (Rd.add I I ⟨by omega,by omega⟩)<|ze I<|zv (fun aK wK hh=>hK0 (⟨s + 1,by omega⟩) (by dsimp only;omega) aK wK<|hh.sub<|⟨⟨_,I,⟨lq I,⟨lq I,⟨lq I,⟨lq I,⟨lq I,⟨⟨_,I,zG (by dsimp only;rw [qQ (fun h=>by rw [h.1] at hb44;cases hb44)])⟩,⟨⟨_,I,zG (by dsimp only;rw [qQ (fun h=>by rw [h.1] at hb44;cases hb44)])⟩,⟨⟨_,I,(by dsimp only;rw [qQ (fun h=>by rw [h.1] at hb44;cases hb44)];exact zb _)⟩,⟨⟨_,I,zG s9⟩,t9⟩⟩⟩⟩⟩⟩⟩⟩⟩⟩,[],by decide,trivial⟩))
    ·skip
     refine zw (zg<|zh ?_)
     have hf:Co.free u s x.cnt.toNat=true:=by simpa using hb44
     have hqb:=srch_bd ((Co.cs l ws g).drop<|k + 1) (Co.mk u s x.cnt.toNat) (cs_bd hv)
     have hql:((Co.cs l ws g).drop<|k + 1).length≤6:=by rw [JA,Co.cs_len];omega
     have hwb:=Co.wish_le hv x.win (s:Int)
     refine zf (zc I<|zc I<|zc I<|zc I<|za I (Rd.add I I ⟨by omega,by omega⟩)<|zc I<|zc I<|zc I<|zc I<|za I (zQ (e:=61) 2 I I k9 k9 o9 (by simpa using hx))<|za I (z1 (n:=1) I k9 (show 1 < 2 by decide))<|za I (zJ I I k9 s9)<|zp (S:=[]) (zn (con_mark u s x.cnt.toNat o9 o9) I ⟨zb _,zb _,zG (by congr 1;omega),t9⟩ I)<|zp (S:=[]) (zn (ih o9 (Co.mk u s x.cnt.toNat) (by rw [Co.mk_len];exact hu)) I ⟨zb _,zb _,zb _,zb _,zb _,t9⟩ I)<|zc I<|za I (zi I I)<|za I (zi I I)<|za I (zi I I)<|ze I<|ze I<|ze I<|zd<|zh<|qA (fun σ=>σ=ya [(0,lsD z8 l),(1,lsD yJ ws),(2,lsD z2 W),(3,iD (k:Int)),(4,lsD Y4 u),(13,yK (Co.srN (Co.srch<|(Co.cs l ws g).drop<|k + 1) x.cnt.toNat (fun s:Nat=>if g k then Co.wish ws x.win (s:Int) else 0) u s).1),(14,iD (Co.srN (Co.srch<|(Co.cs l ws g).drop<|k + 1) x.cnt.toNat (fun s:Nat=>if g k then Co.wish ws x.win (s:Int) else 0) u s).2.1),(15,lsD z2<|nI (Co.srN (Co.srch<|(Co.cs l ws g).drop<|k + 1) x.cnt.toNat (fun s:Nat=>if g k then Co.wish ws x.win (s:Int) else 0) u s).2.2),(16,iD (s:Int)),(17,yK ((Co.srch<|(Co.cs l ws g).drop<|k + 1)<|Co.mk u s x.cnt.toNat).1),(18,iD<|((Co.srch<|(Co.cs l ws g).drop<|k + 1)<|Co.mk u s x.cnt.toNat).2.1 + (fun s:Nat=>if g k then Co.wish ws x.win (s:Int) else 0) s),(19,lsD z2<|nI ((Co.srch<|(Co.cs l ws g).drop<|k + 1)<|Co.mk u s x.cnt.toNat).2.2)] []) ?_ ?_)
     ·skip
      refine zt (zc I<|zc I<|zc I<|za I (zQ (e:=61) 2 I I k9 k9 o9 (by simpa using hx))<|za I (z1 (n:=0) I k9 (show 0 < 2 by decide))<|za I (zJ I I k9 s9)<|zp (S:=[]) (zn (con_has39 W x.win hW) I ⟨zb _,zb _,t9⟩ I)<|zd<|zD I (fun hb69=> ?_) (fun hb69=> ?_))
      ·skip
       exact zf (zc I<|zc I<|zc I<|zc I<|za I (zQ (e:=61) 2 I I k9 k9 o9 (by simpa using hx))<|za I (z1 (n:=0) I k9 (show 0 < 2 by decide))<|za I (zJ I I k9 s9)<|zc I<|zp (S:=[]) (zn (za5 ws x.win (s:Int) hw) I ⟨zb _,zb _,zb _,t9⟩ I)<|za I (Rd.add I I ⟨by omega,by omega⟩)<|ze I<|zv<|Zc I<|⟨⟨_,I,⟨lq I,⟨lq I,⟨lq I,⟨lq I,⟨lq I,⟨lq I,⟨lq I,⟨lq I,⟨lq I,⟨lq I,⟨⟨_,I,zG (by dsimp only;rw [if_pos (by rw [← hg k x hx];exact hb69)])⟩,⟨lq I,t9⟩⟩⟩⟩⟩⟩⟩⟩⟩⟩⟩⟩⟩,[],by decide,trivial⟩)
      ·skip
       exact zw (Zc I<|⟨⟨_,I,⟨lq I,⟨lq I,⟨lq I,⟨lq I,⟨lq I,⟨lq I,⟨lq I,⟨lq I,⟨lq I,⟨lq I,⟨⟨_,I,zG (by dsimp only;rw [if_neg (by rw [← hg k x hx,hb69];decide)];simp)⟩,⟨lq I,t9⟩⟩⟩⟩⟩⟩⟩⟩⟩⟩⟩⟩⟩,[],by decide,trivial⟩)
     ·rintro _ rfl;refine zg (zt<|zc I<|zc I<|yo 81 I (fun hb81=> ?_) (fun hb81=> ?_))
      ·skip
       refine zT hb81 (zl I) (zT hb81 (yG I)<|zT hb81 (zl I)<|yo 84 I (fun hb84=> ?_) (fun hb84=> ?_))
       ·skip
        exact zS hb84 (zS hb84<|zS hb84<|zT hb81 (zE I hb84 I)<|za I (zE I hb81 I)<|zd<|yg I I<|zf<|zc I<|zc I (SWl.e2 (S:=[]) (Ef.litO (e:=3) (enc:=z2) (l:=[(s:Int)]) 1 I I I d9 (fun L w vs hv=>by obtain ⟨u,rfl,rfl⟩:=WM hv;exact ⟨[_],(show All L w [iD _] [_] from ⟨rfl,trivial⟩),fun w'=>by kernel_rfl⟩) I) fun g92=>(zc I (SWl.e4 (YA 0 1 8 I I (ZS I) k9 k9 (by have h1:=Vr ((Co.cs l ws g).drop<|k + 1) (Co.mk u s x.cnt.toNat);rw [zaJ,List.length_singleton];omega) d9 (fun _ h=>h) I) fun A94 F94 c94=>(YT 0 94 I I (zb _)<|ze I<|ze I<|ze I<|zv<|SN.block<|zg<|zf<|zc I<|za I (Rd.add I I ⟨by omega,by omega⟩)<|ze I<|zv (fun aK wK hh=>hK0 (⟨s + 1,by omega⟩) (by dsimp only;omega) aK wK<|hh.sub<|⟨⟨_,I,⟨lq I,⟨lq I,⟨lq I,⟨lq I,⟨lq I,⟨⟨_,I,zG (by dsimp only;rw [jk hf hb81<|.inl (by simpa using hb84)])⟩,⟨⟨_,I,zG (by dsimp only;rw [jk hf hb81<|.inl (by simpa using hb84)])⟩,⟨⟨_,I,(by dsimp only;rw [jk hf hb81<|.inl (by simpa using hb84)];exact zb _)⟩,⟨⟨_,I,zG s9⟩,t9⟩⟩⟩⟩⟩⟩⟩⟩⟩⟩,[],by decide,trivial⟩))))))
       ·skip
        refine zT hb84 (zl I) (zT hb84 (zl I)<|zT hb84 (y5 I I)<|zT hb81 (zK I hb84 I)<|za I (zE I hb81 I)<|zd<|zD I (fun hb89=> ?_) (fun hb89=> ?_))
        ·have hlt:=oT hb89;exact zf (zc I<|zc I (SWl.e2 (S:=[]) (Ef.litO (e:=3) (enc:=z2) (l:=[(s:Int)]) 1 I I I d9 (fun L w vs hv=>by obtain ⟨u,rfl,rfl⟩:=WM hv;exact ⟨[_],(show All L w [iD _] [_] from ⟨rfl,trivial⟩),fun w'=>by kernel_rfl⟩) I) fun g92=>(zc I (SWl.e4 (YA 0 1 8 I I (ZS I) k9 k9 (by have h1:=Vr ((Co.cs l ws g).drop<|k + 1) (Co.mk u s x.cnt.toNat);rw [zaJ,List.length_singleton];omega) d9 (fun _ h=>h) I) fun A94 F94 c94=>(YT 0 94 I I (zb _)<|ze I<|ze I<|ze I<|zv<|SN.block<|zg<|zf<|zc I<|za I (Rd.add I I ⟨by omega,by omega⟩)<|ze I<|zv (fun aK wK hh=>hK0 (⟨s + 1,by omega⟩) (by dsimp only;omega) aK wK<|hh.sub<|⟨⟨_,I,⟨lq I,⟨lq I,⟨lq I,⟨lq I,⟨lq I,⟨⟨_,I,zG (by dsimp only;rw [jk hf hb81<|.inr hlt])⟩,⟨⟨_,I,zG (by dsimp only;rw [jk hf hb81<|.inr hlt])⟩,⟨⟨_,I,(by dsimp only;rw [jk hf hb81<|.inr hlt];exact zb _)⟩,⟨⟨_,I,zG s9⟩,t9⟩⟩⟩⟩⟩⟩⟩⟩⟩⟩,[],by decide,trivial⟩))))))
        ·have hlt:=oF hb89;exact zw (SN.block<|zg<|zf<|zc I<|za I (Rd.add I I ⟨by omega,by omega⟩)<|ze I<|zv (fun aK wK hh=>hK0 (⟨s + 1,by omega⟩) (by dsimp only;omega) aK wK<|hh.sub<|⟨⟨_,I,⟨lq I,⟨lq I,⟨lq I,⟨lq I,⟨lq I,⟨⟨_,I,zG (by dsimp only;rw [qQ (fun h=>h.2.2.elim (fun h=>by simp [h] at hb84) hlt)])⟩,⟨⟨_,I,zG (by dsimp only;rw [qQ (fun h=>h.2.2.elim (fun h=>by simp [h] at hb84) hlt)])⟩,⟨⟨_,I,(by dsimp only;rw [qQ (fun h=>h.2.2.elim (fun h=>by simp [h] at hb84) hlt)];exact zb _)⟩,⟨⟨_,I,zG s9⟩,t9⟩⟩⟩⟩⟩⟩⟩⟩⟩⟩,[],by decide,trivial⟩))
      ·skip
       exact zS hb81 (zS hb81<|zS hb81<|yF I I I I<|yF I I I I<|yF I I I I<|zS hb81<|za I (zK I hb81 I)<|zd<|zI I I<|zw<|SN.block<|zg<|zf<|zc I<|za I (Rd.add I I ⟨by omega,by omega⟩)<|ze I<|zv (fun aK wK hh=>hK0 (⟨s + 1,by omega⟩) (by dsimp only;omega) aK wK<|hh.sub<|⟨⟨_,I,⟨lq I,⟨lq I,⟨lq I,⟨lq I,⟨lq I,⟨⟨_,I,zG (by dsimp only;rw [qQ (fun h=>by rw [h.2.1] at hb81;cases hb81)])⟩,⟨⟨_,I,zG (by dsimp only;rw [qQ (fun h=>by rw [h.2.1] at hb81;cases hb81)])⟩,⟨⟨_,I,(by dsimp only;rw [qQ (fun h=>by rw [h.2.1] at hb81;cases hb81)];exact zb _)⟩,⟨⟨_,I,zG s9⟩,t9⟩⟩⟩⟩⟩⟩⟩⟩⟩⟩,[],by decide,trivial⟩))
   ·have h33:=oF hb33;refine zM ?_
    repeat (first | refine zW ?_ | refine zX d9 ?_)
    refine zY (zg<|zt<|zc I<|zc I<|zc I<|ze I<|ze I<|ze I<|zd<|zF (fn:=Tryz.f80) (fun _ _ h=>h)<|Rs.le (qk I (zo I) (zo I)<|zo I) ?_);rw [drop_cs hx,show u.length + 1 - x.cnt.toNat=s by omega];exact zb _
theorem Kq (b:Int) (l:List Co.Cl) (ws:List Co.Wi) (W:List Int) (hv:Co.VW b l ws) (hw:ws.length≤1000000) (hW:W.length≤1000000) (g:Nat→Bool) (hg:∀ (i:Nat) c,l[i]? =some c→decide (c.win∈W)=g i):∀ (m k:Nat),k + m=l.length→∀ u:List Bool,(u.length:Int)=b→Con Tryz.prog 80 [lsD z8 l,lsD yJ ws,lsD z2 W,iD (k:Int),lsD Y4 u] (srD<|Co.srch ((Co.cs l ws g).drop k) u)
 | 0,k,h,u,hu=>Ks b l ws W hv hw hW g hg k o9 u hu fun h2=>absurd h2 o9
 | m + 1,k,h,u,hu=>Ks b l ws W hv hw hW g hg k o9 u hu fun _ u2 hu2=>Kq b l ws W hv hw hW g hg m (k + 1) o9 u2 hu2
theorem jr (b:Int) (l:List Co.Cl) (ws:List Co.Wi) (W:List Int) (hv:Co.VW b l ws) (hw:ws.length≤1000000) (hW:W.length≤1000000) (g:Nat→Bool) (hg:∀ (i:Nat) c,l[i]? =some c→decide (c.win∈W)=g i):Con Tryz.prog 80 [lsD z8 l,lsD yJ ws,lsD z2 W,iD 0,lsD Y4<|List.replicate b.toNat false] (srD<|Co.srch (Co.cs l ws g)<|List.replicate b.toNat false):=
 Kq b l ws W hv hw hW g hg l.length 0 o9 _ (by rw [List.length_replicate];have:=hv.c.b1;omega)
theorem WH {P:Program} {Γ:Cx} {σ:St} {l:List Oper} {Q:Exit→Act→World→Prop} {S:LN} {tz:Reg.Tz} {d:D} (i:Nat) {d':D} (hi:σ.tm i=some d) (hl:Le d d') (h:SWz P Γ l Q S tz (σ.put i d')):SWz P Γ l Q S tz σ:=fun a w hh=>h a w (hh.weak hi hl)
theorem blsSl1 {x:Co.Sl}:Bls Tryz.prog 75 1 [0] [Yu<|Yl x] ([x].flatMap Yl):=⟨83,fun L w vs hv=>by
 obtain ⟨u,rfl,cs,rfl,hc⟩:=WM hv
 match cs,hc with
 | [a,b,c],hc=>
  obtain ⟨rfl,rfl,rfl,-⟩:=hc
  exact ⟨[.int .i64 x.win,.int .i64 x.st,.int .i64 x.cnt],⟨I,I,I,t9⟩,fun w'=>by kernel_rfl⟩⟩
theorem zay {b:Int} {l:List Co.Cl} {ws:List Co.Wi} {i:Nat} {x:Co.Sl} (h:(Co.slO b l ws)[i]? =some x):(Co.slO b l ws).take (i + 1)=(Co.slO b l ws).take i ++ [x]:=by rw [List.take_add_one,h];rfl
theorem fst_len {b:Int} {l:List Co.Cl} {ws:List Co.Wi} (hv:Co.VC b l):(Co.fst b l ws).length=l.length:=(Co.fst_fits (ws:=ws) (g:=fun _=>true) hv).2
theorem con_bestR (b:Int) (l:List Co.Cl) (ws:List Co.Wi) (W:List Int) (hv:Co.VW b l ws) (hw:ws.length≤1000000) (hW:W.length≤1000000) (g:Nat→Bool) (hg:∀ (i:Nat) c,l[i]? =some c→decide (c.win∈W)=g i) (hs:∀ (i:Nat) x y,W[i]? =some x→W[i + 1]? =some y→x < y) (hm:∀ (i:Nat) x,W[i]? =some x→∃ m,Co.fC l x=some m):Con Tryz.prog 37 [iD b,lsD z8 l,lsD yJ ws,lsD z2 W] (Zo [iD (Co.srch (Co.cs l ws g)<|List.replicate b.toNat false).2.1,iD 0]):=by
 have hn6:=hv.c.n;have hb2:=hv.c.b2;have hb1:=hv.c.b1;refine zZ Tryz.func37 k9 I k9 fun base w0=>(zt<|ze I<|ze I<|zd<|zh<|zt<|zc I<|zc I<|zc I<|zp (S:=[]) (zn (qf b l ws o9 hw) I ⟨zb _,zb _,zb _,t9⟩ I)<|za I (yG I)<|zd<|zI I (by simp [hv])<|zw<|zg<|zh<|zt<|zc I<|zc I<|zp (S:=[]) (zn (con_among b l W o9 hW hs hm) I ⟨zb _,zb _,t9⟩ I)<|ze I<|zR<|zc I<|za I (yk I I)<|zd<|zI I I<|zw<|zg<|zt ?_);refine zc I (zc I<|zc I<|zc I (SWl.e2 (S:=[]) (y7 (e:=4) (n:=b.toNat) Y4 false 1 I I k9 k9 I I o9 o9 o9 d9 I) fun g30=>(SWl.weak 30 I (show Le _ (isD<|.slice (some ⟨g30,0,none⟩) (List.replicate b.toNat false).length b.toNat) from zG (by rw [List.length_replicate]))<|YT 0 30 I I (zb _)<|zp (S:=[]) (zn (jr b l ws W hv hw hW g hg) I ⟨zb _,zb _,zb _,zb _,zb _,t9⟩ I)<|zc I<|za I (zi I I)<|za I (zi I I)<|za I (zi I I)<|ze I<|ze I<|ze I<|zR<|zc I<|ze I<|ze I<|zd<|zF (fn:=Tryz.f37) (fun _ _ h=>h)<|Rs.le (Rs.two I (zo I)<|zo I) ?_)))
 exact zb _
theorem zbP (b:Int) (l:List Co.Cl) (ws:List Co.Wi) (hv:Co.VW b l ws) (hw:ws.length≤1000000):Con Tryz.prog 41 [iD b,lsD z8 l,lsD yJ ws] (Zo [lsD Yl<|Co.slO b l ws,iD<|Co.bst b l ws,iD 0]):=by
 have hn6:=hv.c.n;have hb2:=hv.c.b2;have hb1:=hv.c.b1;have hfl:=fst_len (ws:=ws) hv.c;have hsl:(Co.slO b l ws).length=l.length:=Co.slO_len;refine zZ Tryz.func41 k9 I k9 fun base w0=>(zt<|ze I<|ze I<|ze I<|zd<|zh<|zt<|zc I<|zc I<|zc I<|zp (S:=[]) (zn (qf b l ws o9 hw) I ⟨zb _,zb _,zb _,t9⟩ I)<|za I (yG I)<|zd<|zI I (by simp [hv])<|zw<|zg<|zh<|qA (fun σ=>σ=ya [(1,lsD z8 l),(10,iD<|Co.bst b l ws),(11,lsD z2<|nI<|Co.fst b l ws)] []) ?_ ?_)
 ·refine yf [] (rr [0,1,2,4]<|.n 3 (.n 5 (.n 6 (rr [7,8,9,10,11,12,13] .fin) .no) .no)<|.n 5 (.n 3 (.n 6 (rr [7,8,9,10,11,12,13] .fin) .no) .no) .no) k9 k9 (fun d _ _ _ _ h=>by cases d <;> exact h) (zB I I<|zB I I<|zB I I<|zB I I<|Zb I (zn (zbf l hn6) I ⟨zb _,t9⟩ I) ?_ ?_)
  ·rintro _ rfl;refine Zb I (y7 (e:=4) (n:=b.toNat) Y4 false 1 I I k9 k9 I I o9 o9 o9 d9 I) ?_ yD;rintro _ ⟨g25,rfl⟩;exact WH 25 I (show Le _ (isD<|.slice (some ⟨g25,0,none⟩) (List.replicate b.toNat false).length b.toNat) from zG (by rw [List.length_replicate])) (KC 0 25 I I (zb _)<|yE I (zn (jr b l ws (l.map (·.win)) hv hw (by rw [JO];omega) (fun _=>true) (fun i c hc=>Jo<|JI.2 ⟨c,Jc hc,I⟩)) I ⟨zb _,zb _,zb _,zb _,zb _,t9⟩ I)<|zB I I<|zj I I (zi I I)<|zj I I (zi I I)<|zj I I (zi I I)<|yR I I<|yR I I<|yR I I<|yz<|Zc I<|sB [] I I)
  refine Zb I (y7 (e:=4) (n:=b.toNat) Y4 false 1 I I k9 k9 I I o9 o9 o9 d9 I) ?_ yD;rintro _ ⟨g25,rfl⟩;exact yE I (zn (zbf l hn6) I ⟨zb _,t9⟩ I) (WH 25 I (show Le _ (isD<|.slice (some ⟨g25,0,none⟩) (List.replicate b.toNat false).length b.toNat) from zG (by rw [List.length_replicate]))<|KC 0 25 I I (zb _)<|yE I (zn (jr b l ws (l.map (·.win)) hv hw (by rw [JO];omega) (fun _=>true) (fun i c hc=>Jo<|JI.2 ⟨c,Jc hc,I⟩)) I ⟨zb _,zb _,zb _,zb _,zb _,t9⟩ I)<|zB I I<|zj I I (zi I I)<|zj I I (zi I I)<|zj I I (zi I I)<|yR I I<|yR I I<|yR I I<|yz<|Zc I<|sB [] I I)
 ·rintro _ rfl;refine zg (zt<|ze I<|zd<|zh<|zt<|ze I<|zd<|SW.block<|Yi 83 3 Yl<|z6 (ι:={p:Nat × Wst // p.1≤l.length}) (fun p=>ya [(1,lsD z8 l),(10,iD<|Co.bst b l ws),(11,lsD z2<|nI<|Co.fst b l ws),(12,isD<|.slice p.1.2.A ((Co.slO b l ws).take p.1.1).length p.1.2.c),(13,iD (p.1.1:Int))] [.r p.1.2.F<|yp 83 3 Yl p.1.2.A p.1.2.c<|(Co.slO b l ws).take p.1.1]) (fun p=>l.length - p.1.1) (⟨(0,⟨none,0,[]⟩),JC _⟩) ?_ ?_)
  ·exact (sB [0] I I)
  ·rintro ⟨⟨i,t⟩,hi⟩ K0 hK0;dsimp only at hi ⊢;refine zh (zt<|zc I<|zc I<|za I (zV (e:=3) I k9)<|za I (yb I I)<|zd<|zD I (fun hb33=> ?_) (fun hb33=> ?_))
   ·have h33:(i:Int) < ((nI<|Co.fst b l ws).length:Int):=oT hb33;refine zw (zg<|zh<|SW.block ?_)
    have hil:i < l.length:=by rw [zaJ,hfl] at h33;omega
    obtain ⟨c,hc⟩:∃ c,l[i]? =some c:=⟨_,Je o9⟩;obtain ⟨s,hs1,hs2⟩:=Co.fst_le (ws:=ws) hv.c hc
    refine yf (t.F ++ []) (rr [0,1,2,3,4,5,6,7,8,9,10,11,12,13,14,15]<|.n 16 (.e 17 (.r 18 .fin) .no) .no) k9 k9 (fun d _ _ _ _ h=>by cases d <;> exact h) (zB I I<|zB I I<|zB I I<|zj I I (zQ (e:=61) 2 I I k9 k9 o9 (by simpa using hc))<|zj I I (z1 (n:=0) I k9 (show 0 < 2 by decide))<|zj I I (zJ I I k9<|Ye (j:=0) I ZY)<|zB I I<|zB I I<|zj I I (zQ (e:=3) 1 I I k9 k9 o9 (by rw [J7];unfold nI;rw [JJ,hs1];rfl)) ?_)
    refine zj I I (zJ I I k9<|Ye (j:=0) I ZY) (zB I I<|zB I I<|zj I I (zQ (e:=61) 2 I I k9 k9 o9 (by simpa using hc))<|zj I I (z1 (n:=1) I k9 (show 1 < 2 by decide))<|zj I I (zJ I I k9<|Ye (j:=0) I ZY)<|zj I I (yu I I bldSl)<|yE I (Zg I I (blsSl1 (x:=⟨c.win,(s:Int),c.cnt⟩)) I)<|KD I (YA 0 3 24 I I (ZS (l:=[_]) I) k9 k9 (by rw [List.length_take,List.length_singleton];omega) d9 (fun _ h=>mL _ h) I) ?_ yD);rintro _ ⟨A53,F53,c53,rfl⟩;exact yR I I (yz<|SN.block<|zg<|zf<|zc I<|za I (Rd.add I I ⟨by omega,by omega⟩)<|ze I<|zv (fun aK wK hh=>hK0 (⟨(i + 1,⟨A53,c53,F53⟩),by simp only;omega⟩) (by simp only;omega) aK wK<|hh.sub<|⟨⟨_,I,⟨lq I,⟨lq I,⟨lq I,⟨⟨_,I,zG (by dsimp only;rw [zay<|Co.slO_get hc hs1])⟩,⟨⟨_,I,zG s9⟩,t9⟩⟩⟩⟩⟩⟩,[0],by decide,⟨⟨_,rfl,(by dsimp only;rw [zay<|Co.slO_get hc hs1];exact zL _)⟩,trivial⟩⟩))
   ·have h33:¬(i:Int) < ((nI<|Co.fst b l ws).length:Int):=oF hb33;refine zM ?_
    repeat (first | refine zW ?_ | refine zX d9 ?_)
    refine zY (zg<|zt<|zc I<|zc I<|ze I<|ze I<|ze I<|zd<|SW.freezeT 0 6 I I (by rw [zaJ,hfl] at h33;rw [Ji o9];exact zb _)<|zF (fn:=Tryz.f41) (fun _ _ h=>h)<|Rs.le (qk I (zo I) (zo I)<|zo I) ?_);exact zb _
end
section
def ffew (b:Int) (l:List Co.Cl):Bool:=decide (((l.length≤3∨(l.length=4∧b≤8))∨6 < l.length)∨b≤6)
theorem half {c k:Nat}:((c / 2 ^ k:Nat):Int) / 2=((c / 2 ^ (k + 1):Nat):Int):=by
 rw [XI,← Nat.div_div_eq_div_mul];simp
theorem odd_bt {c i:Nat}:decide (((c / 2 ^ i:Nat):Int) % 2=1)=Co.bt c i:=by
 show _=Nat.testBit c i;rw [Nat.testBit_eq_decide_div_mod_eq,JW];omega
theorem wnr_yes {l:List Co.Cl} {c i:Nat} {x:Co.Cl} (hx:l[i]? =some x) (h:Co.bt c i=true):(Co.mem (i + 1)<|Co.fB c).map (Co.wnO l)=(Co.mem i<|Co.fB c).map (Co.wnO l) ++ [x.win]:=by
 rw [Co.mem_yes (by rw [Co.fB_n];exact h),XG];simp [Co.wnO_get hx]
theorem wnr_no {l:List Co.Cl} {c i:Nat} (h:Co.bt c i=false):(Co.mem (i + 1)<|Co.fB c).map (Co.wnO l)=(Co.mem i<|Co.fB c).map (Co.wnO l):=by rw [Co.mem_no (by rw [Co.fB_n];exact h)]
theorem Yp {f:Nat→Int} {i:Nat}:zC f (i + 1)=zC f i ++ [f i]:=by unfold zC;rw [List.range_succ,XG];rfl
theorem pw2:∀ i≤6,((2 ^ i:Nat):Int) * 2=((2 ^ (i + 1):Nat):Int):=by decide +kernel
theorem bO_at {b:Int} {l:List Co.Cl} {ws:List Co.Wi} {i:Nat} {c:Co.Cl} {s:Nat} (hc:l[i]? =some c) (hs:(Co.fst b l ws)[i]? =some s):Co.bO b l ws i=Co.wish ws c.win (s:Int):=by
 unfold Co.bO;rw [Co.wnO_get hc,Jr,hs];rfl
theorem ic_succ {c i:Nat} {p:Nat→Int}:Co.ic c p (i + 1)=Co.ic c p i + (if Co.bt c i=true then p i else 0):=rfl
theorem oc_succ {c i:Nat} {p:Nat→Int}:Co.oc c p (i + 1)=Co.oc c p i + (if Co.bt c i=true then 0 else p i):=rfl
noncomputable instance (V bd:Nat→Int) (n:Nat) (p:Nat→Int):Decidable (Co.In V bd n p):=Classical.propDecidable _
noncomputable def inB (V bd:Nat→Int) (n:Nat) (p:Nat→Int):Bool:=decide (Co.In V bd n p)
theorem inB_f {V bd:Nat→Int} {n c:Nat} {p:Nat→Int} (hc:c < 2 ^ n) (h:60 * Co.need V bd n c > Co.oc c p n):inB V bd n p=false:=Jd fun hi=>by have:=hi c hc;omega
theorem inB_t {V bd:Nat→Int} {n:Nat} {p:Nat→Int} (h:∀ c < 2 ^ n,¬60 * Co.need V bd n c > Co.oc c p n):inB V bd n p=true:=Jo fun c hc=>by have:=h c hc;omega
theorem inB_iff {V bd:Nat→Int} {n:Nat} (h:Co.Mkt n V bd) {t:Int} (ht:0≤t):inB V bd n (Co.rs bd (Co.vcg V bd n) t)=true↔thT V bd n≤t:=by
 unfold inB;rw [decide_eq_true_iff];exact Co.in_iff h (fun _ _=>YN _) (fun _ _=>Z9 _) ht
theorem con_few40 (b:Int) (l:List Co.Cl) (hl:l.length≤1000000):Con Tryz.prog 31 [iD b,lsD z8 l] (yK<|ffew b l):=by
 refine zZ Tryz.func31 k9 I k9 fun base w0=>(zt<|ze I<|zR<|zc I<|za I (zV (e:=61) I k9)<|za I (ZB I I)<|zc I<|yo 8 I (fun hb8=> ?_) (fun hb8=> ?_))
 ·have h8:(l.length:Int)≤3:=oT hb8;refine zS hb8 (zS hb8<|zS hb8<|zS hb8<|yF I I I I<|yF I I I I<|zS hb8<|za I (zE I hb8 I)<|zc I<|zS I<|zS I<|zS I<|za I (zE I I I)<|zc I<|zS I<|zS I<|za I (zE I I I)<|ze I<|zd<|zF (fn:=Tryz.f31) (fun _ _ h=>h)<|Rs.le (zN I<|zo I) ?_)
  exact z7 (by unfold ffew;symm;first | (apply Jo;omega) | (apply Jd;omega) | (rw [JW];omega))
 ·have h8:¬(l.length:Int)≤3:=oF hb8;refine zT hb8 (zl I) (zT hb8 (zV (e:=61) I k9)<|zT hb8 (yQ I I)<|zT hb8 (zl I)<|yo 12 I (fun hb12=> ?_) (fun hb12=> ?_))
  ·have h12:(l.length:Int)=4:=oT hb12;refine zT hb12 (zl I) (zT hb12 (ZB I I)<|zT hb8 (zE I hb12 I)<|za I (zK I hb8 I)<|zc I<|yo 17 I (fun hb17=> ?_) (fun hb17=> ?_))
   ·have h17:b≤8:=oT hb17;refine zS hb17 (zS hb17<|zS hb17<|za I (zE I hb17 I)<|zc I<|zS I<|zS I<|za I (zE I I I)<|ze I<|zd<|zF (fn:=Tryz.f31) (fun _ _ h=>h)<|Rs.le (zN I<|zo I) ?_)
    exact z7 (by unfold ffew;symm;first | (apply Jo;omega) | (apply Jd;omega) | (rw [JW];omega))
   ·have h17:¬b≤8:=oF hb17;refine zT hb17 (zl I) (zT hb17 (zV (e:=61) I k9)<|zT hb17 (y5 I I)<|za I (zK I hb17 I)<|zc I<|yo 22 I (fun hb22=> ?_) (fun hb22=> ?_))
    ·have h22:(l.length:Int) > 6:=oT hb22;refine zS hb22 (zS hb22<|za I (zE I hb22 I)<|ze I<|zd<|zF (fn:=Tryz.f31) (fun _ _ h=>h)<|Rs.le (zN I<|zo I) ?_)
     exact z7 (by unfold ffew;symm;first | (apply Jo;omega) | (apply Jd;omega) | (rw [JW];omega))
    ·have h22:¬(l.length:Int) > 6:=oF hb22;refine zT hb22 (zl I) (zT hb22 (ZB I I)<|za I (zK I hb22 I)<|ze I<|zd<|zF (fn:=Tryz.f31) (fun _ _ h=>h)<|Rs.le (zN I<|zo I) ?_)
     exact z7 (by unfold ffew;symm;first | (apply Jo;omega) | (apply Jd;omega) | (rw [JW];omega))
  ·have h12:¬(l.length:Int)=4:=oF hb12;refine zS hb12 (zS hb12<|zT hb8 (zK I hb12 I)<|za I (zK I hb8 I)<|zc I<|zT I (zl I)<|zT I (zV (e:=61) I k9)<|zT I (y5 I I)<|za I (zK I I I)<|zc I<|yo 22 I (fun hb22=> ?_) (fun hb22=> ?_))
   ·have h22:(l.length:Int) > 6:=oT hb22;refine zS hb22 (zS hb22<|za I (zE I hb22 I)<|ze I<|zd<|zF (fn:=Tryz.f31) (fun _ _ h=>h)<|Rs.le (zN I<|zo I) ?_)
    exact z7 (by unfold ffew;symm;first | (apply Jo;omega) | (apply Jd;omega) | (rw [JW];omega))
   ·have h22:¬(l.length:Int) > 6:=oF hb22;refine zT hb22 (zl I) (zT hb22 (ZB I I)<|za I (zK I hb22 I)<|ze I<|zd<|zF (fn:=Tryz.f31) (fun _ _ h=>h)<|Rs.le (zN I<|zo I) ?_)
    exact z7 (by unfold ffew;symm;first | (apply Jo;omega) | (apply Jd;omega) | (rw [JW];omega))
theorem Kx (c i:Nat) (hc:c≤1000000) (hi:i≤1000000):Con Tryz.prog 51 [iD (c:Int),iD (i:Int)] (yK<|Co.bt c i):=by
 refine zZ Tryz.func51 k9 I k9 fun base w0=>(zt<|ze I<|zd<|zh<|zt<|ze I<|zd<|SW.block<|z6 (ι:={k:Nat // k≤i}) (fun k=>ya [(0,iD ((c / 2 ^ k.1:Nat):Int)),(1,iD (i:Int)),(5,iD (k.1:Int))] []) (fun k=>i - k.1) (⟨0,JC _⟩) ?_ ?_)
 ·exact ⟨⟨_,I,⟨⟨_,I,zG s9⟩,(sT I)⟩⟩,[],by decide,trivial⟩
 ·rintro ⟨k,hk⟩ K0 hK0;dsimp only at hk ⊢;have hck:=Nat.div_le_self c (2 ^ k)
  generalize hq:c / 2 ^ k=q at hck ⊢
  refine zh (zt<|zc I<|zc I<|za I (yb I I)<|zd<|zD I (fun hb8=> ?_) (fun hb8=> ?_))
  ·have h8:(k:Int) < (i:Int):=oT hb8;exact zw (zg<|zh<|SW.block<|zf<|zc I<|za I (qC I I ⟨by omega,by omega,by omega⟩)<|ze I<|zv<|SN.block<|zg<|zf<|zc I<|za I (Rd.add I I ⟨by omega,by omega⟩)<|ze I<|zv (fun aK wK hh=>hK0 (⟨k + 1,by omega⟩) (by dsimp only;omega) aK wK<|hh.sub<|⟨⟨_,I,⟨⟨_,I,zG (by dsimp only;rw [← half,hq])⟩,⟨lq I,⟨⟨_,I,zG s9⟩,t9⟩⟩⟩⟩,[],by decide,trivial⟩))
  ·have h8:¬(k:Int) < (i:Int):=oF hb8;refine zM ?_
   repeat (first | refine zW ?_ | refine zX d9 ?_)
   refine zY (zg<|zt<|zc I<|za I (VS I I ⟨by omega,by omega⟩)<|za I (yQ I I)<|ze I<|zd<|zF (fn:=Tryz.f51) (fun _ _ h=>h)<|Rs.le (zN I<|zo I) ?_);exact z7 (by rw [← hq,show k=i by omega,odd_bt])
theorem zaa (l:List Co.Cl) (c:Nat) (hl:l.length≤6) (hc:c≤1000000):Con Tryz.prog 38 [lsD z8 l,iD (c:Int)] (lsD z2<|Co.wnr l c):=by
 refine zZ Tryz.func38 k9 I k9 fun base w0=>(zt<|ze I<|zR<|ze I<|zd<|zh<|zt<|ze I<|zd<|SW.block<|Yi 3 1 z2<|z6 (ι:={p:Nat × Wst // p.1≤l.length}) (fun p=>ya [(0,lsD z8 l),(1,iD (c:Int)),(5,isD<|.slice p.1.2.A ((Co.mem p.1.1<|Co.fB c).map<|Co.wnO l).length p.1.2.c),(6,iD (p.1.1:Int))] [.r p.1.2.F<|yp 3 1 z2 p.1.2.A p.1.2.c<|(Co.mem p.1.1<|Co.fB c).map<|Co.wnO l]) (fun p=>l.length - p.1.1) (⟨(0,⟨none,0,[]⟩),JC _⟩) ?_ ?_)
 ·exact (sB [0] I I)
 ·rintro ⟨⟨i,t⟩,hi⟩ K0 hK0;dsimp only at hi ⊢;refine zh (zt<|zc I<|zc I<|za I (zV (e:=61) I k9)<|za I (yb I I)<|zd<|zD I (fun hb10=> ?_) (fun hb10=> ?_))
  ·have h10:(i:Int) < (l.length:Int):=oT hb10;refine zw (zg<|zh<|SW.block<|zh ?_);obtain ⟨x,hx⟩:∃ x,l[i]? =some x:=⟨_,Je o9⟩;refine zf (zc I<|zc I<|zp (S:=[]) (zn (Kx c i hc o9) I ⟨zb _,zb _,t9⟩ I)<|zd<|zD I (fun hb15=> ?_) (fun hb15=> ?_))
   ·skip
    exact zf (zc I<|zc I<|zc I<|za I (zQ (e:=61) 2 I I k9 k9 o9 (by simpa using hx))<|za I (z1 (n:=0) I k9 (show 0 < 2 by decide))<|za I (zJ I I k9 s9)<|zp (S:=[]) (Zg I I Y8 I) (SWl.e4 (YA 0 1 8 I I (ZS (l:=[_]) I) k9 k9 (by have:=Co.mem_len (n:=i) (f:=Co.fB c);rw [List.length_map,List.length_singleton];omega) d9 (fun _ h=>h) I) fun A23 F23 c23=>(ze I<|zv<|SN.block<|zg<|zf<|zc I<|za I (Rd.add I I ⟨by omega,by omega⟩)<|ze I<|zv (fun aK wK hh=>hK0 (⟨(i + 1,⟨A23,c23,F23⟩),by simp only;omega⟩) (by simp only;omega) aK wK<|hh.sub<|⟨⟨_,I,⟨lq I,⟨lq I,⟨⟨_,I,zG (by dsimp only;rw [wnr_yes hx hb15])⟩,⟨⟨_,I,zG s9⟩,t9⟩⟩⟩⟩⟩,[0],by decide,⟨⟨_,rfl,(by dsimp only;rw [wnr_yes hx hb15];exact zL _)⟩,trivial⟩⟩))))
   ·skip
    exact zw (SN.block<|zg<|zf<|zc I<|za I (Rd.add I I ⟨by omega,by omega⟩)<|ze I<|zv (fun aK wK hh=>hK0 (⟨(i + 1,t),by simp only;omega⟩) (by simp only;omega) aK wK<|hh.sub<|⟨⟨_,I,⟨lq I,⟨lq I,⟨⟨_,I,zG (by dsimp only;rw [wnr_no hb15])⟩,⟨⟨_,I,zG s9⟩,t9⟩⟩⟩⟩⟩,[0],by decide,⟨⟨_,rfl,(by dsimp only;rw [wnr_no hb15];exact zL _)⟩,trivial⟩⟩))
  ·have h10:¬(i:Int) < (l.length:Int):=oF hb10;refine zM ?_
   repeat (first | refine zW ?_ | refine zX d9 ?_)
   refine zY (zg<|zt<|zc I<|ze I<|zd<|SW.freezeT 0 4 I I (by rw [show i=l.length by omega];exact zb _)<|zF (fn:=Tryz.f38) (fun _ _ h=>h)<|Rs.le (zN I<|zo I) ?_);exact zb _
theorem Kl (b:Int) (l:List Co.Cl) (ws:List Co.Wi) (hw:ws.length≤1000000) (hv:Co.VW b l ws):Con Tryz.prog 12 [iD b,lsD z8 l,lsD yJ ws] (Zo [lsD z2<|zC (Co.vO b l ws)<|2 ^ l.length,iD 0]):=by
 have hn6:=hv.c.n;have hb2:=hv.c.b2;have hb1:=hv.c.b1;obtain ⟨S,hS⟩:∃ S,S=2 ^ l.length:=⟨_,rfl⟩
 have hS64:S≤64:=by rw [hS];exact Co.pow_le64 hn6
 refine zZ Tryz.func12 k9 I k9 fun base w0=>(zt<|ze I<|ze I<|zd<|zh<|zt<|zc I<|zc I<|zc I<|zp (S:=[]) (zn (qf b l ws o9 hw) I ⟨zb _,zb _,zb _,t9⟩ I)<|za I (yG I)<|zd<|zI I (by simp [hv])<|zw<|zg<|zt<|ze I<|zd<|zh<|zt<|ze I<|zd<|SW.block<|z6 (ι:={k:Nat // k≤l.length}) (fun k=>ya [(0,iD b),(1,lsD z8 l),(2,lsD yJ ws),(8,iD ((2 ^ k.1:Nat):Int)),(9,iD (k.1:Int))] []) (fun k=>l.length - k.1) (⟨0,JC _⟩) ?_ ?_)
 ·exact (sB [] I I)
 ·rintro ⟨k,hk⟩ K0 hK0;dsimp only at hk ⊢;refine zh (zt<|zc I<|zc I<|za I (zV (e:=61) I k9)<|za I (yb I I)<|zd<|zD I (fun hb22=> ?_) (fun hb22=> ?_))
  ·have h22:(k:Int) < (l.length:Int):=oT hb22;refine zw (zg<|zh<|SW.block ?_);have h2k:=pow_64 (i:=k) o9;have h2k0:0 < 2 ^ k:=Nat.pow_pos d9;exact zf (zc I<|za I (Rd.mono (Rd.mul I I ⟨by omega,by omega⟩) (show Le _ (iD ((2 ^ (k + 1):Nat):Int)) from zG (by rw [pw2 k o9])))<|ze I<|zv<|SN.block<|zg<|zf<|zc I<|za I (Rd.add I I ⟨by omega,by omega⟩)<|ze I<|zv (fun aK wK hh=>hK0 (⟨k + 1,by omega⟩) (by dsimp only;omega) aK wK<|hh.sub<|⟨⟨_,I,⟨lq I,⟨lq I,⟨lq I,⟨lq I,⟨⟨_,I,zG s9⟩,t9⟩⟩⟩⟩⟩⟩,[],by decide,trivial⟩))
  ·have h22:¬(k:Int) < (l.length:Int):=oF hb22;refine zM ?_
   repeat (first | refine zW ?_ | refine zX d9 ?_)
   refine zY (zg<|zh<|SW.sub (σ':=ya [(0,_),(1,_),(2,_),(8,iD (S:Int))] []) (⟨⟨_,I,⟨lq I,⟨lq I,⟨lq I,⟨⟨_,I,zG (by rw [hS,show k=l.length by omega])⟩,t9⟩⟩⟩⟩⟩,[],by decide,trivial⟩)<|zf<|ze I<|zd<|zh<|zt<|ze I<|zd<|SW.block<|Yi 3 1 z2<|z6 (ι:={p:Nat × Wst // p.1≤S}) (fun p=>ya [(0,iD b),(1,lsD z8 l),(2,lsD yJ ws),(8,iD (S:Int)),(10,isD<|.slice p.1.2.A (zC (Co.vO b l ws) p.1.1).length p.1.2.c),(11,iD (p.1.1:Int))] [.r p.1.2.F<|yp 3 1 z2 p.1.2.A p.1.2.c<|zC (Co.vO b l ws) p.1.1]) (fun p=>S - p.1.1) (⟨(0,⟨none,0,[]⟩),JC _⟩) ?_ ?_)
   ·exact (sB [0] I I)
   ·rintro ⟨⟨i,t⟩,hi⟩ K1 hK1;dsimp only at hi ⊢;refine zh (zt<|zc I<|zc I<|za I (yb I I)<|zd<|zD I (fun hb29=> ?_) (fun hb29=> ?_))
    ·have h29:(i:Int) < (S:Int):=oT hb29;exact zw (zg<|zh<|SW.block<|zt<|zc I<|zc I<|zc I<|zc I<|zc I<|zp (S:=[]) (zn (zaa l i hn6 o9) I ⟨zb _,zb _,t9⟩ I)<|zp (S:=[]) (zn (con_bestR b l ws (Co.wnr l i) hv hw (by have:=Co.wnr_len (l:=l) (c:=i);omega) (Co.bt i) (Co.wnr_bt hv.c) (Co.wnr_sorted hv.c)<|Co.wnr_mem hv.c) I ⟨zb _,zb _,zb _,zb _,t9⟩ I)<|zc I<|za I (zi I I)<|za I (zi I I)<|ze I<|ze I<|zd<|zf<|zc I<|zc I<|zp (S:=[]) (Zg I I Y8 I) (SWl.e4 (YA 0 1 8 I I (ZS (l:=[_]) I) k9 k9 (by rw [ye,List.length_singleton];omega) d9 (fun _ h=>h) I) fun A45 F45 c45=>(ze I<|zv<|SN.block<|zg<|zf<|zc I<|za I (Rd.add I I ⟨by omega,by omega⟩)<|ze I<|zv (fun aK wK hh=>hK1 (⟨(i + 1,⟨A45,c45,F45⟩),by simp only;omega⟩) (by simp only;omega) aK wK<|hh.sub<|⟨⟨_,I,⟨lq I,⟨lq I,⟨lq I,⟨lq I,⟨⟨_,I,zG (by dsimp only;rw [Yp];rfl)⟩,⟨⟨_,I,zG s9⟩,t9⟩⟩⟩⟩⟩⟩⟩,[0],by decide,⟨⟨_,rfl,(by dsimp only;rw [Yp];exact zL _)⟩,trivial⟩⟩))))
    ·have h29:¬(i:Int) < (S:Int):=oF hb29;refine zM ?_
     repeat (first | refine zW ?_ | refine zX d9 ?_)
     refine zY (zg<|zt<|zc I<|ze I<|ze I<|zd<|SW.freezeT 0 6 I I (by rw [show i=S by omega,hS];exact zb _)<|zF (fn:=Tryz.f12) (fun _ _ h=>h)<|Rs.le (Rs.two I (zo I)<|zo I) ?_);exact zb _
theorem Wr (b:Int) (l:List Co.Cl) (ws:List Co.Wi) (hw:ws.length≤1000000) (hl:l.length≤1000000) (hv:¬Co.VW b l ws):Con Tryz.prog 12 [iD b,lsD z8 l,lsD yJ ws] (Zo [lsD z2 [],iD 2]):=by
 refine zZ Tryz.func12 k9 I k9 fun base w0=>(zt<|ze I<|ze I<|zd<|zh<|zt<|zc I<|zc I<|zc I<|zp (S:=[]) (zn (qf b l ws hl hw) I ⟨zb _,zb _,zb _,t9⟩ I)<|za I (yG I)<|zd<|yg I (by simp [hv])<|zt<|ze I<|ze I<|zd<|zF (fn:=Tryz.f12) (fun _ _ h=>h)<|Rs.le (Rs.two I (zo I)<|zo I) ?_);exact yW ⟨ZV,zb _,t9⟩
theorem WD (b:Int) (l:List Co.Cl) (ws:List Co.Wi) (hw:ws.length≤1000000) (hv:Co.VW b l ws):Con Tryz.prog 15 [iD b,lsD z8 l,lsD yJ ws] (Zo [lsD z2<|zC (Co.bO b l ws) l.length,iD 0]):=by
 have hn6:=hv.c.n;have hb2:=hv.c.b2;have hb1:=hv.c.b1;have hsl:(Co.slO b l ws).length=l.length:=Co.slO_len
 generalize hS:Co.slO b l ws=S at hsl
 refine zZ Tryz.func15 k9 I k9 fun base w0=>(zt<|ze I<|ze I<|zR<|zc I<|zc I<|zc I<|zp (S:=[]) (zn (zbP b l ws hv hw) I ⟨zb _,zb _,zb _,t9⟩ I)<|zc I<|za I (zi I I)<|za I (zi I I)<|za I (zi I I)<|ze I<|ze I<|ze I<|zd<|zh<|zt<|zc I<|za I (yk I I)<|zd<|zI I I<|zw<|zg<|zh<|SW.sub (σ':=ya [(2,_),(8,lsD Yl S)] []) (⟨⟨_,I,⟨lq I,⟨⟨_,I,(by rw [hS];exact zb _)⟩,t9⟩⟩⟩,[],by decide,trivial⟩)<|zf<|ze I<|zd<|zh<|zh ?_);refine zf (ze I<|zd<|SW.block<|Yi 3 1 z2<|z6 (ι:={p:Nat × Wst // p.1≤l.length}) (fun p=>ya [(2,lsD yJ ws),(8,lsD Yl S),(11,isD<|.slice p.1.2.A (zC (Co.bO b l ws) p.1.1).length p.1.2.c),(12,iD (p.1.1:Int))] [.r p.1.2.F<|yp 3 1 z2 p.1.2.A p.1.2.c<|zC (Co.bO b l ws) p.1.1]) (fun p=>l.length - p.1.1) (⟨(0,⟨none,0,[]⟩),JC _⟩) ?_ ?_)
 ·exact (sB [0] I I)
 ·rintro ⟨⟨i,t⟩,hi⟩ K0 hK0;dsimp only at hi ⊢;refine zh (zt<|zc I<|zc I<|za I (zV (e:=83) I k9)<|za I (yb I I)<|zd<|zD I (fun hb27=> ?_) (fun hb27=> ?_))
  ·have h27:i < l.length:=by have h:=oT hb27;omega
   refine zw (zg<|zh<|SW.block ?_);obtain ⟨c,hc⟩:∃ c,l[i]? =some c:=⟨_,Je o9⟩;obtain ⟨s,p,hs1,hs2,hs3,hpw,hps,hpc⟩:=slO_at (ws:=ws) hv.c hc;rw [hS] at hs3
   refine yf (t.F ++ []) (rr [0,1,2,3,4,5,6,7,8,9,10,11]<|.n 12 (.n 13 (.e 14 (.r 15 .fin) .no) .no) .no) k9 k9 (fun d _ _ _ _ h=>by cases d <;> exact h) (zB I I<|zB I I<|zB I I<|zB I I<|zj I I (zQ (e:=83) 3 I I k9 k9 o9 (by simpa using hs3))<|zj I I (z1 (n:=0) I k9 (show 0 < 3 by decide))<|zj I I (zJ I I k9<|Ye (j:=0) I ZY)<|zB I I<|zB I I<|zj I I (zQ (e:=83) 3 I I k9 k9 o9 (by simpa using hs3))<|zj I I (z1 (n:=1) I k9 (show 1 < 3 by decide))<|zj I I (zJ I I k9<|Ye (j:=0) I ZY)<|yE I (zn (za5 ws p.win p.st hw) I ⟨zb _,zb _,zb _,t9⟩ I)<|yE I (Zg I I Y8 I)<|KD I (YA 0 1 8 I I (ZS (l:=[_]) I) k9 k9 (by rw [ye,Xq];omega) d9 (fun _ h=>mL _ h) I) ?_ yD)
   rintro _ ⟨A44,F44,c44,rfl⟩;exact yR I I (yz<|SN.block<|zg<|zf<|zc I<|za I (Rd.add I I ⟨by omega,by omega⟩)<|ze I<|zv (fun aK wK hh=>hK0 (⟨(i + 1,⟨A44,c44,F44⟩),by simp only;omega⟩) (by simp only;omega) aK wK<|hh.sub<|⟨⟨_,I,⟨lq I,⟨lq I,⟨⟨_,I,zG (by dsimp only;rw [Yp,bO_at hc hs1,← hpw,← hps])⟩,⟨⟨_,I,zG s9⟩,t9⟩⟩⟩⟩⟩,[0],by decide,⟨⟨_,rfl,(by dsimp only;rw [Yp,bO_at hc hs1,← hpw,← hps];exact zL _)⟩,trivial⟩⟩))
  ·have h27:¬i < l.length:=by have h:=oF hb27;omega
   refine zM ?_
   repeat (first | refine zW ?_ | refine zX d9 ?_)
   refine zY (zg<|zt<|zc I<|ze I<|ze I<|zd<|SW.freezeT 0 6 I I (by rw [show i=l.length by omega];exact zb _)<|zF (fn:=Tryz.f15) (fun _ _ h=>h)<|Rs.le (Rs.two I (zo I)<|zo I) ?_);exact zb _
