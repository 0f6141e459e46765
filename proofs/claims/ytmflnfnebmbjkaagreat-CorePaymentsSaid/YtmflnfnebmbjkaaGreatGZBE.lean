/- REFERENCE 39: Search, Solve, Best. REFERENCE 40: Few, Has, Winners, Values, Bids. -/
import Derived.Test.YtmflnfnebmbjkaaGreatGZBD
set_option maxHeartbeats 8000000
set_option maxRecDepth 100000
namespace Go.Proofs.YtmflnfnebmbjkaaGreat
open Go.RowKit
namespace Sx
section
theorem Kv (b:Int) (l:List Co.Cl) (ws:List Co.Wi) (W:List Int) (hv:Co.VW b l ws) (hw:ws.length≤1000000) (hW:W.length≤1000000) (g:Nat→Bool) (hg:∀ (i:Nat) c,l[i]? =some c→decide (c.win∈W)=g i) (k:Nat) (hk:k≤l.length) (u:List Bool) (hu:(u.length:Int)=b) (ih:k < l.length→∀ u2:List Bool,(u2.length:Int)=b→Con Tryz.prog 80 [lsD yc l,lsD yJ ws,lsD z2 W,iD<|(k:Int) + 1,lsD Y6 u2] (srD<|Co.srch ((Co.cs l ws g).drop<|k + 1) u2)):Con Tryz.prog 80 [lsD yc l,lsD yJ ws,lsD z2 W,iD (k:Int),lsD Y6 u] (srD<|Co.srch ((Co.cs l ws g).drop k) u):=by
 have hn6:=hv.c.n;have hb2:=hv.c.b2;have hb1:=hv.c.b1;refine z6 Tryz.func80 k9 I k9 fun base w0=>(zp<|zd I<|zd I<|zd I<|ze<|zh<|zp<|zc I<|zc I<|za I (zY (e:=61) I k9)<|za I (yS I I)<|ze<|zD I (fun hb23=> ?_) (fun hb23=> ?_))
 ·have hkl:k=l.length:=by (have h:=oT hb23;omega)
  refine zp (zd I<|zd I<|zd I<|ze<|zG (fn:=Tryz.f80) (fun _ _ h=>h)<|Rs.le (qm I (zo I) (zo I)<|zo I) ?_);subst hkl;rw [drop_nil];exact yX ⟨zb _,zb _,ZF,trivial⟩
 ·skip
  refine zw (zg<|zp<|zd I<|zd I<|ze<|zh ?_)
  have hkl:k < l.length:=by (have h:=hb23;simp at h;omega)
  obtain ⟨x,hx⟩:∃ x,l[k]? =some x:=⟨_,Je hkl⟩;have hxc:=hv.c.cnt hx;have hx1:=(hv.c.ok k x hx).2.2
  refine SW.sub (σ':=z8 [(0,_),(1,_),(2,_),(3,_),(4,_),(13,_),(14,_)] []) (sB [] I I) (zf<|zd I<|ze<|zh<|zp<|zd I<|ze<|SW.block<|z1 (ι:={s:Nat // s≤u.length + 1 - x.cnt.toNat}) (fun s=>z8 [(0,lsD yc l),(1,lsD yJ ws),(2,lsD z2 W),(3,iD (k:Int)),(4,lsD Y6 u),(13,yK (Co.srN (Co.srch<|(Co.cs l ws g).drop<|k + 1) x.cnt.toNat (fun s:Nat=>if g k then Co.wish ws x.win (s:Int) else 0) u s.1).1),(14,iD (Co.srN (Co.srch<|(Co.cs l ws g).drop<|k + 1) x.cnt.toNat (fun s:Nat=>if g k then Co.wish ws x.win (s:Int) else 0) u s.1).2.1),(15,lsD z2<|nI (Co.srN (Co.srch<|(Co.cs l ws g).drop<|k + 1) x.cnt.toNat (fun s:Nat=>if g k then Co.wish ws x.win (s:Int) else 0) u s.1).2.2),(16,iD (s.1:Int))] []) (fun s=>u.length + 1 - x.cnt.toNat - s.1) (⟨0,JC _⟩) ?_ ?_)
  ·exact ⟨⟨_,I,⟨lq I,⟨lq I,⟨lq I,⟨lq I,⟨lq I,⟨lq I,⟨lq I,⟨⟨_,I,ZF⟩,⟨lq I,t9⟩⟩⟩⟩⟩⟩⟩⟩⟩⟩,[],by decide,trivial⟩
  ·rintro ⟨s,hs⟩ K0 hK0;dsimp only at hs ⊢;refine zh (zp<|zc I<|zc I<|za I (zY (e:=4) I k9)<|zc I<|zc I<|za I (zQ (e:=61) 2 I I k9 k9 o9 (by simpa using hx))<|za I (z7 (n:=1) I k9 (show 1 < 2 by decide))<|za I (zK I I k9 s9)<|za I (yl I I ⟨by omega,by omega⟩)<|za I (ZC I I)<|ze<|zD I (fun hb33=> ?_) (fun hb33=> ?_))
   ·have h33:=oT hb33;refine zw (zg<|zh<|SW.block<|zh<|zh ?_)
    have hs2:s + x.cnt.toNat≤u.length:=by omega
    refine zf (zc I<|zc I<|zc I<|zc I<|za I (zQ (e:=61) 2 I I k9 k9 o9 (by simpa using hx))<|za I (z7 (n:=1) I k9 (show 1 < 2 by decide))<|za I (zK I I k9 s9)<|zq (S:=[]) (zn (con_free u s x.cnt.toNat o9 o9) I ⟨zb _,zb _,zE (by congr 1;omega),t9⟩ I)<|za I (yF I)<|ze<|zD I (fun hb44=> ?_) (fun hb44=> ?_))
    ·skip
     refine zL ?_
     repeat (first | refine zV ?_ | refine zW d9 ?_)
     exact zX (zg<|zf<|zc I<|za I (Rd.add I I ⟨by omega,by omega⟩)<|zd I<|zv (fun aK wK hh=>hK0 (⟨s + 1,by omega⟩) (by dsimp only;omega) aK wK<|hh.sub<|⟨⟨_,I,⟨lq I,⟨lq I,⟨lq I,⟨lq I,⟨lq I,⟨⟨_,I,zE (by dsimp only;rw [qT (fun h=>by rw [h.1] at hb44;cases hb44)])⟩,⟨⟨_,I,zE (by dsimp only;rw [qT (fun h=>by rw [h.1] at hb44;cases hb44)])⟩,⟨⟨_,I,(by dsimp only;rw [qT (fun h=>by rw [h.1] at hb44;cases hb44)];exact zb _)⟩,⟨⟨_,I,zE s9⟩,t9⟩⟩⟩⟩⟩⟩⟩⟩⟩⟩,[],by decide,trivial⟩))
    ·skip
     refine zw (zg<|zh ?_)
     have hf:Co.free u s x.cnt.toNat=true:=by simpa using hb44
     have hqb:=srch_bd ((Co.cs l ws g).drop<|k + 1) (Co.mk u s x.cnt.toNat) (cs_bd hv)
     have hql:((Co.cs l ws g).drop<|k + 1).length≤6:=by rw [JA,Co.cs_len];omega
     have hwb:=Co.wish_le hv x.win (s:Int)
     refine zf (zc I<|zc I<|zc I<|zc I<|za I (Rd.add I I ⟨by omega,by omega⟩)<|zc I<|zc I<|zc I<|zc I<|za I (zQ (e:=61) 2 I I k9 k9 o9 (by simpa using hx))<|za I (z7 (n:=1) I k9 (show 1 < 2 by decide))<|za I (zK I I k9 s9)<|zq (S:=[]) (zn (con_mark u s x.cnt.toNat o9 o9) I ⟨zb _,zb _,zE (by congr 1;omega),t9⟩ I)<|zq (S:=[]) (zn (ih o9 (Co.mk u s x.cnt.toNat) (by rw [Co.mk_len];exact hu)) I ⟨zb _,zb _,zb _,zb _,zb _,t9⟩ I)<|zc I<|za I (zi I I)<|za I (zi I I)<|za I (zi I I)<|zd I<|zd I<|zd I<|ze<|zh<|qF (fun σ=>σ=z8 [(0,lsD yc l),(1,lsD yJ ws),(2,lsD z2 W),(3,iD (k:Int)),(4,lsD Y6 u),(13,yK (Co.srN (Co.srch<|(Co.cs l ws g).drop<|k + 1) x.cnt.toNat (fun s:Nat=>if g k then Co.wish ws x.win (s:Int) else 0) u s).1),(14,iD (Co.srN (Co.srch<|(Co.cs l ws g).drop<|k + 1) x.cnt.toNat (fun s:Nat=>if g k then Co.wish ws x.win (s:Int) else 0) u s).2.1),(15,lsD z2<|nI (Co.srN (Co.srch<|(Co.cs l ws g).drop<|k + 1) x.cnt.toNat (fun s:Nat=>if g k then Co.wish ws x.win (s:Int) else 0) u s).2.2),(16,iD (s:Int)),(17,yK ((Co.srch<|(Co.cs l ws g).drop<|k + 1)<|Co.mk u s x.cnt.toNat).1),(18,iD<|((Co.srch<|(Co.cs l ws g).drop<|k + 1)<|Co.mk u s x.cnt.toNat).2.1 + (fun s:Nat=>if g k then Co.wish ws x.win (s:Int) else 0) s),(19,lsD z2<|nI ((Co.srch<|(Co.cs l ws g).drop<|k + 1)<|Co.mk u s x.cnt.toNat).2.2)] []) ?_ ?_)
     ·skip
      refine zp (zc I<|zc I<|zc I<|za I (zQ (e:=61) 2 I I k9 k9 o9 (by simpa using hx))<|za I (z7 (n:=0) I k9 (show 0 < 2 by decide))<|za I (zK I I k9 s9)<|zq (S:=[]) (zn (con_has39 W x.win hW) I ⟨zb _,zb _,t9⟩ I)<|ze<|zD I (fun hb69=> ?_) (fun hb69=> ?_))
      ·skip
       exact zf (zc I<|zc I<|zc I<|zc I<|za I (zQ (e:=61) 2 I I k9 k9 o9 (by simpa using hx))<|za I (z7 (n:=0) I k9 (show 0 < 2 by decide))<|za I (zK I I k9 s9)<|zc I<|zq (S:=[]) (zn (zbc ws x.win (s:Int) hw) I ⟨zb _,zb _,zb _,t9⟩ I)<|za I (Rd.add I I ⟨by omega,by omega⟩)<|zd I<|zv<|Zd I<|⟨⟨_,I,⟨lq I,⟨lq I,⟨lq I,⟨lq I,⟨lq I,⟨lq I,⟨lq I,⟨lq I,⟨lq I,⟨lq I,⟨⟨_,I,zE (by dsimp only;rw [if_pos (by rw [← hg k x hx];exact hb69)])⟩,⟨lq I,t9⟩⟩⟩⟩⟩⟩⟩⟩⟩⟩⟩⟩⟩,[],by decide,trivial⟩)
      ·skip
       exact zw (Zd I<|⟨⟨_,I,⟨lq I,⟨lq I,⟨lq I,⟨lq I,⟨lq I,⟨lq I,⟨lq I,⟨lq I,⟨lq I,⟨lq I,⟨⟨_,I,zE (by dsimp only;rw [if_neg (by rw [← hg k x hx,hb69];decide)];simp)⟩,⟨lq I,t9⟩⟩⟩⟩⟩⟩⟩⟩⟩⟩⟩⟩⟩,[],by decide,trivial⟩)
     ·rintro _ rfl;refine zg (zp<|zc I<|zc I<|yn 81 I (fun hb81=> ?_) (fun hb81=> ?_))
      ·skip
       refine zU hb81 (zl I) (zU hb81 (yF I)<|zU hb81 (zl I)<|yn 84 I (fun hb84=> ?_) (fun hb84=> ?_))
       ·skip
        exact zR hb84 (zR hb84<|zR hb84<|zU hb81 (zF I hb84 I)<|za I (zF I hb81 I)<|ze<|yg I I<|zf<|zc I<|zc I (SWl.e2 (S:=[]) (Ef.litO (e:=3) (enc:=z2) (l:=[(s:Int)]) 1 I I I d9 (fun L w vs hv=>by obtain ⟨u,rfl,rfl⟩:=WL hv;exact ⟨[_],(show All L w [iD _] [_] from ⟨rfl,trivial⟩),fun w'=>by kernel_rfl⟩) I) fun g92=>(zc I (SWl.e4 (Z9 0 1 8 I I (ZL I) k9 k9 (by have h1:=Vr ((Co.cs l ws g).drop<|k + 1) (Co.mk u s x.cnt.toNat);rw [zaQ,List.length_singleton];omega) d9 (fun _ h=>h) I) fun A94 F94 c94=>(YW 0 94 I I (zb _)<|zd I<|zd I<|zd I<|zv<|SN.block<|zg<|zf<|zc I<|za I (Rd.add I I ⟨by omega,by omega⟩)<|zd I<|zv (fun aK wK hh=>hK0 (⟨s + 1,by omega⟩) (by dsimp only;omega) aK wK<|hh.sub<|⟨⟨_,I,⟨lq I,⟨lq I,⟨lq I,⟨lq I,⟨lq I,⟨⟨_,I,zE (by dsimp only;rw [jm hf hb81<|.inl (by simpa using hb84)])⟩,⟨⟨_,I,zE (by dsimp only;rw [jm hf hb81<|.inl (by simpa using hb84)])⟩,⟨⟨_,I,(by dsimp only;rw [jm hf hb81<|.inl (by simpa using hb84)];exact zb _)⟩,⟨⟨_,I,zE s9⟩,t9⟩⟩⟩⟩⟩⟩⟩⟩⟩⟩,[],by decide,trivial⟩))))))
       ·skip
        refine zU hb84 (zl I) (zU hb84 (zl I)<|zU hb84 (y6 I I)<|zU hb81 (zM I hb84 I)<|za I (zF I hb81 I)<|ze<|zD I (fun hb89=> ?_) (fun hb89=> ?_))
        ·have hlt:=oT hb89;exact zf (zc I<|zc I (SWl.e2 (S:=[]) (Ef.litO (e:=3) (enc:=z2) (l:=[(s:Int)]) 1 I I I d9 (fun L w vs hv=>by obtain ⟨u,rfl,rfl⟩:=WL hv;exact ⟨[_],(show All L w [iD _] [_] from ⟨rfl,trivial⟩),fun w'=>by kernel_rfl⟩) I) fun g92=>(zc I (SWl.e4 (Z9 0 1 8 I I (ZL I) k9 k9 (by have h1:=Vr ((Co.cs l ws g).drop<|k + 1) (Co.mk u s x.cnt.toNat);rw [zaQ,List.length_singleton];omega) d9 (fun _ h=>h) I) fun A94 F94 c94=>(YW 0 94 I I (zb _)<|zd I<|zd I<|zd I<|zv<|SN.block<|zg<|zf<|zc I<|za I (Rd.add I I ⟨by omega,by omega⟩)<|zd I<|zv (fun aK wK hh=>hK0 (⟨s + 1,by omega⟩) (by dsimp only;omega) aK wK<|hh.sub<|⟨⟨_,I,⟨lq I,⟨lq I,⟨lq I,⟨lq I,⟨lq I,⟨⟨_,I,zE (by dsimp only;rw [jm hf hb81<|.inr hlt])⟩,⟨⟨_,I,zE (by dsimp only;rw [jm hf hb81<|.inr hlt])⟩,⟨⟨_,I,(by dsimp only;rw [jm hf hb81<|.inr hlt];exact zb _)⟩,⟨⟨_,I,zE s9⟩,t9⟩⟩⟩⟩⟩⟩⟩⟩⟩⟩,[],by decide,trivial⟩))))))
        ·have hlt:=oF hb89;exact zw (SN.block<|zg<|zf<|zc I<|za I (Rd.add I I ⟨by omega,by omega⟩)<|zd I<|zv (fun aK wK hh=>hK0 (⟨s + 1,by omega⟩) (by dsimp only;omega) aK wK<|hh.sub<|⟨⟨_,I,⟨lq I,⟨lq I,⟨lq I,⟨lq I,⟨lq I,⟨⟨_,I,zE (by dsimp only;rw [qT (fun h=>h.2.2.elim (fun h=>by simp [h] at hb84) hlt)])⟩,⟨⟨_,I,zE (by dsimp only;rw [qT (fun h=>h.2.2.elim (fun h=>by simp [h] at hb84) hlt)])⟩,⟨⟨_,I,(by dsimp only;rw [qT (fun h=>h.2.2.elim (fun h=>by simp [h] at hb84) hlt)];exact zb _)⟩,⟨⟨_,I,zE s9⟩,t9⟩⟩⟩⟩⟩⟩⟩⟩⟩⟩,[],by decide,trivial⟩))
      ·skip
       exact zR hb81 (zR hb81<|zR hb81<|yG I I I I<|yG I I I I<|yG I I I I<|zR hb81<|za I (zM I hb81 I)<|ze<|zJ I I<|zw<|SN.block<|zg<|zf<|zc I<|za I (Rd.add I I ⟨by omega,by omega⟩)<|zd I<|zv (fun aK wK hh=>hK0 (⟨s + 1,by omega⟩) (by dsimp only;omega) aK wK<|hh.sub<|⟨⟨_,I,⟨lq I,⟨lq I,⟨lq I,⟨lq I,⟨lq I,⟨⟨_,I,zE (by dsimp only;rw [qT (fun h=>by rw [h.2.1] at hb81;cases hb81)])⟩,⟨⟨_,I,zE (by dsimp only;rw [qT (fun h=>by rw [h.2.1] at hb81;cases hb81)])⟩,⟨⟨_,I,(by dsimp only;rw [qT (fun h=>by rw [h.2.1] at hb81;cases hb81)];exact zb _)⟩,⟨⟨_,I,zE s9⟩,t9⟩⟩⟩⟩⟩⟩⟩⟩⟩⟩,[],by decide,trivial⟩))
   ·have h33:=oF hb33;refine zL ?_
    repeat (first | refine zV ?_ | refine zW d9 ?_)
    refine zX (zg<|zp<|zc I<|zc I<|zc I<|zd I<|zd I<|zd I<|ze<|zG (fn:=Tryz.f80) (fun _ _ h=>h)<|Rs.le (qm I (zo I) (zo I)<|zo I) ?_);rw [drop_cs hx,show u.length + 1 - x.cnt.toNat=s by omega];exact zb _
theorem Kt (b:Int) (l:List Co.Cl) (ws:List Co.Wi) (W:List Int) (hv:Co.VW b l ws) (hw:ws.length≤1000000) (hW:W.length≤1000000) (g:Nat→Bool) (hg:∀ (i:Nat) c,l[i]? =some c→decide (c.win∈W)=g i):∀ (m k:Nat),k + m=l.length→∀ u:List Bool,(u.length:Int)=b→Con Tryz.prog 80 [lsD yc l,lsD yJ ws,lsD z2 W,iD (k:Int),lsD Y6 u] (srD<|Co.srch ((Co.cs l ws g).drop k) u)
 | 0,k,h,u,hu=>Kv b l ws W hv hw hW g hg k o9 u hu fun h2=>absurd h2 o9
 | m + 1,k,h,u,hu=>Kv b l ws W hv hw hW g hg k o9 u hu fun _ u2 hu2=>Kt b l ws W hv hw hW g hg m (k + 1) o9 u2 hu2
theorem jt (b:Int) (l:List Co.Cl) (ws:List Co.Wi) (W:List Int) (hv:Co.VW b l ws) (hw:ws.length≤1000000) (hW:W.length≤1000000) (g:Nat→Bool) (hg:∀ (i:Nat) c,l[i]? =some c→decide (c.win∈W)=g i):Con Tryz.prog 80 [lsD yc l,lsD yJ ws,lsD z2 W,iD 0,lsD Y6<|List.replicate b.toNat false] (srD<|Co.srch (Co.cs l ws g)<|List.replicate b.toNat false):=
 Kt b l ws W hv hw hW g hg l.length 0 o9 _ (by rw [List.length_replicate];have:=hv.c.b1;omega)
theorem WM {P:Program} {Γ:Cx} {σ:St} {l:List Oper} {Q:Exit→Act→World→Prop} {S:LN} {tz:Reg.Tz} {d:D} (i:Nat) {d':D} (hi:σ.tm i=some d) (hl:Le d d') (h:SWz P Γ l Q S tz (σ.put i d')):SWz P Γ l Q S tz σ:=fun a w hh=>h a w (hh.weak hi hl)
theorem blsSl1 {x:Co.Sl}:Bls Tryz.prog 75 1 [0] [Yq<|Yp x] ([x].flatMap Yp):=⟨83,fun L w vs hv=>by
 obtain ⟨u,rfl,cs,rfl,hc⟩:=WL hv
 match cs,hc with
 | [a,b,c],hc=>
  obtain ⟨rfl,rfl,rfl,-⟩:=hc
  exact ⟨[.int .i64 x.win,.int .i64 x.st,.int .i64 x.cnt],⟨I,I,I,t9⟩,fun w'=>by kernel_rfl⟩⟩
theorem zaF {b:Int} {l:List Co.Cl} {ws:List Co.Wi} {i:Nat} {x:Co.Sl} (h:(Co.slO b l ws)[i]? =some x):(Co.slO b l ws).take (i + 1)=(Co.slO b l ws).take i ++ [x]:=by rw [List.take_add_one,h];rfl
theorem fst_len {b:Int} {l:List Co.Cl} {ws:List Co.Wi} (hv:Co.VC b l):(Co.fst b l ws).length=l.length:=(Co.fst_fits (ws:=ws) (g:=fun _=>true) hv).2
theorem con_bestR (b:Int) (l:List Co.Cl) (ws:List Co.Wi) (W:List Int) (hv:Co.VW b l ws) (hw:ws.length≤1000000) (hW:W.length≤1000000) (g:Nat→Bool) (hg:∀ (i:Nat) c,l[i]? =some c→decide (c.win∈W)=g i) (hs:∀ (i:Nat) x y,W[i]? =some x→W[i + 1]? =some y→x < y) (hm:∀ (i:Nat) x,W[i]? =some x→∃ m,Co.fC l x=some m):Con Tryz.prog 37 [iD b,lsD yc l,lsD yJ ws,lsD z2 W] (Zq [iD (Co.srch (Co.cs l ws g)<|List.replicate b.toNat false).2.1,iD 0]):=by
 have hn6:=hv.c.n;have hb2:=hv.c.b2;have hb1:=hv.c.b1;refine z6 Tryz.func37 k9 I k9 fun base w0=>(zp<|zd I<|zd I<|ze<|zh<|zp<|zc I<|zc I<|zc I<|zq (S:=[]) (zn (qi b l ws o9 hw) I ⟨zb _,zb _,zb _,t9⟩ I)<|za I (yF I)<|ze<|zJ I (by simp [hv])<|zw<|zg<|zh<|zp<|zc I<|zc I<|zq (S:=[]) (zn (con_among b l W o9 hW hs hm) I ⟨zb _,zb _,t9⟩ I)<|zd I<|zS<|zc I<|za I (yj I I)<|ze<|zJ I I<|zw<|zg<|zp ?_);refine zc I (zc I<|zc I<|zc I (SWl.e2 (S:=[]) (y8 (e:=4) (n:=b.toNat) Y6 false 1 I I k9 k9 I I o9 o9 o9 d9 I) fun g30=>(SWl.weak 30 I (show Le _ (isD<|.slice (some ⟨g30,0,none⟩) (List.replicate b.toNat false).length b.toNat) from zE (by rw [List.length_replicate]))<|YW 0 30 I I (zb _)<|zq (S:=[]) (zn (jt b l ws W hv hw hW g hg) I ⟨zb _,zb _,zb _,zb _,zb _,t9⟩ I)<|zc I<|za I (zi I I)<|za I (zi I I)<|za I (zi I I)<|zd I<|zd I<|zd I<|zS<|zc I<|zd I<|zd I<|ze<|zG (fn:=Tryz.f37) (fun _ _ h=>h)<|Rs.le (Rs.two I (zo I)<|zo I) ?_)))
 exact zb _
theorem zbV (b:Int) (l:List Co.Cl) (ws:List Co.Wi) (hv:Co.VW b l ws) (hw:ws.length≤1000000):Con Tryz.prog 41 [iD b,lsD yc l,lsD yJ ws] (Zq [lsD Yp<|Co.slO b l ws,iD<|Co.bst b l ws,iD 0]):=by
 have hn6:=hv.c.n;have hb2:=hv.c.b2;have hb1:=hv.c.b1;have hfl:=fst_len (ws:=ws) hv.c;have hsl:(Co.slO b l ws).length=l.length:=Co.slO_len;refine z6 Tryz.func41 k9 I k9 fun base w0=>(zp<|zd I<|zd I<|zd I<|ze<|zh<|zp<|zc I<|zc I<|zc I<|zq (S:=[]) (zn (qi b l ws o9 hw) I ⟨zb _,zb _,zb _,t9⟩ I)<|za I (yF I)<|ze<|zJ I (by simp [hv])<|zw<|zg<|zh<|qF (fun σ=>σ=z8 [(1,lsD yc l),(10,iD<|Co.bst b l ws),(11,lsD z2<|nI<|Co.fst b l ws)] []) ?_ ?_)
 ·refine yf [] (rr [0,1,2,4]<|.n 3 (.n 5 (.n 6 (rr [7,8,9,10,11,12,13] .fin) .no) .no)<|.n 5 (.n 3 (.n 6 (rr [7,8,9,10,11,12,13] .fin) .no) .no) .no) k9 k9 (fun d _ _ _ _ h=>by cases d <;> exact h) (zC I I<|zC I I<|zC I I<|zC I I<|Zc I (zn (zbl l hn6) I ⟨zb _,t9⟩ I) ?_ ?_)
  ·rintro _ rfl;refine Zc I (y8 (e:=4) (n:=b.toNat) Y6 false 1 I I k9 k9 I I o9 o9 o9 d9 I) ?_ yB;rintro _ ⟨g25,rfl⟩;exact WM 25 I (show Le _ (isD<|.slice (some ⟨g25,0,none⟩) (List.replicate b.toNat false).length b.toNat) from zE (by rw [List.length_replicate])) (KE 0 25 I I (zb _)<|yC I (zn (jt b l ws (l.map (·.win)) hv hw (by rw [JO];omega) (fun _=>true) (fun i c hc=>Jo<|JI.2 ⟨c,Jc hc,I⟩)) I ⟨zb _,zb _,zb _,zb _,zb _,t9⟩ I)<|zC I I<|zj I I (zi I I)<|zj I I (zi I I)<|zj I I (zi I I)<|yR I I<|yR I I<|yR I I<|yy<|Zd I<|sB [] I I)
  refine Zc I (y8 (e:=4) (n:=b.toNat) Y6 false 1 I I k9 k9 I I o9 o9 o9 d9 I) ?_ yB;rintro _ ⟨g25,rfl⟩;exact yC I (zn (zbl l hn6) I ⟨zb _,t9⟩ I) (WM 25 I (show Le _ (isD<|.slice (some ⟨g25,0,none⟩) (List.replicate b.toNat false).length b.toNat) from zE (by rw [List.length_replicate]))<|KE 0 25 I I (zb _)<|yC I (zn (jt b l ws (l.map (·.win)) hv hw (by rw [JO];omega) (fun _=>true) (fun i c hc=>Jo<|JI.2 ⟨c,Jc hc,I⟩)) I ⟨zb _,zb _,zb _,zb _,zb _,t9⟩ I)<|zC I I<|zj I I (zi I I)<|zj I I (zi I I)<|zj I I (zi I I)<|yR I I<|yR I I<|yR I I<|yy<|Zd I<|sB [] I I)
 ·rintro _ rfl;refine zg (zp<|zd I<|ze<|zh<|zp<|zd I<|ze<|SW.block<|ZX 83 3 Yp<|z1 (ι:={p:Nat × Wst // p.1≤l.length}) (fun p=>z8 [(1,lsD yc l),(10,iD<|Co.bst b l ws),(11,lsD z2<|nI<|Co.fst b l ws),(12,isD<|.slice p.1.2.A ((Co.slO b l ws).take p.1.1).length p.1.2.c),(13,iD (p.1.1:Int))] [.r p.1.2.F<|yq 83 3 Yp p.1.2.A p.1.2.c<|(Co.slO b l ws).take p.1.1]) (fun p=>l.length - p.1.1) (⟨(0,⟨none,0,[]⟩),JC _⟩) ?_ ?_)
  ·exact (sB [0] I I)
  ·rintro ⟨⟨i,t⟩,hi⟩ K0 hK0;dsimp only at hi ⊢;refine zh (zp<|zc I<|zc I<|za I (zY (e:=3) I k9)<|za I (ya I I)<|ze<|zD I (fun hb33=> ?_) (fun hb33=> ?_))
   ·have h33:(i:Int) < ((nI<|Co.fst b l ws).length:Int):=oT hb33;refine zw (zg<|zh<|SW.block ?_)
    have hil:i < l.length:=by rw [zaQ,hfl] at h33;omega
    obtain ⟨c,hc⟩:∃ c,l[i]? =some c:=⟨_,Je o9⟩;obtain ⟨s,hs1,hs2⟩:=Co.fst_le (ws:=ws) hv.c hc
    refine yf (t.F ++ []) (rr [0,1,2,3,4,5,6,7,8,9,10,11,12,13,14,15]<|.n 16 (.e 17 (.r 18 .fin) .no) .no) k9 k9 (fun d _ _ _ _ h=>by cases d <;> exact h) (zC I I<|zC I I<|zC I I<|zj I I (zQ (e:=61) 2 I I k9 k9 o9 (by simpa using hc))<|zj I I (z7 (n:=0) I k9 (show 0 < 2 by decide))<|zj I I (zK I I k9<|ZV (j:=0) I ZR)<|zC I I<|zC I I<|zj I I (zQ (e:=3) 1 I I k9 k9 o9 (by rw [J7];unfold nI;rw [JJ,hs1];rfl)) ?_)
    refine zj I I (zK I I k9<|ZV (j:=0) I ZR) (zC I I<|zC I I<|zj I I (zQ (e:=61) 2 I I k9 k9 o9 (by simpa using hc))<|zj I I (z7 (n:=1) I k9 (show 1 < 2 by decide))<|zj I I (zK I I k9<|ZV (j:=0) I ZR)<|zj I I (yz I I bldSl)<|yC I (y5 I I (blsSl1 (x:=⟨c.win,(s:Int),c.cnt⟩)) I)<|jC I (Z9 0 3 24 I I (ZL (l:=[_]) I) k9 k9 (by rw [List.length_take,List.length_singleton];omega) d9 (fun _ h=>mL _ h) I) ?_ yB);rintro _ ⟨A53,F53,c53,rfl⟩;exact yR I I (yy<|SN.block<|zg<|zf<|zc I<|za I (Rd.add I I ⟨by omega,by omega⟩)<|zd I<|zv (fun aK wK hh=>hK0 (⟨(i + 1,⟨A53,c53,F53⟩),by simp only;omega⟩) (by simp only;omega) aK wK<|hh.sub<|⟨⟨_,I,⟨lq I,⟨lq I,⟨lq I,⟨⟨_,I,zE (by dsimp only;rw [zaF<|Co.slO_get hc hs1])⟩,⟨⟨_,I,zE s9⟩,t9⟩⟩⟩⟩⟩⟩,[0],by decide,⟨⟨_,rfl,(by dsimp only;rw [zaF<|Co.slO_get hc hs1];exact zI _)⟩,trivial⟩⟩))
   ·have h33:¬(i:Int) < ((nI<|Co.fst b l ws).length:Int):=oF hb33;refine zL ?_
    repeat (first | refine zV ?_ | refine zW d9 ?_)
    refine zX (zg<|zp<|zc I<|zc I<|zd I<|zd I<|zd I<|ze<|SW.freezeT 0 6 I I (by rw [zaQ,hfl] at h33;rw [Ji o9];exact zb _)<|zG (fn:=Tryz.f41) (fun _ _ h=>h)<|Rs.le (qm I (zo I) (zo I)<|zo I) ?_);exact zb _
end
section
def ffew (b:Int) (l:List Co.Cl):Bool:=decide (((l.length≤3∨(l.length=4∧b≤8))∨6 < l.length)∨b≤6)
theorem half {c k:Nat}:((c / 2 ^ k:Nat):Int) / 2=((c / 2 ^ (k + 1):Nat):Int):=by
 rw [XI,← Nat.div_div_eq_div_mul];simp
theorem odd_bt {c i:Nat}:decide (((c / 2 ^ i:Nat):Int) % 2=1)=Co.bt c i:=by
 show _=Nat.testBit c i;rw [Nat.testBit_eq_decide_div_mod_eq,JW];omega
theorem wnr_yes {l:List Co.Cl} {c i:Nat} {x:Co.Cl} (hx:l[i]? =some x) (h:Co.bt c i=true):(Co.mem (i + 1)<|Co.fB c).map (Co.wnO l)=(Co.mem i<|Co.fB c).map (Co.wnO l) ++ [x.win]:=by
 rw [Co.mem_yes (by rw [Co.fB_n];exact h),XG];simp [Co.wnO_get hx]
theorem wnr_no {l:List Co.Cl} {c i:Nat} (h:Co.bt c i=false):(Co.mem (i + 1)<|Co.fB c).map (Co.wnO l)=(Co.mem i<|Co.fB c).map (Co.wnO l):=by rw [Co.mem_no (by rw [Co.fB_n];exact h)]
theorem ZQ {f:Nat→Int} {i:Nat}:zz f (i + 1)=zz f i ++ [f i]:=by unfold zz;rw [List.range_succ,XG];rfl
theorem pw2:∀ i≤6,((2 ^ i:Nat):Int) * 2=((2 ^ (i + 1):Nat):Int):=by decide +kernel
theorem bO_at {b:Int} {l:List Co.Cl} {ws:List Co.Wi} {i:Nat} {c:Co.Cl} {s:Nat} (hc:l[i]? =some c) (hs:(Co.fst b l ws)[i]? =some s):Co.bO b l ws i=Co.wish ws c.win (s:Int):=by
 unfold Co.bO;rw [Co.wnO_get hc,Jr,hs];rfl
theorem ic_succ {c i:Nat} {p:Nat→Int}:Co.ic c p (i + 1)=Co.ic c p i + (if Co.bt c i=true then p i else 0):=rfl
theorem oc_succ {c i:Nat} {p:Nat→Int}:Co.oc c p (i + 1)=Co.oc c p i + (if Co.bt c i=true then 0 else p i):=rfl
noncomputable instance (V bd:Nat→Int) (n:Nat) (p:Nat→Int):Decidable (Co.In V bd n p):=Classical.propDecidable _
noncomputable def inB (V bd:Nat→Int) (n:Nat) (p:Nat→Int):Bool:=decide (Co.In V bd n p)
theorem inB_f {V bd:Nat→Int} {n c:Nat} {p:Nat→Int} (hc:c < 2 ^ n) (h:60 * Co.need V bd n c > Co.oc c p n):inB V bd n p=false:=Jd fun hi=>by have:=hi c hc;omega
theorem inB_t {V bd:Nat→Int} {n:Nat} {p:Nat→Int} (h:∀ c < 2 ^ n,¬60 * Co.need V bd n c > Co.oc c p n):inB V bd n p=true:=Jo fun c hc=>by have:=h c hc;omega
theorem inB_iff {V bd:Nat→Int} {n:Nat} (h:Co.Mkt n V bd) {t:Int} (ht:0≤t):inB V bd n (Co.rs bd (Co.vcg V bd n) t)=true↔thT V bd n≤t:=by
 unfold inB;rw [decide_eq_true_iff];exact Co.in_iff h (fun _ _=>YQ _) (fun _ _=>Ye _) ht
theorem con_few40 (b:Int) (l:List Co.Cl) (hl:l.length≤1000000):Con Tryz.prog 31 [iD b,lsD yc l] (yK<|ffew b l):=by
 refine z6 Tryz.func31 k9 I k9 fun base w0=>(zp<|zd I<|zS<|zc I<|za I (zY (e:=61) I k9)<|za I (ZC I I)<|zc I<|yn 8 I (fun hb8=> ?_) (fun hb8=> ?_))
 ·have h8:(l.length:Int)≤3:=oT hb8;refine zR hb8 (zR hb8<|zR hb8<|zR hb8<|yG I I I I<|yG I I I I<|zR hb8<|za I (zF I hb8 I)<|zc I<|zR I<|zR I<|zR I<|za I (zF I I I)<|zc I<|zR I<|zR I<|za I (zF I I I)<|zd I<|ze<|zG (fn:=Tryz.f31) (fun _ _ h=>h)<|Rs.le (zN I<|zo I) ?_)
  exact yb (by unfold ffew;symm;first | (apply Jo;omega) | (apply Jd;omega) | (rw [JW];omega))
 ·have h8:¬(l.length:Int)≤3:=oF hb8;refine zU hb8 (zl I) (zU hb8 (zY (e:=61) I k9)<|zU hb8 (yS I I)<|zU hb8 (zl I)<|yn 12 I (fun hb12=> ?_) (fun hb12=> ?_))
  ·have h12:(l.length:Int)=4:=oT hb12;refine zU hb12 (zl I) (zU hb12 (ZC I I)<|zU hb8 (zF I hb12 I)<|za I (zM I hb8 I)<|zc I<|yn 17 I (fun hb17=> ?_) (fun hb17=> ?_))
   ·have h17:b≤8:=oT hb17;refine zR hb17 (zR hb17<|zR hb17<|za I (zF I hb17 I)<|zc I<|zR I<|zR I<|za I (zF I I I)<|zd I<|ze<|zG (fn:=Tryz.f31) (fun _ _ h=>h)<|Rs.le (zN I<|zo I) ?_)
    exact yb (by unfold ffew;symm;first | (apply Jo;omega) | (apply Jd;omega) | (rw [JW];omega))
   ·have h17:¬b≤8:=oF hb17;refine zU hb17 (zl I) (zU hb17 (zY (e:=61) I k9)<|zU hb17 (y6 I I)<|za I (zM I hb17 I)<|zc I<|yn 22 I (fun hb22=> ?_) (fun hb22=> ?_))
    ·have h22:(l.length:Int) > 6:=oT hb22;refine zR hb22 (zR hb22<|za I (zF I hb22 I)<|zd I<|ze<|zG (fn:=Tryz.f31) (fun _ _ h=>h)<|Rs.le (zN I<|zo I) ?_)
     exact yb (by unfold ffew;symm;first | (apply Jo;omega) | (apply Jd;omega) | (rw [JW];omega))
    ·have h22:¬(l.length:Int) > 6:=oF hb22;refine zU hb22 (zl I) (zU hb22 (ZC I I)<|za I (zM I hb22 I)<|zd I<|ze<|zG (fn:=Tryz.f31) (fun _ _ h=>h)<|Rs.le (zN I<|zo I) ?_)
     exact yb (by unfold ffew;symm;first | (apply Jo;omega) | (apply Jd;omega) | (rw [JW];omega))
  ·have h12:¬(l.length:Int)=4:=oF hb12;refine zR hb12 (zR hb12<|zU hb8 (zM I hb12 I)<|za I (zM I hb8 I)<|zc I<|zU I (zl I)<|zU I (zY (e:=61) I k9)<|zU I (y6 I I)<|za I (zM I I I)<|zc I<|yn 22 I (fun hb22=> ?_) (fun hb22=> ?_))
   ·have h22:(l.length:Int) > 6:=oT hb22;refine zR hb22 (zR hb22<|za I (zF I hb22 I)<|zd I<|ze<|zG (fn:=Tryz.f31) (fun _ _ h=>h)<|Rs.le (zN I<|zo I) ?_)
    exact yb (by unfold ffew;symm;first | (apply Jo;omega) | (apply Jd;omega) | (rw [JW];omega))
   ·have h22:¬(l.length:Int) > 6:=oF hb22;refine zU hb22 (zl I) (zU hb22 (ZC I I)<|za I (zM I hb22 I)<|zd I<|ze<|zG (fn:=Tryz.f31) (fun _ _ h=>h)<|Rs.le (zN I<|zo I) ?_)
    exact yb (by unfold ffew;symm;first | (apply Jo;omega) | (apply Jd;omega) | (rw [JW];omega))
theorem Y9 (c i:Nat) (hc:c≤1000000) (hi:i≤1000000):Con Tryz.prog 51 [iD (c:Int),iD (i:Int)] (yK<|Co.bt c i):=by
 refine z6 Tryz.func51 k9 I k9 fun base w0=>(zp<|zd I<|ze<|zh<|zp<|zd I<|ze<|SW.block<|z1 (ι:={k:Nat // k≤i}) (fun k=>z8 [(0,iD ((c / 2 ^ k.1:Nat):Int)),(1,iD (i:Int)),(5,iD (k.1:Int))] []) (fun k=>i - k.1) (⟨0,JC _⟩) ?_ ?_)
 ·exact ⟨⟨_,I,⟨⟨_,I,zE s9⟩,(sT I)⟩⟩,[],by decide,trivial⟩
 ·rintro ⟨k,hk⟩ K0 hK0;dsimp only at hk ⊢;have hck:=Nat.div_le_self c (2 ^ k)
  generalize hq:c / 2 ^ k=q at hck ⊢
  refine zh (zp<|zc I<|zc I<|za I (ya I I)<|ze<|zD I (fun hb8=> ?_) (fun hb8=> ?_))
  ·have h8:(k:Int) < (i:Int):=oT hb8;exact zw (zg<|zh<|SW.block<|zf<|zc I<|za I (qH I I ⟨by omega,by omega,by omega⟩)<|zd I<|zv<|SN.block<|zg<|zf<|zc I<|za I (Rd.add I I ⟨by omega,by omega⟩)<|zd I<|zv (fun aK wK hh=>hK0 (⟨k + 1,by omega⟩) (by dsimp only;omega) aK wK<|hh.sub<|⟨⟨_,I,⟨⟨_,I,zE (by dsimp only;rw [← half,hq])⟩,⟨lq I,⟨⟨_,I,zE s9⟩,t9⟩⟩⟩⟩,[],by decide,trivial⟩))
  ·have h8:¬(k:Int) < (i:Int):=oF hb8;refine zL ?_
   repeat (first | refine zV ?_ | refine zW d9 ?_)
   refine zX (zg<|zp<|zc I<|za I (VV I I ⟨by omega,by omega⟩)<|za I (yS I I)<|zd I<|ze<|zG (fn:=Tryz.f51) (fun _ _ h=>h)<|Rs.le (zN I<|zo I) ?_);exact yb (by rw [← hq,show k=i by omega,odd_bt])
theorem zag (l:List Co.Cl) (c:Nat) (hl:l.length≤6) (hc:c≤1000000):Con Tryz.prog 38 [lsD yc l,iD (c:Int)] (lsD z2<|Co.wnr l c):=by
 refine z6 Tryz.func38 k9 I k9 fun base w0=>(zp<|zd I<|zS<|zd I<|ze<|zh<|zp<|zd I<|ze<|SW.block<|ZX 3 1 z2<|z1 (ι:={p:Nat × Wst // p.1≤l.length}) (fun p=>z8 [(0,lsD yc l),(1,iD (c:Int)),(5,isD<|.slice p.1.2.A ((Co.mem p.1.1<|Co.fB c).map<|Co.wnO l).length p.1.2.c),(6,iD (p.1.1:Int))] [.r p.1.2.F<|yq 3 1 z2 p.1.2.A p.1.2.c<|(Co.mem p.1.1<|Co.fB c).map<|Co.wnO l]) (fun p=>l.length - p.1.1) (⟨(0,⟨none,0,[]⟩),JC _⟩) ?_ ?_)
 ·exact (sB [0] I I)
 ·rintro ⟨⟨i,t⟩,hi⟩ K0 hK0;dsimp only at hi ⊢;refine zh (zp<|zc I<|zc I<|za I (zY (e:=61) I k9)<|za I (ya I I)<|ze<|zD I (fun hb10=> ?_) (fun hb10=> ?_))
  ·have h10:(i:Int) < (l.length:Int):=oT hb10;refine zw (zg<|zh<|SW.block<|zh ?_);obtain ⟨x,hx⟩:∃ x,l[i]? =some x:=⟨_,Je o9⟩;refine zf (zc I<|zc I<|zq (S:=[]) (zn (Y9 c i hc o9) I ⟨zb _,zb _,t9⟩ I)<|ze<|zD I (fun hb15=> ?_) (fun hb15=> ?_))
   ·skip
    exact zf (zc I<|zc I<|zc I<|za I (zQ (e:=61) 2 I I k9 k9 o9 (by simpa using hx))<|za I (z7 (n:=0) I k9 (show 0 < 2 by decide))<|za I (zK I I k9 s9)<|zq (S:=[]) (y5 I I YZ I) (SWl.e4 (Z9 0 1 8 I I (ZL (l:=[_]) I) k9 k9 (by have:=Co.mem_len (n:=i) (f:=Co.fB c);rw [List.length_map,List.length_singleton];omega) d9 (fun _ h=>h) I) fun A23 F23 c23=>(zd I<|zv<|SN.block<|zg<|zf<|zc I<|za I (Rd.add I I ⟨by omega,by omega⟩)<|zd I<|zv (fun aK wK hh=>hK0 (⟨(i + 1,⟨A23,c23,F23⟩),by simp only;omega⟩) (by simp only;omega) aK wK<|hh.sub<|⟨⟨_,I,⟨lq I,⟨lq I,⟨⟨_,I,zE (by dsimp only;rw [wnr_yes hx hb15])⟩,⟨⟨_,I,zE s9⟩,t9⟩⟩⟩⟩⟩,[0],by decide,⟨⟨_,rfl,(by dsimp only;rw [wnr_yes hx hb15];exact zI _)⟩,trivial⟩⟩))))
   ·skip
    exact zw (SN.block<|zg<|zf<|zc I<|za I (Rd.add I I ⟨by omega,by omega⟩)<|zd I<|zv (fun aK wK hh=>hK0 (⟨(i + 1,t),by simp only;omega⟩) (by simp only;omega) aK wK<|hh.sub<|⟨⟨_,I,⟨lq I,⟨lq I,⟨⟨_,I,zE (by dsimp only;rw [wnr_no hb15])⟩,⟨⟨_,I,zE s9⟩,t9⟩⟩⟩⟩⟩,[0],by decide,⟨⟨_,rfl,(by dsimp only;rw [wnr_no hb15];exact zI _)⟩,trivial⟩⟩))
  ·have h10:¬(i:Int) < (l.length:Int):=oF hb10;refine zL ?_
   repeat (first | refine zV ?_ | refine zW d9 ?_)
   refine zX (zg<|zp<|zc I<|zd I<|ze<|SW.freezeT 0 4 I I (by rw [show i=l.length by omega];exact zb _)<|zG (fn:=Tryz.f38) (fun _ _ h=>h)<|Rs.le (zN I<|zo I) ?_);exact zb _
theorem Kp (b:Int) (l:List Co.Cl) (ws:List Co.Wi) (hw:ws.length≤1000000) (hv:Co.VW b l ws):Con Tryz.prog 12 [iD b,lsD yc l,lsD yJ ws] (Zq [lsD z2<|zz (Co.vO b l ws)<|2 ^ l.length,iD 0]):=by
 have hn6:=hv.c.n;have hb2:=hv.c.b2;have hb1:=hv.c.b1;obtain ⟨S,hS⟩:∃ S,S=2 ^ l.length:=⟨_,rfl⟩
 have hS64:S≤64:=by rw [hS];exact Co.pow_le64 hn6
 refine z6 Tryz.func12 k9 I k9 fun base w0=>(zp<|zd I<|zd I<|ze<|zh<|zp<|zc I<|zc I<|zc I<|zq (S:=[]) (zn (qi b l ws o9 hw) I ⟨zb _,zb _,zb _,t9⟩ I)<|za I (yF I)<|ze<|zJ I (by simp [hv])<|zw<|zg<|zp<|zd I<|ze<|zh<|zp<|zd I<|ze<|SW.block<|z1 (ι:={k:Nat // k≤l.length}) (fun k=>z8 [(0,iD b),(1,lsD yc l),(2,lsD yJ ws),(8,iD ((2 ^ k.1:Nat):Int)),(9,iD (k.1:Int))] []) (fun k=>l.length - k.1) (⟨0,JC _⟩) ?_ ?_)
 ·exact (sB [] I I)
 ·rintro ⟨k,hk⟩ K0 hK0;dsimp only at hk ⊢;refine zh (zp<|zc I<|zc I<|za I (zY (e:=61) I k9)<|za I (ya I I)<|ze<|zD I (fun hb22=> ?_) (fun hb22=> ?_))
  ·have h22:(k:Int) < (l.length:Int):=oT hb22;refine zw (zg<|zh<|SW.block ?_);have h2k:=pow_64 (i:=k) o9;have h2k0:0 < 2 ^ k:=Nat.pow_pos d9;exact zf (zc I<|za I (Rd.mono (Rd.mul I I ⟨by omega,by omega⟩) (show Le _ (iD ((2 ^ (k + 1):Nat):Int)) from zE (by rw [pw2 k o9])))<|zd I<|zv<|SN.block<|zg<|zf<|zc I<|za I (Rd.add I I ⟨by omega,by omega⟩)<|zd I<|zv (fun aK wK hh=>hK0 (⟨k + 1,by omega⟩) (by dsimp only;omega) aK wK<|hh.sub<|⟨⟨_,I,⟨lq I,⟨lq I,⟨lq I,⟨lq I,⟨⟨_,I,zE s9⟩,t9⟩⟩⟩⟩⟩⟩,[],by decide,trivial⟩))
  ·have h22:¬(k:Int) < (l.length:Int):=oF hb22;refine zL ?_
   repeat (first | refine zV ?_ | refine zW d9 ?_)
   refine zX (zg<|zh<|SW.sub (σ':=z8 [(0,_),(1,_),(2,_),(8,iD (S:Int))] []) (⟨⟨_,I,⟨lq I,⟨lq I,⟨lq I,⟨⟨_,I,zE (by rw [hS,show k=l.length by omega])⟩,t9⟩⟩⟩⟩⟩,[],by decide,trivial⟩)<|zf<|zd I<|ze<|zh<|zp<|zd I<|ze<|SW.block<|ZX 3 1 z2<|z1 (ι:={p:Nat × Wst // p.1≤S}) (fun p=>z8 [(0,iD b),(1,lsD yc l),(2,lsD yJ ws),(8,iD (S:Int)),(10,isD<|.slice p.1.2.A (zz (Co.vO b l ws) p.1.1).length p.1.2.c),(11,iD (p.1.1:Int))] [.r p.1.2.F<|yq 3 1 z2 p.1.2.A p.1.2.c<|zz (Co.vO b l ws) p.1.1]) (fun p=>S - p.1.1) (⟨(0,⟨none,0,[]⟩),JC _⟩) ?_ ?_)
   ·exact (sB [0] I I)
   ·rintro ⟨⟨i,t⟩,hi⟩ K1 hK1;dsimp only at hi ⊢;refine zh (zp<|zc I<|zc I<|za I (ya I I)<|ze<|zD I (fun hb29=> ?_) (fun hb29=> ?_))
    ·have h29:(i:Int) < (S:Int):=oT hb29;exact zw (zg<|zh<|SW.block<|zp<|zc I<|zc I<|zc I<|zc I<|zc I<|zq (S:=[]) (zn (zag l i hn6 o9) I ⟨zb _,zb _,t9⟩ I)<|zq (S:=[]) (zn (con_bestR b l ws (Co.wnr l i) hv hw (by have:=Co.wnr_len (l:=l) (c:=i);omega) (Co.bt i) (Co.wnr_bt hv.c) (Co.wnr_sorted hv.c)<|Co.wnr_mem hv.c) I ⟨zb _,zb _,zb _,zb _,t9⟩ I)<|zc I<|za I (zi I I)<|za I (zi I I)<|zd I<|zd I<|ze<|zf<|zc I<|zc I<|zq (S:=[]) (y5 I I YZ I) (SWl.e4 (Z9 0 1 8 I I (ZL (l:=[_]) I) k9 k9 (by rw [zT,List.length_singleton];omega) d9 (fun _ h=>h) I) fun A45 F45 c45=>(zd I<|zv<|SN.block<|zg<|zf<|zc I<|za I (Rd.add I I ⟨by omega,by omega⟩)<|zd I<|zv (fun aK wK hh=>hK1 (⟨(i + 1,⟨A45,c45,F45⟩),by simp only;omega⟩) (by simp only;omega) aK wK<|hh.sub<|⟨⟨_,I,⟨lq I,⟨lq I,⟨lq I,⟨lq I,⟨⟨_,I,zE (by dsimp only;rw [ZQ];rfl)⟩,⟨⟨_,I,zE s9⟩,t9⟩⟩⟩⟩⟩⟩⟩,[0],by decide,⟨⟨_,rfl,(by dsimp only;rw [ZQ];exact zI _)⟩,trivial⟩⟩))))
    ·have h29:¬(i:Int) < (S:Int):=oF hb29;refine zL ?_
     repeat (first | refine zV ?_ | refine zW d9 ?_)
     refine zX (zg<|zp<|zc I<|zd I<|zd I<|ze<|SW.freezeT 0 6 I I (by rw [show i=S by omega,hS];exact zb _)<|zG (fn:=Tryz.f12) (fun _ _ h=>h)<|Rs.le (Rs.two I (zo I)<|zo I) ?_);exact zb _
theorem Ww (b:Int) (l:List Co.Cl) (ws:List Co.Wi) (hw:ws.length≤1000000) (hl:l.length≤1000000) (hv:¬Co.VW b l ws):Con Tryz.prog 12 [iD b,lsD yc l,lsD yJ ws] (Zq [lsD z2 [],iD 2]):=by
 refine z6 Tryz.func12 k9 I k9 fun base w0=>(zp<|zd I<|zd I<|ze<|zh<|zp<|zc I<|zc I<|zc I<|zq (S:=[]) (zn (qi b l ws hl hw) I ⟨zb _,zb _,zb _,t9⟩ I)<|za I (yF I)<|ze<|yg I (by simp [hv])<|zp<|zd I<|zd I<|ze<|zG (fn:=Tryz.f12) (fun _ _ h=>h)<|Rs.le (Rs.two I (zo I)<|zo I) ?_);exact yX ⟨ZF,zb _,t9⟩
theorem WH (b:Int) (l:List Co.Cl) (ws:List Co.Wi) (hw:ws.length≤1000000) (hv:Co.VW b l ws):Con Tryz.prog 15 [iD b,lsD yc l,lsD yJ ws] (Zq [lsD z2<|zz (Co.bO b l ws) l.length,iD 0]):=by
 have hn6:=hv.c.n;have hb2:=hv.c.b2;have hb1:=hv.c.b1;have hsl:(Co.slO b l ws).length=l.length:=Co.slO_len
 generalize hS:Co.slO b l ws=S at hsl
 refine z6 Tryz.func15 k9 I k9 fun base w0=>(zp<|zd I<|zd I<|zS<|zc I<|zc I<|zc I<|zq (S:=[]) (zn (zbV b l ws hv hw) I ⟨zb _,zb _,zb _,t9⟩ I)<|zc I<|za I (zi I I)<|za I (zi I I)<|za I (zi I I)<|zd I<|zd I<|zd I<|ze<|zh<|zp<|zc I<|za I (yj I I)<|ze<|zJ I I<|zw<|zg<|zh<|SW.sub (σ':=z8 [(2,_),(8,lsD Yp S)] []) (⟨⟨_,I,⟨lq I,⟨⟨_,I,(by rw [hS];exact zb _)⟩,t9⟩⟩⟩,[],by decide,trivial⟩)<|zf<|zd I<|ze<|zh<|zh ?_);refine zf (zd I<|ze<|SW.block<|ZX 3 1 z2<|z1 (ι:={p:Nat × Wst // p.1≤l.length}) (fun p=>z8 [(2,lsD yJ ws),(8,lsD Yp S),(11,isD<|.slice p.1.2.A (zz (Co.bO b l ws) p.1.1).length p.1.2.c),(12,iD (p.1.1:Int))] [.r p.1.2.F<|yq 3 1 z2 p.1.2.A p.1.2.c<|zz (Co.bO b l ws) p.1.1]) (fun p=>l.length - p.1.1) (⟨(0,⟨none,0,[]⟩),JC _⟩) ?_ ?_)
 ·exact (sB [0] I I)
 ·rintro ⟨⟨i,t⟩,hi⟩ K0 hK0;dsimp only at hi ⊢;refine zh (zp<|zc I<|zc I<|za I (zY (e:=83) I k9)<|za I (ya I I)<|ze<|zD I (fun hb27=> ?_) (fun hb27=> ?_))
  ·have h27:i < l.length:=by have h:=oT hb27;omega
   refine zw (zg<|zh<|SW.block ?_);obtain ⟨c,hc⟩:∃ c,l[i]? =some c:=⟨_,Je o9⟩;obtain ⟨s,p,hs1,hs2,hs3,hpw,hps,hpc⟩:=slO_at (ws:=ws) hv.c hc;rw [hS] at hs3
   refine yf (t.F ++ []) (rr [0,1,2,3,4,5,6,7,8,9,10,11]<|.n 12 (.n 13 (.e 14 (.r 15 .fin) .no) .no) .no) k9 k9 (fun d _ _ _ _ h=>by cases d <;> exact h) (zC I I<|zC I I<|zC I I<|zC I I<|zj I I (zQ (e:=83) 3 I I k9 k9 o9 (by simpa using hs3))<|zj I I (z7 (n:=0) I k9 (show 0 < 3 by decide))<|zj I I (zK I I k9<|ZV (j:=0) I ZR)<|zC I I<|zC I I<|zj I I (zQ (e:=83) 3 I I k9 k9 o9 (by simpa using hs3))<|zj I I (z7 (n:=1) I k9 (show 1 < 3 by decide))<|zj I I (zK I I k9<|ZV (j:=0) I ZR)<|yC I (zn (zbc ws p.win p.st hw) I ⟨zb _,zb _,zb _,t9⟩ I)<|yC I (y5 I I YZ I)<|jC I (Z9 0 1 8 I I (ZL (l:=[_]) I) k9 k9 (by rw [zT,Xq];omega) d9 (fun _ h=>mL _ h) I) ?_ yB)
   rintro _ ⟨A44,F44,c44,rfl⟩;exact yR I I (yy<|SN.block<|zg<|zf<|zc I<|za I (Rd.add I I ⟨by omega,by omega⟩)<|zd I<|zv (fun aK wK hh=>hK0 (⟨(i + 1,⟨A44,c44,F44⟩),by simp only;omega⟩) (by simp only;omega) aK wK<|hh.sub<|⟨⟨_,I,⟨lq I,⟨lq I,⟨⟨_,I,zE (by dsimp only;rw [ZQ,bO_at hc hs1,← hpw,← hps])⟩,⟨⟨_,I,zE s9⟩,t9⟩⟩⟩⟩⟩,[0],by decide,⟨⟨_,rfl,(by dsimp only;rw [ZQ,bO_at hc hs1,← hpw,← hps];exact zI _)⟩,trivial⟩⟩))
  ·have h27:¬i < l.length:=by have h:=oF hb27;omega
   refine zL ?_
   repeat (first | refine zV ?_ | refine zW d9 ?_)
   refine zX (zg<|zp<|zc I<|zd I<|zd I<|ze<|SW.freezeT 0 6 I I (by rw [show i=l.length by omega];exact zb _)<|zG (fn:=Tryz.f15) (fun _ _ h=>h)<|Rs.le (Rs.two I (zo I)<|zo I) ?_);exact zb _
