/- REFERENCE 39: Search, Solve, Best. REFERENCE 40: Few, Has, Winners, Values, Bids. -/
import Derived.Test.YtmflnfnebmbjkaaGreatGZBD
set_option maxHeartbeats 8000000
set_option maxRecDepth 100000
namespace Go.Proofs.YtmflnfnebmbjkaaGreat
open Go.RowKit
namespace Sx
section
theorem Kh (b:Int) (l:List Co.Cl) (ws:List Co.Wi) (W:List Int) (hv:Co.VW b l ws) (hw:ws.length≤1000000) (hW:W.length≤1000000) (g:Nat→Bool) (hg:∀ (i:Nat) c,l[i]? =some c→decide (c.win∈W)=g i) (k:Nat) (hk:k≤l.length) (u:List Bool) (hu:(u.length:Int)=b) (ih:k < l.length→∀ u2:List Bool,(u2.length:Int)=b→Con Tryz.prog 80 [lsD z7 l,lsD yO ws,lsD yc W,iD<|(k:Int) + 1,lsD qj u2] (srD<|Co.srch ((Co.cs l ws g).drop<|k + 1) u2)):Con Tryz.prog 80 [lsD z7 l,lsD yO ws,lsD yc W,iD (k:Int),lsD qj u] (srD<|Co.srch ((Co.cs l ws g).drop k) u):=by
 have hn6:=hv.c.n;have hb2:=hv.c.b2;have hb1:=hv.c.b1;refine z6 Tryz.func80 k9 I k9 fun base w0=>(zo<|ze I<|ze I<|ze I<|zd<|zi<|zo<|zb I<|zb I<|za I (zU (e:=61) I k9)<|za I (yL I I)<|zd<|zD I (fun hb23=> ?_) (fun hb23=> ?_))
 ·have hkl:k=l.length:=by (have h:=oT hb23;omega)
  refine zo (ze I<|ze I<|ze I<|zd<|zF (fn:=Tryz.f80) (fun _ _ h=>h)<|Rs.le (qW I (zq I) (zq I)<|zq I) ?_);subst hkl;rw [drop_nil];exact y7 ⟨zc _,zc _,YU,trivial⟩
 ·skip
  refine zv (zh<|zo<|ze I<|ze I<|zd<|zi ?_)
  have hkl:k < l.length:=by (have h:=hb23;simp at h;omega)
  obtain ⟨x,hx⟩:∃ x,l[k]? =some x:=⟨_,Je hkl⟩;have hxc:=hv.c.cnt hx;have hx1:=(hv.c.ok k x hx).2.2
  refine SW.sub (σ':=z2 [(0,_),(1,_),(2,_),(3,_),(4,_),(13,_),(14,_)] []) (sB [] I I) (zk<|ze I<|zd<|zi<|zo<|ze I<|zd<|SW.block<|z8 (ι:={s:Nat // s≤u.length + 1 - x.cnt.toNat}) (fun s=>z2 [(0,lsD z7 l),(1,lsD yO ws),(2,lsD yc W),(3,iD (k:Int)),(4,lsD qj u),(13,yG (Co.srN (Co.srch<|(Co.cs l ws g).drop<|k + 1) x.cnt.toNat (fun s:Nat=>if g k then Co.wish ws x.win (s:Int) else 0) u s.1).1),(14,iD (Co.srN (Co.srch<|(Co.cs l ws g).drop<|k + 1) x.cnt.toNat (fun s:Nat=>if g k then Co.wish ws x.win (s:Int) else 0) u s.1).2.1),(15,lsD yc<|nI (Co.srN (Co.srch<|(Co.cs l ws g).drop<|k + 1) x.cnt.toNat (fun s:Nat=>if g k then Co.wish ws x.win (s:Int) else 0) u s.1).2.2),(16,iD (s.1:Int))] []) (fun s=>u.length + 1 - x.cnt.toNat - s.1) (⟨0,JC _⟩) ?_ ?_)
  ·exact ⟨⟨_,I,⟨lq I,⟨lq I,⟨lq I,⟨lq I,⟨lq I,⟨lq I,⟨lq I,⟨⟨_,I,YU⟩,⟨lq I,t9⟩⟩⟩⟩⟩⟩⟩⟩⟩⟩,[],by decide,trivial⟩
  ·rintro ⟨s,hs⟩ K0 hK0;dsimp only at hs ⊢;refine zi (zo<|zb I<|zb I<|za I (zU (e:=4) I k9)<|zb I<|zb I<|za I (zS (e:=61) 2 I I k9 k9 o9 (by simpa using hx))<|za I (z1 (n:=1) I k9 (show 1 < 2 by decide))<|za I (zN I I k9 s9)<|za I (yl I I ⟨by omega,by omega⟩)<|za I (Zw I I)<|zd<|zD I (fun hb33=> ?_) (fun hb33=> ?_))
   ·have h33:=oT hb33;refine zv (zh<|zi<|SW.block<|zi<|zi ?_)
    have hs2:s + x.cnt.toNat≤u.length:=by omega
    refine zk (zb I<|zb I<|zb I<|zb I<|za I (zS (e:=61) 2 I I k9 k9 o9 (by simpa using hx))<|za I (z1 (n:=1) I k9 (show 1 < 2 by decide))<|za I (zN I I k9 s9)<|zn (S:=[]) (zp (con_free u s x.cnt.toNat o9 o9) I ⟨zc _,zc _,zG (by congr 1;omega),t9⟩ I)<|za I (yF I)<|zd<|zD I (fun hb44=> ?_) (fun hb44=> ?_))
    ·skip
     refine zR ?_
     repeat (first | refine zV ?_ | refine zW d9 ?_)
     exact zX (zh<|zk<|zb I<|za I (Rd.add I I ⟨by omega,by omega⟩)<|ze I<|zC (fun aK wK hh=>hK0 (⟨s + 1,by omega⟩) (by dsimp only;omega) aK wK<|hh.sub<|⟨⟨_,I,⟨lq I,⟨lq I,⟨lq I,⟨lq I,⟨lq I,⟨⟨_,I,zG (by dsimp only;rw [qB (fun h=>by rw [h.1] at hb44;cases hb44)])⟩,⟨⟨_,I,zG (by dsimp only;rw [qB (fun h=>by rw [h.1] at hb44;cases hb44)])⟩,⟨⟨_,I,(by dsimp only;rw [qB (fun h=>by rw [h.1] at hb44;cases hb44)];exact zc _)⟩,⟨⟨_,I,zG s9⟩,t9⟩⟩⟩⟩⟩⟩⟩⟩⟩⟩,[],by decide,trivial⟩))
    ·skip
     refine zv (zh<|zi ?_)
     have hf:Co.free u s x.cnt.toNat=true:=by simpa using hb44
     have hqb:=srch_bd ((Co.cs l ws g).drop<|k + 1) (Co.mk u s x.cnt.toNat) (cs_bd hv)
     have hql:((Co.cs l ws g).drop<|k + 1).length≤6:=by rw [JA,Co.cs_len];omega
     have hwb:=Co.wish_le hv x.win (s:Int)
     refine zk (zb I<|zb I<|zb I<|zb I<|za I (Rd.add I I ⟨by omega,by omega⟩)<|zb I<|zb I<|zb I<|zb I<|za I (zS (e:=61) 2 I I k9 k9 o9 (by simpa using hx))<|za I (z1 (n:=1) I k9 (show 1 < 2 by decide))<|za I (zN I I k9 s9)<|zn (S:=[]) (zp (con_mark u s x.cnt.toNat o9 o9) I ⟨zc _,zc _,zG (by congr 1;omega),t9⟩ I)<|zn (S:=[]) (zp (ih o9 (Co.mk u s x.cnt.toNat) (by rw [Co.mk_len];exact hu)) I ⟨zc _,zc _,zc _,zc _,zc _,t9⟩ I)<|zb I<|za I (zg I I)<|za I (zg I I)<|za I (zg I I)<|ze I<|ze I<|ze I<|zd<|zi<|jq (fun σ=>σ=z2 [(0,lsD z7 l),(1,lsD yO ws),(2,lsD yc W),(3,iD (k:Int)),(4,lsD qj u),(13,yG (Co.srN (Co.srch<|(Co.cs l ws g).drop<|k + 1) x.cnt.toNat (fun s:Nat=>if g k then Co.wish ws x.win (s:Int) else 0) u s).1),(14,iD (Co.srN (Co.srch<|(Co.cs l ws g).drop<|k + 1) x.cnt.toNat (fun s:Nat=>if g k then Co.wish ws x.win (s:Int) else 0) u s).2.1),(15,lsD yc<|nI (Co.srN (Co.srch<|(Co.cs l ws g).drop<|k + 1) x.cnt.toNat (fun s:Nat=>if g k then Co.wish ws x.win (s:Int) else 0) u s).2.2),(16,iD (s:Int)),(17,yG ((Co.srch<|(Co.cs l ws g).drop<|k + 1)<|Co.mk u s x.cnt.toNat).1),(18,iD<|((Co.srch<|(Co.cs l ws g).drop<|k + 1)<|Co.mk u s x.cnt.toNat).2.1 + (fun s:Nat=>if g k then Co.wish ws x.win (s:Int) else 0) s),(19,lsD yc<|nI ((Co.srch<|(Co.cs l ws g).drop<|k + 1)<|Co.mk u s x.cnt.toNat).2.2)] []) ?_ ?_)
     ·skip
      refine zo (zb I<|zb I<|zb I<|za I (zS (e:=61) 2 I I k9 k9 o9 (by simpa using hx))<|za I (z1 (n:=0) I k9 (show 0 < 2 by decide))<|za I (zN I I k9 s9)<|zn (S:=[]) (zp (con_has39 W x.win hW) I ⟨zc _,zc _,t9⟩ I)<|zd<|zD I (fun hb69=> ?_) (fun hb69=> ?_))
      ·skip
       exact zk (zb I<|zb I<|zb I<|zb I<|za I (zS (e:=61) 2 I I k9 k9 o9 (by simpa using hx))<|za I (z1 (n:=0) I k9 (show 0 < 2 by decide))<|za I (zN I I k9 s9)<|zb I<|zn (S:=[]) (zp (con_wish ws x.win (s:Int) hw) I ⟨zc _,zc _,zc _,t9⟩ I)<|za I (Rd.add I I ⟨by omega,by omega⟩)<|ze I<|zC<|Zk I<|⟨⟨_,I,⟨lq I,⟨lq I,⟨lq I,⟨lq I,⟨lq I,⟨lq I,⟨lq I,⟨lq I,⟨lq I,⟨lq I,⟨⟨_,I,zG (by dsimp only;rw [if_pos (by rw [← hg k x hx];exact hb69)])⟩,⟨lq I,t9⟩⟩⟩⟩⟩⟩⟩⟩⟩⟩⟩⟩⟩,[],by decide,trivial⟩)
      ·skip
       exact zv (Zk I<|⟨⟨_,I,⟨lq I,⟨lq I,⟨lq I,⟨lq I,⟨lq I,⟨lq I,⟨lq I,⟨lq I,⟨lq I,⟨lq I,⟨⟨_,I,zG (by dsimp only;rw [if_neg (by rw [← hg k x hx,hb69];decide)];simp)⟩,⟨lq I,t9⟩⟩⟩⟩⟩⟩⟩⟩⟩⟩⟩⟩⟩,[],by decide,trivial⟩)
     ·rintro _ rfl;refine zh (zo<|zb I<|zb I<|yk 81 I (fun hb81=> ?_) (fun hb81=> ?_))
      ·skip
       refine zQ hb81 (zA I) (zQ hb81 (yF I)<|zQ hb81 (zA I)<|yk 84 I (fun hb84=> ?_) (fun hb84=> ?_))
       ·skip
        exact zP hb84 (zP hb84<|zP hb84<|zQ hb81 (zB I hb84 I)<|za I (zB I hb81 I)<|zd<|yg I I<|zk<|zb I<|zb I (SWl.e2 (S:=[]) (Ef.litO (e:=3) (enc:=yc) (l:=[(s:Int)]) 1 I I I d9 (fun L w vs hv=>by obtain ⟨u,rfl,rfl⟩:=W8 hv;exact ⟨[_],(show All L w [iD _] [_] from ⟨rfl,trivial⟩),fun w'=>by kernel_rfl⟩) I) fun g92=>(zb I (SWl.e4 (Kv 0 1 8 I I (YZ I) k9 k9 (by have h1:=Ve ((Co.cs l ws g).drop<|k + 1) (Co.mk u s x.cnt.toNat);rw [nI_len,List.length_singleton];omega) d9 (fun _ h=>h) I) fun A94 F94 c94=>(YJ 0 94 I I (zc _)<|ze I<|ze I<|ze I<|zC<|SN.block<|zh<|zk<|zb I<|za I (Rd.add I I ⟨by omega,by omega⟩)<|ze I<|zC (fun aK wK hh=>hK0 (⟨s + 1,by omega⟩) (by dsimp only;omega) aK wK<|hh.sub<|⟨⟨_,I,⟨lq I,⟨lq I,⟨lq I,⟨lq I,⟨lq I,⟨⟨_,I,zG (by dsimp only;rw [q8 hf hb81<|.inl (by simpa using hb84)])⟩,⟨⟨_,I,zG (by dsimp only;rw [q8 hf hb81<|.inl (by simpa using hb84)])⟩,⟨⟨_,I,(by dsimp only;rw [q8 hf hb81<|.inl (by simpa using hb84)];exact zc _)⟩,⟨⟨_,I,zG s9⟩,t9⟩⟩⟩⟩⟩⟩⟩⟩⟩⟩,[],by decide,trivial⟩))))))
       ·skip
        refine zQ hb84 (zA I) (zQ hb84 (zA I)<|zQ hb84 (y6 I I)<|zQ hb81 (zI I hb84 I)<|za I (zB I hb81 I)<|zd<|zD I (fun hb89=> ?_) (fun hb89=> ?_))
        ·have hlt:=oT hb89;exact zk (zb I<|zb I (SWl.e2 (S:=[]) (Ef.litO (e:=3) (enc:=yc) (l:=[(s:Int)]) 1 I I I d9 (fun L w vs hv=>by obtain ⟨u,rfl,rfl⟩:=W8 hv;exact ⟨[_],(show All L w [iD _] [_] from ⟨rfl,trivial⟩),fun w'=>by kernel_rfl⟩) I) fun g92=>(zb I (SWl.e4 (Kv 0 1 8 I I (YZ I) k9 k9 (by have h1:=Ve ((Co.cs l ws g).drop<|k + 1) (Co.mk u s x.cnt.toNat);rw [nI_len,List.length_singleton];omega) d9 (fun _ h=>h) I) fun A94 F94 c94=>(YJ 0 94 I I (zc _)<|ze I<|ze I<|ze I<|zC<|SN.block<|zh<|zk<|zb I<|za I (Rd.add I I ⟨by omega,by omega⟩)<|ze I<|zC (fun aK wK hh=>hK0 (⟨s + 1,by omega⟩) (by dsimp only;omega) aK wK<|hh.sub<|⟨⟨_,I,⟨lq I,⟨lq I,⟨lq I,⟨lq I,⟨lq I,⟨⟨_,I,zG (by dsimp only;rw [q8 hf hb81<|.inr hlt])⟩,⟨⟨_,I,zG (by dsimp only;rw [q8 hf hb81<|.inr hlt])⟩,⟨⟨_,I,(by dsimp only;rw [q8 hf hb81<|.inr hlt];exact zc _)⟩,⟨⟨_,I,zG s9⟩,t9⟩⟩⟩⟩⟩⟩⟩⟩⟩⟩,[],by decide,trivial⟩))))))
        ·have hlt:=oF hb89;exact zv (SN.block<|zh<|zk<|zb I<|za I (Rd.add I I ⟨by omega,by omega⟩)<|ze I<|zC (fun aK wK hh=>hK0 (⟨s + 1,by omega⟩) (by dsimp only;omega) aK wK<|hh.sub<|⟨⟨_,I,⟨lq I,⟨lq I,⟨lq I,⟨lq I,⟨lq I,⟨⟨_,I,zG (by dsimp only;rw [qB (fun h=>h.2.2.elim (fun h=>by simp [h] at hb84) hlt)])⟩,⟨⟨_,I,zG (by dsimp only;rw [qB (fun h=>h.2.2.elim (fun h=>by simp [h] at hb84) hlt)])⟩,⟨⟨_,I,(by dsimp only;rw [qB (fun h=>h.2.2.elim (fun h=>by simp [h] at hb84) hlt)];exact zc _)⟩,⟨⟨_,I,zG s9⟩,t9⟩⟩⟩⟩⟩⟩⟩⟩⟩⟩,[],by decide,trivial⟩))
      ·skip
       exact zP hb81 (zP hb81<|zP hb81<|yB I I I I<|yB I I I I<|yB I I I I<|zP hb81<|za I (zI I hb81 I)<|zd<|zH I I<|zv<|SN.block<|zh<|zk<|zb I<|za I (Rd.add I I ⟨by omega,by omega⟩)<|ze I<|zC (fun aK wK hh=>hK0 (⟨s + 1,by omega⟩) (by dsimp only;omega) aK wK<|hh.sub<|⟨⟨_,I,⟨lq I,⟨lq I,⟨lq I,⟨lq I,⟨lq I,⟨⟨_,I,zG (by dsimp only;rw [qB (fun h=>by rw [h.2.1] at hb81;cases hb81)])⟩,⟨⟨_,I,zG (by dsimp only;rw [qB (fun h=>by rw [h.2.1] at hb81;cases hb81)])⟩,⟨⟨_,I,(by dsimp only;rw [qB (fun h=>by rw [h.2.1] at hb81;cases hb81)];exact zc _)⟩,⟨⟨_,I,zG s9⟩,t9⟩⟩⟩⟩⟩⟩⟩⟩⟩⟩,[],by decide,trivial⟩))
   ·have h33:=oF hb33;refine zR ?_
    repeat (first | refine zV ?_ | refine zW d9 ?_)
    refine zX (zh<|zo<|zb I<|zb I<|zb I<|ze I<|ze I<|ze I<|zd<|zF (fn:=Tryz.f80) (fun _ _ h=>h)<|Rs.le (qW I (zq I) (zq I)<|zq I) ?_);rw [drop_cs hx,show u.length + 1 - x.cnt.toNat=s by omega];exact zc _
theorem Kf (b:Int) (l:List Co.Cl) (ws:List Co.Wi) (W:List Int) (hv:Co.VW b l ws) (hw:ws.length≤1000000) (hW:W.length≤1000000) (g:Nat→Bool) (hg:∀ (i:Nat) c,l[i]? =some c→decide (c.win∈W)=g i):∀ (m k:Nat),k + m=l.length→∀ u:List Bool,(u.length:Int)=b→Con Tryz.prog 80 [lsD z7 l,lsD yO ws,lsD yc W,iD (k:Int),lsD qj u] (srD<|Co.srch ((Co.cs l ws g).drop k) u)
 | 0,k,h,u,hu=>Kh b l ws W hv hw hW g hg k o9 u hu fun h2=>absurd h2 o9
 | m + 1,k,h,u,hu=>Kh b l ws W hv hw hW g hg k o9 u hu fun _ u2 hu2=>Kf b l ws W hv hw hW g hg m (k + 1) o9 u2 hu2
theorem zbw (b:Int) (l:List Co.Cl) (ws:List Co.Wi) (W:List Int) (hv:Co.VW b l ws) (hw:ws.length≤1000000) (hW:W.length≤1000000) (g:Nat→Bool) (hg:∀ (i:Nat) c,l[i]? =some c→decide (c.win∈W)=g i):Con Tryz.prog 80 [lsD z7 l,lsD yO ws,lsD yc W,iD 0,lsD qj<|List.replicate b.toNat false] (srD<|Co.srch (Co.cs l ws g)<|List.replicate b.toNat false):=
 Kf b l ws W hv hw hW g hg l.length 0 o9 _ (by rw [List.length_replicate];have:=hv.c.b1;omega)
theorem con_bestR (b:Int) (l:List Co.Cl) (ws:List Co.Wi) (W:List Int) (hv:Co.VW b l ws) (hw:ws.length≤1000000) (hW:W.length≤1000000) (g:Nat→Bool) (hg:∀ (i:Nat) c,l[i]? =some c→decide (c.win∈W)=g i) (hs:∀ (i:Nat) x y,W[i]? =some x→W[i + 1]? =some y→x < y) (hm:∀ (i:Nat) x,W[i]? =some x→∃ m,Co.fC l x=some m):Con Tryz.prog 37 [iD b,lsD z7 l,lsD yO ws,lsD yc W] (Zu [iD (Co.srch (Co.cs l ws g)<|List.replicate b.toNat false).2.1,iD 0]):=by
 have hn6:=hv.c.n;have hb2:=hv.c.b2;have hb1:=hv.c.b1;refine z6 Tryz.func37 k9 I k9 fun base w0=>(zo<|ze I<|ze I<|zd<|zi<|zo<|zb I<|zb I<|zb I<|zn (S:=[]) (zp (jc b l ws o9 hw) I ⟨zc _,zc _,zc _,t9⟩ I)<|za I (yF I)<|zd<|zH I (by simp [hv])<|zv<|zh<|zi<|zo<|zb I<|zb I<|zn (S:=[]) (zp (con_among b l W o9 hW hs hm) I ⟨zc _,zc _,t9⟩ I)<|ze I<|zL<|zb I<|za I (yn I I)<|zd<|zH I I<|zv<|zh<|zo ?_);refine zb I (zb I<|zb I<|zb I (SWl.e2 (S:=[]) (Zm (e:=4) (n:=b.toNat) qj false 1 I I k9 k9 I I o9 o9 o9 d9 I) fun g30=>(SWl.weak 30 I (show Le _ (isD<|.slice (some ⟨g30,0,none⟩) (List.replicate b.toNat false).length b.toNat) from zG (by rw [List.length_replicate]))<|YJ 0 30 I I (zc _)<|zn (S:=[]) (zp (zbw b l ws W hv hw hW g hg) I ⟨zc _,zc _,zc _,zc _,zc _,t9⟩ I)<|zb I<|za I (zg I I)<|za I (zg I I)<|za I (zg I I)<|ze I<|ze I<|ze I<|zL<|zb I<|ze I<|ze I<|zd<|zF (fn:=Tryz.f37) (fun _ _ h=>h)<|Rs.le (Rs.two I (zq I)<|zq I) ?_)))
 exact zc _
end
section
def ffew (b:Int) (l:List Co.Cl):Bool:=decide (((l.length≤3∨(l.length=4∧b≤8))∨6 < l.length)∨b≤6)
theorem half {c k:Nat}:((c / 2 ^ k:Nat):Int) / 2=((c / 2 ^ (k + 1):Nat):Int):=by
 rw [XI,← Nat.div_div_eq_div_mul];simp
theorem odd_bt {c i:Nat}:decide (((c / 2 ^ i:Nat):Int) % 2=1)=Co.bt c i:=by
 show _=Nat.testBit c i;rw [Nat.testBit_eq_decide_div_mod_eq,JW];omega
theorem wnr_yes {l:List Co.Cl} {c i:Nat} {x:Co.Cl} (hx:l[i]? =some x) (h:Co.bt c i=true):(Co.mem (i + 1)<|Co.fB c).map (Co.wnO l)=(Co.mem i<|Co.fB c).map (Co.wnO l) ++ [x.win]:=by
 rw [Co.mem_yes (by rw [Co.fB_n];exact h),XG];simp [Co.wnO_get hx]
theorem wnr_no {l:List Co.Cl} {c i:Nat} (h:Co.bt c i=false):(Co.mem (i + 1)<|Co.fB c).map (Co.wnO l)=(Co.mem i<|Co.fB c).map (Co.wnO l):=by rw [Co.mem_no (by rw [Co.fB_n];exact h)]
theorem zah {f:Nat→Int} {i:Nat}:zE f (i + 1)=zE f i ++ [f i]:=by unfold zE;rw [List.range_succ,XG];rfl
theorem pw2:∀ i≤6,((2 ^ i:Nat):Int) * 2=((2 ^ (i + 1):Nat):Int):=by decide +kernel
noncomputable instance (V bd:Nat→Int) (n:Nat) (p:Nat→Int):Decidable (Co.In V bd n p):=Classical.propDecidable _
theorem con_few40 (b:Int) (l:List Co.Cl) (hl:l.length≤1000000):Con Tryz.prog 31 [iD b,lsD z7 l] (yG<|ffew b l):=by
 refine z6 Tryz.func31 k9 I k9 fun base w0=>(zo<|ze I<|zL<|zb I<|za I (zU (e:=61) I k9)<|za I (Zw I I)<|zb I<|yk 8 I (fun hb8=> ?_) (fun hb8=> ?_))
 ·have h8:(l.length:Int)≤3:=oT hb8;refine zP hb8 (zP hb8<|zP hb8<|zP hb8<|yB I I I I<|yB I I I I<|zP hb8<|za I (zB I hb8 I)<|zb I<|zP I<|zP I<|zP I<|za I (zB I I I)<|zb I<|zP I<|zP I<|za I (zB I I I)<|ze I<|zd<|zF (fn:=Tryz.f31) (fun _ _ h=>h)<|Rs.le (zO I<|zq I) ?_)
  exact zY (by unfold ffew;symm;first | (apply Jo;omega) | (apply Jd;omega) | (rw [JW];omega))
 ·have h8:¬(l.length:Int)≤3:=oF hb8;refine zQ hb8 (zA I) (zQ hb8 (zU (e:=61) I k9)<|zQ hb8 (yL I I)<|zQ hb8 (zA I)<|yk 12 I (fun hb12=> ?_) (fun hb12=> ?_))
  ·have h12:(l.length:Int)=4:=oT hb12;refine zQ hb12 (zA I) (zQ hb12 (Zw I I)<|zQ hb8 (zB I hb12 I)<|za I (zI I hb8 I)<|zb I<|yk 17 I (fun hb17=> ?_) (fun hb17=> ?_))
   ·have h17:b≤8:=oT hb17;refine zP hb17 (zP hb17<|zP hb17<|za I (zB I hb17 I)<|zb I<|zP I<|zP I<|za I (zB I I I)<|ze I<|zd<|zF (fn:=Tryz.f31) (fun _ _ h=>h)<|Rs.le (zO I<|zq I) ?_)
    exact zY (by unfold ffew;symm;first | (apply Jo;omega) | (apply Jd;omega) | (rw [JW];omega))
   ·have h17:¬b≤8:=oF hb17;refine zQ hb17 (zA I) (zQ hb17 (zU (e:=61) I k9)<|zQ hb17 (y6 I I)<|za I (zI I hb17 I)<|zb I<|yk 22 I (fun hb22=> ?_) (fun hb22=> ?_))
    ·have h22:(l.length:Int) > 6:=oT hb22;refine zP hb22 (zP hb22<|za I (zB I hb22 I)<|ze I<|zd<|zF (fn:=Tryz.f31) (fun _ _ h=>h)<|Rs.le (zO I<|zq I) ?_)
     exact zY (by unfold ffew;symm;first | (apply Jo;omega) | (apply Jd;omega) | (rw [JW];omega))
    ·have h22:¬(l.length:Int) > 6:=oF hb22;refine zQ hb22 (zA I) (zQ hb22 (Zw I I)<|za I (zI I hb22 I)<|ze I<|zd<|zF (fn:=Tryz.f31) (fun _ _ h=>h)<|Rs.le (zO I<|zq I) ?_)
     exact zY (by unfold ffew;symm;first | (apply Jo;omega) | (apply Jd;omega) | (rw [JW];omega))
  ·have h12:¬(l.length:Int)=4:=oF hb12;refine zP hb12 (zP hb12<|zQ hb8 (zI I hb12 I)<|za I (zI I hb8 I)<|zb I<|zQ I (zA I)<|zQ I (zU (e:=61) I k9)<|zQ I (y6 I I)<|za I (zI I I I)<|zb I<|yk 22 I (fun hb22=> ?_) (fun hb22=> ?_))
   ·have h22:(l.length:Int) > 6:=oT hb22;refine zP hb22 (zP hb22<|za I (zB I hb22 I)<|ze I<|zd<|zF (fn:=Tryz.f31) (fun _ _ h=>h)<|Rs.le (zO I<|zq I) ?_)
    exact zY (by unfold ffew;symm;first | (apply Jo;omega) | (apply Jd;omega) | (rw [JW];omega))
   ·have h22:¬(l.length:Int) > 6:=oF hb22;refine zQ hb22 (zA I) (zQ hb22 (Zw I I)<|za I (zI I hb22 I)<|ze I<|zd<|zF (fn:=Tryz.f31) (fun _ _ h=>h)<|Rs.le (zO I<|zq I) ?_)
    exact zY (by unfold ffew;symm;first | (apply Jo;omega) | (apply Jd;omega) | (rw [JW];omega))
theorem con_has40 (c i:Nat) (hc:c≤1000000) (hi:i≤1000000):Con Tryz.prog 51 [iD (c:Int),iD (i:Int)] (yG<|Co.bt c i):=by
 refine z6 Tryz.func51 k9 I k9 fun base w0=>(zo<|ze I<|zd<|zi<|zo<|ze I<|zd<|SW.block<|z8 (ι:={k:Nat // k≤i}) (fun k=>z2 [(0,iD ((c / 2 ^ k.1:Nat):Int)),(1,iD (i:Int)),(5,iD (k.1:Int))] []) (fun k=>i - k.1) (⟨0,JC _⟩) ?_ ?_)
 ·exact ⟨⟨_,I,⟨⟨_,I,zG s9⟩,(sT I)⟩⟩,[],by decide,trivial⟩
 ·rintro ⟨k,hk⟩ K0 hK0;dsimp only at hk ⊢;have hck:=Nat.div_le_self c (2 ^ k)
  generalize hq:c / 2 ^ k=q at hck ⊢
  refine zi (zo<|zb I<|zb I<|za I (yb I I)<|zd<|zD I (fun hb8=> ?_) (fun hb8=> ?_))
  ·have h8:(k:Int) < (i:Int):=oT hb8;exact zv (zh<|zi<|SW.block<|zk<|zb I<|za I (jr I I ⟨by omega,by omega,by omega⟩)<|ze I<|zC<|SN.block<|zh<|zk<|zb I<|za I (Rd.add I I ⟨by omega,by omega⟩)<|ze I<|zC (fun aK wK hh=>hK0 (⟨k + 1,by omega⟩) (by dsimp only;omega) aK wK<|hh.sub<|⟨⟨_,I,⟨⟨_,I,zG (by dsimp only;rw [← half,hq])⟩,⟨lq I,⟨⟨_,I,zG s9⟩,t9⟩⟩⟩⟩,[],by decide,trivial⟩))
  ·have h8:¬(k:Int) < (i:Int):=oF hb8;refine zR ?_
   repeat (first | refine zV ?_ | refine zW d9 ?_)
   refine zX (zh<|zo<|zb I<|za I (VG I I ⟨by omega,by omega⟩)<|za I (yL I I)<|ze I<|zd<|zF (fn:=Tryz.f51) (fun _ _ h=>h)<|Rs.le (zO I<|zq I) ?_);exact zY (by rw [← hq,show k=i by omega,odd_bt])
theorem WV (l:List Co.Cl) (c:Nat) (hl:l.length≤6) (hc:c≤1000000):Con Tryz.prog 38 [lsD z7 l,iD (c:Int)] (lsD yc<|Co.wnr l c):=by
 refine z6 Tryz.func38 k9 I k9 fun base w0=>(zo<|ze I<|zL<|ze I<|zd<|zi<|zo<|ze I<|zd<|SW.block<|jp 3 1 yc<|z8 (ι:={p:Nat × Wst // p.1≤l.length}) (fun p=>z2 [(0,lsD z7 l),(1,iD (c:Int)),(5,isD<|.slice p.1.2.A ((Co.mem p.1.1<|Co.fB c).map<|Co.wnO l).length p.1.2.c),(6,iD (p.1.1:Int))] [.r p.1.2.F<|yp 3 1 yc p.1.2.A p.1.2.c<|(Co.mem p.1.1<|Co.fB c).map<|Co.wnO l]) (fun p=>l.length - p.1.1) (⟨(0,⟨none,0,[]⟩),JC _⟩) ?_ ?_)
 ·exact (sB [0] I I)
 ·rintro ⟨⟨i,t⟩,hi⟩ K0 hK0;dsimp only at hi ⊢;refine zi (zo<|zb I<|zb I<|za I (zU (e:=61) I k9)<|za I (yb I I)<|zd<|zD I (fun hb10=> ?_) (fun hb10=> ?_))
  ·have h10:(i:Int) < (l.length:Int):=oT hb10;refine zv (zh<|zi<|SW.block<|zi ?_);obtain ⟨x,hx⟩:∃ x,l[i]? =some x:=⟨_,Je o9⟩;refine zk (zb I<|zb I<|zn (S:=[]) (zp (con_has40 c i hc o9) I ⟨zc _,zc _,t9⟩ I)<|zd<|zD I (fun hb15=> ?_) (fun hb15=> ?_))
   ·skip
    exact zk (zb I<|zb I<|zb I<|za I (zS (e:=61) 2 I I k9 k9 o9 (by simpa using hx))<|za I (z1 (n:=0) I k9 (show 0 < 2 by decide))<|za I (zN I I k9 s9)<|zn (S:=[]) (ZK I I Ko I) (SWl.e4 (Kv 0 1 8 I I (YZ (l:=[_]) I) k9 k9 (by have:=Co.mem_len (n:=i) (f:=Co.fB c);rw [List.length_map,List.length_singleton];omega) d9 (fun _ h=>h) I) fun A23 F23 c23=>(ze I<|zC<|SN.block<|zh<|zk<|zb I<|za I (Rd.add I I ⟨by omega,by omega⟩)<|ze I<|zC (fun aK wK hh=>hK0 (⟨(i + 1,⟨A23,c23,F23⟩),by simp only;omega⟩) (by simp only;omega) aK wK<|hh.sub<|⟨⟨_,I,⟨lq I,⟨lq I,⟨⟨_,I,zG (by dsimp only;rw [wnr_yes hx hb15])⟩,⟨⟨_,I,zG s9⟩,t9⟩⟩⟩⟩⟩,[0],by decide,⟨⟨_,rfl,(by dsimp only;rw [wnr_yes hx hb15];exact zK _)⟩,trivial⟩⟩))))
   ·skip
    exact zv (SN.block<|zh<|zk<|zb I<|za I (Rd.add I I ⟨by omega,by omega⟩)<|ze I<|zC (fun aK wK hh=>hK0 (⟨(i + 1,t),by simp only;omega⟩) (by simp only;omega) aK wK<|hh.sub<|⟨⟨_,I,⟨lq I,⟨lq I,⟨⟨_,I,zG (by dsimp only;rw [wnr_no hb15])⟩,⟨⟨_,I,zG s9⟩,t9⟩⟩⟩⟩⟩,[0],by decide,⟨⟨_,rfl,(by dsimp only;rw [wnr_no hb15];exact zK _)⟩,trivial⟩⟩))
  ·have h10:¬(i:Int) < (l.length:Int):=oF hb10;refine zR ?_
   repeat (first | refine zV ?_ | refine zW d9 ?_)
   refine zX (zh<|zo<|zb I<|ze I<|zd<|SW.freezeT 0 4 I I (by rw [show i=l.length by omega];exact zc _)<|zF (fn:=Tryz.f38) (fun _ _ h=>h)<|Rs.le (zO I<|zq I) ?_);exact zc _
theorem WW (b:Int) (l:List Co.Cl) (ws:List Co.Wi) (hw:ws.length≤1000000) (hv:Co.VW b l ws):Con Tryz.prog 12 [iD b,lsD z7 l,lsD yO ws] (Zu [lsD yc<|zE (Co.vO b l ws)<|2 ^ l.length,iD 0]):=by
 have hn6:=hv.c.n;have hb2:=hv.c.b2;have hb1:=hv.c.b1;obtain ⟨S,hS⟩:∃ S,S=2 ^ l.length:=⟨_,rfl⟩
 have hS64:S≤64:=by rw [hS];exact Co.pow_le64 hn6
 refine z6 Tryz.func12 k9 I k9 fun base w0=>(zo<|ze I<|ze I<|zd<|zi<|zo<|zb I<|zb I<|zb I<|zn (S:=[]) (zp (jc b l ws o9 hw) I ⟨zc _,zc _,zc _,t9⟩ I)<|za I (yF I)<|zd<|zH I (by simp [hv])<|zv<|zh<|zo<|ze I<|zd<|zi<|zo<|ze I<|zd<|SW.block<|z8 (ι:={k:Nat // k≤l.length}) (fun k=>z2 [(0,iD b),(1,lsD z7 l),(2,lsD yO ws),(8,iD ((2 ^ k.1:Nat):Int)),(9,iD (k.1:Int))] []) (fun k=>l.length - k.1) (⟨0,JC _⟩) ?_ ?_)
 ·exact (sB [] I I)
 ·rintro ⟨k,hk⟩ K0 hK0;dsimp only at hk ⊢;refine zi (zo<|zb I<|zb I<|za I (zU (e:=61) I k9)<|za I (yb I I)<|zd<|zD I (fun hb22=> ?_) (fun hb22=> ?_))
  ·have h22:(k:Int) < (l.length:Int):=oT hb22;refine zv (zh<|zi<|SW.block ?_);have h2k:=pow_64 (i:=k) o9;have h2k0:0 < 2 ^ k:=Nat.pow_pos d9;exact zk (zb I<|za I (Rd.mono (Rd.mul I I ⟨by omega,by omega⟩) (show Le _ (iD ((2 ^ (k + 1):Nat):Int)) from zG (by rw [pw2 k o9])))<|ze I<|zC<|SN.block<|zh<|zk<|zb I<|za I (Rd.add I I ⟨by omega,by omega⟩)<|ze I<|zC (fun aK wK hh=>hK0 (⟨k + 1,by omega⟩) (by dsimp only;omega) aK wK<|hh.sub<|⟨⟨_,I,⟨lq I,⟨lq I,⟨lq I,⟨lq I,⟨⟨_,I,zG s9⟩,t9⟩⟩⟩⟩⟩⟩,[],by decide,trivial⟩))
  ·have h22:¬(k:Int) < (l.length:Int):=oF hb22;refine zR ?_
   repeat (first | refine zV ?_ | refine zW d9 ?_)
   refine zX (zh<|zi<|SW.sub (σ':=z2 [(0,_),(1,_),(2,_),(8,iD (S:Int))] []) (⟨⟨_,I,⟨lq I,⟨lq I,⟨lq I,⟨⟨_,I,zG (by rw [hS,show k=l.length by omega])⟩,t9⟩⟩⟩⟩⟩,[],by decide,trivial⟩)<|zk<|ze I<|zd<|zi<|zo<|ze I<|zd<|SW.block<|jp 3 1 yc<|z8 (ι:={p:Nat × Wst // p.1≤S}) (fun p=>z2 [(0,iD b),(1,lsD z7 l),(2,lsD yO ws),(8,iD (S:Int)),(10,isD<|.slice p.1.2.A (zE (Co.vO b l ws) p.1.1).length p.1.2.c),(11,iD (p.1.1:Int))] [.r p.1.2.F<|yp 3 1 yc p.1.2.A p.1.2.c<|zE (Co.vO b l ws) p.1.1]) (fun p=>S - p.1.1) (⟨(0,⟨none,0,[]⟩),JC _⟩) ?_ ?_)
   ·exact (sB [0] I I)
   ·rintro ⟨⟨i,t⟩,hi⟩ K1 hK1;dsimp only at hi ⊢;refine zi (zo<|zb I<|zb I<|za I (yb I I)<|zd<|zD I (fun hb29=> ?_) (fun hb29=> ?_))
    ·have h29:(i:Int) < (S:Int):=oT hb29;exact zv (zh<|zi<|SW.block<|zo<|zb I<|zb I<|zb I<|zb I<|zb I<|zn (S:=[]) (zp (WV l i hn6 o9) I ⟨zc _,zc _,t9⟩ I)<|zn (S:=[]) (zp (con_bestR b l ws (Co.wnr l i) hv hw (by have:=Co.wnr_len (l:=l) (c:=i);omega) (Co.bt i) (Co.wnr_bt hv.c) (Co.wnr_sorted hv.c)<|Co.wnr_mem hv.c) I ⟨zc _,zc _,zc _,zc _,t9⟩ I)<|zb I<|za I (zg I I)<|za I (zg I I)<|ze I<|ze I<|zd<|zk<|zb I<|zb I<|zn (S:=[]) (ZK I I Ko I) (SWl.e4 (Kv 0 1 8 I I (YZ (l:=[_]) I) k9 k9 (by rw [yo,List.length_singleton];omega) d9 (fun _ h=>h) I) fun A45 F45 c45=>(ze I<|zC<|SN.block<|zh<|zk<|zb I<|za I (Rd.add I I ⟨by omega,by omega⟩)<|ze I<|zC (fun aK wK hh=>hK1 (⟨(i + 1,⟨A45,c45,F45⟩),by simp only;omega⟩) (by simp only;omega) aK wK<|hh.sub<|⟨⟨_,I,⟨lq I,⟨lq I,⟨lq I,⟨lq I,⟨⟨_,I,zG (by dsimp only;rw [zah];rfl)⟩,⟨⟨_,I,zG s9⟩,t9⟩⟩⟩⟩⟩⟩⟩,[0],by decide,⟨⟨_,rfl,(by dsimp only;rw [zah];exact zK _)⟩,trivial⟩⟩))))
    ·have h29:¬(i:Int) < (S:Int):=oF hb29;refine zR ?_
     repeat (first | refine zV ?_ | refine zW d9 ?_)
     refine zX (zh<|zo<|zb I<|ze I<|ze I<|zd<|SW.freezeT 0 6 I I (by rw [show i=S by omega,hS];exact zc _)<|zF (fn:=Tryz.f12) (fun _ _ h=>h)<|Rs.le (Rs.two I (zq I)<|zq I) ?_);exact zc _
theorem We (b:Int) (l:List Co.Cl) (ws:List Co.Wi) (hw:ws.length≤1000000) (hl:l.length≤1000000) (hv:¬Co.VW b l ws):Con Tryz.prog 12 [iD b,lsD z7 l,lsD yO ws] (Zu [lsD yc [],iD 2]):=by
 refine z6 Tryz.func12 k9 I k9 fun base w0=>(zo<|ze I<|ze I<|zd<|zi<|zo<|zb I<|zb I<|zb I<|zn (S:=[]) (zp (jc b l ws hl hw) I ⟨zc _,zc _,zc _,t9⟩ I)<|za I (yF I)<|zd<|yg I (by simp [hv])<|zo<|ze I<|ze I<|zd<|zF (fn:=Tryz.f12) (fun _ _ h=>h)<|Rs.le (Rs.two I (zq I)<|zq I) ?_);exact y7 ⟨YU,zc _,t9⟩
