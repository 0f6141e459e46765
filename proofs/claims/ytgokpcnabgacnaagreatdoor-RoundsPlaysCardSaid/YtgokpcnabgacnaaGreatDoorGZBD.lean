/- ENVELOPES: the reference. -/
import Derived.Test.YtgokpcnabgacnaaGreatDoorGZBC
set_option maxHeartbeats 8000000
set_option maxRecDepth 100000
namespace Go.Proofs.YtgokpcnabgacnaaGreatDoor
open Go.RowKit
namespace Sx
theorem zdU {n:Int} (h0:0≤n) (h:n≤9223372036854775807):IntKind.u64.wrap n=((n.toNat:Nat):Int):=by rw [wrap_u64 h0 o9,Int.toNat_of_nonneg h0]
section
variable {l:List Acc.T}{nm:List UInt8}{rnd ser:Int}{key nonce bid:List UInt8}{e:Env.T}
theorem aut_ok (h:Env.autE l e=0):Env.ok e:=by
 unfold Env.autE at h
 split at h
 ·assumption
 ·cases h
theorem opA_key (h:¬key.length=32):Env.opE l e key=2∧Env.opB l e key=[]:=op_no (fun h2=>h h2.1)
theorem opA_aut (h:key.length=32) (ha:Env.autE l e≠0):Env.opE l e key=Env.autE l e∧Env.opB l e key=[]:=by
 have he:Env.opE l e key=Env.autE l e:=by unfold Env.opE;rw [Jh h,Jh ha]
 exact ⟨he,by unfold Env.opB;rw [Jb (by rw [he];exact ha)]⟩
theorem opA_bad (h:key.length=32) (ha:Env.autE l e=0) (hb:(Sl.openB (Env.keyB key e.acc) e.box).2≠0):Env.opE l e key=10∧Env.opB l e key=[]:=by
 have he:Env.opE l e key=10:=by unfold Env.opE;rw [Jh h,Jb (by simp [ha]),Jh hb]
 exact ⟨he,by unfold Env.opB;rw [Jb (by rw [he];decide)]⟩
theorem opA_ok (h:key.length=32) (ha:Env.autE l e=0) (hb:¬(Sl.openB (Env.keyB key e.acc) e.box).2≠0):Env.opE l e key=0∧Env.opB l e key=(Sl.openB (Env.keyB key e.acc) e.box).1:=by
 have he:Env.opE l e key=0:=by unfold Env.opE;rw [Jh h,Jb (by simp [ha]),Jb hb]
 exact ⟨he,by unfold Env.opB;rw [Jh he]⟩
end
theorem con_sumR2 (b:LB) (hb:b.length≤1000000):ConN Tryz.prog 140 [bD b] (gD<|Bl.hash [] b):=by
 refine yO Tryz.func140 k9 V k9 fun base w0=>(zp (SWl.e2 (S:=[]) (zM (zs:=cellsOf<|List.replicate 32 0) k9 V) fun g2=>(zV<|zd V<|zt (S:=[]) (zY (con_hashR b o9) V ⟨zb _,zb _,t9⟩ V)<|zt (S:=[]) (zD [] (zel _ s9) V ⟨(zo<|zb _),t9⟩ V)<|zt (S:=[_]) (Yo 0 32 V V V k9 (by first | assumption | (simp;done) | (simp;omega)) (by first | assumption | (simp;done) | (simp;omega))<|m9 V)<|ze<|zK (fn:=Tryz.f140) (fun _ _ h=>h)<|Rs.le (Rs.one V<|jY (n:=32) 0 V V k9 (by first | assumption | (simp;done) | (simp;omega))) ?_)))
 exact (Le.trans (KW _) zu)
theorem KG (nm:LB) (rnd ser:Int) (bl tl:Nat) (hs:nm.length≤1000000):ConN Tryz.prog 86 [Zo [yY nm,iD rnd,iD ser,zfi bl,zfi tl]] (yj<|decide (Env.okV nm rnd ser bl tl)):=by
 refine yO Tryz.func86 k9 V k9 fun base w0=>(zp (SWl.e2 (S:=[]) (yv V V) fun g1=>(zf V<|zV<|za V (zc (n:=0) V k9)<|za V (zg 0 V V V k9 zh)<|zt (S:=[]) (zD [] (zex nm hs) V ⟨(zo<|zb _),t9⟩ V)<|zd V<|zU 6 V (fun hb6=> ?_) (fun hb6=> ?_))))
 ·have h6:=oT hb6;refine zy hb6 (zc (n:=1) V k9) (zy hb6 (zg 0 V V V k9 zh)<|zy hb6 (ZB V V)<|za V (zB V hb6 V)<|zd V<|zU 11 V (fun hb11=> ?_) (fun hb11=> ?_))
  ·have h11:=oT hb11;refine zy hb11 (zc (n:=1) V k9) (zy hb11 (zg 0 V V V k9 zh)<|zy hb11 (YR V V)<|za V (zB V hb11 V)<|zd V<|zU 16 V (fun hb16=> ?_) (fun hb16=> ?_))
   ·have h16:=oT hb16;refine zy hb16 (zc (n:=2) V k9) (zy hb16 (zg 0 V V V k9 zh)<|zy hb16 (ZB V V)<|za V (zB V hb16 V)<|zd V<|zU 21 V (fun hb21=> ?_) (fun hb21=> ?_))
    ·have h21:=oT hb21;refine zy hb21 (zc (n:=2) V k9) (zy hb21 (zg 0 V V V k9 zh)<|zy hb21 (YR V V)<|za V (zB V hb21 V)<|zd V<|zU 26 V (fun hb26=> ?_) (fun hb26=> ?_))
     ·have h26:=oT hb26;refine zy hb26 (zc (n:=3) V k9) (zy hb26 (zg 0 V V V k9 zh)<|zy hb26 (Ks (e:=5) V k9)<|zy hb26 (ZB V V)<|za V (zB V hb26 V)<|zd V<|zU 32 V (fun hb32=> ?_) (fun hb32=> ?_))
      ·have h32:=oT hb32;refine zy hb32 (zc (n:=3) V k9) (zy hb32 (zg 0 V V V k9 zh)<|zy hb32 (Ks (e:=5) V k9)<|zy hb32 (YR V V)<|za V (zB V hb32 V)<|zd V<|zU 38 V (fun hb38=> ?_) (fun hb38=> ?_))
       ·have h38:=oT hb38;refine zy hb38 (zc (n:=4) V k9) (zy hb38 (zg 0 V V V k9 zh)<|zy hb38 (Ks (e:=5) V k9)<|zy hb38 (yM V V)<|za V (zB V hb38 V)<|zf V<|ze<|zK (fn:=Tryz.f86) (fun _ _ h=>h)<|Rs.le (Rs.one V<|zj V) ?_);exact zZ (by rw [JW];exact ⟨fun h=>⟨h6,⟨h11,h16⟩,⟨h21,h26⟩,⟨by omega,by omega⟩,by omega⟩,fun h=>by have:=h.2.2.2.2;omega⟩)
       ·have h38:=oF hb38;refine zq hb38 (zq hb38<|zq hb38<|zq hb38<|za V (zv V hb38 V)<|zf V<|ze<|zK (fn:=Tryz.f86) (fun _ _ h=>h)<|Rs.le (Rs.one V<|zj V) ?_);exact zZ (by symm;apply Jd;intro h;exact h38 (by have:=h.2.2.2.1.2;omega))
      ·have h32:=oF hb32;refine zq hb32 (zq hb32<|zq hb32<|zq hb32<|za V (zv V hb32 V)<|zd V<|zq V<|zq V<|zq V<|zq V<|za V (zv V V V)<|zf V<|ze<|zK (fn:=Tryz.f86) (fun _ _ h=>h)<|Rs.le (Rs.one V<|zj V) ?_);exact zZ (by symm;apply Jd;intro h;exact h32 (by have:=h.2.2.2.1.1;omega))
     ·have h26:=oF hb26;refine zq hb26 (zq hb26<|zq hb26<|zq hb26<|za V (zv V hb26 V)<|zd V<|zq V<|zq V<|zq V<|zq V<|za V (zv V V V)<|zd V<|zq V<|zq V<|zq V<|zq V<|za V (zv V V V)<|zf V<|ze<|zK (fn:=Tryz.f86) (fun _ _ h=>h)<|Rs.le (Rs.one V<|zj V) ?_);exact zZ (by symm;apply Jd;intro h;exact h26 h.2.2.1.2)
    ·have h21:=oF hb21;refine zq hb21 (zq hb21<|zq hb21<|za V (zv V hb21 V)<|zd V<|zq V<|zq V<|zq V<|zq V<|za V (zv V V V)<|zd V<|zq V<|zq V<|zq V<|zq V<|za V (zv V V V)<|zd V<|zq V<|zq V<|zq V<|zq V<|za V (zv V V V)<|zf V<|ze<|zK (fn:=Tryz.f86) (fun _ _ h=>h)<|Rs.le (Rs.one V<|zj V) ?_);exact zZ (by symm;apply Jd;intro h;exact h21 h.2.2.1.1)
   ·have h16:=oF hb16;refine zq hb16 (zq hb16<|zq hb16<|za V (zv V hb16 V)<|zd V<|zq V<|zq V<|zq V<|za V (zv V V V)<|zd V<|zq V<|zq V<|zq V<|zq V<|za V (zv V V V)<|zd V<|zq V<|zq V<|zq V<|zq V<|za V (zv V V V)<|zd V<|zq V<|zq V<|zq V<|zq V<|za V (zv V V V)<|zf V<|ze<|zK (fn:=Tryz.f86) (fun _ _ h=>h)<|Rs.le (Rs.one V<|zj V) ?_);exact zZ (by symm;apply Jd;intro h;exact h16 h.2.1.2)
  ·have h11:=oF hb11;refine zq hb11 (zq hb11<|zq hb11<|za V (zv V hb11 V)<|zd V<|zq V<|zq V<|zq V<|za V (zv V V V)<|zd V<|zq V<|zq V<|zq V<|za V (zv V V V)<|zd V<|zq V<|zq V<|zq V<|zq V<|za V (zv V V V)<|zd V<|zq V<|zq V<|zq V<|zq V<|za V (zv V V V)<|zd V<|zq V<|zq V<|zq V<|zq V<|za V (zv V V V)<|zf V<|ze<|zK (fn:=Tryz.f86) (fun _ _ h=>h)<|Rs.le (Rs.one V<|zj V) ?_);exact zZ (by symm;apply Jd;intro h;exact h11 h.2.1.1)
 ·have h6:=oF hb6;refine zq hb6 (zq hb6<|zq hb6<|za V (zv V hb6 V)<|zd V<|zq V<|zq V<|zq V<|za V (zv V V V)<|zd V<|zq V<|zq V<|zq V<|za V (zv V V V)<|zd V<|zq V<|zq V<|zq V<|za V (zv V V V)<|zd V<|zq V<|zq V<|zq V<|zq V<|za V (zv V V V)<|zd V<|zq V<|zq V<|zq V<|zq V<|za V (zv V V V)<|zd V<|zq V<|zq V<|zq V<|zq V<|za V (zv V V V)<|zf V<|ze ?_);refine zK (fn:=Tryz.f86) (fun _ _ h=>h) (Rs.le (Rs.one V<|zj V) ?_);exact zZ (by symm;apply Jd;intro h;exact h6 h.1)
theorem zbn (key:LB) (hk:key.length≤100000):Con Tryz.prog 81 [bD key] (Yk [yY<|Env.comB key,iD<|Env.comE key]):=by
 refine YP Tryz.func81 k9 V k9 fun base w0=>(zp<|zf V<|zf V<|ze<|zk<|zp<|zd V<|za V (ZC (e:=5) V k9)<|za V (ye V V)<|ze<|zJ V (fun hb7=> ?_) (fun hb7=> ?_))
 ·have h7:¬key.length=32:=by (simp at hb7;omega)
  refine zp (zf V<|zf V<|ze<|zK (fn:=Tryz.f81) (fun _ _ h=>h)<|Rs.le (ym V (zj V)<|zj V) ?_);exact yn ⟨zF (by rw [Env.comB,Jb h7]),zF (by rw [Env.comE,Jb h7]),t9⟩
 ·have h7:key.length=32:=by (simp at hb7;omega)
  refine zr (zn<|zp<|zd V<|za V (qP (e:=5) V k9 k9 k9 s9)<|za V (zfW V V (by simp;omega))<|zt (S:=[]) (zau (e:=5) V k9 k9 k9 V)<|zt (S:=[]) (zD [] (con_sumR2 _ (by simp;omega)) V ⟨(zo zaR),t9⟩ V) (SWl.e2 (S:=[]) (zM (zs:=cellsOf<|List.replicate 32 0) k9 V) fun g4=>(zt (S:=[_]) (Yo 0 32 V V V k9 (by first | assumption | (simp;done) | (simp;omega)) (by first | assumption | (simp;done) | (simp;omega))<|m9 V)<|zV<|za V (Ko (e:=5) (n:=32) V k9 k9)<|za V (zeN (e:=5) 0 V V (by first | assumption | (simp;done) | (simp;omega)) k9 k9 k9 zh)<|zf V<|zf V<|ze<|zK (fn:=Tryz.f81) (fun _ _ h=>h)<|Rs.le (ym V (zj V)<|zj V) ?_)))
  exact yn ⟨zF (by rw [Env.comB,Jh h7];rfl),zF (by rw [Env.comE,Jh h7]),t9⟩
theorem zbd (e:Env.T) (h1:e.acc.length≤1000) (h2:0≤e.rnd∧e.rnd≤1048576) (h3:0≤e.ser∧e.ser≤1073741824) (h4:e.box.length≤10000):ConR Tryz.prog 143 [] [Zo [yY e.acc,iD e.rnd,iD e.ser,bD e.box,bD e.tag]] (fun t:Ust=>[.r t.F<|yP 5 1 Yt t.A t.c<|Env.sgnT e]) (fun t:Ust=>isD<|.slice t.A (Env.sgnT e).length t.c):=by
 have a1:=ZN (b:=e.acc) o9;have a2:=ZN (b:=e.box) o9;have a3:=Zv (n:=e.rnd.toNat) o9;have a4:=Zv (n:=e.ser.toNat) o9
 refine yg Tryz.func143 k9 V k9 fun base w0=>(zp (SWl.e2 (S:=[]) (yv V V) fun g1=>(zf V<|zV<|za V (zc (n:=0) V k9)<|za V (zg 0 V V V k9 zh)<|zt (S:=[]) (zau (e:=5) V k9 k9 k9 V) (SWl.e2 (S:=[]) (zC [] (qS e.acc o9) V ⟨zaR,t9⟩ d9 t9 (fun _ h=>h) V) fun s7=>(zf V<|ze<|zk<|zO (σ':=zN [(1,_),(3,_)] [_,_]) (sB [0,1] V V)<|zi<|zd V<|za V (zc (n:=1) V k9)<|za V (zg 0 V V V k9 zh)<|za V (ZU (r:=((e.rnd.toNat:Nat):Int)) .i64 V k9 k9<|zdU h2.1 o9) (SWl.e2 (S:=[]) (zC [] (Kh e.rnd.toNat o9) V ⟨zb _,t9⟩ d9 t9 (fun _ h=>h) V) fun s12=>(SWl.e4 (yN 1 1 1 V V (YE 2 V V) k9 k9 (by first | omega | (simp only [Jk] at *;omega)) d9 (fun _ h=>h) V) fun A13 F13 c13=>(zf V<|ze<|zk<|zO (σ':=zN [(1,_),(3,_)] [_,_]) (sB [0,2] V V)<|zi<|zd V<|za V (zc (n:=2) V k9)<|za V (zg 0 V V V k9 zh)<|za V (ZU (r:=((e.ser.toNat:Nat):Int)) .i64 V k9 k9<|zdU h3.1 o9) (SWl.e2 (S:=[]) (zC [] (Kh e.ser.toNat o9) V ⟨zb _,t9⟩ d9 t9 (fun _ h=>h) V) fun s18=>(SWl.e4 (yN 1 1 1 V V (YE 2 V V) k9 k9 (by first | omega | (simp only [Jk] at *;omega)) d9 (fun _ h=>h) V) fun A19 F19 c19=>(zf V<|ze ?_)))))))))))
 refine zk (zO (σ':=zN [(1,_),(3,_)] [_,_]) (sB [0,2] V V)<|zi<|zd V<|za V (zc (n:=3) V k9)<|za V (zg 0 V V V k9 zh) (SWl.e2 (S:=[]) (zC [] (qS e.box o9) V ⟨zb _,t9⟩ d9 t9 (fun _ h=>h) V) fun s23=>(SWl.e4 (yN 1 1 1 V V (YE 2 V V) k9 k9 (by first | omega | (simp only [Jk] at *;omega)) d9 (fun _ h=>h) V) fun A24 F24 c24=>(zf V<|ze<|zQ (fn:=Tryz.f143) ((⟨A24,c24,F24⟩:Ust)) [2] (fun _ _ h=>h) (Rs.le (Rs.one V<|zj V) ?_) d9 ⟨lR V,t9⟩))))
 exact zb _
theorem zeu (l:List Acc.T) (e:Env.T) (hf:Acc.Fine l) (hs:e.acc.length≤1000000):ConN Tryz.prog 87 [Zo [lsD Yz l],Zo [yY e.acc,iD e.rnd,iD e.ser,bD e.box,bD e.tag]] (iD<|Env.autE l e):=by
 refine yO Tryz.func87 k9 V k9 fun base w0=>(zp (SWl.e2 (S:=[]) (yv V V) fun g2=>(SWl.e2 (S:=[]) (yv V V) fun g3=>(zf V<|ze<|zk<|zp<|za V (zA 1 5 V V k9 V zh)<|zt (S:=[]) (zD [] (KG e.acc e.rnd e.ser e.box.length e.tag.length<|hs) V ⟨(zo<|ZM ⟨zb _,zb _,zb _,ZV,ZV,t9⟩),t9⟩ V)<|za V (yS V)<|ze<|zJ V (fun hb9=> ?_) (fun hb9=> ?_)))))
 ·have h9:¬Env.ok e:=by (intro h;rw [show decide (Env.okV e.acc e.rnd e.ser e.box.length e.tag.length)=true from zfd h] at hb9;cases hb9)
  refine zp (zf V<|ze<|zK (fn:=Tryz.f87) (fun _ _ h=>h)<|Rs.le (Rs.one V<|zj V) ?_);exact Le.trans (zF (by unfold Env.autE;rw [if_neg h9])) zu
 ·have h9:Env.ok e:=by (by_cases h:Env.ok e;exact h;rw [show decide (Env.okV e.acc e.rnd e.ser e.box.length e.tag.length)=false from zfe h] at hb9;cases hb9)
  refine zr (zn<|zk ?_);obtain ⟨k1,k2,k3,k4,k5,k6,k7,k8⟩:=Env.ok_len h9
  refine zO (σ':=zN [(2,pA g2),(3,pA g3)] [.c g2 [lsD Yz l],.c g3 [yY e.acc,iD e.rnd,iD e.ser,bD e.box,bD e.tag]]) (sB [0,1] V V) (yh [] (rr [0,1,2,3]<|.n 4 (.n 5 (rr [6,7,8,9,10] .fin) .no) .no) k9 k9 (fun d _ _ _ _ h=>by cases d <;> exact h)<|zl V V (zA 0 1 V V k9 V zh)<|zl V V (zc (n:=0) V k9)<|zl V V (zg 1 V V V k9 zh)<|zl V V (zA 1 5 V V k9 V zh)<|ZG V (Zb (zbd e o9 ⟨k2,k3⟩ ⟨k4,k5⟩ o9) V ⟨zb _,t9⟩ V) ?_ yf)
  rintro _ _ ⟨s15,rfl,rfl⟩;refine yw V (zD [2] (con_tagR l e.acc (Env.sgnT e) hf (by have:=Env.sgnT_len h9;omega)) V ⟨(ZQ ⟨(zo<|zb _),t9⟩),(zo<|zb _),(VF 2 V d9),t9⟩ V) (zL V V<|zl V V (zm V V)<|zl V V (zm V V)<|Zh V V<|Zh V V<|yI<|zk<|zk ?_);obtain ⟨T,hT⟩:∃ T,T=Z4 l e.acc (Env.sgnT e):=⟨_,rfl⟩;obtain ⟨E,hE⟩:∃ E,E=Y5 l e.acc (Env.sgnT e):=⟨_,rfl⟩
  have hA:Env.autE l e=jH E T e.tag:=by unfold Env.autE;rw [if_pos h9,hT,hE];rfl
  refine zO (σ':=zN [(3,pA g3),(5,yY T),(6,iD E)] [.c g3 [yY e.acc,iD e.rnd,iD e.ser,bD e.box,bD e.tag]]) (⟨⟨_,V,⟨lq V,⟨⟨_,V,(by rw [hT];exact zb _)⟩,⟨⟨_,V,(by rw [hE];exact zb _)⟩,t9⟩⟩⟩⟩,[1],by decide,⟨la rfl,trivial⟩⟩) (zi<|zd V<|za V (ye V V)<|ze<|zJ V (fun hb20=> ?_) (fun hb20=> ?_))
  ·have h20:E≠0:=by simpa using hb20
   refine zp (zd V<|zf V<|ze<|zK (fn:=Tryz.f87) (fun _ _ h=>h)<|Rs.le (Rs.one V<|zj V) ?_);exact Le.trans (zF (by rw [hA,jH,if_pos h20])) zu
  ·have h20:¬E≠0:=by simpa using hb20
   refine zr (zn<|zk<|zp<|zd V<|za V (zc (n:=4) V k9)<|za V (zg 0 V V V k9 zh)<|za V (qP (e:=5) V k9 k9 k9 s9)<|za V (zcI (p:=T) (q:=e.tag) V V)<|ze<|zJ V (fun hb26=> ?_) (fun hb26=> ?_))
   ·have h26:¬T=e.tag:=by simpa using hb26
    refine zp (zf V<|ze<|zK (fn:=Tryz.f87) (fun _ _ h=>h)<|Rs.le (Rs.one V<|zj V) ?_);exact Le.trans (zF (by rw [hA,jH,if_neg h20,if_neg h26])) zu
   ·have h26:T=e.tag:=by simpa using hb26
    refine zr (zn<|zp<|zf V<|ze<|zK (fn:=Tryz.f87) (fun _ _ h=>h)<|Rs.le (Rs.one V<|zj V) ?_);exact Le.trans (zF (by rw [hA,jH,if_neg h20,if_pos h26])) zu
theorem zhm (l:List Acc.T) (e:Env.T) (key:LB) (hf:Acc.Fine l) (hs:e.acc.length≤1000000):Con Tryz.prog 138 [Zo [lsD Yz l],Zo [yY e.acc,iD e.rnd,iD e.ser,bD e.box,bD e.tag],bD key] (Yk [yY<|Env.opB l e key,iD<|Env.opE l e key]):=by
 refine YP Tryz.func138 k9 V k9 fun base w0=>(zp (SWl.e2 (S:=[]) (yv V V) fun g3=>(SWl.e2 (S:=[]) (yv V V) fun g4=>(zf V<|zf V<|ze<|zk<|zp<|zd V<|za V (ZC (e:=5) V k9)<|za V (ye V V)<|ze<|zJ V (fun hb13=> ?_) (fun hb13=> ?_)))))
 ·have h13:¬key.length=32:=by (simp at hb13;omega)
  refine zp (zf V<|zf V<|ze<|zK (fn:=Tryz.f138) (fun _ _ h=>h)<|Rs.le (ym V (zj V)<|zj V) ?_);exact yn ⟨zF (by rw [(opA_key (l:=l) (e:=e) h13).2]),zF (by rw [(opA_key (l:=l) (e:=e) h13).1]),t9⟩
 ·have h13:key.length=32:=by (simp at hb13;omega)
  refine zr (zn<|zk<|zp<|za V (zA 0 1 V V k9 V zh)<|za V (zA 1 5 V V k9 V zh)<|zt (S:=[]) (zD [] (zeu l e hf hs) V ⟨(ZQ ⟨(zo<|zb _),t9⟩),(ZQ ⟨(zo<|zb _),(zo<|zb _),(zo<|zb _),(zo<|zb _),(zo<|zb _),t9⟩),t9⟩ V)<|zf V<|zV<|zd V<|za V (ye V V)<|ze<|zJ V (fun hb18=> ?_) (fun hb18=> ?_))
  ·have h18:Env.autE l e≠0:=by simpa using hb18
   refine zp (zd V<|zf V<|zf V<|ze<|zK (fn:=Tryz.f138) (fun _ _ h=>h)<|Rs.le (ym V (zj V)<|zj V) ?_);exact yn ⟨zF (by rw [(opA_aut (l:=l) h13 h18).2]),zF (by rw [(opA_aut (l:=l) h13 h18).1]),t9⟩
  ·have h18:Env.autE l e=0:=by simpa using hb18
   refine zr (zn<|zk ?_);have hal:=(Env.ok_len<|aut_ok h18).1
   refine zO (σ':=zN [(2,_),(4,_)] [_]) (sB [1] V V) (yh [] (rr [0,1,2,3,5,6]<|.n 4 (.n 7 (rr [8,9,10,11,12] .fin) .no) .no) k9 k9 (fun d _ _ _ _ h=>by cases d <;> exact h)<|zL V V<|zl V V (zc (n:=0) V k9)<|zl V V (zg 0 V V V k9 zh)<|zl V V (zfW V V (by simp;omega))<|zl V V (zc (n:=3) V k9)<|zl V V (zg 0 V V V k9 zh)<|yw V (zY (zfx key (Env.bidL ++ e.acc) o9 (by simp [Env.bidL];omega)) V ⟨zb _,zb _,t9⟩ V)<|yw V (zY (con_openR (Env.keyB key e.acc) e.box (by simp [Env.keyB])) V ⟨zb _,zb _,t9⟩ V)<|zL V V<|zl V V (zm V V)<|zl V V (zm V V)<|Zh V V<|Zh V V<|yI<|zk<|zp<|zd V<|za V (ye V V)<|ze<|zJ V (fun hb32=> ?_) (fun hb32=> ?_))
   ·have h32:(Sl.openB (Env.keyB key e.acc) e.box).2≠0:=by simpa using hb32
    refine zp (zf V<|zf V<|ze<|zK (fn:=Tryz.f138) (fun _ _ h=>h)<|Rs.le (ym V (zj V)<|zj V) ?_);exact yn ⟨zF (by rw [(opA_bad (l:=l) h13 h18 h32).2]),zF (by rw [(opA_bad (l:=l) h13 h18 h32).1]),t9⟩
   ·have h32:¬(Sl.openB (Env.keyB key e.acc) e.box).2≠0:=by simpa using hb32
    refine zr (zn<|zp<|zd V<|za V (qP (e:=5) V k9 k9 k9 s9)<|zf V<|zf V<|ze<|zK (fn:=Tryz.f138) (fun _ _ h=>h)<|Rs.le (ym V (zj V)<|zj V) ?_);exact yn ⟨zF (by rw [(opA_ok (l:=l) h13 h18 h32).2]),zF (by rw [(opA_ok (l:=l) h13 h18 h32).1]),t9⟩
theorem KL (e:Env.T) (h:Env.ok e):Con Tryz.prog 88 [Zo [yY e.acc,iD e.rnd,iD e.ser,bD e.box,bD e.tag]] (bD<|Env.enc e):=by
 obtain ⟨k1,k2,k3,k4,k5,k6,k7,k8⟩:=Env.ok_len h;have hsl:=Env.sgnT_len h;have a2:=ZN (b:=e.tag) o9
 refine YP Tryz.func88 k9 V k9 fun base w0=>(zp (SWl.e2 (S:=[]) (yv V V) fun g1=>(zf V<|ze<|zk<|yh [] (rr [0,2,3]<|.n 1 (.n 4 (.e 5 (.r 6 .fin) .no) .no) .no) k9 k9 (fun d _ _ _ _ h=>by cases d <;> exact h)<|zl V V (zA 0 5 V V k9 V zh)<|zl V V (zc (n:=4) V k9)<|zl V V (zg 0 V V V k9 zh)<|ZG V (Zb (zbd e o9 ⟨k2,k3⟩ ⟨k4,k5⟩ o9) V ⟨zb _,t9⟩ V) ?_ yf)))
 rintro _ _ ⟨s4,rfl,rfl⟩;refine ZG V (Zb (qS e.tag o9) V ⟨zb _,t9⟩ V) ?_ yf;rintro _ _ ⟨s7,rfl,rfl⟩
 refine yW V (yN 1 1 1 V V (YE 2 V V) k9 k9 (by first | omega | (simp only [Jk] at *;omega)) d9 (fun _ h=>mL _<|mR _<|mL _ h) V) ?_ yf
 rintro _ ⟨A8,F8,c8,rfl⟩;refine Zh V V (yI<|qk 2 2 V V (Yc _)<|zK (fn:=Tryz.f88) (fun _ _ h=>h)<|Rs.le (Rs.one V<|zj V) ?_);exact zb _
theorem VX (a b:Env.T):ConN Tryz.prog 26 [Zo [yY a.acc,iD a.rnd,iD a.ser,bD a.box,bD a.tag],Zo [yY b.acc,iD b.rnd,iD b.ser,bD b.box,bD b.tag]] (yj<|decide (a=b)):=by
 refine yO Tryz.func26 k9 V k9 fun base w0=>(zp (SWl.e2 (S:=[]) (yv V V) fun g2=>(SWl.e2 (S:=[]) (yv V V) fun g3=>(zf V<|zV<|za V (zc (n:=0) V k9)<|za V (zg 0 V V V k9 zh)<|za V (zc (n:=0) V k9)<|za V (zg 1 V V V k9 zh)<|za V (zbB (p:=a.acc) (q:=b.acc) V V)<|zd V<|zU 10 V (fun hb10=> ?_) (fun hb10=> ?_)))))
 ·have h10:=oT hb10;refine zy hb10 (zc (n:=1) V k9) (zy hb10 (zg 0 V V V k9 zh)<|zy hb10 (zc (n:=1) V k9)<|zy hb10 (zg 1 V V V k9 zh)<|zy hb10 (yM V V)<|za V (zB V hb10 V)<|zd V<|zU 17 V (fun hb17=> ?_) (fun hb17=> ?_))
  ·have h17:=oT hb17;refine zy hb17 (zc (n:=2) V k9) (zy hb17 (zg 0 V V V k9 zh)<|zy hb17 (zc (n:=2) V k9)<|zy hb17 (zg 1 V V V k9 zh)<|zy hb17 (yM V V)<|za V (zB V hb17 V)<|zd V<|zU 24 V (fun hb24=> ?_) (fun hb24=> ?_))
   ·have h24:=oT hb24;refine zy hb24 (zc (n:=3) V k9) (zy hb24 (zg 0 V V V k9 zh)<|zy hb24 (qP (e:=5) V k9 k9 k9 s9)<|zy hb24 (zc (n:=3) V k9)<|zy hb24 (zg 1 V V V k9 zh)<|zy hb24 (qP (e:=5) V k9 k9 k9 s9)<|zy hb24 (zbB (p:=a.box) (q:=b.box) V V)<|za V (zB V hb24 V)<|zd V<|zU 33 V (fun hb33=> ?_) (fun hb33=> ?_))
    ·have h33:=oT hb33;refine zy hb33 (zc (n:=4) V k9) (zy hb33 (zg 0 V V V k9 zh)<|zy hb33 (qP (e:=5) V k9 k9 k9 s9)<|zy hb33 (zc (n:=4) V k9)<|zy hb33 (zg 1 V V V k9 zh)<|zy hb33 (qP (e:=5) V k9 k9 k9 s9)<|zy hb33 (zbB (p:=a.tag) (q:=b.tag) V V)<|za V (zB V hb33 V)<|zf V<|ze<|zK (fn:=Tryz.f26) (fun _ _ h=>h)<|Rs.le (Rs.one V<|zj V) ?_);exact zZ (by rw [JW,Env.eq_iff];exact ⟨fun h=>⟨h10,h17,h24,h33,h⟩,fun h=>h.2.2.2.2⟩)
    ·have h33:=oF hb33;refine zq hb33 (zq hb33<|zq hb33<|zq hb33<|zq hb33<|zq hb33<|zq hb33<|za V (zv V hb33 V)<|zf V<|ze<|zK (fn:=Tryz.f26) (fun _ _ h=>h)<|Rs.le (Rs.one V<|zj V) ?_);exact zZ (by symm;apply Jd;rw [Env.eq_iff];intro h;exact h33 h.2.2.2.1)
   ·have h24:=oF hb24;refine zq hb24 (zq hb24<|zq hb24<|zq hb24<|zq hb24<|zq hb24<|zq hb24<|za V (zv V hb24 V)<|zd V<|zq V<|zq V<|zq V<|zq V<|zq V<|zq V<|zq V<|za V (zv V V V)<|zf V<|ze<|zK (fn:=Tryz.f26) (fun _ _ h=>h)<|Rs.le (Rs.one V<|zj V) ?_);exact zZ (by symm;apply Jd;rw [Env.eq_iff];intro h;exact h24 h.2.2.1)
  ·have h17:=oF hb17;refine zq hb17 (zq hb17<|zq hb17<|zq hb17<|zq hb17<|za V (zv V hb17 V)<|zd V<|zq V<|zq V<|zq V<|zq V<|zq V<|zq V<|zq V<|za V (zv V V V)<|zd V<|zq V<|zq V<|zq V<|zq V<|zq V<|zq V<|zq V<|za V (zv V V V)<|zf V<|ze<|zK (fn:=Tryz.f26) (fun _ _ h=>h)<|Rs.le (Rs.one V<|zj V) ?_);exact zZ (by symm;apply Jd;rw [Env.eq_iff];intro h;exact h17 h.2.1)
 ·have h10:=oF hb10;refine zq hb10 (zq hb10<|zq hb10<|zq hb10<|zq hb10<|za V (zv V hb10 V)<|zd V<|zq V<|zq V<|zq V<|zq V<|zq V<|za V (zv V V V)<|zd V<|zq V<|zq V<|zq V<|zq V<|zq V<|zq V<|zq V<|za V (zv V V V)<|zd V<|zq V<|zq V<|zq V<|zq V<|zq V<|zq V<|zq V<|za V (zv V V V)<|zf V<|ze<|zK (fn:=Tryz.f26) (fun _ _ h=>h)<|Rs.le (Rs.one V<|zj V) ?_);exact zZ (by symm;apply Jd;rw [Env.eq_iff];intro h;exact h10 h.1)
