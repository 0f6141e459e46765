/- ROUNDS: Submit. ROUNDS: maps.Clone. ROUNDS: Copy. -/
import Derived.Test.YtgokpcnabgacnaaGreatDoorGZAZ
set_option maxHeartbeats 8000000
set_option maxRecDepth 100000
namespace Go.Proofs.YtgokpcnabgacnaaGreatDoor
open Go.RowKit
namespace Sx
section
theorem zcu (gr:Nat) (F:LN) (s:Rnd.S) (e:Env.T) (now:Int) (hg:Rnd.Good s):ConR Tryz.prog 22 [.r F<|Yj gr s] [pA gr,Zo [yY e.acc,iD e.rnd,iD e.ser,bD e.box,bD e.tag],iD now] (fun F':LN=>[.r F'<|Yj gr<|Rnd.subS s e now]) (fun F':LN=>iD<|Rnd.subE s e now):=by
 refine yg Tryz.func22 k9 V k9 fun base w0=>(zk<|yd (Yv (gr:=gr) (s:=s)) [0] d9 ⟨lR V,t9⟩ ?_);rintro _ ⟨t,rfl⟩;refine zi (SWl.e2 (S:=[]) (Yh V (fun _ _ _ h=>Zg<|One.h _ _ _ h) V) fun g3=>(SWl.e2 (S:=[]) (yv V V) fun g4=>(SWl.e2 (S:=[]) (Yh V (fun _ _ _ h=>Zg<|One.h _ _ _ h) V) fun g5=>(zf V<|ze<|zk<|zp<|za V (zg 6 V V V k9 zh)<|zt (S:=[]) (zD [0,5] (qF _ _ s.ws s.ck _ _ _ s.ks) V ⟨(yG 0 V d9 ⟨(zo<|zb _),(zo<|zb _),(zo<|zb _),(zo<|zb _),(zo<|zb _),(yV 5 V d9),t9⟩),t9⟩ V)<|ze<|zE V V<|zr<|zn<|zp (SWl.e2 (S:=[]) (zC [] (zed) V t9 d9 t9 (fun _ h=>h) V) fun gc=>(zd V<|za V (zm V V)<|za V (zm V V)<|zf V<|zf V<|ze<|zk<|Ys (fun σ=>σ=zN [(3,pA g3),(4,pA g4),(5,pA g5),(7,isD<|.func (.func 116) #[] #[.pointer<|some ⟨gc,0,none⟩]),(8,isD<|.func (.func 117) #[] #[.pointer<|some ⟨gc,0,none⟩])] [.c g3 [pA gr],.c g4 [yY e.acc,iD e.rnd,iD e.ser,bD e.box,bD e.tag],.c g5 [iD now],.c gr [pA t.1.gb,lsD YB s.ws,iD s.ck,pA t.1.gl,isD<|.slice t.1.A t.1.Ms.length t.1.c,isD<|.map<|some t.1.gk],.r t.1.Fb<|bkP t.1.gb s.bk,.r t.1.Fl<|ldP t.1.gl s.en,.r t.1.Fv<|yP 133 1 zeY t.1.A t.1.c t.1.Ms,.r t.1.Fm<|zbR<|mps s.es t.1.Ms,.r t.1.Fk<|Zc (some t.1.gk) jM (Rnd.rks s.ks)<|kyD s.ks,.c gc [iD<|Rnd.c1 e now]]) ?_ ?_))))))
 ·skip
  by_cases h1:Env.ok e
  ·skip
   refine zO (σ':=zN [(3,_),(4,_),(5,_),(7,_),(8,_)] [_,_,_,_,_,_,_,_,_,_]) (sB [6,7,8,0,1,2,3,4,5,9] V V) (zi<|zd V<|za V (zA 1 5 V V k9 V zh)<|zt (S:=[]) (zD [] (qZ e.acc e.rnd e.ser e.box.length e.tag.length) V ⟨(zo<|ZM ⟨zb _,zb _,zb _,ZV,ZV,t9⟩),t9⟩ V)<|zd V<|yL V V (Jo h1) V V (zg 2 V V V k9 zh)<|ZD (S:=[]) V V (Jo h1) V (zD [] (WF now) V ⟨(zo<|zb _),t9⟩ V) ?_);rintro _ rfl;refine za V (zB V (Jo h1) V) (YJ (S:=[]) (zC [] (ZI (decide (Rnd.time now)) 2) V ⟨zb _,zb _,t9⟩ d9 t9 (fun _ h=>h) V) ?_);rintro _ ⟨⟨ua,ub⟩,rfl⟩
   exact SWl.e2 (yR (cap:=[.pointer<|some ⟨gc,0,none⟩]) [9,10,11] (jv gc ua ub (0) (decide (Rnd.time now)) 2) V V ⟨zb _,zb _,t9⟩ d9 (sX V) (fun _ h=>h) V) fun _=>(zP<|yA V<|⟨⟨_,V,(sT V)⟩,[0,1,2,3,4,5,6,7,8,9],by decide,⟨la rfl,⟨la rfl,⟨la rfl,⟨la rfl,⟨lR rfl,⟨lR rfl,⟨lR rfl,⟨lR rfl,⟨lR rfl,⟨⟨_,rfl,⟨zF (by unfold Rnd.c1;rw [Jh rfl];simp [h1]),trivial⟩⟩,trivial⟩⟩⟩⟩⟩⟩⟩⟩⟩⟩⟩)
  ·skip
   refine zO (σ':=zN [(3,_),(4,_),(5,_),(7,_),(8,_)] [_,_,_,_,_,_,_,_,_,_]) (sB [6,7,8,0,1,2,3,4,5,9] V V) (zi<|zd V<|za V (zA 1 5 V V k9 V zh)<|zt (S:=[]) (zD [] (qZ e.acc e.rnd e.ser e.box.length e.tag.length) V ⟨(zo<|ZM ⟨zb _,zb _,zb _,ZV,ZV,t9⟩),t9⟩ V)<|zd V<|zh1 V V (Jd h1) V V<|zh1 V V (Jd h1) V V<|za V (zv V (Jd h1) V)<|YJ (S:=[]) (zC [] (ZI (false) 2) V ⟨zb _,zb _,t9⟩ d9 t9 (fun _ h=>h) V) ?_);rintro _ ⟨⟨ua,ub⟩,rfl⟩
   exact SWl.e2 (yR (cap:=[.pointer<|some ⟨gc,0,none⟩]) [9,10,11] (jv gc ua ub (0) (false) 2) V V ⟨zb _,zb _,t9⟩ d9 (sX V) (fun _ h=>h) V) fun _=>(zP<|yA V<|⟨⟨_,V,(sT V)⟩,[0,1,2,3,4,5,6,7,8,9],by decide,⟨la rfl,⟨la rfl,⟨la rfl,⟨la rfl,⟨lR rfl,⟨lR rfl,⟨lR rfl,⟨lR rfl,⟨lR rfl,⟨⟨_,rfl,⟨zF (by unfold Rnd.c1;rw [Jh rfl];simp [h1]),trivial⟩⟩,trivial⟩⟩⟩⟩⟩⟩⟩⟩⟩⟩⟩)
 ·rintro _ rfl;refine zn (zk<|Ys (fun σ=>σ=zN [(3,pA g3),(4,pA g4),(5,pA g5),(7,isD<|.func (.func 116) #[] #[.pointer<|some ⟨gc,0,none⟩]),(8,isD<|.func (.func 117) #[] #[.pointer<|some ⟨gc,0,none⟩])] [.c g3 [pA gr],.c g4 [yY e.acc,iD e.rnd,iD e.ser,bD e.box,bD e.tag],.c g5 [iD now],.c gr [pA t.1.gb,lsD YB s.ws,iD s.ck,pA t.1.gl,isD<|.slice t.1.A t.1.Ms.length t.1.c,isD<|.map<|some t.1.gk],.r t.1.Fb<|bkP t.1.gb s.bk,.r t.1.Fl<|ldP t.1.gl s.en,.r t.1.Fv<|yP 133 1 zeY t.1.A t.1.c t.1.Ms,.r t.1.Fm<|zbR<|mps s.es t.1.Ms,.r t.1.Fk<|Zc (some t.1.gk) jM (Rnd.rks s.ks)<|kyD s.ks,.c gc [iD<|Rnd.c2 s e now]]) ?_ ?_)
  ·skip
   by_cases h2:now≥s.ck
   ·skip
    refine zO (σ':=zN [(3,_),(4,_),(5,_),(7,_),(8,_)] [_,_,_,_,_,_,_,_,_,_]) (sB [0,1,2,3,4,5,6,7,8,9] V V) (yh (gc :: []) (rr [0,1,2,3,4,5,6,7,8,9,10]<|.n 11 (.r 12<|.n 13 (.e 14 .fin .no) .no) .no) k9 k9 (fun d _ _ _ _ h=>by cases d <;> exact h)<|zL V V<|zl V V (zg 2 V V V k9<|yK 9 V d9 zh)<|zl V V (zg 0 V V V k9<|yK 9 V d9 zh)<|zl V V (zz V)<|zl V V (zc (n:=2) V k9)<|zl V V (zg 3 V V V k9<|yK 9 V d9 zh)<|zl V V (ZB V V)<|zL V V<|zG V V V (Jo h2) V V (zg 0 V V V k9<|yK 9 V d9 zh)<|zG V V V (Jo h2) V V (zc (n:=1) V k9)<|zG V V V (Jo h2) V V (zg 1 V V V k9<|yK 9 V d9 zh)<|jx V V V (Jo h2) V (zD [3,8] (zbk _ _ s.ws s.ck _ _ _ s.ks e.rnd) V ⟨(yG 3 V d9 ⟨(zo<|zb _),(zo<|zb _),(zo<|zb _),(zo<|zb _),(zo<|zb _),(yV 8 V d9),t9⟩),(zo<|zb _),t9⟩ V) ?_ yf)
    rintro _ rfl;refine zl V V (zB V (Jo h2) V) (ZG V (Zb (ZI (decide (0≤e.rnd∧e.rnd < (s.ws.length:Int))) 3) V ⟨zb _,zb _,t9⟩ V) ?_ yf);rintro _ _ ⟨⟨ua,ub⟩,rfl,rfl⟩
    refine yW V (yR (cap:=[.pointer<|some ⟨gc,0,none⟩]) [9,10,11] (jv gc ua ub (Rnd.c1 e now) (decide (0≤e.rnd∧e.rnd < (s.ws.length:Int))) 3) V V ⟨zb _,zb _,t9⟩ d9 (sX V) (jL (mL _ mC)<|jL (mR _ mC)<|jL (mR _<|Jl _ mC) Z3) V) ?_ yf
    rintro _ ⟨⟨⟩,rfl⟩;exact yz (yA V<|⟨⟨_,V,(sT V)⟩,[0,1,2,3,4,5,6,7,8,9],by decide,⟨la rfl,⟨la rfl,⟨la rfl,⟨la rfl,⟨lR rfl,⟨lR rfl,⟨lR rfl,⟨lR rfl,⟨lR rfl,⟨⟨_,rfl,⟨zF (by unfold Rnd.c2;rw [show decide (s.ck≤now∧Rnd.has s e.rnd)=decide (0≤e.rnd∧e.rnd < (s.ws.length:Int)) by (rw [JW];exact ⟨fun h=>h.2,fun h=>⟨h2,h⟩⟩)]),trivial⟩⟩,trivial⟩⟩⟩⟩⟩⟩⟩⟩⟩⟩⟩)
   ·skip
    refine zO (σ':=zN [(3,_),(4,_),(5,_),(7,_),(8,_)] [_,_,_,_,_,_,_,_,_,_]) (sB [0,1,2,3,4,5,6,7,8,9] V V) (yh (gc :: []) (rr [0,1,2,3,4,5,6,7,8,9,10]<|.n 11 (.r 12<|.n 13 (.e 14 .fin .no) .no) .no) k9 k9 (fun d _ _ _ _ h=>by cases d <;> exact h)<|zL V V<|zl V V (zg 2 V V V k9<|yK 9 V d9 zh)<|zl V V (zg 0 V V V k9<|yK 9 V d9 zh)<|zl V V (zz V)<|zl V V (zc (n:=2) V k9)<|zl V V (zg 3 V V V k9<|yK 9 V d9 zh)<|zl V V (ZB V V)<|zL V V<|zH V V V (Jd h2) V V<|zH V V V (Jd h2) V V<|zH V V V (Jd h2) V V<|zgE V V V (Jd h2) V V ?_ yf)
    refine zl V V (zv V (Jd h2) V) (ZG V (Zb (ZI (false) 3) V ⟨zb _,zb _,t9⟩ V) ?_ yf);rintro _ _ ⟨⟨ua,ub⟩,rfl,rfl⟩
    refine yW V (yR (cap:=[.pointer<|some ⟨gc,0,none⟩]) [9,10,11] (jv gc ua ub (Rnd.c1 e now) (false) 3) V V ⟨zb _,zb _,t9⟩ d9 (sX V) (jL (mL _ mC)<|jL (mR _ mC)<|jL (mR _<|Jl _ mC) Z3) V) ?_ yf
    rintro _ ⟨⟨⟩,rfl⟩;exact yz (yA V<|⟨⟨_,V,(sT V)⟩,[0,1,2,3,4,5,6,7,8,9],by decide,⟨la rfl,⟨la rfl,⟨la rfl,⟨la rfl,⟨lR rfl,⟨lR rfl,⟨lR rfl,⟨lR rfl,⟨lR rfl,⟨⟨_,rfl,⟨zF (by unfold Rnd.c2;rw [show decide (s.ck≤now∧Rnd.has s e.rnd)=false by (apply Jd;intro h;exact h2 h.1)]),trivial⟩⟩,trivial⟩⟩⟩⟩⟩⟩⟩⟩⟩⟩⟩)
  ·rintro _ rfl;refine zn (zk<|yd (ZT (gr:=gr) (s:=s) t.1<|t.2) [3,4,5,6,7,8] d9 (sX V) ?_);rintro _ ⟨Fr,rfl⟩
   refine zO (σ':=zN [(3,_),(4,_),(5,_),(7,_),(8,_)] [_,_,_,_,_]) (sB [0,1,2,3,4] V V) (zi<|zd V<|za V (y9 [.pointer<|some ⟨g3,0,none⟩,.pointer<|some ⟨g4,0,none⟩,.pointer<|some ⟨g5,0,none⟩] V) (SWl.e2 (yR (cap:=[.pointer<|some ⟨gc,0,none⟩]) [3,0,1,2,4] (zaq 67 [.pointer<|some ⟨g3,0,none⟩,.pointer<|some ⟨g4,0,none⟩,.pointer<|some ⟨g5,0,none⟩] gc g3 g4 g5 _ _ _ Fr (Yj gr s) (Yj gr s) (Rnd.c2 s e now) (unE (decide (Rnd.st s e.rnd.toNat now=2)) 8) (fun h=>con_sub1 gr g3 g4 g5 Fr s e now hg (Rnd.c2_0.1 h).2.2) (fun _=>V)) V V ⟨zb _,zb _,t9⟩ d9 (sX V) (fun _ h=>h) V) fun F41=>(ze<|zk<|zO (σ':=zN [(3,_),(4,_),(5,_),(7,_),(8,_)] [_,_,_,_,_]) (sB [1,2,3,0,4] V V)<|zi<|zd V<|za V (y9 [.pointer<|some ⟨g3,0,none⟩,.pointer<|some ⟨g4,0,none⟩] V) (SWl.e2 (yR (cap:=[.pointer<|some ⟨gc,0,none⟩]) [3,0,1,2,4] (zaq 68 [.pointer<|some ⟨g3,0,none⟩,.pointer<|some ⟨g4,0,none⟩] gc g3 g4 g5 _ _ _ F41 (Yj gr s) (Yj gr s) (Rnd.c3 s e now) (Env.autE s.bk e) (fun _=>con_sub2 gr g3 g4 g5 F41 s e now hg) (fun _=>V)) V V ⟨zb _,zb _,t9⟩ d9 (sX V) (fun _ h=>h) V) fun F44=>(ze<|zk<|zO (σ':=zN [(3,_),(4,_),(5,_),(7,_),(8,_)] [_,_,_,_,_]) (sB [1,2,3,0,4] V V)<|zi<|zd V<|za V (y9 [.pointer<|some ⟨g3,0,none⟩,.pointer<|some ⟨g4,0,none⟩] V) (SWl.e2 (yR (cap:=[.pointer<|some ⟨gc,0,none⟩]) [3,0,1,2,4] (zaq 70 [.pointer<|some ⟨g3,0,none⟩,.pointer<|some ⟨g4,0,none⟩] gc g3 g4 g5 _ _ _ F44 (Yj gr s) (Yj gr s) (Rnd.c4 s e now) (Rnd.busyE s.es e) (fun h=>con_sub3 gr g3 g4 g5 F44 s e now hg (Rnd.c2_0.1 (Rnd.c3_0.1 (Rnd.c4_0.1 h).1).1).2.2) (fun _=>V)) V V ⟨zb _,zb _,t9⟩ d9 (sX V) (fun _ h=>h) V) fun F47=>(ze<|zk<|zO (σ':=zN [(3,_),(4,_),(5,_),(7,_),(8,_)] [_,_,_,_,_]) (sB [1,2,3,0,4] V V)<|zi<|zd V<|za V (y9 [.pointer<|some ⟨g4,0,none⟩,.pointer<|some ⟨g5,0,none⟩,.pointer<|some ⟨g3,0,none⟩] V) (SWl.e2 (yR (cap:=[.pointer<|some ⟨gc,0,none⟩]) [3,0,1,2,4] (zaq 71 [.pointer<|some ⟨g4,0,none⟩,.pointer<|some ⟨g5,0,none⟩,.pointer<|some ⟨g3,0,none⟩] gc g3 g4 g5 _ _ _ F47 (Yj gr s) (Yj gr<|Rnd.s5 s e now) (Rnd.c5 s e now) (y8 s.en 1<|Rnd.subP e now) (fun h=>by rw [show Rnd.s5 s e now=s.app 1 (Rnd.subP e now) from Jh h];exact con_sub4 gr g3 g4 g5 F47 s e now hg (Rnd.c5_ok h).1.1 (Rnd.c5_ok h).1.2) (fun h=>by rw [show Rnd.s5 s e now=s from Jb h])) V V ⟨zb _,zb _,t9⟩ d9 (sX V) (fun _ h=>h) V) fun F50=>(ze<|zk<|zk<|zO (σ':=zN [(3,_),(4,_),(5,_),(7,_),(8,_)] [_,_,_,_,_]) (sB [1,2,3,0,4] V V)<|zi<|zd V (SWl.e2 (yR (cap:=[.pointer<|some ⟨gc,0,none⟩]) [3] (K4 gc<|Rnd.c6 s e now) V V ⟨zb _,t9⟩ d9 ⟨la V,t9⟩ (fun _ h=>h) V) fun _=>(za V (ye V V)<|ze ?_)))))))))))
   refine zJ V (fun hb53=> ?_) (fun hb53=> ?_)
   ·have h53:Rnd.c6 s e now≠0:=by simpa using hb53
    refine zp (zd V (SWl.e2 (yR (cap:=[.pointer<|some ⟨gc,0,none⟩]) [4] (K4 gc<|Rnd.c6 s e now) V V ⟨zb _,t9⟩ d9 ⟨la V,t9⟩ (fun _ h=>h) V) fun _=>(zf V<|ze<|zQ (fn:=Tryz.f22) (F50) [3] (fun _ _ h=>h) (Rs.le (Rs.one V<|zj V) ?_) d9 ⟨⟨_,V,(by rw [← Rnd.sub_no hg h53];exact yu _)⟩,t9⟩)));exact zF (by rw [Rnd.subE_c6 hg])
   ·have h53:Rnd.c6 s e now=0:=(by simpa using hb53);obtain ⟨h5,hs5,hsub⟩:=Rnd.sub_yes hg h53;obtain ⟨⟨k1,k2⟩,⟨k3,k4⟩,k5,k6,k7⟩:=Rnd.c5_ok h5;obtain ⟨z1,z2,z3,z4,z5,z6,z7,z8⟩:=Env.ok_len k1;refine zr (zn<|zk<|zk<|zO (σ':=zN [(3,_),(4,_),(5,_)] [.c g3 [pA gr],.c g4 [yY e.acc,iD e.rnd,iD e.ser,bD e.box,bD e.tag],.c g5 [iD now],.r F50<|Yj gr ({ s with en:=s.en ++ [⟨1,Rnd.subP e now⟩] }:Rnd.S)]) (⟨⟨_,V,(sT V)⟩,[0,1,2,3],by decide,⟨la rfl,⟨la rfl,⟨la rfl,⟨⟨_,rfl,(by rw [hs5];exact yu _)⟩,trivial⟩⟩⟩⟩⟩)<|yd (Yv (gr:=gr) (s:=({ s with en:=s.en ++ [⟨1,Rnd.subP e now⟩] }:Rnd.S))) [3] d9 ⟨lR V,t9⟩ ?_);rintro _ ⟨t,rfl⟩;obtain ⟨i,hi⟩:∃ i:Nat,e.rnd=(i:Int):=⟨e.rnd.toNat,by have:=k4.1;omega⟩;obtain ⟨M,hM⟩:∃ M,t.1.Ms[i]? =some M:=⟨_,Je (by have h:t.1.Ms.length=s.ws.length:=t.2;have:=k4.2;omega)⟩;have hil:=(Jg.1 hM).1;refine yd (zaI<|zdV (es:=s.es) hM) [7] d9 ⟨lR V,t9⟩ ?_;rintro _ ⟨Gi,Fm,rfl⟩
    refine yh [] (rr [0,1,2,3,4,5,6,7,8] .fin) k9 k9 (fun d _ _ _ _ h=>by cases d <;> exact h) (zl V V (zg 0 V V V k9 zh)<|zl V V (zz V)<|zl V V (zc (n:=4) V k9)<|zl V V (zg 3 V V V k9 zh)<|zl V V (zc (n:=1) V k9)<|zl V V (zg 1 V V V k9 zh)<|zl V V (jG 6 1 V V V k9 k9 o9 (by rw [hi];omega))<|zl V V (qI 6 V V k9 (show t.1.Ms[e.rnd.toNat]? =some M by rw [hi];exact hM) V zh)<|zl V V (zeO (kt:=9) (et:=58) V V k9)<|yI<|zJ V (fun hb64=> ?_) (fun hb64=> ?_))
    ·obtain rfl:M=none:=by (cases M;rfl;cases hb64)
     refine zcF 8 V fun hK=>(yh (t.1.Fv ++ []) (rr [0,1,2,3,4,5]<|.n 6 (.r 7<|.e 8 .fin .no) .no) k9 k9 (fun d _ _ _ _ h=>by cases d <;> exact h)<|zl V V (zg 0 V V V k9<|yB 6 V d9 zh)<|zl V V (zz V)<|zl V V (zc (n:=4) V k9)<|zl V V (zg 3 V V V k9<|yB 6 V d9 zh)<|zl V V (zc (n:=1) V k9)<|zl V V (zg 1 V V V k9<|yB 6 V d9 zh)<|ZP V (jo (enc:=Zi) (zbI s.es i) V) ?_ yf)
     rintro _ ⟨g71,rfl⟩
     refine zl V V (jG 6 1 V V V k9 k9 o9 (by rw [hi];omega)) (yy V (zcK (v:=some g71) 6 V V V V k9 (by rw [hi];omega) (fun _ h=>mL _ h))<|yI<|zk<|zO (σ':=zN [(3,_),(4,_),(5,_)] [.c g3 [pA gr],.c g4 [yY e.acc,iD e.rnd,iD e.ser,bD e.box,bD e.tag],.c g5 [iD now],.c gr [pA t.1.gb,lsD YB s.ws,iD s.ck,pA t.1.gl,isD<|.slice t.1.A (t.1.Ms.set i<|some g71).length t.1.c,isD<|.map<|some t.1.gk],.r t.1.Fb<|bkP t.1.gb ({ s with en:=s.en ++ [⟨1,Rnd.subP e now⟩] }:Rnd.S).bk,.r t.1.Fl<|ldP t.1.gl ({ s with en:=s.en ++ [⟨1,Rnd.subP e now⟩] }:Rnd.S).en,.r t.1.Fv<|yP 133 1 zeY t.1.A t.1.c<|t.1.Ms.set i<|some g71,.r Fm<|zbS (mps s.es t.1.Ms) i,.r t.1.Fk<|Zc (some t.1.gk) jM (Rnd.rks ({ s with en:=s.en ++ [⟨1,Rnd.subP e now⟩] }:Rnd.S).ks)<|kyD ({ s with en:=s.en ++ [⟨1,Rnd.subP e now⟩] }:Rnd.S).ks,.r [g71]<|Zc (some g71) Zi []<|zbI s.es i]) (⟨⟨_,V,(sT V)⟩,[0,1,2,3,4,5,10,8,6,9],by decide,⟨la rfl,⟨la rfl,⟨la rfl,⟨⟨_,rfl,⟨zb _,zb _,zb _,zb _,zF s9,zb _,trivial⟩⟩,⟨lR rfl,⟨lR rfl,⟨⟨_,rfl,ZZ s9 (by rw [show e.rnd.toNat=i by omega])⟩,(sX rfl)⟩⟩⟩⟩⟩⟩⟩⟩)<|yh ([g71] ++ []) (rr [0,1,2,3,4,5,6,7,8,9,10]<|.n 11 (.e 12 .fin .no) .no) k9 k9 (fun d _ _ _ _ h=>by cases d <;> exact h)<|zl V V (zg 0 V V V k9<|yB 9 V d9 zh)<|zl V V (zz V)<|zl V V (zc (n:=4) V k9)<|zl V V (zg 3 V V V k9<|yB 9 V d9 zh)<|zl V V (zc (n:=1) V k9)<|zl V V (zg 1 V V V k9<|yB 9 V d9 zh)<|zl V V (jG 6 1 V V V k9 k9 o9 (by rw [hi,Xl];omega))<|zl V V (qI 6 V V k9 (show (t.1.Ms.set i _)[e.rnd.toNat]? =some _ by rw [show e.rnd.toNat=i by omega,List.getElem?_set_self hil]) V<|yB 9 V d9 zh) ?_)
     refine zl V V (zc (n:=0) V k9) (zl V V (zg 1 V V V k9<|yB 9 V d9 zh)<|zl V V (zA 1 5 V V k9 V<|yB 9 V d9 zh)<|yw V (zY (Vk e o9 o9) V ⟨zb _,t9⟩ V)<|yy V (WR (kt:=9) (et:=58) (K':=(Rnd.keysE (Rnd.put s.es e) i)) (f':=(zbI (Rnd.put s.es e) i)) 9 V V V (show Le (yY e.acc) (isD<|Zi e.acc) from zb _) V (by rw [zea hi];exact zb _) (fun q=>(Rnd.keys_put hi q).trans (by rw [hK])) (fun q _ hq=>by rw [zc6 (fun h=>hq h.2.symm)];exact zb _) k9 (zd4 _) (fun _ h=>mL _ h))<|yI<|zk<|zO (σ':=zN [(3,_),(4,_),(5,_)] [_,_,_,_,_,_,_,_,_,_]) (sB [0,1,2,3,4,5,6,7,8,9] V V)<|zi<|za V (zg 0 V V V k9 zh)<|za V (zg 2 V V V k9 zh)<|za V (zz V)<|za V (zc (n:=2) V k9)<|zt (S:=[_]) (zR 3 V V V k9 V<|m9 V)<|zV<|zf V<|ze<|yd (zh6 hi hil) [9,7] d9 (sX V) ?_);rintro _ ⟨Fm2,rfl⟩;refine yd (ZT (gr:=gr) (s:=({ s with es:=Rnd.put s.es e,ck:=now,en:=s.en ++ [⟨1,Rnd.subP e now⟩] }:Rnd.S)) { t.1 with Ms:=(t.1.Ms.set i<|some g71),Fm:=Fm2 } (by have h:t.1.Ms.length=s.ws.length:=t.2;show ((t.1.Ms.set i<|some g71)).length=s.ws.length;rw [Xl];exact h)) [3,4,5,6,8,7] d9 (sX V) ?_
     rintro _ ⟨Fr2,rfl⟩;refine zQ (fn:=Tryz.f22) (Fr2) [3] (fun _ _ h=>h) (Rs.le (Rs.one V<|zj V) ?_) d9 ⟨⟨_,V,(by rw [hsub];exact yu _)⟩,t9⟩;exact zF (by rw [Rnd.subE_c6 hg,h53])
    ·obtain ⟨gm,rfl⟩:∃ g,M=some g:=(by cases M;cases hb64;exact ⟨_,rfl⟩);have hset:t.1.Ms.set i (some gm)=t.1.Ms:=(by obtain ⟨q1,q2⟩:=Jg.1 hM;rw [← q2,List.set_getElem_self])
     refine zr (zn<|zk<|zO (σ':=zN [(3,_),(4,_),(5,_)] [.c g3 [pA gr],.c g4 [yY e.acc,iD e.rnd,iD e.ser,bD e.box,bD e.tag],.c g5 [iD now],.c gr [pA t.1.gb,lsD YB s.ws,iD s.ck,pA t.1.gl,isD<|.slice t.1.A (t.1.Ms.set i<|some gm).length t.1.c,isD<|.map<|some t.1.gk],.r t.1.Fb<|bkP t.1.gb ({ s with en:=s.en ++ [⟨1,Rnd.subP e now⟩] }:Rnd.S).bk,.r t.1.Fl<|ldP t.1.gl ({ s with en:=s.en ++ [⟨1,Rnd.subP e now⟩] }:Rnd.S).en,.r t.1.Fv<|yP 133 1 zeY t.1.A t.1.c<|t.1.Ms.set i<|some gm,.r Fm<|zbS (mps s.es t.1.Ms) i,.r t.1.Fk<|Zc (some t.1.gk) jM (Rnd.rks ({ s with en:=s.en ++ [⟨1,Rnd.subP e now⟩] }:Rnd.S).ks)<|kyD ({ s with en:=s.en ++ [⟨1,Rnd.subP e now⟩] }:Rnd.S).ks,.r Gi<|Zc (some gm) Zi (Rnd.keysE s.es i)<|zbI s.es i]) (⟨⟨_,V,(sT V)⟩,[0,1,2,3,4,5,6,9,7,8],by decide,⟨la rfl,⟨la rfl,⟨la rfl,⟨⟨_,rfl,⟨zb _,zb _,zb _,zb _,zF s9,zb _,trivial⟩⟩,⟨lR rfl,⟨lR rfl,⟨⟨_,rfl,ZZ s9 (by rw [hset])⟩,(sX rfl)⟩⟩⟩⟩⟩⟩⟩⟩)<|yh (Gi ++ []) (rr [0,1,2,3,4,5,6,7,8,9,10]<|.n 11 (.e 12 .fin .no) .no) k9 k9 (fun d _ _ _ _ h=>by cases d <;> exact h)<|zl V V (zg 0 V V V k9<|yB 9 V d9 zh)<|zl V V (zz V)<|zl V V (zc (n:=4) V k9)<|zl V V (zg 3 V V V k9<|yB 9 V d9 zh)<|zl V V (zc (n:=1) V k9)<|zl V V (zg 1 V V V k9<|yB 9 V d9 zh)<|zl V V (jG 6 1 V V V k9 k9 o9 (by rw [hi,Xl];omega))<|zl V V (qI 6 V V k9 (show (t.1.Ms.set i _)[e.rnd.toNat]? =some _ by rw [show e.rnd.toNat=i by omega,List.getElem?_set_self hil]) V<|yB 9 V d9 zh) ?_)
     refine zl V V (zc (n:=0) V k9) (zl V V (zg 1 V V V k9<|yB 9 V d9 zh)<|zl V V (zA 1 5 V V k9 V<|yB 9 V d9 zh)<|yw V (zY (Vk e o9 o9) V ⟨zb _,t9⟩ V)<|yy V (WR (kt:=9) (et:=58) (K':=(Rnd.keysE (Rnd.put s.es e) i)) (f':=(zbI (Rnd.put s.es e) i)) 9 V V V (show Le (yY e.acc) (isD<|Zi e.acc) from zb _) V (by rw [zea hi];exact zb _) (fun q=>Rnd.keys_put hi q) (fun q _ hq=>by rw [zc6 (fun h=>hq h.2.symm)];exact zb _) k9 (zd4 _) (fun _ h=>mL _ h))<|yI<|zk<|zO (σ':=zN [(3,_),(4,_),(5,_)] [_,_,_,_,_,_,_,_,_,_]) (sB [0,1,2,3,4,5,6,7,8,9] V V)<|zi<|za V (zg 0 V V V k9 zh)<|za V (zg 2 V V V k9 zh)<|za V (zz V)<|za V (zc (n:=2) V k9)<|zt (S:=[_]) (zR 3 V V V k9 V<|m9 V)<|zV<|zf V<|ze<|yd (zh6 hi hil) [9,7] d9 (sX V) ?_);rintro _ ⟨Fm2,rfl⟩;refine yd (ZT (gr:=gr) (s:=({ s with es:=Rnd.put s.es e,ck:=now,en:=s.en ++ [⟨1,Rnd.subP e now⟩] }:Rnd.S)) { t.1 with Ms:=(t.1.Ms.set i<|some gm),Fm:=Fm2 } (by have h:t.1.Ms.length=s.ws.length:=t.2;show ((t.1.Ms.set i<|some gm)).length=s.ws.length;rw [Xl];exact h)) [3,4,5,6,8,7] d9 (sX V) ?_
     rintro _ ⟨Fr2,rfl⟩;refine zQ (fn:=Tryz.f22) (Fr2) [3] (fun _ _ h=>h) (Rs.le (Rs.one V<|zj V) ?_) d9 ⟨⟨_,V,(by rw [hsub];exact yu _)⟩,t9⟩;exact zF (by rw [Rnd.subE_c6 hg,h53])
end
section
theorem j4 (b:Nat) (es:Array MapEntry) (clock:Nat) (w:World) (hb:w.heap[b]? =some (.map es clock)):
  Calls Tryz.prog 106 #[.map<|some b] w fun e w'=>e= .returned (.map<|some w.heap.size)∧w'=w.alloc (.map es clock):=by
 have hq:=fun w=>Vc (P:=Tryz.prog) w 102 _ _ (some b) Tryz.underlying102
 go_enter Tryz.func106,Tryz.ntmps106
 go_wp2
 rw [run_callFunc_extern Tryz.func158 k9 k9 k9 (e:=Extern.MapsClone.clone) k9,zbM w 102 hb];simp only [Result.andThen];rw [Oper.upon_value]
 go_wp2
 rw [zbP _ 102 _ _ _ _ Tryz.underlying102];simp only [Result.andThen];rw [Oper.upon_value]
 go_wp2
 go_ret
 exact ⟨V,V⟩
theorem j3 (b:Nat) (es:Array MapEntry) (clock:Nat) (w:World) (hb:w.heap[b]? =some (.map es clock)):
  Calls Tryz.prog 107 #[.map<|some b] w fun e w'=>e= .returned (.map<|some w.heap.size)∧w'=w.alloc (.map es clock):=by
 have hq:=fun w=>Vc (P:=Tryz.prog) w 133 _ _ (some b) Tryz.underlying133
 go_enter Tryz.func107,Tryz.ntmps107
 go_wp2
 rw [run_callFunc_extern Tryz.func158 k9 k9 k9 (e:=Extern.MapsClone.clone) k9,zbM w 133 hb];simp only [Result.andThen];rw [Oper.upon_value]
 go_wp2
 rw [zbP _ 133 _ _ _ _ Tryz.underlying133];simp only [Result.andThen];rw [Oper.upon_value]
 go_wp2
 go_ret
 exact ⟨V,V⟩
theorem zhQ (w:World):
  Calls Tryz.prog 107 #[.map none] w fun e w'=>e= .returned (.map none)∧w'=w:=by
 have hq:=fun w=>Vc (P:=Tryz.prog) w 133 _ _ none Tryz.underlying133
 go_enter Tryz.func107,Tryz.ntmps107
 go_wp2
 go_ret
 exact ⟨V,V⟩
theorem jn {κ:Type} (enc:κ→Value) (ks:List κ) (f:κ→D) (M:Option Nat) (G:LN):ConS Tryz.prog 107 [.r G<|zam M enc ks f] [isD<|.map M] (fun t:Option Nat × LN=>[.r G<|zam M enc ks f,.r t.2<|zam t.1 enc ks f]) (fun t=>isD<|.map t.1):=by
 refine ⟨enters_of Tryz.func107 k9 V,fun L w vs hL hG hgl hoff hnd hbx ha=> ?_⟩
 match vs,ha with
 | [v],ha=>
  obtain rfl:v= .map M:=ha.1;obtain ⟨es,hm,hk,hv⟩:=hbx _ (m9 rfl);have hm0:=hm
  have fp1:fps [Box.r G<|zam M enc ks f]=G:=by simp [fps,Box.fp]
  rw [fp1] at hv hnd hoff;rcases hm with ⟨rfl,rfl,rfl⟩ | ⟨g,ck,rfl,hh,rfl,hbn⟩
  ·refine (zhQ w).mono fun e w' ⟨he,hw⟩=> ?_;subst hw;refine ⟨(none,[]),.map none,he,V,fun b hb=> ?_,by simp [fps,Box.fp],fun g hg=>by simp [fps,Box.fp] at hg,Only.refl _ _⟩
   have hb':b=Box.r [] (zam none enc ks f):=by simpa using hb
   rw [hb'];exact ⟨#[],.inl ⟨V,V,V⟩,hk,by simpa [fps,Box.fp] using hv⟩
  ·refine (j3 g es ck w hh).mono fun e w' ⟨he,hw⟩=> ?_;subst hw;have hg:g < w.heap.size:=(Jn.1 hh).1;have ho:Only [] w (w.alloc<|.map es ck):=(Only.refl [] w).alloc _
   have fp2:fps [Box.r [g]<|zam (some g) enc ks f,Box.r [w.heap.size]<|zam (some w.heap.size) enc ks f]=[g,w.heap.size]:=by simp [fps,Box.fp]
   have h1:All ([g,w.heap.size] ++ L) w (ks.map f) (es.toList.map fun e:MapEntry=>e.val):=by
    refine hv.less fun x hx=> ?_;simp at hx;rcases hx with h | h | h
    ·exact .inl (by simp [h])
    ·exact .inr o9
    ·exact .inl (by simp [h])
   have h2:=h1.keep ho (fun x hx=>by cases hx);refine ⟨(some w.heap.size,[w.heap.size]),.map<|some w.heap.size,he,V,fun b hb=> ?_,by rw [fp2];simp;omega,fun x hx=> ?_,ho⟩
   ·rw [fp2];simp at hb;rcases hb with rfl | rfl
    ·exact ⟨es,.inr ⟨g,ck,V,by rw [(MapKept.heap_alloc w _).2 g hg];exact hh,rfl,hbn⟩,hk,h2⟩
    ·exact ⟨es,.inr ⟨w.heap.size,ck,V,(MapKept.heap_alloc w _).1,V,hbn⟩,hk,h2⟩
   ·rw [fp2] at hx;rw [fp1];simp at hx;rcases hx with h | h
    ·exact .inl (by simp [h])
    ·exact .inr o9
theorem ziq {κ:Type} {enc:κ→Value} {M:Option Nat} {K:List κ} {f:κ→D} {G:LN}:Opens [.r G<|Zc M enc K f] (fun q=>∃ ks:{ks:List κ // ks.Nodup∧∀ k,k∈ks↔k∈K},q=[.r G<|zam M enc ks.1 f]):=fun L w hn h=>by
 obtain ⟨ks,h1,h2,h3⟩:=h _ (m9 rfl);exact ⟨_,⟨⟨ks,h1,h2⟩,V⟩,fun b hb=>by rw [Ja.1 hb];exact h3,hn,fun g hg=>hg⟩
theorem zio {κ:Type} {enc:κ→Value} {M M2:Option Nat} {K:List κ} {f:κ→D} {G G2:LN} (ks:{ks:List κ // ks.Nodup∧∀ k,k∈ks↔k∈K}) {T:List Box→Prop} (hT:T [.r G<|Zc M enc K f,.r G2<|Zc M2 enc K f]):Opens [.r G<|zam M enc ks.1 f,.r G2<|zam M2 enc ks.1 f] T:=fun L w hn h=>
 ⟨_,hT,fun b hb=>by
  rcases Jt.1 hb with rfl | hb
  ·exact ⟨ks.1,ks.2.1,ks.2.2,h _ mC⟩
  ·rw [Ja.1 hb]
   exact ⟨ks.1,ks.2.1,ks.2.2,h _<|Jl _ mC⟩,hn,fun g hg=>hg⟩
theorem j1 {κ:Type} (enc:κ→Value) (ks:List κ) (f:κ→D) (g0:Nat) (G:LN):ConR Tryz.prog 106 [.r G<|zam (some g0) enc ks f] [isD<|.map<|some g0] (fun t:Nat × LN=>[.r G<|zam (some g0) enc ks f,.r t.2<|zam (some t.1) enc ks f]) (fun t=>isD<|.map<|some t.1):=by
 refine ⟨enters_of Tryz.func106 k9 V,fun L w vs hL hG hgl hoff hnd hbx ha=> ?_⟩
 match vs,ha with
 | [v],ha=>
  obtain rfl:v= .map (some g0):=ha.1;obtain ⟨es,hm,hk,hv⟩:=hbx _ (m9 rfl)
  have fp1:fps [Box.r G<|zam (some g0) enc ks f]=G:=by simp [fps,Box.fp]
  rw [fp1] at hv hnd hoff;rcases hm with ⟨h0,_⟩ | ⟨g,ck,hg0,hh,rfl,hbn⟩
  ·cases h0
  ·injection hg0 with hg0;subst hg0;refine (j4 g0 es ck w hh).mono fun e w' ⟨he,hw⟩=> ?_;subst hw;have hg:g0 < w.heap.size:=(Jn.1 hh).1;have ho:Only [] w (w.alloc<|.map es ck):=(Only.refl [] w).alloc _
   have fp2:fps [Box.r [g0]<|zam (some g0) enc ks f,Box.r [w.heap.size]<|zam (some w.heap.size) enc ks f]=[g0,w.heap.size]:=by simp [fps,Box.fp]
   have h1:All ([g0,w.heap.size] ++ L) w (ks.map f) (es.toList.map fun e:MapEntry=>e.val):=by
    refine hv.less fun x hx=> ?_;simp at hx;rcases hx with h | h | h
    ·exact .inl (by simp [h])
    ·exact .inr o9
    ·exact .inl (by simp [h])
   have h2:=h1.keep ho (fun x hx=>by cases hx);refine ⟨(w.heap.size,[w.heap.size]),.map<|some w.heap.size,he,V,fun b hb=> ?_,by rw [fp2];simp;omega,fun x hx=> ?_,ho.mono s9⟩
   ·rw [fp2];simp at hb;rcases hb with rfl | rfl
    ·exact ⟨es,.inr ⟨g0,ck,V,by rw [(MapKept.heap_alloc w _).2 g0 hg];exact hh,rfl,hbn⟩,hk,h2⟩
    ·exact ⟨es,.inr ⟨w.heap.size,ck,V,(MapKept.heap_alloc w _).1,V,hbn⟩,hk,h2⟩
   ·rw [fp2] at hx;rw [fp1];simp at hx;rcases hx with h | h
    ·exact .inl (by simp [h])
    ·exact .inr o9
theorem ziv {κ:Type} (enc:κ→Value) (K:List κ) (f:κ→D) (g:Nat) (G:LN):ConR Tryz.prog 106 [.r G<|Zc (some g) enc K f] [isD<|.map<|some g] (fun t:Nat × LN=>[.r G<|Zc (some g) enc K f,.r t.2<|Zc (some t.1) enc K f]) (fun t=>isD<|.map<|some t.1):=
 qx (fun ks=>(j1 enc ks.1 f g G).reshape fun t=>zio ks ⟨t,rfl,zb _⟩) (j1 enc [] f g G).en ziq
theorem ziu {κ:Type} (enc:κ→Value) (K:List κ) (f:κ→D) (M:Option Nat) (G:LN):ConS Tryz.prog 107 [.r G<|Zc M enc K f] [isD<|.map M] (fun t:Option Nat × LN=>[.r G<|Zc M enc K f,.r t.2<|Zc t.1 enc K f]) (fun t=>isD<|.map t.1):=
 zh9 (fun ks=>(jn enc ks.1 f M G).reshape fun t=>zio ks ⟨t,rfl,zb _⟩) (jn enc [] f M G).en ziq
theorem zin (bs:List Box):Opens bs (fun q=>∃ F,q=[.r F (zgX fun _:Unit=>bs)]):=zcZ (bs:=fun _:Unit=>bs) ()
theorem zh4 {bs:List Box} {F:LN}:Opens [.r F (zgX fun _:Unit=>bs)] (fun q=>∃ _:Unit,q=bs):=zaJ
theorem mps_snoc {es:List Env.T} {Ms:List (Option Nat)} {M:Option Nat} {i:Nat} (h:Ms.length=i):mps es (Ms ++ [M])=mps es Ms ++ [Zc M Zi (Rnd.keysE es i)<|zbI es i]:=by
 subst h;unfold mps;rw [List.mapIdx_append];simp [mpR]
theorem row_snoc {es:List Env.T} {Ms:List (Option Nat)} {M:Option Nat} {i:Nat} {F G:LN} (h:Ms.length=i):Opens [.r F<|zbR<|mps es Ms,.r G<|Zc M Zi (Rnd.keysE es i)<|zbI es i] (fun q=>∃ F',q=[.r F'<|zbR<|mps es<|Ms ++ [M]]):=by
 rw [mps_snoc h];exact zis
theorem row_none {es:List Env.T}:Opens [] (fun q=>∃ F,q=[.r F<|zbR<|mps es []]):=zit
theorem blsM1 {M:Option Nat}:Bls Tryz.prog 101 1 [0] [isD<|.map M] ([M].flatMap zeY):=⟨133,fun L w vs hv=>by
 obtain ⟨u,rfl,rfl⟩:=zeG hv
 exact ⟨[.map M],⟨V,t9⟩,fun w'=>by kernel_rfl⟩⟩
theorem bldRd5 {p q:Addr} {ws:List Rnd.Win} {ck:Int} {M:Option Nat}:Bld Tryz.prog 104 [0,1,2,3,5] [isD<|.pointer<|some p,lsD YB ws,iD ck,isD<|.pointer<|some q,isD<|.map M] [isD<|.pointer<|some p,lsD YB ws,iD ck,isD<|.pointer<|some q,isD<|.slice none 0 0,isD<|.map M]:=fun L w vs hv=>by
 match vs,hv with
 | [a,b,c,d,e],hc=>
  obtain ⟨rfl,hb,rfl,rfl,rfl,-⟩:=hc;have hb':=hb;obtain ⟨A,cp,rfl,-⟩:=hb;exact ⟨[.pointer<|some p,.slice A _ cp,.int .i64 ck,.pointer<|some q,.slice none 0 0,.map M],⟨V,hb',V,V,V,V,t9⟩,fun w'=>by kernel_rfl⟩
end
section
theorem zih (gr:Nat) (F:LN) (s:Rnd.S) (hg:Rnd.Good s):ConR Tryz.prog 46 [.r F<|Yj gr s] [pA gr] (fun q:LN × Nat × LN=>[.r q.1<|Yj gr s,.r q.2.2<|Yj q.2.1 s]) (fun q:LN × Nat × LN=>pA q.2.1):=by
 refine yg Tryz.func46 k9 V k9 fun base w0=>(zk<|yd (Yv (gr:=gr) (s:=s)) [0] d9 ⟨lR V,t9⟩ ?_);rintro _ ⟨t,rfl⟩;have hnl:=hg.len;have hML:t.1.Ms.length=s.ws.length:=t.2;have hwl:=hg.win.1.2
 refine zi (zf V<|ze<|zk<|zp<|zd V<|zt (S:=[]) (zD [0,3,5] (qF _ _ s.ws s.ck _ _ _ s.ks) V ⟨(yG 0 V d9 ⟨(zo<|zb _),(zo<|zb _),(zo<|zb _),(zo<|zb _),(zo<|zb _),(yV 5 V d9),t9⟩),t9⟩ V)<|ze<|zE V V<|zr<|zn<|zk<|yh (t.1.Fb ++ (t.1.Fl ++ (t.1.Fk ++ []))) (rr [0,1,2,3,5,6,7,8,9,10,11,12,13,14,15,16,18,19,20,21]<|.e 4 (.e 17 (.e 22 (.r 23<|.n 24 (.r 25 .fin) .no) .no) .no) .no) k9 k9 (fun d _ _ _ _ h=>by cases d <;> exact h)<|zL V V<|zl V V (zz V)<|zl V V (zc (n:=0) V k9)<|zl V V (zg 0 V V V k9<|yB 1 V d9<|yB 2 V d9<|yB 5 V d9 zh)<|zL V V<|zl V V (zz V)<|zl V V (zc (n:=1) V k9)<|zl V V (zg 0 V V V k9<|yB 1 V d9<|yB 2 V d9<|yB 5 V d9 zh)<|zL V V<|zl V V (zz V)<|zl V V (zc (n:=2) V k9)<|zl V V (zg 0 V V V k9<|yB 1 V d9<|yB 2 V d9<|yB 5 V d9 zh)<|zL V V<|zl V V (zz V)<|zl V V (zc (n:=3) V k9)<|zl V V (zg 0 V V V k9<|yB 1 V d9<|yB 2 V d9<|yB 5 V d9 zh)<|zL V V<|zl V V (zz V)<|zl V V (zc (n:=5) V k9)<|zl V V (zg 0 V V V k9<|yB 1 V d9<|yB 2 V d9<|yB 5 V d9 zh)<|yW V (zC [1] (zid hg.fine) V ⟨zb _,t9⟩ d9 ⟨lR V,t9⟩ (Vf (fun _ h=>mL _ h) Z3) V) ?_ yf)
 rintro _ ⟨⟨F12,g12,G12⟩,rfl⟩;refine yW V (zC [1] (zhr o9) V ⟨zb _,t9⟩ d9 ⟨lR V,t9⟩ (Vf (fun _ h=>mR _<|mL _ h) Z3) V) ?_ yf;rintro _ ⟨⟨F17,g17,G17⟩,rfl⟩;refine yW V (zC [3] (ziv jM (Rnd.rks s.ks) (kyD s.ks) t.1.gk t.1.Fk) V ⟨zb _,t9⟩ d9 ⟨lR V,t9⟩ (Vf (fun _ h=>mR _<|mR _<|mL _ h) Z3) V) ?_ yf;rintro _ ⟨t22,rfl⟩;refine zl V V (yq V V bldRd5) (ZP V (yv V V) ?_ yf);rintro _ ⟨g32,rfl⟩;refine Zh V V (yI<|zk<|zk<|zO (σ':=zN [(0,_),(3,_)] [_,_,_,_,_,_,_,_,_,_]) (sB [0,3,5,7,1,2,9,4,6,8] V V)<|zi<|zd V<|za V (zz V)<|za V (zc (n:=4) V k9)<|za V (zg 0 V V V k9 zh)<|za V (Y7 (e:=133) V k9)<|zd V<|ze<|zX<|yd (zin [.c gr [pA t.1.gb,lsD YB s.ws,iD s.ck,pA t.1.gl,isD<|.slice t.1.A t.1.Ms.length t.1.c,isD<|.map<|some t.1.gk],.r F12<|bkP t.1.gb s.bk,.r F17<|ldP t.1.gl s.en,.r t.1.Fk<|Zc (some t.1.gk) jM (Rnd.rks s.ks)<|kyD s.ks]) [0,1,2,3] d9 (sX V) ?_);rintro _ ⟨Fo,rfl⟩;refine yd (zin [.r G12<|bkP g12 s.bk,.r G17<|ldP g17 s.en,.r t22.2<|Zc (some t22.1) jM (Rnd.rks s.ks)<|kyD s.ks]) [3,4,5] d9 (sX V) ?_
 rintro _ ⟨Fn,rfl⟩;refine Yf 133 1 zeY (yd (row_none (es:=s.es)) [] d9 t9 ?_);rintro _ ⟨Fz,rfl⟩;refine Zw (ι:={q:Nat × Ust × List (Option Nat) × LN × LN // q.1≤t.1.Ms.length∧q.2.2.1.length=q.1}) (fun ⟨(i,u,Ms2,Fm,Fms),hi,hq⟩=>zN [(3,pA g32),(36,isD<|.slice t.1.A t.1.Ms.length t.1.c),(37,iD (t.1.Ms.length:Int)),(38,iD (i:Int))] [.r Fo (zgX fun _:Unit=>[.c gr [pA t.1.gb,lsD YB s.ws,iD s.ck,pA t.1.gl,isD<|.slice t.1.A t.1.Ms.length t.1.c,isD<|.map<|some t.1.gk],.r F12<|bkP t.1.gb s.bk,.r F17<|ldP t.1.gl s.en,.r t.1.Fk<|Zc (some t.1.gk) jM (Rnd.rks s.ks)<|kyD s.ks]),.r Fn (zgX fun _:Unit=>[.r G12<|bkP g12 s.bk,.r G17<|ldP g17 s.en,.r t22.2<|Zc (some t22.1) jM (Rnd.rks s.ks)<|kyD s.ks]),.r t.1.Fv<|yP 133 1 zeY t.1.A t.1.c t.1.Ms,.r Fm<|zbR<|mps s.es t.1.Ms,.c g32 [pA g12,lsD YB s.ws,iD s.ck,pA g17,isD<|.slice u.A Ms2.length u.c,isD<|.map<|some t22.1],.r u.F<|yP 133 1 zeY u.A u.c Ms2,.r Fms<|zbR<|mps s.es Ms2]) (fun ⟨(i,u,Ms2,Fm,Fms),hi,hq⟩=>t.1.Ms.length - i) (⟨(0,⟨none,0,[]⟩,[],t.1.Fm,Fz),JC _,V⟩) ?_ ?_
 ·exact (sB [3,4,0,1,2,5,6] V V)
 ·rintro ⟨⟨i,u,Ms2,Fm,Fms⟩,hi,hq⟩ K0 hK0;dsimp only at hi hq ⊢;refine zp (za V (yF V V)<|ze<|zk<|zJ V (fun hb39=> ?_) (fun hb39=> ?_))
  ·have hb39:=oT hb39;refine zr (zn<|zk<|zX<|zk ?_);obtain ⟨M,hM⟩:∃ M,t.1.Ms[i]? =some M:=⟨_,Je o9⟩;refine zi (za V (jG 2 1 V V V k9 k9 o9 o9)<|za V (qI 2 V V k9 (show t.1.Ms[((i:Nat):Int).toNat]? =some M from hM) V zh)<|zf V<|ze<|yd (zaI<|zdV (es:=s.es) hM) [3] d9 ⟨lR V,t9⟩ ?_);rintro _ ⟨Gi,Fr0,rfl⟩
   refine yh (u.F ++ (g32 :: [])) (rr [0,1,2,3]<|.q 4<|.r 5<|.n 6 (.n 7 (.e 8 (.r 9<|.r 10<|.e 11 .fin .no) .no) .no) .no) k9 k9 (fun d _ _ _ _ h=>by cases d <;> exact h) (zL V V<|zL V V<|zl V V (zz V)<|zl V V (zc (n:=4) V k9)<|Yy V V (zg 3 V V V k9 zh)<|zL V V<|ZP V (Ef.callS [6] (ziu Zi (Rnd.keysE s.es i) (zbI s.es i) M Gi) V ⟨zb _,t9⟩ d9 ⟨lR V,t9⟩ V) ?_ yf)
   rintro _ ⟨t48,rfl⟩
   refine yw V (ZL V V blsM1 V) (yW V (yN 4 1 8 V V (SrcT.ls (l:=[_]) V) k9 k9 (by simp <;> omega) d9 (fun _ h=>mL _ h) V) ?_ yf)
   rintro _ ⟨A50,F50,c50,rfl⟩;refine zl V V (zz V) (zl V V (zc (n:=4) V k9)<|yy V (zR 3 V V V k9 V<|mR _ mC)<|yz<|yc<|zn<|yd (zcU hM) [6,5] d9 (sX V) ?_);rintro _ ⟨Fm3,rfl⟩;refine yd (row_snoc hq) [4,5] d9 (sX V) ?_;rintro _ ⟨Fm4,rfl⟩;exact zi (za V (yC V V ⟨by omega,by omega⟩)<|zd V<|zP (fun a w hh=>hK0 (⟨(i + 1,⟨A50,c50,F50⟩,Ms2 ++ [t48.1],Fm3,Fm4),by dsimp only;omega,by dsimp only;simp [hq]⟩) (by dsimp only;omega) a w<|hh.sub<|⟨⟨_,V,⟨lq V,⟨lq V,⟨lq V,⟨⟨_,V,zF s9⟩,t9⟩⟩⟩⟩⟩,[0,1,2,5,3,4,6],by decide,(sX rfl)⟩))
  ·have hb39:=oF hb39;refine yZ ?_
   repeat (first | refine Ze ?_ | refine Zf d9 ?_)
   refine Zn (zn<|zk ?_)
   have hie:i=t.1.Ms.length:=by omega
   refine yd (zh4) [0] d9 ⟨lR V,t9⟩ ?_;rintro _ ⟨_,rfl⟩;refine yd (zh4) [0] d9 ⟨lR V,t9⟩ ?_;rintro _ ⟨_,rfl⟩;refine zO (σ':=zN [(3,_)] [_,_,_,_,_,_,_,_,_,_,_,_]) (sB [5,6,7,8,0,1,2,9,10,11,3,4] V V) (zi<|zd V<|zf V<|ze<|yd (ZT (gr:=gr) (s:=s) { t.1 with Fb:=F12,Fl:=F17,Fm:=Fm } (t.2)) [0,1,2,4,5,3] d9 (sX V) ?_);rintro _ ⟨Fr,rfl⟩;refine yd (ZT (gr:=g32) (s:=s) ⟨g12,G12,g17,G17,u.A,u.c,u.F,Ms2,Fms,t22.1,t22.2⟩ (by show Ms2.length=s.ws.length;omega)) [0,1,2,4,5,3] d9 (sX V) ?_;rintro _ ⟨Fr2,rfl⟩;refine zQ (fn:=Tryz.f46) ((Fr,g32,Fr2)) [0,1] (fun _ _ h=>h) (Rs.le (Rs.one V<|zj V) ?_) d9 (sX V);exact zb _
