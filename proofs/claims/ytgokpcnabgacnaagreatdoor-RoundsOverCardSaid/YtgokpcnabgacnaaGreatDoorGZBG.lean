/- ROUNDS: the reference's Submit. ENVELOPES: the reference's Seal, Decode. -/
import Derived.Test.YtgokpcnabgacnaaGreatDoorGZBF
set_option maxHeartbeats 8000000
set_option maxRecDepth 100000
namespace Go.Proofs.YtgokpcnabgacnaaGreatDoor
open Go.RowKit
namespace Sx
section
abbrev qB (e:Env.T) (x:Env.T):Bool:=decide (¬Rnd.same x e)
theorem Rnd.st_at {s:Rnd.S} {r now:Int} (ht:Rnd.time now) (hh:Rnd.has s r):Rnd.atS s r now=Rnd.st s r.toNat now:=by
 have hE:Rnd.atE s r now=0:=by rw [Rnd.atE,Jb<|Jj ht,Jb<|Jj hh]
 rw [Rnd.atS,Jh hE]
theorem KM (s:Rnd.S) (e:Env.T) (now:Int) (hg:Rnd.Good s) (hn:s.es.length≤100000) (hs:e.acc.length≤1000000):ConR Tryz.prog 33 [] [Zo [lsD Yz s.bk,lsD YB s.ws,lsD yX s.es,lsD Z8 s.ks,iD s.ck,lsD encE s.en],Zo [yY e.acc,iD e.rnd,iD e.ser,bD e.box,bD e.tag],iD now] (fun _:Unit=>[]) (fun _:Unit=>Yk [Zo<|rfD<|Rnd.subS s e now,iD<|Rnd.subE s e now]):=by
 have hkl:=hg.kl;have henl:=hg.len;have hwl:=hg.win.1.2;refine yg Tryz.func33 k9 V k9 fun base w0=>(zp (SWl.e2 (S:=[]) (yv V V) fun g3=>(SWl.e2 (S:=[]) (yv V V) fun g4=>(SWl.e2 (S:=[]) (zM (zs:=[.slice none 0 0,.slice none 0 0,.slice none 0 0,.slice none 0 0,.int .i64 0,.slice none 0 0]) k9 V) fun g6=>(zf V<|ze<|zk<|zp<|za V (zA 1 5 V V k9 V zh)<|zt (S:=[]) (zD [] (KG e.acc e.rnd e.ser e.box.length e.tag.length<|hs) V ⟨(zo<|ZM ⟨zb _,zb _,zb _,ZV,ZV,t9⟩),t9⟩ V)<|za V (yS V)<|zd V<|zU 17 V (fun hb17=> ?_) (fun hb17=> ?_))))))
 ·have h17:¬Env.ok e:=by (intro h;rw [show decide (Env.okV e.acc e.rnd e.ser e.box.length e.tag.length)=true from zfd h] at hb17;cases hb17)
  refine zq hb17 (zq hb17<|za V (zB V hb17 V)<|zd V<|zq V<|zq V<|za V (zB V V V)<|ze<|zW V V<|zp<|za V (zA 0 6 V V k9 V zh)<|zt (S:=[_]) (zw 2 V V V k9 V<|m9 V)<|zf V<|ze<|zQ (fn:=Tryz.f33) (()) [] (fun _ _ h=>h) (Rs.le (ym V (zS 2 V V k9)<|zj V) ?_) d9 t9)
  have hE:Rnd.subE s e now=2:=by (unfold Rnd.subE;rw [if_pos (fun h=>h17 h.1)])
  have hne:Rnd.subE s e now≠0:=by (rw [hE];first | decide | assumption)
  exact yn ⟨by rw [show Rnd.subS s e now=s from if_neg hne];exact zb _,zF (by rw [hE]),trivial⟩
 ·have h17:Env.ok e:=by (by_cases h:Env.ok e;exact h;rw [show decide (Env.okV e.acc e.rnd e.ser e.box.length e.tag.length)=false from zfe h] at hb17;cases hb17)
  refine zy hb17 (zI V) (zy hb17 (yF V V)<|za V (zv V hb17 V)<|zd V<|zU 21 V (fun hb21=> ?_) (fun hb21=> ?_))
  ·have h21:now < 0:=oT hb21;refine zq hb21 (zq hb21<|za V (zB V hb21 V)<|ze<|zW V V<|zp<|za V (zA 0 6 V V k9 V zh)<|zt (S:=[_]) (zw 2 V V V k9 V<|m9 V)<|zf V<|ze<|zQ (fn:=Tryz.f33) (()) [] (fun _ _ h=>h) (Rs.le (ym V (zS 2 V V k9)<|zj V) ?_) d9 t9)
   have hE:Rnd.subE s e now=2:=by (unfold Rnd.subE;rw [if_pos (fun h=>by have h1:=h.2.1;have h2:=h.2.2;omega)])
   have hne:Rnd.subE s e now≠0:=by (rw [hE];first | decide | assumption)
   exact yn ⟨by rw [show Rnd.subS s e now=s from if_neg hne];exact zb _,zF (by rw [hE]),trivial⟩
  ·have h21:¬now < 0:=oF hb21;refine zy hb21 (zI V) (zy hb21 (Zq V V)<|za V (zv V hb21 V)<|ze<|zJ V (fun hb24=> ?_) (fun hb24=> ?_))
   ·have h24:now > 1099511627776:=oT hb24;refine zp (za V (zA 0 6 V V k9 V zh)<|zt (S:=[_]) (zw 2 V V V k9 V<|m9 V)<|zf V<|ze<|zQ (fn:=Tryz.f33) (()) [] (fun _ _ h=>h) (Rs.le (ym V (zS 2 V V k9)<|zj V) ?_) d9 t9)
    have hE:Rnd.subE s e now=2:=by (unfold Rnd.subE;rw [if_pos (fun h=>by have h1:=h.2.1;have h2:=h.2.2;omega)])
    have hne:Rnd.subE s e now≠0:=by (rw [hE];first | decide | assumption)
    exact yn ⟨by rw [show Rnd.subS s e now=s from if_neg hne];exact zb _,zF (by rw [hE]),trivial⟩
   ·have h24:¬now > 1099511627776:=oF hb24;refine zr (zn<|zk<|zk ?_);have ht:Env.ok e∧Rnd.time now:=⟨h17,by omega,by omega⟩;obtain ⟨z1,z2,z3,z4,z5,z6,z7,z8⟩:=Env.ok_len h17;refine zi (zd V<|za V (zc (n:=4) V k9)<|za V (zg 0 V V V k9 zh)<|za V (yF V V)<|zd V<|zU 30 V (fun hb30=> ?_) (fun hb30=> ?_))
    ·have h30:now < s.ck:=oT hb30;refine zq hb30 (zq hb30<|zq hb30<|zq hb30<|zq hb30<|zq hb30<|za V (zB V hb30 V)<|ze<|zW V V<|zp<|za V (zA 0 6 V V k9 V zh)<|zt (S:=[_]) (zw 2 V V V k9 V<|m9 V)<|zf V<|ze<|zQ (fn:=Tryz.f33) (()) [] (fun _ _ h=>h) (Rs.le (ym V (zS 2 V V k9)<|zj V) ?_) d9 t9)
     have hE:Rnd.subE s e now=3:=by (unfold Rnd.subE;rw [if_neg<|not_not_intro ht,if_pos (fun h=>by have h1:=h.1;have h2:=h.2.2;omega)])
     have hne:Rnd.subE s e now≠0:=by (rw [hE];first | decide | assumption)
     exact yn ⟨by rw [show Rnd.subS s e now=s from if_neg hne];exact zb _,zF (by rw [hE]),trivial⟩
    ·have h30:¬now < s.ck:=oF hb30;refine zy hb30 (zc (n:=1) V k9) (zy hb30 (zg 1 V V V k9 zh)<|zy hb30 (zc (n:=1) V k9)<|zy hb30 (zg 0 V V V k9 zh)<|zy hb30 (yx (e:=26) V k9)<|zy hb30 (ZB V V)<|za V (zv V hb30 V)<|ze<|zJ V (fun hb37=> ?_) (fun hb37=> ?_))
     ·have h37:e.rnd≥(s.ws.length:Int):=oT hb37;refine zp (za V (zA 0 6 V V k9 V zh)<|zt (S:=[_]) (zw 2 V V V k9 V<|m9 V)<|zf V<|ze<|zQ (fn:=Tryz.f33) (()) [] (fun _ _ h=>h) (Rs.le (ym V (zS 2 V V k9)<|zj V) ?_) d9 t9)
      have hE:Rnd.subE s e now=3:=by (unfold Rnd.subE;rw [if_neg<|not_not_intro ht,if_pos (fun h=>by have h1:=h.1;have h2:=h.2.2;omega)])
      have hne:Rnd.subE s e now≠0:=by (rw [hE];first | decide | assumption)
      exact yn ⟨by rw [show Rnd.subS s e now=s from if_neg hne];exact zb _,zF (by rw [hE]),trivial⟩
     ·have h37:¬e.rnd≥(s.ws.length:Int):=oF hb37;refine zr (zn<|zk ?_);have hh:s.ck≤now∧Rnd.has s e.rnd:=⟨by omega,by omega,by omega⟩;have hat:=Rnd.st_at ht.2 hh.2;refine zi (za V (zA 0 6 V V k9 V zh)<|za V (zc (n:=1) V k9)<|za V (zg 1 V V V k9 zh)<|zd V<|zt (S:=[]) (zY (con_At44 s e.rnd now hkl) V ⟨zb _,zb _,zb _,t9⟩ V)<|zd V<|za V (zm V V)<|za V (zm V V)<|zf V<|zf V<|ze<|zk<|zp<|zd V<|za V (ye V V)<|ze<|zJ V (fun hb48=> ?_) (fun hb48=> ?_))
      ·have h48:Rnd.atS s e.rnd now≠2:=by simpa using hb48
       refine zp (za V (zA 0 6 V V k9 V zh)<|zt (S:=[_]) (zw 2 V V V k9 V<|m9 V)<|zf V<|ze<|zQ (fn:=Tryz.f33) (()) [] (fun _ _ h=>h) (Rs.le (ym V (zS 2 V V k9)<|zj V) ?_) d9 t9)
       have hE:Rnd.subE s e now=8:=by (unfold Rnd.subE;rw [if_neg<|not_not_intro ht,if_neg<|not_not_intro hh,if_pos (fun h=>h48<|hat.trans h)])
       have hne:Rnd.subE s e now≠0:=by (rw [hE];first | decide | assumption)
       exact yn ⟨by rw [show Rnd.subS s e now=s from if_neg hne];exact zb _,zF (by rw [hE]),trivial⟩
      ·have h48:Rnd.atS s e.rnd now=2:=by simpa using hb48
       refine zr (zn<|zk<|zk ?_);have hst:Rnd.st s e.rnd.toNat now=2:=hat ▸ h48;refine zi (za V (zc (n:=0) V k9)<|za V (zA 0 1 V V k9 V zh)<|za V (zA 1 5 V V k9 V zh)<|zt (S:=[]) (zD [] (con_authR s.bk e hg.fine hs) V ⟨(ZQ ⟨(zo<|zb _),t9⟩),(ZQ ⟨(zo<|zb _),(zo<|zb _),(zo<|zb _),(zo<|zb _),(zo<|zb _),t9⟩),t9⟩ V)<|zf V<|zV<|zd V<|za V (ye V V)<|ze<|zJ V (fun hb55=> ?_) (fun hb55=> ?_))
       ·have h55:Env.autE s.bk e≠0:=by simpa using hb55
        refine zp (za V (zA 0 6 V V k9 V zh)<|zd V<|zt (S:=[_]) (zw 2 V V V k9 V<|m9 V)<|zf V<|ze<|zQ (fn:=Tryz.f33) (()) [] (fun _ _ h=>h) (Rs.le (ym V (zS 2 V V k9)<|zj V) ?_) d9 t9)
        have hE:Rnd.subE s e now=Env.autE s.bk e:=by (unfold Rnd.subE;rw [if_neg<|not_not_intro ht,if_neg<|not_not_intro hh,if_neg<|not_not_intro hst,if_pos h55])
        have hne:Rnd.subE s e now≠0:=by (rw [hE];first | decide | assumption)
        exact yn ⟨by rw [show Rnd.subS s e now=s from if_neg hne];exact zb _,zF (by rw [hE]),trivial⟩
       ·have h55:Env.autE s.bk e=0:=by simpa using hb55
        refine zr (zn<|zk ?_);have haut:=h55;refine zi (zf V<|ze<|zk<|zk<|Yf 58 5 yX<|zi<|zf V<|ze<|zX<|Zw (ι:={p:Nat × Ust // p.1≤s.es.length∧∀ y∈s.es.take p.1,¬(Rnd.same y e∧e.ser≤y.ser)}) (fun p=>zN [(2,iD now),(3,pA g3),(4,pA g4),(6,pA g6),(11,isD<|.slice p.1.2.A ((s.es.take p.1.1).filter<|qB e).length p.1.2.c),(12,iD (p.1.1:Int))] [.c g3 [lsD Yz s.bk,lsD YB s.ws,lsD yX s.es,lsD Z8 s.ks,iD s.ck,lsD encE s.en],.c g4 [yY e.acc,iD e.rnd,iD e.ser,bD e.box,bD e.tag],.c g6 [isD<|.slice none 0 0,isD<|.slice none 0 0,isD<|.slice none 0 0,isD<|.slice none 0 0,iD 0,isD<|.slice none 0 0],.r p.1.2.F<|yP 58 5 yX p.1.2.A p.1.2.c<|(s.es.take p.1.1).filter<|qB e]) (fun p=>s.es.length - p.1.1) (⟨(0,⟨none,0,[]⟩),Nat.zero_le _,by simp⟩) ?_ ?_)
        ·exact ⟨⟨_,V,⟨lq V,⟨lq V,⟨lq V,⟨lq V,⟨⟨_,V,zF s9⟩,⟨lq V,t9⟩⟩⟩⟩⟩⟩⟩,[0,1,2,3],by decide,⟨la rfl,⟨la rfl,⟨la rfl,⟨⟨_,rfl,ZZ s9 s9⟩,trivial⟩⟩⟩⟩⟩
        ·rintro ⟨⟨k,u⟩,hk⟩ K0 hK0;dsimp only at hk ⊢;have hfl:((s.es.take k).filter<|qB e).length≤s.es.length:=Nat.le_trans (List.length_filter_le _ _) (by rw [List.length_take];omega);refine zk (zp<|zd V<|za V (zc (n:=2) V k9)<|za V (zg 0 V V V k9 zh)<|za V (yx (e:=58) V k9)<|za V (yF V V)<|ze<|zJ V (fun hb62=> ?_) (fun hb62=> ?_))
         ·have h62:(k:Int) < (s.es.length:Int):=oT hb62;refine zr (zn<|zk<|zX<|zk ?_);obtain ⟨x,hx⟩:∃ x,s.es[k]? =some x:=⟨_,List.getElem?_eq_getElem o9⟩;have hF:=Kf (p:=qB e) hx;refine zi (za V (zc (n:=2) V k9)<|za V (zg 0 V V V k9 zh)<|zd V<|za V (yp (e:=58) 5 V V k9 k9 o9 (by simpa using hx))<|za V (ZK 5 V k9 d9 (show 5≤5 by decide) s9) (SWl.e2 (S:=[]) (zM (zs:=[.string ⟨#[]⟩,.int .i64 0,.int .i64 0,.slice none 0 0,.slice none 0 0]) k9 V) fun g13=>(zt (S:=[_]) (zw 4 V V V k9 V<|m9 V)<|ze<|zk<|zp<|za V (zc (n:=0) V k9)<|za V (zg 4 V V V k9 zh)<|za V (zc (n:=0) V k9)<|za V (zg 1 V V V k9 zh)<|za V (zcI (p:=x.acc) (q:=e.acc) V V)<|zd V<|zU 75 V (fun hb75=> ?_) (fun hb75=> ?_))))
          ·have h75:¬x.acc=e.acc:=by simpa using hb75
           refine zq hb75 (zq hb75<|zq hb75<|zq hb75<|zq hb75<|za V (zB V hb75 V)<|ze<|zW V V<|zp<|zd V<|za V (zA 4 5 V V k9 V zh)<|zt (S:=[]) (ZL V V (zeA x) V) (SWl.e4 (yN 3 5 80 V V (SrcT.ls (l:=[x]) V) k9 k9 (by simp;omega) d9 (fun _ h=>h) V) fun A85 F85 c85=>(zf V<|ze<|yZ ?_)))
           repeat (first | refine Ze ?_ | refine Zf d9 ?_)
           refine Zn (zn<|zi<|zd V<|za V (yC V V ⟨by omega,by omega⟩)<|zf V<|zP ?_)
           have hsm:¬Rnd.same x e:=fun h=>by first | exact h75 h.1 | exact h81 h.2
           rw [if_pos (show qB e x=true from decide_eq_true hsm)] at hF;have hno:¬(Rnd.same x e∧e.ser≤x.ser):=fun h=>hsm h.1;exact fun a w hh=>hK0 (⟨(k + 1,⟨A85,c85,F85⟩),by dsimp only;omega,fun d hd=>by dsimp only at hd;rw [yr hx] at hd;rcases List.mem_append.1 hd with hd | hd;exact hk.2 d hd;rw [List.mem_singleton.1 hd];exact hno⟩) (by dsimp only;omega) a w (hh.sub<|⟨⟨_,V,⟨lq V,⟨lq V,⟨lq V,⟨lq V,⟨⟨_,V,zF (by rw [hF])⟩,⟨⟨_,V,zF s9⟩,t9⟩⟩⟩⟩⟩⟩⟩,[0,1,2,4],by decide,⟨la rfl,⟨la rfl,⟨la rfl,⟨⟨_,rfl,ZZ (by rw [hF]) (by rw [hF])⟩,trivial⟩⟩⟩⟩⟩)
          ·have h75:x.acc=e.acc:=by simpa using hb75
           refine zy hb75 (zc (n:=1) V k9) (zy hb75 (zg 4 V V V k9 zh)<|zy hb75 (zc (n:=1) V k9)<|zy hb75 (zg 1 V V V k9 zh)<|zy hb75 (ye V V)<|za V (zv V hb75 V)<|ze<|zJ V (fun hb81=> ?_) (fun hb81=> ?_))
           ·have h81:¬x.rnd=e.rnd:=by simpa using hb81
            refine zp (zd V<|za V (zA 4 5 V V k9 V zh)<|zt (S:=[]) (ZL V V (zeA x) V) (SWl.e4 (yN 3 5 80 V V (SrcT.ls (l:=[x]) V) k9 k9 (by simp;omega) d9 (fun _ h=>h) V) fun A85 F85 c85=>(zf V<|ze<|yZ ?_)))
            repeat (first | refine Ze ?_ | refine Zf d9 ?_)
            refine Zn (zn<|zi<|zd V<|za V (yC V V ⟨by omega,by omega⟩)<|zf V<|zP ?_)
            have hsm:¬Rnd.same x e:=fun h=>by first | exact h75 h.1 | exact h81 h.2
            rw [if_pos (show qB e x=true from decide_eq_true hsm)] at hF;have hno:¬(Rnd.same x e∧e.ser≤x.ser):=fun h=>hsm h.1;exact fun a w hh=>hK0 (⟨(k + 1,⟨A85,c85,F85⟩),by dsimp only;omega,fun d hd=>by dsimp only at hd;rw [yr hx] at hd;rcases List.mem_append.1 hd with hd | hd;exact hk.2 d hd;rw [List.mem_singleton.1 hd];exact hno⟩) (by dsimp only;omega) a w (hh.sub<|⟨⟨_,V,⟨lq V,⟨lq V,⟨lq V,⟨lq V,⟨⟨_,V,zF (by rw [hF])⟩,⟨⟨_,V,zF s9⟩,t9⟩⟩⟩⟩⟩⟩⟩,[0,1,2,4],by decide,⟨la rfl,⟨la rfl,⟨la rfl,⟨⟨_,rfl,ZZ (by rw [hF]) (by rw [hF])⟩,trivial⟩⟩⟩⟩⟩)
           ·have h81:x.rnd=e.rnd:=by simpa using hb81
            refine zr (zn<|zp<|za V (zc (n:=2) V k9)<|za V (zg 4 V V V k9 zh)<|za V (zc (n:=2) V k9)<|za V (zg 1 V V V k9 zh)<|za V (ZB V V)<|ze<|zJ V (fun hb90=> ?_) (fun hb90=> ?_))
            ·have h90:x.ser≥e.ser:=oT hb90;refine zp (za V (zA 0 6 V V k9 V zh)<|zt (S:=[_]) (zw 2 V V V k9 V<|m9 V)<|zf V<|ze<|zQ (fn:=Tryz.f33) (()) [] (fun _ _ h=>h) (Rs.le (ym V (zS 2 V V k9)<|zj V) ?_) d9 t9)
             have hE:Rnd.subE s e now=11:=by (unfold Rnd.subE;rw [if_neg<|not_not_intro ht,if_neg<|not_not_intro hh,if_neg<|not_not_intro hst,if_neg<|not_not_intro haut,if_pos ⟨x,List.mem_of_getElem? hx,⟨h75,h81⟩,by omega⟩])
             have hne:Rnd.subE s e now≠0:=by (rw [hE];first | decide | assumption)
             exact yn ⟨by rw [show Rnd.subS s e now=s from if_neg hne];exact zb _,zF (by rw [hE]),trivial⟩
            ·have h90:¬x.ser≥e.ser:=oF hb90;refine zr (yc<|zn<|zi<|zd V<|za V (yC V V ⟨by omega,by omega⟩)<|zf V<|zP ?_);have hsm:Rnd.same x e:=⟨h75,h81⟩;rw [if_neg (fun (h:qB e x=true)=>(oT h) hsm),List.append_nil] at hF
             have hno:¬(Rnd.same x e∧e.ser≤x.ser):=fun h=>by have:=h.2;omega
             exact fun a w hh=>hK0 (⟨(k + 1,u),by dsimp only;omega,fun d hd=>by dsimp only at hd;rw [yr hx] at hd;rcases List.mem_append.1 hd with hd | hd;exact hk.2 d hd;rw [List.mem_singleton.1 hd];exact hno⟩) (by dsimp only;omega) a w (hh.sub<|⟨⟨_,V,⟨lq V,⟨lq V,⟨lq V,⟨lq V,⟨⟨_,V,zF (by rw [hF])⟩,⟨⟨_,V,zF s9⟩,t9⟩⟩⟩⟩⟩⟩⟩,[0,1,2,3],by decide,⟨la rfl,⟨la rfl,⟨la rfl,⟨⟨_,rfl,ZZ (by rw [hF]) (by rw [hF])⟩,trivial⟩⟩⟩⟩⟩)
         ·have h62:¬(k:Int) < (s.es.length:Int):=oF hb62;refine yZ ?_
          repeat (first | refine Ze ?_ | refine Zf d9 ?_)
          refine Zn (zn<|zk<|zk ?_);have hnb:¬Rnd.busy s.es e:=fun ⟨y,hy,hy1,hy2⟩=>hk.2 y (by rw [List.take_of_length_le o9];exact hy) ⟨hy1,hy2⟩;refine zi (za V (zc (n:=5) V k9)<|za V (zg 0 V V V k9 zh)<|za V (yx (e:=85) V k9)<|za V (ZB V V)<|ze<|zJ V (fun hb95=> ?_) (fun hb95=> ?_))
          ·have h95:(s.en.length:Int)≥4096:=oT hb95;refine zp (za V (zA 0 6 V V k9 V zh)<|zt (S:=[_]) (zw 2 V V V k9 V<|m9 V)<|zf V<|ze<|zQ (fn:=Tryz.f33) (()) [] (fun _ _ h=>h) (Rs.le (ym V (zS 2 V V k9)<|zj V) ?_) d9 t9)
           have hE:Rnd.subE s e now=7:=by (unfold Rnd.subE;rw [if_neg<|not_not_intro ht,if_neg<|not_not_intro hh,if_neg<|not_not_intro hst,if_neg<|not_not_intro haut,if_neg hnb,if_pos o9])
           have hne:Rnd.subE s e now≠0:=by (rw [hE];first | decide | assumption)
           exact yn ⟨by rw [show Rnd.subS s e now=s from if_neg hne];exact zb _,zF (by rw [hE]),trivial⟩
          ·have h95:¬(s.en.length:Int)≥4096:=oF hb95;refine zr (zn<|zk ?_)
           have hFA:(s.es.take k).filter (qB e)=s.es.filter (qB e):=by rw [List.take_of_length_le o9]
           obtain ⟨hpl,hgl,hel⟩:=Rnd.subP_len ht.1 ht.2;rw [hFA] at hfl;refine zO (σ':=zN [(2,iD now),(3,pA g3),(4,pA g4),(6,pA g6),(11,isD<|.slice u.A (s.es.filter<|qB e).length u.c)] [.c g3 [lsD Yz s.bk,lsD YB s.ws,lsD yX s.es,lsD Z8 s.ks,iD s.ck,lsD encE s.en],.c g4 [yY e.acc,iD e.rnd,iD e.ser,bD e.box,bD e.tag],.c g6 [isD<|.slice none 0 0,isD<|.slice none 0 0,isD<|.slice none 0 0,isD<|.slice none 0 0,iD 0,isD<|.slice none 0 0],.r u.F<|yP 58 5 yX u.A u.c<|s.es.filter<|qB e]) (⟨⟨_,V,⟨lq V,⟨lq V,⟨lq V,⟨lq V,⟨⟨_,V,zF (by rw [hFA])⟩,t9⟩⟩⟩⟩⟩⟩,[0,1,2,3],by decide,⟨la rfl,⟨la rfl,⟨la rfl,⟨⟨_,rfl,ZZ (by rw [hFA]) (by rw [hFA])⟩,trivial⟩⟩⟩⟩⟩) (Ys (fun σ=>σ=zN [(2,iD now),(3,pA g3),(4,pA g4),(6,pA g6),(11,isD<|.slice u.A (s.es.filter<|qB e).length u.c)] [.c g3 [lsD Yz s.bk,lsD YB s.ws,lsD yX s.es,lsD Z8 s.ks,iD s.ck,lsD encE<|s.en ++ [(⟨1,Rnd.subP e now⟩:Led.Ent)]],.c g4 [yY e.acc,iD e.rnd,iD e.ser,bD e.box,bD e.tag],.c g6 [isD<|.slice none 0 0,isD<|.slice none 0 0,isD<|.slice none 0 0,isD<|.slice none 0 0,iD 0,isD<|.slice none 0 0],.r u.F<|yP 58 5 yX u.A u.c<|s.es.filter<|qB e]) ?_ ?_)
           ·refine yh (g3 :: []) (rr [1,2,4]<|.n 0 (.n 3 (.n 5 (.n 6 (.e 7 (.n 8 (.e 9 .fin .no) .no) .no) .no) .no) .no)<|.n 3 (.n 0 (.n 5 (.n 6 (.e 7 (.n 8 (.e 9 .fin .no) .no) .no) .no) .no)<|.n 5 (.n 0 (.n 6 (.e 7 (.n 8 (.e 9 .fin .no) .no) .no) .no)<|.n 6 (.n 0 (.e 7 (.n 8 (.e 9 .fin .no) .no) .no)<|.e 7 (.n 0 (.n 8 (.e 9 .fin .no) .no) .no) .no) .no) .no) .no) k9 k9 (fun d _ _ _ _ h=>by cases d <;> exact h) (zL V V<|zl V V (ZU (r:=((now.toNat:Nat):Int)) .i64 V k9 k9<|zdU o9 o9)<|zl V V (zA 1 5 V V k9 V<|yK 0 V d9 zh)<|ZP V (qD (zA 0 6 V V k9 V zh) V) ?_ ?_)
            ·rintro _ rfl;refine ZG V (Zb (Kh now.toNat o9) V ⟨zb _,t9⟩ V) ?_ yf;rintro _ _ ⟨s100,rfl,rfl⟩;refine yw V (zY (KL e ht.1) V ⟨zb _,t9⟩ V) (ZG V (Zb (qS (Env.enc e) o9) V ⟨zb _,t9⟩ V) ?_ yf);rintro _ _ ⟨s103,rfl,rfl⟩;refine yW V (yN 4 1 1 V V (YE 5 V V) k9 k9 (by have a1:=Zv (n:=now.toNat) o9;have a3:=ZN (b:=Env.enc e) o9;omega) d9 (fun _ h=>mL _<|mR _<|mL _ h) V) ?_ yf;rintro _ ⟨A104,F104,c104,rfl⟩;exact YU 5 104 V V (Yc _) (yw V (zY (Y2 s 1 (Rnd.subP e now) o9 (by have:=hpl;omega)) V ⟨zb _,zb _,zb _,t9⟩ V)<|yy V (zw 0 V V V k9 V<|mL _<|mL _ mC)<|yz<|yA V<|sB [0,1,2,3] V V)
            refine ZG V (Zb (Kh now.toNat o9) V ⟨zb _,t9⟩ V) ?_ yf;rintro _ _ ⟨s100,rfl,rfl⟩;refine ZP V (qD (zA 0 6 V V k9 V zh) V) ?_ ?_
            ·rintro _ rfl;refine yw V (zY (KL e ht.1) V ⟨zb _,t9⟩ V) (ZG V (Zb (qS (Env.enc e) o9) V ⟨zb _,t9⟩ V) ?_ yf);rintro _ _ ⟨s103,rfl,rfl⟩;refine yW V (yN 4 1 1 V V (YE 5 V V) k9 k9 (by have a1:=Zv (n:=now.toNat) o9;have a3:=ZN (b:=Env.enc e) o9;omega) d9 (fun _ h=>mL _<|mR _<|mL _ h) V) ?_ yf;rintro _ ⟨A104,F104,c104,rfl⟩;exact YU 5 104 V V (Yc _) (yw V (zY (Y2 s 1 (Rnd.subP e now) o9 (by have:=hpl;omega)) V ⟨zb _,zb _,zb _,t9⟩ V)<|yy V (zw 0 V V V k9 V<|mL _<|mL _ mC)<|yz<|yA V<|sB [0,1,2,3] V V)
            refine yw V (zY (KL e ht.1) V ⟨zb _,t9⟩ V) (ZP V (qD (zA 0 6 V V k9 V zh) V) ?_ ?_)
            ·rintro _ rfl;refine ZG V (Zb (qS (Env.enc e) o9) V ⟨zb _,t9⟩ V) ?_ yf;rintro _ _ ⟨s103,rfl,rfl⟩;refine yW V (yN 4 1 1 V V (YE 5 V V) k9 k9 (by have a1:=Zv (n:=now.toNat) o9;have a3:=ZN (b:=Env.enc e) o9;omega) d9 (fun _ h=>mL _<|mR _<|mL _ h) V) ?_ yf;rintro _ ⟨A104,F104,c104,rfl⟩;exact YU 5 104 V V (Yc _) (yw V (zY (Y2 s 1 (Rnd.subP e now) o9 (by have:=hpl;omega)) V ⟨zb _,zb _,zb _,t9⟩ V)<|yy V (zw 0 V V V k9 V<|mL _<|mL _ mC)<|yz<|yA V<|sB [0,1,2,3] V V)
            refine ZG V (Zb (qS (Env.enc e) o9) V ⟨zb _,t9⟩ V) ?_ yf;rintro _ _ ⟨s103,rfl,rfl⟩;refine ZP V (qD (zA 0 6 V V k9 V zh) V) ?_ ?_
            ·rintro _ rfl;refine yW V (yN 4 1 1 V V (YE 5 V V) k9 k9 (by have a1:=Zv (n:=now.toNat) o9;have a3:=ZN (b:=Env.enc e) o9;omega) d9 (fun _ h=>mL _<|mR _<|mL _ h) V) ?_ yf;rintro _ ⟨A104,F104,c104,rfl⟩;exact YU 5 104 V V (Yc _) (yw V (zY (Y2 s 1 (Rnd.subP e now) o9 (by have:=hpl;omega)) V ⟨zb _,zb _,zb _,t9⟩ V)<|yy V (zw 0 V V V k9 V<|mL _<|mL _ mC)<|yz<|yA V<|sB [0,1,2,3] V V)
            refine yW V (yN 4 1 1 V V (YE 5 V V) k9 k9 (by have a1:=Zv (n:=now.toNat) o9;have a3:=ZN (b:=Env.enc e) o9;omega) d9 (fun _ h=>mL _<|mR _<|mL _ h) V) ?_ yf;rintro _ ⟨A104,F104,c104,rfl⟩;exact yw V (qD (zA 0 6 V V k9 V zh) V) (YU 5 104 V V (Yc _)<|yw V (zY (Y2 s 1 (Rnd.subP e now) o9 (by have:=hpl;omega)) V ⟨zb _,zb _,zb _,t9⟩ V)<|yy V (zw 0 V V V k9 V<|mL _<|mL _ mC)<|yz<|yA V<|sB [0,1,2,3] V V)
           ·rintro _ rfl;refine zn (zp<|zd V<|za V (zA 1 5 V V k9 V zh)<|zt (S:=[]) (ZL V V (zeA e) V) (SWl.e4 (yN 3 5 80 V V (SrcT.ls (l:=[e]) V) k9 k9 (by simp;omega) d9 (fun _ h=>h) V) fun A109 F109 c109=>(zd V<|za V (zc (n:=2) V k9)<|zt (S:=[_]) (zR 0 V V V k9 V<|m9 V)<|za V (zc (n:=4) V k9)<|zt (S:=[_]) (zR 0 V V V k9 V<|m9 V)<|ze<|zk<|zO (σ':=zN [(3,pA g3),(6,pA g6)] [.c g3 [lsD Yz s.bk,lsD YB s.ws,isD<|.slice A109 (Rnd.put s.es e).length c109,lsD Z8 s.ks,iD now,lsD encE<|s.en ++ [(⟨1,Rnd.subP e now⟩:Led.Ent)]],.c g6 [isD<|.slice none 0 0,isD<|.slice none 0 0,isD<|.slice none 0 0,isD<|.slice none 0 0,iD 0,isD<|.slice none 0 0],.r (⟨A109,c109,F109⟩:Ust).F<|yP 58 5 yX (⟨A109,c109,F109⟩:Ust).A (⟨A109,c109,F109⟩:Ust).c<|Rnd.put s.es e]) (sB [0,2,3] V V)<|zi<|za V (zA 0 6 V V k9 V zh)<|zt (S:=[_]) (zw 1 V V V k9 V<|m9 V)<|zf V<|ze<|ql 1 2 2 V V V<|zQ (fn:=Tryz.f33) (()) [] (fun _ _ h=>h) (Rs.le (ym V (zS 1 V V k9)<|zj V) ?_) d9 t9)))
            have hE:Rnd.subE s e now=0:=by (unfold Rnd.subE;rw [if_neg<|not_not_intro ht,if_neg<|not_not_intro hh,if_neg<|not_not_intro hst,if_neg<|not_not_intro haut,if_neg hnb,if_neg o9])
            exact yn ⟨by rw [Rnd.subS,if_pos hE];exact zb _,zF (by rw [hE]),trivial⟩
end
section
