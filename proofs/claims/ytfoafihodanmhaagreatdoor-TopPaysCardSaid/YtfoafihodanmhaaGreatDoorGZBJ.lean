/- TOP: Catalogue. PAYMENTS have small denominators, in plain terms. LAW 40: what holds of the payments. TOP: few, pays. -/
import Derived.Test.YtfoafihodanmhaaGreatDoorGZBI
set_option maxHeartbeats 8000000
set_option maxRecDepth 100000
namespace Go.Proofs.YtfoafihodanmhaaGreatDoor
open Go.RowKit
namespace Sx
theorem zfs {u:List Bool} {i:Nat}:(u.map yL).set i (yL true)=(u.set i true).map yL:=by rw [List.map_set]
theorem bools_atI {u:List Bool} {i:Nat} {b:Bool} (h:u[i]? =some b):(u.map yL)[i]? =some (yL b):=by rw [JJ,h];rfl
theorem con_cata (ars:List Tp.Ar) (is:List Tp.Im) (tc pc:Int) (ha:ars.length≤100) (hl:is.length≤1000000):ConR Tryz.prog 6 [] [lsD YN ars,lsD YM is,Z8 [iD tc],iD pc] (fun t:{q:List Tp.Pr × Int // q.1.length≤2 * ars.length}=>[]) (fun t:{q:List Tp.Pr × Int // q.1.length≤2 * ars.length}=>ZH [lsD yA t.1.1,iD t.1.2]):=by
 refine yt Tryz.func6 k9 I k9 fun base w0=>(zn (SWl.e2 (S:=[]) (ym I I) fun g6=>(zf I<|zf I<|ze<|zh<|zn<|zd I<|Zc (S:=[]) (yh [] (con_vArs ars o9) I ⟨zc _,t9⟩ d9 t9 (fun _ h=>h) I) ?_)));rintro _ ⟨⟨b1,hb1⟩,rfl⟩;refine za I (yu I) (zd I<|z1 27 I (fun hb27=> ?_) (fun hb27=> ?_))
 ·skip
  refine zt hb27 (zt hb27<|zt hb27<|za I (zE I hb27 I)<|zd I<|zt I<|zt I<|zt I<|za I (zE I I I)<|zd I<|zt I<|zt I<|zt I<|za I (zE I I I)<|ze<|yj I I<|zn<|zf I<|zf I<|ze<|zV (fn:=Tryz.f6) (⟨([],2),JC _⟩) [] (fun _ _ h=>h) (Rs.le (Rs.two I (zk I)<|zk I) ?_) d9 t9);exact Zf ⟨ZD,zc _,t9⟩
 ·skip
  refine zJ hb27 (zH I) (yN (S:=[]) I I hb27 I (yh [] (con_vIms is hl) I ⟨zc _,t9⟩ d9 t9 (fun _ h=>h) I) ?_);rintro _ ⟨⟨b2,hb2⟩,rfl⟩;refine zJ hb27 (yu I) (za I (zw I hb27 I)<|zd I<|z1 32 I (fun hb32=> ?_) (fun hb32=> ?_))
  ·skip
   refine zt hb32 (zt hb32<|zt hb32<|za I (zE I hb32 I)<|zd I<|zt I<|zt I<|zt I<|za I (zE I I I)<|ze<|yj I I<|zn<|zf I<|zf I<|ze<|zV (fn:=Tryz.f6) (⟨([],2),JC _⟩) [] (fun _ _ h=>h) (Rs.le (Rs.two I (zk I)<|zk I) ?_) d9 t9);exact Zf ⟨ZD,zc _,t9⟩
  ·skip
   refine zJ hb32 (zx 0 1 I I k9 I zm) (yN (S:=[]) I I hb32 I (yh [] (con_bval tc) I ⟨zc _,t9⟩ d9 t9 (fun _ h=>h) I) ?_);rintro _ ⟨b3,rfl⟩;refine zJ hb32 (yu I) (za I (zw I hb32 I)<|zd I<|z1 37 I (fun hb37=> ?_) (fun hb37=> ?_))
   ·skip
    refine zt hb37 (zt hb37<|zt hb37<|za I (zE I hb37 I)<|ze<|yj I I<|zn<|zf I<|zf I<|ze<|zV (fn:=Tryz.f6) (⟨([],2),JC _⟩) [] (fun _ _ h=>h) (Rs.le (Rs.two I (zk I)<|zk I) ?_) d9 t9);exact Zf ⟨ZD,zc _,t9⟩
   ·skip
    refine zJ hb37 (zH I) (yN (S:=[]) I I hb37 I (zv (Zy (pc) 1 1000000) I ⟨zc _,zc _,zc _,t9⟩ I) ?_);rintro _ rfl;refine zJ hb37 (yu I) (za I (zw I hb37 I)<|ze<|zC I (fun hb41=> ?_) (fun hb41=> ?_))
    ·skip
     refine zn (zf I<|zf I<|ze<|zV (fn:=Tryz.f6) (⟨([],2),JC _⟩) [] (fun _ _ h=>h) (Rs.le (Rs.two I (zk I)<|zk I) ?_) d9 t9);exact Zf ⟨ZD,zc _,t9⟩
    ·skip
     refine zq (zj<|zh ?_);have hars:∀ x∈ars,qH x:=hb1 (qp hb27);have hims:∀ x∈is,qo x:=hb2 (qp hb32);have hpc:=Kn hb41;refine zi (SWl.e2 (S:=[]) (Ef.alloc (zs:=List.replicate 64<|.bool false) k9 I) fun g10=>(ze<|zh<|zn<|zd I<|za I (zT (e:=64) I k9)<|zd I<|ze<|SW.block<|yd (ι:={p:Nat × List Bool // p.1≤ars.length∧p.2.length=64}) (fun p=>yb [(0,lsD YN ars),(1,lsD YM is),(3,iD pc),(6,pA g6),(10,pA g10),(42,lsD YN ars),(43,iD (ars.length:Int)),(44,iD (p.1.1:Int))] [.c g6 [iD tc],.c g10<|(p.1.2).map yL]) (fun p=>ars.length - p.1.1) (⟨(0,List.replicate 64 false),JC _,by simp⟩) ?_ ?_))
     ·exact ⟨⟨_,I,(sT I)⟩,[0,1],by decide,⟨la rfl,⟨⟨_,rfl,(Yq (by rw [List.map_replicate,List.map_replicate]))⟩,trivial⟩⟩⟩
     ·rintro ⟨⟨i,u⟩,hi,hul⟩ K0 hK0;dsimp only at hi hul ⊢;refine zn (za I (yc I I)<|ze<|zh<|zC I (fun hb45=> ?_) (fun hb45=> ?_))
      ·have h45:(i:Int) < (ars.length:Int):=oT hb45;refine zq (zj<|zh<|SW.block<|zh ?_);obtain ⟨x,hx⟩:∃ x,ars[i]? =some x:=⟨_,List.getElem?_eq_getElem o9⟩;have hxo:=hars x (List.mem_of_getElem? hx);have hx0:=hxo.1.1;have hx1:=hxo.1.2;exact zi (za I (zU (e:=64) 2 I I k9 k9 o9 (by simpa using hx))<|za I (yn 2 I k9 d9 (show 2≤2 by decide) s9) (SWl.e2 (S:=[]) (Ef.alloc (zs:=[.int .i64 0,.int .i64 0]) k9 I) fun g12=>(zu (S:=[_]) (zA 2 I I I k9 I<|m9 I)<|ze<|zi<|za I (zg (n:=0) I k9)<|za I (zp 2 I I I k9 zm)<|za I (Yx (e:=4) (n:=64) I I k9 k9 o9 o9)<|zu (S:=[_]) (ZG 1 I I I k9 (by rw [List.length_map,hul];omega)<|m9 I)<|zF<|SN.block<|zj<|zi<|za I (Rd.add I I ⟨by omega,by omega⟩)<|zd I<|zF (fun aK wK hh=>hK0 (⟨(i + 1,u.set x.id.toNat true),by dsimp only;omega,by dsimp only;rw [List.length_set];exact hul⟩) (by dsimp only;omega) aK wK<|hh.sub<|⟨⟨_,I,⟨lq I,⟨lq I,⟨lq I,⟨lq I,⟨lq I,⟨lq I,⟨lq I,⟨⟨_,I,zI s9⟩,t9⟩⟩⟩⟩⟩⟩⟩⟩⟩,[0,1],by decide,⟨la rfl,⟨⟨_,rfl,(Yq zfs)⟩,trivial⟩⟩⟩))))
      ·have h45:¬(i:Int) < (ars.length:Int):=oF hb45;refine zQ ?_
       repeat (first | refine zX ?_ | refine zY d9 ?_)
       refine zZ (zj<|zh<|zn<|zd I<|za I (zT (e:=85) I k9)<|zd I<|ze<|SW.block<|yd (ι:={i:Nat // i≤is.length}) (fun i=>yb [(0,lsD YN ars),(1,lsD YM is),(3,iD pc),(6,pA g6),(10,pA g10),(52,lsD YM is),(53,iD (is.length:Int)),(54,iD (i.1:Int))] [.c g6 [iD tc],.c g10<|(u).map yL]) (fun i=>is.length - i.1) (⟨0,JC _⟩) ?_ ?_)
       ·exact (sB [0,1] I I)
       ·rintro ⟨i,hi⟩ K1 hK1;dsimp only at hi ⊢;refine zn (za I (yc I I)<|ze<|zh<|zC I (fun hb55=> ?_) (fun hb55=> ?_))
        ·have h55:(i:Int) < (is.length:Int):=oT hb55;refine zq (zj<|zh<|SW.block<|zh ?_);obtain ⟨x,hx⟩:∃ x,is[i]? =some x:=⟨_,Je o9⟩;have hxo:=hims x (Jc hx);have hx0:=hxo.1.1.1;have hx1:=hxo.1.1.2;obtain ⟨kb,hkb⟩:∃ b,u[x.ar.toNat]? =some b:=⟨_,Je o9⟩;refine zi (za I (zU (e:=85) 3 I I k9 k9 o9 (by simpa using hx))<|za I (yn 3 I k9 d9 (show 3≤3 by decide) s9) (SWl.e2 (S:=[]) (Ef.alloc (zs:=[.int .i64 0,.int .i64 0,.int .i64 0]) k9 I) fun g14=>(zu (S:=[_]) (zA 2 I I I k9 I<|m9 I)<|zN<|za I (zg (n:=0) I k9)<|za I (zp 2 I I I k9 zm)<|za I (Yx (e:=4) (n:=64) I I k9 k9 o9 o9)<|za I (zp 1 I I (bools_atI hkb) k9 zm)<|za I (yu I)<|ze<|zC I (fun hb62=> ?_) (fun hb62=> ?_))))
         ·skip
          refine zn (zf I<|zf I<|ze<|zV (fn:=Tryz.f6) (⟨([],9),JC _⟩) [] (fun _ _ h=>h) (Rs.le (Rs.two I (zk I)<|zk I) ?_) d9 t9);exact Zf ⟨ZD,zc _,t9⟩
         ·skip
          exact zq (SN.block<|zj<|zi<|za I (Rd.add I I ⟨by omega,by omega⟩)<|zd I<|zF (fun aK wK hh=>hK1 (⟨i + 1,by omega⟩) (by dsimp only;omega) aK wK<|hh.sub<|⟨⟨_,I,⟨lq I,⟨lq I,⟨lq I,⟨lq I,⟨lq I,⟨lq I,⟨lq I,⟨⟨_,I,zI s9⟩,t9⟩⟩⟩⟩⟩⟩⟩⟩⟩,[0,1],by decide,(sX rfl)⟩))
        ·have h55:¬(i:Int) < (is.length:Int):=oF hb55;refine zQ ?_
         repeat (first | refine zX ?_ | refine zY d9 ?_)
         refine zZ (zj<|zn<|za I (zx 0 1 I I k9 I zm)<|Zc (S:=[]) (yh [] (con_bblk tc) I ⟨zc _,t9⟩ d9 t9 (fun _ h=>h) I) ?_);rintro _ ⟨⟨⟨bk,be⟩,hbk⟩,rfl⟩;refine zd I (za I (zo I I)<|za I (zo I I)<|zf I<|zf I<|ze<|zh<|zn<|zd I<|za I (yv I I)<|ze<|zC I (fun hb70=> ?_) (fun hb70=> ?_))
         ·skip
          refine zn (zd I<|zf I<|zf I<|ze<|zV (fn:=Tryz.f6) (⟨([],be),JC _⟩) [] (fun _ _ h=>h) (Rs.le (Rs.two I (zk I)<|zk I) ?_) d9 t9);exact Zf ⟨ZD,zc _,t9⟩
         ·skip
          refine zq (zj<|zh<|SW.sub (σ':=yb [(0,_),(1,_),(3,_),(15,_)] []) (sB [] I I)<|zi<|zf I<|ze<|zh<|zn<|zd I<|za I (zT (e:=64) I k9)<|zd I<|ze<|SW.block<|Y5 61 5 yA<|yd (ι:={p:Nat × List Tp.Pr × Wst // p.1≤ars.length∧p.2.1.length≤2 * p.1}) (fun p=>yb [(0,lsD YN ars),(1,lsD YM is),(3,iD pc),(17,isD<|.slice p.1.2.2.A (p.1.2.1).length p.1.2.2.c),(15,iD bk),(72,lsD YN ars),(73,iD (ars.length:Int)),(74,iD (p.1.1:Int))] [.r p.1.2.2.F<|yi 61 5 yA p.1.2.2.A p.1.2.2.c<|p.1.2.1]) (fun p=>ars.length - p.1.1) (⟨(0,[],⟨none,0,[]⟩),JC _,Js _⟩) ?_ ?_)
          ·exact (sB [0] I I)
          ·rintro ⟨⟨i,ps,t⟩,hi,hpl⟩ K2 hK2;dsimp only at hi hpl ⊢;refine zn (za I (yc I I)<|ze<|zh<|zC I (fun hb75=> ?_) (fun hb75=> ?_))
           ·have h75:(i:Int) < (ars.length:Int):=oT hb75;refine zq (zj<|zh<|SW.block<|zh ?_);obtain ⟨x,hx⟩:∃ x,ars[i]? =some x:=⟨_,Je o9⟩;have hxo:=hars x (Jc hx);have hp0:=hxo.2.1;have hp1:=hxo.2.2
            have hun:1≤1 + x.pe / 50000∧1 + x.pe / 50000≤81921:=by omega
            have hup:0≤(1 + x.pe / 50000) * pc∧(1 + x.pe / 50000) * pc≤81921000000:=⟨Int.mul_nonneg o9 o9,by have:=Int.mul_le_mul hun.2 hpc.2 o9 (by omega:(0:Int)≤81921);omega⟩;refine zi (za I (zU (e:=64) 2 I I k9 k9 o9 (by simpa using hx))<|za I (yn 2 I k9 d9 (show 2≤2 by decide) s9) (SWl.e2 (S:=[]) (Ef.alloc (zs:=[.int .i64 0,.int .i64 0]) k9 I) fun g19=>(zu (S:=[_]) (zA 1 I I I k9 I<|m9 I)<|zN<|za I (zg (n:=0) I k9)<|za I (zp 1 I I I k9 zm)<|zd I<|za I (zdy I I)<|zd I<|Zc (S:=[]) (yh [] (zfh x.id (min bk 12).toNat is o9 hl hims) I ⟨zc _,zI (by congr 1;omega),zc _,t9⟩ d9 t9 (fun _ h=>h) I) ?_)));rintro _ ⟨⟨n1,n2,n3⟩,rfl⟩;refine SWl.e2 (S:=[]) (Ef.alloc (zs:=[.int .i64 0,.int .i64 0,.int .i64 0]) k9 I) fun g20=>(zu (S:=[_]) (zA 2 I I I k9 I<|m9 I)<|zN<|za I (zg (n:=1) I k9)<|za I (zp 1 I I I k9 zm)<|zu (S:=[]) (zv (ze6 x.pe hxo.2) I ⟨zc _,t9⟩ I)<|zd I<|za I (zo I I)<|za I (zo I I)<|zf I<|zf I<|ze<|zh<|SW.sub (σ':=yb [(0,_),(1,_),(3,_),(17,_),(15,_),(72,_),(73,_),(74,_),(19,_),(20,_),(21,_)] [.r t.F<|yi 61 5 yA t.A t.c<|ps,.c g19 [iD x.id,iD x.pe],.c g20<|([n1,n2,n3]:List Int).map iD]) (⟨⟨_,I,(sT I)⟩,[0,1,2],by decide,⟨lR rfl,⟨la rfl,⟨⟨_,rfl,(Yq rfl)⟩,trivial⟩⟩⟩⟩)<|zi<|zf I<|ze<|SW.block<|yd (ι:={p:Nat × List Tp.Pr × Wst // 1≤p.1∧p.1≤3∧p.2.1.length + 1≤2 * i + p.1}) (fun p=>yb [(0,lsD YN ars),(1,lsD YM is),(3,iD pc),(15,iD bk),(17,isD<|.slice p.1.2.2.A (p.1.2.1).length p.1.2.2.c),(72,lsD YN ars),(73,iD (ars.length:Int)),(74,iD (i:Int)),(19,pA g19),(20,pA g20),(21,iD<|1 + x.pe / 50000),(23,iD (p.1.1:Int))] [.r p.1.2.2.F<|yi 61 5 yA p.1.2.2.A p.1.2.2.c<|p.1.2.1,.c g19 [iD x.id,iD x.pe],.c g20<|([n1,n2,n3]:List Int).map iD]) (fun p=>3 - p.1.1) (⟨(1,ps,t),Nat.le_refl _,by dsimp only;omega,by dsimp only;omega⟩) ?_ ?_)
            ·exact (sB [0,1,2] I I)
            ·rintro ⟨⟨c,qs,s⟩,hc1,hc2,hql⟩ K3 hK3;dsimp only at hc1 hc2 hql ⊢;refine zh (zn<|zd I<|za I (Zn I I)<|ze<|zC I (fun hb91=> ?_) (fun hb91=> ?_))
             ·have h91:(c:Int)≤2:=oT hb91;refine zq (zj<|zh<|SW.block<|zh ?_);obtain ⟨n,hn⟩:∃ n,[n1,n2,n3][c]? =some n:=⟨_,Je (by simp;omega)⟩;refine zi (zd I<|za I (Yx (e:=3) (n:=3) I I k9 k9 o9 o9)<|za I (zp 2 I I (Vc (by rw [J7];exact hn)) k9 zm)<|za I (yV I I)<|ze<|zC I (fun hb97=> ?_) (fun hb97=> ?_))
              ·skip
               refine yl (s.F ++ []) (rr [0,1,2,3,4,5,6,7,8,9,10,11,12,13]<|.n 14 (.e 15 (.r 16 .fin) .no) .no) k9 k9 (fun d _ _ _ _ h=>by cases d <;> exact h) (zz I I<|zl I I (zg (n:=0) I k9)<|zl I I (zp 1 I I I k9<|Zl 0 I d9 zm)<|zz I I<|zz I I<|zl I I (Yx (e:=3) (n:=3) I I k9 k9 o9 o9)<|zl I I (zp 2 I I (Vc (by rw [J7];exact hn)) k9<|Zl 0 I d9 zm)<|zz I I<|zz I I<|zz I I<|zl I I (Rd.mul I I ⟨by omega,by omega⟩)<|zz I I<|zl I I (Kq I I ⟨by omega,by omega,by omega⟩)<|zl I I (yF I I bldPr)<|yZ I (YB I I blsPr1 I)<|jI I (YW 0 5 40 I I (Y4 (l:=[_]) I) k9 k9 (by rw [Xq];omega) d9 (fun _ h=>mL _ h) I) ?_ yB)
               rintro _ ⟨A113,F113,c113,rfl⟩;exact yR I I (y9<|SN.block<|zj<|zi<|zd I<|za I (Rd.add I I ⟨by omega,by omega⟩)<|zf I<|zF (fun aK wK hh=>hK3 (⟨(c + 1,qs ++ [⟨x.id,(c:Int),n,1 + x.pe / 50000,(1 + x.pe / 50000) * pc / (c:Int)⟩],⟨A113,c113,F113⟩),by dsimp only;omega,by dsimp only;omega,by dsimp only;rw [List.length_append,List.length_singleton];omega⟩) (by dsimp only;omega) aK wK<|hh.sub<|⟨⟨_,I,⟨lq I,⟨lq I,⟨lq I,⟨lq I,⟨lq I,⟨lq I,⟨lq I,⟨lq I,⟨lq I,⟨lq I,⟨lq I,⟨⟨_,I,zI s9⟩,t9⟩⟩⟩⟩⟩⟩⟩⟩⟩⟩⟩⟩⟩,[2,0,1],by decide,(sX rfl)⟩))
              ·skip
               exact zq (SN.block<|zj<|zi<|zd I<|za I (Rd.add I I ⟨by omega,by omega⟩)<|zf I<|zF (fun aK wK hh=>hK3 (⟨(c + 1,qs,s),by dsimp only;omega,by dsimp only;omega,by dsimp only;omega⟩) (by dsimp only;omega) aK wK<|hh.sub<|⟨⟨_,I,⟨lq I,⟨lq I,⟨lq I,⟨lq I,⟨lq I,⟨lq I,⟨lq I,⟨lq I,⟨lq I,⟨lq I,⟨lq I,⟨⟨_,I,zI s9⟩,t9⟩⟩⟩⟩⟩⟩⟩⟩⟩⟩⟩⟩⟩,[0,1,2],by decide,(sX rfl)⟩))
             ·have h91:¬(c:Int)≤2:=oF hb91;refine zQ ?_
              repeat (first | refine zX ?_ | refine zY d9 ?_)
              exact zZ (SN.block<|zj<|zi<|za I (Rd.add I I ⟨by omega,by omega⟩)<|zd I<|zF (fun aK wK hh=>hK2 (⟨(i + 1,qs,s),by dsimp only;omega,by dsimp only;omega⟩) (by dsimp only;omega) aK wK<|hh.sub<|⟨⟨_,I,⟨lq I,⟨lq I,⟨lq I,⟨lq I,⟨lq I,⟨lq I,⟨lq I,⟨⟨_,I,zI s9⟩,t9⟩⟩⟩⟩⟩⟩⟩⟩⟩,[0],by decide,⟨lR rfl,trivial⟩⟩))
           ·have h75:¬(i:Int) < (ars.length:Int):=oF hb75;refine zQ ?_
            repeat (first | refine zX ?_ | refine zY d9 ?_)
            refine zZ (zj<|zn<|zd I<|zf I<|zf I<|ze<|SW.freezeT 0 8 I I (zc _)<|zV (fn:=Tryz.f6) (⟨(ps,0),by dsimp only;omega⟩) [] (fun _ _ h=>h) (Rs.le (Rs.two I (zk I)<|zk I) ?_) d9 t9);exact zc _
end Sx
end Go.Proofs.YtfoafihodanmhaaGreatDoor
namespace Go.Proofs.YtfoafihodanmhaaGreatDoor
namespace Co
section
variable {m:Int}
end
end Co
end Go.Proofs.YtfoafihodanmhaaGreatDoor
namespace Go.Proofs.YtfoafihodanmhaaGreatDoor
open Go.RowKit
namespace Sx
section
section
variable {V bd:Nat→Int}{n:Nat}
theorem pyS_in (h:Co.Mkt n V bd):Co.In V bd n (pyS V bd n n):=(Co.pay_spec (zdP h) (fun i hi=>(zbW h i hi).1) n<|Js _).1
theorem pyS_vcg (h:Co.Mkt n V bd) {i:Nat} (hi:i < n):60 * Co.vcg V bd n i≤pyS V bd n n i∧pyS V bd n n i≤60 * bd i:=by
 refine ⟨Co.in_vcg h (pyS_in h) hi,?_⟩;have h1:=((Co.pay_spec (zdP h) (fun i hi=>(zbW h i hi).1) n<|Js _).2.1 i hi).2;have h2:=(Co.rs_nonneg h (Wc h (2 ^ n)<|Js _).1 hi).2;unfold pyS at *;unfold pyR thT at *;omega
theorem blk_pyS (h:Co.Mkt n V bd):zfI V bd n 60 (pyS V bd n n)=none:=zct fun c hc=>by have:=pyS_in h c hc;omega
theorem thT_zero (h:Co.Mkt n V bd) (hb:zfI V bd n 60 (fun i=>60 * Co.vcg V bd n i)=none):thT V bd n=0:=by
 have h0:=(Wc h (2 ^ n)<|Js _).1
 have hi:Co.In V bd n (Co.rs bd (Co.vcg V bd n) 0):=fun c hc=>by
  unfold zfI at hb;rw [List.find?_eq_none] at hb;have h1:=hb c (List.mem_range.2 hc);simp only [Jz] at h1
  have h2:Co.oc c (Co.rs bd (Co.vcg V bd n) 0) n=Co.oc c (fun i=>60 * Co.vcg V bd n i) n:=Co.sm_congr fun i hi=>by rw [Co.rs_zero h hi]
  rw [h2];omega
 have:=(inB_iff h<|Int.le_refl 0).1 (Jo hi);unfold thT at *;omega
theorem pyS_zero (h:Co.Mkt n V bd) (ht:thT V bd n=0):zB (pyS V bd n n) n=zB (fun i=>60 * Co.vcg V bd n i) n:=by
 unfold zB;refine List.map_congr_left fun i hi=> ?_;have hin:=List.mem_range.1 hi;have h1:=pyS_vcg h hin;have h2:=((Co.pay_spec (zdP h) (fun i hi=>(zbW h i hi).1) n<|Js _).2.1 i hin).2
 have h3:pyR V bd n i=60 * Co.vcg V bd n i:=by unfold pyR;rw [ht,Co.rs_zero h hin]
 unfold pyS at *;omega
end
def mkP (K:Int) (X:Nat→Int) (n:Nat):List Rw:=(zB X n).map fun x=>rw_ (rn x K) (rd x K)
section
variable {K:Int}{X bd:Nat→Int}{n:Nat}
theorem Wt:(mkP K X n).length=n:=by unfold mkP;rw [JO,zW]
theorem mkP_at {i:Nat} {r:Rw} (h:(mkP K X n)[i]? =some r):i < n∧r=rw_ (rn (X i) K) (rd (X i) K):=by
 have hi:i < n:=by have:=(Jg.1 h).1;rwa [Wt] at this
 unfold mkP at h;rw [JJ,yU hi] at h;exact ⟨hi,(JN h).symm⟩
theorem mkP_byt:∀ r∈mkP K X n,Byt r.b r.c:=fun r hr=>by
 unfold mkP at hr;obtain ⟨x,_,rfl⟩:=JI.1 hr;exact ⟨fun x hx=>Nm.dg_lt d9 x<|List.mem_reverse.1 hx,fun x hx=>Nm.dg_lt d9 x<|List.mem_reverse.1 hx⟩
theorem mkP_eq (i:Nat) (x:Int) (r:Rw) (hx:(zB X n)[i]? =some x) (hr:(mkP K X n)[i]? =some r):jY K x=qk r:=by
 obtain ⟨hi,rfl⟩:=mkP_at hr;rw [yU hi] at hx;obtain rfl:=JN hx
 rfl
theorem le_mkP:Le (lsD (jY K)<|zB X n) (lsD qk<|mkP K X n):=le_lsD (by rw [zW,Wt]) mkP_eq
theorem mkP_le:Le (lsD qk<|mkP K X n) (lsD (jY K)<|zB X n):=le_lsD (by rw [zW,Wt]) fun i r x hr hx=>(mkP_eq i x r hx hr).symm
theorem mkP_ok (hB:∀ i < n,BK K<|X i) (hd:∀ i < n,rd (X i) K≤1000) (i:Nat) (r:Rw) (h:(mkP K X n)[i]? =some r):r.ok:=by
 obtain ⟨hi,rfl⟩:=mkP_at h;exact ⟨(hB i hi).g.rv,by rw [rw_den];exact hd i hi⟩
theorem zeP {x:Int} (h:BK K x):rn x K < 0↔x < 0:=by
 have:=sign_K h;rw [← K9,this,K9]
theorem hi_iff {x b:Int} (h:BK K x):b * rd x K < rn x K↔b * K < x:=by
 have c:=h.cr;have hd:=h.g.pos;have hK:=h.pos
 generalize rn x K=a at *
 generalize rd x K=d at *
 constructor
 ·intro h1;refine Int.lt_of_mul_lt_mul_right (a:=d) ?_ o9;have:=Int.mul_lt_mul_of_pos_right h1 hK;rw [← c,Int.mul_right_comm];exact this
 ·intro h1;refine Int.lt_of_mul_lt_mul_right (a:=K) ?_ o9;have:=Int.mul_lt_mul_of_pos_right h1 hd;rw [c,Int.mul_right_comm];exact this
theorem mkP_zero (hB:∀ i < n,BK K<|X i) (hd:∀ i < n,rd (X i) K≤1000) (h0:∀ i < n,0≤X i∧X i≤bd i * K):vpE (mkP K X n) bd n=0:=by
 refine vpE_no Wt (mkP_ok hB hd) fun i r h hh=> ?_;obtain ⟨hi,rfl⟩:=mkP_at h;have h1:=h0 i hi;rcases hh with hh | hh
 ·rw [rw_num,zeP<|hB i hi] at hh;omega
 ·rw [rw_num,rw_den,hi_iff<|hB i hi] at hh;omega
theorem mkP_pay (hK:0 < K) (hk:Sm 61 K) (hkb:K≤1000000000000000000) (hx:∀ i < n,0≤X i∧X i≤1099511627776000000000000000000):PayK (mkP K X n) bd n K X:=⟨hK,hk,hkb,hx,mkP_le⟩
end
end
section
structure Tp.Raw where
 a:Option Addr
 n:Nat
 c:Nat
structure Tp.Su where
 r0:Tp.Raw
 r1:Tp.Raw
 r2:Tp.Raw
 r3:Tp.Raw
 r4:Tp.Raw
 r5:Tp.Raw
 tg:Int
 op:Int
 bu:Int
 se:Int
 ars:List Tp.Ar
 ims:List Tp.Im
 up:Int
 bs:List Tp.Bd
 ac:Int
 st:Int
 key:LB
 t1:Int
 t2:Int
def encSu (s:Tp.Su):List D:=[isD<|.slice s.r0.a s.r0.n s.r0.c,isD<|.slice s.r1.a s.r1.n s.r1.c,isD<|.slice s.r2.a s.r2.n s.r2.c,isD<|.slice s.r3.a s.r3.n s.r3.c,isD<|.slice s.r4.a s.r4.n s.r4.c,isD<|.slice s.r5.a s.r5.n s.r5.c,iD s.tg,iD s.op,iD s.bu,iD s.se,lsD YN s.ars,lsD YM s.ims,iD s.up,lsD yK s.bs,iD s.ac,iD s.st,bD s.key,iD s.t1,iD s.t2]
structure Tp.Few (s:Tp.Su):Prop where
 a:s.ars.length≤2
 i:s.ims.length≤8
 b:s.bs.length≤3
 bl:∀ b∈s.bs,b.bl.length≤8
 k:s.key.length≤40
theorem blsCl1 {a b:Int}:Bls Tryz.prog 71 1 [0] [Z8 [iD a,iD b]] ([(⟨a,b⟩:Co.Cl)].flatMap yJ):=⟨70,fun L w vs hv=>by
 obtain ⟨u,rfl,hu⟩:=zcu hv;obtain ⟨_,_,rfl,rfl,rfl⟩:=agg2 hu
 exact ⟨[.int .i64 a,.int .i64 b],⟨I,I,t9⟩,fun w'=>by kernel_rfl⟩⟩
theorem blsWi1 {a b c:Int}:Bls Tryz.prog 43 1 [0] [Z8 [iD a,iD b,iD c]] ([(⟨a,b,c⟩:Co.Wi)].flatMap ZM):=⟨73,fun L w vs hv=>by
 obtain ⟨u,rfl,hu⟩:=zcu hv;rw [agg3d hu]
 exact ⟨[.int .i64 a,.int .i64 b,.int .i64 c],⟨I,I,I,t9⟩,fun w'=>by kernel_rfl⟩⟩
def l1:List Co.Cl:=[⟨0,1⟩]
def w1_:List Co.Wi:=[⟨0,1,9⟩]
theorem l1_at {i:Nat} {c:Co.Cl} (h:l1[i]? =some c):i=0∧c=⟨0,1⟩:=by
 match i,h with
 | 0,h=>exact ⟨rfl,(JN h).symm⟩
 | k + 1,h=>simp [l1] at h
theorem w1_at {i:Nat} {c:Co.Wi} (h:w1_[i]? =some c):i=0∧c=⟨0,1,9⟩:=by
 match i,h with
 | 0,h=>exact ⟨rfl,(JN h).symm⟩
 | k + 1,h=>simp [w1_] at h
theorem vc1:Co.VC 2 l1 where
 b1:=by decide
 b2:=by decide
 n:=by decide
 ok i c h:=by obtain ⟨_,rfl⟩:=l1_at h;decide
 up i c d h k:=by have:=(l1_at k).1;omega
 sum:=by decide
theorem vw1:Co.VW 2 l1 w1_ where
 c:=vc1
 ok i x h:=by
  obtain ⟨rfl,rfl⟩:=w1_at h;exact ⟨0,⟨0,1⟩,I,I,by decide,by decide,by decide,by decide⟩
 up i x y h k:=by have:=(w1_at k).1;omega
abbrev V1_:Nat→Int:=Co.vO 2 l1 w1_
abbrev B1_:Nat→Int:=Co.bO 2 l1 w1_
theorem k1_blk:zfI V1_ B1_ l1.length 60 (fun i=>60 * Co.vcg V1_ B1_ l1.length i)=none:=by decide +kernel
theorem k1_vcg:zB (fun i=>60 * Co.vcg V1_ B1_ l1.length i) l1.length=[0]:=by decide +kernel
theorem k1_pay:zB (pyS V1_ B1_ l1.length l1.length) l1.length=[0]:=by
 have hm:Co.Mkt l1.length V1_ B1_:=Co.mkt vw1;rw [pyS_zero hm<|thT_zero hm k1_blk,k1_vcg]
theorem con_few_t (s:Tp.Su) (hb:s.bs.length≤9223372036854775807):ConR Tryz.prog 4 [] [Z8<|encSu s] (fun t:{b:Bool // b=true→Tp.Few s}=>[]) (fun t:{b:Bool // b=true→Tp.Few s}=>yL t.1):=by
 refine yt Tryz.func4 k9 I k9 fun base w0=>(zn (SWl.e2 (S:=[]) (ym I I) fun g1=>(zf I<|ze<|zh<|zn<|zf I<|ze<|SW.block<|yd (ι:={i:Nat // i≤s.bs.length∧∀ j < i,∀ b,s.bs[j]? =some b→b.bl.length≤8}) (fun i=>yb [(1,pA g1),(3,iD (i.1:Int))] [.c g1 [isD<|.slice s.r0.a s.r0.n s.r0.c,isD<|.slice s.r1.a s.r1.n s.r1.c,isD<|.slice s.r2.a s.r2.n s.r2.c,isD<|.slice s.r3.a s.r3.n s.r3.c,isD<|.slice s.r4.a s.r4.n s.r4.c,isD<|.slice s.r5.a s.r5.n s.r5.c,iD s.tg,iD s.op,iD s.bu,iD s.se,lsD YN s.ars,lsD YM s.ims,iD s.up,lsD yK s.bs,iD s.ac,iD s.st,bD s.key,iD s.t1,iD s.t2]]) (fun i=>s.bs.length - i.1) (⟨0,JC _,fun _ h=>absurd h<|Nat.not_lt_zero _⟩) ?_ ?_)))
 ·exact (sB [0] I I)
 ·rintro ⟨i,hi,hp⟩ K0 hK0;dsimp only at hi hp ⊢;refine zh (zn<|zd I<|za I (zg (n:=13) I k9)<|za I (zp 0 I I I k9 zm)<|za I (zT (e:=59) I k9)<|za I (yc I I)<|ze<|zC I (fun hb8=> ?_) (fun hb8=> ?_))
  ·have h8:(i:Int) < (s.bs.length:Int):=oT hb8;refine zq (zj<|zh<|SW.block<|zh ?_);obtain ⟨x,hx⟩:∃ x,s.bs[i]? =some x:=⟨_,Je o9⟩;refine zi (za I (zg (n:=13) I k9)<|za I (zp 0 I I I k9 zm)<|zd I<|za I (zU (e:=59) 4 I I k9 k9 o9 (by simpa using hx))<|za I (yo (n:=3) I k9 (show 3 < 4 by decide))<|za I (zS I I k9 s9)<|za I (zT (e:=3) I k9)<|za I (yV I I)<|ze<|zC I (fun hb18=> ?_) (fun hb18=> ?_))
   ·have h18:(x.bl.length:Int) > 8:=oT hb18;refine zn (zf I<|ze<|zV (fn:=Tryz.f4) (⟨false,fun h=>by cases h⟩) [] (fun _ _ h=>h) (Rs.le (zG I<|zk I) ?_) d9 t9);exact zc _
   ·have h18:¬(x.bl.length:Int) > 8:=oF hb18;exact zq (SN.block<|zj<|zi<|zd I<|za I (Rd.add I I ⟨by omega,by omega⟩)<|zf I<|zF (fun aK wK hh=>hK0 (⟨i + 1,by omega,fun j hj b hb2=>(Nat.lt_succ_iff_lt_or_eq.1 hj).elim (fun h=>hp j h b hb2) (fun e=>by subst e;rw [hx] at hb2;obtain rfl:=Option.some.inj hb2;omega)⟩) (by dsimp only;omega) aK wK<|hh.sub<|⟨⟨_,I,⟨lq I,⟨⟨_,I,zI s9⟩,t9⟩⟩⟩,[0],by decide,⟨la rfl,trivial⟩⟩))
  ·have h8:¬(i:Int) < (s.bs.length:Int):=oF hb8;refine zQ ?_
   repeat (first | refine zX ?_ | refine zY d9 ?_)
   refine zZ (zj<|zh ?_)
   have hall:∀ b∈s.bs,b.bl.length≤8:=fun b hb2=>by obtain ⟨j,hj⟩:=List.getElem?_of_mem hb2;exact hp j (by have:=(Jg.1 hj).1;omega) b hj
   refine zi (za I (zg (n:=0) I k9)<|za I (zp 0 I I I k9 zm)<|za I (Zx (e:=3) I k9)<|za I (Zn I I)<|zd I<|z1 23 I (fun hb23=> ?_) (fun hb23=> ?_))
   ·skip
    refine zJ hb23 (zg (n:=1) I k9) (zJ hb23 (zg (n:=0) I k9)<|zJ hb23 (zp 0 I I I k9 zm)<|zJ hb23 (Zx (e:=317) I k9)<|zJ hb23 (Zn I I)<|za I (zE I hb23 I)<|zd I<|z1 30 I (fun hb30=> ?_) (fun hb30=> ?_))
    ·skip
     refine zJ hb30 (zg (n:=1) I k9) (zJ hb30 (zg (n:=1) I k9)<|zJ hb30 (zp 0 I I I k9 zm)<|zJ hb30 (Zx (e:=319) I k9)<|zJ hb30 (Zn I I)<|za I (zE I hb30 I)<|zd I<|z1 37 I (fun hb37=> ?_) (fun hb37=> ?_))
     ·skip
      refine zJ hb37 (zg (n:=1) I k9) (zJ hb37 (zg (n:=2) I k9)<|zJ hb37 (zp 0 I I I k9 zm)<|zJ hb37 (Zx (e:=321) I k9)<|zJ hb37 (Zn I I)<|za I (zE I hb37 I)<|zd I<|z1 44 I (fun hb44=> ?_) (fun hb44=> ?_))
      ·skip
       refine zJ hb44 (zg (n:=4) I k9) (zJ hb44 (zp 0 I I I k9 zm)<|zJ hb44 (Zx (e:=323) I k9)<|zJ hb44 (Zn I I)<|za I (zE I hb44 I)<|zd I<|z1 50 I (fun hb50=> ?_) (fun hb50=> ?_))
       ·skip
        refine zJ hb50 (zg (n:=5) I k9) (zJ hb50 (zp 0 I I I k9 zm)<|zJ hb50 (Zx (e:=325) I k9)<|zJ hb50 (Zn I I)<|za I (zE I hb50 I)<|zd I<|z1 56 I (fun hb56=> ?_) (fun hb56=> ?_))
        ·skip
         refine zJ hb56 (zg (n:=10) I k9) (zJ hb56 (zp 0 I I I k9 zm)<|zJ hb56 (zT (e:=64) I k9)<|zJ hb56 (Zn I I)<|za I (zE I hb56 I)<|zd I<|z1 62 I (fun hb62=> ?_) (fun hb62=> ?_))
         ·skip
          refine zJ hb62 (zg (n:=11) I k9) (zJ hb62 (zp 0 I I I k9 zm)<|zJ hb62 (zT (e:=85) I k9)<|zJ hb62 (Zn I I)<|za I (zE I hb62 I)<|zd I<|z1 68 I (fun hb68=> ?_) (fun hb68=> ?_))
          ·skip
           refine zJ hb68 (zg (n:=13) I k9) (zJ hb68 (zp 0 I I I k9 zm)<|zJ hb68 (zT (e:=59) I k9)<|zJ hb68 (Zn I I)<|za I (zE I hb68 I)<|zd I<|z1 74 I (fun hb74=> ?_) (fun hb74=> ?_))
           ·skip
            refine zJ hb74 (zg (n:=8) I k9) (zJ hb74 (zp 0 I I I k9 zm)<|zJ hb74 (Zn I I)<|za I (zE I hb74 I)<|zd I<|z1 79 I (fun hb79=> ?_) (fun hb79=> ?_))
            ·skip
             refine zJ hb79 (zg (n:=16) I k9) (zJ hb79 (zp 0 I I I k9 zm)<|zJ hb79 (Rd.len (e:=5) I k9)<|zJ hb79 (Zn I I)<|za I (zE I hb79 I)<|zf I<|ze<|zV (fn:=Tryz.f4) (⟨decide (((cellsOf s.key).length:Int)≤40),fun h=>⟨by have:=oT hb62;omega,by have:=oT hb68;omega,by have:=oT hb74;omega,hall,by have:=oT h;rw [ye] at this;omega⟩⟩) [] (fun _ _ h=>h) (Rs.le (zG I<|zk I) ?_) d9 t9);exact zc _
            ·skip
             refine zt hb79 (zt hb79<|zt hb79<|zt hb79<|za I (zw I hb79 I)<|zf I<|ze<|zV (fn:=Tryz.f4) (⟨false,fun h=>by cases h⟩) [] (fun _ _ h=>h) (Rs.le (zG I<|zk I) ?_) d9 t9);exact zc _
           ·skip
            refine zt hb74 (zt hb74<|zt hb74<|za I (zw I hb74 I)<|zd I<|zt I<|zt I<|zt I<|zt I<|za I (zw I I I)<|zf I<|ze<|zV (fn:=Tryz.f4) (⟨false,fun h=>by cases h⟩) [] (fun _ _ h=>h) (Rs.le (zG I<|zk I) ?_) d9 t9);exact zc _
          ·skip
           refine zt hb68 (zt hb68<|zt hb68<|zt hb68<|za I (zw I hb68 I)<|zd I<|zt I<|zt I<|zt I<|za I (zw I I I)<|zd I<|zt I<|zt I<|zt I<|zt I<|za I (zw I I I)<|zf I<|ze<|zV (fn:=Tryz.f4) (⟨false,fun h=>by cases h⟩) [] (fun _ _ h=>h) (Rs.le (zG I<|zk I) ?_) d9 t9);exact zc _
         ·skip
          refine zt hb62 (zt hb62<|zt hb62<|zt hb62<|za I (zw I hb62 I)<|zd I<|zt I<|zt I<|zt I<|zt I<|za I (zw I I I)<|zd I<|zt I<|zt I<|zt I<|za I (zw I I I)<|zd I<|zt I<|zt I<|zt I<|zt I<|za I (zw I I I)<|zf I<|ze<|zV (fn:=Tryz.f4) (⟨false,fun h=>by cases h⟩) [] (fun _ _ h=>h) (Rs.le (zG I<|zk I) ?_) d9 t9);exact zc _
        ·skip
         refine zt hb56 (zt hb56<|zt hb56<|zt hb56<|za I (zw I hb56 I)<|zd I<|zt I<|zt I<|zt I<|zt I<|za I (zw I I I)<|zd I<|zt I<|zt I<|zt I<|zt I<|za I (zw I I I)<|zd I<|zt I<|zt I<|zt I<|za I (zw I I I)<|zd I<|zt I<|zt I<|zt I<|zt I<|za I (zw I I I)<|zf I<|ze<|zV (fn:=Tryz.f4) (⟨false,fun h=>by cases h⟩) [] (fun _ _ h=>h) (Rs.le (zG I<|zk I) ?_) d9 t9);exact zc _
       ·skip
        refine zt hb50 (zt hb50<|zt hb50<|zt hb50<|za I (zw I hb50 I)<|zd I<|zt I<|zt I<|zt I<|zt I<|za I (zw I I I)<|zd I<|zt I<|zt I<|zt I<|zt I<|za I (zw I I I)<|zd I<|zt I<|zt I<|zt I<|zt I<|za I (zw I I I)<|zd I<|zt I<|zt I<|zt I<|za I (zw I I I)<|zd I<|zt I<|zt I<|zt I<|zt I<|za I (zw I I I)<|zf I<|ze<|zV (fn:=Tryz.f4) (⟨false,fun h=>by cases h⟩) [] (fun _ _ h=>h) (Rs.le (zG I<|zk I) ?_) d9 t9);exact zc _
      ·skip
       refine zt hb44 (zt hb44<|zt hb44<|zt hb44<|za I (zw I hb44 I)<|zd I<|zt I<|zt I<|zt I<|zt I<|za I (zw I I I)<|zd I<|zt I<|zt I<|zt I<|zt I<|za I (zw I I I)<|zd I<|zt I<|zt I<|zt I<|zt I<|za I (zw I I I)<|zd I<|zt I<|zt I<|zt I<|zt I<|za I (zw I I I)<|zd I<|zt I<|zt I<|zt I<|za I (zw I I I)<|zd I<|zt I<|zt I<|zt I<|zt I<|za I (zw I I I) ?_);refine zf I (ze<|zV (fn:=Tryz.f4) (⟨false,fun h=>by cases h⟩) [] (fun _ _ h=>h) (Rs.le (zG I<|zk I) ?_) d9 t9);exact zc _
     ·skip
      refine zt hb37 (zt hb37<|zt hb37<|zt hb37<|zt hb37<|za I (zw I hb37 I)<|zd I<|zt I<|zt I<|zt I<|zt I<|za I (zw I I I)<|zd I<|zt I<|zt I<|zt I<|zt I<|za I (zw I I I)<|zd I<|zt I<|zt I<|zt I<|zt I<|za I (zw I I I)<|zd I<|zt I<|zt I<|zt I<|zt I<|za I (zw I I I)<|zd I<|zt I<|zt I<|zt I<|zt I<|za I (zw I I I)<|zd I<|zt I<|zt I<|zt I ?_);refine za I (zw I I I) (zd I<|zt I<|zt I<|zt I<|zt I<|za I (zw I I I)<|zf I<|ze<|zV (fn:=Tryz.f4) (⟨false,fun h=>by cases h⟩) [] (fun _ _ h=>h) (Rs.le (zG I<|zk I) ?_) d9 t9);exact zc _
    ·skip
     refine zt hb30 (zt hb30<|zt hb30<|zt hb30<|zt hb30<|za I (zw I hb30 I)<|zd I<|zt I<|zt I<|zt I<|zt I<|zt I<|za I (zw I I I)<|zd I<|zt I<|zt I<|zt I<|zt I<|za I (zw I I I)<|zd I<|zt I<|zt I<|zt I<|zt I<|za I (zw I I I)<|zd I<|zt I<|zt I<|zt I<|zt I<|za I (zw I I I)<|zd I<|zt I<|zt I<|zt I<|zt I<|za I (zw I I I)<|zd I<|zt I<|zt I ?_);refine zt I (zt I<|za I (zw I I I)<|zd I<|zt I<|zt I<|zt I<|za I (zw I I I)<|zd I<|zt I<|zt I<|zt I<|zt I<|za I (zw I I I)<|zf I<|ze<|zV (fn:=Tryz.f4) (⟨false,fun h=>by cases h⟩) [] (fun _ _ h=>h) (Rs.le (zG I<|zk I) ?_) d9 t9);exact zc _
   ·skip
    refine zt hb23 (zt hb23<|zt hb23<|zt hb23<|zt hb23<|za I (zw I hb23 I)<|zd I<|zt I<|zt I<|zt I<|zt I<|zt I<|za I (zw I I I)<|zd I<|zt I<|zt I<|zt I<|zt I<|zt I<|za I (zw I I I)<|zd I<|zt I<|zt I<|zt I<|zt I<|za I (zw I I I)<|zd I<|zt I<|zt I<|zt I<|zt I<|za I (zw I I I)<|zd I<|zt I<|zt I<|zt I<|zt I<|za I (zw I I I)<|zd I<|zt I ?_);refine zt I (zt I<|zt I<|za I (zw I I I)<|zd I<|zt I<|zt I<|zt I<|zt I<|za I (zw I I I)<|zd I<|zt I<|zt I<|zt I<|za I (zw I I I)<|zd I<|zt I<|zt I<|zt I<|zt I<|za I (zw I I I)<|zf I<|ze<|zV (fn:=Tryz.f4) (⟨false,fun h=>by cases h⟩) [] (fun _ _ h=>h) (Rs.le (zG I<|zk I) ?_) d9 t9);exact zc _
theorem qz:Con Tryz.prog 5 [] (yL true):=by
 refine yy Tryz.func5 k9 I k9 fun base w0=>(zn<|zf I<|zN<|za I (yF I I bldCl)<|zu (S:=[]) (YB I I blsCl1 I)<|za I (yF I I bldWi)<|zu (S:=[]) (YB I I blsWi1 I)<|zu (S:=[]) (zv (Vy 2 l1 w1_ d9 vw1) I ⟨zc _,zc _,zc _,t9⟩ I)<|zd I<|za I (zo I I)<|za I (zo I I)<|zf I<|zf I<|ze<|zh<|SW.sub (σ':=yb [(1,lsD (jY 60) [0]),(2,_)] []) (⟨⟨_,I,⟨⟨_,I,(by rw [k1_pay];exact zc _)⟩,⟨lq I,t9⟩⟩⟩,[],by decide,trivial⟩)<|zi<|zd I<|za I (Zr I I)<|zd I<|zJ I (zH I)<|zJ I (zT (e:=78) I k9)<|zJ I (Zr I I)<|za I (zE I I I)<|zd I<|zJ I (zH I)<|zJ I (zU (e:=78) 4 I I k9 k9 d9 I)<|zJ I (yn 4 I k9 d9 (show 4≤4 by decide) s9)<|yN (S:=[]) I I I I (zv (zcf<|Ks (x:=0) d9 d9) I ⟨zc _,t9⟩ I) ?_);rintro _ rfl;refine zJ I (Zr I I) (za I (zE I I I)<|zf I<|ze<|zO (fn:=Tryz.f5) (fun _ _ h=>h)<|Rs.le (zG I<|zk I) ?_);exact zc _
