/- TOP: TopPays. WHAT CAME IN: the setup of a stage, bids. -/
import Derived.Test.YtfoafihodanmhaaGreatDoorGZBK
set_option maxHeartbeats 8000000
set_option maxRecDepth 100000
namespace Go.Proofs.YtfoafihodanmhaaGreatDoor
open Go.RowKit
namespace Sx
def zbt (l:List Tp.Bi):List D:=[lsD ZA l]
instance:Row zbt 1:=⟨fun _=>rfl,fun x=>by unfold zbt;infer_instance,by decide⟩
instance (l:List Tp.Bi):Ones (zbt l):=by unfold zbt;infer_instance
structure Tp.Mid (cat:List Tp.Pr) (n:Nat) (a:Tp.Au) (i:Nat):Prop where
 ok:Tp.AOk a
 cat:a.cat=cat
 nb:a.bs.length=n
 rd:a.rd≤i
theorem Tp.Mid.next {cat:List Tp.Pr} {n i:Nat} {a b:Tp.Au} (h:Tp.Mid cat n a i) (hn:Tp.Next a b):Tp.Mid cat n b (i + 1):=⟨hn.ok,hn.cat.trans h.cat,hn.nb.trans h.nb,by have:=hn.rd;have:=h.rd;omega⟩
theorem topPays_con (s:Tp.Su) (bss:List (List Tp.Bi)) (ws:List Co.Wi) (hsb:s.bs.length≤9223372036854775807) (hby:∀ is∈bss,∀ x∈is,Byt x.pt.b x.pt.c):ConN Tryz.prog 3 [Z8<|encSu s,lsD zbt bss,lsD ZM ws] (yL true):=by
 refine YJ Tryz.func3 k9 I k9 fun base w0=>(zn (SWl.e2 (S:=[]) (ym I I) fun g3=>(zf I<|ze<|zh<|zn<|za I (zx 0 19 I I k9 I zm)<|Zc (S:=[]) (yh [] (con_few_t s hsb) I ⟨zc _,t9⟩ d9 t9 (fun _ h=>h) I) ?_)));rintro _ ⟨⟨fb,hfb⟩,rfl⟩;refine za I (yu I) (zd I<|z1 23 I (fun hb23=> ?_) (fun hb23=> ?_))
 ·skip
  refine zt hb23 (zt hb23<|zt hb23<|za I (zE I hb23 I)<|zd I<|zt I<|zt I<|zt I<|za I (zE I I I)<|ze<|yj I I<|zn<|zu (S:=[]) (zv (qz) I t9 I)<|zf I<|ze<|zO (fn:=Tryz.f3) (fun _ _ h=>h)<|Rs.le (zG I<|zk I) ?_);exact yO I
 ·skip
  refine zJ hb23 (zH I) (zJ hb23 (zT (e:=54) I k9)<|zJ hb23 (yV I I)<|za I (zw I hb23 I)<|zd I<|z1 28 I (fun hb28=> ?_) (fun hb28=> ?_))
  ·skip
   refine zt hb28 (zt hb28<|zt hb28<|za I (zE I hb28 I)<|ze<|yj I I<|zn<|zu (S:=[]) (zv (qz) I t9 I)<|zf I<|ze<|zO (fn:=Tryz.f3) (fun _ _ h=>h)<|Rs.le (zG I<|zk I) ?_);exact yO I
  ·have hb12:bss.length≤12:=by have:=oF hb28;omega
   refine zJ hb28 (zH I) (zJ hb28 (zT (e:=73) I k9)<|zJ hb28 (yV I I)<|za I (zw I hb28 I)<|ze<|zC I (fun hb32=> ?_) (fun hb32=> ?_))
   ·skip
    refine zn (zu (S:=[]) (zv (qz) I t9 I)<|zf I<|ze<|zO (fn:=Tryz.f3) (fun _ _ h=>h)<|Rs.le (zG I<|zk I) ?_);exact yO I
   ·have hws:ws.length≤20:=by have:=oF hb32;omega
    refine zq (zj<|zh ?_);have hf:Tp.Few s:=hfb (qp hb23);have hfa:=hf.a;refine zi (za I (zg (n:=10) I k9)<|za I (zp 0 I I I k9 zm)<|za I (zg (n:=11) I k9)<|za I (zp 0 I I I k9 zm)<|za I (zg (n:=6) I k9)<|za I (zx 0 1 I I k9 I zm)<|za I (zg (n:=12) I k9)<|za I (zp 0 I I I k9 zm)<|Zc (S:=[]) (yh [] (con_cata s.ars s.ims s.tg s.up (by have:=hf.a;omega) (by have:=hf.i;omega)) I ⟨zc _,zc _,zc _,zc _,t9⟩ d9 t9 (fun _ h=>h) I) ?_);rintro _ ⟨⟨⟨cat,ce⟩,hcat⟩,rfl⟩;refine zd I (za I (zo I I)<|za I (zo I I)<|zf I<|zf I<|ze<|zh<|zh ?_)
    have hcl4:cat.length≤4:=by have h:=hcat;dsimp only at h;omega
    refine zi (zd I<|za I (yv I I)<|ze<|zC I (fun hb47=> ?_) (fun hb47=> ?_))
    ·skip
     refine zn (zu (S:=[]) (zv (qz) I t9 I)<|zf I<|ze<|zO (fn:=Tryz.f3) (fun _ _ h=>h)<|Rs.le (zG I<|zk I) ?_);exact yO I
    ·skip
     refine zq (zj<|zh ?_)
     by_cases hk:Tp.NOk cat s.bs s.ac s.st s.key
     ·skip
      refine zi (zd I<|za I (zg (n:=13) I k9)<|za I (zp 0 I I I k9 zm)<|za I (zg (n:=14) I k9)<|za I (zx 0 2 I I k9 I zm)<|za I (zg (n:=16) I k9)<|za I (zp 0 I I I k9 zm) (SWl.e2 (S:=[]) (yh [] (con_new cat s.bs s.ac s.st s.key (by have:=hf.a;omega) hk) I ⟨zc _,zc _,zc _,zc _,t9⟩ d9 t9 (fun _ h=>h) I) fun ga=>(zd I<|za I (zo I I)<|za I (zo I I)<|zf I<|zf I<|ze<|zh<|zn<|zd I<|za I (yv I I)<|ze<|zK I I<|zq<|zj<|zh<|zn<|zd I<|za I (Rd.eqP I I k9)<|ze<|zK I I<|zq<|zj<|zh<|SW.sub (σ':=yb [(1,_),(2,_),(3,_),(7,_),(9,_)] [.c g3 [isD<|.slice s.r0.a s.r0.n s.r0.c,isD<|.slice s.r1.a s.r1.n s.r1.c,isD<|.slice s.r2.a s.r2.n s.r2.c,isD<|.slice s.r3.a s.r3.n s.r3.c,isD<|.slice s.r4.a s.r4.n s.r4.c,isD<|.slice s.r5.a s.r5.n s.r5.c,iD s.tg,iD s.op,iD s.bu,iD s.se,lsD YN s.ars,lsD YM s.ims,iD s.up,lsD yK s.bs,iD s.ac,iD s.st,bD s.key,iD s.t1,iD s.t2],.c ga [lsD yA (⟨cat,s.bs,s.ac,s.st,s.key,0,cat.map Tp.Pr.re⟩:Tp.Au).cat,lsD yK (⟨cat,s.bs,s.ac,s.st,s.key,0,cat.map Tp.Pr.re⟩:Tp.Au).bs,iD (⟨cat,s.bs,s.ac,s.st,s.key,0,cat.map Tp.Pr.re⟩:Tp.Au).ac,iD (⟨cat,s.bs,s.ac,s.st,s.key,0,cat.map Tp.Pr.re⟩:Tp.Au).st,bD (⟨cat,s.bs,s.ac,s.st,s.key,0,cat.map Tp.Pr.re⟩:Tp.Au).key,iD ((⟨cat,s.bs,s.ac,s.st,s.key,0,cat.map Tp.Pr.re⟩:Tp.Au).rd:Int),lsD z7 (⟨cat,s.bs,s.ac,s.st,s.key,0,cat.map Tp.Pr.re⟩:Tp.Au).pr]]) (⟨⟨_,I,(sT I)⟩,[0,1],by decide,⟨la rfl,⟨⟨_,rfl,⟨zc _,zc _,zc _,zc _,zc _,zI s9,zc _,trivial⟩⟩,trivial⟩⟩⟩)<|zi<|zd I ?_)))
      refine zu (S:=[]) (yX [1] (zaO (⟨cat,s.bs,s.ac,s.st,s.key,0,cat.map Tp.Pr.re⟩:Tp.Au)<|hk.ok (by have:=hf.a;omega)) I ⟨(Yp 1 I d9 ⟨(zP<|zc _),(zP<|zc _),(zP<|zc _),(zP<|zc _),(zP<|zc _),(zP<|zc _),(zP<|zc _),t9⟩),t9⟩ I) (zf I<|ze<|zh<|zn<|zf I<|ze<|jq (fun σ=>∃ (a:Tp.Au),(Tp.AOk a∧a.bs.length=s.bs.length)∧σ=yb [(2,lsD ZM ws),(3,pA g3),(7,lsD yA a.cat),(9,pA ga)] [.c g3 [isD<|.slice s.r0.a s.r0.n s.r0.c,isD<|.slice s.r1.a s.r1.n s.r1.c,isD<|.slice s.r2.a s.r2.n s.r2.c,isD<|.slice s.r3.a s.r3.n s.r3.c,isD<|.slice s.r4.a s.r4.n s.r4.c,isD<|.slice s.r5.a s.r5.n s.r5.c,iD s.tg,iD s.op,iD s.bu,iD s.se,lsD YN s.ars,lsD YM s.ims,iD s.up,lsD yK s.bs,iD s.ac,iD s.st,bD s.key,iD s.t1,iD s.t2],.c ga [lsD yA a.cat,lsD yK a.bs,iD a.ac,iD a.st,bD a.key,iD (a.rd:Int),lsD z7 a.pr]]) ?_ ?_)
      ·refine SW.block (yd (ι:={p:Tp.Au × Nat // Tp.Mid cat s.bs.length p.1 p.2∧p.2≤bss.length}) (fun p=>yb [(1,lsD zbt bss),(2,lsD ZM ws),(3,pA g3),(7,lsD yA cat),(9,pA ga),(11,lsD z7 p.1.1.pr),(12,iD (p.1.2:Int))] [.c g3 [isD<|.slice s.r0.a s.r0.n s.r0.c,isD<|.slice s.r1.a s.r1.n s.r1.c,isD<|.slice s.r2.a s.r2.n s.r2.c,isD<|.slice s.r3.a s.r3.n s.r3.c,isD<|.slice s.r4.a s.r4.n s.r4.c,isD<|.slice s.r5.a s.r5.n s.r5.c,iD s.tg,iD s.op,iD s.bu,iD s.se,lsD YN s.ars,lsD YM s.ims,iD s.up,lsD yK s.bs,iD s.ac,iD s.st,bD s.key,iD s.t1,iD s.t2],.c ga [lsD yA p.1.1.cat,lsD yK p.1.1.bs,iD p.1.1.ac,iD p.1.1.st,bD p.1.1.key,iD (p.1.1.rd:Int),lsD z7 p.1.1.pr]]) (fun p=>bss.length - p.1.2) (⟨((⟨cat,s.bs,s.ac,s.st,s.key,0,cat.map Tp.Pr.re⟩:Tp.Au),0),⟨hk.ok (by have:=hf.a;omega),I,I,Js _⟩,JC _⟩) ?_ ?_)
       ·exact (sB [0,1] I I)
       ·rintro ⟨⟨a,i⟩,hm,hi⟩ K0 hK0;dsimp only at hm hi ⊢;have ho:=hm.ok;have hmr:=hm.rd;refine zh (zn<|zd I<|zd I<|za I (zT (e:=54) I k9)<|za I (yc I I)<|zd I<|z1 75 I (fun hb75=> ?_) (fun hb75=> ?_))
        ·have h75:(i:Int) < (bss.length:Int):=oT hb75
         refine zJ hb75 (zH I) (yN (S:=[]) I I hb75 I (qW [1] (WK a ho) (fun _=>inferInstance) (fun _ b hb=>by first | (simp at hb;done) | (simp at hb;subst hb;infer_instance)) I ⟨(Yp 1 I d9 ⟨(zP<|zc _),(zP<|zc _),(zP<|zc _),(zP<|zc _),(zP<|zc _),(zP<|zc _),(zP<|zc _),t9⟩),t9⟩ I) ?_)
         rintro _ ⟨⟨dn,hdn⟩,rfl⟩;refine zJ hb75 (yu I) (za I (zE I hb75 I)<|ze<|zC I (fun hb79=> ?_) (fun hb79=> ?_))
         ·skip
          refine zq (zj<|zh<|SW.block<|zh<|zh ?_);obtain ⟨is,his⟩:∃ is,bss[i]? =some is:=⟨_,Je o9⟩;refine zi (zd I<|zd I<|za I (zU (e:=54) 1 I I k9 k9 o9 (by simpa using his))<|za I (zS I I k9 s9)<|za I (zT (e:=105) I k9)<|za I (yV I I)<|ze<|zC I (fun hb87=> ?_) (fun hb87=> ?_))
          ·skip
           refine zn (zu (S:=[]) (zv (qz) I t9 I)<|zf I<|ze<|zO (fn:=Tryz.f3) (fun _ _ h=>h)<|Rs.le (zG I<|zk I) ?_);exact yO I
          ·skip
           refine zq (zj<|zh<|SW.sub (σ':=yb [(1,_),(2,_),(3,_),(7,_),(9,_),(11,_),(12,_)] [_,_]) (sB [0,1] I I) ?_)
           have hx10:is.length≤10:=by have:=oF hb87;omega
           refine zi (zd I<|zd I<|zd I<|za I (zU (e:=54) 1 I I k9 k9 o9 (by simpa using his))<|za I (zS I I k9 s9)<|Zc (yh [1] (con_round ga a ho o9 is o9<|hby is<|Jc his) I ⟨zc _,zc _,t9⟩ d9 ⟨la I,t9⟩ (fun _ h=>h) I) ?_);rintro _ ⟨⟨⟨b,zs,e⟩,hn⟩,rfl⟩;refine zN (zd I<|zu (S:=[]) (yX [1] (zaO b hn.ok) I ⟨(Yp 1 I d9 ⟨(zP<|zc _),(zP<|zc _),(zP<|zc _),(zP<|zc _),(zP<|zc _),(zP<|zc _),(zP<|zc _),t9⟩),t9⟩ I)<|zf I<|ze<|zh<|zh ?_)
           have hpl:b.pr.length=a.pr.length:=by rw [hn.up.1,ho.pl]
           have hpb:b.pr.length≤1000:=by rw [hn.up.1];exact ho.hl
           refine zi (zd I<|za I (zT (e:=3) I k9)<|zd I<|za I (zT (e:=3) I k9)<|za I (yv I I)<|ze<|zK I (by simp [hpl])<|zq<|zj<|zh<|zn<|zf I<|ze<|SW.block<|yd (ι:={k:Nat // k≤b.pr.length}) (fun k=>yb [(1,lsD zbt bss),(2,lsD ZM ws),(3,pA g3),(7,lsD yA cat),(9,pA ga),(11,lsD z7 a.pr),(12,iD (i:Int)),(13,lsD z7 b.pr),(14,iD (k.1:Int))] [.c g3 [isD<|.slice s.r0.a s.r0.n s.r0.c,isD<|.slice s.r1.a s.r1.n s.r1.c,isD<|.slice s.r2.a s.r2.n s.r2.c,isD<|.slice s.r3.a s.r3.n s.r3.c,isD<|.slice s.r4.a s.r4.n s.r4.c,isD<|.slice s.r5.a s.r5.n s.r5.c,iD s.tg,iD s.op,iD s.bu,iD s.se,lsD YN s.ars,lsD YM s.ims,iD s.up,lsD yK s.bs,iD s.ac,iD s.st,bD s.key,iD s.t1,iD s.t2],.c ga [lsD yA b.cat,lsD yK b.bs,iD b.ac,iD b.st,bD b.key,iD (b.rd:Int),lsD z7 b.pr]]) (fun k=>b.pr.length - k.1) (⟨0,JC _⟩) ?_ ?_)
           ·exact (sB [0,1] I I)
           ·rintro ⟨k,hkk⟩ K1 hK1;dsimp only at hkk ⊢;refine zh (zn<|zd I<|zd I<|za I (zT (e:=3) I k9)<|za I (yc I I)<|ze<|zC I (fun hb105=> ?_) (fun hb105=> ?_))
            ·have h105:(k:Int) < (b.pr.length:Int):=oT hb105;refine zq (zj<|zh<|SW.block<|zh ?_);obtain ⟨y,hy⟩:∃ y,b.pr[k]? =some y:=⟨_,Je o9⟩;obtain ⟨z,hz⟩:∃ z,a.pr[k]? =some z:=⟨_,Je o9⟩
             exact yl [] (rr [0,1,2,3,4,5,6,7,8] .fin) k9 k9 (fun d _ _ _ _ h=>by cases d <;> exact h) (zz I I<|zz I I<|zl I I (zU (e:=3) 1 I I k9 k9 o9 (by simpa using hy))<|zl I I (zS I I k9 s9)<|zz I I<|zz I I<|zl I I (zU (e:=3) 1 I I k9 k9 o9 (by simpa using hz))<|zl I I (zS I I k9 s9)<|zl I I (yc I I)<|yE<|zK I (decide_eq_false (by have:=(hn.up.2 k y z hy hz).1;omega))<|zq<|SN.block<|zj<|zi<|zd I<|za I (Rd.add I I ⟨by omega,by omega⟩)<|zf I<|zF (fun aK wK hh=>hK1 (⟨k + 1,by omega⟩) (by dsimp only;omega) aK wK<|hh.sub<|⟨⟨_,I,⟨lq I,⟨lq I,⟨lq I,⟨lq I,⟨lq I,⟨lq I,⟨lq I,⟨lq I,⟨⟨_,I,zI s9⟩,t9⟩⟩⟩⟩⟩⟩⟩⟩⟩⟩,[0,1],by decide,(sX rfl)⟩))
            ·have h105:¬(k:Int) < (b.pr.length:Int):=oF hb105;refine zQ ?_
             repeat (first | refine zX ?_ | refine zY d9 ?_)
             exact zZ (zj<|zi<|zd I<|zf I<|zF<|SN.block<|zj<|zi<|zd I<|za I (Rd.add I I ⟨by omega,by omega⟩)<|zf I<|zF (fun aK wK hh=>hK0 (⟨(b,i + 1),hm.next hn,by dsimp only;omega⟩) (by dsimp only;omega) aK wK<|hh.sub<|⟨⟨_,I,⟨lq I,⟨lq I,⟨lq I,⟨lq I,⟨lq I,⟨lq I,⟨⟨_,I,zI s9⟩,t9⟩⟩⟩⟩⟩⟩⟩⟩,[0,1],by decide,(sX rfl)⟩))
         ·skip
          refine zQ ?_
          repeat (first | refine zX ?_ | refine zY d9 ?_)
          exact zZ (Zw ⟨a,⟨ho,hm.nb⟩,I⟩<|⟨⟨_,I,⟨lq I,⟨lq I,⟨⟨_,I,(by rw [hm.cat];exact zc _)⟩,⟨lq I,t9⟩⟩⟩⟩⟩,[0,1],by decide,(sX rfl)⟩)
        ·have h75:¬(i:Int) < (bss.length:Int):=oF hb75;refine zt hb75 (zt hb75<|zt hb75<|za I (zw I hb75 I)<|ze<|zK I I<|zQ ?_)
         repeat (first | refine zX ?_ | refine zY d9 ?_)
         exact zZ (Zw ⟨a,⟨ho,hm.nb⟩,I⟩<|⟨⟨_,I,⟨lq I,⟨lq I,⟨⟨_,I,(by rw [hm.cat];exact zc _)⟩,⟨lq I,t9⟩⟩⟩⟩⟩,[0,1],by decide,(sX rfl)⟩)
      ·rintro _ ⟨a,⟨ho,hnb⟩,rfl⟩;refine zj (zh ?_);have hf3:=hf.b;refine zi (zd I (SWl.e2 (yh [1] (zdk ga a ho) I ⟨zc _,t9⟩ d9 ⟨la I,t9⟩ (fun _ h=>h) I) fun _=>(zf I<|ze<|zh<|zh<|SW.sub (σ':=yb [(2,_),(3,_),(7,_),(9,_),(15,_)] [_,_]) (sB [0,1] I I)<|zi<|zf I<|ze<|SW.block<|yd (ι:={i:Nat // i≤a.bs.length}) (fun i=>yb [(2,lsD ZM ws),(3,pA g3),(7,lsD yA a.cat),(9,pA ga),(15,lsD yK a.bs),(16,iD (i.1:Int))] [.c g3 [isD<|.slice s.r0.a s.r0.n s.r0.c,isD<|.slice s.r1.a s.r1.n s.r1.c,isD<|.slice s.r2.a s.r2.n s.r2.c,isD<|.slice s.r3.a s.r3.n s.r3.c,isD<|.slice s.r4.a s.r4.n s.r4.c,isD<|.slice s.r5.a s.r5.n s.r5.c,iD s.tg,iD s.op,iD s.bu,iD s.se,lsD YN s.ars,lsD YM s.ims,iD s.up,lsD yK s.bs,iD s.ac,iD s.st,bD s.key,iD s.t1,iD s.t2],.c ga [lsD yA a.cat,lsD yK a.bs,iD a.ac,iD a.st,bD a.key,iD (a.rd:Int),lsD z7 a.pr]]) (fun i=>a.bs.length - i.1) (⟨0,JC _⟩) ?_ ?_)))
       ·exact (sB [0,1] I I)
       ·rintro ⟨i,hi⟩ K2 hK2;dsimp only at hi ⊢;refine zh (zn<|zd I<|zd I<|za I (zT (e:=59) I k9)<|za I (yc I I)<|ze<|zC I (fun hb123=> ?_) (fun hb123=> ?_))
        ·have h123:(i:Int) < (a.bs.length:Int):=oT hb123;refine zq (zj<|zh<|SW.block<|zh ?_);obtain ⟨x,hx⟩:∃ x,a.bs[i]? =some x:=⟨_,Je o9⟩;have hxo:=ho.vb.ok i x hx;have hxl:=hxo.fi.len;have hcl:=ho.hl;refine zi (zf I<|ze<|zh<|zn<|zf I<|ze<|SW.block<|yd (ι:={k:Nat // k≤a.cat.length}) (fun k=>yb [(2,lsD ZM ws),(3,pA g3),(7,lsD yA a.cat),(9,pA ga),(15,lsD yK a.bs),(16,iD (i:Int)),(17,iD<|Ka a.cat x.bl k.1),(18,iD (k.1:Int))] [.c g3 [isD<|.slice s.r0.a s.r0.n s.r0.c,isD<|.slice s.r1.a s.r1.n s.r1.c,isD<|.slice s.r2.a s.r2.n s.r2.c,isD<|.slice s.r3.a s.r3.n s.r3.c,isD<|.slice s.r4.a s.r4.n s.r4.c,isD<|.slice s.r5.a s.r5.n s.r5.c,iD s.tg,iD s.op,iD s.bu,iD s.se,lsD YN s.ars,lsD YM s.ims,iD s.up,lsD yK s.bs,iD s.ac,iD s.st,bD s.key,iD s.t1,iD s.t2],.c ga [lsD yA a.cat,lsD yK a.bs,iD a.ac,iD a.st,bD a.key,iD (a.rd:Int),lsD z7 a.pr]]) (fun k=>a.cat.length - k.1) (⟨0,JC _⟩) ?_ ?_)
         ·exact (sB [0,1] I I)
         ·rintro ⟨k,hkk⟩ K3 hK3;dsimp only at hkk ⊢;refine zh (zh ?_)
          skip
          refine zi (zd I<|zd I<|za I (zT (e:=61) I k9)<|za I (yc I I)<|zd I<|z1 130 I (fun hb130=> ?_) (fun hb130=> ?_))
          ·have h130:(k:Int) < (a.cat.length:Int):=oT hb130;refine zJ hb130 (zH I) (zJ hb130 (zH I)<|zJ hb130 (zH I)<|zJ hb130 (zU (e:=59) 4 I I k9 k9 o9 (by simpa using hx))<|zJ hb130 (yo (n:=3) I k9 (show 3 < 4 by decide))<|zJ hb130 (zS I I k9 s9)<|zJ hb130 (zT (e:=3) I k9)<|zJ hb130 (yc I I)<|za I (zE I hb130 I)<|ze<|yj I (Jo o9)<|zq<|zj<|zh<|SW.block ?_);obtain ⟨p,hp⟩:∃ p,a.cat[k]? =some p:=⟨_,Je o9⟩;obtain ⟨n,hn⟩:∃ n,x.bl[k]? =some n:=⟨_,Je o9⟩;have hnb2:=hxo.fi.ok k p n hp hn;have hpo:=(ho.vb.p k p hp).ok;have hpo1:=hpo.2.2.1;have hpo2:=hpo.2.2.2.1;have hmul:=zaa hnb2.1 o9 hpo2.1 hpo2.2;have hub:=j4 ho.vb.p hxo.fi k o9
           exact yl [] (rr [0,1,2,3,4,5,6,7,8,9,10,11,12,13,14,15,16] .fin) k9 k9 (fun d _ _ _ _ h=>by cases d <;> exact h) (zz I I<|zz I I<|zz I I<|zl I I (zU (e:=59) 4 I I k9 k9 o9 (by simpa using hx))<|zl I I (yo (n:=3) I k9 (show 3 < 4 by decide))<|zl I I (zS I I k9 s9)<|zz I I<|zl I I (zU (e:=3) 1 I I k9 k9 o9 (by simpa using hn))<|zl I I (zS I I k9 s9)<|zz I I<|zz I I<|zl I I (zU (e:=61) 5 I I k9 k9 o9 (by simpa using hp))<|zl I I (yo (n:=3) I k9 (show 3 < 5 by decide))<|zl I I (zS I I k9 s9)<|zl I I (Rd.mul I I ⟨by omega,by omega⟩)<|zl I I (Rd.add I I ⟨by omega,by omega⟩)<|yR I I<|y9<|SN.block<|zj<|zi<|zd I<|za I (Rd.add I I ⟨by omega,by omega⟩)<|zf I<|zF (fun aK wK hh=>hK3 (⟨k + 1,by omega⟩) (by dsimp only;omega) aK wK<|hh.sub<|⟨⟨_,I,⟨lq I,⟨lq I,⟨lq I,⟨lq I,⟨lq I,⟨lq I,⟨⟨_,I,zI (by dsimp only;rw [Vk hp hn])⟩,⟨⟨_,I,zI s9⟩,t9⟩⟩⟩⟩⟩⟩⟩⟩⟩,[0,1],by decide,(sX rfl)⟩))
          ·have h130:¬(k:Int) < (a.cat.length:Int):=oF hb130;refine zt hb130 (zt hb130<|zt hb130<|zt hb130<|zt hb130<|zt hb130<|zt hb130<|zt hb130<|za I (zw I hb130 I)<|ze<|zK I I<|zQ ?_)
           repeat (first | refine zX ?_ | refine zY d9 ?_)
           refine zZ (zj<|zh ?_)
           obtain rfl:k=a.cat.length:=by omega
           exact zi (zd I<|zd I<|zd I<|za I (zU (e:=59) 4 I I k9 k9 o9 (by simpa using hx))<|za I (yo (n:=1) I k9 (show 1 < 4 by decide))<|za I (zS I I k9 s9)<|za I (yV I I)<|ze<|zK I (decide_eq_false (by have:=hxo.un;unfold YO at this;rw [hxl] at this;omega))<|zq<|SN.block<|zj<|zi<|zd I<|za I (Rd.add I I ⟨by omega,by omega⟩)<|zf I<|zF (fun aK wK hh=>hK2 (⟨i + 1,by omega⟩) (by dsimp only;omega) aK wK<|hh.sub<|⟨⟨_,I,⟨lq I,⟨lq I,⟨lq I,⟨lq I,⟨lq I,⟨⟨_,I,zI s9⟩,t9⟩⟩⟩⟩⟩⟩⟩,[0,1],by decide,(sX rfl)⟩))
        ·have h123:¬(i:Int) < (a.bs.length:Int):=oF hb123;refine zQ ?_
         repeat (first | refine zX ?_ | refine zY d9 ?_)
         refine zZ (zj<|zh<|zh<|SW.sub (σ':=yb [(2,_),(3,_),(7,_),(9,_),(15,_)] [_,_]) (sB [0,1] I I)<|zi<|zf I<|ze<|SW.block<|yd (ι:={i:Nat // i≤s.ars.length}) (fun i=>yb [(2,lsD ZM ws),(3,pA g3),(7,lsD yA a.cat),(9,pA ga),(15,lsD yK a.bs),(19,iD (i.1:Int))] [.c g3 [isD<|.slice s.r0.a s.r0.n s.r0.c,isD<|.slice s.r1.a s.r1.n s.r1.c,isD<|.slice s.r2.a s.r2.n s.r2.c,isD<|.slice s.r3.a s.r3.n s.r3.c,isD<|.slice s.r4.a s.r4.n s.r4.c,isD<|.slice s.r5.a s.r5.n s.r5.c,iD s.tg,iD s.op,iD s.bu,iD s.se,lsD YN s.ars,lsD YM s.ims,iD s.up,lsD yK s.bs,iD s.ac,iD s.st,bD s.key,iD s.t1,iD s.t2],.c ga [lsD yA a.cat,lsD yK a.bs,iD a.ac,iD a.st,bD a.key,iD (a.rd:Int),lsD z7 a.pr]]) (fun i=>s.ars.length - i.1) (⟨0,JC _⟩) ?_ ?_)
         ·exact (sB [0,1] I I)
         ·rintro ⟨i,hi⟩ K4 hK4;dsimp only at hi ⊢;refine zh (zn<|zd I<|za I (zg (n:=10) I k9)<|za I (zp 0 I I I k9 zm)<|za I (zT (e:=64) I k9)<|za I (yc I I)<|zd I<|z1 170 I (fun hb170=> ?_) (fun hb170=> ?_))
          ·have h170:(i:Int) < (s.ars.length:Int):=oT hb170
           refine zJ hb170 (zH I) (yN (S:=[]) I I hb170 I (qW [1] (WK a ho) (fun _=>inferInstance) (fun _ b hb=>by first | (simp at hb;done) | (simp at hb;subst hb;infer_instance)) I ⟨(Yp 1 I d9 ⟨(zP<|zc _),(zP<|zc _),(zP<|zc _),(zP<|zc _),(zP<|zc _),(zP<|zc _),(zP<|zc _),t9⟩),t9⟩ I) ?_)
           rintro _ ⟨⟨dn,hdn⟩,rfl⟩;refine za I (zE I hb170 I) (ze<|zC I (fun hb173=> ?_) (fun hb173=> ?_))
           ·skip
            refine zq (zj<|zh<|SW.block<|zh ?_);obtain ⟨x,hx⟩:∃ x,s.ars[i]? =some x:=⟨_,List.getElem?_eq_getElem o9⟩;exact zi (zd I<|zd I<|za I (zg (n:=10) I k9)<|za I (zp 0 I I I k9 zm)<|zd I<|za I (zU (e:=64) 2 I I k9 k9 o9 (by simpa using hx))<|za I (yo (n:=0) I k9 (show 0 < 2 by decide))<|za I (zS I I k9 s9)<|zd I<|zu (S:=[]) (zv (zco a.cat a.bs x.id ws (by have:=ho.hl;omega) ho.vb o9 (fun k p hp=>(hdn.1 (by simpa using hb173)).su hp) o9) I ⟨zc _,zc _,zc _,zc _,t9⟩ I)<|za I (yu I)<|ze<|zK I I<|zq<|SN.block<|zj<|zi<|zd I<|za I (Rd.add I I ⟨by omega,by omega⟩)<|zf I<|zF (fun aK wK hh=>hK4 (⟨i + 1,by omega⟩) (by dsimp only;omega) aK wK<|hh.sub<|⟨⟨_,I,⟨lq I,⟨lq I,⟨lq I,⟨lq I,⟨lq I,⟨⟨_,I,zI s9⟩,t9⟩⟩⟩⟩⟩⟩⟩,[0,1],by decide,(sX rfl)⟩))
           ·skip
            refine zQ ?_
            repeat (first | refine zX ?_ | refine zY d9 ?_)
            refine zZ (zj<|zn<|zu (S:=[]) (zv (qz) I t9 I)<|zf I<|ze<|zO (fn:=Tryz.f3) (fun _ _ h=>h)<|Rs.le (zG I<|zk I) ?_);exact yO I
          ·have h170:¬(i:Int) < (s.ars.length:Int):=oF hb170;refine zt hb170 (zt hb170<|za I (zw I hb170 I)<|ze<|zK I I<|zQ ?_)
           repeat (first | refine zX ?_ | refine zY d9 ?_)
           refine zZ (zj<|zn<|zu (S:=[]) (zv (qz) I t9 I)<|zf I<|ze<|zO (fn:=Tryz.f3) (fun _ _ h=>h)<|Rs.le (zG I<|zk I) ?_);exact yO I
     ·skip
      refine zi (zd I<|za I (zg (n:=13) I k9)<|za I (zp 0 I I I k9 zm)<|za I (zg (n:=14) I k9)<|za I (zx 0 2 I I k9 I zm)<|za I (zg (n:=16) I k9)<|za I (zp 0 I I I k9 zm)<|zu (S:=[]) (zv (con_newN cat s.bs s.ac s.st s.key (by have:=hf.a;omega) (by have:=hf.b;omega) (fun b hb=>by have:=hf.bl b hb;omega) hk) I ⟨zc _,zc _,zc _,zc _,t9⟩ I)<|zd I<|za I (zo I I)<|za I (zo I I)<|zf I<|zf I<|ze<|zh<|zn<|zd I<|za I (yv I I)<|ze<|yj I I<|zn<|zd I<|za I (Rd.eqP I I k9)<|zd I<|yN (S:=[]) I I I I (zv (qz) I t9 I) ?_);rintro _ rfl;refine za I (zE I I I) (zf I<|ze<|zO (fn:=Tryz.f3) (fun _ _ h=>h)<|Rs.le (zG I<|zk I) ?_);exact yO I
end Sx
end Go.Proofs.YtfoafihodanmhaaGreatDoor
namespace Go.Proofs.YtfoafihodanmhaaGreatDoor
open Go.ChangeShapes Go.WideShapes Go.ChangeAt Go.RowKit
namespace Sx
instance:Inhabited Tp.Ar:=⟨⟨0,0⟩⟩
instance:Inhabited Tp.Im:=⟨⟨0,0,0⟩⟩
instance:Inhabited Tp.Bd:=⟨⟨0,0,0,[]⟩⟩
instance:Inhabited Tp.Bi:=⟨⟨0,0,0,⟨false,[],false,[]⟩⟩⟩
theorem j1 {P:Program} {t e:TypeId} (ht:P.underlying t=some (.slice e)):K6 P t (fun r:Tp.Raw=>[isD<|.slice r.a r.n r.c]) (fun _=>True):=fun H enc W fuel cs x h=>by
 rcases Go.Deep.open_slice ht h with ⟨rfl,-⟩ | ⟨a,len,cap,m,n,Dn,Pl,rfl,-⟩
 ·exact ⟨⟨none,0,0⟩,t9,I,t9⟩
 ·exact ⟨⟨some a,len,cap⟩,t9,I,t9⟩
theorem came_area:K6 Tryz.prog 64 YN (fun _=>True):=fun H enc W fuel cs x h=>by
 obtain ⟨hl,hf⟩:=Zv Tryz.underlying64 h;have hl':cs.length=2:=hl.trans k9;obtain ⟨_,_,h0⟩:=hf 0 _ rfl;obtain ⟨_,_,h1⟩:=hf 1 _ rfl;obtain ⟨a,-,a0⟩:=Ze Tryz.underlying3 _ _ _ _ _ _ h0;obtain ⟨c,-,a1⟩:=Ze Tryz.underlying3 _ _ _ _ _ _ h1;exact ⟨⟨a,c⟩,t9,ZS [[iD a],[iD c]] cs 0 ⟨a0,a1,t9⟩ (by simpa using hl')⟩
theorem zfr:K6 Tryz.prog 32 (fun l:List Tp.Ar=>[lsD YN l]) (fun l=>l.length≤maxLen∧∀ e∈l,True):=YD Tryz.underlying32 k9 d9 came_area
theorem came_imp:K6 Tryz.prog 85 YM (fun _=>True):=fun H enc W fuel cs x h=>by
 obtain ⟨hl,hf⟩:=Zv Tryz.underlying85 h;have hl':cs.length=3:=hl.trans k9;obtain ⟨_,_,h0⟩:=hf 0 _ rfl;obtain ⟨_,_,h1⟩:=hf 1 _ rfl;obtain ⟨_,_,h2⟩:=hf 2 _ rfl;obtain ⟨a,-,a0⟩:=Ze Tryz.underlying3 _ _ _ _ _ _ h0;obtain ⟨c,-,a1⟩:=Ze Tryz.underlying3 _ _ _ _ _ _ h1;obtain ⟨d,-,a2⟩:=Ze Tryz.underlying3 _ _ _ _ _ _ h2;exact ⟨⟨a,c,d⟩,t9,ZS [[iD a],[iD c],[iD d]] cs 0 ⟨a0,a1,a2,t9⟩ (by simpa using hl')⟩
theorem came_imps:K6 Tryz.prog 33 (fun l:List Tp.Im=>[lsD YM l]) (fun l=>l.length≤maxLen∧∀ e∈l,True):=YD Tryz.underlying33 k9 d9 came_imp
theorem came_i1:K6 Tryz.prog 3 z7 (fun z=>(Lit.int .i64 z).wf=true):=Ze Tryz.underlying3
theorem came_il:K6 Tryz.prog 22 (fun l:List Int=>[lsD z7 l]) (fun l=>l.length≤maxLen∧∀ e∈l,(Lit.int .i64 e).wf=true):=YD Tryz.underlying22 k9 d9 came_i1
theorem came_bdr:K6 Tryz.prog 59 yK (fun _=>True):=fun H enc W fuel cs x h=>by
 obtain ⟨hl,hf⟩:=Zv Tryz.underlying59 h;have hl':cs.length=4:=hl.trans k9;obtain ⟨_,_,h0⟩:=hf 0 _ rfl;obtain ⟨_,_,h1⟩:=hf 1 _ rfl;obtain ⟨_,_,h2⟩:=hf 2 _ rfl;obtain ⟨_,_,h3⟩:=hf 3 _ rfl;obtain ⟨a,-,a0⟩:=Ze Tryz.underlying3 _ _ _ _ _ _ h0;obtain ⟨c,-,a1⟩:=Ze Tryz.underlying3 _ _ _ _ _ _ h1;obtain ⟨d,-,a2⟩:=Ze Tryz.underlying3 _ _ _ _ _ _ h2;obtain ⟨e,-,a3⟩:=came_il _ _ _ _ _ _ h3;exact ⟨⟨a,c,d,e⟩,t9,ZS [[iD a],[iD c],[iD d],[lsD z7 e]] cs 0 ⟨a0,a1,a2,a3,t9⟩ (by simpa using hl')⟩
theorem came_bdrs:K6 Tryz.prog 34 (fun l:List Tp.Bd=>[lsD yK l]) (fun l=>l.length≤maxLen∧∀ e∈l,True):=YD Tryz.underlying34 k9 d9 came_bdr
theorem zdo:K6 Tryz.prog 31 (fun z:Int=>[iD z]) (fun _=>True):=fun H enc W fuel cs x h=>by
 obtain ⟨hl,hf⟩:=Zv Tryz.underlying31 h;have hl':cs.length=1:=hl.trans k9;obtain ⟨_,_,h0⟩:=hf 0 _ rfl;obtain ⟨a,-,a0⟩:=Ze Tryz.underlying3 _ _ _ _ _ _ h0;exact ⟨a,t9,ZS [[iD a]] cs 0 ⟨a0,t9⟩ (by simpa using hl')⟩
theorem came_incr:K6 Tryz.prog 36 (fun z:Int × Int=>[iD z.1,iD z.2]) (fun _=>True):=fun H enc W fuel cs x h=>by
 obtain ⟨hl,hf⟩:=Zv Tryz.underlying36 h;have hl':cs.length=2:=hl.trans k9;obtain ⟨_,_,h0⟩:=hf 0 _ rfl;obtain ⟨_,_,h1⟩:=hf 1 _ rfl;obtain ⟨a,-,a0⟩:=Ze Tryz.underlying3 _ _ _ _ _ _ h0;obtain ⟨c,-,a1⟩:=Ze Tryz.underlying3 _ _ _ _ _ _ h1;exact ⟨(a,c),t9,ZS [[iD a],[iD c]] cs 0 ⟨a0,a1,t9⟩ (by simpa using hl')⟩
theorem zfo:K6 Tryz.prog 39 (fun z:Int × Int=>[iD z.1,iD z.2]) (fun _=>True):=fun H enc W fuel cs x h=>by
 obtain ⟨hl,hf⟩:=Zv Tryz.underlying39 h;have hl':cs.length=2:=hl.trans k9;obtain ⟨_,_,h0⟩:=hf 0 _ rfl;obtain ⟨_,_,h1⟩:=hf 1 _ rfl;obtain ⟨a,-,a0⟩:=Ze Tryz.underlying3 _ _ _ _ _ _ h0;obtain ⟨c,-,a1⟩:=Ze Tryz.underlying3 _ _ _ _ _ _ h1;exact ⟨(a,c),t9,ZS [[iD a],[iD c]] cs 0 ⟨a0,a1,t9⟩ (by simpa using hl')⟩
theorem zfp:K6 Tryz.prog 27 (fun r:Tp.Raw × Tp.Raw × Tp.Raw=>[isD<|.slice r.1.a r.1.n r.1.c,isD<|.slice r.2.1.a r.2.1.n r.2.1.c,isD<|.slice r.2.2.a r.2.2.n r.2.2.c]) (fun _=>True):=fun H enc W fuel cs x h=>by
 obtain ⟨hl,hf⟩:=Zv Tryz.underlying27 h;have hl':cs.length=3:=hl.trans k9;obtain ⟨_,_,h0⟩:=hf 0 _ rfl;obtain ⟨_,_,h1⟩:=hf 1 _ rfl;obtain ⟨_,_,h2⟩:=hf 2 _ rfl;obtain ⟨a,-,a0⟩:=j1 Tryz.underlying23 _ _ _ _ _ _ h0;obtain ⟨c,-,a1⟩:=j1 Tryz.underlying24 _ _ _ _ _ _ h1;obtain ⟨d,-,a2⟩:=j1 Tryz.underlying25 _ _ _ _ _ _ h2;exact ⟨(a,c,d),t9,ZS [[isD<|.slice a.a a.n a.c],[isD<|.slice c.a c.n c.c],[isD<|.slice d.a d.n d.c]] cs 0 ⟨a0,a1,a2,t9⟩ (by simpa using hl')⟩
theorem came_setup:K6 Tryz.prog 41 encSu (fun s=>s.bs.length≤maxLen):=fun H enc W fuel cs x h=>by
 obtain ⟨hl,hf⟩:=Zv Tryz.underlying41 h;have hl':cs.length=19:=hl.trans k9;obtain ⟨_,_,h0⟩:=hf 0 _ rfl;obtain ⟨_,_,h1⟩:=hf 1 _ rfl;obtain ⟨_,_,h2⟩:=hf 2 _ rfl;obtain ⟨_,_,h3⟩:=hf 3 _ rfl;obtain ⟨_,_,h4⟩:=hf 4 _ rfl;obtain ⟨_,_,h5⟩:=hf 5 _ rfl;obtain ⟨_,_,h6⟩:=hf 6 _ rfl;obtain ⟨_,_,h7⟩:=hf 7 _ rfl;obtain ⟨_,_,h8⟩:=hf 8 _ rfl;obtain ⟨_,_,h9⟩:=hf 9 _ rfl;obtain ⟨_,_,h10⟩:=hf 10 _ rfl;obtain ⟨_,_,h11⟩:=hf 11 _ rfl;obtain ⟨_,_,h12⟩:=hf 12 _ rfl;obtain ⟨_,_,h13⟩:=hf 13 _ rfl;obtain ⟨_,_,h14⟩:=hf 14 _ rfl;obtain ⟨r0,-,a0⟩:=j1 Tryz.underlying22 _ _ _ _ _ _ h0;obtain ⟨q,-,a1⟩:=zfp _ _ _ _ _ _ h1;obtain ⟨r4,-,a2⟩:=j1 Tryz.underlying28 _ _ _ _ _ _ h2;obtain ⟨r5,-,a3⟩:=j1 Tryz.underlying29 _ _ _ _ _ _ h3;obtain ⟨tg,-,a4⟩:=zdo _ _ _ _ _ _ h4;obtain ⟨op,-,a5⟩:=Ze Tryz.underlying3 _ _ _ _ _ _ h5;obtain ⟨bu,-,a6⟩:=Ze Tryz.underlying3 _ _ _ _ _ _ h6;obtain ⟨se,-,a7⟩:=Ze Tryz.underlying3 _ _ _ _ _ _ h7;obtain ⟨ars,-,a8⟩:=zfr _ _ _ _ _ _ h8;obtain ⟨ims,-,a9⟩:=came_imps _ _ _ _ _ _ h9;obtain ⟨up,-,a10⟩:=Ze Tryz.underlying3 _ _ _ _ _ _ h10;obtain ⟨bs,hbs,a11⟩:=came_bdrs _ _ _ _ _ _ h11;obtain ⟨ic,-,a12⟩:=came_incr _ _ _ _ _ _ h12
 obtain ⟨key,-,a13⟩:=zaS Tryz.underlying37 Tryz.underlying5 k9 _ _ _ _ _ _ h13;obtain ⟨te,-,a14⟩:=zfo _ _ _ _ _ _ h14;exact ⟨⟨r0,q.1,q.2.1,q.2.2,r4,r5,tg,op,bu,se,ars,ims,up,bs,ic.1,ic.2,key,te.1,te.2⟩,hbs.1,ZS [[isD<|.slice r0.a r0.n r0.c],[isD<|.slice q.1.a q.1.n q.1.c,isD<|.slice q.2.1.a q.2.1.n q.2.1.c,isD<|.slice q.2.2.a q.2.2.n q.2.2.c],[isD<|.slice r4.a r4.n r4.c],[isD<|.slice r5.a r5.n r5.c],[iD tg],[iD op],[iD bu],[iD se],[lsD YN ars],[lsD YM ims],[iD up],[lsD yK bs],[iD ic.1,iD ic.2],[bD key],[iD te.1,iD te.2]] cs 0 ⟨a0,a1,a2,a3,a4,a5,a6,a7,a8,a9,a10,a11,a12,a13,a14,t9⟩ (by simpa using hl')⟩
theorem came_bid:K6 Tryz.prog 105 ZA (fun x=>Byt x.pt.b x.pt.c):=fun H enc W fuel cs x h=>by
 obtain ⟨hl,hf⟩:=Zv Tryz.underlying105 h;have hl':cs.length=7:=hl.trans k9;obtain ⟨_,_,h0⟩:=hf 0 _ rfl;obtain ⟨_,_,h1⟩:=hf 1 _ rfl;obtain ⟨_,_,h2⟩:=hf 2 _ rfl;obtain ⟨_,_,h3⟩:=hf 3 _ rfl;obtain ⟨a,-,a0⟩:=Ze Tryz.underlying3 _ _ _ _ _ _ h0;obtain ⟨c,-,a1⟩:=Ze Tryz.underlying3 _ _ _ _ _ _ h1;obtain ⟨d,-,a2⟩:=Ze Tryz.underlying3 _ _ _ _ _ _ h2;obtain ⟨r,hr,a3⟩:=zfq _ _ _ _ _ _ h3;exact ⟨⟨a,c,d,r⟩,hr,ZS [[iD a],[iD c],[iD d],qk r] cs 0 ⟨a0,a1,a2,a3,t9⟩ (by simpa [qk] using hl')⟩
theorem came_bidL:K6 Tryz.prog 54 zbt (fun l=>l.length≤maxLen∧∀ e∈l,Byt e.pt.b e.pt.c):=YD Tryz.underlying54 k9 d9 came_bid
theorem came_bidLs:K6 Tryz.prog 42 (fun l:List (List Tp.Bi)=>[lsD zbt l]) (fun l=>l.length≤maxLen∧∀ e∈l,e.length≤maxLen∧∀ x∈e,Byt x.pt.b x.pt.c):=YD Tryz.underlying42 k9 d9 came_bidL
