/- TOP: demands. TOP: totals and excess. TOP: activity: hold. -/
import Derived.Test.YtfoafihodanmhaaGreatDoorGZBB
set_option maxHeartbeats 8000000
set_option maxRecDepth 100000
namespace Go.Proofs.YtfoafihodanmhaaGreatDoor
open Go.RowKit
namespace Sx
section
structure Tp.Fits (l:List Tp.Pr) (bl:List Int):Prop where
 len:bl.length=l.length
 ok:∀ (i:Nat) p n,l[i]? =some p→bl[i]? =some n→0≤n∧n≤p.su
open Classical in
noncomputable def YZ (l:List Tp.Pr) (bl:List Int):Bool:=decide (Tp.Fits l bl)
theorem zcB {l:List Tp.Pr} {bl:List Int} (h:Tp.Fits l bl):YZ l bl=true:=by classical unfold YZ;exact Jo h
theorem zac {l:List Tp.Pr} {bl:List Int} (h:¬Tp.Fits l bl):YZ l bl=false:=by classical unfold YZ;exact Jd h
theorem zdt {l:List Tp.Pr} {bl:List Int}:YZ l bl=true↔Tp.Fits l bl:=by classical unfold YZ;exact decide_eq_true_iff
theorem zfz {l:List Tp.Pr} {bl:List Int}:YZ l bl=false↔¬Tp.Fits l bl:=by classical unfold YZ;exact Xi
def zeo (l:List Tp.Pr) (i:Nat):Int:=((l[i]?).map Tp.Pr.un).getD 0
def Tp.blA (bl:List Int) (i:Nat):Int:=(bl[i]?).getD 0
def Ka (l:List Tp.Pr) (bl:List Int):Nat→Int
 | 0=>0
 | i + 1=>Ka l bl i + Tp.blA bl i * zeo l i
abbrev YO (l:List Tp.Pr) (bl:List Int):Int:=Ka l bl bl.length
theorem zcw {l:List Tp.Pr} {i:Nat} {p:Tp.Pr} (h:l[i]? =some p):zeo l i=p.un:=by rw [zeo,h];rfl
theorem Ym {bl:List Int} {i:Nat} {n:Int} (h:bl[i]? =some n):Tp.blA bl i=n:=by rw [Tp.blA,h];rfl
theorem Vk {l:List Tp.Pr} {bl:List Int} {i:Nat} {p:Tp.Pr} {n:Int} (h:l[i]? =some p) (hn:bl[i]? =some n):Ka l bl (i + 1)=Ka l bl i + n * p.un:=by rw [Ka,zcw h,Ym hn]
theorem zaa {n u:Int} (h1:0≤n) (h2:n≤12) (h3:1≤u) (h4:u≤100000):0≤n * u∧n * u≤1200000:=by
 refine ⟨Int.mul_nonneg h1 o9,?_⟩;have:=Int.mul_le_mul h2 h4 o9 (by omega:(0:Int)≤12);omega
theorem j4 {l:List Tp.Pr} {bl:List Int} (hl:jv l) (hf:Tp.Fits l bl):∀ i≤bl.length,0≤Ka l bl i∧Ka l bl i≤1200000 * (i:Int)
 | 0,_=>by simp [Ka]
 | i + 1,hi=>by
  have ih:=j4 hl hf i o9
  have hil:i < l.length:=by have:=hf.len;omega
  obtain ⟨p,hp⟩:∃ p,l[i]? =some p:=⟨_,Je hil⟩;obtain ⟨n,hn⟩:∃ n,bl[i]? =some n:=⟨_,Je o9⟩;have h1:=hf.ok i p n hp hn;have h2:=(hl i p hp).ok;have h3:=zaa h1.1 (by have:=h2.2.2.1;omega) h2.2.2.2.1.1 h2.2.2.2.1.2;rw [Vk hp hn];omega
def Yc (bs:List Tp.Bd):Nat→Int
 | 0=> -1
 | i + 1=>((bs[i]?).map Tp.Bd.id).getD 0
theorem qc {bs:List Tp.Bd} {i:Nat} {b:Tp.Bd} (h:bs[i]? =some b):Yc bs (i + 1)=b.id:=by rw [Yc,h];rfl
structure Tp.OkB (l:List Tp.Pr) (last:Int) (b:Tp.Bd):Prop where
 i0:last < b.id
 i1:b.id < 32
 e0:0≤b.el
 e1:b.el≤76800000
 w0:0≤b.wv
 w1:b.wv≤3
 fi:Tp.Fits l b.bl
 un:YO l b.bl≤b.el
structure Tp.VB (l:List Tp.Pr) (bs:List Tp.Bd):Prop where
 n:bs.length≤32
 p:jv l
 ok:∀ (i:Nat) b,bs[i]? =some b→Tp.OkB l (Yc bs i) b
open Classical in
noncomputable def Tp.vb (l:List Tp.Pr) (bs:List Tp.Bd):Bool:=decide (Tp.VB l bs)
theorem jH {l:List Tp.Pr} {bs:List Tp.Bd} (h:Tp.VB l bs):Tp.vb l bs=true:=by classical unfold Tp.vb;exact Jo h
theorem qG {l:List Tp.Pr} {bs:List Tp.Bd} (h:¬Tp.VB l bs):Tp.vb l bs=false:=by classical unfold Tp.vb;exact Jd h
theorem Tp.vb_iff {l:List Tp.Pr} {bs:List Tp.Bd}:Tp.vb l bs=true↔Tp.VB l bs:=by classical unfold Tp.vb;exact decide_eq_true_iff
theorem le_num_n {n:Nat} {x y:Int} (h:x=y):Le (iD x) (nwD n<|iD y):=by subst h;exact YH
theorem zei (l:List Tp.Pr) (bl:List Int) (hl:l.length≤1000000) (hb:bl.length≤1000000):ConN Tryz.prog 71 [lsD yA l,lsD z7 bl] (yL<|YZ l bl):=by
 refine YJ Tryz.func71 k9 I k9 fun base w0=>(zn<|zf I<|ze<|zh<|zn<|zd I<|za I (zT (e:=3) I k9)<|zd I<|za I (zT (e:=61) I k9)<|za I (yv I I)<|ze<|zC I (fun hb11=> ?_) (fun hb11=> ?_))
 ·skip
  refine zn (zf I<|ze<|zO (fn:=Tryz.f71) (fun _ _ h=>h)<|Rs.le (zG I<|zk I) ?_);exact yO (zac fun h=>by have:=h.len;have h2:=hb11;simp at h2;omega).symm
 ·skip
  refine zq (zj<|zh<|zn<|zd I<|za I (zT (e:=3) I k9)<|zd I<|ze<|SW.block<|yd (ι:={i:Nat // i≤bl.length∧∀ j < i,∀ p n,l[j]? =some p→bl[j]? =some n→0≤n∧n≤p.su}) (fun i=>yb [(0,lsD yA l),(12,lsD z7 bl),(13,iD (bl.length:Int)),(14,iD (i.1:Int))] []) (fun i=>bl.length - i.1) (⟨0,JC _,fun _ h=>absurd h<|Nat.not_lt_zero _⟩) ?_ ?_)
  ·exact (sB [] I I)
  ·rintro ⟨i,hi,hp⟩ K0 hK0;dsimp only at hi hp ⊢;refine zn (za I (yc I I)<|ze<|zh<|zC I (fun hb15=> ?_) (fun hb15=> ?_))
   ·have h15:(i:Int) < (bl.length:Int):=oT hb15;refine zq (zj<|zh<|SW.block<|zh ?_)
    have hlen:bl.length=l.length:=by have h:=Kn hb11;omega
    obtain ⟨x,hx⟩:∃ x,bl[i]? =some x:=⟨_,Je o9⟩;obtain ⟨q,hq⟩:∃ q,l[i]? =some q:=⟨_,Je o9⟩;refine zi (zd I<|za I (zU (e:=3) 1 I I k9 k9 o9 (by simpa using hx))<|za I (zS I I k9 s9)<|zf I<|zf I<|zN<|zd I<|za I (yc I I)<|zd I<|z1 21 I (fun hb21=> ?_) (fun hb21=> ?_))
    ·have h21:x < 0:=oT hb21;refine zt hb21 (zt hb21<|zt hb21<|zt hb21<|zt hb21<|zt hb21<|zt hb21<|za I (zE I hb21 I)<|ze<|yj I I<|zn<|zf I<|ze<|zO (fn:=Tryz.f71) (fun _ _ h=>h)<|Rs.le (zG I<|zk I) ?_);exact yO (zac fun h=>by have:=h.ok i q x hq hx;omega).symm
    ·have h21:¬x < 0:=oF hb21;refine zJ hb21 (zH I) (zJ hb21 (zH I)<|zJ hb21 (zH I)<|zJ hb21 (zU (e:=61) 5 I I k9 k9 o9 (by simpa using hq))<|zJ hb21 (yo (n:=2) I k9 (show 2 < 5 by decide))<|zJ hb21 (zS I I k9 s9)<|zJ hb21 (yV I I)<|za I (zw I hb21 I)<|ze<|zC I (fun hb29=> ?_) (fun hb29=> ?_))
     ·have h29:x > q.su:=oT hb29;refine zn (zf I<|ze<|zO (fn:=Tryz.f71) (fun _ _ h=>h)<|Rs.le (zG I<|zk I) ?_);exact yO (zac fun h=>by have:=h.ok i q x hq hx;omega).symm
     ·have h29:¬x > q.su:=oF hb29;exact zq (SN.block<|zj<|zi<|za I (Rd.add I I ⟨by omega,by omega⟩)<|zd I<|zF (fun aK wK hh=>hK0 (⟨i + 1,by omega,fun j hj p n h1 h2=>(Nat.lt_succ_iff_lt_or_eq.1 hj).elim (fun h=>hp j h p n h1 h2) (fun e=>by subst e;rw [hx] at h2;rw [hq] at h1;rw [← Option.some.inj h1,← Option.some.inj h2];omega)⟩) (by dsimp only;omega) aK wK<|hh.sub<|⟨⟨_,I,⟨lq I,⟨lq I,⟨lq I,⟨⟨_,I,zI s9⟩,t9⟩⟩⟩⟩⟩,[],by decide,trivial⟩))
   ·have h15:¬(i:Int) < (bl.length:Int):=oF hb15;refine zQ ?_
    repeat (first | refine zX ?_ | refine zY d9 ?_)
    refine zZ (zj<|zn<|zf I<|ze<|zO (fn:=Tryz.f71) (fun _ _ h=>h)<|Rs.le (zG I<|zk I) ?_);exact yO (zcB ⟨by have h:=Kn hb11;omega,fun j p n h1 h2=>hp j (by have:=(Jg.1 h2).1;omega) p n h1 h2⟩).symm
theorem zaK (l:List Tp.Pr) (bl:List Int) (hl:l.length≤1000000) (hv:jv l) (hf:Tp.Fits l bl):ConN Tryz.prog 72 [lsD yA l,lsD z7 bl] (iD<|YO l bl):=by
 refine YJ Tryz.func72 k9 I k9 fun base w0=>(zn<|zf I<|zN<|zf I<|ze<|zh<|zn<|zd I<|za I (zT (e:=3) I k9)<|zd I<|ze<|SW.block<|yd (ι:={i:Nat // i≤bl.length}) (fun i=>yb [(0,lsD yA l),(5,iD<|Ka l bl i.1),(8,lsD z7 bl),(9,iD (bl.length:Int)),(10,iD (i.1:Int))] []) (fun i=>bl.length - i.1) (⟨0,JC _⟩) ?_ ?_)
 ·exact (sB [] I I)
 ·rintro ⟨i,hi⟩ K0 hK0;dsimp only at hi ⊢;have hlen:=hf.len;have hus:=j4 hv hf i hi;refine zn (za I (yc I I)<|ze<|zh<|zC I (fun hb11=> ?_) (fun hb11=> ?_))
  ·have h11:(i:Int) < (bl.length:Int):=oT hb11;refine zq (zj<|zh<|SW.block<|zh ?_);obtain ⟨x,hx⟩:∃ x,bl[i]? =some x:=⟨_,List.getElem?_eq_getElem o9⟩;obtain ⟨q,hq⟩:∃ q,l[i]? =some q:=⟨_,List.getElem?_eq_getElem o9⟩;have h1:=hf.ok i q x hq hx;have h2:=(hv i q hq).ok;have h3:=zaa h1.1 (by have:=h2.2.2.1;omega) h2.2.2.2.1.1 h2.2.2.2.1.2;exact zi (zd I<|za I (zU (e:=3) 1 I I k9 k9 o9 (by simpa using hx))<|za I (zS I I k9 s9)<|zf I<|zf I<|ze<|zi<|zd I<|zd I<|zd I<|zd I<|za I (zU (e:=61) 5 I I k9 k9 o9 (by simpa using hq))<|za I (yo (n:=3) I k9 (show 3 < 5 by decide))<|za I (zS I I k9 s9)<|za I (Rd.mul I I ⟨by omega,by omega⟩)<|za I (Rd.add I I ⟨by omega,by omega⟩)<|zf I<|zF<|SN.block<|zj<|zi<|za I (Rd.add I I ⟨by omega,by omega⟩)<|zd I<|zF (fun aK wK hh=>hK0 (⟨i + 1,by omega⟩) (by dsimp only;omega) aK wK<|hh.sub<|⟨⟨_,I,⟨lq I,⟨⟨_,I,zI (by rw [Vk hq hx])⟩,⟨lq I,⟨lq I,⟨⟨_,I,zI s9⟩,t9⟩⟩⟩⟩⟩⟩,[],by decide,trivial⟩))
  ·have h11:¬(i:Int) < (bl.length:Int):=oF hb11;refine zQ ?_
   repeat (first | refine zX ?_ | refine zY d9 ?_)
   refine zZ (zj<|zn<|zd I<|zf I<|ze<|zO (fn:=Tryz.f72) (fun _ _ h=>h)<|Rs.le (zG I<|zk I) ?_);exact le_num_n (by rw [show i=bl.length by omega])
theorem zcd (l:List Tp.Pr) (bs:List Tp.Bd) (hl:l.length≤1000000) (hb:bs.length≤1000000) (hbl:∀ b∈bs,b.bl.length≤1000000):ConN Tryz.prog 23 [lsD yA l,lsD yK bs] (yL<|Tp.vb l bs):=by
 refine YJ Tryz.func23 k9 I k9 fun base w0=>(zn<|zf I<|ze<|zh<|zn<|zd I<|za I (zT (e:=59) I k9)<|za I (yV I I)<|zd I<|z1 11 I (fun hb11=> ?_) (fun hb11=> ?_))
 ·have h11:(bs.length:Int) > 32:=oT hb11;refine zt hb11 (zt hb11<|zt hb11<|za I (zE I hb11 I)<|ze<|yj I I<|zn<|zf I<|ze<|zO (fn:=Tryz.f23) (fun _ _ h=>h)<|Rs.le (zG I<|zk I) ?_);exact yO (qG fun h=>by have:=h.n;omega).symm
 ·have h11:¬(bs.length:Int) > 32:=oF hb11;refine zJ hb11 (zH I) (yN (S:=[]) I I hb11 I (zv (zce l hl) I ⟨zc _,t9⟩ I) ?_);rintro _ rfl;refine zJ hb11 (yu I) (za I (zw I hb11 I)<|ze<|zC I (fun hb15=> ?_) (fun hb15=> ?_))
  ·skip
   refine zn (zf I<|ze<|zO (fn:=Tryz.f23) (fun _ _ h=>h)<|Rs.le (zG I<|zk I) ?_);exact yO (qG fun h=>by have h2:=hb15;rw [Yl h.p] at h2;cases h2).symm
  ·skip
   refine zq (zj<|zn<|zf I<|ze<|zh<|zn<|zd I<|za I (zT (e:=59) I k9)<|zd I<|ze<|SW.block<|yd (ι:={i:Nat // i≤bs.length∧∀ j < i,∀ b,bs[j]? =some b→Tp.OkB l (Yc bs j) b}) (fun i=>yb [(0,lsD yA l),(5,iD<|Yc bs i.1),(16,lsD yK bs),(17,iD (bs.length:Int)),(18,iD (i.1:Int))] []) (fun i=>bs.length - i.1) (⟨0,JC _,fun _ h=>absurd h<|Nat.not_lt_zero _⟩) ?_ ?_)
   ·exact (sB [] I I)
   ·rintro ⟨i,hi,hp⟩ K0 hK0;dsimp only at hi hp ⊢;have hv:jv l:=Tp.vp_iff.1 (qp hb15);refine zn (za I (yc I I)<|ze<|zh<|zC I (fun hb19=> ?_) (fun hb19=> ?_))
    ·have h19:(i:Int) < (bs.length:Int):=oT hb19;refine zq (zj<|zh<|SW.block<|zh ?_);obtain ⟨x,hx⟩:∃ x,bs[i]? =some x:=⟨_,Je o9⟩;have hxl:=hbl x (Jc hx);refine zi (za I (zU (e:=59) 4 I I k9 k9 o9 (by simpa using hx))<|za I (yn 4 I k9 d9 (show 4≤4 by decide) s9) (SWl.e2 (S:=[]) (Ef.alloc (zs:=[.int .i64 0,.int .i64 0,.int .i64 0,.slice none 0 0]) k9 I) fun g7=>(zu (S:=[_]) (zA 0 I I I k9 I<|m9 I)<|ze<|zh<|zn<|za I (zg (n:=0) I k9)<|za I (zp 0 I I I k9 zm)<|zd I<|za I (Zn I I)<|zd I<|z1 26 I (fun hb26=> ?_) (fun hb26=> ?_))))
     ·have h26:x.id≤Yc bs i:=oT hb26;refine zt hb26 (zt hb26<|zt hb26<|za I (zE I hb26 I)<|ze<|yj I I<|zn<|zf I<|ze<|zO (fn:=Tryz.f23) (fun _ _ h=>h)<|Rs.le (zG I<|zk I) ?_);exact yO (qG fun h=>by have h1:=h.ok i x hx;have h2:=h1.i0;have h3:=h1.i1;have h4:=h1.e0;have h5:=h1.e1;have h6:=h1.w0;have h7:=h1.w1;omega).symm
     ·have h26:¬x.id≤Yc bs i:=oF hb26;refine zJ hb26 (zg (n:=0) I k9) (zJ hb26 (zp 0 I I I k9 zm)<|zJ hb26 (YF I I)<|za I (zw I hb26 I)<|ze<|zC I (fun hb30=> ?_) (fun hb30=> ?_))
      ·have h30:x.id≥32:=oT hb30;refine zn (zf I<|ze<|zO (fn:=Tryz.f23) (fun _ _ h=>h)<|Rs.le (zG I<|zk I) ?_);exact yO (qG fun h=>by have h1:=h.ok i x hx;have h2:=h1.i0;have h3:=h1.i1;have h4:=h1.e0;have h5:=h1.e1;have h6:=h1.w0;have h7:=h1.w1;omega).symm
      ·have h30:¬(x.id≥32):=oF hb30;refine zq (zj<|zh<|zn<|za I (zg (n:=1) I k9)<|za I (zp 0 I I I k9 zm)<|za I (yc I I)<|zd I<|z1 34 I (fun hb34=> ?_) (fun hb34=> ?_))
       ·have h34:x.el < 0:=oT hb34;refine zt hb34 (zt hb34<|zt hb34<|za I (zE I hb34 I)<|zd I<|zt I<|zt I<|zt I<|za I (zE I I I)<|zd I<|zt I<|zt I<|zt I<|za I (zE I I I)<|ze<|yj I I<|zn<|zf I<|ze<|zO (fn:=Tryz.f23) (fun _ _ h=>h)<|Rs.le (zG I<|zk I) ?_);exact yO (qG fun h=>by have h1:=h.ok i x hx;have h2:=h1.i0;have h3:=h1.i1;have h4:=h1.e0;have h5:=h1.e1;have h6:=h1.w0;have h7:=h1.w1;omega).symm
       ·have h34:¬x.el < 0:=oF hb34;refine zJ hb34 (zg (n:=1) I k9) (zJ hb34 (zp 0 I I I k9 zm)<|zJ hb34 (yV I I)<|za I (zw I hb34 I)<|zd I<|z1 39 I (fun hb39=> ?_) (fun hb39=> ?_))
        ·have h39:x.el > 76800000:=oT hb39;refine zt hb39 (zt hb39<|zt hb39<|za I (zE I hb39 I)<|zd I<|zt I<|zt I<|zt I<|za I (zE I I I)<|ze<|yj I I<|zn<|zf I<|ze<|zO (fn:=Tryz.f23) (fun _ _ h=>h)<|Rs.le (zG I<|zk I) ?_);exact yO (qG fun h=>by have h1:=h.ok i x hx;have h2:=h1.i0;have h3:=h1.i1;have h4:=h1.e0;have h5:=h1.e1;have h6:=h1.w0;have h7:=h1.w1;omega).symm
        ·have h39:¬(x.el > 76800000):=oF hb39;refine zJ hb39 (zg (n:=2) I k9) (zJ hb39 (zp 0 I I I k9 zm)<|zJ hb39 (yc I I)<|za I (zw I hb39 I)<|zd I<|z1 44 I (fun hb44=> ?_) (fun hb44=> ?_))
         ·have h44:x.wv < 0:=oT hb44;refine zt hb44 (zt hb44<|zt hb44<|za I (zE I hb44 I)<|ze<|yj I I<|zn<|zf I<|ze<|zO (fn:=Tryz.f23) (fun _ _ h=>h)<|Rs.le (zG I<|zk I) ?_);exact yO (qG fun h=>by have h1:=h.ok i x hx;have h2:=h1.i0;have h3:=h1.i1;have h4:=h1.e0;have h5:=h1.e1;have h6:=h1.w0;have h7:=h1.w1;omega).symm
         ·have h44:¬(x.wv < 0):=oF hb44;refine zJ hb44 (zg (n:=2) I k9) (zJ hb44 (zp 0 I I I k9 zm)<|zJ hb44 (yV I I)<|za I (zw I hb44 I)<|ze<|zC I (fun hb48=> ?_) (fun hb48=> ?_))
          ·have h48:x.wv > 3:=oT hb48;refine zn (zf I<|ze<|zO (fn:=Tryz.f23) (fun _ _ h=>h)<|Rs.le (zG I<|zk I) ?_);exact yO (qG fun h=>by have h1:=h.ok i x hx;have h2:=h1.i0;have h3:=h1.i1;have h4:=h1.e0;have h5:=h1.e1;have h6:=h1.w0;have h7:=h1.w1;omega).symm
          ·have h48:¬(x.wv > 3):=oF hb48
           refine zq (zj<|zh<|zh<|yl [] (rr [0,1,2]<|.n 3 (rr [4,5,6,7,8,10,11]<|.n 9 (.r 12<|.r 13 .fin) .no) .no) k9 k9 (fun d _ _ _ _ h=>by cases d <;> exact h)<|zz I I<|zl I I (zg (n:=3) I k9)<|zl I I (zp 0 I I I k9 zm)<|yZ I (yX [] (zei l x.bl hl hxl) I ⟨(zP<|zc _),(zP<|zc _),t9⟩ I)<|zl I I (yu I)<|zz I I<|Zq 54 I (fun hb54=> ?_) (fun hb54=> ?_))
           ·have hft:¬Tp.Fits l x.bl:=zfz.1 (Tp.nb_t hb54);refine zD I I I hb54 I I (zD I I I hb54 I I<|zD I I I hb54 I I<|zD I I I hb54 I I<|zD I I I hb54 I I<|YK I I I (hb54) I I ?_ yB);refine zD I I I hb54 I I (zl I I (zE I hb54 I)<|yE<|yj I I<|zn<|zf I<|ze<|zO (fn:=Tryz.f23) (fun _ _ h=>h)<|Rs.le (zG I<|zk I) ?_);exact yO (qG fun h=>hft (h.ok i x hx).fi).symm
           ·have hft:Tp.Fits l x.bl:=zdt.1 (qp hb54);refine zy I I I hb54 I I (zH I) (zy I I I hb54 I I (zg (n:=3) I k9)<|zy I I I hb54 I I (zp 0 I I I k9 zm)<|zy I I I hb54 I I (zg (n:=1) I k9)<|zy I I I hb54 I I (zp 0 I I I k9 zm)<|Ys I I I (hb54) I (yX [] (zaK l x.bl hl hv hft) I ⟨(zP<|zc _),(zP<|zc _),t9⟩ I) ?_ yB);rintro _ rfl;refine zy I I I hb54 I I (yV I I) (zl I I (zw I hb54 I)<|yE<|zC I (fun hb62=> ?_) (fun hb62=> ?_))
            ·have h62:YO l x.bl > x.el:=oT hb62;refine zn (zf I<|ze<|zO (fn:=Tryz.f23) (fun _ _ h=>h)<|Rs.le (zG I<|zk I) ?_);exact yO (qG fun h=>by have:=(h.ok i x hx).un;omega).symm
            ·have h62:¬(YO l x.bl > x.el):=oF hb62;exact zq (zj<|zi<|za I (zg (n:=0) I k9)<|za I (zp 0 I I I k9 zm)<|zf I<|zF<|SN.block<|zj<|zi<|za I (Rd.add I I ⟨by omega,by omega⟩)<|zd I<|zF (fun aK wK hh=>hK0 (⟨i + 1,by omega,fun j hj b hb2=>(Nat.lt_succ_iff_lt_or_eq.1 hj).elim (fun h=>hp j h b hb2) (fun e=>by subst e;rw [hx] at hb2;rw [← Option.some.inj hb2];exact ⟨by omega,by omega,by omega,by omega,by omega,by omega,hft,by omega⟩)⟩) (by dsimp only;omega) aK wK<|hh.sub<|⟨⟨_,I,⟨lq I,⟨⟨_,I,zI (by rw [qc hx])⟩,⟨lq I,⟨lq I,⟨⟨_,I,zI s9⟩,t9⟩⟩⟩⟩⟩⟩,[],by decide,trivial⟩))
    ·have h19:¬(i:Int) < (bs.length:Int):=oF hb19;refine zQ ?_
     repeat (first | refine zX ?_ | refine zY d9 ?_)
     refine zZ (zj<|zn<|zf I<|ze<|zO (fn:=Tryz.f23) (fun _ _ h=>h)<|Rs.le (zG I<|zk I) ?_);exact yO (jH ⟨by omega,hv,fun j b hb2=>hp j (by have:=(Jg.1 hb2).1;omega) b hb2⟩).symm
end
section
def Tp.tot (k:Nat):List Tp.Bd→Int
 | []=>0
 | b :: r=>Tp.blA b.bl k + Tp.tot k r
theorem zaX {k:Nat}:∀ {l r:List Tp.Bd},Tp.tot k (l ++ r)=Tp.tot k l + Tp.tot k r
 | [],r=>by simp [Tp.tot]
 | p :: l,r=>by rw [List.cons_append,Tp.tot,Tp.tot,zaX];omega
theorem zdr {k i:Nat} {l:List Tp.Bd} {b:Tp.Bd} (h:l[i]? =some b):Tp.tot k (l.take<|i + 1)=Tp.tot k (l.take i) + Tp.blA b.bl k:=by
 rw [List.take_add_one,h,zaX];simp [Tp.tot]
theorem Tp.blA_bd {l:List Tp.Pr} {bl:List Int} (hv:jv l) (hf:Tp.Fits l bl) (k:Nat):0≤Tp.blA bl k∧Tp.blA bl k≤12:=by
 cases hn:bl[k]? with
 | none=>rw [Tp.blA,hn];exact ⟨Int.le_refl _,by decide⟩
 | some n=>
  have hk:k < l.length:=by have:=(Jg.1 hn).1;have:=hf.len;omega
  have hp:=Je hk;have h1:=hf.ok k _ n hp hn;have h2:=(hv k _ hp).ok.2.2.1;rw [Ym hn];omega
theorem Tp.VB.blA {l:List Tp.Pr} {bs:List Tp.Bd} (h:Tp.VB l bs) {b:Tp.Bd} (hb:b∈bs) (k:Nat):0≤Tp.blA b.bl k∧Tp.blA b.bl k≤12:=by
 obtain ⟨i,hi⟩:=List.getElem?_of_mem hb;exact Tp.blA_bd h.p (h.ok i b hi).fi k
theorem zcy {k:Nat}:∀ {bs:List Tp.Bd},(∀ b∈bs,0≤Tp.blA b.bl k∧Tp.blA b.bl k≤12)→0≤Tp.tot k bs∧Tp.tot k bs≤12 * (bs.length:Int)
 | [],_=>by simp [Tp.tot]
 | b :: r,h=>by
  have h1:=h b mC;have h2:=zcy fun c hc=>h c (Jl _ hc);rw [Tp.tot,Xm,Int.natCast_add];omega
theorem Tp.VB.tot {l:List Tp.Pr} {bs:List Tp.Bd} (h:Tp.VB l bs) (k i:Nat):0≤Tp.tot k (bs.take i)∧Tp.tot k (bs.take i)≤384:=by
 have h1:=zcy (k:=k) (bs:=bs.take i) fun b hb=>h.blA (List.mem_of_mem_take hb) k;have h2:=h.n
 have h3:(bs.take i).length≤bs.length:=by rw [JE];exact Nat.min_le_right _ _
 omega
theorem Tp.VB.bl {l:List Tp.Pr} {bs:List Tp.Bd} (h:Tp.VB l bs) {b:Tp.Bd} (hb:b∈bs):b.bl.length=l.length:=by
 obtain ⟨i,hi⟩:=List.getElem?_of_mem hb;exact (h.ok i b hi).fi.len
def Tp.suA (l:List Tp.Pr) (k:Nat):Int:=((l[k]?).map Tp.Pr.su).getD 0
theorem WV {l:List Tp.Pr} {i:Nat} {p:Tp.Pr} (h:l[i]? =some p):Tp.suA l i=p.su:=by rw [Tp.suA,h];rfl
def Tp.ex (l:List Tp.Pr) (T:Nat→Int) (k:Nat):Int:=max (T k - Tp.suA l k) 0
theorem rep_tbl {n:Nat}:List.replicate n (0:Int)=zB (fun _=>0) n:=by
 refine Xh fun i=> ?_
 by_cases h:i < n
 ·rw [List.getElem?_replicate_of_lt h,yU h]
 ·rw [JM (by simp;omega),JM (by rw [zW];omega)]
theorem We {f g:Nat→Int} {n:Nat} (h:∀ k < n,f k=g k):zB f n=zB g n:=by
 refine Xh fun i=> ?_
 by_cases hi:i < n
 ·rw [yU hi,yU hi,h i hi]
 ·rw [JM (by rw [zW];omega),JM (by rw [zW];omega)]
def Tp.tm (bs:List Tp.Bd) (x:Tp.Bd) (i j k:Nat):Int:=Tp.tot k (bs.take i) + if k < j then Tp.blA x.bl k else 0
theorem zfv {bs:List Tp.Bd} {x:Tp.Bd} {i:Nat}:(fun k=>Tp.tot k<|bs.take i)=Tp.tm bs x i 0:=funext fun k=>by rw [Tp.tm,Jb<|Nat.not_lt_zero _,Int.add_zero]
theorem Tp.tm_all {bs:List Tp.Bd} {x:Tp.Bd} {i j n:Nat} (hx:bs[i]? =some x) (hj:n≤j):zB (Tp.tm bs x i j) n=zB (fun k=>Tp.tot k<|bs.take<|i + 1) n:=We fun k hk=>by rw [Tp.tm,Jh o9,zdr hx]
theorem Tp.tm_set {bs:List Tp.Bd} {x:Tp.Bd} {i j n:Nat} {v:Int} (hj:j < n) (hv:x.bl[j]? =some v):(zB (Tp.tm bs x i j) n).set j (Tp.tm bs x i j j + v)=zB (Tp.tm bs x i<|j + 1) n:=
 Wd hj (by rw [Tp.tm,Tp.tm,Jh o9,Jb o9,Int.add_zero,Ym hv]) fun k _ hk=>by
  unfold Tp.tm
  by_cases h:k < j
  ·rw [Jh h,Jh o9]
  ·rw [Jb h,Jb o9]
theorem Tp.ex_set {l:List Tp.Pr} {T:Nat→Int} {j n:Nat} {q:Tp.Pr} (hj:j < n) (hq:l[j]? =some q):(zB (fun k=>if k < j then Tp.ex l T k else 0) n).set j (max (T j - q.su) 0)=zB (fun k=>if k < j + 1 then Tp.ex l T k else 0) n:=
 Wd hj (by show (if j < j + 1 then Tp.ex l T j else 0)=_;rw [Jh o9,Tp.ex,WV hq]) fun k _ hk=>by
  show (if k < j + 1 then _ else _)=if k < j then _ else _
  by_cases h:k < j
  ·rw [Jh h,Jh o9]
  ·rw [Jb h,Jb o9]
theorem con_total (l:List Tp.Pr) (bs:List Tp.Bd) (hl:l.length≤1000000) (hv:Tp.VB l bs):ConR Tryz.prog 116 [] [lsD yA l,lsD yK bs] (fun t:Wst=>[.r t.F<|yi 3 1 z7 t.A t.c<|zB (fun k=>Tp.tot k bs) l.length]) (fun t:Wst=>ZH [isD<|.slice t.A (zB (fun k=>Tp.tot k bs) l.length).length t.c,iD 0]):=by
 have hn:=hv.n;refine yt Tryz.func116 k9 I k9 fun base w0=>(zn<|zf I<|zf I<|ze<|zh<|zn<|zd I<|zd I<|zu (S:=[]) (yX [] (zcd l bs hl o9 (fun b hb=>by rw [hv.bl hb];exact hl)) I ⟨(zP<|zc _),(zP<|zc _),t9⟩ I)<|za I (yu I)<|ze<|zK I (by rw [jH hv];rfl)<|zq<|zj<|zn<|zd I<|za I (zT (e:=61) I k9) (SWl.e2 (S:=[]) (Zu (e:=3) (n:=l.length) z7 0 8 I I k9 k9 I I I I o9 d9 I) fun g17=>(zf I<|ze<|zh<|zn<|zd I<|za I (zT (e:=59) I k9)<|zd I<|ze<|SW.block<|yd (ι:={i:Nat // i≤bs.length}) (fun i=>yb [(0,lsD yA l),(6,isD<|.slice (some ⟨g17,0,none⟩) (zB (fun k=>Tp.tot k<|bs.take i.1) l.length).length l.length),(18,lsD yK bs),(19,iD (bs.length:Int)),(20,iD (i.1:Int))] [.r [g17]<|yi 3 1 z7 (some ⟨g17,0,none⟩) l.length<|zB (fun k=>Tp.tot k<|bs.take i.1) l.length]) (fun i=>bs.length - i.1) (⟨0,JC _⟩) ?_ ?_)))
 ·exact ⟨⟨_,I,⟨lq I,⟨⟨_,I,zI (by rw [zW])⟩,(sT I)⟩⟩⟩,[0],by decide,⟨⟨_,rfl,(by rw [rep_tbl];exact zM _)⟩,trivial⟩⟩
 ·rintro ⟨i,hi⟩ K0 hK0;dsimp only at hi ⊢;refine zn (za I (yc I I)<|ze<|zh<|zC I (fun hb21=> ?_) (fun hb21=> ?_))
  ·have h21:(i:Int) < (bs.length:Int):=oT hb21;refine zq (zj<|zh<|SW.block<|zh ?_);obtain ⟨x,hx⟩:∃ x,bs[i]? =some x:=⟨_,Je o9⟩;have hxl:=hv.bl (Jc hx);refine zi (za I (zU (e:=59) 4 I I k9 k9 o9 (by simpa using hx))<|za I (yn 4 I k9 d9 (show 4≤4 by decide) s9) (SWl.e2 (S:=[]) (Ef.alloc (zs:=[.int .i64 0,.int .i64 0,.int .i64 0,.slice none 0 0]) k9 I) fun g8=>(zu (S:=[_]) (zA 1 I I I k9 I<|m9 I)<|zN<|za I (zg (n:=3) I k9)<|za I (zp 1 I I I k9 zm)<|za I (zT (e:=3) I k9)<|zd I<|ze<|SW.block<|yd (ι:={j:Nat // j≤l.length}) (fun j=>yb [(0,lsD yA l),(6,isD<|.slice (some ⟨g17,0,none⟩) (zB (Tp.tm bs x i j.1) l.length).length l.length),(18,lsD yK bs),(19,iD (bs.length:Int)),(20,iD (i:Int)),(25,lsD z7 x.bl),(26,iD (l.length:Int)),(27,iD (j.1:Int))] [.r [g17]<|yi 3 1 z7 (some ⟨g17,0,none⟩) l.length<|zB (Tp.tm bs x i j.1) l.length]) (fun j=>l.length - j.1) (⟨0,JC _⟩) ?_ ?_)))
   ·exact ⟨⟨_,I,⟨lq I,⟨⟨_,I,zI (by simp only [zW])⟩,⟨lq I,⟨lq I,⟨lq I,⟨lq I,⟨⟨_,I,zI (by rw [hxl])⟩,⟨lq I,t9⟩⟩⟩⟩⟩⟩⟩⟩⟩,[0],by decide,⟨⟨_,rfl,(by rw [zfv (x:=x)];exact zM _)⟩,trivial⟩⟩
   ·rintro ⟨j,hj⟩ K1 hK1;dsimp only at hj ⊢;refine zn (za I (yc I I)<|ze<|zh<|zC I (fun hb28=> ?_) (fun hb28=> ?_))
    ·have h28:(j:Int) < (l.length:Int):=oT hb28;refine zq (zj<|zh<|SW.block<|zh ?_);obtain ⟨q,hq⟩:∃ q,x.bl[j]? =some q:=⟨_,Je o9⟩;have htb:=hv.tot j i;have hqb:=hv.blA (Jc hx) j;rw [Ym hq] at hqb
     have htm:0≤Tp.tm bs x i j j∧Tp.tm bs x i j j≤384:=by rw [Tp.tm,Jb o9,Int.add_zero];exact htb
     exact zi (zd I<|za I (zU (e:=3) 1 I I k9 k9 o9 (by simpa using hq))<|za I (zS I I k9 s9)<|zf I<|zf I<|ze<|zi<|zd I<|zd I<|za I (yf 0 1 I I I k9 k9 o9 (by rw [zW];omega))<|za I (yr 0 I I k9 (by rw [Int.toNat_natCast];exact yU o9) I zm)<|zd I<|za I (Rd.add I I ⟨by omega,by omega⟩)<|za I (yf 0 1 I I I k9 k9 o9 (by rw [zW];omega))<|zu (S:=_) (yM (v:=(Tp.tm bs x i j j + q)) 0 I I I I k9 (by rw [zW];omega) (fun _ h=>h))<|zF<|SN.block<|zj<|zi<|za I (Rd.add I I ⟨by omega,by omega⟩)<|zd I<|zF (fun aK wK hh=>hK1 (⟨j + 1,by omega⟩) (by dsimp only;omega) aK wK<|hh.sub<|⟨⟨_,I,⟨lq I,⟨⟨_,I,zI (by simp only [zW])⟩,⟨lq I,⟨lq I,⟨lq I,⟨lq I,⟨lq I,⟨⟨_,I,zI s9⟩,t9⟩⟩⟩⟩⟩⟩⟩⟩⟩,[0],by decide,⟨⟨_,rfl,(by dsimp only;rw [Int.toNat_natCast,Tp.tm_set o9 hq];exact zM _)⟩,trivial⟩⟩))
    ·have h28:¬(j:Int) < (l.length:Int):=oF hb28;refine zQ ?_
     repeat (first | refine zX ?_ | refine zY d9 ?_)
     exact zZ (SN.block<|zj<|zi<|za I (Rd.add I I ⟨by omega,by omega⟩)<|zd I<|zF (fun aK wK hh=>hK0 (⟨i + 1,by omega⟩) (by dsimp only;omega) aK wK<|hh.sub<|⟨⟨_,I,⟨lq I,⟨⟨_,I,zI (by simp only [zW])⟩,⟨lq I,⟨lq I,⟨⟨_,I,zI s9⟩,t9⟩⟩⟩⟩⟩⟩,[0],by decide,⟨⟨_,rfl,(by dsimp only;rw [← Tp.tm_all hx (show l.length≤j by omega)];exact zM _)⟩,trivial⟩⟩))
  ·have h21:¬(i:Int) < (bs.length:Int):=oF hb21;refine zQ ?_
   repeat (first | refine zX ?_ | refine zY d9 ?_)
   refine zZ (zj<|zn<|zd I<|zf I<|zf I<|ze<|zV (fn:=Tryz.f116) (⟨some ⟨g17,0,none⟩,l.length,[g17]⟩) [0] (fun _ _ h=>h) (Rs.le (Rs.two I (zk I)<|zk I) ?_) d9 ⟨⟨_,I,YL (by rw [zW,zW]) (by rw [show i=bs.length by omega,List.take_length])⟩,t9⟩);exact Zf ⟨zI (by simp only [zW]),zc _,t9⟩
theorem zfe (l:List Tp.Pr) (T:Nat→Int) (hl:l.length≤1000000) (hv:jv l) (hT:∀ k < l.length,0≤T k∧T k≤384):ConN Tryz.prog 75 [lsD yA l,lsD z7<|zB T l.length] (ZH [lsD z7<|zB (Tp.ex l T) l.length,iD 0]):=by
 refine YJ Tryz.func75 k9 I k9 fun base w0=>(zn<|zf I<|zf I<|ze<|zh<|zn<|zd I<|zu (S:=[]) (zv (zce l hl) I ⟨zc _,t9⟩ I)<|za I (yu I)<|zd I<|yI I I (by rw [Yl hv];rfl) I I (zH I)<|yI I I (by rw [Yl hv];rfl) I I (zT (e:=3) I k9)<|yI I I (by rw [Yl hv];rfl) I I (zH I)<|yI I I (by rw [Yl hv];rfl) I I (zT (e:=61) I k9)<|yI I I (by rw [Yl hv];rfl) I I (yv I I)<|za I (zw I (by rw [Yl hv];rfl) I)<|ze<|zK I (by simp [zW])<|zq<|zj<|zn<|zd I<|za I (zT (e:=61) I k9) (SWl.e2 (S:=[]) (Zu (e:=3) (n:=l.length) z7 0 8 I I k9 k9 I I I I o9 d9 I) fun g21=>(zf I<|ze<|zh<|zn<|zd I<|za I (zT (e:=3) I k9)<|zd I<|zF ?_)))
 refine zj (SW.block<|yd (ι:={i:Nat // i≤l.length}) (fun i=>yb [(0,lsD yA l),(6,isD<|.slice (some ⟨g21,0,none⟩) (zB (fun k=>if k < i.1 then Tp.ex l T k else 0) l.length).length l.length),(22,lsD z7<|zB T l.length),(23,iD (l.length:Int)),(24,iD (i.1:Int))] [.r [g21]<|yi 3 1 z7 (some ⟨g21,0,none⟩) l.length<|zB (fun k=>if k < i.1 then Tp.ex l T k else 0) l.length]) (fun i=>l.length - i.1) (⟨0,JC _⟩) ?_ ?_)
 ·exact ⟨⟨_,I,⟨lq I,⟨⟨_,I,zI (by rw [zW])⟩,⟨lq I,⟨⟨_,I,zI (by rw [zW])⟩,⟨lq I,t9⟩⟩⟩⟩⟩⟩,[0],by decide,⟨⟨_,rfl,(by rw [rep_tbl,We (f:=fun _=>0) (g:=fun k=>if k < 0 then Tp.ex l T k else 0) fun k hk=>(Jb<|Nat.not_lt_zero _).symm];exact zM _)⟩,trivial⟩⟩
 ·rintro ⟨i,hi⟩ K0 hK0;dsimp only at hi ⊢;refine zn (za I (yc I I)<|ze<|zh<|zC I (fun hb25=> ?_) (fun hb25=> ?_))
  ·have h25:(i:Int) < (l.length:Int):=oT hb25;refine zq (zj<|zh<|SW.block<|zh ?_);obtain ⟨q,hq⟩:∃ q,l[i]? =some q:=⟨_,Je o9⟩;have hTi:=hT i o9;have hpo:=(hv i q hq).ok.2.2.1;refine zi (zd I<|za I (zU (e:=3) 1 I I k9 k9 o9 (by rw [J7];exact yU o9))<|za I (zS I I k9 s9)<|zf I<|zf I<|ze<|zh<|zn<|zd I<|za I (yc I I)<|zd I<|yI I I (Jd o9) I I (zH I)<|yI I I (Jd o9) I I (yV I I)<|za I (zw I (Jd o9) I)<|ze<|zK I (Jd o9)<|zq<|zj<|zi<|zd I<|zd I<|zd I<|zd I<|zd I<|za I (zU (e:=61) 5 I I k9 k9 o9 (by simpa using hq))<|za I (yo (n:=2) I k9 (show 2 < 5 by decide))<|za I (zS I I k9 s9)<|za I (yG I I ⟨by omega,by omega⟩)<|za I (zaf I I)<|za I (yf 0 1 I I I k9 k9 o9 (by rw [zW];omega))<|zu (S:=_) (yM (v:=(max (T i - q.su) 0)) 0 I I I I k9 (by rw [zW];omega) (fun _ h=>h))<|zF<|SN.block<|zj<|zi<|za I (Rd.add I I ⟨by omega,by omega⟩) ?_)
   exact zd I (zF (fun aK wK hh=>hK0 (⟨i + 1,by omega⟩) (by dsimp only;omega) aK wK<|hh.sub<|⟨⟨_,I,⟨lq I,⟨⟨_,I,zI (by simp only [zW])⟩,⟨lq I,⟨lq I,⟨⟨_,I,zI s9⟩,t9⟩⟩⟩⟩⟩⟩,[0],by decide,⟨⟨_,rfl,(by dsimp only;rw [Int.toNat_natCast,Tp.ex_set o9 hq];exact zM _)⟩,trivial⟩⟩))
  ·have h25:¬(i:Int) < (l.length:Int):=oF hb25;refine zQ ?_
   repeat (first | refine zX ?_ | refine zY d9 ?_)
   refine zZ (zj<|zh<|SW.sub (σ':=yb [(6,isD<|.slice (some ⟨g21,0,none⟩) (zB (Tp.ex l T) l.length).length l.length)] [.r [g21]<|yi 3 1 z7 (some ⟨g21,0,none⟩) l.length<|zB (Tp.ex l T) l.length]) (⟨⟨_,I,⟨⟨_,I,zI (by simp only [zW])⟩,t9⟩⟩,[0],by decide,⟨⟨_,rfl,(by rw [We (f:=fun k=>if k < i then Tp.ex l T k else 0) (g:=Tp.ex l T) fun k hk=>Jh o9];exact zM _)⟩,trivial⟩⟩)<|zi<|zd I<|zf I<|zf I<|ze<|SW.freezeN 0 4 I I I (fun x=>show LeAll (z7 x) ((z7 x).map<|nwD _) from ⟨YH,t9⟩)<|zO (fn:=Tryz.f75) (fun _ _ h=>h)<|Rs.le (Rs.two I (zk I)<|zk I) ?_)
   exact zb2 ⟨zc _,YH,t9⟩
end
section
section
variable {Γ:Cx}{σ:St}
theorem sees_rw {js:LN} {n:Nat} {ds es:List D} (hlen:ds.length=es.length) (h:SeesAll Γ σ js ds es):Sees Γ σ js (rwD n ds) (rwD n es):=fun a w v L' hh ho ⟨A,c,hv,hc,ha⟩=>⟨A,c,hv,hc,fun h0=>by
 obtain ⟨g,o,e,hlt,hn,cs,hall,hcell⟩:=ha o9
 exact ⟨g,o,e,hlt,fun hm=>hn<|ho.1 g hm,cs,h.all hh ho hall,hcell⟩⟩
end
def encBr (p:Tp.Bd × Wst):List D:=[iD p.1.id,iD p.1.el,iD p.1.wv,isD<|.slice p.2.A p.1.bl.length p.2.c]
instance:Row encBr 4:=⟨fun _=>rfl,fun x=>by unfold encBr;infer_instance,by decide⟩
instance (c:Tp.Bd × Wst):Ones (encBr c):=by unfold encBr;infer_instance
theorem blsBd1 {b:Tp.Bd} {s:Wst}:Bls Tryz.prog 34 1 [0] [Z8 [iD b.id,iD b.el,iD b.wv,isD<|.slice s.A b.bl.length s.c]] ([(b,s)].flatMap encBr):=⟨59,fun L w vs hv=>by
 obtain ⟨u,rfl,hu⟩:=zcu hv;obtain ⟨cs,rfl,ha⟩:=hu;obtain ⟨p,q,r,z,rfl,rfl,rfl,rfl,rfl⟩:=all4 ha
 exact ⟨[.int .i64 b.id,.int .i64 b.el,.int .i64 b.wv,.slice s.A b.bl.length s.c],⟨I,I,I,I,t9⟩,fun w'=>by kernel_rfl⟩⟩
theorem Tp.VB.one {l:List Tp.Pr} {b:Tp.Bd} (hv:jv l) (hb:Tp.OkB l (-1) b):Tp.VB l [b]:=⟨by simp,hv,fun i c hc=>by
 cases i with
 | zero=>obtain rfl:=JN hc;exact hb
 | succ i=>simp at hc⟩
def jk (l:List Tp.Pr) (b:Tp.Bd) (p:Tp.Pr) (at_:Nat):Int:=min (p.su - Tp.blA b.bl at_) ((b.el - YO l b.bl) / p.un)
def Tp.keep (el wv u pc:Int):Int × Int:=if (el * pc + 99) / 100≤u then (el,wv) else if 0 < wv then (el,wv - 1) else (u * 100 / pc,0)
theorem zfy {el wv u pc:Int} (he:0≤el) (he2:el≤76800000) (hw:0≤wv) (hw2:wv≤3) (hu:0≤u) (hu2:u≤el) (h1:1≤pc) (h2:pc≤100):u≤(Tp.keep el wv u pc).1∧(Tp.keep el wv u pc).1≤76800000∧0≤(Tp.keep el wv u pc).2∧(Tp.keep el wv u pc).2≤3:=by
 unfold Tp.keep
 split
 ·exact ⟨hu2,he2,hw,hw2⟩
 ·rename_i hno
  split
  ·dsimp only;omega
  ·have h3:u * 100≤el * pc:=by omega
   have h4:u * pc≤u * 100:=Int.mul_le_mul_of_nonneg_left h2 hu;refine ⟨(Int.le_ediv_iff_mul_le o9).2 h4,?_,by dsimp only;omega,by dsimp only;omega⟩;have h5:u * 100 / pc≤el * pc / pc:=Int.ediv_le_ediv o9 h3;rw [Int.mul_ediv_cancel _ (by omega:pc≠0)] at h5;exact Int.le_trans h5 he2
theorem Tp.mul_pc {el pc:Int} (he:0≤el) (he2:el≤76800000) (h1:1≤pc) (h2:pc≤100):0≤el * pc∧el * pc≤7680000000:=by
 refine ⟨Int.mul_nonneg he o9,?_⟩;have:=Int.mul_le_mul he2 h2 o9 (by omega:(0:Int)≤76800000);omega
theorem zfx {l:List Tp.Pr} {b:Tp.Bd} {p:Tp.Pr} {k:Nat} (hu:1≤p.un):jk l b p k≤p.su - Tp.blA b.bl k∧(∀ n,n≤jk l b p k→YO l b.bl + n * p.un≤b.el):=by
 refine ⟨Int.min_le_left _ _,fun n hn=> ?_⟩;have h1:n≤(b.el - YO l b.bl) / p.un:=Int.le_trans hn (Int.min_le_right _ _);have h2:=(Int.le_ediv_iff_mul_le o9).1 h1;omega
theorem bldHo {x y z u:Int} {A:Option Addr} {n c:Nat}:Bld Tryz.prog 224 [0,1] [Z8 [iD x,iD y,iD z,isD<|.slice A n c],iD u] [iD x,iD y,iD z,isD<|.slice A n c,iD u]:=fun L w vs hv=>by
 obtain ⟨q,v,rfl,hu,rfl⟩:=zbB hv;obtain ⟨cs,rfl,ha⟩:=hu;obtain ⟨p,q,r,z,rfl,rfl,rfl,rfl,rfl⟩:=all4 ha;exact ⟨[.int .i64 x,.int .i64 y,.int .i64 z,.slice A n c,.int .i64 u],⟨I,I,I,I,I,t9⟩,fun w'=>by kernel_rfl⟩
theorem bldBd {x y z:Int} {l:List Int}:Bld Tryz.prog 59 [0,1,2,3] [iD x,iD y,iD z,lsD z7 l] [iD x,iD y,iD z,lsD z7 l]:=fun L w vs hv=>by
 obtain ⟨p,q,r,s,rfl,rfl,rfl,rfl,h4⟩:=all4 hv;have h5:=h4;obtain ⟨A,c,rfl,-,-⟩:=h5;exact ⟨[.int .i64 x,.int .i64 y,.int .i64 z,.slice A l.length c],⟨I,I,I,h4,t9⟩,fun w'=>by kernel_rfl⟩
section
variable {P:Program}{Γ:Cx}{σ:St}{Q:Exit→Act→World→Prop}
theorem KV {ops:Array Oper} {lo:List Oper} {α:Type} {enc:α→List D} {sz:Nat} [Row enc sz] (k:Nat) {l:List α} (hk:σ.tm k=some (lsD enc l)) (h:∀ A cp,(A=none→l=[])→SWl P Γ ops Q lo (σ.put k<|isD<|.slice A l.length cp)):SWl P Γ ops Q lo σ:=fun a w hh=>by
 obtain ⟨A,c,hv,hc,ha⟩:=hh.tm k _ hk;refine h A c (fun hA=> ?_) a w (hh.learn hv)
 cases l with
 | nil=>rfl
 | cons x l=>
  obtain ⟨g,o,e,_⟩:=ha (by rw [jh (enc:=enc) (sz:=sz)];exact Nat.mul_pos s9<|Row.pos (enc:=enc));rw [hA] at e
  cases e
end
theorem Vg (xs:List Int) (hl:xs.length≤1000000):ConN Tryz.prog 29 [lsD z7 xs] (lsD z7 xs):=by
 refine YJ Tryz.func29 k9 I k9 fun base w0=>(zn<|zf I<|ze<|zh<|zn<|zd I (KV 3 I fun A c hnil=>(za I (zcL (e:=3) I I k9)<|ze<|zC I (fun hb4=> ?_) (fun hb4=> ?_))))
 ·have hz:xs=[]:=hnil (by simpa using hb4);refine zn (zf I<|ze<|zO (fn:=Tryz.f29) (fun _ _ h=>h)<|Rs.le (zG I<|zk I) ?_);subst hz;exact Le.trans (YH (x:= .slice none 0 0)) (Vb (Js _) ZD)
 ·skip
  refine zq (zj<|zn (SWl.e2 (S:=[]) (zah (e:=3) z7 1 8 k9 k9 I) fun g5=>(zd I (SWl.e4 (YW 0 1 8 I I (Y4 I) k9 k9 (by simp <;> omega) d9 (fun _ h=>h) I) fun A7 F7 c7=>(zf I<|ze<|SW.freezeN 0 2 I I I (fun x=>show LeAll (z7 x) ((z7 x).map<|nwD _) from ⟨YH,t9⟩)<|zO (fn:=Tryz.f29) (fun _ _ h=>h)<|Rs.le (zG I<|zk I) ?_)))))
  exact zc _
theorem Kj (xs:List Int) (hl:xs.length≤1000000):ConR Tryz.prog 29 [] [lsD z7 xs] (fun t:Wst=>[.r t.F<|yi 3 1 z7 t.A t.c<|xs]) (fun t:Wst=>isD<|.slice t.A xs.length t.c):=by
 refine yt Tryz.func29 k9 I k9 fun base w0=>(zn<|zf I<|ze<|zh<|zn<|zd I (KV 3 I fun A c hnil=>(za I (zcL (e:=3) I I k9)<|ze<|zC I (fun hb4=> ?_) (fun hb4=> ?_))))
 ·have hz:xs=[]:=hnil (by simpa using hb4);refine zh (Y5 3 1 z7<|zi<|zf I<|ze<|zV (fn:=Tryz.f29) (⟨none,0,[]⟩) [0] (fun _ _ h=>h) (Rs.le (zG I<|zk I) ?_) d9 ⟨⟨_,I,YL (by rw [hz]) (by rw [hz])⟩,t9⟩);exact zI (by rw [hz];rfl)
 ·skip
  refine zq (zj<|zn (SWl.e2 (S:=[]) (zah (e:=3) z7 1 8 k9 k9 I) fun g5=>(zd I (SWl.e4 (YW 0 1 8 I I (Y4 I) k9 k9 (by simp <;> omega) d9 (fun _ h=>h) I) fun A7 F7 c7=>(zf I<|ze<|zV (fn:=Tryz.f29) (⟨A7,c7,F7⟩) [0] (fun _ _ h=>h) (Rs.le (zG I<|zk I) ?_) d9 ⟨lR I,t9⟩)))))
  exact zc _
theorem con_vD (l:List Tp.Pr) (bl:List Int) (hl:l.length≤1000000) (hb:bl.length≤1000000) (hv:jv l):ConN Tryz.prog 175 [lsD yA l,lsD z7 bl] (yL<|YZ l bl):=by
 refine YJ Tryz.func175 k9 I k9 fun base w0=>(zn<|zf I<|zN<|zd I<|zu (S:=[]) (zv (zce l hl) I ⟨zc _,t9⟩ I)<|zd I<|zJ (Yl hv) (zH I)<|zJ (Yl hv) (zH I)<|yN (S:=[]) I I (Yl hv) I (yX [] (zei l bl hl hb) I ⟨(zP<|zc _),(zP<|zc _),t9⟩ I) ?_);rintro _ rfl;refine za I (zE I (Yl hv) I) (zf I<|ze<|zO (fn:=Tryz.f175) (fun _ _ h=>h)<|Rs.le (zG I<|zk I) ?_);exact yO I
theorem zfn (l:List Tp.Pr) (bl:List Int) (hl:l.length≤1000000) (hv:jv l) (hf:Tp.Fits l bl):ConN Tryz.prog 155 [lsD yA l,lsD z7 bl] (ZH [iD<|YO l bl,iD 0]):=by
 have hlen:=hf.len;refine YJ Tryz.func155 k9 I k9 fun base w0=>(zn<|zf I<|zf I<|ze<|zh<|zn<|zd I<|zd I<|zu (S:=[]) (yX [] (con_vD l bl hl o9 hv) I ⟨(zP<|zc _),(zP<|zc _),t9⟩ I)<|za I (yu I)<|ze<|zK I (by rw [zcB hf];rfl)<|zq<|zj<|zn<|zd I<|zd I<|zu (S:=[]) (yX [] (zaK l bl hl hv hf) I ⟨(zP<|zc _),(zP<|zc _),t9⟩ I)<|zf I<|zf I<|ze<|zO (fn:=Tryz.f155) (fun _ _ h=>h)<|Rs.le (Rs.two I (zk I)<|zk I) ?_);exact zb2 ⟨YH,YH,t9⟩
theorem zeh (l:List Tp.Pr) (b:Tp.Bd) (F:LN) (A:Option Addr) (c:Nat) (hl:l.length≤1000000) (hv:jv l) (hb:Tp.OkB l (-1) b):ConR Tryz.prog 128 [.r F<|yi 3 1 z7 A c b.bl] [lsD yA l,Z8 [iD b.id,iD b.el,iD b.wv,isD<|.slice A b.bl.length c]] (fun _:Unit=>[.r F<|yi 3 1 z7 A c b.bl]) (fun _:Unit=>ZH [Z8 [iD b.id,iD b.el,iD b.wv,isD<|.slice A b.bl.length c,iD<|YO l b.bl],yL true]):=by
 have hlen:=hb.fi.len;refine yt Tryz.func128 k9 I k9 fun base w0=>(zn (SWl.e2 (S:=[]) (ym I I) fun g3=>(SWl.e2 (S:=[]) (Ef.alloc (zs:=[.int .i64 0,.int .i64 0,.int .i64 0,.slice none 0 0,.int .i64 0]) k9 I) fun g4=>(zf I<|ze<|zh<|zn<|zd I<|za I (zx 1 4 I I k9 I zm)<|zu (S:=[]) (YB I I (blsBd1 (b:=b) (s:=⟨A,c,[]⟩)) I)<|zu (S:=[]) (yX [0] (zcd l [b] hl s9 (fun x hx=>by rw [Ja.1 hx];omega)) I ⟨(zP<|zc _),(sees_rw I ⟨zP<|zc _,zP<|zc _,zP<|zc _,KB 0 I d9,t9⟩),t9⟩ I)<|za I (yu I)<|ze<|zK I (by rw [jH<|Tp.VB.one hv hb];rfl)<|zq<|zj<|zn<|zd I<|za I (zg (n:=3) I k9)<|za I (zp 1 I I I k9 zm)<|zu (S:=[]) (yX [0] (zfn l b.bl hl hv hb.fi) I ⟨(zP<|zc _),(KB 0 I d9),t9⟩ I)<|zd I<|za I (zo I I)<|za I (zo I I)<|zf I<|zf I<|zN<|za I (zx 1 4 I I k9 I zm)<|zd I<|za I (yF I I bldHo)<|zd I ?_))));refine za I (Zr I I) (zu (S:=[_]) (zA 2 I I I k9 I<|m9 I)<|zf I<|ze<|zV (fn:=Tryz.f128) (()) [0] (fun _ _ h=>h) (Rs.le (Rs.two I (yx 2 I I k9)<|zk I) ?_) d9 ⟨lR I,t9⟩)
 exact zc _
