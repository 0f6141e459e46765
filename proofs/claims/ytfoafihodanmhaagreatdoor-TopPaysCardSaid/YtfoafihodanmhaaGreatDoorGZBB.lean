/- TOP: numbers compared. TOP: products: areas and impairments. TOP: valid catalogues. -/
import Derived.Test.YtfoafihodanmhaaGreatDoorGZBA
set_option maxHeartbeats 8000000
set_option maxRecDepth 100000
namespace Go.Proofs.YtfoafihodanmhaaGreatDoor
open Go.RowKit
namespace Sx
section
structure Tp.Ar where
 id:Int
 pe:Int
structure Tp.Im where
 ar:Int
 bk:Int
 pc:Int
structure Tp.Pr where
 ar:Int
 ca:Int
 su:Int
 un:Int
 re:Int
structure Tp.Bd where
 id:Int
 el:Int
 wv:Int
 bl:List Int
def YN (a:Tp.Ar):List D:=[iD a.id,iD a.pe]
instance:Row YN 2:=⟨fun _=>rfl,fun x=>by unfold YN;infer_instance,by decide⟩
instance (c:Tp.Ar):Ones (YN c):=by unfold YN;infer_instance
def YM (a:Tp.Im):List D:=[iD a.ar,iD a.bk,iD a.pc]
instance:Row YM 3:=⟨fun _=>rfl,fun x=>by unfold YM;infer_instance,by decide⟩
instance (c:Tp.Im):Ones (YM c):=by unfold YM;infer_instance
def yA (p:Tp.Pr):List D:=[iD p.ar,iD p.ca,iD p.su,iD p.un,iD p.re]
instance:Row yA 5:=⟨fun _=>rfl,fun x=>by unfold yA;infer_instance,by decide⟩
instance (c:Tp.Pr):Ones (yA c):=by unfold yA;infer_instance
def yK (b:Tp.Bd):List D:=[iD b.id,iD b.el,iD b.wv,lsD z7 b.bl]
instance:Row yK 4:=⟨fun _=>rfl,fun x=>by unfold yK;infer_instance,by decide⟩
instance (c:Tp.Bd):Ones (yK c):=by unfold yK;infer_instance
def VQ (x y:Int):Int:=if x < y then -1 else if y < x then 1 else 0
def qA:List Int→Int
 | []=>0
 | x :: r=>if x=0 then qA r else x
theorem WY {xs:List Int} {i:Nat} {x:Int} (h:xs[i]? =some x):qA (xs.drop i)=if x=0 then qA (xs.drop<|i + 1) else x:=by
 rw [List.drop_eq_getElem_cons (Jg.1 h).1,(Jg.1 h).2,qA]
theorem blsCi2 {x y:Int}:Bls Tryz.prog 22 2 [0,1] [iD x,iD y] ([x,y].flatMap z7):=⟨3,fun L w vs hv=>by
 obtain ⟨u,v,rfl,rfl,rfl⟩:=zbB hv
 exact ⟨[.int .i64 x,.int .i64 y],⟨I,I,t9⟩,fun w'=>by kernel_rfl⟩⟩
def qH (a:Tp.Ar):Prop:=(0≤a.id∧a.id≤63)∧0≤a.pe∧a.pe≤4096000000
instance (a:Tp.Ar):Decidable (qH a):=by unfold qH;infer_instance
def qo (a:Tp.Im):Prop:=((0≤a.ar∧a.ar≤63)∧0≤a.bk∧a.bk≤11)∧0≤a.pc∧a.pc≤100
instance (a:Tp.Im):Decidable (qo a):=by unfold qo;infer_instance
theorem KE {a b:Prop} [Decidable a] [Decidable b] (ha:a):Le (yL<|decide b) (yL<|decide (a∧b)):=zI (by simp [ha])
theorem qx {a b:Prop} [Decidable a] [Decidable b] (ha:¬a):Le (yL false) (yL<|decide (a∧b)):=zI (by simp [ha])
theorem zcV {α:Type} {l:List α} {i:Nat} {x:α} (h:l[i]? =some x) (_h0:0 < i):∃ y,l[i - 1]? =some y:=⟨_,Je (by have:=(Jg.1 h).1;omega)⟩
theorem zds {p:Prop} [Decidable p] (h:(!decide p)=true):¬p:=fun hp=>by rw [Jo hp] at h;cases h
theorem Kn {p:Prop} [Decidable p] (h:(!decide p)=false):p:=Decidable.byContradiction fun hp=>by rw [Jd hp] at h;cases h
theorem qp {b:Bool} (h:(!b)=false):b=true:=by cases b;cases h;rfl
theorem Tp.nb_t {b:Bool} (h:(!b)=true):b=false:=by cases b;rfl;cases h
theorem Zy (n a b:Int):Con Tryz.prog 18 [iD n,iD a,iD b] (yL<|decide (a≤n∧n≤b)):=by
 refine yy Tryz.func18 k9 I k9 fun base w0=>(zn<|zf I<|zN<|zd I<|zd I<|za I (Zn I I)<|zd I<|z1 10 I (fun hb10=> ?_) (fun hb10=> ?_))
 ·have h10:a≤n:=oT hb10;refine zJ hb10 (zH I) (zJ hb10 (zH I)<|zJ hb10 (Zn I I)<|za I (zE I hb10 I)<|zf I<|ze<|zO (fn:=Tryz.f18) (fun _ _ h=>h)<|Rs.le (zG I<|zk I) ?_);exact KE h10
 ·have h10:¬a≤n:=oF hb10;refine zt hb10 (zt hb10<|zt hb10<|za I (zw I hb10 I)<|zf I<|ze<|zO (fn:=Tryz.f18) (fun _ _ h=>h)<|Rs.le (zG I<|zk I) ?_);exact qx h10
theorem ql (n a b:Int):Con Tryz.prog 153 [iD n,iD a,iD b] (yL<|decide (a≤n∧n≤b)):=by
 refine yy Tryz.func153 k9 I k9 fun base w0=>(zn<|zf I<|zN<|zd I<|zd I<|za I (Zn I I)<|zd I<|z1 10 I (fun hb10=> ?_) (fun hb10=> ?_))
 ·have h10:a≤n:=oT hb10;refine zJ hb10 (zH I) (zJ hb10 (zH I)<|zJ hb10 (Zn I I)<|za I (zE I hb10 I)<|zf I<|ze<|zO (fn:=Tryz.f153) (fun _ _ h=>h)<|Rs.le (zG I<|zk I) ?_);exact KE h10
 ·have h10:¬a≤n:=oF hb10;refine zt hb10 (zt hb10<|zt hb10<|za I (zw I hb10 I)<|zf I<|ze<|zO (fn:=Tryz.f153) (fun _ _ h=>h)<|Rs.le (zG I<|zk I) ?_);exact qx h10
theorem con_nan (n:Int):Con Tryz.prog 115 [iD n] (yL false):=by
 refine yy Tryz.func115 k9 I k9 fun base w0=>(zn<|zf I<|zN<|zd I<|zd I<|za I (yv I I)<|zf I<|ze<|zO (fn:=Tryz.f115) (fun _ _ h=>h)<|Rs.le (zG I<|zk I) ?_);exact zI s9
theorem KO (x y:Int):Con Tryz.prog 61 [iD x,iD y] (iD<|VQ x y):=by
 refine yy Tryz.func61 k9 I k9 fun base w0=>(zn<|zf I<|zN<|zd I<|zu (S:=[]) (zv (con_nan x) I ⟨zc _,t9⟩ I)<|zf I<|zN<|zd I<|zu (S:=[]) (zv (con_nan y) I ⟨zc _,t9⟩ I)<|zf I<|ze<|zh<|zn<|zd I<|ze<|zK I I<|zq<|zj<|zh<|zn<|zd I<|ze<|zK I I<|zq<|zj<|zh<|zh ?_);refine zi (zd I<|zd I<|za I (yc I I)<|ze<|zC I (fun hb16=> ?_) (fun hb16=> ?_))
 ·have h16:x < y:=oT hb16;refine zn (zf I<|ze<|zO (fn:=Tryz.f61) (fun _ _ h=>h)<|Rs.le (zG I<|zk I) ?_);exact zI (by rw [VQ,Jh h16])
 ·have h16:¬x < y:=oF hb16;refine zq (zj<|zh<|zn<|zd I<|zd I<|za I (yV I I)<|ze<|zC I (fun hb19=> ?_) (fun hb19=> ?_))
  ·have h19:x > y:=oT hb19;refine zn (zf I<|ze<|zO (fn:=Tryz.f61) (fun _ _ h=>h)<|Rs.le (zG I<|zk I) ?_);exact zI (by rw [VQ,Jb h16,Jh h19])
  ·have h19:¬x > y:=oF hb19;refine zq (zj<|zn<|zf I<|ze<|zO (fn:=Tryz.f61) (fun _ _ h=>h)<|Rs.le (zG I<|zk I) ?_);exact zI (by rw [VQ,Jb h16,Jb h19])
theorem zdd (xs:List Int) (hl:xs.length≤1000000):Con Tryz.prog 65 [lsD z7 xs] (iD<|qA xs):=by
 refine yy Tryz.func65 k9 I k9 fun base w0=>(zn<|zf I<|zN<|zf I<|ze<|zh<|zn<|zd I<|za I (zT (e:=3) I k9)<|zd I<|ze<|SW.block<|yd (ι:={i:Nat // i≤xs.length∧qA xs=qA (xs.drop i)}) (fun i=>yb [(3,iD 0),(6,lsD z7 xs),(7,iD (xs.length:Int)),(8,iD (i.1:Int))] []) (fun i=>xs.length - i.1) (⟨0,JC _,I⟩) ?_ ?_)
 ·exact (sB [] I I)
 ·rintro ⟨i,hi,hp⟩ K0 hK0;dsimp only at hi hp ⊢;refine zn (za I (yc I I)<|ze<|zh<|zC I (fun hb9=> ?_) (fun hb9=> ?_))
  ·have h9:(i:Int) < (xs.length:Int):=oT hb9;refine zq (zj<|zh<|SW.block<|zh ?_);obtain ⟨x,hx⟩:∃ x,xs[i]? =some x:=⟨_,Je o9⟩;refine zi (za I (zU (e:=3) 1 I I k9 k9 o9 (by simpa using hx))<|za I (zS I I k9 s9)<|zf I<|zN<|zd I<|zd I<|za I (yv I I)<|ze<|zC I (fun hb14=> ?_) (fun hb14=> ?_))
   ·have h14:x≠0:=by simpa using hb14
    refine zn (zd I<|zf I<|ze<|zO (fn:=Tryz.f65) (fun _ _ h=>h)<|Rs.le (zG I<|zk I) ?_);exact zI (by rw [hp,WY hx,Jb h14])
   ·have h14:x=0:=by simpa using hb14
    exact zq (SN.block<|zj<|zi<|za I (Rd.add I I ⟨by omega,by omega⟩)<|zd I<|zF (fun aK wK hh=>hK0 (⟨i + 1,by omega,by rw [hp,WY hx,if_pos h14]⟩) (by dsimp only;omega) aK wK<|hh.sub<|⟨⟨_,I,⟨lq I,⟨lq I,⟨lq I,⟨⟨_,I,zI s9⟩,t9⟩⟩⟩⟩⟩,[],by decide,trivial⟩))
  ·have h9:¬(i:Int) < (xs.length:Int):=oF hb9;refine zQ ?_
   repeat (first | refine zX ?_ | refine zY d9 ?_)
   refine zZ (zj<|zn<|zd I<|zf I<|ze<|zO (fn:=Tryz.f65) (fun _ _ h=>h)<|Rs.le (zG I<|zk I) ?_);exact zI (by rw [hp,JZ o9];rfl)
end
section
def Tp.cP (a b c d:Int):Int:=qA [VQ a b,VQ c d]
theorem zcD {a b c d:Int}:Tp.cP a b c d≥0↔¬(a < b∨a=b∧c < d):=by
 unfold Tp.cP VQ
 by_cases h1:a < b
 ·simp [qA,h1]
 ·by_cases h2:b < a
  ·simp [qA,h1,h2];omega
  ·by_cases h3:c < d
   ·simp [qA,h1,h2,h3];omega
   ·by_cases h4:d < c
    ·simp [qA,h1,h2,h3,h4]
    ·simp [qA,h1,h2,h3,h4]
def Tp.cat (p:Int):Int:=if p≤15 then 1 else if p≤50 then 2 else 0
theorem Tp.cat_bd (p:Int):0≤Tp.cat p∧Tp.cat p≤2:=by unfold Tp.cat;split <;> (try split) <;> omega
theorem con_arV (x:Tp.Ar):Con Tryz.prog 59 [Z8 [iD x.id,iD x.pe]] (yL<|decide (qH x)):=by
 refine yy Tryz.func59 k9 I k9 fun base w0=>(zn (SWl.e2 (S:=[]) (ym I I) fun g1=>(zf I<|zN<|za I (zg (n:=0) I k9)<|za I (zp 0 I I I k9 zm)<|zu (S:=[]) (zv (Zy (x.id) 0 63) I ⟨zc _,zc _,zc _,t9⟩ I)<|zd I<|z1 6 I (fun hb6=> ?_) (fun hb6=> ?_))))
 ·have h6:0≤x.id∧x.id≤63:=oT hb6;refine zJ hb6 (zg (n:=1) I k9) (zJ hb6 (zp 0 I I I k9 zm)<|yN (S:=[]) I I hb6 I (zv (Zy (x.pe) 0 4096000000) I ⟨zc _,zc _,zc _,t9⟩ I) ?_);rintro _ rfl;refine za I (zE I hb6 I) (zf I<|ze<|zO (fn:=Tryz.f59) (fun _ _ h=>h)<|Rs.le (zG I<|zk I) ?_);exact KE h6
 ·have h6:¬(0≤x.id∧x.id≤63):=oF hb6;refine zt hb6 (zt hb6<|zt hb6<|za I (zw I hb6 I)<|zf I<|ze<|zO (fn:=Tryz.f59) (fun _ _ h=>h)<|Rs.le (zG I<|zk I) ?_);exact qx h6
theorem con_arC (x y:Tp.Ar):Con Tryz.prog 60 [Z8 [iD x.id,iD x.pe],Z8 [iD y.id,iD y.pe]] (iD<|VQ x.id y.id):=by
 refine yy Tryz.func60 k9 I k9 fun base w0=>(zn (SWl.e2 (S:=[]) (ym I I) fun g2=>(SWl.e2 (S:=[]) (ym I I) fun g3=>(zf I<|zN<|za I (zg (n:=0) I k9)<|za I (zp 0 I I I k9 zm)<|za I (zg (n:=0) I k9)<|za I (zp 1 I I I k9 zm)<|zu (S:=[]) (zv (KO x.id y.id) I ⟨zc _,zc _,t9⟩ I)<|zf I<|ze<|zO (fn:=Tryz.f60) (fun _ _ h=>h)<|Rs.le (zG I<|zk I) ?_))));exact zc _
theorem con_imV (x:Tp.Im):Con Tryz.prog 63 [Z8 [iD x.ar,iD x.bk,iD x.pc]] (yL<|decide (qo x)):=by
 refine yy Tryz.func63 k9 I k9 fun base w0=>(zn (SWl.e2 (S:=[]) (ym I I) fun g1=>(zf I<|zN<|za I (zg (n:=0) I k9)<|za I (zp 0 I I I k9 zm)<|zu (S:=[]) (zv (Zy (x.ar) 0 63) I ⟨zc _,zc _,zc _,t9⟩ I)<|zd I<|z1 6 I (fun hb6=> ?_) (fun hb6=> ?_))))
 ·have h6:0≤x.ar∧x.ar≤63:=oT hb6;refine zJ hb6 (zg (n:=1) I k9) (zJ hb6 (zp 0 I I I k9 zm)<|yN (S:=[]) I I hb6 I (zv (Zy (x.bk) 0 11) I ⟨zc _,zc _,zc _,t9⟩ I) ?_);rintro _ rfl;refine za I (zE I hb6 I) (zd I<|z1 11 I (fun hb11=> ?_) (fun hb11=> ?_))
  ·have h11:0≤x.bk∧x.bk≤11:=oT hb11;refine zJ hb11 (zg (n:=2) I k9) (zJ hb11 (zp 0 I I I k9 zm)<|yN (S:=[]) I I hb11 I (zv (Zy (x.pc) 0 100) I ⟨zc _,zc _,zc _,t9⟩ I) ?_);rintro _ rfl;refine za I (zE I hb11 I) (zf I<|ze<|zO (fn:=Tryz.f63) (fun _ _ h=>h)<|Rs.le (zG I<|zk I) ?_);exact KE ⟨h6,h11⟩
  ·have h11:¬(0≤x.bk∧x.bk≤11):=oF hb11;refine zt hb11 (zt hb11<|zt hb11<|za I (zw I hb11 I)<|zf I<|ze<|zO (fn:=Tryz.f63) (fun _ _ h=>h)<|Rs.le (zG I<|zk I) ?_);exact qx fun h=>h11 h.2
 ·have h6:¬(0≤x.ar∧x.ar≤63):=oF hb6;refine zt hb6 (zt hb6<|zt hb6<|za I (zw I hb6 I)<|zd I<|zt I<|zt I<|zt I<|za I (zw I I I)<|zf I<|ze<|zO (fn:=Tryz.f63) (fun _ _ h=>h)<|Rs.le (zG I<|zk I) ?_);exact qx fun h=>h6 h.1
theorem con_imC (x y:Tp.Im):Con Tryz.prog 64 [Z8 [iD x.ar,iD x.bk,iD x.pc],Z8 [iD y.ar,iD y.bk,iD y.pc]] (iD<|Tp.cP x.ar y.ar x.bk y.bk):=by
 refine yy Tryz.func64 k9 I k9 fun base w0=>(zn (SWl.e2 (S:=[]) (ym I I) fun g2=>(SWl.e2 (S:=[]) (ym I I) fun g3=>(zf I<|ze<|zh<|yl [] (rr [0,1,2,3,5,6,7,8]<|.n 4 (.n 9 (.n 10 (.n 11 (.r 12 .fin) .no) .no) .no) .no) k9 k9 (fun d _ _ _ _ h=>by cases d <;> exact h)<|zl I I (zg (n:=0) I k9)<|zl I I (zp 0 I I I k9 zm)<|zl I I (zg (n:=0) I k9)<|zl I I (zp 1 I I I k9 zm)<|zl I I (zg (n:=1) I k9)<|zl I I (zp 0 I I I k9 zm)<|zl I I (zg (n:=1) I k9)<|zl I I (zp 1 I I I k9 zm)<|yZ I (zv (KO x.ar y.ar) I ⟨zc _,zc _,t9⟩ I)<|yZ I (zv (KO x.bk y.bk) I ⟨zc _,zc _,t9⟩ I)<|yZ I (YB I I blsCi2 I)<|yZ I (zv (zdd [VQ x.ar y.ar,VQ x.bk y.bk] s9) I ⟨zc _,t9⟩ I)<|yR I I<|yE<|zO (fn:=Tryz.f64) (fun _ _ h=>h)<|Rs.le (zG I<|zk I) ?_))))
 exact zc _
theorem con_prC (x y:Tp.Pr):Con Tryz.prog 70 [Z8 [iD x.ar,iD x.ca,iD x.su,iD x.un,iD x.re],Z8 [iD y.ar,iD y.ca,iD y.su,iD y.un,iD y.re]] (iD<|Tp.cP x.ar y.ar x.ca y.ca):=by
 refine yy Tryz.func70 k9 I k9 fun base w0=>(zn (SWl.e2 (S:=[]) (ym I I) fun g2=>(SWl.e2 (S:=[]) (ym I I) fun g3=>(zf I<|ze<|zh<|yl [] (rr [0,1,2,3,5,6,7,8]<|.n 4 (.n 9 (.n 10 (.n 11 (.r 12 .fin) .no) .no) .no) .no) k9 k9 (fun d _ _ _ _ h=>by cases d <;> exact h)<|zl I I (zg (n:=0) I k9)<|zl I I (zp 0 I I I k9 zm)<|zl I I (zg (n:=0) I k9)<|zl I I (zp 1 I I I k9 zm)<|zl I I (zg (n:=1) I k9)<|zl I I (zp 0 I I I k9 zm)<|zl I I (zg (n:=1) I k9)<|zl I I (zp 1 I I I k9 zm)<|yZ I (zv (KO x.ar y.ar) I ⟨zc _,zc _,t9⟩ I)<|yZ I (zv (KO x.ca y.ca) I ⟨zc _,zc _,t9⟩ I)<|yZ I (YB I I blsCi2 I)<|yZ I (zv (zdd [VQ x.ar y.ar,VQ x.ca y.ca] s9) I ⟨zc _,t9⟩ I)<|yR I I<|yE<|zO (fn:=Tryz.f70) (fun _ _ h=>h)<|Rs.le (zG I<|zk I) ?_))))
 exact zc _
theorem con_cat (p:Int) (h:0≤p∧p≤100):Con Tryz.prog 67 [iD p] (ZH [iD<|Tp.cat p,iD 0]):=by
 refine yy Tryz.func67 k9 I k9 fun base w0=>(zn<|zf I<|zf I<|ze<|zh<|SW.block<|zn<|zd I<|zu (S:=[]) (zv (Zy (p) 0 100) I ⟨zc _,zc _,zc _,t9⟩ I)<|za I (yu I)<|zf I<|ze<|zK I (by simp [h])<|zn<|zd I<|za I (Zn I I)<|zf I<|ze<|zC I (fun hb8=> ?_) (fun hb8=> ?_))
 ·have h8:p≤15:=oT hb8;refine zn (zf I<|zf I<|ze<|zO (fn:=Tryz.f67) (fun _ _ h=>h)<|Rs.le (Rs.two I (zk I)<|zk I) ?_);exact Zf ⟨zI (by rw [Tp.cat,Jh h8]),zc _,t9⟩
 ·have h8:¬p≤15:=oF hb8;refine zn (zd I<|za I (Zn I I)<|zf I<|ze<|zC I (fun hb11=> ?_) (fun hb11=> ?_))
  ·have h11:p≤50:=oT hb11;refine zn (zf I<|zf I<|ze<|zO (fn:=Tryz.f67) (fun _ _ h=>h)<|Rs.le (Rs.two I (zk I)<|zk I) ?_);exact Zf ⟨zI (by rw [Tp.cat,Jb h8,Jh h11]),zc _,t9⟩
  ·have h11:¬p≤50:=oF hb11;refine zq (SN.block<|zj<|zn<|zf I<|zf I<|ze<|zO (fn:=Tryz.f67) (fun _ _ h=>h)<|Rs.le (Rs.two I (zk I)<|zk I) ?_);exact Zf ⟨zI (by rw [Tp.cat,Jb h8,Jb h11]),zc _,t9⟩
theorem ze6 (p:Int) (h:0≤p∧p≤4096000000):Con Tryz.prog 21 [iD p] (ZH [iD<|1 + p / 50000,iD 0]):=by
 refine yy Tryz.func21 k9 I k9 fun base w0=>(zn<|zf I<|zf I<|ze<|zh<|zn<|zd I<|zu (S:=[]) (zv (Zy (p) 0 4096000000) I ⟨zc _,zc _,zc _,t9⟩ I)<|za I (yu I)<|ze<|zK I (by simp [h])<|zq<|zj<|zn<|zd I<|za I (Kq I I ⟨by omega,by omega,by decide⟩)<|za I (Rd.add I I ⟨by omega,by omega⟩)<|zf I<|zf I<|ze<|zO (fn:=Tryz.f21) (fun _ _ h=>h)<|Rs.le (Rs.two I (zk I)<|zk I) ?_)
 exact Zf ⟨zI (by first | rfl | (congr 1;omega)),zc _,t9⟩
theorem con_ordA (l:List Tp.Ar) (hl:l.length≤1000000):ConR Tryz.prog 58 [] [lsD YN l,isD<|.func (.func 59) #[] #[],isD<|.func (.func 60) #[] #[]] (fun t:{b:Bool // b=true→∀ x∈l,qH x}=>[]) (fun t:{b:Bool // b=true→∀ x∈l,qH x}=>yL t.1):=by
 refine yt Tryz.func58 k9 I k9 fun base w0=>(zn<|zf I<|ze<|zh<|zn<|zd I<|za I (zT (e:=64) I k9)<|zd I<|ze<|SW.block<|yd (ι:={i:Nat // i≤l.length∧∀ j < i,∀ x,l[j]? =some x→qH x}) (fun i=>yb [(0,lsD YN l),(1,isD<|.func (.func 59) #[] #[]),(2,isD<|.func (.func 60) #[] #[]),(9,lsD YN l),(10,iD (l.length:Int)),(11,iD (i.1:Int))] []) (fun i=>l.length - i.1) (⟨0,JC _,fun _ h=>absurd h<|Nat.not_lt_zero _⟩) ?_ ?_)
 ·exact (sB [] I I)
 ·rintro ⟨i,hi,hp⟩ K0 hK0;dsimp only at hi hp ⊢;refine zn (za I (yc I I)<|ze<|zh<|zC I (fun hb12=> ?_) (fun hb12=> ?_))
  ·have h12:(i:Int) < (l.length:Int):=oT hb12;refine zq (zj<|zh<|SW.block<|zh ?_);obtain ⟨x,hx⟩:∃ x,l[i]? =some x:=⟨_,Je o9⟩;obtain ⟨y,hy⟩:∃ y,0 < i→l[i - 1]? =some y:=(by by_cases h:0 < i;exact (zcV hx h).imp fun _ h2 _=>h2;exact ⟨x,fun h2=>absurd h2 h⟩)
   refine zi (zd I<|za I (zU (e:=64) 2 I I k9 k9 o9 (by simpa using hx))<|za I (yn 2 I k9 d9 (show 2≤2 by decide) s9) (SWl.e2 (S:=[]) (Ef.alloc (zs:=[.int .i64 0,.int .i64 0]) k9 I) fun g8=>(zf I<|zu (S:=[_]) (zA 0 I I I k9 I<|m9 I)<|ze<|zh<|yl [] (.r 0<|.r 1<|.n 2 (rr [3,4,5,6,7,8,9,10,11,12,13,14]<|.n 15 (rr [16,17,18] .fin) .no) .no) k9 k9 (fun d _ _ _ _ h=>by cases d <;> exact h)<|zz I I<|zl I I (zx 0 2 I I k9 I zm)<|yZ I (j7 (cap:=[]) (con_arV x) I I ⟨zc _,t9⟩ I)<|zl I I (yu I)<|zz I I<|Zq 20 I (fun hb20=> ?_) (fun hb20=> ?_))))
   ·skip
    refine zD I I I hb20 I I (zD I I I hb20 I I<|zD I I I hb20 I I<|yk I I I I I<|yk I I I I I<|yk I I I I I<|yk I I I I I<|yk I I I I I<|yk I I I I I<|yk I I I I I<|zad I I I I I ?_ yB);refine yk I I I I I (zD I I I hb20 I I<|zl I I (zE I hb20 I)<|yE<|yj I I<|zn<|zf I<|ze<|zV (fn:=Tryz.f58) (⟨false,fun h=>by cases h⟩) [] (fun _ _ h=>h) (Rs.le (zG I<|zk I) ?_) d9 t9);exact zc _
   ·have h20:qH x:=by simpa using hb20
    refine zy I I I hb20 I I (zH I) (zy I I I hb20 I I (yV I I)<|zy I I I hb20 I I (zH I)<|Zq 23 I (fun hb23=> ?_) (fun hb23=> ?_))
    ·have h23:(i:Int) > 0:=oT hb23;refine zy I I I hb23 I I (zH I) (zy I I I hb23 I I (zH I)<|zy I I I hb23 I I (zH I)<|zy I I I hb23 I I (Rd.mono (yG I I ⟨by omega,by omega⟩) (show Le _ (iD ((i - 1:Nat):Int)) from zI (by congr 1;omega)))<|zy I I I hb23 I I (zU (e:=64) 2 I I k9 k9 o9 (by rw [J7];exact hy o9))<|zy I I I hb23 I I (yn 2 I k9 d9 (show 2≤2 by decide) s9)<|zy I I I hb23 I I (zx 0 2 I I k9 I zm)<|Ys I I I (hb23) I (j7 (cap:=[]) (con_arC y x) I I ⟨zc _,zc _,t9⟩ I) ?_ yB);rintro _ rfl;refine zy I I I hb23 I I (YF I I) (zy I I I hb20 I I (zE I hb23 I)<|zl I I (zw I hb20 I)<|yE<|zC I (fun hb34=> ?_) (fun hb34=> ?_))
     ·skip
      refine zn (zf I<|ze<|zV (fn:=Tryz.f58) (⟨false,fun h=>by cases h⟩) [] (fun _ _ h=>h) (Rs.le (zG I<|zk I) ?_) d9 t9);exact zc _
     ·skip
      exact zq (SN.block<|zj<|zi<|za I (Rd.add I I ⟨by omega,by omega⟩)<|zd I<|zF (fun aK wK hh=>hK0 (⟨i + 1,by omega,fun j hj z hz=>(Nat.lt_succ_iff_lt_or_eq.1 hj).elim (fun h=>hp j h z hz) (fun e=>by subst e;rw [hx] at hz;rw [← Option.some.inj hz];exact h20)⟩) (by dsimp only;omega) aK wK<|hh.sub<|⟨⟨_,I,⟨lq I,⟨lq I,⟨lq I,⟨lq I,⟨lq I,⟨⟨_,I,zI s9⟩,t9⟩⟩⟩⟩⟩⟩⟩,[],by decide,trivial⟩))
    ·have h23:¬(i:Int) > 0:=oF hb23;refine zD I I I hb23 I I (zD I I I hb23 I I<|zD I I I hb23 I I<|zD I I I hb23 I I<|zD I I I hb23 I I<|zD I I I hb23 I I<|zD I I I hb23 I I<|YK I I I (hb23) I I ?_ yB);exact zD I I I hb23 I I (zy I I I hb20 I I (zw I hb23 I)<|zl I I (zw I hb20 I)<|yE<|zK I I<|zq<|SN.block<|zj<|zi<|za I (Rd.add I I ⟨by omega,by omega⟩)<|zd I<|zF (fun aK wK hh=>hK0 (⟨i + 1,by omega,fun j hj z hz=>(Nat.lt_succ_iff_lt_or_eq.1 hj).elim (fun h=>hp j h z hz) (fun e=>by subst e;rw [hx] at hz;rw [← Option.some.inj hz];exact h20)⟩) (by dsimp only;omega) aK wK<|hh.sub<|⟨⟨_,I,⟨lq I,⟨lq I,⟨lq I,⟨lq I,⟨lq I,⟨⟨_,I,zI s9⟩,t9⟩⟩⟩⟩⟩⟩⟩,[],by decide,trivial⟩))
  ·have h12:¬(i:Int) < (l.length:Int):=oF hb12;refine zQ ?_
   repeat (first | refine zX ?_ | refine zY d9 ?_)
   refine zZ (zj<|zn<|zf I<|ze<|zV (fn:=Tryz.f58) (⟨true,fun _ x hx=>by obtain ⟨j,hj⟩:=List.getElem?_of_mem hx;exact hp j (by have:=(Jg.1 hj).1;omega) x hj⟩) [] (fun _ _ h=>h) (Rs.le (zG I<|zk I) ?_) d9 t9);exact zc _
theorem con_ordI (l:List Tp.Im) (hl:l.length≤1000000):ConR Tryz.prog 62 [] [lsD YM l,isD<|.func (.func 63) #[] #[],isD<|.func (.func 64) #[] #[]] (fun t:{b:Bool // b=true→∀ x∈l,qo x}=>[]) (fun t:{b:Bool // b=true→∀ x∈l,qo x}=>yL t.1):=by
 refine yt Tryz.func62 k9 I k9 fun base w0=>(zn<|zf I<|ze<|zh<|zn<|zd I<|za I (zT (e:=85) I k9)<|zd I<|ze<|SW.block<|yd (ι:={i:Nat // i≤l.length∧∀ j < i,∀ x,l[j]? =some x→qo x}) (fun i=>yb [(0,lsD YM l),(1,isD<|.func (.func 63) #[] #[]),(2,isD<|.func (.func 64) #[] #[]),(9,lsD YM l),(10,iD (l.length:Int)),(11,iD (i.1:Int))] []) (fun i=>l.length - i.1) (⟨0,JC _,fun _ h=>absurd h<|Nat.not_lt_zero _⟩) ?_ ?_)
 ·exact (sB [] I I)
 ·rintro ⟨i,hi,hp⟩ K0 hK0;dsimp only at hi hp ⊢;refine zn (za I (yc I I)<|ze<|zh<|zC I (fun hb12=> ?_) (fun hb12=> ?_))
  ·have h12:(i:Int) < (l.length:Int):=oT hb12;refine zq (zj<|zh<|SW.block<|zh ?_);obtain ⟨x,hx⟩:∃ x,l[i]? =some x:=⟨_,Je o9⟩;obtain ⟨y,hy⟩:∃ y,0 < i→l[i - 1]? =some y:=(by by_cases h:0 < i;exact (zcV hx h).imp fun _ h2 _=>h2;exact ⟨x,fun h2=>absurd h2 h⟩)
   refine zi (zd I<|za I (zU (e:=85) 3 I I k9 k9 o9 (by simpa using hx))<|za I (yn 3 I k9 d9 (show 3≤3 by decide) s9) (SWl.e2 (S:=[]) (Ef.alloc (zs:=[.int .i64 0,.int .i64 0,.int .i64 0]) k9 I) fun g8=>(zf I<|zu (S:=[_]) (zA 0 I I I k9 I<|m9 I)<|ze<|zh<|yl [] (.r 0<|.r 1<|.n 2 (rr [3,4,5,6,7,8,9,10,11,12,13,14]<|.n 15 (rr [16,17,18] .fin) .no) .no) k9 k9 (fun d _ _ _ _ h=>by cases d <;> exact h)<|zz I I<|zl I I (zx 0 3 I I k9 I zm)<|yZ I (j7 (cap:=[]) (con_imV x) I I ⟨zc _,t9⟩ I)<|zl I I (yu I)<|zz I I<|Zq 20 I (fun hb20=> ?_) (fun hb20=> ?_))))
   ·skip
    refine zD I I I hb20 I I (zD I I I hb20 I I<|zD I I I hb20 I I<|yk I I I I I<|yk I I I I I<|yk I I I I I<|yk I I I I I<|yk I I I I I<|yk I I I I I<|yk I I I I I<|zad I I I I I ?_ yB);refine yk I I I I I (zD I I I hb20 I I<|zl I I (zE I hb20 I)<|yE<|yj I I<|zn<|zf I<|ze<|zV (fn:=Tryz.f62) (⟨false,fun h=>by cases h⟩) [] (fun _ _ h=>h) (Rs.le (zG I<|zk I) ?_) d9 t9);exact zc _
   ·have h20:qo x:=by simpa using hb20
    refine zy I I I hb20 I I (zH I) (zy I I I hb20 I I (yV I I)<|zy I I I hb20 I I (zH I)<|Zq 23 I (fun hb23=> ?_) (fun hb23=> ?_))
    ·have h23:(i:Int) > 0:=oT hb23;refine zy I I I hb23 I I (zH I) (zy I I I hb23 I I (zH I)<|zy I I I hb23 I I (zH I)<|zy I I I hb23 I I (Rd.mono (yG I I ⟨by omega,by omega⟩) (show Le _ (iD ((i - 1:Nat):Int)) from zI (by congr 1;omega)))<|zy I I I hb23 I I (zU (e:=85) 3 I I k9 k9 o9 (by rw [J7];exact hy o9))<|zy I I I hb23 I I (yn 3 I k9 d9 (show 3≤3 by decide) s9)<|zy I I I hb23 I I (zx 0 3 I I k9 I zm)<|Ys I I I (hb23) I (j7 (cap:=[]) (con_imC y x) I I ⟨zc _,zc _,t9⟩ I) ?_ yB);rintro _ rfl;refine zy I I I hb23 I I (YF I I) (zy I I I hb20 I I (zE I hb23 I)<|zl I I (zw I hb20 I)<|yE<|zC I (fun hb34=> ?_) (fun hb34=> ?_))
     ·skip
      refine zn (zf I<|ze<|zV (fn:=Tryz.f62) (⟨false,fun h=>by cases h⟩) [] (fun _ _ h=>h) (Rs.le (zG I<|zk I) ?_) d9 t9);exact zc _
     ·skip
      exact zq (SN.block<|zj<|zi<|za I (Rd.add I I ⟨by omega,by omega⟩)<|zd I<|zF (fun aK wK hh=>hK0 (⟨i + 1,by omega,fun j hj z hz=>(Nat.lt_succ_iff_lt_or_eq.1 hj).elim (fun h=>hp j h z hz) (fun e=>by subst e;rw [hx] at hz;rw [← Option.some.inj hz];exact h20)⟩) (by dsimp only;omega) aK wK<|hh.sub<|⟨⟨_,I,⟨lq I,⟨lq I,⟨lq I,⟨lq I,⟨lq I,⟨⟨_,I,zI s9⟩,t9⟩⟩⟩⟩⟩⟩⟩,[],by decide,trivial⟩))
    ·have h23:¬(i:Int) > 0:=oF hb23;refine zD I I I hb23 I I (zD I I I hb23 I I<|zD I I I hb23 I I<|zD I I I hb23 I I<|zD I I I hb23 I I<|zD I I I hb23 I I<|zD I I I hb23 I I<|YK I I I (hb23) I I ?_ yB);exact zD I I I hb23 I I (zy I I I hb20 I I (zw I hb23 I)<|zl I I (zw I hb20 I)<|yE<|zK I I<|zq<|SN.block<|zj<|zi<|za I (Rd.add I I ⟨by omega,by omega⟩)<|zd I<|zF (fun aK wK hh=>hK0 (⟨i + 1,by omega,fun j hj z hz=>(Nat.lt_succ_iff_lt_or_eq.1 hj).elim (fun h=>hp j h z hz) (fun e=>by subst e;rw [hx] at hz;rw [← Option.some.inj hz];exact h20)⟩) (by dsimp only;omega) aK wK<|hh.sub<|⟨⟨_,I,⟨lq I,⟨lq I,⟨lq I,⟨lq I,⟨lq I,⟨⟨_,I,zI s9⟩,t9⟩⟩⟩⟩⟩⟩⟩,[],by decide,trivial⟩))
  ·have h12:¬(i:Int) < (l.length:Int):=oF hb12;refine zQ ?_
   repeat (first | refine zX ?_ | refine zY d9 ?_)
   refine zZ (zj<|zn<|zf I<|ze<|zV (fn:=Tryz.f62) (⟨true,fun _ x hx=>by obtain ⟨j,hj⟩:=List.getElem?_of_mem hx;exact hp j (by have:=(Jg.1 hj).1;omega) x hj⟩) [] (fun _ _ h=>h) (Rs.le (zG I<|zk I) ?_) d9 t9);exact zc _
theorem con_vArs (l:List Tp.Ar) (hl:l.length≤1000000):ConR Tryz.prog 15 [] [lsD YN l] (fun t:{b:Bool // b=true→∀ x∈l,qH x}=>[]) (fun t:{b:Bool // b=true→∀ x∈l,qH x}=>yL t.1):=by
 refine yt Tryz.func15 k9 I k9 fun base w0=>(zn<|zf I<|zN<|zd I<|Zc (S:=[]) (yh [] (con_ordA l hl) I ⟨zc _,zc _,zc _,t9⟩ d9 t9 (fun _ h=>h) I) ?_);rintro _ ⟨⟨b,hb⟩,rfl⟩;refine zf I (ze<|zV (fn:=Tryz.f15) (⟨b,hb⟩) [] (fun _ _ h=>h) (Rs.le (zG I<|zk I) ?_) d9 t9);exact zc _
theorem con_vIms (l:List Tp.Im) (hl:l.length≤1000000):ConR Tryz.prog 16 [] [lsD YM l] (fun t:{b:Bool // b=true→∀ x∈l,qo x}=>[]) (fun t:{b:Bool // b=true→∀ x∈l,qo x}=>yL t.1):=by
 refine yt Tryz.func16 k9 I k9 fun base w0=>(zn<|zf I<|zN<|zd I<|Zc (S:=[]) (yh [] (con_ordI l hl) I ⟨zc _,zc _,zc _,t9⟩ d9 t9 (fun _ h=>h) I) ?_);rintro _ ⟨⟨b,hb⟩,rfl⟩;refine zf I (ze<|zV (fn:=Tryz.f16) (⟨b,hb⟩) [] (fun _ _ h=>h) (Rs.le (zG I<|zk I) ?_) d9 t9);exact zc _
end
section
def WZ (p:Tp.Pr):Prop:=(0≤p.ar∧p.ar≤63)∧(1≤p.ca∧p.ca≤2)∧(1≤p.su∧p.su≤12)∧(1≤p.un∧p.un≤100000)∧0≤p.re∧p.re≤549755813888
def Tp.sA (a:Int):List Tp.Pr→Int
 | []=>0
 | p :: r=>(if p.ar=a then p.su else 0) + Tp.sA a r
theorem zcz {a:Int}:∀ {l r:List Tp.Pr},Tp.sA a (l ++ r)=Tp.sA a l + Tp.sA a r
 | [],r=>by simp [Tp.sA]
 | p :: l,r=>by rw [List.cons_append,Tp.sA,Tp.sA,zcz];omega
theorem YU {a:Int} {l:List Tp.Pr} {i:Nat} {p:Tp.Pr} (h:l[i]? =some p):Tp.sA a (l.take<|i + 1)=Tp.sA a (l.take i) + (if p.ar=a then p.su else 0):=by
 rw [List.take_add_one,h,zcz];simp [Tp.sA]
structure Tp.OkP (l:List Tp.Pr) (i:Nat) (p:Tp.Pr):Prop where
 ok:WZ p
 su:Tp.sA p.ar (l.take<|i + 1)≤12
 up:∀ q,0 < i→l[i - 1]? =some q→q.ar < p.ar∨q.ar=p.ar∧q.ca < p.ca
def jv (l:List Tp.Pr):Prop:=∀ (i:Nat) p,l[i]? =some p→Tp.OkP l i p
open Classical in
noncomputable def zcv (l:List Tp.Pr):Bool:=decide (jv l)
theorem Yl {l:List Tp.Pr} (h:jv l):zcv l=true:=by classical unfold zcv;exact Jo h
theorem Tp.vp_f {l:List Tp.Pr} (h:¬jv l):zcv l=false:=by classical unfold zcv;exact Jd h
theorem Tp.vp_iff {l:List Tp.Pr}:zcv l=true↔jv l:=by classical unfold zcv;exact decide_eq_true_iff
def Tp.Sup (l:List Tp.Pr) (i:Nat) (xs:List Int):Prop:=xs.length=64∧∀ a:Nat,a < 64→xs[a]? =some (Tp.sA (a:Int)<|l.take i)
theorem Tp.Sup.zero {l:List Tp.Pr}:Tp.Sup l 0 (List.replicate 64 0):=⟨by simp,fun a h=>by rw [List.getElem?_replicate_of_lt h];rfl⟩
theorem Tp.Sup.next {l:List Tp.Pr} {i:Nat} {xs:List Int} (h:Tp.Sup l i xs) {p:Tp.Pr} (hp:l[i]? =some p) (h0:0≤p.ar) (h1:p.ar≤63):Tp.Sup l (i + 1) (xs.set p.ar.toNat<|Tp.sA p.ar (l.take i) + p.su):=by
 refine ⟨by rw [Xl];exact h.1,fun a ha=> ?_⟩;rw [YU hp]
 by_cases e:p.ar.toNat=a
 ·subst e;rw [List.getElem?_set_self (by rw [h.1];omega),Jh o9,show ((p.ar.toNat:Nat):Int)=p.ar by omega]
 ·rw [List.getElem?_set_ne e,h.2 a ha,Jb o9,Int.add_zero]
theorem Tp.Sup.at {l:List Tp.Pr} {i:Nat} {xs:List Int} (h:Tp.Sup l i xs) {a:Int} (h0:0≤a) (h1:a≤63):xs[a.toNat]? =some (Tp.sA a<|l.take i):=by
 have:=h.2 a.toNat o9;rwa [show ((a.toNat:Nat):Int)=a by omega] at this
theorem zbC {l:List Tp.Pr} {i:Nat} (h:∀ j < i,∀ p,l[j]? =some p→Tp.OkP l j p) {a:Int}:0≤Tp.sA a (l.take i)∧Tp.sA a (l.take i)≤12:=by
 induction i with
 | zero=>simp [Tp.sA]
 | succ i ih=>
  have h2:=ih fun j hj=>h j o9
  cases hp:l[i]? with
  | none=>rw [List.take_add_one,hp];simpa using h2
  | some p=>
   have ho:=h i o9 p hp;have h3:=ho.ok.2.2.1;rw [YU hp]
   by_cases e:p.ar=a
   ·have h4:=ho.su;rw [YU hp,Jh rfl,e] at h4;rw [Jh e];omega
   ·rw [Jb e];omega
theorem zbq {xs:List Int} {i:Nat} {v:Int}:(xs.map iD).set i (iD v)=(xs.set i v).map iD:=by rw [List.map_set]
theorem Vc {xs:List Int} {i:Nat} {v:Int} (h:xs[i]? =some v):(xs.map iD)[i]? =some (iD v):=by rw [JJ,h];rfl
theorem con_prV (gs:Nat) (l:List Tp.Pr) (i:Nat) (x:Tp.Pr) (xs:List Int) (hx:l[i]? =some x) (hs:Tp.Sup l i xs) (hb:0≤Tp.sA x.ar (l.take i)∧Tp.sA x.ar (l.take i)≤12):ConR Tryz.prog 69 [.c gs<|(xs).map iD] [Z8 [iD x.ar,iD x.ca,iD x.su,iD x.un,iD x.re],pA gs] (fun t:{q:List Int × Bool // q.2=q.2∧(q.2=true→Tp.Sup l (i + 1) q.1∧WZ x∧Tp.sA x.ar (l.take<|i + 1)≤12)∧(q.2=false→¬(WZ x∧Tp.sA x.ar (l.take<|i + 1)≤12))}=>[.c gs<|(t.1.1).map iD]) (fun t:{q:List Int × Bool // q.2=q.2∧(q.2=true→Tp.Sup l (i + 1) q.1∧WZ x∧Tp.sA x.ar (l.take<|i + 1)≤12)∧(q.2=false→¬(WZ x∧Tp.sA x.ar (l.take<|i + 1)≤12))}=>yL t.1.2):=by
 refine yt Tryz.func69 k9 I k9 fun base w0=>(zn (SWl.e2 (S:=[]) (ym I I) fun g2=>(zf I<|ze<|zh<|zn<|za I (zg (n:=0) I k9)<|za I (zp 1 I I I k9 zm)<|zu (S:=[]) (zv (Zy (x.ar) 0 63) I ⟨zc _,zc _,zc _,t9⟩ I)<|za I (yu I)<|zd I<|z1 8 I (fun hb8=> ?_) (fun hb8=> ?_))))
 ·have h8:¬(0≤x.ar∧x.ar≤63):=zds hb8;refine zt hb8 (zt hb8<|zt hb8<|zt hb8<|za I (zE I hb8 I)<|zd I<|zt I<|zt I<|zt I<|zt I<|za I (zE I I I)<|ze<|yj I I<|zn<|zf I<|ze<|zV (fn:=Tryz.f69) (⟨(xs,false),I,fun h=>(by cases h),fun _ h=>h8 h.1.1⟩) [0] (fun _ _ h=>h) (Rs.le (zG I<|zk I) ?_) d9 ⟨la I,t9⟩);exact zc _
 ·have h8:0≤x.ar∧x.ar≤63:=Kn hb8;refine zJ hb8 (zg (n:=1) I k9) (zJ hb8 (zp 1 I I I k9 zm)<|yN (S:=[]) I I hb8 I (zv (Zy (x.ca) 1 2) I ⟨zc _,zc _,zc _,t9⟩ I) ?_);rintro _ rfl;refine zJ hb8 (yu I) (za I (zw I hb8 I)<|zd I<|z1 14 I (fun hb14=> ?_) (fun hb14=> ?_))
  ·have h14:¬(1≤x.ca∧x.ca≤2):=zds hb14;refine zt hb14 (zt hb14<|zt hb14<|zt hb14<|za I (zE I hb14 I)<|ze<|yj I I<|zn<|zf I<|ze<|zV (fn:=Tryz.f69) (⟨(xs,false),I,fun h=>(by cases h),fun _ h=>h14 h.1.2.1⟩) [0] (fun _ _ h=>h) (Rs.le (zG I<|zk I) ?_) d9 ⟨la I,t9⟩);exact zc _
  ·have h14:1≤x.ca∧x.ca≤2:=Kn hb14;refine zJ hb14 (zg (n:=2) I k9) (zJ hb14 (zp 1 I I I k9 zm)<|yN (S:=[]) I I hb14 I (zv (Zy (x.su) 1 12) I ⟨zc _,zc _,zc _,t9⟩ I) ?_);rintro _ rfl;refine zJ hb14 (yu I) (za I (zw I hb14 I)<|ze<|zC I (fun hb19=> ?_) (fun hb19=> ?_))
   ·have h19:¬(1≤x.su∧x.su≤12):=zds hb19;refine zn (zf I<|ze<|zV (fn:=Tryz.f69) (⟨(xs,false),I,fun h=>(by cases h),fun _ h=>h19 h.1.2.2.1⟩) [0] (fun _ _ h=>h) (Rs.le (zG I<|zk I) ?_) d9 ⟨la I,t9⟩);exact zc _
   ·have h19:1≤x.su∧x.su≤12:=Kn hb19
    refine zq (zj<|zh<|yl (gs :: []) (rr [0,1,2]<|.q 3<|rr [4,5,6,7]<|.e 8 .fin .no) k9 k9 (fun d _ _ _ _ h=>by cases d <;> exact h)<|zl I I (zg (n:=0) I k9)<|zl I I (zp 1 I I I k9<|ZR 0 I d9 zm)<|zl I I (Yx (e:=3) (n:=64) I I k9 k9 o9 o9)<|ZX I I (zp 0 I I (Vc<|hs.at h8.1 h8.2) k9 zm)<|zl I I (zg (n:=2) I k9)<|zl I I (zp 1 I I I k9<|ZR 0 I d9 zm)<|zl I I (Rd.add I I ⟨by omega,by omega⟩)<|zl I I (Yx (e:=3) (n:=64) I I k9 k9 o9 o9)<|Zm I (ZG 0 I I I k9 (by rw [JO,hs.1];omega) mC)<|yE<|zh<|SW.sub (σ':=yb [(1,_),(2,_)] [.c gs<|(xs.set x.ar.toNat<|Tp.sA x.ar (l.take i) + x.su).map iD,.c g2 [iD x.ar,iD x.ca,iD x.su,iD x.un,iD x.re]]) (⟨⟨_,I,(sT I)⟩,[0,1],by decide,⟨⟨_,rfl,(Yq zbq)⟩,⟨la rfl,trivial⟩⟩⟩) ?_)
    have hst:=YU (a:=x.ar) hx;rw [Jh rfl] at hst;have hsn:=hs.next hx h8.1 h8.2;refine zi (za I (zg (n:=0) I k9)<|za I (zp 1 I I I k9 zm)<|za I (Yx (e:=3) (n:=64) I I k9 k9 o9 o9)<|za I (zp 0 I I (Vc<|hsn.at h8.1 h8.2) k9 zm)<|za I (Zn I I)<|zd I<|z1 33 I (fun hb33=> ?_) (fun hb33=> ?_))
    ·have h33:Tp.sA x.ar (l.take i) + x.su≤12:=by have h:=oT hb33;rw [hst] at h;exact h
     refine zJ hb33 (zg (n:=3) I k9) (zJ hb33 (zp 1 I I I k9 zm)<|yN (S:=[]) I I hb33 I (zv (Zy (x.un) 1 100000) I ⟨zc _,zc _,zc _,t9⟩ I) ?_);rintro _ rfl;refine za I (zE I hb33 I) (zd I<|z1 38 I (fun hb38=> ?_) (fun hb38=> ?_))
     ·have h38:1≤x.un∧x.un≤100000:=oT hb38;refine zJ hb38 (zg (n:=4) I k9) (zJ hb38 (zp 1 I I I k9 zm)<|yN (S:=[]) I I hb38 I (zv (Zy (x.re) 0 549755813888) I ⟨zc _,zc _,zc _,t9⟩ I) ?_);rintro _ rfl;refine za I (zE I hb38 I) (zf I<|ze<|zV (fn:=Tryz.f69) (⟨(xs.set x.ar.toNat<|Tp.sA x.ar (l.take i) + x.su,decide (0≤x.re∧x.re≤549755813888)),I,fun h=>⟨hsn,⟨h8,h14,h19,h38,oT h⟩,by rw [hst];exact h33⟩,fun h hh=>oF h hh.1.2.2.2.2⟩) [0] (fun _ _ h=>h) (Rs.le (zG I<|zk I) ?_) d9 ⟨la I,t9⟩);exact zc _
     ·have h38:¬(1≤x.un∧x.un≤100000):=oF hb38;refine zt hb38 (zt hb38<|zt hb38<|za I (zw I hb38 I)<|zf I<|ze<|zV (fn:=Tryz.f69) (⟨(xs.set x.ar.toNat<|Tp.sA x.ar (l.take i) + x.su,false),I,fun h=>(by cases h),fun _ h=>h38 h.1.2.2.2.1⟩) [0] (fun _ _ h=>h) (Rs.le (zG I<|zk I) ?_) d9 ⟨la I,t9⟩);exact zc _
    ·have h33:¬Tp.sA x.ar (l.take i) + x.su≤12:=by have h:=oF hb33;rw [hst] at h;exact h
     refine zt hb33 (zt hb33<|zt hb33<|za I (zw I hb33 I)<|zd I<|zt I<|zt I<|zt I<|za I (zw I I I)<|zf I<|ze<|zV (fn:=Tryz.f69) (⟨(xs.set x.ar.toNat<|Tp.sA x.ar (l.take i) + x.su,false),I,fun h=>(by cases h),fun _ h=>h33 (by have:=h.2;rw [hst] at this;exact this)⟩) [0] (fun _ _ h=>h) (Rs.le (zG I<|zk I) ?_) d9 ⟨la I,t9⟩);exact zc _
theorem con_ordP (gs:Nat) (l:List Tp.Pr) (hl:l.length≤1000000):ConR Tryz.prog 68 [.c gs<|(List.replicate 64 0).map iD] [lsD yA l,isD<|.func (.func 69) #[] #[.pointer<|some ⟨gs,0,none⟩],isD<|.func (.func 70) #[] #[]] (fun t:{xs:List Int // xs=xs}=>[.c gs<|(t.1).map iD]) (fun t:{xs:List Int // xs=xs}=>yL<|zcv l):=by
 refine yt Tryz.func68 k9 I k9 fun base w0=>(zn<|zf I<|ze<|zh<|zn<|zd I<|za I (zT (e:=61) I k9)<|zd I<|ze<|SW.block<|yd (ι:={p:Nat × List Int // p.1≤l.length∧Tp.Sup l p.1 p.2∧∀ j < p.1,∀ x,l[j]? =some x→Tp.OkP l j x}) (fun p=>yb [(0,lsD yA l),(1,isD<|.func (.func 69) #[] #[.pointer<|some ⟨gs,0,none⟩]),(2,isD<|.func (.func 70) #[] #[]),(9,lsD yA l),(10,iD (l.length:Int)),(11,iD (p.1.1:Int))] [.c gs<|(p.1.2).map iD]) (fun p=>l.length - p.1.1) (⟨(0,List.replicate 64 0),JC _,Tp.Sup.zero,fun _ h=>absurd h<|Nat.not_lt_zero _⟩) ?_ ?_)
 ·exact (sB [0] I I)
 ·rintro ⟨⟨i,xs⟩,hi,hs,hp⟩ K0 hK0;dsimp only at hi hs hp ⊢;refine zn (za I (yc I I)<|ze<|zh<|zC I (fun hb12=> ?_) (fun hb12=> ?_))
  ·have h12:(i:Int) < (l.length:Int):=oT hb12;refine zq (zj<|zh<|SW.block<|zh ?_);obtain ⟨x,hx⟩:∃ x,l[i]? =some x:=⟨_,Je o9⟩;have hsb:=zbC (a:=x.ar) hp;obtain ⟨y,hy⟩:∃ y,0 < i→l[i - 1]? =some y:=(by by_cases h:0 < i;exact (zcV hx h).imp fun _ h2 _=>h2;exact ⟨x,fun h2=>absurd h2 h⟩)
   refine zi (zd I<|za I (zU (e:=61) 5 I I k9 k9 o9 (by simpa using hx))<|za I (yn 5 I k9 d9 (show 5≤5 by decide) s9) (SWl.e2 (S:=[]) (Ef.alloc (zs:=[.int .i64 0,.int .i64 0,.int .i64 0,.int .i64 0,.int .i64 0]) k9 I) fun g8=>(zf I<|zu (S:=[_]) (zA 1 I I I k9 I<|m9 I)<|ze<|zh<|yl (gs :: []) (.r 0<|.r 1<|.e 2 (rr [3,4,5,6,7,8,9,10,11,12,13,14]<|.n 15 (rr [16,17,18] .fin) .no) .no) k9 k9 (fun d _ _ _ _ h=>by cases d <;> exact h)<|zz I I<|zl I I (zx 1 5 I I k9 I<|ZR 0 I d9 zm)<|jI I (KZ (cap:=[.pointer<|some ⟨gs,0,none⟩]) [0] (con_prV gs l i x xs hx hs hsb) I I ⟨zc _,zc _,t9⟩ d9 ⟨la I,t9⟩ (fun _ h=>h) I) ?_ yB)))
   rintro _ ⟨⟨⟨ys,b⟩,_,hyt,hyf⟩,rfl⟩;refine zl I I (yu I) (zz I I<|Zq 20 I (fun hb20=> ?_) (fun hb20=> ?_))
   ·have hno:=hyf (by simpa using hb20);refine zD I I I hb20 I I (zD I I I hb20 I I<|zD I I I hb20 I I<|yk I I I I I<|yk I I I I I<|yk I I I I I<|yk I I I I I<|yk I I I I I<|yk I I I I I<|yk I I I I I<|zad I I I I I ?_ yB);refine yk I I I I I (zD I I I hb20 I I<|zl I I (zE I hb20 I)<|yE<|yj I I<|zn<|zf I<|ze<|zV (fn:=Tryz.f68) (⟨_,I⟩) [1] (fun _ _ h=>h) (Rs.le (zG I<|zk I) ?_) d9 ⟨la I,t9⟩);exact Zg (Tp.vp_f fun h=>hno ⟨(h i x hx).ok,(h i x hx).su⟩).symm
   ·have hy2:=hyt (by simpa using hb20);have hpn:(∀ q,0 < i→l[i - 1]? =some q→q.ar < x.ar∨q.ar=x.ar∧q.ca < x.ca)→∀ j < i + 1,∀ z,l[j]? =some z→Tp.OkP l j z:=(fun hu j hj z hz=>(Nat.lt_succ_iff_lt_or_eq.1 hj).elim (fun h=>hp j h z hz) (fun e=>by subst e;rw [hx] at hz;rw [← JN hz];exact ⟨hy2.2.1,hy2.2.2,hu⟩));refine zy I I I hb20 I I (zH I) (zy I I I hb20 I I (yV I I)<|zy I I I hb20 I I (zH I)<|Zq 23 I (fun hb23=> ?_) (fun hb23=> ?_))
    ·have h23:(i:Int) > 0:=oT hb23;have hy:=hy o9;refine zy I I I hb23 I I (zH I) (zy I I I hb23 I I (zH I)<|zy I I I hb23 I I (zH I)<|zy I I I hb23 I I (Rd.mono (yG I I ⟨by omega,by omega⟩) (show Le _ (iD ((i - 1:Nat):Int)) from zI (by congr 1;omega)))<|zy I I I hb23 I I (zU (e:=61) 5 I I k9 k9 o9 (by rw [J7];exact hy))<|zy I I I hb23 I I (yn 5 I k9 d9 (show 5≤5 by decide)<|jT (j:=1) I Vd)<|zy I I I hb23 I I (zx 0 5 I I k9 I<|ZR 1 I d9 zm)<|Ys I I I (hb23) I (j7 (cap:=[]) (con_prC y x) I I ⟨zc _,zc _,t9⟩ I) ?_ yB);rintro _ rfl;refine zy I I I hb23 I I (YF I I) (zy I I I hb20 I I (zE I hb23 I)<|zl I I (zw I hb20 I)<|yE<|zC I (fun hb34=> ?_) (fun hb34=> ?_))
     ·have h34:=oT hb34;refine zn (zf I<|ze<|zV (fn:=Tryz.f68) (⟨_,I⟩) [1] (fun _ _ h=>h) (Rs.le (zG I<|zk I) ?_) d9 ⟨la I,t9⟩);exact Zg (Tp.vp_f fun h=>zcD.1 h34<|(h i x hx).up y o9 hy).symm
     ·have h34:=oF hb34;have hup:∀ q,0 < i→l[i - 1]? =some q→q.ar < x.ar∨q.ar=x.ar∧q.ca < x.ca:=(fun q _ hq=>by rw [hy] at hq;obtain rfl:=Option.some.inj hq;exact Decidable.not_not.1 fun h=>h34<|zcD.2 h);exact zq (SN.block<|zj<|zi<|za I (Rd.add I I ⟨by omega,by omega⟩)<|zd I<|zF (fun aK wK hh=>hK0 (⟨(i + 1,ys),by dsimp only;omega,hy2.1,hpn hup⟩) (by dsimp only;omega) aK wK<|hh.sub<|⟨⟨_,I,⟨lq I,⟨lq I,⟨lq I,⟨lq I,⟨lq I,⟨⟨_,I,zI s9⟩,t9⟩⟩⟩⟩⟩⟩⟩,[1],by decide,⟨la rfl,trivial⟩⟩))
    ·have h23:¬(i:Int) > 0:=oF hb23;refine zD I I I hb23 I I (zD I I I hb23 I I<|zD I I I hb23 I I<|zD I I I hb23 I I<|zD I I I hb23 I I<|zD I I I hb23 I I<|zD I I I hb23 I I<|YK I I I (hb23) I I ?_ yB);exact zD I I I hb23 I I (zy I I I hb20 I I (zw I hb23 I)<|zl I I (zw I hb20 I)<|yE<|zK I I<|zq<|SN.block<|zj<|zi<|za I (Rd.add I I ⟨by omega,by omega⟩)<|zd I<|zF (fun aK wK hh=>hK0 (⟨(i + 1,ys),by dsimp only;omega,hy2.1,hpn (fun q h0 _=>absurd (show (i:Int) > 0 by omega) h23)⟩) (by dsimp only;omega) aK wK<|hh.sub<|⟨⟨_,I,⟨lq I,⟨lq I,⟨lq I,⟨lq I,⟨lq I,⟨⟨_,I,zI s9⟩,t9⟩⟩⟩⟩⟩⟩⟩,[1],by decide,⟨la rfl,trivial⟩⟩))
  ·have h12:¬(i:Int) < (l.length:Int):=oF hb12;refine zQ ?_
   repeat (first | refine zX ?_ | refine zY d9 ?_)
   refine zZ (zj<|zn<|zf I<|ze<|zV (fn:=Tryz.f68) (⟨_,I⟩) [0] (fun _ _ h=>h) (Rs.le (zG I<|zk I) ?_) d9 ⟨la I,t9⟩);exact Zg (Yl fun j z hz=>hp j (by have:=(Jg.1 hz).1;omega) z hz).symm
theorem zce (l:List Tp.Pr) (hl:l.length≤1000000):Con Tryz.prog 22 [lsD yA l] (yL<|zcv l):=by
 refine yy Tryz.func22 k9 I k9 fun base w0=>(zn<|zf I<|zN (SWl.e2 (S:=[]) (Ef.alloc (zs:=List.replicate 64<|.int .i64 0) k9 I) fun g3=>(zN<|zd I<|za I (YA [.pointer<|some ⟨g3,0,none⟩] I)<|Zc (yh [0] (con_ordP g3 l hl) I ⟨zc _,zc _,zc _,t9⟩ d9 ⟨⟨_,I,(Yq (by rw [List.map_replicate,List.map_replicate]))⟩,t9⟩ (fun _ h=>h) I) ?_)));rintro _ ⟨⟨ys,_⟩,rfl⟩;refine zf I (ze<|zO (fn:=Tryz.f22) (fun _ _ h=>h)<|Rs.le (zG I<|zk I) ?_);exact zc _
