/- CORE: threshold, raised, lowest, Payments. CORE: Payments. REFERENCE 39: Find, Valid, Wish, Has, Among. REFERENCE 39: ValidWishes, Free, Mark, All, Sa -/
import Derived.Test.YtfoafihodanmhaaGreatDoorGZAZ
set_option maxHeartbeats 8000000
set_option maxRecDepth 100000
namespace Go.Proofs.YtfoafihodanmhaaGreatDoor
open Go.RowKit
namespace Sx
section
def fX (c i:Nat) (z:Int):Bool:= !decide (z=(i:Int)) && !Co.bt c z.toNat
theorem mS_ox {c i n:Nat} {p:Nat→Int}:Co.mS p (Co.mem n<|fX c i)=Co.ox c i p n:=by
 rw [Co.mS_mem];refine Co.sm_congr fun k _=> ?_;unfold fX;rw [J7]
 by_cases h1:k=i
 ·subst h1;simp
 ·have h2:¬(k:Int)=(i:Int):=by omega
  cases hb:Co.bt c k <;> simp [h1,h2]
theorem ox_bd {c i n:Nat} {p:Nat→Int} (hn:n≤6) (hp:∀ k < n,0≤p k∧p k≤65970697666560):0≤Co.ox c i p n∧Co.ox c i p n≤395824185999360:=by
 have h1:0≤Co.ox c i p n:=Co.sm_nonneg fun k hk=>by have:=hp k hk;split <;> omega
 have h2:Co.ox c i p n≤Co.oc 0 (fun _=>65970697666560) n:=Co.sm_le fun k hk=>by have:=hp k hk;simp [Co.bt];split <;> omega
 have h3:=Co.oc_ub (c:=0) (p:=fun _=>65970697666560) (n:=n) (M:=65970697666560) d9 (fun _ _=>by omega);have h4:=Int.mul_le_mul_of_nonneg_right (show (n:Int)≤6 by omega) (show (0:Int)≤65970697666560 by decide);omega
theorem lw_bd {V bd:Nat→Int} {n i:Nat} {p:Nat→Int} (h:Co.Mkt n V bd) (hp:∀ k < n,0≤p k∧p k≤65970697666560):∀ k≤2 ^ n,0≤Co.lw V bd n i p k∧Co.lw V bd n i p k≤395824185999360
 | 0,_=>by simp [Co.lw]
 | k + 1,hk=>by
  have h1:=lw_bd h hp (i:=i) k o9;have h2:=Ws h (show k < 2 ^ n by omega);have h3:=ox_bd (c:=k) (i:=i) h.n6 hp
  rw [Co.lw];split <;> omega
theorem lw_yes {V bd:Nat→Int} {n i k:Nat} {p:Nat→Int} (h:Co.bt k i=true):Co.lw V bd n i p (k + 1)=Co.lw V bd n i p k:=Jh h
theorem lw_no {V bd:Nat→Int} {n i k:Nat} {p:Nat→Int} (h:Co.bt k i=false):Co.lw V bd n i p (k + 1)=max (Co.lw V bd n i p k) (60 * Co.need V bd n k - Co.ox k i p n):=Jb (by rw [h];decide)
theorem con_paidX {Fp:LN} {Ap:Option Addr} {cp:Nat} {p:Nat→Int} {n c i:Nat} (hn:n≤6) (hb:∀ k < n,0≤p k∧p k≤65970697666560):ConR Tryz.prog 97 [.r Fp<|yi 78 4 (jY 60) Ap cp<|zB p n] [isD<|.slice Ap (zB p n).length cp,fnD 135 [paD [iD (n:Int)],paD [prD Tryz.prog jN<|fX c i]]] (fun _:Unit=>[.r Fp<|yi 78 4 (jY 60) Ap cp<|zB p n]) (fun _=>ZH [qKD 60<|Co.ox c i p n,iD 0]):=by
 have h:=con_paidO Fp Ap cp 60 p n (fX c i) hn d9 sm61 (fun k hk=>by have:=hb k hk;omega);rw [mS_ox] at h;exact h
def encO:Option Int→List D
 | some x=>qKC 60 x
 | none=>[isD<|.bool false,isD<|.slice none 0 0,isD<|.bool false,isD<|.slice none 0 0]
instance:Row encO 4:=⟨fun x=>by cases x <;> rfl,fun x=>by cases x <;> (unfold encO;infer_instance),by decide⟩
instance (x:Option Int):Ones (encO x):=by cases x <;> (unfold encO;infer_instance)
def flO (p:Nat→Int) (n i:Nat):List (Option Int):=(List.range n).map fun k=>if k < i then some (p k) else none
theorem ji {p:Nat→Int} {n i:Nat}:(flO p n i).length=n:=by simp [flO]
theorem flO_zero {p:Nat→Int} {n:Nat}:flO p n 0=List.replicate n none:=by
 apply Xh;intro k;unfold flO
 by_cases h:k < n
 ·rw [JJ,List.getElem?_range h,Xj,Jh h];rfl
 ·rw [JM (by simp;omega),JM (by simp;omega)]
theorem flO_set {p:Nat→Int} {n i:Nat} (hi:i < n):(flO p n i).set i (some<|p i)=flO p n (i + 1):=by
 apply Xh;intro k;unfold flO
 by_cases h:k < n
 ·by_cases e:k=i
  ·subst e;rw [List.getElem?_set_self (by simpa using h),JJ,List.getElem?_range h];simp
  ·rw [List.getElem?_set_ne (fun h=>e h.symm),JJ,JJ,List.getElem?_range h]
   have hk:k < i↔k < i + 1:=by omega
   simp only [Option.map_some,hk]
 ·rw [JM (by simp;omega),JM (by simp;omega)]
theorem flO_all {p:Nat→Int} {n i:Nat} (h:i=n):(flO p n i).flatMap encO=(zB p n).flatMap (jY 60):=by
 subst h;refine lsD_eq (by rw [ji,zW]) fun k x y hx hy=> ?_
 have hk:k < i:=by have:=(Jg.1 hy).1;rwa [zW] at this
 unfold flO at hx;rw [JJ,List.getElem?_range hk,Option.map_some,Jh hk] at hx;rw [yU hk] at hy;rw [← JN hx,← JN hy];rfl
theorem le_flO {e c:Nat} {A:Option Addr} {p:Nat→Int} {n i:Nat} (h:i=n):LeR (yi e 4 encO A c<|flO p n i) (yi e 4 (jY 60) A c<|zB p n):=by
 unfold yi;rw [flO_all h,ji,zW];exact zM _
theorem Wd {p q:Nat→Int} {n i:Nat} {x:Int} (hi:i < n) (h1:q i=x) (h2:∀ k < n,k≠i→q k=p k):(zB p n).set i x=zB q n:=by
 apply Xh;intro k
 by_cases h:k < n
 ·by_cases e:k=i
  ·subst e;rw [List.getElem?_set_self (by rw [zW];exact h),yU h,h1]
  ·rw [List.getElem?_set_ne (fun h=>e h.symm),yU h,yU h,h2 k h e]
 ·rw [JM (by rw [Xl,zW];omega),JM (by rw [zW];omega)]
def thT (V bd:Nat→Int) (n:Nat):Int:=Co.thr (rcF V bd n) (2 ^ n)
def pyR (V bd:Nat→Int) (n:Nat):Nat→Int:=Co.rs bd (Co.vcg V bd n) (thT V bd n)
def pyS (V bd:Nat→Int) (n k:Nat):Nat→Int:=Co.pay V bd n (pyR V bd n) k
theorem zdP {V bd:Nat→Int} {n:Nat} (h:Co.Mkt n V bd):Co.In V bd n (pyR V bd n):=
 (Co.in_iff h (fun _ _=>Ky _) (fun _ _=>jS _) (Wc h (2 ^ n)<|Js _).1).2 (Int.le_refl _)
theorem zbW {V bd:Nat→Int} {n:Nat} (h:Co.Mkt n V bd):∀ i < n,0≤pyR V bd n i∧pyR V bd n i≤65970697666560:=fun i hi=>by
 have h1:=Co.rs_nonneg h (Wc h (2 ^ n)<|Js _).1 hi;have h2:=h.bd0 i hi;unfold pyR thT;omega
theorem pyS_bd {V bd:Nat→Int} {n k:Nat} (h:Co.Mkt n V bd) (hk:k≤n):∀ i < n,0≤pyS V bd n k i∧pyS V bd n k i≤65970697666560:=fun i hi=>by
 have h1:=(Co.pay_spec (zdP h) (fun i hi=>(zbW h i hi).1) k hk).2.1 i hi;have h2:=zbW h i hi;unfold pyS;omega
theorem pyS_step {V bd:Nat→Int} {n k:Nat} (hk:k < n):(zB (pyS V bd n k) n).set k (Co.lw V bd n k (pyS V bd n k)<|2 ^ n)=zB (pyS V bd n<|k + 1) n:=
 Wd hk (by unfold pyS;rw [Co.pay];exact Jh rfl) fun j _ hj=>by unfold pyS;rw [Co.pay];exact Jb hj
theorem con_thr (V bd:Nat→Int) (n:Nat) (hmk:Co.Mkt n V bd) (hV:∀ c < 2 ^ n,0≤V c∧V c≤6597069766656):Con Tryz.prog 53 [Z8 [lsD z7<|zB V<|2 ^ n,lsD z7<|zB bd n,lsD z7<|zB (Co.vcg V bd n) n]] (ZH [qKD 60<|thT V bd n,iD 0]):=by
 have hn6:=hmk.n6;have hS64:2 ^ n≤64:=Co.pow_le64 hn6;refine yy Tryz.func53 k9 I k9 fun base w0=>(zn (SWl.e2 (S:=[]) (ym I I) fun g1=>(SWl.e2 (S:=[]) (Ef.alloc (zs:=[.bool false,.slice none 0 0,.bool false,.slice none 0 0]) k9 I) fun g2=>(zf I<|zN<|zu (S:=[]) (zv (jF<|Ks d9 d9) I t9 I) (SWl.e2 (S:=[]) (Ef.alloc (zs:=[.bool false,.slice none 0 0,.bool false,.slice none 0 0]) k9 I) fun g4=>(zu (S:=[_]) (zA 2 I I I k9 I<|m9 I)<|zf I<|ze<|zh<|zn<|za I (zg (n:=0) I k9)<|za I (zp 0 I I I k9 zm)<|za I (zT (e:=3) I k9)<|zd I<|ze<|SW.block<|yd (ι:={c:Nat // c≤2 ^ n}) (fun p=>yb [(1,pA g1),(2,pA g2),(4,pA g4),(11,iD ((2 ^ n:Nat):Int)),(12,iD (p.1:Int))] [.c g1 [lsD z7<|zB V<|2 ^ n,lsD z7<|zB bd n,lsD z7<|zB (Co.vcg V bd n) n],.c g2 [isD<|.bool false,isD<|.slice none 0 0,isD<|.bool false,isD<|.slice none 0 0],.c g4<|qKC 60<|Co.thr (rcF V bd n) p.1]) (fun p=>2 ^ n - p.1) (⟨0,JC _⟩) ?_ ?_))))))
 ·exact ⟨⟨_,I,⟨lq I,⟨lq I,⟨lq I,⟨⟨_,I,zI (by rw [zW])⟩,⟨lq I,t9⟩⟩⟩⟩⟩⟩,[0,1,2],by decide,(sX rfl)⟩
 ·rintro ⟨c,hc⟩ K0 hK0;dsimp only at hc ⊢;refine zn (za I (yc I I)<|ze<|zh<|zC I (fun hb13=> ?_) (fun hb13=> ?_))
  ·have h13:c < 2 ^ n:=by have h:=oT hb13;omega
   refine zq (zj<|zh<|SW.block<|zh ?_)
   have hc2:c < 2 ^ n:=by omega
   have hth:=Wc hmk c hc;have hrb:=rcF_bd hmk hc2;refine zi (zd I<|zf I<|zN (SWl.e2 (S:=[]) (Ef.alloc (zs:=[.bool false,.slice none 0 0,.bool false,.slice none 0 0]) k9 I) fun g7=>(ze<|zh<|zn<|za I (zx 0 3 I I k9 I zm)<|zd I<|zu (S:=[]) (zv (con_reach V bd n c hc2 hmk hV) I ⟨zc _,zc _,t9⟩ I)<|zd I<|za I (zo I I)<|za I (zo I I)<|zu (S:=[_]) (zA 3 I I I k9 I<|m9 I)<|zf I<|zN<|zd I<|za I (yv I I)<|ze<|zK I I<|zq<|zj<|zn<|za I (zx 2 4 I I k9 I zm)<|za I (zx 3 4 I I k9 I zm)<|zu (S:=[]) (zv (zeg (Ks o9 o9)<|Ks o9 o9) I ⟨zc _,zc _,t9⟩ I)<|zd I<|za I (zo I I)<|za I (zo I I) ?_)));exact zu (S:=[_]) (zA 2 I I I k9 I<|m9 I) (zf I<|zN<|zd I<|za I (yv I I)<|ze<|zK I I<|zq<|SN.block<|zj<|zi<|za I (Rd.add I I ⟨by omega,by omega⟩)<|zd I<|zF (fun aK wK hh=>hK0 (⟨c + 1,by omega⟩) (by dsimp only;omega) aK wK<|hh.sub<|⟨⟨_,I,⟨lq I,⟨lq I,⟨lq I,⟨lq I,⟨⟨_,I,zI s9⟩,t9⟩⟩⟩⟩⟩⟩,[0,1,2],by decide,(sX rfl)⟩))
  ·have h13:¬c < 2 ^ n:=by have h:=oF hb13;omega
   refine zQ ?_
   repeat (first | refine zX ?_ | refine zY d9 ?_)
   refine zZ (zj<|zn<|za I (zx 2 4 I I k9 I zm)<|zu (S:=[_]) (zA 1 I I I k9 I<|m9 I)<|zf I<|ze<|zO (fn:=Tryz.f53) (fun _ _ h=>h)<|Rs.le (Rs.two I (yx 1 I I k9)<|zk I) ?_)
   have e:c=2 ^ n:=by omega
   rw [e];exact zc _
theorem zfa (V bd:Nat→Int) (n i:Nat) (t:Int) (hi:i < n) (ht0:0≤t) (ht1:t≤65970697666560) (hmk:Co.Mkt n V bd) (hV:∀ c < 2 ^ n,0≤V c∧V c≤6597069766656):Con Tryz.prog 54 [Z8 [lsD z7<|zB V<|2 ^ n,lsD z7<|zB bd n,lsD z7<|zB (Co.vcg V bd n) n],iD (i:Int),qKD 60 t] (ZH [qKD 60<|Co.rs bd (Co.vcg V bd n) t i,iD 0]):=by
 have hbi:=hmk.bd0 i hi;have hvi:=zaq hmk i hi;refine yy Tryz.func54 k9 I k9 fun base w0=>(zn (SWl.e2 (S:=[]) (ym I I) fun g3=>(SWl.e2 (S:=[]) (ym I I) fun g5=>(SWl.e2 (S:=[]) (Ef.alloc (zs:=[.bool false,.slice none 0 0,.bool false,.slice none 0 0]) k9 I) fun g6=>(zf I<|zN<|za I (zg (n:=1) I k9)<|za I (zp 0 I I I k9 zm)<|zd I<|za I (zU (e:=3) 1 I I k9 k9 o9<|YI hi)<|za I (zS I I k9 s9)<|zu (S:=[]) (zv (jG (z:=60 * bd i) (Ks o9 o9) o9 o9 d9 d9 d9 o9) I ⟨zc _,zc _,t9⟩ I)<|zd I<|za I (zo I I)<|za I (zo I I) (SWl.e2 (S:=[]) (Ef.alloc (zs:=[.bool false,.slice none 0 0,.bool false,.slice none 0 0]) k9 I) fun g8=>(zu (S:=[_]) (zA 3 I I I k9 I<|m9 I)<|zf I<|ze<|zh<|zn<|zd I<|za I (yv I I)<|ze<|zK I I<|zq<|zj<|zn<|za I (zg (n:=2) I k9)<|za I (zp 0 I I I k9 zm)<|zd I ?_)))))));refine za I (zU (e:=3) 1 I I k9 k9 o9<|YI hi) (za I (zS I I k9 s9)<|zu (S:=[]) (zv (jG (z:=60 * Co.vcg V bd n i) (Ks o9 o9) o9 o9 d9 d9 d9 o9) I ⟨zc _,zc _,t9⟩ I)<|zd I<|za I (zo I I)<|za I (zo I I) (SWl.e2 (S:=[]) (Ef.alloc (zs:=[.bool false,.slice none 0 0,.bool false,.slice none 0 0]) k9 I) fun g10=>(zu (S:=[_]) (zA 4 I I I k9 I<|m9 I)<|zf I<|ze<|zh<|zn<|zd I<|za I (yv I I)<|ze<|zK I I<|zq<|zj<|zn<|za I (zx 4 4 I I k9 I zm)<|za I (zx 1 4 I I k9 I zm)<|zu (S:=[]) (zv (zbx (Ks o9 o9) (Ks o9 o9)<|Ks o9 o9) I ⟨zc _,zc _,t9⟩ I)<|zd I<|za I (zo I I)<|za I (zo I I) (SWl.e2 (S:=[]) (Ef.alloc (zs:=[.bool false,.slice none 0 0,.bool false,.slice none 0 0]) k9 I) fun g11=>(zu (S:=[_]) (zA 5 I I I k9 I<|m9 I)<|zf I<|ze<|zh<|zn<|zd I<|za I (yv I I)<|zF ?_)))))
 refine zj (zK I I<|zq<|zj<|zn<|za I (zx 3 4 I I k9 I zm)<|za I (zx 5 4 I I k9 I zm)<|zu (S:=[]) (zv (con_minK (Ks o9 o9)<|Ks o9 o9) I ⟨zc _,zc _,t9⟩ I)<|za I (zo I I)<|za I (zo I I)<|zu (S:=[_]) (zA 2 I I I k9 I<|m9 I)<|zf I<|ze<|zO (fn:=Tryz.f54) (fun _ _ h=>h)<|Rs.le (Rs.two I (yx 2 I I k9)<|zk I) ?_);exact zc _
theorem con_low1 (i c:Nat) (z:Int) (hz:jN z) (hc:c < 64):Con Tryz.prog 111 [iD z,paD [iD (i:Int)],paD [iD (c:Int)]] (yL<|fX c i z):=by
 obtain ⟨m,rfl⟩:=Int.eq_ofNat_of_zero_le hz.1
 have hm6:m < 6:=by have:=hz.2;omega
 refine yy Tryz.func111 k9 I k9 fun base w0=>(zn<|zf I<|zN<|zd I<|za I (zS I I k9 s9)<|za I (yv I I)<|zd I<|z1 8 I (fun hb8=> ?_) (fun hb8=> ?_))
 ·skip
  refine zJ hb8 (zS I I k9 s9) (zJ hb8 (zH I)<|yN (S:=[]) I I hb8 I (zv (zcj c m hc hm6) I ⟨zc _,zc _,t9⟩ I) ?_);rintro _ rfl;refine za I (zE I hb8 I) (zf I<|ze<|zO (fn:=Tryz.f111) (fun _ _ h=>h)<|Rs.le (zG I<|zk I) ?_)
  exact Zg (by first | (simp only [fX,J7];simp at hb8;simp [hb8]) | (simp at hb8;simp [fX,hb8]))
 ·skip
  refine zt hb8 (zt hb8<|zt hb8<|za I (zw I hb8 I)<|zf I<|ze<|zO (fn:=Tryz.f111) (fun _ _ h=>h)<|Rs.le (zG I<|zk I) ?_)
  exact Zg (by first | (simp only [fX,J7];simp at hb8;simp [hb8]) | (simp at hb8;simp [fX,hb8]))
theorem le_low {i c:Nat} (hc:c < 64):Le (fnD 111 [paD [iD (i:Int)],paD [iD (c:Int)]]) (prD Tryz.prog jN<|fX c i):=zbn fun z hz=>con_low1 i c z hz hc
theorem zfc (Fp:LN) (Ap:Option Addr) (cp:Nat) (V bd p:Nat→Int) (n i:Nat) (hi:i < n) (hp:∀ k < n,0≤p k∧p k≤65970697666560) (hmk:Co.Mkt n V bd) (hV:∀ c < 2 ^ n,0≤V c∧V c≤6597069766656):ConR Tryz.prog 55 [.r Fp<|yi 78 4 (jY 60) Ap cp<|zB p n] [Z8 [lsD z7<|zB V<|2 ^ n,lsD z7<|zB bd n,lsD z7<|zB (Co.vcg V bd n) n],iD (i:Int),isD<|.slice Ap (zB p n).length cp] (fun _:Unit=>[.r Fp<|yi 78 4 (jY 60) Ap cp<|zB p n]) (fun _:Unit=>ZH [qKD 60<|Co.lw V bd n i p<|2 ^ n,iD 0]):=by
 have hn6:=hmk.n6;have hS64:2 ^ n≤64:=Co.pow_le64 hn6;refine yt Tryz.func55 k9 I k9 fun base w0=>(zn (SWl.e2 (S:=[]) (ym I I) fun g3=>(SWl.e2 (S:=[]) (Y6 I (fun _ _ _ h=>Zo<|One.h _ _ _ h) I) fun g4=>(SWl.e2 (S:=[]) (Ef.alloc (zs:=[.bool false,.slice none 0 0,.bool false,.slice none 0 0]) k9 I) fun g6=>(zf I<|zN<|zu (S:=[]) (zv (jF<|Ks d9 d9) I t9 I) (SWl.e2 (S:=[]) (Ef.alloc (zs:=[.bool false,.slice none 0 0,.bool false,.slice none 0 0]) k9 I) fun g8=>(zu (S:=[_]) (zA 4 I I I k9 I<|m9 I)<|ze<|zh<|zh<|SW.freezeP 2 4 I I<|SW.sub (σ':=yb [(2,_),(3,_),(4,_),(6,_),(8,_)] [_,_,_,_]) (sB [0,1,2,3] I I)<|zi<|za I (zg (n:=0) I k9)<|za I (zp 1 I I I k9 zm)<|za I (zT (e:=3) I k9)<|zd I<|ze<|SW.block<|yd (ι:={c:Nat // c≤2 ^ n}) (fun q=>yb [(2,isD<|.slice Ap (zB p n).length cp),(3,pA g3),(4,paD [iD (i:Int)]),(6,pA g6),(8,pA g8),(19,iD ((2 ^ n:Nat):Int)),(20,iD (q.1:Int))] [.r Fp<|yi 78 4 (jY 60) Ap cp<|zB p n,.c g3 [lsD z7<|zB V<|2 ^ n,lsD z7<|zB bd n,lsD z7<|zB (Co.vcg V bd n) n],.c g6 [isD<|.bool false,isD<|.slice none 0 0,isD<|.bool false,isD<|.slice none 0 0],.c g8<|qKC 60<|Co.lw V bd n i p q.1]) (fun q=>2 ^ n - q.1) (⟨0,JC _⟩) ?_ ?_)))))))
 ·exact ⟨⟨_,I,⟨lq I,⟨lq I,⟨lq I,⟨lq I,⟨lq I,⟨⟨_,I,zI (by rw [zW])⟩,⟨lq I,t9⟩⟩⟩⟩⟩⟩⟩⟩,[0,1,2,3],by decide,(sX rfl)⟩
 ·rintro ⟨c,hc⟩ K0 hK0;dsimp only at hc ⊢;refine zn (za I (yc I I)<|ze<|zh<|zC I (fun hb21=> ?_) (fun hb21=> ?_))
  ·have h21:c < 2 ^ n:=by have h:=oT hb21;omega
   refine zq (zj<|zh<|SW.block<|zh ?_)
   have hc2:c < 2 ^ n:=by omega
   have hlb:=lw_bd hmk hp (i:=i) c hc;have hnd:=Ws hmk hc2;have hxb:=ox_bd (c:=c) (i:=i) hn6 hp;refine zi (zd I<|zf I<|zN<|zd I (SWl.e2 (S:=[]) (Ef.alloc (zs:=[.int .i64 0]) k9 I) fun g10=>(zu (S:=[_]) (yW 4 I I I k9 I<|m9 I)<|ze<|zh<|zn<|za I (zp 4 I I I k9 zm)<|za I (zS I I k9 s9)<|zu (S:=[]) (zv (zdg c i o9 o9) I ⟨zc _,zc _,t9⟩ I)<|ze<|zC I (fun hb26=> ?_) (fun hb26=> ?_))))
   ·skip
    refine zQ ?_
    repeat (first | refine zX ?_ | refine zY d9 ?_ | refine zbH ?_)
    exact zZ (zj<|zi<|za I (Rd.add I I ⟨by omega,by omega⟩)<|zd I<|zF (fun aK wK hh=>hK0 (⟨c + 1,by omega⟩) (by dsimp only;omega) aK wK<|hh.sub<|⟨⟨_,I,⟨lq I,⟨lq I,⟨lq I,⟨lq I,⟨lq I,⟨lq I,⟨⟨_,I,zI s9⟩,t9⟩⟩⟩⟩⟩⟩⟩⟩,[0,1,2,3],by decide,⟨lR rfl,⟨la rfl,⟨la rfl,⟨⟨_,rfl,(by dsimp only;rw [lw_yes hb26];exact Zk _)⟩,trivial⟩⟩⟩⟩⟩))
   ·skip
    refine zq (zj<|zh<|SW.freezeP 4 10 I I<|zi<|za I (VH I)<|zf I<|zN<|zd I<|zd I<|za I (Zx (e:=78) I k9)<|zd I<|zu (S:=[]) (zv (Yj n<|fX c i) I ⟨zI (by rw [zW]),le_low o9,t9⟩ I)<|Zc (yh [0] (con_paidX (Fp:=Fp) (Ap:=Ap) (cp:=cp) (p:=p) (n:=n) (c:=c) (i:=i) hn6 hp) I ⟨zc _,zc _,t9⟩ d9 ⟨lR I,t9⟩ (fun _ h=>h) I) ?_);rintro _ ⟨_,rfl⟩;refine zd I (za I (zo I I)<|za I (zo I I) (SWl.e2 (S:=[]) (Ef.alloc (zs:=[.bool false,.slice none 0 0,.bool false,.slice none 0 0]) k9 I) fun g12=>(zu (S:=[_]) (zA 4 I I I k9 I<|m9 I)<|zf I<|ze<|zh<|zn<|zd I<|za I (yv I I)<|ze<|zK I I<|zq<|zj<|zn<|za I (zx 0 3 I I k9 I zm)<|za I (zS I I k9 s9)<|zu (S:=[]) (zv (zbu V bd (Co.vcg V bd n) n c hn6 hc2 hV hmk.bd0) I ⟨zc _,zc _,t9⟩ I)<|zu (S:=[]) (zv (jG (z:=60 * Co.need V bd n c) (Ks o9 o9) o9 o9 d9 d9 d9 o9) I ⟨zc _,zc _,t9⟩ I)<|zd I<|za I (zo I I)<|za I (zo I I) (SWl.e2 (S:=[]) (Ef.alloc (zs:=[.bool false,.slice none 0 0,.bool false,.slice none 0 0]) k9 I) fun g14=>(zu (S:=[_]) (zA 5 I I I k9 I<|m9 I)<|zf I<|ze<|zh<|zn<|zd I<|za I (yv I I)<|ze<|zK I I ?_)))))
    refine zq (zj<|zn<|za I (zx 5 4 I I k9 I zm)<|za I (zx 4 4 I I k9 I zm)<|zu (S:=[]) (zv (con_subK (Ks o9 o9) (Ks o9 o9)<|Ks o9 o9) I ⟨zc _,zc _,t9⟩ I)<|zd I<|za I (zo I I)<|za I (zo I I) (SWl.e2 (S:=[]) (Ef.alloc (zs:=[.bool false,.slice none 0 0,.bool false,.slice none 0 0]) k9 I) fun g15=>(zu (S:=[_]) (zA 6 I I I k9 I<|m9 I)<|zf I<|ze<|zh<|zn<|zd I<|za I (yv I I)<|ze<|zK I I<|zq<|zj<|zn<|za I (zx 2 4 I I k9 I zm)<|za I (zx 6 4 I I k9 I zm)<|zu (S:=[]) (zv (zeg (Ks o9 o9)<|Ks o9 o9) I ⟨zc _,zc _,t9⟩ I)<|zd I<|za I (zo I I)<|za I (zo I I)<|zu (S:=[_]) (zA 2 I I I k9 I<|m9 I)<|zf I<|zN<|zd I ?_)));exact za I (yv I I) (ze<|zK I I<|zq<|SN.block<|zj<|zi<|za I (Rd.add I I ⟨by omega,by omega⟩)<|zd I<|zF (fun aK wK hh=>hK0 (⟨c + 1,by omega⟩) (by dsimp only;omega) aK wK<|hh.sub<|⟨⟨_,I,⟨lq I,⟨lq I,⟨lq I,⟨lq I,⟨lq I,⟨lq I,⟨⟨_,I,zI s9⟩,t9⟩⟩⟩⟩⟩⟩⟩⟩,[3,0,1,2],by decide,⟨lR rfl,⟨la rfl,⟨la rfl,⟨⟨_,rfl,(by dsimp only;rw [lw_no hb26];exact Zk _)⟩,trivial⟩⟩⟩⟩⟩))
  ·have h21:¬c < 2 ^ n:=by have h:=oF hb21;omega
   refine zQ ?_
   repeat (first | refine zX ?_ | refine zY d9 ?_ | refine zbH ?_)
   refine zZ (zj<|zn<|za I (zx 3 4 I I k9 I zm)<|zu (S:=[_]) (zA 2 I I I k9 I<|m9 I)<|zf I<|ze<|zV (fn:=Tryz.f55) (()) [0] (fun _ _ h=>h) (Rs.le (Rs.two I (yx 2 I I k9)<|zk I) ?_) d9 ⟨lR I,t9⟩)
   have e:c=2 ^ n:=by omega
   rw [e];exact zc _
end
section
theorem Vy (b:Int) (l:List Co.Cl) (ws:List Co.Wi) (hw:ws.length≤1000000) (hv:Co.VW b l ws):Con Tryz.prog 13 [iD b,lsD yJ l,lsD ZM ws] (ZH [lsD (jY 60)<|zB (pyS (Co.vO b l ws) (Co.bO b l ws) l.length l.length) l.length,iD 0]):=by
 have hmk:=Co.mkt hv;have hn6:=hmk.n6;have hth:=Wc hmk (2 ^ l.length) (Js _);refine yy Tryz.func13 k9 I k9 fun base w0=>(zn<|zf I<|zf I<|zN<|zd I<|zd I<|zd I<|zu (S:=[]) (zv (zbv b l ws hw hv) I ⟨zc _,zc _,zc _,t9⟩ I)<|zd I<|za I (zo I I)<|za I (zo I I) (SWl.e2 (S:=[]) (Ef.alloc (zs:=[.slice none 0 0,.slice none 0 0,.slice none 0 0]) k9 I) fun g8=>(zu (S:=[_]) (zA 0 I I I k9 I<|m9 I)<|zf I<|ze<|zh<|zn<|zd I<|za I (yv I I)<|ze<|zK I I<|zq<|zj<|zn<|za I (zx 0 3 I I k9 I zm)<|zu (S:=[]) (zv (con_thr (Co.vO b l ws) (Co.bO b l ws) l.length hmk (fun c _=>Co.vO_ub hv c)) I ⟨zc _,t9⟩ I)<|zd I<|za I (zo I I)<|za I (zo I I) (SWl.e2 (S:=[]) (Ef.alloc (zs:=[.bool false,.slice none 0 0,.bool false,.slice none 0 0]) k9 I) fun g10=>(zu (S:=[_]) (zA 1 I I I k9 I<|m9 I) ?_)))));refine zf I (ze<|zh<|zn<|zd I<|za I (yv I I)<|ze<|zK I I<|zq<|zj<|zn<|zd I<|za I (zT (e:=70) I k9) (SWl.e2 (S:=[]) (V9 (e:=78) (n:=l.length) (z:= .agg #[.bool false,.slice none 0 0,.bool false,.slice none 0 0]) encO none 4 64 I I k9 k9 k9 d9 I I I o9 d9 I) fun g34=>(zf I<|ze<|zh<|zh<|SW.sub (σ':=yb [(8,_),(10,_),(11,isD<|.slice (some ⟨g34,0,none⟩) (flO (pyR (Co.vO b l ws) (Co.bO b l ws) l.length) l.length 0).length l.length)] [.c g8 [lsD z7<|zB (Co.vO b l ws)<|2 ^ l.length,lsD z7<|zB (Co.bO b l ws) l.length,lsD z7<|zB (Co.vcg (Co.vO b l ws) (Co.bO b l ws) l.length) l.length],.c g10<|qKC 60<|thT (Co.vO b l ws) (Co.bO b l ws) l.length,.r [g34]<|yi 78 4 encO (some ⟨g34,0,none⟩) l.length<|flO (pyR (Co.vO b l ws) (Co.bO b l ws) l.length) l.length 0]) (⟨⟨_,I,⟨lq I,⟨lq I,⟨⟨_,I,zI (by rw [ji])⟩,t9⟩⟩⟩⟩,[0,1,2],by decide,⟨la rfl,⟨la rfl,⟨⟨_,rfl,(by rw [flO_zero];exact zM _)⟩,trivial⟩⟩⟩⟩)<|zi<|zd I<|za I (Zx (e:=78) I k9)<|zd I<|ze<|SW.block<|yd (ι:={i:Nat // i≤l.length}) (fun i=>yb [(8,pA g8),(10,pA g10),(11,isD<|.slice (some ⟨g34,0,none⟩) (flO (pyR (Co.vO b l ws) (Co.bO b l ws) l.length) l.length i.1).length l.length),(36,iD (l.length:Int)),(37,iD (i.1:Int))] [.c g8 [lsD z7<|zB (Co.vO b l ws)<|2 ^ l.length,lsD z7<|zB (Co.bO b l ws) l.length,lsD z7<|zB (Co.vcg (Co.vO b l ws) (Co.bO b l ws) l.length) l.length],.c g10<|qKC 60<|thT (Co.vO b l ws) (Co.bO b l ws) l.length,.r [g34]<|yi 78 4 encO (some ⟨g34,0,none⟩) l.length<|flO (pyR (Co.vO b l ws) (Co.bO b l ws) l.length) l.length i.1]) (fun i=>l.length - i.1) (⟨0,JC _⟩) ?_ ?_)))
 ·exact ⟨⟨_,I,⟨lq I,⟨lq I,⟨lq I,⟨⟨_,I,zI (by rw [ji])⟩,⟨lq I,t9⟩⟩⟩⟩⟩⟩,[0,1,2],by decide,(sX rfl)⟩
 ·rintro ⟨i,hi⟩ K0 hK0;dsimp only at hi ⊢;refine zn (za I (yc I I)<|ze<|zh<|zC I (fun hb38=> ?_) (fun hb38=> ?_))
  ·have h38:(i:Int) < (l.length:Int):=oT hb38;refine zq (zj<|zh<|SW.block<|zn<|zd I<|zf I<|zN<|zd I<|zd I<|za I (zx 0 3 I I k9 I zm)<|zd I<|za I (zx 1 4 I I k9 I zm)<|zu (S:=[]) (zv (zfa (Co.vO b l ws) (Co.bO b l ws) l.length i (thT (Co.vO b l ws) (Co.bO b l ws) l.length) o9 hth.1 hth.2 hmk (fun c _=>Co.vO_ub hv c)) I ⟨zc _,zc _,zc _,t9⟩ I)<|zd I<|za I (zo I I)<|za I (zo I I)<|za I (yf 2 4 I I I k9 k9 o9 (by rw [ji];omega))<|zu (S:=_) (KY (v:=(some<|pyR (Co.vO b l ws) (Co.bO b l ws) l.length i)) 2 4 I I I k9 (by rw [ji];omega) (fun _ h=>h))<|zf I<|zN<|zd I<|za I (yv I I)<|ze<|zK I I<|zq<|SN.block<|zj<|zi<|za I (Rd.add I I ⟨by omega,by omega⟩)<|zd I<|zF ?_);exact fun aK wK hh=>hK0 (⟨i + 1,by omega⟩) (by dsimp only;omega) aK wK (hh.sub<|⟨⟨_,I,⟨lq I,⟨lq I,⟨⟨_,I,zI (by dsimp only;rw [ji,ji])⟩,⟨lq I,⟨⟨_,I,zI s9⟩,t9⟩⟩⟩⟩⟩⟩,[0,1,2],by decide,⟨la rfl,⟨la rfl,⟨⟨_,rfl,(by dsimp only;rw [Int.toNat_natCast,flO_set o9];exact zM _)⟩,trivial⟩⟩⟩⟩)
  ·have h38:¬(i:Int) < (l.length:Int):=oF hb38;refine zQ ?_
   repeat (first | refine zX ?_ | refine zY d9 ?_)
   refine zZ (zj<|zh<|zh<|SW.sub (σ':=yb [(8,_),(11,isD<|.slice (some ⟨g34,0,none⟩) (zB (pyS (Co.vO b l ws) (Co.bO b l ws) l.length 0) l.length).length l.length)] [.c g8 [lsD z7<|zB (Co.vO b l ws)<|2 ^ l.length,lsD z7<|zB (Co.bO b l ws) l.length,lsD z7<|zB (Co.vcg (Co.vO b l ws) (Co.bO b l ws) l.length) l.length],.r [g34]<|yi 78 4 (jY 60) (some ⟨g34,0,none⟩) l.length<|zB (pyS (Co.vO b l ws) (Co.bO b l ws) l.length 0) l.length]) (⟨⟨_,I,⟨lq I,⟨⟨_,I,zI (by rw [ji,zW])⟩,t9⟩⟩⟩,[0,2],by decide,⟨la rfl,⟨⟨_,rfl,(le_flO (show i=l.length by omega))⟩,trivial⟩⟩⟩)<|zi<|zd I<|za I (Zx (e:=78) I k9)<|zd I<|ze<|SW.block<|yd (ι:={k:Nat // k≤l.length}) (fun k=>yb [(8,pA g8),(11,isD<|.slice (some ⟨g34,0,none⟩) (zB (pyS (Co.vO b l ws) (Co.bO b l ws) l.length k.1) l.length).length l.length),(55,iD (l.length:Int)),(56,iD (k.1:Int))] [.c g8 [lsD z7<|zB (Co.vO b l ws)<|2 ^ l.length,lsD z7<|zB (Co.bO b l ws) l.length,lsD z7<|zB (Co.vcg (Co.vO b l ws) (Co.bO b l ws) l.length) l.length],.r [g34]<|yi 78 4 (jY 60) (some ⟨g34,0,none⟩) l.length<|zB (pyS (Co.vO b l ws) (Co.bO b l ws) l.length k.1) l.length]) (fun k=>l.length - k.1) (⟨0,JC _⟩) ?_ ?_)
   ·exact ⟨⟨_,I,⟨lq I,⟨lq I,⟨⟨_,I,zI (by rw [zW])⟩,⟨lq I,t9⟩⟩⟩⟩⟩,[0,1],by decide,(sX rfl)⟩
   ·rintro ⟨k,hk⟩ K1 hK1;dsimp only at hk ⊢;refine zn (za I (yc I I)<|ze<|zh<|zC I (fun hb57=> ?_) (fun hb57=> ?_))
    ·have h57:(k:Int) < (l.length:Int):=oT hb57;refine zq (zj<|zh<|SW.block<|zn<|zd I<|zf I<|zN<|zd I<|zd I<|za I (zx 0 3 I I k9 I zm)<|zd I<|zd I<|Zc (yh [1] (zfc [g34] (some ⟨g34,0,none⟩) l.length (Co.vO b l ws) (Co.bO b l ws) (pyS (Co.vO b l ws) (Co.bO b l ws) l.length k) l.length k o9 (pyS_bd hmk o9) hmk (fun c _=>Co.vO_ub hv c)) I ⟨zc _,zc _,zc _,t9⟩ d9 ⟨lR I,t9⟩ (fun _ h=>h) I) ?_);rintro _ ⟨_,rfl⟩;exact zd I (za I (zo I I)<|za I (zo I I)<|za I (yf 1 4 I I I k9 k9 o9 (by rw [zW];omega))<|zu (S:=_) (KY (v:=(Co.lw (Co.vO b l ws) (Co.bO b l ws) l.length k (pyS (Co.vO b l ws) (Co.bO b l ws) l.length k)<|2 ^ l.length)) 1 4 I I I k9 (by rw [zW];omega) (fun _ h=>h))<|zf I<|zN<|zd I<|za I (yv I I)<|ze<|zK I I<|zq<|SN.block<|zj<|zi<|za I (Rd.add I I ⟨by omega,by omega⟩)<|zd I<|zF (fun aK wK hh=>hK1 (⟨k + 1,by omega⟩) (by dsimp only;omega) aK wK<|hh.sub<|⟨⟨_,I,⟨lq I,⟨⟨_,I,zI (by dsimp only;rw [zW,zW])⟩,⟨lq I,⟨⟨_,I,zI s9⟩,t9⟩⟩⟩⟩⟩,[0,1],by decide,⟨la rfl,⟨⟨_,rfl,(by dsimp only;rw [Int.toNat_natCast,pyS_step o9];exact zM _)⟩,trivial⟩⟩⟩))
    ·have h57:¬(k:Int) < (l.length:Int):=oF hb57;refine zQ ?_
     repeat (first | refine zX ?_ | refine zY d9 ?_)
     refine zZ (zj<|zn<|zd I<|zf I<|zf I<|ze<|SW.freezeT 1 6 I I (by rw [show k=l.length by omega];exact zc _)<|zO (fn:=Tryz.f13) (fun _ _ h=>h)<|Rs.le (Rs.two I (zk I)<|zk I) ?_);exact zc _
end
section
def encBoR (x:Bool):List D:=[yL x]
instance:Row encBoR 1:=⟨fun _=>rfl,fun x=>by unfold encBoR;infer_instance,by decide⟩
end
section
end
section
end
section
theorem half {c k:Nat}:((c / 2 ^ k:Nat):Int) / 2=((c / 2 ^ (k + 1):Nat):Int):=by
 rw [XI,← Nat.div_div_eq_div_mul];simp
noncomputable instance (V bd:Nat→Int) (n:Nat) (p:Nat→Int):Decidable (Co.In V bd n p):=Classical.propDecidable _
noncomputable def inB (V bd:Nat→Int) (n:Nat) (p:Nat→Int):Bool:=decide (Co.In V bd n p)
theorem inB_iff {V bd:Nat→Int} {n:Nat} (h:Co.Mkt n V bd) {t:Int} (ht:0≤t):inB V bd n (Co.rs bd (Co.vcg V bd n) t)=true↔thT V bd n≤t:=by
 unfold inB;rw [decide_eq_true_iff];exact Co.in_iff h (fun _ _=>Ky _) (fun _ _=>jS _) ht
end
section
end
section
end
section
end
section
noncomputable instance (r:Rw):Decidable r.ok:=Classical.propDecidable _
end
section
end
section
def l0:List Co.Cl:=[⟨1,1⟩,⟨2,1⟩,⟨3,2⟩]
def w0_:List Co.Wi:=[⟨1,0,9⟩,⟨2,1,9⟩,⟨3,0,11⟩]
abbrev V0:Nat→Int:=Co.vO 4 l0 w0_
def rw_ (n d:Int):Rw:=⟨decide (n < 0),(Nm.dg 256 n.natAbs).reverse,decide (d < 0),(Nm.dg 256 d.natAbs).reverse⟩
def rs0:List Rw:=[rw_ 2 1,rw_ 2 1,rw_ 0 1]
theorem rw_num (n d:Int):(rw_ n d).num=n:=ja n
theorem rw_den (n d:Int):(rw_ n d).den=d:=ja d
end
section
theorem bldCl {x y:Int}:Bld Tryz.prog 70 [0,1] [iD x,iD y] [iD x,iD y]:=fun L w vs hv=>by
 obtain ⟨u,v,rfl,rfl,rfl⟩:=zbB hv;exact ⟨[.int .i64 x,.int .i64 y],⟨I,I,t9⟩,fun w'=>by kernel_rfl⟩
theorem bldWi {x y z:Int}:Bld Tryz.prog 73 [0,1,2] [iD x,iD y,iD z] [iD x,iD y,iD z]:=fun L w vs hv=>by
 obtain ⟨u,v,q,rfl,rfl,rfl,rfl⟩:=all3 hv;exact ⟨[.int .i64 x,.int .i64 y,.int .i64 z],⟨I,I,I,t9⟩,fun w'=>by kernel_rfl⟩
theorem agg3d {L:LN} {w:World} {x y z:Int} {v:Value} (h:(Z8 [iD x,iD y,iD z]).R L w v):v= .agg #[.int .i64 x,.int .i64 y,.int .i64 z]:=by
 obtain ⟨cs,rfl,hc⟩:=h
 match cs,hc with
 | [a,b,c],hc=>obtain ⟨rfl,rfl,rfl,-⟩:=hc;rfl
end
section
end
end Sx
end Go.Proofs.YtfoafihodanmhaaGreatDoor
namespace Go.Proofs.YtfoafihodanmhaaGreatDoor
open Go.ChangeShapes Go.WideShapes Go.ChangeAt Go.RowKit
namespace Sx
instance:Inhabited Co.Cl:=⟨⟨0,0⟩⟩
instance:Inhabited Co.Wi:=⟨⟨0,0,0⟩⟩
instance:Inhabited Rw:=⟨⟨false,[],false,[]⟩⟩
theorem came_wish:K6 Tryz.prog 73 ZM (fun _=>True):=fun H enc W fuel cs x h=>by
 obtain ⟨hl,hf⟩:=Zv Tryz.underlying73 h;have hl':cs.length=3:=hl.trans k9;obtain ⟨_,_,h0⟩:=hf 0 _ rfl;obtain ⟨_,_,h1⟩:=hf 1 _ rfl;obtain ⟨_,_,h2⟩:=hf 2 _ rfl;obtain ⟨a,-,a0⟩:=Ze Tryz.underlying3 _ _ _ _ _ _ h0;obtain ⟨c,-,a1⟩:=Ze Tryz.underlying3 _ _ _ _ _ _ h1;obtain ⟨d,-,a2⟩:=Ze Tryz.underlying3 _ _ _ _ _ _ h2;exact ⟨⟨a,c,d⟩,t9,ZS [[iD a],[iD c],[iD d]] cs 0 ⟨a0,a1,a2,t9⟩ (by simpa using hl')⟩
theorem came_wishes:K6 Tryz.prog 43 (fun l:List Co.Wi=>[lsD ZM l]) (fun l=>l.length≤maxLen∧∀ e∈l,True):=YD Tryz.underlying43 k9 d9 came_wish
theorem le_b_raw {b:LB}:Le (bD b) (zeJ<|b.map UInt8.toNat):=by
 have e:cellsOf b=cN .u8 (b.map UInt8.toNat):=by
  unfold cellsOf cN;rw [List.map_map];rfl
 show Le (slD<|cellsOf b) _;rw [e];exact zc _
theorem zcp:K6 Tryz.prog 76 (fun q:Bool × LN=>[yL q.1,zeJ q.2]) (fun q=>∀ d∈q.2,d < 256):=fun H enc W fuel cs x h=>by
 obtain ⟨hl,hf⟩:=Zv Tryz.underlying76 h;have hl':cs.length=2:=hl.trans k9;obtain ⟨_,_,h0⟩:=hf 0 _ rfl;obtain ⟨_,_,h1⟩:=hf 1 _ rfl;obtain ⟨a,-,a0⟩:=came_bool Tryz.underlying4 _ _ _ _ _ _ h0;obtain ⟨b,-,a1⟩:=zaS Tryz.underlying37 Tryz.underlying5 k9 _ _ _ _ _ _ h1;refine ⟨(a,b.map UInt8.toNat),fun d hd=> ?_,ZS [[yL a],[zeJ<|b.map UInt8.toNat]] cs 0 ⟨a0,LeAll.all (ds:=[bD b]) (es:=[zeJ<|b.map UInt8.toNat]) ⟨le_b_raw,t9⟩ a1,t9⟩ (by simpa using hl')⟩;obtain ⟨v,_,rfl⟩:=JI.1 hd;exact v.toNat_lt
theorem zfq:K6 Tryz.prog 78 qk (fun r=>Byt r.b r.c):=fun H enc W fuel cs x h=>by
 obtain ⟨hl,hf⟩:=Zv Tryz.underlying78 h;have hl':cs.length=4:=hl.trans k9;obtain ⟨_,_,h0⟩:=hf 0 _ rfl;obtain ⟨_,_,h1⟩:=hf 1 _ rfl;obtain ⟨⟨s,b⟩,hb,a0⟩:=zcp _ _ _ _ _ _ h0;obtain ⟨⟨t,c⟩,hc,a1⟩:=zcp _ _ _ _ _ _ h1;exact ⟨⟨s,b,t,c⟩,⟨hb,hc⟩,ZS [[yL s,zeJ b],[yL t,zeJ c]] cs 0 ⟨a0,a1,t9⟩ (by simpa using hl')⟩
