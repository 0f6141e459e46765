/- CORE: threshold, raised, lowest, Payments. CORE: Payments. -/
import Derived.Test.YtmflnfnebmbjkaaGreatGZBA
set_option maxHeartbeats 8000000
set_option maxRecDepth 100000
namespace Go.Proofs.YtmflnfnebmbjkaaGreat
open Go.RowKit
namespace Sx
section
def fX (c i:Nat) (z:Int):Bool:= !decide (z=(i:Int)) && !Co.bt c z.toNat
theorem mS_ox {c i n:Nat} {p:Nat→Int}:Co.mS p (Co.mem n<|fX c i)=Co.ox c i p n:=by
 rw [Co.mS_mem];refine Co.sm_congr fun k _=> ?_;unfold fX;rw [J7]
 by_cases h1:k=i
 ·subst h1;simp
 ·have h2:¬(k:Int)=(i:Int):=by omega
  cases hb:Co.bt c k <;> simp [h1,h2]
theorem ox_bd {c i n:Nat} {p:Nat→Int} (hn:n≤6) (hp:∀ k < n,0≤p k∧p k≤65970697666560):0≤Co.ox c i p n∧Co.ox c i p n≤395824185999360:=by
 have h1:0≤Co.ox c i p n:=Co.sm_nonneg fun k hk=>by have:=hp k hk;split <;> omega
 have h2:Co.ox c i p n≤Co.oc 0 (fun _=>65970697666560) n:=Co.sm_le fun k hk=>by have:=hp k hk;simp [Co.bt];split <;> omega
 have h3:=Co.oc_ub (c:=0) (p:=fun _=>65970697666560) (n:=n) (M:=65970697666560) d9 (fun _ _=>by omega);have h4:=Int.mul_le_mul_of_nonneg_right (show (n:Int)≤6 by omega) (show (0:Int)≤65970697666560 by decide);omega
theorem lw_bd {V bd:Nat→Int} {n i:Nat} {p:Nat→Int} (h:Co.Mkt n V bd) (hp:∀ k < n,0≤p k∧p k≤65970697666560):∀ k≤2 ^ n,0≤Co.lw V bd n i p k∧Co.lw V bd n i p k≤395824185999360
 | 0,_=>by simp [Co.lw]
 | k + 1,hk=>by
  have h1:=lw_bd h hp (i:=i) k o9;have h2:=qs h (show k < 2 ^ n by omega);have h3:=ox_bd (c:=k) (i:=i) h.n6 hp
  rw [Co.lw];split <;> omega
theorem lw_yes {V bd:Nat→Int} {n i k:Nat} {p:Nat→Int} (h:Co.bt k i=true):Co.lw V bd n i p (k + 1)=Co.lw V bd n i p k:=Jh h
theorem lw_no {V bd:Nat→Int} {n i k:Nat} {p:Nat→Int} (h:Co.bt k i=false):Co.lw V bd n i p (k + 1)=max (Co.lw V bd n i p k) (60 * Co.need V bd n k - Co.ox k i p n):=Jb (by rw [h];decide)
theorem con_paidX {Fp:LN} {Ap:Option Addr} {cp:Nat} {p:Nat→Int} {n c i:Nat} (hn:n≤6) (hb:∀ k < n,0≤p k∧p k≤65970697666560):ConR Tryz.prog 46 [.r Fp<|yq 43 4 (Yi 60) Ap cp<|zz p n] [isD<|.slice Ap (zz p n).length cp,fnD 70 [paD [iD (n:Int)],paD [prD Tryz.prog qd<|fX c i]]] (fun _:Unit=>[.r Fp<|yq 43 4 (Yi 60) Ap cp<|zz p n]) (fun _=>Zq [qKD 60<|Co.ox c i p n,iD 0]):=by
 have h:=con_paidO Fp Ap cp 60 p n (fX c i) hn d9 sm61 (fun k hk=>by have:=hb k hk;omega);rw [mS_ox] at h;exact h
def encO:Option Int→List D
 | some x=>qKC 60 x
 | none=>[isD<|.bool false,isD<|.slice none 0 0,isD<|.bool false,isD<|.slice none 0 0]
instance:Row encO 4:=⟨fun x=>by cases x <;> rfl,fun x=>by cases x <;> (unfold encO;infer_instance),by decide⟩
instance (x:Option Int):Ones (encO x):=by cases x <;> (unfold encO;infer_instance)
def flO (p:Nat→Int) (n i:Nat):List (Option Int):=(List.range n).map fun k=>if k < i then some (p k) else none
theorem YT {p:Nat→Int} {n i:Nat}:(flO p n i).length=n:=by simp [flO]
theorem flO_zero {p:Nat→Int} {n:Nat}:flO p n 0=List.replicate n none:=by
 apply Xh;intro k;unfold flO
 by_cases h:k < n
 ·rw [JJ,List.getElem?_range h,Xj,Jh h];rfl
 ·rw [JM (by simp;omega),JM (by simp;omega)]
theorem flO_set {p:Nat→Int} {n i:Nat} (hi:i < n):(flO p n i).set i (some<|p i)=flO p n (i + 1):=by
 apply Xh;intro k;unfold flO
 by_cases h:k < n
 ·by_cases e:k=i
  ·subst e;rw [List.getElem?_set_self (by simpa using h),JJ,List.getElem?_range h];simp
  ·rw [List.getElem?_set_ne (fun h=>e h.symm),JJ,JJ,List.getElem?_range h]
   have hk:k < i↔k < i + 1:=by omega
   simp only [Option.map_some,hk]
 ·rw [JM (by simp;omega),JM (by simp;omega)]
theorem flO_all {p:Nat→Int} {n i:Nat} (h:i=n):(flO p n i).flatMap encO=(zz p n).flatMap (Yi 60):=by
 subst h;refine lsD_eq (by rw [YT,zT]) fun k x y hx hy=> ?_
 have hk:k < i:=by have:=(Jg.1 hy).1;rwa [zT] at this
 unfold flO at hx;rw [JJ,List.getElem?_range hk,Option.map_some,Jh hk] at hx;rw [Zg hk] at hy;rw [← JN hx,← JN hy];rfl
theorem le_flO {e c:Nat} {A:Option Addr} {p:Nat→Int} {n i:Nat} (h:i=n):LeR (yq e 4 encO A c<|flO p n i) (yq e 4 (Yi 60) A c<|zz p n):=by
 unfold yq;rw [flO_all h,YT,zT];exact zI _
theorem WT {p q:Nat→Int} {n i:Nat} {x:Int} (hi:i < n) (h1:q i=x) (h2:∀ k < n,k≠i→q k=p k):(zz p n).set i x=zz q n:=by
 apply Xh;intro k
 by_cases h:k < n
 ·by_cases e:k=i
  ·subst e;rw [List.getElem?_set_self (by rw [zT];exact h),Zg h,h1]
  ·rw [List.getElem?_set_ne (fun h=>e h.symm),Zg h,Zg h,h2 k h e]
 ·rw [JM (by rw [Xl,zT];omega),JM (by rw [zT];omega)]
def thT (V bd:Nat→Int) (n:Nat):Int:=Co.thr (rcF V bd n) (2 ^ n)
def pyR (V bd:Nat→Int) (n:Nat):Nat→Int:=Co.rs bd (Co.vcg V bd n) (thT V bd n)
def pyS (V bd:Nat→Int) (n k:Nat):Nat→Int:=Co.pay V bd n (pyR V bd n) k
theorem pyR_in {V bd:Nat→Int} {n:Nat} (h:Co.Mkt n V bd):Co.In V bd n (pyR V bd n):=
 (Co.in_iff h (fun _ _=>YQ _) (fun _ _=>Ye _) (jJ h (2 ^ n)<|Js _).1).2 (Int.le_refl _)
theorem pyR_bd {V bd:Nat→Int} {n:Nat} (h:Co.Mkt n V bd):∀ i < n,0≤pyR V bd n i∧pyR V bd n i≤65970697666560:=fun i hi=>by
 have h1:=Co.rs_nonneg h (jJ h (2 ^ n)<|Js _).1 hi;have h2:=h.bd0 i hi;unfold pyR thT;omega
theorem Wb {V bd:Nat→Int} {n k:Nat} (h:Co.Mkt n V bd) (hk:k≤n):∀ i < n,0≤pyS V bd n k i∧pyS V bd n k i≤65970697666560:=fun i hi=>by
 have h1:=(Co.pay_spec (pyR_in h) (fun i hi=>(pyR_bd h i hi).1) k hk).2.1 i hi;have h2:=pyR_bd h i hi;unfold pyS;omega
theorem pyS_step {V bd:Nat→Int} {n k:Nat} (hk:k < n):(zz (pyS V bd n k) n).set k (Co.lw V bd n k (pyS V bd n k)<|2 ^ n)=zz (pyS V bd n<|k + 1) n:=
 WT hk (by unfold pyS;rw [Co.pay];exact Jh rfl) fun j _ hj=>by unfold pyS;rw [Co.pay];exact Jb hj
theorem con_thr (V bd:Nat→Int) (n:Nat) (hmk:Co.Mkt n V bd) (hV:∀ c < 2 ^ n,0≤V c∧V c≤6597069766656):Con Tryz.prog 53 [Yq [lsD z2<|zz V<|2 ^ n,lsD z2<|zz bd n,lsD z2<|zz (Co.vcg V bd n) n]] (Zq [qKD 60<|thT V bd n,iD 0]):=by
 have hn6:=hmk.n6;have hS64:2 ^ n≤64:=Co.pow_le64 hn6;refine z6 Tryz.func53 k9 I k9 fun base w0=>(zp (SWl.e2 (S:=[]) (yo I I) fun g1=>(SWl.e2 (S:=[]) (Ef.alloc (zs:=[.bool false,.slice none 0 0,.bool false,.slice none 0 0]) k9 I) fun g2=>(zd I<|zS<|zq (S:=[]) (zn (Y8<|j4 d9 d9) I t9 I) (SWl.e2 (S:=[]) (Ef.alloc (zs:=[.bool false,.slice none 0 0,.bool false,.slice none 0 0]) k9 I) fun g4=>(zq (S:=[_]) (zy 2 I I I k9 I<|m9 I)<|zd I<|ze<|zh<|zp<|za I (zm (n:=0) I k9)<|za I (zB 0 I I I k9 zt)<|za I (zY (e:=3) I k9)<|zc I<|ze<|SW.block<|z1 (ι:={c:Nat // c≤2 ^ n}) (fun p=>z8 [(1,pA g1),(2,pA g2),(4,pA g4),(11,iD ((2 ^ n:Nat):Int)),(12,iD (p.1:Int))] [.c g1 [lsD z2<|zz V<|2 ^ n,lsD z2<|zz bd n,lsD z2<|zz (Co.vcg V bd n) n],.c g2 [isD<|.bool false,isD<|.slice none 0 0,isD<|.bool false,isD<|.slice none 0 0],.c g4<|qKC 60<|Co.thr (rcF V bd n) p.1]) (fun p=>2 ^ n - p.1) (⟨0,JC _⟩) ?_ ?_))))))
 ·exact ⟨⟨_,I,⟨lq I,⟨lq I,⟨lq I,⟨⟨_,I,zE (by rw [zT])⟩,⟨lq I,t9⟩⟩⟩⟩⟩⟩,[0,1,2],by decide,(sX rfl)⟩
 ·rintro ⟨c,hc⟩ K0 hK0;dsimp only at hc ⊢;refine zp (za I (ya I I)<|ze<|zh<|zD I (fun hb13=> ?_) (fun hb13=> ?_))
  ·have h13:c < 2 ^ n:=by have h:=oT hb13;omega
   refine zw (zg<|zh<|SW.block<|zh ?_)
   have hc2:c < 2 ^ n:=by omega
   have hth:=jJ hmk c hc;have hrb:=rcF_bd hmk hc2;refine zf (zc I<|zd I<|zS (SWl.e2 (S:=[]) (Ef.alloc (zs:=[.bool false,.slice none 0 0,.bool false,.slice none 0 0]) k9 I) fun g7=>(ze<|zh<|zp<|za I (zx 0 3 I I k9 I zt)<|zc I<|zq (S:=[]) (zn (con_reach V bd n c hc2 hmk hV) I ⟨zb _,zb _,t9⟩ I)<|zc I<|za I (zi I I)<|za I (zi I I)<|zq (S:=[_]) (zy 3 I I I k9 I<|m9 I)<|zd I<|zS<|zc I<|za I (yj I I)<|ze<|zJ I I<|zw<|zg<|zp<|za I (zx 2 4 I I k9 I zt)<|za I (zx 3 4 I I k9 I zt)<|zq (S:=[]) (zn (zbh (j4 o9 o9)<|j4 o9 o9) I ⟨zb _,zb _,t9⟩ I)<|zc I<|za I (zi I I)<|za I (zi I I) ?_)));exact zq (S:=[_]) (zy 2 I I I k9 I<|m9 I) (zd I<|zS<|zc I<|za I (yj I I)<|ze<|zJ I I<|zw<|SN.block<|zg<|zf<|za I (Rd.add I I ⟨by omega,by omega⟩)<|zc I<|zv (fun aK wK hh=>hK0 (⟨c + 1,by omega⟩) (by dsimp only;omega) aK wK<|hh.sub<|⟨⟨_,I,⟨lq I,⟨lq I,⟨lq I,⟨lq I,⟨⟨_,I,zE s9⟩,t9⟩⟩⟩⟩⟩⟩,[0,1,2],by decide,(sX rfl)⟩))
  ·have h13:¬c < 2 ^ n:=by have h:=oF hb13;omega
   refine zL ?_
   repeat (first | refine zV ?_ | refine zW d9 ?_)
   refine zX (zg<|zp<|za I (zx 2 4 I I k9 I zt)<|zq (S:=[_]) (zy 1 I I I k9 I<|m9 I)<|zd I<|ze<|zG (fn:=Tryz.f53) (fun _ _ h=>h)<|Rs.le (Rs.two I (zZ 1 I I k9)<|zo I) ?_)
   have e:c=2 ^ n:=by omega
   rw [e];exact zb _
theorem VJ (b:Int) (l:List Co.Cl) (ws:List Co.Wi) (hw:ws.length≤1000000) (hv:Co.VW b l ws):Con Tryz.prog 20 [iD b,lsD yc l,lsD yJ ws] (Zq [qKD 60<|thT (Co.vO b l ws) (Co.bO b l ws) l.length,iD 0]):=by
 refine z6 Tryz.func20 k9 I k9 fun base w0=>(zp (SWl.e2 (S:=[]) (Ef.alloc (zs:=[.bool false,.slice none 0 0,.bool false,.slice none 0 0]) k9 I) fun g6=>(zd I<|zS<|zc I<|zc I<|zc I<|zq (S:=[]) (zn (jZ b l ws hw hv) I ⟨zb _,zb _,zb _,t9⟩ I)<|zc I<|za I (zi I I)<|za I (zi I I) (SWl.e2 (S:=[]) (Ef.alloc (zs:=[.slice none 0 0,.slice none 0 0,.slice none 0 0]) k9 I) fun g8=>(zq (S:=[_]) (zy 1 I I I k9 I<|m9 I)<|zd I<|ze<|zh<|zp<|zc I<|za I (yj I I)<|ze<|zJ I I<|zw<|zg<|zp<|za I (zx 1 3 I I k9 I zt)<|zq (S:=[]) (zn (con_thr (Co.vO b l ws) (Co.bO b l ws) l.length (Co.mkt hv) (fun c _=>Co.vO_ub hv c)) I ⟨zb _,t9⟩ I)<|za I (zi I I)<|za I (zi I I)<|zq (S:=[_]) (zy 0 I I I k9 I<|m9 I)<|zd I<|zv ?_)))));refine zg (zG (fn:=Tryz.f20) (fun _ _ h=>h)<|Rs.le (Rs.two I (zZ 0 I I k9)<|zo I) ?_);exact zb _
theorem zbZ (V bd:Nat→Int) (n i:Nat) (t:Int) (hi:i < n) (ht0:0≤t) (ht1:t≤65970697666560) (hmk:Co.Mkt n V bd) (hV:∀ c < 2 ^ n,0≤V c∧V c≤6597069766656):Con Tryz.prog 56 [Yq [lsD z2<|zz V<|2 ^ n,lsD z2<|zz bd n,lsD z2<|zz (Co.vcg V bd n) n],iD (i:Int),qKD 60 t] (Zq [qKD 60<|Co.rs bd (Co.vcg V bd n) t i,iD 0]):=by
 have hbi:=hmk.bd0 i hi;have hvi:=Ka hmk i hi;refine z6 Tryz.func56 k9 I k9 fun base w0=>(zp (SWl.e2 (S:=[]) (yo I I) fun g3=>(SWl.e2 (S:=[]) (yo I I) fun g5=>(SWl.e2 (S:=[]) (Ef.alloc (zs:=[.bool false,.slice none 0 0,.bool false,.slice none 0 0]) k9 I) fun g6=>(zd I<|zS<|za I (zm (n:=1) I k9)<|za I (zB 0 I I I k9 zt)<|zc I<|za I (zQ (e:=3) 1 I I k9 k9 o9<|Zh hi)<|za I (zK I I k9 s9)<|zq (S:=[]) (zn (jx (z:=60 * bd i) (j4 o9 o9) o9 o9 d9 d9 d9 o9) I ⟨zb _,zb _,t9⟩ I)<|zc I<|za I (zi I I)<|za I (zi I I) (SWl.e2 (S:=[]) (Ef.alloc (zs:=[.bool false,.slice none 0 0,.bool false,.slice none 0 0]) k9 I) fun g8=>(zq (S:=[_]) (zy 3 I I I k9 I<|m9 I)<|zd I<|ze<|zh<|zp<|zc I<|za I (yj I I)<|ze<|zJ I I<|zw<|zg<|zp<|za I (zm (n:=2) I k9)<|za I (zB 0 I I I k9 zt)<|zc I ?_)))))));refine za I (zQ (e:=3) 1 I I k9 k9 o9<|Zh hi) (za I (zK I I k9 s9)<|zq (S:=[]) (zn (jx (z:=60 * Co.vcg V bd n i) (j4 o9 o9) o9 o9 d9 d9 d9 o9) I ⟨zb _,zb _,t9⟩ I)<|zc I<|za I (zi I I)<|za I (zi I I) (SWl.e2 (S:=[]) (Ef.alloc (zs:=[.bool false,.slice none 0 0,.bool false,.slice none 0 0]) k9 I) fun g10=>(zq (S:=[_]) (zy 4 I I I k9 I<|m9 I)<|zd I<|ze<|zh<|zp<|zc I<|za I (yj I I)<|ze<|zJ I I<|zw<|zg<|zp<|za I (zx 4 4 I I k9 I zt)<|za I (zx 1 4 I I k9 I zt)<|zq (S:=[]) (zn (VP (j4 o9 o9) (j4 o9 o9)<|j4 o9 o9) I ⟨zb _,zb _,t9⟩ I)<|zc I<|za I (zi I I)<|za I (zi I I) (SWl.e2 (S:=[]) (Ef.alloc (zs:=[.bool false,.slice none 0 0,.bool false,.slice none 0 0]) k9 I) fun g11=>(zq (S:=[_]) (zy 5 I I I k9 I<|m9 I)<|zd I<|ze<|zh<|zp<|zc I<|za I (yj I I)<|zv ?_)))))
 refine zg (zJ I I<|zw<|zg<|zp<|za I (zx 3 4 I I k9 I zt)<|za I (zx 5 4 I I k9 I zt)<|zq (S:=[]) (zn (con_minK (j4 o9 o9)<|j4 o9 o9) I ⟨zb _,zb _,t9⟩ I)<|za I (zi I I)<|za I (zi I I)<|zq (S:=[_]) (zy 2 I I I k9 I<|m9 I)<|zd I<|ze<|zG (fn:=Tryz.f56) (fun _ _ h=>h)<|Rs.le (Rs.two I (zZ 2 I I k9)<|zo I) ?_);exact zb _
theorem con_low1 (i c:Nat) (z:Int) (hz:qd z) (hc:c < 64):Con Tryz.prog 97 [iD z,paD [iD (i:Int)],paD [iD (c:Int)]] (yK<|fX c i z):=by
 obtain ⟨m,rfl⟩:=Int.eq_ofNat_of_zero_le hz.1
 have hm6:m < 6:=by have:=hz.2;omega
 refine z6 Tryz.func97 k9 I k9 fun base w0=>(zp<|zd I<|zS<|zc I<|za I (zK I I k9 s9)<|za I (yj I I)<|zc I<|yn 8 I (fun hb8=> ?_) (fun hb8=> ?_))
 ·skip
  refine zU hb8 (zK I I k9 s9) (zU hb8 (zl I)<|Zt (S:=[]) I I hb8 I (zn (WC c m hc hm6) I ⟨zb _,zb _,t9⟩ I) ?_);rintro _ rfl;refine za I (zF I hb8 I) (zd I<|ze<|zG (fn:=Tryz.f97) (fun _ _ h=>h)<|Rs.le (zN I<|zo I) ?_)
  exact yb (by first | (simp only [fX,J7];simp at hb8;simp [hb8]) | (simp at hb8;simp [fX,hb8]))
 ·skip
  refine zR hb8 (zR hb8<|zR hb8<|za I (zM I hb8 I)<|zd I<|ze<|zG (fn:=Tryz.f97) (fun _ _ h=>h)<|Rs.le (zN I<|zo I) ?_)
  exact yb (by first | (simp only [fX,J7];simp at hb8;simp [hb8]) | (simp at hb8;simp [fX,hb8]))
theorem le_low {i c:Nat} (hc:c < 64):Le (fnD 97 [paD [iD (i:Int)],paD [iD (c:Int)]]) (prD Tryz.prog qd<|fX c i):=VA fun z hz=>con_low1 i c z hz hc
theorem zb0 (Fp:LN) (Ap:Option Addr) (cp:Nat) (V bd p:Nat→Int) (n i:Nat) (hi:i < n) (hp:∀ k < n,0≤p k∧p k≤65970697666560) (hmk:Co.Mkt n V bd) (hV:∀ c < 2 ^ n,0≤V c∧V c≤6597069766656):ConR Tryz.prog 57 [.r Fp<|yq 43 4 (Yi 60) Ap cp<|zz p n] [Yq [lsD z2<|zz V<|2 ^ n,lsD z2<|zz bd n,lsD z2<|zz (Co.vcg V bd n) n],iD (i:Int),isD<|.slice Ap (zz p n).length cp] (fun _:Unit=>[.r Fp<|yq 43 4 (Yi 60) Ap cp<|zz p n]) (fun _:Unit=>Zq [qKD 60<|Co.lw V bd n i p<|2 ^ n,iD 0]):=by
 have hn6:=hmk.n6;have hS64:2 ^ n≤64:=Co.pow_le64 hn6;refine qx Tryz.func57 k9 I k9 fun base w0=>(zp (SWl.e2 (S:=[]) (yo I I) fun g3=>(SWl.e2 (S:=[]) (Z8 I (fun _ _ _ h=>yO<|One.h _ _ _ h) I) fun g4=>(SWl.e2 (S:=[]) (Ef.alloc (zs:=[.bool false,.slice none 0 0,.bool false,.slice none 0 0]) k9 I) fun g6=>(zd I<|zS<|zq (S:=[]) (zn (Y8<|j4 d9 d9) I t9 I) (SWl.e2 (S:=[]) (Ef.alloc (zs:=[.bool false,.slice none 0 0,.bool false,.slice none 0 0]) k9 I) fun g8=>(zq (S:=[_]) (zy 4 I I I k9 I<|m9 I)<|ze<|zh<|zh<|SW.freezeP 2 4 I I<|SW.sub (σ':=z8 [(2,_),(3,_),(4,_),(6,_),(8,_)] [_,_,_,_]) (sB [0,1,2,3] I I)<|zf<|za I (zm (n:=0) I k9)<|za I (zB 1 I I I k9 zt)<|za I (zY (e:=3) I k9)<|zc I<|ze<|SW.block<|z1 (ι:={c:Nat // c≤2 ^ n}) (fun q=>z8 [(2,isD<|.slice Ap (zz p n).length cp),(3,pA g3),(4,paD [iD (i:Int)]),(6,pA g6),(8,pA g8),(19,iD ((2 ^ n:Nat):Int)),(20,iD (q.1:Int))] [.r Fp<|yq 43 4 (Yi 60) Ap cp<|zz p n,.c g3 [lsD z2<|zz V<|2 ^ n,lsD z2<|zz bd n,lsD z2<|zz (Co.vcg V bd n) n],.c g6 [isD<|.bool false,isD<|.slice none 0 0,isD<|.bool false,isD<|.slice none 0 0],.c g8<|qKC 60<|Co.lw V bd n i p q.1]) (fun q=>2 ^ n - q.1) (⟨0,JC _⟩) ?_ ?_)))))))
 ·exact ⟨⟨_,I,⟨lq I,⟨lq I,⟨lq I,⟨lq I,⟨lq I,⟨⟨_,I,zE (by rw [zT])⟩,⟨lq I,t9⟩⟩⟩⟩⟩⟩⟩⟩,[0,1,2,3],by decide,(sX rfl)⟩
 ·rintro ⟨c,hc⟩ K0 hK0;dsimp only at hc ⊢;refine zp (za I (ya I I)<|ze<|zh<|zD I (fun hb21=> ?_) (fun hb21=> ?_))
  ·have h21:c < 2 ^ n:=by have h:=oT hb21;omega
   refine zw (zg<|zh<|SW.block<|zh ?_)
   have hc2:c < 2 ^ n:=by omega
   have hlb:=lw_bd hmk hp (i:=i) c hc;have hnd:=qs hmk hc2;have hxb:=ox_bd (c:=c) (i:=i) hn6 hp;refine zf (zc I<|zd I<|zS<|zc I (SWl.e2 (S:=[]) (Ef.alloc (zs:=[.int .i64 0]) k9 I) fun g10=>(zq (S:=[_]) (yV 4 I I I k9 I<|m9 I)<|ze<|zh<|zp<|za I (zB 4 I I I k9 zt)<|za I (zK I I k9 s9)<|zq (S:=[]) (zn (zan c i o9 o9) I ⟨zb _,zb _,t9⟩ I)<|ze<|zD I (fun hb26=> ?_) (fun hb26=> ?_))))
   ·skip
    refine zL ?_
    repeat (first | refine zV ?_ | refine zW d9 ?_ | refine Yy ?_)
    exact zX (zg<|zf<|za I (Rd.add I I ⟨by omega,by omega⟩)<|zc I<|zv (fun aK wK hh=>hK0 (⟨c + 1,by omega⟩) (by dsimp only;omega) aK wK<|hh.sub<|⟨⟨_,I,⟨lq I,⟨lq I,⟨lq I,⟨lq I,⟨lq I,⟨lq I,⟨⟨_,I,zE s9⟩,t9⟩⟩⟩⟩⟩⟩⟩⟩,[0,1,2,3],by decide,⟨lR rfl,⟨la rfl,⟨la rfl,⟨⟨_,rfl,(by dsimp only;rw [lw_yes hb26];exact yI _)⟩,trivial⟩⟩⟩⟩⟩))
   ·skip
    refine zw (zg<|zh<|SW.freezeP 4 10 I I<|zf<|za I (WO I)<|zd I<|zS<|zc I<|zc I<|za I (Z7 (e:=43) I k9)<|zc I<|zq (S:=[]) (zn (Zw n<|fX c i) I ⟨zE (by rw [zT]),le_low o9,t9⟩ I)<|yD (ZZ [0] (con_paidX (Fp:=Fp) (Ap:=Ap) (cp:=cp) (p:=p) (n:=n) (c:=c) (i:=i) hn6 hp) I ⟨zb _,zb _,t9⟩ d9 ⟨lR I,t9⟩ (fun _ h=>h) I) ?_);rintro _ ⟨_,rfl⟩;refine zc I (za I (zi I I)<|za I (zi I I) (SWl.e2 (S:=[]) (Ef.alloc (zs:=[.bool false,.slice none 0 0,.bool false,.slice none 0 0]) k9 I) fun g12=>(zq (S:=[_]) (zy 4 I I I k9 I<|m9 I)<|zd I<|ze<|zh<|zp<|zc I<|za I (yj I I)<|ze<|zJ I I<|zw<|zg<|zp<|za I (zx 0 3 I I k9 I zt)<|za I (zK I I k9 s9)<|zq (S:=[]) (zn (VO V bd (Co.vcg V bd n) n c hn6 hc2 hV hmk.bd0) I ⟨zb _,zb _,t9⟩ I)<|zq (S:=[]) (zn (jx (z:=60 * Co.need V bd n c) (j4 o9 o9) o9 o9 d9 d9 d9 o9) I ⟨zb _,zb _,t9⟩ I)<|zc I<|za I (zi I I)<|za I (zi I I) (SWl.e2 (S:=[]) (Ef.alloc (zs:=[.bool false,.slice none 0 0,.bool false,.slice none 0 0]) k9 I) fun g14=>(zq (S:=[_]) (zy 5 I I I k9 I<|m9 I)<|zd I<|ze<|zh<|zp<|zc I<|za I (yj I I)<|ze<|zJ I I ?_)))))
    refine zw (zg<|zp<|za I (zx 5 4 I I k9 I zt)<|za I (zx 4 4 I I k9 I zt)<|zq (S:=[]) (zn (con_subK (j4 o9 o9) (j4 o9 o9)<|j4 o9 o9) I ⟨zb _,zb _,t9⟩ I)<|zc I<|za I (zi I I)<|za I (zi I I) (SWl.e2 (S:=[]) (Ef.alloc (zs:=[.bool false,.slice none 0 0,.bool false,.slice none 0 0]) k9 I) fun g15=>(zq (S:=[_]) (zy 6 I I I k9 I<|m9 I)<|zd I<|ze<|zh<|zp<|zc I<|za I (yj I I)<|ze<|zJ I I<|zw<|zg<|zp<|za I (zx 2 4 I I k9 I zt)<|za I (zx 6 4 I I k9 I zt)<|zq (S:=[]) (zn (zbh (j4 o9 o9)<|j4 o9 o9) I ⟨zb _,zb _,t9⟩ I)<|zc I<|za I (zi I I)<|za I (zi I I)<|zq (S:=[_]) (zy 2 I I I k9 I<|m9 I)<|zd I<|zS<|zc I ?_)));exact za I (yj I I) (ze<|zJ I I<|zw<|SN.block<|zg<|zf<|za I (Rd.add I I ⟨by omega,by omega⟩)<|zc I<|zv (fun aK wK hh=>hK0 (⟨c + 1,by omega⟩) (by dsimp only;omega) aK wK<|hh.sub<|⟨⟨_,I,⟨lq I,⟨lq I,⟨lq I,⟨lq I,⟨lq I,⟨lq I,⟨⟨_,I,zE s9⟩,t9⟩⟩⟩⟩⟩⟩⟩⟩,[3,0,1,2],by decide,⟨lR rfl,⟨la rfl,⟨la rfl,⟨⟨_,rfl,(by dsimp only;rw [lw_no hb26];exact yI _)⟩,trivial⟩⟩⟩⟩⟩))
  ·have h21:¬c < 2 ^ n:=by have h:=oF hb21;omega
   refine zL ?_
   repeat (first | refine zV ?_ | refine zW d9 ?_ | refine Yy ?_)
   refine zX (zg<|zp<|za I (zx 3 4 I I k9 I zt)<|zq (S:=[_]) (zy 2 I I I k9 I<|m9 I)<|zd I<|ze<|qb (fn:=Tryz.f57) (()) [0] (fun _ _ h=>h) (Rs.le (Rs.two I (zZ 2 I I k9)<|zo I) ?_) d9 ⟨lR I,t9⟩)
   have e:c=2 ^ n:=by omega
   rw [e];exact zb _
end
section
theorem jN (b:Int) (l:List Co.Cl) (ws:List Co.Wi) (hw:ws.length≤1000000) (hv:Co.VW b l ws):Con Tryz.prog 23 [iD b,lsD yc l,lsD yJ ws] (Zq [lsD (Yi 60)<|zz (pyS (Co.vO b l ws) (Co.bO b l ws) l.length l.length) l.length,iD 0]):=by
 have hmk:=Co.mkt hv;have hn6:=hmk.n6;have hth:=jJ hmk (2 ^ l.length) (Js _);refine z6 Tryz.func23 k9 I k9 fun base w0=>(zp<|zd I<|zd I<|zS<|zc I<|zc I<|zc I<|zq (S:=[]) (zn (jZ b l ws hw hv) I ⟨zb _,zb _,zb _,t9⟩ I)<|zc I<|za I (zi I I)<|za I (zi I I) (SWl.e2 (S:=[]) (Ef.alloc (zs:=[.slice none 0 0,.slice none 0 0,.slice none 0 0]) k9 I) fun g8=>(zq (S:=[_]) (zy 0 I I I k9 I<|m9 I)<|zd I<|ze<|zh<|zp<|zc I<|za I (yj I I)<|ze<|zJ I I<|zw<|zg<|zp<|za I (zx 0 3 I I k9 I zt)<|zq (S:=[]) (zn (con_thr (Co.vO b l ws) (Co.bO b l ws) l.length hmk (fun c _=>Co.vO_ub hv c)) I ⟨zb _,t9⟩ I)<|zc I<|za I (zi I I)<|za I (zi I I) (SWl.e2 (S:=[]) (Ef.alloc (zs:=[.bool false,.slice none 0 0,.bool false,.slice none 0 0]) k9 I) fun g10=>(zq (S:=[_]) (zy 1 I I I k9 I<|m9 I) ?_)))));refine zd I (ze<|zh<|zp<|zc I<|za I (yj I I)<|ze<|zJ I I<|zw<|zg<|zp<|zc I<|za I (zY (e:=61) I k9) (SWl.e2 (S:=[]) (VY (e:=43) (n:=l.length) (z:= .agg #[.bool false,.slice none 0 0,.bool false,.slice none 0 0]) encO none 4 64 I I k9 k9 k9 d9 I I I o9 d9 I) fun g34=>(zd I<|ze<|zh<|zh<|SW.sub (σ':=z8 [(8,_),(10,_),(11,isD<|.slice (some ⟨g34,0,none⟩) (flO (pyR (Co.vO b l ws) (Co.bO b l ws) l.length) l.length 0).length l.length)] [.c g8 [lsD z2<|zz (Co.vO b l ws)<|2 ^ l.length,lsD z2<|zz (Co.bO b l ws) l.length,lsD z2<|zz (Co.vcg (Co.vO b l ws) (Co.bO b l ws) l.length) l.length],.c g10<|qKC 60<|thT (Co.vO b l ws) (Co.bO b l ws) l.length,.r [g34]<|yq 43 4 encO (some ⟨g34,0,none⟩) l.length<|flO (pyR (Co.vO b l ws) (Co.bO b l ws) l.length) l.length 0]) (⟨⟨_,I,⟨lq I,⟨lq I,⟨⟨_,I,zE (by rw [YT])⟩,t9⟩⟩⟩⟩,[0,1,2],by decide,⟨la rfl,⟨la rfl,⟨⟨_,rfl,(by rw [flO_zero];exact zI _)⟩,trivial⟩⟩⟩⟩)<|zf<|zc I<|za I (Z7 (e:=43) I k9)<|zc I<|ze<|SW.block<|z1 (ι:={i:Nat // i≤l.length}) (fun i=>z8 [(8,pA g8),(10,pA g10),(11,isD<|.slice (some ⟨g34,0,none⟩) (flO (pyR (Co.vO b l ws) (Co.bO b l ws) l.length) l.length i.1).length l.length),(36,iD (l.length:Int)),(37,iD (i.1:Int))] [.c g8 [lsD z2<|zz (Co.vO b l ws)<|2 ^ l.length,lsD z2<|zz (Co.bO b l ws) l.length,lsD z2<|zz (Co.vcg (Co.vO b l ws) (Co.bO b l ws) l.length) l.length],.c g10<|qKC 60<|thT (Co.vO b l ws) (Co.bO b l ws) l.length,.r [g34]<|yq 43 4 encO (some ⟨g34,0,none⟩) l.length<|flO (pyR (Co.vO b l ws) (Co.bO b l ws) l.length) l.length i.1]) (fun i=>l.length - i.1) (⟨0,JC _⟩) ?_ ?_)))
 ·exact ⟨⟨_,I,⟨lq I,⟨lq I,⟨lq I,⟨⟨_,I,zE (by rw [YT])⟩,⟨lq I,t9⟩⟩⟩⟩⟩⟩,[0,1,2],by decide,(sX rfl)⟩
 ·rintro ⟨i,hi⟩ K0 hK0;dsimp only at hi ⊢;refine zp (za I (ya I I)<|ze<|zh<|zD I (fun hb38=> ?_) (fun hb38=> ?_))
  ·have h38:(i:Int) < (l.length:Int):=oT hb38;refine zw (zg<|zh<|SW.block<|zp<|zc I<|zd I<|zS<|zc I<|zc I<|za I (zx 0 3 I I k9 I zt)<|zc I<|za I (zx 1 4 I I k9 I zt)<|zq (S:=[]) (zn (zbZ (Co.vO b l ws) (Co.bO b l ws) l.length i (thT (Co.vO b l ws) (Co.bO b l ws) l.length) o9 hth.1 hth.2 hmk (fun c _=>Co.vO_ub hv c)) I ⟨zb _,zb _,zb _,t9⟩ I)<|zc I<|za I (zi I I)<|za I (zi I I)<|za I (yp 2 4 I I I k9 k9 o9 (by rw [YT];omega))<|zq (S:=_) (KH (v:=(some<|pyR (Co.vO b l ws) (Co.bO b l ws) l.length i)) 2 4 I I I k9 (by rw [YT];omega) (fun _ h=>h))<|zd I<|zS<|zc I<|za I (yj I I)<|ze<|zJ I I<|zw<|SN.block<|zg<|zf<|za I (Rd.add I I ⟨by omega,by omega⟩)<|zc I<|zv ?_);exact fun aK wK hh=>hK0 (⟨i + 1,by omega⟩) (by dsimp only;omega) aK wK (hh.sub<|⟨⟨_,I,⟨lq I,⟨lq I,⟨⟨_,I,zE (by dsimp only;rw [YT,YT])⟩,⟨lq I,⟨⟨_,I,zE s9⟩,t9⟩⟩⟩⟩⟩⟩,[0,1,2],by decide,⟨la rfl,⟨la rfl,⟨⟨_,rfl,(by dsimp only;rw [Int.toNat_natCast,flO_set o9];exact zI _)⟩,trivial⟩⟩⟩⟩)
  ·have h38:¬(i:Int) < (l.length:Int):=oF hb38;refine zL ?_
   repeat (first | refine zV ?_ | refine zW d9 ?_)
   refine zX (zg<|zh<|zh<|SW.sub (σ':=z8 [(8,_),(11,isD<|.slice (some ⟨g34,0,none⟩) (zz (pyS (Co.vO b l ws) (Co.bO b l ws) l.length 0) l.length).length l.length)] [.c g8 [lsD z2<|zz (Co.vO b l ws)<|2 ^ l.length,lsD z2<|zz (Co.bO b l ws) l.length,lsD z2<|zz (Co.vcg (Co.vO b l ws) (Co.bO b l ws) l.length) l.length],.r [g34]<|yq 43 4 (Yi 60) (some ⟨g34,0,none⟩) l.length<|zz (pyS (Co.vO b l ws) (Co.bO b l ws) l.length 0) l.length]) (⟨⟨_,I,⟨lq I,⟨⟨_,I,zE (by rw [YT,zT])⟩,t9⟩⟩⟩,[0,2],by decide,⟨la rfl,⟨⟨_,rfl,(le_flO (show i=l.length by omega))⟩,trivial⟩⟩⟩)<|zf<|zc I<|za I (Z7 (e:=43) I k9)<|zc I<|ze<|SW.block<|z1 (ι:={k:Nat // k≤l.length}) (fun k=>z8 [(8,pA g8),(11,isD<|.slice (some ⟨g34,0,none⟩) (zz (pyS (Co.vO b l ws) (Co.bO b l ws) l.length k.1) l.length).length l.length),(55,iD (l.length:Int)),(56,iD (k.1:Int))] [.c g8 [lsD z2<|zz (Co.vO b l ws)<|2 ^ l.length,lsD z2<|zz (Co.bO b l ws) l.length,lsD z2<|zz (Co.vcg (Co.vO b l ws) (Co.bO b l ws) l.length) l.length],.r [g34]<|yq 43 4 (Yi 60) (some ⟨g34,0,none⟩) l.length<|zz (pyS (Co.vO b l ws) (Co.bO b l ws) l.length k.1) l.length]) (fun k=>l.length - k.1) (⟨0,JC _⟩) ?_ ?_)
   ·exact ⟨⟨_,I,⟨lq I,⟨lq I,⟨⟨_,I,zE (by rw [zT])⟩,⟨lq I,t9⟩⟩⟩⟩⟩,[0,1],by decide,(sX rfl)⟩
   ·rintro ⟨k,hk⟩ K1 hK1;dsimp only at hk ⊢;refine zp (za I (ya I I)<|ze<|zh<|zD I (fun hb57=> ?_) (fun hb57=> ?_))
    ·have h57:(k:Int) < (l.length:Int):=oT hb57;refine zw (zg<|zh<|SW.block<|zp<|zc I<|zd I<|zS<|zc I<|zc I<|za I (zx 0 3 I I k9 I zt)<|zc I<|zc I<|yD (ZZ [1] (zb0 [g34] (some ⟨g34,0,none⟩) l.length (Co.vO b l ws) (Co.bO b l ws) (pyS (Co.vO b l ws) (Co.bO b l ws) l.length k) l.length k o9 (Wb hmk o9) hmk (fun c _=>Co.vO_ub hv c)) I ⟨zb _,zb _,zb _,t9⟩ d9 ⟨lR I,t9⟩ (fun _ h=>h) I) ?_);rintro _ ⟨_,rfl⟩;exact zc I (za I (zi I I)<|za I (zi I I)<|za I (yp 1 4 I I I k9 k9 o9 (by rw [zT];omega))<|zq (S:=_) (KH (v:=(Co.lw (Co.vO b l ws) (Co.bO b l ws) l.length k (pyS (Co.vO b l ws) (Co.bO b l ws) l.length k)<|2 ^ l.length)) 1 4 I I I k9 (by rw [zT];omega) (fun _ h=>h))<|zd I<|zS<|zc I<|za I (yj I I)<|ze<|zJ I I<|zw<|SN.block<|zg<|zf<|za I (Rd.add I I ⟨by omega,by omega⟩)<|zc I<|zv (fun aK wK hh=>hK1 (⟨k + 1,by omega⟩) (by dsimp only;omega) aK wK<|hh.sub<|⟨⟨_,I,⟨lq I,⟨⟨_,I,zE (by dsimp only;rw [zT,zT])⟩,⟨lq I,⟨⟨_,I,zE s9⟩,t9⟩⟩⟩⟩⟩,[0,1],by decide,⟨la rfl,⟨⟨_,rfl,(by dsimp only;rw [Int.toNat_natCast,pyS_step o9];exact zI _)⟩,trivial⟩⟩⟩))
    ·have h57:¬(k:Int) < (l.length:Int):=oF hb57;refine zL ?_
     repeat (first | refine zV ?_ | refine zW d9 ?_)
     refine zX (zg<|zp<|zc I<|zd I<|zd I<|ze<|SW.freezeT 1 6 I I (by rw [show k=l.length by omega];exact zb _)<|zG (fn:=Tryz.f23) (fun _ _ h=>h)<|Rs.le (Rs.two I (zo I)<|zo I) ?_);exact zb _
theorem VL (b:Int) (l:List Co.Cl) (ws:List Co.Wi) (hw:ws.length≤1000000) (hl:l.length≤1000000) (hv:¬Co.VW b l ws):Con Tryz.prog 23 [iD b,lsD yc l,lsD yJ ws] (Zq [lsD (Yi 60) [],iD 2]):=by
 refine z6 Tryz.func23 k9 I k9 fun base w0=>(zp<|zd I<|zd I<|zS<|zc I<|zc I<|zc I<|zq (S:=[]) (zn (con_loadN b l ws hw hl hv) I ⟨zb _,zb _,zb _,t9⟩ I)<|zc I<|za I (zi I I)<|za I (zi I I) (SWl.e2 (S:=[]) (Ef.alloc (zs:=[.slice none 0 0,.slice none 0 0,.slice none 0 0]) k9 I) fun g8=>(zq (S:=[_]) (zy 0 I I I k9 I<|m9 I)<|zd I<|ze<|zh<|zp<|zc I<|za I (yj I I)<|ze<|yg I I<|zp<|zc I<|zd I<|zd I<|ze<|zG (fn:=Tryz.f23) (fun _ _ h=>h)<|Rs.le (Rs.two I (zo I)<|zo I) ?_)));exact yX ⟨ZF,zb _,t9⟩
