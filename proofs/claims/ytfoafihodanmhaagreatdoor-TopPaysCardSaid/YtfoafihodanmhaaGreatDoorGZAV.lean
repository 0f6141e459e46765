/- THE WALKS of number's divNat, DivMod, GCD. THE WALKS of the reference's Form. THE WALK of the reference's Read; Parse and Form by what a string is. TH -/
import Derived.Test.YtfoafihodanmhaaGreatDoorGZAU
import Derived.Lib.SmallJoins
set_option maxHeartbeats 8000000
set_option maxRecDepth 100000
namespace Go.Proofs.YtfoafihodanmhaaGreatDoor
open Go.RowKit
open Nm (W32)
namespace Sx
theorem aw_nil {A:Option Addr} {n:Nat}:Aw [] A n:=fun _ _ _ hm=>by simp at hm
theorem zdZ {w:World} {A:Option Addr} {n c X:Nat} (h:NatS w A n c X) (hX:X < W32 ^ 100):n≤100:=by rw [h.n_eq];exact (Nm.len_le (B:=W32) d9 100 X).2 hX
theorem zci {X:Nat} (hX:X < ya):Con Tryz.prog 119 [bytD X] (jz X):=by
 refine ⟨enters_of Tryz.func119 k9 I,fun L w vs hL _ ha=> ?_⟩;obtain ⟨u,rfl,hu⟩:=zcu ha;obtain ⟨A,n,c,rfl,h1,-⟩:=byt_out hu
 have hn:n≤64:=by rw [h1.n_eq];exact (Nm.len_le (B:=256) d9 64 X).2 hX
 refine (zb0 w A n c X o9 h1).mono ?_;rintro r w' ⟨A',n',c',rfl,hN,hO,hf⟩;exact ⟨_,I,zbZ hN<|qu hf hL,hO⟩
theorem con_build {X:Nat} (neg:Bool) (hX:X < W32 ^ 100):Con Tryz.prog 120 [yL neg,jz X] (ZH [YP<|qY<|sgn neg X,ZK<|Y3<|sgn neg X]):=by
 refine ⟨enters_of Tryz.func120 k9 I,fun L w vs hL _ ha=> ?_⟩;obtain ⟨u,v,rfl,rfl,hv⟩:=zbB ha;obtain ⟨A,n,c,rfl,h1,-⟩:=jy hv;have hn:=zdZ h1 hX;refine (yS w neg A n c X o9 h1).mono ?_;rintro r w' ⟨s',A',n',c',rfl,hI,hF,hO⟩;exact ⟨_,I,⟨[_,_],I,zax hI<|qu hF hL,I,t9⟩,hO⟩
theorem con_cmpLt {X Y:Nat} (hY:Y < W32 ^ 100) (hXY:X < Y):Con Tryz.prog 118 [jz X,jz Y] (ZK<|-1):=by
 refine ⟨enters_of Tryz.func118 k9 I,fun L w vs hL _ ha=> ?_⟩;obtain ⟨u,v,rfl,hu,hv⟩:=zbB ha;obtain ⟨A,n,c,rfl,h1,-⟩:=jy hu;obtain ⟨B,m,d,rfl,h2,-⟩:=jy hv;have hn:=zdZ h1 (Nat.lt_trans hXY hY);have hm:=zdZ h2 hY;refine (Z6 w A B n c m d X Y o9 o9 h1 h2).mono ?_;rintro r w' ⟨z,rfl,hz,hO⟩;refine ⟨_,I,?_,hO⟩;have hz':Cmp X Y z:=hz;show Value.int .i64 z= .int .i64 _;rcases hz' with ⟨h,e⟩ | ⟨h,e⟩ | ⟨h,e⟩
 ·rw [e]
 ·omega
 ·omega
theorem zck {X d:Nat} (hX:X < W32 ^ 100) (hd:0 < d) (hd2:d < 4294967296):Con Tryz.prog 158 [jz X,isD<|.int .u32 (d:Int)] (ZH [jz<|X / d,isD<|.int .u32 ((X % d:Nat):Int)]):=by
 refine ⟨enters_of Tryz.func158 k9 I,fun L w vs hL _ ha=> ?_⟩;obtain ⟨u,v,rfl,hu,rfl⟩:=zbB ha;obtain ⟨A,n,c,rfl,h1,-⟩:=jy hu;have hn:=zdZ h1 hX;refine (zcb w A n c X d o9 hd hd2 h1).mono ?_;rintro r w' ⟨A',n',c',r,rfl,hN,hr,hO,hf⟩;refine ⟨_,I,⟨[_,_],I,zbZ hN (fun _ p hp hm=> ?_),by rw [hr.out];rfl,trivial⟩,hO⟩;have:=hf p hp;have:=hL _ hm;omega
theorem zeT {X:Nat} (h:X=0):Le (isD<|.slice none 0 0) (jz X):=by
 subst h;unfold jz;rw [Nm.dg_zero];exact KX
theorem le_nat {X Y:Nat} (h:X=Y):Le (jz X) (jz Y):=by subst h;exact zc _
theorem le_pad32 {d:Nat} (h2:d < 4294967296):Le (slD [.int .u32 (d:Int)]) (slD<|cN .u32<|Nm.pad W32 1 d):=by
 have:Nm.pad W32 1 d=[d]:=by simp [Nm.pad,Nat.mod_eq_of_lt (show d < W32 from h2)]
 rw [this];exact zc _
theorem zdT {X:Nat}:(0 < ((cN .u32<|Nm.dg W32 X).length:Int))↔X≠0:=by
 rw [Zh,Nm.dg_length];have:=Nm.len_eq_zero (B:=W32) (x:=X) d9;omega
theorem natl_len (X:Nat):(cN .u32<|Nm.dg W32 X).length=Nm.len W32 X:=by rw [Zh,Nm.dg_length]
theorem con_divLt {X Y:Nat} (hY:Y < W32 ^ 100) (h:X < Y):Con Tryz.prog 137 [jz X,jz Y] (ZH [jz<|X / Y,jz<|X % Y]):=by
 refine yy Tryz.func137 k9 I k9 fun base w0=>(zn<|zf I<|zf I<|ze<|zh<|zn<|zd I<|zd I<|zu (S:=[]) (zv (con_cmpLt hY h) I ⟨zc _,zc _,t9⟩ I)<|za I (yc I I)<|ze<|yj I d9<|zn<|zd I<|zf I<|zf I<|ze<|zO (fn:=Tryz.f137) (fun _ _ h=>h)<|Rs.le (Rs.two I (zk I)<|zk I) ?_);exact Zf ⟨zeT<|Nat.div_eq_of_lt h,le_nat (Nat.mod_eq_of_lt h).symm,t9⟩
theorem zff {X Y:Nat} (hX:X < W32 ^ 100) (h0:0 < Y) (hY:Y < 4294967296) (h:Y≤X):Con Tryz.prog 137 [jz X,jz Y] (ZH [jz<|X / Y,jz<|X % Y]):=by
 have hl:=natl_len Y
 have hl1:Nm.len W32 Y=1:=by have h1:=(Nm.len_le (B:=W32) d9 1 Y).2 (by simpa using hY);have h2:=Nm.len_eq_zero (B:=W32) (x:=Y) d9;omega
 have hr:X % Y < 4294967296:=Nat.lt_trans (Nat.mod_lt _ h0) hY
 refine yy Tryz.func137 k9 I k9 fun base w0=>(zn<|zf I<|zf I<|ze<|zh<|zn<|zd I<|zd I<|zu (S:=[]) (zv (zcl hX h) I ⟨zc _,zc _,t9⟩ I)<|za I (yc I I)<|ze<|zK I (Jd (by split <;> omega))<|zq<|zj<|zh<|zn<|zd I<|za I (Rd.len (e:=209) I k9)<|za I (Zr I I)<|ze<|yj I (Jo o9)<|zn<|zd I<|zd I<|za I (KW (e:=209) I I k9 k9 d9<|zcY (j:=0) I o9)<|za I (Rd.le (qd I k9 s9)<|zc0 (b:=(Y:Int)) (by rw [Nat.pow_zero,Nat.div_one,Nat.mod_eq_of_lt (show Y < W32 from hY)]))<|zu (S:=[]) (zv (zck hX h0 hY) I ⟨zc _,zc _,t9⟩ I)<|zd I<|za I (zo I I)<|za I (zo I I)<|zf I<|zf I ?_)
 refine zN (zd I<|zd I<|zu (S:=[]) (zdD (e:=209) I I k9 k9 I)<|zu (S:=[]) (zv (WC (n:=1) I d9 (by simpa using hr)) I ⟨le_pad32 hr,t9⟩ I)<|zf I<|zf I<|ze ?_);refine zO (fn:=Tryz.f137) (fun _ _ h=>h) (Rs.two I (zk I)<|zk I)
theorem zaP {X Y:Nat} (hX:X < W32 ^ 100) (hY:Y < W32 ^ 100) (h0:0 < Y):Con Tryz.prog 137 [jz X,jz Y] (ZH [jz<|X / Y,jz<|X % Y]):=by
 by_cases h:X < Y
 ·exact con_divLt hY h
 ·have hpos:Nm.len W32 Y≠0:=fun e=>by have:=(Nm.len_eq_zero (B:=W32) d9).1 e;omega
  by_cases h1:Nm.len W32 Y=1
  ·exact zff hX h0 (by have:=(Nm.len_le (B:=W32) d9 1 Y).1 o9;simpa using this) o9
  ·exact zfg (m:=Nm.len W32 Y - 2) hX o9 o9
theorem KS {X:Nat} (h:X < ya):X < W32 ^ 100:=by
 have e:ya=W32 ^ 16:=by unfold ya;decide +kernel
 rw [e] at h;exact Ju h (Nat.pow_le_pow_right d9 d9)
theorem qh {x y:Int} (hx:x.natAbs < ya) (hy:y.natAbs < ya) (h0:y≠0):Con Tryz.prog 103 [YP x,YP y] (ZH [YP<|dq x y,YP<|dr x y,ZK 0]):=
 zdf (enters_of Tryz.func103 k9 rfl) fun w s t A B n c m d hG h1 h2=>ze2 w s t A B n c m d x y hx hy h0 h1 h2 fun w' A' B' n' c' m' d' hOw h3 h4=>by
  refine ((zaP (KS hx) (KS hy) o9).go [] w' [.slice A' n' c',.slice B' m' d'] s9 (glob.keep hG hOw (fun _ _=>by simp)) ⟨zbZ h3 aw_nil,zbZ h4 aw_nil,t9⟩).mono ?_;rintro e w2 ⟨v,rfl,⟨cs,rfl,ha⟩,hO⟩;obtain ⟨u,v,rfl,hu,hv⟩:=zbB ha;obtain ⟨A2,n2,c2,rfl,k1,-⟩:=jy hu;obtain ⟨B2,m2,d2,rfl,k2,-⟩:=jy hv;exact ⟨A2,n2,c2,B2,m2,d2,I,k1,k2,hO⟩
def zeY (x y:Int):Int:=((Nat.gcd x.natAbs y.natAbs:Nat):Int)
theorem gcd_next {X Y G:Nat} (h:Nat.gcd X Y=G):Nat.gcd Y (X % Y)=G:=by
 rw [← h,Nat.gcd_comm Y,← Nat.gcd_rec,Nat.gcd_comm]
theorem con_gcd {x y:Int} (hx:x.natAbs < ya) (hy:y.natAbs < ya):Con Tryz.prog 113 [YP x,YP y] (ZH [YP<|zeY x y,ZK 0]):=by
 refine yy Tryz.func113 k9 I k9 fun base w0=>(zn (SWl.e2 (S:=[]) (ym I I) fun g2=>(SWl.e2 (S:=[]) (ym I I) fun g3=>(SWl.e2 (S:=[]) (Ef.alloc (zs:=[.bool false,.slice none 0 0]) k9 I) fun g4=>(zf I<|ze<|zh<|zn<|za I (zx 0 2 I I k9 I zm)<|zu (S:=[]) (zv (WB (by assumption)) I ⟨zc _,t9⟩ I)<|za I (yu I)<|zd I<|zJ I (zx 1 2 I I k9 I zm)<|yN (S:=[]) I I I I (zv (WB (by assumption)) I ⟨zc _,t9⟩ I) ?_)))));rintro _ rfl
 refine zJ I (yu I) (za I (zw I I I)<|ze<|zK I I<|zq<|zj<|zh<|yl [] (rr [0,1,3,4]<|.n 2 (.n 5 (.r 6<|.r 7 .fin) .no) .no) k9 k9 (fun d _ _ _ _ h=>by cases d <;> exact h)<|zl I I (zg (n:=1) I k9)<|zl I I (zp 0 I I I k9 zm)<|zl I I (zg (n:=1) I k9)<|zl I I (zp 1 I I I k9 zm)<|yZ I (zv (zci hx) I ⟨zc _,t9⟩ I)<|yZ I (zv (zci hy) I ⟨zc _,t9⟩ I)<|yR I I<|yR I I<|yE<|zh<|SW.block<|yd (ι:={p:Nat × Nat // p.1 < ya∧p.2 < ya∧Nat.gcd p.1 p.2=Nat.gcd x.natAbs y.natAbs}) (fun ⟨⟨X,Y⟩,hX,hY,hG⟩=>St.of [(4,pA g4),(6,jz X),(7,jz Y)] [(g4,[isD<|.bool false,isD<|.slice none 0 0])]) (fun ⟨⟨X,Y⟩,hX,hY,hG⟩=>Y) (⟨(x.natAbs,y.natAbs),hx,hy,I⟩) ?_ ?_)
 ·exact (sB [2] I I)
 ·rintro ⟨⟨X,Y⟩,hX,hY,hG⟩ K0 hK0;simp only at hX hY hG;refine zh (zn<|zd I<|za I (Rd.len (e:=209) I k9)<|za I (yV I I)<|ze<|zC I (fun hb27=> ?_) (fun hb27=> ?_))
  ·have h0:0 < Y:=Nat.pos_of_ne_zero (zdT.1<|oT hb27);exact zq (zj<|SW.block<|zn<|zd I<|zd I<|zu (S:=[]) (zv (zaP (KS hX) (KS hY) h0) I ⟨zc _,zc _,t9⟩ I)<|zd I<|za I (zo I I)<|za I (zo I I)<|zf I<|zf I<|ze<|zi<|zd I<|zd I<|zf I<|zf I<|zF<|SN.block (fun a w hh=>hK0 (⟨(Y,X % Y),hY,Nat.lt_trans (Nat.mod_lt _ h0) hY,gcd_next hG⟩) (Nat.mod_lt _ h0) a w<|hh.sub<|sB [0] I I))
  ·obtain rfl:Y=0:=Classical.byContradiction fun h=>oF hb27 (zdT.2 h);refine zQ ?_
   repeat (first | refine zX ?_ | refine zY d9 ?_)
   refine zZ (zj<|zn<|zd I<|zu (S:=[]) (zv (con_build false<|KS hX) I ⟨zc _,zc _,t9⟩ I)<|za I (zo I I)<|za I (zo I I)<|zu (S:=[_]) (zA 0 I I I k9 I<|m9 I)<|zf I<|ze<|zO (fn:=Tryz.f113) (fun _ _ h=>h)<|Rs.le (Rs.two I (yx 0 I I k9)<|zk I) ?_);rw [Nat.gcd_zero_right] at hG;have hl:=yY (z:=(X:Int)) hX;exact Zf ⟨zb3 (by show qY (X:Int)=_;rw [hl.1,hG];rfl),Yi hl.2,t9⟩
end Sx
namespace Sx
end Sx
namespace Sx
end Sx
namespace Sx
end Sx
end Go.Proofs.YtfoafihodanmhaaGreatDoor
namespace Go.Proofs.YtfoafihodanmhaaGreatDoor
open Go.ChangeShapes Go.WideShapes Go.ChangeAt Go.RowKit
namespace Sx
def zbc:LN→Nat
 | []=>0
 | d :: l=>d + 256 * zbc l
theorem dg_valL:∀ (l:LN),(∀ d∈l,d < 256)→(∀ h:l≠[],l.getLast h≠0)→Nm.dg 256 (zbc l)=l
 | [],_,_=>by simp [zbc,Nm.dg_zero]
 | d :: l,h,hl=>by
  have hd:d < 256:=h d s9
  have ih:=dg_valL l (fun e he=>h e<|Jl _ he) (fun hne=>by
   have:=hl s9;rw [List.getLast_cons hne] at this
   exact this)
  have hne:zbc (d :: l)≠0:=by
   simp only [zbc];intro h0
   have hd0:d=0:=by omega
   have hl0:zbc l=0:=by omega
   rw [hl0,Nm.dg_zero] at ih;have:=hl s9;subst hd0;simp [← ih] at this
  rw [Nm.dg_pos d9 hne]
  have e1:zbc (d :: l) % 256=d:=by simp only [zbc];omega
  have e2:zbc (d :: l) / 256=zbc l:=by simp only [zbc];omega
  rw [e1,e2,ih]
theorem zbb {s:Bool} {b:LN} (hb:∀ d∈b,d < 256) (hv:vld s b=true):∃ x:Int,x.natAbs < ya∧s=decide (x < 0)∧b=(Nm.dg 256 x.natAbs).reverse:=by
 unfold vld at hv
 by_cases h0:b.length=0
 ·have:b=[]:=J2 h0;subst this;simp at hv;subst hv;exact ⟨0,by unfold ya;decide +kernel,rfl,by rw [show (0:Int).natAbs=0 from rfl,Nm.dg_zero];rfl⟩
 ·rw [Jb h0] at hv;simp only [JL,Jz] at hv;obtain ⟨h1,h2⟩:=hv
  have hdg:Nm.dg 256 (zbc b.reverse)=b.reverse:=by
   refine dg_valL _ (fun d hd=>hb d (by simpa using hd)) (fun hne=> ?_)
   cases b with
   | nil=>simp at h0
   | cons c t=>simpa using h2
  have hlen:Nm.len 256 (zbc b.reverse)=b.length:=by rw [← Nm.dg_length,hdg,List.length_reverse]
  have hpos:zbc b.reverse≠0:=fun h=>by rw [h,Nm.len_zero] at hlen;omega
  refine ⟨sgn s<|zbc b.reverse,?_,?_,?_⟩
  ·rw [yH];exact (Nm.len_le (B:=256) d9 64 _).1 o9
  ·rw [sgn_neg,Jo (by omega:0 < zbc b.reverse),Bool.and_true]
  ·rw [yH,hdg,List.reverse_reverse]
section
variable {H:Type}{enc:TypeId × Value→H}{P:Program}
end
section
variable {H:Type}{enc:TypeId × Value→H}
end
end Sx
end Go.Proofs.YtfoafihodanmhaaGreatDoor
namespace Go.Proofs.YtfoafihodanmhaaGreatDoor
open Go.RowKit
open Nm (W32)
namespace Sx
end Sx
namespace Sx
theorem zdS:(1:Int).natAbs < ya:=by unfold ya;decide +kernel
theorem b1:(1:Int).natAbs < b4:=b4_512 (by unfold ya;decide +kernel)
end Sx
namespace Sx
end Sx
namespace Sx
section
variable {x y:Int}
theorem zaM {r:Int} (hx:x.natAbs < ya) (h:x.sign=r):Con Tryz.prog 57 [YP x] (ZK r):=(jj hx).mono ⟨zc _,trivial⟩ (Yi h)
theorem dq_dr (x:Int) (hy:y≠0):dq x y * y + dr x y=x:=by
 have e:=Nat.div_add_mod x.natAbs y.natAbs;have hr:x.natAbs % y.natAbs < y.natAbs:=Nat.mod_lt _ o9;unfold dq dr dqN drN up sgn
 generalize x.natAbs / y.natAbs=Q at *
 generalize x.natAbs % y.natAbs=R at *
 have eI:(y.natAbs:Int) * (Q:Int) + (R:Int)=(x.natAbs:Int):=by rw [← e];simp
 by_cases hx:x < 0
 ·by_cases hy':y < 0
  ·have e1:(y.natAbs:Int)= -y:=by omega
   rw [e1,Int.neg_mul] at eI;simp only [hx,hy',decide_true,bne_self_eq_false,Bool.false_and,Bool.false_eq_true,if_false,if_true];rw [Int.mul_comm];omega
  ·have e1:(y.natAbs:Int)=y:=by omega
   rw [e1] at eI;simp only [hx,hy',decide_true,decide_false,Bool.true_bne,Bool.not_false,Bool.true_and,Jz,if_true,if_false,Bool.false_eq_true]
   by_cases h0:0 < R
   ·simp only [Jh h0]
    have:(-((Q + 1:Nat):Int)) * y= -(y * Q) - y:=by rw [Int.neg_mul,Int.natCast_add,Int.add_mul,Int.mul_comm];omega
    rw [this];omega
   ·simp only [Jb h0]
    have:(-((Q:Nat):Int)) * y= -(y * Q):=by rw [Int.neg_mul,Int.mul_comm]
    rw [this];omega
 ·by_cases hy':y < 0
  ·have e1:(y.natAbs:Int)= -y:=by omega
   rw [e1,Int.neg_mul] at eI;simp only [hx,hy',decide_true,decide_false,Bool.false_bne,Bool.true_and,Jz,if_true]
   by_cases h0:0 < R
   ·simp only [Jh h0]
    have:(-((Q + 1:Nat):Int)) * y= -(y * Q) - y:=by rw [Int.neg_mul,Int.natCast_add,Int.add_mul,Int.mul_comm];omega
    rw [this];omega
   ·simp only [Jb h0]
    have:(-((Q:Nat):Int)) * y= -(y * Q):=by rw [Int.neg_mul,Int.mul_comm]
    rw [this];omega
  ·have e1:(y.natAbs:Int)=y:=by omega
   rw [e1] at eI;simp only [hx,hy',decide_false,bne_self_eq_false,Bool.false_and,Bool.false_eq_true,if_false];rw [Int.mul_comm];omega
theorem zeb (hy:y≠0):(dq x y).natAbs≤x.natAbs:=by unfold dq;rw [yH];exact dqN_le hy
theorem zaI (hy:y≠0):(dr x y).natAbs < y.natAbs:=by unfold dr;rw [yH];exact drN_lt hy
theorem dr_dvd (h:x.natAbs % y.natAbs=0):dr x y=0:=by
 unfold dr drN up sgn;rw [h];simp
theorem zc5:(zeY x y).natAbs=Nat.gcd x.natAbs y.natAbs:=by unfold zeY;simp
theorem gcd_le (hy:y≠0):(zeY x y).natAbs≤y.natAbs:=by rw [zc5];exact Nat.gcd_le_right _ o9
