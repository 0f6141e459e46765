/- THE WALK of number's Power on valid Ints. THE WALKS of number's isDecimal and Parse. THE WALK of number's Parse. THE WALK of number's Parse on decimal -/
import Derived.Test.YtfoafihodanmhaaGreatDoorGZAS
set_option maxHeartbeats 8000000
set_option maxRecDepth 100000
namespace Go.Proofs.YtfoafihodanmhaaGreatDoor
open Go.RowKit
open Nm (W32)
namespace Sx
abbrev zeJ (b:LN):D:=slD (cN .u8 b)
abbrev bytD (X:Nat):D:=slD (cN .u8 (Nm.dg 256 X).reverse)
abbrev jz (X:Nat):D:=slD (cN .u32<|Nm.dg W32 X)
abbrev VL (x:Int):List D:=[isD<|.bool<|decide (x < 0),bytD x.natAbs]
abbrev rintC (s:Bool) (b:LN):List D:=[isD<|.bool s,zeJ b]
abbrev YP (x:Int):D:=Z8 (VL x)
abbrev zeH (s:Bool) (b:LN):D:=Z8 (rintC s b)
abbrev ZK (e:Int):D:=isD (.int .i64 e)
section
variable {L:List Nat}{w:World}{v:Value}
def Aw (L:LN) (A:Option Addr) (n:Nat):Prop:=0 < n→∀ p,A=some p→p.block∉L
theorem qu {w0:World} {A:Option Addr} {n:Nat} (h:Frs w0 A) (hL:∀ g∈L,g < w0.heap.size):Aw L A n:=fun _ p hp hm=>by
 have:=h p hp;have:=hL _ hm;omega
theorem jy {X:Nat} (h:(jz X).R L w v):∃ A n c,v= .slice A n c∧NatS w A n c X∧Aw L A n:=by
 obtain ⟨A,c,hv,hc,hr,ha⟩:=h
 have hl:(cN .u32<|Nm.dg W32 X).length=Nm.len W32 X:=by rw [Zh,Nm.dg_length]
 refine ⟨A,_,c,hv,⟨hl,hc,hr⟩,ha⟩
theorem zbZ {A:Option Addr} {n c X:Nat} (h:NatS w A n c X) (ha:Aw L A n):(jz X).R L w (.slice A n c):=by
 have hl:(cN .u32<|Nm.dg W32 X).length=n:=by rw [Zh,Nm.dg_length,h.n_eq]
 exact ⟨A,c,by rw [hl],by rw [hl];exact h.le,h.rd,by rw [hl];exact ha⟩
theorem byt_out {X:Nat} (h:(bytD X).R L w v):∃ A n c,v= .slice A n c∧BytS w A n c X∧Aw L A n:=by
 obtain ⟨A,c,hv,hc,hr,ha⟩:=h
 have hl:(cN .u8 (Nm.dg 256 X).reverse).length=Nm.len 256 X:=by rw [Zh,List.length_reverse,Nm.dg_length]
 refine ⟨A,_,c,hv,⟨hl,hc,hr⟩,ha⟩
theorem byt_in {A:Option Addr} {n c X:Nat} (h:BytS w A n c X) (ha:Aw L A n):(bytD X).R L w (.slice A n c):=by
 have hl:(cN .u8 (Nm.dg 256 X).reverse).length=n:=by rw [Zh,List.length_reverse,Nm.dg_length,h.n_eq]
 exact ⟨A,c,by rw [hl],by rw [hl];exact h.le,h.rd,by rw [hl];exact ha⟩
theorem je {x:Int} (h:(YP x).R L w v):∃ s A n c,v= .agg #[.bool s,.slice A n c]∧IntS w s A n c x∧Aw L A n:=by
 obtain ⟨cs,hv,ha⟩:=h
 cases cs with
 | nil=>exact ha.elim
 | cons c1 cs=>
  cases cs with
  | nil=>exact ha.2.elim
  | cons c2 cs=>
   cases cs with
   | nil=>
    obtain ⟨h1,h2,-⟩:=ha;obtain ⟨A,n,c,h3,h4,h5⟩:=byt_out h2;rw [show c1=_ from h1,h3] at hv;exact ⟨_,A,n,c,hv,⟨I,h4⟩,h5⟩
   | cons=>exact ha.2.2.elim
theorem zax {x:Int} {s:Bool} {A:Option Addr} {n c:Nat} (h:IntS w s A n c x) (ha:Aw L A n):(YP x).R L w (.agg #[.bool s,.slice A n c]):=
 ⟨[.bool s,.slice A n c],rfl,by rw [h.sg];rfl,byt_in h.by_ ha,trivial⟩
theorem rint_out {s:Bool} {b:LN} (h:(zeH s b).R L w v):∃ A n c,v= .agg #[.bool s,.slice A n c]∧n=b.length∧n≤c∧RV w A (cN .u8 b)∧Aw L A n:=by
 obtain ⟨cs,hv,ha⟩:=h
 cases cs with
 | nil=>exact ha.elim
 | cons c1 cs=>
  cases cs with
  | nil=>exact ha.2.elim
  | cons c2 cs=>
   cases cs with
   | nil=>
    obtain ⟨h1,⟨A,c,h3,h4,h5,h6⟩,-⟩:=ha;rw [show c1=_ from h1,h3] at hv;rw [Zh] at hv h4 h6;exact ⟨A,_,c,hv,I,h4,h5,h6⟩
   | cons=>exact ha.2.2.elim
theorem zb3 {x y:Int} (h:x=y):Le (YP x) (YP y):=by subst h;exact zc _
theorem le_int0:Le (Z8 [isD<|.bool false,isD<|.slice none 0 0]) (YP 0):=by
 refine Le.agg ⟨zc _,?_,t9⟩
 have:(Nm.dg 256 (0:Int).natAbs).reverse=[]:=by rw [show (0:Int).natAbs=0 from rfl,Nm.dg_zero];rfl
 unfold bytD;rw [this];exact KX
theorem Yi {a b:Int} (h:a=b):Le (ZK a) (ZK b):=by subst h;exact zc _
end
section
variable {f:FuncId}{x y:Int}
theorem WJ {z e:Int} (hen:Y1 Tryz.prog f) (h:∀ w s t A B n c m d,IntS w s A n c x→IntS w t B m d y→Calls Tryz.prog f #[.agg #[.bool s,.slice A n c],.agg #[.bool t,.slice B m d]] w (RI w z e)):Con Tryz.prog f [YP x,YP y] (ZH [YP z,ZK e]):=by
 refine ⟨hen,fun L w vs hL _ ha=> ?_⟩;obtain ⟨u,v,rfl,hu,hv⟩:=zbB ha;obtain ⟨s,A,n,c,rfl,h1,-⟩:=je hu;obtain ⟨t,B,m,d,rfl,h2,-⟩:=je hv;refine (h w s t A B n c m d h1 h2).mono ?_;rintro r w' ⟨s',A',n',c',rfl,hI,hF,hO⟩;exact ⟨_,I,⟨[_,_],I,zax hI<|qu hF hL,I,t9⟩,hO⟩
theorem con_i_RI {z e:Int} (hen:Y1 Tryz.prog f) (h:∀ w s A n c,IntS w s A n c x→Calls Tryz.prog f #[.agg #[.bool s,.slice A n c]] w (RI w z e)):Con Tryz.prog f [YP x] (ZH [YP z,ZK e]):=by
 refine ⟨hen,fun L w vs hL _ ha=> ?_⟩;obtain ⟨u,rfl,hu⟩:=zcu ha;obtain ⟨s,A,n,c,rfl,h1,-⟩:=je hu;refine (h w s A n c h1).mono ?_;rintro r w' ⟨s',A',n',c',rfl,hI,hF,hO⟩;exact ⟨_,I,⟨[_,_],I,zax hI<|qu hF hL,I,t9⟩,hO⟩
theorem zdf {q r e:Int} (hen:Y1 Tryz.prog f) (h:∀ w s t A B n c m d,glob.R w→IntS w s A n c x→IntS w t B m d y→Calls Tryz.prog f #[.agg #[.bool s,.slice A n c],.agg #[.bool t,.slice B m d]] w (RI2 w q r e)):Con Tryz.prog f [YP x,YP y] (ZH [YP q,YP r,ZK e]):=by
 refine ⟨hen,fun L w vs hL hG ha=> ?_⟩;obtain ⟨u,v,rfl,hu,hv⟩:=zbB ha;obtain ⟨s,A,n,c,rfl,h1,-⟩:=je hu;obtain ⟨t,B,m,d,rfl,h2,-⟩:=je hv;refine (h w s t A B n c m d hG h1 h2).mono ?_;rintro r w' ⟨s',A',n',c',s2,A2,n2,c2,rfl,hI,hI2,hF,hF2,hO⟩;exact ⟨_,I,⟨[_,_,_],I,zax hI<|qu hF hL,zax hI2<|qu hF2 hL,I,t9⟩,hO⟩
theorem con_v_RV1 {z:Int} {p:Value} (hen:Y1 Tryz.prog f) (h:∀ w,Calls Tryz.prog f #[p] w (RV1 w z)):Con Tryz.prog f [isD p] (YP z):=by
 refine ⟨hen,fun L w vs hL _ ha=> ?_⟩;obtain ⟨u,rfl,rfl⟩:=zcu ha;refine (h w).mono ?_;rintro r w' ⟨s',A',n',c',rfl,hI,hF,hO⟩;exact ⟨_,I,zax hI<|qu hF hL,hO⟩
theorem con_i_v {p:Value} (hen:Y1 Tryz.prog f) (h:∀ w s A n c,IntS w s A n c x→Calls Tryz.prog f #[.agg #[.bool s,.slice A n c]] w fun e w'=>e= .returned p∧Only [] w w'):Con Tryz.prog f [YP x] (isD p):=by
 refine ⟨hen,fun L w vs hL _ ha=> ?_⟩;obtain ⟨u,rfl,hu⟩:=zcu ha;obtain ⟨s,A,n,c,rfl,h1,-⟩:=je hu;refine (h w s A n c h1).mono ?_;rintro r w' ⟨rfl,hO⟩;exact ⟨_,I,I,hO⟩
theorem con_ii_v {p:Value} (hen:Y1 Tryz.prog f) (h:∀ w s t A B n c m d,IntS w s A n c x→IntS w t B m d y→Calls Tryz.prog f #[.agg #[.bool s,.slice A n c],.agg #[.bool t,.slice B m d]] w fun e w'=>e= .returned p∧Only [] w w'):Con Tryz.prog f [YP x,YP y] (isD p):=by
 refine ⟨hen,fun L w vs hL _ ha=> ?_⟩;obtain ⟨u,v,rfl,hu,hv⟩:=zbB ha;obtain ⟨s,A,n,c,rfl,h1,-⟩:=je hu;obtain ⟨t,B,m,d,rfl,h2,-⟩:=je hv;refine (h w s t A B n c m d h1 h2).mono ?_;rintro r w' ⟨rfl,hO⟩;exact ⟨_,I,I,hO⟩
theorem con_r_v {p:Value} {s:Bool} {b:LN} (hen:Y1 Tryz.prog f) (h:∀ w A n c,n=b.length→RV w A (cN .u8 b)→Calls Tryz.prog f #[.agg #[.bool s,.slice A n c]] w fun e w'=>e= .returned p∧Only [] w w'):Con Tryz.prog f [zeH s b] (isD p):=by
 refine ⟨hen,fun L w vs hL _ ha=> ?_⟩;obtain ⟨u,rfl,hu⟩:=zcu ha;obtain ⟨A,n,c,rfl,h1,-,h2,-⟩:=rint_out hu;refine (h w A n c h1 h2).mono ?_;rintro r w' ⟨rfl,hO⟩;exact ⟨_,I,I,hO⟩
end
end Sx
namespace Sx
section
variable {x y:Int}
def e2:Nat:=200
def e4:Nat:=1000
def b2:Nat:=256 ^ e2
def b4:Nat:=256 ^ e4
theorem b24 {X:Nat} (h:X < b2):X < b4:=Ju h (Nat.pow_le_pow_right d9 d9)
theorem b2_512 {X:Nat} (h:X < ya):X < b2:=Ju h (Nat.pow_le_pow_right d9 d9)
theorem b4_512 {X:Nat} (h:X < ya):X < b4:=b24 (b2_512 h)
theorem con_add (hx:x.natAbs < ya) (hy:y.natAbs < ya):Con Tryz.prog 167 [YP x,YP y] (ZH [YP<|qY<|x + y,ZK<|Y3<|x + y]):=
 WJ (enters_of Tryz.func167 k9 rfl) fun w s t A B n c m d h1 h2=>add_any w s t A B n c m d x y hx hy h1 h2
theorem con_sub (hx:x.natAbs < ya) (hy:y.natAbs < ya):Con Tryz.prog 168 [YP x,YP y] (ZH [YP<|qY<|x - y,ZK<|Y3<|x - y]):=
 WJ (enters_of Tryz.func168 k9 rfl) fun w s t A B n c m d h1 h2=>sub_any w s t A B n c m d x y hx hy h1 h2
theorem zde (hx:x.natAbs < ya) (hy:y.natAbs < ya):Con Tryz.prog 166 [YP x,YP y] (ZH [YP<|qY<|x * y,ZK<|Y3<|x * y]):=
 WJ (enters_of Tryz.func166 k9 rfl) fun w s t A B n c m d h1 h2=>mul_any w s t A B n c m d x y hx hy h1 h2
theorem con_neg (hx:x.natAbs < ya):Con Tryz.prog 136 [YP x] (ZH [YP<|-x,ZK 0]):=
 con_i_RI (enters_of Tryz.func136 k9 rfl) fun w s A n c h=>neg_any w s A n c x hx h
theorem Ki (h1: -9223372036854775808≤x) (h2:x≤9223372036854775807):Con Tryz.prog 81 [ZK x] (YP x):=
 con_v_RV1 (enters_of Tryz.func81 k9 rfl) fun w=>of_any w x h1 h2
theorem jj (hx:x.natAbs < ya):Con Tryz.prog 57 [YP x] (ZK x.sign):=
 con_i_v (enters_of Tryz.func57 k9 rfl) fun w s A n c h=>sign_any w s A n c x hx h
theorem WB (hx:x.natAbs < ya):Con Tryz.prog 114 [YP x] (yL true):=
 con_i_v (enters_of Tryz.func114 k9 rfl) fun w s A n c h=>ZC w s A n c x h hx
theorem Vf (s:Bool) (b:LN):Con Tryz.prog 114 [zeH s b] (yL<|vld s b):=
 con_r_v (enters_of Tryz.func114 k9 rfl) fun w A n c h1 h2=>zbR w s A n c b h1 h2
def VA (x y:Int):Int:=if x < y then -1 else if x=y then 0 else 1
theorem cmpZ_of {x y r:Int} (h:CmpZ x y r):r=VA x y:=by
 unfold VA;rcases h with ⟨h,rfl⟩ | ⟨h,rfl⟩ | ⟨h,rfl⟩
 ·rw [Jh h]
 ·rw [Jb o9,Jh h]
 ·rw [Jb o9,Jb o9]
theorem qm (hx:x.natAbs < ya) (hy:y.natAbs < ya):Con Tryz.prog 80 [YP x,YP y] (ZK<|VA x y):=
 con_ii_v (enters_of Tryz.func80 k9 rfl) fun w s t A B n c m d h1 h2=>(zdl w s t A B n c m d x y hx hy h1 h2).mono fun _ _ ⟨r,he,hr,hO⟩=>⟨by rw [he,cmpZ_of hr.out],hO⟩
def valV (x:Int):Int:=if -9223372036854775808≤x∧x≤9223372036854775807 then x else 0
def valE (x:Int):Int:=if -9223372036854775808≤x∧x≤9223372036854775807 then 0 else 3
theorem zaJ (hx:x.natAbs < ya):Con Tryz.prog 88 [YP x] (ZH [ZK<|valV x,ZK<|valE x]):=by
 refine ⟨enters_of Tryz.func88 k9 I,fun L w vs hL _ ha=> ?_⟩;obtain ⟨u,rfl,hu⟩:=zcu ha;obtain ⟨s,A,n,c,rfl,h1,-⟩:=je hu;refine (value_any w s A n c x hx h1).mono ?_;rintro r w' ⟨v,er,rfl,hv,hO⟩
 have:v=valV x∧er=valE x:=by
  unfold valV valE;rcases hv.out with ⟨h1,h2,rfl,rfl⟩ | ⟨h,rfl,rfl⟩
  ·rw [Jh ⟨h1,h2⟩,Jh ⟨h1,h2⟩];exact ⟨rfl,rfl⟩
  ·rw [Jb o9,Jb o9];exact ⟨rfl,rfl⟩
 rw [this.1,this.2];exact ⟨_,I,⟨[_,_],I,I,I,t9⟩,hO⟩
end
section
variable {X Y:Nat}
end
section
variable {X Y:Nat}
end
end Sx
namespace Sx
end Sx
namespace Sx
theorem bldI0:Bld Tryz.prog 76 [] [] [isD<|.bool false,isD<|.slice none 0 0]:=fun L w vs h=>by
 obtain rfl:=all0 h;exact ⟨[.bool false,.slice none 0 0],⟨I,I,t9⟩,fun w'=>by kernel_rfl⟩
theorem agg2 {L:LN} {w:World} {d e:D} {v:Value} (h:(Z8 [d,e]).R L w v):∃ a b,v= .agg #[a,b]∧d.R L w a∧e.R L w b:=by
 obtain ⟨cs,rfl,h⟩:=h;obtain ⟨a,b,rfl,h1,h2⟩:=zbB h;exact ⟨a,b,I,h1,h2⟩
theorem con_gcdB {s t:Bool} {b c:LN} (h:(vld s b && vld t c)=false):Con Tryz.prog 113 [zeH s b,zeH t c] (ZH [YP 0,ZK 2]):=by
 refine yy Tryz.func113 k9 I k9 fun base w0=>(zn (SWl.e2 (S:=[]) (ym I I) fun g2=>(SWl.e2 (S:=[]) (ym I I) fun g3=>(SWl.e2 (S:=[]) (Ef.alloc (zs:=[.bool false,.slice none 0 0]) k9 I) fun g4=>(zf I<|ze<|zh<|zn<|za I (zx 0 2 I I k9 I zm)<|zu (S:=[]) (zv (Vf _ _) I ⟨zc _,t9⟩ I)<|za I (yu I)<|zd I<|z1 13 I (fun hb13=> ?_) (fun hb13=> ?_))))))
 ·skip
  refine zt hb13 (zt hb13<|zt hb13<|za I (zE I hb13 I)<|ze<|yj I I<|zn<|za I (yF I I bldI0)<|zu (S:=[_]) (zA 2 I I I k9 I<|m9 I)<|zf I<|ze<|zO (fn:=Tryz.f113) (fun _ _ h=>h)<|Rs.le (Rs.two I (yx 2 I I k9)<|zk I) ?_);exact Zf ⟨le_int0,zc _,t9⟩
 ·skip
  refine zJ hb13 (zx 1 2 I I k9 I zm) (yN (S:=[]) I I hb13 I (zv (Vf _ _) I ⟨zc _,t9⟩ I) ?_);rintro _ rfl;refine zJ hb13 (yu I) (za I (zw I hb13 I)<|ze<|zC I (fun hb17=> ?_) (fun hb17=> ?_))
  ·skip
   refine zn (za I (yF I I bldI0)<|zu (S:=[_]) (zA 2 I I I k9 I<|m9 I)<|zf I<|ze<|zO (fn:=Tryz.f113) (fun _ _ h=>h)<|Rs.le (Rs.two I (yx 2 I I k9)<|zk I) ?_);exact Zf ⟨le_int0,zc _,t9⟩
  ·exact absurd h (by simp_all)
end Sx
namespace Sx
theorem bytes_len {x:Int} {k:Nat} (h:x.natAbs < 256 ^ k):(Nm.dg 256 x.natAbs).reverse.length≤k:=by
 rw [List.length_reverse,Nm.dg_length];exact (Nm.len_le (B:=256) d9 k x.natAbs).2 h
theorem vld_int {x:Int} (hx:x.natAbs < ya):vld (decide (x < 0)) (Nm.dg 256 x.natAbs).reverse=true:=by
 have hl:=bytes_len (x:=x) (k:=64) hx;unfold vld
 by_cases h0:x=0
 ·subst h0;rw [show (0:Int).natAbs=0 from rfl,Nm.dg_zero]
  rfl
 ·have hne:x.natAbs≠0:=by omega
  have hlen:((Nm.dg 256 x.natAbs).reverse).length=Nm.len 256 x.natAbs:=by rw [List.length_reverse,Nm.dg_length]
  have hpos:0 < Nm.len 256 x.natAbs:=by
   rcases Xk (Nm.len 256 x.natAbs) with h | h
   ·exact absurd ((Nm.len_eq_zero (B:=256) d9).1 h) hne
   ·exact h
  rw [Jb o9]
  have htop:((Nm.dg 256 x.natAbs).reverse).getD 0 0≠0:=by
   obtain ⟨k,hk⟩:∃ k,Nm.len 256 x.natAbs=k + 1:=⟨Nm.len 256 x.natAbs - 1,by omega⟩;rw [zbh (i:=k) (r:=0) (by rw [Nm.dg_length];omega),Nm.dg_getD d9];intro h;have h1:=Nm.top_zero (B:=256) (X:=x.natAbs) (k:=k) d9 (by rw [← hk];exact Nm.lt_pow_len d9 _) h;have h2:=(Nm.len_le (B:=256) d9 k _).2 h1;omega
  rw [Jo hl,Jo htop]
  rfl
theorem le_v {p q:Value} (h:p=q):Le (isD p) (isD q):=zI h
theorem leC_int {x y:Int} (h:x=y):LeAll (VL x) (VL y):=by subst h;exact Zk _
theorem con_signB {s:Bool} {b:LN} (h:vld s b=false):Con Tryz.prog 57 [zeH s b] (ZK 0):=by
 refine yy Tryz.func57 k9 I k9 fun base w0=>(zn (SWl.e2 (S:=[]) (ym I I) fun g1=>(zf I<|ze<|zh<|SW.block<|zn<|za I (zx 0 2 I I k9 I zm)<|zu (S:=[]) (zv (Vf _ _) I ⟨zc _,t9⟩ I)<|za I (yu I)<|zd I<|qr I I (by simp [h]) I I<|qr I I (by simp [h]) I I<|qr I I (by simp [h]) I I<|qr I I (by simp [h]) I I<|za I (zE I (by simp [h]) I)<|zf I<|ze<|yj I I<|zn<|zf I<|ze<|zO (fn:=Tryz.f57) (fun _ _ h=>h)<|Rs.le (zG I<|zk I) ?_)));exact zc _
end Sx
namespace Sx
theorem zfJ {ds es:List D} (h:ds=es):LeAll ds es:=by subst h;exact Zk _
theorem own_set {k:IntKind} {l m:LN} {o j d:Nat} {v:Int} (ho:o=j) (hv:v=(d:Int)) (hm:l.set j d=m):((cN k l).map isD).set o (isD<|.int k v)=(cN k m).map isD:=by
 subst ho hv hm;rw [← List.map_set,ZW]
