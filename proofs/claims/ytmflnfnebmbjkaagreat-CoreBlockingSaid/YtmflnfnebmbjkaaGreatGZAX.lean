/- THE WALKS of ratio's calculate, Add, Sub, Mul, Quo. THE WALKS of the reference's Limited, Add, Mul, Quo of Ratios. -/
import Derived.Test.YtmflnfnebmbjkaaGreatGZAW
set_option maxHeartbeats 8000000
set_option maxRecDepth 100000
namespace Go.Proofs.YtmflnfnebmbjkaaGreat
open Go.RowKit
open Nm (W32)
namespace Sx
def apE (f e:Int):Int:=if f=0 then e else f
def apZ (f z:Int):Int:=if f=0 then z else 0
theorem qW {f e:Int} (h:f=0):apE f e=e:=Jh h
theorem VB {f e:Int} (h:¬f=0):apE f e=f:=Jb h
theorem KU {f e:Int} (h:f=0):apZ f e=e:=Jh h
theorem apZ_no {f e:Int} (h:¬f=0):apZ f e=0:=Jb h
theorem V9 {f e:Int} (h:apE f e=0):f=0∧e=0:=by
 by_cases hf:f=0
 ·rw [qW hf] at h;exact ⟨hf,h⟩
 ·rw [VB hf] at h;exact absurd h hf
theorem lim_lt (z:Int):(YM z).natAbs < zO:=by
 by_cases h:z.natAbs < zO
 ·rw [(yC h).1];exact h
 ·rw [(WE h).1];exact Nat.lt_trans d9 zbi
theorem apZ_lt {f z:Int} (h:z.natAbs < zO):(apZ f z).natAbs < zO:=by
 unfold apZ
 split
 ·exact h
 ·exact Nat.lt_trans d9 zbi
theorem zbq {z:Int} (h:Yd z=0):z.natAbs < zO:=Classical.byContradiction fun hn=>by rw [(WE hn).2] at h;cases h
theorem zbp {z:Int} (h:Yd z≠0):Yd z=7∧¬z.natAbs < zO:=by
 by_cases hz:z.natAbs < zO
 ·exact absurd (yC hz).2 h
 ·exact ⟨(WE hz).2,hz⟩
def jB (l:List Int):Bool:=l.all fun z=>decide (z.natAbs < zO)
def qN (l:List Int) (n d:Int):Int:=if jB l=true then rn n d else 0
def qD (l:List Int) (n d:Int):Int:=if jB l=true then rd n d else 0
def qE (l:List Int):Int:=if jB l=true then 0 else 7
theorem Kh {l:List Int} {z:Int} (hf:jB l=true) (h:z∈l):z.natAbs < zO:=by
 have:=List.all_eq_true.1 hf z h;simpa using this
theorem zbx {n d:Int} (h:apE (apE 0<|Yd n) (Yd d)=0):jB [n,d]=true∧apZ 0 (YM n)=n∧apZ (apE 0<|Yd n) (YM d)=d:=by
 obtain ⟨h1,h2⟩:=V9 h;have h3:=(V9 h1).2;have f1:=zbq h3;have f2:=zbq h2;refine ⟨by simp [jB,f1,f2],by rw [KU rfl,(yC f1).1],by rw [KU h1,(yC f2).1]⟩
theorem full_two {n d:Int} (h:¬apE (apE 0<|Yd n) (Yd d)=0):jB [n,d]=false∧apE (apE 0<|Yd n) (Yd d)=7:=by
 by_cases h1:Yd n=0
 ·rw [qW (rfl:(0:Int)=0),qW h1] at *;have:=zbp h;exact ⟨by simp [jB,this.2],this.1⟩
 ·rw [qW (rfl:(0:Int)=0),VB h1] at *;have:=zbp h1;exact ⟨by simp [jB,this.2],this.1⟩
section
variable {x y d:Int}{jn:Int→Int→Int}
abbrev f2 (x y:Int):Int:=apE (apE 0<|Yd x) (Yd y)
abbrev f3 (jn:Int→Int→Int) (x y:Int):Int:=apE (f2 x y) (Yd<|jn (apZ 0<|YM x)<|apZ (apE 0<|Yd x)<|YM y)
abbrev f4 (jn:Int→Int→Int) (x y d:Int):Int:=apE (f3 jn x y) (Yd d)
theorem fits_four (h:f4 jn x y d=0):jB [x,y,jn x y,d]=true∧apZ (f2 x y) (YM<|jn (apZ 0<|YM x)<|apZ (apE 0<|Yd x)<|YM y)=jn x y∧apZ (f3 jn x y) (YM d)=d:=by
 obtain ⟨h1,h2⟩:=V9 h;obtain ⟨h3,h4⟩:=V9 h1;obtain ⟨f1,e1,e2⟩:=zbx h3;rw [e1,e2] at h4;have f4:=zbq h4;have f5:=zbq h2;refine ⟨?_,?_,by rw [KU h1,(yC f5).1]⟩
 ·simp [jB] at f1 ⊢;exact ⟨f1.1,f1.2,f4,f5⟩
 ·rw [KU h3,e1,e2,(yC f4).1]
theorem full_four (h:¬f4 jn x y d=0):jB [x,y,jn x y,d]=false∧f4 jn x y d=7:=by
 by_cases h1:f2 x y=0
 ·obtain ⟨f1,e1,e2⟩:=zbx h1
  have e3:f3 jn x y=Yd (jn x y):=by unfold f3;rw [qW h1,e1,e2]
  have e4:f4 jn x y d=apE (Yd<|jn x y) (Yd d):=by unfold f4;rw [e3]
  rw [e4] at h ⊢
  by_cases h2:Yd (jn x y)=0
  ·rw [qW h2] at h ⊢;have:=zbp h;exact ⟨by simp [jB,this.2],this.1⟩
  ·rw [VB h2] at h ⊢;have:=zbp h2;exact ⟨by simp [jB,this.2],this.1⟩
 ·obtain ⟨f1,e1⟩:=full_two h1
  have h2:f3 jn x y=7:=by unfold f3;rw [VB h1];exact e1
  unfold f4;rw [VB (by rw [h2];decide),h2];refine ⟨?_,I⟩;simp [jB] at f1 ⊢;intro hx hy;exact absurd (f1 hx) o9
theorem calc_four {F1 F2 F3 F4 Z1 Z2 Z3 Z4:Int} (hF1:apE 0 (Yd x)=F1) (hZ1:apZ 0 (YM x)=Z1) (hF2:apE F1 (Yd y)=F2) (hZ2:apZ F1 (YM y)=Z2) (hF3:apE F2 (Yd<|jn Z1 Z2)=F3) (hZ3:apZ F2 (YM<|jn Z1 Z2)=Z3) (hF4:apE F3 (Yd d)=F4) (hZ4:apZ F3 (YM d)=Z4):
  (F4=0→jB [x,y,jn x y,d]=true∧Z3=jn x y∧Z4=d)∧(¬F4=0→jB [x,y,jn x y,d]=false∧F4=7):=by
 subst hF1 hZ1 hF2 hZ2 hF3 hZ3 hF4 hZ4;exact ⟨fits_four,full_four⟩
end
theorem Good.mul0 {a b c e:Int} (h:Good a b) (k:Good c e):b * e≠0:=Int.mul_ne_zero h.d0 k.d0
theorem jp {g:Nat} {F:FuncId} {x y z e f E Z:Int} (hE:apE f e=E) (hZ:apZ f z=Z) (hop:f=0→Con Tryz.prog F [Zc x,Zc y] (Zm [Zc z,y6 e])):ConB Tryz.prog 138 g ([y6 f]) ([y6 E]) [isD<|.func (.func F) #[] #[],Zc x,Zc y,pA g] (Zc Z):=by
 refine con_ofB Tryz.func138 k9 I k9 fun base w0=>(zq (SWl.e2 (S:=[]) (yf I I) fun g5=>(SWl.e2 (S:=[]) (yf I I) fun g6=>(SWl.e2 (S:=[]) (Ef.alloc (zs:=[.bool false,.slice none 0 0]) k9 I) fun g7=>(ze<|zh<|zq<|za I (zz 0 I I I k9 zp)<|za I (yk I I)<|ze<|zD I (fun hb10=> ?_) (fun hb10=> ?_))))))
 ·have hf:¬f=0:=by simpa using hb10
  refine zq (za I (yD I I bldI0)<|zt (S:=[_]) (zw 3 I I I k9 I<|m9 I)<|ze<|Wd (fn:=Tryz.f138) (fun _ _ h=>h) (Rs.le (zM I<|zV 3 I I k9) ?_) I ?_)
  ·exact le_int0.trans (Yp<|(apZ_no hf).symm.trans hZ)
  ·exact ⟨yS<|(VB hf).symm.trans hE,t9⟩
 ·have hf:f=0:=by simpa using hb10
  refine zx (zg<|zq (SWl.e2 (S:=[]) (Ef.alloc (zs:=[.bool false,.slice none 0 0]) k9 I) fun g8=>(zT<|zc I<|za I (zv 1 2 I I k9 I zp)<|za I (zv 2 2 I I k9 I zp)<|zt (S:=[]) (Ef.callV (cap:=[]) (hop hf) I I ⟨zb _,zb _,t9⟩ I)<|zc I<|za I (zj I I)<|za I (zj I I)<|zt (S:=[_]) (zw 4 I I I k9 I<|m9 I)<|zt (S:=[_]) (y7 0 I I I k9 I<|m9 I)<|zT<|za I (zv 4 2 I I k9 I zp)<|zt (S:=[_]) (zw 3 I I I k9 I<|m9 I)<|ze<|Wd (fn:=Tryz.f138) (fun _ _ h=>h) (Rs.le (zM I<|zV 3 I I k9) ?_) I ?_)))
  ·exact Yp ((KU hf).symm.trans hZ)
  ·exact ⟨yS<|(qW hf).symm.trans hE,t9⟩
abbrev mulF:Value:= .func (.func 135) #[] #[]
abbrev addF:Value:= .func (.func 136) #[] #[]
abbrev subF:Value:= .func (.func 137) #[] #[]
theorem bldU1 {a b:Nat}:Bld Tryz.prog 151 [0,1] [isD<|.func (.func a) #[] #[],isD<|.func (.func b) #[] #[]] [isD<|.func (.func a) #[] #[],isD<|.func (.func b) #[] #[]]:=fun L w vs h=>by
 obtain ⟨u,v,rfl,rfl,rfl⟩:=Wa h;exact ⟨[_,_],⟨I,I,t9⟩,fun w'=>by kernel_rfl⟩
theorem bldU2 {a:Nat}:Bld Tryz.prog 151 [0,1] [isD<|.func (.func a) #[] #[],isD .nilFunc] [isD<|.func (.func a) #[] #[],isD .nilFunc]:=fun L w vs h=>by
 obtain ⟨u,v,rfl,rfl,rfl⟩:=Wa h;exact ⟨[_,_],⟨I,I,t9⟩,fun w'=>by kernel_rfl⟩
theorem bldU3 {d e f g i j:D}:Bld Tryz.prog 152 [0,1,2] [Yj [d,e],Yj [f,g],Yj [i,j]] [d,e,f,g,i,j]:=fun L w vs h=>by
 obtain ⟨u,v,z,rfl,hu,hv,hz⟩:=all3 h;obtain ⟨a,b,rfl,h1,h2⟩:=zcU hu;obtain ⟨a',b',rfl,h3,h4⟩:=zcU hv;obtain ⟨a2,b2,rfl,h5,h6⟩:=zcU hz;exact ⟨[a,b,a',b',a2,b2],⟨h1,h2,h3,h4,h5,h6,t9⟩,fun w'=>by kernel_rfl⟩
theorem WV:Con Tryz.prog 110 [] (Yj [isD mulF,isD addF,isD mulF,isD subF,isD mulF,isD .nilFunc]):=by
 refine z1 Tryz.func110 k9 I k9 fun base w0=>(zq (SWl.e2 (S:=[]) (Ef.alloc (zs:=[.nilFunc,.nilFunc,.nilFunc,.nilFunc,.nilFunc,.nilFunc]) k9 I) fun g0=>(zT<|za I (yD I I (by first | exact bldU1 | exact bldU2))<|za I (yD I I (by first | exact bldU1 | exact bldU2))<|za I (yD I I (by first | exact bldU1 | exact bldU2))<|za I (yD I I bldU3)<|zt (S:=[_]) (zw 0 I I I k9 I<|m9 I)<|ze ?_)))
 refine zE (fn:=Tryz.f110) (fun _ _ h=>h) (zM I<|zV 0 I I k9)
theorem W5 {J:FuncId} {jn:Int→Int→Int} (hJ:∀ p q:Int,p.natAbs < zO→q.natAbs < zO→Con Tryz.prog J [Zc p,Zc q] (Zm [Zc<|YM<|jn p q,y6<|Yd<|jn p q])) {a b c e:Int} (ha:a.natAbs < zO) (hb:b.natAbs < zO) (hc:c.natAbs < zO) (he:e.natAbs < zO) (h0:b * e≠0):Con Tryz.prog 111 [Ya a b,Ya c e,isD mulF,isD<|.func (.func J) #[] #[]] (Zm [Ya (qN [a * e,c * b,jn (a * e)<|c * b,b * e] (jn (a * e)<|c * b)<|b * e)<|qD [a * e,c * b,jn (a * e)<|c * b,b * e] (jn (a * e)<|c * b)<|b * e,y6<|qE [a * e,c * b,jn (a * e)<|c * b,b * e]]):=by
 obtain ⟨F1,hF1⟩:∃ u,apE 0 (Yd<|a * e)=u:=⟨_,rfl⟩;obtain ⟨Z1,hZ1⟩:∃ u,apZ 0 (YM<|a * e)=u:=⟨_,rfl⟩;obtain ⟨F2,hF2⟩:∃ u,apE F1 (Yd<|c * b)=u:=⟨_,rfl⟩;obtain ⟨Z2,hZ2⟩:∃ u,apZ F1 (YM<|c * b)=u:=⟨_,rfl⟩;obtain ⟨F3,hF3⟩:∃ u,apE F2 (Yd<|jn Z1 Z2)=u:=⟨_,rfl⟩;obtain ⟨Z3,hZ3⟩:∃ u,apZ F2 (YM<|jn Z1 Z2)=u:=⟨_,rfl⟩;obtain ⟨F4,hF4⟩:∃ u,apE F3 (Yd<|b * e)=u:=⟨_,rfl⟩;obtain ⟨Z4,hZ4⟩:∃ u,apZ F3 (YM<|b * e)=u:=⟨_,rfl⟩;have hc4:=calc_four hF1 hZ1 hF2 hZ2 hF3 hZ3 hF4 hZ4
 have hz1:Z1.natAbs < zO:=by rw [← hZ1];exact apZ_lt (lim_lt _)
 have hz2:Z2.natAbs < zO:=by rw [← hZ2];exact apZ_lt (lim_lt _)
 refine z1 Tryz.func111 k9 I k9 fun base w0=>(zq (SWl.e2 (S:=[]) (yf I I) fun g4=>(SWl.e2 (S:=[]) (yf I I) fun g5=>(SWl.e2 (S:=[]) (Ef.alloc (zs:=[.bool false,.slice none 0 0,.bool false,.slice none 0 0]) k9 I) fun g8=>(zd I<|zT (SWl.e2 (S:=[]) (Ef.alloc (zs:=[.int .i64 0]) k9 I) fun g10=>(zt (S:=[_]) (y7 3 I I I k9 I<|m9 I)<|zT<|za I (Ys [.pointer<|some ⟨g10,0,none⟩] I)<|zd I<|zT (SWl.e2 (S:=[]) (Ef.alloc (zs:=[.bool false,.slice none 0 0]) k9 I) fun g12=>(ze<|zh<|zq<|zc I<|za I (ZB I I (r:= .bool false) (fun w=>by kernel_rfl))<|ze<|zK I I<|zq<|zc I<|zc I<|za I (zi (n:=0) I k9)<|za I (zv 0 2 I I k9 I zp) ?_)))))))));refine za I (zi (n:=2) I k9) (za I (zv 1 2 I I k9 I zp)<|zt (S:=[_]) (jA (cap:=[.pointer<|some ⟨g10,0,none⟩]) 3 (jp hF1 hZ1 (fun _=>zaN ha he)) I I ⟨zb _,zb _,zb _,zb _,t9⟩ I (m9 I) I) (SWl.e2 (S:=[]) (Ef.alloc (zs:=[.bool false,.slice none 0 0]) k9 I) fun g13=>(zt (S:=[_]) (zw 5 I I I k9 I<|m9 I)<|ze<|zh<|SW.sub (σ':=St.of [(4,pA g4),(5,pA g5),(8,pA g8),(10,pA g10),(12,pA g12),(13,pA g13),(2,isD mulF),(11,isD<|.func (.func 138) #[] #[.pointer<|some ⟨g10,0,none⟩]),(3,isD<|.func (.func J) #[] #[])] [(g4,q6 (a)<|b),(g5,q6 (c)<|e),(g8,[isD<|.bool false,isD<|.slice none 0 0,isD<|.bool false,isD<|.slice none 0 0]),(g10,[y6 F1]),(g12,[isD<|.bool false,isD<|.slice none 0 0]),(g13,qJ Z1)]) (sB [0,1,2,3,4,5] I I)<|zf<|zc I<|zc I<|za I (zi (n:=0) I k9)<|za I (zv 1 2 I I k9 I zp)<|za I (zi (n:=2) I k9)<|za I (zv 0 2 I I k9 I zp)<|zt (S:=[_]) (jA (cap:=[.pointer<|some ⟨g10,0,none⟩]) 3 (jp hF2 hZ2 (fun _=>zaN hc hb)) I I ⟨zb _,zb _,zb _,zb _,t9⟩ I (m9 I) I) (SWl.e2 (S:=[]) (Ef.alloc (zs:=[.bool false,.slice none 0 0]) k9 I) fun g14=>(zt (S:=[_]) (zw 6 I I I k9 I<|m9 I)<|ze<|SW.sub (σ':=St.of [(4,pA g4),(5,pA g5),(8,pA g8),(10,pA g10),(12,pA g12),(13,pA g13),(14,pA g14),(2,isD mulF),(11,isD<|.func (.func 138) #[] #[.pointer<|some ⟨g10,0,none⟩]),(3,isD<|.func (.func J) #[] #[])] [(g4,q6 (a)<|b),(g5,q6 (c)<|e),(g8,[isD<|.bool false,isD<|.slice none 0 0,isD<|.bool false,isD<|.slice none 0 0]),(g10,[y6 F2]),(g12,[isD<|.bool false,isD<|.slice none 0 0]),(g13,qJ Z1),(g14,qJ Z2)]) (sB [0,1,2,3,4,5,6] I I)<|zf<|zc I<|zc I<|za I (zv 5 2 I I k9 I zp)<|za I (zv 6 2 I I k9 I zp)<|zt (S:=[_]) (jA (cap:=[.pointer<|some ⟨g10,0,none⟩]) 3 (jp hF3 hZ3 (fun _=>hJ _ _ hz1 hz2)) I I ⟨zb _,zb _,zb _,zb _,t9⟩ I (m9 I) I)<|zt (S:=[_]) (zw 4 I I I k9 I<|m9 I)<|ze<|zh<|SW.sub (σ':=St.of [(4,pA g4),(5,pA g5),(8,pA g8),(10,pA g10),(12,pA g12),(2,isD mulF),(11,isD<|.func (.func 138) #[] #[.pointer<|some ⟨g10,0,none⟩])] [(g4,q6 (a)<|b),(g5,q6 (c)<|e),(g8,[isD<|.bool false,isD<|.slice none 0 0,isD<|.bool false,isD<|.slice none 0 0]),(g10,[y6 F3]),(g12,qJ Z3)]) (sB [0,1,2,3,4] I I)<|zf<|zc I<|zc I<|za I (zi (n:=2) I k9)<|za I (zv 0 2 I I k9 I zp)<|za I (zi (n:=2) I k9)<|za I (zv 1 2 I I k9 I zp) ?_)))))
 refine zt (S:=[_]) (jA (cap:=[.pointer<|some ⟨g10,0,none⟩]) 3 (jp hF4 hZ4 (fun _=>zaN hb he)) I I ⟨zb _,zb _,zb _,zb _,t9⟩ I (m9 I) I) (SWl.e2 (S:=[]) (Ef.alloc (zs:=[.bool false,.slice none 0 0]) k9 I) fun g15=>(zt (S:=[_]) (zw 5 I I I k9 I<|m9 I)<|ze<|zh<|zq<|za I (zz 3 I I I k9 zp)<|za I (yk I I)<|ze<|zD I (fun hb53=> ?_) (fun hb53=> ?_)))
 ·obtain ⟨h1,h2⟩:=hc4.2 (by simpa using hb53)
  refine zh (z8 [g8] (.r 0<|.r 1<|.e 2 (.r 3 .fin) .no) k9 k9 (fun d _ _ _ _ h=>by cases d <;> exact h)<|zk I I (yD I I bldR0)<|zk I I (zz 3 I I I k9<|yw 2 I d9 zp)<|yr I (zw 2 I I I k9 I<|Jc (i:=0) I)<|yU I I<|yn<|zE (fn:=Tryz.f111) (fun _ _ h=>h)<|Rs.le (Rs.two I (zV 2 I I k9)<|zo I) ?_)
  exact yR ⟨le_rat0.trans<|YA (by unfold qN;rw [h1];rfl) (by unfold qD;rw [h1];rfl),yS<|h2.trans (by unfold qE;rw [h1];rfl),t9⟩
 ·obtain ⟨h1,h2,h3⟩:=hc4.1 (by simpa using hb53);refine zx (zg<|zq<|za I (zv 4 2 I I k9 I zp)<|za I (zv 5 2 I I k9 I zp)<|zt (S:=[]) (zl (qB (Kh h1 s9) (Kh h1 s9) h0) I ⟨Yp h2,Yp h3,t9⟩ I)<|za I (zj I I)<|za I (zj I I)<|zt (S:=[_]) (zw 2 I I I k9 I<|m9 I)<|zd I<|ze<|zE (fn:=Tryz.f111) (fun _ _ h=>h)<|Rs.le (Rs.two I (zV 2 I I k9)<|zo I) ?_);exact yR ⟨YA (by unfold qN;rw [Jh h1]) (by unfold qD;rw [Jh h1]),yS (by unfold qE;rw [Jh h1]),t9⟩
theorem con_addQ {a b c e:Int} (hG:Good a b) (hH:Good c e):Con Tryz.prog 87 [Ya a b,Ya c e] (Zm [Ya (qN [a * e,c * b,a * e + c * b,b * e] (a * e + c * b)<|b * e)<|qD [a * e,c * b,a * e + c * b,b * e] (a * e + c * b)<|b * e,y6<|qE [a * e,c * b,a * e + c * b,b * e]]):=by
 refine z1 Tryz.func87 k9 I k9 fun base w0=>(zq (SWl.e2 (S:=[]) (yf I I) fun g2=>(SWl.e2 (S:=[]) (yf I I) fun g3=>(SWl.e2 (S:=[]) (Ef.alloc (zs:=[.bool false,.slice none 0 0,.bool false,.slice none 0 0]) k9 I) fun g4=>(zd I<|ze<|zh<|zq<|za I (zv 0 4 I I k9 I zp)<|zt (S:=[]) (zl (Zp (by assumption)) I ⟨zb _,t9⟩ I)<|za I (yE I)<|zc I<|zN I (zv 1 4 I I k9 I zp)<|y5 (S:=[]) I I I I (zl (Zp (by assumption)) I ⟨zb _,t9⟩ I) ?_)))));rintro _ rfl;refine zN I (yE I) (za I (zG I I I)<|ze<|zK I I<|zx<|zg<|zq<|zt (S:=[]) (zl (WV) I t9 I)<|za I (zak (e:=151) (n:=3) 2 I I k9 k9 d9 d9) (SWl.e2 (S:=[]) (Ef.alloc (zs:=[.nilFunc,.nilFunc]) k9 I) fun g6=>(zt (S:=[_]) (zw 3 I I I k9 I<|m9 I)<|zT<|za I (zv 0 4 I I k9 I zp)<|za I (zv 1 4 I I k9 I zp)<|za I (zi (n:=0) I k9)<|za I (zz 3 I I I k9 zp)<|za I (zi (n:=1) I k9)<|za I (zz 3 I I I k9 zp)<|zt (S:=[]) (zl (W5 (jn:=fun p q=>p + q) (fun p q hp hq=>con_add hp hq) hG.hn hG.hd hH.hn hH.hd<|hG.mul0 hH) I ⟨zb _,zb _,zb _,zb _,t9⟩ I)<|za I (zj I I)<|za I (zj I I)<|zt (S:=[_]) (zw 2 I I I k9 I<|m9 I)<|zd I<|ze ?_)))
 refine zE (fn:=Tryz.f87) (fun _ _ h=>h) (Rs.two I (zV 2 I I k9)<|zo I)
theorem con_subQ {a b c e:Int} (hG:Good a b) (hH:Good c e):Con Tryz.prog 67 [Ya a b,Ya c e] (Zm [Ya (qN [a * e,c * b,a * e - c * b,b * e] (a * e - c * b)<|b * e)<|qD [a * e,c * b,a * e - c * b,b * e] (a * e - c * b)<|b * e,y6<|qE [a * e,c * b,a * e - c * b,b * e]]):=by
 refine z1 Tryz.func67 k9 I k9 fun base w0=>(zq (SWl.e2 (S:=[]) (yf I I) fun g2=>(SWl.e2 (S:=[]) (yf I I) fun g3=>(SWl.e2 (S:=[]) (Ef.alloc (zs:=[.bool false,.slice none 0 0,.bool false,.slice none 0 0]) k9 I) fun g4=>(zd I<|ze<|zh<|zq<|za I (zv 0 4 I I k9 I zp)<|zt (S:=[]) (zl (Zp (by assumption)) I ⟨zb _,t9⟩ I)<|za I (yE I)<|zc I<|zN I (zv 1 4 I I k9 I zp)<|y5 (S:=[]) I I I I (zl (Zp (by assumption)) I ⟨zb _,t9⟩ I) ?_)))));rintro _ rfl;refine zN I (yE I) (za I (zG I I I)<|ze<|zK I I<|zx<|zg<|zq<|zt (S:=[]) (zl (WV) I t9 I)<|za I (zak (e:=151) (n:=3) 2 I I k9 k9 d9 d9) (SWl.e2 (S:=[]) (Ef.alloc (zs:=[.nilFunc,.nilFunc]) k9 I) fun g6=>(zt (S:=[_]) (zw 3 I I I k9 I<|m9 I)<|zT<|za I (zv 0 4 I I k9 I zp)<|za I (zv 1 4 I I k9 I zp)<|za I (zi (n:=0) I k9)<|za I (zz 3 I I I k9 zp)<|za I (zi (n:=1) I k9)<|za I (zz 3 I I I k9 zp)<|zt (S:=[]) (zl (W5 (jn:=fun p q=>p - q) (fun p q hp hq=>con_sub hp hq) hG.hn hG.hd hH.hn hH.hd<|hG.mul0 hH) I ⟨zb _,zb _,zb _,zb _,t9⟩ I)<|za I (zj I I)<|za I (zj I I)<|zt (S:=[_]) (zw 2 I I I k9 I<|m9 I)<|zd I<|ze ?_)))
 refine zE (fn:=Tryz.f67) (fun _ _ h=>h) (Rs.two I (zV 2 I I k9)<|zo I)
end Sx
namespace Sx
def rowZ (z:Int):Bool × LN:=(decide (z < 0),(Nm.dg 256 z.natAbs).reverse)
abbrev Wt (l:List Int):List D:=zaw (l.map rowZ)
theorem rowsZ_len (l:List Int):(Wt l).length=l.length * 2:=by rw [Wu,JO]
theorem jJ (l:List Int) {k:Nat} {z:Int} (h:l[k]? =some z):(Wt l).drop (k * 2)=isD (.bool<|decide (z < 0)) :: zcT z.natAbs :: Wt (l.drop<|k + 1):=by
 have hk:k < l.length:=(Jg.1 h).1;have hg:l[k]=z:=(Jg.1 h).2;unfold Wt;rw [Ve _ k (by rw [JO];exact hk),List.getElem_map,hg,List.map_drop]
 rfl
theorem fits_no {l:List Int} {k:Nat} {z:Int} (h:l[k]? =some z) (hz:¬z.natAbs < zO):jB l=false:=by
 unfold jB;rw [List.all_eq_false];exact ⟨z,Jc h,by simpa using hz⟩
theorem fits_next {l:List Int} {k:Nat} {z:Int} (h:l[k]? =some z) (hf:jB (l.take k)=true) (hz:z.natAbs < zO):jB (l.take<|k + 1)=true:=by
 have hk:k < l.length:=(Jg.1 h).1;have hg:l[k]=z:=(Jg.1 h).2;unfold jB at *;rw [J8 hk,List.all_append,hf,hg];simp [hz]
theorem blsI4 {d e f g i j k m:D}:Bls Tryz.prog 168 4 [0,1,2,3] [Yj [d,e],Yj [f,g],Yj [i,j],Yj [k,m]] [d,e,f,g,i,j,k,m]:=⟨41,fun L w vs h=>by
 cases vs with
 | nil=>exact h.elim
 | cons u vs=>
  obtain ⟨v,z,y,rfl,hv,hz,hy⟩:=all3 h.2;obtain ⟨a,b,rfl,h1,h2⟩:=zcU h.1;obtain ⟨a',b',rfl,h3,h4⟩:=zcU hv;obtain ⟨a2,b2,rfl,h5,h6⟩:=zcU hz;obtain ⟨a3,b3,rfl,h7,h8⟩:=zcU hy
  exact ⟨[a,b,a',b',a2,b2,a3,b3],⟨h1,h2,h3,h4,h5,h6,h7,h8,t9⟩,fun w'=>by kernel_rfl⟩⟩
theorem zbl {x y:Int} (hx:x.natAbs < zO) (hy:y.natAbs < zO):(x * y).natAbs < b2:=by rw [Int.natAbs_mul];exact b2_mul hx hy
theorem con_limQ {pre l:List Int} {n d:Int} (hl:l=pre ++ [n,d]) (hp:pre.length≤1000) (h0:d≠0):Con Tryz.prog 91 [rwD l.length<|Wt l] (Zm [Ya (qN l (n)<|d)<|qD l (n)<|d,y6<|qE l]):=by
 have hlen:l.length=pre.length + 2:=by rw [hl];simp
 have hN:l[pre.length]? =some n:=by rw [hl];simp
 have hD:l[pre.length + 1]? =some d:=by rw [hl,JR o9];simp
 have hrl:=rowsZ_len l;refine z1 Tryz.func91 k9 I k9 fun base w0=>(zq (SWl.e2 (S:=[]) (Ef.alloc (zs:=[.bool false,.slice none 0 0,.bool false,.slice none 0 0]) k9 I) fun g2=>(zd I<|ze<|zh<|zq<|zd I<|ze<|SW.block<|z2 (ι:={k:Nat // k≤l.length∧jB (l.take k)=true}) (fun ⟨k,hk,hk2⟩=>St.of [(2,pA g2),(0,rwD l.length<|Wt l),(3,y6 0),(4,y6 (k:Int))] [(g2,[isD<|.bool false,isD<|.slice none 0 0,isD<|.bool false,isD<|.slice none 0 0])]) (fun ⟨k,hk,hk2⟩=>l.length - k) (⟨0,JC _,by simp [jB]⟩) ?_ ?_)))
 ·exact (sB [0] I I)
 ·rintro ⟨k,hk,hk2⟩ K0 hK0;refine zh (zq<|zc I<|zc I<|za I (zU (e:=41) I k9)<|za I (ya I I)<|ze<|zD I (fun hb8=> ?_) (fun hb8=> ?_))
  ·have hltI:=oT hb8;obtain ⟨z,hz⟩:∃ z,l[k]? =some z:=⟨l[k]'(by have:=oT hb8;omega),Je _⟩;refine zx (zg<|zh<|SW.block<|zq<|zc I<|zc I<|za I (Wg (e:=41) 2 I I k9 k9 o9 o9 (by rw [hrl];omega))<|zbV 13 I (le_pa<|jJ l hz)<|za I (zZ (n:=1) I k9 s9)<|za I (zL I I k9 s9)<|za I (Rd.len (e:=5) I k9)<|za I (y0 I I)<|ze<|zD I (fun hb17=> ?_) (fun hb17=> ?_))
   ·have hff:=fits_no hz (fun hlt=>by have:=(lim_len hb17).2;rw [(yC hlt).2] at this;cases this);refine zq (za I (yD I I bldR0)<|zt (S:=[_]) (zw 0 I I I k9 I<|m9 I)<|zd I<|ze<|zE (fn:=Tryz.f91) (fun _ _ h=>h)<|Rs.le (Rs.two I (zV 0 I I k9)<|zo I) ?_);exact yR ⟨le_rat0.trans<|YA (by unfold qN;rw [hff];rfl) (by unfold qD;rw [hff];rfl),yS (by unfold qE;rw [hff];rfl),t9⟩
   ·have hz5:=lim_len' hb17;exact zx (SN.block<|zg<|zf<|zc I<|za I (Rd.add I I ⟨by omega,by omega⟩)<|zd I<|zy (fun a w hh=>hK0 (⟨k + 1,(Jg.1 hz).1,fits_next hz hk2 hz5⟩) (by show l.length - (k + 1) < l.length - k;have:=(Jg.1 hz).1;omega) a w<|hh.sub<|⟨⟨_,I,⟨lq I,⟨lq I,⟨lq I,⟨⟨_,I,yS o9⟩,t9⟩⟩⟩⟩⟩,[0],by decide,⟨la rfl,trivial⟩⟩))
  ·have hf:jB l=true:=(by have:=oF hb8;rw [Ji o9] at hk2;exact hk2);have hn5:=Kh hf (Jc hN);have hd5:=Kh hf (Jc hD);refine zP ?_
   repeat (first | refine zW ?_ | refine zX d9 ?_)
   refine zY (zg<|zh<|z8 [g2] (rr [0,1,2,3,4,5,6,7,8,9,10,11]<|.n 12 (.e 13 (.r 14 .fin) .no) .no) k9 k9 (fun d _ _ _ _ h=>by cases d <;> exact h)<|zA I I<|zA I I<|zk I I (zU (e:=41) I k9)<|zk I I (yu I I ⟨by omega,by omega⟩)<|zk I I (Wg (e:=41) 2 I I k9 k9 o9 o9 (by rw [hrl];omega))<|zbT 23 I (le_pa (es:=isD (.bool<|decide (n < 0)) :: zcT n.natAbs :: Wt (l.drop<|pre.length + 1)) (by rw [show ((l.length:Int) - 2).toNat=pre.length by omega];exact jJ l hN))<|zk I I (yJ 2 I k9 d9 s9<|YX (j:=0) I Yf)<|zA I I<|zA I I<|zk I I (zU (e:=41) I k9)<|zk I I (yu I I ⟨by omega,by omega⟩)<|zk I I (Wg (e:=41) 2 I I k9 k9 o9 o9 (by rw [hrl];omega))<|zbT 29 I (le_pa (es:=isD (.bool<|decide (d < 0)) :: zcT d.natAbs :: Wt (l.drop<|pre.length + 2)) (by rw [show ((l.length:Int) - 1).toNat=pre.length + 1 by omega];exact jJ l hD))<|zk I I (yJ 2 I k9 d9 s9<|YX (j:=0) I Yf)<|yg I (zl (KM hn5 hd5 h0) I ⟨zb _,zb _,t9⟩ I)<|yr I (zw 0 I I I k9 I<|Jc (i:=0) I)<|yU I I<|yn<|zE (fn:=Tryz.f91) (fun _ _ h=>h)<|Rs.le (Rs.two I (zV 0 I I k9)<|zo I) ?_)
   exact yR ⟨YA (by unfold qN;rw [Jh hf]) (by unfold qD;rw [Jh hf]),yS (by unfold qE;rw [Jh hf]),t9⟩
theorem con_addQR {a b c e:Int} (hG:Good a b) (hH:Good c e):Con Tryz.prog 52 [Ya a b,Ya c e] (Zm [Ya (qN [a * e,c * b,a * e + c * b,b * e] (a * e + c * b)<|b * e)<|qD [a * e,c * b,a * e + c * b,b * e] (a * e + c * b)<|b * e,y6<|qE [a * e,c * b,a * e + c * b,b * e]]):=by
 have ha4:=qP hG.hn;have hb4:=qP hG.hd;have hc4:=qP hH.hn;have he4:=qP hH.hd;refine z1 Tryz.func52 k9 I k9 fun base w0=>(zq (SWl.e2 (S:=[]) (yf I I) fun g2=>(SWl.e2 (S:=[]) (yf I I) fun g3=>(SWl.e2 (S:=[]) (Ef.alloc (zs:=[.bool false,.slice none 0 0,.bool false,.slice none 0 0]) k9 I) fun g4=>(zd I<|ze<|zh<|qq (fun σ=>∃ g6 g7,σ=St.of [(2,pA g2),(3,pA g3),(4,pA g4),(6,pA g6),(7,pA g7)] [(g2,q6 (a)<|b),(g3,q6 (c)<|e),(g4,[isD<|.bool false,isD<|.slice none 0 0,isD<|.bool false,isD<|.slice none 0 0]),(g6,qJ<|a * e),(g7,qJ<|c * b)]) ?_ ?_)))))
 ·refine z8 [] (rr [0,1,2,3,5,6,7,8]<|.n 4 (.n 9 (.n 10 (.n 11 (.e 12 (.e 13 .fin .no) .no) .no)<|.n 11 (.n 10 (.e 12 (.e 13 .fin .no) .no) .no) .no)<|.n 10 (.n 9 (.n 11 (.e 12 (.e 13 .fin .no) .no) .no)<|.n 11 (.n 9 (.e 12 (.e 13 .fin .no) .no) .no) .no)<|.n 11 (.n 9 (.n 10 (.e 12 (.e 13 .fin .no) .no) .no)<|.n 10 (.n 9 (.e 12 (.e 13 .fin .no) .no) .no) .no) .no)<|.n 10 (.n 4 (.n 9 (.n 11 (.e 12 (.e 13 .fin .no) .no) .no)<|.n 11 (.n 9 (.e 12 (.e 13 .fin .no) .no) .no) .no)<|.n 11 (.n 4 (.n 9 (.e 12 (.e 13 .fin .no) .no) .no) .no) .no)<|.n 11 (.n 4 (.n 9 (.n 10 (.e 12 (.e 13 .fin .no) .no) .no)<|.n 10 (.n 9 (.e 12 (.e 13 .fin .no) .no) .no) .no)<|.n 10 (.n 4 (.n 9 (.e 12 (.e 13 .fin .no) .no) .no) .no) .no) .no) k9 k9 (fun d _ _ _ _ h=>by cases d <;> exact h) (zk I I (zi (n:=0) I k9)<|zk I I (zv 0 2 I I k9 I zp)<|zk I I (zi (n:=2) I k9)<|zk I I (zv 1 2 I I k9 I zp)<|zk I I (zi (n:=0) I k9)<|zk I I (zv 1 2 I I k9 I zp)<|zk I I (zi (n:=2) I k9)<|zk I I (zv 0 2 I I k9 I zp)<|yV I (zl (yp (by assumption) (by assumption)) I ⟨zb _,zb _,t9⟩ I) ?_ ?_)
  ·rintro _ rfl;refine yV I (zl (yp (by assumption) (by assumption)) I ⟨zb _,zb _,t9⟩ I) ?_ ?_
   ·rintro _ rfl;refine Zw I (EfB.alloc (zs:=[.bool false,.slice none 0 0]) k9 I) ?_ ?_
    ·rintro g6 _ rfl;refine Zw I (EfB.alloc (zs:=[.bool false,.slice none 0 0]) k9 I) ?_ yo;rintro g7 _ rfl;exact yr I (zw 3 I I I k9 I<|Jc (i:=0) I) (yr I (zw 4 I I I k9 I<|Jc (i:=1) I)<|yq<|yI ⟨g6,g7,I⟩<|sB [0,1,2,3,4] I I)
    refine Zw I (EfB.alloc (zs:=[.bool false,.slice none 0 0]) k9 I) ?_ yo;rintro g7 _ rfl;refine Zw I (EfB.alloc (zs:=[.bool false,.slice none 0 0]) k9 I) ?_ yo;rintro g6 _ rfl;exact yr I (zw 4 I I I k9 I<|Jc (i:=1) I) (yr I (zw 3 I I I k9 I<|Jc (i:=0) I)<|yq<|yI ⟨g6,g7,I⟩<|sB [0,1,2,4,3] I I)
   refine Zw I (EfB.alloc (zs:=[.bool false,.slice none 0 0]) k9 I) ?_ ?_
   ·rintro g6 _ rfl;refine yV I (zl (yp (by assumption) (by assumption)) I ⟨zb _,zb _,t9⟩ I) ?_ ?_
    ·rintro _ rfl;refine Zw I (EfB.alloc (zs:=[.bool false,.slice none 0 0]) k9 I) ?_ yo;rintro g7 _ rfl;exact yr I (zw 3 I I I k9 I<|Jc (i:=0) I) (yr I (zw 4 I I I k9 I<|Jc (i:=1) I)<|yq<|yI ⟨g6,g7,I⟩<|sB [0,1,2,3,4] I I)
    refine Zw I (EfB.alloc (zs:=[.bool false,.slice none 0 0]) k9 I) ?_ yo;rintro g7 _ rfl;exact yg I (zl (yp (by assumption) (by assumption)) I ⟨zb _,zb _,t9⟩ I) (yr I (zw 3 I I I k9 I<|Jc (i:=0) I)<|yr I (zw 4 I I I k9 I<|Jc (i:=1) I)<|yq<|yI ⟨g6,g7,I⟩<|sB [0,1,2,3,4] I I)
   refine Zw I (EfB.alloc (zs:=[.bool false,.slice none 0 0]) k9 I) ?_ yo;rintro g7 _ rfl;refine yV I (zl (yp (by assumption) (by assumption)) I ⟨zb _,zb _,t9⟩ I) ?_ ?_
   ·rintro _ rfl;refine Zw I (EfB.alloc (zs:=[.bool false,.slice none 0 0]) k9 I) ?_ yo;rintro g6 _ rfl;exact yr I (zw 4 I I I k9 I<|Jc (i:=1) I) (yr I (zw 3 I I I k9 I<|Jc (i:=0) I)<|yq<|yI ⟨g6,g7,I⟩<|sB [0,1,2,4,3] I I)
   refine Zw I (EfB.alloc (zs:=[.bool false,.slice none 0 0]) k9 I) ?_ yo;rintro g6 _ rfl;exact yg I (zl (yp (by assumption) (by assumption)) I ⟨zb _,zb _,t9⟩ I) (yr I (zw 4 I I I k9 I<|Jc (i:=1) I)<|yr I (zw 3 I I I k9 I<|Jc (i:=0) I)<|yq<|yI ⟨g6,g7,I⟩<|sB [0,1,2,4,3] I I)
  refine Zw I (EfB.alloc (zs:=[.bool false,.slice none 0 0]) k9 I) ?_ ?_
  ·rintro g6 _ rfl;refine yV I (zl (yp (by assumption) (by assumption)) I ⟨zb _,zb _,t9⟩ I) ?_ ?_
   ·rintro _ rfl;refine yV I (zl (yp (by assumption) (by assumption)) I ⟨zb _,zb _,t9⟩ I) ?_ ?_
    ·rintro _ rfl;refine Zw I (EfB.alloc (zs:=[.bool false,.slice none 0 0]) k9 I) ?_ yo;rintro g7 _ rfl;exact yr I (zw 3 I I I k9 I<|Jc (i:=0) I) (yr I (zw 4 I I I k9 I<|Jc (i:=1) I)<|yq<|yI ⟨g6,g7,I⟩<|sB [0,1,2,3,4] I I)
    refine Zw I (EfB.alloc (zs:=[.bool false,.slice none 0 0]) k9 I) ?_ yo;rintro g7 _ rfl;exact yg I (zl (yp (by assumption) (by assumption)) I ⟨zb _,zb _,t9⟩ I) (yr I (zw 3 I I I k9 I<|Jc (i:=0) I)<|yr I (zw 4 I I I k9 I<|Jc (i:=1) I)<|yq<|yI ⟨g6,g7,I⟩<|sB [0,1,2,3,4] I I)
   refine Zw I (EfB.alloc (zs:=[.bool false,.slice none 0 0]) k9 I) ?_ yo;rintro g7 _ rfl;exact yg I (zl (yp (by assumption) (by assumption)) I ⟨zb _,zb _,t9⟩ I) (yg I (zl (yp (by assumption) (by assumption)) I ⟨zb _,zb _,t9⟩ I)<|yr I (zw 3 I I I k9 I<|Jc (i:=0) I)<|yr I (zw 4 I I I k9 I<|Jc (i:=1) I)<|yq<|yI ⟨g6,g7,I⟩<|sB [0,1,2,3,4] I I)
  refine Zw I (EfB.alloc (zs:=[.bool false,.slice none 0 0]) k9 I) ?_ yo;rintro g7 _ rfl;refine yV I (zl (yp (by assumption) (by assumption)) I ⟨zb _,zb _,t9⟩ I) ?_ ?_
  ·rintro _ rfl;refine yV I (zl (yp (by assumption) (by assumption)) I ⟨zb _,zb _,t9⟩ I) ?_ ?_
   ·rintro _ rfl;refine Zw I (EfB.alloc (zs:=[.bool false,.slice none 0 0]) k9 I) ?_ yo;rintro g6 _ rfl;exact yr I (zw 4 I I I k9 I<|Jc (i:=1) I) (yr I (zw 3 I I I k9 I<|Jc (i:=0) I)<|yq<|yI ⟨g6,g7,I⟩<|sB [0,1,2,4,3] I I)
   refine Zw I (EfB.alloc (zs:=[.bool false,.slice none 0 0]) k9 I) ?_ yo;rintro g6 _ rfl;exact yg I (zl (yp (by assumption) (by assumption)) I ⟨zb _,zb _,t9⟩ I) (yr I (zw 4 I I I k9 I<|Jc (i:=1) I)<|yr I (zw 3 I I I k9 I<|Jc (i:=0) I)<|yq<|yI ⟨g6,g7,I⟩<|sB [0,1,2,4,3] I I)
  refine Zw I (EfB.alloc (zs:=[.bool false,.slice none 0 0]) k9 I) ?_ yo;rintro g6 _ rfl;exact yg I (zl (yp (by assumption) (by assumption)) I ⟨zb _,zb _,t9⟩ I) (yg I (zl (yp (by assumption) (by assumption)) I ⟨zb _,zb _,t9⟩ I)<|yr I (zw 4 I I I k9 I<|Jc (i:=1) I)<|yr I (zw 3 I I I k9 I<|Jc (i:=0) I)<|yq<|yI ⟨g6,g7,I⟩<|sB [0,1,2,4,3] I I)
 ·rintro _ ⟨g6,g7,rfl⟩
  refine zg (zh<|z8 [g4] (rr [0,1,2,3,5,6,7,8]<|.n 4 (.n 9 (.n 10 (.n 11 (.r 12<|.r 13<|.e 14 (.r 15 .fin) .no) .no) .no) .no) .no) k9 k9 (fun d _ _ _ _ h=>by cases d <;> exact h)<|zk I I (zv 3 2 I I k9 I<|yw 2 I d9 zp)<|zk I I (zv 4 2 I I k9 I<|yw 2 I d9 zp)<|zk I I (zv 3 2 I I k9 I<|yw 2 I d9 zp)<|zk I I (zv 4 2 I I k9 I<|yw 2 I d9 zp)<|zk I I (zi (n:=2) I k9)<|zk I I (zv 0 2 I I k9 I<|yw 2 I d9 zp)<|zk I I (zi (n:=2) I k9)<|zk I I (zv 1 2 I I k9 I<|yw 2 I d9 zp)<|yg I (zl (con_sumR (zbl hG.hn hH.hd)<|zbl hH.hn hG.hd) I ⟨zb _,zb _,t9⟩ I)<|yg I (zl (yp (by assumption) (by assumption)) I ⟨zb _,zb _,t9⟩ I)<|yg I (Zy I I blsI4 I)<|yg I (zl (con_limQ (pre:=[a * e,c * b]) I s9<|hG.mul0 hH) I ⟨zb _,t9⟩ I)<|zk I I (zj I I)<|zk I I (zj I I)<|yr I (zw 2 I I I k9 I<|Jc (i:=0) I)<|yU I I<|yn ?_)
  refine zE (fn:=Tryz.f52) (fun _ _ h=>h) (Rs.two I (zV 2 I I k9)<|zo I)
