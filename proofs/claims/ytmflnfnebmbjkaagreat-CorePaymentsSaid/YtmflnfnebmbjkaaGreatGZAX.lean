/- THE WALKS of ratio's calculate, Add, Sub, Mul, Quo. THE WALKS of the reference's Limited, Add, Mul, Quo of Ratios. -/
import Derived.Test.YtmflnfnebmbjkaaGreatGZAW
set_option maxHeartbeats 8000000
set_option maxRecDepth 100000
namespace Go.Proofs.YtmflnfnebmbjkaaGreat
open Go.RowKit
open Nm (W32)
namespace Sx
def apE (f e:Int):Int:=if f=0 then e else f
def apZ (f z:Int):Int:=if f=0 then z else 0
theorem qC {f e:Int} (h:f=0):apE f e=e:=Jh h
theorem Vk {f e:Int} (h:¬f=0):apE f e=f:=Jb h
theorem KC {f e:Int} (h:f=0):apZ f e=e:=Jh h
theorem apZ_no {f e:Int} (h:¬f=0):apZ f e=0:=Jb h
theorem VR {f e:Int} (h:apE f e=0):f=0∧e=0:=by
 by_cases hf:f=0
 ·rw [qC hf] at h;exact ⟨hf,h⟩
 ·rw [Vk hf] at h;exact absurd h hf
theorem lim_lt (z:Int):(YM z).natAbs < zO:=by
 by_cases h:z.natAbs < zO
 ·rw [(yw h).1];exact h
 ·rw [(zaU h).1];exact Nat.lt_trans d9 zaO
theorem apZ_lt {f z:Int} (h:z.natAbs < zO):(apZ f z).natAbs < zO:=by
 unfold apZ
 split
 ·exact h
 ·exact Nat.lt_trans d9 zaO
theorem zaW {z:Int} (h:Z6 z=0):z.natAbs < zO:=Classical.byContradiction fun hn=>by rw [(zaU hn).2] at h;cases h
theorem zaV {z:Int} (h:Z6 z≠0):Z6 z=7∧¬z.natAbs < zO:=by
 by_cases hz:z.natAbs < zO
 ·exact absurd (yw hz).2 h
 ·exact ⟨(zaU hz).2,hz⟩
def K5 (l:List Int):Bool:=l.all fun z=>decide (z.natAbs < zO)
def qN (l:List Int) (n d:Int):Int:=if K5 l=true then rn n d else 0
def qD (l:List Int) (n d:Int):Int:=if K5 l=true then rd n d else 0
def qE (l:List Int):Int:=if K5 l=true then 0 else 7
theorem za4 {l:List Int} {z:Int} (hf:K5 l=true) (h:z∈l):z.natAbs < zO:=by
 have:=List.all_eq_true.1 hf z h;simpa using this
theorem za3 {n d:Int} (h:apE (apE 0<|Z6 n) (Z6 d)=0):K5 [n,d]=true∧apZ 0 (YM n)=n∧apZ (apE 0<|Z6 n) (YM d)=d:=by
 obtain ⟨h1,h2⟩:=VR h;have h3:=(VR h1).2;have f1:=zaW h3;have f2:=zaW h2;refine ⟨by simp [K5,f1,f2],by rw [KC rfl,(yw f1).1],by rw [KC h1,(yw f2).1]⟩
theorem full_two {n d:Int} (h:¬apE (apE 0<|Z6 n) (Z6 d)=0):K5 [n,d]=false∧apE (apE 0<|Z6 n) (Z6 d)=7:=by
 by_cases h1:Z6 n=0
 ·rw [qC (rfl:(0:Int)=0),qC h1] at *;have:=zaV h;exact ⟨by simp [K5,this.2],this.1⟩
 ·rw [qC (rfl:(0:Int)=0),Vk h1] at *;have:=zaV h1;exact ⟨by simp [K5,this.2],this.1⟩
section
variable {x y d:Int}{jn:Int→Int→Int}
abbrev f2 (x y:Int):Int:=apE (apE 0<|Z6 x) (Z6 y)
abbrev f3 (jn:Int→Int→Int) (x y:Int):Int:=apE (f2 x y) (Z6<|jn (apZ 0<|YM x)<|apZ (apE 0<|Z6 x)<|YM y)
abbrev f4 (jn:Int→Int→Int) (x y d:Int):Int:=apE (f3 jn x y) (Z6 d)
theorem fits_four (h:f4 jn x y d=0):K5 [x,y,jn x y,d]=true∧apZ (f2 x y) (YM<|jn (apZ 0<|YM x)<|apZ (apE 0<|Z6 x)<|YM y)=jn x y∧apZ (f3 jn x y) (YM d)=d:=by
 obtain ⟨h1,h2⟩:=VR h;obtain ⟨h3,h4⟩:=VR h1;obtain ⟨f1,e1,e2⟩:=za3 h3;rw [e1,e2] at h4;have f4:=zaW h4;have f5:=zaW h2;refine ⟨?_,?_,by rw [KC h1,(yw f5).1]⟩
 ·simp [K5] at f1 ⊢;exact ⟨f1.1,f1.2,f4,f5⟩
 ·rw [KC h3,e1,e2,(yw f4).1]
theorem full_four (h:¬f4 jn x y d=0):K5 [x,y,jn x y,d]=false∧f4 jn x y d=7:=by
 by_cases h1:f2 x y=0
 ·obtain ⟨f1,e1,e2⟩:=za3 h1
  have e3:f3 jn x y=Z6 (jn x y):=by unfold f3;rw [qC h1,e1,e2]
  have e4:f4 jn x y d=apE (Z6<|jn x y) (Z6 d):=by unfold f4;rw [e3]
  rw [e4] at h ⊢
  by_cases h2:Z6 (jn x y)=0
  ·rw [qC h2] at h ⊢;have:=zaV h;exact ⟨by simp [K5,this.2],this.1⟩
  ·rw [Vk h2] at h ⊢;have:=zaV h2;exact ⟨by simp [K5,this.2],this.1⟩
 ·obtain ⟨f1,e1⟩:=full_two h1
  have h2:f3 jn x y=7:=by unfold f3;rw [Vk h1];exact e1
  unfold f4;rw [Vk (by rw [h2];decide),h2];refine ⟨?_,I⟩;simp [K5] at f1 ⊢;intro hx hy;exact absurd (f1 hx) o9
theorem calc_four {F1 F2 F3 F4 Z1 Z2 Z3 Z4:Int} (hF1:apE 0 (Z6 x)=F1) (hZ1:apZ 0 (YM x)=Z1) (hF2:apE F1 (Z6 y)=F2) (hZ2:apZ F1 (YM y)=Z2) (hF3:apE F2 (Z6<|jn Z1 Z2)=F3) (hZ3:apZ F2 (YM<|jn Z1 Z2)=Z3) (hF4:apE F3 (Z6 d)=F4) (hZ4:apZ F3 (YM d)=Z4):
  (F4=0→K5 [x,y,jn x y,d]=true∧Z3=jn x y∧Z4=d)∧(¬F4=0→K5 [x,y,jn x y,d]=false∧F4=7):=by
 subst hF1 hZ1 hF2 hZ2 hF3 hZ3 hF4 hZ4;exact ⟨fits_four,full_four⟩
end
theorem Good.mul0 {a b c e:Int} (h:Good a b) (k:Good c e):b * e≠0:=Int.mul_ne_zero h.d0 k.d0
theorem q7 {g:Nat} {F:FuncId} {x y z e f E Z:Int} (hE:apE f e=E) (hZ:apZ f z=Z) (hop:f=0→Con Tryz.prog F [Zs x,Zs y] (Zq [Zs z,yZ e])):ConB Tryz.prog 138 g ([yZ f]) ([yZ E]) [isD<|.func (.func F) #[] #[],Zs x,Zs y,pA g] (Zs Z):=by
 refine con_ofB Tryz.func138 k9 I k9 fun base w0=>(zp (SWl.e2 (S:=[]) (yo I I) fun g5=>(SWl.e2 (S:=[]) (yo I I) fun g6=>(SWl.e2 (S:=[]) (Ef.alloc (zs:=[.bool false,.slice none 0 0]) k9 I) fun g7=>(ze<|zh<|zp<|za I (zB 0 I I I k9 zt)<|za I (yj I I)<|ze<|zD I (fun hb10=> ?_) (fun hb10=> ?_))))))
 ·have hf:¬f=0:=by simpa using hb10
  refine zp (za I (yz I I bldI0)<|zq (S:=[_]) (zy 3 I I I k9 I<|m9 I)<|ze<|VU (fn:=Tryz.f138) (fun _ _ h=>h) (Rs.le (zN I<|zZ 3 I I k9) ?_) I ?_)
  ·exact le_int0.trans (YY<|(apZ_no hf).symm.trans hZ)
  ·exact ⟨yU<|(Vk hf).symm.trans hE,t9⟩
 ·have hf:f=0:=by simpa using hb10
  refine zw (zg<|zp (SWl.e2 (S:=[]) (Ef.alloc (zs:=[.bool false,.slice none 0 0]) k9 I) fun g8=>(zS<|zc I<|za I (zx 1 2 I I k9 I zt)<|za I (zx 2 2 I I k9 I zt)<|zq (S:=[]) (Ef.callV (cap:=[]) (hop hf) I I ⟨zb _,zb _,t9⟩ I)<|zc I<|za I (zi I I)<|za I (zi I I)<|zq (S:=[_]) (zy 4 I I I k9 I<|m9 I)<|zq (S:=[_]) (yV 0 I I I k9 I<|m9 I)<|zS<|za I (zx 4 2 I I k9 I zt)<|zq (S:=[_]) (zy 3 I I I k9 I<|m9 I)<|ze<|VU (fn:=Tryz.f138) (fun _ _ h=>h) (Rs.le (zN I<|zZ 3 I I k9) ?_) I ?_)))
  ·exact YY ((KC hf).symm.trans hZ)
  ·exact ⟨yU<|(qC hf).symm.trans hE,t9⟩
abbrev mulF:Value:= .func (.func 135) #[] #[]
abbrev addF:Value:= .func (.func 136) #[] #[]
abbrev subF:Value:= .func (.func 137) #[] #[]
theorem bldU1 {a b:Nat}:Bld Tryz.prog 151 [0,1] [isD<|.func (.func a) #[] #[],isD<|.func (.func b) #[] #[]] [isD<|.func (.func a) #[] #[],isD<|.func (.func b) #[] #[]]:=fun L w vs h=>by
 obtain ⟨u,v,rfl,rfl,rfl⟩:=V2 h;exact ⟨[_,_],⟨I,I,t9⟩,fun w'=>by kernel_rfl⟩
theorem bldU2 {a:Nat}:Bld Tryz.prog 151 [0,1] [isD<|.func (.func a) #[] #[],isD .nilFunc] [isD<|.func (.func a) #[] #[],isD .nilFunc]:=fun L w vs h=>by
 obtain ⟨u,v,rfl,rfl,rfl⟩:=V2 h;exact ⟨[_,_],⟨I,I,t9⟩,fun w'=>by kernel_rfl⟩
theorem bldU3 {d e f g i j:D}:Bld Tryz.prog 152 [0,1,2] [Yq [d,e],Yq [f,g],Yq [i,j]] [d,e,f,g,i,j]:=fun L w vs h=>by
 obtain ⟨u,v,z,rfl,hu,hv,hz⟩:=all3 h;obtain ⟨a,b,rfl,h1,h2⟩:=agg2 hu;obtain ⟨a',b',rfl,h3,h4⟩:=agg2 hv;obtain ⟨a2,b2,rfl,h5,h6⟩:=agg2 hz;exact ⟨[a,b,a',b',a2,b2],⟨h1,h2,h3,h4,h5,h6,t9⟩,fun w'=>by kernel_rfl⟩
theorem WA:Con Tryz.prog 110 [] (Yq [isD mulF,isD addF,isD mulF,isD subF,isD mulF,isD .nilFunc]):=by
 refine z6 Tryz.func110 k9 I k9 fun base w0=>(zp (SWl.e2 (S:=[]) (Ef.alloc (zs:=[.nilFunc,.nilFunc,.nilFunc,.nilFunc,.nilFunc,.nilFunc]) k9 I) fun g0=>(zS<|za I (yz I I (by first | exact bldU1 | exact bldU2))<|za I (yz I I (by first | exact bldU1 | exact bldU2))<|za I (yz I I (by first | exact bldU1 | exact bldU2))<|za I (yz I I bldU3)<|zq (S:=[_]) (zy 0 I I I k9 I<|m9 I)<|ze ?_)))
 refine zG (fn:=Tryz.f110) (fun _ _ h=>h) (zN I<|zZ 0 I I k9)
theorem WG {J:FuncId} {jn:Int→Int→Int} (hJ:∀ p q:Int,p.natAbs < zO→q.natAbs < zO→Con Tryz.prog J [Zs p,Zs q] (Zq [Zs<|YM<|jn p q,yZ<|Z6<|jn p q])) {a b c e:Int} (ha:a.natAbs < zO) (hb:b.natAbs < zO) (hc:c.natAbs < zO) (he:e.natAbs < zO) (h0:b * e≠0):Con Tryz.prog 111 [Yo a b,Yo c e,isD mulF,isD<|.func (.func J) #[] #[]] (Zq [Yo (qN [a * e,c * b,jn (a * e)<|c * b,b * e] (jn (a * e)<|c * b)<|b * e)<|qD [a * e,c * b,jn (a * e)<|c * b,b * e] (jn (a * e)<|c * b)<|b * e,yZ<|qE [a * e,c * b,jn (a * e)<|c * b,b * e]]):=by
 obtain ⟨F1,hF1⟩:∃ u,apE 0 (Z6<|a * e)=u:=⟨_,rfl⟩;obtain ⟨Z1,hZ1⟩:∃ u,apZ 0 (YM<|a * e)=u:=⟨_,rfl⟩;obtain ⟨F2,hF2⟩:∃ u,apE F1 (Z6<|c * b)=u:=⟨_,rfl⟩;obtain ⟨Z2,hZ2⟩:∃ u,apZ F1 (YM<|c * b)=u:=⟨_,rfl⟩;obtain ⟨F3,hF3⟩:∃ u,apE F2 (Z6<|jn Z1 Z2)=u:=⟨_,rfl⟩;obtain ⟨Z3,hZ3⟩:∃ u,apZ F2 (YM<|jn Z1 Z2)=u:=⟨_,rfl⟩;obtain ⟨F4,hF4⟩:∃ u,apE F3 (Z6<|b * e)=u:=⟨_,rfl⟩;obtain ⟨Z4,hZ4⟩:∃ u,apZ F3 (YM<|b * e)=u:=⟨_,rfl⟩;have hc4:=calc_four hF1 hZ1 hF2 hZ2 hF3 hZ3 hF4 hZ4
 have hz1:Z1.natAbs < zO:=by rw [← hZ1];exact apZ_lt (lim_lt _)
 have hz2:Z2.natAbs < zO:=by rw [← hZ2];exact apZ_lt (lim_lt _)
 refine z6 Tryz.func111 k9 I k9 fun base w0=>(zp (SWl.e2 (S:=[]) (yo I I) fun g4=>(SWl.e2 (S:=[]) (yo I I) fun g5=>(SWl.e2 (S:=[]) (Ef.alloc (zs:=[.bool false,.slice none 0 0,.bool false,.slice none 0 0]) k9 I) fun g8=>(zd I<|zS (SWl.e2 (S:=[]) (Ef.alloc (zs:=[.int .i64 0]) k9 I) fun g10=>(zq (S:=[_]) (yV 3 I I I k9 I<|m9 I)<|zS<|za I (Ym [.pointer<|some ⟨g10,0,none⟩] I)<|zd I<|zS (SWl.e2 (S:=[]) (Ef.alloc (zs:=[.bool false,.slice none 0 0]) k9 I) fun g12=>(ze<|zh<|zp<|zc I<|za I (ZA I I (r:= .bool false) (fun w=>by kernel_rfl))<|ze<|zJ I I<|zp<|zc I<|zc I<|za I (zm (n:=0) I k9)<|za I (zx 0 2 I I k9 I zt) ?_)))))))));refine za I (zm (n:=2) I k9) (za I (zx 1 2 I I k9 I zt)<|zq (S:=[_]) (ji (cap:=[.pointer<|some ⟨g10,0,none⟩]) 3 (q7 hF1 hZ1 (fun _=>zal ha he)) I I ⟨zb _,zb _,zb _,zb _,t9⟩ I (m9 I) I) (SWl.e2 (S:=[]) (Ef.alloc (zs:=[.bool false,.slice none 0 0]) k9 I) fun g13=>(zq (S:=[_]) (zy 5 I I I k9 I<|m9 I)<|ze<|zh<|SW.sub (σ':=St.of [(4,pA g4),(5,pA g5),(8,pA g8),(10,pA g10),(12,pA g12),(13,pA g13),(2,isD mulF),(11,isD<|.func (.func 138) #[] #[.pointer<|some ⟨g10,0,none⟩]),(3,isD<|.func (.func J) #[] #[])] [(g4,jL (a)<|b),(g5,jL (c)<|e),(g8,[isD<|.bool false,isD<|.slice none 0 0,isD<|.bool false,isD<|.slice none 0 0]),(g10,[yZ F1]),(g12,[isD<|.bool false,isD<|.slice none 0 0]),(g13,qu Z1)]) (sB [0,1,2,3,4,5] I I)<|zf<|zc I<|zc I<|za I (zm (n:=0) I k9)<|za I (zx 1 2 I I k9 I zt)<|za I (zm (n:=2) I k9)<|za I (zx 0 2 I I k9 I zt)<|zq (S:=[_]) (ji (cap:=[.pointer<|some ⟨g10,0,none⟩]) 3 (q7 hF2 hZ2 (fun _=>zal hc hb)) I I ⟨zb _,zb _,zb _,zb _,t9⟩ I (m9 I) I) (SWl.e2 (S:=[]) (Ef.alloc (zs:=[.bool false,.slice none 0 0]) k9 I) fun g14=>(zq (S:=[_]) (zy 6 I I I k9 I<|m9 I)<|ze<|SW.sub (σ':=St.of [(4,pA g4),(5,pA g5),(8,pA g8),(10,pA g10),(12,pA g12),(13,pA g13),(14,pA g14),(2,isD mulF),(11,isD<|.func (.func 138) #[] #[.pointer<|some ⟨g10,0,none⟩]),(3,isD<|.func (.func J) #[] #[])] [(g4,jL (a)<|b),(g5,jL (c)<|e),(g8,[isD<|.bool false,isD<|.slice none 0 0,isD<|.bool false,isD<|.slice none 0 0]),(g10,[yZ F2]),(g12,[isD<|.bool false,isD<|.slice none 0 0]),(g13,qu Z1),(g14,qu Z2)]) (sB [0,1,2,3,4,5,6] I I)<|zf<|zc I<|zc I<|za I (zx 5 2 I I k9 I zt)<|za I (zx 6 2 I I k9 I zt)<|zq (S:=[_]) (ji (cap:=[.pointer<|some ⟨g10,0,none⟩]) 3 (q7 hF3 hZ3 (fun _=>hJ _ _ hz1 hz2)) I I ⟨zb _,zb _,zb _,zb _,t9⟩ I (m9 I) I)<|zq (S:=[_]) (zy 4 I I I k9 I<|m9 I)<|ze<|zh<|SW.sub (σ':=St.of [(4,pA g4),(5,pA g5),(8,pA g8),(10,pA g10),(12,pA g12),(2,isD mulF),(11,isD<|.func (.func 138) #[] #[.pointer<|some ⟨g10,0,none⟩])] [(g4,jL (a)<|b),(g5,jL (c)<|e),(g8,[isD<|.bool false,isD<|.slice none 0 0,isD<|.bool false,isD<|.slice none 0 0]),(g10,[yZ F3]),(g12,qu Z3)]) (sB [0,1,2,3,4] I I)<|zf<|zc I<|zc I<|za I (zm (n:=2) I k9)<|za I (zx 0 2 I I k9 I zt)<|za I (zm (n:=2) I k9)<|za I (zx 1 2 I I k9 I zt) ?_)))))
 refine zq (S:=[_]) (ji (cap:=[.pointer<|some ⟨g10,0,none⟩]) 3 (q7 hF4 hZ4 (fun _=>zal hb he)) I I ⟨zb _,zb _,zb _,zb _,t9⟩ I (m9 I) I) (SWl.e2 (S:=[]) (Ef.alloc (zs:=[.bool false,.slice none 0 0]) k9 I) fun g15=>(zq (S:=[_]) (zy 5 I I I k9 I<|m9 I)<|ze<|zh<|zp<|za I (zB 3 I I I k9 zt)<|za I (yj I I)<|ze<|zD I (fun hb53=> ?_) (fun hb53=> ?_)))
 ·obtain ⟨h1,h2⟩:=hc4.2 (by simpa using hb53)
  refine zh (yf [g8] (.r 0<|.r 1<|.e 2 (.r 3 .fin) .no) k9 k9 (fun d _ _ _ _ h=>by cases d <;> exact h)<|zj I I (yz I I bldR0)<|zj I I (zB 3 I I I k9<|yE 2 I d9 zt)<|y3 I (zy 2 I I I k9 I<|Jc (i:=0) I)<|yR I I<|yu<|zG (fn:=Tryz.f111) (fun _ _ h=>h)<|Rs.le (Rs.two I (zZ 2 I I k9)<|zo I) ?_)
  exact yX ⟨le_rat0.trans<|YX (by unfold qN;rw [h1];rfl) (by unfold qD;rw [h1];rfl),yU<|h2.trans (by unfold qE;rw [h1];rfl),t9⟩
 ·obtain ⟨h1,h2,h3⟩:=hc4.1 (by simpa using hb53);refine zw (zg<|zp<|za I (zx 4 2 I I k9 I zt)<|za I (zx 5 2 I I k9 I zt)<|zq (S:=[]) (zn (qk (za4 h1 s9) (za4 h1 s9) h0) I ⟨YY h2,YY h3,t9⟩ I)<|za I (zi I I)<|za I (zi I I)<|zq (S:=[_]) (zy 2 I I I k9 I<|m9 I)<|zd I<|ze<|zG (fn:=Tryz.f111) (fun _ _ h=>h)<|Rs.le (Rs.two I (zZ 2 I I k9)<|zo I) ?_);exact yX ⟨YX (by unfold qN;rw [Jh h1]) (by unfold qD;rw [Jh h1]),yU (by unfold qE;rw [Jh h1]),t9⟩
theorem con_addQ {a b c e:Int} (hG:Good a b) (hH:Good c e):Con Tryz.prog 87 [Yo a b,Yo c e] (Zq [Yo (qN [a * e,c * b,a * e + c * b,b * e] (a * e + c * b)<|b * e)<|qD [a * e,c * b,a * e + c * b,b * e] (a * e + c * b)<|b * e,yZ<|qE [a * e,c * b,a * e + c * b,b * e]]):=by
 refine z6 Tryz.func87 k9 I k9 fun base w0=>(zp (SWl.e2 (S:=[]) (yo I I) fun g2=>(SWl.e2 (S:=[]) (yo I I) fun g3=>(SWl.e2 (S:=[]) (Ef.alloc (zs:=[.bool false,.slice none 0 0,.bool false,.slice none 0 0]) k9 I) fun g4=>(zd I<|ze<|zh<|zp<|za I (zx 0 4 I I k9 I zt)<|zq (S:=[]) (zn (Zj (by assumption)) I ⟨zb _,t9⟩ I)<|za I (yF I)<|zc I<|zU I (zx 1 4 I I k9 I zt)<|Zt (S:=[]) I I I I (zn (Zj (by assumption)) I ⟨zb _,t9⟩ I) ?_)))));rintro _ rfl;refine zU I (yF I) (za I (zM I I I)<|ze<|zJ I I<|zw<|zg<|zp<|zq (S:=[]) (zn (WA) I t9 I)<|za I (WP (e:=151) (n:=3) 2 I I k9 k9 d9 d9) (SWl.e2 (S:=[]) (Ef.alloc (zs:=[.nilFunc,.nilFunc]) k9 I) fun g6=>(zq (S:=[_]) (zy 3 I I I k9 I<|m9 I)<|zS<|za I (zx 0 4 I I k9 I zt)<|za I (zx 1 4 I I k9 I zt)<|za I (zm (n:=0) I k9)<|za I (zB 3 I I I k9 zt)<|za I (zm (n:=1) I k9)<|za I (zB 3 I I I k9 zt)<|zq (S:=[]) (zn (WG (jn:=fun p q=>p + q) (fun p q hp hq=>con_add hp hq) hG.hn hG.hd hH.hn hH.hd<|hG.mul0 hH) I ⟨zb _,zb _,zb _,zb _,t9⟩ I)<|za I (zi I I)<|za I (zi I I)<|zq (S:=[_]) (zy 2 I I I k9 I<|m9 I)<|zd I<|ze ?_)))
 refine zG (fn:=Tryz.f87) (fun _ _ h=>h) (Rs.two I (zZ 2 I I k9)<|zo I)
theorem con_subQ {a b c e:Int} (hG:Good a b) (hH:Good c e):Con Tryz.prog 67 [Yo a b,Yo c e] (Zq [Yo (qN [a * e,c * b,a * e - c * b,b * e] (a * e - c * b)<|b * e)<|qD [a * e,c * b,a * e - c * b,b * e] (a * e - c * b)<|b * e,yZ<|qE [a * e,c * b,a * e - c * b,b * e]]):=by
 refine z6 Tryz.func67 k9 I k9 fun base w0=>(zp (SWl.e2 (S:=[]) (yo I I) fun g2=>(SWl.e2 (S:=[]) (yo I I) fun g3=>(SWl.e2 (S:=[]) (Ef.alloc (zs:=[.bool false,.slice none 0 0,.bool false,.slice none 0 0]) k9 I) fun g4=>(zd I<|ze<|zh<|zp<|za I (zx 0 4 I I k9 I zt)<|zq (S:=[]) (zn (Zj (by assumption)) I ⟨zb _,t9⟩ I)<|za I (yF I)<|zc I<|zU I (zx 1 4 I I k9 I zt)<|Zt (S:=[]) I I I I (zn (Zj (by assumption)) I ⟨zb _,t9⟩ I) ?_)))));rintro _ rfl;refine zU I (yF I) (za I (zM I I I)<|ze<|zJ I I<|zw<|zg<|zp<|zq (S:=[]) (zn (WA) I t9 I)<|za I (WP (e:=151) (n:=3) 2 I I k9 k9 d9 d9) (SWl.e2 (S:=[]) (Ef.alloc (zs:=[.nilFunc,.nilFunc]) k9 I) fun g6=>(zq (S:=[_]) (zy 3 I I I k9 I<|m9 I)<|zS<|za I (zx 0 4 I I k9 I zt)<|za I (zx 1 4 I I k9 I zt)<|za I (zm (n:=0) I k9)<|za I (zB 3 I I I k9 zt)<|za I (zm (n:=1) I k9)<|za I (zB 3 I I I k9 zt)<|zq (S:=[]) (zn (WG (jn:=fun p q=>p - q) (fun p q hp hq=>con_sub hp hq) hG.hn hG.hd hH.hn hH.hd<|hG.mul0 hH) I ⟨zb _,zb _,zb _,zb _,t9⟩ I)<|za I (zi I I)<|za I (zi I I)<|zq (S:=[_]) (zy 2 I I I k9 I<|m9 I)<|zd I<|ze ?_)))
 refine zG (fn:=Tryz.f67) (fun _ _ h=>h) (Rs.two I (zZ 2 I I k9)<|zo I)
end Sx
namespace Sx
