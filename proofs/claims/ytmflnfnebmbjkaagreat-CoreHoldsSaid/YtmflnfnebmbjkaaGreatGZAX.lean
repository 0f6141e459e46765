/- THE WALKS of ratio's calculate, Add, Sub, Mul, Quo. THE WALKS of the reference's Limited, Add, Mul, Quo of Ratios. -/
import Derived.Test.YtmflnfnebmbjkaaGreatGZAW
set_option maxHeartbeats 8000000
set_option maxRecDepth 100000
namespace Go.Proofs.YtmflnfnebmbjkaaGreat
open Go.RowKit
open Nm (W32)
namespace Sx
def apE (f e:Int):Int:=if f=0 then e else f
def apZ (f z:Int):Int:=if f=0 then z else 0
theorem qy {f e:Int} (h:f=0):apE f e=e:=Jh h
theorem Vd {f e:Int} (h:¬f=0):apE f e=f:=Jb h
theorem Kq {f e:Int} (h:f=0):apZ f e=e:=Jh h
theorem apZ_no {f e:Int} (h:¬f=0):apZ f e=0:=Jb h
theorem VK {f e:Int} (h:apE f e=0):f=0∧e=0:=by
 by_cases hf:f=0
 ·rw [qy hf] at h;exact ⟨hf,h⟩
 ·rw [Vd hf] at h;exact absurd h hf
theorem lim_lt (z:Int):(YG z).natAbs < zE:=by
 by_cases h:z.natAbs < zE
 ·rw [(yq h).1];exact h
 ·rw [(zaH h).1];exact Nat.lt_trans d9 zaB
theorem apZ_lt {f z:Int} (h:z.natAbs < zE):(apZ f z).natAbs < zE:=by
 unfold apZ
 split
 ·exact h
 ·exact Nat.lt_trans d9 zaB
theorem zaJ {z:Int} (h:ZX z=0):z.natAbs < zE:=Classical.byContradiction fun hn=>by rw [(zaH hn).2] at h;cases h
theorem zaI {z:Int} (h:ZX z≠0):ZX z=7∧¬z.natAbs < zE:=by
 by_cases hz:z.natAbs < zE
 ·exact absurd (yq hz).2 h
 ·exact ⟨(zaH hz).2,hz⟩
def KS (l:List Int):Bool:=l.all fun z=>decide (z.natAbs < zE)
def qN (l:List Int) (n d:Int):Int:=if KS l=true then rn n d else 0
def qD (l:List Int) (n d:Int):Int:=if KS l=true then rd n d else 0
def qE (l:List Int):Int:=if KS l=true then 0 else 7
theorem zaR {l:List Int} {z:Int} (hf:KS l=true) (h:z∈l):z.natAbs < zE:=by
 have:=List.all_eq_true.1 hf z h;simpa using this
theorem zaQ {n d:Int} (h:apE (apE 0<|ZX n) (ZX d)=0):KS [n,d]=true∧apZ 0 (YG n)=n∧apZ (apE 0<|ZX n) (YG d)=d:=by
 obtain ⟨h1,h2⟩:=VK h;have h3:=(VK h1).2;have f1:=zaJ h3;have f2:=zaJ h2;refine ⟨by simp [KS,f1,f2],by rw [Kq rfl,(yq f1).1],by rw [Kq h1,(yq f2).1]⟩
theorem full_two {n d:Int} (h:¬apE (apE 0<|ZX n) (ZX d)=0):KS [n,d]=false∧apE (apE 0<|ZX n) (ZX d)=7:=by
 by_cases h1:ZX n=0
 ·rw [qy (rfl:(0:Int)=0),qy h1] at *;have:=zaI h;exact ⟨by simp [KS,this.2],this.1⟩
 ·rw [qy (rfl:(0:Int)=0),Vd h1] at *;have:=zaI h1;exact ⟨by simp [KS,this.2],this.1⟩
section
variable {x y d:Int}{jn:Int→Int→Int}
abbrev f2 (x y:Int):Int:=apE (apE 0<|ZX x) (ZX y)
abbrev f3 (jn:Int→Int→Int) (x y:Int):Int:=apE (f2 x y) (ZX<|jn (apZ 0<|YG x)<|apZ (apE 0<|ZX x)<|YG y)
abbrev f4 (jn:Int→Int→Int) (x y d:Int):Int:=apE (f3 jn x y) (ZX d)
theorem fits_four (h:f4 jn x y d=0):KS [x,y,jn x y,d]=true∧apZ (f2 x y) (YG<|jn (apZ 0<|YG x)<|apZ (apE 0<|ZX x)<|YG y)=jn x y∧apZ (f3 jn x y) (YG d)=d:=by
 obtain ⟨h1,h2⟩:=VK h;obtain ⟨h3,h4⟩:=VK h1;obtain ⟨f1,e1,e2⟩:=zaQ h3;rw [e1,e2] at h4;have f4:=zaJ h4;have f5:=zaJ h2;refine ⟨?_,?_,by rw [Kq h1,(yq f5).1]⟩
 ·simp [KS] at f1 ⊢;exact ⟨f1.1,f1.2,f4,f5⟩
 ·rw [Kq h3,e1,e2,(yq f4).1]
theorem full_four (h:¬f4 jn x y d=0):KS [x,y,jn x y,d]=false∧f4 jn x y d=7:=by
 by_cases h1:f2 x y=0
 ·obtain ⟨f1,e1,e2⟩:=zaQ h1
  have e3:f3 jn x y=ZX (jn x y):=by unfold f3;rw [qy h1,e1,e2]
  have e4:f4 jn x y d=apE (ZX<|jn x y) (ZX d):=by unfold f4;rw [e3]
  rw [e4] at h ⊢
  by_cases h2:ZX (jn x y)=0
  ·rw [qy h2] at h ⊢;have:=zaI h;exact ⟨by simp [KS,this.2],this.1⟩
  ·rw [Vd h2] at h ⊢;have:=zaI h2;exact ⟨by simp [KS,this.2],this.1⟩
 ·obtain ⟨f1,e1⟩:=full_two h1
  have h2:f3 jn x y=7:=by unfold f3;rw [Vd h1];exact e1
  unfold f4;rw [Vd (by rw [h2];decide),h2];refine ⟨?_,I⟩;simp [KS] at f1 ⊢;intro hx hy;exact absurd (f1 hx) o9
theorem calc_four {F1 F2 F3 F4 Z1 Z2 Z3 Z4:Int} (hF1:apE 0 (ZX x)=F1) (hZ1:apZ 0 (YG x)=Z1) (hF2:apE F1 (ZX y)=F2) (hZ2:apZ F1 (YG y)=Z2) (hF3:apE F2 (ZX<|jn Z1 Z2)=F3) (hZ3:apZ F2 (YG<|jn Z1 Z2)=Z3) (hF4:apE F3 (ZX d)=F4) (hZ4:apZ F3 (YG d)=Z4):
  (F4=0→KS [x,y,jn x y,d]=true∧Z3=jn x y∧Z4=d)∧(¬F4=0→KS [x,y,jn x y,d]=false∧F4=7):=by
 subst hF1 hZ1 hF2 hZ2 hF3 hZ3 hF4 hZ4;exact ⟨fits_four,full_four⟩
end
theorem Good.mul0 {a b c e:Int} (h:Good a b) (k:Good c e):b * e≠0:=Int.mul_ne_zero h.d0 k.d0
theorem qY {g:Nat} {F:FuncId} {x y z e f E Z:Int} (hE:apE f e=E) (hZ:apZ f z=Z) (hop:f=0→Con Tryz.prog F [Zl x,Zl y] (Zz [Zl z,yU e])):ConB Tryz.prog 138 g ([yU f]) ([yU E]) [isD<|.func (.func F) #[] #[],Zl x,Zl y,pA g] (Zl Z):=by
 refine con_ofB Tryz.func138 k9 I k9 fun base w0=>(zt (SWl.e2 (S:=[]) (yi I I) fun g5=>(SWl.e2 (S:=[]) (yi I I) fun g6=>(SWl.e2 (S:=[]) (Ef.alloc (zs:=[.bool false,.slice none 0 0]) k9 I) fun g7=>(ze<|zh<|zt<|za I (zx 0 I I I k9 zm)<|za I (zT I I)<|ze<|zI I (fun hb10=> ?_) (fun hb10=> ?_))))))
 ·have hf:¬f=0:=by simpa using hb10
  refine zt (za I (yu I I bldI0)<|zo (S:=[_]) (zq 3 I I I k9 I<|m9 I)<|ze<|VN (fn:=Tryz.f138) (fun _ _ h=>h) (Rs.le (zU I<|zO 3 I I k9) ?_) I ?_)
  ·exact le_int0.trans (YS<|(apZ_no hf).symm.trans hZ)
  ·exact ⟨yP<|(Vd hf).symm.trans hE,t9⟩
 ·have hf:f=0:=by simpa using hb10
  refine zv (zg<|zt (SWl.e2 (S:=[]) (Ef.alloc (zs:=[.bool false,.slice none 0 0]) k9 I) fun g8=>(zP<|zc I<|za I (zp 1 2 I I k9 I zm)<|za I (zp 2 2 I I k9 I zm)<|zo (S:=[]) (Ef.callV (cap:=[]) (hop hf) I I ⟨zb _,zb _,t9⟩ I)<|zc I<|za I (zf I I)<|za I (zf I I)<|zo (S:=[_]) (zq 4 I I I k9 I<|m9 I)<|zo (S:=[_]) (yR 0 I I I k9 I<|m9 I)<|zP<|za I (zp 4 2 I I k9 I zm)<|zo (S:=[_]) (zq 3 I I I k9 I<|m9 I)<|ze<|VN (fn:=Tryz.f138) (fun _ _ h=>h) (Rs.le (zU I<|zO 3 I I k9) ?_) I ?_)))
  ·exact YS ((Kq hf).symm.trans hZ)
  ·exact ⟨yP<|(qy hf).symm.trans hE,t9⟩
abbrev mulF:Value:= .func (.func 135) #[] #[]
abbrev addF:Value:= .func (.func 136) #[] #[]
abbrev subF:Value:= .func (.func 137) #[] #[]
theorem bldU1 {a b:Nat}:Bld Tryz.prog 151 [0,1] [isD<|.func (.func a) #[] #[],isD<|.func (.func b) #[] #[]] [isD<|.func (.func a) #[] #[],isD<|.func (.func b) #[] #[]]:=fun L w vs h=>by
 obtain ⟨u,v,rfl,rfl,rfl⟩:=VU h;exact ⟨[_,_],⟨I,I,t9⟩,fun w'=>by kernel_rfl⟩
theorem bldU2 {a:Nat}:Bld Tryz.prog 151 [0,1] [isD<|.func (.func a) #[] #[],isD .nilFunc] [isD<|.func (.func a) #[] #[],isD .nilFunc]:=fun L w vs h=>by
 obtain ⟨u,v,rfl,rfl,rfl⟩:=VU h;exact ⟨[_,_],⟨I,I,t9⟩,fun w'=>by kernel_rfl⟩
theorem bldU3 {d e f g i j:D}:Bld Tryz.prog 152 [0,1,2] [Ys [d,e],Ys [f,g],Ys [i,j]] [d,e,f,g,i,j]:=fun L w vs h=>by
 obtain ⟨u,v,z,rfl,hu,hv,hz⟩:=all3 h;obtain ⟨a,b,rfl,h1,h2⟩:=agg2 hu;obtain ⟨a',b',rfl,h3,h4⟩:=agg2 hv;obtain ⟨a2,b2,rfl,h5,h6⟩:=agg2 hz;exact ⟨[a,b,a',b',a2,b2],⟨h1,h2,h3,h4,h5,h6,t9⟩,fun w'=>by kernel_rfl⟩
theorem Wu:Con Tryz.prog 110 [] (Ys [isD mulF,isD addF,isD mulF,isD subF,isD mulF,isD .nilFunc]):=by
 refine yb Tryz.func110 k9 I k9 fun base w0=>(zt (SWl.e2 (S:=[]) (Ef.alloc (zs:=[.nilFunc,.nilFunc,.nilFunc,.nilFunc,.nilFunc,.nilFunc]) k9 I) fun g0=>(zP<|za I (yu I I (by first | exact bldU1 | exact bldU2))<|za I (yu I I (by first | exact bldU1 | exact bldU2))<|za I (yu I I (by first | exact bldU1 | exact bldU2))<|za I (yu I I bldU3)<|zo (S:=[_]) (zq 0 I I I k9 I<|m9 I)<|ze ?_)))
 refine zK (fn:=Tryz.f110) (fun _ _ h=>h) (zU I<|zO 0 I I k9)
theorem WA {J:FuncId} {jn:Int→Int→Int} (hJ:∀ p q:Int,p.natAbs < zE→q.natAbs < zE→Con Tryz.prog J [Zl p,Zl q] (Zz [Zl<|YG<|jn p q,yU<|ZX<|jn p q])) {a b c e:Int} (ha:a.natAbs < zE) (hb:b.natAbs < zE) (hc:c.natAbs < zE) (he:e.natAbs < zE) (h0:b * e≠0):Con Tryz.prog 111 [Yk a b,Yk c e,isD mulF,isD<|.func (.func J) #[] #[]] (Zz [Yk (qN [a * e,c * b,jn (a * e)<|c * b,b * e] (jn (a * e)<|c * b)<|b * e)<|qD [a * e,c * b,jn (a * e)<|c * b,b * e] (jn (a * e)<|c * b)<|b * e,yU<|qE [a * e,c * b,jn (a * e)<|c * b,b * e]]):=by
 obtain ⟨F1,hF1⟩:∃ u,apE 0 (ZX<|a * e)=u:=⟨_,rfl⟩;obtain ⟨Z1,hZ1⟩:∃ u,apZ 0 (YG<|a * e)=u:=⟨_,rfl⟩;obtain ⟨F2,hF2⟩:∃ u,apE F1 (ZX<|c * b)=u:=⟨_,rfl⟩;obtain ⟨Z2,hZ2⟩:∃ u,apZ F1 (YG<|c * b)=u:=⟨_,rfl⟩;obtain ⟨F3,hF3⟩:∃ u,apE F2 (ZX<|jn Z1 Z2)=u:=⟨_,rfl⟩;obtain ⟨Z3,hZ3⟩:∃ u,apZ F2 (YG<|jn Z1 Z2)=u:=⟨_,rfl⟩;obtain ⟨F4,hF4⟩:∃ u,apE F3 (ZX<|b * e)=u:=⟨_,rfl⟩;obtain ⟨Z4,hZ4⟩:∃ u,apZ F3 (YG<|b * e)=u:=⟨_,rfl⟩;have hc4:=calc_four hF1 hZ1 hF2 hZ2 hF3 hZ3 hF4 hZ4
 have hz1:Z1.natAbs < zE:=by rw [← hZ1];exact apZ_lt (lim_lt _)
 have hz2:Z2.natAbs < zE:=by rw [← hZ2];exact apZ_lt (lim_lt _)
 refine yb Tryz.func111 k9 I k9 fun base w0=>(zt (SWl.e2 (S:=[]) (yi I I) fun g4=>(SWl.e2 (S:=[]) (yi I I) fun g5=>(SWl.e2 (S:=[]) (Ef.alloc (zs:=[.bool false,.slice none 0 0,.bool false,.slice none 0 0]) k9 I) fun g8=>(zi I<|zP (SWl.e2 (S:=[]) (Ef.alloc (zs:=[.int .i64 0]) k9 I) fun g10=>(zo (S:=[_]) (yR 3 I I I k9 I<|m9 I)<|zP<|za I (Yi [.pointer<|some ⟨g10,0,none⟩] I)<|zi I<|zP (SWl.e2 (S:=[]) (Ef.alloc (zs:=[.bool false,.slice none 0 0]) k9 I) fun g12=>(ze<|zh<|zt<|zc I<|za I (Zw I I (r:= .bool false) (fun w=>by kernel_rfl))<|ze<|zB I I<|zt<|zc I<|zc I<|za I (zj (n:=0) I k9)<|za I (zp 0 2 I I k9 I zm) ?_)))))))));refine za I (zj (n:=2) I k9) (za I (zp 1 2 I I k9 I zm)<|zo (S:=[_]) (jg (cap:=[.pointer<|some ⟨g10,0,none⟩]) 3 (qY hF1 hZ1 (fun _=>W9 ha he)) I I ⟨zb _,zb _,zb _,zb _,t9⟩ I (m9 I) I) (SWl.e2 (S:=[]) (Ef.alloc (zs:=[.bool false,.slice none 0 0]) k9 I) fun g13=>(zo (S:=[_]) (zq 5 I I I k9 I<|m9 I)<|ze<|zh<|SW.sub (σ':=St.of [(4,pA g4),(5,pA g5),(8,pA g8),(10,pA g10),(12,pA g12),(13,pA g13),(2,isD mulF),(11,isD<|.func (.func 138) #[] #[.pointer<|some ⟨g10,0,none⟩]),(3,isD<|.func (.func J) #[] #[])] [(g4,jh (a)<|b),(g5,jh (c)<|e),(g8,[isD<|.bool false,isD<|.slice none 0 0,isD<|.bool false,isD<|.slice none 0 0]),(g10,[yU F1]),(g12,[isD<|.bool false,isD<|.slice none 0 0]),(g13,qq Z1)]) (sB [0,1,2,3,4,5] I I)<|zd<|zc I<|zc I<|za I (zj (n:=0) I k9)<|za I (zp 1 2 I I k9 I zm)<|za I (zj (n:=2) I k9)<|za I (zp 0 2 I I k9 I zm)<|zo (S:=[_]) (jg (cap:=[.pointer<|some ⟨g10,0,none⟩]) 3 (qY hF2 hZ2 (fun _=>W9 hc hb)) I I ⟨zb _,zb _,zb _,zb _,t9⟩ I (m9 I) I) (SWl.e2 (S:=[]) (Ef.alloc (zs:=[.bool false,.slice none 0 0]) k9 I) fun g14=>(zo (S:=[_]) (zq 6 I I I k9 I<|m9 I)<|ze<|SW.sub (σ':=St.of [(4,pA g4),(5,pA g5),(8,pA g8),(10,pA g10),(12,pA g12),(13,pA g13),(14,pA g14),(2,isD mulF),(11,isD<|.func (.func 138) #[] #[.pointer<|some ⟨g10,0,none⟩]),(3,isD<|.func (.func J) #[] #[])] [(g4,jh (a)<|b),(g5,jh (c)<|e),(g8,[isD<|.bool false,isD<|.slice none 0 0,isD<|.bool false,isD<|.slice none 0 0]),(g10,[yU F2]),(g12,[isD<|.bool false,isD<|.slice none 0 0]),(g13,qq Z1),(g14,qq Z2)]) (sB [0,1,2,3,4,5,6] I I)<|zd<|zc I<|zc I<|za I (zp 5 2 I I k9 I zm)<|za I (zp 6 2 I I k9 I zm)<|zo (S:=[_]) (jg (cap:=[.pointer<|some ⟨g10,0,none⟩]) 3 (qY hF3 hZ3 (fun _=>hJ _ _ hz1 hz2)) I I ⟨zb _,zb _,zb _,zb _,t9⟩ I (m9 I) I)<|zo (S:=[_]) (zq 4 I I I k9 I<|m9 I)<|ze<|zh<|SW.sub (σ':=St.of [(4,pA g4),(5,pA g5),(8,pA g8),(10,pA g10),(12,pA g12),(2,isD mulF),(11,isD<|.func (.func 138) #[] #[.pointer<|some ⟨g10,0,none⟩])] [(g4,jh (a)<|b),(g5,jh (c)<|e),(g8,[isD<|.bool false,isD<|.slice none 0 0,isD<|.bool false,isD<|.slice none 0 0]),(g10,[yU F3]),(g12,qq Z3)]) (sB [0,1,2,3,4] I I)<|zd<|zc I<|zc I<|za I (zj (n:=2) I k9)<|za I (zp 0 2 I I k9 I zm)<|za I (zj (n:=2) I k9)<|za I (zp 1 2 I I k9 I zm) ?_)))))
 refine zo (S:=[_]) (jg (cap:=[.pointer<|some ⟨g10,0,none⟩]) 3 (qY hF4 hZ4 (fun _=>W9 hb he)) I I ⟨zb _,zb _,zb _,zb _,t9⟩ I (m9 I) I) (SWl.e2 (S:=[]) (Ef.alloc (zs:=[.bool false,.slice none 0 0]) k9 I) fun g15=>(zo (S:=[_]) (zq 5 I I I k9 I<|m9 I)<|ze<|zh<|zt<|za I (zx 3 I I I k9 zm)<|za I (zT I I)<|ze<|zI I (fun hb53=> ?_) (fun hb53=> ?_)))
 ·obtain ⟨h1,h2⟩:=hc4.2 (by simpa using hb53)
  refine zh (yg [g8] (.r 0<|.r 1<|.e 2 (.r 3 .fin) .no) k9 k9 (fun d _ _ _ _ h=>by cases d <;> exact h)<|zk I I (yu I I bldR0)<|zk I I (zx 3 I I I k9<|yy 2 I d9 zm)<|yQ I (zq 2 I I I k9 I<|Jc (i:=0) I)<|Zd I I<|yO<|zK (fn:=Tryz.f111) (fun _ _ h=>h)<|Rs.le (Rs.two I (zO 2 I I k9)<|zu I) ?_)
  exact yZ ⟨le_rat0.trans<|YR (by unfold qN;rw [h1];rfl) (by unfold qD;rw [h1];rfl),yP<|h2.trans (by unfold qE;rw [h1];rfl),t9⟩
 ·obtain ⟨h1,h2,h3⟩:=hc4.1 (by simpa using hb53);refine zv (zg<|zt<|za I (zp 4 2 I I k9 I zm)<|za I (zp 5 2 I I k9 I zm)<|zo (S:=[]) (zn (qf (zaR h1 s9) (zaR h1 s9) h0) I ⟨YS h2,YS h3,t9⟩ I)<|za I (zf I I)<|za I (zf I I)<|zo (S:=[_]) (zq 2 I I I k9 I<|m9 I)<|zi I<|ze<|zK (fn:=Tryz.f111) (fun _ _ h=>h)<|Rs.le (Rs.two I (zO 2 I I k9)<|zu I) ?_);exact yZ ⟨YR (by unfold qN;rw [Jh h1]) (by unfold qD;rw [Jh h1]),yP (by unfold qE;rw [Jh h1]),t9⟩
theorem con_addQ {a b c e:Int} (hG:Good a b) (hH:Good c e):Con Tryz.prog 87 [Yk a b,Yk c e] (Zz [Yk (qN [a * e,c * b,a * e + c * b,b * e] (a * e + c * b)<|b * e)<|qD [a * e,c * b,a * e + c * b,b * e] (a * e + c * b)<|b * e,yU<|qE [a * e,c * b,a * e + c * b,b * e]]):=by
 refine yb Tryz.func87 k9 I k9 fun base w0=>(zt (SWl.e2 (S:=[]) (yi I I) fun g2=>(SWl.e2 (S:=[]) (yi I I) fun g3=>(SWl.e2 (S:=[]) (Ef.alloc (zs:=[.bool false,.slice none 0 0,.bool false,.slice none 0 0]) k9 I) fun g4=>(zi I<|ze<|zh<|zt<|za I (zp 0 4 I I k9 I zm)<|zo (S:=[]) (zn (Zc (by assumption)) I ⟨zb _,t9⟩ I)<|za I (yG I)<|zc I<|zJ I (zp 1 4 I I k9 I zm)<|Zb (S:=[]) I I I I (zn (Zc (by assumption)) I ⟨zb _,t9⟩ I) ?_)))));rintro _ rfl;refine zJ I (yG I) (za I (zF I I I)<|ze<|zB I I<|zv<|zg<|zt<|zo (S:=[]) (zn (Wu) I t9 I)<|za I (WI (e:=151) (n:=3) 2 I I k9 k9 d9 d9) (SWl.e2 (S:=[]) (Ef.alloc (zs:=[.nilFunc,.nilFunc]) k9 I) fun g6=>(zo (S:=[_]) (zq 3 I I I k9 I<|m9 I)<|zP<|za I (zp 0 4 I I k9 I zm)<|za I (zp 1 4 I I k9 I zm)<|za I (zj (n:=0) I k9)<|za I (zx 3 I I I k9 zm)<|za I (zj (n:=1) I k9)<|za I (zx 3 I I I k9 zm)<|zo (S:=[]) (zn (WA (jn:=fun p q=>p + q) (fun p q hp hq=>con_add hp hq) hG.hn hG.hd hH.hn hH.hd<|hG.mul0 hH) I ⟨zb _,zb _,zb _,zb _,t9⟩ I)<|za I (zf I I)<|za I (zf I I)<|zo (S:=[_]) (zq 2 I I I k9 I<|m9 I)<|zi I<|ze ?_)))
 refine zK (fn:=Tryz.f87) (fun _ _ h=>h) (Rs.two I (zO 2 I I k9)<|zu I)
theorem con_subQ {a b c e:Int} (hG:Good a b) (hH:Good c e):Con Tryz.prog 67 [Yk a b,Yk c e] (Zz [Yk (qN [a * e,c * b,a * e - c * b,b * e] (a * e - c * b)<|b * e)<|qD [a * e,c * b,a * e - c * b,b * e] (a * e - c * b)<|b * e,yU<|qE [a * e,c * b,a * e - c * b,b * e]]):=by
 refine yb Tryz.func67 k9 I k9 fun base w0=>(zt (SWl.e2 (S:=[]) (yi I I) fun g2=>(SWl.e2 (S:=[]) (yi I I) fun g3=>(SWl.e2 (S:=[]) (Ef.alloc (zs:=[.bool false,.slice none 0 0,.bool false,.slice none 0 0]) k9 I) fun g4=>(zi I<|ze<|zh<|zt<|za I (zp 0 4 I I k9 I zm)<|zo (S:=[]) (zn (Zc (by assumption)) I ⟨zb _,t9⟩ I)<|za I (yG I)<|zc I<|zJ I (zp 1 4 I I k9 I zm)<|Zb (S:=[]) I I I I (zn (Zc (by assumption)) I ⟨zb _,t9⟩ I) ?_)))));rintro _ rfl;refine zJ I (yG I) (za I (zF I I I)<|ze<|zB I I<|zv<|zg<|zt<|zo (S:=[]) (zn (Wu) I t9 I)<|za I (WI (e:=151) (n:=3) 2 I I k9 k9 d9 d9) (SWl.e2 (S:=[]) (Ef.alloc (zs:=[.nilFunc,.nilFunc]) k9 I) fun g6=>(zo (S:=[_]) (zq 3 I I I k9 I<|m9 I)<|zP<|za I (zp 0 4 I I k9 I zm)<|za I (zp 1 4 I I k9 I zm)<|za I (zj (n:=0) I k9)<|za I (zx 3 I I I k9 zm)<|za I (zj (n:=1) I k9)<|za I (zx 3 I I I k9 zm)<|zo (S:=[]) (zn (WA (jn:=fun p q=>p - q) (fun p q hp hq=>con_sub hp hq) hG.hn hG.hd hH.hn hH.hd<|hG.mul0 hH) I ⟨zb _,zb _,zb _,zb _,t9⟩ I)<|za I (zf I I)<|za I (zf I I)<|zo (S:=[_]) (zq 2 I I I k9 I<|m9 I)<|zi I<|ze ?_)))
 refine zK (fn:=Tryz.f67) (fun _ _ h=>h) (Rs.two I (zO 2 I I k9)<|zu I)
end Sx
namespace Sx
