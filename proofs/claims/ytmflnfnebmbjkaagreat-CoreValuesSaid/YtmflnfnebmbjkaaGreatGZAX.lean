/- THE WALKS of ratio's calculate, Add, Sub, Mul, Quo. THE WALKS of the reference's Limited, Add, Mul, Quo of Ratios. -/
import Derived.Test.YtmflnfnebmbjkaaGreatGZAW
set_option maxHeartbeats 8000000
set_option maxRecDepth 100000
namespace Go.Proofs.YtmflnfnebmbjkaaGreat
open Go.RowKit
open Nm (W32)
namespace Sx
def apE (f e:Int):Int:=if f=0 then e else f
def apZ (f z:Int):Int:=if f=0 then z else 0
theorem qo {f e:Int} (h:f=0):apE f e=e:=Jh h
theorem K7 {f e:Int} (h:¬f=0):apE f e=f:=Jb h
theorem Kq {f e:Int} (h:f=0):apZ f e=e:=Jh h
theorem apZ_no {f e:Int} (h:¬f=0):apZ f e=0:=Jb h
theorem VA {f e:Int} (h:apE f e=0):f=0∧e=0:=by
 by_cases hf:f=0
 ·rw [qo hf] at h;exact ⟨hf,h⟩
 ·rw [K7 hf] at h;exact absurd h hf
theorem lim_lt (z:Int):(Yz z).natAbs < zJ:=by
 by_cases h:z.natAbs < zJ
 ·rw [(yu h).1];exact h
 ·rw [(zax h).1];exact Nat.lt_trans d9 zas
theorem apZ_lt {f z:Int} (h:z.natAbs < zJ):(apZ f z).natAbs < zJ:=by
 unfold apZ
 split
 ·exact h
 ·exact Nat.lt_trans d9 zas
theorem zaz {z:Int} (h:ZR z=0):z.natAbs < zJ:=Classical.byContradiction fun hn=>by rw [(zax hn).2] at h;cases h
theorem zay {z:Int} (h:ZR z≠0):ZR z=7∧¬z.natAbs < zJ:=by
 by_cases hz:z.natAbs < zJ
 ·exact absurd (yu hz).2 h
 ·exact ⟨(zax hz).2,hz⟩
def KP (l:List Int):Bool:=l.all fun z=>decide (z.natAbs < zJ)
def qN (l:List Int) (n d:Int):Int:=if KP l=true then rn n d else 0
def qD (l:List Int) (n d:Int):Int:=if KP l=true then rd n d else 0
def qE (l:List Int):Int:=if KP l=true then 0 else 7
theorem zaH {l:List Int} {z:Int} (hf:KP l=true) (h:z∈l):z.natAbs < zJ:=by
 have:=List.all_eq_true.1 hf z h;simpa using this
theorem zaG {n d:Int} (h:apE (apE 0<|ZR n) (ZR d)=0):KP [n,d]=true∧apZ 0 (Yz n)=n∧apZ (apE 0<|ZR n) (Yz d)=d:=by
 obtain ⟨h1,h2⟩:=VA h;have h3:=(VA h1).2;have f1:=zaz h3;have f2:=zaz h2;refine ⟨by simp [KP,f1,f2],by rw [Kq rfl,(yu f1).1],by rw [Kq h1,(yu f2).1]⟩
theorem full_two {n d:Int} (h:¬apE (apE 0<|ZR n) (ZR d)=0):KP [n,d]=false∧apE (apE 0<|ZR n) (ZR d)=7:=by
 by_cases h1:ZR n=0
 ·rw [qo (rfl:(0:Int)=0),qo h1] at *;have:=zay h;exact ⟨by simp [KP,this.2],this.1⟩
 ·rw [qo (rfl:(0:Int)=0),K7 h1] at *;have:=zay h1;exact ⟨by simp [KP,this.2],this.1⟩
section
variable {x y d:Int}{jn:Int→Int→Int}
abbrev f2 (x y:Int):Int:=apE (apE 0<|ZR x) (ZR y)
abbrev f3 (jn:Int→Int→Int) (x y:Int):Int:=apE (f2 x y) (ZR<|jn (apZ 0<|Yz x)<|apZ (apE 0<|ZR x)<|Yz y)
abbrev f4 (jn:Int→Int→Int) (x y d:Int):Int:=apE (f3 jn x y) (ZR d)
theorem fits_four (h:f4 jn x y d=0):KP [x,y,jn x y,d]=true∧apZ (f2 x y) (Yz<|jn (apZ 0<|Yz x)<|apZ (apE 0<|ZR x)<|Yz y)=jn x y∧apZ (f3 jn x y) (Yz d)=d:=by
 obtain ⟨h1,h2⟩:=VA h;obtain ⟨h3,h4⟩:=VA h1;obtain ⟨f1,e1,e2⟩:=zaG h3;rw [e1,e2] at h4;have f4:=zaz h4;have f5:=zaz h2;refine ⟨?_,?_,by rw [Kq h1,(yu f5).1]⟩
 ·simp [KP] at f1 ⊢;exact ⟨f1.1,f1.2,f4,f5⟩
 ·rw [Kq h3,e1,e2,(yu f4).1]
theorem full_four (h:¬f4 jn x y d=0):KP [x,y,jn x y,d]=false∧f4 jn x y d=7:=by
 by_cases h1:f2 x y=0
 ·obtain ⟨f1,e1,e2⟩:=zaG h1
  have e3:f3 jn x y=ZR (jn x y):=by unfold f3;rw [qo h1,e1,e2]
  have e4:f4 jn x y d=apE (ZR<|jn x y) (ZR d):=by unfold f4;rw [e3]
  rw [e4] at h ⊢
  by_cases h2:ZR (jn x y)=0
  ·rw [qo h2] at h ⊢;have:=zay h;exact ⟨by simp [KP,this.2],this.1⟩
  ·rw [K7 h2] at h ⊢;have:=zay h2;exact ⟨by simp [KP,this.2],this.1⟩
 ·obtain ⟨f1,e1⟩:=full_two h1
  have h2:f3 jn x y=7:=by unfold f3;rw [K7 h1];exact e1
  unfold f4;rw [K7 (by rw [h2];decide),h2];refine ⟨?_,I⟩;simp [KP] at f1 ⊢;intro hx hy;exact absurd (f1 hx) o9
theorem calc_four {F1 F2 F3 F4 Z1 Z2 Z3 Z4:Int} (hF1:apE 0 (ZR x)=F1) (hZ1:apZ 0 (Yz x)=Z1) (hF2:apE F1 (ZR y)=F2) (hZ2:apZ F1 (Yz y)=Z2) (hF3:apE F2 (ZR<|jn Z1 Z2)=F3) (hZ3:apZ F2 (Yz<|jn Z1 Z2)=Z3) (hF4:apE F3 (ZR d)=F4) (hZ4:apZ F3 (Yz d)=Z4):
  (F4=0→KP [x,y,jn x y,d]=true∧Z3=jn x y∧Z4=d)∧(¬F4=0→KP [x,y,jn x y,d]=false∧F4=7):=by
 subst hF1 hZ1 hF2 hZ2 hF3 hZ3 hF4 hZ4;exact ⟨fits_four,full_four⟩
end
theorem Good.mul0 {a b c e:Int} (h:Good a b) (k:Good c e):b * e≠0:=Int.mul_ne_zero h.d0 k.d0
theorem qM {g:Nat} {F:FuncId} {x y z e f E Z:Int} (hE:apE f e=E) (hZ:apZ f z=Z) (hop:f=0→Con Tryz.prog F [Zj x,Zj y] (Zu [Zj z,yU e])):ConB Tryz.prog 138 g ([yU f]) ([yU E]) [isD<|.func (.func F) #[] #[],Zj x,Zj y,pA g] (Zj Z):=by
 refine con_ofB Tryz.func138 k9 I k9 fun base w0=>(zo (SWl.e2 (S:=[]) (yj I I) fun g5=>(SWl.e2 (S:=[]) (yj I I) fun g6=>(SWl.e2 (S:=[]) (Ef.alloc (zs:=[.bool false,.slice none 0 0]) k9 I) fun g7=>(zd<|zi<|zo<|za I (zy 0 I I I k9 zm)<|za I (yn I I)<|zd<|zD I (fun hb10=> ?_) (fun hb10=> ?_))))))
 ·have hf:¬f=0:=by simpa using hb10
  refine zo (za I (yy I I bldI0)<|zn (S:=[_]) (zw 3 I I I k9 I<|m9 I)<|zd<|VE (fn:=Tryz.f138) (fun _ _ h=>h) (Rs.le (zO I<|zT 3 I I k9) ?_) I ?_)
  ·exact le_int0.trans (YM<|(apZ_no hf).symm.trans hZ)
  ·exact ⟨yM<|(K7 hf).symm.trans hE,t9⟩
 ·have hf:f=0:=by simpa using hb10
  refine zv (zh<|zo (SWl.e2 (S:=[]) (Ef.alloc (zs:=[.bool false,.slice none 0 0]) k9 I) fun g8=>(zL<|zb I<|za I (zu 1 2 I I k9 I zm)<|za I (zu 2 2 I I k9 I zm)<|zn (S:=[]) (Ef.callV (cap:=[]) (hop hf) I I ⟨zc _,zc _,t9⟩ I)<|zb I<|za I (zg I I)<|za I (zg I I)<|zn (S:=[_]) (zw 4 I I I k9 I<|m9 I)<|zn (S:=[_]) (yN 0 I I I k9 I<|m9 I)<|zL<|za I (zu 4 2 I I k9 I zm)<|zn (S:=[_]) (zw 3 I I I k9 I<|m9 I)<|zd<|VE (fn:=Tryz.f138) (fun _ _ h=>h) (Rs.le (zO I<|zT 3 I I k9) ?_) I ?_)))
  ·exact YM ((Kq hf).symm.trans hZ)
  ·exact ⟨yM<|(qo hf).symm.trans hE,t9⟩
abbrev mulF:Value:= .func (.func 135) #[] #[]
abbrev addF:Value:= .func (.func 136) #[] #[]
abbrev subF:Value:= .func (.func 137) #[] #[]
theorem bldU1 {a b:Nat}:Bld Tryz.prog 151 [0,1] [isD<|.func (.func a) #[] #[],isD<|.func (.func b) #[] #[]] [isD<|.func (.func a) #[] #[],isD<|.func (.func b) #[] #[]]:=fun L w vs h=>by
 obtain ⟨u,v,rfl,rfl,rfl⟩:=VL h;exact ⟨[_,_],⟨I,I,t9⟩,fun w'=>by kernel_rfl⟩
theorem bldU2 {a:Nat}:Bld Tryz.prog 151 [0,1] [isD<|.func (.func a) #[] #[],isD .nilFunc] [isD<|.func (.func a) #[] #[],isD .nilFunc]:=fun L w vs h=>by
 obtain ⟨u,v,rfl,rfl,rfl⟩:=VL h;exact ⟨[_,_],⟨I,I,t9⟩,fun w'=>by kernel_rfl⟩
theorem bldU3 {d e f g i j:D}:Bld Tryz.prog 152 [0,1,2] [Yq [d,e],Yq [f,g],Yq [i,j]] [d,e,f,g,i,j]:=fun L w vs h=>by
 obtain ⟨u,v,z,rfl,hu,hv,hz⟩:=all3 h;obtain ⟨a,b,rfl,h1,h2⟩:=agg2 hu;obtain ⟨a',b',rfl,h3,h4⟩:=agg2 hv;obtain ⟨a2,b2,rfl,h5,h6⟩:=agg2 hz;exact ⟨[a,b,a',b',a2,b2],⟨h1,h2,h3,h4,h5,h6,t9⟩,fun w'=>by kernel_rfl⟩
theorem Wj:Con Tryz.prog 110 [] (Yq [isD mulF,isD addF,isD mulF,isD subF,isD mulF,isD .nilFunc]):=by
 refine z6 Tryz.func110 k9 I k9 fun base w0=>(zo (SWl.e2 (S:=[]) (Ef.alloc (zs:=[.nilFunc,.nilFunc,.nilFunc,.nilFunc,.nilFunc,.nilFunc]) k9 I) fun g0=>(zL<|za I (yy I I (by first | exact bldU1 | exact bldU2))<|za I (yy I I (by first | exact bldU1 | exact bldU2))<|za I (yy I I (by first | exact bldU1 | exact bldU2))<|za I (yy I I bldU3)<|zn (S:=[_]) (zw 0 I I I k9 I<|m9 I)<|zd ?_)))
 refine zF (fn:=Tryz.f110) (fun _ _ h=>h) (zO I<|zT 0 I I k9)
theorem Wr {J:FuncId} {jn:Int→Int→Int} (hJ:∀ p q:Int,p.natAbs < zJ→q.natAbs < zJ→Con Tryz.prog J [Zj p,Zj q] (Zu [Zj<|Yz<|jn p q,yU<|ZR<|jn p q])) {a b c e:Int} (ha:a.natAbs < zJ) (hb:b.natAbs < zJ) (hc:c.natAbs < zJ) (he:e.natAbs < zJ) (h0:b * e≠0):Con Tryz.prog 111 [Ya a b,Ya c e,isD mulF,isD<|.func (.func J) #[] #[]] (Zu [Ya (qN [a * e,c * b,jn (a * e)<|c * b,b * e] (jn (a * e)<|c * b)<|b * e)<|qD [a * e,c * b,jn (a * e)<|c * b,b * e] (jn (a * e)<|c * b)<|b * e,yU<|qE [a * e,c * b,jn (a * e)<|c * b,b * e]]):=by
 obtain ⟨F1,hF1⟩:∃ u,apE 0 (ZR<|a * e)=u:=⟨_,rfl⟩;obtain ⟨Z1,hZ1⟩:∃ u,apZ 0 (Yz<|a * e)=u:=⟨_,rfl⟩;obtain ⟨F2,hF2⟩:∃ u,apE F1 (ZR<|c * b)=u:=⟨_,rfl⟩;obtain ⟨Z2,hZ2⟩:∃ u,apZ F1 (Yz<|c * b)=u:=⟨_,rfl⟩;obtain ⟨F3,hF3⟩:∃ u,apE F2 (ZR<|jn Z1 Z2)=u:=⟨_,rfl⟩;obtain ⟨Z3,hZ3⟩:∃ u,apZ F2 (Yz<|jn Z1 Z2)=u:=⟨_,rfl⟩;obtain ⟨F4,hF4⟩:∃ u,apE F3 (ZR<|b * e)=u:=⟨_,rfl⟩;obtain ⟨Z4,hZ4⟩:∃ u,apZ F3 (Yz<|b * e)=u:=⟨_,rfl⟩;have hc4:=calc_four hF1 hZ1 hF2 hZ2 hF3 hZ3 hF4 hZ4
 have hz1:Z1.natAbs < zJ:=by rw [← hZ1];exact apZ_lt (lim_lt _)
 have hz2:Z2.natAbs < zJ:=by rw [← hZ2];exact apZ_lt (lim_lt _)
 refine z6 Tryz.func111 k9 I k9 fun base w0=>(zo (SWl.e2 (S:=[]) (yj I I) fun g4=>(SWl.e2 (S:=[]) (yj I I) fun g5=>(SWl.e2 (S:=[]) (Ef.alloc (zs:=[.bool false,.slice none 0 0,.bool false,.slice none 0 0]) k9 I) fun g8=>(ze I<|zL (SWl.e2 (S:=[]) (Ef.alloc (zs:=[.int .i64 0]) k9 I) fun g10=>(zn (S:=[_]) (yN 3 I I I k9 I<|m9 I)<|zL<|za I (Z8 [.pointer<|some ⟨g10,0,none⟩] I)<|ze I<|zL (SWl.e2 (S:=[]) (Ef.alloc (zs:=[.bool false,.slice none 0 0]) k9 I) fun g12=>(zd<|zi<|zo<|zb I<|za I (Zt I I (r:= .bool false) (fun w=>by kernel_rfl))<|zd<|zH I I<|zo<|zb I<|zb I<|za I (zj (n:=0) I k9)<|za I (zu 0 2 I I k9 I zm) ?_)))))))));refine za I (zj (n:=2) I k9) (za I (zu 1 2 I I k9 I zm)<|zn (S:=[_]) (qZ (cap:=[.pointer<|some ⟨g10,0,none⟩]) 3 (qM hF1 hZ1 (fun _=>WZ ha he)) I I ⟨zc _,zc _,zc _,zc _,t9⟩ I (m9 I) I) (SWl.e2 (S:=[]) (Ef.alloc (zs:=[.bool false,.slice none 0 0]) k9 I) fun g13=>(zn (S:=[_]) (zw 5 I I I k9 I<|m9 I)<|zd<|zi<|SW.sub (σ':=St.of [(4,pA g4),(5,pA g5),(8,pA g8),(10,pA g10),(12,pA g12),(13,pA g13),(2,isD mulF),(11,isD<|.func (.func 138) #[] #[.pointer<|some ⟨g10,0,none⟩]),(3,isD<|.func (.func J) #[] #[])] [(g4,jz (a)<|b),(g5,jz (c)<|e),(g8,[isD<|.bool false,isD<|.slice none 0 0,isD<|.bool false,isD<|.slice none 0 0]),(g10,[yU F1]),(g12,[isD<|.bool false,isD<|.slice none 0 0]),(g13,qf Z1)]) (sB [0,1,2,3,4,5] I I)<|zk<|zb I<|zb I<|za I (zj (n:=0) I k9)<|za I (zu 1 2 I I k9 I zm)<|za I (zj (n:=2) I k9)<|za I (zu 0 2 I I k9 I zm)<|zn (S:=[_]) (qZ (cap:=[.pointer<|some ⟨g10,0,none⟩]) 3 (qM hF2 hZ2 (fun _=>WZ hc hb)) I I ⟨zc _,zc _,zc _,zc _,t9⟩ I (m9 I) I) (SWl.e2 (S:=[]) (Ef.alloc (zs:=[.bool false,.slice none 0 0]) k9 I) fun g14=>(zn (S:=[_]) (zw 6 I I I k9 I<|m9 I)<|zd<|SW.sub (σ':=St.of [(4,pA g4),(5,pA g5),(8,pA g8),(10,pA g10),(12,pA g12),(13,pA g13),(14,pA g14),(2,isD mulF),(11,isD<|.func (.func 138) #[] #[.pointer<|some ⟨g10,0,none⟩]),(3,isD<|.func (.func J) #[] #[])] [(g4,jz (a)<|b),(g5,jz (c)<|e),(g8,[isD<|.bool false,isD<|.slice none 0 0,isD<|.bool false,isD<|.slice none 0 0]),(g10,[yU F2]),(g12,[isD<|.bool false,isD<|.slice none 0 0]),(g13,qf Z1),(g14,qf Z2)]) (sB [0,1,2,3,4,5,6] I I)<|zk<|zb I<|zb I<|za I (zu 5 2 I I k9 I zm)<|za I (zu 6 2 I I k9 I zm)<|zn (S:=[_]) (qZ (cap:=[.pointer<|some ⟨g10,0,none⟩]) 3 (qM hF3 hZ3 (fun _=>hJ _ _ hz1 hz2)) I I ⟨zc _,zc _,zc _,zc _,t9⟩ I (m9 I) I)<|zn (S:=[_]) (zw 4 I I I k9 I<|m9 I)<|zd<|zi<|SW.sub (σ':=St.of [(4,pA g4),(5,pA g5),(8,pA g8),(10,pA g10),(12,pA g12),(2,isD mulF),(11,isD<|.func (.func 138) #[] #[.pointer<|some ⟨g10,0,none⟩])] [(g4,jz (a)<|b),(g5,jz (c)<|e),(g8,[isD<|.bool false,isD<|.slice none 0 0,isD<|.bool false,isD<|.slice none 0 0]),(g10,[yU F3]),(g12,qf Z3)]) (sB [0,1,2,3,4] I I)<|zk<|zb I<|zb I<|za I (zj (n:=2) I k9)<|za I (zu 0 2 I I k9 I zm)<|za I (zj (n:=2) I k9)<|za I (zu 1 2 I I k9 I zm) ?_)))))
 refine zn (S:=[_]) (qZ (cap:=[.pointer<|some ⟨g10,0,none⟩]) 3 (qM hF4 hZ4 (fun _=>WZ hb he)) I I ⟨zc _,zc _,zc _,zc _,t9⟩ I (m9 I) I) (SWl.e2 (S:=[]) (Ef.alloc (zs:=[.bool false,.slice none 0 0]) k9 I) fun g15=>(zn (S:=[_]) (zw 5 I I I k9 I<|m9 I)<|zd<|zi<|zo<|za I (zy 3 I I I k9 zm)<|za I (yn I I)<|zd<|zD I (fun hb53=> ?_) (fun hb53=> ?_)))
 ·obtain ⟨h1,h2⟩:=hc4.2 (by simpa using hb53)
  refine zi (yf [g8] (.r 0<|.r 1<|.e 2 (.r 3 .fin) .no) k9 k9 (fun d _ _ _ _ h=>by cases d <;> exact h)<|zl I I (yy I I bldR0)<|zl I I (zy 3 I I I k9<|yz 2 I d9 zm)<|yR I (zw 2 I I I k9 I<|Jc (i:=0) I)<|yQ I I<|ym<|zF (fn:=Tryz.f111) (fun _ _ h=>h)<|Rs.le (Rs.two I (zT 2 I I k9)<|zq I) ?_)
  exact y7 ⟨le_rat0.trans<|YL (by unfold qN;rw [h1];rfl) (by unfold qD;rw [h1];rfl),yM<|h2.trans (by unfold qE;rw [h1];rfl),t9⟩
 ·obtain ⟨h1,h2,h3⟩:=hc4.1 (by simpa using hb53);refine zv (zh<|zo<|za I (zu 4 2 I I k9 I zm)<|za I (zu 5 2 I I k9 I zm)<|zn (S:=[]) (zp (Y7 (zaH h1 s9) (zaH h1 s9) h0) I ⟨YM h2,YM h3,t9⟩ I)<|za I (zg I I)<|za I (zg I I)<|zn (S:=[_]) (zw 2 I I I k9 I<|m9 I)<|ze I<|zd<|zF (fn:=Tryz.f111) (fun _ _ h=>h)<|Rs.le (Rs.two I (zT 2 I I k9)<|zq I) ?_);exact y7 ⟨YL (by unfold qN;rw [Jh h1]) (by unfold qD;rw [Jh h1]),yM (by unfold qE;rw [Jh h1]),t9⟩
theorem con_addQ {a b c e:Int} (hG:Good a b) (hH:Good c e):Con Tryz.prog 87 [Ya a b,Ya c e] (Zu [Ya (qN [a * e,c * b,a * e + c * b,b * e] (a * e + c * b)<|b * e)<|qD [a * e,c * b,a * e + c * b,b * e] (a * e + c * b)<|b * e,yU<|qE [a * e,c * b,a * e + c * b,b * e]]):=by
 refine z6 Tryz.func87 k9 I k9 fun base w0=>(zo (SWl.e2 (S:=[]) (yj I I) fun g2=>(SWl.e2 (S:=[]) (yj I I) fun g3=>(SWl.e2 (S:=[]) (Ef.alloc (zs:=[.bool false,.slice none 0 0,.bool false,.slice none 0 0]) k9 I) fun g4=>(ze I<|zd<|zi<|zo<|za I (zu 0 4 I I k9 I zm)<|zn (S:=[]) (zp (Zb (by assumption)) I ⟨zc _,t9⟩ I)<|za I (yF I)<|zb I<|zQ I (zu 1 4 I I k9 I zm)<|Zp (S:=[]) I I I I (zp (Zb (by assumption)) I ⟨zc _,t9⟩ I) ?_)))));rintro _ rfl;refine zQ I (yF I) (za I (zI I I I)<|zd<|zH I I<|zv<|zh<|zo<|zn (S:=[]) (zp (Wj) I t9 I)<|za I (Wx (e:=151) (n:=3) 2 I I k9 k9 d9 d9) (SWl.e2 (S:=[]) (Ef.alloc (zs:=[.nilFunc,.nilFunc]) k9 I) fun g6=>(zn (S:=[_]) (zw 3 I I I k9 I<|m9 I)<|zL<|za I (zu 0 4 I I k9 I zm)<|za I (zu 1 4 I I k9 I zm)<|za I (zj (n:=0) I k9)<|za I (zy 3 I I I k9 zm)<|za I (zj (n:=1) I k9)<|za I (zy 3 I I I k9 zm)<|zn (S:=[]) (zp (Wr (jn:=fun p q=>p + q) (fun p q hp hq=>con_add hp hq) hG.hn hG.hd hH.hn hH.hd<|hG.mul0 hH) I ⟨zc _,zc _,zc _,zc _,t9⟩ I)<|za I (zg I I)<|za I (zg I I)<|zn (S:=[_]) (zw 2 I I I k9 I<|m9 I)<|ze I<|zd ?_)))
 refine zF (fn:=Tryz.f87) (fun _ _ h=>h) (Rs.two I (zT 2 I I k9)<|zq I)
theorem con_subQ {a b c e:Int} (hG:Good a b) (hH:Good c e):Con Tryz.prog 67 [Ya a b,Ya c e] (Zu [Ya (qN [a * e,c * b,a * e - c * b,b * e] (a * e - c * b)<|b * e)<|qD [a * e,c * b,a * e - c * b,b * e] (a * e - c * b)<|b * e,yU<|qE [a * e,c * b,a * e - c * b,b * e]]):=by
 refine z6 Tryz.func67 k9 I k9 fun base w0=>(zo (SWl.e2 (S:=[]) (yj I I) fun g2=>(SWl.e2 (S:=[]) (yj I I) fun g3=>(SWl.e2 (S:=[]) (Ef.alloc (zs:=[.bool false,.slice none 0 0,.bool false,.slice none 0 0]) k9 I) fun g4=>(ze I<|zd<|zi<|zo<|za I (zu 0 4 I I k9 I zm)<|zn (S:=[]) (zp (Zb (by assumption)) I ⟨zc _,t9⟩ I)<|za I (yF I)<|zb I<|zQ I (zu 1 4 I I k9 I zm)<|Zp (S:=[]) I I I I (zp (Zb (by assumption)) I ⟨zc _,t9⟩ I) ?_)))));rintro _ rfl;refine zQ I (yF I) (za I (zI I I I)<|zd<|zH I I<|zv<|zh<|zo<|zn (S:=[]) (zp (Wj) I t9 I)<|za I (Wx (e:=151) (n:=3) 2 I I k9 k9 d9 d9) (SWl.e2 (S:=[]) (Ef.alloc (zs:=[.nilFunc,.nilFunc]) k9 I) fun g6=>(zn (S:=[_]) (zw 3 I I I k9 I<|m9 I)<|zL<|za I (zu 0 4 I I k9 I zm)<|za I (zu 1 4 I I k9 I zm)<|za I (zj (n:=0) I k9)<|za I (zy 3 I I I k9 zm)<|za I (zj (n:=1) I k9)<|za I (zy 3 I I I k9 zm)<|zn (S:=[]) (zp (Wr (jn:=fun p q=>p - q) (fun p q hp hq=>con_sub hp hq) hG.hn hG.hd hH.hn hH.hd<|hG.mul0 hH) I ⟨zc _,zc _,zc _,zc _,t9⟩ I)<|za I (zg I I)<|za I (zg I I)<|zn (S:=[_]) (zw 2 I I I k9 I<|m9 I)<|ze I<|zd ?_)))
 refine zF (fn:=Tryz.f67) (fun _ _ h=>h) (Rs.two I (zT 2 I I k9)<|zq I)
end Sx
namespace Sx
