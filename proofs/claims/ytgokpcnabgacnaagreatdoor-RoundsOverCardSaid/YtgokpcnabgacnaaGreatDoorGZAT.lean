/- THINGS THAT ARE MADE OF OTHER BOXES: packed and opened. Over any program. SLICES OF MAPS, KEYS THAT ARE INTS, A KEY THAT IS SET ANEW, make([]T, n) AS  -/
import Derived.Test.YtgokpcnabgacnaaGreatDoorGZAS
import Derived.Laws.MakeOwn
import Derived.Lib.ConvBytes
set_option maxHeartbeats 8000000
set_option maxRecDepth 100000
namespace Go.Proofs.YtgokpcnabgacnaaGreatDoor
open Go.RowKit
namespace Sx
section
def zgX {ι:Type} (bs:ι→List Box):Res where
 R L F w:=∃ i,F=fps (bs i)∧(fps<|bs i).Nodup∧∀ b∈bs i,b.R L w
 lt:=fun ⟨_,hF,_,h⟩ g hg=>by
  subst hF;obtain ⟨b,hb,hgb⟩:=yD.1 hg;exact Box.lt (h b hb) g hgb
 keep:=fun ⟨i,hF,hn,h⟩ ho hS hF'=>⟨i,hF,hn,fun b hb=>Box.keep (h b hb) ho hS (fun x hx hm=>hF' x hx (by subst hF;exact yD.2 ⟨b,hb,hm⟩))⟩
 less:=fun ⟨i,hF,hn,h⟩ hL=>⟨i,hF,hn,fun b hb=>Box.less (h b hb) hL⟩
theorem jh (F:LN) (R:Res):fps [.r F R]=F:=by simp [fps,Box.fp]
theorem zaJ {ι:Type} {bs:ι→List Box} {F:LN}:Opens [.r F<|zgX bs] (fun post=>∃ i,post=bs i):=fun L w _ h=>by
 obtain ⟨i,hF,hn,hb⟩:=h _ (m9 rfl);rw [jh] at hb ⊢;subst hF;exact ⟨bs i,⟨i,V⟩,hb,hn,fun g hg=>hg⟩
theorem zcZ {ι:Type} {bs:ι→List Box} (i:ι):Opens (bs i) (fun post=>∃ F,post=[.r F<|zgX bs]):=fun L w hn h=>
 ⟨[.r (fps<|bs i)<|zgX bs],⟨_,rfl⟩,fun b hb=>by rw [Ja.1 hb,jh];exact ⟨i,rfl,hn,h⟩,by rw [jh];exact hn,fun g hg=>by rw [jh] at hg;exact hg⟩
section
variable {P:Program}
theorem opens_le {F F':LN} {R R':Res} (h:F=F'∧∀ L w,R.R L F w→R'.R L F w):Opens [.r F R] (fun q=>∃ G,q=[.r G R']):=fun L w hn hb=>⟨[.r F R'],⟨F,rfl⟩,fun b hm=>by
 rw [Ja.1 hm];have:=hb _ (m9 rfl);rw [jh] at this ⊢
 exact h.2 _ _ this,by rw [jh] at hn ⊢;exact hn,fun g hg=>by rw [jh] at hg ⊢;exact hg⟩
end
theorem Opens.refl {pre:List Box} {T:List Box→Prop} (h:T pre):Opens pre T:=fun _ _ hn hb=>⟨pre,h,hb,hn,fun _ hg=>hg⟩
theorem Opens.trans {pre:List Box} {T U:List Box→Prop} (h:Opens pre T) (k:∀ p,T p→Opens p U):Opens pre U:=fun L w hn hb=>by
 obtain ⟨p,hp,h1,h2,h3⟩:=h L w hn hb;obtain ⟨q,hq,k1,k2,k3⟩:=k p hp L w h2 h1;exact ⟨q,hq,k1,k2,fun g hg=>h3 g<|k3 g hg⟩
theorem Opens.frame {pre:List Box} {T:List Box→Prop} (h:Opens pre T) (rest:List Box):Opens (pre ++ rest) (fun q=>∃ p,T p∧q=p ++ rest):=fun L w hn hb=>by
 rw [Yw] at hn hb;have hm:∀ {n x:Nat},x∈fps pre ++ (fps rest ++ L)→x∈fps pre ++ fps rest ++ L∨n≤x:=fun hx=> .inl (by rw [Jq];exact hx);obtain ⟨p,hp,h1,h2,h3⟩:=h (fps rest ++ L) w (JH.1 hn).1 (fun b hb'=>Box.less (hb b<|mL _ hb') (fun _ hx=>hm hx));have hd:=(JH.1 hn).2.2;refine ⟨p ++ rest,⟨p,hp,V⟩,fun b hb'=> ?_,?_,fun g hg=> ?_⟩
 ·rw [Yw];rcases Jf.1 hb' with hb' | hb'
  ·exact Box.less (h1 b hb') (fun x hx=> .inl (by rw [← Jq];exact hx))
  ·refine Box.less (hb b<|mR _ hb') (fun x hx=> .inl ?_);rcases Jf.1 hx with hx | hx
   ·rcases Jf.1 hx with hx | hx
    ·exact mL _ (mL _<|h3 x hx)
    ·exact mL _ (mR _ hx)
   ·exact mR _ hx
 ·rw [Yw];exact JH.2 ⟨h2,(JH.1 hn).2.1,fun a ha b hb'=>hd a (h3 a ha) b hb'⟩
 ·rw [Yw] at hg ⊢;rcases Jf.1 hg with hg | hg
  ·exact mL _ (h3 g hg)
  ·exact mR _ hg
theorem Opens.perm {pre pre':List Box} {T:List Box→Prop} (h:Opens pre T) (hp:pre.Perm pre'):Opens pre' T:=fun L w hn hb=>by
 have e1:(fps pre).Perm (fps pre'):=hp.flatMap_right _
 obtain ⟨q,hq,h1,h2,h3⟩:=h L w (e1.nodup_iff.2 hn) (fun b hb'=>Box.less (hb b<|hp.mem_iff.1 hb') (fun x hx=> .inl (by
  rcases Jf.1 hx with hx | hx
  ·exact mL _ (e1.mem_iff.1 hx)
  ·exact mR _ hx)))
 exact ⟨q,hq,h1,h2,fun g hg=>e1.mem_iff.1<|h3 g hg⟩
theorem Opens.cons {pre:List Box} {T:List Box→Prop} (h:Opens pre T) (b:Box):Opens (b :: pre) (fun q=>∃ p,T p∧q=b :: p):=
 ((h.frame [b]).perm List.perm_append_comm).trans fun q ⟨p,hp,hq⟩=>by
  subst hq;exact (Opens.refl (T:=fun q=>∃ p,T p∧q=b :: p) ⟨p,hp,V⟩:Opens (b :: p) _).perm (List.perm_append_comm (l₁:=[b]) (l₂:=p))
theorem ConR.reshape {P:Program} {f:FuncId} {ad:List D} {ι κ:Type} {pre:List Box} {post:ι→List Box} {post':κ→List Box} {d:ι→D} {d':κ→D} (h:ConR P f pre ad post d) (ho:∀ i,Opens (post i) (fun q=>∃ k,q=post' k∧Le (d i) (d' k))):ConR P f pre ad post' d':=by
 refine ⟨h.en,fun L w vs hL hG hgF hg hnd hbk ha=>(h.go L w vs hL hG hgF hg hnd hbk ha).mono ?_⟩;rintro r w' ⟨i,v,rfl,hd,hR,hn',hnw,hO⟩;obtain ⟨q,⟨k,rfl,hle⟩,h1,h2,h3⟩:=ho i L w' hn' hR;refine ⟨k,v,V,hle _ _ _ ((d i).less hd fun x hx=> .inl ?_),h1,h2,fun g hg'=>hnw g<|h3 g hg',hO⟩;rcases Jf.1 hx with hx | hx
 ·exact mL _ (h3 x hx)
 ·exact mR _ hx
theorem qx {P:Program} {f:FuncId} {ad:List D} {ι κ:Type} {pre:κ→List Box} {pre':List Box} {post:ι→List Box} {d:ι→D} (h:∀ k,ConR P f (pre k) ad post d) (hen:ju P f) (ho:Opens pre' (fun q=>∃ k,q=pre k)):ConR P f pre' ad post d:=by
 refine ⟨hen,fun L w vs hL hG hgF hg hnd hbk ha=> ?_⟩;obtain ⟨q,⟨k,rfl⟩,h1,h2,h3⟩:=ho L w hnd hbk;refine ((h k).go L w vs hL hG (fun g hg'=>hgF g<|h3 g hg') (fun g hg'=>hg g<|h3 g hg') h2 h1 (ha.less fun x hx=> .inl ?_)).mono ?_
 ·rcases Jf.1 hx with hx | hx
  ·exact mL _ (h3 x hx)
  ·exact mR _ hx
 ·rintro r w' ⟨i,v,rfl,hd,hR,hn',hnw,hO⟩;exact ⟨i,v,V,hd,hR,hn',fun g hg'=>(hnw g hg').imp_left<|h3 g,hO.mono (fun x hx _=>h3 x hx)⟩
section
variable {P:Program}{Γ:Cx}{σ:St}{Q:Exit→Act→World→Prop}
theorem yd {c:Code} {pre:List Box} {T:List Box→Prop} (ho:Opens pre T) (js:LN) (hjs:js.Nodup) (hs:SubBx σ.bx js pre) (h:∀ post,T post→SW P Γ (σ.give js post) c Q):SW P Γ σ c Q:=SW.opens js hjs hs ho h
theorem zhO {ops:Array Oper} {l:List Oper} {pre:List Box} {T:List Box→Prop} (ho:Opens pre T) (js:LN) (hjs:js.Nodup) (hs:SubBx σ.bx js pre) (h:∀ post,T post→SWl P Γ ops Q l (σ.give js post)):SWl P Γ ops Q l σ:=SWl.opens js hjs hs ho h
end
theorem zeT {P:Program} {f:FuncId} {pre:List Box} {ι:Type} {post:ι→List Box} {d:ι→D} {p:D} {k:Int} {b:LB} (hen:ju P f)
  (h:∀ A c,ConR P f (pre ++ [.r []<|Vz (.slice A b.length c)<|cellsOf b]) [p,Zo [iD k,isD<|.slice A b.length c]] (fun i=>post i ++ [.r []<|Vz (.slice A b.length c)<|cellsOf b]) d):ConR P f pre [p,Zo [iD k,bD b]] post d:=by
 refine ⟨hen,fun L w vs hL hG hgF hg hnd hbk ha=> ?_⟩
 match vs,ha with
 | [v0,v1],⟨h0,⟨cs,hv,hc⟩,_⟩=>
  obtain ⟨x,y,rfl,hx,hy⟩:=zdB hc;obtain ⟨A,c,rfl,hlc,hr,hoff⟩:=hy;rw [zx] at hlc
  have e:∀ q:List Box,fps (q ++ [.r []<|Vz (.slice A b.length c)<|cellsOf b])=fps q:=fun q=>by rw [Yw];simp [fps,Box.fp]
  have hvw:(Vz (.slice A b.length c)<|cellsOf b).R (fps pre ++ L) [] w:=⟨⟨A,c,by rw [zx],by rw [zx];exact hlc,hr,fun h0 q hq=> .inr<|hoff h0 q hq⟩,by simp⟩
  have:=(h A c).go L w [v0,v1] hL hG (by rw [e];exact hgF) (by rw [e];exact hg) (by rw [e];exact hnd) (fun q hq=>by
   rw [e];rcases Jf.1 hq with hq | hq
   ·exact hbk q hq
   ·rw [Ja.1 hq];exact hvw) (by rw [e];exact ⟨h0,⟨[x,.slice A b.length c],by rw [hv,zx],hx,rfl,trivial⟩,trivial⟩)
  refine this.mono ?_;rintro r w' ⟨i,v,rfl,hd,hR,hn',hnw,hO⟩;rw [e] at hd hn' hnw;rw [e] at hnw;rw [e] at hO;exact ⟨i,v,V,hd,fun q hq=>by have:=hR q (mL _ hq);rw [e] at this;exact this,hn',hnw,hO⟩
structure ConS (P:Program) (f:FuncId) (pre:List Box) (ad:List D) {ι:Type} (post:ι→List Box) (d:ι→D):Prop where
 en:ju P f
 go:∀ (L:LN) (w:World) (vs:List Value),(∀ x∈L,x < w.heap.size)→glob.R w→(∀ g∈fps pre,g∉glob.F)→(∀ g∈fps pre,g∉L)→(fps pre).Nodup→(∀ b∈pre,b.R (fps pre ++ L) w)→All (fps pre ++ L) w ad vs→
  Calls P f vs.toArray w fun e w'=>∃ i v,e= .returned v∧(d i).R (fps (post i) ++ L) w' v∧(∀ b∈post i,b.R (fps (post i) ++ L) w')∧(fps<|post i).Nodup∧(∀ g∈fps (post i),g∈fps pre∨w.heap.size≤g)∧Only [] w w'
theorem ConS.reshape {P:Program} {f:FuncId} {ad:List D} {ι κ:Type} {pre:List Box} {post:ι→List Box} {post':κ→List Box} {d:ι→D} {d':κ→D} (h:ConS P f pre ad post d) (ho:∀ i,Opens (post i) (fun q=>∃ k,q=post' k∧Le (d i) (d' k))):ConS P f pre ad post' d':=by
 refine ⟨h.en,fun L w vs hL hG hgF hg hnd hbk ha=>(h.go L w vs hL hG hgF hg hnd hbk ha).mono ?_⟩;rintro r w' ⟨i,v,rfl,hd,hR,hn',hnw,hO⟩;obtain ⟨q,⟨k,rfl,hle⟩,h1,h2,h3⟩:=ho i L w' hn' hR;refine ⟨k,v,V,hle _ _ _ ((d i).less hd fun x hx=> .inl ?_),h1,h2,fun g hg'=>hnw g<|h3 g hg',hO⟩;rcases Jf.1 hx with hx | hx
 ·exact mL _ (h3 x hx)
 ·exact mR _ hx
theorem zh9 {P:Program} {f:FuncId} {ad:List D} {ι κ:Type} {pre:κ→List Box} {pre':List Box} {post:ι→List Box} {d:ι→D} (h:∀ k,ConS P f (pre k) ad post d) (hen:ju P f) (ho:Opens pre' (fun q=>∃ k,q=pre k)):ConS P f pre' ad post d:=by
 refine ⟨hen,fun L w vs hL hG hgF hg hnd hbk ha=> ?_⟩;obtain ⟨q,⟨k,rfl⟩,h1,h2,h3⟩:=ho L w hnd hbk;refine ((h k).go L w vs hL hG (fun g hg'=>hgF g<|h3 g hg') (fun g hg'=>hg g<|h3 g hg') h2 h1 (ha.less fun x hx=> .inl ?_)).mono ?_
 ·rcases Jf.1 hx with hx | hx
  ·exact mL _ (h3 x hx)
  ·exact mR _ hx
 ·rintro r w' ⟨i,v,rfl,hd,hR,hn',hnw,hO⟩;exact ⟨i,v,V,hd,hR,hn',fun g hg'=>(hnw g hg').imp_left<|h3 g,hO⟩
theorem ConS.toR {P:Program} {f:FuncId} {ad:List D} {ι:Type} {pre:List Box} {post:ι→List Box} {d:ι→D} (h:ConS P f pre ad post d):ConR P f pre ad post d:=
 ⟨h.en,fun L w vs hL hG hgF hg hnd hbk ha=>(h.go L w vs hL hG hgF hg hnd hbk ha).mono fun _ _ ⟨i,v,h1,h2,h3,h4,h5,h6⟩=>⟨i,v,h1,h2,h3,h4,h5,h6.mono (fun x hx _=>by cases hx)⟩⟩
section
variable {P:Program}{Γ:Cx}{σ:St}{S:List Nat}{dst:Option Tmp}{ty:TypeId}{pos:String}{af:Array Edge}{gd:Option (Nat × Bool)}{Q:Exit→Act→World→Prop}
theorem upon_S {f:FuncId} {vs:List Value} {pre:List Box} {ad:List D} {ι:Type} {post:ι→List Box} {d:ι→D} {a:Act} {w:World} (hcon:ConS P f pre ad post d) (hh:Holds Γ σ a w) {js:LN} (hjs:js.Nodup) (hs:SubBx σ.bx js pre) (hall:All (σ.L Γ) w ad vs):
  Calls P f vs.toArray w fun e w'=>∃ i v,e= .returned v∧Holds Γ (σ.give js<|post i) a w'∧(d i).R ((σ.give js<|post i).L Γ) w' v∧Only [] w w':=by
 have hL1:∀ x∈fps pre ++ (σ.L Γ).filter (· ∉fps pre),x∈σ.L Γ∨w.heap.size≤x:=fun x hx=>by
  rcases Jf.1 hx with hx | hx
  ·exact .inl (mL _<|hs.fps hx)
  ·exact .inl (Jw.1 hx).1
 refine (hcon.go ((σ.L Γ).filter (· ∉fps pre)) w vs (fun x hx=>hh.lt x (Jw.1 hx).1) hh.gl (fun g hg=>hh.off g<|hs.fps hg) (fun g hg hm=>by have:=(Jw.1 hm).2;simp at this;exact this hg) (YD hh.nd hjs hs) (fun b' hb'=> ?_)<|hall.less hL1).mono ?_
 ·obtain ⟨j,c,_,h5,h6⟩:=Ye hs b' hb';exact h6.2 _ _ (Box.less (hh.bx c<|Jc h5) hL1)
 ·rintro r w' ⟨i,v,rfl,hd,hR,hnd,hnw,ho⟩;obtain ⟨h1,h2⟩:=hh.give hs (ho.mono (fun x hx _=>by cases hx)) hR hnd hnw;exact ⟨i,v,V,h1,(d i).less hd h2,ho⟩
theorem Ef.callS {f:FuncId} {args:Array Operand} {aT:Array TypeId} {pre:List Box} {ad es:List D} {ι:Type} {post:ι→List Box} {d:ι→D} {k:Nat} (js:LN) (hcon:ConS P f pre ad post d) (he:σ.evs args.toList=some es) (hl:LeAll es ad) (hjs:js.Nodup) (hs:SubBx σ.bx js pre) (hk:yE Γ.nt k=true):
  Ef P Γ S ⟨some k,.call { callee:= .value<|.func f,args:=args,argTypes:=aT },ty,pos,af,gd⟩ σ (fun σ'=>∃ i,σ'=(σ.give js<|post i).put k (d i)):=by
 intro a w hh K Q hK;have hall:=hl.all (ZW hh he);unfold Oper.wp;rw [qr (cap:=[]) hcon.en (show a.eval (.func f)= .func (.func f) #[] ([]:List Value).toArray from rfl),JS];simp only [Oper.upon];refine (upon_S hcon hh hjs hs hall).mono ?_;rintro r w' ⟨i,v,rfl,h1,h2,ho⟩;exact hK _ _ _ ⟨i,V⟩ (h1.put (by simpa [yE] using hk) h2) (ho.mono s9)
end
end
section
def jM (n:Int):Value:= .int .i64 n
theorem zd9:∀ (k:Int) (ks:List Int) (es:List MapEntry) (o:Nat),es.map (·.key)=ks.map jM→
  Instr.findNow (.int .i64) (jM k) es o=some ((ks.idxOf? k).bind fun i=>(es[i]?).map fun e=>(o + i,e.val))
 | _,[],[],o,_=>rfl
 | _,[],_ :: _,_,h=>by simp at h
 | _,_ :: _,[],_,h=>by simp at h
 | k,a :: ks,e :: es,o,h=>by
  simp only [JU,List.cons.injEq] at h
  have hs:Instr.sameNow (.int .i64) (jM k) e.key=some (decide (k=a)):=by
   rw [h.1];simp [Instr.sameNow,jM]
   rfl
  simp only [Instr.findNow,hs]
  by_cases hka:k=a
  ·subst hka;simp [List.idxOf?_cons]
  ·have hb:(a == k)=false:=by simp;exact fun e=>hka e.symm
   rw [Jd hka];simp only;rw [zd9 k ks es (o + 1) h.2];simp only [List.idxOf?_cons,hb]
   cases hx:ks.idxOf? k with
   | none=>simp [hx]
   | some i=>simp [hx,J9,Nat.add_comm 1]
theorem keyOk_int {P:Program} {kt:TypeId} (hT:zhY P kt .i64=true) (k:Int) (ks:List Int):KeyOk P kt jM k ks:=
 ⟨fun e w=>MapKept.run_checkKey (n:=9999) (qt hT) (show MapKept.IsKey (.int .i64) (jM k) from rfl) e,fun w es h=>by
  have h1:=MapKept.run_findKey (P:=P) (w:=w) (qt hT) (zd9 k ks es 0 h);rw [h1]
  simp,by simp [jM,Instr.sameBits]⟩
theorem all_get {L:LN} {w:World}:∀ {ds:List D} {cs:List Value},ds.length=cs.length→(∀ (i:Nat) (d:D) (c:Value),ds[i]? =some d→cs[i]? =some c→d.R L w c)→All L w ds cs
 | [],[],_,_=>trivial
 | [],_ :: _,h,_=>by simp at h
 | _ :: _,[],h,_=>by simp at h
 | d :: ds,c :: cs,h,k=>⟨k 0 d c rfl rfl,all_get (by simpa using h) fun i d' c' h1 h2=>k (i + 1) d' c' (by simpa using h1) (by simpa using h2)⟩
section
variable {κ:Type}{enc:κ→Value}{P:Program}{Γ:Cx}{σ:St}{S:List Nat}{dst:Option Tmp}{ty:TypeId}{pos:String}{af:Array Edge}{gd:Option (Nat × Bool)}{d:D}{Q:Exit→Act→World→Prop}[DecidableEq κ]
theorem WR {x y z:Operand} {T kt et g:Nat} {F:LN} {k:κ} {K K':List κ} {f f':κ→D} {dk dv:D} (j:Nat) (hx:σ.ev x=some (isD<|.map<|some g)) (hj:σ.bx[j]? =some (.r F<|Zc (some g) enc K f)) (hy:σ.ev y=some dk) (hk:Le dk (isD<|enc k)) (hz:σ.ev z=some dv) (hv:Le dv (f' k)) (hK:∀ q,q∈K'↔q=k∨q∈K) (hf:∀ q∈K,q≠k→Le (f q) (f' q)) (hT:zfh P T kt et=true) (hok:∀ ks,KeyOk P kt enc k ks) (hS:∀ g∈F,g∈S):
  Ef P Γ S ⟨none,.mapUpdate T x y z,ty,pos,af,gd⟩ σ (fun σ'=>σ'=σ.give [j] [.r F<|Zc (some g) enc K' f']):=by
 intro a w hh KK Q hQ;have hxv:a.eval x= .map (some g):=zT hh hx;have hyv:a.eval y=enc k:=hk _ _ _ (zT hh hy);have hzv:(f' k).R (σ.L Γ) w (a.eval z):=hv _ _ _ (zT hh hz);obtain ⟨ks,hnd,hKs,es,hma,hks,ha⟩:=hh.resAt hj;rcases hma with ⟨h0,_⟩ | ⟨g',ck,hg',hg,hF,hbn⟩
 ·cases h0
 ·injection hg' with hg';subst hg' hF
  have h1:(getObj g).run P w= .ok (.map es ck) w:=by simp [getObj,Sem.run,hg]
  have hlt:=(Jn.1 hg).1;have h2:=(hok ks).find w es.toList hks
  have hlen:ks.length=es.toList.length:=by have:=JY List.length hks;simpa using this.symm
  -- what there is afterwards
  obtain ⟨es',ck',hrun,ks',hnd',hK',hks',ha',hbn'⟩:∃ (es':Array MapEntry) (ck':Nat),(execOp a.eval ⟨none,.mapUpdate T x y z,ty,pos,af,gd⟩).run P w= .ok .skip { w with heap:=w.heap.setIfInBounds g (.map es' ck') }∧∃ ks':List κ,ks'.Nodup∧(∀ q,q∈ks'↔q∈K')∧es'.toList.map (·.key)=ks'.map enc∧All (σ.L Γ) w (ks'.map f') (es'.toList.map (·.val))∧Bn es' ck':=by
   by_cases hm:k∈ks
   ·obtain ⟨i,hi,hki⟩:=zaZ hm
    have hil:i < es.toList.length:=by rw [← hlen];exact (Jg.1 hki).1
    obtain ⟨e,he⟩:∃ e,es.toList[i]? =some e:=⟨_,Je hil⟩
    have hek:e.key=enc k:=by
     have h3:=JY (·[i]?) hks;simp only [JJ,he,hki,Option.map_some] at h3;exact JN h3
    have hee:es[i]? =some e:=by rw [← Array.getElem?_toList];exact he
    rw [hi] at h2;simp only [Option.bind_some,he,Option.map_some] at h2
    have e0:(es.modify i fun e=>{ e with key:=enc k,val:=a.eval z }).toList.map (·.born)=es.toList.map (·.born):=by
     rw [Array.toList_modify];apply Xh;intro n;rw [JJ,JJ,List.getElem?_modify]
     by_cases hin:i=n
     ·subst hin;rw [he];simp
     ·simp [hin]
    refine ⟨es.modify i fun e=>{ e with key:=enc k,val:=a.eval z },ck,?_,ks,hnd,fun q=> ?_,?_,?_,bn_of hbn (by rw [e0];exact List.Sublist.refl _)⟩
    ·have hst:(Instr.keyThatStays (enc k)<|enc k).run P w= .ok (enc k) w:=by simp [Instr.keyThatStays,(hok ks).bits]
     simp [execOp,hxv,hyv,Instr.mapUpdate,Jp<|qG hT,h1,(hok ks).chk,h2,hee,hek,hst,qq _ hg]
    ·rw [hKs,hK]
     constructor
     ·exact .inr
     ·rintro (rfl | h)
      ·exact (hKs _).1 hm
      ·exact h
    ·rw [Array.toList_modify,← hks];apply Xh;intro n;rw [JJ,JJ,List.getElem?_modify]
     by_cases hin:i=n
     ·subst hin;rw [he];simp [hek]
     ·simp [hin]
    ·refine all_get (by simp [hlen]) fun n d c h3 h4=> ?_;rw [JJ] at h3 h4;rw [Array.toList_modify,List.getElem?_modify] at h4;obtain ⟨q,h5,rfl⟩:=Jy.1 h3
     by_cases hin:i=n
     ·subst hin;rw [hki] at h5;obtain rfl:=JN h5;rw [he] at h4;simp at h4;subst h4;exact hzv
     ·have hqk:q≠k:=fun e2=>hin (by
       subst e2;have e3:=List.pairwise_iff_getElem.1 hnd;obtain ⟨p1,p2⟩:=Jg.1 hki;obtain ⟨p3,p4⟩:=Jg.1 h5;rcases Nat.lt_trichotomy i n with h | h | h
       ·exact absurd (p2.trans p4.symm) (e3 i n p1 p3 h)
       ·exact h
       ·exact absurd (p4.trans p2.symm)<|e3 n i p3 p1 h)
      have hqK:q∈K:=(hKs q).1 (Jc h5);simp only [Jb hin] at h4
      have h6:(es.toList.map (·.val))[n]? =some c:=by rw [JJ];simpa using h4
      obtain ⟨c',h7,h8⟩:=ha.at (show (ks.map f)[n]? =some (f q) by rw [JJ,h5];rfl);rw [h6] at h7;obtain rfl:=JN h7;exact hf q hqK hqk _ _ _ h8
   ·rw [VP hm] at h2;simp only [Option.bind_none] at h2;refine ⟨es.push { key:=enc k,val:=a.eval z,born:=ck },ck + 1,?_,ks ++ [k],?_,fun q=> ?_,by simp [hks],?_,zfI hbn rfl⟩
    ·simp [execOp,hxv,hyv,Instr.mapUpdate,Jp<|qG hT,h1,(hok ks).chk,h2,qq _ hg]
    ·exact JH.2 ⟨hnd,by simp,fun x hx y hy e=>by rw [Ja.1 hy] at e;exact hm<|e ▸ hx⟩
    ·rw [Jf,Ja,hKs q,hK];exact Or.comm
    ·have e5:(es.push { key:=enc k,val:=a.eval z,born:=ck }).toList.map (·.val)=es.toList.map (·.val) ++ [a.eval z]:=by simp
     have e6:(ks ++ [k]).map f'=ks.map f' ++ [f' k]:=by simp
     rw [e5,e6];exact zdo ((zaV fun q hq=>hf q ((hKs q).1 hq) (fun e=>hm<|e ▸ hq)).all ha) hzv
  unfold Oper.wp;rw [hrun];have ho:Only [g] w { w with heap:=w.heap.setIfInBounds g (.map es' ck') }:=j8;have hsub:SubBx σ.bx [j] [.r [g]<|Zc (some g) enc K f]:=⟨⟨_,hj,yu _⟩,trivial⟩;have hfp:fps [Box.r [g]<|Zc (some g) enc K f]=[g]:=rfl
  obtain ⟨h3,_⟩:=hh.give (post:=[.r [g]<|Zc (some g) enc K' f']) hsub (by rw [hfp];exact ho) (fun b hb=>by
   rw [Ja.1 hb];refine ⟨ks',hnd',hK',es',.inr ⟨g,ck',V,by simp [Xt,hlt],rfl,hbn'⟩,hks',?_⟩
   have hL:∀ n x,x∈fps [Box.r [g]<|Zc (some g) enc K' f'] ++ (σ.L Γ).filter (· ∉fps [Box.r [g]<|Zc (some g) enc K f])→x∈σ.L Γ∨n≤x:=fun n x hx=>by
    rcases Jf.1 hx with hx | hx
    ·exact .inl (mL _<|yD.2 ⟨_,Jc hj,hx⟩)
    ·exact .inl (Jw.1 hx).1
   have h4:=ha'.keep ho (fun x hx=>by rw [Ja.1 hx];exact mL _<|yD.2 ⟨_,Jc hj,m9 rfl⟩)
   exact h4.less<|hL _) (by simp [fps,Box.fp]) (fun g' hg'=> .inl hg')
  exact hQ _ _ _ V h3 (ho.mono (fun x hx _=>hS x hx))
end
section
variable {P:Program}{Γ:Cx}{σ:St}{S:List Nat}{dst:Option Tmp}{ty:TypeId}{pos:String}{af:Array Edge}{gd:Option (Nat × Bool)}{d:D}{Q:Exit→Act→World→Prop}
theorem zgJ {x y:Operand} {T e k n:Nat} {z:Value} {li ci:Int} {α:Type} (enc:α→List D) (z0:α) (bytes:Nat) (hx:σ.ev x=some (isD<|.int .i64 li)) (hy:σ.ev y=some (isD<|.int .i64 ci)) (hT:ZS P T e=true)
  (hinfo:(P.info? e).map (fun i=>(i.zero,i.size,i.bytes))=some (some z,1,bytes)) (hzc:z.cells= #[z]) (hz:enc z0=[isD z]) (hl:li=(n:Int)) (hc:ci=(n:Int)) (hn:n≤1099511627776) (hb:bytes≤128) (hk:yE Γ.nt k=true):
  Ef P Γ S ⟨some k,.makeSlice T x y,ty,pos,af,gd⟩ σ (fun σ'=>∃ g,σ'=(⟨σ.tm,σ.bx ++ [.r [g]<|yP e 1 enc (some ⟨g,0,none⟩) n<|List.replicate n z0]⟩:St).put k (isD<|.slice (some ⟨g,0,none⟩) n n)):=by
 intro a w hh K Q hK;have hxv:a.eval x= .int .i64 li:=zT hh hx;have hyv:a.eval y= .int .i64 ci:=zT hh hy
 cases hI:P.info? e with
 | none=>rw [hI] at hinfo;cases hinfo
 | some i=>
  rw [hI] at hinfo;injection hinfo with hinfo;injection hinfo with h1 h2;injection h2 with h2 h3;have hbc:=Xx hb hn
  have hbI:(i.bytes:Int) * (n:Int)≤281474976710656:=by
   rw [h3]
   have h4:((bytes * n:Nat):Int)≤281474976710656:=by omega
   rw [Int.natCast_mul] at h4;exact h4
  have hrun:=run_make (P:=P) w T e i z (yo hT) hI h1 .i64 .i64 (n:Int) (n:Int) o9 o9 hbI o9
  have hcs:madeCells z.cells ((n:Int).toNat * i.size)=(List.replicate n z).toArray:=by
   rw [J7,h2,Nat.mul_one,hzc,← j9]
  rw [hcs] at hrun
  have hds:(List.replicate n z0).flatMap enc=(List.replicate n z).map isD:=by
   have:∀ n:Nat,(List.replicate n z0).flatMap enc=(List.replicate n z).map isD:=fun n=>by
    induction n with
    | zero=>rfl
    | succ n ih=>rw [Xc,J6,ih,hz];simp [Xc]
   exact this n
  have h5:=hh.more ((Only.refl [] w).alloc<|.cells (List.replicate n z).toArray e) (b:= .r [w.heap.size]<|yP e 1 enc (some ⟨w.heap.size,0,none⟩) n<|List.replicate n z0) ⟨List.replicate n z,by rw [hds];exact qN _,⟨by simp,.inr ⟨w.heap.size,n,_,by simp,by simp,Xw w _,by simp,by simp only [maxLen];omega,by simp,by simp⟩⟩,rfl⟩ (fun g hg=>by rw [Ja.1 hg];exact Js _) (by simp [Box.fp]);unfold Oper.wp execOp;simp only [hxv,hyv,hl,hc,JD,hrun,Jv,JK,J7];exact hK _ _ _ ⟨_,V⟩ (h5.put (by simpa [yE] using hk) V) ((Only.refl S w).alloc _)
end
def zeY (M:Option Nat):List D:=[isD<|.map M]
instance:Row zeY 1:=⟨fun _=>rfl,fun x=>by unfold zeY;infer_instance,by decide⟩
def zbR (Rs:List Res):Res where
 R L F w:=∃ Fs:List LN,Fs.length=Rs.length∧F=Fs.flatten∧∀ (i:Nat) (R:Res) (G:LN),Rs[i]? =some R→Fs[i]? =some G→R.R L G w
 lt:=fun ⟨Fs,hl,hF,h⟩ g hg=>by
  subst hF;obtain ⟨G,hG,hgG⟩:=List.mem_flatten.1 hg;obtain ⟨i,hi,rfl⟩:=List.mem_iff_getElem.1 hG;exact (Rs[i]'o9).lt (h i _ _ (Je o9)<|Je hi) g hgG
 keep:=fun ⟨Fs,hl,hF,h⟩ ho hS hn=>⟨Fs,hl,hF,fun i R G h1 h2=>R.keep (h i R G h1 h2) ho hS fun x hx hm=>hn x hx (by subst hF;exact List.mem_flatten.2 ⟨G,Jc h2,hm⟩)⟩
 less:=fun ⟨Fs,hl,hF,h⟩ hL=>⟨Fs,hl,hF,fun i R G h1 h2=>R.less (h i R G h1 h2) hL⟩
theorem leRow {Rs Rs':List Res} (hl:Rs.length=Rs'.length) (h:∀ (i:Nat) (R R':Res),Rs[i]? =some R→Rs'[i]? =some R'→LeR R R'):LeR (zbR Rs) (zbR Rs'):=fun L F w ⟨Fs,h1,h2,h3⟩=>⟨Fs,h1.trans hl,h2,fun i R' G hR hG=>by
 have hi:=(Jg.1 hR).1
 exact h i _ R' (Je o9) hR L G w<|h3 i _ G (Je o9) hG⟩
def zbS (Rs:List Res) (i:Nat):Res:=zbR (Rs.eraseIdx i)
theorem Ke {α:Type}:∀ (Fs:List (List α)) (i:Nat) (G:List α),Fs[i]? =some G→Fs.flatten.Perm (G ++ (Fs.eraseIdx i).flatten)
 | [],i,G,h=>by simp at h
 | F :: Fs,0,G,h=>by
  simp at h;subst h;simp
 | F :: Fs,i + 1,G,h=>by
  have ih:=Ke Fs i G (by simpa using h);simp only [List.flatten_cons,List.eraseIdx_cons_succ];refine (ih.append_left F).trans ?_;rw [← Jq,← Jq];exact List.perm_append_comm.append_right _
theorem zaI {Rs:List Res} {F:LN} {i:Nat} {R:Res} (hi:Rs[i]? =some R):Opens [.r F<|zbR Rs] (fun post=>∃ G F',post=[.r G R,.r F'<|zbS Rs i]):=fun L w hn h=>by
 obtain ⟨Fs,hl,hF,hb⟩:=h _ (m9 rfl);rw [jh] at hb hn ⊢;subst hF;have hil:=(Jg.1 hi).1;obtain ⟨G,hG⟩:∃ G,Fs[i]? =some G:=⟨_,Je o9⟩;have hp:=Ke Fs i G hG
 have e:fps [.r G R,.r (Fs.eraseIdx i).flatten<|zbS Rs i]=G ++ (Fs.eraseIdx i).flatten:=by simp [fps,Box.fp]
 have hL:∀ (n x:Nat),x∈fps [.r G R,.r (Fs.eraseIdx i).flatten<|zbS Rs i] ++ L→x∈Fs.flatten ++ L∨n≤x:=fun n x hx=> .inl (by
  rw [e] at hx;rcases Jf.1 hx with hx | hx
  ·exact mL _ (hp.mem_iff.2 hx)
  ·exact mR _ hx)
 refine ⟨_,⟨G,_,V⟩,fun b hm=> ?_,by rw [e];exact hp.nodup_iff.1 hn,fun g hg=>by rw [e] at hg;exact hp.mem_iff.2 hg⟩;rcases Jt.1 hm with rfl | hm
 ·exact R.less (hb i R G hi hG) (hL _)
 ·rw [Ja.1 hm];refine ⟨Fs.eraseIdx i,by rw [List.length_eraseIdx,List.length_eraseIdx,hl],rfl,fun n R' G' h1 h2=> ?_⟩;rw [List.getElem?_eraseIdx] at h1 h2
  by_cases hni:n < i
  ·rw [Jh hni] at h1 h2;exact R'.less (hb n R' G' h1 h2) (hL _)
  ·rw [Jb hni] at h1 h2;exact R'.less (hb (n + 1) R' G' h1 h2) (hL _)
theorem zcA {Rs:List Res} {F G:LN} {i:Nat} {R:Res} (hi:i < Rs.length):Opens [.r G R,.r F<|zbS Rs i] (fun post=>∃ F',post=[.r F'<|zbR<|Rs.set i R]):=fun L w hn h=>by
 have hR:=h _ mC;obtain ⟨Fs,hl,hF,hb⟩:=h _ (Jl _ mC)
 have e:fps [.r G R,.r F<|zbS Rs i]=G ++ F:=by simp [fps,Box.fp]
 rw [e] at hb hn hR ⊢;subst hF;rw [List.length_eraseIdx,Jh hi] at hl
 have hG:(Fs.insertIdx i G)[i]? =some G:=by rw [List.getElem?_insertIdx_self];rw [Jh o9]
 have hE:(Fs.insertIdx i G).eraseIdx i=Fs:=List.eraseIdx_insertIdx_self ..;have hp:=Ke _ i G hG;rw [hE] at hp
 have hL:∀ (n x:Nat),x∈(Fs.insertIdx i G).flatten ++ L→x∈G ++ Fs.flatten ++ L∨n≤x:=fun n x hx=> .inl (by
  rcases Jf.1 hx with hx | hx
  ·exact mL _ (hp.mem_iff.1 hx)
  ·exact mR _ hx)
 refine ⟨[.r (Fs.insertIdx i G).flatten<|zbR<|Rs.set i R],⟨_,V⟩,fun b hm=> ?_,by rw [jh];exact hp.nodup_iff.2 hn,fun g hg=>by rw [jh] at hg;exact hp.mem_iff.1 hg⟩;rw [Ja.1 hm,jh];refine ⟨Fs.insertIdx i G,by rw [List.length_insertIdx,Jh o9,Xl];omega,rfl,fun n R' G' h1 h2=> ?_⟩;rw [List.getElem?_set] at h1
 by_cases hni:i=n
 ·subst hni;rw [Jh rfl,Jh hi] at h1;rw [hG] at h2;obtain rfl:=JN h1;obtain rfl:=JN h2;exact R.less hR (hL _)
 ·rw [Jb hni] at h1;refine R'.less ?_ (hL _)
  by_cases hlt:n < i
  ·rw [List.getElem?_insertIdx_of_lt hlt] at h2;exact hb n R' G' (by rw [List.getElem?_eraseIdx,Jh hlt];exact h1) h2
  ·rw [List.getElem?_insertIdx_of_gt o9] at h2;exact hb (n - 1) R' G' (by rw [List.getElem?_eraseIdx,Jb o9,show n - 1 + 1=n by omega];exact h1) h2
theorem zis {Rs:List Res} {F G:LN} {R:Res}:Opens [.r F<|zbR Rs,.r G R] (fun post=>∃ F',post=[.r F'<|zbR<|Rs ++ [R]]):=fun L w hn h=>by
 obtain ⟨Fs,hl,hF,hb⟩:=h _ mC;have hR:=h _ (Jl _ mC)
 have e:fps [.r F<|zbR Rs,.r G R]=F ++ G:=by simp [fps,Box.fp]
 rw [e] at hb hn hR ⊢;subst hF
 have e2:(Fs ++ [G]).flatten=Fs.flatten ++ G:=by simp
 refine ⟨[.r (Fs ++ [G]).flatten<|zbR<|Rs ++ [R]],⟨_,V⟩,fun b hm=> ?_,by rw [jh,e2];exact hn,fun g hg=>by rw [jh,e2] at hg;exact hg⟩;rw [Ja.1 hm,jh,e2];refine ⟨Fs ++ [G],by simp [hl],e2.symm,fun n R' G' h1 h2=> ?_⟩
 by_cases hlt:n < Rs.length
 ·rw [JB hlt] at h1;rw [JB o9] at h2;exact hb n R' G' h1 h2
 ·rw [JR o9] at h1 h2
  have hn0:n - Rs.length=0:=by have:=(Jg.1 h1).1;simp at this;omega
  rw [hl,hn0] at h2;rw [hn0] at h1;obtain rfl:=JN h1;obtain rfl:=JN h2;exact hR
theorem zit:Opens [] (fun post=>∃ F',post=[.r F'<|zbR []]):=fun L w _ _=>⟨[.r []<|zbR []],⟨_,rfl⟩,fun b hm=>by rw [Ja.1 hm];exact ⟨[],rfl,rfl,fun i R G h1=>by simp at h1⟩,by simp [fps,Box.fp],by simp [fps,Box.fp]⟩
theorem zg0 {Rs:List Res} (h:∀ R∈Rs,∀ L w,R.R L [] w):Opens [] (fun post=>∃ F',post=[.r F'<|zbR Rs]):=fun L w _ _=>⟨[.r (List.replicate Rs.length ([]:LN)).flatten<|zbR Rs],⟨_,rfl⟩,fun b hm=>by
 rw [Ja.1 hm];refine ⟨List.replicate Rs.length [],by simp,rfl,fun i R G h1 h2=> ?_⟩
 obtain rfl:G=[]:=by rw [Xj] at h2;split at h2 <;> simp_all
 exact h R (Jc h1) _ _,by simp [fps,Box.fp],by simp [fps,Box.fp]⟩
end
end Sx
section
variable {P:Program}{w:World}{ops:Array Oper}{rest:List Oper}{o:Oper}{a:Act}{Q:Exit→Act→World→Prop}
end
section
variable {w:World}{ops:Array Oper}{rest:List Oper}{o:Oper}{a:Act}{Q:Exit→Act→World→Prop}
theorem wpl_app8 (hgd:o.guard=none) (s x:Operand) (ho:o.op= .call { callee:= .builtin .append,args:= #[s,x],argTypes:= #[24,24] })
  (A:Option Addr) (n c:Nat) (xs:LB) (G:Option Nat) (hs:a.eval s= .slice A n c) (hn:n=xs.length) (hown:OwnS w 5 A c (cellsOf xs) G)
  (B:Option Addr) (m d:Nat) (ys:LB) (hx:a.eval x= .slice B m d) (hm:m=ys.length) (hr:RV w B (cellsOf ys))
  (hlen:xs.length + ys.length≤1099511627776)
  (h:∀ A' c' w' G',OwnS w' 5 A' c' (cellsOf<|xs ++ ys) G'→((G'=G∧A'=A∧c'=c∧Only G.toList w w')∨(G'=some w.heap.size∧Only [] w w'))→wpList Tryz.prog ops Q rest (a.put o.dst<|.slice A' (n + m) c') w'):wpList Tryz.prog ops Q (o :: rest) a w:=by
 have hi:=info8
 cases hI:Tryz.prog.info? 5 with
 | none=>rw [hI] at hi;cases hi
 | some i=>
  rw [hI] at hi;injection hi with hi;injection hi with h1 h2;injection h2 with h2 h3;obtain ⟨A',c',w',G',hrun,hown',hG⟩:=run_app (P:=Tryz.prog) 24 o.type 5 i (.int .u8 0) 1 Tryz.underlying24 hI h1 h2 h3 rfl A c (cellsOf xs) G hown B d (cellsOf ys) hr Yd (by simpa using hlen) d9;subst hn hm;refine J4 hgd fun K hK=> ?_;unfold Oper.wp execOp;simp only [ho,resolve,invoke,builtin,JD,JK,Jv,List.map_toArray,JU,XC,hs,hx];simp only [zx] at hrun;rw [hrun];exact hK _ _ (h A' c' w' G' (by rw [Yr];exact hown') hG)
end
section
variable {P:Program}{w:World}{ops:Array Oper}{rest:List Oper}{o:Oper}{a:Act}{Q:Exit→Act→World→Prop}
end
theorem zc3 (w:World) (A:Option Addr) (n c:Nat) (key:LB) (hn:n=key.length) (hk1:1≤key.length) (hk:key.length≤32) (hc:key.length≤c) (hr:RB w A key)
  (B:Option Addr) (m d:Nat) (b:LB) (hm:m=b.length) (hd:b.length≤d) (hrb:RB w B b) (hbl:b.length≤2305843009213693952) (hgl:Gl w):
  Calls Tryz.prog 170 #[.slice A n c,.slice B m d] w fun e w'=>e= .returned (.tuple #[.agg (cellsOf<|Bl.hash key b).toArray,.int .i64 0])∧Only [] w w':=by
 subst hn hm;exact zd0 w A c key hk1 hk hc hr B d b hd hrb hbl hgl
theorem RV.rb {w:World} {A:Option Addr} {bs:LB} (h:RV w A (cellsOf bs)):RB w A bs:=by
 intro h0;obtain ⟨g,o,e,hg,hc⟩:=h (by simpa using h0);exact ⟨g,o,e,hg,fun j hj=>by rw [hc j (by simpa using hj),Yl hj]⟩
theorem Wz (w:World) (A:Option Addr) (ca:Nat) (key:LB) (s:ByteArray) (label:LB) (hk:key.length=32) (hs:s.data.toList=label) (h1:(1:Int)≤(s.size:Int)) (h2:(s.size:Int)≤64) (hca:32≤ca) (hA:RV w A (cellsOf key)) (hgl:Gl w):
    Calls Tryz.prog 167 #[.slice A 32 ca,.string s] w fun e w'=>∃ g,e= .returned (.tuple #[.slice (some ⟨g,0,none⟩) 32 32,.int .i64 0])∧Blk w' g 219 (cellsOf<|Bl.hash key label)∧w.heap.size≤g∧Only [] w w':=by
  have Hk:=Jm hk
  have Hs:=Jm hs
  have hsz:s.size=label.length:=by rw [← hs,Array.length_toList];rfl
  have Hsz:=Jm hsz
  have hll:label.length≤64:=by omega
  clear hk hs hsz
  go_enter Tryz.func167,Tryz.ntmps167
  go_wp2_with (first
    | (refine wpl_bytes rfl 9 24 5 (.tmp 23) rfl Tryz.underlying9 Tryz.underlying24 Tryz.underlying5 s label rfl Hs.out ?_
       intro c1 w1 hc1 hR1 hO1)
    | (go_at_call 170;refine (zc3 w1 A 32 ca key Hk.out.symm (by rw [Hk.out];decide) (by rw [Hk.out];decide) (by rw [Hk.out];exact hca) (hA.keep0 hO1).rb _ label.length c1 label rfl hc1 hR1.rb o9<|hgl.keep hO1 s9 s9).mono ?_
       rintro e w2 ⟨rfl,hO2⟩
       have hO2':=hO1.trans' hO2)
    | (refine zaw rfl (.tmp 6) (.tmp 26) rfl w2.heap.size (Bl.hash key label) rfl rfl (List.replicate 32<|Value.int .u8 0) ?hb rfl s9 ?_
       case hb=>exact zav w2 rfl
       intro w3 hB3 hO3))
  go_ret2
  exact ⟨_,V,hB3,hO2'.size,(hO2'.alloc _).trans hO3 (by have:=hO2'.size;simp;omega)⟩
theorem zdI (w:World) (A B:Option Addr) (ca n cb:Nat) (key body:LB) (hk:key.length=32) (hn:n=body.length) (hca:32≤ca) (hcb:n≤cb) (hbl:n≤1000000) (hA:RV w A (cellsOf key)) (hB:RV w B (cellsOf body)) (hgl:Gl w):
    Calls Tryz.prog 169 #[.slice A 32 ca,.slice B n cb] w fun e w'=>∃ g,e= .returned (.tuple #[.slice (some ⟨g,0,none⟩) 16 32,.int .i64 0])∧RV w' (some ⟨g,0,none⟩) (cellsOf<|Sl.tag key body)∧w.heap.size≤g∧Only [] w w':=by
  have Hk:=Jm hk
  have Hn:=Jm hn
  clear hk hn
  go_enter Tryz.func169,Tryz.ntmps169
  go_wp2_with (first
    | (go_at_call 167;refine (Wz w A ca key _ Sl.tagL Hk.out rfl d9 d9 hca hA hgl).mono ?_
       rintro e w1 ⟨g1,rfl,hB1,hg1,hO1⟩)
    | (go_at_call 170;refine (zc3 w1 _ 32 32 (Bl.hash key Sl.tagL) s9 s9 s9 s9 hB1.rv.rb B n cb body Hn.out (by rw [← Hn.out];exact hcb) (hB.keep0 hO1).rb (by rw [← Hn.out];omega)<|hgl.keep hO1 s9 s9).mono ?_
       rintro e w2 ⟨rfl,hO2⟩
       have hO2':=hO1.trans' hO2)
    | (refine zaw rfl (.tmp 8) (.tmp 21) rfl w2.heap.size (Bl.hash (Bl.hash key Sl.tagL) body) rfl rfl (List.replicate 32<|Value.int .u8 0) ?hb rfl s9 ?_
       case hb=>exact zav w2 rfl
       intro w3 hB3 hO3))
  go_ret2
  refine ⟨_,V,?_,hO2'.size,(hO2'.alloc _).trans hO3 (by have:=hO2'.size;simp;omega)⟩
  intro _
  refine ⟨_,0,V,hB3.lt,fun j hj=> ?_⟩
  have hj':j < 16:=by simpa using hj
  rw [JF,hB3.cell]
  unfold Sl.tag
  rw [cellsOf,cellsOf,List.map_take,JP,Jh hj']
theorem be8_cell (q j:Nat) (hj:j < 8):(Sl.be8 q).getD j 0=UInt8.ofNat (q / 2 ^ (56 - 8 * j)):=by simp [Sl.be8,hj]
theorem be8_set {nonce:LB} {tl:List Value} (hn:nonce.length=16) (htl:tl.length=8) (q j:Nat) (hj:j < 8):
  (cellsOf (nonce ++ (Sl.be8 q).take j) ++ tl.drop j).set (16 + j) (B8<|(Sl.be8 q).getD j 0)=cellsOf (nonce ++ (Sl.be8 q).take (j + 1)) ++ tl.drop (j + 1):=by
 have hl:(cellsOf<|nonce ++ (Sl.be8 q).take j).length=16 + j:=by simp [hn];omega
 rw [Xa _ _ o9,hl,Nat.sub_self];have hd:tl.drop j=tl[j] :: tl.drop (j + 1):=List.drop_eq_getElem_cons o9
 have hb:j < (Sl.be8 q).length:=by simp;omega
 rw [hd,List.set_cons_zero,J8 hb,← Jq,Yr<|nonce ++ (Sl.be8 q).take j];simp [cellsOf,Je hb]
theorem zgQ (w:World) (A B:Option Addr) (ca cb:Nat) (key nonce:LB) (n:Nat) (hk:key.length=32) (hn:nonce.length=16) (hnn:(n:Int)≤65504) (hca:32≤ca) (_hcb:16≤cb) (hA:RV w A (cellsOf key)) (hB:RV w B (cellsOf nonce)) (hgl:Gl w):
    Calls Tryz.prog 201 #[.slice A 32 ca,.slice B 16 cb,.int .i64 (n:Int)] w fun e w'=>∃ g rest,e= .returned (.tuple #[.slice (some ⟨g,0,none⟩) n n,.int .i64 0])∧Blk w' g 5 (cellsOf (Sl.stream key nonce n) ++ rest)∧w.heap.size≤g∧Only [] w w':=by
  have Hk:=Jm hk
  have Hn:=Jm hn
  clear hk hn
  obtain ⟨gn,on,rfl,hgn,hcn⟩:=hB (by rw [zx,Hn.out];decide)
  have Hcn:=Jm hcn
  clear hcn
  go_enter Tryz.func201,Tryz.ntmps201
  go_upto_region 9 with (first
    | (go_at_call 167;refine (Wz w A ca key _ Sl.streamL Hk.out rfl d9 d9 hca hA hgl).mono ?_
       rintro e w1 ⟨gd,rfl,hD1,hgd,hO1⟩)
    | (refine zcP rfl 24 _ _ rfl 5 (.int .u8 0) 1 Tryz.underlying24 info8 rfl .i64 .i64 24 24 24 24 rfl rfl rfl rfl d9 d9 d9 ?_
       intro w2 _ hI2 hO2
       have hD2:=hD1.keep hO2 s9
       have hO2':=hO1.trans' hO2
       have hl1:=hD1.lt
       clear hD1)
    | (refine zak rfl (.tmp 41) (.tmp 42) _ _ rfl 5 Tryz.underlying24 u8size _ _ _ _ _ _ rfl rfl w1.heap.size 0 _ _ hI2 (cellsOf nonce) (by rw [zx,Hn.out];decide) (fun _=>⟨rfl,_,rfl,?hsrc⟩) (by rw [zx,Hn.out];decide) Yd ?_
       case hsrc=>
         intro j v hv
         rw [Xg,hO2'.cell (p:=⟨gn,on + j,none⟩) hgn s9,Hcn.out j (Jg.1 hv).1,hv]
       intro w3 hI3 hO3
       have hO3':=hO2'.trans hO3 (by have:=hO1.size;simp;omega)
       have hD3:=hD2.keep hO3 (by simp;omega)
       have hs3:=hO3'.size
       have hl3:=hI3.lt
       clear hD2 hI2 hO2)
    | (refine zcP rfl 24 _ _ rfl 5 (.int .u8 0) 1 Tryz.underlying24 info8 rfl .i64 .i64 0 _ 0 (n + 32) rfl ?hc rfl rfl o9 o9 d9 ?_
       case hc=>omega
       intro w4 hown4 hB4 hO4
       have hD4:=hD3.keep hO4 s9
       have hI4:=hI3.keep hO4 s9
       have hO4':=hO3'.trans' hO4
       clear hD3 hI3 hO4 hO3'))
  have hI5:Blk w4 w1.heap.size 5 (cellsOf nonce ++ List.replicate 8 (Value.int .u8 0)):=by
    have e:splice (List.replicate 24<|Value.int .u8 0) 0 (cellsOf nonce)=cellsOf nonce ++ List.replicate 8 (Value.int .u8 0):=by simp [splice,Hn.out]
    rw [e] at hI4
    exact hI4
  have hgo:w3.heap.size≠w1.heap.size:=by omega
  have hgo2:w3.heap.size≠gd:=by omega
  have hwg:w.heap.size≤w1.heap.size:=hO1.size
  have hgdi:gd≠w1.heap.size:=by omega
  clear hI4 hB4
  revert hI5 hgo hwg hgdi
  generalize w1.heap.size=gi
  intro hI5 hgo hwg hgdi
  go_wp2
  go_loopw [11,12,13,14,15] (fun out i _ _ _ wr=>∃ (q x g co:Nat) (tl:List Value),out= .slice (some ⟨g,0,none⟩) x co∧x=32 * q∧i= .int .u64 (q:Int)∧OwnS wr 5 (some ⟨g,0,none⟩) co (cellsOf<|Sl.blocks (Bl.hash key Sl.streamL) nonce q) (some g)∧g≠gi∧g≠gd∧w.heap.size≤g∧tl.length=8∧Blk wr gi 5 (cellsOf nonce ++ tl)∧Blk wr gd 219 (cellsOf<|Bl.hash key Sl.streamL)∧Only [] w wr∧(q=0∨32 * q < n + 32)) (fun out _ _ _ _ _=>n + 32 - lenV out)
  case atStart=>exact ⟨0,0,w3.heap.size,n + 32,List.replicate 8<|Value.int .u8 0,rfl,rfl,rfl,hown4,hgo,hgo2,hs3,by simp,hI5,hD4,hO4',.inl rfl⟩
  case round=>
    clear hown4 hI5 hD4 hO4' hgo
    obtain ⟨q,x,g,co,tl,rfl,hx,rfl,hown,hgg,hggd,hgw,htl,hI,hD,hO,hq⟩:=hrel
    have hxb:x≤65536 + 32:=by omega
    have hqb:q≤2050:=by omega
    have Hx:=Jm hx
    have Htl:=Jm htl
    have Hq:=Jm hq
    have hlgi:=hI.lt
    have hlgd:=hD.lt
    by_cases hlt:x < n
    · have hltI:(x:Int) < (n:Int):=by omega
      clear hx htl hq
      obtain ⟨wo,rfl⟩:∃ wo:World,wo=wr:=⟨_,rfl⟩
      go_wp2
      go_loopw [53,13] (fun c _ wr=>∃ j:Nat,j≤8∧c= .int .i64 (j:Int)∧Blk wr gi 5 (cellsOf (nonce ++ (Sl.be8 q).take j) ++ tl.drop j)∧Only [gi] wo wr) (fun c _ _=>8 - (intOf c).toNat)
      case atStart=>exact ⟨0,by omega,rfl,by simpa using hI,Only.refl _ _⟩
      case round=>
        obtain ⟨j,hj,rfl,hI',hOj⟩:=hrel
        by_cases hlj:j < 8
        · have cv:wr.cell? ⟨gi,16 + j,none⟩=some ((cellsOf (nonce ++ (Sl.be8 q).take j) ++ tl.drop j).getD (16 + j) undef):=by
            refine hI'.cellv ?_
            have hll:16 + j < (cellsOf (nonce ++ (Sl.be8 q).take j) ++ tl.drop j).length:=by simp [Hn.out,Htl.out];omega
            rw [Jr,Je hll]
            rfl
          have fz:=hI'.frozen (16 + j)
          have hset:=be8_set Hn.out Htl.out q j hlj
          have hcell:=be8_cell q j hlj
          have hnew:∀ v,v=B8 ((Sl.be8 q).getD j 0)→Blk (wr.setCell ⟨gi,16 + j,none⟩ v) gi 5 (cellsOf (nonce ++ (Sl.be8 q).take (j + 1)) ++ tl.drop (j + 1)):=by
            rintro _ rfl
            rw [← hset]
            exact hI'.set (16 + j) _
          rw [hcell] at hnew
          revert cv
          generalize (cellsOf (nonce ++ (Sl.be8 q).take j) ++ tl.drop j).getD (16 + j) undef=v0
          intro cv
          have Hnew:=Jm hnew
          clear hset hcell hnew hI'
          rcases (show j=0∨j=1∨j=2∨j=3∨j=4∨j=5∨j=6∨j=7 by omega) with rfl | rfl | rfl | rfl | rfl | rfl | rfl | rfl
          all_goals
            simp only [Nat.reduceAdd] at cv fz
            go_wp2
            go_roundw
            case rel=>
              refine ⟨_,?_,?_,Hnew.out _ ?_,hOj.setCell (p:=⟨gi,_,none⟩) (.inl s9) _⟩
              · omega
              · rfl
              · first | (simp [B8];done) | (simp [B8];omega)
            case measure=>simp [intOf]
        · obtain rfl:j=8:=by omega
          clear hlj hj
          have hI8:Blk wr gi 5 (cellsOf<|nonce ++ Sl.be8 q):=by
            have e1:(Sl.be8 q).take 8=Sl.be8 q:=Ji s9
            have e2:tl.drop 8=[]:=JZ (by rw [Htl.out];exact Js _)
            rw [e1,e2,JS] at hI'
            exact hI'
          have hD8:=hD.keep hOj (by simpa using hgdi)
          have hown8:=hown.keep hOj (fun y hy=>by injection hy with hy;subst hy;simpa using hgg)
          have hO8:Only [] w wr:=hO.trans hOj (by simp;omega)
          have hil:(nonce ++ Sl.be8 q).length=24:=by simp [Hn.out]
          have Hil:=Jm hil
          have hbl:(Sl.blocks (Bl.hash key Sl.streamL) nonce q).length=x:=by rw [Sl.blocks_length,Hx.out]
          have Hbl:=Jm hbl
          clear hil hbl hI' hD hown hO hI hOj
          go_wp2_with (first
            | (go_at_call 170;refine (zc3 wr _ 32 32 (Bl.hash key Sl.streamL) s9 s9 s9 s9 hD8.rv.rb _ 24 24 (nonce ++ Sl.be8 q) Hil.out.symm (by rw [Hil.out];decide) hI8.rv.rb (by rw [Hil.out];decide)<|hgl.keep hO8 s9 s9).mono ?_
               rintro e w5 ⟨rfl,hO5⟩
               have hP5:=hO8.trans' hO5
               have hD5:=hD8.keep hO5 s9
               have hI5:=hI8.keep hO5 s9
               have hown5:=hown8.keep hO5 s9
               clear hO5)
            | (refine zaw rfl (.tmp 14) (.tmp 71) rfl w5.heap.size (Sl.block (Bl.hash key Sl.streamL) nonce q) rfl rfl (List.replicate 32<|Value.int .u8 0) ?hb rfl (by simp [Sl.block]) ?_
               case hb=>exact zav w5 rfl
               intro w6 hB6 hO6
               have hP6:=(hP5.alloc _).trans hO6 (by have:=hP5.size;simp;omega)
               have hD6:=(hD5.alloc _).keep hO6 (by have:=hD5.lt;simp;omega)
               have hI6:=(hI5.alloc _).keep hO6 (by have:=hI5.lt;simp;omega)
               have hown6:=(hown5.keep ((Only.refl [] w5).alloc _) s9).keep hO6 (fun y hy=>by have:=hown5.lt y hy;simp;omega)
               clear hO6 hD5 hI5 hown5)
            | (at_builtin;refine wpl_app8 rfl (.tmp 76) (.tmp 77) rfl (some ⟨g,0,none⟩) x co _ (some g) rfl Hbl.out.symm hown6 (some ⟨w5.heap.size,0,none⟩) 32 32 (Sl.block (Bl.hash key Sl.streamL) nonce q) rfl (by simp [Sl.block]) hB6.rv (by rw [Hbl.out];simp [Sl.block];omega) ?_
               intro A7 c7 w7 G7 hown7 hG7
               have hO7:=only_app hG7))
          obtain ⟨g7,r7,rfl,rfl,hB7⟩:=hown7.blk (by rw [zx,Jk];simp [Sl.block])
          have hg7:g7≠gi∧g7≠gd∧w.heap.size≤g7:=by
            rcases hG7 with ⟨e1,_⟩ | ⟨e1,_⟩
            · injection e1 with e1
              subst e1
              exact ⟨hgg,hggd,hgw⟩
            · injection e1 with e1
              have:=hI6.lt
              have:=hD6.lt
              have:=hP6.size
              omega
          have hD7:=hD6.keep hO7 (by simp;exact fun he=>hggd he.symm)
          have hI7:=hI6.keep hO7 (by simp;exact fun he=>hgg he.symm)
          have hP7:=hP6.trans hO7 (by simp;omega)
          have hx32:x + 32=32 * (q + 1):=by rw [Hx.out];omega
          have hq':32 * (q + 1) < n + 32:=by rw [← hx32];omega
          have Hx32:=Jm hx32
          clear hx32 hown6 hI6 hD6 hP6 hG7 hO7 hB6 hown8 hI8 hD8 hO8
          go_wp2
          refine ⟨⟨q + 1,x + 32,g7,c7,cellsOf<|Sl.be8 q,V,Hx32.out,by go_num,hown7,hg7.1,hg7.2.1,hg7.2.2,by simp,by rw [← Yr];exact hI7,hD7,hP7,.inr hq'⟩,by simp only [lenV];omega⟩
    · have hltI:(n:Int)≤(x:Int):=by omega
      have hbl:(Sl.blocks (Bl.hash key Sl.streamL) nonce q).length=x:=by rw [Sl.blocks_length,hx]
      have hco:x≤co:=by rw [← hbl];simpa using hown.le
      have hcoI:(n:Int)≤(co:Int):=by omega
      have hqq:q=(n + 31) / 32:=by omega
      have hBg:∃ r,Blk wr g 5 (cellsOf (Sl.blocks (Bl.hash key Sl.streamL) nonce q) ++ r):=by
        rcases hown with h | ⟨g',r,e1,_,h3,_⟩
        · cases h.1
        · injection e1 with e1
          injection e1 with e1
          subst e1
          exact ⟨r,h3⟩
      obtain ⟨r,hBg⟩:=hBg
      have Hqq:=Jm hqq
      clear hx htl hq hqq hown hbl
      go_wp2
      go_ret2
      refine ⟨g,cellsOf ((Sl.blocks (Bl.hash key Sl.streamL) nonce q).drop n) ++ r,V,?_,hgw,hO⟩
      rw [Sl.stream,← Hqq.out,← Jq,← Yr,JV]
      exact hBg
theorem Ws (x y:UInt8):bits .xor .u8 (x.toNat:Int) (y.toNat:Int)=((x ^^^ y).toNat:Int):=by
 rw [u8_xor_nat _ _ (J5 _)<|J5 _,UInt8.toNat_xor]
theorem u8_or_val (x y:UInt8):bits .or .u8 (x.toNat:Int) (y.toNat:Int)=((x ||| y).toNat:Int):=by
 rw [u8_or_nat _ _ (J5 _)<|J5 _,UInt8.toNat_or]
theorem zgh (w:World) (A B C:Option Addr) (ca cb cc:Nat) (key nonce b:LB) (hk:key.length=32) (hn:nonce.length=16) (hb:(b.length:Int)≤65504) (hca:32≤ca) (hcb:16≤cb) (_hcc:b.length≤cc) (hA:RV w A (cellsOf key)) (hB:RV w B (cellsOf nonce)) (hC:RV w C (cellsOf b)) (hgl:Gl w):
  Calls Tryz.prog 168 #[.slice A 32 ca,.slice B 16 cb,.slice C b.length cc] w fun e w'=>∃ g rest,e= .returned (.tuple #[.slice (some ⟨g,0,none⟩) b.length b.length,.int .i64 0])∧Blk w' g 5 (cellsOf (Sl.mask key nonce b) ++ rest)∧w.heap.size≤g∧Only [] w w':=by
 go_enter Tryz.func168,Tryz.ntmps168
 go_wp2_with (go_at_call 201;refine (zgQ w A B ca cb key nonce b.length hk hn hb hca hcb hA hB hgl).mono ?_;rintro e w1 ⟨g,rest,rfl,hB1,hg,hO1⟩)
 have hsl:(Sl.stream key nonce b.length).length=b.length:=by simp
 obtain ⟨s,hs⟩:∃ s,s=Sl.stream key nonce b.length:=⟨_,rfl⟩;rw [← hs] at hB1 hsl;have Hs:=Jm hs;have Hsl:=Jm hsl;clear hs hsl
 go_loopw [24,10] (fun c _ wr=>∃ k:Nat,k≤b.length∧c= .int .i64 (k:Int)∧Blk wr g 5 (cellsOf (Sl.xorb (s.take k)<|b.take k) ++ (cellsOf (s.drop k) ++ rest))∧Only [g] w1 wr) (fun c _ _=>b.length - (intOf c).toNat)
 case atStart=>exact ⟨0,by omega,rfl,hB1,Only.refl _ _⟩
 case round=>
  obtain ⟨k,hk',rfl,hBk,hOk⟩:=hrel
  by_cases hlt:k < b.length
  ·have hltI:(k:Int) < (b.length:Int):=by omega
   have hxl:(cellsOf<|Sl.xorb (s.take k)<|b.take k).length=k:=by rw [zx,Sl.xorb_length (by simp [Hsl.out])];simp;omega
   have hsd:s.drop k=s.getD k 0 :: s.drop (k + 1):=by
    have hks:k < s.length:=by rw [Hsl.out];exact hlt
    rw [List.drop_eq_getElem_cons hks];simp [hks]
   have cs:wr.cell? ⟨g,k,none⟩=some (.int .u8 ((s.getD k 0).toNat:Int)):=by
    refine hBk.cellv ?_;rw [JR o9,hxl,Nat.sub_self,hsd]
    rfl
   have fz:=hBk.frozen k;obtain ⟨gc,oc,rfl,hgc,hcc⟩:=hC (by rw [zx];omega)
   have cb':wr.cell? ⟨gc,oc + k,none⟩=some (.int .u8 ((b.getD k 0).toNat:Int)):=by
    rw [hOk.cell (p:=⟨gc,oc + k,none⟩) (Ju hgc hO1.size) (by simp;omega),hO1.cell (p:=⟨gc,oc + k,none⟩) hgc s9,hcc k (by simpa using hlt)];exact Yl hlt
   have hx:=Ws (s.getD k 0) (b.getD k 0)
   have hnew:Blk (wr.setCell ⟨g,k,none⟩<|.int .u8 ((s.getD k 0 ^^^ b.getD k 0).toNat:Int)) g 5 (cellsOf (Sl.xorb (s.take<|k + 1)<|b.take<|k + 1) ++ (cellsOf (s.drop<|k + 1) ++ rest)):=by
    have h1:=hBk.set k (.int .u8 ((s.getD k 0 ^^^ b.getD k 0).toNat:Int));rw [Xa _ _ o9,hxl,Nat.sub_self,hsd] at h1;rw [Sl.xorb_take Hsl.out k (by rw [Hsl.out];exact hlt),Yr,Jq];exact h1
   revert cs cb' hx hnew
   generalize s.getD k 0=x
   generalize b.getD k 0=y
   intro cs cb' hx hnew;have Hnew:=Jm hnew;clear hsd hxl hcc hnew;obtain ⟨z,Hz⟩:∃ z:Nat,Hid (z=(x ^^^ y).toNat):=⟨_,rfl⟩;rw [← Hz.out] at hx
   go_wp2
   go_still_tail 10,k9
   go_wp2
   go_roundw
   case rel=>
    refine ⟨k + 1,by omega,by go_num,?_,(hOk.setCell (p:=⟨g,k,none⟩) (.inl s9) _).drew⟩;rw [Hz.out];exact Hnew.out.drew
   case measure=>simp [intOf];omega
  ·obtain rfl:k=b.length:=by omega
   go_wp2
   go_ret2
   refine ⟨g,cellsOf (s.drop b.length) ++ rest,V,?_,hg,hO1.trans hOk (by simp;omega)⟩;rw [Ji (by rw [Hsl.out];exact Js _),Ji<|Js _] at hBk;rw [Sl.mask,← Hs.out];exact hBk
theorem sealB_any (w:World) (A B C:Option Addr) (ca cb cc:Nat) (key nonce b:LB) (hk:key.length=32) (hn:nonce.length=16) (hb:(b.length:Int)≤65504) (hca:32≤ca) (hcb:16≤cb) (hcc:b.length≤cc) (hA:RV w A (cellsOf key)) (hB:RV w B (cellsOf nonce)) (hC:RV w C (cellsOf b)) (hgl:Gl w):
    Calls Tryz.prog 133 #[.slice A 32 ca,.slice B 16 cb,.slice C b.length cc] w fun e w'=>∃ A' c' G,e= .returned (.tuple #[.slice A' (b.length + 32) c',.int .i64 0])∧OwnS w' 5 A' c' (cellsOf<|Sl.sealB key nonce b) G∧New w G∧Only [] w w':=by
  have Hk:=Jm hk
  have Hn:=Jm hn
  clear hk hn
  go_enter Tryz.func133,Tryz.ntmps133
  go_wp2_with (first
    | (go_at_call 168;refine (zgh w A B C ca cb cc key nonce b Hk.out Hn.out hb hca hcb hcc hA hB hC hgl).mono ?_;rintro e w1 ⟨g1,r1,rfl,hM1,hg1,hO1⟩)
    | (refine zcP rfl 24 _ _ rfl 5 (.int .u8 0) 1 Tryz.underlying24 info8 rfl .i64 .i64 0 _ 0 (b.length + 32) rfl ?hc rfl rfl o9 o9 d9 ?_
       case hc=>omega
       intro w2 hown2 _ hO2
       have hM2:=hM1.keep hO2 s9
       have hP2:=hO1.trans' hO2
       have hl1:=hM1.lt
       have hnew2:New w1 (some w1.heap.size):=fun g hg=>by injection hg with hg;omega
       clear hM1)
    | (at_builtin;refine ZY rfl (.tmp 39) (.tmp 40) rfl (some ⟨w1.heap.size,0,none⟩) 0 (b.length + 32) [] (some w1.heap.size) rfl rfl hown2 B 16 cb nonce rfl Hn.out.symm (hB.keep0 hP2) (by rw [Hn.out];decide) ?_
       intro A3 c3 w3 G3 hown3 hO3 hG3
       have hnew3:=hnew2.next hO2.size hG3
       have hP3:=hP2.trans hO3 (hnew2.le hO1.size).out
       have hM3:=hM2.keep hO3 (hnew2.far hl1)
       have hs3:w1.heap.size≤w3.heap.size:=JG hO2.size hO3.size
       rw [J0] at hown3
       clear hM2 hO3 hG3)
    | (at_builtin;refine ZY rfl (.tmp 42) (.tmp 43) rfl A3 _ c3 nonce G3 rfl ?hn0 hown3 (some ⟨g1,0,none⟩) b.length b.length (Sl.mask key nonce b) rfl s9 ?hr (by simp [Hn.out];omega) ?_
       case hn0=>rw [Hn.out]
       case hr=>exact fun h0=>⟨g1,0,rfl,hM3.lt,fun j hj=>by rw [JF,hM3.cell,JB hj]⟩
       intro A4 c4 w4 G4 hown4 hO4 hG4
       have hnew4:=hnew3.next hs3 hG4
       have hP4:=hP3.trans hO4 (hnew3.le hO1.size).out
       have hs4:w1.heap.size≤w4.heap.size:=JG hs3 hO4.size
       have hc4:16 + b.length≤c4:=by simpa [Hn.out] using hown4.le
       clear hO4 hG4)
    | (go_at_call 169;refine (zdI w4 A A4 ca _ c4 key (nonce ++ Sl.mask key nonce b) Hk.out ?hn2 hca hc4 o9 (hA.keep0 hP4) hown4.reads (hgl.keep hP4 s9 s9)).mono ?_
       case hn2=>simp [Hn.out]
       rintro e w5 ⟨g5,rfl,hT5,hg5,hO5⟩
       have hown5:=hown4.keep hO5 s9
       have hP5:=hP4.trans' hO5)
    | (at_builtin;refine ZY rfl (.tmp 54) (.tmp 55) rfl A4 _ c4 (nonce ++ Sl.mask key nonce b) G4 rfl ?hn3 hown5 (some ⟨g5,0,none⟩) 16 32 (Sl.tag key<|nonce ++ Sl.mask key nonce b) rfl s9 hT5 (by simp [Hn.out];omega) ?_
       case hn3=>simp [Hn.out]
       intro A6 c6 w6 G6 hown6 hO6 hG6
       have hnew6:=hnew4.next (JG hs4 hO5.size) hG6
       have hP6:=hP5.trans hO6 (hnew4.le hO1.size).out
       clear hO6 hG6))
  go_ret2
  have e:b.length + 32=16 + b.length + 16:=by omega
  exact ⟨A6,c6,G6,by rw [e];rfl,hown6,hnew6.le hO1.size,hP6⟩
