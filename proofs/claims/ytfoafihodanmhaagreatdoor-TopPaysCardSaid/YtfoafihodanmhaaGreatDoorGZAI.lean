/- MAPS OF WHICH NO MORE IS KNOWN THAN WHICH KEYS THEY HAVE: looking up, adding, deleting. Over any program. SLICES OF MAPS, KEYS THAT ARE INTS, A KEY TH -/
import Derived.Test.YtfoafihodanmhaaGreatDoorGZAH
namespace Go.Proofs.YtfoafihodanmhaaGreatDoor
open Go.RowKit
namespace Sx
section
def Wu (M:Option Nat) {κ:Type} (enc:κ→Value) (K:List κ) (f:κ→D):Res where
 R L F w:=∃ ks:List κ,ks.Nodup∧(∀ k,k∈ks↔k∈K)∧(mapF M enc ks f).R L F w
 lt:=fun ⟨_,_,_,h⟩=>(mapF M enc _ f).lt h
 keep:=fun ⟨ks,h1,h2,h⟩ ho hS hn=>⟨ks,h1,h2,(mapF M enc ks f).keep h ho hS hn⟩
 less:=fun ⟨ks,h1,h2,h⟩ hL=>⟨ks,h1,h2,(mapF M enc ks f).less h hL⟩
def mqD {κ:Type} (enc:κ→Value) (K:List κ) (f:κ→D):D where
 R L w v:=∃ ks:List κ,ks.Nodup∧(∀ k,k∈ks↔k∈K)∧(mpD enc ks f).R L w v
 keep:=fun ⟨ks,h1,h2,h⟩ ho hS=>⟨ks,h1,h2,(mpD enc ks f).keep h ho hS⟩
 less:=fun ⟨ks,h1,h2,h⟩ hL=>⟨ks,h1,h2,(mpD enc ks f).less h hL⟩
instance {κ:Type} (enc:κ→Value) (K:List κ) (f:κ→D):One (mqD enc K f):=⟨fun _ _ _ ⟨ks,_,_,h⟩=>One.h (d:=mpD enc ks f) _ _ _ h⟩
section
variable {κ:Type}{enc:κ→Value}{P:Program}{Γ:Cx}{σ:St}{S:List Nat}{dst:Option Tmp}{ty:TypeId}{pos:String}{af:Array Edge}{gd:Option (Nat × Bool)}{d:D}{Q:Exit→Act→World→Prop}
theorem zdA {T k:Nat} (f:κ→D) (hk:yp Γ.nt k=true):Ef P Γ S ⟨some k,.makeMap T none,ty,pos,af,gd⟩ σ (fun σ'=>∃ g,σ'=(⟨σ.tm,σ.bx ++ [.r [g]<|Wu (some g) enc [] f]⟩:St).put k (isD<|.map<|some g)):=by
 intro a w hh K Q hK;have ho:Only [] w (w.alloc<|.map #[] 0):=(Only.refl [] w).alloc _;have h1:=hh.more ho (b:= .r [w.heap.size]<|Wu (some w.heap.size) enc [] f) ⟨[],List.nodup_nil,fun _=>Iff.rfl,#[],.inr ⟨w.heap.size,0,rfl,Xw w _,rfl,bn_nil 0⟩,rfl,trivial⟩ (fun g hg=>by rw [Ja.1 hg];exact Js _) (by simp [Box.fp])
 have e:(execOp a.eval ⟨some k,.makeMap T none,ty,pos,af,gd⟩).run P w= .ok (.value<|.map<|some w.heap.size) (w.alloc<|.map #[] 0):=by
  have e0:(newObj<|.map #[] 0).run P w= .ok w.heap.size (w.alloc<|.map #[] 0):=rfl;simp [execOp,Instr.makeMap,e0]
 unfold Oper.wp;rw [e];exact hK _ _ _ ⟨_,I⟩ (h1.put (by simpa [yp] using hk) I) ((Only.refl S w).alloc _)
variable [DecidableEq κ]
theorem zeu {x y:Operand} {T kt et:Nat} {M:Option Nat} {F:LN} {k:κ} {K:List κ} {f:κ→D} {dk:D} {ok:Bool} (j:Nat) (hx:σ.ev x=some (isD<|.map M)) (hj:σ.bx[j]? =some (.r F<|Wu M enc K f)) (hy:σ.ev y=some dk) (hk:Le dk (isD<|enc k)) (hT:mapT P T kt et=true) (hok:∀ ks,KeyOk P kt enc k ks) (hm:k∈K) (hS:Ap σ j S):
  Rd P Γ S ⟨dst,.lookup T x y ok,ty,pos,af,gd⟩ σ (cond ok (ZH [f k,isD<|.bool true])<|f k):=by
 intro a w hh;have hxv:a.eval x= .map M:=zR hh hx;have hyv:a.eval y=enc k:=hk _ _ _ (zR hh hy);obtain ⟨ks,_,hK,es,hma,hks,ha⟩:=hh.resAt hj;obtain ⟨i,h1,h2⟩:=idx_mem ((hK k).2 hm);obtain ⟨v,h3,h4⟩:=ha.at (show (ks.map f)[i]? =some (f k) by rw [JJ,h2];rfl)
 obtain ⟨e,he,rfl⟩:∃ e,es.toList[i]? =some e∧e.val=v:=by
  rw [JJ] at h3;obtain ⟨e,h5,h6⟩:=Jy.1 h3;exact ⟨e,h5,h6⟩
 refine ⟨if ok then .tuple #[e.val,.bool true] else e.val,?_,fun w' ho=> ?_⟩
 ·cases ok
  ·exact h4
  ·exact ⟨[_,_],I,h4,I,t9⟩
 ·simp only [execOp,hxv,hyv,JD,zeG hT (hma.keep ho<|hS.spec hh.nd hj) hks (hok ks) ok h1 he,Jv,JK]
theorem Rd.lookQN {x y:Operand} {T kt et:Nat} {M:Option Nat} {F:LN} {k:κ} {z:Value} {K:List κ} {f:κ→D} {dk:D} {ok:Bool} (j:Nat) (hx:σ.ev x=some (isD<|.map M)) (hj:σ.bx[j]? =some (.r F<|Wu M enc K f)) (hy:σ.ev y=some dk) (hk:Le dk (isD<|enc k)) (hT:mapT P T kt et=true) (hz:(P.info? et).bind (·.zero)=some z) (hok:∀ ks,KeyOk P kt enc k ks) (hm:k∉K) (hS:Ap σ j S):
  Rd P Γ S ⟨dst,.lookup T x y ok,ty,pos,af,gd⟩ σ (cond ok (ZH [isD z,isD<|.bool false])<|isD z):=by
 intro a w hh;have hxv:a.eval x= .map M:=zR hh hx;have hyv:a.eval y=enc k:=hk _ _ _ (zR hh hy);obtain ⟨ks,_,hK,es,hma,hks,ha⟩:=hh.resAt hj
 refine ⟨if ok then .tuple #[z,.bool false] else z,?_,fun w' ho=> ?_⟩
 ·cases ok
  ·rfl
  ·exact ⟨[_,_],I,I,I,t9⟩
 ·simp only [execOp,hxv,hyv,JD,zbg hT hz (hma.keep ho<|hS.spec hh.nd hj) hks (hok ks) ok<|zd3 (fun h=>hm<|(hK k).1 h),Jv,JK]
theorem za8 {x y z:Operand} {T kt et g:Nat} {F:LN} {k:κ} {K:List κ} {f:κ→D} {dk dv:D} (j:Nat) (hx:σ.ev x=some (isD<|.map<|some g)) (hj:σ.bx[j]? =some (.r F<|Wu (some g) enc K f)) (hy:σ.ev y=some dk) (hk:Le dk (isD<|enc k)) (hz:σ.ev z=some dv) (hv:Le dv (f k)) (hT:mapT P T kt et=true) (hok:∀ ks,KeyOk P kt enc k ks) (hm:k∉K) (hS:∀ g∈F,g∈S):
  Ef P Γ S ⟨none,.mapUpdate T x y z,ty,pos,af,gd⟩ σ (fun σ'=>σ'=σ.give [j] [.r F<|Wu (some g) enc (k :: K) f]):=by
 intro a w hh KK Q hK;have hxv:a.eval x= .map (some g):=zR hh hx;have hyv:a.eval y=enc k:=hk _ _ _ (zR hh hy);have hzv:(f k).R (σ.L Γ) w (a.eval z):=hv _ _ _ (zR hh hz);obtain ⟨ks,hnd,hKs,es,hma,hks,ha⟩:=hh.resAt hj;have hkn:k∉ks:=fun h=>hm ((hKs k).1 h);rcases hma with ⟨h0,_⟩ | ⟨g',ck,hg',hg,hF,hbn⟩
 ·cases h0
 ·injection hg' with hg';subst hg' hF
  have h1:(getObj g).run P w= .ok (.map es ck) w:=by simp [getObj,Sem.run,hg]
  have h2:=(hok ks).find w es.toList hks;rw [zd3 hkn] at h2;simp only [Option.bind_none] at h2
  have e:(execOp a.eval ⟨none,.mapUpdate T x y z,ty,pos,af,gd⟩).run P w= .ok .skip { w with heap:=w.heap.setIfInBounds g (.map (es.push { key:=enc k,val:=a.eval z,born:=ck })<|ck + 1) }:=by
   simp [execOp,hxv,hyv,Instr.mapUpdate,Jp<|jA hT,h1,(hok ks).chk,h2,Wh _ hg]
  unfold Oper.wp;rw [e];have ho:Only [g] w { w with heap:=w.heap.setIfInBounds g (.map (es.push { key:=enc k,val:=a.eval z,born:=ck })<|ck + 1) }:=Wr;have hlt:=(Jn.1 hg).1;have hsub:SubBx σ.bx [j] [.r [g]<|Wu (some g) enc K f]:=⟨⟨_,hj,zM _⟩,trivial⟩;have hfp:fps [Box.r [g]<|Wu (some g) enc K f]=[g]:=rfl
  obtain ⟨h3,_⟩:=hh.give (post:=[.r [g]<|Wu (some g) enc (k :: K) f]) hsub (by rw [hfp];exact ho) (fun b hb=>by
   rw [Ja.1 hb];refine ⟨ks ++ [k],?_,?_,es.push { key:=enc k,val:=a.eval z,born:=ck },.inr ⟨g,ck + 1,I,by simp [Xt,hlt],rfl,bn_push hbn rfl⟩,by simp [hks],?_⟩
   ·exact JH.2 ⟨hnd,by simp,fun x hx y hy e=>by rw [Ja.1 hy] at e;exact hkn<|e ▸ hx⟩
   ·intro q;rw [Jf,Ja,Jt,hKs q];exact Or.comm
   have hL:∀ n x,x∈fps [Box.r [g]<|Wu (some g) enc (k :: K) f] ++ (σ.L Γ).filter (· ∉fps [Box.r [g]<|Wu (some g) enc K f])→x∈σ.L Γ∨n≤x:=fun n x hx=>by
    rcases Jf.1 hx with hx | hx
    ·exact .inl (mL _<|yz.2 ⟨_,Jc hj,hx⟩)
    ·exact .inl (Jw.1 hx).1
   have h4:=((all_snoc ha hzv).keep ho (fun x hx=>by rw [Ja.1 hx];exact mL _<|yz.2 ⟨_,Jc hj,m9 rfl⟩))
   have e5:(es.push { key:=enc k,val:=a.eval z,born:=ck }).toList.map (·.val)=es.toList.map (·.val) ++ [a.eval z]:=by simp
   have e6:(ks ++ [k]).map f=ks.map f ++ [f k]:=by simp
   rw [e5,e6]
   exact h4.less<|hL _) (by simp [fps,Box.fp]) (fun g' hg'=> .inl hg')
  exact hK _ _ _ I h3 (ho.mono (fun x hx _=>hS x hx))
omit [DecidableEq κ] in
omit [DecidableEq κ] in
omit [DecidableEq κ] in
omit [DecidableEq κ] in
end
section
variable {P:Program}{Γ:Cx}{σ:St}{S:List Nat}{dst:Option Tmp}{ty:TypeId}{pos:String}{af:Array Edge}{gd:Option (Nat × Bool)}
end
def bkD (e:Nat) (xs:List Value):D where
 R L w v:=∃ g,v= .slice (some ⟨g,0,none⟩) xs.length xs.length∧g∉L∧Blk w g e xs
 keep:=fun ⟨g,hv,hg,hb⟩ ho hS=>⟨g,hv,hg,hb.keep ho (fun hm=>hg<|hS _ hm)⟩
 less:=fun ⟨g,hv,hg,hb⟩ hL=>⟨g,hv,fun hx=>by
  rcases hL g hx with h | h
  ·exact hg h
  ·have:=hb.lt;omega,hb⟩
instance (e:Nat) (xs:List Value):One (bkD e xs):=⟨fun _ _ _ ⟨_,h,_⟩=>by rw [h];rfl⟩
section
variable {P:Program}{Γ:Cx}{σ:St}{S:List Nat}{dst:Option Tmp}{ty:TypeId}{pos:String}{af:Array Edge}{gd:Option (Nat × Bool)}
end
section
variable {P:Program}{Γ:Cx}{σ:St}{S:List Nat}{dst:Option Tmp}{ty:TypeId}{pos:String}{af:Array Edge}{gd:Option (Nat × Bool)}
end
end
section
def zfF (n:Int):Value:= .int .i64 n
theorem zb9:∀ (k:Int) (ks:List Int) (es:List MapEntry) (o:Nat),es.map (·.key)=ks.map zfF→
  Instr.findNow (.int .i64) (zfF k) es o=some ((ks.idxOf? k).bind fun i=>(es[i]?).map fun e=>(o + i,e.val))
 | _,[],[],o,_=>rfl
 | _,[],_ :: _,_,h=>by simp at h
 | _,_ :: _,[],_,h=>by simp at h
 | k,a :: ks,e :: es,o,h=>by
  simp only [JU,List.cons.injEq] at h
  have hs:Instr.sameNow (.int .i64) (zfF k) e.key=some (decide (k=a)):=by
   rw [h.1];simp [Instr.sameNow,zfF]
   rfl
  simp only [Instr.findNow,hs]
  by_cases hka:k=a
  ·subst hka;simp [List.idxOf?_cons]
  ·have hb:(a == k)=false:=by simp;exact fun e=>hka e.symm
   rw [Jd hka];simp only;rw [zb9 k ks es (o + 1) h.2];simp only [List.idxOf?_cons,hb]
   cases hx:ks.idxOf? k with
   | none=>simp [hx]
   | some i=>simp [hx,J9,Nat.add_comm 1]
theorem zb5 {P:Program} {kt:TypeId} (hT:intT P kt .i64=true) (k:Int) (ks:List Int):KeyOk P kt zfF k ks:=
 ⟨fun e w=>MapKept.run_checkKey (n:=9999) (KG hT) (show MapKept.IsKey (.int .i64) (zfF k) from rfl) e,fun w es h=>by
  have h1:=MapKept.run_findKey (P:=P) (w:=w) (KG hT) (zb9 k ks es 0 h);rw [h1]
  simp,by simp [zfF,Instr.sameBits]⟩
section
variable {κ:Type}{enc:κ→Value}{P:Program}{Γ:Cx}{σ:St}{S:List Nat}{dst:Option Tmp}{ty:TypeId}{pos:String}{af:Array Edge}{gd:Option (Nat × Bool)}{d:D}{Q:Exit→Act→World→Prop}[DecidableEq κ]
end
section
variable {P:Program}{Γ:Cx}{σ:St}{S:List Nat}{dst:Option Tmp}{ty:TypeId}{pos:String}{af:Array Edge}{gd:Option (Nat × Bool)}{d:D}{Q:Exit→Act→World→Prop}
theorem Zu {x y:Operand} {T e k n:Nat} {z:Value} {li ci:Int} {α:Type} (enc:α→List D) (z0:α) (bytes:Nat) (hx:σ.ev x=some (isD<|.int .i64 li)) (hy:σ.ev y=some (isD<|.int .i64 ci)) (hT:Yb P T e=true)
  (hinfo:(P.info? e).map (fun i=>(i.zero,i.size,i.bytes))=some (some z,1,bytes)) (hzc:z.cells= #[z]) (hz:enc z0=[isD z]) (hl:li=(n:Int)) (hc:ci=(n:Int)) (hn:n≤1099511627776) (hb:bytes≤128) (hk:yp Γ.nt k=true):
  Ef P Γ S ⟨some k,.makeSlice T x y,ty,pos,af,gd⟩ σ (fun σ'=>∃ g,σ'=(⟨σ.tm,σ.bx ++ [.r [g]<|yi e 1 enc (some ⟨g,0,none⟩) n<|List.replicate n z0]⟩:St).put k (isD<|.slice (some ⟨g,0,none⟩) n n)):=by
 intro a w hh K Q hK;have hxv:a.eval x= .int .i64 li:=zR hh hx;have hyv:a.eval y= .int .i64 ci:=zR hh hy
 cases hI:P.info? e with
 | none=>rw [hI] at hinfo;cases hinfo
 | some i=>
  rw [hI] at hinfo;injection hinfo with hinfo;injection hinfo with h1 h2;injection h2 with h2 h3;have hbc:=Xx hb hn
  have hbI:(i.bytes:Int) * (n:Int)≤281474976710656:=by
   rw [h3]
   have h4:((bytes * n:Nat):Int)≤281474976710656:=by omega
   rw [Int.natCast_mul] at h4;exact h4
  have hrun:=run_make (P:=P) w T e i z (yD hT) hI h1 .i64 .i64 (n:Int) (n:Int) o9 o9 hbI o9
  have hcs:madeCells z.cells ((n:Int).toNat * i.size)=(List.replicate n z).toArray:=by
   rw [J7,h2,Nat.mul_one,hzc,← jc]
  rw [hcs] at hrun
  have hds:(List.replicate n z0).flatMap enc=(List.replicate n z).map isD:=by
   have:∀ n:Nat,(List.replicate n z0).flatMap enc=(List.replicate n z).map isD:=fun n=>by
    induction n with
    | zero=>rfl
    | succ n ih=>rw [Xc,J6,ih,hz];simp [Xc]
   exact this n
  have h5:=hh.more ((Only.refl [] w).alloc<|.cells (List.replicate n z).toArray e) (b:= .r [w.heap.size]<|yi e 1 enc (some ⟨w.heap.size,0,none⟩) n<|List.replicate n z0) ⟨List.replicate n z,by rw [hds];exact jr _,⟨by simp,.inr ⟨w.heap.size,n,_,by simp,by simp,Xw w _,by simp,by simp only [maxLen];omega,by simp,by simp⟩⟩,rfl⟩ (fun g hg=>by rw [Ja.1 hg];exact Js _) (by simp [Box.fp]);unfold Oper.wp execOp;simp only [hxv,hyv,hl,hc,JD,hrun,Jv,JK,J7];exact hK _ _ _ ⟨_,I⟩ (h5.put (by simpa [yp] using hk) I) ((Only.refl S w).alloc _)
end
def encM (M:Option Nat):List D:=[isD<|.map M]
instance:Row encM 1:=⟨fun _=>rfl,fun x=>by unfold encM;infer_instance,by decide⟩
def Kf (Rs:List Res):Res where
 R L F w:=∃ Fs:List LN,Fs.length=Rs.length∧F=Fs.flatten∧∀ (i:Nat) (R:Res) (G:LN),Rs[i]? =some R→Fs[i]? =some G→R.R L G w
 lt:=fun ⟨Fs,hl,hF,h⟩ g hg=>by
  subst hF;obtain ⟨G,hG,hgG⟩:=List.mem_flatten.1 hg;obtain ⟨i,hi,rfl⟩:=List.mem_iff_getElem.1 hG;exact (Rs[i]'o9).lt (h i _ _ (Je o9)<|Je hi) g hgG
 keep:=fun ⟨Fs,hl,hF,h⟩ ho hS hn=>⟨Fs,hl,hF,fun i R G h1 h2=>R.keep (h i R G h1 h2) ho hS fun x hx hm=>hn x hx (by subst hF;exact List.mem_flatten.2 ⟨G,Jc h2,hm⟩)⟩
 less:=fun ⟨Fs,hl,hF,h⟩ hL=>⟨Fs,hl,hF,fun i R G h1 h2=>R.less (h i R G h1 h2) hL⟩
def zeI (Rs:List Res) (i:Nat):Res:=Kf (Rs.eraseIdx i)
theorem jg {α:Type}:∀ (Fs:List (List α)) (i:Nat) (G:List α),Fs[i]? =some G→Fs.flatten.Perm (G ++ (Fs.eraseIdx i).flatten)
 | [],i,G,h=>by simp at h
 | F :: Fs,0,G,h=>by
  simp at h;subst h;simp
 | F :: Fs,i + 1,G,h=>by
  have ih:=jg Fs i G (by simpa using h);simp only [List.flatten_cons,List.eraseIdx_cons_succ];refine (ih.append_left F).trans ?_;rw [← Jq,← Jq];exact List.perm_append_comm.append_right _
theorem Wq {Rs:List Res} {F:LN} {i:Nat} {R:Res} (hi:Rs[i]? =some R):Opens [.r F<|Kf Rs] (fun post=>∃ G F',post=[.r G R,.r F'<|zeI Rs i]):=fun L w hn h=>by
 obtain ⟨Fs,hl,hF,hb⟩:=h _ (m9 rfl);rw [YS] at hb hn ⊢;subst hF;have hil:=(Jg.1 hi).1;obtain ⟨G,hG⟩:∃ G,Fs[i]? =some G:=⟨_,Je o9⟩;have hp:=jg Fs i G hG
 have e:fps [.r G R,.r (Fs.eraseIdx i).flatten<|zeI Rs i]=G ++ (Fs.eraseIdx i).flatten:=by simp [fps,Box.fp]
 have hL:∀ (n x:Nat),x∈fps [.r G R,.r (Fs.eraseIdx i).flatten<|zeI Rs i] ++ L→x∈Fs.flatten ++ L∨n≤x:=fun n x hx=> .inl (by
  rw [e] at hx;rcases Jf.1 hx with hx | hx
  ·exact mL _ (hp.mem_iff.2 hx)
  ·exact mR _ hx)
 refine ⟨_,⟨G,_,I⟩,fun b hm=> ?_,by rw [e];exact hp.nodup_iff.1 hn,fun g hg=>by rw [e] at hg;exact hp.mem_iff.2 hg⟩;rcases Jt.1 hm with rfl | hm
 ·exact R.less (hb i R G hi hG) (hL _)
 ·rw [Ja.1 hm];refine ⟨Fs.eraseIdx i,by rw [List.length_eraseIdx,List.length_eraseIdx,hl],rfl,fun n R' G' h1 h2=> ?_⟩;rw [List.getElem?_eraseIdx] at h1 h2
  by_cases hni:n < i
  ·rw [Jh hni] at h1 h2;exact R'.less (hb n R' G' h1 h2) (hL _)
  ·rw [Jb hni] at h1 h2;exact R'.less (hb (n + 1) R' G' h1 h2) (hL _)
theorem qQ {Rs:List Res} {F G:LN} {i:Nat} {R:Res} (hi:i < Rs.length):Opens [.r G R,.r F<|zeI Rs i] (fun post=>∃ F',post=[.r F'<|Kf<|Rs.set i R]):=fun L w hn h=>by
 have hR:=h _ mC;obtain ⟨Fs,hl,hF,hb⟩:=h _ (Jl _ mC)
 have e:fps [.r G R,.r F<|zeI Rs i]=G ++ F:=by simp [fps,Box.fp]
 rw [e] at hb hn hR ⊢;subst hF;rw [List.length_eraseIdx,Jh hi] at hl
 have hG:(Fs.insertIdx i G)[i]? =some G:=by rw [List.getElem?_insertIdx_self];rw [Jh o9]
 have hE:(Fs.insertIdx i G).eraseIdx i=Fs:=List.eraseIdx_insertIdx_self ..;have hp:=jg _ i G hG;rw [hE] at hp
 have hL:∀ (n x:Nat),x∈(Fs.insertIdx i G).flatten ++ L→x∈G ++ Fs.flatten ++ L∨n≤x:=fun n x hx=> .inl (by
  rcases Jf.1 hx with hx | hx
  ·exact mL _ (hp.mem_iff.1 hx)
  ·exact mR _ hx)
 refine ⟨[.r (Fs.insertIdx i G).flatten<|Kf<|Rs.set i R],⟨_,I⟩,fun b hm=> ?_,by rw [YS];exact hp.nodup_iff.2 hn,fun g hg=>by rw [YS] at hg;exact hp.mem_iff.1 hg⟩;rw [Ja.1 hm,YS];refine ⟨Fs.insertIdx i G,by rw [List.length_insertIdx,Jh o9,Xl];omega,rfl,fun n R' G' h1 h2=> ?_⟩;rw [List.getElem?_set] at h1
 by_cases hni:i=n
 ·subst hni;rw [Jh rfl,Jh hi] at h1;rw [hG] at h2;obtain rfl:=JN h1;obtain rfl:=JN h2;exact R.less hR (hL _)
 ·rw [Jb hni] at h1;refine R'.less ?_ (hL _)
  by_cases hlt:n < i
  ·rw [List.getElem?_insertIdx_of_lt hlt] at h2;exact hb n R' G' (by rw [List.getElem?_eraseIdx,Jh hlt];exact h1) h2
  ·rw [List.getElem?_insertIdx_of_gt o9] at h2;exact hb (n - 1) R' G' (by rw [List.getElem?_eraseIdx,Jb o9,show n - 1 + 1=n by omega];exact h1) h2
theorem zeM {Rs:List Res} {F G:LN} {R:Res}:Opens [.r F<|Kf Rs,.r G R] (fun post=>∃ F',post=[.r F'<|Kf<|Rs ++ [R]]):=fun L w hn h=>by
 obtain ⟨Fs,hl,hF,hb⟩:=h _ mC;have hR:=h _ (Jl _ mC)
 have e:fps [.r F<|Kf Rs,.r G R]=F ++ G:=by simp [fps,Box.fp]
 rw [e] at hb hn hR ⊢;subst hF
 have e2:(Fs ++ [G]).flatten=Fs.flatten ++ G:=by simp
 refine ⟨[.r (Fs ++ [G]).flatten<|Kf<|Rs ++ [R]],⟨_,I⟩,fun b hm=> ?_,by rw [YS,e2];exact hn,fun g hg=>by rw [YS,e2] at hg;exact hg⟩;rw [Ja.1 hm,YS,e2];refine ⟨Fs ++ [G],by simp [hl],e2.symm,fun n R' G' h1 h2=> ?_⟩
 by_cases hlt:n < Rs.length
 ·rw [JB hlt] at h1;rw [JB o9] at h2;exact hb n R' G' h1 h2
 ·rw [JR o9] at h1 h2
  have hn0:n - Rs.length=0:=by have:=(Jg.1 h1).1;simp at this;omega
  rw [hl,hn0] at h2;rw [hn0] at h1;obtain rfl:=JN h1;obtain rfl:=JN h2;exact hR
theorem zeN:Opens [] (fun post=>∃ F',post=[.r F'<|Kf []]):=fun L w _ _=>⟨[.r []<|Kf []],⟨_,rfl⟩,fun b hm=>by rw [Ja.1 hm];exact ⟨[],rfl,rfl,fun i R G h1=>by simp at h1⟩,by simp [fps,Box.fp],by simp [fps,Box.fp]⟩
end
section
def Yg (S:Nat):Option Nat→List D
 | none=>[isD<|.slice none 0 0]
 | some g=>[isD<|.slice (some ⟨g,0,none⟩) S S]
instance (S:Nat):Row (Yg S) 1:=⟨fun x=>by cases x <;> rfl,fun x=>by cases x <;> (unfold Yg;infer_instance),by decide⟩
def intV (x:Int):Value:= .int .i64 x
def qI (e:TypeId) (gs:LN) (cs:List (List Int)):Res where
 R _ F w:=F=gs∧gs.length=cs.length∧∀ (i:Nat) g l,gs[i]? =some g→cs[i]? =some l→Blk w g e (l.map intV)
 lt:=fun ⟨hF,hl,h⟩ x hx=>by
  subst hF;obtain ⟨i,hi,rfl⟩:=List.mem_iff_getElem.1 hx;exact (h i _ _ (Je hi)<|Je o9).lt
 keep:=fun ⟨hF,hl,h⟩ hO _ hn=>⟨hF,hl,fun i g l hg hc=>(h i g l hg hc).keep hO (fun hm=>hn g hm (by rw [hF];exact Jc hg))⟩
 less:=fun h _=>h
theorem zb8:∀ l:List Int,l.flatMap z7=(l.map intV).map isD
 | []=>rfl
 | x :: l=>by rw [J6,zb8 l];rfl
section
variable {P:Program}{Γ:Cx}{σ:St}{S:List Nat}{dst:Option Tmp}{ty:TypeId}{pos:String}{af:Array Edge}{gd:Option (Nat × Bool)}{d:D}{Q:Exit→Act→World→Prop}
theorem SW.famN {c:Code} (e:Nat) (h:SW P Γ ⟨σ.tm,σ.bx ++ [.r []<|qI e [] []]⟩ c Q):SW P Γ σ c Q:=fun a w hh=>h a w
 (hh.more (Only.refl [] w) (b:= .r []<|qI e [] []) ⟨rfl,rfl,fun i g l hg _=>by simp at hg⟩ (by simp [Box.fp]) (by simp [Box.fp]))
theorem Z9 {x y:Operand} {T e g n c:Nat} {kd:IntKind} {i:Int} (hx:σ.ev x=some (isD<|.slice (some ⟨g,0,none⟩) n c)) (hy:σ.ev y=some (isD<|.int kd i)) (hT:Yb P T e=true) (hs:(P.info? e).map (·.size)=some 1) (h0:0≤i) (hi:i < (n:Int)):
  Rd P Γ S ⟨dst,.indexAddr T x y,ty,pos,af,gd⟩ σ (isD<|.pointer<|some ⟨g,i.toNat,none⟩):=by
 intro a w hh;have hxv:a.eval x= .slice (some ⟨g,0,none⟩) n c:=zR hh hx;have hyv:a.eval y= .int kd i:=zR hh hy;obtain ⟨inf,hi',hsz⟩:=Jy.1 hs;refine ⟨_,I,fun w' _=> ?_⟩;simp [execOp,hxv,hyv,Instr.indexAt,Jp<|yD hT,asIntOf,sizeOf,typeInfo,hi',hsz,Addr.add,h0,hi];omega
theorem qt {x:Operand} {T e g k:Nat} {F gs:LN} {cs:List (List Int)} {l:List Int} {v:Int} (j i:Nat) (hx:σ.ev x=some (isD<|.pointer<|some ⟨g,k,none⟩)) (hj:σ.bx[j]? =some (.r F<|qI e gs cs)) (hT:jx P T=true) (hg:gs[i]? =some g) (hc:cs[i]? =some l) (hv:l[k]? =some v) (hS:Ap σ j S):
  Rd P Γ S ⟨dst,.load T x,ty,pos,af,gd⟩ σ (isD<|.int .i64 v):=by
 intro a w hh;have hxv:a.eval x= .pointer (some ⟨g,k,none⟩):=zR hh hx;obtain ⟨hF,_,h⟩:=hh.resAt hj;have hb:=h i g l hg hc;refine ⟨_,I,fun w' ho=> ?_⟩;have hb':Blk w' g e (l.map intV):=hb.keep ho (fun hm=>hS.spec hh.nd hj g hm (by show g∈F;rw [hF];exact Jc hg))
 have h3:w'.cell? ⟨g,k,none⟩=some (.int .i64 v):=by rw [hb'.cell,JJ,hv];rfl
 have h4:=ZI (P:=P) hT h3;simp only [execOp,hxv,h4,JD,Jv,JK]
theorem Vs {x y:Operand} {T e g k:Nat} {F gs:LN} {cs:List (List Int)} {l:List Int} {v:Int} (j i:Nat) (hx:σ.ev x=some (isD<|.pointer<|some ⟨g,k,none⟩)) (hj:σ.bx[j]? =some (.r F<|qI e gs cs)) (hy:σ.ev y=some (isD<|.int .i64 v)) (hT:Ke P T 1=true) (hg:gs[i]? =some g) (hc:cs[i]? =some l) (hk:k < l.length) (hS:∀ g∈F,g∈S):
  Ef P Γ S ⟨none,.store T x y,ty,pos,af,gd⟩ σ (fun σ'=>σ'=σ.give [j] [.r F<|qI e gs<|cs.set i<|l.set k v]):=by
 intro a w hh K Q hK;have hxv:a.eval x= .pointer (some ⟨g,k,none⟩):=zR hh hx;have hyd:a.eval y= .int .i64 v:=zR hh hy;obtain ⟨hF,hlen,h⟩:=hh.resAt hj;subst hF;have hb:=h i g l hg hc
 have hc':w.cell? ⟨g,k,none⟩=some (intV l[k]):=by rw [hb.cell,JJ,Je hk];rfl
 obtain ⟨inf,hi',hs⟩:=Jy.1 (show (P.info? T).map (·.size)=some 1 by unfold Ke at hT;rw [JT] at hT;exact hT)
 have h1c:(a.eval y).oneCell'=true:=by rw [hyd];rfl
 have e2:(execOp a.eval ⟨none,.store T x y,ty,pos,af,gd⟩).run P w= .ok .skip (w.setCell ⟨g,k,none⟩<|a.eval y):=by
  simp [execOp,hxv,Instr.storeAt,Instr.sureAddr,storeVar,sizeOf,typeInfo,hi',hs,Zo h1c,storeCells,run_store _ _ _ _ _ h1c,Addr.add,hc',hb.frozen]
 unfold Oper.wp;rw [e2];have ho:Only [g] w (w.setCell ⟨g,k,none⟩<|a.eval y):=(Only.refl [g] w).setCell (p:=⟨g,k,none⟩) (.inl s9) _;have hgm:g∈F:=Jc hg;have hnd:F.Nodup:=jU hh.nd (Jc hj);have hsub:SubBx σ.bx [j] [.r F<|qI e F cs]:=⟨⟨_,hj,zM _⟩,trivial⟩
 have hfp:fps [Box.r F<|qI e F cs]=F:=by simp [fps,Box.fp]
 have hoF:Only F w (w.setCell ⟨g,k,none⟩<|a.eval y):=ho.mono (by intro z hz _;rw [Ja.1 hz];exact hgm)
 obtain ⟨h3,_⟩:=hh.give (post:=[.r F<|qI e F<|cs.set i<|l.set k v]) hsub (by rw [hfp];exact hoF) (fun b hbm=>by
  rw [Ja.1 hbm];refine ⟨I,by simpa using hlen,fun i' g' l' hg' hc'=> ?_⟩
  by_cases hii:i'=i
  ·subst hii;rw [hg] at hg';obtain rfl:=JN hg';have hil:i' < cs.length:=(Jg.1 hc).1;rw [List.getElem?_set_self hil] at hc';obtain rfl:=JN hc';have:=hb.set k (a.eval y);rw [hyd] at this ⊢;rw [List.map_set];exact this
  ·rw [List.getElem?_set_ne (fun h=>hii h.symm)] at hc';refine (h i' g' l' hg' hc').keep ho (fun hm=>hii ?_);obtain ⟨q1,q2⟩:=Jg.1 hg';obtain ⟨r1,r2⟩:=Jg.1 hg
   exact (List.getElem_inj hnd).1 (by rw [q2,r2];exact Ja.1 hm)) (by rw [show fps [Box.r F<|qI e F<|cs.set i<|l.set k v]=F by simp [fps,Box.fp]];exact hnd) (fun g' hg'=> .inl (by simpa [fps,Box.fp] using hg'))
 exact hK _ _ _ I h3 (hoF.mono (fun x hx _=>hS x hx))
theorem zbY {e g n:Nat} {F gs:LN} {cs:List (List Int)} {l:List Int} (hn:n=l.length):Opens [.r F<|qI e gs cs,.r [g]<|yi e 1 z7 (some ⟨g,0,none⟩) n l] (fun q=>q=[.r (F ++ [g])<|qI e (gs ++ [g])<|cs ++ [l]]):=fun L w hnd hb=>by
 subst hn;obtain ⟨hF,hl,h⟩:=hb _ mC;subst hF;obtain ⟨xs,ha,ho,hG⟩:=hb _ (Jl _ mC)
 have hbk:Blk w g e (l.map intV):=by
  have hxs:xs=l.map intV:=by
   have hfl:l.flatMap z7=(l.map intV).map isD:=zb8 l;rw [hfl] at ha;exact WU ha
  rcases ho.2 with ⟨hv,hz⟩ | ⟨g',cap,cur,hv,_,hg,hnc,hm,hcs,htk⟩
  ·cases hv
  ·injection hv with h1 h2 h3;injection h1 with h1;injection h1 with h1;subst h1 h3
   have hcl:cur.toList=xs:=by rw [← htk,Ji (by simp [hcs])]
   unfold Blk;rw [hg,← hxs,← hcl]
 have hnd':(F ++ [g]).Nodup:=by
  have:fps [Box.r F<|qI e F cs,.r [g]<|yi e 1 z7 (some ⟨g,0,none⟩) l.length l]=F ++ [g]:=by simp [fps,Box.fp]
  rwa [this] at hnd
 refine ⟨_,I,fun b hbm=> ?_,by rw [YS];exact hnd',fun x hx=>by rw [YS] at hx;simpa [fps,Box.fp] using hx⟩;rw [Ja.1 hbm];refine ⟨I,by simp [hl],fun i g' l' hg' hc'=> ?_⟩
 by_cases hi:i < F.length
 ·rw [JB hi] at hg';rw [JB o9] at hc';exact h i g' l' hg' hc'
 ·rw [JR o9] at hg';rw [JR o9] at hc';rw [hl] at hg'
  cases hk:i - cs.length with
  | zero=>
   rw [hk] at hg' hc';obtain rfl:=JN hg';obtain rfl:=JN hc';exact hbk
  | succ k=>rw [hk] at hg';simp at hg'
end
end
section
theorem zd5 {α:Type} {enc:α→List D} {z:List Value} {z0:α} (hz:enc z0=z.map isD):∀ n:Nat,(List.replicate n z0).flatMap enc=((List.replicate n z).flatten).map isD
 | 0=>rfl
 | n + 1=>by rw [Xc,J6,zd5 hz n,hz,Xc,List.flatten_cons,XG]
theorem rep_get {z:List Value} (h0:0 < z.length):∀ (n k:Nat),k < n * z.length→((List.replicate n z).flatten)[k]? =z[k % z.length]?
 | 0,k,h=>by omega
 | n + 1,k,h=>by
  rw [Xc,List.flatten_cons]
  by_cases hk:k < z.length
  ·rw [JB hk,Nat.mod_eq_of_lt hk]
  ·rw [JR o9,rep_get h0 n (k - z.length) (by rw [Nat.succ_mul] at h;omega),← Nat.mod_eq_sub_mod o9]
theorem Wk {z:List Value}:∀ n:Nat,((List.replicate n z).flatten).length=n * z.length
 | 0=>by simp
 | n + 1=>by rw [Xc,List.flatten_cons,Jk,Wk n,Nat.succ_mul];omega
theorem made_rep {z:Array Value} {n:Nat} (h0:0 < z.size):(madeCells z<|n * z.size).toList=(List.replicate n z.toList).flatten:=by
 apply Xh;intro k
 by_cases hk:k < n * z.size
 ·rw [rep_get (by simpa using h0) n k (by simpa using hk)];have hm:k % z.size < z.size:=Nat.mod_lt _ h0;simp [madeCells,hk,hm]
 ·rw [JM (by simp [madeCells];omega),JM (by rw [Wk];simp;omega)]
theorem zcN {α:Type} {X es:List α} {p N:Nat} (h:p + es.length≤N) (hN:N≤X.length):(X.take p ++ (es ++ X.drop (p + es.length))).take N=(X.take N).take p ++ (es ++ (X.take N).drop (p + es.length)):=by
 rw [List.take_append,List.take_append,List.take_take,List.take_take,List.drop_take,JE,XA (show p≤X.length by omega),Nat.min_eq_right (show p≤N by omega),XA (show p≤N by omega),Ji (show es.length≤N - p by omega),Nat.sub_sub]
section
variable {P:Program}{Γ:Cx}{σ:St}{S:List Nat}{dst:Option Tmp}{ty:TypeId}{pos:String}{af:Array Edge}{gd:Option (Nat × Bool)}{d:D}{Q:Exit→Act→World→Prop}
theorem V9 {x y:Operand} {T e k n:Nat} {z:Value} {li ci:Int} {α:Type} (enc:α→List D) (z0:α) (sz bytes:Nat) (hx:σ.ev x=some (isD<|.int .i64 li)) (hy:σ.ev y=some (isD<|.int .i64 ci)) (hT:Yb P T e=true)
  (hinfo:(P.info? e).map (fun i=>(i.zero,i.size,i.bytes))=some (some z,sz,bytes)) (hzc:z.cells.size=sz) (h0:0 < sz) (hz:enc z0=z.cells.toList.map isD) (hl:li=(n:Int)) (hc:ci=(n:Int)) (hn:n≤1099511627776) (hb:bytes≤128) (hk:yp Γ.nt k=true):
  Ef P Γ S ⟨some k,.makeSlice T x y,ty,pos,af,gd⟩ σ (fun σ'=>∃ g,σ'=(⟨σ.tm,σ.bx ++ [.r [g]<|yi e sz enc (some ⟨g,0,none⟩) n<|List.replicate n z0]⟩:St).put k (isD<|.slice (some ⟨g,0,none⟩) n n)):=by
 intro a w hh K Q hK;have hxv:a.eval x= .int .i64 li:=zR hh hx;have hyv:a.eval y= .int .i64 ci:=zR hh hy
 cases hI:P.info? e with
 | none=>rw [hI] at hinfo;cases hinfo
 | some i=>
  rw [hI] at hinfo;injection hinfo with hinfo;injection hinfo with h1 h2;injection h2 with h2 h3;have hbc:=Xx hb hn
  have hbI:(i.bytes:Int) * (n:Int)≤281474976710656:=by
   rw [h3]
   have h4:((bytes * n:Nat):Int)≤281474976710656:=by omega
   rw [Int.natCast_mul] at h4;exact h4
  have hrun:=run_make (P:=P) w T e i z (yD hT) hI h1 .i64 .i64 (n:Int) (n:Int) o9 o9 hbI o9
  have hcs:madeCells z.cells ((n:Int).toNat * i.size)=((List.replicate n z.cells.toList).flatten).toArray:=by
   have:=made_rep (z:=z.cells) (n:=n) o9;rw [J7,h2,← hzc,← this]
  rw [hcs] at hrun
  have hzl:z.cells.toList.length=sz:=by simpa using hzc
  have h5:=hh.more ((Only.refl [] w).alloc<|.cells ((List.replicate n z.cells.toList).flatten).toArray e) (b:= .r [w.heap.size]<|yi e sz enc (some ⟨w.heap.size,0,none⟩) n<|List.replicate n z0) ⟨(List.replicate n z.cells.toList).flatten,by rw [zd5 hz];exact jr _,⟨by rw [Wk,hzl];simp,.inr ⟨w.heap.size,n,_,by simp,by simp,Xw w _,by simp,by simp only [maxLen];omega,by simp only [List.size_toArray];rw [Wk,hzl],by rw [List.toList_toArray,Ji (by rw [Wk,hzl];simp)]⟩⟩,rfl⟩ (fun g hg=>by rw [Ja.1 hg];exact Js _) (by simp [Box.fp]);unfold Oper.wp execOp;simp only [hxv,hyv,hl,hc,JD,hrun,Jv,JK,J7];exact hK _ _ _ ⟨_,I⟩ (h5.put (by simpa [yp] using hk) I) ((Only.refl S w).alloc _)
theorem zap {a:Act} {w w':World} {F:LN} {e sz n c p g:Nat} {ds es:List D} {es':List Value} (hh:Holds Γ σ a w) (j:Nat) (hj:σ.bx[j]? =some (.r F<|VS e sz (some ⟨g,0,none⟩) n c ds)) (hfit:p + es.length≤ds.length) (h0:0 < n) (hae:All (σ.L Γ) w es es') (hw:∀ cs:List Value,Blk w g e cs→p + es'.length≤cs.length→Blk w' g e (cs.take p ++ (es' ++ cs.drop (p + es'.length)))) (ho:Only [g] w w'):
  Holds Γ (σ.give [j] [.r F<|VS e sz (some ⟨g,0,none⟩) n c<|Yy ds p es]) a w'∧F=[g]:=by
 obtain ⟨g',cur,xs,hA,rfl,hg,hnc,hm,hcs,htk,hxl,ha⟩:=YX (hh.resAt hj) h0;injection hA with hA;injection hA with hA;subst hA;refine ⟨?_,I⟩;have h1:=ha.length;have h2:=hae.length
 have hle:n * sz≤cur.size:=by rw [hcs];exact Nat.mul_le_mul_right _ hnc
 have hb:Blk w g e cur.toList:=by unfold Blk;rw [hg]
 have h4:=hw cur.toList hb (by simp;omega);have hsub:SubBx σ.bx [j] [.r [g]<|VS e sz (some ⟨g,0,none⟩) n c ds]:=⟨⟨_,hj,zM _⟩,trivial⟩;have hfp:fps [Box.r [g]<|VS e sz (some ⟨g,0,none⟩) n c ds]=[g]:=rfl
 obtain ⟨h3,_⟩:=hh.give (post:=[.r [g]<|VS e sz (some ⟨g,0,none⟩) n c<|Yy ds p es]) hsub (by rw [hfp];exact ho) (fun b hbm=>by
  rw [Ja.1 hbm];refine ⟨xs.take p ++ (es' ++ xs.drop (p + es'.length)),?_,⟨?_,.inr ⟨g,c,_,by simp,JC _,h4,hnc,hm,?_,?_⟩⟩,by simp [Value.ownBlock]⟩
  ·have hall:All (σ.L Γ) w (Yy ds p es) (xs.take p ++ (es' ++ xs.drop (p + es'.length))):=by
    unfold Yy;rw [← h2];exact (ha.take p).append (hae.append<|ha.drop _)
   refine (hall.keep ho (fun x hx=> ?_)).less (fun x hx=> ?_)
   ·rw [Ja.1 hx];exact mL _ (yz.2 ⟨_,Jc hj,m9 I⟩)
   ·rcases Jf.1 hx with hx | hx
    ·exact .inl (mL _<|yz.2 ⟨_,Jc hj,hx⟩)
    ·exact .inl (Jw.1 hx).1
  ·simp only [Jk,JE,JA];omega
  ·have:=Array.length_toList (xs:=cur);simp only [List.size_toArray,Jk,JE,JA];omega
  ·have hl:=Array.length_toList (xs:=cur);rw [← htk]
   exact zcN o9 o9) (by simp [fps,Box.fp]) (fun g' hg'=> .inl hg')
 exact h3
theorem Kh {α:Type} {enc:α→List D} {sz:Nat} [Row enc sz] {v':α} {k:Nat} {es:List D}:∀ (l:List α) (i:Nat) (v:α),l[i]? =some v→k + es.length≤sz→enc v'=Yy (enc v) k es→(l.set i v').flatMap enc=Yy (l.flatMap enc) (i * sz + k) es
 | [],i,v,h,_,_=>by simp at h
 | x :: l,0,v,h,hk,he=>by
  obtain rfl:=JN h;have hl:=Row.len (enc:=enc) (sz:=sz) x;rw [List.set_cons_zero,J6,J6,he,Nat.zero_mul,JF];unfold Yy;rw [JQ o9,J3 o9];simp only [Jq]
 | x :: l,i + 1,v,h,hk,he=>by
  have ih:=Kh l i v h hk he;have hl:=Row.len (enc:=enc) (sz:=sz) x;rw [List.set_cons_succ,J6,J6,ih];unfold Yy
  have e1:(i + 1) * sz + k=(enc x).length + (i * sz + k):=by rw [hl,Nat.succ_mul];omega
  rw [e1,List.take_length_add_append,Jq];congr 3;rw [List.drop_append,JZ (show (enc x).length≤(enc x).length + (i * sz + k) + es.length by omega),J0,show (enc x).length + (i * sz + k) + es.length - (enc x).length=i * sz + k + es.length by omega]
theorem KY {x y:Operand} {T e c i:Nat} {A:Option Addr} {F:LN} {α:Type} {enc:α→List D} {l:List α} {v:α} (j sz:Nat) [Row enc sz] (hx:σ.ev x=some (isD<|elP A<|i * sz)) (hj:σ.bx[j]? =some (.r F<|yi e sz enc A c l)) (hy:σ.ev y=some (Z8<|enc v)) (hT:Ke P T sz=true) (hi:i < l.length) (hS:∀ g∈F,g∈S):
  Ef P Γ S ⟨none,.store T x y,ty,pos,af,gd⟩ σ (fun σ'=>σ'=σ.give [j] [.r F<|yi e sz enc A c<|l.set i v]):=by
 intro a w hh K Q hK;have hxv:a.eval x=elP A (i * sz):=zR hh hx;obtain ⟨es',hyv,hae⟩:=zR hh hy;have hl:=Row.len (enc:=enc) (sz:=sz);have h2:=hae.length;rw [hl v] at h2;obtain ⟨g,cur,xs,rfl,hF,hg,hnc,hm,hcs,htk,hxl,ha⟩:=YX (hh.resAt hj) o9
 have hb:Blk w g e cur.toList:=by unfold Blk;rw [hg]
 have hle:i * sz + sz≤cur.size:=by
  rw [hcs,← Nat.succ_mul];exact Nat.mul_le_mul_right _ o9
 obtain ⟨h4,h5⟩:=Yk es' (i * sz) cur.toList w hb (by simp;omega)
 have hth:w.there g (i * sz) es'.toArray.size:=fun q hq=>by
  have hq':q < es'.length:=by simpa using hq
  refine ⟨?_,hb.frozen _⟩;rw [hb.cell,Je (by simp;omega)]
  rfl
 have hsz:(P.info? T).map (·.size)=some es'.toArray.size:=by
  unfold Ke at hT;rw [JT] at hT;rw [hT];simp [h2]
 have hone:Ones (enc v):=Row.ones (enc:=enc) (sz:=sz) v
 have e2:(execOp a.eval ⟨none,.store T x y,ty,pos,af,gd⟩).run P w= .ok .skip (w.setCells g (i * sz) es'):=by
  have h6:=run_storeAt_mid (P:=P) w g (i * sz) T es'.toArray hth hsz (by
   rw [Array.all_eq_true_iff_forall_mem]
   exact fun u hu=>Ones.h (ds:=enc v) _ _ _ hae u (by simpa using hu))
  simp [execOp,hxv,hyv,elP,Addr.add,h6]
 unfold Oper.wp;rw [e2]
 have hset:=Kh (enc:=enc) (sz:=sz) (v':=v) (k:=0) (es:=enc v) l i l[i] (Je hi) (by rw [hl];omega) (by
  unfold Yy
  rw [XD,J0,JZ (by rw [hl,hl];omega),JS])
 rw [Nat.add_zero] at hset;have hfl:=jh (enc:=enc) (sz:=sz) l
 obtain ⟨h3,hF2⟩:=zap (p:=i * sz) (es:=enc v) (es':=es') hh j hj (by
  rw [hfl,hl,← Nat.succ_mul];exact Nat.mul_le_mul_right _ hi) o9 hae (fun cs hcb hcl=>(Yk es' (i * sz) cs w hcb hcl).1) h5
 subst hF2;refine hK _ _ _ ?_ h3 (h5.mono (fun x hx _=>hS x hx));unfold yi;rw [hset,Xl]
theorem Vr {x y:Operand} {T e c i k:Nat} {A:Option Addr} {F:LN} {α:Type} {enc:α→List D} {l:List α} {v v':α} (j sz:Nat) [Row enc sz] [One d] (hx:σ.ev x=some (isD<|elP A<|i * sz + k)) (hj:σ.bx[j]? =some (.r F<|yi e sz enc A c l)) (hy:σ.ev y=some d) (hT:Ke P T 1=true) (hv:l[i]? =some v) (hk:k < sz) (hv':enc v'=(enc v).set k d) (hS:∀ g∈F,g∈S):
  Ef P Γ S ⟨none,.store T x y,ty,pos,af,gd⟩ σ (fun σ'=>σ'=σ.give [j] [.r F<|yi e sz enc A c<|l.set i v']):=by
 intro a w hh K Q hK;have hi:=(Jg.1 hv).1;have hxv:a.eval x=elP A (i * sz + k):=zR hh hx;have hyd:=zR hh hy;have h1c:=One.h (d:=d) _ _ _ hyd;have hl:=Row.len (enc:=enc) (sz:=sz);obtain ⟨g,cur,xs,rfl,hF,hg,hnc,hm,hcs,htk,hxl,ha⟩:=YX (hh.resAt hj) o9
 have hb:Blk w g e cur.toList:=by unfold Blk;rw [hg]
 have hle:i * sz + sz≤cur.size:=by
  rw [hcs,← Nat.succ_mul];exact Nat.mul_le_mul_right _ o9
 have hc':w.cell? ⟨g,i * sz + k,none⟩=some (cur.toList[i * sz + k]'(by simp;omega)):=by rw [hb.cell,Je (by simp;omega)]
 obtain ⟨inf,hi',hs⟩:=Jy.1 (show (P.info? T).map (·.size)=some 1 by unfold Ke at hT;rw [JT] at hT;exact hT)
 have e2:(execOp a.eval ⟨none,.store T x y,ty,pos,af,gd⟩).run P w= .ok .skip (w.setCell ⟨g,i * sz + k,none⟩<|a.eval y):=by
  simp only [execOp,hxv,elP,Option.map_some,JF];simp [Instr.storeAt,Instr.sureAddr,storeVar,sizeOf,typeInfo,hi',hs,Zo h1c,storeCells,run_store _ _ _ _ _ h1c,Addr.add,hc',hb.frozen]
 unfold Oper.wp;rw [e2];have ho:Only [g] w (w.setCell ⟨g,i * sz + k,none⟩<|a.eval y):=(Only.refl [g] w).setCell (p:=⟨g,i * sz + k,none⟩) (.inl s9) _
 have hset:=Kh (enc:=enc) (sz:=sz) (v':=v') (k:=k) (es:=[d]) l i v hv (by simp;omega) (by
  rw [hv'];unfold Yy;rw [List.set_eq_take_append_cons_drop,Jh (by rw [hl];exact hk)]
  rfl)
 have hfl:=jh (enc:=enc) (sz:=sz) l
 obtain ⟨h3,hF2⟩:=zap (p:=i * sz + k) (es:=[d]) (es':=[a.eval y]) hh j hj (by
  rw [hfl];have:(i + 1) * sz≤l.length * sz:=Nat.mul_le_mul_right _ hi;rw [Nat.succ_mul] at this
  simp only [Xq];omega) o9 ⟨hyd,trivial⟩ (fun cs hcb hcl=>by
   have h6:=hcb.set (i * sz + k) (a.eval y);rw [List.set_eq_take_append_cons_drop,Jh (by simp only [Xq] at hcl;omega)] at h6
   exact h6) ho
 subst hF2;refine hK _ _ _ ?_ h3 (ho.mono (fun x hx _=>hS x hx));unfold yi;rw [hset,Xl]
theorem Rd.idxTA {x y:Operand} {T e p n g:Nat} {kd:IntKind} {k:Int} (hx:σ.ev x=some (isD<|elP (some ⟨g,0,none⟩) p)) (hy:σ.ev y=some (isD<|.int kd k)) (hT:arrT P T e n=true) (hs:(P.info? e).map (·.size)=some 1) (h0:0≤k) (hk:k < (n:Int)):
  Rd P Γ S ⟨dst,.indexAddr T x y,ty,pos,af,gd⟩ σ (isD<|elP (some ⟨g,0,none⟩)<|p + k.toNat):=by
 intro a w hh;have hxv:a.eval x=elP (some ⟨g,0,none⟩) p:=zR hh hx;have hyv:a.eval y= .int kd k:=zR hh hy;obtain ⟨inf,hi',hsz⟩:=Jy.1 hs;refine ⟨_,I,fun w' _=> ?_⟩;simp [execOp,hxv,hyv,elP,Instr.indexAt,Jp<|qR hT,Instr.sureAddr,asIntOf,sizeOf,typeInfo,hi',hsz,Addr.add,h0,hk]
theorem zev {x y:Operand} {T e n:Nat} {ds:List D} {kd:IntKind} {k:Int} (hx:σ.ev x=some (paD ds)) (hy:σ.ev y=some (isD<|.int kd k)) (hT:arrT P T e n=true) (hs:(P.info? e).map (·.size)=some 1) (h0:0≤k) (hk:k < (n:Int)) (hl:k.toNat < ds.length):
  Rd P Γ S ⟨dst,.indexAddr T x y,ty,pos,af,gd⟩ σ (paD<|ds.drop k.toNat):=by
 intro a w hh;obtain ⟨p,hv,ha⟩:=zR hh hx;obtain ⟨g,o,e',hg,hn,cs,h1,h2⟩:=ha o9;injection e' with e';subst e';have hyv:a.eval y= .int kd k:=zR hh hy;obtain ⟨inf,hi',hsz⟩:=Jy.1 hs;refine ⟨.pointer<|some ⟨g,o + k.toNat,none⟩,⟨_,I,At.drop _ ha⟩,fun w' _=> ?_⟩;simp [execOp,hv,hyv,Instr.indexAt,Jp<|qR hT,Instr.sureAddr,asIntOf,sizeOf,typeInfo,hi',hsz,Addr.add,h0,hk]
theorem zfD {x y:Operand} {xT yT:TypeId} {k:IntKind} {p q r:Int} (hx:σ.ev x=some (isD<|.int k p)) (hy:σ.ev y=some (isD<|.int k q)) (h:bits .andNot k p q=r):Rd P Γ S ⟨dst,.binOp .andNot xT x y yT,ty,pos,af,gd⟩ σ (isD<|.int k r):=Yo hx hy fun _=>by
 subst h;simp [eqGuard,binOp,go_sem]
