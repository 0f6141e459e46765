/- MAPS OF WHICH NO MORE IS KNOWN THAN WHICH KEYS THEY HAVE: looking up, adding, deleting. Over any program. SLICES OF MAPS, KEYS THAT ARE INTS, A KEY TH -/
import Derived.Test.YtmflnfnebmbjkaaGreatGZAG
namespace Go.Proofs.YtmflnfnebmbjkaaGreat
open Go.RowKit
namespace Sx
section
def mqD {κ:Type} (enc:κ→Value) (K:List κ) (f:κ→D):D where
 R L w v:=∃ ks:List κ,ks.Nodup∧(∀ k,k∈ks↔k∈K)∧(mpD enc ks f).R L w v
 keep:=fun ⟨ks,h1,h2,h⟩ ho hS=>⟨ks,h1,h2,(mpD enc ks f).keep h ho hS⟩
 less:=fun ⟨ks,h1,h2,h⟩ hL=>⟨ks,h1,h2,(mpD enc ks f).less h hL⟩
instance {κ:Type} (enc:κ→Value) (K:List κ) (f:κ→D):One (mqD enc K f):=⟨fun _ _ _ ⟨ks,_,_,h⟩=>One.h (d:=mpD enc ks f) _ _ _ h⟩
section
variable {κ:Type}{enc:κ→Value}{P:Program}{Γ:Cx}{σ:St}{S:List Nat}{dst:Option Tmp}{ty:TypeId}{pos:String}{af:Array Edge}{gd:Option (Nat × Bool)}{d:D}{Q:Exit→Act→World→Prop}
variable [DecidableEq κ]
omit [DecidableEq κ] in
omit [DecidableEq κ] in
omit [DecidableEq κ] in
omit [DecidableEq κ] in
end
section
variable {P:Program}{Γ:Cx}{σ:St}{S:List Nat}{dst:Option Tmp}{ty:TypeId}{pos:String}{af:Array Edge}{gd:Option (Nat × Bool)}
end
def bkD (e:Nat) (xs:List Value):D where
 R L w v:=∃ g,v= .slice (some ⟨g,0,none⟩) xs.length xs.length∧g∉L∧Blk w g e xs
 keep:=fun ⟨g,hv,hg,hb⟩ ho hS=>⟨g,hv,hg,hb.keep ho (fun hm=>hg<|hS _ hm)⟩
 less:=fun ⟨g,hv,hg,hb⟩ hL=>⟨g,hv,fun hx=>by
  rcases hL g hx with h | h
  ·exact hg h
  ·have:=hb.lt;omega,hb⟩
instance (e:Nat) (xs:List Value):One (bkD e xs):=⟨fun _ _ _ ⟨_,h,_⟩=>by rw [h];rfl⟩
section
variable {P:Program}{Γ:Cx}{σ:St}{S:List Nat}{dst:Option Tmp}{ty:TypeId}{pos:String}{af:Array Edge}{gd:Option (Nat × Bool)}
end
section
variable {P:Program}{Γ:Cx}{σ:St}{S:List Nat}{dst:Option Tmp}{ty:TypeId}{pos:String}{af:Array Edge}{gd:Option (Nat × Bool)}
end
end
section
section
variable {κ:Type}{enc:κ→Value}{P:Program}{Γ:Cx}{σ:St}{S:List Nat}{dst:Option Tmp}{ty:TypeId}{pos:String}{af:Array Edge}{gd:Option (Nat × Bool)}{d:D}{Q:Exit→Act→World→Prop}[DecidableEq κ]
end
section
variable {P:Program}{Γ:Cx}{σ:St}{S:List Nat}{dst:Option Tmp}{ty:TypeId}{pos:String}{af:Array Edge}{gd:Option (Nat × Bool)}{d:D}{Q:Exit→Act→World→Prop}
theorem y8 {x y:Operand} {T e k n:Nat} {z:Value} {li ci:Int} {α:Type} (enc:α→List D) (z0:α) (bytes:Nat) (hx:σ.ev x=some (isD<|.int .i64 li)) (hy:σ.ev y=some (isD<|.int .i64 ci)) (hT:ZE P T e=true)
  (hinfo:(P.info? e).map (fun i=>(i.zero,i.size,i.bytes))=some (some z,1,bytes)) (hzc:z.cells= #[z]) (hz:enc z0=[isD z]) (hl:li=(n:Int)) (hc:ci=(n:Int)) (hn:n≤1099511627776) (hb:bytes≤128) (hk:yi Γ.nt k=true):
  Ef P Γ S ⟨some k,.makeSlice T x y,ty,pos,af,gd⟩ σ (fun σ'=>∃ g,σ'=(⟨σ.tm,σ.bx ++ [.r [g]<|yq e 1 enc (some ⟨g,0,none⟩) n<|List.replicate n z0]⟩:St).put k (isD<|.slice (some ⟨g,0,none⟩) n n)):=by
 intro a w hh K Q hK;have hxv:a.eval x= .int .i64 li:=zP hh hx;have hyv:a.eval y= .int .i64 ci:=zP hh hy
 cases hI:P.info? e with
 | none=>rw [hI] at hinfo;cases hinfo
 | some i=>
  rw [hI] at hinfo;injection hinfo with hinfo;injection hinfo with h1 h2;injection h2 with h2 h3;have hbc:=Xx hb hn
  have hbI:(i.bytes:Int) * (n:Int)≤281474976710656:=by
   rw [h3]
   have h4:((bytes * n:Nat):Int)≤281474976710656:=by omega
   rw [Int.natCast_mul] at h4;exact h4
  have hrun:=run_make (P:=P) w T e i z (ym hT) hI h1 .i64 .i64 (n:Int) (n:Int) o9 o9 hbI o9
  have hcs:madeCells z.cells ((n:Int).toNat * i.size)=(List.replicate n z).toArray:=by
   rw [J7,h2,Nat.mul_one,hzc,← YR]
  rw [hcs] at hrun
  have hds:(List.replicate n z0).flatMap enc=(List.replicate n z).map isD:=by
   have:∀ n:Nat,(List.replicate n z0).flatMap enc=(List.replicate n z).map isD:=fun n=>by
    induction n with
    | zero=>rfl
    | succ n ih=>rw [Xc,J6,ih,hz];simp [Xc]
   exact this n
  have h5:=hh.more ((Only.refl [] w).alloc<|.cells (List.replicate n z).toArray e) (b:= .r [w.heap.size]<|yq e 1 enc (some ⟨w.heap.size,0,none⟩) n<|List.replicate n z0) ⟨List.replicate n z,by rw [hds];exact jO _,⟨by simp,.inr ⟨w.heap.size,n,_,by simp,by simp,Xw w _,by simp,by simp only [maxLen];omega,by simp,by simp⟩⟩,rfl⟩ (fun g hg=>by rw [Ja.1 hg];exact Js _) (by simp [Box.fp]);unfold Oper.wp execOp;simp only [hxv,hyv,hl,hc,JD,hrun,Jv,JK,J7];exact hK _ _ _ ⟨_,I⟩ (h5.put (by simpa [yi] using hk) I) ((Only.refl S w).alloc _)
end
def encM (M:Option Nat):List D:=[isD<|.map M]
instance:Row encM 1:=⟨fun _=>rfl,fun x=>by unfold encM;infer_instance,by decide⟩
end
section
def Zv (S:Nat):Option Nat→List D
 | none=>[isD<|.slice none 0 0]
 | some g=>[isD<|.slice (some ⟨g,0,none⟩) S S]
instance (S:Nat):Row (Zv S) 1:=⟨fun x=>by cases x <;> rfl,fun x=>by cases x <;> (unfold Zv;infer_instance),by decide⟩
def intV (x:Int):Value:= .int .i64 x
def YE (e:TypeId) (gs:LN) (cs:List (List Int)):Res where
 R _ F w:=F=gs∧gs.length=cs.length∧∀ (i:Nat) g l,gs[i]? =some g→cs[i]? =some l→Blk w g e (l.map intV)
 lt:=fun ⟨hF,hl,h⟩ x hx=>by
  subst hF;obtain ⟨i,hi,rfl⟩:=List.mem_iff_getElem.1 hx;exact (h i _ _ (Je hi)<|Je o9).lt
 keep:=fun ⟨hF,hl,h⟩ hO _ hn=>⟨hF,hl,fun i g l hg hc=>(h i g l hg hc).keep hO (fun hm=>hn g hm (by rw [hF];exact Jc hg))⟩
 less:=fun h _=>h
theorem Ws:∀ l:List Int,l.flatMap z2=(l.map intV).map isD
 | []=>rfl
 | x :: l=>by rw [J6,Ws l];rfl
section
variable {P:Program}{Γ:Cx}{σ:St}{S:List Nat}{dst:Option Tmp}{ty:TypeId}{pos:String}{af:Array Edge}{gd:Option (Nat × Bool)}{d:D}{Q:Exit→Act→World→Prop}
theorem SW.famN {c:Code} (e:Nat) (h:SW P Γ ⟨σ.tm,σ.bx ++ [.r []<|YE e [] []]⟩ c Q):SW P Γ σ c Q:=fun a w hh=>h a w
 (hh.more (Only.refl [] w) (b:= .r []<|YE e [] []) ⟨rfl,rfl,fun i g l hg _=>by simp at hg⟩ (by simp [Box.fp]) (by simp [Box.fp]))
theorem Zy {x y:Operand} {T e g n c:Nat} {kd:IntKind} {i:Int} (hx:σ.ev x=some (isD<|.slice (some ⟨g,0,none⟩) n c)) (hy:σ.ev y=some (isD<|.int kd i)) (hT:ZE P T e=true) (hs:(P.info? e).map (·.size)=some 1) (h0:0≤i) (hi:i < (n:Int)):
  Rd P Γ S ⟨dst,.indexAddr T x y,ty,pos,af,gd⟩ σ (isD<|.pointer<|some ⟨g,i.toNat,none⟩):=by
 intro a w hh;have hxv:a.eval x= .slice (some ⟨g,0,none⟩) n c:=zP hh hx;have hyv:a.eval y= .int kd i:=zP hh hy;obtain ⟨inf,hi',hsz⟩:=Jy.1 hs;refine ⟨_,I,fun w' _=> ?_⟩;simp [execOp,hxv,hyv,Instr.indexAt,Jp<|ym hT,asIntOf,sizeOf,typeInfo,hi',hsz,Addr.add,h0,hi];omega
theorem Yn {x:Operand} {T e g k:Nat} {F gs:LN} {cs:List (List Int)} {l:List Int} {v:Int} (j i:Nat) (hx:σ.ev x=some (isD<|.pointer<|some ⟨g,k,none⟩)) (hj:σ.bx[j]? =some (.r F<|YE e gs cs)) (hT:qo P T=true) (hg:gs[i]? =some g) (hc:cs[i]? =some l) (hv:l[k]? =some v) (hS:Ap σ j S):
  Rd P Γ S ⟨dst,.load T x,ty,pos,af,gd⟩ σ (isD<|.int .i64 v):=by
 intro a w hh;have hxv:a.eval x= .pointer (some ⟨g,k,none⟩):=zP hh hx;obtain ⟨hF,_,h⟩:=hh.resAt hj;have hb:=h i g l hg hc;refine ⟨_,I,fun w' ho=> ?_⟩;have hb':Blk w' g e (l.map intV):=hb.keep ho (fun hm=>hS.spec hh.nd hj g hm (by show g∈F;rw [hF];exact Jc hg))
 have h3:w'.cell? ⟨g,k,none⟩=some (.int .i64 v):=by rw [hb'.cell,JJ,hv];rfl
 have h4:=Zm (P:=P) hT h3;simp only [execOp,hxv,h4,JD,Jv,JK]
theorem jF {x y:Operand} {T e g k:Nat} {F gs:LN} {cs:List (List Int)} {l:List Int} {v:Int} (j i:Nat) (hx:σ.ev x=some (isD<|.pointer<|some ⟨g,k,none⟩)) (hj:σ.bx[j]? =some (.r F<|YE e gs cs)) (hy:σ.ev y=some (isD<|.int .i64 v)) (hT:jo P T 1=true) (hg:gs[i]? =some g) (hc:cs[i]? =some l) (hk:k < l.length) (hS:∀ g∈F,g∈S):
  Ef P Γ S ⟨none,.store T x y,ty,pos,af,gd⟩ σ (fun σ'=>σ'=σ.give [j] [.r F<|YE e gs<|cs.set i<|l.set k v]):=by
 intro a w hh K Q hK;have hxv:a.eval x= .pointer (some ⟨g,k,none⟩):=zP hh hx;have hyd:a.eval y= .int .i64 v:=zP hh hy;obtain ⟨hF,hlen,h⟩:=hh.resAt hj;subst hF;have hb:=h i g l hg hc
 have hc':w.cell? ⟨g,k,none⟩=some (intV l[k]):=by rw [hb.cell,JJ,Je hk];rfl
 obtain ⟨inf,hi',hs⟩:=Jy.1 (show (P.info? T).map (·.size)=some 1 by unfold jo at hT;rw [JT] at hT;exact hT)
 have h1c:(a.eval y).oneCell'=true:=by rw [hyd];rfl
 have e2:(execOp a.eval ⟨none,.store T x y,ty,pos,af,gd⟩).run P w= .ok .skip (w.setCell ⟨g,k,none⟩<|a.eval y):=by
  simp [execOp,hxv,Instr.storeAt,Instr.sureAddr,storeVar,sizeOf,typeInfo,hi',hs,yO h1c,storeCells,run_store _ _ _ _ _ h1c,Addr.add,hc',hb.frozen]
 unfold Oper.wp;rw [e2];have ho:Only [g] w (w.setCell ⟨g,k,none⟩<|a.eval y):=(Only.refl [g] w).setCell (p:=⟨g,k,none⟩) (.inl s9) _;have hgm:g∈F:=Jc hg;have hnd:F.Nodup:=qg hh.nd (Jc hj);have hsub:SubBx σ.bx [j] [.r F<|YE e F cs]:=⟨⟨_,hj,zI _⟩,trivial⟩
 have hfp:fps [Box.r F<|YE e F cs]=F:=by simp [fps,Box.fp]
 have hoF:Only F w (w.setCell ⟨g,k,none⟩<|a.eval y):=ho.mono (by intro z hz _;rw [Ja.1 hz];exact hgm)
 obtain ⟨h3,_⟩:=hh.give (post:=[.r F<|YE e F<|cs.set i<|l.set k v]) hsub (by rw [hfp];exact hoF) (fun b hbm=>by
  rw [Ja.1 hbm];refine ⟨I,by simpa using hlen,fun i' g' l' hg' hc'=> ?_⟩
  by_cases hii:i'=i
  ·subst hii;rw [hg] at hg';obtain rfl:=JN hg';have hil:i' < cs.length:=(Jg.1 hc).1;rw [List.getElem?_set_self hil] at hc';obtain rfl:=JN hc';have:=hb.set k (a.eval y);rw [hyd] at this ⊢;rw [List.map_set];exact this
  ·rw [List.getElem?_set_ne (fun h=>hii h.symm)] at hc';refine (h i' g' l' hg' hc').keep ho (fun hm=>hii ?_);obtain ⟨q1,q2⟩:=Jg.1 hg';obtain ⟨r1,r2⟩:=Jg.1 hg
   exact (List.getElem_inj hnd).1 (by rw [q2,r2];exact Ja.1 hm)) (by rw [show fps [Box.r F<|YE e F<|cs.set i<|l.set k v]=F by simp [fps,Box.fp]];exact hnd) (fun g' hg'=> .inl (by simpa [fps,Box.fp] using hg'))
 exact hK _ _ _ I h3 (hoF.mono (fun x hx _=>hS x hx))
theorem We {e g n:Nat} {F gs:LN} {cs:List (List Int)} {l:List Int} (hn:n=l.length):Opens [.r F<|YE e gs cs,.r [g]<|yq e 1 z2 (some ⟨g,0,none⟩) n l] (fun q=>q=[.r (F ++ [g])<|YE e (gs ++ [g])<|cs ++ [l]]):=fun L w hnd hb=>by
 subst hn;obtain ⟨hF,hl,h⟩:=hb _ mC;subst hF;obtain ⟨xs,ha,ho,hG⟩:=hb _ (Jl _ mC)
 have hbk:Blk w g e (l.map intV):=by
  have hxs:xs=l.map intV:=by
   have hfl:l.flatMap z2=(l.map intV).map isD:=Ws l;rw [hfl] at ha;exact VS ha
  rcases ho.2 with ⟨hv,hz⟩ | ⟨g',cap,cur,hv,_,hg,hnc,hm,hcs,htk⟩
  ·cases hv
  ·injection hv with h1 h2 h3;injection h1 with h1;injection h1 with h1;subst h1 h3
   have hcl:cur.toList=xs:=by rw [← htk,Ji (by simp [hcs])]
   unfold Blk;rw [hg,← hxs,← hcl]
 have hnd':(F ++ [g]).Nodup:=by
  have:fps [Box.r F<|YE e F cs,.r [g]<|yq e 1 z2 (some ⟨g,0,none⟩) l.length l]=F ++ [g]:=by simp [fps,Box.fp]
  rwa [this] at hnd
 refine ⟨_,I,fun b hbm=> ?_,by rw [jq];exact hnd',fun x hx=>by rw [jq] at hx;simpa [fps,Box.fp] using hx⟩;rw [Ja.1 hbm];refine ⟨I,by simp [hl],fun i g' l' hg' hc'=> ?_⟩
 by_cases hi:i < F.length
 ·rw [JB hi] at hg';rw [JB o9] at hc';exact h i g' l' hg' hc'
 ·rw [JR o9] at hg';rw [JR o9] at hc';rw [hl] at hg'
  cases hk:i - cs.length with
  | zero=>
   rw [hk] at hg' hc';obtain rfl:=JN hg';obtain rfl:=JN hc';exact hbk
  | succ k=>rw [hk] at hg';simp at hg'
end
end
section
theorem za2 {α:Type} {enc:α→List D} {z:List Value} {z0:α} (hz:enc z0=z.map isD):∀ n:Nat,(List.replicate n z0).flatMap enc=((List.replicate n z).flatten).map isD
 | 0=>rfl
 | n + 1=>by rw [Xc,J6,za2 hz n,hz,Xc,List.flatten_cons,XG]
theorem rep_get {z:List Value} (h0:0 < z.length):∀ (n k:Nat),k < n * z.length→((List.replicate n z).flatten)[k]? =z[k % z.length]?
 | 0,k,h=>by omega
 | n + 1,k,h=>by
  rw [Xc,List.flatten_cons]
  by_cases hk:k < z.length
  ·rw [JB hk,Nat.mod_eq_of_lt hk]
  ·rw [JR o9,rep_get h0 n (k - z.length) (by rw [Nat.succ_mul] at h;omega),← Nat.mod_eq_sub_mod o9]
theorem Kf {z:List Value}:∀ n:Nat,((List.replicate n z).flatten).length=n * z.length
 | 0=>by simp
 | n + 1=>by rw [Xc,List.flatten_cons,Jk,Kf n,Nat.succ_mul];omega
theorem made_rep {z:Array Value} {n:Nat} (h0:0 < z.size):(madeCells z<|n * z.size).toList=(List.replicate n z.toList).flatten:=by
 apply Xh;intro k
 by_cases hk:k < n * z.size
 ·rw [rep_get (by simpa using h0) n k (by simpa using hk)];have hm:k % z.size < z.size:=Nat.mod_lt _ h0;simp [madeCells,hk,hm]
 ·rw [JM (by simp [madeCells];omega),JM (by rw [Kf];simp;omega)]
theorem WU {α:Type} {X es:List α} {p N:Nat} (h:p + es.length≤N) (hN:N≤X.length):(X.take p ++ (es ++ X.drop (p + es.length))).take N=(X.take N).take p ++ (es ++ (X.take N).drop (p + es.length)):=by
 rw [List.take_append,List.take_append,List.take_take,List.take_take,List.drop_take,JE,XA (show p≤X.length by omega),Nat.min_eq_right (show p≤N by omega),XA (show p≤N by omega),Ji (show es.length≤N - p by omega),Nat.sub_sub]
section
variable {P:Program}{Γ:Cx}{σ:St}{S:List Nat}{dst:Option Tmp}{ty:TypeId}{pos:String}{af:Array Edge}{gd:Option (Nat × Bool)}{d:D}{Q:Exit→Act→World→Prop}
theorem VY {x y:Operand} {T e k n:Nat} {z:Value} {li ci:Int} {α:Type} (enc:α→List D) (z0:α) (sz bytes:Nat) (hx:σ.ev x=some (isD<|.int .i64 li)) (hy:σ.ev y=some (isD<|.int .i64 ci)) (hT:ZE P T e=true)
  (hinfo:(P.info? e).map (fun i=>(i.zero,i.size,i.bytes))=some (some z,sz,bytes)) (hzc:z.cells.size=sz) (h0:0 < sz) (hz:enc z0=z.cells.toList.map isD) (hl:li=(n:Int)) (hc:ci=(n:Int)) (hn:n≤1099511627776) (hb:bytes≤128) (hk:yi Γ.nt k=true):
  Ef P Γ S ⟨some k,.makeSlice T x y,ty,pos,af,gd⟩ σ (fun σ'=>∃ g,σ'=(⟨σ.tm,σ.bx ++ [.r [g]<|yq e sz enc (some ⟨g,0,none⟩) n<|List.replicate n z0]⟩:St).put k (isD<|.slice (some ⟨g,0,none⟩) n n)):=by
 intro a w hh K Q hK;have hxv:a.eval x= .int .i64 li:=zP hh hx;have hyv:a.eval y= .int .i64 ci:=zP hh hy
 cases hI:P.info? e with
 | none=>rw [hI] at hinfo;cases hinfo
 | some i=>
  rw [hI] at hinfo;injection hinfo with hinfo;injection hinfo with h1 h2;injection h2 with h2 h3;have hbc:=Xx hb hn
  have hbI:(i.bytes:Int) * (n:Int)≤281474976710656:=by
   rw [h3]
   have h4:((bytes * n:Nat):Int)≤281474976710656:=by omega
   rw [Int.natCast_mul] at h4;exact h4
  have hrun:=run_make (P:=P) w T e i z (ym hT) hI h1 .i64 .i64 (n:Int) (n:Int) o9 o9 hbI o9
  have hcs:madeCells z.cells ((n:Int).toNat * i.size)=((List.replicate n z.cells.toList).flatten).toArray:=by
   have:=made_rep (z:=z.cells) (n:=n) o9;rw [J7,h2,← hzc,← this]
  rw [hcs] at hrun
  have hzl:z.cells.toList.length=sz:=by simpa using hzc
  have h5:=hh.more ((Only.refl [] w).alloc<|.cells ((List.replicate n z.cells.toList).flatten).toArray e) (b:= .r [w.heap.size]<|yq e sz enc (some ⟨w.heap.size,0,none⟩) n<|List.replicate n z0) ⟨(List.replicate n z.cells.toList).flatten,by rw [za2 hz];exact jO _,⟨by rw [Kf,hzl];simp,.inr ⟨w.heap.size,n,_,by simp,by simp,Xw w _,by simp,by simp only [maxLen];omega,by simp only [List.size_toArray];rw [Kf,hzl],by rw [List.toList_toArray,Ji (by rw [Kf,hzl];simp)]⟩⟩,rfl⟩ (fun g hg=>by rw [Ja.1 hg];exact Js _) (by simp [Box.fp]);unfold Oper.wp execOp;simp only [hxv,hyv,hl,hc,JD,hrun,Jv,JK,J7];exact hK _ _ _ ⟨_,I⟩ (h5.put (by simpa [yi] using hk) I) ((Only.refl S w).alloc _)
theorem KR {a:Act} {w w':World} {F:LN} {e sz n c p g:Nat} {ds es:List D} {es':List Value} (hh:Holds Γ σ a w) (j:Nat) (hj:σ.bx[j]? =some (.r F<|KK e sz (some ⟨g,0,none⟩) n c ds)) (hfit:p + es.length≤ds.length) (h0:0 < n) (hae:All (σ.L Γ) w es es') (hw:∀ cs:List Value,Blk w g e cs→p + es'.length≤cs.length→Blk w' g e (cs.take p ++ (es' ++ cs.drop (p + es'.length)))) (ho:Only [g] w w'):
  Holds Γ (σ.give [j] [.r F<|KK e sz (some ⟨g,0,none⟩) n c<|ZJ ds p es]) a w'∧F=[g]:=by
 obtain ⟨g',cur,xs,hA,rfl,hg,hnc,hm,hcs,htk,hxl,ha⟩:=Yt (hh.resAt hj) h0;injection hA with hA;injection hA with hA;subst hA;refine ⟨?_,I⟩;have h1:=ha.length;have h2:=hae.length
 have hle:n * sz≤cur.size:=by rw [hcs];exact Nat.mul_le_mul_right _ hnc
 have hb:Blk w g e cur.toList:=by unfold Blk;rw [hg]
 have h4:=hw cur.toList hb (by simp;omega);have hsub:SubBx σ.bx [j] [.r [g]<|KK e sz (some ⟨g,0,none⟩) n c ds]:=⟨⟨_,hj,zI _⟩,trivial⟩;have hfp:fps [Box.r [g]<|KK e sz (some ⟨g,0,none⟩) n c ds]=[g]:=rfl
 obtain ⟨h3,_⟩:=hh.give (post:=[.r [g]<|KK e sz (some ⟨g,0,none⟩) n c<|ZJ ds p es]) hsub (by rw [hfp];exact ho) (fun b hbm=>by
  rw [Ja.1 hbm];refine ⟨xs.take p ++ (es' ++ xs.drop (p + es'.length)),?_,⟨?_,.inr ⟨g,c,_,by simp,JC _,h4,hnc,hm,?_,?_⟩⟩,by simp [Value.ownBlock]⟩
  ·have hall:All (σ.L Γ) w (ZJ ds p es) (xs.take p ++ (es' ++ xs.drop (p + es'.length))):=by
    unfold ZJ;rw [← h2];exact (ha.take p).append (hae.append<|ha.drop _)
   refine (hall.keep ho (fun x hx=> ?_)).less (fun x hx=> ?_)
   ·rw [Ja.1 hx];exact mL _ (yh.2 ⟨_,Jc hj,m9 I⟩)
   ·rcases Jf.1 hx with hx | hx
    ·exact .inl (mL _<|yh.2 ⟨_,Jc hj,hx⟩)
    ·exact .inl (Jw.1 hx).1
  ·simp only [Jk,JE,JA];omega
  ·have:=Array.length_toList (xs:=cur);simp only [List.size_toArray,Jk,JE,JA];omega
  ·have hl:=Array.length_toList (xs:=cur);rw [← htk]
   exact WU o9 o9) (by simp [fps,Box.fp]) (fun g' hg'=> .inl hg')
 exact h3
theorem qw {α:Type} {enc:α→List D} {sz:Nat} [Row enc sz] {v':α} {k:Nat} {es:List D}:∀ (l:List α) (i:Nat) (v:α),l[i]? =some v→k + es.length≤sz→enc v'=ZJ (enc v) k es→(l.set i v').flatMap enc=ZJ (l.flatMap enc) (i * sz + k) es
 | [],i,v,h,_,_=>by simp at h
 | x :: l,0,v,h,hk,he=>by
  obtain rfl:=JN h;have hl:=Row.len (enc:=enc) (sz:=sz) x;rw [List.set_cons_zero,J6,J6,he,Nat.zero_mul,JF];unfold ZJ;rw [JQ o9,J3 o9];simp only [Jq]
 | x :: l,i + 1,v,h,hk,he=>by
  have ih:=qw l i v h hk he;have hl:=Row.len (enc:=enc) (sz:=sz) x;rw [List.set_cons_succ,J6,J6,ih];unfold ZJ
  have e1:(i + 1) * sz + k=(enc x).length + (i * sz + k):=by rw [hl,Nat.succ_mul];omega
  rw [e1,List.take_length_add_append,Jq];congr 3;rw [List.drop_append,JZ (show (enc x).length≤(enc x).length + (i * sz + k) + es.length by omega),J0,show (enc x).length + (i * sz + k) + es.length - (enc x).length=i * sz + k + es.length by omega]
theorem KH {x y:Operand} {T e c i:Nat} {A:Option Addr} {F:LN} {α:Type} {enc:α→List D} {l:List α} {v:α} (j sz:Nat) [Row enc sz] (hx:σ.ev x=some (isD<|elP A<|i * sz)) (hj:σ.bx[j]? =some (.r F<|yq e sz enc A c l)) (hy:σ.ev y=some (Yq<|enc v)) (hT:jo P T sz=true) (hi:i < l.length) (hS:∀ g∈F,g∈S):
  Ef P Γ S ⟨none,.store T x y,ty,pos,af,gd⟩ σ (fun σ'=>σ'=σ.give [j] [.r F<|yq e sz enc A c<|l.set i v]):=by
 intro a w hh K Q hK;have hxv:a.eval x=elP A (i * sz):=zP hh hx;obtain ⟨es',hyv,hae⟩:=zP hh hy;have hl:=Row.len (enc:=enc) (sz:=sz);have h2:=hae.length;rw [hl v] at h2;obtain ⟨g,cur,xs,rfl,hF,hg,hnc,hm,hcs,htk,hxl,ha⟩:=Yt (hh.resAt hj) o9
 have hb:Blk w g e cur.toList:=by unfold Blk;rw [hg]
 have hle:i * sz + sz≤cur.size:=by
  rw [hcs,← Nat.succ_mul];exact Nat.mul_le_mul_right _ o9
 obtain ⟨h4,h5⟩:=Yx es' (i * sz) cur.toList w hb (by simp;omega)
 have hth:w.there g (i * sz) es'.toArray.size:=fun q hq=>by
  have hq':q < es'.length:=by simpa using hq
  refine ⟨?_,hb.frozen _⟩;rw [hb.cell,Je (by simp;omega)]
  rfl
 have hsz:(P.info? T).map (·.size)=some es'.toArray.size:=by
  unfold jo at hT;rw [JT] at hT;rw [hT];simp [h2]
 have hone:Ones (enc v):=Row.ones (enc:=enc) (sz:=sz) v
 have e2:(execOp a.eval ⟨none,.store T x y,ty,pos,af,gd⟩).run P w= .ok .skip (w.setCells g (i * sz) es'):=by
  have h6:=run_storeAt_mid (P:=P) w g (i * sz) T es'.toArray hth hsz (by
   rw [Array.all_eq_true_iff_forall_mem]
   exact fun u hu=>Ones.h (ds:=enc v) _ _ _ hae u (by simpa using hu))
  simp [execOp,hxv,hyv,elP,Addr.add,h6]
 unfold Oper.wp;rw [e2]
 have hset:=qw (enc:=enc) (sz:=sz) (v':=v) (k:=0) (es:=enc v) l i l[i] (Je hi) (by rw [hl];omega) (by
  unfold ZJ
  rw [XD,J0,JZ (by rw [hl,hl];omega),JS])
 rw [Nat.add_zero] at hset;have hfl:=YS (enc:=enc) (sz:=sz) l
 obtain ⟨h3,hF2⟩:=KR (p:=i * sz) (es:=enc v) (es':=es') hh j hj (by
  rw [hfl,hl,← Nat.succ_mul];exact Nat.mul_le_mul_right _ hi) o9 hae (fun cs hcb hcl=>(Yx es' (i * sz) cs w hcb hcl).1) h5
 subst hF2;refine hK _ _ _ ?_ h3 (h5.mono (fun x hx _=>hS x hx));unfold yq;rw [hset,Xl]
theorem zcd {x y:Operand} {T e c i k:Nat} {A:Option Addr} {F:LN} {α:Type} {enc:α→List D} {l:List α} {v v':α} (j sz:Nat) [Row enc sz] [One d] (hx:σ.ev x=some (isD<|elP A<|i * sz + k)) (hj:σ.bx[j]? =some (.r F<|yq e sz enc A c l)) (hy:σ.ev y=some d) (hT:jo P T 1=true) (hv:l[i]? =some v) (hk:k < sz) (hv':enc v'=(enc v).set k d) (hS:∀ g∈F,g∈S):
  Ef P Γ S ⟨none,.store T x y,ty,pos,af,gd⟩ σ (fun σ'=>σ'=σ.give [j] [.r F<|yq e sz enc A c<|l.set i v']):=by
 intro a w hh K Q hK;have hi:=(Jg.1 hv).1;have hxv:a.eval x=elP A (i * sz + k):=zP hh hx;have hyd:=zP hh hy;have h1c:=One.h (d:=d) _ _ _ hyd;have hl:=Row.len (enc:=enc) (sz:=sz);obtain ⟨g,cur,xs,rfl,hF,hg,hnc,hm,hcs,htk,hxl,ha⟩:=Yt (hh.resAt hj) o9
 have hb:Blk w g e cur.toList:=by unfold Blk;rw [hg]
 have hle:i * sz + sz≤cur.size:=by
  rw [hcs,← Nat.succ_mul];exact Nat.mul_le_mul_right _ o9
 have hc':w.cell? ⟨g,i * sz + k,none⟩=some (cur.toList[i * sz + k]'(by simp;omega)):=by rw [hb.cell,Je (by simp;omega)]
 obtain ⟨inf,hi',hs⟩:=Jy.1 (show (P.info? T).map (·.size)=some 1 by unfold jo at hT;rw [JT] at hT;exact hT)
 have e2:(execOp a.eval ⟨none,.store T x y,ty,pos,af,gd⟩).run P w= .ok .skip (w.setCell ⟨g,i * sz + k,none⟩<|a.eval y):=by
  simp only [execOp,hxv,elP,Option.map_some,JF];simp [Instr.storeAt,Instr.sureAddr,storeVar,sizeOf,typeInfo,hi',hs,yO h1c,storeCells,run_store _ _ _ _ _ h1c,Addr.add,hc',hb.frozen]
 unfold Oper.wp;rw [e2];have ho:Only [g] w (w.setCell ⟨g,i * sz + k,none⟩<|a.eval y):=(Only.refl [g] w).setCell (p:=⟨g,i * sz + k,none⟩) (.inl s9) _
 have hset:=qw (enc:=enc) (sz:=sz) (v':=v') (k:=k) (es:=[d]) l i v hv (by simp;omega) (by
  rw [hv'];unfold ZJ;rw [List.set_eq_take_append_cons_drop,Jh (by rw [hl];exact hk)]
  rfl)
 have hfl:=YS (enc:=enc) (sz:=sz) l
 obtain ⟨h3,hF2⟩:=KR (p:=i * sz + k) (es:=[d]) (es':=[a.eval y]) hh j hj (by
  rw [hfl];have:(i + 1) * sz≤l.length * sz:=Nat.mul_le_mul_right _ hi;rw [Nat.succ_mul] at this
  simp only [Xq];omega) o9 ⟨hyd,trivial⟩ (fun cs hcb hcl=>by
   have h6:=hcb.set (i * sz + k) (a.eval y);rw [List.set_eq_take_append_cons_drop,Jh (by simp only [Xq] at hcl;omega)] at h6
   exact h6) ho
 subst hF2;refine hK _ _ _ ?_ h3 (ho.mono (fun x hx _=>hS x hx));unfold yq;rw [hset,Xl]
theorem Rd.idxTA {x y:Operand} {T e p n g:Nat} {kd:IntKind} {k:Int} (hx:σ.ev x=some (isD<|elP (some ⟨g,0,none⟩) p)) (hy:σ.ev y=some (isD<|.int kd k)) (hT:arrT P T e n=true) (hs:(P.info? e).map (·.size)=some 1) (h0:0≤k) (hk:k < (n:Int)):
  Rd P Γ S ⟨dst,.indexAddr T x y,ty,pos,af,gd⟩ σ (isD<|elP (some ⟨g,0,none⟩)<|p + k.toNat):=by
 intro a w hh;have hxv:a.eval x=elP (some ⟨g,0,none⟩) p:=zP hh hx;have hyv:a.eval y= .int kd k:=zP hh hy;obtain ⟨inf,hi',hsz⟩:=Jy.1 hs;refine ⟨_,I,fun w' _=> ?_⟩;simp [execOp,hxv,hyv,elP,Instr.indexAt,Jp<|je hT,Instr.sureAddr,asIntOf,sizeOf,typeInfo,hi',hsz,Addr.add,h0,hk]
theorem zbu {x y:Operand} {T e n:Nat} {ds:List D} {kd:IntKind} {k:Int} (hx:σ.ev x=some (paD ds)) (hy:σ.ev y=some (isD<|.int kd k)) (hT:arrT P T e n=true) (hs:(P.info? e).map (·.size)=some 1) (h0:0≤k) (hk:k < (n:Int)) (hl:k.toNat < ds.length):
  Rd P Γ S ⟨dst,.indexAddr T x y,ty,pos,af,gd⟩ σ (paD<|ds.drop k.toNat):=by
 intro a w hh;obtain ⟨p,hv,ha⟩:=zP hh hx;obtain ⟨g,o,e',hg,hn,cs,h1,h2⟩:=ha o9;injection e' with e';subst e';have hyv:a.eval y= .int kd k:=zP hh hy;obtain ⟨inf,hi',hsz⟩:=Jy.1 hs;refine ⟨.pointer<|some ⟨g,o + k.toNat,none⟩,⟨_,I,At.drop _ ha⟩,fun w' _=> ?_⟩;simp [execOp,hv,hyv,Instr.indexAt,Jp<|je hT,Instr.sureAddr,asIntOf,sizeOf,typeInfo,hi',hsz,Addr.add,h0,hk]
theorem zcc {x y:Operand} {xT yT:TypeId} {k:IntKind} {p q r:Int} (hx:σ.ev x=some (isD<|.int k p)) (hy:σ.ev y=some (isD<|.int k q)) (h:bits .andNot k p q=r):Rd P Γ S ⟨dst,.binOp .andNot xT x y yT,ty,pos,af,gd⟩ σ (isD<|.int k r):=ZA hx hy fun _=>by
 subst h;simp [eqGuard,binOp,go_sem]
