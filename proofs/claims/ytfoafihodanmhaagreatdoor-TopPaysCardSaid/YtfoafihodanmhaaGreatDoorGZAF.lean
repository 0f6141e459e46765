/- WALKING CODE BY WHAT IS KNOWN: keys of maps (strings; structs, by an equality that is known). Over any program. WALKING CODE BY WHAT IS KNOWN: words f -/
import Derived.Test.YtfoafihodanmhaaGreatDoorGZAE
import Derived.WideKeyRuns
import Derived.MapKept
namespace Go.Proofs.YtfoafihodanmhaaGreatDoor
open Go.RowKit
namespace Sx
section
theorem Wy {P:Program} {kt:TypeId} {κ:Type} [DecidableEq κ] {enc:κ→Value} (heq:∀ a b w,(Op.equal kt (enc a)<|enc b).run P w= .ok (decide (a=b)) w) (w:World) (k:κ):∀ (ks:List κ) (es:List MapEntry) (o:Nat),es.map (·.key)=ks.map enc→
  (Instr.findAsking kt (enc k) es o).run P w= .ok ((ks.idxOf? k).bind fun i=>(es[i]?).map fun e=>(o + i,e.val)) w
 | [],[],o,_=>rfl
 | [],_ :: _,_,h=>by simp at h
 | _ :: _,[],_,h=>by simp at h
 | a :: ks,e :: es,o,h=>by
  simp only [JU,List.cons.injEq] at h;simp only [Instr.findAsking];rw [h.1,JD,heq k a w]
  by_cases hka:k=a
  ·subst hka;simp [List.idxOf?_cons]
  ·have hb:(a == k)=false:=by simp;exact fun e=>hka e.symm
   rw [Jd hka];simp only [Jv,Bool.false_eq_true,if_false];rw [Wy heq w k ks es (o + 1) h.2];simp only [List.idxOf?_cons,hb]
   cases hx:ks.idxOf? k with
   | none=>simp [hx]
   | some i=>simp [hx,J9,Nat.add_comm 1]
theorem zeV {P:Program} {kt:TypeId} {κ:Type} [DecidableEq κ] {enc:κ→Value} (hwide:(match P.underlying kt with | some (.array _ _) | some (.struct _)=>true | _=>false)=true) (heq:∀ a b w,(Op.equal kt (enc a)<|enc b).run P w= .ok (decide (a=b)) w)
  (hchk:∀ k e w,(Instr.checkKey e 10000 kt<|enc k).run P w= .ok () w) (hbits:∀ k,Instr.sameBits 10000 (enc k) (enc k)=true) (k:κ) (ks:List κ):KeyOk P kt enc k ks:=
 ⟨hchk k,fun w es h=>by
  rw [run_findKey_eq w hwide,Wy heq w k ks es 0 h]
  simp,hbits k⟩
end
section
abbrev bD (b:LB):D:=slD (cellsOf b)
abbrev gD (d:LB):D:=isD (.agg (cellsOf d).toArray)
abbrev iD (n:Int):D:=isD (.int .i64 n)
abbrev yL (b:Bool):D:=isD (.bool b)
abbrev strD (b:LB):D:=isD (.string ⟨b.toArray⟩)
section
variable {L:List Nat}{w:World}
theorem zcu {d:D} {vs:List Value} (h:All L w [d] vs):∃ u,vs=[u]∧d.R L w u:=by
 cases vs with
 | nil=>exact h.elim
 | cons u vs=>cases vs with | nil=>exact ⟨u,rfl,h.1⟩ | cons=>exact h.2.elim
theorem zbB {d e:D} {vs:List Value} (h:All L w [d,e] vs):∃ u v,vs=[u,v]∧d.R L w u∧e.R L w v:=by
 cases vs with
 | nil=>exact h.elim
 | cons u vs=>obtain ⟨v,rfl,hv⟩:=zcu h.2;exact ⟨u,v,rfl,h.1,hv⟩
theorem all3 {d e f:D} {vs:List Value} (h:All L w [d,e,f] vs):∃ u v z,vs=[u,v,z]∧d.R L w u∧e.R L w v∧f.R L w z:=by
 cases vs with
 | nil=>exact h.elim
 | cons u vs=>obtain ⟨v,z,rfl,hv,hz⟩:=zbB h.2;exact ⟨u,v,z,rfl,h.1,hv,hz⟩
theorem all0 {vs:List Value} (h:All L w [] vs):vs=[]:=by
 cases vs with
 | nil=>rfl
 | cons=>exact h.elim
theorem b_out {b:LB} {v:Value} (h:(bD b).R L w v):∃ A c,v= .slice A b.length c∧b.length≤c∧RV w A (cellsOf b):=by
 obtain ⟨A,c,hv,hc,hr,_⟩:=h;rw [ye] at hv hc;exact ⟨A,c,hv,hc,hr⟩
end
end
section
section
variable {P:Program}{Γ:Cx}{σ:St}{S:List Nat}{dst:Option Tmp}{ty:TypeId}{pos:String}{af:Array Edge}{gd:Option (Nat × Bool)}{d:D}{Q:Exit→Act→World→Prop}{a:Act}{w:World}
theorem Vd:∀ s∈([]:LN),s∈σ.L Γ:=fun _ h=>by cases h
theorem jT {g:Nat} {ds:List D} {S:LN} (j:Nat) (h:σ.bx[j]? =some (.c g ds)) (h2:∀ s∈S,s∈σ.L Γ):∀ s∈g :: S,s∈σ.L Γ:=fun s hs=>by
 rcases Jt.1 hs with rfl | hs
 ·exact mL _ (yz.2 ⟨_,Jc h,m9 I⟩)
 ·exact h2 s hs
theorem zbr {F:LN} {R:Res} {S:LN} (j:Nat) (h:σ.bx[j]? =some (.r F R)) (h2:∀ s∈S,s∈σ.L Γ):∀ s∈F ++ S,s∈σ.L Γ:=fun s hs=>by
 rcases Jf.1 hs with hs | hs
 ·exact mL _ (yz.2 ⟨_,Jc h,hs⟩)
 ·exact h2 s hs
theorem Holds.learn (h:Holds Γ σ a w) {k:Nat} {d':D} (hd:d'.R (σ.L Γ) w (a.tmps.getD k undef)):Holds Γ (σ.put k d') a w:=by
 refine ⟨h.df,h.sz,fun j e hj=> ?_,h.bx,h.nd,h.nw,h.on,h.bs,h.dj⟩;rw [zas] at hj
 by_cases hjk:j=k
 ·subst hjk;simp at hj;subst hj;exact hd
 ·rw [Jb hjk] at hj;exact h.tm j e hj
theorem zaG {bs:List Box} {js:LN} {b:Box} (h:b∈yQ bs 0 js):b∈bs:=by
 obtain ⟨i,h1,_⟩:=Z5 h;exact Jc h1
theorem Holds.drop (h:Holds Γ σ a w) (js:LN):Holds Γ ⟨σ.tm,yQ σ.bx 0 js⟩ a w:=
 h.swap (Only.refl [] w) s9 (fun b hb=> .inl ⟨zaG hb,by simp⟩) (fun g hg=> .inl<|ZN hg) (qy h.nd)
theorem j3 (h:Holds Γ σ a w) {j:Nat} {b:Box} (hj:σ.bx[j]? =some b) {g:Nat} (hg:g∈b.fp):g∉St.L Γ ⟨σ.tm,yQ σ.bx 0 [j]⟩:=fun hm=>by
 rcases Jf.1 hm with hm | hm
 ·obtain ⟨c,hc,hgc⟩:=yz.1 hm;obtain ⟨i,h1,h2⟩:=Z5 hc;have:=Wx h.nd h1 hj hgc hg;subst this;simp at h2
 ·have h1:=h.bs g hm;rcases h.nw g (yz.2 ⟨b,Jc hj,hg⟩) with h2 | h2
  ·omega
  ·exact h.dj.1 g h2 hm
theorem zdR {L L' F:LN} {e sz n c:Nat} {A:Option Addr} {ds:List D} (h:(VS e sz A n c ds).R L F w) (hL:∀ x∈L',x∈L∨w.heap.size≤x) (hF:∀ g∈F,g∉L'):n≤c∧At L' w A ds:=by
 obtain ⟨xs,ha,ho,hF'⟩:=h;have hl:=ha.length;rcases ho.2 with ⟨hv,hn⟩ | ⟨g,cap,cur,hv,_,hg,hnc,_,hcs,htk⟩
 ·injection hv with h1 h2 h3;subst h1 h2 h3;refine ⟨Js _,fun h0=> ?_⟩;have:=ho.1;rw [Nat.zero_mul] at this;omega
 ·injection hv with h1 h2 h3;subst h1 h3;refine ⟨hnc,fun h0=>⟨g,0,I,(Jn.1 hg).1,hF g (by rw [hF'];simp [Value.ownBlock]),xs,ha.less hL,fun j hj=> ?_⟩⟩
  have hb:w.cell? ⟨g,0 + j,none⟩=cur[j]? :=by simp [World.cell?,hg]
  rw [hb,← htk,JP]
  have:j < n * sz:=by rw [← ho.1];exact hj
  rw [Jh this];simp
theorem Holds.freezeV (h:Holds Γ σ a w) {j k e sz n c:Nat} {A:Option Addr} {F:LN} {ds:List D} (hj:σ.bx[j]? =some (.r F<|VS e sz A n c ds)) (hk:σ.tm k=some (isD<|.slice A n c)):Holds Γ ((⟨σ.tm,yQ σ.bx 0 [j]⟩:St).put k<|rwD n ds) a w:=by
 have h1:=h.drop [j];refine h1.learn ?_;have hv:a.tmps.getD k undef= .slice A n c:=h.tm k _ hk
 obtain ⟨h2,h3⟩:=zdR (h.resAt hj) (L':=St.L Γ ⟨σ.tm,yQ σ.bx 0 [j]⟩) (fun x hx=>by
  rcases Jf.1 hx with hx | hx
  ·exact .inl (mL _<|ZN hx)
  ·exact .inl<|mR _ hx) (fun g hg=>j3 h hj hg)
 exact ⟨A,c,hv,h2,h3⟩
def IsView (R:Res) (v:Value) (xs:List Value):Prop:=∀ L F w,R.R L F w→∃ A c,v= .slice A xs.length c∧xs.length≤c∧RV w A xs∧(0 < xs.length→∀ p,A=some p→p.block∈F∨p.block∉L)
def zeB (v:Value) (xs:List Value):Res where
 R L F w:=(∃ A c,v= .slice A xs.length c∧xs.length≤c∧RV w A xs∧(0 < xs.length→∀ p,A=some p→p.block∈F∨p.block∉L))∧∀ g∈F,g < w.heap.size
 lt:=fun h=>h.2
 keep:=fun ⟨⟨A,c,h,hc,hr,ha⟩,hl⟩ ho hS hn=>⟨⟨A,c,h,hc,fun h0=>(hr.keep ho (fun p hp hm=>by
  rcases ha h0 p hp with h1 | h1
  ·exact hn _ hm h1
  ·exact h1<|hS _ hm)) h0,ha⟩,fun g hg=>Ju (hl g hg) ho.size⟩
 less:=fun ⟨⟨A,c,h,hc,hr,ha⟩,hl⟩ hS=>⟨⟨A,c,h,hc,hr,fun h0 p hp=>by
  rcases ha h0 p hp with h1 | h1
  ·exact .inl h1
  ·right
   intro hm;obtain ⟨g',o',e,hlt,_⟩:=hr h0;rw [e] at hp;injection hp with hp;subst hp;rcases hS _ hm with h' | h'
   ·exact h1 h'
   ·simp only at h';omega⟩,hl⟩
theorem zc2 (v:Value) (xs:List Value):IsView (zeB v xs) v xs:=fun _ _ _ h=>h.1
def Src (Γ:Cx) (σ:St) (y:Operand) (m:Nat) (es:List D):Prop:=∀ a w,Holds Γ σ a w→∃ B cy,a.eval y= .slice B m cy∧m≤cy∧(0 < es.length→∃ g o,B=some ⟨g,o,none⟩∧∃ cs,All (σ.L Γ) w es cs∧∀ j,j < cs.length→w.cell? ⟨g,o + j,none⟩=cs[j]?)
theorem Src.of {y:Operand} {m:Nat} {es:List D} {dx:D} (hy:σ.ev y=some dx) (hl:Le dx (rwD m es)):Src Γ σ y m es:=fun a w hh=>by
 obtain ⟨B,cy,hyv,hcy,hat⟩:=hl _ _ _ (zR hh hy);refine ⟨B,cy,hyv,hcy,fun h0=> ?_⟩;obtain ⟨g,o,e,_,_,cs,h1,h2⟩:=hat h0;exact ⟨g,o,e,cs,h1,h2⟩
theorem Src.view {y:Operand} {xs:List Value} {v:Value} {F:LN} {R:Res} (j:Nat) (hy:σ.ev y=some (isD v)) (hj:σ.bx[j]? =some (.r F R)) (hR:IsView R v xs):Src Γ σ y xs.length (xs.map isD):=fun a w hh=>by
 have hyv:a.eval y=v:=zR hh hy;obtain ⟨A,c,hv,hc,hr,_⟩:=hR _ _ _ (hh.resAt hj);refine ⟨A,c,by rw [hyv,hv],hc,fun h0=> ?_⟩;obtain ⟨g,o,e,_,h2⟩:=hr (by simpa using h0);exact ⟨g,o,e,xs,jr xs,h2⟩
theorem Ef.appS {x y:Operand} {T e k n c m:Nat} {A:Option Addr} {F:LN} {ds es:List D} [Ones es] (j sz bytes:Nat) (hx:σ.ev x=some (isD<|.slice A n c)) (hj:σ.bx[j]? =some (.r F<|VS e sz A n c ds)) (hsrc:Src Γ σ y m es) (hm:es.length=m * sz) (hT:Yb P T e=true) (hE:elT P e sz bytes=true) (h0:0 < m) (hsz:0 < sz) (hlen:n + m≤1099511627776) (hb:bytes≤128) (hS:∀ g∈F,g∈S) (hk:yp Γ.nt k=true):
  Ef P Γ S ⟨some k,.call { callee:= .builtin .append,args:= #[x,y],argTypes:= #[T,T] },ty,pos,af,gd⟩ σ (fun σ'=>∃ g c',σ'=(σ.give [j] [.r [g]<|VS e sz (some ⟨g,0,none⟩) (n + m) c'<|ds ++ es]).put k (isD<|.slice (some ⟨g,0,none⟩) (n + m) c')):=by
 intro a w hh K Q hK;have hxv:a.eval x= .slice A n c:=zR hh hx;obtain ⟨B,cy,hyv,hcy,hat⟩:=hsrc a w hh;obtain ⟨i,z,hI,h1,h2,h3,h4⟩:=KL hE;obtain ⟨xs,ha,hown,hF⟩:=hh.resAt hj
 have hpos:0 < es.length:=by rw [hm];exact Nat.mul_pos h0 hsz
 obtain ⟨gb,ob,rfl,cs,hcs,hcell⟩:=hat hpos;have hlc:=hcs.length
 obtain ⟨v',w',hrun,ho2,hgr,hnil,hblk⟩:=run_append_own_at (P:=P) w 0 T ty e i z sz bytes (yD hT) hI h3 h1 h2 h4 hsz _ _ xs hown ⟨gb,ob,none⟩ m cy cs (by rw [hlc,hm]) (fun q u hq=>by
  have hq1:=(Jg.1 hq).1;rw [Xg,hcell q hq1]
  exact hq) (fun u hu=>Ones.h (ds:=es) _ _ _ hcs u hu) (by simp only [maxLen];omega) (by have:=Xx hlen hb;omega) (JC _)
 have hOn:Only F w w':=by rw [hF];exact Only.of_grown hgr
 have hFL:∀ x∈F,x∈σ.L Γ:=fun x hx=>mL _ (yz.2 ⟨_,Jc hj,hx⟩);have hsub:SubBx σ.bx [j] [.r F<|VS e sz A n c ds]:=⟨⟨_,hj,zM _⟩,trivial⟩
 have hfp:fps [Box.r F<|VS e sz A n c ds]=F:=by simp [fps,Box.fp]
 rcases ho2.2 with ⟨hv,hz⟩ | ⟨g,cap,cur,rfl,hg0,hg,hnc,hcm,hcs2,htk⟩
 ·omega
 ·have hgF:g∈F∨w.heap.size≤g:=by
   rcases hblk with hb | hb
   ·left
    rw [hF,← hb];simp [Value.ownBlock]
   ·right
    simp [Value.ownBlock] at hb;omega
  have hL:∀ x∈[g] ++ (σ.L Γ).filter (· ∉F),x∈σ.L Γ∨w.heap.size≤x:=fun x hx=>by
   rcases Jf.1 hx with hx | hx
   ·rw [Ja.1 hx];rcases hgF with h | h
    ·exact .inl (hFL g h)
    ·exact .inr h
   ·exact .inl (Jw.1 hx).1
  have hall:All ([g] ++ (σ.L Γ).filter (· ∉F)) w' (ds ++ es) (xs ++ cs):=by
   have h5:All (σ.L Γ ++ ([g] ++ (σ.L Γ).filter (· ∉F))) w' (ds ++ es) (xs ++ cs):=by
    refine ((ha.append hcs).less (fun x hx=> ?_)).keep hOn (fun x hx=>mL _<|hFL x hx);rcases Jf.1 hx with hx | hx
    ·exact .inl hx
    ·exact hL x hx
   exact h5.less (fun x hx=> .inl<|mR _ hx)
  obtain ⟨h6,h7⟩:=hh.give (post:=[.r [g]<|VS e sz (some ⟨g,0,none⟩) (n + m) cap<|ds ++ es]) hsub (by rw [hfp];exact hOn) (fun b hb=>by
   rw [Ja.1 hb];refine ⟨xs ++ cs,?_,ho2,I⟩;rw [hfp]
   exact hall) (by simp [fps,Box.fp]) (fun x hx=>by
   have hx:x=g:=by simpa [fps,Box.fp] using hx
   rw [hfp,hx]
   exact hgF)
  have e2:(execOp a.eval ⟨some k,.call { callee:= .builtin .append,args:= #[x,y],argTypes:= #[T,T] },ty,pos,af,gd⟩).run P w= .ok (.value<|.slice (some ⟨g,0,none⟩) (n + m) cap) w':=by
   simp only [execOp,resolve,invoke,builtin,JD,JK,Jv,List.map_toArray,JU,XC,hxv,hyv,hrun]
  unfold Oper.wp;rw [e2];exact hK _ _ _ ⟨g,cap,I⟩ (h6.put (by simpa [yp] using hk) I) (hOn.mono (fun x hx _=>hS x hx))
end
end
section
class Row {α:Type} (enc:α→List D) (sz:outParam Nat):Prop where
 len:∀ x,(enc x).length=sz
 ones:∀ x,Ones (enc x)
 pos:0 < sz
section
variable {α:Type}{enc:α→List D}{sz:Nat}
theorem jh [Row enc sz]:∀ (l:List α),(l.flatMap enc).length=l.length * sz
 | []=>by simp
 | x :: l=>by rw [J6,Jk,jh l,Row.len (enc:=enc) x,Xm,Nat.succ_mul];omega
instance flat_ones [Row enc sz] (l:List α):Ones (l.flatMap enc):=⟨fun d hd=>by
 obtain ⟨x,_,h⟩:=List.mem_flatMap.1 hd
 exact (Row.ones (enc:=enc) (sz:=sz) x).m d h⟩
theorem jD [Row enc sz]:∀ (l:List α) (i:Nat) (x:α),l[i]? =some x→(l.flatMap enc).drop (i * sz)=enc x ++ (l.drop<|i + 1).flatMap enc
 | [],i,x,h=>by simp at h
 | y :: l,0,x,h=>by
  simp at h;subst h;simp
 | y :: l,i + 1,x,h=>by
  simp at h
  have e:(i + 1) * sz=(enc y).length + i * sz:=by rw [Row.len (enc:=enc) (sz:=sz) y,Nat.succ_mul];omega
  rw [J6,e,← List.drop_drop,List.drop_left];simpa using jD l i x h
theorem flat_at [Row enc sz] {l:List α} {i o:Nat} {x:α} {d:D} (h:l[i]? =some x) (hd:(enc x)[o]? =some d):(l.flatMap enc)[i * sz + o]? =some d:=by
 have h1:=jD (enc:=enc) (sz:=sz) l i x h;rw [← List.getElem?_drop,h1,JB (Jg.1 hd).1];exact hd
end
abbrev lsD {α:Type} (enc:α→List D) (l:List α):D:=rwD l.length (l.flatMap enc)
abbrev yi {α:Type} (e sz:Nat) (enc:α→List D) (A:Option Addr) (c:Nat) (l:List α):Res:=VS e sz A l.length c (l.flatMap enc)
abbrev SrcT {α:Type} (Γ:Cx) (σ:St) (y:Operand) (enc:α→List D) (l:List α):Prop:=Src Γ σ y l.length (l.flatMap enc)
def Ve (x:UInt8):List D:=[isD<|B8 x]
instance:Row Ve 1:=⟨fun _=>rfl,fun x=>by unfold Ve;infer_instance,by decide⟩
theorem KJ:∀ (b:LB),b.flatMap Ve=(cellsOf b).map isD
 | []=>rfl
 | x :: b=>by rw [J6,KJ b];rfl
theorem le_b_ls (b:LB):Le (slD<|cellsOf b) (lsD Ve b):=by
 unfold lsD;rw [KJ];have:=le_sl_rw (xs:=cellsOf b);rw [ye] at this;exact this
theorem zbo (b:LB):Le (lsD Ve b) (slD<|cellsOf b):=by
 unfold lsD;rw [KJ];have:=le_rw_sl (xs:=cellsOf b);rw [ye] at this;exact this
def encL (b:LB):List D:=[bD b]
instance:Row encL 1:=⟨fun _=>rfl,fun x=>by unfold encL;infer_instance,by decide⟩
def z7 (n:Int):List D:=[iD n]
instance:Row z7 1:=⟨fun _=>rfl,fun x=>by unfold z7;infer_instance,by decide⟩
def encT (s:LB):List D:=[strD s]
instance:Row encT 1:=⟨fun _=>rfl,fun x=>by unfold encT;infer_instance,by decide⟩
instance (m:Option Nat):One (isD<|.map m):=⟨fun _ _ _ h=>by cases h;rfl⟩
theorem YL {e sz n n' c:Nat} {A:Option Addr} {ds ds':List D} (hn:n=n') (hd:ds=ds'):LeR (VS e sz A n c ds) (VS e sz A n' c ds'):=by subst hn hd;exact zM _
section
variable {P:Program}{Γ:Cx}{σ:St}{S:List Nat}{dst:Option Tmp}{ty:TypeId}{pos:String}{af:Array Edge}{gd:Option (Nat × Bool)}{d:D}{Q:Exit→Act→World→Prop}{a:Act}{w:World}
theorem zL {x:Operand} {p:Addr} (hx:σ.ev x=some (isD<|.pointer<|some p)):Rd P Γ S ⟨dst,.nilCheck x,ty,pos,af,gd⟩ σ (isD<|.pointer<|some p):=by
 intro a w hh;have hv:a.eval x= .pointer (some p):=zR hh hx;exact ⟨_,I,fun w' _=>by simp [execOp,hv]⟩
def ptrT (P:Program) (T:Nat):Bool:=match P.underlying T with | some (.pointer _)=>true | _=>false
theorem Wn {T:Nat} (h:ptrT P T=true):P.underlying T=some (.pointer<|P.pointee T):=by
 unfold ptrT at h
 split at h
 ·rename_i e hu;simp [Program.pointee,hu]
 ·cases h
theorem Rd.eqP {x y:Operand} {T yT:Nat} {p:Option Addr} (hx:σ.ev x=some (isD<|.pointer p)) (hy:σ.ev y=some (isD<|.pointer none)) (hT:ptrT P T=true):Rd P Γ S ⟨dst,.binOp .eql T x y yT,ty,pos,af,gd⟩ σ (isD<|.bool p.isNone):=Yo hx hy fun w=>by
 simp [eqGuard,binOp,run_equal_pointer_nil w T p<|Wn hT]
theorem zcL {x y:Operand} {T e yT n c:Nat} {A:Option Addr} (hx:σ.ev x=some (isD<|.slice A n c)) (hy:σ.ev y=some (isD<|.slice none 0 0)) (hT:Yb P T e=true):Rd P Γ S ⟨dst,.binOp .eql T x y yT,ty,pos,af,gd⟩ σ (isD<|.bool A.isNone):=Yo hx hy fun w=>by
 simp [eqGuard,binOp,run_equal_slice_nil w T e A n c<|yD hT]
instance ones_cells (b:LB):Ones ((cellsOf b).map isD):=⟨fun d hd=>by
 obtain ⟨v,hv,rfl⟩:=JI.1 hd;obtain ⟨x,_,rfl⟩:=JI.1 hv
 exact fun _ _ _ h=>by cases h;rfl⟩
theorem Ef.storeG {x y:Operand} {T g:Nat} (j n:Nat) {b c:LB} (hx:σ.ev x=some (pA g)) (hy:σ.ev y=some (gD b)) (hj:σ.bx[j]? =some (.c g<|(cellsOf c).map isD)) (hT:Ke P T n=true) (hb:b.length=n) (hc:c.length=n) (hS:g∈S):
  Ef P Γ S ⟨none,.store T x y,ty,pos,af,gd⟩ σ (fun σ'=>σ'=σ.set j ((cellsOf b).map isD)):=by
 intro a w hh K Q hK;have hyv:a.eval y= .agg (cellsOf b).toArray:=zR hh hy;have hxv:a.eval x= .pointer (some ⟨g,0,none⟩):=zR hh hx;obtain ⟨t,cs,hbk,ha⟩:=hh.boxAt hj;have h1:=ha.length;simp only [JO,ye] at h1;obtain ⟨h4,h5⟩:=Yk (cellsOf b) 0 cs w hbk (by simp;omega)
 have hth:w.there g 0 (cellsOf b).toArray.size:=fun i hi=>by
  have hi':i < b.length:=by simpa using hi
  refine ⟨?_,hbk.frozen _⟩;rw [hbk.cell,Je o9]
  rfl
 have hsz:(P.info? T).map (·.size)=some (cellsOf b).toArray.size:=by
  unfold Ke at hT;rw [JT] at hT;rw [hT];simp [hb]
 have e:(execOp a.eval ⟨none,.store T x y,ty,pos,af,gd⟩).run P w= .ok .skip (w.setCells g 0<|cellsOf b):=by
  have h6:=run_storeAt_mid (P:=P) w g 0 T (cellsOf b).toArray hth hsz (by
   rw [Array.all_eq_true_iff_forall_mem]
   exact fun v hv=>YT v (by simpa using hv))
  simp [execOp,hxv,hyv,h6]
 unfold Oper.wp;rw [e]
 have hall:All (σ.L Γ) w ((cellsOf b).map isD) (cs.take 0 ++ (cellsOf b ++ cs.drop (0 + (cellsOf b).length))):=by
  have:cs.drop (0 + (cellsOf b).length)=[]:=JZ (by simp;omega);rw [this];simpa using jr (cellsOf b)
 exact hK _ _ _ I (hh.set hj h4 h5 hall) (h5.mono (by intro z hz _;simp at hz;subst hz;exact hS))
theorem Rd.slArr {x:Operand} {T e g n:Nat} (hx:σ.ev x=some (pA g)) (hT:arrT P T e n=true) (hs:((P.info? e).map (·.size)).isSome=true):
  Rd P Γ S ⟨dst,.slice T x none none none,ty,pos,af,gd⟩ σ (isD<|.slice (some ⟨g,0,none⟩) n n):=by
 intro a w hh;have hxv:a.eval x= .pointer (some ⟨g,0,none⟩):=zR hh hx;refine ⟨_,I,fun w' _=> ?_⟩;obtain ⟨sz,hsz⟩:=Option.isSome_iff_exists.1 hs;obtain ⟨inf,hi',hsz⟩:=Jy.1 hsz;simp [execOp,hxv,Instr.sliceAt,Instr.sureAddr,Instr.sliceBounds,Jp<|qR hT,sizeOf,typeInfo,hi',Addr.add]
theorem Y4 {α:Type} {enc:α→List D} {y:Operand} {l:List α} (hy:σ.ev y=some (lsD enc l)):SrcT Γ σ y enc l:=Src.of hy (zc _)
theorem SrcT.b {y:Operand} {b:LB} (hy:σ.ev y=some (bD b)):SrcT Γ σ y Ve b:=Src.of hy (le_b_ls b)
theorem SrcT.view {y:Operand} {b:LB} {v:Value} {F:LN} (j:Nat) (hy:σ.ev y=some (isD v)) (hj:σ.bx[j]? =some (.r F<|zeB v<|cellsOf b)):SrcT Γ σ y Ve b:=by
 have:=Src.view (Γ:=Γ) (σ:=σ) (y:=y) j hy hj (zc2 v<|cellsOf b);unfold SrcT;rw [KJ];rw [ye] at this;exact this
theorem SrcT.vec {α:Type} {enc:α→List D} {y:Operand} {l:List α} {F:LN} {e sz c:Nat} {A:Option Addr} (j:Nat) (hy:σ.ev y=some (isD<|.slice A l.length c)) (hj:σ.bx[j]? =some (.r F<|yi e sz enc A c l)):SrcT Γ σ y enc l:=fun a w hh=>by
 have hyv:a.eval y= .slice A l.length c:=zR hh hy;obtain ⟨xs,ha,ho,hF⟩:=hh.resAt hj;rcases ho.2 with ⟨hv,hn⟩ | ⟨g,cap,cur,hv,_,hg,hnc,_,hcs,htk⟩
 ·injection hv with h1 h2 h3;refine ⟨A,c,hyv,by omega,fun h0=> ?_⟩;have:l=[]:=List.length_eq_zero_iff.1 h2;subst this;simp at h0
 ·injection hv with h1 h2 h3;subst h1 h3;refine ⟨_,c,hyv,hnc,fun h0=>⟨g,0,I,xs,ha,fun j hj=> ?_⟩⟩
  have hb:w.cell? ⟨g,0 + j,none⟩=cur[j]? :=by simp [World.cell?,hg]
  rw [hb,← htk,JP]
  have:j < l.length * sz:=by rw [← ho.1];exact hj
  rw [Jh this];simp
theorem Y5 {c:Code} {α:Type} (e sz:Nat) (enc:α→List D) (h:SW P Γ ⟨σ.tm,σ.bx ++ [.r []<|yi e sz enc none 0 []]⟩ c Q):SW P Γ σ c Q:=fun a w hh=>h a w (vec_nil e sz hh)
theorem YW {x y:Operand} {T e k c:Nat} {A:Option Addr} {F:LN} {α:Type} {enc:α→List D} {l l':List α} (j sz bytes:Nat) [Row enc sz] (hx:σ.ev x=some (isD<|.slice A l.length c)) (hj:σ.bx[j]? =some (.r F<|yi e sz enc A c l)) (hsrc:SrcT Γ σ y enc l') (hT:Yb P T e=true) (hE:elT P e sz bytes=true) (hlen:l.length + l'.length≤1099511627776) (hb:bytes≤128) (hS:∀ g∈F,g∈S) (hk:yp Γ.nt k=true):
  Ef P Γ S ⟨some k,.call { callee:= .builtin .append,args:= #[x,y],argTypes:= #[T,T] },ty,pos,af,gd⟩ σ (fun σ'=>∃ A' F' c',σ'=(σ.give [j] [.r F'<|yi e sz enc A' c'<|l ++ l']).put k (isD<|.slice A' (l ++ l').length c')):=by
 cases l' with
 | nil=>
  intro a w hh K Q hK;have hxv:a.eval x= .slice A l.length c:=zR hh hx;obtain ⟨B,cy,hyv,hcy,hat⟩:=hsrc a w hh;obtain ⟨i,z,hI,h1,h2,h3,h4⟩:=KL hE;obtain ⟨xs,ha,hown,hF⟩:=hh.resAt hj
  have hnc:l.length≤c:=by
   rcases hown.2 with ⟨hv,hn⟩ | ⟨g,cap,cur,hv,_,hg,hnc,_⟩
   ·injection hv with h1 h2 h3;omega
   ·injection hv with h1 h2 h3;omega
  have hsub:SubBx σ.bx [j] [.r F<|yi e sz enc A c l]:=⟨⟨_,hj,zM _⟩,trivial⟩
  have hfp:fps [Box.r F<|yi e sz enc A c l]=F:=by simp [fps,Box.fp]
  have h5:=(hh.give (w':=w) (post:=[.r F<|yi e sz enc A c l]) hsub (Only.refl _ w) (fun b hb=>by
   rw [Ja.1 hb];refine (yi e sz enc A c l).less (hh.resAt hj) (fun x hx=> ?_);rw [hfp] at hx;rcases Jf.1 hx with hx | hx
   ·exact .inl (mL _<|yz.2 ⟨_,Jc hj,hx⟩)
   ·exact .inl (Jw.1 hx).1) (by rw [hfp];exact jU hh.nd<|Jc hj) (fun g hg=> .inl hg)).1
  have e2:(execOp a.eval ⟨some k,.call { callee:= .builtin .append,args:= #[x,y],argTypes:= #[T,T] },ty,pos,af,gd⟩).run P w= .ok (.value<|.slice A l.length c) w:=by
   rw [List.length_nil] at hyv
   cases B with
   | none=>cases A <;> simp [execOp,resolve,invoke,builtin,hxv,hyv,Builtin.append_,Jp<|yD hT,sizeOf,typeInfo,hI,Builtin.lenOf,Builtin.firstCells,storeCells,hnc]
   | some p=>cases A <;> simp [execOp,resolve,invoke,builtin,hxv,hyv,Builtin.append_,Jp<|yD hT,sizeOf,typeInfo,hI,Builtin.lenOf,Builtin.firstCells,storeCells,loadCells,loadCellsFrom,hnc]
  unfold Oper.wp;rw [e2];have h6:=h5.put (i:=k) (by simpa [yp] using hk) (d:=isD<|.slice A l.length c) (v:= .slice A l.length c) rfl;refine hK _ _ _ ⟨A,F,c,?_⟩ h6 (Only.refl _ w);rw [JS]
 | cons v l'=>
  have h:=Ef.appS (P:=P) (Γ:=Γ) (S:=S) (ty:=ty) (pos:=pos) (af:=af) (gd:=gd) (k:=k) j sz bytes hx hj hsrc (jh (enc:=enc) (sz:=sz) _) hT hE s9 (Row.pos (enc:=enc)) hlen hb hS hk;intro a w hh K Q hK;refine h a w hh K Q fun σ' a' w' ⟨g,c',hT'⟩ hh' ho=>hK σ' a' w' ⟨some ⟨g,0,none⟩,[g],c',?_⟩ hh' ho;rw [hT'];unfold yi;rw [Jk,List.flatMap_append]
theorem zah {T e k:Nat} {α:Type} (enc:α→List D) (sz bytes:Nat) (hT:Yb P T e=true) (hE:elT P e sz bytes=true) (hk:yp Γ.nt k=true):
  Ef P Γ S ⟨some k,.buildSlice T 0 #[],ty,pos,af,gd⟩ σ (fun σ'=>∃ g,σ'=(⟨σ.tm,σ.bx ++ [.r [g]<|yi e sz enc (some ⟨g,0,none⟩) 0 []]⟩:St).put k (isD<|.slice (some ⟨g,0,none⟩) 0 0)):=by
 intro a w hh K Q hK;obtain ⟨i,z,hI,h1,h2,h3,h4⟩:=KL hE
 have e2:(execOp a.eval ⟨some k,.buildSlice T 0 #[],ty,pos,af,gd⟩).run P w= .ok (.value<|.slice (some ⟨w.heap.size,0,none⟩) 0 0) (w.alloc<|.cells #[] e):=by
  simp [execOp,Instr.buildSlice,Jp<|yD hT,typeInfo,hI,h3,zeroValue,sizeOf,Instr.fill,newRow];have hr:Array.range 0= #[]:=rfl;simp [hr]
 have h5:=hh.more ((Only.refl [] w).alloc<|.cells #[] e) (b:= .r [w.heap.size]<|yi e sz enc (some ⟨w.heap.size,0,none⟩) 0 []) ⟨[],trivial,⟨by simp,.inr ⟨w.heap.size,0,_,rfl,JC _,Xw w _,JC _,JC _,by simp,by simp⟩⟩,rfl⟩ (fun g hg=>by rw [Ja.1 hg];exact Js _) (by simp [Box.fp]);unfold Oper.wp;rw [e2];exact hK _ _ _ ⟨_,I⟩ (h5.put (by simpa [yp] using hk) I) ((Only.refl S w).alloc _)
theorem Holds.freezeT (h:Holds Γ σ a w) {j k e sz c:Nat} {A:Option Addr} {F:LN} {α:Type} {enc:α→List D} {l:List α} {d':D} (hj:σ.bx[j]? =some (.r F<|yi e sz enc A c l)) (hk:σ.tm k=some (isD<|.slice A l.length c)) (hl:Le (lsD enc l) d'):Holds Γ ((⟨σ.tm,yQ σ.bx 0 [j]⟩:St).put k d') a w:=by
 have h1:=h.freezeV hj hk;have h2:=h1.weak (i:=k) (d:=lsD enc l) (d':=d') (by rw [zas,Jh rfl]) hl
 have e:(((⟨σ.tm,yQ σ.bx 0 [j]⟩:St).put k<|rwD l.length<|l.flatMap enc).put k d')=((⟨σ.tm,yQ σ.bx 0 [j]⟩:St).put k d'):=by
  simp only [St.put];congr 1
  funext i
  cases Nat.beq i k <;> rfl
 rw [e] at h2;exact h2
theorem SW.freezeT {cd:Code} (j k:Nat) {e sz c:Nat} {A:Option Addr} {F:LN} {α:Type} {enc:α→List D} {l:List α} {d':D} (hj:σ.bx[j]? =some (.r F<|yi e sz enc A c l)) (hk:σ.tm k=some (isD<|.slice A l.length c)) (hl:Le (lsD enc l) d') (h:SW P Γ ((⟨σ.tm,yQ σ.bx 0 [j]⟩:St).put k d') cd Q):SW P Γ σ cd Q:=fun a w hh=>h a w (hh.freezeT hj hk hl)
theorem zdw {ops:Array Oper} {lo:List Oper} (j k:Nat) {e sz c:Nat} {A:Option Addr} {F:LN} {α:Type} {enc:α→List D} {l:List α} {d':D} (hj:σ.bx[j]? =some (.r F<|yi e sz enc A c l)) (hk:σ.tm k=some (isD<|.slice A l.length c)) (hl:Le (lsD enc l) d') (h:SWl P Γ ops Q lo ((⟨σ.tm,yQ σ.bx 0 [j]⟩:St).put k d')):SWl P Γ ops Q lo σ:=fun a w hh=>h a w (hh.freezeT hj hk hl)
theorem zU {x y:Operand} {T e:Nat} {kd:IntKind} {i:Int} {α:Type} {enc:α→List D} {l:List α} {v:α} (sz:Nat) [Row enc sz] (hx:σ.ev x=some (lsD enc l)) (hy:σ.ev y=some (isD<|.int kd i)) (hT:Yb P T e=true) (hs:(P.info? e).map (·.size)=some sz) (h0:0≤i) (hv:l[i.toNat]? =some v):
  Rd P Γ S ⟨dst,.indexAddr T x y,ty,pos,af,gd⟩ σ (paD<|enc v):=by
 have hi:=(Jg.1 hv).1
 have h:=Rd.idxR (P:=P) (Γ:=Γ) (S:=S) (dst:=dst) (ty:=ty) (pos:=pos) (af:=af) (gd:=gd) sz hx hy hT hs h0 o9 (by
  rw [jh (enc:=enc) (sz:=sz)]
  exact Nat.mul_lt_mul_of_pos_right hi<|Row.pos (enc:=enc))
 refine h.le ?_;rw [jD (enc:=enc) (sz:=sz) l i.toNat v hv];rintro L w u ⟨p,hp,ha⟩;refine ⟨p,hp,fun h0=> ?_⟩;obtain ⟨g,o,e,hg,hn,cs,h1,h2⟩:=ha (by rw [Jk];omega);refine ⟨g,o,e,hg,hn,cs.take (enc v).length,?_,fun j hj=> ?_⟩
 ·have:=h1.take (enc v).length;rwa [List.take_left] at this
 ·rw [JE] at hj;rw [h2 j o9,JP,Jh o9]
def elP (A:Option Addr) (k:Nat):Value:= .pointer (A.map fun p=>⟨p.block,p.off + k,p.spot⟩)
theorem YX {L F:LN} {e sz n c:Nat} {A:Option Addr} {ds:List D} (h:(VS e sz A n c ds).R L F w) (h0:0 < n):∃ g cur xs,A=some ⟨g,0,none⟩∧F=[g]∧w.heap[g]? =some (.cells cur e (0,0))∧n≤c∧c≤maxLen∧cur.size=c * sz∧cur.toList.take (n * sz)=xs∧xs.length=n * sz∧All L w ds xs:=by
 obtain ⟨xs,ha,ho,hF⟩:=h;rcases ho.2 with ⟨hv,hn⟩ | ⟨g,cap,cur,hv,_,hg,hnc,hm,hcs,htk⟩
 ·omega
 ·injection hv with h1 h2 h3;subst h1 h3;exact ⟨g,cur,xs,I,by rw [hF];rfl,hg,hnc,hm,hcs,htk,ho.1,ha⟩
theorem yf {x y:Operand} {T e c:Nat} {kd:IntKind} {i:Int} {A:Option Addr} {F:LN} {α:Type} {enc:α→List D} {l:List α} (j sz:Nat) (hx:σ.ev x=some (isD<|.slice A l.length c)) (hj:σ.bx[j]? =some (.r F<|yi e sz enc A c l)) (hy:σ.ev y=some (isD<|.int kd i)) (hT:Yb P T e=true) (hs:(P.info? e).map (·.size)=some sz) (h0:0≤i) (hi:i.toNat < l.length):
  Rd P Γ S ⟨dst,.indexAddr T x y,ty,pos,af,gd⟩ σ (isD<|elP A<|i.toNat * sz):=by
 intro a w hh;have hxv:a.eval x= .slice A l.length c:=zR hh hx;have hyv:a.eval y= .int kd i:=zR hh hy;obtain ⟨g,cur,xs,rfl,_⟩:=YX (hh.resAt hj) o9;obtain ⟨inf,hi',hsz⟩:=Jy.1 hs;refine ⟨_,I,fun w' _=> ?_⟩
 have h1:i < (l.length:Int):=by omega
 simp [execOp,hxv,hyv,Instr.indexAt,Jp<|yD hT,asIntOf,sizeOf,typeInfo,hi',hsz,elP,Addr.add,h0,h1];exact fun h=>h.symm
theorem VY {x:Operand} {T e c i:Nat} {A:Option Addr} {F:LN} {α:Type} {enc:α→List D} {l:List α} {v:α} (j sz:Nat) [Row enc sz] (hx:σ.ev x=some (isD<|elP A<|i * sz)) (hj:σ.bx[j]? =some (.r F<|yi e sz enc A c l)) (hT:rowT P T sz=true) (hv:l[i]? =some v) (hS:Ap σ j S):Rd P Γ S ⟨dst,.load T x,ty,pos,af,gd⟩ σ (Z8<|enc v):=by
 intro a w hh;have hxv:a.eval x=elP A (i * sz):=zR hh hx;have hi:=(Jg.1 hv).1;have hR:=hh.resAt hj;obtain ⟨g,cur,xs,rfl,rfl,hg,hnc,hm,hcs,htk,hxl,ha⟩:=YX hR o9;have hd:=ha.drop (i * sz);rw [jD (enc:=enc) (sz:=sz) l i v hv] at hd;have ht:=hd.take sz;have hlen:=Row.len (enc:=enc) (sz:=sz) v
 have ht':All (σ.L Γ) w (enc v) ((xs.drop<|i * sz).take sz):=by
  rw [JQ o9,Ji o9] at ht;exact ht
 have hl2:=ht'.length;refine ⟨.agg ((xs.drop<|i * sz).take sz).toArray,⟨_,I,ht'⟩,fun w' ho=> ?_⟩;unfold rowT at hT
 split at hT
 ·rename_i d hu;simp only [JL,JT] at hT;have hg':w'.heap[g]? =some (.cells cur e (0,0)):=(ho.block g (Jn.1 hg).1 (fun hm=>hS.spec hh.nd hj g hm<|m9 rfl)).trans hg
  have h3:=run_loadAt_mid (P:=P) w' g (i * sz) T ((xs.drop<|i * sz).take sz) d (fun q u hq=>by
   have hq1:=(Jg.1 hq).1
   have hq2:q < sz:=by omega
   rw [List.getElem?_take_of_lt hq2,List.getElem?_drop,← htk,JP] at hq
   split at hq
   ·simpa [World.cell?,hg'] using hq
   ·cases hq) hu hT.1 (by rw [hl2,hlen];exact hT.2)
  simp only [execOp,hxv,elP,Option.map_some,JF,h3,JD,Jv,JK]
 ·cases hT
theorem yr {x:Operand} {T e c i:Nat} {A:Option Addr} {F:LN} {α:Type} {enc:α→List D} {l:List α} {v:α} (j:Nat) [Row enc 1] (hx:σ.ev x=some (isD<|elP A<|i * 1)) (hj:σ.bx[j]? =some (.r F<|yi e 1 enc A c l)) (hT:jx P T=true) (hv:l[i]? =some v) (hd:(enc v)[0]? =some d) (hS:Ap σ j S):Rd P Γ S ⟨dst,.load T x,ty,pos,af,gd⟩ σ d:=by
 intro a w hh;have hxv:a.eval x=elP A (i * 1):=zR hh hx;have hi:=(Jg.1 hv).1;have hR:=hh.resAt hj;obtain ⟨g,cur,xs,rfl,rfl,hg,hnc,hm,hcs,htk,hxl,ha⟩:=YX hR o9;obtain ⟨u,h1,h2⟩:=ha.at (flat_at (sz:=1) hv hd);refine ⟨u,h2,fun w' ho=> ?_⟩;have hg':w'.heap[g]? =some (.cells cur e (0,0)):=(ho.block g (Jn.1 hg).1 (fun hm=>hS.spec hh.nd hj g hm<|m9 rfl)).trans hg
 have h3:w'.cell? ⟨g,i * 1,none⟩=some u:=by
  rw [← htk,JP] at h1
  split at h1
  ·simpa [World.cell?,hg'] using h1
  ·cases h1
 have h4:=ZI (P:=P) hT h3;simp only [execOp,hxv,elP,Option.map_some,JF,h4,JD,Jv,JK]
theorem Rs.none {fn:Func} (h:fn.results= #[]):Rs P Γ fn σ (isD<|.tuple #[]):=by
 intro a w hh;exact ⟨_,by simp [results,h],rfl⟩
end
theorem fin_nil {S:LN}:∀ g∈fps [],g∈S:=fun _ h=>by simp [fps] at h
theorem fin_r {S F:LN} {R:Res} {bs:List Box} (h:∀ x∈F,x∈S) (k:∀ x∈fps bs,x∈S):∀ x∈fps (.r F R :: bs),x∈S:=fun x hx=>by
 rw [ZJ] at hx;rcases Jf.1 hx with hx | hx
 ·exact h x hx
 ·exact k x hx
def lenD (n:Nat):D:=⟨fun _ _ v=>∃ A c,v= .slice A n c,fun h _ _=>h,fun h _=>h⟩
instance (n:Nat):One (lenD n):=⟨fun _ _ _ h=>by obtain ⟨A,c,rfl⟩:=h;rfl⟩
theorem Zg {p q:Bool} (h:p=q):Le (yL p) (yL q):=zI (by rw [h])
section
variable {P:Program}{Γ:Cx}{σ:St}{S:List Nat}{dst:Option Tmp}{ty:TypeId}{pos:String}{af:Array Edge}{gd:Option (Nat × Bool)}{Q:Exit→Act→World→Prop}
theorem SW.viewN {c:Code} {A:Option Addr} {n cp:Nat} {b:LB} {F:LN} (j:Nat) (hj:σ.bx[j]? =some (.r F<|zeB (.slice A n cp)<|cellsOf b)) (hA:A.isNone=true) (h:b=[]→SW P Γ σ c Q):SW P Γ σ c Q:=fun a w hh=>by
 refine h ?_ a w hh;obtain ⟨⟨B,c',hv,hc,hr,_⟩,_⟩:=hh.resAt hj
 cases b with
 | nil=>rfl
 | cons x b=>
  obtain ⟨g,o,e,_⟩:=hr s9;injection hv with h1;rw [h1,e] at hA
  cases hA
end
section
variable {κ:Type}[DecidableEq κ]{enc:κ→Value}{P:Program}{Γ:Cx}{σ:St}{S:List Nat}{dst:Option Tmp}{ty:TypeId}{pos:String}{af:Array Edge}{gd:Option (Nat × Bool)}{d:D}
abbrev mapF (M:Option Nat) {κ:Type} (enc:κ→Value) (ks:List κ) (f:κ→D):Res:=mapR M enc ks (ks.map f)
theorem idx_mem {k:κ}:∀ {ks:List κ},k∈ks→∃ i,ks.idxOf? k=some i∧ks[i]? =some k
 | [],h=>by simp at h
 | a :: ks,h=>by
  by_cases e:a=k
  ·subst e;exact ⟨0,by simp [List.idxOf?_cons],rfl⟩
  ·have hm:k∈ks:=by
    rcases Jt.1 h with h | h
    ·exact absurd h.symm e
    ·exact h
   obtain ⟨i,h1,h2⟩:=idx_mem hm
   have hb:(a == k)=false:=by simpa using e
   exact ⟨i + 1,by simp [List.idxOf?_cons,hb,h1],by simpa using h2⟩
theorem zd3 {k:κ} {ks:List κ} (h:k∉ks):ks.idxOf? k=none:=by
 cases hx:ks.idxOf? k with
 | none=>rfl
 | some i=>
  obtain ⟨h1,h2,_⟩:=List.idxOf?_eq_some_iff.1 hx;exact absurd (by rw [← h2];exact List.getElem_mem _) h
omit [DecidableEq κ] in
omit [DecidableEq κ] in
theorem LeAll.append:∀ {ds es ds' es':List D},LeAll ds es→LeAll ds' es'→LeAll (ds ++ ds') (es ++ es')
 | [],[],_,_,_,h=>h
 | _ :: _,_ :: _,_,_,h,k=>⟨h.1,LeAll.append h.2 k⟩
omit [DecidableEq κ] in
end
end
section
def nwD (n:Nat) (d:D):D where
 R L w v:=∀ L',(∀ x∈L',x < n∨x∈L)→d.R L' w v
 keep:=fun {L S w w' v} h ho hS L' hL=>by
  have h1:=h (L' ++ S) (fun x hx=>by
   rcases Jf.1 hx with hx | hx
   ·exact hL x hx
   ·exact .inr<|hS x hx)
  exact d.less (d.keep h1 ho (fun x hx=>mR _ hx)) (fun x hx=> .inl<|mL _ hx)
 less:=fun {L L2 w v} h hL L' hL'=>by
  classical
  have h1:=h (L'.filter (fun x=>decide (x < n∨x∈L))) (fun x hx=>by simpa using (Jw.1 hx).2);refine d.less h1 (fun x hx=> ?_);rcases hL' x hx with h2 | h2
  ·exact .inl (Jw.2 ⟨hx,by simp [h2]⟩)
  ·rcases hL x h2 with h3 | h3
   ·exact .inl (Jw.2 ⟨hx,by simp [h3]⟩)
   ·exact .inr h3
theorem le_nw {n:Nat} {d:D}:Le (nwD n d) d:=fun L _ _ h=>h L (fun _ hx=> .inr hx)
theorem YH {n:Nat} {x:Value}:Le (isD x) (nwD n<|isD x):=fun _ _ _ h _ _=>h
theorem Vb {n m:Nat} {d d':D} (h:n≤m) (hd:Le d d'):Le (nwD m d) (nwD n d'):=fun L w v hv L' hL=>hd _ _ _ (hv L' (fun x hx=>by
 rcases hL x hx with h1 | h1
 ·exact .inl o9
 ·exact .inr h1))
instance (n:Nat) (d:D) [o:One d]:One (nwD n d):=⟨fun L w v h=>o.h _ _ _<|le_nw _ _ _ h⟩
theorem all_nw {L L':LN} {w:World} {n:Nat} (hL:∀ x∈L',x < n∨x∈L):∀ {ds:List D} {cs:List Value},All L w (ds.map<|nwD n) cs→All L' w ds cs
 | [],[],_=>trivial
 | d :: ds,c :: cs,h=>⟨h.1 L' hL,all_nw hL h.2⟩
theorem zb2 {n:Nat} {ds es:List D} (h:LeAll ds (es.map<|nwD n)):Le (ZH ds) (nwD n<|ZH es):=fun _ _ _ ⟨cs,hv,ha⟩ _ hL=>⟨cs,hv,all_nw hL<|h.all ha⟩
structure ConN (P:Program) (f:FuncId) (ds:List D) (d:D):Prop where
 en:Y1 P f
 go:∀ (L:LN) (w:World) (vs:List Value),(∀ g∈L,g < w.heap.size)→glob.R w→All L w ds vs→Calls P f vs.toArray w fun e w'=>∃ v,e= .returned v∧(nwD w.heap.size d).R L w' v∧Only [] w w'
section
variable {P:Program}{Γ:Cx}{σ:St}{S:List Nat}{dst:Option Tmp}{ty:TypeId}{pos:String}{af:Array Edge}{gd:Option (Nat × Bool)}{d:D}{Q:Exit→Act→World→Prop}{a:Act}{w:World}
theorem YJ {f : FuncId} {fn : Func} {c : Code} {ds : List D} {d : D} (hf : P.funcs[f]? = some fn) (hn : (fn.name == "runtime.NumGoroutine") = false) (hb : fn.body = some c) (hlen : Nat.ble ds.length fn.ntmps = true)
  (h:∀ (base:LN) (w0:World),SW P ⟨fn.ntmps,base,w0,[],[]⟩ (St.of (VM 0 ds) []) c (bodyPost P fn fun e w'=>∃ v,e= .returned v∧(nwD w0.heap.size d).R base w' v∧Only [] w0 w')):ConN P f ds d:=by
 refine ⟨enters_of hf hn (by rw [hb];rfl),fun L w vs hL hG ha=> ?_⟩;refine calls_of_wp hf hb (h L w _ _ ?_);have hl:=ha.length
 have hle:ds.length≤fn.ntmps:=by simpa using hlen
 refine ⟨I,by simp [hl];omega,fun i e hi=> ?_,fun b hb=>by simp [St.of] at hb,by simp [St.of,fps],by simp [St.of,fps],Only.refl _ _,hL,by simp,hG,by simp⟩;have:=YC (pre:=[]) (post:=List.replicate (fn.ntmps - vs.length) undef) ha rfl i e hi
 have e1:vs.toArray ++ Array.replicate (fn.ntmps - vs.toArray.size) undef=([] ++ vs ++ List.replicate (fn.ntmps - vs.length) undef).toArray:=by
  apply Xe;simp
 rw [e1];simpa [St.L,St.of,fps] using this
theorem ConN.con {f:FuncId} {ds:List D} {d:D} (h:ConN P f ds d):Con P f ds d:=
 ⟨h.en,fun L w vs hL hG ha=>(h.go L w vs hL hG ha).mono fun _ _ ⟨v,hv,hd,ho⟩=>⟨v,hv,le_nw _ _ _ hd,ho⟩⟩
def Off (Γ:Cx) (σ:St) (js:LN) (L':LN):Prop:=(∀ x∈L',x∈σ.L Γ)∧∀ j∈js,∀ b,σ.bx[j]? =some b→∀ x∈b.fp,x∉L'
def Sees (Γ:Cx) (σ:St) (js:LN) (d d':D):Prop:=∀ a w v L',Holds Γ σ a w→Off Γ σ js L'→d.R (σ.L Γ) w v→d'.R L' w v
def SeesAll (Γ:Cx) (σ:St) (js:LN):List D→List D→Prop
 | [],[]=>True
 | d :: ds,e :: es=>Sees Γ σ js d e∧SeesAll Γ σ js ds es
 | _,_=>False
theorem SeesAll.all {js L':LN} (hh:Holds Γ σ a w) (ho:Off Γ σ js L'):∀ {ds es:List D} {vs:List Value},SeesAll Γ σ js ds es→All (σ.L Γ) w ds vs→All L' w es vs
 | [],[],[],_,_=>trivial
 | _ :: _,_ :: _,_ :: _,h,k=>⟨h.1 a w _ _ hh ho k.1,SeesAll.all hh ho h.2 k.2⟩
theorem zP {js:LN} {d d':D} (h:Le d d'):Sees Γ σ js d d':=fun a w v L' _ ho hd=>d'.less (h _ _ _ hd) (fun x hx=> .inl<|ho.1 x hx)
theorem KB {js:LN} {α:Type} {enc:α→List D} {l:List α} {F:LN} {e sz c:Nat} {A:Option Addr} (j:Nat) (hj:σ.bx[j]? =some (.r F<|yi e sz enc A c l)) (hm:j∈js):Sees Γ σ js (isD<|.slice A l.length c) (lsD enc l):=fun a w v L' hh ho hd=>by
 obtain ⟨h1,h2⟩:=zdR (hh.resAt hj) (L':=L') (fun x hx=> .inl<|ho.1 x hx) (fun g hg=>ho.2 j hm _ hj g hg);exact ⟨A,c,hd,h1,h2⟩
theorem sees_vecB {js:LN} {b:LB} {F:LN} {e c:Nat} {A:Option Addr} (j:Nat) (hj:σ.bx[j]? =some (.r F<|yi e 1 Ve A c b)) (hm:j∈js):Sees Γ σ js (isD<|.slice A b.length c) (bD b):=fun a w v L' hh ho hd=>zbo b _ _ _ (KB j hj hm a w v L' hh ho hd)
theorem Yp {js:LN} {g:Nat} {ds es:List D} (j:Nat) (hj:σ.bx[j]? =some (.c g ds)) (hm:j∈js) (h:SeesAll Γ σ js ds es):Sees Γ σ js (pA g) (paD es):=fun a w v L' hh ho hd=>by
 obtain ⟨t,cs,hb,ha⟩:=hh.boxAt hj;refine ⟨⟨g,0,none⟩,hd,fun _=>⟨g,0,I,hb.lt,ho.2 j hm _ hj g<|m9 I,cs,h.all hh ho ha,fun i hi=> ?_⟩⟩;rw [JF,hb.cell]
def mpD {κ:Type} (enc:κ→Value) (ks:List κ) (f:κ→D):D where
 R L w v:=∃ (M:Option Nat) (es:Array MapEntry) (F:LN),v= .map M∧MapAt w M es F∧(∀ g∈F,g∉L)∧es.toList.map (fun e:MapEntry=>e.key)=ks.map enc∧All L w (ks.map f) (es.toList.map (fun e:MapEntry=>e.val))
 keep:=fun ⟨M,es,F,hv,hm,hF,hk,ha⟩ ho hS=>⟨M,es,F,hv,hm.keep ho (fun x hx hf=>hF x hf<|hS x hx),hF,hk,ha.keep ho hS⟩
 less:=fun ⟨M,es,F,hv,hm,hF,hk,ha⟩ hL=>⟨M,es,F,hv,hm,fun g hg hx=>by
  rcases hL g hx with h | h
  ·exact hF g hg h
  ·have:=hm.lt g hg
   omega,hk,ha.less hL⟩
instance {κ:Type} (enc:κ→Value) (ks:List κ) (f:κ→D):One (mpD enc ks f):=⟨fun _ _ _ h=>by obtain ⟨M,es,F,rfl,_⟩:=h;rfl⟩
theorem ZY {x:Operand} {ds:List D} (hx:σ.ev x=some (paD ds)):Rd P Γ S ⟨dst,.nilCheck x,ty,pos,af,gd⟩ σ (paD ds):=by
 intro a w hh;have h:=zR hh hx;have h':=h;obtain ⟨p,hv,_⟩:=h;exact ⟨_,h',fun w' _=>by simp [execOp,hv]⟩
theorem Rd.eqPA {x y:Operand} {T yT:Nat} {ds:List D} (hx:σ.ev x=some (paD ds)) (hy:σ.ev y=some (isD<|.pointer none)) (hT:ptrT P T=true):Rd P Γ S ⟨dst,.binOp .eql T x y yT,ty,pos,af,gd⟩ σ (isD<|.bool false):=by
 intro a w hh;obtain ⟨p,hv,_⟩:=zR hh hx;have hyv:a.eval y= .pointer none:=zR hh hy;refine ⟨_,I,fun w' _=> ?_⟩;simp [execOp,hv,hyv,eqGuard,binOp,run_equal_pointer_nil w' T (some p)<|Wn hT]
theorem Rd.nePA {x y:Operand} {T yT:Nat} {ds:List D} (hx:σ.ev x=some (paD ds)) (hy:σ.ev y=some (isD<|.pointer none)) (hT:ptrT P T=true):Rd P Γ S ⟨dst,.binOp .neq T x y yT,ty,pos,af,gd⟩ σ (isD<|.bool true):=by
 intro a w hh;obtain ⟨p,hv,_⟩:=zR hh hx;have hyv:a.eval y= .pointer none:=zR hh hy;refine ⟨_,I,fun w' _=> ?_⟩;simp [execOp,hv,hyv,eqGuard,binOp,run_equal_pointer_nil w' T (some p)<|Wn hT]
theorem upon_N {f:FuncId} {vs:List Value} {ad:List D} {es:List D} (hcon:ConN P f ad d) (hh:Holds Γ σ a w) {js:LN} (hs:SeesAll Γ σ js es ad) (hall:All (σ.L Γ) w es vs):
  Calls P f vs.toArray w fun e w'=>∃ v,e= .returned v∧Holds Γ σ a w'∧(nwD Γ.w0.heap.size d).R (σ.L Γ) w' v∧Only [] w w':=by
 classical
 have ho:Off Γ σ js ((σ.L Γ).filter (fun x=>decide (∀ j∈js,∀ b,σ.bx[j]? =some b→x∉b.fp))):=⟨fun x hx=>(Jw.1 hx).1,fun j hj b hb x hx hm=>by
  have:=(Jw.1 hm).2;simp only [Jz] at this
  exact this j hj b hb hx⟩
 refine (hcon.go _ w vs (fun g hg=>hh.lt g<|ho.1 g hg) hh.gl<|hs.all hh ho hall).mono ?_;rintro e w' ⟨v,rfl,hd,hO⟩;refine ⟨v,I,hh.keep hO,fun L' hL'=> ?_,hO⟩;refine hd L' (fun x hx=> ?_);rcases hL' x hx with h | h
 ·exact .inl (Ju h hh.on.size)
 ·exact .inl (hh.lt x h)
theorem yX {f:FuncId} {args:Array Operand} {aT:Array TypeId} {ad es:List D} {k:Nat} (js:LN) (hcon:ConN P f ad d) (he:σ.evs args.toList=some es) (hs:SeesAll Γ σ js es ad) (hk:yp Γ.nt k=true):
  Ef P Γ S ⟨some k,.call { callee:= .value<|.func f,args:=args,argTypes:=aT },ty,pos,af,gd⟩ σ (fun σ'=>σ'=σ.put k d):=by
 intro a w hh K Q hK;have hall:=Zt hh he;unfold Oper.wp;rw [YG (cap:=[]) hcon.en (show a.eval (.func f)= .func (.func f) #[] ([]:List Value).toArray from rfl),JS];simp only [Oper.upon];refine (upon_N hcon hh hs hall).mono ?_;rintro r w' ⟨v,rfl,h1,h2,ho⟩;exact hK _ _ _ I (h1.put (by simpa [yp] using hk)<|le_nw _ _ _ h2) (ho.mono s9)
theorem Ef.callNN {f:FuncId} {args:Array Operand} {aT:Array TypeId} {ad es:List D} {k:Nat} (js:LN) (hcon:ConN P f ad d) (he:σ.evs args.toList=some es) (hs:SeesAll Γ σ js es ad) (hk:yp Γ.nt k=true):
  Ef P Γ S ⟨some k,.call { callee:= .value<|.func f,args:=args,argTypes:=aT },ty,pos,af,gd⟩ σ (fun σ'=>σ'=σ.put k (nwD Γ.w0.heap.size d)):=by
 intro a w hh K Q hK;have hall:=Zt hh he;unfold Oper.wp;rw [YG (cap:=[]) hcon.en (show a.eval (.func f)= .func (.func f) #[] ([]:List Value).toArray from rfl),JS];simp only [Oper.upon];refine (upon_N hcon hh hs hall).mono ?_;rintro r w' ⟨v,rfl,h1,h2,ho⟩;exact hK _ _ _ I (h1.put (by simpa [yp] using hk) h2) (ho.mono s9)
theorem all_nw' {L:LN} {w:World} {n:Nat}:∀ {ds:List D} {cs:List Value},(∀ L',(∀ x∈L',x < n∨x∈L)→All L' w ds cs)→All L w (ds.map<|nwD n) cs
 | [],[],_=>trivial
 | [],_ :: _,h=>(h L (fun _ hx=> .inr hx)).elim
 | _ :: _,[],h=>(h L (fun _ hx=> .inr hx)).elim
 | _ :: _,_ :: _,h=>⟨fun L' hL=>(h L' hL).1,all_nw' (fun L' hL=>(h L' hL).2)⟩
theorem zeS {n:Nat} {ds:List D}:Le (nwD n<|ZH ds) (ZH<|ds.map<|nwD n):=fun L w v h=>by
 obtain ⟨cs,hv,_⟩:=h L (fun _ hx=> .inr hx);refine ⟨cs,hv,all_nw' (fun L' hL=> ?_)⟩;obtain ⟨cs',hv',ha⟩:=h L' hL;rw [hv] at hv';injection hv' with h1
 have:cs=cs':=by simpa using JY Array.toList h1
 rw [this];exact ha
theorem Ef.callNL {f:FuncId} {args:Array Operand} {aT:Array TypeId} {ad es:List D} {k:Nat} {d':D} (js:LN) (hcon:ConN P f ad d) (he:σ.evs args.toList=some es) (hs:SeesAll Γ σ js es ad) (hl:Le (nwD Γ.w0.heap.size d) d') (hk:yp Γ.nt k=true):
  Ef P Γ S ⟨some k,.call { callee:= .value<|.func f,args:=args,argTypes:=aT },ty,pos,af,gd⟩ σ (fun σ'=>σ'=σ.put k d'):=by
 intro a w hh K Q hK;have hall:=Zt hh he;unfold Oper.wp;rw [YG (cap:=[]) hcon.en (show a.eval (.func f)= .func (.func f) #[] ([]:List Value).toArray from rfl),JS];simp only [Oper.upon];refine (upon_N hcon hh hs hall).mono ?_;rintro r w' ⟨v,rfl,h1,h2,ho⟩;exact hK _ _ _ I (h1.put (by simpa [yp] using hk)<|hl _ _ _ h2) (ho.mono s9)
theorem Holds.lookS (h:Holds Γ σ a w) {k:Nat} {xs:List Value} (hk:σ.tm k=some (slD xs)):∃ A c,Holds Γ ((⟨σ.tm,σ.bx ++ [.r []<|zeB (.slice A xs.length c) xs]⟩:St).put k<|isD<|.slice A xs.length c) a w:=by
 obtain ⟨A,c,hv,hc,hr,ha⟩:=h.tm k _ hk;refine ⟨A,c,?_⟩;have h1:=h.more (Only.refl [] w) (b:= .r []<|zeB (.slice A xs.length c) xs) ⟨⟨A,c,rfl,hc,hr,fun h0 p hp=> .inr<|ha h0 p hp⟩,by simp⟩ (by simp [Box.fp]) (by simp [Box.fp]);exact h1.learn hv
theorem SW.lookB {c:Code} (k:Nat) {b:LB} (hk:σ.tm k=some (bD b)) (h:∀ A cp,SW P Γ ((⟨σ.tm,σ.bx ++ [.r []<|zeB (.slice A b.length cp)<|cellsOf b]⟩:St).put k<|isD<|.slice A b.length cp) c Q):SW P Γ σ c Q:=fun a w hh=>by
 obtain ⟨A,c,h1⟩:=hh.lookS hk;rw [ye] at h1;exact h A c a w h1
theorem Holds.freezeN (h:Holds Γ σ a w) (hl:Γ.lent=[]) {j k e sz c:Nat} {A:Option Addr} {F:LN} {α:Type} {enc enc':α→List D} {l:List α} (hj:σ.bx[j]? =some (.r F<|yi e sz enc A c l)) (hk:σ.tm k=some (isD<|.slice A l.length c)) (he:∀ x,LeAll (enc x)<|(enc' x).map<|nwD Γ.w0.heap.size):Holds Γ ((⟨σ.tm,yQ σ.bx 0 [j]⟩:St).put k<|nwD Γ.w0.heap.size<|lsD enc' l) a w:=by
 have h1:=h.drop [j];refine h1.learn ?_;have hv:a.tmps.getD k undef= .slice A l.length c:=h.tm k _ hk;intro L' hL';obtain ⟨xs,ha,ho,hF⟩:=h.resAt hj
 have hnew:∀ g∈F,Γ.w0.heap.size≤g:=fun g hg=>by
  rcases h.nw g (yz.2 ⟨_,Jc hj,hg⟩) with h2 | h2
  ·exact h2
  ·rw [hl] at h2;cases h2
 have hoff:∀ g∈F,g∉L':=fun g hg hm=>by
  rcases hL' g hm with h2 | h2
  ·have:=hnew g hg;omega
  ·exact j3 h hj hg h2
 have hall:All L' w (l.flatMap enc') xs:=by
  have hle:∀ l:List α,LeAll (l.flatMap enc) ((l.flatMap enc').map<|nwD Γ.w0.heap.size):=fun l=>by
   induction l with
   | nil=>trivial
   | cons x l ih=>
    rw [J6,J6,XG];exact LeAll.append (he x) ih
  refine all_nw (L:=σ.L Γ) (fun x hx=> ?_) ((hle l).all ha);rcases hL' x hx with h2 | h2
  ·exact .inl h2
  ·rcases Jf.1 h2 with h3 | h3
   ·exact .inr (mL _<|ZN h3)
   ·exact .inr (mR _ h3)
 have hR:(VS e sz A l.length c<|l.flatMap enc').R L' F w:=⟨xs,hall,ho,hF⟩;obtain ⟨h2,h3⟩:=zdR hR (L':=L') (fun x hx=> .inl hx) hoff;exact ⟨A,c,hv,h2,h3⟩
theorem nw_put {k:Nat} {d d':D} (tm:Nat→Option D) (bx:List Box):((⟨tm,bx⟩:St).put k d).put k d'=(⟨tm,bx⟩:St).put k d':=by
 simp only [St.put];congr 1
 funext i
 cases Nat.beq i k <;> rfl
theorem Holds.freezeNB (h:Holds Γ σ a w) (hl:Γ.lent=[]) {j k e c:Nat} {A:Option Addr} {F:LN} {b:LB} (hj:σ.bx[j]? =some (.r F<|yi e 1 Ve A c b)) (hk:σ.tm k=some (isD<|.slice A b.length c)):Holds Γ ((⟨σ.tm,yQ σ.bx 0 [j]⟩:St).put k<|nwD Γ.w0.heap.size<|bD b) a w:=by
 have h1:=h.freezeN hl (enc':=Ve) hj hk (fun x=>⟨YH,trivial⟩);have h2:=h1.weak (i:=k) (d:=nwD Γ.w0.heap.size<|lsD Ve b) (d':=nwD Γ.w0.heap.size<|bD b) (by rw [zas,Jh rfl]) (Vb (Js _)<|zbo b);rw [nw_put] at h2;exact h2
theorem SW.freezeN {cd:Code} (j k:Nat) {e sz c:Nat} {A:Option Addr} {F:LN} {α:Type} {enc enc':α→List D} {l:List α} (hl:Γ.lent=[]) (hj:σ.bx[j]? =some (.r F<|yi e sz enc A c l)) (hk:σ.tm k=some (isD<|.slice A l.length c)) (he:∀ x,LeAll (enc x)<|(enc' x).map<|nwD Γ.w0.heap.size) (h:SW P Γ ((⟨σ.tm,yQ σ.bx 0 [j]⟩:St).put k<|nwD Γ.w0.heap.size<|lsD enc' l) cd Q):SW P Γ σ cd Q:=fun a w hh=>h a w (hh.freezeN hl hj hk he)
theorem SW.freezeNB {cd:Code} (j k:Nat) {e c:Nat} {A:Option Addr} {F:LN} {b:LB} (hl:Γ.lent=[]) (hj:σ.bx[j]? =some (.r F<|yi e 1 Ve A c b)) (hk:σ.tm k=some (isD<|.slice A b.length c)) (h:SW P Γ ((⟨σ.tm,yQ σ.bx 0 [j]⟩:St).put k<|nwD Γ.w0.heap.size<|bD b) cd Q):SW P Γ σ cd Q:=fun a w hh=>h a w (hh.freezeNB hl hj hk)
instance (n:Nat) (ds:List D) [os:Ones ds]:Ones (ds.map<|nwD n):=⟨fun d hd=>by
 obtain ⟨e,he,rfl⟩:=JI.1 hd
 exact fun L w v h=>os.m e he _ _ _<|le_nw _ _ _ h⟩
theorem Holds.freezeC (h:Holds Γ σ a w) {j j2 o g e sz c:Nat} {A:Option Addr} {F:LN} {α:Type} {enc:α→List D} {l:List α} {ds:List D} {d':D} (hj:σ.bx[j]? =some (.c g ds)) (hd:ds[o]? =some (isD<|.slice A l.length c)) (hv:σ.bx[j2]? =some (.r F<|yi e sz enc A c l))
  (hl:∀ L',(∀ x∈L',x∈σ.L Γ∨w.heap.size≤x)→(∀ x∈F,x∉L')→(yi e sz enc A c l).R (σ.L Γ) F w→d'.R L' w (.slice A l.length c)):Holds Γ ⟨σ.tm,yQ (j8 σ.bx j<|ds.set o d') 0 [j2]⟩ a w:=by
 have hids:fps (j8 σ.bx j<|ds.set o d')=fps σ.bx:=qJ _ _ _
 have hne:j≠j2:=fun e=>by subst e;rw [hj] at hv;cases hv
 have hset:∀ (bs:List Box) (j j2:Nat) (es:List D) (b:Box),j≠j2→bs[j2]? =some b→(j8 bs j es)[j2]? =some b:=by
  intro bs
  induction bs with
  | nil=>intro j j2 es b _ h;simp at h
  | cons x bs ih=>
   intro j j2 es b hne h
   cases j with
   | zero=>
    cases j2 with
    | zero=>exact absurd rfl hne
    | succ q=>simpa [j8] using h
   | succ i=>
    cases j2 with
    | zero=>simpa [j8] using h
    | succ q=>
     simp only [j8,J1] at h ⊢;exact ih i q es b o9 h
 have hv2:=hset _ _ _ (ds.set o d') _ hne hv
 have hoff:∀ x∈F,x∉fps (yQ (j8 σ.bx j<|ds.set o d') 0 [j2]) ++ Γ.base:=fun x hx hm=>by
  rcases Jf.1 hm with hm | hm
  ·obtain ⟨b,hb,hxb⟩:=yz.1 hm;obtain ⟨i,h1,h2⟩:=Z5 hb;have:=Wx (by rw [hids];exact h.nd) h1 hv2 hxb hx;subst this;simp at h2
  ·have h1:=h.bs x hm;rcases h.nw x (yz.2 ⟨_,Jc hv,hx⟩) with h2 | h2
   ·omega
   ·exact h.dj.1 x h2 hm
 have hsub:∀ x∈fps (yQ (j8 σ.bx j<|ds.set o d') 0 [j2]) ++ Γ.base,x∈σ.L Γ:=fun x hx=>by
  rcases Jf.1 hx with hx | hx
  ·exact mL _ (by rw [← hids];exact ZN hx)
  ·exact mR _ hx
 refine h.swap (Only.refl [] w) s9 (fun b hb=> ?_) (fun x hx=> .inl (by rw [← hids];exact ZN hx)) (qy (by rw [hids];exact h.nd));rcases Wg σ.bx j (ds.set o d') g ds hj h.nd b (zaG hb) with rfl | ⟨_,h2⟩
 ·right
  obtain ⟨t,cs,hbk,ha⟩:=h.boxAt hj;refine ⟨t,cs,hbk,?_⟩;obtain ⟨v,h3,h4⟩:=ha.at hd;have h5:=(ha.less (L':=fps (yQ (j8 σ.bx j<|ds.set o d') 0 [j2]) ++ Γ.base) (fun x hx=> .inl<|hsub x hx))
  have h6:=h5.set (i:=o) (d:=d') (c:=v) (by
   rw [show v= .slice A l.length c from h4]
   exact hl _ (fun x hx=> .inl<|hsub x hx) hoff<|h.resAt hv)
  have e7:cs.set o v=cs:=by
   obtain ⟨h7,h8⟩:=Jg.1 h3;rw [← h8];exact List.set_getElem_self h7
  rwa [e7] at h6
 ·exact .inl ⟨h2,by simp⟩
theorem frz_ls {j2 e sz c:Nat} {A:Option Addr} {F:LN} {α:Type} {enc:α→List D} {l:List α} {w:World} {L L':LN} (h1:∀ x∈L',x∈L∨w.heap.size≤x) (h2:∀ x∈F,x∉L') (h:(yi e sz enc A c l).R L F w):(lsD enc l).R L' w (.slice A l.length c):=by
 obtain ⟨h3,h4⟩:=zdR h h1 h2;exact ⟨A,c,I,h3,h4⟩
theorem SW.freezeC {cd:Code} (j o j2:Nat) {g e sz c:Nat} {A:Option Addr} {F:LN} {α:Type} {enc:α→List D} {l:List α} {ds:List D} (hj:σ.bx[j]? =some (.c g ds)) (hd:ds[o]? =some (isD<|.slice A l.length c)) (hv:σ.bx[j2]? =some (.r F<|yi e sz enc A c l)) (h:SW P Γ ⟨σ.tm,yQ (j8 σ.bx j<|ds.set o<|lsD enc l) 0 [j2]⟩ cd Q):SW P Γ σ cd Q:=fun a w hh=>h a w (hh.freezeC hj hd hv (fun L' h1 h2 h3=>frz_ls (j2:=0) h1 h2 h3))
