/- WALKING CODE BY WHAT IS KNOWN: keys of maps (strings; structs, by an equality that is known). Over any program. WALKING CODE BY WHAT IS KNOWN: words f -/
import Derived.Test.YtmflnfnebmbjkaaGreatGZAD
import Derived.WideKeyRuns
import Derived.MapKept
namespace Go.Proofs.YtmflnfnebmbjkaaGreat
open Go.RowKit
namespace Sx
section
end
section
abbrev bD (b:LB):D:=slD (cellsOf b)
abbrev iD (n:Int):D:=isD (.int .i64 n)
abbrev yG (b:Bool):D:=isD (.bool b)
abbrev strD (b:LB):D:=isD (.string ⟨b.toArray⟩)
section
variable {L:List Nat}{w:World}
theorem W8 {d:D} {vs:List Value} (h:All L w [d] vs):∃ u,vs=[u]∧d.R L w u:=by
 cases vs with
 | nil=>exact h.elim
 | cons u vs=>cases vs with | nil=>exact ⟨u,rfl,h.1⟩ | cons=>exact h.2.elim
theorem VL {d e:D} {vs:List Value} (h:All L w [d,e] vs):∃ u v,vs=[u,v]∧d.R L w u∧e.R L w v:=by
 cases vs with
 | nil=>exact h.elim
 | cons u vs=>obtain ⟨v,rfl,hv⟩:=W8 h.2;exact ⟨u,v,rfl,h.1,hv⟩
theorem all3 {d e f:D} {vs:List Value} (h:All L w [d,e,f] vs):∃ u v z,vs=[u,v,z]∧d.R L w u∧e.R L w v∧f.R L w z:=by
 cases vs with
 | nil=>exact h.elim
 | cons u vs=>obtain ⟨v,z,rfl,hv,hz⟩:=VL h.2;exact ⟨u,v,z,rfl,h.1,hv,hz⟩
theorem all0 {vs:List Value} (h:All L w [] vs):vs=[]:=by
 cases vs with
 | nil=>rfl
 | cons=>exact h.elim
end
end
section
section
variable {P:Program}{Γ:Cx}{σ:St}{S:List Nat}{dst:Option Tmp}{ty:TypeId}{pos:String}{af:Array Edge}{gd:Option (Nat × Bool)}{d:D}{Q:Exit→Act→World→Prop}{a:Act}{w:World}
theorem j7:∀ s∈([]:LN),s∈σ.L Γ:=fun _ h=>by cases h
theorem qI {g:Nat} {ds:List D} {S:LN} (j:Nat) (h:σ.bx[j]? =some (.c g ds)) (h2:∀ s∈S,s∈σ.L Γ):∀ s∈g :: S,s∈σ.L Γ:=fun s hs=>by
 rcases Jt.1 hs with rfl | hs
 ·exact mL _ (yd.2 ⟨_,Jc h,m9 I⟩)
 ·exact h2 s hs
theorem Vr {F:LN} {R:Res} {S:LN} (j:Nat) (h:σ.bx[j]? =some (.r F R)) (h2:∀ s∈S,s∈σ.L Γ):∀ s∈F ++ S,s∈σ.L Γ:=fun s hs=>by
 rcases Jf.1 hs with hs | hs
 ·exact mL _ (yd.2 ⟨_,Jc h,hs⟩)
 ·exact h2 s hs
theorem Holds.learn (h:Holds Γ σ a w) {k:Nat} {d':D} (hd:d'.R (σ.L Γ) w (a.tmps.getD k undef)):Holds Γ (σ.put k d') a w:=by
 refine ⟨h.df,h.sz,fun j e hj=> ?_,h.bx,h.nd,h.nw,h.on,h.bs,h.dj⟩;rw [VU] at hj
 by_cases hjk:j=k
 ·subst hjk;simp at hj;subst hj;exact hd
 ·rw [Jb hjk] at hj;exact h.tm j e hj
theorem KR {bs:List Box} {js:LN} {b:Box} (h:b∈yt bs 0 js):b∈bs:=by
 obtain ⟨i,h1,_⟩:=Zf h;exact Jc h1
theorem Holds.drop (h:Holds Γ σ a w) (js:LN):Holds Γ ⟨σ.tm,yt σ.bx 0 js⟩ a w:=
 h.swap (Only.refl [] w) s9 (fun b hb=> .inl ⟨KR hb,by simp⟩) (fun g hg=> .inl<|Zg hg) (Yg h.nd)
theorem jl (h:Holds Γ σ a w) {j:Nat} {b:Box} (hj:σ.bx[j]? =some b) {g:Nat} (hg:g∈b.fp):g∉St.L Γ ⟨σ.tm,yt σ.bx 0 [j]⟩:=fun hm=>by
 rcases Jf.1 hm with hm | hm
 ·obtain ⟨c,hc,hgc⟩:=yd.1 hm;obtain ⟨i,h1,h2⟩:=Zf hc;have:=Ka h.nd h1 hj hgc hg;subst this;simp at h2
 ·have h1:=h.bs g hm;rcases h.nw g (yd.2 ⟨b,Jc hj,hg⟩) with h2 | h2
  ·omega
  ·exact h.dj.1 g h2 hm
theorem own_at {L L' F:LN} {e sz n c:Nat} {A:Option Addr} {ds:List D} (h:(Ky e sz A n c ds).R L F w) (hL:∀ x∈L',x∈L∨w.heap.size≤x) (hF:∀ g∈F,g∉L'):n≤c∧At L' w A ds:=by
 obtain ⟨xs,ha,ho,hF'⟩:=h;have hl:=ha.length;rcases ho.2 with ⟨hv,hn⟩ | ⟨g,cap,cur,hv,_,hg,hnc,_,hcs,htk⟩
 ·injection hv with h1 h2 h3;subst h1 h2 h3;refine ⟨Js _,fun h0=> ?_⟩;have:=ho.1;rw [Nat.zero_mul] at this;omega
 ·injection hv with h1 h2 h3;subst h1 h3;refine ⟨hnc,fun h0=>⟨g,0,I,(Jn.1 hg).1,hF g (by rw [hF'];simp [Value.ownBlock]),xs,ha.less hL,fun j hj=> ?_⟩⟩
  have hb:w.cell? ⟨g,0 + j,none⟩=cur[j]? :=by simp [World.cell?,hg]
  rw [hb,← htk,JP]
  have:j < n * sz:=by rw [← ho.1];exact hj
  rw [Jh this];simp
theorem Holds.freezeV (h:Holds Γ σ a w) {j k e sz n c:Nat} {A:Option Addr} {F:LN} {ds:List D} (hj:σ.bx[j]? =some (.r F<|Ky e sz A n c ds)) (hk:σ.tm k=some (isD<|.slice A n c)):Holds Γ ((⟨σ.tm,yt σ.bx 0 [j]⟩:St).put k<|rwD n ds) a w:=by
 have h1:=h.drop [j];refine h1.learn ?_;have hv:a.tmps.getD k undef= .slice A n c:=h.tm k _ hk
 obtain ⟨h2,h3⟩:=own_at (h.resAt hj) (L':=St.L Γ ⟨σ.tm,yt σ.bx 0 [j]⟩) (fun x hx=>by
  rcases Jf.1 hx with hx | hx
  ·exact .inl (mL _<|Zg hx)
  ·exact .inl<|mR _ hx) (fun g hg=>jl h hj hg)
 exact ⟨A,c,hv,h2,h3⟩
def Src (Γ:Cx) (σ:St) (y:Operand) (m:Nat) (es:List D):Prop:=∀ a w,Holds Γ σ a w→∃ B cy,a.eval y= .slice B m cy∧m≤cy∧(0 < es.length→∃ g o,B=some ⟨g,o,none⟩∧∃ cs,All (σ.L Γ) w es cs∧∀ j,j < cs.length→w.cell? ⟨g,o + j,none⟩=cs[j]?)
theorem Src.of {y:Operand} {m:Nat} {es:List D} {dx:D} (hy:σ.ev y=some dx) (hl:Le dx (rwD m es)):Src Γ σ y m es:=fun a w hh=>by
 obtain ⟨B,cy,hyv,hcy,hat⟩:=hl _ _ _ (zM hh hy);refine ⟨B,cy,hyv,hcy,fun h0=> ?_⟩;obtain ⟨g,o,e,_,_,cs,h1,h2⟩:=hat h0;exact ⟨g,o,e,cs,h1,h2⟩
theorem Ef.appS {x y:Operand} {T e k n c m:Nat} {A:Option Addr} {F:LN} {ds es:List D} [Ones es] (j sz bytes:Nat) (hx:σ.ev x=some (isD<|.slice A n c)) (hj:σ.bx[j]? =some (.r F<|Ky e sz A n c ds)) (hsrc:Src Γ σ y m es) (hm:es.length=m * sz) (hT:Zz P T e=true) (hE:elT P e sz bytes=true) (h0:0 < m) (hsz:0 < sz) (hlen:n + m≤1099511627776) (hb:bytes≤128) (hS:∀ g∈F,g∈S) (hk:ye Γ.nt k=true):
  Ef P Γ S ⟨some k,.call { callee:= .builtin .append,args:= #[x,y],argTypes:= #[T,T] },ty,pos,af,gd⟩ σ (fun σ'=>∃ g c',σ'=(σ.give [j] [.r [g]<|Ky e sz (some ⟨g,0,none⟩) (n + m) c'<|ds ++ es]).put k (isD<|.slice (some ⟨g,0,none⟩) (n + m) c')):=by
 intro a w hh K Q hK;have hxv:a.eval x= .slice A n c:=zM hh hx;obtain ⟨B,cy,hyv,hcy,hat⟩:=hsrc a w hh;obtain ⟨i,z,hI,h1,h2,h3,h4⟩:=jK hE;obtain ⟨xs,ha,hown,hF⟩:=hh.resAt hj
 have hpos:0 < es.length:=by rw [hm];exact Nat.mul_pos h0 hsz
 obtain ⟨gb,ob,rfl,cs,hcs,hcell⟩:=hat hpos;have hlc:=hcs.length
 obtain ⟨v',w',hrun,ho2,hgr,hnil,hblk⟩:=run_append_own_at (P:=P) w 0 T ty e i z sz bytes (yi hT) hI h3 h1 h2 h4 hsz _ _ xs hown ⟨gb,ob,none⟩ m cy cs (by rw [hlc,hm]) (fun q u hq=>by
  have hq1:=(Jg.1 hq).1;rw [Xg,hcell q hq1]
  exact hq) (fun u hu=>Ones.h (ds:=es) _ _ _ hcs u hu) (by simp only [maxLen];omega) (by have:=Xx hlen hb;omega) (JC _)
 have hOn:Only F w w':=by rw [hF];exact Only.of_grown hgr
 have hFL:∀ x∈F,x∈σ.L Γ:=fun x hx=>mL _ (yd.2 ⟨_,Jc hj,hx⟩);have hsub:SubBx σ.bx [j] [.r F<|Ky e sz A n c ds]:=⟨⟨_,hj,zK _⟩,trivial⟩
 have hfp:fps [Box.r F<|Ky e sz A n c ds]=F:=by simp [fps,Box.fp]
 rcases ho2.2 with ⟨hv,hz⟩ | ⟨g,cap,cur,rfl,hg0,hg,hnc,hcm,hcs2,htk⟩
 ·omega
 ·have hgF:g∈F∨w.heap.size≤g:=by
   rcases hblk with hb | hb
   ·left
    rw [hF,← hb];simp [Value.ownBlock]
   ·right
    simp [Value.ownBlock] at hb;omega
  have hL:∀ x∈[g] ++ (σ.L Γ).filter (· ∉F),x∈σ.L Γ∨w.heap.size≤x:=fun x hx=>by
   rcases Jf.1 hx with hx | hx
   ·rw [Ja.1 hx];rcases hgF with h | h
    ·exact .inl (hFL g h)
    ·exact .inr h
   ·exact .inl (Jw.1 hx).1
  have hall:All ([g] ++ (σ.L Γ).filter (· ∉F)) w' (ds ++ es) (xs ++ cs):=by
   have h5:All (σ.L Γ ++ ([g] ++ (σ.L Γ).filter (· ∉F))) w' (ds ++ es) (xs ++ cs):=by
    refine ((ha.append hcs).less (fun x hx=> ?_)).keep hOn (fun x hx=>mL _<|hFL x hx);rcases Jf.1 hx with hx | hx
    ·exact .inl hx
    ·exact hL x hx
   exact h5.less (fun x hx=> .inl<|mR _ hx)
  obtain ⟨h6,h7⟩:=hh.give (post:=[.r [g]<|Ky e sz (some ⟨g,0,none⟩) (n + m) cap<|ds ++ es]) hsub (by rw [hfp];exact hOn) (fun b hb=>by
   rw [Ja.1 hb];refine ⟨xs ++ cs,?_,ho2,I⟩;rw [hfp]
   exact hall) (by simp [fps,Box.fp]) (fun x hx=>by
   have hx:x=g:=by simpa [fps,Box.fp] using hx
   rw [hfp,hx]
   exact hgF)
  have e2:(execOp a.eval ⟨some k,.call { callee:= .builtin .append,args:= #[x,y],argTypes:= #[T,T] },ty,pos,af,gd⟩).run P w= .ok (.value<|.slice (some ⟨g,0,none⟩) (n + m) cap) w':=by
   simp only [execOp,resolve,invoke,builtin,JD,JK,Jv,List.map_toArray,JU,XC,hxv,hyv,hrun]
  unfold Oper.wp;rw [e2];exact hK _ _ _ ⟨g,cap,I⟩ (h6.put (by simpa [ye] using hk) I) (hOn.mono (fun x hx _=>hS x hx))
end
end
section
class Row {α:Type} (enc:α→List D) (sz:outParam Nat):Prop where
 len:∀ x,(enc x).length=sz
 ones:∀ x,Ones (enc x)
 pos:0 < sz
section
variable {α:Type}{enc:α→List D}{sz:Nat}
theorem YE [Row enc sz]:∀ (l:List α),(l.flatMap enc).length=l.length * sz
 | []=>by simp
 | x :: l=>by rw [J6,Jk,YE l,Row.len (enc:=enc) x,Xm,Nat.succ_mul];omega
instance flat_ones [Row enc sz] (l:List α):Ones (l.flatMap enc):=⟨fun d hd=>by
 obtain ⟨x,_,h⟩:=List.mem_flatMap.1 hd
 exact (Row.ones (enc:=enc) (sz:=sz) x).m d h⟩
theorem qJ [Row enc sz]:∀ (l:List α) (i:Nat) (x:α),l[i]? =some x→(l.flatMap enc).drop (i * sz)=enc x ++ (l.drop<|i + 1).flatMap enc
 | [],i,x,h=>by simp at h
 | y :: l,0,x,h=>by
  simp at h;subst h;simp
 | y :: l,i + 1,x,h=>by
  simp at h
  have e:(i + 1) * sz=(enc y).length + i * sz:=by rw [Row.len (enc:=enc) (sz:=sz) y,Nat.succ_mul];omega
  rw [J6,e,← List.drop_drop,List.drop_left];simpa using qJ l i x h
theorem flat_at [Row enc sz] {l:List α} {i o:Nat} {x:α} {d:D} (h:l[i]? =some x) (hd:(enc x)[o]? =some d):(l.flatMap enc)[i * sz + o]? =some d:=by
 have h1:=qJ (enc:=enc) (sz:=sz) l i x h;rw [← List.getElem?_drop,h1,JB (Jg.1 hd).1];exact hd
end
abbrev lsD {α:Type} (enc:α→List D) (l:List α):D:=rwD l.length (l.flatMap enc)
abbrev yp {α:Type} (e sz:Nat) (enc:α→List D) (A:Option Addr) (c:Nat) (l:List α):Res:=Ky e sz A l.length c (l.flatMap enc)
abbrev SrcT {α:Type} (Γ:Cx) (σ:St) (y:Operand) (enc:α→List D) (l:List α):Prop:=Src Γ σ y l.length (l.flatMap enc)
def encB (x:UInt8):List D:=[isD<|B8 x]
instance:Row encB 1:=⟨fun _=>rfl,fun x=>by unfold encB;infer_instance,by decide⟩
def encL (b:LB):List D:=[bD b]
instance:Row encL 1:=⟨fun _=>rfl,fun x=>by unfold encL;infer_instance,by decide⟩
def yc (n:Int):List D:=[iD n]
instance:Row yc 1:=⟨fun _=>rfl,fun x=>by unfold yc;infer_instance,by decide⟩
def encT (s:LB):List D:=[strD s]
instance:Row encT 1:=⟨fun _=>rfl,fun x=>by unfold encT;infer_instance,by decide⟩
instance (m:Option Nat):One (isD<|.map m):=⟨fun _ _ _ h=>by cases h;rfl⟩
section
variable {P:Program}{Γ:Cx}{σ:St}{S:List Nat}{dst:Option Tmp}{ty:TypeId}{pos:String}{af:Array Edge}{gd:Option (Nat × Bool)}{d:D}{Q:Exit→Act→World→Prop}{a:Act}{w:World}
theorem yC {x:Operand} {p:Addr} (hx:σ.ev x=some (isD<|.pointer<|some p)):Rd P Γ S ⟨dst,.nilCheck x,ty,pos,af,gd⟩ σ (isD<|.pointer<|some p):=by
 intro a w hh;have hv:a.eval x= .pointer (some p):=zM hh hx;exact ⟨_,I,fun w' _=>by simp [execOp,hv]⟩
instance ones_cells (b:LB):Ones ((cellsOf b).map isD):=⟨fun d hd=>by
 obtain ⟨v,hv,rfl⟩:=JI.1 hd;obtain ⟨x,_,rfl⟩:=JI.1 hv
 exact fun _ _ _ h=>by cases h;rfl⟩
theorem YZ {α:Type} {enc:α→List D} {y:Operand} {l:List α} (hy:σ.ev y=some (lsD enc l)):SrcT Γ σ y enc l:=Src.of hy (zc _)
theorem jp {c:Code} {α:Type} (e sz:Nat) (enc:α→List D) (h:SW P Γ ⟨σ.tm,σ.bx ++ [.r []<|yp e sz enc none 0 []]⟩ c Q):SW P Γ σ c Q:=fun a w hh=>h a w (vec_nil e sz hh)
theorem Kv {x y:Operand} {T e k c:Nat} {A:Option Addr} {F:LN} {α:Type} {enc:α→List D} {l l':List α} (j sz bytes:Nat) [Row enc sz] (hx:σ.ev x=some (isD<|.slice A l.length c)) (hj:σ.bx[j]? =some (.r F<|yp e sz enc A c l)) (hsrc:SrcT Γ σ y enc l') (hT:Zz P T e=true) (hE:elT P e sz bytes=true) (hlen:l.length + l'.length≤1099511627776) (hb:bytes≤128) (hS:∀ g∈F,g∈S) (hk:ye Γ.nt k=true):
  Ef P Γ S ⟨some k,.call { callee:= .builtin .append,args:= #[x,y],argTypes:= #[T,T] },ty,pos,af,gd⟩ σ (fun σ'=>∃ A' F' c',σ'=(σ.give [j] [.r F'<|yp e sz enc A' c'<|l ++ l']).put k (isD<|.slice A' (l ++ l').length c')):=by
 cases l' with
 | nil=>
  intro a w hh K Q hK;have hxv:a.eval x= .slice A l.length c:=zM hh hx;obtain ⟨B,cy,hyv,hcy,hat⟩:=hsrc a w hh;obtain ⟨i,z,hI,h1,h2,h3,h4⟩:=jK hE;obtain ⟨xs,ha,hown,hF⟩:=hh.resAt hj
  have hnc:l.length≤c:=by
   rcases hown.2 with ⟨hv,hn⟩ | ⟨g,cap,cur,hv,_,hg,hnc,_⟩
   ·injection hv with h1 h2 h3;omega
   ·injection hv with h1 h2 h3;omega
  have hsub:SubBx σ.bx [j] [.r F<|yp e sz enc A c l]:=⟨⟨_,hj,zK _⟩,trivial⟩
  have hfp:fps [Box.r F<|yp e sz enc A c l]=F:=by simp [fps,Box.fp]
  have h5:=(hh.give (w':=w) (post:=[.r F<|yp e sz enc A c l]) hsub (Only.refl _ w) (fun b hb=>by
   rw [Ja.1 hb];refine (yp e sz enc A c l).less (hh.resAt hj) (fun x hx=> ?_);rw [hfp] at hx;rcases Jf.1 hx with hx | hx
   ·exact .inl (mL _<|yd.2 ⟨_,Jc hj,hx⟩)
   ·exact .inl (Jw.1 hx).1) (by rw [hfp];exact Y5 hh.nd<|Jc hj) (fun g hg=> .inl hg)).1
  have e2:(execOp a.eval ⟨some k,.call { callee:= .builtin .append,args:= #[x,y],argTypes:= #[T,T] },ty,pos,af,gd⟩).run P w= .ok (.value<|.slice A l.length c) w:=by
   rw [List.length_nil] at hyv
   cases B with
   | none=>cases A <;> simp [execOp,resolve,invoke,builtin,hxv,hyv,Builtin.append_,Jp<|yi hT,sizeOf,typeInfo,hI,Builtin.lenOf,Builtin.firstCells,storeCells,hnc]
   | some p=>cases A <;> simp [execOp,resolve,invoke,builtin,hxv,hyv,Builtin.append_,Jp<|yi hT,sizeOf,typeInfo,hI,Builtin.lenOf,Builtin.firstCells,storeCells,loadCells,loadCellsFrom,hnc]
  unfold Oper.wp;rw [e2];have h6:=h5.put (i:=k) (by simpa [ye] using hk) (d:=isD<|.slice A l.length c) (v:= .slice A l.length c) rfl;refine hK _ _ _ ⟨A,F,c,?_⟩ h6 (Only.refl _ w);rw [JS]
 | cons v l'=>
  have h:=Ef.appS (P:=P) (Γ:=Γ) (S:=S) (ty:=ty) (pos:=pos) (af:=af) (gd:=gd) (k:=k) j sz bytes hx hj hsrc (YE (enc:=enc) (sz:=sz) _) hT hE s9 (Row.pos (enc:=enc)) hlen hb hS hk;intro a w hh K Q hK;refine h a w hh K Q fun σ' a' w' ⟨g,c',hT'⟩ hh' ho=>hK σ' a' w' ⟨some ⟨g,0,none⟩,[g],c',?_⟩ hh' ho;rw [hT'];unfold yp;rw [Jk,List.flatMap_append]
theorem Holds.freezeT (h:Holds Γ σ a w) {j k e sz c:Nat} {A:Option Addr} {F:LN} {α:Type} {enc:α→List D} {l:List α} {d':D} (hj:σ.bx[j]? =some (.r F<|yp e sz enc A c l)) (hk:σ.tm k=some (isD<|.slice A l.length c)) (hl:Le (lsD enc l) d'):Holds Γ ((⟨σ.tm,yt σ.bx 0 [j]⟩:St).put k d') a w:=by
 have h1:=h.freezeV hj hk;have h2:=h1.weak (i:=k) (d:=lsD enc l) (d':=d') (by rw [VU,Jh rfl]) hl
 have e:(((⟨σ.tm,yt σ.bx 0 [j]⟩:St).put k<|rwD l.length<|l.flatMap enc).put k d')=((⟨σ.tm,yt σ.bx 0 [j]⟩:St).put k d'):=by
  simp only [St.put];congr 1
  funext i
  cases Nat.beq i k <;> rfl
 rw [e] at h2;exact h2
theorem SW.freezeT {cd:Code} (j k:Nat) {e sz c:Nat} {A:Option Addr} {F:LN} {α:Type} {enc:α→List D} {l:List α} {d':D} (hj:σ.bx[j]? =some (.r F<|yp e sz enc A c l)) (hk:σ.tm k=some (isD<|.slice A l.length c)) (hl:Le (lsD enc l) d') (h:SW P Γ ((⟨σ.tm,yt σ.bx 0 [j]⟩:St).put k d') cd Q):SW P Γ σ cd Q:=fun a w hh=>h a w (hh.freezeT hj hk hl)
theorem YJ {ops:Array Oper} {lo:List Oper} (j k:Nat) {e sz c:Nat} {A:Option Addr} {F:LN} {α:Type} {enc:α→List D} {l:List α} {d':D} (hj:σ.bx[j]? =some (.r F<|yp e sz enc A c l)) (hk:σ.tm k=some (isD<|.slice A l.length c)) (hl:Le (lsD enc l) d') (h:SWl P Γ ops Q lo ((⟨σ.tm,yt σ.bx 0 [j]⟩:St).put k d')):SWl P Γ ops Q lo σ:=fun a w hh=>h a w (hh.freezeT hj hk hl)
theorem zS {x y:Operand} {T e:Nat} {kd:IntKind} {i:Int} {α:Type} {enc:α→List D} {l:List α} {v:α} (sz:Nat) [Row enc sz] (hx:σ.ev x=some (lsD enc l)) (hy:σ.ev y=some (isD<|.int kd i)) (hT:Zz P T e=true) (hs:(P.info? e).map (·.size)=some sz) (h0:0≤i) (hv:l[i.toNat]? =some v):
  Rd P Γ S ⟨dst,.indexAddr T x y,ty,pos,af,gd⟩ σ (paD<|enc v):=by
 have hi:=(Jg.1 hv).1
 have h:=Rd.idxR (P:=P) (Γ:=Γ) (S:=S) (dst:=dst) (ty:=ty) (pos:=pos) (af:=af) (gd:=gd) sz hx hy hT hs h0 o9 (by
  rw [YE (enc:=enc) (sz:=sz)]
  exact Nat.mul_lt_mul_of_pos_right hi<|Row.pos (enc:=enc))
 refine h.le ?_;rw [qJ (enc:=enc) (sz:=sz) l i.toNat v hv];rintro L w u ⟨p,hp,ha⟩;refine ⟨p,hp,fun h0=> ?_⟩;obtain ⟨g,o,e,hg,hn,cs,h1,h2⟩:=ha (by rw [Jk];omega);refine ⟨g,o,e,hg,hn,cs.take (enc v).length,?_,fun j hj=> ?_⟩
 ·have:=h1.take (enc v).length;rwa [List.take_left] at this
 ·rw [JE] at hj;rw [h2 j o9,JP,Jh o9]
def elP (A:Option Addr) (k:Nat):Value:= .pointer (A.map fun p=>⟨p.block,p.off + k,p.spot⟩)
theorem Yd {L F:LN} {e sz n c:Nat} {A:Option Addr} {ds:List D} (h:(Ky e sz A n c ds).R L F w) (h0:0 < n):∃ g cur xs,A=some ⟨g,0,none⟩∧F=[g]∧w.heap[g]? =some (.cells cur e (0,0))∧n≤c∧c≤maxLen∧cur.size=c * sz∧cur.toList.take (n * sz)=xs∧xs.length=n * sz∧All L w ds xs:=by
 obtain ⟨xs,ha,ho,hF⟩:=h;rcases ho.2 with ⟨hv,hn⟩ | ⟨g,cap,cur,hv,_,hg,hnc,hm,hcs,htk⟩
 ·omega
 ·injection hv with h1 h2 h3;subst h1 h3;exact ⟨g,cur,xs,I,by rw [hF];rfl,hg,hnc,hm,hcs,htk,ho.1,ha⟩
theorem yr {x y:Operand} {T e c:Nat} {kd:IntKind} {i:Int} {A:Option Addr} {F:LN} {α:Type} {enc:α→List D} {l:List α} (j sz:Nat) (hx:σ.ev x=some (isD<|.slice A l.length c)) (hj:σ.bx[j]? =some (.r F<|yp e sz enc A c l)) (hy:σ.ev y=some (isD<|.int kd i)) (hT:Zz P T e=true) (hs:(P.info? e).map (·.size)=some sz) (h0:0≤i) (hi:i.toNat < l.length):
  Rd P Γ S ⟨dst,.indexAddr T x y,ty,pos,af,gd⟩ σ (isD<|elP A<|i.toNat * sz):=by
 intro a w hh;have hxv:a.eval x= .slice A l.length c:=zM hh hx;have hyv:a.eval y= .int kd i:=zM hh hy;obtain ⟨g,cur,xs,rfl,_⟩:=Yd (hh.resAt hj) o9;obtain ⟨inf,hi',hsz⟩:=Jy.1 hs;refine ⟨_,I,fun w' _=> ?_⟩
 have h1:i < (l.length:Int):=by omega
 simp [execOp,hxv,hyv,Instr.indexAt,Jp<|yi hT,asIntOf,sizeOf,typeInfo,hi',hsz,elP,Addr.add,h0,h1];exact fun h=>h.symm
theorem Rd.loadT {x:Operand} {T e c i:Nat} {A:Option Addr} {F:LN} {α:Type} {enc:α→List D} {l:List α} {v:α} (j sz:Nat) [Row enc sz] (hx:σ.ev x=some (isD<|elP A<|i * sz)) (hj:σ.bx[j]? =some (.r F<|yp e sz enc A c l)) (hT:rowT P T sz=true) (hv:l[i]? =some v) (hS:Ap σ j S):Rd P Γ S ⟨dst,.load T x,ty,pos,af,gd⟩ σ (Yq<|enc v):=by
 intro a w hh;have hxv:a.eval x=elP A (i * sz):=zM hh hx;have hi:=(Jg.1 hv).1;have hR:=hh.resAt hj;obtain ⟨g,cur,xs,rfl,rfl,hg,hnc,hm,hcs,htk,hxl,ha⟩:=Yd hR o9;have hd:=ha.drop (i * sz);rw [qJ (enc:=enc) (sz:=sz) l i v hv] at hd;have ht:=hd.take sz;have hlen:=Row.len (enc:=enc) (sz:=sz) v
 have ht':All (σ.L Γ) w (enc v) ((xs.drop<|i * sz).take sz):=by
  rw [JQ o9,Ji o9] at ht;exact ht
 have hl2:=ht'.length;refine ⟨.agg ((xs.drop<|i * sz).take sz).toArray,⟨_,I,ht'⟩,fun w' ho=> ?_⟩;unfold rowT at hT
 split at hT
 ·rename_i d hu;simp only [JL,JT] at hT;have hg':w'.heap[g]? =some (.cells cur e (0,0)):=(ho.block g (Jn.1 hg).1 (fun hm=>hS.spec hh.nd hj g hm<|m9 rfl)).trans hg
  have h3:=run_loadAt_mid (P:=P) w' g (i * sz) T ((xs.drop<|i * sz).take sz) d (fun q u hq=>by
   have hq1:=(Jg.1 hq).1
   have hq2:q < sz:=by omega
   rw [List.getElem?_take_of_lt hq2,List.getElem?_drop,← htk,JP] at hq
   split at hq
   ·simpa [World.cell?,hg'] using hq
   ·cases hq) hu hT.1 (by rw [hl2,hlen];exact hT.2)
  simp only [execOp,hxv,elP,Option.map_some,JF,h3,JD,Jv,JK]
 ·cases hT
theorem yx {x:Operand} {T e c i:Nat} {A:Option Addr} {F:LN} {α:Type} {enc:α→List D} {l:List α} {v:α} (j:Nat) [Row enc 1] (hx:σ.ev x=some (isD<|elP A<|i * 1)) (hj:σ.bx[j]? =some (.r F<|yp e 1 enc A c l)) (hT:qa P T=true) (hv:l[i]? =some v) (hd:(enc v)[0]? =some d) (hS:Ap σ j S):Rd P Γ S ⟨dst,.load T x,ty,pos,af,gd⟩ σ d:=by
 intro a w hh;have hxv:a.eval x=elP A (i * 1):=zM hh hx;have hi:=(Jg.1 hv).1;have hR:=hh.resAt hj;obtain ⟨g,cur,xs,rfl,rfl,hg,hnc,hm,hcs,htk,hxl,ha⟩:=Yd hR o9;obtain ⟨u,h1,h2⟩:=ha.at (flat_at (sz:=1) hv hd);refine ⟨u,h2,fun w' ho=> ?_⟩;have hg':w'.heap[g]? =some (.cells cur e (0,0)):=(ho.block g (Jn.1 hg).1 (fun hm=>hS.spec hh.nd hj g hm<|m9 rfl)).trans hg
 have h3:w'.cell? ⟨g,i * 1,none⟩=some u:=by
  rw [← htk,JP] at h1
  split at h1
  ·simpa [World.cell?,hg'] using h1
  ·cases h1
 have h4:=Ze (P:=P) hT h3;simp only [execOp,hxv,elP,Option.map_some,JF,h4,JD,Jv,JK]
theorem Rs.none {fn:Func} (h:fn.results= #[]):Rs P Γ fn σ (isD<|.tuple #[]):=by
 intro a w hh;exact ⟨_,by simp [results,h],rfl⟩
end
def lenD (n:Nat):D:=⟨fun _ _ v=>∃ A c,v= .slice A n c,fun h _ _=>h,fun h _=>h⟩
instance (n:Nat):One (lenD n):=⟨fun _ _ _ h=>by obtain ⟨A,c,rfl⟩:=h;rfl⟩
theorem zY {p q:Bool} (h:p=q):Le (yG p) (yG q):=zG (by rw [h])
section
variable {P:Program}{Γ:Cx}{σ:St}{S:List Nat}{dst:Option Tmp}{ty:TypeId}{pos:String}{af:Array Edge}{gd:Option (Nat × Bool)}{Q:Exit→Act→World→Prop}
end
section
variable {κ:Type}[DecidableEq κ]{enc:κ→Value}{P:Program}{Γ:Cx}{σ:St}{S:List Nat}{dst:Option Tmp}{ty:TypeId}{pos:String}{af:Array Edge}{gd:Option (Nat × Bool)}{d:D}
omit [DecidableEq κ] in
omit [DecidableEq κ] in
omit [DecidableEq κ] in
end
end
section
def nwD (n:Nat) (d:D):D where
 R L w v:=∀ L',(∀ x∈L',x < n∨x∈L)→d.R L' w v
 keep:=fun {L S w w' v} h ho hS L' hL=>by
  have h1:=h (L' ++ S) (fun x hx=>by
   rcases Jf.1 hx with hx | hx
   ·exact hL x hx
   ·exact .inr<|hS x hx)
  exact d.less (d.keep h1 ho (fun x hx=>mR _ hx)) (fun x hx=> .inl<|mL _ hx)
 less:=fun {L L2 w v} h hL L' hL'=>by
  classical
  have h1:=h (L'.filter (fun x=>decide (x < n∨x∈L))) (fun x hx=>by simpa using (Jw.1 hx).2);refine d.less h1 (fun x hx=> ?_);rcases hL' x hx with h2 | h2
  ·exact .inl (Jw.2 ⟨hx,by simp [h2]⟩)
  ·rcases hL x h2 with h3 | h3
   ·exact .inl (Jw.2 ⟨hx,by simp [h3]⟩)
   ·exact .inr h3
theorem le_nw {n:Nat} {d:D}:Le (nwD n d) d:=fun L _ _ h=>h L (fun _ hx=> .inr hx)
theorem le_nw_is {n:Nat} {x:Value}:Le (isD x) (nwD n<|isD x):=fun _ _ _ h _ _=>h
instance (n:Nat) (d:D) [o:One d]:One (nwD n d):=⟨fun L w v h=>o.h _ _ _<|le_nw _ _ _ h⟩
structure ConN (P:Program) (f:FuncId) (ds:List D) (d:D):Prop where
 en:ZM P f
 go:∀ (L:LN) (w:World) (vs:List Value),(∀ g∈L,g < w.heap.size)→glob.R w→All L w ds vs→Calls P f vs.toArray w fun e w'=>∃ v,e= .returned v∧(nwD w.heap.size d).R L w' v∧Only [] w w'
section
variable {P:Program}{Γ:Cx}{σ:St}{S:List Nat}{dst:Option Tmp}{ty:TypeId}{pos:String}{af:Array Edge}{gd:Option (Nat × Bool)}{d:D}{Q:Exit→Act→World→Prop}{a:Act}{w:World}
theorem con_ofN {f : FuncId} {fn : Func} {c : Code} {ds : List D} {d : D} (hf : P.funcs[f]? = some fn) (hn : (fn.name == "runtime.NumGoroutine") = false) (hb : fn.body = some c) (hlen : Nat.ble ds.length fn.ntmps = true)
  (h:∀ (base:LN) (w0:World),SW P ⟨fn.ntmps,base,w0,[],[]⟩ (St.of (jE 0 ds) []) c (bodyPost P fn fun e w'=>∃ v,e= .returned v∧(nwD w0.heap.size d).R base w' v∧Only [] w0 w')):ConN P f ds d:=by
 refine ⟨enters_of hf hn (by rw [hb];rfl),fun L w vs hL hG ha=> ?_⟩;refine calls_of_wp hf hb (h L w _ _ ?_);have hl:=ha.length
 have hle:ds.length≤fn.ntmps:=by simpa using hlen
 refine ⟨I,by simp [hl];omega,fun i e hi=> ?_,fun b hb=>by simp [St.of] at hb,by simp [St.of,fps],by simp [St.of,fps],Only.refl _ _,hL,by simp,hG,by simp⟩;have:=ZF (pre:=[]) (post:=List.replicate (fn.ntmps - vs.length) undef) ha rfl i e hi
 have e1:vs.toArray ++ Array.replicate (fn.ntmps - vs.toArray.size) undef=([] ++ vs ++ List.replicate (fn.ntmps - vs.length) undef).toArray:=by
  apply Xe;simp
 rw [e1];simpa [St.L,St.of,fps] using this
theorem ConN.con {f:FuncId} {ds:List D} {d:D} (h:ConN P f ds d):Con P f ds d:=
 ⟨h.en,fun L w vs hL hG ha=>(h.go L w vs hL hG ha).mono fun _ _ ⟨v,hv,hd,ho⟩=>⟨v,hv,le_nw _ _ _ hd,ho⟩⟩
def mpD {κ:Type} (enc:κ→Value) (ks:List κ) (f:κ→D):D where
 R L w v:=∃ (M:Option Nat) (es:Array MapEntry) (F:LN),v= .map M∧MapAt w M es F∧(∀ g∈F,g∉L)∧es.toList.map (fun e:MapEntry=>e.key)=ks.map enc∧All L w (ks.map f) (es.toList.map (fun e:MapEntry=>e.val))
 keep:=fun ⟨M,es,F,hv,hm,hF,hk,ha⟩ ho hS=>⟨M,es,F,hv,hm.keep ho (fun x hx hf=>hF x hf<|hS x hx),hF,hk,ha.keep ho hS⟩
 less:=fun ⟨M,es,F,hv,hm,hF,hk,ha⟩ hL=>⟨M,es,F,hv,hm,fun g hg hx=>by
  rcases hL g hx with h | h
  ·exact hF g hg h
  ·have:=hm.lt g hg
   omega,hk,ha.less hL⟩
instance {κ:Type} (enc:κ→Value) (ks:List κ) (f:κ→D):One (mpD enc ks f):=⟨fun _ _ _ h=>by obtain ⟨M,es,F,rfl,_⟩:=h;rfl⟩
instance (n:Nat) (ds:List D) [os:Ones ds]:Ones (ds.map<|nwD n):=⟨fun d hd=>by
 obtain ⟨e,he,rfl⟩:=JI.1 hd
 exact fun L w v h=>os.m e he _ _ _<|le_nw _ _ _ h⟩
theorem Holds.freezeC (h:Holds Γ σ a w) {j j2 o g e sz c:Nat} {A:Option Addr} {F:LN} {α:Type} {enc:α→List D} {l:List α} {ds:List D} {d':D} (hj:σ.bx[j]? =some (.c g ds)) (hd:ds[o]? =some (isD<|.slice A l.length c)) (hv:σ.bx[j2]? =some (.r F<|yp e sz enc A c l))
  (hl:∀ L',(∀ x∈L',x∈σ.L Γ∨w.heap.size≤x)→(∀ x∈F,x∉L')→(yp e sz enc A c l).R (σ.L Γ) F w→d'.R L' w (.slice A l.length c)):Holds Γ ⟨σ.tm,yt (Y9 σ.bx j<|ds.set o d') 0 [j2]⟩ a w:=by
 have hids:fps (Y9 σ.bx j<|ds.set o d')=fps σ.bx:=Ys _ _ _
 have hne:j≠j2:=fun e=>by subst e;rw [hj] at hv;cases hv
 have hset:∀ (bs:List Box) (j j2:Nat) (es:List D) (b:Box),j≠j2→bs[j2]? =some b→(Y9 bs j es)[j2]? =some b:=by
  intro bs
  induction bs with
  | nil=>intro j j2 es b _ h;simp at h
  | cons x bs ih=>
   intro j j2 es b hne h
   cases j with
   | zero=>
    cases j2 with
    | zero=>exact absurd rfl hne
    | succ q=>simpa [Y9] using h
   | succ i=>
    cases j2 with
    | zero=>simpa [Y9] using h
    | succ q=>
     simp only [Y9,J1] at h ⊢;exact ih i q es b o9 h
 have hv2:=hset _ _ _ (ds.set o d') _ hne hv
 have hoff:∀ x∈F,x∉fps (yt (Y9 σ.bx j<|ds.set o d') 0 [j2]) ++ Γ.base:=fun x hx hm=>by
  rcases Jf.1 hm with hm | hm
  ·obtain ⟨b,hb,hxb⟩:=yd.1 hm;obtain ⟨i,h1,h2⟩:=Zf hb;have:=Ka (by rw [hids];exact h.nd) h1 hv2 hxb hx;subst this;simp at h2
  ·have h1:=h.bs x hm;rcases h.nw x (yd.2 ⟨_,Jc hv,hx⟩) with h2 | h2
   ·omega
   ·exact h.dj.1 x h2 hm
 have hsub:∀ x∈fps (yt (Y9 σ.bx j<|ds.set o d') 0 [j2]) ++ Γ.base,x∈σ.L Γ:=fun x hx=>by
  rcases Jf.1 hx with hx | hx
  ·exact mL _ (by rw [← hids];exact Zg hx)
  ·exact mR _ hx
 refine h.swap (Only.refl [] w) s9 (fun b hb=> ?_) (fun x hx=> .inl (by rw [← hids];exact Zg hx)) (Yg (by rw [hids];exact h.nd));rcases jX σ.bx j (ds.set o d') g ds hj h.nd b (KR hb) with rfl | ⟨_,h2⟩
 ·right
  obtain ⟨t,cs,hbk,ha⟩:=h.boxAt hj;refine ⟨t,cs,hbk,?_⟩;obtain ⟨v,h3,h4⟩:=ha.at hd;have h5:=(ha.less (L':=fps (yt (Y9 σ.bx j<|ds.set o d') 0 [j2]) ++ Γ.base) (fun x hx=> .inl<|hsub x hx))
  have h6:=h5.set (i:=o) (d:=d') (c:=v) (by
   rw [show v= .slice A l.length c from h4]
   exact hl _ (fun x hx=> .inl<|hsub x hx) hoff<|h.resAt hv)
  have e7:cs.set o v=cs:=by
   obtain ⟨h7,h8⟩:=Jg.1 h3;rw [← h8];exact List.set_getElem_self h7
  rwa [e7] at h6
 ·exact .inl ⟨h2,by simp⟩
theorem frz_ls {j2 e sz c:Nat} {A:Option Addr} {F:LN} {α:Type} {enc:α→List D} {l:List α} {w:World} {L L':LN} (h1:∀ x∈L',x∈L∨w.heap.size≤x) (h2:∀ x∈F,x∉L') (h:(yp e sz enc A c l).R L F w):(lsD enc l).R L' w (.slice A l.length c):=by
 obtain ⟨h3,h4⟩:=own_at h h1 h2;exact ⟨A,c,I,h3,h4⟩
theorem SW.freezeC {cd:Code} (j o j2:Nat) {g e sz c:Nat} {A:Option Addr} {F:LN} {α:Type} {enc:α→List D} {l:List α} {ds:List D} (hj:σ.bx[j]? =some (.c g ds)) (hd:ds[o]? =some (isD<|.slice A l.length c)) (hv:σ.bx[j2]? =some (.r F<|yp e sz enc A c l)) (h:SW P Γ ⟨σ.tm,yt (Y9 σ.bx j<|ds.set o<|lsD enc l) 0 [j2]⟩ cd Q):SW P Γ σ cd Q:=fun a w hh=>h a w (hh.freezeC hj hd hv (fun L' h1 h2 h3=>frz_ls (j2:=0) h1 h2 h3))
