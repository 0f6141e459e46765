/- AN APPEND IN A REGION THAT GOES ON WITH WHAT IT MADE. Over any program. CORE: Values, Bids, load, need, VCG. A bridge: the words of Sy in the place of -/
import Derived.Test.YtfoafihodanmhaaGreatDoorGZAN
set_option maxHeartbeats 8000000
set_option maxRecDepth 100000
namespace Go.Proofs.YtfoafihodanmhaaGreatDoor
open Go.RowKit
namespace Sx
section
section
variable {P:Program}{Γ:Cx}{σ:St}{S:List Nat}{dst:Option Tmp}{ty:TypeId}{pos:String}{af:Array Edge}{gd:Option (Nat × Bool)}{d:D}{Q:Exit→Act→World→Prop}
def EfE (P:Program) (Γ:Cx) (S:LN) (o:Oper) (σ:St) (T:LN→St→Prop):Prop:=
 ∀ a w,Holds Γ σ a w→∀ (K:Act→World→Prop) (Q:Exit→Act→World→Prop),(∀ G σ' a' w',(∀ g∈G,g∈S∨w.heap.size≤g)→T G σ'→Holds Γ σ' a' w'→Only S w w'→K a' w')→o.wp P a w K Q
theorem zdv {l:List Oper} {tz uz:Reg.Tz} {op:Op} {T:LN→St→Prop} {i:Nat} (ho:l[i]? =some ⟨dst,op,ty,pos,af,none⟩) (h:EfE P Γ S ⟨dst,op,ty,pos,af,none⟩ σ T) (hk:∀ G σ',T G σ'→SWz P Γ l Q (S ++ G) tz σ') (hu:SWz P Γ l Q S uz σ):SWz P Γ l Q S (.e i tz uz) σ:=by
 intro a w hh
 have e:l.getD i default=⟨dst,op,ty,pos,af,none⟩:=by rw [Jr,ho];rfl
 unfold Reg.wpG;rw [e];refine ⟨J4 I fun K hK=> ?_,hu a w hh⟩
 exact h a w hh K _ fun G σ' a' w' hg hT hh' hO=>hK _ _ ⟨S ++ G,fun x hx=>by
  rcases Jf.1 hx with hx | hx
  ·exact .inl hx
  ·exact hg x hx,hO,hk G σ' hT a' w' hh'⟩
theorem EfE.appS {x y:Operand} {T e k n c m:Nat} {A:Option Addr} {F:LN} {ds es:List D} [Ones es] (j sz bytes:Nat) (hx:σ.ev x=some (isD<|.slice A n c)) (hj:σ.bx[j]? =some (.r F<|VS e sz A n c ds)) (hsrc:Src Γ σ y m es) (hm:es.length=m * sz) (hT:Yb P T e=true) (hE:elT P e sz bytes=true) (h0:0 < m) (hsz:0 < sz) (hlen:n + m≤1099511627776) (hb:bytes≤128) (hS:∀ g∈F,g∈S) (hk:yp Γ.nt k=true):
  EfE P Γ S ⟨some k,.call { callee:= .builtin .append,args:= #[x,y],argTypes:= #[T,T] },ty,pos,af,gd⟩ σ (fun G σ'=>∃ g c',G=[g]∧σ'=(σ.give [j] [.r [g]<|VS e sz (some ⟨g,0,none⟩) (n + m) c'<|ds ++ es]).put k (isD<|.slice (some ⟨g,0,none⟩) (n + m) c')):=by
 intro a w hh K Q hK;have hxv:a.eval x= .slice A n c:=zR hh hx;obtain ⟨B,cy,hyv,hcy,hat⟩:=hsrc a w hh;obtain ⟨i,z,hI,h1,h2,h3,h4⟩:=KL hE;obtain ⟨xs,ha,hown,hF⟩:=hh.resAt hj
 have hpos:0 < es.length:=by rw [hm];exact Nat.mul_pos h0 hsz
 obtain ⟨gb,ob,rfl,cs,hcs,hcell⟩:=hat hpos;have hlc:=hcs.length
 obtain ⟨v',w',hrun,ho2,hgr,hnil,hblk⟩:=run_append_own_at (P:=P) w 0 T ty e i z sz bytes (yD hT) hI h3 h1 h2 h4 hsz _ _ xs hown ⟨gb,ob,none⟩ m cy cs (by rw [hlc,hm]) (fun q u hq=>by
  have hq1:=(Jg.1 hq).1;rw [Xg,hcell q hq1]
  exact hq) (fun u hu=>Ones.h (ds:=es) _ _ _ hcs u hu) (by simp only [maxLen];omega) (by have:=Xx hlen hb;omega) (JC _)
 have hOn:Only F w w':=by rw [hF];exact Only.of_grown hgr
 have hFL:∀ x∈F,x∈σ.L Γ:=fun x hx=>mL _ (yz.2 ⟨_,Jc hj,hx⟩);have hsub:SubBx σ.bx [j] [.r F<|VS e sz A n c ds]:=⟨⟨_,hj,zM _⟩,trivial⟩
 have hfp:fps [Box.r F<|VS e sz A n c ds]=F:=by simp [fps,Box.fp]
 rcases ho2.2 with ⟨hv,hz⟩ | ⟨g,cap,cur,rfl,hg0,hg,hnc,hcm,hcs2,htk⟩
 ·omega
 ·have hgF:g∈F∨w.heap.size≤g:=by
   rcases hblk with hb | hb
   ·left
    rw [hF,← hb];simp [Value.ownBlock]
   ·right
    simp [Value.ownBlock] at hb;omega
  have hL:∀ x∈[g] ++ (σ.L Γ).filter (· ∉F),x∈σ.L Γ∨w.heap.size≤x:=fun x hx=>by
   rcases Jf.1 hx with hx | hx
   ·rw [Ja.1 hx];rcases hgF with h | h
    ·exact .inl (hFL g h)
    ·exact .inr h
   ·exact .inl (Jw.1 hx).1
  have hall:All ([g] ++ (σ.L Γ).filter (· ∉F)) w' (ds ++ es) (xs ++ cs):=by
   have h5:All (σ.L Γ ++ ([g] ++ (σ.L Γ).filter (· ∉F))) w' (ds ++ es) (xs ++ cs):=by
    refine ((ha.append hcs).less (fun x hx=> ?_)).keep hOn (fun x hx=>mL _<|hFL x hx);rcases Jf.1 hx with hx | hx
    ·exact .inl hx
    ·exact hL x hx
   exact h5.less (fun x hx=> .inl<|mR _ hx)
  obtain ⟨h6,h7⟩:=hh.give (post:=[.r [g]<|VS e sz (some ⟨g,0,none⟩) (n + m) cap<|ds ++ es]) hsub (by rw [hfp];exact hOn) (fun b hb=>by
   rw [Ja.1 hb];refine ⟨xs ++ cs,?_,ho2,I⟩;rw [hfp]
   exact hall) (by simp [fps,Box.fp]) (fun x hx=>by
   have hx:x=g:=by simpa [fps,Box.fp] using hx
   rw [hfp,hx]
   exact hgF)
  have e2:(execOp a.eval ⟨some k,.call { callee:= .builtin .append,args:= #[x,y],argTypes:= #[T,T] },ty,pos,af,gd⟩).run P w= .ok (.value<|.slice (some ⟨g,0,none⟩) (n + m) cap) w':=by
   simp only [execOp,resolve,invoke,builtin,JD,JK,Jv,List.map_toArray,JU,XC,hxv,hyv,hrun]
  unfold Oper.wp;rw [e2];exact hK [g] _ _ _ (fun x hx=>by rw [Ja.1 hx];exact hgF.imp (hS g) id) ⟨g,cap,I,I⟩ (h6.put (by simpa [yp] using hk) I) (hOn.mono (fun x hx _=>hS x hx))
theorem zbI {x y:Operand} {T e k c:Nat} {A:Option Addr} {F:LN} {α:Type} {enc:α→List D} {l l':List α} (j sz bytes:Nat) [Row enc sz] (hx:σ.ev x=some (isD<|.slice A l.length c)) (hj:σ.bx[j]? =some (.r F<|yi e sz enc A c l)) (hsrc:SrcT Γ σ y enc l') (hT:Yb P T e=true) (hE:elT P e sz bytes=true) (hlen:l.length + l'.length≤1099511627776) (hb:bytes≤128) (hS:∀ g∈F,g∈S) (hk:yp Γ.nt k=true):
  EfE P Γ S ⟨some k,.call { callee:= .builtin .append,args:= #[x,y],argTypes:= #[T,T] },ty,pos,af,gd⟩ σ (fun G σ'=>∃ A' F' c',G=fps [.r F'<|yi e sz enc A' c'<|l ++ l']∧σ'=(σ.give [j] [.r F'<|yi e sz enc A' c'<|l ++ l']).put k (isD<|.slice A' (l ++ l').length c')):=by
 cases l' with
 | nil=>
  intro a w hh K Q hK;have hxv:a.eval x= .slice A l.length c:=zR hh hx;obtain ⟨B,cy,hyv,hcy,hat⟩:=hsrc a w hh;obtain ⟨i,z,hI,h1,h2,h3,h4⟩:=KL hE;obtain ⟨xs,ha,hown,hF⟩:=hh.resAt hj
  have hnc:l.length≤c:=by
   rcases hown.2 with ⟨hv,hn⟩ | ⟨g,cap,cur,hv,_,hg,hnc,_⟩
   ·injection hv with h1 h2 h3;omega
   ·injection hv with h1 h2 h3;omega
  have hsub:SubBx σ.bx [j] [.r F<|yi e sz enc A c l]:=⟨⟨_,hj,zM _⟩,trivial⟩
  have hfp:fps [Box.r F<|yi e sz enc A c l]=F:=by simp [fps,Box.fp]
  have h5:=(hh.give (w':=w) (post:=[.r F<|yi e sz enc A c l]) hsub (Only.refl _ w) (fun b hb=>by
   rw [Ja.1 hb];refine (yi e sz enc A c l).less (hh.resAt hj) (fun x hx=> ?_);rw [hfp] at hx;rcases Jf.1 hx with hx | hx
   ·exact .inl (mL _<|yz.2 ⟨_,Jc hj,hx⟩)
   ·exact .inl (Jw.1 hx).1) (by rw [hfp];exact jU hh.nd<|Jc hj) (fun g hg=> .inl hg)).1
  have e2:(execOp a.eval ⟨some k,.call { callee:= .builtin .append,args:= #[x,y],argTypes:= #[T,T] },ty,pos,af,gd⟩).run P w= .ok (.value<|.slice A l.length c) w:=by
   rw [List.length_nil] at hyv
   cases B with
   | none=>cases A <;> simp [execOp,resolve,invoke,builtin,hxv,hyv,Builtin.append_,Jp<|yD hT,sizeOf,typeInfo,hI,Builtin.lenOf,Builtin.firstCells,storeCells,hnc]
   | some p=>cases A <;> simp [execOp,resolve,invoke,builtin,hxv,hyv,Builtin.append_,Jp<|yD hT,sizeOf,typeInfo,hI,Builtin.lenOf,Builtin.firstCells,storeCells,loadCells,loadCellsFrom,hnc]
  unfold Oper.wp;rw [e2];have h6:=h5.put (i:=k) (by simpa [yp] using hk) (d:=isD<|.slice A l.length c) (v:= .slice A l.length c) rfl;refine hK _ _ _ _ (fun x hx=> .inl<|hS x (by simpa [fps,Box.fp] using hx)) ⟨A,F,c,I,?_⟩ h6 (Only.refl _ w);rw [JS]
 | cons v l'=>
  have h:=EfE.appS (P:=P) (Γ:=Γ) (S:=S) (ty:=ty) (pos:=pos) (af:=af) (gd:=gd) (k:=k) j sz bytes hx hj hsrc (jh (enc:=enc) (sz:=sz) _) hT hE s9 (Row.pos (enc:=enc)) hlen hb hS hk;intro a w hh K Q hK;refine h a w hh K Q fun G σ' a' w' hG ⟨g,c',hGe,hT'⟩ hh' ho=>hK _ σ' a' w' (fun x hx=>hG x (by rw [hGe];simpa [fps,Box.fp] using hx)) ⟨some ⟨g,0,none⟩,[g],c',I,?_⟩ hh' ho;rw [hT'];unfold yi;rw [Jk,List.flatMap_append]
end
end
section
def zB (f:Nat→Int) (n:Nat):List Int:=(List.range n).map f
theorem zW {f:Nat→Int} {n:Nat}:(zB f n).length=n:=by simp [zB]
theorem yU {f:Nat→Int} {n i:Nat} (h:i < n):(zB f n)[i]? =some (f i):=by unfold zB;rw [JJ,List.getElem?_range h];rfl
theorem zbe {f:Nat→Int} {n i:Nat} (h:i < n):(zB f n).getD i 0=f i:=by rw [Jr,yU h];rfl
def Yv (f:Nat→Int) (n i:Nat):List Int:=zB (fun k=>if k < i then f k else 0) n
theorem Yz {f:Nat→Int} {n i:Nat}:(Yv f n i).length=n:=zW
theorem zbs {f:Nat→Int} {n:Nat}:Yv f n 0=List.replicate n 0:=by
 apply Xh;intro k;unfold Yv
 by_cases h:k < n
 ·rw [yU h,Xj,Jh h];rfl
 ·rw [JM (by rw [zW];omega),JM (by simp;omega)]
theorem zc8 {f:Nat→Int} {n i:Nat} (hi:i < n):(Yv f n i).set i (f i)=Yv f n (i + 1):=by
 apply Xh;intro k;unfold Yv
 by_cases h:k < n
 ·by_cases e:k=i
  ·subst e;rw [List.getElem?_set_self (by rw [zW];exact h),yU h];simp
  ·rw [List.getElem?_set_ne (fun h=>e h.symm),yU h,yU h]
   have hk:k < i↔k < i + 1:=by omega
   simp only [hk]
 ·rw [JM (by rw [Xl,zW];omega),JM (by rw [zW];omega)]
theorem zc9 {f:Nat→Int} {n i:Nat} (h:i=n):Yv f n i=zB f n:=by
 subst h;apply Xh;intro k;unfold Yv
 by_cases h:k < i
 ·rw [yU h,yU h,Jh h]
 ·rw [JM (by rw [zW];omega),JM (by rw [zW];omega)]
structure Wst where
 A:Option Addr
 c:Nat
 F:LN
theorem WP {x:Int}:Bls Tryz.prog 22 1 [0] [iD x] ([x].flatMap z7):=⟨3,fun L w vs hv=>by
 obtain ⟨u,rfl,rfl⟩:=zcu hv
 exact ⟨[.int .i64 x],⟨I,t9⟩,fun w'=>by kernel_rfl⟩⟩
theorem vlS_one {b:Int} {l:List Co.Cl} {ws:List Co.Wi} (hv:Co.VW b l ws) {i:Nat} {c:Co.Cl} (hc:l[i]? =some c):qX b l ws (fun z=>decide (z∈[c.win])) l.length=Co.bO b l ws i:=by
 unfold qX;have hi:=(Jg.1 hc).1;rw [Co.sm_set (g:=fun _=>0) hi fun j hj hji=> ?_,Co.sm_zero fun _ _=>rfl,Co.wnO_get hc,Jh<|Jo<|m9 rfl]
 ·omega
 ·rw [Jb];intro h;have h2:=oT h;rw [Co.wnO_get<|Je hj,Ja] at h2;exact hji (hv.c.inj (Je hj) hc h2)
theorem zdU {p q:Nat→Int}:∀ {l:LN},(∀ i∈l,p i=q i)→Co.mS p l=Co.mS q l
 | [],_=>rfl
 | i :: l,h=>by rw [Co.mS,Co.mS,h i<|mC ..,zdU fun j hj=>h j<|Jl _ hj]
theorem mS_tbl {p:Nat→Int} {n:Nat} {f:Int→Bool}:Co.mS (fun i=>(zB p n).getD i 0) (Co.mem n f)=Co.mS p (Co.mem n f):=zdU fun i hi=>by
 obtain ⟨k,hk⟩:=List.getElem?_of_mem hi;exact zbe (Co.mem_of hk).1
theorem zef {p:Nat→Int} {n c:Nat} (hn:n≤6) (hb:∀ i < n,-4398046511104≤p i∧p i≤4398046511104):Con Tryz.prog 105 [lsD z7<|zB p n,fnD 135 [paD [iD (n:Int)],paD [prD Tryz.prog jN<|Co.fB c]]] (iD<|Co.ic c p n):=
 (con_sum (zB p n) n (Co.fB c) hn zW fun i hi=>by rw [zbe hi];exact hb i hi).mono (Zk _) (zI (by rw [mS_tbl,Co.mS_ic]))
theorem con_sumO {p:Nat→Int} {n c:Nat} (hn:n≤6) (hb:∀ i < n,-4398046511104≤p i∧p i≤4398046511104):Con Tryz.prog 105 [lsD z7<|zB p n,fnD 135 [paD [iD (n:Int)],paD [prD Tryz.prog jN<|Co.fL c]]] (iD<|Co.oc c p n):=
 (con_sum (zB p n) n (Co.fL c) hn zW fun i hi=>by rw [zbe hi];exact hb i hi).mono (Zk _) (zI (by rw [mS_tbl,Co.mS_oc]))
theorem pow2_sub:∀ n≤6,∀ i < n,((2 ^ n:Nat):Int) - 1 - ((2 ^ i:Nat):Int)=((2 ^ n - 1 - 2 ^ i:Nat):Int):=by decide +kernel
theorem ic_bd {p:Nat→Int} {c n:Nat} {M:Int} (hM:0≤M) (hp:∀ i < n,0≤p i∧p i≤M):0≤Co.ic c p n∧Co.ic c p n≤(n:Int) * M:=by
 have h1:=Co.ic_oc c p n;have h2:=Co.oc_ub (c:=c) hM hp;have h3:=Co.oc_ub (c:=0) hM hp
 have h4:Co.oc 0 p n=Co.sm p n:=Co.sm_congr fun i _=>by simp [Co.bt]
 have h5:0≤Co.ic c p n:=Co.sm_nonneg fun i hi=>by have:=hp i hi;split <;> omega
 omega
theorem zaL {b:Int} {l:List Co.Cl} {ws:List Co.Wi} (hv:Co.VW b l ws) (hw:ws.length≤1000000):Con Tryz.prog 45 [iD b,lsD yJ l,lsD ZM ws] (ZH [lsD j9<|Co.slO b l ws,iD<|Co.bst b l ws,iD 0]):=by
 obtain ⟨B,rfl⟩:∃ B:Nat,b=B:=⟨b.toNat,by have:=hv.c.b1;omega⟩;exact ze8 B l ws hv hw
theorem bldMk {l m:List Int} {A:Option Addr} {n c:Nat}:Bld Tryz.prog 129 [0,1,2] [lsD z7 l,lsD z7 m,isD<|.slice A n c] [lsD z7 l,lsD z7 m,isD<|.slice A n c]:=fun L w vs hv=>by
 obtain ⟨u,v,z,rfl,h1,h2,rfl⟩:=all3 hv;have k1:=h1;have k2:=h2;obtain ⟨B,d,rfl,-⟩:=k1;obtain ⟨C,e,rfl,-⟩:=k2;exact ⟨[.slice B _ d,.slice C _ e,.slice A n c],⟨h1,h2,I,t9⟩,fun w'=>by kernel_rfl⟩
theorem pow_64 {i:Nat} (h:i≤6):2 ^ i≤64:=JG (Nat.pow_le_pow_right d9 h) d9
theorem ze4 (b:Int) (l:List Co.Cl) (ws:List Co.Wi) (hw:ws.length≤1000000) (hv:Co.VW b l ws):Con Tryz.prog 104 [iD b,lsD yJ l,lsD ZM ws] (ZH [lsD z7<|zB (Co.vO b l ws)<|2 ^ l.length,iD 0]):=by
 have hn6:=hv.c.n;have hb2:=hv.c.b2;have hb1:=hv.c.b1;obtain ⟨S,hS⟩:∃ S,S=2 ^ l.length:=⟨_,rfl⟩
 have hS64:S≤64:=by rw [hS];exact Co.pow_le64 hn6
 refine WH Tryz.func104 k9 I k9 fun base w0=>(zn (SWl.e2 (S:=[]) (Y6 I (fun _ _ _ h=>Zo<|One.h _ _ _ h) I) fun g4=>(zf I<|zf I<|ze<|zh<|zn<|zd I<|za I (zp 0 I I I k9 zm)<|zd I<|zu (S:=[]) (zv (KM b l ws o9 hw) I ⟨zc _,zc _,zc _,t9⟩ I)<|za I (yu I)<|ze<|zK I (by simp [hv])<|zq<|zj<|zn<|za I (zp 0 I I I k9 zm)<|za I (zT (e:=70) I k9)<|za I (jK (s:=l.length) (r:=(S:Int)) I I (by rw [hS];exact shl1 _ hn6)) (SWl.e2 (S:=[]) (Zu (e:=3) (n:=S) z7 0 8 I I k9 k9 I I I I o9 d9 I) fun g22=>(zf I<|ze<|zh<|zn<|zd I<|za I (Zx (e:=3) I k9)<|zd I<|ze<|SW.block<|SW.marks0 ?_)))));refine SW.loopG (ι:={p:Nat × LN // p.1≤S}) (fun p=>Cx.mks ⟨Tryz.f104.ntmps,base,w0,[],[]⟩ p.1.2) (fun p=>yb [(0,iD b),(2,lsD ZM ws),(4,pA g4),(8,isD<|.slice (some ⟨g22,0,none⟩) (Yv (Co.vO b l ws) S p.1.1).length S),(24,iD (S:Int)),(25,iD (p.1.1:Int))] [.c g4 [lsD yJ l],.r [g22]<|yi 3 1 z7 (some ⟨g22,0,none⟩) S<|Yv (Co.vO b l ws) S p.1.1,.r p.1.2 Y0]) (fun p=>S - p.1.1) (⟨(0,[]),JC _⟩) I ?_ ?_
 ·exact ⟨⟨_,I,⟨lq I,⟨lq I,⟨lq I,⟨⟨_,I,zI (by rw [Yz])⟩,(sT I)⟩⟩⟩⟩⟩,[0,1,2],by decide,⟨la rfl,⟨⟨_,rfl,(by rw [zbs];exact zM _)⟩,⟨lR rfl,trivial⟩⟩⟩⟩
 ·rintro ⟨⟨c,ds⟩,hc⟩ K0 hK0;dsimp only at hc ⊢;refine zn (za I (yc I I)<|ze<|zh<|zC I (fun hb26=> ?_) (fun hb26=> ?_))
  ·have h26:(c:Int) < (S:Int):=oT hb26
   refine zq (zj<|zh<|SW.block<|zn<|zd I<|zf I<|zN (SWl.e2 (S:=[]) (Ef.alloc (zs:=[.slice none 0 0]) k9 I) fun g10=>(ze<|zh<|zn<|za I (zp 0 I I I k9 zm)<|za I (zT (e:=70) I k9)<|zd I<|za I (Yn [.int .i64 (c:Int)] I)<|zu (S:=[]) (zv (Yj l.length<|Co.fB c) I ⟨zc _,zd1 o9,t9⟩ I)<|ze<|SW.block<|Y5 3 1 z7<|SW.sub (σ':=yb [(0,_),(2,_),(4,_),(8,_),(24,_),(25,_),(10,_),(9,_),(32,_)] [_,_,_,_,_]) (sB [0,1,2,3,4] I I)<|qV (gf:=135) (ps:=[33]) (ib:=ibM) (dd:=ddM) (items:=(Co.mem l.length<|Co.fB c)) (fun i bx=>∃ t:Wst,bx=[.c g4 [lsD yJ l],.r [g22]<|yi 3 1 z7 (some ⟨g22,0,none⟩) S<|Yv (Co.vO b l ws) S c,.r ds Y0,.c g10 [isD<|.slice t.A (((Co.mem l.length<|Co.fB c).take i).map<|Co.wnO l).length t.c],.r t.F<|yi 3 1 z7 t.A t.c<|((Co.mem l.length<|Co.fB c).take i).map<|Co.wnO l]) (fun o i bx=>match o with | none=>False | some n=>False) (fun i x k σ=>∃ t:Wst,σ=yb [(4,pA g4),(10,pA g10),(11,iD (x:Int))] [.c g4 [lsD yJ l],.r [g22]<|yi 3 1 z7 (some ⟨g22,0,none⟩) S<|Yv (Co.vO b l ws) S c,.r ds Y0,.c g10 [isD<|.slice t.A (((Co.mem l.length<|Co.fB c).take i).map<|Co.wnO l).length t.c],.r t.F<|yi 3 1 z7 t.A t.c<|((Co.mem l.length<|Co.fB c).take i).map<|Co.wnO l]) qg (ZP l.length (Co.fB c) hn6) I (⟨⟨none,0,[]⟩,I⟩) k9 (fun _ _=>I) ?_ ?_ ?_ ?_ ?_)))
   ·rintro i x k hx bx ⟨t,rfl⟩ y base w0;exact YE k9 (fun _ _ h=>h) (zf I<|zF<|jt (σ':=yb [(4,pA g4),(10,pA g10),(11,iD (x:Int))] [.c g4 [lsD yJ l],.r [g22]<|yi 3 1 z7 (some ⟨g22,0,none⟩) S<|Yv (Co.vO b l ws) S c,.r ds Y0,.c g10 [isD<|.slice t.A (((Co.mem l.length<|Co.fB c).take i).map<|Co.wnO l).length t.c],.r t.F<|yi 3 1 z7 t.A t.c<|((Co.mem l.length<|Co.fB c).take i).map<|Co.wnO l]) ⟨t,I⟩<|sB [0,1,2,3,4] I I)
   ·rintro i x k hx _ ⟨t,rfl⟩ y base w0;have hxn:=(Co.mem_of hx).1;obtain ⟨cl,hcl⟩:∃ y,l[x]? =some y:=⟨_,Je hxn⟩
    have hlt:((Co.mem l.length<|Co.fB c).take i).length≤6:=by have h1:=Co.mem_len (n:=l.length) (f:=Co.fB c);rw [JE];omega
    refine qU (j5 (t.F ++ (g10 :: [])) (.q 0<|.r 1<|.r 2<|.r 3<|.r 4<|.r 5<|.n 6 (.e 7 (.e 8 .fin .no) .no) .no) k9 (fun _ _ h=>h) k9 k9 (fun d _ _ _ _ h=>by cases d <;> exact h)<|ZX I I (zp 3 I I I k9 zm)<|zl I I (zp 0 I I I k9<|Zl 4 I d9<|ZR 3 I d9 zm)<|zz I I<|zl I I (zU (e:=70) 2 I I k9 k9 o9 (by simpa using hcl))<|zl I I (yo (n:=0) I k9 (show 0 < 2 by decide))<|zl I I (zS I I k9<|zbr (j:=4) I<|jT (j:=3) I Vd)<|yZ I (YB I I WP I)<|zdv I (zbI 4 1 8 I I (Y4 (l:=[_]) I) k9 k9 (by rw [JO,Xq];omega) d9 (fun _ h=>mL _ h) I) ?_ yB)
    rintro _ _ ⟨A41,F41,c41,rfl,rfl⟩;exact Zm I (yW 3 I I I k9 I<|mL _<|mR _ mC) (y9<|SN.block<|jt (σ':=yb [] [.c g4 [lsD yJ l],.r [g22]<|yi 3 1 z7 (some ⟨g22,0,none⟩) S<|Yv (Co.vO b l ws) S c,.r ds Y0,.c g10 [isD<|.slice (⟨A41,c41,F41⟩:Wst).A (((Co.mem l.length<|Co.fB c).take<|i + 1).map<|Co.wnO l).length (⟨A41,c41,F41⟩:Wst).c],.r (⟨A41,c41,F41⟩:Wst).F<|yi 3 1 z7 (⟨A41,c41,F41⟩:Wst).A (⟨A41,c41,F41⟩:Wst).c<|((Co.mem l.length<|Co.fB c).take<|i + 1).map<|Co.wnO l]) ⟨⟨A41,c41,F41⟩,I⟩<|⟨⟨_,I,t9⟩,[0,1,2,3,4],by decide,⟨la rfl,⟨lR rfl,⟨lR rfl,⟨⟨_,rfl,⟨zI (by rw [Co.wnr_take hx hcl]),trivial⟩⟩,⟨⟨_,rfl,(by dsimp only;rw [Co.wnr_take hx hcl];exact zM _)⟩,trivial⟩⟩⟩⟩⟩⟩)
   ·rintro dk0 bx ⟨t,rfl⟩;refine SN.block (zj<|zh<|ZU zeO [2,5] d9 ⟨lR I,lR I,t9⟩ ?_);rintro _ rfl;exact zi (zd I<|za I (zp 0 I I I k9 zm)<|zd I<|za I (zp 2 I I I k9 zm)<|zdw 3 46 I I (by rw [List.take_of_length_le<|Nat.le_refl _];exact zc _)<|zu (S:=[]) (zv (con_best b l ws (Co.wnr l c) (Co.bt c) hw hv (by have:=Co.wnr_len (l:=l) (c:=c);omega) (Co.wnr_sorted hv.c) (Co.wnr_mem hv.c)<|Co.wnr_bt hv.c) I ⟨zc _,zc _,zc _,zc _,t9⟩ I)<|zd I<|za I (zo I I)<|za I (zo I I)<|zf I<|zf I<|ze<|zh<|zn<|zd I<|za I (yv I I)<|ze<|zK I I<|zq<|zj<|zi<|zd I<|zd I<|zd I<|za I (yf 1 1 I I I k9 k9 o9 (by rw [Yz];omega))<|zu (S:=_) (yM (v:=(Co.vO b l ws c)) 1 I I I I k9 (by rw [Yz];omega) (fun _ h=>h))<|zF<|SN.block<|zj<|zi<|za I (Rd.add I I ⟨by omega,by omega⟩)<|zd I<|zF (fun aK wK hh=>hK0 (⟨(c + 1,dk0 :: ds),by simp only;omega⟩) (by simp only;omega) aK wK<|hh.sub<|⟨⟨_,I,⟨lq I,⟨lq I,⟨lq I,⟨⟨_,I,zI (by rw [Yz,Yz])⟩,⟨lq I,⟨⟨_,I,zI s9⟩,t9⟩⟩⟩⟩⟩⟩⟩,[0,3,2],by decide,⟨la rfl,⟨⟨_,rfl,(by dsimp only;rw [Int.toNat_natCast,zc8 o9];exact zM _)⟩,⟨lR rfl,trivial⟩⟩⟩⟩))
   ·rintro _ _ _ _ hX;exact hX.elim
   ·rintro _ _ _ hX;exact hX.elim
  ·have h26:¬(c:Int) < (S:Int):=oF hb26;refine zQ ?_
   repeat (first | refine zX ?_ | refine zY d9 ?_)
   exact zZ (zj<|zn<|zd I<|zf I<|zf I<|ze<|SW.freezeT 1 6 I I (by rw [zc9 (show c=S by omega),hS];exact zc _)<|jp (fn:=Tryz.f104) (fun _ _ h=>h)<|zew _ 1 I<|RM.fin<|Rs.le (Rs.two I (zk I)<|zk I)<|zc _)
theorem zek (b:Int) (l:List Co.Cl) (ws:List Co.Wi) (hw:ws.length≤1000000) (hv:Co.VW b l ws):Con Tryz.prog 46 [iD b,lsD yJ l,lsD ZM ws] (ZH [lsD z7<|zB (Co.bO b l ws) l.length,iD 0]):=by
 have hn6:=hv.c.n;have hb2:=hv.c.b2;have hb1:=hv.c.b1;refine yy Tryz.func46 k9 I k9 fun base w0=>(zn<|zf I<|zf I<|zN<|zd I<|zd I<|zd I<|zu (S:=[]) (zv (zaL hv hw) I ⟨zc _,zc _,zc _,t9⟩ I)<|zd I<|za I (zo I I)<|za I (zo I I)<|za I (zo I I)<|zf I<|zf I<|zf I<|ze<|zh<|zn<|zd I<|za I (yv I I)<|ze<|zK I I<|zq<|zj<|zn<|zd I<|za I (zT (e:=70) I k9) (SWl.e2 (S:=[]) (Zu (e:=3) (n:=l.length) z7 0 8 I I k9 k9 I I I I o9 d9 I) fun g27=>(zf I<|ze ?_)));refine zh (zn<|zd I<|za I (zT (e:=70) I k9)<|zd I<|ze<|SW.block<|yd (ι:={i:Nat // i≤l.length}) (fun i=>yb [(0,iD b),(1,lsD yJ l),(2,lsD ZM ws),(8,lsD j9<|Co.slO b l ws),(11,isD<|.slice (some ⟨g27,0,none⟩) (Yv (Co.bO b l ws) l.length i.1).length l.length),(28,lsD yJ l),(29,iD (l.length:Int)),(30,iD (i.1:Int))] [.r [g27]<|yi 3 1 z7 (some ⟨g27,0,none⟩) l.length<|Yv (Co.bO b l ws) l.length i.1]) (fun i=>l.length - i.1) (⟨0,JC _⟩) ?_ ?_)
 ·exact ⟨⟨_,I,⟨lq I,⟨lq I,⟨lq I,⟨lq I,⟨⟨_,I,zI (by rw [Yz])⟩,(sT I)⟩⟩⟩⟩⟩⟩,[0],by decide,⟨⟨_,rfl,(by rw [zbs];exact zM _)⟩,trivial⟩⟩
 ·rintro ⟨i,hi⟩ K0 hK0;dsimp only at hi ⊢;refine zn (za I (yc I I)<|ze<|zh<|zC I (fun hb31=> ?_) (fun hb31=> ?_))
  ·have h31:(i:Int) < (l.length:Int):=oT hb31;refine zq (zj<|zh<|SW.block<|zh ?_);obtain ⟨x,hx⟩:∃ x,l[i]? =some x:=⟨_,Je o9⟩;refine zi (zd I<|za I (zU (e:=70) 2 I I k9 k9 o9 (by simpa using hx))<|za I (yn 2 I k9 d9 (show 2≤2 by decide) s9) (SWl.e2 (S:=[]) (Ef.alloc (zs:=[.int .i64 0,.int .i64 0]) k9 I) fun g13=>(zf I<|zu (S:=[_]) (zA 1 I I I k9 I<|m9 I)<|zN<|zd I<|zd I<|zd I<|zd I<|zd I<|zd I<|za I (zg (n:=0) I k9)<|za I (zp 1 I I I k9 zm)<|zu (S:=[]) (YB I I WP I)<|zu (S:=[]) (zv (con_value b l ws [x.win] hw hv s9 (fun j y z h1 h2=>by simp at h2) (fun j y h=>⟨i,by have h2:=Jc h;rw [Ja] at h2;rw [h2];exact Co.fC_some hv.c hx⟩)) I ⟨zc _,zc _,zc _,zc _,zc _,t9⟩ I)<|zd I<|za I (zo I I)<|za I (zo I I)<|za I (yf 0 1 I I I k9 k9 o9 (by rw [Yz];omega))<|zu (S:=_) (yM (v:=(qX b l ws (fun z=>decide (z∈[x.win])) l.length)) 0 I I I I k9 (by rw [Yz];omega) (fun _ h=>h))<|zf I<|zN<|zd I<|za I (yv I I)<|ze<|zK I I<|zq<|SN.block<|zj<|zi ?_)))
   exact za I (Rd.add I I ⟨by omega,by omega⟩) (zd I<|zF (fun aK wK hh=>hK0 (⟨i + 1,by omega⟩) (by dsimp only;omega) aK wK<|hh.sub<|⟨⟨_,I,⟨lq I,⟨lq I,⟨lq I,⟨lq I,⟨⟨_,I,zI (by dsimp only;rw [Yz,Yz])⟩,⟨lq I,⟨lq I,⟨⟨_,I,zI s9⟩,t9⟩⟩⟩⟩⟩⟩⟩⟩⟩,[1],by decide,⟨⟨_,rfl,(by dsimp only;rw [Int.toNat_natCast,vlS_one hv hx,zc8 o9];exact zM _)⟩,trivial⟩⟩))
  ·have h31:¬(i:Int) < (l.length:Int):=oF hb31;refine zQ ?_
   repeat (first | refine zX ?_ | refine zY d9 ?_)
   refine zZ (zj<|zn<|zd I<|zf I<|zf I<|ze<|SW.freezeT 0 6 I I (by rw [zc9 (show i=l.length by omega)];exact zc _)<|zO (fn:=Tryz.f46) (fun _ _ h=>h)<|Rs.le (Rs.two I (zk I)<|zk I) ?_);exact zc _
theorem zbu (V bd vc : Nat → Int) (n c : Nat) (hn : n ≤ 6) (hc : c < 2 ^ n) (hV : ∀ c < 2 ^ n, 0 ≤ V c ∧ V c ≤ 6597069766656) (hb : ∀ i < n, 0 ≤ bd i ∧ bd i ≤ 1099511627776) : Con Tryz.prog 100 [Z8 [lsD z7 (zB V (2 ^ n)), lsD z7 (zB bd n), lsD z7 (zB vc n)], iD (c : Int)] (iD (Co.need V bd n c)) := by
  have hc64 : c < 64 := Nat.lt_of_lt_of_le hc (Co.pow_le64 hn)
  have hVc := hV c hc
  have hi := ic_bd (c := c) d9 hb
  refine yy Tryz.func100 k9 rfl k9 fun base w0 => (zh (zi (Zc (S := []) (ym rfl rfl) ?_)))
  rintro _ ⟨g2, rfl⟩
  refine za rfl (jM rfl) (zF (zj (zh (yl [] (.r 0 (.r 1 (.r 2 (.r 3 (.r 4 (.r 5 (.r 6 (.r 7 (.r 8 (.r 9 (.r 10 (.r 11 (.n 12 (.n 13 (.r 14 (.r 15 .fin)) .no) .no))))))))))))) k9 k9 (fun d _ _ _ _ h => by cases d <;> exact h) (zl rfl rfl (zg (n := 0) rfl k9) (zl rfl rfl (zp 0 rfl rfl rfl k9 zm) (zl rfl rfl (zH rfl) (zl rfl rfl (zU (e := 3) 1 rfl rfl k9 k9 o9 (by rw [Int.toNat_natCast]; exact yU hc)) (zl rfl rfl (zS rfl rfl k9 s9) (zl rfl rfl (zg (n := 1) rfl k9) (zl rfl rfl (zp 0 rfl rfl rfl k9 zm) (zl rfl rfl (zg (n := 1) rfl k9) (zl rfl rfl (zp 0 rfl rfl rfl k9 zm) (zl rfl rfl (zT (e := 3) rfl k9) (zl rfl rfl (zH rfl) (zl rfl rfl (Yn [.int .i64 (c : Int)] rfl) (ZB rfl (zv (Yj n (Co.fB c)) rfl ⟨zI (by rw [zW]), zd1 hc64, trivial⟩ rfl) ?_ yB)))))))))))))))))
  rintro _ rfl
  refine ZB rfl (zv (zef (p := bd) hn (fun i hi => by have := hb i hi; omega)) rfl ⟨zc _, zc _, trivial⟩ rfl) ?_ yB
  rintro _ rfl
  refine zl rfl rfl (yG rfl rfl ⟨by omega, by omega⟩) (zl rfl rfl (jM rfl) (y9 (zj (zO (fn := Tryz.f100) (fun _ _ h => h) (Rs.le (zG rfl (zk rfl)) ?_)))))
  exact zc _
theorem zbv (b:Int) (l:List Co.Cl) (ws:List Co.Wi) (hw:ws.length≤1000000) (hv:Co.VW b l ws):Con Tryz.prog 52 [iD b,lsD yJ l,lsD ZM ws] (ZH [Z8 [lsD z7<|zB (Co.vO b l ws)<|2 ^ l.length,lsD z7<|zB (Co.bO b l ws) l.length,lsD z7<|zB (Co.vcg (Co.vO b l ws) (Co.bO b l ws) l.length) l.length],iD 0]):=by
 have hn6:=hv.c.n;have hb2:=hv.c.b2;have hb1:=hv.c.b1;obtain ⟨S,hS⟩:∃ S,S=2 ^ l.length:=⟨_,rfl⟩
 have hS64:S≤64:=by rw [hS];exact Co.pow_le64 hn6
 have hmk:=Co.mkt hv;refine yy Tryz.func52 k9 I k9 fun base w0=>(zn (SWl.e2 (S:=[]) (Ef.alloc (zs:=[.slice none 0 0,.slice none 0 0,.slice none 0 0]) k9 I) fun g6=>(zf I<|zN<|zd I<|zd I<|zd I<|zu (S:=[]) (zv (ze4 b l ws hw hv) I ⟨zc _,zc _,zc _,t9⟩ I)<|zd I<|za I (zo I I)<|za I (zo I I)<|zf I<|zf I<|ze<|zh<|zn<|zd I<|za I (yv I I)<|ze<|zK I I<|zq<|zj<|zn<|zd I<|zd I<|zd I<|zu (S:=[]) (zv (zek b l ws hw hv) I ⟨zc _,zc _,zc _,t9⟩ I)<|zd I<|za I (zo I I)<|za I (zo I I)<|zf I ?_)));refine zf I (ze<|zh<|zn<|zd I<|za I (yv I I)<|ze<|zK I I<|zq<|zj<|zn<|zd I<|zd I<|zd I<|za I (zT (e:=70) I k9) (SWl.e2 (S:=[]) (Zu (e:=3) (n:=l.length) z7 0 8 I I k9 k9 I I I I o9 d9 I) fun g40=>(za I (yF I I bldMk) (SWl.e2 (S:=[]) (Ef.alloc (zs:=[.slice none 0 0,.slice none 0 0,.slice none 0 0]) k9 I) fun g11=>(zu (S:=[_]) (zA 2 I I I k9 I<|m9 I)<|ze<|zh<|zh<|SW.sub (σ':=yb [(1,lsD yJ l),(6,pA g6),(8,lsD z7<|zB (Co.vO b l ws) S),(10,lsD z7<|zB (Co.bO b l ws) l.length),(11,pA g11)] [.c g6 [isD<|.slice none 0 0,isD<|.slice none 0 0,isD<|.slice none 0 0],.c g11 [lsD z7<|zB (Co.vO b l ws) S,lsD z7<|zB (Co.bO b l ws) l.length,isD<|.slice (some ⟨g40,0,none⟩) (Yv (Co.vcg (Co.vO b l ws) (Co.bO b l ws) l.length) l.length 0).length l.length],.r [g40]<|yi 3 1 z7 (some ⟨g40,0,none⟩) l.length<|Yv (Co.vcg (Co.vO b l ws) (Co.bO b l ws) l.length) l.length 0]) (⟨⟨_,I,⟨lq I,⟨lq I,⟨⟨_,I,(by rw [hS];exact zc _)⟩,(sT I)⟩⟩⟩⟩,[0,2,1],by decide,⟨la rfl,⟨⟨_,rfl,⟨(by rw [hS];exact zc _),zc _,zI (by rw [Yz]),trivial⟩⟩,⟨⟨_,rfl,(by rw [zbs];exact zM _)⟩,trivial⟩⟩⟩⟩)<|zi<|zd I<|za I (zT (e:=70) I k9)<|zd I<|ze<|SW.block<|yd (ι:={i:Nat // i≤l.length}) (fun i=>yb [(1,lsD yJ l),(6,pA g6),(8,lsD z7<|zB (Co.vO b l ws) S),(10,lsD z7<|zB (Co.bO b l ws) l.length),(11,pA g11),(43,iD (l.length:Int)),(44,iD (i.1:Int))] [.c g6 [isD<|.slice none 0 0,isD<|.slice none 0 0,isD<|.slice none 0 0],.c g11 [lsD z7<|zB (Co.vO b l ws) S,lsD z7<|zB (Co.bO b l ws) l.length,isD<|.slice (some ⟨g40,0,none⟩) (Yv (Co.vcg (Co.vO b l ws) (Co.bO b l ws) l.length) l.length i.1).length l.length],.r [g40]<|yi 3 1 z7 (some ⟨g40,0,none⟩) l.length<|Yv (Co.vcg (Co.vO b l ws) (Co.bO b l ws) l.length) l.length i.1]) (fun i=>l.length - i.1) (⟨0,Nat.zero_le _⟩) ?_ ?_)))))
 ·exact (sB [0,1,2] I I)
 ·rintro ⟨i,hi⟩ K0 hK0;dsimp only at hi ⊢;refine zn (za I (yc I I)<|ze<|zh<|zC I (fun hb45=> ?_) (fun hb45=> ?_))
  ·have h45:(i:Int) < (l.length:Int):=oT hb45;refine zq (zj<|zh<|SW.block<|zn<|zd I<|zf I<|ze<|zh ?_);obtain ⟨o,ho⟩:∃ o,o=S - 1 - 2 ^ i:=⟨_,rfl⟩
   have hoS:o < S:=by rw [ho,hS];exact (Co.fullN _ hn6 i o9).1
   have hvcg:Co.vO b l ws o - Co.ic o (Co.bO b l ws) l.length=Co.vcg (Co.vO b l ws) (Co.bO b l ws) l.length i:=by rw [ho,hS];rfl
   have h2i:=pow_64 (i:=i) o9;have hvo:=Co.vO_ub hv o;have hic:=ic_bd (p:=(Co.bO b l ws)) (c:=o) (n:=l.length) (M:=1099511627776) d9 hmk.bd0
   exact zi (zd I<|za I (zT (e:=3) I k9)<|za I (Rd.mono (yG I I ⟨by rw [zW];omega,by rw [zW];omega⟩) (show Le _ (iD<|(S:Int) - 1) from zI (by rw [zW])))<|zd I<|za I (jK (s:=i) (r:=((2 ^ i:Nat):Int)) I I<|shl1 i o9)<|za I (Rd.mono (yG I I ⟨by omega,by omega⟩) (show Le _ (iD (o:Int)) from zI (by rw [ho,hS];congr 1;exact pow2_sub _ hn6 i o9)))<|zf I<|ze<|yl ([g40] ++ []) (rr [0,1,2,3,4,5]<|.q 6<|rr [7,8,9,10,11]<|.n 12 (.n 13 (.r 14<|.r 15<|.e 16 .fin .no) .no) .no) k9 k9 (fun d _ _ _ _ h=>by cases d <;> exact h)<|zl I I (zg (n:=2) I k9)<|zl I I (zp 1 I I I k9<|Zl 2 I d9 zm)<|zz I I<|zz I I<|zz I I<|zl I I (zU (e:=3) 1 I I k9 k9 o9 (by rw [Int.toNat_natCast];exact yU hoS))<|ZX I I (zS I I k9 s9)<|zz I I<|zz I I<|zl I I (zT (e:=70) I k9)<|zz I I<|zl I I (Yn [.int .i64 (o:Int)] I)<|yZ I (zv (Yj l.length<|Co.fB o) I ⟨zc _,zd1 o9,t9⟩ I)<|yZ I (zv (zef (p:=(Co.bO b l ws)) hn6 (fun i hi=>by have:=hmk.bd0 i hi;omega)) I ⟨zc _,zc _,t9⟩ I)<|zl I I (yG I I ⟨by omega,by omega⟩)<|zl I I (yf 2 1 I I I k9 k9 o9 (by rw [Yz];omega))<|Zm I (yM (v:=(Co.vO b l ws o - Co.ic o (Co.bO b l ws) l.length)) 2 I I I I k9 (by rw [Yz];omega) (fun _ h=>mL _ h))<|y9<|SN.block<|zj<|zi<|za I (Rd.add I I ⟨by omega,by omega⟩)<|zd I<|zF (fun aK wK hh=>hK0 (⟨i + 1,by omega⟩) (by dsimp only;omega) aK wK<|hh.sub<|⟨⟨_,I,⟨lq I,⟨lq I,⟨lq I,⟨lq I,⟨lq I,⟨lq I,⟨⟨_,I,zI s9⟩,t9⟩⟩⟩⟩⟩⟩⟩⟩,[0,1,2],by decide,⟨la rfl,⟨⟨_,rfl,⟨zc _,zc _,zI (by dsimp only;rw [Yz,Yz]),trivial⟩⟩,⟨⟨_,rfl,(by dsimp only;rw [Int.toNat_natCast,hvcg,zc8 o9];exact zM _)⟩,trivial⟩⟩⟩⟩))
  ·have h45:¬(i:Int) < (l.length:Int):=oF hb45;refine zQ ?_
   repeat (first | refine zX ?_ | refine zY d9 ?_)
   refine zZ (zj<|zh<|SW.freezeC 1 2 2 I I I<|SW.sub (σ':=yb [(6,pA g6),(11,pA g11)] [.c g6 [isD<|.slice none 0 0,isD<|.slice none 0 0,isD<|.slice none 0 0],.c g11 [lsD z7<|zB (Co.vO b l ws) S,lsD z7<|zB (Co.bO b l ws) l.length,lsD z7<|Yv (Co.vcg (Co.vO b l ws) (Co.bO b l ws) l.length) l.length i]]) (sB [0,1] I I)<|zi<|za I (zx 1 3 I I k9 I zm)<|zu (S:=[_]) (zA 0 I I I k9 I<|m9 I)<|zf I<|ze<|zO (fn:=Tryz.f52) (fun _ _ h=>h)<|Rs.le (Rs.two I (yx 0 I I k9)<|zk I) ?_);exact Zf ⟨Le.agg ⟨(by rw [hS];exact zc _),zc _,(by rw [zc9 (show i=l.length by omega)];exact zc _),t9⟩,zc _,t9⟩
theorem con_vcg (b:Int) (l:List Co.Cl) (ws:List Co.Wi) (hw:ws.length≤1000000) (hv:Co.VW b l ws):Con Tryz.prog 47 [iD b,lsD yJ l,lsD ZM ws] (ZH [lsD z7<|zB (Co.vcg (Co.vO b l ws) (Co.bO b l ws) l.length) l.length,iD 0]):=by
 refine yy Tryz.func47 k9 I k9 fun base w0=>(zn<|zf I<|zf I<|zN<|zd I<|zd I<|zd I<|zu (S:=[]) (zv (zbv b l ws hw hv) I ⟨zc _,zc _,zc _,t9⟩ I)<|zd I<|za I (zo I I)<|za I (zo I I) (SWl.e2 (S:=[]) (Ef.alloc (zs:=[.slice none 0 0,.slice none 0 0,.slice none 0 0]) k9 I) fun g8=>(zu (S:=[_]) (zA 0 I I I k9 I<|m9 I)<|zf I<|zN<|za I (zg (n:=2) I k9)<|za I (zp 0 I I I k9 zm)<|zd I<|zf I<|zf I<|ze<|zO (fn:=Tryz.f47) (fun _ _ h=>h)<|Rs.le (Rs.two I (zk I)<|zk I) ?_)));exact zc _
end
end Sx
end Go.Proofs.YtfoafihodanmhaaGreatDoor
namespace Go.Proofs.YtfoafihodanmhaaGreatDoor
namespace Nm
def dg (B x:Nat):LN:=if h:x=0∨B < 2 then [] else x % B :: dg B (x / B)
termination_by x
decreasing_by exact Nat.div_lt_self o9 o9
theorem dg_zero (B:Nat):dg B 0=[]:=by rw [dg];simp
theorem dg_pos {B x:Nat} (hB:2≤B) (hx:x≠0):dg B x=x % B :: dg B (x / B):=by
 rw [dg,dif_neg o9]
def pad (B:Nat):Nat→Nat→LN
 | 0,_=>[]
 | n + 1,x=>x % B :: pad B n (x / B)
@[simp] theorem pad_length (B:Nat):∀ n x,(pad B n x).length=n
 | 0,_=>rfl
 | n + 1,x=>by rw [pad,Xm,pad_length B n]
theorem pad_getD (B:Nat):∀ (n x i:Nat),i < n→(pad B n x).getD i 0=x / B ^ i % B
 | n + 1,x,0,_=>by simp [pad]
 | n + 1,x,i + 1,h=>by
  rw [pad,List.getD_cons_succ,pad_getD B n (x / B) i o9,Nat.div_div_eq_div_mul,XI,Nat.mul_comm]
theorem pad_zero (B:Nat):∀ n,pad B n 0=List.replicate n 0
 | 0=>rfl
 | n + 1=>by rw [pad,Nat.zero_mod,Nat.zero_div,pad_zero B n,Xc]
theorem pad_lt {B:Nat} (hB:0 < B):∀ n x,∀ d∈pad B n x,d < B
 | 0,_,d,h=>by cases h
 | n + 1,x,d,h=>by
  rw [pad,Jt] at h;rcases h with rfl | h
  ·exact Nat.mod_lt _ hB
  ·exact pad_lt hB n _ d h
theorem pad_ext {B n x y:Nat} (h:∀ i,i < n→x / B ^ i % B=y / B ^ i % B):pad B n x=pad B n y:=by
 refine List.ext_getElem s9 fun i h1 h2=> ?_;have e1:=pad_getD B n x i (by simpa using h1);have e2:=pad_getD B n y i (by simpa using h1);rw [Jr,Je h1,Option.getD_some] at e1;rw [Jr,Je h2,Option.getD_some] at e2;rw [e1,e2,h i (by simpa using h1)]
theorem eq_pad {B n x:Nat} {l:LN} (hl:l.length=n) (h:∀ i,i < n→l.getD i 0=x / B ^ i % B):l=pad B n x:=by
 refine List.ext_getElem (by simpa using hl) fun i h1 h2=> ?_;have e2:=pad_getD B n x i o9;rw [Jr,Je h2,Option.getD_some] at e2;have e1:=h i o9;rw [Jr,Je h1,Option.getD_some] at e1;rw [e1,e2]
theorem zcW {B n x y k d:Nat} (hk:k < n) (hd:y / B ^ k % B=d) (h:∀ i,i < n→i≠k→x / B ^ i % B=y / B ^ i % B):(pad B n x).set k d=pad B n y:=by
 refine eq_pad s9 fun i hi=> ?_
 by_cases e:i=k
 ·subst e;rw [Jr,List.getElem?_set_self (by simpa using hk),Option.getD_some,hd]
 ·rw [Jr,List.getElem?_set_ne o9,← Jr,pad_getD B n x i hi,h i hi e]
theorem div_mod_low {B x i k:Nat} (hB:0 < B) (h:i < k):(x % B ^ k) / B ^ i % B=x / B ^ i % B:=by
 obtain ⟨d,rfl⟩:∃ d,k=i + 1 + d:=⟨k - (i + 1),by omega⟩
 have e:B ^ (i + 1 + d)=B ^ i * (B * B ^ d):=by rw [Nat.pow_add,XI,Nat.mul_assoc]
 rw [e,Nat.mod_mul_right_div_self,Nat.mod_mul_right_mod]
theorem pad_next {B n x k d:Nat} (hB:0 < B) (hk:k < n) (hx:x < B ^ k) (hd:d < B):(pad B n x).set k d=pad B n (x + d * B ^ k):=by
 have hp:0 < B ^ k:=Nat.pow_pos hB
 have e0:(x + d * B ^ k) / B ^ k=d:=by rw [Nat.add_mul_div_right _ _ hp,Nat.div_eq_of_lt hx,JF]
 refine zcW hk (by rw [e0,Nat.mod_eq_of_lt hd]) fun i hi hne=> ?_
 by_cases h:i < k
 ·rw [← div_mod_low (x:=x + d * B ^ k) hB h,Nat.add_mul_mod_self_right,Nat.mod_eq_of_lt hx]
 ·have hki:k < i:=by omega
  obtain ⟨e,rfl⟩:∃ e,i=k + 1 + e:=⟨i - (k + 1),by omega⟩
  have e1:B ^ (k + 1 + e)=B ^ k * (B * B ^ e):=by rw [Nat.pow_add,XI,Nat.mul_assoc]
  have e2:(x + d * B ^ k) / (B ^ k * (B * B ^ e))=0:=by rw [← Nat.div_div_eq_div_mul,e0,← Nat.div_div_eq_div_mul,Nat.div_eq_of_lt hd,Nat.zero_div]
  have e3:x / (B ^ k * (B * B ^ e))=0:=by rw [← Nat.div_div_eq_div_mul,Nat.div_eq_of_lt hx,Nat.zero_div]
  rw [e1,e2,e3]
theorem Wo {B n x k d:Nat} (hB:0 < B) (hk:k < n) (hd:d < B):(pad B n x).set k d=pad B n (x % B ^ k + d * B ^ k + x / B ^ (k + 1) * B ^ (k + 1)):=by
 have hp:0 < B ^ k:=Nat.pow_pos hB;have hm:x % B ^ k < B ^ k:=Nat.mod_lt _ hp
 have e:x % B ^ k + d * B ^ k + x / B ^ (k + 1) * B ^ (k + 1)=x % B ^ k + (d + x / B ^ (k + 1) * B) * B ^ k:=by
  rw [Nat.add_mul,XI,Nat.mul_assoc (x / _) B,Nat.mul_comm B,J9]
 rw [e]
 have e0:(x % B ^ k + (d + x / B ^ (k + 1) * B) * B ^ k) / B ^ k=d + x / B ^ (k + 1) * B:=by rw [Nat.add_mul_div_right _ _ hp,Nat.div_eq_of_lt hm,JF]
 refine zcW hk (by rw [e0,Nat.add_mul_mod_self_right,Nat.mod_eq_of_lt hd]) fun i hi hne=> ?_
 by_cases h:i < k
 ·rw [← div_mod_low (x:=x % B ^ k + _) hB h,Nat.add_mul_mod_self_right,Nat.mod_mod,div_mod_low hB h]
 ·obtain ⟨f,rfl⟩:∃ f,i=k + 1 + f:=⟨i - (k + 1),by omega⟩
  have e1:B ^ (k + 1 + f)=B ^ (k + 1) * B ^ f:=by rw [Nat.pow_add]
  have e2:B ^ (k + 1 + f)=B ^ k * (B * B ^ f):=by rw [Nat.pow_add,XI,Nat.mul_assoc]
  have e3:(x % B ^ k + (d + x / B ^ (k + 1) * B) * B ^ k) / B ^ (k + 1 + f)=x / B ^ (k + 1 + f):=by
   rw [e2,← Nat.div_div_eq_div_mul,e0,← Nat.div_div_eq_div_mul,Nat.add_mul_div_right _ _ hB,Nat.div_eq_of_lt hd,JF,← e2,e1,Nat.div_div_eq_div_mul]
  rw [e3]
theorem dg_getD {B:Nat} (hB:2≤B):∀ (i x:Nat),(dg B x).getD i 0=x / B ^ i % B:=by
 intro i
 induction i with
 | zero=>
  intro x
  by_cases h:x=0
  ·subst h;rw [dg_zero];simp
  ·rw [dg_pos hB h];simp
 | succ i ih=>
  intro x
  by_cases h:x=0
  ·subst h;rw [dg_zero];simp
  ·rw [dg_pos hB h,List.getD_cons_succ,ih,Nat.div_div_eq_div_mul,XI,Nat.mul_comm]
def len (B x:Nat):Nat:=(dg B x).length
theorem len_zero (B:Nat):len B 0=0:=by rw [len,dg_zero];rfl
theorem len_pos {B x:Nat} (hB:2≤B) (hx:x≠0):len B x=len B (x / B) + 1:=by rw [len,dg_pos hB hx];rfl
theorem len_le {B:Nat} (hB:2≤B):∀ (n x:Nat),len B x≤n↔x < B ^ n:=by
 intro n
 induction n with
 | zero=>
  intro x
  by_cases h:x=0
  ·subst h;rw [len_zero];simp
  ·rw [len_pos hB h];simp;omega
 | succ n ih=>
  intro x
  by_cases h:x=0
  ·subst h;rw [len_zero];simp;exact Nat.pow_pos o9
  ·rw [len_pos hB h,Nat.add_le_add_iff_right,ih,Nat.div_lt_iff_lt_mul o9,XI]
theorem lt_pow_len {B:Nat} (hB:2≤B) (x:Nat):x < B ^ len B x:=(len_le hB _ _).1 (Js _)
theorem len_mono {B x y:Nat} (hB:2≤B) (h:x≤y):len B x≤len B y:=(len_le hB _ _).2 (Nat.lt_of_le_of_lt h<|lt_pow_len hB y)
theorem len_eq_zero {B x:Nat} (hB:2≤B):len B x=0↔x=0:=by
 constructor
 ·intro h;have:=lt_pow_len hB x;rw [h] at this;simpa using this
 ·rintro rfl;exact len_zero B
theorem zav {B x:Nat} (hB:2≤B) (hx:x≠0):B ^ (len B x - 1)≤x:=by
 have h:¬len B x≤len B x - 1:=by
  have:len B x≠0:=fun h=>hx ((len_eq_zero hB).1 h);omega
 rw [len_le hB] at h;omega
theorem len_eq {B x n:Nat} (hB:2≤B) (h1:x < B ^ (n + 1)) (h2:B ^ n≤x):len B x=n + 1:=by
 have:=(len_le hB (n + 1) x).2 h1
 have h3:¬len B x≤n:=by rw [len_le hB];omega
 omega
theorem dg_length (B x:Nat):(dg B x).length=len B x:=rfl
theorem dg_pad {B:Nat} (hB:2≤B) (x:Nat):dg B x=pad B (len B x) x:=eq_pad rfl fun i _=>dg_getD hB i x
theorem dg_lt {B x:Nat} (hB:2≤B):∀ d∈dg B x,d < B:=by rw [dg_pad hB];exact pad_lt o9 _ _
theorem take_pad (B:Nat):∀ (k n x:Nat),k≤n→(pad B n x).take k=pad B k x
 | 0,n,x,_=>by simp [pad]
 | k + 1,n + 1,x,h=>by rw [pad,pad,Xo,take_pad B k n _ o9]
theorem mod_next (B x k:Nat):x % B ^ (k + 1)=x % B ^ k + x / B ^ k % B * B ^ k:=by
 rw [XI,Nat.mod_mul,Nat.mul_comm<|B ^ k]
theorem div_next {B:Nat} (x k:Nat):x / B ^ k=x / B ^ (k + 1) * B + x / B ^ k % B:=by
 rw [XI,← Nat.div_div_eq_div_mul];have:=Nat.div_add_mod (x / B ^ k) B;rw [Nat.mul_comm] at this;omega
end Nm
namespace Nm
theorem top_word {B X k:Nat} (hX:X < B ^ (k + 1)):X / B ^ k % B=X / B ^ k:=
 Nat.mod_eq_of_lt (Nat.div_lt_of_lt_mul (by rwa [XI] at hX))
theorem top_zero {B X k:Nat} (hB:0 < B) (hX:X < B ^ (k + 1)) (h:X / B ^ k % B=0):X < B ^ k:=by
 rw [top_word hX] at h;have:=Nat.div_add_mod X (B ^ k);rw [h,Nat.mul_zero,JF] at this;rw [← this];exact Nat.mod_lt _ (Nat.pow_pos hB)
theorem top_len {B X k:Nat} (hB:2≤B) (hX:X < B ^ (k + 1)) (h:X / B ^ k % B≠0):len B X=k + 1:=by
 refine len_eq hB hX ?_;rw [top_word hX] at h;exact Nat.le_of_not_lt fun h'=>h (Nat.div_eq_of_lt h')
theorem high_zero {B X k:Nat} (hB:2≤B) (h:len B X≤k):X / B ^ k % B=0:=by
 rw [Nat.div_eq_of_lt<|(len_le hB _ _).1 h,Nat.zero_mod]
theorem zbm {B X k:Nat} (hB:2≤B) (h:len B X≤k):X % B ^ k=X:=Nat.mod_eq_of_lt ((len_le hB _ _).1 h)
theorem Vi (P B S v:Nat) (hP:0 < P):(S + v * P) / (P * B)=(S / P + v) / B∧(S + v * P) % (P * B)=S % P + (S / P + v) % B * P:=by
 have e:(S + v * P) / P=S / P + v:=Nat.add_mul_div_right _ _ hP
 constructor
 ·rw [← Nat.div_div_eq_div_mul,e]
 ·rw [Nat.mod_mul,e,Nat.add_mul_mod_self_right,Nat.mul_comm P]
def sm (B X Y i:Nat):Nat:=X % B ^ i + Y % B ^ i
theorem sm_zero (B X Y:Nat):sm B X Y 0=0:=by simp [sm,Nat.mod_one]
theorem sm_next (B X Y i:Nat):sm B X Y (i + 1)=sm B X Y i + (X / B ^ i % B + Y / B ^ i % B) * B ^ i:=by
 rw [sm,sm,mod_next,mod_next,Nat.add_mul];omega
theorem sm_carry {B:Nat} (hB:0 < B) (X Y i:Nat):sm B X Y i / B ^ i≤1:=by
 have hp:0 < B ^ i:=Nat.pow_pos hB;have h1:=Nat.mod_lt X hp;have h2:=Nat.mod_lt Y hp
 have h3:sm B X Y i < B ^ i * 2:=by unfold sm;omega
 have:=Nat.div_lt_of_lt_mul h3;omega
theorem sm_step {B:Nat} (hB:0 < B) (X Y i:Nat):
  sm B X Y (i + 1) / B ^ (i + 1)=(sm B X Y i / B ^ i + (X / B ^ i % B + Y / B ^ i % B)) / B∧
  sm B X Y (i + 1) % B ^ (i + 1)=sm B X Y i % B ^ i + (sm B X Y i / B ^ i + (X / B ^ i % B + Y / B ^ i % B)) % B * B ^ i:=by
 rw [sm_next,XI];exact Vi _ _ _ _ (Nat.pow_pos hB)
theorem sm_all {B:Nat} (hB:2≤B) {X Y i:Nat} (hX:len B X≤i) (hY:len B Y≤i):sm B X Y i=X + Y:=by
 rw [sm,zbm hB hX,zbm hB hY]
theorem sm_fill {B n:Nat} (hB:0 < B) (X Y i:Nat) (hi:i < n) (d:Nat) (hd:d=(sm B X Y i / B ^ i + (X / B ^ i % B + Y / B ^ i % B)) % B):
  (pad B n<|sm B X Y i % B ^ i).set i d=pad B n (sm B X Y (i + 1) % B ^ (i + 1)):=by
 rw [pad_next hB hi (Nat.mod_lt _<|Nat.pow_pos hB) (by rw [hd];exact Nat.mod_lt _ hB),(sm_step hB X Y i).2,hd]
theorem sm_last {B:Nat} (hB:2≤B) {X Y i:Nat} (hX:len B X≤i) (hY:len B Y≤i):(pad B (i + 1)<|sm B X Y i % B ^ i).set i (sm B X Y i / B ^ i)=pad B (i + 1) (X + Y):=by
 have hc:=sm_carry (B:=B) o9 X Y i;rw [pad_next o9 o9 (Nat.mod_lt _<|Nat.pow_pos o9) o9,sm_all hB hX hY];congr 1;have:=Nat.div_add_mod (X + Y) (B ^ i);rw [Nat.mul_comm] at this;omega
theorem sum_lt {B X Y i:Nat} (hB:2≤B) (hX:len B X≤i) (hY:len B Y≤i):X + Y < B ^ (i + 1):=by
 have h1:=(len_le hB _ _).1 hX;have h2:=(len_le hB _ _).1 hY;rw [XI];have:B ^ i * 2≤B ^ i * B:=Nat.mul_le_mul_left _ hB;omega
def bw (B X Y i:Nat):Nat:=if X % B ^ i < Y % B ^ i then 1 else 0
def df (B X Y i:Nat):Nat:=X % B ^ i + bw B X Y i * B ^ i - Y % B ^ i
theorem bw_zero (B X Y:Nat):bw B X Y 0=0:=by simp [bw,Nat.mod_one]
theorem df_zero (B X Y:Nat):df B X Y 0=0:=by simp [df,bw,Nat.mod_one]
theorem bw_le (B X Y i:Nat):bw B X Y i≤1:=by unfold bw;split <;> omega
theorem df_lt {B:Nat} (hB:0 < B) (X Y i:Nat):df B X Y i < B ^ i∧Y % B ^ i≤X % B ^ i + bw B X Y i * B ^ i:=by
 have hp:0 < B ^ i:=Nat.pow_pos hB;have h1:=Nat.mod_lt X hp;have h2:=Nat.mod_lt Y hp;unfold df bw
 generalize X % B ^ i=u at *
 generalize Y % B ^ i=v at *
 generalize B ^ i=p at *
 split
 ·rw [Nat.one_mul];omega
 ·rw [Nat.zero_mul];omega
theorem df_step {B:Nat} (hB:0 < B) (X Y i:Nat):
  bw B X Y (i + 1)=(if X / B ^ i % B < Y / B ^ i % B + bw B X Y i then 1 else 0)∧
  df B X Y (i + 1)=df B X Y i + (X / B ^ i % B + bw B X Y (i + 1) * B - Y / B ^ i % B - bw B X Y i) * B ^ i∧X / B ^ i % B + bw B X Y (i + 1) * B - Y / B ^ i % B - bw B X Y i < B:=by
 have hp:0 < B ^ i:=Nat.pow_pos hB;obtain ⟨p,hpe⟩:∃ p,p=B ^ i:=⟨_,rfl⟩
 have hs:B ^ (i + 1)=p * B:=by rw [XI,hpe]
 have h1:=Nat.mod_lt X hp;have h2:=Nat.mod_lt Y hp;have hx:=Nat.mod_lt (X / B ^ i) hB;have hy:=Nat.mod_lt (Y / B ^ i) hB
 have eb:bw B X Y i=if X % B ^ i < Y % B ^ i then 1 else 0:=rfl
 have eb':bw B X Y (i + 1)=if X % B ^ (i + 1) < Y % B ^ (i + 1) then 1 else 0:=rfl
 have ed:df B X Y i=X % B ^ i + bw B X Y i * B ^ i - Y % B ^ i:=rfl;have ed':df B X Y (i + 1)=X % B ^ (i + 1) + bw B X Y (i + 1) * B ^ (i + 1) - Y % B ^ (i + 1):=rfl;rw [mod_next,mod_next,hs] at ed';rw [mod_next,mod_next] at eb';rw [← hpe] at *
 generalize bw B X Y (i + 1)=b' at *
 generalize bw B X Y i=b at *
 generalize df B X Y (i + 1)=D' at *
 generalize df B X Y i=D at *
 generalize X / p % B=x at *
 generalize Y / p % B=y at *
 generalize X % p=u at *
 generalize Y % p=v at *
 have key:(u + x * p < v + y * p)↔x < y + b:=by
  rw [eb]
  constructor
  ·intro h;apply Nat.lt_of_not_le;intro hle
   split at hle
   ·have:(y + 1) * p≤x * p:=Nat.mul_le_mul_right _ hle;rw [Nat.add_mul] at this;omega
   ·have:y * p≤x * p:=Nat.mul_le_mul_right _ hle;omega
  ·intro h
   split at h
   ·have:x * p≤y * p:=Nat.mul_le_mul_right _ o9;omega
   ·have:(x + 1) * p≤y * p:=Nat.mul_le_mul_right _ o9;rw [Nat.add_mul] at this;omega
 have e1:b'=if x < y + b then 1 else 0:=by
  rw [eb']
  by_cases h:x < y + b
  ·rw [Jh h,Jh<|key.2 h]
  ·rw [Jb h,Jb (fun h'=>h<|key.1 h')]
 have hb1:b≤1:=by rw [eb];split <;> omega
 refine ⟨e1,?_,?_⟩
 ·rw [ed',ed]
  have hle:y + b≤x + b' * B:=by
   rw [e1]
   split <;> omega
  have e2:x + b' * B - y - b=x + b' * B - (y + b):=by omega
  rw [e2,Nat.sub_mul,Nat.add_mul,Nat.add_mul,Nat.mul_assoc,Nat.mul_comm B p];have e3:(y + b) * p≤(x + b' * B) * p:=Nat.mul_le_mul_right _ hle;rw [Nat.add_mul,Nat.add_mul,Nat.mul_assoc,Nat.mul_comm B p] at e3
  have e4:v≤u + b * p:=by rw [eb];split <;> omega
  omega
 ·rw [e1]
  split <;> omega
theorem df_all {B:Nat} (hB:2≤B) {X Y i:Nat} (hX:len B X≤i) (hle:Y≤X):df B X Y i=X - Y:=by
 have hY:len B Y≤i:=JG (len_mono hB hle) hX;unfold df bw;rw [zbm hB hX,zbm hB hY,Jb o9];omega
theorem df_fill {B n:Nat} (hB:0 < B) (X Y i:Nat) (hi:i < n) (d:Nat) (hd:d=X / B ^ i % B + bw B X Y (i + 1) * B - Y / B ^ i % B - bw B X Y i):
  (pad B n<|df B X Y i).set i d=pad B n (df B X Y<|i + 1):=by
 obtain ⟨-,h2,h3⟩:=df_step hB X Y i;rw [pad_next hB hi (df_lt hB X Y i).1 (by rw [hd];exact h3),h2,hd]
