/- ROUNDS: what a replay comes to. AN APPEND IN A REGION THAT GOES ON WITH WHAT IT MADE. Over any program. -/
import Derived.Test.YtgokpcnabgacnaaGreatDoorGZBL
import Derived.Test.YtgokpcnabgacnaaGreatDoorGZBM
set_option maxHeartbeats 8000000
set_option maxRecDepth 100000
namespace Go.Proofs.YtgokpcnabgacnaaGreatDoor
open Go.RowKit
namespace Sx
section
theorem con_lenO (gl:Nat) (sA:Option Addr) (sc:Nat) (sF sG:LN) (M:Option Nat) (es:List Led.Ent):ConR Tryz.prog 37 [.c gl [isD<|.slice sA es.length sc,isD<|.map M],zbH ⟨sA,sc,sF,M,sG⟩ es,zbG ⟨sA,sc,sF,M,sG⟩ es] [pA gl] (fun _:Unit=>[.c gl [isD<|.slice sA es.length sc,isD<|.map M],zbH ⟨sA,sc,sF,M,sG⟩ es,zbG ⟨sA,sc,sF,M,sG⟩ es]) (fun _:Unit=>iD (es.length:Int)):=by
 refine yg Tryz.func37 k9 V k9 fun base w0=>(zp<|zf V<|ze<|zk<|zp<|zd V<|za V (YS V V k9)<|ze<|zE V V<|zr<|zn<|zp<|zd V<|za V (zz V)<|za V (zc (n:=0) V k9)<|za V (zg 0 V V V k9 zh)<|za V (Y7 (e:=85) V k9)<|zf V<|ze ?_);refine zQ (fn:=Tryz.f37) (()) [0,1,2] (fun _ _ h=>h) (Rs.one V<|zj V) d9 (sX V)
theorem zbW (p q:Addr):Con Tryz.prog 38 [isD<|.pointer<|some p,isD<|.slice none 0 0,isD<|.pointer<|some q] (Yk [isD<|.pointer none,iD 0,iD 2]):=by
 refine YP Tryz.func38 k9 V k9 fun base w0=>(zp<|zf V<|zf V<|zf V<|ze<|zgF<|zk<|zp<|zd V<|za V (YS V V k9)<|zd V<|yL V V (by rfl) V V (zI V)<|yL V V (by rfl) V V (YS V V k9)<|za V (zv V (by rfl) V)<|ze<|zE V (by rfl)<|zr<|zn<|zp<|zd V<|zd V<|zt (S:=[]) (zY (zfu p [] s9 d9) V ⟨zb _,Yb,t9⟩ V)<|zd V<|za V (zm V V)<|za V (zm V V) (SWl.e2 (S:=[]) (zM (zs:=[.pointer none]) k9 V) fun g9=>(SWl.e2 (S:=[]) (zM (zs:=[.int .i64 0]) k9 V) fun g10=>(zt (S:=[_]) (zR 0 V V V k9 V<|m9 V)<|zt (S:=[_]) (zR 1 V V V k9 V<|m9 V)<|ze<|zk<|zp ?_))))
 refine za V (zg 1 V V V k9 zh) (za V (ye V V)<|ze<|zW V d9<|zk<|yh [] (rr [0,1,2,3] .fin) k9 k9 (fun d _ _ _ _ h=>by cases d <;> exact h)<|zl V V (zg 1 V V V k9 zh)<|Zh V V<|Zh V V<|Zh V V<|yI<|zK (fn:=Tryz.f38) (fun _ _ h=>h)<|Rs.le (ZR V (zj V) (zj V)<|zj V) ?_)
 exact zb _
theorem con_lenP {gl:Nat} {es:List Led.Ent} {F:LN}:ConR Tryz.prog 37 [.r F<|ldP gl es] [pA gl] (fun F':LN=>[.r F'<|ldP gl es]) (fun _=>iD (es.length:Int)):=
 zgK fun s=>(con_lenO gl s.A s.c s.F s.G s.M es).reshape fun _=>Opens.refl ⟨s,rfl,zb _⟩
theorem zfU {s:Rnd.S} {k:Int} {p:LB} (h:Zj s k p=0):(Zd s k p).en=s.en ++ [⟨k,p⟩]:=by
 unfold Zj at h;unfold Zd
 by_cases hk:k=1
 ·rw [Jh hk] at h ⊢;unfold jD at h;unfold qe
  by_cases h1:jB (Vt p)≠0
  ·rw [Jh h1] at h;exact absurd h h1
  ·rw [Jb h1] at h ⊢
   by_cases h2:Env.decE (YN p)≠0
   ·rw [Jh h2] at h;exact absurd h h2
   ·rw [Jb h2] at h ⊢;unfold Rnd.subS;rw [Jh h];have hq:=Env.end_ok (Xp.1 h1);obtain ⟨k1,k2,-⟩:=zaz (r:=(stU ⟨p,0⟩).2) hq.1;obtain ⟨-,n,k3,k4,-⟩:=zay (r:=⟨p,0⟩) k1;have hd:=(Env.dec_inv<|Xp.1 h2).2
    have e:Rnd.subP (Env.dec<|YN p) (Kk p)=p:=by
     unfold Rnd.subP;rw [hd];have a1:Kk p=(n:Int):=k3;rw [a1,J7];have a2:(stP 65536 (stU ⟨p,0⟩).2).2.p=[]:=hq.2;rw [a2,JS] at k2;have a3:p=grp n ++ (stU ⟨p,0⟩).2.p:=k4;rw [k2] at a3;exact a3.symm
    show s.en ++ [(⟨1,_⟩:Led.Ent)]=_;rw [e,hk]
 ·rw [Jb hk] at h ⊢
  by_cases hk2:k=2
  ·rw [Jh hk2] at h ⊢;unfold KP at h;unfold qK
   by_cases h1:jB (Vu p)≠0
   ·rw [Jh h1] at h;exact absurd h h1
   ·rw [Jb h1] at h ⊢;unfold Rnd.revS;rw [Jh h];have hq:=Env.end_ok (Xp.1 h1);obtain ⟨k1,k2,-⟩:=zaz (r:=(stU (stU ⟨p,0⟩).2).2) hq.1;obtain ⟨j1,m,j3,j4,-⟩:=zay (r:=(stU ⟨p,0⟩).2) k1;obtain ⟨-,n,k3,k4,-⟩:=zay (r:=⟨p,0⟩) j1
    have e:Rnd.revP (Km p) (jE p) (Kn p)=p:=by
     unfold Rnd.revP;have a1:Kn p=(n:Int):=k3;have b1:Km p=(m:Int):=j3;rw [a1,b1,J7,J7];have a2:(stP 32 (stU (stU ⟨p,0⟩).2).2).2.p=[]:=hq.2;rw [a2,JS] at k2;have a3:p=grp n ++ (stU ⟨p,0⟩).2.p:=k4;rw [j4,k2] at a3;rw [Jq];exact a3.symm
    show s.en ++ [(⟨2,_⟩:Led.Ent)]=_;rw [e,hk2]
  ·rw [Jb hk2] at h ⊢;unfold Rnd.recS;rw [Jh h]
theorem stp_ok {s:Rnd.S} {e:Led.Ent} (h:Zj s e.kind e.bytes=0):YV s e=some (Zd s e.kind e.bytes):=Jh ⟨h,zfU h⟩
theorem stp_no {s:Rnd.S} {e:Led.Ent} (h:Zj s e.kind e.bytes≠0):YV s e=none:=Jb fun hc=>h hc.1
structure Rnd.Sz (s:Rnd.S):Prop where
 es:s.es.length≤s.en.length
 ws:s.ws.length=2
theorem put_len (es:List Env.T) (e:Env.T):(Rnd.put es e).length≤es.length + 1:=by
 unfold Rnd.put;rw [Jk];have:=List.length_filter_le (fun x=>decide (¬Rnd.same x e)) es;simp only [Xq];omega
theorem Rnd.Sz.sub {s:Rnd.S} (h:Rnd.Sz s) (e:Env.T) (now:Int):Rnd.Sz (Rnd.subS s e now):=by
 unfold Rnd.subS
 split
 ·refine ⟨?_,h.ws⟩;have:=put_len s.es e;have:=h.es;simp only [Jk,Xq];omega
 ·exact h
theorem Rnd.Sz.rev {s:Rnd.S} (h:Rnd.Sz s) (r:Int) (key:LB) (now:Int):Rnd.Sz (Rnd.revS s r key now):=by
 unfold Rnd.revS
 split
 ·refine ⟨?_,h.ws⟩;have:=h.es;simp only [Jk,Xq];omega
 ·exact h
theorem Rnd.Sz.recd {s:Rnd.S} (h:Rnd.Sz s) (k:Int) (p:LB):Rnd.Sz (Rnd.recS s k p):=by
 unfold Rnd.recS
 split
 ·refine ⟨?_,h.ws⟩;have:=h.es;simp only [Jk,Xq];omega
 ·exact h
theorem zhR {s:Rnd.S} (h:Rnd.Sz s) (k:Int) (p:LB):Rnd.Sz (Zd s k p):=by
 unfold Zd qe qK
 repeat' split
 all_goals first | exact h | exact Rnd.Sz.sub h _ _ | exact Rnd.Sz.rev h _ _ _ | exact Rnd.Sz.recd h _ _
theorem zf8:Rnd.Sz (Rnd.start hL Vx):=⟨Js _,rfl⟩
theorem zf6 (z:Int):(Zs z).length≤4:=by
 have h:=zaf z;unfold Zs
 have h3:Yg z=0∨Yg z=1∨Yg z=2:=by omega
 rcases h3 with h | h | h <;> rw [h] <;> decide
theorem sldA_acc (a:Ac) (bid:LB):(qw hL a bid).acc.length≤4:=by
 unfold qw Rnd.sld Env.slT
 split
 ·exact zf6 _
 ·exact JC _
theorem mkE_acc {a:Ac} (h:a.short) (bid:LB):(YO hL a bid).acc.length≤1000000:=by
 have h1:=h.2.1;have h2:=sldA_acc a bid;have h3:=zf6 a.who
 rcases zgg a bid with ⟨_,e⟩ | ⟨_,e⟩ | ⟨_,_,e⟩ | ⟨_,x,t,r,_,_,_,_,e⟩ <;> rw [e]
 ·omega
 ·omega
 ·exact JC _
 ·show (Zs a.who).length≤_;omega
theorem zb6 {es:List Led.Ent} {i:Nat} {e:Led.Ent} (h:es[i]? =some e):es=es.take i ++ e :: es.drop (i + 1):=by
 obtain ⟨h1,h2⟩:=Jg.1 h;rw [← h2,List.getElem_cons_drop,JV]
theorem rep_not {s0 s si:Rnd.S} {es:List Led.Ent} {i:Nat} {e:Led.Ent} (h:Z6 s0 es=some s) (h1:Z6 s0 (es.take i)=some si) (h2:es[i]? =some e) (h3:YV si e=none):False:=by
 rw [zb6 h2,zaC,h1] at h;have h:Z6 si (e :: es.drop (i + 1))=some s:=h;rw [zcT,h3] at h
 cases h
theorem rep_lt {s0 si sj:Rnd.S} {es:List Led.Ent} {i j:Nat} {e:Led.Ent} (h1:Z6 s0 (es.take i)=some si) (h2:es[i]? =some e) (h3:YV si e=none) (k1:Z6 s0 (es.take j)=some sj):j≤i:=by
 refine Nat.le_of_not_lt fun hlt=> ?_
 have e1:es.take j=es.take i ++ (e :: (es.take j).drop (i + 1)):=by
  have h4:(es.take j)[i]? =some e:=by rw [JP];rw [Jh hlt];exact h2
  have h5:=zb6 h4;rw [List.take_take,XA<|Nat.le_of_lt hlt] at h5;exact h5
 rw [e1,zaC,h1] at k1;have k1:Z6 si (e :: (es.take j).drop (i + 1))=some sj:=k1;rw [zcT,h3] at k1
 cases k1
theorem zdc {gb gl:Nat} {F Fl:LN} {l:List Acc.T} {ws:List Rnd.Win} {es:List Led.Ent} {s:Rnd.S} (hf:Acc.Fine l) (hok:Rnd.ok ws) (hn:es.length≤100000) (hfb:∀ e∈es,e.bytes.length≤1000000) (h:Z6 (Rnd.start l ws) es=some s):
  ConR Tryz.prog 38 [.r F<|bkP gb l,.r Fl<|ldP gl es] [pA gb,lsD YB ws,pA gl] (fun t:LN × Nat × LN=>[.r t.1<|bkP gb l,.r t.2.2<|Yj t.2.1 s]) (fun t=>Yk [pA t.2.1,iD 0,iD 0]):=
 (zbf gb gl F Fl l ws es hf hok hn hfb).reshape fun t=>by
  obtain ⟨⟨F',g,Fr,s',o⟩,ho⟩:=t
  cases o with
  | none=>
   have e:s'=s:=by
    have h2:Z6 (Rnd.start l ws) es=some s':=ho;rw [h] at h2;injection h2 with h2;exact h2.symm
   subst e;exact Opens.refl ⟨(F',g,Fr),V,zb _⟩
  | some i=>
   obtain ⟨si,e,h1,h2,h3⟩:=ho;exact (rep_not h h1 h2 h3).elim
theorem zbV {gb gl:Nat} {F Fl:LN} {l:List Acc.T} {ws:List Rnd.Win} {es:List Led.Ent} {v:Rnd.S} {f:Nat} (hf:Acc.Fine l) (hok:Rnd.ok ws) (hn:es.length≤100000) (hfb:∀ e∈es,e.bytes.length≤1000000) (h:KQ (Rnd.start l ws) es v (some f)):
  ConR Tryz.prog 38 [.r F<|bkP gb l,.r Fl<|ldP gl es] [pA gb,lsD YB ws,pA gl] (fun t:LN × Nat × LN × Rnd.S=>[.r t.1<|bkP gb l,.r t.2.2.1<|Yj t.2.1 t.2.2.2]) (fun _=>Yk [isD<|.pointer none,iD (f:Int),iD 10]):=
 (zbf gb gl F Fl l ws es hf hok hn hfb).reshape fun t=>by
  obtain ⟨⟨F',g,Fr,s',o⟩,ho⟩:=t;obtain ⟨si,e,h1,h2,h3⟩:=h
  cases o with
  | none=>exact (rep_not ho h1 h2 h3).elim
  | some i=>
   obtain ⟨sj,e',k1,k2,k3⟩:=ho;have a1:=rep_lt h1 h2 h3 k1;have a2:=rep_lt k1 k2 k3 h1;obtain rfl:i=f:=Nat.le_antisymm a1 a2;exact Opens.refl ⟨(F',g,Fr,s'),V,zb _⟩
abbrev Rnd.S00:Rnd.S:=Rnd.start hL Vx
structure Rnd.Lp (es:List Led.Ent) (v:Rnd.S) (f:Nat) (g:Bool):Prop where
 rep:KQ Rnd.S00 es v (if g=true then none else some f)
 good:Rnd.Good v
 sz:Rnd.Sz v
 len:es.length≤4096
 fit:∀ e∈es,e.bytes.length≤1000000
theorem lp_start:Rnd.Lp [] Rnd.S00 0 true:=⟨rfl,Rnd.good_start jp Ku,zf8,by simp,by simp⟩
theorem app_ok {es:List Led.Ent} {e:Led.Ent} (h:y8 es e.kind e.bytes=0):Led.app es e.kind e.bytes=es ++ [e]∧es.length < 4096∧e.bytes.length≤65536:=by
 unfold y8 at h;unfold Led.app
 split at h
 ·rename_i h1
  split at h
  ·rename_i h2;exact ⟨by rw [Jh h1,Jh h2],h2,h1.2.2⟩
  ·cases h
 ·cases h
theorem app_bad {es:List Led.Ent} {k:Int} {b:LB} (h:y8 es k b≠0):Led.app es k b=es:=by
 unfold y8 at h;unfold Led.app
 split
 ·rename_i h1;rw [Jh h1] at h
  split
  ·rename_i h2;rw [Jh h2] at h;exact absurd rfl h
  ·rfl
 ·rfl
theorem Rnd.Lp.go {es:List Led.Ent} {v:Rnd.S} {f:Nat} {e:Led.Ent} (h:Rnd.Lp es v f true) (he:y8 es e.kind e.bytes=0):Rnd.Lp (es ++ [e]) (Zd v e.kind e.bytes) es.length (decide (Zj v e.kind e.bytes=0)):=by
 obtain ⟨-,h2,h3⟩:=app_ok he;have hr:Z6 Rnd.S00 es=some v:=h.rep;refine ⟨?_,KR h.good _ _,zhR h.sz _ _,by simp;omega,fun x hx=> ?_⟩
 ·by_cases hE:Zj v e.kind e.bytes=0
  ·rw [Jo hE,Jh rfl];show Z6 _ _=_;rw [rp_snoc hr,stp_ok hE]
  ·rw [Jd hE,Jb d9];exact ⟨v,e,by rw [List.take_left];exact hr,by simp,stp_no hE⟩
 ·rcases Jf.1 hx with hx | hx
  ·exact h.fit x hx
  ·rw [Ja.1 hx];omega
theorem Rnd.Lp.off {es:List Led.Ent} {v:Rnd.S} {f:Nat} {e:Led.Ent} (h:Rnd.Lp es v f false) (he:y8 es e.kind e.bytes=0):Rnd.Lp (es ++ [e]) v f false:=by
 obtain ⟨-,h2,h3⟩:=app_ok he;obtain ⟨si,x,h4,h5,h6⟩:=h.rep;have hlt:=(Jg.1 h5).1;refine ⟨⟨si,x,by rw [JQ<|Nat.le_of_lt hlt];exact h4,by rw [JB hlt];exact h5,h6⟩,h.good,h.sz,by simp;omega,fun y hy=> ?_⟩;rcases Jf.1 hy with hy | hy
 ·exact h.fit y hy
 ·rw [Ja.1 hy];omega
end
section
section
variable {P:Program}{Γ:Cx}{σ:St}{S:List Nat}{dst:Option Tmp}{ty:TypeId}{pos:String}{af:Array Edge}{gd:Option (Nat × Bool)}{d:D}{Q:Exit→Act→World→Prop}
def EfE (P:Program) (Γ:Cx) (S:LN) (o:Oper) (σ:St) (T:LN→St→Prop):Prop:=
 ∀ a w,Holds Γ σ a w→∀ (K:Act→World→Prop) (Q:Exit→Act→World→Prop),(∀ G σ' a' w',(∀ g∈G,g∈S∨w.heap.size≤g)→T G σ'→Holds Γ σ' a' w'→Only S w w'→K a' w')→o.wp P a w K Q
theorem SWz.efE {l:List Oper} {tz uz:Reg.Tz} {op:Op} {T:LN→St→Prop} {i:Nat} (ho:l[i]? =some ⟨dst,op,ty,pos,af,none⟩) (h:EfE P Γ S ⟨dst,op,ty,pos,af,none⟩ σ T) (hk:∀ G σ',T G σ'→SWz P Γ l Q (S ++ G) tz σ') (hu:SWz P Γ l Q S uz σ):SWz P Γ l Q S (.e i tz uz) σ:=by
 intro a w hh
 have e:l.getD i default=⟨dst,op,ty,pos,af,none⟩:=by rw [Jr,ho];rfl
 unfold Reg.wpG;rw [e];refine ⟨J4 V fun K hK=> ?_,hu a w hh⟩
 exact h a w hh K _ fun G σ' a' w' hg hT hh' hO=>hK _ _ ⟨S ++ G,fun x hx=>by
  rcases Jf.1 hx with hx | hx
  ·exact .inl hx
  ·exact hg x hx,hO,hk G σ' hT a' w' hh'⟩
theorem EfE.appS {x y:Operand} {T e k n c m:Nat} {A:Option Addr} {F:LN} {ds es:List D} [Ones es] (j sz bytes:Nat) (hx:σ.ev x=some (isD<|.slice A n c)) (hj:σ.bx[j]? =some (.r F<|zbF e sz A n c ds)) (hsrc:Src Γ σ y m es) (hm:es.length=m * sz) (hT:ZS P T e=true) (hE:elT P e sz bytes=true) (h0:0 < m) (hsz:0 < sz) (hlen:n + m≤1099511627776) (hb:bytes≤128) (hS:∀ g∈F,g∈S) (hk:yE Γ.nt k=true):
  EfE P Γ S ⟨some k,.call { callee:= .builtin .append,args:= #[x,y],argTypes:= #[T,T] },ty,pos,af,gd⟩ σ (fun G σ'=>∃ g c',G=[g]∧σ'=(σ.give [j] [.r [g]<|zbF e sz (some ⟨g,0,none⟩) (n + m) c'<|ds ++ es]).put k (isD<|.slice (some ⟨g,0,none⟩) (n + m) c')):=by
 intro a w hh K Q hK;have hxv:a.eval x= .slice A n c:=zT hh hx;obtain ⟨B,cy,hyv,hcy,hat⟩:=hsrc a w hh;obtain ⟨i,z,hI,h1,h2,h3,h4⟩:=qR hE;obtain ⟨xs,ha,hown,hF⟩:=hh.resAt hj
 have hpos:0 < es.length:=by rw [hm];exact Nat.mul_pos h0 hsz
 obtain ⟨gb,ob,rfl,cs,hcs,hcell⟩:=hat hpos;have hlc:=hcs.length
 obtain ⟨v',w',hrun,ho2,hgr,hnil,hblk⟩:=run_append_own_at (P:=P) w 0 T ty e i z sz bytes (yo hT) hI h3 h1 h2 h4 hsz _ _ xs hown ⟨gb,ob,none⟩ m cy cs (by rw [hlc,hm]) (fun q u hq=>by
  have hq1:=(Jg.1 hq).1;rw [Xg,hcell q hq1]
  exact hq) (fun u hu=>Ones.h (ds:=es) _ _ _ hcs u hu) (by simp only [maxLen];omega) (by have:=Xx hlen hb;omega) (JC _)
 have hOn:Only F w w':=by rw [hF];exact Only.of_grown hgr
 have hFL:∀ x∈F,x∈σ.L Γ:=fun x hx=>mL _ (yD.2 ⟨_,Jc hj,hx⟩);have hsub:SubBx σ.bx [j] [.r F<|zbF e sz A n c ds]:=⟨⟨_,hj,yu _⟩,trivial⟩
 have hfp:fps [Box.r F<|zbF e sz A n c ds]=F:=by simp [fps,Box.fp]
 rcases ho2.2 with ⟨hv,hz⟩ | ⟨g,cap,cur,rfl,hg0,hg,hnc,hcm,hcs2,htk⟩
 ·omega
 ·have hgF:g∈F∨w.heap.size≤g:=by
   rcases hblk with hb | hb
   ·left
    rw [hF,← hb];simp [Value.ownBlock]
   ·right
    simp [Value.ownBlock] at hb;omega
  have hL:∀ x∈[g] ++ (σ.L Γ).filter (· ∉F),x∈σ.L Γ∨w.heap.size≤x:=fun x hx=>by
   rcases Jf.1 hx with hx | hx
   ·rw [Ja.1 hx];rcases hgF with h | h
    ·exact .inl (hFL g h)
    ·exact .inr h
   ·exact .inl (Jw.1 hx).1
  have hall:All ([g] ++ (σ.L Γ).filter (· ∉F)) w' (ds ++ es) (xs ++ cs):=by
   have h5:All (σ.L Γ ++ ([g] ++ (σ.L Γ).filter (· ∉F))) w' (ds ++ es) (xs ++ cs):=by
    refine ((ha.append hcs).less (fun x hx=> ?_)).keep hOn (fun x hx=>mL _<|hFL x hx);rcases Jf.1 hx with hx | hx
    ·exact .inl hx
    ·exact hL x hx
   exact h5.less (fun x hx=> .inl<|mR _ hx)
  obtain ⟨h6,h7⟩:=hh.give (post:=[.r [g]<|zbF e sz (some ⟨g,0,none⟩) (n + m) cap<|ds ++ es]) hsub (by rw [hfp];exact hOn) (fun b hb=>by
   rw [Ja.1 hb];refine ⟨xs ++ cs,?_,ho2,V⟩;rw [hfp]
   exact hall) (by simp [fps,Box.fp]) (fun x hx=>by
   have hx:x=g:=by simpa [fps,Box.fp] using hx
   rw [hfp,hx]
   exact hgF)
  have e2:(execOp a.eval ⟨some k,.call { callee:= .builtin .append,args:= #[x,y],argTypes:= #[T,T] },ty,pos,af,gd⟩).run P w= .ok (.value<|.slice (some ⟨g,0,none⟩) (n + m) cap) w':=by
   simp only [execOp,resolve,invoke,builtin,JD,JK,Jv,List.map_toArray,JU,XC,hxv,hyv,hrun]
  unfold Oper.wp;rw [e2];exact hK [g] _ _ _ (fun x hx=>by rw [Ja.1 hx];exact hgF.imp (hS g) id) ⟨g,cap,V,V⟩ (h6.put (by simpa [yE] using hk) V) (hOn.mono (fun x hx _=>hS x hx))
theorem EfE.appT {x y:Operand} {T e k c:Nat} {A:Option Addr} {F:LN} {α:Type} {enc:α→List D} {l l':List α} (j sz bytes:Nat) [Row enc sz] (hx:σ.ev x=some (isD<|.slice A l.length c)) (hj:σ.bx[j]? =some (.r F<|yP e sz enc A c l)) (hsrc:SrcT Γ σ y enc l') (hT:ZS P T e=true) (hE:elT P e sz bytes=true) (hlen:l.length + l'.length≤1099511627776) (hb:bytes≤128) (hS:∀ g∈F,g∈S) (hk:yE Γ.nt k=true):
  EfE P Γ S ⟨some k,.call { callee:= .builtin .append,args:= #[x,y],argTypes:= #[T,T] },ty,pos,af,gd⟩ σ (fun G σ'=>∃ A' F' c',G=fps [.r F'<|yP e sz enc A' c'<|l ++ l']∧σ'=(σ.give [j] [.r F'<|yP e sz enc A' c'<|l ++ l']).put k (isD<|.slice A' (l ++ l').length c')):=by
 cases l' with
 | nil=>
  intro a w hh K Q hK;have hxv:a.eval x= .slice A l.length c:=zT hh hx;obtain ⟨B,cy,hyv,hcy,hat⟩:=hsrc a w hh;obtain ⟨i,z,hI,h1,h2,h3,h4⟩:=qR hE;obtain ⟨xs,ha,hown,hF⟩:=hh.resAt hj
  have hnc:l.length≤c:=by
   rcases hown.2 with ⟨hv,hn⟩ | ⟨g,cap,cur,hv,_,hg,hnc,_⟩
   ·injection hv with h1 h2 h3;omega
   ·injection hv with h1 h2 h3;omega
  have hsub:SubBx σ.bx [j] [.r F<|yP e sz enc A c l]:=⟨⟨_,hj,yu _⟩,trivial⟩
  have hfp:fps [Box.r F<|yP e sz enc A c l]=F:=by simp [fps,Box.fp]
  have h5:=(hh.give (w':=w) (post:=[.r F<|yP e sz enc A c l]) hsub (Only.refl _ w) (fun b hb=>by
   rw [Ja.1 hb];refine (yP e sz enc A c l).less (hh.resAt hj) (fun x hx=> ?_);rw [hfp] at hx;rcases Jf.1 hx with hx | hx
   ·exact .inl (mL _<|yD.2 ⟨_,Jc hj,hx⟩)
   ·exact .inl (Jw.1 hx).1) (by rw [hfp];exact zao hh.nd<|Jc hj) (fun g hg=> .inl hg)).1
  have e2:(execOp a.eval ⟨some k,.call { callee:= .builtin .append,args:= #[x,y],argTypes:= #[T,T] },ty,pos,af,gd⟩).run P w= .ok (.value<|.slice A l.length c) w:=by
   rw [List.length_nil] at hyv
   cases B with
   | none=>cases A <;> simp [execOp,resolve,invoke,builtin,hxv,hyv,Builtin.append_,Jp<|yo hT,sizeOf,typeInfo,hI,Builtin.lenOf,Builtin.firstCells,storeCells,hnc]
   | some p=>cases A <;> simp [execOp,resolve,invoke,builtin,hxv,hyv,Builtin.append_,Jp<|yo hT,sizeOf,typeInfo,hI,Builtin.lenOf,Builtin.firstCells,storeCells,loadCells,loadCellsFrom,hnc]
  unfold Oper.wp;rw [e2];have h6:=h5.put (i:=k) (by simpa [yE] using hk) (d:=isD<|.slice A l.length c) (v:= .slice A l.length c) rfl;refine hK _ _ _ _ (fun x hx=> .inl<|hS x (by simpa [fps,Box.fp] using hx)) ⟨A,F,c,V,?_⟩ h6 (Only.refl _ w);rw [JS]
 | cons v l'=>
  have h:=EfE.appS (P:=P) (Γ:=Γ) (S:=S) (ty:=ty) (pos:=pos) (af:=af) (gd:=gd) (k:=k) j sz bytes hx hj hsrc (qE (enc:=enc) (sz:=sz) _) hT hE s9 (Row.pos (enc:=enc)) hlen hb hS hk;intro a w hh K Q hK;refine h a w hh K Q fun G σ' a' w' hG ⟨g,c',hGe,hT'⟩ hh' ho=>hK _ σ' a' w' (fun x hx=>hG x (by rw [hGe];simpa [fps,Box.fp] using hx)) ⟨some ⟨g,0,none⟩,[g],c',V,?_⟩ hh' ho;rw [hT'];unfold yP;rw [Jk,List.flatMap_append]
