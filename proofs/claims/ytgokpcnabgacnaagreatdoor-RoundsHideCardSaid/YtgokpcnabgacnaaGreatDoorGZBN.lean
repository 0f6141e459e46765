/- ROUNDS: what a replay comes to. AN APPEND IN A REGION THAT GOES ON WITH WHAT IT MADE. Over any program. A CALL THAT IS LENT BOXES, IN A REGION THAT GO -/
import Derived.Test.YtgokpcnabgacnaaGreatDoorGZBL
import Derived.Test.YtgokpcnabgacnaaGreatDoorGZBM
import Derived.Test.YtgokpcnabgacnaaGreatDoorGZAT
set_option maxHeartbeats 8000000
set_option maxRecDepth 100000
namespace Go.Proofs.YtgokpcnabgacnaaGreatDoor
open Go.RowKit
namespace Sx
theorem Rnd.fol_rec {s:Rnd.S} {k:Int} {p:LB} (h:ZM s k p=0):(Zu s k p).en=s.en ++ [⟨k,p⟩]:=by
 unfold ZM at h;unfold Zu
 by_cases hk:k=1
 ·rw [if_pos hk] at h ⊢;unfold Rnd.smE at h;unfold Rnd.smS
  by_cases h1:endE (Rnd.smQ p)≠0
  ·rw [if_pos h1] at h;exact absurd h h1
  ·rw [if_neg h1] at h ⊢
   by_cases h2:Env.decE (Yl p)≠0
   ·rw [if_pos h2] at h;exact absurd h h2
   ·rw [if_neg h2] at h ⊢;unfold Rnd.subS;rw [if_pos h];have hq:=Env.end_ok (Classical.not_not.1 h1);obtain ⟨k1,k2,-⟩:=stP_inv (r:=(stU ⟨p,0⟩).2) hq.1;obtain ⟨-,n,k3,k4,-⟩:=stU_inv (r:=⟨p,0⟩) k1;have hd:=(Env.dec_inv (Classical.not_not.1 h2)).2
    have e:Rnd.subP (Env.dec (Yl p)) (Rnd.smN p)=p:=by
     unfold Rnd.subP;rw [hd];have a1:Rnd.smN p=(n:Int):=k3;rw [a1,Int.toNat_natCast];have a2:(stP 65536 (stU ⟨p,0⟩).2).2.p=[]:=hq.2;rw [a2,List.append_nil] at k2;have a3:p=grp n ++ (stU ⟨p,0⟩).2.p:=k4;rw [k2] at a3;exact a3.symm
    show s.en ++ [(⟨1,_⟩:Led.Ent)]=_;rw [e,hk]
 ·rw [if_neg hk] at h ⊢
  by_cases hk2:k=2
  ·rw [if_pos hk2] at h ⊢;unfold Rnd.rvE at h;unfold Rnd.rvS
   by_cases h1:endE (Rnd.rvQ p)≠0
   ·rw [if_pos h1] at h;exact absurd h h1
   ·rw [if_neg h1] at h ⊢;unfold Rnd.revS;rw [if_pos h];have hq:=Env.end_ok (Classical.not_not.1 h1);obtain ⟨k1,k2,-⟩:=stP_inv (r:=(stU (stU ⟨p,0⟩).2).2) hq.1;obtain ⟨j1,m,j3,j4,-⟩:=stU_inv (r:=(stU ⟨p,0⟩).2) k1;obtain ⟨-,n,k3,k4,-⟩:=stU_inv (r:=⟨p,0⟩) j1
    have e:Rnd.revP (Rnd.rvR p) (Rnd.rvK p) (Rnd.rvN p)=p:=by
     unfold Rnd.revP;have a1:Rnd.rvN p=(n:Int):=k3;have b1:Rnd.rvR p=(m:Int):=j3;rw [a1,b1,Int.toNat_natCast,Int.toNat_natCast];have a2:(stP 32 (stU (stU ⟨p,0⟩).2).2).2.p=[]:=hq.2;rw [a2,List.append_nil] at k2;have a3:p=grp n ++ (stU ⟨p,0⟩).2.p:=k4;rw [j4,k2] at a3;rw [List.append_assoc];exact a3.symm
    show s.en ++ [(⟨2,_⟩:Led.Ent)]=_;rw [e,hk2]
  ·rw [if_neg hk2] at h ⊢;unfold Rnd.recS;rw [if_pos h]
theorem stp_ok {s:Rnd.S} {e:Led.Ent} (h:ZM s e.kind e.bytes=0):YI s e=some (Zu s e.kind e.bytes):=if_pos ⟨h,Rnd.fol_rec h⟩
theorem take_split {es:List Led.Ent} {i:Nat} {e:Led.Ent} (h:es[i]? =some e):es=es.take i ++ e :: es.drop (i + 1):=by
 obtain ⟨h1,h2⟩:=List.getElem?_eq_some_iff.1 h;rw [← h2,List.getElem_cons_drop,List.take_append_drop]
theorem rep_not {s0 s si:Rnd.S} {es:List Led.Ent} {i:Nat} {e:Led.Ent} (h:Rnd.rp s0 es=some s) (h1:Rnd.rp s0 (es.take i)=some si) (h2:es[i]? =some e) (h3:YI si e=none):False:=by
 rw [take_split h2,rp_append,h1] at h;have h:Rnd.rp si (e :: es.drop (i + 1))=some s:=h;rw [rp_cons,h3] at h
 cases h
theorem con_replay_ok {gb gl:Nat} {F Fl:LN} {l:List Acc.T} {ws:List Rnd.Win} {es:List Led.Ent} {s:Rnd.S} (hf:Acc.Fine l) (hok:Rnd.ok ws) (hn:es.length≤100000) (hfb:∀ e∈es,e.bytes.length≤1000000) (h:Rnd.rp (Rnd.start l ws) es=some s):
  ConR Tryz.prog 38 [.r F (bkP gb l),.r Fl (ldP gl es)] [pA gb,lsD encW ws,pA gl] (fun t:LN × Nat × LN=>[.r t.1 (bkP gb l),.r t.2.2 (yZ t.2.1 s)]) (fun t=>Yv [pA t.2.1,iD 0,iD 0]):=
 (con_replayA gb gl F Fl l ws es hf hok hn hfb).reshape fun t=>by
  obtain ⟨⟨F',g,Fr,s',o⟩,ho⟩:=t
  cases o with
  | none=>
   have e:s'=s:=by
    have h2:Rnd.rp (Rnd.start l ws) es=some s':=ho;rw [h] at h2;injection h2 with h2;exact h2.symm
   subst e;exact Opens.refl ⟨(F',g,Fr),V,zd _⟩
  | some i=>
   obtain ⟨si,e,h1,h2,h3⟩:=ho;exact (rep_not h h1 h2 h3).elim
abbrev Rnd.S00:Rnd.S:=Rnd.start hL schL
section
variable {P : Program} {Γ : Cx} {σ : St} {S : List Nat} {dst : Option Tmp} {ty : TypeId} {pos : String} {af : Array Edge} {gd : Option (Nat × Bool)} {d : D} {Q : Exit → Act → World → Prop}
def EfE (P:Program) (Γ:Cx) (S:LN) (o:Oper) (σ:St) (T:LN→St→Prop):Prop:=
 ∀ a w,Holds Γ σ a w→∀ (K:Act→World→Prop) (Q:Exit→Act→World→Prop),(∀ G σ' a' w',(∀ g∈G,g∈S∨w.heap.size≤g)→T G σ'→Holds Γ σ' a' w'→Only S w w'→K a' w')→o.wp P a w K Q
theorem SWz.efE {l:List Oper} {tz uz:Reg.Tz} {op:Op} {T:LN→St→Prop} {i:Nat} (ho:l[i]? =some ⟨dst,op,ty,pos,af,none⟩) (h:EfE P Γ S ⟨dst,op,ty,pos,af,none⟩ σ T) (hk:∀ G σ',T G σ'→SWz P Γ l Q (S ++ G) tz σ') (hu:SWz P Γ l Q S uz σ):SWz P Γ l Q S (.e i tz uz) σ:=by
 intro a w hh
 have e:l.getD i default=⟨dst,op,ty,pos,af,none⟩:=by rw [List.getD_eq_getElem?_getD,ho];rfl
 unfold Reg.wpG;rw [e];refine ⟨wpList_plain V fun K hK=> ?_,hu a w hh⟩
 exact h a w hh K _ fun G σ' a' w' hg hT hh' hO=>hK _ _ ⟨S ++ G,fun x hx=>by
  rcases List.mem_append.1 hx with hx | hx
  ·exact .inl hx
  ·exact hg x hx,hO,hk G σ' hT a' w' hh'⟩
end
section
variable {P : Program} {Γ : Cx} {σ : St} {S : List Nat} {dst : Option Tmp} {ty : TypeId} {pos : String} {af : Array Edge} {gd : Option (Nat × Bool)} {d : D} {Q : Exit → Act → World → Prop}
theorem SWz.efEg {l:List Oper} {tz uz:Reg.Tz} {op:Op} {T:LN→St→Prop} {i j t:Nat} {b c:Bool} (ho:l[i]? =some ⟨dst,op,ty,pos,af,some (j,b)⟩) (hj:(l[j]?).bind (·.dst)=some t) (ht:σ.tm t=some (isD (.bool c))) (hc:c=b) (hn:yy Γ.nt t=true)
  (h:EfE P Γ S ⟨dst,op,ty,pos,af,some (j,b)⟩ σ T) (hk:∀ G σ',T G σ'→SWz P Γ l Q (S ++ G) tz σ') (hu:SWz P Γ l Q S uz σ):SWz P Γ l Q S (.e i tz uz) σ:=by
 intro a w hh
 have e:l.getD i default=⟨dst,op,ty,pos,af,some (j,b)⟩:=by rw [List.getD_eq_getElem?_getD,ho];rfl
 unfold Reg.wpG;rw [e];refine ⟨wpList_step fun K hK=> ?_,hu a w hh⟩;rw [wanted_of (ops:=l.toArray) hh rfl (by simpa using hj) ht hn,if_pos (by simp [hc])]
 exact h a w hh K _ fun G σ' a' w' hg hT hh' hO=>hK _ _ ⟨S ++ G,fun x hx=>by
  rcases List.mem_append.1 hx with hx | hx
  ·exact .inl hx
  ·exact hg x hx,hO,hk G σ' hT a' w' hh'⟩
theorem upon_RG {f:FuncId} {vs:List Value} {pre:List Box} {ad:List D} {ι:Type} {post:ι→List Box} {d:ι→D} {a:Act} {w:World} (hcon:ConR P f pre ad post d) (hh:Holds Γ σ a w) {js:LN} (hjs:js.Nodup) (hs:SubBx σ.bx js pre) (hall:All (σ.L Γ) w ad vs):
  Calls P f vs.toArray w fun e w'=>∃ i v,e= .returned v∧Holds Γ (σ.give js (post i)) a w'∧(d i).R ((σ.give js (post i)).L Γ) w' v∧Only (fps pre) w w'∧∀ g∈fps (post i),g∈fps pre∨w.heap.size≤g:=by
 have hL1:∀ x∈fps pre ++ (σ.L Γ).filter (· ∉fps pre),x∈σ.L Γ∨w.heap.size≤x:=fun x hx=>by
  rcases List.mem_append.1 hx with hx | hx
  ·exact .inl (mL _ (hs.fps hx))
  ·exact .inl (List.mem_filter.1 hx).1
 refine (hcon.go ((σ.L Γ).filter (· ∉fps pre)) w vs (fun x hx=>hh.lt x (List.mem_filter.1 hx).1) hh.gl (fun g hg=>hh.off g (hs.fps hg)) (fun g hg hm=>by have:=(List.mem_filter.1 hm).2;simp at this;exact this hg) (ZR hh.nd hjs hs) (fun b' hb'=> ?_) (hall.less hL1)).mono ?_
 ·obtain ⟨j,c,_,h5,h6⟩:=Zx hs b' hb';exact h6.2 _ _ (Box.less (hh.bx c (List.mem_of_getElem? h5)) hL1)
 ·rintro r w' ⟨i,v,rfl,hd,hR,hnd,hnw,ho⟩;obtain ⟨h1,h2⟩:=hh.give hs ho hR hnd hnw;exact ⟨i,v,V,h1,(d i).less hd h2,ho,hnw⟩
theorem EfE.callR {f:FuncId} {args:Array Operand} {aT:Array TypeId} {pre:List Box} {ad es:List D} {ι:Type} {post:ι→List Box} {d:ι→D} {k:Nat} (js:LN) (hcon:ConR P f pre ad post d) (he:σ.evs args.toList=some es) (hl:LeAll es ad) (hjs:js.Nodup) (hs:SubBx σ.bx js pre) (hS:∀ g∈fps pre,g∈S) (hk:yy Γ.nt k=true):
  EfE P Γ S ⟨some k,.call { callee:= .value (.func f),args:=args,argTypes:=aT },ty,pos,af,gd⟩ σ (fun G σ'=>∃ i,G=fps (post i)∧σ'=(σ.give js (post i)).put k (d i)):=by
 intro a w hh K Q hK;have hall:=hl.all (Zr hh he);unfold Oper.wp;rw [Yy (cap:=[]) hcon.en (show a.eval (.func f)= .func (.func f) #[] ([]:List Value).toArray from rfl),List.append_nil];simp only [Oper.upon];refine (upon_RG hcon hh hjs hs hall).mono ?_;rintro r w' ⟨i,v,rfl,h1,h2,ho,hn⟩;exact hK _ _ _ _ (fun g hg=>(hn g hg).imp (hS g) id) ⟨i,V,V⟩ (h1.put (by simpa [yy] using hk) h2) (ho.mono (fun x hx _=>hS x hx))
theorem SWz.opensP {l:List Oper} {tz:Reg.Tz} {pre:List Box} {T:List Box→Prop} (ho:Opens pre T) (js:LN) (hjs:js.Nodup) (hs:SubBx σ.bx js pre) (h:∀ post,T post→SWz P Γ l Q S tz (σ.give js post)):SWz P Γ l Q S tz σ:=fun a w hh=>by
 obtain ⟨post,h1,h2⟩:=hh.opens hjs hs ho;exact h post h1 a w h2
end
theorem Rnd.sub_in {s:Rnd.S} {e:Env.T} {now:Int} (h:Rnd.subE s e now=0):Env.ok e∧Rnd.time now:=by
 unfold Rnd.subE at h
 split at h
 ·cases h
 ·rename_i h1;exact Classical.not_not.1 h1
theorem Rnd.rev_in {s:Rnd.S} {r:Int} {key:LB} {now:Int} (h:Rnd.revE s r key now=0):(key.length=32∧Rnd.time now)∧Rnd.has s r:=by
 unfold Rnd.revE at h
 split at h
 ·cases h
 ·rename_i h1
  split at h
  ·cases h
  ·rename_i h2;exact ⟨Classical.not_not.1 h1,(Classical.not_not.1 h2).2⟩
theorem enc_le {e:Env.T} (h:Env.ok e):(Env.enc e).length≤4300:=by
 have a1:=Env.sgnT_len h;have a2:=(Env.ok_len h).2.2.2.2.2.2.2;have a3:=YC (b:=e.tag) o9;unfold Env.enc;rw [List.length_append];omega
theorem fol_sub {s:Rnd.S} {e:Env.T} {now:Int} (h:Rnd.subE s e now=0):ZM s 1 (Rnd.subP e now)=0∧Zu s 1 (Rnd.subP e now)=Rnd.subS s e now:=by
 obtain ⟨hok,ht⟩:=Rnd.sub_in h;have hl:=enc_le hok
 have hn:now.toNat < 9223372036854775808:=by have:=ht.2;omega
 have a1:stU ⟨Rnd.subP e now,0⟩=((now.toNat:Int),⟨Yw (Env.enc e),0⟩):=stU_grp hn;have a2:stP 65536 ⟨Yw (Env.enc e) ++ [],0⟩=(Env.enc e,⟨[],0⟩):=stP_strE o9 o9;rw [List.append_nil] at a2
 have b1:Rnd.smN (Rnd.subP e now)=now:=by unfold Rnd.smN;rw [a1];have:=ht.1;show ((now.toNat:Nat):Int)=now;omega
 have b2:Yl (Rnd.subP e now)=Env.enc e:=by unfold Yl;rw [a1];show (stP 65536 ⟨Yw (Env.enc e),0⟩).1=_;rw [a2]
 have b3:endE (Rnd.smQ (Rnd.subP e now))=0:=by unfold Rnd.smQ;rw [a1];show endE (stP 65536 ⟨Yw (Env.enc e),0⟩).2=0;rw [a2];rfl
 obtain ⟨d1,d2⟩:=Env.dec_enc hok
 constructor
 ·unfold ZM Rnd.smE;rw [if_pos rfl,if_neg (by rw [b3];simp),b2,if_neg (by rw [d1];simp),d2,b1,h]
 ·unfold Zu Rnd.smS;rw [if_pos rfl,if_neg (by rw [b3];simp),b2,if_neg (by rw [d1];simp),d2,b1]
theorem fol_rev {s:Rnd.S} {r:Int} {key:LB} {now:Int} (hw:s.ws.length≤1000000) (h:Rnd.revE s r key now=0):ZM s 2 (Rnd.revP r key now)=0∧Zu s 2 (Rnd.revP r key now)=Rnd.revS s r key now:=by
 obtain ⟨⟨hk,ht⟩,hr⟩:=Rnd.rev_in h
 have hn:now.toNat < 9223372036854775808:=by have:=ht.2;omega
 have hm:r.toNat < 9223372036854775808:=by have:=hr.2;omega
 have a1:stU ⟨Rnd.revP r key now,0⟩=((now.toNat:Int),⟨grp r.toNat ++ Yw key,0⟩):=by unfold Rnd.revP;rw [List.append_assoc];exact stU_grp hn
 have a3:stU ⟨grp r.toNat ++ Yw key,0⟩=((r.toNat:Int),⟨Yw key,0⟩):=stU_grp hm;have a2:stP 32 ⟨Yw key ++ [],0⟩=(key,⟨[],0⟩):=stP_strE o9 o9;rw [List.append_nil] at a2
 have b1:Rnd.rvN (Rnd.revP r key now)=now:=by unfold Rnd.rvN;rw [a1];have:=ht.1;show ((now.toNat:Nat):Int)=now;omega
 have b4:Rnd.rvR (Rnd.revP r key now)=r:=by unfold Rnd.rvR;rw [a1];show (stU ⟨grp r.toNat ++ Yw key,0⟩).1=r;rw [a3];have:=hr.1;show ((r.toNat:Nat):Int)=r;omega
 have b2:Rnd.rvK (Rnd.revP r key now)=key:=by unfold Rnd.rvK;rw [a1];show (stP 32 (stU ⟨grp r.toNat ++ Yw key,0⟩).2).1=_;rw [a3];show (stP 32 ⟨Yw key,0⟩).1=_;rw [a2]
 have b3:endE (Rnd.rvQ (Rnd.revP r key now))=0:=by unfold Rnd.rvQ;rw [a1];show endE (stP 32 (stU ⟨grp r.toNat ++ Yw key,0⟩).2).2=0;rw [a3];show endE (stP 32 ⟨Yw key,0⟩).2=0;rw [a2];rfl
 constructor
 ·unfold ZM Rnd.rvE;rw [if_neg d9,if_pos rfl,if_neg (by rw [b3];simp),b4,b2,b1,h]
 ·unfold Zu Rnd.rvS;rw [if_neg d9,if_pos rfl,if_neg (by rw [b3];simp),b4,b2,b1]
def Rnd.Rp (s:Rnd.S):Prop:=Rnd.rp Rnd.S00 s.en=some s
theorem Rnd.Rp.start:Rnd.Rp Rnd.S00:=rfl
theorem Rnd.Rp.sub {s:Rnd.S} (h:Rnd.Rp s) (e:Env.T) (now:Int):Rnd.Rp (Rnd.subS s e now):=by
 by_cases hE:Rnd.subE s e now=0
 ·obtain ⟨h1,h2⟩:=fol_sub hE;have h3:=stp_ok (s:=s) (e:=⟨1,Rnd.subP e now⟩) h1
  have h4:(Rnd.subS s e now).en=s.en ++ [⟨1,Rnd.subP e now⟩]:=by unfold Rnd.subS;rw [if_pos hE]
  unfold Rnd.Rp;rw [h4,rp_snoc h,h3];exact congrArg some h2
 ·rw [Rnd.sub_no hE];exact h
theorem Rnd.Rp.rev {s:Rnd.S} (h:Rnd.Rp s) (hw:s.ws.length≤1000000) (r:Int) (key:LB) (now:Int):Rnd.Rp (Rnd.revS s r key now):=by
 by_cases hE:Rnd.revE s r key now=0
 ·obtain ⟨h1,h2⟩:=fol_rev hw hE;have h3:=stp_ok (s:=s) (e:=⟨2,Rnd.revP r key now⟩) h1
  have h4:(Rnd.revS s r key now).en=s.en ++ [⟨2,Rnd.revP r key now⟩]:=by unfold Rnd.revS;rw [if_pos hE]
  unfold Rnd.Rp;rw [h4,rp_snoc h,h3];exact congrArg some h2
 ·rw [show Rnd.revS s r key now=s from if_neg hE];exact h
def yE (e:Env.T):LB × Int × Int × Nat × Nat:=(e.acc,e.rnd,e.ser,e.box.length,e.tag.length)
def Rnd.keyX (x:Led.Ent):Int × Nat:=(x.kind,x.bytes.length)
structure Rnd.Lik (s t:Rnd.S):Prop where
 bk:s.bk=t.bk
 ws:s.ws=t.ws
 ks:s.ks=t.ks
 ck:s.ck=t.ck
 es:s.es.map yE=t.es.map yE
 en:s.en.map Rnd.keyX=t.en.map Rnd.keyX
theorem Rnd.Lik.refl (s:Rnd.S):Rnd.Lik s s:=⟨rfl,rfl,rfl,rfl,rfl,rfl⟩
theorem Rnd.Lik.len {s t:Rnd.S} (h:Rnd.Lik s t):s.en.length=t.en.length:=by simpa using congrArg List.length h.en
theorem busy_key {es fs:List Env.T} {e f:Env.T} (h:es.map yE=fs.map yE) (he:yE e=yE f):Rnd.busy es e→Rnd.busy fs f:=by
 rintro ⟨x,hx,h1,h2⟩
 have hm:yE x∈fs.map yE:=by rw [← h];exact List.mem_map.2 ⟨x,hx,rfl⟩
 obtain ⟨y,hy,hk⟩:=List.mem_map.1 hm;unfold yE at he hk;simp only [Prod.mk.injEq] at he hk;exact ⟨y,hy,⟨by rw [hk.1,h1.1,he.1],by rw [hk.2.1,h1.2,he.2.1]⟩,by rw [hk.2.2.1,← he.2.2.1];exact h2⟩
theorem put_key {es fs:List Env.T} {e f:Env.T} (h:es.map yE=fs.map yE) (he:yE e=yE f):(Rnd.put es e).map yE=(Rnd.put fs f).map yE:=by
 have hf:∀ (l:List Env.T) (x:Env.T),(l.filter fun y=>decide (¬Rnd.same y x)).map yE=(l.map yE).filter fun k=>decide (¬(k.1=x.acc∧k.2.1=x.rnd)):=fun l x=>by
  rw [List.filter_map]
  rfl
 unfold Rnd.put;rw [List.map_append,List.map_append,hf,hf,h];have he':=he;unfold yE at he';simp only [Prod.mk.injEq] at he';rw [he'.1,he'.2.1];simp [he]
theorem strE_same {a b:LB} (h:a.length=b.length):(Yw a).length=(Yw b).length:=by unfold Yw;rw [List.length_append,List.length_append,h]
theorem enc_same {e f:Env.T} (h:yE e=yE f):(Env.enc e).length=(Env.enc f).length:=by
 unfold yE at h;simp only [Prod.mk.injEq] at h;obtain ⟨h1,h2,h3,h4,h5⟩:=h;unfold Env.enc Env.sgnT Env.sgn;simp only [List.length_append];rw [h1,h2,h3,strE_same h4,strE_same h5]
theorem Rnd.Lik.subE {s t:Rnd.S} (h:Rnd.Lik s t) {e f:Env.T} (he:yE e=yE f) (ha:Env.ok e→Env.autE s.bk e=Env.autE s.bk f) (now:Int):Rnd.subE s e now=Rnd.subE t f now:=by
 have hk:=he;unfold yE at hk;simp only [Prod.mk.injEq] at hk;obtain ⟨h1,h2,h3,h4,h5⟩:=hk
 have hok:Env.ok e↔Env.ok f:=by unfold Env.ok;rw [h1,h2,h3,h4,h5]
 have hb:Rnd.busy s.es e↔Rnd.busy t.es f:=⟨busy_key h.es he,busy_key h.es.symm he.symm⟩
 have hs:∀ n,Rnd.st s n now=Rnd.st t n now:=fun n=>by unfold Rnd.st;rw [h.ws,h.ks]
 have hh:Rnd.has s e.rnd↔Rnd.has t f.rnd:=by unfold Rnd.has;rw [h.ws,h2]
 unfold Rnd.subE
 by_cases c1:Env.ok e∧Rnd.time now
 ·have c1':Env.ok f∧Rnd.time now:=⟨hok.1 c1.1,c1.2⟩
  have hA:Env.autE s.bk e=Env.autE t.bk f:=by rw [ha c1.1,h.bk]
  have hT:Rnd.st s e.rnd.toNat now=Rnd.st t f.rnd.toNat now:=by rw [hs,h2]
  rw [if_neg (not_not_intro c1),if_neg (not_not_intro c1')];simp only [hT,hA,h.len,h.ck,hh,hb]
 ·rw [if_pos c1,if_pos (fun c=>c1 ⟨hok.2 c.1,c.2⟩)]
theorem Rnd.Lik.sub {s t:Rnd.S} (h:Rnd.Lik s t) {e f:Env.T} (he:yE e=yE f) (ha:Env.ok e→Env.autE s.bk e=Env.autE s.bk f) (now:Int):Rnd.Lik (Rnd.subS s e now) (Rnd.subS t f now):=by
 have hE:=h.subE he ha now;unfold Rnd.subS;rw [hE]
 split
 ·refine ⟨h.bk,h.ws,h.ks,V,put_key h.es he,?_⟩;rw [List.map_append,List.map_append,h.en];congr 1;show [((1:Int),(Rnd.subP e now).length)]=[((1:Int),(Rnd.subP f now).length)];unfold Rnd.subP;rw [List.length_append,List.length_append,strE_same (enc_same he)]
 ·exact h
theorem Rnd.Lik.revE {s t:Rnd.S} (h:Rnd.Lik s t) (r:Int) (key:LB) (now:Int):Rnd.revE s r key now=Rnd.revE t r key now:=by
 have hh:Rnd.has s r↔Rnd.has t r:=by unfold Rnd.has;rw [h.ws]
 unfold Rnd.revE;simp only [hh,h.ck,h.ws,h.ks,h.len]
theorem Rnd.Lik.rev {s t:Rnd.S} (h:Rnd.Lik s t) (r:Int) (key:LB) (now:Int):Rnd.Lik (Rnd.revS s r key now) (Rnd.revS t r key now):=by
 unfold Rnd.revS;rw [h.revE]
 split
 ·refine ⟨h.bk,h.ws,by show s.ks.set _ _=t.ks.set _ _;rw [h.ks],rfl,h.es,?_⟩;rw [List.map_append,List.map_append,h.en]
 ·exact h
theorem mk_like (a:Ac) {b c:LB} (hl:b.length=c.length) (hw:a.what=0∨a.what=1):yE (yO hL a b)=yE (yO hL a c)∧(Env.ok (yO hL a b)→Env.autE hL (yO hL a b)=Env.autE hL (yO hL a c)):=by
 obtain ⟨x,hx⟩:=whoN_find a.who
 have hp:YE a b=YE a c:=by unfold YE;rw [hl]
 by_cases h0:YE a b=0
 ·have h0':YE a c=0:=by rw [← hp];exact h0
  have S:∀ d,YE a d=0→Env.Sld hL (yK a.who) a.rnd a.ser (yU a.key) (List.replicate 16 (Rnd.b8 a.ser)) d x:=fun d hd=>by
   obtain ⟨p1,p2,p3,p4,p5⟩:=Env.pre_ok hd;exact Env.sld hFine hx p1 p2 p3 p4 p5
  have E:∀ d,(hd:YE a d=0)→Zm hL a d=Env.mk hL (yK a.who) a.rnd a.ser (yU a.key) (List.replicate 16 (Rnd.b8 a.ser)) d:=fun d hd=>(S d hd).eq
  have K:∀ d,YE a d=0→(Zm hL a d).box.length=d.length + 32∧(Zm hL a d).tag.length=32:=fun d hd=>by
   rw [E d hd];refine ⟨Env.box_len _ _ _ s9,?_⟩;rw [(S d hd).tag];simp
  have kk:yE (Zm hL a b)=yE (Zm hL a c):=by
   unfold yE;rw [(K b h0).1,(K c h0').1,(K b h0).2,(K c h0').2,hl,E b h0,E c h0']
   rfl
  rcases hw with hw | hw
  ·have m:∀ d,yO hL a d=Zm hL a d:=fun d=>by unfold yO;rw [if_neg o9,if_neg o9]
   rw [m,m];refine ⟨kk,fun _=> ?_⟩;rw [E b h0,E c h0',(S b h0).aut,(S c h0').aut]
  ·have m:∀ d,yO hL a d={ Zm hL a d with tag:=Rnd.bump (Zm hL a d).tag }:=fun d=>by unfold yO;rw [if_neg o9,if_pos hw]
   have bl:∀ t:LB,(Rnd.bump t).length=t.length:=fun t=>by cases t <;> rfl
   have bad:∀ d,(hd:YE a d=0)→Env.ok (yO hL a d)→Env.autE hL (yO hL a d)=10:=fun d hd hok=>by
    have ht:=(K d hd).2;unfold Env.autE;rw [if_pos hok]
    have e1:Env.sgnT (yO hL a d)=Env.sgnT (Zm hL a d):=by rw [m];rfl
    have e2:(yO hL a d).acc=(Zm hL a d).acc:=by rw [m]
    have e3:(yO hL a d).tag=Rnd.bump (Zm hL a d).tag:=by rw [m]
    have haut:=(S d hd).aut;have hok2:=(S d hd).ok;rw [← E d hd] at haut hok2;unfold Env.autE at haut;rw [if_pos hok2] at haut;rw [e1,e2,e3];unfold ZC Acc.ver at haut ⊢
    split at haut
    ·rename_i h1;exact absurd haut h1
    ·rename_i h1;rw [if_neg h1]
     split at haut
     ·rename_i h2;rw [if_neg];intro h3;rw [h2] at h3
      match hb:(Zm hL a d).tag,ht with
      | t :: r,_=>
       rw [hb] at h3;have h4:t=t + 1:=(List.cons.inj h3).1;have h5:=congrArg UInt8.toNat h4;rw [UInt8.toNat_add] at h5;have:=t.toNat_lt;have e:(1:UInt8).toNat=1:=rfl;omega
     ·cases haut
   have kk2:yE (yO hL a b)=yE (yO hL a c):=by
    rw [m,m];unfold yE at kk ⊢;simp only [Prod.mk.injEq] at kk ⊢;exact ⟨kk.1,kk.2.1,kk.2.2.1,kk.2.2.2.1,by rw [bl,bl];exact kk.2.2.2.2⟩
   refine ⟨kk2,fun hok=> ?_⟩
   rw [bad b h0 hok,bad c h0' (by
    have hk:=kk2;unfold yE at hk;simp only [Prod.mk.injEq] at hk;unfold Env.ok at hok ⊢;rw [← hk.1,← hk.2.1,← hk.2.2.1,← hk.2.2.2.1,← hk.2.2.2.2]
    exact hok)]
 ·have z:∀ d,YE a d≠0→Zm hL a d=Env.zero:=fun d hd=>(sl_pre hd).2;have z1:=z b h0;have z2:=z c (by rw [← hp];exact h0)
  have:yO hL a b=yO hL a c:=by unfold yO;rw [z1,z2]
  rw [this];exact ⟨V,fun _=>V⟩
theorem lik_at {s t:Rnd.S} (h:Rnd.Lik s t) (r now:Int):Rnd.atS s r now=Rnd.atS t r now∧Rnd.atE s r now=Rnd.atE t r now:=by
 have hh:Rnd.has s r↔Rnd.has t r:=by unfold Rnd.has;rw [h.ws]
 have hE:Rnd.atE s r now=Rnd.atE t r now:=by unfold Rnd.atE;simp only [hh]
 have hs:∀ n,Rnd.st s n now=Rnd.st t n now:=fun n=>by unfold Rnd.st;rw [h.ws,h.ks]
 exact ⟨by unfold Rnd.atS;rw [hE,hs],hE⟩
theorem lik_en {s t:Rnd.S} (h:Rnd.Lik s t) {i:Nat} {x:Led.Ent} (hx:s.en[i]? =some x):∃ y,t.en[i]? =some y∧y.kind=x.kind∧y.bytes.length=x.bytes.length:=by
 have h1:=congrArg (fun l:List (Int × Nat)=>l[i]?) h.en;simp only [List.getElem?_map,hx,Option.map_some] at h1;obtain ⟨y,hy,hk⟩:=Option.map_eq_some_iff.1 h1.symm;unfold Rnd.keyX at hk;simp only [Prod.mk.injEq] at hk;exact ⟨y,hy,hk.1,hk.2⟩
structure Rnd.Hd (s t:Rnd.S):Prop where
 g1:Rnd.Good s
 g2:Rnd.Good t
 lik:Rnd.Lik s t
 rp:Rnd.Rp s
 ws:s.ws.length=2
 bk:s.bk=hL
theorem hd_start:Rnd.Hd Rnd.S00 Rnd.S00:=⟨Rnd.good_start hFine sch_ok,Rnd.good_start hFine sch_ok,Rnd.Lik.refl _,Rnd.Rp.start,rfl,rfl⟩
theorem sub_ws (s:Rnd.S) (e:Env.T) (now:Int):(Rnd.subS s e now).ws=s.ws∧(Rnd.subS s e now).bk=s.bk:=by unfold Rnd.subS;split <;> exact ⟨rfl,rfl⟩
theorem rev_ws (s:Rnd.S) (r:Int) (key:LB) (now:Int):(Rnd.revS s r key now).ws=s.ws∧(Rnd.revS s r key now).bk=s.bk:=by unfold Rnd.revS;split <;> exact ⟨rfl,rfl⟩
theorem Rnd.Hd.rev {s t:Rnd.S} (h:Rnd.Hd s t) (r:Int) (key:LB) (now:Int):Rnd.Hd (Rnd.revS s r key now) (Rnd.revS t r key now):=
 ⟨h.g1.rev _ _ _,h.g2.rev _ _ _,Rnd.Lik.rev h.lik _ _ _,Rnd.Rp.rev h.rp (by rw [h.ws];decide) _ _ _,by rw [(rev_ws _ _ _ _).1];exact h.ws,by rw [(rev_ws _ _ _ _).2];exact h.bk⟩
theorem Rnd.Hd.sub {s t:Rnd.S} (h:Rnd.Hd s t) {a:Ac} (hw:a.what=0∨a.what=1) (now:Int):Rnd.Hd (Rnd.subS s (yO hL a a.bid) now) (Rnd.subS t (yO hL a (List.replicate a.bid.length 0)) now)∧Rnd.subE s (yO hL a a.bid) now=Rnd.subE t (yO hL a (List.replicate a.bid.length 0)) now:=by
 obtain ⟨k1,k2⟩:=mk_like a (b:=a.bid) (c:=List.replicate a.bid.length 0) s9 hw
 have k2':Env.ok (yO hL a a.bid)→Env.autE s.bk (yO hL a a.bid)=Env.autE s.bk (yO hL a (List.replicate a.bid.length 0)):=by
  have:=k2;rw [h.bk];exact this
 exact ⟨⟨h.g1.sub _ _,h.g2.sub _ _,Rnd.Lik.sub h.lik k1 k2' _,Rnd.Rp.sub h.rp _ _,by rw [(sub_ws _ _ _).1];exact h.ws,by rw [(sub_ws _ _ _).2];exact h.bk⟩,Rnd.Lik.subE h.lik k1 k2' _⟩
theorem con_alike (gr g2:Nat) (F G:LN) (s t:Rnd.S) (now:Int) (hg:Rnd.Good s) (hg2:Rnd.Good t) (hk:Rnd.Lik s t):ConR Tryz.prog 40 [.r F (yZ gr s),.r G (yZ g2 t)] [pA gr,pA g2,iD now] (fun q:LN × LN=>[.r q.1 (yZ gr s),.r q.2 (yZ g2 t)]) (fun q:LN × LN=>yc true):=by
 have hel:=hk.len;have henl:=hg.len;refine zW Tryz.func40 k9 V k9 fun base w0=>(zh (zb (za V (zg V) (zf (zc (zh (zh (zb (za V (zg V) (zf (zc (zV (Zk (ι:={p:Nat × LN × LN // p.1≤2}) (fun p=>zK [(0,pA gr),(1,pA g2),(2,iD now),(7,iD (p.1.1:Int))] [.r p.1.2.1 (yZ gr s),.r p.1.2.2 (yZ g2 t)]) (fun p=>2 - p.1.1) (⟨(0,F,G),Nat.zero_le _⟩) ?_ ?_)))))))))))))
 ·exact (sB [0,1] V V)
 ·rintro ⟨⟨i,F1,G1⟩,hi⟩ K0 hK0;dsimp only at hi ⊢;refine zh (zh (zb (za V (ze V) (za V (yG V V) (zf (zc (zI V (fun hb20=> ?_) (fun hb20=> ?_))))))))
  ·have h20:=oT hb20;refine zu (zc (zh (zV (zh (zb (za V (ze V) (za V (ze V) (za V (ze V) (zl (zx [0] (con_stateR gr F1 s (i:Int) now) V ⟨zd _,zd _,zd _,t9⟩ d9 ⟨lR V,t9⟩ (fun _ h=>h) V) ?_)))))))));rintro _ ⟨F27,rfl⟩;refine za V (ze V) (za V (zr V V) (za V (zr V V) (za V (zg V) (za V (zg V) (zf (zc (zh (zQ (σ':=zK [(0,pA gr),(1,pA g2),(2,iD now),(7,iD (i:Int)),(8,iD (Rnd.atS s (i:Int) now)),(9,iD (Rnd.atE s (i:Int) now))] [.r F27 (yZ gr s),.r G1 (yZ g2 t)]) (sB [1,0] V V) (zb (za V (ze V) (za V (ze V) (za V (ze V) (zl (zx [1] (con_stateR g2 G1 t (i:Int) now) V ⟨zd _,zd _,zd _,t9⟩ d9 ⟨lR V,t9⟩ (fun _ h=>h) V) ?_)))))))))))));rintro _ ⟨G34,rfl⟩;exact za V (ze V) (za V (zr V V) (za V (zr V V) (za V (zg V) (za V (zg V) (zf (zc (zh (zQ (σ':=zK [(0,pA gr),(1,pA g2),(2,iD now),(7,iD (i:Int)),(8,iD (Rnd.atS s (i:Int) now)),(9,iD (Rnd.atE s (i:Int) now)),(10,iD (Rnd.atS t (i:Int) now)),(11,iD (Rnd.atE t (i:Int) now))] [.r F27 (yZ gr s),.r G34 (yZ g2 t)]) (sB [0,1] V V) (zb (za V (ze V) (za V (ze V) (za V (zX V V) (za V (ze V) (zm V V (by simp [(lik_at hk (i:Int) now).1]) V V (ze V) (zm V V (by simp [(lik_at hk (i:Int) now).1]) V V (ze V) (zm V V (by simp [(lik_at hk (i:Int) now).1]) V V (zX V V) (za V (zy V (by simp [(lik_at hk (i:Int) now).1]) V) (zf (zc (zB V (by simp [(lik_at hk (i:Int) now).2]) (zu (yf (zc (zb (za V (ze V) (za V (yM V V ⟨by omega,by omega⟩) (za rfl (zg rfl) (zf (fun a w hh=>hK0 (⟨(i + 1,F27,G34),by dsimp only;omega⟩) (by dsimp only;omega) a w (hh.sub (⟨⟨_,rfl,⟨lq rfl,⟨lq rfl,⟨lq rfl,⟨⟨_,rfl,zE s9⟩,trivial⟩⟩⟩⟩⟩,[0,1],by decide,(sX rfl)⟩)))))))))))))))))))))))))))))))
  ·have h20:=oF hb20;refine yW ?_
   repeat (first | refine Za ?_ | refine Zb d9 ?_)
   refine Zi (zc (zh (zQ (σ':=zK [(0,pA gr),(1,pA g2)] [.r F1 (yZ gr s),.r G1 (yZ g2 t)]) (sB [0,1] V V) (zb (za V (ze V) (zl (zx [0] (YH gr F1 s hg) V ⟨zd _,t9⟩ d9 ⟨lR V,t9⟩ (fun _ h=>h) V) ?_))))));rintro _ ⟨⟨F46,ga,H46⟩,rfl⟩;refine za V (ze V) (zl (zx [0] (YH g2 G1 t hg2) V ⟨zd _,t9⟩ d9 ⟨lR V,t9⟩ (fun _ h=>h) V) ?_);rintro _ ⟨⟨G48,gb,H48⟩,rfl⟩;refine za V (zg V) (za V (zg V) (zf (zc (zh (zh (zQ (σ':=zK [(0,pA gr),(1,pA g2),(12,pA ga),(13,pA gb)] [.r F46 (yZ gr s),.r G48 (yZ g2 t),.r H46 (ldP ga s.en),.r H48 (ldP gb t.en)]) (sB [0,2,1,3] V V) (zM (ld_out (gl:=ga) (es:=s.en)) [2] d9 ⟨lR V,t9⟩ ?_)))))));rintro _ ⟨u,rfl⟩;refine zM (ld_out (gl:=gb) (es:=t.en)) [2] d9 ⟨lR V,t9⟩ ?_;rintro _ ⟨v,rfl⟩;refine zb (za V (ze V) (zl (S:=[]) (zz [2,3,4] (con_len s.en) V ⟨(yn 2 V d9 ⟨(Zl 3 V d9),(YD 4 V d9),t9⟩),t9⟩ V) ?_));rintro _ rfl;refine za V (ze V) (zl (S:=[]) (zz [5,6,7] (con_len t.en) V ⟨(yn 5 V d9 ⟨(Zl 6 V d9),(YD 7 V d9),t9⟩),t9⟩ V) ?_);rintro _ rfl
   refine za V (zX V V) (za V (ze V) (zm V V (by simp [hel]) V V (ze V) (Ze V V (by simp [hel]) V (zx [0] (con_clock gr F46 s) V ⟨zd _,t9⟩ d9 ⟨lR V,t9⟩ (fun _ h=>h) V) ?_)));rintro _ ⟨F56,rfl⟩;refine zm V V (by simp [hel]) V V (ze V) (Ze V V (by simp [hel]) V (zx [0] (con_clock g2 G48 t) V ⟨zd _,t9⟩ d9 ⟨lR V,t9⟩ (fun _ h=>h) V) ?_);rintro _ ⟨G58,rfl⟩;refine zm V V (by simp [hel]) V V (zX V V) (za V (zy V (by simp [hel]) V) (zf (zc (zB V (by simp [hk.ck]) (zu (zc (zh (zh (zb (za V (zg V) (zf (zc (zV (Zk (ι:={i:Nat // i≤s.en.length}) (fun i=>zK [(12,pA ga),(13,pA gb),(14,iD (i.1:Int))] [.r F56 (yZ gr s),.r G58 (yZ g2 t),.c ga [isD (.slice u.A s.en.length u.c),isD (.map u.M)],.r u.F (yj 85 2 encE u.A u.c s.en),.r u.G (mapF u.M encN (Led.keys s.en.length) (mkeys s.en)),.c gb [isD (.slice v.A t.en.length v.c),isD (.map v.M)],.r v.F (yj 85 2 encE v.A v.c t.en),.r v.G (mapF v.M encN (Led.keys t.en.length) (mkeys t.en))]) (fun i=>s.en.length - i.1) (⟨0,Nat.zero_le _⟩) ?_ ?_))))))))))))))
   ·exact (sB [6,7,0,1,2,3,4,5] V V)
   ·rintro ⟨i,hi⟩ K1 hK1;dsimp only at hi ⊢;refine zh (zh (zb (za V (ze V) (za V (ze V) (zl (S:=[]) (zz [2,3,4] (con_len s.en) V ⟨(yn 2 V d9 ⟨(Zl 3 V d9),(YD 4 V d9),t9⟩),t9⟩ V) ?_)))));rintro _ rfl;refine za V (yG V V) (zf (zc (zI V (fun hb64=> ?_) (fun hb64=> ?_))))
    ·have h64:=oT hb64;refine zu (zc (zh (zV (zh ?_))));obtain ⟨x,hx⟩:∃ x,s.en[i]? =some x:=⟨_,List.getElem?_eq_getElem o9⟩;obtain ⟨y,hy,hy1,hy2⟩:=lik_en hk hx;refine zb (za V (ze V) (za V (ze V) (zl (S:=[]) (zz [2,3,4] (con_at s.en i x hx (by have:=(hg.fit x (List.mem_of_getElem? hx)).2.2;omega)) V ⟨(yn 2 V d9 ⟨(Zl 3 V d9),(YD 4 V d9),t9⟩),(zq (zd _)),t9⟩ V) ?_)));rintro _ rfl;refine za V (ze V) (za V (zr V V) (za V (zr V V) (zl (S:=[]) (zH (zs:=[.int .i64 0,.slice none 0 0]) k9 V) ?_)));rintro _ ⟨g15,rfl⟩;refine zl (S:=[_]) (zC 8 V V V k9 V (m9 V)) ?_;rintro _ rfl;refine za V (zg V) (zf (zc (zh (zb (za V (ze V) (za V (ze V) (zl (S:=[]) (zz [5,6,7] (con_at t.en i y hy (by have:=(hg2.fit y (List.mem_of_getElem? hy)).2.2;omega)) V ⟨(yn 5 V d9 ⟨(Zl 6 V d9),(YD 7 V d9),t9⟩),(zq (zd _)),t9⟩ V) ?_)))))));rintro _ rfl;refine za V (ze V) (za V (zr V V) (za V (zr V V) (zl (S:=[]) (zH (zs:=[.int .i64 0,.slice none 0 0]) k9 V) ?_)))
     rintro _ ⟨g17,rfl⟩;refine zl (S:=[_]) (zC 9 V V V k9 V (m9 V)) ?_;rintro _ rfl;exact za V (zg V) (zf (zc (zh (zb (za V (ze V) (za V (zX V V) (za V (ze V) (zm V V (by rfl) V V (ze V) (zm V V (by rfl) V V (zX V V) (za V (zy V (by rfl) V) (za V (ze V) (zm V V (by rfl) V V (zi (n:=0) V k9) (zm V V (by rfl) V V (zj 8 V V V k9 zn) (zm V V (by rfl) V V (zi (n:=0) V k9) (zm V V (by rfl) V V (zj 9 V V V k9 zn) (zm V V (by rfl) V V (zX V V) (za V (zy V (by rfl) V) (za V (ze V) (zm V V (by simp [hy1]) V V (zi (n:=1) V k9) (zm V V (by simp [hy1]) V V (zj 8 V V V k9 zn) (zm V V (by simp [hy1]) V V (Zq (e:=5) V k9) (zm V V (by simp [hy1]) V V (zi (n:=1) V k9) (zm V V (by simp [hy1]) V V (zj 9 V V V k9 zn) (zm V V (by simp [hy1]) V V (Zq (e:=5) V k9) (zm V V (by simp [hy1]) V V (zX V V) (za V (zy V (by simp [hy1]) V) (zf (zc (zB V (by simp [hy2]) (zu (yf (zc (zb (za V (ze V) (za V (yM V V ⟨by omega,by omega⟩) (za rfl (zg rfl) (zf (fun a w hh=>hK1 (⟨i + 1,by omega⟩) (by dsimp only;omega) a w (hh.sub (⟨⟨_,rfl,⟨lq rfl,⟨lq rfl,⟨⟨_,rfl,zE s9⟩,trivial⟩⟩⟩⟩,[0,1,2,3,4,5,6,7],by decide,(sX rfl)⟩))))))))))))))))))))))))))))))))))))))))
    ·have h64:=oF hb64;refine yW ?_
     repeat (first | refine Za ?_ | refine Zb d9 ?_)
     refine Zi (zc (zh (zQ (σ':=zK [] [.r F56 (yZ gr s),.r G58 (yZ g2 t)]) (sB [0,1] V V) (zb (za V (zg V) (zf (zc (zJ (fn:=Tryz.f40) ((F56,G58)) [0,1] (fun _ _ h=>h) (Rs.le (Rs.one V (zp V)) ?_) d9 (sX V)))))))));exact zd _
end Sx
end Go.Proofs.YtgokpcnabgacnaaGreatDoor
