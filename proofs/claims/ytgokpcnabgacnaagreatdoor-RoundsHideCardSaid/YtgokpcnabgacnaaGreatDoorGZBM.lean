/- ROUNDS: nil and zero rounds. ROUNDS: Replay. -/
import Derived.Test.YtgokpcnabgacnaaGreatDoorGZBH
import Derived.Test.YtgokpcnabgacnaaGreatDoorGZBK
import Derived.Test.YtgokpcnabgacnaaGreatDoorGZAW
set_option maxHeartbeats 8000000
set_option maxRecDepth 100000
namespace Go.Proofs.YtgokpcnabgacnaaGreatDoor
open Go.RowKit
namespace Sx
instance:DecidableEq Led.Ent:=fun a b=>decidable_of_iff (a.kind=b.kind∧a.bytes=b.bytes) (by cases a;cases b;simp)
theorem Rnd.Good.fol {s:Rnd.S} (h:Rnd.Good s) (k:Int) (p:LB):Rnd.Good (Zu s k p):=by
 unfold Zu Rnd.smS Rnd.rvS
 repeat' split
 all_goals first | exact h | exact h.sub _ _ | exact h.rev _ _ _ | exact h.recd _ _
theorem Rnd.sub_no {s:Rnd.S} {e:Env.T} {now:Int} (h:Rnd.subE s e now≠0):Rnd.subS s e now=s:=if_neg h
theorem Rnd.fol_en {s:Rnd.S} {k:Int} {p:LB} (h:ZM s k p=0):∃ y,(Zu s k p).en=s.en ++ [y]:=by
 unfold ZM at h;unfold Zu
 split
 ·rename_i hk;rw [if_pos hk] at h;unfold Rnd.smE at h;unfold Rnd.smS
  split
  ·rename_i h1;rw [if_pos h1] at h;exact absurd h h1
  ·rename_i h1;rw [if_neg h1] at h
   split
   ·rename_i h2;rw [if_pos h2] at h;exact absurd h h2
   ·rename_i h2;rw [if_neg h2] at h;unfold Rnd.subS;rw [if_pos h];exact ⟨_,V⟩
 ·rename_i hk;rw [if_neg hk] at h
  split
  ·rename_i hk2;rw [if_pos hk2] at h;unfold Rnd.rvE at h;unfold Rnd.rvS
   split
   ·rename_i h1;rw [if_pos h1] at h;exact absurd h h1
   ·rename_i h1;rw [if_neg h1] at h;unfold Rnd.revS;rw [if_pos h];exact ⟨_,V⟩
  ·rename_i hk2;rw [if_neg hk2] at h;unfold Rnd.recS;rw [if_pos h];exact ⟨_,V⟩
def YI (s:Rnd.S) (e:Led.Ent):Option Rnd.S:=if ZM s e.kind e.bytes=0∧(Zu s e.kind e.bytes).en=s.en ++ [e] then some (Zu s e.kind e.bytes) else none
def Rnd.rp (s:Rnd.S) (l:List Led.Ent):Option Rnd.S:=l.foldlM YI s
theorem stp_some {s s':Rnd.S} {e:Led.Ent} (h:YI s e=some s'):ZM s e.kind e.bytes=0∧s'.en=s.en ++ [e]∧s'=Zu s e.kind e.bytes:=by
 unfold YI at h
 split at h
 ·rename_i hc;injection h with h;subst h;exact ⟨hc.1,hc.2,V⟩
 ·cases h
theorem rp_append {s:Rnd.S} {l m:List Led.Ent}:Rnd.rp s (l ++ m)=(Rnd.rp s l).bind fun s'=>Rnd.rp s' m:=by
 unfold Rnd.rp;rw [List.foldlM_append]
 rfl
theorem rp_snoc {s s':Rnd.S} {l:List Led.Ent} {e:Led.Ent} (h:Rnd.rp s l=some s'):Rnd.rp s (l ++ [e])=YI s' e:=by
 rw [rp_append,h];show Rnd.rp s' [e]=_;unfold Rnd.rp;simp
theorem rp_cons {s:Rnd.S} {e:Led.Ent} {l:List Led.Ent}:Rnd.rp s (e :: l)=(YI s e).bind fun s'=>Rnd.rp s' l:=by
 unfold Rnd.rp;rw [List.foldlM_cons]
 rfl
theorem rp_en:∀ {l:List Led.Ent} {s s':Rnd.S},Rnd.rp s l=some s'→s'.en=s.en ++ l
 | [],s,s',h=>by injection h with h;subst h;simp
 | e :: l,s,s',h=>by
  rw [rp_cons] at h;obtain ⟨q,hq,h⟩:=Option.bind_eq_some_iff.1 h;rw [rp_en h,(stp_some hq).2.1];simp
theorem rp_good:∀ {l:List Led.Ent} {s s':Rnd.S},Rnd.Good s→Rnd.rp s l=some s'→Rnd.Good s'
 | [],s,s',hg,h=>by injection h with h;subst h;exact hg
 | e :: l,s,s',hg,h=>by
  rw [rp_cons] at h;obtain ⟨q,hq,h⟩:=Option.bind_eq_some_iff.1 h;refine rp_good ?_ h;rw [(stp_some hq).2.2];exact Rnd.Good.fol hg _ _
def Rnd.RepOk (s0:Rnd.S) (es:List Led.Ent) (s:Rnd.S):Option Nat→Prop
 | none=>Rnd.rp s0 es=some s
 | some i=>∃ si e,Rnd.rp s0 (es.take i)=some si∧es[i]? =some e∧YI si e=none
def repD (g:Nat):Option Nat→D
 | none=>Yv [pA g,iD 0,iD 0]
 | some i=>Yv [isD (.pointer none),iD (i:Int),iD 10]
def kdV (k:Int):Value:=if k=1 then .func (.func 95) #[] #[] else if k=2 then .func (.func 96) #[] #[] else .nilFunc
def kdD (k:Int):D:=isD (kdV k)
def kdB (k:Int):Bool:=decide (k=1∨k=2)
theorem kdD_some {k:Int} (h:k∈[2,1]):kdB k=true:=by
 unfold kdB;simp at h;simp [h.symm]
theorem kdD_none {k:Int} (h:¬k∈[2,1]):kdB k=false∧kdV k= .nilFunc:=by
 simp at h;unfold kdB kdV;rw [if_neg h.2,if_neg h.1];exact ⟨by simp [h.1,h.2],rfl⟩
theorem kd_yes {k:Int} (h:kdB k=true):k=1∨(¬k=1∧k=2):=by
 unfold kdB at h;have:=oT h;omega
theorem kd_no {k:Int} (h:kdB k=false):¬k=1∧¬k=2:=by
 unfold kdB at h;have:=oF h;omega
theorem rep_next {s0 s q:Rnd.S} {es:List Led.Ent} {i j:Nat} {e:Led.Ent} {E:Int} (hj:j=i) (he:es[i]? =some e) (hs:Rnd.rp s0 (es.take i)=some s) (hse:s.en=es.take i) (hE:E=ZM s e.kind e.bytes) (hq:q=Zu s e.kind e.bytes) (h0:E=0)
  (hk:(Led.atE q.en (j:Int)).kind=e.kind) (hb:(Led.atE q.en (j:Int)).bytes=e.bytes):Rnd.rp s0 (es.take (i + 1))=some q:=by
 subst hj hE;obtain ⟨y,hy⟩:=Rnd.fol_en h0
 have hl:s.en.length=j:=by rw [hse,List.length_take,Nat.min_eq_left (Nat.le_of_lt (List.getElem?_eq_some_iff.1 he).1)]
 have hyj:q.en[j]? =some y:=by rw [hq,hy,← hl,List.getElem?_concat_length]
 rw [(ZG hyj).1] at hk hb
 have hye:y=e:=by
  cases y;cases e
  simp only at hk hb;rw [hk,hb]
 rw [yq he,rp_snoc hs];unfold YI;rw [if_pos ⟨h0,by rw [hy,hye]⟩,← hq]
theorem rep_bad {s q:Rnd.S} {es:List Led.Ent} {i j:Nat} {e:Led.Ent} {E:Int} (hj:j=i) (he:es[i]? =some e) (hse:s.en=es.take i) (hE:E=ZM s e.kind e.bytes) (hq:q=Zu s e.kind e.bytes)
  (h:E≠0∨(E=0∧(¬(Led.atE q.en (j:Int)).kind=e.kind∨¬(Led.atE q.en (j:Int)).bytes=e.bytes))):YI s e=none:=by
 subst hj hE;unfold YI;refine if_neg fun hc=> ?_;rcases h with h | ⟨_,h⟩
 ·exact h hc.1
 ·have hl:s.en.length=j:=by rw [hse,List.length_take,Nat.min_eq_left (Nat.le_of_lt (List.getElem?_eq_some_iff.1 he).1)]
  have hyj:q.en[j]? =some e:=by rw [hq,hc.2,← hl,List.getElem?_concat_length]
  rw [(ZG hyj).1] at h
  rcases h with h | h <;> exact h rfl
theorem con_replayA (gb gl:Nat) (F Fl:LN) (l:List Acc.T) (ws:List Rnd.Win) (es:List Led.Ent) (hf:Acc.Fine l) (hok:Rnd.ok ws) (hn:es.length≤100000) (hfb:∀ e∈es,e.bytes.length≤1000000):ConR Tryz.prog 38 [.r F (bkP gb l),.r Fl (ldP gl es)] [pA gb,lsD encW ws,pA gl] (fun t:{t:LN × Nat × LN × Rnd.S × Option Nat // Rnd.RepOk (Rnd.start l ws) es t.2.2.2.1 t.2.2.2.2}=>[.r t.1.1 (bkP gb l),.r t.1.2.2.1 (yZ t.1.2.1 t.1.2.2.2.1)]) (fun t:{t:LN × Nat × LN × Rnd.S × Option Nat // Rnd.RepOk (Rnd.start l ws) es t.2.2.2.1 t.2.2.2.2}=>repD t.1.2.1 t.1.2.2.2.2):=by
 refine con_ofRMp Tryz.func38 k9 V k9 fun base w0=>(zh (zb (za V (zg V) (za V (zg V) (za V (zg V) (zf (zc (SW.scope (zh (zh (zb (za V (ze V) (za V (YO V V k9) (za V (ze V) (zm V V (V) V V (ze V) (zm V V (V) V V (YO V V k9) (za V (zy V (V) V) (zf (zc (zB V (V) (zu (zc (zh (zb (za V (ze V) (za V (ze V) (zl (zx [0] (con_new gb l F ws hf hok) V ⟨zd _,zd _,t9⟩ d9 ⟨lR V,t9⟩ (fun _ h=>h) V) ?_)))))))))))))))))))))))))));rintro _ ⟨⟨F28,gr,G28⟩,rfl⟩;refine za V (ze V) (za V (zr V V) (za V (zr V V) (zl (S:=[]) (zH (zs:=[.pointer none]) k9 V) ?_)));rintro _ ⟨g9,rfl⟩;refine zl (S:=[]) (zH (zs:=[.int .i64 0]) k9 V) ?_;rintro _ ⟨g10,rfl⟩;refine zl (S:=[_]) (zN 3 V V V k9 V (m9 V)) ?_;rintro _ rfl;refine zl (S:=[_]) (zN 4 V V V k9 V (m9 V)) ?_;rintro _ rfl;refine zf (zc (zh (zh (zb (za V (zj 4 V V V k9 zn) (za V (zX V V) (zf (zc (zB V d9 (zu (zc (zh (zb (zl (S:=[]) (Ef.makeMapQ (enc:=Z2) (kdD) V) ?_))))))))))))))
 rintro _ ⟨g34,rfl⟩;refine zl (Ef.ins (Ef.mapNewQ (kt:=3) (et:=184) 5 V V V (zd _) V (zd _) k9 (keyZ _) d9 (fun _ h=>h))) ?_;rintro _ rfl;refine zl (Ef.ins (Ef.mapNewQ (kt:=3) (et:=184) 5 V V V (zd _) V (zd _) k9 (keyZ _) d9 (fun _ h=>h))) ?_;rintro _ rfl;refine za V (ze V) (zl (S:=[]) (zH (zs:=[.map none]) k9 V) ?_);rintro _ ⟨g11,rfl⟩;refine zl (S:=[_]) (zN 6 V V V k9 V (m9 V)) ?_;rintro _ rfl;refine zf (zc (zh (zb (zl (S:=[]) (zH (zs:=[.int .i64 0]) k9 V) ?_))));rintro _ ⟨g12,rfl⟩;refine zl (S:=[_]) (zN 7 V V V k9 V (m9 V)) ?_;rintro _ rfl;refine zf (zc (zh (SW.label (zc (zh (zh (zQ (σ':=zK [(2,pA gl),(9,pA g9),(10,pA g10),(11,pA g11),(12,pA g12)] [.r F28 (bkP gb l),.c g9 [pA gr],.c g10 [iD 0],.c g11 [isD (.map (some g34))],.r [g34] (ya (some g34) Z2 [2,1] kdD),.c g12 [iD (-1)],.r G28 (yZ gr (Rnd.start l ws)),.r Fl (ldP gl es)]) (sB [1,3,4,6,5,7,2,0] V V) (zM (ld_out (gl:=gl) (es:=es)) [7] d9 ⟨lR V,t9⟩ ?_))))))));rintro _ ⟨u,rfl⟩;refine zb (za V (ze V) (zl (zx [7,8,9] (con_entriesO gl u.A u.c u.F u.G u.M es) V ⟨zd _,t9⟩ d9 (sX V) (fun _ h=>h) V) ?_))
 rintro _ ⟨gq,rfl⟩
 refine zf (zc (zV (SW.freezeO 9 0 8 V V V (Nat.le_refl _) (SW.freezeF 9 37 V V (zQ (σ':=zK [(9,pA g9),(10,pA g10),(11,pA g11),(12,pA g12),(37,fnD 153 [paD [lsD encE es]])] [.r F28 (bkP gb l),.c g9 [pA gr],.c g10 [iD 0],.c g11 [isD (.map (some g34))],.r [g34] (ya (some g34) Z2 [2,1] kdD),.c g12 [iD (-1)],.r G28 (yZ gr (Rnd.start l ws))]) (sB [0,1,2,3,4,5,6] V V) (SW.rangeF (gf:=153) (ps:=[38,39]) (ib:=ibE) (dd:=ddE) (items:=(itemsE es)) (fun i bx=>∃ (Fb Fr:LN) (s:Rnd.S),Rnd.rp (Rnd.start l ws) (es.take i)=some s∧bx=[.r Fb (bkP gb l),.c g9 [pA gr],.c g10 [iD 0],.c g11 [isD (.map (some g34))],.r [g34] (ya (some g34) Z2 [2,1] kdD),.c g12 [iD (-1)],.r Fr (yZ gr s)]) (fun o i bx=>match o with | none=>False | some n=>n=0∧∃ (Fb Fr:LN) (s:Rnd.S) (c:Int),i < es.length∧(∃ si e,Rnd.rp (Rnd.start l ws) (es.take i)=some si∧es[i]? =some e∧YI si e=none)∧bx=[.r Fb (bkP gb l),.c g9 [pA gr],.c g10 [iD c],.c g11 [isD (.map (some g34))],.r [g34] (ya (some g34) Z2 [2,1] kdD),.c g12 [iD (i:Int)],.r Fr (yZ gr s)]) (fun i x k σ=>∃ (Fb Fr:LN) (s:Rnd.S) (g14:Nat),Rnd.rp (Rnd.start l ws) (es.take i)=some s∧σ=zK [(9,pA g9),(10,pA g10),(11,pA g11),(12,pA g12),(13,iD (x.1:Int)),(14,pA g14)] [.r Fb (bkP gb l),.c g9 [pA gr],.c g10 [iD 0],.c g11 [isD (.map (some g34))],.r [g34] (ya (some g34) Z2 [2,1] kdD),.c g12 [iD (-1)],.r Fr (yZ gr s),.r k.F (yj 5 1 ZP k.A k.c x.2.bytes),.c g14 [iD x.2.kind,isD (.slice k.A x.2.bytes.length k.c)]]) entries_en (con_entries_seq es o9 hfb) V (⟨F28,G28,_,V,V⟩) k9 (fun _ _=>V) ?_ ?_ ?_ ?_ ?_))))))
 ·rintro i x k hx bx ⟨Fb,Fr,s,hs,rfl⟩ y base w0;refine SWr.seq (y8 k9 (fun _ _ h=>h) (za V (zg V) (zf (ZX (y8 k9 (fun _ _ h=>h) (zl (S:=[]) (zH (zs:=[.int .i64 0,.slice none 0 0]) k9 V) ?_))))));rintro _ ⟨g14,rfl⟩;refine zl (S:=[_]) (zC 8 V V V k9 V (m9 V)) ?_;rintro _ rfl;exact zf (SN.rnd (σ':=zK [(9,pA g9),(10,pA g10),(11,pA g11),(12,pA g12),(13,iD (x.1:Int)),(14,pA g14)] [.r Fb (bkP gb l),.c g9 [pA gr],.c g10 [iD 0],.c g11 [isD (.map (some g34))],.r [g34] (ya (some g34) Z2 [2,1] kdD),.c g12 [iD (-1)],.r Fr (yZ gr s),.r k.F (yj 5 1 ZP k.A k.c x.2.bytes),.c g14 [iD x.2.kind,isD (.slice k.A x.2.bytes.length k.c)]]) ⟨Fb,Fr,s,g14,hs,V⟩ (sB [0,1,2,3,4,5,6,7,8] V V))
 ·rintro i x k hx _ ⟨Fb,Fr,s,g14,hs,rfl⟩ y base w0;obtain ⟨hx1,hx2⟩:=itemsE_inv (j:=x.1) (e:=x.2) hx;have hlt:=(List.getElem?_eq_some_iff.1 hx2).1;have hgs:=rp_good (Rnd.good_start hf hok) hs
  have hse:s.en=es.take i:=by rw [rp_en hs];rfl
  obtain ⟨E,hE⟩:∃ E,E=(ZM s x.2.kind x.2.bytes):=⟨_,rfl⟩;obtain ⟨q,hq⟩:∃ q,q=(Zu s x.2.kind x.2.bytes):=⟨_,rfl⟩
  have hqb:∀ e∈q.en,e.bytes.length≤1000000:=fun e he=>by have:=((Rnd.Good.fol hgs x.2.kind x.2.bytes).fit e (by rw [← hq];exact he)).2.2;omega
  have hqe:E=0→∃ y,q.en=es.take i ++ [y]:=fun h=>by rw [hq,← hse];exact Rnd.fol_en (by rw [← hE];exact h)
  have hlen:E=0→q.en.length=i + 1:=fun h=>by obtain ⟨y,hy⟩:=hqe h;rw [hy,List.length_append,List.length_take,Nat.min_eq_left o9];rfl
  have hat:E=0→∃ y,q.en[x.1]? =some y:=fun h=>⟨_,List.getElem?_eq_getElem (by rw [hlen h,hx1];omega)⟩;refine SWr.block (SWr.seq (SWr.seq (SWr.sub (σ':=zK [(9,pA g9),(10,pA g10),(11,pA g11),(12,pA g12),(13,iD (x.1:Int)),(14,pA g14)] [.r Fb (bkP gb l),.c g9 [pA gr],.c g10 [iD 0],.c g11 [isD (.map (some g34))],.r [g34] (ya (some g34) Z2 [2,1] kdD),.c g12 [iD (-1)],.r Fr (yZ gr s),.c g14 [iD x.2.kind,isD (.slice k.A x.2.bytes.length k.c)],.r k.F (yj 5 1 ZP k.A k.c x.2.bytes)]) (sB [0,1,2,3,4,5,6,8,7] V V) (SWr.freezeC 7 1 8 V V V (y8 k9 (fun _ _ h=>h) (za V (zj 3 V V V k9 zn) (za V (zi (n:=0) V k9) (za V (zj 7 V V V k9 zn) (za V ((show Rd _ _ _ _ _ (Yv [isD (kdV x.2.kind),yc (kdB x.2.kind)]) from by (by_cases hm:x.2.kind∈([2,1]:List Int);exact ZS (Rd.lookQ (kt:=3) (et:=184) (ok:=true) 4 rfl rfl rfl (show Le (iD x.2.kind) (isD (Z2 x.2.kind)) from zd _) k9 (keyZ _) hm zn) (Zc ⟨zd _,zE (by rw [kdD_some hm]),trivial⟩);exact ZS (Rd.lookQN (kt:=3) (et:=184) (z:= .nilFunc) (ok:=true) 4 rfl rfl rfl (show Le (iD x.2.kind) (isD (Z2 x.2.kind)) from zd _) k9 k9 (keyZ _) hm zn) (Zc ⟨zE (by rw [(kdD_none hm).2]),zE (by rw [(kdD_none hm).1]),trivial⟩)))) (za rfl (ze rfl) (za rfl (zr rfl rfl) (za rfl (zr rfl rfl) (za rfl (zg rfl) (za rfl (zg rfl) (zf (ZX (SWr.meet (fun σ=>∃ (Fx:LN),σ=zK [(9,pA g9),(10,pA g10),(11,pA g11),(12,pA g12),(13,iD (x.1:Int)),(14,pA g14)] [.r Fb (bkP gb l),.c g9 [pA gr],.c g10 [iD E],.c g11 [isD (.map (some g34))],.r [g34] (ya (some g34) Z2 [2,1] kdD),.c g12 [iD (-1)],.r Fx (yZ gr q),.c g14 [iD x.2.kind,bD x.2.bytes]]) ?_ ?_)))))))))))))))))
  ·skip
   refine SWr.seq (SWr.sub (σ':=zK [(9,pA g9),(10,pA g10),(11,pA g11),(12,pA g12),(13,iD (x.1:Int)),(14,pA g14),(15,isD (kdV x.2.kind)),(16,yc (kdB x.2.kind))] [.r Fb (bkP gb l),.c g9 [pA gr],.c g10 [iD 0],.c g11 [isD (.map (some g34))],.r [g34] (ya (some g34) Z2 [2,1] kdD),.c g12 [iD (-1)],.r Fr (yZ gr s),.c g14 [iD x.2.kind,bD x.2.bytes]]) (⟨⟨_,V,(sT V)⟩,[0,1,2,3,4,5,6,7],by decide,⟨lR rfl,⟨la rfl,⟨la rfl,⟨la rfl,⟨lR rfl,⟨la rfl,⟨lR rfl,⟨⟨_,rfl,⟨zd _,le_ls_b _,trivial⟩⟩,trivial⟩⟩⟩⟩⟩⟩⟩⟩⟩) (y8 k9 (fun _ _ h=>h) (za rfl (ze rfl) (zf (ZX (SWr.cond rfl (fun hb47=> ?_) (fun hb47=> ?_)))))))
   ·have hk:kdB x.2.kind=true:=hb47;rcases kd_yes hk with h1 | ⟨h0,h1⟩
    ·skip
     refine SWr.sub (σ':=zK [(9,pA g9),(10,pA g10),(11,pA g11),(12,pA g12),(13,iD (x.1:Int)),(14,pA g14),(15,isD (.func (.func 95) #[] #[]))] [.r Fb (bkP gb l),.c g9 [pA gr],.c g10 [iD 0],.c g11 [isD (.map (some g34))],.r [g34] (ya (some g34) Z2 [2,1] kdD),.c g12 [iD (-1)],.r Fr (yZ gr s),.c g14 [iD x.2.kind,bD x.2.bytes]]) (⟨⟨_,V,⟨lq V,⟨lq V,⟨lq V,⟨lq V,⟨lq V,⟨lq V,⟨⟨_,V,zE (by rw [kdV,if_pos h1])⟩,t9⟩⟩⟩⟩⟩⟩⟩⟩,[0,1,2,3,4,5,6,7],by decide,(sX rfl)⟩) (y8 k9 (fun _ _ h=>h) (za rfl (ze rfl) (za rfl (zj 1 rfl rfl rfl k9 zn) (za rfl (zi (n:=1) rfl k9) (za rfl (zj 7 rfl rfl rfl k9 zn) (zl (yz (cap:=[]) [6] (con_submitted gr Fr s x.2.bytes hgs (hfb x.2 (List.mem_of_getElem? hx2))) rfl rfl ⟨zd _,zd _,trivial⟩ d9 ⟨lR rfl,trivial⟩ (fun _ h=>h) rfl) ?_))))));rintro _ ⟨F52,rfl⟩;refine zl (S:=[_]) (zN 2 V V V k9 V (m9 V)) ?_;rintro _ rfl;exact zf (yw ⟨F52,V⟩ (⟨⟨_,V,(sT V)⟩,[0,1,2,3,4,5,7,6],by decide,⟨lR rfl,⟨la rfl,⟨⟨_,rfl,⟨zE (by rw [hE,ZM,if_pos h1]),trivial⟩⟩,⟨la rfl,⟨lR rfl,⟨la rfl,⟨⟨_,rfl,(by rw [hq,Zu,if_pos h1];exact yo _)⟩,⟨la rfl,trivial⟩⟩⟩⟩⟩⟩⟩⟩⟩))
    ·skip
     refine SWr.sub (σ':=zK [(9,pA g9),(10,pA g10),(11,pA g11),(12,pA g12),(13,iD (x.1:Int)),(14,pA g14),(15,isD (.func (.func 96) #[] #[]))] [.r Fb (bkP gb l),.c g9 [pA gr],.c g10 [iD 0],.c g11 [isD (.map (some g34))],.r [g34] (ya (some g34) Z2 [2,1] kdD),.c g12 [iD (-1)],.r Fr (yZ gr s),.c g14 [iD x.2.kind,bD x.2.bytes]]) (⟨⟨_,V,⟨lq V,⟨lq V,⟨lq V,⟨lq V,⟨lq V,⟨lq V,⟨⟨_,V,zE (by rw [kdV,if_neg h0,if_pos h1])⟩,t9⟩⟩⟩⟩⟩⟩⟩⟩,[0,1,2,3,4,5,6,7],by decide,(sX rfl)⟩) (y8 k9 (fun _ _ h=>h) (za rfl (ze rfl) (za rfl (zj 1 rfl rfl rfl k9 zn) (za rfl (zi (n:=1) rfl k9) (za rfl (zj 7 rfl rfl rfl k9 zn) (zl (yz (cap:=[]) [6] (con_revealed gr Fr s x.2.bytes hgs (hfb x.2 (List.mem_of_getElem? hx2))) rfl rfl ⟨zd _,zd _,trivial⟩ d9 ⟨lR rfl,trivial⟩ (fun _ h=>h) rfl) ?_))))));rintro _ ⟨F52,rfl⟩;refine zl (S:=[_]) (zN 2 V V V k9 V (m9 V)) ?_;rintro _ rfl;exact zf (yw ⟨F52,V⟩ (⟨⟨_,V,(sT V)⟩,[0,1,2,3,4,5,7,6],by decide,⟨lR rfl,⟨la rfl,⟨⟨_,rfl,⟨zE (by rw [hE,ZM,if_neg h0,if_pos h1]),trivial⟩⟩,⟨la rfl,⟨lR rfl,⟨la rfl,⟨⟨_,rfl,(by rw [hq,Zu,if_neg h0,if_pos h1];exact yo _)⟩,⟨la rfl,trivial⟩⟩⟩⟩⟩⟩⟩⟩⟩))
   ·have hk:kdB x.2.kind=false:=hb47;refine y8 k9 (fun _ _ h=>h) (za V (zj 1 V V V k9 zn) (za V (zi (n:=0) V k9) (za V (zj 7 V V V k9 zn) (za V (zi (n:=1) V k9) (za V (zj 7 V V V k9 zn) (zl (zx [6] (con_record gr Fr s x.2.kind x.2.bytes hgs (hfb x.2 (List.mem_of_getElem? hx2))) V ⟨zd _,zd _,zd _,t9⟩ d9 ⟨lR V,t9⟩ (fun _ h=>h) V) ?_))))));rintro _ ⟨F59,rfl⟩;refine za V (ze V) (za V (zr V V) (za V (zr V V) (zl (S:=[_]) (zN 2 V V V k9 V (m9 V)) ?_)));rintro _ rfl;exact zf (yw ⟨F59,V⟩ (⟨⟨_,V,(sT V)⟩,[0,1,2,3,4,5,7,6],by decide,⟨lR rfl,⟨la rfl,⟨⟨_,rfl,⟨zE (by rw [hE,ZM,if_neg (kd_no hk).1,if_neg (kd_no hk).2]),trivial⟩⟩,⟨la rfl,⟨lR rfl,⟨la rfl,⟨⟨_,rfl,(by rw [hq,Zu,if_neg (kd_no hk).1,if_neg (kd_no hk).2];exact yo _)⟩,⟨la rfl,trivial⟩⟩⟩⟩⟩⟩⟩⟩⟩))
  ·rintro _ ⟨Fx,rfl⟩;refine ZX (SWr.seq (SWr.opensP (Z0 (gr:=gr) (s:=q)) [6] d9 ⟨lR V,t9⟩ ?_));rintro _ ⟨⟨⟨vb,vFb,vl,vFl,vA,vc,vFv,vM,vFm,vk,vFk⟩,hv⟩,rfl⟩;refine SWr.opensP (ld_out (gl:=vl) (es:=q.en)) [9] d9 ⟨lR V,t9⟩ ?_;rintro _ ⟨u,rfl⟩;refine y8 k9 (fun _ _ h=>h) (za V (zj 1 V V V k9 zn) (za V (zt V) (za V (zi (n:=3) V k9) (za V (zj 7 V V V k9 zn) (za V (ze V) (zl (S:=[]) (zz [12,13,14] (con_at_any q.en hqb (x.1:Int)) V ⟨(yn 12 V d9 ⟨(Zl 13 V d9),(YD 14 V d9),t9⟩),(zq (zd _)),t9⟩ V) ?_))))));rintro _ rfl;refine za V (ze V) (za V (zr V V) (za V (zr V V) (zl (S:=[]) (zH (zs:=[.int .i64 0,.slice none 0 0]) k9 V) ?_)));rintro _ ⟨g17,rfl⟩;refine zl (S:=[_]) (zC 15 V V V k9 V (m9 V)) ?_;rintro _ rfl;refine za V (zg V) (zf (ZX (SWr.seq (SWr.sub (σ':=zK [(9,pA g9),(10,pA g10),(11,pA g11),(12,pA g12),(13,iD (x.1:Int)),(14,pA g14),(17,pA g17),(18,iD (Led.atC q.en (x.1:Int)))] [.r Fb (bkP gb l),.c g9 [pA gr],.c g10 [iD E],.c g11 [isD (.map (some g34))],.r [g34] (ya (some g34) Z2 [2,1] kdD),.c g12 [iD (-1)],.c gr [pA vb,lsD encW q.ws,iD q.ck,pA vl,isD (.slice vA vM.length vc),isD (.map (some vk))],.r vFb (bkP vb q.bk),.r vFv (yj 133 1 encM vA vc vM),.r vFm (rowR (mps q.es vM)),.r vFk (ya (some vk) Z2 (Rnd.rks q.ks) (kyD q.ks)),.c vl [isD (.slice u.A q.en.length u.c),isD (.map u.M)],.r u.F (yj 85 2 encE u.A u.c q.en),.r u.G (mapF u.M encN (Led.keys q.en.length) (mkeys q.en)),.c g14 [iD x.2.kind,bD x.2.bytes],.c g17 [iD (Led.atE q.en (x.1:Int)).kind,bD (Led.atE q.en (x.1:Int)).bytes]]) (sB [0,1,2,3,4,5,7,8,9,10,11,12,13,14,6,15] V V) (y8 k9 (fun _ _ h=>h) (za V (zj 2 V V V k9 zn) (za V (zX V V) (za V (ze V) (zZ 73 V (fun hb73=> ?_) (fun hb73=> ?_))))))))))
   ·have h73:E≠0:=by simpa using hb73
    refine zo V V (hb73) V V (zo V V (hb73) V V (za V (zD V (hb73) V) (za V (ze V) (zo V V (V) V V (zo V V (V) V V (zo V V (V) V V (zo V V (V) V V (zo V V (V) V V (zo V V (V) V V (zo V V (V) V V (zo V V (V) V V (za V (zD V (V) V) (za V (ze V) (zo V V (V) V V (zo V V (V) V V (zo V V (V) V V (zo V V (V) V V (zo V V (V) V V (za V (zD V (V) V) (za V (ze V) (zo V V (V) V V (zo V V (V) V V (zo V V (V) V V (zo V V (V) V V (zo V V (V) V V (zo V V (V) V V (za V (zD V (V) V) (zf (ZX (SWr.condT V (V) (SWr.seq (y8 k9 (fun _ _ h=>h) (za V (ze V) (zl (S:=[_]) (zN 5 V V V k9 V (m9 V)) ?_))))))))))))))))))))))))))))))))));rintro _ rfl;refine zf (ZX (SWr.exit' ?_))
    repeat (first | refine Za ?_ | refine Zb d9 ?_ | refine SE.scope ?_)
    have hbad:YI s x.2=none:=rep_bad hx1 hx2 hse hE hq (by first | exact .inl h73 | exact .inr ⟨h73,.inl h94⟩ | exact .inr ⟨h73,.inr h101⟩)
    refine SE.sub (σ':=zK [(9,pA g9),(10,pA g10),(11,pA g11),(12,pA g12),(13,iD (x.1:Int))] [.r Fb (bkP gb l),.c g9 [pA gr],.c g10 [iD E],.c g11 [isD (.map (some g34))],.r [g34] (ya (some g34) Z2 [2,1] kdD),.c g12 [iD (x.1:Int)],.c gr [pA vb,lsD encW q.ws,iD q.ck,pA vl,isD (.slice vA vM.length vc),isD (.map (some vk))],.r vFb (bkP vb q.bk),.r vFv (yj 133 1 encM vA vc vM),.r vFm (rowR (mps q.es vM)),.r vFk (ya (some vk) Z2 (Rnd.rks q.ks) (kyD q.ks)),.c vl [isD (.slice u.A q.en.length u.c),isD (.map u.M)],.r u.F (yj 85 2 encE u.A u.c q.en),.r u.G (mapF u.M encN (Led.keys q.en.length) (mkeys q.en))]) (sB [0,1,2,3,4,5,6,7,8,9,10,11,12,13] V V) (SE.opensP (ld_in (gl:=vl) (es:=q.en) u) [11,12,13] d9 (sX V) ?_);rintro _ ⟨Fq,rfl⟩;refine SE.opensP (Zs (gr:=gr) (s:=q) ⟨vb,vFb,vl,Fq,vA,vc,vFv,vM,vFm,vk,vFk⟩ hv) [6,7,11,8,9,10] d9 (sX V) ?_;rintro _ ⟨Fr2,rfl⟩;exact SE.rnd (σ':=zK [] [.r Fb (bkP gb l),.c g9 [pA gr],.c g10 [iD E],.c g11 [isD (.map (some g34))],.r [g34] (ya (some g34) Z2 [2,1] kdD),.c g12 [iD (i:Int)],.r Fr2 (yZ gr q)]) ⟨V,Fb,Fr2,q,E,hlt,⟨s,x.2,hs,hx2,hbad⟩,V⟩ (⟨⟨_,V,t9⟩,[0,1,2,3,4,5,6],by decide,⟨lR rfl,⟨la rfl,⟨la rfl,⟨la rfl,⟨lR rfl,⟨⟨_,rfl,⟨zE (by rw [hx1]),trivial⟩⟩,⟨lR rfl,trivial⟩⟩⟩⟩⟩⟩⟩⟩)
   ·have h73:E=0:=by simpa using hb73
    refine zm V V (hb73) V V (ze V) (zm V V (hb73) V V (zX V V) (za V (zy V (hb73) V) (za V (ze V) (zm V V (by obtain ⟨y,hy⟩:=hat h73;rw [(ZG hy).2];rfl) V V (zj 1 V V V k9 zn) (zm V V (by obtain ⟨y,hy⟩:=hat h73;rw [(ZG hy).2];rfl) V V (zt V) (zm V V (by obtain ⟨y,hy⟩:=hat h73;rw [(ZG hy).2];rfl) V V (zi (n:=3) V k9) (zm V V (by obtain ⟨y,hy⟩:=hat h73;rw [(ZG hy).2];rfl) V V (zj 6 V V V k9 zn) (Ze (S:=[]) V V (by obtain ⟨y,hy⟩:=hat h73;rw [(ZG hy).2];rfl) V (zz [11,12,13] (con_len q.en) V ⟨(yn 11 V d9 ⟨(Zl 12 V d9),(YD 13 V d9),t9⟩),t9⟩ V) ?_))))))));rintro _ rfl;refine zm V V (by obtain ⟨y,hy⟩:=hat h73;rw [(ZG hy).2];rfl) V V (ze V) (zm V V (by obtain ⟨y,hy⟩:=hat h73;rw [(ZG hy).2];rfl) V V (yM V V ⟨by omega,by omega⟩) (zm rfl rfl (by obtain ⟨y,hy⟩:=hat h73;rw [(ZG hy).2];rfl) rfl rfl (zX rfl rfl) (za rfl (zy rfl (by obtain ⟨y,hy⟩:=hat h73;rw [(ZG hy).2];rfl) rfl) (za rfl (ze rfl) (zm rfl rfl (by simp [hlen h73,hx1]) rfl rfl (zi (n:=0) rfl k9) (zm rfl rfl (by simp [hlen h73,hx1]) rfl rfl (zj 15 rfl rfl rfl k9 zn) (zm rfl rfl (by simp [hlen h73,hx1]) rfl rfl (zi (n:=0) rfl k9) (zm rfl rfl (by simp [hlen h73,hx1]) rfl rfl (zj 14 rfl rfl rfl k9 zn) (zm rfl rfl (by simp [hlen h73,hx1]) rfl rfl (zX rfl rfl) (za rfl (zy rfl (by simp [hlen h73,hx1]) rfl) (za rfl (ze rfl) (zZ 94 rfl (fun hb94=> ?_) (fun hb94=> ?_)))))))))))))
    ·have h94:¬(Led.atE q.en (x.1:Int)).kind=x.2.kind:=by simpa using hb94
     refine zo V V (hb94) V V (zo V V (hb94) V V (zo V V (hb94) V V (zo V V (hb94) V V (zo V V (hb94) V V (zo V V (hb94) V V (za V (zD V (hb94) V) (zf (ZX (SWr.condT V (V) (SWr.seq (y8 k9 (fun _ _ h=>h) (za V (ze V) (zl (S:=[_]) (zN 5 V V V k9 V (m9 V)) ?_)))))))))))));rintro _ rfl;refine zf (ZX (SWr.exit' ?_))
     repeat (first | refine Za ?_ | refine Zb d9 ?_ | refine SE.scope ?_)
     have hbad:YI s x.2=none:=rep_bad hx1 hx2 hse hE hq (by first | exact .inl h73 | exact .inr ⟨h73,.inl h94⟩ | exact .inr ⟨h73,.inr h101⟩)
     refine SE.sub (σ':=zK [(9,pA g9),(10,pA g10),(11,pA g11),(12,pA g12),(13,iD (x.1:Int))] [.r Fb (bkP gb l),.c g9 [pA gr],.c g10 [iD E],.c g11 [isD (.map (some g34))],.r [g34] (ya (some g34) Z2 [2,1] kdD),.c g12 [iD (x.1:Int)],.c gr [pA vb,lsD encW q.ws,iD q.ck,pA vl,isD (.slice vA vM.length vc),isD (.map (some vk))],.r vFb (bkP vb q.bk),.r vFv (yj 133 1 encM vA vc vM),.r vFm (rowR (mps q.es vM)),.r vFk (ya (some vk) Z2 (Rnd.rks q.ks) (kyD q.ks)),.c vl [isD (.slice u.A q.en.length u.c),isD (.map u.M)],.r u.F (yj 85 2 encE u.A u.c q.en),.r u.G (mapF u.M encN (Led.keys q.en.length) (mkeys q.en))]) (sB [0,1,2,3,4,5,6,7,8,9,10,11,12,13] V V) (SE.opensP (ld_in (gl:=vl) (es:=q.en) u) [11,12,13] d9 (sX V) ?_);rintro _ ⟨Fq,rfl⟩;refine SE.opensP (Zs (gr:=gr) (s:=q) ⟨vb,vFb,vl,Fq,vA,vc,vFv,vM,vFm,vk,vFk⟩ hv) [6,7,11,8,9,10] d9 (sX V) ?_;rintro _ ⟨Fr2,rfl⟩;exact SE.rnd (σ':=zK [] [.r Fb (bkP gb l),.c g9 [pA gr],.c g10 [iD E],.c g11 [isD (.map (some g34))],.r [g34] (ya (some g34) Z2 [2,1] kdD),.c g12 [iD (i:Int)],.r Fr2 (yZ gr q)]) ⟨V,Fb,Fr2,q,E,hlt,⟨s,x.2,hs,hx2,hbad⟩,V⟩ (⟨⟨_,V,t9⟩,[0,1,2,3,4,5,6],by decide,⟨lR rfl,⟨la rfl,⟨la rfl,⟨la rfl,⟨lR rfl,⟨⟨_,rfl,⟨zE (by rw [hx1]),trivial⟩⟩,⟨lR rfl,trivial⟩⟩⟩⟩⟩⟩⟩⟩)
    ·have h94:(Led.atE q.en (x.1:Int)).kind=x.2.kind:=by simpa using hb94
     refine zm V V (hb94) V V (zi (n:=1) V k9) (zm V V (hb94) V V (zj 15 V V V k9 zn) (zm V V (hb94) V V (zi (n:=1) V k9) (zm V V (hb94) V V (zj 14 V V V k9 zn) (Ze (S:=[]) V V (hb94) V (zz [] (con_bytesEq _ _) V ⟨(zq (zd _)),(zq (zd _)),t9⟩ V) ?_))));rintro _ rfl;refine zm V V (hb94) V V (yL V) (za V (zy V (hb94) V) (zf (ZX (SWr.cond V (fun hb101=> ?_) (fun hb101=> ?_)))))
     ·have h101:¬(Led.atE q.en (x.1:Int)).bytes=x.2.bytes:=by simpa using hb101
      refine SWr.seq (y8 k9 (fun _ _ h=>h) (za V (ze V) (zl (S:=[_]) (zN 5 V V V k9 V (m9 V)) ?_)));rintro _ rfl;refine zf (ZX (SWr.exit' ?_))
      repeat (first | refine Za ?_ | refine Zb d9 ?_ | refine SE.scope ?_)
      have hbad:YI s x.2=none:=rep_bad hx1 hx2 hse hE hq (by first | exact .inl h73 | exact .inr ⟨h73,.inl h94⟩ | exact .inr ⟨h73,.inr h101⟩)
      refine SE.sub (σ':=zK [(9,pA g9),(10,pA g10),(11,pA g11),(12,pA g12),(13,iD (x.1:Int))] [.r Fb (bkP gb l),.c g9 [pA gr],.c g10 [iD E],.c g11 [isD (.map (some g34))],.r [g34] (ya (some g34) Z2 [2,1] kdD),.c g12 [iD (x.1:Int)],.c gr [pA vb,lsD encW q.ws,iD q.ck,pA vl,isD (.slice vA vM.length vc),isD (.map (some vk))],.r vFb (bkP vb q.bk),.r vFv (yj 133 1 encM vA vc vM),.r vFm (rowR (mps q.es vM)),.r vFk (ya (some vk) Z2 (Rnd.rks q.ks) (kyD q.ks)),.c vl [isD (.slice u.A q.en.length u.c),isD (.map u.M)],.r u.F (yj 85 2 encE u.A u.c q.en),.r u.G (mapF u.M encN (Led.keys q.en.length) (mkeys q.en))]) (sB [0,1,2,3,4,5,6,7,8,9,10,11,12,13] V V) (SE.opensP (ld_in (gl:=vl) (es:=q.en) u) [11,12,13] d9 (sX V) ?_);rintro _ ⟨Fq,rfl⟩;refine SE.opensP (Zs (gr:=gr) (s:=q) ⟨vb,vFb,vl,Fq,vA,vc,vFv,vM,vFm,vk,vFk⟩ hv) [6,7,11,8,9,10] d9 (sX V) ?_;rintro _ ⟨Fr2,rfl⟩;exact SE.rnd (σ':=zK [] [.r Fb (bkP gb l),.c g9 [pA gr],.c g10 [iD E],.c g11 [isD (.map (some g34))],.r [g34] (ya (some g34) Z2 [2,1] kdD),.c g12 [iD (i:Int)],.r Fr2 (yZ gr q)]) ⟨V,Fb,Fr2,q,E,hlt,⟨s,x.2,hs,hx2,hbad⟩,V⟩ (⟨⟨_,V,t9⟩,[0,1,2,3,4,5,6],by decide,⟨lR rfl,⟨la rfl,⟨la rfl,⟨la rfl,⟨lR rfl,⟨⟨_,rfl,⟨zE (by rw [hx1]),trivial⟩⟩,⟨lR rfl,trivial⟩⟩⟩⟩⟩⟩⟩⟩)
     ·have h101:(Led.atE q.en (x.1:Int)).bytes=x.2.bytes:=by simpa using hb101
      refine SWr.skip (yf (SN.sub (σ':=zK [(9,pA g9),(10,pA g10),(11,pA g11),(12,pA g12),(13,iD (x.1:Int))] [.r Fb (bkP gb l),.c g9 [pA gr],.c g10 [iD E],.c g11 [isD (.map (some g34))],.r [g34] (ya (some g34) Z2 [2,1] kdD),.c g12 [iD (-1)],.c gr [pA vb,lsD encW q.ws,iD q.ck,pA vl,isD (.slice vA vM.length vc),isD (.map (some vk))],.r vFb (bkP vb q.bk),.r vFv (yj 133 1 encM vA vc vM),.r vFm (rowR (mps q.es vM)),.r vFk (ya (some vk) Z2 (Rnd.rks q.ks) (kyD q.ks)),.c vl [isD (.slice u.A q.en.length u.c),isD (.map u.M)],.r u.F (yj 85 2 encE u.A u.c q.en),.r u.G (mapF u.M encN (Led.keys q.en.length) (mkeys q.en))]) (sB [0,1,2,3,4,5,6,7,8,9,10,11,12,13] V V) (SN.opensP (ld_in (gl:=vl) (es:=q.en) u) [11,12,13] d9 (sX V) ?_)));rintro _ ⟨Fq,rfl⟩;refine SN.opensP (Zs (gr:=gr) (s:=q) ⟨vb,vFb,vl,Fq,vA,vc,vFv,vM,vFm,vk,vFk⟩ hv) [6,7,11,8,9,10] d9 (sX V) ?_;rintro _ ⟨Fr2,rfl⟩;exact SN.rnd (σ':=zK [] [.r Fb (bkP gb l),.c g9 [pA gr],.c g10 [iD 0],.c g11 [isD (.map (some g34))],.r [g34] (ya (some g34) Z2 [2,1] kdD),.c g12 [iD (-1)],.r Fr2 (yZ gr q)]) ⟨Fb,Fr2,q,rep_next hx1 hx2 hs hse hE hq h73 h94 h101,V⟩ (⟨⟨_,V,t9⟩,[0,1,2,3,4,5,6],by decide,⟨lR rfl,⟨la rfl,⟨⟨_,rfl,⟨zE (by rw [h73]),trivial⟩⟩,(sX rfl)⟩⟩⟩⟩)
 ·rintro dk0 bx ⟨Fb,Fr,s,hs,rfl⟩
  have hs2:Rnd.rp (Rnd.start l ws) es=some s:=by rw [itemsE_len,List.take_of_length_le (Nat.le_refl _)] at hs;exact hs
  refine yf (zc (zh (zh (zQ (σ':=zK [(9,pA g9),(12,pA g12)] [.r Fb (bkP gb l),.c g9 [pA gr],.c g12 [iD (-1)],.r Fr (yZ gr s),.r [dk0] dfR]) (sB [0,1,5,6,7] V V) (zb (za V (zj 2 V V V k9 zn) (za V (Z5 V V) (zf (zc (zB V d9 (zu (zc (zh (zb (za V (zj 1 V V V k9 zn) (za V (zg V) (za V (zg V) (za V (zg V) (zf (zc (SW.retM (fn:=Tryz.f38) (fun _ _ h=>h) (RM.mark 4 V (RM.finR (⟨(Fb,gr,Fr,s,none),hs2⟩) [0,3] (Rs.le (Rs.three V (zp V) (zp V) (zp V)) ?_) d9 (sX V))))))))))))))))))))))));exact zd _
 ·rintro dk0 nq i bx ⟨rfl,Fb,Fr,s,c,hlt,hbad,rfl⟩
  repeat (first | refine Za ?_ | refine Zb d9 ?_)
  refine Zi (zc (zh (zh (zQ (σ':=zK [(9,pA g9),(12,pA g12)] [.r Fb (bkP gb l),.c g9 [pA gr],.c g12 [iD (i:Int)],.r Fr (yZ gr s),.r [dk0] dfR]) (sB [0,1,5,6,7] V V) (zb (za V (zj 2 V V V k9 zn) (za V (Z5 V V) (zf (zc (yd V s9 (zh (yh [] (.r 0 (.r 1 (.r 2 (.r 3 .fin)))) k9 k9 (fun d _ _ _ _ h=>by cases d <;> exact h) (zk rfl rfl (zj 2 rfl rfl rfl k9 zn) (zk rfl rfl (zg rfl) (zk rfl rfl (zg rfl) (zk rfl rfl (zg rfl) (zP (zc (SW.retM (fn:=Tryz.f38) (fun _ _ h=>h) (RM.mark 4 rfl (RM.finR (⟨(Fb,gr,Fr,s,some i),hbad⟩) [0,3] (Rs.le (Rs.three rfl (zp rfl) (zp rfl) (zp rfl)) ?_) d9 (sX rfl))))))))))))))))))))))
  exact zd _
 ·rintro _ _ _ hX;exact hX.elim
end Sx
end Go.Proofs.YtgokpcnabgacnaaGreatDoor
