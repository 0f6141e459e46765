/- ROUNDS: nil and zero rounds. ROUNDS: Replay. -/
import Derived.Test.YtgokpcnabgacnaaGreatDoorGZBK
set_option maxHeartbeats 8000000
set_option maxRecDepth 100000
namespace Go.Proofs.YtgokpcnabgacnaaGreatDoor
open Go.RowKit
namespace Sx
section
end
section
instance:DecidableEq Led.Ent:=fun a b=>decidable_of_iff (a.kind=b.kind∧a.bytes=b.bytes) (by cases a;cases b;simp)
theorem KR {s:Rnd.S} (h:Rnd.Good s) (k:Int) (p:LB):Rnd.Good (Zd s k p):=by
 unfold Zd qe qK
 repeat' split
 all_goals first | exact h | exact h.sub _ _ | exact h.rev _ _ _ | exact h.recd _ _
theorem Rnd.sub_no {s:Rnd.S} {e:Env.T} {now:Int} (h:Rnd.subE s e now≠0):Rnd.subS s e now=s:=Jb h
theorem zcH {s:Rnd.S} {k:Int} {p:LB} (h:Zj s k p=0):∃ y,(Zd s k p).en=s.en ++ [y]:=by
 unfold Zj at h;unfold Zd
 split
 ·rename_i hk;rw [Jh hk] at h;unfold jD at h;unfold qe
  split
  ·rename_i h1;rw [Jh h1] at h;exact absurd h h1
  ·rename_i h1;rw [Jb h1] at h
   split
   ·rename_i h2;rw [Jh h2] at h;exact absurd h h2
   ·rename_i h2;rw [Jb h2] at h;unfold Rnd.subS;rw [Jh h];exact ⟨_,V⟩
 ·rename_i hk;rw [Jb hk] at h
  split
  ·rename_i hk2;rw [Jh hk2] at h;unfold KP at h;unfold qK
   split
   ·rename_i h1;rw [Jh h1] at h;exact absurd h h1
   ·rename_i h1;rw [Jb h1] at h;unfold Rnd.revS;rw [Jh h];exact ⟨_,V⟩
  ·rename_i hk2;rw [Jb hk2] at h;unfold Rnd.recS;rw [Jh h];exact ⟨_,V⟩
def YV (s:Rnd.S) (e:Led.Ent):Option Rnd.S:=if Zj s e.kind e.bytes=0∧(Zd s e.kind e.bytes).en=s.en ++ [e] then some (Zd s e.kind e.bytes) else none
def Z6 (s:Rnd.S) (l:List Led.Ent):Option Rnd.S:=l.foldlM YV s
theorem zf9 {s s':Rnd.S} {e:Led.Ent} (h:YV s e=some s'):Zj s e.kind e.bytes=0∧s'.en=s.en ++ [e]∧s'=Zd s e.kind e.bytes:=by
 unfold YV at h
 split at h
 ·rename_i hc;injection h with h;subst h;exact ⟨hc.1,hc.2,V⟩
 ·cases h
theorem zaC {s:Rnd.S} {l m:List Led.Ent}:Z6 s (l ++ m)=(Z6 s l).bind fun s'=>Z6 s' m:=by
 unfold Z6;rw [List.foldlM_append]
 rfl
theorem rp_snoc {s s':Rnd.S} {l:List Led.Ent} {e:Led.Ent} (h:Z6 s l=some s'):Z6 s (l ++ [e])=YV s' e:=by
 rw [zaC,h];show Z6 s' [e]=_;unfold Z6;simp
theorem zcT {s:Rnd.S} {e:Led.Ent} {l:List Led.Ent}:Z6 s (e :: l)=(YV s e).bind fun s'=>Z6 s' l:=by
 unfold Z6;rw [List.foldlM_cons]
 rfl
theorem rp_en:∀ {l:List Led.Ent} {s s':Rnd.S},Z6 s l=some s'→s'.en=s.en ++ l
 | [],s,s',h=>by injection h with h;subst h;simp
 | e :: l,s,s',h=>by
  rw [zcT] at h;obtain ⟨q,hq,h⟩:=Option.bind_eq_some_iff.1 h;rw [rp_en h,(zf9 hq).2.1];simp
theorem rp_good:∀ {l:List Led.Ent} {s s':Rnd.S},Rnd.Good s→Z6 s l=some s'→Rnd.Good s'
 | [],s,s',hg,h=>by injection h with h;subst h;exact hg
 | e :: l,s,s',hg,h=>by
  rw [zcT] at h;obtain ⟨q,hq,h⟩:=Option.bind_eq_some_iff.1 h;refine rp_good ?_ h;rw [(zf9 hq).2.2];exact KR hg _ _
def KQ (s0:Rnd.S) (es:List Led.Ent) (s:Rnd.S):Option Nat→Prop
 | none=>Z6 s0 es=some s
 | some i=>∃ si e,Z6 s0 (es.take i)=some si∧es[i]? =some e∧YV si e=none
def repD (g:Nat):Option Nat→D
 | none=>Yk [pA g,iD 0,iD 0]
 | some i=>Yk [isD<|.pointer none,iD (i:Int),iD 10]
def kdV (k:Int):Value:=if k=1 then .func (.func 95) #[] #[] else if k=2 then .func (.func 96) #[] #[] else .nilFunc
def kdD (k:Int):D:=isD (kdV k)
def kdB (k:Int):Bool:=decide (k=1∨k=2)
theorem kdD_some {k:Int} (h:k∈[2,1]):kdB k=true:=by
 unfold kdB;simp at h;simp [h.symm]
theorem zgm {k:Int} (h:¬k∈[2,1]):kdB k=false∧kdV k= .nilFunc:=by
 simp at h;unfold kdB kdV;rw [Jb h.2,Jb h.1];exact ⟨by simp [h.1,h.2],rfl⟩
theorem kd_yes {k:Int} (h:kdB k=true):k=1∨(¬k=1∧k=2):=by
 unfold kdB at h;have:=oT h;omega
theorem kd_no {k:Int} (h:kdB k=false):¬k=1∧¬k=2:=by
 unfold kdB at h;have:=oF h;omega
theorem rep_next {s0 s q:Rnd.S} {es:List Led.Ent} {i j:Nat} {e:Led.Ent} {E:Int} (hj:j=i) (he:es[i]? =some e) (hs:Z6 s0 (es.take i)=some s) (hse:s.en=es.take i) (hE:E=Zj s e.kind e.bytes) (hq:q=Zd s e.kind e.bytes) (h0:E=0)
  (hk:(Led.atE q.en (j:Int)).kind=e.kind) (hb:(Led.atE q.en (j:Int)).bytes=e.bytes):Z6 s0 (es.take<|i + 1)=some q:=by
 subst hj hE;obtain ⟨y,hy⟩:=zcH h0
 have hl:s.en.length=j:=by rw [hse,JE,XA<|Nat.le_of_lt (Jg.1 he).1]
 have hyj:q.en[j]? =some y:=by rw [hq,hy,← hl,List.getElem?_concat_length]
 rw [(Z9 hyj).1] at hk hb
 have hye:y=e:=by
  cases y;cases e
  simp only at hk hb;rw [hk,hb]
 rw [yr he,rp_snoc hs];unfold YV;rw [Jh ⟨h0,by rw [hy,hye]⟩,← hq]
theorem ze5 {s q:Rnd.S} {es:List Led.Ent} {i j:Nat} {e:Led.Ent} {E:Int} (hj:j=i) (he:es[i]? =some e) (hse:s.en=es.take i) (hE:E=Zj s e.kind e.bytes) (hq:q=Zd s e.kind e.bytes)
  (h:E≠0∨(E=0∧(¬(Led.atE q.en (j:Int)).kind=e.kind∨¬(Led.atE q.en (j:Int)).bytes=e.bytes))):YV s e=none:=by
 subst hj hE;unfold YV;refine Jb fun hc=> ?_;rcases h with h | ⟨_,h⟩
 ·exact h hc.1
 ·have hl:s.en.length=j:=by rw [hse,JE,XA<|Nat.le_of_lt (Jg.1 he).1]
  have hyj:q.en[j]? =some e:=by rw [hq,hc.2,← hl,List.getElem?_concat_length]
  rw [(Z9 hyj).1] at h
  rcases h with h | h <;> exact h rfl
theorem zbf (gb gl:Nat) (F Fl:LN) (l:List Acc.T) (ws:List Rnd.Win) (es:List Led.Ent) (hf:Acc.Fine l) (hok:Rnd.ok ws) (hn:es.length≤100000) (hfb:∀ e∈es,e.bytes.length≤1000000):ConR Tryz.prog 38 [.r F<|bkP gb l,.r Fl<|ldP gl es] [pA gb,lsD YB ws,pA gl] (fun t:{t:LN × Nat × LN × Rnd.S × Option Nat // KQ (Rnd.start l ws) es t.2.2.2.1 t.2.2.2.2}=>[.r t.1.1<|bkP gb l,.r t.1.2.2.1<|Yj t.1.2.1 t.1.2.2.2.1]) (fun t:{t:LN × Nat × LN × Rnd.S × Option Nat // KQ (Rnd.start l ws) es t.2.2.2.1 t.2.2.2.2}=>repD t.1.2.1 t.1.2.2.2.2):=by
 refine zbi Tryz.func38 k9 V k9 fun base w0=>(zp<|zf V<|zf V<|zf V<|ze<|zgF<|zk<|zp<|zd V<|za V (YS V V k9)<|zd V<|zy V (zI V)<|zy V (YS V V k9)<|za V (zv V V V)<|ze<|zE V V<|zr<|zn<|zp<|zd V<|zd V<|YJ (zC [0] (con_new gb l F ws hf hok) V ⟨zb _,zb _,t9⟩ d9 ⟨lR V,t9⟩ (fun _ h=>h) V) ?_);rintro _ ⟨⟨F28,gr,G28⟩,rfl⟩;refine zd V (za V (zm V V)<|za V (zm V V) (SWl.e2 (S:=[]) (zM (zs:=[.pointer none]) k9 V) fun g9=>(SWl.e2 (S:=[]) (zM (zs:=[.int .i64 0]) k9 V) fun g10=>(zt (S:=[_]) (zR 3 V V V k9 V<|m9 V)<|zt (S:=[_]) (zR 4 V V V k9 V<|m9 V)<|ze<|zk<|zp<|za V (zg 4 V V V k9 zh)<|za V (ye V V)<|ze<|zE V d9<|zr<|zn<|zp (SWl.e2 (S:=[]) (jo (enc:=jM) (kdD) V) fun g34=>(zt (Ef.ins<|ja (kt:=3) (et:=184) 5 V V V (zb _) V (zb _) k9 (keyZ _) d9 (fun _ h=>h))<|zt (Ef.ins<|ja (kt:=3) (et:=184) 5 V V V (zb _) V (zb _) k9 (keyZ _) d9 (fun _ h=>h))<|zd V (SWl.e2 (S:=[]) (zM (zs:=[.map none]) k9 V) fun g11=>(zt (S:=[_]) (zR 6 V V V k9 V<|m9 V)<|zV (SWl.e2 (S:=[]) (zM (zs:=[.int .i64 0]) k9 V) fun g12=>(zt (S:=[_]) (zR 7 V V V k9 V<|m9 V)<|ze<|zk<|SW.label<|zn<|zk<|zk ?_))))))))))
 refine zO (σ':=zN [(2,_),(9,_),(10,_),(11,_),(12,_)] [_,_,_,_,_,_,_,_]) (sB [1,3,4,6,5,7,2,0] V V) (yd (zch (gl:=gl) (es:=es)) [7] d9 ⟨lR V,t9⟩ ?_);rintro _ ⟨u,rfl⟩
 refine zi (zd V (SWl.e2 (zC [7,8,9] (zem gl u.A u.c u.F u.G u.M es) V ⟨zb _,t9⟩ d9 (sX V) (fun _ h=>h) V) fun gq=>(ze<|zX<|zhP 9 0 8 V V V (Js _)<|q9 9 37 V V<|zO (σ':=zN [(9,_),(10,_),(11,_),(12,_),(37,_)] [_,_,_,_,_,_,_]) (sB [0,1,2,3,4,5,6] V V)<|jV (gf:=153) (ps:=[38,39]) (ib:=ibE) (dd:=ddE) (items:=(Vd es)) (fun i bx=>∃ (Fb Fr:LN) (s:Rnd.S),Z6 (Rnd.start l ws) (es.take i)=some s∧bx=[.r Fb<|bkP gb l,.c g9 [pA gr],.c g10 [iD 0],.c g11 [isD<|.map<|some g34],.r [g34]<|Zc (some g34) jM [2,1] kdD,.c g12 [iD<|-1],.r Fr<|Yj gr s]) (fun o i bx=>match o with | none=>False | some n=>n=0∧∃ (Fb Fr:LN) (s:Rnd.S) (c:Int),i < es.length∧(∃ si e,Z6 (Rnd.start l ws) (es.take i)=some si∧es[i]? =some e∧YV si e=none)∧bx=[.r Fb<|bkP gb l,.c g9 [pA gr],.c g10 [iD c],.c g11 [isD<|.map<|some g34],.r [g34]<|Zc (some g34) jM [2,1] kdD,.c g12 [iD (i:Int)],.r Fr<|Yj gr s]) (fun i x k σ=>∃ (Fb Fr:LN) (s:Rnd.S) (g14:Nat),Z6 (Rnd.start l ws) (es.take i)=some s∧σ=zN [(9,pA g9),(10,pA g10),(11,pA g11),(12,pA g12),(13,iD (x.1:Int)),(14,pA g14)] [.r Fb<|bkP gb l,.c g9 [pA gr],.c g10 [iD 0],.c g11 [isD<|.map<|some g34],.r [g34]<|Zc (some g34) jM [2,1] kdD,.c g12 [iD<|-1],.r Fr<|Yj gr s,.r k.F<|yP 5 1 Yt k.A k.c x.2.bytes,.c g14 [iD x.2.kind,isD<|.slice k.A x.2.bytes.length k.c]]) zha (zbm es o9 hfb) V (⟨F28,G28,_,V,V⟩) k9 (fun _ _=>V) ?_ ?_ ?_ ?_ ?_)))
 ·rintro i x k hx bx ⟨Fb,Fr,s,hs,rfl⟩ y base w0;exact Z0 (yJ k9 (fun _ _ h=>h)<|zf V<|zP<|Zr<|yJ k9 (fun _ _ h=>h) (SWl.e2 (S:=[]) (zM (zs:=[.int .i64 0,.slice none 0 0]) k9 V) fun g14=>(zt (S:=[_]) (zw 8 V V V k9 V<|m9 V)<|zP<|jW (σ':=zN [(9,pA g9),(10,pA g10),(11,pA g11),(12,pA g12),(13,iD (x.1:Int)),(14,pA g14)] [.r Fb<|bkP gb l,.c g9 [pA gr],.c g10 [iD 0],.c g11 [isD<|.map<|some g34],.r [g34]<|Zc (some g34) jM [2,1] kdD,.c g12 [iD<|-1],.r Fr<|Yj gr s,.r k.F<|yP 5 1 Yt k.A k.c x.2.bytes,.c g14 [iD x.2.kind,isD<|.slice k.A x.2.bytes.length k.c]]) ⟨Fb,Fr,s,g14,hs,V⟩<|sB [0,1,2,3,4,5,6,7,8] V V)))
 ·rintro i x k hx _ ⟨Fb,Fr,s,g14,hs,rfl⟩ y base w0;obtain ⟨hx1,hx2⟩:=zg4 (j:=x.1) (e:=x.2) hx;have hlt:=(Jg.1 hx2).1;have hgs:=rp_good (Rnd.good_start hf hok) hs
  have hse:s.en=es.take i:=by rw [rp_en hs];rfl
  obtain ⟨E,hE⟩:∃ E,E=(Zj s x.2.kind x.2.bytes):=⟨_,rfl⟩;obtain ⟨q,hq⟩:∃ q,q=(Zd s x.2.kind x.2.bytes):=⟨_,rfl⟩
  have hqb:∀ e∈q.en,e.bytes.length≤1000000:=fun e he=>by have:=((KR hgs x.2.kind x.2.bytes).fit e (by rw [← hq];exact he)).2.2;omega
  have hqe:E=0→∃ y,q.en=es.take i ++ [y]:=fun h=>by rw [hq,← hse];exact zcH (by rw [← hE];exact h)
  have hlen:E=0→q.en.length=i + 1:=fun h=>by obtain ⟨y,hy⟩:=hqe h;rw [hy,Jk,JE,XA o9];rfl
  have hat:E=0→∃ y,q.en[x.1]? =some y:=fun h=>⟨_,Je (by rw [hlen h,hx1];omega)⟩;refine jS (Z0<|Z0<|Vr (σ':=zN [(9,_),(10,_),(11,_),(12,_),(13,_),(14,_)] [_,_,_,_,_,_,_,_,_]) (sB [0,1,2,3,4,5,6,8,7] V V)<|zfM 7 1 8 V V V<|yJ k9 (fun _ _ h=>h)<|za V (zg 3 V V V k9 zh)<|za V (zc (n:=0) V k9)<|za V (zg 7 V V V k9 zh)<|za V ((show Rd _ _ _ _ _ (Yk [isD<|kdV x.2.kind,yj<|kdB x.2.kind]) from by (by_cases hm:x.2.kind∈([2,1]:List Int);exact Zu (K9 (kt:=3) (et:=184) (ok:=true) 4 rfl rfl rfl (show Le (iD x.2.kind) (isD<|jM x.2.kind) from zb _) k9 (keyZ _) hm zh) (yn ⟨zb _,zF (by rw [kdD_some hm]),trivial⟩);exact Zu (jZ (kt:=3) (et:=184) (z:= .nilFunc) (ok:=true) 4 rfl rfl rfl (show Le (iD x.2.kind) (isD<|jM x.2.kind) from zb _) k9 k9 (keyZ _) hm zh)<|yn ⟨zF (by rw [(zgm hm).2]),zF (by rw [(zgm hm).1]),trivial⟩)))<|zd V<|za V (zm V V)<|za V (zm V V)<|zf V<|zf V<|zP<|Zr<|SWr.meet (fun σ=>∃ (Fx:LN),σ=zN [(9,pA g9),(10,pA g10),(11,pA g11),(12,pA g12),(13,iD (x.1:Int)),(14,pA g14)] [.r Fb<|bkP gb l,.c g9 [pA gr],.c g10 [iD E],.c g11 [isD<|.map<|some g34],.r [g34]<|Zc (some g34) jM [2,1] kdD,.c g12 [iD<|-1],.r Fx<|Yj gr q,.c g14 [iD x.2.kind,bD x.2.bytes]]) ?_ ?_)
  ·skip
   refine Z0 (Vr (σ':=zN [(9,_),(10,_),(11,_),(12,_),(13,_),(14,_),(15,_),(16,_)] [.r Fb<|bkP gb l,.c g9 [pA gr],.c g10 [iD 0],.c g11 [isD<|.map<|some g34],.r [g34]<|Zc (some g34) jM [2,1] kdD,.c g12 [iD<|-1],.r Fr<|Yj gr s,.c g14 [iD x.2.kind,bD x.2.bytes]]) (⟨⟨_,V,(sT V)⟩,[0,1,2,3,4,5,6,7],by decide,⟨lR rfl,⟨la rfl,⟨la rfl,⟨la rfl,⟨lR rfl,⟨la rfl,⟨lR rfl,⟨⟨_,rfl,⟨zb _,Yc _,trivial⟩⟩,trivial⟩⟩⟩⟩⟩⟩⟩⟩⟩)<|yJ k9 (fun _ _ h=>h)<|zd V<|zP<|Zr<|Wh V (fun hb47=> ?_) (fun hb47=> ?_))
   ·have hk:kdB x.2.kind=true:=hb47;rcases kd_yes hk with h1 | ⟨h0,h1⟩
    ·skip
     exact Vr (σ':=zN [(9,_),(10,_),(11,_),(12,_),(13,_),(14,_),(15,isD<|.func (.func 95) #[] #[])] [_,_,_,_,_,_,_,_]) (⟨⟨_,V,⟨lq V,⟨lq V,⟨lq V,⟨lq V,⟨lq V,⟨lq V,⟨⟨_,V,zF (by rw [kdV,Jh h1])⟩,t9⟩⟩⟩⟩⟩⟩⟩⟩,[0,1,2,3,4,5,6,7],by decide,(sX rfl)⟩) (yJ k9 (fun _ _ h=>h)<|zd V<|za V (zg 1 V V V k9 zh)<|za V (zc (n:=1) V k9)<|za V (zg 7 V V V k9 zh) (SWl.e2 (yR (cap:=[]) [6] (zda gr Fr s x.2.bytes hgs<|hfb x.2<|Jc hx2) V V ⟨zb _,zb _,t9⟩ d9 ⟨lR V,t9⟩ (fun _ h=>h) V) fun F52=>(zt (S:=[_]) (zR 2 V V V k9 V<|m9 V)<|zP<|yA ⟨F52,V⟩<|⟨⟨_,V,(sT V)⟩,[0,1,2,3,4,5,7,6],by decide,⟨lR rfl,⟨la rfl,⟨⟨_,rfl,⟨zF (by rw [hE,Zj,Jh h1]),trivial⟩⟩,⟨la rfl,⟨lR rfl,⟨la rfl,⟨⟨_,rfl,(by rw [hq,Zd,Jh h1];exact yu _)⟩,⟨la rfl,trivial⟩⟩⟩⟩⟩⟩⟩⟩⟩)))
    ·skip
     exact Vr (σ':=zN [(9,_),(10,_),(11,_),(12,_),(13,_),(14,_),(15,isD<|.func (.func 96) #[] #[])] [_,_,_,_,_,_,_,_]) (⟨⟨_,V,⟨lq V,⟨lq V,⟨lq V,⟨lq V,⟨lq V,⟨lq V,⟨⟨_,V,zF (by rw [kdV,Jb h0,Jh h1])⟩,t9⟩⟩⟩⟩⟩⟩⟩⟩,[0,1,2,3,4,5,6,7],by decide,(sX rfl)⟩) (yJ k9 (fun _ _ h=>h)<|zd V<|za V (zg 1 V V V k9 zh)<|za V (zc (n:=1) V k9)<|za V (zg 7 V V V k9 zh) (SWl.e2 (yR (cap:=[]) [6] (zeh gr Fr s x.2.bytes hgs<|hfb x.2<|Jc hx2) V V ⟨zb _,zb _,t9⟩ d9 ⟨lR V,t9⟩ (fun _ h=>h) V) fun F52=>(zt (S:=[_]) (zR 2 V V V k9 V<|m9 V)<|zP<|yA ⟨F52,V⟩<|⟨⟨_,V,(sT V)⟩,[0,1,2,3,4,5,7,6],by decide,⟨lR rfl,⟨la rfl,⟨⟨_,rfl,⟨zF (by rw [hE,Zj,Jb h0,Jh h1]),trivial⟩⟩,⟨la rfl,⟨lR rfl,⟨la rfl,⟨⟨_,rfl,(by rw [hq,Zd,Jb h0,Jh h1];exact yu _)⟩,⟨la rfl,trivial⟩⟩⟩⟩⟩⟩⟩⟩⟩)))
   ·have hk:kdB x.2.kind=false:=hb47;exact yJ k9 (fun _ _ h=>h) (za V (zg 1 V V V k9 zh)<|za V (zc (n:=0) V k9)<|za V (zg 7 V V V k9 zh)<|za V (zc (n:=1) V k9)<|za V (zg 7 V V V k9 zh) (SWl.e2 (zC [6] (zhj gr Fr s x.2.kind x.2.bytes hgs<|hfb x.2<|Jc hx2) V ⟨zb _,zb _,zb _,t9⟩ d9 ⟨lR V,t9⟩ (fun _ h=>h) V) fun F59=>(zd V<|za V (zm V V)<|za V (zm V V)<|zt (S:=[_]) (zR 2 V V V k9 V<|m9 V)<|zP<|yA ⟨F59,V⟩<|⟨⟨_,V,(sT V)⟩,[0,1,2,3,4,5,7,6],by decide,⟨lR rfl,⟨la rfl,⟨⟨_,rfl,⟨zF (by rw [hE,Zj,Jb (kd_no hk).1,Jb (kd_no hk).2]),trivial⟩⟩,⟨la rfl,⟨lR rfl,⟨la rfl,⟨⟨_,rfl,(by rw [hq,Zd,Jb (kd_no hk).1,Jb (kd_no hk).2];exact yu _)⟩,⟨la rfl,trivial⟩⟩⟩⟩⟩⟩⟩⟩⟩)))
  ·rintro _ ⟨Fx,rfl⟩;refine Zr (Z0<|zcD (Yv (gr:=gr) (s:=q)) [6] d9 ⟨lR V,t9⟩ ?_);rintro _ ⟨⟨⟨vb,vFb,vl,vFl,vA,vc,vFv,vM,vFm,vk,vFk⟩,hv⟩,rfl⟩;refine zcD (zch (gl:=vl) (es:=q.en)) [9] d9 ⟨lR V,t9⟩ ?_;rintro _ ⟨u,rfl⟩;refine yJ k9 (fun _ _ h=>h) (za V (zg 1 V V V k9 zh)<|za V (zz V)<|za V (zc (n:=3) V k9)<|za V (zg 7 V V V k9 zh)<|zd V<|zt (S:=[]) (zD [12,13,14] (zhy q.en hqb (x.1:Int)) V ⟨(yG 12 V d9 ⟨(YC 13 V d9),(VG 14 V d9),t9⟩),(zo<|zb _),t9⟩ V)<|zd V<|za V (zm V V)<|za V (zm V V) (SWl.e2 (S:=[]) (zM (zs:=[.int .i64 0,.slice none 0 0]) k9 V) fun g17=>(zt (S:=[_]) (zw 15 V V V k9 V<|m9 V)<|zf V<|zP<|Zr<|Z0<|Vr (σ':=zN [(9,_),(10,_),(11,_),(12,_),(13,_),(14,_),(17,_),(18,_)] [_,_,_,_,_,_,_,_,_,_,_,_,_,_,_,_]) (sB [0,1,2,3,4,5,7,8,9,10,11,12,13,14,6,15] V V)<|yJ k9 (fun _ _ h=>h)<|za V (zg 2 V V V k9 zh)<|za V (ye V V)<|zd V<|zU 73 V (fun hb73=> ?_) (fun hb73=> ?_))))
   ·have h73:E≠0:=by simpa using hb73
    refine zq hb73 (zq hb73<|za V (zB V hb73 V)<|zd V<|zq V<|zq V<|zq V<|zq V<|zq V<|zq V<|zq V<|zq V<|za V (zB V V V)<|zd V<|zq V<|zq V<|zq V<|zq V<|zq V<|za V (zB V V V)<|zd V<|zq V<|zq V<|zq V<|zq V<|zq V<|zq V<|za V (zB V V V)<|zP<|Zr<|zeI V V<|Z0<|yJ k9 (fun _ _ h=>h)<|zd V<|zt (S:=[_]) (zR 5 V V V k9 V<|m9 V)<|zP<|Zr<|zby ?_)
    repeat (first | refine Ze ?_ | refine Zf d9 ?_ | refine zdr ?_)
    have hbad:YV s x.2=none:=ze5 hx1 hx2 hse hE hq (by first | exact .inl h73 | exact .inr ⟨h73,.inl h94⟩ | exact .inr ⟨h73,.inr h101⟩)
    refine SE.sub (σ':=zN [(9,_),(10,_),(11,_),(12,_),(13,_)] [_,_,_,_,_,_,_,_,_,_,_,_,_,_]) (sB [0,1,2,3,4,5,6,7,8,9,10,11,12,13] V V) (jX (zdZ (gl:=vl) (es:=q.en) u) [11,12,13] d9 (sX V) ?_);rintro _ ⟨Fq,rfl⟩;refine jX (ZT (gr:=gr) (s:=q) ⟨vb,vFb,vl,Fq,vA,vc,vFv,vM,vFm,vk,vFk⟩ hv) [6,7,11,8,9,10] d9 (sX V) ?_;rintro _ ⟨Fr2,rfl⟩;exact SE.rnd (σ':=zN [] [.r Fb<|bkP gb l,.c g9 [pA gr],.c g10 [iD E],.c g11 [isD<|.map<|some g34],.r [g34]<|Zc (some g34) jM [2,1] kdD,.c g12 [iD (i:Int)],.r Fr2<|Yj gr q]) ⟨V,Fb,Fr2,q,E,hlt,⟨s,x.2,hs,hx2,hbad⟩,V⟩ (⟨⟨_,V,t9⟩,[0,1,2,3,4,5,6],by decide,⟨lR rfl,⟨la rfl,⟨la rfl,⟨la rfl,⟨lR rfl,⟨⟨_,rfl,⟨zF (by rw [hx1]),trivial⟩⟩,⟨lR rfl,trivial⟩⟩⟩⟩⟩⟩⟩⟩)
   ·have h73:E=0:=by simpa using hb73
    refine zy hb73 (zI V) (zy hb73 (ye V V)<|za V (zv V hb73 V)<|zd V<|yL V V (by obtain ⟨y,hy⟩:=hat h73;rw [(Z9 hy).2];rfl) V V (zg 1 V V V k9 zh)<|yL V V (by obtain ⟨y,hy⟩:=hat h73;rw [(Z9 hy).2];rfl) V V (zz V)<|yL V V (by obtain ⟨y,hy⟩:=hat h73;rw [(Z9 hy).2];rfl) V V (zc (n:=3) V k9)<|yL V V (by obtain ⟨y,hy⟩:=hat h73;rw [(Z9 hy).2];rfl) V V (zg 6 V V V k9 zh)<|ZD (S:=[]) V V (by obtain ⟨y,hy⟩:=hat h73;rw [(Z9 hy).2];rfl) V (zD [11,12,13] (zfv q.en) V ⟨(yG 11 V d9 ⟨(YC 12 V d9),(VG 13 V d9),t9⟩),t9⟩ V) ?_);rintro _ rfl;refine yL V V (by obtain ⟨y,hy⟩:=hat h73;rw [(Z9 hy).2];rfl) V V (zI V) (yL V V (by obtain ⟨y,hy⟩:=hat h73;rw [(Z9 hy).2];rfl) V V (yC V V ⟨by omega,by omega⟩)<|yL V V (by obtain ⟨y,hy⟩:=hat h73;rw [(Z9 hy).2];rfl) V V (ye V V)<|za V (zv V (by obtain ⟨y,hy⟩:=hat h73;rw [(Z9 hy).2];rfl) V)<|zd V<|yL V V (by simp [hlen h73,hx1]) V V (zc (n:=0) V k9)<|yL V V (by simp [hlen h73,hx1]) V V (zg 15 V V V k9 zh)<|yL V V (by simp [hlen h73,hx1]) V V (zc (n:=0) V k9)<|yL V V (by simp [hlen h73,hx1]) V V (zg 14 V V V k9 zh)<|yL V V (by simp [hlen h73,hx1]) V V (ye V V)<|za V (zv V (by simp [hlen h73,hx1]) V)<|zd V<|zU 94 V (fun hb94=> ?_) (fun hb94=> ?_))
    ·have h94:¬(Led.atE q.en (x.1:Int)).kind=x.2.kind:=by simpa using hb94
     refine zq hb94 (zq hb94<|zq hb94<|zq hb94<|zq hb94<|zq hb94<|za V (zB V hb94 V)<|zP<|Zr<|zeI V V<|Z0<|yJ k9 (fun _ _ h=>h)<|zd V<|zt (S:=[_]) (zR 5 V V V k9 V<|m9 V)<|zP<|Zr<|zby ?_)
     repeat (first | refine Ze ?_ | refine Zf d9 ?_ | refine zdr ?_)
     have hbad:YV s x.2=none:=ze5 hx1 hx2 hse hE hq (by first | exact .inl h73 | exact .inr ⟨h73,.inl h94⟩ | exact .inr ⟨h73,.inr h101⟩)
     refine SE.sub (σ':=zN [(9,_),(10,_),(11,_),(12,_),(13,_)] [_,_,_,_,_,_,_,_,_,_,_,_,_,_]) (sB [0,1,2,3,4,5,6,7,8,9,10,11,12,13] V V) (jX (zdZ (gl:=vl) (es:=q.en) u) [11,12,13] d9 (sX V) ?_);rintro _ ⟨Fq,rfl⟩;refine jX (ZT (gr:=gr) (s:=q) ⟨vb,vFb,vl,Fq,vA,vc,vFv,vM,vFm,vk,vFk⟩ hv) [6,7,11,8,9,10] d9 (sX V) ?_;rintro _ ⟨Fr2,rfl⟩;exact SE.rnd (σ':=zN [] [.r Fb<|bkP gb l,.c g9 [pA gr],.c g10 [iD E],.c g11 [isD<|.map<|some g34],.r [g34]<|Zc (some g34) jM [2,1] kdD,.c g12 [iD (i:Int)],.r Fr2<|Yj gr q]) ⟨V,Fb,Fr2,q,E,hlt,⟨s,x.2,hs,hx2,hbad⟩,V⟩ (⟨⟨_,V,t9⟩,[0,1,2,3,4,5,6],by decide,⟨lR rfl,⟨la rfl,⟨la rfl,⟨la rfl,⟨lR rfl,⟨⟨_,rfl,⟨zF (by rw [hx1]),trivial⟩⟩,⟨lR rfl,trivial⟩⟩⟩⟩⟩⟩⟩⟩)
    ·have h94:(Led.atE q.en (x.1:Int)).kind=x.2.kind:=by simpa using hb94
     refine zy hb94 (zc (n:=1) V k9) (zy hb94 (zg 15 V V V k9 zh)<|zy hb94 (zc (n:=1) V k9)<|zy hb94 (zg 14 V V V k9 zh)<|ZD (S:=[]) V V hb94 V (zD [] (zbr _ _) V ⟨(zo<|zb _),(zo<|zb _),t9⟩ V) ?_);rintro _ rfl;refine zy hb94 (yS V) (za V (zv V hb94 V)<|zP<|Zr<|Wh V (fun hb101=> ?_) (fun hb101=> ?_))
     ·have h101:¬(Led.atE q.en (x.1:Int)).bytes=x.2.bytes:=by simpa using hb101
      refine Z0 (yJ k9 (fun _ _ h=>h)<|zd V<|zt (S:=[_]) (zR 5 V V V k9 V<|m9 V)<|zP<|Zr<|zby ?_)
      repeat (first | refine Ze ?_ | refine Zf d9 ?_ | refine zdr ?_)
      have hbad:YV s x.2=none:=ze5 hx1 hx2 hse hE hq (by first | exact .inl h73 | exact .inr ⟨h73,.inl h94⟩ | exact .inr ⟨h73,.inr h101⟩)
      refine SE.sub (σ':=zN [(9,_),(10,_),(11,_),(12,_),(13,_)] [_,_,_,_,_,_,_,_,_,_,_,_,_,_]) (sB [0,1,2,3,4,5,6,7,8,9,10,11,12,13] V V) (jX (zdZ (gl:=vl) (es:=q.en) u) [11,12,13] d9 (sX V) ?_);rintro _ ⟨Fq,rfl⟩;refine jX (ZT (gr:=gr) (s:=q) ⟨vb,vFb,vl,Fq,vA,vc,vFv,vM,vFm,vk,vFk⟩ hv) [6,7,11,8,9,10] d9 (sX V) ?_;rintro _ ⟨Fr2,rfl⟩;exact SE.rnd (σ':=zN [] [.r Fb<|bkP gb l,.c g9 [pA gr],.c g10 [iD E],.c g11 [isD<|.map<|some g34],.r [g34]<|Zc (some g34) jM [2,1] kdD,.c g12 [iD (i:Int)],.r Fr2<|Yj gr q]) ⟨V,Fb,Fr2,q,E,hlt,⟨s,x.2,hs,hx2,hbad⟩,V⟩ (⟨⟨_,V,t9⟩,[0,1,2,3,4,5,6],by decide,⟨lR rfl,⟨la rfl,⟨la rfl,⟨la rfl,⟨lR rfl,⟨⟨_,rfl,⟨zF (by rw [hx1]),trivial⟩⟩,⟨lR rfl,trivial⟩⟩⟩⟩⟩⟩⟩⟩)
     ·have h101:(Led.atE q.en (x.1:Int)).bytes=x.2.bytes:=by simpa using hb101
      refine We (yc<|SN.sub (σ':=zN [(9,_),(10,_),(11,_),(12,_),(13,_)] [_,_,_,_,_,_,_,_,_,_,_,_,_,_]) (sB [0,1,2,3,4,5,6,7,8,9,10,11,12,13] V V)<|zeK (zdZ (gl:=vl) (es:=q.en) u) [11,12,13] d9 (sX V) ?_);rintro _ ⟨Fq,rfl⟩;refine zeK (ZT (gr:=gr) (s:=q) ⟨vb,vFb,vl,Fq,vA,vc,vFv,vM,vFm,vk,vFk⟩ hv) [6,7,11,8,9,10] d9 (sX V) ?_;rintro _ ⟨Fr2,rfl⟩;exact jW (σ':=zN [] [.r Fb<|bkP gb l,.c g9 [pA gr],.c g10 [iD 0],.c g11 [isD<|.map<|some g34],.r [g34]<|Zc (some g34) jM [2,1] kdD,.c g12 [iD<|-1],.r Fr2<|Yj gr q]) ⟨Fb,Fr2,q,rep_next hx1 hx2 hs hse hE hq h73 h94 h101,V⟩ (⟨⟨_,V,t9⟩,[0,1,2,3,4,5,6],by decide,⟨lR rfl,⟨la rfl,⟨⟨_,rfl,⟨zF (by rw [h73]),trivial⟩⟩,(sX rfl)⟩⟩⟩⟩)
 ·rintro dk0 bx ⟨Fb,Fr,s,hs,rfl⟩
  have hs2:Z6 (Rnd.start l ws) es=some s:=by rw [zcl,Ji<|Js _] at hs;exact hs
  refine yc (zn<|zk<|zk<|zO (σ':=zN [(9,_),(12,_)] [_,_,_,_,_]) (sB [0,1,5,6,7] V V)<|zi<|za V (zg 2 V V V k9 zh)<|za V (ZB V V)<|ze<|zE V d9<|zr<|zn<|zp<|za V (zg 1 V V V k9 zh)<|zf V<|zf V<|zf V<|ze<|WO (fn:=Tryz.f38) (fun _ _ h=>h)<|Vv 4 V<|WQ (⟨(Fb,gr,Fr,s,none),hs2⟩) [0,3] (Rs.le (ZR V (zj V) (zj V)<|zj V) ?_) d9<|sX V);exact zb _
 ·rintro dk0 nq i bx ⟨rfl,Fb,Fr,s,c,hlt,hbad,rfl⟩
  repeat (first | refine Ze ?_ | refine Zf d9 ?_)
  refine Zn (zn<|zk<|zk<|zO (σ':=zN [(9,_),(12,_)] [_,_,_,_,_]) (sB [0,1,5,6,7] V V)<|zi<|za V (zg 2 V V V k9 zh)<|za V (ZB V V)<|ze<|zW V s9<|zk<|yh [] (rr [0,1,2,3] .fin) k9 k9 (fun d _ _ _ _ h=>by cases d <;> exact h)<|zl V V (zg 2 V V V k9 zh)<|Zh V V<|Zh V V<|Zh V V<|yI<|WO (fn:=Tryz.f38) (fun _ _ h=>h)<|Vv 4 V<|WQ (⟨(Fb,gr,Fr,s,some i),hbad⟩) [0,3] (Rs.le (ZR V (zj V) (zj V)<|zj V) ?_) d9<|sX V)
  exact zb _
 ·rintro _ _ _ hX;exact hX.elim
