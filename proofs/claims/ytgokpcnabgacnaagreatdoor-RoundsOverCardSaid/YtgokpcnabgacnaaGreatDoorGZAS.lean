/- LEDGERS: the walk of an inclusion path. LEDGERS: Consistency. LEDGERS: the reference, digests. LEDGERS: the reference, paths. LEDGERS: encodings, Appe -/
import Derived.Test.YtgokpcnabgacnaaGreatDoorGZAR
import Derived.Test.YtgokpcnabgacnaaGreatDoorGZAQ
set_option maxHeartbeats 8000000
set_option maxRecDepth 100000
namespace Go.Proofs.YtgokpcnabgacnaaGreatDoor
open Go.RowKit
namespace Sx
section
structure Vst where
 A:Option Addr
 c:Nat
 F:LN
def encLn (n0:Nat) (d:LB):List D:=[nwD n0<|bD d]
instance (n0:Nat):Row (encLn n0) 1:=⟨fun _=>rfl,fun x=>by unfold encLn;infer_instance,by decide⟩
end
section
end
section
def Led.Ent.fit (e:Led.Ent):Prop:=0≤e.kind∧e.kind≤255∧e.bytes.length≤65536
theorem zhf (k:Int) (n:Nat):ConN Tryz.prog 85 [Zo [iD k,zfi n]] (yj<|decide (0≤k∧k≤255∧n≤65536)):=by
 refine yO Tryz.func85 k9 V k9 fun base w0=>(zp (SWl.e2 (S:=[]) (yv V V) fun g1=>(zf V<|zV<|za V (zc (n:=0) V k9)<|za V (zg 0 V V V k9 zh)<|za V (ZB V V)<|zd V<|zU 6 V (fun hb6=> ?_) (fun hb6=> ?_))))
 ·skip
  refine zy hb6 (zc (n:=0) V k9) (zy hb6 (zg 0 V V V k9 zh)<|zy hb6 (YR V V)<|za V (zB V hb6 V)<|zd V<|zU 11 V (fun hb11=> ?_) (fun hb11=> ?_))
  ·skip
   refine zy hb11 (zc (n:=1) V k9) (zy hb11 (zg 0 V V V k9 zh)<|zy hb11 (Ks (e:=5) V k9)<|zy hb11 (YR V V)<|za V (zB V hb11 V)<|zf V<|ze<|zK (fn:=Tryz.f85) (fun _ _ h=>h)<|Rs.le (Rs.one V<|zj V) ?_);exact qz (by rw [XH];simp at *;omega)
  ·skip
   refine zq hb11 (zq hb11<|zq hb11<|zq hb11<|za V (zv V hb11 V)<|zf V<|ze<|zK (fn:=Tryz.f85) (fun _ _ h=>h)<|Rs.le (Rs.one V<|zj V) ?_);exact qz (by rw [XH];simp at *;omega)
 ·skip
  refine zq hb6 (zq hb6<|zq hb6<|za V (zv V hb6 V)<|zd V<|zq V<|zq V<|zq V<|zq V<|za V (zv V V V)<|zf V<|ze<|zK (fn:=Tryz.f85) (fun _ _ h=>h)<|Rs.le (Rs.one V<|zj V) ?_);exact qz (by rw [XH];simp at *;omega)
end
section
end
section
def y8 (es:List Led.Ent) (k:Int) (b:LB):Int:=if 0≤k∧k≤255∧b.length≤65536 then (if es.length < 4096 then 0 else 7) else 2
def Led.app (es:List Led.Ent) (k:Int) (b:LB):List Led.Ent:=if 0≤k∧k≤255∧b.length≤65536 then (if es.length < 4096 then es ++ [⟨k,b⟩] else es) else es
def qc (es:List Led.Ent) (k:Int) (b:LB):Int:=if 0≤k∧k≤255∧b.length≤65536 then (if es.length < 4096 then (es.length:Int) else 0) else 0
theorem qf {es:List Led.Ent} {k:Int} {b:LB} (h:¬(0≤k∧k≤255∧b.length≤65536)):Led.app es k b=es∧y8 es k b=2∧qc es k b=0:=⟨Jb h,Jb h,Jb h⟩
theorem Yn {es:List Led.Ent} {k:Int} {b:LB} (h:0≤k∧k≤255∧b.length≤65536) (h2:¬es.length < 4096):Led.app es k b=es∧y8 es k b=7∧qc es k b=0:=⟨by rw [Led.app,Jh h,Jb h2],by rw [y8,Jh h,Jb h2],by rw [qc,Jh h,Jb h2]⟩
theorem Y4 {es:List Led.Ent} {k:Int} {b:LB} (h:0≤k∧k≤255∧b.length≤65536) (h2:es.length < 4096):Led.app es k b=es ++ [⟨k,b⟩]∧y8 es k b=0∧qc es k b=es.length:=⟨by rw [Led.app,Jh h,Jh h2],by rw [y8,Jh h,Jh h2],by rw [qc,Jh h,Jh h2]⟩
instance:DecidablePred Led.Ent.fit:=fun e=>by unfold Led.Ent.fit;infer_instance
instance ones_te (e:Led.Ent):Ones (List.take 2<|encE e):=by unfold encE;show Ones [iD _,bD _];infer_instance
theorem zb0 (gl:Nat) (s:Lst) (es es':List Led.Ent) (k:Int) (b:LB) (A:Option Addr) (c:Nat) (F:LN) (R:Res) (hR:qb R (.slice A b.length c) (cellsOf b)) (hn:es.length≤100000) (he:es'=Led.app es k b) (h:¬(0≤k∧k≤255∧b.length≤65536)):ConR Tryz.prog 35 [.c gl [isD<|.slice s.A (es).length s.c,isD<|.map s.M],zbH s<|es,zbG s<|es,.r F R] [pA gl,Zo [iD k,isD<|.slice A b.length c]] (fun t:Lst=>[.c gl [isD<|.slice t.A (es').length t.c,isD<|.map t.M],zbH t<|es',zbG t<|es',.r F R]) (fun t:Lst=>Yk [iD<|qc es k b,iD<|y8 es k b]):=by
 refine yg Tryz.func35 k9 V k9 fun base w0=>(zp (SWl.e2 (S:=[]) (yv V V) fun g3=>(zf V<|zf V<|ze<|zk<|zp<|zd V<|za V (YS V V k9)<|ze<|zE V V<|zr<|zn<|zk<|zp<|za V (zA 4 2 V V k9 V zh)<|zt (S:=[]) (zD [] (za9 k b.length) V ⟨(zo<|ZM ⟨zb _,qs,t9⟩),t9⟩ V)<|za V (yS V)<|ze<|zW V (by simp [h])<|zp<|zf V<|zf V<|ze<|zQ (fn:=Tryz.f35) (s) [0,1,2,3] (fun _ _ h=>h) (Rs.le (ym V (zj V)<|zj V) ?_) d9 ⟨⟨_,V,⟨zF (by rw [he,(qf h).1]),zb _,t9⟩⟩,⟨⟨_,V,ZZ (by rw [he,(qf h).1]) (by rw [he,(qf h).1])⟩,⟨⟨_,V,zfj (by rw [he,(qf h).1]) (by rw [he,(qf h).1])⟩,⟨lR V,t9⟩⟩⟩⟩)));exact yn ⟨zF (by rw [(qf h).2.2]),zF (by rw [(qf h).2.1]),t9⟩
theorem zbs (gl:Nat) (s:Lst) (es es':List Led.Ent) (k:Int) (b:LB) (A:Option Addr) (c:Nat) (F:LN) (R:Res) (hR:qb R (.slice A b.length c) (cellsOf b)) (hn:es.length≤100000) (he:es'=Led.app es k b) (h:0≤k∧k≤255∧b.length≤65536) (h2:¬es.length < 4096):ConR Tryz.prog 35 [.c gl [isD<|.slice s.A (es).length s.c,isD<|.map s.M],zbH s<|es,zbG s<|es,.r F R] [pA gl,Zo [iD k,isD<|.slice A b.length c]] (fun t:Lst=>[.c gl [isD<|.slice t.A (es').length t.c,isD<|.map t.M],zbH t<|es',zbG t<|es',.r F R]) (fun t:Lst=>Yk [iD<|qc es k b,iD<|y8 es k b]):=by
 refine yg Tryz.func35 k9 V k9 fun base w0=>(zp (SWl.e2 (S:=[]) (yv V V) fun g3=>(zf V<|zf V<|ze<|zk<|zp<|zd V<|za V (YS V V k9)<|ze<|zE V V<|zr<|zn<|zk<|zp<|za V (zA 4 2 V V k9 V zh)<|zt (S:=[]) (zD [] (za9 k b.length) V ⟨(zo<|ZM ⟨zb _,qs,t9⟩),t9⟩ V)<|za V (yS V)<|ze<|zE V (by simp;omega)<|zr<|zn<|zk<|zp<|zd V<|za V (zz V)<|za V (zc (n:=0) V k9)<|za V (zg 0 V V V k9 zh)<|za V (Y7 (e:=85) V k9)<|za V (ZB V V)<|ze ?_)));refine zW V (by simp;omega) (zp<|zf V<|zf V<|ze<|zQ (fn:=Tryz.f35) (s) [0,1,2,3] (fun _ _ h=>h) (Rs.le (ym V (zj V)<|zj V) ?_) d9 ⟨⟨_,V,⟨zF (by rw [he,(Yn h h2).1]),zb _,t9⟩⟩,⟨⟨_,V,ZZ (by rw [he,(Yn h h2).1]) (by rw [he,(Yn h h2).1])⟩,⟨⟨_,V,zfj (by rw [he,(Yn h h2).1]) (by rw [he,(Yn h h2).1])⟩,⟨lR V,t9⟩⟩⟩⟩);exact yn ⟨zF (by rw [(Yn h h2).2.2]),zF (by rw [(Yn h h2).2.1]),t9⟩
theorem zdk (gl:Nat) (s:Lst) (es es':List Led.Ent) (k:Int) (b:LB) (A:Option Addr) (c:Nat) (F:LN) (R:Res) (hR:qb R (.slice A b.length c) (cellsOf b)) (hn:es.length≤100000) (he:es'=Led.app es k b) (h:0≤k∧k≤255∧b.length≤65536) (h2:es.length < 4096):ConR Tryz.prog 35 [.c gl [isD<|.slice s.A (es).length s.c,isD<|.map s.M],zbH s<|es,zbG s<|es,.r F R] [pA gl,Zo [iD k,isD<|.slice A b.length c]] (fun t:Lst=>[.c gl [isD<|.slice t.A (es').length t.c,isD<|.map t.M],zbH t<|es',zbG t<|es',.r F R]) (fun t:Lst=>Yk [iD<|qc es k b,iD<|y8 es k b]):=by
 refine yg Tryz.func35 k9 V k9 fun base w0=>(zp (SWl.e2 (S:=[]) (yv V V) fun g3=>(zf V<|zf V<|ze<|zk<|zp<|zd V<|za V (YS V V k9)<|ze<|zE V V<|zr<|zn<|zk<|zp<|za V (zA 4 2 V V k9 V zh)<|zt (S:=[]) (zD [] (za9 k b.length) V ⟨(zo<|ZM ⟨zb _,qs,t9⟩),t9⟩ V)<|za V (yS V)<|ze<|zE V (by simp;omega)<|zr<|zn<|zk<|zp<|zd V<|za V (zz V)<|za V (zc (n:=0) V k9)<|za V (zg 0 V V V k9 zh)<|za V (Y7 (e:=85) V k9)<|za V (ZB V V)<|ze ?_)))
 refine zE V (by simp;omega) (zr<|zn<|zp<|zd V<|za V (zA 4 2 V V k9 V zh) (SWl.e2 (zC [0,1,2,3] (con_push gl s es _ k b A c F R hR o9 ⟨h.1,h.2.1⟩ hn V) V ⟨zb _,zb _,t9⟩ d9 (sX V) (fun _ h=>h) V) fun s2=>(zV<|zd V<|za V (zz V)<|za V (zc (n:=0) V k9)<|za V (zg 1 V V V k9 zh)<|za V (Y7 (e:=85) V k9)<|za V (jF V V ⟨by simp <;> omega,by simp <;> omega⟩)<|zf V<|zf V<|ze<|zQ (fn:=Tryz.f35) (s2) [1,2,3,4] (fun _ _ h=>h) (Rs.le (ym V (zj V)<|zj V) ?_) d9 ⟨⟨_,V,⟨zF (by rw [he,(Y4 h h2).1]),zb _,t9⟩⟩,⟨⟨_,V,ZZ (by rw [he,(Y4 h h2).1]) (by rw [he,(Y4 h h2).1])⟩,⟨⟨_,V,zfj (by rw [he,(Y4 h h2).1]) (by rw [he,(Y4 h h2).1])⟩,⟨lR V,t9⟩⟩⟩⟩)))
 exact yn ⟨zF (by rw [(Y4 h h2).2.2];simp),zF (by rw [(Y4 h h2).2.1]),t9⟩
theorem zcz (gl:Nat) (s:Lst) (es es':List Led.Ent) (k:Int) (b:LB) (A:Option Addr) (c:Nat) (F:LN) (R:Res) (hR:qb R (.slice A b.length c) (cellsOf b)) (hn:es.length≤100000) (he:es'=Led.app es k b):
  ConR Tryz.prog 35 [ledC gl s es,zbH s es,zbG s es,.r F R] [pA gl,Zo [iD k,isD<|.slice A b.length c]] (fun s:Lst=>[ledC gl s es',zbH s es',zbG s es',.r F R]) (fun _=>Yk [iD<|qc es k b,iD<|y8 es k b]):=by
 by_cases h:0≤k∧k≤255∧b.length≤65536
 ·by_cases h2:es.length < 4096
  ·exact zdk gl s es es' k b A c F R hR hn he h h2
  ·exact zbs gl s es es' k b A c F R hR hn he h h2
 ·exact zb0 gl s es es' k b A c F R hR hn he h
end
end Sx
end Go.Proofs.YtgokpcnabgacnaaGreatDoor
namespace Go.Proofs.YtgokpcnabgacnaaGreatDoor
open Go.ChangeShapes Go.WideShapes Go.ChangeAt Go.RowKit
namespace Sx
instance:Inhabited Led.Ent:=⟨⟨0,[]⟩⟩
end Sx
end Go.Proofs.YtgokpcnabgacnaaGreatDoor
namespace Go.Proofs.YtgokpcnabgacnaaGreatDoor
open Go.RowKit
open Sx
namespace Rnd
structure Win where
 st:Int
 en:Int
 rv:Int
 cm:LB
instance:Inhabited Win:=⟨⟨0,0,0,[]⟩⟩
def okW (b:Int) (w:Win):Prop:=b≤w.st∧w.st < w.en∧w.en≤w.rv∧w.rv≤1099511627776∧w.cm.length=32
instance (b:Int) (w:Win):Decidable (okW b w):=by unfold okW;infer_instance
def okL:Int→List Win→Prop
 | _,[]=>True
 | b,w :: l=>okW b w∧okL w.en l
instance decOkL:∀ (b:Int) (l:List Win),Decidable (okL b l)
 | _,[]=>isTrue trivial
 | b,w :: l=> @instDecidableAnd _ _ _ (decOkL w.en l)
def ok (l:List Win):Prop:=(1≤l.length∧l.length≤500)∧okL 0 l
instance (l:List Win):Decidable (ok l):=by unfold ok;infer_instance
def before (l:List Win) (i:Nat):Int:=if i=0 then 0 else (l.getD (i - 1) default).en
theorem before_succ {l:List Win} {i:Nat} {w:Win} (h:l[i]? =some w):before l (i + 1)=w.en:=by
 unfold before;rw [Jb o9,Nat.add_sub_cancel,Jr,h]
 rfl
theorem okL_step {l:List Win} {i:Nat} {w:Win} (h:l[i]? =some w):okL (before l i) (l.drop i)↔okW (before l i) w∧okL (before l<|i + 1) (l.drop<|i + 1):=by
 obtain ⟨h1,h2⟩:=Jg.1 h;rw [before_succ h,List.drop_eq_getElem_cons h1,h2]
 rfl
theorem okL_all (l:List Win) (b:Int):okL b (l.drop l.length):=by rw [List.drop_length];trivial
structure S where
 bk:List Acc.T
 ws:List Win
 es:List Env.T
 ks:List LB
 ck:Int
 en:List Led.Ent
def kyAt (ks:List LB) (r:Nat):LB:=ks.getD r []
def winAt (ws:List Win) (r:Nat):Win:=ws.getD r default
def stOf (w:Win) (k:LB) (now:Int):Int:=if k≠[] then 4 else if now < w.st then 1 else if now < w.en then 2 else 3
def st (s:S) (r:Nat) (now:Int):Int:=stOf (winAt s.ws r) (kyAt s.ks r) now
theorem winAt_some {ws:List Win} {r:Nat} {w:Win} (h:ws[r]? =some w):winAt ws r=w:=by unfold winAt;rw [Jr,h];rfl
theorem kyAt_some {ks:List LB} {r:Nat} {k:LB} (h:ks[r]? =some k):kyAt ks r=k:=by unfold kyAt;rw [Jr,h];rfl
def has (s:S) (r:Int):Prop:=0≤r∧r < (s.ws.length:Int)
instance (s:S) (r:Int):Decidable (has s r):=by unfold has;infer_instance
def time (now:Int):Prop:=0≤now∧now≤1099511627776
instance (now:Int):Decidable (time now):=by unfold time;infer_instance
def atE (s:S) (r now:Int):Int:=if ¬time now then 2 else if ¬has s r then 3 else 0
def atS (s:S) (r now:Int):Int:=if atE s r now=0 then st s r.toNat now else 0
def rks (ks:List LB):List Int:=((List.range ks.length).filter fun i=>decide (kyAt ks i≠[])).map (Nat.cast:Nat→Int)
theorem mem_rks {ks:List LB} {r:Int}:r∈rks ks↔0≤r∧kyAt ks r.toNat≠[]:=by
 unfold rks;rw [JI]
 constructor
 ·rintro ⟨i,hi,rfl⟩;have h:=(Jw.1 hi).2;simp at h;exact ⟨by omega,by simpa using h⟩
 ·rintro ⟨h0,h⟩;refine ⟨r.toNat,Jw.2 ⟨List.mem_range.2 ?_,by simpa using h⟩,by omega⟩;apply Classical.byContradiction;intro hn;apply h;unfold kyAt;rw [Jr,JM o9]
  rfl
def same (a b:Env.T):Prop:=a.acc=b.acc∧a.rnd=b.rnd
instance (a b:Env.T):Decidable (same a b):=by unfold same;infer_instance
def subP (e:Env.T) (now:Int):LB:=grp now.toNat ++ j5 (Env.enc e)
def busy (es:List Env.T) (e:Env.T):Prop:=∃ x∈es,same x e∧e.ser≤x.ser
instance (es:List Env.T) (e:Env.T):Decidable (busy es e):=by unfold busy;infer_instance
def subE (s:S) (e:Env.T) (now:Int):Int:=
 if ¬(Env.ok e∧time now) then 2 else if ¬(s.ck≤now∧has s e.rnd) then 3 else if st s e.rnd.toNat now≠2 then 8 else
 if Env.autE s.bk e≠0 then Env.autE s.bk e else if busy s.es e then 11 else if 4096≤s.en.length then 7 else 0
def put (es:List Env.T) (e:Env.T):List Env.T:=(es.filter fun x=>decide (¬same x e)) ++ [e]
def subS (s:S) (e:Env.T) (now:Int):S:=if subE s e now=0 then { s with es:=put s.es e,ck:=now,en:=s.en ++ [⟨1,subP e now⟩] } else s
def revP (r:Int) (key:LB) (now:Int):LB:=grp now.toNat ++ grp r.toNat ++ j5 key
def revE (s:S) (r:Int) (key:LB) (now:Int):Int:=
 if ¬(key.length=32∧time now) then 2 else if ¬(s.ck≤now∧has s r) then 3 else if ¬((winAt s.ws r.toNat).rv≤now∧kyAt s.ks r.toNat=[]) then 8 else
 if Env.comB key≠(winAt s.ws r.toNat).cm then 10 else if 4096≤s.en.length then 7 else 0
def revS (s:S) (r:Int) (key:LB) (now:Int):S:=if revE s r key now=0 then { s with ks:=s.ks.set r.toNat key,ck:=now,en:=s.en ++ [⟨2,revP r key now⟩] } else s
def recE (s:S) (k:Int) (p:LB):Int:=if ¬(2 < k∧k≤255∧p.length≤65536) then 2 else if 4096≤s.en.length then 7 else 0
def recI (s:S) (k:Int) (p:LB):Int:=if recE s k p=0 then (s.en.length:Int) else 0
def recS (s:S) (k:Int) (p:LB):S:=if recE s k p=0 then { s with en:=s.en ++ [⟨k,p⟩] } else s
def keysE (es:List Env.T) (i:Nat):List LB:=(es.filter fun e=>decide (e.rnd=(i:Int))).map Env.T.acc
def getE (es:List Env.T) (i:Nat) (nm:LB):Option Env.T:=es.find? fun e=>decide (e.rnd=(i:Int)∧e.acc=nm)
structure Good (s:S):Prop where
 fine:Acc.Fine s.bk
 win:ok s.ws
 kl:s.ks.length=s.ws.length
 k32:∀ k∈s.ks,k=[]∨k.length=32
 uni:s.es.Pairwise fun a b=>¬same a b
 aut:∀ e∈s.es,Env.autE s.bk e=0∧has s e.rnd
 fit:∀ e∈s.en,Led.Ent.fit e
 len:s.en.length≤4096
 ck:time s.ck
theorem mem_keysE {es:List Env.T} {i:Nat} {nm:LB}:nm∈keysE es i↔∃ e,getE es i nm=some e:=by
 unfold keysE getE;rw [JI]
 constructor
 ·rintro ⟨e,he,rfl⟩;obtain ⟨h1,h2⟩:=Jw.1 he;have h3:(es.find? fun x=>decide (x.rnd=(i:Int)∧x.acc=e.acc)).isSome:=List.find?_isSome.2 ⟨e,h1,by simpa using h2⟩;exact Option.isSome_iff_exists.1 h3
 ·rintro ⟨e,he⟩;have h1:=List.find?_some he;have h2:=List.mem_of_find?_eq_some he;simp at h1;exact ⟨e,Jw.2 ⟨h2,by simpa using h1.1⟩,h1.2⟩
theorem zd6 {es:List Env.T} {i:Nat} {nm:LB} {e:Env.T} (h:getE es i nm=some e):e∈es∧e.rnd=(i:Int)∧e.acc=nm:=by
 have h1:=List.find?_some h;simp at h1;exact ⟨List.mem_of_find?_eq_some h,h1⟩
theorem same_symm {a b:Env.T} (h:same a b):same b a:=⟨h.1.symm,h.2.symm⟩
theorem getE_of {es:List Env.T} (hu:es.Pairwise fun a b=>¬same a b) {i:Nat} {e:Env.T} (he:e∈es) (hi:e.rnd=(i:Int)):getE es i e.acc=some e:=by
 obtain ⟨x,hx⟩:=mem_keysE.1 (JI.2 ⟨e,Jw.2 ⟨he,by simpa using hi⟩,rfl⟩:e.acc∈keysE es i);obtain ⟨h1,h2,h3⟩:=zd6 hx
 have:x=e:=by
  apply Classical.byContradiction;intro hne;have hs:same x e:=⟨h3,h2.trans hi.symm⟩;obtain ⟨m,hm,hm2⟩:=List.mem_iff_getElem.1 h1;obtain ⟨n,hn,hn2⟩:=List.mem_iff_getElem.1 he;rcases Nat.lt_trichotomy m n with h | h | h
  ·exact List.pairwise_iff_getElem.1 hu m n hm hn h (by rw [hm2,hn2];exact hs)
  ·subst h;exact hne (hm2.symm.trans hn2)
  ·exact List.pairwise_iff_getElem.1 hu n m hn hm h (by rw [hm2,hn2];exact same_symm hs)
 rw [hx,this]
theorem busy_iff {es:List Env.T} (hu:es.Pairwise fun a b=>¬same a b) {e:Env.T} {i:Nat} (hi:e.rnd=(i:Int)):busy es e↔∃ x,getE es i e.acc=some x∧e.ser≤x.ser:=by
 constructor
 ·rintro ⟨x,hx,hs,hl⟩;have:=getE_of hu hx (hs.2.trans hi);rw [hs.1] at this;exact ⟨x,this,hl⟩
 ·rintro ⟨x,hx,hl⟩;obtain ⟨h1,h2,h3⟩:=zd6 hx;exact ⟨x,h1,⟨h3,h2.trans hi.symm⟩,hl⟩
theorem mem_put {es:List Env.T} {e x:Env.T}:x∈put es e↔x=e∨(x∈es∧¬same x e):=by
 unfold put;rw [Jf,Ja,Jw];simp only [Jz];exact Or.comm
theorem put_uni {es:List Env.T} (hu:es.Pairwise fun a b=>¬same a b) (e:Env.T):(put es e).Pairwise fun a b=>¬same a b:=by
 unfold put;refine List.pairwise_append.2 ⟨hu.filter _,List.pairwise_singleton _ _,fun a ha b hb=> ?_⟩;rw [Ja.1 hb];simpa using (Jw.1 ha).2
theorem zfn {α:Type} (p q:α→Bool) (l:List α) (h:∀ x∈l,p x=true→q x=true):(l.filter q).find? p=l.find? p:=by
 induction l with
 | nil=>rfl
 | cons a l ih=>
  have ih':=ih fun x hx=>h x (Jl _ hx)
  by_cases hp:p a=true
  ·rw [List.filter_cons,Jh<|h a mC hp,List.find?_cons,List.find?_cons,hp]
  ·have hp':p a=false:=by simpa using hp
   rw [List.filter_cons]
   split
   ·rw [List.find?_cons,List.find?_cons,hp'];exact ih'
   ·rw [List.find?_cons,hp'];exact ih'
theorem getE_put_self {es:List Env.T} {e:Env.T} {i:Nat} (hi:e.rnd=(i:Int)):getE (put es e) i e.acc=some e:=by
 unfold getE put;rw [List.find?_append,List.find?_eq_none.2 (fun x hx=> ?_)]
 ·simp [hi]
 ·have h:=(Jw.1 hx).2;simp only [Jz] at h ⊢;intro h2;exact h ⟨h2.2,h2.1.trans hi.symm⟩
theorem getE_put_ne {es:List Env.T} {e:Env.T} {i:Nat} {nm:LB} (h:¬(e.rnd=(i:Int)∧e.acc=nm)):getE (put es e) i nm=getE es i nm:=by
 unfold getE put;rw [List.find?_append,zfn _ _ _ (fun x _ hx=> ?_)]
 ·rw [show [e].find? (fun x=>decide (x.rnd=(i:Int)∧x.acc=nm))=none from List.find?_eq_none.2 fun x hx=>by rw [Ja.1 hx];simpa using h,Option.or_none]
 ·simp only [Jz] at hx ⊢;exact fun hs=>h ⟨hs.2 ▸ hx.1,hs.1 ▸ hx.2⟩
theorem Good.sub {s:S} (h:Good s) (e:Env.T) (now:Int):Good (subS s e now):=by
 unfold subS
 split
 ·rename_i h0;unfold subE at h0
  split at h0
  ·cases h0
  ·rename_i h1
   split at h0
   ·cases h0
   ·rename_i h2
    split at h0
    ·cases h0
    ·split at h0
     ·rename_i h4;exact absurd h0 h4
     ·rename_i h4
      split at h0
      ·cases h0
      ·split at h0
       ·cases h0
       ·rename_i h6;have h1:Env.ok e∧time now:=Xp.1 h1;have h2:s.ck≤now∧has s e.rnd:=Xp.1 h2;refine ⟨h.fine,h.win,h.kl,h.k32,put_uni h.uni e,fun x hx=> ?_,fun x hx=> ?_,by simp;omega,h1.2⟩
        ·rcases mem_put.1 hx with rfl | ⟨hx,_⟩
         ·exact ⟨by simpa using h4,h2.2⟩
         ·exact h.aut x hx
        ·rcases Jf.1 hx with hx | hx
         ·exact h.fit x hx
         ·rw [Ja.1 hx];have a1:=Env.sgnT_len h1.1;have a2:=(Env.ok_len h1.1).2.2.2.2.2.2.2;have a3:=ZN (b:=e.tag) o9
          have a4:(Env.enc e).length≤4300:=by unfold Env.enc;rw [Jk];omega
          have a5:=ZN (b:=Env.enc e) o9;have a6:=Zv (n:=now.toNat) (by have:=h1.2.2;omega);exact ⟨(by show (0:Int)≤1;decide),(by show (1:Int)≤255;decide),by show (subP e now).length≤65536;unfold subP;rw [Jk];omega⟩
 ·exact h
theorem Good.rev {s:S} (h:Good s) (r:Int) (key:LB) (now:Int):Good (revS s r key now):=by
 unfold revS
 split
 ·rename_i h0;unfold revE at h0
  split at h0
  ·cases h0
  ·rename_i h1
   split at h0
   ·cases h0
   ·rename_i h2
    split at h0
    ·cases h0
    ·split at h0
     ·cases h0
     ·split at h0
      ·cases h0
      ·rename_i h6;have h1:key.length=32∧time now:=Xp.1 h1;have h2:s.ck≤now∧has s r:=Xp.1 h2;have hwl:=h.win.1.2;refine ⟨h.fine,h.win,by simp [h.kl],fun k hk=> ?_,h.uni,h.aut,fun x hx=> ?_,by simp;omega,h1.2⟩
       ·rcases List.mem_or_eq_of_mem_set hk with hk | rfl
        ·exact h.k32 k hk
        ·exact .inr h1.1
       ·rcases Jf.1 hx with hx | hx
        ·exact h.fit x hx
        ·rw [Ja.1 hx];have a5:=ZN (b:=key) o9;have a6:=Zv (n:=now.toNat) (by have:=h1.2.2;omega);have a7:=Zv (n:=r.toNat) (by have:=h2.2.2;omega);exact ⟨(by show (0:Int)≤2;decide),(by show (2:Int)≤255;decide),by show (revP r key now).length≤65536;unfold revP;rw [Jk,Jk];omega⟩
 ·exact h
theorem Good.recd {s:S} (h:Good s) (k:Int) (p:LB):Good (recS s k p):=by
 unfold recS
 split
 ·rename_i h0;unfold recE at h0
  split at h0
  ·cases h0
  ·rename_i h1
   split at h0
   ·cases h0
   ·have h1:2 < k∧k≤255∧p.length≤65536:=Xp.1 h1;refine ⟨h.fine,h.win,h.kl,h.k32,h.uni,h.aut,fun x hx=> ?_,by simp;omega,h.ck⟩;rcases Jf.1 hx with hx | hx
    ·exact h.fit x hx
    ·rw [Ja.1 hx];exact ⟨by show 0≤k;omega,h1.2.1,h1.2.2⟩
 ·exact h
def start (bk:List Acc.T) (ws:List Win):S:=⟨bk,ws,[],List.replicate ws.length [],0,[]⟩
theorem good_start {bk:List Acc.T} {ws:List Win} (hf:Acc.Fine bk) (hw:ok ws):Good (start bk ws):=⟨hf,hw,by simp [start],fun k hk=> .inl<|List.eq_of_mem_replicate hk,List.Pairwise.nil,fun e he=>by simp [start] at he,fun e he=>by simp [start] at he,by simp [start],by show time 0;decide⟩
end Rnd
end Go.Proofs.YtgokpcnabgacnaaGreatDoor
namespace Go.Proofs.YtgokpcnabgacnaaGreatDoor
open Go.RowKit
namespace Sx
def capD (b:LB):D:=⟨fun L w v=>(∃ A,v= .slice A b.length b.length)∧(bD b).R L w v,
 fun h ho hS=>⟨h.1,(bD b).keep h.2 ho hS⟩,fun h hS=>⟨h.1,(bD b).less h.2 hS⟩⟩
section
variable {P:Program}{Γ:Cx}{σ:St}{S:List Nat}{dst:Option Tmp}{ty:TypeId}{pos:String}{af:Array Edge}{gd:Option (Nat × Bool)}
theorem Ef.markK {x:Operand} {T e k c:Nat} {A:Option Addr} {F:LN} {b:LB} (j:Nat) (hx:σ.ev x=some (isD<|.slice A b.length c)) (hj:σ.bx[j]? =some (.r F<|yP e 1 Yt A c b)) (hT:ZS P T e=true) (he:zhY P e .u8=true) (h0:0 < b.length) (hc:c=b.length) (hS:∀ g∈F,g∈S) (hk:yE Γ.nt k=true):
  Ef P Γ S ⟨some k,.convert T T x,ty,pos,af,gd⟩ σ (fun σ'=>σ'=(⟨σ.tm,Zk σ.bx 0 [j]⟩:St).put k (capD b)):=by
 subst hc;intro a w hh K Q hK;have hxv:a.eval x= .slice A b.length b.length:=zT hh hx;obtain ⟨g,cur,xs,rfl,rfl,hg,hnc,hm,hcs,htk,hxl,ha⟩:=VA (hh.resAt hj) h0
 have hsh:w.shape? g=some (e,cur.size):=by simp [World.shape?,hg]
 have e2:(execOp a.eval ⟨some k,.convert T T x,ty,pos,af,gd⟩).run P w= .ok (.value<|.slice (some ⟨g,0,none⟩) b.length b.length) (w.freeze ⟨g,cur.size,none⟩ 1):=by
  simp [execOp,hxv,convert,Jp<|yo hT,Jp<|qt he,markStringish,hsh]
 unfold Oper.wp;rw [e2];have ho:Only [g] w (w.freeze ⟨g,cur.size,none⟩ 1):=zaK;have hmem:=Jc hj
 have h1:Holds Γ ⟨σ.tm,Zk σ.bx 0 [j]⟩ a (w.freeze ⟨g,cur.size,none⟩ 1):=by
  refine hh.swap ho (fun x hx=>yD.2 ⟨_,hmem,hx⟩) (fun b' hb'=> .inl ⟨jN hb',fun x hx hm=> ?_⟩) (fun x hx=> .inl<|ZX hx) (YT hh.nd);have h2:=qj hh hj (g:=x) hx;exact h2 (mL _<|yD.2 ⟨b',hb',hm⟩)
 have hoff:=qj hh hj (g:=g) (m9 rfl);rw [Y9] at ha;have hxs:=jj ha;subst hxs;refine hK _ _ _ V (h1.put (by simpa [yE] using hk) ⟨⟨_,V⟩,some ⟨g,0,none⟩,b.length,by rw [zx],by rw [zx];exact hnc,fun _=>⟨g,0,rfl,?_,fun i hi=> ?_⟩,fun _ p hp hm=> ?_⟩) (ho.mono (fun x hx _=>hS x hx))
 ·exact Ju (Jn.1 hg).1 ho.size
 ·rw [zbt,JF]
  have hb:w.cell? ⟨g,i,none⟩=cur[i]? :=by simp [World.cell?,hg]
  rw [hb,← htk,JP]
  have:i < b.length * 1:=by simpa using hi
  rw [Jh this];simp
 ·injection hp with hp;subst hp;exact hoff hm
theorem rv_add {A:Option Addr} {w:World} {b:LB} (h:RV w A (cellsOf b)) (h0:0 < b.length):∃ p,A=some p∧∀ (j:Nat) v,(cellsOf b)[j]? =some v→w.cell? (p.add j)=some v:=by
 obtain ⟨g,o,e,_,hc⟩:=h (by simpa using h0);refine ⟨_,e,fun j v hv=> ?_⟩;have hj:=(Jg.1 hv).1;rw [Xg,hc j hj,hv]
theorem Ef.appK {x y:Operand} {T e k:Nat} {b b':LB} (hx:σ.ev x=some (capD b)) (hy:σ.ev y=some (bD b')) (h0:0 < b.length) (h1:0 < b'.length) (hT:ZS P T e=true) (hE:elT P e 1 1=true) (hlen:b.length + b'.length≤1099511627776) (hk:yE Γ.nt k=true):
  Ef P Γ S ⟨some k,.call { callee:= .builtin .append,args:= #[x,y],argTypes:= #[T,T] },ty,pos,af,gd⟩ σ (fun σ'=>∃ g c,σ'=(⟨σ.tm,σ.bx ++ [.r [g]<|yP e 1 Yt (some ⟨g,0,none⟩) c<|b ++ b']⟩:St).put k (isD<|.slice (some ⟨g,0,none⟩) (b ++ b').length c)):=by
 intro a w hh K Q hK;obtain ⟨⟨A,hxv⟩,hb⟩:=zT hh hx;obtain ⟨A1,c1,e1,_,hr1⟩:=KN hb;rw [hxv] at e1;injection e1 with e1 _ _;subst e1;obtain ⟨B,c2,hyv,_,hr2⟩:=KN (zT hh hy);obtain ⟨p,rfl,hp⟩:=rv_add hr1 h0;obtain ⟨q,rfl,hq⟩:=rv_add hr2 h1;obtain ⟨i,z,hI,i1,i2,i3,i4⟩:=qR hE;have hrun:=run_append_grow (P:=P) w T ty e i z (yo hT) hI i3 p b.length b.length (cellsOf b) (by rw [i1];simp) hp q b'.length c2 (cellsOf b') (by rw [i1];simp) hq o9 o9 (growslice_fits o9 (by rw [i2];omega));obtain ⟨cp,hcp⟩:∃ cp,cp=grownCap w (b.length + b'.length) b.length e:=⟨_,rfl⟩
 have hge:b.length + b'.length≤cp:=by rw [hcp];exact grownCap_ge _ _ _ _
 have hle:cp≤maxLen:=by rw [hcp];exact grownCap_le_maxLen _ _ _ _ (by simp only [maxLen];omega)
 rw [← hcp] at hrun
 have e2:(execOp a.eval ⟨some k,.call { callee:= .builtin .append,args:= #[x,y],argTypes:= #[T,T] },ty,pos,af,gd⟩).run P w= .ok (.value<|.slice (some ⟨w.heap.size,0,none⟩) (b.length + b'.length) cp) (w.drew.alloc<|.cells ((cellsOf b).toArray ++ (cellsOf b').toArray ++ Builtin.zeroCells z.cells (cp - (b.length + b'.length))) e):=by
  simp only [execOp,resolve,invoke,builtin,JD,JK,Jv,List.map_toArray,JU,XC,hxv,hyv,hrun]
 have hOn:Only [] w (w.drew.alloc<|.cells ((cellsOf b).toArray ++ (cellsOf b').toArray ++ Builtin.zeroCells z.cells (cp - (b.length + b'.length))) e):=((Only.refl [] w).drew).alloc _
 have hcl:(cellsOf b ++ cellsOf b').length=(b ++ b').length * 1:=by simp
 have h6:=hh.more hOn (b:= .r [w.heap.size]<|yP e 1 Yt (some ⟨w.heap.size,0,none⟩) cp<|b ++ b') ⟨cellsOf b ++ cellsOf b',by rw [Y9,show cellsOf (b ++ b')=cellsOf b ++ cellsOf b' by simp [cellsOf]];exact qN _,⟨hcl,.inr ⟨w.heap.size,cp,_,rfl,JC _,Xw w.drew _,by rw [Jk];exact hge,hle,by simp [Builtin.zeroCells,i4];omega,by
  rw [← hcl,Array.toList_append,Array.toList_append]
  exact List.take_left⟩⟩,V⟩ (fun g hg=>by rw [Ja.1 hg];exact Js _) (by simp [Box.fp])
 unfold Oper.wp;rw [e2];exact hK _ _ _ ⟨_,_,V⟩ (h6.put (by simpa [yE] using hk) (show Value.slice _ _ _=Value.slice _ _ _ by rw [Jk])) (hOn.mono (fun x hx _=>by cases hx))
end
section
variable {P:Program}{Γ:Cx}{σ σ':St}{S:List Nat}{l:List Oper}{Q:Exit→Act→World→Prop}{tz uz:Reg.Tz}{k:Nat}{op:Op}{ty:TypeId}{pos:String}{af:Array Edge}
