/- LEDGERS: the walk of an inclusion path. LEDGERS: Consistency. LEDGERS: the reference, digests. LEDGERS: the reference, paths. LEDGERS: encodings, Appe -/
import Derived.Test.YtgokpcnabgacnaaGreatDoorGZAR
import Derived.Test.YtgokpcnabgacnaaGreatDoorGZAG
import Derived.Test.YtgokpcnabgacnaaGreatDoorGZAQ
set_option maxHeartbeats 8000000
set_option maxRecDepth 100000
namespace Go.Proofs.YtgokpcnabgacnaaGreatDoor
open Go.RowKit
namespace Sx
structure Vst where
 A:Option Addr
 c:Nat
 F:LN
def encLn (n0:Nat) (d:LB):List D:=[nwD n0 (bD d)]
instance (n0:Nat):Row (encLn n0) 1:=⟨fun _=>rfl,fun x=>by unfold encLn;infer_instance,by decide⟩
def Led.Ent.fit (e:Led.Ent):Prop:=0≤e.kind∧e.kind≤255∧e.bytes.length≤65536
def be4 (n:Nat):LB:=[UInt8.ofNat (n / 16777216),UInt8.ofNat (n / 65536),UInt8.ofNat (n / 256),UInt8.ofNat n]
def encF (e:Led.Ent):LB:=(UInt8.ofNat e.kind.toNat :: be4 e.bytes.length) ++ e.bytes
def encAll (l:List Led.Ent):LB:=l.flatMap encF
def szs (l:List Led.Ent):Nat:=(l.map fun e=>5 + e.bytes.length).sum
theorem szs_snoc (l:List Led.Ent) (e:Led.Ent):szs (l ++ [e])=szs l + (5 + e.bytes.length):=by simp [szs]
theorem encAll_len (l:List Led.Ent):(encAll l).length=szs l:=by
 induction l with
 | nil=>rfl
 | cons e l ih=>
  have h1:encAll (e :: l)=encF e ++ encAll l:=rfl
  have h2:szs (e :: l)=(5 + e.bytes.length) + szs l:=by simp [szs]
  rw [h1,h2,List.length_append,ih];simp [encF,be4];omega
theorem szs_le:∀ (l:List Led.Ent),(∀ e∈l,Led.Ent.fit e)→szs l≤65541 * l.length
 | [],_=>by simp [szs]
 | e :: l,h=>by
  have h1:=szs_le l (fun x hx=>h x (by simp [hx]));have h2:=(h e s9).2.2
  have h3:szs (e :: l)=(5 + e.bytes.length) + szs l:=by simp [szs]
  rw [h3,List.length_cons];omega
theorem take_snoc_l {α:Type} {l:List α} {i:Nat} {e:α} (h:l[i]? =some e):l.take (i + 1)=l.take i ++ [e]:=by
 obtain ⟨h1,h2⟩:=List.getElem?_eq_some_iff.1 h;rw [← h2,List.take_succ_eq_append_getElem h1]
theorem wrap_b8n (m:Nat):IntKind.u8.wrap (m:Int)=((UInt8.ofNat m).toNat:Int):=by
 have:IntKind.u8.wrap (m:Int)=(m:Int) % 256:=by simp [IntKind.wrap,IntKind.signed,IntKind.bits]
 rw [this];simp
theorem shr_n (m k:Nat) (hk:k < 64):(m:Int) / 2 ^ (min k IntKind.i64.bits)=((m / 2 ^ k:Nat):Int):=by
 rw [Nat.min_eq_left (by simp [IntKind.bits];omega)];simp
theorem allc {L:LN} {w:World} {d:D} {ds:List D}:∀ {vs:List Value},All L w (d :: ds) vs→∃ u us,vs=u :: us∧d.R L w u∧All L w ds us
 | [],h=>h.elim
 | u :: us,h=>⟨u,us,rfl,h.1,h.2⟩
theorem blsB5 (a b c d e:UInt8):Bls Tryz.prog 24 5 [0,1,2,3,4] [isD (B8 a),isD (B8 b),isD (B8 c),isD (B8 d),isD (B8 e)] ([a,b,c,d,e].flatMap ZP):=⟨5,fun L w vs hv=>by
 obtain ⟨u,v1,rfl,rfl,h1⟩:=allc hv;obtain ⟨v,v2,rfl,rfl,h2⟩:=allc h1;obtain ⟨x,y,z,rfl,rfl,rfl,rfl⟩:=all3 h2
 exact ⟨[B8 a,B8 b,B8 c,B8 d,B8 e],⟨V,V,V,V,V,t9⟩,fun w'=>by kernel_rfl⟩⟩
theorem encAll_snoc {l:List Led.Ent} {i:Nat} {e:Led.Ent} (h:l[i]? =some e):encAll (l.take (i + 1))=encAll (l.take i) ++ [UInt8.ofNat e.kind.toNat,UInt8.ofNat (e.bytes.length / 16777216),UInt8.ofNat (e.bytes.length / 65536),UInt8.ofNat (e.bytes.length / 256),UInt8.ofNat e.bytes.length] ++ e.bytes:=by
 rw [take_snoc_l h];simp [encAll,encF,be4]
theorem szs_take {l:List Led.Ent} {i:Nat} {e:Led.Ent} (h:l[i]? =some e):szs (l.take (i + 1))=szs (l.take i) + (5 + e.bytes.length):=by rw [take_snoc_l h,szs_snoc]
theorem szs_tk (l:List Led.Ent) (hv:∀ e∈l,Led.Ent.fit e) (i:Nat):szs (l.take i)≤65541 * l.length:=by
 have h1:=szs_le (l.take i) (fun e he=>hv e (List.mem_of_mem_take he))
 have h2:(l.take i).length≤l.length:=by simp;omega
 omega
def yX (es:List Led.Ent) (k:Int) (b:LB):Int:=if 0≤k∧k≤255∧b.length≤65536 then (if es.length < 4096 then 0 else 7) else 2
def Led.app (es:List Led.Ent) (k:Int) (b:LB):List Led.Ent:=if 0≤k∧k≤255∧b.length≤65536 then (if es.length < 4096 then es ++ [⟨k,b⟩] else es) else es
def YF (es:List Led.Ent) (k:Int) (b:LB):Int:=if 0≤k∧k≤255∧b.length≤65536 then (if es.length < 4096 then (es.length:Int) else 0) else 0
theorem YK {es:List Led.Ent} {k:Int} {b:LB} (h:¬(0≤k∧k≤255∧b.length≤65536)):Led.app es k b=es∧yX es k b=2∧YF es k b=0:=⟨if_neg h,if_neg h,if_neg h⟩
theorem ZN {es:List Led.Ent} {k:Int} {b:LB} (h:0≤k∧k≤255∧b.length≤65536) (h2:¬es.length < 4096):Led.app es k b=es∧yX es k b=7∧YF es k b=0:=⟨by rw [Led.app,if_pos h,if_neg h2],by rw [yX,if_pos h,if_neg h2],by rw [YF,if_pos h,if_neg h2]⟩
theorem Yt {es:List Led.Ent} {k:Int} {b:LB} (h:0≤k∧k≤255∧b.length≤65536) (h2:es.length < 4096):Led.app es k b=es ++ [⟨k,b⟩]∧yX es k b=0∧YF es k b=es.length:=⟨by rw [Led.app,if_pos h,if_pos h2],by rw [yX,if_pos h,if_pos h2],by rw [YF,if_pos h,if_pos h2]⟩
instance:DecidablePred Led.Ent.fit:=fun e=>by unfold Led.Ent.fit;infer_instance
theorem take_all {α:Type} {l:List α} {i:Nat} (h:l.length≤i):l.take i=l:=List.take_of_length_le h
instance ones_te (e:Led.Ent):Ones (List.take 2 (encE e)):=by unfold encE;show Ones [iD _,bD _];infer_instance
theorem con_encode (es:List Led.Ent) (hv:∀ e∈es,Led.Ent.fit e) (hn:es.length≤100000):ConN Tryz.prog 42 [ledD es] (bD (encAll es)):=by
 refine yJ Tryz.func42 k9 V k9 fun base w0=>(zh (zb (za V (zg V) (zf (zc (zh (zh (zb (za V (ze V) (za V (Rd.eqPA V V k9) (zf (zc (zB V (V) (zu (zc (zh (zb (za V (zg V) (zf (zc (zh (zh (zb (za V (ze V) (za V (yx V) (za V (yk (n:=0) V k9 (show 0 < 2 by decide)) (za rfl (yi rfl rfl k9 s9) (za rfl (Zw (e:=85) rfl k9) (za rfl (ze rfl) (zf (zc (zV (Zk (ι:={i:Nat // i≤es.length}) (fun i=>zK [(0,ledD es),(3,iD ((szs (es.take i.1):Nat):Int)),(15,lsD encE es),(16,iD (es.length:Int)),(17,iD (i.1:Int))] []) (fun i=>es.length - i.1) (⟨0,by omega⟩) ?_ ?_)))))))))))))))))))))))))))))))))
 ·exact (sB [] V V)
 ·rintro ⟨i,hi⟩ K0 hK0;dsimp only;have hs:=szs_tk es hv i;refine zh (zb (za V (yG V V) (zf (zc (zh (zI V (fun hb18=> ?_) (fun hb18=> ?_)))))))
  ·have hb18:=oT hb18;refine zu (zc (zh (zV (zh (zb ?_)))));obtain ⟨e,he⟩:∃ e,es[i]? =some e:=⟨_,List.getElem?_eq_getElem o9⟩;have hf:=hv e (List.mem_of_getElem? he);refine za V (yH (e:=85) 2 V V k9 k9 o9 (by simpa using he)) (za V (Ym 2 V k9 d9 (show 2≤2 by decide) s9) (zl (S:=[]) (zH (zs:=[.int .i64 0,.slice none 0 0]) k9 rfl) ?_));rintro _ ⟨g5,rfl⟩;refine zl (S:=[_]) (zC 0 V V V k9 V (m9 V)) ?_;rintro _ rfl;exact zf (zc (zb (za V (ze V) (za V (zi (n:=1) V k9) (za V (zj 0 V V V k9 zn) (za V (Zq (e:=5) V k9) (za V (yM V V ⟨by simp;omega,by have:=hf.2.2;simp;omega⟩) (za rfl (yM rfl rfl ⟨by simp;omega,by have:=hf.2.2;simp;omega⟩) (za rfl (zg rfl) (zf (yf (zc (zb (za rfl (yM rfl rfl ⟨by omega,by omega⟩) (za rfl (ze rfl) (zf (fun a w hh=>hK0 (⟨i + 1,by omega⟩) (by simp only;omega) a w (hh.sub (⟨⟨_,rfl,⟨lq rfl,⟨⟨_,rfl,zE (by rw [szs_take he];simp)⟩,(sT rfl)⟩⟩⟩,[],by decide,trivial⟩)))))))))))))))))))
  ·have hb18:=oF hb18;refine yW ?_
   repeat (first | refine Za ?_ | refine Zb d9 ?_)
   refine Zi (zc (zh (zb (za V (ze V) (zl (S:=[]) (Ef.makeT (e:=5) (c:=szs es) ZP 1 1 V V k9 k9 (by rw [take_all o9]) (by have:=szs_tk es hv es.length;rw [List.take_length] at this;omega) d9 V) ?_)))));rintro _ ⟨g29,rfl⟩;refine za V (zg V) (zf (zc (zh (zh (zb (za V (ze V) (za V (yx V) (za V (yk (n:=0) V k9 (show 0 < 2 by decide)) (za rfl (yi rfl rfl k9 s9) (za rfl (Zw (e:=85) rfl k9) (za rfl (ze rfl) (zf (zc (zV (Zk (ι:={p:Nat × Vst // p.1≤es.length}) (fun p=>zK [(6,isD (.slice p.1.2.A (encAll (es.take p.1.1)).length p.1.2.c)),(33,lsD encE es),(34,iD (es.length:Int)),(35,iD (p.1.1:Int))] [.r p.1.2.F (yj 5 1 ZP p.1.2.A p.1.2.c (encAll (es.take p.1.1)))]) (fun p=>es.length - p.1.1) (⟨(0,⟨some ⟨g29,0,none⟩,szs es,[g29]⟩),by simp⟩) ?_ ?_)))))))))))))))
   ·exact (sB [0] V V)
   ·rintro ⟨⟨j,s⟩,hj⟩ K1 hK1;dsimp only at hj ⊢;refine zh (zb (za V (yG V V) (zf (zc (zh (zI V (fun hb36=> ?_) (fun hb36=> ?_)))))))
    ·have hb36:=oT hb36;refine zu (zc (zh (zV (zh (zb ?_)))));obtain ⟨e,he⟩:∃ e,es[j]? =some e:=⟨_,List.getElem?_eq_getElem o9⟩;have hf:=hv e (List.mem_of_getElem? he);refine za V (yH (e:=85) 2 V V k9 k9 o9 (by simpa using he)) (za V (Ym 2 V k9 d9 (show 2≤2 by decide) s9) (zl (S:=[]) (zH (zs:=[.int .i64 0,.slice none 0 0]) k9 rfl) ?_));rintro _ ⟨g8,rfl⟩;refine zl (S:=[_]) (zC 1 V V V k9 V (m9 V)) ?_;rintro _ rfl;refine zf (zc (zh (zb (za V (zi (n:=1) V k9) (za V (zj 1 V V V k9 zn) (za V (Zq (e:=5) V k9) (za V (zg V) (zf (zc (zh (zb (za V (ze V) (za V (zi (n:=0) V k9) (za V (zj 1 V V V k9 zn) (za V (Ye .i64 V k9 k9 (wrap_b8 hf.1 hf.2.1)) (za V (ze V) (za V (Rd.shrW (s:=24) V V (shr_n _ _ d9)) (za V (Ye .i64 V k9 k9 (wrap_b8n _)) (za V (ze V) (za V (Rd.shrW (s:=16) V V (shr_n _ _ d9)) (za V (Ye .i64 V k9 k9 (wrap_b8n _)) (za V (ze V) (za V (Rd.shrW (s:=8) V V (shr_n _ _ d9)) (za V (Ye .i64 V k9 k9 (wrap_b8n _)) (za V (ze V) (za V (Ye .i64 V k9 k9 (wrap_b8n _)) (zl (S:=[]) (ZB V V (blsB5 _ _ _ _ _) V) ?_)))))))))))))))))))))))))))
     rintro _ rfl;refine zl (Zf 0 1 1 V V (SrcT.ls (l:=[_,_,_,_,_]) V) k9 k9 (by have:=szs_tk es hv j;have:=encAll_len (es.take j);have:=hf.2.2;simp;omega) d9 (fun _ h=>h) V) ?_;rintro _ ⟨A58,F58,c58,rfl⟩;refine za V (zg V) (zf (zc (zb (za V (ze V) (za V (zi (n:=1) V k9) (za V (zj 0 V V V k9 zn) (zl (Zf 1 1 1 V V (SrcT.b V) k9 k9 (by have:=szs_tk es hv j;have:=encAll_len (es.take j);have:=hf.2.2;simp;omega) d9 (fun _ h=>h) V) ?_)))))));rintro _ ⟨A62,F62,c62,rfl⟩;refine za V (zg V) (zf (yf (zc (zb (za V (yM V V ⟨by omega,by omega⟩) (za rfl (ze rfl) (zf ?_)))))))
     have henc:encAll (es.take (j + 1))=(encAll (es.take j) ++ [UInt8.ofNat e.kind.toNat,UInt8.ofNat ((cellsOf e.bytes).length / 2 ^ 24),UInt8.ofNat ((cellsOf e.bytes).length / 2 ^ 16),UInt8.ofNat ((cellsOf e.bytes).length / 2 ^ 8),UInt8.ofNat (cellsOf e.bytes).length]) ++ e.bytes:=by rw [encAll_snoc he,zw]
     exact fun a w hh=>hK1 (⟨(j + 1,⟨A62,c62,F62⟩),by simp only;omega⟩) (by simp only;omega) a w (hh.sub (⟨⟨_,rfl,⟨⟨_,rfl,zE (by rw [henc])⟩,(sT rfl)⟩⟩,[1],by decide,⟨⟨_,rfl,Z9 (by rw [henc]) (by rw [henc])⟩,trivial⟩⟩))
    ·have hb36:=oF hb36;refine yW ?_
     repeat (first | refine Za ?_ | refine Zb d9 ?_)
     refine Zi (zc (zh (zb (za V (ze V) (za V (zg V) (zf (zc (SW.freezeNB 0 2 V V V (zR (fn:=Tryz.f42) (fun _ _ h=>h) (Rs.le (Rs.one V (zp V)) ?_))))))))));rw [take_all o9];exact zd _
theorem con_append_bad (gl:Nat) (s:Lst) (es es':List Led.Ent) (k:Int) (b:LB) (A:Option Addr) (c:Nat) (F:LN) (R:Res) (hR:YB R (.slice A b.length c) (cellsOf b)) (hn:es.length≤100000) (he:es'=Led.app es k b) (h:¬(0≤k∧k≤255∧b.length≤65536)):ConR Tryz.prog 35 [.c gl [isD (.slice s.A (es).length s.c),isD (.map s.M)],ledE s (es),ledM s (es),.r F R] [pA gl,Zn [iD k,isD (.slice A b.length c)]] (fun t:Lst=>[.c gl [isD (.slice t.A (es').length t.c),isD (.map t.M)],ledE t (es'),ledM t (es'),.r F R]) (fun t:Lst=>Yv [iD (YF es k b),iD (yX es k b)]):=by
 refine zW Tryz.func35 k9 V k9 fun base w0=>(zh (zb (zl (S:=[]) (yV V V) ?_)));rintro _ ⟨g3,rfl⟩;refine za V (zg V) (za V (zg V) (zf (zc (zh (zh (zb (za V (ze V) (za V (YO V V k9) (zf (zc (zB V (V) (zu (zc (zh (zh (zb (za V (zG 4 2 V V k9 V zn) (zl (S:=[]) (zz [] (con_valid k b.length) V ⟨(zq (ZV ⟨zd _,le_is_len,t9⟩)),t9⟩ V) ?_))))))))))))))))));rintro _ rfl;refine za V (yL V) (zf (zc (yd V (by simp [h]) (zh (zb (za V (zg V) (za V (zg V) (zf (zc (zJ (fn:=Tryz.f35) (s) [0,1,2,3] (fun _ _ h=>h) (Rs.le (yN V (zp V) (zp V)) ?_) d9 ⟨⟨_,V,⟨zE (by rw [he,(YK h).1]),zd _,t9⟩⟩,⟨⟨_,V,Z9 (by rw [he,(YK h).1]) (by rw [he,(YK h).1])⟩,⟨⟨_,V,leMap (by rw [he,(YK h).1]) (by rw [he,(YK h).1])⟩,⟨lR V,t9⟩⟩⟩⟩))))))))));exact Zc ⟨zE (by rw [(YK h).2.2]),zE (by rw [(YK h).2.1]),t9⟩
theorem con_append_full (gl:Nat) (s:Lst) (es es':List Led.Ent) (k:Int) (b:LB) (A:Option Addr) (c:Nat) (F:LN) (R:Res) (hR:YB R (.slice A b.length c) (cellsOf b)) (hn:es.length≤100000) (he:es'=Led.app es k b) (h:0≤k∧k≤255∧b.length≤65536) (h2:¬es.length < 4096):ConR Tryz.prog 35 [.c gl [isD (.slice s.A (es).length s.c),isD (.map s.M)],ledE s (es),ledM s (es),.r F R] [pA gl,Zn [iD k,isD (.slice A b.length c)]] (fun t:Lst=>[.c gl [isD (.slice t.A (es').length t.c),isD (.map t.M)],ledE t (es'),ledM t (es'),.r F R]) (fun t:Lst=>Yv [iD (YF es k b),iD (yX es k b)]):=by
 refine zW Tryz.func35 k9 V k9 fun base w0=>(zh (zb (zl (S:=[]) (yV V V) ?_)));rintro _ ⟨g3,rfl⟩;refine za V (zg V) (za V (zg V) (zf (zc (zh (zh (zb (za V (ze V) (za V (YO V V k9) (zf (zc (zB V (V) (zu (zc (zh (zh (zb (za V (zG 4 2 V V k9 V zn) (zl (S:=[]) (zz [] (con_valid k b.length) V ⟨(zq (ZV ⟨zd _,le_is_len,t9⟩)),t9⟩ V) ?_))))))))))))))))));rintro _ rfl;refine za V (yL V) (zf (zc (zB V (by simp;omega) (zu (zc (zh (zh (zb (za V (ze V) (za V (zt V) (za V (zi (n:=0) V k9) (za V (zj 0 V V V k9 zn) (za V (YJ (e:=85) V k9) (za V (Z5 V V) (zf (zc (yd V (by simp;omega) (zh (zb (za V (zg V) (za V (zg V) (zf (zc (zJ (fn:=Tryz.f35) (s) [0,1,2,3] (fun _ _ h=>h) (Rs.le (yN V (zp V) (zp V)) ?_) d9 ⟨⟨_,V,⟨zE (by rw [he,(ZN h h2).1]),zd _,t9⟩⟩,⟨⟨_,V,Z9 (by rw [he,(ZN h h2).1]) (by rw [he,(ZN h h2).1])⟩,⟨⟨_,V,leMap (by rw [he,(ZN h h2).1]) (by rw [he,(ZN h h2).1])⟩,⟨lR V,t9⟩⟩⟩⟩))))))))))))))))))))))))
 exact Zc ⟨zE (by rw [(ZN h h2).2.2]),zE (by rw [(ZN h h2).2.1]),t9⟩
theorem con_append_ok (gl:Nat) (s:Lst) (es es':List Led.Ent) (k:Int) (b:LB) (A:Option Addr) (c:Nat) (F:LN) (R:Res) (hR:YB R (.slice A b.length c) (cellsOf b)) (hn:es.length≤100000) (he:es'=Led.app es k b) (h:0≤k∧k≤255∧b.length≤65536) (h2:es.length < 4096):ConR Tryz.prog 35 [.c gl [isD (.slice s.A (es).length s.c),isD (.map s.M)],ledE s (es),ledM s (es),.r F R] [pA gl,Zn [iD k,isD (.slice A b.length c)]] (fun t:Lst=>[.c gl [isD (.slice t.A (es').length t.c),isD (.map t.M)],ledE t (es'),ledM t (es'),.r F R]) (fun t:Lst=>Yv [iD (YF es k b),iD (yX es k b)]):=by
 refine zW Tryz.func35 k9 V k9 fun base w0=>(zh (zb (zl (S:=[]) (yV V V) ?_)));rintro _ ⟨g3,rfl⟩;refine za V (zg V) (za V (zg V) (zf (zc (zh (zh (zb (za V (ze V) (za V (YO V V k9) (zf (zc (zB V (V) (zu (zc (zh (zh (zb (za V (zG 4 2 V V k9 V zn) (zl (S:=[]) (zz [] (con_valid k b.length) V ⟨(zq (ZV ⟨zd _,le_is_len,t9⟩)),t9⟩ V) ?_))))))))))))))))));rintro _ rfl;refine za V (yL V) (zf (zc (zB V (by simp;omega) (zu (zc (zh (zh (zb (za V (ze V) (za V (zt V) (za V (zi (n:=0) V k9) (za V (zj 0 V V V k9 zn) (za V (YJ (e:=85) V k9) (za V (Z5 V V) (zf (zc (zB V (by simp;omega) (zu (zc (zh (zb (za V (ze V) (za V (zG 4 2 V V k9 V zn) (zl (zx [0,1,2,3] (con_push gl s es _ k b A c F R hR o9 ⟨h.1,h.2.1⟩ hn V) V ⟨zd _,zd _,t9⟩ d9 (sX V) (fun _ h=>h) V) ?_))))))))))))))))))))))));rintro _ ⟨s2,rfl⟩
 refine zf (zc (zh (zb (za V (ze V) (za V (zt V) (za V (zi (n:=0) V k9) (za V (zj 1 V V V k9 zn) (za V (YJ (e:=85) V k9) (za V (Rd.subi V V ⟨by simp <;> omega,by simp <;> omega⟩) (za rfl (zg rfl) (za rfl (zg rfl) (zf (zc (zJ (fn:=Tryz.f35) (s2) [1,2,3,4] (fun _ _ h=>h) (Rs.le (yN rfl (zp rfl) (zp rfl)) ?_) d9 ⟨⟨_,rfl,⟨zE (by rw [he,(Yt h h2).1]),zd _,trivial⟩⟩,⟨⟨_,rfl,Z9 (by rw [he,(Yt h h2).1]) (by rw [he,(Yt h h2).1])⟩,⟨⟨_,rfl,leMap (by rw [he,(Yt h h2).1]) (by rw [he,(Yt h h2).1])⟩,⟨lR rfl,trivial⟩⟩⟩⟩))))))))))))))
 exact Zc ⟨zE (by rw [(Yt h h2).2.2];simp),zE (by rw [(Yt h h2).2.1]),t9⟩
theorem con_append (gl:Nat) (s:Lst) (es es':List Led.Ent) (k:Int) (b:LB) (A:Option Addr) (c:Nat) (F:LN) (R:Res) (hR:YB R (.slice A b.length c) (cellsOf b)) (hn:es.length≤100000) (he:es'=Led.app es k b):
  ConR Tryz.prog 35 [ledC gl s es,ledE s es,ledM s es,.r F R] [pA gl,Zn [iD k,isD (.slice A b.length c)]] (fun s:Lst=>[ledC gl s es',ledE s es',ledM s es',.r F R]) (fun _=>Yv [iD (YF es k b),iD (yX es k b)]):=by
 by_cases h:0≤k∧k≤255∧b.length≤65536
 ·by_cases h2:es.length < 4096
  ·exact con_append_ok gl s es es' k b A c F R hR hn he h h2
  ·exact con_append_full gl s es es' k b A c F R hR hn he h h2
 ·exact con_append_bad gl s es es' k b A c F R hR hn he h
end Sx
end Go.Proofs.YtgokpcnabgacnaaGreatDoor
namespace Go.Proofs.YtgokpcnabgacnaaGreatDoor
open Go.ChangeShapes Go.WideShapes Go.ChangeAt Go.RowKit
namespace Sx
instance:Inhabited Led.Ent:=⟨⟨0,[]⟩⟩
end Sx
end Go.Proofs.YtgokpcnabgacnaaGreatDoor
namespace Go.Proofs.YtgokpcnabgacnaaGreatDoor
open Go.RowKit
open Sx
namespace Rnd
structure Win where
 st:Int
 en:Int
 rv:Int
 cm:LB
instance:Inhabited Win:=⟨⟨0,0,0,[]⟩⟩
def okW (b:Int) (w:Win):Prop:=b≤w.st∧w.st < w.en∧w.en≤w.rv∧w.rv≤1099511627776∧w.cm.length=32
instance (b:Int) (w:Win):Decidable (okW b w):=by unfold okW;infer_instance
def okL:Int→List Win→Prop
 | _,[]=>True
 | b,w :: l=>okW b w∧okL w.en l
instance decOkL:∀ (b:Int) (l:List Win),Decidable (okL b l)
 | _,[]=>isTrue trivial
 | b,w :: l=> @instDecidableAnd _ _ _ (decOkL w.en l)
def ok (l:List Win):Prop:=(1≤l.length∧l.length≤500)∧okL 0 l
instance (l:List Win):Decidable (ok l):=by unfold ok;infer_instance
def before (l:List Win) (i:Nat):Int:=if i=0 then 0 else (l.getD (i - 1) default).en
theorem before_succ {l:List Win} {i:Nat} {w:Win} (h:l[i]? =some w):before l (i + 1)=w.en:=by
 unfold before;rw [if_neg o9,Nat.add_sub_cancel,List.getD_eq_getElem?_getD,h]
 rfl
theorem okL_step {l:List Win} {i:Nat} {w:Win} (h:l[i]? =some w):okL (before l i) (l.drop i)↔okW (before l i) w∧okL (before l (i + 1)) (l.drop (i + 1)):=by
 obtain ⟨h1,h2⟩:=List.getElem?_eq_some_iff.1 h;rw [before_succ h,List.drop_eq_getElem_cons h1,h2]
 rfl
theorem okL_all (l:List Win) (b:Int):okL b (l.drop l.length):=by rw [List.drop_length];trivial
structure S where
 bk:List Acc.T
 ws:List Win
 es:List Env.T
 ks:List LB
 ck:Int
 en:List Led.Ent
def kyAt (ks:List LB) (r:Nat):LB:=ks.getD r []
def winAt (ws:List Win) (r:Nat):Win:=ws.getD r default
def stOf (w:Win) (k:LB) (now:Int):Int:=if k≠[] then 4 else if now < w.st then 1 else if now < w.en then 2 else 3
def st (s:S) (r:Nat) (now:Int):Int:=stOf (winAt s.ws r) (kyAt s.ks r) now
theorem winAt_some {ws:List Win} {r:Nat} {w:Win} (h:ws[r]? =some w):winAt ws r=w:=by unfold winAt;rw [List.getD_eq_getElem?_getD,h];rfl
def has (s:S) (r:Int):Prop:=0≤r∧r < (s.ws.length:Int)
instance (s:S) (r:Int):Decidable (has s r):=by unfold has;infer_instance
def time (now:Int):Prop:=0≤now∧now≤1099511627776
instance (now:Int):Decidable (time now):=by unfold time;infer_instance
def atE (s:S) (r now:Int):Int:=if ¬time now then 2 else if ¬has s r then 3 else 0
def atS (s:S) (r now:Int):Int:=if atE s r now=0 then st s r.toNat now else 0
def rks (ks:List LB):List Int:=((List.range ks.length).filter fun i=>decide (kyAt ks i≠[])).map (Nat.cast:Nat→Int)
theorem mem_rks {ks:List LB} {r:Int}:r∈rks ks↔0≤r∧kyAt ks r.toNat≠[]:=by
 unfold rks;rw [List.mem_map]
 constructor
 ·rintro ⟨i,hi,rfl⟩;have h:=(List.mem_filter.1 hi).2;simp at h;exact ⟨by omega,by simpa using h⟩
 ·rintro ⟨h0,h⟩;refine ⟨r.toNat,List.mem_filter.2 ⟨List.mem_range.2 ?_,by simpa using h⟩,by omega⟩;apply Classical.byContradiction;intro hn;apply h;unfold kyAt;rw [List.getD_eq_getElem?_getD,List.getElem?_eq_none o9]
  rfl
def same (a b:Env.T):Prop:=a.acc=b.acc∧a.rnd=b.rnd
instance (a b:Env.T):Decidable (same a b):=by unfold same;infer_instance
def subP (e:Env.T) (now:Int):LB:=grp now.toNat ++ Yw (Env.enc e)
def busy (es:List Env.T) (e:Env.T):Prop:=∃ x∈es,same x e∧e.ser≤x.ser
instance (es:List Env.T) (e:Env.T):Decidable (busy es e):=by unfold busy;infer_instance
def subE (s:S) (e:Env.T) (now:Int):Int:=
 if ¬(Env.ok e∧time now) then 2 else if ¬(s.ck≤now∧has s e.rnd) then 3 else if st s e.rnd.toNat now≠2 then 8 else
 if Env.autE s.bk e≠0 then Env.autE s.bk e else if busy s.es e then 11 else if 4096≤s.en.length then 7 else 0
def put (es:List Env.T) (e:Env.T):List Env.T:=(es.filter fun x=>decide (¬same x e)) ++ [e]
def subS (s:S) (e:Env.T) (now:Int):S:=if subE s e now=0 then { s with es:=put s.es e,ck:=now,en:=s.en ++ [⟨1,subP e now⟩] } else s
def revP (r:Int) (key:LB) (now:Int):LB:=grp now.toNat ++ grp r.toNat ++ Yw key
def revE (s:S) (r:Int) (key:LB) (now:Int):Int:=
 if ¬(key.length=32∧time now) then 2 else if ¬(s.ck≤now∧has s r) then 3 else if ¬((winAt s.ws r.toNat).rv≤now∧kyAt s.ks r.toNat=[]) then 8 else
 if Env.comB key≠(winAt s.ws r.toNat).cm then 10 else if 4096≤s.en.length then 7 else 0
def revS (s:S) (r:Int) (key:LB) (now:Int):S:=if revE s r key now=0 then { s with ks:=s.ks.set r.toNat key,ck:=now,en:=s.en ++ [⟨2,revP r key now⟩] } else s
def recE (s:S) (k:Int) (p:LB):Int:=if ¬(2 < k∧k≤255∧p.length≤65536) then 2 else if 4096≤s.en.length then 7 else 0
def recI (s:S) (k:Int) (p:LB):Int:=if recE s k p=0 then (s.en.length:Int) else 0
def recS (s:S) (k:Int) (p:LB):S:=if recE s k p=0 then { s with en:=s.en ++ [⟨k,p⟩] } else s
def keysE (es:List Env.T) (i:Nat):List LB:=(es.filter fun e=>decide (e.rnd=(i:Int))).map Env.T.acc
def getE (es:List Env.T) (i:Nat) (nm:LB):Option Env.T:=es.find? fun e=>decide (e.rnd=(i:Int)∧e.acc=nm)
structure Good (s:S):Prop where
 fine:Acc.Fine s.bk
 win:ok s.ws
 kl:s.ks.length=s.ws.length
 k32:∀ k∈s.ks,k=[]∨k.length=32
 uni:s.es.Pairwise fun a b=>¬same a b
 aut:∀ e∈s.es,Env.autE s.bk e=0∧has s e.rnd
 fit:∀ e∈s.en,Led.Ent.fit e
 len:s.en.length≤4096
 ck:time s.ck
theorem mem_keysE {es:List Env.T} {i:Nat} {nm:LB}:nm∈keysE es i↔∃ e,getE es i nm=some e:=by
 unfold keysE getE;rw [List.mem_map]
 constructor
 ·rintro ⟨e,he,rfl⟩;obtain ⟨h1,h2⟩:=List.mem_filter.1 he;have h3:(es.find? fun x=>decide (x.rnd=(i:Int)∧x.acc=e.acc)).isSome:=List.find?_isSome.2 ⟨e,h1,by simpa using h2⟩;exact Option.isSome_iff_exists.1 h3
 ·rintro ⟨e,he⟩;have h1:=List.find?_some he;have h2:=List.mem_of_find?_eq_some he;simp at h1;exact ⟨e,List.mem_filter.2 ⟨h2,by simpa using h1.1⟩,h1.2⟩
theorem getE_some {es:List Env.T} {i:Nat} {nm:LB} {e:Env.T} (h:getE es i nm=some e):e∈es∧e.rnd=(i:Int)∧e.acc=nm:=by
 have h1:=List.find?_some h;simp at h1;exact ⟨List.mem_of_find?_eq_some h,h1⟩
theorem same_symm {a b:Env.T} (h:same a b):same b a:=⟨h.1.symm,h.2.symm⟩
theorem getE_of {es:List Env.T} (hu:es.Pairwise fun a b=>¬same a b) {i:Nat} {e:Env.T} (he:e∈es) (hi:e.rnd=(i:Int)):getE es i e.acc=some e:=by
 obtain ⟨x,hx⟩:=mem_keysE.1 (List.mem_map.2 ⟨e,List.mem_filter.2 ⟨he,by simpa using hi⟩,rfl⟩:e.acc∈keysE es i);obtain ⟨h1,h2,h3⟩:=getE_some hx
 have:x=e:=by
  apply Classical.byContradiction;intro hne;have hs:same x e:=⟨h3,h2.trans hi.symm⟩;obtain ⟨m,hm,hm2⟩:=List.mem_iff_getElem.1 h1;obtain ⟨n,hn,hn2⟩:=List.mem_iff_getElem.1 he;rcases Nat.lt_trichotomy m n with h | h | h
  ·exact List.pairwise_iff_getElem.1 hu m n hm hn h (by rw [hm2,hn2];exact hs)
  ·subst h;exact hne (hm2.symm.trans hn2)
  ·exact List.pairwise_iff_getElem.1 hu n m hn hm h (by rw [hm2,hn2];exact same_symm hs)
 rw [hx,this]
theorem busy_iff {es:List Env.T} (hu:es.Pairwise fun a b=>¬same a b) {e:Env.T} {i:Nat} (hi:e.rnd=(i:Int)):busy es e↔∃ x,getE es i e.acc=some x∧e.ser≤x.ser:=by
 constructor
 ·rintro ⟨x,hx,hs,hl⟩;have:=getE_of hu hx (hs.2.trans hi);rw [hs.1] at this;exact ⟨x,this,hl⟩
 ·rintro ⟨x,hx,hl⟩;obtain ⟨h1,h2,h3⟩:=getE_some hx;exact ⟨x,h1,⟨h3,h2.trans hi.symm⟩,hl⟩
theorem mem_put {es:List Env.T} {e x:Env.T}:x∈put es e↔x=e∨(x∈es∧¬same x e):=by
 unfold put;rw [List.mem_append,List.mem_singleton,List.mem_filter];simp only [decide_eq_true_eq];exact Or.comm
theorem put_uni {es:List Env.T} (hu:es.Pairwise fun a b=>¬same a b) (e:Env.T):(put es e).Pairwise fun a b=>¬same a b:=by
 unfold put;refine List.pairwise_append.2 ⟨hu.filter _,List.pairwise_singleton _ _,fun a ha b hb=> ?_⟩;rw [List.mem_singleton.1 hb];simpa using (List.mem_filter.1 ha).2
theorem find_filter {α:Type} (p q:α→Bool) (l:List α) (h:∀ x∈l,p x=true→q x=true):(l.filter q).find? p=l.find? p:=by
 induction l with
 | nil=>rfl
 | cons a l ih=>
  have ih':=ih fun x hx=>h x (List.mem_cons_of_mem _ hx)
  by_cases hp:p a=true
  ·rw [List.filter_cons,if_pos (h a mC hp),List.find?_cons,List.find?_cons,hp]
  ·have hp':p a=false:=by simpa using hp
   rw [List.filter_cons]
   split
   ·rw [List.find?_cons,List.find?_cons,hp'];exact ih'
   ·rw [List.find?_cons,hp'];exact ih'
theorem getE_put_self {es:List Env.T} {e:Env.T} {i:Nat} (hi:e.rnd=(i:Int)):getE (put es e) i e.acc=some e:=by
 unfold getE put;rw [List.find?_append,List.find?_eq_none.2 (fun x hx=> ?_)]
 ·simp [hi]
 ·have h:=(List.mem_filter.1 hx).2;simp only [decide_eq_true_eq] at h ⊢;intro h2;exact h ⟨h2.2,h2.1.trans hi.symm⟩
theorem getE_put_ne {es:List Env.T} {e:Env.T} {i:Nat} {nm:LB} (h:¬(e.rnd=(i:Int)∧e.acc=nm)):getE (put es e) i nm=getE es i nm:=by
 unfold getE put;rw [List.find?_append,find_filter _ _ _ (fun x _ hx=> ?_)]
 ·rw [show [e].find? (fun x=>decide (x.rnd=(i:Int)∧x.acc=nm))=none from List.find?_eq_none.2 fun x hx=>by rw [List.mem_singleton.1 hx];simpa using h,Option.or_none]
 ·simp only [decide_eq_true_eq] at hx ⊢;exact fun hs=>h ⟨hs.2 ▸ hx.1,hs.1 ▸ hx.2⟩
theorem Good.sub {s:S} (h:Good s) (e:Env.T) (now:Int):Good (subS s e now):=by
 unfold subS
 split
 ·rename_i h0;unfold subE at h0
  split at h0
  ·cases h0
  ·rename_i h1
   split at h0
   ·cases h0
   ·rename_i h2
    split at h0
    ·cases h0
    ·split at h0
     ·rename_i h4;exact absurd h0 h4
     ·rename_i h4
      split at h0
      ·cases h0
      ·split at h0
       ·cases h0
       ·rename_i h6;have h1:Env.ok e∧time now:=Classical.not_not.1 h1;have h2:s.ck≤now∧has s e.rnd:=Classical.not_not.1 h2;refine ⟨h.fine,h.win,h.kl,h.k32,put_uni h.uni e,fun x hx=> ?_,fun x hx=> ?_,by simp;omega,h1.2⟩
        ·rcases mem_put.1 hx with rfl | ⟨hx,_⟩
         ·exact ⟨by simpa using h4,h2.2⟩
         ·exact h.aut x hx
        ·rcases List.mem_append.1 hx with hx | hx
         ·exact h.fit x hx
         ·rw [List.mem_singleton.1 hx];have a1:=Env.sgnT_len h1.1;have a2:=(Env.ok_len h1.1).2.2.2.2.2.2.2;have a3:=YC (b:=e.tag) o9
          have a4:(Env.enc e).length≤4300:=by unfold Env.enc;rw [List.length_append];omega
          have a5:=YC (b:=Env.enc e) o9;have a6:=Yg (n:=now.toNat) (by have:=h1.2.2;omega);exact ⟨(by show (0:Int)≤1;decide),(by show (1:Int)≤255;decide),by show (subP e now).length≤65536;unfold subP;rw [List.length_append];omega⟩
 ·exact h
theorem Good.rev {s:S} (h:Good s) (r:Int) (key:LB) (now:Int):Good (revS s r key now):=by
 unfold revS
 split
 ·rename_i h0;unfold revE at h0
  split at h0
  ·cases h0
  ·rename_i h1
   split at h0
   ·cases h0
   ·rename_i h2
    split at h0
    ·cases h0
    ·split at h0
     ·cases h0
     ·split at h0
      ·cases h0
      ·rename_i h6;have h1:key.length=32∧time now:=Classical.not_not.1 h1;have h2:s.ck≤now∧has s r:=Classical.not_not.1 h2;have hwl:=h.win.1.2;refine ⟨h.fine,h.win,by simp [h.kl],fun k hk=> ?_,h.uni,h.aut,fun x hx=> ?_,by simp;omega,h1.2⟩
       ·rcases List.mem_or_eq_of_mem_set hk with hk | rfl
        ·exact h.k32 k hk
        ·exact .inr h1.1
       ·rcases List.mem_append.1 hx with hx | hx
        ·exact h.fit x hx
        ·rw [List.mem_singleton.1 hx];have a5:=YC (b:=key) o9;have a6:=Yg (n:=now.toNat) (by have:=h1.2.2;omega);have a7:=Yg (n:=r.toNat) (by have:=h2.2.2;omega);exact ⟨(by show (0:Int)≤2;decide),(by show (2:Int)≤255;decide),by show (revP r key now).length≤65536;unfold revP;rw [List.length_append,List.length_append];omega⟩
 ·exact h
theorem Good.recd {s:S} (h:Good s) (k:Int) (p:LB):Good (recS s k p):=by
 unfold recS
 split
 ·rename_i h0;unfold recE at h0
  split at h0
  ·cases h0
  ·rename_i h1
   split at h0
   ·cases h0
   ·have h1:2 < k∧k≤255∧p.length≤65536:=Classical.not_not.1 h1;refine ⟨h.fine,h.win,h.kl,h.k32,h.uni,h.aut,fun x hx=> ?_,by simp;omega,h.ck⟩;rcases List.mem_append.1 hx with hx | hx
    ·exact h.fit x hx
    ·rw [List.mem_singleton.1 hx];exact ⟨by show 0≤k;omega,h1.2.1,h1.2.2⟩
 ·exact h
def start (bk:List Acc.T) (ws:List Win):S:=⟨bk,ws,[],List.replicate ws.length [],0,[]⟩
theorem good_start {bk:List Acc.T} {ws:List Win} (hf:Acc.Fine bk) (hw:ok ws):Good (start bk ws):=⟨hf,hw,by simp [start],fun k hk=> .inl (List.eq_of_mem_replicate hk),List.Pairwise.nil,fun e he=>by simp [start] at he,fun e he=>by simp [start] at he,by simp [start],by show time 0;decide⟩
end Rnd
end Go.Proofs.YtgokpcnabgacnaaGreatDoor
namespace Go.Proofs.YtgokpcnabgacnaaGreatDoor
open Go.RowKit
namespace Sx
def capD (b:LB):D:=⟨fun L w v=>(∃ A,v= .slice A b.length b.length)∧(bD b).R L w v,
 fun h ho hS=>⟨h.1,(bD b).keep h.2 ho hS⟩,fun h hS=>⟨h.1,(bD b).less h.2 hS⟩⟩
section
variable {P : Program} {Γ : Cx} {σ : St} {S : List Nat} {dst : Option Tmp} {ty : TypeId} {pos : String} {af : Array Edge} {gd : Option (Nat × Bool)}
theorem Ef.markK {x:Operand} {T e k c:Nat} {A:Option Addr} {F:LN} {b:LB} (j:Nat) (hx:σ.ev x=some (isD (.slice A b.length c))) (hj:σ.bx[j]? =some (.r F (yj e 1 ZP A c b))) (hT:ZL P T e=true) (he:intT P e .u8=true) (h0:0 < b.length) (hc:c=b.length) (hS:∀ g∈F,g∈S) (hk:yy Γ.nt k=true):
  Ef P Γ S ⟨some k,.convert T T x,ty,pos,af,gd⟩ σ (fun σ'=>σ'=(⟨σ.tm,yS σ.bx 0 [j]⟩:St).put k (capD b)):=by
 subst hc;intro a w hh K Q hK;have hxv:a.eval x= .slice A b.length b.length:=zF hh hx;obtain ⟨g,cur,xs,rfl,rfl,hg,hnc,hm,hcs,htk,hxl,ha⟩:=vec_some (hh.resAt hj) h0
 have hsh:w.shape? g=some (e,cur.size):=by simp [World.shape?,hg]
 have e2:(execOp a.eval ⟨some k,.convert T T x,ty,pos,af,gd⟩).run P w= .ok (.value (.slice (some ⟨g,0,none⟩) b.length b.length)) (w.freeze ⟨g,cur.size,none⟩ 1):=by
  simp [execOp,hxv,convert,run_underlying (yt hT),run_underlying (intT_spec he),markStringish,hsh]
 unfold Oper.wp;rw [e2];have ho:Only [g] w (w.freeze ⟨g,cur.size,none⟩ 1):=only_freeze;have hmem:=List.mem_of_getElem? hj
 have h1:Holds Γ ⟨σ.tm,yS σ.bx 0 [j]⟩ a (w.freeze ⟨g,cur.size,none⟩ 1):=by
  refine hh.swap ho (fun x hx=>mem_fps.2 ⟨_,hmem,hx⟩) (fun b' hb'=> .inl ⟨dropAt_sub hb',fun x hx hm=> ?_⟩) (fun x hx=> .inl (Zt hx)) (Yh hh.nd);have h2:=YN hh hj (g:=x) hx;exact h2 (mL _ (mem_fps.2 ⟨b',hb',hm⟩))
 have hoff:=YN hh hj (g:=g) (m9 rfl);rw [Yz] at ha;have hxs:=all_isD ha;subst hxs;refine hK _ _ _ V (h1.put (by simpa [yy] using hk) ⟨⟨_,V⟩,some ⟨g,0,none⟩,b.length,by rw [zw],by rw [zw];exact hnc,fun _=>⟨g,0,rfl,?_,fun i hi=> ?_⟩,fun _ p hp hm=> ?_⟩) (ho.mono (fun x hx _=>hS x hx))
 ·exact Nat.lt_of_lt_of_le (Array.getElem?_eq_some_iff.1 hg).1 ho.size
 ·rw [cell_freeze,Nat.zero_add]
  have hb:w.cell? ⟨g,i,none⟩=cur[i]? :=by simp [World.cell?,hg]
  rw [hb,← htk,List.getElem?_take]
  have:i < b.length * 1:=by simpa using hi
  rw [if_pos this];simp
 ·injection hp with hp;subst hp;exact hoff hm
theorem rv_add {A:Option Addr} {w:World} {b:LB} (h:RV w A (cellsOf b)) (h0:0 < b.length):∃ p,A=some p∧∀ (j:Nat) v,(cellsOf b)[j]? =some v→w.cell? (p.add j)=some v:=by
 obtain ⟨g,o,e,_,hc⟩:=h (by simpa using h0);refine ⟨_,e,fun j v hv=> ?_⟩;have hj:=(List.getElem?_eq_some_iff.1 hv).1;rw [Addr.add_mid,hc j hj,hv]
theorem Ef.appK {x y:Operand} {T e k:Nat} {b b':LB} (hx:σ.ev x=some (capD b)) (hy:σ.ev y=some (bD b')) (h0:0 < b.length) (h1:0 < b'.length) (hT:ZL P T e=true) (hE:elT P e 1 1=true) (hlen:b.length + b'.length≤1099511627776) (hk:yy Γ.nt k=true):
  Ef P Γ S ⟨some k,.call { callee:= .builtin .append,args:= #[x,y],argTypes:= #[T,T] },ty,pos,af,gd⟩ σ (fun σ'=>∃ g c,σ'=(⟨σ.tm,σ.bx ++ [.r [g] (yj e 1 ZP (some ⟨g,0,none⟩) c (b ++ b'))]⟩:St).put k (isD (.slice (some ⟨g,0,none⟩) (b ++ b').length c))):=by
 intro a w hh K Q hK;obtain ⟨⟨A,hxv⟩,hb⟩:=zF hh hx;obtain ⟨A1,c1,e1,_,hr1⟩:=b_out hb;rw [hxv] at e1;injection e1 with e1 _ _;subst e1;obtain ⟨B,c2,hyv,_,hr2⟩:=b_out (zF hh hy);obtain ⟨p,rfl,hp⟩:=rv_add hr1 h0;obtain ⟨q,rfl,hq⟩:=rv_add hr2 h1;obtain ⟨i,z,hI,i1,i2,i3,i4⟩:=elT_spec hE;have hrun:=run_append_grow (P:=P) w T ty e i z (yt hT) hI i3 p b.length b.length (cellsOf b) (by rw [i1];simp) hp q b'.length c2 (cellsOf b') (by rw [i1];simp) hq o9 o9 (growslice_fits o9 (by rw [i2];omega));obtain ⟨cp,hcp⟩:∃ cp,cp=grownCap w (b.length + b'.length) b.length e:=⟨_,rfl⟩
 have hge:b.length + b'.length≤cp:=by rw [hcp];exact grownCap_ge _ _ _ _
 have hle:cp≤maxLen:=by rw [hcp];exact grownCap_le_maxLen _ _ _ _ (by simp only [maxLen];omega)
 rw [← hcp] at hrun
 have e2:(execOp a.eval ⟨some k,.call { callee:= .builtin .append,args:= #[x,y],argTypes:= #[T,T] },ty,pos,af,gd⟩).run P w= .ok (.value (.slice (some ⟨w.heap.size,0,none⟩) (b.length + b'.length) cp)) (w.drew.alloc (.cells ((cellsOf b).toArray ++ (cellsOf b').toArray ++ Builtin.zeroCells z.cells (cp - (b.length + b'.length))) e)):=by
  simp only [execOp,resolve,invoke,builtin,Sem.run_bind,Sem.run_pure,Result.andThen_ok,List.map_toArray,List.map_cons,List.map_nil,hxv,hyv,hrun]
 have hOn:Only [] w (w.drew.alloc (.cells ((cellsOf b).toArray ++ (cellsOf b').toArray ++ Builtin.zeroCells z.cells (cp - (b.length + b'.length))) e)):=((Only.refl [] w).drew).alloc _
 have hcl:(cellsOf b ++ cellsOf b').length=(b ++ b').length * 1:=by simp
 have h6:=hh.more hOn (b:= .r [w.heap.size] (yj e 1 ZP (some ⟨w.heap.size,0,none⟩) cp (b ++ b'))) ⟨cellsOf b ++ cellsOf b',by rw [Yz,show cellsOf (b ++ b')=cellsOf b ++ cellsOf b' by simp [cellsOf]];exact all_is _,⟨hcl,.inr ⟨w.heap.size,cp,_,rfl,Nat.zero_le _,heap_alloc_new w.drew _,by rw [List.length_append];exact hge,hle,by simp [Builtin.zeroCells,i4];omega,by
  rw [← hcl,Array.toList_append,Array.toList_append]
  exact List.take_left⟩⟩,V⟩ (fun g hg=>by rw [List.mem_singleton.1 hg];exact Nat.le_refl _) (by simp [Box.fp])
 unfold Oper.wp;rw [e2];exact hK _ _ _ ⟨_,_,V⟩ (h6.put (by simpa [yy] using hk) (show Value.slice _ _ _=Value.slice _ _ _ by rw [List.length_append])) (hOn.mono (fun x hx _=>by cases hx))
end
section
variable {P : Program} {Γ : Cx} {σ σ' : St} {S : List Nat} {l : List Oper} {Q : Exit → Act → World → Prop} {tz uz : Reg.Tz} {k : Nat} {op : Op} {ty : TypeId} {pos : String} {af : Array Edge}
end
end Sx
end Go.Proofs.YtgokpcnabgacnaaGreatDoor
