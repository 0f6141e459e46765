/- LEDGERS: Include, its closure. LEDGERS: Include. LEDGERS: Consistent, its closure. LEDGERS: Consistent. LEDGERS: made, the list too one's own. LEDGERS -/
import Derived.Test.YtgokpcnabgacnaaGreatDoorGZAV
import Derived.Test.YtgokpcnabgacnaaGreatDoorGZAG
import Derived.Laws.Externs
import Derived.MapKept
import Derived.WalkKit
import Derived.Test.YtgokpcnabgacnaaGreatDoorGZAH
import Derived.Test.YtgokpcnabgacnaaGreatDoorGZAK
set_option maxHeartbeats 8000000
set_option maxRecDepth 100000
namespace Go.Proofs.YtgokpcnabgacnaaGreatDoor
open Go.RowKit
namespace Sx
section
variable {P : Program} (w : World)
theorem run_equalIn_mapnil (d:Nat) (t k e:TypeId) (p:Option Nat) (h:P.underlying t=some (.map k e)):(Op.equalIn (d + 1) t (.map p) (.map none)).run P w= .ok p.isNone w:=by
 cases p <;> simp [Op.equalIn,run_underlying h]
theorem run_eql_mapnil (t k e:TypeId) (p:Option Nat) (h:P.underlying t=some (.map k e)):(binOp .eql t (.map p) (.map none)).run P w= .ok (.bool p.isNone) w:=by
 simp only [binOp];simp [show Op.equal t (.map p) (.map none)=Op.equalIn (9999 + 1) t (.map p) (.map none) from rfl,run_equalIn_mapnil w 9999 t k e p h]
theorem run_assert_map (t xT k e:TypeId) (v:Value) (h:P.underlying t=some (.map k e)):(Instr.typeAssert (.iface t v) xT t false).run P w= .ok v w:=by
 simp [Instr.typeAssert,run_underlying h,go_sem,Result.andThen]
theorem run_maps_clone {r:Nat} {es:Array MapEntry} {clock:Nat} (t:TypeId) (hb:w.heap[r]? =some (.map es clock)):
  (Extern.MapsClone.clone #[.iface t (.map (some r))]).run P w= .ok (.iface t (.map (some w.heap.size))) (w.alloc (.map es clock)):=by
 have e:Extern.MapsClone.clone #[.iface t (.map (some r))]=(getObj r >>= fun o=>match o with
   | .map entries clock=>(newObj (.map entries clock) >>= fun n=>pure (.iface t (.map (some n))))
   | _ => stuck "maps.clone: a map expected") := rfl
 rw [e];simp [MapKept.run_getObj_map hb,Result.andThen,go_sem]
end
theorem maps_clone_some (b:Nat) (es:Array MapEntry) (clock:Nat) (w:World) (hb:w.heap[b]? =some (.map es clock)):
  Calls Tryz.prog 156 #[.map (some b)] w fun e w'=>e= .returned (.map (some w.heap.size))∧w'=w.alloc (.map es clock):=by
 have hq:=fun w=>run_eql_mapnil (P:=Tryz.prog) w 80 _ _ (some b) Tryz.underlying80
 go_enter Tryz.func156,Tryz.ntmps156
 go_wp2
 rw [run_callFunc_extern Tryz.func158 k9 k9 k9 (e:=Extern.MapsClone.clone) k9,run_maps_clone w 80 hb];simp only [Result.andThen];rw [Oper.upon_value]
 go_wp2
 rw [run_assert_map _ 80 _ _ _ _ Tryz.underlying80];simp only [Result.andThen];rw [Oper.upon_value]
 go_wp2
 go_ret
 exact ⟨V,V⟩
theorem maps_clone_none (w:World):
  Calls Tryz.prog 156 #[.map none] w fun e w'=>e= .returned (.map none)∧w'=w:=by
 have hq:=fun w=>run_eql_mapnil (P:=Tryz.prog) w 80 _ _ none Tryz.underlying80
 go_enter Tryz.func156,Tryz.ntmps156
 go_wp2
 go_ret
 exact ⟨V,V⟩
section
variable {P : Program} {Γ : Cx} {σ : St} {Q : Exit → Act → World → Prop}
end
theorem bldL2 {A:Option Addr} {n c:Nat} {M:Option Nat}:Bld Tryz.prog 82 [0,1] [isD (.slice A n c),isD (.map M)] [isD (.slice A n c),isD (.map M)]:=fun L w vs hv=>by
 obtain ⟨u,v,rfl,rfl,rfl⟩:=all2 hv;exact ⟨[.slice A n c,.map M],⟨V,V,t9⟩,fun w'=>by kernel_rfl⟩
section
variable {P : Program} {Γ : Cx} {σ : St} {Q : Exit → Act → World → Prop}
theorem SW.vecNil {c:Code} {α:Type} {enc:α→List D} {sz:Nat} [Row enc sz] {e cp:Nat} {A:Option Addr} {F:LN} {l:List α} (j:Nat) (hj:σ.bx[j]? =some (.r F (yj e sz enc A cp l))) (hA:A.isNone=true) (h:l=[]→SW P Γ σ c Q):SW P Γ σ c Q:=fun a w hh=>by
 refine h ?_ a w hh;obtain ⟨h1,h2⟩:=own_at (hh.resAt hj) (L':=[]) (fun x hx=>by cases hx) (fun g hg hx=>by cases hx)
 cases l with
 | nil=>rfl
 | cons x l=>
  obtain ⟨g,o,e,_⟩:=h2 (by rw [flat_len (enc:=enc) (sz:=sz)];exact Nat.mul_pos s9 (Row.pos (enc:=enc)));rw [e] at hA
  cases hA
end
theorem con_mapsCloneL {κ:Type} (enc:κ→Value) (ks:List κ) (f:κ→D) (M:Option Nat) (G:LN):ConR Tryz.prog 156 [.r G (mapF M enc ks f)] [isD (.map M)] (fun t:Option Nat × LN=>[.r G (mapF M enc ks f),.r t.2 (mapF t.1 enc ks f)]) (fun t=>isD (.map t.1)):=by
 refine ⟨enters_of Tryz.func156 k9 V,fun L w vs hL hG hgl hoff hnd hbx ha=> ?_⟩
 match vs,ha with
 | [v],ha=>
  obtain rfl:v= .map M:=ha.1;obtain ⟨es,hm,hk,hv⟩:=hbx _ (m9 rfl);have hm0:=hm
  have fp1:fps [Box.r G (mapF M enc ks f)]=G:=by simp [fps,Box.fp]
  rw [fp1] at hv hnd hoff;rcases hm with ⟨rfl,rfl,rfl⟩ | ⟨g,ck,rfl,hh,rfl,hbn⟩
  ·refine (maps_clone_none w).mono fun e w' ⟨he,hw⟩=> ?_;subst hw;refine ⟨(none,[]),.map none,he,V,fun b hb=> ?_,by simp [fps,Box.fp],fun g hg=>by simp [fps,Box.fp] at hg,Only.refl _ _⟩
   have hb':b=Box.r [] (mapF none enc ks f):=by simpa using hb
   rw [hb'];exact ⟨#[],.inl ⟨V,V,V⟩,hk,by simpa [fps,Box.fp] using hv⟩
  ·refine (maps_clone_some g es ck w hh).mono fun e w' ⟨he,hw⟩=> ?_;subst hw;have hg:g < w.heap.size:=(Array.getElem?_eq_some_iff.1 hh).1;have ho:Only [] w (w.alloc (.map es ck)):=(Only.refl [] w).alloc _
   have fp2:fps [Box.r [g] (mapF (some g) enc ks f),Box.r [w.heap.size] (mapF (some w.heap.size) enc ks f)]=[g,w.heap.size]:=by simp [fps,Box.fp]
   have h1:All ([g,w.heap.size] ++ L) w (ks.map f) (es.toList.map fun e:MapEntry=>e.val):=by
    refine hv.less fun x hx=> ?_;simp at hx;rcases hx with h | h | h
    ·exact .inl (by simp [h])
    ·exact .inr o9
    ·exact .inl (by simp [h])
   have h2:=h1.keep ho (fun x hx=>by cases hx);refine ⟨(some w.heap.size,[w.heap.size]),.map (some w.heap.size),he,V,fun b hb=> ?_,by rw [fp2];simp;omega,fun x hx=> ?_,ho.mono s9⟩
   ·rw [fp2];simp at hb;rcases hb with rfl | rfl
    ·exact ⟨es,.inr ⟨g,ck,V,by rw [(MapKept.heap_alloc w _).2 g hg];exact hh,rfl,hbn⟩,hk,h2⟩
    ·exact ⟨es,.inr ⟨w.heap.size,ck,V,(MapKept.heap_alloc w _).1,V,hbn⟩,hk,h2⟩
   ·rw [fp2] at hx;rw [fp1];simp at hx;rcases hx with h | h
    ·exact .inl (by simp [h])
    ·exact .inr o9
theorem con_cloneEL (l:List Led.Ent) (hl:l.length≤1000000) (s:Vst):ConR Tryz.prog 155 [.r s.F (yj 85 2 encE s.A s.c (l))] [isD (.slice s.A l.length s.c)] (fun t:Vst=>[.r s.F (yj 85 2 encE s.A s.c (l)),.r t.F (yj 85 2 encE t.A t.c (l))]) (fun t:Vst=>isD (.slice t.A l.length t.c)):=by
 refine zW Tryz.func155 k9 V k9 fun base w0=>(zh (zb (za V (zg V) (zf (zc (zh (zh (zb (za V (ze V) (za V (Rd.eqN (e:=85) V V k9) (zf (zc (zI V (fun hb4=> ?_) (fun hb4=> ?_))))))))))))))
 ·refine SW.vecNil 0 V hb4 fun hz=>(zh (Yk 85 2 encE (zb (za V (zg V) (zf (zc (zJ (fn:=Tryz.f155) (⟨none,0,[]⟩) [0,1] (fun _ _ h=>h) (Rs.le (Rs.one V (zp V)) ?_) d9 ⟨lR V,⟨⟨_,V,Z9 (by rw [hz]) (by rw [hz])⟩,t9⟩⟩)))))));exact zE (by rw [hz];rfl)
 ·skip
  refine zu (zc (zh (zb (zl (S:=[]) (Ef.lit0 (e:=85) encE 2 32 k9 k9 V) ?_))));rintro _ ⟨g5,rfl⟩
  refine za V (ze V) (zl (Zf 1 2 32 V V (SrcT.vec 0 V V) k9 k9 (by simp <;> omega) d9 (fun _ h=>h) V) ?_)
  rintro _ ⟨A7,F7,c7,rfl⟩;refine za V (zg V) (zf (zc (zJ (fn:=Tryz.f155) (⟨A7,c7,F7⟩) [0,1] (fun _ _ h=>h) (Rs.le (Rs.one V (zp V)) ?_) d9 (sX V))));exact zd _
theorem con_copyL (gl:Nat) (s:Lst) (es:List Led.Ent) (hl:es.length≤1000000):ConR Tryz.prog 104 [.c gl [isD (.slice s.A (es).length s.c),isD (.map s.M)],ledE s (es),ledM s (es)] [pA gl] (fun t:Nat × Lst=>[.c gl [isD (.slice s.A (es).length s.c),isD (.map s.M)],ledE s (es),ledM s (es),.c t.1 [isD (.slice t.2.A (es).length t.2.c),isD (.map t.2.M)],ledE t.2 (es),ledM t.2 (es)]) (fun t:Nat × Lst=>pA t.1):=by
 refine zW Tryz.func104 k9 V k9 fun base w0=>(zh (zb (za V (zg V) (zf (zc (zh (zh (zb (za V (ze V) (za V (YO V V k9) (zf (zc (zB V (V) (zu (zc (zh (yh (s.F ++ (s.G ++ [])) (.r 0 (.r 1 (.r 2 (.r 3 (.r 5 (.r 6 (.r 7 (.r 8 (.e 4 (.e 9 (.r 10 (.n 11 (.r 12 .fin) .no)) .no) .no))))))))) k9 k9 (fun d _ _ _ _ h=>by cases d <;> exact h) (zk rfl rfl (ze rfl) (zk rfl rfl (zt rfl) (zk rfl rfl (zi (n:=0) rfl k9) (zk rfl rfl (zj 0 rfl rfl rfl k9 (zO 1 rfl d9 (zO 2 rfl d9 zn))) (zk rfl rfl (ze rfl) (zk rfl rfl (zt rfl) (zk rfl rfl (zi (n:=1) rfl k9) (zk rfl rfl (zj 0 rfl rfl rfl k9 (zO 1 rfl d9 (zO 2 rfl d9 zn))) (zL rfl (zx [1] (con_cloneEL es hl ⟨s.A,s.c,s.F⟩) rfl ⟨zd _,trivial⟩ d9 ⟨lR rfl,trivial⟩ (fin_r (fun _ h=>mL _ h) yQ) rfl) ?_ zA))))))))))))))))))))))))))
 rintro _ ⟨s9,rfl⟩;refine zL V (zx [1] (con_mapsCloneL encN (Led.keys es.length) (mkeys es) s.M s.G) V ⟨zd _,t9⟩ d9 ⟨lR V,t9⟩ (fin_r (fun _ h=>mR _ (mL _ h)) yQ) V) ?_ zA;rintro _ ⟨s14,rfl⟩;refine zk V V (yr V V bldL2) (zY V (yV V V) ?_ zA);rintro _ ⟨g16,rfl⟩;refine zk V V (zg V) (zP (zc ?_));refine zJ (fn:=Tryz.f104) (((g16,⟨s9.A,s9.c,s9.F,s14.1,s14.2⟩):Nat × Lst)) [0,1,3,5,2,4] (fun _ _ h=>h) (Rs.one V (zp V)) d9 (sX V)
section
variable {P : Program} {Γ : Cx} {σ : St} {Q : Exit → Act → World → Prop}
end
theorem con_entriesO (gl:Nat) (sA:Option Addr) (sc:Nat) (sF sG:LN) (M:Option Nat) (es:List Led.Ent):ConR Tryz.prog 97 [.c gl [isD (.slice sA es.length sc),isD (.map M)],ledE ⟨sA,sc,sF,M,sG⟩ es,ledM ⟨sA,sc,sF,M,sG⟩ es] [pA gl] (fun g:Nat=>[.c gl [isD (.slice sA es.length sc),isD (.map M)],ledE ⟨sA,sc,sF,M,sG⟩ es,ledM ⟨sA,sc,sF,M,sG⟩ es,.c g [isD (.slice sA es.length es.length)]]) (fun g:Nat=>isD (.func (.func 153) #[] #[.pointer (some ⟨g,0,none⟩)])):=by
 refine zW Tryz.func97 k9 V k9 fun base w0=>(zh (zb (za V (zg V) (zf (zc (zh (zb (zl (S:=[]) (zH (zs:=[.slice none 0 0]) k9 V) ?_))))))));rintro _ ⟨g3,rfl⟩
 refine zf (zc (zh (zh (zb (za V (ze V) (za V (Rd.neP V V k9) (zf (zc (yd V (V) (yh (g3 :: []) (.r 0 (.r 1 (.r 2 (.r 3 (.r 4 (.r 5 (.r 6 (.r 7 (.r 8 (.r 9 (.r 10 (.r 11 (.r 12 (.r 13 (.r 14 (.e 15 .fin .no)))))))))))))))) k9 k9 (fun d _ _ _ _ h=>by cases d <;> exact h) (zk rfl rfl (ze rfl) (zk rfl rfl (zt rfl) (zk rfl rfl (zi (n:=0) rfl k9) (zk rfl rfl (zj 0 rfl rfl rfl k9 (yB 3 rfl d9 zn)) (zk rfl rfl (ze rfl) (zk rfl rfl (zt rfl) (zk rfl rfl (zi (n:=0) rfl k9) (zk rfl rfl (zj 0 rfl rfl rfl k9 (yB 3 rfl d9 zn)) (zk rfl rfl (YJ (e:=85) rfl k9) (zk rfl rfl (ze rfl) (zk rfl rfl (zt rfl) (zk rfl rfl (zi (n:=0) rfl k9) (zk rfl rfl (zj 0 rfl rfl rfl k9 (yB 3 rfl d9 zn)) (zk rfl rfl (YJ (e:=85) rfl k9) (zk rfl rfl (Rd.sl3 1 2 rfl rfl rfl rfl k9 k9) (zL rfl (zN 3 rfl rfl rfl k9 rfl mC) ?_ zA))))))))))))))))))))))))))
 rintro _ rfl;refine zP (zc (zh (zb (za V (yD [.pointer (some ⟨g3,0,none⟩)] V) (za V (zg V) (zf (zc ?_)))))));refine zJ (fn:=Tryz.f97) (g3) [0,1,2,3] (fun _ _ h=>h) (Rs.one V (zp V)) d9 (sX V)
def Led.atE (es:List Led.Ent) (i:Int):Led.Ent:=if 0≤i then (es[i.toNat]?).getD ⟨0,[]⟩ else ⟨0,[]⟩
def Led.atC (es:List Led.Ent) (i:Int):Int:=if 0≤i∧i < es.length then 0 else 3
theorem Led.at_no {es:List Led.Ent} {i:Int} (h:i < 0∨(es.length:Int)≤i):Led.atE es i=⟨0,[]⟩∧Led.atC es i=3:=by
 unfold Led.atE Led.atC
 constructor
 ·split
  ·rw [List.getElem?_eq_none o9];rfl
  ·rfl
 ·rw [if_neg o9]
theorem ZG {es:List Led.Ent} {i:Nat} {e:Led.Ent} (h:es[i]? =some e):Led.atE es i=e∧Led.atC es i=0:=by
 have hl:=(List.getElem?_eq_some_iff.1 h).1;unfold Led.atE Led.atC;rw [if_pos o9,if_pos o9,Int.toNat_natCast,h];exact ⟨V,V⟩
theorem con_at_any (es:List Led.Ent) (hb:∀ e∈es,e.bytes.length≤1000000) (i:Int):ConN Tryz.prog 80 [ledD es,iD i] (Yv [Zn [iD (Led.atE es i).kind,bD (Led.atE es i).bytes],iD (Led.atC es i)]):=by
 by_cases h:i < 0∨(es.length:Int)≤i
 ·rw [(Led.at_no h).1,(Led.at_no h).2];exact con_at_no es i h
 ·obtain ⟨n,rfl⟩:=Int.eq_ofNat_of_zero_le (show 0≤i by omega);obtain ⟨e,he⟩:∃ e,es[n]? =some e:=⟨_,List.getElem?_eq_getElem o9⟩;rw [(ZG he).1,(ZG he).2];exact con_at es n e he (hb e (List.mem_of_getElem? he))
theorem con_copyB (gb:Nat) (s:Bst) (l:List Acc.T) (hf:Acc.Fine l):ConR Tryz.prog 52 [.c gb [isD (.map (s.M.map Prod.fst)),isD (.slice s.n.A (Acc.nm l).length s.n.c),isD (.map (s.M.map Prod.snd))],.r s.n.F (yj 9 1 Zj s.n.A s.n.c (Acc.nm l)),.r s.F1 (ya (s.M.map Prod.fst) yA (Acc.nm l) (acD l)),.r s.F2 (ya (s.M.map Prod.snd) yu (Acc.seats l) (seD l))] [pA gb] (fun t:Nat × Bst=>[.c gb [isD (.map (s.M.map Prod.fst)),isD (.slice s.n.A (Acc.nm l).length s.n.c),isD (.map (s.M.map Prod.snd))],.r s.n.F (yj 9 1 Zj s.n.A s.n.c (Acc.nm l)),.r s.F1 (ya (s.M.map Prod.fst) yA (Acc.nm l) (acD l)),.r s.F2 (ya (s.M.map Prod.snd) yu (Acc.seats l) (seD l)),.c t.1 [isD (.map (t.2.M.map Prod.fst)),isD (.slice t.2.n.A (Acc.nm l).length t.2.n.c),isD (.map (t.2.M.map Prod.snd))],.r t.2.n.F (yj 9 1 Zj t.2.n.A t.2.n.c (Acc.nm l)),.r t.2.F1 (ya (t.2.M.map Prod.fst) yA (Acc.nm l) (acD l)),.r t.2.F2 (ya (t.2.M.map Prod.snd) yu (Acc.seats l) (seD l))]) (fun t:Nat × Bst=>pA t.1):=by
 refine zW Tryz.func52 k9 V k9 fun base w0=>(zh (zb (za V (zg V) (zf (zc (zh (zh (zb (za V (ze V) (za V (YO V V k9) (zf (zc (zB V (V) (zu (zc (zh (zb (za V (yr V V bldBk0) (zl (S:=[]) (yV V V) ?_)))))))))))))))))));rintro _ ⟨g9,rfl⟩;refine za V (zg V) (zf (zc (zh (zh (Yk 9 1 Zj (SW.mapQN yA (acD (l.take 0)) (SW.mapQN yu (seD (l.take 0)) (zb (za V (ze V) (zl (zx [0,1,2,3] (con_list gb s l hf) V ⟨zd _,t9⟩ d9 (sX V) (fun _ h=>h) V) ?_))))))))));rintro _ ⟨⟨⟩,rfl⟩;refine za V (Zw (e:=121) V k9) (za V (ze V) (zf (zc (zV (Zk (ι:={p:Nat × Bst // p.1≤l.length}) (fun p=>zK [(3,pA g9),(11,lsD encA l),(12,iD (l.length:Int)),(13,iD (p.1.1:Int))] [.c gb [isD (.map (s.M.map Prod.fst)),isD (.slice s.n.A (Acc.nm l).length s.n.c),isD (.map (s.M.map Prod.snd))],.r s.n.F (yj 9 1 Zj s.n.A s.n.c (Acc.nm l)),.r s.F1 (ya (s.M.map Prod.fst) yA (Acc.nm l) (acD l)),.r s.F2 (ya (s.M.map Prod.snd) yu (Acc.seats l) (seD l)),.c g9 [isD (.map (p.1.2.M.map Prod.fst)),isD (.slice p.1.2.n.A (Acc.nm (l.take p.1.1)).length p.1.2.n.c),isD (.map (p.1.2.M.map Prod.snd))],.r p.1.2.n.F (yj 9 1 Zj p.1.2.n.A p.1.2.n.c (Acc.nm (l.take p.1.1))),.r p.1.2.F1 (ya (p.1.2.M.map Prod.fst) yA (Acc.nm (l.take p.1.1)) (acD (l.take p.1.1))),.r p.1.2.F2 (ya (p.1.2.M.map Prod.snd) yu (Acc.seats (l.take p.1.1)) (seD (l.take p.1.1)))]) (fun p=>l.length - p.1.1) (⟨(0,⟨none,[],[],⟨none,0,[]⟩⟩),Nat.zero_le _⟩) ?_ ?_)))))
 ·exact (sB [4,5,6,7,0,1,2,3] V V)
 ·rintro ⟨⟨i,t⟩,hi⟩ K0 hK0;dsimp only at hi ⊢;have hll:=hf.len;refine zh (zb (za V (yG V V) (zf (zc (zh (zI V (fun hb14=> ?_) (fun hb14=> ?_)))))))
  ·have hb14:=oT hb14;refine zu (zc (zh (zV (zh ?_))));obtain ⟨x,hx⟩:∃ x,l[i]? =some x:=⟨_,List.getElem?_eq_getElem o9⟩;have hit:=Acc.ins_take hf.srt hx;have hkl:=(hf.oks x (List.mem_of_getElem? hx)).2.1;refine zb (za V (yH (e:=121) 5 V V k9 k9 o9 (by simpa using hx)) (za V (Ym 5 V k9 d9 (show 5≤5 by decide) s9) (zl (S:=[]) (zH (zs:=[.string ⟨#[]⟩,.int .i64 0,.slice none 0 0,.int .i64 0,.int .i64 0]) k9 rfl) ?_)));rintro _ ⟨g5,rfl⟩;refine zl (S:=[_]) (zC 8 V V V k9 V (m9 V)) ?_;rintro _ rfl;refine zf (zc (zb (za V (ze V) (za V (zG 8 5 V V k9 V zn) (SWl.lookA5 18 V fun A18 c18=>(zl (zx [4,5,6,7,9] (con_put g9 t (l.take i) x A18 c18 [] _ (YL _ _ _ _ V) o9 (by simp;omega) (Acc.free_take hf hx)) V ⟨zd _,zd _,t9⟩ d9 (sX V) (fun _ h=>h) V) ?_))))));rintro _ ⟨s19,rfl⟩;exact zf (yf (zc (zQ (σ':=zK [(3,pA g9),(11,lsD encA l),(12,iD (l.length:Int)),(13,iD (i:Int))] [.c gb [isD (.map (s.M.map Prod.fst)),isD (.slice s.n.A (Acc.nm l).length s.n.c),isD (.map (s.M.map Prod.snd))],.r s.n.F (yj 9 1 Zj s.n.A s.n.c (Acc.nm l)),.r s.F1 (ya (s.M.map Prod.fst) yA (Acc.nm l) (acD l)),.r s.F2 (ya (s.M.map Prod.snd) yu (Acc.seats l) (seD l)),.c g9 [isD (.map (s19.M.map Prod.fst)),isD (.slice s19.n.A (Acc.nm (Acc.ins (l.take i) x)).length s19.n.c),isD (.map (s19.M.map Prod.snd))],.r s19.n.F (yj 9 1 Zj s19.n.A s19.n.c (Acc.nm (Acc.ins (l.take i) x))),.r s19.F1 (ya (s19.M.map Prod.fst) yA (Acc.nm (Acc.ins (l.take i) x)) (acD (Acc.ins (l.take i) x))),.r s19.F2 (ya (s19.M.map Prod.snd) yu (Acc.seats (Acc.ins (l.take i) x)) (seD (Acc.ins (l.take i) x)))]) (sB [0,1,2,3,5,6,7,8] V V) (zb (za V (yM V V ⟨by omega,by omega⟩) (za rfl (ze rfl) (zf (fun a w hh=>hK0 (⟨(i + 1,s19),by dsimp only;omega⟩) (by dsimp only;omega) a w (hh.sub (⟨⟨_,rfl,(sT rfl)⟩,[0,1,2,3,4,5,6,7],by decide,⟨la rfl,⟨lR rfl,⟨lR rfl,⟨lR rfl,⟨⟨_,rfl,⟨zd _,zE (by rw [hit]),zd _,trivial⟩⟩,⟨⟨_,rfl,Z9 (by rw [hit]) (by rw [hit])⟩,⟨⟨_,rfl,(by rw [hit];exact yo _)⟩,⟨⟨_,rfl,(by rw [hit];exact yo _)⟩,trivial⟩⟩⟩⟩⟩⟩⟩⟩⟩))))))))))
  ·have hb14:=oF hb14;refine yW ?_
   repeat (first | refine Za ?_ | refine Zb d9 ?_)
   refine Zi (zc (zh (zb (za V (ze V) (za V (zg V) (zf (zc ?_)))))));refine zJ (fn:=Tryz.f52) ((g9,t)) [0,1,2,3,4,5,6,7] (fun _ _ h=>h) (Rs.one V (zp V)) d9 ⟨la V,⟨lR V,⟨lR V,⟨lR V,⟨⟨_,V,⟨zd _,zE (by rw [List.take_of_length_le (show l.length≤i by omega)]),zd _,t9⟩⟩,⟨⟨_,V,Z9 (by rw [List.take_of_length_le (show l.length≤i by omega)]) (by rw [List.take_of_length_le (show l.length≤i by omega)])⟩,⟨⟨_,V,(by rw [List.take_of_length_le (show l.length≤i by omega)];exact yo _)⟩,⟨⟨_,V,(by rw [List.take_of_length_le (show l.length≤i by omega)];exact yo _)⟩,t9⟩⟩⟩⟩⟩⟩⟩⟩
end Sx
end Go.Proofs.YtgokpcnabgacnaaGreatDoor
