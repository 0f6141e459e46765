/- LEDGERS: Include, its closure. LEDGERS: Include. LEDGERS: Consistent, its closure. LEDGERS: Consistent. LEDGERS: made, the list too one's own. LEDGERS -/
import Derived.Test.YtgokpcnabgacnaaGreatDoorGZAV
import Derived.Laws.Externs
import Derived.MapKept
import Derived.WalkKit
set_option maxHeartbeats 8000000
set_option maxRecDepth 100000
namespace Go.Proofs.YtgokpcnabgacnaaGreatDoor
open Go.RowKit
namespace Sx
section
end
section
end
section
end
section
end
section
end
section
section
variable {P:Program}(w:World)
theorem VJ (d:Nat) (t k e:TypeId) (p:Option Nat) (h:P.underlying t=some (.map k e)):(Op.equalIn (d + 1) t (.map p)<|.map none).run P w= .ok p.isNone w:=by
 cases p <;> simp [Op.equalIn,Jp h]
theorem Vc (t k e:TypeId) (p:Option Nat) (h:P.underlying t=some (.map k e)):(binOp .eql t (.map p)<|.map none).run P w= .ok (.bool p.isNone) w:=by
 simp only [binOp];simp [show Op.equal t (.map p) (.map none)=Op.equalIn (9999 + 1) t (.map p) (.map none) from rfl,VJ w 9999 t k e p h]
theorem zbP (t xT k e:TypeId) (v:Value) (h:P.underlying t=some (.map k e)):(Instr.typeAssert (.iface t v) xT t false).run P w= .ok v w:=by
 simp [Instr.typeAssert,Jp h,go_sem,Result.andThen]
theorem zbM {r:Nat} {es:Array MapEntry} {clock:Nat} (t:TypeId) (hb:w.heap[r]? =some (.map es clock)):
  (Extern.MapsClone.clone #[.iface t<|.map<|some r]).run P w= .ok (.iface t<|.map<|some w.heap.size) (w.alloc<|.map es clock):=by
 have e:Extern.MapsClone.clone #[.iface t<|.map<|some r]=(getObj r >>= fun o=>match o with
   | .map entries clock=>(newObj (.map entries clock) >>= fun n=>pure<|.iface t<|.map<|some n)
   | _ => stuck "maps.clone: a map expected") := rfl
 rw [e];simp [MapKept.run_getObj_map hb,Result.andThen,go_sem]
end
theorem zaO (b:Nat) (es:Array MapEntry) (clock:Nat) (w:World) (hb:w.heap[b]? =some (.map es clock)):
  Calls Tryz.prog 156 #[.map<|some b] w fun e w'=>e= .returned (.map<|some w.heap.size)∧w'=w.alloc (.map es clock):=by
 have hq:=fun w=>Vc (P:=Tryz.prog) w 80 _ _ (some b) Tryz.underlying80
 go_enter Tryz.func156,Tryz.ntmps156
 go_wp2
 rw [run_callFunc_extern Tryz.func158 k9 k9 k9 (e:=Extern.MapsClone.clone) k9,zbM w 80 hb];simp only [Result.andThen];rw [Oper.upon_value]
 go_wp2
 rw [zbP _ 80 _ _ _ _ Tryz.underlying80];simp only [Result.andThen];rw [Oper.upon_value]
 go_wp2
 go_ret
 exact ⟨V,V⟩
theorem zaP (w:World):
  Calls Tryz.prog 156 #[.map none] w fun e w'=>e= .returned (.map none)∧w'=w:=by
 have hq:=fun w=>Vc (P:=Tryz.prog) w 80 _ _ none Tryz.underlying80
 go_enter Tryz.func156,Tryz.ntmps156
 go_wp2
 go_ret
 exact ⟨V,V⟩
end
section
section
variable {P:Program}{Γ:Cx}{σ:St}{Q:Exit→Act→World→Prop}
end
theorem bldL2 {A:Option Addr} {n c:Nat} {M:Option Nat}:Bld Tryz.prog 82 [0,1] [isD<|.slice A n c,isD<|.map M] [isD<|.slice A n c,isD<|.map M]:=fun L w vs hv=>by
 obtain ⟨u,v,rfl,rfl,rfl⟩:=zdB hv;exact ⟨[.slice A n c,.map M],⟨V,V,t9⟩,fun w'=>by kernel_rfl⟩
end
section
section
variable {P:Program}{Γ:Cx}{σ:St}{Q:Exit→Act→World→Prop}
theorem SW.vecNil {c:Code} {α:Type} {enc:α→List D} {sz:Nat} [Row enc sz] {e cp:Nat} {A:Option Addr} {F:LN} {l:List α} (j:Nat) (hj:σ.bx[j]? =some (.r F<|yP e sz enc A cp l)) (hA:A.isNone=true) (h:l=[]→SW P Γ σ c Q):SW P Γ σ c Q:=fun a w hh=>by
 refine h ?_ a w hh;obtain ⟨h1,h2⟩:=zce (hh.resAt hj) (L':=[]) (fun x hx=>by cases hx) (fun g hg hx=>by cases hx)
 cases l with
 | nil=>rfl
 | cons x l=>
  obtain ⟨g,o,e,_⟩:=h2 (by rw [qE (enc:=enc) (sz:=sz)];exact Nat.mul_pos s9<|Row.pos (enc:=enc));rw [e] at hA
  cases hA
end
theorem zbX {κ:Type} (enc:κ→Value) (ks:List κ) (f:κ→D) (M:Option Nat) (G:LN):ConR Tryz.prog 156 [.r G<|zam M enc ks f] [isD<|.map M] (fun t:Option Nat × LN=>[.r G<|zam M enc ks f,.r t.2<|zam t.1 enc ks f]) (fun t=>isD<|.map t.1):=by
 refine ⟨enters_of Tryz.func156 k9 V,fun L w vs hL hG hgl hoff hnd hbx ha=> ?_⟩
 match vs,ha with
 | [v],ha=>
  obtain rfl:v= .map M:=ha.1;obtain ⟨es,hm,hk,hv⟩:=hbx _ (m9 rfl);have hm0:=hm
  have fp1:fps [Box.r G<|zam M enc ks f]=G:=by simp [fps,Box.fp]
  rw [fp1] at hv hnd hoff;rcases hm with ⟨rfl,rfl,rfl⟩ | ⟨g,ck,rfl,hh,rfl,hbn⟩
  ·refine (zaP w).mono fun e w' ⟨he,hw⟩=> ?_;subst hw;refine ⟨(none,[]),.map none,he,V,fun b hb=> ?_,by simp [fps,Box.fp],fun g hg=>by simp [fps,Box.fp] at hg,Only.refl _ _⟩
   have hb':b=Box.r [] (zam none enc ks f):=by simpa using hb
   rw [hb'];exact ⟨#[],.inl ⟨V,V,V⟩,hk,by simpa [fps,Box.fp] using hv⟩
  ·refine (zaO g es ck w hh).mono fun e w' ⟨he,hw⟩=> ?_;subst hw;have hg:g < w.heap.size:=(Jn.1 hh).1;have ho:Only [] w (w.alloc<|.map es ck):=(Only.refl [] w).alloc _
   have fp2:fps [Box.r [g]<|zam (some g) enc ks f,Box.r [w.heap.size]<|zam (some w.heap.size) enc ks f]=[g,w.heap.size]:=by simp [fps,Box.fp]
   have h1:All ([g,w.heap.size] ++ L) w (ks.map f) (es.toList.map fun e:MapEntry=>e.val):=by
    refine hv.less fun x hx=> ?_;simp at hx;rcases hx with h | h | h
    ·exact .inl (by simp [h])
    ·exact .inr o9
    ·exact .inl (by simp [h])
   have h2:=h1.keep ho (fun x hx=>by cases hx);refine ⟨(some w.heap.size,[w.heap.size]),.map<|some w.heap.size,he,V,fun b hb=> ?_,by rw [fp2];simp;omega,fun x hx=> ?_,ho.mono s9⟩
   ·rw [fp2];simp at hb;rcases hb with rfl | rfl
    ·exact ⟨es,.inr ⟨g,ck,V,by rw [(MapKept.heap_alloc w _).2 g hg];exact hh,rfl,hbn⟩,hk,h2⟩
    ·exact ⟨es,.inr ⟨w.heap.size,ck,V,(MapKept.heap_alloc w _).1,V,hbn⟩,hk,h2⟩
   ·rw [fp2] at hx;rw [fp1];simp at hx;rcases hx with h | h
    ·exact .inl (by simp [h])
    ·exact .inr o9
theorem zfB (l:List Led.Ent) (hl:l.length≤1000000) (s:Vst):ConR Tryz.prog 155 [.r s.F<|yP 85 2 encE s.A s.c<|l] [isD<|.slice s.A l.length s.c] (fun t:Vst=>[.r s.F<|yP 85 2 encE s.A s.c<|l,.r t.F<|yP 85 2 encE t.A t.c<|l]) (fun t:Vst=>isD<|.slice t.A l.length t.c):=by
 refine yg Tryz.func155 k9 V k9 fun base w0=>(zp<|zf V<|ze<|zk<|zp<|zd V<|za V (Rd.eqN (e:=85) V V k9)<|ze<|zJ V (fun hb4=> ?_) (fun hb4=> ?_))
 ·refine SW.vecNil 0 V hb4 fun hz=>(zk<|Yf 85 2 encE<|zi<|zf V<|ze<|zQ (fn:=Tryz.f155) (⟨none,0,[]⟩) [0,1] (fun _ _ h=>h) (Rs.le (Rs.one V<|zj V) ?_) d9 ⟨lR V,⟨⟨_,V,ZZ (by rw [hz]) (by rw [hz])⟩,t9⟩⟩);exact zF (by rw [hz];rfl)
 ·skip
  refine zr (zn<|zp (SWl.e2 (S:=[]) (zdx (e:=85) encE 2 32 k9 k9 V) fun g5=>(zd V (SWl.e4 (yN 1 2 32 V V (YE 0 V V) k9 k9 (by simp <;> omega) d9 (fun _ h=>h) V) fun A7 F7 c7=>(zf V<|ze<|zQ (fn:=Tryz.f155) (⟨A7,c7,F7⟩) [0,1] (fun _ _ h=>h) (Rs.le (Rs.one V<|zj V) ?_) d9<|sX V)))))
  exact zb _
theorem zep (gl:Nat) (s:Lst) (es:List Led.Ent) (hl:es.length≤1000000):ConR Tryz.prog 104 [.c gl [isD<|.slice s.A (es).length s.c,isD<|.map s.M],zbH s<|es,zbG s<|es] [pA gl] (fun t:Nat × Lst=>[.c gl [isD<|.slice s.A (es).length s.c,isD<|.map s.M],zbH s<|es,zbG s<|es,.c t.1 [isD<|.slice t.2.A (es).length t.2.c,isD<|.map t.2.M],zbH t.2<|es,zbG t.2<|es]) (fun t:Nat × Lst=>pA t.1):=by
 refine yg Tryz.func104 k9 V k9 fun base w0=>(zp<|zf V<|ze<|zk<|zp<|zd V<|za V (YS V V k9)<|ze<|zE V V<|zr<|zn<|zk<|yh (s.F ++ (s.G ++ [])) (rr [0,1,2,3,5,6,7,8]<|.e 4 (.e 9 (.r 10<|.n 11 (.r 12 .fin) .no) .no) .no) k9 k9 (fun d _ _ _ _ h=>by cases d <;> exact h)<|zL V V<|zl V V (zz V)<|zl V V (zc (n:=0) V k9)<|zl V V (zg 0 V V V k9<|yB 1 V d9<|yB 2 V d9 zh)<|zL V V<|zl V V (zz V)<|zl V V (zc (n:=1) V k9)<|zl V V (zg 0 V V V k9<|yB 1 V d9<|yB 2 V d9 zh)<|yW V (zC [1] (zfB es hl ⟨s.A,s.c,s.F⟩) V ⟨zb _,t9⟩ d9 ⟨lR V,t9⟩ (Vf (fun _ h=>mL _ h) Z3) V) ?_ yf)
 rintro _ ⟨s9,rfl⟩;refine yW V (zC [1] (zbX zbJ (Led.keys es.length) (zaM es) s.M s.G) V ⟨zb _,t9⟩ d9 ⟨lR V,t9⟩ (Vf (fun _ h=>mR _<|mL _ h) Z3) V) ?_ yf;rintro _ ⟨s14,rfl⟩;refine zl V V (yq V V bldL2) (ZP V (yv V V) ?_ yf);rintro _ ⟨g16,rfl⟩;refine Zh V V (yI ?_);refine zQ (fn:=Tryz.f104) (((g16,⟨s9.A,s9.c,s9.F,s14.1,s14.2⟩):Nat × Lst)) [0,1,3,5,2,4] (fun _ _ h=>h) (Rs.one V<|zj V) d9 (sX V)
end
section
section
variable {P:Program}{Γ:Cx}{σ:St}{Q:Exit→Act→World→Prop}
end
end
section
end
section
end
section
end
section
end
section
end
section
end
section
theorem zeq (gb:Nat) (s:Bst) (l:List Acc.T) (hf:Acc.Fine l):ConR Tryz.prog 52 [.c gb [isD<|.map<|s.M.map Prod.fst,isD<|.slice s.n.A (Acc.nm l).length s.n.c,isD<|.map<|s.M.map Prod.snd],.r s.n.F<|yP 9 1 YM s.n.A s.n.c<|Acc.nm l,.r s.F1<|Zc (s.M.map Prod.fst) Zi (Acc.nm l)<|acD l,.r s.F2<|Zc (s.M.map Prod.snd) Zy (Acc.seats l)<|seD l] [pA gb] (fun t:Nat × Bst=>[.c gb [isD<|.map<|s.M.map Prod.fst,isD<|.slice s.n.A (Acc.nm l).length s.n.c,isD<|.map<|s.M.map Prod.snd],.r s.n.F<|yP 9 1 YM s.n.A s.n.c<|Acc.nm l,.r s.F1<|Zc (s.M.map Prod.fst) Zi (Acc.nm l)<|acD l,.r s.F2<|Zc (s.M.map Prod.snd) Zy (Acc.seats l)<|seD l,.c t.1 [isD<|.map<|t.2.M.map Prod.fst,isD<|.slice t.2.n.A (Acc.nm l).length t.2.n.c,isD<|.map<|t.2.M.map Prod.snd],.r t.2.n.F<|yP 9 1 YM t.2.n.A t.2.n.c<|Acc.nm l,.r t.2.F1<|Zc (t.2.M.map Prod.fst) Zi (Acc.nm l)<|acD l,.r t.2.F2<|Zc (t.2.M.map Prod.snd) Zy (Acc.seats l)<|seD l]) (fun t:Nat × Bst=>pA t.1):=by
 refine yg Tryz.func52 k9 V k9 fun base w0=>(zp<|zf V<|ze<|zk<|zp<|zd V<|za V (YS V V k9)<|ze<|zE V V<|zr<|zn<|zp<|za V (yq V V bldBk0) (SWl.e2 (S:=[]) (yv V V) fun g9=>(zf V<|ze<|zk<|zk<|Yf 9 1 YM<|zas Zi (acD<|l.take 0)<|zas Zy (seD<|l.take 0)<|zi<|zd V (SWl.e2 (zC [0,1,2,3] (con_list gb s l hf) V ⟨zb _,t9⟩ d9 (sX V) (fun _ h=>h) V) fun _=>(za V (yx (e:=121) V k9)<|zd V<|ze<|zX<|Zw (ι:={p:Nat × Bst // p.1≤l.length}) (fun p=>zN [(3,pA g9),(11,lsD Yz l),(12,iD (l.length:Int)),(13,iD (p.1.1:Int))] [.c gb [isD<|.map<|s.M.map Prod.fst,isD<|.slice s.n.A (Acc.nm l).length s.n.c,isD<|.map<|s.M.map Prod.snd],.r s.n.F<|yP 9 1 YM s.n.A s.n.c<|Acc.nm l,.r s.F1<|Zc (s.M.map Prod.fst) Zi (Acc.nm l)<|acD l,.r s.F2<|Zc (s.M.map Prod.snd) Zy (Acc.seats l)<|seD l,.c g9 [isD<|.map<|p.1.2.M.map Prod.fst,isD<|.slice p.1.2.n.A (Acc.nm<|l.take p.1.1).length p.1.2.n.c,isD<|.map<|p.1.2.M.map Prod.snd],.r p.1.2.n.F<|yP 9 1 YM p.1.2.n.A p.1.2.n.c<|Acc.nm<|l.take p.1.1,.r p.1.2.F1<|Zc (p.1.2.M.map Prod.fst) Zi (Acc.nm<|l.take p.1.1)<|acD<|l.take p.1.1,.r p.1.2.F2<|Zc (p.1.2.M.map Prod.snd) Zy (Acc.seats<|l.take p.1.1)<|seD<|l.take p.1.1]) (fun p=>l.length - p.1.1) (⟨(0,⟨none,[],[],⟨none,0,[]⟩⟩),JC _⟩) ?_ ?_)))))
 ·exact (sB [4,5,6,7,0,1,2,3] V V)
 ·rintro ⟨⟨i,t⟩,hi⟩ K0 hK0;dsimp only at hi ⊢;have hll:=hf.len;refine zp (za V (yF V V)<|ze<|zk<|zJ V (fun hb14=> ?_) (fun hb14=> ?_))
  ·have hb14:=oT hb14;refine zr (zn<|zk<|zX<|zk ?_);obtain ⟨x,hx⟩:∃ x,l[i]? =some x:=⟨_,List.getElem?_eq_getElem o9⟩;have hit:=zab hf.srt hx;have hkl:=(hf.oks x<|List.mem_of_getElem? hx).2.1;exact zi (za V (yp (e:=121) 5 V V k9 k9 o9 (by simpa using hx))<|za V (ZK 5 V k9 d9 (show 5≤5 by decide) s9) (SWl.e2 (S:=[]) (zM (zs:=[.string ⟨#[]⟩,.int .i64 0,.slice none 0 0,.int .i64 0,.int .i64 0]) k9 V) fun g5=>(zt (S:=[_]) (zw 8 V V V k9 V<|m9 V)<|ze<|zi<|zd V<|za V (zA 8 5 V V k9 V zh) (K8 18 V fun A18 c18=>(SWl.e2 (zC [4,5,6,7,9] (con_put g9 t (l.take i) x A18 c18 [] _ (qg _ _ _ _ V) o9 (by simp;omega)<|zdA hf hx) V ⟨zb _,zb _,t9⟩ d9 (sX V) (fun _ h=>h) V) fun s19=>(zP<|yc<|zn<|zO (σ':=zN [(3,_),(11,_),(12,_),(13,_)] [_,_,_,_,_,_,_,_]) (sB [0,1,2,3,5,6,7,8] V V)<|zi<|za V (yC V V ⟨by omega,by omega⟩)<|zd V<|zP (fun a w hh=>hK0 (⟨(i + 1,s19),by dsimp only;omega⟩) (by dsimp only;omega) a w<|hh.sub<|⟨⟨_,V,(sT V)⟩,[0,1,2,3,4,5,6,7],by decide,⟨la rfl,⟨lR rfl,⟨lR rfl,⟨lR rfl,⟨⟨_,rfl,⟨zb _,zF (by rw [hit]),zb _,trivial⟩⟩,⟨⟨_,rfl,ZZ (by rw [hit]) (by rw [hit])⟩,⟨⟨_,rfl,(by rw [hit];exact yu _)⟩,⟨⟨_,rfl,(by rw [hit];exact yu _)⟩,trivial⟩⟩⟩⟩⟩⟩⟩⟩⟩)))))))
  ·have hb14:=oF hb14;refine yZ ?_
   repeat (first | refine Ze ?_ | refine Zf d9 ?_)
   refine Zn (zn<|zp<|zd V<|zf V<|ze ?_);refine zQ (fn:=Tryz.f52) ((g9,t)) [0,1,2,3,4,5,6,7] (fun _ _ h=>h) (Rs.one V<|zj V) d9 ⟨la V,⟨lR V,⟨lR V,⟨lR V,⟨⟨_,V,⟨zb _,zF (by rw [Ji (show l.length≤i by omega)]),zb _,t9⟩⟩,⟨⟨_,V,ZZ (by rw [Ji (show l.length≤i by omega)]) (by rw [Ji (show l.length≤i by omega)])⟩,⟨⟨_,V,(by rw [Ji (show l.length≤i by omega)];exact yu _)⟩,⟨⟨_,V,(by rw [Ji (show l.length≤i by omega)];exact yu _)⟩,t9⟩⟩⟩⟩⟩⟩⟩⟩
