/- THE WALKS of blake.start and (*blake.Hash).absorb. FROM A ROW's WORDS TO THE WALKS' WORDS: arguments, tables, the end's world. A WORLD FOR THE WITNESS -/
import Derived.Test.YtfoafihodanmhaaGreatDoorGZAA
import Derived.Test.YtfoafihodanmhaaGreatDoorCards
import Derived.Test.YtfoafihodanmhaaGreatDoorTie
import Derived.ProofKit
import Derived.OpenShut
import Derived.ChangeSlices
import Derived.Deep.DeepHandedRow
import Derived.Lib.LaidTab
import Derived.Laws.BytesArg
import Derived.Laws.IdiomStrings
import Derived.Still
import Derived.Tactics
import Derived.Deep.RegionHeld3
import Derived.StillTactics
import Derived.Deep.MidRow
set_option maxHeartbeats 8000000
set_option maxRecDepth 100000
namespace Go.Proofs.YtfoafihodanmhaaGreatDoor
open Go.RowKit
def RB (w:World) (A:Option Addr) (bs:LB):Prop:=
 0 < bs.length→∃ g o,A=some ⟨g,o,none⟩∧g < w.heap.size∧∀ j,j < bs.length→w.cell? ⟨g,o + j,none⟩=some (.int .u8 (bs.getD j 0).toNat)
theorem RB.keep {S:LN} {w w':World} {A:Option Addr} {bs:LB} (h:RB w A bs) (ho:Only S w w') (hn:∀ p,A=some p→p.block∉S):RB w' A bs:=by
 intro h0;obtain ⟨g,o,rfl,hg,hc⟩:=h h0;exact ⟨g,o,I,Ju hg ho.size,fun j hj=>(ho.cell (p:=⟨g,o + j,none⟩) hg<|hn ⟨g,o,none⟩ I).trans<|hc j hj⟩
theorem RB.keep0 {w w':World} {A:Option Addr} {bs:LB} (h:RB w A bs) (ho:Only [] w w'):RB w' A bs:=h.keep ho s9
def z64:LB:=List.replicate 64 0
theorem u8size:(Tryz.prog.info? 5).map (·.size)=some 1:=by kernel_rfl
theorem jb {st:LN} {blk xs:LB} {f:Nat} {fill before written:Int} (hs:st.length=8) (_hb:blk.length=64) (hf:f + xs.length≤64):
  splice (Zd st blk fill before written) (9 + f) (cellsOf xs)=Zd st (splice blk f xs) fill before written:=by
 have e:9 + f=(8 + f) + 1:=by omega
 have e2:8 + f + 1 + xs.length=(8 + (f + xs.length)) + 1:=by omega
 simp only [splice,Zd,ye,e,e2,Xo,Xz,List.cons_append];congr 1;rw [List.take_append,List.drop_append,Ji (by simp [hs]),JZ (by simp [hs])];simp only [q9,hs,Nat.add_sub_cancel_left,J0,Jq];congr 1;rw [JQ (by simp [_hb];omega),J3 (by simp [_hb];omega)];simp [cellsOf,XG,List.map_take,List.map_drop]
theorem KA {α:Type} {l xs:List α} {f:Nat} (h:f + xs.length≤l.length):(splice l f xs).length=l.length:=length_splice l f xs h
theorem Kg {st:LN} {blk:LB} {fill before written f':Int} (hs:st.length=8) (hb:blk.length=64):
  (Zd st blk fill before written).set 73 (.int .i64 f')=Zd st blk f' before written:=by
 have e:73=72 + 1:=rfl;rw [e];simp only [Zd,List.set_cons_succ];rw [Xa _ _ (by simp [hs]),Xa _ _ (by simp [hs,hb])];simp [hs,hb]
theorem KI {st:LN} {blk:LB} {fill before written f':Int} (hs:st.length=8) (hb:blk.length=64):
  (Zd st blk fill before written).set 74 (.int .u64 f')=Zd st blk fill f' written:=by
 have e:74=73 + 1:=rfl;rw [e];simp only [Zd,List.set_cons_succ];rw [Xa _ _ (by simp [hs]),Xa _ _ (by simp [hs,hb])];simp [hs,hb]
theorem zam {st:LN} {blk:LB} {fill before written f':Int} (hs:st.length=8) (hb:blk.length=64):
  (Zd st blk fill before written).set 75 (.int .i64 f')=Zd st blk fill before f':=by
 have e:75=74 + 1:=rfl;rw [e];simp only [Zd,List.set_cons_succ];rw [Xa _ _ (by simp [hs]),Xa _ _ (by simp [hs,hb])];simp [hs,hb]
def HSx (w:World) (gh nk:Nat) (M:LB) (written fill q:Nat):Prop:=
 ∃ blk,Blk w gh 286 (Zd (Bl.stq nk M q) blk (fill:Int) ((64 * q:Nat):Int) (written:Int))∧blk.length=64∧M.length=64 * q + fill∧fill≤64∧blk.take fill=M.drop (64 * q)
def HS (w:World) (gh nk:Nat) (M:LB) (written:Nat):Prop:=∃ fill q,HSx w gh nk M written fill q∧(M≠[]→0 < fill)
theorem jd {key:LB} (hk:key.length≤32):(key ++ List.replicate (64 - key.length) (0:UInt8)).length=64:=by simp;omega
theorem zeC {key:LB} {st:LN} {f b wt:Int} (hs:st.length=8) (hk:key.length≤32):splice (Zd st z64 f b wt) 9 (cellsOf key)=Zd st (key ++ List.replicate (64 - key.length) 0) f b wt:=by
 have e:=jb (st:=st) (blk:=z64) (xs:=key) (f:=0) (fill:=f) (before:=b) (written:=wt) hs rfl o9;rw [Nat.add_zero] at e;rw [e,splice,z64];simp only [XD,J0,JF,List.drop_replicate]
theorem start_any (w:World) (A:Option Addr) (c:Nat) (key:LB) (hk:key.length≤32) (_hc:key.length≤c) (hr:RB w A key) (hgl:Gl w):
  Calls Tryz.prog 171 #[.slice A key.length c] w fun e w'=>e= .returned (.pointer<|some ⟨w.heap.size,0,none⟩)∧HS w' w.heap.size key.length (Bl.kblock key) 0∧Only [] w w':=by
 have hini:∀ j,j < ([Value.int .u32 1779033703,Value.int .u32 3144134277,Value.int .u32 1013904242,Value.int .u32 2773480762,Value.int .u32 1359893119,Value.int .u32 2600822924,Value.int .u32 528734635,Value.int .u32 1541459225]).length→w.cell? ⟨1,0 + j,none⟩=([Value.int .u32 1779033703,Value.int .u32 3144134277,Value.int .u32 1013904242,Value.int .u32 2773480762,Value.int .u32 1359893119,Value.int .u32 2600822924,Value.int .u32 528734635,Value.int .u32 1541459225])[j]? :=by
  intro j hj;have hj':j < 8:=hj;rw [JF,hgl.ini j hj'];have:j < Bl.iv.length:=hj';show _=(yq Bl.iv)[j]?;simp [yq,this]
 have Hini:=Jm hini;clear hini
 go_enter Tryz.func171,Tryz.ntmps171
 go_wp2_with (first | (refine qi rfl 283 _ rfl 1 0 rfl [Value.int .u32 1779033703,Value.int .u32 3144134277,Value.int .u32 1013904242,Value.int .u32 2773480762,Value.int .u32 1359893119,Value.int .u32 2600822924,Value.int .u32 528734635,Value.int .u32 1541459225] _ Tryz.underlying283 rfl zbz Hini.out ?_) | (refine wpl_build rfl 286 _ rfl (.agg (Zd Bl.iv z64 0 0 0).toArray) ?hb ?_;case hb=>kernel_rfl))
 clear Hini;have hB0:=Blk.new w 286 (Zd Bl.iv z64 0 0 0);have hO0:=(Only.refl [] w).alloc (.cells (Zd Bl.iv z64 0 0 0).toArray 286)
 revert hB0 hO0
 generalize World.alloc _ _=W1
 intro hB0 hO0;have cs:W1.cell? ⟨w.heap.size,1,none⟩=some (.int .u32 (1779033703:Int)):=hB0.cellv (KH (i:=0) rfl d9);have fz:=hB0.frozen 1;obtain ⟨z,Hz⟩:∃ n,Hid (n=1779033703 ^^^ (16842784 + key.length * 256)):=⟨_,rfl⟩
 have xz:bits .xor .u32 1779033703 (16842784 + 256 * (key.length:Int))=(z:Int):=by
  have:=Xf 1779033703 (16842784 + key.length * 256) d9 o9;rw [Hz.out,← this];congr 1;simp only [Int.natCast_add,Int.natCast_mul];omega
 have hB1:Blk ((W1.setCell ⟨w.heap.size,1,none⟩<|.int .u32 (z:Int)).drew) w.heap.size 286 (Zd (Bl.st0 key.length) z64 0 0 0):=by
  have e:Bl.st0 key.length=Bl.iv.set 0 z:=by rw [Hz.out];rfl
  rw [e,← zaz (i:=0) rfl d9];exact (hB0.set 1 _).drew
 have hO1:=(hO0.setCell (p:=⟨w.heap.size,1,none⟩) (.inr<|Js _)<|.int .u32 (z:Int)).drew;have hs0:(Bl.st0 key.length).length=8:=rfl
 by_cases h0:0 < key.length
 ·have h0':((key.length:Int) == 0)=false:=Xb.2 o9
  go_still_tail 14,k9
  go_upto_region 4 with (fail)
  clear cs fz xz
  revert hB1 hO1
  generalize World.drew _=W2
  intro hB1 hO1;obtain ⟨g,o,rfl,hg,hcl⟩:=hr h0
  have hcl2:∀ j v,(cellsOf key)[j]? =some v→W2.cell? ((⟨g,o,none⟩:Addr).add j)=some v:=by
   intro j v hv
   have hj:j < key.length:=by simpa using (Jg.1 hv).1
   rw [Xg,hO1.cell (p:=⟨g,o + j,none⟩) hg s9,hcl j hj,← hv,VD hj]
  have Hcl:=Jm hcl2;clear hcl hcl2;have hm:Nat.min key.length 64=key.length:=XA o9
  go_wp2_with (refine zba rfl (.tmp 27) (.tmp 28) _ _ rfl 5 Tryz.underlying37 u8size _ _ _ _ _ _ rfl rfl w.heap.size 9 _ _ hB1 (cellsOf key) (by rw [ye];exact hm.symm) (fun _=>⟨rfl,_,rfl,Hcl.out⟩) (by rw [jf hs0 rfl,ye];omega) YT ?_;intro W3 hB3 hO3;rw [zeC hs0 hk] at hB3;have fz:=hB3.frozen 73;have c73:W3.cell? ⟨w.heap.size,73,none⟩=some (.int .i64 0):=hB3.cellv<|Zi hs0 (jd hk) 0)
  go_ret
  refine ⟨I,⟨64,0,⟨_,?_,jd hk,?_,Js _,?_⟩,fun _=>by decide⟩,?_⟩
  ·have:=hB3.set 73 (.int .i64 64);rw [Kg hs0<|jd hk] at this;exact this
  ·have:key.length≠0:=by omega
   simp [Bl.kblock,this];omega
  ·have:key.length≠0:=by omega
   rw [Ji (by rw [jd hk];exact Js _)];simp [Bl.kblock,this]
  ·exact (hO1.trans hO3 s9).setCell (p:=⟨w.heap.size,73,none⟩) (.inr<|Js _) _
 ·have h0':key.length≤0:=by omega
  go_still_tail 14,k9
  go_wp2
  go_ret
  have hz:Bl.kblock key=[]:=by unfold Bl.kblock;rw [Jh o9]
  rw [hz];exact ⟨I,⟨0,0,⟨z64,hB1,I,I,by decide,rfl⟩,fun h=>absurd I h⟩,hO1⟩
end Go.Proofs.YtfoafihodanmhaaGreatDoor
namespace Go.Proofs.YtfoafihodanmhaaGreatDoor
open Go.ChangeShapes Go.WideShapes Go.ChangeAt Go.RowKit
section
variable {H:Type}{enc:TypeId × Value→H}{P:Program}
theorem Kw (hl:laidOutB P=true) {W W':World} (hb:Below W.heap.size W W'):∀ {ts:List TypeId} {vs:List Value} {ds:List (DataW H)} {ps:List MemPlace},
  (∀ t∈ts,P.readableRec t=true∧t < P.types.size)→DataW.TrodAll enc P W 0 (fun _=>true) true ts vs ds ps→(∀ x∈ps,x.block < W.heap.size)→
  DataW.TrodAll enc P W' 0 (fun b=>decide (b < W.heap.size)) true ts vs ds ps
 | [],[],[],_,_,h,_=>h
 | _ :: _,_ :: _,_ :: _,_,hT,⟨p,q,h1,h2,e⟩,hs=>
  ⟨p,q,Below.trod hl (hT _<|Jt.2<|Or.inl rfl).1 (hT _<|Jt.2<|Or.inl rfl).2 h1 hb (fun x hx=>hs x (by rw [e];exact mL _ hx)),
   Kw hl hb (fun t ht=>hT t<|Jt.2<|Or.inr ht) h2 (fun x hx=>hs x (by rw [e];exact mR _ hx)),e⟩
theorem post_kept {f:Func} {s:ChangeSpec} {W W':World} {args:Array Value} {ds gs:List (DataW H)} {before:List MemPlace} {tb:TypeId}
  (hl:laidOutB P=true) (hts:∀ t∈f.params.toList,P.readableRec t=true∧t < P.types.size) (hrt:f.resultTypes= #[tb]) (hb4:P.underlying tb=some .bool) (hv:s.vars=[])
  (hW:DataW.Whole enc P f.params.toList s.vars false W args.toList ds gs before)
  (h1:(s.fn H<|ds ++ gs).results=[.lit<|.bool true]) (h2:(s.fn H<|ds ++ gs).args=ds) (h3:(s.fn H<|ds ++ gs).vars=[]) (hb:Below W.heap.size W W'):
  s.post enc P f false true false false W args (.bool true) W':=by
 have hW':=hW;have hlt:=hW.lt;obtain ⟨p,q,hA,hV,rfl,hfz,hnd⟩:=hW;refine ⟨ds,gs,_,[],p,[],hW',?_,?_,?_,hb.frame _,fun h=>by cases h⟩
 ·rw [hrt,h1];exact trodAll_cons_mk (shut_bool hb4 _) trodAll_mk0
 ·rw [h2];exact Kw hl hb hts hA (fun x hx=>hlt x<|mL _ hx)
 ·rw [h3,hv]
  rfl
theorem zdn {w:World} {a:Addr} {v:Value} (h:w.cell? a=some v):a.block < w.heap.size:=by
 by_cases hl:a.block < w.heap.size
 ·exact hl
 ·have:w.heap[a.block]? =none:=by simp;omega
  simp [World.cell?,this] at h
theorem zcQ {w:World} {base:Nat} {sp:Nat→Bool} {held:Bool} {fuel:Nat} {t t' e:TypeId} {n m:Nat} {k:IntKind} {cs:List Value} {rows:List (List Int)} {p:List MemPlace}
  (ht:P.underlying t=some (.array n t')) (ht':P.underlying t'=some (.array m e)) (he:P.underlying e=some (.int k)) (hce:P.cellsOf e=1) (hct:P.cellsOf t'=m)
  (h:DataW.trod enc P w base sp held fuel t cs=some (.agg<|rows.map<|Lib.tabData k,p)) (r j:Nat) (hr:r < n) (hj:j < m):cs[r * m + j]? =((rows.getD r []).map<|Value.int k)[j]? :=by
 cases fuel with
 | zero=>simp [DataW.trod] at h
 | succ fuel=>
  simp only [DataW.trod,ht,hct] at h
  split at h
  ·obtain ⟨xs,hm,hx⟩:=Jy.1 h
   have hxs:xs.map (·.1)=rows.map (Lib.tabData k):=by
    have:=JY Prod.fst hx;simpa using this
   obtain ⟨b,hb,hf⟩:=Lib.mapM_at hm r r (by simp [hr])
   have h2:(xs.map (·.1))[r]? =some b.1:=by simp [hb]
   rw [hxs] at h2;simp only [JJ,Jy] at h2;obtain ⟨zs,hz,e1⟩:=h2
   have hf':DataW.trod enc P w base sp held fuel t' ((cs.drop<|r * m).take m)=some (Lib.tabData k zs,b.2):=by rw [hf,e1]
   have h3:=Lib.cells_of_tab ht' he hce hct hf';have h4:=JY (·[j]?) h3;simp only [JP,hj,if_true,List.getElem?_drop] at h4;rw [h4];simp [List.getD,hz]
  ·cases h
end
theorem zeX {W : World} (h : laidMetH Tryz.prog [("bandplan/blake.order", Rows.laid_bandplan_blake_order), ("bandplan/blake.initial", Rows.laid_bandplan_blake_initial)] W) : Gl W := by
 obtain ⟨ps,⟨g,t,cs,fuel,p,q,hg,ht,hvar,hd,⟨g2,t2,cs2,fuel2,p2,q2,hg2,ht2,hvar2,hd2,-,-⟩,-⟩,-⟩:=h;obtain rfl : 2 = g := JN ((show Tryz.prog.globalNamed "bandplan/blake.order" = some 2 by kernel_rfl).symm.trans hg);obtain rfl : 1 = g2 := JN ((show Tryz.prog.globalNamed "bandplan/blake.initial" = some 1 by kernel_rfl).symm.trans hg2);obtain rfl:296=t:=JN ((show (Tryz.prog.globals[2]?).map (·.type)=some 296 by kernel_rfl).symm.trans ht);obtain rfl:283=t2:=JN ((show (Tryz.prog.globals[1]?).map (·.type)=some 283 by kernel_rfl).symm.trans ht2);have e1:=fun r j hr hj=>zcQ (rows:=Bl.tab.map fun zs=>zs.map fun (n:Nat)=>(n:Int)) (k:= .u8) Tryz.underlying296 Tryz.underlying295 Tryz.underlying5 k9 k9 hd r j hr hj;have e2:=Lib.cells_of_tab (zs:=Bl.iv.map fun (n:Nat)=>(n:Int)) (k:= .u32) Tryz.underlying283 Tryz.underlying209 k9 k9 hd2;have c1:=World.var?_cell hg hvar;have c2:=World.var?_cell hg2 hvar2
 have f1:∀ j,j < 8→W.cell? ⟨1,j,none⟩=some (.int .u32 (Bl.iv.getD j 0:Nat)):=by
  intro j hj;rw [c2,← Array.getElem?_toList,e2];have hl:j < Bl.iv.length:=hj;simp [List.getD,hl]
 have f2:∀ r j,r < 10→j < 16→W.cell? ⟨2,16 * r + j,none⟩=some (.int .u8 ((Bl.tab.getD r []).getD j 0:Nat)):=by
  intro r j hr hj;rw [c1,← Array.getElem?_toList,Nat.mul_comm 16 r,e1 r j hr hj];have hl:r < Bl.tab.length:=hr
  have hl2:j < (Bl.tab[r]).length:=by
   have h16:∀ x∈Bl.tab,x.length=16:=by decide
   rw [h16 _<|List.getElem_mem hl];exact hj
  simp [List.getD,hl,hl2]
 have l1:=zdn (f1 0 d9);have l2:=zdn (f2 0 0 d9 d9);refine ⟨f1,f2,?_⟩;have l3:1 < W.heap.size:=l1;have l4:2 < W.heap.size:=l2;omega
end Go.Proofs.YtfoafihodanmhaaGreatDoor
namespace Go.Proofs.YtfoafihodanmhaaGreatDoor
def relay (cs:Array Value):Obj→Obj
 | .cells _ t frozen=> .cells cs t frozen
 | o=>o
noncomputable def Wv (os:Os):World:=
 { World.holding Tryz.prog os ⟨#[],#[],[]⟩ with heap:=((World.holding Tryz.prog os ⟨#[],#[],[]⟩).heap.modify 2<|relay #[.int .u8 0,.int .u8 1,.int .u8 2,.int .u8 3,.int .u8 4,.int .u8 5,.int .u8 6,.int .u8 7,.int .u8 8,.int .u8 9,.int .u8 10,.int .u8 11,.int .u8 12,.int .u8 13,.int .u8 14,.int .u8 15,.int .u8 14,.int .u8 10,.int .u8 4,.int .u8 8,.int .u8 9,.int .u8 15,.int .u8 13,.int .u8 6,.int .u8 1,.int .u8 12,.int .u8 0,.int .u8 2,.int .u8 11,.int .u8 7,.int .u8 5,.int .u8 3,.int .u8 11,.int .u8 8,.int .u8 12,.int .u8 0,.int .u8 5,.int .u8 2,.int .u8 15,.int .u8 13,.int .u8 10,.int .u8 14,.int .u8 3,.int .u8 6,.int .u8 7,.int .u8 1,.int .u8 9,.int .u8 4,.int .u8 7,.int .u8 9,.int .u8 3,.int .u8 1,.int .u8 13,.int .u8 12,.int .u8 11,.int .u8 14,.int .u8 2,.int .u8 6,.int .u8 5,.int .u8 10,.int .u8 4,.int .u8 0,.int .u8 15,.int .u8 8,.int .u8 9,.int .u8 0,.int .u8 5,.int .u8 7,.int .u8 2,.int .u8 4,.int .u8 10,.int .u8 15,.int .u8 14,.int .u8 1,.int .u8 11,.int .u8 12,.int .u8 6,.int .u8 8,.int .u8 3,.int .u8 13,.int .u8 2,.int .u8 12,.int .u8 6,.int .u8 10,.int .u8 0,.int .u8 11,.int .u8 8,.int .u8 3,.int .u8 4,.int .u8 13,.int .u8 7,.int .u8 5,.int .u8 15,.int .u8 14,.int .u8 1,.int .u8 9,.int .u8 12,.int .u8 5,.int .u8 1,.int .u8 15,.int .u8 14,.int .u8 13,.int .u8 4,.int .u8 10,.int .u8 0,.int .u8 7,.int .u8 6,.int .u8 3,.int .u8 9,.int .u8 2,.int .u8 8,.int .u8 11,.int .u8 13,.int .u8 11,.int .u8 7,.int .u8 14,.int .u8 12,.int .u8 1,.int .u8 3,.int .u8 9,.int .u8 5,.int .u8 0,.int .u8 15,.int .u8 4,.int .u8 8,.int .u8 6,.int .u8 2,.int .u8 10,.int .u8 6,.int .u8 15,.int .u8 14,.int .u8 9,.int .u8 11,.int .u8 3,.int .u8 0,.int .u8 8,.int .u8 12,.int .u8 2,.int .u8 13,.int .u8 7,.int .u8 1,.int .u8 4,.int .u8 10,.int .u8 5,.int .u8 10,.int .u8 2,.int .u8 8,.int .u8 4,.int .u8 7,.int .u8 6,.int .u8 1,.int .u8 5,.int .u8 15,.int .u8 11,.int .u8 9,.int .u8 14,.int .u8 3,.int .u8 12,.int .u8 13,.int .u8 0]).modify 1 (relay #[.int .u32 1779033703,.int .u32 3144134277,.int .u32 1013904242,.int .u32 2773480762,.int .u32 1359893119,.int .u32 2600822924,.int .u32 528734635,.int .u32 1541459225]) }
end Go.Proofs.YtfoafihodanmhaaGreatDoor
namespace Go.Proofs.YtfoafihodanmhaaGreatDoor
open Go.RowKit
section
variable {P:Program}{w:World}{ops:Array Oper}{rest:List Oper}{o:Oper}{a:Act}{Q:Exit→Act→World→Prop}
theorem za9 (z:Value) (n:Nat):(Builtin.zeroCells #[z] n).toList=List.replicate n z:=by
 apply Xh;intro i;simp only [Builtin.zeroCells,Array.toList_map,Array.toList_range,JJ,Xj]
 by_cases h:i < n
 ·rw [List.getElem?_range (by simpa using h)];simp [h,Nat.mod_one]
 ·rw [JM (by simpa using h)];simp [h]
theorem wpl_clear (hgd : o.guard = none) (x : Operand) (t : TypeId) (ho : o.op = .call { callee := .builtin .clear, args := #[x], argTypes := #[t] })
    (e : TypeId) (hu : P.underlying t = some (.slice e)) (i : TypeInfo) (hi : P.info? e = some i) (z : Value) (hz : i.zero = some z) (hzc : z.cells = #[z]) (hz1 : z.oneCell' = true)
    (A : Option Addr) (n c : Nat) (hx : a.eval x = .slice A n c) (g off : Nat) (tt : TypeId) (cur : List Value) (hb : Blk w g tt cur) (hA : 0 < n → A = some ⟨g, off, none⟩) (hfit : off + n ≤ cur.length)
    (h : ∀ w', Blk w' g tt (cur.take off ++ (List.replicate n z ++ cur.drop (off + n))) → Only [g] w w' → wpList P ops Q rest (a.put o.dst (.tuple #[])) w') : wpList P ops Q (o :: rest) a w := by
  refine wpList_plain hgd fun K hK => ?_
  unfold Oper.wp execOp
  simp only [ho, resolve, invoke, builtin, Sem.run_bind, Sem.run_pure, Result.andThen_ok, List.map_toArray, List.map_cons, List.map_nil, hx]
  by_cases h0 : n = 0
  · subst h0
    have hr : (Builtin.clear_ #[t] o.type #[.slice A 0 c]).run P w = .ok (.tuple #[]) w := by
      cases A <;> simp [Builtin.clear_, run_underlying hu]
    rw [hr]
    exact hK _ _ (h w (by simpa using hb) (Only.refl _ _))
  · obtain rfl := hA o9
    obtain ⟨h1, h2⟩ := Yk (List.replicate n z) off cur w hb (by simpa using hfit)
    have hst := run_storeCells_cells (P := P) g off (List.replicate n z) 0 w
      (fun j hj => by rw [Nat.add_zero, hb.cell]; have : off + j < cur.length := by simp at hj; omega
                      simp [this]) (fun j _ => hb.frozen _) (fun v hv => by rw [List.eq_of_mem_replicate hv]; exact hz1)
    have hr : (Builtin.clear_ #[t] o.type #[.slice (some ⟨g, off, none⟩) n c]).run P w = .ok (.tuple #[]) (w.setCells g off (List.replicate n z)) := by
      obtain ⟨m, rfl⟩ : ∃ m, n = m + 1 := ⟨n - 1, by omega⟩
      simp [Builtin.clear_, run_underlying hu, zeroValue, typeInfo, hi, hz, hzc, za9, hst]
    rw [hr]
    refine hK _ _ (h _ ?_ h2)
    simpa using h1
end
def RV (w:World) (A:Option Addr) (xs:List Value):Prop:=
 0 < xs.length→∃ g o,A=some ⟨g,o,none⟩∧g < w.heap.size∧∀ j,j < xs.length→w.cell? ⟨g,o + j,none⟩=xs[j]?
namespace RV
variable {w w':World}{A:Option Addr}{xs:List Value}{S:List Nat}
theorem keep (h:RV w A xs) (ho:Only S w w') (hn:∀ p,A=some p→p.block∉S):RV w' A xs:=by
 intro h0;obtain ⟨g,o,rfl,hg,hc⟩:=h h0;exact ⟨g,o,I,Ju hg ho.size,fun j hj=>(ho.cell (p:=⟨g,o + j,none⟩) hg<|hn ⟨g,o,none⟩ I).trans<|hc j hj⟩
theorem keep0 (h:RV w A xs) (ho:Only [] w w'):RV w' A xs:=h.keep ho s9
theorem nil:RV w A []:=fun h=>absurd h s9
theorem one (w:World) (t:TypeId) (v:Value):RV (w.alloc<|.cells #[v] t) (some ⟨w.heap.size,0,none⟩) [v]:=by
 intro _;refine ⟨w.heap.size,0,I,by simp,fun j hj=> ?_⟩
 have:j=0:=by simpa using hj
 subst this;exact (Blk.new w t [v]).cellv I
end RV
def OwnS (w:World) (e:TypeId) (A:Option Addr) (c:Nat) (xs:List Value) (G:Option Nat):Prop:=
 (A=none∧c=0∧xs=[]∧G=none)∨∃ g rest,A=some ⟨g,0,none⟩∧G=some g∧Blk w g e (xs ++ rest)∧xs.length + rest.length=c∧c≤maxLen
namespace OwnS
variable {w w':World}{e:TypeId}{A:Option Addr}{c:Nat}{xs:List Value}{G:Option Nat}{S:List Nat}
theorem none (w:World) (e:TypeId):OwnS w e none 0 [] none:= .inl ⟨rfl,rfl,rfl,rfl⟩
theorem keep (h:OwnS w e A c xs G) (ho:Only S w w') (hn:∀ g,G=some g→g∉S):OwnS w' e A c xs G:=by
 rcases h with h | ⟨g,r,h1,h2,h3,h4⟩
 ·exact .inl h
 ·exact .inr ⟨g,r,h1,h2,h3.keep ho<|hn g h2,h4⟩
theorem lt (h:OwnS w e A c xs G):∀ g,G=some g→g < w.heap.size:=by
 intro g hg;rcases h with h | ⟨g',r,_,h2,h3,_⟩
 ·rw [h.2.2.2] at hg;cases hg
 ·rw [h2] at hg;injection hg with hg;subst hg;exact h3.lt
theorem le (h:OwnS w e A c xs G):xs.length≤c:=by
 rcases h with h | ⟨g,r,_,_,_,h4,_⟩
 ·simp [h.2.2.1]
 ·omega
theorem reads (h:OwnS w e A c xs G):RV w A xs:=by
 intro h0;rcases h with h | ⟨g,r,h1,_,h3,_⟩
 ·rw [h.2.2.1] at h0;simp at h0
 ·exact ⟨g,0,h1,h3.lt,fun j hj=>by rw [JF,h3.cell,JB hj]⟩
theorem blk (h:OwnS w e A c xs G) (h0:0 < xs.length):∃ g rest,A=some ⟨g,0,Option.none⟩∧G=some g∧Blk w g e (xs ++ rest):=by
 rcases h with h | ⟨g,r,h1,h2,h3,_⟩
 ·rw [h.2.2.1] at h0;simp at h0
 ·exact ⟨g,r,h1,h2,h3⟩
theorem drew (h:OwnS w e A c xs G):OwnS w.drew e A c xs G:=h
end OwnS
section
variable {P:Program}{w:World}{ops:Array Oper}{rest:List Oper}{o:Oper}{a:Act}{Q:Exit→Act→World→Prop}
end
section
variable {P:Program}{w:World}{ops:Array Oper}{rest:List Oper}{o:Oper}{a:Act}{Q:Exit→Act→World→Prop}
end
end Go.Proofs.YtfoafihodanmhaaGreatDoor
namespace Go.Proofs.YtfoafihodanmhaaGreatDoor
namespace Ord
variable {P:Program}{ops:Array Oper}{Q:Exit→Act→World→Prop}
variable {E:Nat→Bool}
theorem hnot_of {i j:Nat} {oj:Oper} {listed:Array Bool} (hr:listed.getD i true=false) (hall:∀ e∈oj.after,Region.binds .any e=true→listed.getD e.on false=true) (_hj:ops[j]? =some oj):
  ∀ e∈oj.after,Region.binds .any e=true→e.on≠i:=fun e he hb heq=>by
 have h1:=hall e he hb;rw [heq] at h1;rcases Nat.lt_or_ge i listed.size with h' | h'
 ·simp [h'] at hr h1;rw [hr] at h1;cases h1
 ·simp [Array.getElem?_eq_none h'] at h1
theorem free_next {i j:Nat} {oi:Oper} {listed:Array Bool} (hfree:∀ k ok,ops[k]? =some ok→k≠i→listed.getD k true=false→(∀ e∈ok.after,Region.binds .any e=true→e.on≠i)→oi.apart ops ok=true) (hjun:listed.getD j true=false):
  ∀ k ok,ops[k]? =some ok→k≠i→(listed.setIfInBounds j true).getD k true=false→(∀ e∈ok.after,Region.binds .any e=true→e.on≠i)→oi.apart ops ok=true:=fun k ok hk hki hun hno=>by
 refine hfree k ok hk hki ?_ hno
 by_cases hjk:j=k
 ·subst hjk;exact hjun
 ·rw [getD_set_ne true hjk] at hun;exact hun
def isMove (o:Oper):Bool:=match o.op with | .move _ | .assign _=>true | _=>false
def stepOk (ops:Array Oper) (M:Array Nat) (E:Nat→Bool) (listed:Array Bool) (i:Nat):Bool:=
 if E i then Region.ready .any ops listed == [i]
 else (Region.ready .any ops listed).contains i && Region.free .any ops listed i &&
  (((ops[i]?).map isMove).getD false || (List.range ops.size).all fun j=> !E j || listed.getD j true || (M.getD j 0).testBit i)
end Ord
end Go.Proofs.YtfoafihodanmhaaGreatDoor
namespace Go.Proofs.YtfoafihodanmhaaGreatDoor
open Go.RowKit
namespace Reg
variable {P:Program}{ops:Array Oper}{Q:Exit→Act→World→Prop}{E:Nat→Bool}{S:List Nat}
def extS (S:LN) (w:World) (t:{ w':World // Only S w w' }):World:=t.1
@[go_sem] theorem extS_cell (S:LN) (w:World) (t:{ w':World // Only S w w' }) (p:Addr) (h:p.block < w.heap.size) (hn:p.block∉S):(extS S w t).cell? p=w.cell? p:=t.2.cell h hn
@[go_sem] theorem extS_drew (S:LN) (w:World) (t:{ w':World // Only S w.drew w' }) (p:Addr) (h:p.block < w.heap.size) (hn:p.block∉S):(extS S w.drew t).cell? p=w.cell? p:=t.2.cell (w:=w.drew) h hn
def YieldsX (P:Program) (ops:Array Oper) (S:LN) (w:World) (o:Oper) (v:Value) (a:Act):Prop:=∀ w',Only S w w'→YieldsAt P ops w' o v a
theorem zbO {Y:Act→Prop} {j:Nat} {oi oj:Oper} {v:Value} (hj:ops[j]? =some oj) (hap:oi.apart ops oj=true) (hsj:∀ cs b,oj.op≠ .select cs b)
  (hQ:∀ c a w,Q (.panic c) (a.put oi.dst v) w→Q (.panic c) a w) (keep:∀ a u,Y a→Y (a.put oj.dst u)) (keepD:∀ a d,Y a→Y { a with defers:=d :: a.defers })
  {K:Act→World→Prop} {a:Act} {w:World} (hy:Y a) (h:wpOp P ops Q j K (a.put oi.dst v) w):
  wpOp P ops Q j (fun a' w'=>Y a'∧K (a'.put oi.dst v) w') a w:=by
 obtain ⟨h1,h2,h3⟩:=Oper.apart_spec hap;unfold wpOp at *;simp only [hj] at *;rw [wanted_put oj a oi.dst v h1] at h
 split
 ·rename_i hw;simp only [hw,if_true] at h;rcases h with h | ⟨hasks,hlets⟩
  case inr=>exact .inr ⟨by unfold Oper.asks at *;rw [execOp_put oj hsj a oi.dst v h1] at hasks;exact hasks,hlets⟩
  refine .inl ?_;unfold Oper.wp at *;rw [execOp_put oj hsj a oi.dst v h1] at h
  generalize (execOp a.eval oj).run P w=r at *
  cases r with
  | ok n w'=>
   cases n <;> simp only [Oper.upon] at h ⊢
   case value u=>exact ⟨keep a u hy,by rw [← Xs a v u h2];exact h⟩
   case skip=>exact ⟨keep a _ hy,by rw [← Xs a v undef h2];exact h⟩
   case defer d=>
    refine ⟨keep _ _<|keepD a d hy,?_⟩;rw [← Xs _ v undef h2,← Act.put_defers];exact h
   case enter f args=>
    refine Calls.mono h fun e w'' he=> ?_
    cases e with
    | returned u=>exact ⟨keep a u hy,by rw [← Xs a v u h2];exact he⟩
    | panicked c=>exact hQ _ _ _ he
    | outgrown=>exact he
   case row row args=>exact Rows.mono h fun u w'' he=>⟨keep a u hy,by rw [← Xs a v u h2];exact he⟩
  | halt x w'=>
   cases x <;> simp only [Oper.upon] at h ⊢
   case panic u=>exact hQ _ _ _ h
 ·rename_i hw;simp only [hw] at h;exact ⟨keep a _ hy,by rw [← Xs a v undef h2];exact h⟩
theorem zbS {Y:Act→Prop} {j:Nat} {w:World} {oi oj:Oper} {v:Value} (hj:ops[j]? =some oj) (hap:oi.apart ops oj=true) (hsj:∀ cs b,oj.op≠ .select cs b) (keep:∀ a u,Y a→Y (a.put oj.dst u))
  {K:Act→Prop} {a:Act} (hy:Y a) (h:stOp P ops w j K (a.put oi.dst v)):stOp P ops w j (fun a'=>Y a'∧K (a'.put oi.dst v)) a:=by
 obtain ⟨h1,h2,h3⟩:=Oper.apart_spec hap;unfold stOp at *;simp only [hj] at *;rw [wanted_put oj a oi.dst v h1] at h
 split
 ·rename_i hw;simp only [hw,if_true] at h;unfold Oper.still at *;rw [execOp_put oj hsj a oi.dst v h1] at h
  generalize (execOp a.eval oj).run P w=r at *
  cases r with
  | ok n w'=>
   cases n <;> simp only [Oper.stillUpon] at h ⊢
   case value u=>exact ⟨h.1,keep a u hy,by rw [← Xs a v u h2];exact h.2⟩
   case skip=>exact ⟨h.1,keep a _ hy,by rw [← Xs a v undef h2];exact h.2⟩
   case enter f args=>obtain ⟨hw',u,hc,hn⟩:=h;exact ⟨hw',u,hc,keep a u hy,by rw [← Xs a v u h2];exact hn⟩
  | halt x w'=>simp only [Oper.stillUpon] at h
 ·rename_i hw;simp only [hw] at h;exact ⟨keep a _ hy,by rw [← Xs a v undef h2];exact h⟩
def Nx (S:LN) (w:World) (K:Act→World→Prop) (a':Act) (w':World):Prop:=Only S w w'∧K a' w'
def Vu (P:Program) (ops:Array Oper) (Q:Exit→Act→World→Prop) (E:Nat→Bool) (S:LN):Nat→Array Bool→Act→World→Prop
 | 0,listed,a,w=>Region.ready .any ops listed=[]∧Q .normal a w
 | fuel + 1,listed,a,w=>
  (Region.ready .any ops listed=[]→Q .normal a w)∧
  ∀ i∈Region.ready .any ops listed,(E i=true→wpOp P ops Q i (Nx S w<|Vu P ops Q E S fuel<|listed.setIfInBounds i true) a w)∧
   (E i=false→stOp P ops w i (fun a'=>Vu P ops Q E S fuel (listed.setIfInBounds i true) a' w) a)
theorem K7:∀ (fuel:Nat) (listed:Array Bool) (a:Act) (w:World),Vu P ops Q E S fuel listed a w→wpAny P .any ops Q fuel listed a w
 | 0,_,_,_,h=>h
 | fuel + 1,_,_,_,h=>⟨h.1,fun i hi=>by
   cases hE:E i
   ·exact wpOp_of_stOp (fun a' h'=>K7 fuel _ a' _ h') ((h.2 i hi).2 hE)
   ·exact wpOp_mono (fun a' w' h'=>K7 fuel _ a' w' h'.2)<|(h.2 i hi).1 hE⟩
theorem YieldsX.keep {w:World} {oi oj:Oper} {v:Value} (hap:oi.apart ops oj=true) (hsi:∀ cs b,oi.op≠ .select cs b) (a:Act) (u:Value) (h:YieldsX P ops S w oi v a):YieldsX P ops S w oi v (a.put oj.dst u):=by
 obtain ⟨_,_,h3⟩:=Oper.apart_spec hap;exact fun w' hw=>(h w' hw).of_same (execOp_put oi hsi a oj.dst u h3) (wanted_put oi a oj.dst u h3)
theorem take {i:Nat} {oi:Oper} {v:Value} (hi:ops[i]? =some oi) (hEi:E i=false) (hsel:∀ (j:Nat) (o:Oper) cs b,ops[j]? =some o→o.op≠ .select cs b)
  (hQ:∀ c a w,Q (.panic c) (a.put oi.dst v) w→Q (.panic c) a w):
  ∀ (fuel:Nat) (listed:Array Bool) (a:Act) (w:World),
   (∀ j oj,ops[j]? =some oj→j≠i→listed.getD j true=false→(∀ e∈oj.after,Region.binds .any e=true→e.on≠i)→oi.apart ops oj=true)→
   i∈Region.ready .any ops listed→YieldsX P ops S w oi v a→
   Vu P ops Q E S fuel (listed.setIfInBounds i true) (a.put oi.dst v) w→Vu P ops Q E S (fuel + 1) listed a w:=by
 intro fuel
 induction fuel with
 | zero=>
  intro listed a w _ hr hy H;refine ⟨fun h=>(by rw [h] at hr;cases hr),fun j hj=> ?_⟩
  by_cases hji:j=i
  ·subst hji;exact ⟨fun h=>(by rw [hEi] at h;cases h),fun _=>(hy w<|Only.refl _ _).stOp hi H⟩
  ·have:=XB hj hji;rw [H.1] at this
   cases this
 | succ fuel ih=>
  intro listed a w hfree hr hy H;refine ⟨fun h=>(by rw [h] at hr;cases hr),fun j hj=> ?_⟩
  by_cases hji:j=i
  ·subst hji;exact ⟨fun h=>(by rw [hEi] at h;cases h),fun _=>(hy w<|Only.refl _ _).stOp hi H⟩
  ·obtain ⟨hjun,oj,hoj,hall⟩:=mem_ready.1 hj;have hun:=(mem_ready.1 hr).1;have hnot:=Ord.hnot_of hun hall hoj;have h1:=H.2 j (XB hj hji);have hap:=hfree j oj hoj hji hjun hnot;refine ⟨fun hEj=> ?_,fun hEj=> ?_⟩
   ·have h2:=zbO (Y:=fun a=>YieldsX P ops S w oi v a) hoj hap (fun cs b=>hsel j oj cs b hoj) hQ (fun a u h=>h.keep hap (fun cs b=>hsel i oi cs b hi) a u) (fun a d h w' hw=>(h w' hw).of_same rfl rfl) hy (h1.1 hEj);refine wpOp_mono (fun a' w' h3=> ?_) h2;obtain ⟨h4,h5,h6⟩:=h3;refine ⟨h5,ih (listed.setIfInBounds j true) a' w' (Ord.free_next hfree hjun) (XB hr<|Ne.symm hji) (fun w'' hw=>h4 w''<|h5.trans' hw) ?_⟩;rw [Xr _ _ hji];exact h6
   ·have h2:=zbS (Y:=fun a=>YieldsX P ops S w oi v a) hoj hap (fun cs b=>hsel j oj cs b hoj) (fun a u h=>h.keep hap (fun cs b=>hsel i oi cs b hi) a u) hy (h1.2 hEj);refine stOp_mono (fun a' h3=>ih (listed.setIfInBounds j true) a' w (Ord.free_next hfree hjun) (XB hr<|Ne.symm hji) h3.1 ?_) h2;rw [Xr _ _ hji];exact h3.2
inductive Stp where
 | r (i:Nat)
 | e (i:Nat)
def Stp.at:Stp→Nat
 | .r i=>i
 | .e i=>i
def Stp.eff:Stp→Bool
 | .r _=>false
 | .e _=>true
def pick (l:List Oper):List Stp→List (Bool × Oper)
 | []=>[]
 | .r i :: ns=>(false,l.getD i default) :: pick l ns
 | .e i :: ns=>(true,l.getD i default) :: pick l ns
def VI (P:Program) (ops:Array Oper) (Q:Exit→Act→World→Prop) (S:LN):List (Bool × Oper)→Act→World→Prop
 | [],a,w=>wpList P ops Q [] a w
 | (true,o) :: rest,a,w=>wpList P ops (Exit.then (Nx S w<|VI P ops Q S rest) Q) [o] a w
 | (false,o) :: rest,a,w=>∃ v,YieldsX P ops S w o v a∧VI P ops Q S rest (a.put o.dst v) w
def stepOk (ops:Array Oper) (E:Nat→Bool) (listed:Array Bool) (s:Stp):Bool:=
 decide (s.at < ops.size) && (E s.at == s.eff) && (if s.eff then Region.ready .any ops listed == [s.at] else (Region.ready .any ops listed).contains s.at && Region.free .any ops listed s.at)
def zeL (ops:Array Oper) (E:Nat→Bool):List Stp→Array Bool→Bool
 | [],listed=>Region.ready .any ops listed == []
 | s :: ss,listed=>stepOk ops E listed s && zeL ops E ss (listed.setIfInBounds s.at true)
theorem K8 {l:List Oper} (hl:ops=l.toArray) (hsel:Region.noSelect ops=true) (hQ:∀ (d:Option Tmp) (v:Value) (c:List PanicEntry) (a:Act) (w:World),Q (.panic c) (a.put d v) w→Q (.panic c) a w):
  ∀ (ss:List Stp) (listed:Array Bool) (a:Act) (w:World),zeL ops E ss listed=true→VI P ops Q S (pick l ss) a w→Vu P ops Q E S ss.length listed a w
 | [],listed,a,w,hok,h=>⟨by simpa [zeL] using hok,h⟩
 | .r i :: ss,listed,a,w,hok,h=>by
  simp only [zeL,stepOk,Stp.at,Stp.eff,JL,JT,Bool.false_eq_true,if_false] at hok;obtain ⟨⟨⟨hi,hE⟩,hr,hf⟩,h2⟩:=hok;obtain ⟨v,hy,hn⟩:=h
  have hgi:ops[i]? =some (l.getD i default):=by
   subst hl
   have:i < l.length:=by simpa using hi
   simp [List.getD,this]
  have ih:=K8 hl hsel hQ ss (listed.setIfInBounds i true) _ w h2 hn;exact take hgi hE (Region.noSelect_spec hsel) (fun c a w=>hQ _ v c a w) ss.length listed a w (Region.free_spec hgi hf) (by simpa using hr) hy ih
 | .e i :: ss,listed,a,w,hok,h=>by
  simp only [zeL,stepOk,Stp.at,Stp.eff,JL,JT,if_true] at hok;obtain ⟨⟨⟨hi,hE⟩,hr⟩,h2⟩:=hok
  have hgi:ops[i]? =some (l.getD i default):=by
   subst hl
   have:i < l.length:=by simpa using hi
   simp [List.getD,this]
  refine ⟨fun h0=>(by rw [hr] at h0;cases h0),fun j hj=> ?_⟩;rw [hr] at hj
  obtain rfl:j=i:=by simpa using hj
  refine ⟨fun _=> ?_,fun h0=>(by rw [hE] at h0;cases h0)⟩;have ih:∀ a' w',Nx S w (VI P ops Q S<|pick l ss) a' w'→Nx S w (Vu P ops Q E S ss.length<|listed.setIfInBounds j true) a' w':=fun a' w' h'=>⟨h'.1,K8 hl hsel hQ ss _ a' w' h2 h'.2⟩;have h':wpList P ops (Exit.then (Nx S w<|VI P ops Q S<|pick l ss) Q) [l.getD j default] a w:=h;unfold wpOp;simp only [hgi];unfold wpList at h'
  split
  ·rename_i hw;rw [Jh hw] at h';rcases h' with h' | ⟨h1,a0,w0,h3⟩
   ·refine .inl ?_;have h3:=Oper.wp_mono (P:=P) (K':=Nx S w<|Vu P ops Q E S ss.length<|listed.setIfInBounds j true) (fun a' w' h4=>ih a' w' h4) h';unfold Oper.wp at h3 ⊢
    generalize (execOp a.eval<|l.getD j default).run P w=r at *
    cases r with
    | ok n w'=>
     cases n <;> simp only [Oper.upon] at h3 ⊢ <;> first | exact h3 | exact Calls.mono h3 (fun e w'' he=>by cases e <;> exact he)
    | halt x w'=>cases x <;> simp only [Oper.upon] at h3 ⊢ <;> exact h3
   ·exact .inr ⟨h1,a0,w0,h3⟩
  ·rename_i hw;rw [Jb hw] at h';exact ih _ _ h'
def effs:List Stp→Nat→Bool
 | [],_=>false
 | .r _ :: ss,i=>effs ss i
 | .e j :: ss,i=>(j == i) || effs ss i
def ok (l:List Oper) (ss:List Stp):Bool:=Region.noSelect l.toArray && decide (ss.length=l.length) && zeL l.toArray (effs ss) ss (Array.replicate l.length false)
theorem wp {id:Nat} {l:List Oper} (S:LN) (ss:List Stp) {a:Act} {w:World} (hm:P.follows .mixedOrders=true) (hok:ok l ss=true)
  (hQ:∀ (d:Option Tmp) (v:Value) (c:List PanicEntry) (a:Act) (w:World),Q (.panic c) (a.put d v) w→Q (.panic c) a w)
  (h:VI P l.toArray Q S (pick l ss) a w.drew):(Code.region id l.toArray true).wp P Q a w:=by
 simp only [ok,JL,Jz] at hok;obtain ⟨⟨h1,h2⟩,h3⟩:=hok;refine wp_region_any hm (K7 (E:=effs ss) (S:=S) _ _ _ _ ?_);have:=K8 (P:=P) (Q:=Q) (S:=S) rfl h1 hQ ss (Array.replicate l.length false) a w.drew h3 h;rw [h2] at this;simpa using this
def jQ (P:Program) (w:World) (K:Value→Prop):Result Next→Prop
 | .ok (.value v) w'=>w'=w∧K v
 | .ok .skip w'=>w'=w∧K undef
 | .ok (.enter f args) w'=>w'=w∧∃ v,Calls P f args w (fun e w''=>e= .returned v∧w''=w)∧K v
 | _=>False
def stillV (P:Program) (o:Oper) (a:Act) (w:World) (K:Value→Prop):Prop:=jQ P w K ((execOp a.eval o).run P w)
attribute [go_sem] stillV jQ
theorem read {a:Act} {w:World} {o:Oper} {rest:List (Bool × Oper)} (v:Value)
  (h:∀ (t:{ w':World // Only S w w' }) (K:Value→Prop),(∀ u,u=v→K u)→if Region.wanted o (yielded ops a.tmps)=true then stillV P o a (extS S w t) K else K undef)
  (b:Act) (ha:∀ K:Act→Prop,(∀ u,u=b→K u)→K (a.put o.dst v)) (hn:VI P ops Q S rest b w):VI P ops Q S ((false,o) :: rest) a w:=by
 refine ⟨v,fun w' hw=> ?_,ha (fun x=>VI P ops Q S rest x w) (fun u hu=>by rw [hu];exact hn)⟩;have h1:=h ⟨w',hw⟩ (fun u=>u=v) (fun _ h=>h)
 split at h1
 ·rename_i hwt;unfold stillV at h1;simp only [extS] at h1
  generalize hr:(execOp a.eval o).run P w'=r at h1
  cases r with
  | ok n w''=>
   cases n <;> simp only [jQ] at h1
   case value u=>obtain ⟨rfl,rfl⟩:=h1;exact .inl ⟨hwt,.inl hr⟩
   case skip=>obtain ⟨rfl,rfl⟩:=h1;exact .inl ⟨hwt,.inr<|.inl ⟨hr,rfl⟩⟩
   case enter f args=>obtain ⟨rfl,u,hc,rfl⟩:=h1;exact .inl ⟨hwt,.inr<|.inr ⟨f,args,hr,hc⟩⟩
  | halt x w''=>simp only [jQ] at h1
 ·rename_i hwt;exact .inr ⟨by simpa using hwt,h1.symm⟩
theorem eff {a:Act} {w:World} {o:Oper} {rest:List (Bool × Oper)} (h:wpList P ops (Exit.then (Nx S w<|VI P ops Q S rest) Q) [o] a w):VI P ops Q S ((true,o) :: rest) a w:=h
theorem fin {a:Act} {w:World} (h:wpList P ops Q [] a w):VI P ops Q S [] a w:=h
theorem done {a:Act} {w w':World} {K:Act→World→Prop} (ho:Only S w w') (h:K a w'):wpList P ops (Exit.then (Nx S w K) Q) [] a w':=⟨ho,h⟩
end Reg
namespace Reg
variable {P:Program}{ops:Array Oper}{Q:Exit→Act→World→Prop}{S:List Nat}
end Reg
namespace Reg
variable {P:Program}{ops:Array Oper}{Q:Exit→Act→World→Prop}{E:Nat→Bool}{S:List Nat}
