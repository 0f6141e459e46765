/- ENVELOPES: authentic, Check, Open, Size, Encode, Equal. LEDGERS: made. LEDGERS: the example. LEDGERS: LedgerProves. LEDGERS: clones of one's own, the  -/
import Derived.Test.YtgokpcnabgacnaaGreatDoorGZAU
set_option maxHeartbeats 8000000
set_option maxRecDepth 100000
namespace Go.Proofs.YtgokpcnabgacnaaGreatDoor
open Go.RowKit
namespace Sx
section
abbrev okD (e:Env.T):Bool:=decide (Env.okV e.acc e.rnd e.ser e.box.length e.tag.length)
theorem zfd {e:Env.T} (h:Env.ok e):okD e=true:=Jo h
theorem zfe {e:Env.T} (h:¬Env.ok e):okD e=false:=Jd h
theorem Yu {l:List Int} {e:Int}:qu (unE true e :: l)=qu l:=za3
theorem qQ {l:List Int} {e:Int} (h:e≠0):qu (unE false e :: l)=e:=za4 h
theorem pre2_ok {e:Env.T} (h:Env.ok e) (m:Int):qu [unE true 1,unE (okD e) m]=0:=by rw [zfd h,Yu,Yu];rfl
theorem pre2_no {e:Env.T} (h:¬Env.ok e) {m:Int} (hm:m≠0):qu [unE true 1,unE (okD e) m]=m:=by rw [zfe h,Yu,qQ hm]
theorem pre3_ok {e:Env.T} {key:LB} (h:key.length=32∧Env.ok e):qu [unE true 1,unE (decide (((cellsOf key).length:Int)=32)) 2,unE (okD e) 2]=0:=by
 rw [zfd h.2,Jo (show ((cellsOf key).length:Int)=32 by rw [zx];omega),Yu,Yu,Yu];rfl
theorem pre3_no {e:Env.T} {key:LB} (h:¬(key.length=32∧Env.ok e)):qu [unE true 1,unE (decide (((cellsOf key).length:Int)=32)) 2,unE (okD e) 2]=2:=by
 by_cases h1:key.length=32
 ·rw [zfe (fun h2=>h ⟨h1,h2⟩),Jo (show ((cellsOf key).length:Int)=32 by rw [zx];omega),Yu,Yu,qQ d9]
 ·rw [Jd (show ¬((cellsOf key).length:Int)=32 by rw [zx];omega),Yu,qQ d9]
theorem op_no {l:List Acc.T} {e:Env.T} {key:LB} (h:¬(key.length=32∧Env.ok e)):Env.opE l e key=2∧Env.opB l e key=[]:=by
 have he:Env.opE l e key=2:=by
  unfold Env.opE
  by_cases h1:key.length=32
  ·rw [Jh h1]
   have:Env.autE l e=2:=by unfold Env.autE;rw [Jb (fun h2=>h ⟨h1,h2⟩)]
   rw [this];rfl
  ·rw [Jb h1]
 exact ⟨he,by unfold Env.opB;rw [Jb (by rw [he];decide)]⟩
theorem op_aut {l:List Acc.T} {e:Env.T} {key:LB} (h:key.length=32∧Env.ok e) (ha:Yi l e.acc (Env.sgnT e) e.tag≠0):Env.opE l e key=Yi l e.acc (Env.sgnT e) e.tag∧Env.opB l e key=[]:=by
 have h2:Env.autE l e=Yi l e.acc (Env.sgnT e) e.tag:=by unfold Env.autE;rw [Jh h.2]
 have he:Env.opE l e key=Yi l e.acc (Env.sgnT e) e.tag:=by unfold Env.opE;rw [Jh h.1,h2,Jh ha]
 exact ⟨he,by unfold Env.opB;rw [Jb (by rw [he];exact ha)]⟩
theorem op_bad {l:List Acc.T} {e:Env.T} {key:LB} (h:key.length=32∧Env.ok e) (ha:¬Yi l e.acc (Env.sgnT e) e.tag≠0) (hb:(Sl.openB (Env.keyB key e.acc) e.box).2≠0):Env.opE l e key=10∧Env.opB l e key=[]:=by
 have h2:Env.autE l e=Yi l e.acc (Env.sgnT e) e.tag:=by unfold Env.autE;rw [Jh h.2]
 have he:Env.opE l e key=10:=by unfold Env.opE;rw [Jh h.1,h2,Jb ha,Jh hb]
 exact ⟨he,by unfold Env.opB;rw [Jb (by rw [he];decide)]⟩
theorem op_ok {l:List Acc.T} {e:Env.T} {key:LB} (h:key.length=32∧Env.ok e) (ha:¬Yi l e.acc (Env.sgnT e) e.tag≠0) (hb:¬(Sl.openB (Env.keyB key e.acc) e.box).2≠0):Env.opE l e key=0∧Env.opB l e key=(Sl.openB (Env.keyB key e.acc) e.box).1:=by
 have h2:Env.autE l e=Yi l e.acc (Env.sgnT e) e.tag:=by unfold Env.autE;rw [Jh h.2]
 have he:Env.opE l e key=0:=by unfold Env.opE;rw [Jh h.1,h2,Jb ha,Jb hb]
 exact ⟨he,by unfold Env.opB;rw [Jh he]⟩
theorem pre6 (rnd ser:Int) (key nonce bid:LB):qu [unE true 1,unE (decide (0≤rnd∧rnd≤1048576)) 2,unE (decide (0≤ser∧ser≤1073741824)) 2,unE (decide (((cellsOf key).length:Int)=32)) 2,unE (decide (((cellsOf nonce).length:Int)=16)) 2,unE (decide (0≤((cellsOf bid).length:Int)∧((cellsOf bid).length:Int)≤4096)) 5]=Env.preE rnd ser key.length nonce.length bid.length:=by
 simp only [zx];unfold Env.preE
 rw [Yu]
 by_cases h1:0≤rnd∧rnd≤1048576
 ·rw [Jo h1,Yu]
  by_cases h2:0≤ser∧ser≤1073741824
  ·rw [Jo h2,Yu]
   by_cases h3:key.length=32
   ·rw [Jo (show (key.length:Int)=32 by omega),Yu]
    by_cases h4:nonce.length=16
    ·rw [Jo (show (nonce.length:Int)=16 by omega),Yu,Jh ⟨h1,h2,h3,h4⟩]
     by_cases h5:4096 < bid.length
     ·rw [Jd (show ¬(0≤(bid.length:Int)∧(bid.length:Int)≤4096) by omega),qQ d9,Jh h5]
     ·rw [Jo (show 0≤(bid.length:Int)∧(bid.length:Int)≤4096 by omega),Yu,Jb h5];rfl
    ·rw [Jd (show ¬(nonce.length:Int)=16 by omega),qQ d9,Jb (fun h=>h4 h.2.2.2)]
   ·rw [Jd (show ¬(key.length:Int)=32 by omega),qQ d9,Jb (fun h=>h3 h.2.2.1)]
  ·rw [Jd h2,qQ d9,Jb (fun h=>h2 h.2.1)]
 ·rw [Jd h1,qQ d9,Jb (fun h=>h1 h.1)]
section
variable {l:List Acc.T}{nm:List UInt8}{rnd ser:Int}{key nonce bid:List UInt8}
theorem zim (h:Env.preE rnd ser key.length nonce.length bid.length≠0):Env.slE l nm rnd ser key.length nonce.length bid.length=Env.preE rnd ser key.length nonce.length bid.length∧Env.slT l nm rnd ser key nonce bid=Env.zero:=by
 have he:Env.slE l nm rnd ser key.length nonce.length bid.length=Env.preE rnd ser key.length nonce.length bid.length:=by unfold Env.slE;rw [Jh h]
 exact ⟨he,by unfold Env.slT;rw [Jb (by rw [he];exact h)]⟩
theorem sl_none (h:Env.preE rnd ser key.length nonce.length bid.length=0) (hx:Acc.find l nm=none):Env.slE l nm rnd ser key.length nonce.length bid.length=9∧Env.slT l nm rnd ser key nonce bid=Env.zero:=by
 have he:Env.slE l nm rnd ser key.length nonce.length bid.length=9:=by unfold Env.slE;rw [Jb (by simp [h]),Jh hx]
 exact ⟨he,by unfold Env.slT;rw [Jb (by rw [he];decide)]⟩
theorem sl_ok {x:Acc.T} (h:Env.preE rnd ser key.length nonce.length bid.length=0) (hx:Acc.find l nm=some x):Env.slE l nm rnd ser key.length nonce.length bid.length=0∧Env.slT l nm rnd ser key nonce bid=Env.mk l nm rnd ser key nonce bid:=by
 have he:Env.slE l nm rnd ser key.length nonce.length bid.length=0:=by unfold Env.slE;rw [Jb (by simp [h]),hx,Jb s9]
 exact ⟨he,by unfold Env.slT;rw [Jh he]⟩
theorem zib {x:Acc.T} (hf:Acc.Fine l) (h:Env.preE rnd ser key.length nonce.length bid.length=0) (hx:Acc.find l nm=some x):nm.length≤32∧(Env.boxB key nm nonce bid).length=bid.length + 32∧(Env.sgn nm rnd ser<|Env.boxB key nm nonce bid).length≤4300:=by
 obtain ⟨p1,p2,p3,p4,p5⟩:=Env.pre_ok h;obtain ⟨m1,m2⟩:=Acc.find_some hx
 have h1:nm.length≤32:=by rw [← m2];exact (hf.oks x m1).1.2.2
 have h2:=Env.box_len key nm bid p4;have h3:=Env.sgn_len (nm:=nm) (box:=Env.boxB key nm nonce bid) o9 o9 p1.2 p2.2;exact ⟨h1,h2,by omega⟩
end
theorem le_enz:LeAll [yY [],iD 0,iD 0,isD<|.slice none 0 0,isD<|.slice none 0 0] (yX Env.zero):=⟨zb _,zb _,zb _,Zz,Zz,trivial⟩
theorem zev (gb:Nat) (s:Bst) (l:List Acc.T) (e:Env.T) (hf:Acc.Fine l) (h:Env.ok e):ConR Tryz.prog 123 [.c gb [isD<|.map<|s.M.map Prod.fst,isD<|.slice s.n.A (Acc.nm l).length s.n.c,isD<|.map<|s.M.map Prod.snd],.r s.n.F<|yP 9 1 YM s.n.A s.n.c<|Acc.nm l,.r s.F1<|Zc (s.M.map Prod.fst) Zi (Acc.nm l)<|acD l,.r s.F2<|Zc (s.M.map Prod.snd) Zy (Acc.seats l)<|seD l] [pA gb,Zo [yY e.acc,iD e.rnd,iD e.ser,bD e.box,bD e.tag]] (fun _:Unit=>[.c gb [isD<|.map<|s.M.map Prod.fst,isD<|.slice s.n.A (Acc.nm l).length s.n.c,isD<|.map<|s.M.map Prod.snd],.r s.n.F<|yP 9 1 YM s.n.A s.n.c<|Acc.nm l,.r s.F1<|Zc (s.M.map Prod.fst) Zi (Acc.nm l)<|acD l,.r s.F2<|Zc (s.M.map Prod.snd) Zy (Acc.seats l)<|seD l]) (fun _:Unit=>iD<|Yi l e.acc (Env.sgnT e) e.tag):=by
 obtain ⟨k1,k2,k3,k4,k5,k6,k7,k8⟩:=Env.ok_len h;refine yg Tryz.func123 k9 V k9 fun base w0=>(zp (SWl.e2 (S:=[]) (yv V V) fun g3=>(zf V<|zV<|za V (zA 4 5 V V k9 V zh)<|zt (S:=[]) (zY (Vi e o9 ⟨k2,k3⟩ ⟨k4,k5⟩ o9) V ⟨zb _,t9⟩ V)<|zd V<|za V (zm V V)<|za V (zm V V)<|zf V<|zf V<|ze<|zk<|zp<|zd V<|za V (ye V V)<|ze<|zE V d9<|zr<|zn<|zp<|zd V<|za V (zc (n:=0) V k9)<|za V (zg 4 V V V k9 zh)<|zd V<|za V (zc (n:=4) V k9)<|za V (zg 4 V V V k9 zh) (SWl.e2 (zC [0,1,2,3] (zhe gb s l e.acc (Env.sgnT e) e.tag hf (by have:=Env.sgnT_len h;omega)) V ⟨zb _,zb _,zb _,zb _,t9⟩ d9 (sX V) (fun _ h=>h) V) fun _=>(zf V<|ze ?_)))));refine zQ (fn:=Tryz.f123) (()) [1,2,3,4] (fun _ _ h=>h) (Rs.one V<|zj V) d9 (sX V)
theorem zhx (gb:Nat) (s:Bst) (l:List Acc.T) (e:Env.T) (hf:Acc.Fine l):ConR Tryz.prog 69 [.c gb [isD<|.map<|s.M.map Prod.fst,isD<|.slice s.n.A (Acc.nm l).length s.n.c,isD<|.map<|s.M.map Prod.snd],.r s.n.F<|yP 9 1 YM s.n.A s.n.c<|Acc.nm l,.r s.F1<|Zc (s.M.map Prod.fst) Zi (Acc.nm l)<|acD l,.r s.F2<|Zc (s.M.map Prod.snd) Zy (Acc.seats l)<|seD l] [pA gb,Zo [yY e.acc,iD e.rnd,iD e.ser,bD e.box,bD e.tag]] (fun _:Unit=>[.c gb [isD<|.map<|s.M.map Prod.fst,isD<|.slice s.n.A (Acc.nm l).length s.n.c,isD<|.map<|s.M.map Prod.snd],.r s.n.F<|yP 9 1 YM s.n.A s.n.c<|Acc.nm l,.r s.F1<|Zc (s.M.map Prod.fst) Zi (Acc.nm l)<|acD l,.r s.F2<|Zc (s.M.map Prod.snd) Zy (Acc.seats l)<|seD l]) (fun _:Unit=>iD<|Env.autE l e):=by
 refine yg Tryz.func69 k9 V k9 fun base w0=>(zp (SWl.e2 (S:=[]) (yv V V) fun g3=>(zf V<|ze<|zk<|zk<|yh [] (rr [0,1,3]<|.n 2 (.n 4 (.n 5 (.n 6 (.n 7 (.r 8 .fin) .no) .no) .no) .no) .no) k9 k9 (fun d _ _ _ _ h=>by cases d <;> exact h)<|zL V V<|zl V V (zcJ V V k9)<|zl V V (zA 4 5 V V k9 V zh)<|yw V (zD [] (Zm true 1) V ⟨(zo<|zb _),(zo<|zb _),t9⟩ V)<|yw V (zD [] (qZ e.acc e.rnd e.ser e.box.length e.tag.length) V ⟨(zo<|ZM ⟨zb _,zb _,zb _,ZV,ZV,t9⟩),t9⟩ V)<|yw V (zD [] (Zm (okD e) 2) V ⟨(zo<|zb _),(zo<|zb _),t9⟩ V)<|yw V (ZL V V (blsI2 (unE true 1)<|unE (okD e) 2) V)<|yw V (zD [] (KJ [unE true 1,unE (okD e) 2] s9) V ⟨(zo<|zb _),t9⟩ V)<|Zh V V<|yI<|zk ?_)))
 by_cases hok:Env.ok e
 ·skip
  refine zO (σ':=zN [(0,_),(3,_),(5,iD 0)] [_,_,_,_,_]) (⟨⟨_,V,⟨lq V,⟨lq V,⟨⟨_,V,zF (by rw [pre2_ok hok])⟩,t9⟩⟩⟩⟩,[0,1,2,3,4],by decide,(sX rfl)⟩) (zi<|zd V<|za V (ye V V)<|ze<|zE V d9<|zr<|zn<|zp<|zd V<|za V (zA 4 5 V V k9 V zh) (SWl.e2 (zC [0,1,2,3] (zev gb s l e hf hok) V ⟨zb _,zb _,t9⟩ d9 (sX V) (fun _ h=>h) V) fun _=>(zf V<|ze<|zQ (fn:=Tryz.f69) (()) [1,2,3,4] (fun _ _ h=>h) (Rs.le (Rs.one V<|zj V) ?_) d9<|sX V)));exact zF (by unfold Env.autE;rw [Jh hok])
 ·skip
  refine zO (σ':=zN [(0,_),(3,_),(5,iD 2)] [_,_,_,_,_]) (⟨⟨_,V,⟨lq V,⟨lq V,⟨⟨_,V,zF (by rw [pre2_no hok d9])⟩,t9⟩⟩⟩⟩,[0,1,2,3,4],by decide,(sX rfl)⟩) (zi<|zd V<|za V (ye V V)<|ze<|zW V d9<|zp<|zd V<|zf V<|ze<|zQ (fn:=Tryz.f69) (()) [0,1,2,3] (fun _ _ h=>h) (Rs.le (Rs.one V<|zj V) ?_) d9<|sX V);exact zF (by unfold Env.autE;rw [Jb hok])
theorem con_openE (gb:Nat) (s:Bst) (l:List Acc.T) (e:Env.T) (hf:Acc.Fine l) (key:LB):ConR Tryz.prog 105 [.c gb [isD<|.map<|s.M.map Prod.fst,isD<|.slice s.n.A (Acc.nm l).length s.n.c,isD<|.map<|s.M.map Prod.snd],.r s.n.F<|yP 9 1 YM s.n.A s.n.c<|Acc.nm l,.r s.F1<|Zc (s.M.map Prod.fst) Zi (Acc.nm l)<|acD l,.r s.F2<|Zc (s.M.map Prod.snd) Zy (Acc.seats l)<|seD l] [pA gb,Zo [yY e.acc,iD e.rnd,iD e.ser,bD e.box,bD e.tag],bD key] (fun _:Unit=>[.c gb [isD<|.map<|s.M.map Prod.fst,isD<|.slice s.n.A (Acc.nm l).length s.n.c,isD<|.map<|s.M.map Prod.snd],.r s.n.F<|yP 9 1 YM s.n.A s.n.c<|Acc.nm l,.r s.F1<|Zc (s.M.map Prod.fst) Zi (Acc.nm l)<|acD l,.r s.F2<|Zc (s.M.map Prod.snd) Zy (Acc.seats l)<|seD l]) (fun _:Unit=>Yk [bD<|Env.opB l e key,iD<|Env.opE l e key]):=by
 refine yg Tryz.func105 k9 V k9 fun base w0=>(zp (SWl.e2 (S:=[]) (yv V V) fun g4=>(zf V<|zf V<|ze<|zk<|yh [] (rr [0,1,3,4,5,7]<|.n 2 (.n 6 (.n 8 (.n 9 (.n 10 (.n 11 (.r 12 .fin) .no) .no) .no) .no) .no) .no) k9 k9 (fun d _ _ _ _ h=>by cases d <;> exact h)<|zL V V<|zl V V (zcJ V V k9)<|zL V V<|zl V V (ZC (e:=5) V k9)<|zl V V (yM V V)<|zl V V (zA 4 5 V V k9 V zh)<|yw V (zD [] (Zm true 1) V ⟨(zo<|zb _),(zo<|zb _),t9⟩ V)<|yw V (zD [] (Zm (decide (((cellsOf key).length:Int)=32)) 2) V ⟨(zo<|zb _),(zo<|zb _),t9⟩ V)<|yw V (zD [] (qZ e.acc e.rnd e.ser e.box.length e.tag.length) V ⟨(zo<|ZM ⟨zb _,zb _,zb _,ZV,ZV,t9⟩),t9⟩ V)<|yw V (zD [] (Zm (okD e) 2) V ⟨(zo<|zb _),(zo<|zb _),t9⟩ V)<|yw V (ZL V V (blsI3 (unE true 1) (unE (decide (((cellsOf key).length:Int)=32)) 2)<|unE (okD e) 2) V)<|yw V (zD [] (KJ [unE true 1,unE (decide (((cellsOf key).length:Int)=32)) 2,unE (okD e) 2] s9) V ⟨(zo<|zb _),t9⟩ V)<|Zh V V<|yI<|zk<|zk ?_)))
 by_cases hok:key.length=32∧Env.ok e
 ·skip
  refine zO (σ':=zN [(0,_),(2,_),(4,_),(8,iD 0)] [_,_,_,_,_]) (⟨⟨_,V,⟨lq V,⟨lq V,⟨lq V,⟨⟨_,V,zF (by rw [pre3_ok hok])⟩,t9⟩⟩⟩⟩⟩,[0,1,2,3,4],by decide,(sX rfl)⟩) (zi<|zd V<|za V (ye V V)<|ze<|zE V d9<|zr<|zn<|zk<|zp<|zd V<|za V (zA 4 5 V V k9 V zh) (SWl.e2 (zC [0,1,2,3] (zev gb s l e hf hok.2) V ⟨zb _,zb _,t9⟩ d9 (sX V) (fun _ h=>h) V) fun _=>(zf V<|zV<|zd V<|za V (ye V V)<|ze<|zJ V (fun hb30=> ?_) (fun hb30=> ?_))))
  ·have h30:Yi l e.acc (Env.sgnT e) e.tag≠0:=by simpa using hb30
   refine zp (zd V<|zf V<|zf V<|ze<|zQ (fn:=Tryz.f105) (()) [1,2,3,4] (fun _ _ h=>h) (Rs.le (ym V (zj V)<|zj V) ?_) d9<|sX V);exact yn ⟨by rw [(op_aut (l:=l) hok h30).2];exact Zz,zF (by rw [(op_aut (l:=l) hok h30).1]),trivial⟩
  ·have h30:¬Yi l e.acc (Env.sgnT e) e.tag≠0:=by simpa using hb30
   refine zr (zn<|zp<|zd V<|za V (zc (n:=0) V k9)<|za V (zg 0 V V V k9 zh)<|zt (S:=[]) (zY (Vj key e.acc hok.1 (Env.ok_len hok.2).1) V ⟨zb _,zb _,t9⟩ V)<|zd V<|za V (zm V V)<|za V (zm V V)<|zf V<|zf V<|ze<|zk<|zp<|zd V<|za V (ye V V)<|ze<|zE V d9<|zr<|zn<|zp<|zd V<|za V (zc (n:=3) V k9)<|za V (zg 0 V V V k9 zh)<|zt (S:=[]) (zY (con_openB (Env.keyB key e.acc) e.box (by simp [Env.keyB])) V ⟨zb _,zb _,t9⟩ V)<|zd V<|za V (zm V V)<|za V (zm V V)<|zf V<|zf V<|ze<|zk<|zk ?_);refine zi (zd V<|za V (ye V V)<|ze<|zJ V (fun hb50=> ?_) (fun hb50=> ?_))
   ·have h50:(Sl.openB (Env.keyB key e.acc) e.box).2≠0:=by simpa using hb50
    refine zp (zf V<|zf V<|ze<|zQ (fn:=Tryz.f105) (()) [1,2,3,4] (fun _ _ h=>h) (Rs.le (ym V (zj V)<|zj V) ?_) d9<|sX V);exact yn ⟨by rw [(op_bad (l:=l) hok h30 h50).2];exact Zz,zF (by rw [(op_bad (l:=l) hok h30 h50).1]),trivial⟩
   ·have h50:¬(Sl.openB (Env.keyB key e.acc) e.box).2≠0:=by simpa using hb50
    refine zr (zn<|zp<|zd V<|zf V<|zf V<|ze<|zQ (fn:=Tryz.f105) (()) [1,2,3,4] (fun _ _ h=>h) (Rs.le (ym V (zj V)<|zj V) ?_) d9<|sX V);exact yn ⟨by rw [(op_ok (l:=l) hok h30 h50).2];exact zb _,zF (by rw [(op_ok (l:=l) hok h30 h50).1]),trivial⟩
 ·skip
  refine zO (σ':=zN [(0,_),(2,_),(4,_),(8,iD 2)] [_,_,_,_,_]) (⟨⟨_,V,⟨lq V,⟨lq V,⟨lq V,⟨⟨_,V,zF (by rw [pre3_no hok])⟩,t9⟩⟩⟩⟩⟩,[0,1,2,3,4],by decide,(sX rfl)⟩) (zi<|zd V<|za V (ye V V)<|ze<|zW V d9<|zp<|zd V<|zf V<|zf V<|ze<|zQ (fn:=Tryz.f105) (()) [0,1,2,3] (fun _ _ h=>h) (Rs.le (ym V (zj V)<|zj V) ?_) d9<|sX V);exact yn ⟨by rw [(op_no (l:=l) hok).2];exact Zz,zF (by rw [(op_no (l:=l) hok).1]),trivial⟩
theorem zfw (e:Env.T):Con Tryz.prog 72 [Zo [yY e.acc,iD e.rnd,iD e.ser,bD e.box,bD e.tag]] (Yk [bD<|Env.encQ e,iD<|Env.encE e]):=by
 refine YP Tryz.func72 k9 V k9 fun base w0=>(zp (SWl.e2 (S:=[]) (yv V V) fun g1=>(zf V<|zf V<|ze<|zk<|zp<|za V (zA 0 5 V V k9 V zh)<|zt (S:=[]) (zD [] (qZ e.acc e.rnd e.ser e.box.length e.tag.length) V ⟨(zo<|ZM ⟨zb _,zb _,zb _,ZV,ZV,t9⟩),t9⟩ V)<|za V (yS V)<|ze<|zJ V (fun hb7=> ?_) (fun hb7=> ?_))))
 ·have h7:¬Env.ok e:=by (intro h;rw [show decide (Env.okV e.acc e.rnd e.ser e.box.length e.tag.length)=true from zfd h] at hb7;cases hb7)
  refine zp (zf V<|zf V<|ze<|zK (fn:=Tryz.f72) (fun _ _ h=>h)<|Rs.le (ym V (zj V)<|zj V) ?_);exact yn ⟨by rw [Env.encQ,Jb h7];exact Zz,zF (by rw [Env.encE,Jb h7]),trivial⟩
 ·have h7:Env.ok e:=by (by_cases h:Env.ok e;exact h;rw [show decide (Env.okV e.acc e.rnd e.ser e.box.length e.tag.length)=false from zfe h] at hb7;cases hb7)
  refine zr (zn<|zp (SWl.e2 (S:=[]) (zM (zs:=[.int .i64 0,.slice none 0 0]) k9 V) fun g4=>(ze<|zk<|Yf 5 1 Yt ?_)));obtain ⟨k1,k2,k3,k4,k5,k6,k7,k8⟩:=Env.ok_len h7;have hsl:=Env.sgnT_len h7;refine zO (σ':=zN [(1,_),(4,_)] [_,_,_]) (sB [0,1,2] V V) (zi<|za V (zA 0 5 V V k9 V zh) (SWl.e2 (zC [1,2] (zcs g4 (⟨none,0,[]⟩:Ust) [] e o9 ⟨k2,k3⟩ ⟨k4,k5⟩ o9 d9) V ⟨zb _,zb _,t9⟩ d9 (sX V) (fun _ h=>h) V) fun s9=>(zV<|za V (zc (n:=4) V k9)<|za V (zg 0 V V V k9 zh) (SWl.e2 (zC [1,2] (K3 g4 s9 ([] ++ Env.sgnT e) e.tag (by simp only [J0];omega)) V ⟨zb _,zb _,t9⟩ d9 (sX V) (fun _ h=>h) V) fun s12=>(zV (SWl.e2 (zC [1,2] (zc7 g4 s12 ([] ++ Env.sgnT e ++ j5 e.tag) (by have:=ZN (b:=e.tag) o9;simp only [J0,Jk];omega)) V ⟨zb _,t9⟩ d9 (sX V) (fun _ h=>h) V) fun _=>(za V (zm V V)<|za V (zm V V)<|zf V<|zf V<|ze<|zK (fn:=Tryz.f72) (fun _ _ h=>h)<|Rs.le (ym V (zj V)<|zj V) ?_)))))));exact yn ⟨by rw [Env.encQ,Jh h7];exact zb _,zF (by rw [Env.encE,Jh h7]),trivial⟩
end
section
namespace Led
end Led
end
section
section
variable {P:Program}{Γ:Cx}{σ:St}{Q:Exit→Act→World→Prop}
end
end
section
end
section
section
variable {P:Program}{Γ:Cx}{σ:St}{Q:Exit→Act→World→Prop}{a:Act}{w:World}
end
end
section
end
section
section
variable {P:Program}{Γ:Cx}{σ:St}{S:List Nat}{d d':D}
end
namespace Led
end Led
end
section
section
variable {P:Program}{Γ:Cx}{σ:St}{S:List Nat}{dst:Option Tmp}{ty:TypeId}{pos:String}{af:Array Edge}{gd:Option (Nat × Bool)}{d d':D}{Q:Exit→Act→World→Prop}{a:Act}{w:World}
end
end
section
end
section
end
section
end
section
end
section
end
section
end
section
end
section
