/- ENVELOPES: authentic, Check, Open, Size, Encode, Equal. LEDGERS: made. LEDGERS: the example. LEDGERS: LedgerProves. LEDGERS: clones of one's own, the  -/
import Derived.Test.YtgokpcnabgacnaaGreatDoorGZAU
import Derived.Test.YtgokpcnabgacnaaGreatDoorGZAS
import Derived.Test.YtgokpcnabgacnaaGreatDoorGZAH
import Derived.Test.YtgokpcnabgacnaaGreatDoorGZAO
import Derived.Test.YtgokpcnabgacnaaGreatDoorGZAG
set_option maxHeartbeats 8000000
set_option maxRecDepth 100000
namespace Go.Proofs.YtgokpcnabgacnaaGreatDoor
open Go.RowKit
namespace Sx
abbrev okD (e:Env.T):Bool:=decide (Env.okV e.acc e.rnd e.ser e.box.length e.tag.length)
theorem okD_t {e:Env.T} (h:Env.ok e):okD e=true:=decide_eq_true h
theorem okD_f {e:Env.T} (h:¬Env.ok e):okD e=false:=decide_eq_false h
theorem ZW {l:List Int} {e:Int}:firstE (unE true e :: l)=firstE l:=firstE_zero
theorem firstE_f {l:List Int} {e:Int} (h:e≠0):firstE (unE false e :: l)=e:=firstE_cons h
theorem pre2_ok {e:Env.T} (h:Env.ok e) (m:Int):firstE [unE true 1,unE (okD e) m]=0:=by rw [okD_t h,ZW,ZW];rfl
theorem pre2_no {e:Env.T} (h:¬Env.ok e) {m:Int} (hm:m≠0):firstE [unE true 1,unE (okD e) m]=m:=by rw [okD_f h,ZW,firstE_f hm]
theorem pre3_ok {e:Env.T} {key:LB} (h:key.length=32∧Env.ok e):firstE [unE true 1,unE (decide (((cellsOf key).length:Int)=32)) 2,unE (okD e) 2]=0:=by
 rw [okD_t h.2,decide_eq_true (show ((cellsOf key).length:Int)=32 by rw [zw];omega),ZW,ZW,ZW];rfl
theorem pre3_no {e:Env.T} {key:LB} (h:¬(key.length=32∧Env.ok e)):firstE [unE true 1,unE (decide (((cellsOf key).length:Int)=32)) 2,unE (okD e) 2]=2:=by
 by_cases h1:key.length=32
 ·rw [okD_f (fun h2=>h ⟨h1,h2⟩),decide_eq_true (show ((cellsOf key).length:Int)=32 by rw [zw];omega),ZW,ZW,firstE_f d9]
 ·rw [decide_eq_false (show ¬((cellsOf key).length:Int)=32 by rw [zw];omega),ZW,firstE_f d9]
theorem op_no {l:List Acc.T} {e:Env.T} {key:LB} (h:¬(key.length=32∧Env.ok e)):Env.opE l e key=2∧Env.opB l e key=[]:=by
 have he:Env.opE l e key=2:=by
  unfold Env.opE
  by_cases h1:key.length=32
  ·rw [if_pos h1]
   have:Env.autE l e=2:=by unfold Env.autE;rw [if_neg (fun h2=>h ⟨h1,h2⟩)]
   rw [this];rfl
  ·rw [if_neg h1]
 exact ⟨he,by unfold Env.opB;rw [if_neg (by rw [he];decide)]⟩
theorem op_aut {l:List Acc.T} {e:Env.T} {key:LB} (h:key.length=32∧Env.ok e) (ha:ZC l e.acc (Env.sgnT e) e.tag≠0):Env.opE l e key=ZC l e.acc (Env.sgnT e) e.tag∧Env.opB l e key=[]:=by
 have h2:Env.autE l e=ZC l e.acc (Env.sgnT e) e.tag:=by unfold Env.autE;rw [if_pos h.2]
 have he:Env.opE l e key=ZC l e.acc (Env.sgnT e) e.tag:=by unfold Env.opE;rw [if_pos h.1,h2,if_pos ha]
 exact ⟨he,by unfold Env.opB;rw [if_neg (by rw [he];exact ha)]⟩
theorem op_bad {l:List Acc.T} {e:Env.T} {key:LB} (h:key.length=32∧Env.ok e) (ha:¬ZC l e.acc (Env.sgnT e) e.tag≠0) (hb:(Sl.openB (Env.keyB key e.acc) e.box).2≠0):Env.opE l e key=10∧Env.opB l e key=[]:=by
 have h2:Env.autE l e=ZC l e.acc (Env.sgnT e) e.tag:=by unfold Env.autE;rw [if_pos h.2]
 have he:Env.opE l e key=10:=by unfold Env.opE;rw [if_pos h.1,h2,if_neg ha,if_pos hb]
 exact ⟨he,by unfold Env.opB;rw [if_neg (by rw [he];decide)]⟩
theorem op_ok {l:List Acc.T} {e:Env.T} {key:LB} (h:key.length=32∧Env.ok e) (ha:¬ZC l e.acc (Env.sgnT e) e.tag≠0) (hb:¬(Sl.openB (Env.keyB key e.acc) e.box).2≠0):Env.opE l e key=0∧Env.opB l e key=(Sl.openB (Env.keyB key e.acc) e.box).1:=by
 have h2:Env.autE l e=ZC l e.acc (Env.sgnT e) e.tag:=by unfold Env.autE;rw [if_pos h.2]
 have he:Env.opE l e key=0:=by unfold Env.opE;rw [if_pos h.1,h2,if_neg ha,if_neg hb]
 exact ⟨he,by unfold Env.opB;rw [if_pos he]⟩
theorem decE_first (p:LB):firstE [endE (Env.rd ⟨p,0⟩).2,unE (okD (Env.rd ⟨p,0⟩).1) 6]=Env.decE p:=by
 unfold Env.decE
 by_cases h:endE (Env.rd ⟨p,0⟩).2=0
 ·rw [h,firstE_zero,if_neg s9]
  by_cases h2:Env.ok (Env.rd ⟨p,0⟩).1
  ·rw [okD_t h2,ZW,if_pos h2];rfl
  ·rw [okD_f h2,firstE_f d9,if_neg h2]
 ·rw [firstE_cons h,if_pos h]
theorem pre6 (rnd ser:Int) (key nonce bid:LB):firstE [unE true 1,unE (decide (0≤rnd∧rnd≤1048576)) 2,unE (decide (0≤ser∧ser≤1073741824)) 2,unE (decide (((cellsOf key).length:Int)=32)) 2,unE (decide (((cellsOf nonce).length:Int)=16)) 2,unE (decide (0≤((cellsOf bid).length:Int)∧((cellsOf bid).length:Int)≤4096)) 5]=Env.preE rnd ser key.length nonce.length bid.length:=by
 simp only [zw];unfold Env.preE
 rw [ZW]
 by_cases h1:0≤rnd∧rnd≤1048576
 ·rw [decide_eq_true h1,ZW]
  by_cases h2:0≤ser∧ser≤1073741824
  ·rw [decide_eq_true h2,ZW]
   by_cases h3:key.length=32
   ·rw [decide_eq_true (show (key.length:Int)=32 by omega),ZW]
    by_cases h4:nonce.length=16
    ·rw [decide_eq_true (show (nonce.length:Int)=16 by omega),ZW,if_pos ⟨h1,h2,h3,h4⟩]
     by_cases h5:4096 < bid.length
     ·rw [decide_eq_false (show ¬(0≤(bid.length:Int)∧(bid.length:Int)≤4096) by omega),firstE_f d9,if_pos h5]
     ·rw [decide_eq_true (show 0≤(bid.length:Int)∧(bid.length:Int)≤4096 by omega),ZW,if_neg h5];rfl
    ·rw [decide_eq_false (show ¬(nonce.length:Int)=16 by omega),firstE_f d9,if_neg (fun h=>h4 h.2.2.2)]
   ·rw [decide_eq_false (show ¬(key.length:Int)=32 by omega),firstE_f d9,if_neg (fun h=>h3 h.2.2.1)]
  ·rw [decide_eq_false h2,firstE_f d9,if_neg (fun h=>h2 h.2.1)]
 ·rw [decide_eq_false h1,firstE_f d9,if_neg (fun h=>h1 h.1)]
section
variable {l : List Acc.T} {nm : List UInt8} {rnd ser : Int} {key nonce bid : List UInt8}
theorem sl_pre (h:Env.preE rnd ser key.length nonce.length bid.length≠0):Env.slE l nm rnd ser key.length nonce.length bid.length=Env.preE rnd ser key.length nonce.length bid.length∧Env.slT l nm rnd ser key nonce bid=Env.zero:=by
 have he:Env.slE l nm rnd ser key.length nonce.length bid.length=Env.preE rnd ser key.length nonce.length bid.length:=by unfold Env.slE;rw [if_pos h]
 exact ⟨he,by unfold Env.slT;rw [if_neg (by rw [he];exact h)]⟩
theorem sl_none (h:Env.preE rnd ser key.length nonce.length bid.length=0) (hx:Acc.find l nm=none):Env.slE l nm rnd ser key.length nonce.length bid.length=9∧Env.slT l nm rnd ser key nonce bid=Env.zero:=by
 have he:Env.slE l nm rnd ser key.length nonce.length bid.length=9:=by unfold Env.slE;rw [if_neg (by simp [h]),if_pos hx]
 exact ⟨he,by unfold Env.slT;rw [if_neg (by rw [he];decide)]⟩
theorem sl_ok {x:Acc.T} (h:Env.preE rnd ser key.length nonce.length bid.length=0) (hx:Acc.find l nm=some x):Env.slE l nm rnd ser key.length nonce.length bid.length=0∧Env.slT l nm rnd ser key nonce bid=Env.mk l nm rnd ser key nonce bid:=by
 have he:Env.slE l nm rnd ser key.length nonce.length bid.length=0:=by unfold Env.slE;rw [if_neg (by simp [h]),hx,if_neg s9]
 exact ⟨he,by unfold Env.slT;rw [if_pos he]⟩
theorem sl_len {x:Acc.T} (hf:Acc.Fine l) (h:Env.preE rnd ser key.length nonce.length bid.length=0) (hx:Acc.find l nm=some x):nm.length≤32∧(Env.boxB key nm nonce bid).length=bid.length + 32∧(Env.sgn nm rnd ser (Env.boxB key nm nonce bid)).length≤4300:=by
 obtain ⟨p1,p2,p3,p4,p5⟩:=Env.pre_ok h;obtain ⟨m1,m2⟩:=Acc.find_some hx
 have h1:nm.length≤32:=by rw [← m2];exact (hf.oks x m1).1.2.2
 have h2:=Env.box_len key nm bid p4;have h3:=Env.sgn_len (nm:=nm) (box:=Env.boxB key nm nonce bid) o9 o9 p1.2 p2.2;exact ⟨h1,h2,by omega⟩
end
theorem le_enz:LeAll [yp [],iD 0,iD 0,isD (.slice none 0 0),isD (.slice none 0 0)] (YT Env.zero):=⟨zd _,zd _,zd _,Zz,Zz,trivial⟩
theorem con_authE (gb:Nat) (s:Bst) (l:List Acc.T) (e:Env.T) (hf:Acc.Fine l) (h:Env.ok e):ConR Tryz.prog 123 [.c gb [isD (.map (s.M.map Prod.fst)),isD (.slice s.n.A (Acc.nm l).length s.n.c),isD (.map (s.M.map Prod.snd))],.r s.n.F (yj 9 1 Zj s.n.A s.n.c (Acc.nm l)),.r s.F1 (ya (s.M.map Prod.fst) yA (Acc.nm l) (acD l)),.r s.F2 (ya (s.M.map Prod.snd) yu (Acc.seats l) (seD l))] [pA gb,Zn [yp e.acc,iD e.rnd,iD e.ser,bD e.box,bD e.tag]] (fun _:Unit=>[.c gb [isD (.map (s.M.map Prod.fst)),isD (.slice s.n.A (Acc.nm l).length s.n.c),isD (.map (s.M.map Prod.snd))],.r s.n.F (yj 9 1 Zj s.n.A s.n.c (Acc.nm l)),.r s.F1 (ya (s.M.map Prod.fst) yA (Acc.nm l) (acD l)),.r s.F2 (ya (s.M.map Prod.snd) yu (Acc.seats l) (seD l))]) (fun _:Unit=>iD (ZC l e.acc (Env.sgnT e) e.tag)):=by
 obtain ⟨k1,k2,k3,k4,k5,k6,k7,k8⟩:=Env.ok_len h;refine zW Tryz.func123 k9 V k9 fun base w0=>(zh (zb (zl (S:=[]) (yV V V) ?_)));rintro _ ⟨g3,rfl⟩;refine za V (zg V) (zf (zc (zh (zb (za V (zG 4 5 V V k9 V zn) (zl (S:=[]) (yg (con_signedE e o9 ⟨k2,k3⟩ ⟨k4,k5⟩ o9) V ⟨zd _,t9⟩ V) ?_))))));rintro _ rfl;refine za V (ze V) (za V (zr V V) (za V (zr V V) (za V (zg V) (za V (zg V) (zf (zc (zh (zh (zb (za V (ze V) (za V (zX V V) (zf (zc (zB V d9 (zu (zc (zh (zb (za V (ze V) (za V (zi (n:=0) V k9) (za V (zj 4 V V V k9 zn) (za V (ze V) (za V (zi (n:=4) V k9) (za V (zj 4 V V V k9 zn) (zl (zx [0,1,2,3] (con_verify gb s l e.acc (Env.sgnT e) e.tag hf (by have:=Env.sgnT_len h;omega)) V ⟨zd _,zd _,zd _,zd _,t9⟩ d9 (sX V) (fun _ h=>h) V) ?_)))))))))))))))))))))))));rintro _ ⟨⟨⟩,rfl⟩;refine za V (zg V) (zf (zc ?_));refine zJ (fn:=Tryz.f123) (()) [1,2,3,4] (fun _ _ h=>h) (Rs.one V (zp V)) d9 (sX V)
theorem con_checkE (gb:Nat) (s:Bst) (l:List Acc.T) (e:Env.T) (hf:Acc.Fine l):ConR Tryz.prog 69 [.c gb [isD (.map (s.M.map Prod.fst)),isD (.slice s.n.A (Acc.nm l).length s.n.c),isD (.map (s.M.map Prod.snd))],.r s.n.F (yj 9 1 Zj s.n.A s.n.c (Acc.nm l)),.r s.F1 (ya (s.M.map Prod.fst) yA (Acc.nm l) (acD l)),.r s.F2 (ya (s.M.map Prod.snd) yu (Acc.seats l) (seD l))] [pA gb,Zn [yp e.acc,iD e.rnd,iD e.ser,bD e.box,bD e.tag]] (fun _:Unit=>[.c gb [isD (.map (s.M.map Prod.fst)),isD (.slice s.n.A (Acc.nm l).length s.n.c),isD (.map (s.M.map Prod.snd))],.r s.n.F (yj 9 1 Zj s.n.A s.n.c (Acc.nm l)),.r s.F1 (ya (s.M.map Prod.fst) yA (Acc.nm l) (acD l)),.r s.F2 (ya (s.M.map Prod.snd) yu (Acc.seats l) (seD l))]) (fun _:Unit=>iD (Env.autE l e)):=by
 refine zW Tryz.func69 k9 V k9 fun base w0=>(zh (zb (zl (S:=[]) (yV V V) ?_)));rintro _ ⟨g3,rfl⟩
 refine za V (zg V) (zf (zc (zh (zh (yh [] (.r 0 (.r 1 (.r 3 (.n 2 (.n 4 (.n 5 (.n 6 (.n 7 (.r 8 .fin) .no) .no) .no) .no) .no)))) k9 k9 (fun d _ _ _ _ h=>by cases d <;> exact h) (zk rfl rfl (ze rfl) (zk rfl rfl (Rd.neP rfl rfl k9) (zk rfl rfl (zG 4 5 rfl rfl k9 rfl zn) (zY rfl (zz [] (yR true 1) rfl ⟨(zq (zd _)),(zq (zd _)),trivial⟩ rfl) ?_ zA)))))))))
 rintro _ rfl;refine zY V (zz [] (con_validE e.acc e.rnd e.ser e.box.length e.tag.length) V ⟨(zq (ZV ⟨zd _,zd _,zd _,Yr,Yr,t9⟩)),t9⟩ V) ?_ zA;rintro _ rfl;refine zY V (zz [] (yR (okD e) 2) V ⟨(zq (zd _)),(zq (zd _)),t9⟩ V) ?_ zA;rintro _ rfl;refine zY V (ZB V V (blsI2 (unE true 1) (unE (okD e) 2)) V) ?_ zA;rintro _ rfl
 refine zY V (zz [] (con_first [unE true 1,unE (okD e) 2] s9) V ⟨(zq (zd _)),t9⟩ V) ?_ zA
 rintro _ rfl;refine zk V V (zg V) (zP (zc (zh ?_)))
 by_cases hok:Env.ok e
 ·skip
  refine zQ (σ':=zK [(0,pA gb),(3,pA g3),(5,iD 0)] [.c gb [isD (.map (s.M.map Prod.fst)),isD (.slice s.n.A (Acc.nm l).length s.n.c),isD (.map (s.M.map Prod.snd))],.r s.n.F (yj 9 1 Zj s.n.A s.n.c (Acc.nm l)),.r s.F1 (ya (s.M.map Prod.fst) yA (Acc.nm l) (acD l)),.r s.F2 (ya (s.M.map Prod.snd) yu (Acc.seats l) (seD l)),.c g3 [yp e.acc,iD e.rnd,iD e.ser,bD e.box,bD e.tag]]) (⟨⟨_,V,⟨lq V,⟨lq V,⟨⟨_,V,zE (by rw [pre2_ok hok])⟩,t9⟩⟩⟩⟩,[0,1,2,3,4],by decide,(sX rfl)⟩) (zb (za rfl (ze rfl) (za rfl (zX rfl rfl) (zf (zc (zB rfl d9 (zu (zc (zh (zb (za rfl (ze rfl) (za rfl (zG 4 5 rfl rfl k9 rfl zn) (zl (zx [0,1,2,3] (con_authE gb s l e hf hok) rfl ⟨zd _,zd _,trivial⟩ d9 (sX rfl) (fun _ h=>h) rfl) ?_)))))))))))));rintro _ ⟨⟨⟩,rfl⟩;refine za V (zg V) (zf (zc (zJ (fn:=Tryz.f69) (()) [1,2,3,4] (fun _ _ h=>h) (Rs.le (Rs.one V (zp V)) ?_) d9 (sX V))));exact zE (by unfold Env.autE;rw [if_pos hok])
 ·skip
  refine zQ (σ':=zK [(0,pA gb),(3,pA g3),(5,iD 2)] [.c gb [isD (.map (s.M.map Prod.fst)),isD (.slice s.n.A (Acc.nm l).length s.n.c),isD (.map (s.M.map Prod.snd))],.r s.n.F (yj 9 1 Zj s.n.A s.n.c (Acc.nm l)),.r s.F1 (ya (s.M.map Prod.fst) yA (Acc.nm l) (acD l)),.r s.F2 (ya (s.M.map Prod.snd) yu (Acc.seats l) (seD l)),.c g3 [yp e.acc,iD e.rnd,iD e.ser,bD e.box,bD e.tag]]) (⟨⟨_,V,⟨lq V,⟨lq V,⟨⟨_,V,zE (by rw [pre2_no hok d9])⟩,t9⟩⟩⟩⟩,[0,1,2,3,4],by decide,(sX rfl)⟩) (zb (za rfl (ze rfl) (za rfl (zX rfl rfl) (zf (zc (yd rfl d9 (zh (zb (za rfl (ze rfl) (za rfl (zg rfl) (zf (zc (zJ (fn:=Tryz.f69) (()) [0,1,2,3] (fun _ _ h=>h) (Rs.le (Rs.one rfl (zp rfl)) ?_) d9 (sX rfl))))))))))))));exact zE (by unfold Env.autE;rw [if_neg hok])
theorem con_openE (gb:Nat) (s:Bst) (l:List Acc.T) (e:Env.T) (hf:Acc.Fine l) (key:LB):ConR Tryz.prog 105 [.c gb [isD (.map (s.M.map Prod.fst)),isD (.slice s.n.A (Acc.nm l).length s.n.c),isD (.map (s.M.map Prod.snd))],.r s.n.F (yj 9 1 Zj s.n.A s.n.c (Acc.nm l)),.r s.F1 (ya (s.M.map Prod.fst) yA (Acc.nm l) (acD l)),.r s.F2 (ya (s.M.map Prod.snd) yu (Acc.seats l) (seD l))] [pA gb,Zn [yp e.acc,iD e.rnd,iD e.ser,bD e.box,bD e.tag],bD key] (fun _:Unit=>[.c gb [isD (.map (s.M.map Prod.fst)),isD (.slice s.n.A (Acc.nm l).length s.n.c),isD (.map (s.M.map Prod.snd))],.r s.n.F (yj 9 1 Zj s.n.A s.n.c (Acc.nm l)),.r s.F1 (ya (s.M.map Prod.fst) yA (Acc.nm l) (acD l)),.r s.F2 (ya (s.M.map Prod.snd) yu (Acc.seats l) (seD l))]) (fun _:Unit=>Yv [bD (Env.opB l e key),iD (Env.opE l e key)]):=by
 refine zW Tryz.func105 k9 V k9 fun base w0=>(zh (zb (zl (S:=[]) (yV V V) ?_)));rintro _ ⟨g4,rfl⟩
 refine za V (zg V) (za V (zg V) (zf (zc (zh (yh [] (.r 0 (.r 1 (.r 3 (.r 4 (.r 5 (.r 7 (.n 2 (.n 6 (.n 8 (.n 9 (.n 10 (.n 11 (.r 12 .fin) .no) .no) .no) .no) .no) .no))))))) k9 k9 (fun d _ _ _ _ h=>by cases d <;> exact h) (zk rfl rfl (ze rfl) (zk rfl rfl (Rd.neP rfl rfl k9) (zk rfl rfl (ze rfl) (zk rfl rfl (Zq (e:=5) rfl k9) (zk rfl rfl (yY rfl rfl) (zk rfl rfl (zG 4 5 rfl rfl k9 rfl zn) (zY rfl (zz [] (yR true 1) rfl ⟨(zq (zd _)),(zq (zd _)),trivial⟩ rfl) ?_ zA))))))))))))
 rintro _ rfl;refine zY V (zz [] (yR (decide (((cellsOf key).length:Int)=32)) 2) V ⟨(zq (zd _)),(zq (zd _)),t9⟩ V) ?_ zA;rintro _ rfl;refine zY V (zz [] (con_validE e.acc e.rnd e.ser e.box.length e.tag.length) V ⟨(zq (ZV ⟨zd _,zd _,zd _,Yr,Yr,t9⟩)),t9⟩ V) ?_ zA;rintro _ rfl;refine zY V (zz [] (yR (okD e) 2) V ⟨(zq (zd _)),(zq (zd _)),t9⟩ V) ?_ zA;rintro _ rfl;refine zY V (ZB V V (blsI3 (unE true 1) (unE (decide (((cellsOf key).length:Int)=32)) 2) (unE (okD e) 2)) V) ?_ zA;rintro _ rfl
 refine zY V (zz [] (con_first [unE true 1,unE (decide (((cellsOf key).length:Int)=32)) 2,unE (okD e) 2] s9) V ⟨(zq (zd _)),t9⟩ V) ?_ zA
 rintro _ rfl;refine zk V V (zg V) (zP (zc (zh (zh ?_))))
 by_cases hok:key.length=32∧Env.ok e
 ·skip
  refine zQ (σ':=zK [(0,pA gb),(2,bD key),(4,pA g4),(8,iD 0)] [.c gb [isD (.map (s.M.map Prod.fst)),isD (.slice s.n.A (Acc.nm l).length s.n.c),isD (.map (s.M.map Prod.snd))],.r s.n.F (yj 9 1 Zj s.n.A s.n.c (Acc.nm l)),.r s.F1 (ya (s.M.map Prod.fst) yA (Acc.nm l) (acD l)),.r s.F2 (ya (s.M.map Prod.snd) yu (Acc.seats l) (seD l)),.c g4 [yp e.acc,iD e.rnd,iD e.ser,bD e.box,bD e.tag]]) (⟨⟨_,V,⟨lq V,⟨lq V,⟨lq V,⟨⟨_,V,zE (by rw [pre3_ok hok])⟩,t9⟩⟩⟩⟩⟩,[0,1,2,3,4],by decide,(sX rfl)⟩) (zb (za rfl (ze rfl) (za rfl (zX rfl rfl) (zf (zc (zB rfl d9 (zu (zc (zh (zh (zb (za rfl (ze rfl) (za rfl (zG 4 5 rfl rfl k9 rfl zn) (zl (zx [0,1,2,3] (con_authE gb s l e hf hok.2) rfl ⟨zd _,zd _,trivial⟩ d9 (sX rfl) (fun _ h=>h) rfl) ?_))))))))))))));rintro _ ⟨⟨⟩,rfl⟩;refine za V (zg V) (zf (zc (zh (zb (za V (ze V) (za V (zX V V) (zf (zc (zI V (fun hb30=> ?_) (fun hb30=> ?_))))))))))
  ·have h30:ZC l e.acc (Env.sgnT e) e.tag≠0:=by simpa using hb30
   refine zh (zb (za V (ze V) (za V (zg V) (za V (zg V) (zf (zc (zJ (fn:=Tryz.f105) (()) [1,2,3,4] (fun _ _ h=>h) (Rs.le (yN V (zp V) (zp V)) ?_) d9 (sX V))))))));exact Zc ⟨by rw [(op_aut (l:=l) hok h30).2];exact Zz,zE (by rw [(op_aut (l:=l) hok h30).1]),trivial⟩
  ·have h30:¬ZC l e.acc (Env.sgnT e) e.tag≠0:=by simpa using hb30
   refine zu (zc (zh (zb (za V (ze V) (za V (zi (n:=0) V k9) (za V (zj 0 V V V k9 zn) (zl (S:=[]) (yg (con_deriveE key e.acc hok.1 (Env.ok_len hok.2).1) V ⟨zd _,zd _,t9⟩ V) ?_)))))));rintro _ rfl;refine za V (ze V) (za V (zr V V) (za V (zr V V) (za V (zg V) (za V (zg V) (zf (zc (zh (zh (zb (za V (ze V) (za V (zX V V) (zf (zc (zB V d9 (zu (zc (zh (zb (za V (ze V) (za V (zi (n:=3) V k9) (za V (zj 0 V V V k9 zn) (zl (S:=[]) (yg (con_openB (Env.keyB key e.acc) e.box (by simp [Env.keyB])) V ⟨zd _,zd _,t9⟩ V) ?_))))))))))))))))))))));rintro _ rfl;refine za V (ze V) (za V (zr V V) (za V (zr V V) (za V (zg V) (za V (zg V) (zf (zc (zh (zh (zb (za V (ze V) (za V (zX V V) (zf (zc (zI V (fun hb50=> ?_) (fun hb50=> ?_)))))))))))))))
   ·have h50:(Sl.openB (Env.keyB key e.acc) e.box).2≠0:=by simpa using hb50
    refine zh (zb (za V (zg V) (za V (zg V) (zf (zc (zJ (fn:=Tryz.f105) (()) [1,2,3,4] (fun _ _ h=>h) (Rs.le (yN V (zp V) (zp V)) ?_) d9 (sX V)))))));exact Zc ⟨by rw [(op_bad (l:=l) hok h30 h50).2];exact Zz,zE (by rw [(op_bad (l:=l) hok h30 h50).1]),trivial⟩
   ·have h50:¬(Sl.openB (Env.keyB key e.acc) e.box).2≠0:=by simpa using hb50
    refine zu (zc (zh (zb (za V (ze V) (za V (zg V) (za V (zg V) (zf (zc (zJ (fn:=Tryz.f105) (()) [1,2,3,4] (fun _ _ h=>h) (Rs.le (yN V (zp V) (zp V)) ?_) d9 (sX V))))))))));exact Zc ⟨by rw [(op_ok (l:=l) hok h30 h50).2];exact zd _,zE (by rw [(op_ok (l:=l) hok h30 h50).1]),trivial⟩
 ·skip
  refine zQ (σ':=zK [(0,pA gb),(2,bD key),(4,pA g4),(8,iD 2)] [.c gb [isD (.map (s.M.map Prod.fst)),isD (.slice s.n.A (Acc.nm l).length s.n.c),isD (.map (s.M.map Prod.snd))],.r s.n.F (yj 9 1 Zj s.n.A s.n.c (Acc.nm l)),.r s.F1 (ya (s.M.map Prod.fst) yA (Acc.nm l) (acD l)),.r s.F2 (ya (s.M.map Prod.snd) yu (Acc.seats l) (seD l)),.c g4 [yp e.acc,iD e.rnd,iD e.ser,bD e.box,bD e.tag]]) (⟨⟨_,V,⟨lq V,⟨lq V,⟨lq V,⟨⟨_,V,zE (by rw [pre3_no hok])⟩,t9⟩⟩⟩⟩⟩,[0,1,2,3,4],by decide,(sX rfl)⟩) (zb (za rfl (ze rfl) (za rfl (zX rfl rfl) (zf (zc (yd rfl d9 (zh (zb (za rfl (ze rfl) (za rfl (zg rfl) (za rfl (zg rfl) (zf (zc (zJ (fn:=Tryz.f105) (()) [0,1,2,3] (fun _ _ h=>h) (Rs.le (yN rfl (zp rfl) (zp rfl)) ?_) d9 (sX rfl)))))))))))))));exact Zc ⟨by rw [(op_no (l:=l) hok).2];exact Zz,zE (by rw [(op_no (l:=l) hok).1]),trivial⟩
theorem con_encodeE (e:Env.T):Con Tryz.prog 72 [Zn [yp e.acc,iD e.rnd,iD e.ser,bD e.box,bD e.tag]] (Yv [bD (Env.encQ e),iD (Env.encE e)]):=by
 refine con_of Tryz.func72 k9 V k9 fun base w0=>(zh (zb (zl (S:=[]) (yV V V) ?_)));rintro _ ⟨g1,rfl⟩;refine za V (zg V) (za V (zg V) (zf (zc (zh (zh (zb (za V (zG 0 5 V V k9 V zn) (zl (S:=[]) (zz [] (con_validE e.acc e.rnd e.ser e.box.length e.tag.length) V ⟨(zq (ZV ⟨zd _,zd _,zd _,Yr,Yr,t9⟩)),t9⟩ V) ?_))))))));rintro _ rfl;refine za V (yL V) (zf (zc (zI V (fun hb7=> ?_) (fun hb7=> ?_))))
 ·have h7:¬Env.ok e:=by (intro h;rw [show decide (Env.okV e.acc e.rnd e.ser e.box.length e.tag.length)=true from okD_t h] at hb7;cases hb7)
  refine zh (zb (za V (zg V) (za V (zg V) (zf (zc (zR (fn:=Tryz.f72) (fun _ _ h=>h) (Rs.le (yN V (zp V) (zp V)) ?_)))))));exact Zc ⟨by rw [Env.encQ,if_neg h7];exact Zz,zE (by rw [Env.encE,if_neg h7]),trivial⟩
 ·have h7:Env.ok e:=by (by_cases h:Env.ok e;exact h;rw [show decide (Env.okV e.acc e.rnd e.ser e.box.length e.tag.length)=false from okD_f h] at hb7;cases hb7)
  refine zu (zc (zh (zb (zl (S:=[]) (zH (zs:=[.int .i64 0,.slice none 0 0]) k9 V) ?_))));rintro _ ⟨g4,rfl⟩;refine zf (zc (zh (Yk 5 1 ZP ?_)));obtain ⟨k1,k2,k3,k4,k5,k6,k7,k8⟩:=Env.ok_len h7;have hsl:=Env.sgnT_len h7;refine zQ (σ':=zK [(1,pA g1),(4,pA g4)] [.c g1 [yp e.acc,iD e.rnd,iD e.ser,bD e.box,bD e.tag],.c g4 [iD 0,isD (.slice (⟨none,0,[]⟩:Ust).A (([]:LB)).length (⟨none,0,[]⟩:Ust).c)],.r (⟨none,0,[]⟩:Ust).F (yj 5 1 ZP (⟨none,0,[]⟩:Ust).A (⟨none,0,[]⟩:Ust).c (([]:LB)))]) (sB [0,1,2] V V) (zb (za V (zG 0 5 V V k9 V zn) (zl (zx [1,2] (con_writeE g4 (⟨none,0,[]⟩:Ust) [] e o9 ⟨k2,k3⟩ ⟨k4,k5⟩ o9 d9) V ⟨zd _,zd _,t9⟩ d9 (sX V) (fun _ h=>h) V) ?_)));rintro _ ⟨s9,rfl⟩;refine zf (zc (zh (zb (za V (zi (n:=4) V k9) (za V (zj 0 V V V k9 zn) (zl (zx [1,2] (con_wBytes g4 s9 ([] ++ Env.sgnT e) e.tag (by simp only [List.nil_append];omega)) V ⟨zd _,zd _,t9⟩ d9 (sX V) (fun _ h=>h) V) ?_))))));rintro _ ⟨s12,rfl⟩;refine zf (zc (zh (zb (zl (zx [1,2] (con_wEnd g4 s12 ([] ++ Env.sgnT e ++ Yw e.tag) (by have:=YC (b:=e.tag) o9;simp only [List.nil_append,List.length_append];omega)) V ⟨zd _,t9⟩ d9 (sX V) (fun _ h=>h) V) ?_))))
  rintro _ ⟨⟨⟩,rfl⟩;refine za V (zr V V) (za V (zr V V) (za V (zg V) (za V (zg V) (zf (zc (zR (fn:=Tryz.f72) (fun _ _ h=>h) (Rs.le (yN V (zp V) (zp V)) ?_)))))));exact Zc ⟨by rw [Env.encQ,if_pos h7];exact zd _,zE (by rw [Env.encE,if_pos h7]),trivial⟩
namespace Led
end Led
section
variable {P : Program} {Γ : Cx} {σ : St} {Q : Exit → Act → World → Prop}
end
section
variable {P : Program} {Γ : Cx} {σ : St} {Q : Exit → Act → World → Prop} {a : Act} {w : World}
end
def itemsE (l:List Led.Ent):List (Nat × Led.Ent):=l.mapIdx fun i e=>(i,e)
theorem itemsE_len (l:List Led.Ent):(itemsE l).length=l.length:=by simp [itemsE]
theorem itemsE_get {l:List Led.Ent} {i:Nat} {e:Led.Ent} (h:l[i]? =some e):(itemsE l)[i]? =some (i,e):=by simp [itemsE,List.getElem?_mapIdx,h]
theorem itemsE_inv {l:List Led.Ent} {i j:Nat} {e:Led.Ent} (h:(itemsE l)[i]? =some (j,e)):j=i∧l[i]? =some e:=by
 simp only [itemsE,List.getElem?_mapIdx,Option.map_eq_some_iff,Prod.mk.injEq] at h;obtain ⟨x,h1,h2,h3⟩:=h;subst h3;exact ⟨h2.symm,h1⟩
def ibE (x:Nat × Led.Ent) (k:Vst):List Box:=[.r k.F (yj 5 1 ZP k.A k.c x.2.bytes)]
def ddE (x:Nat × Led.Ent) (k:Vst):List D:=[iD x.1,Zn [iD x.2.kind,isD (.slice k.A x.2.bytes.length k.c)]]
theorem con_cloneBO_l (b:LB) (hb:b.length≤1000000):ConR Tryz.prog 53 [] [bD b] (fun t:Vst=>[.r t.F (yj 5 1 ZP t.A t.c b)]) (fun t:Vst=>isD (.slice t.A b.length t.c)):=by
 refine zW Tryz.func53 k9 V k9 fun base w0=>(zh (SW.lookB 0 V fun A c=>(zb (za V (zg V) (zf (zc (zh (zh (zb (za V (ze V) (za V (Rd.eqN (e:=5) V V k9) (zf (zc (zI V (fun hb4=> ?_) (fun hb4=> ?_)))))))))))))))
 ·refine SW.viewN 0 V hb4 fun hnil=>(zh (Yk 5 1 ZP (zb (za V (zg V) (zf (zc (zJ (fn:=Tryz.f53) (⟨none,0,[]⟩) [1] (fun _ _ h=>h) (Rs.le (Rs.one V (zp V)) ?_) d9 ⟨⟨_,V,Z9 (by rw [hnil]) (by rw [hnil])⟩,t9⟩)))))));exact zE (by rw [hnil];rfl)
 ·skip
  refine zu (zc (zh (zb (zl (S:=[]) (Ef.lit0 (e:=5) ZP 1 1 k9 k9 V) ?_))));rintro _ ⟨g5,rfl⟩
  refine za V (ze V) (zl (Zf 1 1 1 V V (SrcT.view 0 V V) k9 k9 (by simp <;> omega) d9 (fun _ h=>h) V) ?_)
  rintro _ ⟨A7,F7,c7,rfl⟩;refine za V (zg V) (zf (zc (zJ (fn:=Tryz.f53) (⟨A7,c7,F7⟩) [1] (fun _ _ h=>h) (Rs.le (Rs.one V (zp V)) ?_) d9 ⟨lR V,t9⟩)));exact zd _
theorem con_cloneO (k:Int) (b:LB) (hb:b.length≤1000000):ConR Tryz.prog 139 [] [Zn [iD k,bD b]] (fun t:Vst=>[.r t.F (yj 5 1 ZP t.A t.c b)]) (fun t:Vst=>Zn [iD k,isD (.slice t.A b.length t.c)]):=by
 refine zW Tryz.func139 k9 V k9 fun base w0=>(zh (zb (zl (S:=[]) (yV V V) ?_)));rintro _ ⟨g1,rfl⟩;refine zl (S:=[]) (zH (zs:=[.int .i64 0,.slice none 0 0]) k9 V) ?_;rintro _ ⟨g2,rfl⟩
 refine zf (zc (zh (yh (g2 :: []) (.r 0 (.r 1 (.r 2 (.r 3 (.n 4 (.r 5 (.e 6 .fin .no)) .no))))) k9 k9 (fun d _ _ _ _ h=>by cases d <;> exact h) (zk rfl rfl (zi (n:=0) rfl k9) (zk rfl rfl (zj 0 rfl rfl rfl k9 (yB 1 rfl d9 zn)) (zk rfl rfl (zi (n:=1) rfl k9) (zk rfl rfl (zj 0 rfl rfl rfl k9 (yB 1 rfl d9 zn)) (SWz.efl rfl (EfL.callR (con_cloneBO_l b hb) rfl ⟨zd _,trivial⟩ rfl) ?_ zA))))))))
 rintro _ _ ⟨s7,rfl,rfl⟩;refine zk V V (yr V V bldE2) (zL V (zC 1 V V V k9 V (mL _ mC)) ?_ zA);rintro _ rfl;refine zP (zc ?_);refine zJ (fn:=Tryz.f139) (s7) [2] (fun _ _ h=>h) (Rs.one V (yv 1 V V k9)) d9 ⟨lR V,t9⟩
theorem con_entries_it (l:List Led.Ent) (hl:l.length≤1000000) (hb:∀ e∈l,e.bytes.length≤1000000) (J Jx:Nat→Res) (y:Nat) (hy:∀ (i:Nat) (x:Nat × Led.Ent) (k:Vst) (F:LN),(itemsE l)[i]? =some x→ConY Tryz.prog y (.r F (J i) :: ibE x k) (ddE x k) (fun t:LN × Bool=>[.r t.1 (if t.2=true then J (i + 1) else Jx (i + 1))]) (fun t=>t.2)) (F:LN):ConR Tryz.prog 153 [.r F (J 0)] [isD (.func (.yield y) #[] #[]),paD [lsD encE l]] (fun t:LN × Option Nat=>[.r t.1 (match t.2 with | none=>J (itemsE l).length | some i=>Jx (i + 1))]) (fun t:LN × Option Nat=>isD (.tuple #[])):=by
 refine zW Tryz.func153 k9 V k9 fun base w0=>(zh (zb (za V (yi V V k9 s9) (za V (Zw (e:=85) V k9) (za V (ze V) (zf (zc (zV (Zk (ι:={p:Nat × LN // p.1≤l.length}) (fun p=>zK [(0,isD (.func (.yield y) #[] #[])),(5,lsD encE l),(6,iD (l.length:Int)),(7,iD (p.1.1:Int))] [.r p.1.2 (J p.1.1)]) (fun p=>l.length - p.1.1) (⟨(0,F),by simp⟩) ?_ ?_)))))))))
 ·exact (sB [0] V V)
 ·rintro ⟨⟨i,G⟩,hi⟩ K0 hK0;dsimp only at hi ⊢;refine zh (zb (za V (yG V V) (zf (zc (zh (zI V (fun hb8=> ?_) (fun hb8=> ?_)))))))
  ·have hb8:=oT hb8;refine zu (zc (zh (zV (zh (zb (za V (ze V) ?_))))));obtain ⟨e,he⟩:∃ e,l[i]? =some e:=⟨_,List.getElem?_eq_getElem o9⟩;refine za V (yH (e:=85) 2 V V k9 k9 o9 (by simpa using he)) (za V (Ym 2 V k9 d9 (show 2≤2 by decide) s9) (zl (S:=[]) (zH (zs:=[.int .i64 0,.slice none 0 0]) k9 rfl) ?_));rintro _ ⟨g4,rfl⟩;refine za V (zg V) (zl (S:=[_]) (zC 1 V V V k9 V (m9 V)) ?_);rintro _ rfl;refine zf (zc (zh (SW.regionK (SWk.rd V (ze V) (SWk.rd V (ze V) (SWk.rd V (zG 1 2 V V k9 V zn) (SWk.ef (S:=[]) (zx [] (con_cloneO e.kind e.bytes (hb e (List.mem_of_getElem? he))) V ⟨zd _,t9⟩ d9 t9 (fun _ h=>h) V) ?_)))))));rintro _ ⟨s15,rfl⟩;refine SWk.yield [0,2] (hy i (i,e) s15 G (itemsE_get he)) V V ⟨zd _,zd _,t9⟩ d9 (sX V) V ?_;rintro ⟨G2,b⟩;refine SWk.rd V (yL V) (SWk.nil (zc (zI V (fun hb17=> ?_) (fun hb17=> ?_))))
   ·obtain rfl:b=false:=by simpa using hb17
    refine zJ (fn:=Tryz.f153) (((G2,some i):LN × Option Nat)) [1] (fun _ _ h=>h) (Rs.none V) d9 ⟨lR V,t9⟩
   ·obtain rfl:b=true:=by simpa using hb17
    exact zu (yf (zc (zb (za V (yM V V ⟨by omega,by omega⟩) (za rfl (ze rfl) (zf (fun a w hh=>hK0 (⟨(i + 1,G2),by simp only;omega⟩) (by simp only;omega) a w (hh.sub (sB [1] rfl rfl)))))))))
  ·have hb8:=oF hb8;refine yW ?_
   repeat (first | refine Za ?_ | refine Zb d9 ?_)
   refine Zi ?_;refine Zv (fn:=Tryz.f153) (((G,none):LN × Option Nat)) [0] (Rs.none V) d9 ⟨⟨_,V,(by rw [itemsE_len,show l.length=i by omega];exact yo _)⟩,t9⟩
theorem con_entries_seq (l:List Led.Ent) (hl:l.length≤1000000) (hb:∀ e∈l,e.bytes.length≤1000000):Seq Tryz.prog 153 [paD [lsD encE l]] ibE ddE (itemsE l):=fun J Jx y hy F=>con_entries_it l hl hb J Jx y hy F
theorem entries_en:enters Tryz.prog 153:=enters_of Tryz.func153 k9 rfl
section
variable {P : Program} {Γ : Cx} {σ : St} {S : List Nat} {d d' : D}
end
namespace Led
end Led
section
variable {P : Program} {Γ : Cx} {σ : St} {S : List Nat} {dst : Option Tmp} {ty : TypeId} {pos : String} {af : Array Edge} {gd : Option (Nat × Bool)} {d d' : D} {Q : Exit → Act → World → Prop} {a : Act} {w : World}
end
end Sx
end Go.Proofs.YtgokpcnabgacnaaGreatDoor
