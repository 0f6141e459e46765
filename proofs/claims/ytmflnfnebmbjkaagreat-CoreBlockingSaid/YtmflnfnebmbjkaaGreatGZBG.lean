/- REFERENCE 40: Small, Blocking, Same. REFERENCE 40: Blocking. LAW 40: few, the market that is known. -/
import Derived.Test.YtmflnfnebmbjkaaGreatGZBF
set_option maxHeartbeats 8000000
set_option maxRecDepth 100000
namespace Go.Proofs.YtmflnfnebmbjkaaGreat
open Go.RowKit
namespace Sx
section
theorem rev_at {X i:Nat} (hi:i < Nm.len 256 X):(cN .u8 (Nm.dg 256 X).reverse)[((i:Nat):Int).toNat]? =some (.int .u8 ((X / 256 ^ (Nm.len 256 X - 1 - i) % 256:Nat):Int)):=by
 have hl:(Nm.dg 256 X).length=Nm.len 256 X:=Nm.dg_length 256 X;rw [J7,yZ (by rw [List.length_reverse,hl];exact hi),Jr,List.getElem?_reverse (by rw [hl];exact hi),hl,← Jr,Nm.dg_getD d9]
theorem rev_step {X i m:Nat} (hi:i < m):X / 256 ^ (m - i) * 256 + X / 256 ^ (m - 1 - i) % 256=X / 256 ^ (m - (i + 1)):=by
 rw [show m - i=(m - 1 - i) + 1 by omega,show m - (i + 1)=m - 1 - i by omega,XI,← Nat.div_div_eq_div_mul]
 generalize X / 256 ^ (m - 1 - i)=z
 omega
theorem VM {X:Nat}:(cN .u8 (Nm.dg 256 X).reverse).length=Nm.len 256 X:=by rw [ye,List.length_reverse,Nm.dg_length]
noncomputable instance (r:Rw):Decidable r.ok:=Classical.propDecidable _
theorem len2 {X:Nat}:Nm.len 256 X≤2↔X < 65536:=Nm.len_le d9 2 X
theorem WS (r:Rw) (hB:Byt r.b r.c):Con Tryz.prog 49 [Yj<|ZW r] (yy<|decide r.ok):=by
 refine z1 Tryz.func49 k9 I k9 fun base w0=>(zq (SWl.e2 (S:=[]) (yf I I) fun g1=>(zd I<|ze<|zh<|zh ?_)))
 by_cases hval:Kf r.s r.b r.t r.c=true
 ·obtain ⟨nn,d,hG,hxe,hxn,hxd⟩:=Rw.int hB hval;have hdp:=hG.pos;have hl2:=len2 (X:=d.natAbs);refine SW.sub (σ':=z6 [(1,_)] [.c g1<|q6 nn d]) (⟨⟨_,I,⟨lq I,t9⟩⟩,[0],by decide,⟨⟨_,rfl,(leC_of hxe)⟩,trivial⟩⟩) (zf<|za I (zv 0 4 I I k9 I zp)<|zt (S:=[]) (zl (zcv hG) I ⟨zb _,t9⟩ I)<|za I (yE I)<|zc I<|zN I (zi (n:=2) I k9)<|zN I (zi (n:=1) I k9)<|zN I (zz 0 I I I k9 zp)<|zN I (Rd.len (e:=5) I k9)<|zN I (y0 I I)<|za I (zG I I I)<|ze<|zD I (fun hb14=> ?_) (fun hb14=> ?_))
  ·have h14:¬Nm.len 256 d.natAbs≤2:=by have h:=oT hb14;rw [VM] at h;omega
   refine zq (zd I<|ze<|zE (fn:=Tryz.f49) (fun _ _ h=>h)<|Rs.le (zM I<|zo I) ?_);exact yb (Jd fun h=>by have h2:=h.2;rw [hxd] at h2;omega).symm
  ·have h14:Nm.len 256 d.natAbs≤2:=by have h:=oF hb14;rw [VM] at h;omega
   refine zx (zg<|zq<|zd I<|ze<|zh<|zq<|zd I<|ze<|SW.block<|z2 (ι:={i:Nat // i≤Nm.len 256 d.natAbs}) (fun i=>z6 [(1,pA g1),(3,iD ((d.natAbs / 256 ^ (Nm.len 256 d.natAbs - i.1):Nat):Int)),(4,iD (i.1:Int))] [.c g1<|q6 nn d]) (fun i=>Nm.len 256 d.natAbs - i.1) (⟨0,JC _⟩) ?_ ?_)
   ·exact ⟨⟨_,I,⟨lq I,⟨⟨_,I,zH (by rw [Nat.sub_zero,Nat.div_eq_of_lt<|Nm.lt_pow_len d9 _];rfl)⟩,⟨lq I,t9⟩⟩⟩⟩,[0],by decide,⟨la rfl,trivial⟩⟩
   ·rintro ⟨i,hi⟩ K0 hK0;dsimp only at hi ⊢;have hdv:=Nat.div_le_self d.natAbs (256 ^ (Nm.len 256 d.natAbs - i));have hd0:(0:Int)≤((d.natAbs / 256 ^ (Nm.len 256 d.natAbs - i):Nat):Int):=Int.natCast_nonneg _;refine zh (zq<|zc I<|za I (zi (n:=2) I k9)<|za I (zi (n:=1) I k9)<|za I (zz 0 I I I k9 zp)<|za I (Rd.len (e:=5) I k9)<|za I (ya I I)<|ze<|zD I (fun hb20=> ?_) (fun hb20=> ?_))
    ·have h20:i < Nm.len 256 d.natAbs:=by have h:=oT hb20;rw [VM] at h;omega
     refine zx (zg<|zh<|SW.block ?_);have hmd:=Nat.mod_lt (d.natAbs / 256 ^ (Nm.len 256 d.natAbs - 1 - i)) (show 0 < 256 by decide);exact zf (zc I<|za I (Rd.mul I I ⟨by omega,by omega⟩)<|za I (zi (n:=2) I k9)<|za I (zi (n:=1) I k9)<|za I (zz 0 I I I k9 zp)<|zc I<|za I (qs (e:=5) I I k9 k9 o9<|rev_at h20)<|za I (ZY I k9 s9)<|za I (ZA .u8 I k9 k9<|jC o9 o9)<|za I (Rd.add I I ⟨by omega,by omega⟩)<|zd I<|zy<|SN.block<|zg<|zf<|zc I<|za I (Rd.add I I ⟨by omega,by omega⟩)<|zd I<|zy (fun aK wK hh=>hK0 (⟨i + 1,by omega⟩) (by dsimp only;omega) aK wK<|hh.sub<|⟨⟨_,I,⟨lq I,⟨⟨_,I,zH (by dsimp only;rw [← rev_step h20];simp)⟩,⟨⟨_,I,zH s9⟩,t9⟩⟩⟩⟩,[0],by decide,⟨la rfl,trivial⟩⟩))
    ·have h20:¬i < Nm.len 256 d.natAbs:=by have h:=oF hb20;rw [VM] at h;omega
     refine zP ?_
     repeat (first | refine zW ?_ | refine zX d9 ?_)
     refine zY (zg<|zq<|zc I<|za I (ZF I I)<|zd I<|ze<|zE (fn:=Tryz.f49) (fun _ _ h=>h)<|Rs.le (zM I<|zo I) ?_);exact yb (by rw [show Nm.len 256 d.natAbs - i=0 by omega,Nat.pow_zero,Nat.div_one,JW];constructor;exact fun h=>⟨hval,by rw [hxd];omega⟩;exact fun h=>by have h2:=h.2;rw [hxd] at h2;omega)
 ·have hval:=Bool.eq_false_iff.2 hval;refine SW.sub (σ':=z6 [(1,_)] [_]) (sB [0] I I) (zf<|za I (zv 0 4 I I k9 I zp)<|zt (S:=[]) (zl (zcw hB hval) I ⟨zb _,t9⟩ I)<|za I (yE I)<|zc I<|zI I<|zI I<|zI I<|zI I<|zI I<|za I (zC I I I)<|ze<|yh I I<|zq<|zd I<|ze<|zE (fn:=Tryz.f49) (fun _ _ h=>h)<|Rs.le (zM I<|zo I) ?_);exact yb (Jd fun h=>by rw [h.1] at hval;cases hval).symm
theorem zct (K:Int) (p:Nat→Int) (n:Nat) (hn:n≤1000000):Con Tryz.prog 25 [lsD (Y1 K)<|zF p n,lsD (Y1 K)<|zF p n] (yy true):=by
 refine z1 Tryz.func25 k9 I k9 fun base w0=>(zq<|zd I<|ze<|zh<|zq<|zc I<|za I (zU (e:=43) I k9)<|zc I<|za I (zU (e:=43) I k9)<|za I (yk I I)<|ze<|zK I s9<|zx<|zg<|zh<|zq<|zd I<|ze<|SW.block<|z2 (ι:={i:Nat // i≤n}) (fun i=>z6 [(0,lsD (Y1 K)<|zF p n),(1,lsD (Y1 K)<|zF p n),(5,iD (i.1:Int))] []) (fun i=>n - i.1) (⟨0,JC _⟩) ?_ ?_)
 ·exact (sB [] I I)
 ·rintro ⟨i,hi⟩ K0 hK0;dsimp only at hi ⊢;refine zh (zq<|zc I<|zc I<|za I (zU (e:=43) I k9)<|za I (ya I I)<|ze<|zD I (fun hb14=> ?_) (fun hb14=> ?_))
  ·have h14:i < n:=by have h:=oT hb14;rw [yl] at h;omega
   exact zx (zg<|zh<|SW.block<|zh<|z8 [] (rr [0,1,2,3,4,5,6,7]<|.n 8 (.r 9 .fin) .no) k9 k9 (fun d _ _ _ _ h=>by cases d <;> exact h)<|zA I I<|zA I I<|zk I I (zR (e:=43) 4 I I k9 k9 o9<|ZH o9)<|zk I I (yJ 4 I k9 d9 (show 4≤4 by decide) s9)<|zA I I<|zA I I<|zk I I (zR (e:=43) 4 I I k9 k9 o9<|ZH o9)<|zk I I (yJ 4 I k9 d9 (show 4≤4 by decide) s9)<|yg I (zl (Vu I I) I ⟨zb _,zb _,t9⟩ I)<|zk I I (yE I)<|yn<|zK I I<|zx<|SN.block<|zg<|zf<|zc I<|za I (Rd.add I I ⟨by omega,by omega⟩)<|zd I<|zy (fun aK wK hh=>hK0 (⟨i + 1,by omega⟩) (by dsimp only;omega) aK wK<|hh.sub<|⟨⟨_,I,⟨lq I,⟨lq I,⟨⟨_,I,zH s9⟩,t9⟩⟩⟩⟩,[],by decide,trivial⟩))
  ·have h14:¬i < n:=by have h:=oF hb14;rw [yl] at h;omega
   refine zP ?_
   repeat (first | refine zW ?_ | refine zX d9 ?_)
   refine zY (zg<|zq<|zd I<|ze<|zE (fn:=Tryz.f25) (fun _ _ h=>h)<|Rs.le (zM I<|zo I) ?_);exact zb _
end
section
theorem con_addKR {K x y:Int} (h:BK K x) (k:BK K y) (hs:BK K (x + y)):Con Tryz.prog 52 [qKD K x,qKD K y] (Zm [qKD K<|x + y,y6 0]):=by
 have h1:=h.s.n.mul k.s.d;have h2:=k.s.n.mul h.s.d;have h3:=(h1.mono (j:=200) d9).add (h2.mono d9);have hp:=Int.mul_ne_zero h.g.d0 k.g.d0;have hf:=fits4 (h1.b d9) (h2.b d9) (h3.b d9) ((h.s.d.mul k.s.d).b d9);obtain ⟨q1,q2,q3⟩:=q_ok hf (rn x K * rd y K + rn y K * rd x K) (rd x K * rd y K)
 obtain ⟨e1,e2⟩:=VL (n:=rn x K * rd y K + rn y K * rd x K) (d:=rd x K * rd y K) (h3.b d9) ((h.s.d.mul k.s.d).b d9) hp hs.g (by
  have c1:=h.cr;have c2:=k.cr;have c3:=hs.cr
  have hK:K≠0:=by have:=h.pos;omega
  refine Int.eq_of_mul_eq_mul_right hK ?_
  generalize rn x K=a at *
  generalize rd x K=b at *
  generalize rn y K=c at *
  generalize rd y K=e at *
  generalize rn (x + y) K=p at *
  generalize rd (x + y) K=q at *
  grind)
 exact j7 (con_addQR h.g k.g) (q1.trans e1) (q2.trans e2) q3
def rp (r:Rw):Int × Int:=(r.num,r.den)
theorem rp_enc {r:Rw} (hB:Byt r.b r.c) (h:r.ok):ZW r=qa (rp r):=by
 obtain ⟨n,d,hG,h1,h2,h3⟩:=Rw.int hB h.1;unfold qa rp;rw [h1,h2,h3]
theorem rp_good {r:Rw} (hB:Byt r.b r.c) (h:r.ok):Good r.num r.den:=by
 obtain ⟨n,d,hG,h1,h2,h3⟩:=Rw.int hB h.1;rw [h2,h3];exact hG
theorem rp_eqs {rs:List Rw} (hby:∀ r∈rs,Byt r.b r.c) (hok:∀ (i:Nat) (r:Rw),rs[i]? =some r→r.ok) (i:Nat) (x:Rw) (y:Int × Int) (hx:rs[i]? =some x) (hy:(rs.map rp)[i]? =some y):ZW x=qa y:=by
 rw [JJ,hx] at hy;rw [← JN hy];exact rp_enc (hby x<|Jc hx) (hok i x hx)
theorem le_rp {rs:List Rw} (hby:∀ r∈rs,Byt r.b r.c) (hok:∀ (i:Nat) (r:Rw),rs[i]? =some r→r.ok):Le (lsD ZW rs) (lsD qa<|rs.map rp):=le_lsD s9 (rp_eqs hby hok)
theorem le_pr_ {rs:List Rw} (hby:∀ r∈rs,Byt r.b r.c) (hok:∀ (i:Nat) (r:Rw),rs[i]? =some r→r.ok):Le (lsD qa<|rs.map rp) (lsD ZW rs):=le_lsD s9 fun i x y hx hy=>(rp_eqs hby hok i y x hy hx).symm
theorem za5 {rs:List Rw} {bd:Nat→Int} {n:Nat} (h:vpE rs bd n=0):rs.length=n∧(∀ (i:Nat) (r:Rw),rs[i]? =some r→r.ok)∧∀ (i:Nat) (r:Rw),rs[i]? =some r→¬r.hi (bd i):=by
 unfold vpE at h
 split at h
 ·cases h
 ·rename_i h1
  split at h
  ·cases h
  ·rename_i h2
   split at h
   ·cases h
   ·rename_i h3;refine ⟨by simpa using h1,fun i r hr=> ?_,fun i r hr hh=>h3 ⟨i,r,hr,hh⟩⟩
    by_cases e:r.ok
    ·exact e
    ·exact absurd ⟨i,r,hr,e⟩ h2
theorem rp_at {rs:List Rw} {i:Nat} {x:Rw} (hx:rs[i]? =some x):(rs.map rp)[((i:Nat):Int).toNat]? =some (rp x):=by rw [J7,JJ,hx];rfl
theorem zaP (b:Int) (l:List Co.Cl) (ws:List Co.Wi) (rs:List Rw) (hr:rs.length≤1000000) (hby:∀ r∈rs,Byt r.b r.c) (hw:ws.length≤1000000) (hl:l.length≤1000000) (hv:¬Co.VW b l ws):Con Tryz.prog 19 [iD b,lsD z7 l,lsD yN ws,lsD ZW rs] (Zm [lsD yd [],yy false,iD 2]):=by
 refine z1 Tryz.func19 k9 I k9 fun base w0=>(zq<|zd I<|zd I<|zd I<|zT<|zc I<|zc I<|zc I<|zt (S:=[]) (zl (WQ b l ws hw hl hv) I ⟨zb _,zb _,zb _,t9⟩ I)<|zc I<|za I (zj I I)<|za I (zj I I)<|zd I<|zd I<|ze<|zh<|zq<|zc I<|za I (yk I I)<|zc I<|zI I<|zI I<|zI I<|zI I<|zI I<|za I (zC I I I)<|ze<|yh I I<|zq<|zd I<|zd I ?_);refine zd I (ze<|zE (fn:=Tryz.f19) (fun _ _ h=>h)<|Rs.le (Zo I (zo I) (zo I)<|zo I) ?_);exact yR ⟨y3,zb _,zb _,t9⟩
theorem zaQ (b:Int) (l:List Co.Cl) (ws:List Co.Wi) (rs:List Rw) (hr:rs.length≤1000000) (hby:∀ r∈rs,Byt r.b r.c) (hw:ws.length≤1000000) (hv:Co.VW b l ws) (he:vpE rs (Co.bO b l ws) l.length≠0):Con Tryz.prog 19 [iD b,lsD z7 l,lsD yN ws,lsD ZW rs] (Zm [lsD yd [],yy false,iD<|vpE rs (Co.bO b l ws) l.length]):=by
 have hmk:=Co.mkt hv;have hn6:=hmk.n6;refine z1 Tryz.func19 k9 I k9 fun base w0=>(zq<|zd I<|zd I<|zd I<|zT<|zc I<|zc I<|zc I<|zt (S:=[]) (zl (KE b l ws hw hv) I ⟨zb _,zb _,zb _,t9⟩ I)<|zc I<|za I (zj I I)<|za I (zj I I)<|zd I<|zd I<|ze<|zh<|zq<|zc I<|za I (yk I I)<|zc I<|zN I (zn I)<|zN I (zU (e:=43) I k9)<|zN I (zn I)<|zN I (zU (e:=61) I k9)<|zN I (yk I I)<|za I (zG I I I)<|ze<|zD I (fun hb35=> ?_) (fun hb35=> ?_))
 ·have hln:rs.length≠l.length:=by have h:=hb35;simp at h;omega
  refine zq (zd I<|zd I<|zd I<|ze<|zE (fn:=Tryz.f19) (fun _ _ h=>h)<|Rs.le (Zo I (zo I) (zo I)<|zo I) ?_);exact yR ⟨y3,zb _,zH (by rw [vpE_len hln]),t9⟩
 ·have hln:rs.length=l.length:=by have h:=hb35;simp at h;omega
  refine zx (zg<|zq<|zc I<|zc I<|zc I<|zt (S:=[]) (zl (W7 b l ws hw hv) I ⟨zb _,zb _,zb _,t9⟩ I)<|zc I<|za I (zj I I)<|za I (zj I I)<|zd I<|zd I<|ze<|zh<|zh<|SW.sub (σ':=z6 [(1,_),(11,_),(13,_),(3,_)] []) (sB [] I I)<|zf<|zd I<|ze<|SW.block<|z2 (ι:={i:Nat // i≤rs.length∧∀ j < i,∀ r:Rw,rs[j]? =some r→r.ok}) (fun i=>z6 [(1,lsD z7 l),(11,lsD yd<|zF (Co.vO b l ws)<|2 ^ l.length),(13,lsD yd<|zF (Co.bO b l ws) l.length),(3,lsD ZW rs),(15,iD (i.1:Int))] []) (fun i=>rs.length - i.1) (⟨0,JC _,fun _ h=>absurd h<|Nat.not_lt_zero _⟩) ?_ ?_)
  ·exact (sB [] I I)
  ·rintro ⟨i,hi,hp⟩ K0 hK0;dsimp only at hi hp ⊢;refine zh (zq<|zc I<|zc I<|za I (zU (e:=43) I k9)<|za I (ya I I)<|ze<|zD I (fun hb46=> ?_) (fun hb46=> ?_))
   ·have h46:(i:Int) < (rs.length:Int):=oT hb46;refine zx (zg<|zh<|SW.block<|zh ?_);obtain ⟨x,hx⟩:∃ x,rs[i]? =some x:=⟨_,Je o9⟩;have hBx:=hby x (Jc hx);refine zf (zc I<|zc I<|za I (zR (e:=43) 4 I I k9 k9 o9 (by simpa using hx))<|za I (yJ 4 I k9 d9 (show 4≤4 by decide) s9)<|zt (S:=[]) (zl (WS x hBx) I ⟨zb _,t9⟩ I)<|za I (yE I)<|ze<|zD I (fun hb54=> ?_) (fun hb54=> ?_))
    ·have hxo:¬x.ok:=by simpa using hb54
     refine zq (zd I<|zd I<|zd I<|ze<|zE (fn:=Tryz.f19) (fun _ _ h=>h)<|Rs.le (Zo I (zo I) (zo I)<|zo I) ?_);exact yR ⟨y3,zb _,zH (by rw [zan hx hxo]),t9⟩
    ·have hxo:x.ok:=by simpa using hb54
     exact zx (SN.block<|zg<|zf<|zc I<|za I (Rd.add I I ⟨by omega,by omega⟩)<|zd I<|zy (fun aK wK hh=>hK0 (⟨i + 1,by omega,fun j hj r hr=>(Nat.lt_succ_iff_lt_or_eq.1 hj).elim (fun h=>hp j h r hr) (fun e=>by subst e;rw [hx] at hr;rw [← Option.some.inj hr];exact hxo)⟩) (by dsimp only;omega) aK wK<|hh.sub<|⟨⟨_,I,⟨lq I,⟨lq I,⟨lq I,⟨lq I,⟨⟨_,I,zH s9⟩,t9⟩⟩⟩⟩⟩⟩,[],by decide,trivial⟩))
   ·have h46:¬(i:Int) < (rs.length:Int):=oF hb46;refine zP ?_
    repeat (first | refine zW ?_ | refine zX d9 ?_)
    refine zY (zg<|zh<|zh ?_);have hok:∀ (i:Nat) (r:Rw),rs[i]? =some r→r.ok:=fun j r hr=>hp j (by have:=(Jg.1 hr).1;omega) r hr;refine SW.sub (σ':=z6 [(1,_),(11,_),(13,_),(3,lsD qa<|rs.map rp)] []) (⟨⟨_,I,⟨lq I,⟨lq I,⟨lq I,⟨⟨_,I,(le_rp hby hok)⟩,t9⟩⟩⟩⟩⟩,[],by decide,trivial⟩) (zf<|zd I<|ze<|SW.block<|z2 (ι:={i:Nat // i≤rs.length∧∀ j < i,∀ r:Rw,rs[j]? =some r→¬r.hi ((Co.bO b l ws) j)}) (fun i=>z6 [(1,lsD z7 l),(11,lsD yd<|zF (Co.vO b l ws)<|2 ^ l.length),(13,lsD yd<|zF (Co.bO b l ws) l.length),(3,lsD qa<|rs.map rp),(16,iD (i.1:Int))] []) (fun i=>rs.length - i.1) (⟨0,JC _,fun _ h=>absurd h<|Nat.not_lt_zero _⟩) ?_ ?_)
    ·exact (sB [] I I)
    ·rintro ⟨i,hi,hp⟩ K1 hK1;dsimp only at hi hp ⊢;refine zh (zq<|zc I<|zc I<|za I (zU (e:=43) I k9)<|za I (ya I I)<|ze<|zD I (fun hb58=> ?_) (fun hb58=> ?_))
     ·have h58:i < rs.length:=by have h:=oT hb58;rw [JO] at h;omega
      refine zx (zg<|zh<|SW.block<|zh ?_);obtain ⟨x,hx⟩:∃ x,rs[i]? =some x:=⟨_,Je o9⟩;have hBx:=hby x (Jc hx);have hxo:=hok i x hx;have hG:=rp_good hBx hxo;have hbi:=hmk.bd0 i o9
      refine z8 [] (rr [0,1,2,3,4,5,6,7,8,9,10,11,12,13,14]<|.n 15 (.n 16 (.r 17<|.r 18 .fin) .no) .no) k9 k9 (fun d _ _ _ _ h=>by cases d <;> exact h) (zA I I<|zA I I<|zk I I (zR (e:=43) 4 I I k9 k9 o9<|rp_at hx)<|zk I I (zZ (n:=0) I k9 (show 0 < 4 by decide))<|zk I I (zZ (n:=0) I k9 (show 0 < 4 by decide))<|zk I I (zL I I k9 s9)<|zA I I<|yO 67 I (fun hb67=> ?_) (fun hb67=> ?_))
      ·have hneg:x.num < 0:=oT hb67;refine zm I I I hb67 I I (zm I I I hb67 I I<|zm I I I hb67 I I<|zm I I I hb67 I I<|zm I I I hb67 I I<|zm I I I hb67 I I<|zm I I I hb67 I I<|zm I I I hb67 I I<|qG I I I (hb67) I I ?_ yo);refine qG I I I (hb67) I I ?_ yo;refine zm I I I hb67 I I (zk I I (zC I hb67 I)<|yn<|yh I I<|zq<|zd I<|zd I<|zd I<|ze<|zE (fn:=Tryz.f19) (fun _ _ h=>h)<|Rs.le (Zo I (zo I) (zo I)<|zo I) ?_);exact yR ⟨y3,zb _,zH (by rw [za6 hln hok hx<|.inl hneg]),t9⟩
      ·have hneg:¬x.num < 0:=oF hb67;refine zu I I I hb67 I I (zn I) (zu I I I hb67 I I (zn I)<|zu I I I hb67 I I (zR (e:=43) 4 I I k9 k9 o9<|rp_at hx)<|zu I I I hb67 I I (yJ 4 I k9 d9 (show 4≤4 by decide) s9)<|zu I I I hb67 I I (zn I)<|zu I I I hb67 I I (zn I)<|zu I I I hb67 I I (zR (e:=3) 1 I I k9 k9 o9<|ZH o9)<|zu I I I hb67 I I (zL I I k9 s9)<|Zf I I I (hb67) I (zl (Kj (n:=(Co.bO b l ws) i) (N:=(Co.bO b l ws) i) (D:=1) o9 o9 d9 d9 d9 (Z0<|jj o9 o9).rn (Z0<|jj o9 o9).rd) I ⟨zb _,zb _,t9⟩ I) ?_ yo);rintro _ rfl;refine Zf I I I (hb67) I (zl (KR hG<|Z0<|jj o9 o9) I ⟨zb _,zb _,t9⟩ I) ?_ yo;rintro _ rfl;refine zu I I I hb67 I I (y0 I I) (zk I I (zG I hb67 I)<|yn<|zD I (fun hb79=> ?_) (fun hb79=> ?_))
       ·have hcm:=oT hb79;refine zq (zd I<|zd I<|zd I<|ze<|zE (fn:=Tryz.f19) (fun _ _ h=>h)<|Rs.le (Zo I (zo I) (zo I)<|zo I) ?_);exact yR ⟨y3,zb _,zH (by rw [za6 hln hok hx<|.inr<|W9.1 hcm]),t9⟩
       ·have hcm:=oF hb79;exact zx (SN.block<|zg<|zf<|zc I<|za I (Rd.add I I ⟨by omega,by omega⟩)<|zd I<|zy (fun aK wK hh=>hK1 (⟨i + 1,by omega,fun j hj r hr=>(Nat.lt_succ_iff_lt_or_eq.1 hj).elim (fun h=>hp j h r hr) (fun e=>by subst e;rw [hx] at hr;rw [← Option.some.inj hr];exact fun hh=>hh.elim hneg (fun h=>hcm<|W9.2 h))⟩) (by dsimp only;omega) aK wK<|hh.sub<|⟨⟨_,I,⟨lq I,⟨lq I,⟨lq I,⟨lq I,⟨⟨_,I,zH s9⟩,t9⟩⟩⟩⟩⟩⟩,[],by decide,trivial⟩))
     ·exact (he (vpE_no hln hok fun j r hr=>hp j (by have h:=oF hb58;rw [JO] at h;have:=(Jg.1 hr).1;omega) r hr)).elim
theorem zcE (b:Int) (l:List Co.Cl) (ws:List Co.Wi) (rs:List Rw) (hr:rs.length≤1000000) (hby:∀ r∈rs,Byt r.b r.c) (K:Int) (X:Nat→Int) (hw:ws.length≤1000000) (hv:Co.VW b l ws) (h0:vpE rs (Co.bO b l ws) l.length=0) (hX:PayK rs (Co.bO b l ws) l.length K X):Con Tryz.prog 19 [iD b,lsD z7 l,lsD yN ws,lsD ZW rs] (Zm [lsD yd<|bkL l<|zaT (Co.vO b l ws) (Co.bO b l ws) l.length K X,yy (zaT (Co.vO b l ws) (Co.bO b l ws) l.length K X).isSome,iD 0]):=by
 have hmk:=Co.mkt hv;have hn6:=hmk.n6;have hS64:2 ^ l.length≤64:=Co.pow_le64 hn6;have hKp:=hX.pos;have hkb:=hX.kb;obtain ⟨hln,hok,hhi⟩:=za5 h0;refine z1 Tryz.func19 k9 I k9 fun base w0=>(zq<|zd I<|zd I<|zd I<|zT<|zc I<|zc I<|zc I<|zt (S:=[]) (zl (KE b l ws hw hv) I ⟨zb _,zb _,zb _,t9⟩ I)<|zc I<|za I (zj I I)<|za I (zj I I)<|zd I<|zd I<|ze<|zh<|zq<|zc I<|za I (yk I I)<|zc I<|zN I (zn I)<|zN I (zU (e:=43) I k9)<|zN I (zn I)<|zN I (zU (e:=61) I k9)<|zN I (yk I I)<|za I (zG I I I)<|ze<|zK I (by simp [hln])<|zx<|zg<|zq ?_);refine zc I (zc I<|zc I<|zt (S:=[]) (zl (W7 b l ws hw hv) I ⟨zb _,zb _,zb _,t9⟩ I)<|zc I<|za I (zj I I)<|za I (zj I I)<|zd I<|zd I<|ze<|zh<|zh<|SW.sub (σ':=z6 [(1,_),(11,_),(13,_),(3,_)] []) (sB [] I I)<|zf<|zd I<|ze<|SW.block<|z2 (ι:={i:Nat // i≤rs.length∧∀ j < i,∀ r:Rw,rs[j]? =some r→r.ok}) (fun i=>z6 [(1,lsD z7 l),(11,lsD yd<|zF (Co.vO b l ws)<|2 ^ l.length),(13,lsD yd<|zF (Co.bO b l ws) l.length),(3,lsD ZW rs),(15,iD (i.1:Int))] []) (fun i=>rs.length - i.1) (⟨0,JC _,fun _ h=>absurd h<|Nat.not_lt_zero _⟩) ?_ ?_)
 ·exact (sB [] I I)
 ·rintro ⟨i,hi,hp⟩ K0 hK0;dsimp only at hi hp ⊢;refine zh (zq<|zc I<|zc I<|za I (zU (e:=43) I k9)<|za I (ya I I)<|ze<|zD I (fun hb46=> ?_) (fun hb46=> ?_))
  ·have h46:(i:Int) < (rs.length:Int):=oT hb46;refine zx (zg<|zh<|SW.block<|zh ?_);obtain ⟨x,hx⟩:∃ x,rs[i]? =some x:=⟨_,List.getElem?_eq_getElem o9⟩;have hBx:=hby x (List.mem_of_getElem? hx);have hxo:=hok i x hx;exact zf (zc I<|zc I<|za I (zR (e:=43) 4 I I k9 k9 o9 (by simpa using hx))<|za I (yJ 4 I k9 d9 (show 4≤4 by decide) s9)<|zt (S:=[]) (zl (WS x hBx) I ⟨zb _,t9⟩ I)<|za I (yE I)<|ze<|zK I (by simp [hxo])<|zx<|SN.block<|zg<|zf<|zc I<|za I (Rd.add I I ⟨by omega,by omega⟩)<|zd I<|zy (fun aK wK hh=>hK0 (⟨i + 1,by omega,fun j hj r hr=>(Nat.lt_succ_iff_lt_or_eq.1 hj).elim (fun h=>hp j h r hr) (fun e=>by subst e;rw [hx] at hr;rw [← Option.some.inj hr];exact hxo)⟩) (by dsimp only;omega) aK wK<|hh.sub<|⟨⟨_,I,⟨lq I,⟨lq I,⟨lq I,⟨lq I,⟨⟨_,I,zH s9⟩,t9⟩⟩⟩⟩⟩⟩,[],by decide,trivial⟩))
  ·have h46:¬(i:Int) < (rs.length:Int):=oF hb46;refine zP ?_
   repeat (first | refine zW ?_ | refine zX d9 ?_)
   refine zY (zg<|zh<|zh<|SW.sub (σ':=z6 [(1,_),(11,_),(13,_),(3,lsD qa<|rs.map rp)] []) (⟨⟨_,I,⟨lq I,⟨lq I,⟨lq I,⟨⟨_,I,(le_rp hby hok)⟩,t9⟩⟩⟩⟩⟩,[],by decide,trivial⟩)<|zf<|zd I<|ze<|SW.block<|z2 (ι:={i:Nat // i≤rs.length∧∀ j < i,∀ r:Rw,rs[j]? =some r→¬r.hi ((Co.bO b l ws) j)}) (fun i=>z6 [(1,lsD z7 l),(11,lsD yd<|zF (Co.vO b l ws)<|2 ^ l.length),(13,lsD yd<|zF (Co.bO b l ws) l.length),(3,lsD qa<|rs.map rp),(16,iD (i.1:Int))] []) (fun i=>rs.length - i.1) (⟨0,JC _,fun _ h=>absurd h<|Nat.not_lt_zero _⟩) ?_ ?_)
   ·exact (sB [] I I)
   ·rintro ⟨i,hi,hp⟩ K1 hK1;dsimp only at hi hp ⊢;refine zh (zq<|zc I<|zc I<|za I (zU (e:=43) I k9)<|za I (ya I I)<|ze<|zD I (fun hb58=> ?_) (fun hb58=> ?_))
    ·have h58:i < rs.length:=by have h:=oT hb58;rw [JO] at h;omega
     refine zx (zg<|zh<|SW.block<|zh ?_);obtain ⟨x,hx⟩:∃ x,rs[i]? =some x:=⟨_,Je o9⟩;have hBx:=hby x (Jc hx);have hxo:=hok i x hx;have hG:=rp_good hBx hxo;have hbi:=hmk.bd0 i o9;have hnh:=hhi i x hx
     refine z8 [] (rr [0,1,2,3,4,5,6,7,8,9,10,11,12,13,14]<|.n 15 (.n 16 (.r 17<|.r 18 .fin) .no) .no) k9 k9 (fun d _ _ _ _ h=>by cases d <;> exact h) (zA I I<|zA I I<|zk I I (zR (e:=43) 4 I I k9 k9 o9<|rp_at hx)<|zk I I (zZ (n:=0) I k9 (show 0 < 4 by decide))<|zk I I (zZ (n:=0) I k9 (show 0 < 4 by decide))<|zk I I (zL I I k9 s9)<|zA I I<|zu I I I (Jd (fun h=>hnh<|.inl h)) I I (zn I)<|zu I I I (Jd (fun h=>hnh<|.inl h)) I I (zn I)<|zu I I I (Jd (fun h=>hnh<|.inl h)) I I (zR (e:=43) 4 I I k9 k9 o9<|rp_at hx)<|zu I I I (Jd (fun h=>hnh<|.inl h)) I I (yJ 4 I k9 d9 (show 4≤4 by decide) s9)<|zu I I I (Jd (fun h=>hnh<|.inl h)) I I (zn I)<|zu I I I (Jd (fun h=>hnh<|.inl h)) I I (zn I)<|zu I I I (Jd (fun h=>hnh<|.inl h)) I I (zR (e:=3) 1 I I k9 k9 o9<|ZH o9)<|zu I I I (Jd (fun h=>hnh<|.inl h)) I I (zL I I k9 s9)<|Zf I I I (Jd (fun h=>hnh<|.inl h)) I (zl (Kj (n:=(Co.bO b l ws) i) (N:=(Co.bO b l ws) i) (D:=1) o9 o9 d9 d9 d9 (Z0<|jj o9 o9).rn (Z0<|jj o9 o9).rd) I ⟨zb _,zb _,t9⟩ I) ?_ yo)
     rintro _ rfl;refine Zf I I I (decide_eq_false (fun h=>hnh<|.inl h)) I (zl (KR hG<|Z0<|jj o9 o9) I ⟨zb _,zb _,t9⟩ I) ?_ yo;rintro _ rfl;exact zu I I I (decide_eq_false (fun h=>hnh<|.inl h)) I I (y0 I I) (zk I I (zG I (decide_eq_false (fun h=>hnh<|.inl h)) I)<|yn<|zK I (decide_eq_false (fun h=>hnh<|.inr<|W9.1 h))<|zx<|SN.block<|zg<|zf<|zc I<|za I (Rd.add I I ⟨by omega,by omega⟩)<|zd I<|zy (fun aK wK hh=>hK1 (⟨i + 1,by omega,fun j hj r hr=>(Nat.lt_succ_iff_lt_or_eq.1 hj).elim (fun h=>hp j h r hr) (fun e=>by subst e;rw [hx] at hr;rw [← Option.some.inj hr];exact hnh)⟩) (by dsimp only;omega) aK wK<|hh.sub<|⟨⟨_,I,⟨lq I,⟨lq I,⟨lq I,⟨lq I,⟨⟨_,I,zH s9⟩,t9⟩⟩⟩⟩⟩⟩,[],by decide,trivial⟩))
    ·have h58:¬i < rs.length:=by have h:=oF hb58;rw [JO] at h;omega
     refine zP ?_
     repeat (first | refine zW ?_ | refine zX d9 ?_)
     refine zY (zg<|zh<|zh<|SW.sub (σ':=z6 [(1,_),(11,_),(13,_),(3,lsD (Y1 K)<|zF X l.length)] []) (⟨⟨_,I,⟨lq I,⟨lq I,⟨lq I,⟨⟨_,I,(Le.trans (le_pr_ hby hok) hX.le)⟩,t9⟩⟩⟩⟩⟩,[],by decide,trivial⟩)<|zf<|zd I<|ze<|SW.block<|z2 (ι:={c:Nat // c≤(2 ^ l.length)∧∀ j < c,¬Co.oc j X l.length < Co.need (Co.vO b l ws) (Co.bO b l ws) l.length j * K}) (fun q=>z6 [(1,lsD z7 l),(11,lsD yd<|zF (Co.vO b l ws)<|2 ^ l.length),(13,lsD yd<|zF (Co.bO b l ws) l.length),(3,lsD (Y1 K)<|zF X l.length),(17,iD (q.1:Int))] []) (fun q=>(2 ^ l.length) - q.1) (⟨0,JC _,fun _ h=>absurd h<|Nat.not_lt_zero _⟩) ?_ ?_)
     ·exact (sB [] I I)
     ·rintro ⟨c,hc,hp⟩ K2 hK2;dsimp only at hc hp ⊢;refine zh (zq<|zc I<|zc I<|za I (zU (e:=3) I k9)<|za I (ya I I)<|ze<|zD I (fun hb83=> ?_) (fun hb83=> ?_))
      ·have h83:c < 2 ^ l.length:=by have h:=oT hb83;rw [yl] at h;omega
       refine zx (zg<|zh<|SW.block<|zh ?_)
       have hc2:c < 2 ^ l.length:=by omega
       have hnd:=jL hmk hc2;have hnk:0≤(Co.need (Co.vO b l ws) (Co.bO b l ws) l.length c * K):=Int.mul_nonneg hnd.1 o9;have hnk2:=Int.mul_le_mul hnd.2 hkb o9 d9;have hB1:BK K (Co.need (Co.vO b l ws) (Co.bO b l ws) l.length c * K):=qb hKp hX.k o9 o9;refine zf (zt (S:=[]) (zl (Kk (z:=0) (qb hKp hX.k d9 d9) d9 d9 d9 d9 d9 s9) I ⟨zb _,zb _,t9⟩ I) (SWl.e2 (S:=[]) (Ef.alloc (zs:=[.bool false,.slice none 0 0,.bool false,.slice none 0 0]) k9 I) fun g18=>(zt (S:=[_]) (zw 0 I I I k9 I<|m9 I)<|ze<|zh<|zq<|zd I<|ze<|SW.block<|z2 (ι:={i:Nat // i≤l.length}) (fun i=>z6 [(1,lsD z7 l),(11,lsD yd<|zF (Co.vO b l ws)<|2 ^ l.length),(13,lsD yd<|zF (Co.bO b l ws) l.length),(3,lsD (Y1 K)<|zF X l.length),(17,iD (c:Int)),(18,pA g18),(19,iD (i.1:Int))] [.c g18<|qKC K<|Co.oc c X i.1]) (fun i=>l.length - i.1) (⟨0,JC _⟩) ?_ ?_)))
       ·exact (sB [0] I I)
       ·rintro ⟨i,hi⟩ K3 hK3;dsimp only at hi ⊢;have hoc:=Co.oc_ub (c:=c) (p:=X) (n:=i) (M:=1099511627776000000000000000000) d9 (fun j hj=>hX.x j o9);have hi6:=Int.mul_le_mul_of_nonneg_right (show (i:Int)≤6 by omega) (show (0:Int)≤1099511627776000000000000000000 by decide);refine zh (zq<|zc I<|zc I<|za I (zU (e:=43) I k9)<|za I (ya I I)<|ze<|zD I (fun hb90=> ?_) (fun hb90=> ?_))
        ·have h90:i < l.length:=by have h:=oT hb90;rw [yl] at h;omega
         refine zx (zg<|zh<|SW.block<|zq<|zc I<|zc I<|zt (S:=[]) (zl (KP c i o9 o9) I ⟨zb _,zb _,t9⟩ I)<|za I (yE I)<|ze<|zD I (fun hb96=> ?_) (fun hb96=> ?_))
         ·skip
          have hxi:=hX.x i o9
          exact z8 (g18 :: []) (.q 0<|rr [1,2,3]<|.q 4<|.n 5 (rr [6,7,8]<|.e 9 .fin .no) .no) k9 k9 (fun d _ _ _ _ h=>by cases d <;> exact h) (Z7 I I (zv 0 4 I I k9 I zp)<|zA I I<|zA I I<|zk I I (zR (e:=43) 4 I I k9 k9 o9<|ZH o9)<|Z7 I I (yJ 4 I k9 d9 (show 4≤4 by decide) s9)<|yg I (zl (con_addKR (qb hKp hX.k o9 o9) (qb hKp hX.k o9 o9)<|qb hKp hX.k o9 o9) I ⟨zb _,zb _,t9⟩ I)<|zA I I<|zk I I (zj I I)<|zk I I (zj I I)<|yr I (zw 0 I I I k9 I mC)<|yq<|SN.block<|zg<|zf<|zc I<|za I (Rd.add I I ⟨by omega,by omega⟩)<|zd I<|zy (fun aK wK hh=>hK3 (⟨i + 1,by omega⟩) (by dsimp only;omega) aK wK<|hh.sub<|⟨⟨_,I,⟨lq I,⟨lq I,⟨lq I,⟨lq I,⟨lq I,⟨lq I,⟨⟨_,I,zH s9⟩,t9⟩⟩⟩⟩⟩⟩⟩⟩,[0],by decide,⟨⟨_,rfl,(by dsimp only;rw [oc_succ,if_neg (by simpa using hb96)];exact yG _)⟩,trivial⟩⟩))
         ·skip
          exact zx (SN.block<|zg<|zf<|zc I<|za I (Rd.add I I ⟨by omega,by omega⟩)<|zd I<|zy (fun aK wK hh=>hK3 (⟨i + 1,by omega⟩) (by dsimp only;omega) aK wK<|hh.sub<|⟨⟨_,I,⟨lq I,⟨lq I,⟨lq I,⟨lq I,⟨lq I,⟨lq I,⟨⟨_,I,zH s9⟩,t9⟩⟩⟩⟩⟩⟩⟩⟩,[0],by decide,⟨⟨_,rfl,(by dsimp only;rw [oc_succ,if_pos (by simpa using hb96),Int.add_zero];exact yG _)⟩,trivial⟩⟩))
        ·have h90:¬i < l.length:=by have h:=oF hb90;rw [yl] at h;omega
         refine zP ?_
         repeat (first | refine zW ?_ | refine zX d9 ?_)
         refine zY (zg<|zh ?_)
         have hil:i=l.length:=by omega
         have hB2:BK K (Co.oc c X i):=qb hKp hX.k o9 o9
         refine z8 [] (rr [0,1,2,5]<|.n 3 (.n 4 (.n 6 (.r 7 .fin) .no) .no) .no) k9 k9 (fun d _ _ _ _ h=>by cases d <;> exact h) (zA I I<|zA I I<|zA I I<|zk I I (zv 0 4 I I k9 I zp)<|yg I (zl (con_owed (Co.vO b l ws) (Co.bO b l ws) l.length c hc2 hn6 (fun c _=>Co.vO_ub hv c) hmk.bd0) I ⟨zb _,zb _,zb _,t9⟩ I)<|yg I (zl (Kk (z:=(Co.need (Co.vO b l ws) (Co.bO b l ws) l.length c * K)) hB1 o9 o9 d9 d9 d9 (by rw [Int.mul_one])) I ⟨zb _,zb _,t9⟩ I)<|yg I (zl (con_cmpKR hB1 hB2) I ⟨zb _,zb _,t9⟩ I)<|zk I I (y0 I I)<|yn<|zD I (fun hb113=> ?_) (fun hb113=> ?_))
         ·have h113:=oT hb113;rw [hil] at h113;refine zq (zc I<|zc I<|zt (S:=[]) (zl (KD l c hn6 o9) I ⟨zb _,zb _,t9⟩ I)<|zd I<|zd I<|zd I<|ze<|zE (fn:=Tryz.f19) (fun _ _ h=>h)<|Rs.le (Zo I (zo I) (zo I)<|zo I) ?_);have hq:(zaT (Co.vO b l ws) (Co.bO b l ws) l.length K X)=some c:=zad hc2 (cmpT.1 h113) hp;exact yR ⟨(by rw [hq];exact zb _),zH (by rw [hq];rfl),zb _,trivial⟩
         ·have h113:=oF hb113;rw [hil] at h113;exact zx (SN.block<|zg<|zf<|zc I<|za I (Rd.add I I ⟨by omega,by omega⟩)<|zd I<|zy (fun aK wK hh=>hK2 (⟨c + 1,by omega,fun j hj=>(Nat.lt_succ_iff_lt_or_eq.1 hj).elim (hp j) (fun e=>by subst e;exact fun h=>h113<|cmpT.2 h)⟩) (by dsimp only;omega) aK wK<|hh.sub<|⟨⟨_,I,⟨lq I,⟨lq I,⟨lq I,⟨lq I,⟨⟨_,I,zH s9⟩,t9⟩⟩⟩⟩⟩⟩,[],by decide,trivial⟩))
      ·have h83:¬c < 2 ^ l.length:=by have h:=oF hb83;rw [yl] at h;omega
       refine zP ?_
       repeat (first | refine zW ?_ | refine zX d9 ?_)
       refine zY (zg<|zq<|zd I<|zd I<|zd I<|ze<|zE (fn:=Tryz.f19) (fun _ _ h=>h)<|Rs.le (Zo I (zo I) (zo I)<|zo I) ?_);have hq:(zaT (Co.vO b l ws) (Co.bO b l ws) l.length K X)=none:=zae fun j hj=>hp j o9;exact yR ⟨(by rw [hq];exact y3),zH (by rw [hq];rfl),zb _,trivial⟩
end
section
def lfew (b:Int) (l:List Co.Cl) (ws:List Co.Wi):Bool:=decide (l.length≤20∧ws.length≤100) && ffew b l
theorem lfew_len {b:Int} {l:List Co.Cl} {ws:List Co.Wi} (h:lfew b l ws=true):l.length≤20∧ws.length≤100:=by
 unfold lfew at h;rw [JL] at h;exact oT h.1
def l0:List Co.Cl:=[⟨1,1⟩,⟨2,1⟩,⟨3,2⟩]
def w0_:List Co.Wi:=[⟨1,0,9⟩,⟨2,1,9⟩,⟨3,0,11⟩]
theorem l0_at {i:Nat} {c:Co.Cl} (h:l0[i]? =some c):(i=0∧c=⟨1,1⟩)∨(i=1∧c=⟨2,1⟩)∨(i=2∧c=⟨3,2⟩):=by
 match i,h with
 | 0,h=>exact .inl ⟨rfl,(JN h).symm⟩
 | 1,h=>exact .inr (.inl ⟨rfl,(JN h).symm⟩)
 | 2,h=>exact .inr (.inr ⟨rfl,(JN h).symm⟩)
 | k + 3,h=>simp [l0] at h
theorem w0_at {i:Nat} {c:Co.Wi} (h:w0_[i]? =some c):(i=0∧c=⟨1,0,9⟩)∨(i=1∧c=⟨2,1,9⟩)∨(i=2∧c=⟨3,0,11⟩):=by
 match i,h with
 | 0,h=>exact .inl ⟨rfl,(JN h).symm⟩
 | 1,h=>exact .inr (.inl ⟨rfl,(JN h).symm⟩)
 | 2,h=>exact .inr (.inr ⟨rfl,(JN h).symm⟩)
 | k + 3,h=>simp [w0_] at h
theorem vc0:Co.VC 4 l0 where
 b1:=by decide
 b2:=by decide
 n:=by decide
 ok i c h:=by rcases l0_at h with ⟨_,rfl⟩ | ⟨_,rfl⟩ | ⟨_,rfl⟩ <;> decide
 up i c d h k:=by
  rcases l0_at h with ⟨rfl,rfl⟩ | ⟨rfl,rfl⟩ | ⟨rfl,rfl⟩ <;> rcases l0_at k with ⟨e,rfl⟩ | ⟨e,rfl⟩ | ⟨e,rfl⟩ <;> first | decide | omega
 sum:=by decide
theorem vw0:Co.VW 4 l0 w0_ where
 c:=vc0
 ok i x h:=by
  rcases w0_at h with ⟨rfl,rfl⟩ | ⟨rfl,rfl⟩ | ⟨rfl,rfl⟩
  ·exact ⟨0,⟨1,1⟩,I,I,by decide,by decide,by decide,by decide⟩
  ·exact ⟨1,⟨2,1⟩,I,I,by decide,by decide,by decide,by decide⟩
  ·exact ⟨2,⟨3,2⟩,I,I,by decide,by decide,by decide,by decide⟩
 up i x y h k:=by
  rcases w0_at h with ⟨rfl,rfl⟩ | ⟨rfl,rfl⟩ | ⟨rfl,rfl⟩ <;> rcases w0_at k with ⟨e,rfl⟩ | ⟨e,rfl⟩ | ⟨e,rfl⟩ <;> first | decide | omega
abbrev V0:Nat→Int:=Co.vO 4 l0 w0_
abbrev B0_:Nat→Int:=Co.bO 4 l0 w0_
theorem k_vals:zF V0 (2 ^ l0.length)=[0,9,9,18,11,11,11,18]:=by decide +kernel
theorem k_bids:zF B0_ l0.length=[9,9,0]:=by decide +kernel
theorem k_vcg:zF (Co.vcg V0 B0_ l0.length) l0.length=[2,2,0]:=by decide +kernel
theorem k_in:∀ c < 8,60 * Co.need V0 B0_ 3 c≤Co.oc c (Co.rs B0_ (Co.vcg V0 B0_ 3) 210) 3:=by decide +kernel
theorem k_out:¬60 * Co.need V0 B0_ 3 4≤Co.oc 4 (Co.rs B0_ (Co.vcg V0 B0_ 3) 209) 3:=by decide +kernel
theorem k_thr:thT V0 B0_ l0.length=210:=by
 have hm:Co.Mkt 3 V0 B0_:=Co.mkt vw0;have h0:=(Vc hm (2 ^ 3)<|Js _).1;have h1:thT V0 B0_ 3≤210:=(Co.in_iff hm (fun _ _=>qx _) (fun _ _=>YI _) d9).1 k_in;have h2:¬thT V0 B0_ 3≤209:=fun h=>k_out ((Co.in_iff hm (G:=fun c=>gG V0 B0_ 3 c) (fun _ _=>qx _) (fun _ _=>YI _) d9).2 h 4 d9);show thT V0 B0_ 3=210;omega
theorem k_pay0:zF (Co.pay V0 B0_ 3 (Co.rs B0_ (Co.vcg V0 B0_ 3) 210) 3) 3=[330,330,0]:=by decide +kernel
theorem k_pay:zF (pyS V0 B0_ l0.length l0.length) l0.length=[330,330,0]:=by
 have h:thT V0 B0_ 3=210:=k_thr;show zF (Co.pay V0 B0_ 3 (Co.rs B0_ (Co.vcg V0 B0_ 3)<|thT V0 B0_ 3) 3) 3=_;rw [h];exact k_pay0
def rw_ (n d:Int):Rw:=⟨decide (n < 0),(Nm.dg 256 n.natAbs).reverse,decide (d < 0),(Nm.dg 256 d.natAbs).reverse⟩
def rs0:List Rw:=[rw_ 2 1,rw_ 2 1,rw_ 0 1]
theorem Vd (n d:Int):(rw_ n d).num=n:=YV n
theorem j6 (n d:Int):(rw_ n d).den=d:=YV d
theorem WJ {n:Int} (h1: -1000≤n) (h2:n≤1000):Good n 1:=Z0 (jj o9 o9)
theorem rw_ok {n:Int} (h1: -1000≤n) (h2:n≤1000):(rw_ n 1).ok:=⟨(WJ h1 h2).rv,by rw [j6];decide⟩
theorem rs0_at {i:Nat} {r:Rw} (h:rs0[i]? =some r):(i=0∧r=rw_ 2 1)∨(i=1∧r=rw_ 2 1)∨(i=2∧r=rw_ 0 1):=by
 match i,h with
 | 0,h=>exact .inl ⟨rfl,(JN h).symm⟩
 | 1,h=>exact .inr (.inl ⟨rfl,(JN h).symm⟩)
 | 2,h=>exact .inr (.inr ⟨rfl,(JN h).symm⟩)
 | k + 3,h=>simp [rs0] at h
theorem rs0_ok (i:Nat) (r:Rw) (h:rs0[i]? =some r):r.ok:=by
 rcases rs0_at h with ⟨_,rfl⟩ | ⟨_,rfl⟩ | ⟨_,rfl⟩
 ·exact rw_ok d9 d9
 ·exact rw_ok d9 d9
 ·exact rw_ok d9 d9
theorem k_b0:B0_ 0=9∧B0_ 1=9∧B0_ 2=0:=by decide +kernel
theorem rs0_hi (i:Nat) (r:Rw) (h:rs0[i]? =some r):¬r.hi (B0_ i):=by
 have hb:=k_b0;unfold Rw.hi;rcases rs0_at h with ⟨rfl,rfl⟩ | ⟨rfl,rfl⟩ | ⟨rfl,rfl⟩
 ·rw [Vd,j6,hb.1];decide
 ·rw [Vd,j6,hb.2.1];decide
 ·rw [Vd,j6,hb.2.2];decide
theorem rs0_byt:∀ r∈rs0,Byt r.b r.c:=fun r hr=>by
 have h:∀ n d:Int,Byt (rw_ n d).b (rw_ n d).c:=fun n d=>⟨fun x hx=>Nm.dg_lt d9 x<|List.mem_reverse.1 hx,fun x hx=>Nm.dg_lt d9 x<|List.mem_reverse.1 hx⟩;simp only [rs0,Jt,List.not_mem_nil,or_false] at hr
 rcases hr with rfl | rfl | rfl <;> exact h _ _
theorem rs0_vp:vpE rs0 B0_ l0.length=0:=vpE_no rfl rs0_ok rs0_hi
theorem rs0_K:kP rs0=1:=by simp only [rs0,kP,j6];decide
theorem rs0_X:∀ i < 3,xP rs0 i=[2,2,0].getD i 0:=fun i hi=>by
 unfold xP;rw [rs0_K]
 match i,hi with
 | 0,_=>show (rw_ 2 1).num * (1 / (rw_ 2 1).den)=_;rw [Vd,j6];decide
 | 1,_=>show (rw_ 2 1).num * (1 / (rw_ 2 1).den)=_;rw [Vd,j6];decide
 | 2,_=>show (rw_ 0 1).num * (1 / (rw_ 0 1).den)=_;rw [Vd,j6];decide
theorem rs0_pay:PayK rs0 B0_ l0.length (kP rs0) (xP rs0):=payK d9 rs0_byt (Co.mkt vw0).bd0 rfl rs0_ok rs0_hi
theorem k_blk0:zaT V0 B0_ 3 1 (fun i=>[2,2,0].getD i 0)=some 4:=by decide +kernel
theorem k_blk:zaT V0 B0_ l0.length (kP rs0) (xP rs0)=some 4:=by
 rw [← k_blk0,rs0_K];show (List.range 8).find? _=(List.range 8).find? _;congr 1
 funext c
 show decide (Co.oc c (xP rs0) 3 < Co.need V0 B0_ 3 c * 1)=_;rw [show Co.oc c (xP rs0) 3=Co.oc c (fun i=>[2,2,0].getD i 0) 3 from Co.sm_congr fun i hi=>by rw [rs0_X i hi]]
theorem k_win:Co.wnr l0 4=[3]:=by decide +kernel
theorem con_few (b:Int) (l:List Co.Cl) (ws:List Co.Wi):Con Tryz.prog 9 [iD b,lsD z7 l,lsD yN ws] (yy<|lfew b l ws):=by
 refine z1 Tryz.func9 k9 I k9 fun base w0=>(zq<|zd I<|zT<|zc I<|za I (zU (e:=61) I k9)<|za I (ZF I I)<|zc I<|yt 10 I (fun hb10=> ?_) (fun hb10=> ?_))
 ·have h10:(l.length:Int)≤20:=oT hb10;refine zN hb10 (zn I) (zN hb10 (zU (e:=63) I k9)<|zN hb10 (ZF I I)<|za I (zC I hb10 I)<|zc I<|yt 15 I (fun hb15=> ?_) (fun hb15=> ?_))
  ·have h15:(ws.length:Int)≤100:=oT hb15;refine zN hb15 (zn I) (zN hb15 (zn I)<|y5 (S:=[]) I I hb15 I (zl (con_few40 b l o9) I ⟨zb _,zb _,t9⟩ I) ?_);rintro _ rfl;refine za I (zC I hb15 I) (zd I<|ze<|zE (fn:=Tryz.f9) (fun _ _ h=>h)<|Rs.le (zM I<|zo I) ?_);exact yb (by unfold lfew;rw [Jo (show l.length≤20∧ws.length≤100 by omega)];rfl)
  ·have h15:¬(ws.length:Int)≤100:=oF hb15;refine zI hb15 (zI hb15<|zI hb15<|za I (zG I hb15 I)<|zd I<|ze<|zE (fn:=Tryz.f9) (fun _ _ h=>h)<|Rs.le (zM I<|zo I) ?_);exact yb (by unfold lfew;rw [Jd (show ¬(l.length≤20∧ws.length≤100) by omega)];rfl)
 ·have h10:¬(l.length:Int)≤20:=oF hb10;refine zI hb10 (zI hb10<|zI hb10<|za I (zG I hb10 I)<|zc I<|zI I<|zI I<|zI I<|za I (zG I I I)<|zd I<|ze<|zE (fn:=Tryz.f9) (fun _ _ h=>h)<|Rs.le (zM I<|zo I) ?_);exact yb (by unfold lfew;rw [Jd (show ¬(l.length≤20∧ws.length≤100) by omega)];rfl)
