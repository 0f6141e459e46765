/- WIRE: Read, Err, End; the reference's Ungroup. WIRE: the reference's readers. WIRE: what is written is read again, and what is read was written so; in -/
import Derived.Test.YtgokpcnabgacnaaGreatDoorGZAP
set_option maxHeartbeats 8000000
set_option maxRecDepth 100000
namespace Go.Proofs.YtgokpcnabgacnaaGreatDoor
open Go.RowKit
namespace Sx
section
theorem bldRd {b:LB}:Bld Tryz.prog 260 [1,2] [yj true,bD b] [iD 0,yj true,bD b,iD ((0:Nat):Int)]:=fun L w vs hv=>by
 obtain ⟨u,v,rfl,hu,h3⟩:=zdB hv
 cases hu
 have h3':=h3;obtain ⟨A,cp,rfl,-⟩:=h3;exact ⟨[.int .i64 0,.bool true,.slice A _ cp,.int .i64 0],⟨V,V,h3',V,t9⟩,fun w'=>by kernel_rfl⟩
def jB (r:RT):Int:=if r.e=0∧r.p≠[] then 5 else r.e
theorem endE_long {b:LB} {s:Int × Nat} {r:RT} (hs:RRel b s r) (h0:s.1=0) (h:s.2 < b.length):jB r=5:=by
 obtain ⟨h1,h2,h3⟩:=hs
 have he:r.e=0:=by rw [← h1];exact h0
 unfold jB;rw [Jh ⟨he,fun hp=>by rw [h3 he] at hp;have:=JY List.length hp;rw [JA] at this;simp at this;omega⟩]
theorem zeb {b:LB} {s:Int × Nat} {r:RT} (hs:RRel b s r) (h:¬(s.1=0∧s.2 < b.length)):jB r=s.1:=by
 obtain ⟨h1,h2,h3⟩:=hs;unfold jB;rw [Jb (fun hp=>h ⟨by rw [h1];exact hp.1,?_⟩),h1];rcases Nat.lt_or_ge s.2 b.length with h' | h'
 ·exact h'
 ·exact absurd (by rw [h3 hp.1];exact JZ h') hp.2
theorem zaE {c:UInt8}:(c.toNat:Int).tmod 128=((c.toNat % 128:Nat):Int):=zgc
theorem shr_max {i:Nat} (h:i=8):(9223372036854775807:Int) / 2 ^ (min (7 * i) IntKind.u64.bits)=127:=by subst h;rfl
theorem zdd (b:LB) (hb:b.length≤1000000):ConR Tryz.prog 148 [] [bD b] (fun g:Nat=>[.c g [iD 0,yj true,bD b,iD ((0:Nat):Int)]]) (fun g:Nat=>pA g):=by
 refine yg Tryz.func148 k9 V k9 fun base w0=>(zp<|zf V<|ze<|zk<|Yf 5 1 Yt<|zi<|zd V (SWl.e4 (yN 0 1 1 V V (SrcT.b V) k9 k9 (by simp <;> omega) d9 (fun _ h=>h) V) fun A4 F4 c4=>(Ki 0 4 V V (Yc _)<|za V (yq V V bldRd) (SWl.e2 (S:=[]) (yv V V) fun g6=>(zf V<|ze ?_)))))
 refine zQ (fn:=Tryz.f148) (g6) [0] (fun _ _ h=>h) (Rs.one V<|zj V) d9 ⟨la V,t9⟩
theorem zde (b:LB) (s:Int × Nat) (r:RT) (hs:RRel b s r):ConN Tryz.prog 151 [paD [iD s.1,yj true,bD b,iD ((s.2:Nat):Int)]] (iD<|jB r):=by
 refine yO Tryz.func151 k9 V k9 fun base w0=>(zp<|zf V<|ze<|zk<|zp<|zd V<|zt (S:=[]) (zD [] (YL b s.2 s.1) V ⟨(zo<|zb _),t9⟩ V)<|za V (yS V)<|ze<|zE V V<|zr<|zn<|zk<|zk<|yh [] (rr [0,1,2,3,4,5,6,7,8,9,10,11,12,13,14,15,16,17] .fin) k9 k9 (fun d _ _ _ _ h=>by cases d <;> exact h)<|zL V V<|zl V V (yQ V)<|zl V V (yb (n:=0) V k9 (show 0 < 4 by decide))<|zl V V (yb (n:=0) V k9 (show 0 < 4 by decide))<|zl V V (ya V V k9 s9)<|zl V V (yM V V)<|zL V V<|YI 12 V (fun hb12=> ?_) (fun hb12=> ?_))
 ·have h12:s.1=0:=oT hb12;refine zG V V V hb12 V V (zI V) (zG V V V hb12 V V (yQ V)<|zG V V V hb12 V V (yb (n:=3) V k9 (show 3 < 4 by decide))<|zG V V V hb12 V V (ya V V k9 s9)<|zG V V V hb12 V V (zI V)<|zG V V V hb12 V V (yQ V)<|zG V V V hb12 V V (yb (n:=2) V k9 (show 2 < 4 by decide))<|zG V V V hb12 V V (ya V V k9 s9)<|zG V V V hb12 V V (ZC (e:=5) V k9)<|zG V V V hb12 V V (yF V V)<|zl V V (zB V hb12 V)<|yI<|zJ V (fun hb23=> ?_) (fun hb23=> ?_))
  ·have h23:s.2 < b.length:=by have h:=oT hb23;rw [zx] at h;omega
   refine zp (zf V<|ze<|zK (fn:=Tryz.f151) (fun _ _ h=>h)<|Rs.le (Rs.one V<|zj V) ?_);exact Le.trans (zF (by rw [endE_long hs h12 h23])) zu
  ·have h23:¬s.2 < b.length:=by have h:=oF hb23;rw [zx] at h;omega
   refine zr (zn<|zp<|zd V<|za V (yQ V)<|za V (yb (n:=0) V k9 (show 0 < 4 by decide))<|za V (yb (n:=0) V k9 (show 0 < 4 by decide))<|za V (ya V V k9 s9)<|zf V<|ze<|zK (fn:=Tryz.f151) (fun _ _ h=>h)<|Rs.le (Rs.one V<|zj V) ?_);exact Le.trans (zF (by rw [zeb hs (fun h=>h23 h.2)])) zu
 ·have h12:¬s.1=0:=oF hb12;refine zH V V V hb12 V V (zH V V V hb12 V V<|zH V V V hb12 V V<|zH V V V hb12 V V<|zH V V V hb12 V V<|zH V V V hb12 V V<|zH V V V hb12 V V<|zH V V V hb12 V V<|zH V V V hb12 V V<|zH V V V hb12 V V<|zl V V (zv V hb12 V)<|yI<|zE V V<|zr<|zn<|zp<|zd V<|za V (yQ V)<|za V (yb (n:=0) V k9 (show 0 < 4 by decide))<|za V (yb (n:=0) V k9 (show 0 < 4 by decide))<|za V (ya V V k9 s9)<|zf V<|ze<|zK (fn:=Tryz.f151) (fun _ _ h=>h)<|Rs.le (Rs.one V<|zj V) ?_);exact Le.trans (zF (by rw [zeb hs (fun h=>h12 h.1)])) zu
theorem zfq (p:LB) (hp:p.length≤1000000) (N M:Nat) (h:rdg 9 true p= .ok (N,M)):ConN Tryz.prog 178 [bD p,iD 9,isD<|.int .u64 9223372036854775807] (Yk [isD<|.int .u64 (N:Int),iD (M:Int),iD 0]):=by
 refine yO Tryz.func178 k9 V k9 fun base w0=>(zp<|zf V<|zf V<|zf V<|zV<|zf V<|zV<|zf V<|ze<|zX<|Zw (ι:={q:Nat × Nat // GInv p 0 N M q.1 q.2}) (fun ⟨(i,z),hI⟩=>zN [(0,bD p),(1,iD 9),(2,isD<|.int .u64 9223372036854775807),(10,iD (i:Int)),(9,isD<|.int .u64 (z:Int))] []) (fun ⟨(i,z),hI⟩=>9 - i) (⟨(0,0),GInv.start h⟩) ?_ ?_)
 ·exact (sB [] V V)
 ·rintro ⟨⟨i,z⟩,hI⟩ K0 hK0;dsimp only at hI ⊢;obtain ⟨hi9,c,hc,hcs⟩:=hI.step;rw [Nat.zero_add] at hc;have hkl:=(List.getElem?_eq_some_iff.1 hc).1;have hcl:=u8_lt (c:=c)
  have hal:z < 2 ^ (7 * i):=by rw [← VN];exact hI.2.1
  have hp7:=pow7 (show i≤8 by omega);have hx:c.toNat % 128 < 128:=Nat.mod_lt _ d9;have hmul:2 ^ (7 * i) * (c.toNat % 128)≤9151314442816847872:=JG (Nat.mul_le_mul_left _ (show c.toNat % 128≤127 by omega)) (Nat.mul_le_mul_right 127 hp7);refine zk (zX<|zk<|zp<|zd V<|zd V<|za V (ZC (e:=5) V k9)<|za V (yM V V)<|ze<|zE V (by apply Jd;rw [zx];omega)<|zr<|zn<|zk<|zp<|zd V<|zd V<|za V (jF V V ⟨by decide,by decide⟩)<|za V (yM V V)<|ze<|zJ V (fun hb21=> ?_) (fun hb21=> ?_))
  ·have h21:i=8:=by have h:=oT hb21;omega
   refine zk ?_;obtain ⟨h8,hn0,hN,hM⟩:=hcs.resolve_right (fun h=>by have:=h.2.step.1;omega);rw [Nat.mod_eq_of_lt h8] at hmul hN;refine zi (zd V<|zd V<|za V (jm (e:=5) V V k9 k9 o9 (show (cellsOf p)[_]? =some (B8 c) from by simp [cellsOf,hc]))<|za V (YF V k9 s9)<|za V (ZU (r:=(c.toNat:Int)) .u8 V k9 k9<|wrap_u64 o9 o9)<|zf V<|ze<|zk<|zp<|zd V<|za V (yM V V)<|zd V<|yL V V (by apply Jd;intro h;exact hn0 ⟨by omega,by omega⟩) V V (zI V)<|yL V V (by apply Jd;intro h;exact hn0 ⟨by omega,by omega⟩) V V (zI V)<|yL V V (by apply Jd;intro h;exact hn0 ⟨by omega,by omega⟩) V V (zI V)<|yL V V (by apply Jd;intro h;exact hn0 ⟨by omega,by omega⟩) V V (Zu (Ky V V ⟨by omega,by omega⟩) (show Le _ (iD ((7 * i:Nat):Int)) from zF s9))<|yL V V (by apply Jd;intro h;exact hn0 ⟨by omega,by omega⟩) V V (zfV (s:=7 * i) (r:=127) V V<|shr_max h21)<|yL V V (by apply Jd;intro h;exact hn0 ⟨by omega,by omega⟩) V V (Zq V V)<|za V (zv V (by apply Jd;intro h;exact hn0 ⟨by omega,by omega⟩) V)<|ze<|zE V (by apply Jd;omega)<|zr<|zn<|zp<|zd V<|zd V<|zd V<|za V (Zu (Ky V V ⟨by omega,by omega⟩) (show Le _ (iD ((7 * i:Nat):Int)) from zF s9))<|za V (KS (s:=7 * i) (r:=((2 ^ (7 * i) * c.toNat:Nat):Int)) V V<|zaB o9 o9)<|za V (Wj (r:=((z + 2 ^ (7 * i) * c.toNat:Nat):Int)) V V<|zdP hal o9)<|zd V<|za V (yC V V ⟨by omega,by omega⟩)<|zf V<|zf V<|zf V ?_)
   refine ze (zK (fn:=Tryz.f178) (fun _ _ h=>h)<|Rs.le (ZR V (zj V) (zj V)<|zj V) ?_);exact Zx ⟨Le.trans (zF (by rw [← hN,VN])) zu,Le.trans (zF (by rw [← hM];simp)) zu,zu,t9⟩
  ·have h21:¬i=8:=by have h:=oF hb21;omega
   refine zr (zn<|zk ?_);rcases hcs with ⟨h8,hn0,hN,hM⟩ | ⟨h8,hg⟩
   ·rw [Nat.mod_eq_of_lt h8] at hmul hN;refine zi (zd V<|zd V<|zd V<|za V (jm (e:=5) V V k9 k9 o9 (show (cellsOf p)[_]? =some (B8 c) from by simp [cellsOf,hc]))<|za V (YF V k9 s9)<|za V (Kp (r:=((c.toNat % 128:Nat):Int)) V V d9 zaE)<|za V (ZU (r:=(c.toNat:Int)) .u8 V k9 k9 (by rw [Nat.mod_eq_of_lt h8];exact wrap_u64 o9 o9))<|zd V<|za V (Zu (Ky V V ⟨by omega,by omega⟩) (show Le _ (iD ((7 * i:Nat):Int)) from zF s9))<|za V (KS (s:=7 * i) (r:=((2 ^ (7 * i) * c.toNat:Nat):Int)) V V<|zaB o9 o9)<|za V (Wj (r:=((z + 2 ^ (7 * i) * c.toNat:Nat):Int)) V V<|zdP hal o9)<|zf V<|zV<|zd V<|zd V<|za V (jm (e:=5) V V k9 k9 o9 (show (cellsOf p)[_]? =some (B8 c) from by simp [cellsOf,hc]))<|za V (YF V k9 s9)<|za V (yF V V)<|ze<|zW V (by apply Jo;omega)<|zk<|zp<|zd V<|za V (Zq V V)<|zd V<|zU 63 V (fun hb63=> ?_) (fun hb63=> ?_))
    ·have h63:0 < i:=by have h:=oT hb63;omega
     refine zy hb63 (zI V) (zy hb63 (zI V)<|zy hb63 (jm (e:=5) V V k9 k9 o9 (show (cellsOf p)[_]? =some (B8 c) from by simp [cellsOf,hc]))<|zy hb63 (YF V k9 s9)<|zy hb63 (yM V V)<|za V (zB V hb63 V)<|ze<|zE V (by apply Jd;intro h;exact hn0 ⟨by omega,h63⟩)<|zr<|zn<|zp<|zd V<|zd V<|za V (yC V V ⟨by omega,by omega⟩)<|zf V<|zf V<|zf V<|ze<|zK (fn:=Tryz.f178) (fun _ _ h=>h)<|Rs.le (ZR V (zj V) (zj V)<|zj V) ?_);exact Zx ⟨Le.trans (zF (by rw [← hN,VN])) zu,Le.trans (zF (by rw [← hM];simp)) zu,zu,t9⟩
    ·skip
     refine zq hb63 (zq hb63<|zq hb63<|zq hb63<|zq hb63<|za V (zv V hb63 V)<|ze<|zE V V<|zr<|zn<|zp<|zd V<|zd V<|za V (yC V V ⟨by omega,by omega⟩)<|zf V<|zf V<|zf V<|ze<|zK (fn:=Tryz.f178) (fun _ _ h=>h)<|Rs.le (ZR V (zj V) (zj V)<|zj V) ?_);exact Zx ⟨Le.trans (zF (by rw [← hN,VN])) zu,Le.trans (zF (by rw [← hM];simp)) zu,zu,t9⟩
   ·skip
    exact zi (zd V<|zd V<|zd V<|za V (jm (e:=5) V V k9 k9 o9 (show (cellsOf p)[_]? =some (B8 c) from by simp [cellsOf,hc]))<|za V (YF V k9 s9)<|za V (Kp (r:=((c.toNat % 128:Nat):Int)) V V d9 zaE)<|za V (ZU (r:=((c.toNat % 128:Nat):Int)) .u8 V k9 k9<|wrap_u64 o9 o9)<|zd V<|za V (Zu (Ky V V ⟨by omega,by omega⟩) (show Le _ (iD ((7 * i:Nat):Int)) from zF s9))<|za V (KS (s:=7 * i) (r:=((2 ^ (7 * i) * (c.toNat % 128):Nat):Int)) V V<|zaB o9 o9)<|za V (Wj (r:=((z + 2 ^ (7 * i) * (c.toNat % 128):Nat):Int)) V V<|zdP hal o9)<|zf V<|zV<|zd V<|zd V<|za V (jm (e:=5) V V k9 k9 o9 (show (cellsOf p)[_]? =some (B8 c) from by simp [cellsOf,hc]))<|za V (YF V k9 s9)<|za V (yF V V)<|ze<|zE V (by apply decide_eq_false;omega)<|zr<|yc<|zn<|zi<|zd V<|za V (yC V V ⟨by omega,by omega⟩)<|zf V<|zP (fun a w hh=>hK0 (⟨(i + 1,z + 128 ^ i * (c.toNat % 128)),hg⟩) (by dsimp only;omega) a w<|hh.sub<|⟨⟨_,V,⟨lq V,⟨lq V,⟨lq V,⟨⟨_,V,zF s9⟩,⟨⟨_,V,zF (by rw [VN])⟩,t9⟩⟩⟩⟩⟩⟩,[],by decide,trivial⟩))
theorem zba (p:LB) (hp:p.length≤1000000) (E:Int) (h:rdg 9 true p= .error E):ConN Tryz.prog 178 [bD p,iD 9,isD<|.int .u64 9223372036854775807] (Yk [isD<|.int .u64 0,iD 0,iD E]):=by
 refine yO Tryz.func178 k9 V k9 fun base w0=>(zp<|zf V<|zf V<|zf V<|zV<|zf V<|zV<|zf V<|ze<|zX<|Zw (ι:={q:Nat × Int // GBad p 0 E q.1∧q.1≤8∧q.1≤p.length}) (fun ⟨(i,z),hI⟩=>zN [(0,bD p),(1,iD 9),(2,isD<|.int .u64 9223372036854775807),(10,iD (i:Int)),(9,isD<|.int .u64 z)] []) (fun ⟨(i,z),hI⟩=>9 - i) (⟨(0,0),GBad.start h,by decide,JC _⟩) ?_ ?_)
 ·exact (sB [] V V)
 ·rintro ⟨⟨i,z⟩,hI,hi8,hil⟩ K0 hK0;dsimp only at hI hi8 hil ⊢;refine zk (zX<|zk<|zp<|zd V<|zd V<|za V (ZC (e:=5) V k9)<|za V (yM V V)<|ze<|zJ V (fun hb17=> ?_) (fun hb17=> ?_))
  ·skip
   refine zk ?_;obtain rfl:E=4:=hI.short o9 (by have h:=oT hb17;rw [zx] at h;omega);refine zi (zf V<|zf V<|zf V<|ze<|zK (fn:=Tryz.f178) (fun _ _ h=>h)<|Rs.le (ZR V (zj V) (zj V)<|zj V) ?_);exact Zx ⟨zu,zu,zu,t9⟩
  ·skip
   refine zr (zn<|zk<|zk ?_)
   have hkl:i < p.length:=by have h17:=oF hb17;rw [zx] at h17;omega
   obtain ⟨c,hc⟩:∃ c,p[i]? =some c:=⟨_,Je hkl⟩;have hcl:=u8_lt (c:=c);refine zi (zd V<|zd V<|za V (jF V V ⟨by decide,by decide⟩)<|za V (yM V V)<|ze<|zJ V (fun hb21=> ?_) (fun hb21=> ?_))
   ·have h21:i=8:=by have h:=oT hb21;omega
    refine zk ?_
    have hE6:E=6:=by rcases hI.step o9 (by rw [JF];exact hc) with ⟨_,_,_,h⟩ | ⟨_,h⟩;exact h;exact h.last o9
    subst hE6;refine zi (zd V<|zd V<|za V (jm (e:=5) V V k9 k9 o9 (show (cellsOf p)[_]? =some (B8 c) from by simp [cellsOf,hc]))<|za V (YF V k9 s9)<|za V (ZU (r:=(c.toNat:Int)) .u8 V k9 k9<|wrap_u64 o9 o9)<|zf V<|ze<|zk<|zp<|zd V<|za V (yM V V)<|zd V<|zU 29 V (fun hb29=> ?_) (fun hb29=> ?_))
    ·skip
     refine zq hb29 (zq hb29<|zq hb29<|zq hb29<|zq hb29<|zq hb29<|za V (zB V hb29 V)<|ze<|zW V V<|zp<|zf V<|zf V<|zf V<|ze<|zK (fn:=Tryz.f178) (fun _ _ h=>h)<|Rs.le (ZR V (zj V) (zj V)<|zj V) ?_);exact Zx ⟨zu,zu,zu,t9⟩
    ·have h29:=oF hb29
     refine zy hb29 (zI V) (zy hb29 (zI V)<|zy hb29 (zI V)<|zy hb29 (Zu (Ky V V ⟨by omega,by omega⟩) (show Le _ (iD ((7 * i:Nat):Int)) from zF s9))<|zy hb29 (zfV (s:=7 * i) (r:=127) V V<|shr_max h21)<|zy hb29 (Zq V V)<|za V (zv V hb29 V)<|ze<|zW V (by apply Jo;rcases hI.step o9 (by rw [JF];exact hc) with ⟨_,h,_,_⟩ | ⟨h,_⟩ <;> omega)<|zp<|zf V<|zf V<|zf V<|ze<|zK (fn:=Tryz.f178) (fun _ _ h=>h)<|Rs.le (ZR V (zj V) (zj V)<|zj V) ?_)
     exact Zx ⟨zu,zu,zu,t9⟩
   ·have h21:¬i=8:=by have h:=oF hb21;omega
    refine zr (zn<|zk ?_);have hx:c.toNat % 128 < 128:=Nat.mod_lt _ d9;refine zi (zd V<|zd V<|zd V<|za V (jm (e:=5) V V k9 k9 o9 (show (cellsOf p)[_]? =some (B8 c) from by simp [cellsOf,hc]))<|za V (YF V k9 s9)<|za V (Kp (r:=((c.toNat % 128:Nat):Int)) V V d9 zaE)<|za V (ZU (r:=((c.toNat % 128:Nat):Int)) .u8 V k9 k9<|wrap_u64 o9 o9)<|zd V<|za V (Zu (Ky V V ⟨by omega,by omega⟩) (show Le _ (iD ((7 * i:Nat):Int)) from zF s9))<|za V (KS (s:=7 * i) V V V)<|za V (Wj V V V)<|zf V<|ze<|zk ?_);rcases hI.step o9 (by rw [JF];exact hc) with ⟨h8,h0,hi0,hE⟩ | ⟨h8,hg⟩
    ·subst hE;refine zi (zd V<|zd V<|za V (jm (e:=5) V V k9 k9 o9 (show (cellsOf p)[_]? =some (B8 c) from by simp [cellsOf,hc]))<|za V (YF V k9 s9)<|za V (yF V V)<|ze<|zW V (by apply Jo;omega)<|zk<|zp<|zd V<|za V (Zq V V)<|zd V<|yL V V (by apply Jo;omega) V V (zI V)<|yL V V (by apply Jo;omega) V V (zI V)<|yL V V (by apply Jo;omega) V V (jm (e:=5) V V k9 k9 o9 (show (cellsOf p)[_]? =some (B8 c) from by simp [cellsOf,hc]))<|yL V V (by apply Jo;omega) V V (YF V k9 s9)<|yL V V (by apply Jo;omega) V V (yM V V)<|za V (zB V (by apply Jo;omega) V)<|ze<|zW V (by apply Jo;omega)<|zp<|zf V<|zf V<|zf V<|ze<|zK (fn:=Tryz.f178) (fun _ _ h=>h)<|Rs.le (ZR V (zj V) (zj V)<|zj V) ?_);exact Zx ⟨zu,zu,zu,t9⟩
    ·skip
     exact zi (zd V<|zd V<|za V (jm (e:=5) V V k9 k9 o9 (show (cellsOf p)[_]? =some (B8 c) from by simp [cellsOf,hc]))<|za V (YF V k9 s9)<|za V (yF V V)<|ze<|zE V (by apply decide_eq_false;omega)<|zr<|yc<|zn<|zi<|zd V<|za V (yC V V ⟨by omega,by omega⟩)<|zf V<|zP (fun a w hh=>hK0 (⟨(i + 1,_),hg,by dsimp only;omega,by dsimp only;omega⟩) (by dsimp only;omega) a w<|hh.sub<|⟨⟨_,V,⟨lq V,⟨lq V,⟨lq V,⟨⟨_,V,zF s9⟩,⟨lq V,t9⟩⟩⟩⟩⟩⟩,[],by decide,trivial⟩))
end
section
def u6 (p:LB):Nat × Nat × Int:=match rdg 9 true p with | .ok (n,m)=>(n,m,0) | .error e=>(0,0,e)
theorem zgO {p:LB} {n m:Nat} (h:rdg 9 true p= .ok (n,m)):u6 p=(n,m,0):=by unfold u6;rw [h]
theorem zdG {p:LB} {E:Int} (h:rdg 9 true p= .error E):u6 p=(0,0,E):=by unfold u6;rw [h]
theorem u6_bd (p:LB):(u6 p).1 < 9223372036854775808∧(u6 p).2.1≤p.length:=by
 rcases h:rdg 9 true p with E | ⟨n,m⟩
 ·rw [zdG h];exact ⟨(show 0 < 9223372036854775808 by decide),JC _⟩
 ·rw [zgO h];exact ⟨zb5 (Kv h).1,(Kv h).2.2⟩
def c6 (lim:Int) (p:LB):Nat × Nat × Int:=if (u6 p).2.2≠0 then (0,0,(u6 p).2.2) else if lim < ((u6 p).1:Int) then (0,0,7) else ((u6 p).1,(u6 p).2.1,0)
theorem c6_e {lim:Int} {p:LB} (h:(u6 p).2.2≠0):c6 lim p=(0,0,(u6 p).2.2):=Jh h
theorem c6_l {lim:Int} {p:LB} (h:¬(u6 p).2.2≠0) (h2:lim < ((u6 p).1:Int)):c6 lim p=(0,0,7):=by unfold c6;rw [Jb h,Jh h2]
theorem c6_k {lim:Int} {p:LB} (h:¬(u6 p).2.2≠0) (h2:¬lim < ((u6 p).1:Int)):c6 lim p=((u6 p).1,(u6 p).2.1,0):=by unfold c6;rw [Jb h,Jb h2]
theorem c6_bd (lim:Int) (p:LB):(c6 lim p).1 < 9223372036854775808∧(c6 lim p).2.1≤p.length:=by
 have h:=u6_bd p;unfold c6
 split
 ·exact ⟨(show 0 < 9223372036854775808 by decide),JC _⟩
 ·split
  ·exact ⟨(show 0 < 9223372036854775808 by decide),JC _⟩
  ·exact h
theorem c6_ok {lim:Int} {p:LB} {n m:Nat} (h:rdC lim p= .ok (n,m)):c6 lim p=(n,m,0):=by
 obtain ⟨h1,h2⟩:=zaF h;have h3:=zgO h1;rw [c6_k (by rw [h3];simp) (by rw [h3];simpa using h2),h3]
theorem c6_bad {lim:Int} {p:LB} {E:Int} (h:rdC lim p= .error E):c6 lim p=(0,0,E):=by
 rcases zfa h with h1 | ⟨n,m,h1,h2,rfl⟩
 ·have h3:=zdG h1;rw [c6_e (by rw [h3];exact zdM h1),h3]
 ·have h3:=zgO h1;rw [c6_l (by rw [h3];simp) (by rw [h3];exact h2)]
def b6 (lim:Int) (p:LB):LB × Nat × Int:=if (c6 lim p).2.2≠0 then ([],0,(c6 lim p).2.2) else if p.length < (c6 lim p).2.1 + (c6 lim p).1 then ([],0,4) else ((p.drop (c6 lim p).2.1).take (c6 lim p).1,(c6 lim p).2.1 + (c6 lim p).1,0)
theorem b6_e {lim:Int} {p:LB} (h:(c6 lim p).2.2≠0):b6 lim p=([],0,(c6 lim p).2.2):=Jh h
theorem b6_l {lim:Int} {p:LB} (h:¬(c6 lim p).2.2≠0) (h2:p.length < (c6 lim p).2.1 + (c6 lim p).1):b6 lim p=([],0,4):=by unfold b6;rw [Jb h,Jh h2]
theorem b6_k {lim:Int} {p:LB} (h:¬(c6 lim p).2.2≠0) (h2:¬p.length < (c6 lim p).2.1 + (c6 lim p).1):b6 lim p=((p.drop (c6 lim p).2.1).take (c6 lim p).1,(c6 lim p).2.1 + (c6 lim p).1,0):=by unfold b6;rw [Jb h,Jb h2]
theorem b6_bd (lim:Int) (p:LB):(b6 lim p).2.1≤p.length:=by
 unfold b6
 split
 ·exact JC _
 ·split
  ·exact JC _
  ·dsimp only;omega
theorem b6_ok {lim:Int} {p q:LB} {m:Nat} (h:rdP lim p= .ok (q,m)):b6 lim p=(q,m,0):=by
 obtain ⟨n,k,h1,h2,h3,h4⟩:=zb9 h;have h5:=c6_ok h1;rw [b6_k (by rw [h5];simp) (by rw [h5];simp;omega),h5,h3,h4]
theorem b6_bad {lim:Int} {p:LB} {E:Int} (h:rdP lim p= .error E):b6 lim p=([],0,E):=by
 rcases ze9 h with h1 | ⟨n,k,h1,h2,rfl⟩
 ·have h5:=c6_bad h1;rw [b6_e (by rw [h5];exact rdC_ne h1),h5]
 ·have h5:=c6_ok h1;rw [b6_l (by rw [h5];simp) (by rw [h5];exact h2)]
theorem sU_e {r:RT} (h:r.e=0) (h2:(u6 r.p).2.2≠0):stU r=(0,⟨[],(u6 r.p).2.2⟩):=by
 rcases hr:rdg 9 true r.p with E | ⟨n,m⟩
 ·rw [zdG hr];exact KC h hr
 ·rw [zgO hr] at h2;exact absurd rfl h2
theorem sU_k {r:RT} (h:r.e=0) (h2:¬(u6 r.p).2.2≠0):stU r=(((u6 r.p).1:Int),⟨r.p.drop (u6 r.p).2.1,0⟩):=by
 rcases hr:rdg 9 true r.p with E | ⟨n,m⟩
 ·rw [zdG hr] at h2;exact absurd (zdM hr) h2
 ·rw [zgO hr];exact WW h hr
theorem sP_e {lim:Int} {r:RT} (h:r.e=0) (h2:(b6 lim r.p).2.2≠0):stP lim r=([],⟨[],(b6 lim r.p).2.2⟩):=by
 rcases hr:rdP lim r.p with E | ⟨n,m⟩
 ·rw [b6_bad hr];exact KC h hr
 ·rw [b6_ok hr] at h2;exact absurd rfl h2
theorem sP_k {lim:Int} {r:RT} (h:r.e=0) (h2:¬(b6 lim r.p).2.2≠0):stP lim r=((b6 lim r.p).1,⟨r.p.drop (b6 lim r.p).2.1,0⟩):=by
 rcases hr:rdP lim r.p with E | ⟨n,m⟩
 ·rw [b6_bad hr] at h2;exact absurd (zgd hr) h2
 ·rw [b6_ok hr];exact WW h hr
theorem bldRR1 {e:Int}:Bld Tryz.prog 176 [1] [iD e] [isD<|.slice none 0 0,iD e]:=fun L w vs hv=>by
 obtain ⟨u,rfl,rfl⟩:=zeG hv;exact ⟨[.slice none 0 0,.int .i64 e],⟨V,V,t9⟩,fun w'=>by kernel_rfl⟩
theorem zeC {b:LB}:Bld Tryz.prog 176 [0] [bD b] [bD b,iD 0]:=fun L w vs hv=>by
 obtain ⟨u,rfl,h3⟩:=zeG hv;have h3':=h3;obtain ⟨A,cp,rfl,-⟩:=h3;exact ⟨[.slice A _ cp,.int .i64 0],⟨h3',V,t9⟩,fun w'=>by kernel_rfl⟩
theorem con_u6g (p:LB) (hp:p.length≤1000000) (n m:Nat) (E:Int) (hn:n < 9223372036854775808) (hc:ConN Tryz.prog 178 [bD p,iD 9,isD<|.int .u64 9223372036854775807] (Yk [isD<|.int .u64 (n:Int),iD (m:Int),iD E])):ConN Tryz.prog 146 [bD p] (Yk [iD (n:Int),iD (m:Int),iD E]):=by
 refine yO Tryz.func146 k9 V k9 fun base w0=>(zp<|zf V<|zf V<|zf V<|zV<|zd V<|zt (S:=[]) (zD [] (hc) V ⟨(zo<|zb _),(zo<|zb _),(zo<|zb _),t9⟩ V)<|zd V<|za V (zm V V)<|za V (zm V V)<|za V (zm V V)<|zf V<|zf V<|zf V<|zV<|zd V<|za V (ZU (r:=(n:Int)) .u64 V k9 k9<|i64_w hn)<|zd V<|zd V<|zf V<|zf V<|zf V<|ze<|zK (fn:=Tryz.f146) (fun _ _ h=>h)<|Rs.le (ZR V (zj V) (zj V)<|zj V) ?_);exact (Zx ⟨zu,zu,zu,t9⟩)
theorem con_u6 (p:LB) (hp:p.length≤1000000):ConN Tryz.prog 146 [bD p] (Yk [iD ((u6 p).1:Int),iD ((u6 p).2.1:Int),iD (u6 p).2.2]):=by
 rcases h:rdg 9 true p with E | ⟨n,m⟩
 ·rw [zdG h];exact con_u6g p hp 0 0 E d9 (zba p hp E h)
 ·rw [zgO h];exact con_u6g p hp n m 0 (zb5 (Kv h).1) (zfq p hp n m h)
theorem con_c6 (p:LB) (hp:p.length≤1000000) (lim:Int) (hl:0≤lim):ConN Tryz.prog 179 [bD p,iD lim] (Yk [iD ((c6 lim p).1:Int),iD ((c6 lim p).2.1:Int),iD (c6 lim p).2.2]):=by
 refine yO Tryz.func179 k9 V k9 fun base w0=>(zp<|zf V<|zf V<|zf V<|zV<|zd V<|zt (S:=[]) (zD [] (con_u6 p hp) V ⟨(zo<|zb _),t9⟩ V)<|zd V<|za V (zm V V)<|za V (zm V V)<|za V (zm V V)<|zf V<|zf V<|zf V<|ze<|zk<|zp<|zd V<|za V (ye V V)<|ze<|zJ V (fun hb17=> ?_) (fun hb17=> ?_))
 ·have h17:(u6 p).2.2≠0:=by simpa using hb17
  refine zp (zd V<|zf V<|zf V<|zf V<|ze<|zK (fn:=Tryz.f179) (fun _ _ h=>h)<|Rs.le (ZR V (zj V) (zj V)<|zj V) ?_);rw [c6_e h17];exact Zx ⟨zu,zu,zu,trivial⟩
 ·have h17:¬(u6 p).2.2≠0:=by simpa using hb17
  refine zr (zn<|zk<|zp<|zd V<|za V (yF V V)<|ze<|zE V (by apply Jd;omega)<|zr<|zn<|zk<|zp<|zd V<|zd V<|za V (Zq V V)<|ze<|zJ V (fun hb23=> ?_) (fun hb23=> ?_))
  ·have h23:=oT hb23;refine zp (zf V<|zf V<|zf V<|ze<|zK (fn:=Tryz.f179) (fun _ _ h=>h)<|Rs.le (ZR V (zj V) (zj V)<|zj V) ?_);rw [c6_l h17 h23];exact Zx ⟨zu,zu,zu,trivial⟩
  ·have h23:=oF hb23;refine zr (zn<|zp<|zd V<|zd V<|zf V<|zf V<|zf V<|ze<|zK (fn:=Tryz.f179) (fun _ _ h=>h)<|Rs.le (ZR V (zj V) (zj V)<|zj V) ?_);rw [c6_k h17 h23];exact Zx ⟨zu,zu,zu,trivial⟩
theorem con_b6 (p:LB) (hp:p.length≤1000000) (lim:Int) (hl:0≤lim):Con Tryz.prog 147 [bD p,iD lim] (Yk [bD (b6 lim p).1,iD ((b6 lim p).2.1:Int),iD (b6 lim p).2.2]):=by
 have hcb:=c6_bd lim p;refine YP Tryz.func147 k9 V k9 fun base w0=>(zp<|zf V<|zf V<|zf V<|zV<|zd V<|zd V<|zt (S:=[]) (zD [] (con_c6 p hp lim hl) V ⟨(zo<|zb _),(zo<|zb _),t9⟩ V)<|zd V<|za V (zm V V)<|za V (zm V V)<|za V (zm V V)<|zf V<|zf V<|zf V<|ze<|zk<|zp<|zd V<|za V (ye V V)<|ze<|zJ V (fun hb18=> ?_) (fun hb18=> ?_))
 ·have h18:(c6 lim p).2.2≠0:=by simpa using hb18
  refine zp (zd V<|zf V<|zf V<|zf V<|ze<|zK (fn:=Tryz.f147) (fun _ _ h=>h)<|Rs.le (ZR V (zj V) (zj V)<|zj V) ?_);rw [b6_e h18];exact yn ⟨Zz,zb _,zb _,trivial⟩
 ·have h18:¬(c6 lim p).2.2≠0:=by simpa using hb18
  refine zr (zn<|zk<|zp<|zd V<|zd V<|za V (ZC (e:=5) V k9)<|zd V<|za V (jF V V ⟨by (try rw [zx]);omega,by (try rw [zx]);omega⟩)<|za V (Zq V V)<|ze<|zJ V (fun hb25=> ?_) (fun hb25=> ?_))
  ·have h25:p.length < (c6 lim p).2.1 + (c6 lim p).1:=by have h25:=oT hb25;rw [zx] at h25;omega
   refine zp (zf V<|zf V<|zf V<|ze<|zK (fn:=Tryz.f147) (fun _ _ h=>h)<|Rs.le (ZR V (zj V) (zj V)<|zj V) ?_);rw [b6_l h18 h25];exact yn ⟨Zz,zb _,zb _,trivial⟩
  ·have h25:¬p.length < (c6 lim p).2.1 + (c6 lim p).1:=by have h25:=oF hb25;rw [zx] at h25;omega
   refine zr (zn<|zp<|zd V<|zd V<|zd V<|zd V<|za V (Zu (yC V V ⟨by omega,by omega⟩) (show Le _ (iD (((c6 lim p).2.1 + (c6 lim p).1:Nat):Int)) from zF s9))<|za V (Zu (Rd.slD2 (e:=5) (enc:=Yt) (lo:=(c6 lim p).2.1) (hi:=(c6 lim p).2.1 + (c6 lim p).1) 1 V (zaT _) V V k9 k9 o9 o9)<|Yc _)<|zd V<|zd V<|za V (Zu (yC V V ⟨by omega,by omega⟩) (show Le _ (iD (((c6 lim p).2.1 + (c6 lim p).1:Nat):Int)) from zF s9))<|zf V<|zf V<|zf V<|ze<|zK (fn:=Tryz.f147) (fun _ _ h=>h)<|Rs.le (ZR V (zj V) (zj V)<|zj V) ?_);rw [b6_k h18 h25];exact yn ⟨by rw [List.drop_take,show (c6 lim p).2.1 + (c6 lim p).1 - (c6 lim p).2.1=(c6 lim p).1 by omega];exact zb _,zb _,zb _,trivial⟩
theorem zef (r:RT) (hp:r.p.length≤1000000):Con Tryz.prog 91 [Zo [bD r.p,iD r.e]] (Yk [iD (stU r).1,Zo [bD (stU r).2.p,iD (stU r).2.e]]):=by
 have hub:=(u6_bd r.p).2;refine YP Tryz.func91 k9 V k9 fun base w0=>(zp (SWl.e2 (S:=[]) (yv V V) fun g1=>(zf V (SWl.e2 (S:=[]) (zM (zs:=[.slice none 0 0,.int .i64 0]) k9 V) fun g3=>(ze<|zk<|zp<|za V (zc (n:=1) V k9)<|za V (zg 0 V V V k9 zh)<|za V (ye V V)<|ze<|zJ V (fun hb9=> ?_) (fun hb9=> ?_))))))
 ·have he:r.e≠0:=by simpa using hb9
  refine zk (yh (g3 :: []) (.r 0<|.r 1<|.e 2 .fin .no) k9 k9 (fun d _ _ _ _ h=>by cases d <;> exact h)<|zl V V (zA 0 2 V V k9 V<|yK 1 V d9 zh)<|Zh V V<|yy V (zw 1 V V V k9 V mC)<|yI<|zK (fn:=Tryz.f91) (fun _ _ h=>h)<|Rs.le (ym V (zj V)<|zS 1 V V k9) ?_)
  rw [show stU r=_ from jt he];exact yn ⟨zb _,zb _,trivial⟩
 ·have he:r.e=0:=by simpa using hb9
  refine zr (zn<|zp<|za V (zc (n:=0) V k9)<|za V (zg 0 V V V k9 zh)<|zt (S:=[]) (zD [] (con_u6 r.p hp) V ⟨(zo<|zb _),t9⟩ V)<|zd V<|za V (zm V V)<|za V (zm V V)<|za V (zm V V)<|zf V<|zf V<|zf V<|ze<|zk<|zp<|zd V<|za V (ye V V)<|ze<|zJ V (fun hb19=> ?_) (fun hb19=> ?_))
  ·have h19:(u6 r.p).2.2≠0:=by simpa using hb19
   refine zp (zd V<|za V (yq V V bldRR1)<|zf V<|zt (S:=[_]) (zw 1 V V V k9 V<|m9 V)<|ze<|zK (fn:=Tryz.f91) (fun _ _ h=>h)<|Rs.le (ym V (zj V)<|zS 1 V V k9) ?_);rw [sU_e he h19];exact yn ⟨zb _,ZM ⟨Zz,zb _,trivial⟩,trivial⟩
  ·have h19:¬(u6 r.p).2.2≠0:=by simpa using hb19
   refine zr (zn<|zk<|yh (g3 :: []) (rr [0,1,2,3,4,5,6]<|.e 7 .fin .no) k9 k9 (fun d _ _ _ _ h=>by cases d <;> exact h)<|zL V V<|zl V V (zc (n:=0) V k9)<|zl V V (zg 0 V V V k9<|yK 1 V d9 zh)<|zL V V<|zl V V (Zu (Rd.slD1 (e:=5) (enc:=Yt) (lo:=(u6 r.p).2.1) 1 V (zaT _) V k9 k9 o9)<|Yc _)<|zl V V (yq V V zeC)<|Zh V V<|yy V (zw 1 V V V k9 V mC)<|yI<|zK (fn:=Tryz.f91) (fun _ _ h=>h)<|Rs.le (ym V (zj V)<|zS 1 V V k9) ?_)
   rw [sU_k he h19];exact zb _
theorem zeg (r:RT) (hp:r.p.length≤1000000) (lim:Int) (hl:0≤lim):Con Tryz.prog 92 [Zo [bD r.p,iD r.e],iD lim] (Yk [bD (stP lim r).1,Zo [bD (stP lim r).2.p,iD (stP lim r).2.e]]):=by
 have hub:=b6_bd lim r.p;refine YP Tryz.func92 k9 V k9 fun base w0=>(zp (SWl.e2 (S:=[]) (yv V V) fun g2=>(zf V (SWl.e2 (S:=[]) (zM (zs:=[.slice none 0 0,.int .i64 0]) k9 V) fun g5=>(ze<|zk<|zp<|za V (zc (n:=1) V k9)<|za V (zg 0 V V V k9 zh)<|za V (ye V V)<|ze<|zJ V (fun hb11=> ?_) (fun hb11=> ?_))))))
 ·have he:r.e≠0:=by simpa using hb11
  refine zk (yh (g5 :: []) (.r 0<|.r 1<|.e 2 .fin .no) k9 k9 (fun d _ _ _ _ h=>by cases d <;> exact h)<|zl V V (zA 0 2 V V k9 V<|yK 1 V d9 zh)<|Zh V V<|yy V (zw 1 V V V k9 V mC)<|yI<|zK (fn:=Tryz.f92) (fun _ _ h=>h)<|Rs.le (ym V (zj V)<|zS 1 V V k9) ?_)
  rw [show stP lim r=_ from jt he];exact yn ⟨Zz,zb _,trivial⟩
 ·have he:r.e=0:=by simpa using hb11
  refine zr (zn<|zp<|za V (zc (n:=0) V k9)<|za V (zg 0 V V V k9 zh)<|zd V<|zt (S:=[]) (zY (con_b6 r.p hp lim hl) V ⟨zb _,zb _,t9⟩ V)<|zd V<|za V (zm V V)<|za V (zm V V)<|za V (zm V V)<|zf V<|zf V<|zf V<|ze<|zk<|zp<|zd V<|za V (ye V V)<|ze<|zJ V (fun hb22=> ?_) (fun hb22=> ?_))
  ·have h22:(b6 lim r.p).2.2≠0:=by simpa using hb22
   refine zp (zd V<|za V (yq V V bldRR1)<|zf V<|zt (S:=[_]) (zw 1 V V V k9 V<|m9 V)<|ze<|zK (fn:=Tryz.f92) (fun _ _ h=>h)<|Rs.le (ym V (zj V)<|zS 1 V V k9) ?_);rw [sP_e he h22];exact yn ⟨Zz,ZM ⟨Zz,zb _,trivial⟩,trivial⟩
  ·have h22:¬(b6 lim r.p).2.2≠0:=by simpa using hb22
   refine zr (zn<|zk<|yh (g5 :: []) (rr [0,1,2,3,4,5,6]<|.e 7 .fin .no) k9 k9 (fun d _ _ _ _ h=>by cases d <;> exact h)<|zL V V<|zl V V (zc (n:=0) V k9)<|zl V V (zg 0 V V V k9<|yK 1 V d9 zh)<|zL V V<|zl V V (Zu (Rd.slD1 (e:=5) (enc:=Yt) (lo:=(b6 lim r.p).2.1) 1 V (zaT _) V k9 k9 o9)<|Yc _)<|zl V V (yq V V zeC)<|Zh V V<|yy V (zw 1 V V V k9 V mC)<|yI<|zK (fn:=Tryz.f92) (fun _ _ h=>h)<|Rs.le (ym V (zj V)<|zS 1 V V k9) ?_)
   rw [sP_k he h22];exact zb _
theorem zdb (r:RT) (hp:r.p.length≤1000000):Con Tryz.prog 93 [Zo [bD r.p,iD r.e]] (iD<|jB r):=by
 refine YP Tryz.func93 k9 V k9 fun base w0=>(zp (SWl.e2 (S:=[]) (yv V V) fun g1=>(zf V<|ze<|zk<|zp<|za V (zc (n:=1) V k9)<|za V (zg 0 V V V k9 zh)<|za V (yM V V)<|zd V<|zU 6 V (fun hb6=> ?_) (fun hb6=> ?_))))
 ·have h6:=oT hb6;refine zy hb6 (zc (n:=0) V k9) (zy hb6 (zg 0 V V V k9 zh)<|zy hb6 (ZC (e:=5) V k9)<|zy hb6 (Zq V V)<|za V (zB V hb6 V)<|ze<|zJ V (fun hb11=> ?_) (fun hb11=> ?_))
  ·have h11:r.p≠[]:=by (rintro hp0;rw [hp0] at hb11;simp at hb11)
   refine zp (zf V<|ze<|zK (fn:=Tryz.f93) (fun _ _ h=>h)<|Rs.le (Rs.one V<|zj V) ?_);exact zF (by unfold jB;rw [Jh ⟨h6,h11⟩])
  ·have h11:r.p=[]:=J2 (by have h:=oF hb11;rw [zx] at h;omega);refine zr (zn<|zp<|za V (zc (n:=1) V k9)<|za V (zg 0 V V V k9 zh)<|zf V<|ze<|zK (fn:=Tryz.f93) (fun _ _ h=>h)<|Rs.le (Rs.one V<|zj V) ?_);exact zF (by unfold jB;rw [Jb (fun h=>h.2 h11)])
 ·have h6:=oF hb6;refine zq hb6 (zq hb6<|zq hb6<|zq hb6<|za V (zv V hb6 V)<|ze<|zE V V<|zr<|zn<|zp<|za V (zc (n:=1) V k9)<|za V (zg 0 V V V k9 zh)<|zf V<|ze<|zK (fn:=Tryz.f93) (fun _ _ h=>h)<|Rs.le (Rs.one V<|zj V) ?_);exact zF (by unfold jB;rw [Jb (fun h=>h6 h.1)])
end
section
theorem ze8:∀ {j:Nat} {f:Bool} {p:LB} {n m:Nat},rdg j f p= .ok (n,m)→p.take m=grp n∧(f=false→0 < n)
 | 0,f,p,n,m,h=>by rw [VL] at h;cases h
 | j + 1,f,[],n,m,h=>by cases h
 | j + 1,f,c :: p,n,m,h=>by
  unfold rdg at h
  by_cases hc:c.toNat < 128
  ·rw [Jh hc] at h
   by_cases h0:c.toNat=0∧f=false
   ·rw [Jh h0] at h;cases h
   ·rw [Jb h0] at h;injection h with h;injection h with h1 h2;subst h1 h2;refine ⟨?_,fun hf=> ?_⟩
    ·rw [VS hc,UInt8.ofNat_toNat];rfl
    ·rcases Xk c.toNat with h | h
     ·exact absurd ⟨h,hf⟩ h0
     ·exact h
  ·rw [Jb hc] at h;rcases hr:rdg j false p with e | ⟨n',m'⟩
   ·rw [hr] at h;cases h
   ·rw [hr] at h;injection h with h;injection h with h1 h2;subst h1 h2;obtain ⟨i1,i2⟩:=ze8 hr;have hp:=i2 rfl;have hcl:=u8_lt (c:=c);refine ⟨?_,fun _=>by omega⟩;rw [zgo o9,Xo,i1,show (c.toNat - 128 + 128 * n') % 128 + 128=c.toNat by omega,show (c.toNat - 128 + 128 * n') / 128=n' by omega,UInt8.ofNat_toNat]
theorem zay {r:RT} (h:(stU r).2.e=0):r.e=0∧∃ n:Nat,(stU r).1=n∧r.p=grp n ++ (stU r).2.p∧n < 9223372036854775808:=by
 by_cases h0:r.e=0
 ·refine ⟨h0,?_⟩;rcases hr:rdg 9 true r.p with E | ⟨n,m⟩
  ·rw [show stU r=_ from KC h0 hr] at h;exact absurd h (zdM hr)
  ·rw [show stU r=_ from WW h0 hr];exact ⟨n,V,by rw [← (ze8 hr).1,JV],Ju (Kv hr).1 d9⟩
 ·rw [show stU r=_ from jt h0] at h;exact absurd h h0
theorem zaz {lim:Int} {r:RT} (h:(stP lim r).2.e=0):r.e=0∧r.p=j5 (stP lim r).1 ++ (stP lim r).2.p∧((stP lim r).1.length:Int)≤lim:=by
 by_cases h0:r.e=0
 ·refine ⟨h0,?_⟩;rcases hr:rdP lim r.p with E | ⟨q,m⟩
  ·rw [show stP lim r=_ from KC h0 hr] at h;exact absurd h (zgd hr)
  ·rw [show stP lim r=_ from WW h0 hr];obtain ⟨n,k,h1,h2,rfl,rfl⟩:=zb9 hr;obtain ⟨h3,h4⟩:=zaF h1
   have hl:((r.p.drop k).take n).length=n:=by rw [JE,JA];omega
   refine ⟨?_,by simp only;rw [hl];exact h4⟩;simp only;unfold j5;rw [hl,← (ze8 h3).1,← List.drop_drop,Jq,JV,JV]
 ·rw [show stP lim r=_ from jt h0] at h;exact absurd h h0
end
section
theorem ZN {b:LB} (h:b.length < 18446744073709551616):(j5 b).length≤10 + b.length:=by
 have:=Zv h;unfold j5;rw [Jk];omega
end
end Sx
end Go.Proofs.YtgokpcnabgacnaaGreatDoor
namespace Go.Proofs.YtgokpcnabgacnaaGreatDoor
namespace Sl
def streamL:LB:=[115,116,114,101,97,109]
def tagL:LB:=[116,97,103]
def be8 (i:Nat):LB:=(List.range 8).map fun j=>UInt8.ofNat (i / 2 ^ (56 - 8 * j))
@[simp] theorem be8_length (i:Nat):(be8 i).length=8:=by simp [be8]
def block (k nonce:LB) (i:Nat):LB:=Bl.hash k (nonce ++ be8 i)
def blocks (k nonce:LB):Nat→LB
 | 0=>[]
 | q + 1=>blocks k nonce q ++ block k nonce q
theorem blocks_length (k nonce:LB):∀ q,(blocks k nonce q).length=32 * q
 | 0=>rfl
 | q + 1=>by rw [blocks,Jk,blocks_length k nonce q,block,Bl.hash_length];omega
def stream (key nonce:LB) (n:Nat):LB:=(blocks (Bl.hash key streamL) nonce<|(n + 31) / 32).take n
@[simp] theorem stream_length (key nonce:LB) (n:Nat):(stream key nonce n).length=n:=by
 rw [stream,JE,blocks_length];omega
def tag (key body:LB):LB:=(Bl.hash (Bl.hash key tagL) body).take 16
@[simp] theorem zb7 (key body:LB):(tag key body).length=16:=by rw [tag,JE,Bl.hash_length];rfl
def xorb (a b:LB):LB:=List.zipWith (fun x y=>x ^^^ y) a b
theorem xorb_length {a b:LB} (h:a.length=b.length):(xorb a b).length=b.length:=by simp [xorb,h]
theorem xorb_comm (a b:LB):xorb a b=xorb b a:=by
 unfold xorb;rw [List.zipWith_comm];congr 1
 funext x y
 exact UInt8.xor_comm _ _
theorem xorb_take {a b:LB} (h:a.length=b.length) (k:Nat) (hk:k < a.length):xorb (a.take<|k + 1) (b.take<|k + 1)=xorb (a.take k) (b.take k) ++ [a.getD k 0 ^^^ b.getD k 0]:=by
 have hk':k < b.length:=by omega
 unfold xorb;rw [J8 hk,J8 hk',List.zipWith_append (by simp;omega)];simp [hk,hk']
theorem zgM {a b:LB} (h:a.length=b.length):xorb a (xorb a b)=b:=by
 induction a generalizing b with
 | nil=>cases b with
  | nil=>rfl
  | cons y b=>simp at h
 | cons x a ih=>cases b with
  | nil=>simp at h
  | cons y b=>
   have:=ih (b:=b) (by simpa using h);simp only [xorb,List.zipWith_cons_cons] at *;rw [this,← UInt8.xor_assoc,UInt8.xor_self,UInt8.zero_xor]
def mask (key nonce b:LB):LB:=xorb (stream key nonce b.length) b
@[simp] theorem mask_length (key nonce b:LB):(mask key nonce b).length=b.length:=xorb_length s9
def sealB (key nonce plain:LB):LB:=nonce ++ mask key nonce plain ++ tag key (nonce ++ mask key nonce plain)
theorem sealB_length (key nonce plain:LB) (hn:nonce.length=16):(sealB key nonce plain).length=plain.length + 32:=by simp [sealB,hn];omega
def bodyOf (b:LB):LB:=b.take (b.length - 16)
def tagIn (b:LB):LB:=b.drop (b.length - 16)
def good (key b:LB):Bool:=tag key (bodyOf b) == tagIn b
def plainOf (key b:LB):LB:=mask key ((bodyOf b).take 16) ((bodyOf b).drop 16)
def openB (key b:LB):LB × Nat:=
 if b.length < 32 then ([],4) else if 65536 < b.length then ([],5) else if good key b then (plainOf key b,0) else ([],10)
theorem zdK (key nonce plain:LB):bodyOf (sealB key nonce plain)=nonce ++ mask key nonce plain:=by
 unfold bodyOf sealB;rw [Jk,zb7,Nat.add_sub_cancel,List.take_left]
theorem seal_tag (key nonce plain:LB):tagIn (sealB key nonce plain)=tag key (nonce ++ mask key nonce plain):=by
 unfold tagIn sealB;rw [Jk,zb7,Nat.add_sub_cancel,List.drop_left]
theorem seal_good (key nonce plain:LB):good key (sealB key nonce plain)=true:=by
 unfold good;rw [zdK,seal_tag,beq_self_eq_true]
theorem zgS (key nonce plain:LB) (hn:nonce.length=16):plainOf key (sealB key nonce plain)=plain:=by
 unfold plainOf;rw [zdK,← hn,List.take_left,List.drop_left];unfold mask;rw [xorb_length s9];exact zgM s9
theorem open_seal (key nonce plain:LB) (hn:nonce.length=16) (hp:plain.length≤65504):openB key (sealB key nonce plain)=(plain,0):=by
 unfold openB;rw [sealB_length _ _ _ hn,Jb o9,Jb o9,seal_good,Jh rfl,zgS _ _ _ hn]
end Sl
end Go.Proofs.YtgokpcnabgacnaaGreatDoor
namespace Go.Proofs.YtgokpcnabgacnaaGreatDoor
open Go.RowKit
open Sx
namespace Env
structure T where
 acc:LB
 rnd:Int
 ser:Int
 box:LB
 tag:LB
def zero:T:=⟨[],0,0,[],[]⟩
def okV (nm:LB) (rnd ser:Int) (bl tl:Nat):Prop:=Acc.isName nm∧(0≤rnd∧rnd≤1048576)∧(0≤ser∧ser≤1073741824)∧(32≤bl∧bl≤4128)∧tl=32
instance (nm:LB) (rnd ser:Int) (bl tl:Nat):Decidable (okV nm rnd ser bl tl):=by unfold okV;infer_instance
def ok (e:T):Prop:=okV e.acc e.rnd e.ser e.box.length e.tag.length
instance (e:T):Decidable (ok e):=by unfold ok;infer_instance
def roundL:LB:=[114,111,117,110,100,45]
def bidL:LB:=[98,105,100,45]
def comH (key:LB):LB:=Bl.hash [] (roundL ++ key)
def comB (key:LB):LB:=if key.length=32 then comH key else []
def comE (key:LB):Int:=if key.length=32 then 0 else 2
def sgn (nm:LB) (rnd ser:Int) (box:LB):LB:=j5 nm ++ grp rnd.toNat ++ grp ser.toNat ++ j5 box
def sgnT (e:T):LB:=sgn e.acc e.rnd e.ser e.box
def enc (e:T):LB:=sgnT e ++ j5 e.tag
theorem sgn_len {nm:LB} {rnd ser:Int} {box:LB} (h1:nm.length≤10000) (h2:box.length≤10000) (h3:rnd≤1048576) (h4:ser≤1073741824):(sgn nm rnd ser box).length≤nm.length + box.length + 40:=by
 have a1:=ZN (b:=nm) o9;have a2:=ZN (b:=box) o9;have a3:=Zv (n:=rnd.toNat) o9;have a4:=Zv (n:=ser.toNat) o9;unfold sgn;simp only [Jk];omega
theorem ok_len {e:T} (h:ok e):e.acc.length≤32∧0≤e.rnd∧e.rnd≤1048576∧0≤e.ser∧e.ser≤1073741824∧32≤e.box.length∧e.box.length≤4128∧e.tag.length=32:=by
 obtain ⟨h1,h2,h3,h4,h5⟩:=h;exact ⟨h1.2.2,h2.1,h2.2,h3.1,h3.2,h4.1,h4.2,h5⟩
theorem sgnT_len {e:T} (h:ok e):(sgnT e).length≤4200:=by
 obtain ⟨h1,h2,h3,h4,h5,h6,h7,h8⟩:=ok_len h;have:=sgn_len (nm:=e.acc) (box:=e.box) o9 o9 h3 h5;unfold sgnT;omega
def keyB (key nm:LB):LB:=Bl.hash key (bidL ++ nm)
def boxB (key nm nonce bid:LB):LB:=Sl.sealB (keyB key nm) nonce bid
def preE (rnd ser:Int) (kl nl bl:Nat):Int:=if (0≤rnd∧rnd≤1048576)∧(0≤ser∧ser≤1073741824)∧kl=32∧nl=16 then if 4096 < bl then 5 else 0 else 2
def mk (l:List Acc.T) (nm:LB) (rnd ser:Int) (key nonce bid:LB):T:=⟨nm,rnd,ser,boxB key nm nonce bid,Z4 l nm<|sgn nm rnd ser<|boxB key nm nonce bid⟩
def slE (l:List Acc.T) (nm:LB) (rnd ser:Int) (kl nl bl:Nat):Int:=if preE rnd ser kl nl bl≠0 then preE rnd ser kl nl bl else if Acc.find l nm=none then 9 else 0
def slT (l:List Acc.T) (nm:LB) (rnd ser:Int) (key nonce bid:LB):T:=if slE l nm rnd ser key.length nonce.length bid.length=0 then mk l nm rnd ser key nonce bid else zero
def autE (l:List Acc.T) (e:T):Int:=if ok e then Yi l e.acc (sgnT e) e.tag else 2
def opE (l:List Acc.T) (e:T) (key:LB):Int:=if key.length=32 then if autE l e≠0 then autE l e else if (Sl.openB (keyB key e.acc) e.box).2≠0 then 10 else 0 else 2
def opB (l:List Acc.T) (e:T) (key:LB):LB:=if opE l e key=0 then (Sl.openB (keyB key e.acc) e.box).1 else []
def sz (e:T):Int:=if ok e then (e.box.length:Int) - 32 else -1
def rd (r:RT):T × RT:=
 (⟨(stP 32 r).1,(stU (stP 32 r).2).1,(stU (stU (stP 32 r).2).2).1,(stP 4128 (stU (stU (stP 32 r).2).2).2).1,(stP 32 (stP 4128 (stU (stU (stP 32 r).2).2).2).2).1⟩,(stP 32 (stP 4128 (stU (stU (stP 32 r).2).2).2).2).2)
def decE (p:LB):Int:=if jB (rd ⟨p,0⟩).2≠0 then jB (rd ⟨p,0⟩).2 else if ok (rd ⟨p,0⟩).1 then 0 else 6
def dec (p:LB):T:=if decE p=0 then (rd ⟨p,0⟩).1 else zero
def encQ (e:T):LB:=if ok e then enc e else []
def encE (e:T):Int:=if ok e then 0 else 2
theorem end_ok {r:RT} (h:jB r=0):r.e=0∧r.p=[]:=by
 unfold jB at h
 split at h
 ·cases h
 ·rename_i hn;exact ⟨h,Classical.byContradiction fun hp=>hn ⟨h,hp⟩⟩
theorem dec_inv {p:LB} (h:decE p=0):ok (dec p)∧enc (dec p)=p:=by
 have h0:=h;unfold decE at h
 split at h
 ·rename_i h1;exact absurd h h1
 ·rename_i h1
  split at h
  ·rename_i h2
   have h1:jB (rd ⟨p,0⟩).2=0:=by simpa using h1
   have hd:dec p=(rd ⟨p,0⟩).1:=by unfold dec;rw [Jh h0]
   rw [hd];refine ⟨h2,?_⟩;obtain ⟨e0,ep⟩:=end_ok h1;clear hd h2 h1 h h0;unfold rd at e0 ep ⊢;simp only at e0 ep ⊢;obtain ⟨e5,p5,-⟩:=zaz e0;obtain ⟨e4,p4,-⟩:=zaz e5;obtain ⟨e3,n3,v3,p3,-⟩:=zay e4;obtain ⟨e2,n2,v2,p2,-⟩:=zay e3;obtain ⟨e1,p1,-⟩:=zaz e2;unfold enc sgnT sgn;simp only;rw [v3,v2,J7,J7];rw [ep,JS] at p5;simp only [Jq];rw [← p5,← p4,← p3,← p2];exact p1.symm
  ·cases h
theorem box_len (key nm:LB) {nonce:LB} (bid:LB) (hn:nonce.length=16):(boxB key nm nonce bid).length=bid.length + 32:=Sl.sealB_length _ _ _ hn
theorem pre_ok {rnd ser:Int} {kl nl bl:Nat} (h:preE rnd ser kl nl bl=0):(0≤rnd∧rnd≤1048576)∧(0≤ser∧ser≤1073741824)∧kl=32∧nl=16∧bl≤4096:=by
 unfold preE at h
 split at h
 ·rename_i h1
  split at h
  ·cases h
  ·exact ⟨h1.1,h1.2.1,h1.2.2.1,h1.2.2.2,by omega⟩
 ·cases h
theorem pre_of {rnd ser:Int} {kl nl bl:Nat} (h1:0≤rnd∧rnd≤1048576) (h2:0≤ser∧ser≤1073741824) (h3:kl=32) (h4:nl=16) (h5:bl≤4096):preE rnd ser kl nl bl=0:=by
 unfold preE;rw [Jh ⟨h1,h2,h3,h4⟩,Jb o9]
structure Sld (l:List Acc.T) (nm:LB) (rnd ser:Int) (key nonce bid:LB) (a:Acc.T):Prop where
 err:slE l nm rnd ser key.length nonce.length bid.length=0
 eq:slT l nm rnd ser key nonce bid=mk l nm rnd ser key nonce bid
 tag:(mk l nm rnd ser key nonce bid).tag=Bl.hash a.key (sgnT<|mk l nm rnd ser key nonce bid)
 ok:ok (mk l nm rnd ser key nonce bid)
 aut:autE l (mk l nm rnd ser key nonce bid)=0
theorem sld {l:List Acc.T} {nm:LB} {rnd ser:Int} {key nonce bid:LB} {a:Acc.T} (hf:Acc.Fine l) (ha:Acc.find l nm=some a) (h1:0≤rnd∧rnd≤1048576) (h2:0≤ser∧ser≤1073741824) (h3:key.length=32) (h4:nonce.length=16) (h5:bid.length≤4096):Sld l nm rnd ser key nonce bid a:=by
 obtain ⟨hm,hn⟩:=Acc.find_some ha;have hok:=hf.oks a hm
 have hnm:Acc.isName nm:=by rw [← hn];exact hok.1
 have hbl:=box_len key nm bid h4
 have herr:slE l nm rnd ser key.length nonce.length bid.length=0:=by unfold slE;rw [pre_of h1 h2 h3 h4 h5,Jb s9,ha,Jb s9]
 have hsl:(sgn nm rnd ser<|boxB key nm nonce bid).length≤65536:=by
  have:=sgn_len (nm:=nm) (box:=boxB key nm nonce bid) (by have:=hnm.2.2;omega) o9 h1.2 h2.2;have:=hnm.2.2;omega
 obtain ⟨t1,t2⟩:=YW ha (q:=sgn nm rnd ser<|boxB key nm nonce bid) o9;have hok2:ok (mk l nm rnd ser key nonce bid):=⟨hnm,h1,h2,by show 32≤(boxB key nm nonce bid).length∧(boxB key nm nonce bid).length≤4128;omega,by show (Z4 l nm _).length=32;rw [t1];simp⟩;refine ⟨herr,by unfold slT;rw [Jh herr],t1,hok2,?_⟩;unfold autE;rw [Jh hok2];unfold Yi jH;rw [show Y5 l (mk l nm rnd ser key nonce bid).acc (sgnT<|mk l nm rnd ser key nonce bid)=0 from t2];simp only [ne_eq,not_true_eq_false,if_false];rw [Jh (show Z4 l (mk l nm rnd ser key nonce bid).acc (sgnT<|mk l nm rnd ser key nonce bid)=(mk l nm rnd ser key nonce bid).tag from rfl)]
theorem op_sld {l:List Acc.T} {nm:LB} {rnd ser:Int} {key nonce bid:LB} {a:Acc.T} (h:Sld l nm rnd ser key nonce bid a) (h3:key.length=32) (h4:nonce.length=16) (h5:bid.length≤4096):opE l (mk l nm rnd ser key nonce bid) key=0∧opB l (mk l nm rnd ser key nonce bid) key=bid:=by
 have ho:Sl.openB (keyB key (mk l nm rnd ser key nonce bid).acc) (mk l nm rnd ser key nonce bid).box=(bid,0):=Sl.open_seal _ _ _ h4 o9
 have he:opE l (mk l nm rnd ser key nonce bid) key=0:=by
  unfold opE;rw [Jh h3,h.aut,Jb s9,ho];simp
 refine ⟨he,?_⟩;unfold opB;rw [Jh he,ho]
end Env
namespace Sx
def yX (e:Env.T):List D:=[yY e.acc,iD e.rnd,iD e.ser,bD e.box,bD e.tag]
instance:Row yX 5:=⟨fun _=>rfl,fun _=>by unfold yX;infer_instance,by decide⟩
end Sx
end Go.Proofs.YtgokpcnabgacnaaGreatDoor
namespace Go.Proofs.YtgokpcnabgacnaaGreatDoor
open Go.ChangeShapes Go.WideShapes Go.ChangeAt Go.RowKit
namespace Sx
theorem top_bool {P:Program} {t:TypeId} {base:Nat} {W:World} {v:Value} {H:Type} {enc:TypeId × Value→H} {x:DataW H} {p:List MemPlace} (ht:P.underlying t=some .bool) (hv:Value.okWide P W .any base t v) (_h:DataW.Trod enc P W 0 (fun _=>true) true t v x p):∃ b:Bool,(yj b).R [] W v:=by
 obtain ⟨b,rfl⟩:=okWide_bool ht hv;exact ⟨b,V⟩
instance:Inhabited Env.T:=⟨Env.zero⟩
theorem came_env:zh0 Tryz.prog 58 yX (fun e=>e.acc.length≤maxLen∧e.box.length≤maxLen∧e.tag.length≤maxLen):=fun H enc W fuel cs x h=>by
 obtain ⟨hl,hf⟩:=Vp Tryz.underlying58 h;have hl':cs.length=5:=hl.trans k9;obtain ⟨_,_,h0⟩:=hf 0 _ rfl;obtain ⟨_,_,h1⟩:=hf 1 _ rfl;obtain ⟨_,_,h2⟩:=hf 2 _ rfl;obtain ⟨_,_,h3⟩:=hf 3 _ rfl;obtain ⟨_,_,h4⟩:=hf 4 _ rfl;obtain ⟨n,o0,a0⟩:=came_str Tryz.underlying9 _ _ _ _ _ _ h0;obtain ⟨r,o1,a1⟩:=qV Tryz.underlying3 _ _ _ _ _ _ h1;obtain ⟨d,o3,a3⟩:=qV Tryz.underlying3 _ _ _ _ _ _ h2;obtain ⟨b,o2,a2⟩:=K7 Tryz.underlying24 Tryz.underlying5 k9 _ _ _ _ _ _ h3;obtain ⟨m,o4,a4⟩:=K7 Tryz.underlying24 Tryz.underlying5 k9 _ _ _ _ _ _ h4;exact ⟨⟨n,r,d,b,m⟩,⟨o0,o2,o4⟩,Wd [[yY n],[iD r],[iD d],[bD b],[bD m]] cs 0 ⟨a0,a1,a3,a2,a4,t9⟩ (by simpa using hl')⟩
