/- ROUNDS: the reference's Follow. ROUNDS: submitted, revealed. ROUNDS: what the laws are given. -/
import Derived.Test.YtgokpcnabgacnaaGreatDoorGZBG
set_option maxHeartbeats 8000000
set_option maxRecDepth 100000
namespace Go.Proofs.YtgokpcnabgacnaaGreatDoor
open Go.RowKit
namespace Sx
section
def Kk (p:LB):Int:=(stU ⟨p,0⟩).1
def YN (p:LB):LB:=(stP 65536 (stU ⟨p,0⟩).2).1
def Vt (p:LB):RT:=(stP 65536 (stU ⟨p,0⟩).2).2
def jD (s:Rnd.S) (p:LB):Int:=if jB (Vt p)≠0 then jB (Vt p) else if Env.decE (YN p)≠0 then Env.decE (YN p) else Rnd.subE s (Env.dec<|YN p) (Kk p)
def qe (s:Rnd.S) (p:LB):Rnd.S:=if jB (Vt p)≠0 then s else if Env.decE (YN p)≠0 then s else Rnd.subS s (Env.dec<|YN p) (Kk p)
def Kn (p:LB):Int:=(stU ⟨p,0⟩).1
def Km (p:LB):Int:=(stU (stU ⟨p,0⟩).2).1
def jE (p:LB):LB:=(stP 32 (stU (stU ⟨p,0⟩).2).2).1
def Vu (p:LB):RT:=(stP 32 (stU (stU ⟨p,0⟩).2).2).2
def KP (s:Rnd.S) (p:LB):Int:=if jB (Vu p)≠0 then jB (Vu p) else Rnd.revE s (Km p) (jE p) (Kn p)
def qK (s:Rnd.S) (p:LB):Rnd.S:=if jB (Vu p)≠0 then s else Rnd.revS s (Km p) (jE p) (Kn p)
def Zj (s:Rnd.S) (k:Int) (p:LB):Int:=if k=1 then jD s p else if k=2 then KP s p else Rnd.recE s k p
def Zd (s:Rnd.S) (k:Int) (p:LB):Rnd.S:=if k=1 then qe s p else if k=2 then qK s p else Rnd.recS s k p
theorem smB_len (p:LB):(YN p).length≤65536:=by
 have:=stP_le (lim:=65536) d9 (stU ⟨p,0⟩).2;unfold YN;omega
theorem rvK_len (p:LB):(jE p).length≤32:=by
 have:=stP_le (lim:=32) d9 (stU (stU ⟨p,0⟩).2).2;unfold jE;omega
theorem dec_acc (p:LB):(Env.dec p).acc.length≤1000000:=by
 unfold Env.dec
 split
 ·have:=rd_acc p;omega
 ·show ([]:LB).length≤1000000;simp
theorem zfR (p:LB):(Vt p).p.length≤p.length:=JG (qJ _) (qJ (⟨p,0⟩:RT))
theorem zfS (p:LB):(Vu p).p.length≤p.length:=JG (qJ _) (JG (qJ _)<|qJ (⟨p,0⟩:RT))
theorem zey (s:Rnd.S) (x:Led.Ent) (hg:Rnd.Good s) (hn:s.es.length≤100000) (hp:x.bytes.length≤1000000):ConR Tryz.prog 36 [] [Zo [lsD Yz s.bk,lsD YB s.ws,lsD yX s.es,lsD Z8 s.ks,iD s.ck,lsD encE s.en],Zo [iD x.kind,bD x.bytes]] (fun _:Unit=>[]) (fun _:Unit=>Yk [Zo<|rfD<|Zd s x.kind x.bytes,yj<|decide (Zj s x.kind x.bytes=0)]):=by
 have q1:(stU ⟨x.bytes,0⟩).2.p.length≤x.bytes.length:=qJ _;have q2:(stU (stU ⟨x.bytes,0⟩).2).2.p.length≤(stU ⟨x.bytes,0⟩).2.p.length:=qJ _;have q3:=zfR x.bytes;have q4:=zfS x.bytes;have henl:=hg.len;refine yg Tryz.func36 k9 V k9 fun base w0=>(zp (SWl.e2 (S:=[]) (yv V V) fun g2=>(SWl.e2 (S:=[]) (yv V V) fun g3=>(SWl.e2 (S:=[]) (zM (zs:=[.slice none 0 0,.slice none 0 0,.slice none 0 0,.slice none 0 0,.int .i64 0,.slice none 0 0]) k9 V) fun g4=>(zf V<|zV<|zf V<|ze<|zk<|zp<|za V (zc (n:=0) V k9)<|za V (zg 1 V V V k9 zh)<|za V (yM V V)<|ze<|zJ V (fun hb21=> ?_) (fun hb21=> ?_))))))
 ·have h21:x.kind=1:=oT hb21;refine zp (za V (zc (n:=1) V k9)<|za V (zg 1 V V V k9 zh)<|za V (yq V V zeC)<|zt (S:=[]) (zY (zef ⟨x.bytes,0⟩ hp) V ⟨zb _,t9⟩ V)<|zd V<|za V (zm V V)<|za V (zm V V) (SWl.e2 (S:=[]) (zM (zs:=[.slice none 0 0,.int .i64 0]) k9 V) fun g8=>(zf V<|zt (S:=[_]) (zw 3 V V V k9 V<|m9 V)<|ze<|zk<|zO (σ':=zN [(2,_),(3,_),(4,_),(7,_),(8,_)] [_,_,_,_]) (sB [0,1,2,3] V V)<|zi<|za V (zA 3 2 V V k9 V zh)<|zt (S:=[]) (zY (zeg (stU ⟨x.bytes,0⟩).2 o9 65536 d9) V ⟨zb _,zb _,t9⟩ V)<|zd V<|za V (zm V V)<|za V (zm V V) (SWl.e2 (S:=[]) (zM (zs:=[.slice none 0 0,.int .i64 0]) k9 V) fun g10=>(zf V<|zt (S:=[_]) (zw 4 V V V k9 V<|m9 V)<|ze<|zk<|zk ?_)))));obtain ⟨q,hq⟩:∃ q,q=Vt x.bytes:=⟨_,rfl⟩
  have hql:q.p.length≤1000000:=by (rw [hq];omega)
  refine zO (σ':=zN [(2,_),(3,_),(4,_),(7,_),(9,_),(10,_)] [.c g2 [lsD Yz s.bk,lsD YB s.ws,lsD yX s.es,lsD Z8 s.ks,iD s.ck,lsD encE s.en],.c g3 [iD x.kind,bD x.bytes],.c g4 [isD<|.slice none 0 0,isD<|.slice none 0 0,isD<|.slice none 0 0,isD<|.slice none 0 0,iD 0,isD<|.slice none 0 0],.c g10 [bD q.p,iD q.e]]) (⟨⟨_,V,(sT V)⟩,[0,1,2,4],by decide,⟨la rfl,⟨la rfl,⟨la rfl,⟨⟨_,rfl,(by rw [hq];exact yl _)⟩,trivial⟩⟩⟩⟩⟩) (zi<|za V (zA 3 2 V V k9 V zh)<|zt (S:=[]) (zY (zdb q hql) V ⟨zb _,t9⟩ V)<|za V (ye V V)<|ze<|zJ V (fun hb36=> ?_) (fun hb36=> ?_))
  ·have h36:jB q≠0:=by simpa using hb36
   refine zp (za V (zA 0 6 V V k9 V zh)<|zt (S:=[_]) (zw 2 V V V k9 V<|m9 V)<|zf V<|ze<|zQ (fn:=Tryz.f36) (()) [] (fun _ _ h=>h) (Rs.le (ym V (zS 2 V V k9)<|zj V) ?_) d9 t9)
   have hE:Zj s x.kind x.bytes=jB q:=by (unfold Zj;rw [Jh h21];unfold jD;rw [← hq,Jh h36])
   have hS:Zd s x.kind x.bytes=s:=by (unfold Zd;rw [Jh h21];unfold qe;rw [← hq,Jh h36])
   exact yn ⟨by rw [hS];exact zb _,zF (by rw [hE];simp [h36]),trivial⟩
  ·have h36:jB q=0:=by simpa using hb36
   refine zr (zn<|zp<|zd V<|zt (S:=[]) (zY (zen (YN x.bytes) (by have:=smB_len x.bytes;omega)) V ⟨zb _,t9⟩ V)<|zd V<|za V (zm V V)<|za V (zm V V) (SWl.e2 (S:=[]) (zM (zs:=[.string ⟨#[]⟩,.int .i64 0,.int .i64 0,.slice none 0 0,.slice none 0 0]) k9 V) fun g11=>(zt (S:=[_]) (zw 4 V V V k9 V<|m9 V)<|zf V<|ze<|zk<|zk ?_)));obtain ⟨e,he⟩:∃ e,e=Env.dec (YN x.bytes):=⟨_,rfl⟩;refine zO (σ':=zN [(2,_),(4,_),(7,_),(11,_),(12,_)] [.c g2 [lsD Yz s.bk,lsD YB s.ws,lsD yX s.es,lsD Z8 s.ks,iD s.ck,lsD encE s.en],.c g4 [isD<|.slice none 0 0,isD<|.slice none 0 0,isD<|.slice none 0 0,isD<|.slice none 0 0,iD 0,isD<|.slice none 0 0],.c g11 [yY e.acc,iD e.rnd,iD e.ser,bD e.box,bD e.tag]]) (⟨⟨_,V,(sT V)⟩,[0,2,4],by decide,⟨la rfl,⟨la rfl,⟨⟨_,rfl,(by rw [he];exact yl _)⟩,trivial⟩⟩⟩⟩) (zi<|zd V<|za V (ye V V)<|ze<|zJ V (fun hb44=> ?_) (fun hb44=> ?_))
   ·have h44:Env.decE (YN x.bytes)≠0:=by simpa using hb44
    refine zp (za V (zA 0 6 V V k9 V zh)<|zt (S:=[_]) (zw 1 V V V k9 V<|m9 V)<|zf V<|ze<|zQ (fn:=Tryz.f36) (()) [] (fun _ _ h=>h) (Rs.le (ym V (zS 1 V V k9)<|zj V) ?_) d9 t9)
    have hE:Zj s x.kind x.bytes=Env.decE (YN x.bytes):=by (unfold Zj;rw [Jh h21];unfold jD;rw [← hq,Jb<|Jj h36,Jh h44])
    have hS:Zd s x.kind x.bytes=s:=by (unfold Zd;rw [Jh h21];unfold qe;rw [← hq,Jb<|Jj h36,Jh h44])
    exact yn ⟨by rw [hS];exact zb _,zF (by rw [hE];simp [h44]),trivial⟩
   ·have h44:Env.decE (YN x.bytes)=0:=by simpa using hb44
    refine zr (zn<|zp<|za V (zA 0 6 V V k9 V zh)<|za V (zA 2 5 V V k9 V zh)<|zd V (SWl.e2 (S:=[]) (zC [] (KM s e (Kk x.bytes) hg hn (by rw [he];exact dec_acc _)) V ⟨zb _,zb _,zb _,t9⟩ d9 t9 (fun _ h=>h) V) fun _=>(zd V<|za V (zm V V)<|za V (zm V V)<|zt (S:=[_]) (zw 0 V V V k9 V<|m9 V)<|zf V<|ze<|zk<|zO (σ':=zN [(2,_),(4,_),(6,_)] [_,_]) (sB [0,1] V V)<|zi<|za V (zA 0 6 V V k9 V zh)<|zd V<|za V (yM V V)<|zt (S:=[_]) (zw 1 V V V k9 V<|m9 V)<|zf V<|ze<|zQ (fn:=Tryz.f36) (()) [] (fun _ _ h=>h) (Rs.le (ym V (zS 1 V V k9)<|zj V) ?_) d9 t9)))
    have hE:Zj s x.kind x.bytes=Rnd.subE s e (Kk x.bytes):=by (unfold Zj;rw [Jh h21];unfold jD;rw [← hq,Jb<|Jj h36,Jb<|Jj h44,← he])
    have hS:Zd s x.kind x.bytes=(Rnd.subS s e<|Kk x.bytes):=by (unfold Zd;rw [Jh h21];unfold qe;rw [← hq,Jb<|Jj h36,Jb<|Jj h44,← he])
    exact yn ⟨by rw [hS];exact zb _,zF (by rw [hE]),trivial⟩
 ·have h21:¬x.kind=1:=oF hb21;refine zr (zn<|zk<|zp<|za V (zc (n:=0) V k9)<|za V (zg 1 V V V k9 zh)<|za V (yM V V)<|ze<|zJ V (fun hb58=> ?_) (fun hb58=> ?_))
  ·have h58:x.kind=2:=oT hb58;refine zp (za V (zc (n:=1) V k9)<|za V (zg 1 V V V k9 zh)<|za V (yq V V zeC)<|zt (S:=[]) (zY (zef ⟨x.bytes,0⟩ hp) V ⟨zb _,t9⟩ V)<|zd V<|za V (zm V V)<|za V (zm V V) (SWl.e2 (S:=[]) (zM (zs:=[.slice none 0 0,.int .i64 0]) k9 V) fun g14=>(zf V<|zt (S:=[_]) (zw 3 V V V k9 V<|m9 V)<|ze<|zk<|zO (σ':=zN [(2,_),(3,_),(4,_),(13,_),(14,_)] [_,_,_,_]) (sB [0,1,2,3] V V)<|zi<|za V (zA 3 2 V V k9 V zh)<|zt (S:=[]) (zY (zef (stU ⟨x.bytes,0⟩).2 o9) V ⟨zb _,t9⟩ V)<|zd V<|za V (zm V V)<|za V (zm V V) (SWl.e2 (S:=[]) (zM (zs:=[.slice none 0 0,.int .i64 0]) k9 V) fun g16=>(zf V<|zt (S:=[_]) (zw 4 V V V k9 V<|m9 V)<|ze<|zk<|zO (σ':=zN [(2,_),(3,_),(4,_),(13,_),(15,_),(16,_)] [_,_,_,_]) (sB [0,1,2,4] V V)<|zi<|za V (zA 3 2 V V k9 V zh)<|zt (S:=[]) (zY (zeg (stU (stU ⟨x.bytes,0⟩).2).2 o9 32 d9) V ⟨zb _,zb _,t9⟩ V)<|zd V<|za V (zm V V)<|za V (zm V V) (SWl.e2 (S:=[]) (zM (zs:=[.slice none 0 0,.int .i64 0]) k9 V) fun g18=>(zf V<|zt (S:=[_]) (zw 4 V V V k9 V<|m9 V)<|ze ?_)))))))
   refine zk (zk ?_);obtain ⟨q,hq⟩:∃ q,q=Vu x.bytes:=⟨_,rfl⟩
   have hql:q.p.length≤1000000:=by (rw [hq];omega)
   refine zO (σ':=zN [(2,_),(3,_),(4,_),(13,_),(15,_),(17,_),(18,_)] [.c g2 [lsD Yz s.bk,lsD YB s.ws,lsD yX s.es,lsD Z8 s.ks,iD s.ck,lsD encE s.en],.c g3 [iD x.kind,bD x.bytes],.c g4 [isD<|.slice none 0 0,isD<|.slice none 0 0,isD<|.slice none 0 0,isD<|.slice none 0 0,iD 0,isD<|.slice none 0 0],.c g18 [bD q.p,iD q.e]]) (⟨⟨_,V,(sT V)⟩,[0,1,2,4],by decide,⟨la rfl,⟨la rfl,⟨la rfl,⟨⟨_,rfl,(by rw [hq];exact yl _)⟩,trivial⟩⟩⟩⟩⟩) (zi<|za V (zA 3 2 V V k9 V zh)<|zt (S:=[]) (zY (zdb q hql) V ⟨zb _,t9⟩ V)<|za V (ye V V)<|ze<|zJ V (fun hb78=> ?_) (fun hb78=> ?_))
   ·have h78:jB q≠0:=by simpa using hb78
    refine zp (za V (zA 0 6 V V k9 V zh)<|zt (S:=[_]) (zw 2 V V V k9 V<|m9 V)<|zf V<|ze<|zQ (fn:=Tryz.f36) (()) [] (fun _ _ h=>h) (Rs.le (ym V (zS 2 V V k9)<|zj V) ?_) d9 t9)
    have hE:Zj s x.kind x.bytes=jB q:=by (unfold Zj;rw [Jb h21,Jh h58];unfold KP;rw [← hq,Jh h78])
    have hS:Zd s x.kind x.bytes=s:=by (unfold Zd;rw [Jb h21,Jh h58];unfold qK;rw [← hq,Jh h78])
    exact yn ⟨by rw [hS];exact zb _,zF (by rw [hE];simp [h78]),trivial⟩
   ·have h78:jB q=0:=by simpa using hb78
    refine zr (zn<|zp<|za V (zA 0 6 V V k9 V zh)<|zd V<|zd V<|zd V (SWl.e2 (S:=[]) (zC [] (WY s (Km x.bytes) (jE x.bytes) (Kn x.bytes) hg (by have:=rvK_len x.bytes;omega)) V ⟨zb _,zb _,zb _,zb _,t9⟩ d9 t9 (fun _ h=>h) V) fun _=>(zd V<|za V (zm V V)<|za V (zm V V)<|zt (S:=[_]) (zw 0 V V V k9 V<|m9 V)<|zf V<|ze<|zk<|zO (σ':=zN [(2,_),(4,_),(6,_)] [_,_]) (sB [0,2] V V)<|zi<|za V (zA 0 6 V V k9 V zh)<|zd V<|za V (yM V V)<|zt (S:=[_]) (zw 1 V V V k9 V<|m9 V)<|zf V<|ze<|zQ (fn:=Tryz.f36) (()) [] (fun _ _ h=>h) (Rs.le (ym V (zS 1 V V k9)<|zj V) ?_) d9 t9)))
    have hE:Zj s x.kind x.bytes=Rnd.revE s (Km x.bytes) (jE x.bytes) (Kn x.bytes):=by (unfold Zj;rw [Jb h21,Jh h58];unfold KP;rw [← hq,Jb<|Jj h78])
    have hS:Zd s x.kind x.bytes=(Rnd.revS s (Km x.bytes) (jE x.bytes)<|Kn x.bytes):=by (unfold Zd;rw [Jb h21,Jh h58];unfold qK;rw [← hq,Jb<|Jj h78])
    exact yn ⟨by rw [hS];exact zb _,zF (by rw [hE]),trivial⟩
  ·have h58:¬x.kind=2:=oF hb58;refine zr (zn<|zp<|za V (zA 0 6 V V k9 V zh)<|za V (zc (n:=0) V k9)<|za V (zg 1 V V V k9 zh)<|za V (zc (n:=1) V k9)<|za V (zg 1 V V V k9 zh)<|zt (S:=[]) (zY (WZ s x.kind x.bytes henl hp) V ⟨zb _,zb _,zb _,t9⟩ V)<|zd V<|za V (zm V V)<|za V (zm V V)<|za V (zm V V)<|zt (S:=[_]) (zw 0 V V V k9 V<|m9 V)<|zf V<|ze<|zk<|zO (σ':=zN [(2,_),(4,_),(6,_)] [_,_]) (sB [0,2] V V)<|zi<|za V (zA 0 6 V V k9 V zh)<|zd V<|za V (yM V V)<|zt (S:=[_]) (zw 1 V V V k9 V<|m9 V)<|zf V<|ze<|zQ (fn:=Tryz.f36) (()) [] (fun _ _ h=>h) (Rs.le (ym V (zS 1 V V k9)<|zj V) ?_) d9 t9)
   have hE:Zj s x.kind x.bytes=Rnd.recE s x.kind x.bytes:=by (unfold Zj;rw [Jb h21,Jb h58])
   have hS:Zd s x.kind x.bytes=(Rnd.recS s x.kind x.bytes):=by (unfold Zd;rw [Jb h21,Jb h58])
   exact yn ⟨by rw [hS];exact zb _,zF (by rw [hE]),trivial⟩
end
section
theorem zda (gr:Nat) (F:LN) (s:Rnd.S) (p:LB) (hg:Rnd.Good s) (hp:p.length≤1000000):ConR Tryz.prog 95 [.r F<|Yj gr s] [pA gr,bD p] (fun F':LN=>[.r F'<|Yj gr<|qe s p]) (fun F':LN=>iD<|jD s p):=by
 refine yg Tryz.func95 k9 V k9 fun base w0=>(zp<|zf V<|zV<|zd V (SWl.e2 (S:=[]) (zC [] (zdd p hp) V ⟨zb _,t9⟩ d9 t9 (fun _ h=>h) V) fun gi=>(zf V<|zV<|zd V (SWl.e2 (zC [1] (KH gi p hp (0,0) ⟨p,0⟩<|RRel.start p) V ⟨zb _,t9⟩ d9 ⟨la V,t9⟩ (fun _ h=>h) V) fun s14=>(zd V (SWl.e2 (zC [1] (K5 gi p hp 65536 d9 s14.1 (stU ⟨p,0⟩).2 s14.2) V ⟨zb _,zb _,t9⟩ d9 ⟨la V,t9⟩ (fun _ h=>h) V) fun s16=>(zf V<|zf V<|ze<|zk<|zk ?_)))))));obtain ⟨q,hq⟩:∃ q,q=Vt p:=⟨_,rfl⟩;obtain ⟨s2,hs2⟩:∃ s2:Int × Nat,s2=s16.1:=⟨_,rfl⟩
 have hr:RRel p s2 q:=by rw [hs2,hq];exact s16.2
 refine zO (σ':=zN [(0,_),(5,_),(6,_),(7,_)] [.r F<|Yj gr s,.c gi [iD s2.1,yj true,bD p,iD ((s2.2:Nat):Int)]]) (⟨⟨_,V,(sT V)⟩,[0,1],by decide,⟨lR rfl,⟨⟨_,rfl,(by rw [hs2];exact yl _)⟩,trivial⟩⟩⟩) (zi<|zd V<|zt (S:=[]) (zD [1] (zde p s2 q hr) V ⟨(yG 1 V d9 ⟨(zo<|zb _),(zo<|zb _),(zo<|zb _),(zo<|zb _),t9⟩),t9⟩ V)<|zf V<|zV<|zd V<|za V (ye V V)<|ze<|zJ V (fun hb20=> ?_) (fun hb20=> ?_))
 ·have h20:jB q≠0:=by simpa using hb20
  refine zp (zd V<|zf V<|ze<|zQ (fn:=Tryz.f95) (F) [0] (fun _ _ h=>h) (Rs.le (Rs.one V<|zj V) ?_) d9 ⟨⟨_,V,(by rw [show qe s p=s from by unfold qe;rw [← hq,Jh h20]];exact yu _)⟩,t9⟩);exact zF (by unfold jD;rw [← hq,Jh h20])
 ·have h20:jB q=0:=by simpa using hb20
  refine zr (zn<|zp<|zd V<|zt (S:=[]) (zY (zfy (YN p) (by have:=smB_len p;omega)) V ⟨zb _,t9⟩ V)<|zd V<|za V (zm V V)<|za V (zm V V) (SWl.e2 (S:=[]) (zM (zs:=[.string ⟨#[]⟩,.int .i64 0,.int .i64 0,.slice none 0 0,.slice none 0 0]) k9 V) fun g9=>(zt (S:=[_]) (zw 2 V V V k9 V<|m9 V)<|zf V<|ze<|zk<|zk ?_)));obtain ⟨e,he⟩:∃ e,e=Env.dec (YN p):=⟨_,rfl⟩;refine zO (σ':=zN [(0,_),(6,_),(9,_),(10,_)] [.r F<|Yj gr s,.c g9 [yY e.acc,iD e.rnd,iD e.ser,bD e.box,bD e.tag]]) (⟨⟨_,V,(sT V)⟩,[0,2],by decide,⟨lR rfl,⟨⟨_,rfl,(by rw [he];exact yl _)⟩,trivial⟩⟩⟩) (zi<|zd V<|za V (ye V V)<|ze<|zJ V (fun hb28=> ?_) (fun hb28=> ?_))
  ·have h28:Env.decE (YN p)≠0:=by simpa using hb28
   refine zp (zd V<|zf V<|ze<|zQ (fn:=Tryz.f95) (F) [0] (fun _ _ h=>h) (Rs.le (Rs.one V<|zj V) ?_) d9 ⟨⟨_,V,(by rw [show qe s p=s from by unfold qe;rw [← hq,Jb<|Jj h20,Jh h28]];exact yu _)⟩,t9⟩);exact zF (by unfold jD;rw [← hq,Jb<|Jj h20,Jh h28])
  ·have h28:Env.decE (YN p)=0:=by simpa using hb28
   refine zr (zn<|zp<|zd V<|za V (zA 1 5 V V k9 V zh)<|zd V (SWl.e2 (zC [0] (zcu gr F s e (Kk p) hg) V ⟨zb _,zb _,zb _,t9⟩ d9 ⟨lR V,t9⟩ (fun _ h=>h) V) fun F33=>(zf V<|ze<|zQ (fn:=Tryz.f95) (F33) [1] (fun _ _ h=>h) (Rs.le (Rs.one V<|zj V) ?_) d9 ⟨⟨_,V,(by rw [show qe s p=Rnd.subS s e (Kk p) from by unfold qe;rw [← hq,Jb<|Jj h20,Jb<|Jj h28,← he]];exact yu _)⟩,t9⟩)));exact zF (by unfold jD;rw [← hq,Jb<|Jj h20,Jb<|Jj h28,← he])
theorem zeh (gr:Nat) (F:LN) (s:Rnd.S) (p:LB) (hg:Rnd.Good s) (hp:p.length≤1000000):ConR Tryz.prog 96 [.r F<|Yj gr s] [pA gr,bD p] (fun F':LN=>[.r F'<|Yj gr<|qK s p]) (fun F':LN=>iD<|KP s p):=by
 refine yg Tryz.func96 k9 V k9 fun base w0=>(zp<|zf V<|zV<|zd V (SWl.e2 (S:=[]) (zC [] (zdd p hp) V ⟨zb _,t9⟩ d9 t9 (fun _ h=>h) V) fun gi=>(zf V<|zV<|zd V (SWl.e2 (zC [1] (KH gi p hp (0,0) ⟨p,0⟩<|RRel.start p) V ⟨zb _,t9⟩ d9 ⟨la V,t9⟩ (fun _ h=>h) V) fun s13=>(zd V (SWl.e2 (zC [1] (KH gi p hp s13.1 (stU ⟨p,0⟩).2 s13.2) V ⟨zb _,t9⟩ d9 ⟨la V,t9⟩ (fun _ h=>h) V) fun s15=>(zd V (SWl.e2 (zC [1] (K5 gi p hp 32 d9 s15.1 (stU (stU ⟨p,0⟩).2).2 s15.2) V ⟨zb _,zb _,t9⟩ d9 ⟨la V,t9⟩ (fun _ h=>h) V) fun s17=>(zf V<|zf V<|zf V<|ze<|zk<|zk ?_)))))))));obtain ⟨q,hq⟩:∃ q,q=Vu p:=⟨_,rfl⟩;obtain ⟨s2,hs2⟩:∃ s2:Int × Nat,s2=s17.1:=⟨_,rfl⟩
 have hr:RRel p s2 q:=by rw [hs2,hq];exact s17.2
 refine zO (σ':=zN [(0,_),(5,_),(6,_),(7,_),(8,_)] [.r F<|Yj gr s,.c gi [iD s2.1,yj true,bD p,iD ((s2.2:Nat):Int)]]) (⟨⟨_,V,(sT V)⟩,[0,1],by decide,⟨lR rfl,⟨⟨_,rfl,(by rw [hs2];exact yl _)⟩,trivial⟩⟩⟩) (zi<|zd V<|zt (S:=[]) (zD [1] (zde p s2 q hr) V ⟨(yG 1 V d9 ⟨(zo<|zb _),(zo<|zb _),(zo<|zb _),(zo<|zb _),t9⟩),t9⟩ V)<|zf V<|zV<|zd V<|za V (ye V V)<|ze<|zJ V (fun hb21=> ?_) (fun hb21=> ?_))
 ·have h21:jB q≠0:=by simpa using hb21
  refine zp (zd V<|zf V<|ze<|zQ (fn:=Tryz.f96) (F) [0] (fun _ _ h=>h) (Rs.le (Rs.one V<|zj V) ?_) d9 ⟨⟨_,V,(by rw [show qK s p=s from by unfold qK;rw [← hq,Jh h21]];exact yu _)⟩,t9⟩);exact zF (by unfold KP;rw [← hq,Jh h21])
 ·have h21:jB q=0:=by simpa using hb21
  refine zr (zn<|zp<|zd V<|zd V<|zd V<|zd V (SWl.e2 (zC [0] (zcx gr F s (Km p) (jE p) (Kn p) hg (by have:=rvK_len p;omega)) V ⟨zb _,zb _,zb _,zb _,t9⟩ d9 ⟨lR V,t9⟩ (fun _ h=>h) V) fun F27=>(zf V<|ze<|zQ (fn:=Tryz.f96) (F27) [1] (fun _ _ h=>h) (Rs.le (Rs.one V<|zj V) ?_) d9 ⟨⟨_,V,(by rw [show qK s p=Rnd.revS s (Km p) (jE p) (Kn p) from by unfold qK;rw [← hq,Jb<|Jj h21]];exact yu _)⟩,t9⟩)));exact zF (by unfold KP;rw [← hq,Jb<|Jj h21])
end
section
theorem row_step {i n:Nat} {b:UInt8} (h:i < n):((cellsOf<|List.replicate i b ++ List.replicate (n - i) 0).map isD).set i (isD<|B8 b)=(cellsOf<|List.replicate (i + 1) b ++ List.replicate (n - (i + 1)) 0).map isD:=by
 rw [show n - i=(n - (i + 1)) + 1 by omega,Xc,List.replicate_succ'];simp only [cellsOf,XG,JU,List.map_replicate,Jq,XC];rw [Xa _ _ s9];simp
theorem Wa {n:LB} {r m:Int} {b:LB}:Bld Tryz.prog 121 [0,1,2,4] [yY n,iD r,bD b,iD m] [yY n,iD r,bD b,iD 0,iD m]:=fun L w vs hv=>by
 match vs,hv with
 | [x,y,z,u],⟨hx,hy,h3,hu,_⟩=>
  cases hx;cases hy;cases hu
  have h3':=h3;obtain ⟨A,cp,rfl,-⟩:=h3;exact ⟨[.string _,.int .i64 r,.slice A _ cp,.int .i64 0,.int .i64 m],⟨V,V,h3',V,V,t9⟩,fun w'=>by kernel_rfl⟩
abbrev nmA:LB:=[97,99,109,101]
abbrev nmB:LB:=[98,101,108,108]
abbrev nmC:LB:=[107,45,116,118]
abbrev nmL:List LB:=[nmA,nmB,nmC]
abbrev hA:Acc.T:=⟨nmA,2,List.replicate 32 8,0,0⟩
abbrev hB:Acc.T:=⟨nmB,2,List.replicate 32 9,0,1⟩
abbrev hC:Acc.T:=⟨nmC,2,List.replicate 32 10,0,2⟩
abbrev hL:List Acc.T:=[hA,hB,hC]
theorem hAdd1:Acc.add [] hA=([hA],0):=(Ya (by decide +kernel) (by decide +kernel) d9).trans (by rfl)
theorem hAdd2:Acc.add [hA] hB=([hA,hB],0):=(Ya (by decide +kernel) (by decide +kernel) d9).trans (by rfl)
theorem hAdd3:Acc.add [hA,hB] hC=(hL,0):=(Ya (by decide +kernel) (by decide +kernel) d9).trans (by rfl)
theorem hFine1:Acc.Fine [hA]:=by have h:=Acc.Fine.nil.add hA;rw [hAdd1] at h;exact h
theorem hFine2:Acc.Fine [hA,hB]:=by have h:=hFine1.add hB;rw [hAdd2] at h;exact h
theorem jp:Acc.Fine hL:=by have h:=hFine2.add hC;rw [hAdd3] at h;exact h
theorem blsT3 {a b c:LB}:Bls Tryz.prog 114 3 [0,1,2] [yY a,yY b,yY c] ([a,b,c].flatMap YM):=⟨9,fun L w vs hv=>by
 obtain ⟨u,v,z,rfl,rfl,rfl,rfl⟩:=all3 hv
 exact ⟨[.string _,.string _,.string _],⟨V,V,V,t9⟩,fun w'=>by kernel_rfl⟩⟩
theorem Vm {l l':List Acc.T} {a:Acc.T} {e:Int} (hf:Acc.Fine l) (h:Acc.add l a=(l',e)) (hs:a.name.length≤1000000):
  ConR Tryz.prog 50 [] [Zo [lsD Yz l],Zo [yY a.name,iD a.role,bD a.key,iD a.dep,iD a.num]] (fun _:Unit=>[]) (fun _:Unit=>Yk [Zo [lsD Yz l'],iD e]):=by
 have hc:=con_AddR l a hf hs;rw [h] at hc;exact hc
theorem Y6 (b:UInt8) (n:Nat) (hn:n≤1000000):Con Tryz.prog 10 [isD<|B8 b,iD (n:Int)] (bD<|List.replicate n b):=by
 refine YP Tryz.func10 k9 V k9 fun base w0=>(zp<|zf V<|zV<|zd V (SWl.e2 (S:=[]) (Ef.make (e:=5) (z:= .int .u8 0) (n:=n) 1 V V k9 k9 V V V o9 d9 V) fun g8=>(zf V<|ze<|zk<|zp<|zf V<|ze<|zX<|Zw (ι:={i:Nat // i≤n}) (fun i=>zN [(0,isD<|B8 b),(1,iD (n:Int)),(5,isD<|.slice (some ⟨g8,0,none⟩) n n),(6,iD (i.1:Int))] [.c g8<|(cellsOf<|List.replicate i.1 b ++ List.replicate (n - i.1) 0).map isD]) (fun i=>n - i.1) (⟨0,JC _⟩) ?_ ?_)))
 ·exact ⟨⟨_,V,(sT V)⟩,[0],by decide,⟨⟨_,rfl,zgk (by simp [cellsOf];exact Or.inr rfl)⟩,trivial⟩⟩
 ·rintro ⟨i,hi⟩ K0 hK0;dsimp only at hi ⊢;refine zk (zp<|zd V<|zd V<|za V (yF V V)<|ze<|zJ V (fun hb11=> ?_) (fun hb11=> ?_))
  ·have hb11:=oT hb11;exact zr (zn<|zk<|zX<|zi<|zd V<|zd V<|zd V<|za V (zfX (e:=5) V V k9 k9 o9 o9)<|zt (S:=[_]) (zbE 0 V V V k9 (by simp;omega)<|m9 V)<|zP<|yc<|zn<|zi<|zd V<|za V (yC V V ⟨by omega,by omega⟩)<|zf V<|zP (fun a w hh=>hK0 (⟨i + 1,by omega⟩) (by dsimp only;omega) a w<|hh.sub<|⟨⟨_,V,⟨lq V,⟨lq V,⟨lq V,⟨⟨_,V,zF s9⟩,t9⟩⟩⟩⟩⟩,[0],by decide,⟨⟨_,rfl,zgk (by rw [show 0 + ((i:Nat):Int).toNat=i by simp];exact row_step o9)⟩,trivial⟩⟩))
  ·obtain rfl:i=n:=by have:=oF hb11;omega
   refine yZ ?_
   repeat (first | refine Ze ?_ | refine Zf d9 ?_)
   refine Zn (zn<|zp<|WN 5 0 (cellsOf<|List.replicate i b) V V s9 (Js _) (by rw [Nat.sub_self];simp)<|zd V<|zf V<|ze<|zK (fn:=Tryz.f10) (fun _ _ h=>h)<|Rs.le (Rs.one V<|zj V) ?_);exact zb _
theorem YH:Con Tryz.prog 48 [] (lsD YM nmL):=by
 refine YP Tryz.func48 k9 V k9 fun base w0=>(zp<|zf V<|zV<|zt (S:=[]) (ZL V V blsT3 V)<|zf V<|ze<|zK (fn:=Tryz.f48) (fun _ _ h=>h)<|Rs.le (Rs.one V<|zj V) ?_);exact zb _
theorem zbo (key:LB) (hk:key.length≤100000):Con Tryz.prog 59 [bD key] (bD<|Env.comB key):=by
 refine YP Tryz.func59 k9 V k9 fun base w0=>(zp<|zf V<|zV<|zd V<|zt (S:=[]) (zY (zbn key hk) V ⟨zb _,t9⟩ V)<|zd V<|za V (zm V V)<|za V (zm V V)<|zf V<|zf V<|zV<|zd V<|zt (S:=[]) (zau (e:=5) V k9 k9 k9 V)<|zf V<|ze<|zK (fn:=Tryz.f59) (fun _ _ h=>h)<|Rs.le (Rs.one V<|zj V) ?_);exact zaR
theorem zek:ConR Tryz.prog 11 [] [] (fun t:Nat × Bst=>[.c t.1 [isD<|.map<|t.2.M.map Prod.fst,isD<|.slice t.2.n.A (Acc.nm hL).length t.2.n.c,isD<|.map<|t.2.M.map Prod.snd],.r t.2.n.F<|yP 9 1 YM t.2.n.A t.2.n.c<|Acc.nm hL,.r t.2.F1<|Zc (t.2.M.map Prod.fst) Zi (Acc.nm hL)<|acD hL,.r t.2.F2<|Zc (t.2.M.map Prod.snd) Zy (Acc.seats hL)<|seD hL]) (fun t:Nat × Bst=>Yk [pA t.1,Zo [lsD Yz hL]]):=by
 refine yg Tryz.func11 k9 V k9 fun base w0=>(zp<|zf V (SWl.e2 (S:=[]) (zM (zs:=[.slice none 0 0]) k9 V) fun g1=>(zV<|za V (yq V V bldBk0) (SWl.e2 (S:=[]) (yv V V) fun g7=>(za V (yq V V bldRB0) (SWl.e2 (S:=[]) (zM (zs:=[.slice none 0 0]) k9 V) fun g3=>(zf V<|zt (S:=[_]) (zw 2 V V V k9 V<|m9 V)<|ze<|zk<|zp<|zf V<|ze<|zX<|zeJ 3<|zk<|zk<|Yf 9 1 YM<|zas Zi (acD [])<|zas Zy (seD [])<|zO (σ':=zN [(1,_),(2,_),(3,_),(4,_)] [.c g7 [isD<|.map<|(⟨none,[],[],⟨none,0,[]⟩⟩:Bst).M.map Prod.fst,isD<|.slice (⟨none,[],[],⟨none,0,[]⟩⟩:Bst).n.A (Acc.nm ([]:List Acc.T)).length (⟨none,[],[],⟨none,0,[]⟩⟩:Bst).n.c,isD<|.map<|(⟨none,[],[],⟨none,0,[]⟩⟩:Bst).M.map Prod.snd],.r (⟨none,[],[],⟨none,0,[]⟩⟩:Bst).n.F<|yP 9 1 YM (⟨none,[],[],⟨none,0,[]⟩⟩:Bst).n.A (⟨none,[],[],⟨none,0,[]⟩⟩:Bst).n.c<|Acc.nm ([]:List Acc.T),.r (⟨none,[],[],⟨none,0,[]⟩⟩:Bst).F1<|Zc ((⟨none,[],[],⟨none,0,[]⟩⟩:Bst).M.map Prod.fst) Zi (Acc.nm ([]:List Acc.T))<|acD ([]:List Acc.T),.r (⟨none,[],[],⟨none,0,[]⟩⟩:Bst).F2<|Zc ((⟨none,[],[],⟨none,0,[]⟩⟩:Bst).M.map Prod.snd) Zy (Acc.seats ([]:List Acc.T))<|seD ([]:List Acc.T),.c g1 [isD<|.slice none 0 0],.c g3 [lsD Yz ([]:List Acc.T)]]) (⟨⟨_,V,(sT V)⟩,[1,3,4,5,0,2],by decide,⟨la rfl,⟨lR rfl,⟨lR rfl,⟨lR rfl,⟨la rfl,⟨⟨_,rfl,le_rb0⟩,trivial⟩⟩⟩⟩⟩⟩⟩)<|zi<|zd V<|za V (yF V V)<|ze<|zW V d9<|zr<|zn<|zk ?_)))))))
 refine zX (zk<|Ys (fun σ=>∃ g5,σ=zN [(1,pA g1),(2,pA g7),(3,pA g3),(4,iD 0),(5,pA g5)] [.c g7 [isD<|.map<|(⟨none,[],[],⟨none,0,[]⟩⟩:Bst).M.map Prod.fst,isD<|.slice (⟨none,[],[],⟨none,0,[]⟩⟩:Bst).n.A (Acc.nm ([]:List Acc.T)).length (⟨none,[],[],⟨none,0,[]⟩⟩:Bst).n.c,isD<|.map<|(⟨none,[],[],⟨none,0,[]⟩⟩:Bst).M.map Prod.snd],.r (⟨none,[],[],⟨none,0,[]⟩⟩:Bst).n.F<|yP 9 1 YM (⟨none,[],[],⟨none,0,[]⟩⟩:Bst).n.A (⟨none,[],[],⟨none,0,[]⟩⟩:Bst).n.c<|Acc.nm ([]:List Acc.T),.r (⟨none,[],[],⟨none,0,[]⟩⟩:Bst).F1<|Zc ((⟨none,[],[],⟨none,0,[]⟩⟩:Bst).M.map Prod.fst) Zi (Acc.nm ([]:List Acc.T))<|acD ([]:List Acc.T),.r (⟨none,[],[],⟨none,0,[]⟩⟩:Bst).F2<|Zc ((⟨none,[],[],⟨none,0,[]⟩⟩:Bst).M.map Prod.snd) Zy (Acc.seats ([]:List Acc.T))<|seD ([]:List Acc.T),.c g1 [isD<|.slice none 0 0],.c g3 [lsD Yz ([]:List Acc.T)],.c g5 [yY hA.name,iD hA.role,bD hA.key,iD hA.dep,iD hA.num]]) ?_ ?_)
 ·refine yh [] (rr [1,4,5,6,8]<|.n 0 (.r 2<|.r 3<|.n 7 (.r 9<|.n 10 (.e 11 .fin .no) .no)<|.n 10 (.n 7 (.r 9<|.e 11 .fin .no) .no) .no)<|.n 10 (.n 0 (.r 2<|.r 3<|.n 7 (.r 9<|.e 11 .fin .no) .no) .no) .no) k9 k9 (fun d _ _ _ _ h=>by cases d <;> exact h) (zL V V<|zL V V<|zl V V (yC V V ⟨by decide,by decide⟩)<|zl V V ((Zu (Wl .i64 V k9 k9) (show Le _ (isD<|B8 8) from zF (by rfl))))<|zL V V<|ZP V (zY (YH) V t9 V) ?_ ?_)
  ·rintro _ rfl;refine zl V V (yp (e:=9) 1 V V k9 k9 d9 V) (zl V V (ya V V k9 s9)<|ZP V (zY (Y6 8 32 d9) V ⟨zb _,zb _,t9⟩ V) ?_ ?_)
   ·rintro _ rfl;refine zl V V ((yq V V<|Wa (n:=nmA) (r:=2) (m:=0))) (ZA V (EfB.alloc (zs:=[.string ⟨#[]⟩,.int .i64 0,.slice none 0 0,.int .i64 0,.int .i64 0]) k9 V) ?_ yf);rintro g5 _ rfl;exact yy V (zw 6 V V V k9 V<|mR _ mC) (yz<|yA ⟨g5,V⟩<|sB [0,1,2,3,4,5,6] V V)
   refine ZA V (EfB.alloc (zs:=[.string ⟨#[]⟩,.int .i64 0,.slice none 0 0,.int .i64 0,.int .i64 0]) k9 V) ?_ yf;rintro g5 _ rfl;exact yw V (zY (Y6 8 32 d9) V ⟨zb _,zb _,t9⟩ V) (zl V V ((yq V V<|Wa (n:=nmA) (r:=2) (m:=0)))<|yy V (zw 6 V V V k9 V<|mR _ mC)<|yz<|yA ⟨g5,V⟩<|sB [0,1,2,3,4,5,6] V V)
  refine ZA V (EfB.alloc (zs:=[.string ⟨#[]⟩,.int .i64 0,.slice none 0 0,.int .i64 0,.int .i64 0]) k9 V) ?_ yf;rintro g5 _ rfl;exact yw V (zY (YH) V t9 V) (zl V V (yp (e:=9) 1 V V k9 k9 d9 V)<|zl V V (ya V V k9<|Wx Kc<|zan (j:=6) V Kc)<|yw V (zY (Y6 8 32 d9) V ⟨zb _,zb _,t9⟩ V)<|zl V V ((yq V V<|Wa (n:=nmA) (r:=2) (m:=0)))<|yy V (zw 6 V V V k9 V<|mR _ mC)<|yz<|yA ⟨g5,V⟩<|sB [0,1,2,3,4,5,6] V V)
 ·rintro _ ⟨g5,rfl⟩;refine zn (zp<|zd V<|za V (zA 6 5 V V k9 V zh) (K8 24 V fun A24 c24=>(SWl.e2 (zC [0,1,2,3,7] (WI (gb:=g7) (s:=(⟨none,[],[],⟨none,0,[]⟩⟩:Bst)) (l:=([]:List Acc.T)) (a:=hA) (A:=A24) (c:=c24) (qg _ _ _ _ V) Acc.Fine.nil hAdd1) V ⟨zb _,zb _,t9⟩ d9 (sX V) (fun _ h=>h) V) fun s0=>(ze<|zO (σ':=zN [(1,_),(2,_),(3,_),(4,_),(5,_)] [_,_,_,_,_,_,_]) (sB [3,4,5,6,0,1,2] V V)<|zi<|za V (zA 5 1 V V k9 V zh)<|za V (zA 6 5 V V k9 V zh) (SWl.e2 (S:=[]) (zC [] (Vm Acc.Fine.nil hAdd1 s9) V ⟨zb _,zb _,t9⟩ d9 t9 (fun _ h=>h) V) fun _=>(zd V<|za V (zm V V)<|za V (zm V V)<|zt (S:=[_]) (zw 5 V V V k9 V<|m9 V)<|zP<|yc<|zn<|zO (σ':=zN [(1,_),(2,_),(3,_),(4,_)] [_,_,_,_,_,_]) (sB [0,1,2,3,4,5] V V)<|zi<|zd V<|za V (yC V V ⟨by decide,by decide⟩)<|zf V<|zP<|Kj<|zk<|zk<|zO (σ':=zN [(1,_),(2,_),(3,_),(4,iD 1)] [_,_,_,_,_,_]) (⟨⟨_,V,⟨lq V,⟨lq V,⟨lq V,⟨⟨_,V,zF (by rfl)⟩,t9⟩⟩⟩⟩⟩,[0,1,2,3,4,5],by decide,(sX rfl)⟩)<|zi<|zd V<|za V (yF V V)<|ze<|zW V d9<|zr<|zn<|zk ?_))))))
  refine zX (zk<|Ys (fun σ=>∃ g5,σ=zN [(1,pA g1),(2,pA g7),(3,pA g3),(4,iD 1),(5,pA g5)] [.c g7 [isD<|.map<|s0.M.map Prod.fst,isD<|.slice s0.n.A (Acc.nm ([hA]:List Acc.T)).length s0.n.c,isD<|.map<|s0.M.map Prod.snd],.r s0.n.F<|yP 9 1 YM s0.n.A s0.n.c<|Acc.nm ([hA]:List Acc.T),.r s0.F1<|Zc (s0.M.map Prod.fst) Zi (Acc.nm ([hA]:List Acc.T))<|acD ([hA]:List Acc.T),.r s0.F2<|Zc (s0.M.map Prod.snd) Zy (Acc.seats ([hA]:List Acc.T))<|seD ([hA]:List Acc.T),.c g1 [isD<|.slice none 0 0],.c g3 [lsD Yz ([hA]:List Acc.T)],.c g5 [yY hB.name,iD hB.role,bD hB.key,iD hB.dep,iD hB.num]]) ?_ ?_)
  ·refine yh [] (rr [1,4,5,6,8]<|.n 0 (.r 2<|.r 3<|.n 7 (.r 9<|.n 10 (.e 11 .fin .no) .no)<|.n 10 (.n 7 (.r 9<|.e 11 .fin .no) .no) .no)<|.n 10 (.n 0 (.r 2<|.r 3<|.n 7 (.r 9<|.e 11 .fin .no) .no) .no) .no) k9 k9 (fun d _ _ _ _ h=>by cases d <;> exact h) (zL V V<|zL V V<|zl V V (yC V V ⟨by decide,by decide⟩)<|zl V V ((Zu (Wl .i64 V k9 k9) (show Le _ (isD<|B8 9) from zF (by rfl))))<|zL V V<|ZP V (zY (YH) V t9 V) ?_ ?_)
   ·rintro _ rfl;refine zl V V (yp (e:=9) 1 V V k9 k9 d9 V) (zl V V (ya V V k9 s9)<|ZP V (zY (Y6 9 32 d9) V ⟨zb _,zb _,t9⟩ V) ?_ ?_)
    ·rintro _ rfl;refine zl V V ((yq V V<|Wa (n:=nmB) (r:=2) (m:=1))) (ZA V (EfB.alloc (zs:=[.string ⟨#[]⟩,.int .i64 0,.slice none 0 0,.int .i64 0,.int .i64 0]) k9 V) ?_ yf);rintro g5 _ rfl;exact yy V (zw 6 V V V k9 V<|mR _ mC) (yz<|yA ⟨g5,V⟩<|sB [0,1,2,3,4,5,6] V V)
    refine ZA V (EfB.alloc (zs:=[.string ⟨#[]⟩,.int .i64 0,.slice none 0 0,.int .i64 0,.int .i64 0]) k9 V) ?_ yf;rintro g5 _ rfl;exact yw V (zY (Y6 9 32 d9) V ⟨zb _,zb _,t9⟩ V) (zl V V ((yq V V<|Wa (n:=nmB) (r:=2) (m:=1)))<|yy V (zw 6 V V V k9 V<|mR _ mC)<|yz<|yA ⟨g5,V⟩<|sB [0,1,2,3,4,5,6] V V)
   refine ZA V (EfB.alloc (zs:=[.string ⟨#[]⟩,.int .i64 0,.slice none 0 0,.int .i64 0,.int .i64 0]) k9 V) ?_ yf;rintro g5 _ rfl;exact yw V (zY (YH) V t9 V) (zl V V (yp (e:=9) 1 V V k9 k9 d9 V)<|zl V V (ya V V k9<|Wx Kc<|zan (j:=6) V Kc)<|yw V (zY (Y6 9 32 d9) V ⟨zb _,zb _,t9⟩ V)<|zl V V ((yq V V<|Wa (n:=nmB) (r:=2) (m:=1)))<|yy V (zw 6 V V V k9 V<|mR _ mC)<|yz<|yA ⟨g5,V⟩<|sB [0,1,2,3,4,5,6] V V)
  ·rintro _ ⟨g5,rfl⟩;refine zn (zp<|zd V<|za V (zA 6 5 V V k9 V zh) (K8 24 V fun A24 c24=>(SWl.e2 (zC [0,1,2,3,7] (WI (gb:=g7) (s:=s0) (l:=([hA]:List Acc.T)) (a:=hB) (A:=A24) (c:=c24) (qg _ _ _ _ V) hFine1 hAdd2) V ⟨zb _,zb _,t9⟩ d9 (sX V) (fun _ h=>h) V) fun s1=>(ze<|zO (σ':=zN [(1,_),(2,_),(3,_),(4,_),(5,_)] [_,_,_,_,_,_,_]) (sB [3,4,5,6,0,1,2] V V)<|zi<|za V (zA 5 1 V V k9 V zh)<|za V (zA 6 5 V V k9 V zh) (SWl.e2 (S:=[]) (zC [] (Vm hFine1 hAdd2 s9) V ⟨zb _,zb _,t9⟩ d9 t9 (fun _ h=>h) V) fun _=>(zd V<|za V (zm V V)<|za V (zm V V)<|zt (S:=[_]) (zw 5 V V V k9 V<|m9 V)<|zP<|yc<|zn<|zO (σ':=zN [(1,_),(2,_),(3,_),(4,_)] [_,_,_,_,_,_]) (sB [0,1,2,3,4,5] V V)<|zi<|zd V<|za V (yC V V ⟨by decide,by decide⟩)<|zf V<|zP<|Kj<|zk<|zk<|zO (σ':=zN [(1,_),(2,_),(3,_),(4,iD 2)] [_,_,_,_,_,_]) (⟨⟨_,V,⟨lq V,⟨lq V,⟨lq V,⟨⟨_,V,zF (by rfl)⟩,t9⟩⟩⟩⟩⟩,[0,1,2,3,4,5],by decide,(sX rfl)⟩)<|zi<|zd V<|za V (yF V V)<|ze<|zW V d9<|zr<|zn<|zk ?_))))))
   refine zX (zk<|Ys (fun σ=>∃ g5,σ=zN [(1,pA g1),(2,pA g7),(3,pA g3),(4,iD 2),(5,pA g5)] [.c g7 [isD<|.map<|s1.M.map Prod.fst,isD<|.slice s1.n.A (Acc.nm ([hA,hB]:List Acc.T)).length s1.n.c,isD<|.map<|s1.M.map Prod.snd],.r s1.n.F<|yP 9 1 YM s1.n.A s1.n.c<|Acc.nm ([hA,hB]:List Acc.T),.r s1.F1<|Zc (s1.M.map Prod.fst) Zi (Acc.nm ([hA,hB]:List Acc.T))<|acD ([hA,hB]:List Acc.T),.r s1.F2<|Zc (s1.M.map Prod.snd) Zy (Acc.seats ([hA,hB]:List Acc.T))<|seD ([hA,hB]:List Acc.T),.c g1 [isD<|.slice none 0 0],.c g3 [lsD Yz ([hA,hB]:List Acc.T)],.c g5 [yY hC.name,iD hC.role,bD hC.key,iD hC.dep,iD hC.num]]) ?_ ?_)
   ·refine yh [] (rr [1,4,5,6,8]<|.n 0 (.r 2<|.r 3<|.n 7 (.r 9<|.n 10 (.e 11 .fin .no) .no)<|.n 10 (.n 7 (.r 9<|.e 11 .fin .no) .no) .no)<|.n 10 (.n 0 (.r 2<|.r 3<|.n 7 (.r 9<|.e 11 .fin .no) .no) .no) .no) k9 k9 (fun d _ _ _ _ h=>by cases d <;> exact h) (zL V V<|zL V V<|zl V V (yC V V ⟨by decide,by decide⟩)<|zl V V ((Zu (Wl .i64 V k9 k9) (show Le _ (isD<|B8 10) from zF (by rfl))))<|zL V V<|ZP V (zY (YH) V t9 V) ?_ ?_)
    ·rintro _ rfl;refine zl V V (yp (e:=9) 1 V V k9 k9 d9 V) (zl V V (ya V V k9 s9)<|ZP V (zY (Y6 10 32 d9) V ⟨zb _,zb _,t9⟩ V) ?_ ?_)
     ·rintro _ rfl;refine zl V V ((yq V V<|Wa (n:=nmC) (r:=2) (m:=2))) (ZA V (EfB.alloc (zs:=[.string ⟨#[]⟩,.int .i64 0,.slice none 0 0,.int .i64 0,.int .i64 0]) k9 V) ?_ yf);rintro g5 _ rfl;exact yy V (zw 6 V V V k9 V<|mR _ mC) (yz<|yA ⟨g5,V⟩<|sB [0,1,2,3,4,5,6] V V)
     refine ZA V (EfB.alloc (zs:=[.string ⟨#[]⟩,.int .i64 0,.slice none 0 0,.int .i64 0,.int .i64 0]) k9 V) ?_ yf;rintro g5 _ rfl;exact yw V (zY (Y6 10 32 d9) V ⟨zb _,zb _,t9⟩ V) (zl V V ((yq V V<|Wa (n:=nmC) (r:=2) (m:=2)))<|yy V (zw 6 V V V k9 V<|mR _ mC)<|yz<|yA ⟨g5,V⟩<|sB [0,1,2,3,4,5,6] V V)
    refine ZA V (EfB.alloc (zs:=[.string ⟨#[]⟩,.int .i64 0,.slice none 0 0,.int .i64 0,.int .i64 0]) k9 V) ?_ yf;rintro g5 _ rfl;exact yw V (zY (YH) V t9 V) (zl V V (yp (e:=9) 1 V V k9 k9 d9 V)<|zl V V (ya V V k9<|Wx Kc<|zan (j:=6) V Kc)<|yw V (zY (Y6 10 32 d9) V ⟨zb _,zb _,t9⟩ V)<|zl V V ((yq V V<|Wa (n:=nmC) (r:=2) (m:=2)))<|yy V (zw 6 V V V k9 V<|mR _ mC)<|yz<|yA ⟨g5,V⟩<|sB [0,1,2,3,4,5,6] V V)
   ·rintro _ ⟨g5,rfl⟩;refine zn (zp<|zd V<|za V (zA 6 5 V V k9 V zh) (K8 24 V fun A24 c24=>(SWl.e2 (zC [0,1,2,3,7] (WI (gb:=g7) (s:=s1) (l:=([hA,hB]:List Acc.T)) (a:=hC) (A:=A24) (c:=c24) (qg _ _ _ _ V) hFine2 hAdd3) V ⟨zb _,zb _,t9⟩ d9 (sX V) (fun _ h=>h) V) fun s2=>(ze<|zO (σ':=zN [(1,_),(2,_),(3,_),(4,_),(5,_)] [_,_,_,_,_,_,_]) (sB [3,4,5,6,0,1,2] V V)<|zi<|za V (zA 5 1 V V k9 V zh)<|za V (zA 6 5 V V k9 V zh) (SWl.e2 (S:=[]) (zC [] (Vm hFine2 hAdd3 s9) V ⟨zb _,zb _,t9⟩ d9 t9 (fun _ h=>h) V) fun _=>(zd V<|za V (zm V V)<|za V (zm V V)<|zt (S:=[_]) (zw 5 V V V k9 V<|m9 V)<|zP<|yc<|zn<|zO (σ':=zN [(1,_),(2,_),(3,_),(4,_)] [_,_,_,_,_,_]) (sB [0,1,2,3,4,5] V V)<|zi<|zd V<|za V (yC V V ⟨by decide,by decide⟩)<|zf V<|zP<|Kj<|zk<|zk<|zO (σ':=zN [(1,_),(2,_),(3,_),(4,iD 3)] [_,_,_,_,_,_]) (⟨⟨_,V,⟨lq V,⟨lq V,⟨lq V,⟨⟨_,V,zF (by rfl)⟩,t9⟩⟩⟩⟩⟩,[0,1,2,3,4,5],by decide,(sX rfl)⟩)<|zi<|zd V<|za V (yF V V)<|ze<|zE V d9<|yZ ?_))))))
    repeat (first | refine Ze ?_ | refine Zf d9 ?_)
    refine Zn (zn<|zk<|zO (σ':=zN [(1,_),(2,_),(3,_)] [_,_,_,_,_,_]) (sB [0,1,2,3,4,5] V V)<|yh (g1 :: []) (rr [0,1,2]<|.e 3 .fin .no) k9 k9 (fun d _ _ _ _ h=>by cases d <;> exact h)<|zL V V<|zl V V (zA 5 1 V V k9 V<|yK 4 V d9 zh)<|Zh V V<|yy V (zw 4 V V V k9 V mC)<|yI<|zQ (fn:=Tryz.f11) ((g7,s2)) [0,1,2,3] (fun _ _ h=>h) (Rs.le (ym V (zj V)<|zS 4 V V k9) ?_) d9<|sX V)
    exact zb _
