/- ROUNDS: the law's do. ACCOUNTS: the shelf's Delete at this program. ACCOUNTS: Remove. ROUNDS: RoundsPlays. -/
import Derived.Test.YtgokpcnabgacnaaGreatDoorGZBO
set_option maxHeartbeats 8000000
set_option maxRecDepth 100000
namespace Go.Proofs.YtgokpcnabgacnaaGreatDoor
open Go.RowKit
namespace Sx
section
def Rnd.doS (s:Rnd.S) (x:Ac):Rnd.S:=
 if x.what=2 then Rnd.revS s x.rnd (ZF x.key) x.now else if x.what=3 then Rnd.recS s x.ser x.bid else if x.what=4 then s else Rnd.subS s (YO hL x x.bid) x.now
theorem Rnd.Good.doS {s:Rnd.S} (h:Rnd.Good s) (x:Ac):Rnd.Good (Rnd.doS s x):=by
 unfold Rnd.doS
 split
 ·exact h.rev _ _ _
 ·split
  ·exact h.recd _ _
  ·split
   ·exact h
   ·exact h.sub _ _
theorem Rnd.Sz.doS {s:Rnd.S} (h:Rnd.Sz s) (x:Ac):Rnd.Sz (Rnd.doS s x):=by
 unfold Rnd.doS
 split
 ·exact Rnd.Sz.rev h _ _ _
 ·split
  ·exact Rnd.Sz.recd h _ _
  ·split
   ·exact h
   ·exact Rnd.Sz.sub h _ _
theorem mkE_len {a:Ac} (h:a.short):(YO hL a a.bid).box.length≤1000000∧(YO hL a a.bid).tag.length≤1000000:=by
 have h0:=h.1;have h1:=h.2.2.1;have h2:=h.2.2.2
 rcases zgg a a.bid with ⟨_,e⟩ | ⟨_,e⟩ | ⟨_,_,e⟩ | ⟨_,x,t,r,hp,hx,_,hl,e⟩ <;> rw [e]
 ·exact ⟨by omega,by omega⟩
 ·obtain ⟨x,hx⟩:=zik a.who
  by_cases hp:zgG a a.bid=0
  ·have hs:qw hL a a.bid=_:=sld_ok hp hx;have hz:=zil jp hp hx;rw [hs];refine ⟨?_,?_⟩
   ·have h3:(Kl (Zs a.who) a.ser (ZF a.key) a.bid).length=a.bid.length + 32:=hz.2.1;show (Kl (Zs a.who) a.ser (ZF a.key) a.bid).length≤_;omega
   ·show (jy hL (Zs a.who) a.rnd a.ser (ZF a.key) a.bid).length≤_;unfold jy;rw [(YW hx (by unfold Kl;have:=hz.2.2;omega)).1];simp
  ·have hz:qw hL a a.bid=Env.zero:=(ziA hp).2;rw [hz];exact ⟨JC _,JC _⟩
 ·exact ⟨JC _,JC _⟩
 ·have hz:=zil jp hp hx;have h3:(Kl (Zs a.who) a.ser (ZF a.key) a.bid).length=a.bid.length + 32:=hz.2.1;refine ⟨?_,?_⟩
  ·show (Kl (Zs a.who) a.ser (ZF a.key) a.bid).length≤_;omega
  ·show ((t + 1) :: r).length≤_;simp only [Xm] at hl ⊢;omega
theorem con_do (gb gr:Nat) (Fb F:LN) (s:Rnd.S) (x:Ac) (hg:Rnd.Good s) (hz:Rnd.Sz s) (hsx:x.short):ConR Tryz.prog 20 [.r Fb<|bkP gb hL,.r F<|Yj gr s] [pA gb,pA gr,Zo [lsD Yz s.bk,lsD YB s.ws,lsD yX s.es,lsD Z8 s.ks,iD s.ck,lsD encE s.en],Zo [iD x.what,iD x.who,iD x.rnd,iD x.ser,iD x.key,iD x.now,bD x.bid,yY x.e.acc,iD x.e.rnd,iD x.e.ser,bD x.e.box,bD x.e.tag]] (fun q:LN × Nat × LN=>[.r q.1<|bkP gb hL,.r q.2.2<|Yj q.2.1<|Rnd.doS s x]) (fun q:LN × Nat × LN=>Yk [pA q.2.1,Zo [lsD Yz (Rnd.doS s x).bk,lsD YB (Rnd.doS s x).ws,lsD yX (Rnd.doS s x).es,lsD Z8 (Rnd.doS s x).ks,iD (Rnd.doS s x).ck,lsD encE (Rnd.doS s x).en],yj true]):=by
 have henl:=hg.len;refine yg Tryz.func20 k9 V k9 fun base w0=>(zp (SWl.e2 (S:=[]) (yv V V) fun g6=>(SWl.e2 (S:=[]) (yv V V) fun g7=>(zf V (SWl.e2 (S:=[]) (zM (zs:=[.slice none 0 0,.slice none 0 0,.slice none 0 0,.slice none 0 0,.int .i64 0,.slice none 0 0]) k9 V) fun g9=>(zf V<|ze<|zk<|zp<|za V (zc (n:=0) V k9)<|za V (zg 3 V V V k9 zh)<|ze<|zX<|zp<|za V (yM V V)<|zf V<|ze<|zJ V (fun hb27=> ?_) (fun hb27=> ?_)))))))
 ·have h27:x.what=2:=(by simpa using hb27);have hd:Rnd.doS s x=(Rnd.revS s x.rnd (ZF x.key) x.now):=(by unfold Rnd.doS;rw [Jh h27]);refine zk (Ys (fun σ=>∃ g11,σ=zN [(0,pA gb),(1,pA gr),(6,pA g6),(7,pA g7),(9,pA g9),(11,pA g11),(12,iD<|Rnd.revE s x.rnd (ZF x.key) x.now)] [.c g6 [lsD Yz s.bk,lsD YB s.ws,lsD yX s.es,lsD Z8 s.ks,iD s.ck,lsD encE s.en],.c g7 [iD x.what,iD x.who,iD x.rnd,iD x.ser,iD x.key,iD x.now,bD x.bid,yY x.e.acc,iD x.e.rnd,iD x.e.ser,bD x.e.box,bD x.e.tag],.c g9 [isD<|.slice none 0 0,isD<|.slice none 0 0,isD<|.slice none 0 0,isD<|.slice none 0 0,iD 0,isD<|.slice none 0 0],.r Fb<|bkP gb hL,.r F<|Yj gr s,.c g11 [lsD Yz (Rnd.revS s x.rnd (ZF x.key) x.now).bk,lsD YB (Rnd.revS s x.rnd (ZF x.key) x.now).ws,lsD yX (Rnd.revS s x.rnd (ZF x.key) x.now).es,lsD Z8 (Rnd.revS s x.rnd (ZF x.key) x.now).ks,iD (Rnd.revS s x.rnd (ZF x.key) x.now).ck,lsD encE (Rnd.revS s x.rnd (ZF x.key) x.now).en]]) ?_ ?_)
  ·refine yh [] (rr [0,1,2,3,4,6,7]<|.n 5 (.n 8 (rr [9,10,11]<|.n 12 (.e 13 (.r 14 .fin) .no) .no)<|.n 12 (.n 8 (rr [9,10,11]<|.e 13 (.r 14 .fin) .no) .no) .no)<|.n 12 (.n 5 (.n 8 (rr [9,10,11]<|.e 13 (.r 14 .fin) .no) .no) .no) .no) k9 k9 (fun d _ _ _ _ h=>by cases d <;> exact h) (zl V V (zA 2 6 V V k9 V zh)<|zl V V (zc (n:=2) V k9)<|zl V V (zg 3 V V V k9 zh)<|zl V V (zc (n:=4) V k9)<|zl V V (zg 3 V V V k9 zh)<|zl V V (zc (n:=5) V k9)<|zl V V (zg 3 V V V k9 zh)<|ZP V (zY (qa x.key) V ⟨zb _,t9⟩ V) ?_ ?_)
   ·rintro _ rfl;refine ZG V (Zb (WY s x.rnd (ZF x.key) x.now hg (by rw [zh9];decide)) V ⟨zb _,zb _,zb _,zb _,t9⟩ V) ?_ ?_
    ·rintro _ _ ⟨⟨⟩,rfl,rfl⟩;refine zL V V (zl V V (zm V V)<|zl V V (zm V V)<|ZA V (EfB.alloc (zs:=[.slice none 0 0,.slice none 0 0,.slice none 0 0,.slice none 0 0,.int .i64 0,.slice none 0 0]) k9 V) ?_ yf);rintro g11 _ rfl;exact yy V (zw 5 V V V k9 V<|mR _ mC) (Zh V V<|yz<|yA ⟨g11,V⟩<|sB [2,3,4,0,1,5] V V)
    refine ZA V (EfB.alloc (zs:=[.slice none 0 0,.slice none 0 0,.slice none 0 0,.slice none 0 0,.int .i64 0,.slice none 0 0]) k9 V) ?_ yf;rintro g11 _ rfl;refine ZG V (Zb (WY s x.rnd (ZF x.key) x.now hg (by rw [zh9];decide)) V ⟨zb _,zb _,zb _,zb _,t9⟩ V) ?_ yf;rintro _ _ ⟨⟨⟩,rfl,rfl⟩;exact zL V V (zl V V (zm V V)<|zl V V (zm V V)<|yy V (zw 5 V V V k9 V<|mL _<|mR _ mC)<|Zh V V<|yz<|yA ⟨g11,V⟩<|sB [2,3,4,0,1,5] V V)
   refine ZA V (EfB.alloc (zs:=[.slice none 0 0,.slice none 0 0,.slice none 0 0,.slice none 0 0,.int .i64 0,.slice none 0 0]) k9 V) ?_ yf;rintro g11 _ rfl;refine yw V (zY (qa x.key) V ⟨zb _,t9⟩ V) (ZG V (Zb (WY s x.rnd (ZF x.key) x.now hg (by rw [zh9];decide)) V ⟨zb _,zb _,zb _,zb _,t9⟩ V) ?_ yf);rintro _ _ ⟨⟨⟩,rfl,rfl⟩;exact zL V V (zl V V (zm V V)<|zl V V (zm V V)<|yy V (zw 5 V V V k9 V<|mL _<|mR _ mC)<|Zh V V<|yz<|yA ⟨g11,V⟩<|sB [2,3,4,0,1,5] V V)
  ·rintro _ ⟨g11,rfl⟩
   refine zn (zk<|yh (F ++ (g9 :: [])) (rr [0,1,2,3,4,5,6,8,9,11]<|.n 7 (.e 10 (.r 12<|.r 13<|.e 14 (.r 15 .fin) .no) .no) .no) k9 k9 (fun d _ _ _ _ h=>by cases d <;> exact h)<|zL V V<|zl V V (zA 5 6 V V k9 V<|yB 4 V d9<|yK 2 V d9 zh)<|zL V V<|zl V V (zc (n:=2) V k9)<|zl V V (zg 1 V V V k9<|yB 4 V d9<|yK 2 V d9 zh)<|zl V V (zc (n:=4) V k9)<|zl V V (zg 1 V V V k9<|yB 4 V d9<|yK 2 V d9 zh)<|zl V V (zc (n:=5) V k9)<|zl V V (zg 1 V V V k9<|yB 4 V d9<|yK 2 V d9 zh)<|zL V V<|yw V (zY (qa x.key) V ⟨zb _,t9⟩ V)<|yW V (zC [4] (zcx gr F s x.rnd (ZF x.key) x.now hg (by rw [zh9];decide)) V ⟨zb _,zb _,zb _,zb _,t9⟩ d9 ⟨lR V,t9⟩ (Vf (fun _ h=>mL _ h) Z3) V) ?_ yf)
   rintro _ ⟨F51,rfl⟩;refine zl V V (yM V V) (Zh V V<|yy V (zw 2 V V V k9 V<|mR _ mC)<|Zh V V<|yI<|zQ (fn:=Tryz.f20) ((Fb,gr,F51)) [3,5] (fun _ _ h=>h) (Rs.le (ZR V (zj V) (zS 2 V V k9)<|zj V) ?_) d9 ⟨lR V,⟨⟨_,V,(by rw [hd];exact yu _)⟩,t9⟩⟩);exact yn ⟨zb _,(by rw [hd];exact zb _),zF s9,t9⟩
 ·have h27:¬x.what=2:=(by simpa using hb27);refine zp (za V (yM V V)<|zf V<|ze<|zJ V (fun hb54=> ?_) (fun hb54=> ?_))
  ·have h54:x.what=3:=(by simpa using hb54);have hd:Rnd.doS s x=(Rnd.recS s x.ser x.bid):=(by unfold Rnd.doS;rw [Jb h27,Jh h54])
   refine zp (za V (zA 2 6 V V k9 V zh)<|za V (zc (n:=3) V k9)<|za V (zg 3 V V V k9 zh)<|za V (zc (n:=6) V k9)<|za V (zg 3 V V V k9 zh)<|zt (S:=[]) (zY (WZ s x.ser x.bid hg.len (by have:=hsx.1;omega)) V ⟨zb _,zb _,zb _,t9⟩ V)<|zd V<|za V (zm V V)<|za V (zm V V)<|za V (zm V V) (SWl.e2 (S:=[]) (zM (zs:=[.slice none 0 0,.slice none 0 0,.slice none 0 0,.slice none 0 0,.int .i64 0,.slice none 0 0]) k9 V) fun g13=>(zt (S:=[_]) (zw 5 V V V k9 V<|m9 V)<|zf V<|zf V<|ze<|zk<|yh (F ++ []) (rr [0,1,2,3,4]<|.n 5 (.e 6 (rr [7,8,9,10,11] .fin) .no) .no) k9 k9 (fun d _ _ _ _ h=>by cases d <;> exact h)<|zL V V<|zl V V (zc (n:=3) V k9)<|zl V V (zg 3 V V V k9<|yB 1 V d9 zh)<|zl V V (zc (n:=6) V k9)<|zl V V (zg 3 V V V k9<|yB 1 V d9 zh)<|ZG V (zii (e:=5) 1 1 V (SrcT.b V) k9 k9 (by have:=hsx.1;omega) d9 V) ?_ yf)))
   rintro _ _ ⟨F72,A72,c72,rfl,rfl⟩;refine YU 6 72 V V (Yc _) (yW V (zC [1] (zhj gr F s x.ser x.bid hg (by have:=hsx.1;omega)) V ⟨zb _,zb _,zb _,t9⟩ d9 ⟨lR V,t9⟩ (Vf (fun _ h=>mL _<|mL _ h) Z3) V) ?_ yf);rintro _ ⟨F73,rfl⟩
   refine zL V V (zl V V (zm V V)<|zl V V (zm V V)<|Zh V V<|Zh V V<|yI<|zk<|yh (g9 :: []) (rr [0,1,2,3,4,5,6,7,8,9,10]<|.e 11 (.r 12 .fin) .no) k9 k9 (fun d _ _ _ _ h=>by cases d <;> exact h)<|zL V V<|zl V V (zA 4 6 V V k9 V<|yK 3 V d9 zh)<|zL V V<|zL V V<|zl V V (yM V V)<|zL V V<|zG V V V s9 V V (zI V)<|zG V V V s9 V V (zI V)<|zG V V V s9 V V (yM V V)<|zl V V (zB V s9 V)<|Zh V V<|yy V (zw 3 V V V k9 V mC)<|Zh V V<|yI<|zQ (fn:=Tryz.f20) ((Fb,gr,F73)) [0,5] (fun _ _ h=>h) (Rs.le (ZR V (zj V) (zS 3 V V k9)<|zj V) ?_) d9 ⟨lR V,⟨⟨_,V,(by rw [hd];exact yu _)⟩,t9⟩⟩)
   exact yn ⟨zb _,(by rw [hd];exact zb _),zF s9,t9⟩
  ·have h54:¬x.what=3:=(by simpa using hb54);refine zp (za V (yM V V)<|zf V<|ze<|zJ V (fun hb86=> ?_) (fun hb86=> ?_))
   ·have h86:x.what=4:=(by simpa using hb86);have hd:Rnd.doS s x=s:=(by unfold Rnd.doS;rw [Jb h27,Jb h54,Jh h86]);refine zp (zd V<|YJ (zC [1] (ziv gr F s hg) V ⟨zb _,t9⟩ d9 ⟨lR V,t9⟩ (fun _ h=>h) V) ?_);rintro _ ⟨⟨F89,gc,H89⟩,rfl⟩
    refine zf V (zV<|zd V (SWl.e2 (zC [4] (zhj gr F89 s 77 [] hg d9) V ⟨zb _,zb _,Zz,t9⟩ d9 ⟨lR V,t9⟩ (fun _ h=>h) V) fun F91=>(zV<|zd V<|zd V<|zt (S:=[]) (zY (qa 0) V ⟨zb _,t9⟩ V) (SWl.e2 (zC [0] (Yq nmB 0 1000 (ZF 0) [] jp) V ⟨zb _,zb _,zb _,zb _,zb _,Zz,t9⟩ d9 ⟨lR V,t9⟩ (fun _ h=>h) V) fun F95=>(zd V (SWl.e2 (zC [4] (zio gr F91<|Rnd.recS s 77 []) V ⟨zb _,t9⟩ d9 ⟨lR V,t9⟩ (fun _ h=>h) V) fun F97=>(za V (Rd.maxI V V) (SWl.e2 (zC [5] (zcu gr F97 (Rnd.recS s 77 []) (Rnd.sld hL nmB 0 1000 (ZF 0) []) _<|hg.recd 77 []) V ⟨zb _,zb _,zb _,t9⟩ d9 ⟨lR V,t9⟩ (fun _ h=>h) V) fun F99=>(ze<|zk<|yh (g9 :: []) (rr [0,1,2,3,4]<|.e 5 (.r 6 .fin) .no) k9 k9 (fun d _ _ _ _ h=>by cases d <;> exact h)<|zL V V<|zl V V (zA 0 6 V V k9 V<|yK 2 V d9 zh)<|zL V V<|zl V V (zcJ V V k9)<|Zh V V<|yy V (zw 2 V V V k9 V mC)<|Zh V V<|yI<|zQ (fn:=Tryz.f20) ((F95,gc,H89)) [4,3] (fun _ _ h=>h) (Rs.le (ZR V (zj V) (zS 2 V V k9)<|zj V) ?_) d9 ⟨lR V,⟨⟨_,V,(by rw [hd];exact yu _)⟩,t9⟩⟩)))))))))
    exact yn ⟨zb _,(by rw [hd];exact zb _),zF s9,t9⟩
   ·have h86:¬x.what=4:=(by simpa using hb86);have hd:Rnd.doS s x=Rnd.subS s (YO hL x x.bid) x.now:=(by unfold Rnd.doS;rw [Jb h27,Jb h54,Jb h86]);refine zr (yc<|zn<|zk ?_);obtain ⟨e,he⟩:∃ e,e=YO hL x x.bid:=⟨_,rfl⟩
    have hel:e.box.length≤1000000∧e.tag.length≤1000000:=by rw [he];exact mkE_len hsx
    refine zi (zd V<|za V (zA 3 12 V V k9 V zh)<|za V (zc (n:=6) V k9)<|za V (zg 3 V V V k9 zh) (SWl.e2 (zC [0] (con_made gb Fb x x.bid) V ⟨zb _,zb _,zb _,t9⟩ d9 ⟨lR V,t9⟩ (fun _ h=>h) V) fun F108=>(SWl.e2 (S:=[]) (zM (zs:=[.string ⟨#[]⟩,.int .i64 0,.int .i64 0,.slice none 0 0,.slice none 0 0]) k9 V) fun g19=>(zt (S:=[_]) (zw 5 V V V k9 V<|m9 V)<|ze<|zk<|zO (σ':=zN [(0,_),(1,_),(6,_),(7,_),(9,_),(19,_)] [.c g6 [lsD Yz s.bk,lsD YB s.ws,lsD yX s.es,lsD Z8 s.ks,iD s.ck,lsD encE s.en],.c g7 [iD x.what,iD x.who,iD x.rnd,iD x.ser,iD x.key,iD x.now,bD x.bid,yY x.e.acc,iD x.e.rnd,iD x.e.ser,bD x.e.box,bD x.e.tag],.c g9 [isD<|.slice none 0 0,isD<|.slice none 0 0,isD<|.slice none 0 0,isD<|.slice none 0 0,iD 0,isD<|.slice none 0 0],.r F108<|bkP gb hL,.r F<|Yj gr s,.c g19 [yY e.acc,iD e.rnd,iD e.ser,bD e.box,bD e.tag]]) (⟨⟨_,V,(sT V)⟩,[1,2,3,4,0,5],by decide,⟨la rfl,⟨la rfl,⟨la rfl,⟨lR rfl,⟨lR rfl,⟨⟨_,rfl,(by rw [he];exact yl _)⟩,trivial⟩⟩⟩⟩⟩⟩⟩)<|zi<|za V (zA 5 5 V V k9 V zh) (SWl.e2 (S:=[]) (zM (zs:=[.string ⟨#[]⟩,.int .i64 0,.int .i64 0,.slice none 0 0,.slice none 0 0]) k9 V) fun g20=>(zt (S:=[_]) (zw 6 V V V k9 V<|m9 V)<|ze<|zk<|yh (g20 :: []) (rr [0,1,3,4]<|.n 2 (.r 6<|.n 5 (.e 7 (.r 8<|.e 9 .fin .no) .no) .no) .no) k9 k9 (fun d _ _ _ _ h=>by cases d <;> exact h)<|zl V V (zc (n:=3) V k9)<|zl V V (zg 5 V V V k9<|yK 6 V d9 zh)<|zl V V (zc (n:=4) V k9)<|zl V V (zg 5 V V V k9<|yK 6 V d9 zh)<|ZG V (zii (e:=5) 1 1 V (SrcT.b V) k9 k9 o9 d9 V) ?_ yf))))))
    rintro _ _ ⟨F112,A112,c112,rfl,rfl⟩;refine zl V V (zc (n:=3) V k9) (ZG V (zii (e:=5) 1 1 V (SrcT.b V) k9 k9 o9 d9 V) ?_ yf);rintro _ _ ⟨F115,A115,c115,rfl,rfl⟩;refine yy V (zR 6 V V V k9 V<|mL _<|mL _ mC) (zl V V (zc (n:=4) V k9)<|yy V (zR 6 V V V k9 V<|mL _<|mL _ mC)<|yI<|zk<|ql 6 4 8 V V V<|zO (σ':=zN [(0,_),(1,_),(6,_),(7,_),(9,_),(19,_),(20,_)] [.c g6 [lsD Yz s.bk,lsD YB s.ws,lsD yX s.es,lsD Z8 s.ks,iD s.ck,lsD encE s.en],.c g7 [iD x.what,iD x.who,iD x.rnd,iD x.ser,iD x.key,iD x.now,bD x.bid,yY x.e.acc,iD x.e.rnd,iD x.e.ser,bD x.e.box,bD x.e.tag],.c g9 [isD<|.slice none 0 0,isD<|.slice none 0 0,isD<|.slice none 0 0,isD<|.slice none 0 0,iD 0,isD<|.slice none 0 0],.r F108<|bkP gb hL,.r F<|Yj gr s,.c g19 [yY e.acc,iD e.rnd,iD e.ser,bD e.box,bD e.tag],.c g20 [yY e.acc,iD e.rnd,iD e.ser,isD<|.slice A112 e.box.length c112,bD e.tag],.r F112<|yP 5 1 Yt A112 c112 e.box]) (⟨⟨_,V,(sT V)⟩,[0,1,2,3,4,5,6,7],by decide,⟨la rfl,⟨la rfl,⟨la rfl,⟨lR rfl,⟨lR rfl,⟨la rfl,⟨⟨_,rfl,⟨zb _,zb _,zb _,zb _,(Yc _),trivial⟩⟩,⟨lR rfl,trivial⟩⟩⟩⟩⟩⟩⟩⟩⟩)<|zi<|zd V<|za V (zA 6 5 V V k9 V zh)<|za V (zc (n:=5) V k9)<|za V (zg 1 V V V k9 zh) (SWl.e2 (zC [7,4] (zir gr F s e x.now hg F112 A112 c112) V ⟨zb _,zb _,zb _,t9⟩ d9 (sX V) (fun _ h=>h) V) fun F122=>(zf V<|ze<|zk<|zp<|zf V<|ze<|zX<|Zw (ι:={p:Nat × LB // p.1≤p.2.length∧p.2.length=e.box.length}) (fun p=>zN [(0,pA gb),(1,pA gr),(6,pA g6),(7,pA g7),(9,pA g9),(19,pA g19),(20,pA g20),(21,iD<|Rnd.subE s e x.now),(22,iD (p.1.1:Int))] [.c g6 [lsD Yz s.bk,lsD YB s.ws,lsD yX s.es,lsD Z8 s.ks,iD s.ck,lsD encE s.en],.c g7 [iD x.what,iD x.who,iD x.rnd,iD x.ser,iD x.key,iD x.now,bD x.bid,yY x.e.acc,iD x.e.rnd,iD x.e.ser,bD x.e.box,bD x.e.tag],.c g9 [isD<|.slice none 0 0,isD<|.slice none 0 0,isD<|.slice none 0 0,isD<|.slice none 0 0,iD 0,isD<|.slice none 0 0],.r F108<|bkP gb hL,.r F122<|Yj gr<|Rnd.subS s e x.now,.c g19 [yY e.acc,iD e.rnd,iD e.ser,bD e.box,bD e.tag],.c g20 [yY e.acc,iD e.rnd,iD e.ser,isD<|.slice A112 p.1.2.length c112,bD e.tag],.r F112<|yP 5 1 Yt A112 c112 p.1.2]) (fun p=>e.box.length - p.1.1) (⟨(0,e.box),JC _,V⟩) ?_ ?_)))
    ·exact (sB [0,1,2,3,7,4,5,6] V V)
    ·rintro ⟨⟨i,b⟩,hi,hbl⟩ K0 hK0;dsimp only at hi hbl ⊢;refine zk (zp<|zd V<|za V (zc (n:=3) V k9)<|za V (zg 6 V V V k9 zh)<|za V (Y7 (e:=5) V k9)<|za V (yF V V)<|ze<|zJ V (fun hb127=> ?_) (fun hb127=> ?_))
     ·have h127:=oT hb127;refine zr (zn<|zk<|zX ?_);obtain ⟨y,hy⟩:∃ y,b[i]? =some y:=⟨_,List.getElem?_eq_getElem o9⟩;exact zi (za V (zc (n:=3) V k9)<|za V (zg 6 V V V k9 zh)<|zd V<|za V (jG 7 1 V V V k9 k9 o9 o9)<|za V (qI 7 V V k9 hy V zh)<|za V (zfY V V<|u8_inc y)<|za V (jG 7 1 V V V k9 k9 o9 o9)<|zt (S:=_) (zcK (v:=(y + 1)) 7 V V V V k9 o9 (fun _ h=>h))<|zP<|yc<|zn<|zi<|zd V<|za V (yC V V ⟨by omega,by omega⟩)<|zf V<|zP (fun a w hh=>hK0 (⟨(i + 1,b.set i<|y + 1),by dsimp only;rw [List.length_set];omega,by dsimp only;rw [List.length_set];exact hbl⟩) (by dsimp only;omega) a w<|hh.sub<|⟨⟨_,V,⟨lq V,⟨lq V,⟨lq V,⟨lq V,⟨lq V,⟨lq V,⟨lq V,⟨lq V,⟨⟨_,V,zF s9⟩,t9⟩⟩⟩⟩⟩⟩⟩⟩⟩⟩,[0,1,2,3,4,5,6,7],by decide,⟨la rfl,⟨la rfl,⟨la rfl,⟨lR rfl,⟨lR rfl,⟨la rfl,⟨⟨_,rfl,⟨zb _,zb _,zb _,zF s9,zb _,trivial⟩⟩,⟨lR rfl,trivial⟩⟩⟩⟩⟩⟩⟩⟩⟩))
     ·have h127:=oF hb127;refine yZ ?_
      repeat (first | refine Ze ?_ | refine Zf d9 ?_)
      refine Zn (zn<|zk<|zO (σ':=zN [(0,_),(1,_),(6,_),(7,_),(9,_),(19,_),(21,_)] [_,_,_,_,_,_]) (sB [0,1,2,3,4,5] V V)<|zi<|za V (zA 0 6 V V k9 V zh)<|za V (zA 5 5 V V k9 V zh)<|za V (zc (n:=5) V k9)<|za V (zg 1 V V V k9 zh) (SWl.e2 (S:=[]) (zC [] (KM s e x.now hg (by have:=hz.es;omega) (by rw [he];exact mkE_acc hsx _)) V ⟨zb _,zb _,zb _,t9⟩ d9 t9 (fun _ h=>h) V) fun _=>(zd V<|za V (zm V V)<|za V (zm V V) (SWl.e2 (S:=[]) (zM (zs:=[.slice none 0 0,.slice none 0 0,.slice none 0 0,.slice none 0 0,.int .i64 0,.slice none 0 0]) k9 V) fun g23=>(zt (S:=[_]) (zw 6 V V V k9 V<|m9 V)<|zf V<|ze<|zk<|yh (g9 :: []) (rr [0,1,2,3,4,5]<|.e 6 (.r 7 .fin) .no) k9 k9 (fun d _ _ _ _ h=>by cases d <;> exact h)<|zL V V<|zl V V (zA 6 6 V V k9 V<|yK 2 V d9 zh)<|zL V V<|zL V V<|zl V V (yM V V)<|Zh V V<|yy V (zw 2 V V V k9 V mC)<|Zh V V<|yI<|zQ (fn:=Tryz.f20) ((F108,gr,F122)) [3,4] (fun _ _ h=>h) (Rs.le (ZR V (zj V) (zS 2 V V k9)<|zj V) ?_) d9 ⟨lR V,⟨⟨_,V,(by rw [hd,← he];exact yu _)⟩,t9⟩⟩)))))
      exact yn ⟨zb _,(by rw [hd,← he];exact zb _),zF s9,t9⟩
end
section
def renNd:Go.Shelf.Ren:=⟨fun | 17=>223 | 22=>161 | 24=>78 | 26=>77 | 29=>188 | 30=>189 | 33=>136 | 34=>137 | 36=>213 | 38=>171 | n=>n,
 fun | 0=>0 | 3=>3 | 4=>4 | 9=>9 | 24=>114 | 40=>83 | n=>n,fun n=>n⟩
theorem lays24:Lays2.n24 Tryz.prog renNd where
 mixed:=by kernel_rfl
 f24:=Tryz.func78.trans (JY some k9)
 t0:=Tryz.underlying0
 a0:=Tryz.isAgg0
 z0:=Tryz.sizeOf0
 v0:=Tryz.zeroValue0
 t3:=Tryz.underlying3
 a3:=Tryz.isAgg3
 z3:=Tryz.sizeOf3
 v3:=Tryz.zeroValue3
 t4:=Tryz.underlying4
 a4:=Tryz.isAgg4
 z4:=Tryz.sizeOf4
 v4:=Tryz.zeroValue4
 t9:=Tryz.underlying9
 a9:=Tryz.isAgg9
 z9:=Tryz.sizeOf9
 v9:=Tryz.zeroValue9
 t24:=Tryz.underlying114
 a24:=Tryz.isAgg114
 z24:=Tryz.sizeOf114
 v24:=Tryz.zeroValue114
 i9:=by kernel_rfl
end
section
theorem zh4 (gb:Nat) (s:Bst) (l:List Acc.T) (nm:LB) (hx:Acc.find l nm=none):ConR Tryz.prog 27 [.c gb [isD<|.map<|s.M.map Prod.fst,isD<|.slice s.n.A (Acc.nm l).length s.n.c,isD<|.map<|s.M.map Prod.snd],.r s.n.F<|yP 9 1 YM s.n.A s.n.c<|Acc.nm l,.r s.F1<|Zc (s.M.map Prod.fst) Zi (Acc.nm l)<|acD l,.r s.F2<|Zc (s.M.map Prod.snd) Zy (Acc.seats l)<|seD l] [pA gb,yY nm] (fun t:Bst=>[.c gb [isD<|.map<|t.M.map Prod.fst,isD<|.slice t.n.A (Acc.nm (Acc.remove l nm).1).length t.n.c,isD<|.map<|t.M.map Prod.snd],.r t.n.F<|yP 9 1 YM t.n.A t.n.c<|Acc.nm (Acc.remove l nm).1,.r t.F1<|Zc (t.M.map Prod.fst) Zi (Acc.nm (Acc.remove l nm).1)<|acD (Acc.remove l nm).1,.r t.F2<|Zc (t.M.map Prod.snd) Zy (Acc.seats (Acc.remove l nm).1)<|seD (Acc.remove l nm).1]) (fun t:Bst=>iD (Acc.remove l nm).2):=by
 refine yg Tryz.func27 k9 V k9 fun base w0=>(zp<|zf V<|ze<|zk<|zp<|zd V<|za V (YS V V k9)<|ze<|zE V V<|zr<|zn<|zp<|zd V<|za V (zz V)<|za V (zc (n:=0) V k9)<|za V (zg 0 V V V k9 zh)<|zd V<|za V ((Zu (jZ (kt:=9) (et:=121) (z:= .agg #[.string ⟨#[]⟩,.int .i64 0,.slice none 0 0,.int .i64 0,.int .i64 0]) (ok:=true) 2 V V V (zb _) k9 k9 (zc4 _) (zhX hx) zh) zf7))<|zd V<|za V (zm V V)<|za V (zm V V) (SWl.e2 (S:=[]) (zM (zs:=[.string ⟨#[]⟩,.int .i64 0,.slice none 0 0,.int .i64 0,.int .i64 0]) k9 V) fun g5=>(zt (S:=[_]) (zw 4 V V V k9 V<|m9 V)<|zf V<|ze<|zk<|zp<|zd V<|za V (yS V)<|ze<|zW V V ?_)));refine zp (zf V<|ze<|zQ (fn:=Tryz.f27) (s) [0,1,2,3] (fun _ _ h=>h) (Rs.le (Rs.one V<|zj V) ?_) d9 ⟨⟨_,V,⟨zb _,zF (by rw [j1 hx]),zb _,t9⟩⟩,⟨⟨_,V,ZZ (by rw [j1 hx]) (by rw [j1 hx])⟩,⟨⟨_,V,(by rw [j1 hx];exact yu _)⟩,⟨⟨_,V,(by rw [j1 hx];exact yu _)⟩,t9⟩⟩⟩⟩)
 exact zF (by rw [j1 hx])
theorem zic (gb g1 g2:Nat) (n:Ust) (F1 F2:LN) (l:List Acc.T) (nm:LB) (x:Acc.T) (hx:Acc.find l nm=some x) (hf:Acc.Fine l):ConR Tryz.prog 27 [.c gb [isD<|.map<|some g1,isD<|.slice n.A (Acc.nm l).length n.c,isD<|.map<|some g2],.r n.F<|yP 9 1 YM n.A n.c<|Acc.nm l,.r F1<|Zc (some g1) Zi (Acc.nm l)<|acD l,.r F2<|Zc (some g2) Zy (Acc.seats l)<|seD l] [pA gb,yY nm] (fun _:Unit=>[.c gb [isD<|.map<|some g1,isD<|.slice n.A (Acc.nm (Acc.remove l nm).1).length n.c,isD<|.map<|some g2],.r n.F<|yP 9 1 YM n.A n.c<|Acc.nm (Acc.remove l nm).1,.r F1<|Zc (some g1) Zi (Acc.nm (Acc.remove l nm).1)<|acD (Acc.remove l nm).1,.r F2<|Zc (some g2) Zy (Acc.seats (Acc.remove l nm).1)<|seD (Acc.remove l nm).1]) (fun _:Unit=>iD (Acc.remove l nm).2):=by
 have hE:(Acc.remove l nm).1=Acc.del l nm:=by rw [zh3 hx]
 have hex:∃ y∈l,y.name=nm:=⟨x,Acc.find_some hx⟩;have hdn:Acc.nm (Acc.del l nm)=(Acc.nm l).eraseIdx (Acc.pos l nm):=Acc.names_del hf.srt hex;have hpl:Acc.pos l nm < l.length:=((Acc.pos_found hf.srt).2 hex).1;have hll:=hf.len;have hxn:=(Acc.find_some hx).2;refine yg Tryz.func27 k9 V k9 fun base w0=>(zp<|zf V<|ze<|zk<|zp<|zd V<|za V (YS V V k9)<|ze<|zE V V<|zr<|zn<|zp<|zd V<|za V (zz V)<|za V (zc (n:=0) V k9)<|za V (zg 0 V V V k9 zh)<|zd V<|za V ((Zu (K9 (kt:=9) (et:=121) (ok:=true) 2 V V V (zb _) k9 (zc4 _) (zeV hx) zh)<|tup_ac hx))<|zd V<|za V (zm V V)<|za V (zm V V) (SWl.e2 (S:=[]) (zM (zs:=[.string ⟨#[]⟩,.int .i64 0,.slice none 0 0,.int .i64 0,.int .i64 0]) k9 V) fun g5=>(zt (S:=[_]) (zw 4 V V V k9 V<|m9 V)<|zf V<|ze<|zk<|zp<|zd V<|za V (yS V)<|ze<|zE V V ?_)))
 refine zr (zn<|zk<|zO (σ':=zN [(0,_),(1,_),(5,_)] [_,_,_,_,_]) (sB [0,1,2,3,4] V V)<|zi<|zd V<|za V (zz V)<|za V (zc (n:=0) V k9)<|za V (zg 0 V V V k9 zh)<|zd V<|zt (zig (kt:=9) (et:=121) 2 V V V (zb _) k9 (zc4 _) (fun i h=>by cases h) (fun _ h=>h))<|ze<|zk<|zO (σ':=zN [(0,_),(1,_),(5,_)] [_,_,_,_,_]) (sB [0,1,4,2,3] V V)<|yh (F2 ++ []) (rr [0,1,2,3,4,5,6,7,8]<|.e 9 .fin .no) k9 k9 (fun d _ _ _ _ h=>by cases d <;> exact h)<|zL V V<|zl V V (zz V)<|zl V V (zc (n:=2) V k9)<|zl V V (zg 0 V V V k9<|yB 3 V d9 zh)<|zl V V (zc (n:=1) V k9)<|zl V V (zg 4 V V V k9<|yB 3 V d9 zh)<|zl V V (zc (n:=4) V k9)<|zl V V (zg 4 V V V k9<|yB 3 V d9 zh)<|zl V V (yq V V zgA)<|yy V (zig (kt:=158) (et:=9) 3 V V V (zc2 _ _) k9 (keySt _) (fun i h=>by cases h) (fun _ h=>mL _ h))<|yI<|zk<|zk<|zO (σ':=zN [(0,_),(1,_)] [_,_,_,_]) (sB [0,1,2,4] V V)<|zi<|zd V<|za V (zz V)<|za V (zc (n:=1) V k9)<|za V (zg 0 V V V k9 zh)<|zd V<|zt (S:=[]) (zD [1] ((zcw lays26 l nm hf.srt o9)) V ⟨(YC 1 V d9),(zo<|zb _),t9⟩ V)<|zd V<|za V (zm V V) ?_)
 refine za V (zm V V) (zf V<|zf V<|zV<|zd V<|ze<|zW V (Jo hex)<|zi<|zd V<|zd V<|za V (zz V)<|za V (zc (n:=1) V k9)<|za V (zg 0 V V V k9 zh)<|zd V<|zd V<|za V (yC V V ⟨by omega,by omega⟩) (SWl.e2 (zC [1] ((ziH lays24 (Acc.nm l) n.A n.c n.F (Acc.pos l nm) (by simpa using hpl) (by simp;omega))) V ⟨zb _,zb _,zb _,t9⟩ d9 ⟨lR V,t9⟩ (fun _ h=>h) V) fun _=>(za V (zz V)<|za V (zc (n:=1) V k9)<|zt (S:=[_]) (zR 0 V V V k9 V<|m9 V)<|zV<|zf V<|ze<|zQ (fn:=Tryz.f27) (()) [0,3,1,2] (fun _ _ h=>h) (Rs.le (Rs.one V<|zj V) ?_) d9 ⟨⟨_,V,⟨zb _,zF (by rw [hE,hdn]),zb _,t9⟩⟩,⟨⟨_,V,ZZ (by rw [hE,hdn]) (by rw [hE,hdn])⟩,⟨⟨_,V,(by rw [hE];exact Kw (fun k=>Acc.mem_names_del) (fun k hk=>acD_eq<|Acc.find_del hf<|Acc.mem_names_del.1 hk))⟩,⟨⟨_,V,(by rw [hE];exact Kw (fun p=>by have h:=Acc.mem_seats_del hf (Acc.find_some hx).1 (p:=p);rw [hxn] at h;exact h) (fun p hp=>seD_eq<|Acc.seat_del hf (by have h:=Acc.mem_seats_del hf (Acc.find_some hx).1 (p:=p);rw [hxn] at h;exact h.1 hp)))⟩,t9⟩⟩⟩⟩)))
 exact zF (by rw [zh3 hx])
theorem ziG (gb:Nat) (s:Bst) (l:List Acc.T) (nm:LB) (hf:Acc.Fine l):
  ConR Tryz.prog 27 [zhF gb s l,zhE s l,zhG s l,zhD s l] [pA gb,yY nm]
   (fun t:Bst=>[zhF gb t (Acc.remove l nm).1,zhE t (Acc.remove l nm).1,zhG t (Acc.remove l nm).1,zhD t (Acc.remove l nm).1]) (fun _=>iD (Acc.remove l nm).2):=by
 rcases hx:Acc.find l nm with _ | x
 ·exact zh4 gb s l nm hx
 ·obtain ⟨M,F1,F2,n⟩:=s
  match M with
  | none=>
   refine ⟨(zh4 gb ⟨none,F1,F2,n⟩ [] nm V).en,fun L w vs _ _ _ _ _ hbk _=> ?_⟩;obtain ⟨ks,_,hK,es,hm,hks,_⟩:=hbk (zhG ⟨none,F1,F2,n⟩ l) s9
   exfalso
   rcases hm with ⟨_,rfl,_⟩ | ⟨g,ck,h0,_⟩
   ·have h1:ks=[]:=by simpa using hks.symm
    have:=(hK nm).2 (zeV hx);rw [h1] at this
    cases this
   ·cases h0
  | some (g1,g2)=>exact (zic gb g1 g2 n F1 F2 l nm x hx hf).map (fun _=>⟨some (g1,g2),F1,F2,n⟩) (fun _=>rfl) (fun _=>rfl)
end
section
theorem zit {gb:Nat} {l:List Acc.T} {F:LN} (nm:LB) (hf:Acc.Fine l):ConR Tryz.prog 27 [.r F<|bkP gb l] [pA gb,yY nm] (fun F':LN=>[.r F'<|bkP gb (Acc.remove l nm).1]) (fun _=>iD (Acc.remove l nm).2):=ConR.bkT fun s=>ziG gb s l nm hf
theorem es_len {s:Rnd.S} (hg:Rnd.Good s) (hz:Rnd.Sz s):s.es.length≤100000:=by have:=hz.es;have:=hg.len;omega
theorem doS_bk (s:Rnd.S) (x:Ac):(Rnd.doS s x).bk=s.bk:=by
 unfold Rnd.doS
 split
 ·unfold Rnd.revS;split <;> rfl
 ·split
  ·unfold Rnd.recS;split <;> rfl
  ·split
   ·rfl
   ·unfold Rnd.subS;split <;> rfl
theorem roundsPlays_con (l:List Ac) (hll:l.length≤9223372036854775807):ConN Tryz.prog 5 [lsD zag l] (yj true):=by
 refine yO Tryz.func5 k9 V k9 fun base w0=>(zp<|zf V<|ze<|zk<|zp<|zd V<|zt (S:=[]) (zD [] (con_few44 l 15 hll) V ⟨(zo<|zb _),(zo<|zb _),t9⟩ V)<|za V (yS V)<|ze<|zJ V (fun hb15=> ?_) (fun hb15=> ?_))
 ·skip
  refine zp (zt (S:=[]) (zD [] (qA) V t9 V)<|zf V<|ze<|zK (fn:=Tryz.f5) (fun _ _ h=>h)<|Rs.le (Rs.one V<|zj V) ?_);exact zZ V
 ·have hq:zgL l 15:=by simpa using hb15
  refine zr (zn<|zp<|YJ (S:=[]) (zC [] (zek) V t9 d9 t9 (fun _ h=>h) V) ?_);rintro _ ⟨⟨g1,s1⟩,rfl⟩;refine zd V (za V (zm V V)<|za V (zm V V) (SWl.e2 (S:=[]) (zM (zs:=[.slice none 0 0]) k9 V) fun g4=>(zf V<|zt (S:=[_]) (zw 4 V V V k9 V<|m9 V)<|ze<|zk<|yd (zhL (gb:=g1) (l:=hL) s1) [0,1,2,3] d9 (sX V) ?_)));rintro _ ⟨Fb,rfl⟩;refine zi (zd V<|zt (S:=[]) (zY (qi) V t9 V)<|YJ (zC [1] (con_new g1 hL Fb Vx jp Ku) V ⟨zb _,zb _,t9⟩ d9 ⟨lR V,t9⟩ (fun _ h=>h) V) ?_);rintro _ ⟨⟨F24,gr,H24⟩,rfl⟩;refine zd V (za V (zm V V)<|za V (zm V V)<|zf V<|zf V<|ze<|zk<|zO (σ':=zN [(0,_),(3,_),(4,_),(5,_),(6,_)] [_,_,_]) (sB [1,2,0] V V)<|Ys (fun σ=>∃ g7,σ=zN [(0,lsD zag l),(3,pA g1),(5,pA gr),(6,iD 0),(7,pA g7)] [.r F24<|bkP g1 hL,.r H24<|Yj gr Rnd.S00,.c g7 [lsD Yz Rnd.S00.bk,lsD YB Rnd.S00.ws,lsD yX Rnd.S00.es,lsD Z8 Rnd.S00.ks,iD Rnd.S00.ck,lsD encE Rnd.S00.en]]) ?_ ?_)
  ·refine yh [] (.r 0<|.n 1 (.n 2 (rr [3,4,5]<|.n 6 (.e 7 (.r 8 .fin) .no) .no)<|.n 6 (.n 2 (rr [3,4,5]<|.e 7 (.r 8 .fin) .no) .no) .no)<|.n 6 (.n 1 (.n 2 (rr [3,4,5]<|.e 7 (.r 8 .fin) .no) .no) .no) .no) k9 k9 (fun d _ _ _ _ h=>by cases d <;> exact h) (zl V V (zA 2 1 V V k9 V zh)<|ZP V (zY (qi) V t9 V) ?_ ?_)
   ·rintro _ rfl;refine ZG V (Zb (jQ hL Vx d9) V ⟨zb _,zb _,t9⟩ V) ?_ ?_
    ·rintro _ _ ⟨⟨⟩,rfl,rfl⟩;refine zL V V (zl V V (zm V V)<|zl V V (zm V V)<|ZA V (EfB.alloc (zs:=[.slice none 0 0,.slice none 0 0,.slice none 0 0,.slice none 0 0,.int .i64 0,.slice none 0 0]) k9 V) ?_ yf);rintro g7 _ rfl;exact yy V (zw 3 V V V k9 V<|mR _ mC) (Zh V V<|yz<|yA ⟨g7,V⟩<|⟨⟨_,V,(sT V)⟩,[0,1,3],by decide,⟨lR rfl,⟨lR rfl,⟨⟨_,rfl,(by rw [show qW hL Vx=Rnd.start hL Vx from Jh Ku];exact yl _)⟩,trivial⟩⟩⟩⟩)
    refine ZA V (EfB.alloc (zs:=[.slice none 0 0,.slice none 0 0,.slice none 0 0,.slice none 0 0,.int .i64 0,.slice none 0 0]) k9 V) ?_ yf;rintro g7 _ rfl;refine ZG V (Zb (jQ hL Vx d9) V ⟨zb _,zb _,t9⟩ V) ?_ yf;rintro _ _ ⟨⟨⟩,rfl,rfl⟩;exact zL V V (zl V V (zm V V)<|zl V V (zm V V)<|yy V (zw 3 V V V k9 V<|mL _<|mR _ mC)<|Zh V V<|yz<|yA ⟨g7,V⟩<|⟨⟨_,V,(sT V)⟩,[0,1,3],by decide,⟨lR rfl,⟨lR rfl,⟨⟨_,rfl,(by rw [show qW hL Vx=Rnd.start hL Vx from Jh Ku];exact yl _)⟩,trivial⟩⟩⟩⟩)
   refine ZA V (EfB.alloc (zs:=[.slice none 0 0,.slice none 0 0,.slice none 0 0,.slice none 0 0,.int .i64 0,.slice none 0 0]) k9 V) ?_ yf;rintro g7 _ rfl;refine yw V (zY (qi) V t9 V) (ZG V (Zb (jQ hL Vx d9) V ⟨zb _,zb _,t9⟩ V) ?_ yf);rintro _ _ ⟨⟨⟩,rfl,rfl⟩;exact zL V V (zl V V (zm V V)<|zl V V (zm V V)<|yy V (zw 3 V V V k9 V<|mL _<|mR _ mC)<|Zh V V<|yz<|yA ⟨g7,V⟩<|⟨⟨_,V,(sT V)⟩,[0,1,3],by decide,⟨lR rfl,⟨lR rfl,⟨⟨_,rfl,(by rw [show qW hL Vx=Rnd.start hL Vx from Jh Ku];exact yl _)⟩,trivial⟩⟩⟩⟩)
  ·rintro _ ⟨g7,rfl⟩
   refine zn (zk<|zp<|zd V<|za V (YS V V k9)<|zd V<|zy V (zI V)<|zy V (ye V V)<|za V (zv V V V)<|ze<|zE V (by first | rfl | simp)<|zr<|zn<|zk<|zO (σ':=zN [(0,_),(3,_),(5,_),(7,_)] [_,_,_]) (sB [0,1,2] V V)<|zi<|zd V (SWl.e2 (zC [0] (zit nmB jp) V ⟨zb _,zb _,t9⟩ d9 ⟨lR V,t9⟩ (fun _ h=>h) V) fun F40=>(ze<|zk<|zO (σ':=zN [(0,_),(5,_),(7,_)] [_,_]) (sB [0,1] V V)<|zi<|YJ (S:=[]) (zC [] (zek) V t9 d9 t9 (fun _ h=>h) V) ?_)))
   rintro _ ⟨⟨g2,s2⟩,rfl⟩;refine zd V (za V (zm V V)<|za V (zm V V) (SWl.e2 (S:=[]) (zM (zs:=[.slice none 0 0]) k9 V) fun g10=>(zf V<|zt (S:=[_]) (zw 6 V V V k9 V<|m9 V)<|ze<|zk<|yd (zhL (gb:=g2) (l:=hL) s2) [2,3,4,5] d9 (sX V) ?_)));rintro _ ⟨Fc,rfl⟩;refine zi (zd V<|za V (zA 1 6 V V k9 V zh) (SWl.e2 (zC [0] (zhz gr H24 Rnd.S00 (Rnd.good_start jp Ku) sz_start.ws<|es_len (Rnd.good_start jp Ku) sz_start) V ⟨zb _,zb _,t9⟩ d9 ⟨lR V,t9⟩ (fun _ h=>h) V) fun F47=>(zf V<|ze<|zk<|zk<|zO (σ':=zN [(0,_),(9,_),(5,_),(7,_),(11,_)] [_,_,_]) (sB [2,3,0] V V)<|zi<|zf V<|ze<|zX<|Zw (ι:={p:Nat × Rnd.S × Nat × LN × LN // p.1≤l.length∧Rnd.Good p.2.1∧Rnd.Sz p.2.1∧p.2.1.bk=hL}) (fun p=>zN [(0,lsD zag l),(9,pA g2),(5,pA p.1.2.2.1),(7,pA g7),(11,yj true),(12,iD (p.1.1:Int))] [.r p.1.2.2.2.1<|bkP g2 hL,.r p.1.2.2.2.2<|Yj p.1.2.2.1 p.1.2.1,.c g7 [lsD Yz p.1.2.1.bk,lsD YB p.1.2.1.ws,lsD yX p.1.2.1.es,lsD Z8 p.1.2.1.ks,iD p.1.2.1.ck,lsD encE p.1.2.1.en]]) (fun p=>l.length - p.1.1) (⟨(0,Rnd.S00,gr,Fc,F47),JC _,Rnd.good_start jp Ku,sz_start,V⟩) ?_ ?_)))
   ·exact (sB [0,1,2] V V)
   ·rintro ⟨⟨i,s,gr,Fb,F1⟩,hi,hg,hz,hbk⟩ K0 hK0;dsimp only at hi hg hz hbk ⊢;refine zk (zp<|zd V<|zd V<|za V (yx (e:=60) V k9)<|za V (yF V V)<|zd V<|zU 52 V (fun hb52=> ?_) (fun hb52=> ?_))
    ·have h52:=oT hb52;refine zy hb52 (zI V) (za V (zB V hb52 V)<|ze<|zW V V<|zr<|zn<|zk<|zX<|zk ?_);obtain ⟨x,hx⟩:∃ x,l[i]? =some x:=⟨_,Je o9⟩;have hsx:=hq.1 x (Jc hx)
     refine yh (Fb ++ (F1 ++ (g7 :: []))) (.r 0<|.r 1<|.q 2<|rr [3,4,5]<|.q 6<|.e 7 (rr [8,9,10,11,12]<|.e 13 (.r 14 .fin) .no) .no) k9 k9 (fun d _ _ _ _ h=>by cases d <;> exact h) (zL V V<|zL V V<|Yy V V (zA 2 6 V V k9 V zh)<|zL V V<|zL V V<|zl V V (yp (e:=60) 12 V V k9 k9 o9 (by simpa using hx))<|Yy V V (ZK 12 V k9 d9 (show 12≤12 by decide) s9)<|yW V (zC [0,1] (con_do g2 gr Fb F1 s x hg hz hsx) V ⟨zb _,zb _,zb _,zb _,t9⟩ d9 (sX V) (Vf (fun _ h=>mL _ h)<|Vf (fun _ h=>mR _<|mL _ h) Z3) V) ?_ yf)
     rintro _ ⟨q65,rfl⟩;refine zL V V (zl V V (zm V V)<|zl V V (zm V V)<|zl V V (zm V V)<|Zh V V<|yy V (zw 0 V V V k9 V<|mR _<|mR _ mC)<|Zh V V<|yI ?_);obtain ⟨s2,hs2⟩:∃ s2,s2=Rnd.doS s x:=⟨_,rfl⟩;have hg2:Rnd.Good s2:=hs2 ▸ Rnd.Good.doS hg x;have hz2:Rnd.Sz s2:=hs2 ▸ hz.doS x;have hbk2:s2.bk=hL:=hs2 ▸ (doS_bk s x).trans hbk;obtain ⟨Fb2,gr2,F2⟩:=q65;dsimp only;refine zO (σ':=zN [(0,_),(9,_),(5,_),(7,_),(11,_),(12,_)] [.r Fb2<|bkP g2 hL,.r F2<|Yj gr2 s2,.c g7 [lsD Yz s2.bk,lsD YB s2.ws,lsD yX s2.es,lsD Z8 s2.ks,iD s2.ck,lsD encE s2.en]]) (⟨⟨_,V,(sT V)⟩,[1,2,0],by decide,⟨lR rfl,⟨⟨_,rfl,(by rw [hs2];exact yu _)⟩,⟨⟨_,rfl,(by rw [hs2];exact yl _)⟩,trivial⟩⟩⟩⟩) (zi<|zd V<|zd V<|zy V (zI V)<|zy V (zA 2 6 V V k9 V zh)<|ZD V V V V (zC [1] (zhz gr2 F2 s2 hg2 hz2.ws<|es_len hg2 hz2) V ⟨zb _,zb _,t9⟩ d9 ⟨lR V,t9⟩ (fun _ h=>h) V) ?_);rintro _ ⟨F73,rfl⟩;exact za V (zB V V V) (zf V<|zP<|yc<|zn<|zi<|zd V<|za V (yC V V ⟨by omega,by omega⟩)<|zf V<|zP (fun a w hh=>hK0 (⟨(i + 1,s2,gr2,Fb2,F73),by dsimp only;omega,hg2,hz2,hbk2⟩) (by dsimp only;omega) a w<|hh.sub<|⟨⟨_,V,⟨lq V,⟨lq V,⟨lq V,⟨lq V,⟨lq V,⟨⟨_,V,zF s9⟩,t9⟩⟩⟩⟩⟩⟩⟩,[0,2,1],by decide,(sX rfl)⟩))
    ·have h52:=oF hb52;refine zq hb52 (za V (zv V hb52 V)<|ze<|zE V V<|yZ ?_)
     repeat (first | refine Ze ?_ | refine Zf d9 ?_)
     refine Zn (zn<|zk<|zO (σ':=zN [(5,_),(11,_)] [_]) (sB [1] V V)<|zi<|zd V<|zd V<|zy V (zI V)<|ZD V V V V (zC [0] (con_bookR gr F1 s hg) V ⟨zb _,t9⟩ d9 ⟨lR V,t9⟩ (fun _ h=>h) V) ?_);rintro _ ⟨⟨F78,gq,H78⟩,rfl⟩;refine zhO (zif) [1] d9 ⟨lR V,t9⟩ ?_;rintro _ ⟨sq,rfl⟩;refine ZD (S:=[]) V V V V (zD [1,3,2,4] (con_lenB s.bk) V ⟨(yG 1 V d9 ⟨(yV 3 V d9),(YC 2 V d9),(yV 4 V d9),t9⟩),t9⟩ V) ?_;rintro _ rfl;refine zy V (yM V V) (za V (zB V V V)<|zd V<|ZD (S:=[]) V V (by rw [hbk];rfl) V (zD [] (qA) V t9 V) ?_);rintro _ rfl;refine za V (zB V (by rw [hbk];rfl) V) (zf V<|ze<|zK (fn:=Tryz.f5) (fun _ _ h=>h)<|Rs.le (Rs.one V<|zj V) ?_);exact zZ V
