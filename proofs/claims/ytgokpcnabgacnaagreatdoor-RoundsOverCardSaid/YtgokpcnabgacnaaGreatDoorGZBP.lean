/- ROUNDS: the law's do. ACCOUNTS: the shelf's Delete at this program. ACCOUNTS: Remove. ROUNDS: RoundsPlays. -/
import Derived.Test.YtgokpcnabgacnaaGreatDoorGZBO
set_option maxHeartbeats 8000000
set_option maxRecDepth 100000
namespace Go.Proofs.YtgokpcnabgacnaaGreatDoor
open Go.RowKit
namespace Sx
section
def Rnd.doS (s:Rnd.S) (x:Ac):Rnd.S:=
 if x.what=2 then Rnd.revS s x.rnd (ZF x.key) x.now else if x.what=3 then Rnd.recS s x.ser x.bid else if x.what=4 then s else Rnd.subS s (YO hL x x.bid) x.now
theorem Rnd.Good.doS {s:Rnd.S} (h:Rnd.Good s) (x:Ac):Rnd.Good (Rnd.doS s x):=by
 unfold Rnd.doS
 split
 ·exact h.rev _ _ _
 ·split
  ·exact h.recd _ _
  ·split
   ·exact h
   ·exact h.sub _ _
theorem Rnd.Sz.doS {s:Rnd.S} (h:Rnd.Sz s) (x:Ac):Rnd.Sz (Rnd.doS s x):=by
 unfold Rnd.doS
 split
 ·exact Rnd.Sz.rev h _ _ _
 ·split
  ·exact Rnd.Sz.recd h _ _
  ·split
   ·exact h
   ·exact Rnd.Sz.sub h _ _
theorem mkE_len {a:Ac} (h:a.short):(YO hL a a.bid).box.length≤1000000∧(YO hL a a.bid).tag.length≤1000000:=by
 have h0:=h.1;have h1:=h.2.2.1;have h2:=h.2.2.2
 rcases zgg a a.bid with ⟨_,e⟩ | ⟨_,e⟩ | ⟨_,_,e⟩ | ⟨_,x,t,r,hp,hx,_,hl,e⟩ <;> rw [e]
 ·exact ⟨by omega,by omega⟩
 ·obtain ⟨x,hx⟩:=zia a.who
  by_cases hp:zgG a a.bid=0
  ·have hs:qw hL a a.bid=_:=sld_ok hp hx;have hz:=zib jp hp hx;rw [hs];refine ⟨?_,?_⟩
   ·have h3:(Kl (Zs a.who) a.ser (ZF a.key) a.bid).length=a.bid.length + 32:=hz.2.1;show (Kl (Zs a.who) a.ser (ZF a.key) a.bid).length≤_;omega
   ·show (jy hL (Zs a.who) a.rnd a.ser (ZF a.key) a.bid).length≤_;unfold jy;rw [(YW hx (by unfold Kl;have:=hz.2.2;omega)).1];simp
  ·have hz:qw hL a a.bid=Env.zero:=(zim hp).2;rw [hz];exact ⟨JC _,JC _⟩
 ·exact ⟨JC _,JC _⟩
 ·have hz:=zib jp hp hx;have h3:(Kl (Zs a.who) a.ser (ZF a.key) a.bid).length=a.bid.length + 32:=hz.2.1;refine ⟨?_,?_⟩
  ·show (Kl (Zs a.who) a.ser (ZF a.key) a.bid).length≤_;omega
  ·show ((t + 1) :: r).length≤_;simp only [Xm] at hl ⊢;omega
theorem con_do (gb gr:Nat) (Fb F:LN) (s:Rnd.S) (x:Ac) (hg:Rnd.Good s) (hz:Rnd.Sz s) (hsx:x.short):ConR Tryz.prog 20 [.r Fb<|bkP gb hL,.r F<|Yj gr s] [pA gb,pA gr,Zo [lsD Yz s.bk,lsD YB s.ws,lsD yX s.es,lsD Z8 s.ks,iD s.ck,lsD encE s.en],Zo [iD x.what,iD x.who,iD x.rnd,iD x.ser,iD x.key,iD x.now,bD x.bid,yY x.e.acc,iD x.e.rnd,iD x.e.ser,bD x.e.box,bD x.e.tag]] (fun q:LN × Nat × LN=>[.r q.1<|bkP gb hL,.r q.2.2<|Yj q.2.1<|Rnd.doS s x]) (fun q:LN × Nat × LN=>Yk [pA q.2.1,Zo [lsD Yz (Rnd.doS s x).bk,lsD YB (Rnd.doS s x).ws,lsD yX (Rnd.doS s x).es,lsD Z8 (Rnd.doS s x).ks,iD (Rnd.doS s x).ck,lsD encE (Rnd.doS s x).en],yj true]):=by
 have henl:=hg.len;refine yg Tryz.func20 k9 V k9 fun base w0=>(zp (SWl.e2 (S:=[]) (yv V V) fun g6=>(SWl.e2 (S:=[]) (yv V V) fun g7=>(zf V (SWl.e2 (S:=[]) (zM (zs:=[.slice none 0 0,.slice none 0 0,.slice none 0 0,.slice none 0 0,.int .i64 0,.slice none 0 0]) k9 V) fun g9=>(zf V<|ze<|zk<|zp<|za V (zc (n:=0) V k9)<|za V (zg 3 V V V k9 zh)<|ze<|zX<|zp<|za V (yM V V)<|zf V<|ze<|zJ V (fun hb27=> ?_) (fun hb27=> ?_)))))))
 ·have h27:x.what=2:=(by simpa using hb27);have hd:Rnd.doS s x=(Rnd.revS s x.rnd (ZF x.key) x.now):=(by unfold Rnd.doS;rw [Jh h27]);refine zk (Ys (fun σ=>∃ g11,σ=zN [(0,pA gb),(1,pA gr),(6,pA g6),(7,pA g7),(9,pA g9),(11,pA g11),(12,iD<|Rnd.revE s x.rnd (ZF x.key) x.now)] [.c g6 [lsD Yz s.bk,lsD YB s.ws,lsD yX s.es,lsD Z8 s.ks,iD s.ck,lsD encE s.en],.c g7 [iD x.what,iD x.who,iD x.rnd,iD x.ser,iD x.key,iD x.now,bD x.bid,yY x.e.acc,iD x.e.rnd,iD x.e.ser,bD x.e.box,bD x.e.tag],.c g9 [isD<|.slice none 0 0,isD<|.slice none 0 0,isD<|.slice none 0 0,isD<|.slice none 0 0,iD 0,isD<|.slice none 0 0],.r Fb<|bkP gb hL,.r F<|Yj gr s,.c g11 [lsD Yz (Rnd.revS s x.rnd (ZF x.key) x.now).bk,lsD YB (Rnd.revS s x.rnd (ZF x.key) x.now).ws,lsD yX (Rnd.revS s x.rnd (ZF x.key) x.now).es,lsD Z8 (Rnd.revS s x.rnd (ZF x.key) x.now).ks,iD (Rnd.revS s x.rnd (ZF x.key) x.now).ck,lsD encE (Rnd.revS s x.rnd (ZF x.key) x.now).en]]) ?_ ?_)
  ·refine yh [] (rr [0,1,2,3,4,6,7]<|.n 5 (.n 8 (rr [9,10,11]<|.n 12 (.e 13 (.r 14 .fin) .no) .no)<|.n 12 (.n 8 (rr [9,10,11]<|.e 13 (.r 14 .fin) .no) .no) .no)<|.n 12 (.n 5 (.n 8 (rr [9,10,11]<|.e 13 (.r 14 .fin) .no) .no) .no) .no) k9 k9 (fun d _ _ _ _ h=>by cases d <;> exact h) (zl V V (zA 2 6 V V k9 V zh)<|zl V V (zc (n:=2) V k9)<|zl V V (zg 3 V V V k9 zh)<|zl V V (zc (n:=4) V k9)<|zl V V (zg 3 V V V k9 zh)<|zl V V (zc (n:=5) V k9)<|zl V V (zg 3 V V V k9 zh)<|ZP V (zY (qa x.key) V ⟨zb _,t9⟩ V) ?_ ?_)
   ·rintro _ rfl;refine ZG V (Zb (WY s x.rnd (ZF x.key) x.now hg (by rw [zh2];decide)) V ⟨zb _,zb _,zb _,zb _,t9⟩ V) ?_ ?_
    ·rintro _ _ ⟨⟨⟩,rfl,rfl⟩;refine zL V V (zl V V (zm V V)<|zl V V (zm V V)<|ZA V (EfB.alloc (zs:=[.slice none 0 0,.slice none 0 0,.slice none 0 0,.slice none 0 0,.int .i64 0,.slice none 0 0]) k9 V) ?_ yf);rintro g11 _ rfl;exact yy V (zw 5 V V V k9 V<|mR _ mC) (Zh V V<|yz<|yA ⟨g11,V⟩<|sB [2,3,4,0,1,5] V V)
    refine ZA V (EfB.alloc (zs:=[.slice none 0 0,.slice none 0 0,.slice none 0 0,.slice none 0 0,.int .i64 0,.slice none 0 0]) k9 V) ?_ yf;rintro g11 _ rfl;refine ZG V (Zb (WY s x.rnd (ZF x.key) x.now hg (by rw [zh2];decide)) V ⟨zb _,zb _,zb _,zb _,t9⟩ V) ?_ yf;rintro _ _ ⟨⟨⟩,rfl,rfl⟩;exact zL V V (zl V V (zm V V)<|zl V V (zm V V)<|yy V (zw 5 V V V k9 V<|mL _<|mR _ mC)<|Zh V V<|yz<|yA ⟨g11,V⟩<|sB [2,3,4,0,1,5] V V)
   refine ZA V (EfB.alloc (zs:=[.slice none 0 0,.slice none 0 0,.slice none 0 0,.slice none 0 0,.int .i64 0,.slice none 0 0]) k9 V) ?_ yf;rintro g11 _ rfl;refine yw V (zY (qa x.key) V ⟨zb _,t9⟩ V) (ZG V (Zb (WY s x.rnd (ZF x.key) x.now hg (by rw [zh2];decide)) V ⟨zb _,zb _,zb _,zb _,t9⟩ V) ?_ yf);rintro _ _ ⟨⟨⟩,rfl,rfl⟩;exact zL V V (zl V V (zm V V)<|zl V V (zm V V)<|yy V (zw 5 V V V k9 V<|mL _<|mR _ mC)<|Zh V V<|yz<|yA ⟨g11,V⟩<|sB [2,3,4,0,1,5] V V)
  ·rintro _ ⟨g11,rfl⟩
   refine zn (zk<|yh (F ++ (g9 :: [])) (rr [0,1,2,3,4,5,6,8,9,11]<|.n 7 (.e 10 (.r 12<|.r 13<|.e 14 (.r 15 .fin) .no) .no) .no) k9 k9 (fun d _ _ _ _ h=>by cases d <;> exact h)<|zL V V<|zl V V (zA 5 6 V V k9 V<|yB 4 V d9<|yK 2 V d9 zh)<|zL V V<|zl V V (zc (n:=2) V k9)<|zl V V (zg 1 V V V k9<|yB 4 V d9<|yK 2 V d9 zh)<|zl V V (zc (n:=4) V k9)<|zl V V (zg 1 V V V k9<|yB 4 V d9<|yK 2 V d9 zh)<|zl V V (zc (n:=5) V k9)<|zl V V (zg 1 V V V k9<|yB 4 V d9<|yK 2 V d9 zh)<|zL V V<|yw V (zY (qa x.key) V ⟨zb _,t9⟩ V)<|yW V (zC [4] (zcx gr F s x.rnd (ZF x.key) x.now hg (by rw [zh2];decide)) V ⟨zb _,zb _,zb _,zb _,t9⟩ d9 ⟨lR V,t9⟩ (Vf (fun _ h=>mL _ h) Z3) V) ?_ yf)
   rintro _ ⟨F51,rfl⟩;refine zl V V (yM V V) (Zh V V<|yy V (zw 2 V V V k9 V<|mR _ mC)<|Zh V V<|yI<|zQ (fn:=Tryz.f20) ((Fb,gr,F51)) [3,5] (fun _ _ h=>h) (Rs.le (ZR V (zj V) (zS 2 V V k9)<|zj V) ?_) d9 ⟨lR V,⟨⟨_,V,(by rw [hd];exact yu _)⟩,t9⟩⟩);exact yn ⟨zb _,(by rw [hd];exact zb _),zF s9,t9⟩
 ·have h27:¬x.what=2:=(by simpa using hb27);refine zp (za V (yM V V)<|zf V<|ze<|zJ V (fun hb54=> ?_) (fun hb54=> ?_))
  ·have h54:x.what=3:=(by simpa using hb54);have hd:Rnd.doS s x=(Rnd.recS s x.ser x.bid):=(by unfold Rnd.doS;rw [Jb h27,Jh h54])
   refine zp (za V (zA 2 6 V V k9 V zh)<|za V (zc (n:=3) V k9)<|za V (zg 3 V V V k9 zh)<|za V (zc (n:=6) V k9)<|za V (zg 3 V V V k9 zh)<|zt (S:=[]) (zY (WZ s x.ser x.bid hg.len (by have:=hsx.1;omega)) V ⟨zb _,zb _,zb _,t9⟩ V)<|zd V<|za V (zm V V)<|za V (zm V V)<|za V (zm V V) (SWl.e2 (S:=[]) (zM (zs:=[.slice none 0 0,.slice none 0 0,.slice none 0 0,.slice none 0 0,.int .i64 0,.slice none 0 0]) k9 V) fun g13=>(zt (S:=[_]) (zw 5 V V V k9 V<|m9 V)<|zf V<|zf V<|ze<|zk<|yh (F ++ []) (rr [0,1,2,3,4]<|.n 5 (.e 6 (rr [7,8,9,10,11] .fin) .no) .no) k9 k9 (fun d _ _ _ _ h=>by cases d <;> exact h)<|zL V V<|zl V V (zc (n:=3) V k9)<|zl V V (zg 3 V V V k9<|yB 1 V d9 zh)<|zl V V (zc (n:=6) V k9)<|zl V V (zg 3 V V V k9<|yB 1 V d9 zh)<|ZG V (zh8 (e:=5) 1 1 V (SrcT.b V) k9 k9 (by have:=hsx.1;omega) d9 V) ?_ yf)))
   rintro _ _ ⟨F72,A72,c72,rfl,rfl⟩;refine YU 6 72 V V (Yc _) (yW V (zC [1] (zhj gr F s x.ser x.bid hg (by have:=hsx.1;omega)) V ⟨zb _,zb _,zb _,t9⟩ d9 ⟨lR V,t9⟩ (Vf (fun _ h=>mL _<|mL _ h) Z3) V) ?_ yf);rintro _ ⟨F73,rfl⟩
   refine zL V V (zl V V (zm V V)<|zl V V (zm V V)<|Zh V V<|Zh V V<|yI<|zk<|yh (g9 :: []) (rr [0,1,2,3,4,5,6,7,8,9,10]<|.e 11 (.r 12 .fin) .no) k9 k9 (fun d _ _ _ _ h=>by cases d <;> exact h)<|zL V V<|zl V V (zA 4 6 V V k9 V<|yK 3 V d9 zh)<|zL V V<|zL V V<|zl V V (yM V V)<|zL V V<|zG V V V s9 V V (zI V)<|zG V V V s9 V V (zI V)<|zG V V V s9 V V (yM V V)<|zl V V (zB V s9 V)<|Zh V V<|yy V (zw 3 V V V k9 V mC)<|Zh V V<|yI<|zQ (fn:=Tryz.f20) ((Fb,gr,F73)) [0,5] (fun _ _ h=>h) (Rs.le (ZR V (zj V) (zS 3 V V k9)<|zj V) ?_) d9 ⟨lR V,⟨⟨_,V,(by rw [hd];exact yu _)⟩,t9⟩⟩)
   exact yn ⟨zb _,(by rw [hd];exact zb _),zF s9,t9⟩
  ·have h54:¬x.what=3:=(by simpa using hb54);refine zp (za V (yM V V)<|zf V<|ze<|zJ V (fun hb86=> ?_) (fun hb86=> ?_))
   ·have h86:x.what=4:=(by simpa using hb86);have hd:Rnd.doS s x=s:=(by unfold Rnd.doS;rw [Jb h27,Jb h54,Jh h86]);refine zp (zd V<|YJ (zC [1] (zih gr F s hg) V ⟨zb _,t9⟩ d9 ⟨lR V,t9⟩ (fun _ h=>h) V) ?_);rintro _ ⟨⟨F89,gc,H89⟩,rfl⟩
    refine zf V (zV<|zd V (SWl.e2 (zC [4] (zhj gr F89 s 77 [] hg d9) V ⟨zb _,zb _,Zz,t9⟩ d9 ⟨lR V,t9⟩ (fun _ h=>h) V) fun F91=>(zV<|zd V<|zd V<|zt (S:=[]) (zY (qa 0) V ⟨zb _,t9⟩ V) (SWl.e2 (zC [0] (Yq nmB 0 1000 (ZF 0) [] jp) V ⟨zb _,zb _,zb _,zb _,zb _,Zz,t9⟩ d9 ⟨lR V,t9⟩ (fun _ h=>h) V) fun F95=>(zd V (SWl.e2 (zC [4] (zh3 gr F91<|Rnd.recS s 77 []) V ⟨zb _,t9⟩ d9 ⟨lR V,t9⟩ (fun _ h=>h) V) fun F97=>(za V (zh7 V V) (SWl.e2 (zC [5] (zcu gr F97 (Rnd.recS s 77 []) (Rnd.sld hL nmB 0 1000 (ZF 0) []) _<|hg.recd 77 []) V ⟨zb _,zb _,zb _,t9⟩ d9 ⟨lR V,t9⟩ (fun _ h=>h) V) fun F99=>(ze<|zk<|yh (g9 :: []) (rr [0,1,2,3,4]<|.e 5 (.r 6 .fin) .no) k9 k9 (fun d _ _ _ _ h=>by cases d <;> exact h)<|zL V V<|zl V V (zA 0 6 V V k9 V<|yK 2 V d9 zh)<|zL V V<|zl V V (zcJ V V k9)<|Zh V V<|yy V (zw 2 V V V k9 V mC)<|Zh V V<|yI<|zQ (fn:=Tryz.f20) ((F95,gc,H89)) [4,3] (fun _ _ h=>h) (Rs.le (ZR V (zj V) (zS 2 V V k9)<|zj V) ?_) d9 ⟨lR V,⟨⟨_,V,(by rw [hd];exact yu _)⟩,t9⟩⟩)))))))))
    exact yn ⟨zb _,(by rw [hd];exact zb _),zF s9,t9⟩
   ·have h86:¬x.what=4:=(by simpa using hb86);have hd:Rnd.doS s x=Rnd.subS s (YO hL x x.bid) x.now:=(by unfold Rnd.doS;rw [Jb h27,Jb h54,Jb h86]);refine zr (yc<|zn<|zk ?_);obtain ⟨e,he⟩:∃ e,e=YO hL x x.bid:=⟨_,rfl⟩
    have hel:e.box.length≤1000000∧e.tag.length≤1000000:=by rw [he];exact mkE_len hsx
    refine zi (zd V<|za V (zA 3 12 V V k9 V zh)<|za V (zc (n:=6) V k9)<|za V (zg 3 V V V k9 zh) (SWl.e2 (zC [0] (con_made gb Fb x x.bid) V ⟨zb _,zb _,zb _,t9⟩ d9 ⟨lR V,t9⟩ (fun _ h=>h) V) fun F108=>(SWl.e2 (S:=[]) (zM (zs:=[.string ⟨#[]⟩,.int .i64 0,.int .i64 0,.slice none 0 0,.slice none 0 0]) k9 V) fun g19=>(zt (S:=[_]) (zw 5 V V V k9 V<|m9 V)<|ze<|zk<|zO (σ':=zN [(0,_),(1,_),(6,_),(7,_),(9,_),(19,_)] [.c g6 [lsD Yz s.bk,lsD YB s.ws,lsD yX s.es,lsD Z8 s.ks,iD s.ck,lsD encE s.en],.c g7 [iD x.what,iD x.who,iD x.rnd,iD x.ser,iD x.key,iD x.now,bD x.bid,yY x.e.acc,iD x.e.rnd,iD x.e.ser,bD x.e.box,bD x.e.tag],.c g9 [isD<|.slice none 0 0,isD<|.slice none 0 0,isD<|.slice none 0 0,isD<|.slice none 0 0,iD 0,isD<|.slice none 0 0],.r F108<|bkP gb hL,.r F<|Yj gr s,.c g19 [yY e.acc,iD e.rnd,iD e.ser,bD e.box,bD e.tag]]) (⟨⟨_,V,(sT V)⟩,[1,2,3,4,0,5],by decide,⟨la rfl,⟨la rfl,⟨la rfl,⟨lR rfl,⟨lR rfl,⟨⟨_,rfl,(by rw [he];exact yl _)⟩,trivial⟩⟩⟩⟩⟩⟩⟩)<|zi<|za V (zA 5 5 V V k9 V zh) (SWl.e2 (S:=[]) (zM (zs:=[.string ⟨#[]⟩,.int .i64 0,.int .i64 0,.slice none 0 0,.slice none 0 0]) k9 V) fun g20=>(zt (S:=[_]) (zw 6 V V V k9 V<|m9 V)<|ze<|zk<|yh (g20 :: []) (rr [0,1,3,4]<|.n 2 (.r 6<|.n 5 (.e 7 (.r 8<|.e 9 .fin .no) .no) .no) .no) k9 k9 (fun d _ _ _ _ h=>by cases d <;> exact h)<|zl V V (zc (n:=3) V k9)<|zl V V (zg 5 V V V k9<|yK 6 V d9 zh)<|zl V V (zc (n:=4) V k9)<|zl V V (zg 5 V V V k9<|yK 6 V d9 zh)<|ZG V (zh8 (e:=5) 1 1 V (SrcT.b V) k9 k9 o9 d9 V) ?_ yf))))))
    rintro _ _ ⟨F112,A112,c112,rfl,rfl⟩;refine zl V V (zc (n:=3) V k9) (ZG V (zh8 (e:=5) 1 1 V (SrcT.b V) k9 k9 o9 d9 V) ?_ yf);rintro _ _ ⟨F115,A115,c115,rfl,rfl⟩;refine yy V (zR 6 V V V k9 V<|mL _<|mL _ mC) (zl V V (zc (n:=4) V k9)<|yy V (zR 6 V V V k9 V<|mL _<|mL _ mC)<|yI<|zk<|ql 6 4 8 V V V<|zO (σ':=zN [(0,_),(1,_),(6,_),(7,_),(9,_),(19,_),(20,_)] [.c g6 [lsD Yz s.bk,lsD YB s.ws,lsD yX s.es,lsD Z8 s.ks,iD s.ck,lsD encE s.en],.c g7 [iD x.what,iD x.who,iD x.rnd,iD x.ser,iD x.key,iD x.now,bD x.bid,yY x.e.acc,iD x.e.rnd,iD x.e.ser,bD x.e.box,bD x.e.tag],.c g9 [isD<|.slice none 0 0,isD<|.slice none 0 0,isD<|.slice none 0 0,isD<|.slice none 0 0,iD 0,isD<|.slice none 0 0],.r F108<|bkP gb hL,.r F<|Yj gr s,.c g19 [yY e.acc,iD e.rnd,iD e.ser,bD e.box,bD e.tag],.c g20 [yY e.acc,iD e.rnd,iD e.ser,isD<|.slice A112 e.box.length c112,bD e.tag],.r F112<|yP 5 1 Yt A112 c112 e.box]) (⟨⟨_,V,(sT V)⟩,[0,1,2,3,4,5,6,7],by decide,⟨la rfl,⟨la rfl,⟨la rfl,⟨lR rfl,⟨lR rfl,⟨la rfl,⟨⟨_,rfl,⟨zb _,zb _,zb _,zb _,(Yc _),trivial⟩⟩,⟨lR rfl,trivial⟩⟩⟩⟩⟩⟩⟩⟩⟩)<|zi<|zd V<|za V (zA 6 5 V V k9 V zh)<|za V (zc (n:=5) V k9)<|za V (zg 1 V V V k9 zh) (SWl.e2 (zC [7,4] (zie gr F s e x.now hg F112 A112 c112) V ⟨zb _,zb _,zb _,t9⟩ d9 (sX V) (fun _ h=>h) V) fun F122=>(zf V<|ze<|zk<|zp<|zf V<|ze<|zX<|Zw (ι:={p:Nat × LB // p.1≤p.2.length∧p.2.length=e.box.length}) (fun p=>zN [(0,pA gb),(1,pA gr),(6,pA g6),(7,pA g7),(9,pA g9),(19,pA g19),(20,pA g20),(21,iD<|Rnd.subE s e x.now),(22,iD (p.1.1:Int))] [.c g6 [lsD Yz s.bk,lsD YB s.ws,lsD yX s.es,lsD Z8 s.ks,iD s.ck,lsD encE s.en],.c g7 [iD x.what,iD x.who,iD x.rnd,iD x.ser,iD x.key,iD x.now,bD x.bid,yY x.e.acc,iD x.e.rnd,iD x.e.ser,bD x.e.box,bD x.e.tag],.c g9 [isD<|.slice none 0 0,isD<|.slice none 0 0,isD<|.slice none 0 0,isD<|.slice none 0 0,iD 0,isD<|.slice none 0 0],.r F108<|bkP gb hL,.r F122<|Yj gr<|Rnd.subS s e x.now,.c g19 [yY e.acc,iD e.rnd,iD e.ser,bD e.box,bD e.tag],.c g20 [yY e.acc,iD e.rnd,iD e.ser,isD<|.slice A112 p.1.2.length c112,bD e.tag],.r F112<|yP 5 1 Yt A112 c112 p.1.2]) (fun p=>e.box.length - p.1.1) (⟨(0,e.box),JC _,V⟩) ?_ ?_)))
    ·exact (sB [0,1,2,3,7,4,5,6] V V)
    ·rintro ⟨⟨i,b⟩,hi,hbl⟩ K0 hK0;dsimp only at hi hbl ⊢;refine zk (zp<|zd V<|za V (zc (n:=3) V k9)<|za V (zg 6 V V V k9 zh)<|za V (Y7 (e:=5) V k9)<|za V (yF V V)<|ze<|zJ V (fun hb127=> ?_) (fun hb127=> ?_))
     ·have h127:=oT hb127;refine zr (zn<|zk<|zX ?_);obtain ⟨y,hy⟩:∃ y,b[i]? =some y:=⟨_,List.getElem?_eq_getElem o9⟩;exact zi (za V (zc (n:=3) V k9)<|za V (zg 6 V V V k9 zh)<|zd V<|za V (jG 7 1 V V V k9 k9 o9 o9)<|za V (qI 7 V V k9 hy V zh)<|za V (zfY V V<|u8_inc y)<|za V (jG 7 1 V V V k9 k9 o9 o9)<|zt (S:=_) (zcK (v:=(y + 1)) 7 V V V V k9 o9 (fun _ h=>h))<|zP<|yc<|zn<|zi<|zd V<|za V (yC V V ⟨by omega,by omega⟩)<|zf V<|zP (fun a w hh=>hK0 (⟨(i + 1,b.set i<|y + 1),by dsimp only;rw [List.length_set];omega,by dsimp only;rw [List.length_set];exact hbl⟩) (by dsimp only;omega) a w<|hh.sub<|⟨⟨_,V,⟨lq V,⟨lq V,⟨lq V,⟨lq V,⟨lq V,⟨lq V,⟨lq V,⟨lq V,⟨⟨_,V,zF s9⟩,t9⟩⟩⟩⟩⟩⟩⟩⟩⟩⟩,[0,1,2,3,4,5,6,7],by decide,⟨la rfl,⟨la rfl,⟨la rfl,⟨lR rfl,⟨lR rfl,⟨la rfl,⟨⟨_,rfl,⟨zb _,zb _,zb _,zF s9,zb _,trivial⟩⟩,⟨lR rfl,trivial⟩⟩⟩⟩⟩⟩⟩⟩⟩))
     ·have h127:=oF hb127;refine yZ ?_
      repeat (first | refine Ze ?_ | refine Zf d9 ?_)
      refine Zn (zn<|zk<|zO (σ':=zN [(0,_),(1,_),(6,_),(7,_),(9,_),(19,_),(21,_)] [_,_,_,_,_,_]) (sB [0,1,2,3,4,5] V V)<|zi<|za V (zA 0 6 V V k9 V zh)<|za V (zA 5 5 V V k9 V zh)<|za V (zc (n:=5) V k9)<|za V (zg 1 V V V k9 zh) (SWl.e2 (S:=[]) (zC [] (KM s e x.now hg (by have:=hz.es;omega) (by rw [he];exact mkE_acc hsx _)) V ⟨zb _,zb _,zb _,t9⟩ d9 t9 (fun _ h=>h) V) fun _=>(zd V<|za V (zm V V)<|za V (zm V V) (SWl.e2 (S:=[]) (zM (zs:=[.slice none 0 0,.slice none 0 0,.slice none 0 0,.slice none 0 0,.int .i64 0,.slice none 0 0]) k9 V) fun g23=>(zt (S:=[_]) (zw 6 V V V k9 V<|m9 V)<|zf V<|ze<|zk<|yh (g9 :: []) (rr [0,1,2,3,4,5]<|.e 6 (.r 7 .fin) .no) k9 k9 (fun d _ _ _ _ h=>by cases d <;> exact h)<|zL V V<|zl V V (zA 6 6 V V k9 V<|yK 2 V d9 zh)<|zL V V<|zL V V<|zl V V (yM V V)<|Zh V V<|yy V (zw 2 V V V k9 V mC)<|Zh V V<|yI<|zQ (fn:=Tryz.f20) ((F108,gr,F122)) [3,4] (fun _ _ h=>h) (Rs.le (ZR V (zj V) (zS 2 V V k9)<|zj V) ?_) d9 ⟨lR V,⟨⟨_,V,(by rw [hd,← he];exact yu _)⟩,t9⟩⟩)))))
      exact yn ⟨zb _,(by rw [hd,← he];exact zb _),zF s9,t9⟩
end
section
end
section
end
section
theorem es_len {s:Rnd.S} (hg:Rnd.Good s) (hz:Rnd.Sz s):s.es.length≤100000:=by have:=hz.es;have:=hg.len;omega
