/- ACCOUNTS: taken, Get, Of, Len, Units. ACCOUNTS: list, Accounts, Add. ACCOUNTS: Remove, Copy, the iterator. ACCOUNTS: the reference's words. -/
import Derived.Test.YtgokpcnabgacnaaGreatDoorGZAJ
set_option maxHeartbeats 8000000
set_option maxRecDepth 100000
namespace Go.Proofs.YtgokpcnabgacnaaGreatDoor
open Go.RowKit
namespace Sx
section
theorem zbb (l:List Acc.T) (r n:Int):ConN Tryz.prog 109 [bookD l,iD r,iD n] (yj<|decide ((r,n)∈Acc.seats l)):=by
 refine yO Tryz.func109 k9 V k9 fun base w0=>(zp<|zf V<|ze<|zk ?_)
 by_cases hm:(r,n)∈Acc.seats l
 ·skip
  refine zi (zd V<|za V (yQ V)<|za V (yb (n:=2) V k9 (show 2 < 3 by decide))<|za V (ya V V k9 s9)<|zd V<|zd V<|za V (yq V V zgA)<|za V (zbA (kt:=158) (et:=9) V V (zc2 _ _) k9 (keySt _) hm s9)<|zd V<|za V (zm V V)<|za V (zm V V)<|zf V<|zf V<|zV<|zd V<|zf V<|ze<|zK (fn:=Tryz.f109) (fun _ _ h=>h)<|Rs.le (Rs.one V<|zj V) ?_)
  first | exact Le.trans (Ka hm) zu | exact Le.trans (yi hm) zu
 ·skip
  refine zi (zd V<|za V (yQ V)<|za V (yb (n:=2) V k9 (show 2 < 3 by decide))<|za V (ya V V k9 s9)<|zd V<|zd V<|za V (yq V V zgA)<|za V (WP (kt:=158) (et:=9) (z:= .string ⟨#[]⟩) V V (zc2 _ _) k9 k9 (keySt _) hm s9)<|zd V<|za V (zm V V)<|za V (zm V V)<|zf V<|zf V<|zV<|zd V<|zf V<|ze<|zK (fn:=Tryz.f109) (fun _ _ h=>h)<|Rs.le (Rs.one V<|zj V) ?_)
  first | exact Le.trans (Ka hm) zu | exact Le.trans (yi hm) zu
theorem zdh (l:List Acc.T) (nm:LB) (hf:Acc.Fine l):ConN Tryz.prog 131 [bookD l,yY nm] (Yk [Zo<|Yz<|Wn l nm,iD<|Acc.getE l nm]):=by
 refine yO Tryz.func131 k9 V k9 fun base w0=>(zp (SWl.e2 (S:=[]) (zM (zs:=[.string ⟨#[]⟩,.int .i64 0,.slice none 0 0,.int .i64 0,.int .i64 0]) k9 V) fun g4=>(zf V<|ze<|zk<|zp<|zd V<|za V (zbC V V k9)<|ze<|zE V V<|zr<|zn<|zk ?_)));rcases hx:Acc.find l nm with _ | x
 ·skip
  refine zi (zd V<|za V (yQ V)<|za V (yb (n:=0) V k9 (show 0 < 3 by decide))<|za V (ya V V k9 s9)<|zd V<|za V ((Zu (WP (kt:=9) (et:=121) (z:= .agg #[.string ⟨#[]⟩,.int .i64 0,.slice none 0 0,.int .i64 0,.int .i64 0]) (ok:=true) V V (zb _) k9 k9 (zc4 _) (zhX hx) s9) zf7))<|zd V<|za V (zm V V)<|za V (zm V V) (SWl.e2 (S:=[]) (zM (zs:=[.string ⟨#[]⟩,.int .i64 0,.slice none 0 0,.int .i64 0,.int .i64 0]) k9 V) fun g6=>(zt (S:=[_]) (zw 1 V V V k9 V<|m9 V)<|zf V<|ze<|zk<|zp<|zd V<|za V (yS V)<|ze<|zW V V<|zp<|za V (yq V V bldA0)<|zt (S:=[_]) (zw 0 V V V k9 V<|m9 V)<|zf V<|ze<|zK (fn:=Tryz.f131) (fun _ _ h=>h)<|Rs.le (ym V (zS 0 V V k9)<|zj V) ?_)))
  first | (rw [(jb hx).1,(jb hx).2];exact Zx ⟨nwZ5,zu,trivial⟩) | (rw [(YX hx).1,(YX hx).2];exact Zx ⟨nwA5,zu,trivial⟩)
 ·have hkl:=(hf.oks x (Acc.find_some hx).1).2.1;refine zi (zd V<|za V (yQ V)<|za V (yb (n:=0) V k9 (show 0 < 3 by decide))<|za V (ya V V k9 s9)<|zd V<|za V ((Zu (zbA (kt:=9) (et:=121) (ok:=true) V V (zb _) k9 (zc4 _) (zeV hx) s9)<|tup_ac hx))<|zd V<|za V (zm V V)<|za V (zm V V) (SWl.e2 (S:=[]) (zM (zs:=[.string ⟨#[]⟩,.int .i64 0,.slice none 0 0,.int .i64 0,.int .i64 0]) k9 V) fun g6=>(zt (S:=[_]) (zw 1 V V V k9 V<|m9 V)<|zf V<|ze<|zk<|zp<|zd V<|za V (yS V)<|ze<|zE V V<|zr<|zn<|zk<|zO (σ':=zN [(4,_),(6,_)] [_,_]) (sB [0,1] V V)<|zi<|za V (zA 1 5 V V k9 V zh)<|zt (S:=[]) (zeS [] (WH x.name x.role x.key x.dep x.num o9) V ⟨(ZQ ⟨(zo<|zb _),(zo<|zb _),(zo<|zb _),(zo<|zb _),(zo<|zb _),t9⟩),t9⟩ zcf V)<|zt (S:=[_]) (zw 0 V V V k9 V<|m9 V)<|zf V<|ze<|zK (fn:=Tryz.f131) (fun _ _ h=>h)<|Rs.le (ym V (zS 0 V V k9)<|zj V) ?_)))
  first | (rw [(jb hx).1,(jb hx).2];exact Zx ⟨nwZ5,zu,trivial⟩) | (rw [(YX hx).1,(YX hx).2];exact Zx ⟨nwA5,zu,trivial⟩)
end
section
theorem con_list (gb:Nat) (s:Bst) (l:List Acc.T) (hf:Acc.Fine l):ConR Tryz.prog 112 [.c gb [isD<|.map<|s.M.map Prod.fst,isD<|.slice s.n.A (Acc.nm l).length s.n.c,isD<|.map<|s.M.map Prod.snd],.r s.n.F<|yP 9 1 YM s.n.A s.n.c<|Acc.nm l,.r s.F1<|Zc (s.M.map Prod.fst) Zi (Acc.nm l)<|acD l,.r s.F2<|Zc (s.M.map Prod.snd) Zy (Acc.seats l)<|seD l] [pA gb] (fun _:Unit=>[.c gb [isD<|.map<|s.M.map Prod.fst,isD<|.slice s.n.A (Acc.nm l).length s.n.c,isD<|.map<|s.M.map Prod.snd],.r s.n.F<|yP 9 1 YM s.n.A s.n.c<|Acc.nm l,.r s.F1<|Zc (s.M.map Prod.fst) Zi (Acc.nm l)<|acD l,.r s.F2<|Zc (s.M.map Prod.snd) Zy (Acc.seats l)<|seD l]) (fun _:Unit=>lsD Yz l):=by
 refine yg Tryz.func112 k9 V k9 fun base w0=>(zp<|zf V<|ze<|zk<|zp<|zd V<|za V (YS V V k9)<|ze<|zE V V<|zr<|zn<|zp<|zd V<|za V (zz V)<|za V (zc (n:=1) V k9)<|za V (zg 0 V V V k9 zh)<|za V (Y7 (e:=9) V k9) (SWl.e2 (S:=[]) (zdu (e:=121) (c:=(Acc.nm l).length) Yz 5 64 V V k9 k9 V (by have:=hf.len;simp;omega) d9 V) fun g13=>(zf V<|ze<|zk<|zp<|zd V<|za V (zz V)<|za V (zc (n:=1) V k9)<|za V (zg 0 V V V k9 zh)<|za V (Y7 (e:=9) V k9)<|zd V<|ze<|zX<|Zw (ι:={p:Nat × Ust // p.1≤l.length}) (fun p=>zN [(0,pA gb),(3,isD<|.slice p.1.2.A (l.take p.1.1).length p.1.2.c),(17,isD<|.slice s.n.A (Acc.nm l).length s.n.c),(18,iD (l.length:Int)),(19,iD (p.1.1:Int))] [.c gb [isD<|.map<|s.M.map Prod.fst,isD<|.slice s.n.A (Acc.nm l).length s.n.c,isD<|.map<|s.M.map Prod.snd],.r s.n.F<|yP 9 1 YM s.n.A s.n.c<|Acc.nm l,.r s.F1<|Zc (s.M.map Prod.fst) Zi (Acc.nm l)<|acD l,.r s.F2<|Zc (s.M.map Prod.snd) Zy (Acc.seats l)<|seD l,.r p.1.2.F<|yP 121 5 Yz p.1.2.A p.1.2.c<|l.take p.1.1]) (fun p=>l.length - p.1.1) (⟨(0,⟨some ⟨g13,0,none⟩,(Acc.nm l).length,[g13]⟩),JC _⟩) ?_ ?_)))
 ·exact ⟨⟨_,V,⟨lq V,⟨lq V,⟨lq V,⟨⟨_,V,zF s9⟩,⟨lq V,t9⟩⟩⟩⟩⟩⟩,[0,1,2,3,4],by decide,(sX rfl)⟩
 ·rintro ⟨⟨i,t⟩,hi⟩ K0 hK0;dsimp only at hi ⊢;refine zp (za V (yF V V)<|ze<|zk<|zJ V (fun hb20=> ?_) (fun hb20=> ?_))
  ·have hb20:=oT hb20;refine zr (zn<|zk<|zX<|zk ?_);obtain ⟨x,hx⟩:∃ x,l[i]? =some x:=⟨_,Je o9⟩
   have hnm:(Acc.nm l)[i]? =some x.name:=by simp [hx]
   have hfx:=Acc.find_mem hf.srt (List.mem_of_getElem? hx);exact zi (za V (jG 1 1 V V V k9 k9 o9 (by simp;omega))<|za V (qI 1 V V k9 hnm V zh)<|zf V<|ze<|zi<|zd V<|zd V<|za V (zz V)<|za V (zc (n:=0) V k9)<|za V (zg 0 V V V k9 zh)<|zd V<|za V ((Zu (K9 (kt:=9) (et:=121) (ok:=false) 2 V V V (zb _) k9 (zc4 _) (zeV hfx) zh)<|ac_x hfx))<|zt (S:=[]) (ZL V V (zhH x) V) (SWl.e4 (yN 4 5 64 V V (SrcT.ls (l:=[x]) V) k9 k9 (by have:=hf.len;simp;omega) d9 (fun _ h=>h) V) fun A31 F31 c31=>(zf V<|zP<|yc<|zn<|zi<|za V (yC V V ⟨by omega,by have:=hf.len;omega⟩)<|zd V<|zP (fun a w hh=>hK0 (⟨(i + 1,⟨A31,c31,F31⟩),by dsimp only;omega⟩) (by dsimp only;omega) a w<|hh.sub<|⟨⟨_,V,⟨lq V,⟨⟨_,V,zF (by rw [yr hx])⟩,(sT V)⟩⟩⟩,[0,1,2,3,4],by decide,⟨la rfl,⟨lR rfl,⟨lR rfl,⟨lR rfl,⟨⟨_,rfl,ZZ (by rw [yr hx]) (by rw [yr hx])⟩,trivial⟩⟩⟩⟩⟩⟩))))
  ·have hb20:=oF hb20;refine yZ ?_
   repeat (first | refine Ze ?_ | refine Zf d9 ?_)
   refine Zn (zn<|zp<|zd V<|zf V<|ze<|qk 4 2 V V (zb _)<|zQ (fn:=Tryz.f112) (()) [0,1,2,3] (fun _ _ h=>h) (Rs.le (Rs.one V<|zj V) ?_) d9<|sX V);rw [Ji o9];exact zb _
theorem zfD (gb:Nat) (s:Bst) (l:List Acc.T) (a:Acc.T) (A:Option Addr) (c:Nat) (F:LN) (R:Res) (hR:qb R (.slice A a.key.length c) (cellsOf a.key)) (hf:Acc.Fine l) (h:¬Acc.ok a):ConR Tryz.prog 49 [.c gb [isD<|.map<|s.M.map Prod.fst,isD<|.slice s.n.A (Acc.nm l).length s.n.c,isD<|.map<|s.M.map Prod.snd],.r s.n.F<|yP 9 1 YM s.n.A s.n.c<|Acc.nm l,.r s.F1<|Zc (s.M.map Prod.fst) Zi (Acc.nm l)<|acD l,.r s.F2<|Zc (s.M.map Prod.snd) Zy (Acc.seats l)<|seD l,.r F R] [pA gb,Zo [yY a.name,iD a.role,isD<|.slice A a.key.length c,iD a.dep,iD a.num]] (fun t:Bst=>[.c gb [isD<|.map<|t.M.map Prod.fst,isD<|.slice t.n.A (Acc.nm (Acc.add l a).1).length t.n.c,isD<|.map<|t.M.map Prod.snd],.r t.n.F<|yP 9 1 YM t.n.A t.n.c<|Acc.nm (Acc.add l a).1,.r t.F1<|Zc (t.M.map Prod.fst) Zi (Acc.nm (Acc.add l a).1)<|acD (Acc.add l a).1,.r t.F2<|Zc (t.M.map Prod.snd) Zy (Acc.seats (Acc.add l a).1)<|seD (Acc.add l a).1,.r F R]) (fun t:Bst=>iD (Acc.add l a).2):=by
 refine yg Tryz.func49 k9 V k9 fun base w0=>(zp (SWl.e2 (S:=[]) (yv V V) fun g3=>(zf V<|ze<|zk<|zp<|zd V<|za V (YS V V k9)<|ze<|zE V V<|zr<|zn<|zk<|zp<|za V (zA 5 5 V V k9 V zh)<|zt (S:=[]) (zD [] (q8 a.name a.role a.key.length a.dep a.num) V ⟨(zo<|ZM ⟨zb _,zb _,qs,zb _,zb _,t9⟩),t9⟩ V)<|za V (yS V)<|ze<|zW V (by rw [Jd (show ¬Acc.okN _ _ _ _ _ from h)];rfl)<|zp<|zf V<|ze<|zQ (fn:=Tryz.f49) (s) [0,1,2,3,4] (fun _ _ h=>h) (Rs.le (Rs.one V<|zj V) ?_) d9 ⟨⟨_,V,⟨zb _,zF (by rw [YY h]),zb _,t9⟩⟩,⟨⟨_,V,ZZ (by rw [YY h]) (by rw [YY h])⟩,⟨⟨_,V,(by rw [YY h];exact yu _)⟩,⟨⟨_,V,(by rw [YY h];exact yu _)⟩,⟨lR V,t9⟩⟩⟩⟩⟩)));exact zF (by rw [YY h])
theorem zdm (gb:Nat) (s:Bst) (l:List Acc.T) (a:Acc.T) (A:Option Addr) (c:Nat) (F:LN) (R:Res) (hR:qb R (.slice A a.key.length c) (cellsOf a.key)) (hf:Acc.Fine l) (h:Acc.ok a) (hn:a.name∈Acc.nm l):ConR Tryz.prog 49 [.c gb [isD<|.map<|s.M.map Prod.fst,isD<|.slice s.n.A (Acc.nm l).length s.n.c,isD<|.map<|s.M.map Prod.snd],.r s.n.F<|yP 9 1 YM s.n.A s.n.c<|Acc.nm l,.r s.F1<|Zc (s.M.map Prod.fst) Zi (Acc.nm l)<|acD l,.r s.F2<|Zc (s.M.map Prod.snd) Zy (Acc.seats l)<|seD l,.r F R] [pA gb,Zo [yY a.name,iD a.role,isD<|.slice A a.key.length c,iD a.dep,iD a.num]] (fun t:Bst=>[.c gb [isD<|.map<|t.M.map Prod.fst,isD<|.slice t.n.A (Acc.nm (Acc.add l a).1).length t.n.c,isD<|.map<|t.M.map Prod.snd],.r t.n.F<|yP 9 1 YM t.n.A t.n.c<|Acc.nm (Acc.add l a).1,.r t.F1<|Zc (t.M.map Prod.fst) Zi (Acc.nm (Acc.add l a).1)<|acD (Acc.add l a).1,.r t.F2<|Zc (t.M.map Prod.snd) Zy (Acc.seats (Acc.add l a).1)<|seD (Acc.add l a).1,.r F R]) (fun t:Bst=>iD (Acc.add l a).2):=by
 refine yg Tryz.func49 k9 V k9 fun base w0=>(zp (SWl.e2 (S:=[]) (yv V V) fun g3=>(zf V<|ze<|zk<|zp<|zd V<|za V (YS V V k9)<|ze<|zE V V<|zr<|zn<|zk<|zp<|za V (zA 5 5 V V k9 V zh)<|zt (S:=[]) (zD [] (q8 a.name a.role a.key.length a.dep a.num) V ⟨(zo<|ZM ⟨zb _,zb _,qs,zb _,zb _,t9⟩),t9⟩ V)<|za V (yS V)<|ze<|zE V (by rw [Jo (show Acc.okN _ _ _ _ _ from h)];rfl)<|zr<|zn<|zk<|zk<|yh [] (rr [0,1,2,3,4,5,6,7,8,9]<|.n 10 (.e 11 (.r 12 .fin) .no) .no) k9 k9 (fun d _ _ _ _ h=>by cases d <;> exact h)<|zL V V<|zl V V (zz V)<|zl V V (zc (n:=0) V k9)<|zl V V (zg 0 V V V k9 zh)<|zl V V (zc (n:=0) V k9)<|zl V V (zg 5 V V V k9 zh)<|zl V V ((K9 (kt:=9) (et:=121) (ok:=true) 2 V V V (zb _) k9 (zc4 _) hn zh))<|zL V V<|zl V V (zm V V) ?_)))
 refine zl V V (zm V V) (ZA V (EfB.alloc (zs:=[.string ⟨#[]⟩,.int .i64 0,.slice none 0 0,.int .i64 0,.int .i64 0]) k9 V) ?_ yf);rintro g5 _ rfl;refine yy V (zw 6 V V V k9 V<|mR _ mC) (Zh V V<|yI<|zp<|zd V<|zd V<|zq V<|zq V<|zq V<|zq V<|zq V<|zq V<|za V (zB V V V)<|ze<|zW V V<|zp<|zf V<|ze<|zQ (fn:=Tryz.f49) (s) [0,1,2,3,4] (fun _ _ h=>h) (Rs.le (Rs.one V<|zj V) ?_) d9 ⟨⟨_,V,⟨zb _,zF (by rw [Zl h<|qp hn]),zb _,t9⟩⟩,⟨⟨_,V,ZZ (by rw [Zl h<|qp hn]) (by rw [Zl h<|qp hn])⟩,⟨⟨_,V,(by rw [Zl h<|qp hn];exact yu _)⟩,⟨⟨_,V,(by rw [Zl h<|qp hn];exact yu _)⟩,⟨lR V,t9⟩⟩⟩⟩⟩);exact zF (by rw [Zl h<|qp hn])
theorem zdl (gb:Nat) (s:Bst) (l:List Acc.T) (a:Acc.T) (A:Option Addr) (c:Nat) (F:LN) (R:Res) (hR:qb R (.slice A a.key.length c) (cellsOf a.key)) (hf:Acc.Fine l) (h:Acc.ok a) (hn:a.name∉Acc.nm l) (hs:(a.role,a.num)∈Acc.seats l):ConR Tryz.prog 49 [.c gb [isD<|.map<|s.M.map Prod.fst,isD<|.slice s.n.A (Acc.nm l).length s.n.c,isD<|.map<|s.M.map Prod.snd],.r s.n.F<|yP 9 1 YM s.n.A s.n.c<|Acc.nm l,.r s.F1<|Zc (s.M.map Prod.fst) Zi (Acc.nm l)<|acD l,.r s.F2<|Zc (s.M.map Prod.snd) Zy (Acc.seats l)<|seD l,.r F R] [pA gb,Zo [yY a.name,iD a.role,isD<|.slice A a.key.length c,iD a.dep,iD a.num]] (fun t:Bst=>[.c gb [isD<|.map<|t.M.map Prod.fst,isD<|.slice t.n.A (Acc.nm (Acc.add l a).1).length t.n.c,isD<|.map<|t.M.map Prod.snd],.r t.n.F<|yP 9 1 YM t.n.A t.n.c<|Acc.nm (Acc.add l a).1,.r t.F1<|Zc (t.M.map Prod.fst) Zi (Acc.nm (Acc.add l a).1)<|acD (Acc.add l a).1,.r t.F2<|Zc (t.M.map Prod.snd) Zy (Acc.seats (Acc.add l a).1)<|seD (Acc.add l a).1,.r F R]) (fun t:Bst=>iD (Acc.add l a).2):=by
 refine yg Tryz.func49 k9 V k9 fun base w0=>(zp (SWl.e2 (S:=[]) (yv V V) fun g3=>(zf V<|ze<|zk<|zp<|zd V<|za V (YS V V k9)<|ze<|zE V V<|zr<|zn<|zk<|zp<|za V (zA 5 5 V V k9 V zh)<|zt (S:=[]) (zD [] (q8 a.name a.role a.key.length a.dep a.num) V ⟨(zo<|ZM ⟨zb _,zb _,qs,zb _,zb _,t9⟩),t9⟩ V)<|za V (yS V)<|ze<|zE V (by rw [Jo (show Acc.okN _ _ _ _ _ from h)];rfl)<|zr<|zn<|zk<|zk<|yh [] (rr [0,1,2,3,4,5,6,7,8,9]<|.n 10 (.e 11 (.r 12 .fin) .no) .no) k9 k9 (fun d _ _ _ _ h=>by cases d <;> exact h)<|zL V V<|zl V V (zz V)<|zl V V (zc (n:=0) V k9)<|zl V V (zg 0 V V V k9 zh)<|zl V V (zc (n:=0) V k9)<|zl V V (zg 5 V V V k9 zh)<|zl V V ((Zu (jZ (kt:=9) (et:=121) (z:= .agg #[.string ⟨#[]⟩,.int .i64 0,.slice none 0 0,.int .i64 0,.int .i64 0]) (ok:=true) 2 V V V (zb _) k9 k9 (zc4 _) hn zh) zf7))<|zL V V<|zl V V (zm V V) ?_)))
 refine zl V V (zm V V) (ZA V (EfB.alloc (zs:=[.string ⟨#[]⟩,.int .i64 0,.slice none 0 0,.int .i64 0,.int .i64 0]) k9 V) ?_ yf);rintro g5 _ rfl;refine yy V (zw 6 V V V k9 V<|mR _ mC) (Zh V V<|yI<|zp<|zd V<|zd V<|zy V (zI V)<|zy V (zc (n:=1) V k9)<|zy V (zg 5 V V V k9 zh)<|zy V (zc (n:=4) V k9)<|zy V (zg 5 V V V k9 zh)<|ZD (S:=[]) V V V V (zD [0,2,1,3] (zbb l a.role a.num) V ⟨(yG 0 V d9 ⟨(yV 2 V d9),(YC 1 V d9),(yV 3 V d9),t9⟩),(zo<|zb _),(zo<|zb _),t9⟩ V) ?_);rintro _ rfl;refine za V (zv V V V) (ze<|zW V (Jo hs)<|zp<|zf V<|ze<|zQ (fn:=Tryz.f49) (s) [0,1,2,3,4] (fun _ _ h=>h) (Rs.le (Rs.one V<|zj V) ?_) d9 ⟨⟨_,V,⟨zb _,zF (by rw [Zl h<|qo hs]),zb _,t9⟩⟩,⟨⟨_,V,ZZ (by rw [Zl h<|qo hs]) (by rw [Zl h<|qo hs])⟩,⟨⟨_,V,(by rw [Zl h<|qo hs];exact yu _)⟩,⟨⟨_,V,(by rw [Zl h<|qo hs];exact yu _)⟩,⟨lR V,t9⟩⟩⟩⟩⟩);exact zF (by rw [Zl h<|qo hs])
theorem zew (gb:Nat) (s:Bst) (l:List Acc.T) (a:Acc.T) (A:Option Addr) (c:Nat) (F:LN) (R:Res) (hR:qb R (.slice A a.key.length c) (cellsOf a.key)) (hf:Acc.Fine l) (h:Acc.ok a) (hn:a.name∉Acc.nm l) (hs:(a.role,a.num)∉Acc.seats l) (hl:256≤l.length):ConR Tryz.prog 49 [.c gb [isD<|.map<|s.M.map Prod.fst,isD<|.slice s.n.A (Acc.nm l).length s.n.c,isD<|.map<|s.M.map Prod.snd],.r s.n.F<|yP 9 1 YM s.n.A s.n.c<|Acc.nm l,.r s.F1<|Zc (s.M.map Prod.fst) Zi (Acc.nm l)<|acD l,.r s.F2<|Zc (s.M.map Prod.snd) Zy (Acc.seats l)<|seD l,.r F R] [pA gb,Zo [yY a.name,iD a.role,isD<|.slice A a.key.length c,iD a.dep,iD a.num]] (fun t:Bst=>[.c gb [isD<|.map<|t.M.map Prod.fst,isD<|.slice t.n.A (Acc.nm (Acc.add l a).1).length t.n.c,isD<|.map<|t.M.map Prod.snd],.r t.n.F<|yP 9 1 YM t.n.A t.n.c<|Acc.nm (Acc.add l a).1,.r t.F1<|Zc (t.M.map Prod.fst) Zi (Acc.nm (Acc.add l a).1)<|acD (Acc.add l a).1,.r t.F2<|Zc (t.M.map Prod.snd) Zy (Acc.seats (Acc.add l a).1)<|seD (Acc.add l a).1,.r F R]) (fun t:Bst=>iD (Acc.add l a).2):=by
 refine yg Tryz.func49 k9 V k9 fun base w0=>(zp (SWl.e2 (S:=[]) (yv V V) fun g3=>(zf V<|ze<|zk<|zp<|zd V<|za V (YS V V k9)<|ze<|zE V V<|zr<|zn<|zk<|zp<|za V (zA 5 5 V V k9 V zh)<|zt (S:=[]) (zD [] (q8 a.name a.role a.key.length a.dep a.num) V ⟨(zo<|ZM ⟨zb _,zb _,qs,zb _,zb _,t9⟩),t9⟩ V)<|za V (yS V)<|ze<|zE V (by rw [Jo (show Acc.okN _ _ _ _ _ from h)];rfl)<|zr<|zn<|zk<|zk<|yh [] (rr [0,1,2,3,4,5,6,7,8,9]<|.n 10 (.e 11 (.r 12 .fin) .no) .no) k9 k9 (fun d _ _ _ _ h=>by cases d <;> exact h)<|zL V V<|zl V V (zz V)<|zl V V (zc (n:=0) V k9)<|zl V V (zg 0 V V V k9 zh)<|zl V V (zc (n:=0) V k9)<|zl V V (zg 5 V V V k9 zh)<|zl V V ((Zu (jZ (kt:=9) (et:=121) (z:= .agg #[.string ⟨#[]⟩,.int .i64 0,.slice none 0 0,.int .i64 0,.int .i64 0]) (ok:=true) 2 V V V (zb _) k9 k9 (zc4 _) hn zh) zf7))<|zL V V<|zl V V (zm V V) ?_)))
 refine zl V V (zm V V) (ZA V (EfB.alloc (zs:=[.string ⟨#[]⟩,.int .i64 0,.slice none 0 0,.int .i64 0,.int .i64 0]) k9 V) ?_ yf);rintro g5 _ rfl;refine yy V (zw 6 V V V k9 V<|mR _ mC) (Zh V V<|yI<|zp<|zd V<|zd V<|zy V (zI V)<|zy V (zc (n:=1) V k9)<|zy V (zg 5 V V V k9 zh)<|zy V (zc (n:=4) V k9)<|zy V (zg 5 V V V k9 zh)<|ZD (S:=[]) V V V V (zD [0,2,1,3] (zbb l a.role a.num) V ⟨(yG 0 V d9 ⟨(yV 2 V d9),(YC 1 V d9),(yV 3 V d9),t9⟩),(zo<|zb _),(zo<|zb _),t9⟩ V) ?_);rintro _ rfl;refine za V (zv V V V) (ze<|zE V (Jd hs)<|zr<|zn<|zk<|zp<|zd V<|za V (zz V)<|za V (zc (n:=1) V k9)<|za V (zg 0 V V V k9 zh)<|za V (Y7 (e:=9) V k9)<|za V (ZB V V)<|ze<|zW V (by simp;omega)<|zp<|zf V<|ze<|zQ (fn:=Tryz.f49) (s) [0,1,2,3,4] (fun _ _ h=>h) (Rs.le (Rs.one V<|zj V) ?_) d9 ⟨⟨_,V,⟨zb _,zF (by rw [Z7 h (ZE hn hs) hl]),zb _,t9⟩⟩,⟨⟨_,V,ZZ (by rw [Z7 h (ZE hn hs) hl]) (by rw [Z7 h (ZE hn hs) hl])⟩,⟨⟨_,V,(by rw [Z7 h (ZE hn hs) hl];exact yu _)⟩,⟨⟨_,V,(by rw [Z7 h (ZE hn hs) hl];exact yu _)⟩,⟨lR V,t9⟩⟩⟩⟩⟩)
 exact zF (by rw [Z7 h (ZE hn hs) hl])
theorem zhA (gb:Nat) (s:Bst) (l:List Acc.T) (a:Acc.T) (A:Option Addr) (c:Nat) (F:LN) (R:Res) (hR:qb R (.slice A a.key.length c) (cellsOf a.key)) (hf:Acc.Fine l) (h:Acc.ok a) (hn:a.name∉Acc.nm l) (hs:(a.role,a.num)∉Acc.seats l) (hl:¬256≤l.length):ConR Tryz.prog 49 [.c gb [isD<|.map<|s.M.map Prod.fst,isD<|.slice s.n.A (Acc.nm l).length s.n.c,isD<|.map<|s.M.map Prod.snd],.r s.n.F<|yP 9 1 YM s.n.A s.n.c<|Acc.nm l,.r s.F1<|Zc (s.M.map Prod.fst) Zi (Acc.nm l)<|acD l,.r s.F2<|Zc (s.M.map Prod.snd) Zy (Acc.seats l)<|seD l,.r F R] [pA gb,Zo [yY a.name,iD a.role,isD<|.slice A a.key.length c,iD a.dep,iD a.num]] (fun t:Bst=>[.c gb [isD<|.map<|t.M.map Prod.fst,isD<|.slice t.n.A (Acc.nm (Acc.add l a).1).length t.n.c,isD<|.map<|t.M.map Prod.snd],.r t.n.F<|yP 9 1 YM t.n.A t.n.c<|Acc.nm (Acc.add l a).1,.r t.F1<|Zc (t.M.map Prod.fst) Zi (Acc.nm (Acc.add l a).1)<|acD (Acc.add l a).1,.r t.F2<|Zc (t.M.map Prod.snd) Zy (Acc.seats (Acc.add l a).1)<|seD (Acc.add l a).1,.r F R]) (fun t:Bst=>iD (Acc.add l a).2):=by
 refine yg Tryz.func49 k9 V k9 fun base w0=>(zp (SWl.e2 (S:=[]) (yv V V) fun g3=>(zf V<|ze<|zk<|zp<|zd V<|za V (YS V V k9)<|ze<|zE V V<|zr<|zn<|zk<|zp<|za V (zA 5 5 V V k9 V zh)<|zt (S:=[]) (zD [] (q8 a.name a.role a.key.length a.dep a.num) V ⟨(zo<|ZM ⟨zb _,zb _,qs,zb _,zb _,t9⟩),t9⟩ V)<|za V (yS V)<|ze<|zE V (by rw [Jo (show Acc.okN _ _ _ _ _ from h)];rfl)<|zr<|zn<|zk<|zk<|yh [] (rr [0,1,2,3,4,5,6,7,8,9]<|.n 10 (.e 11 (.r 12 .fin) .no) .no) k9 k9 (fun d _ _ _ _ h=>by cases d <;> exact h)<|zL V V<|zl V V (zz V)<|zl V V (zc (n:=0) V k9)<|zl V V (zg 0 V V V k9 zh)<|zl V V (zc (n:=0) V k9)<|zl V V (zg 5 V V V k9 zh)<|zl V V ((Zu (jZ (kt:=9) (et:=121) (z:= .agg #[.string ⟨#[]⟩,.int .i64 0,.slice none 0 0,.int .i64 0,.int .i64 0]) (ok:=true) 2 V V V (zb _) k9 k9 (zc4 _) hn zh) zf7))<|zL V V<|zl V V (zm V V) ?_)))
 refine zl V V (zm V V) (ZA V (EfB.alloc (zs:=[.string ⟨#[]⟩,.int .i64 0,.slice none 0 0,.int .i64 0,.int .i64 0]) k9 V) ?_ yf);rintro g5 _ rfl;refine yy V (zw 6 V V V k9 V<|mR _ mC) (Zh V V<|yI<|zp<|zd V<|zd V<|zy V (zI V)<|zy V (zc (n:=1) V k9)<|zy V (zg 5 V V V k9 zh)<|zy V (zc (n:=4) V k9)<|zy V (zg 5 V V V k9 zh)<|ZD (S:=[]) V V V V (zD [0,2,1,3] (zbb l a.role a.num) V ⟨(yG 0 V d9 ⟨(yV 2 V d9),(YC 1 V d9),(yV 3 V d9),t9⟩),(zo<|zb _),(zo<|zb _),t9⟩ V) ?_);rintro _ rfl;refine za V (zv V V V) (ze<|zE V (Jd hs)<|zr<|zn<|zk<|zp<|zd V<|za V (zz V)<|za V (zc (n:=1) V k9)<|za V (zg 0 V V V k9 zh)<|za V (Y7 (e:=9) V k9)<|za V (ZB V V)<|ze<|zE V (by simp;omega)<|zr<|zn<|zp<|zd V<|za V (zA 5 5 V V k9 V zh) (SWl.e2 (zC [0,1,2,3,4] (con_put gb s l a A c F R hR (by have:=h.2.1;omega) (by have:=hf.len;omega)<|zf5 hf h (ZE hn hs) o9) V ⟨zb _,zb _,t9⟩ d9 (sX V) (fun _ h=>h) V) fun s39=>(zV<|zf V<|ze<|zQ (fn:=Tryz.f49) (s39) [2,3,4,5,6] (fun _ _ h=>h) (Rs.le (Rs.one V<|zj V) ?_) d9 ⟨⟨_,V,⟨zb _,zF (by rw [Ya h (ZE hn hs) hl]),zb _,t9⟩⟩,⟨⟨_,V,ZZ (by rw [Ya h (ZE hn hs) hl]) (by rw [Ya h (ZE hn hs) hl])⟩,⟨⟨_,V,(by rw [Ya h (ZE hn hs) hl];exact yu _)⟩,⟨⟨_,V,(by rw [Ya h (ZE hn hs) hl];exact yu _)⟩,⟨lR V,t9⟩⟩⟩⟩⟩)))
 exact zF (by rw [Ya h (ZE hn hs) hl])
theorem con_add (gb:Nat) (s:Bst) (l:List Acc.T) (a:Acc.T) (A:Option Addr) (c:Nat) (F:LN) (R:Res) (hR:qb R (.slice A a.key.length c) (cellsOf a.key)) (hf:Acc.Fine l):
  ConR Tryz.prog 49 [zhF gb s l,zhE s l,zhG s l,zhD s l,.r F R] [pA gb,Zo [yY a.name,iD a.role,isD<|.slice A a.key.length c,iD a.dep,iD a.num]]
   (fun t:Bst=>[zhF gb t (Acc.add l a).1,zhE t (Acc.add l a).1,zhG t (Acc.add l a).1,zhD t (Acc.add l a).1,.r F R]) (fun _=>iD (Acc.add l a).2):=by
 by_cases h:Acc.ok a
 ·by_cases hn:a.name∈Acc.nm l
  ·exact zdm gb s l a A c F R hR hf h hn
  ·by_cases hs:(a.role,a.num)∈Acc.seats l
   ·exact zdl gb s l a A c F R hR hf h hn hs
   ·by_cases hl:256≤l.length
    ·exact zew gb s l a A c F R hR hf h hn hs hl
    ·exact zhA gb s l a A c F R hR hf h hn hs hl
 ·exact zfD gb s l a A c F R hR hf h
end
section
section
variable {P:Program}{Γ:Cx}{σ:St}{Q:Exit→Act→World→Prop}{a:Act}{w:World}
theorem K8 {ops:Array Oper} {lo:List Oper} (k:Nat) {d0 d1 d3 d4:D} {b:LB} (hk:σ.tm k=some (Zo [d0,d1,bD b,d3,d4])) (h:∀ A cp,SWl P Γ ops Q lo<|(⟨σ.tm,σ.bx ++ [.r []<|Vz (.slice A b.length cp)<|cellsOf b]⟩:St).put k<|Zo [d0,d1,isD<|.slice A b.length cp,d3,d4]):SWl P Γ ops Q lo σ:=fun a w hh=>by
 obtain ⟨cs,hv,ha⟩:=hh.tm k _ hk
 match cs,ha with
 | [u0,u1,v,u3,u4],ha=>
  obtain ⟨h0,h1,⟨A,c,hvv,hc,hr,hn⟩,h3,h4,-⟩:=ha;rw [zx] at hvv hc;refine h A c a w ?_;have h5:=hh.more (Only.refl [] w) (b:= .r []<|Vz (.slice A b.length c)<|cellsOf b) ⟨⟨A,c,by rw [zx],by rw [zx];exact hc,hr,fun h0 p hp=> .inr<|hn h0 p hp⟩,by simp⟩ (by simp [Box.fp]) (by simp [Box.fp]);have hL:∀ x∈St.L Γ ⟨σ.tm,σ.bx ++ [.r []<|Vz (.slice A b.length c)<|cellsOf b]⟩,x∈σ.L Γ∨w.heap.size≤x:=fun x hx=> .inl (by simpa [St.L,fps,Box.fp] using hx);exact h5.learn ⟨[u0,u1,v,u3,u4],hv,D.less _ h0 hL,D.less _ h1 hL,hvv,D.less _ h3 hL,D.less _ h4 hL,t9⟩
end
theorem Kt {l:List Acc.T} {i:Nat} {x:Acc.T} (h:Acc.inOrder l) (hx:l[i]? =some x):∀ y∈l.take i,Acc.lt y.name x.name=true:=by
 intro y hy;obtain ⟨j,hj,e⟩:=List.mem_iff_getElem.1 hy;have hil:=(Jg.1 hx).1
 have hji:j < i:=by simp at hj;omega
 have h1:=List.pairwise_iff_getElem.1 h j i o9 hil hji;rw [List.getElem_take] at e;rw [← e,← (Jg.1 hx).2];exact h1
theorem zd8 {l:List Acc.T} (h:Acc.Fine l) (i:Nat):Acc.Fine (l.take i):=
 ⟨h.srt.sublist<|List.take_sublist _ _,fun a ha=>h.oks a<|List.mem_of_mem_take ha,h.uni.sublist<|List.take_sublist _ _,by have:=h.len;simp;omega⟩
theorem zax {α:Type} {p:α→Bool}:∀ {l:List α},(∀ x∈l,p x=true)→l.takeWhile p=l∧l.dropWhile p=[]
 | [],_=>⟨rfl,rfl⟩
 | x :: l,h=>by
  obtain ⟨h1,h2⟩:=zax (l:=l) (fun y hy=>h y<|Jl _ hy);have h3:=h x mC;exact ⟨by rw [List.takeWhile_cons,Jh h3,h1],by rw [List.dropWhile_cons,Jh h3,h2]⟩
theorem zab {l:List Acc.T} {i:Nat} {x:Acc.T} (h:Acc.inOrder l) (hx:l[i]? =some x):Acc.ins (l.take i) x=l.take (i + 1):=by
 have h1:=Kt h hx;have e1:(l.take i).takeWhile (fun y=>Acc.lt y.name x.name)=l.take i:=(zax fun y hy=>h1 y hy).1;have e2:(l.take i).dropWhile (fun y=>Acc.lt y.name x.name)=[]:=(zax fun y hy=>h1 y hy).2;unfold Acc.ins;rw [e1,e2,yr hx]
theorem zdA {l:List Acc.T} {i:Nat} {x:Acc.T} (h:Acc.Fine l) (hx:l[i]? =some x):Acc.Free (l.take i) x:=by
 have hil:=(Jg.1 hx).1;refine ⟨zd8 h i,by rw [zab h.srt hx];exact zd8 h _,fun hm=> ?_,fun h3 hm=> ?_⟩
 ·obtain ⟨y,hy,e⟩:=JI.1 hm;exact Acc.lt_ne (Kt h.srt hx y hy) e
 ·obtain ⟨y,hy,h4,e⟩:=Acc.mem_seats.1 hm;injection e with e1 e2;have:=Acc.seats_uni h.uni (List.mem_of_mem_take hy) (Jc hx) h4 e1 e2;have h5:=Kt h.srt hx y hy;rw [this,Acc.lt_irr] at h5
  cases h5
theorem bldBk0:Bld Tryz.prog 117 [] [] [isD<|.map none,isD<|.slice none 0 0,isD<|.map none]:=fun L w vs h=>by
 obtain rfl:=all0 h;exact ⟨[.map none,.slice none 0 0,.map none],⟨V,V,V,t9⟩,fun w'=>by kernel_rfl⟩
end
section
theorem qn (r:Int):(if r=3 then 1 else if r=2 then 32 else if r=1 then 512 else 0)=Acc.nums r:=by
 unfold Acc.nums
 by_cases h1:r=1
 ·subst h1;rfl
 ·by_cases h2:r=2
  ·subst h2;rfl
  ·by_cases h3:r=3
   ·subst h3;rfl
   ·simp [h1,h2,h3]
theorem qm {nm:LB} {role:Int} {kl:Nat} {dep num:Int} (h1:Acc.isName nm) (h2:kl=32) (h3:0≤dep) (h4:dep≤1125899906842624) (h5:0≤num):Acc.okN nm role kl dep num↔num < Acc.nums role:=Acc.okN_iff h1 h2 o9 o9 o9
def Acc.eqv (a b:Acc.T):Prop:=a.name=b.name∧a.role=b.role∧a.key=b.key∧a.dep=b.dep∧a.num=b.num
instance (a b:Acc.T):Decidable (Acc.eqv a b):=by unfold Acc.eqv;infer_instance
def Vw (l:List Acc.T) (n:LB):Int:=match l.findIdx? (fun x=>decide (x.name=n)) with | some i=>(i:Int) | none=> -1
theorem idx_some {α:Type} {p:α→Bool} {l:List α} {i:Nat} {x:α} (hx:l[i]? =some x) (hp:p x=true) (hn:∀ y∈l.take i,p y=false):l.findIdx? p=some i:=by
 obtain ⟨hi,e⟩:=Jg.1 hx;rw [List.findIdx?_eq_some_iff_getElem];refine ⟨hi,by rw [e];exact hp,fun j hj=> ?_⟩;have:=hn l[j] (List.mem_take_iff_getElem.2 ⟨j,by omega,rfl⟩);rw [this];simp
theorem idx_no {α:Type} {p:α→Bool} {l:List α} (hn:∀ y∈l,p y=false):l.findIdx? p=none:=by
 rw [List.findIdx?_eq_none_iff];exact hn
theorem zac {l:List Acc.T} {n:LB} {i:Nat} {x:Acc.T} (hx:l[i]? =some x) (hp:x.name=n) (hn:∀ y∈l.take i,y.name≠n):Vw l n=i:=by
 unfold Vw;rw [idx_some hx (by simpa using hp) (fun y hy=>by simpa using hn y hy)]
theorem zcM {l:List Acc.T} {n:LB} (hn:∀ y∈l,y.name≠n):Vw l n= -1:=by
 unfold Vw;rw [idx_no (fun y hy=>by simpa using hn y hy)]
theorem zeW (l:List Acc.T) (n:LB):(Vw l n= -1∧Acc.find l n=none)∨∃ (i:Nat) (x:Acc.T),Vw l n=i∧l[i]? =some x∧Acc.find l n=some x:=by
 rcases hf:Acc.find l n with _ | x
 ·exact .inl ⟨zcM fun y hy e=>Acc.find_none.1 hf ⟨y,hy,e⟩,V⟩
 ·right
  unfold Acc.find at hf;obtain ⟨h1,us,vs,e,h2⟩:=List.find?_eq_some_iff_append.1 hf;refine ⟨us.length,x,?_,by rw [e];simp,rfl⟩;refine zac (x:=x) (by rw [e];simp) (by simpa using h1) fun y hy=> ?_;rw [e,List.take_left] at hy;have:=h2 y hy;simpa using this
class IsSl (d:D):Prop where
 h:∀ L w v,d.R L w v→∃ A n c,v= .slice A n c
instance (A:Option Addr) (n c:Nat):IsSl (isD<|.slice A n c):=⟨fun _ _ _ h=>⟨A,n,c,h⟩⟩
instance (xs:List Value):IsSl (slD xs):=⟨fun _ _ _ ⟨A,c,h,_⟩=>⟨A,_,c,h⟩⟩
instance (n:Nat) (ds:List D):IsSl (rwD n ds):=⟨fun _ _ _ ⟨A,c,h,_⟩=>⟨A,_,c,h⟩⟩
instance (n:Nat) (d:D) [h:IsSl d]:IsSl (nwD n d):=⟨fun L w v hv=>h.h _ _ _<|zaR _ _ _ hv⟩
theorem bldRB {f:D} [hd:IsSl f]:Bld Tryz.prog 31 [0] [f] [f]:=fun L w vs hv=>by
 obtain ⟨u,rfl,hu⟩:=zeG hv;obtain ⟨A,n,c,rfl⟩:=hd.h _ _ _ hu;exact ⟨[.slice A n c],⟨hu,t9⟩,fun w'=>by kernel_rfl⟩
def Acc.out (l:List Acc.T) (a:Acc.T) (i:Nat):List Acc.T:=if Acc.pos l a.name < i then l.take (Acc.pos l a.name) ++ a :: (l.take i).drop (Acc.pos l a.name) else l.take i
theorem zdz (l:List Acc.T) (a:Acc.T):Acc.out l a 0=[]:=by unfold Acc.out;rw [Jb<|Nat.not_lt_zero _];rfl
theorem zf1 {l:List Acc.T} {a:Acc.T} {i:Nat} (h:i≤l.length):(Acc.out l a i).length≤i + 1:=by
 unfold Acc.out
 split
 ·simp;omega
 ·simp;omega
theorem zhW {l:List Acc.T} {a:Acc.T} {i:Nat} {x:Acc.T} (hx:l[i]? =some x) (h:i=Acc.pos l a.name):Acc.out l a (i + 1)=Acc.out l a i ++ [a] ++ [x]:=by
 have hi:=(Jg.1 hx).1;unfold Acc.out;rw [Jh o9,Jb o9,← h,yr hx,J3 (by simp;omega),List.drop_of_length_le (by simp;omega)];simp
theorem zf3 {l:List Acc.T} {a:Acc.T} {i:Nat} {x:Acc.T} (hx:l[i]? =some x) (h:i < Acc.pos l a.name):Acc.out l a (i + 1)=Acc.out l a i ++ [x]:=by
 unfold Acc.out;rw [Jb o9,Jb o9,yr hx]
theorem zf4 {l:List Acc.T} {a:Acc.T} {i:Nat} {x:Acc.T} (hx:l[i]? =some x) (h:Acc.pos l a.name < i):Acc.out l a (i + 1)=Acc.out l a i ++ [x]:=by
 have hi:=(Jg.1 hx).1;unfold Acc.out;rw [Jh o9,Jh h,yr hx,J3 (by simp;omega)];simp
theorem zf2 {l:List Acc.T} {a:Acc.T} (h:Acc.pos l a.name < l.length):Acc.out l a l.length=Acc.ins l a:=by
 unfold Acc.out;rw [Jh h,List.take_length,Acc.ins_eq]
theorem zeU {l:List Acc.T} {a:Acc.T} (h:¬Acc.pos l a.name < l.length):Acc.out l a l.length ++ [a]=Acc.ins l a:=by
 have:=Acc.pos_le l a.name;unfold Acc.out;rw [Jb h,List.take_length,Acc.ins_eq,Ji o9,List.drop_of_length_le o9]
theorem zaa {l:List Acc.T} {a x:Acc.T} {i:Nat} (h:Acc.inOrder l) (hx:l[i]? =some x) (hne:x.name≠a.name) (hi:¬Acc.pos l a.name < i):Acc.lt a.name x.name=decide (i=Acc.pos l a.name):=by
 have hil:=(Jg.1 hx).1
 have hv:(l.map Acc.T.name)[i]?.getD a.name=x.name:=by simp [hx]
 by_cases e:i=Acc.pos l a.name
 ·rw [Jo e];have h1:=Acc.pos_ge (n:=a.name) h (Nat.le_of_eq e.symm);rw [hv] at h1;rcases Acc.lt_tri a.name x.name with h2 | h2 | h2
  ·exact h2
  ·exact absurd h2.symm hne
  ·rw [h1] at h2;cases h2
 ·rw [Jd e];have h1:=Acc.pos_lt (l:=l) (n:=a.name) (t:=i) o9;rw [hv] at h1;exact Acc.lt_asym h1
