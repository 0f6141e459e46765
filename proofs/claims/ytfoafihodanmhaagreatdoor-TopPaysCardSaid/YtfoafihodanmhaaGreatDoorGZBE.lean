/- TOP: the auction: prices, clocks. ACCOUNTS: keys of maps, the shelf's functions at this program. ACCOUNTS: named, Valid, copied. ACCOUNTS: books as th -/
import Derived.Test.YtfoafihodanmhaaGreatDoorGZBD
import Derived.Test.YtfoafihodanmhaaGreatDoorChecked
import Derived.Lib.AppendStr
set_option maxHeartbeats 8000000
set_option maxRecDepth 100000
namespace Go.Proofs.YtfoafihodanmhaaGreatDoor
open Go.RowKit
namespace Sx
section
structure Tp.Au where
 cat:List Tp.Pr
 bs:List Tp.Bd
 ac:Int
 st:Int
 key:LB
 rd:Nat
 pr:List Int
structure Tp.AOk (a:Tp.Au):Prop where
 vb:Tp.VB a.cat a.bs
 hl:a.cat.length≤1000
 c0:1≤a.ac
 c1:a.ac≤100
 s0:1≤a.st
 s1:a.st≤50
 k0:1≤a.key.length
 k1:a.key.length≤32
 pl:a.pr.length=a.cat.length
 pb:∀ (i:Nat) x,a.pr[i]? =some x→0≤x∧x≤549755813888
 rd:a.rd≤1000
def Y7 (a:Tp.Au):Nat→Int:=Tp.ex a.cat (fun k=>Tp.tot k a.bs)
theorem Tp.AOk.tot {a:Tp.Au} (h:Tp.AOk a) (k:Nat):0≤Tp.tot k a.bs∧Tp.tot k a.bs≤384:=by
 have:=h.vb.tot k a.bs.length;rwa [List.take_length] at this
def Tp.Dn (a:Tp.Au):Prop:=∀ k < a.cat.length,Y7 a k≤0
theorem Tp.Dn.su {a:Tp.Au} (h:Tp.Dn a) {k:Nat} {p:Tp.Pr} (hp:a.cat[k]? =some p):Tp.tot k a.bs≤p.su:=by
 have h1:=h k (List.getElem?_eq_some_iff.1 hp).1;unfold Y7 Tp.ex at h1;rw [WV hp] at h1;dsimp only at h1;omega
theorem tbl_any {f:Nat→Int} {n:Nat}:(∃ x∈zB f n,decide (x > 0)=true)↔¬ ∀ k < n,f k≤0:=by
 constructor
 ·rintro ⟨x,hx,h⟩ hall;obtain ⟨k,hk⟩:=List.getElem?_of_mem hx
  have hkn:k < n:=by have:=(Jg.1 hk).1;rwa [zW] at this
  rw [yU hkn] at hk;have h1:=JN hk;have h2:=hall k hkn;have h3:=oT h;omega
 ·intro h;obtain ⟨k,hk⟩:=Classical.not_forall.1 h;obtain ⟨hkn,hk2⟩:=Classical.not_imp.1 hk;exact ⟨f k,Jc<|yU hkn,Jo o9⟩
def za6 (st p e:Int):Int:=if e > 0 then p + max (p * st / 100) 1 else p
theorem zcC {st p e:Int} (h0:0≤p) (h1:p≤549755813888) (s0:1≤st) (s1:st≤50):0≤p * st∧p * st≤27487790694400∧p≤za6 st p e∧za6 st p e≤1099511627776:=by
 have hm:0≤p * st:=Int.mul_nonneg h0 o9;have h2:=Int.mul_le_mul h1 s1 o9 (by omega:(0:Int)≤549755813888);unfold za6;refine ⟨hm,by omega,?_,?_⟩
 ·split <;> omega
 ·split <;> omega
def VF (a:Tp.Au) (k:Nat):Int:=(a.pr[k]?).getD 0
theorem WX {a:Tp.Au} {k:Nat} {x:Int} (h:a.pr[k]? =some x):VF a k=x:=by rw [VF,h];rfl
def Yd (a:Tp.Au) (k:Nat):Int:=za6 a.st (VF a k) (Y7 a k)
theorem Tp.pr_tbl {a:Tp.Au}:a.pr=zB (VF a) a.pr.length:=by
 refine Xh fun i=> ?_
 by_cases h:i < a.pr.length
 ·rw [yU h,WX<|Je h,Je h]
 ·rw [JM o9,JM (by rw [zW];omega)]
def qq (a:Tp.Au) (i k:Nat):Int:=if k < i then Yd a k else VF a k
theorem zfA {a:Tp.Au} {i n:Nat} {v:Int} (hi:i < n) (hv:v=Yd a i):(zB (qq a i) n).set i v=zB (qq a<|i + 1) n:=
 Wd hi (by rw [qq,Jh o9,hv]) fun k _ hk=>by
  unfold qq
  by_cases h:k < i
  ·rw [Jh h,Jh o9]
  ·rw [Jb h,Jb o9]
theorem zdu {a:Tp.Au} {i n:Nat} (hv:VF a i=Yd a i):zB (qq a i) n=zB (qq a<|i + 1) n:=
 We fun k _=>by
  unfold qq
  by_cases h:k < i
  ·rw [Jh h,Jh o9]
  ·by_cases h2:k=i
   ·subst h2;rw [Jb h,Jh o9,hv]
   ·rw [Jb h,Jb o9]
theorem qP (a:Tp.Au) (hk:1≤a.key.length):ConN Tryz.prog 28 [paD [lsD yA a.cat,lsD yK a.bs,iD a.ac,iD a.st,bD a.key,iD (a.rd:Int),lsD z7 a.pr]] (yL false):=by
 refine YJ Tryz.func28 k9 I k9 fun base w0=>(zn<|zf I<|zN<|zd I<|za I (Rd.eqPA I I k9)<|zd I<|zJ I (zH I)<|zJ I (ZY I)<|zJ I (yo (n:=4) I k9 (show 4 < 7 by decide))<|zJ I (zS I I k9 s9)<|zJ I (Rd.len (e:=5) I k9)<|zJ I (Zr I I)<|za I (zw I I I)<|zf I<|ze<|zO (fn:=Tryz.f28) (fun _ _ h=>h)<|Rs.le (zG I<|zk I) ?_);exact yO (Jd (by rw [ye];omega))
theorem VV (a:Tp.Au) (ho:Tp.AOk a):ConR Tryz.prog 76 [] [paD [lsD yA a.cat,lsD yK a.bs,iD a.ac,iD a.st,bD a.key,iD (a.rd:Int),lsD z7 a.pr]] (fun t:Wst=>[.r t.F<|yi 3 1 z7 t.A t.c<|zB (fun k=>Tp.tot k a.bs) a.cat.length]) (fun t:Wst=>isD<|.slice t.A (zB (fun k=>Tp.tot k a.bs) a.cat.length).length t.c):=by
 refine yt Tryz.func76 k9 I k9 fun base w0=>(zn<|zf I<|ze<|zh<|yl [] (rr [0,1,2,3,4,5,6,7]<|.n 8 (rr [9,10,11,12,13] .fin) .no) k9 k9 (fun d _ _ _ _ h=>by cases d <;> exact h)<|zz I I<|zl I I (ZY I)<|zl I I (yo (n:=0) I k9 (show 0 < 7 by decide))<|zl I I (zS I I k9 s9)<|zz I I<|zl I I (ZY I)<|zl I I (yo (n:=1) I k9 (show 1 < 7 by decide))<|zl I I (zS I I k9 s9)<|jo I (Yu (con_total a.cat a.bs (by have:=ho.hl;omega) ho.vb) I ⟨zc _,zc _,t9⟩ I) ?_ yB)
 rintro _ _ ⟨s,rfl,rfl⟩;refine zz I I (zl I I (zo I I)<|zl I I (zo I I)<|yR I I<|yR I I<|yE<|zn<|zd I<|zf I<|ze<|zV (fn:=Tryz.f76) (s) [0] (fun _ _ h=>h) (Rs.le (zG I<|zk I) ?_) d9 ⟨lR I,t9⟩);exact zc _
theorem zdh (a:Tp.Au) (ho:Tp.AOk a):ConN Tryz.prog 31 [paD [lsD yA a.cat,lsD yK a.bs,iD a.ac,iD a.st,bD a.key,iD (a.rd:Int),lsD z7 a.pr]] (lsD z7<|zB (Y7 a) a.cat.length):=by
 have hk:=ho.k0
 refine YJ Tryz.func31 k9 I k9 fun base w0=>(zn<|zf I<|ze<|zh<|zn<|zd I<|zu (S:=[]) (yX [] (qP a hk) I ⟨(zP<|zc _),t9⟩ I)<|ze<|zK I I<|zq<|zj<|zh<|yl [] (rr [0,1,2,3,4]<|.n 5 (.n 6 (rr [7,8,9,10,11] .fin) .no) .no) k9 k9 (fun d _ _ _ _ h=>by cases d <;> exact h)<|zz I I<|zl I I (ZY I)<|zl I I (yo (n:=0) I k9 (show 0 < 7 by decide))<|zl I I (zS I I k9 s9)<|zz I I<|jo I (Yu (VV a ho) I ⟨zc _,t9⟩ I) ?_ yB)
 rintro _ _ ⟨s,rfl,rfl⟩;refine yZ I (Ef.callNL [0] (zfe a.cat (fun k=>Tp.tot k a.bs) (by have:=ho.hl;omega) ho.vb.p (fun k _=>ho.tot k)) I ⟨(zP<|zc _),(KB 0 I d9),t9⟩ zeS I) (zz I I<|zl I I (zo I I)<|zl I I (zo I I)<|yR I I<|yR I I<|yE<|zn<|zd I<|zf I<|ze<|zO (fn:=Tryz.f31) (fun _ _ h=>h)<|Rs.le (zG I<|zk I) ?_);exact zc _
theorem con_done1 (n:Int):Con Tryz.prog 32 [iD n] (yL<|decide (n > 0)):=by
 refine yy Tryz.func32 k9 I k9 fun base w0=>(zn<|zf I<|zN<|zd I<|za I (yV I I)<|zf I<|ze<|zO (fn:=Tryz.f32) (fun _ _ h=>h)<|Rs.le (zG I<|zk I) ?_);exact zc _
theorem con_rd2 (n:Int):Con Tryz.prog 38 [iD n] (yL<|decide (n > 549755813888)):=by
 refine yy Tryz.func38 k9 I k9 fun base w0=>(zn<|zf I<|zN<|zd I<|za I (yV I I)<|zf I<|ze<|zO (fn:=Tryz.f38) (fun _ _ h=>h)<|Rs.le (zG I<|zk I) ?_);exact zc _
theorem WK (a:Tp.Au) (ho:Tp.AOk a):ConR Tryz.prog 9 [] [paD [lsD yA a.cat,lsD yK a.bs,iD a.ac,iD a.st,bD a.key,iD (a.rd:Int),lsD z7 a.pr]] (fun t:{b:Bool // b=true↔Tp.Dn a}=>[]) (fun t:{b:Bool // b=true↔Tp.Dn a}=>yL t.1):=by
 have hk:=ho.k0;refine yt Tryz.func9 k9 I k9 fun base w0=>(zn<|zf I<|zN<|zd I<|zu (S:=[]) (yX [] (qP a hk) I ⟨(zP<|zc _),t9⟩ I)<|za I (yu I)<|zd I<|zJ I (zH I)<|yN (S:=[]) I I I I (yX [] (zdh a ho) I ⟨(zP<|zc _),t9⟩ I) ?_);rintro _ rfl;refine yN (S:=[]) I I I I (yh [] (zej (zB (Y7 a) a.cat.length) (fun z=>decide (z > 0)) (by rw [zW];have:=ho.hl;omega)) I ⟨zc _,zc1 fun z _=>con_done1 z,t9⟩ d9 t9 (fun _ h=>h) I) ?_;rintro _ ⟨⟨b,hb⟩,rfl⟩
 refine zJ I (yu I) (za I (zE I I I)<|zf I<|ze<|zV (fn:=Tryz.f9) (⟨!b,by rw [tbl_any] at hb;cases b <;> simp_all [Tp.Dn]⟩) [] (fun _ _ h=>h) (Rs.le (zG I<|zk I) ?_) d9 t9)
 exact zc _
theorem zaO (a:Tp.Au) (ho:Tp.AOk a):ConN Tryz.prog 8 [paD [lsD yA a.cat,lsD yK a.bs,iD a.ac,iD a.st,bD a.key,iD (a.rd:Int),lsD z7 a.pr]] (lsD z7 a.pr):=by
 have hk:=ho.k0;refine YJ Tryz.func8 k9 I k9 fun base w0=>(zn<|zf I<|ze<|zh<|zn<|zd I<|zu (S:=[]) (yX [] (qP a hk) I ⟨(zP<|zc _),t9⟩ I)<|ze<|zK I I<|zq<|zj<|zn<|zd I<|za I (ZY I)<|za I (yo (n:=6) I k9 (show 6 < 7 by decide))<|za I (zS I I k9 s9)<|zu (S:=[]) (Ef.callNN [] (Vg a.pr (by have:=ho.pl;have:=ho.hl;omega)) I ⟨(zP<|zc _),t9⟩ I)<|zf I<|ze<|zO (fn:=Tryz.f8) (fun _ _ h=>h)<|Rs.le (zG I<|zk I) ?_);exact zc _
theorem zfj (a:Tp.Au) (ho:Tp.AOk a):ConN Tryz.prog 37 [paD [lsD yA a.cat,lsD yK a.bs,iD a.ac,iD a.st,bD a.key,iD (a.rd:Int),lsD z7 a.pr]] (lsD z7<|zB (Yd a) a.cat.length):=by
 have hk:=ho.k0;have hpl:=ho.pl;have hll:=ho.hl;have hs0:=ho.s0;have hs1:=ho.s1;refine YJ Tryz.func37 k9 I k9 fun base w0=>(zn<|zf I<|ze<|zh<|zn<|zd I<|zu (S:=[]) (yX [] (qP a hk) I ⟨(zP<|zc _),t9⟩ I)<|ze<|zK I I<|zq<|zj<|zn<|zd I<|za I (ZY I)<|za I (yo (n:=6) I k9 (show 6 < 7 by decide))<|za I (zS I I k9 s9) (SWl.e2 (S:=[]) (yh [] (Kj a.pr o9) I ⟨zc _,t9⟩ d9 t9 (fun _ h=>h) I) fun s=>(zf I<|ze<|zh<|zn<|zd I<|zu (S:=[]) (yX [] (zdh a ho) I ⟨(zP<|zc _),t9⟩ I)<|za I (zT (e:=3) I k9)<|zd I<|ze<|SW.block<|yd (ι:={i:Nat // i≤a.cat.length}) (fun i=>yb [(0,paD [lsD yA a.cat,lsD yK a.bs,iD a.ac,iD a.st,bD a.key,iD (a.rd:Int),lsD z7 a.pr]),(3,isD<|.slice s.A (zB (qq a i.1) a.pr.length).length s.c),(14,lsD z7<|zB (Y7 a) a.cat.length),(15,iD (a.cat.length:Int)),(16,iD (i.1:Int))] [.r s.F<|yi 3 1 z7 s.A s.c<|zB (qq a i.1) a.pr.length]) (fun i=>a.cat.length - i.1) (⟨0,JC _⟩) ?_ ?_)))
 ·exact ⟨⟨_,I,⟨lq I,⟨⟨_,I,zI (by rw [zW])⟩,⟨lq I,⟨⟨_,I,zI (by rw [zW])⟩,⟨lq I,t9⟩⟩⟩⟩⟩⟩,[0],by decide,⟨⟨_,rfl,YL (by rw [zW]) (by rw [show qq a 0=VF a from funext fun k=>Jb<|Nat.not_lt_zero _,← Tp.pr_tbl])⟩,trivial⟩⟩
 ·rintro ⟨i,hi⟩ K0 hK0;dsimp only at hi ⊢;refine zn (za I (yc I I)<|ze<|zh<|zC I (fun hb17=> ?_) (fun hb17=> ?_))
  ·have h17:(i:Int) < (a.cat.length:Int):=oT hb17;refine zq (zj<|zh<|SW.block<|zh ?_);obtain ⟨x,hx⟩:∃ x,a.pr[i]? =some x:=⟨_,Je o9⟩;have hxb:=ho.pb i x hx;have hxp:=WX hx;have hcb:=zcC (e:=Y7 a i) hxb.1 hxb.2 hs0 hs1;rw [← hxp] at hxb hcb;have hcm:qq a i i=VF a i:=Jb o9;refine zi (zd I<|za I (zU (e:=3) 1 I I k9 k9 o9 (by rw [J7];exact yU o9))<|za I (zS I I k9 s9)<|zf I<|zf I<|zN<|zd I<|za I (yV I I)<|ze<|zC I (fun hb22=> ?_) (fun hb22=> ?_))
   ·have h22:Y7 a i > 0:=oT hb22
    exact yl (s.F ++ []) (rr [0,1,2]<|.q 3<|rr [4,5,6]<|.q 7<|rr [8,9,10,11]<|.q 12<|rr [13,14,15,16,17]<|.e 18 .fin .no) k9 k9 (fun d _ _ _ _ h=>by cases d <;> exact h) (zz I I<|zz I I<|zl I I (yf 0 1 I I I k9 k9 o9 (by rw [zW];omega))<|ZX I I (yr 0 I I k9 (by rw [Int.toNat_natCast];exact yU o9) I zm)<|zz I I<|zz I I<|zl I I (yf 0 1 I I I k9 k9 o9 (by rw [zW];omega))<|ZX I I (yr 0 I I k9 (by rw [Int.toNat_natCast];exact yU o9) I zm)<|zz I I<|zl I I (ZY I)<|zl I I (yo (n:=2) I k9 (show 2 < 7 by decide))<|zl I I (yo (n:=1) I k9 (show 1 < 5 by decide))<|ZX I I (zS I I k9 s9)<|zl I I (Rd.mul I I ⟨by rw [hcm];omega,by rw [hcm];omega⟩)<|zl I I (Kq I I ⟨by rw [hcm];omega,by rw [hcm];omega,by decide⟩)<|zl I I (zaf I I)<|zl I I (Rd.add I I ⟨by rw [hcm];omega,by rw [hcm];omega⟩)<|zl I I (yf 0 1 I I I k9 k9 o9 (by rw [zW];omega))<|Zm I (yM (v:=(qq a i i + max (qq a i i * a.st / 100) 1)) 0 I I I I k9 (by rw [zW];omega) (fun _ h=>mL _ h))<|y9<|SN.block<|zj<|zi<|za I (Rd.add I I ⟨by omega,by omega⟩)<|zd I<|zF (fun aK wK hh=>hK0 (⟨i + 1,by omega⟩) (by dsimp only;omega) aK wK<|hh.sub<|⟨⟨_,I,⟨lq I,⟨⟨_,I,zI (by simp only [zW])⟩,⟨lq I,⟨lq I,⟨⟨_,I,zI s9⟩,t9⟩⟩⟩⟩⟩⟩,[0],by decide,⟨⟨_,rfl,(by dsimp only;rw [Int.toNat_natCast,zfA o9 (by rw [Yd,za6,if_pos h22,qq,if_neg o9])];exact zM _)⟩,trivial⟩⟩))
   ·have h22:¬Y7 a i > 0:=oF hb22;exact zq (SN.block<|zj<|zi<|za I (Rd.add I I ⟨by omega,by omega⟩)<|zd I<|zF (fun aK wK hh=>hK0 (⟨i + 1,by omega⟩) (by dsimp only;omega) aK wK<|hh.sub<|⟨⟨_,I,⟨lq I,⟨⟨_,I,zI (by simp only [zW])⟩,⟨lq I,⟨lq I,⟨⟨_,I,zI s9⟩,t9⟩⟩⟩⟩⟩⟩,[0],by decide,⟨⟨_,rfl,(by dsimp only;rw [zdu (by rw [Yd,za6,if_neg h22])];exact zM _)⟩,trivial⟩⟩))
  ·have h17:¬(i:Int) < (a.cat.length:Int):=oF hb17;refine zQ ?_
   repeat (first | refine zX ?_ | refine zY d9 ?_)
   refine zZ (zj<|zh<|SW.sub (σ':=yb [(3,isD<|.slice s.A (zB (Yd a) a.cat.length).length s.c)] [.r s.F<|yi 3 1 z7 s.A s.c<|zB (Yd a) a.cat.length]) (⟨⟨_,I,⟨⟨_,I,zI (by simp only [zW,hpl])⟩,t9⟩⟩,[0],by decide,⟨⟨_,rfl,YL (by simp only [zW,hpl]) (by rw [hpl,We (f:=qq a i) (g:=Yd a) fun k hk=>Jh o9])⟩,trivial⟩⟩)<|zi<|zd I<|zf I<|ze<|SW.freezeN 0 2 I I I (fun x=>show LeAll (z7 x) ((z7 x).map<|nwD _) from ⟨YH,t9⟩)<|zO (fn:=Tryz.f37) (fun _ _ h=>h)<|Rs.le (zG I<|zk I) ?_);exact zc _
end
section
end
section
theorem zfi (b:LB) (hb:b.length≤1000000):ConN Tryz.prog 27 [bD b] (bD b):=by
 refine YJ Tryz.func27 k9 I k9 fun base w0=>(zh (SW.lookB 0 I fun A c=>(zi<|zf I<|ze<|zh<|zn<|zd I<|za I (zcL (e:=5) I I k9)<|ze<|zC I (fun hb4=> ?_) (fun hb4=> ?_))))
 ·refine SW.viewN 0 I hb4 fun hnil=>(zn<|zf I<|ze<|zO (fn:=Tryz.f27) (fun _ _ h=>h)<|Rs.le (zG I<|zk I) ?_);subst hnil;exact Le.trans (YH (x:= .slice none 0 0)) (Vb (Js _) KX)
 ·skip
  refine zq (zj<|zn (SWl.e2 (S:=[]) (zah (e:=5) Ve 1 1 k9 k9 I) fun g5=>(zd I (SWl.e4 (YW 1 1 1 I I (SrcT.view 0 I I) k9 k9 (by simp <;> omega) d9 (fun _ h=>h) I) fun A7 F7 c7=>(zf I<|ze<|SW.freezeNB 1 2 I I I<|zO (fn:=Tryz.f27) (fun _ _ h=>h)<|Rs.le (zG I<|zk I) ?_)))))
  exact zc _
end
section
end
section
end
section
instance (a:Acc.T):Ones (encA a):=by unfold encA;infer_instance
end
section
end
section
end
section
section
variable {P:Program}{Γ:Cx}{σ:St}{Q:Exit→Act→World→Prop}{a:Act}{w:World}
end
end
section
def Acc.eqv (a b:Acc.T):Prop:=a.name=b.name∧a.role=b.role∧a.key=b.key∧a.dep=b.dep∧a.num=b.num
instance (a b:Acc.T):Decidable (Acc.eqv a b):=by unfold Acc.eqv;infer_instance
class IsSl (d:D):Prop where
 h:∀ L w v,d.R L w v→∃ A n c,v= .slice A n c
instance (A:Option Addr) (n c:Nat):IsSl (isD<|.slice A n c):=⟨fun _ _ _ h=>⟨A,n,c,h⟩⟩
instance (xs:List Value):IsSl (slD xs):=⟨fun _ _ _ ⟨A,c,h,_⟩=>⟨A,_,c,h⟩⟩
instance (n:Nat) (ds:List D):IsSl (rwD n ds):=⟨fun _ _ _ ⟨A,c,h,_⟩=>⟨A,_,c,h⟩⟩
instance (n:Nat) (d:D) [h:IsSl d]:IsSl (nwD n d):=⟨fun L w v hv=>h.h _ _ _<|le_nw _ _ _ hv⟩
end
section
end
section
theorem wrap8 (x:Int):IntKind.u8.wrap x=x % 256:=by simp [IntKind.wrap,IntKind.signed,IntKind.bits]
end
section
section
variable {P:Program}{Γ:Cx}{σ:St}{S:List Nat}{ty:TypeId}{pos:String}{af:Array Edge}{gd:Option (Nat × Bool)}
end
end
section
def grp (n:Nat):LB:=if h:n < 128 then [UInt8.ofNat n] else UInt8.ofNat (n % 128 + 128) :: grp (n / 128)
termination_by n
decreasing_by omega
theorem zb6 {n:Nat} (h:n < 128):grp n=[UInt8.ofNat n]:=by rw [grp,dif_pos h]
theorem grp_ge {n:Nat} (h:¬n < 128):grp n=UInt8.ofNat (n % 128 + 128) :: grp (n / 128):=by rw [grp,dif_neg h]
theorem grp_len:∀ (k n:Nat),n < 128 ^ (k + 1)→(grp n).length≤k + 1
 | 0,n,h=>by rw [zb6 (by simpa using h)];simp
 | k + 1,n,h=>by
  by_cases h1:n < 128
  ·rw [zb6 h1];simp
  ·rw [grp_ge h1,Xm];have:=grp_len k (n / 128) (Nat.div_lt_of_lt_mul (by rw [XI] at h;omega));omega
theorem zc3 {n:Nat} (h:n < 18446744073709551616):(grp n).length≤10:=grp_len 9 n (Ju h d9)
theorem u8_nat {n:Nat} (h:n < 256):(UInt8.ofNat n).toNat=n:=by rw [UInt8.toNat_ofNat'];omega
theorem or128:∀ b:Fin 256,bits .or .u8 ((b.val:Nat):Int) 128=((b.val % 128 + 128:Nat):Int):=by decide +kernel
theorem or128_w {m:Nat}:bits .or .u8 ((m % 256:Nat):Int) 128=((UInt8.ofNat<|m % 128 + 128).toNat:Int):=by
 have h:=or128 ⟨m % 256,Nat.mod_lt _ d9⟩;simp only at h;rw [h,u8_nat o9];congr 1;omega
theorem byte_w {m:Nat}:IntKind.u8.wrap (m:Int)=((m % 256:Nat):Int):=by rw [wrap8];omega
theorem low_w {m:Nat} (h:m < 128):IntKind.u8.wrap (m:Int)=((UInt8.ofNat m).toNat:Int):=by rw [wrap8,u8_nat o9];omega
theorem shr7_w {m:Nat}:(m:Int) / 2 ^ (min 7 IntKind.u64.bits)=((m / 128:Nat):Int):=by
 rw [show min 7 IntKind.u64.bits=7 from rfl,show (2:Int) ^ 7=128 from rfl];omega
theorem u64_w {n:Int} (h0:0≤n) (h:n≤9223372036854775807):IntKind.u64.wrap n=n:=Y8 h0 o9
theorem zfd (o:LB) (A:Option Addr) (c:Nat) (F:LN) (n:Nat) (hn:n < 18446744073709551616) (ho:o.length≤100000):ConR Tryz.prog 149 [.r F<|yi 5 1 Ve A c<|o] [isD<|.slice A o.length c,isD<|.int .u64 (n:Int)] (fun t:Ust=>[.r t.F<|yi 5 1 Ve t.A t.c<|o ++ grp n]) (fun t:Ust=>isD<|.slice t.A (o ++ grp n).length t.c):=by
 refine yt Tryz.func149 k9 I k9 fun base w0=>(zn<|zf I<|ze<|zh<|SW.block<|yd (ι:={p:Nat × LB × Ust // p.2.1 ++ grp p.1=o ++ grp n∧p.1≤n}) (fun ⟨(m,q,t),hq,hm⟩=>yb [(0,isD<|.slice t.A q.length t.c),(1,isD<|.int .u64 (m:Int))] [.r t.F<|yi 5 1 Ve t.A t.c<|q]) (fun ⟨(m,q,t),hq,hm⟩=>m) (⟨(n,o,⟨A,c,F⟩),I,Js _⟩) ?_ ?_)
 ·exact (sB [0] I I)
 ·rintro ⟨⟨m,q,t⟩,hq,hm⟩ K0 hK0;dsimp only at hq hm ⊢
  have hql:q.length≤100010:=by have h:=JY List.length hq;have:=zc3 hn;simp only [Jk] at h;omega
  refine zh (zn<|zd I<|za I (yV I I)<|ze<|zC I (fun hb6=> ?_) (fun hb6=> ?_))
  ·have h6:¬m < 128:=by have h:=oT hb6;omega
   exact zq (zj<|SW.block<|zn<|zd I<|zd I<|za I (ZZ (r:=((m % 256:Nat):Int)) .u64 I k9 k9 byte_w)<|za I (zcI (r:=((UInt8.ofNat<|m % 128 + 128).toNat:Int)) I I or128_w)<|zu (S:=[]) (zdD (e:=5) I I k9 k9 I) (SWl.e4 (YW 0 1 1 I I (SrcT.b (b:=[UInt8.ofNat<|m % 128 + 128]) I) k9 k9 (by simp <;> omega) d9 (fun _ h=>h) I) fun A12 F12 c12=>(zf I<|ze<|zi<|zd I<|za I (jJ (s:=7) (r:=((m / 128:Nat):Int)) I I shr7_w)<|zf I<|zF<|SN.block (fun a w hh=>hK0 (⟨(m / 128,q ++ [UInt8.ofNat<|m % 128 + 128],⟨A12,c12,F12⟩),by dsimp only;rw [List.append_assoc,← hq,grp_ge h6];rfl,by dsimp only;omega⟩) (by dsimp only;omega) a w<|hh.sub<|sB [0] I I))))
  ·have h6:m < 128:=by have h:=oF hb6;omega
   refine zQ ?_
   repeat (first | refine zX ?_ | refine zY d9 ?_)
   refine zZ (zj<|zn<|zd I<|zd I<|za I (ZZ (r:=((UInt8.ofNat m).toNat:Int)) .u64 I k9 k9<|low_w h6)<|zu (S:=[]) (zdD (e:=5) I I k9 k9 I) (SWl.e4 (YW 0 1 1 I I (SrcT.b (b:=[UInt8.ofNat m]) I) k9 k9 (by simp <;> omega) d9 (fun _ h=>h) I) fun A19 F19 c19=>(zf I<|ze<|zV (fn:=Tryz.f149) (⟨A19,c19,F19⟩) [0] (fun _ _ h=>h) (Rs.le (zG I<|zk I) ?_) d9 ⟨⟨_,I,YL (by rw [← hq,zb6 h6]) (by rw [← hq,zb6 h6])⟩,t9⟩)))
   exact zI (by rw [← hq,zb6 h6])
theorem con_ready (o:LB):ConN Tryz.prog 146 [paD [iD 0,bD o]] (yL true):=by
 refine YJ Tryz.func146 k9 I k9 fun base w0=>(zn<|zf I<|zN<|zd I<|za I (Rd.nePA I I k9)<|zd I<|zJ I (zH I)<|zJ I (ZY I)<|zJ I (yo (n:=0) I k9 (show 0 < 2 by decide))<|zJ I (yo (n:=0) I k9 (show 0 < 2 by decide))<|zJ I (zS I I k9 s9)<|zJ I (Zr I I)<|za I (zE I I I)<|zf I<|ze<|zO (fn:=Tryz.f146) (fun _ _ h=>h)<|Rs.le (zG I<|zk I) ?_);exact yO I
theorem con_keep (gw:Nat) (v0:Value) (A:Option Addr) (n c:Nat) (hn:n≤65536):ConR Tryz.prog 148 [.c gw [iD 0,isD v0]] [pA gw,isD<|.slice A n c] (fun _:Unit=>[.c gw [iD 0,isD<|.slice A n c]]) (fun _:Unit=>isD<|.tuple #[]):=by
 refine yt Tryz.func148 k9 I k9 fun base w0=>(zh<|zn<|zd I<|za I (Zx (e:=5) I k9)<|za I (yV I I)<|ze<|zK I (by simp;omega)<|zq<|zj<|zi<|zd I<|zd I<|za I (zL I)<|za I (zg (n:=1) I k9)<|zu (S:=[_]) (yW 0 I I I k9 I<|m9 I)<|zF ?_);refine Ko (fn:=Tryz.f148) (()) [0] (Rs.none I) d9 ⟨la I,t9⟩
end
section
theorem con_wUint (gw:Nat) (t:Ust) (o:LB) (n:Nat) (hn:n≤9223372036854775807) (ho:o.length + 10≤65536):ConR Tryz.prog 122 [.c gw [iD 0,isD<|.slice t.A (o).length t.c],.r t.F<|yi 5 1 Ve t.A t.c<|o] [pA gw,iD (n:Int)] (fun s:Ust=>[.c gw [iD 0,isD<|.slice s.A (o ++ grp n).length s.c],.r s.F<|yi 5 1 Ve s.A s.c<|o ++ grp n]) (fun s:Ust=>isD<|.tuple #[]):=by
 refine yt Tryz.func122 k9 I k9 fun base w0=>(zh<|zn<|zd I<|zu (S:=[]) (yX [0,1] (con_ready o) I ⟨(Yp 0 I d9 ⟨(zP<|zc _),(sees_vecB 1 I d9),t9⟩),t9⟩ I)<|za I (yu I)<|ze<|zK I I<|zq<|zj<|zh<|zn<|zd I<|za I (yc I I)<|ze<|zK I s9<|zq<|zj<|zi<|zd I<|zd I<|za I (zL I)<|za I (zg (n:=1) I k9)<|za I (zp 0 I I I k9 zm)<|zd I<|za I (ZZ (r:=(n:Int)) .i64 I k9 k9<|u64_w o9 o9) (SWl.e2 (yh [1] (zfd o t.A t.c t.F n o9 o9) I ⟨zc _,zc _,t9⟩ d9 ⟨lR I,t9⟩ (fun _ h=>h) I) fun sg=>(SWl.e2 (yh [0] (con_keep gw (.slice t.A o.length t.c) sg.A _ sg.c (by have:=zc3 (n:=n) o9;simp only [Jk];omega)) I ⟨zc _,zc _,t9⟩ d9 ⟨la I,t9⟩ (fun _ h=>h) I) fun _=>(zF ?_))));refine Ko (fn:=Tryz.f122) (sg) [1,0] (Rs.none I) d9 (sX I)
theorem con_wEnd (gw:Nat) (t:Ust) (o:LB) (ho:o.length≤65536):ConR Tryz.prog 123 [.c gw [iD 0,isD<|.slice t.A (o).length t.c],.r t.F<|yi 5 1 Ve t.A t.c<|o] [pA gw] (fun _:Unit=>[.c gw [iD 0,isD<|.slice t.A (o).length t.c],.r t.F<|yi 5 1 Ve t.A t.c<|o]) (fun _:Unit=>ZH [bD o,iD 0]):=by
 refine yt Tryz.func123 k9 I k9 fun base w0=>(zn<|zf I<|zf I<|ze<|zh<|zn<|zd I<|za I (Rd.eqP I I k9)<|ze<|zK I I<|zq<|zj<|zh<|zn<|zd I<|za I (zL I)<|za I (zg (n:=0) I k9)<|za I (zg (n:=0) I k9)<|za I (zp 0 I I I k9 zm)<|za I (yv I I)<|ze<|zK I d9<|zq<|zj<|zh<|Y5 5 1 Ve<|zi<|zd I<|za I (zL I)<|za I (zg (n:=1) I k9)<|za I (zp 0 I I I k9 zm) (SWl.e4 (YW 2 1 1 I I (SrcT.vec 1 I I) k9 k9 (by simp <;> omega) d9 (fun _ h=>h) I) fun A21 F21 c21=>(zf I ?_)))
 refine zf I (ze<|SW.freezeT 2 2 I I (zbo _) ?_);refine zV (fn:=Tryz.f123) (()) [0,1] (fun _ _ h=>h) (Rs.two I (zk I)<|zk I) d9 (sX I)
