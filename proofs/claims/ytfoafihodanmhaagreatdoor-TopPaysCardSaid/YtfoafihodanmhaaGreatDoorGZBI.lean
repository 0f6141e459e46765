/- TOP: Round. TOP: band: blocks (a drawing region in which many effects may be taken in any order). TOP: blocks, counts. -/
import Derived.Test.YtfoafihodanmhaaGreatDoorGZBH
set_option maxHeartbeats 8000000
set_option maxRecDepth 100000
namespace Go.Proofs.YtfoafihodanmhaaGreatDoor
open Go.RowKit
namespace Sx
section
structure Tp.Next (a b:Tp.Au):Prop where
 ok:Tp.AOk b
 cat:b.cat=a.cat
 up:Tp.Up a.cat.length a.pr b.pr
 rd:b.rd≤a.rd + 1
 nb:b.bs.length=a.bs.length
theorem Tp.Next.refl {a:Tp.Au} (h:Tp.AOk a):Tp.Next a a:=⟨h,rfl,⟨h.pl,fun i y x hy hx=>by
 rw [hx] at hy;obtain rfl:=JN hy
 exact ⟨Int.le_refl _,(h.pb i x hx).2⟩⟩,Nat.le_succ _,I⟩
theorem Tp.Next.of {a:Tp.Au} {cs:List Tp.Bd} {ys:List Int} (h:Tp.AOk a) (hrd:a.rd≤900) (hv:Tp.VB a.cat cs) (hn:cs.length=a.bs.length) (hu:Tp.Up a.cat.length a.pr ys):Tp.Next a ⟨a.cat,cs.map<|Tp.st a.cat a.ac,a.ac,a.st,a.key,a.rd + 1,ys⟩:=
 ⟨⟨hv.st h.c0 h.c1,h.hl,h.c0,h.c1,h.s0,h.s1,h.k0,h.k1,hu.1,fun i y hy=>by
  have hi:i < a.pr.length:=by rw [h.pl,← hu.1];exact (Jg.1 hy).1
  have hx:=Je hi;have h1:=hu.2 i y _ hy hx;have h2:=h.pb i _ hx
  omega,by show a.rd + 1≤1000;omega⟩,rfl,hu,Js _,by rw [JO];exact hn⟩
theorem Tp.clk_ok {a:Tp.Au} (h:¬ ∃ x∈zB (Yd a) a.cat.length,decide (x > 549755813888)=true):∀ k < a.cat.length,Yd a k≤549755813888:=fun k hk=>Decidable.byContradiction fun hn=>h ⟨_,Jc<|yU hk,Jo o9⟩
theorem Tp.ch_bd {l:List Tp.Pr} {bs:List Tp.Bd} {is:List Tp.Bi} (hok:∀ x∈is,Tp.OkI l bs x) {i:Nat} {v:Int} (hv:(is.map Tp.Bi.ch)[i]? =some v): -12≤v∧v≤12:=by
 rw [JJ] at hv
 cases hq:is[i]? with
 | none=>rw [hq] at hv;cases hv
 | some z=>
  rw [hq] at hv;obtain rfl:=JN hv;have hz:=hok z (Jc hq);exact ⟨hz.c0,hz.c1⟩
theorem con_round (ga:Nat) (a:Tp.Au) (ho:Tp.AOk a) (hrd:a.rd≤900) (is:List Tp.Bi) (hi0:is.length≤19) (hby:∀ x∈is,Byt x.pt.b x.pt.c):ConR Tryz.prog 10 [.c ga [lsD yA a.cat,lsD yK a.bs,iD a.ac,iD a.st,bD a.key,iD (a.rd:Int),lsD z7 a.pr]] [pA ga,lsD ZA is] (fun q:{q:Tp.Au × List Int × Int // Tp.Next a q.1}=>[.c ga [lsD yA q.1.1.cat,lsD yK q.1.1.bs,iD q.1.1.ac,iD q.1.1.st,bD q.1.1.key,iD (q.1.1.rd:Int),lsD z7 q.1.1.pr]]) (fun q:{q:Tp.Au × List Int × Int // Tp.Next a q.1}=>ZH [lsD z7 q.1.2.1,iD q.1.2.2]):=by
 have hk:=ho.k0;have hcl:=ho.hl;have hpl:=ho.pl;have hbn:=ho.vb.n
 refine yt Tryz.func10 k9 I k9 fun base w0=>(zn<|zf I<|zf I<|ze<|zh<|zn<|zd I<|zu (S:=[]) (yX [0] (qP a hk) I ⟨(Yp 0 I d9 ⟨(zP<|zc _),(zP<|zc _),(zP<|zc _),(zP<|zc _),(zP<|zc _),(zP<|zc _),(zP<|zc _),t9⟩),t9⟩ I)<|ze<|zK I I<|zq<|zj<|zh<|zn<|zd I<|Zc (S:=[]) (qW [0] (WK a ho) (fun _=>inferInstance) (fun _ b hb=>by first | (simp at hb;done) | (simp at hb;subst hb;infer_instance)) I ⟨(Yp 0 I d9 ⟨(zP<|zc _),(zP<|zc _),(zP<|zc _),(zP<|zc _),(zP<|zc _),(zP<|zc _),(zP<|zc _),t9⟩),t9⟩ I) ?_)
 rintro _ ⟨⟨dn,hdn⟩,rfl⟩;refine ze (zC I (fun hb17=> ?_) (fun hb17=> ?_))
 ·skip
  refine zn (zf I<|zf I<|ze<|zV (fn:=Tryz.f10) (⟨(a,[],8),Tp.Next.refl ho⟩) [0] (fun _ _ h=>h) (Rs.le (Rs.two I (zk I)<|zk I) ?_) d9 ⟨la I,t9⟩);exact Zf ⟨ZD,zc _,t9⟩
 ·skip
  refine zq (zj<|zh<|zh<|yl [] (rr [0,1,2,3,4,5,6,7,8]<|.n 9 (rr [10,11,12]<|.n 13 (.r 14 .fin) .no) .no) k9 k9 (fun d _ _ _ _ h=>by cases d <;> exact h)<|zz I I<|zl I I (zL I)<|zl I I (zg (n:=0) I k9)<|zl I I (zp 0 I I I k9 zm)<|zz I I<|zl I I (zL I)<|zl I I (zg (n:=1) I k9)<|zl I I (zp 0 I I I k9 zm)<|zz I I<|jo I (Yu (con_vbids a.cat a.bs is o9 o9 ho.vb) I ⟨zc _,zc _,zc _,t9⟩ I) ?_ yB)
  rintro _ _ ⟨⟨vb,hvb⟩,rfl,rfl⟩;refine zl I I (yu I) (zz I I<|Zq 29 I (fun hb29=> ?_) (fun hb29=> ?_))
  ·skip
   refine zD I I I hb29 I I (YK I I I (hb29) I I ?_ yB);refine zl I I (zE I hb29 I) (yE<|yj I I<|zn<|zf I<|zf I<|ze<|zV (fn:=Tryz.f10) (⟨(a,[],2),Tp.Next.refl ho⟩) [0] (fun _ _ h=>h) (Rs.le (Rs.two I (zk I)<|zk I) ?_) d9 ⟨la I,t9⟩);exact Zf ⟨ZD,zc _,t9⟩
  ·skip
   refine zy I I I hb29 I I (zH I) (SWz.eflg I I I (hb29) I (Yu (con_conBi is o9 hby) I ⟨zc _,zc _,t9⟩ I) ?_ yB);rintro _ _ ⟨⟨pb,hpb⟩,rfl,rfl⟩;refine zl I I (zw I hb29 I) (yE<|zC I (fun hb32=> ?_) (fun hb32=> ?_))
   ·skip
    refine zn (zf I<|zf I<|ze<|zV (fn:=Tryz.f10) (⟨(a,[],2),Tp.Next.refl ho⟩) [0] (fun _ _ h=>h) (Rs.le (Rs.two I (zk I)<|zk I) ?_) d9 ⟨la I,t9⟩);exact Zf ⟨ZD,zc _,t9⟩
   ·skip
    refine zq (zj<|zn<|zd I<|zu (S:=[]) (yX [0] (zfj a ho) I ⟨(Yp 0 I d9 ⟨(zP<|zc _),(zP<|zc _),(zP<|zc _),(zP<|zc _),(zP<|zc _),(zP<|zc _),(zP<|zc _),t9⟩),t9⟩ I)<|zf I<|ze<|zh<|zn<|zd I<|Zc (S:=[]) (yh [] (zej (zB (Yd a) a.cat.length) (fun z=>decide (z > 549755813888)) (by rw [zW];omega)) I ⟨zc _,zc1 fun z _=>con_rd2 z,t9⟩ d9 t9 (fun _ h=>h) I) ?_);rintro _ ⟨⟨cb,hcb⟩,rfl⟩;refine ze (zC I (fun hb36=> ?_) (fun hb36=> ?_))
    ·skip
     refine zn (zf I<|zf I<|ze<|zV (fn:=Tryz.f10) (⟨(a,[],7),Tp.Next.refl ho⟩) [0] (fun _ _ h=>h) (Rs.le (Rs.two I (zk I)<|zk I) ?_) d9 ⟨la I,t9⟩);exact Zf ⟨ZD,zc _,t9⟩
    ·skip
     refine zq (zj<|zh ?_);have hok:=(hvb<|qp hb29).2;have hpt:=hpb hb32
     have hcb2:¬ ∃ x∈zB (Yd a) a.cat.length,decide (x > 549755813888)=true:=fun h=>by have h2:cb=false:=hb36;rw [hcb.2 h] at h2;cases h2
     refine zi (zd I<|zd I<|Zc (yh [0] (con_begin ga a ho is hi0 (hvb<|qp hb29).2<|hpb hb32) I ⟨zc _,zc _,t9⟩ d9 ⟨la I,t9⟩ (fun _ h=>h) I) ?_);rintro _ ⟨⟨⟨gr,od,b,t,r,m⟩,hq1,hq2,hq3⟩,rfl⟩;refine zd I (za I (zo I I)<|za I (zo I I)<|zf I<|zf I<|ze<|zh<|zn<|zd I<|za I (yv I I)<|ze<|zK I I<|zq<|zj<|zh<|SW.sub (σ':=yb [(0,_),(1,_),(6,_),(7,_)] [_,_,_,_,_,_,_]) (sB [0,1,2,3,4,5,6] I I)<|zi<|zd I<|zu (S:=[]) (yX [0] (zdh a ho) I ⟨(Yp 0 I d9 ⟨(zP<|zc _),(zP<|zc _),(zP<|zc _),(zP<|zc _),(zP<|zc _),(zP<|zc _),(zP<|zc _),t9⟩),t9⟩ I)<|zf I<|ze<|zh ?_);have hchb:∀ (i:Nat) v,(is.map Tp.Bi.ch)[i]? =some v→ -12≤v∧v≤12:=fun i v hv=>Tp.ch_bd hok hv;have hm0:∀ (i:Nat) v,(List.replicate a.cat.length (0:Int))[i]? =some v→v=0:=fun i v hv=>(List.mem_replicate.1<|Jc hv).2;refine zi (zd I<|Zc (yh [1,2,3,4,5,6] (zfm gr a.cat a.bs b is od (is.map Tp.Bi.ch) (List.replicate a.cat.length (0:Int)) t r m hcl ho.vb hq1 hi0 hok hq3 hq2 (by rw [JO]) hchb (by rw [List.length_replicate]) hm0) I ⟨zc _,t9⟩ d9 (sX I) (fun _ h=>h) I) ?_)
     rintro _ ⟨⟨⟨cs,rs,ms,G,re,at_⟩,hI⟩,rfl⟩;refine ze (zh<|SW.sub (σ':=yb [(0,_),(1,_),(6,_),(7,_),(9,_)] [_,_,_,_,_,_,_]) (sB [0,1,2,3,4,5,6] I I) ?_)
     have hcsl:cs.length=a.bs.length:=by have h:=JY List.length hI.ids;simpa using h
     have hIrl:rs.length=is.length:=hI.rl;refine zi (zd I<|zd I<|za I (zL I)<|za I (zg (n:=3) I k9)<|za I (zp 1 I I I k9 zm)<|Zc (yh [0,2,3] (zdc ga a ho cs b G hI.vb (by rw [hq1];exact hcsl.symm)) I ⟨zc _,zc _,t9⟩ d9 (sX I) (fun _ h=>h) I) ?_);rintro _ ⟨⟨_,_,G2⟩,rfl⟩;refine zd I (za I (zo I I)<|za I (zo I I)<|zf I<|zf I<|ze<|zh<|zn<|zd I<|za I (yv I I)<|ze<|zK I I<|zq<|zj<|zh<|SW.sub (σ':=yb [(0,_),(1,_),(6,_),(7,_),(9,_),(10,_)] [_,_,_,_,_,_,_]) (sB [4,0,5,6,1,2,3] I I)<|zi<|zd I<|za I (zT (e:=105) I k9) (SWl.e2 (S:=[]) (Zu (e:=3) (n:=is.length) z7 0 8 I I k9 k9 I I I I o9 d9 I) fun g64=>(zf I<|ze<|zh<|zn<|zd I<|za I (zT (e:=105) I k9)<|zd I<|ze<|SW.block<|yd (ι:={p:Nat × List Int // p.1≤is.length∧p.2.length=is.length}) (fun p=>yb [(0,pA ga),(1,lsD ZA is),(6,lsD z7<|zB (Yd a) a.cat.length),(7,pA gr),(9,lsD z7<|zB (Y7 a) a.cat.length),(10,lsD yK<|cs.map<|Tp.st a.cat a.ac),(11,isD<|.slice (some ⟨g64,0,none⟩) (p.1.2).length is.length),(65,lsD ZA is),(66,iD (is.length:Int)),(67,iD (p.1.1:Int))] [.c ga [lsD yA a.cat,lsD yK a.bs,iD a.ac,iD a.st,bD a.key,iD (a.rd:Int),lsD z7 a.pr],.c gr [lsD yA a.cat,lsD ZA is,lsD z7 od,isD<|.slice b.A (Zb cs b.ss).length b.c,isD<|.slice t.A (zB (fun q=>Tp.tot q cs) a.cat.length).length t.c,isD<|.slice r.A (rs).length r.c,isD<|.slice m.A (ms).length m.c],.r b.F<|yi 59 4 Yr b.A b.c<|Zb cs b.ss,.r G2<|Kf<|Tp.rows cs b.ss,.r t.F<|yi 3 1 z7 t.A t.c<|zB (fun q=>Tp.tot q cs) a.cat.length,.r r.F<|yi 3 1 z7 r.A r.c<|rs,.r m.F<|yi 3 1 z7 m.A m.c<|ms,.r [g64]<|yi 3 1 z7 (some ⟨g64,0,none⟩) is.length<|p.1.2]) (fun p=>is.length - p.1.1) (⟨(0,List.replicate is.length 0),JC _,by simp⟩) ?_ ?_)))
     ·exact ⟨⟨_,I,⟨lq I,⟨lq I,⟨lq I,⟨lq I,⟨lq I,⟨lq I,⟨⟨_,I,zI s9⟩,(sT I)⟩⟩⟩⟩⟩⟩⟩⟩,[0,1,2,3,4,5,6,7],by decide,(sX rfl)⟩
     ·rintro ⟨⟨i,zs⟩,hi,hzl⟩ K0 hK0;dsimp only at hi hzl ⊢;refine zn (za I (yc I I)<|ze<|zh<|zC I (fun hb68=> ?_) (fun hb68=> ?_))
      ·have h68:(i:Int) < (is.length:Int):=oT hb68;refine zq (zj<|zh<|SW.block<|zh ?_);obtain ⟨x,hx⟩:∃ x,is[i]? =some x:=⟨_,Je o9⟩;obtain ⟨v,hv⟩:∃ v,rs[i]? =some v:=⟨_,Je o9⟩;have hvr:=hI.rb i v hv;have hxc:=hok x (Jc hx);have hx0:=hxc.c0;have hx1:=hxc.c1
       exact zi (zd I<|za I (zU (e:=105) 7 I I k9 k9 o9 (by simpa using hx))<|za I (yn 7 I k9 d9 (show 7≤7 by decide) s9) (SWl.e2 (S:=[]) (Ef.alloc (zs:=[.int .i64 0,.int .i64 0,.int .i64 0,.bool false,.slice none 0 0,.bool false,.slice none 0 0]) k9 I) fun g13=>(zf I<|zu (S:=[_]) (zA 8 I I I k9 I<|m9 I)<|ze<|yl ([g64] ++ []) (rr [0,1,2,3,4,5,6,7,8,9,10,11,12]<|.e 13 .fin .no) k9 k9 (fun d _ _ _ _ h=>by cases d <;> exact h)<|zz I I<|zz I I<|zl I I (zg (n:=2) I k9)<|zl I I (zp 8 I I I k9<|Zl 7 I d9 zm)<|zz I I<|zl I I (zL I)<|zl I I (zg (n:=5) I k9)<|zl I I (zp 1 I I I k9<|Zl 7 I d9 zm)<|zz I I<|zl I I (yf 5 1 I I I k9 k9 o9 (by rw [Int.toNat_natCast];omega))<|zl I I (yr 5 I I k9 (by rw [Int.toNat_natCast];exact hv) I<|Zl 7 I d9 zm)<|zl I I (yG I I ⟨by omega,by omega⟩)<|zl I I (yf 7 1 I I I k9 k9 o9 (by rw [Int.toNat_natCast];omega))<|Zm I (yM (v:=(x.ch - v)) 7 I I I I k9 (by rw [Int.toNat_natCast];omega) (fun _ h=>mL _ h))<|y9<|SN.block<|zj<|zi<|za I (Rd.add I I ⟨by omega,by omega⟩)<|zd I<|zF (fun aK wK hh=>hK0 (⟨(i + 1,zs.set i<|x.ch - v),by dsimp only;omega,by simp [hzl]⟩) (by dsimp only;omega) aK wK<|hh.sub<|⟨⟨_,I,⟨lq I,⟨lq I,⟨lq I,⟨lq I,⟨lq I,⟨lq I,⟨⟨_,I,zI s9⟩,⟨lq I,⟨lq I,⟨⟨_,I,zI s9⟩,t9⟩⟩⟩⟩⟩⟩⟩⟩⟩⟩⟩,[0,1,2,3,4,5,6,8],by decide,⟨la rfl,⟨la rfl,⟨lR rfl,⟨lR rfl,⟨lR rfl,⟨lR rfl,⟨lR rfl,⟨⟨_,rfl,YL s9 (by simp only [Int.toNat_natCast])⟩,trivial⟩⟩⟩⟩⟩⟩⟩⟩⟩))))
      ·have h68:¬(i:Int) < (is.length:Int):=oF hb68;refine zQ ?_
       repeat (first | refine zX ?_ | refine zY d9 ?_)
       refine zZ (zj<|zh<|SW.sub (σ':=yb [(0,_),(1,_),(6,_),(7,_),(9,_),(10,_),(11,_)] [_,_,_,_,_,_,_,_]) (sB [0,1,2,3,4,5,6,7] I I)<|zi<|zd I<|zd I<|zd I<|za I (zL I)<|za I (zg (n:=6) I k9)<|za I (zp 0 I I I k9 zm)<|zd I<|zd I<|Zc (yh [1,2,3,4,5,6] (zfb gr a ho (Tp.clk_ok hcb2) cs b is od rs ms t r m G2 hI.vb hI.ml hI.mi hI.no hpt hi0) I ⟨zc _,zc _,zc _,zc _,t9⟩ d9 (sX I) (fun _ h=>h) I) ?_);rintro _ ⟨⟨ys,hys⟩,rfl⟩;refine za I (zL I) (za I (zg (n:=6) I k9)<|zu (S:=[_]) (yW 0 I I I k9 I<|m9 I)<|zN<|zd I<|zd I<|za I (zL I)<|za I (zg (n:=1) I k9)<|zu (S:=[_]) (yW 0 I I I k9 I<|m9 I)<|zN<|zd I<|za I (zL I)<|za I (zg (n:=5) I k9)<|za I (zp 0 I I I k9 zm)<|za I (Rd.add I I ⟨by omega,by omega⟩)<|za I (zL I)<|za I (zg (n:=5) I k9)<|zu (S:=[_]) (yW 0 I I I k9 I<|m9 I)<|zN<|zd I<|zf I<|zf I<|ze<|SW.freezeT 1 4 I I (zc _)<|zV (fn:=Tryz.f10) (⟨(⟨a.cat,cs.map<|Tp.st a.cat a.ac,a.ac,a.st,a.key,a.rd + 1,ys⟩,zs,0),Tp.Next.of ho hrd hI.vb hcsl hys⟩) [0] (fun _ _ h=>h) (Rs.le (Rs.two I (zk I)<|zk I) ?_) d9 ⟨⟨_,I,(by exact ⟨zc _,zc _,zc _,zc _,zc _,zI s9,zc _,trivial⟩)⟩,t9⟩)
       exact zc _
end
section
theorem WA:∀ (L:LN) (p q:Nat→Bool),(∀ x∈L,q x=true→p x=true)→(∃ x∈L,p x=true∧q x=false)→L.countP q < L.countP p
 | [],_,_,_,⟨_,h,_⟩=>by cases h
 | x :: L,p,q,h,hx=>by
  have hle:L.countP q≤L.countP p:=List.countP_mono_left fun y hy=>h y (Jl _ hy);rw [List.countP_cons,List.countP_cons]
  by_cases hq:q x=true
  ·have hp:=h x mC hq;rw [Jh hq,Jh hp];obtain ⟨y,hy,h1,h2⟩:=hx;rcases Jt.1 hy with rfl | hy
   ·rw [hq] at h2;cases h2
   ·have:=WA L p q (fun z hz=>h z<|Jl _ hz) ⟨y,hy,h1,h2⟩;omega
  ·rw [Jb hq]
   by_cases hp:p x=true
   ·rw [Jh hp];omega
   ·rw [Jb hp];obtain ⟨y,hy,h1,h2⟩:=hx;rcases Jt.1 hy with rfl | hy
    ·exact absurd h1 hp
    ·have:=WA L p q (fun z hz=>h z<|Jl _ hz) ⟨y,hy,h1,h2⟩;omega
section
variable {P:Program}{Γ:Cx}{σ:St}{Q:Exit→Act→World→Prop}
theorem YR {A:Array Bool} {i:Nat} {d:Bool} (h:i < A.size):(A.setIfInBounds i true).getD i d=true:=by
 simp [Array.getD,h]
theorem yg {A:Array Bool} {i j:Nat} {d:Bool} (h:i≠j):(A.setIfInBounds i true).getD j d=A.getD j d:=by
 simp only [Array.getD,Array.size_setIfInBounds]
 split
 ·rw [Array.getInternal_eq_getElem,Array.getInternal_eq_getElem,Array.getElem_setIfInBounds_ne _ h]
 ·rfl
theorem SW.orders {id:Nat} {l:List Oper} (J:Array Bool→St→Prop) (hm:P.follows .mixedOrders=true) (h0:J (Array.replicate l.length false) σ)
  (hs:∀ (listed:Array Bool) (τ:St),listed.size=l.length→J listed τ→∀ i o,l[i]? =some o→listed.getD i true=false→(∀ e∈o.after,Region.binds .any e=true→listed.getD e.on false=true)→o.guard=none∧∃ (S:LN) (T:St→Prop),Ef P Γ S o τ T∧∀ τ',T τ'→J (listed.setIfInBounds i true) τ')
  (hf:∀ (listed:Array Bool) (τ:St),listed.size=l.length→J listed τ→Region.ready .any l.toArray listed=[]→SN Γ Q τ):SW P Γ σ (.region id l.toArray true) Q:=by
 have main:∀ (fuel:Nat) (listed:Array Bool) (τ:St) (a:Act) (w:World),listed.size=l.length→(List.range l.length).countP (fun i=> !listed.getD i true)≤fuel→J listed τ→Holds Γ τ a w→wpAny P .any l.toArray Q fuel listed a w:=by
  intro fuel
  induction fuel with
  | zero=>
   intro listed τ a w hsz hc hJ hh
   have hr:Region.ready .any l.toArray listed=[]:=by
    rw [List.eq_nil_iff_forall_not_mem];intro i hi;obtain ⟨h1,o,h2,_⟩:=mem_ready.1 hi
    have h3:i < l.length:=by have:=(Jn.1 h2).1;simpa using this
    have h4:=List.countP_eq_zero.1 (Nat.le_zero.1 hc) i (List.mem_range.2 h3);simp only [h1,Bool.not_false,not_true_eq_false] at h4
   exact ⟨hr,hf listed τ hsz hJ hr a w hh⟩
  | succ fuel ih=>
   intro listed τ a w hsz hc hJ hh;refine ⟨fun hr=>hf listed τ hsz hJ hr a w hh,fun i hi=> ?_⟩;obtain ⟨h1,o,h2,h3⟩:=mem_ready.1 hi
   have hil:i < l.length:=by have:=(Jn.1 h2).1;simpa using this
   have h2':l[i]? =some o:=by simpa using h2
   obtain ⟨hg,S,T,hE,hT⟩:=hs listed τ hsz hJ i o h2' h1 h3;unfold wpOp;rw [h2];simp only;rw [Jh (by unfold Region.wanted;rw [hg])];refine .inl (hE a w hh _ _ fun τ' a' w' ht hh' _=>ih _ τ' a' w' (by rw [Array.size_setIfInBounds];exact hsz) ?_ (hT τ' ht) hh')
   have h5:=WA (List.range l.length) (fun j=> !listed.getD j true) (fun j=> !(listed.setIfInBounds i true).getD j true) (fun j _ hj=>by
    by_cases e:i=j
    ·subst e;rw [YR o9] at hj;cases hj
    ·rwa [yg e] at hj) ⟨i,List.mem_range.2 hil,by rw [h1];rfl,by rw [YR o9];rfl⟩
   omega
 intro a w hh;refine wp_region_any hm (main _ _ σ a w.drew s9 ?_ h0 hh.drew);have:=List.countP_le_length (l:=List.range l.length) (p:=fun i=> !(Array.replicate l.toArray.size false).getD i true);simpa using this
theorem Yf {S:LN} {k:Nat} {op:Op} {d:D} {ty:TypeId} {pos:String} {af:Array Edge} {gd:Option (Nat × Bool)} (h:Rd P Γ [] ⟨some k,op,ty,pos,af,gd⟩ σ d) (hk:yp Γ.nt k=true):Ef P Γ S ⟨some k,op,ty,pos,af,gd⟩ σ (fun σ'=>σ'=σ.put k d):=by
 intro a w hh K Q hK;obtain ⟨v,h1,h2⟩:=h a w hh;unfold Oper.wp;rw [h2 w<|Only.refl [] w];exact hK _ _ _ I (hh.put (by simpa [yp] using hk) h1) (Only.refl S w)
theorem Ef.insB {S:LN} {T:TypeId} {x y z:Operand} {U:St→Prop} {ty:TypeId} {pos:String} {af:Array Edge} {gd:Option (Nat × Bool)} (h:Ef P Γ S ⟨none,.mapUpdate T x y z,ty,pos,af,gd⟩ σ U):Ef P Γ S ⟨none,.insert T x y z,ty,pos,af,gd⟩ σ U:=fun a w hh K Q hK=>h a w hh K Q hK
theorem ready_nil {l:List Oper} {listed:Array Bool} (hsz:listed.size=l.length) (hb:(List.range l.length).all (fun i=>((l[i]?).map fun o=>o.after.all fun e=>decide (e.on < i)).getD false)=true) (hr:Region.ready .any l.toArray listed=[]):∀ i < l.length,listed.getD i false=true:=by
 intro i
 induction i using Nat.strongRecOn with
 | ind i ih=>
  intro hi;have h1:=List.all_eq_true.1 hb i (List.mem_range.2 hi);obtain ⟨o,ho⟩:∃ o,l[i]? =some o:=⟨_,Je hi⟩;rw [ho] at h1;simp only [Option.map_some,Option.getD_some] at h1
  cases hd:listed.getD i true with
  | true=> 
   have:listed.getD i false=listed.getD i true:=by simp [Array.getD,show i < listed.size by omega]
   rw [this,hd]
  | false=>
   exfalso
   have hm:i∈Region.ready .any l.toArray listed:=mem_ready.2 ⟨hd,o,by simpa using ho,fun e he _=>by
    have h2:=Array.all_eq_true_iff_forall_mem.1 h1 e he;have h3:=oT h2
    exact ih e.on h3 o9⟩
   rw [hr] at hm
   cases hm
end
def qO (n:Int):Value:= .agg #[.int .i64 n]
theorem tk_eq (a b:Int) (w:World):(Op.equal 31 (qO a)<|qO b).run Tryz.prog w= .ok (decide (a=b)) w:=by
 have u3:=Tryz.underlying3;have a3:=Tryz.isAgg3;have z3:=Tryz.sizeOf3
 have h1:Tryz.prog.underlying 31=some (.struct<|Tryz.prog.fieldsOf 31):=by kernel_rfl
 have e:(Op.equal 31 (qO a)<|qO b).run Tryz.prog w= .ok (a == b) w:=by
  unfold Op.equal qO;rw [show Op.maxDepth=9999 + 1 from rfl,run_equalIn_struct (P:=Tryz.prog) w 9999 31 _ _ h1 k9];simp only [Program.fieldsOf,Tryz.underlying31]
  go_simp
  by_cases h1:a=b <;> simp [h1]
 rw [e];congr 1
theorem tk_chk' (n:Nat) (k:Int) (e:Bool) (w:World):(Instr.checkKey e (n + 1 + 1) 31<|qO k).run Tryz.prog w= .ok () w:=by
 have u3:=Tryz.underlying3;have a3:=Tryz.isAgg3;have z3:=Tryz.sizeOf3;unfold Instr.checkKey qO;simp only [JD,Jp Tryz.underlying31,Jv];simp only [Instr.checkKey]
 go_simp
theorem tk_chk (k:Int) (e:Bool) (w:World):(Instr.checkKey e 10000 31<|qO k).run Tryz.prog w= .ok () w:=tk_chk' 9998 k e w
theorem tk_bits (n:Nat) (k:Int):Instr.sameBits (n + 1) (qO k) (qO k)=true:=by simp [qO,Instr.sameBits]
theorem keyTk (k:Int) (ks:List Int):KeyOk Tryz.prog 31 qO k ks:=zeV k9 tk_eq tk_chk (tk_bits 9999) k ks
theorem WQ {x:Int}:Bld Tryz.prog 31 [0] [iD x] [iD x]:=fun L w vs hv=>by
 obtain ⟨u,rfl,rfl⟩:=zcu hv;exact ⟨[.int .i64 x],⟨I,t9⟩,fun w'=>by kernel_rfl⟩
theorem le_tk {x:Int}:Le (Z8 [iD x]) (isD<|qO x):=fun L w v ⟨cs,hv,ha⟩=>by
 obtain ⟨u,rfl,rfl⟩:=zcu ha;exact hv
def Tp.tks:List Int:=[24,23,21,19,18,14,13,12,10,8,7]
def Tp.tvs:List Int:=[12,11,10,9,8,7,6,5,4,3,2]
def Tp.blk (k:Int):Int:=(Tp.tvs[Tp.tks.idxOf k]?).getD 0
theorem Tp.blk_bd {k:Int} (h:k∈Tp.tks):0≤Tp.blk k∧Tp.blk k≤12:=by
 unfold Tp.tks at h;simp only [Jt,List.not_mem_nil,or_false] at h
 rcases h with rfl | rfl | rfl | rfl | rfl | rfl | rfl | rfl | rfl | rfl | rfl <;> decide
abbrev blkF:Int→D:=fun k=>iD (Tp.blk k)
def VO (m:Nat):Int:=(Tp.tks[m]?).getD 0
structure Tp.J (A:Array Bool) (τ:St):Prop where
 z:A.getD 0 false=false→τ.bx=[]
 m:A.getD 0 false=true→∃ (g:Nat) (K:List Int),(∀ k∈K,∃ m < 11,k=VO m∧A.getD (2 * m + 2) false=true)∧τ.tm 1=some (isD<|.map<|some g)∧τ.bx=[.r [g]<|Wu (some g) qO K blkF]
 b:∀ m < 11,A.getD (2 * m + 1) false=true→τ.tm (m + 2)=some (Z8 [iD<|VO m])
 v:A.getD 23 false=true→A.getD 0 false=true∧τ.tm 13=τ.tm 1
 r:A.getD 24 false=true→A.getD 23 false=true∧τ.tm 0=τ.tm 1
theorem jm {σ:St} {k:Nat} {d:D}:(σ.put k d).tm k=some d:=by simp [St.put]
theorem Zp {σ:St} {k j:Nat} {d:D} (h:j≠k):(σ.put k d).tm j=σ.tm j:=by
 have:Nat.beq j k=false:=by
  cases hb:Nat.beq j k
  ·rfl
  ·exact absurd (Nat.eq_of_beq_eq_true hb) h
 simp [St.put,this]
theorem Tp.J.map {A:Array Bool} {τ:St} (h:Tp.J A τ) (hA:A.size=25) (hn:A.getD 0 true=false) {g:Nat}:Tp.J (A.setIfInBounds 0 true) ((⟨τ.tm,τ.bx ++ [.r [g]<|Wu (some g) qO [] blkF]⟩:St).put 1<|isD<|.map<|some g):=by
 have hn':A.getD 0 false=false:=by simpa [Array.getD,hA] using hn
 refine ⟨fun h1=>(by rw [YR o9] at h1;cases h1),fun _=>⟨g,[],fun k hk=>(by cases hk),jm,?_⟩,fun m hm h1=> ?_,fun h1=> ?_,fun h1=> ?_⟩
 ·show τ.bx ++ _=_;rw [h.z hn'];rfl
 ·rw [yg o9] at h1;rw [Zp o9];exact h.b m hm h1
 ·rw [yg o9] at h1;have:=(h.v h1).1;rw [hn'] at this;cases this
 ·rw [yg o9] at h1;have:=(h.v (h.r h1).1).1;rw [hn'] at this;cases this
theorem Tp.J.bld {A:Array Bool} {τ:St} (h:Tp.J A τ) (hA:A.size=25) {m:Nat} (hm:m < 11):Tp.J (A.setIfInBounds (2 * m + 1) true) (τ.put (m + 2)<|Z8 [iD<|VO m]):=by
 refine ⟨fun h1=> ?_,fun h1=> ?_,fun q hq h1=> ?_,fun h1=> ?_,fun h1=> ?_⟩
 ·rw [yg o9] at h1;exact h.z h1
 ·rw [yg o9] at h1;obtain ⟨g,K,hK,h2,h3⟩:=h.m h1;refine ⟨g,K,fun k hk=> ?_,by rw [Zp o9];exact h2,h3⟩;obtain ⟨q,hq,e,h4⟩:=hK k hk;exact ⟨q,hq,e,by rw [yg o9];exact h4⟩
 ·by_cases e:q=m
  ·subst e;exact jm
  ·rw [yg o9] at h1;rw [Zp o9];exact h.b q hq h1
 ·rw [yg o9] at h1;rw [yg o9,Zp o9,Zp o9];exact h.v h1
 ·rw [yg o9] at h1;rw [yg o9,Zp o9,Zp o9];exact h.r h1
theorem Tp.J.ins {A:Array Bool} {τ:St} (h:Tp.J A τ) (hA:A.size=25) {m:Nat} (hm:m < 11) {g:Nat} {K:List Int} (hK:∀ k∈K,∃ m < 11,k=VO m∧A.getD (2 * m + 2) false=true) (h1:τ.tm 1=some (isD<|.map<|some g)) (h2:τ.bx=[.r [g]<|Wu (some g) qO K blkF]):Tp.J (A.setIfInBounds (2 * m + 2) true) (τ.give [0] [.r [g]<|Wu (some g) qO (VO m :: K) blkF]):=by
 refine ⟨fun h3=> ?_,fun h3=>⟨g,VO m :: K,fun k hk=> ?_,h1,?_⟩,fun q hq h3=> ?_,fun h3=> ?_,fun h3=> ?_⟩
 ·rw [yg o9] at h3;have:=h.z h3;rw [this] at h2;cases h2
 ·rcases Jt.1 hk with rfl | hk
  ·exact ⟨m,hm,I,YR o9⟩
  ·obtain ⟨q,hq,e,h4⟩:=hK k hk;refine ⟨q,hq,e,?_⟩
   by_cases e2:q=m
   ·subst e2;exact YR o9
   ·rw [yg o9];exact h4
 ·show yQ τ.bx 0 [0] ++ _=_;rw [h2];rfl
 ·rw [yg o9] at h3;exact h.b q hq h3
 ·rw [yg o9] at h3;rw [yg o9];exact h.v h3
 ·rw [yg o9] at h3;rw [yg o9];exact h.r h3
theorem Tp.tk_inj:∀ m < 11,∀ q < 11,VO m=VO q→m=q:=by decide
theorem Tp.tk_mem:∀ m < 11,VO m∈Tp.tks:=by decide
theorem Tp.tk_blk:∀ m < 11,Tp.blk (VO m)=12 - (m:Int):=by decide
theorem Tp.J.mv {A:Array Bool} {τ:St} (h:Tp.J A τ) (hA:A.size=25) (h0:A.getD 0 false=true) {d:D} (h1:τ.tm 1=some d):Tp.J (A.setIfInBounds 23 true) (τ.put 13 d):=by
 refine ⟨fun h2=> ?_,fun h2=> ?_,fun q hq h2=> ?_,fun _=>⟨by rw [yg o9];exact h0,by rw [jm,Zp o9,h1]⟩,fun h2=> ?_⟩
 ·rw [yg o9] at h2;exact h.z h2
 ·rw [yg o9] at h2;obtain ⟨g,K,hK,h3,h4⟩:=h.m h2;refine ⟨g,K,fun k hk=> ?_,by rw [Zp o9];exact h3,h4⟩;obtain ⟨q,hq,e,h5⟩:=hK k hk;exact ⟨q,hq,e,by rw [yg o9];exact h5⟩
 ·rw [yg o9] at h2;rw [Zp o9];exact h.b q hq h2
 ·rw [yg o9] at h2;exact ⟨YR o9,by rw [Zp o9,Zp o9];exact (h.r h2).2⟩
theorem Tp.J.as {A:Array Bool} {τ:St} (h:Tp.J A τ) (hA:A.size=25) (h0:A.getD 23 false=true) {d:D} (h1:τ.tm 1=some d):Tp.J (A.setIfInBounds 24 true) (τ.put 0 d):=by
 refine ⟨fun h2=> ?_,fun h2=> ?_,fun q hq h2=> ?_,fun h2=> ?_,fun _=>⟨by rw [yg o9];exact h0,by rw [jm,Zp o9,h1]⟩⟩
 ·rw [yg o9] at h2;exact h.z h2
 ·rw [yg o9] at h2;obtain ⟨g,K,hK,h3,h4⟩:=h.m h2;refine ⟨g,K,fun k hk=> ?_,by rw [Zp o9];exact h3,h4⟩;obtain ⟨q,hq,e,h5⟩:=hK k hk;exact ⟨q,hq,e,by rw [yg o9];exact h5⟩
 ·rw [yg o9] at h2;rw [Zp o9];exact h.b q hq h2
 ·rw [yg o9] at h2;rw [yg o9,Zp o9,Zp o9];exact h.v h2
theorem Tp.J.step {Γ:Cx} {A:Array Bool} {τ:St} {pos:String} {af:Array Edge} {ty:TypeId} (h:Tp.J A τ) (hA:A.size=25) {m:Nat} (hm:m < 11) (h0:A.getD 0 false=true) (h1:A.getD (2 * m + 1) false=true) (hu:A.getD (2 * m + 2) true=false):
  (none:Option (Nat × Bool))=none∧∃ (S:LN) (T:St→Prop),Ef Tryz.prog Γ S ⟨none,.insert 145 (.tmp 1) (.tmp<|m + 2)<|.const<|.int .i64<|12 - (m:Int),ty,pos,af,none⟩ τ T∧∀ τ',T τ'→Tp.J (A.setIfInBounds (2 * m + 2) true) τ':=by
 obtain ⟨g,K,hK,h2,h3⟩:=h.m h0;refine ⟨I,[g],_,Ef.insB<|za8 (kt:=31) (et:=3) (k:=VO m) (dv:=iD<|12 - (m:Int)) 0 h2 (by rw [h3];rfl) (h.b m hm h1) le_tk I (show Le (iD<|12 - (m:Int)) (blkF<|VO m) from zI (by rw [Tp.tk_blk m hm])) k9 (fun ks=>keyTk _ ks) ?_ (fun g hg=>hg),fun τ' ht=>by subst ht;exact h.ins hA hm hK h2 h3⟩;intro hk;obtain ⟨q,hq,e,h4⟩:=hK _ hk;obtain rfl:=Tp.tk_inj m hm q hq e
 have h5:A.getD (2 * m + 2) false=A.getD (2 * m + 2) true:=by simp [Array.getD,show 2 * m + 2 < A.size by omega]
 rw [h5,hu] at h4
 cases h4
theorem zaR:ConR Tryz.prog 66 [] [] (fun t:Nat × {K:List Int // ∀ k∈K,k∈Tp.tks}=>[.r [t.1]<|Wu (some t.1) qO t.2.1 blkF]) (fun t=>isD<|.map<|some t.1):=by
 refine yt Tryz.func66 k9 I k9 fun base w0=>(zn<|zf I<|ze<|zh<|SW.orders Tp.J k9 ⟨fun _=>I,fun h=>(by cases h),fun m hm h=>absurd h (by simp [Array.getD]),fun h=>(by cases h),fun h=>(by cases h)⟩ ?_ ?_)
 ·intro A τ hA hJ i o ho hu hd
  have hi:i < 25:=by have:=(Jg.1 ho).1;simpa using this
  have hA':A.size=25:=hA
  have hc:i=0∨i=1∨i=2∨i=3∨i=4∨i=5∨i=6∨i=7∨i=8∨i=9∨i=10∨i=11∨i=12∨i=13∨i=14∨i=15∨i=16∨i=17∨i=18∨i=19∨i=20∨i=21∨i=22∨i=23∨i=24:=by omega
  rcases hc with rfl | rfl | rfl | rfl | rfl | rfl | rfl | rfl | rfl | rfl | rfl | rfl | rfl | rfl | rfl | rfl | rfl | rfl | rfl | rfl | rfl | rfl | rfl | rfl | rfl
  ·obtain rfl:=JN ho;exact ⟨I,[],_,zdA (enc:=qO) blkF I,fun τ' ⟨g,h⟩=>by subst h;exact hJ.map hA' hu⟩
  ·obtain rfl:=JN ho;exact ⟨I,[],_,Yf (yF (es:=[iD 24]) I I WQ) I,fun τ' h=>by subst h;exact hJ.bld hA' (m:=0) d9⟩
  ·obtain rfl:=JN ho;exact hJ.step hA' (m:=0) d9 (hd { on:=0,ground:= .data } s9 I) (hd { on:=1,ground:= .data } s9 I) hu
  ·obtain rfl:=JN ho;exact ⟨I,[],_,Yf (yF (es:=[iD 23]) I I WQ) I,fun τ' h=>by subst h;exact hJ.bld hA' (m:=1) d9⟩
  ·obtain rfl:=JN ho;exact hJ.step hA' (m:=1) d9 (hd { on:=0,ground:= .data } s9 I) (hd { on:=3,ground:= .data } s9 I) hu
  ·obtain rfl:=JN ho;exact ⟨I,[],_,Yf (yF (es:=[iD 21]) I I WQ) I,fun τ' h=>by subst h;exact hJ.bld hA' (m:=2) d9⟩
  ·obtain rfl:=JN ho;exact hJ.step hA' (m:=2) d9 (hd { on:=0,ground:= .data } s9 I) (hd { on:=5,ground:= .data } s9 I) hu
  ·obtain rfl:=JN ho;exact ⟨I,[],_,Yf (yF (es:=[iD 19]) I I WQ) I,fun τ' h=>by subst h;exact hJ.bld hA' (m:=3) d9⟩
  ·obtain rfl:=JN ho;exact hJ.step hA' (m:=3) d9 (hd { on:=0,ground:= .data } s9 I) (hd { on:=7,ground:= .data } s9 I) hu
  ·obtain rfl:=JN ho;exact ⟨I,[],_,Yf (yF (es:=[iD 18]) I I WQ) I,fun τ' h=>by subst h;exact hJ.bld hA' (m:=4) d9⟩
  ·obtain rfl:=JN ho;exact hJ.step hA' (m:=4) d9 (hd { on:=0,ground:= .data } s9 I) (hd { on:=9,ground:= .data } s9 I) hu
  ·obtain rfl:=JN ho;exact ⟨I,[],_,Yf (yF (es:=[iD 14]) I I WQ) I,fun τ' h=>by subst h;exact hJ.bld hA' (m:=5) d9⟩
  ·obtain rfl:=JN ho;exact hJ.step hA' (m:=5) d9 (hd { on:=0,ground:= .data } s9 I) (hd { on:=11,ground:= .data } s9 I) hu
  ·obtain rfl:=JN ho;exact ⟨I,[],_,Yf (yF (es:=[iD 13]) I I WQ) I,fun τ' h=>by subst h;exact hJ.bld hA' (m:=6) d9⟩
  ·obtain rfl:=JN ho;exact hJ.step hA' (m:=6) d9 (hd { on:=0,ground:= .data } s9 I) (hd { on:=13,ground:= .data } s9 I) hu
  ·obtain rfl:=JN ho;exact ⟨I,[],_,Yf (yF (es:=[iD 12]) I I WQ) I,fun τ' h=>by subst h;exact hJ.bld hA' (m:=7) d9⟩
  ·obtain rfl:=JN ho;exact hJ.step hA' (m:=7) d9 (hd { on:=0,ground:= .data } s9 I) (hd { on:=15,ground:= .data } s9 I) hu
  ·obtain rfl:=JN ho;exact ⟨I,[],_,Yf (yF (es:=[iD 10]) I I WQ) I,fun τ' h=>by subst h;exact hJ.bld hA' (m:=8) d9⟩
  ·obtain rfl:=JN ho;exact hJ.step hA' (m:=8) d9 (hd { on:=0,ground:= .data } s9 I) (hd { on:=17,ground:= .data } s9 I) hu
  ·obtain rfl:=JN ho;exact ⟨I,[],_,Yf (yF (es:=[iD 8]) I I WQ) I,fun τ' h=>by subst h;exact hJ.bld hA' (m:=9) d9⟩
  ·obtain rfl:=JN ho;exact hJ.step hA' (m:=9) d9 (hd { on:=0,ground:= .data } s9 I) (hd { on:=19,ground:= .data } s9 I) hu
  ·obtain rfl:=JN ho;exact ⟨I,[],_,Yf (yF (es:=[iD 7]) I I WQ) I,fun τ' h=>by subst h;exact hJ.bld hA' (m:=10) d9⟩
  ·obtain rfl:=JN ho;exact hJ.step hA' (m:=10) d9 (hd { on:=0,ground:= .data } s9 I) (hd { on:=21,ground:= .data } s9 I) hu
  ·obtain rfl:=JN ho;have h0:=hd { on:=0,ground:= .data } s9 rfl;obtain ⟨g,K,hK,h1,h2⟩:=hJ.m h0;exact ⟨I,[],_,Yf (zH (d:=isD<|.map<|some g) h1) I,fun τ' h=>by subst h;exact hJ.mv hA' h0 h1⟩
  ·obtain rfl:=JN ho;have h0:=hd { on:=23,ground:= .data } s9 rfl;obtain ⟨g,K,hK,h1,h2⟩:=hJ.m (hJ.v h0).1;exact ⟨I,[],_,Yf (jM (d:=isD<|.map<|some g)<|(hJ.v h0).2.trans h1) I,fun τ' h=>by subst h;exact hJ.as hA' h0 h1⟩
 ·intro A τ hA hJ hr;have hall:=ready_nil hA (by decide +kernel) hr;have h24:=hall 24 d9;obtain ⟨h23,e0⟩:=hJ.r h24;obtain ⟨g,K,hK,h1,h2⟩:=hJ.m (hJ.v h23).1;have h0:τ.tm 0=some (isD<|.map<|some g):=e0.trans h1;refine zj ?_;refine zV (fn:=Tryz.f66) (⟨g,K,fun k hk=>by obtain ⟨m,hm,e,_⟩:=hK k hk;rw [e];exact Tp.tk_mem m hm⟩) [0] (fun _ _ h=>h) (Rs.le (zG I<|zk h0)<|zc _) d9 ⟨⟨_,by rw [h2];rfl,zM _⟩,t9⟩
end
section
section
variable {P:Program}{Γ:Cx}{σ:St}
theorem Ef.ofRd {S:LN} {k:Nat} {op:Op} {d:D} {ty:TypeId} {pos:String} {af:Array Edge} {gd:Option (Nat × Bool)} (h:Rd P Γ [] ⟨some k,op,ty,pos,af,gd⟩ σ d) (hk:yp Γ.nt k=true):Ef P Γ S ⟨some k,op,ty,pos,af,gd⟩ σ (fun σ'=>σ'=σ.put k d):=Yf h hk
end
def Tp.bx (K:List Int) (n:Int):Int:=if n∈K then Tp.blk n else 0
theorem Tp.bx_bd {K:List Int} (hK:∀ k∈K,k∈Tp.tks) (n:Int):0≤Tp.bx K n∧Tp.bx K n≤12:=by
 unfold Tp.bx
 split
 ·rename_i h;exact Tp.blk_bd (hK n h)
 ·exact ⟨Int.le_refl _,by decide⟩
section
variable {Γ:Cx}{σ:St}{S:List Nat}{dst:Option Tmp}{ty:TypeId}{pos:String}{af:Array Edge}{gd:Option (Nat × Bool)}
theorem zcJ {x y:Operand} {M:Option Nat} {F:LN} {K:List Int} {n:Int} (j:Nat) (hx:σ.ev x=some (isD<|.map M)) (hj:σ.bx[j]? =some (.r F<|Wu M qO K blkF)) (hy:σ.ev y=some (Z8 [iD n])) (hS:Ap σ j S):
  Rd Tryz.prog Γ S ⟨dst,.lookup 145 x y true,ty,pos,af,gd⟩ σ (ZH [iD<|Tp.bx K n,yL<|decide (n∈K)]):=by
 by_cases h:n∈K
 ·exact Rd.mono (zeu (kt:=31) (et:=3) (ok:=true) j hx hj hy le_tk k9 (fun ks=>keyTk _ ks) h hS) (Zf ⟨zI (by rw [Tp.bx,Jh h]),zI (by rw [Jo h]),t9⟩)
 ·exact Rd.mono (Rd.lookQN (kt:=31) (et:=3) (z:= .int .i64 0) (ok:=true) j hx hj hy le_tk k9 k9 (fun ks=>keyTk _ ks) h hS) (Zf ⟨zI (by rw [Tp.bx,Jb h]),zI (by rw [Jd h]),t9⟩)
variable {P:Program}
theorem Rd.slArrH {x y:Operand} {T e g n:Nat} {hi:Int} (hx:σ.ev x=some (pA g)) (hy:σ.ev y=some (iD hi)) (hT:arrT P T e n=true) (hs:((P.info? e).map (·.size)).isSome=true) (h0:0≤hi) (h1:hi≤(n:Int)):
  Rd P Γ S ⟨dst,.slice T x none (some y) none,ty,pos,af,gd⟩ σ (isD<|.slice (some ⟨g,0,none⟩) hi.toNat n):=by
 intro a w hh;have hxv:a.eval x= .pointer (some ⟨g,0,none⟩):=zR hh hx;have hyv:a.eval y= .int .i64 hi:=zR hh hy;refine ⟨_,I,fun w' _=> ?_⟩;obtain ⟨sz,hsz⟩:=Option.isSome_iff_exists.1 hs;obtain ⟨inf,hi',hsz⟩:=Jy.1 hsz
 have h2:¬hi < 0:=by omega
 have h3:¬(n:Int) < hi:=by omega
 simp [execOp,hxv,hyv,Instr.sliceAt,Instr.sureAddr,Instr.sliceBounds,Instr.sliceBound,Jp<|qR hT,sizeOf,typeInfo,hi',Addr.add,asIntOf,h0,h1,h2,h3]
end
theorem bldPr {a b c d e:Int}:Bld Tryz.prog 61 [0,1,2,3,4] [iD a,iD b,iD c,iD d,iD e] [iD a,iD b,iD c,iD d,iD e]:=fun L w vs hv=>by
 obtain ⟨p,q,r,s,t,rfl,rfl,rfl,rfl,rfl,rfl⟩:=all5 hv;exact ⟨[.int .i64 a,.int .i64 b,.int .i64 c,.int .i64 d,.int .i64 e],⟨I,I,I,I,I,t9⟩,fun w'=>by kernel_rfl⟩
theorem blsPr1 {a b c d e:Int}:Bls Tryz.prog 46 1 [0] [Z8 [iD a,iD b,iD c,iD d,iD e]] ([(⟨a,b,c,d,e⟩:Tp.Pr)].flatMap yA):=⟨61,fun L w vs hv=>by
 obtain ⟨u,rfl,hu⟩:=zcu hv;obtain ⟨cs,rfl,ha⟩:=hu;obtain ⟨p,q,r,s,t,rfl,rfl,rfl,rfl,rfl,rfl⟩:=all5 ha
 exact ⟨[.int .i64 a,.int .i64 b,.int .i64 c,.int .i64 d,.int .i64 e],⟨I,I,I,I,I,t9⟩,fun w'=>by kernel_rfl⟩⟩
def Tp.Rng (lo hi:Int) (xs:List Int):Prop:=∀ (i:Nat) x,xs[i]? =some x→lo≤x∧x≤hi
theorem Tp.Rng.set {lo hi:Int} {xs:List Int} (h:Tp.Rng lo hi xs) {i:Nat} {v:Int} (hv:lo≤v∧v≤hi):Tp.Rng lo hi (xs.set i v):=fun j x hx=>(zc4 hx).elim (fun e=>by rw [e];exact hv) (h j x)
theorem Tp.Rng.mono {lo hi hi':Int} {xs:List Int} (h:Tp.Rng lo hi xs) (hh:hi≤hi'):Tp.Rng lo hi' xs:=fun j x hx=>by have:=h j x hx;omega
theorem three {ns:List Int} (h:ns.length=3):∃ a b c,ns=[a,b,c]:=by
 match ns,h with
 | [a,b,c],_=>exact ⟨a,b,c,rfl⟩
theorem con_bval (n:Int):ConR Tryz.prog 17 [] [Z8 [iD n]] (fun t:Bool=>[]) (fun t:Bool=>yL t):=by
 refine yt Tryz.func17 k9 I k9 fun base w0=>(zn (SWl.e2 (S:=[]) (ym I I) fun g1=>(zf I<|ze<|zh<|yl [] (.r 1<|.n 0 (.n 2 (rr [3,4,5,6,7] .fin) .no) .no) k9 k9 (fun d _ _ _ _ h=>by cases d <;> exact h)<|zl I I (zx 0 1 I I k9 I zm)<|jo I (Yu (zaR) I t9 I) ?_ yB)))
 rintro _ _ ⟨⟨g,K,hK⟩,rfl,rfl⟩;refine yZ I (Ef.ofRd (zcJ 1 I I I zm) I) (zz I I<|zl I I (zo I I)<|zl I I (zo I I)<|yR I I<|yR I I<|yE<|zn<|zd I<|zf I<|ze<|zV (fn:=Tryz.f17) ((decide (n∈K))) [] (fun _ _ h=>h) (Rs.le (zG I<|zk I) ?_) d9 t9);exact zc _
theorem con_bblk (n:Int):ConR Tryz.prog 19 [] [Z8 [iD n]] (fun t:{q:Int × Int // 0≤q.1∧q.1≤12}=>[]) (fun t:{q:Int × Int // 0≤q.1∧q.1≤12}=>ZH [iD t.1.1,iD t.1.2]):=by
 refine yt Tryz.func19 k9 I k9 fun base w0=>(zn (SWl.e2 (S:=[]) (ym I I) fun g1=>(zf I<|zf I<|ze<|zh<|yl [] (.r 1<|.n 0 (.n 2 (rr [3,4,5,6,7] .fin) .no) .no) k9 k9 (fun d _ _ _ _ h=>by cases d <;> exact h)<|zl I I (zx 0 1 I I k9 I zm)<|jo I (Yu (zaR) I t9 I) ?_ yB)))
 rintro _ _ ⟨⟨g,K,hK⟩,rfl,rfl⟩;refine yZ I (Ef.ofRd (zcJ 1 I I I zm) I) (zz I I<|zl I I (zo I I)<|zl I I (zo I I)<|yR I I<|yR I I<|yE<|zh<|zn<|zd I<|za I (yu I)<|ze<|zC I (fun hb13=> ?_) (fun hb13=> ?_))
 ·skip
  refine zn (zf I<|zf I<|ze<|zV (fn:=Tryz.f19) (⟨(0,2),by decide⟩) [] (fun _ _ h=>h) (Rs.le (Rs.two I (zk I)<|zk I) ?_) d9 t9);exact zc _
 ·skip
  refine zq (zj<|zn<|zd I<|zf I<|zf I<|ze<|zV (fn:=Tryz.f19) (⟨(Tp.bx K n,0),Tp.bx_bd hK n⟩) [] (fun _ _ h=>h) (Rs.le (Rs.two I (zk I)<|zk I) ?_) d9 t9);exact zc _
theorem zfh (ar:Int) (n:Nat) (is:List Tp.Im) (hn:n≤12) (hl:is.length≤1000000) (hok:∀ x∈is,qo x):ConR Tryz.prog 20 [] [iD ar,iD (n:Int),lsD YM is] (fun t:Int × Int × Int=>[]) (fun t:Int × Int × Int=>Z8 [iD t.1,iD t.2.1,iD t.2.2]):=by
 refine yt Tryz.func20 k9 I k9 fun base w0=>(zn (SWl.e2 (S:=[]) (Ef.alloc (zs:=[.int .i64 0,.int .i64 0,.int .i64 0]) k9 I) fun g6=>(zN (SWl.e2 (S:=[]) (Ef.alloc (zs:=List.replicate 12<|.int .i64 0) k9 I) fun g7=>(ze<|zh<|zn<|zd I<|za I (zT (e:=85) I k9)<|zd I<|ze<|SW.block<|yd (ι:={p:Nat × List Int // p.1≤is.length∧p.2.length=12∧Tp.Rng 0 100 p.2}) (fun p=>yb [(0,iD ar),(1,iD (n:Int)),(6,pA g6),(7,pA g7),(15,lsD YM is),(16,iD (is.length:Int)),(17,iD (p.1.1:Int))] [.c g6 [iD 0,iD 0,iD 0],.c g7<|(p.1.2).map iD]) (fun p=>is.length - p.1.1) (⟨(0,List.replicate 12 0),JC _,by simp,fun i x h=>by rw [(List.mem_replicate.1<|Jc h).2];decide⟩) ?_ ?_)))))
 ·exact ⟨⟨_,I,(sT I)⟩,[0,1],by decide,⟨la rfl,⟨⟨_,rfl,(Yq (by rw [List.map_replicate,List.map_replicate]))⟩,trivial⟩⟩⟩
 ·rintro ⟨⟨i,xs⟩,hi,hxl,hxr⟩ K0 hK0;dsimp only at hi hxl hxr ⊢;refine zn (za I (yc I I)<|ze<|zh<|zC I (fun hb18=> ?_) (fun hb18=> ?_))
  ·have h18:(i:Int) < (is.length:Int):=oT hb18;refine zq (zj<|zh<|SW.block<|zh ?_);obtain ⟨x,hx⟩:∃ x,is[i]? =some x:=⟨_,Je o9⟩;have hxo:=hok x (Jc hx);have hx1:=hxo.1.2.1;have hx2:=hxo.1.2.2;refine zi (za I (zU (e:=85) 3 I I k9 k9 o9 (by simpa using hx))<|za I (yn 3 I k9 d9 (show 3≤3 by decide) s9) (SWl.e2 (S:=[]) (Ef.alloc (zs:=[.int .i64 0,.int .i64 0,.int .i64 0]) k9 I) fun g9=>(zu (S:=[_]) (zA 2 I I I k9 I<|m9 I)<|zN<|za I (zg (n:=0) I k9)<|za I (zp 2 I I I k9 zm)<|zd I<|za I (Zr I I)<|ze<|zC I (fun hb24=> ?_) (fun hb24=> ?_))))
   ·have h24:x.ar=ar:=oT hb24;exact zi (za I (zg (n:=1) I k9)<|za I (zp 2 I I I k9 zm)<|za I (zg (n:=2) I k9)<|za I (zp 2 I I I k9 zm)<|za I (Yx (e:=3) (n:=12) I I k9 k9 o9 o9)<|zu (S:=[_]) (ZG 1 I I I k9 (by rw [List.length_map,hxl];omega)<|m9 I)<|zF<|SN.block<|zj<|zi<|za I (Rd.add I I ⟨by omega,by omega⟩)<|zd I<|zF (fun aK wK hh=>hK0 (⟨(i + 1,xs.set x.bk.toNat x.pc),by dsimp only;omega,by dsimp only;rw [List.length_set];exact hxl,hxr.set ⟨hxo.2.1,hxo.2.2⟩⟩) (by dsimp only;omega) aK wK<|hh.sub<|⟨⟨_,I,⟨lq I,⟨lq I,⟨lq I,⟨lq I,⟨lq I,⟨lq I,⟨⟨_,I,zI s9⟩,t9⟩⟩⟩⟩⟩⟩⟩⟩,[0,1],by decide,⟨la rfl,⟨⟨_,rfl,(Yq zbq)⟩,trivial⟩⟩⟩))
   ·have h24:¬x.ar=ar:=oF hb24;exact zq (SN.block<|zj<|zi<|za I (Rd.add I I ⟨by omega,by omega⟩)<|zd I<|zF (fun aK wK hh=>hK0 (⟨(i + 1,xs),by dsimp only;omega,hxl,hxr⟩) (by dsimp only;omega) aK wK<|hh.sub<|⟨⟨_,I,⟨lq I,⟨lq I,⟨lq I,⟨lq I,⟨lq I,⟨lq I,⟨⟨_,I,zI s9⟩,t9⟩⟩⟩⟩⟩⟩⟩⟩,[0,1],by decide,(sX rfl)⟩))
  ·have h18:¬(i:Int) < (is.length:Int):=oF hb18;refine zQ ?_
   repeat (first | refine zX ?_ | refine zY d9 ?_)
   refine zZ (zj<|zn (SWl.e2 (S:=[]) (Ef.alloc (zs:=[.int .i64 0,.int .i64 0,.int .i64 0]) k9 I) fun g10=>(ze<|zh<|zh<|SW.sub (σ':=yb [(0,_),(1,_),(6,_),(7,_),(10,_)] [.c g6 [iD 0,iD 0,iD 0],.c g7<|(xs).map iD,.c g10<|([0,0,0]).map iD]) (⟨⟨_,I,(sT I)⟩,[0,1,2],by decide,⟨la rfl,⟨la rfl,⟨⟨_,rfl,(Yq rfl)⟩,trivial⟩⟩⟩⟩)<|zi<|zd I<|za I (Rd.slArrH (e:=3) (n:=12) I I k9 k9 o9 o9)<|za I (Zx (e:=3) I k9)<|zd I<|ze<|SW.block<|yd (ι:={p:Nat × List Int // p.1≤n∧p.2.length=3∧Tp.Rng 0 (p.1:Int) p.2}) (fun p=>yb [(6,pA g6),(7,pA g7),(10,pA g10),(32,isD<|.slice (some ⟨g7,0,none⟩) n 12),(33,iD (n:Int)),(34,iD (p.1.1:Int))] [.c g6 [iD 0,iD 0,iD 0],.c g7<|(xs).map iD,.c g10<|(p.1.2).map iD]) (fun p=>n - p.1.1) (⟨(0,[0,0,0]),JC _,I,fun i x h=>by have:=Jc h;simp at this;subst this;decide⟩) ?_ ?_)))
   ·exact ⟨⟨_,I,⟨lq I,⟨lq I,⟨lq I,⟨⟨_,I,zI s9⟩,⟨⟨_,I,zI s9⟩,⟨lq I,t9⟩⟩⟩⟩⟩⟩⟩,[0,1,2],by decide,(sX rfl)⟩
   ·rintro ⟨⟨j,ns⟩,hj,hnl,hnr⟩ K1 hK1;dsimp only at hj hnl hnr ⊢;refine zn (za I (yc I I)<|ze<|zh<|zC I (fun hb35=> ?_) (fun hb35=> ?_))
    ·have h35:(j:Int) < (n:Int):=oT hb35;refine zq (zj<|zh<|SW.block<|zh ?_);obtain ⟨q,hq⟩:∃ q,xs[j]? =some q:=⟨_,List.getElem?_eq_getElem o9⟩;have hqr:=hxr j q hq;have hqc:=Tp.cat_bd q;obtain ⟨v,hv⟩:∃ v,ns[(Tp.cat q).toNat]? =some v:=⟨_,List.getElem?_eq_getElem o9⟩;have hvr:=hnr _ v hv;exact zi (za I (Z9 (e:=3) I I k9 k9 o9 o9)<|za I (zp 1 I I (Vc (by rw [Int.toNat_natCast];exact hq)) k9 zm)<|zf I<|zN<|zd I<|zu (S:=[]) (zv (con_cat q hqr) I ⟨zc _,t9⟩ I)<|zd I<|za I (zo I I)<|za I (zo I I)<|zf I<|zf I<|ze<|zi<|zd I<|za I (Yx (e:=3) (n:=3) I I k9 k9 o9 o9)<|za I (zp 2 I I (Vc hv) k9 zm)<|za I (Rd.add I I ⟨by omega,by omega⟩)<|za I (Yx (e:=3) (n:=3) I I k9 k9 o9 o9)<|zu (S:=[_]) (ZG 2 I I I k9 (by rw [List.length_map,hnl];omega)<|m9 I)<|zF<|SN.block<|zj<|zi<|za I (Rd.add I I ⟨by omega,by omega⟩)<|zd I<|zF (fun aK wK hh=>hK1 (⟨(j + 1,ns.set (Tp.cat q).toNat<|v + 1),by dsimp only;omega,by dsimp only;rw [List.length_set];exact hnl,(hnr.mono o9).set o9⟩) (by dsimp only;omega) aK wK<|hh.sub<|⟨⟨_,I,⟨lq I,⟨lq I,⟨lq I,⟨lq I,⟨lq I,⟨⟨_,I,zI s9⟩,t9⟩⟩⟩⟩⟩⟩⟩,[0,1,2],by decide,⟨la rfl,⟨la rfl,⟨⟨_,rfl,(Yq zbq)⟩,trivial⟩⟩⟩⟩))
    ·have h35:¬(j:Int) < (n:Int):=oF hb35;refine zQ ?_
     repeat (first | refine zX ?_ | refine zY d9 ?_)
     refine zZ (zj<|zh ?_);obtain ⟨n1,n2,n3,hns⟩:=three hnl;refine SW.sub (σ':=yb [(6,_),(10,_)] [.c g6 [iD 0,iD 0,iD 0],.c g10 [iD n1,iD n2,iD n3]]) (⟨⟨_,I,(sT I)⟩,[0,2],by decide,⟨la rfl,⟨⟨_,rfl,(Yq (by rw [hns];rfl))⟩,trivial⟩⟩⟩) (zi<|za I (zx 1 3 I I k9 I zm)<|zu (S:=[_]) (zA 0 I I I k9 I<|m9 I)<|ze<|zV (fn:=Tryz.f20) ((n1,n2,n3)) [] (fun _ _ h=>h) (Rs.le (zG I<|yx 0 I I k9) ?_) d9 t9);exact zc _
