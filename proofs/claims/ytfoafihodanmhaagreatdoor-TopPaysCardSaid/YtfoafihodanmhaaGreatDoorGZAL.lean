/- ASSIGN: table, checked, newArea. ASSIGNMENTS, in zal Lean: the rows that solve fills. -/
import Derived.Test.YtfoafihodanmhaaGreatDoorGZAK
set_option maxHeartbeats 8000000
set_option maxRecDepth 100000
namespace Go.Proofs.YtfoafihodanmhaaGreatDoor
open Go.RowKit
namespace Sx
theorem all4 {L:LN} {w:World} {d e f g:D} {vs:List Value} (h:All L w [d,e,f,g] vs):∃ u v z y,vs=[u,v,z,y]∧d.R L w u∧e.R L w v∧f.R L w z∧g.R L w y:=by
 cases vs with
 | nil=>exact h.elim
 | cons u vs=>
  obtain ⟨v,z,y,rfl,h2⟩:=all3 h.2;exact ⟨u,v,z,y,I,h.1,h2⟩
theorem zaQ {l:List Co.Cl} {w:Int} {m:Nat} (hl:l.length≤1000000) (h:Co.fC l w=some m):Con Tryz.prog 89 [lsD yJ l,iD w] (iD (m:Int)):=(zcm l w hl).mono ⟨zc _,zc _,trivial⟩ (zI (by rw [Co.fZ,h]))
def zai (xs:List Int) (v:Int):Int:=match xs.findIdx? (· == v) with | some i=>(i:Int) | none=> -1
theorem ixZ_some {xs:List Int} {v:Int} {i:Nat} {x:Int} (hx:xs[i]? =some x) (e:x=v) (h:∀ j < i,∀ d,xs[j]? =some d→d≠v):zai xs v=(i:Int):=by
 obtain ⟨hlt,he⟩:=Jg.1 hx
 have:xs.findIdx? (· == v)=some i:=by
  refine List.findIdx?_eq_some_iff_getElem.2 ⟨hlt,by rw [he];simpa using e,fun j hj=> ?_⟩;have:=h j hj _ (Je o9);simpa using this
 unfold zai;rw [this]
theorem ixZ_none {xs:List Int} {v:Int} (h:∀ (j:Nat) d,xs[j]? =some d→d≠v):zai xs v= -1:=by
 have:xs.findIdx? (· == v)=none:=List.findIdx?_eq_none_iff.2 fun c hc=>by
  obtain ⟨j,hj,e⟩:=List.mem_iff_getElem.1 hc;simpa using h j c (by rw [Je hj,e])
 unfold zai;rw [this]
theorem ixZ_mem {xs:List Int} {v:Int}:decide (zai xs v≥0)=decide (v∈xs):=by
 rw [JW];unfold zai
 cases h:xs.findIdx? (· == v) with
 | none=>
  constructor
  ·intro h2;simp at h2
  ·intro h2;have:=List.findIdx?_eq_none_iff.1 h v h2;simp at this
 | some i=>
  obtain ⟨h1,h2,_⟩:=List.findIdx?_eq_some_iff_getElem.1 h
  constructor
  ·intro _;rw [← show xs[i]=v by simpa using h2];exact List.getElem_mem h1
  ·intro _;exact Int.natCast_nonneg i
noncomputable def zaj (b:Int) (l:List Co.Cl) (ws:List Co.Wi):Int:=if Co.VW b l ws then 0 else 2
theorem bldAr {b:Int} {l:List Co.Cl} {T:List (Nat→Int)} {A:Option Addr} {n c:Nat}:Bld Tryz.prog 178 [0,1,2,3] [iD b,lsD yJ l,lsD ZE T,isD<|.slice A n c] [iD b,lsD yJ l,lsD ZE T,isD<|.slice A n c]:=fun L w vs hv=>by
 obtain ⟨u,v,z,y,rfl,rfl,h1,h2,rfl⟩:=all4 hv;have k1:=h1;have k2:=h2;obtain ⟨B,d,rfl,-⟩:=k1;obtain ⟨C,e,rfl,-⟩:=k2;exact ⟨[.int .i64 b,.slice B _ d,.slice C _ e,.slice A n c],⟨I,h1,h2,I,t9⟩,fun w'=>by kernel_rfl⟩
def qB (n i:Nat):List Int:=(List.range n).map fun j=>if j < i then -1 else 0
theorem jC {n i:Nat}:(qB n i).length=n:=by simp [qB]
theorem fxI_zero (n:Nat):List.replicate n (0:Int)=qB n 0:=by
 apply Xh;intro k;unfold qB
 by_cases h:k < n
 ·rw [Xj,Jh h,JJ,List.getElem?_range h];rfl
 ·rw [JM (by simp;omega),JM (by simp;omega)]
theorem fxI_set {n i:Nat} (hi:i < n):(qB n i).set i (-1)=qB n (i + 1):=by
 apply Xh;intro k;unfold qB
 by_cases h:k < n
 ·by_cases e:k=i
  ·subst e;rw [List.getElem?_set_self (by simpa using h),JJ,List.getElem?_range h];simp
  ·rw [List.getElem?_set_ne (fun h=>e h.symm),JJ,JJ,List.getElem?_range h]
   have hk:k < i↔k < i + 1:=by omega
   simp only [Option.map_some,hk]
 ·rw [JM (by simp;omega),JM (by simp;omega)]
theorem fxI_all {n:Nat}:qB n n=List.replicate n (-1):=by
 apply Xh;intro k;unfold qB
 by_cases h:k < n
 ·rw [Xj,Jh h,JJ,List.getElem?_range h];simp [h]
 ·rw [JM (by simp;omega),JM (by simp;omega)]
theorem con_idx40 (xs:List Int) (v:Int) (hl:xs.length≤1000000):Con Tryz.prog 157 [lsD z7 xs,iD v] (iD<|zai xs v):=by
 refine yy Tryz.func157 k9 I k9 fun base w0=>(zn<|zf I<|ze<|zh<|zn<|zd I<|za I (zT (e:=3) I k9)<|zd I<|ze<|SW.block<|yd (ι:={i:Nat // i≤xs.length∧∀ j < i,∀ d,xs[j]? =some d→d≠v}) (fun i=>yb [(0,lsD z7 xs),(1,iD v),(7,iD (xs.length:Int)),(8,iD (i.1:Int))] []) (fun i=>xs.length - i.1) (⟨0,JC _,fun _ h=>absurd h<|Nat.not_lt_zero _⟩) ?_ ?_)
 ·exact (sB [] I I)
 ·rintro ⟨i,hi,hp⟩ K0 hK0;dsimp only at hi hp ⊢;refine zn (za I (yc I I)<|ze<|zh<|zC I (fun hb9=> ?_) (fun hb9=> ?_))
  ·have h9:(i:Int) < (xs.length:Int):=oT hb9;refine zq (zj<|zh<|SW.block<|zn<|zd I<|zf I<|ze<|zh ?_);obtain ⟨x,hx⟩:∃ x,xs[i]? =some x:=⟨_,Je o9⟩;refine zi (zd I<|zd I<|zd I<|za I (zU (e:=3) 1 I I k9 k9 o9 (by simpa using hx))<|za I (zS I I k9 s9)<|za I (Zr I I)<|ze<|zC I (fun hb16=> ?_) (fun hb16=> ?_))
   ·have h16:v=x:=oT hb16;refine zn (zd I<|zf I<|ze<|zO (fn:=Tryz.f157) (fun _ _ h=>h)<|Rs.le (zG I<|zk I) ?_);exact zI (by rw [ixZ_some hx h16.symm hp])
   ·have h16:¬v=x:=oF hb16;exact zq (SN.block<|zj<|zi<|za I (Rd.add I I ⟨by omega,by omega⟩)<|zd I<|zF (fun a w hh=>hK0 (⟨i + 1,by omega,fun j hj d hd=>(Nat.lt_succ_iff_lt_or_eq.1 hj).elim (fun h=>hp j h d hd) (fun e=>by subst e;rw [hx] at hd;rw [← Option.some.inj hd];exact fun e=>h16 e.symm)⟩) (by dsimp only;omega) a w<|hh.sub<|⟨⟨_,I,⟨lq I,⟨lq I,⟨lq I,⟨⟨_,I,zI s9⟩,t9⟩⟩⟩⟩⟩,[],by decide,trivial⟩))
  ·have h9:¬(i:Int) < (xs.length:Int):=oF hb9;refine zQ ?_
   repeat (first | refine zX ?_ | refine zY d9 ?_)
   refine zZ (zj<|zn<|zf I<|ze<|zO (fn:=Tryz.f157) (fun _ _ h=>h)<|Rs.le (zG I<|zk I) ?_);exact zI (by rw [ixZ_none fun j c hc=>hp j (by have:=(Jg.1 hc).1;omega) c hc])
theorem Kc (xs:List Int) (v:Int) (hl:xs.length≤1000000):Con Tryz.prog 134 [lsD z7 xs,iD v] (yL<|decide (v∈xs)):=by
 refine yy Tryz.func134 k9 I k9 fun base w0=>(zn<|zf I<|zN<|zd I<|zd I<|zu (S:=[]) (zv (con_idx40 xs v hl) I ⟨zc _,zc _,t9⟩ I)<|za I (YF I I)<|zf I<|ze<|zO (fn:=Tryz.f134) (fun _ _ h=>h)<|Rs.le (zG I<|zk I) ?_);exact Zg ixZ_mem
theorem con_best1 (xs:List Int) (n:Int) (hl:xs.length≤1000000):Con Tryz.prog 163 [iD n,paD [lsD z7 xs]] (yL<|decide (n∈xs)):=by
 refine yy Tryz.func163 k9 I k9 fun base w0=>(zn<|zf I<|zN<|za I (zS I I k9 s9)<|zd I<|zu (S:=[]) (zv (Kc xs n hl) I ⟨zc _,zc _,t9⟩ I)<|zf I<|ze<|zO (fn:=Tryz.f163) (fun _ _ h=>h)<|Rs.le (zG I<|zk I) ?_);exact zc _
theorem ze5 (xs:List Int) (n:Int) (hl:xs.length≤1000000):Con Tryz.prog 133 [iD n,paD [lsD z7 xs]] (yL<|decide (n∈xs)):=by
 refine yy Tryz.func133 k9 I k9 fun base w0=>(zn<|zf I<|zN<|za I (zS I I k9 s9)<|zd I<|zu (S:=[]) (zv (Kc xs n hl) I ⟨zc _,zc _,t9⟩ I)<|zf I<|ze<|zO (fn:=Tryz.f133) (fun _ _ h=>h)<|Rs.le (zG I<|zk I) ?_);exact zc _
theorem WO (b:Int) (l:List Co.Cl) (ws:List Co.Wi) (W:List Int) (hl:l.length≤1000000) (hw:ws.length≤1000000) (hW:W.length≤1000000) (hs:∀ (i:Nat) x y,W[i]? =some x→W[i + 1]? =some y→x < y) (hm:∀ (i:Nat) x,W[i]? =some x→∃ m,Co.fC l x=some m):Con Tryz.prog 132 [iD b,lsD yJ l,lsD ZM ws,lsD z7 W] (iD<|zaj b l ws):=by
 refine yy Tryz.func132 k9 I k9 fun base w0=>(zn<|zf I<|ze<|zh<|zn<|zd I<|zd I<|zd I<|zu (S:=[]) (zv (KM b l ws hl hw) I ⟨zc _,zc _,zc _,t9⟩ I)<|za I (yu I)<|ze<|zC I (fun hb16=> ?_) (fun hb16=> ?_))
 ·have hv:¬Co.VW b l ws:=by simpa using hb16
  refine zn (zf I<|ze<|zO (fn:=Tryz.f132) (fun _ _ h=>h)<|Rs.le (zG I<|zk I) ?_);exact zI (by rw [zaj,Jb hv])
 ·have hv:Co.VW b l ws:=by simpa using hb16
  refine zq (zj<|zh<|zn<|zf I<|ze<|SW.block<|yd (ι:={i:Nat // 1≤i∧(i≤W.length∨i=1)}) (fun i=>yb [(1,lsD yJ l),(3,lsD z7 W),(9,iD (i.1:Int))] []) (fun i=>W.length - i.1) (⟨1,Js _,.inr I⟩) ?_ ?_)
  ·exact (sB [] I I)
  ·rintro ⟨i,hi,hi2⟩ K0 hK0;dsimp only at hi hi2 ⊢;refine zh (zn<|zd I<|zd I<|za I (zT (e:=3) I k9)<|za I (yc I I)<|ze<|zC I (fun hb20=> ?_) (fun hb20=> ?_))
   ·have h20:(i:Int) < (W.length:Int):=oT hb20;refine zq (zj<|zh<|SW.block<|zh ?_);obtain ⟨x,hx⟩:∃ x,W[i]? =some x:=⟨_,Je o9⟩;obtain ⟨y,hy⟩:∃ y,W[i - 1]? =some y:=⟨_,Je o9⟩;have hlt:=hs (i - 1) y x hy (by rw [show i - 1 + 1=i by omega];exact hx)
    exact yl [] (rr [0,1,2,3,4,5,6,7,8,9] .fin) k9 k9 (fun d _ _ _ _ h=>by cases d <;> exact h) (zz I I<|zz I I<|zl I I (zU (e:=3) 1 I I k9 k9 o9 (by simpa using hx))<|zl I I (zS I I k9 s9)<|zz I I<|zz I I<|zl I I (Rd.mono (yG I I ⟨by omega,by omega⟩) (show Le _ (iD ((i - 1:Nat):Int)) from zI (by congr 1;omega)))<|zl I I (zU (e:=3) 1 I I k9 k9 o9 (by simpa using hy))<|zl I I (zS I I k9 s9)<|zl I I (Zn I I)<|yE<|zK I (decide_eq_false o9)<|zq<|SN.block<|zj<|zi<|zd I<|za I (Rd.add I I ⟨by omega,by omega⟩)<|zf I<|zF (fun a w hh=>hK0 (⟨i + 1,by omega,by omega⟩) (by dsimp only;omega) a w<|hh.sub<|⟨⟨_,I,⟨lq I,⟨lq I,⟨⟨_,I,zI s9⟩,t9⟩⟩⟩⟩,[],by decide,trivial⟩))
   ·have h20:¬(i:Int) < (W.length:Int):=oF hb20;refine zQ ?_
    repeat (first | refine zX ?_ | refine zY d9 ?_)
    refine zZ (zj<|zh<|zn<|zd I<|za I (zT (e:=3) I k9)<|zd I<|ze<|SW.block<|yd (ι:={i:Nat // i≤W.length}) (fun i=>yb [(1,lsD yJ l),(33,lsD z7 W),(34,iD (W.length:Int)),(35,iD (i.1:Int))] []) (fun i=>W.length - i.1) (⟨0,JC _⟩) ?_ ?_)
    ·exact (sB [] I I)
    ·rintro ⟨i,hi⟩ K1 hK1;dsimp only at hi ⊢;refine zn (za I (yc I I)<|ze<|zh<|zC I (fun hb36=> ?_) (fun hb36=> ?_))
     ·have h36:(i:Int) < (W.length:Int):=oT hb36;refine zq (zj<|zh<|SW.block<|zh ?_);obtain ⟨x,hx⟩:∃ x,W[i]? =some x:=⟨_,List.getElem?_eq_getElem o9⟩;obtain ⟨m,hfm⟩:=hm i x hx;exact zi (za I (zU (e:=3) 1 I I k9 k9 o9 (by simpa using hx))<|za I (zS I I k9 s9)<|zf I<|zN<|zd I<|zd I<|zu (S:=[]) (zv (zaQ hl hfm) I ⟨zc _,zc _,t9⟩ I)<|za I (yc I I)<|ze<|zK I (decide_eq_false o9)<|zq<|SN.block<|zj<|zi<|za I (Rd.add I I ⟨by omega,by omega⟩)<|zd I<|zF (fun a w hh=>hK1 (⟨i + 1,by omega⟩) (by dsimp only;omega) a w<|hh.sub<|⟨⟨_,I,⟨lq I,⟨lq I,⟨lq I,⟨⟨_,I,zI s9⟩,t9⟩⟩⟩⟩⟩,[],by decide,trivial⟩))
     ·have h36:¬(i:Int) < (W.length:Int):=oF hb36;refine zQ ?_
      repeat (first | refine zX ?_ | refine zY d9 ?_)
      refine zZ (zj<|zn<|zf I<|ze<|zO (fn:=Tryz.f132) (fun _ _ h=>h)<|Rs.le (zG I<|zk I) ?_);exact zI (by rw [zaj,Jh hv])
theorem WD (b:Int) (l:List Co.Cl) (ws:List Co.Wi) (f:Int→Bool) (hv:Co.VW b l ws) (hw:ws.length≤1000000):Con Tryz.prog 91 [lsD yJ l,lsD ZM ws,prD Tryz.prog (fun _=>True)<|f] (lsD ZE<|Zs l ws f ws.length):=by
 have hl:l.length≤1000000:=by have:=hv.c.n;omega
 refine yy Tryz.func91 k9 I k9 fun base w0=>(zn<|zf I<|zN<|zd I<|za I (zT (e:=70) I k9) (SWl.e2 (S:=[]) (V9 (e:=147) (n:=l.length) (z:= .agg #[.int .i64 0,.int .i64 0,.int .i64 0,.int .i64 0,.int .i64 0,.int .i64 0,.int .i64 0,.int .i64 0,.int .i64 0,.int .i64 0,.int .i64 0,.int .i64 0]) ZE (fun _=>0) 12 96 I I k9 k9 k9 d9 I I I o9 d9 I) fun g12=>(zf I<|ze<|zh<|zn<|zd I<|za I (zT (e:=73) I k9)<|zd I<|ze<|SW.block<|yd (ι:={k:Nat // k≤ws.length}) (fun k=>yb [(0,lsD yJ l),(2,prD Tryz.prog (fun _=>True)<|f),(7,isD<|.slice (some ⟨g12,0,none⟩) (Zs l ws f k.1).length l.length),(13,lsD ZM ws),(14,iD (ws.length:Int)),(15,iD (k.1:Int))] [.r [g12]<|yi 147 12 ZE (some ⟨g12,0,none⟩) l.length<|Zs l ws f k.1]) (fun k=>ws.length - k.1) (⟨0,JC _⟩) ?_ ?_)))
 ·exact ⟨⟨_,I,⟨lq I,⟨lq I,⟨⟨_,I,zI (by rw [qb])⟩,(sT I)⟩⟩⟩⟩,[0],by decide,⟨⟨_,rfl,(by rw [tabR_zero l ws f];exact zM _)⟩,trivial⟩⟩
 ·rintro ⟨k,hk⟩ K0 hK0;dsimp only at hk ⊢;refine zn (za I (yc I I)<|ze<|zh<|zC I (fun hb16=> ?_) (fun hb16=> ?_))
  ·have h16:(k:Int) < (ws.length:Int):=oT hb16;refine zq (zj<|zh<|SW.block<|zh ?_);obtain ⟨x,hx⟩:∃ x,ws[k]? =some x:=⟨_,Je o9⟩;refine zi (za I (zU (e:=73) 3 I I k9 k9 o9 (by assumption))<|za I (yn 3 I k9 d9 (show 3≤3 by decide) s9) (SWl.e2 (S:=[]) (Ef.alloc (zs:=[.int .i64 0,.int .i64 0,.int .i64 0]) k9 I) fun g9=>(zu (S:=[_]) (zA 1 I I I k9 I<|m9 I)<|zN<|zd I<|za I (zg (n:=0) I k9)<|za I (zp 1 I I I k9 zm)<|zu (S:=[]) (zbJ I I t9 I)<|ze<|zC I (fun hb22=> ?_) (fun hb22=> ?_))))
   ·skip
    obtain ⟨m,c,hm,hc,h0,h1,_⟩:=hv.ok k x hx;obtain ⟨c2,hc2,hcw⟩:=Co.fC_is hm;rw [hc] at hc2;obtain rfl:=JN hc2;have hc1:=(hv.c.ok m c hc).2.2;have hb2:=hv.c.b2
    refine yl ([g12] ++ []) (rr [0,1,2,3,5,6,7,8]<|.n 4 (.r 9<|.r 10<|.e 11 .fin .no) .no) k9 k9 (fun d _ _ _ _ h=>by cases d <;> exact h) (zz I I<|zz I I<|zl I I (zg (n:=0) I k9)<|zl I I (zp 1 I I I k9<|Zl 0 I d9 zm)<|zl I I (zg (n:=1) I k9)<|zl I I (zp 1 I I I k9<|Zl 0 I d9 zm)<|zl I I (zg (n:=2) I k9)<|zl I I (zp 1 I I I k9<|Zl 0 I d9 zm)<|yZ I (zv (zaQ hl hm) I ⟨zc _,zc _,t9⟩ I)<|zl I I (yf 0 12 I I I k9 k9 o9 (by rw [qb];have:=(Jg.1 hc).1;omega)) ?_)
    exact zl I I (Rd.idxTA (e:=3) (n:=12) I I k9 k9 o9 o9) (Zm I (Vr (v':=(fun s:Nat=>if f c.win then Co.wish (ws.take<|k + 1) c.win (s:Int) else 0)) 0 12 I I I k9 (show (Zs l ws f k)[((m:Int)).toNat]? =_ from Kx hc) o9 (tab_cell hv hx hb22 hcw _ (Int.toNat_of_nonneg h0).symm) (fun _ h=>mL _ h))<|y9<|SN.block<|zj<|zi<|za I (Rd.add I I ⟨by omega,by omega⟩)<|zd I<|zF (fun a w hh=>hK0 (⟨k + 1,by omega⟩) (by dsimp only;omega) a w<|hh.sub<|⟨⟨_,I,⟨lq I,⟨lq I,⟨⟨_,I,zI (by rw [qb,qb])⟩,⟨lq I,⟨lq I,⟨⟨_,I,zI s9⟩,t9⟩⟩⟩⟩⟩⟩⟩,[1],by decide,⟨⟨_,rfl,(by rw [← tabR_on hv hx hb22 hm hc rfl];exact zM _)⟩,trivial⟩⟩))
   ·skip
    exact zq (SN.block<|zj<|zi<|za I (Rd.add I I ⟨by omega,by omega⟩)<|zd I<|zF (fun a w hh=>hK0 (⟨k + 1,by omega⟩) (by dsimp only;omega) a w<|hh.sub<|⟨⟨_,I,⟨lq I,⟨lq I,⟨⟨_,I,zI (by rw [qb,qb])⟩,⟨lq I,⟨lq I,⟨⟨_,I,zI s9⟩,t9⟩⟩⟩⟩⟩⟩⟩,[0],by decide,⟨⟨_,rfl,(by rw [tabR_off hv hx hb22];exact zM _)⟩,trivial⟩⟩))
  ·have h16:¬(k:Int) < (ws.length:Int):=oF hb16;refine zQ ?_
   repeat (first | refine zX ?_ | refine zY d9 ?_)
   refine zZ (zj<|zn<|zd I<|zf I<|ze<|SW.freezeT 0 6 I I (by rw [show k=ws.length by omega];exact zc _)<|zO (fn:=Tryz.f91) (fun _ _ h=>h)<|Rs.le (zG I<|zk I) ?_);exact zc _
theorem WI (b:Int) (l:List Co.Cl) (T:List (Nat→Int)) (hl:l.length≤1000000):ConR Tryz.prog 90 [] [iD b,lsD yJ l,lsD ZE T] (fun t:Nat × Nat=>[.c t.1 [iD b,lsD yJ l,lsD ZE T,isD<|.slice (some ⟨t.2,0,none⟩) (List.replicate l.length (-1:Int)).length l.length],.r [t.2]<|yi 3 1 z7 (some ⟨t.2,0,none⟩) l.length<|List.replicate l.length<|-1]) (fun t:Nat × Nat=>pA t.1):=by
 refine yt Tryz.func90 k9 I k9 fun base w0=>(zn<|zf I<|zN<|zd I<|zd I<|zd I<|zd I<|za I (zT (e:=70) I k9) (SWl.e2 (S:=[]) (Zu (e:=3) (n:=l.length) z7 0 8 I I k9 k9 I I I I o9 d9 I) fun g14=>(za I (yF I I bldAr) (SWl.e2 (S:=[]) (ym I I) fun g16=>(zf I<|ze<|zh<|zh<|SW.sub (σ':=yb [(7,_)] [.c g16 [iD b,lsD yJ l,lsD ZE T,isD<|.slice (some ⟨g14,0,none⟩) (qB l.length 0).length l.length],.r [g14]<|yi 3 1 z7 (some ⟨g14,0,none⟩) l.length<|qB l.length 0]) (⟨⟨_,I,⟨lq I,t9⟩⟩,[1,0],by decide,⟨⟨_,rfl,⟨zc _,zc _,zc _,zI (by rw [jC]),trivial⟩⟩,⟨⟨_,rfl,(by rw [fxI_zero];exact zM _)⟩,trivial⟩⟩⟩)<|zi<|zd I<|za I (zL I)<|za I (zg (n:=3) I k9)<|za I (zp 0 I I I k9 zm)<|za I (Zx (e:=3) I k9)<|zd I<|ze<|SW.block<|yd (ι:={i:Nat // i≤l.length}) (fun i=>yb [(7,pA g16),(21,iD ((qB l.length 0).length:Int)),(22,iD (i.1:Int))] [.c g16 [iD b,lsD yJ l,lsD ZE T,isD<|.slice (some ⟨g14,0,none⟩) (qB l.length i.1).length l.length],.r [g14]<|yi 3 1 z7 (some ⟨g14,0,none⟩) l.length<|qB l.length i.1]) (fun i=>l.length - i.1) (⟨0,JC _⟩) ?_ ?_)))))
 ·exact (sB [0,1] I I)
 ·rintro ⟨i,hi⟩ K0 hK0;dsimp only at hi ⊢;refine zn (za I (yc I I)<|ze<|zh<|zC I (fun hb23=> ?_) (fun hb23=> ?_))
  ·have h23:i < l.length:=by have h:=oT hb23;rw [jC] at h;omega
   exact zq (zj<|zh<|SW.block<|zn<|zd I<|zf I<|ze<|zi<|zd I<|za I (zL I)<|za I (zg (n:=3) I k9)<|za I (zp 0 I I I k9 zm)<|zd I<|za I (yf 1 1 I I I k9 k9 o9 (by rw [jC];omega))<|zu (S:=_) (yM (v:=(-1)) 1 I I I I k9 (by rw [jC];omega) (fun _ h=>h))<|zF<|SN.block<|zj<|zi<|za I (Rd.add I I ⟨by omega,by omega⟩)<|zd I<|zF (fun a w hh=>hK0 (⟨i + 1,by omega⟩) (by dsimp only;omega) a w<|hh.sub<|⟨⟨_,I,⟨lq I,⟨lq I,⟨⟨_,I,zI s9⟩,t9⟩⟩⟩⟩,[0,1],by decide,⟨⟨_,rfl,⟨zc _,zc _,zc _,zI (by rw [jC,jC]),trivial⟩⟩,⟨⟨_,rfl,(by rw [← fxI_set (show i < l.length by omega)];exact zM _)⟩,trivial⟩⟩⟩))
  ·have h23:¬i < l.length:=by have h:=oF hb23;rw [jC] at h;omega
   refine zQ ?_
   repeat (first | refine zX ?_ | refine zY d9 ?_)
   refine zZ (zj<|zn<|zd I<|zf I<|ze<|zV (fn:=Tryz.f90) ((g16,g14)) [0,1] (fun _ _ h=>h) (Rs.le (zG I<|zk I) ?_) d9 ⟨⟨_,I,⟨zc _,zc _,zc _,zI (by rw [jC,List.length_replicate]),t9⟩⟩,⟨⟨_,I,(by rw [← fxI_all,show i=l.length by omega];exact zM _)⟩,t9⟩⟩);exact zc _
end Sx
end Go.Proofs.YtfoafihodanmhaaGreatDoor
namespace Go.Proofs.YtfoafihodanmhaaGreatDoor
namespace Co
section
variable (n B:Nat)(c:Nat→Nat)(T:Nat→Nat→Int)(fx:Nat→Int)(p:Int × Int→Int)
abbrev rw' (a q m:Nat):Int × Int:=zbL c T fx (dpT n B c T fx<|B - (a + 1)) a q m
def zr:List Int:=List.replicate (2 ^ n) 0
def col (f:Nat→Int × Int):List Int:=(List.range<|2 ^ n).map fun s=>p (f s)
def part (a s:Nat) (v:Int):List Int:=(List.range<|2 ^ n).map fun q=>if q < s then p (rw' n B c T fx a q n) else if q=s then v else 0
def gC (a:Nat):List (List Int):=List.replicate a (zr n) ++ (dpT n B c T fx<|B - a).map (col n p)
def gP (a s:Nat) (v:Int):List (List Int):=List.replicate a (zr n) ++ part n B c T fx p a s v :: (dpT n B c T fx<|B - (a + 1)).map (col n p)
end
section
variable {n B:Nat}{c:Nat→Nat}{T:Nat→Nat→Int}{fx:Nat→Int}{p:Int × Int→Int}
theorem dpT_len:∀ k,(dpT n B c T fx k).length=k + 1
 | 0=>rfl
 | k + 1=>by rw [dpT,Xm,dpT_len k]
theorem part_zero {a:Nat}:part n B c T fx p a 0 0=zr n:=by
 apply Xh;intro q;unfold part zr
 by_cases hq:q < 2 ^ n
 ·rw [JJ,List.getElem?_range hq,Xj,Jh hq];simp
 ·rw [JM (by simp;omega),JM (by simp;omega)]
theorem gC_gP {a:Nat}:gC n B c T fx p (a + 1)=gP n B c T fx p a 0 0:=by
 unfold gC gP;rw [part_zero,List.replicate_succ',Jq];rfl
theorem zbj {a s q:Nat} {v:Int} (hq:q < 2 ^ n):(part n B c T fx p a s v)[q]? =some (if q < s then p (rw' n B c T fx a q n) else if q=s then v else 0):=by
 unfold part;rw [JJ,List.getElem?_range hq];rfl
theorem part_at {a s:Nat} {v:Int} (hs:s < 2 ^ n):(part n B c T fx p a s v)[s]? =some v:=by rw [zbj hs,Jb o9,Jh rfl]
theorem part_len {a s:Nat} {v:Int}:(part n B c T fx p a s v).length=2 ^ n:=by simp [part]
theorem part_set {a s:Nat} {v v':Int} (hs:s < 2 ^ n):(part n B c T fx p a s v).set s v'=part n B c T fx p a s v':=by
 apply Xh;intro q
 by_cases hq:q < 2 ^ n
 ·by_cases e:q=s
  ·subst e;rw [List.getElem?_set_self (by rw [part_len];exact hq),part_at hq]
  ·rw [List.getElem?_set_ne (fun h=>e h.symm),zbj hq,zbj hq,Jb e,Jb e]
 ·rw [JM (by rw [Xl,part_len];omega),JM (by rw [part_len];omega)]
theorem part_next {a s:Nat}:part n B c T fx p a s (p<|rw' n B c T fx a s n)=part n B c T fx p a (s + 1) 0:=by
 unfold part;refine List.map_congr_left fun q _=> ?_
 by_cases h1:q < s
 ·rw [Jh h1,Jh o9]
 ·by_cases h2:q=s
  ·subst h2;rw [Jb h1,Jh rfl,Jh o9]
  ·rw [Jb h1,Jb h2,Jb o9];split <;> rfl
theorem gP_at {a s:Nat} {v:Int}:(gP n B c T fx p a s v)[a]? =some (part n B c T fx p a s v):=by
 unfold gP;rw [JR s9,List.length_replicate,Nat.sub_self];rfl
theorem gP_set {a s:Nat} {v v':Int} (hs:s < 2 ^ n):(gP n B c T fx p a s v).set a ((part n B c T fx p a s v).set s v')=gP n B c T fx p a s v':=by
 rw [part_set hs];unfold gP;rw [Xa _ _ s9,List.length_replicate,Nat.sub_self];rfl
theorem gP_next {a s:Nat}:gP n B c T fx p a s (p<|rw' n B c T fx a s n)=gP n B c T fx p a (s + 1) 0:=by unfold gP;rw [part_next]
theorem gP_row {a s e:Nat} {v:Int} {f:Nat→Int × Int} (he:a < e) (hf:(dpT n B c T fx<|B - (a + 1))[e - (a + 1)]? =some f):(gP n B c T fx p a s v)[e]? =some (col n p f):=by
 unfold gP;rw [JR (by simp;omega),List.length_replicate,show e - a=(e - (a + 1)) + 1 by omega,J1,JJ,hf];rfl
theorem col_get {f:Nat→Int × Int} {q:Nat} (hq:q < 2 ^ n):(col n p f)[q]? =some (p<|f q):=by
 unfold col;rw [JJ,List.getElem?_range hq];rfl
theorem col_len {f:Nat→Int × Int}:(col n p f).length=2 ^ n:=by simp [col]
theorem gP_done {a:Nat} (ha:a < B):gP n B c T fx p a (2 ^ n) 0=gC n B c T fx p a:=by
 unfold gP gC;rw [show B - a=(B - (a + 1)) + 1 by omega,dpT,JU];congr 2;unfold part col;refine List.map_congr_left fun q hq=> ?_;have hq':q < 2 ^ n:=List.mem_range.1 hq;rw [Jh hq',show B - (B - (a + 1) + 1)=a by omega]
theorem gC_val:List.replicate (B + 1) (zr n)=gC n B c T fx Prod.fst B:=by
 unfold gC;rw [Nat.sub_self,dpT,List.replicate_succ'];congr 1;show [zr n]=[col n Prod.fst _];congr 1;apply Xh;intro q
 by_cases hq:q < 2 ^ n
 ·rw [col_get hq];unfold zr;rw [Xj,Jh hq]
 ·rw [JM (by simp [zr];omega),JM (by rw [col_len];omega)]
theorem gC_cnt:(List.replicate (B + 1)<|zr n).set B ((zr n).set 0 1)=gC n B c T fx Prod.snd B:=by
 unfold gC;rw [Nat.sub_self,dpT,List.replicate_succ',Xa _ _ s9,List.length_replicate,Nat.sub_self];congr 1;show [(zr n).set 0 1]=[col n Prod.snd _];congr 1;apply Xh;intro q
 by_cases hq:q < 2 ^ n
 ·rw [col_get hq]
  by_cases e:q=0
  ·subst e;rw [List.getElem?_set_self (by simpa [zr] using hq)];rfl
  ·rw [List.getElem?_set_ne (fun h=>e h.symm)];unfold zr;rw [Xj,Jh hq];simp [e]
 ·rw [JM (by simp [zr];omega),JM (by rw [col_len];omega)]
theorem rw_zero {a s:Nat} {f:Nat→Int × Int} (hf:(dpT n B c T fx<|B - (a + 1))[0]? =some f):rw' n B c T fx a s 0=f s:=by
 show ((dpT n B c T fx<|B - (a + 1)).headD fun _=>(0,0)) s=f s
 cases h:dpT n B c T fx (B - (a + 1)) with
 | nil=>rw [h] at hf;simp at hf
 | cons g R=>rw [h] at hf;obtain rfl:=JN hf;rfl
def Go_ (n B:Nat) (c:Nat→Nat) (T:Nat→Nat→Int) (fx:Nat→Int) (a s i:Nat):Prop:=∃ f,(dpT n B c T fx<|B - (a + 1))[c i - 1]? =some f∧bt s i=true∧okF fx i a=true∧(f<|s - 2 ^ i).2≠0
noncomputable def noG (n B:Nat) (c:Nat→Nat) (T:Nat→Nat→Int) (fx:Nat→Int) (a s i:Nat):Bool:= @decide (¬Go_ n B c T fx a s i) (Classical.propDecidable _)
theorem noG_t {a s i:Nat} (h:¬Go_ n B c T fx a s i):true=noG n B c T fx a s i:=(@decide_eq_true _ (Classical.propDecidable _) h).symm
theorem noG_f {a s i:Nat} (h:Go_ n B c T fx a s i):false=noG n B c T fx a s i:=(@decide_eq_false _ (Classical.propDecidable _)<|Jj h).symm
theorem noG_no {a s i:Nat} (h:noG n B c T fx a s i=true):rw' n B c T fx a s (i + 1)=rw' n B c T fx a s i:=by
 have h':= @of_decide_eq_true _ (Classical.propDecidable _) h;show stp c T fx _ a s _ i=_;unfold stp
 split
 ·rfl
 ·rename_i f hf;rw [Jb fun hh=>h' ⟨f,hf,hh.1,hh.2.1,hh.2.2⟩]
theorem noG_yes {a s i:Nat} (h:noG n B c T fx a s i=false):Go_ n B c T fx a s i:=Xp.1 (@of_decide_eq_false _ (Classical.propDecidable _) h)
theorem rw_yes {a s i:Nat} {f:Nat→Int × Int} (hf:(dpT n B c T fx<|B - (a + 1))[c i - 1]? =some f) (h1:bt s i=true) (h2:okF fx i a=true) (h3:(f<|s - 2 ^ i).2≠0):rw' n B c T fx a s (i + 1)=(if (rw' n B c T fx a s i).2=0∨(rw' n B c T fx a s i).1 < (f<|s - 2 ^ i).1 + T i a then (f<|s - 2 ^ i).1 + T i a else (rw' n B c T fx a s i).1,(rw' n B c T fx a s i).2 + (f<|s - 2 ^ i).2):=by
 show stp c T fx _ a s _ i=_;unfold stp;rw [hf];dsimp only;rw [if_pos ⟨h1,h2,h3⟩]
theorem dp_bd (hn:n≤6) (hB:B≤12) (hc:∀ i,1≤c i) (hT:∀ i r,0≤T i r∧T i r≤1099511627776) {k j:Nat} (hk:k≤B) {f:Nat→Int × Int} (hf:(dpT n B c T fx k)[j]? =some f) {s:Nat} (hs:s < 2 ^ n):0≤(f s).1∧(f s).1≤13194139533312∧0≤(f s).2∧(f s).2≤13841287201:=by
 have h:=(dp_sp hn hc k hk).2 j f hf s hs
 have h7:((7 ^ k:Nat):Int)≤13841287201:=by
  have:7 ^ k≤7 ^ 12:=Nat.pow_le_pow_right d9 o9;omega
 refine ⟨?_,?_,h.1,by have:=h.2.1;omega⟩
 ·by_cases e:(f s).2=0
  ·rw [(h.2.2.1 e).1];exact Int.le_refl _
  ·exact ((h.2.2.2 e).1.le hT hc).2.1
 ·by_cases e:(f s).2=0
  ·rw [(h.2.2.1 e).1];decide
  ·have h1:=((h.2.2.2 e).1.le hT hc).2.2;have h2:((B - (B - k + j):Nat):Int) * 1099511627776≤12 * 1099511627776:=Int.mul_le_mul_of_nonneg_right o9 d9;omega
theorem rw_bd (hn:n≤6) (hB:B≤12) (hc:∀ i,1≤c i) {a s m:Nat} (ha:a < B) (hs:s < 2 ^ n) (hm:m≤n):0≤(rw' n B c T fx a s m).2∧(rw' n B c T fx a s m).2≤13841287201:=by
 obtain ⟨h1,h2⟩:=dp_sp (b:=B) (T:=T) (fx:=fx) hn hc (B - (a + 1)) o9;have h:=row_sp (b:=B) (K:=((7 ^ (B - (a + 1)):Nat):Int)) (T:=T) (fx:=fx) (R:=dpT n B c T fx<|B - (a + 1)) hn hc ha (by rw [h1];omega) (fun j f hj=>by have:=h2 j f hj;rwa [show B - (B - (a + 1)) + j=a + 1 + j by omega] at this) hs m hm;refine ⟨h.1,Int.le_trans h.2.1 ?_⟩;have h3:((m:Int) + 1) * ((7 ^ (B - (a + 1)):Nat):Int)≤7 * ((7 ^ (B - (a + 1)):Nat):Int):=Int.mul_le_mul_of_nonneg_right o9 (Int.natCast_nonneg _);have h4:7 ^ (B - (a + 1))≤7 ^ 11:=Nat.pow_le_pow_right d9 o9;have h5:(7:Int) * ((7 ^ (B - (a + 1)):Nat):Int)≤7 * ((7 ^ 11:Nat):Int):=Int.mul_le_mul_of_nonneg_left o9 d9
 have h6:(7:Int) * ((7 ^ 11:Nat):Int)=13841287201:=by decide
 omega
end
theorem slv_head {l:List Cl} {ws:List Wi} {g:Nat→Bool} {B:Nat} {fx:Nat→Int} {f:Nat→Int × Int} (hf:(dpT l.length B (cO<|cs l ws g) (tO<|cs l ws g) fx B)[0]? =some f):slv (cs l ws g) B fx=f (2 ^ l.length - 1):=by
 unfold slv;rw [Kb]
 cases h:dpT l.length B (cO<|cs l ws g) (tO<|cs l ws g) fx B with
 | nil=>rw [h] at hf;simp at hf
 | cons g R=>rw [h] at hf;obtain rfl:=JN hf;rfl
