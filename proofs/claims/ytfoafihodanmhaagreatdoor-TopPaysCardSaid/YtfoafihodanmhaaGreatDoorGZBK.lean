/- TOP: the claims of an area. TOP: areaPays. -/
import Derived.Test.YtfoafihodanmhaaGreatDoorGZBJ
set_option maxHeartbeats 8000000
set_option maxRecDepth 100000
namespace Go.Proofs.YtfoafihodanmhaaGreatDoor
open Go.RowKit
namespace Sx
section
def zer (l:List Tp.Pr) (i:Nat):Int:=((l[i]?).map Tp.Pr.ar).getD (-1)
theorem zcF {l:List Tp.Pr} {i:Nat} {p:Tp.Pr} (h:l[i]? =some p):zer l i=p.ar:=by rw [zer,h];rfl
def Tp.hS (l:List Tp.Pr) (a:Int) (bl:List Int):Nat→Int
 | 0=>0
 | i + 1=>Tp.hS l a bl i + if zer l i=a then Tp.blA bl i else 0
theorem za0 {l:List Tp.Pr} {a:Int} {bl:List Int} {i:Nat} {p:Tp.Pr} {n:Int} (h:l[i]? =some p) (hn:bl[i]? =some n):Tp.hS l a bl (i + 1)=Tp.hS l a bl i + if p.ar=a then n else 0:=by rw [Tp.hS,zcF h,Ym hn]
abbrev Tp.hT (l:List Tp.Pr) (a:Int) (bl:List Int):Int:=Tp.hS l a bl l.length
theorem zbD {l:List Tp.Pr} {a:Int} {bl:List Int} (h:∀ k,0≤Tp.blA bl k∧Tp.blA bl k≤12):∀ i,0≤Tp.hS l a bl i∧Tp.hS l a bl i≤12 * (i:Int)
 | 0=>by simp [Tp.hS]
 | i + 1=>by
  have h1:=zbD (l:=l) (a:=a) h i;have h2:=h i;rw [Tp.hS]
  split <;> omega
theorem Tp.OkB.blA {l:List Tp.Pr} {la:Int} {b:Tp.Bd} (h:Tp.OkB l la b) (hl:jv l) (k:Nat):0≤Tp.blA b.bl k∧Tp.blA b.bl k≤12:=by
 rcases hq:b.bl[k]? with _ | n
 ·rw [Tp.blA,hq];decide
 ·have hk:=(Jg.1 hq).1;have hp:l[k]? =some (l[k]'(by have:=h.fi.len;omega)):=Je _;have h1:=h.fi.ok k _ n hp hq;have h2:=(hl k _ hp).ok.2.2.1;rw [Ym hq];omega
def ZF (l:List Tp.Pr) (a:Int):List Tp.Bd→List Co.Cl
 | []=>[]
 | x :: r=>(if 0 < Tp.hT l a x.bl then [⟨x.id,Tp.hT l a x.bl⟩] else []) ++ ZF l a r
theorem za5 {l:List Tp.Pr} {a:Int}:∀ {r s:List Tp.Bd},ZF l a (r ++ s)=ZF l a r ++ ZF l a s
 | [],s=>rfl
 | x :: r,s=>by rw [List.cons_append,ZF,ZF,za5,Jq]
theorem jl {l:List Tp.Pr} {a:Int} {bs:List Tp.Bd} {i:Nat} {x:Tp.Bd} (h:bs[i]? =some x):ZF l a (bs.take<|i + 1)=ZF l a (bs.take i) ++ if 0 < Tp.hT l a x.bl then [⟨x.id,Tp.hT l a x.bl⟩] else []:=by
 rw [List.take_add_one,h,za5];simp [ZF]
theorem qT {l:List Tp.Pr} {a:Int}:∀ {bs:List Tp.Bd},(ZF l a bs).length≤bs.length
 | []=>Js _
 | x :: r=>by
  have:=qT (l:=l) (a:=a) (bs:=r);rw [ZF,Jk,Xm]
  split <;> simp <;> omega
theorem Vn {l:List Tp.Pr} {a:Int}:∀ {bs:List Tp.Bd},((ZF l a bs).map Co.Cl.win).Sublist (bs.map Tp.Bd.id)
 | []=>List.Sublist.slnil
 | x :: r=>by
  rw [ZF,XG,JU]
  split
  ·exact (Vn (bs:=r)).cons_cons _
  ·exact (Vn (bs:=r)).cons _
theorem za4 {l:List Tp.Pr} {a:Int}:∀ {bs:List Tp.Bd} {c:Co.Cl},c∈ZF l a bs→1≤c.cnt∧∃ b∈bs,b.id=c.win
 | [],c,h=>by cases h
 | x :: r,c,h=>by
  rw [ZF] at h;rcases Jf.1 h with h | h
  ·split at h
   ·obtain rfl:=List.mem_singleton.1 h;exact ⟨by dsimp only;omega,x,mC,rfl⟩
   ·cases h
  ·obtain ⟨h1,b,hb,h2⟩:=za4 h;exact ⟨h1,b,Jl _ hb,h2⟩
def Tp.hA (l:List Tp.Pr) (a:Int) (i:Nat):List Tp.Bd→Int
 | []=>0
 | x :: r=>Tp.hS l a x.bl i + Tp.hA l a i r
theorem za3 {l:List Tp.Pr} {a:Int}:∀ {bs:List Tp.Bd},(∀ b∈bs,0≤Tp.hT l a b.bl)→Co.sC (ZF l a bs)=Tp.hA l a l.length bs
 | [],_=>rfl
 | x :: r,h=>by
  have h1:=za3 (l:=l) (a:=a) (bs:=r) fun b hb=>h b (Jl _ hb);have h2:=h x mC;rw [ZF,Tp.hA]
  split
  ·rw [List.singleton_append,Co.sC,h1]
  ·rename_i h3;have h4:¬0 < Tp.hS l a x.bl l.length:=h3;have h5:0≤Tp.hS l a x.bl l.length:=h2;rw [J0,h1];omega
theorem za2 {l:List Tp.Pr} {a:Int} {i:Nat}:∀ {bs:List Tp.Bd},Tp.hA l a (i + 1) bs=Tp.hA l a i bs + if zer l i=a then Tp.tot i bs else 0
 | []=>by simp [Tp.hA,Tp.tot]
 | x :: r=>by
  rw [Tp.hA,Tp.hA,za2,Tp.hS,Tp.tot]
  split <;> omega
theorem za1 {l:List Tp.Pr} {a:Int}:∀ {bs:List Tp.Bd},Tp.hA l a 0 bs=0
 | []=>rfl
 | x :: r=>by rw [Tp.hA,za1];rfl
theorem zeq {l:List Tp.Pr} {a:Int} {bs:List Tp.Bd} (h:∀ (k:Nat) p,l[k]? =some p→Tp.tot k bs≤p.su):∀ i≤l.length,Tp.hA l a i bs≤Tp.sA a (l.take i)
 | 0,_=>by rw [za1];simp [Tp.sA]
 | i + 1,hi=>by
  have ih:=zeq (a:=a) h i o9;obtain ⟨p,hp⟩:∃ p,l[i]? =some p:=⟨_,Je o9⟩;have h1:=h i p hp;rw [za2,YU hp,zcF hp]
  split <;> omega
theorem Tp.VB.lt {l:List Tp.Pr} {bs:List Tp.Bd} (h:Tp.VB l bs):∀ {j i:Nat} {x y:Tp.Bd},i < j→bs[i]? =some x→bs[j]? =some y→x.id < y.id
 | j + 1,i,x,y,hij,hx,hy=>by
  have hz:bs[j]? =some (bs[j]'(by have:=(Jg.1 hy).1;omega)):=Je _;have h1:=(h.ok (j + 1) y hy).i0;rw [qc hz] at h1
  by_cases e:i=j
  ·subst e;rw [hx] at hz;rw [← JN hz] at h1;exact h1
  ·have:=Tp.VB.lt h (show i < j by omega) hx hz;omega
theorem Tp.VB.pw {l:List Tp.Pr} {bs:List Tp.Bd} (h:Tp.VB l bs):(bs.map Tp.Bd.id).Pairwise (· < ·):=by
 rw [List.pairwise_iff_getElem];intro i j hi hj hij;rw [JO] at hi hj;rw [List.getElem_map,List.getElem_map];exact h.lt hij (Je hi) (Je hj)
theorem Tp.VB.id0 {l:List Tp.Pr} {bs:List Tp.Bd} (h:Tp.VB l bs) {b:Tp.Bd} (hb:b∈bs):0≤b.id∧b.id≤31:=by
 obtain ⟨i,hi⟩:=List.getElem?_of_mem hb;have h1:=h.ok i b hi;have h2:=h1.i1;refine ⟨?_,by omega⟩
 by_cases e:i=0
 ·subst e;have:=h1.i0;rw [Yc] at this;omega
 ·have hz:bs[0]? =some (bs[0]'(by have:=(Jg.1 hi).1;omega)):=Je _;have h3:=(h.ok 0 _ hz).i0;have h4:=h.lt (show 0 < i by omega) hz hi;rw [Yc] at h3;omega
theorem Tp.clm_vc {l:List Tp.Pr} {bs:List Tp.Bd} (hv:Tp.VB l bs) (h6:bs.length≤6) (hd:∀ (k:Nat) p,l[k]? =some p→Tp.tot k bs≤p.su) (a:Int):Tp.sA a l=0∨Co.VC (Tp.sA a l) (ZF l a bs):=by
 have hb:=zbC (l:=l) (i:=l.length) (fun j _ p hp=>hv.p j p hp) (a:=a);rw [List.take_length] at hb
 by_cases h0:Tp.sA a l=0
 ·exact .inl h0
 refine .inr ⟨by omega,hb.2,JG qT h6,fun i c hc=> ?_,fun i c d hc hd=> ?_,?_⟩
 ·obtain ⟨h1,b,hb,h2⟩:=za4 (Jc hc);have h3:=hv.id0 hb;exact ⟨by omega,by omega,h1⟩
 ·have hp:=hv.pw.sublist (Vn (l:=l) (a:=a));rw [List.pairwise_iff_getElem] at hp;obtain ⟨hi,e1⟩:=Jg.1 hc;obtain ⟨hj,e2⟩:=Jg.1 hd;have:=hp i (i + 1) (by rw [JO];exact hi) (by rw [JO];exact hj) o9;rw [List.getElem_map,List.getElem_map,e1,e2] at this;exact this
 ·rw [za3 fun b hb=> ?_]
  ·have:=zeq (a:=a) hd l.length (Js _);rwa [List.take_length] at this
  ·obtain ⟨i,hi⟩:=List.getElem?_of_mem hb;exact (zbD ((hv.ok i b hi).blA hv.p) _).1
theorem vc_nil {b:Int} {l:List Co.Cl} (h:Co.VC b l):Co.VW b l []:=⟨h,fun i x hx=>by simp at hx,fun i x y hx=>by simp at hx⟩
theorem rd_60t {x:Int} (h:BK 60 x):rd x 60≤1000:=by
 have:=rd_abs (n:=x) (d:=60) d9;omega
end
section
theorem zdj (b:Int) (l:List Co.Cl) (ws:List Co.Wi) (hl:l.length≤1000000) (hv:Co.VW b l ws):Con Tryz.prog 48 [iD b,lsD yJ l,lsD j9<|Co.slO b l ws] (iD 0):=by
 refine yy Tryz.func48 k9 I k9 fun base w0=>(zn<|zf I<|ze<|zh<|zn<|zd I<|zd I<|zu (S:=[]) (zv (Vh b l hl) I ⟨zc _,zc _,t9⟩ I)<|za I (yu I)<|ze<|zK I (by rw [Jo hv.c];rfl)<|zq<|zj<|zh<|zn<|zd I<|zd I<|zd I<|zu (S:=[]) (zv (Vz b l ws hv) I ⟨zc _,zc _,zc _,t9⟩ I)<|za I (yu I)<|ze<|zK I I<|zq<|zj<|zn<|zf I<|ze<|zO (fn:=Tryz.f48) (fun _ _ h=>h)<|Rs.le (zG I<|zk I) ?_);exact zc _
theorem zco (cat:List Tp.Pr) (bs:List Tp.Bd) (ar:Int) (ws:List Co.Wi) (hcl:cat.length≤1000000) (hvB:Tp.VB cat bs) (h6:bs.length≤6) (hd:∀ (k:Nat) p,cat[k]? =some p→Tp.tot k bs≤p.su) (hw:ws.length≤1000000):Con Tryz.prog 12 [lsD yA cat,lsD yK bs,iD ar,lsD ZM ws] (yL true):=by
 have hvp:=hvB.p;refine yy Tryz.func12 k9 I k9 fun base w0=>(zn<|zf I<|zN<|zf I<|zN<|zf I<|ze<|zh<|zn<|zf I<|ze<|SW.block<|yd (ι:={i:Nat // i≤cat.length}) (fun i=>yb [(0,lsD yA cat),(1,lsD yK bs),(2,iD ar),(3,lsD ZM ws),(9,iD<|Tp.sA ar<|cat.take i.1),(10,isD<|.slice none 0 0),(11,iD (i.1:Int))] []) (fun i=>cat.length - i.1) (⟨0,JC _⟩) ?_ ?_)
 ·exact (sB [] I I)
 ·rintro ⟨i,hi⟩ K0 hK0;dsimp only at hi ⊢;refine zh (zn<|zd I<|zd I<|za I (zT (e:=61) I k9)<|za I (yc I I)<|ze<|zC I (fun hb35=> ?_) (fun hb35=> ?_))
  ·have h35:(i:Int) < (cat.length:Int):=oT hb35;refine zq (zj<|zh<|SW.block<|zh ?_);obtain ⟨p,hp⟩:∃ p,cat[i]? =some p:=⟨_,Je o9⟩;have hpo:=(hvp i p hp).ok.2.2.1;have hs1:=zbC (l:=cat) (i:=i) (fun j _ p hp=>hvp j p hp) (a:=ar);refine zi (zd I<|zd I<|za I (zU (e:=61) 5 I I k9 k9 o9 (by simpa using hp))<|za I (yo (n:=0) I k9 (show 0 < 5 by decide))<|za I (zS I I k9 s9)<|zd I<|za I (Zr I I)<|ze<|zC I (fun hb44=> ?_) (fun hb44=> ?_))
   ·skip
    exact zi (zd I<|zd I<|zd I<|za I (zU (e:=61) 5 I I k9 k9 o9 (by simpa using hp))<|za I (yo (n:=2) I k9 (show 2 < 5 by decide))<|za I (zS I I k9 s9)<|za I (Rd.add I I ⟨by omega,by omega⟩)<|zf I<|zF<|SN.block<|zj<|zi<|zd I<|za I (Rd.add I I ⟨by omega,by omega⟩)<|zf I<|zF (fun aK wK hh=>hK0 (⟨i + 1,by omega⟩) (by dsimp only;omega) aK wK<|hh.sub<|⟨⟨_,I,⟨lq I,⟨lq I,⟨lq I,⟨lq I,⟨⟨_,I,zI (by dsimp only;rw [YU hp,if_pos<|oT hb44])⟩,⟨lq I,⟨⟨_,I,zI s9⟩,t9⟩⟩⟩⟩⟩⟩⟩⟩,[],by decide,trivial⟩))
   ·skip
    exact zq (SN.block<|zj<|zi<|zd I<|za I (Rd.add I I ⟨by omega,by omega⟩)<|zf I<|zF (fun aK wK hh=>hK0 (⟨i + 1,by omega⟩) (by dsimp only;omega) aK wK<|hh.sub<|⟨⟨_,I,⟨lq I,⟨lq I,⟨lq I,⟨lq I,⟨⟨_,I,zI (by dsimp only;rw [YU hp,if_neg<|oF hb44,Int.add_zero])⟩,⟨lq I,⟨⟨_,I,zI s9⟩,t9⟩⟩⟩⟩⟩⟩⟩⟩,[],by decide,trivial⟩))
  ·have h35:¬(i:Int) < (cat.length:Int):=oF hb35;refine zQ ?_
   repeat (first | refine zX ?_ | refine zY d9 ?_)
   refine zZ (zj<|zh<|zh<|SW.sub (σ':=yb [(0,_),(1,_),(2,_),(3,_),(9,iD<|Tp.sA ar cat),(10,_)] []) (⟨⟨_,I,⟨lq I,⟨lq I,⟨lq I,⟨lq I,⟨⟨_,I,zI (by rw [show i=cat.length by omega,List.take_length])⟩,⟨lq I,t9⟩⟩⟩⟩⟩⟩⟩,[],by decide,trivial⟩)<|zi<|zf I<|ze<|SW.block<|Y5 70 2 yJ<|yd (ι:={p:Nat × Wst // p.1≤bs.length}) (fun p=>yb [(0,lsD yA cat),(1,lsD yK bs),(2,iD ar),(3,lsD ZM ws),(9,iD<|Tp.sA ar cat),(10,isD<|.slice p.1.2.A (ZF cat ar<|bs.take p.1.1).length p.1.2.c),(12,iD (p.1.1:Int))] [.r p.1.2.F<|yi 70 2 yJ p.1.2.A p.1.2.c<|ZF cat ar<|bs.take p.1.1]) (fun p=>bs.length - p.1.1) (⟨(0,⟨none,0,[]⟩),JC _⟩) ?_ ?_)
   ·exact (sB [0] I I)
   ·rintro ⟨⟨i,t⟩,hi⟩ K1 hK1;dsimp only at hi ⊢;refine zh (zn<|zd I<|zd I<|za I (zT (e:=59) I k9)<|za I (yc I I)<|ze<|zC I (fun hb55=> ?_) (fun hb55=> ?_))
    ·have h55:(i:Int) < (bs.length:Int):=oT hb55;refine zq (zj<|zh<|SW.block<|zh ?_);obtain ⟨x,hx⟩:∃ x,bs[i]? =some x:=⟨_,Je o9⟩;have hxo:=hvB.ok i x hx;have hxl:=hxo.fi.len;refine zi (zf I<|ze<|zh<|zn<|zf I<|ze<|SW.block<|yd (ι:={k:Nat // k≤cat.length}) (fun k=>yb [(0,lsD yA cat),(1,lsD yK bs),(2,iD ar),(3,lsD ZM ws),(9,iD<|Tp.sA ar cat),(10,isD<|.slice t.A (ZF cat ar<|bs.take i).length t.c),(12,iD (i:Int)),(13,iD<|Tp.hS cat ar x.bl k.1),(14,iD (k.1:Int))] [.r t.F<|yi 70 2 yJ t.A t.c<|ZF cat ar<|bs.take i]) (fun k=>cat.length - k.1) (⟨0,JC _⟩) ?_ ?_)
     ·exact (sB [0] I I)
     ·rintro ⟨k,hk⟩ K2 hK2;dsimp only at hk ⊢;refine zh (zn<|zd I<|zd I<|za I (zT (e:=61) I k9)<|za I (yc I I)<|zd I<|z1 62 I (fun hb62=> ?_) (fun hb62=> ?_))
      ·have h62:(k:Int) < (cat.length:Int):=oT hb62;refine zJ hb62 (zH I) (zJ hb62 (zH I)<|zJ hb62 (zH I)<|zJ hb62 (zU (e:=59) 4 I I k9 k9 o9 (by simpa using hx))<|zJ hb62 (yo (n:=3) I k9 (show 3 < 4 by decide))<|zJ hb62 (zS I I k9 s9)<|zJ hb62 (zT (e:=3) I k9)<|zJ hb62 (yc I I)<|za I (zE I hb62 I)<|ze<|yj I (Jo o9)<|zq<|zj<|zh<|SW.block<|zh ?_);obtain ⟨p,hp⟩:∃ p,cat[k]? =some p:=⟨_,Je o9⟩;obtain ⟨n,hn⟩:∃ n,x.bl[k]? =some n:=⟨_,Je o9⟩;have hnb:=hxo.fi.ok k p n hp hn;have hpo:=(hvp k p hp).ok.2.2.1;have hsb:=zbD (l:=cat) (a:=ar) (hxo.blA hvp) k;refine zi (zd I<|zd I<|za I (zU (e:=61) 5 I I k9 k9 o9 (by simpa using hp))<|za I (yo (n:=0) I k9 (show 0 < 5 by decide))<|za I (zS I I k9 s9)<|zd I<|za I (Zr I I)<|ze<|zC I (fun hb80=> ?_) (fun hb80=> ?_))
       ·skip
        exact zi (zd I<|zd I<|zd I<|za I (zU (e:=59) 4 I I k9 k9 o9 (by simpa using hx))<|za I (yo (n:=3) I k9 (show 3 < 4 by decide))<|za I (zS I I k9 s9)<|zd I<|za I (zU (e:=3) 1 I I k9 k9 o9 (by assumption))<|za I (zS I I k9 s9)<|za I (Rd.add I I ⟨by omega,by omega⟩)<|zf I<|zF<|SN.block<|zj<|zi<|zd I<|za I (Rd.add I I ⟨by omega,by omega⟩)<|zf I<|zF (fun aK wK hh=>hK2 (⟨k + 1,by omega⟩) (by dsimp only;omega) aK wK<|hh.sub<|⟨⟨_,I,⟨lq I,⟨lq I,⟨lq I,⟨lq I,⟨lq I,⟨lq I,⟨lq I,⟨⟨_,I,zI (by dsimp only;rw [za0 hp hn,if_pos<|oT hb80])⟩,⟨⟨_,I,zI s9⟩,t9⟩⟩⟩⟩⟩⟩⟩⟩⟩⟩,[0],by decide,⟨lR rfl,trivial⟩⟩))
       ·skip
        exact zq (SN.block<|zj<|zi<|zd I<|za I (Rd.add I I ⟨by omega,by omega⟩)<|zf I<|zF (fun aK wK hh=>hK2 (⟨k + 1,by omega⟩) (by dsimp only;omega) aK wK<|hh.sub<|⟨⟨_,I,⟨lq I,⟨lq I,⟨lq I,⟨lq I,⟨lq I,⟨lq I,⟨lq I,⟨⟨_,I,zI (by dsimp only;rw [za0 hp hn,if_neg<|oF hb80,Int.add_zero])⟩,⟨⟨_,I,zI s9⟩,t9⟩⟩⟩⟩⟩⟩⟩⟩⟩⟩,[0],by decide,⟨lR rfl,trivial⟩⟩))
      ·have h62:¬(k:Int) < (cat.length:Int):=oF hb62;refine zt hb62 (zt hb62<|zt hb62<|zt hb62<|zt hb62<|zt hb62<|zt hb62<|zt hb62<|za I (zw I hb62 I)<|ze<|zK I I<|zQ ?_)
       repeat (first | refine zX ?_ | refine zY d9 ?_)
       refine zZ (zj<|zh ?_)
       obtain rfl:k=cat.length:=by omega
       refine zi (zd I<|za I (yV I I)<|ze<|zC I (fun hb92=> ?_) (fun hb92=> ?_))
       ·have h92:0 < Tp.hT cat ar x.bl:=oT hb92;exact zi (zd I<|zd I<|zd I<|za I (zU (e:=59) 4 I I k9 k9 o9 (by simpa using hx))<|za I (yo (n:=0) I k9 (show 0 < 4 by decide))<|za I (zS I I k9 s9)<|zd I<|za I (yF I I bldCl)<|zu (S:=[]) (YB I I blsCl1 I) (SWl.e4 (YW 0 2 16 I I (Y4 (l:=[_]) I) k9 k9 (by have:=qT (l:=cat) (a:=ar) (bs:=bs.take i);rw [List.length_take] at this;rw [List.length_singleton];omega) d9 (fun _ h=>h) I) fun A102 F102 c102=>(zf I<|zF<|SN.block<|zj<|zi<|zd I<|za I (Rd.add I I ⟨by omega,by omega⟩)<|zf I<|zF (fun aK wK hh=>hK1 (⟨(i + 1,⟨A102,c102,F102⟩),by dsimp only;omega⟩) (by dsimp only;omega) aK wK<|hh.sub<|⟨⟨_,I,⟨lq I,⟨lq I,⟨lq I,⟨lq I,⟨lq I,⟨⟨_,I,zI (by dsimp only;rw [jl hx,if_pos h92])⟩,⟨⟨_,I,zI s9⟩,t9⟩⟩⟩⟩⟩⟩⟩⟩,[0],by decide,⟨⟨_,rfl,(by dsimp only;rw [jl hx,if_pos h92];exact zM _)⟩,trivial⟩⟩))))
       ·have h92:¬0 < Tp.hT cat ar x.bl:=oF hb92;exact zq (SN.block<|zj<|zi<|zd I<|za I (Rd.add I I ⟨by omega,by omega⟩)<|zf I<|zF (fun aK wK hh=>hK1 (⟨(i + 1,t),by dsimp only;omega⟩) (by dsimp only;omega) aK wK<|hh.sub<|⟨⟨_,I,⟨lq I,⟨lq I,⟨lq I,⟨lq I,⟨lq I,⟨⟨_,I,zI (by dsimp only;rw [jl hx,if_neg h92,List.append_nil])⟩,⟨⟨_,I,zI s9⟩,t9⟩⟩⟩⟩⟩⟩⟩⟩,[0],by decide,⟨⟨_,rfl,(by dsimp only;rw [jl hx,if_neg h92,List.append_nil];exact zM _)⟩,trivial⟩⟩))
    ·have h55:¬(i:Int) < (bs.length:Int):=oF hb55;refine zQ ?_
     repeat (first | refine zX ?_ | refine zY d9 ?_)
     refine zZ (zj<|zh<|jq (fun σ=>∃ (vs:List Co.Wi),(vs.length≤1000000∧(Co.VC (Tp.sA ar cat) (ZF cat ar bs)→Co.VW (Tp.sA ar cat) (ZF cat ar bs) vs))∧σ=yb [(3,lsD ZM vs),(9,iD<|Tp.sA ar cat),(10,lsD yJ<|ZF cat ar bs)] []) ?_ ?_)
     ·skip
      refine zh (SW.freezeT 0 10 I I (zc _)<|SW.sub (σ':=yb [(3,_),(9,_),(10,lsD yJ<|ZF cat ar bs)] []) (⟨⟨_,I,⟨lq I,⟨lq I,⟨⟨_,I,(by rw [show i=bs.length by omega,List.take_length];exact zc _)⟩,t9⟩⟩⟩⟩,[],by decide,trivial⟩)<|zi<|zd I<|zd I<|zd I<|zu (S:=[]) (zv (KM (Tp.sA ar cat) (ZF cat ar bs) ws (by have:=qT (l:=cat) (a:=ar) (bs:=bs);omega) hw) I ⟨zc _,zc _,zc _,t9⟩ I)<|za I (yu I)<|ze<|zC I (fun hb107=> ?_) (fun hb107=> ?_))
      ·skip
       exact zi (zf I<|zF<|Zw ⟨[],⟨by decide,fun h=>vc_nil h⟩,I⟩<|⟨⟨_,I,⟨⟨_,I,ZD⟩,(sT I)⟩⟩,[],by decide,trivial⟩)
      ·skip
       exact zq (Zw ⟨ws,⟨hw,fun _=>by simpa using hb107⟩,I⟩<|sB [] I I)
     ·rintro _ ⟨vs,⟨hvl,hvw⟩,rfl⟩;refine zj (zh<|zh ?_);have hcase:=Tp.clm_vc hvB h6 hd ar;have hll:(ZF cat ar bs).length≤6:=JG qT h6
      generalize Tp.sA ar cat=b at hcase hvw ⊢
      generalize ZF cat ar bs=l at hcase hvw hll ⊢
      refine zi (zd I<|zd I<|zu (S:=[]) (zv (Vh b l o9) I ⟨zc _,zc _,t9⟩ I)<|za I (yu I)<|ze<|zC I (fun hb111=> ?_) (fun hb111=> ?_))
      ·have hvc:¬Co.VC b l:=oF (Tp.nb_t hb111);refine zn (zd I<|za I (Zr I I)<|zf I<|ze<|zO (fn:=Tryz.f12) (fun _ _ h=>h)<|Rs.le (zG I<|zk I) ?_);exact zI (by rw [Jo<|hcase.resolve_right hvc])
      ·have hvc:Co.VC b l:=oT (qp hb111);refine zq (zj<|zh ?_);have hv:=hvw hvc;have hmk:=Co.mkt hv;have hpb:=pyS_bd hmk (Js _);have hvb:=zaq hmk;have hbb:=hmk.bd0;have hpv:=fun i hi=>pyS_vcg hmk (i:=i) hi;have hz1:vpE (mkP 60 (pyS (Co.vO b l vs) (Co.bO b l vs) l.length l.length) l.length) (Co.bO b l vs) l.length=0:=mkP_zero (fun i hi=>by have:=hpb i hi;exact Ks o9 o9) (fun i hi=>by have:=hpb i hi;exact rd_60t<|Ks o9 o9) (fun i hi=>⟨(hpb i hi).1,by have:=(hpv i hi).2;omega⟩);have hp1:PayK (mkP 60 (pyS (Co.vO b l vs) (Co.bO b l vs) l.length l.length) l.length) (Co.bO b l vs) l.length 60 (pyS (Co.vO b l vs) (Co.bO b l vs) l.length l.length):=mkP_pay d9 sm61 d9 (fun i hi=>by have:=hpb i hi;omega);refine zi (zd I<|zd I<|zd I<|zu (S:=[]) (zv (zaL hv hvl) I ⟨zc _,zc _,zc _,t9⟩ I)<|zd I<|za I (zo I I)<|za I (zo I I)<|za I (zo I I)<|zf I<|zf I<|zf I<|ze<|zh<|SW.sub (σ':=yb [(9,_),(10,_),(3,_),(15,_),(17,_)] []) (sB [] I I)<|zi<|zd I<|zd I<|zd I<|zu (S:=[]) (zv (zek b l vs hvl hv) I ⟨zc _,zc _,zc _,t9⟩ I)<|zd I<|za I (zo I I)<|za I (zo I I)<|zf I<|zf I<|zN<|zd I<|zd I<|zd I<|zu (S:=[]) (zv (con_vcg b l vs hvl hv) I ⟨zc _,zc _,zc _,t9⟩ I)<|zd I<|za I (zo I I)<|za I (zo I I)<|zf I<|zf I<|zF ?_)
       refine zj (zh<|SW.sub (σ':=yb [(9,_),(10,_),(3,_),(15,_),(17,_),(19,_),(21,_),(18,_),(20,_)] []) (sB [] I I)<|zi<|zd I<|zd I<|zd I<|zu (S:=[]) (zv (Vy b l vs hvl hv) I ⟨zc _,zc _,zc _,t9⟩ I)<|zd I<|za I (zo I I)<|za I (zo I I)<|zf I<|zf I<|ze<|zh<|zn<|zd I<|za I (yv I I)<|zd I<|zJ I (zH I)<|zJ I (yv I I)<|za I (zw I I I)<|zd I<|zJ I (zH I)<|zJ I (yv I I)<|za I (zw I I I)<|zd I<|zJ I (zH I)<|zJ I (yv I I)<|za I (zw I I I)<|zd I<|zJ I (zH I)<|zJ I (zH I)<|zJ I (zH I)<|yN (S:=[]) I I I I (zv (zdj b l vs o9 hv) I ⟨zc _,zc _,zc _,t9⟩ I) ?_);rintro _ rfl;refine zJ I (yv I I) (za I (zw I I I)<|zd I<|zJ I (zH I)<|zJ I (zT (e:=78) I k9)<|zJ I (zH I)<|zJ I (zT (e:=70) I k9)<|zJ I (yv I I)<|za I (zw I I I)<|zd I<|yI I I (by simp [zW]) I I (zH I)<|yI I I (by simp [zW]) I I (zT (e:=3) I k9)<|yI I I (by simp [zW]) I I (zH I)<|yI I I (by simp [zW]) I I (zT (e:=70) I k9)<|yI I I (by simp [zW]) I I (yv I I)<|za I (zw I (by simp [zW]) I)<|zd I<|yI I I (by simp [zW]) I I (zH I)<|yI I I (by simp [zW]) I I (zT (e:=3) I k9)<|yI I I (by simp [zW]) I I (zH I)<|yI I I (by simp [zW]) I I (zT (e:=70) I k9)<|yI I I (by simp [zW]) I I (yv I I)<|za I (zw I (by simp [zW]) I)<|ze<|zK I (by simp [zW])<|zq<|zj<|zh<|SW.sub (σ':=yb [(9,_),(10,_),(22,_),(18,_),(20,_),(3,_)] []) (sB [] I I)<|zi<|zd I<|zd I<|zd I<|zd I<|zu (S:=[]) (zv (con_block b l vs (mkP 60 (pyS (Co.vO b l vs) (Co.bO b l vs) l.length l.length) l.length) (by rw [Wt];omega) mkP_byt 60 (pyS (Co.vO b l vs) (Co.bO b l vs) l.length l.length) hvl hv hz1 hp1) I ⟨zc _,zc _,zc _,le_mkP,t9⟩ I)<|zd I<|za I (zo I I)<|za I (zo I I)<|za I (zo I I) ?_)
       refine zf I (zf I<|zf I<|ze<|zh<|zh<|SW.sub (σ':=yb [(9,_),(10,_),(22,_),(18,_),(20,_),(25,yL false),(26,_)] []) (⟨⟨_,I,⟨lq I,⟨lq I,⟨lq I,⟨lq I,⟨lq I,⟨⟨_,I,zI (by rw [blk_pyS hmk];rfl)⟩,⟨lq I,t9⟩⟩⟩⟩⟩⟩⟩⟩,[],by decide,trivial⟩)<|zi<|zd I<|zd I<|zJ I (zH I)<|zJ I (yv I I)<|za I (zw I I I)<|ze<|zK I I<|zq<|zj<|zh<|zn<|zf I<|ze<|SW.block<|yd (ι:={i:Nat // i≤l.length}) (fun i=>yb [(9,iD b),(10,lsD yJ l),(22,lsD (jY 60)<|zB (pyS (Co.vO b l vs) (Co.bO b l vs) l.length l.length) l.length),(18,lsD z7<|zB (Co.bO b l vs) l.length),(20,lsD z7<|zB (Co.vcg (Co.vO b l vs) (Co.bO b l vs) l.length) l.length),(27,iD (i.1:Int))] []) (fun i=>l.length - i.1) (⟨0,JC _⟩) ?_ ?_)
       ·exact (sB [] I I)
       ·rintro ⟨i,hi⟩ K3 hK3;dsimp only at hi ⊢;refine zh (zn<|zd I<|zd I<|za I (zT (e:=78) I k9)<|za I (yc I I)<|ze<|zC I (fun hb202=> ?_) (fun hb202=> ?_))
        ·have h202:i < l.length:=(by have h:=oT hb202;rw [zW] at h;omega);refine zq (zj<|zh<|SW.block<|zh ?_)
         have hin:i < l.length:=by omega
         have h1:=hvb i hin;have h2:=hbb i hin;have h3:=hpv i hin;have h4:=hpb i hin
         refine zi (zd I<|zd I<|za I (zU (e:=3) 1 I I k9 k9 o9<|YI o9)<|za I (zS I I k9 s9)<|zu (S:=[]) (zv (jG (z:=60 * (Co.bO b l vs) i) (Ks o9 o9) o9 o9 d9 d9 d9 o9) I ⟨zc _,zc _,t9⟩ I)<|zd I<|za I (zo I I)<|za I (zo I I) (SWl.e2 (S:=[]) (Ef.alloc (zs:=[.bool false,.slice none 0 0,.bool false,.slice none 0 0]) k9 I) fun g28=>(zu (S:=[_]) (zA 0 I I I k9 I<|m9 I)<|zf I<|zN<|zd I<|zd I<|za I (zU (e:=3) 1 I I k9 k9 o9<|YI o9)<|za I (zS I I k9 s9)<|zu (S:=[]) (zv (jG (z:=60 * (Co.vcg (Co.vO b l vs) (Co.bO b l vs) l.length) i) (Ks o9 o9) o9 o9 d9 d9 d9 o9) I ⟨zc _,zc _,t9⟩ I)<|zd I<|za I (zo I I)<|za I (zo I I) (SWl.e2 (S:=[]) (Ef.alloc (zs:=[.bool false,.slice none 0 0,.bool false,.slice none 0 0]) k9 I) fun g30=>(zu (S:=[_]) (zA 1 I I I k9 I<|m9 I)<|zf I<|ze<|zh<|yl [] (rr [0,1,2,3,4,5,6,7,8,9,10,11]<|.n 12 (rr [13,14,15,16,17,18,19,20]<|.n 21 (rr [22,23,24,25,26,27,28]<|.n 29 (.r 30<|.r 31 .fin) .no) .no) .no) k9 k9 (fun d _ _ _ _ h=>by cases d <;> exact h)<|zz I I<|zl I I (yv I I)<|zz I I<|zy I I I I I I (zH I)<|zy I I I I I I (yv I I)<|zl I I (zw I I I)<|zz I I<|zy I I I I I I (zH I)<|zy I I I I I I (zH I) ?_)))))
         refine zy I I I I I I (zU (e:=78) 4 I I k9 k9 o9<|YI o9) (zy I I I I I I (yn 4 I k9 d9 (show 4≤4 by decide) s9)<|zy I I I I I I (zx 0 4 I I k9 I zm)<|Ys I I I (I) I (zv (zbw (Ks o9 o9)<|Ks o9 o9) I ⟨zc _,zc _,t9⟩ I) ?_ yB);rintro _ rfl;refine zy I I I I I I (yV I I) (zl I I (zw I I I)<|zz I I<|zy I I I (Jd (fun h=>by have:=zfG (x:=(pyS (Co.vO b l vs) (Co.bO b l vs) l.length l.length) i) (y:=60 * (Co.bO b l vs) i);omega)) I I (zH I)<|zy I I I (Jd (fun h=>by have:=zfG (x:=(pyS (Co.vO b l vs) (Co.bO b l vs) l.length l.length) i) (y:=60 * (Co.bO b l vs) i);omega)) I I (zH I)<|zy I I I (Jd (fun h=>by have:=zfG (x:=(pyS (Co.vO b l vs) (Co.bO b l vs) l.length l.length) i) (y:=60 * (Co.bO b l vs) i);omega)) I I (zU (e:=78) 4 I I k9 k9 o9<|YI o9)<|zy I I I (Jd (fun h=>by have:=zfG (x:=(pyS (Co.vO b l vs) (Co.bO b l vs) l.length l.length) i) (y:=60 * (Co.bO b l vs) i);omega)) I I (yn 4 I k9 d9 (show 4≤4 by decide) s9)<|zy I I I (Jd (fun h=>by have:=zfG (x:=(pyS (Co.vO b l vs) (Co.bO b l vs) l.length l.length) i) (y:=60 * (Co.bO b l vs) i);omega)) I I (zx 1 4 I I k9 I zm)<|Ys I I I (Jd (fun h=>by have:=zfG (x:=(pyS (Co.vO b l vs) (Co.bO b l vs) l.length l.length) i) (y:=60 * (Co.bO b l vs) i);omega)) I (zv (zbw (Ks o9 o9)<|Ks o9 o9) I ⟨zc _,zc _,t9⟩ I) ?_ yB)
         rintro _ rfl;refine zy I I I (Jd (fun h=>by have:=zfG (x:=(pyS (Co.vO b l vs) (Co.bO b l vs) l.length l.length) i) (y:=60 * (Co.bO b l vs) i);omega)) I I (yc I I) (zl I I (zw I (Jd (fun h=>by have:=zfG (x:=(pyS (Co.vO b l vs) (Co.bO b l vs) l.length l.length) i) (y:=60 * (Co.bO b l vs) i);omega)) I)<|zz I I<|zy I I I (Jd (fun h=>by have:=cmpG (x:=(pyS (Co.vO b l vs) (Co.bO b l vs) l.length l.length) i) (y:=60 * (Co.vcg (Co.vO b l vs) (Co.bO b l vs) l.length) i);omega)) I I (zH I)<|zy I I I (Jd (fun h=>by have:=cmpG (x:=(pyS (Co.vO b l vs) (Co.bO b l vs) l.length l.length) i) (y:=60 * (Co.vcg (Co.vO b l vs) (Co.bO b l vs) l.length) i);omega)) I I (zH I)<|zy I I I (Jd (fun h=>by have:=cmpG (x:=(pyS (Co.vO b l vs) (Co.bO b l vs) l.length l.length) i) (y:=60 * (Co.vcg (Co.vO b l vs) (Co.bO b l vs) l.length) i);omega)) I I (zU (e:=78) 4 I I k9 k9 o9<|YI o9)<|zy I I I (Jd (fun h=>by have:=cmpG (x:=(pyS (Co.vO b l vs) (Co.bO b l vs) l.length l.length) i) (y:=60 * (Co.vcg (Co.vO b l vs) (Co.bO b l vs) l.length) i);omega)) I I (yn 4 I k9 d9 (show 4≤4 by decide) s9)<|Ys I I I (Jd (fun h=>by have:=cmpG (x:=(pyS (Co.vO b l vs) (Co.bO b l vs) l.length l.length) i) (y:=60 * (Co.vcg (Co.vO b l vs) (Co.bO b l vs) l.length) i);omega)) I (zv (zcf<|Ks o9 o9) I ⟨zc _,t9⟩ I) ?_ yB)
         rintro _ rfl;exact zy I I I (decide_eq_false (fun h=>by have:=cmpG (x:=(pyS (Co.vO b l vs) (Co.bO b l vs) l.length l.length) i) (y:=60 * (Co.vcg (Co.vO b l vs) (Co.bO b l vs) l.length) i);omega)) I I (yc I I) (zl I I (zw I (decide_eq_false (fun h=>by have:=cmpG (x:=(pyS (Co.vO b l vs) (Co.bO b l vs) l.length l.length) i) (y:=60 * (Co.vcg (Co.vO b l vs) (Co.bO b l vs) l.length) i);omega)) I)<|yE<|zK I (decide_eq_false (fun h=>by have:=K9.1 h;omega))<|zq<|SN.block<|zj<|zi<|zd I<|za I (Rd.add I I ⟨by omega,by omega⟩)<|zf I<|zF (fun aK wK hh=>hK3 (⟨i + 1,by omega⟩) (by dsimp only;omega) aK wK<|hh.sub<|⟨⟨_,I,⟨lq I,⟨lq I,⟨lq I,⟨lq I,⟨lq I,⟨⟨_,I,zI s9⟩,t9⟩⟩⟩⟩⟩⟩⟩,[],by decide,trivial⟩))
        ·have h202:¬i < l.length:=(by have h:=oF hb202;rw [zW] at h;omega);refine zQ ?_
         repeat (first | refine zX ?_ | refine zY d9 ?_)
         refine zZ (zj<|zn<|zf I<|ze<|zO (fn:=Tryz.f12) (fun _ _ h=>h)<|Rs.le (zG I<|zk I) ?_);exact zc _
