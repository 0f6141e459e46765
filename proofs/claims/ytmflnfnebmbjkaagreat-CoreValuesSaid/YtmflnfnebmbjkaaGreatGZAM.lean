/- ASSIGNMENTS, in plain Lean: the slots, one after another. ASSIGN: assigned, Value, Best, Solve. MEMBERS of a coalition, in plain terms. GUARDS beside y -/
import Derived.Test.YtmflnfnebmbjkaaGreatGZAL
set_option maxHeartbeats 8000000
set_option maxRecDepth 100000
namespace Go.Proofs.YtmflnfnebmbjkaaGreat
namespace Co
structure Sl where
 win:Int
 st:Int
 cnt:Int
def mks:Cs→List Bool→LN→Nat→List Bool
 | c :: l,u,s :: a,i + 1=>mks l (mk u s c.1) a i
 | _,u,_,_=>u
theorem mks_zero:∀ (l:Cs) (u:List Bool) (a:LN),mks l u a 0=u
 | [],_,_=>rfl
 | _ :: _,_,[]=>rfl
 | _ :: _,_,_ :: _=>rfl
theorem mks_step:∀ {l:Cs} {u:List Bool} {a:LN} {i:Nat} {c:Nat × (Nat→Int)} {s:Nat},qs l u a→l[i]? =some c→a[i]? =some s→s + c.1≤u.length∧free (mks l u a i) s c.1=true∧mks l u a (i + 1)=mk (mks l u a i) s c.1
 | [],_,_,_,_,_,_,h,_=>by simp at h
 | _ :: _,_,[],_,_,_,_,_,h=>by simp at h
 | d :: l,u,t :: a,0,c,s,hf,hc,hs=>by
  obtain rfl:=JN hc;obtain rfl:=JN hs;refine ⟨hf.1,hf.2.1,?_⟩;rw [mks,mks_zero];rfl
 | d :: l,u,t :: a,i + 1,c,s,hf,hc,hs=>by
  have ih:=mks_step (i:=i) hf.2.2 hc hs;rw [mk_len] at ih;exact ih
theorem mks_len:∀ (l:Cs) (u:List Bool) (a:LN) (i:Nat),(mks l u a i).length=u.length
 | [],_,_,_=>rfl
 | _ :: _,_,[],_=>rfl
 | _ :: _,_,_ :: _,0=>rfl
 | c :: l,u,s :: a,i + 1=>by rw [mks,mks_len l _ a i,mk_len]
section
variable {b:Int}{l:List Cl}{ws:List Wi}
theorem fst_fits12 (hv:VC b l):qs (cs l ws fun _=>true) (List.replicate 12 false) (fst b l ws):=by
 obtain ⟨h1,h2⟩:=fst_fits (ws:=ws) (g:=fun _=>true) hv;obtain ⟨h3,h4,h5⟩:=(ZA _ _ _<|cs_pos hv).1 h1;refine (ZA _ _ _<|cs_pos hv).2 ⟨h3,fun i c x hc hx=> ?_,h5⟩;have:=(h4 i c x hc hx).1;rw [List.length_replicate] at this ⊢;have:=hv.b2;exact ⟨by omega,j9⟩
theorem fst_le (hv:VC b l) {i:Nat} {c:Cl} (hc:l[i]? =some c):∃ s,(fst b l ws)[i]? =some s∧(s:Int) + c.cnt≤b:=by
 obtain ⟨h1,h2⟩:=fst_fits (ws:=ws) (g:=fun _=>true) hv;have hi:=(Jg.1 hc).1;refine ⟨(fst b l ws)[i]'o9,Je o9,?_⟩;have h3:=((ZA _ _ _<|cs_pos hv).1 h1).2.1 i _ _ (by rw [cs_get,hc];rfl) (Je (show i < (fst b l ws).length by omega));rw [List.length_replicate] at h3;have h4:(fst b l ws)[i]'o9 + c.cnt.toNat≤b.toNat:=h3.1;have:=hv.b1;have:=(hv.ok i c hc).2.2;omega
def slO (b:Int) (l:List Cl) (ws:List Wi):List Sl:=(List.range l.length).map fun i=>⟨wnO l i,((fst b l ws).getD i 0:Nat),(l[i]?.map (·.cnt)).getD 0⟩
theorem slO_get {i:Nat} {c:Cl} {s:Nat} (hc:l[i]? =some c) (hs:(fst b l ws)[i]? =some s):(slO b l ws)[i]? =some ⟨c.win,(s:Int),c.cnt⟩:=by
 have hi:=(Jg.1 hc).1;unfold slO;rw [JJ,List.getElem?_range hi,Option.map_some,wnO_get hc,hc,Jr,hs];rfl
theorem slO_len:(slO b l ws).length=l.length:=by simp [slO]
def slS (b:Int) (l:List Cl) (ws:List Wi) (i:Nat):List Sl:=(slO b l ws).take i ++ List.replicate (l.length - i) ⟨0,0,0⟩
theorem slS_len {i:Nat} (h:i≤l.length):(slS b l ws i).length=l.length:=by simp [slS,slO_len];omega
theorem slS_zero:slS b l ws 0=List.replicate l.length ⟨0,0,0⟩:=by simp [slS]
theorem slS_all:slS b l ws l.length=slO b l ws:=by unfold slS;rw [Nat.sub_self,Ji (by rw [slO_len];exact Js _)];simp
theorem slS_set {i:Nat} {x:Sl} (h:(slO b l ws)[i]? =some x):(slS b l ws i).set i x=slS b l ws (i + 1):=by
 have hi:=(Jg.1 h).1;rw [slO_len] at hi
 have ht:((slO b l ws).take i).length=i:=by rw [JE,slO_len];omega
 unfold slS;rw [Xa _ _ o9,ht,Nat.sub_self,show l.length - i=(l.length - (i + 1)) + 1 by omega,Xc,List.set_cons_zero,List.take_add_one,h,Jq];rfl
def fxS (q:LN) (n i:Nat) (s:Int):List Int:=(q.take i).map (fun x:Nat=>(x:Int)) ++ s :: List.replicate (n - (i + 1)) (-1)
theorem fxS_len {q:LN} {n i:Nat} {s:Int} (hq:q.length=n) (hi:i < n):(fxS q n i s).length=n:=by simp [fxS];omega
theorem fxS_fun {q:LN} {n i:Nat} {s:Int} (hq:q.length=n) (hi:i < n):(fun j=>(fxS q n i s).getD j<|-1)=fxN q i s:=by
 funext j
 have ht:((q.take i).map (fun x:Nat=>(x:Int))).length=i:=by simp;omega
 unfold fxN fxS;rw [Jr]
 by_cases h1:j < i
 ·rw [Jh h1,JB o9,JJ,List.getElem?_take_of_lt h1,Je o9,Jr,Je o9];rfl
 ·rw [Jb h1,JR o9,ht]
  by_cases h2:j=i
  ·subst h2;rw [Jh rfl,Nat.sub_self];rfl
  ·rw [Jb h2,show j - i=(j - (i + 1)) + 1 by omega,J1,Xj]
   split <;> rfl
theorem fxS_set {q:LN} {n i:Nat} {s t:Int} (hq:q.length=n) (hi:i < n):(fxS q n i s).set i t=fxS q n i t:=by
 have ht:((q.take i).map (fun x:Nat=>(x:Int))).length=i:=by simp;omega
 unfold fxS;rw [Xa _ _ o9,ht,Nat.sub_self];rfl
theorem fxS_at {q:LN} {n i:Nat} {s:Int} (hq:q.length=n) (hi:i < n):(fxS q n i s)[i]? =some s:=by
 have ht:((q.take i).map (fun x:Nat=>(x:Int))).length=i:=by simp;omega
 unfold fxS;rw [JR o9,ht,Nat.sub_self];rfl
def fxB (q:LN) (n i:Nat):List Int:=(q.take i).map (fun x:Nat=>(x:Int)) ++ List.replicate (n - i) (-1)
theorem fxB_len {q:LN} {n i:Nat} (hq:q.length=n) (hi:i≤n):(fxB q n i).length=n:=by simp [fxB];omega
theorem fxB_zero {q:LN} {n:Nat}:fxB q n 0=List.replicate n (-1):=by simp [fxB]
theorem fxB_S {q:LN} {n i:Nat} (hi:i < n):fxB q n i=fxS q n i (-1):=by
 unfold fxB fxS;rw [show n - i=(n - (i + 1)) + 1 by omega,Xc]
theorem fxS_B {q:LN} {n i s:Nat} (hs:q[i]? =some s):fxS q n i (s:Int)=fxB q n (i + 1):=by
 unfold fxB fxS;rw [List.take_add_one,hs,XG,Jq];rfl
theorem slv_none {B:Nat} (hv:VC (B:Int) l) {g:Nat→Bool} {F:List Int} (hF:F=List.replicate l.length (-1)):(slv (cs l ws g) B fun i=>F.getD i<|-1).1=(srch (cs l ws g)<|List.replicate B false).2.1:=by
 subst hF;refine (slv_srch (by rw [cs_len];exact hv.n) (cs_pos hv) fun i=> ?_).1;rw [Jr,Xj]
 split <;> decide
def bst (b:Int) (l:List Cl) (ws:List Wi):Int:=(srch (cs l ws fun _=>true)<|List.replicate b.toNat false).2.1
theorem slv_step {B:Nat} (hv:VC (B:Int) l) {i s:Nat} (hi:i < l.length) (hs:s≤(fst (B:Int) l ws).getD i 0):((slv (cs l ws fun _=>true) B fun j=>(fxS (fst (B:Int) l ws) l.length i s).getD j<|-1).2≠0∧(slv (cs l ws fun _=>true) B fun j=>(fxS (fst (B:Int) l ws) l.length i s).getD j<|-1).1=bst (B:Int) l ws)↔s=(fst (B:Int) l ws).getD i 0:=by
 have hlen:=(fst_fits (ws:=ws) (g:=fun _=>true) hv).2;rw [fxS_fun hlen hi];exact zbd (by rw [cs_len];exact hv.n) (cs_pos hv) (qA hv) (by rw [cs_len];exact hi) s hs
theorem slv_pos {B:Nat} (hv:VC (B:Int) l) {g:Nat→Bool} (fx:Nat→Int):0≤(slv (cs l ws g) B fx).2:=(Vf (by rw [cs_len];exact hv.n)<|cs_pos hv).1
end
end Co
end Go.Proofs.YtmflnfnebmbjkaaGreat
namespace Go.Proofs.YtmflnfnebmbjkaaGreat
open Go.RowKit
namespace Sx
theorem YU {α:Type} {enc:α→List D}:Le (isD<|.slice none 0 0) (lsD enc []):=fun _ _ _ h=>⟨none,0,h,Js _,fun h0=>by simp at h0⟩
def qi (c:Co.Sl):List D:=[iD c.win,iD c.st,iD c.cnt]
instance:Row qi 3:=⟨fun _=>rfl,fun x=>by unfold qi;infer_instance,by decide⟩
instance (c:Co.Sl):Ones (qi c):=by unfold qi;infer_instance
theorem bldSl {x y z:Int}:Bld Tryz.prog 83 [0,1,2] [iD x,iD y,iD z] [iD x,iD y,iD z]:=fun L w vs hv=>by
 obtain ⟨u,v,q,rfl,rfl,rfl,rfl⟩:=all3 hv;exact ⟨[.int .i64 x,.int .i64 y,.int .i64 z],⟨I,I,I,t9⟩,fun w'=>by kernel_rfl⟩
theorem bools_at {u:List Bool} {i:Nat} {b:Bool} (h:u.getD i false=b) (hi:i < u.length):(u.map yG)[i]? =some (yG b):=by
 rw [JJ,Je hi];rw [Jr,Je hi] at h;rw [← h];rfl
theorem bools_set {u:List Bool} {i:Nat}:(u.map yG).set i (yG true)=(u.set i true).map yG:=by rw [List.map_set]
theorem Vq {ds es:List D} (h:ds=es):LeAll ds es:=h ▸ yD _
theorem free_at {u:List Bool} {s c k:Nat} (hf:Co.free u s c=true) (hk:k < c) (hl:s + c≤u.length):(Co.mk u s k).getD (s + k) false=false:=by
 rw [Co.mk_get _ _ _ _ o9,show decide (s≤s + k∧s + k < s + k)=false from Jd o9,Bool.or_false];simp only [Co.free,Jz] at hf;exact hf k hk
theorem slO_at {b:Int} {l:List Co.Cl} {ws:List Co.Wi} (hv:Co.VC b l) {i:Nat} {c:Co.Cl} (hc:l[i]? =some c):∃ (s:Nat) (p:Co.Sl),(Co.fst b l ws)[i]? =some s∧(s:Int) + c.cnt≤b∧(Co.slO b l ws)[i]? =some p∧p.win=c.win∧p.st=(s:Int)∧p.cnt=c.cnt:=by
 obtain ⟨s,h1,h2⟩:=Co.fst_le (ws:=ws) hv hc;exact ⟨s,_,h1,h2,Co.slO_get hc h1,I,I,I⟩
def qd (b:Int) (l:List Co.Cl) (ws:List Co.Wi) (i:Nat):List Bool:=Co.mks (Co.cs l ws fun _=>true) (List.replicate 12 false) (Co.fst b l ws) i
theorem usd_len {b:Int} {l:List Co.Cl} {ws:List Co.Wi} {i:Nat}:(qd b l ws i).length=12:=by unfold qd;rw [Co.mks_len,List.length_replicate]
theorem usd_zero {b:Int} {l:List Co.Cl} {ws:List Co.Wi}:qd b l ws 0=List.replicate 12 false:=Co.mks_zero _ _ _
theorem usd_step {b:Int} {l:List Co.Cl} {ws:List Co.Wi} (hv:Co.VC b l) {i:Nat} {c:Co.Cl} {s:Nat} (hc:l[i]? =some c) (hs:(Co.fst b l ws)[i]? =some s):s + c.cnt.toNat≤12∧Co.free (qd b l ws i) s c.cnt.toNat=true∧qd b l ws (i + 1)=Co.mk (qd b l ws i) s c.cnt.toNat:=by
 have h:=Co.mks_step (Co.fst_fits12 (ws:=ws) hv) (i:=i) (c:=(c.cnt.toNat,fun s:Nat=>if (fun _=>true) i then Co.wish ws c.win (s:Int) else 0)) (by rw [Co.cs_get,hc];rfl) hs
 rw [List.length_replicate] at h;exact h
def Yy (b:Int) (l:List Co.Cl) (ws:List Co.Wi) (f:Int→Bool) (n:Nat):Int:=Co.sm (fun i=>if f (Co.wnO l i) then Co.bO b l ws i else 0) n
theorem vlS_step {b:Int} {l:List Co.Cl} {ws:List Co.Wi} {f:Int→Bool} (hv:Co.VW b l ws) {i:Nat} {c:Co.Cl} {s:Nat} (hc:l[i]? =some c) (hs:(Co.fst b l ws)[i]? =some s):Yy b l ws f (i + 1)=Yy b l ws f i + (if f c.win then Co.wish ws c.win (s:Int) else 0):=by
 unfold Yy;rw [Co.sm,Co.wnO_get hc,Co.bO,Co.wnO_get hc,Jr,hs];rfl
theorem vlS_bd {b:Int} {l:List Co.Cl} {ws:List Co.Wi} {f:Int→Bool} (hv:Co.VW b l ws) (i:Nat):0≤Yy b l ws f i∧Yy b l ws f i≤1099511627776 * (i:Int):=by
 induction i with
 | zero=>exact ⟨Int.le_refl _,by simp [Yy,Co.sm]⟩
 | succ i ih=>
  have h:Yy b l ws f (i + 1)=Yy b l ws f i + (if f (Co.wnO l i) then Co.bO b l ws i else 0):=rfl
  have:=Co.wish_le hv (Co.wnO l i) (((Co.fst b l ws).getD i 0:Nat):Int);rw [h];unfold Co.bO
  split <;> omega
theorem tab_at {l:List Co.Cl} {ws:List Co.Wi} {f:Int→Bool} {i:Nat} {c:Co.Cl} (hc:l[i]? =some c):(yK l ws f ws.length)[i]? =some fun s:Nat=>if f c.win then Co.wish ws c.win (s:Int) else 0:=by
 rw [qz hc,Ji<|Js _]
theorem Ws (b:Int) (l:List Co.Cl) (ws:List Co.Wi) (hv:Co.VW b l ws):Con Tryz.prog 82 [iD b,lsD z7 l,lsD qi<|Co.slO b l ws] (yG true):=by
 have hsl:(Co.slO b l ws).length=l.length:=Co.slO_len;have hn6:=hv.c.n;have hb2:=hv.c.b2;have hb1:=hv.c.b1
 generalize hS:Co.slO b l ws=S at hsl ⊢
 refine z6 Tryz.func82 k9 I k9 fun base w0=>(zo<|ze I<|zd<|zi<|zo<|zb I<|za I (zU (e:=83) I k9)<|zb I<|za I (zU (e:=61) I k9)<|za I (yn I I)<|zd<|zH I (by simp [hsl])<|zv<|zh<|zo (SWl.e2 (S:=[]) (Ef.alloc (zs:=List.replicate 12<|.bool false) k9 I) fun g7=>(zd<|zi<|zo<|zb I<|za I (zU (e:=83) I k9)<|zb I<|zd<|SW.block<|z8 (ι:={i:Nat // i≤l.length}) (fun i=>z2 [(0,iD b),(1,lsD z7 l),(7,pA g7),(16,lsD qi S),(17,iD (S.length:Int)),(18,iD (i.1:Int))] [.c g7<|(qd b l ws i.1).map yG]) (fun i=>l.length - i.1) (⟨0,JC _⟩) ?_ ?_)))
 ·exact ⟨⟨_,I,(sT I)⟩,[0],by decide,⟨⟨_,rfl,(Vq (by rw [usd_zero];rfl))⟩,trivial⟩⟩
 ·rintro ⟨i,hi⟩ K0 hK0;dsimp only at hi ⊢;refine zo (za I (yb I I)<|zd<|zi<|zD I (fun hb19=> ?_) (fun hb19=> ?_))
  ·have h19:(i:Int) < (S.length:Int):=oT hb19;refine zv (zh<|zi<|SW.block<|zi ?_)
   have h19:i < l.length:=by rw [hsl] at h19;omega
   obtain ⟨c,hc⟩:∃ c,l[i]? =some c:=⟨_,Je o9⟩;obtain ⟨s,p,hs1,hs2,hs3,hpw,hps,hpc⟩:=slO_at (ws:=ws) hv.c hc;rw [hS] at hs3;have hcp:=(hv.c.ok i c hc).2.2;obtain ⟨hu1,hu2,hu3⟩:=usd_step (ws:=ws) hv.c hc hs1;have hul:(qd b l ws i).length=12:=usd_len
   refine zk (zb I<|za I (zS (e:=83) 3 I I k9 k9 o9 (by simpa using hs3))<|za I (yY 3 I k9 d9 (show 3≤3 by decide) s9) (SWl.e2 (S:=[]) (Ef.alloc (zs:=[.int .i64 0,.int .i64 0,.int .i64 0]) k9 I) fun g9=>(ze I<|zn (S:=[_]) (zw 1 I I I k9 I<|m9 I)<|zd<|zi<|zi<|yf [] (rr [0,1,2,3,4,5,6,7,8,9,10,11,12,13,14,15,16,17,18,19,20,21,22,23,24,25,26,27,28,29,30,31] .fin) k9 k9 (fun d _ _ _ _ h=>by cases d <;> exact h)<|zl I I (zj (n:=0) I k9)<|zl I I (zy 1 I I I k9 zm)<|zz I I<|zz I I<|zl I I (zS (e:=61) 2 I I k9 k9 o9 (by simpa using hc))<|zl I I (z1 (n:=0) I k9 (show 0 < 2 by decide))<|zl I I (zN I I k9 s9)<|zl I I (yn I I)<|zz I I<|zt I I I (by simp [hpw]) I I (zj (n:=2) I k9)<|zt I I I (by simp [hpw]) I I (zy 1 I I I k9 zm)<|zt I I I (by simp [hpw]) I I (zA I)<|zt I I I (by simp [hpw]) I I (zA I)<|zt I I I (by simp [hpw]) I I (zS (e:=61) 2 I I k9 k9 o9 (by simpa using hc))<|zt I I I (by simp [hpw]) I I (z1 (n:=1) I k9 (show 1 < 2 by decide))<|zt I I I (by simp [hpw]) I I (zN I I k9 s9)<|zt I I I (by simp [hpw]) I I (yn I I)<|zl I I (zI I (by simp [hpw]) I)<|zz I I<|zt I I I (by simp [hpc]) I I (zj (n:=1) I k9)<|zt I I I (by simp [hpc]) I I (zy 1 I I I k9 zm)<|zt I I I (by simp [hpc]) I I (yb I I)<|zl I I (zI I (by simp [hpc]) I)<|zz I I<|zt I I I (Jd o9) I I (zj (n:=1) I k9)<|zt I I I (Jd o9) I I (zy 1 I I I k9 zm)<|zt I I I (Jd o9) I I (zA I)<|zt I I I (Jd o9) I I (zj (n:=2) I k9) ?_)))
   refine zt I I I (Jd o9) I I (zy 1 I I I k9 zm) (zt I I I (Jd o9) I I (yl I I ⟨by omega,by omega⟩)<|zt I I I (Jd o9) I I (y6 I I)<|zl I I (zI I (Jd o9) I)<|ym<|zH I (Jd o9)<|zv<|zh<|zo<|za I (zj (n:=1) I k9)<|za I (zy 1 I I I k9 zm)<|ze I<|zd<|SW.block<|z8 (ι:={k:Nat // k≤c.cnt.toNat}) (fun k=>z2 [(0,iD b),(1,lsD z7 l),(7,pA g7),(9,pA g9),(10,iD ((s + k.1:Nat):Int)),(16,lsD qi S),(17,iD (S.length:Int)),(18,iD (i:Int))] [.c g7<|(Co.mk (qd b l ws i) s k.1).map yG,.c g9 [iD p.win,iD p.st,iD p.cnt]]) (fun k=>c.cnt.toNat - k.1) (⟨0,JC _⟩) ?_ ?_)
   ·exact ⟨⟨_,I,⟨lq I,⟨lq I,⟨lq I,⟨lq I,⟨⟨_,I,zG (by rw [hps];simp)⟩,(sT I)⟩⟩⟩⟩⟩⟩,[0,1],by decide,(sX rfl)⟩
   ·rintro ⟨k,hk⟩ K1 hK1;dsimp only at hk ⊢;refine zi (zo<|zb I<|za I (zj (n:=1) I k9)<|za I (zy 1 I I I k9 zm)<|za I (zj (n:=2) I k9)<|za I (zy 1 I I I k9 zm)<|za I (Rd.add I I ⟨by omega,by omega⟩)<|za I (yb I I)<|zd<|zD I (fun hb63=> ?_) (fun hb63=> ?_))
    ·have h63:((s + k:Nat):Int) < p.st + p.cnt:=oT hb63;refine zv (zh<|zi<|SW.block<|zi<|zi ?_)
     have hul2:(Co.mk (qd b l ws i) s k).length=12:=by rw [Co.mk_len];exact hul
     exact zk (zb I<|za I (za7 (e:=4) (n:=12) I I k9 k9 o9 o9)<|za I (zy 0 I I (by rw [Int.toNat_natCast];exact bools_at (free_at hu2 o9 o9) o9) k9 zm)<|zd<|zH I I<|zv<|zh<|zk<|zb I<|za I (za7 (e:=4) (n:=12) I I k9 k9 o9 o9)<|zn (S:=[_]) (Zc 0 I I I k9 (by rw [List.length_map,hul2];omega)<|m9 I)<|zC<|SN.block<|zh<|zk<|zb I<|za I (Rd.add I I ⟨by omega,by omega⟩)<|ze I<|zC (fun aK wK hh=>hK1 (⟨k + 1,by omega⟩) (by dsimp only;omega) aK wK<|hh.sub<|⟨⟨_,I,⟨lq I,⟨lq I,⟨lq I,⟨lq I,⟨⟨_,I,zG (by simp;omega)⟩,(sT I)⟩⟩⟩⟩⟩⟩,[0,1],by decide,⟨⟨_,rfl,(Vq (by dsimp only;rw [Int.toNat_natCast,bools_set];rfl))⟩,⟨la rfl,trivial⟩⟩⟩))
    ·have h63:¬((s + k:Nat):Int) < p.st + p.cnt:=oF hb63;refine zR ?_
     repeat (first | refine zV ?_ | refine zW d9 ?_)
     exact zX (SN.block<|zh<|zk<|za I (Rd.add I I ⟨by omega,by omega⟩)<|zb I<|zC (fun aK wK hh=>hK0 (⟨i + 1,by omega⟩) (by dsimp only;omega) aK wK<|hh.sub<|⟨⟨_,I,⟨lq I,⟨lq I,⟨lq I,⟨lq I,⟨lq I,⟨⟨_,I,zG s9⟩,t9⟩⟩⟩⟩⟩⟩⟩,[0],by decide,⟨⟨_,rfl,(Vq (by dsimp only;rw [hu3,show k=c.cnt.toNat by omega]))⟩,trivial⟩⟩))
  ·have h19:¬(i:Int) < (S.length:Int):=oF hb19;refine zR ?_
   repeat (first | refine zV ?_ | refine zW d9 ?_)
   refine zX (zh<|zo<|ze I<|zd<|zF (fn:=Tryz.f82) (fun _ _ h=>h)<|Rs.le (zO I<|zq I) ?_);exact zc _
theorem con_value (b:Int) (l:List Co.Cl) (ws:List Co.Wi) (W:List Int) (hw:ws.length≤1000000) (hv:Co.VW b l ws) (hW:W.length≤1000000) (hs:∀ (i:Nat) x y,W[i]? =some x→W[i + 1]? =some y→x < y) (hm:∀ (i:Nat) x,W[i]? =some x→∃ m,Co.fC l x=some m):Con Tryz.prog 40 [iD b,lsD z7 l,lsD yO ws,lsD qi<|Co.slO b l ws,lsD yc W] (Zu [iD<|Yy b l ws (fun z=>decide (z∈W)) l.length,iD 0]):=by
 have hsl:(Co.slO b l ws).length=l.length:=Co.slO_len;have hn6:=hv.c.n;have hb2:=hv.c.b2;have hb1:=hv.c.b1
 generalize hS:Co.slO b l ws=S at hsl ⊢
 refine z6 Tryz.func40 k9 I k9 fun base w0=>(zo (SWl.e2 (S:=[]) (ZS I (fun _ _ _ h=>yJ<|One.h _ _ _ h) I) fun g9=>(ze I<|ze I<|zd<|zi<|zo<|zb I<|zb I<|zb I<|za I (zy 0 I I I k9 zm)<|zn (S:=[]) (zp (Km b l ws W o9 hw hW hs hm) I ⟨zc _,zc _,zc _,zc _,t9⟩ I)<|ze I<|zL<|zb I<|za I (yn I I)<|zd<|zH I (by rw [Kx,Jh hv];rfl)<|zv<|zh<|zi<|zo<|zb I<|zb I<|zb I<|zn (S:=[]) (zp (Ws b l ws hv) I ⟨zc _,zc _,(by rw [hS];exact zc _),t9⟩ I)<|za I (yF I)<|zd<|zH I I<|zv ?_)));refine zh (zo<|zb I<|zb I<|za I (Z8 [.pointer<|some ⟨g9,0,none⟩] I)<|Ks 0 32 I I<|zn (S:=[]) (zp (Ke b l ws (fun z=>decide (z∈W)) hv hw) I ⟨zc _,zc _,(Vn fun z _=>zbu W z hW),t9⟩ I)<|ze I<|zL<|ze I<|zd<|zi<|zo<|zb I<|za I (zU (e:=83) I k9)<|zb I<|zd<|SW.block<|z8 (ι:={i:Nat // i≤l.length}) (fun i=>z2 [(13,lsD yW<|yK l ws (fun z=>decide (z∈W)) ws.length),(14,iD<|Yy b l ws (fun z=>decide (z∈W)) i.1),(34,lsD qi S),(35,iD (S.length:Int)),(36,iD (i.1:Int))] []) (fun i=>l.length - i.1) (⟨0,JC _⟩) ?_ ?_)
 ·exact (sB [] I I)
 ·rintro ⟨i,hi⟩ K0 hK0;dsimp only at hi ⊢;refine zo (za I (yb I I)<|zd<|zi<|zD I (fun hb37=> ?_) (fun hb37=> ?_))
  ·have h37:(i:Int) < (S.length:Int):=oT hb37;refine zv (zh<|zi<|SW.block<|zi ?_)
   have h37:i < l.length:=by rw [hsl] at h37;omega
   obtain ⟨c,hc⟩:∃ c,l[i]? =some c:=⟨_,Je o9⟩;obtain ⟨s,p,hs1,hs2,hs3,hpw,hps,hpc⟩:=slO_at (ws:=ws) hv.c hc;rw [hS] at hs3;have hcp:=(hv.c.ok i c hc).2.2;have hvb:=vlS_bd (f:=fun z=>decide (z∈W)) hv i;have hwl:=Co.wish_le hv c.win (s:Int);refine zk (zb I<|za I (zS (e:=83) 3 I I k9 k9 o9 (by simpa using hs3))<|za I (yY 3 I k9 d9 (show 3≤3 by decide) s9) (SWl.e2 (S:=[]) (Ef.alloc (zs:=[.int .i64 0,.int .i64 0,.int .i64 0]) k9 I) fun g16=>(ze I<|zn (S:=[_]) (zw 0 I I I k9 I<|m9 I)<|zd ?_)))
   obtain ⟨x,hx⟩:∃ x,x=(if (fun z=>decide (z∈W)) c.win then Co.wish ws c.win (s:Int) else 0):=⟨_,rfl⟩
   have hxb:0≤x∧x≤1099511627776:=by rw [hx];split <;> omega
   exact yf [] (rr [0,1,2,3,4,5,6,7,8,9] .fin) k9 k9 (fun d _ _ _ _ h=>by cases d <;> exact h) (zz I I<|zz I I<|zz I I<|zl I I (zj (n:=1) I k9)<|zl I I (zy 0 I I I k9 zm)<|zl I I (zS (e:=123) 12 I I k9 k9 o9 (by rw [Int.toNat_natCast];exact tab_at hc))<|zl I I (za6 (e:=3) (n:=12) I I k9 k9 o9 o9 (by simp [yW];omega))<|zl I I (zN I (KQ hps o9) k9 s9)<|zl I I (Rd.add I I ⟨by split <;> omega,by split <;> omega⟩)<|yQ I I<|y5<|SN.block<|zh<|zk<|za I (Rd.add I I ⟨by omega,by omega⟩)<|zb I<|zC (fun aK wK hh=>hK0 (⟨i + 1,by omega⟩) (by dsimp only;omega) aK wK<|hh.sub<|⟨⟨_,I,⟨lq I,⟨⟨_,I,zG (by rw [vlS_step hv hc hs1])⟩,⟨lq I,⟨lq I,⟨⟨_,I,zG s9⟩,t9⟩⟩⟩⟩⟩⟩,[],by decide,trivial⟩))
  ·have h37:¬(i:Int) < (S.length:Int):=oF hb37;refine zR ?_
   repeat (first | refine zV ?_ | refine zW d9 ?_)
   refine zX (zh<|zo<|zb I<|ze I<|ze I<|zd<|zF (fn:=Tryz.f40) (fun _ _ h=>h)<|Rs.le (Rs.two I (zq I)<|zq I) ?_);exact y7 ⟨zG (by rw [show i=l.length by omega]),zc _,t9⟩
theorem con_best (b:Int) (l:List Co.Cl) (ws:List Co.Wi) (W:List Int) (g:Nat→Bool) (hw:ws.length≤1000000) (hv:Co.VW b l ws) (hW:W.length≤1000000) (hs:∀ (i:Nat) x y,W[i]? =some x→W[i + 1]? =some y→x < y) (hm:∀ (i:Nat) x,W[i]? =some x→∃ m,Co.fC l x=some m) (hg:∀ (i:Nat) c,l[i]? =some c→decide (c.win∈W)=g i):Con Tryz.prog 35 [iD b,lsD z7 l,lsD yO ws,lsD yc W] (Zu [iD (Co.srch (Co.cs l ws g)<|List.replicate b.toNat false).2.1,iD 0]):=by
 have hn6:=hv.c.n;have hb2:=hv.c.b2;have hb1:=hv.c.b1
 have hbB:(b.toNat:Int)=b:=by omega
 refine z6 Tryz.func35 k9 I k9 fun base w0=>(zo (SWl.e2 (S:=[]) (ZS I (fun _ _ _ h=>yJ<|One.h _ _ _ h) I) fun g7=>(ze I<|ze I<|zd<|zi<|zo<|zb I<|zb I<|zb I<|za I (zy 0 I I I k9 zm)<|zn (S:=[]) (zp (Km b l ws W o9 hw hW hs hm) I ⟨zc _,zc _,zc _,zc _,t9⟩ I)<|ze I<|zL<|zb I<|za I (yn I I)<|zd<|zH I (by rw [Kx,Jh hv];rfl)<|zv<|zh<|zo<|zb I<|zb I<|zb I<|zb I<|za I (Z8 [.pointer<|some ⟨g7,0,none⟩] I)<|Ks 0 26 I I<|zn (S:=[]) (zp (Ke b l ws (fun z=>decide (z∈W)) hv hw) I ⟨zc _,zc _,(Vn fun z _=>con_best1 W z hW),t9⟩ I)<|YN (S:=[]) (ZW [] (Kk b l (yK l ws (fun z=>decide (z∈W)) ws.length) o9) I ⟨zc _,zc _,zc _,t9⟩ d9 t9 (fun _ h=>h) I) ?_)));rintro _ ⟨⟨g5,g6⟩,rfl⟩;refine ze I (zL<|zb I<|YN (ZW [0,1] (Kg g5 [g6] (some ⟨g6,0,none⟩) l.length (List.replicate l.length (-1:Int)) b.toNat l ws (g) (yK l ws (fun z=>decide (z∈W)) ws.length) (by rw [hbB];exact hv) (fun i c hc=>jU I hc (hg i c hc) 0) s9) I ⟨zc _,t9⟩ d9 ⟨⟨_,I,⟨zG (by rw [hbB]),zc _,zc _,zG s9,t9⟩⟩,⟨lR I,t9⟩⟩ (fun _ h=>h) I) ?_)
 rintro _ ⟨_,rfl⟩;refine zb I (za I (zg I I)<|za I (zg I I)<|ze I<|ze I<|zL<|zb I<|ze I<|ze I<|zd<|zF (fn:=Tryz.f35) (fun _ _ h=>h)<|Rs.le (Rs.two I (zq I)<|zq I) ?_);exact y7 ⟨zG (by rw [Co.slv_none (ws:=ws) (g:=g) (by rw [hbB];exact hv.c) rfl]),zc _,t9⟩
theorem zbx (B:Nat) (l:List Co.Cl) (ws:List Co.Wi) (hv:Co.VW (B:Int) l ws) (hw:ws.length≤1000000):Con Tryz.prog 39 [iD (B:Int),lsD z7 l,lsD yO ws] (Zu [lsD qi<|Co.slO (B:Int) l ws,iD<|Co.bst (B:Int) l ws,iD 0]):=by
 have hn6:=hv.c.n;have hb2:=hv.c.b2;have hb1:=hv.c.b1;have hq:=(Co.fst_fits (ws:=ws) (g:=fun _=>true) hv.c).2;refine z6 Tryz.func39 k9 I k9 fun base w0=>(zo<|ze I<|ze I<|ze I<|zd<|zi<|zo<|zb I<|zb I<|zb I<|zn (S:=[]) (zp (qL (B:Int) l ws o9 hw) I ⟨zc _,zc _,zc _,t9⟩ I)<|za I (yF I)<|zd<|zH I (by simp [hv])<|zv<|zh<|zo<|zb I<|zb I<|zb I<|zb I<|zn (S:=[]) (zp (Ke (B:Int) l ws (fun _=>true) hv hw) I ⟨zc _,zc _,(le_pr_f fun z _=>con_all39 z),t9⟩ I)<|YN (S:=[]) (ZW [] (Kk (B:Int) l (yK l ws (fun _=>true) ws.length) o9) I ⟨zc _,zc _,zc _,t9⟩ d9 t9 (fun _ h=>h) I) ?_);rintro _ ⟨⟨g5,g6⟩,rfl⟩;refine ze I (zL<|zb I<|YN (ZW [0,1] (Kg g5 [g6] (some ⟨g6,0,none⟩) l.length (List.replicate l.length (-1:Int)) B l ws (fun _=>true) (yK l ws (fun _=>true) ws.length) hv (fun i c hc=>jU I hc I 0) s9) I ⟨zc _,t9⟩ d9 ⟨⟨_,I,⟨zc _,zc _,zc _,zc _,t9⟩⟩,⟨lR I,t9⟩⟩ (fun _ h=>h) I) ?_);rintro _ ⟨_,rfl⟩;refine zb I (za I (zg I I)<|za I (zg I I)<|ze I<|ze I<|zd<|zi<|SW.sub (σ':=z2 [(0,_),(1,_),(9,_),(10,iD<|Co.bst (B:Int) l ws)] [.c g5 [iD (B:Int),lsD z7 l,lsD yW<|yK l ws (fun _=>true) ws.length,isD<|.slice (some ⟨g6,0,none⟩) (Co.fxB (Co.fst (B:Int) l ws) l.length 0).length l.length],.r [g6]<|yp 3 1 yc (some ⟨g6,0,none⟩) l.length<|Co.fxB (Co.fst (B:Int) l ws) l.length 0]) (⟨⟨_,I,⟨lq I,⟨lq I,⟨lq I,⟨⟨_,I,zG (by rw [Co.slv_none (ws:=ws) hv.c rfl];rfl)⟩,t9⟩⟩⟩⟩⟩,[0,1],by decide,⟨⟨_,rfl,⟨zc _,zc _,zc _,zG (by rw [Co.fxB_len hq o9,List.length_replicate]),trivial⟩⟩,⟨⟨_,rfl,(by rw [Co.fxB_zero];exact zK _)⟩,trivial⟩⟩⟩)<|zk<|zb I<|za I (zU (e:=61) I k9) (SWl.e2 (S:=[]) (VI (e:=83) (n:=l.length) (z:= .agg #[.int .i64 0,.int .i64 0,.int .i64 0]) qi ⟨0,0,0⟩ 3 24 I I k9 k9 k9 d9 I I I o9 d9 I) fun g36=>(ze I<|zd<|zi<|zo<|zb I<|za I (zU (e:=61) I k9)<|zb I<|zd<|SW.block<|z8 (ι:={i:Nat // i≤l.length}) (fun i=>z2 [(0,iD (B:Int)),(1,lsD z7 l),(9,pA g5),(10,iD<|Co.bst (B:Int) l ws),(12,isD<|.slice (some ⟨g36,0,none⟩) (Co.slS (B:Int) l ws i.1).length l.length),(37,lsD z7 l),(38,iD (l.length:Int)),(39,iD (i.1:Int))] [.c g5 [iD (B:Int),lsD z7 l,lsD yW<|yK l ws (fun _=>true) ws.length,isD<|.slice (some ⟨g6,0,none⟩) (Co.fxB (Co.fst (B:Int) l ws) l.length i.1).length l.length],.r [g6]<|yp 3 1 yc (some ⟨g6,0,none⟩) l.length<|Co.fxB (Co.fst (B:Int) l ws) l.length i.1,.r [g36]<|yp 83 3 qi (some ⟨g36,0,none⟩) l.length<|Co.slS (B:Int) l ws i.1]) (fun i=>l.length - i.1) (⟨0,JC _⟩) ?_ ?_)))
 ·exact ⟨⟨_,I,⟨lq I,⟨lq I,⟨lq I,⟨lq I,⟨⟨_,I,zG (by rw [Co.slS_len<|JC _])⟩,(sT I)⟩⟩⟩⟩⟩⟩,[0,1,2],by decide,⟨la rfl,⟨lR rfl,⟨⟨_,rfl,(by rw [← Co.slS_zero];exact zK _)⟩,trivial⟩⟩⟩⟩
 ·rintro ⟨i,hi⟩ K0 hK0;dsimp only at hi ⊢;refine zo (za I (yb I I)<|zd<|zi<|zD I (fun hb40=> ?_) (fun hb40=> ?_))
  ·have h40:(i:Int) < (l.length:Int):=oT hb40;refine zv (zh<|zi<|SW.block<|zi ?_)
   have hi2:i < l.length:=by omega
   obtain ⟨c,hc⟩:∃ c,l[i]? =some c:=⟨_,Je o9⟩;obtain ⟨e,hs1,hs2⟩:=Co.fst_le (ws:=ws) hv.c hc
   have hed:(Co.fst (B:Int) l ws).getD i 0=e:=by rw [Jr,hs1];rfl
   have hcp:=(hv.c.ok i c hc).2.2;refine zk (zb I<|za I (zS (e:=61) 2 I I k9 k9 o9 (by simpa using hc))<|za I (yY 2 I k9 d9 (show 2≤2 by decide) s9) (SWl.e2 (S:=[]) (Ef.alloc (zs:=[.int .i64 0,.int .i64 0]) k9 I) fun g14=>(ze I<|zn (S:=[_]) (zw 3 I I I k9 I<|m9 I)<|zd<|zi<|zo<|ze I<|zd<|SW.block<|z8 (ι:={s:Nat // s≤e}) (fun s=>z2 [(0,iD (B:Int)),(1,lsD z7 l),(9,pA g5),(10,iD<|Co.bst (B:Int) l ws),(12,isD<|.slice (some ⟨g36,0,none⟩) (Co.slS (B:Int) l ws i).length l.length),(37,lsD z7 l),(38,iD (l.length:Int)),(39,iD (i:Int)),(13,iD (i:Int)),(14,pA g14),(15,iD (s.1:Int))] [.c g5 [iD (B:Int),lsD z7 l,lsD yW<|yK l ws (fun _=>true) ws.length,isD<|.slice (some ⟨g6,0,none⟩) (Co.fxS (Co.fst (B:Int) l ws) l.length i<|(s.1:Int) - 1).length l.length],.r [g6]<|yp 3 1 yc (some ⟨g6,0,none⟩) l.length<|Co.fxS (Co.fst (B:Int) l ws) l.length i<|(s.1:Int) - 1,.r [g36]<|yp 83 3 qi (some ⟨g36,0,none⟩) l.length<|Co.slS (B:Int) l ws i,.c g14 [iD c.win,iD c.cnt]]) (fun s=>e - s.1) (⟨0,JC _⟩) ?_ ?_)))
   ·exact ⟨⟨_,I,(sT I)⟩,[0,1,2,3],by decide,⟨⟨_,rfl,⟨zc _,zc _,zc _,zG (by rw [Co.fxB_S hi2];rfl),trivial⟩⟩,⟨⟨_,rfl,(by rw [Co.fxB_S hi2];exact zK _)⟩,(sX rfl)⟩⟩⟩
   ·rintro ⟨s,hs⟩ K1 hK1;dsimp only at hs ⊢;refine zi (zo<|zb I<|za I (zj (n:=1) I k9)<|za I (zy 3 I I I k9 zm)<|za I (Rd.add I I ⟨by omega,by omega⟩)<|zb I<|za I (Zw I I)<|zd<|yg I (decide_eq_true o9)<|zv<|zh<|zi<|SW.block<|zo<|zb I<|za I (yC I)<|za I (zj (n:=3) I k9)<|za I (zy 0 I I I k9 zm)<|zb I<|zb I<|za I (yr 1 1 I I I k9 k9 o9 (by rw [Co.fxS_len hq hi2];omega))<|zn (S:=_) (yV (v:=(s:Int)) 1 I I I I k9 (by rw [Co.fxS_len hq hi2];omega) (fun _ h=>h))<|zL<|zb I<|YN (ZW [0,3] (Kg g5 [g6] (some ⟨g6,0,none⟩) l.length (Co.fxS (Co.fst (B:Int) l ws) l.length i (s:Int)) B l ws (fun _=>true) (yK l ws (fun _=>true) ws.length) hv (fun i c hc=>jU I hc I 0)<|Co.fxS_len hq hi2) I ⟨zc _,t9⟩ d9 ⟨⟨_,I,⟨zc _,zc _,zc _,zG (by rw [Co.fxS_len hq hi2,Co.fxS_len hq hi2]),t9⟩⟩,⟨⟨_,I,(by rw [Int.toNat_natCast,Co.fxS_set hq hi2];exact zK _)⟩,t9⟩⟩ (fun _ h=>h) I) ?_);rintro _ ⟨_,rfl⟩;refine zb I (za I (zg I I)<|za I (zg I I)<|ze I<|ze I<|zd<|zi ?_)
    have hst:=Co.slv_step (ws:=ws) hv.c hi2 (s:=s) (by rw [hed];exact hs);rw [hed] at hst;have hp0:=Co.slv_pos (ws:=ws) (l:=l) (B:=B) hv.c (g:=fun _=>true) (fun j=>(Co.fxS (Co.fst (B:Int) l ws) l.length i (s:Int)).getD j<|-1)
    generalize Co.slv (Co.cs l ws fun _=>true) B (fun j=>(Co.fxS (Co.fst (B:Int) l ws) l.length i (s:Int)).getD j<|-1)=R at hst hp0 ⊢
    refine zk (zb I<|za I (y6 I I)<|zb I<|yk 66 I (fun hb66=> ?_) (fun hb66=> ?_))
    ·have h66:R.2 > 0:=oT hb66;refine zQ hb66 (zA I) (zQ hb66 (zA I)<|zQ hb66 (yL I I)<|za I (zB I hb66 I)<|zd<|zD I (fun hb70=> ?_) (fun hb70=> ?_))
     ·have h70:R.1=Co.bst (B:Int) l ws:=oT hb70;have hse:s=e:=hst.1 ⟨by omega,h70⟩;refine zR ?_
      repeat (first | refine zV ?_ | refine zW d9 ?_)
      exact zX (zh<|yf ([g36] ++ []) (rr [0,1,2,3,4,5,6,7,8,9,10,11,12,13,14]<|.e 15 .fin .no) k9 k9 (fun d _ _ _ _ h=>by cases d <;> exact h)<|zz I I<|zz I I<|zl I I (zj (n:=0) I k9)<|zl I I (zy 1 I I I k9<|Zv 0 I d9 zm)<|zz I I<|zl I I (yC I)<|zl I I (zj (n:=3) I k9)<|zl I I (zy 2 I I I k9<|Zv 0 I d9 zm)<|zz I I<|zl I I (yr 3 1 I I I k9 k9 o9 (by rw [Co.fxS_len hq hi2];omega))<|zl I I (yx 3 I I k9 (Co.fxS_at hq hi2) I<|Zv 0 I d9 zm)<|zl I I (zj (n:=1) I k9)<|zl I I (zy 1 I I I k9<|Zv 0 I d9 zm)<|zl I I (yy I I bldSl)<|zl I I (yr 0 3 I I I k9 k9 o9 (by rw [Co.slS_len o9];omega))<|yR I (Ku (v:=⟨c.win,(s:Int),c.cnt⟩) 0 3 I I I k9 (by rw [Co.slS_len o9];omega) (fun _ h=>mL _ h))<|y5<|SN.block<|zh<|zk<|za I (Rd.add I I ⟨by omega,by omega⟩)<|zb I<|zC (fun aK wK hh=>hK0 (⟨i + 1,by omega⟩) (by dsimp only;omega) aK wK<|hh.sub<|⟨⟨_,I,⟨lq I,⟨lq I,⟨lq I,⟨lq I,⟨⟨_,I,zG (by dsimp only;rw [Co.slS_len o9,Co.slS_len o9])⟩,⟨lq I,⟨lq I,⟨⟨_,I,zG s9⟩,t9⟩⟩⟩⟩⟩⟩⟩⟩⟩,[1,2,3],by decide,⟨⟨_,rfl,⟨zc _,zc _,zc _,zG (by dsimp only;rw [hse,Co.fxS_B hs1]),trivial⟩⟩,⟨⟨_,rfl,(by dsimp only;rw [hse,Co.fxS_B hs1];exact zK _)⟩,⟨⟨_,rfl,(by dsimp only;rw [hse,Int.toNat_natCast,Co.slS_set<|Co.slO_get hc hs1];exact zK _)⟩,trivial⟩⟩⟩⟩))
     ·have h70:¬R.1=Co.bst (B:Int) l ws:=oF hb70;have hne:s≠e:=fun h=>h70 (hst.2 h).2;exact zv (SN.block<|zh<|zk<|zb I<|za I (Rd.add I I ⟨by omega,by omega⟩)<|ze I<|zC (fun aK wK hh=>hK1 (⟨s + 1,by omega⟩) (by dsimp only;omega) aK wK<|hh.sub<|⟨⟨_,I,⟨lq I,⟨lq I,⟨lq I,⟨lq I,⟨lq I,⟨lq I,⟨lq I,⟨lq I,⟨lq I,⟨lq I,⟨⟨_,I,zG s9⟩,t9⟩⟩⟩⟩⟩⟩⟩⟩⟩⟩⟩⟩,[2,3,0,1],by decide,⟨⟨_,rfl,⟨zc _,zc _,zc _,zG (by dsimp only;rw [Co.fxS_len hq hi2,Co.fxS_len hq hi2]),trivial⟩⟩,⟨⟨_,rfl,(by dsimp only;rw [show ((s + 1:Nat):Int) - 1=(s:Int) by omega];exact zK _)⟩,(sX rfl)⟩⟩⟩))
    ·have h66:¬R.2 > 0:=oF hb66;have hne:s≠e:=fun h=>(hst.2 h).1 o9;exact zP hb66 (zP hb66<|zP hb66<|za I (zI I hb66 I)<|zd<|zH I I<|zv<|SN.block<|zh<|zk<|zb I<|za I (Rd.add I I ⟨by omega,by omega⟩)<|ze I<|zC (fun aK wK hh=>hK1 (⟨s + 1,by omega⟩) (by dsimp only;omega) aK wK<|hh.sub<|⟨⟨_,I,⟨lq I,⟨lq I,⟨lq I,⟨lq I,⟨lq I,⟨lq I,⟨lq I,⟨lq I,⟨lq I,⟨lq I,⟨⟨_,I,zG s9⟩,t9⟩⟩⟩⟩⟩⟩⟩⟩⟩⟩⟩⟩,[2,3,0,1],by decide,⟨⟨_,rfl,⟨zc _,zc _,zc _,zG (by dsimp only;rw [Co.fxS_len hq hi2,Co.fxS_len hq hi2]),trivial⟩⟩,⟨⟨_,rfl,(by dsimp only;rw [show ((s + 1:Nat):Int) - 1=(s:Int) by omega];exact zK _)⟩,(sX rfl)⟩⟩⟩))
  ·have h40:¬(i:Int) < (l.length:Int):=oF hb40;refine zR ?_
   repeat (first | refine zV ?_ | refine zW d9 ?_)
   refine zX (zh<|zo<|zb I<|zb I<|ze I<|ze I<|ze I<|zd<|SW.freezeT 2 6 I I (by rw [show i=l.length by omega,Co.slS_all];exact zc _)<|zF (fn:=Tryz.f39) (fun _ _ h=>h)<|Rs.le (qW I (zq I) (zq I)<|zq I) ?_);exact zc _
end Sx
end Go.Proofs.YtmflnfnebmbjkaaGreat
namespace Go.Proofs.YtmflnfnebmbjkaaGreat
namespace Co
def mem (n:Nat) (f:Int→Bool):LN:=(List.range n).filter fun i=>f (i:Int)
theorem mem_yes {n:Nat} {f:Int→Bool} (h:f (n:Int)=true):mem (n + 1) f=mem n f ++ [n]:=by
 unfold mem;rw [List.range_succ,List.filter_append,List.filter_cons_of_pos (by exact h),List.filter_nil]
theorem mem_no {n:Nat} {f:Int→Bool} (h:f (n:Int)=false):mem (n + 1) f=mem n f:=by
 unfold mem;rw [List.range_succ,List.filter_append,List.filter_cons_of_neg (by rw [h];decide),List.filter_nil,JS]
theorem mem_pre {i:Nat} {f:Int→Bool}:∀ {n:Nat},i≤n→∃ r,mem n f=mem i f ++ r
 | 0,h=>⟨[],by rw [show i=0 by omega];rfl⟩
 | n + 1,h=>by
  by_cases e:i=n + 1
  ·subst e;exact ⟨[],by simp⟩
  ·obtain ⟨r,hr⟩:=mem_pre (i:=i) (f:=f) (n:=n) o9
   cases hf:f (n:Int)
   ·exact ⟨r,by rw [mem_no hf,hr]⟩
   ·exact ⟨r ++ [n],by rw [mem_yes hf,hr,Jq]⟩
theorem mem_get {n i:Nat} {f:Int→Bool} (hi:i < n) (h:f (i:Int)=true):(mem n f)[(mem i f).length]? =some i:=by
 obtain ⟨r,hr⟩:=mem_pre (f:=f) (show i + 1≤n by omega);rw [hr,mem_yes h,Jq,JR<|Js _,Nat.sub_self];rfl
theorem mem_of {n i k:Nat} {f:Int→Bool} (h:(mem n f)[k]? =some i):i < n∧f (i:Int)=true:=by
 have:=Jc h;unfold mem at this;rw [Jw,List.mem_range] at this;exact this
theorem mem_len {n:Nat} {f:Int→Bool}:(mem n f).length≤n:=by
 have:=List.length_filter_le (fun i:Nat=>f (i:Int)) (List.range n);rwa [List.length_range] at this
def mS (p:Nat→Int):LN→Int
 | []=>0
 | i :: l=>p i + mS p l
theorem mS_app {p:Nat→Int}:∀ {a b:LN},mS p (a ++ b)=mS p a + mS p b
 | [],_=>by simp [mS]
 | _ :: _,_=>by rw [List.cons_append,mS,mS_app,mS];omega
theorem mS_take {p:Nat→Int} {l:LN} {k i:Nat} (h:l[k]? =some i):mS p (l.take<|k + 1)=mS p (l.take k) + p i:=by
 rw [List.take_add_one,h,mS_app];simp [mS]
theorem mS_mem {p:Nat→Int} {f:Int→Bool}:∀ {n:Nat},mS p (mem n f)=sm (fun i=>if f (i:Int)=true then p i else 0) n
 | 0=>rfl
 | n + 1=>by
  rw [sm]
  cases hf:f (n:Int)
  ·rw [mem_no hf,mS_mem];simp
  ·rw [mem_yes hf,mS_app,mS_mem];simp [mS]
theorem mS_bd {p:Nat→Int} {M:Int}:∀ {l:LN},(∀ i∈l,-M≤p i∧p i≤M)→ -((l.length:Int) * M)≤mS p l∧mS p l≤(l.length:Int) * M
 | [],_=>by simp [mS]
 | i :: l,h=>by
  have h1:=mS_bd (l:=l) fun j hj=>h j (Jl _ hj);have h2:=h i (mC ..);rw [mS,Xm,Int.natCast_add,Int.add_mul];simp only [Int.natCast_one,Int.one_mul];omega
def fB (c:Nat) (z:Int):Bool:=bt c z.toNat
def fL (c:Nat) (z:Int):Bool:= !bt c z.toNat
theorem fB_n (c i:Nat):fB c (i:Int)=bt c i:=rfl
theorem fL_n (c i:Nat):fL c (i:Int)= !bt c i:=rfl
theorem mS_ic {c n:Nat} {p:Nat→Int}:mS p (mem n<|fB c)=ic c p n:=mS_mem
theorem mS_oc {c n:Nat} {p:Nat→Int}:mS p (mem n<|fL c)=oc c p n:=by
 rw [mS_mem]
 exact sm_congr fun i _=>by rw [fL_n];cases bt c i <;> rfl
def wnr (l:List Cl) (c:Nat):List Int:=(mem l.length<|fB c).map (wnO l)
section
variable {b:Int}{l:List Cl}{ws:List Wi}{c:Nat}
theorem zbm {f:Int→Bool} (n:Nat):(mem n f).Pairwise (· < ·):=List.Pairwise.filter _ List.pairwise_lt_range
theorem wnr_sorted (hv:VC b l) (i:Nat) (x y:Int) (hx:(wnr l c)[i]? =some x) (hy:(wnr l c)[i + 1]? =some y):x < y:=by
 unfold wnr at hx hy;rw [JJ] at hx hy;obtain ⟨p,hp,rfl⟩:=Jy.1 hx;obtain ⟨q,hq,rfl⟩:=Jy.1 hy
 have hpq:p < q:=by
  obtain ⟨h1,rfl⟩:=Jg.1 hp;obtain ⟨h2,rfl⟩:=Jg.1 hq;exact List.pairwise_iff_getElem.1 (zbm (f:=fB c) l.length) _ _ h1 h2 o9
 have h1:=(mem_of hp).1;have h2:=(mem_of hq).1;rw [wnO_get<|Je h1,wnO_get<|Je h2];exact hv.lt hpq (Je h1) (Je h2)
theorem wnr_mem (hv:VC b l) (i:Nat) (x:Int) (hx:(wnr l c)[i]? =some x):∃ m,fC l x=some m:=by
 unfold wnr at hx;rw [JJ] at hx;obtain ⟨p,hp,rfl⟩:=Jy.1 hx;have h1:=(mem_of hp).1;rw [wnO_get<|Je h1];exact ⟨p,fC_some hv<|Je h1⟩
theorem wnr_bt (hv:VC b l) (i:Nat) (x:Cl) (hx:l[i]? =some x):decide (x.win∈wnr l c)=bt c i:=by
 have hi:=(Jg.1 hx).1
 cases hb:bt c i
 ·refine Jd fun h=> ?_;obtain ⟨p,hp,e⟩:=JI.1 h;obtain ⟨k,hk⟩:=List.getElem?_of_mem hp;obtain ⟨h1,h2⟩:=mem_of hk;rw [wnO_get<|Je h1] at e;have:=hv.inj (Je h1) hx e;subst this;rw [fB_n,hb] at h2;cases h2
 ·refine Jo (JI.2 ⟨i,Jc<|mem_get (f:=fB c) hi (by rw [fB_n];exact hb),?_⟩);rw [wnO_get hx]
theorem wnr_len:(wnr l c).length≤l.length:=by unfold wnr;rw [JO];exact mem_len
theorem wnr_take {k i:Nat} {x:Cl} (h:(mem l.length<|fB c)[k]? =some i) (hx:l[i]? =some x):((mem l.length<|fB c).take<|k + 1).map (wnO l)=((mem l.length<|fB c).take k).map (wnO l) ++ [x.win]:=by
 rw [List.take_add_one,h,XG];simp [wnO_get hx]
end
end Co
end Go.Proofs.YtmflnfnebmbjkaaGreat
namespace Go.Proofs.YtmflnfnebmbjkaaGreat
open Go.RowKit
namespace Sx
section
section
variable {P:Program}{Γ:Cx}{σ σ':St}{Q:Exit→Act→World→Prop}{ops:Array Oper}{op:Op}{dst:Option Tmp}{ty:TypeId}{pos:String}{af:Array Edge}{rest:List Oper}{k:Nat}{d:D}{S:List Nat}
theorem zaa {j t:Nat} {b c:Bool} (hj:(ops[j]?).bind (·.dst)=some t) (ht:σ.tm t=some (isD<|.bool c)) (hc:c=b) (hn:ye Γ.nt t=true)
  (hd:ye Γ.nt k=true) (h:Rd P Γ [] ⟨some k,op,ty,pos,af,some (j,b)⟩ σ d) (hk:SWk P Γ ops Q rest (σ.put k d)):SWk P Γ ops Q (⟨some k,op,ty,pos,af,some (j,b)⟩ :: rest) σ:=fun a w hh=>by
 obtain ⟨v,h1,h2⟩:=h a w hh;unfold Z5;rw [Zy (ops:=ops) hh rfl hj ht hn,Jh (by simp [hc])];refine j4 ?_;unfold Oper.wp;rw [h2 w<|Only.refl _ _];exact hk _ _ (hh.put (by simpa [ye] using hd) h1)
theorem SWk.off {j t:Nat} {b c:Bool} (hj:(ops[j]?).bind (·.dst)=some t) (ht:σ.tm t=some (isD<|.bool c)) (hc:c= !b) (hn:ye Γ.nt t=true)
  (hd:ye Γ.nt k=true) (hk:SWk P Γ ops Q rest (σ.put k<|isD undef)):SWk P Γ ops Q (⟨some k,op,ty,pos,af,some (j,b)⟩ :: rest) σ:=fun a w hh=>by
 unfold Z5
 rw [Zy (ops:=ops) hh rfl hj ht hn,Jb (by subst hc;cases b <;> simp)]
 exact hk _ _ (hh.put (by simpa [ye] using hd) I)
theorem SWk.split (t:Nat) {c:Bool} (_ht:σ.tm t=some (isD<|.bool c)) (h1:c=true→SWk P Γ ops Q rest σ) (h2:c=false→SWk P Γ ops Q rest σ):SWk P Γ ops Q rest σ:=by
 cases h:c
 ·exact h2 h
 ·exact h1 h
theorem zbL {j0 t0:Nat} {b0 c0:Bool} {x:Operand} {y:Nat} {args:Array Operand} {aT:Array TypeId} {pre:List Box} {ad es:List D} {ι:Type} {post:ι→List Box} {b:ι→Bool} (hj:(ops[j0]?).bind (·.dst)=some t0) (ht:σ.tm t0=some (isD<|.bool c0)) (hc:c0=b0) (hn0:ye Γ.nt t0=true) (js:LN) (hcon:ConY P y pre ad post b) (hx:σ.ev x=some (isD<|.func (.yield y) #[] #[])) (he:σ.evs args.toList=some es) (hl:LeAll es ad) (hjs:js.Nodup) (hs:SubBx σ.bx js pre) (hk:ye Γ.nt k=true)
  (hn:∀ i,SWk P Γ ops Q rest<|(σ.give js<|post i).put k<|isD<|.bool<|b i):SWk P Γ ops Q (⟨some k,.call { callee:= .value x,args:=args,argTypes:=aT },ty,pos,af,some (j0,b0)⟩ :: rest) σ:=fun a w hh=>by
 have h:=SWk.yield (ops:=ops) (aT:=aT) (ty:=ty) (pos:=pos) (af:=af) (rest:=rest) js hcon hx he hl hjs hs hk hn a w hh;unfold Z5 at h ⊢;rw [Jh (show Region.wanted _ _=true from rfl)] at h;rw [Zy (ops:=ops) hh rfl hj ht hn0,Jh (by simp [hc])];exact h
end
end
section
theorem shrc:∀ c < 64,∀ i < 6,((c:Nat):Int) / 2 ^ (min i IntKind.i64.bits)=((c / 2 ^ i:Nat):Int):=by decide +kernel
theorem andc:∀ c < 64,∀ i < 6,bits .and .i64 ((c / 2 ^ i:Nat):Int) 1=((c / 2 ^ i % 2:Nat):Int):=by decide +kernel
theorem hasc:∀ c < 64,∀ i < 6,decide (((c / 2 ^ i % 2:Nat):Int)=1)=Co.bt c i:=by decide +kernel
def Y1 (z:Int):Prop:=0≤z∧z < 6
def ibM (_:Nat) (_:Unit):List Box:=[]
def ddM (x:Nat) (_:Unit):List D:=[iD (x:Int)]
theorem getD_some {xs:List Int} {x:Nat} (h:x < xs.length):xs[x]? =some (xs.getD x 0):=by rw [Jr,Je h];rfl
theorem W0 (c i:Nat) (hc:c < 64) (hi:i < 6):Con Tryz.prog 34 [iD (c:Int),iD (i:Int)] (yG<|Co.bt c i):=by
 refine z6 Tryz.func34 k9 I k9 fun base w0=>(zo<|ze I<|zL<|zb I<|zb I<|za I (Y0 (s:=i) I I<|shrc c hc i hi)<|za I (Rd.andW I I<|andc c hc i hi)<|za I (yL I I)<|ze I<|zd<|zF (fn:=Tryz.f34) (fun _ _ h=>h)<|Rs.le (zO I<|zq I) ?_);exact zY (hasc c hc i hi)
theorem Wn (c i:Nat) (hc:c < 64) (hi:i < 6):Con Tryz.prog 47 [iD (c:Int),iD (i:Int)] (yG<|!Co.bt c i):=by
 refine z6 Tryz.func47 k9 I k9 fun base w0=>(zo<|ze I<|zL<|zb I<|zb I<|zn (S:=[]) (zp (W0 c i hc hi) I ⟨zc _,zc _,t9⟩ I)<|za I (yF I)<|ze I<|zd<|zF (fn:=Tryz.f47) (fun _ _ h=>h)<|Rs.le (zO I<|zq I) ?_);exact zc _
theorem zaC {c:Nat} (hc:c < 64):Le (isD<|.func (.func 34) [Value.int .i64 (c:Int)].toArray #[]) (prD Tryz.prog Y1<|Co.fB c):=zaB [.int .i64 (c:Int)] fun z hz=>by
 obtain ⟨n,rfl⟩:=Int.eq_ofNat_of_zero_le hz.1;exact W0 c n hc (by have:=hz.2;omega)
theorem Vo {c:Nat} (hc:c < 64):Le (isD<|.func (.func 47) [Value.int .i64 (c:Int)].toArray #[]) (prD Tryz.prog Y1<|Co.fL c):=zaB [.int .i64 (c:Int)] fun z hz=>by
 obtain ⟨n,rfl⟩:=Int.eq_ofNat_of_zero_le hz.1;exact Wn c n hc (by have:=hz.2;omega)
theorem Kz (n:Nat) (f:Int→Bool) (hn:n≤6) (J Jx:Nat→Res) (y:Nat) (hy:∀ (i:Nat) (x:Nat) (k:Unit) (F:LN),(Co.mem n f)[i]? =some x→ConY Tryz.prog y (.r F (J i) :: ibM x k) (ddM x k) (fun t:LN × Bool=>[.r t.1 (if t.2=true then J (i + 1) else Jx<|i + 1)]) (fun t=>t.2)) (F:LN):ConR Tryz.prog 70 [.r F<|J 0] [isD<|.func (.yield y) #[] #[],paD [iD (n:Int)],paD [prD Tryz.prog Y1 f]] (fun t:LN × Option Nat=>[.r t.1 (match t.2 with | none=>J (Co.mem n f).length | some i=>Jx<|i + 1)]) (fun t:LN × Option Nat=>isD<|.tuple #[]):=by
 refine jg Tryz.func70 k9 I k9 fun base w0=>(zo<|za I (zN I I k9 s9)<|zb I<|zd<|SW.block<|z8 (ι:={p:Nat × LN // p.1≤n}) (fun p=>z2 [(0,isD<|.func (.yield y) #[] #[]),(2,paD [prD Tryz.prog Y1 f]),(5,iD (n:Int)),(6,iD (p.1.1:Int))] [.r p.1.2<|J (Co.mem p.1.1 f).length]) (fun p=>n - p.1.1) (⟨(0,F),JC _⟩) ?_ ?_)
 ·exact (sB [0] I I)
 ·rintro ⟨⟨i,G⟩,hi⟩ K0 hK0;dsimp only at hi ⊢;refine zo (za I (yb I I)<|zd<|zi<|zD I (fun hb7=> ?_) (fun hb7=> ?_))
  ·have h7:(i:Int) < (n:Int):=oT hb7;refine zv (zh<|zi<|SW.block<|zo<|zb I<|ze I<|zd<|zi<|zbM<|SWk.rd I (zN I I k9 s9)<|SWk.rd I (zA I)<|SWk.ef (S:=[]) (za9 I I (show Y1 _ from ⟨by omega,by omega⟩) I) ?_);rintro _ rfl;refine SWk.rd I (zA I) (SWk.split 12 I (fun hb12=> ?_) (fun hb12=> ?_))
   ·skip
    refine zaa I I hb12 I I (zA I) (zaa I I hb12 I I (zA I)<|zbL I I hb12 I [0] (hy (Co.mem i f).length i () G<|Co.mem_get o9 hb12) I I ⟨zc _,t9⟩ d9 ⟨lR I,t9⟩ I ?_);rintro ⟨G2,b⟩;refine zaa I I hb12 I I (yF I) (SWk.rd I (zB I hb12 I)<|SWk.nil<|zh<|zD I (fun hb17=> ?_) (fun hb17=> ?_))
    ·obtain rfl:b=false:=by simpa using hb17
     refine qp (fn:=Tryz.f70) (((G2,some (Co.mem i f).length):LN × Option Nat)) [0] (fun _ _ h=>h) (Rs.none I) d9 ⟨lR I,t9⟩
    ·obtain rfl:b=true:=by simpa using hb17
     exact zv (SN.block<|zh<|zk<|za I (Rd.add I I ⟨by omega,by omega⟩)<|zb I<|zC (fun aK wK hh=>hK0 (⟨(i + 1,G2),by simp only;omega⟩) (by simp only;omega) aK wK<|hh.sub<|⟨⟨_,I,⟨lq I,⟨lq I,⟨lq I,⟨⟨_,I,zG s9⟩,t9⟩⟩⟩⟩⟩,[0],by decide,⟨⟨_,rfl,(by dsimp only;rw [Co.mem_yes hb12,List.length_append,List.length_singleton];exact zK _)⟩,trivial⟩⟩))
   ·skip
    exact SWk.off I I hb12 I I (SWk.off I I hb12 I I<|SWk.off I I hb12 I I<|SWk.off I I hb12 I I<|SWk.rd I (zI I hb12 I)<|SWk.nil<|zh<|zH I I<|zv<|SN.block<|zh<|zk<|za I (Rd.add I I ⟨by omega,by omega⟩)<|zb I<|zC (fun aK wK hh=>hK0 (⟨(i + 1,G),by simp only;omega⟩) (by simp only;omega) aK wK<|hh.sub<|⟨⟨_,I,⟨lq I,⟨lq I,⟨lq I,⟨⟨_,I,zG s9⟩,t9⟩⟩⟩⟩⟩,[0],by decide,⟨⟨_,rfl,(by dsimp only;rw [Co.mem_no hb12];exact zK _)⟩,trivial⟩⟩))
  ·have h7:¬(i:Int) < (n:Int):=oF hb7;refine zR ?_
   repeat (first | refine zV ?_ | refine zW d9 ?_)
   refine zX ?_;refine SN.retR (fn:=Tryz.f70) (((G,none):LN × Option Nat)) [0] (Rs.none I) d9 ⟨⟨_,I,(by rw [show i=n by omega];exact zK _)⟩,t9⟩
theorem y3 (n:Nat) (f:Int→Bool) (hn:n≤6):Seq Tryz.prog 70 [paD [iD (n:Int)],paD [prD Tryz.prog Y1 f]] ibM ddM (Co.mem n f):=fun J Jx y hy F=>Kz n f hn J Jx y hy F
theorem ZY:ZM Tryz.prog 70:=enters_of Tryz.func70 k9 rfl
theorem Zo (n:Nat) (f:Int→Bool):Con Tryz.prog 33 [iD (n:Int),prD Tryz.prog Y1 f] (fnD 70 [paD [iD (n:Int)],paD [prD Tryz.prog Y1<|f]]):=by
 refine z6 Tryz.func33 k9 I k9 fun base w0=>(zo (SWl.e2 (S:=[]) (ZS I (fun _ _ _ h=>yJ<|One.h _ _ _ h) I) fun g2=>(SWl.e2 (S:=[]) (ZS I (fun _ _ _ h=>yJ<|One.h _ _ _ h) I) fun g3=>(ze I<|zL<|za I (Z8 [.pointer<|some ⟨g2,0,none⟩,.pointer<|some ⟨g3,0,none⟩] I)<|ze I<|zd<|SW.freezeF2 0 1 4 I I I I<|zF (fn:=Tryz.f33) (fun _ _ h=>h)<|Rs.le (zO I<|zq I) ?_))));exact zc _
theorem con_sum (xs:List Int) (n:Nat) (f:Int→Bool) (hn:n≤6) (hxl:xs.length=n) (hb:∀ i < n,-4398046511104≤xs.getD i 0∧xs.getD i 0≤4398046511104):Con Tryz.prog 85 [lsD yc xs,fnD 70 [paD [iD (n:Int)],paD [prD Tryz.prog Y1<|f]]] (iD<|Co.mS (fun i=>xs.getD i 0)<|Co.mem n f):=by
 refine jh Tryz.func85 k9 I k9 fun base w0=>(zo (SWl.e2 (S:=[]) (ZS I (fun _ _ _ h=>yJ<|One.h _ _ _ h) I) fun g2=>(ze I<|zL (SWl.e2 (S:=[]) (Ef.alloc (zs:=[.int .i64 0]) k9 I) fun g5=>(zn (S:=[_]) (yN 1 I I I k9 I<|m9 I)<|zd<|zi<|zo<|zb I<|zd<|SW.block<|SW.sub (σ':=z2 [(7,_),(5,_),(2,_)] [.c g2 [lsD yc xs],.c g5 [iD<|Co.mS (fun i=>xs.getD i 0)<|(Co.mem n f).take 0]]) (⟨⟨_,I,(sT I)⟩,[0,1],by decide,⟨la rfl,⟨⟨_,rfl,⟨zG (by simp [Co.mS]),trivial⟩⟩,trivial⟩⟩⟩)<|Yx (gf:=70) (ps:=[8]) (ib:=ibM) (dd:=ddM) (items:=(Co.mem n f)) (fun i bx=>bx=[.c g2 [lsD yc xs],.c g5 [iD<|Co.mS (fun i=>xs.getD i 0)<|(Co.mem n f).take i]]) (fun o i bx=>match o with | none=>False | some n=>False) (fun i x k σ=>σ=z2 [(5,pA g5),(2,pA g2),(6,iD (x:Int))] [.c g2 [lsD yc xs],.c g5 [iD<|Co.mS (fun i=>xs.getD i 0)<|(Co.mem n f).take i]]) ZY (y3 n f hn) I (I) k9 (fun _ _=>I) ?_ ?_ ?_ ?_ ?_)))))
 ·rintro i x k hx bx rfl y base w0;exact ZG k9 (fun _ _ h=>h) (ze I<|zC<|YO (σ':=z2 [(5,pA g5),(2,pA g2),(6,iD (x:Int))] [.c g2 [lsD yc xs],.c g5 [iD<|Co.mS (fun i=>xs.getD i 0)<|(Co.mem n f).take i]]) I<|sB [0,1] I I)
 ·rintro i x k hx _ rfl y base w0;have hxn:=(Co.mem_of hx).1;have hxv:=hb x hxn;have hbd:=Co.mS_bd (p:=(fun i=>xs.getD i 0)) (M:=4398046511104) (l:=(Co.mem n f).take i) (fun j hj=>hb j (by obtain ⟨k2,hk2⟩:=List.getElem?_of_mem (List.mem_of_mem_take hj);exact (Co.mem_of hk2).1))
  have hlt:((Co.mem n f).take i).length≤6:=by have h1:=Co.mem_len (n:=n) (f:=f);have h2:=List.length_take_le i (Co.mem n f);rw [JE] at h2 ⊢;omega
  exact Yw (Y8 (g5 :: []) (.q 0<|.r 1<|.r 2<|.r 3<|.q 4<|.r 5<|.e 6 .fin .no) k9 (fun _ _ h=>h) k9 k9 (fun d _ _ _ _ h=>by cases d <;> exact h)<|ZT I I (zy 1 I I I k9 zm)<|zl I I (zy 0 I I I k9<|yz 1 I d9 zm)<|zz I I<|zl I I (zS (e:=3) 1 I I k9 k9 o9 (by rw [J7];exact getD_some o9))<|ZT I I (zN I I k9 s9)<|zl I I (Rd.add I I ⟨by omega,by omega⟩)<|yR I (yN 1 I I I k9 I mC)<|y5<|SN.block<|YO (σ':=z2 [] [.c g2 [lsD yc xs],.c g5 [iD<|Co.mS (fun i=>xs.getD i 0)<|(Co.mem n f).take<|i + 1]]) I<|⟨⟨_,I,t9⟩,[0,1],by decide,⟨la rfl,⟨⟨_,rfl,⟨zG (by rw [Co.mS_take hx]),trivial⟩⟩,trivial⟩⟩⟩)
 ·rintro dk0 bx rfl;exact SN.block (zh<|zo<|za I (zy 1 I I I k9 zm)<|ze I<|zd<|Yn (fn:=Tryz.f85) (fun _ _ h=>h)<|qr 2 I<|RM.fin<|Rs.le (zO I<|zq I)<|zG (by rw [Ji<|Js _]))
 ·rintro _ _ _ _ hX;exact hX.elim
 ·rintro _ _ _ hX;exact hX.elim
