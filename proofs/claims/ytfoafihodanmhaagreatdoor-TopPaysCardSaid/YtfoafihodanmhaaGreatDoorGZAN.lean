/- ASSIGNMENTS, in zal Lean: the slots, one after another. ASSIGN: assigned, Value, Best, Solve. MEMBERS of a coalition, in plain terms. GUARDS beside y -/
import Derived.Test.YtfoafihodanmhaaGreatDoorGZAM
set_option maxHeartbeats 8000000
set_option maxRecDepth 100000
namespace Go.Proofs.YtfoafihodanmhaaGreatDoor
namespace Co
structure Sl where
 win:Int
 st:Int
 cnt:Int
def mks:Cs→List Bool→LN→Nat→List Bool
 | c :: l,u,s :: a,i + 1=>mks l (mk u s c.1) a i
 | _,u,_,_=>u
theorem mks_zero:∀ (l:Cs) (u:List Bool) (a:LN),mks l u a 0=u
 | [],_,_=>rfl
 | _ :: _,_,[]=>rfl
 | _ :: _,_,_ :: _=>rfl
theorem mks_step:∀ {l:Cs} {u:List Bool} {a:LN} {i:Nat} {c:Nat × (Nat→Int)} {s:Nat},Fits l u a→l[i]? =some c→a[i]? =some s→s + c.1≤u.length∧free (mks l u a i) s c.1=true∧mks l u a (i + 1)=mk (mks l u a i) s c.1
 | [],_,_,_,_,_,_,h,_=>by simp at h
 | _ :: _,_,[],_,_,_,_,_,h=>by simp at h
 | d :: l,u,t :: a,0,c,s,hf,hc,hs=>by
  obtain rfl:=JN hc;obtain rfl:=JN hs;refine ⟨hf.1,hf.2.1,?_⟩;rw [mks,mks_zero];rfl
 | d :: l,u,t :: a,i + 1,c,s,hf,hc,hs=>by
  have ih:=mks_step (i:=i) hf.2.2 hc hs;rw [mk_len] at ih;exact ih
theorem mks_len:∀ (l:Cs) (u:List Bool) (a:LN) (i:Nat),(mks l u a i).length=u.length
 | [],_,_,_=>rfl
 | _ :: _,_,[],_=>rfl
 | _ :: _,_,_ :: _,0=>rfl
 | c :: l,u,s :: a,i + 1=>by rw [mks,mks_len l _ a i,mk_len]
section
variable {b:Int}{l:List Cl}{ws:List Wi}
theorem fst_fits12 (hv:VC b l):Fits (cs l ws fun _=>true) (List.replicate 12 false) (fst b l ws):=by
 obtain ⟨h1,h2⟩:=fst_fits (ws:=ws) (g:=fun _=>true) hv;obtain ⟨h3,h4,h5⟩:=(Yw _ _ _<|cs_pos hv).1 h1;refine (Yw _ _ _<|cs_pos hv).2 ⟨h3,fun i c x hc hx=> ?_,h5⟩;have:=(h4 i c x hc hx).1;rw [List.length_replicate] at this ⊢;have:=hv.b2;exact ⟨by omega,Ww⟩
theorem fst_le (hv:VC b l) {i:Nat} {c:Cl} (hc:l[i]? =some c):∃ s,(fst b l ws)[i]? =some s∧(s:Int) + c.cnt≤b:=by
 obtain ⟨h1,h2⟩:=fst_fits (ws:=ws) (g:=fun _=>true) hv;have hi:=(Jg.1 hc).1;refine ⟨(fst b l ws)[i]'o9,Je o9,?_⟩;have h3:=((Yw _ _ _<|cs_pos hv).1 h1).2.1 i _ _ (by rw [cs_get,hc];rfl) (Je (show i < (fst b l ws).length by omega));rw [List.length_replicate] at h3;have h4:(fst b l ws)[i]'o9 + c.cnt.toNat≤b.toNat:=h3.1;have:=hv.b1;have:=(hv.ok i c hc).2.2;omega
def slO (b:Int) (l:List Cl) (ws:List Wi):List Sl:=(List.range l.length).map fun i=>⟨wnO l i,((fst b l ws).getD i 0:Nat),(l[i]?.map (·.cnt)).getD 0⟩
theorem slO_get {i:Nat} {c:Cl} {s:Nat} (hc:l[i]? =some c) (hs:(fst b l ws)[i]? =some s):(slO b l ws)[i]? =some ⟨c.win,(s:Int),c.cnt⟩:=by
 have hi:=(Jg.1 hc).1;unfold slO;rw [JJ,List.getElem?_range hi,Option.map_some,wnO_get hc,hc,Jr,hs];rfl
theorem slO_len:(slO b l ws).length=l.length:=by simp [slO]
def slS (b:Int) (l:List Cl) (ws:List Wi) (i:Nat):List Sl:=(slO b l ws).take i ++ List.replicate (l.length - i) ⟨0,0,0⟩
theorem slS_len {i:Nat} (h:i≤l.length):(slS b l ws i).length=l.length:=by simp [slS,slO_len];omega
theorem slS_zero:slS b l ws 0=List.replicate l.length ⟨0,0,0⟩:=by simp [slS]
theorem slS_all:slS b l ws l.length=slO b l ws:=by unfold slS;rw [Nat.sub_self,Ji (by rw [slO_len];exact Js _)];simp
theorem slS_set {i:Nat} {x:Sl} (h:(slO b l ws)[i]? =some x):(slS b l ws i).set i x=slS b l ws (i + 1):=by
 have hi:=(Jg.1 h).1;rw [slO_len] at hi
 have ht:((slO b l ws).take i).length=i:=by rw [JE,slO_len];omega
 unfold slS;rw [Xa _ _ o9,ht,Nat.sub_self,show l.length - i=(l.length - (i + 1)) + 1 by omega,Xc,List.set_cons_zero,List.take_add_one,h,Jq];rfl
def fxS (q:LN) (n i:Nat) (s:Int):List Int:=(q.take i).map (fun x:Nat=>(x:Int)) ++ s :: List.replicate (n - (i + 1)) (-1)
theorem fxS_len {q:LN} {n i:Nat} {s:Int} (hq:q.length=n) (hi:i < n):(fxS q n i s).length=n:=by simp [fxS];omega
theorem fxS_fun {q:LN} {n i:Nat} {s:Int} (hq:q.length=n) (hi:i < n):(fun j=>(fxS q n i s).getD j<|-1)=fxN q i s:=by
 funext j
 have ht:((q.take i).map (fun x:Nat=>(x:Int))).length=i:=by simp;omega
 unfold fxN fxS;rw [Jr]
 by_cases h1:j < i
 ·rw [Jh h1,JB o9,JJ,List.getElem?_take_of_lt h1,Je o9,Jr,Je o9];rfl
 ·rw [Jb h1,JR o9,ht]
  by_cases h2:j=i
  ·subst h2;rw [Jh rfl,Nat.sub_self];rfl
  ·rw [Jb h2,show j - i=(j - (i + 1)) + 1 by omega,J1,Xj]
   split <;> rfl
theorem fxS_set {q:LN} {n i:Nat} {s t:Int} (hq:q.length=n) (hi:i < n):(fxS q n i s).set i t=fxS q n i t:=by
 have ht:((q.take i).map (fun x:Nat=>(x:Int))).length=i:=by simp;omega
 unfold fxS;rw [Xa _ _ o9,ht,Nat.sub_self];rfl
theorem fxS_at {q:LN} {n i:Nat} {s:Int} (hq:q.length=n) (hi:i < n):(fxS q n i s)[i]? =some s:=by
 have ht:((q.take i).map (fun x:Nat=>(x:Int))).length=i:=by simp;omega
 unfold fxS;rw [JR o9,ht,Nat.sub_self];rfl
def fxB (q:LN) (n i:Nat):List Int:=(q.take i).map (fun x:Nat=>(x:Int)) ++ List.replicate (n - i) (-1)
theorem fxB_len {q:LN} {n i:Nat} (hq:q.length=n) (hi:i≤n):(fxB q n i).length=n:=by simp [fxB];omega
theorem fxB_zero {q:LN} {n:Nat}:fxB q n 0=List.replicate n (-1):=by simp [fxB]
theorem fxB_S {q:LN} {n i:Nat} (hi:i < n):fxB q n i=fxS q n i (-1):=by
 unfold fxB fxS;rw [show n - i=(n - (i + 1)) + 1 by omega,Xc]
theorem fxS_B {q:LN} {n i s:Nat} (hs:q[i]? =some s):fxS q n i (s:Int)=fxB q n (i + 1):=by
 unfold fxB fxS;rw [List.take_add_one,hs,XG,Jq];rfl
theorem slv_none {B:Nat} (hv:VC (B:Int) l) {g:Nat→Bool} {F:List Int} (hF:F=List.replicate l.length (-1)):(slv (cs l ws g) B fun i=>F.getD i<|-1).1=(srch (cs l ws g)<|List.replicate B false).2.1:=by
 subst hF;refine (slv_srch (by rw [Kb];exact hv.n) (cs_pos hv) fun i=> ?_).1;rw [Jr,Xj]
 split <;> decide
def bst (b:Int) (l:List Cl) (ws:List Wi):Int:=(srch (cs l ws fun _=>true)<|List.replicate b.toNat false).2.1
theorem slv_step {B:Nat} (hv:VC (B:Int) l) {i s:Nat} (hi:i < l.length) (hs:s≤(fst (B:Int) l ws).getD i 0):((slv (cs l ws fun _=>true) B fun j=>(fxS (fst (B:Int) l ws) l.length i s).getD j<|-1).2≠0∧(slv (cs l ws fun _=>true) B fun j=>(fxS (fst (B:Int) l ws) l.length i s).getD j<|-1).1=bst (B:Int) l ws)↔s=(fst (B:Int) l ws).getD i 0:=by
 have hlen:=(fst_fits (ws:=ws) (g:=fun _=>true) hv).2;rw [fxS_fun hlen hi];exact zeD (by rw [Kb];exact hv.n) (cs_pos hv) (Kz hv) (by rw [Kb];exact hi) s hs
theorem slv_pos {B:Nat} (hv:VC (B:Int) l) {g:Nat→Bool} (fx:Nat→Int):0≤(slv (cs l ws g) B fx).2:=(zbf (by rw [Kb];exact hv.n)<|cs_pos hv).1
end
end Co
end Go.Proofs.YtfoafihodanmhaaGreatDoor
namespace Go.Proofs.YtfoafihodanmhaaGreatDoor
open Go.RowKit
namespace Sx
theorem ZD {α:Type} {enc:α→List D}:Le (isD<|.slice none 0 0) (lsD enc []):=fun _ _ _ h=>⟨none,0,h,Js _,fun h0=>by simp at h0⟩
def j9 (c:Co.Sl):List D:=[iD c.win,iD c.st,iD c.cnt]
instance:Row j9 3:=⟨fun _=>rfl,fun x=>by unfold j9;infer_instance,by decide⟩
instance (c:Co.Sl):Ones (j9 c):=by unfold j9;infer_instance
theorem bldSl {x y z:Int}:Bld Tryz.prog 180 [0,1,2] [iD x,iD y,iD z] [iD x,iD y,iD z]:=fun L w vs hv=>by
 obtain ⟨u,v,q,rfl,rfl,rfl,rfl⟩:=all3 hv;exact ⟨[.int .i64 x,.int .i64 y,.int .i64 z],⟨I,I,I,t9⟩,fun w'=>by kernel_rfl⟩
theorem bools_at {u:List Bool} {i:Nat} {b:Bool} (h:u.getD i false=b) (hi:i < u.length):(u.map yL)[i]? =some (yL b):=by
 rw [JJ,Je hi];rw [Jr,Je hi] at h;rw [← h];rfl
theorem bools_set {u:List Bool} {i:Nat}:(u.map yL).set i (yL true)=(u.set i true).map yL:=by rw [List.map_set]
theorem Yq {ds es:List D} (h:ds=es):LeAll ds es:=h ▸ Zk _
theorem free_at {u:List Bool} {s c k:Nat} (hf:Co.free u s c=true) (hk:k < c) (hl:s + c≤u.length):(Co.mk u s k).getD (s + k) false=false:=by
 rw [Co.mk_get _ _ _ _ o9,show decide (s≤s + k∧s + k < s + k)=false from Jd o9,Bool.or_false];simp only [Co.free,Jz] at hf;exact hf k hk
theorem slO_at {b:Int} {l:List Co.Cl} {ws:List Co.Wi} (hv:Co.VC b l) {i:Nat} {c:Co.Cl} (hc:l[i]? =some c):∃ (s:Nat) (p:Co.Sl),(Co.fst b l ws)[i]? =some s∧(s:Int) + c.cnt≤b∧(Co.slO b l ws)[i]? =some p∧p.win=c.win∧p.st=(s:Int)∧p.cnt=c.cnt:=by
 obtain ⟨s,h1,h2⟩:=Co.fst_le (ws:=ws) hv hc;exact ⟨s,_,h1,h2,Co.slO_get hc h1,I,I,I⟩
def Kd (b:Int) (l:List Co.Cl) (ws:List Co.Wi) (i:Nat):List Bool:=Co.mks (Co.cs l ws fun _=>true) (List.replicate 12 false) (Co.fst b l ws) i
theorem usd_len {b:Int} {l:List Co.Cl} {ws:List Co.Wi} {i:Nat}:(Kd b l ws i).length=12:=by unfold Kd;rw [Co.mks_len,List.length_replicate]
theorem usd_zero {b:Int} {l:List Co.Cl} {ws:List Co.Wi}:Kd b l ws 0=List.replicate 12 false:=Co.mks_zero _ _ _
theorem usd_step {b:Int} {l:List Co.Cl} {ws:List Co.Wi} (hv:Co.VC b l) {i:Nat} {c:Co.Cl} {s:Nat} (hc:l[i]? =some c) (hs:(Co.fst b l ws)[i]? =some s):s + c.cnt.toNat≤12∧Co.free (Kd b l ws i) s c.cnt.toNat=true∧Kd b l ws (i + 1)=Co.mk (Kd b l ws i) s c.cnt.toNat:=by
 have h:=Co.mks_step (Co.fst_fits12 (ws:=ws) hv) (i:=i) (c:=(c.cnt.toNat,fun s:Nat=>if (fun _=>true) i then Co.wish ws c.win (s:Int) else 0)) (by rw [Co.cs_get,hc];rfl) hs
 rw [List.length_replicate] at h;exact h
def qX (b:Int) (l:List Co.Cl) (ws:List Co.Wi) (f:Int→Bool) (n:Nat):Int:=Co.sm (fun i=>if f (Co.wnO l i) then Co.bO b l ws i else 0) n
theorem vlS_step {b:Int} {l:List Co.Cl} {ws:List Co.Wi} {f:Int→Bool} (hv:Co.VW b l ws) {i:Nat} {c:Co.Cl} {s:Nat} (hc:l[i]? =some c) (hs:(Co.fst b l ws)[i]? =some s):qX b l ws f (i + 1)=qX b l ws f i + (if f c.win then Co.wish ws c.win (s:Int) else 0):=by
 unfold qX;rw [Co.sm,Co.wnO_get hc,Co.bO,Co.wnO_get hc,Jr,hs];rfl
theorem vlS_bd {b:Int} {l:List Co.Cl} {ws:List Co.Wi} {f:Int→Bool} (hv:Co.VW b l ws) (i:Nat):0≤qX b l ws f i∧qX b l ws f i≤1099511627776 * (i:Int):=by
 induction i with
 | zero=>exact ⟨Int.le_refl _,by simp [qX,Co.sm]⟩
 | succ i ih=>
  have h:qX b l ws f (i + 1)=qX b l ws f i + (if f (Co.wnO l i) then Co.bO b l ws i else 0):=rfl
  have:=Co.wish_le hv (Co.wnO l i) (((Co.fst b l ws).getD i 0:Nat):Int);rw [h];unfold Co.bO
  split <;> omega
theorem tab_at {l:List Co.Cl} {ws:List Co.Wi} {f:Int→Bool} {i:Nat} {c:Co.Cl} (hc:l[i]? =some c):(Zs l ws f ws.length)[i]? =some fun s:Nat=>if f c.win then Co.wish ws c.win (s:Int) else 0:=by
 rw [Kx hc,Ji<|Js _]
theorem Vz (b:Int) (l:List Co.Cl) (ws:List Co.Wi) (hv:Co.VW b l ws):Con Tryz.prog 95 [iD b,lsD yJ l,lsD j9<|Co.slO b l ws] (yL true):=by
 have hsl:(Co.slO b l ws).length=l.length:=Co.slO_len;have hn6:=hv.c.n;have hb2:=hv.c.b2;have hb1:=hv.c.b1
 generalize hS:Co.slO b l ws=S at hsl ⊢
 refine yy Tryz.func95 k9 I k9 fun base w0=>(zn<|zf I<|ze<|zh<|zn<|zd I<|za I (zT (e:=180) I k9)<|zd I<|za I (zT (e:=70) I k9)<|za I (yv I I)<|ze<|zK I (by simp [hsl])<|zq<|zj<|zn (SWl.e2 (S:=[]) (Ef.alloc (zs:=List.replicate 12<|.bool false) k9 I) fun g7=>(ze<|zh<|zn<|zd I<|za I (zT (e:=180) I k9)<|zd I<|ze<|SW.block<|yd (ι:={i:Nat // i≤l.length}) (fun i=>yb [(0,iD b),(1,lsD yJ l),(7,pA g7),(16,lsD j9 S),(17,iD (S.length:Int)),(18,iD (i.1:Int))] [.c g7<|(Kd b l ws i.1).map yL]) (fun i=>l.length - i.1) (⟨0,JC _⟩) ?_ ?_)))
 ·exact ⟨⟨_,I,(sT I)⟩,[0],by decide,⟨⟨_,rfl,(Yq (by rw [usd_zero];rfl))⟩,trivial⟩⟩
 ·rintro ⟨i,hi⟩ K0 hK0;dsimp only at hi ⊢;refine zn (za I (yc I I)<|ze<|zh<|zC I (fun hb19=> ?_) (fun hb19=> ?_))
  ·have h19:(i:Int) < (S.length:Int):=oT hb19;refine zq (zj<|zh<|SW.block<|zh ?_)
   have h19:i < l.length:=by rw [hsl] at h19;omega
   obtain ⟨c,hc⟩:∃ c,l[i]? =some c:=⟨_,Je o9⟩;obtain ⟨s,p,hs1,hs2,hs3,hpw,hps,hpc⟩:=slO_at (ws:=ws) hv.c hc;rw [hS] at hs3;have hcp:=(hv.c.ok i c hc).2.2;obtain ⟨hu1,hu2,hu3⟩:=usd_step (ws:=ws) hv.c hc hs1;have hul:(Kd b l ws i).length=12:=usd_len
   refine zi (zd I<|za I (zU (e:=180) 3 I I k9 k9 o9 (by simpa using hs3))<|za I (yn 3 I k9 d9 (show 3≤3 by decide) s9) (SWl.e2 (S:=[]) (Ef.alloc (zs:=[.int .i64 0,.int .i64 0,.int .i64 0]) k9 I) fun g9=>(zf I<|zu (S:=[_]) (zA 1 I I I k9 I<|m9 I)<|ze<|zh<|zh<|yl [] (rr [0,1,2,3,4,5,6,7,8,9,10,11,12,13,14,15,16,17,18,19,20,21,22,23,24,25,26,27,28,29,30,31] .fin) k9 k9 (fun d _ _ _ _ h=>by cases d <;> exact h)<|zl I I (zg (n:=0) I k9)<|zl I I (zp 1 I I I k9 zm)<|zz I I<|zz I I<|zl I I (zU (e:=70) 2 I I k9 k9 o9 (by simpa using hc))<|zl I I (yo (n:=0) I k9 (show 0 < 2 by decide))<|zl I I (zS I I k9 s9)<|zl I I (yv I I)<|zz I I<|zy I I I (by simp [hpw]) I I (zg (n:=2) I k9)<|zy I I I (by simp [hpw]) I I (zp 1 I I I k9 zm)<|zy I I I (by simp [hpw]) I I (zH I)<|zy I I I (by simp [hpw]) I I (zH I)<|zy I I I (by simp [hpw]) I I (zU (e:=70) 2 I I k9 k9 o9 (by simpa using hc))<|zy I I I (by simp [hpw]) I I (yo (n:=1) I k9 (show 1 < 2 by decide))<|zy I I I (by simp [hpw]) I I (zS I I k9 s9)<|zy I I I (by simp [hpw]) I I (yv I I)<|zl I I (zw I (by simp [hpw]) I)<|zz I I<|zy I I I (by simp [hpc]) I I (zg (n:=1) I k9)<|zy I I I (by simp [hpc]) I I (zp 1 I I I k9 zm)<|zy I I I (by simp [hpc]) I I (yc I I)<|zl I I (zw I (by simp [hpc]) I)<|zz I I<|zy I I I (Jd o9) I I (zg (n:=1) I k9)<|zy I I I (Jd o9) I I (zp 1 I I I k9 zm)<|zy I I I (Jd o9) I I (zH I)<|zy I I I (Jd o9) I I (zg (n:=2) I k9) ?_)))
   refine zy I I I (Jd o9) I I (zp 1 I I I k9 zm) (zy I I I (Jd o9) I I (yG I I ⟨by omega,by omega⟩)<|zy I I I (Jd o9) I I (yV I I)<|zl I I (zw I (Jd o9) I)<|yE<|zK I (Jd o9)<|zq<|zj<|zn<|za I (zg (n:=1) I k9)<|za I (zp 1 I I I k9 zm)<|zf I<|ze<|SW.block<|yd (ι:={k:Nat // k≤c.cnt.toNat}) (fun k=>yb [(0,iD b),(1,lsD yJ l),(7,pA g7),(9,pA g9),(10,iD ((s + k.1:Nat):Int)),(16,lsD j9 S),(17,iD (S.length:Int)),(18,iD (i:Int))] [.c g7<|(Co.mk (Kd b l ws i) s k.1).map yL,.c g9 [iD p.win,iD p.st,iD p.cnt]]) (fun k=>c.cnt.toNat - k.1) (⟨0,JC _⟩) ?_ ?_)
   ·exact ⟨⟨_,I,⟨lq I,⟨lq I,⟨lq I,⟨lq I,⟨⟨_,I,zI (by rw [hps];simp)⟩,(sT I)⟩⟩⟩⟩⟩⟩,[0,1],by decide,(sX rfl)⟩
   ·rintro ⟨k,hk⟩ K1 hK1;dsimp only at hk ⊢;refine zh (zn<|zd I<|za I (zg (n:=1) I k9)<|za I (zp 1 I I I k9 zm)<|za I (zg (n:=2) I k9)<|za I (zp 1 I I I k9 zm)<|za I (Rd.add I I ⟨by omega,by omega⟩)<|za I (yc I I)<|ze<|zC I (fun hb63=> ?_) (fun hb63=> ?_))
    ·have h63:((s + k:Nat):Int) < p.st + p.cnt:=oT hb63;refine zq (zj<|zh<|SW.block<|zh<|zh ?_)
     have hul2:(Co.mk (Kd b l ws i) s k).length=12:=by rw [Co.mk_len];exact hul
     exact zi (zd I<|za I (Yx (e:=4) (n:=12) I I k9 k9 o9 o9)<|za I (zp 0 I I (by rw [Int.toNat_natCast];exact bools_at (free_at hu2 o9 o9) o9) k9 zm)<|ze<|zK I I<|zq<|zj<|zi<|zd I<|za I (Yx (e:=4) (n:=12) I I k9 k9 o9 o9)<|zu (S:=[_]) (ZG 0 I I I k9 (by rw [List.length_map,hul2];omega)<|m9 I)<|zF<|SN.block<|zj<|zi<|zd I<|za I (Rd.add I I ⟨by omega,by omega⟩)<|zf I<|zF (fun aK wK hh=>hK1 (⟨k + 1,by omega⟩) (by dsimp only;omega) aK wK<|hh.sub<|⟨⟨_,I,⟨lq I,⟨lq I,⟨lq I,⟨lq I,⟨⟨_,I,zI (by simp;omega)⟩,(sT I)⟩⟩⟩⟩⟩⟩,[0,1],by decide,⟨⟨_,rfl,(Yq (by dsimp only;rw [Int.toNat_natCast,bools_set];rfl))⟩,⟨la rfl,trivial⟩⟩⟩))
    ·have h63:¬((s + k:Nat):Int) < p.st + p.cnt:=oF hb63;refine zQ ?_
     repeat (first | refine zX ?_ | refine zY d9 ?_)
     exact zZ (SN.block<|zj<|zi<|za I (Rd.add I I ⟨by omega,by omega⟩)<|zd I<|zF (fun aK wK hh=>hK0 (⟨i + 1,by omega⟩) (by dsimp only;omega) aK wK<|hh.sub<|⟨⟨_,I,⟨lq I,⟨lq I,⟨lq I,⟨lq I,⟨lq I,⟨⟨_,I,zI s9⟩,t9⟩⟩⟩⟩⟩⟩⟩,[0],by decide,⟨⟨_,rfl,(Yq (by dsimp only;rw [hu3,show k=c.cnt.toNat by omega]))⟩,trivial⟩⟩))
  ·have h19:¬(i:Int) < (S.length:Int):=oF hb19;refine zQ ?_
   repeat (first | refine zX ?_ | refine zY d9 ?_)
   refine zZ (zj<|zn<|zf I<|ze<|zO (fn:=Tryz.f95) (fun _ _ h=>h)<|Rs.le (zG I<|zk I) ?_);exact zc _
theorem con_value (b:Int) (l:List Co.Cl) (ws:List Co.Wi) (W:List Int) (hw:ws.length≤1000000) (hv:Co.VW b l ws) (hW:W.length≤1000000) (hs:∀ (i:Nat) x y,W[i]? =some x→W[i + 1]? =some y→x < y) (hm:∀ (i:Nat) x,W[i]? =some x→∃ m,Co.fC l x=some m):Con Tryz.prog 94 [iD b,lsD yJ l,lsD ZM ws,lsD j9<|Co.slO b l ws,lsD z7 W] (ZH [iD<|qX b l ws (fun z=>decide (z∈W)) l.length,iD 0]):=by
 have hsl:(Co.slO b l ws).length=l.length:=Co.slO_len;have hn6:=hv.c.n;have hb2:=hv.c.b2;have hb1:=hv.c.b1
 generalize hS:Co.slO b l ws=S at hsl ⊢
 refine yy Tryz.func94 k9 I k9 fun base w0=>(zn (SWl.e2 (S:=[]) (Y6 I (fun _ _ _ h=>Zo<|One.h _ _ _ h) I) fun g9=>(zf I<|zf I<|ze<|zh<|zn<|zd I<|zd I<|zd I<|za I (zp 0 I I I k9 zm)<|zu (S:=[]) (zv (WO b l ws W o9 hw hW hs hm) I ⟨zc _,zc _,zc _,zc _,t9⟩ I)<|zf I<|zN<|zd I<|za I (yv I I)<|ze<|zK I (by rw [zaj,Jh hv];rfl)<|zq<|zj<|zh<|zn<|zd I<|zd I<|zd I<|zu (S:=[]) (zv (Vz b l ws hv) I ⟨zc _,zc _,(by rw [hS];exact zc _),t9⟩ I)<|za I (yu I)<|ze<|zK I I<|zq ?_)));refine zj (zn<|zd I<|zd I<|za I (YA [.pointer<|some ⟨g9,0,none⟩] I)<|zae 0 32 I I<|zu (S:=[]) (zv (WD b l ws (fun z=>decide (z∈W)) hv hw) I ⟨zc _,zc _,(zbn fun z _=>ze5 W z hW),t9⟩ I)<|zf I<|zN<|zf I<|ze<|zh<|zn<|zd I<|za I (zT (e:=180) I k9)<|zd I<|ze<|SW.block<|yd (ι:={i:Nat // i≤l.length}) (fun i=>yb [(13,lsD ZE<|Zs l ws (fun z=>decide (z∈W)) ws.length),(14,iD<|qX b l ws (fun z=>decide (z∈W)) i.1),(34,lsD j9 S),(35,iD (S.length:Int)),(36,iD (i.1:Int))] []) (fun i=>l.length - i.1) (⟨0,JC _⟩) ?_ ?_)
 ·exact (sB [] I I)
 ·rintro ⟨i,hi⟩ K0 hK0;dsimp only at hi ⊢;refine zn (za I (yc I I)<|ze<|zh<|zC I (fun hb37=> ?_) (fun hb37=> ?_))
  ·have h37:(i:Int) < (S.length:Int):=oT hb37;refine zq (zj<|zh<|SW.block<|zh ?_)
   have h37:i < l.length:=by rw [hsl] at h37;omega
   obtain ⟨c,hc⟩:∃ c,l[i]? =some c:=⟨_,Je o9⟩;obtain ⟨s,p,hs1,hs2,hs3,hpw,hps,hpc⟩:=slO_at (ws:=ws) hv.c hc;rw [hS] at hs3;have hcp:=(hv.c.ok i c hc).2.2;have hvb:=vlS_bd (f:=fun z=>decide (z∈W)) hv i;have hwl:=Co.wish_le hv c.win (s:Int);refine zi (zd I<|za I (zU (e:=180) 3 I I k9 k9 o9 (by simpa using hs3))<|za I (yn 3 I k9 d9 (show 3≤3 by decide) s9) (SWl.e2 (S:=[]) (Ef.alloc (zs:=[.int .i64 0,.int .i64 0,.int .i64 0]) k9 I) fun g16=>(zf I<|zu (S:=[_]) (zA 0 I I I k9 I<|m9 I)<|ze ?_)))
   obtain ⟨x,hx⟩:∃ x,x=(if (fun z=>decide (z∈W)) c.win then Co.wish ws c.win (s:Int) else 0):=⟨_,rfl⟩
   have hxb:0≤x∧x≤1099511627776:=by rw [hx];split <;> omega
   exact yl [] (rr [0,1,2,3,4,5,6,7,8,9] .fin) k9 k9 (fun d _ _ _ _ h=>by cases d <;> exact h) (zz I I<|zz I I<|zz I I<|zl I I (zg (n:=1) I k9)<|zl I I (zp 0 I I I k9 zm)<|zl I I (zU (e:=147) 12 I I k9 k9 o9 (by rw [Int.toNat_natCast];exact tab_at hc))<|zl I I (zev (e:=3) (n:=12) I I k9 k9 o9 o9 (by simp [ZE];omega))<|zl I I (zS I (zaF hps o9) k9 s9)<|zl I I (Rd.add I I ⟨by split <;> omega,by split <;> omega⟩)<|yR I I<|y9<|SN.block<|zj<|zi<|za I (Rd.add I I ⟨by omega,by omega⟩)<|zd I<|zF (fun aK wK hh=>hK0 (⟨i + 1,by omega⟩) (by dsimp only;omega) aK wK<|hh.sub<|⟨⟨_,I,⟨lq I,⟨⟨_,I,zI (by rw [vlS_step hv hc hs1])⟩,⟨lq I,⟨lq I,⟨⟨_,I,zI s9⟩,t9⟩⟩⟩⟩⟩⟩,[],by decide,trivial⟩))
  ·have h37:¬(i:Int) < (S.length:Int):=oF hb37;refine zQ ?_
   repeat (first | refine zX ?_ | refine zY d9 ?_)
   refine zZ (zj<|zn<|zd I<|zf I<|zf I<|ze<|zO (fn:=Tryz.f94) (fun _ _ h=>h)<|Rs.le (Rs.two I (zk I)<|zk I) ?_);exact Zf ⟨zI (by rw [show i=l.length by omega]),zc _,t9⟩
theorem con_best (b:Int) (l:List Co.Cl) (ws:List Co.Wi) (W:List Int) (g:Nat→Bool) (hw:ws.length≤1000000) (hv:Co.VW b l ws) (hW:W.length≤1000000) (hs:∀ (i:Nat) x y,W[i]? =some x→W[i + 1]? =some y→x < y) (hm:∀ (i:Nat) x,W[i]? =some x→∃ m,Co.fC l x=some m) (hg:∀ (i:Nat) c,l[i]? =some c→decide (c.win∈W)=g i):Con Tryz.prog 140 [iD b,lsD yJ l,lsD ZM ws,lsD z7 W] (ZH [iD (Co.srch (Co.cs l ws g)<|List.replicate b.toNat false).2.1,iD 0]):=by
 have hn6:=hv.c.n;have hb2:=hv.c.b2;have hb1:=hv.c.b1
 have hbB:(b.toNat:Int)=b:=by omega
 refine yy Tryz.func140 k9 I k9 fun base w0=>(zn (SWl.e2 (S:=[]) (Y6 I (fun _ _ _ h=>Zo<|One.h _ _ _ h) I) fun g7=>(zf I<|zf I<|ze<|zh<|zn<|zd I<|zd I<|zd I<|za I (zp 0 I I I k9 zm)<|zu (S:=[]) (zv (WO b l ws W o9 hw hW hs hm) I ⟨zc _,zc _,zc _,zc _,t9⟩ I)<|zf I<|zN<|zd I<|za I (yv I I)<|ze<|zK I (by rw [zaj,Jh hv];rfl)<|zq<|zj<|zn<|zd I<|zd I<|zd I<|zd I<|za I (YA [.pointer<|some ⟨g7,0,none⟩] I)<|zae 0 26 I I<|zu (S:=[]) (zv (WD b l ws (fun z=>decide (z∈W)) hv hw) I ⟨zc _,zc _,(zbn fun z _=>con_best1 W z hW),t9⟩ I)<|Zc (S:=[]) (yh [] (WI b l (Zs l ws (fun z=>decide (z∈W)) ws.length) o9) I ⟨zc _,zc _,zc _,t9⟩ d9 t9 (fun _ h=>h) I) ?_)));rintro _ ⟨⟨g5,g6⟩,rfl⟩;refine zf I (zN<|zd I<|Zc (yh [0,1] (WE g5 [g6] (some ⟨g6,0,none⟩) l.length (List.replicate l.length (-1:Int)) b.toNat l ws (g) (Zs l ws (fun z=>decide (z∈W)) ws.length) (by rw [hbB];exact hv) (fun i c hc=>Wf I hc (hg i c hc) 0) s9) I ⟨zc _,t9⟩ d9 ⟨⟨_,I,⟨zI (by rw [hbB]),zc _,zc _,zI s9,t9⟩⟩,⟨lR I,t9⟩⟩ (fun _ h=>h) I) ?_)
 rintro _ ⟨_,rfl⟩;refine zd I (za I (zo I I)<|za I (zo I I)<|zf I<|zf I<|zN<|zd I<|zf I<|zf I<|ze<|zO (fn:=Tryz.f140) (fun _ _ h=>h)<|Rs.le (Rs.two I (zk I)<|zk I) ?_);exact Zf ⟨zI (by rw [Co.slv_none (ws:=ws) (g:=g) (by rw [hbB];exact hv.c) rfl]),zc _,t9⟩
theorem ze8 (B:Nat) (l:List Co.Cl) (ws:List Co.Wi) (hv:Co.VW (B:Int) l ws) (hw:ws.length≤1000000):Con Tryz.prog 45 [iD (B:Int),lsD yJ l,lsD ZM ws] (ZH [lsD j9<|Co.slO (B:Int) l ws,iD<|Co.bst (B:Int) l ws,iD 0]):=by
 have hn6:=hv.c.n;have hb2:=hv.c.b2;have hb1:=hv.c.b1;have hq:=(Co.fst_fits (ws:=ws) (g:=fun _=>true) hv.c).2;refine yy Tryz.func45 k9 I k9 fun base w0=>(zn<|zf I<|zf I<|zf I<|ze<|zh<|zn<|zd I<|zd I<|zd I<|zu (S:=[]) (zv (KM (B:Int) l ws o9 hw) I ⟨zc _,zc _,zc _,t9⟩ I)<|za I (yu I)<|ze<|zK I (by simp [hv])<|zq<|zj<|zn<|zd I<|zd I<|zd I<|zd I<|zu (S:=[]) (zv (WD (B:Int) l ws (fun _=>true) hv hw) I ⟨zc _,zc _,(zc1 fun z _=>con_all39 z),t9⟩ I)<|Zc (S:=[]) (yh [] (WI (B:Int) l (Zs l ws (fun _=>true) ws.length) o9) I ⟨zc _,zc _,zc _,t9⟩ d9 t9 (fun _ h=>h) I) ?_);rintro _ ⟨⟨g5,g6⟩,rfl⟩;refine zf I (zN<|zd I<|Zc (yh [0,1] (WE g5 [g6] (some ⟨g6,0,none⟩) l.length (List.replicate l.length (-1:Int)) B l ws (fun _=>true) (Zs l ws (fun _=>true) ws.length) hv (fun i c hc=>Wf I hc I 0) s9) I ⟨zc _,t9⟩ d9 ⟨⟨_,I,⟨zc _,zc _,zc _,zc _,t9⟩⟩,⟨lR I,t9⟩⟩ (fun _ h=>h) I) ?_);rintro _ ⟨_,rfl⟩;refine zd I (za I (zo I I)<|za I (zo I I)<|zf I<|zf I<|ze<|zh<|SW.sub (σ':=yb [(0,_),(1,_),(9,_),(10,iD<|Co.bst (B:Int) l ws)] [.c g5 [iD (B:Int),lsD yJ l,lsD ZE<|Zs l ws (fun _=>true) ws.length,isD<|.slice (some ⟨g6,0,none⟩) (Co.fxB (Co.fst (B:Int) l ws) l.length 0).length l.length],.r [g6]<|yi 3 1 z7 (some ⟨g6,0,none⟩) l.length<|Co.fxB (Co.fst (B:Int) l ws) l.length 0]) (⟨⟨_,I,⟨lq I,⟨lq I,⟨lq I,⟨⟨_,I,zI (by rw [Co.slv_none (ws:=ws) hv.c rfl];rfl)⟩,t9⟩⟩⟩⟩⟩,[0,1],by decide,⟨⟨_,rfl,⟨zc _,zc _,zc _,zI (by rw [Co.fxB_len hq o9,List.length_replicate]),trivial⟩⟩,⟨⟨_,rfl,(by rw [Co.fxB_zero];exact zM _)⟩,trivial⟩⟩⟩)<|zi<|zd I<|za I (zT (e:=70) I k9) (SWl.e2 (S:=[]) (V9 (e:=180) (n:=l.length) (z:= .agg #[.int .i64 0,.int .i64 0,.int .i64 0]) j9 ⟨0,0,0⟩ 3 24 I I k9 k9 k9 d9 I I I o9 d9 I) fun g36=>(zf I<|ze<|zh<|zn<|zd I<|za I (zT (e:=70) I k9)<|zd I<|ze<|SW.block<|yd (ι:={i:Nat // i≤l.length}) (fun i=>yb [(0,iD (B:Int)),(1,lsD yJ l),(9,pA g5),(10,iD<|Co.bst (B:Int) l ws),(12,isD<|.slice (some ⟨g36,0,none⟩) (Co.slS (B:Int) l ws i.1).length l.length),(37,lsD yJ l),(38,iD (l.length:Int)),(39,iD (i.1:Int))] [.c g5 [iD (B:Int),lsD yJ l,lsD ZE<|Zs l ws (fun _=>true) ws.length,isD<|.slice (some ⟨g6,0,none⟩) (Co.fxB (Co.fst (B:Int) l ws) l.length i.1).length l.length],.r [g6]<|yi 3 1 z7 (some ⟨g6,0,none⟩) l.length<|Co.fxB (Co.fst (B:Int) l ws) l.length i.1,.r [g36]<|yi 180 3 j9 (some ⟨g36,0,none⟩) l.length<|Co.slS (B:Int) l ws i.1]) (fun i=>l.length - i.1) (⟨0,JC _⟩) ?_ ?_)))
 ·exact ⟨⟨_,I,⟨lq I,⟨lq I,⟨lq I,⟨lq I,⟨⟨_,I,zI (by rw [Co.slS_len<|JC _])⟩,(sT I)⟩⟩⟩⟩⟩⟩,[0,1,2],by decide,⟨la rfl,⟨lR rfl,⟨⟨_,rfl,(by rw [← Co.slS_zero];exact zM _)⟩,trivial⟩⟩⟩⟩
 ·rintro ⟨i,hi⟩ K0 hK0;dsimp only at hi ⊢;refine zn (za I (yc I I)<|ze<|zh<|zC I (fun hb40=> ?_) (fun hb40=> ?_))
  ·have h40:(i:Int) < (l.length:Int):=oT hb40;refine zq (zj<|zh<|SW.block<|zh ?_)
   have hi2:i < l.length:=by omega
   obtain ⟨c,hc⟩:∃ c,l[i]? =some c:=⟨_,Je o9⟩;obtain ⟨e,hs1,hs2⟩:=Co.fst_le (ws:=ws) hv.c hc
   have hed:(Co.fst (B:Int) l ws).getD i 0=e:=by rw [Jr,hs1];rfl
   have hcp:=(hv.c.ok i c hc).2.2;refine zi (zd I<|za I (zU (e:=70) 2 I I k9 k9 o9 (by simpa using hc))<|za I (yn 2 I k9 d9 (show 2≤2 by decide) s9) (SWl.e2 (S:=[]) (Ef.alloc (zs:=[.int .i64 0,.int .i64 0]) k9 I) fun g14=>(zf I<|zu (S:=[_]) (zA 3 I I I k9 I<|m9 I)<|ze<|zh<|zn<|zf I<|ze<|SW.block<|yd (ι:={s:Nat // s≤e}) (fun s=>yb [(0,iD (B:Int)),(1,lsD yJ l),(9,pA g5),(10,iD<|Co.bst (B:Int) l ws),(12,isD<|.slice (some ⟨g36,0,none⟩) (Co.slS (B:Int) l ws i).length l.length),(37,lsD yJ l),(38,iD (l.length:Int)),(39,iD (i:Int)),(13,iD (i:Int)),(14,pA g14),(15,iD (s.1:Int))] [.c g5 [iD (B:Int),lsD yJ l,lsD ZE<|Zs l ws (fun _=>true) ws.length,isD<|.slice (some ⟨g6,0,none⟩) (Co.fxS (Co.fst (B:Int) l ws) l.length i<|(s.1:Int) - 1).length l.length],.r [g6]<|yi 3 1 z7 (some ⟨g6,0,none⟩) l.length<|Co.fxS (Co.fst (B:Int) l ws) l.length i<|(s.1:Int) - 1,.r [g36]<|yi 180 3 j9 (some ⟨g36,0,none⟩) l.length<|Co.slS (B:Int) l ws i,.c g14 [iD c.win,iD c.cnt]]) (fun s=>e - s.1) (⟨0,JC _⟩) ?_ ?_)))
   ·exact ⟨⟨_,I,(sT I)⟩,[0,1,2,3],by decide,⟨⟨_,rfl,⟨zc _,zc _,zc _,zI (by rw [Co.fxB_S hi2];rfl),trivial⟩⟩,⟨⟨_,rfl,(by rw [Co.fxB_S hi2];exact zM _)⟩,(sX rfl)⟩⟩⟩
   ·rintro ⟨s,hs⟩ K1 hK1;dsimp only at hs ⊢;refine zh (zn<|zd I<|za I (zg (n:=1) I k9)<|za I (zp 3 I I I k9 zm)<|za I (Rd.add I I ⟨by omega,by omega⟩)<|zd I<|za I (Zn I I)<|ze<|yj I (decide_eq_true o9)<|zq<|zj<|zh<|SW.block<|zn<|zd I<|za I (zL I)<|za I (zg (n:=3) I k9)<|za I (zp 0 I I I k9 zm)<|zd I<|zd I<|za I (yf 1 1 I I I k9 k9 o9 (by rw [Co.fxS_len hq hi2];omega))<|zu (S:=_) (yM (v:=(s:Int)) 1 I I I I k9 (by rw [Co.fxS_len hq hi2];omega) (fun _ h=>h))<|zN<|zd I<|Zc (yh [0,3] (WE g5 [g6] (some ⟨g6,0,none⟩) l.length (Co.fxS (Co.fst (B:Int) l ws) l.length i (s:Int)) B l ws (fun _=>true) (Zs l ws (fun _=>true) ws.length) hv (fun i c hc=>Wf I hc I 0)<|Co.fxS_len hq hi2) I ⟨zc _,t9⟩ d9 ⟨⟨_,I,⟨zc _,zc _,zc _,zI (by rw [Co.fxS_len hq hi2,Co.fxS_len hq hi2]),t9⟩⟩,⟨⟨_,I,(by rw [Int.toNat_natCast,Co.fxS_set hq hi2];exact zM _)⟩,t9⟩⟩ (fun _ h=>h) I) ?_);rintro _ ⟨_,rfl⟩;refine zd I (za I (zo I I)<|za I (zo I I)<|zf I<|zf I<|ze<|zh ?_)
    have hst:=Co.slv_step (ws:=ws) hv.c hi2 (s:=s) (by rw [hed];exact hs);rw [hed] at hst;have hp0:=Co.slv_pos (ws:=ws) (l:=l) (B:=B) hv.c (g:=fun _=>true) (fun j=>(Co.fxS (Co.fst (B:Int) l ws) l.length i (s:Int)).getD j<|-1)
    generalize Co.slv (Co.cs l ws fun _=>true) B (fun j=>(Co.fxS (Co.fst (B:Int) l ws) l.length i (s:Int)).getD j<|-1)=R at hst hp0 ⊢
    refine zi (zd I<|za I (yV I I)<|zd I<|z1 66 I (fun hb66=> ?_) (fun hb66=> ?_))
    ·have h66:R.2 > 0:=oT hb66;refine zJ hb66 (zH I) (zJ hb66 (zH I)<|zJ hb66 (Zr I I)<|za I (zE I hb66 I)<|ze<|zC I (fun hb70=> ?_) (fun hb70=> ?_))
     ·have h70:R.1=Co.bst (B:Int) l ws:=oT hb70;have hse:s=e:=hst.1 ⟨by omega,h70⟩;refine zQ ?_
      repeat (first | refine zX ?_ | refine zY d9 ?_)
      exact zZ (zj<|yl ([g36] ++ []) (rr [0,1,2,3,4,5,6,7,8,9,10,11,12,13,14]<|.e 15 .fin .no) k9 k9 (fun d _ _ _ _ h=>by cases d <;> exact h)<|zz I I<|zz I I<|zl I I (zg (n:=0) I k9)<|zl I I (zp 1 I I I k9<|Zl 0 I d9 zm)<|zz I I<|zl I I (zL I)<|zl I I (zg (n:=3) I k9)<|zl I I (zp 2 I I I k9<|Zl 0 I d9 zm)<|zz I I<|zl I I (yf 3 1 I I I k9 k9 o9 (by rw [Co.fxS_len hq hi2];omega))<|zl I I (yr 3 I I k9 (Co.fxS_at hq hi2) I<|Zl 0 I d9 zm)<|zl I I (zg (n:=1) I k9)<|zl I I (zp 1 I I I k9<|Zl 0 I d9 zm)<|zl I I (yF I I bldSl)<|zl I I (yf 0 3 I I I k9 k9 o9 (by rw [Co.slS_len o9];omega))<|Zm I (KY (v:=⟨c.win,(s:Int),c.cnt⟩) 0 3 I I I k9 (by rw [Co.slS_len o9];omega) (fun _ h=>mL _ h))<|y9<|SN.block<|zj<|zi<|za I (Rd.add I I ⟨by omega,by omega⟩)<|zd I<|zF (fun aK wK hh=>hK0 (⟨i + 1,by omega⟩) (by dsimp only;omega) aK wK<|hh.sub<|⟨⟨_,I,⟨lq I,⟨lq I,⟨lq I,⟨lq I,⟨⟨_,I,zI (by dsimp only;rw [Co.slS_len o9,Co.slS_len o9])⟩,⟨lq I,⟨lq I,⟨⟨_,I,zI s9⟩,t9⟩⟩⟩⟩⟩⟩⟩⟩⟩,[1,2,3],by decide,⟨⟨_,rfl,⟨zc _,zc _,zc _,zI (by dsimp only;rw [hse,Co.fxS_B hs1]),trivial⟩⟩,⟨⟨_,rfl,(by dsimp only;rw [hse,Co.fxS_B hs1];exact zM _)⟩,⟨⟨_,rfl,(by dsimp only;rw [hse,Int.toNat_natCast,Co.slS_set<|Co.slO_get hc hs1];exact zM _)⟩,trivial⟩⟩⟩⟩))
     ·have h70:¬R.1=Co.bst (B:Int) l ws:=oF hb70;have hne:s≠e:=fun h=>h70 (hst.2 h).2;exact zq (SN.block<|zj<|zi<|zd I<|za I (Rd.add I I ⟨by omega,by omega⟩)<|zf I<|zF (fun aK wK hh=>hK1 (⟨s + 1,by omega⟩) (by dsimp only;omega) aK wK<|hh.sub<|⟨⟨_,I,⟨lq I,⟨lq I,⟨lq I,⟨lq I,⟨lq I,⟨lq I,⟨lq I,⟨lq I,⟨lq I,⟨lq I,⟨⟨_,I,zI s9⟩,t9⟩⟩⟩⟩⟩⟩⟩⟩⟩⟩⟩⟩,[2,3,0,1],by decide,⟨⟨_,rfl,⟨zc _,zc _,zc _,zI (by dsimp only;rw [Co.fxS_len hq hi2,Co.fxS_len hq hi2]),trivial⟩⟩,⟨⟨_,rfl,(by dsimp only;rw [show ((s + 1:Nat):Int) - 1=(s:Int) by omega];exact zM _)⟩,(sX rfl)⟩⟩⟩))
    ·have h66:¬R.2 > 0:=oF hb66;have hne:s≠e:=fun h=>(hst.2 h).1 o9;exact zt hb66 (zt hb66<|zt hb66<|za I (zw I hb66 I)<|ze<|zK I I<|zq<|SN.block<|zj<|zi<|zd I<|za I (Rd.add I I ⟨by omega,by omega⟩)<|zf I<|zF (fun aK wK hh=>hK1 (⟨s + 1,by omega⟩) (by dsimp only;omega) aK wK<|hh.sub<|⟨⟨_,I,⟨lq I,⟨lq I,⟨lq I,⟨lq I,⟨lq I,⟨lq I,⟨lq I,⟨lq I,⟨lq I,⟨lq I,⟨⟨_,I,zI s9⟩,t9⟩⟩⟩⟩⟩⟩⟩⟩⟩⟩⟩⟩,[2,3,0,1],by decide,⟨⟨_,rfl,⟨zc _,zc _,zc _,zI (by dsimp only;rw [Co.fxS_len hq hi2,Co.fxS_len hq hi2]),trivial⟩⟩,⟨⟨_,rfl,(by dsimp only;rw [show ((s + 1:Nat):Int) - 1=(s:Int) by omega];exact zM _)⟩,(sX rfl)⟩⟩⟩))
  ·have h40:¬(i:Int) < (l.length:Int):=oF hb40;refine zQ ?_
   repeat (first | refine zX ?_ | refine zY d9 ?_)
   refine zZ (zj<|zn<|zd I<|zd I<|zf I<|zf I<|zf I<|ze<|SW.freezeT 2 6 I I (by rw [show i=l.length by omega,Co.slS_all];exact zc _)<|zO (fn:=Tryz.f45) (fun _ _ h=>h)<|Rs.le (j6 I (zk I) (zk I)<|zk I) ?_);exact zc _
end Sx
end Go.Proofs.YtfoafihodanmhaaGreatDoor
namespace Go.Proofs.YtfoafihodanmhaaGreatDoor
namespace Co
def mem (n:Nat) (f:Int→Bool):LN:=(List.range n).filter fun i=>f (i:Int)
theorem mem_yes {n:Nat} {f:Int→Bool} (h:f (n:Int)=true):mem (n + 1) f=mem n f ++ [n]:=by
 unfold mem;rw [List.range_succ,List.filter_append,List.filter_cons_of_pos (by exact h),List.filter_nil]
theorem mem_no {n:Nat} {f:Int→Bool} (h:f (n:Int)=false):mem (n + 1) f=mem n f:=by
 unfold mem;rw [List.range_succ,List.filter_append,List.filter_cons_of_neg (by rw [h];decide),List.filter_nil,JS]
theorem mem_pre {i:Nat} {f:Int→Bool}:∀ {n:Nat},i≤n→∃ r,mem n f=mem i f ++ r
 | 0,h=>⟨[],by rw [show i=0 by omega];rfl⟩
 | n + 1,h=>by
  by_cases e:i=n + 1
  ·subst e;exact ⟨[],by simp⟩
  ·obtain ⟨r,hr⟩:=mem_pre (i:=i) (f:=f) (n:=n) o9
   cases hf:f (n:Int)
   ·exact ⟨r,by rw [mem_no hf,hr]⟩
   ·exact ⟨r ++ [n],by rw [mem_yes hf,hr,Jq]⟩
theorem mem_get {n i:Nat} {f:Int→Bool} (hi:i < n) (h:f (i:Int)=true):(mem n f)[(mem i f).length]? =some i:=by
 obtain ⟨r,hr⟩:=mem_pre (f:=f) (show i + 1≤n by omega);rw [hr,mem_yes h,Jq,JR<|Js _,Nat.sub_self];rfl
theorem mem_of {n i k:Nat} {f:Int→Bool} (h:(mem n f)[k]? =some i):i < n∧f (i:Int)=true:=by
 have:=Jc h;unfold mem at this;rw [Jw,List.mem_range] at this;exact this
theorem mem_len {n:Nat} {f:Int→Bool}:(mem n f).length≤n:=by
 have:=List.length_filter_le (fun i:Nat=>f (i:Int)) (List.range n);rwa [List.length_range] at this
def mS (p:Nat→Int):LN→Int
 | []=>0
 | i :: l=>p i + mS p l
theorem mS_app {p:Nat→Int}:∀ {a b:LN},mS p (a ++ b)=mS p a + mS p b
 | [],_=>by simp [mS]
 | _ :: _,_=>by rw [List.cons_append,mS,mS_app,mS];omega
theorem mS_take {p:Nat→Int} {l:LN} {k i:Nat} (h:l[k]? =some i):mS p (l.take<|k + 1)=mS p (l.take k) + p i:=by
 rw [List.take_add_one,h,mS_app];simp [mS]
theorem mS_mem {p:Nat→Int} {f:Int→Bool}:∀ {n:Nat},mS p (mem n f)=sm (fun i=>if f (i:Int)=true then p i else 0) n
 | 0=>rfl
 | n + 1=>by
  rw [sm]
  cases hf:f (n:Int)
  ·rw [mem_no hf,mS_mem];simp
  ·rw [mem_yes hf,mS_app,mS_mem];simp [mS]
theorem mS_bd {p:Nat→Int} {M:Int}:∀ {l:LN},(∀ i∈l,-M≤p i∧p i≤M)→ -((l.length:Int) * M)≤mS p l∧mS p l≤(l.length:Int) * M
 | [],_=>by simp [mS]
 | i :: l,h=>by
  have h1:=mS_bd (l:=l) fun j hj=>h j (Jl _ hj);have h2:=h i (mC ..);rw [mS,Xm,Int.natCast_add,Int.add_mul];simp only [Int.natCast_one,Int.one_mul];omega
def fB (c:Nat) (z:Int):Bool:=bt c z.toNat
def fL (c:Nat) (z:Int):Bool:= !bt c z.toNat
theorem fB_n (c i:Nat):fB c (i:Int)=bt c i:=rfl
theorem fL_n (c i:Nat):fL c (i:Int)= !bt c i:=rfl
theorem mS_ic {c n:Nat} {p:Nat→Int}:mS p (mem n<|fB c)=ic c p n:=mS_mem
theorem mS_oc {c n:Nat} {p:Nat→Int}:mS p (mem n<|fL c)=oc c p n:=by
 rw [mS_mem]
 exact sm_congr fun i _=>by rw [fL_n];cases bt c i <;> rfl
def wnr (l:List Cl) (c:Nat):List Int:=(mem l.length<|fB c).map (wnO l)
section
variable {b:Int}{l:List Cl}{ws:List Wi}{c:Nat}
theorem zeR {f:Int→Bool} (n:Nat):(mem n f).Pairwise (· < ·):=List.Pairwise.filter _ List.pairwise_lt_range
theorem wnr_sorted (hv:VC b l) (i:Nat) (x y:Int) (hx:(wnr l c)[i]? =some x) (hy:(wnr l c)[i + 1]? =some y):x < y:=by
 unfold wnr at hx hy;rw [JJ] at hx hy;obtain ⟨p,hp,rfl⟩:=Jy.1 hx;obtain ⟨q,hq,rfl⟩:=Jy.1 hy
 have hpq:p < q:=by
  obtain ⟨h1,rfl⟩:=Jg.1 hp;obtain ⟨h2,rfl⟩:=Jg.1 hq;exact List.pairwise_iff_getElem.1 (zeR (f:=fB c) l.length) _ _ h1 h2 o9
 have h1:=(mem_of hp).1;have h2:=(mem_of hq).1;rw [wnO_get<|Je h1,wnO_get<|Je h2];exact hv.lt hpq (Je h1) (Je h2)
theorem wnr_mem (hv:VC b l) (i:Nat) (x:Int) (hx:(wnr l c)[i]? =some x):∃ m,fC l x=some m:=by
 unfold wnr at hx;rw [JJ] at hx;obtain ⟨p,hp,rfl⟩:=Jy.1 hx;have h1:=(mem_of hp).1;rw [wnO_get<|Je h1];exact ⟨p,fC_some hv<|Je h1⟩
theorem wnr_bt (hv:VC b l) (i:Nat) (x:Cl) (hx:l[i]? =some x):decide (x.win∈wnr l c)=bt c i:=by
 have hi:=(Jg.1 hx).1
 cases hb:bt c i
 ·refine Jd fun h=> ?_;obtain ⟨p,hp,e⟩:=JI.1 h;obtain ⟨k,hk⟩:=List.getElem?_of_mem hp;obtain ⟨h1,h2⟩:=mem_of hk;rw [wnO_get<|Je h1] at e;have:=hv.inj (Je h1) hx e;subst this;rw [fB_n,hb] at h2;cases h2
 ·refine Jo (JI.2 ⟨i,Jc<|mem_get (f:=fB c) hi (by rw [fB_n];exact hb),?_⟩);rw [wnO_get hx]
theorem wnr_len:(wnr l c).length≤l.length:=by unfold wnr;rw [JO];exact mem_len
theorem wnr_take {k i:Nat} {x:Cl} (h:(mem l.length<|fB c)[k]? =some i) (hx:l[i]? =some x):((mem l.length<|fB c).take<|k + 1).map (wnO l)=((mem l.length<|fB c).take k).map (wnO l) ++ [x.win]:=by
 rw [List.take_add_one,h,XG];simp [wnO_get hx]
end
end Co
end Go.Proofs.YtfoafihodanmhaaGreatDoor
namespace Go.Proofs.YtfoafihodanmhaaGreatDoor
open Go.RowKit
namespace Sx
section
section
variable {P:Program}{Γ:Cx}{σ σ':St}{Q:Exit→Act→World→Prop}{ops:Array Oper}{op:Op}{dst:Option Tmp}{ty:TypeId}{pos:String}{af:Array Edge}{rest:List Oper}{k:Nat}{d:D}{S:List Nat}
theorem zdx {j t:Nat} {b c:Bool} (hj:(ops[j]?).bind (·.dst)=some t) (ht:σ.tm t=some (isD<|.bool c)) (hc:c=b) (hn:yp Γ.nt t=true)
  (hd:yp Γ.nt k=true) (h:Rd P Γ [] ⟨some k,op,ty,pos,af,some (j,b)⟩ σ d) (hk:SWk P Γ ops Q rest (σ.put k d)):SWk P Γ ops Q (⟨some k,op,ty,pos,af,some (j,b)⟩ :: rest) σ:=fun a w hh=>by
 obtain ⟨v,h1,h2⟩:=h a w hh;unfold qj;rw [Yh (ops:=ops) hh rfl hj ht hn,Jh (by simp [hc])];refine Wp ?_;unfold Oper.wp;rw [h2 w<|Only.refl _ _];exact hk _ _ (hh.put (by simpa [yp] using hd) h1)
theorem SWk.off {j t:Nat} {b c:Bool} (hj:(ops[j]?).bind (·.dst)=some t) (ht:σ.tm t=some (isD<|.bool c)) (hc:c= !b) (hn:yp Γ.nt t=true)
  (hd:yp Γ.nt k=true) (hk:SWk P Γ ops Q rest (σ.put k<|isD undef)):SWk P Γ ops Q (⟨some k,op,ty,pos,af,some (j,b)⟩ :: rest) σ:=fun a w hh=>by
 unfold qj
 rw [Yh (ops:=ops) hh rfl hj ht hn,Jb (by subst hc;cases b <;> simp)]
 exact hk _ _ (hh.put (by simpa [yp] using hd) I)
theorem SWk.split (t:Nat) {c:Bool} (_ht:σ.tm t=some (isD<|.bool c)) (h1:c=true→SWk P Γ ops Q rest σ) (h2:c=false→SWk P Γ ops Q rest σ):SWk P Γ ops Q rest σ:=by
 cases h:c
 ·exact h2 h
 ·exact h1 h
theorem zfB {j0 t0:Nat} {b0 c0:Bool} {x:Operand} {y:Nat} {args:Array Operand} {aT:Array TypeId} {pre:List Box} {ad es:List D} {ι:Type} {post:ι→List Box} {b:ι→Bool} (hj:(ops[j0]?).bind (·.dst)=some t0) (ht:σ.tm t0=some (isD<|.bool c0)) (hc:c0=b0) (hn0:yp Γ.nt t0=true) (js:LN) (hcon:ConY P y pre ad post b) (hx:σ.ev x=some (isD<|.func (.yield y) #[] #[])) (he:σ.evs args.toList=some es) (hl:LeAll es ad) (hjs:js.Nodup) (hs:SubBx σ.bx js pre) (hk:yp Γ.nt k=true)
  (hn:∀ i,SWk P Γ ops Q rest<|(σ.give js<|post i).put k<|isD<|.bool<|b i):SWk P Γ ops Q (⟨some k,.call { callee:= .value x,args:=args,argTypes:=aT },ty,pos,af,some (j0,b0)⟩ :: rest) σ:=fun a w hh=>by
 have h:=SWk.yield (ops:=ops) (aT:=aT) (ty:=ty) (pos:=pos) (af:=af) (rest:=rest) js hcon hx he hl hjs hs hk hn a w hh;unfold qj at h ⊢;rw [Jh (show Region.wanted _ _=true from rfl)] at h;rw [Yh (ops:=ops) hh rfl hj ht hn0,Jh (by simp [hc])];exact h
end
end
section
theorem shrc:∀ c < 64,∀ i < 6,((c:Nat):Int) / 2 ^ (min i IntKind.i64.bits)=((c / 2 ^ i:Nat):Int):=by decide +kernel
theorem andc:∀ c < 64,∀ i < 6,bits .and .i64 ((c / 2 ^ i:Nat):Int) 1=((c / 2 ^ i % 2:Nat):Int):=by decide +kernel
theorem hasc:∀ c < 64,∀ i < 6,decide (((c / 2 ^ i % 2:Nat):Int)=1)=Co.bt c i:=by decide +kernel
def jN (z:Int):Prop:=0≤z∧z < 6
def ibM (_:Nat) (_:Unit):List Box:=[]
def ddM (x:Nat) (_:Unit):List D:=[iD (x:Int)]
theorem getD_some {xs:List Int} {x:Nat} (h:x < xs.length):xs[x]? =some (xs.getD x 0):=by rw [Jr,Je h];rfl
theorem zdg (c i:Nat) (hc:c < 64) (hi:i < 6):Con Tryz.prog 101 [iD (c:Int),iD (i:Int)] (yL<|Co.bt c i):=by
 refine yy Tryz.func101 k9 I k9 fun base w0=>(zn<|zf I<|zN<|zd I<|zd I<|za I (jJ (s:=i) I I<|shrc c hc i hi)<|za I (Rd.andW I I<|andc c hc i hi)<|za I (Zr I I)<|zf I<|ze<|zO (fn:=Tryz.f101) (fun _ _ h=>h)<|Rs.le (zG I<|zk I) ?_);exact Zg (hasc c hc i hi)
theorem zcj (c i:Nat) (hc:c < 64) (hi:i < 6):Con Tryz.prog 99 [iD (c:Int),iD (i:Int)] (yL<|!Co.bt c i):=by
 refine yy Tryz.func99 k9 I k9 fun base w0=>(zn<|zf I<|zN<|zd I<|zd I<|zu (S:=[]) (zv (zdg c i hc hi) I ⟨zc _,zc _,t9⟩ I)<|za I (yu I)<|zf I<|ze<|zO (fn:=Tryz.f99) (fun _ _ h=>h)<|Rs.le (zG I<|zk I) ?_);exact zc _
theorem zd1 {c:Nat} (hc:c < 64):Le (isD<|.func (.func 101) [Value.int .i64 (c:Int)].toArray #[]) (prD Tryz.prog jN<|Co.fB c):=zd0 [.int .i64 (c:Int)] fun z hz=>by
 obtain ⟨n,rfl⟩:=Int.eq_ofNat_of_zero_le hz.1;exact zdg c n hc (by have:=hz.2;omega)
theorem zbp {c:Nat} (hc:c < 64):Le (isD<|.func (.func 99) [Value.int .i64 (c:Int)].toArray #[]) (prD Tryz.prog jN<|Co.fL c):=zd0 [.int .i64 (c:Int)] fun z hz=>by
 obtain ⟨n,rfl⟩:=Int.eq_ofNat_of_zero_le hz.1;exact zcj c n hc (by have:=hz.2;omega)
theorem zan (n:Nat) (f:Int→Bool) (hn:n≤6) (J Jx:Nat→Res) (y:Nat) (hy:∀ (i:Nat) (x:Nat) (k:Unit) (F:LN),(Co.mem n f)[i]? =some x→ConY Tryz.prog y (.r F (J i) :: ibM x k) (ddM x k) (fun t:LN × Bool=>[.r t.1 (if t.2=true then J (i + 1) else Jx<|i + 1)]) (fun t=>t.2)) (F:LN):ConR Tryz.prog 135 [.r F<|J 0] [isD<|.func (.yield y) #[] #[],paD [iD (n:Int)],paD [prD Tryz.prog jN f]] (fun t:LN × Option Nat=>[.r t.1 (match t.2 with | none=>J (Co.mem n f).length | some i=>Jx<|i + 1)]) (fun t:LN × Option Nat=>isD<|.tuple #[]):=by
 refine yt Tryz.func135 k9 I k9 fun base w0=>(zn<|za I (zS I I k9 s9)<|zd I<|ze<|SW.block<|yd (ι:={p:Nat × LN // p.1≤n}) (fun p=>yb [(0,isD<|.func (.yield y) #[] #[]),(2,paD [prD Tryz.prog jN f]),(5,iD (n:Int)),(6,iD (p.1.1:Int))] [.r p.1.2<|J (Co.mem p.1.1 f).length]) (fun p=>n - p.1.1) (⟨(0,F),JC _⟩) ?_ ?_)
 ·exact (sB [0] I I)
 ·rintro ⟨⟨i,G⟩,hi⟩ K0 hK0;dsimp only at hi ⊢;refine zn (za I (yc I I)<|ze<|zh<|zC I (fun hb7=> ?_) (fun hb7=> ?_))
  ·have h7:(i:Int) < (n:Int):=oT hb7;refine zq (zj<|zh<|SW.block<|zn<|zd I<|zf I<|ze<|zh<|zfC<|SWk.rd I (zS I I k9 s9)<|SWk.rd I (zH I)<|SWk.ef (S:=[]) (zbJ I I (show jN _ from ⟨by omega,by omega⟩) I) ?_);rintro _ rfl;refine SWk.rd I (zH I) (SWk.split 12 I (fun hb12=> ?_) (fun hb12=> ?_))
   ·skip
    refine zdx I I hb12 I I (zH I) (zdx I I hb12 I I (zH I)<|zfB I I hb12 I [0] (hy (Co.mem i f).length i () G<|Co.mem_get o9 hb12) I I ⟨zc _,t9⟩ d9 ⟨lR I,t9⟩ I ?_);rintro ⟨G2,b⟩;refine zdx I I hb12 I I (yu I) (SWk.rd I (zE I hb12 I)<|SWk.nil<|zj<|zC I (fun hb17=> ?_) (fun hb17=> ?_))
    ·obtain rfl:b=false:=by simpa using hb17
     refine zV (fn:=Tryz.f135) (((G2,some (Co.mem i f).length):LN × Option Nat)) [0] (fun _ _ h=>h) (Rs.none I) d9 ⟨lR I,t9⟩
    ·obtain rfl:b=true:=by simpa using hb17
     exact zq (SN.block<|zj<|zi<|za I (Rd.add I I ⟨by omega,by omega⟩)<|zd I<|zF (fun aK wK hh=>hK0 (⟨(i + 1,G2),by simp only;omega⟩) (by simp only;omega) aK wK<|hh.sub<|⟨⟨_,I,⟨lq I,⟨lq I,⟨lq I,⟨⟨_,I,zI s9⟩,t9⟩⟩⟩⟩⟩,[0],by decide,⟨⟨_,rfl,(by dsimp only;rw [Co.mem_yes hb12,List.length_append,List.length_singleton];exact zM _)⟩,trivial⟩⟩))
   ·skip
    exact SWk.off I I hb12 I I (SWk.off I I hb12 I I<|SWk.off I I hb12 I I<|SWk.off I I hb12 I I<|SWk.rd I (zw I hb12 I)<|SWk.nil<|zj<|zK I I<|zq<|SN.block<|zj<|zi<|za I (Rd.add I I ⟨by omega,by omega⟩)<|zd I<|zF (fun aK wK hh=>hK0 (⟨(i + 1,G),by simp only;omega⟩) (by simp only;omega) aK wK<|hh.sub<|⟨⟨_,I,⟨lq I,⟨lq I,⟨lq I,⟨⟨_,I,zI s9⟩,t9⟩⟩⟩⟩⟩,[0],by decide,⟨⟨_,rfl,(by dsimp only;rw [Co.mem_no hb12];exact zM _)⟩,trivial⟩⟩))
  ·have h7:¬(i:Int) < (n:Int):=oF hb7;refine zQ ?_
   repeat (first | refine zX ?_ | refine zY d9 ?_)
   refine zZ ?_;refine Ko (fn:=Tryz.f135) (((G,none):LN × Option Nat)) [0] (Rs.none I) d9 ⟨⟨_,I,(by rw [show i=n by omega];exact zM _)⟩,t9⟩
theorem ZP (n:Nat) (f:Int→Bool) (hn:n≤6):Seq Tryz.prog 135 [paD [iD (n:Int)],paD [prD Tryz.prog jN f]] ibM ddM (Co.mem n f):=fun J Jx y hy F=>zan n f hn J Jx y hy F
theorem qg:Y1 Tryz.prog 135:=enters_of Tryz.func135 k9 rfl
theorem Yj (n:Nat) (f:Int→Bool):Con Tryz.prog 98 [iD (n:Int),prD Tryz.prog jN f] (fnD 135 [paD [iD (n:Int)],paD [prD Tryz.prog jN<|f]]):=by
 refine yy Tryz.func98 k9 I k9 fun base w0=>(zn (SWl.e2 (S:=[]) (Y6 I (fun _ _ _ h=>Zo<|One.h _ _ _ h) I) fun g2=>(SWl.e2 (S:=[]) (Y6 I (fun _ _ _ h=>Zo<|One.h _ _ _ h) I) fun g3=>(zf I<|zN<|za I (YA [.pointer<|some ⟨g2,0,none⟩,.pointer<|some ⟨g3,0,none⟩] I)<|zf I<|ze<|SW.freezeF2 0 1 4 I I I I<|zO (fn:=Tryz.f98) (fun _ _ h=>h)<|Rs.le (zG I<|zk I) ?_))));exact zc _
theorem con_sum (xs:List Int) (n:Nat) (f:Int→Bool) (hn:n≤6) (hxl:xs.length=n) (hb:∀ i < n,-4398046511104≤xs.getD i 0∧xs.getD i 0≤4398046511104):Con Tryz.prog 105 [lsD z7 xs,fnD 135 [paD [iD (n:Int)],paD [prD Tryz.prog jN<|f]]] (iD<|Co.mS (fun i=>xs.getD i 0)<|Co.mem n f):=by
 refine WH Tryz.func105 k9 I k9 fun base w0=>(zn (SWl.e2 (S:=[]) (Y6 I (fun _ _ _ h=>Zo<|One.h _ _ _ h) I) fun g2=>(zf I<|zN (SWl.e2 (S:=[]) (Ef.alloc (zs:=[.int .i64 0]) k9 I) fun g5=>(zu (S:=[_]) (yW 1 I I I k9 I<|m9 I)<|ze<|zh<|zn<|zd I<|ze<|SW.block<|SW.sub (σ':=yb [(7,_),(5,_),(2,_)] [.c g2 [lsD z7 xs],.c g5 [iD<|Co.mS (fun i=>xs.getD i 0)<|(Co.mem n f).take 0]]) (⟨⟨_,I,(sT I)⟩,[0,1],by decide,⟨la rfl,⟨⟨_,rfl,⟨zI (by simp [Co.mS]),trivial⟩⟩,trivial⟩⟩⟩)<|qV (gf:=135) (ps:=[8]) (ib:=ibM) (dd:=ddM) (items:=(Co.mem n f)) (fun i bx=>bx=[.c g2 [lsD z7 xs],.c g5 [iD<|Co.mS (fun i=>xs.getD i 0)<|(Co.mem n f).take i]]) (fun o i bx=>match o with | none=>False | some n=>False) (fun i x k σ=>σ=yb [(5,pA g5),(2,pA g2),(6,iD (x:Int))] [.c g2 [lsD z7 xs],.c g5 [iD<|Co.mS (fun i=>xs.getD i 0)<|(Co.mem n f).take i]]) qg (ZP n f hn) I (I) k9 (fun _ _=>I) ?_ ?_ ?_ ?_ ?_)))))
 ·rintro i x k hx bx rfl y base w0;exact YE k9 (fun _ _ h=>h) (zf I<|zF<|jt (σ':=yb [(5,pA g5),(2,pA g2),(6,iD (x:Int))] [.c g2 [lsD z7 xs],.c g5 [iD<|Co.mS (fun i=>xs.getD i 0)<|(Co.mem n f).take i]]) I<|sB [0,1] I I)
 ·rintro i x k hx _ rfl y base w0;have hxn:=(Co.mem_of hx).1;have hxv:=hb x hxn;have hbd:=Co.mS_bd (p:=(fun i=>xs.getD i 0)) (M:=4398046511104) (l:=(Co.mem n f).take i) (fun j hj=>hb j (by obtain ⟨k2,hk2⟩:=List.getElem?_of_mem (List.mem_of_mem_take hj);exact (Co.mem_of hk2).1))
  have hlt:((Co.mem n f).take i).length≤6:=by have h1:=Co.mem_len (n:=n) (f:=f);have h2:=List.length_take_le i (Co.mem n f);rw [JE] at h2 ⊢;omega
  exact qU (j5 (g5 :: []) (.q 0<|.r 1<|.r 2<|.r 3<|.q 4<|.r 5<|.e 6 .fin .no) k9 (fun _ _ h=>h) k9 k9 (fun d _ _ _ _ h=>by cases d <;> exact h)<|ZX I I (zp 1 I I I k9 zm)<|zl I I (zp 0 I I I k9<|ZR 1 I d9 zm)<|zz I I<|zl I I (zU (e:=3) 1 I I k9 k9 o9 (by rw [J7];exact getD_some o9))<|ZX I I (zS I I k9 s9)<|zl I I (Rd.add I I ⟨by omega,by omega⟩)<|Zm I (yW 1 I I I k9 I mC)<|y9<|SN.block<|jt (σ':=yb [] [.c g2 [lsD z7 xs],.c g5 [iD<|Co.mS (fun i=>xs.getD i 0)<|(Co.mem n f).take<|i + 1]]) I<|⟨⟨_,I,t9⟩,[0,1],by decide,⟨la rfl,⟨⟨_,rfl,⟨zI (by rw [Co.mS_take hx]),trivial⟩⟩,trivial⟩⟩⟩)
 ·rintro dk0 bx rfl;exact SN.block (zj<|zn<|za I (zp 1 I I I k9 zm)<|zf I<|ze<|jp (fn:=Tryz.f105) (fun _ _ h=>h)<|Kr 2 I<|RM.fin<|Rs.le (zG I<|zk I)<|zI (by rw [Ji<|Js _]))
 ·rintro _ _ _ _ hX;exact hX.elim
 ·rintro _ _ _ hX;exact hX.elim
