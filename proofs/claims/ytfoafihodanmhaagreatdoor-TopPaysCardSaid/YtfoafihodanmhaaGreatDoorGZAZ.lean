/- CORE: Blocking. CORE: slices.Sort at []int out of the shelf's contracts. REACH, in zal Lean: what its loop keeps. CORE: reach, threshold. WALKING CO -/
import Derived.Test.YtfoafihodanmhaaGreatDoorGZAY
import Derived.Shelf.SortM.Plain
import Derived.Shelf.SortM.SortNone
set_option maxHeartbeats 8000000
set_option maxRecDepth 100000
namespace Go.Proofs.YtfoafihodanmhaaGreatDoor
open Go.RowKit
namespace Sx
theorem lsD_eq {α β:Type} {e:α→List D} {f:β→List D}:∀ {l:List α} {m:List β},l.length=m.length→(∀ (i:Nat) x y,l[i]? =some x→m[i]? =some y→e x=f y)→l.flatMap e=m.flatMap f
 | [],[],_,_=>rfl
 | x :: l,[],h,_=>by simp at h
 | [],y :: m,h,_=>by simp at h
 | x :: l,y :: m,h,he=>by
  rw [J6,J6,he 0 x y rfl rfl,lsD_eq (l:=l) (m:=m) (by simpa using h) fun i a b ha hb=>he (i + 1) a b ha hb]
theorem le_lsD {α β:Type} {e:α→List D} {f:β→List D} {l:List α} {m:List β} (hl:l.length=m.length) (h:∀ (i:Nat) x y,l[i]? =some x→m[i]? =some y→e x=f y):Le (lsD e l) (lsD f m):=by
 have h1:=lsD_eq hl h;show Le (lsD e l) (lsD f m);unfold lsD;rw [h1,hl];exact zc _
structure PayK (rs:List Rw) (bd:Nat→Int) (n:Nat) (K:Int) (X:Nat→Int):Prop where
 pos:0 < K
 k:Sm 61 K
 kb:K≤1000000000000000000
 x:∀ i < n,0≤X i∧X i≤1099511627776000000000000000000
 le:Le (lsD qk rs) (lsD (jY K)<|zB X n)
def zfI (V bd:Nat→Int) (n:Nat) (K:Int) (X:Nat→Int):Option Nat:=(List.range<|2 ^ n).find? fun c=>decide (Co.oc c X n < Co.need V bd n c * K)
theorem blkQ_some {V bd:Nat→Int} {n:Nat} {K:Int} {X:Nat→Int} {c:Nat} (hc:c < 2 ^ n) (h:Co.oc c X n < Co.need V bd n c * K) (hp:∀ j < c,¬Co.oc j X n < Co.need V bd n j * K):zfI V bd n K X=some c:=by
 unfold zfI;rw [List.find?_range_eq_some];refine ⟨Jo h,List.mem_range.2 hc,fun j hj=>by simpa using hp j hj⟩
theorem zct {V bd:Nat→Int} {n:Nat} {K:Int} {X:Nat→Int} (hp:∀ j < 2 ^ n,¬Co.oc j X n < Co.need V bd n j * K):zfI V bd n K X=none:=by
 unfold zfI;rw [List.find?_eq_none];intro j hj;simpa using hp j (List.mem_range.1 hj)
def bkL (l:List Co.Cl):Option Nat→List Int
 | some c=>Co.wnr l c
 | none=>[]
theorem con_paidB {K:Int} {p:Nat→Int} {n c:Nat} (hn:n≤6) (hK:0 < K) (hk:Sm 61 K) (hb:∀ i < n,-1267650600228229401496703205376≤p i∧p i≤1267650600228229401496703205376):Con Tryz.prog 97 [lsD (jY K)<|zB p n,fnD 135 [paD [iD (n:Int)],paD [prD Tryz.prog jN<|Co.fL c]]] (ZH [qKD K<|Co.oc c p n,iD 0]):=
 (con_paidF K p n (Co.fL c) hn hK hk hb).mono (Zk _) (Zf ⟨jB (by rw [Co.mS_oc]) (by rw [Co.mS_oc]),zc _,trivial⟩)
theorem Ws {V bd:Nat→Int} {n c:Nat} (h:Co.Mkt n V bd) (hc:c < 2 ^ n):0≤Co.need V bd n c∧Co.need V bd n c≤6597069766656:=by
 have h1:=h.need0 hc;have h2:=Co.oc_ub (c:=c) d9 h.bd0;have h3:=Int.mul_le_mul_of_nonneg_right (show (n:Int)≤6 by have:=h.n6;omega) (show (0:Int)≤1099511627776 by decide);omega
theorem con_block (b:Int) (l:List Co.Cl) (ws:List Co.Wi) (rs:List Rw) (hr:rs.length≤1000000) (hby:∀ r∈rs,Byt r.b r.c) (K:Int) (X:Nat→Int) (hw:ws.length≤1000000) (hv:Co.VW b l ws) (h0:vpE rs (Co.bO b l ws) l.length=0) (hX:PayK rs (Co.bO b l ws) l.length K X):Con Tryz.prog 49 [iD b,lsD yJ l,lsD ZM ws,lsD qk rs] (ZH [lsD z7<|bkL l<|zfI (Co.vO b l ws) (Co.bO b l ws) l.length K X,yL (zfI (Co.vO b l ws) (Co.bO b l ws) l.length K X).isSome,iD 0]):=by
 have hn6:=hv.c.n;have hmk:=Co.mkt hv;have hS64:2 ^ l.length≤64:=Co.pow_le64 hn6;have hKp:=hX.pos;have hkb:=hX.kb;have hox:=fun c=>Co.oc_ub (c:=c) (p:=X) (n:=l.length) (M:=1099511627776000000000000000000) d9 hX.x;refine WH Tryz.func49 k9 I k9 fun base w0=>(zn (SWl.e2 (S:=[]) (Y6 I (fun _ _ _ h=>Zo<|One.h _ _ _ h) I) fun g5=>(zf I<|zf I<|zf I<|zN<|zd I<|za I (zp 0 I I I k9 zm)<|zd I<|zu (S:=[]) (zv (zbv b l ws hw hv) I ⟨zc _,zc _,zc _,t9⟩ I)<|zd I<|za I (zo I I)<|za I (zo I I) (SWl.e2 (S:=[]) (Ef.alloc (zs:=[.slice none 0 0,.slice none 0 0,.slice none 0 0]) k9 I) fun g11=>(zu (S:=[_]) (zA 1 I I I k9 I<|m9 I)<|zf I<|ze<|zh<|zn<|zd I<|za I (yv I I)<|ze<|zK I I<|zq<|zj<|zh<|zn<|zd I<|za I (zg (n:=1) I k9)<|za I (zp 1 I I I k9 zm)<|zu (S:=[]) (zv (con_vpay rs (Co.bO b l ws) l.length hr (by have:=hv.c.n;omega) hby (Co.mkt hv).bd0) I ⟨zc _,zc _,t9⟩ I) ?_)))));refine zf I (zN<|zd I<|za I (yv I I)<|ze<|zK I (by simp [h0])<|zq<|zj<|zh<|zh<|SW.sub (σ':=yb [(3,lsD (jY K)<|zB X l.length),(5,pA g5),(11,pA g11)] [_,_]) (⟨⟨_,I,⟨⟨_,I,hX.le⟩,(sT I)⟩⟩,[0,1],by decide,(sX rfl)⟩)<|zi<|za I (zg (n:=0) I k9)<|za I (zp 1 I I I k9 zm)<|za I (zT (e:=3) I k9)<|zd I<|ze<|SW.block<|yd (ι:={c:Nat // c≤(2 ^ l.length)∧∀ j < c,¬Co.oc j X l.length < Co.need (Co.vO b l ws) (Co.bO b l ws) l.length j * K}) (fun p=>yb [(3,lsD (jY K)<|zB X l.length),(5,pA g5),(11,pA g11),(39,iD ((2 ^ l.length):Nat)),(40,iD (p.1:Int))] [.c g5 [lsD yJ l],.c g11 [lsD z7<|zB (Co.vO b l ws)<|2 ^ l.length,lsD z7<|zB (Co.bO b l ws) l.length,lsD z7<|zB (Co.vcg (Co.vO b l ws) (Co.bO b l ws) l.length) l.length]]) (fun p=>(2 ^ l.length) - p.1) (⟨0,JC _,fun _ h=>absurd h<|Nat.not_lt_zero _⟩) ?_ ?_)
 ·exact ⟨⟨_,I,⟨lq I,⟨lq I,⟨lq I,⟨⟨_,I,zI (by rw [zW])⟩,⟨lq I,t9⟩⟩⟩⟩⟩⟩,[0,1],by decide,(sX rfl)⟩
 ·rintro ⟨c,hc,hp⟩ K0 hK0;dsimp only at hc hp ⊢;refine zn (za I (yc I I)<|ze<|zh<|zC I (fun hb41=> ?_) (fun hb41=> ?_))
  ·have h41:c < 2 ^ l.length:=by have h:=oT hb41;omega
   refine zq (zj<|zh<|SW.block<|zh ?_)
   have hc2:c < 2 ^ l.length:=by omega
   have hnd:=Ws hmk hc2;have hoc:=hox c;have hnk:0≤Co.need (Co.vO b l ws) (Co.bO b l ws) l.length c * K:=Int.mul_nonneg hnd.1 o9;have hnk2:=Int.mul_le_mul hnd.2 hkb o9 d9;have hl6:=Int.mul_le_mul_of_nonneg_right (show (l.length:Int)≤6 by omega) (show (0:Int)≤1099511627776000000000000000000 by decide);have hB1:BK K (Co.need (Co.vO b l ws) (Co.bO b l ws) l.length c * K):=WR hKp hX.k o9 o9;have hB2:BK K (Co.oc c X l.length):=WR hKp hX.k o9 o9;refine zi (zd I<|zf I<|zN<|zd I<|zf I<|zN<|zd I<|za I (zp 0 I I I k9 zm)<|za I (zT (e:=70) I k9)<|zd I<|za I (Yn [.int .i64 (c:Int)] I)<|zu (S:=[]) (zv (Yj l.length<|Co.fL c) I ⟨zc _,zbp o9,t9⟩ I)<|zu (S:=[]) (zv (con_paidB hn6 hKp hX.k (fun i hi=>by have:=hX.x i hi;omega)) I ⟨zc _,zc _,t9⟩ I)<|zd I<|za I (zo I I)<|za I (zo I I) (SWl.e2 (S:=[]) (Ef.alloc (zs:=[.bool false,.slice none 0 0,.bool false,.slice none 0 0]) k9 I) fun g15=>(zu (S:=[_]) (zA 2 I I I k9 I<|m9 I)<|zf I<|ze<|zh<|zn<|zd I<|za I (yv I I)<|ze<|zK I I<|zq<|zj<|zn ?_)))
   refine za I (zx 1 3 I I k9 I zm) (zd I<|zu (S:=[]) (zv (zbu (Co.vO b l ws) (Co.bO b l ws) (Co.vcg (Co.vO b l ws) (Co.bO b l ws) l.length) l.length c hn6 hc2 (fun c hc=>Co.vO_ub hv c) hmk.bd0) I ⟨zc _,zc _,t9⟩ I)<|zu (S:=[]) (zv (jG (z:=Co.need (Co.vO b l ws) (Co.bO b l ws) l.length c * K) hB1 o9 o9 d9 d9 d9 (by rw [Int.mul_one])) I ⟨zc _,zc _,t9⟩ I)<|zd I<|za I (zo I I)<|za I (zo I I) (SWl.e2 (S:=[]) (Ef.alloc (zs:=[.bool false,.slice none 0 0,.bool false,.slice none 0 0]) k9 I) fun g17=>(zu (S:=[_]) (zA 3 I I I k9 I<|m9 I)<|zf I<|ze<|zh<|zn<|zd I<|za I (yv I I)<|ze<|zK I I<|zq<|zj<|zh<|zn<|za I (zx 3 4 I I k9 I zm)<|za I (zx 2 4 I I k9 I zm)<|zu (S:=[]) (zv (zbw hB1 hB2) I ⟨zc _,zc _,t9⟩ I)<|za I (Zn I I)<|ze<|zC I (fun hb70=> ?_) (fun hb70=> ?_))))
   ·have h70:=oT hb70;refine zQ ?_
    repeat (first | refine zX ?_ | refine zY d9 ?_)
    exact zZ (zj<|zi<|za I (Rd.add I I ⟨by omega,by omega⟩)<|zd I<|zF (fun aK wK hh=>hK0 (⟨c + 1,by omega,fun j hj=>(Nat.lt_succ_iff_lt_or_eq.1 hj).elim (hp j) (fun e=>by subst e;have:=cmpL.1 h70;omega)⟩) (by dsimp only;omega) aK wK<|hh.sub<|⟨⟨_,I,⟨lq I,⟨lq I,⟨lq I,⟨lq I,⟨⟨_,I,zI s9⟩,t9⟩⟩⟩⟩⟩⟩,[0,1],by decide,(sX rfl)⟩))
   ·have h70:=oF hb70
    refine zq (zj<|zn (SWl.e2 (S:=[]) (Ef.alloc (zs:=[.slice none 0 0]) k9 I) fun g18=>(ze<|zh<|zn<|za I (zp 0 I I I k9 zm)<|za I (zT (e:=70) I k9)<|zd I<|za I (Yn [.int .i64 (c:Int)] I)<|zu (S:=[]) (zv (Yj l.length<|Co.fB c) I ⟨zc _,zd1 o9,t9⟩ I)<|ze<|SW.block<|Y5 3 1 z7<|SW.sub (σ':=yb [(5,_),(18,_),(75,_)] [_,_,_]) (sB [0,4,5] I I)<|qV (gf:=135) (ps:=[76]) (ib:=ibM) (dd:=ddM) (items:=(Co.mem l.length<|Co.fB c)) (fun i bx=>∃ t:Wst,bx=[.c g5 [lsD yJ l],.c g18 [isD<|.slice t.A (((Co.mem l.length<|Co.fB c).take i).map<|Co.wnO l).length t.c],.r t.F<|yi 3 1 z7 t.A t.c<|((Co.mem l.length<|Co.fB c).take i).map<|Co.wnO l]) (fun o i bx=>match o with | none=>False | some n=>False) (fun i x k σ=>∃ t:Wst,σ=yb [(5,pA g5),(18,pA g18),(19,iD (x:Int))] [.c g5 [lsD yJ l],.c g18 [isD<|.slice t.A (((Co.mem l.length<|Co.fB c).take i).map<|Co.wnO l).length t.c],.r t.F<|yi 3 1 z7 t.A t.c<|((Co.mem l.length<|Co.fB c).take i).map<|Co.wnO l]) qg (ZP l.length (Co.fB c) hn6) I (⟨⟨none,0,[]⟩,I⟩) k9 (fun _ _=>I) ?_ ?_ ?_ ?_ ?_)))
    ·rintro i x k hx bx ⟨t,rfl⟩ y base w0;exact YE k9 (fun _ _ h=>h) (zf I<|zF<|jt (σ':=yb [(5,pA g5),(18,pA g18),(19,iD (x:Int))] [.c g5 [lsD yJ l],.c g18 [isD<|.slice t.A (((Co.mem l.length<|Co.fB c).take i).map<|Co.wnO l).length t.c],.r t.F<|yi 3 1 z7 t.A t.c<|((Co.mem l.length<|Co.fB c).take i).map<|Co.wnO l]) ⟨t,I⟩<|sB [0,1,2] I I)
    ·rintro i x k hx _ ⟨t,rfl⟩ y base w0;have hxn:=(Co.mem_of hx).1;obtain ⟨cl,hcl⟩:∃ y,l[x]? =some y:=⟨_,Je hxn⟩
     have hlt:((Co.mem l.length<|Co.fB c).take i).length≤6:=by have h1:=Co.mem_len (n:=l.length) (f:=Co.fB c);rw [JE];omega
     refine qU (j5 (t.F ++ (g18 :: [])) (.q 0<|.r 1<|.r 2<|.r 3<|.r 4<|.r 5<|.n 6 (.e 7 (.e 8 .fin .no) .no) .no) k9 (fun _ _ h=>h) k9 k9 (fun d _ _ _ _ h=>by cases d <;> exact h)<|ZX I I (zp 1 I I I k9 zm)<|zl I I (zp 0 I I I k9<|Zl 2 I d9<|ZR 1 I d9 zm)<|zz I I<|zl I I (zU (e:=70) 2 I I k9 k9 o9 (by simpa using hcl))<|zl I I (yo (n:=0) I k9 (show 0 < 2 by decide))<|zl I I (zS I I k9<|zbr (j:=2) I<|jT (j:=1) I Vd)<|yZ I (YB I I WP I)<|zdv I (zbI 2 1 8 I I (Y4 (l:=[_]) I) k9 k9 (by rw [JO,Xq];omega) d9 (fun _ h=>mL _ h) I) ?_ yB)
     rintro _ _ ⟨A84,F84,c84,rfl,rfl⟩;exact Zm I (yW 1 I I I k9 I<|mL _<|mR _ mC) (y9<|SN.block<|jt (σ':=yb [] [.c g5 [lsD yJ l],.c g18 [isD<|.slice (⟨A84,c84,F84⟩:Wst).A (((Co.mem l.length<|Co.fB c).take<|i + 1).map<|Co.wnO l).length (⟨A84,c84,F84⟩:Wst).c],.r (⟨A84,c84,F84⟩:Wst).F<|yi 3 1 z7 (⟨A84,c84,F84⟩:Wst).A (⟨A84,c84,F84⟩:Wst).c<|((Co.mem l.length<|Co.fB c).take<|i + 1).map<|Co.wnO l]) ⟨⟨A84,c84,F84⟩,I⟩<|⟨⟨_,I,t9⟩,[0,1,2],by decide,⟨la rfl,⟨⟨_,rfl,⟨zI (by rw [Co.wnr_take hx hcl]),trivial⟩⟩,⟨⟨_,rfl,(by dsimp only;rw [Co.wnr_take hx hcl];exact zM _)⟩,trivial⟩⟩⟩⟩)
    ·rintro dk0 bx ⟨t,rfl⟩;refine SN.block (zj<|zn<|za I (zp 1 I I I k9 zm)<|zf I<|zf I<|zf I<|ze<|SW.freezeT 2 8 I I (by rw [Ji<|Js _];exact zc _)<|jp (fn:=Tryz.f49) (fun _ _ h=>h)<|Kr 2 I<|RM.fin<|Rs.le (j6 I (zk I) (zk I)<|zk I) ?_);have hq:(zfI (Co.vO b l ws) (Co.bO b l ws) l.length K X)=some c:=blkQ_some hc2 (Int.not_le.1 fun h=>h70<|cmpL.2 h) hp;exact Zf ⟨(by rw [hq];exact zc _),zI (by rw [hq];rfl),zc _,trivial⟩
    ·rintro _ _ _ _ hX;exact hX.elim
    ·rintro _ _ _ hX;exact hX.elim
  ·have h41:¬c < 2 ^ l.length:=by have h:=oF hb41;omega
   refine zQ ?_
   repeat (first | refine zX ?_ | refine zY d9 ?_)
   refine zZ (zj<|zn<|zf I<|zf I<|zf I<|ze<|jp (fn:=Tryz.f49) (fun _ _ h=>h)<|RM.fin<|Rs.le (j6 I (zk I) (zk I)<|zk I) ?_);have hq:(zfI (Co.vO b l ws) (Co.bO b l ws) l.length K X)=none:=zct fun j hj=>hp j o9;exact Zf ⟨(by rw [hq];exact ZD),zI (by rw [hq];rfl),zc _,trivial⟩
end Sx
end Go.Proofs.YtfoafihodanmhaaGreatDoor
namespace Go.Proofs.YtfoafihodanmhaaGreatDoor
open Go.RowKit Go.Sort Go.Shelf
def zao:Ren:=⟨fun | 5=>141 | 8=>165 | 7=>164 | 19=>170 | 20=>185 | 10=>176 | 11=>177 | 12=>178 | 13=>179 | 14=>180 | 15=>181 | 16=>182 | 17=>183 | 18=>184 | 30=>190 | 31=>191 | 32=>192 | 33=>193 | 34=>194 | 35=>115 | 40=>196 | n=>n,
 fun | 23=>22 | 25=>3 | 3=>3 | 32=>210 | 22=>22 | 0=>0 | 44=>209 | 46=>206 | 4=>4 | 36=>275 | 35=>274 | 41=>144 | 5=>5 | 9=>9 | 53=>288 | 57=>292 | 63=>299 | 64=>175 | n=>n,fun n=>n⟩
theorem zaW:SlLaysM.n5 Tryz.prog zao where
 mixed:=by kernel_rfl
 f5:=⟨Tryz.f141.name,by kernel_rfl,Tryz.func141.trans<|JY some k9⟩
 f7:=⟨Tryz.f164.name,by kernel_rfl,Tryz.func164.trans<|JY some k9⟩
 f8:=Tryz.func165.trans (JY some k9)
 f10:=⟨Tryz.f176.name,by kernel_rfl,Tryz.func176.trans<|JY some k9⟩
 f11:=⟨Tryz.f177.name,by kernel_rfl,Tryz.func177.trans<|JY some k9⟩
 f12:=⟨Tryz.f178.name,by kernel_rfl,Tryz.func178.trans<|JY some k9⟩
 f13:=⟨Tryz.f179.name,by kernel_rfl,Tryz.func179.trans<|JY some k9⟩
 f14:=⟨Tryz.f180.name,by kernel_rfl,Tryz.func180.trans<|JY some k9⟩
 f15:=⟨Tryz.f181.name,by kernel_rfl,Tryz.func181.trans<|JY some k9⟩
 f16:=⟨Tryz.f182.name,by kernel_rfl,Tryz.func182.trans<|JY some k9⟩
 f17:=⟨Tryz.f183.name,by kernel_rfl,Tryz.func183.trans<|JY some k9⟩
 f18:=⟨Tryz.f184.name,by kernel_rfl,Tryz.func184.trans<|JY some k9⟩
 f19:=Tryz.func170.trans (JY some k9)
 f20:=Tryz.func185.trans (JY some k9)
 f30:=⟨Tryz.f190.name,by kernel_rfl,Tryz.func190.trans<|JY some k9⟩
 f31:=Tryz.func191.trans (JY some k9)
 f32:=Tryz.func192.trans (JY some k9)
 f33:=⟨Tryz.f193.name,by kernel_rfl,Tryz.func193.trans<|JY some k9⟩
 f34:=⟨Tryz.f194.name,by kernel_rfl,Tryz.func194.trans<|JY some k9⟩
 f35:=⟨Tryz.f115.name,by kernel_rfl,Tryz.func115.trans<|JY some k9⟩
 f40:=⟨Tryz.f196.name,by kernel_rfl,Tryz.func196.trans<|JY some k9⟩
 t0:=Tryz.underlying0
 a0:=Tryz.isAgg0
 z0:=Tryz.sizeOf0
 v0:=Tryz.zeroValue0
 t3:=Tryz.underlying3
 a3:=Tryz.isAgg3
 z3:=Tryz.sizeOf3
 v3:=Tryz.zeroValue3
 t4:=Tryz.underlying4
 a4:=Tryz.isAgg4
 z4:=Tryz.sizeOf4
 v4:=Tryz.zeroValue4
 t5:=Tryz.underlying5
 a5:=Tryz.isAgg5
 z5:=Tryz.sizeOf5
 v5:=Tryz.zeroValue5
 t9:=Tryz.underlying9
 a9:=Tryz.isAgg9
 z9:=Tryz.sizeOf9
 v9:=Tryz.zeroValue9
 t22:=Tryz.underlying22
 a22:=Tryz.isAgg22
 z22:=Tryz.sizeOf22
 v22:=Tryz.zeroValue22
 t23:=Tryz.underlying22
 a23:=Tryz.isAgg22
 z23:=Tryz.sizeOf22
 v23:=Tryz.zeroValue22
 t25:=Tryz.underlying3
 a25:=Tryz.isAgg3
 z25:=Tryz.sizeOf3
 v25:=Tryz.zeroValue3
 t32:=Tryz.underlying210
 a32:=Tryz.isAgg210
 z32:=Tryz.sizeOf210
 v32:=Tryz.zeroValue210
 t35:=Tryz.underlying274
 a35:=Tryz.isAgg274
 z35:=Tryz.sizeOf274
 v35:=Tryz.zeroValue274
 t36:=Tryz.underlying275
 a36:=Tryz.isAgg275
 z36:=Tryz.sizeOf275
 v36:=Tryz.zeroValue275
 t41:=Tryz.underlying144
 a41:=Tryz.isAgg144
 z41:=Tryz.sizeOf144
 v41:=Tryz.zeroValue144
 t44:=Tryz.underlying209
 a44:=Tryz.isAgg209
 z44:=Tryz.sizeOf209
 v44:=Tryz.zeroValue209
 t46:=Tryz.underlying206
 a46:=Tryz.isAgg206
 z46:=Tryz.sizeOf206
 v46:=Tryz.zeroValue206
 t53:=Tryz.underlying288
 a53:=Tryz.isAgg288
 z53:=Tryz.sizeOf288
 v53:=Tryz.zeroValue288
 t57:=Tryz.underlying292
 a57:=Tryz.isAgg292
 z57:=Tryz.sizeOf292
 v57:=Tryz.zeroValue292
 t63:=Tryz.underlying299
 a63:=Tryz.isAgg299
 z63:=Tryz.sizeOf299
 v63:=Tryz.zeroValue299
 t64:=Tryz.underlying175
 a64:=Tryz.isAgg175
 z64:=Tryz.sizeOf175
 v64:=Tryz.zeroValue175
namespace Sx
def srt (xs:List Int):List Int:=xs.mergeSort fun x y=>decide (x≤y)
theorem qF {xs:List Int}:(srt xs).length=xs.length:=by unfold srt;rw [List.length_mergeSort]
theorem Ky (xs:List Int):(srt xs).Perm xs:=List.mergeSort_perm _ _
theorem jS (xs:List Int):(srt xs).Pairwise (· ≤ ·):=by
 have:=List.pairwise_mergeSort (le:=fun x y:Int=>decide (x≤y)) (fun a b c h1 h2=>by simp at *;omega) (fun a b=>by simp;omega) xs
 exact this.imp fun h=>by simpa using h
theorem flat_I {xs:List Int}:xs.flatMap z7=(xs.map fun x=>Value.int .i64 x).map isD:=by
 induction xs with
 | nil=>rfl
 | cons x xs ih=>rw [J6,ih];rfl
theorem con_sortI (F:LN) (A:Option Addr) (c:Nat) (xs:List Int) (hl:xs.length≤1000000):ConR Tryz.prog 141 [.r F<|yi 3 1 z7 A c xs] [isD<|.slice A xs.length c] (fun _:Unit=>[.r F<|yi 3 1 z7 A c<|srt xs]) (fun _=>isD<|.tuple #[]):=by
 refine ⟨Sx.enters_of Tryz.func141 k9 I,fun L w vs hL hG hgF hg hnd hbk ha=> ?_⟩;obtain ⟨v,rfl,rfl⟩:=zcu ha;have hR:=hbk _ (m9 rfl)
 have hfp:fps [Box.r F<|yi 3 1 z7 A c xs]=F:=by simp [fps,Box.fp]
 have hfp2:fps [Box.r F<|yi 3 1 z7 A c<|srt xs]=F:=by simp [fps,Box.fp]
 by_cases h0:xs.length=0
 ·have e:xs=[]:=J2 h0;subst e;refine (AnyM.slices_Sort_int_none zaW A c w).mono ?_;rintro e w' ⟨rfl,rfl⟩;have es:srt []=[]:=J2 (by rw [qF];rfl);refine ⟨(),_,I,I,?_⟩;rw [es];exact ⟨hbk,hnd,fun g hg=> .inl hg,Only.refl _ _⟩
 ·obtain ⟨g,cur,ys,rfl,rfl,hgh,hnc,hcm,hcs,htk,hyl,hall⟩:=YX hR o9;rw [flat_I] at hall;have hys:=WU hall
  have hb:Blk w g 3 cur.toList:=by unfold Blk;rw [hgh]
  have hcl:cur.toList.length=cur.size:=by simp
  have hat:∀ j,(hj:j < xs.length)→cur.toList[j]? =some (.int .i64 xs[j]):=fun j hj=>by
   have h1:ys[j]? =some (.int .i64 xs[j]):=by rw [hys,JJ,Je hj];rfl
   rw [← htk,List.getElem?_take_of_lt o9] at h1;exact h1
  refine (AnyM.slices_Sort_int zaW g 0 c xs w (fun j hj=>⟨?_,hb.frozen _⟩) (Jn.1 hgh).1 o9).mono ?_
  ·have hj':j < xs.length:=by simpa using hj
   rw [JF,hb.cell,hat j hj'];congr 2;simp [hj']
  ·rintro e w' ⟨rfl,n,os,rfl⟩;have hg':g < w.heap.size:=(Jn.1 hgh).1
   have hnew:(grow (putRow (Value.int .i64) (Go.Sort.ahead w n) g 0 (srt xs).toArray) os).heap[g]? =some (.cells (putCells (Value.int .i64) 0 (srt xs).toArray cur) 3 (0,0)):=by
    show ((w.heap.modify g _) ++ os)[g]? =_;rw [Array.getElem?_append_left (by simpa using hg'),Array.getElem?_modify,Jh rfl,hgh]
    rfl
   have ho:Only [g] w (grow (putRow (Value.int .i64) (Go.Sort.ahead w n) g 0 (srt xs).toArray) os):=⟨rfl,rfl,rfl,by
    show w.heap.size≤((w.heap.modify g _) ++ os).size
    simp,fun k hk hkn=>by
    show ((w.heap.modify g _) ++ os)[k]? =_
    rw [Array.getElem?_append_left (by simpa using hk),Array.getElem?_modify,Jb (fun e=>hkn<|m9 e.symm)]⟩
   refine ⟨(),_,I,I,fun b hbm=> ?_,by rw [hfp2];rwa [hfp] at hnd,fun x hx=>by rw [hfp2] at hx;rw [hfp];exact .inl hx,by rw [hfp];exact ho⟩;rw [Ja.1 hbm];refine ⟨(srt xs).map fun x=>Value.int .i64 x,by rw [flat_I];exact jr _,⟨by simp,.inr ⟨g,c,_,by rw [qF],by simp,hnew,by rw [qF];exact hnc,hcm,?_,?_⟩⟩,rfl⟩
   ·simp [putCells,hcs]
   ·apply Xh;intro k
    by_cases hk:k < xs.length
    ·rw [List.getElem?_take_of_lt (by rw [qF];omega),JJ,Je (show k < (srt xs).length by rw [qF];exact hk)]
     have hkc:k < cur.size:=by rw [hcs];omega
     simp [putCells,hkc,qF,hk]
    ·rw [JM (by simp [qF];omega),JM (by simp [qF];omega)]
end Sx
end Go.Proofs.YtfoafihodanmhaaGreatDoor
namespace Go.Proofs.YtfoafihodanmhaaGreatDoor
namespace Co
theorem gl_mem {bd v:Nat→Int} {c:Nat}:∀ {n:Nat},(mem n<|fL c).map (fun k=>bd k - v k)=gl bd v c n
 | 0=>rfl
 | n + 1=>by
  rw [gl,← gl_mem]
  cases h:bt c n
  ·rw [mem_yes (by rw [fL_n,h];rfl),XG];simp
  ·rw [mem_no (by rw [fL_n,h];rfl)];simp
theorem gl_le {bd v:Nat→Int} {c:Nat} {M:Int}:∀ {n:Nat},(∀ i < n,bd i - v i≤M)→∀ g∈gl bd v c n,g≤M
 | 0,_,g,hg=>by simp [gl] at hg
 | n + 1,h,g,hg=>by
  rw [gl,Jf] at hg;rcases hg with hg | hg
  ·exact gl_le (fun i hi=>h i o9) g hg
  ·have:=h n o9
   split at hg
   ·cases hg
   ·obtain rfl:=Ja.1 hg;exact this
structure RcP (G:List Int) (Z:Int) (i:Nat) (a left:Int):Prop where
 il:i≤G.length
 a0:0≤a
 a1:a≤1099511627776
 l0:0 < left
 l1:left≤6597069766656
 ge:∀ g∈G.drop i,a≤g
 eq:fil (G.drop i) a left=Z
section
variable {G:List Int}{Z:Int}{i:Nat}{a left g:Int}
theorem RcP.cons (hg:G[i]? =some g):G.drop i=g :: G.drop (i + 1):=by
 obtain ⟨h1,h2⟩:=Jg.1 hg;rw [List.drop_eq_getElem_cons h1,h2]
theorem RcP.cnt (hg:G[i]? =some g):(G.drop<|i + 1).length + 1=G.length - i:=by
 have:=(Jg.1 hg).1;rw [JA];omega
theorem RcP.ag (h:RcP G Z i a left) (hg:G[i]? =some g):a≤g:=h.ge g (by rw [RcP.cons hg];exact mC ..)
theorem RcP.mul (h:RcP G Z i a left) (hl:G.length≤6) (hM:∀ g∈G,g≤1099511627776) (hg:G[i]? =some g):0≤(g - a) * ((G.length - i:Nat):Int)∧(g - a) * ((G.length - i:Nat):Int)≤6597069766656:=by
 have h1:=h.ag hg;have h2:=hM g (Jc hg);have h0:=h.a0;refine ⟨Int.mul_nonneg o9 o9,?_⟩;have:=Int.mul_le_mul (show g - a≤1099511627776 by omega) (show ((G.length - i:Nat):Int)≤6 by omega) o9 d9;omega
theorem RcP.step (h:RcP G Z i a left) (hs:G.Pairwise (· ≤ ·)) (hl:G.length≤6) (hM:∀ g∈G,g≤1099511627776) (hg:G[i]? =some g) (hlt:(g - a) * ((G.length - i:Nat):Int) < left):RcP G Z (i + 1) g (left - (g - a) * ((G.length - i:Nat):Int)):=by
 have h1:=h.ag hg;have h3:=h.mul hl hM hg;have h5:=(Jg.1 hg).1;refine ⟨by omega,by have:=h.a0;omega,hM g<|Jc hg,by omega,by have:=h.l1;omega,fun x hx=> ?_,?_⟩
 ·have:=List.Pairwise.drop (i:=i) hs;rw [RcP.cons hg] at this;exact (Xu.1 this).1 x hx
 ·have:=h.eq;rw [RcP.cons hg,fil,RcP.cnt hg,Jh hlt] at this;exact this
theorem RcP.stop (h:RcP G Z i a left) (hg:G[i]? =some g) (hlt:¬(g - a) * ((G.length - i:Nat):Int) < left):Z=(a * ((G.length - i:Nat):Int) + left) * (60 / ((G.length - i:Nat):Int)):=by
 have:=h.eq;rw [RcP.cons hg,fil,RcP.cnt hg,Jb hlt] at this;exact this.symm
theorem RcP.done (h:RcP G Z i a left) (hi:G.length≤i):Z=60 * a:=by
 have:=h.eq;rw [JZ hi,fil] at this;exact this.symm
end
theorem div60:∀ k≤6,0 < k→(60 / (k:Nat):Int) * (k:Nat)=60∧0 < (60 / (k:Nat):Int):=by decide +kernel
end Co
end Go.Proofs.YtfoafihodanmhaaGreatDoor
namespace Go.Proofs.YtfoafihodanmhaaGreatDoor
open Go.RowKit
namespace Sx
section
theorem con_ofMp {P : Program} {f : FuncId} {fn : Func} {c : Code} {ds : List D} {d : D} (hf : P.funcs[f]? = some fn) (hn : (fn.name == "runtime.NumGoroutine") = false) (hb : fn.body = some c) (hlen : Nat.ble ds.length fn.ntmps = true)
  (h:∀ (base:LN) (w0:World),SW P ⟨fn.ntmps,base,w0,[],[]⟩ (St.of (VM 0 ds) []) c<|noP (bodyPostM Fence.wide 0 P fn fun e w'=>∃ v,e= .returned v∧d.R base w' v∧Only [] w0 w')):Con P f ds d:=
 WH hf hn hb hlen fun base w0 a w hh=>Code.wp_mono (fun e a w hq=>by cases e <;> first | exact hq | exact hq.elim) (h base w0 a w hh)
theorem sm61:Sm 61 60:=by show (60:Int).natAbs < 2 ^ 61;decide +kernel
theorem Ks {x:Int} (h1: -649037107316853453566312041152512≤x) (h2:x≤649037107316853453566312041152512):BK 60 x:=WR d9 sm61 h1 h2
theorem gl_take {bd v:Nat→Int} {c n k x:Nat} (h:(Co.mem n<|Co.fL c)[k]? =some x):((Co.mem n<|Co.fL c).take<|k + 1).map (fun k=>bd k - v k)=((Co.mem n<|Co.fL c).take k).map (fun k=>bd k - v k) ++ [bd x - v x]:=by
 rw [List.take_add_one,h,XG];rfl
theorem gl_all {bd v:Nat→Int} {c n k:Nat} (h:k=(Co.mem n<|Co.fL c).length):((Co.mem n<|Co.fL c).take k).map (fun k=>bd k - v k)=Co.gl bd v c n:=by
 rw [h,Ji<|Js _,Co.gl_mem]
def gG (V bd:Nat→Int) (n c:Nat):List Int:=srt (Co.gl bd (Co.vcg V bd n) c n)
theorem gG_len {V bd:Nat→Int} {n c:Nat}:(gG V bd n c).length≤n:=by unfold gG;rw [qF];exact Co.gl_len
theorem gG_pos {V bd:Nat→Int} {n c:Nat} (h:Co.Mkt n V bd):∀ g∈gG V bd n c,0≤g:=fun g hg=>Co.gl_pos (fun i hi=>(h.vcg0 hi).2) g ((Ky _).mem_iff.1 hg)
theorem gG_le {V bd:Nat→Int} {n c:Nat} (h:Co.Mkt n V bd):∀ g∈gG V bd n c,g≤1099511627776:=fun g hg=>Co.gl_le (fun i hi=>by have:=(h.vcg0 hi).1;have:=(h.bd0 i hi).2;omega) g ((Ky _).mem_iff.1 hg)
theorem zaq {V bd:Nat→Int} {n:Nat} (h:Co.Mkt n V bd):∀ i < n,0≤Co.vcg V bd n i∧Co.vcg V bd n i≤1099511627776:=fun i hi=>by
 have:=h.vcg0 hi;have:=h.bd0 i hi;omega
def rcF (V bd:Nat→Int) (n c:Nat):Int:=Co.rch V bd n c (gG V bd n c)
theorem zdM {V bd:Nat→Int} {n c:Nat} (h:Co.need V bd n c - Co.oc c (Co.vcg V bd n) n≤0):rcF V bd n c=0:=Jh h
theorem rcF_start {V bd:Nat→Int} {n c:Nat} (h:Co.Mkt n V bd) (hc:c < 2 ^ n) (hl:¬Co.need V bd n c - Co.oc c (Co.vcg V bd n) n≤0):Co.RcP (gG V bd n c) (rcF V bd n c) 0 0 (Co.need V bd n c - Co.oc c (Co.vcg V bd n) n):=
 ⟨JC _,Int.le_refl _,by decide,by omega,by have h1:=(Ws h hc).2;have h2:=(Co.oc_ub (c:=c) d9<|zaq h).1;omega,fun g hg=>gG_pos h g hg,by unfold rcF Co.rch;rw [Jb hl,List.drop_zero]⟩
theorem rcF_bd {V bd:Nat→Int} {n c:Nat} (h:Co.Mkt n V bd) (hc:c < 2 ^ n):0≤rcF V bd n c∧rcF V bd n c≤65970697666560:=by
 have h1:=Co.rch_iff h hc (Ky _) (jS _);refine ⟨h1.1,(h1.2 _ d9).1<|Co.in_top h c hc⟩
theorem Wc {V bd:Nat→Int} {n:Nat} (h:Co.Mkt n V bd):∀ k≤2 ^ n,0≤Co.thr (rcF V bd n) k∧Co.thr (rcF V bd n) k≤65970697666560
 | 0,_=>by simp [Co.thr]
 | k + 1,hk=>by
  have h1:=Wc h k o9;have h2:=rcF_bd h (show k < 2 ^ n by omega);rw [Co.thr];omega
theorem con_reach (V bd:Nat→Int) (n c:Nat) (hc:c < 2 ^ n) (hmk:Co.Mkt n V bd) (hV:∀ c < 2 ^ n,0≤V c∧V c≤6597069766656):Con Tryz.prog 107 [Z8 [lsD z7<|zB V<|2 ^ n,lsD z7<|zB bd n,lsD z7<|zB (Co.vcg V bd n) n],iD (c:Int)] (ZH [qKD 60<|rcF V bd n c,iD 0]):=by
 have hn6:=hmk.n6;have hc64:c < 64:=Ju hc (Co.pow_le64 hn6);have hnd:=Ws hmk hc;have hvo:=Co.oc_ub (c:=c) d9 (zaq hmk);have hn6i:=Int.mul_le_mul_of_nonneg_right (show (n:Int)≤6 by omega) (show (0:Int)≤1099511627776 by decide)
 refine con_ofMp Tryz.func107 k9 I k9 fun base w0=>(zn (SWl.e2 (S:=[]) (ym I I) fun g2=>(SWl.e2 (S:=[]) (Ef.alloc (zs:=[.bool false,.slice none 0 0,.bool false,.slice none 0 0]) k9 I) fun g4=>(zf I<|zN (SWl.e2 (S:=[]) (Ef.alloc (zs:=[.slice none 0 0]) k9 I) fun g6=>(ze<|zh<|zn<|za I (zg (n:=1) I k9)<|za I (zp 0 I I I k9 zm)<|za I (zT (e:=3) I k9)<|zd I<|za I (Yn [.int .i64 (c:Int)] I)<|zu (S:=[]) (zv (Yj n<|Co.fL c) I ⟨zI (by rw [zW]),zbp hc64,t9⟩ I)<|ze<|SW.block<|Y5 3 1 z7<|SW.sub (σ':=yb [(2,_),(4,_),(6,_),(1,_),(19,_)] [_,_,_,_]) (sB [0,1,2,3] I I)<|qV (gf:=135) (ps:=[20]) (ib:=ibM) (dd:=ddM) (items:=(Co.mem n<|Co.fL c)) (fun i bx=>∃ t:Wst,bx=[.c g2 [lsD z7<|zB V<|2 ^ n,lsD z7<|zB bd n,lsD z7<|zB (Co.vcg V bd n) n],.c g4 [isD<|.bool false,isD<|.slice none 0 0,isD<|.bool false,isD<|.slice none 0 0],.c g6 [isD<|.slice t.A (((Co.mem n<|Co.fL c).take i).map (fun k=>bd k - (Co.vcg V bd n) k)).length t.c],.r t.F<|yi 3 1 z7 t.A t.c<|((Co.mem n<|Co.fL c).take i).map (fun k=>bd k - (Co.vcg V bd n) k)]) (fun o i bx=>match o with | none=>False | some n=>False) (fun i x k σ=>∃ t:Wst,σ=yb [(2,pA g2),(6,pA g6),(7,iD (x:Int))] [.c g2 [lsD z7<|zB V<|2 ^ n,lsD z7<|zB bd n,lsD z7<|zB (Co.vcg V bd n) n],.c g4 [isD<|.bool false,isD<|.slice none 0 0,isD<|.bool false,isD<|.slice none 0 0],.c g6 [isD<|.slice t.A (((Co.mem n<|Co.fL c).take i).map (fun k=>bd k - (Co.vcg V bd n) k)).length t.c],.r t.F<|yi 3 1 z7 t.A t.c<|((Co.mem n<|Co.fL c).take i).map (fun k=>bd k - (Co.vcg V bd n) k)]) qg (ZP n (Co.fL c) hn6) I (⟨⟨none,0,[]⟩,I⟩) k9 (fun _ _=>I) ?_ ?_ ?_ ?_ ?_))))))
 ·rintro i x k hx bx ⟨t,rfl⟩ y base w0;exact YE k9 (fun _ _ h=>h) (zf I<|zF<|jt (σ':=yb [(2,pA g2),(6,pA g6),(7,iD (x:Int))] [.c g2 [lsD z7<|zB V<|2 ^ n,lsD z7<|zB bd n,lsD z7<|zB (Co.vcg V bd n) n],.c g4 [isD<|.bool false,isD<|.slice none 0 0,isD<|.bool false,isD<|.slice none 0 0],.c g6 [isD<|.slice t.A (((Co.mem n<|Co.fL c).take i).map (fun k=>bd k - (Co.vcg V bd n) k)).length t.c],.r t.F<|yi 3 1 z7 t.A t.c<|((Co.mem n<|Co.fL c).take i).map (fun k=>bd k - (Co.vcg V bd n) k)]) ⟨t,I⟩<|sB [0,1,2,3] I I)
 ·rintro i x k hx _ ⟨t,rfl⟩ y base w0;have hxn:=(Co.mem_of hx).1;have hb1:=hmk.bd0 x hxn;have hb2:=zaq hmk x hxn
  have hlt:((Co.mem n<|Co.fL c).take i).length≤6:=by have h1:=Co.mem_len (n:=n) (f:=Co.fL c);rw [JE];omega
  refine qU (j5 (t.F ++ (g6 :: [])) (.q 0<|.r 1<|.r 2<|.r 3<|.r 4<|.r 5<|.r 6<|.r 7<|.r 8<|.r 9<|.r 10<|.r 11<|.n 12 (.e 13 (.e 14 .fin .no) .no) .no) k9 (fun _ _ h=>h) k9 k9 (fun d _ _ _ _ h=>by cases d <;> exact h)<|ZX I I (zp 2 I I I k9 zm)<|zl I I (zg (n:=1) I k9)<|zl I I (zp 0 I I I k9<|Zl 3 I d9<|ZR 2 I d9 zm)<|zz I I<|zl I I (zU (e:=3) 1 I I k9 k9 o9<|YI hxn)<|zl I I (zS I I k9<|zbr (j:=3) I<|jT (j:=2) I Vd)<|zl I I (zg (n:=2) I k9)<|zl I I (zp 0 I I I k9<|Zl 3 I d9<|ZR 2 I d9 zm)<|zz I I<|zl I I (zU (e:=3) 1 I I k9 k9 o9<|YI hxn)<|zl I I (zS I I k9<|zbr (j:=3) I<|jT (j:=2) I Vd)<|zl I I (yG I I ⟨by omega,by omega⟩)<|yZ I (YB I I WP I)<|zdv I (zbI 3 1 8 I I (Y4 (l:=[_]) I) k9 k9 (by rw [JO,Xq];omega) d9 (fun _ h=>mL _ h) I) ?_ yB)
  rintro _ _ ⟨A34,F34,c34,rfl,rfl⟩;exact Zm I (yW 2 I I I k9 I<|mL _<|mR _ mC) (y9<|SN.block<|jt (σ':=yb [] [.c g2 [lsD z7<|zB V<|2 ^ n,lsD z7<|zB bd n,lsD z7<|zB (Co.vcg V bd n) n],.c g4 [isD<|.bool false,isD<|.slice none 0 0,isD<|.bool false,isD<|.slice none 0 0],.c g6 [isD<|.slice (⟨A34,c34,F34⟩:Wst).A (((Co.mem n<|Co.fL c).take<|i + 1).map (fun k=>bd k - (Co.vcg V bd n) k)).length (⟨A34,c34,F34⟩:Wst).c],.r (⟨A34,c34,F34⟩:Wst).F<|yi 3 1 z7 (⟨A34,c34,F34⟩:Wst).A (⟨A34,c34,F34⟩:Wst).c<|((Co.mem n<|Co.fL c).take<|i + 1).map (fun k=>bd k - (Co.vcg V bd n) k)]) ⟨⟨A34,c34,F34⟩,I⟩<|⟨⟨_,I,t9⟩,[0,1,2,3],by decide,⟨la rfl,⟨la rfl,⟨⟨_,rfl,⟨zI (by rw [gl_take hx]),trivial⟩⟩,⟨⟨_,rfl,(by dsimp only;rw [gl_take hx];exact zM _)⟩,trivial⟩⟩⟩⟩⟩)
 ·rintro dk0 bx ⟨t,rfl⟩;refine SN.block (zj<|zh<|SW.sub (σ':=yb [(2,_),(4,_),(6,_),(1,_)] [.c g2 [lsD z7<|zB V<|2 ^ n,lsD z7<|zB bd n,lsD z7<|zB (Co.vcg V bd n) n],.c g4 [isD<|.bool false,isD<|.slice none 0 0,isD<|.bool false,isD<|.slice none 0 0],.c g6 [isD<|.slice t.A (Co.gl bd (Co.vcg V bd n) c n).length t.c],.r t.F<|yi 3 1 z7 t.A t.c<|Co.gl bd (Co.vcg V bd n) c n,.r [dk0] dfR]) (⟨⟨_,I,(sT I)⟩,[0,1,2,3,4],by decide,⟨la rfl,⟨la rfl,⟨⟨_,rfl,⟨zI (by rw [gl_all rfl]),trivial⟩⟩,⟨⟨_,rfl,(by rw [gl_all rfl];exact zM _)⟩,⟨lR rfl,trivial⟩⟩⟩⟩⟩⟩)<|zi<|za I (zp 2 I I I k9 zm)<|Zc (yh [3] (con_sortI t.F t.A t.c (Co.gl bd (Co.vcg V bd n) c n) (by have:=Co.gl_len (bd:=bd) (v:=(Co.vcg V bd n)) (c:=c) (n:=n);omega)) I ⟨zc _,t9⟩ d9 ⟨lR I,t9⟩ (fun _ h=>h) I) ?_);rintro _ ⟨_,rfl⟩
  refine ze (zh<|SW.sub (σ':=yb [(2,_),(4,_),(6,_),(1,_)] [.c g2 [lsD z7<|zB V<|2 ^ n,lsD z7<|zB bd n,lsD z7<|zB (Co.vcg V bd n) n],.c g4 [isD<|.bool false,isD<|.slice none 0 0,isD<|.bool false,isD<|.slice none 0 0],.c g6 [isD<|.slice t.A (gG V bd n c).length t.c],.r t.F<|yi 3 1 z7 t.A t.c<|gG V bd n c,.r [dk0] dfR]) (⟨⟨_,I,(sT I)⟩,[0,1,2,4,3],by decide,⟨la rfl,⟨la rfl,⟨⟨_,rfl,⟨zI (by unfold gG;rw [qF]),trivial⟩⟩,(sX rfl)⟩⟩⟩⟩)<|yl [] (rr [0,1,3,4,5,6,7,8,9]<|.n 2 (.n 10 (.n 11 (.r 12<|.r 13 .fin) .no) .no) .no) k9 k9 (fun d _ _ _ _ h=>by cases d <;> exact h)<|zl I I (zx 0 3 I I k9 I zm)<|zz I I<|zl I I (zg (n:=2) I k9)<|zl I I (zp 0 I I I k9 zm)<|zl I I (zg (n:=1) I k9)<|zl I I (zp 0 I I I k9 zm)<|zl I I (zT (e:=3) I k9)<|zz I I<|zl I I (Yn [.int .i64 (c:Int)] I)<|yZ I (zv (zbu V bd (Co.vcg V bd n) n c hn6 hc hV hmk.bd0) I ⟨zc _,zc _,t9⟩ I)<|yZ I (zv (Yj n<|Co.fL c) I ⟨zI (by rw [zW]),zbp hc64,t9⟩ I)<|yZ I (zv (con_sumO (p:=(Co.vcg V bd n)) hn6 (fun i hi=>by have:=zaq hmk i hi;omega)) I ⟨zc _,zc _,t9⟩ I)<|zl I I (yG I I ⟨by omega,by omega⟩)<|yR I I<|yE<|zh<|zn<|zd I<|za I (Zn I I)<|ze<|zC I (fun hb51=> ?_) (fun hb51=> ?_))
  ·have h51:=oT hb51;exact zn (zu (S:=[]) (zv (jF<|Ks d9 d9) I t9 I)<|zu (S:=[_]) (zA 1 I I I k9 I<|m9 I)<|zf I<|ze<|jp (fn:=Tryz.f107) (fun _ _ h=>h)<|Kr 4 I<|RM.fin<|Rs.le (Rs.two I (yx 1 I I k9)<|zk I)<|Zf ⟨jB (by rw [zdM h51]) (by rw [zdM h51]),zc _,t9⟩)
  ·have h51:=oF hb51;refine zq (zj<|zh<|SW.sub (σ':=yb [(2,_),(4,_),(6,_),(1,_),(8,_)] [_,_,_,_,_]) (sB [0,1,2,3,4] I I)<|zi<|zf I<|ze<|zh<|zn<|za I (zp 2 I I I k9 zm)<|za I (Zx (e:=3) I k9)<|zd I<|ze<|SW.block<|yd (ι:={q:Nat × Int × Int // Co.RcP (gG V bd n c) (rcF V bd n c) q.1 q.2.1 q.2.2}) (fun q=>yb [(2,pA g2),(4,pA g4),(6,pA g6),(1,iD (c:Int)),(8,iD q.1.2.2),(9,iD q.1.2.1),(53,isD<|.slice t.A (gG V bd n c).length t.c),(54,iD ((gG V bd n c).length:Int)),(55,iD (q.1.1:Int))] [.c g2 [lsD z7<|zB V<|2 ^ n,lsD z7<|zB bd n,lsD z7<|zB (Co.vcg V bd n) n],.c g4 [isD<|.bool false,isD<|.slice none 0 0,isD<|.bool false,isD<|.slice none 0 0],.c g6 [isD<|.slice t.A (gG V bd n c).length t.c],.r t.F<|yi 3 1 z7 t.A t.c<|gG V bd n c,.r [dk0] dfR]) (fun q=>(gG V bd n c).length - q.1.1) (⟨(0,0,Co.need V bd n c - Co.oc c (Co.vcg V bd n) n),rcF_start hmk hc h51⟩) ?_ ?_)
   ·exact (sB [0,1,2,3,4] I I)
   ·rintro ⟨⟨i,a,lf⟩,hq⟩ K0 hK0;dsimp only at hq ⊢;have ha0:=hq.a0;have ha1:=hq.a1;have hl0:=hq.l0;have hl1:=hq.l1;have hrb:=rcF_bd hmk hc;have hgl:=gG_len (V:=V) (bd:=bd) (n:=n) (c:=c);refine zn (za I (yc I I)<|ze<|zh<|zC I (fun hb56=> ?_) (fun hb56=> ?_))
    ·have h56:(i:Int) < ((gG V bd n c).length:Int):=oT hb56;refine zq (zj<|zh<|SW.block<|zh ?_);obtain ⟨x,hx⟩:∃ x,(gG V bd n c)[i]? =some x:=⟨_,Je o9⟩;have hil:=(Jg.1 hx).1;have hax:=hq.ag hx;have hxm:=gG_le hmk x (Jc hx);have hml:=hq.mul o9 (gG_le hmk) hx;refine zi (zd I<|za I (yf 3 1 I I I k9 k9 o9 o9)<|za I (yr 3 I I k9 (by simpa using hx) I zm)<|zf I<|zf I<|zN<|za I (zp 2 I I I k9 zm)<|za I (Zx (e:=3) I k9)<|zd I<|za I (Rd.mono (yG I I ⟨by omega,by omega⟩) (show Le _ (iD (((gG V bd n c).length - i:Nat):Int)) from zI (by congr 1;omega)))<|zf I<|ze<|zh<|zn<|zd I<|zd I<|za I (yG I I ⟨by omega,by omega⟩)<|zd I<|za I (Rd.mul I I ⟨by omega,by omega⟩)<|zf I<|zN<|zd I<|zd I<|za I (yc I I)<|ze<|zC I (fun hb71=> ?_) (fun hb71=> ?_))
     ·have h71:=oT hb71;refine zn (zd I<|zd I<|za I (yG I I ⟨by omega,by omega⟩)<|zf I<|zN<|zd I<|zf I<|ze<|zQ ?_)
      repeat (first | refine zX ?_ | refine zY d9 ?_)
      exact zZ (zj<|zi<|za I (Rd.add I I ⟨by omega,by omega⟩)<|zd I<|zF (fun aK wK hh=>hK0 (⟨(i + 1,x,lf - (x - a) * (((gG V bd n c).length - i:Nat):Int)),hq.step (jS _) o9 (gG_le hmk) hx h71⟩) (by dsimp only;omega) aK wK<|hh.sub<|⟨⟨_,I,⟨lq I,⟨lq I,⟨lq I,⟨lq I,⟨lq I,⟨lq I,⟨lq I,⟨lq I,⟨⟨_,I,zI s9⟩,t9⟩⟩⟩⟩⟩⟩⟩⟩⟩⟩,[0,1,2,3,4],by decide,(sX rfl)⟩))
     ·have h71:=oF hb71;refine zq (zj<|zh ?_);have hz:=hq.stop hx h71;have hd:=Co.div60 ((gG V bd n c).length - i) o9 o9;have hac:=Int.mul_nonneg ha0 (show 0≤(((gG V bd n c).length - i:Nat):Int) by omega);have hac2:=Int.mul_le_mul ha1 (show (((gG V bd n c).length - i:Nat):Int)≤6 by omega) o9 d9
      have hofe:(a * (((gG V bd n c).length - i:Nat):Int) + lf) * 60=rcF V bd n c * (((gG V bd n c).length - i:Nat):Int):=by rw [hz,Int.mul_assoc,hd.1]
      exact zi (zd I<|zd I<|za I (Rd.mul I I ⟨by omega,by omega⟩)<|zd I<|za I (Rd.add I I ⟨by omega,by omega⟩)<|zd I<|zu (S:=[]) (zv (jG (z:=rcF V bd n c) (Ks o9 o9) o9 o9 o9 o9 o9 hofe) I ⟨zc _,zc _,t9⟩ I)<|za I (zo I I)<|za I (zo I I)<|zu (S:=[_]) (zA 1 I I I k9 I<|m9 I)<|zf I<|ze<|jp (fn:=Tryz.f107) (fun _ _ h=>h)<|Kr 4 I<|RM.fin<|Rs.le (Rs.two I (yx 1 I I k9)<|zk I)<|zc _)
    ·have h56:¬(i:Int) < ((gG V bd n c).length:Int):=oF hb56;refine zQ ?_
     repeat (first | refine zX ?_ | refine zY d9 ?_)
     refine zZ (zj<|zh ?_);have hz:=hq.done o9;exact zi (zd I<|zu (S:=[]) (zv (jG (z:=rcF V bd n c) (Ks o9 o9) o9 o9 d9 d9 d9 o9) I ⟨zc _,zc _,t9⟩ I)<|za I (zo I I)<|za I (zo I I)<|zu (S:=[_]) (zA 1 I I I k9 I<|m9 I)<|zf I<|ze<|jp (fn:=Tryz.f107) (fun _ _ h=>h)<|Kr 4 I<|RM.fin<|Rs.le (Rs.two I (yx 1 I I k9)<|zk I)<|zc _)
 ·rintro _ _ _ _ hX;exact hX.elim
 ·rintro _ _ _ hX;exact hX.elim
end
section
section
variable {P:Program}{Γ:Cx}{σ:St}{S:List Nat}{dst:Option Tmp}{ty:TypeId}{pos:String}{af:Array Edge}{gd:Option (Nat × Bool)}{Q:Exit→Act→World→Prop}{a:Act}{w:World}
theorem Holds.freezeP (h:Holds Γ σ a w) {j k g:Nat} {ds:List D} (hj:σ.bx[j]? =some (.c g ds)) (hk:σ.tm k=some (pA g)):Holds Γ ((⟨σ.tm,yQ σ.bx 0 [j]⟩:St).put k<|paD ds) a w:=by
 refine (h.drop [j]).learn ?_;have hv:a.tmps.getD k undef= .pointer (some ⟨g,0,none⟩):=h.tm k _ hk;rw [hv];obtain ⟨t,cs,hb,ha⟩:=h.bx (.c g ds) (Jc hj)
 exact ⟨⟨g,0,none⟩,I,fun _=>⟨g,0,I,hb.lt,j3 h hj (by simp [Box.fp]),cs,ha.less (fun x hx=> .inl (by
  rcases Jf.1 hx with hx | hx
  ·exact mL _ (ZN hx)
  ·exact mR _ hx)),fun q hq=>by rw [JF];exact hb.cell q⟩⟩
theorem SW.freezeP {c:Code} (j k:Nat) {g:Nat} {ds:List D} (hj:σ.bx[j]? =some (.c g ds)) (hk:σ.tm k=some (pA g)) (h:SW P Γ ((⟨σ.tm,yQ σ.bx 0 [j]⟩:St).put k<|paD ds) c Q):SW P Γ σ c Q:=fun a w hh=>h a w (hh.freezeP hj hk)
theorem VH {fn:FuncId} {cp:Array Operand} {ds:List D} (hc:σ.evs cp.toList=some ds):Rd P Γ S ⟨dst,.makeFunc (.func fn) #[] cp,ty,pos,af,gd⟩ σ (fnD fn ds):=by
 intro a w hh;have hall:=Zt hh hc;refine ⟨.func (.func fn) #[] (cp.map a.eval),⟨(cp.toList.map a.eval),?_,hall⟩,fun w' _=>by simp [execOp,Instr.makeFunc]⟩;congr 1;apply Xe;simp
