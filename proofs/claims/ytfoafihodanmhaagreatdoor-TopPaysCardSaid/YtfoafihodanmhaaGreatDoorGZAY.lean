/- slices.BinarySearch, Insert and Delete at strings, by what is known (the shelf's contracts). ACCOUNTS: what maps hold of them. ACCOUNTS: words over an -/
import Derived.Test.YtfoafihodanmhaaGreatDoorGZAX
import Derived.Shelf.Spec.SlicesInsertGrow
import Derived.Shelf.Spec.SearchS
import Derived.Shelf.Slices.Cells
set_option maxHeartbeats 8000000
set_option maxRecDepth 100000
namespace Go.Proofs.YtfoafihodanmhaaGreatDoor
open Go.RowKit
namespace Sx
section
variable {P:Program}{ρ:Shelf.Ren}
structure Ust where
 A:Option Addr
 c:Nat
 F:LN
end
end Sx
namespace Acc
end Acc
namespace Sx
section
def encA (a:Acc.T):List D:=[strD a.name,iD a.role,bD a.key,iD a.dep,iD a.num]
instance:Row encA 5:=⟨fun _=>rfl,fun _=>by unfold encA;infer_instance,by decide⟩
end
section
theorem yO {n:Nat} {p q:Bool} (h:p=q):Le (yL p) (nwD n<|yL q):=by subst h;exact YH
section
variable {P:Program}{Γ:Cx}{σ:St}{Q:Exit→Act→World→Prop}{a:Act}{w:World}
def noP (Q:Exit→Act→World→Prop):Exit→Act→World→Prop
 | .panic _,_,_=>False
 | e,a,w=>Q e a w
end
section
variable {P:Program}{Γ:Cx}{σ:St}{S:List Nat}{d d':D}
end
section
variable {P:Program}{σ:St}{Q:Exit→Act→World→Prop}
theorem RM.finR {fn:Func} {nt:Nat} {base:LN} {w0:World} {pre:List Box} {ι:Type} {post:ι→List Box} {d:ι→D} (i:ι) (js:LN)
  (h:Rs P ⟨nt,base,w0,fps pre,[]⟩ fn σ (d i)) (hjs:js.Nodup) (hb:SubBx σ.bx js (post i)):
  RM P fn (fun e w'=>∃ i v,e= .returned v∧(d i).R (fps (post i) ++ base) w' v∧(∀ b∈post i,b.R (fps (post i) ++ base) w')∧(fps<|post i).Nodup∧(∀ g∈fps (post i),g∈fps pre∨w0.heap.size≤g)∧Only (fps pre) w0 w') ⟨nt,base,w0,fps pre,[]⟩ σ:=fun a w hh=>by
 obtain ⟨v,h1,h2⟩:=Sx.retR i js h hjs hb hh;rw [show a.defers=[] from hh.df];exact ⟨v,h1,h2⟩
theorem con_ofRMp {f : FuncId} {fn : Func} {c : Code} {pre : List Box} {ad : List D} {ι : Type} {post : ι → List Box} {d : ι → D} (hf : P.funcs[f]? = some fn) (hn : (fn.name == "runtime.NumGoroutine") = false) (hb : fn.body = some c) (hlen : Nat.ble ad.length fn.ntmps = true)
  (h:∀ (base:LN) (w0:World),SW P ⟨fn.ntmps,base,w0,fps pre,[]⟩ (yb (VM 0 ad) pre) c<|noP (bodyPostM Fence.wide 0 P fn fun e w'=>∃ i v,e= .returned v∧(d i).R (fps (post i) ++ base) w' v∧(∀ b∈post i,b.R (fps (post i) ++ base) w')∧(fps<|post i).Nodup∧(∀ g∈fps (post i),g∈fps pre∨w0.heap.size≤g)∧Only (fps pre) w0 w')):ConR P f pre ad post d:=by
 refine ⟨enters_of hf hn (by rw [hb];rfl),fun L w vs hL hG hgF hg hnd hbk ha=> ?_⟩
 refine callsIn_wide.1 (callsIn_of_wp_marks (F:=Fence.wide) (n:=0) hf hb t9<|(wpIn_wide (n:=0)).2<|Code.wp_mono (fun e a w hq=>by cases e <;> first | exact hq | exact hq.elim)<|h L w _ _ ?_)
 have hl:=ha.length
 have hle:ad.length≤fn.ntmps:=by simpa using hlen
 refine ⟨I,by simp [hl];omega,fun i e hi=> ?_,hbk,hnd,fun g hg=> .inr hg,Only.refl _ _,hL,hg,hG,hgF⟩;have:=YC (pre:=[]) (post:=List.replicate (fn.ntmps - vs.length) undef) ha rfl i e hi
 have e1:vs.toArray ++ Array.replicate (fn.ntmps - vs.toArray.size) undef=([] ++ vs ++ List.replicate (fn.ntmps - vs.length) undef).toArray:=by
  apply Xe;simp
 rw [e1];exact this
end
end
section
theorem WR {K x:Int} (hK:0 < K) (hk:Sm 61 K) (h1: -649037107316853453566312041152512≤x) (h2:x≤649037107316853453566312041152512):BK K x:=⟨hK,hk,by
 show x.natAbs < 2 ^ 110
 have:(2:Nat) ^ 110=1298074214633706907132624082305024:=by decide +kernel
 omega⟩
theorem mS_tk {p:Nat→Int} {n i:Nat} {f:Int→Bool} {M:Int} (hM:0≤M) (hn:n≤6) (hb:∀ i < n,-M≤p i∧p i≤M): -(6 * M)≤Co.mS p ((Co.mem n f).take i)∧Co.mS p ((Co.mem n f).take i)≤6 * M:=by
 have h:=Co.mS_bd (p:=p) (M:=M) (l:=(Co.mem n f).take i) (fun j hj=>hb j (by obtain ⟨k2,hk2⟩:=List.getElem?_of_mem (List.mem_of_mem_take hj);exact (Co.mem_of hk2).1))
 have hlt:((Co.mem n f).take i).length≤6:=by have h1:=Co.mem_len (n:=n) (f:=f);rw [JE];omega
 have h2:=Int.mul_le_mul_of_nonneg_right (show (((Co.mem n f).take i).length:Int)≤6 by omega) hM;omega
theorem YI {p:Nat→Int} {n x:Nat} (h:x < n):(zB p n)[((x:Nat):Int).toNat]? =some (p x):=by rw [J7];exact yU h
theorem con_paidF (K:Int) (p:Nat→Int) (n:Nat) (f:Int→Bool) (hn:n≤6) (hK:0 < K) (hk:Sm 61 K) (hb:∀ i < n,-1267650600228229401496703205376≤p i∧p i≤1267650600228229401496703205376):Con Tryz.prog 97 [lsD (jY K)<|zB p n,fnD 135 [paD [iD (n:Int)],paD [prD Tryz.prog jN<|f]]] (ZH [qKD K<|Co.mS p<|Co.mem n f,iD 0]):=by
 refine WH Tryz.func97 k9 I k9 fun base w0=>(zn (SWl.e2 (S:=[]) (Y6 I (fun _ _ _ h=>Zo<|One.h _ _ _ h) I) fun g2=>(SWl.e2 (S:=[]) (Ef.alloc (zs:=[.bool false,.slice none 0 0,.bool false,.slice none 0 0]) k9 I) fun g4=>(SWl.e2 (S:=[]) (Ef.alloc (zs:=[.int .i64 0]) k9 I) fun g5=>(zN<|zu (S:=[]) (zv (jF<|WR hK hk d9 d9) I t9 I) (SWl.e2 (S:=[]) (Ef.alloc (zs:=[.bool false,.slice none 0 0,.bool false,.slice none 0 0]) k9 I) fun g6=>(SWl.e2 (S:=[]) (Ef.alloc (zs:=[.int .i64 0]) k9 I) fun g7=>(zu (S:=[_]) (zA 3 I I I k9 I<|m9 I)<|zu (S:=[_]) (yW 4 I I I k9 I<|m9 I)<|ze<|zh<|zn<|zd I<|ze<|SW.block<|SW.sub (σ':=yb [(10,_),(2,_),(4,_),(5,_),(6,_),(7,_)] [_,_,_,_,_]) (sB [0,1,2,3,4] I I)<|qV (gf:=135) (ps:=[11]) (ib:=ibM) (dd:=ddM) (items:=(Co.mem n f)) (fun i bx=>bx=[.c g2 [lsD (jY K)<|zB p n],.c g4 [isD<|.bool false,isD<|.slice none 0 0,isD<|.bool false,isD<|.slice none 0 0],.c g5 [iD 0],.c g6<|qKC K<|Co.mS p<|(Co.mem n f).take i,.c g7 [iD 0]]) (fun o i bx=>match o with | none=>False | some n=>False) (fun i x k σ=>σ=yb [(2,pA g2),(6,pA g6),(7,pA g7),(8,iD (x:Int))] [.c g2 [lsD (jY K)<|zB p n],.c g4 [isD<|.bool false,isD<|.slice none 0 0,isD<|.bool false,isD<|.slice none 0 0],.c g5 [iD 0],.c g6<|qKC K<|Co.mS p<|(Co.mem n f).take i,.c g7 [iD 0]]) qg (ZP n f hn) I (I) k9 (fun _ _=>I) ?_ ?_ ?_ ?_ ?_))))))))
 ·rintro i x k hx bx rfl y base w0;exact YE k9 (fun _ _ h=>h) (zf I<|zF<|jt (σ':=yb [(2,pA g2),(6,pA g6),(7,pA g7),(8,iD (x:Int))] [.c g2 [lsD (jY K)<|zB p n],.c g4 [isD<|.bool false,isD<|.slice none 0 0,isD<|.bool false,isD<|.slice none 0 0],.c g5 [iD 0],.c g6<|qKC K<|Co.mS p<|(Co.mem n f).take i,.c g7 [iD 0]]) I<|sB [0,1,2,3,4] I I)
 ·rintro i x k hx _ rfl y base w0;have hxn:=(Co.mem_of hx).1;have hxv:=hb x hxn;have h1:=mS_tk (i:=i) (f:=f) (M:=1267650600228229401496703205376) d9 hn hb;have hB1:BK K (Co.mS p<|(Co.mem n f).take i):=WR hK hk o9 o9;have hB2:BK K (p x):=WR hK hk o9 o9;have hB3:BK K ((Co.mS p<|(Co.mem n f).take i) + p x):=WR hK hk o9 o9
  exact qU (zbF<|j5 (g6 :: (g7 :: [])) (.q 0<|.r 1<|.r 2<|.r 3<|.q 4<|.n 5 (.r 6<|.r 7<|.r 8<|.e 9 (.e 10 .fin .no) .no) .no) k9 (fun _ _ h=>h) k9 k9 (fun d _ _ _ _ h=>by cases d <;> exact h)<|ZX I I (zx 3 4 I I k9 I zm)<|zl I I (zp 0 I I I k9<|ZR 3 I d9<|ZR 4 I d9 zm)<|zz I I<|zl I I (zU (e:=78) 4 I I k9 k9 o9<|YI hxn)<|ZX I I (yn 4 I k9 d9 (show 4≤4 by decide) s9)<|yZ I (zv (zbx hB1 hB2 hB3) I ⟨zc _,zc _,t9⟩ I)<|zz I I<|zl I I (zo I I)<|zl I I (zo I I)<|Zm I (zA 3 I I I k9 I mC)<|Zm I (yW 4 I I I k9 I<|Jl _ mC)<|y9<|VX<|zbF<|YE k9 (fun _ _ h=>h)<|za I (zp 4 I I I k9 zm)<|za I (yv I I)<|zF<|VX<|zcG I I<|zes<|SN.block<|jt (σ':=yb [] [.c g2 [lsD (jY K)<|zB p n],.c g4 [isD<|.bool false,isD<|.slice none 0 0,isD<|.bool false,isD<|.slice none 0 0],.c g5 [iD 0],.c g6<|qKC K<|Co.mS p<|(Co.mem n f).take<|i + 1,.c g7 [iD 0]]) I<|⟨⟨_,I,t9⟩,[0,1,2,3,4],by decide,⟨la rfl,⟨la rfl,⟨la rfl,⟨⟨_,rfl,(by rw [Co.mS_take hx];exact Zk _)⟩,⟨la rfl,trivial⟩⟩⟩⟩⟩⟩)
 ·rintro dk0 bx rfl;exact SN.block (zj<|zn<|za I (zx 3 4 I I k9 I zm)<|zu (S:=[_]) (zA 1 I I I k9 I<|m9 I)<|zu (S:=[_]) (yW 2 I I I k9 I<|m9 I)<|ze<|jp (fn:=Tryz.f97) (fun _ _ h=>h)<|Kr 5 I<|RM.fin<|Rs.le (Rs.two I (yx 1 I I k9)<|za7 2 I I k9 I)<|Zf ⟨jB (by rw [Ji<|Js _]) (by rw [Ji<|Js _]),zc _,t9⟩)
 ·rintro _ _ _ _ hX;exact hX.elim
 ·rintro _ _ _ hX;exact hX.elim
theorem con_paidO (Fp:LN) (Ap:Option Addr) (cp:Nat) (K:Int) (p:Nat→Int) (n:Nat) (f:Int→Bool) (hn:n≤6) (hK:0 < K) (hk:Sm 61 K) (hb:∀ i < n,-1267650600228229401496703205376≤p i∧p i≤1267650600228229401496703205376):ConR Tryz.prog 97 [.r Fp<|yi 78 4 (jY K) Ap cp<|zB p n] [isD<|.slice Ap (zB p n).length cp,fnD 135 [paD [iD (n:Int)],paD [prD Tryz.prog jN<|f]]] (fun _:Unit=>[.r Fp<|yi 78 4 (jY K) Ap cp<|zB p n]) (fun _:Unit=>ZH [qKD K<|Co.mS p<|Co.mem n f,iD 0]):=by
 refine con_ofRMp Tryz.func97 k9 I k9 fun base w0=>(zn (SWl.e2 (S:=[]) (Y6 I (fun _ _ _ h=>Zo<|One.h _ _ _ h) I) fun g2=>(SWl.e2 (S:=[]) (Ef.alloc (zs:=[.bool false,.slice none 0 0,.bool false,.slice none 0 0]) k9 I) fun g4=>(SWl.e2 (S:=[]) (Ef.alloc (zs:=[.int .i64 0]) k9 I) fun g5=>(zN<|zu (S:=[]) (zv (jF<|WR hK hk d9 d9) I t9 I) (SWl.e2 (S:=[]) (Ef.alloc (zs:=[.bool false,.slice none 0 0,.bool false,.slice none 0 0]) k9 I) fun g6=>(SWl.e2 (S:=[]) (Ef.alloc (zs:=[.int .i64 0]) k9 I) fun g7=>(zu (S:=[_]) (zA 4 I I I k9 I<|m9 I)<|zu (S:=[_]) (yW 5 I I I k9 I<|m9 I)<|ze<|zh<|zn<|zd I<|ze<|SW.block<|SW.sub (σ':=yb [(10,_),(2,_),(4,_),(5,_),(6,_),(7,_)] [_,_,_,_,_,_]) (sB [0,1,2,3,4,5] I I)<|qV (gf:=135) (ps:=[11]) (ib:=ibM) (dd:=ddM) (items:=(Co.mem n f)) (fun i bx=>bx=[.r Fp<|yi 78 4 (jY K) Ap cp<|zB p n,.c g2 [isD<|.slice Ap (zB p n).length cp],.c g4 [isD<|.bool false,isD<|.slice none 0 0,isD<|.bool false,isD<|.slice none 0 0],.c g5 [iD 0],.c g6<|qKC K<|Co.mS p<|(Co.mem n f).take i,.c g7 [iD 0]]) (fun o i bx=>match o with | none=>False | some n=>False) (fun i x k σ=>σ=yb [(2,pA g2),(6,pA g6),(7,pA g7),(8,iD (x:Int))] [.r Fp<|yi 78 4 (jY K) Ap cp<|zB p n,.c g2 [isD<|.slice Ap (zB p n).length cp],.c g4 [isD<|.bool false,isD<|.slice none 0 0,isD<|.bool false,isD<|.slice none 0 0],.c g5 [iD 0],.c g6<|qKC K<|Co.mS p<|(Co.mem n f).take i,.c g7 [iD 0]]) qg (ZP n f hn) I (I) k9 (fun _ _=>I) ?_ ?_ ?_ ?_ ?_))))))))
 ·rintro i x k hx bx rfl y base w0;exact YE k9 (fun _ _ h=>h) (zf I<|zF<|jt (σ':=yb [(2,pA g2),(6,pA g6),(7,pA g7),(8,iD (x:Int))] [.r Fp<|yi 78 4 (jY K) Ap cp<|zB p n,.c g2 [isD<|.slice Ap (zB p n).length cp],.c g4 [isD<|.bool false,isD<|.slice none 0 0,isD<|.bool false,isD<|.slice none 0 0],.c g5 [iD 0],.c g6<|qKC K<|Co.mS p<|(Co.mem n f).take i,.c g7 [iD 0]]) I<|sB [0,1,2,3,4,5] I I)
 ·rintro i x k hx _ rfl y base w0;have hxn:=(Co.mem_of hx).1;have hxv:=hb x hxn;have h1:=mS_tk (i:=i) (f:=f) (M:=1267650600228229401496703205376) d9 hn hb;have hB1:BK K (Co.mS p<|(Co.mem n f).take i):=WR hK hk o9 o9;have hB2:BK K (p x):=WR hK hk o9 o9;have hB3:BK K ((Co.mS p<|(Co.mem n f).take i) + p x):=WR hK hk o9 o9
  exact qU (zbF<|j5 (g6 :: (g7 :: [])) (.q 0<|.r 1<|.r 2<|.r 3<|.r 4<|.n 5 (.r 6<|.r 7<|.r 8<|.e 9 (.e 10 .fin .no) .no) .no) k9 (fun _ _ h=>h) k9 k9 (fun d _ _ _ _ h=>by cases d <;> exact h)<|ZX I I (zx 4 4 I I k9 I zm)<|zl I I (zp 1 I I I k9<|ZR 4 I d9<|ZR 5 I d9 zm)<|zz I I<|zl I I (yf 0 4 I I I k9 k9 o9 (by rw [zW];omega))<|zl I I (VY 0 4 I I k9 (by simpa using yU hxn)<|ZR 4 I d9<|ZR 5 I d9 zm)<|yZ I (zv (zbx hB1 hB2 hB3) I ⟨zc _,zc _,t9⟩ I)<|zz I I<|zl I I (zo I I)<|zl I I (zo I I)<|Zm I (zA 4 I I I k9 I mC)<|Zm I (yW 5 I I I k9 I<|Jl _ mC)<|y9<|VX<|zbF<|YE k9 (fun _ _ h=>h)<|za I (zp 5 I I I k9 zm)<|za I (yv I I)<|zF<|VX<|zcG I I<|zes<|SN.block<|jt (σ':=yb [] [.r Fp<|yi 78 4 (jY K) Ap cp<|zB p n,.c g2 [isD<|.slice Ap (zB p n).length cp],.c g4 [isD<|.bool false,isD<|.slice none 0 0,isD<|.bool false,isD<|.slice none 0 0],.c g5 [iD 0],.c g6<|qKC K<|Co.mS p<|(Co.mem n f).take<|i + 1,.c g7 [iD 0]]) I<|⟨⟨_,I,t9⟩,[0,1,2,3,4,5],by decide,⟨lR rfl,⟨la rfl,⟨la rfl,⟨la rfl,⟨⟨_,rfl,(by rw [Co.mS_take hx];exact Zk _)⟩,⟨la rfl,trivial⟩⟩⟩⟩⟩⟩⟩)
 ·rintro dk0 bx rfl;refine SN.block (zj<|zn<|za I (zx 4 4 I I k9 I zm)<|zu (S:=[_]) (zA 2 I I I k9 I<|m9 I)<|zu (S:=[_]) (yW 3 I I I k9 I<|m9 I)<|ze<|jp (fn:=Tryz.f97) (fun _ _ h=>h)<|Kr 6 I<|RM.finR (()) [0] (Rs.le (Rs.two I (yx 2 I I k9)<|za7 3 I I k9 I) ?_) d9 ⟨lR I,t9⟩);exact Zf ⟨jB (by rw [Ji<|Js _]) (by rw [Ji<|Js _]),zc _,t9⟩
 ·rintro _ _ _ _ hX;exact hX.elim
 ·rintro _ _ _ hX;exact hX.elim
end
section
structure Rw where
 s:Bool
 b:LN
 t:Bool
 c:LN
def Rw.num (r:Rw):Int:=toZ r.s r.b
def Rw.den (r:Rw):Int:=toZ r.t r.c
def Rw.ok (r:Rw):Prop:=zbK r.s r.b r.t r.c=true∧r.den≤1000
def Rw.hi (r:Rw) (b:Int):Prop:=r.num < 0∨b * r.den < r.num
def qk (r:Rw):List D:=rratC r.s r.b r.t r.c
instance:Row qk 4:=⟨fun _=>rfl,fun x=>by unfold qk;infer_instance,by decide⟩
instance (r:Rw):Ones (qk r):=by unfold qk;infer_instance
theorem Rw.int {r:Rw} (hB:Byt r.b r.c) (h:zbK r.s r.b r.t r.c=true):∃ n d:Int,Good n d∧qk r=zak n d∧r.num=n∧r.den=d:=by
 obtain ⟨s,b,t,c⟩:=r;obtain ⟨n,d,hG,rfl,rfl,rfl,rfl⟩:=rvld_out hB.1 hB.2 h;exact ⟨n,d,hG,I,ja n,ja d⟩
open Classical in
noncomputable def vpE (rs:List Rw) (bd:Nat→Int) (n:Nat):Int:=if rs.length≠n then 2 else if ∃ (i:Nat) (r:Rw),rs[i]? =some r∧¬r.ok then 2 else if ∃ (i:Nat) (r:Rw),rs[i]? =some r∧r.hi (bd i) then 3 else 0
theorem vpE_len {rs:List Rw} {bd:Nat→Int} {n:Nat} (h:rs.length≠n):vpE rs bd n=2:=Jh h
theorem vpE_bad {rs:List Rw} {bd:Nat→Int} {n i:Nat} {r:Rw} (hr:rs[i]? =some r) (h:¬r.ok):vpE rs bd n=2:=by
 unfold vpE;rw [Jh (show ∃ (i:Nat) (r:Rw),rs[i]? =some r∧¬Rw.ok r from ⟨i,r,hr,h⟩)];split <;> rfl
theorem vpE_hi {rs:List Rw} {bd:Nat→Int} {n i:Nat} {r:Rw} (hl:rs.length=n) (ho:∀ (i:Nat) (r:Rw),rs[i]? =some r→r.ok) (hr:rs[i]? =some r) (h:r.hi (bd i)):vpE rs bd n=3:=by
 unfold vpE;rw [Jb (by simpa using hl),Jb (fun ⟨i,r,h1,h2⟩=>h2<|ho i r h1),Jh ⟨i,r,hr,h⟩]
theorem vpE_no {rs:List Rw} {bd:Nat→Int} {n:Nat} (hl:rs.length=n) (ho:∀ (i:Nat) (r:Rw),rs[i]? =some r→r.ok) (h:∀ (i:Nat) (r:Rw),rs[i]? =some r→¬r.hi (bd i)):vpE rs bd n=0:=by
 unfold vpE;rw [Jb (by simpa using hl),Jb (fun ⟨i,r,h1,h2⟩=>h2<|ho i r h1),Jb (fun ⟨i,r,h1,h2⟩=>h i r h1 h2)]
theorem zd2 {ds es:List D} (h:ds=es):LeAll ds es:=h ▸ Zk _
theorem K9 {n:Int}:n.sign < 0↔n < 0:=by
 rcases Int.lt_trichotomy n 0 with h | h | h
 ·rw [Int.sign_eq_neg_one_of_neg h];omega
 ·subst h;simp
 ·rw [Int.sign_eq_one_of_pos h];omega
theorem cmp_hi {n d b:Int}:zbM n d b 1 > 0↔b * d < n:=by
 show 0 < VA (n * 1) (b * d)↔_;rw [zfG,Int.mul_one]
theorem con_vpay (rs:List Rw) (bd:Nat→Int) (n:Nat) (hl:rs.length≤1000000) (hn:n≤6) (hby:∀ r∈rs,Byt r.b r.c) (hb:∀ i < n,0≤bd i∧bd i≤1099511627776):Con Tryz.prog 96 [lsD qk rs,lsD z7<|zB bd n] (iD<|vpE rs bd n):=by
 refine yy Tryz.func96 k9 I k9 fun base w0=>(zn<|zf I<|ze<|zh<|zn<|zd I<|za I (zT (e:=78) I k9)<|zd I<|za I (zT (e:=3) I k9)<|za I (yv I I)<|ze<|zC I (fun hb15=> ?_) (fun hb15=> ?_))
 ·skip
  refine zn (zf I<|ze<|zO (fn:=Tryz.f96) (fun _ _ h=>h)<|Rs.le (zG I<|zk I) ?_);exact zI (by rw [vpE_len (by have h:=hb15;simp [zW] at h;omega)])
 ·skip
  refine zq (zj<|zh<|zn<|zd I<|za I (zT (e:=78) I k9)<|zd I<|ze<|SW.block<|yd (ι:={i:Nat // i≤rs.length∧∀ j < i,∀ r:Rw,rs[j]? =some r→r.ok}) (fun i=>yb [(0,lsD qk rs),(1,lsD z7<|zB bd n),(16,lsD qk rs),(17,iD (rs.length:Int)),(18,iD (i.1:Int))] []) (fun i=>rs.length - i.1) (⟨0,JC _,fun _ h=>absurd h<|Nat.not_lt_zero _⟩) ?_ ?_)
  ·exact (sB [] I I)
  ·rintro ⟨i,hi,hp⟩ K0 hK0;dsimp only at hi hp ⊢;refine zn (za I (yc I I)<|ze<|zh<|zC I (fun hb19=> ?_) (fun hb19=> ?_))
   ·have h19:(i:Int) < (rs.length:Int):=oT hb19;refine zq (zj<|zh<|SW.block<|zh ?_);obtain ⟨x,hx⟩:∃ x,rs[i]? =some x:=⟨_,Je o9⟩;have hBx:=hby x (Jc hx);refine zi (za I (zU (e:=78) 4 I I k9 k9 o9 (by simpa using hx))<|za I (yn 4 I k9 d9 (show 4≤4 by decide) s9) (SWl.e2 (S:=[]) (Ef.alloc (zs:=[.bool false,.slice none 0 0,.bool false,.slice none 0 0]) k9 I) fun g6=>(zu (S:=[_]) (zA 0 I I I k9 I<|m9 I)<|ze<|zh ?_)))
    by_cases hval:zbK x.s x.b x.t x.c=true
    ·obtain ⟨nn,d,hG,hxe,hxn,hxd⟩:=Rw.int hBx hval
     refine SW.sub (σ':=yb [(0,_),(1,_),(16,_),(17,_),(18,_),(6,_)] [.c g6<|zak nn d]) (⟨⟨_,I,(sT I)⟩,[0],by decide,⟨⟨_,rfl,(zd2 hxe)⟩,trivial⟩⟩) (yl [] (.r 0<|.n 1 (rr [2,3,4,5]<|.n 6 (.n 7 (.r 8<|.r 9 .fin) .no) .no) .no) k9 k9 (fun d _ _ _ _ h=>by cases d <;> exact h)<|zl I I (zx 0 4 I I k9 I zm)<|yZ I (zv (ZO hG) I ⟨zc _,t9⟩ I)<|zl I I (yu I)<|zz I I<|zy I I I I I I (zg (n:=2) I k9)<|zy I I I I I I (zx 0 2 I I k9 I zm)<|Ys I I I (I) I (zv (Ki d9 d9) I ⟨zc _,t9⟩ I) ?_ yB)
     rintro _ rfl;refine Ys I I I (I) I (zv (qm hG.hd (by unfold ya;decide +kernel)) I ⟨zc _,zc _,t9⟩ I) ?_ yB;rintro _ rfl;refine zy I I I I I I (yV I I) (zl I I (zw I I I)<|yE<|zC I (fun hb31=> ?_) (fun hb31=> ?_))
     ·have h30:¬d≤1000:=fun h=>by have h2:=oT hb31;have:=zfG.1 h2;omega
      refine zn (zf I<|ze<|zO (fn:=Tryz.f96) (fun _ _ h=>h)<|Rs.le (zG I<|zk I) ?_);exact zI (by rw [vpE_bad hx (fun h=>h30 (by rw [← hxd];exact h.2))])
     ·have h30:d≤1000:=by have h2:=oF hb31;exact Int.not_lt.1 fun h=>h2 (zfG.2 h)
      exact zq (SN.block<|zj<|zi<|za I (Rd.add I I ⟨by omega,by omega⟩)<|zd I<|zF (fun aK wK hh=>hK0 (⟨i + 1,by omega,fun j hj r hr=>(Nat.lt_succ_iff_lt_or_eq.1 hj).elim (fun h=>hp j h r hr) (fun e=>by subst e;rw [hx] at hr;rw [← Option.some.inj hr];exact ⟨hval,by rw [hxd];exact h30⟩)⟩) (by dsimp only;omega) aK wK<|hh.sub<|⟨⟨_,I,⟨lq I,⟨lq I,⟨lq I,⟨lq I,⟨⟨_,I,zI s9⟩,t9⟩⟩⟩⟩⟩⟩,[],by decide,trivial⟩))
    ·have hval:=Bool.eq_false_iff.2 hval
     refine SW.sub (σ':=yb [(0,_),(1,_),(16,_),(17,_),(18,_),(6,_)] [_]) (sB [0] I I) (yl [] (.r 0<|.n 1 (rr [2,3,4,5]<|.n 6 (.n 7 (.r 8<|.r 9 .fin) .no) .no) .no) k9 k9 (fun d _ _ _ _ h=>by cases d <;> exact h)<|zl I I (zx 0 4 I I k9 I zm)<|yZ I (zv (zcg hBx hval) I ⟨zc _,t9⟩ I)<|zl I I (yu I)<|zz I I<|zD I I I I I I<|zD I I I I I I<|YK I I I (I) I I ?_ yB)
     refine YK I I I (I) I I ?_ yB;refine zD I I I I I I (zl I I (zE I I I)<|yE<|yj I I<|zn<|zf I<|ze<|zO (fn:=Tryz.f96) (fun _ _ h=>h)<|Rs.le (zG I<|zk I) ?_);exact zI (by rw [vpE_bad hx (fun h=>by rw [h.1] at hval;cases hval)])
   ·have h19:¬(i:Int) < (rs.length:Int):=oF hb19;refine zQ ?_
    repeat (first | refine zX ?_ | refine zY d9 ?_)
    refine zZ (zj<|zh<|zh ?_);have hok:∀ (i:Nat) (r:Rw),rs[i]? =some r→r.ok:=fun j r hr=>hp j (by have:=(Jg.1 hr).1;omega) r hr
    have hlen:rs.length=n:=by have h:=hb15;simp [zW] at h;omega
    refine zi (zd I<|za I (zT (e:=78) I k9)<|zd I<|ze<|SW.block<|yd (ι:={i:Nat // i≤rs.length∧∀ j < i,∀ r:Rw,rs[j]? =some r→¬r.hi (bd j)}) (fun i=>yb [(0,lsD qk rs),(1,lsD z7<|zB bd n),(33,lsD qk rs),(34,iD (rs.length:Int)),(35,iD (i.1:Int))] []) (fun i=>rs.length - i.1) (⟨0,JC _,fun _ h=>absurd h<|Nat.not_lt_zero _⟩) ?_ ?_)
    ·exact (sB [] I I)
    ·rintro ⟨i,hi,hp⟩ K1 hK1;dsimp only at hi hp ⊢;refine zn (za I (yc I I)<|ze<|zh<|zC I (fun hb36=> ?_) (fun hb36=> ?_))
     ·have h36:(i:Int) < (rs.length:Int):=oT hb36;refine zq (zj<|zh<|SW.block<|zh ?_)
      have hin:i < n:=by omega
      obtain ⟨x,hx⟩:∃ x,rs[i]? =some x:=⟨_,Je o9⟩;have hBx:=hby x (Jc hx);have hxo:=hok i x hx;obtain ⟨nn,d,hG,hxe,hxn,hxd⟩:=Rw.int hBx hxo.1;have hbi:=hb i hin;refine zi (zd I<|za I (zU (e:=78) 4 I I k9 k9 o9 (by simpa using hx))<|za I (yn 4 I k9 d9 (show 4≤4 by decide) s9) (SWl.e2 (S:=[]) (Ef.alloc (zs:=[.bool false,.slice none 0 0,.bool false,.slice none 0 0]) k9 I) fun g8=>(zf I<|zu (S:=[_]) (zA 0 I I I k9 I<|m9 I)<|ze<|zh<|SW.sub (σ':=yb [(0,_),(1,_),(33,_),(34,_),(35,_),(7,_),(8,_)] [.c g8<|zak nn d]) (⟨⟨_,I,(sT I)⟩,[0],by decide,⟨⟨_,rfl,(zd2 hxe)⟩,trivial⟩⟩)<|zi<|zd I<|zd I<|za I (zU (e:=3) 1 I I k9 k9 o9<|YI hin)<|za I (zS I I k9 s9)<|zu (S:=[]) (zv (con_ofE (n:=bd i) (N:=bd i) (D:=1) o9 o9 d9 d9 d9 (VZ<|i64_q o9 o9).rn (VZ<|i64_q o9 o9).rd) I ⟨zc _,zc _,t9⟩ I)<|zd I<|za I (zo I I)<|za I (zo I I) (SWl.e2 (S:=[]) (Ef.alloc (zs:=[.bool false,.slice none 0 0,.bool false,.slice none 0 0]) k9 I) fun g9=>(zu (S:=[_]) (zA 1 I I I k9 I<|m9 I)<|zf I<|ze<|zh<|zn<|zd I<|za I (yv I I)<|ze<|zK I I<|zq<|zj<|zn<|za I (zx 0 4 I I k9 I zm)<|zu (S:=[]) (zv (WF hG) I ⟨zc _,t9⟩ I)<|za I (yc I I) ?_)))))
      refine zd I (z1 54 I (fun hb54=> ?_) (fun hb54=> ?_))
      ·have h53:nn.sign < 0:=oT hb54;refine zt hb54 (zt hb54<|zt hb54<|zt hb54<|za I (zE I hb54 I)<|ze<|yj I I<|zn<|zf I<|ze<|zO (fn:=Tryz.f96) (fun _ _ h=>h)<|Rs.le (zG I<|zk I) ?_);exact zI (by rw [vpE_hi hlen hok hx<|.inl (by rw [hxn];exact K9.1 h53)])
      ·have h53:¬nn.sign < 0:=oF hb54;refine zJ hb54 (zx 0 4 I I k9 I zm) (zJ hb54 (zx 1 4 I I k9 I zm)<|yN (S:=[]) I I hb54 I (zv (KN hG<|VZ<|i64_q o9 o9) I ⟨zc _,zc _,t9⟩ I) ?_);rintro _ rfl;refine zJ hb54 (yV I I) (za I (zw I hb54 I)<|ze<|zC I (fun hb59=> ?_) (fun hb59=> ?_))
       ·have h58:=oT hb59;refine zn (zf I<|ze<|zO (fn:=Tryz.f96) (fun _ _ h=>h)<|Rs.le (zG I<|zk I) ?_);exact zI (by rw [vpE_hi hlen hok hx<|.inr (by rw [hxn,hxd];exact cmp_hi.1 h58)])
       ·have h58:=oF hb59;exact zq (SN.block<|zj<|zi<|za I (Rd.add I I ⟨by omega,by omega⟩)<|zd I<|zF (fun aK wK hh=>hK1 (⟨i + 1,by omega,fun j hj r hr=>(Nat.lt_succ_iff_lt_or_eq.1 hj).elim (fun h=>hp j h r hr) (fun e=>by subst e;rw [hx] at hr;rw [← Option.some.inj hr];exact fun hh=>hh.elim (fun h=>h53<|K9.2 (by rw [← hxn];exact h)) (fun h=>h58<|cmp_hi.2 (by rw [← hxn,← hxd];exact h)))⟩) (by dsimp only;omega) aK wK<|hh.sub<|⟨⟨_,I,⟨lq I,⟨lq I,⟨lq I,⟨lq I,⟨⟨_,I,zI s9⟩,t9⟩⟩⟩⟩⟩⟩,[],by decide,trivial⟩))
     ·have h36:¬(i:Int) < (rs.length:Int):=oF hb36;refine zQ ?_
      repeat (first | refine zX ?_ | refine zY d9 ?_)
      refine zZ (zj<|zn<|zf I<|ze<|zO (fn:=Tryz.f96) (fun _ _ h=>h)<|Rs.le (zG I<|zk I) ?_);exact zI (by rw [vpE_no hlen hok fun j r hr=>hp j (by have:=(Jg.1 hr).1;omega) r hr])
