/- WIRE: the writer. WIRE: numbers and bytes read, in plain terms. CALLS THAT PANIC and are lent boxes, in the words of Sy. Over any program. Slices of wh -/
import Derived.Test.YtgokpcnabgacnaaGreatDoorGZAN
set_option maxHeartbeats 8000000
set_option maxRecDepth 100000
namespace Go.Proofs.YtgokpcnabgacnaaGreatDoor
open Go.RowKit
namespace Sx
section
theorem KF (gw:Nat) (t:Ust) (o:LB) (n:Nat) (hn:n≤9223372036854775807) (ho:o.length + 10≤65536):ConR Tryz.prog 73 [.c gw [iD 0,isD<|.slice t.A (o).length t.c],.r t.F<|yP 5 1 Yt t.A t.c<|o] [pA gw,iD (n:Int)] (fun s:Ust=>[.c gw [iD 0,isD<|.slice s.A (o ++ grp n).length s.c],.r s.F<|yP 5 1 Yt s.A s.c<|o ++ grp n]) (fun s:Ust=>isD<|.tuple #[]):=by
 refine yg Tryz.func73 k9 V k9 fun base w0=>(zk<|zp<|zd V<|zt (S:=[]) (zD [0,1] (zbg o) V ⟨(yG 0 V d9 ⟨(zo<|zb _),(VF 1 V d9),t9⟩),t9⟩ V)<|za V (yS V)<|ze<|zE V V<|zr<|zn<|zk<|zp<|zd V<|za V (yF V V)<|ze<|zE V s9<|zr<|zn<|zi<|zd V<|zd V<|za V (zz V)<|za V (zc (n:=1) V k9)<|za V (zg 0 V V V k9 zh)<|zd V<|za V (ZU (r:=(n:Int)) .i64 V k9 k9<|u64_w o9 o9) (SWl.e2 (zC [1] (WG o t.A t.c t.F n o9 o9) V ⟨zb _,zb _,t9⟩ d9 ⟨lR V,t9⟩ (fun _ h=>h) V) fun sg=>(SWl.e2 (zC [0] (zdg gw (.slice t.A o.length t.c) sg.A _ sg.c (by have:=Zv (n:=n) o9;simp only [Jk];omega)) V ⟨zb _,zb _,t9⟩ d9 ⟨la V,t9⟩ (fun _ h=>h) V) fun _=>(zP ?_))));refine Z1 (fn:=Tryz.f73) (sg) [1,0] (Rs.none V) d9 (sX V)
theorem con_textS (gw:Nat) (t:Ust) (o:LB) (b:LB) (hb:o.length + b.length + 10≤65536):ConR Tryz.prog 200 [.c gw [iD 0,isD<|.slice t.A (o).length t.c],.r t.F<|yP 5 1 Yt t.A t.c<|o] [pA gw,yY b] (fun s:Ust=>[.c gw [iD 0,isD<|.slice s.A (o ++ j5 b).length s.c],.r s.F<|yP 5 1 Yt s.A s.c<|o ++ j5 b]) (fun s:Ust=>isD<|.tuple #[]):=by
 refine yg Tryz.func200 k9 V k9 fun base w0=>(zk<|zp<|zd V<|zt (S:=[]) (zD [0,1] (zbg o) V ⟨(yG 0 V d9 ⟨(zo<|zb _),(VF 1 V d9),t9⟩),t9⟩ V)<|za V (yS V)<|ze<|zE V V<|zr<|zn<|zk<|zp<|zd V<|za V (Kr V k9)<|za V (Zq V V)<|ze<|zE V (by simp;omega)<|zr<|zn<|zi<|zd V<|zd V<|za V (zz V)<|za V (zc (n:=1) V k9)<|za V (zg 0 V V V k9 zh)<|zd V<|za V (Kr V k9)<|za V (ZU (r:=((b.length:Nat):Int)) .i64 V k9 k9 (by exact u64_w o9 o9)) (SWl.e2 (zC [1] (WG o t.A t.c t.F b.length o9 o9) V ⟨zb _,zb _,t9⟩ d9 ⟨lR V,t9⟩ (fun _ h=>h) V) fun sg=>(zd V (SWl.e4 (Ef.appStr (e:=5) 1 V V V k9 k9 k9 k9 (by have:=Zv (n:=b.length) o9;simp only [Jk];omega) (fun _ h=>h) V) fun A24 F24 c24=>(SWl.e2 (zC [0] (zdg gw (.slice t.A o.length t.c) (⟨A24,c24,F24⟩:Ust).A _ (⟨A24,c24,F24⟩:Ust).c (by have:=Zv (n:=b.length) o9;simp only [Jk];omega)) V ⟨zb _,zb _,t9⟩ d9 ⟨la V,t9⟩ (fun _ h=>h) V) fun _=>(zP ?_))))))
 refine Z1 (fn:=Tryz.f200) (⟨A24,c24,F24⟩) [1,0] (Rs.none V) d9 ⟨⟨_,V,⟨zb _,zF (by rw [j5,Jq]),t9⟩⟩,⟨⟨_,V,ZZ (by rw [j5,Jq]) (by rw [j5,Jq])⟩,t9⟩⟩
theorem con_textB (gw:Nat) (t:Ust) (o:LB) (b:LB) (hb:o.length + b.length + 10≤65536):ConR Tryz.prog 130 [.c gw [iD 0,isD<|.slice t.A (o).length t.c],.r t.F<|yP 5 1 Yt t.A t.c<|o] [pA gw,bD b] (fun s:Ust=>[.c gw [iD 0,isD<|.slice s.A (o ++ j5 b).length s.c],.r s.F<|yP 5 1 Yt s.A s.c<|o ++ j5 b]) (fun s:Ust=>isD<|.tuple #[]):=by
 refine yg Tryz.func130 k9 V k9 fun base w0=>(zk<|zp<|zd V<|zt (S:=[]) (zD [0,1] (zbg o) V ⟨(yG 0 V d9 ⟨(zo<|zb _),(VF 1 V d9),t9⟩),t9⟩ V)<|za V (yS V)<|ze<|zE V V<|zr<|zn<|zk<|zp<|zd V<|za V (ZC (e:=5) V k9)<|za V (Zq V V)<|ze<|zE V (by simp;omega)<|zr<|zn<|zi<|zd V<|zd V<|za V (zz V)<|za V (zc (n:=1) V k9)<|za V (zg 0 V V V k9 zh)<|zd V<|za V (ZC (e:=5) V k9)<|za V (ZU (r:=((b.length:Nat):Int)) .i64 V k9 k9 (by rw [zx];exact u64_w o9 o9)) (SWl.e2 (zC [1] (WG o t.A t.c t.F b.length o9 o9) V ⟨zb _,zb _,t9⟩ d9 ⟨lR V,t9⟩ (fun _ h=>h) V) fun sg=>(zd V (SWl.e4 (yN 1 1 1 V V (SrcT.b V) k9 k9 (by have:=Zv (n:=b.length) o9;simp only [Jk];omega) d9 (fun _ h=>h) V) fun A24 F24 c24=>(SWl.e2 (zC [0] (zdg gw (.slice t.A o.length t.c) (⟨A24,c24,F24⟩:Ust).A _ (⟨A24,c24,F24⟩:Ust).c (by have:=Zv (n:=b.length) o9;simp only [Jk];omega)) V ⟨zb _,zb _,t9⟩ d9 ⟨la V,t9⟩ (fun _ h=>h) V) fun _=>(zP ?_))))))
 refine Z1 (fn:=Tryz.f130) (⟨A24,c24,F24⟩) [1,0] (Rs.none V) d9 ⟨⟨_,V,⟨zb _,zF (by rw [j5,Jq]),t9⟩⟩,⟨⟨_,V,ZZ (by rw [j5,Jq]) (by rw [j5,Jq])⟩,t9⟩⟩
theorem zfp (gw:Nat) (t:Ust) (o:LB) (b:LB) (hb:o.length + b.length + 10≤65536):ConR Tryz.prog 166 [.c gw [iD 0,isD<|.slice t.A (o).length t.c],.r t.F<|yP 5 1 Yt t.A t.c<|o] [pA gw,yY b] (fun s:Ust=>[.c gw [iD 0,isD<|.slice s.A (o ++ j5 b).length s.c],.r s.F<|yP 5 1 Yt s.A s.c<|o ++ j5 b]) (fun s:Ust=>isD<|.tuple #[]):=by
 refine yg Tryz.func166 k9 V k9 fun base w0=>(zi<|zd V<|zd V (SWl.e2 (zC [0,1] (con_textS gw t o b hb) V ⟨zb _,zb _,t9⟩ d9 (sX V) (fun _ h=>h) V) fun s6=>(zP ?_)));refine Z1 (fn:=Tryz.f166) (s6) [0,1] (Rs.none V) d9 (sX V)
theorem K3 (gw:Nat) (t:Ust) (o:LB) (b:LB) (hb:o.length + b.length + 10≤65536):ConR Tryz.prog 74 [.c gw [iD 0,isD<|.slice t.A (o).length t.c],.r t.F<|yP 5 1 Yt t.A t.c<|o] [pA gw,bD b] (fun s:Ust=>[.c gw [iD 0,isD<|.slice s.A (o ++ j5 b).length s.c],.r s.F<|yP 5 1 Yt s.A s.c<|o ++ j5 b]) (fun s:Ust=>isD<|.tuple #[]):=by
 refine yg Tryz.func74 k9 V k9 fun base w0=>(zi<|zd V<|zd V (SWl.e2 (zC [0,1] (con_textB gw t o b hb) V ⟨zb _,zb _,t9⟩ d9 (sX V) (fun _ h=>h) V) fun s6=>(zP ?_)));refine Z1 (fn:=Tryz.f74) (s6) [0,1] (Rs.none V) d9 (sX V)
theorem zc7 (gw:Nat) (t:Ust) (o:LB) (ho:o.length≤65536):ConR Tryz.prog 125 [.c gw [iD 0,isD<|.slice t.A (o).length t.c],.r t.F<|yP 5 1 Yt t.A t.c<|o] [pA gw] (fun _:Unit=>[.c gw [iD 0,isD<|.slice t.A (o).length t.c],.r t.F<|yP 5 1 Yt t.A t.c<|o]) (fun _:Unit=>Yk [bD o,iD 0]):=by
 refine yg Tryz.func125 k9 V k9 fun base w0=>(zp<|zf V<|zf V<|ze<|zk<|zp<|zd V<|za V (YS V V k9)<|ze<|zE V V<|zr<|zn<|zk<|zp<|zd V<|za V (zz V)<|za V (zc (n:=0) V k9)<|za V (zc (n:=0) V k9)<|za V (zg 0 V V V k9 zh)<|za V (ye V V)<|ze<|zE V d9<|zr<|zn<|zk<|Yf 5 1 Yt<|zi<|zd V<|za V (zz V)<|za V (zc (n:=1) V k9)<|za V (zg 0 V V V k9 zh) (SWl.e4 (yN 2 1 1 V V (YE 1 V V) k9 k9 (by simp <;> omega) d9 (fun _ h=>h) V) fun A21 F21 c21=>(zf V ?_)))
 refine zf V (ze<|qk 2 2 V V (Yc _) ?_);refine zQ (fn:=Tryz.f125) (()) [0,1] (fun _ _ h=>h) (ym V (zj V)<|zj V) d9 (sX V)
end
section
theorem zdP {a b s:Nat} (ha:a < 2 ^ s) (hc:a + 2 ^ s * b < 18446744073709551616):bits .or .u64 (a:Int) ((2 ^ s * b:Nat):Int)=((a + 2 ^ s * b:Nat):Int):=by
 have hb:2 ^ s * b < 18446744073709551616:=by omega
 have hx:a ||| 2 ^ s * b < 2 ^ 64:=Nat.or_lt_two_pow o9 o9;show IntKind.u64.wrap ((BitVec.ofInt 64 (a:Int) ||| BitVec.ofInt 64 ((2 ^ s * b:Nat):Int)).toNat:Int)=_;rw [BitVec.toNat_or,ofInt_u64 a o9,ofInt_u64 _ hb,wrap_u64 o9 o9];congr 1;have:=Nat.two_pow_add_eq_or_of_lt ha b;rw [Nat.or_comm];omega
theorem zaB {x s:Nat} (hs:s < 64) (hc:2 ^ s * x < 18446744073709551616):IntKind.u64.wrap ((x:Int) * 2 ^ (min s IntKind.u64.bits))=((2 ^ s * x:Nat):Int):=by
 have h1:min s IntKind.u64.bits=s:=XA (by simp [IntKind.bits];omega)
 have e:(x:Int) * 2 ^ s=((2 ^ s * x:Nat):Int):=by rw [Nat.mul_comm];simp
 rw [h1,e,wrap_u64 o9 o9]
theorem and127:∀ b:Fin 256,bits .and .u8 ((b.val:Nat):Int) 127=((b.val % 128:Nat):Int):=by decide +kernel
theorem zar {c:UInt8}:bits .and .u8 (c.toNat:Int) 127=((c.toNat % 128:Nat):Int):=and127 ⟨c.toNat,c.toNat_lt⟩
theorem pow7 {i:Nat} (h:i≤8):2 ^ (7 * i)≤72057594037927936:=JG (Nat.pow_le_pow_right d9 (show 7 * i≤56 by omega)) d9
theorem VN (i:Nat):128 ^ i=2 ^ (7 * i):=by rw [show (128:Nat)=2 ^ 7 from rfl,← Nat.pow_mul]
theorem u8_lt {c:UInt8}:c.toNat < 256:=c.toNat_lt
def rdg:Nat→Bool→LB→Except Int (Nat × Nat)
 | 0,_,_=> .error 6
 | _ + 1,_,[]=> .error 4
 | j + 1,fst,c :: p=>if c.toNat < 128 then (if c.toNat=0∧fst=false then .error 6 else .ok (c.toNat,1)) else match rdg j false p with
  | .error e=> .error e
  | .ok (n,m)=> .ok (c.toNat - 128 + 128 * n,m + 1)
theorem VL (f:Bool) (p:LB):rdg 0 f p= .error 6:=by cases p <;> rfl
theorem Kv:∀ {j:Nat} {f:Bool} {p:LB} {n m:Nat},rdg j f p= .ok (n,m)→n < 128 ^ j∧1≤m∧m≤p.length
 | 0,f,p,n,m,h=>by rw [VL] at h;cases h
 | j + 1,f,[],n,m,h=>by cases h
 | j + 1,f,c :: p,n,m,h=>by
  unfold rdg at h
  by_cases hc:c.toNat < 128
  ·rw [Jh hc] at h
   by_cases h0:c.toNat=0∧f=false
   ·rw [Jh h0] at h;cases h
   ·rw [Jb h0] at h;injection h with h;injection h with h1 h2;subst h1 h2
    have:128≤128 ^ (j + 1):=by rw [XI];have:=Nat.pow_pos (n:=j) (show 0 < 128 by decide);omega
    exact ⟨by omega,Js _,by simp⟩
  ·rw [Jb hc] at h;rcases hr:rdg j false p with e | ⟨n',m'⟩
   ·rw [hr] at h;cases h
   ·rw [hr] at h;injection h with h;injection h with h1 h2;obtain ⟨b1,b2,b3⟩:=Kv hr;have hcl:=u8_lt (c:=c);refine ⟨?_,by omega,by simp;omega⟩;rw [XI];omega
theorem rdg_err:∀ {j:Nat} {f:Bool} {p:LB} {e:Int},rdg j f p= .error e→e=4∨e=6
 | 0,f,p,e,h=>by rw [VL] at h;injection h with h;exact .inr h.symm
 | j + 1,f,[],e,h=>by injection h with h;exact .inl h.symm
 | j + 1,f,c :: p,e,h=>by
  unfold rdg at h
  by_cases hc:c.toNat < 128
  ·rw [Jh hc] at h
   by_cases h0:c.toNat=0∧f=false
   ·rw [Jh h0] at h;injection h with h;exact .inr h.symm
   ·rw [Jb h0] at h;cases h
  ·rw [Jb hc] at h;rcases hr:rdg j false p with e' | ⟨n',m'⟩
   ·rw [hr] at h;injection h with h;subst h;exact rdg_err hr
   ·rw [hr] at h;cases h
def GInv (b:LB) (k N M i a:Nat):Prop:=i≤9∧a < 128 ^ i∧∃ n m,rdg (9 - i) (decide (i=0)) (b.drop<|k + i)= .ok (n,m)∧a + 128 ^ i * n=N∧i + m=M
theorem GInv.start {b:LB} {k N M:Nat} (h:rdg 9 true (b.drop k)= .ok (N,M)):GInv b k N M 0 0:=⟨by omega,by decide,N,M,h,by simp,by simp⟩
theorem GInv.step {b:LB} {k N M i a:Nat} (h:GInv b k N M i a):i < 9∧∃ c,b[k + i]? =some c∧
  ((c.toNat < 128∧¬(c.toNat=0∧0 < i)∧a + 128 ^ i * (c.toNat % 128)=N∧i + 1=M)∨(¬c.toNat < 128∧GInv b k N M (i + 1) (a + 128 ^ i * (c.toNat % 128)))):=by
 obtain ⟨hi,ha,n,m,hr,hn,hm⟩:=h
 have hi9:i < 9:=by
  rcases Nat.lt_or_ge i 9 with h | h
  ·exact h
  ·rw [show 9 - i=0 by omega,VL] at hr;cases hr
 refine ⟨hi9,?_⟩;rw [show 9 - i=(8 - i) + 1 by omega] at hr;rcases hd:b.drop (k + i) with _ | ⟨c,p⟩
 ·rw [hd] at hr;cases hr
 have hc:b[k + i]? =some c:=by
  have:=JY (fun l=>l[0]?) hd;simpa using this
 have hp:b.drop (k + (i + 1))=p:=by
  have h2:(b.drop<|k + i).drop 1=p:=by rw [hd];rfl
  rw [List.drop_drop] at h2;exact h2
 refine ⟨c,hc,?_⟩;rw [hd] at hr;unfold rdg at hr;have hcl:=u8_lt (c:=c)
 by_cases h8:c.toNat < 128
 ·left
  rw [Jh h8] at hr
  by_cases h0:c.toNat=0∧decide (i=0)=false
  ·rw [Jh h0] at hr;cases hr
  ·rw [Jb h0] at hr;injection hr with hr;injection hr with h1 h2;subst h1 h2;rw [Nat.mod_eq_of_lt h8];refine ⟨h8,fun h=>h0 ⟨h.1,by simp;omega⟩,hn,hm⟩
 ·right
  rw [Jb h8] at hr;rcases hr2:rdg (8 - i) false p with e | ⟨n',m'⟩
  ·rw [hr2] at hr;cases hr
  ·rw [hr2] at hr;injection hr with hr;injection hr with h1 h2;subst h1 h2
   have e1:c.toNat - 128=c.toNat % 128:=by omega
   have e2:128 ^ (i + 1)=128 ^ i * 128:=XI 128 i;refine ⟨h8,by omega,?_,n',m',?_,?_,by omega⟩
   ·have hx:c.toNat % 128≤127:=by omega
    have:=Nat.mul_le_mul_left (128 ^ i) hx;rw [e2];omega
   ·rw [show 9 - (i + 1)=8 - i by omega,hp,show decide (i + 1=0)=false by simp];exact hr2
   ·rw [← hn,e1,e2,Nat.mul_add,Nat.mul_assoc];omega
def GBad (b:LB) (k:Nat) (E:Int) (i:Nat):Prop:=i≤9∧rdg (9 - i) (decide (i=0)) (b.drop<|k + i)= .error E
theorem GBad.start {b:LB} {k:Nat} {E:Int} (h:rdg 9 true (b.drop k)= .error E):GBad b k E 0:=⟨by omega,h⟩
theorem GBad.last {b:LB} {k:Nat} {E:Int} {i:Nat} (h:GBad b k E i) (hi:¬i < 9):E=6:=by
 obtain ⟨h1,h2⟩:=h;rw [show 9 - i=0 by omega,VL] at h2;injection h2 with h2;exact h2.symm
theorem GBad.short {b:LB} {k:Nat} {E:Int} {i:Nat} (h:GBad b k E i) (hi:i < 9) (hs:b.length≤k + i):E=4:=by
 obtain ⟨h1,h2⟩:=h;rw [show 9 - i=(8 - i) + 1 by omega,JZ hs] at h2;injection h2 with h2;exact h2.symm
theorem GBad.step {b:LB} {k:Nat} {E:Int} {i:Nat} {c:UInt8} (h:GBad b k E i) (hi:i < 9) (hc:b[k + i]? =some c):(c.toNat < 128∧c.toNat=0∧0 < i∧E=6)∨(¬c.toNat < 128∧GBad b k E (i + 1)):=by
 obtain ⟨h1,h2⟩:=h;have hl:=(Jg.1 hc).1
 have hd:b.drop (k + i)=c :: b.drop (k + (i + 1)):=by
  rw [List.drop_eq_getElem_cons hl,(Jg.1 hc).2];rfl
 rw [show 9 - i=(8 - i) + 1 by omega,hd] at h2;unfold rdg at h2
 by_cases h8:c.toNat < 128
 ·rw [Jh h8] at h2
  by_cases h0:c.toNat=0∧decide (i=0)=false
  ·rw [Jh h0] at h2;injection h2 with h2;exact .inl ⟨h8,h0.1,by have:=h0.2;simp at this;omega,h2.symm⟩
  ·rw [Jb h0] at h2;cases h2
 ·rw [Jb h8] at h2;refine .inr ⟨h8,by omega,?_⟩;rcases hr:rdg (8 - i) false (b.drop<|k + (i + 1)) with e | ⟨n',m'⟩
  ·rw [hr] at h2;injection h2 with h2;subst h2;rw [show 9 - (i + 1)=8 - i by omega,show decide (i + 1=0)=false by simp];exact hr
  ·rw [hr] at h2;cases h2
def rdC (lim:Int) (p:LB):Except Int (Nat × Nat):=match rdg 9 true p with
 | .error e=> .error e
 | .ok (n,m)=>if lim < (n:Int) then .error 7 else .ok (n,m)
theorem zaF {lim:Int} {p:LB} {n m:Nat} (h:rdC lim p= .ok (n,m)):rdg 9 true p= .ok (n,m)∧(n:Int)≤lim:=by
 unfold rdC at h;rcases hr:rdg 9 true p with e | ⟨n',m'⟩
 ·rw [hr] at h;cases h
 ·rw [hr] at h
  by_cases hl:lim < (n':Int)
  ·simp only [Jh hl] at h;cases h
  ·simp only [Jb hl] at h;injection h with h;injection h with h1 h2;subst h1 h2;exact ⟨V,by omega⟩
theorem zfa {lim:Int} {p:LB} {E:Int} (h:rdC lim p= .error E):rdg 9 true p= .error E∨(∃ n m,rdg 9 true p= .ok (n,m)∧lim < (n:Int)∧E=7):=by
 unfold rdC at h;rcases hr:rdg 9 true p with e | ⟨n',m'⟩
 ·rw [hr] at h;injection h with h;subst h;exact .inl rfl
 ·rw [hr] at h
  by_cases hl:lim < (n':Int)
  ·simp only [Jh hl] at h;injection h with h;exact .inr ⟨n',m',rfl,hl,h.symm⟩
  ·simp only [Jb hl] at h;cases h
def rdP (lim:Int) (p:LB):Except Int (LB × Nat):=match rdC lim p with
 | .error e=> .error e
 | .ok (n,m)=>if p.length < m + n then .error 4 else .ok ((p.drop m).take n,m + n)
theorem zb9 {lim:Int} {p q:LB} {m:Nat} (h:rdP lim p= .ok (q,m)):∃ n k,rdC lim p= .ok (n,k)∧k + n≤p.length∧q=(p.drop k).take n∧m=k + n:=by
 unfold rdP at h;rcases hr:rdC lim p with e | ⟨n,k⟩
 ·rw [hr] at h;cases h
 ·rw [hr] at h
  by_cases hl:p.length < k + n
  ·simp only [Jh hl] at h;cases h
  ·simp only [Jb hl] at h;injection h with h;injection h with h1 h2;exact ⟨n,k,V,by omega,h1.symm,h2.symm⟩
theorem ze9 {lim:Int} {p:LB} {E:Int} (h:rdP lim p= .error E):rdC lim p= .error E∨(∃ n k,rdC lim p= .ok (n,k)∧p.length < k + n∧E=4):=by
 unfold rdP at h;rcases hr:rdC lim p with e | ⟨n,k⟩
 ·rw [hr] at h;injection h with h;subst h;exact .inl rfl
 ·rw [hr] at h
  by_cases hl:p.length < k + n
  ·simp only [Jh hl] at h;injection h with h;exact .inr ⟨n,k,rfl,hl,h.symm⟩
  ·simp only [Jb hl] at h;cases h
end
section
section
variable {P:Program}{Γ:Cx}{σ σ':St}{Q:Exit→Act→World→Prop}{a:Act}{w:World}{ops:Array Oper}{rest:List Oper}{S:List Nat}{dst:Option Tmp}{ty:TypeId}{pos:String}{af:Array Edge}{gd:Option (Nat × Bool)}
structure ConPR (P:Program) (f:FuncId) (pre:List Box) (ad:List D) {ι:Type} (post:ι→List Box) (ch:List PanicEntry):Prop where
 en:ju P f
 go:∀ (L:LN) (w:World) (vs:List Value),(∀ x∈L,x < w.heap.size)→glob.R w→(∀ g∈fps pre,g∉glob.F)→(∀ g∈fps pre,g∉L)→(fps pre).Nodup→(∀ b∈pre,b.R (fps pre ++ L) w)→All (fps pre ++ L) w ad vs→
  Calls P f vs.toArray w fun e w'=>∃ i,e= .panicked ch∧(∀ b∈post i,b.R (fps (post i) ++ L) w')∧(fps<|post i).Nodup∧(∀ g∈fps (post i),g∈fps pre∨w.heap.size≤g)∧Only (fps pre) w w'
theorem qU {f : FuncId} {fn : Func} {c : Code} {pre : List Box} {ad : List D} {ι : Type} {post : ι → List Box} {ch : List PanicEntry} (hf : P.funcs[f]? = some fn) (hn : (fn.name == "runtime.NumGoroutine") = false) (hb : fn.body = some c) (hlen : Nat.ble ad.length fn.ntmps = true)
  (h:∀ (base:LN) (w0:World),SW P ⟨fn.ntmps,base,w0,fps pre,[]⟩ (zN (Wy 0 ad) pre) c (bodyPost P fn fun e w'=>∃ i,e= .panicked ch∧(∀ b∈post i,b.R (fps (post i) ++ base) w')∧(fps<|post i).Nodup∧(∀ g∈fps (post i),g∈fps pre∨w0.heap.size≤g)∧Only (fps pre) w0 w')):ConPR P f pre ad post ch:=by
 refine ⟨enters_of hf hn (by rw [hb];rfl),fun L w vs hL hG hgF hg hnd hbk ha=> ?_⟩;refine calls_of_wp hf hb (h L w _ _ ?_);have hl:=ha.length
 have hle:ad.length≤fn.ntmps:=by simpa using hlen
 refine ⟨V,by simp [hl];omega,fun i e hi=> ?_,hbk,hnd,fun g hg=> .inr hg,Only.refl _ _,hL,hg,hG,hgF⟩;have:=qh (pre:=[]) (post:=List.replicate (fn.ntmps - vs.length) undef) ha rfl i e hi
 have e1:vs.toArray ++ Array.replicate (fn.ntmps - vs.toArray.size) undef=([] ++ vs ++ List.replicate (fn.ntmps - vs.length) undef).toArray:=by
  apply Xe;simp
 rw [e1];exact this
theorem Kx {fn:Func} {ch:List PanicEntry} {nt:Nat} {base:LN} {w0:World} {pre:List Box} {ι:Type} {post:ι→List Box} (i:ι) (js:LN) (hjs:js.Nodup) (hb:SubBx σ.bx js (post i)):
  SP ⟨nt,base,w0,fps pre,[]⟩ ch (bodyPost P fn fun e w'=>∃ i,e= .panicked ch∧(∀ b∈post i,b.R (fps (post i) ++ base) w')∧(fps<|post i).Nodup∧(∀ g∈fps (post i),g∈fps pre∨w0.heap.size≤g)∧Only (fps pre) w0 w') σ:=fun a w hh=>by
 have hid:∀ g∈fps (post i),g∈fps σ.bx:=by
  intro g hg;obtain ⟨b',h3,h4⟩:=yD.1 hg;obtain ⟨j,b,_,h5,h6⟩:=Ye hb b' h3;exact yD.2 ⟨b,Jc h5,by rw [h6.1];exact h4⟩
 have hL:∀ x∈fps (post i) ++ base,x∈σ.L ⟨nt,base,w0,fps pre,[]⟩∨w.heap.size≤x:=fun x hx=>by
  rcases Jf.1 hx with hx | hx
  ·exact .inl (mL _<|hid x hx)
  ·exact .inl (mR _ hx)
 refine ⟨hh.df,i,V,fun b' hb'=> ?_,YD hh.nd hjs hb,fun g hg=> ?_,hh.on⟩
 ·obtain ⟨j,b,_,h5,h6⟩:=Ye hb b' hb';exact h6.2 _ _ (Box.less (hh.bx b<|Jc h5) hL)
 ·rcases hh.nw g (hid g hg) with h' | h'
  ·exact .inr h'
  ·exact .inl h'
theorem ze0 {f:FuncId} {vs:List Value} {pre:List Box} {ad:List D} {ι:Type} {post:ι→List Box} {ch:List PanicEntry} {a:Act} {w:World} (hcon:ConPR P f pre ad post ch) (hh:Holds Γ σ a w) {js:LN} (hjs:js.Nodup) (hs:SubBx σ.bx js pre) (hall:All (σ.L Γ) w ad vs):
  Calls P f vs.toArray w fun e w'=>∃ i,e= .panicked ch∧Holds Γ (σ.give js<|post i) a w':=by
 have hL1:∀ x∈fps pre ++ (σ.L Γ).filter (· ∉fps pre),x∈σ.L Γ∨w.heap.size≤x:=fun x hx=>by
  rcases Jf.1 hx with hx | hx
  ·exact .inl (mL _<|hs.fps hx)
  ·exact .inl (Jw.1 hx).1
 refine (hcon.go ((σ.L Γ).filter (· ∉fps pre)) w vs (fun x hx=>hh.lt x (Jw.1 hx).1) hh.gl (fun g hg=>hh.off g<|hs.fps hg) (fun g hg hm=>by have:=(Jw.1 hm).2;simp at this;exact this hg) (YD hh.nd hjs hs) (fun b' hb'=> ?_)<|hall.less hL1).mono ?_
 ·obtain ⟨j,c,_,h5,h6⟩:=Ye hs b' hb';exact h6.2 _ _ (Box.less (hh.bx c<|Jc h5) hL1)
 ·rintro r w' ⟨i,rfl,hR,hnd,hnw,ho⟩;exact ⟨i,V,(hh.give hs ho hR hnd hnw).1⟩
theorem jU {f:FuncId} {args:Array Operand} {aT:Array TypeId} {pre:List Box} {ad es:List D} {ι:Type} {post:ι→List Box} {ch:List PanicEntry} (js:LN) (hcon:ConPR P f pre ad post ch) (he:σ.evs args.toList=some es) (hl:LeAll es ad) (hjs:js.Nodup) (hs:SubBx σ.bx js pre) (h:∀ i,SP Γ ch Q<|σ.give js<|post i):
  SWl P Γ ops Q (⟨dst,.call { callee:= .value<|.func f,args:=args,argTypes:=aT },ty,pos,af,none⟩ :: rest) σ:=fun a w hh=>by
 have hall:=hl.all (ZW hh he);refine J4 V fun K hK=> ?_;unfold Oper.wp;rw [qr (cap:=[]) hcon.en (show a.eval (.func f)= .func (.func f) #[] ([]:List Value).toArray from rfl),JS];simp only [Oper.upon];refine (ze0 hcon hh hjs hs hall).mono ?_;rintro r w' ⟨i,rfl,h1⟩;exact h i a w' h1
theorem Vs {x:Operand} {f:FuncId} {args:Array Operand} {aT:Array TypeId} {cap:List Value} {pre:List Box} {ad es:List D} {ι:Type} {post:ι→List Box} {ch:List PanicEntry} (js:LN) (hcon:ConPR P f pre ad post ch) (hx:σ.ev x=some (isD<|.func (.func f) #[] cap.toArray)) (he:σ.evs args.toList=some es) (hl:LeAll (es ++ cap.map isD) ad) (hjs:js.Nodup) (hs:SubBx σ.bx js pre) (h:∀ i,SP Γ ch Q<|σ.give js<|post i):
  SWl P Γ ops Q (⟨dst,.call { callee:= .value x,args:=args,argTypes:=aT },ty,pos,af,none⟩ :: rest) σ:=fun a w hh=>by
 have hall:=hl.all (all_cap cap<|ZW hh he);refine J4 V fun K hK=> ?_;unfold Oper.wp;rw [qr hcon.en (show a.eval x=_ from zT hh hx)];simp only [Oper.upon];refine (ze0 hcon hh hjs hs hall).mono ?_;rintro r w' ⟨i,rfl,h1⟩;exact h i a w' h1
theorem zcC {l:List Oper} {i0:Nat} {tz uz:Reg.Tz} {f:FuncId} {args:Array Operand} {aT:Array TypeId} {pre:List Box} {ad es:List D} {ι:Type} {post:ι→List Box} {ch:List PanicEntry} (ho:l[i0]? =some ⟨dst,.call { callee:= .value<|.func f,args:=args,argTypes:=aT },ty,pos,af,none⟩) (js:LN) (hcon:ConPR P f pre ad post ch) (he:σ.evs args.toList=some es) (hl:LeAll es ad) (hjs:js.Nodup) (hs:SubBx σ.bx js pre) (h:∀ i,SP Γ ch Q<|σ.give js<|post i) (hu:SWz P Γ l Q S uz σ):SWz P Γ l Q S (.e i0 tz uz) σ:=by
 intro a w hh
 have e:l.getD i0 default=⟨dst,.call { callee:= .value<|.func f,args:=args,argTypes:=aT },ty,pos,af,none⟩:=by rw [Jr,ho];rfl
 have hall:=hl.all (ZW hh he);unfold Reg.wpG;rw [e];refine ⟨J4 V fun K hK=> ?_,hu a w hh⟩;unfold Oper.wp;rw [qr (cap:=[]) hcon.en (show a.eval (.func f)= .func (.func f) #[] ([]:List Value).toArray from rfl),JS];simp only [Oper.upon];refine (ze0 hcon hh hjs hs hall).mono ?_;rintro r w' ⟨i,rfl,h1⟩;exact h i a w' h1
theorem qD {k:Nat} {op:Op} {d:D} (h:Rd P Γ [] ⟨some k,op,ty,pos,af,gd⟩ σ d) (hk:yE Γ.nt k=true):Ef P Γ S ⟨some k,op,ty,pos,af,gd⟩ σ (fun σ'=>σ'=σ.put k d):=by
 intro a w hh K Q hK;obtain ⟨v,h1,h2⟩:=h a w hh;have h3:=h2 w (Only.refl _ _);unfold Oper.wp;rw [h3];exact hK _ _ _ V (hh.put (by simpa [yE] using hk) h1) (Only.refl _ _)
theorem SN.retDf {fn:Func} {nt:Nat} {base:LN} {w0:World} {pre post:List Box} (js:LN) (h:Rs P ⟨nt,base,w0,fps pre,[]⟩ fn σ (isD<|.tuple #[])) (hjs:js.Nodup) (hb:SubBx σ.bx js post):
  SN ⟨nt,base,w0,fps pre,[]⟩ (bodyPost P fn (fun e w'=>(∃ r,e= .returned r)∧(∀ b∈post,b.R (fps post ++ base) w')∧(fps post).Nodup∧(∀ g∈fps post,g∈fps pre∨w0.heap.size≤g)∧Only (fps pre) w0 w')) σ:=by
 intro a w hh;obtain ⟨v,h1,i,v',h2,h3,h4⟩:=Sx.retR (post:=fun _:Unit=>post) (d:=fun _=>isD<|.tuple #[]) () js h hjs hb hh;exact bodyPost_end h1 hh.df ⟨⟨v,V⟩,h4⟩
theorem SW.retDf {fn:Func} {nt:Nat} {base:LN} {w0:World} {pre post:List Box} (hQ:∀ a w,bodyPost P fn (fun e w'=>(∃ r,e= .returned r)∧(∀ b∈post,b.R (fps post ++ base) w')∧(fps post).Nodup∧(∀ g∈fps post,g∈fps pre∨w0.heap.size≤g)∧Only (fps pre) w0 w') .ret a w→Q .ret a w) (js:LN) (h:Rs P ⟨nt,base,w0,fps pre,[]⟩ fn σ (isD<|.tuple #[])) (hjs:js.Nodup) (hb:SubBx σ.bx js post):SW P ⟨nt,base,w0,fps pre,[]⟩ σ .ret Q:=by
 intro a w hh;refine wp_ret (hQ a w ?_);obtain ⟨v,h1,i,v',h2,h3,h4⟩:=Sx.retR (post:=fun _:Unit=>post) (d:=fun _=>isD<|.tuple #[]) () js h hjs hb hh;exact bodyPost_ret h1 hh.df ⟨⟨v,V⟩,h4⟩
end
end
section
section
variable {P:Program}{Γ:Cx}{σ:St}{S:List Nat}{dst:Option Tmp}{ty:TypeId}{pos:String}{af:Array Edge}{gd:Option (Nat × Bool)}{d d':D}
theorem at_sl {L:LN} {w:World} {A:Option Addr} {lo c sz:Nat} {ds:List D} (ha:At L w A ds) (h:lo * sz < ds.length→c≠lo):At L w (if c=lo then A else A.map (·.add (lo * sz))) (ds.drop<|lo * sz):=by
 intro h0;rw [JA] at h0;rw [Jb<|h o9];obtain ⟨g,o,rfl,_⟩:=ha o9
 have e3:(some (⟨g,o,none⟩:Addr)).map (·.add (lo * sz))=some ⟨g,o + lo * sz,none⟩:=by simp [Xg]
 rw [e3];exact At.drop (lo * sz) ha (by rw [JA];omega)
theorem Rd.slD1 {x y:Operand} {T e lo:Nat} {α:Type} {enc:α→List D} {l:List α} {ky:IntKind} {dx:D} (sz:Nat) [Row enc sz] (hx:σ.ev x=some dx) (hl:Le dx (lsD enc l)) (hy:σ.ev y=some (isD<|.int ky (lo:Int))) (hT:ZS P T e=true) (hs:(P.info? e).map (·.size)=some sz) (h2:lo≤l.length):
  Rd P Γ S ⟨dst,.slice T x (some y) none none,ty,pos,af,gd⟩ σ (lsD enc<|l.drop lo):=by
 intro a w hh;obtain ⟨A,c,hxv,hc,ha⟩:=hl _ _ _ (zT hh hx);have hyv:a.eval y= .int ky (lo:Int):=zT hh hy;obtain ⟨inf,hi',hsz⟩:=Jy.1 hs
 have hrun:∀ w',(execOp a.eval ⟨dst,.slice T x (some y) none none,ty,pos,af,gd⟩).run P w'= .ok (.value<|.slice (if c=lo then A else A.map (·.add (lo * sz))) (l.length - lo)<|c - lo) w':=fun w'=>by
  simp [execOp,hxv,hyv,Instr.sliceAt,Instr.slice,Instr.sliceBounds,Instr.sliceBound,asIntOf,Jp<|yo hT,sizeOf,typeInfo,hi',hsz,h2]
 refine ⟨_,⟨_,_,by rw [JA],by rw [JA];omega,?_⟩,fun w' _=>hrun w'⟩;rw [KX (sz:=sz)];refine at_sl ha (fun h0 e=> ?_);rw [qE (enc:=enc) (sz:=sz)] at h0;have:=Nat.lt_of_mul_lt_mul_right h0;omega
theorem Rd.slD2 {x y z:Operand} {T e lo hi:Nat} {α:Type} {enc:α→List D} {l:List α} {ky kz:IntKind} {dx:D} (sz:Nat) [Row enc sz] (hx:σ.ev x=some dx) (hl:Le dx (lsD enc l)) (hy:σ.ev y=some (isD<|.int ky (lo:Int))) (hz:σ.ev z=some (isD<|.int kz (hi:Int))) (hT:ZS P T e=true) (hs:(P.info? e).map (·.size)=some sz) (h1:lo≤hi) (h2:hi≤l.length):
  Rd P Γ S ⟨dst,.slice T x (some y) (some z) none,ty,pos,af,gd⟩ σ (lsD enc<|(l.take hi).drop lo):=by
 intro a w hh;obtain ⟨A,c,hxv,hc,ha⟩:=hl _ _ _ (zT hh hx);have hyv:a.eval y= .int ky (lo:Int):=zT hh hy;have hzv:a.eval z= .int kz (hi:Int):=zT hh hz;obtain ⟨inf,hi',hsz⟩:=Jy.1 hs
 have e1:hi≤c:=by omega
 have hrun:∀ w',(execOp a.eval ⟨dst,.slice T x (some y) (some z) none,ty,pos,af,gd⟩).run P w'= .ok (.value<|.slice (if c=lo then A else A.map (·.add (lo * sz))) (hi - lo)<|c - lo) w':=fun w'=>by
  simp [execOp,hxv,hyv,hzv,Instr.sliceAt,Instr.slice,Instr.sliceBounds,Instr.sliceBound,asIntOf,Jp<|yo hT,sizeOf,typeInfo,hi',hsz,e1,h1]
 have hln:((l.take hi).drop lo).length=hi - lo:=by rw [JA,JE];omega
 refine ⟨_,⟨_,_,by rw [hln],by rw [hln];omega,?_⟩,fun w' _=>hrun w'⟩;rw [KX (sz:=sz),za1 (sz:=sz)];refine at_sl (ha.take _) (fun h0 e=> ?_);rw [JE] at h0;have:lo < hi:=Nat.lt_of_mul_lt_mul_right (a:=sz) o9;omega
end
end
section
abbrev zhZ (e:Int):List PanicEntry:=pan (.iface 35<|.int .i64 e)
theorem i64_w {n:Nat} (h:n < 9223372036854775808):IntKind.i64.wrap (n:Int)=(n:Int):=by rw [IntKind.wrap_i64];omega
theorem zb5 {n:Nat} (h:n < 128 ^ 9):n < 9223372036854775808:=Ju h d9
theorem part_eq (b:LB) (k m n:Nat):(b.take<|k + m + n).drop (k + m)=((b.drop k).drop m).take n:=by
 rw [List.drop_drop,List.drop_take];congr 1;omega
theorem zgv (gr:Nat) (b:LB) (k:Nat) (e:Int) (hb:b.length≤1000000) (c:UInt8) (hc:b[k]? =some c):ConR Tryz.prog 207 [.c gr [iD e,yj true,bD b,iD ((k:Nat):Int)]] [pA gr] (fun _:Unit=>[.c gr [iD e,yj true,bD b,iD ((k + 1:Nat):Int)]]) (fun _:Unit=>isD<|B8 c):=by
 have hkl:=(Jg.1 hc).1
 refine yg Tryz.func207 k9 V k9 fun base w0=>(zp<|zf V<|ze<|zk<|zk<|yh [] (rr [0,1,2,3,4,5,6,7,8,9] .fin) k9 k9 (fun d _ _ _ _ h=>by cases d <;> exact h)<|zL V V<|zl V V (zz V)<|zl V V (zc (n:=3) V k9)<|zl V V (zg 0 V V V k9 zh)<|zL V V<|zl V V (zz V)<|zl V V (zc (n:=2) V k9)<|zl V V (zg 0 V V V k9 zh)<|zl V V (ZC (e:=5) V k9)<|zl V V (ZB V V)<|yI<|zE V (by apply Jd;rw [zx];omega)<|zr<|zn<|zk<|yh [] (rr [0,1,2,3,4,5,6,7,8,9,10] .fin) k9 k9 (fun d _ _ _ _ h=>by cases d <;> exact h)<|zL V V<|zl V V (zz V)<|zl V V (zc (n:=2) V k9)<|zl V V (zg 0 V V V k9 zh)<|zL V V<|zl V V (zz V)<|zl V V (zc (n:=3) V k9)<|zl V V (zg 0 V V V k9 zh)<|zl V V (jm (e:=5) V V k9 k9 o9 (show (cellsOf b)[_]? =some (B8 c) from by simp [cellsOf,hc]))<|zl V V (YF V k9 s9)<|Zh V V<|yI<|zk ?_)
 refine zi (zd V<|za V (zz V)<|za V (zc (n:=3) V k9)<|za V (zg 0 V V V k9 zh)<|za V (yC V V ⟨by omega,by omega⟩)<|za V (zz V)<|za V (zc (n:=3) V k9)<|zt (S:=[_]) (zR 0 V V V k9 V<|m9 V)<|zV<|zd V<|zf V<|ze ?_);refine zQ (fn:=Tryz.f207) (()) [0] (fun _ _ h=>h) (Rs.one V<|zj V) d9 ⟨⟨_,V,⟨zb _,zb _,zb _,zF s9,t9⟩⟩,t9⟩
theorem zei (gr:Nat) (b:LB) (k:Nat) (e:Int) (hb:b.length≤1000000) (h:b.length≤k):ConPR Tryz.prog 207 [.c gr [iD e,yj true,bD b,iD ((k:Nat):Int)]] [pA gr] (fun _:Unit=>[.c gr [iD e,yj true,bD b,iD ((k:Nat):Int)]]) (zhZ 4):=by
 refine qU Tryz.func207 k9 V k9 fun base w0=>(zp<|zf V<|ze<|zk<|zk<|yh [] (rr [0,1,2,3,4,5,6,7,8,9] .fin) k9 k9 (fun d _ _ _ _ h=>by cases d <;> exact h)<|zL V V<|zl V V (zz V)<|zl V V (zc (n:=3) V k9)<|zl V V (zg 0 V V V k9 zh)<|zL V V<|zl V V (zz V)<|zl V V (zc (n:=2) V k9)<|zl V V (zg 0 V V V k9 zh)<|zl V V (ZC (e:=5) V k9)<|zl V V (ZB V V)<|yI<|zW V (by apply Jo;rw [zx];omega)<|zi<|za V (Wk V (zb _) k9)<|KO V ?_)
 repeat (first | refine SP.then ?_ | refine SP.block ?_)
 exact Kx (()) [0] d9 ⟨la V,t9⟩
theorem zbl (gr:Nat) (b:LB) (k:Nat) (e:Int) (hb:b.length≤1000000) (N M:Nat) (h:rdg 9 true (b.drop k)= .ok (N,M)):ConR Tryz.prog 182 [.c gr [iD e,yj true,bD b,iD ((k:Nat):Int)]] [pA gr,iD 9] (fun _:Unit=>[.c gr [iD e,yj true,bD b,iD ((k + M:Nat):Int)]]) (fun _:Unit=>isD<|.int .u64 (N:Int)):=by
 refine yg Tryz.func182 k9 V k9 fun base w0=>(zp<|zf V<|zV<|zf V<|ze<|zk<|zp<|zd V<|zd V<|ze<|zX<|Zw (ι:={p:Nat × Nat // GInv b k N M p.1 p.2}) (fun ⟨(i,z),hI⟩=>zN [(0,pA gr),(9,iD 9),(10,iD (i:Int)),(5,isD<|.int .u64 (z:Int))] [.c gr [iD e,yj true,bD b,iD ((k + i:Nat):Int)]]) (fun ⟨(i,z),hI⟩=>9 - i) (⟨(0,0),GInv.start h⟩) ?_ ?_)
 ·exact (sB [0] V V)
 ·rintro ⟨⟨i,z⟩,hI⟩ K0 hK0;dsimp only at hI ⊢;obtain ⟨hi9,c,hc,hcs⟩:=hI.step;have hkl:=(List.getElem?_eq_some_iff.1 hc).1
  have hal:z < 2 ^ (7 * i):=by rw [← VN];exact hI.2.1
  have hp7:=pow7 (show i≤8 by omega);have hx:c.toNat % 128 < 128:=Nat.mod_lt _ d9;have hmul:2 ^ (7 * i) * (c.toNat % 128)≤9151314442816847872:=JG (Nat.mul_le_mul_left _ (show c.toNat % 128≤127 by omega)) (Nat.mul_le_mul_right 127 hp7);refine zp (za V (yF V V)<|ze<|zk<|zW V (by apply Jo;omega)<|zr<|zn<|zk<|zX<|zp<|zd V<|zf V<|zV<|zd V (SWl.e2 (zC [0] (zgv gr b (k + i) e hb c hc) V ⟨zb _,t9⟩ d9 ⟨la V,t9⟩ (fun _ h=>h) V) fun _=>(zf V<|ze<|zk ?_)));rcases hcs with ⟨h8,hn0,hN,hM⟩ | ⟨h8,hg⟩
  ·skip
   refine zi (zd V<|za V (zdt (r:=((c.toNat % 128:Nat):Int)) V V zar)<|za V (ZU (r:=((c.toNat % 128:Nat):Int)) .u8 V k9 k9<|wrap_u64 o9 o9)<|zf V<|ze<|zk<|zp<|zd V<|za V (yM V V)<|zd V<|zh1 V V (by apply Jd;omega) V V<|zh1 V V (by apply Jd;omega) V V<|za V (zv V (by apply Jd;omega) V)<|ze<|zE V V<|zr<|zn<|zp<|zd V<|zd V<|zd V<|za V (Zu (Ky V V ⟨by omega,by omega⟩) (show Le _ (iD ((7 * i:Nat):Int)) from zF s9))<|za V (KS (s:=7 * i) (r:=((2 ^ (7 * i) * (c.toNat % 128):Nat):Int)) V V<|zaB o9 o9)<|za V (Wj (r:=((z + 2 ^ (7 * i) * (c.toNat % 128):Nat):Int)) V V<|zdP hal o9)<|zf V<|zV<|zd V<|za V (yF V V)<|ze<|zW V (by apply Jo;omega)<|zk ?_);refine zp (zd V<|za V (yM V V)<|zd V<|zU 35 V (fun hb35=> ?_) (fun hb35=> ?_))
   ·have h35:=oT hb35;refine zy hb35 (zI V) (zy hb35 (Zq V V)<|za V (zB V hb35 V)<|ze<|zE V (by apply Jd;intro h;exact hn0 ⟨by omega,by omega⟩)<|zr<|zn<|zp<|zd V<|zf V<|ze<|zQ (fn:=Tryz.f182) (()) [0] (fun _ _ h=>h) (Rs.le (Rs.one V<|zj V) ?_) d9 ⟨⟨_,V,⟨zb _,zb _,zb _,zF (by rw [← hM];rfl),t9⟩⟩,t9⟩);exact zF (by rw [← hN,VN])
   ·skip
    refine zq hb35 (zq hb35<|za V (zv V hb35 V)<|ze<|zE V V<|zr<|zn<|zp<|zd V<|zf V<|ze<|zQ (fn:=Tryz.f182) (()) [0] (fun _ _ h=>h) (Rs.le (Rs.one V<|zj V) ?_) d9 ⟨⟨_,V,⟨zb _,zb _,zb _,zF (by rw [← hM];rfl),t9⟩⟩,t9⟩);exact zF (by rw [← hN,VN])
  ·skip
   refine zi (zd V<|za V (zdt (r:=((c.toNat % 128:Nat):Int)) V V zar)<|za V (ZU (r:=((c.toNat % 128:Nat):Int)) .u8 V k9 k9<|wrap_u64 o9 o9)<|zf V<|ze<|zk<|zp<|zd V<|za V (yM V V)<|zd V<|zh1 V V (by apply decide_eq_false;omega) V V<|zh1 V V (by apply decide_eq_false;omega) V V<|za V (zv V (by apply decide_eq_false;omega) V)<|ze<|zE V V<|zr<|zn<|zp<|zd V<|zd V<|zd V<|za V (Zu (Ky V V ⟨by omega,by omega⟩) (show Le _ (iD ((7 * i:Nat):Int)) from zF s9))<|za V (KS (s:=7 * i) (r:=((2 ^ (7 * i) * (c.toNat % 128):Nat):Int)) V V<|zaB o9 o9)<|za V (Wj (r:=((z + 2 ^ (7 * i) * (c.toNat % 128):Nat):Int)) V V<|zdP hal o9)<|zf V<|zV<|zd V<|za V (yF V V)<|ze<|zE V (by apply decide_eq_false;omega)<|zr ?_);exact yc (zn<|zi<|za V (yC V V ⟨by omega,by omega⟩)<|zd V<|zP (fun a w hh=>hK0 (⟨(i + 1,z + 128 ^ i * (c.toNat % 128)),hg⟩) (by dsimp only;omega) a w<|hh.sub<|⟨⟨_,V,⟨lq V,⟨lq V,⟨⟨_,V,zF s9⟩,⟨⟨_,V,zF (by rw [VN])⟩,t9⟩⟩⟩⟩⟩,[0],by decide,⟨la rfl,trivial⟩⟩))
theorem VY (gr:Nat) (b:LB) (k:Nat) (e:Int) (hb:b.length≤1000000) (E:Int) (h:rdg 9 true (b.drop k)= .error E):ConPR Tryz.prog 182 [.c gr [iD e,yj true,bD b,iD ((k:Nat):Int)]] [pA gr,iD 9] (fun q:Nat=>[.c gr [iD e,yj true,bD b,iD ((q:Nat):Int)]]) (zhZ E):=by
 refine qU Tryz.func182 k9 V k9 fun base w0=>(zp<|zf V<|zV<|zf V<|ze<|zk<|zp<|zd V<|zd V<|ze<|zX<|Zw (ι:={p:Nat × Int // GBad b k E p.1}) (fun ⟨(i,z),hI⟩=>zN [(0,pA gr),(9,iD 9),(10,iD (i:Int)),(5,isD<|.int .u64 z)] [.c gr [iD e,yj true,bD b,iD ((k + i:Nat):Int)]]) (fun ⟨(i,z),hI⟩=>9 - i) (⟨(0,0),GBad.start h⟩) ?_ ?_)
 ·exact (sB [0] V V)
 ·rintro ⟨⟨i,z⟩,hI⟩ K0 hK0;dsimp only at hI ⊢;have hi9:=hI.1;refine zp (za V (yF V V)<|ze<|zk<|zJ V (fun hb11=> ?_) (fun hb11=> ?_))
  ·have h11:i < 9:=by have h:=oT hb11;omega
   refine zr (zn<|zk<|zX<|zp<|zd V<|zf V<|zV<|zd V ?_)
   by_cases hs:b.length≤k + i
   ·obtain rfl:E=4:=hI.short h11 hs;refine jU [0] (zei gr b (k + i) e hb hs) V ⟨zb _,t9⟩ d9 ⟨la V,t9⟩ ?_;rintro _
    repeat (first | refine SP.then ?_ | refine SP.block ?_)
    exact Kx (_) [0] d9 ⟨la V,t9⟩
   ·obtain ⟨c,hc⟩:∃ c,b[k + i]? =some c:=⟨_,Je o9⟩;refine SWl.e2 (zC [0] (zgv gr b (k + i) e hb c hc) V ⟨zb _,t9⟩ d9 ⟨la V,t9⟩ (fun _ h=>h) V) fun _=>(zf V<|ze<|zk ?_);rcases hI.step h11 hc with ⟨h8,h0,hi0,hE⟩ | ⟨h8,hg⟩
    ·subst hE;have hx:c.toNat % 128 < 128:=Nat.mod_lt _ d9;refine zi (zd V<|za V (zdt (r:=((c.toNat % 128:Nat):Int)) V V zar)<|za V (ZU (r:=((c.toNat % 128:Nat):Int)) .u8 V k9 k9<|wrap_u64 o9 o9)<|zf V<|ze<|zk<|zp<|zd V<|za V (yM V V)<|zd V<|zh1 V V (by apply Jd;omega) V V<|zh1 V V (by apply Jd;omega) V V<|za V (zv V (by apply Jd;omega) V)<|ze<|zE V V<|zr<|zn<|zp<|zd V<|zd V<|zd V<|za V (Zu (Ky V V ⟨by omega,by omega⟩) (show Le _ (iD ((7 * i:Nat):Int)) from zF s9))<|za V (KS (s:=7 * i) V V V)<|za V (Wj V V V)<|zf V<|zV<|zd V<|za V (yF V V)<|ze<|zW V (by apply Jo;omega)<|zk ?_);refine zp (zd V<|za V (yM V V)<|zd V<|yL V V (by apply Jo;omega) V V (zI V)<|yL V V (by apply Jo;omega) V V (Zq V V)<|za V (zB V (by apply Jo;omega) V)<|ze<|zW V (by apply Jo;omega)<|zi<|za V (Wk V (zb _) k9)<|KO V ?_)
     repeat (first | refine SP.then ?_ | refine SP.block ?_)
     exact Kx (_) [0] d9 ⟨la V,t9⟩
    ·skip
     have hx:c.toNat % 128 < 128:=Nat.mod_lt _ d9;refine zi (zd V<|za V (zdt (r:=((c.toNat % 128:Nat):Int)) V V zar)<|za V (ZU (r:=((c.toNat % 128:Nat):Int)) .u8 V k9 k9<|wrap_u64 o9 o9)<|zf V<|ze<|zk<|zp<|zd V<|za V (yM V V)<|zd V<|zh1 V V (by apply decide_eq_false;omega) V V<|zh1 V V (by apply decide_eq_false;omega) V V<|za V (zv V (by apply decide_eq_false;omega) V)<|ze<|zE V V<|zr<|zn<|zp<|zd V<|zd V<|zd V<|za V (Zu (Ky V V ⟨by omega,by omega⟩) (show Le _ (iD ((7 * i:Nat):Int)) from zF s9))<|za V (KS (s:=7 * i) V V V)<|za V (Wj V V V)<|zf V<|zV<|zd V<|za V (yF V V)<|ze<|zE V (by apply decide_eq_false;omega)<|zr ?_);exact yc (zn<|zi<|za V (yC V V ⟨by omega,by omega⟩)<|zd V<|zP (fun a w hh=>hK0 (⟨(i + 1,_),hg⟩) (by dsimp only;omega) a w<|hh.sub<|⟨⟨_,V,⟨lq V,⟨lq V,⟨⟨_,V,zF s9⟩,⟨lq V,t9⟩⟩⟩⟩⟩,[0],by decide,⟨la rfl,trivial⟩⟩))
  ·obtain rfl:E=6:=hI.last (by have h:=oF hb11;omega);refine yZ ?_
   repeat (first | refine Ze ?_ | refine Zf d9 ?_)
   refine Zn (zn<|zi<|za V (Wk V (zb _) k9)<|KO V ?_)
   repeat (first | refine SP.then ?_ | refine SP.block ?_)
   exact Kx (_) [0] d9 ⟨la V,t9⟩
theorem zeo (gr:Nat) (b:LB) (k:Nat) (e:Int) (hb:b.length≤1000000) (lim:Int) (hl:0≤lim) (n m:Nat) (h:rdC lim (b.drop k)= .ok (n,m)):ConR Tryz.prog 208 [.c gr [iD e,yj true,bD b,iD ((k:Nat):Int)]] [pA gr,iD lim] (fun _:Unit=>[.c gr [iD e,yj true,bD b,iD ((k + m:Nat):Int)]]) (fun _:Unit=>iD (n:Int)):=by
 obtain ⟨hr,hnl⟩:=zaF h;refine yg Tryz.func208 k9 V k9 fun base w0=>(zp<|zf V<|zV<|zd V (SWl.e2 (zC [0] (zbl gr b k e hb n m hr) V ⟨zb _,zb _,t9⟩ d9 ⟨la V,t9⟩ (fun _ h=>h) V) fun _=>(za V (ZU (r:=(n:Int)) .u64 V k9 k9<|i64_w<|zb5 (Kv hr).1)<|zf V<|ze<|zk<|zp<|zd V<|za V (yF V V)<|ze<|zE V (by apply Jd;omega)<|zr<|zn<|zk<|zp<|zd V<|zd V<|za V (Zq V V)<|ze<|zE V (by apply Jd;omega)<|zr<|zn<|zp<|zd V<|zf V<|zP ?_)));refine zn ?_;refine zQ (fn:=Tryz.f208) (()) [0] (fun _ _ h=>h) (Rs.one V<|zj V) d9 ⟨la V,t9⟩
theorem zfA (gr:Nat) (b:LB) (k:Nat) (e:Int) (hb:b.length≤1000000) (lim:Int) (hl:0≤lim) (E:Int) (hr:rdg 9 true (b.drop k)= .error E):ConPR Tryz.prog 208 [.c gr [iD e,yj true,bD b,iD ((k:Nat):Int)]] [pA gr,iD lim] (fun q:Nat=>[.c gr [iD e,yj true,bD b,iD ((q:Nat):Int)]]) (zhZ E):=by
 refine qU Tryz.func208 k9 V k9 fun base w0=>(zp<|zf V<|zV<|zd V<|jU [0] (VY gr b k e hb E hr) V ⟨zb _,zb _,t9⟩ d9 ⟨la V,t9⟩ ?_);intro q
 repeat (first | refine SP.then ?_ | refine SP.block ?_)
 exact Kx (q) [0] d9 ⟨la V,t9⟩
theorem zfz (gr:Nat) (b:LB) (k:Nat) (e:Int) (hb:b.length≤1000000) (lim:Int) (hl:0≤lim) (n m:Nat) (hr:rdg 9 true (b.drop k)= .ok (n,m)) (hlt:lim < (n:Int)):ConPR Tryz.prog 208 [.c gr [iD e,yj true,bD b,iD ((k:Nat):Int)]] [pA gr,iD lim] (fun q:Nat=>[.c gr [iD e,yj true,bD b,iD ((q:Nat):Int)]]) (zhZ 7):=by
 refine qU Tryz.func208 k9 V k9 fun base w0=>(zp<|zf V<|zV<|zd V (SWl.e2 (zC [0] (zbl gr b k e hb n m hr) V ⟨zb _,zb _,t9⟩ d9 ⟨la V,t9⟩ (fun _ h=>h) V) fun _=>(za V (ZU (r:=(n:Int)) .u64 V k9 k9<|i64_w<|zb5 (Kv hr).1)<|zf V<|ze<|zk<|zp<|zd V<|za V (yF V V)<|ze<|zE V (by apply Jd;omega)<|zr<|zn<|zk<|zp<|zd V<|zd V<|za V (Zq V V)<|ze<|zW V (by apply Jo;omega)<|zi<|za V (Wk V (zb _) k9)<|KO V ?_)))
 repeat (first | refine SP.then ?_ | refine SP.block ?_)
 exact Kx (k + m) [0] d9 ⟨la V,t9⟩
theorem zdi (gr:Nat) (b:LB) (k:Nat) (e:Int) (hb:b.length≤1000000) (lim:Int) (hl:0≤lim) (E:Int) (h:rdC lim (b.drop k)= .error E):ConPR Tryz.prog 208 [.c gr [iD e,yj true,bD b,iD ((k:Nat):Int)]] [pA gr,iD lim] (fun q:Nat=>[.c gr [iD e,yj true,bD b,iD ((q:Nat):Int)]]) (zhZ E):=by
 rcases zfa h with hr | ⟨n,m,hr,hlt,rfl⟩
 ·exact zfA gr b k e hb lim hl E hr
 ·exact zfz gr b k e hb lim hl n m hr hlt
theorem zdf (gr:Nat) (b:LB) (k:Nat) (e:Int) (hb:b.length≤1000000) (lim:Int) (hl:0≤lim) (q:LB) (M:Nat) (h:rdP lim (b.drop k)= .ok (q,M)):ConR Tryz.prog 184 [.c gr [iD e,yj true,bD b,iD ((k:Nat):Int)]] [pA gr,iD lim] (fun _:Unit=>[.c gr [iD e,yj true,bD b,iD ((k + M:Nat):Int)]]) (fun _:Unit=>bD q):=by
 obtain ⟨n,m,hr,hml,rfl,rfl⟩:=zb9 h;have hdl:(b.drop k).length=b.length - k:=JA;have hm1:=(Kv (zaF hr).1).2.1
 refine yg Tryz.func184 k9 V k9 fun base w0=>(zp<|zf V<|zV<|zd V<|zd V (SWl.e2 (zC [0] (zeo gr b k e hb lim hl n m hr) V ⟨zb _,zb _,t9⟩ d9 ⟨la V,t9⟩ (fun _ h=>h) V) fun _=>(zf V<|ze<|zk<|zk<|yh [] (rr [0,1,2,3,4,5,6,7,8,9,10,11] .fin) k9 k9 (fun d _ _ _ _ h=>by cases d <;> exact h)<|zL V V<|zL V V<|zl V V (zz V)<|zl V V (zc (n:=2) V k9)<|zl V V (zg 0 V V V k9 zh)<|zl V V (ZC (e:=5) V k9)<|zL V V<|zl V V (zz V)<|zl V V (zc (n:=3) V k9)<|zl V V (zg 0 V V V k9 zh)<|zl V V (jF V V ⟨by (try rw [zx]);omega,by (try rw [zx]);omega⟩)<|zl V V (Zq V V)<|yI<|zE V (by apply Jd;rw [zx];omega)<|zr<|zn<|zk<|yh [] (rr [0,1,2,3,4,5,6,7,8,9,10,11,12,13,14,15] .fin) k9 k9 (fun d _ _ _ _ h=>by cases d <;> exact h)<|zL V V<|zl V V (zz V)<|zl V V (zc (n:=2) V k9)<|zl V V (zg 0 V V V k9 zh) ?_)))
 refine zL V V (zl V V (zz V)<|zl V V (zc (n:=3) V k9)<|zl V V (zg 0 V V V k9 zh)<|zL V V<|zl V V (zz V)<|zl V V (zc (n:=3) V k9)<|zl V V (zg 0 V V V k9 zh)<|zL V V<|zl V V (Zu (yC V V ⟨by omega,by omega⟩) (show Le _ (iD ((k + m + n:Nat):Int)) from zF s9))<|zl V V (Zu (Rd.slD2 (e:=5) (enc:=Yt) (lo:=k + m) (hi:=k + m + n) 1 V (zaT _) V V k9 k9 o9 o9)<|Yc _)<|Zh V V<|yI<|zp<|zd V<|za V (zz V)<|za V (zc (n:=3) V k9)<|za V (zg 0 V V V k9 zh)<|zd V<|za V (Zu (yC V V ⟨by omega,by omega⟩) (show Le _ (iD ((k + m + n:Nat):Int)) from zF s9))<|za V (zz V)<|za V (zc (n:=3) V k9)<|zt (S:=[_]) (zR 0 V V V k9 V<|m9 V)<|zV<|zd V<|zf V<|ze<|zQ (fn:=Tryz.f184) (()) [0] (fun _ _ h=>h) (Rs.le (Rs.one V<|zj V) ?_) d9 ⟨⟨_,V,⟨zb _,zb _,zb _,zF (by rw [J9]),t9⟩⟩,t9⟩);rw [part_eq];exact zb _
theorem zhl (gr:Nat) (b:LB) (k:Nat) (e:Int) (hb:b.length≤1000000) (lim:Int) (hl:0≤lim) (E:Int) (hr:rdC lim (b.drop k)= .error E):ConPR Tryz.prog 184 [.c gr [iD e,yj true,bD b,iD ((k:Nat):Int)]] [pA gr,iD lim] (fun q:Nat=>[.c gr [iD e,yj true,bD b,iD ((q:Nat):Int)]]) (zhZ E):=by
 refine qU Tryz.func184 k9 V k9 fun base w0=>(zp<|zf V<|zV<|zd V<|zd V<|jU [0] (zdi gr b k e hb lim hl E hr) V ⟨zb _,zb _,t9⟩ d9 ⟨la V,t9⟩ ?_);intro q
 repeat (first | refine SP.then ?_ | refine SP.block ?_)
 exact Kx (q) [0] d9 ⟨la V,t9⟩
theorem zhk (gr:Nat) (b:LB) (k:Nat) (e:Int) (hb:b.length≤1000000) (lim:Int) (hl:0≤lim) (n m:Nat) (hr:rdC lim (b.drop k)= .ok (n,m)) (hlt:(b.drop k).length < m + n):ConPR Tryz.prog 184 [.c gr [iD e,yj true,bD b,iD ((k:Nat):Int)]] [pA gr,iD lim] (fun q:Nat=>[.c gr [iD e,yj true,bD b,iD ((q:Nat):Int)]]) (zhZ 4):=by
 have hdl:(b.drop k).length=b.length - k:=JA;have hm1:=(Kv (zaF hr).1).2;have hn9:=zb5 (Kv (zaF hr).1).1
 refine qU Tryz.func184 k9 V k9 fun base w0=>(zp<|zf V<|zV<|zd V<|zd V (SWl.e2 (zC [0] (zeo gr b k e hb lim hl n m hr) V ⟨zb _,zb _,t9⟩ d9 ⟨la V,t9⟩ (fun _ h=>h) V) fun _=>(zf V<|ze<|zk<|zk<|yh [] (rr [0,1,2,3,4,5,6,7,8,9,10,11] .fin) k9 k9 (fun d _ _ _ _ h=>by cases d <;> exact h)<|zL V V<|zL V V<|zl V V (zz V)<|zl V V (zc (n:=2) V k9)<|zl V V (zg 0 V V V k9 zh)<|zl V V (ZC (e:=5) V k9)<|zL V V<|zl V V (zz V)<|zl V V (zc (n:=3) V k9)<|zl V V (zg 0 V V V k9 zh)<|zl V V (jF V V ⟨by (try rw [zx]);omega,by (try rw [zx]);omega⟩)<|zl V V (Zq V V)<|yI<|zW V (by apply Jo;rw [zx];omega)<|zi<|za V (Wk V (zb _) k9)<|KO V ?_)))
 repeat (first | refine SP.then ?_ | refine SP.block ?_)
 exact Kx (k + m) [0] d9 ⟨la V,t9⟩
theorem KI (gr:Nat) (b:LB) (k:Nat) (e:Int) (hb:b.length≤1000000) (lim:Int) (hl:0≤lim) (E:Int) (h:rdP lim (b.drop k)= .error E):ConPR Tryz.prog 184 [.c gr [iD e,yj true,bD b,iD ((k:Nat):Int)]] [pA gr,iD lim] (fun q:Nat=>[.c gr [iD e,yj true,bD b,iD ((q:Nat):Int)]]) (zhZ E):=by
 rcases ze9 h with hr | ⟨n,m,hr,hlt,rfl⟩
 ·exact zhl gr b k e hb lim hl E hr
 ·exact zhk gr b k e hb lim hl n m hr hlt
end
section
section
variable {P:Program}{Γ:Cx}{σ:St}{S:List Nat}{dst:Option Tmp}{ty:TypeId}{pos:String}{af:Array Edge}{gd:Option (Nat × Bool)}
def zcm (P:Program) (T:Nat):Bool:=match P.underlying T with | some (.interface _)=>true | _=>false
theorem zbO (n:Nat) {T U:Nat} {v:Value} {w:World} (hT:zcm P T=true):(Op.equalIn (n + 1) T (.iface U v) .nilIface).run P w= .ok false w:=by
 unfold zcm at hT
 split at hT
 ·rename_i m hu;simp [Op.equalIn,Jp hu]
 ·cases hT
theorem zcS (n:Nat) {T:Nat} {w:World} (hT:zcm P T=true):(Op.equalIn (n + 1) T .nilIface .nilIface).run P w= .ok true w:=by
 unfold zcm at hT
 split at hT
 ·rename_i m hu;simp [Op.equalIn,Jp hu]
 ·cases hT
theorem Rd.eqI {x:Operand} {T U yT:Nat} {v:Value} (hx:σ.ev x=some (isD<|.iface U v)) (hT:zcm P T=true):Rd P Γ S ⟨dst,.binOp .eql T x (.const .nilIface) yT,ty,pos,af,gd⟩ σ (isD<|.bool false):=Ym hx (y:= .const .nilIface) (v:= .nilIface) rfl fun w=>by
 have h:(Op.equal T (.iface U v) .nilIface).run P w= .ok false w:=zbO 9999 hT;simp [eqGuard,binOp,h]
theorem Rd.eqI0 {x:Operand} {T yT:Nat} (hx:σ.ev x=some (isD .nilIface)) (hT:zcm P T=true):Rd P Γ S ⟨dst,.binOp .eql T x (.const .nilIface) yT,ty,pos,af,gd⟩ σ (isD<|.bool true):=Ym hx (y:= .const .nilIface) (v:= .nilIface) rfl fun w=>by
 have h:(Op.equal T .nilIface .nilIface).run P w= .ok true w:=zcS 9999 hT;simp [eqGuard,binOp,h]
