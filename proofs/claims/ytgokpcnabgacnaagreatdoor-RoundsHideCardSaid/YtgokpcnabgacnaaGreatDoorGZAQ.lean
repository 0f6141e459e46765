/- WIRE: Read, Err, End; the reference's Ungroup. WIRE: the reference's readers. WIRE: what is written is read again, and what is read was written so; in -/
import Derived.Test.YtgokpcnabgacnaaGreatDoorGZAP
import Derived.Test.YtgokpcnabgacnaaGreatDoorGZAO
import Derived.Test.YtgokpcnabgacnaaGreatDoorGZAA
import Derived.Test.YtgokpcnabgacnaaGreatDoorGZAN
import Derived.Test.YtgokpcnabgacnaaGreatDoorGZAG
set_option maxHeartbeats 8000000
set_option maxRecDepth 100000
namespace Go.Proofs.YtgokpcnabgacnaaGreatDoor
open Go.RowKit
namespace Sx
theorem bldRd {b:LB}:Bld Tryz.prog 260 [1,2] [yc true,bD b] [iD 0,yc true,bD b,iD ((0:Nat):Int)]:=fun L w vs hv=>by
 obtain ⟨u,v,rfl,hu,h3⟩:=all2 hv
 cases hu
 have h3':=h3;obtain ⟨A,cp,rfl,-⟩:=h3;exact ⟨[.int .i64 0,.bool true,.slice A _ cp,.int .i64 0],⟨V,V,h3',V,t9⟩,fun w'=>by kernel_rfl⟩
def endE (r:RT):Int:=if r.e=0∧r.p≠[] then 5 else r.e
theorem endE_long {b:LB} {s:Int × Nat} {r:RT} (hs:RRel b s r) (h0:s.1=0) (h:s.2 < b.length):endE r=5:=by
 obtain ⟨h1,h2,h3⟩:=hs
 have he:r.e=0:=by rw [← h1];exact h0
 unfold endE;rw [if_pos ⟨he,fun hp=>by rw [h3 he] at hp;have:=congrArg List.length hp;rw [List.length_drop] at this;simp at this;omega⟩]
theorem endE_else {b:LB} {s:Int × Nat} {r:RT} (hs:RRel b s r) (h:¬(s.1=0∧s.2 < b.length)):endE r=s.1:=by
 obtain ⟨h1,h2,h3⟩:=hs;unfold endE;rw [if_neg (fun hp=>h ⟨by rw [h1];exact hp.1,?_⟩),h1];rcases Nat.lt_or_ge s.2 b.length with h' | h'
 ·exact h'
 ·exact absurd (by rw [h3 hp.1];exact List.drop_eq_nil_of_le h') hp.2
theorem con_read (b:LB) (hb:b.length≤1000000):ConR Tryz.prog 148 [] [bD b] (fun g:Nat=>[.c g [iD 0,yc true,bD b,iD ((0:Nat):Int)]]) (fun g:Nat=>pA g):=by
 refine zW Tryz.func148 k9 V k9 fun base w0=>(zh (zb (za V (zg V) (zf (zc (zh (Yk 5 1 ZP (zb (za V (ze V) (zl (Zf 0 1 1 V V (SrcT.b V) k9 k9 (by simp <;> omega) d9 (fun _ h=>h) V) ?_))))))))))
 rintro _ ⟨A4,F4,c4,rfl⟩;refine SWl.freezeT 0 4 V V (le_ls_b _) (za V (yr V V bldRd) (zl (S:=[]) (yV V V) ?_));rintro _ ⟨g6,rfl⟩;refine za V (zg V) (zf (zc ?_));refine zJ (fn:=Tryz.f148) (g6) [0] (fun _ _ h=>h) (Rs.one V (zp V)) d9 ⟨la V,t9⟩
theorem con_rEnd (b:LB) (s:Int × Nat) (r:RT) (hs:RRel b s r):ConN Tryz.prog 151 [paD [iD s.1,yc true,bD b,iD ((s.2:Nat):Int)]] (iD (endE r)):=by
 refine yJ Tryz.func151 k9 V k9 fun base w0=>(zh (zb (za V (zg V) (zf (zc (zh (zh (zb (za V (ze V) (zl (S:=[]) (zz [] (Z8 b s.2 s.1) V ⟨(zq (zd _)),t9⟩ V) ?_))))))))));rintro _ rfl
 refine za V (yL V) (zf (zc (zB V (V) (zu (zc (zh (zh (yh [] (.r 0 (.r 1 (.r 2 (.r 3 (.r 4 (.r 5 (.r 6 (.r 7 (.r 8 (.r 9 (.r 10 (.r 11 (.r 12 (.r 13 (.r 14 (.r 15 (.r 16 (.r 17 .fin)))))))))))))))))) k9 k9 (fun d _ _ _ _ h=>by cases d <;> exact h) (zk rfl rfl (ze rfl) (zk rfl rfl (yx rfl) (zk rfl rfl (yk (n:=0) rfl k9 (show 0 < 4 by decide)) (zk rfl rfl (yk (n:=0) rfl k9 (show 0 < 4 by decide)) (zk rfl rfl (yi rfl rfl k9 s9) (zk rfl rfl (yY rfl rfl) (zk rfl rfl (ze rfl) (SWz.split 12 rfl (fun hb12=> ?_) (fun hb12=> ?_)))))))))))))))))
 ·have h12:s.1=0:=oT hb12;refine yb V V V (hb12) V V (ze V) (yb V V V (hb12) V V (yx V) (yb V V V (hb12) V V (yk (n:=3) V k9 (show 3 < 4 by decide)) (yb rfl rfl rfl (hb12) rfl rfl (yi rfl rfl k9 s9) (yb rfl rfl rfl (hb12) rfl rfl (ze rfl) (yb rfl rfl rfl (hb12) rfl rfl (yx rfl) (yb rfl rfl rfl (hb12) rfl rfl (yk (n:=2) rfl k9 (show 2 < 4 by decide)) (yb rfl rfl rfl (hb12) rfl rfl (yi rfl rfl k9 s9) (yb rfl rfl rfl (hb12) rfl rfl (Zq (e:=5) rfl k9) (yb rfl rfl rfl (hb12) rfl rfl (yG rfl rfl) (zk rfl rfl (zD rfl (hb12) rfl) (zP (zc (zI rfl (fun hb23=> ?_) (fun hb23=> ?_))))))))))))))
  ·have h23:s.2 < b.length:=by have h:=oT hb23;rw [zw] at h;omega
   refine zh (zb (za V (zg V) (zf (zc (zR (fn:=Tryz.f151) (fun _ _ h=>h) (Rs.le (Rs.one V (zp V)) ?_))))));exact Le.trans (zE (by rw [endE_long hs h12 h23])) zv
  ·have h23:¬s.2 < b.length:=by have h:=oF hb23;rw [zw] at h;omega
   refine zu (zc (zh (zb (za V (ze V) (za V (yx V) (za V (yk (n:=0) V k9 (show 0 < 4 by decide)) (za rfl (yk (n:=0) rfl k9 (show 0 < 4 by decide)) (za rfl (yi rfl rfl k9 s9) (za rfl (zg rfl) (zf (zc (zR (fn:=Tryz.f151) (fun _ _ h=>h) (Rs.le (Rs.one rfl (zp rfl)) ?_)))))))))))));exact Le.trans (zE (by rw [endE_else hs (fun h=>h23 h.2)])) zv
 ·have h12:¬s.1=0:=oF hb12;refine zT V V V (hb12) V V (zT V V V (hb12) V V (zT V V V (hb12) V V (zT V V V (hb12) V V (zT V V V (hb12) V V (zT V V V (hb12) V V (zT V V V (hb12) V V (zT V V V (hb12) V V (zT V V V (hb12) V V (zT V V V (hb12) V V (zk V V (zy V (hb12) V) (zP (zc (zB V (V) (zu (zc (zh (zb (za V (ze V) (za V (yx V) (za V (yk (n:=0) V k9 (show 0 < 4 by decide)) (za rfl (yk (n:=0) rfl k9 (show 0 < 4 by decide)) (za rfl (yi rfl rfl k9 s9) (za rfl (zg rfl) (zf (zc (zR (fn:=Tryz.f151) (fun _ _ h=>h) (Rs.le (Rs.one rfl (zp rfl)) ?_)))))))))))))))))))))))))));exact Le.trans (zE (by rw [endE_else hs (fun h=>h12 h.1)])) zv
def u6 (p:LB):Nat × Nat × Int:=match rdg 9 true p with | .ok (n,m)=>(n,m,0) | .error e=>(0,0,e)
def c6 (lim:Int) (p:LB):Nat × Nat × Int:=if (u6 p).2.2≠0 then (0,0,(u6 p).2.2) else if lim < ((u6 p).1:Int) then (0,0,7) else ((u6 p).1,(u6 p).2.1,0)
theorem rdg_grp:∀ (j n:Nat) (f:Bool) (p:LB),n < 128 ^ (j + 1)→(n=0→f=true)→rdg (j + 1) f (grp n ++ p)= .ok (n,(grp n).length)
 | 0,n,f,p,h,h0=>by
  have hn:n < 128:=by simpa using h
  rw [grp_lt hn,List.singleton_append];unfold rdg;rw [u8_nat o9,if_pos hn,if_neg (fun hc=>by rw [h0 hc.1] at hc;cases hc.2)]
  rfl
 | j + 1,n,f,p,h,h0=>by
  by_cases hn:n < 128
  ·rw [grp_lt hn,List.singleton_append];unfold rdg;rw [u8_nat o9,if_pos hn,if_neg (fun hc=>by rw [h0 hc.1] at hc;cases hc.2)]
   rfl
  ·rw [grp_ge hn,List.cons_append];unfold rdg;rw [u8_nat o9,if_neg o9,rdg_grp j (n / 128) false p (Nat.div_lt_of_lt_mul (by rw [Nat.pow_succ] at h;omega)) (fun h=>by omega)];simp only [List.length_cons];congr 2;omega
theorem rdg_inv:∀ {j:Nat} {f:Bool} {p:LB} {n m:Nat},rdg j f p= .ok (n,m)→p.take m=grp n∧(f=false→0 < n)
 | 0,f,p,n,m,h=>by rw [rdg_zero] at h;cases h
 | j + 1,f,[],n,m,h=>by cases h
 | j + 1,f,c :: p,n,m,h=>by
  unfold rdg at h
  by_cases hc:c.toNat < 128
  ·rw [if_pos hc] at h
   by_cases h0:c.toNat=0∧f=false
   ·rw [if_pos h0] at h;cases h
   ·rw [if_neg h0] at h;injection h with h;injection h with h1 h2;subst h1 h2;refine ⟨?_,fun hf=> ?_⟩
    ·rw [grp_lt hc,UInt8.ofNat_toNat];rfl
    ·rcases Nat.eq_zero_or_pos c.toNat with h | h
     ·exact absurd ⟨h,hf⟩ h0
     ·exact h
  ·rw [if_neg hc] at h;rcases hr:rdg j false p with e | ⟨n',m'⟩
   ·rw [hr] at h;cases h
   ·rw [hr] at h;injection h with h;injection h with h1 h2;subst h1 h2;obtain ⟨i1,i2⟩:=rdg_inv hr;have hp:=i2 rfl;have hcl:=u8_lt (c:=c);refine ⟨?_,fun _=>by omega⟩;rw [grp_ge o9,List.take_succ_cons,i1,show (c.toNat - 128 + 128 * n') % 128 + 128=c.toNat by omega,show (c.toNat - 128 + 128 * n') / 128=n' by omega,UInt8.ofNat_toNat]
theorem pow9 {n:Nat} (h:n < 9223372036854775808):n < 128 ^ (8 + 1):=Nat.lt_of_lt_of_le h d9
theorem stU_grp {n:Nat} {q:LB} (h:n < 9223372036854775808):stU ⟨grp n ++ q,0⟩=((n:Int),⟨q,0⟩):=by
 rw [show stU ⟨grp n ++ q,0⟩=_ from stG_ok rfl (rdg_grp 8 n true q (pow9 h) (fun _=>rfl))];simp
theorem stP_strE {lim:Int} {b q:LB} (h:b.length < 9223372036854775808) (hl:(b.length:Int)≤lim):stP lim ⟨Yw b ++ q,0⟩=(b,⟨q,0⟩):=by
 have hr:rdP lim (Yw b ++ q)= .ok (b,(grp b.length).length + b.length):=by
  unfold rdP rdC Yw;rw [List.append_assoc,rdg_grp 8 b.length true (b ++ q) (pow9 h) (fun _=>rfl)];simp only;rw [if_neg o9];simp only;rw [if_neg (by simp only [List.length_append];omega)];simp
 rw [show stP lim ⟨Yw b ++ q,0⟩=_ from stG_ok rfl hr];unfold Yw;rw [← List.length_append];simp
theorem stU_inv {r:RT} (h:(stU r).2.e=0):r.e=0∧∃ n:Nat,(stU r).1=n∧r.p=grp n ++ (stU r).2.p∧n < 9223372036854775808:=by
 by_cases h0:r.e=0
 ·refine ⟨h0,?_⟩;rcases hr:rdg 9 true r.p with E | ⟨n,m⟩
  ·rw [show stU r=_ from stG_bad h0 hr] at h;exact absurd h (rdg_ne hr)
  ·rw [show stU r=_ from stG_ok h0 hr];exact ⟨n,V,by rw [← (rdg_inv hr).1,List.take_append_drop],Nat.lt_of_lt_of_le (rdg_bd hr).1 d9⟩
 ·rw [show stU r=_ from stG_skip h0] at h;exact absurd h h0
theorem stP_inv {lim:Int} {r:RT} (h:(stP lim r).2.e=0):r.e=0∧r.p=Yw (stP lim r).1 ++ (stP lim r).2.p∧((stP lim r).1.length:Int)≤lim:=by
 by_cases h0:r.e=0
 ·refine ⟨h0,?_⟩;rcases hr:rdP lim r.p with E | ⟨q,m⟩
  ·rw [show stP lim r=_ from stG_bad h0 hr] at h;exact absurd h (rdP_ne hr)
  ·rw [show stP lim r=_ from stG_ok h0 hr];obtain ⟨n,k,h1,h2,rfl,rfl⟩:=rdP_ok hr;obtain ⟨h3,h4⟩:=rdC_ok h1
   have hl:((r.p.drop k).take n).length=n:=by rw [List.length_take,List.length_drop];omega
   refine ⟨?_,by simp only;rw [hl];exact h4⟩;simp only;unfold Yw;rw [hl,← (rdg_inv h3).1,← List.drop_drop,List.append_assoc,List.take_append_drop,List.take_append_drop]
 ·rw [show stP lim r=_ from stG_skip h0] at h;exact absurd h h0
theorem YC {b:LB} (h:b.length < 18446744073709551616):(Yw b).length≤10 + b.length:=by
 have:=Yg h;unfold Yw;rw [List.length_append];omega
end Sx
end Go.Proofs.YtgokpcnabgacnaaGreatDoor
namespace Go.Proofs.YtgokpcnabgacnaaGreatDoor
namespace Sl
def streamL:LB:=[115,116,114,101,97,109]
def tagL:LB:=[116,97,103]
def be8 (i:Nat):LB:=(List.range 8).map fun j=>UInt8.ofNat (i / 2 ^ (56 - 8 * j))
@[simp] theorem be8_length (i:Nat):(be8 i).length=8:=by simp [be8]
def block (k nonce:LB) (i:Nat):LB:=Bl.hash k (nonce ++ be8 i)
def blocks (k nonce:LB):Nat→LB
 | 0=>[]
 | q + 1=>blocks k nonce q ++ block k nonce q
theorem blocks_length (k nonce:LB):∀ q,(blocks k nonce q).length=32 * q
 | 0=>rfl
 | q + 1=>by rw [blocks,List.length_append,blocks_length k nonce q,block,Bl.hash_length];omega
def stream (key nonce:LB) (n:Nat):LB:=(blocks (Bl.hash key streamL) nonce ((n + 31) / 32)).take n
@[simp] theorem stream_length (key nonce:LB) (n:Nat):(stream key nonce n).length=n:=by
 rw [stream,List.length_take,blocks_length];omega
def tag (key body:LB):LB:=(Bl.hash (Bl.hash key tagL) body).take 16
@[simp] theorem tag_length (key body:LB):(tag key body).length=16:=by rw [tag,List.length_take,Bl.hash_length];rfl
def xorb (a b:LB):LB:=List.zipWith (fun x y=>x ^^^ y) a b
theorem xorb_length {a b:LB} (h:a.length=b.length):(xorb a b).length=b.length:=by simp [xorb,h]
theorem xorb_take {a b:LB} (h:a.length=b.length) (k:Nat) (hk:k < a.length):xorb (a.take (k + 1)) (b.take (k + 1))=xorb (a.take k) (b.take k) ++ [a.getD k 0 ^^^ b.getD k 0]:=by
 have hk':k < b.length:=by omega
 unfold xorb;rw [List.take_succ_eq_append_getElem hk,List.take_succ_eq_append_getElem hk',List.zipWith_append (by simp;omega)];simp [hk,hk']
theorem xorb_twice {a b:LB} (h:a.length=b.length):xorb a (xorb a b)=b:=by
 induction a generalizing b with
 | nil=>cases b with
  | nil=>rfl
  | cons y b=>simp at h
 | cons x a ih=>cases b with
  | nil=>simp at h
  | cons y b=>
   have:=ih (b:=b) (by simpa using h);simp only [xorb,List.zipWith_cons_cons] at *;rw [this,← UInt8.xor_assoc,UInt8.xor_self,UInt8.zero_xor]
def mask (key nonce b:LB):LB:=xorb (stream key nonce b.length) b
@[simp] theorem mask_length (key nonce b:LB):(mask key nonce b).length=b.length:=xorb_length s9
def sealB (key nonce plain:LB):LB:=nonce ++ mask key nonce plain ++ tag key (nonce ++ mask key nonce plain)
theorem sealB_length (key nonce plain:LB) (hn:nonce.length=16):(sealB key nonce plain).length=plain.length + 32:=by simp [sealB,hn];omega
def bodyOf (b:LB):LB:=b.take (b.length - 16)
def tagIn (b:LB):LB:=b.drop (b.length - 16)
def good (key b:LB):Bool:=tag key (bodyOf b) == tagIn b
def plainOf (key b:LB):LB:=mask key ((bodyOf b).take 16) ((bodyOf b).drop 16)
def openB (key b:LB):LB × Nat:=
 if b.length < 32 then ([],4) else if 65536 < b.length then ([],5) else if good key b then (plainOf key b,0) else ([],10)
theorem seal_body (key nonce plain:LB):bodyOf (sealB key nonce plain)=nonce ++ mask key nonce plain:=by
 unfold bodyOf sealB;rw [List.length_append,tag_length,Nat.add_sub_cancel,List.take_left]
theorem seal_tag (key nonce plain:LB):tagIn (sealB key nonce plain)=tag key (nonce ++ mask key nonce plain):=by
 unfold tagIn sealB;rw [List.length_append,tag_length,Nat.add_sub_cancel,List.drop_left]
theorem seal_good (key nonce plain:LB):good key (sealB key nonce plain)=true:=by
 unfold good;rw [seal_body,seal_tag,beq_self_eq_true]
theorem seal_plain (key nonce plain:LB) (hn:nonce.length=16):plainOf key (sealB key nonce plain)=plain:=by
 unfold plainOf;rw [seal_body,← hn,List.take_left,List.drop_left];unfold mask;rw [xorb_length s9];exact xorb_twice s9
theorem open_seal (key nonce plain:LB) (hn:nonce.length=16) (hp:plain.length≤65504):openB key (sealB key nonce plain)=(plain,0):=by
 unfold openB;rw [sealB_length _ _ _ hn,if_neg o9,if_neg o9,seal_good,if_pos rfl,seal_plain _ _ _ hn]
end Sl
end Go.Proofs.YtgokpcnabgacnaaGreatDoor
namespace Go.Proofs.YtgokpcnabgacnaaGreatDoor
open Go.RowKit
open Sx
namespace Env
structure T where
 acc:LB
 rnd:Int
 ser:Int
 box:LB
 tag:LB
def zero:T:=⟨[],0,0,[],[]⟩
def okV (nm:LB) (rnd ser:Int) (bl tl:Nat):Prop:=Acc.isName nm∧(0≤rnd∧rnd≤1048576)∧(0≤ser∧ser≤1073741824)∧(32≤bl∧bl≤4128)∧tl=32
instance (nm:LB) (rnd ser:Int) (bl tl:Nat):Decidable (okV nm rnd ser bl tl):=by unfold okV;infer_instance
def ok (e:T):Prop:=okV e.acc e.rnd e.ser e.box.length e.tag.length
instance (e:T):Decidable (ok e):=by unfold ok;infer_instance
def roundL:LB:=[114,111,117,110,100,45]
def bidL:LB:=[98,105,100,45]
def comH (key:LB):LB:=Bl.hash [] (roundL ++ key)
def comB (key:LB):LB:=if key.length=32 then comH key else []
def comE (key:LB):Int:=if key.length=32 then 0 else 2
def sgn (nm:LB) (rnd ser:Int) (box:LB):LB:=Yw nm ++ grp rnd.toNat ++ grp ser.toNat ++ Yw box
def sgnT (e:T):LB:=sgn e.acc e.rnd e.ser e.box
def enc (e:T):LB:=sgnT e ++ Yw e.tag
theorem sgn_len {nm:LB} {rnd ser:Int} {box:LB} (h1:nm.length≤10000) (h2:box.length≤10000) (h3:rnd≤1048576) (h4:ser≤1073741824):(sgn nm rnd ser box).length≤nm.length + box.length + 40:=by
 have a1:=YC (b:=nm) o9;have a2:=YC (b:=box) o9;have a3:=Yg (n:=rnd.toNat) o9;have a4:=Yg (n:=ser.toNat) o9;unfold sgn;simp only [List.length_append];omega
theorem ok_len {e:T} (h:ok e):e.acc.length≤32∧0≤e.rnd∧e.rnd≤1048576∧0≤e.ser∧e.ser≤1073741824∧32≤e.box.length∧e.box.length≤4128∧e.tag.length=32:=by
 obtain ⟨h1,h2,h3,h4,h5⟩:=h;exact ⟨h1.2.2,h2.1,h2.2,h3.1,h3.2,h4.1,h4.2,h5⟩
theorem sgnT_len {e:T} (h:ok e):(sgnT e).length≤4200:=by
 obtain ⟨h1,h2,h3,h4,h5,h6,h7,h8⟩:=ok_len h;have:=sgn_len (nm:=e.acc) (box:=e.box) o9 o9 h3 h5;unfold sgnT;omega
def keyB (key nm:LB):LB:=Bl.hash key (bidL ++ nm)
def boxB (key nm nonce bid:LB):LB:=Sl.sealB (keyB key nm) nonce bid
def preE (rnd ser:Int) (kl nl bl:Nat):Int:=if (0≤rnd∧rnd≤1048576)∧(0≤ser∧ser≤1073741824)∧kl=32∧nl=16 then if 4096 < bl then 5 else 0 else 2
def mk (l:List Acc.T) (nm:LB) (rnd ser:Int) (key nonce bid:LB):T:=⟨nm,rnd,ser,boxB key nm nonce bid,ZD l nm (sgn nm rnd ser (boxB key nm nonce bid))⟩
def slE (l:List Acc.T) (nm:LB) (rnd ser:Int) (kl nl bl:Nat):Int:=if preE rnd ser kl nl bl≠0 then preE rnd ser kl nl bl else if Acc.find l nm=none then 9 else 0
def slT (l:List Acc.T) (nm:LB) (rnd ser:Int) (key nonce bid:LB):T:=if slE l nm rnd ser key.length nonce.length bid.length=0 then mk l nm rnd ser key nonce bid else zero
def autE (l:List Acc.T) (e:T):Int:=if ok e then ZC l e.acc (sgnT e) e.tag else 2
def opE (l:List Acc.T) (e:T) (key:LB):Int:=if key.length=32 then if autE l e≠0 then autE l e else if (Sl.openB (keyB key e.acc) e.box).2≠0 then 10 else 0 else 2
def opB (l:List Acc.T) (e:T) (key:LB):LB:=if opE l e key=0 then (Sl.openB (keyB key e.acc) e.box).1 else []
def sz (e:T):Int:=if ok e then (e.box.length:Int) - 32 else -1
def rd (r:RT):T × RT:=
 (⟨(stP 32 r).1,(stU (stP 32 r).2).1,(stU (stU (stP 32 r).2).2).1,(stP 4128 (stU (stU (stP 32 r).2).2).2).1,(stP 32 (stP 4128 (stU (stU (stP 32 r).2).2).2).2).1⟩,(stP 32 (stP 4128 (stU (stU (stP 32 r).2).2).2).2).2)
def decE (p:LB):Int:=if endE (rd ⟨p,0⟩).2≠0 then endE (rd ⟨p,0⟩).2 else if ok (rd ⟨p,0⟩).1 then 0 else 6
def dec (p:LB):T:=if decE p=0 then (rd ⟨p,0⟩).1 else zero
def encQ (e:T):LB:=if ok e then enc e else []
def encE (e:T):Int:=if ok e then 0 else 2
theorem rd_enc {e:T} (h:ok e):rd ⟨enc e,0⟩=(e,⟨[],0⟩):=by
 obtain ⟨h1,h2,h3,h4,h5,h6,h7,h8⟩:=ok_len h
 have e1:enc e=Yw e.acc ++ (grp e.rnd.toNat ++ (grp e.ser.toNat ++ (Yw e.box ++ (Yw e.tag ++ [])))):=by unfold enc sgnT sgn;simp only [List.append_assoc,List.append_nil]
 unfold rd;rw [e1,stP_strE o9 o9];simp only;rw [stU_grp o9];simp only;rw [stU_grp o9];simp only;rw [stP_strE o9 o9];simp only;rw [stP_strE o9 o9];simp only;rw [show ((e.rnd.toNat:Nat):Int)=e.rnd by omega,show ((e.ser.toNat:Nat):Int)=e.ser by omega]
theorem dec_enc {e:T} (h:ok e):decE (enc e)=0∧dec (enc e)=e:=by
 have hd:decE (enc e)=0:=by
  unfold decE;rw [rd_enc h];simp [endE,h]
 refine ⟨hd,?_⟩;unfold dec;rw [if_pos hd,rd_enc h]
theorem end_ok {r:RT} (h:endE r=0):r.e=0∧r.p=[]:=by
 unfold endE at h
 split at h
 ·cases h
 ·rename_i hn;exact ⟨h,Classical.byContradiction fun hp=>hn ⟨h,hp⟩⟩
theorem dec_inv {p:LB} (h:decE p=0):ok (dec p)∧enc (dec p)=p:=by
 have h0:=h;unfold decE at h
 split at h
 ·rename_i h1;exact absurd h h1
 ·rename_i h1
  split at h
  ·rename_i h2
   have h1:endE (rd ⟨p,0⟩).2=0:=by simpa using h1
   have hd:dec p=(rd ⟨p,0⟩).1:=by unfold dec;rw [if_pos h0]
   rw [hd];refine ⟨h2,?_⟩;obtain ⟨e0,ep⟩:=end_ok h1;clear hd h2 h1 h h0;unfold rd at e0 ep ⊢;simp only at e0 ep ⊢;obtain ⟨e5,p5,-⟩:=stP_inv e0;obtain ⟨e4,p4,-⟩:=stP_inv e5;obtain ⟨e3,n3,v3,p3,-⟩:=stU_inv e4;obtain ⟨e2,n2,v2,p2,-⟩:=stU_inv e3;obtain ⟨e1,p1,-⟩:=stP_inv e2;unfold enc sgnT sgn;simp only;rw [v3,v2,Int.toNat_natCast,Int.toNat_natCast];rw [ep,List.append_nil] at p5;simp only [List.append_assoc];rw [← p5,← p4,← p3,← p2];exact p1.symm
  ·cases h
theorem box_len (key nm:LB) {nonce:LB} (bid:LB) (hn:nonce.length=16):(boxB key nm nonce bid).length=bid.length + 32:=Sl.sealB_length _ _ _ hn
theorem pre_ok {rnd ser:Int} {kl nl bl:Nat} (h:preE rnd ser kl nl bl=0):(0≤rnd∧rnd≤1048576)∧(0≤ser∧ser≤1073741824)∧kl=32∧nl=16∧bl≤4096:=by
 unfold preE at h
 split at h
 ·rename_i h1
  split at h
  ·cases h
  ·exact ⟨h1.1,h1.2.1,h1.2.2.1,h1.2.2.2,by omega⟩
 ·cases h
theorem pre_of {rnd ser:Int} {kl nl bl:Nat} (h1:0≤rnd∧rnd≤1048576) (h2:0≤ser∧ser≤1073741824) (h3:kl=32) (h4:nl=16) (h5:bl≤4096):preE rnd ser kl nl bl=0:=by
 unfold preE;rw [if_pos ⟨h1,h2,h3,h4⟩,if_neg o9]
structure Sld (l:List Acc.T) (nm:LB) (rnd ser:Int) (key nonce bid:LB) (a:Acc.T):Prop where
 err:slE l nm rnd ser key.length nonce.length bid.length=0
 eq:slT l nm rnd ser key nonce bid=mk l nm rnd ser key nonce bid
 tag:(mk l nm rnd ser key nonce bid).tag=Bl.hash a.key (sgnT (mk l nm rnd ser key nonce bid))
 ok:ok (mk l nm rnd ser key nonce bid)
 aut:autE l (mk l nm rnd ser key nonce bid)=0
theorem sld {l:List Acc.T} {nm:LB} {rnd ser:Int} {key nonce bid:LB} {a:Acc.T} (hf:Acc.Fine l) (ha:Acc.find l nm=some a) (h1:0≤rnd∧rnd≤1048576) (h2:0≤ser∧ser≤1073741824) (h3:key.length=32) (h4:nonce.length=16) (h5:bid.length≤4096):Sld l nm rnd ser key nonce bid a:=by
 obtain ⟨hm,hn⟩:=Acc.find_some ha;have hok:=hf.oks a hm
 have hnm:Acc.isName nm:=by rw [← hn];exact hok.1
 have hbl:=box_len key nm bid h4
 have herr:slE l nm rnd ser key.length nonce.length bid.length=0:=by unfold slE;rw [pre_of h1 h2 h3 h4 h5,if_neg s9,ha,if_neg s9]
 have hsl:(sgn nm rnd ser (boxB key nm nonce bid)).length≤65536:=by
  have:=sgn_len (nm:=nm) (box:=boxB key nm nonce bid) (by have:=hnm.2.2;omega) o9 h1.2 h2.2;have:=hnm.2.2;omega
 obtain ⟨t1,t2⟩:=Acc.tag_yes ha (q:=sgn nm rnd ser (boxB key nm nonce bid)) o9;have hok2:ok (mk l nm rnd ser key nonce bid):=⟨hnm,h1,h2,by show 32≤(boxB key nm nonce bid).length∧(boxB key nm nonce bid).length≤4128;omega,by show (ZD l nm _).length=32;rw [t1];simp⟩;refine ⟨herr,by unfold slT;rw [if_pos herr],t1,hok2,?_⟩;unfold autE;rw [if_pos hok2];unfold ZC Acc.ver;rw [show Acc.tagE l (mk l nm rnd ser key nonce bid).acc (sgnT (mk l nm rnd ser key nonce bid))=0 from t2];simp only [ne_eq,not_true_eq_false,if_false];rw [if_pos (show ZD l (mk l nm rnd ser key nonce bid).acc (sgnT (mk l nm rnd ser key nonce bid))=(mk l nm rnd ser key nonce bid).tag from rfl)]
theorem op_sld {l:List Acc.T} {nm:LB} {rnd ser:Int} {key nonce bid:LB} {a:Acc.T} (h:Sld l nm rnd ser key nonce bid a) (h3:key.length=32) (h4:nonce.length=16) (h5:bid.length≤4096):opE l (mk l nm rnd ser key nonce bid) key=0∧opB l (mk l nm rnd ser key nonce bid) key=bid:=by
 have ho:Sl.openB (keyB key (mk l nm rnd ser key nonce bid).acc) (mk l nm rnd ser key nonce bid).box=(bid,0):=Sl.open_seal _ _ _ h4 o9
 have he:opE l (mk l nm rnd ser key nonce bid) key=0:=by
  unfold opE;rw [if_pos h3,h.aut,if_neg s9,ho];simp
 refine ⟨he,?_⟩;unfold opB;rw [if_pos he,ho]
end Env
namespace Sx
def YT (e:Env.T):List D:=[yp e.acc,iD e.rnd,iD e.ser,bD e.box,bD e.tag]
instance:Row YT 5:=⟨fun _=>rfl,fun _=>by unfold YT;infer_instance,by decide⟩
end Sx
end Go.Proofs.YtgokpcnabgacnaaGreatDoor
namespace Go.Proofs.YtgokpcnabgacnaaGreatDoor
open Go.ChangeShapes Go.WideShapes Go.ChangeAt Go.RowKit
namespace Sx
instance:Inhabited Env.T:=⟨Env.zero⟩
theorem came_env:Came Tryz.prog 58 YT (fun e=>e.acc.length≤maxLen∧e.box.length≤maxLen∧e.tag.length≤maxLen):=fun H enc W fuel cs x h=>by
 obtain ⟨hl,hf⟩:=came_fields Tryz.underlying58 h;have hl':cs.length=5:=hl.trans k9;obtain ⟨_,_,h0⟩:=hf 0 _ rfl;obtain ⟨_,_,h1⟩:=hf 1 _ rfl;obtain ⟨_,_,h2⟩:=hf 2 _ rfl;obtain ⟨_,_,h3⟩:=hf 3 _ rfl;obtain ⟨_,_,h4⟩:=hf 4 _ rfl;obtain ⟨n,o0,a0⟩:=came_str Tryz.underlying9 _ _ _ _ _ _ h0;obtain ⟨r,o1,a1⟩:=came_int Tryz.underlying3 _ _ _ _ _ _ h1;obtain ⟨d,o3,a3⟩:=came_int Tryz.underlying3 _ _ _ _ _ _ h2;obtain ⟨b,o2,a2⟩:=came_bytes Tryz.underlying24 Tryz.underlying5 k9 _ _ _ _ _ _ h3;obtain ⟨m,o4,a4⟩:=came_bytes Tryz.underlying24 Tryz.underlying5 k9 _ _ _ _ _ _ h4;exact ⟨⟨n,r,d,b,m⟩,⟨o0,o2,o4⟩,all_parts [[yp n],[iD r],[iD d],[bD b],[bD m]] cs 0 ⟨a0,a1,a3,a2,a4,t9⟩ (by simpa using hl')⟩
end Sx
end Go.Proofs.YtgokpcnabgacnaaGreatDoor
