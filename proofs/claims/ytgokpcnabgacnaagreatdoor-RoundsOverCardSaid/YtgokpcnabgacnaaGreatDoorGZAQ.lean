/- WIRE: Read, Err, End; the reference's Ungroup. WIRE: the reference's readers. WIRE: what is written is read again, and what is read was written so; in -/
import Derived.Test.YtgokpcnabgacnaaGreatDoorGZAP
set_option maxHeartbeats 8000000
set_option maxRecDepth 100000
namespace Go.Proofs.YtgokpcnabgacnaaGreatDoor
open Go.RowKit
namespace Sx
section
end
section
def u6 (p:LB):Nat × Nat × Int:=match rdg 9 true p with | .ok (n,m)=>(n,m,0) | .error e=>(0,0,e)
def c6 (lim:Int) (p:LB):Nat × Nat × Int:=if (u6 p).2.2≠0 then (0,0,(u6 p).2.2) else if lim < ((u6 p).1:Int) then (0,0,7) else ((u6 p).1,(u6 p).2.1,0)
end
section
end
section
theorem ZN {b:LB} (h:b.length < 18446744073709551616):(j5 b).length≤10 + b.length:=by
 have:=Zv h;unfold j5;rw [Jk];omega
end
end Sx
end Go.Proofs.YtgokpcnabgacnaaGreatDoor
namespace Go.Proofs.YtgokpcnabgacnaaGreatDoor
namespace Sl
def streamL:LB:=[115,116,114,101,97,109]
def tagL:LB:=[116,97,103]
def be8 (i:Nat):LB:=(List.range 8).map fun j=>UInt8.ofNat (i / 2 ^ (56 - 8 * j))
@[simp] theorem be8_length (i:Nat):(be8 i).length=8:=by simp [be8]
def block (k nonce:LB) (i:Nat):LB:=Bl.hash k (nonce ++ be8 i)
def blocks (k nonce:LB):Nat→LB
 | 0=>[]
 | q + 1=>blocks k nonce q ++ block k nonce q
theorem blocks_length (k nonce:LB):∀ q,(blocks k nonce q).length=32 * q
 | 0=>rfl
 | q + 1=>by rw [blocks,Jk,blocks_length k nonce q,block,Bl.hash_length];omega
def stream (key nonce:LB) (n:Nat):LB:=(blocks (Bl.hash key streamL) nonce<|(n + 31) / 32).take n
@[simp] theorem stream_length (key nonce:LB) (n:Nat):(stream key nonce n).length=n:=by
 rw [stream,JE,blocks_length];omega
def tag (key body:LB):LB:=(Bl.hash (Bl.hash key tagL) body).take 16
@[simp] theorem zb7 (key body:LB):(tag key body).length=16:=by rw [tag,JE,Bl.hash_length];rfl
def xorb (a b:LB):LB:=List.zipWith (fun x y=>x ^^^ y) a b
theorem xorb_length {a b:LB} (h:a.length=b.length):(xorb a b).length=b.length:=by simp [xorb,h]
theorem xorb_take {a b:LB} (h:a.length=b.length) (k:Nat) (hk:k < a.length):xorb (a.take<|k + 1) (b.take<|k + 1)=xorb (a.take k) (b.take k) ++ [a.getD k 0 ^^^ b.getD k 0]:=by
 have hk':k < b.length:=by omega
 unfold xorb;rw [J8 hk,J8 hk',List.zipWith_append (by simp;omega)];simp [hk,hk']
theorem zgM {a b:LB} (h:a.length=b.length):xorb a (xorb a b)=b:=by
 induction a generalizing b with
 | nil=>cases b with
  | nil=>rfl
  | cons y b=>simp at h
 | cons x a ih=>cases b with
  | nil=>simp at h
  | cons y b=>
   have:=ih (b:=b) (by simpa using h);simp only [xorb,List.zipWith_cons_cons] at *;rw [this,← UInt8.xor_assoc,UInt8.xor_self,UInt8.zero_xor]
def mask (key nonce b:LB):LB:=xorb (stream key nonce b.length) b
@[simp] theorem mask_length (key nonce b:LB):(mask key nonce b).length=b.length:=xorb_length s9
def sealB (key nonce plain:LB):LB:=nonce ++ mask key nonce plain ++ tag key (nonce ++ mask key nonce plain)
theorem sealB_length (key nonce plain:LB) (hn:nonce.length=16):(sealB key nonce plain).length=plain.length + 32:=by simp [sealB,hn];omega
def bodyOf (b:LB):LB:=b.take (b.length - 16)
def tagIn (b:LB):LB:=b.drop (b.length - 16)
def good (key b:LB):Bool:=tag key (bodyOf b) == tagIn b
def plainOf (key b:LB):LB:=mask key ((bodyOf b).take 16) ((bodyOf b).drop 16)
def openB (key b:LB):LB × Nat:=
 if b.length < 32 then ([],4) else if 65536 < b.length then ([],5) else if good key b then (plainOf key b,0) else ([],10)
theorem zdK (key nonce plain:LB):bodyOf (sealB key nonce plain)=nonce ++ mask key nonce plain:=by
 unfold bodyOf sealB;rw [Jk,zb7,Nat.add_sub_cancel,List.take_left]
theorem seal_tag (key nonce plain:LB):tagIn (sealB key nonce plain)=tag key (nonce ++ mask key nonce plain):=by
 unfold tagIn sealB;rw [Jk,zb7,Nat.add_sub_cancel,List.drop_left]
theorem seal_good (key nonce plain:LB):good key (sealB key nonce plain)=true:=by
 unfold good;rw [zdK,seal_tag,beq_self_eq_true]
theorem zgS (key nonce plain:LB) (hn:nonce.length=16):plainOf key (sealB key nonce plain)=plain:=by
 unfold plainOf;rw [zdK,← hn,List.take_left,List.drop_left];unfold mask;rw [xorb_length s9];exact zgM s9
theorem open_seal (key nonce plain:LB) (hn:nonce.length=16) (hp:plain.length≤65504):openB key (sealB key nonce plain)=(plain,0):=by
 unfold openB;rw [sealB_length _ _ _ hn,Jb o9,Jb o9,seal_good,Jh rfl,zgS _ _ _ hn]
end Sl
end Go.Proofs.YtgokpcnabgacnaaGreatDoor
namespace Go.Proofs.YtgokpcnabgacnaaGreatDoor
open Go.RowKit
open Sx
namespace Env
structure T where
 acc:LB
 rnd:Int
 ser:Int
 box:LB
 tag:LB
def zero:T:=⟨[],0,0,[],[]⟩
def okV (nm:LB) (rnd ser:Int) (bl tl:Nat):Prop:=Acc.isName nm∧(0≤rnd∧rnd≤1048576)∧(0≤ser∧ser≤1073741824)∧(32≤bl∧bl≤4128)∧tl=32
instance (nm:LB) (rnd ser:Int) (bl tl:Nat):Decidable (okV nm rnd ser bl tl):=by unfold okV;infer_instance
def ok (e:T):Prop:=okV e.acc e.rnd e.ser e.box.length e.tag.length
instance (e:T):Decidable (ok e):=by unfold ok;infer_instance
def roundL:LB:=[114,111,117,110,100,45]
def bidL:LB:=[98,105,100,45]
def comH (key:LB):LB:=Bl.hash [] (roundL ++ key)
def comB (key:LB):LB:=if key.length=32 then comH key else []
def comE (key:LB):Int:=if key.length=32 then 0 else 2
def sgn (nm:LB) (rnd ser:Int) (box:LB):LB:=j5 nm ++ grp rnd.toNat ++ grp ser.toNat ++ j5 box
def sgnT (e:T):LB:=sgn e.acc e.rnd e.ser e.box
def enc (e:T):LB:=sgnT e ++ j5 e.tag
theorem sgn_len {nm:LB} {rnd ser:Int} {box:LB} (h1:nm.length≤10000) (h2:box.length≤10000) (h3:rnd≤1048576) (h4:ser≤1073741824):(sgn nm rnd ser box).length≤nm.length + box.length + 40:=by
 have a1:=ZN (b:=nm) o9;have a2:=ZN (b:=box) o9;have a3:=Zv (n:=rnd.toNat) o9;have a4:=Zv (n:=ser.toNat) o9;unfold sgn;simp only [Jk];omega
theorem ok_len {e:T} (h:ok e):e.acc.length≤32∧0≤e.rnd∧e.rnd≤1048576∧0≤e.ser∧e.ser≤1073741824∧32≤e.box.length∧e.box.length≤4128∧e.tag.length=32:=by
 obtain ⟨h1,h2,h3,h4,h5⟩:=h;exact ⟨h1.2.2,h2.1,h2.2,h3.1,h3.2,h4.1,h4.2,h5⟩
theorem sgnT_len {e:T} (h:ok e):(sgnT e).length≤4200:=by
 obtain ⟨h1,h2,h3,h4,h5,h6,h7,h8⟩:=ok_len h;have:=sgn_len (nm:=e.acc) (box:=e.box) o9 o9 h3 h5;unfold sgnT;omega
def keyB (key nm:LB):LB:=Bl.hash key (bidL ++ nm)
def boxB (key nm nonce bid:LB):LB:=Sl.sealB (keyB key nm) nonce bid
def preE (rnd ser:Int) (kl nl bl:Nat):Int:=if (0≤rnd∧rnd≤1048576)∧(0≤ser∧ser≤1073741824)∧kl=32∧nl=16 then if 4096 < bl then 5 else 0 else 2
def mk (l:List Acc.T) (nm:LB) (rnd ser:Int) (key nonce bid:LB):T:=⟨nm,rnd,ser,boxB key nm nonce bid,Z4 l nm<|sgn nm rnd ser<|boxB key nm nonce bid⟩
def slE (l:List Acc.T) (nm:LB) (rnd ser:Int) (kl nl bl:Nat):Int:=if preE rnd ser kl nl bl≠0 then preE rnd ser kl nl bl else if Acc.find l nm=none then 9 else 0
def slT (l:List Acc.T) (nm:LB) (rnd ser:Int) (key nonce bid:LB):T:=if slE l nm rnd ser key.length nonce.length bid.length=0 then mk l nm rnd ser key nonce bid else zero
def autE (l:List Acc.T) (e:T):Int:=if ok e then Yi l e.acc (sgnT e) e.tag else 2
def opE (l:List Acc.T) (e:T) (key:LB):Int:=if key.length=32 then if autE l e≠0 then autE l e else if (Sl.openB (keyB key e.acc) e.box).2≠0 then 10 else 0 else 2
def opB (l:List Acc.T) (e:T) (key:LB):LB:=if opE l e key=0 then (Sl.openB (keyB key e.acc) e.box).1 else []
def sz (e:T):Int:=if ok e then (e.box.length:Int) - 32 else -1
def encQ (e:T):LB:=if ok e then enc e else []
def encE (e:T):Int:=if ok e then 0 else 2
theorem box_len (key nm:LB) {nonce:LB} (bid:LB) (hn:nonce.length=16):(boxB key nm nonce bid).length=bid.length + 32:=Sl.sealB_length _ _ _ hn
theorem pre_ok {rnd ser:Int} {kl nl bl:Nat} (h:preE rnd ser kl nl bl=0):(0≤rnd∧rnd≤1048576)∧(0≤ser∧ser≤1073741824)∧kl=32∧nl=16∧bl≤4096:=by
 unfold preE at h
 split at h
 ·rename_i h1
  split at h
  ·cases h
  ·exact ⟨h1.1,h1.2.1,h1.2.2.1,h1.2.2.2,by omega⟩
 ·cases h
theorem pre_of {rnd ser:Int} {kl nl bl:Nat} (h1:0≤rnd∧rnd≤1048576) (h2:0≤ser∧ser≤1073741824) (h3:kl=32) (h4:nl=16) (h5:bl≤4096):preE rnd ser kl nl bl=0:=by
 unfold preE;rw [Jh ⟨h1,h2,h3,h4⟩,Jb o9]
structure Sld (l:List Acc.T) (nm:LB) (rnd ser:Int) (key nonce bid:LB) (a:Acc.T):Prop where
 err:slE l nm rnd ser key.length nonce.length bid.length=0
 eq:slT l nm rnd ser key nonce bid=mk l nm rnd ser key nonce bid
 tag:(mk l nm rnd ser key nonce bid).tag=Bl.hash a.key (sgnT<|mk l nm rnd ser key nonce bid)
 ok:ok (mk l nm rnd ser key nonce bid)
 aut:autE l (mk l nm rnd ser key nonce bid)=0
theorem sld {l:List Acc.T} {nm:LB} {rnd ser:Int} {key nonce bid:LB} {a:Acc.T} (hf:Acc.Fine l) (ha:Acc.find l nm=some a) (h1:0≤rnd∧rnd≤1048576) (h2:0≤ser∧ser≤1073741824) (h3:key.length=32) (h4:nonce.length=16) (h5:bid.length≤4096):Sld l nm rnd ser key nonce bid a:=by
 obtain ⟨hm,hn⟩:=Acc.find_some ha;have hok:=hf.oks a hm
 have hnm:Acc.isName nm:=by rw [← hn];exact hok.1
 have hbl:=box_len key nm bid h4
 have herr:slE l nm rnd ser key.length nonce.length bid.length=0:=by unfold slE;rw [pre_of h1 h2 h3 h4 h5,Jb s9,ha,Jb s9]
 have hsl:(sgn nm rnd ser<|boxB key nm nonce bid).length≤65536:=by
  have:=sgn_len (nm:=nm) (box:=boxB key nm nonce bid) (by have:=hnm.2.2;omega) o9 h1.2 h2.2;have:=hnm.2.2;omega
 obtain ⟨t1,t2⟩:=YW ha (q:=sgn nm rnd ser<|boxB key nm nonce bid) o9;have hok2:ok (mk l nm rnd ser key nonce bid):=⟨hnm,h1,h2,by show 32≤(boxB key nm nonce bid).length∧(boxB key nm nonce bid).length≤4128;omega,by show (Z4 l nm _).length=32;rw [t1];simp⟩;refine ⟨herr,by unfold slT;rw [Jh herr],t1,hok2,?_⟩;unfold autE;rw [Jh hok2];unfold Yi jH;rw [show Y5 l (mk l nm rnd ser key nonce bid).acc (sgnT<|mk l nm rnd ser key nonce bid)=0 from t2];simp only [ne_eq,not_true_eq_false,if_false];rw [Jh (show Z4 l (mk l nm rnd ser key nonce bid).acc (sgnT<|mk l nm rnd ser key nonce bid)=(mk l nm rnd ser key nonce bid).tag from rfl)]
theorem op_sld {l:List Acc.T} {nm:LB} {rnd ser:Int} {key nonce bid:LB} {a:Acc.T} (h:Sld l nm rnd ser key nonce bid a) (h3:key.length=32) (h4:nonce.length=16) (h5:bid.length≤4096):opE l (mk l nm rnd ser key nonce bid) key=0∧opB l (mk l nm rnd ser key nonce bid) key=bid:=by
 have ho:Sl.openB (keyB key (mk l nm rnd ser key nonce bid).acc) (mk l nm rnd ser key nonce bid).box=(bid,0):=Sl.open_seal _ _ _ h4 o9
 have he:opE l (mk l nm rnd ser key nonce bid) key=0:=by
  unfold opE;rw [Jh h3,h.aut,Jb s9,ho];simp
 refine ⟨he,?_⟩;unfold opB;rw [Jh he,ho]
end Env
namespace Sx
def yX (e:Env.T):List D:=[yY e.acc,iD e.rnd,iD e.ser,bD e.box,bD e.tag]
instance:Row yX 5:=⟨fun _=>rfl,fun _=>by unfold yX;infer_instance,by decide⟩
end Sx
end Go.Proofs.YtgokpcnabgacnaaGreatDoor
namespace Go.Proofs.YtgokpcnabgacnaaGreatDoor
open Go.ChangeShapes Go.WideShapes Go.ChangeAt Go.RowKit
namespace Sx
instance:Inhabited Env.T:=⟨Env.zero⟩
theorem came_env:Came Tryz.prog 58 yX (fun e=>e.acc.length≤maxLen∧e.box.length≤maxLen∧e.tag.length≤maxLen):=fun H enc W fuel cs x h=>by
 obtain ⟨hl,hf⟩:=Vp Tryz.underlying58 h;have hl':cs.length=5:=hl.trans k9;obtain ⟨_,_,h0⟩:=hf 0 _ rfl;obtain ⟨_,_,h1⟩:=hf 1 _ rfl;obtain ⟨_,_,h2⟩:=hf 2 _ rfl;obtain ⟨_,_,h3⟩:=hf 3 _ rfl;obtain ⟨_,_,h4⟩:=hf 4 _ rfl;obtain ⟨n,o0,a0⟩:=came_str Tryz.underlying9 _ _ _ _ _ _ h0;obtain ⟨r,o1,a1⟩:=qV Tryz.underlying3 _ _ _ _ _ _ h1;obtain ⟨d,o3,a3⟩:=qV Tryz.underlying3 _ _ _ _ _ _ h2;obtain ⟨b,o2,a2⟩:=K7 Tryz.underlying24 Tryz.underlying5 k9 _ _ _ _ _ _ h3;obtain ⟨m,o4,a4⟩:=K7 Tryz.underlying24 Tryz.underlying5 k9 _ _ _ _ _ _ h4;exact ⟨⟨n,r,d,b,m⟩,⟨o0,o2,o4⟩,Wd [[yY n],[iD r],[iD d],[bD b],[bD m]] cs 0 ⟨a0,a1,a3,a2,a4,t9⟩ (by simpa using hl')⟩
