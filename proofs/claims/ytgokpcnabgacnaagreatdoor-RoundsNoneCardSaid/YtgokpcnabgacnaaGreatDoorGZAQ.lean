/- WIRE: Read, Err, End; the reference's Ungroup. WIRE: the reference's readers. WIRE: what is written is read again, and what is read was written so; in -/
import Derived.Test.YtgokpcnabgacnaaGreatDoorGZAP
import Derived.Test.YtgokpcnabgacnaaGreatDoorGZAO
import Derived.Test.YtgokpcnabgacnaaGreatDoorGZAA
import Derived.Test.YtgokpcnabgacnaaGreatDoorGZAN
namespace Go.Proofs.YtgokpcnabgacnaaGreatDoor
open Go.RowKit
namespace Sx
def endE (r : RT) : Int := if r.e = 0 ∧ r.p ≠ [] then 5 else r.e
end Sx
end Go.Proofs.YtgokpcnabgacnaaGreatDoor
namespace Go.Proofs.YtgokpcnabgacnaaGreatDoor
open Go.RowKit
namespace Sx
def u6 (p : List UInt8) : Nat × Nat × Int := match rdg 9 true p with | .ok (n, m) => (n, m, 0) | .error e => (0, 0, e)
def c6 (lim : Int) (p : List UInt8) : Nat × Nat × Int := if (u6 p).2.2 ≠ 0 then (0, 0, (u6 p).2.2) else if lim < ((u6 p).1 : Int) then (0, 0, 7) else ((u6 p).1, (u6 p).2.1, 0)
end Sx
end Go.Proofs.YtgokpcnabgacnaaGreatDoor
namespace Go.Proofs.YtgokpcnabgacnaaGreatDoor
open Go.RowKit
namespace Sx
end Sx
end Go.Proofs.YtgokpcnabgacnaaGreatDoor
namespace Go.Proofs.YtgokpcnabgacnaaGreatDoor
open Go.RowKit
namespace Sx
theorem strE_len {b : List UInt8} (h : b.length < 18446744073709551616) : (strE b).length ≤ 10 + b.length := by
 have := ZR h
 unfold strE
 rw [List.length_append]
 omega
end Sx
end Go.Proofs.YtgokpcnabgacnaaGreatDoor
namespace Go.Proofs.YtgokpcnabgacnaaGreatDoor
namespace Sl
def streamL : List UInt8 := [115, 116, 114, 101, 97, 109]
def tagL : List UInt8 := [116, 97, 103]
def be8 (i : Nat) : List UInt8 := (List.range 8).map fun j => UInt8.ofNat (i / 2 ^ (56 - 8 * j))
@[simp] theorem be8_length (i : Nat) : (be8 i).length = 8 := by simp [be8]
def block (k nonce : List UInt8) (i : Nat) : List UInt8 := Bl.hash k (nonce ++ be8 i)
def blocks (k nonce : List UInt8) : Nat → List UInt8
 | 0 => []
 | q + 1 => blocks k nonce q ++ block k nonce q
theorem blocks_length (k nonce : List UInt8) : ∀ q, (blocks k nonce q).length = 32 * q
 | 0 => rfl
 | q + 1 => by rw [blocks, List.length_append, blocks_length k nonce q, block, Bl.hash_length]; omega
def stream (key nonce : List UInt8) (n : Nat) : List UInt8 := (blocks (Bl.hash key streamL) nonce ((n + 31) / 32)).take n
@[simp] theorem stream_length (key nonce : List UInt8) (n : Nat) : (stream key nonce n).length = n := by
 rw [stream, List.length_take, blocks_length]; omega
def tag (key body : List UInt8) : List UInt8 := (Bl.hash (Bl.hash key tagL) body).take 16
@[simp] theorem tag_length (key body : List UInt8) : (tag key body).length = 16 := by rw [tag, List.length_take, Bl.hash_length]; rfl
def xorb (a b : List UInt8) : List UInt8 := List.zipWith (fun x y => x ^^^ y) a b
theorem xorb_length {a b : List UInt8} (h : a.length = b.length) : (xorb a b).length = b.length := by simp [xorb, h]
theorem xorb_take {a b : List UInt8} (h : a.length = b.length) (k : Nat) (hk : k < a.length) : xorb (a.take (k + 1)) (b.take (k + 1)) = xorb (a.take k) (b.take k) ++ [a.getD k 0 ^^^ b.getD k 0] := by
 have hk' : k < b.length := by omega
 unfold xorb
 rw [List.take_succ_eq_append_getElem hk, List.take_succ_eq_append_getElem hk', List.zipWith_append (by simp; omega)]
 simp [hk, hk']
theorem xorb_twice {a b : List UInt8} (h : a.length = b.length) : xorb a (xorb a b) = b := by
 induction a generalizing b with
 | nil => cases b with
  | nil => rfl
  | cons y b => simp at h
 | cons x a ih => cases b with
  | nil => simp at h
  | cons y b =>
   have := ih (b := b) (by simpa using h)
   simp only [xorb, List.zipWith_cons_cons] at *
   rw [this, ← UInt8.xor_assoc, UInt8.xor_self, UInt8.zero_xor]
def mask (key nonce b : List UInt8) : List UInt8 := xorb (stream key nonce b.length) b
@[simp] theorem mask_length (key nonce b : List UInt8) : (mask key nonce b).length = b.length := xorb_length s9
def sealB (key nonce plain : List UInt8) : List UInt8 := nonce ++ mask key nonce plain ++ tag key (nonce ++ mask key nonce plain)
theorem sealB_length (key nonce plain : List UInt8) (hn : nonce.length = 16) : (sealB key nonce plain).length = plain.length + 32 := by simp [sealB, hn]; omega
def bodyOf (b : List UInt8) : List UInt8 := b.take (b.length - 16)
def tagIn (b : List UInt8) : List UInt8 := b.drop (b.length - 16)
def good (key b : List UInt8) : Bool := tag key (bodyOf b) == tagIn b
def plainOf (key b : List UInt8) : List UInt8 := mask key ((bodyOf b).take 16) ((bodyOf b).drop 16)
def openB (key b : List UInt8) : List UInt8 × Nat :=
 if b.length < 32 then ([], 4) else if 65536 < b.length then ([], 5) else if good key b then (plainOf key b, 0) else ([], 10)
theorem seal_body (key nonce plain : List UInt8) : bodyOf (sealB key nonce plain) = nonce ++ mask key nonce plain := by
 unfold bodyOf sealB
 rw [List.length_append, tag_length, Nat.add_sub_cancel, List.take_left]
theorem seal_tag (key nonce plain : List UInt8) : tagIn (sealB key nonce plain) = tag key (nonce ++ mask key nonce plain) := by
 unfold tagIn sealB
 rw [List.length_append, tag_length, Nat.add_sub_cancel, List.drop_left]
theorem seal_good (key nonce plain : List UInt8) : good key (sealB key nonce plain) = true := by
 unfold good
 rw [seal_body, seal_tag, beq_self_eq_true]
theorem seal_plain (key nonce plain : List UInt8) (hn : nonce.length = 16) : plainOf key (sealB key nonce plain) = plain := by
 unfold plainOf
 rw [seal_body, ← hn, List.take_left, List.drop_left]
 unfold mask
 rw [xorb_length s9]
 exact xorb_twice s9
theorem open_seal (key nonce plain : List UInt8) (hn : nonce.length = 16) (hp : plain.length ≤ 65504) : openB key (sealB key nonce plain) = (plain, 0) := by
 unfold openB
 rw [sealB_length _ _ _ hn, if_neg o9, if_neg o9, seal_good, if_pos rfl, seal_plain _ _ _ hn]
end Sl
end Go.Proofs.YtgokpcnabgacnaaGreatDoor
namespace Go.Proofs.YtgokpcnabgacnaaGreatDoor
open Go.RowKit
open Sx
namespace Env
structure T where
 acc : List UInt8
 rnd : Int
 ser : Int
 box : List UInt8
 tag : List UInt8
def zero : T := ⟨[], 0, 0, [], []⟩
def okV (nm : List UInt8) (rnd ser : Int) (bl tl : Nat) : Prop := Acc.isName nm ∧ (0 ≤ rnd ∧ rnd ≤ 1048576) ∧ (0 ≤ ser ∧ ser ≤ 1073741824) ∧ (32 ≤ bl ∧ bl ≤ 4128) ∧ tl = 32
instance (nm : List UInt8) (rnd ser : Int) (bl tl : Nat) : Decidable (okV nm rnd ser bl tl) := by unfold okV; infer_instance
def ok (e : T) : Prop := okV e.acc e.rnd e.ser e.box.length e.tag.length
instance (e : T) : Decidable (ok e) := by unfold ok; infer_instance
def roundL : List UInt8 := [114, 111, 117, 110, 100, 45]
def bidL : List UInt8 := [98, 105, 100, 45]
def comH (key : List UInt8) : List UInt8 := Bl.hash [] (roundL ++ key)
def comB (key : List UInt8) : List UInt8 := if key.length = 32 then comH key else []
def comE (key : List UInt8) : Int := if key.length = 32 then 0 else 2
def sgn (nm : List UInt8) (rnd ser : Int) (box : List UInt8) : List UInt8 := strE nm ++ grp rnd.toNat ++ grp ser.toNat ++ strE box
def sgnT (e : T) : List UInt8 := sgn e.acc e.rnd e.ser e.box
def enc (e : T) : List UInt8 := sgnT e ++ strE e.tag
theorem sgn_len {nm : List UInt8} {rnd ser : Int} {box : List UInt8} (h1 : nm.length ≤ 10000) (h2 : box.length ≤ 10000) (h3 : rnd ≤ 1048576) (h4 : ser ≤ 1073741824) : (sgn nm rnd ser box).length ≤ nm.length + box.length + 40 := by
 have a1 := strE_len (b := nm) o9
 have a2 := strE_len (b := box) o9
 have a3 := ZR (n := rnd.toNat) o9
 have a4 := ZR (n := ser.toNat) o9
 unfold sgn
 simp only [List.length_append]
 omega
theorem ok_len {e : T} (h : ok e) : e.acc.length ≤ 32 ∧ 0 ≤ e.rnd ∧ e.rnd ≤ 1048576 ∧ 0 ≤ e.ser ∧ e.ser ≤ 1073741824 ∧ 32 ≤ e.box.length ∧ e.box.length ≤ 4128 ∧ e.tag.length = 32 := by
 obtain ⟨h1, h2, h3, h4, h5⟩ := h
 exact ⟨h1.2.2, h2.1, h2.2, h3.1, h3.2, h4.1, h4.2, h5⟩
theorem sgnT_len {e : T} (h : ok e) : (sgnT e).length ≤ 4200 := by
 obtain ⟨h1, h2, h3, h4, h5, h6, h7, h8⟩ := ok_len h
 have := sgn_len (nm := e.acc) (box := e.box) o9 o9 h3 h5
 unfold sgnT
 omega
def keyB (key nm : List UInt8) : List UInt8 := Bl.hash key (bidL ++ nm)
def boxB (key nm nonce bid : List UInt8) : List UInt8 := Sl.sealB (keyB key nm) nonce bid
def preE (rnd ser : Int) (kl nl bl : Nat) : Int := if (0 ≤ rnd ∧ rnd ≤ 1048576) ∧ (0 ≤ ser ∧ ser ≤ 1073741824) ∧ kl = 32 ∧ nl = 16 then if 4096 < bl then 5 else 0 else 2
def mk (l : List Acc.T) (nm : List UInt8) (rnd ser : Int) (key nonce bid : List UInt8) : T := ⟨nm, rnd, ser, boxB key nm nonce bid, ZF l nm (sgn nm rnd ser (boxB key nm nonce bid))⟩
def slE (l : List Acc.T) (nm : List UInt8) (rnd ser : Int) (kl nl bl : Nat) : Int := if preE rnd ser kl nl bl ≠ 0 then preE rnd ser kl nl bl else if Acc.find l nm = none then 9 else 0
def slT (l : List Acc.T) (nm : List UInt8) (rnd ser : Int) (key nonce bid : List UInt8) : T := if slE l nm rnd ser key.length nonce.length bid.length = 0 then mk l nm rnd ser key nonce bid else zero
def autE (l : List Acc.T) (e : T) : Int := if ok e then Zh l e.acc (sgnT e) e.tag else 2
def opE (l : List Acc.T) (e : T) (key : List UInt8) : Int := if key.length = 32 then if autE l e ≠ 0 then autE l e else if (Sl.openB (keyB key e.acc) e.box).2 ≠ 0 then 10 else 0 else 2
def opB (l : List Acc.T) (e : T) (key : List UInt8) : List UInt8 := if opE l e key = 0 then (Sl.openB (keyB key e.acc) e.box).1 else []
def sz (e : T) : Int := if ok e then (e.box.length : Int) - 32 else -1
def rd (r : RT) : T × RT :=
 (⟨(stP 32 r).1, (stU (stP 32 r).2).1, (stU (stU (stP 32 r).2).2).1, (stP 4128 (stU (stU (stP 32 r).2).2).2).1, (stP 32 (stP 4128 (stU (stU (stP 32 r).2).2).2).2).1⟩, (stP 32 (stP 4128 (stU (stU (stP 32 r).2).2).2).2).2)
def encQ (e : T) : List UInt8 := if ok e then enc e else []
def encE (e : T) : Int := if ok e then 0 else 2
theorem box_len (key nm : List UInt8) {nonce : List UInt8} (bid : List UInt8) (hn : nonce.length = 16) : (boxB key nm nonce bid).length = bid.length + 32 := Sl.sealB_length _ _ _ hn
theorem pre_ok {rnd ser : Int} {kl nl bl : Nat} (h : preE rnd ser kl nl bl = 0) : (0 ≤ rnd ∧ rnd ≤ 1048576) ∧ (0 ≤ ser ∧ ser ≤ 1073741824) ∧ kl = 32 ∧ nl = 16 ∧ bl ≤ 4096 := by
 unfold preE at h
 split at h
 ·rename_i h1
  split at h
  ·cases h
  ·exact ⟨h1.1, h1.2.1, h1.2.2.1, h1.2.2.2, by omega⟩
 ·cases h
theorem pre_of {rnd ser : Int} {kl nl bl : Nat} (h1 : 0 ≤ rnd ∧ rnd ≤ 1048576) (h2 : 0 ≤ ser ∧ ser ≤ 1073741824) (h3 : kl = 32) (h4 : nl = 16) (h5 : bl ≤ 4096) : preE rnd ser kl nl bl = 0 := by
 unfold preE
 rw [if_pos ⟨h1, h2, h3, h4⟩, if_neg o9]
structure Sld (l : List Acc.T) (nm : List UInt8) (rnd ser : Int) (key nonce bid : List UInt8) (a : Acc.T) : Prop where
 err : slE l nm rnd ser key.length nonce.length bid.length = 0
 eq : slT l nm rnd ser key nonce bid = mk l nm rnd ser key nonce bid
 tag : (mk l nm rnd ser key nonce bid).tag = Bl.hash a.key (sgnT (mk l nm rnd ser key nonce bid))
 ok : ok (mk l nm rnd ser key nonce bid)
 aut : autE l (mk l nm rnd ser key nonce bid) = 0
theorem sld {l : List Acc.T} {nm : List UInt8} {rnd ser : Int} {key nonce bid : List UInt8} {a : Acc.T} (hf : Acc.Fine l) (ha : Acc.find l nm = some a) (h1 : 0 ≤ rnd ∧ rnd ≤ 1048576) (h2 : 0 ≤ ser ∧ ser ≤ 1073741824) (h3 : key.length = 32) (h4 : nonce.length = 16) (h5 : bid.length ≤ 4096) : Sld l nm rnd ser key nonce bid a := by
 obtain ⟨hm, hn⟩ := Acc.find_some ha
 have hok := hf.oks a hm
 have hnm : Acc.isName nm := by rw [← hn]; exact hok.1
 have hbl := box_len key nm bid h4
 have herr : slE l nm rnd ser key.length nonce.length bid.length = 0 := by unfold slE; rw [pre_of h1 h2 h3 h4 h5, if_neg s9, ha, if_neg s9]
 have hsl : (sgn nm rnd ser (boxB key nm nonce bid)).length ≤ 65536 := by
  have := sgn_len (nm := nm) (box := boxB key nm nonce bid) (by have := hnm.2.2; omega) o9 h1.2 h2.2
  have := hnm.2.2
  omega
 obtain ⟨t1, t2⟩ := Acc.tag_yes ha (q := sgn nm rnd ser (boxB key nm nonce bid)) o9
 have hok2 : ok (mk l nm rnd ser key nonce bid) := ⟨hnm, h1, h2, by show 32 ≤ (boxB key nm nonce bid).length ∧ (boxB key nm nonce bid).length ≤ 4128; omega, by show (ZF l nm _).length = 32; rw [t1]; simp⟩
 refine ⟨herr, by unfold slT; rw [if_pos herr], t1, hok2, ?_⟩
 unfold autE
 rw [if_pos hok2]
 unfold Zh Acc.ver
 rw [show Acc.tagE l (mk l nm rnd ser key nonce bid).acc (sgnT (mk l nm rnd ser key nonce bid)) = 0 from t2]
 simp only [ne_eq, not_true_eq_false, if_false]
 rw [if_pos (show ZF l (mk l nm rnd ser key nonce bid).acc (sgnT (mk l nm rnd ser key nonce bid)) = (mk l nm rnd ser key nonce bid).tag from rfl)]
theorem op_sld {l : List Acc.T} {nm : List UInt8} {rnd ser : Int} {key nonce bid : List UInt8} {a : Acc.T} (h : Sld l nm rnd ser key nonce bid a) (h3 : key.length = 32) (h4 : nonce.length = 16) (h5 : bid.length ≤ 4096) : opE l (mk l nm rnd ser key nonce bid) key = 0 ∧ opB l (mk l nm rnd ser key nonce bid) key = bid := by
 have ho : Sl.openB (keyB key (mk l nm rnd ser key nonce bid).acc) (mk l nm rnd ser key nonce bid).box = (bid, 0) := Sl.open_seal _ _ _ h4 o9
 have he : opE l (mk l nm rnd ser key nonce bid) key = 0 := by
  unfold opE
  rw [if_pos h3, h.aut, if_neg s9, ho]
  simp
 refine ⟨he, ?_⟩
 unfold opB
 rw [if_pos he, ho]
end Env
namespace Sx
def encEn (e : Env.T) : List D := [yt e.acc, iD e.rnd, iD e.ser, bD e.box, bD e.tag]
instance : Row encEn 5 := ⟨fun _ => rfl, fun _ => by unfold encEn; infer_instance, by decide⟩
end Sx
end Go.Proofs.YtgokpcnabgacnaaGreatDoor
