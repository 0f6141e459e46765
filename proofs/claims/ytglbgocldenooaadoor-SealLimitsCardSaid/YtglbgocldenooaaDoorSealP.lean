/-
  Package seal in plain Lean: the derived keys, the key stream, the tag, sealing and opening. No program in sight.
-/
import Derived.Test.YtglbgocldenooaaDoorHashP
namespace Go.Proofs.YtglbgocldenooaaDoor
namespace Sl
def streamL : List UInt8 := [115, 116, 114, 101, 97, 109]
def tagL : List UInt8 := [116, 97, 103]
def be8 (i : Nat) : List UInt8 := (List.range 8).map fun j => UInt8.ofNat (i / 2 ^ (56 - 8 * j))
@[simp] theorem be8_length (i : Nat) : (be8 i).length = 8 := by simp [be8]
def block (k nonce : List UInt8) (i : Nat) : List UInt8 := Bl.hash k (nonce ++ be8 i)
def blocks (k nonce : List UInt8) : Nat → List UInt8
  | 0 => []
  | q + 1 => blocks k nonce q ++ block k nonce q
theorem blocks_length (k nonce : List UInt8) : ∀ q, (blocks k nonce q).length = 32 * q
  | 0 => rfl
  | q + 1 => by rw [blocks, List.length_append, blocks_length k nonce q, block, Bl.hash_length]; omega
def stream (key nonce : List UInt8) (n : Nat) : List UInt8 := (blocks (Bl.hash key streamL) nonce ((n + 31) / 32)).take n
@[simp] theorem stream_length (key nonce : List UInt8) (n : Nat) : (stream key nonce n).length = n := by
  rw [stream, List.length_take, blocks_length]; omega
def tag (key body : List UInt8) : List UInt8 := (Bl.hash (Bl.hash key tagL) body).take 16
@[simp] theorem tag_length (key body : List UInt8) : (tag key body).length = 16 := by rw [tag, List.length_take, Bl.hash_length]; rfl
def xorb (a b : List UInt8) : List UInt8 := List.zipWith (fun x y => x ^^^ y) a b
theorem xorb_length {a b : List UInt8} (h : a.length = b.length) : (xorb a b).length = b.length := by simp [xorb, h]
theorem xorb_comm (a b : List UInt8) : xorb a b = xorb b a := by
  unfold xorb
  rw [List.zipWith_comm]
  congr 1
  funext x y
  exact UInt8.xor_comm _ _
theorem xorb_take {a b : List UInt8} (h : a.length = b.length) (k : Nat) (hk : k < a.length) : xorb (a.take (k + 1)) (b.take (k + 1)) = xorb (a.take k) (b.take k) ++ [a.getD k 0 ^^^ b.getD k 0] := by
  have hk' : k < b.length := by omega
  unfold xorb
  rw [List.take_succ_eq_append_getElem hk, List.take_succ_eq_append_getElem hk', List.zipWith_append (by simp; omega)]
  simp [hk, hk']
theorem xorb_twice {a b : List UInt8} (h : a.length = b.length) : xorb a (xorb a b) = b := by
  induction a generalizing b with
  | nil => cases b with
    | nil => rfl
    | cons y b => simp at h
  | cons x a ih => cases b with
    | nil => simp at h
    | cons y b =>
      have := ih (b := b) (by simpa using h)
      simp only [xorb, List.zipWith_cons_cons] at *
      rw [this, ← UInt8.xor_assoc, UInt8.xor_self, UInt8.zero_xor]
def mask (key nonce b : List UInt8) : List UInt8 := xorb (stream key nonce b.length) b
@[simp] theorem mask_length (key nonce b : List UInt8) : (mask key nonce b).length = b.length := xorb_length (by simp)
def sealB (key nonce plain : List UInt8) : List UInt8 := nonce ++ mask key nonce plain ++ tag key (nonce ++ mask key nonce plain)
theorem sealB_length (key nonce plain : List UInt8) (hn : nonce.length = 16) : (sealB key nonce plain).length = plain.length + 32 := by simp [sealB, hn]; omega
/-- The tag and the body of sealed bytes. -/
def bodyOf (b : List UInt8) : List UInt8 := b.take (b.length - 16)
def tagIn (b : List UInt8) : List UInt8 := b.drop (b.length - 16)
def good (key b : List UInt8) : Bool := tag key (bodyOf b) == tagIn b
def plainOf (key b : List UInt8) : List UInt8 := mask key ((bodyOf b).take 16) ((bodyOf b).drop 16)
/-- What opening comes to: bytes, and the error. -/
def openB (key b : List UInt8) : List UInt8 × Nat :=
  if b.length < 32 then ([], 4) else if 65536 < b.length then ([], 5) else if good key b then (plainOf key b, 0) else ([], 10)
theorem seal_body (key nonce plain : List UInt8) : bodyOf (sealB key nonce plain) = nonce ++ mask key nonce plain := by
  unfold bodyOf sealB
  rw [List.length_append, tag_length, Nat.add_sub_cancel, List.take_left]
theorem seal_tag (key nonce plain : List UInt8) : tagIn (sealB key nonce plain) = tag key (nonce ++ mask key nonce plain) := by
  unfold tagIn sealB
  rw [List.length_append, tag_length, Nat.add_sub_cancel, List.drop_left]
theorem seal_good (key nonce plain : List UInt8) : good key (sealB key nonce plain) = true := by
  unfold good
  rw [seal_body, seal_tag, beq_self_eq_true]
theorem seal_plain (key nonce plain : List UInt8) (hn : nonce.length = 16) : plainOf key (sealB key nonce plain) = plain := by
  unfold plainOf
  rw [seal_body, ← hn, List.take_left, List.drop_left]
  unfold mask
  rw [xorb_length (by simp)]
  exact xorb_twice (by simp)
theorem open_seal (key nonce plain : List UInt8) (hn : nonce.length = 16) (hp : plain.length ≤ 65504) : openB key (sealB key nonce plain) = (plain, 0) := by
  unfold openB
  rw [sealB_length _ _ _ hn, if_neg (by omega), if_neg (by omega), seal_good, if_pos rfl, seal_plain _ _ _ hn]
end Sl
end Go.Proofs.YtglbgocldenooaaDoor
