/-
  MORE of package seal in plain Lean: two streams agree, the bytes of sealed bytes.
-/
import Derived.Test.YtglbgocldenooaaDoorSealP
namespace Go.Proofs.YtglbgocldenooaaDoor
namespace Sl
theorem blocks_more (k nonce : List UInt8) (q : Nat) : ∀ d, ∃ r, blocks k nonce (q + d) = blocks k nonce q ++ r
  | 0 => ⟨[], by simp⟩
  | d + 1 => by
    obtain ⟨r, hr⟩ := blocks_more k nonce q d
    exact ⟨r ++ block k nonce (q + d), by rw [← Nat.add_assoc, blocks, hr, List.append_assoc]⟩
theorem blocks_same (k nonce : List UInt8) {q q' i : Nat} (h : q ≤ q') (hi : i < 32 * q) : (blocks k nonce q').getD i 0 = (blocks k nonce q).getD i 0 := by
  obtain ⟨r, hr⟩ := blocks_more k nonce q (q' - q)
  rw [show q + (q' - q) = q' by omega] at hr
  rw [hr, List.getD_eq_getElem?_getD, List.getElem?_append_left (by rw [blocks_length]; exact hi), List.getD_eq_getElem?_getD]
theorem stream_get (key nonce : List UInt8) {n i : Nat} (hi : i < n) : (stream key nonce n).getD i 0 = (blocks (Bl.hash key streamL) nonce (i + 1)).getD i 0 := by
  unfold stream
  rw [List.getD_eq_getElem?_getD, List.getElem?_take, if_pos hi, ← List.getD_eq_getElem?_getD]
  by_cases h : i + 1 ≤ (n + 31) / 32
  · exact blocks_same _ _ h (by omega)
  · exact (blocks_same _ _ (by omega) (by omega)).symm
theorem xorb_get {a b : List UInt8} (h : a.length = b.length) {i : Nat} (hi : i < b.length) : (xorb a b).getD i 0 = a.getD i 0 ^^^ b.getD i 0 := by
  have ha : i < a.length := by omega
  have hz : i < (List.zipWith (fun x y => x ^^^ y) a b).length := by simp; omega
  unfold xorb
  simp only [List.getD_eq_getElem?_getD, List.getElem?_eq_getElem ha, List.getElem?_eq_getElem hi, List.getElem?_eq_getElem hz, Option.getD_some, List.getElem_zipWith]
theorem seal_get (key nonce b : List UInt8) (hn : nonce.length = 16) {i : Nat} (hi : i < b.length) : (sealB key nonce b).getD (16 + i) 0 = (blocks (Bl.hash key streamL) nonce (i + 1)).getD i 0 ^^^ b.getD i 0 := by
  have h1 : (sealB key nonce b).getD (16 + i) 0 = (mask key nonce b).getD i 0 := by
    unfold sealB
    rw [List.append_assoc]
    simp only [List.getD_eq_getElem?_getD]
    rw [List.getElem?_append_right (by omega), hn, Nat.add_sub_cancel_left, List.getElem?_append_left (by simpa using hi)]
  rw [h1, mask, xorb_get (by simp) hi, stream_get _ _ hi]
theorem xor_cancel (s x y : UInt8) : (s ^^^ x) ^^^ (s ^^^ y) = x ^^^ y := by
  rw [UInt8.xor_assoc, ← UInt8.xor_assoc x s y, UInt8.xor_comm x s, UInt8.xor_assoc s x y, ← UInt8.xor_assoc s s, UInt8.xor_self, UInt8.zero_xor]
theorem seal_front (key nonce b : List UInt8) (hn : nonce.length = 16) : (sealB key nonce b).take 16 = nonce := by
  unfold sealB
  rw [List.append_assoc, ← hn, List.take_left]
end Sl
end Go.Proofs.YtglbgocldenooaaDoor
