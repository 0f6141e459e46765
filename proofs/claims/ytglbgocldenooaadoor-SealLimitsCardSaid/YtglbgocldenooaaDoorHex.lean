/-
  THE WALK of the law's hexadecimal.
-/
import Derived.Test.YtglbgocldenooaaDoorApi3
import Derived.Test.YtglbgocldenooaaDoorLaws4
import Derived.Test.YtglbgocldenooaaDoorOrd
import Derived.WalkLawsBesides
namespace Go.Proofs.YtglbgocldenooaaDoor
open Go.RowKit

def hexDigits : List UInt8 := [48, 49, 50, 51, 52, 53, 54, 55, 56, 57, 97, 98, 99, 100, 101, 102]
def hexd (q : Nat) : UInt8 := hexDigits.getD q 0
def hexs (bs : List UInt8) : List UInt8 := bs.flatMap fun b => [hexd (b.toNat / 16), hexd (b.toNat % 16)]
theorem hexs_snoc (bs : List UInt8) (b : UInt8) : hexs (bs ++ [b]) = hexs bs ++ [hexd (b.toNat / 16), hexd (b.toNat % 16)] := by simp [hexs]
theorem hexs_length (bs : List UInt8) : (hexs bs).length = 2 * bs.length := by
  induction bs with
  | nil => rfl
  | cons b bs ih => simp only [hexs, List.flatMap_cons, List.length_append, List.length_cons, List.length_nil] at *; omega
theorem hex_index (q : Nat) (h : q < 16) (w : World) : (Instr.index 9 (.string ⟨#[48, 49, 50, 51, 52, 53, 54, 55, 56, 57, 97, 98, 99, 100, 101, 102]⟩) (.int .u8 (q : Int))).run Tryd.prog w = .ok (.int .u8 ((hexd q).toNat : Int)) w := by
  rcases (show q = 0 ∨ q = 1 ∨ q = 2 ∨ q = 3 ∨ q = 4 ∨ q = 5 ∨ q = 6 ∨ q = 7 ∨ q = 8 ∨ q = 9 ∨ q = 10 ∨ q = 11 ∨ q = 12 ∨ q = 13 ∨ q = 14 ∨ q = 15 by omega) with rfl | rfl | rfl | rfl | rfl | rfl | rfl | rfl | rfl | rfl | rfl | rfl | rfl | rfl | rfl | rfl <;> kernel_rfl

theorem str_append (x y : Array UInt8) : ((⟨x⟩ : ByteArray) ++ ⟨y⟩) = ⟨x ++ y⟩ := by
  apply ByteArray.ext
  simp
set_option maxHeartbeats 1000000 in
theorem hex_any (w : World) (g : Nat) (t : TypeId) (bs : List UInt8) (hb : Blk w g t (cellsOf bs)) (hl : bs.length ≤ 1000) :
    Calls Tryd.prog 38 #[.slice (some ⟨g, 0, none⟩) bs.length bs.length] w fun e w' => e = .returned (.string ⟨(hexs bs).toArray⟩) ∧ Only [] w w' := by
  have hgl := hb.lt
  go_enter Tryd.func38, Tryd.ntmps38
  go_wp2
  go_loopw [4, 3] (fun i s wr => ∃ k : Nat, k ≤ bs.length ∧ i = .int .i64 k ∧ s = .string ⟨(hexs (bs.take k)).toArray⟩ ∧ Only [] w wr) (fun i _ _ => bs.length - (intOf i).toNat)
  case atStart => exact ⟨0, by omega, rfl, rfl, Only.refl _ _⟩
  case round =>
    obtain ⟨k, hk, rfl, rfl, hO⟩ := hrel
    by_cases hlt : k < bs.length
    · obtain ⟨b, Hb⟩ : ∃ b, Hid (b = bs[k]) := ⟨bs[k], Lib.hid rfl⟩
      have hc : wr.cell? ⟨g, k, none⟩ = some (.int .u8 (b.toNat : Int)) := by rw [hO.cell (p := ⟨g, k, none⟩) hgl (by simp), hb.cell, Hb.out]; exact cellsOf_get hlt
      obtain ⟨n, hn⟩ : ∃ n : Nat, n = b.toNat := ⟨_, rfl⟩
      have hn256 : n < 256 := by rw [hn]; exact UInt8.toNat_lt _
      rw [← hn] at hc
      have Hn := Lib.hid hn
      clear hn
      obtain ⟨q, Hq⟩ : ∃ q : Nat, Hid (q = n / 16) := ⟨_, rfl⟩
      obtain ⟨r, Hr⟩ : ∃ r : Nat, Hid (r = n % 16) := ⟨_, rfl⟩
      have eq : IntKind.u8.wrap ((n : Int) / 16) = (q : Int) := by rw [Hq.out, IntKind.wrap_u8']; omega
      have er : (n : Int).tmod 16 = (r : Int) := by rw [Hr.out, Int.tmod_eq_emod_of_nonneg (by omega)]; omega
      have i1 := hex_index q (by rw [Hq.out]; omega)
      have i2 := hex_index r (by rw [Hr.out]; omega)
      have hltI : (k : Int) < (bs.length : Int) := by omega
      go_wp2
      refine Ord.wp_tail 13 (by kernel_rfl) (by kernel_rfl) (fun d _ _ _ _ h => by cases d <;> exact h) ?_
      simp only [List.take_succ_cons, List.take_zero, List.drop_succ_cons, List.drop_zero]
      repeat still_step
      refine wpStill_nil ?_
      have hlen := hexs_length (bs.take k)
      have hl1 : (bs.take k).length ≤ 1000 := by simp; omega
      have hsz : (hexs (bs.take k)).length + 2 ≤ 9223372036854775807 := by omega
      obtain ⟨hk0, Hk0⟩ : ∃ x, Hid (x = hexs (bs.take k)) := ⟨_, Lib.hid rfl⟩
      rw [← Hk0.out] at hsz ⊢
      clear hlen
      go_wp2_with (refine wpl_str rfl 22 9 5 _ rfl Tryd.underlying22 Tryd.underlying5 Tryd.underlying9 _ _ _ [hexd q, hexd r] rfl rfl ?hrv ?_; case hrv => (intro _; exact ⟨wr.heap.size, 0, rfl, by simp, fun j _ => by rw [Nat.zero_add]; exact (Blk.new wr 5 (cellsOf [hexd q, hexd r])).drew.cell j⟩))
      go_roundw
      case rel =>
        refine ⟨k + 1, by omega, by go_num, ?_, (hO.alloc _).drew⟩
        rw [str_append, List.take_succ_eq_append_getElem hlt, hexs_snoc, ← Hb.out, ← Hn.out, ← Hq.out, ← Hr.out, Hk0.out]
        simp
      case measure => simp [intOf]; omega
    · obtain rfl : k = bs.length := by omega
      go_wp2
      go_ret
      rw [List.take_length]
      exact ⟨rfl, hO⟩
end Go.Proofs.YtglbgocldenooaaDoor
