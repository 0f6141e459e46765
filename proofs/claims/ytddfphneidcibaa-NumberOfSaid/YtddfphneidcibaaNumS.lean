/-
  SHIFTS, BITS AND DECIMALS of long numbers, in plain terms.
-/
import Derived.Test.YtddfphneidcibaaNumK
namespace Go.Proofs.Ytddfphneidcibaa
namespace Nm

theorem pad_snoc (B : Nat) : ∀ (m x : Nat), pad B (m + 1) x = pad B m x ++ [x / B ^ m % B]
  | 0, x => by simp [pad]
  | m + 1, x => by
    rw [pad, pad_snoc B m (x / B), pad, List.cons_append, Nat.div_div_eq_div_mul, Nat.pow_succ, Nat.mul_comm]
/-- A number by one of its places. -/
theorem split3 (B A k : Nat) : A = A % B ^ k + A / B ^ k % B * B ^ k + A / B ^ (k + 1) * B ^ (k + 1) := by
  rw [← mod_next]
  have := Nat.div_add_mod A (B ^ (k + 1))
  rw [Nat.mul_comm] at this
  omega
/-- Adding into a place without a carry. -/
theorem pad_plus {B n A k e d : Nat} (hB : 0 < B) (hk : k < n) (hd : d = A / B ^ k % B + e) (hlt : d < B) : (pad B n A).set k d = pad B n (A + e * B ^ k) := by
  rw [pad_put hB hk hlt]
  congr 1
  have := split3 B A k
  rw [hd, Nat.add_mul]
  omega

/-- A shift to the left by less than a word: a word further. -/
theorem shl_step {S T X n i lo hi : Nat} (hST : S * T = W32) (hS : 0 < S) (hi' : i + 1 < n) (hlo : lo = (X / W32 ^ i % W32) * S % W32) (hhi : hi = (X / W32 ^ i % W32) * S / W32) :
    ((pad W32 n (X % W32 ^ i * S)).set i (X % W32 ^ i * S / W32 ^ i % W32 + lo)).set (i + 1) hi = pad W32 n (X % W32 ^ (i + 1) * S) ∧ X % W32 ^ i * S / W32 ^ i % W32 < S ∧ lo % S = 0 ∧ X % W32 ^ i * S / W32 ^ i % W32 + lo < W32 := by
  have hW : 0 < W32 := by decide
  have hp : 0 < W32 ^ i := Nat.pow_pos hW
  have hT : 0 < T := Nat.pos_of_ne_zero (by rintro rfl; simp at hST)
  have hx := Nat.mod_lt (X / W32 ^ i) hW
  have hSW : S ≤ W32 := by rw [← hST]; exact Nat.le_mul_of_pos_right _ hT
  have hc : X % W32 ^ i * S / W32 ^ i < S := Nat.div_lt_of_lt_mul (Nat.mul_lt_mul_of_pos_right (Nat.mod_lt _ hp) hS)
  have hcm : X % W32 ^ i * S / W32 ^ i % W32 = X % W32 ^ i * S / W32 ^ i := Nat.mod_eq_of_lt (Nat.lt_of_lt_of_le hc hSW)
  have hlo0 : lo % S = 0 := by
    rw [hlo, ← hST, Nat.mul_comm _ S, Nat.mul_mod_mul_left, Nat.mul_mod_right]
  have hlolt : lo < W32 := by rw [hlo]; exact Nat.mod_lt _ hW
  obtain ⟨c, hcc⟩ : ∃ c, lo = S * c := ⟨lo / S, by have := Nat.div_add_mod lo S; omega⟩
  have hlo2 : lo + S ≤ W32 := by
    have : S * c < S * T := by rw [← hcc, hST]; exact hlolt
    have hcT : c < T := Nat.lt_of_mul_lt_mul_left this
    have : S * (c + 1) ≤ S * T := Nat.mul_le_mul_left _ hcT
    rw [Nat.mul_add, hST, Nat.mul_one] at this
    omega
  have hsum : X % W32 ^ i * S / W32 ^ i % W32 + lo < W32 := by rw [hcm]; omega
  refine ⟨?_, by rw [hcm]; exact hc, hlo0, hsum⟩
  rw [pad_plus hW (by omega) rfl hsum]
  have hA : X % W32 ^ i * S + lo * W32 ^ i < W32 ^ (i + 1) := by
    have h1 := Nat.div_add_mod (X % W32 ^ i * S) (W32 ^ i)
    have h2 := Nat.mod_lt (X % W32 ^ i * S) hp
    have h3 : (X % W32 ^ i * S / W32 ^ i + lo + 1) * W32 ^ i ≤ W32 * W32 ^ i := Nat.mul_le_mul_right _ (by rw [hcm] at hsum; omega)
    rw [Nat.add_mul, Nat.add_mul, Nat.one_mul, Nat.mul_comm W32] at h3
    rw [Nat.pow_succ]
    rw [Nat.mul_comm] at h1
    omega
  have hhilt : hi < W32 := by
    rw [hhi]
    refine Nat.div_lt_of_lt_mul ?_
    calc X / W32 ^ i % W32 * S < W32 * S := Nat.mul_lt_mul_of_pos_right hx hS
      _ ≤ W32 * W32 := Nat.mul_le_mul_left _ hSW
  rw [pad_next hW hi' hA hhilt]
  congr 1
  rw [mod_next, Nat.add_mul, Nat.mul_right_comm, Nat.pow_succ, Nat.add_assoc]
  congr 1
  have := Nat.div_add_mod (X / W32 ^ i % W32 * S) W32
  rw [← hlo, ← hhi] at this
  rw [← this, Nat.add_mul, Nat.mul_comm (W32 ^ i) W32, ← Nat.mul_assoc, Nat.mul_comm W32 hi]
  omega

/-- A shift to the right: a word of it. -/
theorem shr_word {S T X i : Nat} (hST : S * T = W32) : X / S / W32 ^ i % W32 = X / W32 ^ i % W32 / S + (X / W32 ^ (i + 1) % W32) * T % W32 := by
  have hW : 0 < W32 := by decide
  have hS : 0 < S := Nat.pos_of_ne_zero (by rintro rfl; simp at hST)
  have hT : 0 < T := Nat.pos_of_ne_zero (by rintro rfl; simp at hST)
  rw [Nat.div_div_eq_div_mul, Nat.mul_comm S, ← Nat.div_div_eq_div_mul]
  have e := div_next (B := W32) X i
  have e2 := Nat.div_add_mod (X / W32 ^ (i + 1)) W32
  generalize X / W32 ^ (i + 1) = y at *
  generalize hx : X / W32 ^ i % W32 = x at *
  have hxl : x < W32 := by rw [← hx]; exact Nat.mod_lt _ hW
  rw [e]
  have e3 : (y * W32 + x) / S = y * T + x / S := by
    rw [← hST, ← Nat.mul_assoc, Nat.mul_comm y S, Nat.mul_assoc, Nat.mul_add_div hS]
  rw [e3]
  have hxS : x / S < T := Nat.div_lt_of_lt_mul (by rw [hST]; exact hxl)
  have e4 : (y % W32) * T % W32 = y * T % W32 := by rw [Nat.mod_mul_mod]
  rw [e4]
  have e5 : y * T % W32 = y % S * T := by rw [← hST, Nat.mul_mod_mul_right]
  rw [Nat.add_mod, e5]
  have h6 : y % S * T + x / S < W32 := by
    have := Nat.mod_lt y hS
    have h7 : (y % S + 1) * T ≤ S * T := Nat.mul_le_mul_right _ this
    rw [Nat.add_mul, hST] at h7
    omega
  rw [Nat.mod_eq_of_lt (a := x / S) (by omega), Nat.mod_eq_of_lt h6]
  omega

/-- A bit is set that was not: bytes. -/
theorem bit_fill {n A i : Nat} (hi : i / 8 < n) (hA : A % 2 ^ (i + 1) = 0) : (pad 256 n A).set (i / 8) (A / 256 ^ (i / 8) % 256 ||| 2 ^ (i % 8)) = pad 256 n (A + 2 ^ i) := by
  obtain ⟨k, hk⟩ : ∃ k, k = i / 8 := ⟨_, rfl⟩
  obtain ⟨r, hr⟩ : ∃ r, r = i % 8 := ⟨_, rfl⟩
  have hik : i = 8 * k + r := by omega
  have hr8 : r < 8 := by omega
  rw [← hk, ← hr]
  have e256 : 256 ^ k = 2 ^ (8 * k) := by rw [Nat.pow_mul]
  obtain ⟨c, hc⟩ : ∃ c, A = 2 ^ (i + 1) * c := ⟨A / 2 ^ (i + 1), by have := Nat.div_add_mod A (2 ^ (i + 1)); omega⟩
  have e1 : A / 256 ^ k = 2 ^ (r + 1) * c := by
    rw [hc, e256, hik, Nat.add_assoc, Nat.pow_add, Nat.mul_assoc, Nat.mul_div_cancel_left _ (Nat.pow_pos (by decide))]
  have h256 : (256 : Nat) = 2 ^ (r + 1) * 2 ^ (7 - r) := by rw [← Nat.pow_add, show r + 1 + (7 - r) = 8 by omega]
  have e2 : A / 256 ^ k % 256 = 2 ^ (r + 1) * (c % 2 ^ (7 - r)) := by
    rw [e1]
    conv => lhs; rw [h256]
    rw [Nat.mul_mod_mul_left]
  have hlt : 2 ^ r < 2 ^ (r + 1) := Nat.pow_lt_pow_right (by decide) (by omega)
  have eor : A / 256 ^ k % 256 ||| 2 ^ r = A / 256 ^ k % 256 + 2 ^ r := by
    rw [e2]
    exact (Nat.two_pow_add_eq_or_of_lt hlt _).symm
  have hl2 : A / 256 ^ k % 256 + 2 ^ r < 256 := by
    rw [← eor]
    exact Nat.or_lt_two_pow (n := 8) (Nat.mod_lt _ (by decide)) (Nat.pow_lt_pow_right (by decide) hr8)
  rw [eor, pad_plus (by decide) (by omega) rfl hl2]
  congr 1
  rw [e256, ← Nat.pow_add, hik, Nat.add_comm r]
theorem bit_of (X i : Nat) : X / 256 ^ (i / 8) % 256 / 2 ^ (i % 8) % 2 = X / 2 ^ i % 2 := by
  have e256 : 256 ^ (i / 8) = 2 ^ (8 * (i / 8)) := by rw [Nat.pow_mul]
  have hi : 2 ^ i = 2 ^ (8 * (i / 8)) * 2 ^ (i % 8) := by rw [← Nat.pow_add, Nat.div_add_mod]
  rw [hi, ← Nat.div_div_eq_div_mul, e256]
  exact div_mod_low (B := 2) (k := 8) (by decide) (Nat.mod_lt _ (by decide))
/-- A digit of a chunk of decimals. -/
theorem chunk_dig (X k j : Nat) (hj : j < 9) : X / 1000000000 ^ k % 1000000000 / 10 ^ j % 10 = X / 10 ^ (9 * k + j) % 10 := by
  have e : 1000000000 ^ k = 10 ^ (9 * k) := by rw [Nat.pow_mul]
  rw [Nat.pow_add, ← Nat.div_div_eq_div_mul, ← e]
  exact div_mod_low (B := 10) (k := 9) (by decide) hj
end Nm
end Go.Proofs.Ytddfphneidcibaa
