/-
  MORE STEPS of the long operations, in plain Lean: products, quotients by one digit, digits of another base, bits.
-/
import Derived.Test.YtddfphneidcibaaNumQ
namespace Go.Proofs.Ytddfphneidcibaa
namespace Nm

/-- A product's row up to a place: what has been added, and what the array holds. -/
def mT (B P x Y i j : Nat) : Nat := P % B ^ (i + j) + x * (Y % B ^ j) * B ^ i
def mA (B P x Y i j : Nat) : Nat := mT B P x Y i j % B ^ (i + j) + P / B ^ (i + j) * B ^ (i + j)
theorem mT_zero (B P x Y i : Nat) : mT B P x Y i 0 = P % B ^ i := by simp [mT, Nat.mod_one]
theorem mA_zero {B : Nat} (P x Y i : Nat) : mA B P x Y i 0 = P := by
  rw [mA, mT_zero, Nat.add_zero, Nat.mod_mod]
  have := Nat.div_add_mod P (B ^ i)
  rw [Nat.mul_comm] at this
  omega
theorem mT_next (B P x Y i j : Nat) : mT B P x Y i (j + 1) = mT B P x Y i j + (P / B ^ (i + j) % B + x * (Y / B ^ j % B)) * B ^ (i + j) := by
  rw [mT, mT, ← Nat.add_assoc, mod_next B P (i + j), mod_next B Y j, Nat.mul_add, Nat.add_mul, Nat.add_mul, ← Nat.mul_assoc x, Nat.mul_assoc (x * _) (B ^ j), ← Nat.pow_add, Nat.add_comm j i]
  omega
theorem mT_carry {B : Nat} (hB : 0 < B) (P Y i j : Nat) {x : Nat} (hx : x < B) : mT B P x Y i j / B ^ (i + j) < B := by
  have hp : 0 < B ^ (i + j) := Nat.pow_pos hB
  have h1 := Nat.mod_lt P hp
  have h2 : x * (Y % B ^ j) * B ^ i ≤ (B - 1) * B ^ (i + j) := by
    have : x * (Y % B ^ j) ≤ (B - 1) * B ^ j := Nat.mul_le_mul (by omega) (Nat.le_of_lt (Nat.mod_lt _ (Nat.pow_pos hB)))
    have := Nat.mul_le_mul_right (B ^ i) this
    rwa [Nat.mul_assoc (B - 1), ← Nat.pow_add, Nat.add_comm j i] at this
  refine Nat.div_lt_of_lt_mul ?_
  rw [mT, Nat.mul_comm _ B]
  have h3 : B * B ^ (i + j) = B ^ (i + j) + (B - 1) * B ^ (i + j) := by
    obtain ⟨b, rfl⟩ : ∃ b, B = b + 1 := ⟨B - 1, by omega⟩
    rw [Nat.add_sub_cancel, Nat.add_mul, Nat.one_mul, Nat.add_comm]
  omega
theorem mT_step {B : Nat} (hB : 0 < B) (P x Y i j : Nat) :
    mT B P x Y i (j + 1) / B ^ (i + j + 1) = (mT B P x Y i j / B ^ (i + j) + (P / B ^ (i + j) % B + x * (Y / B ^ j % B))) / B ∧
    mT B P x Y i (j + 1) % B ^ (i + j + 1) = mT B P x Y i j % B ^ (i + j) + (mT B P x Y i j / B ^ (i + j) + (P / B ^ (i + j) % B + x * (Y / B ^ j % B))) % B * B ^ (i + j) := by
  rw [mT_next, Nat.pow_succ]
  exact carry_step _ _ _ _ (Nat.pow_pos hB)
theorem mA_div {B : Nat} (hB : 0 < B) (P x Y i j : Nat) : mA B P x Y i j / B ^ (i + j) = P / B ^ (i + j) := by
  have hp : 0 < B ^ (i + j) := Nat.pow_pos hB
  rw [mA, Nat.add_mul_div_right _ _ hp, Nat.div_eq_of_lt (Nat.mod_lt _ hp), Nat.zero_add]
theorem mA_mod {B : Nat} (P x Y i j : Nat) : mA B P x Y i j % B ^ (i + j) = mT B P x Y i j % B ^ (i + j) := by
  rw [mA, Nat.add_mul_mod_self_right, Nat.mod_mod]
/-- The array's digit at the row's place is still that of the rows before. -/
theorem mA_at {B : Nat} (hB : 0 < B) (P x Y i j : Nat) : mA B P x Y i j / B ^ (i + j) % B = P / B ^ (i + j) % B := by rw [mA_div hB]
theorem mA_fill {B n : Nat} (hB : 0 < B) (P x Y i j : Nat) (hi : i + j < n) (d : Nat) (hd : d = (mT B P x Y i j / B ^ (i + j) + (P / B ^ (i + j) % B + x * (Y / B ^ j % B))) % B) :
    (pad B n (mA B P x Y i j)).set (i + j) d = pad B n (mA B P x Y i (j + 1)) := by
  rw [pad_put hB hi (by rw [hd]; exact Nat.mod_lt _ hB)]
  congr 1
  rw [mA_mod]
  have e1 : mA B P x Y i j / B ^ (i + j + 1) = P / B ^ (i + j + 1) := by
    rw [Nat.pow_succ, ← Nat.div_div_eq_div_mul, mA_div hB, Nat.div_div_eq_div_mul]
  rw [e1]
  show _ = mT B P x Y i (j + 1) % B ^ (i + j + 1) + P / B ^ (i + j + 1) * B ^ (i + j + 1)
  rw [(mT_step hB P x Y i j).2, hd]
/-- The row's end: the carry goes into the next place. -/
theorem mA_last {B n : Nat} (hB : 2 ≤ B) (X Y i m : Nat) (hY : len B Y ≤ m) (hi : i + m < n) :
    (pad B n (mA B (X % B ^ i * Y) (X / B ^ i % B) Y i m)).set (i + m) (mT B (X % B ^ i * Y) (X / B ^ i % B) Y i m / B ^ (i + m)) = pad B n (X % B ^ (i + 1) * Y) := by
  have hB0 : 0 < B := by omega
  have hp : 0 < B ^ (i + m) := Nat.pow_pos hB0
  have hx : X / B ^ i % B < B := Nat.mod_lt _ hB0
  have hYm := (len_le hB _ _).1 hY
  have hP : X % B ^ i * Y < B ^ (i + m) := by
    rw [Nat.pow_add]
    have h1 := Nat.mod_lt X (show 0 < B ^ i from Nat.pow_pos hB0)
    calc X % B ^ i * Y ≤ B ^ i * Y := Nat.mul_le_mul_right _ (Nat.le_of_lt h1)
      _ < B ^ i * B ^ m := Nat.mul_lt_mul_of_pos_left hYm (Nat.pow_pos hB0)
  have eA : mA B (X % B ^ i * Y) (X / B ^ i % B) Y i m = mT B (X % B ^ i * Y) (X / B ^ i % B) Y i m % B ^ (i + m) := by
    rw [mA, Nat.div_eq_of_lt hP, Nat.zero_mul, Nat.add_zero]
  have eT : mT B (X % B ^ i * Y) (X / B ^ i % B) Y i m = X % B ^ (i + 1) * Y := by
    rw [mT, Nat.mod_eq_of_lt hP, Nat.mod_eq_of_lt hYm, mod_next, Nat.add_mul, Nat.mul_right_comm]
  rw [eA, pad_next hB0 hi (Nat.mod_lt _ hp) (mT_carry hB0 _ _ _ _ hx), eT]
  congr 1
  have := Nat.div_add_mod (X % B ^ (i + 1) * Y) (B ^ (i + m))
  rw [Nat.mul_comm] at this
  omega
theorem mul_lt {B X Y : Nat} (hB : 2 ≤ B) : X * Y < B ^ (len B X + len B Y) := by
  rw [Nat.pow_add]
  have h1 := lt_pow_len hB X
  have h2 := lt_pow_len hB Y
  calc X * Y ≤ B ^ len B X * Y := Nat.mul_le_mul_right _ (Nat.le_of_lt h1)
    _ < B ^ len B X * B ^ len B Y := Nat.mul_lt_mul_of_pos_left h2 (Nat.pow_pos (by omega))

/-- A quotient by a number below the base, from the top: one place further down. -/
theorem ds_step {B d : Nat} (hd : 0 < d) (X k : Nat) :
    X / B ^ k / d = X / B ^ (k + 1) / d * B + (X / B ^ (k + 1) % d * B + X / B ^ k % B) / d ∧ X / B ^ k % d = (X / B ^ (k + 1) % d * B + X / B ^ k % B) % d := by
  have e := div_next (B := B) X k
  have e2 := Nat.div_add_mod (X / B ^ (k + 1)) d
  obtain ⟨q, hq⟩ : ∃ q, q = X / B ^ (k + 1) / d := ⟨_, rfl⟩
  obtain ⟨r, hr⟩ : ∃ r, r = X / B ^ (k + 1) % d := ⟨_, rfl⟩
  obtain ⟨x, hx⟩ : ∃ x, x = X / B ^ k % B := ⟨_, rfl⟩
  rw [← hq, ← hr] at e2
  have e3 : X / B ^ k = r * B + x + d * (q * B) := by
    rw [e, ← e2, ← hx, Nat.add_mul, Nat.mul_assoc]
    omega
  rw [← hq, ← hr, ← hx, e3, Nat.add_mul_div_left _ _ hd, Nat.add_mul_mod_self_left]
  exact ⟨Nat.add_comm _ _, rfl⟩
theorem ds_lt {B d : Nat} (hB : 0 < B) (hd : 0 < d) (X k : Nat) : (X / B ^ (k + 1) % d * B + X / B ^ k % B) / d < B := by
  refine Nat.div_lt_of_lt_mul ?_
  have h1 := Nat.mod_lt (X / B ^ (k + 1)) hd
  have h2 := Nat.mod_lt (X / B ^ k) hB
  have h3 : (X / B ^ (k + 1) % d + 1) * B ≤ d * B := Nat.mul_le_mul_right _ h1
  rw [Nat.add_mul] at h3
  omega
theorem ds_fill {B d n : Nat} (hB : 0 < B) (hd : 0 < d) (X k : Nat) (hk : k < n) (v : Nat) (hv : v = (X / B ^ (k + 1) % d * B + X / B ^ k % B) / d) :
    (pad B n (X / B ^ (k + 1) / d * B ^ (k + 1))).set k v = pad B n (X / B ^ k / d * B ^ k) := by
  have hp : 0 < B ^ (k + 1) := Nat.pow_pos hB
  rw [pad_put hB hk (by rw [hv]; exact ds_lt hB hd X k)]
  congr 1
  rw [Nat.mul_div_cancel _ hp, (ds_step hd X k).1, hv]
  have e0 : X / B ^ (k + 1) / d * B ^ (k + 1) % B ^ k = 0 := by
    rw [Nat.pow_succ, ← Nat.mul_assoc, Nat.mul_right_comm, Nat.mul_mod_left]
  rw [e0, Nat.add_mul (_ * B), Nat.mul_assoc _ B, Nat.mul_comm B, ← Nat.pow_succ, Nat.succ_eq_add_one]
  omega
theorem ds_top {B X n : Nat} (hB : 2 ≤ B) (h : len B X ≤ n) : X / B ^ n = 0 := Nat.div_eq_of_lt ((len_le hB _ _).1 h)

/-- Bytes into words. -/
abbrev W32 : Nat := 4294967296
theorem w32_pow (j : Nat) : W32 ^ j = 256 ^ (4 * j) := by rw [Nat.pow_mul]
theorem w32_split (j r : Nat) : 256 ^ (4 * j + r) = W32 ^ j * 256 ^ r := by rw [Nat.pow_add, ← w32_pow]
theorem byte_word (X j r : Nat) (hr : r < 4) : X / W32 ^ j % W32 / 256 ^ r % 256 = X / 256 ^ (4 * j + r) % 256 := by
  rw [w32_split, ← Nat.div_div_eq_div_mul]
  exact div_mod_low (B := 256) (k := 4) (by decide) hr
/-- The word in which the next byte goes, before and after. -/
theorem word_before (X j r : Nat) (hr : r < 4) : X % 256 ^ (4 * j + r) / W32 ^ j % W32 < 256 ^ r := by
  have h : X % 256 ^ (4 * j + r) / W32 ^ j < 256 ^ r := Nat.div_lt_of_lt_mul (by rw [← w32_split]; exact Nat.mod_lt _ (Nat.pow_pos (by decide)))
  exact Nat.lt_of_le_of_lt (Nat.mod_le _ _) h
theorem word_after (X j r : Nat) (hr : r < 4) : X % 256 ^ (4 * j + r + 1) / W32 ^ j % W32 = X % 256 ^ (4 * j + r) / W32 ^ j % W32 + X / 256 ^ (4 * j + r) % 256 * 256 ^ r := by
  have hp : 0 < W32 ^ j := Nat.pow_pos (by decide)
  have h : X % 256 ^ (4 * j + r) / W32 ^ j < 256 ^ r := Nat.div_lt_of_lt_mul (by rw [← w32_split]; exact Nat.mod_lt _ (Nat.pow_pos (by decide)))
  have hd := Nat.mod_lt (X / 256 ^ (4 * j + r)) (show 0 < 256 by decide)
  have h4 : 256 ^ r * 256 ≤ W32 := by
    have : 256 ^ (r + 1) ≤ 256 ^ 4 := Nat.pow_le_pow_right (by decide) (by omega)
    rwa [Nat.pow_succ] at this
  have h5 : X / 256 ^ (4 * j + r) % 256 * 256 ^ r ≤ 255 * 256 ^ r := Nat.mul_le_mul_right _ (by omega)
  rw [mod_next]
  have e : X / 256 ^ (4 * j + r) % 256 * 256 ^ (4 * j + r) = X / 256 ^ (4 * j + r) % 256 * 256 ^ r * W32 ^ j := by
    rw [w32_split j r, Nat.mul_comm (W32 ^ j), Nat.mul_assoc]
  rw [e, Nat.add_mul_div_right _ _ hp, Nat.mod_eq_of_lt (Nat.lt_of_lt_of_le h (by omega)), Nat.mod_eq_of_lt]
  omega
theorem word_other (X i j : Nat) (hj : j ≠ i / 4) : X % 256 ^ i / W32 ^ j % W32 = X % 256 ^ (i + 1) / W32 ^ j % W32 := by
  by_cases h : j < i / 4
  · have e1 : ∀ k, 4 * j + 4 ≤ k → X % 256 ^ k / W32 ^ j % W32 = X / W32 ^ j % W32 := by
      intro k hk
      obtain ⟨d, rfl⟩ : ∃ d, k = 4 * j + (4 + d) := ⟨k - (4 * j + 4), by omega⟩
      rw [Nat.pow_add, ← w32_pow, Nat.mod_mul_right_div_self, Nat.pow_add]
      show X / W32 ^ j % (W32 * 256 ^ d) % W32 = _
      rw [Nat.mod_mul_right_mod]
    rw [e1 i (by omega), e1 (i + 1) (by omega)]
  · have hk : ∀ k, k ≤ 4 * j → X % 256 ^ k / W32 ^ j = 0 := by
      intro k hk
      refine Nat.div_eq_of_lt ?_
      rw [w32_pow]
      exact Nat.lt_of_lt_of_le (Nat.mod_lt _ (Nat.pow_pos (by decide))) (Nat.pow_le_pow_right (by decide) hk)
    rw [hk i (by omega), hk (i + 1) (by omega)]
theorem word_fill (X m i : Nat) (hi : i / 4 < m) (d : Nat) (hd : d = X % 256 ^ i / W32 ^ (i / 4) % W32 + X / 256 ^ i % 256 * 256 ^ (i % 4)) :
    (pad W32 m (X % 256 ^ i)).set (i / 4) d = pad W32 m (X % 256 ^ (i + 1)) := by
  have e := word_after X (i / 4) (i % 4) (Nat.mod_lt _ (by decide))
  rw [Nat.div_add_mod] at e
  exact pad_set hi (by rw [hd, e]) fun j _ hne => word_other X i j hne
theorem len_words (X : Nat) : len W32 X ≤ (len 256 X + 3) / 4 := by
  rw [len_le (by decide), w32_pow]
  exact Nat.lt_of_lt_of_le (lt_pow_len (by decide) X) (Nat.pow_le_pow_right (by decide) (by omega))

/-- The number of bits. -/
theorem bits_top {X : Nat} (hX : X ≠ 0) : len 2 X = 32 * (len W32 X - 1) + len 2 (X / W32 ^ (len W32 X - 1)) := by
  obtain ⟨n, hn⟩ : ∃ n, len W32 X = n + 1 := ⟨len W32 X - 1, by have : len W32 X ≠ 0 := fun h => hX ((len_eq_zero (by decide)).1 h); omega⟩
  have h1 : X < W32 ^ (n + 1) := by rw [← hn]; exact lt_pow_len (by decide) X
  have h2 : W32 ^ n ≤ X := by have := pow_le_len (B := W32) (by decide) hX; rwa [hn] at this
  rw [hn, Nat.add_sub_cancel]
  have ew : W32 ^ n = 2 ^ (32 * n) := by rw [Nat.pow_mul]
  obtain ⟨q, hq⟩ : ∃ q, q = X / W32 ^ n := ⟨_, rfl⟩
  have hq0 : q ≠ 0 := by
    rw [hq]
    exact Nat.ne_of_gt (Nat.div_pos h2 (Nat.pow_pos (by decide)))
  obtain ⟨b, hb⟩ : ∃ b, len 2 q = b + 1 := ⟨len 2 q - 1, by have : len 2 q ≠ 0 := fun h => hq0 ((len_eq_zero (by decide)).1 h); omega⟩
  have h3 : q < 2 ^ (b + 1) := by rw [← hb]; exact lt_pow_len (by decide) q
  have h4 : 2 ^ b ≤ q := by have := pow_le_len (B := 2) (by decide) hq0; rwa [hb] at this
  rw [← hq, hb, ← Nat.add_assoc]
  refine len_eq (by decide) ?_ ?_
  · rw [Nat.add_assoc, Nat.pow_add, ← ew]
    have : X / W32 ^ n < 2 ^ (b + 1) := by rw [← hq]; exact h3
    rwa [Nat.div_lt_iff_lt_mul (Nat.pow_pos (by decide)), Nat.mul_comm] at this
  · rw [Nat.pow_add, ← ew]
    have : 2 ^ b ≤ X / W32 ^ n := by rw [← hq]; exact h4
    rwa [Nat.le_div_iff_mul_le (Nat.pow_pos (by decide)), Nat.mul_comm] at this
theorem bytes_bits (X : Nat) : len 256 X = (len 2 X + 7) / 8 := by
  have h : ∀ n, len 256 X ≤ n ↔ len 2 X ≤ 8 * n := fun n => by
    rw [len_le (by decide), len_le (by decide), Nat.pow_mul]
  have h1 := (h (len 256 X)).1 (Nat.le_refl _)
  have h2 := (h ((len 2 X + 7) / 8)).2 (by omega)
  omega

/-- A comparison, from the top. -/
theorem cmp_top {B X Y k : Nat} (h : X / B ^ (k + 1) = Y / B ^ (k + 1)) :
    (X / B ^ k % B = Y / B ^ k % B → X / B ^ k = Y / B ^ k) ∧ (X / B ^ k % B < Y / B ^ k % B → X < Y) := by
  have e1 := div_next (B := B) X k
  have e2 := div_next (B := B) Y k
  rw [← h] at e2
  refine ⟨fun h' => by rw [e1, e2, h'], fun h' => ?_⟩
  apply Nat.lt_of_not_le
  intro hle
  have := Nat.div_le_div_right (c := B ^ k) hle
  omega
theorem cmp_len {B X Y : Nat} (hB : 2 ≤ B) (h : len B X < len B Y) : X < Y := by
  apply Nat.lt_of_not_le
  intro hle
  have := len_mono hB hle
  omega
end Nm
end Go.Proofs.Ytddfphneidcibaa
