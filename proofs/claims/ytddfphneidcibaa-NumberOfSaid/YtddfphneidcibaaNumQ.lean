/-
  THE STEPS of the long operations, in plain Lean: what a loop's next digit does to the number that an array holds.
-/
import Derived.Test.YtddfphneidcibaaNumP
namespace Go.Proofs.Ytddfphneidcibaa
namespace Nm

theorem top_word {B X k : Nat} (hX : X < B ^ (k + 1)) : X / B ^ k % B = X / B ^ k :=
  Nat.mod_eq_of_lt (Nat.div_lt_of_lt_mul (by rwa [Nat.pow_succ] at hX))
theorem top_zero {B X k : Nat} (hB : 0 < B) (hX : X < B ^ (k + 1)) (h : X / B ^ k % B = 0) : X < B ^ k := by
  rw [top_word hX] at h
  have := Nat.div_add_mod X (B ^ k)
  rw [h, Nat.mul_zero, Nat.zero_add] at this
  rw [← this]
  exact Nat.mod_lt _ (Nat.pow_pos hB)
theorem top_len {B X k : Nat} (hB : 2 ≤ B) (hX : X < B ^ (k + 1)) (h : X / B ^ k % B ≠ 0) : len B X = k + 1 := by
  refine len_eq hB hX ?_
  rw [top_word hX] at h
  exact Nat.le_of_not_lt fun h' => h (Nat.div_eq_of_lt h')
theorem high_zero {B X k : Nat} (hB : 2 ≤ B) (h : len B X ≤ k) : X / B ^ k % B = 0 := by
  rw [Nat.div_eq_of_lt ((len_le hB _ _).1 h), Nat.zero_mod]
theorem mod_all {B X k : Nat} (hB : 2 ≤ B) (h : len B X ≤ k) : X % B ^ k = X := Nat.mod_eq_of_lt ((len_le hB _ _).1 h)

/-- A sum with its carry, one place further. -/
theorem carry_step (P B S v : Nat) (hP : 0 < P) : (S + v * P) / (P * B) = (S / P + v) / B ∧ (S + v * P) % (P * B) = S % P + (S / P + v) % B * P := by
  have e : (S + v * P) / P = S / P + v := Nat.add_mul_div_right _ _ hP
  constructor
  · rw [← Nat.div_div_eq_div_mul, e]
  · rw [Nat.mod_mul, e, Nat.add_mul_mod_self_right, Nat.mul_comm P]

/-- The sum up to a place. -/
def sm (B X Y i : Nat) : Nat := X % B ^ i + Y % B ^ i
theorem sm_zero (B X Y : Nat) : sm B X Y 0 = 0 := by simp [sm, Nat.mod_one]
theorem sm_next (B X Y i : Nat) : sm B X Y (i + 1) = sm B X Y i + (X / B ^ i % B + Y / B ^ i % B) * B ^ i := by
  rw [sm, sm, mod_next, mod_next, Nat.add_mul]; omega
theorem sm_carry {B : Nat} (hB : 0 < B) (X Y i : Nat) : sm B X Y i / B ^ i ≤ 1 := by
  have hp : 0 < B ^ i := Nat.pow_pos hB
  have h1 := Nat.mod_lt X hp
  have h2 := Nat.mod_lt Y hp
  have h3 : sm B X Y i < B ^ i * 2 := by unfold sm; omega
  have := Nat.div_lt_of_lt_mul h3
  omega
theorem sm_step {B : Nat} (hB : 0 < B) (X Y i : Nat) :
    sm B X Y (i + 1) / B ^ (i + 1) = (sm B X Y i / B ^ i + (X / B ^ i % B + Y / B ^ i % B)) / B ∧
    sm B X Y (i + 1) % B ^ (i + 1) = sm B X Y i % B ^ i + (sm B X Y i / B ^ i + (X / B ^ i % B + Y / B ^ i % B)) % B * B ^ i := by
  rw [sm_next, Nat.pow_succ]
  exact carry_step _ _ _ _ (Nat.pow_pos hB)
theorem sm_all {B : Nat} (hB : 2 ≤ B) {X Y i : Nat} (hX : len B X ≤ i) (hY : len B Y ≤ i) : sm B X Y i = X + Y := by
  rw [sm, mod_all hB hX, mod_all hB hY]
/-- Filling a sum's digit. -/
theorem sm_fill {B n : Nat} (hB : 0 < B) (X Y i : Nat) (hi : i < n) (d : Nat) (hd : d = (sm B X Y i / B ^ i + (X / B ^ i % B + Y / B ^ i % B)) % B) :
    (pad B n (sm B X Y i % B ^ i)).set i d = pad B n (sm B X Y (i + 1) % B ^ (i + 1)) := by
  rw [pad_next hB hi (Nat.mod_lt _ (Nat.pow_pos hB)) (by rw [hd]; exact Nat.mod_lt _ hB), (sm_step hB X Y i).2, hd]
/-- The last digit of a sum is its carry. -/
theorem sm_last {B : Nat} (hB : 2 ≤ B) {X Y i : Nat} (hX : len B X ≤ i) (hY : len B Y ≤ i) : (pad B (i + 1) (sm B X Y i % B ^ i)).set i (sm B X Y i / B ^ i) = pad B (i + 1) (X + Y) := by
  have hc := sm_carry (B := B) (by omega) X Y i
  rw [pad_next (by omega) (by omega) (Nat.mod_lt _ (Nat.pow_pos (by omega))) (by omega), sm_all hB hX hY]
  congr 1
  have := Nat.div_add_mod (X + Y) (B ^ i)
  rw [Nat.mul_comm] at this
  omega
theorem sum_lt {B X Y i : Nat} (hB : 2 ≤ B) (hX : len B X ≤ i) (hY : len B Y ≤ i) : X + Y < B ^ (i + 1) := by
  have h1 := (len_le hB _ _).1 hX
  have h2 := (len_le hB _ _).1 hY
  rw [Nat.pow_succ]
  have : B ^ i * 2 ≤ B ^ i * B := Nat.mul_le_mul_left _ hB
  omega

/-- A difference up to a place: the borrow and the digits. -/
def bw (B X Y i : Nat) : Nat := if X % B ^ i < Y % B ^ i then 1 else 0
def df (B X Y i : Nat) : Nat := X % B ^ i + bw B X Y i * B ^ i - Y % B ^ i
theorem bw_zero (B X Y : Nat) : bw B X Y 0 = 0 := by simp [bw, Nat.mod_one]
theorem df_zero (B X Y : Nat) : df B X Y 0 = 0 := by simp [df, bw, Nat.mod_one]
theorem bw_le (B X Y i : Nat) : bw B X Y i ≤ 1 := by unfold bw; split <;> omega
theorem df_lt {B : Nat} (hB : 0 < B) (X Y i : Nat) : df B X Y i < B ^ i ∧ Y % B ^ i ≤ X % B ^ i + bw B X Y i * B ^ i := by
  have hp : 0 < B ^ i := Nat.pow_pos hB
  have h1 := Nat.mod_lt X hp
  have h2 := Nat.mod_lt Y hp
  unfold df bw
  generalize X % B ^ i = u at *
  generalize Y % B ^ i = v at *
  generalize B ^ i = p at *
  split
  · rw [Nat.one_mul]; omega
  · rw [Nat.zero_mul]; omega
theorem df_step {B : Nat} (hB : 0 < B) (X Y i : Nat) :
    bw B X Y (i + 1) = (if X / B ^ i % B < Y / B ^ i % B + bw B X Y i then 1 else 0) ∧
    df B X Y (i + 1) = df B X Y i + (X / B ^ i % B + bw B X Y (i + 1) * B - Y / B ^ i % B - bw B X Y i) * B ^ i ∧ X / B ^ i % B + bw B X Y (i + 1) * B - Y / B ^ i % B - bw B X Y i < B := by
  have hp : 0 < B ^ i := Nat.pow_pos hB
  obtain ⟨p, hpe⟩ : ∃ p, p = B ^ i := ⟨_, rfl⟩
  have hs : B ^ (i + 1) = p * B := by rw [Nat.pow_succ, hpe]
  have h1 := Nat.mod_lt X hp
  have h2 := Nat.mod_lt Y hp
  have hx := Nat.mod_lt (X / B ^ i) hB
  have hy := Nat.mod_lt (Y / B ^ i) hB
  have eb : bw B X Y i = if X % B ^ i < Y % B ^ i then 1 else 0 := rfl
  have eb' : bw B X Y (i + 1) = if X % B ^ (i + 1) < Y % B ^ (i + 1) then 1 else 0 := rfl
  have ed : df B X Y i = X % B ^ i + bw B X Y i * B ^ i - Y % B ^ i := rfl
  have ed' : df B X Y (i + 1) = X % B ^ (i + 1) + bw B X Y (i + 1) * B ^ (i + 1) - Y % B ^ (i + 1) := rfl
  rw [mod_next, mod_next, hs] at ed'
  rw [mod_next, mod_next] at eb'
  rw [← hpe] at *
  generalize bw B X Y (i + 1) = b' at *
  generalize bw B X Y i = b at *
  generalize df B X Y (i + 1) = D' at *
  generalize df B X Y i = D at *
  generalize X / p % B = x at *
  generalize Y / p % B = y at *
  generalize X % p = u at *
  generalize Y % p = v at *
  have key : (u + x * p < v + y * p) ↔ x < y + b := by
    rw [eb]
    constructor
    · intro h
      apply Nat.lt_of_not_le
      intro hle
      split at hle
      · have : (y + 1) * p ≤ x * p := Nat.mul_le_mul_right _ hle
        rw [Nat.add_mul] at this
        omega
      · have : y * p ≤ x * p := Nat.mul_le_mul_right _ hle
        omega
    · intro h
      split at h
      · have : x * p ≤ y * p := Nat.mul_le_mul_right _ (by omega)
        omega
      · have : (x + 1) * p ≤ y * p := Nat.mul_le_mul_right _ (by omega)
        rw [Nat.add_mul] at this
        omega
  have e1 : b' = if x < y + b then 1 else 0 := by
    rw [eb']
    by_cases h : x < y + b
    · rw [if_pos h, if_pos (key.2 h)]
    · rw [if_neg h, if_neg (fun h' => h (key.1 h'))]
  have hb1 : b ≤ 1 := by rw [eb]; split <;> omega
  refine ⟨e1, ?_, ?_⟩
  · rw [ed', ed]
    have hle : y + b ≤ x + b' * B := by
      rw [e1]
      split <;> omega
    have e2 : x + b' * B - y - b = x + b' * B - (y + b) := by omega
    rw [e2, Nat.sub_mul, Nat.add_mul, Nat.add_mul, Nat.mul_assoc, Nat.mul_comm B p]
    have e3 : (y + b) * p ≤ (x + b' * B) * p := Nat.mul_le_mul_right _ hle
    rw [Nat.add_mul, Nat.add_mul, Nat.mul_assoc, Nat.mul_comm B p] at e3
    have e4 : v ≤ u + b * p := by rw [eb]; split <;> omega
    omega
  · rw [e1]
    split <;> omega
theorem df_all {B : Nat} (hB : 2 ≤ B) {X Y i : Nat} (hX : len B X ≤ i) (hle : Y ≤ X) : df B X Y i = X - Y := by
  have hY : len B Y ≤ i := Nat.le_trans (len_mono hB hle) hX
  unfold df bw
  rw [mod_all hB hX, mod_all hB hY, if_neg (by omega)]
  omega
/-- Filling a difference's digit. -/
theorem df_fill {B n : Nat} (hB : 0 < B) (X Y i : Nat) (hi : i < n) (d : Nat) (hd : d = X / B ^ i % B + bw B X Y (i + 1) * B - Y / B ^ i % B - bw B X Y i) :
    (pad B n (df B X Y i)).set i d = pad B n (df B X Y (i + 1)) := by
  obtain ⟨-, h2, h3⟩ := df_step hB X Y i
  rw [pad_next hB hi (df_lt hB X Y i).1 (by rw [hd]; exact h3), h2, hd]
end Nm
end Go.Proofs.Ytddfphneidcibaa
