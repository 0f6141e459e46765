/-
  DIGITS in plain Lean: the digits of a number in a base, the lowest first; arrays of digits that are filled. No program in sight.
  THE STEPS of the long operations, in plain Lean: what a loop's next digit does to the number that an array holds.
  MORE STEPS of the long operations, in plain Lean: products, quotients by one digit, digits of another base, bits.
  LONG DIVISION in plain Lean: the guess of a quotient's digit, and what it leaves.
  SHIFTS, BITS AND DECIMALS of long numbers, in plain terms.
-/
namespace Go.Proofs.Ytddfphneidcibaa
namespace Nm

/-- The digits of a number, the lowest first, without zeros at the end. -/
def dg (B x : Nat) : List Nat := if h : x = 0 ∨ B < 2 then [] else x % B :: dg B (x / B)
termination_by x
decreasing_by exact Nat.div_lt_self (by omega) (by omega)

theorem dg_zero (B : Nat) : dg B 0 = [] := by rw [dg]; simp
theorem dg_pos {B x : Nat} (hB : 2 ≤ B) (hx : x ≠ 0) : dg B x = x % B :: dg B (x / B) := by
  rw [dg, dif_neg (by omega)]

/-- n digits of a number. -/
def pad (B : Nat) : Nat → Nat → List Nat
  | 0, _ => []
  | n + 1, x => x % B :: pad B n (x / B)
@[simp] theorem pad_length (B : Nat) : ∀ n x, (pad B n x).length = n
  | 0, _ => rfl
  | n + 1, x => by rw [pad, List.length_cons, pad_length B n]
theorem pad_getD (B : Nat) : ∀ (n x i : Nat), i < n → (pad B n x).getD i 0 = x / B ^ i % B
  | n + 1, x, 0, _ => by simp [pad]
  | n + 1, x, i + 1, h => by
    rw [pad, List.getD_cons_succ, pad_getD B n (x / B) i (by omega), Nat.div_div_eq_div_mul, Nat.pow_succ, Nat.mul_comm]
theorem pad_zero (B : Nat) : ∀ n, pad B n 0 = List.replicate n 0
  | 0 => rfl
  | n + 1 => by rw [pad, Nat.zero_mod, Nat.zero_div, pad_zero B n, List.replicate_succ]
theorem pad_lt {B : Nat} (hB : 0 < B) : ∀ n x, ∀ d ∈ pad B n x, d < B
  | 0, _, d, h => by cases h
  | n + 1, x, d, h => by
    rw [pad, List.mem_cons] at h
    rcases h with rfl | h
    · exact Nat.mod_lt _ hB
    · exact pad_lt hB n _ d h
theorem pad_ext {B n x y : Nat} (h : ∀ i, i < n → x / B ^ i % B = y / B ^ i % B) : pad B n x = pad B n y := by
  refine List.ext_getElem (by simp) fun i h1 h2 => ?_
  have e1 := pad_getD B n x i (by simpa using h1)
  have e2 := pad_getD B n y i (by simpa using h1)
  rw [List.getD_eq_getElem?_getD, List.getElem?_eq_getElem h1, Option.getD_some] at e1
  rw [List.getD_eq_getElem?_getD, List.getElem?_eq_getElem h2, Option.getD_some] at e2
  rw [e1, e2, h i (by simpa using h1)]
/-- A list is the digits of a number if each of its digits is. -/
theorem eq_pad {B n x : Nat} {l : List Nat} (hl : l.length = n) (h : ∀ i, i < n → l.getD i 0 = x / B ^ i % B) : l = pad B n x := by
  refine List.ext_getElem (by simpa using hl) fun i h1 h2 => ?_
  have e2 := pad_getD B n x i (by omega)
  rw [List.getD_eq_getElem?_getD, List.getElem?_eq_getElem h2, Option.getD_some] at e2
  have e1 := h i (by omega)
  rw [List.getD_eq_getElem?_getD, List.getElem?_eq_getElem h1, Option.getD_some] at e1
  rw [e1, e2]
theorem pad_set {B n x y k d : Nat} (hk : k < n) (hd : y / B ^ k % B = d) (h : ∀ i, i < n → i ≠ k → x / B ^ i % B = y / B ^ i % B) : (pad B n x).set k d = pad B n y := by
  refine eq_pad (by simp) fun i hi => ?_
  by_cases e : i = k
  · subst e
    rw [List.getD_eq_getElem?_getD, List.getElem?_set_self (by simpa using hk), Option.getD_some, hd]
  · rw [List.getD_eq_getElem?_getD, List.getElem?_set_ne (by omega), ← List.getD_eq_getElem?_getD, pad_getD B n x i hi, h i hi e]

theorem div_mod_low {B x i k : Nat} (hB : 0 < B) (h : i < k) : (x % B ^ k) / B ^ i % B = x / B ^ i % B := by
  obtain ⟨d, rfl⟩ : ∃ d, k = i + 1 + d := ⟨k - (i + 1), by omega⟩
  have e : B ^ (i + 1 + d) = B ^ i * (B * B ^ d) := by rw [Nat.pow_add, Nat.pow_succ, Nat.mul_assoc]
  rw [e, Nat.mod_mul_right_div_self, Nat.mod_mul_right_mod]
/-- Filling the digit above those that are there. -/
theorem pad_next {B n x k d : Nat} (hB : 0 < B) (hk : k < n) (hx : x < B ^ k) (hd : d < B) : (pad B n x).set k d = pad B n (x + d * B ^ k) := by
  have hp : 0 < B ^ k := Nat.pow_pos hB
  have e0 : (x + d * B ^ k) / B ^ k = d := by rw [Nat.add_mul_div_right _ _ hp, Nat.div_eq_of_lt hx, Nat.zero_add]
  refine pad_set hk (by rw [e0, Nat.mod_eq_of_lt hd]) fun i hi hne => ?_
  by_cases h : i < k
  · rw [← div_mod_low (x := x + d * B ^ k) hB h, Nat.add_mul_mod_self_right, Nat.mod_eq_of_lt hx]
  · have hki : k < i := by omega
    obtain ⟨e, rfl⟩ : ∃ e, i = k + 1 + e := ⟨i - (k + 1), by omega⟩
    have e1 : B ^ (k + 1 + e) = B ^ k * (B * B ^ e) := by rw [Nat.pow_add, Nat.pow_succ, Nat.mul_assoc]
    have e2 : (x + d * B ^ k) / (B ^ k * (B * B ^ e)) = 0 := by rw [← Nat.div_div_eq_div_mul, e0, ← Nat.div_div_eq_div_mul, Nat.div_eq_of_lt hd, Nat.zero_div]
    have e3 : x / (B ^ k * (B * B ^ e)) = 0 := by rw [← Nat.div_div_eq_div_mul, Nat.div_eq_of_lt hx, Nat.zero_div]
    rw [e1, e2, e3]
/-- A digit at a place is set: what it was is taken away. -/
theorem pad_put {B n x k d : Nat} (hB : 0 < B) (hk : k < n) (hd : d < B) : (pad B n x).set k d = pad B n (x % B ^ k + d * B ^ k + x / B ^ (k + 1) * B ^ (k + 1)) := by
  have hp : 0 < B ^ k := Nat.pow_pos hB
  have hm : x % B ^ k < B ^ k := Nat.mod_lt _ hp
  have e : x % B ^ k + d * B ^ k + x / B ^ (k + 1) * B ^ (k + 1) = x % B ^ k + (d + x / B ^ (k + 1) * B) * B ^ k := by
    rw [Nat.add_mul, Nat.pow_succ, Nat.mul_assoc (x / _) B, Nat.mul_comm B, Nat.add_assoc]
  rw [e]
  have e0 : (x % B ^ k + (d + x / B ^ (k + 1) * B) * B ^ k) / B ^ k = d + x / B ^ (k + 1) * B := by rw [Nat.add_mul_div_right _ _ hp, Nat.div_eq_of_lt hm, Nat.zero_add]
  refine pad_set hk (by rw [e0, Nat.add_mul_mod_self_right, Nat.mod_eq_of_lt hd]) fun i hi hne => ?_
  by_cases h : i < k
  · rw [← div_mod_low (x := x % B ^ k + _) hB h, Nat.add_mul_mod_self_right, Nat.mod_mod, div_mod_low hB h]
  · obtain ⟨f, rfl⟩ : ∃ f, i = k + 1 + f := ⟨i - (k + 1), by omega⟩
    have e1 : B ^ (k + 1 + f) = B ^ (k + 1) * B ^ f := by rw [Nat.pow_add]
    have e2 : B ^ (k + 1 + f) = B ^ k * (B * B ^ f) := by rw [Nat.pow_add, Nat.pow_succ, Nat.mul_assoc]
    have e3 : (x % B ^ k + (d + x / B ^ (k + 1) * B) * B ^ k) / B ^ (k + 1 + f) = x / B ^ (k + 1 + f) := by
      rw [e2, ← Nat.div_div_eq_div_mul, e0, ← Nat.div_div_eq_div_mul, Nat.add_mul_div_right _ _ hB, Nat.div_eq_of_lt hd, Nat.zero_add, ← e2, e1, Nat.div_div_eq_div_mul]
    rw [e3]

theorem dg_getD {B : Nat} (hB : 2 ≤ B) : ∀ (i x : Nat), (dg B x).getD i 0 = x / B ^ i % B := by
  intro i
  induction i with
  | zero =>
    intro x
    by_cases h : x = 0
    · subst h; rw [dg_zero]; simp
    · rw [dg_pos hB h]; simp
  | succ i ih =>
    intro x
    by_cases h : x = 0
    · subst h; rw [dg_zero]; simp
    · rw [dg_pos hB h, List.getD_cons_succ, ih, Nat.div_div_eq_div_mul, Nat.pow_succ, Nat.mul_comm]

/-- How many digits a number has. -/
def len (B x : Nat) : Nat := (dg B x).length
theorem len_zero (B : Nat) : len B 0 = 0 := by rw [len, dg_zero]; rfl
theorem len_pos {B x : Nat} (hB : 2 ≤ B) (hx : x ≠ 0) : len B x = len B (x / B) + 1 := by rw [len, dg_pos hB hx]; rfl
theorem len_le {B : Nat} (hB : 2 ≤ B) : ∀ (n x : Nat), len B x ≤ n ↔ x < B ^ n := by
  intro n
  induction n with
  | zero =>
    intro x
    by_cases h : x = 0
    · subst h; rw [len_zero]; simp
    · rw [len_pos hB h]; simp; omega
  | succ n ih =>
    intro x
    by_cases h : x = 0
    · subst h; rw [len_zero]; simp; exact Nat.pow_pos (by omega)
    · rw [len_pos hB h, Nat.add_le_add_iff_right, ih, Nat.div_lt_iff_lt_mul (by omega), Nat.pow_succ]
theorem lt_pow_len {B : Nat} (hB : 2 ≤ B) (x : Nat) : x < B ^ len B x := (len_le hB _ _).1 (Nat.le_refl _)
theorem len_mono {B x y : Nat} (hB : 2 ≤ B) (h : x ≤ y) : len B x ≤ len B y := (len_le hB _ _).2 (Nat.lt_of_le_of_lt h (lt_pow_len hB y))
theorem len_eq_zero {B x : Nat} (hB : 2 ≤ B) : len B x = 0 ↔ x = 0 := by
  constructor
  · intro h
    have := lt_pow_len hB x
    rw [h] at this
    simpa using this
  · rintro rfl; exact len_zero B
theorem pow_le_len {B x : Nat} (hB : 2 ≤ B) (hx : x ≠ 0) : B ^ (len B x - 1) ≤ x := by
  have h : ¬ len B x ≤ len B x - 1 := by
    have : len B x ≠ 0 := fun h => hx ((len_eq_zero hB).1 h)
    omega
  rw [len_le hB] at h
  omega
theorem len_eq {B x n : Nat} (hB : 2 ≤ B) (h1 : x < B ^ (n + 1)) (h2 : B ^ n ≤ x) : len B x = n + 1 := by
  have := (len_le hB (n + 1) x).2 h1
  have h3 : ¬ len B x ≤ n := by rw [len_le hB]; omega
  omega
theorem dg_length (B x : Nat) : (dg B x).length = len B x := rfl
theorem dg_pad {B : Nat} (hB : 2 ≤ B) (x : Nat) : dg B x = pad B (len B x) x := eq_pad rfl fun i _ => dg_getD hB i x
theorem dg_lt {B x : Nat} (hB : 2 ≤ B) : ∀ d ∈ dg B x, d < B := by rw [dg_pad hB]; exact pad_lt (by omega) _ _

/-- Without the zeros at the end. -/
def trm : List Nat → List Nat
  | [] => []
  | d :: ds => if d = 0 ∧ trm ds = [] then [] else d :: trm ds
theorem trm_pad {B : Nat} (hB : 2 ≤ B) : ∀ (n x : Nat), x < B ^ n → trm (pad B n x) = dg B x
  | 0, x, h => by have : x = 0 := by simpa using h
                  subst this; rw [dg_zero]; rfl
  | n + 1, x, h => by
    have ih := trm_pad hB n (x / B) (by rw [Nat.div_lt_iff_lt_mul (by omega)]; rwa [Nat.pow_succ] at h)
    rw [pad, trm, ih]
    by_cases hx : x = 0
    · subst hx; simp [dg_zero]
    · rw [dg_pos hB hx, if_neg]
      rintro ⟨h1, h2⟩
      have h3 : x / B = 0 := (len_eq_zero hB).1 (by rw [len, h2]; rfl)
      have := Nat.div_add_mod x B
      rw [h3, h1] at this
      omega
theorem take_pad (B : Nat) : ∀ (k n x : Nat), k ≤ n → (pad B n x).take k = pad B k x
  | 0, n, x, _ => by simp [pad]
  | k + 1, n + 1, x, h => by rw [pad, pad, List.take_succ_cons, take_pad B k n _ (by omega)]

/-- A number up to a place, one place further. -/
theorem mod_next (B x k : Nat) : x % B ^ (k + 1) = x % B ^ k + x / B ^ k % B * B ^ k := by
  rw [Nat.pow_succ, Nat.mod_mul, Nat.mul_comm (B ^ k)]
theorem div_next {B : Nat} (x k : Nat) : x / B ^ k = x / B ^ (k + 1) * B + x / B ^ k % B := by
  rw [Nat.pow_succ, ← Nat.div_div_eq_div_mul]
  have := Nat.div_add_mod (x / B ^ k) B
  rw [Nat.mul_comm] at this
  omega
end Nm
end Go.Proofs.Ytddfphneidcibaa
namespace Go.Proofs.Ytddfphneidcibaa
namespace Nm

theorem top_word {B X k : Nat} (hX : X < B ^ (k + 1)) : X / B ^ k % B = X / B ^ k :=
  Nat.mod_eq_of_lt (Nat.div_lt_of_lt_mul (by rwa [Nat.pow_succ] at hX))
theorem top_zero {B X k : Nat} (hB : 0 < B) (hX : X < B ^ (k + 1)) (h : X / B ^ k % B = 0) : X < B ^ k := by
  rw [top_word hX] at h
  have := Nat.div_add_mod X (B ^ k)
  rw [h, Nat.mul_zero, Nat.zero_add] at this
  rw [← this]
  exact Nat.mod_lt _ (Nat.pow_pos hB)
theorem top_len {B X k : Nat} (hB : 2 ≤ B) (hX : X < B ^ (k + 1)) (h : X / B ^ k % B ≠ 0) : len B X = k + 1 := by
  refine len_eq hB hX ?_
  rw [top_word hX] at h
  exact Nat.le_of_not_lt fun h' => h (Nat.div_eq_of_lt h')
theorem high_zero {B X k : Nat} (hB : 2 ≤ B) (h : len B X ≤ k) : X / B ^ k % B = 0 := by
  rw [Nat.div_eq_of_lt ((len_le hB _ _).1 h), Nat.zero_mod]
theorem mod_all {B X k : Nat} (hB : 2 ≤ B) (h : len B X ≤ k) : X % B ^ k = X := Nat.mod_eq_of_lt ((len_le hB _ _).1 h)

/-- A sum with its carry, one place further. -/
theorem carry_step (P B S v : Nat) (hP : 0 < P) : (S + v * P) / (P * B) = (S / P + v) / B ∧ (S + v * P) % (P * B) = S % P + (S / P + v) % B * P := by
  have e : (S + v * P) / P = S / P + v := Nat.add_mul_div_right _ _ hP
  constructor
  · rw [← Nat.div_div_eq_div_mul, e]
  · rw [Nat.mod_mul, e, Nat.add_mul_mod_self_right, Nat.mul_comm P]

/-- The sum up to a place. -/
def sm (B X Y i : Nat) : Nat := X % B ^ i + Y % B ^ i
theorem sm_zero (B X Y : Nat) : sm B X Y 0 = 0 := by simp [sm, Nat.mod_one]
theorem sm_next (B X Y i : Nat) : sm B X Y (i + 1) = sm B X Y i + (X / B ^ i % B + Y / B ^ i % B) * B ^ i := by
  rw [sm, sm, mod_next, mod_next, Nat.add_mul]; omega
theorem sm_carry {B : Nat} (hB : 0 < B) (X Y i : Nat) : sm B X Y i / B ^ i ≤ 1 := by
  have hp : 0 < B ^ i := Nat.pow_pos hB
  have h1 := Nat.mod_lt X hp
  have h2 := Nat.mod_lt Y hp
  have h3 : sm B X Y i < B ^ i * 2 := by unfold sm; omega
  have := Nat.div_lt_of_lt_mul h3
  omega
theorem sm_step {B : Nat} (hB : 0 < B) (X Y i : Nat) :
    sm B X Y (i + 1) / B ^ (i + 1) = (sm B X Y i / B ^ i + (X / B ^ i % B + Y / B ^ i % B)) / B ∧
    sm B X Y (i + 1) % B ^ (i + 1) = sm B X Y i % B ^ i + (sm B X Y i / B ^ i + (X / B ^ i % B + Y / B ^ i % B)) % B * B ^ i := by
  rw [sm_next, Nat.pow_succ]
  exact carry_step _ _ _ _ (Nat.pow_pos hB)
theorem sm_all {B : Nat} (hB : 2 ≤ B) {X Y i : Nat} (hX : len B X ≤ i) (hY : len B Y ≤ i) : sm B X Y i = X + Y := by
  rw [sm, mod_all hB hX, mod_all hB hY]
/-- Filling a sum's digit. -/
theorem sm_fill {B n : Nat} (hB : 0 < B) (X Y i : Nat) (hi : i < n) (d : Nat) (hd : d = (sm B X Y i / B ^ i + (X / B ^ i % B + Y / B ^ i % B)) % B) :
    (pad B n (sm B X Y i % B ^ i)).set i d = pad B n (sm B X Y (i + 1) % B ^ (i + 1)) := by
  rw [pad_next hB hi (Nat.mod_lt _ (Nat.pow_pos hB)) (by rw [hd]; exact Nat.mod_lt _ hB), (sm_step hB X Y i).2, hd]
/-- The last digit of a sum is its carry. -/
theorem sm_last {B : Nat} (hB : 2 ≤ B) {X Y i : Nat} (hX : len B X ≤ i) (hY : len B Y ≤ i) : (pad B (i + 1) (sm B X Y i % B ^ i)).set i (sm B X Y i / B ^ i) = pad B (i + 1) (X + Y) := by
  have hc := sm_carry (B := B) (by omega) X Y i
  rw [pad_next (by omega) (by omega) (Nat.mod_lt _ (Nat.pow_pos (by omega))) (by omega), sm_all hB hX hY]
  congr 1
  have := Nat.div_add_mod (X + Y) (B ^ i)
  rw [Nat.mul_comm] at this
  omega
theorem sum_lt {B X Y i : Nat} (hB : 2 ≤ B) (hX : len B X ≤ i) (hY : len B Y ≤ i) : X + Y < B ^ (i + 1) := by
  have h1 := (len_le hB _ _).1 hX
  have h2 := (len_le hB _ _).1 hY
  rw [Nat.pow_succ]
  have : B ^ i * 2 ≤ B ^ i * B := Nat.mul_le_mul_left _ hB
  omega

/-- A difference up to a place: the borrow and the digits. -/
def bw (B X Y i : Nat) : Nat := if X % B ^ i < Y % B ^ i then 1 else 0
def df (B X Y i : Nat) : Nat := X % B ^ i + bw B X Y i * B ^ i - Y % B ^ i
theorem bw_zero (B X Y : Nat) : bw B X Y 0 = 0 := by simp [bw, Nat.mod_one]
theorem df_zero (B X Y : Nat) : df B X Y 0 = 0 := by simp [df, bw, Nat.mod_one]
theorem bw_le (B X Y i : Nat) : bw B X Y i ≤ 1 := by unfold bw; split <;> omega
theorem df_lt {B : Nat} (hB : 0 < B) (X Y i : Nat) : df B X Y i < B ^ i ∧ Y % B ^ i ≤ X % B ^ i + bw B X Y i * B ^ i := by
  have hp : 0 < B ^ i := Nat.pow_pos hB
  have h1 := Nat.mod_lt X hp
  have h2 := Nat.mod_lt Y hp
  unfold df bw
  generalize X % B ^ i = u at *
  generalize Y % B ^ i = v at *
  generalize B ^ i = p at *
  split
  · rw [Nat.one_mul]; omega
  · rw [Nat.zero_mul]; omega
theorem df_step {B : Nat} (hB : 0 < B) (X Y i : Nat) :
    bw B X Y (i + 1) = (if X / B ^ i % B < Y / B ^ i % B + bw B X Y i then 1 else 0) ∧
    df B X Y (i + 1) = df B X Y i + (X / B ^ i % B + bw B X Y (i + 1) * B - Y / B ^ i % B - bw B X Y i) * B ^ i ∧ X / B ^ i % B + bw B X Y (i + 1) * B - Y / B ^ i % B - bw B X Y i < B := by
  have hp : 0 < B ^ i := Nat.pow_pos hB
  obtain ⟨p, hpe⟩ : ∃ p, p = B ^ i := ⟨_, rfl⟩
  have hs : B ^ (i + 1) = p * B := by rw [Nat.pow_succ, hpe]
  have h1 := Nat.mod_lt X hp
  have h2 := Nat.mod_lt Y hp
  have hx := Nat.mod_lt (X / B ^ i) hB
  have hy := Nat.mod_lt (Y / B ^ i) hB
  have eb : bw B X Y i = if X % B ^ i < Y % B ^ i then 1 else 0 := rfl
  have eb' : bw B X Y (i + 1) = if X % B ^ (i + 1) < Y % B ^ (i + 1) then 1 else 0 := rfl
  have ed : df B X Y i = X % B ^ i + bw B X Y i * B ^ i - Y % B ^ i := rfl
  have ed' : df B X Y (i + 1) = X % B ^ (i + 1) + bw B X Y (i + 1) * B ^ (i + 1) - Y % B ^ (i + 1) := rfl
  rw [mod_next, mod_next, hs] at ed'
  rw [mod_next, mod_next] at eb'
  rw [← hpe] at *
  generalize bw B X Y (i + 1) = b' at *
  generalize bw B X Y i = b at *
  generalize df B X Y (i + 1) = D' at *
  generalize df B X Y i = D at *
  generalize X / p % B = x at *
  generalize Y / p % B = y at *
  generalize X % p = u at *
  generalize Y % p = v at *
  have key : (u + x * p < v + y * p) ↔ x < y + b := by
    rw [eb]
    constructor
    · intro h
      apply Nat.lt_of_not_le
      intro hle
      split at hle
      · have : (y + 1) * p ≤ x * p := Nat.mul_le_mul_right _ hle
        rw [Nat.add_mul] at this
        omega
      · have : y * p ≤ x * p := Nat.mul_le_mul_right _ hle
        omega
    · intro h
      split at h
      · have : x * p ≤ y * p := Nat.mul_le_mul_right _ (by omega)
        omega
      · have : (x + 1) * p ≤ y * p := Nat.mul_le_mul_right _ (by omega)
        rw [Nat.add_mul] at this
        omega
  have e1 : b' = if x < y + b then 1 else 0 := by
    rw [eb']
    by_cases h : x < y + b
    · rw [if_pos h, if_pos (key.2 h)]
    · rw [if_neg h, if_neg (fun h' => h (key.1 h'))]
  have hb1 : b ≤ 1 := by rw [eb]; split <;> omega
  refine ⟨e1, ?_, ?_⟩
  · rw [ed', ed]
    have hle : y + b ≤ x + b' * B := by
      rw [e1]
      split <;> omega
    have e2 : x + b' * B - y - b = x + b' * B - (y + b) := by omega
    rw [e2, Nat.sub_mul, Nat.add_mul, Nat.add_mul, Nat.mul_assoc, Nat.mul_comm B p]
    have e3 : (y + b) * p ≤ (x + b' * B) * p := Nat.mul_le_mul_right _ hle
    rw [Nat.add_mul, Nat.add_mul, Nat.mul_assoc, Nat.mul_comm B p] at e3
    have e4 : v ≤ u + b * p := by rw [eb]; split <;> omega
    omega
  · rw [e1]
    split <;> omega
theorem df_all {B : Nat} (hB : 2 ≤ B) {X Y i : Nat} (hX : len B X ≤ i) (hle : Y ≤ X) : df B X Y i = X - Y := by
  have hY : len B Y ≤ i := Nat.le_trans (len_mono hB hle) hX
  unfold df bw
  rw [mod_all hB hX, mod_all hB hY, if_neg (by omega)]
  omega
/-- Filling a difference's digit. -/
theorem df_fill {B n : Nat} (hB : 0 < B) (X Y i : Nat) (hi : i < n) (d : Nat) (hd : d = X / B ^ i % B + bw B X Y (i + 1) * B - Y / B ^ i % B - bw B X Y i) :
    (pad B n (df B X Y i)).set i d = pad B n (df B X Y (i + 1)) := by
  obtain ⟨-, h2, h3⟩ := df_step hB X Y i
  rw [pad_next hB hi (df_lt hB X Y i).1 (by rw [hd]; exact h3), h2, hd]
end Nm
end Go.Proofs.Ytddfphneidcibaa
namespace Go.Proofs.Ytddfphneidcibaa
namespace Nm

/-- A product's row up to a place: what has been added, and what the array holds. -/
def mT (B P x Y i j : Nat) : Nat := P % B ^ (i + j) + x * (Y % B ^ j) * B ^ i
def mA (B P x Y i j : Nat) : Nat := mT B P x Y i j % B ^ (i + j) + P / B ^ (i + j) * B ^ (i + j)
theorem mT_zero (B P x Y i : Nat) : mT B P x Y i 0 = P % B ^ i := by simp [mT, Nat.mod_one]
theorem mA_zero {B : Nat} (P x Y i : Nat) : mA B P x Y i 0 = P := by
  rw [mA, mT_zero, Nat.add_zero, Nat.mod_mod]
  have := Nat.div_add_mod P (B ^ i)
  rw [Nat.mul_comm] at this
  omega
theorem mT_next (B P x Y i j : Nat) : mT B P x Y i (j + 1) = mT B P x Y i j + (P / B ^ (i + j) % B + x * (Y / B ^ j % B)) * B ^ (i + j) := by
  rw [mT, mT, ← Nat.add_assoc, mod_next B P (i + j), mod_next B Y j, Nat.mul_add, Nat.add_mul, Nat.add_mul, ← Nat.mul_assoc x, Nat.mul_assoc (x * _) (B ^ j), ← Nat.pow_add, Nat.add_comm j i]
  omega
theorem mT_carry {B : Nat} (hB : 0 < B) (P Y i j : Nat) {x : Nat} (hx : x < B) : mT B P x Y i j / B ^ (i + j) < B := by
  have hp : 0 < B ^ (i + j) := Nat.pow_pos hB
  have h1 := Nat.mod_lt P hp
  have h2 : x * (Y % B ^ j) * B ^ i ≤ (B - 1) * B ^ (i + j) := by
    have : x * (Y % B ^ j) ≤ (B - 1) * B ^ j := Nat.mul_le_mul (by omega) (Nat.le_of_lt (Nat.mod_lt _ (Nat.pow_pos hB)))
    have := Nat.mul_le_mul_right (B ^ i) this
    rwa [Nat.mul_assoc (B - 1), ← Nat.pow_add, Nat.add_comm j i] at this
  refine Nat.div_lt_of_lt_mul ?_
  rw [mT, Nat.mul_comm _ B]
  have h3 : B * B ^ (i + j) = B ^ (i + j) + (B - 1) * B ^ (i + j) := by
    obtain ⟨b, rfl⟩ : ∃ b, B = b + 1 := ⟨B - 1, by omega⟩
    rw [Nat.add_sub_cancel, Nat.add_mul, Nat.one_mul, Nat.add_comm]
  omega
theorem mT_step {B : Nat} (hB : 0 < B) (P x Y i j : Nat) :
    mT B P x Y i (j + 1) / B ^ (i + j + 1) = (mT B P x Y i j / B ^ (i + j) + (P / B ^ (i + j) % B + x * (Y / B ^ j % B))) / B ∧
    mT B P x Y i (j + 1) % B ^ (i + j + 1) = mT B P x Y i j % B ^ (i + j) + (mT B P x Y i j / B ^ (i + j) + (P / B ^ (i + j) % B + x * (Y / B ^ j % B))) % B * B ^ (i + j) := by
  rw [mT_next, Nat.pow_succ]
  exact carry_step _ _ _ _ (Nat.pow_pos hB)
theorem mA_div {B : Nat} (hB : 0 < B) (P x Y i j : Nat) : mA B P x Y i j / B ^ (i + j) = P / B ^ (i + j) := by
  have hp : 0 < B ^ (i + j) := Nat.pow_pos hB
  rw [mA, Nat.add_mul_div_right _ _ hp, Nat.div_eq_of_lt (Nat.mod_lt _ hp), Nat.zero_add]
theorem mA_mod {B : Nat} (P x Y i j : Nat) : mA B P x Y i j % B ^ (i + j) = mT B P x Y i j % B ^ (i + j) := by
  rw [mA, Nat.add_mul_mod_self_right, Nat.mod_mod]
/-- The array's digit at the row's place is still that of the rows before. -/
theorem mA_at {B : Nat} (hB : 0 < B) (P x Y i j : Nat) : mA B P x Y i j / B ^ (i + j) % B = P / B ^ (i + j) % B := by rw [mA_div hB]
theorem mA_fill {B n : Nat} (hB : 0 < B) (P x Y i j : Nat) (hi : i + j < n) (d : Nat) (hd : d = (mT B P x Y i j / B ^ (i + j) + (P / B ^ (i + j) % B + x * (Y / B ^ j % B))) % B) :
    (pad B n (mA B P x Y i j)).set (i + j) d = pad B n (mA B P x Y i (j + 1)) := by
  rw [pad_put hB hi (by rw [hd]; exact Nat.mod_lt _ hB)]
  congr 1
  rw [mA_mod]
  have e1 : mA B P x Y i j / B ^ (i + j + 1) = P / B ^ (i + j + 1) := by
    rw [Nat.pow_succ, ← Nat.div_div_eq_div_mul, mA_div hB, Nat.div_div_eq_div_mul]
  rw [e1]
  show _ = mT B P x Y i (j + 1) % B ^ (i + j + 1) + P / B ^ (i + j + 1) * B ^ (i + j + 1)
  rw [(mT_step hB P x Y i j).2, hd]
/-- The row's end: the carry goes into the next place. -/
theorem mA_last {B n : Nat} (hB : 2 ≤ B) (X Y i m : Nat) (hY : len B Y ≤ m) (hi : i + m < n) :
    (pad B n (mA B (X % B ^ i * Y) (X / B ^ i % B) Y i m)).set (i + m) (mT B (X % B ^ i * Y) (X / B ^ i % B) Y i m / B ^ (i + m)) = pad B n (X % B ^ (i + 1) * Y) := by
  have hB0 : 0 < B := by omega
  have hp : 0 < B ^ (i + m) := Nat.pow_pos hB0
  have hx : X / B ^ i % B < B := Nat.mod_lt _ hB0
  have hYm := (len_le hB _ _).1 hY
  have hP : X % B ^ i * Y < B ^ (i + m) := by
    rw [Nat.pow_add]
    have h1 := Nat.mod_lt X (show 0 < B ^ i from Nat.pow_pos hB0)
    calc X % B ^ i * Y ≤ B ^ i * Y := Nat.mul_le_mul_right _ (Nat.le_of_lt h1)
      _ < B ^ i * B ^ m := Nat.mul_lt_mul_of_pos_left hYm (Nat.pow_pos hB0)
  have eA : mA B (X % B ^ i * Y) (X / B ^ i % B) Y i m = mT B (X % B ^ i * Y) (X / B ^ i % B) Y i m % B ^ (i + m) := by
    rw [mA, Nat.div_eq_of_lt hP, Nat.zero_mul, Nat.add_zero]
  have eT : mT B (X % B ^ i * Y) (X / B ^ i % B) Y i m = X % B ^ (i + 1) * Y := by
    rw [mT, Nat.mod_eq_of_lt hP, Nat.mod_eq_of_lt hYm, mod_next, Nat.add_mul, Nat.mul_right_comm]
  rw [eA, pad_next hB0 hi (Nat.mod_lt _ hp) (mT_carry hB0 _ _ _ _ hx), eT]
  congr 1
  have := Nat.div_add_mod (X % B ^ (i + 1) * Y) (B ^ (i + m))
  rw [Nat.mul_comm] at this
  omega
theorem mul_lt {B X Y : Nat} (hB : 2 ≤ B) : X * Y < B ^ (len B X + len B Y) := by
  rw [Nat.pow_add]
  have h1 := lt_pow_len hB X
  have h2 := lt_pow_len hB Y
  calc X * Y ≤ B ^ len B X * Y := Nat.mul_le_mul_right _ (Nat.le_of_lt h1)
    _ < B ^ len B X * B ^ len B Y := Nat.mul_lt_mul_of_pos_left h2 (Nat.pow_pos (by omega))

/-- A quotient by a number below the base, from the top: one place further down. -/
theorem ds_step {B d : Nat} (hd : 0 < d) (X k : Nat) :
    X / B ^ k / d = X / B ^ (k + 1) / d * B + (X / B ^ (k + 1) % d * B + X / B ^ k % B) / d ∧ X / B ^ k % d = (X / B ^ (k + 1) % d * B + X / B ^ k % B) % d := by
  have e := div_next (B := B) X k
  have e2 := Nat.div_add_mod (X / B ^ (k + 1)) d
  obtain ⟨q, hq⟩ : ∃ q, q = X / B ^ (k + 1) / d := ⟨_, rfl⟩
  obtain ⟨r, hr⟩ : ∃ r, r = X / B ^ (k + 1) % d := ⟨_, rfl⟩
  obtain ⟨x, hx⟩ : ∃ x, x = X / B ^ k % B := ⟨_, rfl⟩
  rw [← hq, ← hr] at e2
  have e3 : X / B ^ k = r * B + x + d * (q * B) := by
    rw [e, ← e2, ← hx, Nat.add_mul, Nat.mul_assoc]
    omega
  rw [← hq, ← hr, ← hx, e3, Nat.add_mul_div_left _ _ hd, Nat.add_mul_mod_self_left]
  exact ⟨Nat.add_comm _ _, rfl⟩
theorem ds_lt {B d : Nat} (hB : 0 < B) (hd : 0 < d) (X k : Nat) : (X / B ^ (k + 1) % d * B + X / B ^ k % B) / d < B := by
  refine Nat.div_lt_of_lt_mul ?_
  have h1 := Nat.mod_lt (X / B ^ (k + 1)) hd
  have h2 := Nat.mod_lt (X / B ^ k) hB
  have h3 : (X / B ^ (k + 1) % d + 1) * B ≤ d * B := Nat.mul_le_mul_right _ h1
  rw [Nat.add_mul] at h3
  omega
theorem ds_fill {B d n : Nat} (hB : 0 < B) (hd : 0 < d) (X k : Nat) (hk : k < n) (v : Nat) (hv : v = (X / B ^ (k + 1) % d * B + X / B ^ k % B) / d) :
    (pad B n (X / B ^ (k + 1) / d * B ^ (k + 1))).set k v = pad B n (X / B ^ k / d * B ^ k) := by
  have hp : 0 < B ^ (k + 1) := Nat.pow_pos hB
  rw [pad_put hB hk (by rw [hv]; exact ds_lt hB hd X k)]
  congr 1
  rw [Nat.mul_div_cancel _ hp, (ds_step hd X k).1, hv]
  have e0 : X / B ^ (k + 1) / d * B ^ (k + 1) % B ^ k = 0 := by
    rw [Nat.pow_succ, ← Nat.mul_assoc, Nat.mul_right_comm, Nat.mul_mod_left]
  rw [e0, Nat.add_mul (_ * B), Nat.mul_assoc _ B, Nat.mul_comm B, ← Nat.pow_succ, Nat.succ_eq_add_one]
  omega
theorem ds_top {B X n : Nat} (hB : 2 ≤ B) (h : len B X ≤ n) : X / B ^ n = 0 := Nat.div_eq_of_lt ((len_le hB _ _).1 h)

/-- Bytes into words. -/
abbrev W32 : Nat := 4294967296
theorem w32_pow (j : Nat) : W32 ^ j = 256 ^ (4 * j) := by rw [Nat.pow_mul]
theorem w32_split (j r : Nat) : 256 ^ (4 * j + r) = W32 ^ j * 256 ^ r := by rw [Nat.pow_add, ← w32_pow]
theorem byte_word (X j r : Nat) (hr : r < 4) : X / W32 ^ j % W32 / 256 ^ r % 256 = X / 256 ^ (4 * j + r) % 256 := by
  rw [w32_split, ← Nat.div_div_eq_div_mul]
  exact div_mod_low (B := 256) (k := 4) (by decide) hr
/-- The word in which the next byte goes, before and after. -/
theorem word_before (X j r : Nat) (hr : r < 4) : X % 256 ^ (4 * j + r) / W32 ^ j % W32 < 256 ^ r := by
  have h : X % 256 ^ (4 * j + r) / W32 ^ j < 256 ^ r := Nat.div_lt_of_lt_mul (by rw [← w32_split]; exact Nat.mod_lt _ (Nat.pow_pos (by decide)))
  exact Nat.lt_of_le_of_lt (Nat.mod_le _ _) h
theorem word_after (X j r : Nat) (hr : r < 4) : X % 256 ^ (4 * j + r + 1) / W32 ^ j % W32 = X % 256 ^ (4 * j + r) / W32 ^ j % W32 + X / 256 ^ (4 * j + r) % 256 * 256 ^ r := by
  have hp : 0 < W32 ^ j := Nat.pow_pos (by decide)
  have h : X % 256 ^ (4 * j + r) / W32 ^ j < 256 ^ r := Nat.div_lt_of_lt_mul (by rw [← w32_split]; exact Nat.mod_lt _ (Nat.pow_pos (by decide)))
  have hd := Nat.mod_lt (X / 256 ^ (4 * j + r)) (show 0 < 256 by decide)
  have h4 : 256 ^ r * 256 ≤ W32 := by
    have : 256 ^ (r + 1) ≤ 256 ^ 4 := Nat.pow_le_pow_right (by decide) (by omega)
    rwa [Nat.pow_succ] at this
  have h5 : X / 256 ^ (4 * j + r) % 256 * 256 ^ r ≤ 255 * 256 ^ r := Nat.mul_le_mul_right _ (by omega)
  rw [mod_next]
  have e : X / 256 ^ (4 * j + r) % 256 * 256 ^ (4 * j + r) = X / 256 ^ (4 * j + r) % 256 * 256 ^ r * W32 ^ j := by
    rw [w32_split j r, Nat.mul_comm (W32 ^ j), Nat.mul_assoc]
  rw [e, Nat.add_mul_div_right _ _ hp, Nat.mod_eq_of_lt (Nat.lt_of_lt_of_le h (by omega)), Nat.mod_eq_of_lt]
  omega
theorem word_other (X i j : Nat) (hj : j ≠ i / 4) : X % 256 ^ i / W32 ^ j % W32 = X % 256 ^ (i + 1) / W32 ^ j % W32 := by
  by_cases h : j < i / 4
  · have e1 : ∀ k, 4 * j + 4 ≤ k → X % 256 ^ k / W32 ^ j % W32 = X / W32 ^ j % W32 := by
      intro k hk
      obtain ⟨d, rfl⟩ : ∃ d, k = 4 * j + (4 + d) := ⟨k - (4 * j + 4), by omega⟩
      rw [Nat.pow_add, ← w32_pow, Nat.mod_mul_right_div_self, Nat.pow_add]
      show X / W32 ^ j % (W32 * 256 ^ d) % W32 = _
      rw [Nat.mod_mul_right_mod]
    rw [e1 i (by omega), e1 (i + 1) (by omega)]
  · have hk : ∀ k, k ≤ 4 * j → X % 256 ^ k / W32 ^ j = 0 := by
      intro k hk
      refine Nat.div_eq_of_lt ?_
      rw [w32_pow]
      exact Nat.lt_of_lt_of_le (Nat.mod_lt _ (Nat.pow_pos (by decide))) (Nat.pow_le_pow_right (by decide) hk)
    rw [hk i (by omega), hk (i + 1) (by omega)]
theorem word_fill (X m i : Nat) (hi : i / 4 < m) (d : Nat) (hd : d = X % 256 ^ i / W32 ^ (i / 4) % W32 + X / 256 ^ i % 256 * 256 ^ (i % 4)) :
    (pad W32 m (X % 256 ^ i)).set (i / 4) d = pad W32 m (X % 256 ^ (i + 1)) := by
  have e := word_after X (i / 4) (i % 4) (Nat.mod_lt _ (by decide))
  rw [Nat.div_add_mod] at e
  exact pad_set hi (by rw [hd, e]) fun j _ hne => word_other X i j hne
theorem len_words (X : Nat) : len W32 X ≤ (len 256 X + 3) / 4 := by
  rw [len_le (by decide), w32_pow]
  exact Nat.lt_of_lt_of_le (lt_pow_len (by decide) X) (Nat.pow_le_pow_right (by decide) (by omega))

/-- The number of bits. -/
theorem bits_top {X : Nat} (hX : X ≠ 0) : len 2 X = 32 * (len W32 X - 1) + len 2 (X / W32 ^ (len W32 X - 1)) := by
  obtain ⟨n, hn⟩ : ∃ n, len W32 X = n + 1 := ⟨len W32 X - 1, by have : len W32 X ≠ 0 := fun h => hX ((len_eq_zero (by decide)).1 h); omega⟩
  have h1 : X < W32 ^ (n + 1) := by rw [← hn]; exact lt_pow_len (by decide) X
  have h2 : W32 ^ n ≤ X := by have := pow_le_len (B := W32) (by decide) hX; rwa [hn] at this
  rw [hn, Nat.add_sub_cancel]
  have ew : W32 ^ n = 2 ^ (32 * n) := by rw [Nat.pow_mul]
  obtain ⟨q, hq⟩ : ∃ q, q = X / W32 ^ n := ⟨_, rfl⟩
  have hq0 : q ≠ 0 := by
    rw [hq]
    exact Nat.ne_of_gt (Nat.div_pos h2 (Nat.pow_pos (by decide)))
  obtain ⟨b, hb⟩ : ∃ b, len 2 q = b + 1 := ⟨len 2 q - 1, by have : len 2 q ≠ 0 := fun h => hq0 ((len_eq_zero (by decide)).1 h); omega⟩
  have h3 : q < 2 ^ (b + 1) := by rw [← hb]; exact lt_pow_len (by decide) q
  have h4 : 2 ^ b ≤ q := by have := pow_le_len (B := 2) (by decide) hq0; rwa [hb] at this
  rw [← hq, hb, ← Nat.add_assoc]
  refine len_eq (by decide) ?_ ?_
  · rw [Nat.add_assoc, Nat.pow_add, ← ew]
    have : X / W32 ^ n < 2 ^ (b + 1) := by rw [← hq]; exact h3
    rwa [Nat.div_lt_iff_lt_mul (Nat.pow_pos (by decide)), Nat.mul_comm] at this
  · rw [Nat.pow_add, ← ew]
    have : 2 ^ b ≤ X / W32 ^ n := by rw [← hq]; exact h4
    rwa [Nat.le_div_iff_mul_le (Nat.pow_pos (by decide)), Nat.mul_comm] at this
theorem bytes_bits (X : Nat) : len 256 X = (len 2 X + 7) / 8 := by
  have h : ∀ n, len 256 X ≤ n ↔ len 2 X ≤ 8 * n := fun n => by
    rw [len_le (by decide), len_le (by decide), Nat.pow_mul]
  have h1 := (h (len 256 X)).1 (Nat.le_refl _)
  have h2 := (h ((len 2 X + 7) / 8)).2 (by omega)
  omega

/-- A comparison, from the top. -/
theorem cmp_top {B X Y k : Nat} (h : X / B ^ (k + 1) = Y / B ^ (k + 1)) :
    (X / B ^ k % B = Y / B ^ k % B → X / B ^ k = Y / B ^ k) ∧ (X / B ^ k % B < Y / B ^ k % B → X < Y) := by
  have e1 := div_next (B := B) X k
  have e2 := div_next (B := B) Y k
  rw [← h] at e2
  refine ⟨fun h' => by rw [e1, e2, h'], fun h' => ?_⟩
  apply Nat.lt_of_not_le
  intro hle
  have := Nat.div_le_div_right (c := B ^ k) hle
  omega
theorem cmp_len {B X Y : Nat} (hB : 2 ≤ B) (h : len B X < len B Y) : X < Y := by
  apply Nat.lt_of_not_le
  intro hle
  have := len_mono hB hle
  omega
end Nm
end Go.Proofs.Ytddfphneidcibaa
namespace Go.Proofs.Ytddfphneidcibaa
namespace Nm

/-- What is known of a guess q with its rest r: top = q * h + r, and it is not too small. -/
structure Gs (B U V n h v2 q r : Nat) : Prop where
  top : U / B ^ (n + 1) = q * h + r
  ge : U / V ≤ q

section
variable {B U V n h v2 : Nat} (hB : 2 ≤ B) (hV : V = V / B ^ n * B ^ n + V % B ^ n) (hh : h = V / B ^ (n + 1)) (hn : V < B ^ (n + 2)) (h2 : V / B ^ n = h * B + v2) (hv2 : v2 < B) (hU : U < V * B) (hbig : B ≤ 2 * h)
include hB hh hbig hn

theorem gs_pos : 0 < V ∧ 0 < h ∧ h < B := by
  have hh0 : 0 < h := by omega
  refine ⟨?_, hh0, ?_⟩
  · apply Nat.pos_of_ne_zero
    intro e
    rw [e, Nat.zero_div] at hh
    omega
  · rw [hh]
    refine Nat.div_lt_of_lt_mul ?_
    rw [← Nat.pow_succ]
    exact hn
theorem gs_start : Gs B U V n h v2 (U / B ^ (n + 1) / h) (U / B ^ (n + 1) % h) := by
  obtain ⟨hV0, hh0, _⟩ := gs_pos hB hh hn hbig
  refine ⟨?_, ?_⟩
  · have := Nat.div_add_mod (U / B ^ (n + 1)) h
    rw [Nat.mul_comm] at this
    exact this.symm
  · rw [Nat.le_div_iff_mul_le hh0, Nat.le_div_iff_mul_le (Nat.pow_pos (by omega))]
    have h1 : h * B ^ (n + 1) ≤ V := by rw [hh]; exact Nat.div_mul_le_self _ _
    calc U / V * h * B ^ (n + 1) = U / V * (h * B ^ (n + 1)) := Nat.mul_assoc _ _ _
      _ ≤ U / V * V := Nat.mul_le_mul_left _ h1
      _ ≤ U := Nat.div_mul_le_self _ _
omit hn hbig in
include hU in
theorem gs_top : U / B ^ (n + 1) < (h + 1) * B := by
  refine Nat.div_lt_of_lt_mul ?_
  have h1 : V < (h + 1) * B ^ (n + 1) := by
    rw [hh]
    have := Nat.div_add_mod V (B ^ (n + 1))
    have h3 := Nat.mod_lt V (show 0 < B ^ (n + 1) from Nat.pow_pos (by omega))
    rw [Nat.add_mul, Nat.one_mul, Nat.mul_comm]
    omega
  have h2 := Nat.mul_lt_mul_of_pos_right h1 (show 0 < B by omega)
  rw [Nat.mul_comm (B ^ (n + 1)), Nat.mul_right_comm]
  omega
theorem gs_first (hU : U < V * B) {q r : Nat} (g : Gs B U V n h v2 q r) : q ≤ B + 1 := by
  obtain ⟨hV0, hh0, hhB⟩ := gs_pos hB hh hn hbig
  have ht := gs_top hB hh hU
  rw [g.top] at ht
  apply Nat.le_of_lt_succ
  apply Nat.lt_of_not_le
  intro hle
  have h1 : (B + 2) * h ≤ q * h := Nat.mul_le_mul_right _ hle
  rw [Nat.add_mul] at h1 ht
  rw [Nat.mul_comm B h] at h1
  omega
/-- The next guess. -/
theorem gs_next (hU : U < V * B) (h2 : V / B ^ n = h * B + v2) {q r u2 : Nat} (g : Gs B U V n h v2 q r) (hu2 : u2 = U / B ^ n % B) (hc : B ≤ q ∨ r * B + u2 < q * v2) : 0 < q ∧ Gs B U V n h v2 (q - 1) (r + h) := by
  obtain ⟨hV0, hh0, hhB⟩ := gs_pos hB hh hn hbig
  have hlt : U / V < q := by
    rcases hc with hc | hc
    · exact Nat.lt_of_lt_of_le (Nat.div_lt_of_lt_mul hU) hc
    · rw [Nat.div_lt_iff_lt_mul hV0]
      have e1 : U / B ^ n = U / B ^ (n + 1) * B + u2 := by rw [hu2]; exact div_next U n
      have e2 : U / B ^ n < q * (V / B ^ n) := by
        rw [e1, g.top, h2, Nat.mul_add, Nat.add_mul, ← Nat.mul_assoc]
        omega
      have h3 := Nat.div_add_mod U (B ^ n)
      have h4 := Nat.mod_lt U (show 0 < B ^ n from Nat.pow_pos (by omega))
      have h5 : B ^ n * (U / B ^ n + 1) ≤ B ^ n * (q * (V / B ^ n)) := Nat.mul_le_mul_left _ e2
      have h6 : B ^ n * (q * (V / B ^ n)) ≤ q * V := by
        rw [← Nat.mul_assoc, Nat.mul_comm (B ^ n) q, Nat.mul_assoc]
        exact Nat.mul_le_mul_left _ (Nat.mul_div_le _ _)
      rw [Nat.mul_add, Nat.mul_one] at h5
      omega
  have hq : 0 < q := Nat.lt_of_le_of_lt (Nat.zero_le _) hlt
  refine ⟨hq, ⟨?_, Nat.le_sub_one_of_lt hlt⟩⟩
  rw [g.top]
  obtain ⟨p, rfl⟩ : ∃ p, q = p + 1 := ⟨q - 1, by omega⟩
  rw [Nat.add_sub_cancel, Nat.add_mul]
  omega
/-- The guess when the test is over: at most one too great. -/
theorem gs_end (hU : U < V * B) (h2 : V / B ^ n = h * B + v2) (hv2 : v2 < B) {q r u2 : Nat} (g : Gs B U V n h v2 q r) (hu2 : u2 = U / B ^ n % B) (hc : (q < B ∧ q * v2 ≤ r * B + u2) ∨ B ≤ r) : q < B ∧ (q = U / V ∨ q = U / V + 1) := by
  obtain ⟨hV0, hh0, hhB⟩ := gs_pos hB hh hn hbig
  have ht := gs_top hB hh hU
  rw [g.top, Nat.add_mul, Nat.one_mul] at ht
  have hqB : q < B := by
    rcases hc with hc | hc
    · exact hc.1
    · apply Nat.lt_of_not_le
      intro hle
      have : B * h ≤ q * h := Nat.mul_le_mul_right _ hle
      rw [Nat.mul_comm B h] at this
      omega
  have hle : q * v2 ≤ r * B + u2 := by
    rcases hc with hc | hc
    · exact hc.2
    · have h3 : q * v2 ≤ B * B := Nat.mul_le_mul (Nat.le_of_lt hqB) (Nat.le_of_lt hv2)
      have h4 : B * B ≤ r * B := Nat.mul_le_mul_right _ hc
      omega
  refine ⟨hqB, ?_⟩
  have e1 : U / B ^ n = U / B ^ (n + 1) * B + u2 := by rw [hu2]; exact div_next U n
  have e2 : q * (V / B ^ n) ≤ U / B ^ n := by
    rw [e1, g.top, h2, Nat.mul_add, Nat.add_mul, ← Nat.mul_assoc]
    omega
  have h3 := Nat.div_add_mod V (B ^ n)
  have h4 := Nat.mod_lt V (show 0 < B ^ n from Nat.pow_pos (by omega))
  have h5 : q * V ≤ U + q * (V % B ^ n) := by
    have : q * V = B ^ n * (q * (V / B ^ n)) + q * (V % B ^ n) := by
      rw [← Nat.mul_assoc, Nat.mul_comm (B ^ n) q, Nat.mul_assoc, ← Nat.mul_add, h3]
    rw [this]
    have h6 : B ^ n * (q * (V / B ^ n)) ≤ U := Nat.le_trans (Nat.mul_le_mul_left _ e2) (Nat.mul_div_le _ _)
    omega
  have h7 : q * (V % B ^ n) < V := by
    have h8 : q * (V % B ^ n) ≤ B * (V % B ^ n) := Nat.mul_le_mul_right _ (Nat.le_of_lt hqB)
    have h9 : B * (V % B ^ n) < B * B ^ n := Nat.mul_lt_mul_of_pos_left h4 (by omega)
    have h10 : B ^ (n + 1) ≤ V := by
      have : 1 * B ^ (n + 1) ≤ h * B ^ (n + 1) := Nat.mul_le_mul_right _ hh0
      rw [Nat.one_mul] at this
      exact Nat.le_trans this (by rw [hh]; exact Nat.div_mul_le_self _ _)
    rw [Nat.pow_succ, Nat.mul_comm] at h10
    omega
  have hge := g.ge
  have hup : q - 1 ≤ U / V := by
    rw [Nat.le_div_iff_mul_le hV0, Nat.sub_mul, Nat.one_mul]
    omega
  omega
end

/-- The words of u while q * V is taken away from it: those below a place are done. -/
def sA (B U Z i : Nat) : Nat := df B U Z i + U / B ^ i * B ^ i
theorem sA_zero (B U Z : Nat) : sA B U Z 0 = U := by simp [sA, df_zero]
theorem sA_at {B : Nat} (hB : 0 < B) (U Z i : Nat) : sA B U Z i / B ^ i % B = U / B ^ i % B := by
  rw [sA, Nat.add_mul_div_right _ _ (Nat.pow_pos hB), Nat.div_eq_of_lt (df_lt hB U Z i).1, Nat.zero_add]
theorem sA_fill {B n : Nat} (hB : 0 < B) (U Z i : Nat) (hi : i < n) (d : Nat) (hd : d = U / B ^ i % B + bw B U Z (i + 1) * B - Z / B ^ i % B - bw B U Z i) :
    (pad B n (sA B U Z i)).set i d = pad B n (sA B U Z (i + 1)) := by
  obtain ⟨-, h2, h3⟩ := df_step hB U Z i
  have hp : 0 < B ^ i := Nat.pow_pos hB
  rw [pad_put hB hi (by rw [hd]; exact h3)]
  congr 1
  have e1 : sA B U Z i % B ^ i = df B U Z i := by rw [sA, Nat.add_mul_mod_self_right, Nat.mod_eq_of_lt (df_lt hB U Z i).1]
  have e2 : sA B U Z i / B ^ (i + 1) = U / B ^ (i + 1) := by
    rw [Nat.pow_succ, ← Nat.div_div_eq_div_mul, sA, Nat.add_mul_div_right _ _ hp, Nat.div_eq_of_lt (df_lt hB U Z i).1, Nat.zero_add, Nat.div_div_eq_div_mul]
  rw [e1, e2, sA, h2, hd]
theorem sA_all {B U Z i : Nat} (hU : U < B ^ i) : sA B U Z i = df B U Z i := by rw [sA, Nat.div_eq_of_lt hU, Nat.zero_mul, Nat.add_zero]
theorem df_full {B U Z i : Nat} (hU : U < B ^ i) (hZ : Z < B ^ i) : df B U Z i = (if U < Z then U + B ^ i - Z else U - Z) ∧ bw B U Z i = (if U < Z then 1 else 0) := by
  unfold df bw
  rw [Nat.mod_eq_of_lt hU, Nat.mod_eq_of_lt hZ]
  constructor
  · split
    · rw [Nat.one_mul]
    · rw [Nat.zero_mul, Nat.add_zero]
  · rfl
/-- A product's digit and its carry. -/
theorem pr_step {B : Nat} (hB : 0 < B) (q V i : Nat) :
    q * (V % B ^ (i + 1)) / B ^ (i + 1) = (q * (V % B ^ i) / B ^ i + q * (V / B ^ i % B)) / B ∧ q * V / B ^ i % B = (q * (V % B ^ i) / B ^ i + q * (V / B ^ i % B)) % B := by
  have hp : 0 < B ^ i := Nat.pow_pos hB
  have e : q * (V % B ^ (i + 1)) = q * (V % B ^ i) + q * (V / B ^ i % B) * B ^ i := by rw [mod_next, Nat.mul_add, Nat.mul_assoc]
  have c := carry_step (B ^ i) B (q * (V % B ^ i)) (q * (V / B ^ i % B)) hp
  constructor
  · rw [e, Nat.pow_succ]; exact c.1
  · have e1 : q * V / B ^ i % B = q * (V % B ^ (i + 1)) / B ^ i % B := by
      rw [← div_mod_low (x := q * V) hB (show i < i + 1 by omega), ← div_mod_low (x := q * (V % B ^ (i + 1))) hB (show i < i + 1 by omega)]
      rw [Nat.mul_mod_mod]
    rw [e1, e, Nat.add_mul_div_right _ _ hp]
theorem pr_carry {B q : Nat} (hB : 0 < B) (hq : q < B) (V i : Nat) : q * (V % B ^ i) / B ^ i < B := by
  refine Nat.div_lt_of_lt_mul ?_
  have h1 := Nat.mod_lt V (show 0 < B ^ i from Nat.pow_pos hB)
  rw [Nat.mul_comm q]
  by_cases h0 : q = 0
  · subst h0; rw [Nat.mul_zero]; exact Nat.mul_pos (Nat.pow_pos hB) hB
  · exact Nat.mul_lt_mul'' h1 hq
/-- The words of u while V is added back. -/
def aA (B R V i : Nat) : Nat := sm B R V i % B ^ i + R / B ^ i * B ^ i
theorem aA_zero (B R V : Nat) : aA B R V 0 = R := by simp [aA, Nat.mod_one]
theorem aA_at {B : Nat} (hB : 0 < B) (R V i : Nat) : aA B R V i / B ^ i % B = R / B ^ i % B := by
  have hp : 0 < B ^ i := Nat.pow_pos hB
  rw [aA, Nat.add_mul_div_right _ _ hp, Nat.div_eq_of_lt (Nat.mod_lt _ hp), Nat.zero_add]
theorem aA_fill {B n : Nat} (hB : 0 < B) (R V i : Nat) (hi : i < n) (d : Nat) (hd : d = (sm B R V i / B ^ i + (R / B ^ i % B + V / B ^ i % B)) % B) :
    (pad B n (aA B R V i)).set i d = pad B n (aA B R V (i + 1)) := by
  have hp : 0 < B ^ i := Nat.pow_pos hB
  rw [pad_put hB hi (by rw [hd]; exact Nat.mod_lt _ hB)]
  congr 1
  have e1 : aA B R V i % B ^ i = sm B R V i % B ^ i := by rw [aA, Nat.add_mul_mod_self_right, Nat.mod_mod]
  have e2 : aA B R V i / B ^ (i + 1) = R / B ^ (i + 1) := by
    rw [Nat.pow_succ, ← Nat.div_div_eq_div_mul, aA, Nat.add_mul_div_right _ _ hp, Nat.div_eq_of_lt (Nat.mod_lt _ hp), Nat.zero_add, Nat.div_div_eq_div_mul]
  rw [e1, e2, aA, (sm_step hB R V i).2, hd]
/-- The last word, with the carry: what is left. -/
theorem aA_last {B n R V : Nat} (hB : 2 ≤ B) (hR : R < B ^ (n + 1)) (hV : V < B ^ n) :
    (pad B (n + 1) (aA B R V n)).set n ((R / B ^ n % B + sm B R V n / B ^ n) % B) = pad B (n + 1) ((R + V) % B ^ (n + 1)) := by
  have hB0 : 0 < B := by omega
  have hd : (R / B ^ n % B + sm B R V n / B ^ n) % B = (sm B R V n / B ^ n + (R / B ^ n % B + V / B ^ n % B)) % B := by
    rw [Nat.div_eq_of_lt hV, Nat.zero_mod, Nat.add_zero, Nat.add_comm]
  rw [aA_fill hB0 R V n (by omega) _ hd]
  congr 1
  rw [aA, Nat.div_eq_of_lt hR, Nat.zero_mul, Nat.add_zero, sm, Nat.mod_eq_of_lt hR, Nat.mod_eq_of_lt (Nat.lt_trans hV (Nat.pow_lt_pow_right hB (by omega)))]
/-- What the whole step leaves. -/
theorem kn_end {B n U V q : Nat} (hB : 2 ≤ B) (hV0 : 0 < V) (hV : V < B ^ n) (hU : U < V * B) (hq : q = U / V ∨ q = U / V + 1) :
    (¬ U < q * V → q = U / V ∧ U - q * V = U % V) ∧ (U < q * V → q - 1 = U / V ∧ (U + B ^ (n + 1) - q * V + V) % B ^ (n + 1) = U % V) := by
  have h1 := Nat.div_add_mod U V
  have h2 := Nat.mod_lt U hV0
  have h3 : U / V * V ≤ U := Nat.div_mul_le_self _ _
  rw [Nat.mul_comm] at h1
  have hlt : V < B ^ (n + 1) := Nat.lt_trans hV (Nat.pow_lt_pow_right hB (by omega))
  rcases hq with rfl | rfl
  · exact ⟨fun _ => ⟨rfl, by omega⟩, fun h => absurd h (Nat.not_lt.2 h3)⟩
  · rw [Nat.add_mul, Nat.one_mul]
    refine ⟨fun h => absurd (show U < U / V * V + V by omega) h, fun _ => ⟨Nat.add_sub_cancel _ _, ?_⟩⟩
    have e : U + B ^ (n + 1) - (U / V * V + V) + V = U % V + B ^ (n + 1) := by omega
    rw [e, Nat.add_mod_right, Nat.mod_eq_of_lt (by omega)]
end Nm
end Go.Proofs.Ytddfphneidcibaa
namespace Go.Proofs.Ytddfphneidcibaa
namespace Nm

theorem pad_snoc (B : Nat) : ∀ (m x : Nat), pad B (m + 1) x = pad B m x ++ [x / B ^ m % B]
  | 0, x => by simp [pad]
  | m + 1, x => by
    rw [pad, pad_snoc B m (x / B), pad, List.cons_append, Nat.div_div_eq_div_mul, Nat.pow_succ, Nat.mul_comm]
/-- A number by one of its places. -/
theorem split3 (B A k : Nat) : A = A % B ^ k + A / B ^ k % B * B ^ k + A / B ^ (k + 1) * B ^ (k + 1) := by
  rw [← mod_next]
  have := Nat.div_add_mod A (B ^ (k + 1))
  rw [Nat.mul_comm] at this
  omega
/-- Adding into a place without a carry. -/
theorem pad_plus {B n A k e d : Nat} (hB : 0 < B) (hk : k < n) (hd : d = A / B ^ k % B + e) (hlt : d < B) : (pad B n A).set k d = pad B n (A + e * B ^ k) := by
  rw [pad_put hB hk hlt]
  congr 1
  have := split3 B A k
  rw [hd, Nat.add_mul]
  omega

/-- A shift to the left by less than a word: a word further. -/
theorem shl_step {S T X n i lo hi : Nat} (hST : S * T = W32) (hS : 0 < S) (hi' : i + 1 < n) (hlo : lo = (X / W32 ^ i % W32) * S % W32) (hhi : hi = (X / W32 ^ i % W32) * S / W32) :
    ((pad W32 n (X % W32 ^ i * S)).set i (X % W32 ^ i * S / W32 ^ i % W32 + lo)).set (i + 1) hi = pad W32 n (X % W32 ^ (i + 1) * S) ∧ X % W32 ^ i * S / W32 ^ i % W32 < S ∧ lo % S = 0 ∧ X % W32 ^ i * S / W32 ^ i % W32 + lo < W32 := by
  have hW : 0 < W32 := by decide
  have hp : 0 < W32 ^ i := Nat.pow_pos hW
  have hT : 0 < T := Nat.pos_of_ne_zero (by rintro rfl; simp at hST)
  have hx := Nat.mod_lt (X / W32 ^ i) hW
  have hSW : S ≤ W32 := by rw [← hST]; exact Nat.le_mul_of_pos_right _ hT
  have hc : X % W32 ^ i * S / W32 ^ i < S := Nat.div_lt_of_lt_mul (Nat.mul_lt_mul_of_pos_right (Nat.mod_lt _ hp) hS)
  have hcm : X % W32 ^ i * S / W32 ^ i % W32 = X % W32 ^ i * S / W32 ^ i := Nat.mod_eq_of_lt (Nat.lt_of_lt_of_le hc hSW)
  have hlo0 : lo % S = 0 := by
    rw [hlo, ← hST, Nat.mul_comm _ S, Nat.mul_mod_mul_left, Nat.mul_mod_right]
  have hlolt : lo < W32 := by rw [hlo]; exact Nat.mod_lt _ hW
  obtain ⟨c, hcc⟩ : ∃ c, lo = S * c := ⟨lo / S, by have := Nat.div_add_mod lo S; omega⟩
  have hlo2 : lo + S ≤ W32 := by
    have : S * c < S * T := by rw [← hcc, hST]; exact hlolt
    have hcT : c < T := Nat.lt_of_mul_lt_mul_left this
    have : S * (c + 1) ≤ S * T := Nat.mul_le_mul_left _ hcT
    rw [Nat.mul_add, hST, Nat.mul_one] at this
    omega
  have hsum : X % W32 ^ i * S / W32 ^ i % W32 + lo < W32 := by rw [hcm]; omega
  refine ⟨?_, by rw [hcm]; exact hc, hlo0, hsum⟩
  rw [pad_plus hW (by omega) rfl hsum]
  have hA : X % W32 ^ i * S + lo * W32 ^ i < W32 ^ (i + 1) := by
    have h1 := Nat.div_add_mod (X % W32 ^ i * S) (W32 ^ i)
    have h2 := Nat.mod_lt (X % W32 ^ i * S) hp
    have h3 : (X % W32 ^ i * S / W32 ^ i + lo + 1) * W32 ^ i ≤ W32 * W32 ^ i := Nat.mul_le_mul_right _ (by rw [hcm] at hsum; omega)
    rw [Nat.add_mul, Nat.add_mul, Nat.one_mul, Nat.mul_comm W32] at h3
    rw [Nat.pow_succ]
    rw [Nat.mul_comm] at h1
    omega
  have hhilt : hi < W32 := by
    rw [hhi]
    refine Nat.div_lt_of_lt_mul ?_
    calc X / W32 ^ i % W32 * S < W32 * S := Nat.mul_lt_mul_of_pos_right hx hS
      _ ≤ W32 * W32 := Nat.mul_le_mul_left _ hSW
  rw [pad_next hW hi' hA hhilt]
  congr 1
  rw [mod_next, Nat.add_mul, Nat.mul_right_comm, Nat.pow_succ, Nat.add_assoc]
  congr 1
  have := Nat.div_add_mod (X / W32 ^ i % W32 * S) W32
  rw [← hlo, ← hhi] at this
  rw [← this, Nat.add_mul, Nat.mul_comm (W32 ^ i) W32, ← Nat.mul_assoc, Nat.mul_comm W32 hi]
  omega

/-- A shift to the right: a word of it. -/
theorem shr_word {S T X i : Nat} (hST : S * T = W32) : X / S / W32 ^ i % W32 = X / W32 ^ i % W32 / S + (X / W32 ^ (i + 1) % W32) * T % W32 := by
  have hW : 0 < W32 := by decide
  have hS : 0 < S := Nat.pos_of_ne_zero (by rintro rfl; simp at hST)
  have hT : 0 < T := Nat.pos_of_ne_zero (by rintro rfl; simp at hST)
  rw [Nat.div_div_eq_div_mul, Nat.mul_comm S, ← Nat.div_div_eq_div_mul]
  have e := div_next (B := W32) X i
  have e2 := Nat.div_add_mod (X / W32 ^ (i + 1)) W32
  generalize X / W32 ^ (i + 1) = y at *
  generalize hx : X / W32 ^ i % W32 = x at *
  have hxl : x < W32 := by rw [← hx]; exact Nat.mod_lt _ hW
  rw [e]
  have e3 : (y * W32 + x) / S = y * T + x / S := by
    rw [← hST, ← Nat.mul_assoc, Nat.mul_comm y S, Nat.mul_assoc, Nat.mul_add_div hS]
  rw [e3]
  have hxS : x / S < T := Nat.div_lt_of_lt_mul (by rw [hST]; exact hxl)
  have e4 : (y % W32) * T % W32 = y * T % W32 := by rw [Nat.mod_mul_mod]
  rw [e4]
  have e5 : y * T % W32 = y % S * T := by rw [← hST, Nat.mul_mod_mul_right]
  rw [Nat.add_mod, e5]
  have h6 : y % S * T + x / S < W32 := by
    have := Nat.mod_lt y hS
    have h7 : (y % S + 1) * T ≤ S * T := Nat.mul_le_mul_right _ this
    rw [Nat.add_mul, hST] at h7
    omega
  rw [Nat.mod_eq_of_lt (a := x / S) (by omega), Nat.mod_eq_of_lt h6]
  omega

/-- A bit is set that was not: bytes. -/
theorem bit_fill {n A i : Nat} (hi : i / 8 < n) (hA : A % 2 ^ (i + 1) = 0) : (pad 256 n A).set (i / 8) (A / 256 ^ (i / 8) % 256 ||| 2 ^ (i % 8)) = pad 256 n (A + 2 ^ i) := by
  obtain ⟨k, hk⟩ : ∃ k, k = i / 8 := ⟨_, rfl⟩
  obtain ⟨r, hr⟩ : ∃ r, r = i % 8 := ⟨_, rfl⟩
  have hik : i = 8 * k + r := by omega
  have hr8 : r < 8 := by omega
  rw [← hk, ← hr]
  have e256 : 256 ^ k = 2 ^ (8 * k) := by rw [Nat.pow_mul]
  obtain ⟨c, hc⟩ : ∃ c, A = 2 ^ (i + 1) * c := ⟨A / 2 ^ (i + 1), by have := Nat.div_add_mod A (2 ^ (i + 1)); omega⟩
  have e1 : A / 256 ^ k = 2 ^ (r + 1) * c := by
    rw [hc, e256, hik, Nat.add_assoc, Nat.pow_add, Nat.mul_assoc, Nat.mul_div_cancel_left _ (Nat.pow_pos (by decide))]
  have h256 : (256 : Nat) = 2 ^ (r + 1) * 2 ^ (7 - r) := by rw [← Nat.pow_add, show r + 1 + (7 - r) = 8 by omega]
  have e2 : A / 256 ^ k % 256 = 2 ^ (r + 1) * (c % 2 ^ (7 - r)) := by
    rw [e1]
    conv => lhs; rw [h256]
    rw [Nat.mul_mod_mul_left]
  have hlt : 2 ^ r < 2 ^ (r + 1) := Nat.pow_lt_pow_right (by decide) (by omega)
  have eor : A / 256 ^ k % 256 ||| 2 ^ r = A / 256 ^ k % 256 + 2 ^ r := by
    rw [e2]
    exact (Nat.two_pow_add_eq_or_of_lt hlt _).symm
  have hl2 : A / 256 ^ k % 256 + 2 ^ r < 256 := by
    rw [← eor]
    exact Nat.or_lt_two_pow (n := 8) (Nat.mod_lt _ (by decide)) (Nat.pow_lt_pow_right (by decide) hr8)
  rw [eor, pad_plus (by decide) (by omega) rfl hl2]
  congr 1
  rw [e256, ← Nat.pow_add, hik, Nat.add_comm r]
theorem bit_of (X i : Nat) : X / 256 ^ (i / 8) % 256 / 2 ^ (i % 8) % 2 = X / 2 ^ i % 2 := by
  have e256 : 256 ^ (i / 8) = 2 ^ (8 * (i / 8)) := by rw [Nat.pow_mul]
  have hi : 2 ^ i = 2 ^ (8 * (i / 8)) * 2 ^ (i % 8) := by rw [← Nat.pow_add, Nat.div_add_mod]
  rw [hi, ← Nat.div_div_eq_div_mul, e256]
  exact div_mod_low (B := 2) (k := 8) (by decide) (Nat.mod_lt _ (by decide))
/-- A digit of a chunk of decimals. -/
theorem chunk_dig (X k j : Nat) (hj : j < 9) : X / 1000000000 ^ k % 1000000000 / 10 ^ j % 10 = X / 10 ^ (9 * k + j) % 10 := by
  have e : 1000000000 ^ k = 10 ^ (9 * k) := by rw [Nat.pow_mul]
  rw [Nat.pow_add, ← Nat.div_div_eq_div_mul, ← e]
  exact div_mod_low (B := 10) (k := 9) (by decide) hj
end Nm
end Go.Proofs.Ytddfphneidcibaa
