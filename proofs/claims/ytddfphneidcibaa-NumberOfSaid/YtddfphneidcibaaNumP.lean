/-
  DIGITS in plain Lean: the digits of a number in a base, the lowest first; arrays of digits that are filled. No program in sight.
-/
namespace Go.Proofs.Ytddfphneidcibaa
namespace Nm

/-- The digits of a number, the lowest first, without zeros at the end. -/
def dg (B x : Nat) : List Nat := if h : x = 0 ∨ B < 2 then [] else x % B :: dg B (x / B)
termination_by x
decreasing_by exact Nat.div_lt_self (by omega) (by omega)

theorem dg_zero (B : Nat) : dg B 0 = [] := by rw [dg]; simp
theorem dg_pos {B x : Nat} (hB : 2 ≤ B) (hx : x ≠ 0) : dg B x = x % B :: dg B (x / B) := by
  rw [dg, dif_neg (by omega)]

/-- n digits of a number. -/
def pad (B : Nat) : Nat → Nat → List Nat
  | 0, _ => []
  | n + 1, x => x % B :: pad B n (x / B)
@[simp] theorem pad_length (B : Nat) : ∀ n x, (pad B n x).length = n
  | 0, _ => rfl
  | n + 1, x => by rw [pad, List.length_cons, pad_length B n]
theorem pad_getD (B : Nat) : ∀ (n x i : Nat), i < n → (pad B n x).getD i 0 = x / B ^ i % B
  | n + 1, x, 0, _ => by simp [pad]
  | n + 1, x, i + 1, h => by
    rw [pad, List.getD_cons_succ, pad_getD B n (x / B) i (by omega), Nat.div_div_eq_div_mul, Nat.pow_succ, Nat.mul_comm]
theorem pad_zero (B : Nat) : ∀ n, pad B n 0 = List.replicate n 0
  | 0 => rfl
  | n + 1 => by rw [pad, Nat.zero_mod, Nat.zero_div, pad_zero B n, List.replicate_succ]
theorem pad_lt {B : Nat} (hB : 0 < B) : ∀ n x, ∀ d ∈ pad B n x, d < B
  | 0, _, d, h => by cases h
  | n + 1, x, d, h => by
    rw [pad, List.mem_cons] at h
    rcases h with rfl | h
    · exact Nat.mod_lt _ hB
    · exact pad_lt hB n _ d h
theorem pad_ext {B n x y : Nat} (h : ∀ i, i < n → x / B ^ i % B = y / B ^ i % B) : pad B n x = pad B n y := by
  refine List.ext_getElem (by simp) fun i h1 h2 => ?_
  have e1 := pad_getD B n x i (by simpa using h1)
  have e2 := pad_getD B n y i (by simpa using h1)
  rw [List.getD_eq_getElem?_getD, List.getElem?_eq_getElem h1, Option.getD_some] at e1
  rw [List.getD_eq_getElem?_getD, List.getElem?_eq_getElem h2, Option.getD_some] at e2
  rw [e1, e2, h i (by simpa using h1)]
/-- A list is the digits of a number if each of its digits is. -/
theorem eq_pad {B n x : Nat} {l : List Nat} (hl : l.length = n) (h : ∀ i, i < n → l.getD i 0 = x / B ^ i % B) : l = pad B n x := by
  refine List.ext_getElem (by simpa using hl) fun i h1 h2 => ?_
  have e2 := pad_getD B n x i (by omega)
  rw [List.getD_eq_getElem?_getD, List.getElem?_eq_getElem h2, Option.getD_some] at e2
  have e1 := h i (by omega)
  rw [List.getD_eq_getElem?_getD, List.getElem?_eq_getElem h1, Option.getD_some] at e1
  rw [e1, e2]
theorem pad_set {B n x y k d : Nat} (hk : k < n) (hd : y / B ^ k % B = d) (h : ∀ i, i < n → i ≠ k → x / B ^ i % B = y / B ^ i % B) : (pad B n x).set k d = pad B n y := by
  refine eq_pad (by simp) fun i hi => ?_
  by_cases e : i = k
  · subst e
    rw [List.getD_eq_getElem?_getD, List.getElem?_set_self (by simpa using hk), Option.getD_some, hd]
  · rw [List.getD_eq_getElem?_getD, List.getElem?_set_ne (by omega), ← List.getD_eq_getElem?_getD, pad_getD B n x i hi, h i hi e]

theorem div_mod_low {B x i k : Nat} (hB : 0 < B) (h : i < k) : (x % B ^ k) / B ^ i % B = x / B ^ i % B := by
  obtain ⟨d, rfl⟩ : ∃ d, k = i + 1 + d := ⟨k - (i + 1), by omega⟩
  have e : B ^ (i + 1 + d) = B ^ i * (B * B ^ d) := by rw [Nat.pow_add, Nat.pow_succ, Nat.mul_assoc]
  rw [e, Nat.mod_mul_right_div_self, Nat.mod_mul_right_mod]
/-- Filling the digit above those that are there. -/
theorem pad_next {B n x k d : Nat} (hB : 0 < B) (hk : k < n) (hx : x < B ^ k) (hd : d < B) : (pad B n x).set k d = pad B n (x + d * B ^ k) := by
  have hp : 0 < B ^ k := Nat.pow_pos hB
  have e0 : (x + d * B ^ k) / B ^ k = d := by rw [Nat.add_mul_div_right _ _ hp, Nat.div_eq_of_lt hx, Nat.zero_add]
  refine pad_set hk (by rw [e0, Nat.mod_eq_of_lt hd]) fun i hi hne => ?_
  by_cases h : i < k
  · rw [← div_mod_low (x := x + d * B ^ k) hB h, Nat.add_mul_mod_self_right, Nat.mod_eq_of_lt hx]
  · have hki : k < i := by omega
    obtain ⟨e, rfl⟩ : ∃ e, i = k + 1 + e := ⟨i - (k + 1), by omega⟩
    have e1 : B ^ (k + 1 + e) = B ^ k * (B * B ^ e) := by rw [Nat.pow_add, Nat.pow_succ, Nat.mul_assoc]
    have e2 : (x + d * B ^ k) / (B ^ k * (B * B ^ e)) = 0 := by rw [← Nat.div_div_eq_div_mul, e0, ← Nat.div_div_eq_div_mul, Nat.div_eq_of_lt hd, Nat.zero_div]
    have e3 : x / (B ^ k * (B * B ^ e)) = 0 := by rw [← Nat.div_div_eq_div_mul, Nat.div_eq_of_lt hx, Nat.zero_div]
    rw [e1, e2, e3]
/-- A digit at a place is set: what it was is taken away. -/
theorem pad_put {B n x k d : Nat} (hB : 0 < B) (hk : k < n) (hd : d < B) : (pad B n x).set k d = pad B n (x % B ^ k + d * B ^ k + x / B ^ (k + 1) * B ^ (k + 1)) := by
  have hp : 0 < B ^ k := Nat.pow_pos hB
  have hm : x % B ^ k < B ^ k := Nat.mod_lt _ hp
  have e : x % B ^ k + d * B ^ k + x / B ^ (k + 1) * B ^ (k + 1) = x % B ^ k + (d + x / B ^ (k + 1) * B) * B ^ k := by
    rw [Nat.add_mul, Nat.pow_succ, Nat.mul_assoc (x / _) B, Nat.mul_comm B, Nat.add_assoc]
  rw [e]
  have e0 : (x % B ^ k + (d + x / B ^ (k + 1) * B) * B ^ k) / B ^ k = d + x / B ^ (k + 1) * B := by rw [Nat.add_mul_div_right _ _ hp, Nat.div_eq_of_lt hm, Nat.zero_add]
  refine pad_set hk (by rw [e0, Nat.add_mul_mod_self_right, Nat.mod_eq_of_lt hd]) fun i hi hne => ?_
  by_cases h : i < k
  · rw [← div_mod_low (x := x % B ^ k + _) hB h, Nat.add_mul_mod_self_right, Nat.mod_mod, div_mod_low hB h]
  · obtain ⟨f, rfl⟩ : ∃ f, i = k + 1 + f := ⟨i - (k + 1), by omega⟩
    have e1 : B ^ (k + 1 + f) = B ^ (k + 1) * B ^ f := by rw [Nat.pow_add]
    have e2 : B ^ (k + 1 + f) = B ^ k * (B * B ^ f) := by rw [Nat.pow_add, Nat.pow_succ, Nat.mul_assoc]
    have e3 : (x % B ^ k + (d + x / B ^ (k + 1) * B) * B ^ k) / B ^ (k + 1 + f) = x / B ^ (k + 1 + f) := by
      rw [e2, ← Nat.div_div_eq_div_mul, e0, ← Nat.div_div_eq_div_mul, Nat.add_mul_div_right _ _ hB, Nat.div_eq_of_lt hd, Nat.zero_add, ← e2, e1, Nat.div_div_eq_div_mul]
    rw [e3]

theorem dg_getD {B : Nat} (hB : 2 ≤ B) : ∀ (i x : Nat), (dg B x).getD i 0 = x / B ^ i % B := by
  intro i
  induction i with
  | zero =>
    intro x
    by_cases h : x = 0
    · subst h; rw [dg_zero]; simp
    · rw [dg_pos hB h]; simp
  | succ i ih =>
    intro x
    by_cases h : x = 0
    · subst h; rw [dg_zero]; simp
    · rw [dg_pos hB h, List.getD_cons_succ, ih, Nat.div_div_eq_div_mul, Nat.pow_succ, Nat.mul_comm]

/-- How many digits a number has. -/
def len (B x : Nat) : Nat := (dg B x).length
theorem len_zero (B : Nat) : len B 0 = 0 := by rw [len, dg_zero]; rfl
theorem len_pos {B x : Nat} (hB : 2 ≤ B) (hx : x ≠ 0) : len B x = len B (x / B) + 1 := by rw [len, dg_pos hB hx]; rfl
theorem len_le {B : Nat} (hB : 2 ≤ B) : ∀ (n x : Nat), len B x ≤ n ↔ x < B ^ n := by
  intro n
  induction n with
  | zero =>
    intro x
    by_cases h : x = 0
    · subst h; rw [len_zero]; simp
    · rw [len_pos hB h]; simp; omega
  | succ n ih =>
    intro x
    by_cases h : x = 0
    · subst h; rw [len_zero]; simp; exact Nat.pow_pos (by omega)
    · rw [len_pos hB h, Nat.add_le_add_iff_right, ih, Nat.div_lt_iff_lt_mul (by omega), Nat.pow_succ]
theorem lt_pow_len {B : Nat} (hB : 2 ≤ B) (x : Nat) : x < B ^ len B x := (len_le hB _ _).1 (Nat.le_refl _)
theorem len_mono {B x y : Nat} (hB : 2 ≤ B) (h : x ≤ y) : len B x ≤ len B y := (len_le hB _ _).2 (Nat.lt_of_le_of_lt h (lt_pow_len hB y))
theorem len_eq_zero {B x : Nat} (hB : 2 ≤ B) : len B x = 0 ↔ x = 0 := by
  constructor
  · intro h
    have := lt_pow_len hB x
    rw [h] at this
    simpa using this
  · rintro rfl; exact len_zero B
theorem pow_le_len {B x : Nat} (hB : 2 ≤ B) (hx : x ≠ 0) : B ^ (len B x - 1) ≤ x := by
  have h : ¬ len B x ≤ len B x - 1 := by
    have : len B x ≠ 0 := fun h => hx ((len_eq_zero hB).1 h)
    omega
  rw [len_le hB] at h
  omega
theorem len_eq {B x n : Nat} (hB : 2 ≤ B) (h1 : x < B ^ (n + 1)) (h2 : B ^ n ≤ x) : len B x = n + 1 := by
  have := (len_le hB (n + 1) x).2 h1
  have h3 : ¬ len B x ≤ n := by rw [len_le hB]; omega
  omega
theorem dg_length (B x : Nat) : (dg B x).length = len B x := rfl
theorem dg_pad {B : Nat} (hB : 2 ≤ B) (x : Nat) : dg B x = pad B (len B x) x := eq_pad rfl fun i _ => dg_getD hB i x
theorem dg_lt {B x : Nat} (hB : 2 ≤ B) : ∀ d ∈ dg B x, d < B := by rw [dg_pad hB]; exact pad_lt (by omega) _ _

/-- Without the zeros at the end. -/
def trm : List Nat → List Nat
  | [] => []
  | d :: ds => if d = 0 ∧ trm ds = [] then [] else d :: trm ds
theorem trm_pad {B : Nat} (hB : 2 ≤ B) : ∀ (n x : Nat), x < B ^ n → trm (pad B n x) = dg B x
  | 0, x, h => by have : x = 0 := by simpa using h
                  subst this; rw [dg_zero]; rfl
  | n + 1, x, h => by
    have ih := trm_pad hB n (x / B) (by rw [Nat.div_lt_iff_lt_mul (by omega)]; rwa [Nat.pow_succ] at h)
    rw [pad, trm, ih]
    by_cases hx : x = 0
    · subst hx; simp [dg_zero]
    · rw [dg_pos hB hx, if_neg]
      rintro ⟨h1, h2⟩
      have h3 : x / B = 0 := (len_eq_zero hB).1 (by rw [len, h2]; rfl)
      have := Nat.div_add_mod x B
      rw [h3, h1] at this
      omega
theorem take_pad (B : Nat) : ∀ (k n x : Nat), k ≤ n → (pad B n x).take k = pad B k x
  | 0, n, x, _ => by simp [pad]
  | k + 1, n + 1, x, h => by rw [pad, pad, List.take_succ_cons, take_pad B k n _ (by omega)]

/-- A number up to a place, one place further. -/
theorem mod_next (B x k : Nat) : x % B ^ (k + 1) = x % B ^ k + x / B ^ k % B * B ^ k := by
  rw [Nat.pow_succ, Nat.mod_mul, Nat.mul_comm (B ^ k)]
theorem div_next {B : Nat} (x k : Nat) : x / B ^ k = x / B ^ (k + 1) * B + x / B ^ k % B := by
  rw [Nat.pow_succ, ← Nat.div_div_eq_div_mul]
  have := Nat.div_add_mod (x / B ^ k) B
  rw [Nat.mul_comm] at this
  omega
end Nm
end Go.Proofs.Ytddfphneidcibaa
