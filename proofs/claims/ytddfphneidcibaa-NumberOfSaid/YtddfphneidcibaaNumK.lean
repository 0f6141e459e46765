/-
  LONG DIVISION in plain Lean: the guess of a quotient's digit, and what it leaves.
-/
import Derived.Test.YtddfphneidcibaaNumR
namespace Go.Proofs.Ytddfphneidcibaa
namespace Nm

/-- What is known of a guess q with its rest r: top = q * h + r, and it is not too small. -/
structure Gs (B U V n h v2 q r : Nat) : Prop where
  top : U / B ^ (n + 1) = q * h + r
  ge : U / V ≤ q

section
variable {B U V n h v2 : Nat} (hB : 2 ≤ B) (hV : V = V / B ^ n * B ^ n + V % B ^ n) (hh : h = V / B ^ (n + 1)) (hn : V < B ^ (n + 2)) (h2 : V / B ^ n = h * B + v2) (hv2 : v2 < B) (hU : U < V * B) (hbig : B ≤ 2 * h)
include hB hh hbig hn

theorem gs_pos : 0 < V ∧ 0 < h ∧ h < B := by
  have hh0 : 0 < h := by omega
  refine ⟨?_, hh0, ?_⟩
  · apply Nat.pos_of_ne_zero
    intro e
    rw [e, Nat.zero_div] at hh
    omega
  · rw [hh]
    refine Nat.div_lt_of_lt_mul ?_
    rw [← Nat.pow_succ]
    exact hn
theorem gs_start : Gs B U V n h v2 (U / B ^ (n + 1) / h) (U / B ^ (n + 1) % h) := by
  obtain ⟨hV0, hh0, _⟩ := gs_pos hB hh hn hbig
  refine ⟨?_, ?_⟩
  · have := Nat.div_add_mod (U / B ^ (n + 1)) h
    rw [Nat.mul_comm] at this
    exact this.symm
  · rw [Nat.le_div_iff_mul_le hh0, Nat.le_div_iff_mul_le (Nat.pow_pos (by omega))]
    have h1 : h * B ^ (n + 1) ≤ V := by rw [hh]; exact Nat.div_mul_le_self _ _
    calc U / V * h * B ^ (n + 1) = U / V * (h * B ^ (n + 1)) := Nat.mul_assoc _ _ _
      _ ≤ U / V * V := Nat.mul_le_mul_left _ h1
      _ ≤ U := Nat.div_mul_le_self _ _
omit hn hbig in
include hU in
theorem gs_top : U / B ^ (n + 1) < (h + 1) * B := by
  refine Nat.div_lt_of_lt_mul ?_
  have h1 : V < (h + 1) * B ^ (n + 1) := by
    rw [hh]
    have := Nat.div_add_mod V (B ^ (n + 1))
    have h3 := Nat.mod_lt V (show 0 < B ^ (n + 1) from Nat.pow_pos (by omega))
    rw [Nat.add_mul, Nat.one_mul, Nat.mul_comm]
    omega
  have h2 := Nat.mul_lt_mul_of_pos_right h1 (show 0 < B by omega)
  rw [Nat.mul_comm (B ^ (n + 1)), Nat.mul_right_comm]
  omega
theorem gs_first (hU : U < V * B) {q r : Nat} (g : Gs B U V n h v2 q r) : q ≤ B + 1 := by
  obtain ⟨hV0, hh0, hhB⟩ := gs_pos hB hh hn hbig
  have ht := gs_top hB hh hU
  rw [g.top] at ht
  apply Nat.le_of_lt_succ
  apply Nat.lt_of_not_le
  intro hle
  have h1 : (B + 2) * h ≤ q * h := Nat.mul_le_mul_right _ hle
  rw [Nat.add_mul] at h1 ht
  rw [Nat.mul_comm B h] at h1
  omega
/-- The next guess. -/
theorem gs_next (hU : U < V * B) (h2 : V / B ^ n = h * B + v2) {q r u2 : Nat} (g : Gs B U V n h v2 q r) (hu2 : u2 = U / B ^ n % B) (hc : B ≤ q ∨ r * B + u2 < q * v2) : 0 < q ∧ Gs B U V n h v2 (q - 1) (r + h) := by
  obtain ⟨hV0, hh0, hhB⟩ := gs_pos hB hh hn hbig
  have hlt : U / V < q := by
    rcases hc with hc | hc
    · exact Nat.lt_of_lt_of_le (Nat.div_lt_of_lt_mul hU) hc
    · rw [Nat.div_lt_iff_lt_mul hV0]
      have e1 : U / B ^ n = U / B ^ (n + 1) * B + u2 := by rw [hu2]; exact div_next U n
      have e2 : U / B ^ n < q * (V / B ^ n) := by
        rw [e1, g.top, h2, Nat.mul_add, Nat.add_mul, ← Nat.mul_assoc]
        omega
      have h3 := Nat.div_add_mod U (B ^ n)
      have h4 := Nat.mod_lt U (show 0 < B ^ n from Nat.pow_pos (by omega))
      have h5 : B ^ n * (U / B ^ n + 1) ≤ B ^ n * (q * (V / B ^ n)) := Nat.mul_le_mul_left _ e2
      have h6 : B ^ n * (q * (V / B ^ n)) ≤ q * V := by
        rw [← Nat.mul_assoc, Nat.mul_comm (B ^ n) q, Nat.mul_assoc]
        exact Nat.mul_le_mul_left _ (Nat.mul_div_le _ _)
      rw [Nat.mul_add, Nat.mul_one] at h5
      omega
  have hq : 0 < q := Nat.lt_of_le_of_lt (Nat.zero_le _) hlt
  refine ⟨hq, ⟨?_, Nat.le_sub_one_of_lt hlt⟩⟩
  rw [g.top]
  obtain ⟨p, rfl⟩ : ∃ p, q = p + 1 := ⟨q - 1, by omega⟩
  rw [Nat.add_sub_cancel, Nat.add_mul]
  omega
/-- The guess when the test is over: at most one too great. -/
theorem gs_end (hU : U < V * B) (h2 : V / B ^ n = h * B + v2) (hv2 : v2 < B) {q r u2 : Nat} (g : Gs B U V n h v2 q r) (hu2 : u2 = U / B ^ n % B) (hc : (q < B ∧ q * v2 ≤ r * B + u2) ∨ B ≤ r) : q < B ∧ (q = U / V ∨ q = U / V + 1) := by
  obtain ⟨hV0, hh0, hhB⟩ := gs_pos hB hh hn hbig
  have ht := gs_top hB hh hU
  rw [g.top, Nat.add_mul, Nat.one_mul] at ht
  have hqB : q < B := by
    rcases hc with hc | hc
    · exact hc.1
    · apply Nat.lt_of_not_le
      intro hle
      have : B * h ≤ q * h := Nat.mul_le_mul_right _ hle
      rw [Nat.mul_comm B h] at this
      omega
  have hle : q * v2 ≤ r * B + u2 := by
    rcases hc with hc | hc
    · exact hc.2
    · have h3 : q * v2 ≤ B * B := Nat.mul_le_mul (Nat.le_of_lt hqB) (Nat.le_of_lt hv2)
      have h4 : B * B ≤ r * B := Nat.mul_le_mul_right _ hc
      omega
  refine ⟨hqB, ?_⟩
  have e1 : U / B ^ n = U / B ^ (n + 1) * B + u2 := by rw [hu2]; exact div_next U n
  have e2 : q * (V / B ^ n) ≤ U / B ^ n := by
    rw [e1, g.top, h2, Nat.mul_add, Nat.add_mul, ← Nat.mul_assoc]
    omega
  have h3 := Nat.div_add_mod V (B ^ n)
  have h4 := Nat.mod_lt V (show 0 < B ^ n from Nat.pow_pos (by omega))
  have h5 : q * V ≤ U + q * (V % B ^ n) := by
    have : q * V = B ^ n * (q * (V / B ^ n)) + q * (V % B ^ n) := by
      rw [← Nat.mul_assoc, Nat.mul_comm (B ^ n) q, Nat.mul_assoc, ← Nat.mul_add, h3]
    rw [this]
    have h6 : B ^ n * (q * (V / B ^ n)) ≤ U := Nat.le_trans (Nat.mul_le_mul_left _ e2) (Nat.mul_div_le _ _)
    omega
  have h7 : q * (V % B ^ n) < V := by
    have h8 : q * (V % B ^ n) ≤ B * (V % B ^ n) := Nat.mul_le_mul_right _ (Nat.le_of_lt hqB)
    have h9 : B * (V % B ^ n) < B * B ^ n := Nat.mul_lt_mul_of_pos_left h4 (by omega)
    have h10 : B ^ (n + 1) ≤ V := by
      have : 1 * B ^ (n + 1) ≤ h * B ^ (n + 1) := Nat.mul_le_mul_right _ hh0
      rw [Nat.one_mul] at this
      exact Nat.le_trans this (by rw [hh]; exact Nat.div_mul_le_self _ _)
    rw [Nat.pow_succ, Nat.mul_comm] at h10
    omega
  have hge := g.ge
  have hup : q - 1 ≤ U / V := by
    rw [Nat.le_div_iff_mul_le hV0, Nat.sub_mul, Nat.one_mul]
    omega
  omega
end

/-- The words of u while q * V is taken away from it: those below a place are done. -/
def sA (B U Z i : Nat) : Nat := df B U Z i + U / B ^ i * B ^ i
theorem sA_zero (B U Z : Nat) : sA B U Z 0 = U := by simp [sA, df_zero]
theorem sA_at {B : Nat} (hB : 0 < B) (U Z i : Nat) : sA B U Z i / B ^ i % B = U / B ^ i % B := by
  rw [sA, Nat.add_mul_div_right _ _ (Nat.pow_pos hB), Nat.div_eq_of_lt (df_lt hB U Z i).1, Nat.zero_add]
theorem sA_fill {B n : Nat} (hB : 0 < B) (U Z i : Nat) (hi : i < n) (d : Nat) (hd : d = U / B ^ i % B + bw B U Z (i + 1) * B - Z / B ^ i % B - bw B U Z i) :
    (pad B n (sA B U Z i)).set i d = pad B n (sA B U Z (i + 1)) := by
  obtain ⟨-, h2, h3⟩ := df_step hB U Z i
  have hp : 0 < B ^ i := Nat.pow_pos hB
  rw [pad_put hB hi (by rw [hd]; exact h3)]
  congr 1
  have e1 : sA B U Z i % B ^ i = df B U Z i := by rw [sA, Nat.add_mul_mod_self_right, Nat.mod_eq_of_lt (df_lt hB U Z i).1]
  have e2 : sA B U Z i / B ^ (i + 1) = U / B ^ (i + 1) := by
    rw [Nat.pow_succ, ← Nat.div_div_eq_div_mul, sA, Nat.add_mul_div_right _ _ hp, Nat.div_eq_of_lt (df_lt hB U Z i).1, Nat.zero_add, Nat.div_div_eq_div_mul]
  rw [e1, e2, sA, h2, hd]
theorem sA_all {B U Z i : Nat} (hU : U < B ^ i) : sA B U Z i = df B U Z i := by rw [sA, Nat.div_eq_of_lt hU, Nat.zero_mul, Nat.add_zero]
theorem df_full {B U Z i : Nat} (hU : U < B ^ i) (hZ : Z < B ^ i) : df B U Z i = (if U < Z then U + B ^ i - Z else U - Z) ∧ bw B U Z i = (if U < Z then 1 else 0) := by
  unfold df bw
  rw [Nat.mod_eq_of_lt hU, Nat.mod_eq_of_lt hZ]
  constructor
  · split
    · rw [Nat.one_mul]
    · rw [Nat.zero_mul, Nat.add_zero]
  · rfl
/-- A product's digit and its carry. -/
theorem pr_step {B : Nat} (hB : 0 < B) (q V i : Nat) :
    q * (V % B ^ (i + 1)) / B ^ (i + 1) = (q * (V % B ^ i) / B ^ i + q * (V / B ^ i % B)) / B ∧ q * V / B ^ i % B = (q * (V % B ^ i) / B ^ i + q * (V / B ^ i % B)) % B := by
  have hp : 0 < B ^ i := Nat.pow_pos hB
  have e : q * (V % B ^ (i + 1)) = q * (V % B ^ i) + q * (V / B ^ i % B) * B ^ i := by rw [mod_next, Nat.mul_add, Nat.mul_assoc]
  have c := carry_step (B ^ i) B (q * (V % B ^ i)) (q * (V / B ^ i % B)) hp
  constructor
  · rw [e, Nat.pow_succ]; exact c.1
  · have e1 : q * V / B ^ i % B = q * (V % B ^ (i + 1)) / B ^ i % B := by
      rw [← div_mod_low (x := q * V) hB (show i < i + 1 by omega), ← div_mod_low (x := q * (V % B ^ (i + 1))) hB (show i < i + 1 by omega)]
      rw [Nat.mul_mod_mod]
    rw [e1, e, Nat.add_mul_div_right _ _ hp]
theorem pr_carry {B q : Nat} (hB : 0 < B) (hq : q < B) (V i : Nat) : q * (V % B ^ i) / B ^ i < B := by
  refine Nat.div_lt_of_lt_mul ?_
  have h1 := Nat.mod_lt V (show 0 < B ^ i from Nat.pow_pos hB)
  rw [Nat.mul_comm q]
  by_cases h0 : q = 0
  · subst h0; rw [Nat.mul_zero]; exact Nat.mul_pos (Nat.pow_pos hB) hB
  · exact Nat.mul_lt_mul'' h1 hq
/-- The words of u while V is added back. -/
def aA (B R V i : Nat) : Nat := sm B R V i % B ^ i + R / B ^ i * B ^ i
theorem aA_zero (B R V : Nat) : aA B R V 0 = R := by simp [aA, Nat.mod_one]
theorem aA_at {B : Nat} (hB : 0 < B) (R V i : Nat) : aA B R V i / B ^ i % B = R / B ^ i % B := by
  have hp : 0 < B ^ i := Nat.pow_pos hB
  rw [aA, Nat.add_mul_div_right _ _ hp, Nat.div_eq_of_lt (Nat.mod_lt _ hp), Nat.zero_add]
theorem aA_fill {B n : Nat} (hB : 0 < B) (R V i : Nat) (hi : i < n) (d : Nat) (hd : d = (sm B R V i / B ^ i + (R / B ^ i % B + V / B ^ i % B)) % B) :
    (pad B n (aA B R V i)).set i d = pad B n (aA B R V (i + 1)) := by
  have hp : 0 < B ^ i := Nat.pow_pos hB
  rw [pad_put hB hi (by rw [hd]; exact Nat.mod_lt _ hB)]
  congr 1
  have e1 : aA B R V i % B ^ i = sm B R V i % B ^ i := by rw [aA, Nat.add_mul_mod_self_right, Nat.mod_mod]
  have e2 : aA B R V i / B ^ (i + 1) = R / B ^ (i + 1) := by
    rw [Nat.pow_succ, ← Nat.div_div_eq_div_mul, aA, Nat.add_mul_div_right _ _ hp, Nat.div_eq_of_lt (Nat.mod_lt _ hp), Nat.zero_add, Nat.div_div_eq_div_mul]
  rw [e1, e2, aA, (sm_step hB R V i).2, hd]
/-- The last word, with the carry: what is left. -/
theorem aA_last {B n R V : Nat} (hB : 2 ≤ B) (hR : R < B ^ (n + 1)) (hV : V < B ^ n) :
    (pad B (n + 1) (aA B R V n)).set n ((R / B ^ n % B + sm B R V n / B ^ n) % B) = pad B (n + 1) ((R + V) % B ^ (n + 1)) := by
  have hB0 : 0 < B := by omega
  have hd : (R / B ^ n % B + sm B R V n / B ^ n) % B = (sm B R V n / B ^ n + (R / B ^ n % B + V / B ^ n % B)) % B := by
    rw [Nat.div_eq_of_lt hV, Nat.zero_mod, Nat.add_zero, Nat.add_comm]
  rw [aA_fill hB0 R V n (by omega) _ hd]
  congr 1
  rw [aA, Nat.div_eq_of_lt hR, Nat.zero_mul, Nat.add_zero, sm, Nat.mod_eq_of_lt hR, Nat.mod_eq_of_lt (Nat.lt_trans hV (Nat.pow_lt_pow_right hB (by omega)))]
/-- What the whole step leaves. -/
theorem kn_end {B n U V q : Nat} (hB : 2 ≤ B) (hV0 : 0 < V) (hV : V < B ^ n) (hU : U < V * B) (hq : q = U / V ∨ q = U / V + 1) :
    (¬ U < q * V → q = U / V ∧ U - q * V = U % V) ∧ (U < q * V → q - 1 = U / V ∧ (U + B ^ (n + 1) - q * V + V) % B ^ (n + 1) = U % V) := by
  have h1 := Nat.div_add_mod U V
  have h2 := Nat.mod_lt U hV0
  have h3 : U / V * V ≤ U := Nat.div_mul_le_self _ _
  rw [Nat.mul_comm] at h1
  have hlt : V < B ^ (n + 1) := Nat.lt_trans hV (Nat.pow_lt_pow_right hB (by omega))
  rcases hq with rfl | rfl
  · exact ⟨fun _ => ⟨rfl, by omega⟩, fun h => absurd h (Nat.not_lt.2 h3)⟩
  · rw [Nat.add_mul, Nat.one_mul]
    refine ⟨fun h => absurd (show U < U / V * V + V by omega) h, fun _ => ⟨Nat.add_sub_cancel _ _, ?_⟩⟩
    have e : U + B ^ (n + 1) - (U / V * V + V) + V = U % V + B ^ (n + 1) := by omega
    rw [e, Nat.add_mod_right, Nat.mod_eq_of_lt (by omega)]
end Nm
end Go.Proofs.Ytddfphneidcibaa
