/-
  THE LAW NumberTexts.
-/
import Derived.Test.YtddfphneidcibaaGN
import Derived.Test.YtddfphneidcibaaGateS
namespace Go.Proofs.Ytddfphneidcibaa
open Go.RowKit
open Nm (W32)
namespace Sx
theorem decV_ds10 : ∀ (n X : Nat), X ≤ n → decV (ds10 X) = X
  | 0, X, h => by
    obtain rfl : X = 0 := by omega
    rw [ds10_zero]; rfl
  | n + 1, X, h => by
    by_cases h0 : X = 0
    · subst h0; rw [ds10_zero]; rfl
    · rw [ds10_step h0, decV_snoc, decV_ds10 n (X / 10) (by omega)]
      have h1 : (UInt8.ofNat (48 + X % 10)).toNat = 48 + X % 10 := by
        simp
        omega
      rw [h1]
      omega
theorem ds10_dig : ∀ (n X : Nat), X ≤ n → ∀ c ∈ ds10 X, 48 ≤ c.toNat ∧ c.toNat ≤ 57
  | 0, X, h => by
    obtain rfl : X = 0 := by omega
    rw [ds10_zero]; simp
  | n + 1, X, h => by
    by_cases h0 : X = 0
    · subst h0; rw [ds10_zero]; simp
    · rw [ds10_step h0]
      intro c hc
      rcases List.mem_append.1 hc with hc | hc
      · exact ds10_dig n (X / 10) (by omega) c hc
      · have hc : c = UInt8.ofNat (48 + X % 10) := List.mem_singleton.1 hc
        subst hc
        have h1 : (UInt8.ofNat (48 + X % 10)).toNat = 48 + X % 10 := by
          simp
          omega
        omega
theorem ds10_lead : ∀ (n X : Nat), X ≤ n → X ≠ 0 → ∃ c t, ds10 X = c :: t ∧ c.toNat ≠ 48
  | 0, X, h, h0 => absurd (by omega) h0
  | n + 1, X, h, h0 => by
    rw [ds10_step h0]
    by_cases h1 : X / 10 = 0
    · rw [h1, ds10_zero]
      refine ⟨_, [], rfl, ?_⟩
      have h2 : (UInt8.ofNat (48 + X % 10)).toNat = 48 + X % 10 := by
        simp
        omega
      omega
    · obtain ⟨c, t, e, hc⟩ := ds10_lead n (X / 10) (by omega) h1
      exact ⟨c, t ++ [UInt8.ofNat (48 + X % 10)], by rw [e]; rfl, hc⟩
theorem isDec_ds10 {X : Nat} (h0 : X ≠ 0) : isDec (ds10 X) = true := by
  obtain ⟨c, t, e, hc⟩ := ds10_lead X X (Nat.le_refl _) h0
  rw [isDec_all (by rw [e]; simp) (by rw [e]; simp; intro h; exact absurd h hc)]
  rw [List.all_eq_true]
  intro d hd
  have := ds10_dig X X (Nat.le_refl _) d hd
  simp [this]
def absT (x : Int) : List UInt8 := if x = 0 then [48] else ds10 x.natAbs
theorem txt_cut (x : Int) : Cut (txt x) (absT x) (decide (x < 0)) := by
  rw [txt_of]
  unfold absT
  by_cases h : x < 0
  · left
    rw [decide_eq_true h, if_pos h]
    exact ⟨rfl, rfl⟩
  · right
    rw [decide_eq_false h, if_neg h]
    refine ⟨rfl, rfl, fun t ht => ?_⟩
    split at ht
    · injection ht with ht; exact absurd ht (by decide)
    · rename_i h0
      have := ds10_dig x.natAbs x.natAbs (Nat.le_refl _) 45 (by rw [ht]; simp)
      simp at this
theorem absT_dec (x : Int) : isDec (absT x) = true := by
  unfold absT
  split
  · decide
  · rename_i h; exact isDec_ds10 (by omega)
theorem absT_val (x : Int) : decV (absT x) = x.natAbs := by
  unfold absT
  split
  · rename_i h; subst h; decide
  · exact decV_ds10 _ _ (Nat.le_refl _)
theorem absT_neg (x : Int) : ¬ (decide (x < 0) = true ∧ absT x = [48]) := by
  rintro ⟨h, h1⟩
  have hx := of_decide_eq_true h
  have := absT_val x
  rw [h1] at this
  have h2 : decV [48] = 0 := by decide
  omega
theorem absT_len {x : Int} (hx : x.natAbs < big512) : (absT x).length ≤ 155 := by
  unfold absT
  split
  · decide
  · rw [ds10_length]
    exact (Nm.len_le (B := 10) (by decide) 155 _).2 (Nat.lt_of_lt_of_le hx (by unfold big512; decide +kernel))
theorem txt_len (x : Int) : (txt x).length = (if x < 0 then 1 else 0) + (absT x).length := by
  rw [txt_of]
  unfold absT
  by_cases h : x < 0 <;> simp [h] <;> omega
end Sx
end Go.Proofs.Ytddfphneidcibaa
