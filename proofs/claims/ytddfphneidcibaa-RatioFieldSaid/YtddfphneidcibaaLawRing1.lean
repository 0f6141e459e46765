/-
  THE LAW NumberRing.
-/
import Derived.Test.YtddfphneidcibaaLawDivides1
import Derived.Test.YtddfphneidcibaaGP
namespace Go.Proofs.Ytddfphneidcibaa
open Go.RowKit
open Nm (W32)
namespace Sx
section
variable {x y : Int}
theorem con_addE (hx : x.natAbs < big512) (hy : y.natAbs < big512) (h : (x + y).natAbs < big512) : Con Try.prog 44 [intD x, intD y] (tupD [intD (x + y), errD 0]) := by
  have h1 := con_add hx hy
  rw [(lim_ok h).1, (lim_ok h).2] at h1
  exact h1
theorem con_signOf {r : Int} (hx : x.natAbs < big512) (h : x.sign = r) : Con Try.prog 41 [intD x] (errD r) := (con_sign hx).mono ⟨Le.refl _, trivial⟩ (le_err h)
/-- Quotient times divisor plus remainder. -/
theorem dq_dr (x : Int) (hy : y ≠ 0) : dq x y * y + dr x y = x := by
  have e := Nat.div_add_mod x.natAbs y.natAbs
  have hr : x.natAbs % y.natAbs < y.natAbs := Nat.mod_lt _ (by omega)
  unfold dq dr dqN drN up sgn
  generalize x.natAbs / y.natAbs = Q at *
  generalize x.natAbs % y.natAbs = R at *
  have eI : (y.natAbs : Int) * (Q : Int) + (R : Int) = (x.natAbs : Int) := by rw [← e]; simp
  by_cases hx : x < 0
  · by_cases hy' : y < 0
    · have e1 : (y.natAbs : Int) = -y := by omega
      rw [e1, Int.neg_mul] at eI
      simp only [hx, hy', decide_true, bne_self_eq_false, Bool.false_and, Bool.false_eq_true, if_false, if_true]
      rw [Int.mul_comm]
      omega
    · have e1 : (y.natAbs : Int) = y := by omega
      rw [e1] at eI
      simp only [hx, hy', decide_true, decide_false, Bool.true_bne, Bool.not_false, Bool.true_and, decide_eq_true_eq, if_true, if_false, Bool.false_eq_true]
      by_cases h0 : 0 < R
      · simp only [if_pos h0]
        have : (-((Q + 1 : Nat) : Int)) * y = -(y * Q) - y := by rw [Int.neg_mul, Int.natCast_add, Int.add_mul, Int.mul_comm]; omega
        rw [this]
        omega
      · simp only [if_neg h0]
        have : (-((Q : Nat) : Int)) * y = -(y * Q) := by rw [Int.neg_mul, Int.mul_comm]
        rw [this]
        omega
  · by_cases hy' : y < 0
    · have e1 : (y.natAbs : Int) = -y := by omega
      rw [e1, Int.neg_mul] at eI
      simp only [hx, hy', decide_true, decide_false, Bool.false_bne, Bool.true_and, decide_eq_true_eq, if_true]
      by_cases h0 : 0 < R
      · simp only [if_pos h0]
        have : (-((Q + 1 : Nat) : Int)) * y = -(y * Q) - y := by rw [Int.neg_mul, Int.natCast_add, Int.add_mul, Int.mul_comm]; omega
        rw [this]
        omega
      · simp only [if_neg h0]
        have : (-((Q : Nat) : Int)) * y = -(y * Q) := by rw [Int.neg_mul, Int.mul_comm]
        rw [this]
        omega
    · have e1 : (y.natAbs : Int) = y := by omega
      rw [e1] at eI
      simp only [hx, hy', decide_false, bne_self_eq_false, Bool.false_and, Bool.false_eq_true, if_false]
      rw [Int.mul_comm]
      omega
theorem dq_abs (hy : y ≠ 0) : (dq x y).natAbs ≤ x.natAbs := by unfold dq; rw [sgn_abs]; exact dqN_le hy
theorem dr_abs (hy : y ≠ 0) : (dr x y).natAbs < y.natAbs := by unfold dr; rw [sgn_abs]; exact drN_lt hy
theorem dr_dvd (h : x.natAbs % y.natAbs = 0) : dr x y = 0 := by
  unfold dr drN up sgn
  rw [h]
  simp
theorem gcd_abs : (gcdZ x y).natAbs = Nat.gcd x.natAbs y.natAbs := by unfold gcdZ; simp
theorem gcd_le (hy : y ≠ 0) : (gcdZ x y).natAbs ≤ y.natAbs := by rw [gcd_abs]; exact Nat.gcd_le_right _ (by omega)
end
end Sx
end Go.Proofs.Ytddfphneidcibaa
