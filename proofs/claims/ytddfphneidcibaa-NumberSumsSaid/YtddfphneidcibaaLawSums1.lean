/-
  THE LAW NumberSums.
-/
import Derived.Test.YtddfphneidcibaaR15
import Derived.Test.YtddfphneidcibaaGateS
namespace Go.Proofs.Ytddfphneidcibaa
open Go.RowKit
open Nm (W32)
namespace Sx
theorem numberSums_con (s : Bool) (b : List Nat) (hb : ∀ d ∈ b, d < 256) (t : Bool) (c : List Nat) (hc : ∀ d ∈ c, d < 256) : Con Try.prog 9 [rintD s b, rintD t c] (boolD true) := by
  cases hB : anyB [(s, b), (t, c)]
  · cases hv : vld s b && vld t c
    · exact sums_bad hB hv
    · rw [Bool.and_eq_true] at hv
      obtain ⟨x, hx, rfl, rfl⟩ := vld_out hb hv.1
      obtain ⟨y, hy, rfl, rfl⟩ := vld_out hc hv.2
      exact sums_valid hx hy
  · exact sums_big hB
end Sx
end Go.Proofs.Ytddfphneidcibaa
