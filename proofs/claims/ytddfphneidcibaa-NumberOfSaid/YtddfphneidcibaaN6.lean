/-
  THE WALKS of number's size, natOf, digits.
-/
import Derived.Test.YtddfphneidcibaaN5
import Derived.Test.YtddfphneidcibaaLibB
namespace Go.Proofs.Ytddfphneidcibaa
open Go.RowKit
open Nm (W32)

theorem bitLen_len : ∀ (f x : Nat), x < 2 ^ f → f ≤ 64 → Lib.bitLen x = Nm.len 2 x
  | 0, x, h, _ => by
    have : x = 0 := by simpa using h
    subst this
    rw [Nm.len_zero]
    rfl
  | f + 1, x, h, hf => by
    by_cases h0 : x = 0
    · subst h0; rw [Nm.len_zero]; rfl
    · rw [Lib.bitLen_half x h0 (Nat.lt_of_lt_of_le h (Nat.pow_le_pow_right (by decide) hf)), Nm.len_pos (by decide) h0, bitLen_len f (x / 2) (by rw [Nat.pow_succ] at h; omega) (by omega), Nat.add_comm]

theorem len32_at (w : World) (x b : Nat) (h : x < 4294967296) (hb : Lib.bitLen x = b) : Calls Try.prog 110 #[.int .u32 (x : Int)] w fun e w' => e = .returned (.int .i64 (b : Int)) ∧ w = w' := by
  refine (bits_Len32 (x : Int) w (by omega) (by omega)).mono ?_
  rintro e w' ⟨rfl, rfl⟩
  rw [Int.toNat_natCast, hb]
  exact ⟨rfl, rfl⟩

set_option maxHeartbeats 4000000 in
set_option maxRecDepth 100000 in
theorem size_any (w : World) (A : Option Addr) (n c X : Nat) (hn : n ≤ 999999) (hA : NatS w A n c X) :
    Calls Try.prog 86 #[.slice A n c] w fun e w' => ∃ s : Nat, e = .returned (.int .i64 (s : Int)) ∧ Hid (s = Nm.len 2 X) ∧ s ≤ 32 * n ∧ w = w' := by
  rcases (show n = 0 ∨ ∃ j, n = j + 1 from by cases n; exact .inl rfl; exact .inr ⟨_, rfl⟩) with rfl | ⟨j, rfl⟩
  · have hX : X = 0 := (Nm.len_eq_zero (B := W32) (by decide)).1 hA.n_eq.symm
    subst hX
    go_enter Try.func86, Try.ntmps86
    go_wp2
    go_ret
    exact ⟨0, rfl, by unfold Hid; rw [Nm.len_zero], by omega, rfl⟩
  · obtain ⟨ga, oa, hAe, hga, hca⟩ := hA.at (by omega)
    have c1 := hca j (by omega)
    have hX0 : X ≠ 0 := by rintro rfl; have := hA.n_eq; rw [Nm.len_zero] at this; omega
    have hb := Nm.bits_top hX0
    rw [← hA.n_eq, Nat.add_sub_cancel] at hb
    have hx : X / W32 ^ j % W32 = X / W32 ^ j := Nm.top_word hA.lt
    rw [hx] at c1
    have hxl : X / W32 ^ j < 4294967296 := by rw [← hx]; exact Nat.mod_lt _ (by decide)
    obtain ⟨x, Hx⟩ : ∃ x, Hid (x = X / W32 ^ j) := ⟨_, rfl⟩
    rw [← Hx.out] at c1 hb hxl
    have e2 := bitLen_len 32 x hxl (by decide)
    have hbl : Nm.len 2 x ≤ 32 := (Nm.len_le (by decide) 32 x).2 hxl
    obtain ⟨b, Hb⟩ : ∃ b, Hid (b = Nm.len 2 x) := ⟨_, rfl⟩
    rw [← Hb.out] at hb hbl e2
    have hblI : (b : Int) ≤ 32 := by omega
    have hlen := len32_at w x b hxl e2
    have Hlen := Lib.hid hlen
    have Hhb := Lib.hid hb
    have hjm : (j : Int) ≤ 1000000 := by omega
    have hj1 : (j : Int) + 1 ≠ 0 := by omega
    have hj2 : ((j : Int) + 1 == 0) = false := beq_eq_false_iff_ne.2 hj1
    subst hAe
    clear hb e2 hlen hca hx
    go_enter Try.func86, Try.ntmps86
    go_wp2_with (go_at_call 110; refine Hlen.out.mono ?_; rintro e w' ⟨rfl, rfl⟩)
    go_ret
    refine ⟨32 * j + b, by go_num, Hhb.out.symm, by omega, rfl⟩
end Go.Proofs.Ytddfphneidcibaa
