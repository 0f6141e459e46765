/-
  THE WALKS of number's addSigned, Add, Sub, Mul.
-/
import Derived.Test.YtddfphneidcibaaI2
namespace Go.Proofs.Ytddfphneidcibaa
open Go.RowKit
open Nm (W32)

theorem NatS.n_le {w : World} {A : Option Addr} {n c X k : Nat} (h : NatS w A n c X) (hX : X < W32 ^ k) : n ≤ k := by
  rw [h.n_eq]
  exact (Nm.len_le (B := W32) (by decide) _ _).2 hX
theorem sgn_add_same (s : Bool) (X Y : Nat) : sgn s (X + Y) = sgn s X + sgn s Y := by
  unfold sgn
  cases s <;> simp <;> omega
theorem sgn_add_ge {s t : Bool} (h : s ≠ t) {X Y : Nat} (hXY : Y ≤ X) : sgn s (X - Y) = sgn s X + sgn t Y := by
  unfold sgn
  cases s <;> cases t <;> simp at h ⊢ <;> omega
theorem sgn_add_lt {s t : Bool} (h : s ≠ t) {X Y : Nat} (hXY : X ≤ Y) : sgn t (Y - X) = sgn s X + sgn t Y := by
  unfold sgn
  cases s <;> cases t <;> simp at h ⊢ <;> omega
theorem w32_sum {X Y k : Nat} (hX : X < W32 ^ k) (hY : Y < W32 ^ k) : X + Y < W32 ^ (k + 1) := by
  rw [Nat.pow_succ]
  have : W32 ^ k * 2 ≤ W32 ^ k * W32 := Nat.mul_le_mul_left _ (by decide)
  omega

set_option maxHeartbeats 4000000 in
set_option maxRecDepth 100000 in
theorem addSigned_any (w : World) (s t : Bool) (A B : Option Addr) (n c m d X Y : Nat) (hX : X < W32 ^ 100) (hY : Y < W32 ^ 100) (hA : NatS w A n c X) (hB : NatS w B m d Y) :
    Calls Try.prog 102 #[.bool s, .slice A n c, .bool t, .slice B m d] w (RI w (limZ (sgn s X + sgn t Y)) (limE (sgn s X + sgn t Y))) := by
  have hn := hA.n_le hX
  have hm := hB.n_le hY
  have hO0 : Only [] w (w.alloc (.cells #[.bool false, .slice none 0 0] 24)) := (Only.refl [] w).alloc _
  have hA0 := hA.keep hO0
  have hB0 := hB.keep hO0
  have HX := Lib.hid hX
  have HY := Lib.hid hY
  clear hX hY
  by_cases hst : s = t
  · subst hst
    rw [← sgn_add_same]
    have hbs : (s == s) = true := by simp
    generalize hz : limZ (sgn s (X + Y)) = z
    generalize he : limE (sgn s (X + Y)) = er
    have Hz := Lib.hid hz
    have He := Lib.hid he
    clear hz he
    go_enter Try.func102, Try.ntmps102
    go_wp2_with (first
      | (go_at_call 93
         refine (addNat_any _ A B n c m d X Y (by omega) (by omega) hA0 hB0).mono ?_
         rintro e w1 ⟨A1, n1, c1, rfl, hN1, hO1⟩)
      | (go_at_call 82
         have hb := build_any w1 s A1 n1 c1 (X + Y) (Nat.le_trans (hN1.n_le (w32_sum HX.out HY.out)) (by decide)) hN1
         rw [Hz.out, He.out] at hb
         refine hb.mono ?_
         rintro e w2 ⟨s2, A2, n2, c2, rfl, hI, hF, hO2⟩
         have hBr := (Blk.int0 w).keep (hO1.trans' hO2) (by simp)
         obtain ⟨k0, k1, f0, f1⟩ := hBr.two))
    exact bodyPost_ret (results_row_tmp rfl _ _ (w.heap.size) 24 [_, _] _ rfl (hBr.put2 _ _) Try.underlying24 rfl isz) rfl (RI.of rfl hI hF (Nat.lt_of_lt_of_le (by simp) hO1.size) (Nat.le_refl _) ((hO0.trans' hO1).trans' hO2) (only_put2 _ _ _ _))
  · have hbs : (s == t) = false := beq_eq_false_iff_ne.2 hst
    by_cases hle : Y ≤ X
    · rw [← sgn_add_ge hst hle]
      generalize hz : limZ (sgn s (X - Y)) = z
      generalize he : limE (sgn s (X - Y)) = er
      have Hz := Lib.hid hz
      have He := Lib.hid he
      clear hz he
      go_enter Try.func102, Try.ntmps102
      go_wp2_with (first
        | (go_at_call 103
           refine (compareNat_any _ A B n c m d X Y (by omega) (by omega) hA0 hB0).mono ?_
           rintro e w1 ⟨r, rfl, hr, hO1⟩
           have hr0 : 0 ≤ r := by rcases hr.out with h | h | h <;> omega)
        | (go_at_call 98
           refine (subNat_any _ A B n c m d X Y (by omega) (hA0.keep hO1) (hB0.keep hO1) hle).mono ?_
           rintro e w2 ⟨A1, n1, c1, rfl, hN1, hO2⟩)
        | (go_at_call 82
           have hb := build_any w2 s A1 n1 c1 (X - Y) (Nat.le_trans (hN1.n_le (Nat.lt_of_le_of_lt (Nat.sub_le _ _) HX.out)) (by decide)) hN1
           rw [Hz.out, He.out] at hb
           refine hb.mono ?_
           rintro e w3 ⟨s2, A2, n2, c2, rfl, hI, hF, hO3⟩
           have hBr := (Blk.int0 w).keep ((hO1.trans' hO2).trans' hO3) (by simp)
           obtain ⟨k0, k1, f0, f1⟩ := hBr.two))
      exact bodyPost_ret (results_row_tmp rfl _ _ (w.heap.size) 24 [_, _] _ rfl (hBr.put2 _ _) Try.underlying24 rfl isz) rfl (RI.of rfl hI hF (Nat.lt_of_lt_of_le (by simp) (hO1.trans' hO2).size) (Nat.le_refl _) (((hO0.trans' hO1).trans' hO2).trans' hO3) (only_put2 _ _ _ _))
    · rw [← sgn_add_lt hst (by omega)]
      generalize hz : limZ (sgn t (Y - X)) = z
      generalize he : limE (sgn t (Y - X)) = er
      have Hz := Lib.hid hz
      have He := Lib.hid he
      clear hz he
      go_enter Try.func102, Try.ntmps102
      go_wp2_with (first
        | (go_at_call 103
           refine (compareNat_any _ A B n c m d X Y (by omega) (by omega) hA0 hB0).mono ?_
           rintro e w1 ⟨r, rfl, hr, hO1⟩
           have hr0 : r < 0 := by rcases hr.out with h | h | h <;> omega)
        | (go_at_call 98
           refine (subNat_any _ B A m d n c Y X (by omega) (hB0.keep hO1) (hA0.keep hO1) (by omega)).mono ?_
           rintro e w2 ⟨A1, n1, c1, rfl, hN1, hO2⟩)
        | (go_at_call 82
           have hb := build_any w2 t A1 n1 c1 (Y - X) (Nat.le_trans (hN1.n_le (Nat.lt_of_le_of_lt (Nat.sub_le _ _) HY.out)) (by decide)) hN1
           rw [Hz.out, He.out] at hb
           refine hb.mono ?_
           rintro e w3 ⟨s2, A2, n2, c2, rfl, hI, hF, hO3⟩
           have hBr := (Blk.int0 w).keep ((hO1.trans' hO2).trans' hO3) (by simp)
           obtain ⟨k0, k1, f0, f1⟩ := hBr.two))
      exact bodyPost_ret (results_row_tmp rfl _ _ (w.heap.size) 24 [_, _] _ rfl (hBr.put2 _ _) Try.underlying24 rfl isz) rfl (RI.of rfl hI hF (Nat.lt_of_lt_of_le (by simp) (hO1.trans' hO2).size) (Nat.le_refl _) (((hO0.trans' hO1).trans' hO2).trans' hO3) (only_put2 _ _ _ _))
end Go.Proofs.Ytddfphneidcibaa
