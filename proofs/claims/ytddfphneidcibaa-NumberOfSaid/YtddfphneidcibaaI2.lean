/-
  THE WALKS of number's Valid, Sign, addSigned.
-/
import Derived.Test.YtddfphneidcibaaI1
namespace Go.Proofs.Ytddfphneidcibaa
open Go.RowKit
open Nm (W32)

/-- Is an Int with this sign and these bytes valid? -/
def vld (s : Bool) (b : List Nat) : Bool := if b.length = 0 then !s else decide (b.length ≤ 64) && decide (b.getD 0 0 ≠ 0)

set_option maxHeartbeats 4000000 in
set_option maxRecDepth 100000 in
theorem valid_any (w : World) (s : Bool) (A : Option Addr) (n c : Nat) (b : List Nat) (hn : n = b.length) (hA : RV w A (cN .u8 b)) :
    Calls Try.prog 40 #[.agg #[.bool s, .slice A n c]] w fun e w' => e = .returned (.bool (vld s b)) ∧ Only [] w w' := by
  have Hn := Lib.hid hn
  clear hn
  have hO0 : Only [] w (w.alloc (.cells #[.bool s, .slice A n c] 24)) := (Only.refl [] w).alloc _
  by_cases h0 : n = 0
  · have hv : Hid ((!s) = vld s b) := by unfold Hid vld; rw [← Hn.out, if_pos h0]
    subst h0
    go_enter Try.func40, Try.ntmps40
    go_wp2
    go_ret
    exact ⟨by rw [← hv.out]; rfl, hO0⟩
  · have h0b : ((n : Int) == 0) = false := beq_eq_false_iff_ne.2 (by omega)
    have h0p : 0 < n := by omega
    have h0I : (0 : Int) < (n : Int) := by omega
    by_cases h64 : n ≤ 64
    · have h64I : (n : Int) ≤ 64 := by omega
      obtain ⟨g, o, rfl, hg, hc⟩ := (hA.keep0 hO0) (by rw [cN_length, ← Hn.out]; omega)
      have c1 := hc 0 (by rw [cN_length, ← Hn.out]; omega)
      rw [cN_get (by rw [← Hn.out]; omega), Nat.add_zero] at c1
      obtain ⟨x, Hx⟩ : ∃ x, Hid (x = b.getD 0 0) := ⟨_, rfl⟩
      rw [← Hx.out] at c1
      have hne : g ≠ w.heap.size := by
        obtain ⟨g', o', e', hg', _⟩ := hA (by rw [cN_length, ← Hn.out]; omega)
        injection e' with e'
        injection e' with e1 e2
        omega
      have hv : Hid (((x : Int) != 0) = vld s b) := by
        unfold Hid vld
        rw [← Hn.out, if_neg h0, decide_eq_true h64, ← Hx.out, Bool.true_and]
        by_cases hx : x = 0
        · subst hx; rfl
        · have : ((x : Int) != 0) = true := by rw [bne_iff_ne]; omega
          rw [this]; simp [hx]
      clear hc
      go_enter Try.func40, Try.ntmps40
      go_wp2
      go_ret
      exact ⟨by rw [← hv.out]; rfl, hO0⟩
    · have h64I : (64 : Int) < (n : Int) := by omega
      have hv : Hid (false = vld s b) := by unfold Hid vld; rw [← Hn.out, if_neg h0, decide_eq_false h64, Bool.false_and]
      go_enter Try.func40, Try.ntmps40
      go_wp2
      go_ret
      exact ⟨by rw [← hv.out]; rfl, hO0⟩

theorem big512_eq : big512 = 256 ^ 64 := rfl
theorem IntS.n_le {w : World} {s : Bool} {A : Option Addr} {n c : Nat} {z : Int} (h : IntS w s A n c z) (hz : z.natAbs < big512) : n ≤ 64 := by
  rw [h.by_.n_eq]
  exact (Nm.len_le (B := 256) (by decide) _ _).2 hz
theorem IntS.vld {w : World} {s : Bool} {A : Option Addr} {n c : Nat} {z : Int} (h : IntS w s A n c z) (hz : z.natAbs < big512) : vld s (Nm.dg 256 z.natAbs).reverse = true := by
  have hl : ((Nm.dg 256 z.natAbs).reverse).length = n := by rw [List.length_reverse, Nm.dg_length, h.by_.n_eq]
  have hle := h.n_le hz
  unfold Go.Proofs.Ytddfphneidcibaa.vld
  rw [hl]
  by_cases h0 : n = 0
  · rw [if_pos h0]
    have : z.natAbs = 0 := (Nm.len_eq_zero (B := 256) (by decide)).1 (by rw [← h.by_.n_eq]; exact h0)
    have hz0 : z = 0 := by omega
    rw [h.sg, hz0]
    rfl
  · rw [if_neg h0, decide_eq_true hle, Bool.true_and, decide_eq_true_eq]
    rw [rev_getD (i := n - 1) (by rw [Nm.dg_length, ← h.by_.n_eq]; omega), Nm.dg_getD (by decide)]
    intro e
    have hlt : z.natAbs < 256 ^ (n - 1 + 1) := by rw [show n - 1 + 1 = n by omega, h.by_.n_eq]; exact Nm.lt_pow_len (by decide) _
    have := (Nm.len_le (B := 256) (by decide) _ _).2 (Nm.top_zero (by decide) hlt e)
    rw [← h.by_.n_eq] at this
    omega
theorem valid_yes (w : World) (s : Bool) (A : Option Addr) (n c : Nat) (z : Int) (h : IntS w s A n c z) (hz : z.natAbs < big512) :
    Calls Try.prog 40 #[.agg #[.bool s, .slice A n c]] w fun e w' => e = .returned (.bool true) ∧ Only [] w w' := by
  refine (valid_any w s A n c _ (by rw [List.length_reverse, Nm.dg_length, h.by_.n_eq]) h.by_.rd).mono ?_
  rintro e w' ⟨rfl, hO⟩
  exact ⟨by rw [h.vld hz], hO⟩
theorem valid_no (w : World) (s : Bool) (A : Option Addr) (n c : Nat) (b : List Nat) (hn : n = b.length) (hA : RV w A (cN .u8 b)) (hv : vld s b = false) :
    Calls Try.prog 40 #[.agg #[.bool s, .slice A n c]] w fun e w' => e = .returned (.bool false) ∧ Only [] w w' := by
  refine (valid_any w s A n c b hn hA).mono ?_
  rintro e w' ⟨rfl, hO⟩
  exact ⟨by rw [hv], hO⟩
end Go.Proofs.Ytddfphneidcibaa
