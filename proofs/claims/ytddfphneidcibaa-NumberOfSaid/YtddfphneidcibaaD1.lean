/-
  THE WALK of number's divNat where the divisor is greater, or is one word.
-/
import Derived.Test.YtddfphneidcibaaI5
namespace Go.Proofs.Ytddfphneidcibaa
open Go.RowKit
open Nm (W32)

/-- A quotient and a remainder are returned. -/
def RQ (w : World) (X Y : Nat) (e : Ending) (w' : World) : Prop :=
  ∃ A n c B m d, e = .returned (.tuple #[.slice A n c, .slice B m d]) ∧ NatS w' A n c (X / Y) ∧ NatS w' B m d (X % Y) ∧ Only [] w w'

set_option maxHeartbeats 4000000 in
set_option maxRecDepth 100000 in
theorem divNat_lt (w : World) (A B : Option Addr) (n c m d X Y : Nat) (hn : n ≤ 99999) (hm : m ≤ 99999) (hA : NatS w A n c X) (hB : NatS w B m d Y) (h : X < Y) :
    Calls Try.prog 97 #[.slice A n c, .slice B m d] w (RQ w X Y) := by
  have e1 : X / Y = 0 := Nat.div_eq_of_lt h
  have e2 : X % Y = X := Nat.mod_eq_of_lt h
  have H1 := Lib.hid e1
  have H2 := Lib.hid e2
  have H := Lib.hid h
  clear e1 e2 h
  go_enter Try.func97, Try.ntmps97
  go_wp2_with (go_at_call 103
               refine (compareNat_any _ A B n c m d X Y (by omega) (by omega) hA hB).mono ?_
               rintro e w1 ⟨r, rfl, hr, hO1⟩
               have hr0 : r < 0 := by have := H.out; rcases hr.out with h | h | h <;> omega)
  go_ret2
  exact ⟨_, _, _, _, _, _, rfl, by rw [H1.out]; exact NatS.zero _ _ _, by rw [H2.out]; exact hA.keep hO1, hO1⟩

set_option maxHeartbeats 4000000 in
set_option maxRecDepth 100000 in
theorem divNat_one (w : World) (A B : Option Addr) (n c d X Y : Nat) (hn : n ≤ 99999) (hA : NatS w A n c X) (hB : NatS w B 1 d Y) (h : Y ≤ X) :
    Calls Try.prog 97 #[.slice A n c, .slice B 1 d] w (RQ w X Y) := by
  have hY1 : Y < W32 ^ 1 := hB.lt
  have hY2 : Y < 4294967296 := by simpa using hY1
  have hY0 : 0 < Y := by
    apply Nat.pos_of_ne_zero
    rintro rfl
    have := hB.n_eq
    rw [Nm.len_zero] at this
    omega
  have H := Lib.hid h
  have HY2 := Lib.hid hY2
  clear h hY1 hY2
  go_enter Try.func97, Try.ntmps97
  go_wp2_with fail
  refine (compareNat_any _ A B n c 1 d X Y (by omega) (by omega) hA hB).mono ?_
  rintro e w1 ⟨r, rfl, hr, hO1⟩
  have hr0 : 0 ≤ r := by have := H.out; rcases hr.out with h | h | h <;> omega
  obtain ⟨gb, ob, rfl, hgb, hcb⟩ := (hB.keep hO1).at (by decide)
  have c1 := hcb 0 (by decide)
  rw [Nat.pow_zero, Nat.div_one, Nat.mod_eq_of_lt (show Y < W32 from HY2.out), Nat.add_zero] at c1
  clear hcb
  go_wp2_with fail
  refine (divSmall_any w1 A n c X Y (by omega) hY0 HY2.out (hA.keep hO1)).mono ?_
  rintro e w2 ⟨A2, n2, c2, r2, rfl, hN2, hr2, hO2, -⟩
  have hr2l : r2 < 4294967296 := by rw [hr2.out]; exact Nat.lt_trans (Nat.mod_lt _ hY0) HY2.out
  have hR : RV (w2.alloc (.cells #[.int .u32 (r2 : Int)] 83)) (some ⟨w2.heap.size, 0, none⟩) (cN .u32 (Nm.pad W32 1 (X % Y))) :=
    RV.new (by rw [← hr2.out]; simp [Nm.pad, cN, Nat.mod_eq_of_lt (show r2 < W32 from hr2l)])
  have HR := Lib.hid hR
  have Hlt : Hid (X % Y < W32 ^ 1) := by unfold Hid; rw [← hr2.out]; simpa using hr2l
  clear hR c1
  go_wp2_with (go_at_call 83; refine (trim_any _ _ 1 1 (X % Y) (Nat.le_refl _) (by omega) Hlt.out HR.out).mono ?_; rintro e w' ⟨m', rfl, rfl, hN⟩)
  go_ret2
  exact ⟨_, _, _, _, _, _, rfl, hN2.keep ((Only.refl [] w2).alloc _), hN, (hO1.trans' hO2).trans' ((Only.refl [] w2).alloc _)⟩
end Go.Proofs.Ytddfphneidcibaa
