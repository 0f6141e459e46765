/-
  The examples of the law's known, each by itself.
-/
import Derived.Test.YtddfphneidcibaaK1
namespace Go.Proofs.Ytddfphneidcibaa
open Go.RowKit
open Nm (W32)

theorem lim8 : limZ ((-2 : Int) ^ 3) = -8 ∧ limE ((-2 : Int) ^ 3) = 0 := by
  have e : (-2 : Int) ^ 3 = -8 := by decide
  rw [e]
  exact lim_ok (z := -8) (by unfold big512; decide +kernel)
theorem lim512 : limZ ((2 : Int) ^ 512) = 0 ∧ limE ((2 : Int) ^ 512) = 7 := by
  refine lim_no ?_
  rw [Int.natAbs_pow]
  have : big512 = (2 : Int).natAbs ^ 512 := by unfold big512; decide +kernel
  omega
theorem pow8 (w : World) (s : Bool) (A : Option Addr) (n c : Nat) (h : IntS w s A n c (-2)) : Calls Try.prog 24 #[.agg #[.bool s, .slice A n c], .int .i64 3] w (RI w (-8) 0) := by
  have hb := power_any w s A n c (-2) 3 (by decide) (Nat.lt_trans (show (-2 : Int).natAbs < 1000000 by decide) (by unfold big512; decide +kernel)) h
  rw [lim8.1, lim8.2] at hb
  exact hb
theorem pow512 (w : World) (s : Bool) (A : Option Addr) (n c : Nat) (h : IntS w s A n c 2) : Calls Try.prog 24 #[.agg #[.bool s, .slice A n c], .int .i64 512] w (RI w 0 7) := by
  have hb := power_any w s A n c 2 512 (by decide) (Nat.lt_trans (show (2 : Int).natAbs < 1000000 by decide) (by unfold big512; decide +kernel)) h
  have e := lim512
  generalize limZ ((2 : Int) ^ 512) = p at hb e
  generalize limE ((2 : Int) ^ 512) = q at hb e
  obtain ⟨rfl, rfl⟩ := e
  exact hb
theorem val01 (w : World) : Calls Try.prog 19 #[.agg #[.bool false, .slice (some ⟨w.heap.size, 0, none⟩) 2 2]] (w.alloc (.cells #[.int .u8 0, .int .u8 1] 5)) fun e w' => e = .returned (.tuple #[.int .i64 0, .int .i64 2]) ∧ Only [] w w' := by
  refine (value_no _ false _ 2 2 [0, 1] rfl (RV.new rfl) (by decide)).mono ?_
  rintro e w' ⟨h, hO⟩
  exact ⟨h, ((Only.refl [] w).alloc _).trans' hO⟩
theorem parseN0 (w : World) : Calls Try.prog 29 #[.string ⟨#[45, 48]⟩] w (RI w 0 6) := parse_bad w [45, 48] [48] true (.inl ⟨rfl, rfl⟩) (by decide) (.inr ⟨rfl, rfl⟩)
theorem parse007 (w : World) : Calls Try.prog 29 #[.string ⟨#[48, 48, 55]⟩] w (RI w 0 6) := parse_bad w [48, 48, 55] [48, 48, 55] false (.inr ⟨rfl, rfl, fun t h => by injection h with h; exact absurd h (by decide)⟩) (by decide) (.inl (by decide))
theorem parse12 (w : World) : Calls Try.prog 29 #[.string ⟨#[49, 50]⟩] w (RI w 12 0) := by
  have hb := parse_good w [49, 50] [49, 50] false (.inr ⟨rfl, rfl, fun t h => by injection h with h; exact absurd h (by decide)⟩) (by decide) (by decide) (by decide) (by decide)
  have e := lim_ok (z := 12) (by unfold big512; decide +kernel)
  rw [show sgn false (decV [49, 50]) = 12 from rfl, e.1, e.2] at hb
  exact hb
theorem decs100 : decs 100 = [49, 48, 48] := by
  have h : Nm.len 10 100 = 3 := Nm.len_eq (n := 2) (by decide) (by decide) (by decide)
  unfold decs
  rw [if_neg (by decide), h]
  rfl
theorem bytes258 {w : World} {s : Bool} {A : Option Addr} {n c : Nat} (h : IntS w s A n c (-258)) : s = true ∧ n = 2 ∧ RV w A (cellsOf [1, 2]) := by
  have hdg : (Nm.dg 256 258).reverse = [1, 2] := by rw [Nm.dg_pos (by decide) (by decide), Nm.dg_pos (by decide) (by decide), Nm.dg_zero]; rfl
  refine ⟨h.sg, ?_, ?_⟩
  · rw [h.by_.n_eq, Nm.len, ← List.length_reverse]
    show ((Nm.dg 256 258).reverse).length = 2
    rw [hdg]
    rfl
  · have hr := h.by_.rd
    have e : (-258 : Int).natAbs = 258 := rfl
    rw [e, hdg] at hr
    exact hr
theorem dig100 (w : World) (s : Bool) (A : Option Addr) (n c : Nat) (h : IntS w s A n c (-100)) : Calls Try.prog 31 #[.agg #[.bool s, .slice A n c]] w fun e w' => e = .returned (.int .i64 3) ∧ Only [] w w' := by
  refine (digits10_any w s A n c (-100) (by unfold big512; decide +kernel) h).mono ?_
  rintro e w' ⟨rfl, hO⟩
  have e : (-100 : Int).natAbs = 100 := rfl
  rw [e, decs100]
  exact ⟨rfl, hO⟩
theorem dig0 (w : World) : Calls Try.prog 31 #[.agg #[.bool false, .slice none 0 0]] w fun e w' => e = .returned (.int .i64 1) ∧ Only [] w w' := by
  refine (digits10_any w false none 0 0 0 (by unfold big512; decide +kernel) (IntS.zero _ _ _)).mono ?_
  rintro e w' ⟨rfl, hO⟩
  exact ⟨rfl, hO⟩
theorem text100 (w : World) (s : Bool) (A : Option Addr) (n c : Nat) (h : IntS w s A n c (-100)) : Calls Try.prog 30 #[.agg #[.bool s, .slice A n c]] w fun e w' => e = .returned (.string ⟨#[45, 49, 48, 48]⟩) ∧ Only [] w w' := by
  refine (text_any w s A n c (-100) (by unfold big512; decide +kernel) h).mono ?_
  rintro e w' ⟨rfl, hO⟩
  have e : txt (-100) = [45, 49, 48, 48] := by
    unfold txt
    have e1 : (-100 : Int).natAbs = 100 := rfl
    rw [e1, decs100]
    rfl
  rw [e]
  exact ⟨rfl, hO⟩
end Go.Proofs.Ytddfphneidcibaa
