/-
  THE WALKS of number's Of and Value.
-/
import Derived.Test.YtddfphneidcibaaI4
import Derived.Laws.Rows
namespace Go.Proofs.Ytddfphneidcibaa
open Go.RowKit
open Nm (W32)

/-- An Int is returned. -/
def RV1 (w : World) (z : Int) (e : Ending) (w' : World) : Prop :=
  ∃ s A n c, e = .returned (.agg #[.bool s, .slice A n c]) ∧ IntS w' s A n c z ∧ Frs w A ∧ Only [] w w'
theorem RV1.of {w w1 w2 w3 : World} {s : Bool} {A : Option Addr} {n c : Nat} {z : Int} {g : Nat} {e : Ending} (he : e = .returned (.agg #[.bool s, .slice A n c])) (hI : IntS w2 s A n c z) (hF : Frs w1 A) (hg : g < w1.heap.size) (hg0 : w.heap.size ≤ g) (h2 : Only [] w w2) (h3 : Only [g] w2 w3) : RV1 w z e w3 :=
  ⟨s, A, n, c, he, ⟨hI.sg, hI.by_.far hF h3 (by simpa using hg)⟩, fun p hp => by have := hF p hp; omega, h2.trans h3 (by intro x hx hlt; simp at hx; omega)⟩
theorem pad2 (U : Nat) (hU : U < 18446744073709551616) : cN .u32 (Nm.pad W32 2 U) = [.int .u32 ((U % 4294967296 : Nat) : Int), .int .u32 ((U / 4294967296 : Nat) : Int)] := by
  have : U / 4294967296 % 4294967296 = U / 4294967296 := Nat.mod_eq_of_lt (by omega)
  simp [Nm.pad, cN, this]

set_option maxHeartbeats 4000000 in
set_option maxRecDepth 100000 in
theorem of_pos (w : World) (U : Nat) (hU : U ≤ 9223372036854775807) :
    Calls Try.prog 18 #[.int .i64 (U : Int)] w (RV1 w (U : Int)) := by
  have hUI : (U : Int) ≤ 9223372036854775807 := by omega
  have HU2 := Lib.hid (show U < W32 ^ 2 from Nat.lt_of_le_of_lt hU (by decide +kernel))
  have HP := Lib.hid (pad2 U (by omega))
  have Hz : Hid (limZ (sgn false U) = (U : Int)) := (lim_ok (z := sgn false U) (by rw [sgn_abs]; exact Nat.lt_of_le_of_lt hU (by unfold big512; decide +kernel))).1
  have He : Hid (limE (sgn false U) = 0) := (lim_ok (z := sgn false U) (by rw [sgn_abs]; exact Nat.lt_of_le_of_lt hU (by unfold big512; decide +kernel))).2
  obtain ⟨lo, Hlo⟩ : ∃ lo, Hid (lo = U % 4294967296) := ⟨_, rfl⟩
  obtain ⟨hi, Hhi⟩ : ∃ hi, Hid (hi = U / 4294967296) := ⟨_, rfl⟩
  have hlo : (U : Int) % 4294967296 = (lo : Int) := by have := Hlo.out; omega
  have hhi : (U : Int) / 4294967296 = (hi : Int) := by have := Hhi.out; omega
  rw [← Hlo.out, ← Hhi.out] at HP
  have hR : RV ((w.alloc (.cells #[.bool false, .slice none 0 0] 24)).alloc (.cells #[.int .u32 (lo : Int), .int .u32 (hi : Int)] 83)) (some ⟨w.heap.size + 1, 0, none⟩) (cN .u32 (Nm.pad W32 2 U)) := by
    have h := RV.new (w := w.alloc (.cells #[.bool false, .slice none 0 0] 24)) (t := 83) (arr := #[.int .u32 (lo : Int), .int .u32 (hi : Int)]) (xs := cN .u32 (Nm.pad W32 2 U)) (by rw [HP.out])
    simpa using h
  have hO0 : Only [] w ((w.alloc (.cells #[.bool false, .slice none 0 0] 24)).alloc (.cells #[.int .u32 (lo : Int), .int .u32 (hi : Int)] 83)) := ((Only.refl [] w).alloc _).alloc _
  have hBr : Blk ((w.alloc (.cells #[.bool false, .slice none 0 0] 24)).alloc (.cells #[.int .u32 (lo : Int), .int .u32 (hi : Int)] 83)) w.heap.size 24 [.bool false, .slice none 0 0] := (Blk.int0 w).alloc _
  clear hU
  go_enter Try.func18, Try.ntmps18
  go_wp2_with (first
    | (go_at_call 83
       refine (trim_any _ _ 2 2 U (Nat.le_refl _) (by omega) HU2.out hR).mono ?_
       rintro e w' ⟨m', rfl, rfl, hN⟩)
    | (go_at_call 82
       have hb := build_any _ false _ m' 2 U (Nat.le_trans (hN.n_le HU2.out) (by omega)) hN
       rw [Hz.out, He.out] at hb
       refine hb.mono ?_
       rintro e w2 ⟨s2, A2, n2, c2, rfl, hI, hF, hO2⟩
       have hBr2 := hBr.keep hO2 (by simp)
       have hlt2 : w.heap.size < w2.heap.size := Nat.lt_of_lt_of_le (by simp; omega) hO2.size
       have hne2 : w.heap.size ≠ w2.heap.size := Nat.ne_of_lt hlt2
       obtain ⟨k0, k1, f0, f1⟩ := hBr2.two))
  exact bodyPost_ret (results_cell_row rfl _ _ w.heap.size 24 #[.bool s2, .slice A2 n2 c2] (0, 0) _ rfl ((hBr2.put2 _ _).alloc _) Try.underlying24 rfl isz) rfl (RV1.of rfl hI hF (by simp; omega) (Nat.le_refl _) (hO0.trans' hO2) ((only_put2 _ _ _ _).alloc _))
set_option maxHeartbeats 4000000 in
set_option maxRecDepth 100000 in
theorem of_neg (w : World) (U : Nat) (hU0 : 0 < U) (hU : U ≤ 9223372036854775808) :
    Calls Try.prog 18 #[.int .i64 (-(U : Int))] w (RV1 w (-(U : Int))) := by
  have hUI : -(U : Int) < 0 := by omega
  have HU2 := Lib.hid (show U < W32 ^ 2 from Nat.lt_of_le_of_lt hU (by decide +kernel))
  have HP := Lib.hid (pad2 U (by omega))
  have Hz : Hid (limZ (sgn true U) = -(U : Int)) := (lim_ok (z := sgn true U) (by rw [sgn_abs]; exact Nat.lt_of_le_of_lt hU (by unfold big512; decide +kernel))).1
  have He : Hid (limE (sgn true U) = 0) := (lim_ok (z := sgn true U) (by rw [sgn_abs]; exact Nat.lt_of_le_of_lt hU (by unfold big512; decide +kernel))).2
  obtain ⟨lo, Hlo⟩ : ∃ lo, Hid (lo = U % 4294967296) := ⟨_, rfl⟩
  obtain ⟨hi, Hhi⟩ : ∃ hi, Hid (hi = U / 4294967296) := ⟨_, rfl⟩
  have hlo : (U : Int) % 4294967296 = (lo : Int) := by have := Hlo.out; omega
  have hhi : (U : Int) / 4294967296 = (hi : Int) := by have := Hhi.out; omega
  have hhm : (hi : Int) % 4294967296 = (hi : Int) := by have := Hhi.out; omega
  have hw0 : IntKind.u64.wrap (-(U : Int)) = -(U : Int) + 18446744073709551616 := u64_neg (by omega) hUI
  have hw1 : IntKind.u64.wrap (-(-(U : Int) + 18446744073709551616)) = (U : Int) := by rw [u64_neg (by omega) (by omega)]; omega
  rw [← Hlo.out, ← Hhi.out] at HP
  have hR : RV ((w.alloc (.cells #[.bool false, .slice none 0 0] 24)).alloc (.cells #[.int .u32 (lo : Int), .int .u32 (hi : Int)] 83)) (some ⟨w.heap.size + 1, 0, none⟩) (cN .u32 (Nm.pad W32 2 U)) := by
    have h := RV.new (w := w.alloc (.cells #[.bool false, .slice none 0 0] 24)) (t := 83) (arr := #[.int .u32 (lo : Int), .int .u32 (hi : Int)]) (xs := cN .u32 (Nm.pad W32 2 U)) (by rw [HP.out])
    simpa using h
  have hO0 : Only [] w ((w.alloc (.cells #[.bool false, .slice none 0 0] 24)).alloc (.cells #[.int .u32 (lo : Int), .int .u32 (hi : Int)] 83)) := ((Only.refl [] w).alloc _).alloc _
  have hBr : Blk ((w.alloc (.cells #[.bool false, .slice none 0 0] 24)).alloc (.cells #[.int .u32 (lo : Int), .int .u32 (hi : Int)] 83)) w.heap.size 24 [.bool false, .slice none 0 0] := (Blk.int0 w).alloc _
  clear hU hU0
  go_enter Try.func18, Try.ntmps18
  go_wp2_with (first
    | (go_at_call 83
       refine (trim_any _ _ 2 2 U (Nat.le_refl _) (by omega) HU2.out hR).mono ?_
       rintro e w' ⟨m', rfl, rfl, hN⟩)
    | (go_at_call 82
       have hb := build_any _ true _ m' 2 U (Nat.le_trans (hN.n_le HU2.out) (by omega)) hN
       rw [Hz.out, He.out] at hb
       refine hb.mono ?_
       rintro e w2 ⟨s2, A2, n2, c2, rfl, hI, hF, hO2⟩
       have hBr2 := hBr.keep hO2 (by simp)
       have hlt2 : w.heap.size < w2.heap.size := Nat.lt_of_lt_of_le (by simp; omega) hO2.size
       have hne2 : w.heap.size ≠ w2.heap.size := Nat.ne_of_lt hlt2
       obtain ⟨k0, k1, f0, f1⟩ := hBr2.two))
  exact bodyPost_ret (results_cell_row rfl _ _ w.heap.size 24 #[.bool s2, .slice A2 n2 c2] (0, 0) _ rfl ((hBr2.put2 _ _).alloc _) Try.underlying24 rfl isz) rfl (RV1.of rfl hI hF (by simp; omega) (Nat.le_refl _) (hO0.trans' hO2) ((only_put2 _ _ _ _).alloc _))
theorem of_any (w : World) (z : Int) (h1 : -9223372036854775808 ≤ z) (h2 : z ≤ 9223372036854775807) : Calls Try.prog 18 #[.int .i64 z] w (RV1 w z) := by
  by_cases h : 0 ≤ z
  · obtain ⟨U, rfl⟩ : ∃ U : Nat, z = (U : Int) := ⟨z.toNat, by omega⟩
    exact of_pos w U (by omega)
  · obtain ⟨U, rfl⟩ : ∃ U : Nat, z = -(U : Int) := ⟨(-z).toNat, by omega⟩
    exact of_neg w U (by omega) (by omega)
end Go.Proofs.Ytddfphneidcibaa
