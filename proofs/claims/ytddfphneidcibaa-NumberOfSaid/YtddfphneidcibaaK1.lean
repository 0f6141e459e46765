/-
  THE WALKS of number's DivMod by zero, and of Value on Ints that are not valid.
-/
import Derived.Test.YtddfphneidcibaaR3
namespace Go.Proofs.Ytddfphneidcibaa
open Go.RowKit
open Nm (W32)

set_option maxHeartbeats 4000000 in
set_option maxRecDepth 100000 in
theorem divMod_zero (w : World) (s t : Bool) (A B : Option Addr) (n c m d : Nat) (x : Int) (hx : x.natAbs < big512) (hA : IntS w s A n c x) (hB : IntS w t B m d 0) :
    Calls Try.prog 35 #[.agg #[.bool s, .slice A n c], .agg #[.bool t, .slice B m d]] w (RI2 w 0 0 2) := by
  obtain ⟨hBa, hBb, hBr, hBq, hO0, hsz⟩ := box4_spec w (.bool s) (.slice A n c) (.bool t) (.slice B m d)
  have hm0 : m = 0 := by rw [hB.by_.n_eq]; exact Nm.len_zero 256
  subst hm0
  have Hx := Lib.hid hx
  obtain ⟨K0, K1, -, -⟩ := hBa.two
  obtain ⟨L0, L1, -, -⟩ := hBb.two
  clear hx
  unfold box4 box3 at *
  go_enter Try.func35, Try.ntmps35
  go_wp2_with fail
  clear K0 K1 L0 L1
  refine (valid_yes _ s A n c x (hA.keep hO0) Hx.out).mono ?_
  rintro e w1 ⟨rfl, hO1⟩
  obtain ⟨K0, K1, -, -⟩ := (hBa.keep hO1 (by simp)).two
  obtain ⟨L0, L1, -, -⟩ := (hBb.keep hO1 (by simp)).two
  go_wp2_with fail
  clear K0 K1 L0 L1
  refine (valid_yes _ t B 0 d 0 ((hB.keep hO0).keep hO1) (by unfold big512; decide +kernel)).mono ?_
  rintro e w2 ⟨rfl, hO2⟩
  have hQ2 := hO1.trans' hO2
  obtain ⟨K0, K1, -, -⟩ := (hBa.keep hQ2 (by simp)).two
  obtain ⟨L0, L1, -, -⟩ := (hBb.keep hQ2 (by simp)).two
  have hBr2 := hBr.keep hQ2 (by simp)
  have hBq2 := hBq.keep hQ2 (by simp)
  have hP2 := hO0.trans' hQ2
  obtain ⟨p0, p1, f0, f1⟩ := hBr2.two
  obtain ⟨q0, q1, g0, g1⟩ := hBq2.two
  have hx1 := only_put2 w2 (w.heap.size + 2) (.bool false) (.slice none 0 0)
  have hBr3 := hBr2.put2 (.bool false) (.slice none 0 0)
  have hBq3 := hBq2.keep hx1 (by simp)
  have hx2 := only_put2 ((w2.setCell ⟨w.heap.size + 2, 0, none⟩ (.bool false)).setCell ⟨w.heap.size + 2, 1, none⟩ (.slice none 0 0)) (w.heap.size + 3) (.bool false) (.slice none 0 0)
  have hBq4 := hBq3.put2 (.bool false) (.slice none 0 0)
  have hBr4 := hBr3.keep hx2 (by simp)
  have hOf : Only [] w _ := (hP2.trans hx1 (by intro x hx hlt; simp at hx; omega)).trans hx2 (by intro x hx hlt; simp at hx; omega)
  go_wp2
  exact bodyPost_ret (results_row2 rfl _ _ (w.heap.size + 2) (w.heap.size + 3) 24 [_, _] [_, _] _ rfl rfl hBr4 hBq4 Try.underlying24 rfl isz isz) rfl
    ⟨false, none, 0, 0, false, none, 0, 0, rfl, IntS.zero _ _ _, IntS.zero _ _ _, Frs.none _, Frs.none _, hOf⟩

set_option maxHeartbeats 4000000 in
set_option maxRecDepth 100000 in
theorem value_no (w : World) (s : Bool) (A : Option Addr) (n c : Nat) (b : List Nat) (hn : n = b.length) (hA : RV w A (cN .u8 b)) (hv : vld s b = false) :
    Calls Try.prog 19 #[.agg #[.bool s, .slice A n c]] w fun e w' => e = .returned (.tuple #[.int .i64 0, .int .i64 2]) ∧ Only [] w w' := by
  obtain ⟨hBa, hO0⟩ := box1_spec w (.bool s) (.slice A n c)
  obtain ⟨K0, K1, -, -⟩ := hBa.two
  have Hn := Lib.hid hn
  clear hn
  go_enter Try.func19, Try.ntmps19
  go_wp2_with fail
  refine (valid_no _ s A n c b Hn.out (hA.keep0 hO0) hv).mono ?_
  rintro e w1 ⟨rfl, hO1⟩
  go_wp2
  go_ret2
  exact ⟨rfl, hO0.trans' hO1⟩
end Go.Proofs.Ytddfphneidcibaa
