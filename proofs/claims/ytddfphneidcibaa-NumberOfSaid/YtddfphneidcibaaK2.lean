/-
  THE WALK of the law's known (chapter 01).
-/
import Derived.Test.YtddfphneidcibaaK3
namespace Go.Proofs.Ytddfphneidcibaa
open Go.RowKit
open Nm (W32)

/-- A variable that holds an Int. -/
structure Slot (w : World) (g : Nat) (s : Bool) (A : Option Addr) (n c : Nat) (z : Int) : Prop where
  b : Blk w g 24 [.bool s, .slice A n c]
  i : IntS w s A n c z
theorem Slot.keep {w w' : World} {g : Nat} {s : Bool} {A : Option Addr} {n c : Nat} {z : Int} (h : Slot w g s A n c z) (ho : Only [] w w') : Slot w' g s A n c z := ⟨h.b.keep ho (by simp), h.i.keep ho⟩
theorem Slot.drew {w : World} {g : Nat} {s : Bool} {A : Option Addr} {n c : Nat} {z : Int} (h : Slot w g s A n c z) : Slot w.drew g s A n c z := ⟨h.b.drew, h.i.drew⟩
theorem Slot.cells {w : World} {g : Nat} {s : Bool} {A : Option Addr} {n c : Nat} {z : Int} (h : Slot w g s A n c z) : w.cell? ⟨g, 0, none⟩ = some (.bool s) ∧ w.cell? ⟨g, 1, none⟩ = some (.slice A n c) ∧ g < w.heap.size := ⟨h.b.two.1, h.b.two.2.1, h.b.lt⟩
theorem slot2 (w : World) {s t : Bool} {A B : Option Addr} {n c m d : Nat} {x y : Int} (hA : IntS w s A n c x) (hB : IntS w t B m d y) :
    Slot ((w.alloc (.cells #[.bool s, .slice A n c] 24)).alloc (.cells #[.bool t, .slice B m d] 24)) w.heap.size s A n c x ∧ Slot ((w.alloc (.cells #[.bool s, .slice A n c] 24)).alloc (.cells #[.bool t, .slice B m d] 24)) (w.heap.size + 1) t B m d y ∧ Only [] w ((w.alloc (.cells #[.bool s, .slice A n c] 24)).alloc (.cells #[.bool t, .slice B m d] 24)) := by
  obtain ⟨h1, h2, h3, -⟩ := box2_spec w (.bool s) (.slice A n c) (.bool t) (.slice B m d)
  exact ⟨⟨h1, hA.keep h3⟩, ⟨h2, hB.keep h3⟩, h3⟩
theorem slot1 (w : World) {s : Bool} {A : Option Addr} {n c : Nat} {x : Int} (hA : IntS w s A n c x) :
    Slot (w.alloc (.cells #[.bool s, .slice A n c] 24)) w.heap.size s A n c x ∧ Only [] w (w.alloc (.cells #[.bool s, .slice A n c] 24)) := by
  obtain ⟨h1, h3⟩ := box1_spec w (.bool s) (.slice A n c)
  exact ⟨⟨h1, hA.keep h3⟩, h3⟩
theorem small512 {z : Int} (h : z.natAbs < 1000000) : z.natAbs < big512 := Nat.lt_trans h (by unfold big512; decide +kernel)
/-- DivMod of small Ints. -/
theorem divMod_small (w : World) (s t : Bool) (A B : Option Addr) (n c m d : Nat) (x y : Int) (hx : x.natAbs < 1000000) (hy : y.natAbs < 1000000) (hy0 : y ≠ 0) (hxy : y.natAbs ≤ x.natAbs) (hA : IntS w s A n c x) (hB : IntS w t B m d y) :
    Calls Try.prog 35 #[.agg #[.bool s, .slice A n c], .agg #[.bool t, .slice B m d]] w (RI2 w (dq x y) (dr x y) 0) := by
  refine divMod_any w s t A B n c m d x y (small512 hx) (small512 hy) hy0 hA hB ?_
  intro w' A' B' n' c' m' d' h1 h2
  have hm : m' = 1 := by
    rw [h2.n_eq, Nm.len, dg_one (by omega) (Nat.lt_trans hy (by decide))]
    rfl
  subst hm
  have hn : n' ≤ 1 := h1.n_le (by rw [Nat.pow_one]; exact Nat.lt_trans hx (by decide))
  exact divNat_one w' A' B' n' c' d' x.natAbs y.natAbs (by omega) h1 h2 hxy

set_option maxHeartbeats 4000000 in
set_option maxRecDepth 100000 in
theorem known1 (w : World) : Calls Try.prog 22 #[] w fun e w' => e = .returned (.bool true) ∧ Only [] w w' := by
  go_enter Try.func22, Try.ntmps22
  go_wp2_with fail
  refine (ofR_any _ (-7) (by decide) (by decide)).mono ?_
  rintro e w1 ⟨s1, A1, n1, c1, rfl, hI1, -, hO1⟩
  go_wp2_with fail
  refine (ofR_any w1 (2) (by decide) (by decide)).mono ?_
  rintro e w2 ⟨s2, A2, n2, c2, rfl, hI2, -, hO2⟩
  go_wp2_with fail
  refine (divMod_small w2 s1 s2 A1 A2 n1 c1 n2 c2 (-7) 2 (by decide) (by decide) (by decide) (by decide) (hI1.keep hO2) hI2).mono ?_
  rintro e w3 ⟨sq1, Aq1, nq1, cq1, sr1, Ar1, nr1, cr1, rfl, hIq, hIr, -, -, hO3⟩
  obtain ⟨S1, S2, hO4⟩ := slot2 w3 hIq hIr
  have hP1 := ((hO1.trans' hO2).trans' hO3).trans' hO4
  clear hIq hIr hI1 hI2 hO1 hO2 hO3 hO4
  rw [show dq (-7) 2 = -4 by decide +kernel] at S1
  rw [show dr (-7) 2 = 1 by decide +kernel] at S2
  go_wp2_with fail
  revert S1 S2 hP1
  generalize (w3.alloc (.cells #[.bool sq1, .slice Aq1 nq1 cq1] 24)).alloc (.cells #[.bool sr1, .slice Ar1 nr1 cr1] 24) = W1
  generalize w3.heap.size = g1
  intro S1 S2 hP1
  refine (ofR_any _ (7) (by decide) (by decide)).mono ?_
  rintro e w1 ⟨s1, A1, n1, c1, rfl, hI1, -, hO1⟩
  go_wp2_with fail
  refine (ofR_any w1 (-2) (by decide) (by decide)).mono ?_
  rintro e w2 ⟨s2, A2, n2, c2, rfl, hI2, -, hO2⟩
  go_wp2_with fail
  refine (divMod_small w2 s1 s2 A1 A2 n1 c1 n2 c2 7 (-2) (by decide) (by decide) (by decide) (by decide) (hI1.keep hO2) hI2).mono ?_
  rintro e w3 ⟨sq2, Aq2, nq2, cq2, sr2, Ar2, nr2, cr2, rfl, hIq, hIr, -, -, hO3⟩
  obtain ⟨S3, S4, hO4⟩ := slot2 w3 hIq hIr
  have hP2 := ((hO1.trans' hO2).trans' hO3).trans' hO4
  clear hIq hIr hI1 hI2 hO1 hO2 hO3 hO4
  rw [show dq 7 (-2) = -4 by decide +kernel] at S3
  rw [show dr 7 (-2) = -1 by decide +kernel] at S4
  go_wp2_with fail
  revert S3 S4 hP2
  generalize (w3.alloc (.cells #[.bool sq2, .slice Aq2 nq2 cq2] 24)).alloc (.cells #[.bool sr2, .slice Ar2 nr2 cr2] 24) = W2
  generalize w3.heap.size = g2
  intro S3 S4 hP2
  have S1 := S1.keep hP2
  have S2 := S2.keep hP2
  have hP2 := hP1.trans' hP2
  refine (ofR_any _ (1) (by decide) (by decide)).mono ?_
  rintro e w1 ⟨s1, A1, n1, c1, rfl, hI1, -, hO1⟩
  go_wp2_with fail
  refine (ofR_any w1 (0) (by decide) (by decide)).mono ?_
  rintro e w2 ⟨s2, A2, n2, c2, rfl, hI2, -, hO2⟩
  go_wp2_with fail
  refine (divMod_zero w2 s1 s2 A1 A2 n1 c1 n2 c2 1 (small512 (by decide)) (hI1.keep hO2) hI2).mono ?_
  rintro e w3 ⟨sq3, Aq3, nq3, cq3, sr3, Ar3, nr3, cr3, rfl, hIq, hIr, -, -, hO3⟩
  obtain ⟨S5, S6, hO4⟩ := slot2 w3 hIq hIr
  have hP3 := ((hO1.trans' hO2).trans' hO3).trans' hO4
  clear hIq hIr hI1 hI2 hO1 hO2 hO3 hO4
  go_wp2
  revert S5 S6 hP3
  generalize (w3.alloc (.cells #[.bool sq3, .slice Aq3 nq3 cq3] 24)).alloc (.cells #[.bool sr3, .slice Ar3 nr3 cr3] 24) = W3
  generalize w3.heap.size = g3
  intro S5 S6 hP3
  have S1 := S1.keep hP3
  have S2 := S2.keep hP3
  have S3 := S3.keep hP3
  have S4 := S4.keep hP3
  have hP3 := hP2.trans' hP3
  clear S5 S6 hP1 hP2
  obtain ⟨k0, k1, k2⟩ := S1.cells
  refine Reg.wp [] [.r 0, .r 1, .r 2, .r 3, .r 4, .r 5, .r 6, .r 7, .r 8, .r 9, .r 10, .r 11, .e 12, .e 13, .r 14, .r 15, .r 16, .r 17, .e 18, .e 19, .r 20, .r 21, .r 22, .r 23, .e 24, .e 25, .r 26, .r 27, .r 28, .r 29, .e 30, .e 31, .r 32, .r 33] (by kernel_rfl) (by kernel_rfl) (fun d _ _ _ _ h => by cases d <;> exact h) ?_
  simp only [Reg.pick, List.getD_cons_succ, List.getD_cons_zero]
  iterate 12 (apply Reg.read; (· (intro t K hK; go_simp; (try go_ints); (try ((go_ite <;> go_prune); go_simp)); (try go_ints); exact hK _ rfl)); (· (intro K hK; go_simp; exact hK _ rfl)))
  clear k0 k1 k2
  refine Reg.eff ?_
  go_wp2_with (go_at_call 21; refine (ofR_any (W3.drew) (-4) (by decide) (by decide)).mono ?_; rintro e wa ⟨sa, Aa, na, ca, rfl, hIa, -, hOa⟩)
  refine ⟨hOa, ?_⟩
  refine Reg.eff ?_
  go_wp2_with (go_at_call 20; refine (same_any wa _ sa _ Aa _ _ na ca (-4) (-4) (S1.drew.keep hOa).i hIa).mono ?_; rintro e V1 ⟨rfl, hOb⟩)
  refine ⟨hOb, ?_⟩
  have hV1 := hOa.trans' hOb
  clear hOa hOb hIa
  have T2 := S2.drew.keep hV1
  obtain ⟨k0, k1, k2⟩ := T2.cells
  iterate 4 (apply Reg.read; (· (intro t K hK; go_simp; (try go_ints); (try ((go_ite <;> go_prune); go_simp)); (try go_ints); exact hK _ rfl)); (· (intro K hK; go_simp; exact hK _ rfl)))
  clear k0 k1 k2
  refine Reg.eff ?_
  go_wp2_with (go_at_call 21; refine (ofR_any (V1) (1) (by decide) (by decide)).mono ?_; rintro e wa ⟨sa, Aa, na, ca, rfl, hIa, -, hOa⟩)
  refine ⟨hOa, ?_⟩
  refine Reg.eff ?_
  go_wp2_with (go_at_call 20; refine (same_any wa _ sa _ Aa _ _ na ca (1) (1) (T2.keep hOa).i hIa).mono ?_; rintro e V2 ⟨rfl, hOb⟩)
  refine ⟨hOb, ?_⟩
  have hV2 := hOa.trans' hOb
  clear hOa hOb hIa
  have T3 := (S3.drew.keep hV1).keep hV2
  obtain ⟨k0, k1, k2⟩ := T3.cells
  iterate 4 (apply Reg.read; (· (intro t K hK; go_simp; (try go_ints); (try ((go_ite <;> go_prune); go_simp)); (try go_ints); exact hK _ rfl)); (· (intro K hK; go_simp; exact hK _ rfl)))
  clear k0 k1 k2
  refine Reg.eff ?_
  go_wp2_with (go_at_call 21; refine (ofR_any (V2) (-4) (by decide) (by decide)).mono ?_; rintro e wa ⟨sa, Aa, na, ca, rfl, hIa, -, hOa⟩)
  refine ⟨hOa, ?_⟩
  refine Reg.eff ?_
  go_wp2_with (go_at_call 20; refine (same_any wa _ sa _ Aa _ _ na ca (-4) (-4) (T3.keep hOa).i hIa).mono ?_; rintro e V3 ⟨rfl, hOb⟩)
  refine ⟨hOb, ?_⟩
  have hV3 := hOa.trans' hOb
  clear hOa hOb hIa
  have T4 := ((S4.drew.keep hV1).keep hV2).keep hV3
  obtain ⟨k0, k1, k2⟩ := T4.cells
  iterate 4 (apply Reg.read; (· (intro t K hK; go_simp; (try go_ints); (try ((go_ite <;> go_prune); go_simp)); (try go_ints); exact hK _ rfl)); (· (intro K hK; go_simp; exact hK _ rfl)))
  clear k0 k1 k2
  refine Reg.eff ?_
  go_wp2_with (go_at_call 21; refine (ofR_any (V3) (-1) (by decide) (by decide)).mono ?_; rintro e wa ⟨sa, Aa, na, ca, rfl, hIa, -, hOa⟩)
  refine ⟨hOa, ?_⟩
  refine Reg.eff ?_
  go_wp2_with (go_at_call 20; refine (same_any wa _ sa _ Aa _ _ na ca (-1) (-1) (T4.keep hOa).i hIa).mono ?_; rintro e V4 ⟨rfl, hOb⟩)
  refine ⟨hOb, ?_⟩
  have hV4 := hOa.trans' hOb
  clear hOa hOb hIa
  iterate 2 (apply Reg.read; (· (intro t K hK; go_simp; (try go_ints); (try ((go_ite <;> go_prune); go_simp)); (try go_ints); exact hK _ rfl)); (· (intro K hK; go_simp; exact hK _ rfl)))
  refine Reg.fin ?_
  have hP4 : Only [] w V4 := hP3.trans' (Only.undrew (w := W3) (((hV1.trans' hV2).trans' hV3).trans' hV4))
  clear S1 S2 S3 S4 T2 T3 T4 hV1 hV2 hV3 hV4 hP3
  go_wp2_with fail
  refine (of_any V4 (-258) (by decide) (by decide)).mono ?_
  rintro e w5 ⟨s5, A5, n5, c5, rfl, hI5, -, hO5⟩
  obtain ⟨U1, hO6⟩ := slot1 w5 hI5
  have hP5 := (hP4.trans' hO5).trans' hO6
  go_wp2_with fail
  have hz5 : (w5.alloc (.cells #[.bool s5, .slice A5 n5 c5] 24)).heap.size = w5.heap.size + 1 := by simp
  revert U1 hP5 hz5
  generalize w5.alloc (.cells #[.bool s5, .slice A5 n5 c5] 24) = W5
  generalize w5.heap.size = g5
  intro U1 hP5 hz5
  rw [← hz5]
  clear hz5
  clear hI5 hO5 hO6 hP4
  refine (val01 W5).mono ?_
  rintro e w6 ⟨rfl, hO6⟩
  have U1 := U1.keep hO6
  have hP6 := hP5.trans' hO6
  go_wp2_with fail
  refine (ofR_any w6 (-2) (by decide) (by decide)).mono ?_
  rintro e w7 ⟨s7, A7, n7, c7, rfl, hI7, -, hO7⟩
  go_wp2_with fail
  refine (pow8 w7 s7 A7 n7 c7 hI7).mono ?_
  rintro e w8 ⟨s8, A8, n8, c8, rfl, hI8, -, hO8⟩
  obtain ⟨U2, hO9⟩ := slot1 w8 hI8
  have hQ8 := (hO7.trans' hO8).trans' hO9
  go_wp2_with fail
  revert U2 hQ8
  generalize w8.alloc (.cells #[.bool s8, .slice A8 n8 c8] 24) = W8
  generalize w8.heap.size = g8
  intro U2 hQ8
  have U1 := U1.keep hQ8
  have hP8 := hP6.trans' hQ8
  clear hI7 hI8 hO7 hO8 hO9 hQ8 hP6 hP5 hO6
  refine (ofR_any W8 2 (by decide) (by decide)).mono ?_
  rintro e w9 ⟨s9, A9, n9, c9, rfl, hI9, -, hO9⟩
  go_wp2_with fail
  refine (pow512 w9 s9 A9 n9 c9 hI9).mono ?_
  rintro e w10 ⟨s10, A10, n10, c10, rfl, hI10, -, hO10⟩
  obtain ⟨U3, hO11⟩ := slot1 w10 hI10
  have hQ10 := (hO9.trans' hO10).trans' hO11
  go_wp2
  revert U3 hQ10
  generalize w10.alloc (.cells #[.bool s10, .slice A10 n10 c10] 24) = W10
  generalize w10.heap.size = g10
  intro U3 hQ10
  have U1 := U1.keep hQ10
  have U2 := U2.keep hQ10
  have hP10 := hP8.trans' hQ10
  clear hI9 hI10 hO9 hO10 hO11 hQ10 hP8 U3
  obtain ⟨k0, k1, k2⟩ := U1.cells
  obtain ⟨l0, l1, l2⟩ := U2.cells
  obtain ⟨rfl, rfl, hR5'⟩ := bytes258 U1.i
  have st := fun c => str_any (P := Try.prog) (w := W10.drew) (A := A5) (n := 2) (c := c) (bs := [1, 2]) Try.underlying22 Try.underlying5 Try.underlying9 [] hR5'.drew rfl (fun _ _ => by simp)
  clear hR5'
  refine Reg.wp [] [.r 0, .r 1, .r 2, .r 3, .r 4, .r 5, .r 6, .r 7, .r 8, .r 9, .r 10, .r 11, .r 12, .r 13, .r 14, .r 15, .r 16, .r 17, .r 18, .e 19, .e 20, .r 21, .r 22, .r 23, .r 24, .r 25, .r 26] (by kernel_rfl) (by kernel_rfl) (fun d _ _ _ _ h => by cases d <;> exact h) ?_
  simp only [Reg.pick, List.getD_cons_succ, List.getD_cons_zero]
  iterate 19 (apply Reg.read; (· (intro t K hK; go_simp; (try go_ints); (try ((go_ite <;> go_prune); go_simp)); (try go_ints); exact hK _ rfl)); (· (intro K hK; go_simp; exact hK _ rfl)))
  clear k0 k1 k2 l0 l1 l2 st
  refine Reg.eff ?_
  go_wp2_with (go_at_call 21; refine (ofR_any (W10.drew) (-8) (by decide) (by decide)).mono ?_; rintro e wa ⟨sa, Aa, na, ca, rfl, hIa, -, hOa⟩)
  refine ⟨hOa, ?_⟩
  refine Reg.eff ?_
  go_wp2_with (go_at_call 20; refine (same_any wa _ sa _ Aa _ _ na ca (-8) (-8) (U2.drew.keep hOa).i hIa).mono ?_; rintro e V5 ⟨rfl, hOb⟩)
  refine ⟨hOb, ?_⟩
  have hV5 := hOa.trans' hOb
  clear hOa hOb hIa
  iterate 6 (apply Reg.read; (· (intro t K hK; go_simp; (try go_ints); (try ((go_ite <;> go_prune); go_simp)); (try go_ints); exact hK _ rfl)); (· (intro K hK; go_simp; exact hK _ rfl)))
  refine Reg.fin ?_
  have hP11 : Only [] w V5 := hP10.trans' (Only.undrew (w := W10) hV5)
  clear U1 U2 hV5 hP10
  go_wp2_with fail
  refine (parseN0 V5).mono ?_
  rintro e w11 ⟨s11, A11, n11, c11, rfl, hI11, -, hO11⟩
  have hO11 := hO11.alloc (.cells #[.bool s11, .slice A11 n11 c11] 24)
  go_wp2_with fail
  revert hO11
  generalize w11.alloc (.cells #[.bool s11, .slice A11 n11 c11] 24) = W11
  intro hO11
  refine (parse007 W11).mono ?_
  rintro e w12 ⟨s12, A12, n12, c12, rfl, hI12, -, hO12⟩
  have hO12 := hO12.alloc (.cells #[.bool s12, .slice A12 n12 c12] 24)
  go_wp2_with fail
  revert hO12
  generalize w12.alloc (.cells #[.bool s12, .slice A12 n12 c12] 24) = W12
  intro hO12
  refine (parse12 W12).mono ?_
  rintro e w13 ⟨s13, A13, n13, c13, rfl, hI13, -, hO13⟩
  obtain ⟨U4, hO14⟩ := slot1 w13 hI13
  have hQ13 := ((hO11.trans' hO12).trans' hO13).trans' hO14
  go_wp2
  revert U4 hQ13
  generalize w13.alloc (.cells #[.bool s13, .slice A13 n13 c13] 24) = W13
  generalize w13.heap.size = g13
  intro U4 hQ13
  have hP13 := hP11.trans' hQ13
  clear hI11 hI12 hI13 hO11 hO12 hO13 hO14 hQ13 hP11
  refine Reg.wp [] [.e 0, .e 1, .r 2, .r 3, .r 4, .e 5, .r 6, .r 7, .r 8, .e 9, .e 10, .r 11, .r 12, .r 13, .r 14, .r 15, .r 16, .r 17, .r 18, .r 19, .r 20, .r 21, .r 22, .r 23, .r 24, .r 25, .r 26, .e 27, .e 28, .r 29, .r 30] (by kernel_rfl) (by kernel_rfl) (fun d _ _ _ _ h => by cases d <;> exact h) ?_
  simp only [Reg.pick, List.getD_cons_succ, List.getD_cons_zero]
  refine Reg.eff ?_
  go_wp2_with (go_at_call 21; refine (ofR_any W13.drew (-100) (by decide) (by decide)).mono ?_; rintro e wa ⟨sa, Aa, na, ca, rfl, hIa, -, hOa⟩)
  refine ⟨hOa, ?_⟩
  refine Reg.eff ?_
  go_wp2_with (go_at_call 31; refine (dig100 wa sa Aa na ca hIa).mono ?_; rintro e wb ⟨rfl, hOb⟩)
  refine ⟨hOb, ?_⟩
  iterate 3 (apply Reg.read; (· (intro t K hK; go_simp; (try go_ints); (try ((go_ite <;> go_prune); go_simp)); (try go_ints); exact hK _ rfl)); (· (intro K hK; go_simp; exact hK _ rfl)))
  refine Reg.eff ?_
  go_wp2_with (go_at_call 31; refine (dig0 wb).mono ?_; rintro e wc ⟨rfl, hOc⟩)
  refine ⟨hOc, ?_⟩
  iterate 3 (apply Reg.read; (· (intro t K hK; go_simp; (try go_ints); (try ((go_ite <;> go_prune); go_simp)); (try go_ints); exact hK _ rfl)); (· (intro K hK; go_simp; exact hK _ rfl)))
  refine Reg.eff ?_
  go_wp2_with (go_at_call 21; refine (ofR_any wc (-100) (by decide) (by decide)).mono ?_; rintro e wd ⟨sd, Ad, nd, cd, rfl, hId, -, hOd⟩)
  refine ⟨hOd, ?_⟩
  refine Reg.eff ?_
  go_wp2_with (go_at_call 30; refine (text100 wd sd Ad nd cd hId).mono ?_; rintro e we ⟨rfl, hOe⟩)
  refine ⟨hOe, ?_⟩
  have hQe := (((hOa.trans' hOb).trans' hOc).trans' hOd).trans' hOe
  have U5 := U4.drew.keep hQe
  clear hOa hOb hOc hOd hOe hIa hId U4
  obtain ⟨k0, k1, k2⟩ := U5.cells
  iterate 16 (apply Reg.read; (· (intro t K hK; go_simp; (try go_ints); (try ((go_ite <;> go_prune); go_simp)); (try go_ints); exact hK _ rfl)); (· (intro K hK; go_simp; exact hK _ rfl)))
  clear k0 k1 k2
  refine Reg.eff ?_
  go_wp2_with (go_at_call 21; refine (ofR_any (we) (12) (by decide) (by decide)).mono ?_; rintro e wa ⟨sa, Aa, na, ca, rfl, hIa, -, hOa⟩)
  refine ⟨hOa, ?_⟩
  refine Reg.eff ?_
  go_wp2_with (go_at_call 20; refine (same_any wa _ sa _ Aa _ _ na ca (12) (12) (U5.keep hOa).i hIa).mono ?_; rintro e wz ⟨rfl, hOb⟩)
  refine ⟨hOb, ?_⟩
  have hOz := hOa.trans' hOb
  clear hOa hOb hIa
  iterate 2 (apply Reg.read; (· (intro t K hK; go_simp; (try go_ints); (try ((go_ite <;> go_prune); go_simp)); (try go_ints); exact hK _ rfl)); (· (intro K hK; go_simp; exact hK _ rfl)))
  refine Reg.fin ?_
  go_wp2
  go_ret
  exact ⟨rfl, hP13.trans' (Only.undrew (w := W13) (hQe.trans' hOz))⟩
end Go.Proofs.Ytddfphneidcibaa
