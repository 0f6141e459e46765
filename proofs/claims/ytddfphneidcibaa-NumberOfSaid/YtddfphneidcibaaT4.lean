/-
  THE WALK of number's Power on valid Ints.
-/
import Derived.Test.YtddfphneidcibaaT3
namespace Go.Proofs.Ytddfphneidcibaa
open Go.RowKit
open Nm (W32)

theorem pow_sgn (s : Bool) (X : Nat) : ∀ m : Nat, sgn (s && decide (m % 2 = 1)) (X ^ m) = sgn s X ^ m
  | 0 => by simp [sgn]
  | m + 1 => by
    rw [Int.pow_succ, ← pow_sgn s X m, Nat.pow_succ]
    cases s
    · simp [sgn]
    · by_cases h : m % 2 = 1
      · have h2 : ¬ (m + 1) % 2 = 1 := by omega
        simp [sgn, h, h2, Int.neg_mul_neg]
      · have h2 : (m + 1) % 2 = 1 := by omega
        simp [sgn, h, h2, Int.mul_neg]
theorem len2_one {X : Nat} : Nm.len 2 X ≤ 1 ↔ X ≤ 1 := by rw [Nm.len_le (by decide)]; omega
theorem big_iff {X : Nat} : X < big512 ↔ Nm.len 2 X ≤ 512 := by rw [Nm.len_le (by decide), show 2 ^ 512 = big512 from by unfold big512; decide +kernel]
theorem small_pow {X m : Nat} (h : X ≤ 1) (hm : m ≠ 0) : X ^ m = X := by
  rcases (show X = 0 ∨ X = 1 by omega) with rfl | rfl
  · exact Nat.zero_pow (by omega)
  · exact Nat.one_pow m

set_option maxHeartbeats 4000000 in
set_option maxRecDepth 100000 in
theorem power_neg (w : World) (s : Bool) (A : Option Addr) (n c : Nat) (x m : Int) (hm : m < 0) (hx : x.natAbs < big512) (hA : IntS w s A n c x) :
    Calls Try.prog 24 #[.agg #[.bool s, .slice A n c], .int .i64 m] w (RI w 0 2) := by
  obtain ⟨hBa, hBr, hO0, hsz⟩ := box2_spec w (.bool s) (.slice A n c) (.bool false) (.slice none 0 0)
  have hn := hA.n_le hx
  have Hx := Lib.hid hx
  have Hxw := Lib.hid (big_w32 hx)
  have Hnat := Lib.hid hA.nat
  obtain ⟨K0, K1, -, -⟩ := hBa.two
  clear hx
  go_enter Try.func24, Try.ntmps24
  go_wp2_with fail
  clear K0 K1
  refine (valid_yes _ s A n c x (hA.keep hO0) Hx.out).mono ?_
  rintro e w2 ⟨rfl, hO2⟩
  obtain ⟨k0, k1, -, -⟩ := (hBa.keep hO2 (by simp)).two
  have hA2 := (hA.keep hO0).keep hO2
  have hBa2 := hBa.keep hO2 (by simp)
  have hBr2 := hBr.keep hO2 (by simp)
  have hP2 := hO0.trans' hO2
  have hs2 : w.heap.size + 2 ≤ w2.heap.size := by rw [← hsz]; exact hO2.size
  have hl0 : w.heap.size < w2.heap.size := by omega
  have hl1 : w.heap.size + 1 < w2.heap.size := by omega
  clear hBa hBr hO0 hsz hO2
  obtain ⟨p0, p1, f0, f1⟩ := hBr2.two
  go_wp2
  exact bodyPost_ret (results_row_tmp rfl _ _ (w.heap.size + 1) 24 [_, _] _ rfl (hBr2.put2 _ _) Try.underlying24 rfl isz) rfl (RI.of rfl (IntS.zero _ _ _) (Frs.none w2) hl1 (Nat.le_add_right _ _) hP2 (only_put2 _ _ _ _))

set_option maxHeartbeats 4000000 in
set_option maxRecDepth 100000 in
theorem power_any (w : World) (s : Bool) (A : Option Addr) (n c : Nat) (x : Int) (m : Nat) (hm : (m : Int) ≤ 9223372036854775807) (hx : x.natAbs < big512) (hA : IntS w s A n c x) :
    Calls Try.prog 24 #[.agg #[.bool s, .slice A n c], .int .i64 (m : Int)] w (RI w (limZ (x ^ m)) (limE (x ^ m))) := by
  generalize hz : limZ (x ^ m) = zz
  generalize he : limE (x ^ m) = ee
  have Hz := Lib.hid hz
  have He := Lib.hid he
  clear hz he
  obtain ⟨hBa, hBr, hO0, hsz⟩ := box2_spec w (.bool s) (.slice A n c) (.bool false) (.slice none 0 0)
  have hn := hA.n_le hx
  have Hx := Lib.hid hx
  have Hxw := Lib.hid (big_w32 hx)
  have Hnat := Lib.hid hA.nat
  obtain ⟨K0, K1, -, -⟩ := hBa.two
  clear hx
  go_enter Try.func24, Try.ntmps24
  go_wp2_with fail
  clear K0 K1
  refine (valid_yes _ s A n c x (hA.keep hO0) Hx.out).mono ?_
  rintro e w2 ⟨rfl, hO2⟩
  obtain ⟨k0, k1, -, -⟩ := (hBa.keep hO2 (by simp)).two
  have hA2 := (hA.keep hO0).keep hO2
  have hBa2 := hBa.keep hO2 (by simp)
  have hBr2 := hBr.keep hO2 (by simp)
  have hP2 := hO0.trans' hO2
  have hs2 : w.heap.size + 2 ≤ w2.heap.size := by rw [← hsz]; exact hO2.size
  have hl0 : w.heap.size < w2.heap.size := by omega
  have hl1 : w.heap.size + 1 < w2.heap.size := by omega
  clear hBa hBr hO0 hsz hO2
  go_wp2_with fail
  refine (natOf_any w2 A n c x.natAbs (by omega) hA2.by_).mono ?_
  rintro e w3 ⟨A3, n3, c3, rfl, hN3, hO3⟩
  have hBr3 := hBr2.keep hO3 (by simp)
  have hP3 := hP2.trans' hO3
  clear k0 k1
  obtain ⟨k0, k1, -, -⟩ := (hBa2.keep hO3 (by simp)).two
  have hs3 : w2.heap.size ≤ w3.heap.size := hO3.size
  have hx16 := hN3.n_le Hxw.out
  have Hpw : Hid (x ^ m = sgn (s && decide (m % 2 = 1)) (x.natAbs ^ m)) := by unfold Hid; rw [pow_sgn, Hnat.out]
  obtain ⟨ng, Hng⟩ : ∃ ng, Hid (ng = (s && decide (m % 2 = 1))) := ⟨_, rfl⟩
  rw [← Hng.out] at Hpw
  by_cases hm0 : m = 0
  · subst hm0
    have hex : x ^ 0 = sgn false 1 := by rw [Int.pow_zero]; rfl
    have Hex := Lib.hid hex
    have hN1 := NatS.one w3 1 (by decide) (by decide)
    have hBr4 := hBr3.alloc (.cells #[.int .u32 ((1 : Nat) : Int)] 83)
    have hP4 := hP3.alloc (.cells #[.int .u32 ((1 : Nat) : Int)] 83)
    clear hex
    cases s
    · go_wp2_with fail
      have hb := build_any _ false _ 1 1 (1) (by decide) hN1
      rw [← Hex.out, Hz.out, He.out] at hb
      refine hb.mono ?_
      clear hb
      rintro e w9 ⟨s9, A9, n9, c9, rfl, hI9, hF9, hO9⟩
      have hBr9 := (hBr4).keep hO9 (by simp)
      obtain ⟨p0, p1, f0, f1⟩ := hBr9.two
      go_wp2
      exact bodyPost_ret (results_row_tmp rfl _ _ (w.heap.size + 1) 24 [_, _] _ rfl (hBr9.put2 _ _) Try.underlying24 rfl isz) rfl (RI.of rfl hI9 hF9 (by simp; omega) (Nat.le_add_right _ _) ((hP4).trans' hO9) (only_put2 _ _ _ _))
    · go_wp2_with fail
      have hb := build_any _ false _ 1 1 (1) (by decide) hN1
      rw [← Hex.out, Hz.out, He.out] at hb
      refine hb.mono ?_
      clear hb
      rintro e w9 ⟨s9, A9, n9, c9, rfl, hI9, hF9, hO9⟩
      have hBr9 := (hBr4).keep hO9 (by simp)
      obtain ⟨p0, p1, f0, f1⟩ := hBr9.two
      go_wp2
      exact bodyPost_ret (results_row_tmp rfl _ _ (w.heap.size + 1) 24 [_, _] _ rfl (hBr9.put2 _ _) Try.underlying24 rfl isz) rfl (RI.of rfl hI9 hF9 (by simp; omega) (Nat.le_add_right _ _) ((hP4).trans' hO9) (only_put2 _ _ _ _))
  · have hm0b : ((m : Int) == 0) = false := beq_eq_false_iff_ne.2 (by omega)
    have Hm0 := Lib.hid hm0
    obtain ⟨p, Hp⟩ : ∃ p, Hid (p = m % 2) := ⟨_, rfl⟩
    have hpI : (m : Int) % 2 = (p : Int) := by have := Hp.out; omega
    have hpT : (m : Int).tmod 2 = (p : Int) := by rw [Int.tmod_eq_emod_of_nonneg (by omega)]; exact hpI
    have hp2 : p = 0 ∨ p = 1 := by have := Hp.out; omega
    clear hm0
    cases s
    · obtain rfl : ng = false := by rw [Hng.out]; rfl
      go_wp2_with fail
      refine (size_any w3 A3 n3 c3 x.natAbs (by omega) hN3).mono ?_
      rintro e w' ⟨sz, rfl, hsz, hsz2, rfl⟩
      by_cases hX1 : x.natAbs ≤ 1
      · have hszI : (sz : Int) ≤ 1 := by have := len2_one.2 hX1; rw [← hsz.out] at this; omega
        have Hpx : Hid (x ^ m = sgn false x.natAbs) := by unfold Hid; rw [Hpw.out, small_pow hX1 Hm0.out]
        go_wp2_with fail
        have hb := build_any w3 false A3 n3 c3 (x.natAbs) (Nat.le_trans hx16 (by decide)) hN3
        rw [← Hpx.out, Hz.out, He.out] at hb
        refine hb.mono ?_
        clear hb
        rintro e w9 ⟨s9, A9, n9, c9, rfl, hI9, hF9, hO9⟩
        have hBr9 := (hBr3).keep hO9 (by simp)
        obtain ⟨p0, p1, f0, f1⟩ := hBr9.two
        go_wp2
        exact bodyPost_ret (results_row_tmp rfl _ _ (w.heap.size + 1) 24 [_, _] _ rfl (hBr9.put2 _ _) Try.underlying24 rfl isz) rfl (RI.of rfl hI9 hF9 (by omega) (Nat.le_add_right _ _) ((hP3).trans' hO9) (only_put2 _ _ _ _))
      · have hszI : 1 < (sz : Int) := by have : ¬ Nm.len 2 x.natAbs ≤ 1 := fun h => hX1 (len2_one.1 h); rw [← hsz.out] at this; omega
        have hX2 : 0 < x.natAbs := by omega
        go_wp2
        go_loopw [8, 43] (fun pw i wr => ∃ (k : Nat) (Ap : Option Addr) (np cp : Nat), i = .int .i64 (k : Int) ∧ k ≤ m ∧ pw = .slice Ap np cp ∧ NatS wr Ap np cp (x.natAbs ^ k) ∧ Hid (x.natAbs ^ k < big512) ∧ Only [] w3 wr) (fun _ i _ => m - (intOf i).toNat)
        case atStart => exact ⟨0, _, _, _, rfl, Nat.zero_le _, rfl, by rw [Nat.pow_zero]; exact NatS.one w3 1 (by decide) (by decide), by unfold Hid big512; rw [Nat.pow_zero]; decide +kernel, (Only.refl [] w3).alloc _⟩
        case round =>
          obtain ⟨k, Ap, np, cp, rfl, hkm, rfl, hNp, hlp, hOp⟩ := hrel
          have hnp : np ≤ 16 := hNp.n_le (big_w32 (z := ((x.natAbs ^ k : Nat) : Int)) (by simpa using hlp.out))
          by_cases hk : k < m
          · have hkI : (k : Int) < (m : Int) := by omega
            go_wp2_with fail
            refine (mulNat_any wr Ap A3 np cp n3 c3 (x.natAbs ^ k) x.natAbs (by omega) (by omega) hNp (hN3.keep hOp)).mono ?_
            rintro e w4 ⟨A4, n4, c4, rfl, hN4, hO4⟩
            rw [← Nat.pow_succ] at hN4
            have hn4 : n4 ≤ 32 := hN4.n_le (by rw [Nat.pow_succ]; exact w32_prod (big_w32 (z := ((x.natAbs ^ k : Nat) : Int)) (by simpa using hlp.out)) Hxw.out)
            have hO34 := hOp.trans' hO4
            have hBr4 := hBr3.keep hO34 (by simp)
            have hs4 := hO34.size
            go_wp2_with fail
            refine (size_any w4 A4 n4 c4 (x.natAbs ^ k.succ) (by omega) hN4).mono ?_
            rintro e w' ⟨s4, rfl, hs4', hs42, rfl⟩
            by_cases hb : x.natAbs ^ k.succ < big512
            · have hb1 : (s4 : Int) ≤ 512 := by have := big_iff.1 hb; rw [← hs4'.out] at this; omega
              go_wp2
              go_roundw
              case rel => exact ⟨k + 1, A4, n4, c4, by go_num, by omega, rfl, hN4, hb, hO34⟩
              case measure => simp [intOf]; omega
            · have hb1 : 512 < (s4 : Int) := by have : ¬ Nm.len 2 (x.natAbs ^ k.succ) ≤ 512 := fun h => hb (big_iff.2 h); rw [← hs4'.out] at this; omega
              have hno : ¬ (x ^ m).natAbs < big512 := by
                rw [Hpw.out, sgn_abs]
                intro h
                exact hb (Nat.lt_of_le_of_lt (Nat.pow_le_pow_right hX2 (by omega)) h)
              obtain ⟨e1, e2⟩ := lim_no hno
              rw [Hz.out] at e1
              rw [He.out] at e2
              subst e1 e2
              obtain ⟨p0, p1, f0, f1⟩ := hBr4.two
              go_wp2
              exact bodyPost_ret (results_row_tmp rfl _ _ (w.heap.size + 1) 24 [_, _] _ rfl (hBr4.put2 _ _) Try.underlying24 rfl isz) rfl (RI.of rfl (IntS.zero _ _ _) (Frs.none w4) (by omega) (Nat.le_add_right _ _) (hP3.trans' hO34) (only_put2 _ _ _ _))
          · obtain rfl : k = m := by omega
            have hBrr := hBr3.keep hOp (by simp)
            have hsr := hOp.size
            have hPr := hP3.trans' hOp
            go_wp2_with fail
            have hb := build_any wr false Ap np cp (x.natAbs ^ k) (Nat.le_trans hnp (by decide)) hNp
            rw [← Hpw.out, Hz.out, He.out] at hb
            refine hb.mono ?_
            clear hb
            rintro e w9 ⟨s9, A9, n9, c9, rfl, hI9, hF9, hO9⟩
            have hBr9 := (hBrr).keep hO9 (by simp)
            obtain ⟨p0, p1, f0, f1⟩ := hBr9.two
            go_wp2
            exact bodyPost_ret (results_row_tmp rfl _ _ (w.heap.size + 1) 24 [_, _] _ rfl (hBr9.put2 _ _) Try.underlying24 rfl isz) rfl (RI.of rfl hI9 hF9 (by omega) (Nat.le_add_right _ _) ((hPr).trans' hO9) (only_put2 _ _ _ _))
    · rcases hp2 with rfl | rfl
      · obtain rfl : ng = false := by rw [Hng.out, ← Hp.out]; rfl
        go_wp2_with fail
        refine (size_any w3 A3 n3 c3 x.natAbs (by omega) hN3).mono ?_
        rintro e w' ⟨sz, rfl, hsz, hsz2, rfl⟩
        by_cases hX1 : x.natAbs ≤ 1
        · have hszI : (sz : Int) ≤ 1 := by have := len2_one.2 hX1; rw [← hsz.out] at this; omega
          have Hpx : Hid (x ^ m = sgn false x.natAbs) := by unfold Hid; rw [Hpw.out, small_pow hX1 Hm0.out]
          go_wp2_with fail
          have hb := build_any w3 false A3 n3 c3 (x.natAbs) (Nat.le_trans hx16 (by decide)) hN3
          rw [← Hpx.out, Hz.out, He.out] at hb
          refine hb.mono ?_
          clear hb
          rintro e w9 ⟨s9, A9, n9, c9, rfl, hI9, hF9, hO9⟩
          have hBr9 := (hBr3).keep hO9 (by simp)
          obtain ⟨p0, p1, f0, f1⟩ := hBr9.two
          go_wp2
          exact bodyPost_ret (results_row_tmp rfl _ _ (w.heap.size + 1) 24 [_, _] _ rfl (hBr9.put2 _ _) Try.underlying24 rfl isz) rfl (RI.of rfl hI9 hF9 (by omega) (Nat.le_add_right _ _) ((hP3).trans' hO9) (only_put2 _ _ _ _))
        · have hszI : 1 < (sz : Int) := by have : ¬ Nm.len 2 x.natAbs ≤ 1 := fun h => hX1 (len2_one.1 h); rw [← hsz.out] at this; omega
          have hX2 : 0 < x.natAbs := by omega
          go_wp2
          go_loopw [8, 43] (fun pw i wr => ∃ (k : Nat) (Ap : Option Addr) (np cp : Nat), i = .int .i64 (k : Int) ∧ k ≤ m ∧ pw = .slice Ap np cp ∧ NatS wr Ap np cp (x.natAbs ^ k) ∧ Hid (x.natAbs ^ k < big512) ∧ Only [] w3 wr) (fun _ i _ => m - (intOf i).toNat)
          case atStart => exact ⟨0, _, _, _, rfl, Nat.zero_le _, rfl, by rw [Nat.pow_zero]; exact NatS.one w3 1 (by decide) (by decide), by unfold Hid big512; rw [Nat.pow_zero]; decide +kernel, (Only.refl [] w3).alloc _⟩
          case round =>
            obtain ⟨k, Ap, np, cp, rfl, hkm, rfl, hNp, hlp, hOp⟩ := hrel
            have hnp : np ≤ 16 := hNp.n_le (big_w32 (z := ((x.natAbs ^ k : Nat) : Int)) (by simpa using hlp.out))
            by_cases hk : k < m
            · have hkI : (k : Int) < (m : Int) := by omega
              go_wp2_with fail
              refine (mulNat_any wr Ap A3 np cp n3 c3 (x.natAbs ^ k) x.natAbs (by omega) (by omega) hNp (hN3.keep hOp)).mono ?_
              rintro e w4 ⟨A4, n4, c4, rfl, hN4, hO4⟩
              rw [← Nat.pow_succ] at hN4
              have hn4 : n4 ≤ 32 := hN4.n_le (by rw [Nat.pow_succ]; exact w32_prod (big_w32 (z := ((x.natAbs ^ k : Nat) : Int)) (by simpa using hlp.out)) Hxw.out)
              have hO34 := hOp.trans' hO4
              have hBr4 := hBr3.keep hO34 (by simp)
              have hs4 := hO34.size
              go_wp2_with fail
              refine (size_any w4 A4 n4 c4 (x.natAbs ^ k.succ) (by omega) hN4).mono ?_
              rintro e w' ⟨s4, rfl, hs4', hs42, rfl⟩
              by_cases hb : x.natAbs ^ k.succ < big512
              · have hb1 : (s4 : Int) ≤ 512 := by have := big_iff.1 hb; rw [← hs4'.out] at this; omega
                go_wp2
                go_roundw
                case rel => exact ⟨k + 1, A4, n4, c4, by go_num, by omega, rfl, hN4, hb, hO34⟩
                case measure => simp [intOf]; omega
              · have hb1 : 512 < (s4 : Int) := by have : ¬ Nm.len 2 (x.natAbs ^ k.succ) ≤ 512 := fun h => hb (big_iff.2 h); rw [← hs4'.out] at this; omega
                have hno : ¬ (x ^ m).natAbs < big512 := by
                  rw [Hpw.out, sgn_abs]
                  intro h
                  exact hb (Nat.lt_of_le_of_lt (Nat.pow_le_pow_right hX2 (by omega)) h)
                obtain ⟨e1, e2⟩ := lim_no hno
                rw [Hz.out] at e1
                rw [He.out] at e2
                subst e1 e2
                obtain ⟨p0, p1, f0, f1⟩ := hBr4.two
                go_wp2
                exact bodyPost_ret (results_row_tmp rfl _ _ (w.heap.size + 1) 24 [_, _] _ rfl (hBr4.put2 _ _) Try.underlying24 rfl isz) rfl (RI.of rfl (IntS.zero _ _ _) (Frs.none w4) (by omega) (Nat.le_add_right _ _) (hP3.trans' hO34) (only_put2 _ _ _ _))
            · obtain rfl : k = m := by omega
              have hBrr := hBr3.keep hOp (by simp)
              have hsr := hOp.size
              have hPr := hP3.trans' hOp
              go_wp2_with fail
              have hb := build_any wr false Ap np cp (x.natAbs ^ k) (Nat.le_trans hnp (by decide)) hNp
              rw [← Hpw.out, Hz.out, He.out] at hb
              refine hb.mono ?_
              clear hb
              rintro e w9 ⟨s9, A9, n9, c9, rfl, hI9, hF9, hO9⟩
              have hBr9 := (hBrr).keep hO9 (by simp)
              obtain ⟨p0, p1, f0, f1⟩ := hBr9.two
              go_wp2
              exact bodyPost_ret (results_row_tmp rfl _ _ (w.heap.size + 1) 24 [_, _] _ rfl (hBr9.put2 _ _) Try.underlying24 rfl isz) rfl (RI.of rfl hI9 hF9 (by omega) (Nat.le_add_right _ _) ((hPr).trans' hO9) (only_put2 _ _ _ _))
      · obtain rfl : ng = true := by rw [Hng.out, ← Hp.out]; rfl
        go_wp2_with fail
        refine (size_any w3 A3 n3 c3 x.natAbs (by omega) hN3).mono ?_
        rintro e w' ⟨sz, rfl, hsz, hsz2, rfl⟩
        by_cases hX1 : x.natAbs ≤ 1
        · have hszI : (sz : Int) ≤ 1 := by have := len2_one.2 hX1; rw [← hsz.out] at this; omega
          have Hpx : Hid (x ^ m = sgn true x.natAbs) := by unfold Hid; rw [Hpw.out, small_pow hX1 Hm0.out]
          go_wp2_with fail
          have hb := build_any w3 true A3 n3 c3 (x.natAbs) (Nat.le_trans hx16 (by decide)) hN3
          rw [← Hpx.out, Hz.out, He.out] at hb
          refine hb.mono ?_
          clear hb
          rintro e w9 ⟨s9, A9, n9, c9, rfl, hI9, hF9, hO9⟩
          have hBr9 := (hBr3).keep hO9 (by simp)
          obtain ⟨p0, p1, f0, f1⟩ := hBr9.two
          go_wp2
          exact bodyPost_ret (results_row_tmp rfl _ _ (w.heap.size + 1) 24 [_, _] _ rfl (hBr9.put2 _ _) Try.underlying24 rfl isz) rfl (RI.of rfl hI9 hF9 (by omega) (Nat.le_add_right _ _) ((hP3).trans' hO9) (only_put2 _ _ _ _))
        · have hszI : 1 < (sz : Int) := by have : ¬ Nm.len 2 x.natAbs ≤ 1 := fun h => hX1 (len2_one.1 h); rw [← hsz.out] at this; omega
          have hX2 : 0 < x.natAbs := by omega
          go_wp2
          go_loopw [8, 43] (fun pw i wr => ∃ (k : Nat) (Ap : Option Addr) (np cp : Nat), i = .int .i64 (k : Int) ∧ k ≤ m ∧ pw = .slice Ap np cp ∧ NatS wr Ap np cp (x.natAbs ^ k) ∧ Hid (x.natAbs ^ k < big512) ∧ Only [] w3 wr) (fun _ i _ => m - (intOf i).toNat)
          case atStart => exact ⟨0, _, _, _, rfl, Nat.zero_le _, rfl, by rw [Nat.pow_zero]; exact NatS.one w3 1 (by decide) (by decide), by unfold Hid big512; rw [Nat.pow_zero]; decide +kernel, (Only.refl [] w3).alloc _⟩
          case round =>
            obtain ⟨k, Ap, np, cp, rfl, hkm, rfl, hNp, hlp, hOp⟩ := hrel
            have hnp : np ≤ 16 := hNp.n_le (big_w32 (z := ((x.natAbs ^ k : Nat) : Int)) (by simpa using hlp.out))
            by_cases hk : k < m
            · have hkI : (k : Int) < (m : Int) := by omega
              go_wp2_with fail
              refine (mulNat_any wr Ap A3 np cp n3 c3 (x.natAbs ^ k) x.natAbs (by omega) (by omega) hNp (hN3.keep hOp)).mono ?_
              rintro e w4 ⟨A4, n4, c4, rfl, hN4, hO4⟩
              rw [← Nat.pow_succ] at hN4
              have hn4 : n4 ≤ 32 := hN4.n_le (by rw [Nat.pow_succ]; exact w32_prod (big_w32 (z := ((x.natAbs ^ k : Nat) : Int)) (by simpa using hlp.out)) Hxw.out)
              have hO34 := hOp.trans' hO4
              have hBr4 := hBr3.keep hO34 (by simp)
              have hs4 := hO34.size
              go_wp2_with fail
              refine (size_any w4 A4 n4 c4 (x.natAbs ^ k.succ) (by omega) hN4).mono ?_
              rintro e w' ⟨s4, rfl, hs4', hs42, rfl⟩
              by_cases hb : x.natAbs ^ k.succ < big512
              · have hb1 : (s4 : Int) ≤ 512 := by have := big_iff.1 hb; rw [← hs4'.out] at this; omega
                go_wp2
                go_roundw
                case rel => exact ⟨k + 1, A4, n4, c4, by go_num, by omega, rfl, hN4, hb, hO34⟩
                case measure => simp [intOf]; omega
              · have hb1 : 512 < (s4 : Int) := by have : ¬ Nm.len 2 (x.natAbs ^ k.succ) ≤ 512 := fun h => hb (big_iff.2 h); rw [← hs4'.out] at this; omega
                have hno : ¬ (x ^ m).natAbs < big512 := by
                  rw [Hpw.out, sgn_abs]
                  intro h
                  exact hb (Nat.lt_of_le_of_lt (Nat.pow_le_pow_right hX2 (by omega)) h)
                obtain ⟨e1, e2⟩ := lim_no hno
                rw [Hz.out] at e1
                rw [He.out] at e2
                subst e1 e2
                obtain ⟨p0, p1, f0, f1⟩ := hBr4.two
                go_wp2
                exact bodyPost_ret (results_row_tmp rfl _ _ (w.heap.size + 1) 24 [_, _] _ rfl (hBr4.put2 _ _) Try.underlying24 rfl isz) rfl (RI.of rfl (IntS.zero _ _ _) (Frs.none w4) (by omega) (Nat.le_add_right _ _) (hP3.trans' hO34) (only_put2 _ _ _ _))
            · obtain rfl : k = m := by omega
              have hBrr := hBr3.keep hOp (by simp)
              have hsr := hOp.size
              have hPr := hP3.trans' hOp
              go_wp2_with fail
              have hb := build_any wr true Ap np cp (x.natAbs ^ k) (Nat.le_trans hnp (by decide)) hNp
              rw [← Hpw.out, Hz.out, He.out] at hb
              refine hb.mono ?_
              clear hb
              rintro e w9 ⟨s9, A9, n9, c9, rfl, hI9, hF9, hO9⟩
              have hBr9 := (hBrr).keep hO9 (by simp)
              obtain ⟨p0, p1, f0, f1⟩ := hBr9.two
              go_wp2
              exact bodyPost_ret (results_row_tmp rfl _ _ (w.heap.size + 1) 24 [_, _] _ rfl (hBr9.put2 _ _) Try.underlying24 rfl isz) rfl (RI.of rfl hI9 hF9 (by omega) (Nat.le_add_right _ _) ((hPr).trans' hO9) (only_put2 _ _ _ _))
end Go.Proofs.Ytddfphneidcibaa
