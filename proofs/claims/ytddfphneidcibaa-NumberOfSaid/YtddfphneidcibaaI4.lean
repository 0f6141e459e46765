/-
  THE WALKS of number's Add, Sub, Mul, on valid Ints.
-/
import Derived.Test.YtddfphneidcibaaI3
namespace Go.Proofs.Ytddfphneidcibaa
open Go.RowKit
open Nm (W32)

/-- Two arguments and a result in blocks of their own. -/
def box3 (w : World) (a b c d : Value) : World := ((w.alloc (.cells #[a, b] 24)).alloc (.cells #[c, d] 24)).alloc (.cells #[.bool false, .slice none 0 0] 24)
theorem box3_spec (w : World) (a b c d : Value) : Blk (box3 w a b c d) w.heap.size 24 [a, b] ∧ Blk (box3 w a b c d) (w.heap.size + 1) 24 [c, d] ∧ Blk (box3 w a b c d) (w.heap.size + 2) 24 [.bool false, .slice none 0 0] ∧ Only [] w (box3 w a b c d) ∧ (box3 w a b c d).heap.size = w.heap.size + 3 := by
  have h1 := Blk.new w 24 [a, b]
  have h2 := Blk.new (w.alloc (.cells #[a, b] 24)) 24 [c, d]
  have h3 := Blk.new ((w.alloc (.cells #[a, b] 24)).alloc (.cells #[c, d] 24)) 24 [.bool false, .slice none 0 0]
  refine ⟨(h1.alloc _).alloc _, ?_, ?_, (((Only.refl [] w).alloc _).alloc _).alloc _, ?_⟩
  · have : (w.alloc (.cells #[a, b] 24)).heap.size = w.heap.size + 1 := by simp
    rw [this] at h2
    exact h2.alloc _
  · have : ((w.alloc (.cells #[a, b] 24)).alloc (.cells #[c, d] 24)).heap.size = w.heap.size + 2 := by simp
    rw [this] at h3
    exact h3
  · simp [box3]
theorem IntS.nat {w : World} {s : Bool} {A : Option Addr} {n c : Nat} {z : Int} (h : IntS w s A n c z) : sgn s z.natAbs = z := by
  rw [h.sg]
  unfold sgn
  by_cases hz : z < 0
  · rw [decide_eq_true hz, if_pos rfl]; omega
  · rw [decide_eq_false hz, if_neg (by simp)]; omega
theorem big_w32 {z : Int} (h : z.natAbs < big512) : z.natAbs < W32 ^ 16 := by
  have : W32 ^ 16 = big512 := by unfold big512; decide +kernel
  rw [this]
  exact h
theorem w32_16 {X : Nat} (h : X < W32 ^ 16) : X < W32 ^ 100 := Nat.lt_of_lt_of_le h (Nat.pow_le_pow_right (by decide) (by decide))

theorem sgn_not (s : Bool) (X : Nat) : sgn (!s) X = - sgn s X := by
  unfold sgn
  cases s <;> simp
theorem sgn_mul (s t : Bool) (X Y : Nat) : sgn (s != t) (X * Y) = sgn s X * sgn t Y := by
  unfold sgn
  cases s <;> cases t <;> simp [Int.neg_mul, Int.mul_neg]
theorem w32_prod {X Y : Nat} (hX : X < W32 ^ 16) (hY : Y < W32 ^ 16) : X * Y < W32 ^ 32 := by
  have : X * Y < W32 ^ 16 * W32 ^ 16 := Nat.mul_lt_mul'' hX hY
  rwa [← Nat.pow_add] at this

set_option maxHeartbeats 4000000 in
set_option maxRecDepth 100000 in
theorem add_any (w : World) (s t : Bool) (A B : Option Addr) (n c m d : Nat) (x y : Int) (hx : x.natAbs < big512) (hy : y.natAbs < big512) (hA : IntS w s A n c x) (hB : IntS w t B m d y) :
    Calls Try.prog 44 #[.agg #[.bool s, .slice A n c], .agg #[.bool t, .slice B m d]] w (RI w (limZ (x + y)) (limE (x + y))) := by
  obtain ⟨hBa, hBb, hBr, hO0, hsz⟩ := box3_spec w (.bool s) (.slice A n c) (.bool t) (.slice B m d)
  have hn := hA.n_le hx
  have hm := hB.n_le hy
  have hxw := big_w32 hx
  have hyw := big_w32 hy
  have hex : sgn s x.natAbs + sgn t y.natAbs = x + y := by rw [hA.nat, hB.nat]
  have Hx := Lib.hid hx
  have Hy := Lib.hid hy
  have Hxw := Lib.hid hxw
  have Hyw := Lib.hid hyw
  have Hex := Lib.hid hex
  generalize hz : limZ (x + y) = z
  generalize he : limE (x + y) = er
  have Hz := Lib.hid hz
  have He := Lib.hid he
  obtain ⟨K0, K1, -, -⟩ := hBa.two
  obtain ⟨L0, L1, -, -⟩ := hBb.two
  clear hx hy hxw hyw hex hz he
  unfold box3 at *
  go_enter Try.func44, Try.ntmps44
  go_wp2_with fail
  clear K0 K1 L0 L1
  refine (valid_yes _ s A n c x (hA.keep hO0) Hx.out).mono ?_
  rintro e w1 ⟨rfl, hO1⟩
  obtain ⟨K0, K1, -, -⟩ := (hBa.keep hO1 (by simp)).two
  obtain ⟨L0, L1, -, -⟩ := (hBb.keep hO1 (by simp)).two
  go_wp2_with fail
  clear K0 K1 L0 L1
  refine (valid_yes _ t B m d y ((hB.keep hO0).keep hO1) Hy.out).mono ?_
  rintro e w2 ⟨rfl, hO2⟩
  have hQ2 := hO1.trans' hO2
  obtain ⟨k0, k1, -, -⟩ := (hBa.keep hQ2 (by simp)).two
  obtain ⟨l0, l1, -, -⟩ := (hBb.keep hQ2 (by simp)).two
  have hA2 := (hA.keep hO0).keep hQ2
  have hB2 := (hB.keep hO0).keep hQ2
  have hBr2 := hBr.keep hQ2 (by simp)
  have hP2 := hO0.trans' hQ2
  have hs2 : w.heap.size + 3 ≤ w2.heap.size := by rw [← hsz]; exact hQ2.size
  have hl0 : w.heap.size < w2.heap.size := by omega
  have hl1 : w.heap.size + 1 < w2.heap.size := by omega
  clear hBa hBb hBr hO0 hsz hO1 hO2 hQ2
  go_wp2
  refine Reg.wp [w.heap.size + 2] [.r 0, .r 1, .r 2, .r 3, .r 5, .r 6, .r 7, .r 8, .e 4, .e 9, .e 10, .r 11, .r 12, .e 13, .r 14] (by kernel_rfl) (by kernel_rfl) (fun d _ _ _ _ h => by cases d <;> exact h) ?_
  simp only [Reg.pick, List.getD_cons_succ, List.getD_cons_zero]
  iterate 8 (apply Reg.read; (· (intro t K hK; go_simp; (try go_ints); (try ((go_ite <;> go_prune); go_simp)); (try go_ints); exact hK _ rfl)); (· (intro K hK; go_simp; exact hK _ rfl)))
  clear k0 k1 l0 l1
  refine Reg.eff ?_
  go_wp2_with (go_at_call 85; refine (natOf_any w2.drew A n c x.natAbs (by omega) hA2.by_.drew).mono ?_; rintro e w3 ⟨A3, n3, c3, rfl, hN3, hO3⟩)
  refine ⟨hO3.mono (by simp), ?_⟩
  refine Reg.eff ?_
  go_wp2_with (go_at_call 85; refine (natOf_any w3 B m d y.natAbs (by omega) (hB2.by_.drew.keep hO3)).mono ?_; rintro e w4 ⟨A4, n4, c4, rfl, hN4, hO4⟩)
  refine ⟨hO4.mono (by simp), ?_⟩
  have hN3' := hN3.keep hO4
  clear hN3
  refine Reg.eff ?_
  go_wp2_with (go_at_call 102
               have hb := addSigned_any w4 s t A3 A4 n3 c3 n4 c4 x.natAbs y.natAbs (w32_16 Hxw.out) (w32_16 Hyw.out) hN3' hN4
               rw [Hex.out, Hz.out, He.out] at hb
               refine hb.mono ?_
               rintro e w5 ⟨s2, A2, n2, c2, rfl, hI, hF, hO5⟩)
  refine ⟨hO5.mono (by simp), ?_⟩
  have hsz4 : w2.heap.size ≤ w4.heap.size := (hO3.trans' hO4).size
  have hQ5 : Only [] w2 w5 := Only.undrew (w := w2) ((hO3.trans' hO4).trans' hO5)
  have hBr5 := hBr2.keep hQ5 (by simp)
  obtain ⟨k0, k1, f0, f1⟩ := hBr5.two
  have hsw := hQ5.size
  iterate 2 (apply Reg.read; (· (intro t K hK; go_simp; (try go_ints); (try ((go_ite <;> go_prune); go_simp)); (try go_ints); exact hK _ rfl)); (· (intro K hK; go_simp; exact hK _ rfl)))
  refine Reg.eff ?_
  go_wp2
  refine ⟨only_put2 _ _ _ _, ?_⟩
  (apply Reg.read; (· (intro t K hK; go_simp; (try go_ints); (try ((go_ite <;> go_prune); go_simp)); (try go_ints); exact hK _ rfl)); (· (intro K hK; go_simp; exact hK _ rfl)))
  refine Reg.fin ?_
  go_wp2
  exact bodyPost_ret (results_row_tmp rfl _ _ (w.heap.size + 2) 24 [_, _] _ rfl (hBr5.put2 _ _) Try.underlying24 rfl isz) rfl (RI.of rfl hI hF (Nat.lt_of_lt_of_le (show w.heap.size + 2 < w2.heap.size by omega) hsz4) (Nat.le_add_right _ _) (hP2.trans' hQ5) (only_put2 _ _ _ _))
set_option maxHeartbeats 4000000 in
set_option maxRecDepth 100000 in
theorem sub_any (w : World) (s t : Bool) (A B : Option Addr) (n c m d : Nat) (x y : Int) (hx : x.natAbs < big512) (hy : y.natAbs < big512) (hA : IntS w s A n c x) (hB : IntS w t B m d y) :
    Calls Try.prog 45 #[.agg #[.bool s, .slice A n c], .agg #[.bool t, .slice B m d]] w (RI w (limZ (x - y)) (limE (x - y))) := by
  obtain ⟨hBa, hBb, hBr, hO0, hsz⟩ := box3_spec w (.bool s) (.slice A n c) (.bool t) (.slice B m d)
  have hn := hA.n_le hx
  have hm := hB.n_le hy
  have hxw := big_w32 hx
  have hyw := big_w32 hy
  have hex : sgn s x.natAbs + sgn (!t) y.natAbs = x - y := by rw [sgn_not, hA.nat, hB.nat]; omega
  have Hx := Lib.hid hx
  have Hy := Lib.hid hy
  have Hxw := Lib.hid hxw
  have Hyw := Lib.hid hyw
  have Hex := Lib.hid hex
  generalize hz : limZ (x - y) = z
  generalize he : limE (x - y) = er
  have Hz := Lib.hid hz
  have He := Lib.hid he
  obtain ⟨K0, K1, -, -⟩ := hBa.two
  obtain ⟨L0, L1, -, -⟩ := hBb.two
  clear hx hy hxw hyw hex hz he
  unfold box3 at *
  go_enter Try.func45, Try.ntmps45
  go_wp2_with fail
  clear K0 K1 L0 L1
  refine (valid_yes _ s A n c x (hA.keep hO0) Hx.out).mono ?_
  rintro e w1 ⟨rfl, hO1⟩
  obtain ⟨K0, K1, -, -⟩ := (hBa.keep hO1 (by simp)).two
  obtain ⟨L0, L1, -, -⟩ := (hBb.keep hO1 (by simp)).two
  go_wp2_with fail
  clear K0 K1 L0 L1
  refine (valid_yes _ t B m d y ((hB.keep hO0).keep hO1) Hy.out).mono ?_
  rintro e w2 ⟨rfl, hO2⟩
  have hQ2 := hO1.trans' hO2
  obtain ⟨k0, k1, -, -⟩ := (hBa.keep hQ2 (by simp)).two
  obtain ⟨l0, l1, -, -⟩ := (hBb.keep hQ2 (by simp)).two
  have hA2 := (hA.keep hO0).keep hQ2
  have hB2 := (hB.keep hO0).keep hQ2
  have hBr2 := hBr.keep hQ2 (by simp)
  have hP2 := hO0.trans' hQ2
  have hs2 : w.heap.size + 3 ≤ w2.heap.size := by rw [← hsz]; exact hQ2.size
  have hl0 : w.heap.size < w2.heap.size := by omega
  have hl1 : w.heap.size + 1 < w2.heap.size := by omega
  clear hBa hBb hBr hO0 hsz hO1 hO2 hQ2
  go_wp2
  refine Reg.wp [w.heap.size + 2] [.r 0, .r 1, .r 2, .r 3, .r 5, .r 6, .r 7, .r 8, .r 9, .e 4, .e 10, .e 11, .r 12, .r 13, .e 14, .r 15] (by kernel_rfl) (by kernel_rfl) (fun d _ _ _ _ h => by cases d <;> exact h) ?_
  simp only [Reg.pick, List.getD_cons_succ, List.getD_cons_zero]
  iterate 9 (apply Reg.read; (· (intro t K hK; go_simp; (try go_ints); (try ((go_ite <;> go_prune); go_simp)); (try go_ints); exact hK _ rfl)); (· (intro K hK; go_simp; exact hK _ rfl)))
  clear k0 k1 l0 l1
  refine Reg.eff ?_
  go_wp2_with (go_at_call 85; refine (natOf_any w2.drew A n c x.natAbs (by omega) hA2.by_.drew).mono ?_; rintro e w3 ⟨A3, n3, c3, rfl, hN3, hO3⟩)
  refine ⟨hO3.mono (by simp), ?_⟩
  refine Reg.eff ?_
  go_wp2_with (go_at_call 85; refine (natOf_any w3 B m d y.natAbs (by omega) (hB2.by_.drew.keep hO3)).mono ?_; rintro e w4 ⟨A4, n4, c4, rfl, hN4, hO4⟩)
  refine ⟨hO4.mono (by simp), ?_⟩
  have hN3' := hN3.keep hO4
  clear hN3
  refine Reg.eff ?_
  go_wp2_with (go_at_call 102
               have hb := addSigned_any w4 s (!t) A3 A4 n3 c3 n4 c4 x.natAbs y.natAbs (w32_16 Hxw.out) (w32_16 Hyw.out) hN3' hN4
               rw [Hex.out, Hz.out, He.out] at hb
               refine hb.mono ?_
               rintro e w5 ⟨s2, A2, n2, c2, rfl, hI, hF, hO5⟩)
  refine ⟨hO5.mono (by simp), ?_⟩
  have hsz4 : w2.heap.size ≤ w4.heap.size := (hO3.trans' hO4).size
  have hQ5 : Only [] w2 w5 := Only.undrew (w := w2) ((hO3.trans' hO4).trans' hO5)
  have hBr5 := hBr2.keep hQ5 (by simp)
  obtain ⟨k0, k1, f0, f1⟩ := hBr5.two
  have hsw := hQ5.size
  iterate 2 (apply Reg.read; (· (intro t K hK; go_simp; (try go_ints); (try ((go_ite <;> go_prune); go_simp)); (try go_ints); exact hK _ rfl)); (· (intro K hK; go_simp; exact hK _ rfl)))
  refine Reg.eff ?_
  go_wp2
  refine ⟨only_put2 _ _ _ _, ?_⟩
  (apply Reg.read; (· (intro t K hK; go_simp; (try go_ints); (try ((go_ite <;> go_prune); go_simp)); (try go_ints); exact hK _ rfl)); (· (intro K hK; go_simp; exact hK _ rfl)))
  refine Reg.fin ?_
  go_wp2
  exact bodyPost_ret (results_row_tmp rfl _ _ (w.heap.size + 2) 24 [_, _] _ rfl (hBr5.put2 _ _) Try.underlying24 rfl isz) rfl (RI.of rfl hI hF (Nat.lt_of_lt_of_le (show w.heap.size + 2 < w2.heap.size by omega) hsz4) (Nat.le_add_right _ _) (hP2.trans' hQ5) (only_put2 _ _ _ _))
set_option maxHeartbeats 4000000 in
set_option maxRecDepth 100000 in
theorem mul_any (w : World) (s t : Bool) (A B : Option Addr) (n c m d : Nat) (x y : Int) (hx : x.natAbs < big512) (hy : y.natAbs < big512) (hA : IntS w s A n c x) (hB : IntS w t B m d y) :
    Calls Try.prog 46 #[.agg #[.bool s, .slice A n c], .agg #[.bool t, .slice B m d]] w (RI w (limZ (x * y)) (limE (x * y))) := by
  obtain ⟨hBa, hBb, hBr, hO0, hsz⟩ := box3_spec w (.bool s) (.slice A n c) (.bool t) (.slice B m d)
  have hn := hA.n_le hx
  have hm := hB.n_le hy
  have hxw := big_w32 hx
  have hyw := big_w32 hy
  have hex : sgn (s != t) (x.natAbs * y.natAbs) = x * y := by rw [sgn_mul, hA.nat, hB.nat]
  have Hx := Lib.hid hx
  have Hy := Lib.hid hy
  have Hxw := Lib.hid hxw
  have Hyw := Lib.hid hyw
  have Hex := Lib.hid hex
  generalize hz : limZ (x * y) = z
  generalize he : limE (x * y) = er
  have Hz := Lib.hid hz
  have He := Lib.hid he
  obtain ⟨K0, K1, -, -⟩ := hBa.two
  obtain ⟨L0, L1, -, -⟩ := hBb.two
  clear hx hy hxw hyw hex hz he
  unfold box3 at *
  go_enter Try.func46, Try.ntmps46
  go_wp2_with fail
  clear K0 K1 L0 L1
  refine (valid_yes _ s A n c x (hA.keep hO0) Hx.out).mono ?_
  rintro e w1 ⟨rfl, hO1⟩
  obtain ⟨K0, K1, -, -⟩ := (hBa.keep hO1 (by simp)).two
  obtain ⟨L0, L1, -, -⟩ := (hBb.keep hO1 (by simp)).two
  go_wp2_with fail
  clear K0 K1 L0 L1
  refine (valid_yes _ t B m d y ((hB.keep hO0).keep hO1) Hy.out).mono ?_
  rintro e w2 ⟨rfl, hO2⟩
  have hQ2 := hO1.trans' hO2
  obtain ⟨k0, k1, -, -⟩ := (hBa.keep hQ2 (by simp)).two
  obtain ⟨l0, l1, -, -⟩ := (hBb.keep hQ2 (by simp)).two
  have hA2 := (hA.keep hO0).keep hQ2
  have hB2 := (hB.keep hO0).keep hQ2
  have hBr2 := hBr.keep hQ2 (by simp)
  have hP2 := hO0.trans' hQ2
  have hs2 : w.heap.size + 3 ≤ w2.heap.size := by rw [← hsz]; exact hQ2.size
  have hl0 : w.heap.size < w2.heap.size := by omega
  have hl1 : w.heap.size + 1 < w2.heap.size := by omega
  clear hBa hBb hBr hO0 hsz hO1 hO2 hQ2
  go_wp2
  refine Reg.wp [w.heap.size + 2] [.r 0, .r 1, .r 2, .r 3, .r 4, .r 5, .r 6, .r 8, .r 9, .e 7, .e 10, .e 11, .e 12, .r 13, .r 14, .e 15, .r 16] (by kernel_rfl) (by kernel_rfl) (fun d _ _ _ _ h => by cases d <;> exact h) ?_
  simp only [Reg.pick, List.getD_cons_succ, List.getD_cons_zero]
  iterate 9 (apply Reg.read; (· (intro t K hK; go_simp; (try go_ints); (try ((go_ite <;> go_prune); go_simp)); (try go_ints); exact hK _ rfl)); (· (intro K hK; go_simp; exact hK _ rfl)))
  clear k0 k1 l0 l1
  refine Reg.eff ?_
  go_wp2_with (go_at_call 85; refine (natOf_any w2.drew A n c x.natAbs (by omega) hA2.by_.drew).mono ?_; rintro e w3 ⟨A3, n3, c3, rfl, hN3, hO3⟩)
  refine ⟨hO3.mono (by simp), ?_⟩
  refine Reg.eff ?_
  go_wp2_with (go_at_call 85; refine (natOf_any w3 B m d y.natAbs (by omega) (hB2.by_.drew.keep hO3)).mono ?_; rintro e w4 ⟨A4, n4, c4, rfl, hN4, hO4⟩)
  refine ⟨hO4.mono (by simp), ?_⟩
  have hN3' := hN3.keep hO4
  clear hN3
  refine Reg.eff ?_
  go_wp2_with (go_at_call 87; refine (mulNat_any w4 A3 A4 n3 c3 n4 c4 x.natAbs y.natAbs (Nat.le_trans (hN3'.n_le Hxw.out) (by decide)) (Nat.le_trans (hN4.n_le Hyw.out) (by decide)) hN3' hN4).mono ?_; rintro e w6 ⟨A6, n6, c6, rfl, hN6, hO6⟩)
  refine ⟨hO6.mono (by simp), ?_⟩
  refine Reg.eff ?_
  go_wp2_with (go_at_call 82
               have hb := build_any w6 (s != t) A6 n6 c6 (x.natAbs * y.natAbs) (Nat.le_trans (hN6.n_le (w32_prod Hxw.out Hyw.out)) (by decide)) hN6
               rw [Hex.out, Hz.out, He.out] at hb
               refine hb.mono ?_
               rintro e w5 ⟨s2, A2, n2, c2, rfl, hI, hF, hO5⟩)
  refine ⟨hO5.mono (by simp), ?_⟩
  have hsz4 : w2.heap.size ≤ w6.heap.size := ((hO3.trans' hO4).trans' hO6).size
  have hQ5 : Only [] w2 w5 := Only.undrew (w := w2) (((hO3.trans' hO4).trans' hO6).trans' hO5)
  have hBr5 := hBr2.keep hQ5 (by simp)
  obtain ⟨k0, k1, f0, f1⟩ := hBr5.two
  have hsw := hQ5.size
  iterate 2 (apply Reg.read; (· (intro t K hK; go_simp; (try go_ints); (try ((go_ite <;> go_prune); go_simp)); (try go_ints); exact hK _ rfl)); (· (intro K hK; go_simp; exact hK _ rfl)))
  refine Reg.eff ?_
  go_wp2
  refine ⟨only_put2 _ _ _ _, ?_⟩
  (apply Reg.read; (· (intro t K hK; go_simp; (try go_ints); (try ((go_ite <;> go_prune); go_simp)); (try go_ints); exact hK _ rfl)); (· (intro K hK; go_simp; exact hK _ rfl)))
  refine Reg.fin ?_
  go_wp2
  exact bodyPost_ret (results_row_tmp rfl _ _ (w.heap.size + 2) 24 [_, _] _ rfl (hBr5.put2 _ _) Try.underlying24 rfl isz) rfl (RI.of rfl hI hF (Nat.lt_of_lt_of_le (show w.heap.size + 2 < w2.heap.size by omega) hsz4) (Nat.le_add_right _ _) (hP2.trans' hQ5) (only_put2 _ _ _ _))
end Go.Proofs.Ytddfphneidcibaa
