/-
  THE WALKS of number's Neg and Compare on valid Ints.
-/
import Derived.Test.YtddfphneidcibaaT1
namespace Go.Proofs.Ytddfphneidcibaa
open Go.RowKit
open Nm (W32)

theorem box2_spec (w : World) (a b c d : Value) : Blk ((w.alloc (.cells #[a, b] 24)).alloc (.cells #[c, d] 24)) w.heap.size 24 [a, b] ∧ Blk ((w.alloc (.cells #[a, b] 24)).alloc (.cells #[c, d] 24)) (w.heap.size + 1) 24 [c, d] ∧ Only [] w ((w.alloc (.cells #[a, b] 24)).alloc (.cells #[c, d] 24)) ∧ ((w.alloc (.cells #[a, b] 24)).alloc (.cells #[c, d] 24)).heap.size = w.heap.size + 2 := by
  have h1 := Blk.new w 24 [a, b]
  have h2 := Blk.new (w.alloc (.cells #[a, b] 24)) 24 [c, d]
  have : (w.alloc (.cells #[a, b] 24)).heap.size = w.heap.size + 1 := by simp
  rw [this] at h2
  exact ⟨h1.alloc _, h2, ((Only.refl [] w).alloc _).alloc _, by simp⟩

set_option maxHeartbeats 4000000 in
set_option maxRecDepth 100000 in
theorem neg_any (w : World) (s : Bool) (A : Option Addr) (n c : Nat) (x : Int) (hx : x.natAbs < big512) (hA : IntS w s A n c x) :
    Calls Try.prog 39 #[.agg #[.bool s, .slice A n c]] w (RI w (-x) 0) := by
  obtain ⟨hBa, hBr, hO0, hsz⟩ := box2_spec w (.bool s) (.slice A n c) (.bool false) (.slice none 0 0)
  have hn := hA.n_le hx
  have Hx := Lib.hid hx
  have Hxw := Lib.hid (big_w32 hx)
  have hex : sgn (!s) x.natAbs = -x := by rw [sgn_not, hA.nat]
  have Hex := Lib.hid hex
  have hlim := lim_ok (z := -x) (by rw [Int.natAbs_neg]; exact hx)
  have Hlim := Lib.hid hlim
  obtain ⟨K0, K1, -, -⟩ := hBa.two
  clear hx hex hlim
  go_enter Try.func39, Try.ntmps39
  go_wp2_with fail
  clear K0 K1
  refine (valid_yes _ s A n c x (hA.keep hO0) Hx.out).mono ?_
  rintro e w2 ⟨rfl, hO2⟩
  obtain ⟨k0, k1, -, -⟩ := (hBa.keep hO2 (by simp)).two
  have hA2 := (hA.keep hO0).keep hO2
  have hBr2 := hBr.keep hO2 (by simp)
  have hP2 := hO0.trans' hO2
  have hs2 : w.heap.size + 2 ≤ w2.heap.size := by rw [← hsz]; exact hO2.size
  have hl0 : w.heap.size < w2.heap.size := by omega
  clear hBa hBr hO0 hsz hO2
  go_wp2
  refine Reg.wp [w.heap.size + 1] [.r 0, .r 1, .r 2, .r 3, .r 4, .e 5, .e 6, .r 7, .r 8, .e 9, .r 10] (by kernel_rfl) (by kernel_rfl) (fun d _ _ _ _ h => by cases d <;> exact h) ?_
  simp only [Reg.pick, List.getD_cons_succ, List.getD_cons_zero]
  iterate 5 (apply Reg.read; (· (intro t K hK; go_simp; (try go_ints); (try ((go_ite <;> go_prune); go_simp)); (try go_ints); exact hK _ rfl)); (· (intro K hK; go_simp; exact hK _ rfl)))
  clear k0 k1
  refine Reg.eff ?_
  go_wp2_with (go_at_call 85; refine (natOf_any w2.drew A n c x.natAbs (by omega) hA2.by_.drew).mono ?_; rintro e w3 ⟨A3, n3, c3, rfl, hN3, hO3⟩)
  refine ⟨hO3.mono (by simp), ?_⟩
  refine Reg.eff ?_
  go_wp2_with (go_at_call 82
               have hb := build_any w3 (!s) A3 n3 c3 x.natAbs (Nat.le_trans (hN3.n_le Hxw.out) (by decide)) hN3
               rw [Hex.out, Hlim.out.1, Hlim.out.2] at hb
               refine hb.mono ?_
               rintro e w5 ⟨s2, A2, n2, c2, rfl, hI, hF, hO5⟩)
  refine ⟨hO5.mono (by simp), ?_⟩
  have hsz4 : w2.heap.size ≤ w3.heap.size := hO3.size
  have hQ5 : Only [] w2 w5 := Only.undrew (w := w2) (hO3.trans' hO5)
  have hBr5 := hBr2.keep hQ5 (by simp)
  obtain ⟨k0, k1, f0, f1⟩ := hBr5.two
  have hsw := hQ5.size
  iterate 2 (apply Reg.read; (· (intro t K hK; go_simp; (try go_ints); (try ((go_ite <;> go_prune); go_simp)); (try go_ints); exact hK _ rfl)); (· (intro K hK; go_simp; exact hK _ rfl)))
  refine Reg.eff ?_
  go_wp2
  refine ⟨only_put2 _ _ _ _, ?_⟩
  (apply Reg.read; (· (intro t K hK; go_simp; (try go_ints); (try ((go_ite <;> go_prune); go_simp)); (try go_ints); exact hK _ rfl)); (· (intro K hK; go_simp; exact hK _ rfl)))
  refine Reg.fin ?_
  go_wp2
  exact bodyPost_ret (results_row_tmp rfl _ _ (w.heap.size + 1) 24 [_, _] _ rfl (hBr5.put2 _ _) Try.underlying24 rfl isz) rfl (RI.of rfl hI hF (Nat.lt_of_lt_of_le (show w.heap.size + 1 < w2.heap.size by omega) hsz4) (Nat.le_add_right _ _) (hP2.trans' hQ5) (only_put2 _ _ _ _))

def CmpZ (x y r : Int) : Prop := (x < y ∧ r = -1) ∨ (x = y ∧ r = 0) ∨ (y < x ∧ r = 1)

set_option maxHeartbeats 4000000 in
set_option maxRecDepth 100000 in
theorem compare_any (w : World) (s t : Bool) (A B : Option Addr) (n c m d : Nat) (x y : Int) (hx : x.natAbs < big512) (hy : y.natAbs < big512) (hA : IntS w s A n c x) (hB : IntS w t B m d y) :
    Calls Try.prog 47 #[.agg #[.bool s, .slice A n c], .agg #[.bool t, .slice B m d]] w fun e w' => ∃ r : Int, e = .returned (.int .i64 r) ∧ Hid (CmpZ x y r) ∧ Only [] w w' := by
  obtain ⟨hBa, hBb, hO0, hsz⟩ := box2_spec w (.bool s) (.slice A n c) (.bool t) (.slice B m d)
  have hn := hA.n_le hx
  have hm := hB.n_le hy
  have Hx := Lib.hid hx
  have Hy := Lib.hid hy
  have Hxw := Lib.hid (big_w32 hx)
  have Hyw := Lib.hid (big_w32 hy)
  have Hs := Lib.hid hA.sg
  have Ht := Lib.hid hB.sg
  obtain ⟨K0, K1, -, -⟩ := hBa.two
  obtain ⟨L0, L1, -, -⟩ := hBb.two
  clear hx hy
  go_enter Try.func47, Try.ntmps47
  go_wp2_with fail
  clear K0 K1 L0 L1
  refine (valid_yes _ s A n c x (hA.keep hO0) Hx.out).mono ?_
  rintro e w1 ⟨rfl, hO1⟩
  obtain ⟨K0, K1, -, -⟩ := (hBa.keep hO1 (by simp)).two
  obtain ⟨L0, L1, -, -⟩ := (hBb.keep hO1 (by simp)).two
  go_wp2_with fail
  clear K0 K1 L0 L1
  refine (valid_yes _ t B m d y ((hB.keep hO0).keep hO1) Hy.out).mono ?_
  rintro e w2 ⟨rfl, hO2⟩
  have hQ2 := hO1.trans' hO2
  have hBa2 := hBa.keep hQ2 (by simp)
  obtain ⟨k0, k1, -, -⟩ := hBa2.two
  obtain ⟨l0, l1, -, -⟩ := (hBb.keep hQ2 (by simp)).two
  have hA2 := (hA.keep hO0).keep hQ2
  have hB2 := (hB.keep hO0).keep hQ2
  have hP2 := hO0.trans' hQ2
  have hs2 : w.heap.size + 2 ≤ w2.heap.size := by rw [← hsz]; exact hQ2.size
  have hl0 : w.heap.size < w2.heap.size := by omega
  have hl1 : w.heap.size + 1 < w2.heap.size := by omega
  clear hBa hBb hO0 hsz hO1 hO2 hQ2 hA hB
  cases s <;> cases t
  · skip
    go_wp2
    refine Reg.wp [] [.r 0, .r 1, .r 3, .r 4, .e 2, .e 5, .e 6, .r 7] (by kernel_rfl) (by kernel_rfl) (fun d _ _ _ _ h => by cases d <;> exact h) ?_
    simp only [Reg.pick, List.getD_cons_succ, List.getD_cons_zero]
    iterate 4 (apply Reg.read; (· (intro t K hK; go_simp; (try go_ints); (try ((go_ite <;> go_prune); go_simp)); (try go_ints); exact hK _ rfl)); (· (intro K hK; go_simp; exact hK _ rfl)))
    clear k0 k1 l0 l1
    refine Reg.eff ?_
    go_wp2_with (go_at_call 85; refine (natOf_any w2.drew A n c x.natAbs (by omega) hA2.by_.drew).mono ?_; rintro e w3 ⟨A3, n3, c3, rfl, hN3, hO3⟩)
    refine ⟨hO3, ?_⟩
    refine Reg.eff ?_
    go_wp2_with (go_at_call 85; refine (natOf_any w3 B m d y.natAbs (by omega) (hB2.by_.drew.keep hO3)).mono ?_; rintro e w4 ⟨A4, n4, c4, rfl, hN4, hO4⟩)
    refine ⟨hO4, ?_⟩
    have hN3' := hN3.keep hO4
    refine Reg.eff ?_
    go_wp2_with (go_at_call 103; refine (compareNat_any w4 A3 A4 n3 c3 n4 c4 x.natAbs y.natAbs (Nat.le_trans (hN3'.n_le Hxw.out) (by decide)) (Nat.le_trans (hN4.n_le Hyw.out) (by decide)) hN3' hN4).mono ?_; rintro e w5 ⟨r, rfl, hr, hO5⟩)
    refine ⟨hO5, ?_⟩
    have hQ5 : Only [] w2 w5 := Only.undrew (w := w2) ((hO3.trans' hO4).trans' hO5)
    obtain ⟨k0, k1, -, -⟩ := (hBa2.keep hQ5 (by simp)).two
    (apply Reg.read; (· (intro t K hK; go_simp; (try go_ints); (try ((go_ite <;> go_prune); go_simp)); (try go_ints); exact hK _ rfl)); (· (intro K hK; go_simp; exact hK _ rfl)))
    refine Reg.fin ?_
    go_wp2
    go_ret
    exact ⟨r, rfl, by have h1 := Hs.out; have h2 := Ht.out; have h3 := hr.out; unfold Hid CmpZ; unfold Cmp at h3; simp at h1 h2; omega, hP2.trans' hQ5⟩
  · go_wp2
    go_ret
    exact ⟨1, rfl, by have h1 := Hs.out; have h2 := Ht.out; unfold Hid CmpZ; simp at h1 h2; omega, hP2⟩
  · go_wp2
    go_ret
    exact ⟨-1, rfl, by have h1 := Hs.out; have h2 := Ht.out; unfold Hid CmpZ; simp at h1 h2; omega, hP2⟩
  · skip
    go_wp2
    refine Reg.wp [] [.r 0, .r 1, .r 3, .r 4, .e 2, .e 5, .e 6, .r 7] (by kernel_rfl) (by kernel_rfl) (fun d _ _ _ _ h => by cases d <;> exact h) ?_
    simp only [Reg.pick, List.getD_cons_succ, List.getD_cons_zero]
    iterate 4 (apply Reg.read; (· (intro t K hK; go_simp; (try go_ints); (try ((go_ite <;> go_prune); go_simp)); (try go_ints); exact hK _ rfl)); (· (intro K hK; go_simp; exact hK _ rfl)))
    clear k0 k1 l0 l1
    refine Reg.eff ?_
    go_wp2_with (go_at_call 85; refine (natOf_any w2.drew A n c x.natAbs (by omega) hA2.by_.drew).mono ?_; rintro e w3 ⟨A3, n3, c3, rfl, hN3, hO3⟩)
    refine ⟨hO3, ?_⟩
    refine Reg.eff ?_
    go_wp2_with (go_at_call 85; refine (natOf_any w3 B m d y.natAbs (by omega) (hB2.by_.drew.keep hO3)).mono ?_; rintro e w4 ⟨A4, n4, c4, rfl, hN4, hO4⟩)
    refine ⟨hO4, ?_⟩
    have hN3' := hN3.keep hO4
    refine Reg.eff ?_
    go_wp2_with (go_at_call 103; refine (compareNat_any w4 A3 A4 n3 c3 n4 c4 x.natAbs y.natAbs (Nat.le_trans (hN3'.n_le Hxw.out) (by decide)) (Nat.le_trans (hN4.n_le Hyw.out) (by decide)) hN3' hN4).mono ?_; rintro e w5 ⟨r, rfl, hr, hO5⟩)
    refine ⟨hO5, ?_⟩
    have hQ5 : Only [] w2 w5 := Only.undrew (w := w2) ((hO3.trans' hO4).trans' hO5)
    obtain ⟨k0, k1, -, -⟩ := (hBa2.keep hQ5 (by simp)).two
    (apply Reg.read; (· (intro t K hK; go_simp; (try go_ints); (try ((go_ite <;> go_prune); go_simp)); (try go_ints); exact hK _ rfl)); (· (intro K hK; go_simp; exact hK _ rfl)))
    refine Reg.fin ?_
    have hr1 : -1 ≤ r ∧ r ≤ 1 := by have h3 := hr.out; unfold Cmp at h3; omega
    go_wp2
    go_ret
    exact ⟨-r, rfl, by have h1 := Hs.out; have h2 := Ht.out; have h3 := hr.out; unfold Hid CmpZ; unfold Cmp at h3; simp at h1 h2; omega, hP2.trans' hQ5⟩
end Go.Proofs.Ytddfphneidcibaa
