/-
  THE WALKS of number's addNat and subNat.
-/
import Derived.Test.YtddfphneidcibaaN1
namespace Go.Proofs.Ytddfphneidcibaa
open Go.RowKit
open Nm (W32)

theorem zeros32 (n : Nat) : List.replicate n (Value.int .u32 0) = cN .u32 (Nm.pad W32 n 0) := by rw [cN_replicate, Nm.pad_zero]

set_option maxHeartbeats 4000000 in
set_option maxRecDepth 100000 in
theorem addNat_ge (w : World) (A B : Option Addr) (n c m d X Y : Nat) (hn : n ≤ 999999) (hmn : m ≤ n) (hA : NatS w A n c X) (hB : NatS w B m d Y) :
    Calls Try.prog 93 #[.slice A n c, .slice B m d] w fun e w' => ∃ A' n' c', e = .returned (.slice A' n' c') ∧ NatS w' A' n' c' (X + Y) ∧ Only [] w w' := by
  have hmnI : (m : Int) ≤ (n : Int) := by omega
  have Hm := Lib.hid hB.n_eq
  go_enter Try.func93, Try.ntmps93
  go_wp2_with (refine wpl_make rfl 81 _ _ rfl 83 (.int .u32 0) 4 Try.underlying81 info32 rfl .i64 .i64 _ _ (n + 1) (n + 1) (by omega) (by omega) rfl rfl (Nat.le_refl _) (by omega) (by decide) ?_; intro w1 _ hB1 hO1)
  rw [zeros32] at hB1
  go_loopw [6, 7, 21] (fun carry _ i wr => ∃ k : Nat, k ≤ n ∧ i = .int .i64 (k : Int) ∧ (∃ cr : Nat, carry = .int .u64 (cr : Int) ∧ Hid (cr = Nm.sm W32 X Y k / W32 ^ k)) ∧ Blk wr w.heap.size 83 (cN .u32 (Nm.pad W32 (n + 1) (Nm.sm W32 X Y k % W32 ^ k))) ∧ Only [] w wr) (fun _ _ i _ => n - (intOf i).toNat)
  case atStart => exact ⟨0, Nat.zero_le _, rfl, ⟨0, rfl, by unfold Hid; rw [Nm.sm_zero]; rfl⟩, by rw [Nm.sm_zero]; exact hB1, hO1⟩
  case round =>
    clear hB1 hO1
    obtain ⟨k, hk, rfl, ⟨cr, rfl, hcr⟩, hBk, hO⟩ := hrel
    have hcr1 := Nm.sm_carry (B := W32) (by decide) X Y k
    rw [← hcr.out] at hcr1
    have hcrI : (cr : Int) ≤ 1 := by omega
    by_cases hlt : k < n
    · have hltI : (k : Int) < (n : Int) := by omega
      have hkm : (k : Int) ≤ 1000000 := by omega
      obtain ⟨ga, oa, hAe, hga, hca⟩ := (hA.keep hO).at (by omega)
      have c1 := hca k hlt
      have hst := Lib.hid (Nm.sm_step (B := W32) (by decide) X Y k)
      have hfl := Lib.hid (Nm.sm_fill (B := W32) (n := n + 1) (by decide) X Y k (by omega))
      rw [← hcr.out] at hst hfl
      have hxl : X / W32 ^ k % W32 < 4294967296 := Nat.mod_lt _ (by decide)
      have hyl : Y / W32 ^ k % W32 < 4294967296 := Nat.mod_lt _ (by decide)
      have hy0 : m ≤ k → Y / W32 ^ k % W32 = 0 := fun h => Nm.high_zero (by decide) (by rw [← Hm.out]; exact h)
      by_cases hkm2 : k < m
      · have hkmI : (k : Int) < (m : Int) := by omega
        obtain ⟨gb, ob, hBe, hgb, hcb⟩ := (hB.keep hO).at (by omega)
        have c2 := hcb k hkm2
        clear hca hcb hy0
        revert c1 c2 hst hfl hxl hyl
        generalize X / W32 ^ k % W32 = x
        generalize Y / W32 ^ k % W32 = y
        intro c1 hst hfl hxl hyl c2
        have hxI : (x : Int) < 4294967296 := by omega
        have hyI : (y : Int) < 4294967296 := by omega
        subst hAe hBe
        obtain ⟨d, Hd⟩ : ∃ d : Nat, Hid (d = (cr + (x + y)) % 4294967296) := ⟨_, rfl⟩
        obtain ⟨e, He⟩ : ∃ e : Nat, Hid (e = (cr + (x + y)) / 4294967296) := ⟨_, rfl⟩
        have hd : ((cr : Int) + (x : Int) + (y : Int)) % 4294967296 = (d : Int) := by have := Hd.out; omega
        have he : ((cr : Int) + (x : Int) + (y : Int)) / 4294967296 = (e : Int) := by have := He.out; omega
        have hB' := hBk.set k (.int .u32 (d : Int))
        rw [cN_set, hfl.out d Hd.out] at hB'
        have HB' := Lib.hid hB'
        have c3 := hBk.cellv (i := k) (cN_get (by simp; omega))
        have fz := hBk.frozen k
        clear hB' hBk
        go_wp2
        go_roundw
        case rel => exact ⟨k + 1, by omega, by go_num, ⟨e, rfl, by unfold Hid; rw [hst.out.1]; exact He.out⟩, HB'.out, hO.setCell (p := ⟨w.heap.size, k, none⟩) (.inr (Nat.le_refl _)) _⟩
        case measure => simp [intOf]; omega
      · have hkmI : (m : Int) ≤ (k : Int) := by omega
        rw [hy0 (by omega), Nat.add_zero] at hst hfl
        clear hca hy0 hyl
        revert c1 hst hfl hxl
        generalize X / W32 ^ k % W32 = x
        intro c1 hst hfl hxl
        have hxI : (x : Int) < 4294967296 := by omega
        subst hAe
        obtain ⟨d, Hd⟩ : ∃ d : Nat, Hid (d = (cr + x) % 4294967296) := ⟨_, rfl⟩
        obtain ⟨e, He⟩ : ∃ e : Nat, Hid (e = (cr + x) / 4294967296) := ⟨_, rfl⟩
        have hd : ((cr : Int) + (x : Int)) % 4294967296 = (d : Int) := by have := Hd.out; omega
        have he : ((cr : Int) + (x : Int)) / 4294967296 = (e : Int) := by have := He.out; omega
        have hB' := hBk.set k (.int .u32 (d : Int))
        rw [cN_set, hfl.out d Hd.out] at hB'
        have HB' := Lib.hid hB'
        have c3 := hBk.cellv (i := k) (cN_get (by simp; omega))
        have fz := hBk.frozen k
        clear hB' hBk
        go_wp2
        go_roundw
        case rel => exact ⟨k + 1, by omega, by go_num, ⟨e, rfl, by unfold Hid; rw [hst.out.1]; exact He.out⟩, HB'.out, hO.setCell (p := ⟨w.heap.size, k, none⟩) (.inr (Nat.le_refl _)) _⟩
        case measure => simp [intOf]; omega
    · obtain rfl : k = n := by omega
      have hB' := hBk.set k (.int .u32 (cr : Int))
      have hlx : Nm.len W32 X ≤ k := by rw [hA.n_eq]; exact Nat.le_refl _
      have hly : Nm.len W32 Y ≤ k := by rw [← Hm.out]; omega
      rw [cN_set, hcr.out, Nm.sm_last (by decide) hlx hly, ← hcr.out] at hB'
      have hlt' := Nm.sum_lt (by decide) hlx hly
      have HB' := Lib.hid hB'
      have Hlt' := Lib.hid hlt'
      have c3 := hBk.cellv (i := k) (cN_get (by simp))
      have fz := hBk.frozen k
      have hkm : (k : Int) ≤ 1000000 := by omega
      have hO' : Only [] w (wr.setCell ⟨w.heap.size, k, none⟩ (.int .u32 (cr : Int))) := hO.setCell (p := ⟨w.heap.size, k, none⟩) (.inr (Nat.le_refl _)) _
      clear hB' hBk hlt' hlx hly
      go_wp2_with (go_at_call 83; refine (trim_any _ _ (k + 1) (k + 1) (X + Y) (Nat.le_refl _) (by omega) Hlt'.out HB'.out.rv).mono ?_; rintro e w' ⟨m', rfl, rfl, hN⟩)
      go_ret
      exact ⟨_, _, _, rfl, hN, hO'⟩
set_option maxHeartbeats 4000000 in
set_option maxRecDepth 100000 in
theorem addNat_lt (w : World) (A B : Option Addr) (n c m d X Y : Nat) (hn : n ≤ 999999) (hmn : m < n) (hA : NatS w A n c X) (hB : NatS w B m d Y) :
    Calls Try.prog 93 #[.slice B m d, .slice A n c] w fun e w' => ∃ A' n' c', e = .returned (.slice A' n' c') ∧ NatS w' A' n' c' (X + Y) ∧ Only [] w w' := by
  have hmnI : (m : Int) < (n : Int) := by omega
  have Hm := Lib.hid hB.n_eq
  go_enter Try.func93, Try.ntmps93
  go_wp2_with (refine wpl_make rfl 81 _ _ rfl 83 (.int .u32 0) 4 Try.underlying81 info32 rfl .i64 .i64 _ _ (n + 1) (n + 1) (by omega) (by omega) rfl rfl (Nat.le_refl _) (by omega) (by decide) ?_; intro w1 _ hB1 hO1)
  rw [zeros32] at hB1
  go_loopw [6, 7, 21] (fun carry _ i wr => ∃ k : Nat, k ≤ n ∧ i = .int .i64 (k : Int) ∧ (∃ cr : Nat, carry = .int .u64 (cr : Int) ∧ Hid (cr = Nm.sm W32 X Y k / W32 ^ k)) ∧ Blk wr w.heap.size 83 (cN .u32 (Nm.pad W32 (n + 1) (Nm.sm W32 X Y k % W32 ^ k))) ∧ Only [] w wr) (fun _ _ i _ => n - (intOf i).toNat)
  case atStart => exact ⟨0, Nat.zero_le _, rfl, ⟨0, rfl, by unfold Hid; rw [Nm.sm_zero]; rfl⟩, by rw [Nm.sm_zero]; exact hB1, hO1⟩
  case round =>
    clear hB1 hO1
    obtain ⟨k, hk, rfl, ⟨cr, rfl, hcr⟩, hBk, hO⟩ := hrel
    have hcr1 := Nm.sm_carry (B := W32) (by decide) X Y k
    rw [← hcr.out] at hcr1
    have hcrI : (cr : Int) ≤ 1 := by omega
    by_cases hlt : k < n
    · have hltI : (k : Int) < (n : Int) := by omega
      have hkm : (k : Int) ≤ 1000000 := by omega
      obtain ⟨ga, oa, hAe, hga, hca⟩ := (hA.keep hO).at (by omega)
      have c1 := hca k hlt
      have hst := Lib.hid (Nm.sm_step (B := W32) (by decide) X Y k)
      have hfl := Lib.hid (Nm.sm_fill (B := W32) (n := n + 1) (by decide) X Y k (by omega))
      rw [← hcr.out] at hst hfl
      have hxl : X / W32 ^ k % W32 < 4294967296 := Nat.mod_lt _ (by decide)
      have hyl : Y / W32 ^ k % W32 < 4294967296 := Nat.mod_lt _ (by decide)
      have hy0 : m ≤ k → Y / W32 ^ k % W32 = 0 := fun h => Nm.high_zero (by decide) (by rw [← Hm.out]; exact h)
      by_cases hkm2 : k < m
      · have hkmI : (k : Int) < (m : Int) := by omega
        obtain ⟨gb, ob, hBe, hgb, hcb⟩ := (hB.keep hO).at (by omega)
        have c2 := hcb k hkm2
        clear hca hcb hy0
        revert c1 c2 hst hfl hxl hyl
        generalize X / W32 ^ k % W32 = x
        generalize Y / W32 ^ k % W32 = y
        intro c1 hst hfl hxl hyl c2
        have hxI : (x : Int) < 4294967296 := by omega
        have hyI : (y : Int) < 4294967296 := by omega
        subst hAe hBe
        obtain ⟨d, Hd⟩ : ∃ d : Nat, Hid (d = (cr + (x + y)) % 4294967296) := ⟨_, rfl⟩
        obtain ⟨e, He⟩ : ∃ e : Nat, Hid (e = (cr + (x + y)) / 4294967296) := ⟨_, rfl⟩
        have hd : ((cr : Int) + (x : Int) + (y : Int)) % 4294967296 = (d : Int) := by have := Hd.out; omega
        have he : ((cr : Int) + (x : Int) + (y : Int)) / 4294967296 = (e : Int) := by have := He.out; omega
        have hB' := hBk.set k (.int .u32 (d : Int))
        rw [cN_set, hfl.out d Hd.out] at hB'
        have HB' := Lib.hid hB'
        have c3 := hBk.cellv (i := k) (cN_get (by simp; omega))
        have fz := hBk.frozen k
        clear hB' hBk
        go_wp2
        go_roundw
        case rel => exact ⟨k + 1, by omega, by go_num, ⟨e, rfl, by unfold Hid; rw [hst.out.1]; exact He.out⟩, HB'.out, hO.setCell (p := ⟨w.heap.size, k, none⟩) (.inr (Nat.le_refl _)) _⟩
        case measure => simp [intOf]; omega
      · have hkmI : (m : Int) ≤ (k : Int) := by omega
        rw [hy0 (by omega), Nat.add_zero] at hst hfl
        clear hca hy0 hyl
        revert c1 hst hfl hxl
        generalize X / W32 ^ k % W32 = x
        intro c1 hst hfl hxl
        have hxI : (x : Int) < 4294967296 := by omega
        subst hAe
        obtain ⟨d, Hd⟩ : ∃ d : Nat, Hid (d = (cr + x) % 4294967296) := ⟨_, rfl⟩
        obtain ⟨e, He⟩ : ∃ e : Nat, Hid (e = (cr + x) / 4294967296) := ⟨_, rfl⟩
        have hd : ((cr : Int) + (x : Int)) % 4294967296 = (d : Int) := by have := Hd.out; omega
        have he : ((cr : Int) + (x : Int)) / 4294967296 = (e : Int) := by have := He.out; omega
        have hB' := hBk.set k (.int .u32 (d : Int))
        rw [cN_set, hfl.out d Hd.out] at hB'
        have HB' := Lib.hid hB'
        have c3 := hBk.cellv (i := k) (cN_get (by simp; omega))
        have fz := hBk.frozen k
        clear hB' hBk
        go_wp2
        go_roundw
        case rel => exact ⟨k + 1, by omega, by go_num, ⟨e, rfl, by unfold Hid; rw [hst.out.1]; exact He.out⟩, HB'.out, hO.setCell (p := ⟨w.heap.size, k, none⟩) (.inr (Nat.le_refl _)) _⟩
        case measure => simp [intOf]; omega
    · obtain rfl : k = n := by omega
      have hB' := hBk.set k (.int .u32 (cr : Int))
      have hlx : Nm.len W32 X ≤ k := by rw [hA.n_eq]; exact Nat.le_refl _
      have hly : Nm.len W32 Y ≤ k := by rw [← Hm.out]; omega
      rw [cN_set, hcr.out, Nm.sm_last (by decide) hlx hly, ← hcr.out] at hB'
      have hlt' := Nm.sum_lt (by decide) hlx hly
      have HB' := Lib.hid hB'
      have Hlt' := Lib.hid hlt'
      have c3 := hBk.cellv (i := k) (cN_get (by simp))
      have fz := hBk.frozen k
      have hkm : (k : Int) ≤ 1000000 := by omega
      have hO' : Only [] w (wr.setCell ⟨w.heap.size, k, none⟩ (.int .u32 (cr : Int))) := hO.setCell (p := ⟨w.heap.size, k, none⟩) (.inr (Nat.le_refl _)) _
      clear hB' hBk hlt' hlx hly
      go_wp2_with (go_at_call 83; refine (trim_any _ _ (k + 1) (k + 1) (X + Y) (Nat.le_refl _) (by omega) Hlt'.out HB'.out.rv).mono ?_; rintro e w' ⟨m', rfl, rfl, hN⟩)
      go_ret
      exact ⟨_, _, _, rfl, hN, hO'⟩
theorem addNat_any (w : World) (A B : Option Addr) (n c m d X Y : Nat) (hn : n ≤ 999999) (hm : m ≤ 999999) (hA : NatS w A n c X) (hB : NatS w B m d Y) :
    Calls Try.prog 93 #[.slice A n c, .slice B m d] w fun e w' => ∃ A' n' c', e = .returned (.slice A' n' c') ∧ NatS w' A' n' c' (X + Y) ∧ Only [] w w' := by
  by_cases h : m ≤ n
  · exact addNat_ge w A B n c m d X Y hn h hA hB
  · rw [Nat.add_comm]
    exact addNat_lt w B A m d n c Y X hm (by omega) hB hA
end Go.Proofs.Ytddfphneidcibaa
