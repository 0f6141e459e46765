/-
  THE WALK of number's subNat.
-/
import Derived.Test.YtddfphneidcibaaN2
namespace Go.Proofs.Ytddfphneidcibaa
open Go.RowKit
open Nm (W32)

theorem u64_neg {z : Int} (h1 : -18446744073709551616 ≤ z) (h2 : z < 0) : IntKind.u64.wrap z = z + 18446744073709551616 := by
  simp [IntKind.wrap, IntKind.signed, IntKind.bits]
  omega

set_option maxHeartbeats 4000000 in
set_option maxRecDepth 100000 in
theorem subNat_any (w : World) (A B : Option Addr) (n c m d X Y : Nat) (hn : n ≤ 999999) (hA : NatS w A n c X) (hB : NatS w B m d Y) (hXY : Y ≤ X) :
    Calls Try.prog 98 #[.slice A n c, .slice B m d] w fun e w' => ∃ A' n' c', e = .returned (.slice A' n' c') ∧ NatS w' A' n' c' (X - Y) ∧ Only [] w w' := by
  have Hm := Lib.hid hB.n_eq
  have hmn : m ≤ n := by rw [hA.n_eq, hB.n_eq]; exact Nm.len_mono (by decide) hXY
  go_enter Try.func98, Try.ntmps98
  go_wp2_with (refine wpl_make rfl 81 _ _ rfl 83 (.int .u32 0) 4 Try.underlying81 info32 rfl .i64 .i64 _ _ n n (by omega) (by omega) rfl rfl (Nat.le_refl _) (by omega) (by decide) ?_; intro w1 _ hB1 hO1)
  rw [zeros32] at hB1
  go_loopw [6, 7, 8, 14] (fun borrow _ _ i wr => ∃ k : Nat, k ≤ n ∧ i = .int .i64 (k : Int) ∧ (∃ b : Nat, borrow = .int .u64 (b : Int) ∧ Hid (b = Nm.bw W32 X Y k)) ∧ Blk wr w.heap.size 83 (cN .u32 (Nm.pad W32 n (Nm.df W32 X Y k))) ∧ Only [] w wr) (fun _ _ _ i _ => n - (intOf i).toNat)
  case atStart => exact ⟨0, Nat.zero_le _, rfl, ⟨0, rfl, by unfold Hid; rw [Nm.bw_zero]⟩, by rw [Nm.df_zero]; exact hB1, hO1⟩
  case round =>
    clear hB1 hO1
    obtain ⟨k, hk, rfl, ⟨b, rfl, hb⟩, hBk, hO⟩ := hrel
    have hb1 := Nm.bw_le W32 X Y k
    rw [← hb.out] at hb1
    have hbI : (b : Int) ≤ 1 := by omega
    by_cases hlt : k < n
    · have hltI : (k : Int) < (n : Int) := by omega
      have hkm : (k : Int) ≤ 1000000 := by omega
      obtain ⟨ga, oa, hAe, hga, hca⟩ := (hA.keep hO).at (by omega)
      have c1 := hca k hlt
      have hst := Lib.hid (Nm.df_step (B := W32) (by decide) X Y k).1
      have hfl := Lib.hid (Nm.df_fill (B := W32) (n := n) (by decide) X Y k hlt)
      rw [← hb.out] at hst hfl
      obtain ⟨b', hb'⟩ : ∃ b', Hid (b' = Nm.bw W32 X Y (k + 1)) := ⟨_, rfl⟩
      rw [← hb'.out] at hst hfl
      have hxl : X / W32 ^ k % W32 < 4294967296 := Nat.mod_lt _ (by decide)
      have hyl : Y / W32 ^ k % W32 < 4294967296 := Nat.mod_lt _ (by decide)
      have hy0 : m ≤ k → Y / W32 ^ k % W32 = 0 := fun h => Nm.high_zero (by decide) (by rw [← Hm.out]; exact h)
      by_cases hkm2 : k < m
      · have hkmI : (k : Int) < (m : Int) := by omega
        obtain ⟨gb, ob, hBe, hgb, hcb⟩ := (hB.keep hO).at (by omega)
        have c2 := hcb k hkm2
        clear hca hcb hy0
        generalize X / W32 ^ k % W32 = x at c1 hst hfl hxl
        generalize Y / W32 ^ k % W32 = y at c2 hst hfl hyl
        have hxI : (x : Int) < 4294967296 := by omega
        have hyI : (y : Int) < 4294967296 := by omega
        subst hAe hBe
        by_cases hneg : x < y + b
        · obtain rfl : b' = 1 := by rw [hst.out, if_pos hneg]
          obtain ⟨dd, Hd⟩ : ∃ d : Nat, Hid (d = x + 4294967296 - y - b) := ⟨_, rfl⟩
          have hnegI : (x : Int) - (b : Int) - (y : Int) < 0 := by omega
          by_cases hxb : x < b
          · obtain rfl : x = 0 := by omega
            obtain rfl : b = 1 := by omega
            have hw0 : IntKind.u64.wrap (-1) = 18446744073709551615 := by decide +kernel
            have hw1 : (18446744073709551615 - (y : Int)) % 4294967296 = (dd : Int) := by have := Hd.out; omega
            have hw2 : (18446744073709551615 - (y : Int)) / 9223372036854775808 = 1 := by omega
            have hB' := hBk.set k (.int .u32 (dd : Int))
            rw [cN_set, hfl.out dd (by rw [Hd.out]; rfl)] at hB'
            have HB' := Lib.hid hB'
            have c3 := hBk.cellv (i := k) (cN_get (by simp; omega))
            have fz := hBk.frozen k
            clear hB' hBk
            go_wp2
            go_roundw
            case rel => exact ⟨k + 1, by omega, by go_num, ⟨1, rfl, hb'⟩, HB'.out, hO.setCell (p := ⟨w.heap.size, k, none⟩) (.inr (Nat.le_refl _)) _⟩
            case measure => simp [intOf]; omega
          · have hxbI : (b : Int) ≤ (x : Int) := by omega
            obtain ⟨v, hv⟩ : ∃ v : Nat, Hid ((v : Int) = (x : Int) - (b : Int) - (y : Int) + 18446744073709551616) := ⟨((x : Int) - (b : Int) - (y : Int) + 18446744073709551616).toNat, by unfold Hid; omega⟩
            have hw0 : IntKind.u64.wrap ((x : Int) - (b : Int) - (y : Int)) = (v : Int) := by rw [u64_neg (by omega) hnegI, hv.out]
            have hw1 : (v : Int) % 4294967296 = (dd : Int) := by have := hv.out; have := Hd.out; omega
            have hw2 : (v : Int) / 9223372036854775808 = 1 := by have := hv.out; omega
            have hB' := hBk.set k (.int .u32 (dd : Int))
            rw [cN_set, hfl.out dd (by rw [Hd.out]; rfl)] at hB'
            have HB' := Lib.hid hB'
            have c3 := hBk.cellv (i := k) (cN_get (by simp; omega))
            have fz := hBk.frozen k
            clear hB' hBk
            go_wp2
            go_roundw
            case rel => exact ⟨k + 1, by omega, by go_num, ⟨1, rfl, hb'⟩, HB'.out, hO.setCell (p := ⟨w.heap.size, k, none⟩) (.inr (Nat.le_refl _)) _⟩
            case measure => simp [intOf]; omega
        · obtain rfl : b' = 0 := by rw [hst.out, if_neg hneg]
          have hnegI : 0 ≤ (x : Int) - (b : Int) - (y : Int) := by omega
          obtain ⟨dd, Hd⟩ : ∃ d : Nat, Hid (d = x - y - b) := ⟨_, rfl⟩
          have hd0 : (x : Int) - (b : Int) - (y : Int) = (dd : Int) := by have := Hd.out; omega
          have hd1 : (dd : Int) < 4294967296 := by omega
          have hw2 : (dd : Int) / 9223372036854775808 = 0 := by omega
          have hB' := hBk.set k (.int .u32 (dd : Int))
          rw [cN_set, hfl.out dd (by rw [Hd.out]; simp)] at hB'
          have HB' := Lib.hid hB'
          have c3 := hBk.cellv (i := k) (cN_get (by simp; omega))
          have fz := hBk.frozen k
          clear hB' hBk
          go_wp2
          go_roundw
          case rel => exact ⟨k + 1, by omega, by go_num, ⟨0, rfl, hb'⟩, HB'.out, hO.setCell (p := ⟨w.heap.size, k, none⟩) (.inr (Nat.le_refl _)) _⟩
          case measure => simp [intOf]; omega
      · have hkmI : (m : Int) ≤ (k : Int) := by omega
        rw [hy0 (by omega)] at hst hfl
        clear hca hy0 hyl
        generalize X / W32 ^ k % W32 = x at c1 hst hfl hxl
        have hxI : (x : Int) < 4294967296 := by omega
        subst hAe
        by_cases hneg : x < b
        · obtain rfl : b' = 1 := by rw [hst.out, if_pos (by omega)]
          obtain rfl : x = 0 := by omega
          obtain rfl : b = 1 := by omega
          have hw0 : IntKind.u64.wrap (-1) = 18446744073709551615 := by decide +kernel
          have hB' := hBk.set k (.int .u32 ((4294967295 : Nat) : Int))
          rw [cN_set, hfl.out 4294967295 rfl] at hB'
          have HB' := Lib.hid hB'
          have c3 := hBk.cellv (i := k) (cN_get (by simp; omega))
          have fz := hBk.frozen k
          clear hB' hBk
          go_wp2
          go_roundw
          case rel => exact ⟨k + 1, by omega, by go_num, ⟨1, rfl, hb'⟩, HB'.out, hO.setCell (p := ⟨w.heap.size, k, none⟩) (.inr (Nat.le_refl _)) _⟩
          case measure => simp [intOf]; omega
        · obtain rfl : b' = 0 := by rw [hst.out, if_neg (by omega)]
          have hnegI : 0 ≤ (x : Int) - (b : Int) := by omega
          obtain ⟨dd, Hd⟩ : ∃ d : Nat, Hid (d = x - b) := ⟨_, rfl⟩
          have hd0 : (x : Int) - (b : Int) = (dd : Int) := by have := Hd.out; omega
          have hd1 : (dd : Int) < 4294967296 := by omega
          have hw2 : (dd : Int) / 9223372036854775808 = 0 := by omega
          have hB' := hBk.set k (.int .u32 (dd : Int))
          rw [cN_set, hfl.out dd (by rw [Hd.out]; simp)] at hB'
          have HB' := Lib.hid hB'
          have c3 := hBk.cellv (i := k) (cN_get (by simp; omega))
          have fz := hBk.frozen k
          clear hB' hBk
          go_wp2
          go_roundw
          case rel => exact ⟨k + 1, by omega, by go_num, ⟨0, rfl, hb'⟩, HB'.out, hO.setCell (p := ⟨w.heap.size, k, none⟩) (.inr (Nat.le_refl _)) _⟩
          case measure => simp [intOf]; omega
    · obtain rfl : k = n := by omega
      have hlx : Nm.len W32 X ≤ k := by rw [hA.n_eq]; exact Nat.le_refl _
      rw [Nm.df_all (by decide) hlx hXY] at hBk
      have Hlt := Lib.hid (Nat.lt_of_le_of_lt (Nat.sub_le X Y) hA.lt)
      have hkm : (k : Int) ≤ 1000000 := by omega
      clear hlx
      go_wp2_with (go_at_call 83; refine (trim_any _ _ k k (X - Y) (Nat.le_refl _) (by omega) Hlt.out hBk.rv).mono ?_; rintro e w' ⟨m', rfl, rfl, hN⟩)
      go_ret
      exact ⟨_, _, _, rfl, hN, hO⟩
end Go.Proofs.Ytddfphneidcibaa
