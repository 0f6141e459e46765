/-
  THE WALKS of number's mulNat and divSmall.
-/
import Derived.Test.YtddfphneidcibaaN3
namespace Go.Proofs.Ytddfphneidcibaa
open Go.RowKit
open Nm (W32)

theorem mul32_le {x y : Nat} (hx : x < 4294967296) (hy : y < 4294967296) : x * y ≤ 18446744065119617025 := by
  have : x * y ≤ 4294967295 * 4294967295 := Nat.mul_le_mul (by omega) (by omega)
  omega

set_option maxHeartbeats 4000000 in
set_option maxRecDepth 100000 in
theorem mulNat_any (w : World) (A B : Option Addr) (n c m d X Y : Nat) (hn : n ≤ 400000) (hm : m ≤ 400000) (hA : NatS w A n c X) (hB : NatS w B m d Y) :
    Calls Try.prog 87 #[.slice A n c, .slice B m d] w fun e w' => ∃ A' n' c', e = .returned (.slice A' n' c') ∧ NatS w' A' n' c' (X * Y) ∧ Only [] w w' := by
  have Hm := Lib.hid hB.n_eq
  have Hn := Lib.hid hA.n_eq
  obtain ⟨nm, hnm⟩ : ∃ nm, nm = n + m := ⟨_, rfl⟩
  have hnmI : (n : Int) + (m : Int) = (nm : Int) := by omega
  have Hnm := Lib.hid hnm
  have hnm1 : nm ≤ 800000 := by omega
  clear hnm
  go_enter Try.func87, Try.ntmps87
  go_wp2_with (refine wpl_make rfl 81 _ _ rfl 83 (.int .u32 0) 4 Try.underlying81 info32 rfl .i64 .i64 _ _ nm nm (by omega) (by omega) rfl rfl (Nat.le_refl _) (by omega) (by decide) ?_; intro w1 _ hB1 hO1)
  rw [zeros32] at hB1
  go_loopw [19] (fun i wr => ∃ k : Nat, k ≤ n ∧ i = .int .i64 (k : Int) ∧ Blk wr w.heap.size 83 (cN .u32 (Nm.pad W32 nm (X % W32 ^ k * Y))) ∧ Only [] w wr) (fun i _ => n - (intOf i).toNat)
  case atStart => exact ⟨0, Nat.zero_le _, rfl, by rw [Nat.pow_zero, Nat.mod_one, Nat.zero_mul]; exact hB1, hO1⟩
  case round =>
    clear hB1 hO1
    obtain ⟨k, hk, rfl, hBk, hO⟩ := hrel
    by_cases hlt : k < n
    · have hltI : (k : Int) < (n : Int) := by omega
      have hkm : (k : Int) ≤ 400000 := by omega
      obtain ⟨ga, oa, hAe, hga, hca⟩ := (hA.keep hO).at (by omega)
      have c1 := hca k hlt
      clear hca
      have hxl : X / W32 ^ k % W32 < 4294967296 := Nat.mod_lt _ (by decide)
      obtain ⟨x, Hx⟩ : ∃ x, Hid (x = X / W32 ^ k % W32) := ⟨_, rfl⟩
      rw [← Hx.out] at c1 hxl
      obtain ⟨P, HP⟩ : ∃ P, Hid (P = X % W32 ^ k * Y) := ⟨_, rfl⟩
      rw [← HP.out] at hBk
      have hxI : (x : Int) < 4294967296 := by omega
      subst hAe
      go_wp2
      go_loopw [8, 26] (fun carry j wr => ∃ q : Nat, q ≤ m ∧ j = .int .i64 (q : Int) ∧ (∃ cr : Nat, carry = .int .u64 (cr : Int) ∧ Hid (cr = Nm.mT W32 P x Y k q / W32 ^ (k + q))) ∧ Blk wr w.heap.size 83 (cN .u32 (Nm.pad W32 nm (Nm.mA W32 P x Y k q))) ∧ Only [] w wr) (fun _ j _ => m - (intOf j).toNat)
      case atStart => exact ⟨0, Nat.zero_le _, rfl, ⟨0, rfl, by unfold Hid; rw [Nm.mT_zero, Nat.add_zero, Nat.div_eq_of_lt (Nat.mod_lt _ (Nat.pow_pos (by decide)))]⟩, by rw [Nm.mA_zero]; exact hBk, hO⟩
      case round =>
        clear hBk hO
        obtain ⟨q, hq, rfl, ⟨cr, rfl, hcr⟩, hBq, hO⟩ := hrel
        have hcr1 := Nm.mT_carry (B := W32) (by decide) P Y k q hxl
        rw [← hcr.out] at hcr1
        have hcr1 : cr < 4294967296 := hcr1
        have hcrI : (cr : Int) < 4294967296 := by omega
        by_cases hqm : q < m
        · have hqI : (q : Int) < (m : Int) := by omega
          have hqm1 : (q : Int) ≤ 400000 := by omega
          have hkq : k + q < nm := by rw [Hnm.out]; omega
          have hkqI : (k : Int) + (q : Int) < (nm : Int) := by omega
          obtain ⟨gb, ob, hBe, hgb, hcb⟩ := (hB.keep hO).at (by omega)
          have c2 := hcb q hqm
          clear hcb
          have c3 := hBq.cellv (i := k + q) (cN_get (by simpa using hkq))
          rw [Nm.pad_getD _ _ _ _ hkq, Nm.mA_at (by decide)] at c3
          have hst := Lib.hid (Nm.mT_step (B := W32) (by decide) P x Y k q).1
          have hfl := Lib.hid (Nm.mA_fill (B := W32) (n := nm) (by decide) P x Y k q hkq)
          rw [← hcr.out] at hst hfl
          have hyl : Y / W32 ^ q % W32 < 4294967296 := Nat.mod_lt _ (by decide)
          have hol : P / W32 ^ (k + q) % W32 < 4294967296 := Nat.mod_lt _ (by decide)
          generalize Y / W32 ^ q % W32 = y at c2 hst hfl hyl
          generalize P / W32 ^ (k + q) % W32 = o at c3 hst hfl hol
          have hp1 := mul32_le hxl hyl
          obtain ⟨p, Hp⟩ : ∃ p, Hid (p = x * y) := ⟨_, rfl⟩
          rw [← Hp.out] at hp1 hst hfl
          have hpI : (x : Int) * (y : Int) = (p : Int) := by rw [Hp.out, Int.natCast_mul]
          have hp1I : (p : Int) ≤ 18446744065119617025 := by omega
          have hoI : (o : Int) < 4294967296 := by omega
          subst hBe
          obtain ⟨dd, Hd⟩ : ∃ d : Nat, Hid (d = (cr + (o + p)) % 4294967296) := ⟨_, rfl⟩
          obtain ⟨e, He⟩ : ∃ e : Nat, Hid (e = (cr + (o + p)) / 4294967296) := ⟨_, rfl⟩
          have hd : ((cr : Int) + ((p : Int) + (o : Int))) % 4294967296 = (dd : Int) := by have := Hd.out; omega
          have he : ((cr : Int) + ((p : Int) + (o : Int))) / 4294967296 = (e : Int) := by have := He.out; omega
          have hB' := hBq.set (k + q) (.int .u32 (dd : Int))
          rw [cN_set, hfl.out dd Hd.out] at hB'
          have HB' := Lib.hid hB'
          have fz := hBq.frozen (k + q)
          clear hB' hBq
          go_wp2
          go_roundw
          case rel => exact ⟨q + 1, by omega, by go_num, ⟨e, rfl, by unfold Hid; rw [← Nat.add_assoc, hst.out]; exact He.out⟩, HB'.out, hO.setCell (p := ⟨w.heap.size, k + q, none⟩) (.inr (Nat.le_refl _)) _⟩
          case measure => simp [intOf]; omega
        · obtain rfl : q = m := by omega
          have hkq : k + q < nm := by rw [Hnm.out]; omega
          have hkqI : (k : Int) + (q : Int) < (nm : Int) := by omega
          have hB' := hBq.set (k + q) (.int .u32 (cr : Int))
          rw [cN_set, hcr.out, HP.out, Hx.out, Nm.mA_last (by decide) X Y k q (by rw [Hm.out]; exact Nat.le_refl _) hkq, ← Hx.out, ← HP.out, ← hcr.out] at hB'
          have HB' := Lib.hid hB'
          have c3 := hBq.cellv (i := k + q) (cN_get (by simpa using hkq))
          have fz := hBq.frozen (k + q)
          have hqm1 : (q : Int) ≤ 400000 := by omega
          clear hB' hBq
          go_wp2
          go_roundw
          case rel => exact ⟨k + 1, by omega, by go_num, HB'.out, hO.setCell (p := ⟨w.heap.size, k + q, none⟩) (.inr (Nat.le_refl _)) _⟩
          case measure => simp [intOf]; omega
    · obtain rfl : k = n := by omega
      have hX := hA.lt
      rw [Nat.mod_eq_of_lt hX] at hBk
      have Hlt := Lib.hid (Nm.mul_lt (B := W32) (X := X) (Y := Y) (by decide))
      rw [← Hn.out, ← Hm.out, ← Hnm.out] at Hlt
      clear hX
      go_wp2_with (go_at_call 83; refine (trim_any _ _ nm nm (X * Y) (Nat.le_refl _) (by omega) Hlt.out hBk.rv).mono ?_; rintro e w' ⟨m', rfl, rfl, hN⟩)
      go_ret
      exact ⟨_, _, _, rfl, hN, hO⟩
end Go.Proofs.Ytddfphneidcibaa
