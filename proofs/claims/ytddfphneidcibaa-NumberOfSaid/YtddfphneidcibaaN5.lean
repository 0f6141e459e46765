/-
  THE WALK of number's divSmall.
-/
import Derived.Test.YtddfphneidcibaaN4
namespace Go.Proofs.Ytddfphneidcibaa
open Go.RowKit
open Nm (W32)

theorem or64 (r x : Nat) (hr : r < 4294967296) (hx : x < 4294967296) : bits .or .u64 ((r : Int) * 4294967296) (x : Int) = ((r * 4294967296 + x : Nat) : Int) := by
  have h := u64_or_nat (r * 4294967296) x (by omega) (by omega)
  have e : r * 4294967296 ||| x = r * 4294967296 + x := by
    have := Nat.two_pow_add_eq_or_of_lt (i := 32) (b := x) (by omega) r
    rw [Nat.mul_comm r]
    exact this.symm
  rw [e] at h
  rw [← h]
  simp

set_option maxHeartbeats 4000000 in
set_option maxRecDepth 100000 in
theorem divSmall_any (w : World) (A : Option Addr) (n c X d : Nat) (hn : n ≤ 999999) (hd : 0 < d) (hd2 : d < 4294967296) (hA : NatS w A n c X) :
    Calls Try.prog 112 #[.slice A n c, .int .u32 (d : Int)] w fun e w' => ∃ A' n' c' r, e = .returned (.tuple #[.slice A' n' c', .int .u32 (r : Nat)]) ∧ NatS w' A' n' c' (X / d) ∧ Hid (r = X % d) ∧ Only [] w w' ∧ (∀ p, A' = some p → p.block = w.heap.size) := by
  have hdI : 0 < (d : Int) := by omega
  have hd2I : (d : Int) < 4294967296 := by omega
  have hd0 : ((d : Int) == 0) = false := beq_eq_false_iff_ne.2 (by omega)
  go_enter Try.func112, Try.ntmps112
  go_wp2_with (refine wpl_make rfl 81 _ _ rfl 83 (.int .u32 0) 4 Try.underlying81 info32 rfl .i64 .i64 _ _ n n (by omega) (by omega) rfl rfl (Nat.le_refl _) (by omega) (by decide) ?_; intro w1 _ hB1 hO1)
  rw [zeros32] at hB1
  have Htop := Lib.hid (Nm.ds_top (B := W32) (X := X) (n := n) (by decide) (by rw [hA.n_eq]; exact Nat.le_refl _))
  go_loopw [7, 8] (fun rv i wr => ∃ k : Nat, k ≤ n ∧ (∃ z : Int, z = (k : Int) - 1 ∧ i = .int .i64 z) ∧ (∃ r : Nat, rv = .int .u64 (r : Int) ∧ Hid (r = X / W32 ^ k % d)) ∧ Blk wr w.heap.size 83 (cN .u32 (Nm.pad W32 n (X / W32 ^ k / d * W32 ^ k))) ∧ Only [] w wr) (fun _ i _ => (intOf i + 1).toNat)
  case atStart => exact ⟨n, Nat.le_refl _, ⟨_, rfl, by go_num⟩, ⟨0, rfl, by unfold Hid; rw [Htop.out, Nat.zero_mod]⟩, by rw [Htop.out, Nat.zero_div, Nat.zero_mul]; exact hB1, hO1⟩
  case round =>
    clear hB1 hO1
    obtain ⟨k, hk, ⟨z, hz, rfl⟩, ⟨r, rfl, hr⟩, hBk, hO⟩ := hrel
    have hrd : r < d := by rw [hr.out]; exact Nat.mod_lt _ hd
    have hrI : (r : Int) < 4294967296 := by omega
    rcases (show k = 0 ∨ ∃ j, k = j + 1 from by cases k; exact .inl rfl; exact .inr ⟨_, rfl⟩) with rfl | ⟨j, rfl⟩
    · obtain rfl : z = -1 := by omega
      clear hz
      rw [Nat.pow_zero, Nat.div_one, Nat.mul_one] at hBk
      have Hlt := Lib.hid (Nat.lt_of_le_of_lt (Nat.div_le_self X d) hA.lt)
      have hr' : Hid (r = X % d) := by unfold Hid; rw [hr.out, Nat.pow_zero, Nat.div_one]
      go_wp2_with (go_at_call 83; refine (trim_any _ _ n n (X / d) (Nat.le_refl _) (by omega) Hlt.out hBk.rv).mono ?_; rintro e w' ⟨m', rfl, rfl, hN⟩)
      go_ret2
      exact ⟨_, _, _, r, rfl, hN, hr', hO, fun p hp => by injection hp with hp; subst hp; rfl⟩
    · obtain rfl : z = (j : Int) := by omega
      clear hz
      have hjn : (j : Int) < (n : Int) := by omega
      have hjm : (j : Int) ≤ 1000000 := by omega
      obtain ⟨ga, oa, hAe, hga, hca⟩ := (hA.keep hO).at (by omega)
      have c1 := hca j (by omega)
      clear hca
      have hst := Lib.hid (Nm.ds_step (B := W32) hd X j)
      have hfl := Lib.hid (Nm.ds_fill (B := W32) (n := n) (by decide) hd X j (by omega))
      have hql := Nm.ds_lt (B := W32) (by decide) hd X j
      rw [← hr.out] at hst hfl hql
      have hxl : X / W32 ^ j % W32 < 4294967296 := Nat.mod_lt _ (by decide)
      generalize X / W32 ^ j % W32 = x at c1 hst hfl hql hxl
      have hor := or64 r x (by omega) hxl
      obtain ⟨v, Hv⟩ : ∃ v, Hid (v = r * 4294967296 + x) := ⟨_, rfl⟩
      have hv0 : v = r * W32 + x := Hv.out
      rw [← Hv.out] at hor
      rw [← hv0] at hst hfl hql
      clear hv0
      have hv1 : (v : Int) < 18446744073709551616 := by have := Hv.out; omega
      have hxI : (x : Int) < 4294967296 := by omega
      obtain ⟨q, Hq⟩ : ∃ q, Hid (q = v / d) := ⟨_, rfl⟩
      obtain ⟨s, Hs⟩ : ∃ s, Hid (s = v % d) := ⟨_, rfl⟩
      have hqI : (v : Int) / (d : Int) = (q : Int) := by rw [Hq.out]; simp
      have hsI : (v : Int) % (d : Int) = (s : Int) := by rw [Hs.out]; simp
      rw [← Hq.out] at hql
      have hq1 : (q : Int) < 4294967296 := by have : q < 4294967296 := hql; omega
      have hB' := hBk.set j (.int .u32 (q : Int))
      rw [cN_set, hfl.out q Hq.out] at hB'
      have HB' := Lib.hid hB'
      have c3 := hBk.cellv (i := j) (cN_get (by simp; omega))
      have fz := hBk.frozen j
      subst hAe
      clear hB' hBk hql
      go_wp2
      go_roundw
      case rel => exact ⟨j, by omega, ⟨_, rfl, by go_num⟩, ⟨s, by rw [hsI], by unfold Hid; rw [hst.out.2]; exact Hs.out⟩, HB'.out, hO.setCell (p := ⟨w.heap.size, j, none⟩) (.inr (Nat.le_refl _)) _⟩
      case measure => simp [intOf]
end Go.Proofs.Ytddfphneidcibaa
