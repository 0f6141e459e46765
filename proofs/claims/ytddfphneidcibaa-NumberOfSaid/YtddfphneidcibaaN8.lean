/-
  THE WALK of number's digits.
-/
import Derived.Test.YtddfphneidcibaaN7
namespace Go.Proofs.Ytddfphneidcibaa
open Go.RowKit
open Nm (W32)

theorem rev_set {l : List Nat} {i r v : Nat} (h : i + r + 1 = l.length) : l.reverse.set r v = (l.set i v).reverse := by
  refine List.ext_getElem? fun j => ?_
  by_cases hj : j < l.length
  · rw [List.getElem?_reverse (by simpa using hj), List.length_set]
    by_cases e : j = r
    · subst e
      rw [List.getElem?_set_self (by simpa using hj), show l.length - 1 - j = i by omega, List.getElem?_set_self (by omega)]
    · rw [List.getElem?_set_ne (by omega), List.getElem?_set_ne (by omega), List.getElem?_reverse hj]
  · rw [List.getElem?_eq_none (by simp; omega), List.getElem?_eq_none (by simp; omega)]
theorem zeros8r (n : Nat) : List.replicate n (Value.int .u8 0) = cN .u8 (Nm.pad 256 n 0).reverse := by rw [cN_replicate, Nm.pad_zero, List.reverse_replicate]
theorem byte_fill (X n k r d : Nat) (h : k + r + 1 = n) (hd : d = X / 256 ^ k % 256) : (Nm.pad 256 n (X % 256 ^ k)).reverse.set r d = (Nm.pad 256 n (X % 256 ^ (k + 1))).reverse := by
  rw [rev_set (i := k) (by simpa using h), Nm.pad_next (by decide) (by omega) (Nat.mod_lt _ (Nat.pow_pos (by decide))) (by rw [hd]; exact Nat.mod_lt _ (by decide)), hd, ← Nm.mod_next]

/-- A slice in a block made since. -/
def Frs (w : World) (A : Option Addr) : Prop := ∀ p, A = some p → w.heap.size ≤ p.block
theorem Frs.none (w : World) : Frs w none := fun p h => by cases h
theorem Frs.le {w w' : World} {A : Option Addr} (h : Frs w' A) (hs : w.heap.size ≤ w'.heap.size) : Frs w A := fun p hp => Nat.le_trans hs (h p hp)
theorem BytS.far {w w1 w2 : World} {A : Option Addr} {n c X : Nat} {S : List Nat} (h : BytS w1 A n c X) (hf : Frs w A) (ho : Only S w1 w2) (hS : ∀ g ∈ S, g < w.heap.size) : BytS w2 A n c X :=
  ⟨h.n_eq, h.le, h.rd.keep ho fun p hp hm => by have := hf p hp; have := hS _ hm; omega⟩

set_option maxHeartbeats 4000000 in
set_option maxRecDepth 100000 in
theorem digits_any (w : World) (A : Option Addr) (n c X : Nat) (hn : n ≤ 99999) (hA : NatS w A n c X) :
    Calls Try.prog 109 #[.slice A n c] w fun e w' => ∃ A' n' c', e = .returned (.slice A' n' c') ∧ BytS w' A' n' c' X ∧ Frs w A' ∧ Only [] w w' := by
  by_cases h0 : X = 0
  · subst h0
    have hn0 : n = 0 := by rw [hA.n_eq, Nm.len_zero]
    subst hn0
    go_enter Try.func109, Try.ntmps109
    go_wp2_with (go_at_call 86; refine (size_any w A 0 c 0 (by decide) hA).mono ?_; rintro e w' ⟨s, rfl, hs, hs2, rfl⟩; obtain rfl : s = 0 := by omega)
    go_ret
    exact ⟨_, _, _, rfl, BytS.zero _ _ _, Frs.none w, Only.refl _ _⟩
  · obtain ⟨n8, Hn8⟩ : ∃ n8, Hid (n8 = Nm.len 256 X) := ⟨_, rfl⟩
    have hn80 : n8 ≠ 0 := by rw [Hn8.out]; exact fun h => h0 ((Nm.len_eq_zero (by decide)).1 h)
    have hbb := Nm.bytes_bits X
    rw [← Hn8.out] at hbb
    have Hbb := Lib.hid hbb
    have hn80I : (n8 : Int) ≠ 0 := by omega
    have hn80b : ((n8 : Int) == 0) = false := beq_eq_false_iff_ne.2 hn80I
    clear hbb
    go_enter Try.func109, Try.ntmps109
    go_wp2_with (first
      | (go_at_call 86
         refine (size_any w A n c X (by omega) hA).mono ?_
         rintro e w' ⟨s, rfl, hs, hs2, rfl⟩
         have hs8 : ((s : Int) + 7) / 8 = (n8 : Int) := by have := Hbb.out; rw [← hs.out] at this; omega
         have hn8m : n8 ≤ 400000 := by omega
         have hn8I : (n8 : Int) ≤ 400000 := by omega
         have hwn : IntKind.i64.wrap (n8 : Int) = (n8 : Int) := i64_in (by omega) (by omega))
      | (refine wpl_make rfl 22 _ _ rfl 5 (.int .u8 0) 1 Try.underlying22 info8 rfl .i64 .i64 _ _ n8 n8 (by omega) (by omega) rfl rfl (Nat.le_refl _) (by omega) (by decide) ?_; intro w1 _ hB1 hO1))
    rw [zeros8r] at hB1
    go_loopw [16] (fun i wr => ∃ k : Nat, k ≤ n8 ∧ i = .int .i64 (k : Int) ∧ Blk wr w.heap.size 5 (cN .u8 (Nm.pad 256 n8 (X % 256 ^ k)).reverse) ∧ Only [] w wr) (fun i _ => n8 - (intOf i).toNat)
    case atStart => exact ⟨0, Nat.zero_le _, rfl, by rw [Nat.pow_zero, Nat.mod_one]; exact hB1, hO1⟩
    case round =>
      clear hB1 hO1
      obtain ⟨k, hk, rfl, hBk, hO⟩ := hrel
      by_cases hlt : k < n8
      · have hltI : (k : Int) < (n8 : Int) := by omega
        have hkm : (k : Int) ≤ 400000 := by omega
        obtain ⟨r, Hr⟩ : ∃ r, Hid (k + r + 1 = n8) := ⟨n8 - 1 - k, by unfold Hid; omega⟩
        have hrI : (n8 : Int) - 1 - (k : Int) = (r : Int) := by have := Hr.out; omega
        have hrn : (r : Int) < (n8 : Int) := by omega
        obtain ⟨q, Hq⟩ : ∃ q, Hid (q = k / 4) := ⟨_, rfl⟩
        have hqI : (k : Int) / 4 = (q : Int) := by have := Hq.out; omega
        have hqn : q < n := by
          rw [hA.n_eq]
          apply Nat.lt_of_not_le
          intro hle
          have h1 := (Nm.len_le (B := W32) (by decide) q X).1 hle
          rw [Nm.w32_pow] at h1
          have h2 := (Nm.len_le (B := 256) (by decide) (4 * q) X).2 h1
          rw [← Hn8.out] at h2
          have := Hq.out
          omega
        have hqnI : (q : Int) < (n : Int) := by omega
        have hq1 : (q : Int) ≤ 400000 := by omega
        have hwq : IntKind.i64.wrap (q : Int) = (q : Int) := i64_in (by omega) (by omega)
        obtain ⟨ga, oa, hAe, hga, hca⟩ := (hA.keep hO).at (by omega)
        have c1 := hca q hqn
        obtain ⟨r4, Hr4⟩ : ∃ r4, Hid (r4 = k % 4) := ⟨_, rfl⟩
        have hr4I : (k : Int) % 4 = (r4 : Int) := by have := Hr4.out; omega
        have hcase : r4 = 0 ∨ r4 = 1 ∨ r4 = 2 ∨ r4 = 3 := by have := Hr4.out; omega
        have hbw := Nm.byte_word X q r4 (by omega)
        rw [show 4 * q + r4 = k by have := Hr4.out; have := Hq.out; omega] at hbw
        have hxl : X / W32 ^ q % W32 < 4294967296 := Nat.mod_lt _ (by decide)
        obtain ⟨d, Hdx⟩ : ∃ d, Hid (d = X / 256 ^ k % 256) := ⟨_, rfl⟩
        rw [← Hdx.out] at hbw
        generalize X / W32 ^ q % W32 = x at c1 hbw hxl
        have hxI : (x : Int) < 4294967296 := by omega
        have Hbw := Lib.hid hbw
        subst hAe
        clear hca hbw
        rcases hcase with rfl | rfl | rfl | rfl
        · have Hd : Hid (x % 256 = d) := by unfold Hid; have := Hbw.out; simpa using this
          have hv2 : (x : Int) % 256 = (d : Int) := by have := Hd.out; omega
          have hv2 : ((x : Int) / 1) % 256 = (d : Int) := by have := Hd.out; omega
          have hB' := hBk.set r (.int .u8 (d : Int))
          rw [cN_set, byte_fill X n8 k r d Hr.out (by rw [Hdx.out])] at hB'
          have HB' := Lib.hid hB'
          have c2 := hBk.cellv (i := r) (cN_get (by simp; omega))
          have fz := hBk.frozen r
          clear hB' hBk
          go_wp2
          go_roundw
          case rel => exact ⟨k + 1, by omega, by go_num, HB'.out, hO.setCell (p := ⟨w.heap.size, r, none⟩) (.inr (Nat.le_refl _)) _⟩
          case measure => simp [intOf]; omega
        · have Hd : Hid (x / 256 % 256 = d) := Hbw.out
          have hv2 : ((x : Int) / 256) % 256 = (d : Int) := by have := Hd.out; omega
          have hB' := hBk.set r (.int .u8 (d : Int))
          rw [cN_set, byte_fill X n8 k r d Hr.out (by rw [Hdx.out])] at hB'
          have HB' := Lib.hid hB'
          have c2 := hBk.cellv (i := r) (cN_get (by simp; omega))
          have fz := hBk.frozen r
          clear hB' hBk
          go_wp2
          go_roundw
          case rel => exact ⟨k + 1, by omega, by go_num, HB'.out, hO.setCell (p := ⟨w.heap.size, r, none⟩) (.inr (Nat.le_refl _)) _⟩
          case measure => simp [intOf]; omega
        · have Hd : Hid (x / 65536 % 256 = d) := Hbw.out
          have hv2 : ((x : Int) / 65536) % 256 = (d : Int) := by have := Hd.out; omega
          have hB' := hBk.set r (.int .u8 (d : Int))
          rw [cN_set, byte_fill X n8 k r d Hr.out (by rw [Hdx.out])] at hB'
          have HB' := Lib.hid hB'
          have c2 := hBk.cellv (i := r) (cN_get (by simp; omega))
          have fz := hBk.frozen r
          clear hB' hBk
          go_wp2
          go_roundw
          case rel => exact ⟨k + 1, by omega, by go_num, HB'.out, hO.setCell (p := ⟨w.heap.size, r, none⟩) (.inr (Nat.le_refl _)) _⟩
          case measure => simp [intOf]; omega
        · have Hd : Hid (x / 16777216 % 256 = d) := Hbw.out
          have hv3 : (x : Int) / 16777216 = (d : Int) := by have := Hd.out; omega
          have hv2 : ((x : Int) / 16777216) % 256 = (d : Int) := by have := Hd.out; omega
          have hB' := hBk.set r (.int .u8 (d : Int))
          rw [cN_set, byte_fill X n8 k r d Hr.out (by rw [Hdx.out])] at hB'
          have HB' := Lib.hid hB'
          have c2 := hBk.cellv (i := r) (cN_get (by simp; omega))
          have fz := hBk.frozen r
          clear hB' hBk
          go_wp2
          go_roundw
          case rel => exact ⟨k + 1, by omega, by go_num, HB'.out, hO.setCell (p := ⟨w.heap.size, r, none⟩) (.inr (Nat.le_refl _)) _⟩
          case measure => simp [intOf]; omega
      · obtain rfl : k = n8 := by omega
        have hX : X < 256 ^ k := by rw [Hn8.out]; exact Nm.lt_pow_len (by decide) X
        rw [Nat.mod_eq_of_lt hX] at hBk
        have hBS : BytS wr (some ⟨w.heap.size, 0, none⟩) k k X := ⟨Hn8.out, Nat.le_refl _, by rw [Nm.dg_pad (by decide), ← Hn8.out]; exact hBk.rv⟩
        clear hX hBk
        go_wp2
        go_ret
        exact ⟨_, _, _, rfl, hBS, fun p hp => by injection hp with hp; subst hp; exact Nat.le_refl _, hO⟩
end Go.Proofs.Ytddfphneidcibaa
