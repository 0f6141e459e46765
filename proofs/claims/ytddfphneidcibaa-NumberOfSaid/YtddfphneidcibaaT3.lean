/-
  THE WALK of number's Value on valid Ints.
-/
import Derived.Test.YtddfphneidcibaaT2
namespace Go.Proofs.Ytddfphneidcibaa
open Go.RowKit
open Nm (W32)

/-- What Value returns. -/
def valP (x v er : Int) : Prop := (-9223372036854775808 ≤ x ∧ x ≤ 9223372036854775807 ∧ v = x ∧ er = 0) ∨ ((x < -9223372036854775808 ∨ 9223372036854775807 < x) ∧ v = 0 ∧ er = 3)
theorem or64b (u d : Nat) (hu : u < 72057594037927936) (hd : d < 256) : bits .or .u64 ((u : Int) * 256) (d : Int) = ((u * 256 + d : Nat) : Int) := by
  have h := u64_or_nat (u * 256) d (by omega) (by omega)
  have e : u * 256 ||| d = u * 256 + d := by
    have := Nat.two_pow_add_eq_or_of_lt (i := 8) (b := d) (by omega) u
    rw [Nat.mul_comm u]
    exact this.symm
  rw [e] at h
  rw [← h]
  simp

set_option maxHeartbeats 4000000 in
set_option maxRecDepth 100000 in
theorem value_any (w : World) (s : Bool) (A : Option Addr) (n c : Nat) (x : Int) (hx : x.natAbs < big512) (hA : IntS w s A n c x) :
    Calls Try.prog 19 #[.agg #[.bool s, .slice A n c]] w fun e w' => ∃ v er : Int, e = .returned (.tuple #[.int .i64 v, .int .i64 er]) ∧ Hid (valP x v er) ∧ Only [] w w' := by
  have Hsg := Lib.hid hA.sg
  have Hn := Lib.hid hA.by_.n_eq
  obtain ⟨hBa, hO0⟩ := box1_spec w (.bool s) (.slice A n c)
  have hn := hA.n_le hx
  have Hx := Lib.hid hx
  obtain ⟨K0, K1, -, -⟩ := hBa.two
  clear hx
  go_enter Try.func19, Try.ntmps19
  go_wp2_with fail
  clear K0 K1
  refine (valid_yes _ s A n c x (hA.keep hO0) Hx.out).mono ?_
  rintro e w1 ⟨rfl, hO1⟩
  have hBa1 := hBa.keep hO1 (by simp)
  obtain ⟨K0, K1, -, -⟩ := hBa1.two
  have hA1 := (hA.keep hO0).keep hO1
  have hP1 := hO0.trans' hO1
  by_cases h8 : 8 < n
  · have h8I : (8 : Int) < (n : Int) := by omega
    have hbig : 18446744073709551616 ≤ x.natAbs := by
      have h : ¬ Nm.len 256 x.natAbs ≤ 8 := by rw [← Hn.out]; omega
      rw [Nm.len_le (by decide)] at h
      omega
    go_wp2
    go_ret2
    exact ⟨0, 3, rfl, .inr ⟨by omega, rfl, rfl⟩, hP1⟩
  · have h8I : (n : Int) ≤ 8 := by omega
    have hlt : x.natAbs < 256 ^ n := by rw [Hn.out]; exact Nm.lt_pow_len (by decide) _
    have hXb : x.natAbs < 18446744073709551616 := Nat.lt_of_lt_of_le hlt (by
      have : 256 ^ n ≤ 256 ^ 8 := Nat.pow_le_pow_right (by decide) (by omega)
      omega)
    have Hlt := Lib.hid hlt
    have HXb := Lib.hid hXb
    clear hlt hXb hA
    go_wp2
    go_loopw [4, 6, 17] (fun u _ i wr => ∃ (k j uu : Nat), k + j = n ∧ i = .int .i64 (k : Int) ∧ u = .int .u64 (uu : Int) ∧ Hid (uu = x.natAbs / 256 ^ j) ∧ w1 = wr) (fun _ _ i _ => n - (intOf i).toNat)
    case atStart => exact ⟨0, n, 0, by omega, rfl, rfl, by unfold Hid; rw [Nat.div_eq_of_lt Hlt.out], rfl⟩
    case round =>
      obtain ⟨k, j, uu, hkj, rfl, rfl, huu, rfl⟩ := hrel
      by_cases hk : k < n
      · have hkI : (k : Int) < (n : Int) := by omega
        obtain ⟨i, rfl⟩ : ∃ i, j = i + 1 := ⟨j - 1, by omega⟩
        obtain ⟨g, o, rfl, hg, hc⟩ := hA1.by_.at (by omega)
        have c1 := hc i k (by omega)
        have hnx := Nm.div_next (B := 256) x.natAbs i
        rw [← huu.out] at hnx
        have hdl : x.natAbs / 256 ^ i % 256 < 256 := Nat.mod_lt _ (by decide)
        have hul : uu < 72057594037927936 := by
          rw [huu.out]
          have h1 : x.natAbs / 256 ^ (i + 1) ≤ x.natAbs / 256 := Nat.div_le_div_left (by rw [Nat.pow_succ]; exact Nat.le_mul_of_pos_left _ (Nat.pow_pos (by decide))) (by decide)
          have := HXb.out
          omega
        generalize x.natAbs / 256 ^ i % 256 = dd at c1 hnx hdl
        have hor := or64b uu dd hul hdl
        obtain ⟨v, Hv⟩ : ∃ v, Hid (v = uu * 256 + dd) := ⟨_, rfl⟩
        rw [← Hv.out] at hor hnx
        have hulI : (uu : Int) < 72057594037927936 := by omega
        have hdI : (dd : Int) < 256 := by omega
        have Hnx := Lib.hid hnx
        clear hc hnx
        go_wp2
        go_roundw
        case rel => exact ⟨k + 1, i, v, by omega, by go_num, rfl, Hnx.out.symm, trivial⟩
        case measure => simp [intOf]; omega
      · obtain rfl : k = n := by omega
        obtain rfl : j = 0 := by omega
        obtain rfl : uu = x.natAbs := by rw [huu.out]; simp
        have hXI : (x.natAbs : Int) < 18446744073709551616 := by have := HXb.out; omega
        have hUx := Hsg.out
        obtain ⟨U, HU⟩ : ∃ U, Hid (U = x.natAbs) := ⟨_, rfl⟩
        rw [← HU.out] at hXI ⊢
        cases s
        · have hxp : Hid (x = (U : Int)) := by unfold Hid; have : ¬ x < 0 := by simpa using hUx
                                               have := HU.out; omega
          clear hUx
          by_cases hb : (9223372036854775807 : Int) < (U : Int)
          · go_wp2
            go_ret2
            exact ⟨0, 3, rfl, .inr ⟨by have := hxp.out; omega, rfl, rfl⟩, hP1⟩
          · have hb' : (U : Int) ≤ 9223372036854775807 := by omega
            go_wp2
            go_ret2
            exact ⟨(U : Int), 0, rfl, .inl ⟨by have := hxp.out; omega, by have := hxp.out; omega, hxp.out.symm, rfl⟩, hP1⟩
        · have hxp : Hid (x = -(U : Int) ∧ 0 < U) := by unfold Hid; have : x < 0 := by simpa using hUx.symm
                                                        have := HU.out; omega
          clear hUx
          by_cases hb : (9223372036854775808 : Int) < (U : Int)
          · go_wp2
            go_ret2
            exact ⟨0, 3, rfl, .inr ⟨by have := hxp.out; omega, rfl, rfl⟩, hP1⟩
          · have hb' : (U : Int) ≤ 9223372036854775808 := by omega
            have hw0 : IntKind.u64.wrap (-(U : Int)) = -(U : Int) + 18446744073709551616 := u64_neg (by omega) (by have := hxp.out; omega)
            have hw1 : IntKind.i64.wrap (-(U : Int) + 18446744073709551616) = -(U : Int) := by
              have := hxp.out
              simp [IntKind.wrap, IntKind.signed, IntKind.bits]
              omega
            go_wp2
            go_ret2
            exact ⟨-(U : Int), 0, rfl, .inl ⟨by have := hxp.out; omega, by have := hxp.out; omega, hxp.out.1.symm, rfl⟩, hP1⟩
end Go.Proofs.Ytddfphneidcibaa
