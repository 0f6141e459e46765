/-
  THE LAW NumberPowers.
-/
import Derived.Test.YtddfphneidcibaaLawTexts1
namespace Go.Proofs.Ytddfphneidcibaa
open Go.RowKit
open Nm (W32)
namespace Sx
theorem one512 : (1 : Int).natAbs < big512 := by unfold big512; decide +kernel
/-- Powers. -/
theorem pow_mono {x : Int} {k m : Nat} (h1 : 1 ≤ x.natAbs) (h : k ≤ m) : (x ^ k).natAbs ≤ (x ^ m).natAbs := by
  rw [Int.natAbs_pow, Int.natAbs_pow]
  exact Nat.pow_le_pow_right h1 h
theorem pow_zero_of {x : Int} {m : Nat} (h : x = 0) (hm : 0 < m) : x ^ m = 0 := by subst h; exact Int.zero_pow (by omega)
theorem pow_one_of {x : Int} (h : x.natAbs = 1) (m : Nat) : x ^ m = x ^ (2 - m % 2) := by
  have h2 : x * x = 1 := by
    rcases (show x = 1 ∨ x = -1 by omega) with rfl | rfl <;> decide
  have key : ∀ k : Nat, x ^ (2 * k) = 1 := by
    intro k
    rw [Int.pow_mul, show x ^ 2 = 1 by rw [Int.pow_succ, Int.pow_succ, Int.pow_zero, Int.one_mul]; exact h2, Int.one_pow]
  rcases (show m % 2 = 0 ∨ m % 2 = 1 by omega) with h0 | h0
  · rw [h0, show m = 2 * (m / 2) by omega, key]
    have := key 1
    simpa using this.symm
  · rw [h0, show m = 2 * (m / 2) + 1 by omega, Int.pow_succ, key, Int.one_mul]
    simp [Int.pow_succ]
theorem byt_len0 {x : Int} : (((cN .u8 (Nm.dg 256 x.natAbs).reverse).length : Int) = 0) ↔ x = 0 := by
  rw [cN_length, List.length_reverse, Nm.dg_length]
  have := Nm.len_eq_zero (B := 256) (x := x.natAbs) (by decide)
  omega
theorem byt_one {x : Int} (h : ((cN .u8 (Nm.dg 256 x.natAbs).reverse).length : Int) = 1) : x.natAbs < 256 ∧ x.natAbs ≠ 0 ∧ (cN .u8 (Nm.dg 256 x.natAbs).reverse)[(0 : Int).toNat]? = some (.int .u8 (x.natAbs : Int)) := by
  rw [cN_length, List.length_reverse, Nm.dg_length] at h
  have h1 : x.natAbs < 256 ^ 1 := (Nm.len_le (B := 256) (by decide) 1 _).1 (by omega)
  have h0 : x.natAbs ≠ 0 := by
    intro h0
    rw [h0, Nm.len_zero] at h
    omega
  have e : Nm.dg 256 x.natAbs = [x.natAbs] := by rw [Nm.dg_pos (by decide) h0, Nat.div_eq_of_lt (by simpa using h1), Nm.dg_zero, Nat.mod_eq_of_lt (by simpa using h1)]
  refine ⟨by simpa using h1, h0, ?_⟩
  rw [e]
  rfl
theorem byt_is1 {x : Int} (h : x.natAbs = 1) : ((cN .u8 (Nm.dg 256 x.natAbs).reverse).length : Int) = 1 ∧ (cN .u8 (Nm.dg 256 x.natAbs).reverse)[(0 : Int).toNat]? = some (.int .u8 (x.natAbs : Int)) := by
  have e : Nm.dg 256 x.natAbs = [x.natAbs] := by rw [h, Nm.dg_pos (by decide) (by decide), show 1 / 256 = 0 from rfl, Nm.dg_zero]
  rw [e]
  exact ⟨rfl, rfl⟩
theorem pow_small {x : Int} (h : x.natAbs ≤ 1) (j : Nat) : (x ^ j).natAbs < big512 := by
  rw [Int.natAbs_pow]
  have : x.natAbs ^ j ≤ 1 ^ j := Nat.pow_le_pow_left h j
  rw [Nat.one_pow] at this
  exact Nat.lt_of_le_of_lt this one512
theorem b1 : (1 : Int).natAbs < b4 := b4_512 (by unfold big512; decide +kernel)
set_option maxHeartbeats 4000000 in
set_option maxRecDepth 100000 in
theorem powers_zero {x : Int} {m : Nat} (hm : (m : Int) ≤ 9223372036854775807) (hx : x.natAbs < big512) (h0 : x = 0) (hm0 : 0 < m) : Con Try.prog 4 [intD x, errD (m : Int)] (boolD true) := by
  have hx4 := b4_512 hx
  have hpw : x ^ m = x ^ (2 - m % 2) := by rw [pow_zero_of h0 hm0, pow_zero_of h0 (by omega)]
  have hbig : ∀ j : Nat, j ≤ 2 - m % 2 → ¬ (x ^ j).natAbs < big512 → limZ (x ^ m) = 0 ∧ limE (x ^ m) = 7 := fun j hj h => absurd (pow_small (by omega) j) h
  refine con_of Try.func4 (by kernel_rfl) rfl (by kernel_rfl) fun base w0 => ?_
  refine SW.seq ?_
  refine SW.region ?_
  refine SWl.ef (S := []) (Ef.boxA rfl rfl) ?_
  rintro _ ⟨g2, rfl⟩
  refine SWl.rd rfl (Rd.assign rfl) ?_
  refine SWl.nil ?_
  refine SN.then ?_
  refine SW.seq ?_
  refine SW.seq ?_
  refine SW.region ?_
  refine SWl.rd rfl (Rd.loadA 0 2 rfl rfl (by kernel_rfl) rfl trivial) ?_
  refine SWl.ef (S := []) (Ef.litR rfl rfl blsI1 rfl) ?_
  rintro _ rfl
  refine SWl.ef (S := []) (Ef.call (con_big [(decide (x < 0), (Nm.dg 256 x.natAbs).reverse)] (by simp)) rfl ⟨Le.refl _, trivial⟩ rfl) ?_
  rintro _ rfl
  refine SWl.nil ?_
  refine SN.then ?_
  refine SW.condF rfl (any1_int hx) ?_
  refine SW.skip ?_
  refine SN.then ?_
  refine SW.seq ?_
  refine SW.region ?_
  refine SWl.rd rfl (Rd.loadA 0 2 rfl rfl (by kernel_rfl) rfl trivial) ?_
  refine SWl.rd rfl (Rd.move rfl) ?_
  refine SWl.ef (S := []) (Ef.call (con_power hm hx) rfl ⟨Le.refl _, Le.refl _, trivial⟩ rfl) ?_
  rintro _ rfl
  refine SWl.rd rfl (Rd.move rfl) ?_
  refine SWl.rd rfl (Rd.extract rfl rfl) ?_
  refine SWl.rd rfl (Rd.extract rfl rfl) ?_
  refine SWl.ef (S := []) (Ef.alloc (zs := [.bool false, .slice none 0 0]) (by kernel_rfl) rfl) ?_
  rintro _ ⟨g5, rfl⟩
  refine SWl.ef (S := [_]) (Ef.storeA 1 rfl rfl rfl (by kernel_rfl) rfl (List.mem_singleton.2 rfl)) ?_
  rintro _ rfl
  refine SWl.rd rfl (Rd.assign rfl) ?_
  refine SWl.nil ?_
  refine SN.then ?_
  refine SW.seq ?_
  refine SW.seq ?_
  refine SW.region ?_
  refine SWl.rd rfl (Rd.loadA 0 2 rfl rfl (by kernel_rfl) rfl trivial) ?_
  refine SWl.ef (S := []) (Ef.call (con_validRT (by assumption)) rfl ⟨Le.refl _, trivial⟩ rfl) ?_
  rintro _ rfl
  refine SWl.rd rfl (Rd.not rfl) ?_
  refine SWl.rd rfl (Rd.move rfl) ?_
  refine SWl.rdg rfl rfl (rfl) rfl rfl (Rd.move rfl) ?_
  refine SWl.rdg rfl rfl (rfl) rfl rfl (Rd.lss rfl rfl) ?_
  refine SWl.rd rfl (Rd.pickN rfl (rfl) rfl) ?_
  refine SWl.nil ?_
  refine SN.then ?_
  refine SW.condF rfl (decide_eq_false (by omega)) ?_
  refine SW.skip ?_
  refine SN.then ?_
  refine SW.seq ?_
  refine SW.seq ?_
  refine SW.region ?_
  refine SWl.rd rfl (Rd.fieldAddr (n := 1) rfl (by kernel_rfl)) ?_
  refine SWl.rd rfl (Rd.loadB 0 rfl rfl rfl (by kernel_rfl) trivial) ?_
  refine SWl.rd rfl (Rd.len (e := 5) rfl (by kernel_rfl)) ?_
  refine SWl.rd rfl (Rd.eqi rfl rfl) ?_
  refine SWl.rd rfl (Rd.move rfl) ?_
  refine SWl.rdg rfl rfl (decide_eq_true (byt_len0.2 h0)) rfl rfl (Rd.move rfl) ?_
  refine SWl.rdg rfl rfl (decide_eq_true (byt_len0.2 h0)) rfl rfl (Rd.gtr rfl rfl) ?_
  refine SWl.rd rfl (Rd.pickY rfl (decide_eq_true (byt_len0.2 h0)) rfl) ?_
  refine SWl.rd rfl (Rd.move rfl) ?_
  refine SWl.off rfl rfl (decide_eq_true (by omega)) rfl rfl ?_
  refine SWl.off rfl rfl (decide_eq_true (by omega)) rfl rfl ?_
  refine SWl.off rfl rfl (decide_eq_true (by omega)) rfl rfl ?_
  refine SWl.off rfl rfl (decide_eq_true (by omega)) rfl rfl ?_
  refine SWl.off rfl rfl (decide_eq_true (by omega)) rfl rfl ?_
  refine SWl.offu rfl rfl rfl rfl ?_
  refine SWl.offu rfl rfl rfl rfl ?_
  refine SWl.offu rfl rfl rfl rfl ?_
  refine SWl.offu rfl rfl rfl rfl ?_
  refine SWl.offu rfl rfl rfl rfl ?_
  refine SWl.off rfl rfl (decide_eq_true (by omega)) rfl rfl ?_
  refine SWl.off rfl rfl (decide_eq_true (by omega)) rfl rfl ?_
  refine SWl.offu rfl rfl rfl rfl ?_
  refine SWl.offu rfl rfl rfl rfl ?_
  refine SWl.off rfl rfl (decide_eq_true (by omega)) rfl rfl ?_
  refine SWl.rd rfl (Rd.pickY rfl (decide_eq_true (by omega)) rfl) ?_
  refine SWl.nil ?_
  refine SN.then ?_
  refine SW.condT rfl (rfl) ?_
  refine SW.region ?_
  refine SWl.rd rfl (Rd.move rfl) ?_
  refine SWl.rd rfl (Rd.remN rfl rfl ⟨by omega, by omega⟩) ?_
  refine SWl.rd rfl (Rd.subi rfl rfl ⟨by omega, by omega⟩) ?_
  refine SWl.rd rfl (Rd.assign rfl) ?_
  refine SWl.nil ?_
  refine SN.then ?_
  refine SW.seq ?_
  refine SW.region ?_
  refine SWl.ef (S := []) (Ef.call (con_ofR (by decide) (by decide)) rfl ⟨Le.refl _, trivial⟩ rfl) ?_
  rintro _ rfl
  refine SWl.ef (S := []) (Ef.alloc (zs := [.bool false, .slice none 0 0]) (by kernel_rfl) rfl) ?_
  rintro _ ⟨g7, rfl⟩
  refine SWl.ef (S := [_]) (Ef.storeA 2 rfl rfl rfl (by kernel_rfl) rfl (List.mem_singleton.2 rfl)) ?_
  rintro _ rfl
  refine SWl.nil ?_
  refine SN.then ?_
  refine SW.seq ?_
  refine SW.seq ?_
  refine SW.region ?_
  refine SWl.rd rfl (Rd.assign rfl) ?_
  refine SWl.nil ?_
  refine SN.then ?_
  refine SW.block ?_
  refine SW.loop (ι := {k : Nat // k ≤ (2 - m % 2) ∧ (x ^ k).natAbs < big512}) (fun ⟨k, hk, hkl⟩ => St.of [(2, isD (.pointer (some ⟨g2, 0, none⟩))), (5, isD (.pointer (some ⟨g5, 0, none⟩))), (7, isD (.pointer (some ⟨g7, 0, none⟩))), (1, errD (((2 - m % 2) : Nat) : Int)), (6, errD (limE (x ^ m))), (8, errD (k : Int))] [(g2, intC (x)), (g5, intC (limZ (x ^ m))), (g7, intC (x ^ k))]) (fun ⟨k, hk, hkl⟩ => (2 - m % 2) - k) (⟨0, Nat.zero_le _, by rw [Int.pow_zero]; exact one512⟩) ?_ ?_
  · exact ⟨⟨_, rfl, ⟨⟨_, rfl, Le.refl _⟩, ⟨⟨_, rfl, Le.refl _⟩, ⟨⟨_, rfl, Le.refl _⟩, ⟨⟨_, rfl, le_err (by omega)⟩, ⟨⟨_, rfl, Le.refl _⟩, ⟨⟨_, rfl, Le.refl _⟩, trivial⟩⟩⟩⟩⟩⟩⟩, [0, 1, 2], by decide, ⟨⟨_, rfl, LeAll.refl _⟩, ⟨⟨_, rfl, LeAll.refl _⟩, ⟨⟨_, rfl, leC_int (Int.pow_zero x).symm⟩, trivial⟩⟩⟩⟩
  · rintro ⟨k, hk, hkl⟩ K0 hK0
    refine SW.seq ?_
    refine SW.seq ?_
    refine SW.region ?_
    refine SWl.rd rfl (Rd.move rfl) ?_
    refine SWl.rd rfl (Rd.move rfl) ?_
    refine SWl.rd rfl (Rd.lss rfl rfl) ?_
    refine SWl.nil ?_
    refine SN.then ?_
    refine SW.cond rfl (fun hb64 => ?_) (fun hb64 => ?_)
    · have hlt : k < (2 - m % 2) := by have := of_decide_eq_true hb64; omega
      refine SW.skip ?_
      refine SN.then ?_
      refine SW.seq ?_
      refine SW.block ?_
      refine SW.seq ?_
      refine SW.region ?_
      refine SWl.rd rfl (Rd.loadA 2 2 rfl rfl (by kernel_rfl) rfl trivial) ?_
      refine SWl.rd rfl (Rd.loadA 0 2 rfl rfl (by kernel_rfl) rfl trivial) ?_
      refine SWl.ef (S := []) (Ef.call (con_productR (b4_512 hkl) hx4) rfl ⟨Le.refl _, Le.refl _, trivial⟩ rfl) ?_
      rintro _ rfl
      refine SWl.ef (S := [_]) (Ef.storeA 2 rfl rfl rfl (by kernel_rfl) rfl (List.mem_singleton.2 rfl)) ?_
      rintro _ rfl
      refine SWl.nil ?_
      refine SN.then ?_
      refine SW.seq ?_
      refine SW.region ?_
      refine SWl.rd rfl (Rd.fieldAddr (n := 1) rfl (by kernel_rfl)) ?_
      refine SWl.rd rfl (Rd.loadB 2 rfl rfl rfl (by kernel_rfl) trivial) ?_
      refine SWl.rd rfl (Rd.len (e := 5) rfl (by kernel_rfl)) ?_
      refine SWl.rd rfl (Rd.gtr rfl rfl) ?_
      refine SWl.nil ?_
      refine SN.then ?_
      refine SW.cond rfl (fun hb73 => ?_) (fun hb73 => ?_)
      · obtain ⟨e1, e2⟩ := hbig (k + 1) (by omega) (fun h => by rw [Int.pow_succ] at h; have h2 := (lim_ok h).2; rw [(lim_len hb73).2] at h2; cases h2)
        refine SW.seq ?_
        refine SW.region ?_
        refine SWl.rd rfl (Rd.loadA 1 2 rfl rfl (by kernel_rfl) rfl trivial) ?_
        refine SWl.rd rfl (Rd.move rfl) ?_
        refine SWl.rd rfl (Rd.build rfl rfl bldI0) ?_
        refine SWl.ef (S := []) (Ef.call (con_sameL e1 e2) rfl ⟨Le.refl _, Le.refl _, le_int0, Le.refl _, trivial⟩ rfl) ?_
        rintro _ rfl
        refine SWl.rd rfl (Rd.move rfl) ?_
        refine SWl.efg (S := []) rfl rfl (rfl) rfl (Ef.call (con_known) rfl trivial rfl) ?_
        rintro _ rfl
        refine SWl.rd rfl (Rd.pickY rfl (rfl) rfl) ?_
        refine SWl.rd rfl (Rd.assign rfl) ?_
        refine SWl.nil ?_
        refine SN.then ?_
        refine SW.ret (fn := Try.f4) (fun _ _ h => h) (Rs.one rfl (ResV.tmp rfl))
      · have hk2 := lim_len' hb73
        refine SW.skip ?_
        refine SN.block ?_
        refine SN.then ?_
        refine SW.region ?_
        refine SWl.rd rfl (Rd.move rfl) ?_
        refine SWl.rd rfl (Rd.add rfl rfl ⟨by omega, by omega⟩) ?_
        refine SWl.rd rfl (Rd.assign rfl) ?_
        refine SWl.nil ?_
        exact fun a w hh => hK0 (⟨k + 1, hlt, by rw [Int.pow_succ]; exact hk2⟩) (by show (2 - m % 2) - (k + 1) < (2 - m % 2) - k; omega) a w (hh.sub (⟨⟨_, rfl, ⟨⟨_, rfl, Le.refl _⟩, ⟨⟨_, rfl, Le.refl _⟩, ⟨⟨_, rfl, Le.refl _⟩, ⟨⟨_, rfl, Le.refl _⟩, ⟨⟨_, rfl, Le.refl _⟩, ⟨⟨_, rfl, le_err (by omega)⟩, trivial⟩⟩⟩⟩⟩⟩⟩, [0, 1, 2], by decide, ⟨⟨_, rfl, LeAll.refl _⟩, ⟨⟨_, rfl, LeAll.refl _⟩, ⟨⟨_, rfl, leC_int (Int.pow_succ x k).symm⟩, trivial⟩⟩⟩⟩))
    · obtain rfl : k = (2 - m % 2) := by have := of_decide_eq_false hb64; omega
      refine SW.exit' ?_
      repeat (first | refine SE.then ?_ | refine SE.skip (by decide) ?_)
      refine SE.here ?_
      refine SN.then ?_
      refine SW.seq ?_
      refine SW.region ?_
      refine SWl.rd rfl (Rd.loadA 1 2 rfl rfl (by kernel_rfl) rfl trivial) ?_
      refine SWl.rd rfl (Rd.move rfl) ?_
      refine SWl.rd rfl (Rd.loadA 2 2 rfl rfl (by kernel_rfl) rfl trivial) ?_
      refine SWl.ef (S := []) (Ef.call (con_sameL (by rw [(lim_ok (by rw [hpw]; exact hkl)).1, hpw]) (lim_ok (by rw [hpw]; exact hkl)).2) rfl ⟨Le.refl _, Le.refl _, Le.refl _, Le.refl _, trivial⟩ rfl) ?_
      rintro _ rfl
      refine SWl.rd rfl (Rd.move rfl) ?_
      refine SWl.efg (S := []) rfl rfl (rfl) rfl (Ef.call (con_known) rfl trivial rfl) ?_
      rintro _ rfl
      refine SWl.rd rfl (Rd.pickY rfl (rfl) rfl) ?_
      refine SWl.rd rfl (Rd.assign rfl) ?_
      refine SWl.nil ?_
      refine SN.then ?_
      refine SW.ret (fn := Try.f4) (fun _ _ h => h) (Rs.one rfl (ResV.tmp rfl))
set_option maxHeartbeats 4000000 in
set_option maxRecDepth 100000 in
theorem powers_one {x : Int} {m : Nat} (hm : (m : Int) ≤ 9223372036854775807) (hx : x.natAbs < big512) (h0 : x.natAbs = 1) (hm0 : 1 < m) : Con Try.prog 4 [intD x, errD (m : Int)] (boolD true) := by
  have hx4 := b4_512 hx
  have hpw := pow_one_of h0 m
  have hidx := (byt_is1 h0).2
  have hbig : ∀ j : Nat, j ≤ 2 - m % 2 → ¬ (x ^ j).natAbs < big512 → limZ (x ^ m) = 0 ∧ limE (x ^ m) = 7 := fun j hj h => absurd (pow_small (by omega) j) h
  refine con_of Try.func4 (by kernel_rfl) rfl (by kernel_rfl) fun base w0 => ?_
  refine SW.seq ?_
  refine SW.region ?_
  refine SWl.ef (S := []) (Ef.boxA rfl rfl) ?_
  rintro _ ⟨g2, rfl⟩
  refine SWl.rd rfl (Rd.assign rfl) ?_
  refine SWl.nil ?_
  refine SN.then ?_
  refine SW.seq ?_
  refine SW.seq ?_
  refine SW.region ?_
  refine SWl.rd rfl (Rd.loadA 0 2 rfl rfl (by kernel_rfl) rfl trivial) ?_
  refine SWl.ef (S := []) (Ef.litR rfl rfl blsI1 rfl) ?_
  rintro _ rfl
  refine SWl.ef (S := []) (Ef.call (con_big [(decide (x < 0), (Nm.dg 256 x.natAbs).reverse)] (by simp)) rfl ⟨Le.refl _, trivial⟩ rfl) ?_
  rintro _ rfl
  refine SWl.nil ?_
  refine SN.then ?_
  refine SW.condF rfl (any1_int hx) ?_
  refine SW.skip ?_
  refine SN.then ?_
  refine SW.seq ?_
  refine SW.region ?_
  refine SWl.rd rfl (Rd.loadA 0 2 rfl rfl (by kernel_rfl) rfl trivial) ?_
  refine SWl.rd rfl (Rd.move rfl) ?_
  refine SWl.ef (S := []) (Ef.call (con_power hm hx) rfl ⟨Le.refl _, Le.refl _, trivial⟩ rfl) ?_
  rintro _ rfl
  refine SWl.rd rfl (Rd.move rfl) ?_
  refine SWl.rd rfl (Rd.extract rfl rfl) ?_
  refine SWl.rd rfl (Rd.extract rfl rfl) ?_
  refine SWl.ef (S := []) (Ef.alloc (zs := [.bool false, .slice none 0 0]) (by kernel_rfl) rfl) ?_
  rintro _ ⟨g5, rfl⟩
  refine SWl.ef (S := [_]) (Ef.storeA 1 rfl rfl rfl (by kernel_rfl) rfl (List.mem_singleton.2 rfl)) ?_
  rintro _ rfl
  refine SWl.rd rfl (Rd.assign rfl) ?_
  refine SWl.nil ?_
  refine SN.then ?_
  refine SW.seq ?_
  refine SW.seq ?_
  refine SW.region ?_
  refine SWl.rd rfl (Rd.loadA 0 2 rfl rfl (by kernel_rfl) rfl trivial) ?_
  refine SWl.ef (S := []) (Ef.call (con_validRT (by assumption)) rfl ⟨Le.refl _, trivial⟩ rfl) ?_
  rintro _ rfl
  refine SWl.rd rfl (Rd.not rfl) ?_
  refine SWl.rd rfl (Rd.move rfl) ?_
  refine SWl.rdg rfl rfl (rfl) rfl rfl (Rd.move rfl) ?_
  refine SWl.rdg rfl rfl (rfl) rfl rfl (Rd.lss rfl rfl) ?_
  refine SWl.rd rfl (Rd.pickN rfl (rfl) rfl) ?_
  refine SWl.nil ?_
  refine SN.then ?_
  refine SW.condF rfl (decide_eq_false (by omega)) ?_
  refine SW.skip ?_
  refine SN.then ?_
  refine SW.seq ?_
  refine SW.seq ?_
  refine SW.region ?_
  refine SWl.rd rfl (Rd.fieldAddr (n := 1) rfl (by kernel_rfl)) ?_
  refine SWl.rd rfl (Rd.loadB 0 rfl rfl rfl (by kernel_rfl) trivial) ?_
  refine SWl.rd rfl (Rd.len (e := 5) rfl (by kernel_rfl)) ?_
  refine SWl.rd rfl (Rd.eqi rfl rfl) ?_
  refine SWl.rd rfl (Rd.move rfl) ?_
  refine SWl.off rfl rfl (decide_eq_false (fun h => by have := byt_len0.1 h; omega)) rfl rfl ?_
  refine SWl.off rfl rfl (decide_eq_false (fun h => by have := byt_len0.1 h; omega)) rfl rfl ?_
  refine SWl.rd rfl (Rd.pickN rfl (decide_eq_false (fun h => by have := byt_len0.1 h; omega)) rfl) ?_
  refine SWl.rd rfl (Rd.move rfl) ?_
  refine SWl.rdg rfl rfl (rfl) rfl rfl (Rd.fieldAddr (n := 1) rfl (by kernel_rfl)) ?_
  refine SWl.rdg rfl rfl (rfl) rfl rfl (Rd.loadB 0 rfl rfl rfl (by kernel_rfl) trivial) ?_
  refine SWl.rdg rfl rfl (rfl) rfl rfl (Rd.len (e := 5) rfl (by kernel_rfl)) ?_
  refine SWl.rdg rfl rfl (rfl) rfl rfl (Rd.eqi rfl rfl) ?_
  refine SWl.rdg rfl rfl (rfl) rfl rfl (Rd.move rfl) ?_
  refine SWl.rdg rfl rfl (decide_eq_true (byt_is1 h0).1) rfl rfl (Rd.fieldAddr (n := 1) rfl (by kernel_rfl)) ?_
  refine SWl.rdg rfl rfl (decide_eq_true (byt_is1 h0).1) rfl rfl (Rd.loadB 0 rfl rfl rfl (by kernel_rfl) trivial) ?_
  refine SWl.rdg rfl rfl (decide_eq_true (byt_is1 h0).1) rfl rfl (Rd.idx (e := 5) rfl rfl (by kernel_rfl) (by kernel_rfl) (by decide) hidx) ?_
  refine SWl.rdg rfl rfl (decide_eq_true (byt_is1 h0).1) rfl rfl (Rd.loadP rfl (by kernel_rfl) (by simp)) ?_
  refine SWl.rdg rfl rfl (decide_eq_true (byt_is1 h0).1) rfl rfl (Rd.eqi rfl rfl) ?_
  refine SWl.rdg rfl rfl (rfl) rfl rfl (Rd.pickY rfl (decide_eq_true (byt_is1 h0).1) rfl) ?_
  refine SWl.rdg rfl rfl (rfl) rfl rfl (Rd.move rfl) ?_
  refine SWl.rdg rfl rfl (decide_eq_true (by omega)) rfl rfl (Rd.move rfl) ?_
  refine SWl.rdg rfl rfl (decide_eq_true (by omega)) rfl rfl (Rd.gtr rfl rfl) ?_
  refine SWl.rdg rfl rfl (rfl) rfl rfl (Rd.pickY rfl (decide_eq_true (by omega)) rfl) ?_
  refine SWl.rd rfl (Rd.pickN rfl (rfl) rfl) ?_
  refine SWl.nil ?_
  refine SN.then ?_
  refine SW.condT rfl (decide_eq_true (by omega)) ?_
  refine SW.region ?_
  refine SWl.rd rfl (Rd.move rfl) ?_
  refine SWl.rd rfl (Rd.remN rfl rfl ⟨by omega, by omega⟩) ?_
  refine SWl.rd rfl (Rd.subi rfl rfl ⟨by omega, by omega⟩) ?_
  refine SWl.rd rfl (Rd.assign rfl) ?_
  refine SWl.nil ?_
  refine SN.then ?_
  refine SW.seq ?_
  refine SW.region ?_
  refine SWl.ef (S := []) (Ef.call (con_ofR (by decide) (by decide)) rfl ⟨Le.refl _, trivial⟩ rfl) ?_
  rintro _ rfl
  refine SWl.ef (S := []) (Ef.alloc (zs := [.bool false, .slice none 0 0]) (by kernel_rfl) rfl) ?_
  rintro _ ⟨g7, rfl⟩
  refine SWl.ef (S := [_]) (Ef.storeA 2 rfl rfl rfl (by kernel_rfl) rfl (List.mem_singleton.2 rfl)) ?_
  rintro _ rfl
  refine SWl.nil ?_
  refine SN.then ?_
  refine SW.seq ?_
  refine SW.seq ?_
  refine SW.region ?_
  refine SWl.rd rfl (Rd.assign rfl) ?_
  refine SWl.nil ?_
  refine SN.then ?_
  refine SW.block ?_
  refine SW.loop (ι := {k : Nat // k ≤ (2 - m % 2) ∧ (x ^ k).natAbs < big512}) (fun ⟨k, hk, hkl⟩ => St.of [(2, isD (.pointer (some ⟨g2, 0, none⟩))), (5, isD (.pointer (some ⟨g5, 0, none⟩))), (7, isD (.pointer (some ⟨g7, 0, none⟩))), (1, errD (((2 - m % 2) : Nat) : Int)), (6, errD (limE (x ^ m))), (8, errD (k : Int))] [(g2, intC (x)), (g5, intC (limZ (x ^ m))), (g7, intC (x ^ k))]) (fun ⟨k, hk, hkl⟩ => (2 - m % 2) - k) (⟨0, Nat.zero_le _, by rw [Int.pow_zero]; exact one512⟩) ?_ ?_
  · exact ⟨⟨_, rfl, ⟨⟨_, rfl, Le.refl _⟩, ⟨⟨_, rfl, Le.refl _⟩, ⟨⟨_, rfl, Le.refl _⟩, ⟨⟨_, rfl, le_err (by omega)⟩, ⟨⟨_, rfl, Le.refl _⟩, ⟨⟨_, rfl, Le.refl _⟩, trivial⟩⟩⟩⟩⟩⟩⟩, [0, 1, 2], by decide, ⟨⟨_, rfl, LeAll.refl _⟩, ⟨⟨_, rfl, LeAll.refl _⟩, ⟨⟨_, rfl, leC_int (Int.pow_zero x).symm⟩, trivial⟩⟩⟩⟩
  · rintro ⟨k, hk, hkl⟩ K0 hK0
    refine SW.seq ?_
    refine SW.seq ?_
    refine SW.region ?_
    refine SWl.rd rfl (Rd.move rfl) ?_
    refine SWl.rd rfl (Rd.move rfl) ?_
    refine SWl.rd rfl (Rd.lss rfl rfl) ?_
    refine SWl.nil ?_
    refine SN.then ?_
    refine SW.cond rfl (fun hb64 => ?_) (fun hb64 => ?_)
    · have hlt : k < (2 - m % 2) := by have := of_decide_eq_true hb64; omega
      refine SW.skip ?_
      refine SN.then ?_
      refine SW.seq ?_
      refine SW.block ?_
      refine SW.seq ?_
      refine SW.region ?_
      refine SWl.rd rfl (Rd.loadA 2 2 rfl rfl (by kernel_rfl) rfl trivial) ?_
      refine SWl.rd rfl (Rd.loadA 0 2 rfl rfl (by kernel_rfl) rfl trivial) ?_
      refine SWl.ef (S := []) (Ef.call (con_productR (b4_512 hkl) hx4) rfl ⟨Le.refl _, Le.refl _, trivial⟩ rfl) ?_
      rintro _ rfl
      refine SWl.ef (S := [_]) (Ef.storeA 2 rfl rfl rfl (by kernel_rfl) rfl (List.mem_singleton.2 rfl)) ?_
      rintro _ rfl
      refine SWl.nil ?_
      refine SN.then ?_
      refine SW.seq ?_
      refine SW.region ?_
      refine SWl.rd rfl (Rd.fieldAddr (n := 1) rfl (by kernel_rfl)) ?_
      refine SWl.rd rfl (Rd.loadB 2 rfl rfl rfl (by kernel_rfl) trivial) ?_
      refine SWl.rd rfl (Rd.len (e := 5) rfl (by kernel_rfl)) ?_
      refine SWl.rd rfl (Rd.gtr rfl rfl) ?_
      refine SWl.nil ?_
      refine SN.then ?_
      refine SW.cond rfl (fun hb73 => ?_) (fun hb73 => ?_)
      · obtain ⟨e1, e2⟩ := hbig (k + 1) (by omega) (fun h => by rw [Int.pow_succ] at h; have h2 := (lim_ok h).2; rw [(lim_len hb73).2] at h2; cases h2)
        refine SW.seq ?_
        refine SW.region ?_
        refine SWl.rd rfl (Rd.loadA 1 2 rfl rfl (by kernel_rfl) rfl trivial) ?_
        refine SWl.rd rfl (Rd.move rfl) ?_
        refine SWl.rd rfl (Rd.build rfl rfl bldI0) ?_
        refine SWl.ef (S := []) (Ef.call (con_sameL e1 e2) rfl ⟨Le.refl _, Le.refl _, le_int0, Le.refl _, trivial⟩ rfl) ?_
        rintro _ rfl
        refine SWl.rd rfl (Rd.move rfl) ?_
        refine SWl.efg (S := []) rfl rfl (rfl) rfl (Ef.call (con_known) rfl trivial rfl) ?_
        rintro _ rfl
        refine SWl.rd rfl (Rd.pickY rfl (rfl) rfl) ?_
        refine SWl.rd rfl (Rd.assign rfl) ?_
        refine SWl.nil ?_
        refine SN.then ?_
        refine SW.ret (fn := Try.f4) (fun _ _ h => h) (Rs.one rfl (ResV.tmp rfl))
      · have hk2 := lim_len' hb73
        refine SW.skip ?_
        refine SN.block ?_
        refine SN.then ?_
        refine SW.region ?_
        refine SWl.rd rfl (Rd.move rfl) ?_
        refine SWl.rd rfl (Rd.add rfl rfl ⟨by omega, by omega⟩) ?_
        refine SWl.rd rfl (Rd.assign rfl) ?_
        refine SWl.nil ?_
        exact fun a w hh => hK0 (⟨k + 1, hlt, by rw [Int.pow_succ]; exact hk2⟩) (by show (2 - m % 2) - (k + 1) < (2 - m % 2) - k; omega) a w (hh.sub (⟨⟨_, rfl, ⟨⟨_, rfl, Le.refl _⟩, ⟨⟨_, rfl, Le.refl _⟩, ⟨⟨_, rfl, Le.refl _⟩, ⟨⟨_, rfl, Le.refl _⟩, ⟨⟨_, rfl, Le.refl _⟩, ⟨⟨_, rfl, le_err (by omega)⟩, trivial⟩⟩⟩⟩⟩⟩⟩, [0, 1, 2], by decide, ⟨⟨_, rfl, LeAll.refl _⟩, ⟨⟨_, rfl, LeAll.refl _⟩, ⟨⟨_, rfl, leC_int (Int.pow_succ x k).symm⟩, trivial⟩⟩⟩⟩))
    · obtain rfl : k = (2 - m % 2) := by have := of_decide_eq_false hb64; omega
      refine SW.exit' ?_
      repeat (first | refine SE.then ?_ | refine SE.skip (by decide) ?_)
      refine SE.here ?_
      refine SN.then ?_
      refine SW.seq ?_
      refine SW.region ?_
      refine SWl.rd rfl (Rd.loadA 1 2 rfl rfl (by kernel_rfl) rfl trivial) ?_
      refine SWl.rd rfl (Rd.move rfl) ?_
      refine SWl.rd rfl (Rd.loadA 2 2 rfl rfl (by kernel_rfl) rfl trivial) ?_
      refine SWl.ef (S := []) (Ef.call (con_sameL (by rw [(lim_ok (by rw [hpw]; exact hkl)).1, hpw]) (lim_ok (by rw [hpw]; exact hkl)).2) rfl ⟨Le.refl _, Le.refl _, Le.refl _, Le.refl _, trivial⟩ rfl) ?_
      rintro _ rfl
      refine SWl.rd rfl (Rd.move rfl) ?_
      refine SWl.efg (S := []) rfl rfl (rfl) rfl (Ef.call (con_known) rfl trivial rfl) ?_
      rintro _ rfl
      refine SWl.rd rfl (Rd.pickY rfl (rfl) rfl) ?_
      refine SWl.rd rfl (Rd.assign rfl) ?_
      refine SWl.nil ?_
      refine SN.then ?_
      refine SW.ret (fn := Try.f4) (fun _ _ h => h) (Rs.one rfl (ResV.tmp rfl))
set_option maxHeartbeats 4000000 in
set_option maxRecDepth 100000 in
theorem powers_00 {x : Int} {m : Nat} (hm : (m : Int) ≤ 9223372036854775807) (hx : x.natAbs < big512) (h0 : x = 0) (hm0 : m = 0) : Con Try.prog 4 [intD x, errD (m : Int)] (boolD true) := by
  have hx4 := b4_512 hx
  have hpw : x ^ m = x ^ m := rfl
  have hbig : ∀ j : Nat, j ≤ m → ¬ (x ^ j).natAbs < big512 → limZ (x ^ m) = 0 ∧ limE (x ^ m) = 7 := fun j hj h => absurd (pow_small (by omega) j) h
  refine con_of Try.func4 (by kernel_rfl) rfl (by kernel_rfl) fun base w0 => ?_
  refine SW.seq ?_
  refine SW.region ?_
  refine SWl.ef (S := []) (Ef.boxA rfl rfl) ?_
  rintro _ ⟨g2, rfl⟩
  refine SWl.rd rfl (Rd.assign rfl) ?_
  refine SWl.nil ?_
  refine SN.then ?_
  refine SW.seq ?_
  refine SW.seq ?_
  refine SW.region ?_
  refine SWl.rd rfl (Rd.loadA 0 2 rfl rfl (by kernel_rfl) rfl trivial) ?_
  refine SWl.ef (S := []) (Ef.litR rfl rfl blsI1 rfl) ?_
  rintro _ rfl
  refine SWl.ef (S := []) (Ef.call (con_big [(decide (x < 0), (Nm.dg 256 x.natAbs).reverse)] (by simp)) rfl ⟨Le.refl _, trivial⟩ rfl) ?_
  rintro _ rfl
  refine SWl.nil ?_
  refine SN.then ?_
  refine SW.condF rfl (any1_int hx) ?_
  refine SW.skip ?_
  refine SN.then ?_
  refine SW.seq ?_
  refine SW.region ?_
  refine SWl.rd rfl (Rd.loadA 0 2 rfl rfl (by kernel_rfl) rfl trivial) ?_
  refine SWl.rd rfl (Rd.move rfl) ?_
  refine SWl.ef (S := []) (Ef.call (con_power hm hx) rfl ⟨Le.refl _, Le.refl _, trivial⟩ rfl) ?_
  rintro _ rfl
  refine SWl.rd rfl (Rd.move rfl) ?_
  refine SWl.rd rfl (Rd.extract rfl rfl) ?_
  refine SWl.rd rfl (Rd.extract rfl rfl) ?_
  refine SWl.ef (S := []) (Ef.alloc (zs := [.bool false, .slice none 0 0]) (by kernel_rfl) rfl) ?_
  rintro _ ⟨g5, rfl⟩
  refine SWl.ef (S := [_]) (Ef.storeA 1 rfl rfl rfl (by kernel_rfl) rfl (List.mem_singleton.2 rfl)) ?_
  rintro _ rfl
  refine SWl.rd rfl (Rd.assign rfl) ?_
  refine SWl.nil ?_
  refine SN.then ?_
  refine SW.seq ?_
  refine SW.seq ?_
  refine SW.region ?_
  refine SWl.rd rfl (Rd.loadA 0 2 rfl rfl (by kernel_rfl) rfl trivial) ?_
  refine SWl.ef (S := []) (Ef.call (con_validRT (by assumption)) rfl ⟨Le.refl _, trivial⟩ rfl) ?_
  rintro _ rfl
  refine SWl.rd rfl (Rd.not rfl) ?_
  refine SWl.rd rfl (Rd.move rfl) ?_
  refine SWl.rdg rfl rfl (rfl) rfl rfl (Rd.move rfl) ?_
  refine SWl.rdg rfl rfl (rfl) rfl rfl (Rd.lss rfl rfl) ?_
  refine SWl.rd rfl (Rd.pickN rfl (rfl) rfl) ?_
  refine SWl.nil ?_
  refine SN.then ?_
  refine SW.condF rfl (decide_eq_false (by omega)) ?_
  refine SW.skip ?_
  refine SN.then ?_
  refine SW.seq ?_
  refine SW.seq ?_
  refine SW.region ?_
  refine SWl.rd rfl (Rd.fieldAddr (n := 1) rfl (by kernel_rfl)) ?_
  refine SWl.rd rfl (Rd.loadB 0 rfl rfl rfl (by kernel_rfl) trivial) ?_
  refine SWl.rd rfl (Rd.len (e := 5) rfl (by kernel_rfl)) ?_
  refine SWl.rd rfl (Rd.eqi rfl rfl) ?_
  refine SWl.rd rfl (Rd.move rfl) ?_
  refine SWl.rdg rfl rfl (decide_eq_true (byt_len0.2 h0)) rfl rfl (Rd.move rfl) ?_
  refine SWl.rdg rfl rfl (decide_eq_true (byt_len0.2 h0)) rfl rfl (Rd.gtr rfl rfl) ?_
  refine SWl.rd rfl (Rd.pickY rfl (decide_eq_true (byt_len0.2 h0)) rfl) ?_
  refine SWl.rd rfl (Rd.move rfl) ?_
  refine SWl.rdg rfl rfl (decide_eq_false (by omega)) rfl rfl (Rd.fieldAddr (n := 1) rfl (by kernel_rfl)) ?_
  refine SWl.rdg rfl rfl (decide_eq_false (by omega)) rfl rfl (Rd.loadB 0 rfl rfl rfl (by kernel_rfl) trivial) ?_
  refine SWl.rdg rfl rfl (decide_eq_false (by omega)) rfl rfl (Rd.len (e := 5) rfl (by kernel_rfl)) ?_
  refine SWl.rdg rfl rfl (decide_eq_false (by omega)) rfl rfl (Rd.eqi rfl rfl) ?_
  refine SWl.rdg rfl rfl (decide_eq_false (by omega)) rfl rfl (Rd.move rfl) ?_
  refine SWl.off rfl rfl (decide_eq_false (fun h => by have := (byt_one h).2.1; omega)) rfl rfl ?_
  refine SWl.off rfl rfl (decide_eq_false (fun h => by have := (byt_one h).2.1; omega)) rfl rfl ?_
  refine SWl.off rfl rfl (decide_eq_false (fun h => by have := (byt_one h).2.1; omega)) rfl rfl ?_
  refine SWl.off rfl rfl (decide_eq_false (fun h => by have := (byt_one h).2.1; omega)) rfl rfl ?_
  refine SWl.off rfl rfl (decide_eq_false (fun h => by have := (byt_one h).2.1; omega)) rfl rfl ?_
  refine SWl.rdg rfl rfl (decide_eq_false (by omega)) rfl rfl (Rd.pickN rfl (decide_eq_false (fun h => by have := (byt_one h).2.1; omega)) rfl) ?_
  refine SWl.rdg rfl rfl (decide_eq_false (by omega)) rfl rfl (Rd.move rfl) ?_
  refine SWl.off rfl rfl (rfl) rfl rfl ?_
  refine SWl.off rfl rfl (rfl) rfl rfl ?_
  refine SWl.rdg rfl rfl (decide_eq_false (by omega)) rfl rfl (Rd.pickN rfl (rfl) rfl) ?_
  refine SWl.rd rfl (Rd.pickN rfl (decide_eq_false (by omega)) rfl) ?_
  refine SWl.nil ?_
  refine SN.then ?_
  refine SW.condF rfl (rfl) ?_
  refine SW.skip ?_
  refine SN.then ?_
  refine SW.seq ?_
  refine SW.region ?_
  refine SWl.ef (S := []) (Ef.call (con_ofR (by decide) (by decide)) rfl ⟨Le.refl _, trivial⟩ rfl) ?_
  rintro _ rfl
  refine SWl.ef (S := []) (Ef.alloc (zs := [.bool false, .slice none 0 0]) (by kernel_rfl) rfl) ?_
  rintro _ ⟨g7, rfl⟩
  refine SWl.ef (S := [_]) (Ef.storeA 2 rfl rfl rfl (by kernel_rfl) rfl (List.mem_singleton.2 rfl)) ?_
  rintro _ rfl
  refine SWl.nil ?_
  refine SN.then ?_
  refine SW.seq ?_
  refine SW.seq ?_
  refine SW.region ?_
  refine SWl.rd rfl (Rd.assign rfl) ?_
  refine SWl.nil ?_
  refine SN.then ?_
  refine SW.block ?_
  refine SW.loop (ι := {k : Nat // k ≤ m ∧ (x ^ k).natAbs < big512}) (fun ⟨k, hk, hkl⟩ => St.of [(2, isD (.pointer (some ⟨g2, 0, none⟩))), (5, isD (.pointer (some ⟨g5, 0, none⟩))), (7, isD (.pointer (some ⟨g7, 0, none⟩))), (1, errD ((m : Nat) : Int)), (6, errD (limE (x ^ m))), (8, errD (k : Int))] [(g2, intC (x)), (g5, intC (limZ (x ^ m))), (g7, intC (x ^ k))]) (fun ⟨k, hk, hkl⟩ => m - k) (⟨0, Nat.zero_le _, by rw [Int.pow_zero]; exact one512⟩) ?_ ?_
  · exact ⟨⟨_, rfl, ⟨⟨_, rfl, Le.refl _⟩, ⟨⟨_, rfl, Le.refl _⟩, ⟨⟨_, rfl, Le.refl _⟩, ⟨⟨_, rfl, le_err (by omega)⟩, ⟨⟨_, rfl, Le.refl _⟩, ⟨⟨_, rfl, Le.refl _⟩, trivial⟩⟩⟩⟩⟩⟩⟩, [0, 1, 2], by decide, ⟨⟨_, rfl, LeAll.refl _⟩, ⟨⟨_, rfl, LeAll.refl _⟩, ⟨⟨_, rfl, leC_int (Int.pow_zero x).symm⟩, trivial⟩⟩⟩⟩
  · rintro ⟨k, hk, hkl⟩ K0 hK0
    refine SW.seq ?_
    refine SW.seq ?_
    refine SW.region ?_
    refine SWl.rd rfl (Rd.move rfl) ?_
    refine SWl.rd rfl (Rd.move rfl) ?_
    refine SWl.rd rfl (Rd.lss rfl rfl) ?_
    refine SWl.nil ?_
    refine SN.then ?_
    refine SW.cond rfl (fun hb64 => ?_) (fun hb64 => ?_)
    · have hlt : k < m := by have := of_decide_eq_true hb64; omega
      refine SW.skip ?_
      refine SN.then ?_
      refine SW.seq ?_
      refine SW.block ?_
      refine SW.seq ?_
      refine SW.region ?_
      refine SWl.rd rfl (Rd.loadA 2 2 rfl rfl (by kernel_rfl) rfl trivial) ?_
      refine SWl.rd rfl (Rd.loadA 0 2 rfl rfl (by kernel_rfl) rfl trivial) ?_
      refine SWl.ef (S := []) (Ef.call (con_productR (b4_512 hkl) hx4) rfl ⟨Le.refl _, Le.refl _, trivial⟩ rfl) ?_
      rintro _ rfl
      refine SWl.ef (S := [_]) (Ef.storeA 2 rfl rfl rfl (by kernel_rfl) rfl (List.mem_singleton.2 rfl)) ?_
      rintro _ rfl
      refine SWl.nil ?_
      refine SN.then ?_
      refine SW.seq ?_
      refine SW.region ?_
      refine SWl.rd rfl (Rd.fieldAddr (n := 1) rfl (by kernel_rfl)) ?_
      refine SWl.rd rfl (Rd.loadB 2 rfl rfl rfl (by kernel_rfl) trivial) ?_
      refine SWl.rd rfl (Rd.len (e := 5) rfl (by kernel_rfl)) ?_
      refine SWl.rd rfl (Rd.gtr rfl rfl) ?_
      refine SWl.nil ?_
      refine SN.then ?_
      refine SW.cond rfl (fun hb73 => ?_) (fun hb73 => ?_)
      · obtain ⟨e1, e2⟩ := hbig (k + 1) (by omega) (fun h => by rw [Int.pow_succ] at h; have h2 := (lim_ok h).2; rw [(lim_len hb73).2] at h2; cases h2)
        refine SW.seq ?_
        refine SW.region ?_
        refine SWl.rd rfl (Rd.loadA 1 2 rfl rfl (by kernel_rfl) rfl trivial) ?_
        refine SWl.rd rfl (Rd.move rfl) ?_
        refine SWl.rd rfl (Rd.build rfl rfl bldI0) ?_
        refine SWl.ef (S := []) (Ef.call (con_sameL e1 e2) rfl ⟨Le.refl _, Le.refl _, le_int0, Le.refl _, trivial⟩ rfl) ?_
        rintro _ rfl
        refine SWl.rd rfl (Rd.move rfl) ?_
        refine SWl.efg (S := []) rfl rfl (rfl) rfl (Ef.call (con_known) rfl trivial rfl) ?_
        rintro _ rfl
        refine SWl.rd rfl (Rd.pickY rfl (rfl) rfl) ?_
        refine SWl.rd rfl (Rd.assign rfl) ?_
        refine SWl.nil ?_
        refine SN.then ?_
        refine SW.ret (fn := Try.f4) (fun _ _ h => h) (Rs.one rfl (ResV.tmp rfl))
      · have hk2 := lim_len' hb73
        refine SW.skip ?_
        refine SN.block ?_
        refine SN.then ?_
        refine SW.region ?_
        refine SWl.rd rfl (Rd.move rfl) ?_
        refine SWl.rd rfl (Rd.add rfl rfl ⟨by omega, by omega⟩) ?_
        refine SWl.rd rfl (Rd.assign rfl) ?_
        refine SWl.nil ?_
        exact fun a w hh => hK0 (⟨k + 1, hlt, by rw [Int.pow_succ]; exact hk2⟩) (by show m - (k + 1) < m - k; omega) a w (hh.sub (⟨⟨_, rfl, ⟨⟨_, rfl, Le.refl _⟩, ⟨⟨_, rfl, Le.refl _⟩, ⟨⟨_, rfl, Le.refl _⟩, ⟨⟨_, rfl, Le.refl _⟩, ⟨⟨_, rfl, Le.refl _⟩, ⟨⟨_, rfl, le_err (by omega)⟩, trivial⟩⟩⟩⟩⟩⟩⟩, [0, 1, 2], by decide, ⟨⟨_, rfl, LeAll.refl _⟩, ⟨⟨_, rfl, LeAll.refl _⟩, ⟨⟨_, rfl, leC_int (Int.pow_succ x k).symm⟩, trivial⟩⟩⟩⟩))
    · obtain rfl : k = m := by have := of_decide_eq_false hb64; omega
      refine SW.exit' ?_
      repeat (first | refine SE.then ?_ | refine SE.skip (by decide) ?_)
      refine SE.here ?_
      refine SN.then ?_
      refine SW.seq ?_
      refine SW.region ?_
      refine SWl.rd rfl (Rd.loadA 1 2 rfl rfl (by kernel_rfl) rfl trivial) ?_
      refine SWl.rd rfl (Rd.move rfl) ?_
      refine SWl.rd rfl (Rd.loadA 2 2 rfl rfl (by kernel_rfl) rfl trivial) ?_
      refine SWl.ef (S := []) (Ef.call (con_sameL (by rw [(lim_ok (by rw [hpw]; exact hkl)).1, hpw]) (lim_ok (by rw [hpw]; exact hkl)).2) rfl ⟨Le.refl _, Le.refl _, Le.refl _, Le.refl _, trivial⟩ rfl) ?_
      rintro _ rfl
      refine SWl.rd rfl (Rd.move rfl) ?_
      refine SWl.efg (S := []) rfl rfl (rfl) rfl (Ef.call (con_known) rfl trivial rfl) ?_
      rintro _ rfl
      refine SWl.rd rfl (Rd.pickY rfl (rfl) rfl) ?_
      refine SWl.rd rfl (Rd.assign rfl) ?_
      refine SWl.nil ?_
      refine SN.then ?_
      refine SW.ret (fn := Try.f4) (fun _ _ h => h) (Rs.one rfl (ResV.tmp rfl))
set_option maxHeartbeats 4000000 in
set_option maxRecDepth 100000 in
theorem powers_gen {x : Int} {m : Nat} (hm : (m : Int) ≤ 9223372036854775807) (hx : x.natAbs < big512) (h0 : x ≠ 0) (h1 : x.natAbs ≠ 1 ∨ m ≤ 1) : Con Try.prog 4 [intD x, errD (m : Int)] (boolD true) := by
  have hx4 := b4_512 hx
  have hpw : x ^ m = x ^ m := rfl
  have hbig : ∀ j : Nat, j ≤ m → ¬ (x ^ j).natAbs < big512 → limZ (x ^ m) = 0 ∧ limE (x ^ m) = 7 := fun j hj h => lim_no (fun hlt => h (Nat.lt_of_le_of_lt (pow_mono (by omega) hj) hlt))
  refine con_of Try.func4 (by kernel_rfl) rfl (by kernel_rfl) fun base w0 => ?_
  refine SW.seq ?_
  refine SW.region ?_
  refine SWl.ef (S := []) (Ef.boxA rfl rfl) ?_
  rintro _ ⟨g2, rfl⟩
  refine SWl.rd rfl (Rd.assign rfl) ?_
  refine SWl.nil ?_
  refine SN.then ?_
  refine SW.seq ?_
  refine SW.seq ?_
  refine SW.region ?_
  refine SWl.rd rfl (Rd.loadA 0 2 rfl rfl (by kernel_rfl) rfl trivial) ?_
  refine SWl.ef (S := []) (Ef.litR rfl rfl blsI1 rfl) ?_
  rintro _ rfl
  refine SWl.ef (S := []) (Ef.call (con_big [(decide (x < 0), (Nm.dg 256 x.natAbs).reverse)] (by simp)) rfl ⟨Le.refl _, trivial⟩ rfl) ?_
  rintro _ rfl
  refine SWl.nil ?_
  refine SN.then ?_
  refine SW.condF rfl (any1_int hx) ?_
  refine SW.skip ?_
  refine SN.then ?_
  refine SW.seq ?_
  refine SW.region ?_
  refine SWl.rd rfl (Rd.loadA 0 2 rfl rfl (by kernel_rfl) rfl trivial) ?_
  refine SWl.rd rfl (Rd.move rfl) ?_
  refine SWl.ef (S := []) (Ef.call (con_power hm hx) rfl ⟨Le.refl _, Le.refl _, trivial⟩ rfl) ?_
  rintro _ rfl
  refine SWl.rd rfl (Rd.move rfl) ?_
  refine SWl.rd rfl (Rd.extract rfl rfl) ?_
  refine SWl.rd rfl (Rd.extract rfl rfl) ?_
  refine SWl.ef (S := []) (Ef.alloc (zs := [.bool false, .slice none 0 0]) (by kernel_rfl) rfl) ?_
  rintro _ ⟨g5, rfl⟩
  refine SWl.ef (S := [_]) (Ef.storeA 1 rfl rfl rfl (by kernel_rfl) rfl (List.mem_singleton.2 rfl)) ?_
  rintro _ rfl
  refine SWl.rd rfl (Rd.assign rfl) ?_
  refine SWl.nil ?_
  refine SN.then ?_
  refine SW.seq ?_
  refine SW.seq ?_
  refine SW.region ?_
  refine SWl.rd rfl (Rd.loadA 0 2 rfl rfl (by kernel_rfl) rfl trivial) ?_
  refine SWl.ef (S := []) (Ef.call (con_validRT (by assumption)) rfl ⟨Le.refl _, trivial⟩ rfl) ?_
  rintro _ rfl
  refine SWl.rd rfl (Rd.not rfl) ?_
  refine SWl.rd rfl (Rd.move rfl) ?_
  refine SWl.rdg rfl rfl (rfl) rfl rfl (Rd.move rfl) ?_
  refine SWl.rdg rfl rfl (rfl) rfl rfl (Rd.lss rfl rfl) ?_
  refine SWl.rd rfl (Rd.pickN rfl (rfl) rfl) ?_
  refine SWl.nil ?_
  refine SN.then ?_
  refine SW.condF rfl (decide_eq_false (by omega)) ?_
  refine SW.skip ?_
  refine SN.then ?_
  refine SW.seq ?_
  refine SW.seq ?_
  refine SW.region ?_
  refine SWl.rd rfl (Rd.fieldAddr (n := 1) rfl (by kernel_rfl)) ?_
  refine SWl.rd rfl (Rd.loadB 0 rfl rfl rfl (by kernel_rfl) trivial) ?_
  refine SWl.rd rfl (Rd.len (e := 5) rfl (by kernel_rfl)) ?_
  refine SWl.rd rfl (Rd.eqi rfl rfl) ?_
  refine SWl.rd rfl (Rd.move rfl) ?_
  refine SWl.off rfl rfl (decide_eq_false (fun h => h0 (byt_len0.1 h))) rfl rfl ?_
  refine SWl.off rfl rfl (decide_eq_false (fun h => h0 (byt_len0.1 h))) rfl rfl ?_
  refine SWl.rd rfl (Rd.pickN rfl (decide_eq_false (fun h => h0 (byt_len0.1 h))) rfl) ?_
  refine SWl.rd rfl (Rd.move rfl) ?_
  refine SWl.rdg rfl rfl (rfl) rfl rfl (Rd.fieldAddr (n := 1) rfl (by kernel_rfl)) ?_
  refine SWl.rdg rfl rfl (rfl) rfl rfl (Rd.loadB 0 rfl rfl rfl (by kernel_rfl) trivial) ?_
  refine SWl.rdg rfl rfl (rfl) rfl rfl (Rd.len (e := 5) rfl (by kernel_rfl)) ?_
  refine SWl.rdg rfl rfl (rfl) rfl rfl (Rd.eqi rfl rfl) ?_
  refine SWl.rdg rfl rfl (rfl) rfl rfl (Rd.move rfl) ?_
  refine SWl.split 46 rfl (fun hb46 => ?_) (fun hb46 => ?_)
  · obtain ⟨-, hne0, hidx⟩ := byt_one (of_decide_eq_true hb46)
    refine SWl.rdg rfl rfl (hb46) rfl rfl (Rd.fieldAddr (n := 1) rfl (by kernel_rfl)) ?_
    refine SWl.rdg rfl rfl (hb46) rfl rfl (Rd.loadB 0 rfl rfl rfl (by kernel_rfl) trivial) ?_
    refine SWl.rdg rfl rfl (hb46) rfl rfl (Rd.idx (e := 5) rfl rfl (by kernel_rfl) (by kernel_rfl) (by decide) hidx) ?_
    refine SWl.rdg rfl rfl (hb46) rfl rfl (Rd.loadP rfl (by kernel_rfl) (by simp)) ?_
    refine SWl.rdg rfl rfl (hb46) rfl rfl (Rd.eqi rfl rfl) ?_
    refine SWl.rdg rfl rfl (rfl) rfl rfl (Rd.pickY rfl (hb46) rfl) ?_
    refine SWl.rdg rfl rfl (rfl) rfl rfl (Rd.move rfl) ?_
    refine SWl.split 53 rfl (fun hb53 => ?_) (fun hb53 => ?_)
    · have hone := of_decide_eq_true hb53
      refine SWl.rdg rfl rfl (hb53) rfl rfl (Rd.move rfl) ?_
      refine SWl.rdg rfl rfl (hb53) rfl rfl (Rd.gtr rfl rfl) ?_
      refine SWl.rdg rfl rfl (rfl) rfl rfl (Rd.pickY rfl (hb53) rfl) ?_
      refine SWl.rd rfl (Rd.pickN rfl (rfl) rfl) ?_
      refine SWl.nil ?_
      refine SN.then ?_
      refine SW.condF rfl (decide_eq_false (by omega)) ?_
      refine SW.skip ?_
      refine SN.then ?_
      refine SW.seq ?_
      refine SW.region ?_
      refine SWl.ef (S := []) (Ef.call (con_ofR (by decide) (by decide)) rfl ⟨Le.refl _, trivial⟩ rfl) ?_
      rintro _ rfl
      refine SWl.ef (S := []) (Ef.alloc (zs := [.bool false, .slice none 0 0]) (by kernel_rfl) rfl) ?_
      rintro _ ⟨g7, rfl⟩
      refine SWl.ef (S := [_]) (Ef.storeA 2 rfl rfl rfl (by kernel_rfl) rfl (List.mem_singleton.2 rfl)) ?_
      rintro _ rfl
      refine SWl.nil ?_
      refine SN.then ?_
      refine SW.seq ?_
      refine SW.seq ?_
      refine SW.region ?_
      refine SWl.rd rfl (Rd.assign rfl) ?_
      refine SWl.nil ?_
      refine SN.then ?_
      refine SW.block ?_
      refine SW.loop (ι := {k : Nat // k ≤ m ∧ (x ^ k).natAbs < big512}) (fun ⟨k, hk, hkl⟩ => St.of [(2, isD (.pointer (some ⟨g2, 0, none⟩))), (5, isD (.pointer (some ⟨g5, 0, none⟩))), (7, isD (.pointer (some ⟨g7, 0, none⟩))), (1, errD ((m : Nat) : Int)), (6, errD (limE (x ^ m))), (8, errD (k : Int))] [(g2, intC (x)), (g5, intC (limZ (x ^ m))), (g7, intC (x ^ k))]) (fun ⟨k, hk, hkl⟩ => m - k) (⟨0, Nat.zero_le _, by rw [Int.pow_zero]; exact one512⟩) ?_ ?_
      · exact ⟨⟨_, rfl, ⟨⟨_, rfl, Le.refl _⟩, ⟨⟨_, rfl, Le.refl _⟩, ⟨⟨_, rfl, Le.refl _⟩, ⟨⟨_, rfl, le_err (by omega)⟩, ⟨⟨_, rfl, Le.refl _⟩, ⟨⟨_, rfl, Le.refl _⟩, trivial⟩⟩⟩⟩⟩⟩⟩, [0, 1, 2], by decide, ⟨⟨_, rfl, LeAll.refl _⟩, ⟨⟨_, rfl, LeAll.refl _⟩, ⟨⟨_, rfl, leC_int (Int.pow_zero x).symm⟩, trivial⟩⟩⟩⟩
      · rintro ⟨k, hk, hkl⟩ K0 hK0
        refine SW.seq ?_
        refine SW.seq ?_
        refine SW.region ?_
        refine SWl.rd rfl (Rd.move rfl) ?_
        refine SWl.rd rfl (Rd.move rfl) ?_
        refine SWl.rd rfl (Rd.lss rfl rfl) ?_
        refine SWl.nil ?_
        refine SN.then ?_
        refine SW.cond rfl (fun hb64 => ?_) (fun hb64 => ?_)
        · have hlt : k < m := by have := of_decide_eq_true hb64; omega
          refine SW.skip ?_
          refine SN.then ?_
          refine SW.seq ?_
          refine SW.block ?_
          refine SW.seq ?_
          refine SW.region ?_
          refine SWl.rd rfl (Rd.loadA 2 2 rfl rfl (by kernel_rfl) rfl trivial) ?_
          refine SWl.rd rfl (Rd.loadA 0 2 rfl rfl (by kernel_rfl) rfl trivial) ?_
          refine SWl.ef (S := []) (Ef.call (con_productR (b4_512 hkl) hx4) rfl ⟨Le.refl _, Le.refl _, trivial⟩ rfl) ?_
          rintro _ rfl
          refine SWl.ef (S := [_]) (Ef.storeA 2 rfl rfl rfl (by kernel_rfl) rfl (List.mem_singleton.2 rfl)) ?_
          rintro _ rfl
          refine SWl.nil ?_
          refine SN.then ?_
          refine SW.seq ?_
          refine SW.region ?_
          refine SWl.rd rfl (Rd.fieldAddr (n := 1) rfl (by kernel_rfl)) ?_
          refine SWl.rd rfl (Rd.loadB 2 rfl rfl rfl (by kernel_rfl) trivial) ?_
          refine SWl.rd rfl (Rd.len (e := 5) rfl (by kernel_rfl)) ?_
          refine SWl.rd rfl (Rd.gtr rfl rfl) ?_
          refine SWl.nil ?_
          refine SN.then ?_
          refine SW.cond rfl (fun hb73 => ?_) (fun hb73 => ?_)
          · obtain ⟨e1, e2⟩ := hbig (k + 1) (by omega) (fun h => by rw [Int.pow_succ] at h; have h2 := (lim_ok h).2; rw [(lim_len hb73).2] at h2; cases h2)
            refine SW.seq ?_
            refine SW.region ?_
            refine SWl.rd rfl (Rd.loadA 1 2 rfl rfl (by kernel_rfl) rfl trivial) ?_
            refine SWl.rd rfl (Rd.move rfl) ?_
            refine SWl.rd rfl (Rd.build rfl rfl bldI0) ?_
            refine SWl.ef (S := []) (Ef.call (con_sameL e1 e2) rfl ⟨Le.refl _, Le.refl _, le_int0, Le.refl _, trivial⟩ rfl) ?_
            rintro _ rfl
            refine SWl.rd rfl (Rd.move rfl) ?_
            refine SWl.efg (S := []) rfl rfl (rfl) rfl (Ef.call (con_known) rfl trivial rfl) ?_
            rintro _ rfl
            refine SWl.rd rfl (Rd.pickY rfl (rfl) rfl) ?_
            refine SWl.rd rfl (Rd.assign rfl) ?_
            refine SWl.nil ?_
            refine SN.then ?_
            refine SW.ret (fn := Try.f4) (fun _ _ h => h) (Rs.one rfl (ResV.tmp rfl))
          · have hk2 := lim_len' hb73
            refine SW.skip ?_
            refine SN.block ?_
            refine SN.then ?_
            refine SW.region ?_
            refine SWl.rd rfl (Rd.move rfl) ?_
            refine SWl.rd rfl (Rd.add rfl rfl ⟨by omega, by omega⟩) ?_
            refine SWl.rd rfl (Rd.assign rfl) ?_
            refine SWl.nil ?_
            exact fun a w hh => hK0 (⟨k + 1, hlt, by rw [Int.pow_succ]; exact hk2⟩) (by show m - (k + 1) < m - k; omega) a w (hh.sub (⟨⟨_, rfl, ⟨⟨_, rfl, Le.refl _⟩, ⟨⟨_, rfl, Le.refl _⟩, ⟨⟨_, rfl, Le.refl _⟩, ⟨⟨_, rfl, Le.refl _⟩, ⟨⟨_, rfl, Le.refl _⟩, ⟨⟨_, rfl, le_err (by omega)⟩, trivial⟩⟩⟩⟩⟩⟩⟩, [0, 1, 2], by decide, ⟨⟨_, rfl, LeAll.refl _⟩, ⟨⟨_, rfl, LeAll.refl _⟩, ⟨⟨_, rfl, leC_int (Int.pow_succ x k).symm⟩, trivial⟩⟩⟩⟩))
        · obtain rfl : k = m := by have := of_decide_eq_false hb64; omega
          refine SW.exit' ?_
          repeat (first | refine SE.then ?_ | refine SE.skip (by decide) ?_)
          refine SE.here ?_
          refine SN.then ?_
          refine SW.seq ?_
          refine SW.region ?_
          refine SWl.rd rfl (Rd.loadA 1 2 rfl rfl (by kernel_rfl) rfl trivial) ?_
          refine SWl.rd rfl (Rd.move rfl) ?_
          refine SWl.rd rfl (Rd.loadA 2 2 rfl rfl (by kernel_rfl) rfl trivial) ?_
          refine SWl.ef (S := []) (Ef.call (con_sameL (by rw [(lim_ok (by rw [hpw]; exact hkl)).1, hpw]) (lim_ok (by rw [hpw]; exact hkl)).2) rfl ⟨Le.refl _, Le.refl _, Le.refl _, Le.refl _, trivial⟩ rfl) ?_
          rintro _ rfl
          refine SWl.rd rfl (Rd.move rfl) ?_
          refine SWl.efg (S := []) rfl rfl (rfl) rfl (Ef.call (con_known) rfl trivial rfl) ?_
          rintro _ rfl
          refine SWl.rd rfl (Rd.pickY rfl (rfl) rfl) ?_
          refine SWl.rd rfl (Rd.assign rfl) ?_
          refine SWl.nil ?_
          refine SN.then ?_
          refine SW.ret (fn := Try.f4) (fun _ _ h => h) (Rs.one rfl (ResV.tmp rfl))
    · skip
      refine SWl.off rfl rfl (hb53) rfl rfl ?_
      refine SWl.off rfl rfl (hb53) rfl rfl ?_
      refine SWl.rdg rfl rfl (rfl) rfl rfl (Rd.pickN rfl (hb53) rfl) ?_
      refine SWl.rd rfl (Rd.pickN rfl (rfl) rfl) ?_
      refine SWl.nil ?_
      refine SN.then ?_
      refine SW.condF rfl (rfl) ?_
      refine SW.skip ?_
      refine SN.then ?_
      refine SW.seq ?_
      refine SW.region ?_
      refine SWl.ef (S := []) (Ef.call (con_ofR (by decide) (by decide)) rfl ⟨Le.refl _, trivial⟩ rfl) ?_
      rintro _ rfl
      refine SWl.ef (S := []) (Ef.alloc (zs := [.bool false, .slice none 0 0]) (by kernel_rfl) rfl) ?_
      rintro _ ⟨g7, rfl⟩
      refine SWl.ef (S := [_]) (Ef.storeA 2 rfl rfl rfl (by kernel_rfl) rfl (List.mem_singleton.2 rfl)) ?_
      rintro _ rfl
      refine SWl.nil ?_
      refine SN.then ?_
      refine SW.seq ?_
      refine SW.seq ?_
      refine SW.region ?_
      refine SWl.rd rfl (Rd.assign rfl) ?_
      refine SWl.nil ?_
      refine SN.then ?_
      refine SW.block ?_
      refine SW.loop (ι := {k : Nat // k ≤ m ∧ (x ^ k).natAbs < big512}) (fun ⟨k, hk, hkl⟩ => St.of [(2, isD (.pointer (some ⟨g2, 0, none⟩))), (5, isD (.pointer (some ⟨g5, 0, none⟩))), (7, isD (.pointer (some ⟨g7, 0, none⟩))), (1, errD ((m : Nat) : Int)), (6, errD (limE (x ^ m))), (8, errD (k : Int))] [(g2, intC (x)), (g5, intC (limZ (x ^ m))), (g7, intC (x ^ k))]) (fun ⟨k, hk, hkl⟩ => m - k) (⟨0, Nat.zero_le _, by rw [Int.pow_zero]; exact one512⟩) ?_ ?_
      · exact ⟨⟨_, rfl, ⟨⟨_, rfl, Le.refl _⟩, ⟨⟨_, rfl, Le.refl _⟩, ⟨⟨_, rfl, Le.refl _⟩, ⟨⟨_, rfl, le_err (by omega)⟩, ⟨⟨_, rfl, Le.refl _⟩, ⟨⟨_, rfl, Le.refl _⟩, trivial⟩⟩⟩⟩⟩⟩⟩, [0, 1, 2], by decide, ⟨⟨_, rfl, LeAll.refl _⟩, ⟨⟨_, rfl, LeAll.refl _⟩, ⟨⟨_, rfl, leC_int (Int.pow_zero x).symm⟩, trivial⟩⟩⟩⟩
      · rintro ⟨k, hk, hkl⟩ K0 hK0
        refine SW.seq ?_
        refine SW.seq ?_
        refine SW.region ?_
        refine SWl.rd rfl (Rd.move rfl) ?_
        refine SWl.rd rfl (Rd.move rfl) ?_
        refine SWl.rd rfl (Rd.lss rfl rfl) ?_
        refine SWl.nil ?_
        refine SN.then ?_
        refine SW.cond rfl (fun hb64 => ?_) (fun hb64 => ?_)
        · have hlt : k < m := by have := of_decide_eq_true hb64; omega
          refine SW.skip ?_
          refine SN.then ?_
          refine SW.seq ?_
          refine SW.block ?_
          refine SW.seq ?_
          refine SW.region ?_
          refine SWl.rd rfl (Rd.loadA 2 2 rfl rfl (by kernel_rfl) rfl trivial) ?_
          refine SWl.rd rfl (Rd.loadA 0 2 rfl rfl (by kernel_rfl) rfl trivial) ?_
          refine SWl.ef (S := []) (Ef.call (con_productR (b4_512 hkl) hx4) rfl ⟨Le.refl _, Le.refl _, trivial⟩ rfl) ?_
          rintro _ rfl
          refine SWl.ef (S := [_]) (Ef.storeA 2 rfl rfl rfl (by kernel_rfl) rfl (List.mem_singleton.2 rfl)) ?_
          rintro _ rfl
          refine SWl.nil ?_
          refine SN.then ?_
          refine SW.seq ?_
          refine SW.region ?_
          refine SWl.rd rfl (Rd.fieldAddr (n := 1) rfl (by kernel_rfl)) ?_
          refine SWl.rd rfl (Rd.loadB 2 rfl rfl rfl (by kernel_rfl) trivial) ?_
          refine SWl.rd rfl (Rd.len (e := 5) rfl (by kernel_rfl)) ?_
          refine SWl.rd rfl (Rd.gtr rfl rfl) ?_
          refine SWl.nil ?_
          refine SN.then ?_
          refine SW.cond rfl (fun hb73 => ?_) (fun hb73 => ?_)
          · obtain ⟨e1, e2⟩ := hbig (k + 1) (by omega) (fun h => by rw [Int.pow_succ] at h; have h2 := (lim_ok h).2; rw [(lim_len hb73).2] at h2; cases h2)
            refine SW.seq ?_
            refine SW.region ?_
            refine SWl.rd rfl (Rd.loadA 1 2 rfl rfl (by kernel_rfl) rfl trivial) ?_
            refine SWl.rd rfl (Rd.move rfl) ?_
            refine SWl.rd rfl (Rd.build rfl rfl bldI0) ?_
            refine SWl.ef (S := []) (Ef.call (con_sameL e1 e2) rfl ⟨Le.refl _, Le.refl _, le_int0, Le.refl _, trivial⟩ rfl) ?_
            rintro _ rfl
            refine SWl.rd rfl (Rd.move rfl) ?_
            refine SWl.efg (S := []) rfl rfl (rfl) rfl (Ef.call (con_known) rfl trivial rfl) ?_
            rintro _ rfl
            refine SWl.rd rfl (Rd.pickY rfl (rfl) rfl) ?_
            refine SWl.rd rfl (Rd.assign rfl) ?_
            refine SWl.nil ?_
            refine SN.then ?_
            refine SW.ret (fn := Try.f4) (fun _ _ h => h) (Rs.one rfl (ResV.tmp rfl))
          · have hk2 := lim_len' hb73
            refine SW.skip ?_
            refine SN.block ?_
            refine SN.then ?_
            refine SW.region ?_
            refine SWl.rd rfl (Rd.move rfl) ?_
            refine SWl.rd rfl (Rd.add rfl rfl ⟨by omega, by omega⟩) ?_
            refine SWl.rd rfl (Rd.assign rfl) ?_
            refine SWl.nil ?_
            exact fun a w hh => hK0 (⟨k + 1, hlt, by rw [Int.pow_succ]; exact hk2⟩) (by show m - (k + 1) < m - k; omega) a w (hh.sub (⟨⟨_, rfl, ⟨⟨_, rfl, Le.refl _⟩, ⟨⟨_, rfl, Le.refl _⟩, ⟨⟨_, rfl, Le.refl _⟩, ⟨⟨_, rfl, Le.refl _⟩, ⟨⟨_, rfl, Le.refl _⟩, ⟨⟨_, rfl, le_err (by omega)⟩, trivial⟩⟩⟩⟩⟩⟩⟩, [0, 1, 2], by decide, ⟨⟨_, rfl, LeAll.refl _⟩, ⟨⟨_, rfl, LeAll.refl _⟩, ⟨⟨_, rfl, leC_int (Int.pow_succ x k).symm⟩, trivial⟩⟩⟩⟩))
        · obtain rfl : k = m := by have := of_decide_eq_false hb64; omega
          refine SW.exit' ?_
          repeat (first | refine SE.then ?_ | refine SE.skip (by decide) ?_)
          refine SE.here ?_
          refine SN.then ?_
          refine SW.seq ?_
          refine SW.region ?_
          refine SWl.rd rfl (Rd.loadA 1 2 rfl rfl (by kernel_rfl) rfl trivial) ?_
          refine SWl.rd rfl (Rd.move rfl) ?_
          refine SWl.rd rfl (Rd.loadA 2 2 rfl rfl (by kernel_rfl) rfl trivial) ?_
          refine SWl.ef (S := []) (Ef.call (con_sameL (by rw [(lim_ok (by rw [hpw]; exact hkl)).1, hpw]) (lim_ok (by rw [hpw]; exact hkl)).2) rfl ⟨Le.refl _, Le.refl _, Le.refl _, Le.refl _, trivial⟩ rfl) ?_
          rintro _ rfl
          refine SWl.rd rfl (Rd.move rfl) ?_
          refine SWl.efg (S := []) rfl rfl (rfl) rfl (Ef.call (con_known) rfl trivial rfl) ?_
          rintro _ rfl
          refine SWl.rd rfl (Rd.pickY rfl (rfl) rfl) ?_
          refine SWl.rd rfl (Rd.assign rfl) ?_
          refine SWl.nil ?_
          refine SN.then ?_
          refine SW.ret (fn := Try.f4) (fun _ _ h => h) (Rs.one rfl (ResV.tmp rfl))
  · skip
    refine SWl.off rfl rfl (hb46) rfl rfl ?_
    refine SWl.off rfl rfl (hb46) rfl rfl ?_
    refine SWl.off rfl rfl (hb46) rfl rfl ?_
    refine SWl.off rfl rfl (hb46) rfl rfl ?_
    refine SWl.off rfl rfl (hb46) rfl rfl ?_
    refine SWl.rdg rfl rfl (rfl) rfl rfl (Rd.pickN rfl (hb46) rfl) ?_
    refine SWl.rdg rfl rfl (rfl) rfl rfl (Rd.move rfl) ?_
    refine SWl.off rfl rfl (rfl) rfl rfl ?_
    refine SWl.off rfl rfl (rfl) rfl rfl ?_
    refine SWl.rdg rfl rfl (rfl) rfl rfl (Rd.pickN rfl (rfl) rfl) ?_
    refine SWl.rd rfl (Rd.pickN rfl (rfl) rfl) ?_
    refine SWl.nil ?_
    refine SN.then ?_
    refine SW.condF rfl (rfl) ?_
    refine SW.skip ?_
    refine SN.then ?_
    refine SW.seq ?_
    refine SW.region ?_
    refine SWl.ef (S := []) (Ef.call (con_ofR (by decide) (by decide)) rfl ⟨Le.refl _, trivial⟩ rfl) ?_
    rintro _ rfl
    refine SWl.ef (S := []) (Ef.alloc (zs := [.bool false, .slice none 0 0]) (by kernel_rfl) rfl) ?_
    rintro _ ⟨g7, rfl⟩
    refine SWl.ef (S := [_]) (Ef.storeA 2 rfl rfl rfl (by kernel_rfl) rfl (List.mem_singleton.2 rfl)) ?_
    rintro _ rfl
    refine SWl.nil ?_
    refine SN.then ?_
    refine SW.seq ?_
    refine SW.seq ?_
    refine SW.region ?_
    refine SWl.rd rfl (Rd.assign rfl) ?_
    refine SWl.nil ?_
    refine SN.then ?_
    refine SW.block ?_
    refine SW.loop (ι := {k : Nat // k ≤ m ∧ (x ^ k).natAbs < big512}) (fun ⟨k, hk, hkl⟩ => St.of [(2, isD (.pointer (some ⟨g2, 0, none⟩))), (5, isD (.pointer (some ⟨g5, 0, none⟩))), (7, isD (.pointer (some ⟨g7, 0, none⟩))), (1, errD ((m : Nat) : Int)), (6, errD (limE (x ^ m))), (8, errD (k : Int))] [(g2, intC (x)), (g5, intC (limZ (x ^ m))), (g7, intC (x ^ k))]) (fun ⟨k, hk, hkl⟩ => m - k) (⟨0, Nat.zero_le _, by rw [Int.pow_zero]; exact one512⟩) ?_ ?_
    · exact ⟨⟨_, rfl, ⟨⟨_, rfl, Le.refl _⟩, ⟨⟨_, rfl, Le.refl _⟩, ⟨⟨_, rfl, Le.refl _⟩, ⟨⟨_, rfl, le_err (by omega)⟩, ⟨⟨_, rfl, Le.refl _⟩, ⟨⟨_, rfl, Le.refl _⟩, trivial⟩⟩⟩⟩⟩⟩⟩, [0, 1, 2], by decide, ⟨⟨_, rfl, LeAll.refl _⟩, ⟨⟨_, rfl, LeAll.refl _⟩, ⟨⟨_, rfl, leC_int (Int.pow_zero x).symm⟩, trivial⟩⟩⟩⟩
    · rintro ⟨k, hk, hkl⟩ K0 hK0
      refine SW.seq ?_
      refine SW.seq ?_
      refine SW.region ?_
      refine SWl.rd rfl (Rd.move rfl) ?_
      refine SWl.rd rfl (Rd.move rfl) ?_
      refine SWl.rd rfl (Rd.lss rfl rfl) ?_
      refine SWl.nil ?_
      refine SN.then ?_
      refine SW.cond rfl (fun hb64 => ?_) (fun hb64 => ?_)
      · have hlt : k < m := by have := of_decide_eq_true hb64; omega
        refine SW.skip ?_
        refine SN.then ?_
        refine SW.seq ?_
        refine SW.block ?_
        refine SW.seq ?_
        refine SW.region ?_
        refine SWl.rd rfl (Rd.loadA 2 2 rfl rfl (by kernel_rfl) rfl trivial) ?_
        refine SWl.rd rfl (Rd.loadA 0 2 rfl rfl (by kernel_rfl) rfl trivial) ?_
        refine SWl.ef (S := []) (Ef.call (con_productR (b4_512 hkl) hx4) rfl ⟨Le.refl _, Le.refl _, trivial⟩ rfl) ?_
        rintro _ rfl
        refine SWl.ef (S := [_]) (Ef.storeA 2 rfl rfl rfl (by kernel_rfl) rfl (List.mem_singleton.2 rfl)) ?_
        rintro _ rfl
        refine SWl.nil ?_
        refine SN.then ?_
        refine SW.seq ?_
        refine SW.region ?_
        refine SWl.rd rfl (Rd.fieldAddr (n := 1) rfl (by kernel_rfl)) ?_
        refine SWl.rd rfl (Rd.loadB 2 rfl rfl rfl (by kernel_rfl) trivial) ?_
        refine SWl.rd rfl (Rd.len (e := 5) rfl (by kernel_rfl)) ?_
        refine SWl.rd rfl (Rd.gtr rfl rfl) ?_
        refine SWl.nil ?_
        refine SN.then ?_
        refine SW.cond rfl (fun hb73 => ?_) (fun hb73 => ?_)
        · obtain ⟨e1, e2⟩ := hbig (k + 1) (by omega) (fun h => by rw [Int.pow_succ] at h; have h2 := (lim_ok h).2; rw [(lim_len hb73).2] at h2; cases h2)
          refine SW.seq ?_
          refine SW.region ?_
          refine SWl.rd rfl (Rd.loadA 1 2 rfl rfl (by kernel_rfl) rfl trivial) ?_
          refine SWl.rd rfl (Rd.move rfl) ?_
          refine SWl.rd rfl (Rd.build rfl rfl bldI0) ?_
          refine SWl.ef (S := []) (Ef.call (con_sameL e1 e2) rfl ⟨Le.refl _, Le.refl _, le_int0, Le.refl _, trivial⟩ rfl) ?_
          rintro _ rfl
          refine SWl.rd rfl (Rd.move rfl) ?_
          refine SWl.efg (S := []) rfl rfl (rfl) rfl (Ef.call (con_known) rfl trivial rfl) ?_
          rintro _ rfl
          refine SWl.rd rfl (Rd.pickY rfl (rfl) rfl) ?_
          refine SWl.rd rfl (Rd.assign rfl) ?_
          refine SWl.nil ?_
          refine SN.then ?_
          refine SW.ret (fn := Try.f4) (fun _ _ h => h) (Rs.one rfl (ResV.tmp rfl))
        · have hk2 := lim_len' hb73
          refine SW.skip ?_
          refine SN.block ?_
          refine SN.then ?_
          refine SW.region ?_
          refine SWl.rd rfl (Rd.move rfl) ?_
          refine SWl.rd rfl (Rd.add rfl rfl ⟨by omega, by omega⟩) ?_
          refine SWl.rd rfl (Rd.assign rfl) ?_
          refine SWl.nil ?_
          exact fun a w hh => hK0 (⟨k + 1, hlt, by rw [Int.pow_succ]; exact hk2⟩) (by show m - (k + 1) < m - k; omega) a w (hh.sub (⟨⟨_, rfl, ⟨⟨_, rfl, Le.refl _⟩, ⟨⟨_, rfl, Le.refl _⟩, ⟨⟨_, rfl, Le.refl _⟩, ⟨⟨_, rfl, Le.refl _⟩, ⟨⟨_, rfl, Le.refl _⟩, ⟨⟨_, rfl, le_err (by omega)⟩, trivial⟩⟩⟩⟩⟩⟩⟩, [0, 1, 2], by decide, ⟨⟨_, rfl, LeAll.refl _⟩, ⟨⟨_, rfl, LeAll.refl _⟩, ⟨⟨_, rfl, leC_int (Int.pow_succ x k).symm⟩, trivial⟩⟩⟩⟩))
      · obtain rfl : k = m := by have := of_decide_eq_false hb64; omega
        refine SW.exit' ?_
        repeat (first | refine SE.then ?_ | refine SE.skip (by decide) ?_)
        refine SE.here ?_
        refine SN.then ?_
        refine SW.seq ?_
        refine SW.region ?_
        refine SWl.rd rfl (Rd.loadA 1 2 rfl rfl (by kernel_rfl) rfl trivial) ?_
        refine SWl.rd rfl (Rd.move rfl) ?_
        refine SWl.rd rfl (Rd.loadA 2 2 rfl rfl (by kernel_rfl) rfl trivial) ?_
        refine SWl.ef (S := []) (Ef.call (con_sameL (by rw [(lim_ok (by rw [hpw]; exact hkl)).1, hpw]) (lim_ok (by rw [hpw]; exact hkl)).2) rfl ⟨Le.refl _, Le.refl _, Le.refl _, Le.refl _, trivial⟩ rfl) ?_
        rintro _ rfl
        refine SWl.rd rfl (Rd.move rfl) ?_
        refine SWl.efg (S := []) rfl rfl (rfl) rfl (Ef.call (con_known) rfl trivial rfl) ?_
        rintro _ rfl
        refine SWl.rd rfl (Rd.pickY rfl (rfl) rfl) ?_
        refine SWl.rd rfl (Rd.assign rfl) ?_
        refine SWl.nil ?_
        refine SN.then ?_
        refine SW.ret (fn := Try.f4) (fun _ _ h => h) (Rs.one rfl (ResV.tmp rfl))
set_option maxHeartbeats 4000000 in
set_option maxRecDepth 100000 in
theorem powers_neg {x m : Int} (hm : m < 0) (hx : x.natAbs < big512) : Con Try.prog 4 [intD x, errD m] (boolD true) := by
  refine con_of Try.func4 (by kernel_rfl) rfl (by kernel_rfl) fun base w0 => ?_
  refine SW.seq ?_
  refine SW.region ?_
  refine SWl.ef (S := []) (Ef.boxA rfl rfl) ?_
  rintro _ ⟨g2, rfl⟩
  refine SWl.rd rfl (Rd.assign rfl) ?_
  refine SWl.nil ?_
  refine SN.then ?_
  refine SW.seq ?_
  refine SW.seq ?_
  refine SW.region ?_
  refine SWl.rd rfl (Rd.loadA 0 2 rfl rfl (by kernel_rfl) rfl trivial) ?_
  refine SWl.ef (S := []) (Ef.litR rfl rfl blsI1 rfl) ?_
  rintro _ rfl
  refine SWl.ef (S := []) (Ef.call (con_big [(decide (x < 0), (Nm.dg 256 x.natAbs).reverse)] (by simp)) rfl ⟨Le.refl _, trivial⟩ rfl) ?_
  rintro _ rfl
  refine SWl.nil ?_
  refine SN.then ?_
  refine SW.condF rfl (any1_int hx) ?_
  refine SW.skip ?_
  refine SN.then ?_
  refine SW.seq ?_
  refine SW.region ?_
  refine SWl.rd rfl (Rd.loadA 0 2 rfl rfl (by kernel_rfl) rfl trivial) ?_
  refine SWl.rd rfl (Rd.move rfl) ?_
  refine SWl.ef (S := []) (Ef.call (con_powerN hm hx) rfl ⟨Le.refl _, Le.refl _, trivial⟩ rfl) ?_
  rintro _ rfl
  refine SWl.rd rfl (Rd.move rfl) ?_
  refine SWl.rd rfl (Rd.extract rfl rfl) ?_
  refine SWl.rd rfl (Rd.extract rfl rfl) ?_
  refine SWl.ef (S := []) (Ef.alloc (zs := [.bool false, .slice none 0 0]) (by kernel_rfl) rfl) ?_
  rintro _ ⟨g5, rfl⟩
  refine SWl.ef (S := [_]) (Ef.storeA 1 rfl rfl rfl (by kernel_rfl) rfl (List.mem_singleton.2 rfl)) ?_
  rintro _ rfl
  refine SWl.rd rfl (Rd.assign rfl) ?_
  refine SWl.nil ?_
  refine SN.then ?_
  refine SW.seq ?_
  refine SW.seq ?_
  refine SW.region ?_
  refine SWl.rd rfl (Rd.loadA 0 2 rfl rfl (by kernel_rfl) rfl trivial) ?_
  refine SWl.ef (S := []) (Ef.call (con_validRT (by assumption)) rfl ⟨Le.refl _, trivial⟩ rfl) ?_
  rintro _ rfl
  refine SWl.rd rfl (Rd.not rfl) ?_
  refine SWl.rd rfl (Rd.move rfl) ?_
  refine SWl.rdg rfl rfl (rfl) rfl rfl (Rd.move rfl) ?_
  refine SWl.rdg rfl rfl (rfl) rfl rfl (Rd.lss rfl rfl) ?_
  refine SWl.rd rfl (Rd.pickN rfl (rfl) rfl) ?_
  refine SWl.nil ?_
  refine SN.then ?_
  refine SW.condT rfl (decide_eq_true hm) ?_
  refine SW.seq ?_
  refine SW.region ?_
  refine SWl.rd rfl (Rd.loadA 1 2 rfl rfl (by kernel_rfl) rfl trivial) ?_
  refine SWl.rd rfl (Rd.move rfl) ?_
  refine SWl.rd rfl (Rd.build rfl rfl bldI0) ?_
  refine SWl.ef (S := []) (Ef.call (con_sameL rfl rfl) rfl ⟨Le.refl _, Le.refl _, le_int0, Le.refl _, trivial⟩ rfl) ?_
  rintro _ rfl
  refine SWl.rd rfl (Rd.move rfl) ?_
  refine SWl.efg (S := []) rfl rfl (rfl) rfl (Ef.call (con_known) rfl trivial rfl) ?_
  rintro _ rfl
  refine SWl.rd rfl (Rd.pickY rfl (rfl) rfl) ?_
  refine SWl.rd rfl (Rd.assign rfl) ?_
  refine SWl.nil ?_
  refine SN.then ?_
  refine SW.ret (fn := Try.f4) (fun _ _ h => h) (Rs.one rfl (ResV.tmp rfl))
set_option maxHeartbeats 4000000 in
set_option maxRecDepth 100000 in
theorem powers_bad {s : Bool} {b : List Nat} {m : Int} (h : anyB [(s, b)] = false) (hv : vld s b = false) : Con Try.prog 4 [rintD s b, errD m] (boolD true) := by
  refine con_of Try.func4 (by kernel_rfl) rfl (by kernel_rfl) fun base w0 => ?_
  refine SW.seq ?_
  refine SW.region ?_
  refine SWl.ef (S := []) (Ef.boxA rfl rfl) ?_
  rintro _ ⟨g2, rfl⟩
  refine SWl.rd rfl (Rd.assign rfl) ?_
  refine SWl.nil ?_
  refine SN.then ?_
  refine SW.seq ?_
  refine SW.seq ?_
  refine SW.region ?_
  refine SWl.rd rfl (Rd.loadA 0 2 rfl rfl (by kernel_rfl) rfl trivial) ?_
  refine SWl.ef (S := []) (Ef.litR rfl rfl blsI1 rfl) ?_
  rintro _ rfl
  refine SWl.ef (S := []) (Ef.call (con_big [(_, _)] (by simp)) rfl ⟨Le.refl _, trivial⟩ rfl) ?_
  rintro _ rfl
  refine SWl.nil ?_
  refine SN.then ?_
  refine SW.condF rfl (h) ?_
  refine SW.skip ?_
  refine SN.then ?_
  refine SW.seq ?_
  refine SW.region ?_
  refine SWl.rd rfl (Rd.loadA 0 2 rfl rfl (by kernel_rfl) rfl trivial) ?_
  refine SWl.rd rfl (Rd.move rfl) ?_
  refine SWl.ef (S := []) (Ef.call (con_powerB hv) rfl ⟨Le.refl _, Le.refl _, trivial⟩ rfl) ?_
  rintro _ rfl
  refine SWl.rd rfl (Rd.move rfl) ?_
  refine SWl.rd rfl (Rd.extract rfl rfl) ?_
  refine SWl.rd rfl (Rd.extract rfl rfl) ?_
  refine SWl.ef (S := []) (Ef.alloc (zs := [.bool false, .slice none 0 0]) (by kernel_rfl) rfl) ?_
  rintro _ ⟨g5, rfl⟩
  refine SWl.ef (S := [_]) (Ef.storeA 1 rfl rfl rfl (by kernel_rfl) rfl (List.mem_singleton.2 rfl)) ?_
  rintro _ rfl
  refine SWl.rd rfl (Rd.assign rfl) ?_
  refine SWl.nil ?_
  refine SN.then ?_
  refine SW.seq ?_
  refine SW.seq ?_
  refine SW.region ?_
  refine SWl.rd rfl (Rd.loadA 0 2 rfl rfl (by kernel_rfl) rfl trivial) ?_
  refine SWl.ef (S := []) (Ef.call (con_validRF hv) rfl ⟨Le.refl _, trivial⟩ rfl) ?_
  rintro _ rfl
  refine SWl.rd rfl (Rd.not rfl) ?_
  refine SWl.rd rfl (Rd.move rfl) ?_
  refine SWl.off rfl rfl (rfl) rfl rfl ?_
  refine SWl.off rfl rfl (rfl) rfl rfl ?_
  refine SWl.rd rfl (Rd.pickY rfl (rfl) rfl) ?_
  refine SWl.nil ?_
  refine SN.then ?_
  refine SW.condT rfl (rfl) ?_
  refine SW.seq ?_
  refine SW.region ?_
  refine SWl.rd rfl (Rd.loadA 1 2 rfl rfl (by kernel_rfl) rfl trivial) ?_
  refine SWl.rd rfl (Rd.move rfl) ?_
  refine SWl.rd rfl (Rd.build rfl rfl bldI0) ?_
  refine SWl.ef (S := []) (Ef.call (con_sameL rfl rfl) rfl ⟨Le.refl _, Le.refl _, le_int0, Le.refl _, trivial⟩ rfl) ?_
  rintro _ rfl
  refine SWl.rd rfl (Rd.move rfl) ?_
  refine SWl.efg (S := []) rfl rfl (rfl) rfl (Ef.call (con_known) rfl trivial rfl) ?_
  rintro _ rfl
  refine SWl.rd rfl (Rd.pickY rfl (rfl) rfl) ?_
  refine SWl.rd rfl (Rd.assign rfl) ?_
  refine SWl.nil ?_
  refine SN.then ?_
  refine SW.ret (fn := Try.f4) (fun _ _ h => h) (Rs.one rfl (ResV.tmp rfl))
set_option maxHeartbeats 4000000 in
set_option maxRecDepth 100000 in
theorem powers_big {s : Bool} {b : List Nat} {m : Int} (h : anyB [(s, b)] = true) : Con Try.prog 4 [rintD s b, errD m] (boolD true) := by
  refine con_of Try.func4 (by kernel_rfl) rfl (by kernel_rfl) fun base w0 => ?_
  refine SW.seq ?_
  refine SW.region ?_
  refine SWl.ef (S := []) (Ef.boxA rfl rfl) ?_
  rintro _ ⟨g2, rfl⟩
  refine SWl.rd rfl (Rd.assign rfl) ?_
  refine SWl.nil ?_
  refine SN.then ?_
  refine SW.seq ?_
  refine SW.seq ?_
  refine SW.region ?_
  refine SWl.rd rfl (Rd.loadA 0 2 rfl rfl (by kernel_rfl) rfl trivial) ?_
  refine SWl.ef (S := []) (Ef.litR rfl rfl blsI1 rfl) ?_
  rintro _ rfl
  refine SWl.ef (S := []) (Ef.call (con_big [(_, _)] (by simp)) rfl ⟨Le.refl _, trivial⟩ rfl) ?_
  rintro _ rfl
  refine SWl.nil ?_
  refine SN.then ?_
  refine SW.condT rfl (h) ?_
  refine SW.seq ?_
  refine SW.region ?_
  refine SWl.ef (S := []) (Ef.call (con_known) rfl trivial rfl) ?_
  rintro _ rfl
  refine SWl.rd rfl (Rd.assign rfl) ?_
  refine SWl.nil ?_
  refine SN.then ?_
  refine SW.ret (fn := Try.f4) (fun _ _ h => h) (Rs.one rfl (ResV.tmp rfl))
theorem numberPowers_con (s : Bool) (b : List Nat) (hb : ∀ d ∈ b, d < 256) (m : Int) (hm1 : -9223372036854775808 ≤ m) (hm2 : m ≤ 9223372036854775807) : Con Try.prog 4 [rintD s b, errD m] (boolD true) := by
  cases hB : anyB [(s, b)]
  · cases hv : vld s b
    · exact powers_bad hB hv
    · obtain ⟨x, hx, rfl, rfl⟩ := vld_out hb hv
      by_cases hm : m < 0
      · exact powers_neg hm hx
      · obtain ⟨k, rfl⟩ : ∃ k : Nat, m = (k : Int) := ⟨m.toNat, by omega⟩
        by_cases h0 : x = 0
        · by_cases hk : k = 0
          · exact powers_00 hm2 hx h0 hk
          · exact powers_zero hm2 hx h0 (by omega)
        · by_cases h1 : x.natAbs = 1 ∧ 1 < k
          · exact powers_one hm2 hx h1.1 h1.2
          · exact powers_gen hm2 hx h0 (by omega)
  · exact powers_big hB
end Sx
end Go.Proofs.Ytddfphneidcibaa
