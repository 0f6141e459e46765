/-
  THE LAW NumberRing.
-/
import Derived.Test.YtddfphneidcibaaLawDivides1
import Derived.Test.YtddfphneidcibaaGP
namespace Go.Proofs.Ytddfphneidcibaa
open Go.RowKit
open Nm (W32)
namespace Sx
section
variable {x y : Int}
theorem con_addE (hx : x.natAbs < big512) (hy : y.natAbs < big512) (h : (x + y).natAbs < big512) : Con Try.prog 44 [intD x, intD y] (tupD [intD (x + y), errD 0]) := by
  have h1 := con_add hx hy
  rw [(lim_ok h).1, (lim_ok h).2] at h1
  exact h1
theorem con_subE (hx : x.natAbs < big512) (hy : y.natAbs < big512) (h : (x - y).natAbs < big512) : Con Try.prog 45 [intD x, intD y] (tupD [intD (x - y), errD 0]) := by
  have h1 := con_sub hx hy
  rw [(lim_ok h).1, (lim_ok h).2] at h1
  exact h1
theorem con_mulE (hx : x.natAbs < big512) (hy : y.natAbs < big512) (h : (x * y).natAbs < big512) : Con Try.prog 46 [intD x, intD y] (tupD [intD (x * y), errD 0]) := by
  have h1 := con_mul hx hy
  rw [(lim_ok h).1, (lim_ok h).2] at h1
  exact h1
theorem con_signOf {r : Int} (hx : x.natAbs < big512) (h : x.sign = r) : Con Try.prog 41 [intD x] (errD r) := (con_sign hx).mono ⟨Le.refl _, trivial⟩ (le_err h)
/-- Quotient times divisor plus remainder. -/
theorem dq_dr (x : Int) (hy : y ≠ 0) : dq x y * y + dr x y = x := by
  have e := Nat.div_add_mod x.natAbs y.natAbs
  have hr : x.natAbs % y.natAbs < y.natAbs := Nat.mod_lt _ (by omega)
  unfold dq dr dqN drN up sgn
  generalize x.natAbs / y.natAbs = Q at *
  generalize x.natAbs % y.natAbs = R at *
  have eI : (y.natAbs : Int) * (Q : Int) + (R : Int) = (x.natAbs : Int) := by rw [← e]; simp
  by_cases hx : x < 0
  · by_cases hy' : y < 0
    · have e1 : (y.natAbs : Int) = -y := by omega
      rw [e1, Int.neg_mul] at eI
      simp only [hx, hy', decide_true, bne_self_eq_false, Bool.false_and, Bool.false_eq_true, if_false, if_true]
      rw [Int.mul_comm]
      omega
    · have e1 : (y.natAbs : Int) = y := by omega
      rw [e1] at eI
      simp only [hx, hy', decide_true, decide_false, Bool.true_bne, Bool.not_false, Bool.true_and, decide_eq_true_eq, if_true, if_false, Bool.false_eq_true]
      by_cases h0 : 0 < R
      · simp only [if_pos h0]
        have : (-((Q + 1 : Nat) : Int)) * y = -(y * Q) - y := by rw [Int.neg_mul, Int.natCast_add, Int.add_mul, Int.mul_comm]; omega
        rw [this]
        omega
      · simp only [if_neg h0]
        have : (-((Q : Nat) : Int)) * y = -(y * Q) := by rw [Int.neg_mul, Int.mul_comm]
        rw [this]
        omega
  · by_cases hy' : y < 0
    · have e1 : (y.natAbs : Int) = -y := by omega
      rw [e1, Int.neg_mul] at eI
      simp only [hx, hy', decide_true, decide_false, Bool.false_bne, Bool.true_and, decide_eq_true_eq, if_true]
      by_cases h0 : 0 < R
      · simp only [if_pos h0]
        have : (-((Q + 1 : Nat) : Int)) * y = -(y * Q) - y := by rw [Int.neg_mul, Int.natCast_add, Int.add_mul, Int.mul_comm]; omega
        rw [this]
        omega
      · simp only [if_neg h0]
        have : (-((Q : Nat) : Int)) * y = -(y * Q) := by rw [Int.neg_mul, Int.mul_comm]
        rw [this]
        omega
    · have e1 : (y.natAbs : Int) = y := by omega
      rw [e1] at eI
      simp only [hx, hy', decide_false, bne_self_eq_false, Bool.false_and, Bool.false_eq_true, if_false]
      rw [Int.mul_comm]
      omega
theorem dq_abs (hy : y ≠ 0) : (dq x y).natAbs ≤ x.natAbs := by unfold dq; rw [sgn_abs]; exact dqN_le hy
theorem dr_abs (hy : y ≠ 0) : (dr x y).natAbs < y.natAbs := by unfold dr; rw [sgn_abs]; exact drN_lt hy
theorem dr_sign (_hy : y ≠ 0) (h : ¬ (dr x y).sign = 0) : (dr x y).sign = y.sign := by
  have h0 : dr x y ≠ 0 := fun e => h (by rw [e]; rfl)
  unfold dr at *
  unfold sgn at *
  by_cases hy' : y < 0
  · simp only [hy', decide_true, if_true] at h0 ⊢
    rw [Int.sign_eq_neg_one_of_neg (by omega), Int.sign_eq_neg_one_of_neg hy']
  · simp only [hy', decide_false, Bool.false_eq_true, if_false] at h0 ⊢
    rw [Int.sign_eq_one_of_pos (by omega), Int.sign_eq_one_of_pos (by omega)]
theorem dr_dvd (h : x.natAbs % y.natAbs = 0) : dr x y = 0 := by
  unfold dr drN up sgn
  rw [h]
  simp
theorem gcd_pos (hy : y ≠ 0) : gcdZ x y ≠ 0 := by
  have : 0 < Nat.gcd x.natAbs y.natAbs := Nat.gcd_pos_of_pos_right _ (by omega)
  unfold gcdZ
  omega
theorem gcd_abs : (gcdZ x y).natAbs = Nat.gcd x.natAbs y.natAbs := by unfold gcdZ; simp
theorem gcd_le (hy : y ≠ 0) : (gcdZ x y).natAbs ≤ y.natAbs := by rw [gcd_abs]; exact Nat.gcd_le_right _ (by omega)
theorem gcd_dvdl : x.natAbs % (gcdZ x y).natAbs = 0 := by rw [gcd_abs]; exact Nat.mod_eq_zero_of_dvd (Nat.gcd_dvd_left _ _)
theorem gcd_dvdr : y.natAbs % (gcdZ x y).natAbs = 0 := by rw [gcd_abs]; exact Nat.mod_eq_zero_of_dvd (Nat.gcd_dvd_right _ _)
end
def p28 : Nat := 256 ^ 28
def p29 : Nat := 256 ^ 29
theorem p28_29 {a : Nat} (h : a < 2 * p28) : a < p29 := by
  have h1 : p29 = 256 * p28 := by unfold p28 p29; rw [Nat.pow_succ, Nat.mul_comm]
  omega
theorem p28_512 {a : Nat} (h : a < p29) : a < big512 := Nat.lt_of_lt_of_le h (by unfold p29 big512; exact Nat.pow_le_pow_right (by decide) (by decide))
theorem p28_p29 {a : Nat} (h : a < p28) : a < p29 := p28_29 (by omega)
theorem p28_mul {a b : Int} (ha : a.natAbs < p28) (hb : b.natAbs < p29) : (a * b).natAbs < big512 := by
  rw [Int.natAbs_mul]
  have h1 : a.natAbs * b.natAbs < p28 * p29 := Nat.mul_lt_mul'' ha hb
  refine Nat.lt_of_lt_of_le h1 ?_
  unfold p28 p29 big512
  rw [← Nat.pow_add]
  exact Nat.pow_le_pow_right (by decide) (by decide)
theorem p28_len {x : Int} (h : x.natAbs < p28) : ((cN .u8 (Nm.dg 256 x.natAbs).reverse).length : Int) ≤ 28 := by
  have := bytes_len (x := x) (k := 28) h
  rw [cN_length]
  omega
theorem len_p28 {x : Int} (h : (Nm.dg 256 x.natAbs).reverse.length ≤ 28) : x.natAbs < p28 := by
  rw [List.length_reverse, Nm.dg_length] at h
  exact (Nm.len_le (B := 256) (by decide) 28 _).1 h
set_option maxHeartbeats 4000000 in
set_option maxRecDepth 100000 in
theorem ring_in {x y z : Int} (hx : x.natAbs < p28) (hy : y.natAbs < p28) (hz : z.natAbs < p28) : Con Try.prog 10 [intD x, intD y, intD z] (boolD true) := by
  have hx5 := p28_512 (p28_p29 hx)
  have hy5 := p28_512 (p28_p29 hy)
  have hz5 := p28_512 (p28_p29 hz)
  have hlx := p28_len hx
  have hly := p28_len hy
  have hlz := p28_len hz
  have hxy9 : (x + y).natAbs < p29 := p28_29 (by omega)
  have hxy := p28_512 hxy9
  have hyx : (y + x).natAbs < big512 := by rw [Int.add_comm]; exact hxy
  have hxyy : (x + y - y).natAbs < big512 := by rw [Int.add_sub_cancel]; exact hx5
  have hmxy := p28_mul hx (p28_p29 hy)
  have hmyx := p28_mul hy (p28_p29 hx)
  have hzs := p28_mul hz hxy9
  have hzx := p28_mul hz (p28_p29 hx)
  have hzy := p28_mul hz (p28_p29 hy)
  have hzxy : (z * x + z * y).natAbs < big512 := by rw [← Int.mul_add]; exact hzs
  refine con_of Try.func10 (by kernel_rfl) rfl (by kernel_rfl) fun base w0 => ?_
  refine SW.seq ?_
  refine SW.region ?_
  refine SWl.ef (S := []) (Ef.boxA rfl rfl) ?_
  rintro _ ⟨g3, rfl⟩
  refine SWl.ef (S := []) (Ef.boxA rfl rfl) ?_
  rintro _ ⟨g4, rfl⟩
  refine SWl.ef (S := []) (Ef.boxA rfl rfl) ?_
  rintro _ ⟨g5, rfl⟩
  refine SWl.rd rfl (Rd.assign rfl) ?_
  refine SWl.nil ?_
  refine SN.then ?_
  refine SW.seq ?_
  refine SW.seq ?_
  refine SW.region ?_
  refine SWl.rd rfl (Rd.fieldAddr (n := 1) rfl (by kernel_rfl)) ?_
  refine SWl.rd rfl (Rd.loadB 0 rfl rfl rfl (by kernel_rfl) trivial) ?_
  refine SWl.rd rfl (Rd.len (e := 5) rfl (by kernel_rfl)) ?_
  refine SWl.rd rfl (Rd.gtr rfl rfl) ?_
  refine SWl.rd rfl (Rd.move rfl) ?_
  refine SWl.rdg rfl rfl (decide_eq_false (by omega)) rfl rfl (Rd.fieldAddr (n := 1) rfl (by kernel_rfl)) ?_
  refine SWl.rdg rfl rfl (decide_eq_false (by omega)) rfl rfl (Rd.loadB 1 rfl rfl rfl (by kernel_rfl) trivial) ?_
  refine SWl.rdg rfl rfl (decide_eq_false (by omega)) rfl rfl (Rd.len (e := 5) rfl (by kernel_rfl)) ?_
  refine SWl.rdg rfl rfl (decide_eq_false (by omega)) rfl rfl (Rd.gtr rfl rfl) ?_
  refine SWl.rd rfl (Rd.pickN rfl (decide_eq_false (by omega)) rfl) ?_
  refine SWl.rd rfl (Rd.move rfl) ?_
  refine SWl.rdg rfl rfl (decide_eq_false (by omega)) rfl rfl (Rd.fieldAddr (n := 1) rfl (by kernel_rfl)) ?_
  refine SWl.rdg rfl rfl (decide_eq_false (by omega)) rfl rfl (Rd.loadB 2 rfl rfl rfl (by kernel_rfl) trivial) ?_
  refine SWl.rdg rfl rfl (decide_eq_false (by omega)) rfl rfl (Rd.len (e := 5) rfl (by kernel_rfl)) ?_
  refine SWl.rdg rfl rfl (decide_eq_false (by omega)) rfl rfl (Rd.gtr rfl rfl) ?_
  refine SWl.rd rfl (Rd.pickN rfl (decide_eq_false (by omega)) rfl) ?_
  refine SWl.rd rfl (Rd.move rfl) ?_
  refine SWl.rdg rfl rfl (decide_eq_false (by omega)) rfl rfl (Rd.loadA 0 2 rfl rfl (by kernel_rfl) rfl trivial) ?_
  refine SWl.efg (S := []) rfl rfl (decide_eq_false (by omega)) rfl (Ef.call (con_validRT (by assumption)) rfl ⟨Le.refl _, trivial⟩ rfl) ?_
  rintro _ rfl
  refine SWl.rdg rfl rfl (decide_eq_false (by omega)) rfl rfl (Rd.not rfl) ?_
  refine SWl.rd rfl (Rd.pickN rfl (decide_eq_false (by omega)) rfl) ?_
  refine SWl.rd rfl (Rd.move rfl) ?_
  refine SWl.rdg rfl rfl (rfl) rfl rfl (Rd.loadA 1 2 rfl rfl (by kernel_rfl) rfl trivial) ?_
  refine SWl.efg (S := []) rfl rfl (rfl) rfl (Ef.call (con_validRT (by assumption)) rfl ⟨Le.refl _, trivial⟩ rfl) ?_
  rintro _ rfl
  refine SWl.rdg rfl rfl (rfl) rfl rfl (Rd.not rfl) ?_
  refine SWl.rd rfl (Rd.pickN rfl (rfl) rfl) ?_
  refine SWl.rd rfl (Rd.move rfl) ?_
  refine SWl.rdg rfl rfl (rfl) rfl rfl (Rd.loadA 2 2 rfl rfl (by kernel_rfl) rfl trivial) ?_
  refine SWl.efg (S := []) rfl rfl (rfl) rfl (Ef.call (con_validRT (by assumption)) rfl ⟨Le.refl _, trivial⟩ rfl) ?_
  rintro _ rfl
  refine SWl.rdg rfl rfl (rfl) rfl rfl (Rd.not rfl) ?_
  refine SWl.rd rfl (Rd.pickN rfl (rfl) rfl) ?_
  refine SWl.nil ?_
  refine SN.then ?_
  refine SW.condF rfl (rfl) ?_
  refine SW.skip ?_
  refine SN.then ?_
  refine SW.seq ?_
  refine SW.sub (σ' := St.of [(3, isD (.pointer (some ⟨g3, 0, none⟩))), (4, isD (.pointer (some ⟨g4, 0, none⟩))), (5, isD (.pointer (some ⟨g5, 0, none⟩)))] [(g3, intC (x)), (g4, intC (y)), (g5, intC (z))]) (⟨⟨_, rfl, ⟨⟨_, rfl, Le.refl _⟩, ⟨⟨_, rfl, Le.refl _⟩, ⟨⟨_, rfl, Le.refl _⟩, trivial⟩⟩⟩⟩, [0, 1, 2], by decide, ⟨⟨_, rfl, LeAll.refl _⟩, ⟨⟨_, rfl, LeAll.refl _⟩, ⟨⟨_, rfl, LeAll.refl _⟩, trivial⟩⟩⟩⟩) ?_
  refine SW.region ?_
  refine SWl.rd rfl (Rd.loadA 0 2 rfl rfl (by kernel_rfl) rfl trivial) ?_
  refine SWl.rd rfl (Rd.loadA 1 2 rfl rfl (by kernel_rfl) rfl trivial) ?_
  refine SWl.ef (S := []) (Ef.call (con_addE hx5 hy5 hxy) rfl ⟨Le.refl _, Le.refl _, trivial⟩ rfl) ?_
  rintro _ rfl
  refine SWl.rd rfl (Rd.move rfl) ?_
  refine SWl.rd rfl (Rd.extract rfl rfl) ?_
  refine SWl.rd rfl (Rd.extract rfl rfl) ?_
  refine SWl.ef (S := []) (Ef.alloc (zs := [.bool false, .slice none 0 0]) (by kernel_rfl) rfl) ?_
  rintro _ ⟨g7, rfl⟩
  refine SWl.ef (S := [_]) (Ef.storeA 3 rfl rfl rfl (by kernel_rfl) rfl (List.mem_singleton.2 rfl)) ?_
  rintro _ rfl
  refine SWl.rd rfl (Rd.assign rfl) ?_
  refine SWl.nil ?_
  refine SN.then ?_
  refine SW.seq ?_
  refine SW.region ?_
  refine SWl.rd rfl (Rd.loadA 1 2 rfl rfl (by kernel_rfl) rfl trivial) ?_
  refine SWl.rd rfl (Rd.loadA 0 2 rfl rfl (by kernel_rfl) rfl trivial) ?_
  refine SWl.ef (S := []) (Ef.call (con_addE hy5 hx5 hyx) rfl ⟨Le.refl _, Le.refl _, trivial⟩ rfl) ?_
  rintro _ rfl
  refine SWl.rd rfl (Rd.move rfl) ?_
  refine SWl.rd rfl (Rd.extract rfl rfl) ?_
  refine SWl.rd rfl (Rd.extract rfl rfl) ?_
  refine SWl.ef (S := []) (Ef.alloc (zs := [.bool false, .slice none 0 0]) (by kernel_rfl) rfl) ?_
  rintro _ ⟨g9, rfl⟩
  refine SWl.ef (S := [_]) (Ef.storeA 4 rfl rfl rfl (by kernel_rfl) rfl (List.mem_singleton.2 rfl)) ?_
  rintro _ rfl
  refine SWl.rd rfl (Rd.assign rfl) ?_
  refine SWl.nil ?_
  refine SN.then ?_
  refine SW.seq ?_
  refine SW.region ?_
  refine SWl.rd rfl (Rd.loadA 3 2 rfl rfl (by kernel_rfl) rfl trivial) ?_
  refine SWl.rd rfl (Rd.loadA 1 2 rfl rfl (by kernel_rfl) rfl trivial) ?_
  refine SWl.ef (S := []) (Ef.call (con_subE hxy hy5 hxyy) rfl ⟨Le.refl _, Le.refl _, trivial⟩ rfl) ?_
  rintro _ rfl
  refine SWl.rd rfl (Rd.move rfl) ?_
  refine SWl.rd rfl (Rd.extract rfl rfl) ?_
  refine SWl.rd rfl (Rd.extract rfl rfl) ?_
  refine SWl.ef (S := []) (Ef.alloc (zs := [.bool false, .slice none 0 0]) (by kernel_rfl) rfl) ?_
  rintro _ ⟨g11, rfl⟩
  refine SWl.ef (S := [_]) (Ef.storeA 5 rfl rfl rfl (by kernel_rfl) rfl (List.mem_singleton.2 rfl)) ?_
  rintro _ rfl
  refine SWl.rd rfl (Rd.assign rfl) ?_
  refine SWl.nil ?_
  refine SN.then ?_
  refine SW.seq ?_
  refine SW.region ?_
  refine SWl.rd rfl (Rd.loadA 0 2 rfl rfl (by kernel_rfl) rfl trivial) ?_
  refine SWl.rd rfl (Rd.loadA 1 2 rfl rfl (by kernel_rfl) rfl trivial) ?_
  refine SWl.ef (S := []) (Ef.call (con_mulE hx5 hy5 hmxy) rfl ⟨Le.refl _, Le.refl _, trivial⟩ rfl) ?_
  rintro _ rfl
  refine SWl.rd rfl (Rd.move rfl) ?_
  refine SWl.rd rfl (Rd.extract rfl rfl) ?_
  refine SWl.rd rfl (Rd.extract rfl rfl) ?_
  refine SWl.ef (S := []) (Ef.alloc (zs := [.bool false, .slice none 0 0]) (by kernel_rfl) rfl) ?_
  rintro _ ⟨g13, rfl⟩
  refine SWl.ef (S := [_]) (Ef.storeA 6 rfl rfl rfl (by kernel_rfl) rfl (List.mem_singleton.2 rfl)) ?_
  rintro _ rfl
  refine SWl.rd rfl (Rd.assign rfl) ?_
  refine SWl.nil ?_
  refine SN.then ?_
  refine SW.seq ?_
  refine SW.region ?_
  refine SWl.rd rfl (Rd.loadA 1 2 rfl rfl (by kernel_rfl) rfl trivial) ?_
  refine SWl.rd rfl (Rd.loadA 0 2 rfl rfl (by kernel_rfl) rfl trivial) ?_
  refine SWl.ef (S := []) (Ef.call (con_mulE hy5 hx5 hmyx) rfl ⟨Le.refl _, Le.refl _, trivial⟩ rfl) ?_
  rintro _ rfl
  refine SWl.rd rfl (Rd.move rfl) ?_
  refine SWl.rd rfl (Rd.extract rfl rfl) ?_
  refine SWl.rd rfl (Rd.extract rfl rfl) ?_
  refine SWl.ef (S := []) (Ef.alloc (zs := [.bool false, .slice none 0 0]) (by kernel_rfl) rfl) ?_
  rintro _ ⟨g15, rfl⟩
  refine SWl.ef (S := [_]) (Ef.storeA 7 rfl rfl rfl (by kernel_rfl) rfl (List.mem_singleton.2 rfl)) ?_
  rintro _ rfl
  refine SWl.rd rfl (Rd.assign rfl) ?_
  refine SWl.nil ?_
  refine SN.then ?_
  refine SW.seq ?_
  refine SW.seq ?_
  refine SW.sub (σ' := St.of [(3, isD (.pointer (some ⟨g3, 0, none⟩))), (4, isD (.pointer (some ⟨g4, 0, none⟩))), (5, isD (.pointer (some ⟨g5, 0, none⟩))), (7, isD (.pointer (some ⟨g7, 0, none⟩))), (9, isD (.pointer (some ⟨g9, 0, none⟩))), (11, isD (.pointer (some ⟨g11, 0, none⟩))), (13, isD (.pointer (some ⟨g13, 0, none⟩))), (15, isD (.pointer (some ⟨g15, 0, none⟩))), (8, errD (0)), (10, errD (0)), (12, errD (0)), (14, errD (0)), (16, errD (0))] [(g3, intC (x)), (g4, intC (y)), (g5, intC (z)), (g7, intC (x + y)), (g9, intC (y + x)), (g11, intC (x + y - y)), (g13, intC (x * y)), (g15, intC (y * x))]) (⟨⟨_, rfl, ⟨⟨_, rfl, Le.refl _⟩, ⟨⟨_, rfl, Le.refl _⟩, ⟨⟨_, rfl, Le.refl _⟩, ⟨⟨_, rfl, Le.refl _⟩, ⟨⟨_, rfl, Le.refl _⟩, ⟨⟨_, rfl, Le.refl _⟩, ⟨⟨_, rfl, Le.refl _⟩, ⟨⟨_, rfl, Le.refl _⟩, ⟨⟨_, rfl, Le.refl _⟩, ⟨⟨_, rfl, Le.refl _⟩, ⟨⟨_, rfl, Le.refl _⟩, ⟨⟨_, rfl, Le.refl _⟩, ⟨⟨_, rfl, Le.refl _⟩, trivial⟩⟩⟩⟩⟩⟩⟩⟩⟩⟩⟩⟩⟩⟩, [0, 1, 2, 3, 4, 5, 6, 7], by decide, ⟨⟨_, rfl, LeAll.refl _⟩, ⟨⟨_, rfl, LeAll.refl _⟩, ⟨⟨_, rfl, LeAll.refl _⟩, ⟨⟨_, rfl, LeAll.refl _⟩, ⟨⟨_, rfl, LeAll.refl _⟩, ⟨⟨_, rfl, LeAll.refl _⟩, ⟨⟨_, rfl, LeAll.refl _⟩, ⟨⟨_, rfl, LeAll.refl _⟩, trivial⟩⟩⟩⟩⟩⟩⟩⟩⟩) ?_
  refine SW.region ?_
  refine SWl.rd rfl (Rd.move rfl) ?_
  refine SWl.rd rfl (Rd.nei rfl rfl) ?_
  refine SWl.rd rfl (Rd.move rfl) ?_
  refine SWl.rdg rfl rfl (by decide) rfl rfl (Rd.move rfl) ?_
  refine SWl.rdg rfl rfl (by decide) rfl rfl (Rd.nei rfl rfl) ?_
  refine SWl.rd rfl (Rd.pickN rfl (by decide) rfl) ?_
  refine SWl.rd rfl (Rd.move rfl) ?_
  refine SWl.rdg rfl rfl (by decide) rfl rfl (Rd.move rfl) ?_
  refine SWl.rdg rfl rfl (by decide) rfl rfl (Rd.nei rfl rfl) ?_
  refine SWl.rd rfl (Rd.pickN rfl (by decide) rfl) ?_
  refine SWl.rd rfl (Rd.move rfl) ?_
  refine SWl.rdg rfl rfl (by decide) rfl rfl (Rd.move rfl) ?_
  refine SWl.rdg rfl rfl (by decide) rfl rfl (Rd.nei rfl rfl) ?_
  refine SWl.rd rfl (Rd.pickN rfl (by decide) rfl) ?_
  refine SWl.rd rfl (Rd.move rfl) ?_
  refine SWl.rdg rfl rfl (by decide) rfl rfl (Rd.move rfl) ?_
  refine SWl.rdg rfl rfl (by decide) rfl rfl (Rd.nei rfl rfl) ?_
  refine SWl.rd rfl (Rd.pickN rfl (by decide) rfl) ?_
  refine SWl.rd rfl (Rd.move rfl) ?_
  refine SWl.rdg rfl rfl (by decide) rfl rfl (Rd.loadA 3 2 rfl rfl (by kernel_rfl) rfl trivial) ?_
  refine SWl.rdg rfl rfl (by decide) rfl rfl (Rd.loadA 4 2 rfl rfl (by kernel_rfl) rfl trivial) ?_
  refine SWl.efg (S := []) rfl rfl (by decide) rfl (Ef.call (con_sameT (Int.add_comm x y)) rfl ⟨Le.refl _, Le.refl _, trivial⟩ rfl) ?_
  rintro _ rfl
  refine SWl.rdg rfl rfl (by decide) rfl rfl (Rd.not rfl) ?_
  refine SWl.rd rfl (Rd.pickN rfl (by decide) rfl) ?_
  refine SWl.rd rfl (Rd.move rfl) ?_
  refine SWl.rdg rfl rfl (rfl) rfl rfl (Rd.loadA 5 2 rfl rfl (by kernel_rfl) rfl trivial) ?_
  refine SWl.rdg rfl rfl (rfl) rfl rfl (Rd.loadA 0 2 rfl rfl (by kernel_rfl) rfl trivial) ?_
  refine SWl.efg (S := []) rfl rfl (rfl) rfl (Ef.call (con_sameT (Int.add_sub_cancel x y)) rfl ⟨Le.refl _, Le.refl _, trivial⟩ rfl) ?_
  rintro _ rfl
  refine SWl.rdg rfl rfl (rfl) rfl rfl (Rd.not rfl) ?_
  refine SWl.rd rfl (Rd.pickN rfl (rfl) rfl) ?_
  refine SWl.rd rfl (Rd.move rfl) ?_
  refine SWl.rdg rfl rfl (rfl) rfl rfl (Rd.loadA 6 2 rfl rfl (by kernel_rfl) rfl trivial) ?_
  refine SWl.rdg rfl rfl (rfl) rfl rfl (Rd.loadA 7 2 rfl rfl (by kernel_rfl) rfl trivial) ?_
  refine SWl.efg (S := []) rfl rfl (rfl) rfl (Ef.call (con_sameT (Int.mul_comm x y)) rfl ⟨Le.refl _, Le.refl _, trivial⟩ rfl) ?_
  rintro _ rfl
  refine SWl.rdg rfl rfl (rfl) rfl rfl (Rd.not rfl) ?_
  refine SWl.rd rfl (Rd.pickN rfl (rfl) rfl) ?_
  refine SWl.nil ?_
  refine SN.then ?_
  refine SW.condF rfl (rfl) ?_
  refine SW.skip ?_
  refine SN.then ?_
  refine SW.seq ?_
  refine SW.sub (σ' := St.of [(3, isD (.pointer (some ⟨g3, 0, none⟩))), (4, isD (.pointer (some ⟨g4, 0, none⟩))), (5, isD (.pointer (some ⟨g5, 0, none⟩))), (7, isD (.pointer (some ⟨g7, 0, none⟩)))] [(g3, intC (x)), (g4, intC (y)), (g5, intC (z)), (g7, intC (x + y))]) (⟨⟨_, rfl, ⟨⟨_, rfl, Le.refl _⟩, ⟨⟨_, rfl, Le.refl _⟩, ⟨⟨_, rfl, Le.refl _⟩, ⟨⟨_, rfl, Le.refl _⟩, trivial⟩⟩⟩⟩⟩, [0, 1, 2, 3], by decide, ⟨⟨_, rfl, LeAll.refl _⟩, ⟨⟨_, rfl, LeAll.refl _⟩, ⟨⟨_, rfl, LeAll.refl _⟩, ⟨⟨_, rfl, LeAll.refl _⟩, trivial⟩⟩⟩⟩⟩) ?_
  refine SW.region ?_
  refine SWl.rd rfl (Rd.loadA 2 2 rfl rfl (by kernel_rfl) rfl trivial) ?_
  refine SWl.rd rfl (Rd.loadA 3 2 rfl rfl (by kernel_rfl) rfl trivial) ?_
  refine SWl.ef (S := []) (Ef.call (con_mulE hz5 hxy hzs) rfl ⟨Le.refl _, Le.refl _, trivial⟩ rfl) ?_
  rintro _ rfl
  refine SWl.rd rfl (Rd.move rfl) ?_
  refine SWl.rd rfl (Rd.extract rfl rfl) ?_
  refine SWl.rd rfl (Rd.extract rfl rfl) ?_
  refine SWl.ef (S := []) (Ef.alloc (zs := [.bool false, .slice none 0 0]) (by kernel_rfl) rfl) ?_
  rintro _ ⟨g17, rfl⟩
  refine SWl.ef (S := [_]) (Ef.storeA 4 rfl rfl rfl (by kernel_rfl) rfl (List.mem_singleton.2 rfl)) ?_
  rintro _ rfl
  refine SWl.rd rfl (Rd.assign rfl) ?_
  refine SWl.nil ?_
  refine SN.then ?_
  refine SW.seq ?_
  refine SW.region ?_
  refine SWl.rd rfl (Rd.loadA 2 2 rfl rfl (by kernel_rfl) rfl trivial) ?_
  refine SWl.rd rfl (Rd.loadA 0 2 rfl rfl (by kernel_rfl) rfl trivial) ?_
  refine SWl.ef (S := []) (Ef.call (con_mulE hz5 hx5 hzx) rfl ⟨Le.refl _, Le.refl _, trivial⟩ rfl) ?_
  rintro _ rfl
  refine SWl.rd rfl (Rd.move rfl) ?_
  refine SWl.rd rfl (Rd.extract rfl rfl) ?_
  refine SWl.rd rfl (Rd.extract rfl rfl) ?_
  refine SWl.ef (S := []) (Ef.alloc (zs := [.bool false, .slice none 0 0]) (by kernel_rfl) rfl) ?_
  rintro _ ⟨g19, rfl⟩
  refine SWl.ef (S := [_]) (Ef.storeA 5 rfl rfl rfl (by kernel_rfl) rfl (List.mem_singleton.2 rfl)) ?_
  rintro _ rfl
  refine SWl.rd rfl (Rd.assign rfl) ?_
  refine SWl.nil ?_
  refine SN.then ?_
  refine SW.seq ?_
  refine SW.region ?_
  refine SWl.rd rfl (Rd.loadA 2 2 rfl rfl (by kernel_rfl) rfl trivial) ?_
  refine SWl.rd rfl (Rd.loadA 1 2 rfl rfl (by kernel_rfl) rfl trivial) ?_
  refine SWl.ef (S := []) (Ef.call (con_mulE hz5 hy5 hzy) rfl ⟨Le.refl _, Le.refl _, trivial⟩ rfl) ?_
  rintro _ rfl
  refine SWl.rd rfl (Rd.move rfl) ?_
  refine SWl.rd rfl (Rd.extract rfl rfl) ?_
  refine SWl.rd rfl (Rd.extract rfl rfl) ?_
  refine SWl.ef (S := []) (Ef.alloc (zs := [.bool false, .slice none 0 0]) (by kernel_rfl) rfl) ?_
  rintro _ ⟨g21, rfl⟩
  refine SWl.ef (S := [_]) (Ef.storeA 6 rfl rfl rfl (by kernel_rfl) rfl (List.mem_singleton.2 rfl)) ?_
  rintro _ rfl
  refine SWl.rd rfl (Rd.assign rfl) ?_
  refine SWl.nil ?_
  refine SN.then ?_
  refine SW.seq ?_
  refine SW.region ?_
  refine SWl.rd rfl (Rd.loadA 5 2 rfl rfl (by kernel_rfl) rfl trivial) ?_
  refine SWl.rd rfl (Rd.loadA 6 2 rfl rfl (by kernel_rfl) rfl trivial) ?_
  refine SWl.ef (S := []) (Ef.call (con_addE hzx hzy hzxy) rfl ⟨Le.refl _, Le.refl _, trivial⟩ rfl) ?_
  rintro _ rfl
  refine SWl.rd rfl (Rd.move rfl) ?_
  refine SWl.rd rfl (Rd.extract rfl rfl) ?_
  refine SWl.rd rfl (Rd.extract rfl rfl) ?_
  refine SWl.ef (S := []) (Ef.alloc (zs := [.bool false, .slice none 0 0]) (by kernel_rfl) rfl) ?_
  rintro _ ⟨g23, rfl⟩
  refine SWl.ef (S := [_]) (Ef.storeA 7 rfl rfl rfl (by kernel_rfl) rfl (List.mem_singleton.2 rfl)) ?_
  rintro _ rfl
  refine SWl.rd rfl (Rd.assign rfl) ?_
  refine SWl.nil ?_
  refine SN.then ?_
  refine SW.seq ?_
  refine SW.seq ?_
  refine SW.sub (σ' := St.of [(3, isD (.pointer (some ⟨g3, 0, none⟩))), (4, isD (.pointer (some ⟨g4, 0, none⟩))), (17, isD (.pointer (some ⟨g17, 0, none⟩))), (23, isD (.pointer (some ⟨g23, 0, none⟩))), (18, errD (0)), (20, errD (0)), (22, errD (0)), (24, errD (0))] [(g3, intC (x)), (g4, intC (y)), (g17, intC (z * (x + y))), (g23, intC (z * x + z * y))]) (⟨⟨_, rfl, ⟨⟨_, rfl, Le.refl _⟩, ⟨⟨_, rfl, Le.refl _⟩, ⟨⟨_, rfl, Le.refl _⟩, ⟨⟨_, rfl, Le.refl _⟩, ⟨⟨_, rfl, Le.refl _⟩, ⟨⟨_, rfl, Le.refl _⟩, ⟨⟨_, rfl, Le.refl _⟩, ⟨⟨_, rfl, Le.refl _⟩, trivial⟩⟩⟩⟩⟩⟩⟩⟩⟩, [0, 1, 4, 7], by decide, ⟨⟨_, rfl, LeAll.refl _⟩, ⟨⟨_, rfl, LeAll.refl _⟩, ⟨⟨_, rfl, LeAll.refl _⟩, ⟨⟨_, rfl, LeAll.refl _⟩, trivial⟩⟩⟩⟩⟩) ?_
  refine SW.region ?_
  refine SWl.rd rfl (Rd.move rfl) ?_
  refine SWl.rd rfl (Rd.nei rfl rfl) ?_
  refine SWl.rd rfl (Rd.move rfl) ?_
  refine SWl.rdg rfl rfl (by decide) rfl rfl (Rd.move rfl) ?_
  refine SWl.rdg rfl rfl (by decide) rfl rfl (Rd.nei rfl rfl) ?_
  refine SWl.rd rfl (Rd.pickN rfl (by decide) rfl) ?_
  refine SWl.rd rfl (Rd.move rfl) ?_
  refine SWl.rdg rfl rfl (by decide) rfl rfl (Rd.move rfl) ?_
  refine SWl.rdg rfl rfl (by decide) rfl rfl (Rd.nei rfl rfl) ?_
  refine SWl.rd rfl (Rd.pickN rfl (by decide) rfl) ?_
  refine SWl.rd rfl (Rd.move rfl) ?_
  refine SWl.rdg rfl rfl (by decide) rfl rfl (Rd.move rfl) ?_
  refine SWl.rdg rfl rfl (by decide) rfl rfl (Rd.nei rfl rfl) ?_
  refine SWl.rd rfl (Rd.pickN rfl (by decide) rfl) ?_
  refine SWl.rd rfl (Rd.move rfl) ?_
  refine SWl.rdg rfl rfl (by decide) rfl rfl (Rd.loadA 2 2 rfl rfl (by kernel_rfl) rfl trivial) ?_
  refine SWl.rdg rfl rfl (by decide) rfl rfl (Rd.loadA 3 2 rfl rfl (by kernel_rfl) rfl trivial) ?_
  refine SWl.efg (S := []) rfl rfl (by decide) rfl (Ef.call (con_sameT (Int.mul_add z x y)) rfl ⟨Le.refl _, Le.refl _, trivial⟩ rfl) ?_
  rintro _ rfl
  refine SWl.rdg rfl rfl (by decide) rfl rfl (Rd.not rfl) ?_
  refine SWl.rd rfl (Rd.pickN rfl (by decide) rfl) ?_
  refine SWl.nil ?_
  refine SN.then ?_
  refine SW.condF rfl (rfl) ?_
  refine SW.skip ?_
  refine SN.then ?_
  refine SW.seq ?_
  refine SW.seq ?_
  refine SW.sub (σ' := St.of [(3, isD (.pointer (some ⟨g3, 0, none⟩))), (4, isD (.pointer (some ⟨g4, 0, none⟩)))] [(g3, intC (x)), (g4, intC (y))]) (⟨⟨_, rfl, ⟨⟨_, rfl, Le.refl _⟩, ⟨⟨_, rfl, Le.refl _⟩, trivial⟩⟩⟩, [0, 1], by decide, ⟨⟨_, rfl, LeAll.refl _⟩, ⟨⟨_, rfl, LeAll.refl _⟩, trivial⟩⟩⟩) ?_
  refine SW.region ?_
  refine SWl.rd rfl (Rd.loadA 1 2 rfl rfl (by kernel_rfl) rfl trivial) ?_
  refine SWl.ef (S := []) (Ef.call (con_sign hy5) rfl ⟨Le.refl _, trivial⟩ rfl) ?_
  rintro _ rfl
  refine SWl.rd rfl (Rd.eqi rfl rfl) ?_
  refine SWl.nil ?_
  refine SN.then ?_
  refine SW.cond rfl (fun hb184 => ?_) (fun hb184 => ?_)
  · skip
    refine SW.seq ?_
    refine SW.region ?_
    refine SWl.ef (S := []) (Ef.call (con_known) rfl trivial rfl) ?_
    rintro _ rfl
    refine SWl.rd rfl (Rd.assign rfl) ?_
    refine SWl.nil ?_
    refine SN.then ?_
    refine SW.ret (fn := Try.f10) (fun _ _ h => h) (Rs.one rfl (ResV.tmp rfl))
  · have hy0 : y ≠ 0 := (fun e => of_decide_eq_false hb184 (by rw [e]; rfl)); have hq : (dq x y).natAbs < p28 := Nat.lt_of_le_of_lt (dq_abs hy0) hx; have hq5 := p28_512 (p28_p29 hq); have hqy := p28_mul hq (p28_p29 hy); have hr5 : (dr x y).natAbs < big512 := Nat.lt_trans (dr_abs hy0) hy5; have hbk := dq_dr x hy0; have hbk5 : (dq x y * y + dr x y).natAbs < big512 := (by rw [hbk]; exact hx5); have hg0 := gcd_pos (x := x) hy0; have hg5 := Nat.lt_of_le_of_lt (gcd_le (x := x) hy0) hy5; have hs1 : (dr x (gcdZ x y)).sign = 0 := (by rw [dr_dvd gcd_dvdl]; rfl); have hs2 : (dr y (gcdZ x y)).sign = 0 := (by rw [dr_dvd gcd_dvdr]; rfl); have hd1 := Nat.lt_trans (dr_abs (x := x) hg0) hg5; have hd2 := Nat.lt_trans (dr_abs (x := y) hg0) hg5
    refine SW.skip ?_
    refine SN.then ?_
    refine SW.seq ?_
    refine SW.sub (σ' := St.of [(3, isD (.pointer (some ⟨g3, 0, none⟩))), (4, isD (.pointer (some ⟨g4, 0, none⟩)))] [(g3, intC (x)), (g4, intC (y))]) (⟨⟨_, rfl, ⟨⟨_, rfl, Le.refl _⟩, ⟨⟨_, rfl, Le.refl _⟩, trivial⟩⟩⟩, [0, 1], by decide, ⟨⟨_, rfl, LeAll.refl _⟩, ⟨⟨_, rfl, LeAll.refl _⟩, trivial⟩⟩⟩) ?_
    refine SW.region ?_
    refine SWl.rd rfl (Rd.loadA 0 2 rfl rfl (by kernel_rfl) rfl trivial) ?_
    refine SWl.rd rfl (Rd.loadA 1 2 rfl rfl (by kernel_rfl) rfl trivial) ?_
    refine SWl.ef (S := []) (Ef.call (con_divMod hx5 hy5 hy0) rfl ⟨Le.refl _, Le.refl _, trivial⟩ rfl) ?_
    rintro _ rfl
    refine SWl.rd rfl (Rd.move rfl) ?_
    refine SWl.rd rfl (Rd.extract rfl rfl) ?_
    refine SWl.rd rfl (Rd.extract rfl rfl) ?_
    refine SWl.rd rfl (Rd.extract rfl rfl) ?_
    refine SWl.ef (S := []) (Ef.alloc (zs := [.bool false, .slice none 0 0]) (by kernel_rfl) rfl) ?_
    rintro _ ⟨g25, rfl⟩
    refine SWl.ef (S := []) (Ef.alloc (zs := [.bool false, .slice none 0 0]) (by kernel_rfl) rfl) ?_
    rintro _ ⟨g26, rfl⟩
    refine SWl.ef (S := [_]) (Ef.storeA 2 rfl rfl rfl (by kernel_rfl) rfl (List.mem_singleton.2 rfl)) ?_
    rintro _ rfl
    refine SWl.ef (S := [_]) (Ef.storeA 3 rfl rfl rfl (by kernel_rfl) rfl (List.mem_singleton.2 rfl)) ?_
    rintro _ rfl
    refine SWl.rd rfl (Rd.assign rfl) ?_
    refine SWl.nil ?_
    refine SN.then ?_
    refine SW.seq ?_
    refine SW.region ?_
    refine SWl.rd rfl (Rd.loadA 2 2 rfl rfl (by kernel_rfl) rfl trivial) ?_
    refine SWl.rd rfl (Rd.loadA 1 2 rfl rfl (by kernel_rfl) rfl trivial) ?_
    refine SWl.ef (S := []) (Ef.call (con_mulE hq5 hy5 hqy) rfl ⟨Le.refl _, Le.refl _, trivial⟩ rfl) ?_
    rintro _ rfl
    refine SWl.rd rfl (Rd.move rfl) ?_
    refine SWl.rd rfl (Rd.extract rfl rfl) ?_
    refine SWl.rd rfl (Rd.extract rfl rfl) ?_
    refine SWl.ef (S := []) (Ef.alloc (zs := [.bool false, .slice none 0 0]) (by kernel_rfl) rfl) ?_
    rintro _ ⟨g28, rfl⟩
    refine SWl.ef (S := [_]) (Ef.storeA 4 rfl rfl rfl (by kernel_rfl) rfl (List.mem_singleton.2 rfl)) ?_
    rintro _ rfl
    refine SWl.rd rfl (Rd.assign rfl) ?_
    refine SWl.nil ?_
    refine SN.then ?_
    refine SW.seq ?_
    refine SW.sub (σ' := St.of [(3, isD (.pointer (some ⟨g3, 0, none⟩))), (4, isD (.pointer (some ⟨g4, 0, none⟩))), (26, isD (.pointer (some ⟨g26, 0, none⟩))), (28, isD (.pointer (some ⟨g28, 0, none⟩))), (27, errD (0)), (29, errD (0))] [(g3, intC (x)), (g4, intC (y)), (g26, intC (dr x y)), (g28, intC (dq x y * y))]) (⟨⟨_, rfl, ⟨⟨_, rfl, Le.refl _⟩, ⟨⟨_, rfl, Le.refl _⟩, ⟨⟨_, rfl, Le.refl _⟩, ⟨⟨_, rfl, Le.refl _⟩, ⟨⟨_, rfl, Le.refl _⟩, ⟨⟨_, rfl, Le.refl _⟩, trivial⟩⟩⟩⟩⟩⟩⟩, [0, 1, 3, 4], by decide, ⟨⟨_, rfl, LeAll.refl _⟩, ⟨⟨_, rfl, LeAll.refl _⟩, ⟨⟨_, rfl, LeAll.refl _⟩, ⟨⟨_, rfl, LeAll.refl _⟩, trivial⟩⟩⟩⟩⟩) ?_
    refine SW.region ?_
    refine SWl.rd rfl (Rd.loadA 3 2 rfl rfl (by kernel_rfl) rfl trivial) ?_
    refine SWl.rd rfl (Rd.loadA 2 2 rfl rfl (by kernel_rfl) rfl trivial) ?_
    refine SWl.ef (S := []) (Ef.call (con_addE hqy hr5 hbk5) rfl ⟨Le.refl _, Le.refl _, trivial⟩ rfl) ?_
    rintro _ rfl
    refine SWl.rd rfl (Rd.move rfl) ?_
    refine SWl.rd rfl (Rd.extract rfl rfl) ?_
    refine SWl.rd rfl (Rd.extract rfl rfl) ?_
    refine SWl.ef (S := []) (Ef.alloc (zs := [.bool false, .slice none 0 0]) (by kernel_rfl) rfl) ?_
    rintro _ ⟨g30, rfl⟩
    refine SWl.ef (S := [_]) (Ef.storeA 4 rfl rfl rfl (by kernel_rfl) rfl (List.mem_singleton.2 rfl)) ?_
    rintro _ rfl
    refine SWl.rd rfl (Rd.assign rfl) ?_
    refine SWl.nil ?_
    refine SN.then ?_
    refine SW.seq ?_
    refine SW.region ?_
    refine SWl.rd rfl (Rd.loadA 0 2 rfl rfl (by kernel_rfl) rfl trivial) ?_
    refine SWl.rd rfl (Rd.loadA 1 2 rfl rfl (by kernel_rfl) rfl trivial) ?_
    refine SWl.ef (S := []) (Ef.call (con_gcd hx5 hy5) rfl ⟨Le.refl _, Le.refl _, trivial⟩ rfl) ?_
    rintro _ rfl
    refine SWl.rd rfl (Rd.move rfl) ?_
    refine SWl.rd rfl (Rd.extract rfl rfl) ?_
    refine SWl.rd rfl (Rd.extract rfl rfl) ?_
    refine SWl.ef (S := []) (Ef.alloc (zs := [.bool false, .slice none 0 0]) (by kernel_rfl) rfl) ?_
    rintro _ ⟨g32, rfl⟩
    refine SWl.ef (S := [_]) (Ef.storeA 5 rfl rfl rfl (by kernel_rfl) rfl (List.mem_singleton.2 rfl)) ?_
    rintro _ rfl
    refine SWl.rd rfl (Rd.assign rfl) ?_
    refine SWl.nil ?_
    refine SN.then ?_
    refine SW.seq ?_
    refine SW.sub (σ' := St.of [(3, isD (.pointer (some ⟨g3, 0, none⟩))), (4, isD (.pointer (some ⟨g4, 0, none⟩))), (26, isD (.pointer (some ⟨g26, 0, none⟩))), (30, isD (.pointer (some ⟨g30, 0, none⟩))), (32, isD (.pointer (some ⟨g32, 0, none⟩))), (27, errD (0)), (29, errD (0)), (31, errD (0)), (33, errD (0))] [(g3, intC (x)), (g4, intC (y)), (g26, intC (dr x y)), (g30, intC (dq x y * y + dr x y)), (g32, intC (gcdZ x y))]) (⟨⟨_, rfl, ⟨⟨_, rfl, Le.refl _⟩, ⟨⟨_, rfl, Le.refl _⟩, ⟨⟨_, rfl, Le.refl _⟩, ⟨⟨_, rfl, Le.refl _⟩, ⟨⟨_, rfl, Le.refl _⟩, ⟨⟨_, rfl, Le.refl _⟩, ⟨⟨_, rfl, Le.refl _⟩, ⟨⟨_, rfl, Le.refl _⟩, ⟨⟨_, rfl, Le.refl _⟩, trivial⟩⟩⟩⟩⟩⟩⟩⟩⟩⟩, [0, 1, 2, 4, 5], by decide, ⟨⟨_, rfl, LeAll.refl _⟩, ⟨⟨_, rfl, LeAll.refl _⟩, ⟨⟨_, rfl, LeAll.refl _⟩, ⟨⟨_, rfl, LeAll.refl _⟩, ⟨⟨_, rfl, LeAll.refl _⟩, trivial⟩⟩⟩⟩⟩⟩) ?_
    refine SW.region ?_
    refine SWl.rd rfl (Rd.loadA 0 2 rfl rfl (by kernel_rfl) rfl trivial) ?_
    refine SWl.rd rfl (Rd.loadA 4 2 rfl rfl (by kernel_rfl) rfl trivial) ?_
    refine SWl.ef (S := []) (Ef.call (con_divMod hx5 hg5 hg0) rfl ⟨Le.refl _, Le.refl _, trivial⟩ rfl) ?_
    rintro _ rfl
    refine SWl.rd rfl (Rd.move rfl) ?_
    refine SWl.rd rfl (Rd.extract rfl rfl) ?_
    refine SWl.rd rfl (Rd.extract rfl rfl) ?_
    refine SWl.rd rfl (Rd.extract rfl rfl) ?_
    refine SWl.ef (S := []) (Ef.alloc (zs := [.bool false, .slice none 0 0]) (by kernel_rfl) rfl) ?_
    rintro _ ⟨g34, rfl⟩
    refine SWl.ef (S := []) (Ef.alloc (zs := [.bool false, .slice none 0 0]) (by kernel_rfl) rfl) ?_
    rintro _ ⟨g35, rfl⟩
    refine SWl.ef (S := [_]) (Ef.storeA 5 rfl rfl rfl (by kernel_rfl) rfl (List.mem_singleton.2 rfl)) ?_
    rintro _ rfl
    refine SWl.ef (S := [_]) (Ef.storeA 6 rfl rfl rfl (by kernel_rfl) rfl (List.mem_singleton.2 rfl)) ?_
    rintro _ rfl
    refine SWl.rd rfl (Rd.assign rfl) ?_
    refine SWl.nil ?_
    refine SN.then ?_
    refine SW.seq ?_
    refine SW.sub (σ' := St.of [(3, isD (.pointer (some ⟨g3, 0, none⟩))), (4, isD (.pointer (some ⟨g4, 0, none⟩))), (26, isD (.pointer (some ⟨g26, 0, none⟩))), (30, isD (.pointer (some ⟨g30, 0, none⟩))), (32, isD (.pointer (some ⟨g32, 0, none⟩))), (35, isD (.pointer (some ⟨g35, 0, none⟩))), (27, errD (0)), (29, errD (0)), (31, errD (0)), (33, errD (0)), (36, errD (0))] [(g3, intC (x)), (g4, intC (y)), (g26, intC (dr x y)), (g30, intC (dq x y * y + dr x y)), (g32, intC (gcdZ x y)), (g35, intC (dr x (gcdZ x y)))]) (⟨⟨_, rfl, ⟨⟨_, rfl, Le.refl _⟩, ⟨⟨_, rfl, Le.refl _⟩, ⟨⟨_, rfl, Le.refl _⟩, ⟨⟨_, rfl, Le.refl _⟩, ⟨⟨_, rfl, Le.refl _⟩, ⟨⟨_, rfl, Le.refl _⟩, ⟨⟨_, rfl, Le.refl _⟩, ⟨⟨_, rfl, Le.refl _⟩, ⟨⟨_, rfl, Le.refl _⟩, ⟨⟨_, rfl, Le.refl _⟩, ⟨⟨_, rfl, Le.refl _⟩, trivial⟩⟩⟩⟩⟩⟩⟩⟩⟩⟩⟩⟩, [0, 1, 2, 3, 4, 6], by decide, ⟨⟨_, rfl, LeAll.refl _⟩, ⟨⟨_, rfl, LeAll.refl _⟩, ⟨⟨_, rfl, LeAll.refl _⟩, ⟨⟨_, rfl, LeAll.refl _⟩, ⟨⟨_, rfl, LeAll.refl _⟩, ⟨⟨_, rfl, LeAll.refl _⟩, trivial⟩⟩⟩⟩⟩⟩⟩) ?_
    refine SW.region ?_
    refine SWl.rd rfl (Rd.loadA 1 2 rfl rfl (by kernel_rfl) rfl trivial) ?_
    refine SWl.rd rfl (Rd.loadA 4 2 rfl rfl (by kernel_rfl) rfl trivial) ?_
    refine SWl.ef (S := []) (Ef.call (con_divMod hy5 hg5 hg0) rfl ⟨Le.refl _, Le.refl _, trivial⟩ rfl) ?_
    rintro _ rfl
    refine SWl.rd rfl (Rd.move rfl) ?_
    refine SWl.rd rfl (Rd.extract rfl rfl) ?_
    refine SWl.rd rfl (Rd.extract rfl rfl) ?_
    refine SWl.rd rfl (Rd.extract rfl rfl) ?_
    refine SWl.ef (S := []) (Ef.alloc (zs := [.bool false, .slice none 0 0]) (by kernel_rfl) rfl) ?_
    rintro _ ⟨g37, rfl⟩
    refine SWl.ef (S := []) (Ef.alloc (zs := [.bool false, .slice none 0 0]) (by kernel_rfl) rfl) ?_
    rintro _ ⟨g38, rfl⟩
    refine SWl.ef (S := [_]) (Ef.storeA 6 rfl rfl rfl (by kernel_rfl) rfl (List.mem_singleton.2 rfl)) ?_
    rintro _ rfl
    refine SWl.ef (S := [_]) (Ef.storeA 7 rfl rfl rfl (by kernel_rfl) rfl (List.mem_singleton.2 rfl)) ?_
    rintro _ rfl
    refine SWl.rd rfl (Rd.assign rfl) ?_
    refine SWl.nil ?_
    refine SN.then ?_
    refine SW.seq ?_
    refine SW.seq ?_
    refine SW.sub (σ' := St.of [(3, isD (.pointer (some ⟨g3, 0, none⟩))), (4, isD (.pointer (some ⟨g4, 0, none⟩))), (26, isD (.pointer (some ⟨g26, 0, none⟩))), (30, isD (.pointer (some ⟨g30, 0, none⟩))), (35, isD (.pointer (some ⟨g35, 0, none⟩))), (38, isD (.pointer (some ⟨g38, 0, none⟩))), (27, errD (0)), (29, errD (0)), (31, errD (0)), (33, errD (0)), (36, errD (0)), (39, errD (0))] [(g3, intC (x)), (g4, intC (y)), (g26, intC (dr x y)), (g30, intC (dq x y * y + dr x y)), (g35, intC (dr x (gcdZ x y))), (g38, intC (dr y (gcdZ x y)))]) (⟨⟨_, rfl, ⟨⟨_, rfl, Le.refl _⟩, ⟨⟨_, rfl, Le.refl _⟩, ⟨⟨_, rfl, Le.refl _⟩, ⟨⟨_, rfl, Le.refl _⟩, ⟨⟨_, rfl, Le.refl _⟩, ⟨⟨_, rfl, Le.refl _⟩, ⟨⟨_, rfl, Le.refl _⟩, ⟨⟨_, rfl, Le.refl _⟩, ⟨⟨_, rfl, Le.refl _⟩, ⟨⟨_, rfl, Le.refl _⟩, ⟨⟨_, rfl, Le.refl _⟩, ⟨⟨_, rfl, Le.refl _⟩, trivial⟩⟩⟩⟩⟩⟩⟩⟩⟩⟩⟩⟩⟩, [0, 1, 2, 3, 5, 7], by decide, ⟨⟨_, rfl, LeAll.refl _⟩, ⟨⟨_, rfl, LeAll.refl _⟩, ⟨⟨_, rfl, LeAll.refl _⟩, ⟨⟨_, rfl, LeAll.refl _⟩, ⟨⟨_, rfl, LeAll.refl _⟩, ⟨⟨_, rfl, LeAll.refl _⟩, trivial⟩⟩⟩⟩⟩⟩⟩) ?_
    refine SW.region ?_
    refine SWl.rd rfl (Rd.move rfl) ?_
    refine SWl.rd rfl (Rd.nei rfl rfl) ?_
    refine SWl.rd rfl (Rd.move rfl) ?_
    refine SWl.rdg rfl rfl (by decide) rfl rfl (Rd.move rfl) ?_
    refine SWl.rdg rfl rfl (by decide) rfl rfl (Rd.nei rfl rfl) ?_
    refine SWl.rd rfl (Rd.pickN rfl (by decide) rfl) ?_
    refine SWl.rd rfl (Rd.move rfl) ?_
    refine SWl.rdg rfl rfl (by decide) rfl rfl (Rd.move rfl) ?_
    refine SWl.rdg rfl rfl (by decide) rfl rfl (Rd.nei rfl rfl) ?_
    refine SWl.rd rfl (Rd.pickN rfl (by decide) rfl) ?_
    refine SWl.rd rfl (Rd.move rfl) ?_
    refine SWl.rdg rfl rfl (by decide) rfl rfl (Rd.move rfl) ?_
    refine SWl.rdg rfl rfl (by decide) rfl rfl (Rd.nei rfl rfl) ?_
    refine SWl.rd rfl (Rd.pickN rfl (by decide) rfl) ?_
    refine SWl.rd rfl (Rd.move rfl) ?_
    refine SWl.rdg rfl rfl (by decide) rfl rfl (Rd.move rfl) ?_
    refine SWl.rdg rfl rfl (by decide) rfl rfl (Rd.nei rfl rfl) ?_
    refine SWl.rd rfl (Rd.pickN rfl (by decide) rfl) ?_
    refine SWl.rd rfl (Rd.move rfl) ?_
    refine SWl.rdg rfl rfl (by decide) rfl rfl (Rd.move rfl) ?_
    refine SWl.rdg rfl rfl (by decide) rfl rfl (Rd.nei rfl rfl) ?_
    refine SWl.rd rfl (Rd.pickN rfl (by decide) rfl) ?_
    refine SWl.rd rfl (Rd.move rfl) ?_
    refine SWl.rdg rfl rfl (by decide) rfl rfl (Rd.loadA 3 2 rfl rfl (by kernel_rfl) rfl trivial) ?_
    refine SWl.rdg rfl rfl (by decide) rfl rfl (Rd.loadA 0 2 rfl rfl (by kernel_rfl) rfl trivial) ?_
    refine SWl.efg (S := []) rfl rfl (by decide) rfl (Ef.call (con_sameT hbk) rfl ⟨Le.refl _, Le.refl _, trivial⟩ rfl) ?_
    rintro _ rfl
    refine SWl.rdg rfl rfl (by decide) rfl rfl (Rd.not rfl) ?_
    refine SWl.rd rfl (Rd.pickN rfl (by decide) rfl) ?_
    refine SWl.rd rfl (Rd.move rfl) ?_
    refine SWl.rdg rfl rfl (rfl) rfl rfl (Rd.loadA 4 2 rfl rfl (by kernel_rfl) rfl trivial) ?_
    refine SWl.efg (S := []) rfl rfl (rfl) rfl (Ef.call (con_signOf hd1 hs1) rfl ⟨Le.refl _, trivial⟩ rfl) ?_
    rintro _ rfl
    refine SWl.rdg rfl rfl (rfl) rfl rfl (Rd.nei rfl rfl) ?_
    refine SWl.rd rfl (Rd.pickN rfl (rfl) rfl) ?_
    refine SWl.rd rfl (Rd.move rfl) ?_
    refine SWl.rdg rfl rfl (by decide) rfl rfl (Rd.loadA 5 2 rfl rfl (by kernel_rfl) rfl trivial) ?_
    refine SWl.efg (S := []) rfl rfl (by decide) rfl (Ef.call (con_signOf hd2 hs2) rfl ⟨Le.refl _, trivial⟩ rfl) ?_
    rintro _ rfl
    refine SWl.rdg rfl rfl (by decide) rfl rfl (Rd.nei rfl rfl) ?_
    refine SWl.rd rfl (Rd.pickN rfl (by decide) rfl) ?_
    refine SWl.nil ?_
    refine SN.then ?_
    refine SW.condF rfl (by decide) ?_
    refine SW.skip ?_
    refine SN.then ?_
    refine SW.seq ?_
    refine SW.sub (σ' := St.of [(4, isD (.pointer (some ⟨g4, 0, none⟩))), (26, isD (.pointer (some ⟨g26, 0, none⟩)))] [(g4, intC (y)), (g26, intC (dr x y))]) (⟨⟨_, rfl, ⟨⟨_, rfl, Le.refl _⟩, ⟨⟨_, rfl, Le.refl _⟩, trivial⟩⟩⟩, [1, 2], by decide, ⟨⟨_, rfl, LeAll.refl _⟩, ⟨⟨_, rfl, LeAll.refl _⟩, trivial⟩⟩⟩) ?_
    refine SW.draw [] (.r 0 (.n 1 (.r 2 (.r 3 (.r 4 (.r 6 (.n 5 (.n 7 (.r 8 (.r 9 (.r 10 (.n 11 (.r 12 (.r 13 .fin)) .no)))) .no) .no))))) .no)) (by kernel_rfl) (by kernel_rfl) (fun d _ _ _ _ h => by cases d <;> exact h) ?_
    refine SWz.rd (i := 0) rfl rfl (Rd.loadA 1 2 rfl rfl (by kernel_rfl) rfl trivial) ?_
    refine SWz.efn (i := 1) rfl (Ef.call (con_sign hr5) rfl ⟨Le.refl _, trivial⟩ rfl) ?_ SWz.no
    rintro _ rfl
    refine SWz.rd (i := 2) rfl rfl (Rd.eqi rfl rfl) ?_
    refine SWz.rd (i := 3) rfl rfl (Rd.move rfl) ?_
    refine SWz.split 266 rfl (fun hb266 => ?_) (fun hb266 => ?_)
    · skip
      refine SWz.off (i := 4) rfl rfl rfl (hb266) rfl rfl ?_
      refine SWz.off (i := 6) rfl rfl rfl (hb266) rfl rfl ?_
      refine SWz.offn (i := 5) rfl rfl rfl (hb266) rfl rfl ?_ SWz.no
      refine SWz.offn (i := 7) rfl rfl rfl (hb266) rfl rfl ?_ SWz.no
      refine SWz.off (i := 8) rfl rfl rfl (hb266) rfl rfl ?_
      refine SWz.rd (i := 9) rfl rfl (Rd.pickY rfl (hb266) rfl) ?_
      refine SWz.rd (i := 10) rfl rfl (Rd.move rfl) ?_
      refine SWz.efng (i := 11) rfl rfl rfl (rfl) rfl (Ef.call (con_known) rfl trivial rfl) ?_ SWz.no
      rintro _ rfl
      refine SWz.rd (i := 12) rfl rfl (Rd.pickY rfl (rfl) rfl) ?_
      refine SWz.rd (i := 13) rfl rfl (Rd.assign rfl) ?_
      refine SWz.nil ?_
      refine SN.then ?_
      refine SW.ret (fn := Try.f10) (fun _ _ h => h) (Rs.one rfl (ResV.tmp rfl))
    · skip
      refine SWz.rdg (i := 4) rfl rfl rfl (hb266) rfl rfl (Rd.loadA 1 2 rfl rfl (by kernel_rfl) rfl trivial) ?_
      refine SWz.rdg (i := 6) rfl rfl rfl (hb266) rfl rfl (Rd.loadA 0 2 rfl rfl (by kernel_rfl) rfl trivial) ?_
      refine SWz.efng (i := 5) rfl rfl rfl (hb266) rfl (Ef.call (con_sign hr5) rfl ⟨Le.refl _, trivial⟩ rfl) ?_ SWz.no
      rintro _ rfl
      refine SWz.efng (i := 7) rfl rfl rfl (hb266) rfl (Ef.call (con_sign hy5) rfl ⟨Le.refl _, trivial⟩ rfl) ?_ SWz.no
      rintro _ rfl
      refine SWz.rdg (i := 8) rfl rfl rfl (hb266) rfl rfl (Rd.eqi rfl rfl) ?_
      refine SWz.rd (i := 9) rfl rfl (Rd.pickN rfl (hb266) rfl) ?_
      refine SWz.rd (i := 10) rfl rfl (Rd.move rfl) ?_
      refine SWz.efng (i := 11) rfl rfl rfl (decide_eq_true (dr_sign hy0 (of_decide_eq_false hb266))) rfl (Ef.call (con_known) rfl trivial rfl) ?_ SWz.no
      rintro _ rfl
      refine SWz.rd (i := 12) rfl rfl (Rd.pickY rfl (decide_eq_true (dr_sign hy0 (of_decide_eq_false hb266))) rfl) ?_
      refine SWz.rd (i := 13) rfl rfl (Rd.assign rfl) ?_
      refine SWz.nil ?_
      refine SN.then ?_
      refine SW.ret (fn := Try.f10) (fun _ _ h => h) (Rs.one rfl (ResV.tmp rfl))
set_option maxHeartbeats 4000000 in
set_option maxRecDepth 100000 in
theorem ring_out {s t u : Bool} {b c d : List Nat} (h : (decide (b.length ≤ 28) && (decide (c.length ≤ 28) && (decide (d.length ≤ 28) && (vld s b && (vld t c && vld u d))))) = false) : Con Try.prog 10 [rintD s b, rintD t c, rintD u d] (boolD true) := by
  refine con_of Try.func10 (by kernel_rfl) rfl (by kernel_rfl) fun base w0 => ?_
  refine SW.seq ?_
  refine SW.region ?_
  refine SWl.ef (S := []) (Ef.boxA rfl rfl) ?_
  rintro _ ⟨g3, rfl⟩
  refine SWl.ef (S := []) (Ef.boxA rfl rfl) ?_
  rintro _ ⟨g4, rfl⟩
  refine SWl.ef (S := []) (Ef.boxA rfl rfl) ?_
  rintro _ ⟨g5, rfl⟩
  refine SWl.rd rfl (Rd.assign rfl) ?_
  refine SWl.nil ?_
  refine SN.then ?_
  refine SW.seq ?_
  refine SW.seq ?_
  refine SW.region ?_
  refine SWl.rd rfl (Rd.fieldAddr (n := 1) rfl (by kernel_rfl)) ?_
  refine SWl.rd rfl (Rd.loadB 0 rfl rfl rfl (by kernel_rfl) trivial) ?_
  refine SWl.rd rfl (Rd.len (e := 5) rfl (by kernel_rfl)) ?_
  refine SWl.rd rfl (Rd.gtr rfl rfl) ?_
  refine SWl.rd rfl (Rd.move rfl) ?_
  refine SWl.split 44 rfl (fun hb44 => ?_) (fun hb44 => ?_)
  · skip
    refine SWl.off rfl rfl (hb44) rfl rfl ?_
    refine SWl.off rfl rfl (hb44) rfl rfl ?_
    refine SWl.off rfl rfl (hb44) rfl rfl ?_
    refine SWl.off rfl rfl (hb44) rfl rfl ?_
    refine SWl.rd rfl (Rd.pickY rfl (hb44) rfl) ?_
    refine SWl.rd rfl (Rd.move rfl) ?_
    refine SWl.off rfl rfl (rfl) rfl rfl ?_
    refine SWl.off rfl rfl (rfl) rfl rfl ?_
    refine SWl.off rfl rfl (rfl) rfl rfl ?_
    refine SWl.off rfl rfl (rfl) rfl rfl ?_
    refine SWl.rd rfl (Rd.pickY rfl (rfl) rfl) ?_
    refine SWl.rd rfl (Rd.move rfl) ?_
    refine SWl.off rfl rfl (rfl) rfl rfl ?_
    refine SWl.off rfl rfl (rfl) rfl rfl ?_
    refine SWl.off rfl rfl (rfl) rfl rfl ?_
    refine SWl.rd rfl (Rd.pickY rfl (rfl) rfl) ?_
    refine SWl.rd rfl (Rd.move rfl) ?_
    refine SWl.off rfl rfl (rfl) rfl rfl ?_
    refine SWl.off rfl rfl (rfl) rfl rfl ?_
    refine SWl.off rfl rfl (rfl) rfl rfl ?_
    refine SWl.rd rfl (Rd.pickY rfl (rfl) rfl) ?_
    refine SWl.rd rfl (Rd.move rfl) ?_
    refine SWl.off rfl rfl (rfl) rfl rfl ?_
    refine SWl.off rfl rfl (rfl) rfl rfl ?_
    refine SWl.off rfl rfl (rfl) rfl rfl ?_
    refine SWl.rd rfl (Rd.pickY rfl (rfl) rfl) ?_
    refine SWl.nil ?_
    refine SN.then ?_
    refine SW.condT rfl (rfl) ?_
    refine SW.seq ?_
    refine SW.region ?_
    refine SWl.ef (S := []) (Ef.call (con_known) rfl trivial rfl) ?_
    rintro _ rfl
    refine SWl.rd rfl (Rd.assign rfl) ?_
    refine SWl.nil ?_
    refine SN.then ?_
    refine SW.ret (fn := Try.f10) (fun _ _ h => h) (Rs.one rfl (ResV.tmp rfl))
  · skip
    refine SWl.rdg rfl rfl (hb44) rfl rfl (Rd.fieldAddr (n := 1) rfl (by kernel_rfl)) ?_
    refine SWl.rdg rfl rfl (hb44) rfl rfl (Rd.loadB 1 rfl rfl rfl (by kernel_rfl) trivial) ?_
    refine SWl.rdg rfl rfl (hb44) rfl rfl (Rd.len (e := 5) rfl (by kernel_rfl)) ?_
    refine SWl.rdg rfl rfl (hb44) rfl rfl (Rd.gtr rfl rfl) ?_
    refine SWl.rd rfl (Rd.pickN rfl (hb44) rfl) ?_
    refine SWl.rd rfl (Rd.move rfl) ?_
    refine SWl.split 50 rfl (fun hb50 => ?_) (fun hb50 => ?_)
    · skip
      refine SWl.off rfl rfl (hb50) rfl rfl ?_
      refine SWl.off rfl rfl (hb50) rfl rfl ?_
      refine SWl.off rfl rfl (hb50) rfl rfl ?_
      refine SWl.off rfl rfl (hb50) rfl rfl ?_
      refine SWl.rd rfl (Rd.pickY rfl (hb50) rfl) ?_
      refine SWl.rd rfl (Rd.move rfl) ?_
      refine SWl.off rfl rfl (rfl) rfl rfl ?_
      refine SWl.off rfl rfl (rfl) rfl rfl ?_
      refine SWl.off rfl rfl (rfl) rfl rfl ?_
      refine SWl.rd rfl (Rd.pickY rfl (rfl) rfl) ?_
      refine SWl.rd rfl (Rd.move rfl) ?_
      refine SWl.off rfl rfl (rfl) rfl rfl ?_
      refine SWl.off rfl rfl (rfl) rfl rfl ?_
      refine SWl.off rfl rfl (rfl) rfl rfl ?_
      refine SWl.rd rfl (Rd.pickY rfl (rfl) rfl) ?_
      refine SWl.rd rfl (Rd.move rfl) ?_
      refine SWl.off rfl rfl (rfl) rfl rfl ?_
      refine SWl.off rfl rfl (rfl) rfl rfl ?_
      refine SWl.off rfl rfl (rfl) rfl rfl ?_
      refine SWl.rd rfl (Rd.pickY rfl (rfl) rfl) ?_
      refine SWl.nil ?_
      refine SN.then ?_
      refine SW.condT rfl (rfl) ?_
      refine SW.seq ?_
      refine SW.region ?_
      refine SWl.ef (S := []) (Ef.call (con_known) rfl trivial rfl) ?_
      rintro _ rfl
      refine SWl.rd rfl (Rd.assign rfl) ?_
      refine SWl.nil ?_
      refine SN.then ?_
      refine SW.ret (fn := Try.f10) (fun _ _ h => h) (Rs.one rfl (ResV.tmp rfl))
    · skip
      refine SWl.rdg rfl rfl (hb50) rfl rfl (Rd.fieldAddr (n := 1) rfl (by kernel_rfl)) ?_
      refine SWl.rdg rfl rfl (hb50) rfl rfl (Rd.loadB 2 rfl rfl rfl (by kernel_rfl) trivial) ?_
      refine SWl.rdg rfl rfl (hb50) rfl rfl (Rd.len (e := 5) rfl (by kernel_rfl)) ?_
      refine SWl.rdg rfl rfl (hb50) rfl rfl (Rd.gtr rfl rfl) ?_
      refine SWl.rd rfl (Rd.pickN rfl (hb50) rfl) ?_
      refine SWl.rd rfl (Rd.move rfl) ?_
      refine SWl.split 56 rfl (fun hb56 => ?_) (fun hb56 => ?_)
      · skip
        refine SWl.off rfl rfl (hb56) rfl rfl ?_
        refine SWl.off rfl rfl (hb56) rfl rfl ?_
        refine SWl.off rfl rfl (hb56) rfl rfl ?_
        refine SWl.rd rfl (Rd.pickY rfl (hb56) rfl) ?_
        refine SWl.rd rfl (Rd.move rfl) ?_
        refine SWl.off rfl rfl (rfl) rfl rfl ?_
        refine SWl.off rfl rfl (rfl) rfl rfl ?_
        refine SWl.off rfl rfl (rfl) rfl rfl ?_
        refine SWl.rd rfl (Rd.pickY rfl (rfl) rfl) ?_
        refine SWl.rd rfl (Rd.move rfl) ?_
        refine SWl.off rfl rfl (rfl) rfl rfl ?_
        refine SWl.off rfl rfl (rfl) rfl rfl ?_
        refine SWl.off rfl rfl (rfl) rfl rfl ?_
        refine SWl.rd rfl (Rd.pickY rfl (rfl) rfl) ?_
        refine SWl.nil ?_
        refine SN.then ?_
        refine SW.condT rfl (rfl) ?_
        refine SW.seq ?_
        refine SW.region ?_
        refine SWl.ef (S := []) (Ef.call (con_known) rfl trivial rfl) ?_
        rintro _ rfl
        refine SWl.rd rfl (Rd.assign rfl) ?_
        refine SWl.nil ?_
        refine SN.then ?_
        refine SW.ret (fn := Try.f10) (fun _ _ h => h) (Rs.one rfl (ResV.tmp rfl))
      · skip
        refine SWl.rdg rfl rfl (hb56) rfl rfl (Rd.loadA 0 2 rfl rfl (by kernel_rfl) rfl trivial) ?_
        refine SWl.efg (S := []) rfl rfl (hb56) rfl (Ef.call (con_validR _ _) rfl ⟨Le.refl _, trivial⟩ rfl) ?_
        rintro _ rfl
        refine SWl.rdg rfl rfl (hb56) rfl rfl (Rd.not rfl) ?_
        refine SWl.rd rfl (Rd.pickN rfl (hb56) rfl) ?_
        refine SWl.rd rfl (Rd.move rfl) ?_
        refine SWl.split 61 rfl (fun hb61 => ?_) (fun hb61 => ?_)
        · skip
          refine SWl.off rfl rfl (hb61) rfl rfl ?_
          refine SWl.off rfl rfl (hb61) rfl rfl ?_
          refine SWl.off rfl rfl (hb61) rfl rfl ?_
          refine SWl.rd rfl (Rd.pickY rfl (hb61) rfl) ?_
          refine SWl.rd rfl (Rd.move rfl) ?_
          refine SWl.off rfl rfl (rfl) rfl rfl ?_
          refine SWl.off rfl rfl (rfl) rfl rfl ?_
          refine SWl.off rfl rfl (rfl) rfl rfl ?_
          refine SWl.rd rfl (Rd.pickY rfl (rfl) rfl) ?_
          refine SWl.nil ?_
          refine SN.then ?_
          refine SW.condT rfl (rfl) ?_
          refine SW.seq ?_
          refine SW.region ?_
          refine SWl.ef (S := []) (Ef.call (con_known) rfl trivial rfl) ?_
          rintro _ rfl
          refine SWl.rd rfl (Rd.assign rfl) ?_
          refine SWl.nil ?_
          refine SN.then ?_
          refine SW.ret (fn := Try.f10) (fun _ _ h => h) (Rs.one rfl (ResV.tmp rfl))
        · skip
          refine SWl.rdg rfl rfl (hb61) rfl rfl (Rd.loadA 1 2 rfl rfl (by kernel_rfl) rfl trivial) ?_
          refine SWl.efg (S := []) rfl rfl (hb61) rfl (Ef.call (con_validR _ _) rfl ⟨Le.refl _, trivial⟩ rfl) ?_
          rintro _ rfl
          refine SWl.rdg rfl rfl (hb61) rfl rfl (Rd.not rfl) ?_
          refine SWl.rd rfl (Rd.pickN rfl (hb61) rfl) ?_
          refine SWl.rd rfl (Rd.move rfl) ?_
          refine SWl.split 66 rfl (fun hb66 => ?_) (fun hb66 => ?_)
          · skip
            refine SWl.off rfl rfl (hb66) rfl rfl ?_
            refine SWl.off rfl rfl (hb66) rfl rfl ?_
            refine SWl.off rfl rfl (hb66) rfl rfl ?_
            refine SWl.rd rfl (Rd.pickY rfl (hb66) rfl) ?_
            refine SWl.nil ?_
            refine SN.then ?_
            refine SW.condT rfl (rfl) ?_
            refine SW.seq ?_
            refine SW.region ?_
            refine SWl.ef (S := []) (Ef.call (con_known) rfl trivial rfl) ?_
            rintro _ rfl
            refine SWl.rd rfl (Rd.assign rfl) ?_
            refine SWl.nil ?_
            refine SN.then ?_
            refine SW.ret (fn := Try.f10) (fun _ _ h => h) (Rs.one rfl (ResV.tmp rfl))
          · skip
            refine SWl.rdg rfl rfl (hb66) rfl rfl (Rd.loadA 2 2 rfl rfl (by kernel_rfl) rfl trivial) ?_
            refine SWl.efg (S := []) rfl rfl (hb66) rfl (Ef.call (con_validR _ _) rfl ⟨Le.refl _, trivial⟩ rfl) ?_
            rintro _ rfl
            refine SWl.rdg rfl rfl (hb66) rfl rfl (Rd.not rfl) ?_
            refine SWl.rd rfl (Rd.pickN rfl (hb66) rfl) ?_
            refine SWl.nil ?_
            refine SN.then ?_
            refine SW.cond rfl (fun hb70 => ?_) (fun hb70 => ?_)
            · skip
              refine SW.seq ?_
              refine SW.region ?_
              refine SWl.ef (S := []) (Ef.call (con_known) rfl trivial rfl) ?_
              rintro _ rfl
              refine SWl.rd rfl (Rd.assign rfl) ?_
              refine SWl.nil ?_
              refine SN.then ?_
              refine SW.ret (fn := Try.f10) (fun _ _ h => h) (Rs.one rfl (ResV.tmp rfl))
            · exact absurd h (by simp only [cN_length] at *; simp_all; omega)
theorem numberRing_con (s : Bool) (b : List Nat) (hb : ∀ d ∈ b, d < 256) (t : Bool) (c : List Nat) (hc : ∀ d ∈ c, d < 256) (u : Bool) (d : List Nat) (hd : ∀ e ∈ d, e < 256) : Con Try.prog 10 [rintD s b, rintD t c, rintD u d] (boolD true) := by
  cases h : (decide (b.length ≤ 28) && (decide (c.length ≤ 28) && (decide (d.length ≤ 28) && (vld s b && (vld t c && vld u d)))))
  · exact ring_out h
  · simp only [Bool.and_eq_true, decide_eq_true_eq] at h
    obtain ⟨h1, h2, h3, v1, v2, v3⟩ := h
    obtain ⟨x, -, rfl, rfl⟩ := vld_out hb v1
    obtain ⟨y, -, rfl, rfl⟩ := vld_out hc v2
    obtain ⟨z, -, rfl, rfl⟩ := vld_out hd v3
    exact ring_in (len_p28 h1) (len_p28 h2) (len_p28 h3)
end Sx
end Go.Proofs.Ytddfphneidcibaa
