/-
  THE LAW NumberValid.
-/
import Derived.Test.YtddfphneidcibaaGL
import Derived.Test.YtddfphneidcibaaGateS
namespace Go.Proofs.Ytddfphneidcibaa
open Go.RowKit
open Nm (W32)
namespace Sx
theorem con_validF {s : Bool} {b : List Nat} (h : vld s b = false) : Con Try.prog 40 [rintD s b] (boolD false) := (con_validB _ _).mono ⟨Le.refl _, trivial⟩ (Le.is (by rw [h]))
theorem dg_least : (Nm.dg 256 (-9223372036854775808 : Int).natAbs).reverse = [128, 0, 0, 0, 0, 0, 0, 0] := by
  rw [show (-9223372036854775808 : Int).natAbs = 9223372036854775808 from rfl]
  iterate 8 rw [Nm.dg_pos (by decide) (by decide)]
  rw [show 9223372036854775808 / 256 / 256 / 256 / 256 / 256 / 256 / 256 / 256 = 0 from rfl, Nm.dg_zero]
  rfl
theorem dg_most : (Nm.dg 256 (9223372036854775807 : Int).natAbs).reverse = [127, 255, 255, 255, 255, 255, 255, 255] := by
  rw [show (9223372036854775807 : Int).natAbs = 9223372036854775807 from rfl]
  iterate 8 rw [Nm.dg_pos (by decide) (by decide)]
  rw [show 9223372036854775807 / 256 / 256 / 256 / 256 / 256 / 256 / 256 / 256 = 0 from rfl, Nm.dg_zero]
  rfl
theorem le_least : Le (aggD [isD (.bool true), slD [.int .u8 128, .int .u8 0, .int .u8 0, .int .u8 0, .int .u8 0, .int .u8 0, .int .u8 0, .int .u8 0]]) (intD (-9223372036854775808)) := by
  unfold intD intC bytD
  rw [dg_least]
  exact Le.refl _
theorem le_most : Le (aggD [isD (.bool false), slD [.int .u8 127, .int .u8 255, .int .u8 255, .int .u8 255, .int .u8 255, .int .u8 255, .int .u8 255, .int .u8 255]]) (intD 9223372036854775807) := by
  unfold intD intC bytD
  rw [dg_most]
  exact Le.refl _
theorem least4 : (-9223372036854775808 : Int).natAbs < b4 := b4_512 (by unfold big512; decide +kernel)
theorem most4 : (9223372036854775807 : Int).natAbs < b4 := b4_512 (by unfold big512; decide +kernel)
theorem cmpZ_lt {x y : Int} : cmpZ x y < 0 ↔ x < y := by
  unfold cmpZ
  split
  · omega
  · split <;> omega
theorem cmpZ_gt {x y : Int} : 0 < cmpZ x y ↔ y < x := by
  unfold cmpZ
  split
  · omega
  · split <;> omega
theorem out_lo {x : Int} (h : decide (cmpZ x (-9223372036854775808) < 0) = true) : valV x = 0 ∧ valE x = 3 := by
  have := cmpZ_lt.1 (of_decide_eq_true h)
  unfold valV valE
  rw [if_neg (by omega), if_neg (by omega)]
  exact ⟨rfl, rfl⟩
theorem out_hi {x : Int} (h : decide (0 < cmpZ x 9223372036854775807) = true) : valV x = 0 ∧ valE x = 3 := by
  have := cmpZ_gt.1 (of_decide_eq_true h)
  unfold valV valE
  rw [if_neg (by omega), if_neg (by omega)]
  exact ⟨rfl, rfl⟩
theorem in_rng {x : Int} (h : decide (cmpZ x (-9223372036854775808) < 0) = false) (k : decide (0 < cmpZ x 9223372036854775807) = false) : valV x = x ∧ valE x = 0 ∧ -9223372036854775808 ≤ valV x ∧ valV x ≤ 9223372036854775807 := by
  have h1 : ¬ x < -9223372036854775808 := fun hh => of_decide_eq_false h (cmpZ_lt.2 hh)
  have h2 : ¬ 9223372036854775807 < x := fun hh => of_decide_eq_false k (cmpZ_gt.2 hh)
  unfold valV valE
  rw [if_pos (by omega), if_pos (by omega)]
  exact ⟨rfl, rfl, by omega, by omega⟩
theorem sign_cmp (x : Int) : x.sign = cmpZ x 0 := by
  unfold cmpZ
  by_cases h : x < 0
  · rw [if_pos h]; exact Int.sign_eq_neg_one_of_neg h
  · rw [if_neg h]
    by_cases h0 : x = 0
    · rw [if_pos h0, h0]; rfl
    · rw [if_neg h0]; exact Int.sign_eq_one_of_pos (by omega)
theorem zero4 : (0 : Int).natAbs < b4 := b4_512 (by unfold big512; decide +kernel)
set_option maxHeartbeats 4000000 in
set_option maxRecDepth 100000 in
theorem valid_valid {x : Int} (hx : x.natAbs < big512) : Con Try.prog 8 [intD x] (boolD true) := by
  have hx4 := b4_512 hx
  refine con_of Try.func8 (by kernel_rfl) rfl (by kernel_rfl) fun base w0 => ?_
  refine SW.seq ?_
  refine SW.region ?_
  refine SWl.ef (S := []) (Ef.boxA rfl rfl) ?_
  rintro _ ⟨g1, rfl⟩
  refine SWl.rd rfl (Rd.assign rfl) ?_
  refine SWl.nil ?_
  refine SN.then ?_
  refine SW.seq ?_
  refine SW.seq ?_
  refine SW.region ?_
  refine SWl.rd rfl (Rd.loadA 0 2 rfl rfl (by kernel_rfl) rfl trivial) ?_
  refine SWl.ef (S := []) (Ef.litR rfl rfl blsI1 rfl) ?_
  rintro _ rfl
  refine SWl.ef (S := []) (Ef.call (con_big [(decide (x < 0), (Nm.dg 256 x.natAbs).reverse)] (by simp)) rfl ⟨Le.refl _, trivial⟩ rfl) ?_
  rintro _ rfl
  refine SWl.nil ?_
  refine SN.then ?_
  refine SW.condF rfl (any1_int hx) ?_
  refine SW.skip ?_
  refine SN.then ?_
  refine SW.seq ?_
  refine SW.region ?_
  refine SWl.rd rfl (Rd.loadA 0 2 rfl rfl (by kernel_rfl) rfl trivial) ?_
  refine SWl.ef (S := []) (Ef.call (con_validRT hx) rfl ⟨Le.refl _, trivial⟩ rfl) ?_
  rintro _ rfl
  refine SWl.rd rfl (Rd.assign rfl) ?_
  refine SWl.nil ?_
  refine SN.then ?_
  refine SW.seq ?_
  refine SW.region ?_
  refine SWl.rd rfl (Rd.loadA 0 2 rfl rfl (by kernel_rfl) rfl trivial) ?_
  refine SWl.ef (S := []) (Ef.call (con_value hx) rfl ⟨Le.refl _, trivial⟩ rfl) ?_
  rintro _ rfl
  refine SWl.rd rfl (Rd.move rfl) ?_
  refine SWl.rd rfl (Rd.extract rfl rfl) ?_
  refine SWl.rd rfl (Rd.extract rfl rfl) ?_
  refine SWl.rd rfl (Rd.assign rfl) ?_
  refine SWl.rd rfl (Rd.assign rfl) ?_
  refine SWl.nil ?_
  refine SN.then ?_
  refine SW.seq ?_
  refine SW.region ?_
  refine SWl.rd rfl (Rd.loadA 0 2 rfl rfl (by kernel_rfl) rfl trivial) ?_
  refine SWl.ef (S := []) (Ef.call (con_neg hx) rfl ⟨Le.refl _, trivial⟩ rfl) ?_
  rintro _ rfl
  refine SWl.rd rfl (Rd.move rfl) ?_
  refine SWl.rd rfl (Rd.extract rfl rfl) ?_
  refine SWl.rd rfl (Rd.extract rfl rfl) ?_
  refine SWl.ef (S := []) (Ef.alloc (zs := [.bool false, .slice none 0 0]) (by kernel_rfl) rfl) ?_
  rintro _ ⟨g6, rfl⟩
  refine SWl.ef (S := [_]) (Ef.storeA 1 rfl rfl rfl (by kernel_rfl) rfl (List.mem_singleton.2 rfl)) ?_
  rintro _ rfl
  refine SWl.rd rfl (Rd.assign rfl) ?_
  refine SWl.nil ?_
  refine SN.then ?_
  refine SW.seq ?_
  refine SW.seq ?_
  refine SW.region ?_
  refine SWl.rd rfl (Rd.loadA 0 2 rfl rfl (by kernel_rfl) rfl trivial) ?_
  refine SWl.ef (S := []) (Ef.call (con_valid hx) rfl ⟨Le.refl _, trivial⟩ rfl) ?_
  rintro _ rfl
  refine SWl.rd rfl (Rd.move rfl) ?_
  refine SWl.rd rfl (Rd.neb (by kernel_rfl) rfl rfl) ?_
  refine SWl.nil ?_
  refine SN.then ?_
  refine SW.condF rfl (rfl) ?_
  refine SW.skip ?_
  refine SN.then ?_
  refine SW.seq ?_
  refine SW.seq ?_
  refine SW.region ?_
  refine SWl.rd rfl (Rd.move rfl) ?_
  refine SWl.rd rfl (Rd.not rfl) ?_
  refine SWl.nil ?_
  refine SN.then ?_
  refine SW.condF rfl (rfl) ?_
  refine SW.skip ?_
  refine SN.then ?_
  refine SW.seq ?_
  refine SW.region ?_
  refine SWl.ef (S := []) (Ef.lit (xs := [.int .u8 128, .int .u8 0, .int .u8 0, .int .u8 0, .int .u8 0, .int .u8 0, .int .u8 0, .int .u8 0]) (e := 5) rfl rfl (fun w => by kernel_rfl)) ?_
  rintro _ rfl
  refine SWl.rd rfl (Rd.build rfl rfl bldI2) ?_
  refine SWl.ef (S := []) (Ef.lit (xs := [.int .u8 127, .int .u8 255, .int .u8 255, .int .u8 255, .int .u8 255, .int .u8 255, .int .u8 255, .int .u8 255]) (e := 5) rfl rfl (fun w => by kernel_rfl)) ?_
  rintro _ rfl
  refine SWl.rd rfl (Rd.build rfl rfl bldI1) ?_
  refine SWl.ef (S := []) (Ef.alloc (zs := [.bool false, .slice none 0 0]) (by kernel_rfl) rfl) ?_
  rintro _ ⟨g8, rfl⟩
  refine SWl.ef (S := []) (Ef.alloc (zs := [.bool false, .slice none 0 0]) (by kernel_rfl) rfl) ?_
  rintro _ ⟨g9, rfl⟩
  refine SWl.ef (S := [_]) (Ef.storeA 2 rfl rfl rfl (by kernel_rfl) rfl (List.mem_singleton.2 rfl)) ?_
  rintro _ rfl
  refine SWl.ef (S := [_]) (Ef.storeA 3 rfl rfl rfl (by kernel_rfl) rfl (List.mem_singleton.2 rfl)) ?_
  rintro _ rfl
  refine SWl.nil ?_
  refine SN.then ?_
  refine SW.seq ?_
  refine SW.seq ?_
  refine SW.region ?_
  refine SWl.rd rfl (Rd.loadA 0 2 rfl rfl (by kernel_rfl) rfl trivial) ?_
  refine SWl.rd rfl (Rd.loadA 2 2 rfl rfl (by kernel_rfl) rfl trivial) ?_
  refine SWl.ef (S := []) (Ef.call (con_compareR hx4 least4) rfl ⟨Le.refl _, le_least, trivial⟩ rfl) ?_
  rintro _ rfl
  refine SWl.rd rfl (Rd.lss rfl rfl) ?_
  refine SWl.rd rfl (Rd.move rfl) ?_
  refine SWl.split 70 rfl (fun hb70 => ?_) (fun hb70 => ?_)
  · have hout := out_lo hb70
    refine SWl.off rfl rfl (hb70) rfl rfl ?_
    refine SWl.off rfl rfl (hb70) rfl rfl ?_
    refine SWl.off rfl rfl (hb70) rfl rfl ?_
    refine SWl.off rfl rfl (hb70) rfl rfl ?_
    refine SWl.rd rfl (Rd.pickY rfl (hb70) rfl) ?_
    refine SWl.nil ?_
    refine SN.then ?_
    refine SW.condT rfl (rfl) ?_
    refine SW.seq ?_
    refine SW.region ?_
    refine SWl.rd rfl (Rd.move rfl) ?_
    refine SWl.rd rfl (Rd.nei rfl rfl) ?_
    refine SWl.rd rfl (Rd.move rfl) ?_
    refine SWl.rdg rfl rfl (by rw [hout.1]; rfl) rfl rfl (Rd.move rfl) ?_
    refine SWl.rdg rfl rfl (by rw [hout.1]; rfl) rfl rfl (Rd.nei rfl rfl) ?_
    refine SWl.rd rfl (Rd.pickN rfl (by rw [hout.1]; rfl) rfl) ?_
    refine SWl.nil ?_
    refine SN.then ?_
    refine SW.condF rfl (by rw [hout.2]; rfl) ?_
    refine SW.skip ?_
    refine SN.then ?_
    refine SW.seq ?_
    refine SW.draw [] (.r 0 (.r 2 (.r 3 (.n 1 (.n 4 (.r 5 (.r 6 (.r 7 (.r 8 (.r 9 (.n 10 (.n 11 (.r 12 (.r 13 (.n 14 (.r 15 (.r 16 .fin)) .no))) .no) .no)))))) .no) .no)))) (by kernel_rfl) (by kernel_rfl) (fun d _ _ _ _ h => by cases d <;> exact h) ?_
    refine SWz.rd (i := 0) rfl rfl (Rd.loadA 0 2 rfl rfl (by kernel_rfl) rfl trivial) ?_
    refine SWz.rd (i := 2) rfl rfl (Rd.loadA 0 2 rfl rfl (by kernel_rfl) rfl trivial) ?_
    refine SWz.rd (i := 3) rfl rfl (Rd.build rfl rfl bldI0) ?_
    refine SWz.efn (i := 1) rfl (Ef.call (con_sign hx) rfl ⟨Le.refl _, trivial⟩ rfl) ?_ SWz.no
    rintro _ rfl
    refine SWz.efn (i := 4) rfl (Ef.call (con_compareR hx4 zero4) rfl ⟨Le.refl _, le_int0, trivial⟩ rfl) ?_ SWz.no
    rintro _ rfl
    refine SWz.rd (i := 5) rfl rfl (Rd.eqi rfl rfl) ?_
    refine SWz.rd (i := 6) rfl rfl (Rd.move rfl) ?_
    refine SWz.rdg (i := 7) rfl rfl rfl (decide_eq_true (sign_cmp x)) rfl rfl (Rd.loadA 1 2 rfl rfl (by kernel_rfl) rfl trivial) ?_
    refine SWz.rdg (i := 8) rfl rfl rfl (decide_eq_true (sign_cmp x)) rfl rfl (Rd.move rfl) ?_
    refine SWz.rdg (i := 9) rfl rfl rfl (decide_eq_true (sign_cmp x)) rfl rfl (Rd.loadA 0 2 rfl rfl (by kernel_rfl) rfl trivial) ?_
    refine SWz.efng (i := 10) rfl rfl rfl (decide_eq_true (sign_cmp x)) rfl (Ef.call (con_negR hx4) rfl ⟨Le.refl _, trivial⟩ rfl) ?_ SWz.no
    rintro _ rfl
    refine SWz.efng (i := 11) rfl rfl rfl (decide_eq_true (sign_cmp x)) rfl (Ef.call (con_sameL rfl rfl) rfl ⟨Le.refl _, Le.refl _, Le.refl _, Le.refl _, trivial⟩ rfl) ?_ SWz.no
    rintro _ rfl
    refine SWz.rd (i := 12) rfl rfl (Rd.pickY rfl (decide_eq_true (sign_cmp x)) rfl) ?_
    refine SWz.rd (i := 13) rfl rfl (Rd.move rfl) ?_
    refine SWz.efng (i := 14) rfl rfl rfl (rfl) rfl (Ef.call (con_known) rfl trivial rfl) ?_ SWz.no
    rintro _ rfl
    refine SWz.rd (i := 15) rfl rfl (Rd.pickY rfl (rfl) rfl) ?_
    refine SWz.rd (i := 16) rfl rfl (Rd.assign rfl) ?_
    refine SWz.nil ?_
    refine SN.then ?_
    refine SW.ret (fn := Try.f8) (fun _ _ h => h) (Rs.one rfl (ResV.tmp rfl))
  · skip
    refine SWl.rdg rfl rfl (hb70) rfl rfl (Rd.loadA 0 2 rfl rfl (by kernel_rfl) rfl trivial) ?_
    refine SWl.rdg rfl rfl (hb70) rfl rfl (Rd.loadA 3 2 rfl rfl (by kernel_rfl) rfl trivial) ?_
    refine SWl.efg (S := []) rfl rfl (hb70) rfl (Ef.call (con_compareR hx4 most4) rfl ⟨Le.refl _, le_most, trivial⟩ rfl) ?_
    rintro _ rfl
    refine SWl.rdg rfl rfl (hb70) rfl rfl (Rd.gtr rfl rfl) ?_
    refine SWl.rd rfl (Rd.pickN rfl (hb70) rfl) ?_
    refine SWl.nil ?_
    refine SN.then ?_
    refine SW.cond rfl (fun hb75 => ?_) (fun hb75 => ?_)
    · have hout := out_hi hb75
      refine SW.seq ?_
      refine SW.region ?_
      refine SWl.rd rfl (Rd.move rfl) ?_
      refine SWl.rd rfl (Rd.nei rfl rfl) ?_
      refine SWl.rd rfl (Rd.move rfl) ?_
      refine SWl.rdg rfl rfl (by rw [hout.1]; rfl) rfl rfl (Rd.move rfl) ?_
      refine SWl.rdg rfl rfl (by rw [hout.1]; rfl) rfl rfl (Rd.nei rfl rfl) ?_
      refine SWl.rd rfl (Rd.pickN rfl (by rw [hout.1]; rfl) rfl) ?_
      refine SWl.nil ?_
      refine SN.then ?_
      refine SW.condF rfl (by rw [hout.2]; rfl) ?_
      refine SW.skip ?_
      refine SN.then ?_
      refine SW.seq ?_
      refine SW.draw [] (.r 0 (.r 2 (.r 3 (.n 1 (.n 4 (.r 5 (.r 6 (.r 7 (.r 8 (.r 9 (.n 10 (.n 11 (.r 12 (.r 13 (.n 14 (.r 15 (.r 16 .fin)) .no))) .no) .no)))))) .no) .no)))) (by kernel_rfl) (by kernel_rfl) (fun d _ _ _ _ h => by cases d <;> exact h) ?_
      refine SWz.rd (i := 0) rfl rfl (Rd.loadA 0 2 rfl rfl (by kernel_rfl) rfl trivial) ?_
      refine SWz.rd (i := 2) rfl rfl (Rd.loadA 0 2 rfl rfl (by kernel_rfl) rfl trivial) ?_
      refine SWz.rd (i := 3) rfl rfl (Rd.build rfl rfl bldI0) ?_
      refine SWz.efn (i := 1) rfl (Ef.call (con_sign hx) rfl ⟨Le.refl _, trivial⟩ rfl) ?_ SWz.no
      rintro _ rfl
      refine SWz.efn (i := 4) rfl (Ef.call (con_compareR hx4 zero4) rfl ⟨Le.refl _, le_int0, trivial⟩ rfl) ?_ SWz.no
      rintro _ rfl
      refine SWz.rd (i := 5) rfl rfl (Rd.eqi rfl rfl) ?_
      refine SWz.rd (i := 6) rfl rfl (Rd.move rfl) ?_
      refine SWz.rdg (i := 7) rfl rfl rfl (decide_eq_true (sign_cmp x)) rfl rfl (Rd.loadA 1 2 rfl rfl (by kernel_rfl) rfl trivial) ?_
      refine SWz.rdg (i := 8) rfl rfl rfl (decide_eq_true (sign_cmp x)) rfl rfl (Rd.move rfl) ?_
      refine SWz.rdg (i := 9) rfl rfl rfl (decide_eq_true (sign_cmp x)) rfl rfl (Rd.loadA 0 2 rfl rfl (by kernel_rfl) rfl trivial) ?_
      refine SWz.efng (i := 10) rfl rfl rfl (decide_eq_true (sign_cmp x)) rfl (Ef.call (con_negR hx4) rfl ⟨Le.refl _, trivial⟩ rfl) ?_ SWz.no
      rintro _ rfl
      refine SWz.efng (i := 11) rfl rfl rfl (decide_eq_true (sign_cmp x)) rfl (Ef.call (con_sameL rfl rfl) rfl ⟨Le.refl _, Le.refl _, Le.refl _, Le.refl _, trivial⟩ rfl) ?_ SWz.no
      rintro _ rfl
      refine SWz.rd (i := 12) rfl rfl (Rd.pickY rfl (decide_eq_true (sign_cmp x)) rfl) ?_
      refine SWz.rd (i := 13) rfl rfl (Rd.move rfl) ?_
      refine SWz.efng (i := 14) rfl rfl rfl (rfl) rfl (Ef.call (con_known) rfl trivial rfl) ?_ SWz.no
      rintro _ rfl
      refine SWz.rd (i := 15) rfl rfl (Rd.pickY rfl (rfl) rfl) ?_
      refine SWz.rd (i := 16) rfl rfl (Rd.assign rfl) ?_
      refine SWz.nil ?_
      refine SN.then ?_
      refine SW.ret (fn := Try.f8) (fun _ _ h => h) (Rs.one rfl (ResV.tmp rfl))
    · have hin := in_rng hb70 hb75
      refine SW.seq ?_
      refine SW.draw [] (.r 0 (.r 1 (.r 2 (.r 3 (.r 5 (.n 4 (.n 6 (.r 7 (.r 8 .fin)) .no) .no)))))) (by kernel_rfl) (by kernel_rfl) (fun d _ _ _ _ h => by cases d <;> exact h) ?_
      refine SWz.rd (i := 0) rfl rfl (Rd.move rfl) ?_
      refine SWz.rd (i := 1) rfl rfl (Rd.nei rfl rfl) ?_
      refine SWz.rd (i := 2) rfl rfl (Rd.move rfl) ?_
      refine SWz.rdg (i := 3) rfl rfl rfl (by rw [hin.2.1]; rfl) rfl rfl (Rd.move rfl) ?_
      refine SWz.rdg (i := 5) rfl rfl rfl (by rw [hin.2.1]; rfl) rfl rfl (Rd.loadA 0 2 rfl rfl (by kernel_rfl) rfl trivial) ?_
      refine SWz.efng (i := 4) rfl rfl rfl (by rw [hin.2.1]; rfl) rfl (Ef.call (con_ofR hin.2.2.1 hin.2.2.2) rfl ⟨Le.refl _, trivial⟩ rfl) ?_ SWz.no
      rintro _ rfl
      refine SWz.efng (i := 6) rfl rfl rfl (by rw [hin.2.1]; rfl) rfl (Ef.call (con_same) rfl ⟨Le.refl _, Le.refl _, trivial⟩ rfl) ?_ SWz.no
      rintro _ rfl
      refine SWz.rdg (i := 7) rfl rfl rfl (by rw [hin.2.1]; rfl) rfl rfl (Rd.not rfl) ?_
      refine SWz.rd (i := 8) rfl rfl (Rd.pickN rfl (by rw [hin.2.1]; rfl) rfl) ?_
      refine SWz.nil ?_
      refine SN.then ?_
      refine SW.condF rfl (by rw [hin.1]; simp) ?_
      refine SW.skip ?_
      refine SN.then ?_
      refine SW.seq ?_
      refine SW.draw [] (.r 0 (.r 2 (.r 3 (.n 1 (.n 4 (.r 5 (.r 6 (.r 7 (.r 8 (.r 9 (.n 10 (.n 11 (.r 12 (.r 13 (.n 14 (.r 15 (.r 16 .fin)) .no))) .no) .no)))))) .no) .no)))) (by kernel_rfl) (by kernel_rfl) (fun d _ _ _ _ h => by cases d <;> exact h) ?_
      refine SWz.rd (i := 0) rfl rfl (Rd.loadA 0 2 rfl rfl (by kernel_rfl) rfl trivial) ?_
      refine SWz.rd (i := 2) rfl rfl (Rd.loadA 0 2 rfl rfl (by kernel_rfl) rfl trivial) ?_
      refine SWz.rd (i := 3) rfl rfl (Rd.build rfl rfl bldI0) ?_
      refine SWz.efn (i := 1) rfl (Ef.call (con_sign hx) rfl ⟨Le.refl _, trivial⟩ rfl) ?_ SWz.no
      rintro _ rfl
      refine SWz.efn (i := 4) rfl (Ef.call (con_compareR hx4 zero4) rfl ⟨Le.refl _, le_int0, trivial⟩ rfl) ?_ SWz.no
      rintro _ rfl
      refine SWz.rd (i := 5) rfl rfl (Rd.eqi rfl rfl) ?_
      refine SWz.rd (i := 6) rfl rfl (Rd.move rfl) ?_
      refine SWz.rdg (i := 7) rfl rfl rfl (decide_eq_true (sign_cmp x)) rfl rfl (Rd.loadA 1 2 rfl rfl (by kernel_rfl) rfl trivial) ?_
      refine SWz.rdg (i := 8) rfl rfl rfl (decide_eq_true (sign_cmp x)) rfl rfl (Rd.move rfl) ?_
      refine SWz.rdg (i := 9) rfl rfl rfl (decide_eq_true (sign_cmp x)) rfl rfl (Rd.loadA 0 2 rfl rfl (by kernel_rfl) rfl trivial) ?_
      refine SWz.efng (i := 10) rfl rfl rfl (decide_eq_true (sign_cmp x)) rfl (Ef.call (con_negR hx4) rfl ⟨Le.refl _, trivial⟩ rfl) ?_ SWz.no
      rintro _ rfl
      refine SWz.efng (i := 11) rfl rfl rfl (decide_eq_true (sign_cmp x)) rfl (Ef.call (con_sameL rfl rfl) rfl ⟨Le.refl _, Le.refl _, Le.refl _, Le.refl _, trivial⟩ rfl) ?_ SWz.no
      rintro _ rfl
      refine SWz.rd (i := 12) rfl rfl (Rd.pickY rfl (decide_eq_true (sign_cmp x)) rfl) ?_
      refine SWz.rd (i := 13) rfl rfl (Rd.move rfl) ?_
      refine SWz.efng (i := 14) rfl rfl rfl (rfl) rfl (Ef.call (con_known) rfl trivial rfl) ?_ SWz.no
      rintro _ rfl
      refine SWz.rd (i := 15) rfl rfl (Rd.pickY rfl (rfl) rfl) ?_
      refine SWz.rd (i := 16) rfl rfl (Rd.assign rfl) ?_
      refine SWz.nil ?_
      refine SN.then ?_
      refine SW.ret (fn := Try.f8) (fun _ _ h => h) (Rs.one rfl (ResV.tmp rfl))
set_option maxHeartbeats 4000000 in
set_option maxRecDepth 100000 in
theorem valid_bad {s : Bool} {b : List Nat} (h : anyB [(s, b)] = false) (hv : vld s b = false) : Con Try.prog 8 [rintD s b] (boolD true) := by
  refine con_of Try.func8 (by kernel_rfl) rfl (by kernel_rfl) fun base w0 => ?_
  refine SW.seq ?_
  refine SW.region ?_
  refine SWl.ef (S := []) (Ef.boxA rfl rfl) ?_
  rintro _ ⟨g1, rfl⟩
  refine SWl.rd rfl (Rd.assign rfl) ?_
  refine SWl.nil ?_
  refine SN.then ?_
  refine SW.seq ?_
  refine SW.seq ?_
  refine SW.region ?_
  refine SWl.rd rfl (Rd.loadA 0 2 rfl rfl (by kernel_rfl) rfl trivial) ?_
  refine SWl.ef (S := []) (Ef.litR rfl rfl blsI1 rfl) ?_
  rintro _ rfl
  refine SWl.ef (S := []) (Ef.call (con_big [(_, _)] (by simp)) rfl ⟨Le.refl _, trivial⟩ rfl) ?_
  rintro _ rfl
  refine SWl.nil ?_
  refine SN.then ?_
  refine SW.condF rfl (h) ?_
  refine SW.skip ?_
  refine SN.then ?_
  refine SW.seq ?_
  refine SW.region ?_
  refine SWl.rd rfl (Rd.loadA 0 2 rfl rfl (by kernel_rfl) rfl trivial) ?_
  refine SWl.ef (S := []) (Ef.call (con_validRF hv) rfl ⟨Le.refl _, trivial⟩ rfl) ?_
  rintro _ rfl
  refine SWl.rd rfl (Rd.assign rfl) ?_
  refine SWl.nil ?_
  refine SN.then ?_
  refine SW.seq ?_
  refine SW.region ?_
  refine SWl.rd rfl (Rd.loadA 0 2 rfl rfl (by kernel_rfl) rfl trivial) ?_
  refine SWl.ef (S := []) (Ef.call (con_valueB hv) rfl ⟨Le.refl _, trivial⟩ rfl) ?_
  rintro _ rfl
  refine SWl.rd rfl (Rd.move rfl) ?_
  refine SWl.rd rfl (Rd.extract rfl rfl) ?_
  refine SWl.rd rfl (Rd.extract rfl rfl) ?_
  refine SWl.rd rfl (Rd.assign rfl) ?_
  refine SWl.rd rfl (Rd.assign rfl) ?_
  refine SWl.nil ?_
  refine SN.then ?_
  refine SW.seq ?_
  refine SW.region ?_
  refine SWl.rd rfl (Rd.loadA 0 2 rfl rfl (by kernel_rfl) rfl trivial) ?_
  refine SWl.ef (S := []) (Ef.call (con_negB hv) rfl ⟨Le.refl _, trivial⟩ rfl) ?_
  rintro _ rfl
  refine SWl.rd rfl (Rd.move rfl) ?_
  refine SWl.rd rfl (Rd.extract rfl rfl) ?_
  refine SWl.rd rfl (Rd.extract rfl rfl) ?_
  refine SWl.ef (S := []) (Ef.alloc (zs := [.bool false, .slice none 0 0]) (by kernel_rfl) rfl) ?_
  rintro _ ⟨g6, rfl⟩
  refine SWl.ef (S := [_]) (Ef.storeA 1 rfl rfl rfl (by kernel_rfl) rfl (List.mem_singleton.2 rfl)) ?_
  rintro _ rfl
  refine SWl.rd rfl (Rd.assign rfl) ?_
  refine SWl.nil ?_
  refine SN.then ?_
  refine SW.seq ?_
  refine SW.seq ?_
  refine SW.region ?_
  refine SWl.rd rfl (Rd.loadA 0 2 rfl rfl (by kernel_rfl) rfl trivial) ?_
  refine SWl.ef (S := []) (Ef.call (con_validF hv) rfl ⟨Le.refl _, trivial⟩ rfl) ?_
  rintro _ rfl
  refine SWl.rd rfl (Rd.move rfl) ?_
  refine SWl.rd rfl (Rd.neb (by kernel_rfl) rfl rfl) ?_
  refine SWl.nil ?_
  refine SN.then ?_
  refine SW.condF rfl (rfl) ?_
  refine SW.skip ?_
  refine SN.then ?_
  refine SW.seq ?_
  refine SW.seq ?_
  refine SW.region ?_
  refine SWl.rd rfl (Rd.move rfl) ?_
  refine SWl.rd rfl (Rd.not rfl) ?_
  refine SWl.nil ?_
  refine SN.then ?_
  refine SW.condT rfl (rfl) ?_
  refine SW.seq ?_
  refine SW.region ?_
  refine SWl.rd rfl (Rd.loadA 0 2 rfl rfl (by kernel_rfl) rfl trivial) ?_
  refine SWl.ef (S := []) (Ef.call (con_signB hv) rfl ⟨Le.refl _, trivial⟩ rfl) ?_
  rintro _ rfl
  refine SWl.rd rfl (Rd.eqi rfl rfl) ?_
  refine SWl.rd rfl (Rd.move rfl) ?_
  refine SWl.rdg rfl rfl (decide_eq_true rfl) rfl rfl (Rd.move rfl) ?_
  refine SWl.rdg rfl rfl (decide_eq_true rfl) rfl rfl (Rd.eqi rfl rfl) ?_
  refine SWl.rd rfl (Rd.pickY rfl (decide_eq_true rfl) rfl) ?_
  refine SWl.rd rfl (Rd.move rfl) ?_
  refine SWl.rdg rfl rfl (decide_eq_true rfl) rfl rfl (Rd.move rfl) ?_
  refine SWl.rdg rfl rfl (decide_eq_true rfl) rfl rfl (Rd.eqi rfl rfl) ?_
  refine SWl.rd rfl (Rd.pickY rfl (decide_eq_true rfl) rfl) ?_
  refine SWl.rd rfl (Rd.move rfl) ?_
  refine SWl.rdg rfl rfl (decide_eq_true rfl) rfl rfl (Rd.loadA 1 2 rfl rfl (by kernel_rfl) rfl trivial) ?_
  refine SWl.rdg rfl rfl (decide_eq_true rfl) rfl rfl (Rd.move rfl) ?_
  refine SWl.rdg rfl rfl (decide_eq_true rfl) rfl rfl (Rd.build rfl rfl bldI0) ?_
  refine SWl.efg (S := []) rfl rfl (decide_eq_true rfl) rfl (Ef.call (con_sameL rfl rfl) rfl ⟨Le.refl _, Le.refl _, le_int0, Le.refl _, trivial⟩ rfl) ?_
  rintro _ rfl
  refine SWl.rd rfl (Rd.pickY rfl (decide_eq_true rfl) rfl) ?_
  refine SWl.rd rfl (Rd.move rfl) ?_
  refine SWl.rdg rfl rfl (rfl) rfl rfl (Rd.loadA 0 2 rfl rfl (by kernel_rfl) rfl trivial) ?_
  refine SWl.efg (S := []) rfl rfl (rfl) rfl (Ef.call (con_digits10B hv) rfl ⟨Le.refl _, trivial⟩ rfl) ?_
  rintro _ rfl
  refine SWl.rdg rfl rfl (rfl) rfl rfl (Rd.eqi rfl rfl) ?_
  refine SWl.rd rfl (Rd.pickY rfl (rfl) rfl) ?_
  refine SWl.rd rfl (Rd.move rfl) ?_
  refine SWl.rdg rfl rfl (decide_eq_true rfl) rfl rfl (Rd.loadA 0 2 rfl rfl (by kernel_rfl) rfl trivial) ?_
  refine SWl.efg (S := []) rfl rfl (decide_eq_true rfl) rfl (Ef.call (con_textB hv) rfl ⟨Le.refl _, trivial⟩ rfl) ?_
  rintro _ rfl
  refine SWl.rdg rfl rfl (decide_eq_true rfl) rfl rfl (Rd.eqs  rfl rfl) ?_
  refine SWl.rd rfl (Rd.pickY rfl (decide_eq_true rfl) rfl) ?_
  refine SWl.rd rfl (Rd.move rfl) ?_
  refine SWl.efg (S := []) rfl rfl (decide_eq_true rfl) rfl (Ef.call (con_known) rfl trivial rfl) ?_
  rintro _ rfl
  refine SWl.rd rfl (Rd.pickY rfl (decide_eq_true rfl) rfl) ?_
  refine SWl.rd rfl (Rd.assign rfl) ?_
  refine SWl.nil ?_
  refine SN.then ?_
  refine SW.ret (fn := Try.f8) (fun _ _ h => h) (Rs.one rfl (ResV.tmp rfl))
set_option maxHeartbeats 4000000 in
set_option maxRecDepth 100000 in
theorem valid_big {s : Bool} {b : List Nat} (h : anyB [(s, b)] = true) : Con Try.prog 8 [rintD s b] (boolD true) := by
  refine con_of Try.func8 (by kernel_rfl) rfl (by kernel_rfl) fun base w0 => ?_
  refine SW.seq ?_
  refine SW.region ?_
  refine SWl.ef (S := []) (Ef.boxA rfl rfl) ?_
  rintro _ ⟨g1, rfl⟩
  refine SWl.rd rfl (Rd.assign rfl) ?_
  refine SWl.nil ?_
  refine SN.then ?_
  refine SW.seq ?_
  refine SW.seq ?_
  refine SW.region ?_
  refine SWl.rd rfl (Rd.loadA 0 2 rfl rfl (by kernel_rfl) rfl trivial) ?_
  refine SWl.ef (S := []) (Ef.litR rfl rfl blsI1 rfl) ?_
  rintro _ rfl
  refine SWl.ef (S := []) (Ef.call (con_big [(_, _)] (by simp)) rfl ⟨Le.refl _, trivial⟩ rfl) ?_
  rintro _ rfl
  refine SWl.nil ?_
  refine SN.then ?_
  refine SW.condT rfl (h) ?_
  refine SW.seq ?_
  refine SW.region ?_
  refine SWl.ef (S := []) (Ef.call (con_known) rfl trivial rfl) ?_
  rintro _ rfl
  refine SWl.rd rfl (Rd.assign rfl) ?_
  refine SWl.nil ?_
  refine SN.then ?_
  refine SW.ret (fn := Try.f8) (fun _ _ h => h) (Rs.one rfl (ResV.tmp rfl))
theorem numberValid_con (s : Bool) (b : List Nat) (hb : ∀ d ∈ b, d < 256) : Con Try.prog 8 [rintD s b] (boolD true) := by
  cases hB : anyB [(s, b)]
  · cases hv : vld s b
    · exact valid_bad hB hv
    · obtain ⟨x, hx, rfl, rfl⟩ := vld_out hb hv
      exact valid_valid hx
  · exact valid_big hB
end Sx
end Go.Proofs.Ytddfphneidcibaa
