/-
  THE LAW NumberSums, case by case.
-/
import Derived.Test.YtddfphneidcibaaGL
namespace Go.Proofs.Ytddfphneidcibaa
open Go.RowKit
open Nm (W32)
namespace Sx
set_option maxHeartbeats 4000000 in
set_option maxRecDepth 100000 in
theorem sums_valid {x y : Int} (hx : x.natAbs < big512) (hy : y.natAbs < big512) : Con Try.prog 9 [intD x, intD y] (boolD true) := by
  have hx2 := b2_512 hx
  have hy2 := b2_512 hy
  have hx4 := b24 hx2
  have hy4 := b24 hy2
  have hny : (-y).natAbs < b2 := by rw [Int.natAbs_neg]; exact hy2
  refine con_of Try.func9 (by kernel_rfl) rfl (by kernel_rfl) fun base w0 => ?_
  refine SW.seq ?_
  refine SW.region ?_
  refine SWl.ef (S := []) (Ef.boxA rfl rfl) ?_
  rintro _ ⟨g2, rfl⟩
  refine SWl.ef (S := []) (Ef.boxA rfl rfl) ?_
  rintro _ ⟨g3, rfl⟩
  refine SWl.rd rfl (Rd.assign rfl) ?_
  refine SWl.nil ?_
  refine SN.then ?_
  refine SW.seq ?_
  refine SW.seq ?_
  refine SW.region ?_
  refine SWl.rd rfl (Rd.loadA 0 2 rfl rfl (by kernel_rfl) rfl trivial) ?_
  refine SWl.rd rfl (Rd.loadA 1 2 rfl rfl (by kernel_rfl) rfl trivial) ?_
  refine SWl.ef (S := []) (Ef.litR rfl rfl blsI2 rfl) ?_
  rintro _ rfl
  refine SWl.ef (S := []) (Ef.call (con_big [(decide (x < 0), (Nm.dg 256 x.natAbs).reverse), (decide (y < 0), (Nm.dg 256 y.natAbs).reverse)] (by simp)) rfl ⟨Le.refl _, trivial⟩ rfl) ?_
  rintro _ rfl
  refine SWl.nil ?_
  refine SN.then ?_
  refine SW.condF rfl (any2_int hx hy) ?_
  refine SW.skip ?_
  refine SN.then ?_
  refine SW.seq ?_
  refine SW.region ?_
  refine SWl.rd rfl (Rd.loadA 0 2 rfl rfl (by kernel_rfl) rfl trivial) ?_
  refine SWl.rd rfl (Rd.loadA 1 2 rfl rfl (by kernel_rfl) rfl trivial) ?_
  refine SWl.ef (S := []) (Ef.call (con_add hx hy) rfl ⟨Le.refl _, Le.refl _, trivial⟩ rfl) ?_
  rintro _ rfl
  refine SWl.rd rfl (Rd.move rfl) ?_
  refine SWl.rd rfl (Rd.extract rfl rfl) ?_
  refine SWl.rd rfl (Rd.extract rfl rfl) ?_
  refine SWl.ef (S := []) (Ef.alloc (zs := [.bool false, .slice none 0 0]) (by kernel_rfl) rfl) ?_
  rintro _ ⟨g5, rfl⟩
  refine SWl.ef (S := [_]) (Ef.storeA 2 rfl rfl rfl (by kernel_rfl) rfl (List.mem_singleton.2 rfl)) ?_
  rintro _ rfl
  refine SWl.rd rfl (Rd.assign rfl) ?_
  refine SWl.nil ?_
  refine SN.then ?_
  refine SW.seq ?_
  refine SW.region ?_
  refine SWl.rd rfl (Rd.loadA 0 2 rfl rfl (by kernel_rfl) rfl trivial) ?_
  refine SWl.rd rfl (Rd.loadA 1 2 rfl rfl (by kernel_rfl) rfl trivial) ?_
  refine SWl.ef (S := []) (Ef.call (con_sub hx hy) rfl ⟨Le.refl _, Le.refl _, trivial⟩ rfl) ?_
  rintro _ rfl
  refine SWl.rd rfl (Rd.move rfl) ?_
  refine SWl.rd rfl (Rd.extract rfl rfl) ?_
  refine SWl.rd rfl (Rd.extract rfl rfl) ?_
  refine SWl.ef (S := []) (Ef.alloc (zs := [.bool false, .slice none 0 0]) (by kernel_rfl) rfl) ?_
  rintro _ ⟨g7, rfl⟩
  refine SWl.ef (S := [_]) (Ef.storeA 3 rfl rfl rfl (by kernel_rfl) rfl (List.mem_singleton.2 rfl)) ?_
  rintro _ rfl
  refine SWl.rd rfl (Rd.assign rfl) ?_
  refine SWl.nil ?_
  refine SN.then ?_
  refine SW.seq ?_
  refine SW.region ?_
  refine SWl.rd rfl (Rd.loadA 0 2 rfl rfl (by kernel_rfl) rfl trivial) ?_
  refine SWl.rd rfl (Rd.loadA 1 2 rfl rfl (by kernel_rfl) rfl trivial) ?_
  refine SWl.ef (S := []) (Ef.call (con_mul hx hy) rfl ⟨Le.refl _, Le.refl _, trivial⟩ rfl) ?_
  rintro _ rfl
  refine SWl.rd rfl (Rd.move rfl) ?_
  refine SWl.rd rfl (Rd.extract rfl rfl) ?_
  refine SWl.rd rfl (Rd.extract rfl rfl) ?_
  refine SWl.ef (S := []) (Ef.alloc (zs := [.bool false, .slice none 0 0]) (by kernel_rfl) rfl) ?_
  rintro _ ⟨g9, rfl⟩
  refine SWl.ef (S := [_]) (Ef.storeA 4 rfl rfl rfl (by kernel_rfl) rfl (List.mem_singleton.2 rfl)) ?_
  rintro _ rfl
  refine SWl.rd rfl (Rd.assign rfl) ?_
  refine SWl.nil ?_
  refine SN.then ?_
  refine SW.seq ?_
  refine SW.region ?_
  refine SWl.rd rfl (Rd.loadA 0 2 rfl rfl (by kernel_rfl) rfl trivial) ?_
  refine SWl.rd rfl (Rd.loadA 1 2 rfl rfl (by kernel_rfl) rfl trivial) ?_
  refine SWl.ef (S := []) (Ef.call (con_compare hx hy) rfl ⟨Le.refl _, Le.refl _, trivial⟩ rfl) ?_
  rintro _ rfl
  refine SWl.rd rfl (Rd.assign rfl) ?_
  refine SWl.nil ?_
  refine SN.then ?_
  refine SW.seq ?_
  refine SW.seq ?_
  refine SW.region ?_
  refine SWl.rd rfl (Rd.loadA 0 2 rfl rfl (by kernel_rfl) rfl trivial) ?_
  refine SWl.ef (S := []) (Ef.call (con_validRT (by assumption)) rfl ⟨Le.refl _, trivial⟩ rfl) ?_
  rintro _ rfl
  refine SWl.rd rfl (Rd.not rfl) ?_
  refine SWl.rd rfl (Rd.move rfl) ?_
  refine SWl.rdg rfl rfl (rfl) rfl rfl (Rd.loadA 1 2 rfl rfl (by kernel_rfl) rfl trivial) ?_
  refine SWl.efg (S := []) rfl rfl (rfl) rfl (Ef.call (con_validRT (by assumption)) rfl ⟨Le.refl _, trivial⟩ rfl) ?_
  rintro _ rfl
  refine SWl.rdg rfl rfl (rfl) rfl rfl (Rd.not rfl) ?_
  refine SWl.rd rfl (Rd.pickN rfl (rfl) rfl) ?_
  refine SWl.nil ?_
  refine SN.then ?_
  refine SW.condF rfl (rfl) ?_
  refine SW.skip ?_
  refine SN.then ?_
  refine SW.seq ?_
  refine SW.region ?_
  refine SWl.rd rfl (Rd.loadA 0 2 rfl rfl (by kernel_rfl) rfl trivial) ?_
  refine SWl.rd rfl (Rd.loadA 1 2 rfl rfl (by kernel_rfl) rfl trivial) ?_
  refine SWl.ef (S := []) (Ef.call (con_sumR (by assumption) (by assumption)) rfl ⟨Le.refl _, Le.refl _, trivial⟩ rfl) ?_
  rintro _ rfl
  refine SWl.ef (S := []) (Ef.call (con_limitedR _) rfl ⟨Le.refl _, trivial⟩ rfl) ?_
  rintro _ rfl
  refine SWl.rd rfl (Rd.move rfl) ?_
  refine SWl.rd rfl (Rd.extract rfl rfl) ?_
  refine SWl.rd rfl (Rd.extract rfl rfl) ?_
  refine SWl.ef (S := []) (Ef.alloc (zs := [.bool false, .slice none 0 0]) (by kernel_rfl) rfl) ?_
  rintro _ ⟨g13, rfl⟩
  refine SWl.ef (S := [_]) (Ef.storeA 5 rfl rfl rfl (by kernel_rfl) rfl (List.mem_singleton.2 rfl)) ?_
  rintro _ rfl
  refine SWl.rd rfl (Rd.assign rfl) ?_
  refine SWl.nil ?_
  refine SN.then ?_
  refine SW.seq ?_
  refine SW.meet (fun σ => ∃ g15, σ = St.of [(2, isD (.pointer (some ⟨g2, 0, none⟩))), (3, isD (.pointer (some ⟨g3, 0, none⟩))), (5, isD (.pointer (some ⟨g5, 0, none⟩))), (7, isD (.pointer (some ⟨g7, 0, none⟩))), (9, isD (.pointer (some ⟨g9, 0, none⟩))), (13, isD (.pointer (some ⟨g13, 0, none⟩))), (15, isD (.pointer (some ⟨g15, 0, none⟩))), (6, errD (limE (x + y))), (8, errD (limE (x - y))), (10, errD (limE (x * y))), (11, errD (cmpZ x y)), (14, errD (limE (x + y))), (16, errD (limE (x - y)))] [(g2, intC (x)), (g3, intC (y)), (g5, intC (limZ (x + y))), (g7, intC (limZ (x - y))), (g9, intC (limZ (x * y))), (g13, intC (limZ (x + y))), (g15, intC (limZ (x - y)))]) ?_ ?_
  · refine SW.draw [] (.r 0 (.r 1 (.n 2 (.n 3 (.n 4 (.r 5 (.r 6 (.r 7 (.n 8 (.e 9 (.r 10 .fin) .no) .no)))) (.n 8 (.n 4 (.r 5 (.r 6 (.r 7 (.e 9 (.r 10 .fin) .no)))) .no) .no)) (.n 8 (.n 3 (.n 4 (.r 5 (.r 6 (.r 7 (.e 9 (.r 10 .fin) .no)))) .no) .no) .no)) (.n 8 (.n 2 (.n 3 (.n 4 (.r 5 (.r 6 (.r 7 (.e 9 (.r 10 .fin) .no)))) .no) .no) .no) .no)))) (by kernel_rfl) (by kernel_rfl) (fun d _ _ _ _ h => by cases d <;> exact h) ?_
    refine SWz.rd (i := 0) rfl rfl (Rd.loadA 0 2 rfl rfl (by kernel_rfl) rfl trivial) ?_
    refine SWz.rd (i := 1) rfl rfl (Rd.loadA 1 2 rfl rfl (by kernel_rfl) rfl trivial) ?_
    refine SWz.efn (i := 2) rfl (Ef.call (con_negR (by assumption)) rfl ⟨Le.refl _, trivial⟩ rfl) ?_ ?_
    · rintro _ rfl
      refine SWz.efn (i := 3) rfl (Ef.call (con_sumR (by assumption) (by assumption)) rfl ⟨Le.refl _, Le.refl _, trivial⟩ rfl) ?_ ?_
      · rintro _ rfl
        refine SWz.efn (i := 4) rfl (Ef.call (con_limitedR _) rfl ⟨Le.refl _, trivial⟩ rfl) ?_ ?_
        · rintro _ rfl
          refine SWz.rd (i := 5) rfl rfl (Rd.move rfl) ?_
          refine SWz.rd (i := 6) rfl rfl (Rd.extract rfl rfl) ?_
          refine SWz.rd (i := 7) rfl rfl (Rd.extract rfl rfl) ?_
          refine SWz.efb (i := 8) rfl (EfB.alloc (zs := [.bool false, .slice none 0 0]) (by kernel_rfl) rfl) ?_ SWz.no
          rintro g15 _ rfl
          refine SWz.efe (i := 9) rfl (Ef.storeA 6 rfl rfl rfl (by kernel_rfl) rfl (List.mem_of_getElem? (i := 0) rfl)) ?_ SWz.no
          rintro _ rfl
          refine SWz.rd (i := 10) rfl rfl (Rd.assign rfl) ?_
          refine SWz.nil ?_
          exact SN.meet ⟨g15, rfl⟩ (⟨⟨_, rfl, ⟨⟨_, rfl, Le.refl _⟩, ⟨⟨_, rfl, Le.refl _⟩, ⟨⟨_, rfl, Le.refl _⟩, ⟨⟨_, rfl, Le.refl _⟩, ⟨⟨_, rfl, Le.refl _⟩, ⟨⟨_, rfl, Le.refl _⟩, ⟨⟨_, rfl, Le.refl _⟩, ⟨⟨_, rfl, Le.refl _⟩, ⟨⟨_, rfl, Le.refl _⟩, ⟨⟨_, rfl, Le.refl _⟩, ⟨⟨_, rfl, Le.refl _⟩, ⟨⟨_, rfl, Le.refl _⟩, ⟨⟨_, rfl, le_err (congrArg limE (Int.sub_eq_add_neg).symm)⟩, trivial⟩⟩⟩⟩⟩⟩⟩⟩⟩⟩⟩⟩⟩⟩, [0, 1, 2, 3, 4, 5, 6], by decide, ⟨⟨_, rfl, LeAll.refl _⟩, ⟨⟨_, rfl, LeAll.refl _⟩, ⟨⟨_, rfl, LeAll.refl _⟩, ⟨⟨_, rfl, LeAll.refl _⟩, ⟨⟨_, rfl, LeAll.refl _⟩, ⟨⟨_, rfl, LeAll.refl _⟩, ⟨⟨_, rfl, leC_int (congrArg limZ (Int.sub_eq_add_neg).symm)⟩, trivial⟩⟩⟩⟩⟩⟩⟩⟩)
        refine SWz.efb (i := 8) rfl (EfB.alloc (zs := [.bool false, .slice none 0 0]) (by kernel_rfl) rfl) ?_ SWz.no
        rintro g15 _ rfl
        refine SWz.efn (i := 4) rfl (Ef.call (con_limitedR _) rfl ⟨Le.refl _, trivial⟩ rfl) ?_ SWz.no
        rintro _ rfl
        refine SWz.rd (i := 5) rfl rfl (Rd.move rfl) ?_
        refine SWz.rd (i := 6) rfl rfl (Rd.extract rfl rfl) ?_
        refine SWz.rd (i := 7) rfl rfl (Rd.extract rfl rfl) ?_
        refine SWz.efe (i := 9) rfl (Ef.storeA 6 rfl rfl rfl (by kernel_rfl) rfl (List.mem_of_getElem? (i := 0) rfl)) ?_ SWz.no
        rintro _ rfl
        refine SWz.rd (i := 10) rfl rfl (Rd.assign rfl) ?_
        refine SWz.nil ?_
        exact SN.meet ⟨g15, rfl⟩ (⟨⟨_, rfl, ⟨⟨_, rfl, Le.refl _⟩, ⟨⟨_, rfl, Le.refl _⟩, ⟨⟨_, rfl, Le.refl _⟩, ⟨⟨_, rfl, Le.refl _⟩, ⟨⟨_, rfl, Le.refl _⟩, ⟨⟨_, rfl, Le.refl _⟩, ⟨⟨_, rfl, Le.refl _⟩, ⟨⟨_, rfl, Le.refl _⟩, ⟨⟨_, rfl, Le.refl _⟩, ⟨⟨_, rfl, Le.refl _⟩, ⟨⟨_, rfl, Le.refl _⟩, ⟨⟨_, rfl, Le.refl _⟩, ⟨⟨_, rfl, le_err (congrArg limE (Int.sub_eq_add_neg).symm)⟩, trivial⟩⟩⟩⟩⟩⟩⟩⟩⟩⟩⟩⟩⟩⟩, [0, 1, 2, 3, 4, 5, 6], by decide, ⟨⟨_, rfl, LeAll.refl _⟩, ⟨⟨_, rfl, LeAll.refl _⟩, ⟨⟨_, rfl, LeAll.refl _⟩, ⟨⟨_, rfl, LeAll.refl _⟩, ⟨⟨_, rfl, LeAll.refl _⟩, ⟨⟨_, rfl, LeAll.refl _⟩, ⟨⟨_, rfl, leC_int (congrArg limZ (Int.sub_eq_add_neg).symm)⟩, trivial⟩⟩⟩⟩⟩⟩⟩⟩)
      refine SWz.efb (i := 8) rfl (EfB.alloc (zs := [.bool false, .slice none 0 0]) (by kernel_rfl) rfl) ?_ SWz.no
      rintro g15 _ rfl
      refine SWz.efn (i := 3) rfl (Ef.call (con_sumR (by assumption) (by assumption)) rfl ⟨Le.refl _, Le.refl _, trivial⟩ rfl) ?_ SWz.no
      rintro _ rfl
      refine SWz.efn (i := 4) rfl (Ef.call (con_limitedR _) rfl ⟨Le.refl _, trivial⟩ rfl) ?_ SWz.no
      rintro _ rfl
      refine SWz.rd (i := 5) rfl rfl (Rd.move rfl) ?_
      refine SWz.rd (i := 6) rfl rfl (Rd.extract rfl rfl) ?_
      refine SWz.rd (i := 7) rfl rfl (Rd.extract rfl rfl) ?_
      refine SWz.efe (i := 9) rfl (Ef.storeA 6 rfl rfl rfl (by kernel_rfl) rfl (List.mem_of_getElem? (i := 0) rfl)) ?_ SWz.no
      rintro _ rfl
      refine SWz.rd (i := 10) rfl rfl (Rd.assign rfl) ?_
      refine SWz.nil ?_
      exact SN.meet ⟨g15, rfl⟩ (⟨⟨_, rfl, ⟨⟨_, rfl, Le.refl _⟩, ⟨⟨_, rfl, Le.refl _⟩, ⟨⟨_, rfl, Le.refl _⟩, ⟨⟨_, rfl, Le.refl _⟩, ⟨⟨_, rfl, Le.refl _⟩, ⟨⟨_, rfl, Le.refl _⟩, ⟨⟨_, rfl, Le.refl _⟩, ⟨⟨_, rfl, Le.refl _⟩, ⟨⟨_, rfl, Le.refl _⟩, ⟨⟨_, rfl, Le.refl _⟩, ⟨⟨_, rfl, Le.refl _⟩, ⟨⟨_, rfl, Le.refl _⟩, ⟨⟨_, rfl, le_err (congrArg limE (Int.sub_eq_add_neg).symm)⟩, trivial⟩⟩⟩⟩⟩⟩⟩⟩⟩⟩⟩⟩⟩⟩, [0, 1, 2, 3, 4, 5, 6], by decide, ⟨⟨_, rfl, LeAll.refl _⟩, ⟨⟨_, rfl, LeAll.refl _⟩, ⟨⟨_, rfl, LeAll.refl _⟩, ⟨⟨_, rfl, LeAll.refl _⟩, ⟨⟨_, rfl, LeAll.refl _⟩, ⟨⟨_, rfl, LeAll.refl _⟩, ⟨⟨_, rfl, leC_int (congrArg limZ (Int.sub_eq_add_neg).symm)⟩, trivial⟩⟩⟩⟩⟩⟩⟩⟩)
    refine SWz.efb (i := 8) rfl (EfB.alloc (zs := [.bool false, .slice none 0 0]) (by kernel_rfl) rfl) ?_ SWz.no
    rintro g15 _ rfl
    refine SWz.efn (i := 2) rfl (Ef.call (con_negR (by assumption)) rfl ⟨Le.refl _, trivial⟩ rfl) ?_ SWz.no
    rintro _ rfl
    refine SWz.efn (i := 3) rfl (Ef.call (con_sumR (by assumption) (by assumption)) rfl ⟨Le.refl _, Le.refl _, trivial⟩ rfl) ?_ SWz.no
    rintro _ rfl
    refine SWz.efn (i := 4) rfl (Ef.call (con_limitedR _) rfl ⟨Le.refl _, trivial⟩ rfl) ?_ SWz.no
    rintro _ rfl
    refine SWz.rd (i := 5) rfl rfl (Rd.move rfl) ?_
    refine SWz.rd (i := 6) rfl rfl (Rd.extract rfl rfl) ?_
    refine SWz.rd (i := 7) rfl rfl (Rd.extract rfl rfl) ?_
    refine SWz.efe (i := 9) rfl (Ef.storeA 6 rfl rfl rfl (by kernel_rfl) rfl (List.mem_of_getElem? (i := 0) rfl)) ?_ SWz.no
    rintro _ rfl
    refine SWz.rd (i := 10) rfl rfl (Rd.assign rfl) ?_
    refine SWz.nil ?_
    exact SN.meet ⟨g15, rfl⟩ (⟨⟨_, rfl, ⟨⟨_, rfl, Le.refl _⟩, ⟨⟨_, rfl, Le.refl _⟩, ⟨⟨_, rfl, Le.refl _⟩, ⟨⟨_, rfl, Le.refl _⟩, ⟨⟨_, rfl, Le.refl _⟩, ⟨⟨_, rfl, Le.refl _⟩, ⟨⟨_, rfl, Le.refl _⟩, ⟨⟨_, rfl, Le.refl _⟩, ⟨⟨_, rfl, Le.refl _⟩, ⟨⟨_, rfl, Le.refl _⟩, ⟨⟨_, rfl, Le.refl _⟩, ⟨⟨_, rfl, Le.refl _⟩, ⟨⟨_, rfl, le_err (congrArg limE (Int.sub_eq_add_neg).symm)⟩, trivial⟩⟩⟩⟩⟩⟩⟩⟩⟩⟩⟩⟩⟩⟩, [0, 1, 2, 3, 4, 5, 6], by decide, ⟨⟨_, rfl, LeAll.refl _⟩, ⟨⟨_, rfl, LeAll.refl _⟩, ⟨⟨_, rfl, LeAll.refl _⟩, ⟨⟨_, rfl, LeAll.refl _⟩, ⟨⟨_, rfl, LeAll.refl _⟩, ⟨⟨_, rfl, LeAll.refl _⟩, ⟨⟨_, rfl, leC_int (congrArg limZ (Int.sub_eq_add_neg).symm)⟩, trivial⟩⟩⟩⟩⟩⟩⟩⟩)
  · rintro _ ⟨g15, rfl⟩
    refine SN.then ?_
    refine SW.seq ?_
    refine SW.region ?_
    refine SWl.rd rfl (Rd.loadA 0 2 rfl rfl (by kernel_rfl) rfl trivial) ?_
    refine SWl.rd rfl (Rd.loadA 1 2 rfl rfl (by kernel_rfl) rfl trivial) ?_
    refine SWl.ef (S := []) (Ef.call (con_productR (by assumption) (by assumption)) rfl ⟨Le.refl _, Le.refl _, trivial⟩ rfl) ?_
    rintro _ rfl
    refine SWl.ef (S := []) (Ef.call (con_limitedR _) rfl ⟨Le.refl _, trivial⟩ rfl) ?_
    rintro _ rfl
    refine SWl.rd rfl (Rd.move rfl) ?_
    refine SWl.rd rfl (Rd.extract rfl rfl) ?_
    refine SWl.rd rfl (Rd.extract rfl rfl) ?_
    refine SWl.ef (S := []) (Ef.alloc (zs := [.bool false, .slice none 0 0]) (by kernel_rfl) rfl) ?_
    rintro _ ⟨g17, rfl⟩
    refine SWl.ef (S := [_]) (Ef.storeA 7 rfl rfl rfl (by kernel_rfl) rfl (List.mem_singleton.2 rfl)) ?_
    rintro _ rfl
    refine SWl.rd rfl (Rd.assign rfl) ?_
    refine SWl.nil ?_
    refine SN.then ?_
    refine SW.seq ?_
    refine SW.region ?_
    refine SWl.rd rfl (Rd.loadA 2 2 rfl rfl (by kernel_rfl) rfl trivial) ?_
    refine SWl.rd rfl (Rd.move rfl) ?_
    refine SWl.rd rfl (Rd.loadA 5 2 rfl rfl (by kernel_rfl) rfl trivial) ?_
    refine SWl.rd rfl (Rd.move rfl) ?_
    refine SWl.ef (S := []) (Ef.call (con_sameL (by first | rfl | assumption | omega) (by first | rfl | assumption | omega)) rfl ⟨Le.refl _, Le.refl _, Le.refl _, Le.refl _, trivial⟩ rfl) ?_
    rintro _ rfl
    refine SWl.rd rfl (Rd.move rfl) ?_
    refine SWl.rdg rfl rfl (rfl) rfl rfl (Rd.loadA 3 2 rfl rfl (by kernel_rfl) rfl trivial) ?_
    refine SWl.rdg rfl rfl (rfl) rfl rfl (Rd.move rfl) ?_
    refine SWl.rdg rfl rfl (rfl) rfl rfl (Rd.loadA 6 2 rfl rfl (by kernel_rfl) rfl trivial) ?_
    refine SWl.rdg rfl rfl (rfl) rfl rfl (Rd.move rfl) ?_
    refine SWl.efg (S := []) rfl rfl (rfl) rfl (Ef.call (con_sameL (by first | rfl | assumption | omega) (by first | rfl | assumption | omega)) rfl ⟨Le.refl _, Le.refl _, Le.refl _, Le.refl _, trivial⟩ rfl) ?_
    rintro _ rfl
    refine SWl.rd rfl (Rd.pickY rfl (rfl) rfl) ?_
    refine SWl.rd rfl (Rd.move rfl) ?_
    refine SWl.rdg rfl rfl (rfl) rfl rfl (Rd.loadA 4 2 rfl rfl (by kernel_rfl) rfl trivial) ?_
    refine SWl.rdg rfl rfl (rfl) rfl rfl (Rd.move rfl) ?_
    refine SWl.rdg rfl rfl (rfl) rfl rfl (Rd.loadA 7 2 rfl rfl (by kernel_rfl) rfl trivial) ?_
    refine SWl.rdg rfl rfl (rfl) rfl rfl (Rd.move rfl) ?_
    refine SWl.efg (S := []) rfl rfl (rfl) rfl (Ef.call (con_sameL (by first | rfl | assumption | omega) (by first | rfl | assumption | omega)) rfl ⟨Le.refl _, Le.refl _, Le.refl _, Le.refl _, trivial⟩ rfl) ?_
    rintro _ rfl
    refine SWl.rd rfl (Rd.pickY rfl (rfl) rfl) ?_
    refine SWl.rd rfl (Rd.move rfl) ?_
    refine SWl.rdg rfl rfl (rfl) rfl rfl (Rd.move rfl) ?_
    refine SWl.rdg rfl rfl (rfl) rfl rfl (Rd.loadA 0 2 rfl rfl (by kernel_rfl) rfl trivial) ?_
    refine SWl.rdg rfl rfl (rfl) rfl rfl (Rd.loadA 1 2 rfl rfl (by kernel_rfl) rfl trivial) ?_
    refine SWl.efg (S := []) rfl rfl (rfl) rfl (Ef.call (con_compareR (by assumption) (by assumption)) rfl ⟨Le.refl _, Le.refl _, trivial⟩ rfl) ?_
    rintro _ rfl
    refine SWl.rdg rfl rfl (rfl) rfl rfl (Rd.eqi rfl rfl) ?_
    refine SWl.rd rfl (Rd.pickY rfl (rfl) rfl) ?_
    refine SWl.rd rfl (Rd.move rfl) ?_
    refine SWl.efg (S := []) rfl rfl (decide_eq_true rfl) rfl (Ef.call (con_known) rfl trivial rfl) ?_
    rintro _ rfl
    refine SWl.rd rfl (Rd.pickY rfl (decide_eq_true rfl) rfl) ?_
    refine SWl.rd rfl (Rd.assign rfl) ?_
    refine SWl.nil ?_
    refine SN.then ?_
    refine SW.ret (fn := Try.f9) (fun _ _ h => h) (Rs.one rfl (ResV.tmp rfl))
set_option maxHeartbeats 4000000 in
set_option maxRecDepth 100000 in
theorem sums_big {s t : Bool} {b c : List Nat} (h : anyB [(s, b), (t, c)] = true) : Con Try.prog 9 [rintD s b, rintD t c] (boolD true) := by
  refine con_of Try.func9 (by kernel_rfl) rfl (by kernel_rfl) fun base w0 => ?_
  refine SW.seq ?_
  refine SW.region ?_
  refine SWl.ef (S := []) (Ef.boxA rfl rfl) ?_
  rintro _ ⟨g2, rfl⟩
  refine SWl.ef (S := []) (Ef.boxA rfl rfl) ?_
  rintro _ ⟨g3, rfl⟩
  refine SWl.rd rfl (Rd.assign rfl) ?_
  refine SWl.nil ?_
  refine SN.then ?_
  refine SW.seq ?_
  refine SW.seq ?_
  refine SW.region ?_
  refine SWl.rd rfl (Rd.loadA 0 2 rfl rfl (by kernel_rfl) rfl trivial) ?_
  refine SWl.rd rfl (Rd.loadA 1 2 rfl rfl (by kernel_rfl) rfl trivial) ?_
  refine SWl.ef (S := []) (Ef.litR rfl rfl blsI2 rfl) ?_
  rintro _ rfl
  refine SWl.ef (S := []) (Ef.call (con_big [(_, _), (_, _)] (by simp)) rfl ⟨Le.refl _, trivial⟩ rfl) ?_
  rintro _ rfl
  refine SWl.nil ?_
  refine SN.then ?_
  refine SW.condT rfl (h) ?_
  refine SW.seq ?_
  refine SW.region ?_
  refine SWl.ef (S := []) (Ef.call (con_known) rfl trivial rfl) ?_
  rintro _ rfl
  refine SWl.rd rfl (Rd.assign rfl) ?_
  refine SWl.nil ?_
  refine SN.then ?_
  refine SW.ret (fn := Try.f9) (fun _ _ h => h) (Rs.one rfl (ResV.tmp rfl))
set_option maxHeartbeats 4000000 in
set_option maxRecDepth 100000 in
theorem sums_bad {s t : Bool} {b c : List Nat} (h : anyB [(s, b), (t, c)] = false) (hv : (vld s b && vld t c) = false) : Con Try.prog 9 [rintD s b, rintD t c] (boolD true) := by
  refine con_of Try.func9 (by kernel_rfl) rfl (by kernel_rfl) fun base w0 => ?_
  refine SW.seq ?_
  refine SW.region ?_
  refine SWl.ef (S := []) (Ef.boxA rfl rfl) ?_
  rintro _ ⟨g2, rfl⟩
  refine SWl.ef (S := []) (Ef.boxA rfl rfl) ?_
  rintro _ ⟨g3, rfl⟩
  refine SWl.rd rfl (Rd.assign rfl) ?_
  refine SWl.nil ?_
  refine SN.then ?_
  refine SW.seq ?_
  refine SW.seq ?_
  refine SW.region ?_
  refine SWl.rd rfl (Rd.loadA 0 2 rfl rfl (by kernel_rfl) rfl trivial) ?_
  refine SWl.rd rfl (Rd.loadA 1 2 rfl rfl (by kernel_rfl) rfl trivial) ?_
  refine SWl.ef (S := []) (Ef.litR rfl rfl blsI2 rfl) ?_
  rintro _ rfl
  refine SWl.ef (S := []) (Ef.call (con_big [(_, _), (_, _)] (by simp)) rfl ⟨Le.refl _, trivial⟩ rfl) ?_
  rintro _ rfl
  refine SWl.nil ?_
  refine SN.then ?_
  refine SW.condF rfl (h) ?_
  refine SW.skip ?_
  refine SN.then ?_
  refine SW.seq ?_
  refine SW.region ?_
  refine SWl.rd rfl (Rd.loadA 0 2 rfl rfl (by kernel_rfl) rfl trivial) ?_
  refine SWl.rd rfl (Rd.loadA 1 2 rfl rfl (by kernel_rfl) rfl trivial) ?_
  refine SWl.ef (S := []) (Ef.call (con_addB hv) rfl ⟨Le.refl _, Le.refl _, trivial⟩ rfl) ?_
  rintro _ rfl
  refine SWl.rd rfl (Rd.move rfl) ?_
  refine SWl.rd rfl (Rd.extract rfl rfl) ?_
  refine SWl.rd rfl (Rd.extract rfl rfl) ?_
  refine SWl.ef (S := []) (Ef.alloc (zs := [.bool false, .slice none 0 0]) (by kernel_rfl) rfl) ?_
  rintro _ ⟨g5, rfl⟩
  refine SWl.ef (S := [_]) (Ef.storeA 2 rfl rfl rfl (by kernel_rfl) rfl (List.mem_singleton.2 rfl)) ?_
  rintro _ rfl
  refine SWl.rd rfl (Rd.assign rfl) ?_
  refine SWl.nil ?_
  refine SN.then ?_
  refine SW.seq ?_
  refine SW.region ?_
  refine SWl.rd rfl (Rd.loadA 0 2 rfl rfl (by kernel_rfl) rfl trivial) ?_
  refine SWl.rd rfl (Rd.loadA 1 2 rfl rfl (by kernel_rfl) rfl trivial) ?_
  refine SWl.ef (S := []) (Ef.call (con_subB hv) rfl ⟨Le.refl _, Le.refl _, trivial⟩ rfl) ?_
  rintro _ rfl
  refine SWl.rd rfl (Rd.move rfl) ?_
  refine SWl.rd rfl (Rd.extract rfl rfl) ?_
  refine SWl.rd rfl (Rd.extract rfl rfl) ?_
  refine SWl.ef (S := []) (Ef.alloc (zs := [.bool false, .slice none 0 0]) (by kernel_rfl) rfl) ?_
  rintro _ ⟨g7, rfl⟩
  refine SWl.ef (S := [_]) (Ef.storeA 3 rfl rfl rfl (by kernel_rfl) rfl (List.mem_singleton.2 rfl)) ?_
  rintro _ rfl
  refine SWl.rd rfl (Rd.assign rfl) ?_
  refine SWl.nil ?_
  refine SN.then ?_
  refine SW.seq ?_
  refine SW.region ?_
  refine SWl.rd rfl (Rd.loadA 0 2 rfl rfl (by kernel_rfl) rfl trivial) ?_
  refine SWl.rd rfl (Rd.loadA 1 2 rfl rfl (by kernel_rfl) rfl trivial) ?_
  refine SWl.ef (S := []) (Ef.call (con_mulB hv) rfl ⟨Le.refl _, Le.refl _, trivial⟩ rfl) ?_
  rintro _ rfl
  refine SWl.rd rfl (Rd.move rfl) ?_
  refine SWl.rd rfl (Rd.extract rfl rfl) ?_
  refine SWl.rd rfl (Rd.extract rfl rfl) ?_
  refine SWl.ef (S := []) (Ef.alloc (zs := [.bool false, .slice none 0 0]) (by kernel_rfl) rfl) ?_
  rintro _ ⟨g9, rfl⟩
  refine SWl.ef (S := [_]) (Ef.storeA 4 rfl rfl rfl (by kernel_rfl) rfl (List.mem_singleton.2 rfl)) ?_
  rintro _ rfl
  refine SWl.rd rfl (Rd.assign rfl) ?_
  refine SWl.nil ?_
  refine SN.then ?_
  refine SW.seq ?_
  refine SW.region ?_
  refine SWl.rd rfl (Rd.loadA 0 2 rfl rfl (by kernel_rfl) rfl trivial) ?_
  refine SWl.rd rfl (Rd.loadA 1 2 rfl rfl (by kernel_rfl) rfl trivial) ?_
  refine SWl.ef (S := []) (Ef.call (con_compareB hv) rfl ⟨Le.refl _, Le.refl _, trivial⟩ rfl) ?_
  rintro _ rfl
  refine SWl.rd rfl (Rd.assign rfl) ?_
  refine SWl.nil ?_
  refine SN.then ?_
  refine SW.seq ?_
  refine SW.seq ?_
  refine SW.region ?_
  refine SWl.rd rfl (Rd.loadA 0 2 rfl rfl (by kernel_rfl) rfl trivial) ?_
  refine SWl.ef (S := []) (Ef.call (con_validR _ _) rfl ⟨Le.refl _, trivial⟩ rfl) ?_
  rintro _ rfl
  refine SWl.rd rfl (Rd.not rfl) ?_
  refine SWl.rd rfl (Rd.move rfl) ?_
  refine SWl.split 48 rfl (fun hb48 => ?_) (fun hb48 => ?_)
  · skip
    refine SWl.off rfl rfl (hb48) rfl rfl ?_
    refine SWl.off rfl rfl (hb48) rfl rfl ?_
    refine SWl.off rfl rfl (hb48) rfl rfl ?_
    refine SWl.rd rfl (Rd.pickY rfl (hb48) rfl) ?_
    refine SWl.nil ?_
    refine SN.then ?_
    refine SW.condT rfl (rfl) ?_
    refine SW.seq ?_
    refine SW.region ?_
    refine SWl.rd rfl (Rd.build rfl rfl bldI0) ?_
    refine SWl.ef (S := []) (Ef.alloc (zs := [.bool false, .slice none 0 0]) (by kernel_rfl) rfl) ?_
    rintro _ ⟨g12, rfl⟩
    refine SWl.ef (S := [_]) (Ef.storeA 5 rfl rfl rfl (by kernel_rfl) rfl (List.mem_singleton.2 rfl)) ?_
    rintro _ rfl
    refine SWl.nil ?_
    refine SN.then ?_
    refine SW.seq ?_
    refine SW.region ?_
    refine SWl.rd rfl (Rd.loadA 2 2 rfl rfl (by kernel_rfl) rfl trivial) ?_
    refine SWl.rd rfl (Rd.move rfl) ?_
    refine SWl.rd rfl (Rd.loadA 5 2 rfl rfl (by kernel_rfl) rfl trivial) ?_
    refine SWl.ef (S := []) (Ef.call (con_sameL rfl rfl) rfl ⟨Le.refl _, Le.refl _, le_int0, Le.refl _, trivial⟩ rfl) ?_
    rintro _ rfl
    refine SWl.rd rfl (Rd.move rfl) ?_
    refine SWl.rdg rfl rfl (rfl) rfl rfl (Rd.loadA 3 2 rfl rfl (by kernel_rfl) rfl trivial) ?_
    refine SWl.rdg rfl rfl (rfl) rfl rfl (Rd.move rfl) ?_
    refine SWl.rdg rfl rfl (rfl) rfl rfl (Rd.loadA 5 2 rfl rfl (by kernel_rfl) rfl trivial) ?_
    refine SWl.efg (S := []) rfl rfl (rfl) rfl (Ef.call (con_sameL rfl rfl) rfl ⟨Le.refl _, Le.refl _, le_int0, Le.refl _, trivial⟩ rfl) ?_
    rintro _ rfl
    refine SWl.rd rfl (Rd.pickY rfl (rfl) rfl) ?_
    refine SWl.rd rfl (Rd.move rfl) ?_
    refine SWl.rdg rfl rfl (rfl) rfl rfl (Rd.loadA 4 2 rfl rfl (by kernel_rfl) rfl trivial) ?_
    refine SWl.rdg rfl rfl (rfl) rfl rfl (Rd.move rfl) ?_
    refine SWl.rdg rfl rfl (rfl) rfl rfl (Rd.loadA 5 2 rfl rfl (by kernel_rfl) rfl trivial) ?_
    refine SWl.efg (S := []) rfl rfl (rfl) rfl (Ef.call (con_sameL rfl rfl) rfl ⟨Le.refl _, Le.refl _, le_int0, Le.refl _, trivial⟩ rfl) ?_
    rintro _ rfl
    refine SWl.rd rfl (Rd.pickY rfl (rfl) rfl) ?_
    refine SWl.rd rfl (Rd.move rfl) ?_
    refine SWl.rdg rfl rfl (rfl) rfl rfl (Rd.move rfl) ?_
    refine SWl.rdg rfl rfl (rfl) rfl rfl (Rd.eqi rfl rfl) ?_
    refine SWl.rd rfl (Rd.pickY rfl (rfl) rfl) ?_
    refine SWl.rd rfl (Rd.move rfl) ?_
    refine SWl.efg (S := []) rfl rfl (decide_eq_true rfl) rfl (Ef.call (con_known) rfl trivial rfl) ?_
    rintro _ rfl
    refine SWl.rd rfl (Rd.pickY rfl (decide_eq_true rfl) rfl) ?_
    refine SWl.rd rfl (Rd.assign rfl) ?_
    refine SWl.nil ?_
    refine SN.then ?_
    refine SW.ret (fn := Try.f9) (fun _ _ h => h) (Rs.one rfl (ResV.tmp rfl))
  · skip
    refine SWl.rdg rfl rfl (hb48) rfl rfl (Rd.loadA 1 2 rfl rfl (by kernel_rfl) rfl trivial) ?_
    refine SWl.efg (S := []) rfl rfl (hb48) rfl (Ef.call (con_validR _ _) rfl ⟨Le.refl _, trivial⟩ rfl) ?_
    rintro _ rfl
    refine SWl.rdg rfl rfl (hb48) rfl rfl (Rd.not rfl) ?_
    refine SWl.rd rfl (Rd.pickN rfl (hb48) rfl) ?_
    refine SWl.nil ?_
    refine SN.then ?_
    refine SW.cond rfl (fun hb52 => ?_) (fun hb52 => ?_)
    · skip
      refine SW.seq ?_
      refine SW.region ?_
      refine SWl.rd rfl (Rd.build rfl rfl bldI0) ?_
      refine SWl.ef (S := []) (Ef.alloc (zs := [.bool false, .slice none 0 0]) (by kernel_rfl) rfl) ?_
      rintro _ ⟨g12, rfl⟩
      refine SWl.ef (S := [_]) (Ef.storeA 5 rfl rfl rfl (by kernel_rfl) rfl (List.mem_singleton.2 rfl)) ?_
      rintro _ rfl
      refine SWl.nil ?_
      refine SN.then ?_
      refine SW.seq ?_
      refine SW.region ?_
      refine SWl.rd rfl (Rd.loadA 2 2 rfl rfl (by kernel_rfl) rfl trivial) ?_
      refine SWl.rd rfl (Rd.move rfl) ?_
      refine SWl.rd rfl (Rd.loadA 5 2 rfl rfl (by kernel_rfl) rfl trivial) ?_
      refine SWl.ef (S := []) (Ef.call (con_sameL rfl rfl) rfl ⟨Le.refl _, Le.refl _, le_int0, Le.refl _, trivial⟩ rfl) ?_
      rintro _ rfl
      refine SWl.rd rfl (Rd.move rfl) ?_
      refine SWl.rdg rfl rfl (rfl) rfl rfl (Rd.loadA 3 2 rfl rfl (by kernel_rfl) rfl trivial) ?_
      refine SWl.rdg rfl rfl (rfl) rfl rfl (Rd.move rfl) ?_
      refine SWl.rdg rfl rfl (rfl) rfl rfl (Rd.loadA 5 2 rfl rfl (by kernel_rfl) rfl trivial) ?_
      refine SWl.efg (S := []) rfl rfl (rfl) rfl (Ef.call (con_sameL rfl rfl) rfl ⟨Le.refl _, Le.refl _, le_int0, Le.refl _, trivial⟩ rfl) ?_
      rintro _ rfl
      refine SWl.rd rfl (Rd.pickY rfl (rfl) rfl) ?_
      refine SWl.rd rfl (Rd.move rfl) ?_
      refine SWl.rdg rfl rfl (rfl) rfl rfl (Rd.loadA 4 2 rfl rfl (by kernel_rfl) rfl trivial) ?_
      refine SWl.rdg rfl rfl (rfl) rfl rfl (Rd.move rfl) ?_
      refine SWl.rdg rfl rfl (rfl) rfl rfl (Rd.loadA 5 2 rfl rfl (by kernel_rfl) rfl trivial) ?_
      refine SWl.efg (S := []) rfl rfl (rfl) rfl (Ef.call (con_sameL rfl rfl) rfl ⟨Le.refl _, Le.refl _, le_int0, Le.refl _, trivial⟩ rfl) ?_
      rintro _ rfl
      refine SWl.rd rfl (Rd.pickY rfl (rfl) rfl) ?_
      refine SWl.rd rfl (Rd.move rfl) ?_
      refine SWl.rdg rfl rfl (rfl) rfl rfl (Rd.move rfl) ?_
      refine SWl.rdg rfl rfl (rfl) rfl rfl (Rd.eqi rfl rfl) ?_
      refine SWl.rd rfl (Rd.pickY rfl (rfl) rfl) ?_
      refine SWl.rd rfl (Rd.move rfl) ?_
      refine SWl.efg (S := []) rfl rfl (decide_eq_true rfl) rfl (Ef.call (con_known) rfl trivial rfl) ?_
      rintro _ rfl
      refine SWl.rd rfl (Rd.pickY rfl (decide_eq_true rfl) rfl) ?_
      refine SWl.rd rfl (Rd.assign rfl) ?_
      refine SWl.nil ?_
      refine SN.then ?_
      refine SW.ret (fn := Try.f9) (fun _ _ h => h) (Rs.one rfl (ResV.tmp rfl))
    · exact absurd hv (by simp_all)
end Sx
end Go.Proofs.Ytddfphneidcibaa
