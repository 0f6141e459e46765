/-
  THE LAW RatioCompares.
-/
import Derived.Test.YtddfphneidcibaaLawRValid1
namespace Go.Proofs.Ytddfphneidcibaa
open Go.RowKit
open Nm (W32)
namespace Sx
set_option maxHeartbeats 4000000 in
set_option maxRecDepth 100000 in
theorem rcomp_big {s t u v : Bool} {b c p q : List Nat} (h : anyR [((s, b), (t, c)), ((u, p), (v, q))] = true) : Con Try.prog 16 [rratD s b t c, rratD u p v q] (boolD true) := by
  refine con_of Try.func16 (by kernel_rfl) rfl (by kernel_rfl) fun base w0 => ?_
  refine SW.seq ?_
  refine SW.region ?_
  refine SWl.ef (S := []) (Ef.boxA rfl rfl) ?_
  rintro _ ⟨g2, rfl⟩
  refine SWl.ef (S := []) (Ef.boxA rfl rfl) ?_
  rintro _ ⟨g3, rfl⟩
  refine SWl.rd rfl (Rd.assign rfl) ?_
  refine SWl.nil ?_
  refine SN.then ?_
  refine SW.seq ?_
  refine SW.seq ?_
  refine SW.region ?_
  refine SWl.rd rfl (Rd.loadA 0 4 rfl rfl (by kernel_rfl) rfl trivial) ?_
  refine SWl.rd rfl (Rd.loadA 1 4 rfl rfl (by kernel_rfl) rfl trivial) ?_
  refine SWl.ef (S := []) (Ef.litR rfl rfl blsR2 rfl) ?_
  rintro _ rfl
  refine SWl.ef (S := []) (Ef.call (con_bigQ [((s, b), (t, c)), ((u, p), (v, q))] (by simp)) rfl ⟨Le.refl _, trivial⟩ rfl) ?_
  rintro _ rfl
  refine SWl.nil ?_
  refine SN.then ?_
  refine SW.condT rfl (h) ?_
  refine SW.seq ?_
  refine SW.region ?_
  refine SWl.ef (S := []) (Ef.call (con_known2) rfl trivial rfl) ?_
  rintro _ rfl
  refine SWl.rd rfl (Rd.assign rfl) ?_
  refine SWl.nil ?_
  refine SN.then ?_
  refine SW.ret (fn := Try.f16) (fun _ _ h => h) (Rs.one rfl (ResV.tmp rfl))
set_option maxHeartbeats 4000000 in
set_option maxRecDepth 100000 in
theorem rcomp_bad {s t u v : Bool} {b c p q : List Nat} (h : anyR [((s, b), (t, c)), ((u, p), (v, q))] = false) (hB : Byt b c) (hC : Byt p q) (hv : (rvld s b t c && rvld u p v q) = false) : Con Try.prog 16 [rratD s b t c, rratD u p v q] (boolD true) := by
  refine con_of Try.func16 (by kernel_rfl) rfl (by kernel_rfl) fun base w0 => ?_
  refine SW.seq ?_
  refine SW.region ?_
  refine SWl.ef (S := []) (Ef.boxA rfl rfl) ?_
  rintro _ ⟨g2, rfl⟩
  refine SWl.ef (S := []) (Ef.boxA rfl rfl) ?_
  rintro _ ⟨g3, rfl⟩
  refine SWl.rd rfl (Rd.assign rfl) ?_
  refine SWl.nil ?_
  refine SN.then ?_
  refine SW.seq ?_
  refine SW.seq ?_
  refine SW.region ?_
  refine SWl.rd rfl (Rd.loadA 0 4 rfl rfl (by kernel_rfl) rfl trivial) ?_
  refine SWl.rd rfl (Rd.loadA 1 4 rfl rfl (by kernel_rfl) rfl trivial) ?_
  refine SWl.ef (S := []) (Ef.litR rfl rfl blsR2 rfl) ?_
  rintro _ rfl
  refine SWl.ef (S := []) (Ef.call (con_bigQ [((s, b), (t, c)), ((u, p), (v, q))] (by simp)) rfl ⟨Le.refl _, trivial⟩ rfl) ?_
  rintro _ rfl
  refine SWl.nil ?_
  refine SN.then ?_
  refine SW.condF rfl (h) ?_
  refine SW.skip ?_
  refine SN.then ?_
  refine SW.seq ?_
  refine SW.region ?_
  refine SWl.rd rfl (Rd.loadA 0 4 rfl rfl (by kernel_rfl) rfl trivial) ?_
  refine SWl.rd rfl (Rd.loadA 1 4 rfl rfl (by kernel_rfl) rfl trivial) ?_
  refine SWl.ef (S := []) (Ef.call (con_minQB hB hC hv) rfl ⟨Le.refl _, Le.refl _, trivial⟩ rfl) ?_
  rintro _ rfl
  refine SWl.rd rfl (Rd.move rfl) ?_
  refine SWl.rd rfl (Rd.extract rfl rfl) ?_
  refine SWl.rd rfl (Rd.extract rfl rfl) ?_
  refine SWl.ef (S := []) (Ef.alloc (zs := [.bool false, .slice none 0 0, .bool false, .slice none 0 0]) (by kernel_rfl) rfl) ?_
  rintro _ ⟨g5, rfl⟩
  refine SWl.ef (S := [_]) (Ef.storeA 2 rfl rfl rfl (by kernel_rfl) rfl (List.mem_singleton.2 rfl)) ?_
  rintro _ rfl
  refine SWl.rd rfl (Rd.assign rfl) ?_
  refine SWl.nil ?_
  refine SN.then ?_
  refine SW.seq ?_
  refine SW.region ?_
  refine SWl.rd rfl (Rd.loadA 0 4 rfl rfl (by kernel_rfl) rfl trivial) ?_
  refine SWl.rd rfl (Rd.loadA 1 4 rfl rfl (by kernel_rfl) rfl trivial) ?_
  refine SWl.ef (S := []) (Ef.call (con_maxQB hB hC hv) rfl ⟨Le.refl _, Le.refl _, trivial⟩ rfl) ?_
  rintro _ rfl
  refine SWl.rd rfl (Rd.move rfl) ?_
  refine SWl.rd rfl (Rd.extract rfl rfl) ?_
  refine SWl.rd rfl (Rd.extract rfl rfl) ?_
  refine SWl.ef (S := []) (Ef.alloc (zs := [.bool false, .slice none 0 0, .bool false, .slice none 0 0]) (by kernel_rfl) rfl) ?_
  rintro _ ⟨g7, rfl⟩
  refine SWl.ef (S := [_]) (Ef.storeA 3 rfl rfl rfl (by kernel_rfl) rfl (List.mem_singleton.2 rfl)) ?_
  rintro _ rfl
  refine SWl.rd rfl (Rd.assign rfl) ?_
  refine SWl.nil ?_
  refine SN.then ?_
  refine SW.seq ?_
  refine SW.seq ?_
  refine SW.region ?_
  refine SWl.rd rfl (Rd.loadA 0 4 rfl rfl (by kernel_rfl) rfl trivial) ?_
  refine SWl.ef (S := []) (Ef.call (con_rvalidR hB) rfl ⟨Le.refl _, trivial⟩ rfl) ?_
  rintro _ rfl
  refine SWl.rd rfl (Rd.not rfl) ?_
  refine SWl.rd rfl (Rd.move rfl) ?_
  refine SWl.split 32 rfl (fun hb32 => ?_) (fun hb32 => ?_)
  · skip
    refine SWl.off rfl rfl (hb32) rfl rfl ?_
    refine SWl.off rfl rfl (hb32) rfl rfl ?_
    refine SWl.off rfl rfl (hb32) rfl rfl ?_
    refine SWl.rd rfl (Rd.pickY rfl (hb32) rfl) ?_
    refine SWl.nil ?_
    refine SN.then ?_
    refine SW.condT rfl (rfl) ?_
    refine SW.seq ?_
    refine SW.region ?_
    refine SWl.rd rfl (Rd.loadA 0 4 rfl rfl (by kernel_rfl) rfl trivial) ?_
    refine SWl.rd rfl (Rd.loadA 1 4 rfl rfl (by kernel_rfl) rfl trivial) ?_
    refine SWl.ef (S := []) (Ef.call (con_cmpQB hB hC hv) rfl ⟨Le.refl _, Le.refl _, trivial⟩ rfl) ?_
    rintro _ rfl
    refine SWl.rd rfl (Rd.eqi rfl rfl) ?_
    refine SWl.rd rfl (Rd.move rfl) ?_
    refine SWl.rdg rfl rfl (by decide) rfl rfl (Rd.loadA 2 4 rfl rfl (by kernel_rfl) rfl trivial) ?_
    refine SWl.rdg rfl rfl (by decide) rfl rfl (Rd.move rfl) ?_
    refine SWl.efg (S := []) rfl rfl (by decide) rfl (Ef.call (con_refused (by first | rfl | assumption)) rfl ⟨Le.refl _, Le.refl _, Le.refl _, trivial⟩ rfl) ?_
    rintro _ rfl
    refine SWl.rd rfl (Rd.pickY rfl (by decide) rfl) ?_
    refine SWl.rd rfl (Rd.move rfl) ?_
    refine SWl.rdg rfl rfl (rfl) rfl rfl (Rd.loadA 3 4 rfl rfl (by kernel_rfl) rfl trivial) ?_
    refine SWl.rdg rfl rfl (rfl) rfl rfl (Rd.move rfl) ?_
    refine SWl.efg (S := []) rfl rfl (rfl) rfl (Ef.call (con_refused (by first | rfl | assumption)) rfl ⟨Le.refl _, Le.refl _, Le.refl _, trivial⟩ rfl) ?_
    rintro _ rfl
    refine SWl.rd rfl (Rd.pickY rfl (rfl) rfl) ?_
    refine SWl.rd rfl (Rd.move rfl) ?_
    refine SWl.efg (S := []) rfl rfl (rfl) rfl (Ef.call (con_known2) rfl trivial rfl) ?_
    rintro _ rfl
    refine SWl.rd rfl (Rd.pickY rfl (rfl) rfl) ?_
    refine SWl.rd rfl (Rd.assign rfl) ?_
    refine SWl.nil ?_
    refine SN.then ?_
    refine SW.ret (fn := Try.f16) (fun _ _ h => h) (Rs.one rfl (ResV.tmp rfl))
  · skip
    refine SWl.rdg rfl rfl (hb32) rfl rfl (Rd.loadA 1 4 rfl rfl (by kernel_rfl) rfl trivial) ?_
    refine SWl.efg (S := []) rfl rfl (hb32) rfl (Ef.call (con_rvalidR hC) rfl ⟨Le.refl _, trivial⟩ rfl) ?_
    rintro _ rfl
    refine SWl.rdg rfl rfl (hb32) rfl rfl (Rd.not rfl) ?_
    refine SWl.rd rfl (Rd.pickN rfl (hb32) rfl) ?_
    refine SWl.nil ?_
    refine SN.then ?_
    refine SW.cond rfl (fun hb36 => ?_) (fun hb36 => ?_)
    · skip
      refine SW.seq ?_
      refine SW.region ?_
      refine SWl.rd rfl (Rd.loadA 0 4 rfl rfl (by kernel_rfl) rfl trivial) ?_
      refine SWl.rd rfl (Rd.loadA 1 4 rfl rfl (by kernel_rfl) rfl trivial) ?_
      refine SWl.ef (S := []) (Ef.call (con_cmpQB hB hC hv) rfl ⟨Le.refl _, Le.refl _, trivial⟩ rfl) ?_
      rintro _ rfl
      refine SWl.rd rfl (Rd.eqi rfl rfl) ?_
      refine SWl.rd rfl (Rd.move rfl) ?_
      refine SWl.rdg rfl rfl (by decide) rfl rfl (Rd.loadA 2 4 rfl rfl (by kernel_rfl) rfl trivial) ?_
      refine SWl.rdg rfl rfl (by decide) rfl rfl (Rd.move rfl) ?_
      refine SWl.efg (S := []) rfl rfl (by decide) rfl (Ef.call (con_refused (by first | rfl | assumption)) rfl ⟨Le.refl _, Le.refl _, Le.refl _, trivial⟩ rfl) ?_
      rintro _ rfl
      refine SWl.rd rfl (Rd.pickY rfl (by decide) rfl) ?_
      refine SWl.rd rfl (Rd.move rfl) ?_
      refine SWl.rdg rfl rfl (rfl) rfl rfl (Rd.loadA 3 4 rfl rfl (by kernel_rfl) rfl trivial) ?_
      refine SWl.rdg rfl rfl (rfl) rfl rfl (Rd.move rfl) ?_
      refine SWl.efg (S := []) rfl rfl (rfl) rfl (Ef.call (con_refused (by first | rfl | assumption)) rfl ⟨Le.refl _, Le.refl _, Le.refl _, trivial⟩ rfl) ?_
      rintro _ rfl
      refine SWl.rd rfl (Rd.pickY rfl (rfl) rfl) ?_
      refine SWl.rd rfl (Rd.move rfl) ?_
      refine SWl.efg (S := []) rfl rfl (rfl) rfl (Ef.call (con_known2) rfl trivial rfl) ?_
      rintro _ rfl
      refine SWl.rd rfl (Rd.pickY rfl (rfl) rfl) ?_
      refine SWl.rd rfl (Rd.assign rfl) ?_
      refine SWl.nil ?_
      refine SN.then ?_
      refine SW.ret (fn := Try.f16) (fun _ _ h => h) (Rs.one rfl (ResV.tmp rfl))
    · exact absurd hv (by simp_all)
set_option maxHeartbeats 4000000 in
set_option maxRecDepth 100000 in
theorem rcomp_good {a b c e : Int} (hG : Good a b) (hH : Good c e) : Con Try.prog 16 [ratD a b, ratD c e] (boolD true) := by
  obtain ⟨C, hC⟩ : ∃ u, cmpQ a b c e = u := ⟨_, rfl⟩
  have hCb : -1 ≤ C ∧ C ≤ 1 := by rw [← hC]; exact cmpZ_bd _ _
  have hCn : cmpQ c e a b = -C := by rw [← hC]; unfold cmpQ; rw [cmpZ_sub, cmpZ_sub, ← Int.sign_neg]; congr 1; omega
  obtain ⟨M1, hM1⟩ : ∃ u, (if cmpQ a b c e ≤ 0 then a else c) = u := ⟨_, rfl⟩
  obtain ⟨M2, hM2⟩ : ∃ u, (if cmpQ a b c e ≤ 0 then b else e) = u := ⟨_, rfl⟩
  obtain ⟨X1, hX1⟩ : ∃ u, (if 0 ≤ cmpQ a b c e then a else c) = u := ⟨_, rfl⟩
  obtain ⟨X2, hX2⟩ : ∃ u, (if 0 ≤ cmpQ a b c e then b else e) = u := ⟨_, rfl⟩
  have hz : C = 0 → a = c ∧ b = e := fun h => hG.uniq hH (cmpZ_eq0.1 (by have : cmpQ a b c e = 0 := (by rw [hC, h]); exact this))
  refine con_of Try.func16 (by kernel_rfl) rfl (by kernel_rfl) fun base w0 => ?_
  refine SW.seq ?_
  refine SW.region ?_
  refine SWl.ef (S := []) (Ef.boxA rfl rfl) ?_
  rintro _ ⟨g2, rfl⟩
  refine SWl.ef (S := []) (Ef.boxA rfl rfl) ?_
  rintro _ ⟨g3, rfl⟩
  refine SWl.rd rfl (Rd.assign rfl) ?_
  refine SWl.nil ?_
  refine SN.then ?_
  refine SW.seq ?_
  refine SW.seq ?_
  refine SW.region ?_
  refine SWl.rd rfl (Rd.loadA 0 4 rfl rfl (by kernel_rfl) rfl trivial) ?_
  refine SWl.rd rfl (Rd.loadA 1 4 rfl rfl (by kernel_rfl) rfl trivial) ?_
  refine SWl.ef (S := []) (Ef.litR rfl rfl blsR2 rfl) ?_
  rintro _ rfl
  refine SWl.ef (S := []) (Ef.call (con_bigQ [row4 a b, row4 c e] (by simp)) rfl ⟨Le.refl _, trivial⟩ rfl) ?_
  rintro _ rfl
  refine SWl.nil ?_
  refine SN.then ?_
  refine SW.condF rfl (anyR2 hG hH) ?_
  refine SW.skip ?_
  refine SN.then ?_
  refine SW.seq ?_
  refine SW.region ?_
  refine SWl.rd rfl (Rd.loadA 0 4 rfl rfl (by kernel_rfl) rfl trivial) ?_
  refine SWl.rd rfl (Rd.loadA 1 4 rfl rfl (by kernel_rfl) rfl trivial) ?_
  refine SWl.ef (S := []) (Ef.call (con_rE (con_minQ hG hH) hM1 hM2 rfl) rfl ⟨Le.refl _, Le.refl _, trivial⟩ rfl) ?_
  rintro _ rfl
  refine SWl.rd rfl (Rd.move rfl) ?_
  refine SWl.rd rfl (Rd.extract rfl rfl) ?_
  refine SWl.rd rfl (Rd.extract rfl rfl) ?_
  refine SWl.ef (S := []) (Ef.alloc (zs := [.bool false, .slice none 0 0, .bool false, .slice none 0 0]) (by kernel_rfl) rfl) ?_
  rintro _ ⟨g5, rfl⟩
  refine SWl.ef (S := [_]) (Ef.storeA 2 rfl rfl rfl (by kernel_rfl) rfl (List.mem_singleton.2 rfl)) ?_
  rintro _ rfl
  refine SWl.rd rfl (Rd.assign rfl) ?_
  refine SWl.nil ?_
  refine SN.then ?_
  refine SW.seq ?_
  refine SW.region ?_
  refine SWl.rd rfl (Rd.loadA 0 4 rfl rfl (by kernel_rfl) rfl trivial) ?_
  refine SWl.rd rfl (Rd.loadA 1 4 rfl rfl (by kernel_rfl) rfl trivial) ?_
  refine SWl.ef (S := []) (Ef.call (con_rE (con_maxQ hG hH) hX1 hX2 rfl) rfl ⟨Le.refl _, Le.refl _, trivial⟩ rfl) ?_
  rintro _ rfl
  refine SWl.rd rfl (Rd.move rfl) ?_
  refine SWl.rd rfl (Rd.extract rfl rfl) ?_
  refine SWl.rd rfl (Rd.extract rfl rfl) ?_
  refine SWl.ef (S := []) (Ef.alloc (zs := [.bool false, .slice none 0 0, .bool false, .slice none 0 0]) (by kernel_rfl) rfl) ?_
  rintro _ ⟨g7, rfl⟩
  refine SWl.ef (S := [_]) (Ef.storeA 3 rfl rfl rfl (by kernel_rfl) rfl (List.mem_singleton.2 rfl)) ?_
  rintro _ rfl
  refine SWl.rd rfl (Rd.assign rfl) ?_
  refine SWl.nil ?_
  refine SN.then ?_
  refine SW.seq ?_
  refine SW.seq ?_
  refine SW.region ?_
  refine SWl.rd rfl (Rd.loadA 0 4 rfl rfl (by kernel_rfl) rfl trivial) ?_
  refine SWl.ef (S := []) (Ef.call (con_rvalRT hG) rfl ⟨Le.refl _, trivial⟩ rfl) ?_
  rintro _ rfl
  refine SWl.rd rfl (Rd.not rfl) ?_
  refine SWl.rd rfl (Rd.move rfl) ?_
  refine SWl.rdg rfl rfl (rfl) rfl rfl (Rd.loadA 1 4 rfl rfl (by kernel_rfl) rfl trivial) ?_
  refine SWl.efg (S := []) rfl rfl (rfl) rfl (Ef.call (con_rvalRT hH) rfl ⟨Le.refl _, trivial⟩ rfl) ?_
  rintro _ rfl
  refine SWl.rdg rfl rfl (rfl) rfl rfl (Rd.not rfl) ?_
  refine SWl.rd rfl (Rd.pickN rfl (rfl) rfl) ?_
  refine SWl.nil ?_
  refine SN.then ?_
  refine SW.condF rfl (rfl) ?_
  refine SW.skip ?_
  refine SN.then ?_
  refine SW.seq ?_
  refine SW.region ?_
  refine SWl.rd rfl (Rd.loadA 0 4 rfl rfl (by kernel_rfl) rfl trivial) ?_
  refine SWl.rd rfl (Rd.loadA 1 4 rfl rfl (by kernel_rfl) rfl trivial) ?_
  refine SWl.ef (S := []) (Ef.call (con_eE (con_cmpQR hG hH) hC) rfl ⟨Le.refl _, Le.refl _, trivial⟩ rfl) ?_
  rintro _ rfl
  refine SWl.rd rfl (Rd.assign rfl) ?_
  refine SWl.nil ?_
  refine SN.then ?_
  refine SW.seq ?_
  refine SW.meet (fun σ => ∃ g10 g11, σ = St.of [(2, isD (.pointer (some ⟨g2, 0, none⟩))), (3, isD (.pointer (some ⟨g3, 0, none⟩))), (5, isD (.pointer (some ⟨g5, 0, none⟩))), (7, isD (.pointer (some ⟨g7, 0, none⟩))), (10, isD (.pointer (some ⟨g10, 0, none⟩))), (11, isD (.pointer (some ⟨g11, 0, none⟩))), (6, errD (0)), (8, errD (0)), (9, errD (C))] [(g2, ratC (a) (b)), (g3, ratC (c) (e)), (g5, ratC (M1) (M2)), (g7, ratC (X1) (X2)), (g10, ratC (a) (b)), (g11, ratC (c) (e))]) ?_ ?_
  · refine SW.draw [] (.r 0 (.r 1 (.n 2 (.n 3 (.e 4 (.e 5 .fin .no) .no) .no) (.n 3 (.n 2 (.e 4 (.e 5 .fin .no) .no) .no) .no)))) (by kernel_rfl) (by kernel_rfl) (fun d _ _ _ _ h => by cases d <;> exact h) ?_
    refine SWz.rd (i := 0) rfl rfl (Rd.loadA 0 4 rfl rfl (by kernel_rfl) rfl trivial) ?_
    refine SWz.rd (i := 1) rfl rfl (Rd.loadA 1 4 rfl rfl (by kernel_rfl) rfl trivial) ?_
    refine SWz.efb (i := 2) rfl (EfB.alloc (zs := [.bool false, .slice none 0 0, .bool false, .slice none 0 0]) (by kernel_rfl) rfl) ?_ ?_
    · rintro g10 _ rfl
      refine SWz.efb (i := 3) rfl (EfB.alloc (zs := [.bool false, .slice none 0 0, .bool false, .slice none 0 0]) (by kernel_rfl) rfl) ?_ SWz.no
      rintro g11 _ rfl
      refine SWz.efe (i := 4) rfl (Ef.storeA 4 rfl rfl rfl (by kernel_rfl) rfl (List.mem_of_getElem? (i := 0) rfl)) ?_ SWz.no
      rintro _ rfl
      refine SWz.efe (i := 5) rfl (Ef.storeA 5 rfl rfl rfl (by kernel_rfl) rfl (List.mem_of_getElem? (i := 1) rfl)) ?_ SWz.no
      rintro _ rfl
      refine SWz.nil ?_
      exact SN.meet ⟨g10, g11, rfl⟩ (⟨⟨_, rfl, ⟨⟨_, rfl, Le.refl _⟩, ⟨⟨_, rfl, Le.refl _⟩, ⟨⟨_, rfl, Le.refl _⟩, ⟨⟨_, rfl, Le.refl _⟩, ⟨⟨_, rfl, Le.refl _⟩, ⟨⟨_, rfl, Le.refl _⟩, ⟨⟨_, rfl, Le.refl _⟩, ⟨⟨_, rfl, Le.refl _⟩, ⟨⟨_, rfl, Le.refl _⟩, trivial⟩⟩⟩⟩⟩⟩⟩⟩⟩⟩, [0, 1, 2, 3, 4, 5], by decide, ⟨⟨_, rfl, LeAll.refl _⟩, ⟨⟨_, rfl, LeAll.refl _⟩, ⟨⟨_, rfl, LeAll.refl _⟩, ⟨⟨_, rfl, LeAll.refl _⟩, ⟨⟨_, rfl, LeAll.refl _⟩, ⟨⟨_, rfl, LeAll.refl _⟩, trivial⟩⟩⟩⟩⟩⟩⟩)
    refine SWz.efb (i := 3) rfl (EfB.alloc (zs := [.bool false, .slice none 0 0, .bool false, .slice none 0 0]) (by kernel_rfl) rfl) ?_ SWz.no
    rintro g11 _ rfl
    refine SWz.efb (i := 2) rfl (EfB.alloc (zs := [.bool false, .slice none 0 0, .bool false, .slice none 0 0]) (by kernel_rfl) rfl) ?_ SWz.no
    rintro g10 _ rfl
    refine SWz.efe (i := 4) rfl (Ef.storeA 5 rfl rfl rfl (by kernel_rfl) rfl (List.mem_of_getElem? (i := 1) rfl)) ?_ SWz.no
    rintro _ rfl
    refine SWz.efe (i := 5) rfl (Ef.storeA 4 rfl rfl rfl (by kernel_rfl) rfl (List.mem_of_getElem? (i := 0) rfl)) ?_ SWz.no
    rintro _ rfl
    refine SWz.nil ?_
    exact SN.meet ⟨g10, g11, rfl⟩ (⟨⟨_, rfl, ⟨⟨_, rfl, Le.refl _⟩, ⟨⟨_, rfl, Le.refl _⟩, ⟨⟨_, rfl, Le.refl _⟩, ⟨⟨_, rfl, Le.refl _⟩, ⟨⟨_, rfl, Le.refl _⟩, ⟨⟨_, rfl, Le.refl _⟩, ⟨⟨_, rfl, Le.refl _⟩, ⟨⟨_, rfl, Le.refl _⟩, ⟨⟨_, rfl, Le.refl _⟩, trivial⟩⟩⟩⟩⟩⟩⟩⟩⟩⟩, [0, 1, 2, 3, 5, 4], by decide, ⟨⟨_, rfl, LeAll.refl _⟩, ⟨⟨_, rfl, LeAll.refl _⟩, ⟨⟨_, rfl, LeAll.refl _⟩, ⟨⟨_, rfl, LeAll.refl _⟩, ⟨⟨_, rfl, LeAll.refl _⟩, ⟨⟨_, rfl, LeAll.refl _⟩, trivial⟩⟩⟩⟩⟩⟩⟩)
  · rintro _ ⟨g10, g11, rfl⟩
    refine SN.then ?_
    refine SW.seq ?_
    refine SW.seq ?_
    refine SW.region ?_
    refine SWl.rd rfl (Rd.move rfl) ?_
    refine SWl.rd rfl (Rd.gtr rfl rfl) ?_
    refine SWl.nil ?_
    refine SN.then ?_
    refine SW.cond rfl (fun hb60 => ?_) (fun hb60 => ?_)
    · have hp := of_decide_eq_true hb60; have hl1 : M1 = c := (by rw [← hM1, if_neg (by omega)]); have hl2 : M2 = e := (by rw [← hM2, if_neg (by omega)]); have hh1 : X1 = a := (by rw [← hX1, if_pos (by omega)]); have hh2 : X2 = b := (by rw [← hX2, if_pos (by omega)])
      refine SW.draw [g10, g11] (.r 0 (.r 1 (.e 2 (.e 3 .fin .no) .no))) (by kernel_rfl) (by kernel_rfl) (fun d _ _ _ _ h => by cases d <;> exact h) ?_
      refine SWz.rd (i := 0) rfl rfl (Rd.loadA 1 4 rfl rfl (by kernel_rfl) rfl ⟨⟨4, _, rfl, by decide⟩, ⟨⟨5, _, rfl, by decide⟩, trivial⟩⟩) ?_
      refine SWz.rd (i := 1) rfl rfl (Rd.loadA 0 4 rfl rfl (by kernel_rfl) rfl ⟨⟨4, _, rfl, by decide⟩, ⟨⟨5, _, rfl, by decide⟩, trivial⟩⟩) ?_
      refine SWz.efe (i := 2) rfl (Ef.storeA 4 rfl rfl rfl (by kernel_rfl) rfl (List.mem_of_getElem? (i := 0) rfl)) ?_ SWz.no
      rintro _ rfl
      refine SWz.efe (i := 3) rfl (Ef.storeA 5 rfl rfl rfl (by kernel_rfl) rfl (List.mem_of_getElem? (i := 1) rfl)) ?_ SWz.no
      rintro _ rfl
      refine SWz.nil ?_
      refine SN.then ?_
      refine SW.seq ?_
      refine SW.region ?_
      refine SWl.rd rfl (Rd.loadA 0 4 rfl rfl (by kernel_rfl) rfl trivial) ?_
      refine SWl.rd rfl (Rd.loadA 1 4 rfl rfl (by kernel_rfl) rfl trivial) ?_
      refine SWl.ef (S := []) (Ef.call (con_eE (con_cmpQ hG hH) hC) rfl ⟨Le.refl _, Le.refl _, trivial⟩ rfl) ?_
      rintro _ rfl
      refine SWl.rd rfl (Rd.move rfl) ?_
      refine SWl.rd rfl (Rd.eqi rfl rfl) ?_
      refine SWl.rd rfl (Rd.move rfl) ?_
      refine SWl.rdg rfl rfl (decide_eq_true rfl) rfl rfl (Rd.loadA 1 4 rfl rfl (by kernel_rfl) rfl trivial) ?_
      refine SWl.rdg rfl rfl (decide_eq_true rfl) rfl rfl (Rd.loadA 0 4 rfl rfl (by kernel_rfl) rfl trivial) ?_
      refine SWl.efg (S := []) rfl rfl (decide_eq_true rfl) rfl (Ef.call (con_eE (con_cmpQ hH hG) hCn) rfl ⟨Le.refl _, Le.refl _, trivial⟩ rfl) ?_
      rintro _ rfl
      refine SWl.rdg rfl rfl (decide_eq_true rfl) rfl rfl (Rd.move rfl) ?_
      refine SWl.rdg rfl rfl (decide_eq_true rfl) rfl rfl (Rd.neg rfl ⟨by omega, by omega⟩) ?_
      refine SWl.rdg rfl rfl (decide_eq_true rfl) rfl rfl (Rd.eqi rfl rfl) ?_
      refine SWl.rd rfl (Rd.pickY rfl (decide_eq_true rfl) rfl) ?_
      refine SWl.rd rfl (Rd.move rfl) ?_
      refine SWl.rdg rfl rfl (decide_eq_true rfl) rfl rfl (Rd.loadA 2 4 rfl rfl (by kernel_rfl) rfl trivial) ?_
      refine SWl.rdg rfl rfl (decide_eq_true rfl) rfl rfl (Rd.move rfl) ?_
      refine SWl.rdg rfl rfl (decide_eq_true rfl) rfl rfl (Rd.loadA 4 4 rfl rfl (by kernel_rfl) rfl trivial) ?_
      refine SWl.efg (S := []) rfl rfl (decide_eq_true rfl) rfl (Ef.call (con_same2L hl1 hl2 rfl) rfl ⟨Le.refl _, Le.refl _, Le.refl _, Le.refl _, trivial⟩ rfl) ?_
      rintro _ rfl
      refine SWl.rd rfl (Rd.pickY rfl (decide_eq_true rfl) rfl) ?_
      refine SWl.rd rfl (Rd.move rfl) ?_
      refine SWl.rdg rfl rfl (rfl) rfl rfl (Rd.loadA 3 4 rfl rfl (by kernel_rfl) rfl trivial) ?_
      refine SWl.rdg rfl rfl (rfl) rfl rfl (Rd.move rfl) ?_
      refine SWl.rdg rfl rfl (rfl) rfl rfl (Rd.loadA 5 4 rfl rfl (by kernel_rfl) rfl trivial) ?_
      refine SWl.efg (S := []) rfl rfl (rfl) rfl (Ef.call (con_same2L hh1 hh2 rfl) rfl ⟨Le.refl _, Le.refl _, Le.refl _, Le.refl _, trivial⟩ rfl) ?_
      rintro _ rfl
      refine SWl.rd rfl (Rd.pickY rfl (rfl) rfl) ?_
      refine SWl.rd rfl (Rd.move rfl) ?_
      refine SWl.efg (S := []) rfl rfl (rfl) rfl (Ef.call (con_known2) rfl trivial rfl) ?_
      rintro _ rfl
      refine SWl.rd rfl (Rd.pickY rfl (rfl) rfl) ?_
      refine SWl.rd rfl (Rd.assign rfl) ?_
      refine SWl.nil ?_
      refine SN.then ?_
      refine SW.ret (fn := Try.f16) (fun _ _ h => h) (Rs.one rfl (ResV.tmp rfl))
    · have hp := of_decide_eq_false hb60; have hl1 : M1 = a := (by rw [← hM1, if_pos (by omega)]); have hl2 : M2 = b := (by rw [← hM2, if_pos (by omega)]); have hh1 : X1 = c := (by rw [← hX1]; split; exact (hz (by omega)).1; rfl); have hh2 : X2 = e := (by rw [← hX2]; split; exact (hz (by omega)).2; rfl)
      refine SW.skip ?_
      refine SN.then ?_
      refine SW.seq ?_
      refine SW.region ?_
      refine SWl.rd rfl (Rd.loadA 0 4 rfl rfl (by kernel_rfl) rfl trivial) ?_
      refine SWl.rd rfl (Rd.loadA 1 4 rfl rfl (by kernel_rfl) rfl trivial) ?_
      refine SWl.ef (S := []) (Ef.call (con_eE (con_cmpQ hG hH) hC) rfl ⟨Le.refl _, Le.refl _, trivial⟩ rfl) ?_
      rintro _ rfl
      refine SWl.rd rfl (Rd.move rfl) ?_
      refine SWl.rd rfl (Rd.eqi rfl rfl) ?_
      refine SWl.rd rfl (Rd.move rfl) ?_
      refine SWl.rdg rfl rfl (decide_eq_true rfl) rfl rfl (Rd.loadA 1 4 rfl rfl (by kernel_rfl) rfl trivial) ?_
      refine SWl.rdg rfl rfl (decide_eq_true rfl) rfl rfl (Rd.loadA 0 4 rfl rfl (by kernel_rfl) rfl trivial) ?_
      refine SWl.efg (S := []) rfl rfl (decide_eq_true rfl) rfl (Ef.call (con_eE (con_cmpQ hH hG) hCn) rfl ⟨Le.refl _, Le.refl _, trivial⟩ rfl) ?_
      rintro _ rfl
      refine SWl.rdg rfl rfl (decide_eq_true rfl) rfl rfl (Rd.move rfl) ?_
      refine SWl.rdg rfl rfl (decide_eq_true rfl) rfl rfl (Rd.neg rfl ⟨by omega, by omega⟩) ?_
      refine SWl.rdg rfl rfl (decide_eq_true rfl) rfl rfl (Rd.eqi rfl rfl) ?_
      refine SWl.rd rfl (Rd.pickY rfl (decide_eq_true rfl) rfl) ?_
      refine SWl.rd rfl (Rd.move rfl) ?_
      refine SWl.rdg rfl rfl (decide_eq_true rfl) rfl rfl (Rd.loadA 2 4 rfl rfl (by kernel_rfl) rfl trivial) ?_
      refine SWl.rdg rfl rfl (decide_eq_true rfl) rfl rfl (Rd.move rfl) ?_
      refine SWl.rdg rfl rfl (decide_eq_true rfl) rfl rfl (Rd.loadA 4 4 rfl rfl (by kernel_rfl) rfl trivial) ?_
      refine SWl.efg (S := []) rfl rfl (decide_eq_true rfl) rfl (Ef.call (con_same2L hl1 hl2 rfl) rfl ⟨Le.refl _, Le.refl _, Le.refl _, Le.refl _, trivial⟩ rfl) ?_
      rintro _ rfl
      refine SWl.rd rfl (Rd.pickY rfl (decide_eq_true rfl) rfl) ?_
      refine SWl.rd rfl (Rd.move rfl) ?_
      refine SWl.rdg rfl rfl (rfl) rfl rfl (Rd.loadA 3 4 rfl rfl (by kernel_rfl) rfl trivial) ?_
      refine SWl.rdg rfl rfl (rfl) rfl rfl (Rd.move rfl) ?_
      refine SWl.rdg rfl rfl (rfl) rfl rfl (Rd.loadA 5 4 rfl rfl (by kernel_rfl) rfl trivial) ?_
      refine SWl.efg (S := []) rfl rfl (rfl) rfl (Ef.call (con_same2L hh1 hh2 rfl) rfl ⟨Le.refl _, Le.refl _, Le.refl _, Le.refl _, trivial⟩ rfl) ?_
      rintro _ rfl
      refine SWl.rd rfl (Rd.pickY rfl (rfl) rfl) ?_
      refine SWl.rd rfl (Rd.move rfl) ?_
      refine SWl.efg (S := []) rfl rfl (rfl) rfl (Ef.call (con_known2) rfl trivial rfl) ?_
      rintro _ rfl
      refine SWl.rd rfl (Rd.pickY rfl (rfl) rfl) ?_
      refine SWl.rd rfl (Rd.assign rfl) ?_
      refine SWl.nil ?_
      refine SN.then ?_
      refine SW.ret (fn := Try.f16) (fun _ _ h => h) (Rs.one rfl (ResV.tmp rfl))
theorem ratioCompares_con (s : Bool) (b : List Nat) (t : Bool) (c : List Nat) (hB : Byt b c) (u : Bool) (p : List Nat) (v : Bool) (q : List Nat) (hC : Byt p q) : Con Try.prog 16 [rratD s b t c, rratD u p v q] (boolD true) := by
  cases h : anyR [((s, b), (t, c)), ((u, p), (v, q))]
  · cases hv : rvld s b t c && rvld u p v q
    · exact rcomp_bad h hB hC hv
    · rw [Bool.and_eq_true] at hv
      obtain ⟨x, y, hG, rfl, rfl, rfl, rfl⟩ := rvld_out hB.l hB.r hv.1
      obtain ⟨z, w, hH, rfl, rfl, rfl, rfl⟩ := rvld_out hC.l hC.r hv.2
      exact rcomp_good hG hH
  · exact rcomp_big h
end Sx
end Go.Proofs.Ytddfphneidcibaa
