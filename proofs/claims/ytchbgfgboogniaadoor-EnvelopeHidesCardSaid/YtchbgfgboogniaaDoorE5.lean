/-
  ENVELOPES: the reference's Seal, Decode.
-/
import Derived.Test.YtchbgfgboogniaaDoorGJ
namespace Go.Proofs.YtchbgfgboogniaaDoor
open Go.RowKit
namespace Sx
set_option maxHeartbeats 4000000 in
set_option maxRecDepth 100000 in
theorem con_decodeER (p : List UInt8) (hp : p.length ≤ 1000000) : Con Tryd.prog 34 [bD p] (tupD [aggD (encEn (Env.dec p)), iD (Env.decE p)]) := by
  have q1 : (stP 32 ⟨p, 0⟩).2.p.length ≤ p.length := stG_len _
  have q2 : (stU (stP 32 ⟨p, 0⟩).2).2.p.length ≤ (stP 32 ⟨p, 0⟩).2.p.length := stG_len _
  have q3 : (stU (stU (stP 32 ⟨p, 0⟩).2).2).2.p.length ≤ (stU (stP 32 ⟨p, 0⟩).2).2.p.length := stG_len _
  have q4 : (stP 4128 (stU (stU (stP 32 ⟨p, 0⟩).2).2).2).2.p.length ≤ (stU (stU (stP 32 ⟨p, 0⟩).2).2).2.p.length := stG_len _
  have q5 : (stP 32 (stP 4128 (stU (stU (stP 32 ⟨p, 0⟩).2).2).2).2).2.p.length ≤ (stP 4128 (stU (stU (stP 32 ⟨p, 0⟩).2).2).2).2.p.length := stG_len _
  refine con_of Tryd.func34 (by kernel_rfl) rfl (by kernel_rfl) fun base w0 => ?_
  refine SW.seq ?_
  refine SW.region ?_
  refine SWl.ef (S := []) (Ef.alloc (zs := [.string ⟨#[]⟩, .int .i64 0, .int .i64 0, .slice none 0 0, .slice none 0 0]) (by kernel_rfl) rfl) ?_
  rintro _ ⟨g2, rfl⟩
  refine SWl.rd rfl (Rd.assign rfl) ?_
  refine SWl.nil ?_
  refine SN.then ?_
  refine SW.seq ?_
  refine SW.region ?_
  refine SWl.ef (S := []) (Ef.alloc (zs := [.string ⟨#[]⟩, .int .i64 0, .int .i64 0, .slice none 0 0, .slice none 0 0]) (by kernel_rfl) rfl) ?_
  rintro _ ⟨g4, rfl⟩
  refine SWl.nil ?_
  refine SN.then ?_
  refine SW.seq ?_
  refine SW.region ?_
  refine SWl.rd rfl (Rd.move rfl) ?_
  refine SWl.rd rfl (Rd.build rfl rfl bldRR0) ?_
  refine SWl.ef (S := []) (Ef.call (con_sP ⟨p, 0⟩ hp 32 (by decide)) rfl ⟨Le.refl _, Le.refl _, trivial⟩ rfl) ?_
  rintro _ rfl
  refine SWl.rd rfl (Rd.move rfl) ?_
  refine SWl.rd rfl (Rd.extract rfl rfl) ?_
  refine SWl.rd rfl (Rd.extract rfl rfl) ?_
  refine SWl.ef (S := []) (Ef.alloc (zs := [.slice none 0 0, .int .i64 0]) (by kernel_rfl) rfl) ?_
  rintro _ ⟨g6, rfl⟩
  refine SWl.rd rfl (Rd.assign rfl) ?_
  refine SWl.ef (S := [_]) (Ef.storeA 2 rfl rfl rfl (by kernel_rfl) rfl (List.mem_singleton.2 rfl)) ?_
  rintro _ rfl
  refine SWl.nil ?_
  refine SN.then ?_
  refine SW.seq ?_
  refine SW.sub (σ' := St.ob [(2, isD (.pointer (some ⟨g2, 0, none⟩))), (4, isD (.pointer (some ⟨g4, 0, none⟩))), (6, isD (.pointer (some ⟨g6, 0, none⟩))), (5, bD (stP 32 ⟨p, 0⟩).1)] [.c g2 [strD [], iD 0, iD 0, isD (.slice none 0 0), isD (.slice none 0 0)], .c g4 [strD [], iD 0, iD 0, isD (.slice none 0 0), isD (.slice none 0 0)], .c g6 [bD (stP 32 ⟨p, 0⟩).2.p, iD (stP 32 ⟨p, 0⟩).2.e]]) (⟨⟨_, rfl, ⟨⟨_, rfl, Le.refl _⟩, ⟨⟨_, rfl, Le.refl _⟩, ⟨⟨_, rfl, Le.refl _⟩, ⟨⟨_, rfl, Le.refl _⟩, trivial⟩⟩⟩⟩⟩, [0, 1, 2], by decide, ⟨⟨_, rfl, LeAll.refl _⟩, ⟨⟨_, rfl, LeAll.refl _⟩, ⟨⟨_, rfl, LeAll.refl _⟩, trivial⟩⟩⟩⟩) ?_
  refine SW.region ?_
  refine SWl.rd rfl (Rd.loadA 2 2 rfl rfl (by kernel_rfl) rfl ap_nil) ?_
  refine SWl.ef (S := []) (Ef.call (con_sU (stP 32 ⟨p, 0⟩).2 (by omega)) rfl ⟨Le.refl _, trivial⟩ rfl) ?_
  rintro _ rfl
  refine SWl.rd rfl (Rd.move rfl) ?_
  refine SWl.rd rfl (Rd.extract rfl rfl) ?_
  refine SWl.rd rfl (Rd.extract rfl rfl) ?_
  refine SWl.rd rfl (Rd.fieldAddr (n := 1) rfl (by kernel_rfl)) ?_
  refine SWl.ef (S := [_]) (Ef.storeV 1 rfl rfl rfl (by kernel_rfl) rfl (List.mem_singleton.2 rfl)) ?_
  rintro _ rfl
  refine SWl.ef (S := [_]) (Ef.storeA 2 rfl rfl rfl (by kernel_rfl) rfl (List.mem_singleton.2 rfl)) ?_
  rintro _ rfl
  refine SWl.nil ?_
  refine SN.then ?_
  refine SW.seq ?_
  refine SW.sub (σ' := St.ob [(2, isD (.pointer (some ⟨g2, 0, none⟩))), (4, isD (.pointer (some ⟨g4, 0, none⟩))), (6, isD (.pointer (some ⟨g6, 0, none⟩))), (5, bD (stP 32 ⟨p, 0⟩).1)] [.c g2 [strD [], iD 0, iD 0, isD (.slice none 0 0), isD (.slice none 0 0)], .c g4 [strD [], iD (stU (stP 32 ⟨p, 0⟩).2).1, iD 0, isD (.slice none 0 0), isD (.slice none 0 0)], .c g6 [bD (stU (stP 32 ⟨p, 0⟩).2).2.p, iD (stU (stP 32 ⟨p, 0⟩).2).2.e]]) (⟨⟨_, rfl, ⟨⟨_, rfl, Le.refl _⟩, ⟨⟨_, rfl, Le.refl _⟩, ⟨⟨_, rfl, Le.refl _⟩, ⟨⟨_, rfl, Le.refl _⟩, trivial⟩⟩⟩⟩⟩, [0, 1, 2], by decide, ⟨⟨_, rfl, LeAll.refl _⟩, ⟨⟨_, rfl, LeAll.refl _⟩, ⟨⟨_, rfl, LeAll.refl _⟩, trivial⟩⟩⟩⟩) ?_
  refine SW.region ?_
  refine SWl.rd rfl (Rd.loadA 2 2 rfl rfl (by kernel_rfl) rfl ap_nil) ?_
  refine SWl.ef (S := []) (Ef.call (con_sU (stU (stP 32 ⟨p, 0⟩).2).2 (by omega)) rfl ⟨Le.refl _, trivial⟩ rfl) ?_
  rintro _ rfl
  refine SWl.rd rfl (Rd.move rfl) ?_
  refine SWl.rd rfl (Rd.extract rfl rfl) ?_
  refine SWl.rd rfl (Rd.extract rfl rfl) ?_
  refine SWl.rd rfl (Rd.fieldAddr (n := 2) rfl (by kernel_rfl)) ?_
  refine SWl.ef (S := [_]) (Ef.storeV 1 rfl rfl rfl (by kernel_rfl) rfl (List.mem_singleton.2 rfl)) ?_
  rintro _ rfl
  refine SWl.ef (S := [_]) (Ef.storeA 2 rfl rfl rfl (by kernel_rfl) rfl (List.mem_singleton.2 rfl)) ?_
  rintro _ rfl
  refine SWl.nil ?_
  refine SN.then ?_
  refine SW.seq ?_
  refine SW.sub (σ' := St.ob [(2, isD (.pointer (some ⟨g2, 0, none⟩))), (4, isD (.pointer (some ⟨g4, 0, none⟩))), (6, isD (.pointer (some ⟨g6, 0, none⟩))), (5, bD (stP 32 ⟨p, 0⟩).1)] [.c g2 [strD [], iD 0, iD 0, isD (.slice none 0 0), isD (.slice none 0 0)], .c g4 [strD [], iD (stU (stP 32 ⟨p, 0⟩).2).1, iD (stU (stU (stP 32 ⟨p, 0⟩).2).2).1, isD (.slice none 0 0), isD (.slice none 0 0)], .c g6 [bD (stU (stU (stP 32 ⟨p, 0⟩).2).2).2.p, iD (stU (stU (stP 32 ⟨p, 0⟩).2).2).2.e]]) (⟨⟨_, rfl, ⟨⟨_, rfl, Le.refl _⟩, ⟨⟨_, rfl, Le.refl _⟩, ⟨⟨_, rfl, Le.refl _⟩, ⟨⟨_, rfl, Le.refl _⟩, trivial⟩⟩⟩⟩⟩, [0, 1, 2], by decide, ⟨⟨_, rfl, LeAll.refl _⟩, ⟨⟨_, rfl, LeAll.refl _⟩, ⟨⟨_, rfl, LeAll.refl _⟩, trivial⟩⟩⟩⟩) ?_
  refine SW.region ?_
  refine SWl.rd rfl (Rd.loadA 2 2 rfl rfl (by kernel_rfl) rfl ap_nil) ?_
  refine SWl.ef (S := []) (Ef.call (con_sP (stU (stU (stP 32 ⟨p, 0⟩).2).2).2 (by omega) 4128 (by decide)) rfl ⟨Le.refl _, Le.refl _, trivial⟩ rfl) ?_
  rintro _ rfl
  refine SWl.rd rfl (Rd.move rfl) ?_
  refine SWl.rd rfl (Rd.extract rfl rfl) ?_
  refine SWl.rd rfl (Rd.extract rfl rfl) ?_
  refine SWl.rd rfl (Rd.fieldAddr (n := 3) rfl (by kernel_rfl)) ?_
  refine SWl.ef (S := [_]) (Ef.storeV 1 rfl rfl rfl (by kernel_rfl) rfl (List.mem_singleton.2 rfl)) ?_
  rintro _ rfl
  refine SWl.ef (S := [_]) (Ef.storeA 2 rfl rfl rfl (by kernel_rfl) rfl (List.mem_singleton.2 rfl)) ?_
  rintro _ rfl
  refine SWl.nil ?_
  refine SN.then ?_
  refine SW.seq ?_
  refine SW.sub (σ' := St.ob [(2, isD (.pointer (some ⟨g2, 0, none⟩))), (4, isD (.pointer (some ⟨g4, 0, none⟩))), (6, isD (.pointer (some ⟨g6, 0, none⟩))), (5, bD (stP 32 ⟨p, 0⟩).1)] [.c g2 [strD [], iD 0, iD 0, isD (.slice none 0 0), isD (.slice none 0 0)], .c g4 [strD [], iD (stU (stP 32 ⟨p, 0⟩).2).1, iD (stU (stU (stP 32 ⟨p, 0⟩).2).2).1, bD (stP 4128 (stU (stU (stP 32 ⟨p, 0⟩).2).2).2).1, isD (.slice none 0 0)], .c g6 [bD (stP 4128 (stU (stU (stP 32 ⟨p, 0⟩).2).2).2).2.p, iD (stP 4128 (stU (stU (stP 32 ⟨p, 0⟩).2).2).2).2.e]]) (⟨⟨_, rfl, ⟨⟨_, rfl, Le.refl _⟩, ⟨⟨_, rfl, Le.refl _⟩, ⟨⟨_, rfl, Le.refl _⟩, ⟨⟨_, rfl, Le.refl _⟩, trivial⟩⟩⟩⟩⟩, [0, 1, 2], by decide, ⟨⟨_, rfl, LeAll.refl _⟩, ⟨⟨_, rfl, LeAll.refl _⟩, ⟨⟨_, rfl, LeAll.refl _⟩, trivial⟩⟩⟩⟩) ?_
  refine SW.region ?_
  refine SWl.rd rfl (Rd.loadA 2 2 rfl rfl (by kernel_rfl) rfl ap_nil) ?_
  refine SWl.ef (S := []) (Ef.call (con_sP (stP 4128 (stU (stU (stP 32 ⟨p, 0⟩).2).2).2).2 (by omega) 32 (by decide)) rfl ⟨Le.refl _, Le.refl _, trivial⟩ rfl) ?_
  rintro _ rfl
  refine SWl.rd rfl (Rd.move rfl) ?_
  refine SWl.rd rfl (Rd.extract rfl rfl) ?_
  refine SWl.rd rfl (Rd.extract rfl rfl) ?_
  refine SWl.rd rfl (Rd.fieldAddr (n := 4) rfl (by kernel_rfl)) ?_
  refine SWl.ef (S := [_]) (Ef.storeV 1 rfl rfl rfl (by kernel_rfl) rfl (List.mem_singleton.2 rfl)) ?_
  rintro _ rfl
  refine SWl.ef (S := [_]) (Ef.storeA 2 rfl rfl rfl (by kernel_rfl) rfl (List.mem_singleton.2 rfl)) ?_
  rintro _ rfl
  refine SWl.nil ?_
  refine SN.then ?_
  refine SW.seq ?_
  refine SW.sub (σ' := St.ob [(2, isD (.pointer (some ⟨g2, 0, none⟩))), (4, isD (.pointer (some ⟨g4, 0, none⟩))), (6, isD (.pointer (some ⟨g6, 0, none⟩))), (5, bD (stP 32 ⟨p, 0⟩).1)] [.c g2 [strD [], iD 0, iD 0, isD (.slice none 0 0), isD (.slice none 0 0)], .c g4 [strD [], iD (stU (stP 32 ⟨p, 0⟩).2).1, iD (stU (stU (stP 32 ⟨p, 0⟩).2).2).1, bD (stP 4128 (stU (stU (stP 32 ⟨p, 0⟩).2).2).2).1, bD (stP 32 (stP 4128 (stU (stU (stP 32 ⟨p, 0⟩).2).2).2).2).1], .c g6 [bD (stP 32 (stP 4128 (stU (stU (stP 32 ⟨p, 0⟩).2).2).2).2).2.p, iD (stP 32 (stP 4128 (stU (stU (stP 32 ⟨p, 0⟩).2).2).2).2).2.e]]) (⟨⟨_, rfl, ⟨⟨_, rfl, Le.refl _⟩, ⟨⟨_, rfl, Le.refl _⟩, ⟨⟨_, rfl, Le.refl _⟩, ⟨⟨_, rfl, Le.refl _⟩, trivial⟩⟩⟩⟩⟩, [0, 1, 2], by decide, ⟨⟨_, rfl, LeAll.refl _⟩, ⟨⟨_, rfl, LeAll.refl _⟩, ⟨⟨_, rfl, LeAll.refl _⟩, trivial⟩⟩⟩⟩) ?_
  refine SW.region ?_
  refine SWl.rd rfl (Rd.move rfl) ?_
  refine SWl.rd rfl (Rd.str (e := 5) rfl (by kernel_rfl) (by kernel_rfl) (by kernel_rfl) (by simp)) ?_
  refine SWl.rd rfl (Rd.fieldAddr (n := 0) rfl (by kernel_rfl)) ?_
  refine SWl.ef (S := [_]) (Ef.storeV 1 rfl rfl rfl (by kernel_rfl) rfl (List.mem_singleton.2 rfl)) ?_
  rintro _ rfl
  refine SWl.nil ?_
  refine SN.then ?_
  refine SW.seq ?_
  refine SW.seq ?_
  obtain ⟨x, hx⟩ : ∃ x, x = (Env.rd ⟨p, 0⟩).1 := ⟨_, rfl⟩
  obtain ⟨q, hq⟩ : ∃ q, q = (Env.rd ⟨p, 0⟩).2 := ⟨_, rfl⟩
  have hql : q.p.length ≤ 1000000 := by (rw [hq]; show (stP 32 (stP 4128 (stU (stU (stP 32 ⟨p, 0⟩).2).2).2).2).2.p.length ≤ 1000000; omega)
  refine SW.sub (σ' := St.ob [(2, isD (.pointer (some ⟨g2, 0, none⟩))), (4, isD (.pointer (some ⟨g4, 0, none⟩))), (6, isD (.pointer (some ⟨g6, 0, none⟩)))] [.c g2 [strD [], iD 0, iD 0, isD (.slice none 0 0), isD (.slice none 0 0)], .c g4 [strD x.acc, iD x.rnd, iD x.ser, bD x.box, bD x.tag], .c g6 [bD q.p, iD q.e]]) (⟨⟨_, rfl, ⟨⟨_, rfl, Le.refl _⟩, ⟨⟨_, rfl, Le.refl _⟩, ⟨⟨_, rfl, Le.refl _⟩, trivial⟩⟩⟩⟩, [0, 1, 2], by decide, ⟨⟨_, rfl, LeAll.refl _⟩, ⟨⟨_, rfl, (by rw [hx]; exact LeAll.refl _)⟩, ⟨⟨_, rfl, (by rw [hq]; exact LeAll.refl _)⟩, trivial⟩⟩⟩⟩) ?_
  refine SW.region ?_
  refine SWl.rd rfl (Rd.loadA 2 2 rfl rfl (by kernel_rfl) rfl ap_nil) ?_
  refine SWl.ef (S := []) (Ef.call (con_sEnd q hql) rfl ⟨Le.refl _, trivial⟩ rfl) ?_
  rintro _ rfl
  refine SWl.rd rfl (Rd.assign rfl) ?_
  refine SWl.nil ?_
  refine SN.then ?_
  refine SW.seq ?_
  refine SW.region ?_
  refine SWl.rd rfl (Rd.move rfl) ?_
  refine SWl.rd rfl (Rd.nei rfl rfl) ?_
  refine SWl.nil ?_
  refine SN.then ?_
  refine SW.cond rfl (fun hb44 => ?_) (fun hb44 => ?_)
  · have h44 : endE (Env.rd ⟨p, 0⟩).2 ≠ 0 := by (rw [← hq]; simpa using hb44)
    refine SW.seq ?_
    refine SW.region ?_
    refine SWl.rd rfl (Rd.build rfl rfl bldEn0) ?_
    refine SWl.rd rfl (Rd.move rfl) ?_
    refine SWl.ef (S := [_]) (Ef.storeA 0 rfl rfl rfl (by kernel_rfl) rfl (List.mem_singleton.2 rfl)) ?_
    rintro _ rfl
    refine SWl.rd rfl (Rd.assign rfl) ?_
    refine SWl.nil ?_
    refine SN.then ?_
    refine SW.ret (fn := Tryd.f34) (fun _ _ h => h) (Rs.le (Rs.two rfl (ResV.cellA 0 rfl rfl (by kernel_rfl)) (ResV.tmp rfl)) ?_)
    exact Le.tup ⟨by rw [(dec_end h44).2]; exact Le.agg le_enz, Le.is (by rw [(dec_end h44).1, hq]), trivial⟩
  · have h44 : ¬ endE (Env.rd ⟨p, 0⟩).2 ≠ 0 := by (rw [← hq]; simpa using hb44)
    refine SW.skip ?_
    refine SN.then ?_
    refine SW.seq ?_
    refine SW.seq ?_
    refine SW.region ?_
    refine SWl.rd rfl (Rd.loadA 1 5 rfl rfl (by kernel_rfl) rfl ap_nil) ?_
    refine SWl.ef (S := []) (Ef.callN [] (con_validR42 x.acc x.rnd x.ser x.box.length x.tag.length (by rw [hx]; have := rd_acc p; omega)) rfl ⟨(sees_le (Le.agg ⟨Le.refl _, Le.refl _, Le.refl _, le_b_len, le_b_len, trivial⟩)), trivial⟩ rfl) ?_
    rintro _ rfl
    refine SWl.rd rfl (Rd.not rfl) ?_
    refine SWl.nil ?_
    refine SN.then ?_
    refine SW.cond rfl (fun hb49 => ?_) (fun hb49 => ?_)
    · have h49 : ¬ Env.ok x := by (intro h; rw [show decide (Env.okV x.acc x.rnd x.ser x.box.length x.tag.length) = true from okD_t h] at hb49; cases hb49)
      refine SW.seq ?_
      refine SW.region ?_
      refine SWl.rd rfl (Rd.build rfl rfl bldEn0) ?_
      refine SWl.ef (S := [_]) (Ef.storeA 0 rfl rfl rfl (by kernel_rfl) rfl (List.mem_singleton.2 rfl)) ?_
      rintro _ rfl
      refine SWl.rd rfl (Rd.assign rfl) ?_
      refine SWl.nil ?_
      refine SN.then ?_
      refine SW.ret (fn := Tryd.f34) (fun _ _ h => h) (Rs.le (Rs.two rfl (ResV.cellA 0 rfl rfl (by kernel_rfl)) (ResV.tmp rfl)) ?_)
      exact Le.tup ⟨by rw [(dec_bad h44 (by rw [← hx]; exact h49)).2]; exact Le.agg le_enz, Le.is (by rw [(dec_bad h44 (by rw [← hx]; exact h49)).1]), trivial⟩
    · have h49 : Env.ok x := by (by_cases h : Env.ok x; exact h; rw [show decide (Env.okV x.acc x.rnd x.ser x.box.length x.tag.length) = false from okD_f h] at hb49; cases hb49)
      refine SW.skip ?_
      refine SN.then ?_
      refine SW.seq ?_
      refine SW.region ?_
      refine SWl.rd rfl (Rd.loadA 1 5 rfl rfl (by kernel_rfl) rfl ap_nil) ?_
      refine SWl.ef (S := [_]) (Ef.storeA 0 rfl rfl rfl (by kernel_rfl) rfl (List.mem_singleton.2 rfl)) ?_
      rintro _ rfl
      refine SWl.rd rfl (Rd.assign rfl) ?_
      refine SWl.nil ?_
      refine SN.then ?_
      refine SW.ret (fn := Tryd.f34) (fun _ _ h => h) (Rs.le (Rs.two rfl (ResV.cellA 0 rfl rfl (by kernel_rfl)) (ResV.tmp rfl)) ?_)
      exact Le.tup ⟨by rw [(dec_good2 h44 (by rw [← hx]; exact h49)).2, ← hx]; exact Le.refl _, Le.is (by rw [(dec_good2 h44 (by rw [← hx]; exact h49)).1]), trivial⟩
end Sx
end Go.Proofs.YtchbgfgboogniaaDoor
