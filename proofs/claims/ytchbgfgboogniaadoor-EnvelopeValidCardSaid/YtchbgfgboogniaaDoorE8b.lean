/-
  ENVELOPES: EnvelopeValid.
-/
import Derived.Test.YtchbgfgboogniaaDoorE7
namespace Go.Proofs.YtchbgfgboogniaaDoor
open Go.RowKit
namespace Sx
set_option maxHeartbeats 4000000 in
set_option maxRecDepth 100000 in
theorem envelopeValid_con (a b : Env.T) (long : Int) : ConN Tryd.prog 6 [aggD [strD a.acc, iD a.rnd, iD a.ser, bD a.box, bD a.tag], aggD [strD b.acc, iD b.rnd, iD b.ser, bD b.box, bD b.tag], iD long] (boolD true) := by
  refine con_ofN Tryd.func6 (by kernel_rfl) rfl (by kernel_rfl) fun base w0 => ?_
  refine SW.seq ?_
  refine SW.region ?_
  refine SWl.ef (S := []) (Ef.boxA rfl rfl) ?_
  rintro _ ⟨g3, rfl⟩
  refine SWl.ef (S := []) (Ef.boxA rfl rfl) ?_
  rintro _ ⟨g4, rfl⟩
  refine SWl.rd rfl (Rd.assign rfl) ?_
  refine SWl.nil ?_
  refine SN.then ?_
  refine SW.seq ?_
  refine SW.seq ?_
  refine SW.region ?_
  refine SWl.rd rfl (Rd.loadA 0 5 rfl rfl (by kernel_rfl) rfl ap_nil) ?_
  refine SWl.ef (S := []) (Ef.callN [] (con_short a) rfl ⟨(sees_agg ⟨(sees_le (Le.refl _)), (sees_le (Le.refl _)), (sees_le (Le.refl _)), (sees_le (Le.refl _)), (sees_le (Le.refl _)), trivial⟩), trivial⟩ rfl) ?_
  rintro _ rfl
  refine SWl.rd rfl (Rd.not rfl) ?_
  refine SWl.rd rfl (Rd.move rfl) ?_
  refine SWl.split 11 rfl (fun hb11 => ?_) (fun hb11 => ?_)
  · skip
    refine SWl.off rfl rfl (hb11) rfl rfl ?_
    refine SWl.off rfl rfl (hb11) rfl rfl ?_
    refine SWl.off rfl rfl (hb11) rfl rfl ?_
    refine SWl.rd rfl (Rd.pickY rfl (hb11) rfl) ?_
    refine SWl.nil ?_
    refine SN.then ?_
    refine SW.condT rfl (rfl) ?_
    refine SW.seq ?_
    refine SW.region ?_
    refine SWl.ef (S := []) (Ef.callN [] (con_known42) rfl trivial rfl) ?_
    rintro _ rfl
    refine SWl.rd rfl (Rd.assign rfl) ?_
    refine SWl.nil ?_
    refine SN.then ?_
    refine SW.ret (fn := Tryd.f6) (fun _ _ h => h) (Rs.le (Rs.one rfl (ResV.tmp rfl)) ?_)
    exact le_bool_n rfl
  · have h11 : Env.short a := (by simpa using hb11); have hea : a.acc.length ≤ 1000000 := (by have := h11.1; omega)
    refine SWl.rdg rfl rfl (hb11) rfl rfl (Rd.loadA 1 5 rfl rfl (by kernel_rfl) rfl ap_nil) ?_
    refine SWl.efg (S := []) rfl rfl (hb11) rfl (Ef.callN [] (con_short b) rfl ⟨(sees_agg ⟨(sees_le (Le.refl _)), (sees_le (Le.refl _)), (sees_le (Le.refl _)), (sees_le (Le.refl _)), (sees_le (Le.refl _)), trivial⟩), trivial⟩ rfl) ?_
    rintro _ rfl
    refine SWl.rdg rfl rfl (hb11) rfl rfl (Rd.not rfl) ?_
    refine SWl.rd rfl (Rd.pickN rfl (hb11) rfl) ?_
    refine SWl.nil ?_
    refine SN.then ?_
    refine SW.cond rfl (fun hb15 => ?_) (fun hb15 => ?_)
    · skip
      refine SW.seq ?_
      refine SW.region ?_
      refine SWl.ef (S := []) (Ef.callN [] (con_known42) rfl trivial rfl) ?_
      rintro _ rfl
      refine SWl.rd rfl (Rd.assign rfl) ?_
      refine SWl.nil ?_
      refine SN.then ?_
      refine SW.ret (fn := Tryd.f6) (fun _ _ h => h) (Rs.le (Rs.one rfl (ResV.tmp rfl)) ?_)
      exact le_bool_n rfl
    · skip
      refine SW.skip ?_
      refine SN.then ?_
      refine SW.seq ?_
      refine SW.seq ?_
      refine SW.sub (σ' := St.ob [(3, isD (.pointer (some ⟨g3, 0, none⟩))), (4, isD (.pointer (some ⟨g4, 0, none⟩))), (2, iD long)] [.c g3 [strD a.acc, iD a.rnd, iD a.ser, bD a.box, bD a.tag], .c g4 [strD b.acc, iD b.rnd, iD b.ser, bD b.box, bD b.tag]]) (⟨⟨_, rfl, ⟨⟨_, rfl, Le.refl _⟩, ⟨⟨_, rfl, Le.refl _⟩, ⟨⟨_, rfl, Le.refl _⟩, trivial⟩⟩⟩⟩, [0, 1], by decide, ⟨⟨_, rfl, LeAll.refl _⟩, ⟨⟨_, rfl, LeAll.refl _⟩, trivial⟩⟩⟩) ?_
      refine SW.region ?_
      refine SWl.rd rfl (Rd.move rfl) ?_
      refine SWl.rd rfl (Rd.geq rfl rfl) ?_
      refine SWl.rd rfl (Rd.move rfl) ?_
      refine SWl.split 19 rfl (fun hb19 => ?_) (fun hb19 => ?_)
      · have h19 := of_decide_eq_true hb19
        refine SWl.rdg rfl rfl (hb19) rfl rfl (Rd.move rfl) ?_
        refine SWl.rdg rfl rfl (hb19) rfl rfl (Rd.leq rfl rfl) ?_
        refine SWl.rd rfl (Rd.pickY rfl (hb19) rfl) ?_
        refine SWl.nil ?_
        refine SN.then ?_
        refine SW.cond rfl (fun hb22 => ?_) (fun hb22 => ?_)
        · have h22 := of_decide_eq_true hb22
          refine SW.region ?_
          refine SWl.rd rfl (Rd.move rfl) ?_
          refine SWl.ef (S := []) (Ef.call (con_row 5 long.toNat (by omega)) rfl ⟨Le.refl _, Le.is (by rw [Int.toNat_of_nonneg (by omega)]), trivial⟩ rfl) ?_
          rintro _ rfl
          refine SWl.rd rfl (Rd.fieldAddr (n := 3) rfl (by kernel_rfl)) ?_
          refine SWl.ef (S := [_]) (Ef.storeV 0 rfl rfl rfl (by kernel_rfl) rfl (List.mem_singleton.2 rfl)) ?_
          rintro _ rfl
          refine SWl.nil ?_
          refine SN.then ?_
          refine SW.seq ?_
          obtain ⟨x, hx⟩ : ∃ x : Env.T, x = ⟨a.acc, a.rnd, a.ser, List.replicate long.toNat 5, a.tag⟩ := ⟨_, rfl⟩
          have hxa : x.acc.length ≤ 1000000 := by rw [hx]; exact hea
          refine SW.sub (σ' := St.ob [(3, isD (.pointer (some ⟨g3, 0, none⟩))), (4, isD (.pointer (some ⟨g4, 0, none⟩)))] [.c g3 [strD x.acc, iD x.rnd, iD x.ser, bD x.box, bD x.tag], .c g4 [strD b.acc, iD b.rnd, iD b.ser, bD b.box, bD b.tag]]) (⟨⟨_, rfl, ⟨⟨_, rfl, Le.refl _⟩, ⟨⟨_, rfl, Le.refl _⟩, trivial⟩⟩⟩, [0, 1], by decide, ⟨⟨_, rfl, (by rw [hx]; exact LeAll.refl _)⟩, ⟨⟨_, rfl, LeAll.refl _⟩, trivial⟩⟩⟩) ?_
          refine SW.region ?_
          refine SWl.rd rfl (Rd.assign rfl) ?_
          refine SWl.nil ?_
          refine SN.then ?_
          refine SW.seq ?_
          refine SW.seq ?_
          refine SW.region ?_
          refine SWl.rd rfl (Rd.loadA 0 5 rfl rfl (by kernel_rfl) rfl ap_nil) ?_
          refine SWl.ef (S := []) (Ef.callN [] (con_validR42 x.acc x.rnd x.ser x.box.length x.tag.length (hxa)) rfl ⟨(sees_le (Le.agg ⟨Le.refl _, Le.refl _, Le.refl _, le_b_len, le_b_len, trivial⟩)), trivial⟩ rfl) ?_
          rintro _ rfl
          refine SWl.nil ?_
          refine SN.then ?_
          refine SW.cond rfl (fun hb27 => ?_) (fun hb27 => ?_)
          · have h27 : Env.ok x := of_decide_eq_true hb27
            refine SW.region ?_
            refine SWl.rd rfl (Rd.fieldAddr (n := 3) rfl (by kernel_rfl)) ?_
            refine SWl.rd rfl (Rd.loadB 0 rfl rfl rfl (by kernel_rfl) ap_nil) ?_
            refine SWl.rd rfl (Rd.len (e := 5) rfl (by kernel_rfl)) ?_
            refine SWl.rd rfl (Rd.subi rfl rfl ⟨by omega, by have := (Env.ok_len h27).2.2.2.2.2; rw [cellsOf_length]; omega⟩) ?_
            refine SWl.rd rfl (Rd.assign rfl) ?_
            refine SWl.nil ?_
            refine SN.then ?_
            refine SW.seq ?_
            refine SW.sub (σ' := St.ob [(3, isD (.pointer (some ⟨g3, 0, none⟩))), (4, isD (.pointer (some ⟨g4, 0, none⟩))), (7, iD (Env.sz x))] [.c g3 [strD x.acc, iD x.rnd, iD x.ser, bD x.box, bD x.tag], .c g4 [strD b.acc, iD b.rnd, iD b.ser, bD b.box, bD b.tag]]) (⟨⟨_, rfl, ⟨⟨_, rfl, Le.refl _⟩, ⟨⟨_, rfl, Le.refl _⟩, ⟨⟨_, rfl, Le.is (by unfold Env.sz; rw [if_pos h27, cellsOf_length])⟩, trivial⟩⟩⟩⟩, [0, 1], by decide, ⟨⟨_, rfl, LeAll.refl _⟩, ⟨⟨_, rfl, LeAll.refl _⟩, trivial⟩⟩⟩) ?_
            refine SW.draw [] (.r 0 (.r 2 (.n 1 (.n 3 (.r 4 (.r 5 (.r 6 (.r 8 (.n 7 (.r 9 (.r 10 (.r 11 (.r 12 (.r 13 (.r 15 (.r 16 (.n 14 (.n 17 (.r 18 (.r 19 (.r 20 (.r 21 (.r 22 (.r 24 (.r 25 (.n 23 (.n 26 (.r 27 (.r 28 (.r 29 (.r 30 (.r 31 (.n 32 (.r 33 (.r 34 (.n 35 (.r 36 (.r 37 .fin)) .no))) .no)))))) .no) .no)))))))) .no) .no)))))))) .no))))) .no) .no))) (by kernel_rfl) (by kernel_rfl) (fun d _ _ _ _ h => by cases d <;> exact h) ?_
            refine SWz.rd (i := 0) rfl rfl (Rd.loadA 0 5 rfl rfl (by kernel_rfl) rfl ap_nil) ?_
            refine SWz.rd (i := 2) rfl rfl (Rd.loadA 0 5 rfl rfl (by kernel_rfl) rfl ap_nil) ?_
            refine SWz.efn (i := 1) rfl (Ef.callN [] (con_validE x.acc x.rnd x.ser x.box.length x.tag.length) rfl ⟨(sees_le (Le.agg ⟨Le.refl _, Le.refl _, Le.refl _, le_b_len, le_b_len, trivial⟩)), trivial⟩ rfl) ?_ SWz.no
            rintro _ rfl
            refine SWz.efn (i := 3) rfl (Ef.callN [] (con_validR42 x.acc x.rnd x.ser x.box.length x.tag.length (hxa)) rfl ⟨(sees_le (Le.agg ⟨Le.refl _, Le.refl _, Le.refl _, le_b_len, le_b_len, trivial⟩)), trivial⟩ rfl) ?_ SWz.no
            rintro _ rfl
            refine SWz.rd (i := 4) rfl rfl (Rd.eqb (by kernel_rfl) rfl rfl) ?_
            refine SWz.rd (i := 5) rfl rfl (Rd.move rfl) ?_
            refine SWz.rdg (i := 6) rfl rfl rfl (by simp) rfl rfl (Rd.loadA 0 5 rfl rfl (by kernel_rfl) rfl ap_nil) ?_
            refine SWz.rdg (i := 8) rfl rfl rfl (by simp) rfl rfl (Rd.move rfl) ?_
            refine SWz.efng (i := 7) rfl rfl rfl (by simp) rfl (Ef.callN [] (con_sizeE x) rfl ⟨(sees_agg ⟨(sees_le (Le.refl _)), (sees_le (Le.refl _)), (sees_le (Le.refl _)), (sees_le (Le.refl _)), (sees_le (Le.refl _)), trivial⟩), trivial⟩ rfl) ?_ SWz.no
            rintro _ rfl
            refine SWz.rdg (i := 9) rfl rfl rfl (by simp) rfl rfl (Rd.eqi rfl rfl) ?_
            refine SWz.rd (i := 10) rfl rfl (Rd.pickY rfl (by simp) rfl) ?_
            refine SWz.rd (i := 11) rfl rfl (Rd.move rfl) ?_
            refine SWz.rdg (i := 12) rfl rfl rfl (by simp) rfl rfl (Rd.loadA 0 5 rfl rfl (by kernel_rfl) rfl ap_nil) ?_
            refine SWz.rdg (i := 13) rfl rfl rfl (by simp) rfl rfl (Rd.loadA 1 5 rfl rfl (by kernel_rfl) rfl ap_nil) ?_
            refine SWz.rdg (i := 15) rfl rfl rfl (by simp) rfl rfl (Rd.loadA 0 5 rfl rfl (by kernel_rfl) rfl ap_nil) ?_
            refine SWz.rdg (i := 16) rfl rfl rfl (by simp) rfl rfl (Rd.loadA 1 5 rfl rfl (by kernel_rfl) rfl ap_nil) ?_
            refine SWz.efng (i := 14) rfl rfl rfl (by simp) rfl (Ef.callN [] (con_equalE x b) rfl ⟨(sees_agg ⟨(sees_le (Le.refl _)), (sees_le (Le.refl _)), (sees_le (Le.refl _)), (sees_le (Le.refl _)), (sees_le (Le.refl _)), trivial⟩), (sees_agg ⟨(sees_le (Le.refl _)), (sees_le (Le.refl _)), (sees_le (Le.refl _)), (sees_le (Le.refl _)), (sees_le (Le.refl _)), trivial⟩), trivial⟩ rfl) ?_ SWz.no
            rintro _ rfl
            refine SWz.efng (i := 17) rfl rfl rfl (by simp) rfl (Ef.callN [] (con_sameE x b) rfl ⟨(sees_agg ⟨(sees_le (Le.refl _)), (sees_le (Le.refl _)), (sees_le (Le.refl _)), (sees_le (Le.refl _)), (sees_le (Le.refl _)), trivial⟩), (sees_agg ⟨(sees_le (Le.refl _)), (sees_le (Le.refl _)), (sees_le (Le.refl _)), (sees_le (Le.refl _)), (sees_le (Le.refl _)), trivial⟩), trivial⟩ rfl) ?_ SWz.no
            rintro _ rfl
            refine SWz.rdg (i := 18) rfl rfl rfl (by simp) rfl rfl (Rd.eqb (by kernel_rfl) rfl rfl) ?_
            refine SWz.rd (i := 19) rfl rfl (Rd.pickY rfl (by simp) rfl) ?_
            refine SWz.rd (i := 20) rfl rfl (Rd.move rfl) ?_
            refine SWz.rdg (i := 21) rfl rfl rfl (by simp) rfl rfl (Rd.loadA 1 5 rfl rfl (by kernel_rfl) rfl ap_nil) ?_
            refine SWz.rdg (i := 22) rfl rfl rfl (by simp) rfl rfl (Rd.loadA 0 5 rfl rfl (by kernel_rfl) rfl ap_nil) ?_
            refine SWz.rdg (i := 24) rfl rfl rfl (by simp) rfl rfl (Rd.loadA 1 5 rfl rfl (by kernel_rfl) rfl ap_nil) ?_
            refine SWz.rdg (i := 25) rfl rfl rfl (by simp) rfl rfl (Rd.loadA 0 5 rfl rfl (by kernel_rfl) rfl ap_nil) ?_
            refine SWz.efng (i := 23) rfl rfl rfl (by simp) rfl (Ef.callN [] (con_equalE b x) rfl ⟨(sees_agg ⟨(sees_le (Le.refl _)), (sees_le (Le.refl _)), (sees_le (Le.refl _)), (sees_le (Le.refl _)), (sees_le (Le.refl _)), trivial⟩), (sees_agg ⟨(sees_le (Le.refl _)), (sees_le (Le.refl _)), (sees_le (Le.refl _)), (sees_le (Le.refl _)), (sees_le (Le.refl _)), trivial⟩), trivial⟩ rfl) ?_ SWz.no
            rintro _ rfl
            refine SWz.efng (i := 26) rfl rfl rfl (by simp) rfl (Ef.callN [] (con_sameE b x) rfl ⟨(sees_agg ⟨(sees_le (Le.refl _)), (sees_le (Le.refl _)), (sees_le (Le.refl _)), (sees_le (Le.refl _)), (sees_le (Le.refl _)), trivial⟩), (sees_agg ⟨(sees_le (Le.refl _)), (sees_le (Le.refl _)), (sees_le (Le.refl _)), (sees_le (Le.refl _)), (sees_le (Le.refl _)), trivial⟩), trivial⟩ rfl) ?_ SWz.no
            rintro _ rfl
            refine SWz.rdg (i := 27) rfl rfl rfl (by simp) rfl rfl (Rd.eqb (by kernel_rfl) rfl rfl) ?_
            refine SWz.rd (i := 28) rfl rfl (Rd.pickY rfl (by simp) rfl) ?_
            refine SWz.rd (i := 29) rfl rfl (Rd.move rfl) ?_
            refine SWz.rdg (i := 30) rfl rfl rfl (by simp) rfl rfl (Rd.loadA 0 5 rfl rfl (by kernel_rfl) rfl ap_nil) ?_
            refine SWz.rdg (i := 31) rfl rfl rfl (by simp) rfl rfl (Rd.loadA 0 5 rfl rfl (by kernel_rfl) rfl ap_nil) ?_
            refine SWz.efng (i := 32) rfl rfl rfl (by simp) rfl (Ef.callN [] (con_equalE x x) rfl ⟨(sees_agg ⟨(sees_le (Le.refl _)), (sees_le (Le.refl _)), (sees_le (Le.refl _)), (sees_le (Le.refl _)), (sees_le (Le.refl _)), trivial⟩), (sees_agg ⟨(sees_le (Le.refl _)), (sees_le (Le.refl _)), (sees_le (Le.refl _)), (sees_le (Le.refl _)), (sees_le (Le.refl _)), trivial⟩), trivial⟩ rfl) ?_ SWz.no
            rintro _ rfl
            refine SWz.rd (i := 33) rfl rfl (Rd.pickY rfl (by simp) rfl) ?_
            refine SWz.rd (i := 34) rfl rfl (Rd.move rfl) ?_
            refine SWz.efng (i := 35) rfl rfl rfl (by simp) rfl (Ef.callN [] (con_known42) rfl trivial rfl) ?_ SWz.no
            rintro _ rfl
            refine SWz.rd (i := 36) rfl rfl (Rd.pickY rfl (by simp) rfl) ?_
            refine SWz.rd (i := 37) rfl rfl (Rd.assign rfl) ?_
            refine SWz.nil ?_
            refine SN.then ?_
            refine SW.ret (fn := Tryd.f6) (fun _ _ h => h) (Rs.le (Rs.one rfl (ResV.tmp rfl)) ?_)
            exact le_bool_n rfl
          · have h27 : ¬ Env.ok x := of_decide_eq_false hb27
            refine SW.skip ?_
            refine SN.then ?_
            refine SW.seq ?_
            refine SW.sub (σ' := St.ob [(3, isD (.pointer (some ⟨g3, 0, none⟩))), (4, isD (.pointer (some ⟨g4, 0, none⟩))), (7, iD (Env.sz x))] [.c g3 [strD x.acc, iD x.rnd, iD x.ser, bD x.box, bD x.tag], .c g4 [strD b.acc, iD b.rnd, iD b.ser, bD b.box, bD b.tag]]) (⟨⟨_, rfl, ⟨⟨_, rfl, Le.refl _⟩, ⟨⟨_, rfl, Le.refl _⟩, ⟨⟨_, rfl, Le.is (by unfold Env.sz; rw [if_neg h27])⟩, trivial⟩⟩⟩⟩, [0, 1], by decide, ⟨⟨_, rfl, LeAll.refl _⟩, ⟨⟨_, rfl, LeAll.refl _⟩, trivial⟩⟩⟩) ?_
            refine SW.draw [] (.r 0 (.r 2 (.n 1 (.n 3 (.r 4 (.r 5 (.r 6 (.r 8 (.n 7 (.r 9 (.r 10 (.r 11 (.r 12 (.r 13 (.r 15 (.r 16 (.n 14 (.n 17 (.r 18 (.r 19 (.r 20 (.r 21 (.r 22 (.r 24 (.r 25 (.n 23 (.n 26 (.r 27 (.r 28 (.r 29 (.r 30 (.r 31 (.n 32 (.r 33 (.r 34 (.n 35 (.r 36 (.r 37 .fin)) .no))) .no)))))) .no) .no)))))))) .no) .no)))))))) .no))))) .no) .no))) (by kernel_rfl) (by kernel_rfl) (fun d _ _ _ _ h => by cases d <;> exact h) ?_
            refine SWz.rd (i := 0) rfl rfl (Rd.loadA 0 5 rfl rfl (by kernel_rfl) rfl ap_nil) ?_
            refine SWz.rd (i := 2) rfl rfl (Rd.loadA 0 5 rfl rfl (by kernel_rfl) rfl ap_nil) ?_
            refine SWz.efn (i := 1) rfl (Ef.callN [] (con_validE x.acc x.rnd x.ser x.box.length x.tag.length) rfl ⟨(sees_le (Le.agg ⟨Le.refl _, Le.refl _, Le.refl _, le_b_len, le_b_len, trivial⟩)), trivial⟩ rfl) ?_ SWz.no
            rintro _ rfl
            refine SWz.efn (i := 3) rfl (Ef.callN [] (con_validR42 x.acc x.rnd x.ser x.box.length x.tag.length (hxa)) rfl ⟨(sees_le (Le.agg ⟨Le.refl _, Le.refl _, Le.refl _, le_b_len, le_b_len, trivial⟩)), trivial⟩ rfl) ?_ SWz.no
            rintro _ rfl
            refine SWz.rd (i := 4) rfl rfl (Rd.eqb (by kernel_rfl) rfl rfl) ?_
            refine SWz.rd (i := 5) rfl rfl (Rd.move rfl) ?_
            refine SWz.rdg (i := 6) rfl rfl rfl (by simp) rfl rfl (Rd.loadA 0 5 rfl rfl (by kernel_rfl) rfl ap_nil) ?_
            refine SWz.rdg (i := 8) rfl rfl rfl (by simp) rfl rfl (Rd.move rfl) ?_
            refine SWz.efng (i := 7) rfl rfl rfl (by simp) rfl (Ef.callN [] (con_sizeE x) rfl ⟨(sees_agg ⟨(sees_le (Le.refl _)), (sees_le (Le.refl _)), (sees_le (Le.refl _)), (sees_le (Le.refl _)), (sees_le (Le.refl _)), trivial⟩), trivial⟩ rfl) ?_ SWz.no
            rintro _ rfl
            refine SWz.rdg (i := 9) rfl rfl rfl (by simp) rfl rfl (Rd.eqi rfl rfl) ?_
            refine SWz.rd (i := 10) rfl rfl (Rd.pickY rfl (by simp) rfl) ?_
            refine SWz.rd (i := 11) rfl rfl (Rd.move rfl) ?_
            refine SWz.rdg (i := 12) rfl rfl rfl (by simp) rfl rfl (Rd.loadA 0 5 rfl rfl (by kernel_rfl) rfl ap_nil) ?_
            refine SWz.rdg (i := 13) rfl rfl rfl (by simp) rfl rfl (Rd.loadA 1 5 rfl rfl (by kernel_rfl) rfl ap_nil) ?_
            refine SWz.rdg (i := 15) rfl rfl rfl (by simp) rfl rfl (Rd.loadA 0 5 rfl rfl (by kernel_rfl) rfl ap_nil) ?_
            refine SWz.rdg (i := 16) rfl rfl rfl (by simp) rfl rfl (Rd.loadA 1 5 rfl rfl (by kernel_rfl) rfl ap_nil) ?_
            refine SWz.efng (i := 14) rfl rfl rfl (by simp) rfl (Ef.callN [] (con_equalE x b) rfl ⟨(sees_agg ⟨(sees_le (Le.refl _)), (sees_le (Le.refl _)), (sees_le (Le.refl _)), (sees_le (Le.refl _)), (sees_le (Le.refl _)), trivial⟩), (sees_agg ⟨(sees_le (Le.refl _)), (sees_le (Le.refl _)), (sees_le (Le.refl _)), (sees_le (Le.refl _)), (sees_le (Le.refl _)), trivial⟩), trivial⟩ rfl) ?_ SWz.no
            rintro _ rfl
            refine SWz.efng (i := 17) rfl rfl rfl (by simp) rfl (Ef.callN [] (con_sameE x b) rfl ⟨(sees_agg ⟨(sees_le (Le.refl _)), (sees_le (Le.refl _)), (sees_le (Le.refl _)), (sees_le (Le.refl _)), (sees_le (Le.refl _)), trivial⟩), (sees_agg ⟨(sees_le (Le.refl _)), (sees_le (Le.refl _)), (sees_le (Le.refl _)), (sees_le (Le.refl _)), (sees_le (Le.refl _)), trivial⟩), trivial⟩ rfl) ?_ SWz.no
            rintro _ rfl
            refine SWz.rdg (i := 18) rfl rfl rfl (by simp) rfl rfl (Rd.eqb (by kernel_rfl) rfl rfl) ?_
            refine SWz.rd (i := 19) rfl rfl (Rd.pickY rfl (by simp) rfl) ?_
            refine SWz.rd (i := 20) rfl rfl (Rd.move rfl) ?_
            refine SWz.rdg (i := 21) rfl rfl rfl (by simp) rfl rfl (Rd.loadA 1 5 rfl rfl (by kernel_rfl) rfl ap_nil) ?_
            refine SWz.rdg (i := 22) rfl rfl rfl (by simp) rfl rfl (Rd.loadA 0 5 rfl rfl (by kernel_rfl) rfl ap_nil) ?_
            refine SWz.rdg (i := 24) rfl rfl rfl (by simp) rfl rfl (Rd.loadA 1 5 rfl rfl (by kernel_rfl) rfl ap_nil) ?_
            refine SWz.rdg (i := 25) rfl rfl rfl (by simp) rfl rfl (Rd.loadA 0 5 rfl rfl (by kernel_rfl) rfl ap_nil) ?_
            refine SWz.efng (i := 23) rfl rfl rfl (by simp) rfl (Ef.callN [] (con_equalE b x) rfl ⟨(sees_agg ⟨(sees_le (Le.refl _)), (sees_le (Le.refl _)), (sees_le (Le.refl _)), (sees_le (Le.refl _)), (sees_le (Le.refl _)), trivial⟩), (sees_agg ⟨(sees_le (Le.refl _)), (sees_le (Le.refl _)), (sees_le (Le.refl _)), (sees_le (Le.refl _)), (sees_le (Le.refl _)), trivial⟩), trivial⟩ rfl) ?_ SWz.no
            rintro _ rfl
            refine SWz.efng (i := 26) rfl rfl rfl (by simp) rfl (Ef.callN [] (con_sameE b x) rfl ⟨(sees_agg ⟨(sees_le (Le.refl _)), (sees_le (Le.refl _)), (sees_le (Le.refl _)), (sees_le (Le.refl _)), (sees_le (Le.refl _)), trivial⟩), (sees_agg ⟨(sees_le (Le.refl _)), (sees_le (Le.refl _)), (sees_le (Le.refl _)), (sees_le (Le.refl _)), (sees_le (Le.refl _)), trivial⟩), trivial⟩ rfl) ?_ SWz.no
            rintro _ rfl
            refine SWz.rdg (i := 27) rfl rfl rfl (by simp) rfl rfl (Rd.eqb (by kernel_rfl) rfl rfl) ?_
            refine SWz.rd (i := 28) rfl rfl (Rd.pickY rfl (by simp) rfl) ?_
            refine SWz.rd (i := 29) rfl rfl (Rd.move rfl) ?_
            refine SWz.rdg (i := 30) rfl rfl rfl (by simp) rfl rfl (Rd.loadA 0 5 rfl rfl (by kernel_rfl) rfl ap_nil) ?_
            refine SWz.rdg (i := 31) rfl rfl rfl (by simp) rfl rfl (Rd.loadA 0 5 rfl rfl (by kernel_rfl) rfl ap_nil) ?_
            refine SWz.efng (i := 32) rfl rfl rfl (by simp) rfl (Ef.callN [] (con_equalE x x) rfl ⟨(sees_agg ⟨(sees_le (Le.refl _)), (sees_le (Le.refl _)), (sees_le (Le.refl _)), (sees_le (Le.refl _)), (sees_le (Le.refl _)), trivial⟩), (sees_agg ⟨(sees_le (Le.refl _)), (sees_le (Le.refl _)), (sees_le (Le.refl _)), (sees_le (Le.refl _)), (sees_le (Le.refl _)), trivial⟩), trivial⟩ rfl) ?_ SWz.no
            rintro _ rfl
            refine SWz.rd (i := 33) rfl rfl (Rd.pickY rfl (by simp) rfl) ?_
            refine SWz.rd (i := 34) rfl rfl (Rd.move rfl) ?_
            refine SWz.efng (i := 35) rfl rfl rfl (by simp) rfl (Ef.callN [] (con_known42) rfl trivial rfl) ?_ SWz.no
            rintro _ rfl
            refine SWz.rd (i := 36) rfl rfl (Rd.pickY rfl (by simp) rfl) ?_
            refine SWz.rd (i := 37) rfl rfl (Rd.assign rfl) ?_
            refine SWz.nil ?_
            refine SN.then ?_
            refine SW.ret (fn := Tryd.f6) (fun _ _ h => h) (Rs.le (Rs.one rfl (ResV.tmp rfl)) ?_)
            exact le_bool_n rfl
        · skip
          refine SW.skip ?_
          refine SN.then ?_
          refine SW.seq ?_
          obtain ⟨x, hx⟩ : ∃ x : Env.T, x = a := ⟨_, rfl⟩
          have hxa : x.acc.length ≤ 1000000 := by rw [hx]; exact hea
          refine SW.sub (σ' := St.ob [(3, isD (.pointer (some ⟨g3, 0, none⟩))), (4, isD (.pointer (some ⟨g4, 0, none⟩)))] [.c g3 [strD x.acc, iD x.rnd, iD x.ser, bD x.box, bD x.tag], .c g4 [strD b.acc, iD b.rnd, iD b.ser, bD b.box, bD b.tag]]) (⟨⟨_, rfl, ⟨⟨_, rfl, Le.refl _⟩, ⟨⟨_, rfl, Le.refl _⟩, trivial⟩⟩⟩, [0, 1], by decide, ⟨⟨_, rfl, (by rw [hx]; exact LeAll.refl _)⟩, ⟨⟨_, rfl, LeAll.refl _⟩, trivial⟩⟩⟩) ?_
          refine SW.region ?_
          refine SWl.rd rfl (Rd.assign rfl) ?_
          refine SWl.nil ?_
          refine SN.then ?_
          refine SW.seq ?_
          refine SW.seq ?_
          refine SW.region ?_
          refine SWl.rd rfl (Rd.loadA 0 5 rfl rfl (by kernel_rfl) rfl ap_nil) ?_
          refine SWl.ef (S := []) (Ef.callN [] (con_validR42 x.acc x.rnd x.ser x.box.length x.tag.length (hxa)) rfl ⟨(sees_le (Le.agg ⟨Le.refl _, Le.refl _, Le.refl _, le_b_len, le_b_len, trivial⟩)), trivial⟩ rfl) ?_
          rintro _ rfl
          refine SWl.nil ?_
          refine SN.then ?_
          refine SW.cond rfl (fun hb27 => ?_) (fun hb27 => ?_)
          · have h27 : Env.ok x := of_decide_eq_true hb27
            refine SW.region ?_
            refine SWl.rd rfl (Rd.fieldAddr (n := 3) rfl (by kernel_rfl)) ?_
            refine SWl.rd rfl (Rd.loadB 0 rfl rfl rfl (by kernel_rfl) ap_nil) ?_
            refine SWl.rd rfl (Rd.len (e := 5) rfl (by kernel_rfl)) ?_
            refine SWl.rd rfl (Rd.subi rfl rfl ⟨by omega, by have := (Env.ok_len h27).2.2.2.2.2; rw [cellsOf_length]; omega⟩) ?_
            refine SWl.rd rfl (Rd.assign rfl) ?_
            refine SWl.nil ?_
            refine SN.then ?_
            refine SW.seq ?_
            refine SW.sub (σ' := St.ob [(3, isD (.pointer (some ⟨g3, 0, none⟩))), (4, isD (.pointer (some ⟨g4, 0, none⟩))), (7, iD (Env.sz x))] [.c g3 [strD x.acc, iD x.rnd, iD x.ser, bD x.box, bD x.tag], .c g4 [strD b.acc, iD b.rnd, iD b.ser, bD b.box, bD b.tag]]) (⟨⟨_, rfl, ⟨⟨_, rfl, Le.refl _⟩, ⟨⟨_, rfl, Le.refl _⟩, ⟨⟨_, rfl, Le.is (by unfold Env.sz; rw [if_pos h27, cellsOf_length])⟩, trivial⟩⟩⟩⟩, [0, 1], by decide, ⟨⟨_, rfl, LeAll.refl _⟩, ⟨⟨_, rfl, LeAll.refl _⟩, trivial⟩⟩⟩) ?_
            refine SW.draw [] (.r 0 (.r 2 (.n 1 (.n 3 (.r 4 (.r 5 (.r 6 (.r 8 (.n 7 (.r 9 (.r 10 (.r 11 (.r 12 (.r 13 (.r 15 (.r 16 (.n 14 (.n 17 (.r 18 (.r 19 (.r 20 (.r 21 (.r 22 (.r 24 (.r 25 (.n 23 (.n 26 (.r 27 (.r 28 (.r 29 (.r 30 (.r 31 (.n 32 (.r 33 (.r 34 (.n 35 (.r 36 (.r 37 .fin)) .no))) .no)))))) .no) .no)))))))) .no) .no)))))))) .no))))) .no) .no))) (by kernel_rfl) (by kernel_rfl) (fun d _ _ _ _ h => by cases d <;> exact h) ?_
            refine SWz.rd (i := 0) rfl rfl (Rd.loadA 0 5 rfl rfl (by kernel_rfl) rfl ap_nil) ?_
            refine SWz.rd (i := 2) rfl rfl (Rd.loadA 0 5 rfl rfl (by kernel_rfl) rfl ap_nil) ?_
            refine SWz.efn (i := 1) rfl (Ef.callN [] (con_validE x.acc x.rnd x.ser x.box.length x.tag.length) rfl ⟨(sees_le (Le.agg ⟨Le.refl _, Le.refl _, Le.refl _, le_b_len, le_b_len, trivial⟩)), trivial⟩ rfl) ?_ SWz.no
            rintro _ rfl
            refine SWz.efn (i := 3) rfl (Ef.callN [] (con_validR42 x.acc x.rnd x.ser x.box.length x.tag.length (hxa)) rfl ⟨(sees_le (Le.agg ⟨Le.refl _, Le.refl _, Le.refl _, le_b_len, le_b_len, trivial⟩)), trivial⟩ rfl) ?_ SWz.no
            rintro _ rfl
            refine SWz.rd (i := 4) rfl rfl (Rd.eqb (by kernel_rfl) rfl rfl) ?_
            refine SWz.rd (i := 5) rfl rfl (Rd.move rfl) ?_
            refine SWz.rdg (i := 6) rfl rfl rfl (by simp) rfl rfl (Rd.loadA 0 5 rfl rfl (by kernel_rfl) rfl ap_nil) ?_
            refine SWz.rdg (i := 8) rfl rfl rfl (by simp) rfl rfl (Rd.move rfl) ?_
            refine SWz.efng (i := 7) rfl rfl rfl (by simp) rfl (Ef.callN [] (con_sizeE x) rfl ⟨(sees_agg ⟨(sees_le (Le.refl _)), (sees_le (Le.refl _)), (sees_le (Le.refl _)), (sees_le (Le.refl _)), (sees_le (Le.refl _)), trivial⟩), trivial⟩ rfl) ?_ SWz.no
            rintro _ rfl
            refine SWz.rdg (i := 9) rfl rfl rfl (by simp) rfl rfl (Rd.eqi rfl rfl) ?_
            refine SWz.rd (i := 10) rfl rfl (Rd.pickY rfl (by simp) rfl) ?_
            refine SWz.rd (i := 11) rfl rfl (Rd.move rfl) ?_
            refine SWz.rdg (i := 12) rfl rfl rfl (by simp) rfl rfl (Rd.loadA 0 5 rfl rfl (by kernel_rfl) rfl ap_nil) ?_
            refine SWz.rdg (i := 13) rfl rfl rfl (by simp) rfl rfl (Rd.loadA 1 5 rfl rfl (by kernel_rfl) rfl ap_nil) ?_
            refine SWz.rdg (i := 15) rfl rfl rfl (by simp) rfl rfl (Rd.loadA 0 5 rfl rfl (by kernel_rfl) rfl ap_nil) ?_
            refine SWz.rdg (i := 16) rfl rfl rfl (by simp) rfl rfl (Rd.loadA 1 5 rfl rfl (by kernel_rfl) rfl ap_nil) ?_
            refine SWz.efng (i := 14) rfl rfl rfl (by simp) rfl (Ef.callN [] (con_equalE x b) rfl ⟨(sees_agg ⟨(sees_le (Le.refl _)), (sees_le (Le.refl _)), (sees_le (Le.refl _)), (sees_le (Le.refl _)), (sees_le (Le.refl _)), trivial⟩), (sees_agg ⟨(sees_le (Le.refl _)), (sees_le (Le.refl _)), (sees_le (Le.refl _)), (sees_le (Le.refl _)), (sees_le (Le.refl _)), trivial⟩), trivial⟩ rfl) ?_ SWz.no
            rintro _ rfl
            refine SWz.efng (i := 17) rfl rfl rfl (by simp) rfl (Ef.callN [] (con_sameE x b) rfl ⟨(sees_agg ⟨(sees_le (Le.refl _)), (sees_le (Le.refl _)), (sees_le (Le.refl _)), (sees_le (Le.refl _)), (sees_le (Le.refl _)), trivial⟩), (sees_agg ⟨(sees_le (Le.refl _)), (sees_le (Le.refl _)), (sees_le (Le.refl _)), (sees_le (Le.refl _)), (sees_le (Le.refl _)), trivial⟩), trivial⟩ rfl) ?_ SWz.no
            rintro _ rfl
            refine SWz.rdg (i := 18) rfl rfl rfl (by simp) rfl rfl (Rd.eqb (by kernel_rfl) rfl rfl) ?_
            refine SWz.rd (i := 19) rfl rfl (Rd.pickY rfl (by simp) rfl) ?_
            refine SWz.rd (i := 20) rfl rfl (Rd.move rfl) ?_
            refine SWz.rdg (i := 21) rfl rfl rfl (by simp) rfl rfl (Rd.loadA 1 5 rfl rfl (by kernel_rfl) rfl ap_nil) ?_
            refine SWz.rdg (i := 22) rfl rfl rfl (by simp) rfl rfl (Rd.loadA 0 5 rfl rfl (by kernel_rfl) rfl ap_nil) ?_
            refine SWz.rdg (i := 24) rfl rfl rfl (by simp) rfl rfl (Rd.loadA 1 5 rfl rfl (by kernel_rfl) rfl ap_nil) ?_
            refine SWz.rdg (i := 25) rfl rfl rfl (by simp) rfl rfl (Rd.loadA 0 5 rfl rfl (by kernel_rfl) rfl ap_nil) ?_
            refine SWz.efng (i := 23) rfl rfl rfl (by simp) rfl (Ef.callN [] (con_equalE b x) rfl ⟨(sees_agg ⟨(sees_le (Le.refl _)), (sees_le (Le.refl _)), (sees_le (Le.refl _)), (sees_le (Le.refl _)), (sees_le (Le.refl _)), trivial⟩), (sees_agg ⟨(sees_le (Le.refl _)), (sees_le (Le.refl _)), (sees_le (Le.refl _)), (sees_le (Le.refl _)), (sees_le (Le.refl _)), trivial⟩), trivial⟩ rfl) ?_ SWz.no
            rintro _ rfl
            refine SWz.efng (i := 26) rfl rfl rfl (by simp) rfl (Ef.callN [] (con_sameE b x) rfl ⟨(sees_agg ⟨(sees_le (Le.refl _)), (sees_le (Le.refl _)), (sees_le (Le.refl _)), (sees_le (Le.refl _)), (sees_le (Le.refl _)), trivial⟩), (sees_agg ⟨(sees_le (Le.refl _)), (sees_le (Le.refl _)), (sees_le (Le.refl _)), (sees_le (Le.refl _)), (sees_le (Le.refl _)), trivial⟩), trivial⟩ rfl) ?_ SWz.no
            rintro _ rfl
            refine SWz.rdg (i := 27) rfl rfl rfl (by simp) rfl rfl (Rd.eqb (by kernel_rfl) rfl rfl) ?_
            refine SWz.rd (i := 28) rfl rfl (Rd.pickY rfl (by simp) rfl) ?_
            refine SWz.rd (i := 29) rfl rfl (Rd.move rfl) ?_
            refine SWz.rdg (i := 30) rfl rfl rfl (by simp) rfl rfl (Rd.loadA 0 5 rfl rfl (by kernel_rfl) rfl ap_nil) ?_
            refine SWz.rdg (i := 31) rfl rfl rfl (by simp) rfl rfl (Rd.loadA 0 5 rfl rfl (by kernel_rfl) rfl ap_nil) ?_
            refine SWz.efng (i := 32) rfl rfl rfl (by simp) rfl (Ef.callN [] (con_equalE x x) rfl ⟨(sees_agg ⟨(sees_le (Le.refl _)), (sees_le (Le.refl _)), (sees_le (Le.refl _)), (sees_le (Le.refl _)), (sees_le (Le.refl _)), trivial⟩), (sees_agg ⟨(sees_le (Le.refl _)), (sees_le (Le.refl _)), (sees_le (Le.refl _)), (sees_le (Le.refl _)), (sees_le (Le.refl _)), trivial⟩), trivial⟩ rfl) ?_ SWz.no
            rintro _ rfl
            refine SWz.rd (i := 33) rfl rfl (Rd.pickY rfl (by simp) rfl) ?_
            refine SWz.rd (i := 34) rfl rfl (Rd.move rfl) ?_
            refine SWz.efng (i := 35) rfl rfl rfl (by simp) rfl (Ef.callN [] (con_known42) rfl trivial rfl) ?_ SWz.no
            rintro _ rfl
            refine SWz.rd (i := 36) rfl rfl (Rd.pickY rfl (by simp) rfl) ?_
            refine SWz.rd (i := 37) rfl rfl (Rd.assign rfl) ?_
            refine SWz.nil ?_
            refine SN.then ?_
            refine SW.ret (fn := Tryd.f6) (fun _ _ h => h) (Rs.le (Rs.one rfl (ResV.tmp rfl)) ?_)
            exact le_bool_n rfl
          · have h27 : ¬ Env.ok x := of_decide_eq_false hb27
            refine SW.skip ?_
            refine SN.then ?_
            refine SW.seq ?_
            refine SW.sub (σ' := St.ob [(3, isD (.pointer (some ⟨g3, 0, none⟩))), (4, isD (.pointer (some ⟨g4, 0, none⟩))), (7, iD (Env.sz x))] [.c g3 [strD x.acc, iD x.rnd, iD x.ser, bD x.box, bD x.tag], .c g4 [strD b.acc, iD b.rnd, iD b.ser, bD b.box, bD b.tag]]) (⟨⟨_, rfl, ⟨⟨_, rfl, Le.refl _⟩, ⟨⟨_, rfl, Le.refl _⟩, ⟨⟨_, rfl, Le.is (by unfold Env.sz; rw [if_neg h27])⟩, trivial⟩⟩⟩⟩, [0, 1], by decide, ⟨⟨_, rfl, LeAll.refl _⟩, ⟨⟨_, rfl, LeAll.refl _⟩, trivial⟩⟩⟩) ?_
            refine SW.draw [] (.r 0 (.r 2 (.n 1 (.n 3 (.r 4 (.r 5 (.r 6 (.r 8 (.n 7 (.r 9 (.r 10 (.r 11 (.r 12 (.r 13 (.r 15 (.r 16 (.n 14 (.n 17 (.r 18 (.r 19 (.r 20 (.r 21 (.r 22 (.r 24 (.r 25 (.n 23 (.n 26 (.r 27 (.r 28 (.r 29 (.r 30 (.r 31 (.n 32 (.r 33 (.r 34 (.n 35 (.r 36 (.r 37 .fin)) .no))) .no)))))) .no) .no)))))))) .no) .no)))))))) .no))))) .no) .no))) (by kernel_rfl) (by kernel_rfl) (fun d _ _ _ _ h => by cases d <;> exact h) ?_
            refine SWz.rd (i := 0) rfl rfl (Rd.loadA 0 5 rfl rfl (by kernel_rfl) rfl ap_nil) ?_
            refine SWz.rd (i := 2) rfl rfl (Rd.loadA 0 5 rfl rfl (by kernel_rfl) rfl ap_nil) ?_
            refine SWz.efn (i := 1) rfl (Ef.callN [] (con_validE x.acc x.rnd x.ser x.box.length x.tag.length) rfl ⟨(sees_le (Le.agg ⟨Le.refl _, Le.refl _, Le.refl _, le_b_len, le_b_len, trivial⟩)), trivial⟩ rfl) ?_ SWz.no
            rintro _ rfl
            refine SWz.efn (i := 3) rfl (Ef.callN [] (con_validR42 x.acc x.rnd x.ser x.box.length x.tag.length (hxa)) rfl ⟨(sees_le (Le.agg ⟨Le.refl _, Le.refl _, Le.refl _, le_b_len, le_b_len, trivial⟩)), trivial⟩ rfl) ?_ SWz.no
            rintro _ rfl
            refine SWz.rd (i := 4) rfl rfl (Rd.eqb (by kernel_rfl) rfl rfl) ?_
            refine SWz.rd (i := 5) rfl rfl (Rd.move rfl) ?_
            refine SWz.rdg (i := 6) rfl rfl rfl (by simp) rfl rfl (Rd.loadA 0 5 rfl rfl (by kernel_rfl) rfl ap_nil) ?_
            refine SWz.rdg (i := 8) rfl rfl rfl (by simp) rfl rfl (Rd.move rfl) ?_
            refine SWz.efng (i := 7) rfl rfl rfl (by simp) rfl (Ef.callN [] (con_sizeE x) rfl ⟨(sees_agg ⟨(sees_le (Le.refl _)), (sees_le (Le.refl _)), (sees_le (Le.refl _)), (sees_le (Le.refl _)), (sees_le (Le.refl _)), trivial⟩), trivial⟩ rfl) ?_ SWz.no
            rintro _ rfl
            refine SWz.rdg (i := 9) rfl rfl rfl (by simp) rfl rfl (Rd.eqi rfl rfl) ?_
            refine SWz.rd (i := 10) rfl rfl (Rd.pickY rfl (by simp) rfl) ?_
            refine SWz.rd (i := 11) rfl rfl (Rd.move rfl) ?_
            refine SWz.rdg (i := 12) rfl rfl rfl (by simp) rfl rfl (Rd.loadA 0 5 rfl rfl (by kernel_rfl) rfl ap_nil) ?_
            refine SWz.rdg (i := 13) rfl rfl rfl (by simp) rfl rfl (Rd.loadA 1 5 rfl rfl (by kernel_rfl) rfl ap_nil) ?_
            refine SWz.rdg (i := 15) rfl rfl rfl (by simp) rfl rfl (Rd.loadA 0 5 rfl rfl (by kernel_rfl) rfl ap_nil) ?_
            refine SWz.rdg (i := 16) rfl rfl rfl (by simp) rfl rfl (Rd.loadA 1 5 rfl rfl (by kernel_rfl) rfl ap_nil) ?_
            refine SWz.efng (i := 14) rfl rfl rfl (by simp) rfl (Ef.callN [] (con_equalE x b) rfl ⟨(sees_agg ⟨(sees_le (Le.refl _)), (sees_le (Le.refl _)), (sees_le (Le.refl _)), (sees_le (Le.refl _)), (sees_le (Le.refl _)), trivial⟩), (sees_agg ⟨(sees_le (Le.refl _)), (sees_le (Le.refl _)), (sees_le (Le.refl _)), (sees_le (Le.refl _)), (sees_le (Le.refl _)), trivial⟩), trivial⟩ rfl) ?_ SWz.no
            rintro _ rfl
            refine SWz.efng (i := 17) rfl rfl rfl (by simp) rfl (Ef.callN [] (con_sameE x b) rfl ⟨(sees_agg ⟨(sees_le (Le.refl _)), (sees_le (Le.refl _)), (sees_le (Le.refl _)), (sees_le (Le.refl _)), (sees_le (Le.refl _)), trivial⟩), (sees_agg ⟨(sees_le (Le.refl _)), (sees_le (Le.refl _)), (sees_le (Le.refl _)), (sees_le (Le.refl _)), (sees_le (Le.refl _)), trivial⟩), trivial⟩ rfl) ?_ SWz.no
            rintro _ rfl
            refine SWz.rdg (i := 18) rfl rfl rfl (by simp) rfl rfl (Rd.eqb (by kernel_rfl) rfl rfl) ?_
            refine SWz.rd (i := 19) rfl rfl (Rd.pickY rfl (by simp) rfl) ?_
            refine SWz.rd (i := 20) rfl rfl (Rd.move rfl) ?_
            refine SWz.rdg (i := 21) rfl rfl rfl (by simp) rfl rfl (Rd.loadA 1 5 rfl rfl (by kernel_rfl) rfl ap_nil) ?_
            refine SWz.rdg (i := 22) rfl rfl rfl (by simp) rfl rfl (Rd.loadA 0 5 rfl rfl (by kernel_rfl) rfl ap_nil) ?_
            refine SWz.rdg (i := 24) rfl rfl rfl (by simp) rfl rfl (Rd.loadA 1 5 rfl rfl (by kernel_rfl) rfl ap_nil) ?_
            refine SWz.rdg (i := 25) rfl rfl rfl (by simp) rfl rfl (Rd.loadA 0 5 rfl rfl (by kernel_rfl) rfl ap_nil) ?_
            refine SWz.efng (i := 23) rfl rfl rfl (by simp) rfl (Ef.callN [] (con_equalE b x) rfl ⟨(sees_agg ⟨(sees_le (Le.refl _)), (sees_le (Le.refl _)), (sees_le (Le.refl _)), (sees_le (Le.refl _)), (sees_le (Le.refl _)), trivial⟩), (sees_agg ⟨(sees_le (Le.refl _)), (sees_le (Le.refl _)), (sees_le (Le.refl _)), (sees_le (Le.refl _)), (sees_le (Le.refl _)), trivial⟩), trivial⟩ rfl) ?_ SWz.no
            rintro _ rfl
            refine SWz.efng (i := 26) rfl rfl rfl (by simp) rfl (Ef.callN [] (con_sameE b x) rfl ⟨(sees_agg ⟨(sees_le (Le.refl _)), (sees_le (Le.refl _)), (sees_le (Le.refl _)), (sees_le (Le.refl _)), (sees_le (Le.refl _)), trivial⟩), (sees_agg ⟨(sees_le (Le.refl _)), (sees_le (Le.refl _)), (sees_le (Le.refl _)), (sees_le (Le.refl _)), (sees_le (Le.refl _)), trivial⟩), trivial⟩ rfl) ?_ SWz.no
            rintro _ rfl
            refine SWz.rdg (i := 27) rfl rfl rfl (by simp) rfl rfl (Rd.eqb (by kernel_rfl) rfl rfl) ?_
            refine SWz.rd (i := 28) rfl rfl (Rd.pickY rfl (by simp) rfl) ?_
            refine SWz.rd (i := 29) rfl rfl (Rd.move rfl) ?_
            refine SWz.rdg (i := 30) rfl rfl rfl (by simp) rfl rfl (Rd.loadA 0 5 rfl rfl (by kernel_rfl) rfl ap_nil) ?_
            refine SWz.rdg (i := 31) rfl rfl rfl (by simp) rfl rfl (Rd.loadA 0 5 rfl rfl (by kernel_rfl) rfl ap_nil) ?_
            refine SWz.efng (i := 32) rfl rfl rfl (by simp) rfl (Ef.callN [] (con_equalE x x) rfl ⟨(sees_agg ⟨(sees_le (Le.refl _)), (sees_le (Le.refl _)), (sees_le (Le.refl _)), (sees_le (Le.refl _)), (sees_le (Le.refl _)), trivial⟩), (sees_agg ⟨(sees_le (Le.refl _)), (sees_le (Le.refl _)), (sees_le (Le.refl _)), (sees_le (Le.refl _)), (sees_le (Le.refl _)), trivial⟩), trivial⟩ rfl) ?_ SWz.no
            rintro _ rfl
            refine SWz.rd (i := 33) rfl rfl (Rd.pickY rfl (by simp) rfl) ?_
            refine SWz.rd (i := 34) rfl rfl (Rd.move rfl) ?_
            refine SWz.efng (i := 35) rfl rfl rfl (by simp) rfl (Ef.callN [] (con_known42) rfl trivial rfl) ?_ SWz.no
            rintro _ rfl
            refine SWz.rd (i := 36) rfl rfl (Rd.pickY rfl (by simp) rfl) ?_
            refine SWz.rd (i := 37) rfl rfl (Rd.assign rfl) ?_
            refine SWz.nil ?_
            refine SN.then ?_
            refine SW.ret (fn := Tryd.f6) (fun _ _ h => h) (Rs.le (Rs.one rfl (ResV.tmp rfl)) ?_)
            exact le_bool_n rfl
      · skip
        refine SWl.off rfl rfl (hb19) rfl rfl ?_
        refine SWl.off rfl rfl (hb19) rfl rfl ?_
        refine SWl.rd rfl (Rd.pickN rfl (hb19) rfl) ?_
        refine SWl.nil ?_
        refine SN.then ?_
        refine SW.condF rfl (rfl) ?_
        refine SW.skip ?_
        refine SN.then ?_
        refine SW.seq ?_
        obtain ⟨x, hx⟩ : ∃ x : Env.T, x = a := ⟨_, rfl⟩
        have hxa : x.acc.length ≤ 1000000 := by rw [hx]; exact hea
        refine SW.sub (σ' := St.ob [(3, isD (.pointer (some ⟨g3, 0, none⟩))), (4, isD (.pointer (some ⟨g4, 0, none⟩)))] [.c g3 [strD x.acc, iD x.rnd, iD x.ser, bD x.box, bD x.tag], .c g4 [strD b.acc, iD b.rnd, iD b.ser, bD b.box, bD b.tag]]) (⟨⟨_, rfl, ⟨⟨_, rfl, Le.refl _⟩, ⟨⟨_, rfl, Le.refl _⟩, trivial⟩⟩⟩, [0, 1], by decide, ⟨⟨_, rfl, (by rw [hx]; exact LeAll.refl _)⟩, ⟨⟨_, rfl, LeAll.refl _⟩, trivial⟩⟩⟩) ?_
        refine SW.region ?_
        refine SWl.rd rfl (Rd.assign rfl) ?_
        refine SWl.nil ?_
        refine SN.then ?_
        refine SW.seq ?_
        refine SW.seq ?_
        refine SW.region ?_
        refine SWl.rd rfl (Rd.loadA 0 5 rfl rfl (by kernel_rfl) rfl ap_nil) ?_
        refine SWl.ef (S := []) (Ef.callN [] (con_validR42 x.acc x.rnd x.ser x.box.length x.tag.length (hxa)) rfl ⟨(sees_le (Le.agg ⟨Le.refl _, Le.refl _, Le.refl _, le_b_len, le_b_len, trivial⟩)), trivial⟩ rfl) ?_
        rintro _ rfl
        refine SWl.nil ?_
        refine SN.then ?_
        refine SW.cond rfl (fun hb27 => ?_) (fun hb27 => ?_)
        · have h27 : Env.ok x := of_decide_eq_true hb27
          refine SW.region ?_
          refine SWl.rd rfl (Rd.fieldAddr (n := 3) rfl (by kernel_rfl)) ?_
          refine SWl.rd rfl (Rd.loadB 0 rfl rfl rfl (by kernel_rfl) ap_nil) ?_
          refine SWl.rd rfl (Rd.len (e := 5) rfl (by kernel_rfl)) ?_
          refine SWl.rd rfl (Rd.subi rfl rfl ⟨by omega, by have := (Env.ok_len h27).2.2.2.2.2; rw [cellsOf_length]; omega⟩) ?_
          refine SWl.rd rfl (Rd.assign rfl) ?_
          refine SWl.nil ?_
          refine SN.then ?_
          refine SW.seq ?_
          refine SW.sub (σ' := St.ob [(3, isD (.pointer (some ⟨g3, 0, none⟩))), (4, isD (.pointer (some ⟨g4, 0, none⟩))), (7, iD (Env.sz x))] [.c g3 [strD x.acc, iD x.rnd, iD x.ser, bD x.box, bD x.tag], .c g4 [strD b.acc, iD b.rnd, iD b.ser, bD b.box, bD b.tag]]) (⟨⟨_, rfl, ⟨⟨_, rfl, Le.refl _⟩, ⟨⟨_, rfl, Le.refl _⟩, ⟨⟨_, rfl, Le.is (by unfold Env.sz; rw [if_pos h27, cellsOf_length])⟩, trivial⟩⟩⟩⟩, [0, 1], by decide, ⟨⟨_, rfl, LeAll.refl _⟩, ⟨⟨_, rfl, LeAll.refl _⟩, trivial⟩⟩⟩) ?_
          refine SW.draw [] (.r 0 (.r 2 (.n 1 (.n 3 (.r 4 (.r 5 (.r 6 (.r 8 (.n 7 (.r 9 (.r 10 (.r 11 (.r 12 (.r 13 (.r 15 (.r 16 (.n 14 (.n 17 (.r 18 (.r 19 (.r 20 (.r 21 (.r 22 (.r 24 (.r 25 (.n 23 (.n 26 (.r 27 (.r 28 (.r 29 (.r 30 (.r 31 (.n 32 (.r 33 (.r 34 (.n 35 (.r 36 (.r 37 .fin)) .no))) .no)))))) .no) .no)))))))) .no) .no)))))))) .no))))) .no) .no))) (by kernel_rfl) (by kernel_rfl) (fun d _ _ _ _ h => by cases d <;> exact h) ?_
          refine SWz.rd (i := 0) rfl rfl (Rd.loadA 0 5 rfl rfl (by kernel_rfl) rfl ap_nil) ?_
          refine SWz.rd (i := 2) rfl rfl (Rd.loadA 0 5 rfl rfl (by kernel_rfl) rfl ap_nil) ?_
          refine SWz.efn (i := 1) rfl (Ef.callN [] (con_validE x.acc x.rnd x.ser x.box.length x.tag.length) rfl ⟨(sees_le (Le.agg ⟨Le.refl _, Le.refl _, Le.refl _, le_b_len, le_b_len, trivial⟩)), trivial⟩ rfl) ?_ SWz.no
          rintro _ rfl
          refine SWz.efn (i := 3) rfl (Ef.callN [] (con_validR42 x.acc x.rnd x.ser x.box.length x.tag.length (hxa)) rfl ⟨(sees_le (Le.agg ⟨Le.refl _, Le.refl _, Le.refl _, le_b_len, le_b_len, trivial⟩)), trivial⟩ rfl) ?_ SWz.no
          rintro _ rfl
          refine SWz.rd (i := 4) rfl rfl (Rd.eqb (by kernel_rfl) rfl rfl) ?_
          refine SWz.rd (i := 5) rfl rfl (Rd.move rfl) ?_
          refine SWz.rdg (i := 6) rfl rfl rfl (by simp) rfl rfl (Rd.loadA 0 5 rfl rfl (by kernel_rfl) rfl ap_nil) ?_
          refine SWz.rdg (i := 8) rfl rfl rfl (by simp) rfl rfl (Rd.move rfl) ?_
          refine SWz.efng (i := 7) rfl rfl rfl (by simp) rfl (Ef.callN [] (con_sizeE x) rfl ⟨(sees_agg ⟨(sees_le (Le.refl _)), (sees_le (Le.refl _)), (sees_le (Le.refl _)), (sees_le (Le.refl _)), (sees_le (Le.refl _)), trivial⟩), trivial⟩ rfl) ?_ SWz.no
          rintro _ rfl
          refine SWz.rdg (i := 9) rfl rfl rfl (by simp) rfl rfl (Rd.eqi rfl rfl) ?_
          refine SWz.rd (i := 10) rfl rfl (Rd.pickY rfl (by simp) rfl) ?_
          refine SWz.rd (i := 11) rfl rfl (Rd.move rfl) ?_
          refine SWz.rdg (i := 12) rfl rfl rfl (by simp) rfl rfl (Rd.loadA 0 5 rfl rfl (by kernel_rfl) rfl ap_nil) ?_
          refine SWz.rdg (i := 13) rfl rfl rfl (by simp) rfl rfl (Rd.loadA 1 5 rfl rfl (by kernel_rfl) rfl ap_nil) ?_
          refine SWz.rdg (i := 15) rfl rfl rfl (by simp) rfl rfl (Rd.loadA 0 5 rfl rfl (by kernel_rfl) rfl ap_nil) ?_
          refine SWz.rdg (i := 16) rfl rfl rfl (by simp) rfl rfl (Rd.loadA 1 5 rfl rfl (by kernel_rfl) rfl ap_nil) ?_
          refine SWz.efng (i := 14) rfl rfl rfl (by simp) rfl (Ef.callN [] (con_equalE x b) rfl ⟨(sees_agg ⟨(sees_le (Le.refl _)), (sees_le (Le.refl _)), (sees_le (Le.refl _)), (sees_le (Le.refl _)), (sees_le (Le.refl _)), trivial⟩), (sees_agg ⟨(sees_le (Le.refl _)), (sees_le (Le.refl _)), (sees_le (Le.refl _)), (sees_le (Le.refl _)), (sees_le (Le.refl _)), trivial⟩), trivial⟩ rfl) ?_ SWz.no
          rintro _ rfl
          refine SWz.efng (i := 17) rfl rfl rfl (by simp) rfl (Ef.callN [] (con_sameE x b) rfl ⟨(sees_agg ⟨(sees_le (Le.refl _)), (sees_le (Le.refl _)), (sees_le (Le.refl _)), (sees_le (Le.refl _)), (sees_le (Le.refl _)), trivial⟩), (sees_agg ⟨(sees_le (Le.refl _)), (sees_le (Le.refl _)), (sees_le (Le.refl _)), (sees_le (Le.refl _)), (sees_le (Le.refl _)), trivial⟩), trivial⟩ rfl) ?_ SWz.no
          rintro _ rfl
          refine SWz.rdg (i := 18) rfl rfl rfl (by simp) rfl rfl (Rd.eqb (by kernel_rfl) rfl rfl) ?_
          refine SWz.rd (i := 19) rfl rfl (Rd.pickY rfl (by simp) rfl) ?_
          refine SWz.rd (i := 20) rfl rfl (Rd.move rfl) ?_
          refine SWz.rdg (i := 21) rfl rfl rfl (by simp) rfl rfl (Rd.loadA 1 5 rfl rfl (by kernel_rfl) rfl ap_nil) ?_
          refine SWz.rdg (i := 22) rfl rfl rfl (by simp) rfl rfl (Rd.loadA 0 5 rfl rfl (by kernel_rfl) rfl ap_nil) ?_
          refine SWz.rdg (i := 24) rfl rfl rfl (by simp) rfl rfl (Rd.loadA 1 5 rfl rfl (by kernel_rfl) rfl ap_nil) ?_
          refine SWz.rdg (i := 25) rfl rfl rfl (by simp) rfl rfl (Rd.loadA 0 5 rfl rfl (by kernel_rfl) rfl ap_nil) ?_
          refine SWz.efng (i := 23) rfl rfl rfl (by simp) rfl (Ef.callN [] (con_equalE b x) rfl ⟨(sees_agg ⟨(sees_le (Le.refl _)), (sees_le (Le.refl _)), (sees_le (Le.refl _)), (sees_le (Le.refl _)), (sees_le (Le.refl _)), trivial⟩), (sees_agg ⟨(sees_le (Le.refl _)), (sees_le (Le.refl _)), (sees_le (Le.refl _)), (sees_le (Le.refl _)), (sees_le (Le.refl _)), trivial⟩), trivial⟩ rfl) ?_ SWz.no
          rintro _ rfl
          refine SWz.efng (i := 26) rfl rfl rfl (by simp) rfl (Ef.callN [] (con_sameE b x) rfl ⟨(sees_agg ⟨(sees_le (Le.refl _)), (sees_le (Le.refl _)), (sees_le (Le.refl _)), (sees_le (Le.refl _)), (sees_le (Le.refl _)), trivial⟩), (sees_agg ⟨(sees_le (Le.refl _)), (sees_le (Le.refl _)), (sees_le (Le.refl _)), (sees_le (Le.refl _)), (sees_le (Le.refl _)), trivial⟩), trivial⟩ rfl) ?_ SWz.no
          rintro _ rfl
          refine SWz.rdg (i := 27) rfl rfl rfl (by simp) rfl rfl (Rd.eqb (by kernel_rfl) rfl rfl) ?_
          refine SWz.rd (i := 28) rfl rfl (Rd.pickY rfl (by simp) rfl) ?_
          refine SWz.rd (i := 29) rfl rfl (Rd.move rfl) ?_
          refine SWz.rdg (i := 30) rfl rfl rfl (by simp) rfl rfl (Rd.loadA 0 5 rfl rfl (by kernel_rfl) rfl ap_nil) ?_
          refine SWz.rdg (i := 31) rfl rfl rfl (by simp) rfl rfl (Rd.loadA 0 5 rfl rfl (by kernel_rfl) rfl ap_nil) ?_
          refine SWz.efng (i := 32) rfl rfl rfl (by simp) rfl (Ef.callN [] (con_equalE x x) rfl ⟨(sees_agg ⟨(sees_le (Le.refl _)), (sees_le (Le.refl _)), (sees_le (Le.refl _)), (sees_le (Le.refl _)), (sees_le (Le.refl _)), trivial⟩), (sees_agg ⟨(sees_le (Le.refl _)), (sees_le (Le.refl _)), (sees_le (Le.refl _)), (sees_le (Le.refl _)), (sees_le (Le.refl _)), trivial⟩), trivial⟩ rfl) ?_ SWz.no
          rintro _ rfl
          refine SWz.rd (i := 33) rfl rfl (Rd.pickY rfl (by simp) rfl) ?_
          refine SWz.rd (i := 34) rfl rfl (Rd.move rfl) ?_
          refine SWz.efng (i := 35) rfl rfl rfl (by simp) rfl (Ef.callN [] (con_known42) rfl trivial rfl) ?_ SWz.no
          rintro _ rfl
          refine SWz.rd (i := 36) rfl rfl (Rd.pickY rfl (by simp) rfl) ?_
          refine SWz.rd (i := 37) rfl rfl (Rd.assign rfl) ?_
          refine SWz.nil ?_
          refine SN.then ?_
          refine SW.ret (fn := Tryd.f6) (fun _ _ h => h) (Rs.le (Rs.one rfl (ResV.tmp rfl)) ?_)
          exact le_bool_n rfl
        · have h27 : ¬ Env.ok x := of_decide_eq_false hb27
          refine SW.skip ?_
          refine SN.then ?_
          refine SW.seq ?_
          refine SW.sub (σ' := St.ob [(3, isD (.pointer (some ⟨g3, 0, none⟩))), (4, isD (.pointer (some ⟨g4, 0, none⟩))), (7, iD (Env.sz x))] [.c g3 [strD x.acc, iD x.rnd, iD x.ser, bD x.box, bD x.tag], .c g4 [strD b.acc, iD b.rnd, iD b.ser, bD b.box, bD b.tag]]) (⟨⟨_, rfl, ⟨⟨_, rfl, Le.refl _⟩, ⟨⟨_, rfl, Le.refl _⟩, ⟨⟨_, rfl, Le.is (by unfold Env.sz; rw [if_neg h27])⟩, trivial⟩⟩⟩⟩, [0, 1], by decide, ⟨⟨_, rfl, LeAll.refl _⟩, ⟨⟨_, rfl, LeAll.refl _⟩, trivial⟩⟩⟩) ?_
          refine SW.draw [] (.r 0 (.r 2 (.n 1 (.n 3 (.r 4 (.r 5 (.r 6 (.r 8 (.n 7 (.r 9 (.r 10 (.r 11 (.r 12 (.r 13 (.r 15 (.r 16 (.n 14 (.n 17 (.r 18 (.r 19 (.r 20 (.r 21 (.r 22 (.r 24 (.r 25 (.n 23 (.n 26 (.r 27 (.r 28 (.r 29 (.r 30 (.r 31 (.n 32 (.r 33 (.r 34 (.n 35 (.r 36 (.r 37 .fin)) .no))) .no)))))) .no) .no)))))))) .no) .no)))))))) .no))))) .no) .no))) (by kernel_rfl) (by kernel_rfl) (fun d _ _ _ _ h => by cases d <;> exact h) ?_
          refine SWz.rd (i := 0) rfl rfl (Rd.loadA 0 5 rfl rfl (by kernel_rfl) rfl ap_nil) ?_
          refine SWz.rd (i := 2) rfl rfl (Rd.loadA 0 5 rfl rfl (by kernel_rfl) rfl ap_nil) ?_
          refine SWz.efn (i := 1) rfl (Ef.callN [] (con_validE x.acc x.rnd x.ser x.box.length x.tag.length) rfl ⟨(sees_le (Le.agg ⟨Le.refl _, Le.refl _, Le.refl _, le_b_len, le_b_len, trivial⟩)), trivial⟩ rfl) ?_ SWz.no
          rintro _ rfl
          refine SWz.efn (i := 3) rfl (Ef.callN [] (con_validR42 x.acc x.rnd x.ser x.box.length x.tag.length (hxa)) rfl ⟨(sees_le (Le.agg ⟨Le.refl _, Le.refl _, Le.refl _, le_b_len, le_b_len, trivial⟩)), trivial⟩ rfl) ?_ SWz.no
          rintro _ rfl
          refine SWz.rd (i := 4) rfl rfl (Rd.eqb (by kernel_rfl) rfl rfl) ?_
          refine SWz.rd (i := 5) rfl rfl (Rd.move rfl) ?_
          refine SWz.rdg (i := 6) rfl rfl rfl (by simp) rfl rfl (Rd.loadA 0 5 rfl rfl (by kernel_rfl) rfl ap_nil) ?_
          refine SWz.rdg (i := 8) rfl rfl rfl (by simp) rfl rfl (Rd.move rfl) ?_
          refine SWz.efng (i := 7) rfl rfl rfl (by simp) rfl (Ef.callN [] (con_sizeE x) rfl ⟨(sees_agg ⟨(sees_le (Le.refl _)), (sees_le (Le.refl _)), (sees_le (Le.refl _)), (sees_le (Le.refl _)), (sees_le (Le.refl _)), trivial⟩), trivial⟩ rfl) ?_ SWz.no
          rintro _ rfl
          refine SWz.rdg (i := 9) rfl rfl rfl (by simp) rfl rfl (Rd.eqi rfl rfl) ?_
          refine SWz.rd (i := 10) rfl rfl (Rd.pickY rfl (by simp) rfl) ?_
          refine SWz.rd (i := 11) rfl rfl (Rd.move rfl) ?_
          refine SWz.rdg (i := 12) rfl rfl rfl (by simp) rfl rfl (Rd.loadA 0 5 rfl rfl (by kernel_rfl) rfl ap_nil) ?_
          refine SWz.rdg (i := 13) rfl rfl rfl (by simp) rfl rfl (Rd.loadA 1 5 rfl rfl (by kernel_rfl) rfl ap_nil) ?_
          refine SWz.rdg (i := 15) rfl rfl rfl (by simp) rfl rfl (Rd.loadA 0 5 rfl rfl (by kernel_rfl) rfl ap_nil) ?_
          refine SWz.rdg (i := 16) rfl rfl rfl (by simp) rfl rfl (Rd.loadA 1 5 rfl rfl (by kernel_rfl) rfl ap_nil) ?_
          refine SWz.efng (i := 14) rfl rfl rfl (by simp) rfl (Ef.callN [] (con_equalE x b) rfl ⟨(sees_agg ⟨(sees_le (Le.refl _)), (sees_le (Le.refl _)), (sees_le (Le.refl _)), (sees_le (Le.refl _)), (sees_le (Le.refl _)), trivial⟩), (sees_agg ⟨(sees_le (Le.refl _)), (sees_le (Le.refl _)), (sees_le (Le.refl _)), (sees_le (Le.refl _)), (sees_le (Le.refl _)), trivial⟩), trivial⟩ rfl) ?_ SWz.no
          rintro _ rfl
          refine SWz.efng (i := 17) rfl rfl rfl (by simp) rfl (Ef.callN [] (con_sameE x b) rfl ⟨(sees_agg ⟨(sees_le (Le.refl _)), (sees_le (Le.refl _)), (sees_le (Le.refl _)), (sees_le (Le.refl _)), (sees_le (Le.refl _)), trivial⟩), (sees_agg ⟨(sees_le (Le.refl _)), (sees_le (Le.refl _)), (sees_le (Le.refl _)), (sees_le (Le.refl _)), (sees_le (Le.refl _)), trivial⟩), trivial⟩ rfl) ?_ SWz.no
          rintro _ rfl
          refine SWz.rdg (i := 18) rfl rfl rfl (by simp) rfl rfl (Rd.eqb (by kernel_rfl) rfl rfl) ?_
          refine SWz.rd (i := 19) rfl rfl (Rd.pickY rfl (by simp) rfl) ?_
          refine SWz.rd (i := 20) rfl rfl (Rd.move rfl) ?_
          refine SWz.rdg (i := 21) rfl rfl rfl (by simp) rfl rfl (Rd.loadA 1 5 rfl rfl (by kernel_rfl) rfl ap_nil) ?_
          refine SWz.rdg (i := 22) rfl rfl rfl (by simp) rfl rfl (Rd.loadA 0 5 rfl rfl (by kernel_rfl) rfl ap_nil) ?_
          refine SWz.rdg (i := 24) rfl rfl rfl (by simp) rfl rfl (Rd.loadA 1 5 rfl rfl (by kernel_rfl) rfl ap_nil) ?_
          refine SWz.rdg (i := 25) rfl rfl rfl (by simp) rfl rfl (Rd.loadA 0 5 rfl rfl (by kernel_rfl) rfl ap_nil) ?_
          refine SWz.efng (i := 23) rfl rfl rfl (by simp) rfl (Ef.callN [] (con_equalE b x) rfl ⟨(sees_agg ⟨(sees_le (Le.refl _)), (sees_le (Le.refl _)), (sees_le (Le.refl _)), (sees_le (Le.refl _)), (sees_le (Le.refl _)), trivial⟩), (sees_agg ⟨(sees_le (Le.refl _)), (sees_le (Le.refl _)), (sees_le (Le.refl _)), (sees_le (Le.refl _)), (sees_le (Le.refl _)), trivial⟩), trivial⟩ rfl) ?_ SWz.no
          rintro _ rfl
          refine SWz.efng (i := 26) rfl rfl rfl (by simp) rfl (Ef.callN [] (con_sameE b x) rfl ⟨(sees_agg ⟨(sees_le (Le.refl _)), (sees_le (Le.refl _)), (sees_le (Le.refl _)), (sees_le (Le.refl _)), (sees_le (Le.refl _)), trivial⟩), (sees_agg ⟨(sees_le (Le.refl _)), (sees_le (Le.refl _)), (sees_le (Le.refl _)), (sees_le (Le.refl _)), (sees_le (Le.refl _)), trivial⟩), trivial⟩ rfl) ?_ SWz.no
          rintro _ rfl
          refine SWz.rdg (i := 27) rfl rfl rfl (by simp) rfl rfl (Rd.eqb (by kernel_rfl) rfl rfl) ?_
          refine SWz.rd (i := 28) rfl rfl (Rd.pickY rfl (by simp) rfl) ?_
          refine SWz.rd (i := 29) rfl rfl (Rd.move rfl) ?_
          refine SWz.rdg (i := 30) rfl rfl rfl (by simp) rfl rfl (Rd.loadA 0 5 rfl rfl (by kernel_rfl) rfl ap_nil) ?_
          refine SWz.rdg (i := 31) rfl rfl rfl (by simp) rfl rfl (Rd.loadA 0 5 rfl rfl (by kernel_rfl) rfl ap_nil) ?_
          refine SWz.efng (i := 32) rfl rfl rfl (by simp) rfl (Ef.callN [] (con_equalE x x) rfl ⟨(sees_agg ⟨(sees_le (Le.refl _)), (sees_le (Le.refl _)), (sees_le (Le.refl _)), (sees_le (Le.refl _)), (sees_le (Le.refl _)), trivial⟩), (sees_agg ⟨(sees_le (Le.refl _)), (sees_le (Le.refl _)), (sees_le (Le.refl _)), (sees_le (Le.refl _)), (sees_le (Le.refl _)), trivial⟩), trivial⟩ rfl) ?_ SWz.no
          rintro _ rfl
          refine SWz.rd (i := 33) rfl rfl (Rd.pickY rfl (by simp) rfl) ?_
          refine SWz.rd (i := 34) rfl rfl (Rd.move rfl) ?_
          refine SWz.efng (i := 35) rfl rfl rfl (by simp) rfl (Ef.callN [] (con_known42) rfl trivial rfl) ?_ SWz.no
          rintro _ rfl
          refine SWz.rd (i := 36) rfl rfl (Rd.pickY rfl (by simp) rfl) ?_
          refine SWz.rd (i := 37) rfl rfl (Rd.assign rfl) ?_
          refine SWz.nil ?_
          refine SN.then ?_
          refine SW.ret (fn := Tryd.f6) (fun _ _ h => h) (Rs.le (Rs.one rfl (ResV.tmp rfl)) ?_)
          exact le_bool_n rfl
end Sx
end Go.Proofs.YtchbgfgboogniaaDoor
