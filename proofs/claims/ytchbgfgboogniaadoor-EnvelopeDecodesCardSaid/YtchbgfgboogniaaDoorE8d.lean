/-
  ENVELOPES: EnvelopeDecodes.
-/
import Derived.Test.YtchbgfgboogniaaDoorE7
namespace Go.Proofs.YtchbgfgboogniaaDoor
open Go.RowKit
namespace Sx
set_option maxHeartbeats 4000000 in
set_option maxRecDepth 100000 in
theorem envelopeDecodes_con (p : List UInt8) (e : Env.T) : ConN Tryd.prog 8 [bD p, aggD [strD e.acc, iD e.rnd, iD e.ser, bD e.box, bD e.tag]] (boolD true) := by
  refine con_ofN Tryd.func8 (by kernel_rfl) rfl (by kernel_rfl) fun base w0 => ?_
  refine SW.seq ?_
  refine SW.region ?_
  refine SWl.ef (S := []) (Ef.boxA rfl rfl) ?_
  rintro _ ⟨g3, rfl⟩
  refine SWl.rd rfl (Rd.assign rfl) ?_
  refine SWl.nil ?_
  refine SN.then ?_
  refine SW.seq ?_
  refine SW.seq ?_
  refine SW.region ?_
  refine SWl.rd rfl (Rd.move rfl) ?_
  refine SWl.rd rfl (Rd.len (e := 5) rfl (by kernel_rfl)) ?_
  refine SWl.rd rfl (Rd.gtr rfl rfl) ?_
  refine SWl.rd rfl (Rd.move rfl) ?_
  refine SWl.split 14 rfl (fun hb14 => ?_) (fun hb14 => ?_)
  · skip
    refine SWl.off rfl rfl (hb14) rfl rfl ?_
    refine SWl.off rfl rfl (hb14) rfl rfl ?_
    refine SWl.off rfl rfl (hb14) rfl rfl ?_
    refine SWl.rd rfl (Rd.pickY rfl (hb14) rfl) ?_
    refine SWl.nil ?_
    refine SN.then ?_
    refine SW.condT rfl (rfl) ?_
    refine SW.seq ?_
    refine SW.region ?_
    refine SWl.ef (S := []) (Ef.callN [] (con_known42) rfl trivial rfl) ?_
    rintro _ rfl
    refine SWl.rd rfl (Rd.assign rfl) ?_
    refine SWl.nil ?_
    refine SN.then ?_
    refine SW.ret (fn := Tryd.f8) (fun _ _ h => h) (Rs.le (Rs.one rfl (ResV.tmp rfl)) ?_)
    exact le_bool_n rfl
  · have h14 : p.length ≤ 600 := (by have h := of_decide_eq_false hb14; rw [cellsOf_length] at h; omega)
    refine SWl.rdg rfl rfl (hb14) rfl rfl (Rd.loadA 0 5 rfl rfl (by kernel_rfl) rfl ap_nil) ?_
    refine SWl.efg (S := []) rfl rfl (hb14) rfl (Ef.callN [] (con_short e) rfl ⟨(sees_agg ⟨(sees_le (Le.refl _)), (sees_le (Le.refl _)), (sees_le (Le.refl _)), (sees_le (Le.refl _)), (sees_le (Le.refl _)), trivial⟩), trivial⟩ rfl) ?_
    rintro _ rfl
    refine SWl.rdg rfl rfl (hb14) rfl rfl (Rd.not rfl) ?_
    refine SWl.rd rfl (Rd.pickN rfl (hb14) rfl) ?_
    refine SWl.nil ?_
    refine SN.then ?_
    refine SW.cond rfl (fun hb18 => ?_) (fun hb18 => ?_)
    · skip
      refine SW.seq ?_
      refine SW.region ?_
      refine SWl.ef (S := []) (Ef.callN [] (con_known42) rfl trivial rfl) ?_
      rintro _ rfl
      refine SWl.rd rfl (Rd.assign rfl) ?_
      refine SWl.nil ?_
      refine SN.then ?_
      refine SW.ret (fn := Tryd.f8) (fun _ _ h => h) (Rs.le (Rs.one rfl (ResV.tmp rfl)) ?_)
      exact le_bool_n rfl
    · have h18 : Env.short e := (by simpa using hb18); have hea : e.acc.length ≤ 1000000 := (by have := h18.1; omega)
      refine SW.skip ?_
      refine SN.then ?_
      refine SW.seq ?_
      refine SW.sub (σ' := St.ob [(0, bD p), (3, isD (.pointer (some ⟨g3, 0, none⟩)))] [.c g3 [strD e.acc, iD e.rnd, iD e.ser, bD e.box, bD e.tag]]) (⟨⟨_, rfl, ⟨⟨_, rfl, Le.refl _⟩, ⟨⟨_, rfl, Le.refl _⟩, trivial⟩⟩⟩, [0], by decide, ⟨⟨_, rfl, LeAll.refl _⟩, trivial⟩⟩) ?_
      refine SW.vecN 5 1 encB ?_
      refine SW.region ?_
      refine SWl.rd rfl (Rd.move rfl) ?_
      refine SWl.ef (Ef.appT 1 1 1 rfl rfl (SrcT.b rfl) (by kernel_rfl) (by kernel_rfl) (by simp <;> omega) (by decide) (fun _ h => h) rfl) ?_
      rintro _ ⟨A22, F22, c22, rfl⟩
      refine SWl.freezeT 1 22 rfl rfl (le_ls_b _) ?_
      refine SWl.ef (S := []) (Ef.call (con_decodeE p (by omega)) rfl ⟨Le.refl _, trivial⟩ rfl) ?_
      rintro _ rfl
      refine SWl.rd rfl (Rd.move rfl) ?_
      refine SWl.rd rfl (Rd.extract rfl rfl) ?_
      refine SWl.rd rfl (Rd.extract rfl rfl) ?_
      refine SWl.ef (S := []) (Ef.alloc (zs := [.string ⟨#[]⟩, .int .i64 0, .int .i64 0, .slice none 0 0, .slice none 0 0]) (by kernel_rfl) rfl) ?_
      rintro _ ⟨g5, rfl⟩
      refine SWl.ef (S := [_]) (Ef.storeA 1 rfl rfl rfl (by kernel_rfl) rfl (List.mem_singleton.2 rfl)) ?_
      rintro _ rfl
      refine SWl.rd rfl (Rd.assign rfl) ?_
      refine SWl.nil ?_
      refine SN.then ?_
      refine SW.seq ?_
      obtain ⟨x, hx⟩ : ∃ x, x = Env.dec p := ⟨_, rfl⟩
      obtain ⟨n, hn⟩ : ∃ n, n = Env.decE p := ⟨_, rfl⟩
      refine SW.sub (σ' := St.ob [(0, bD p), (3, isD (.pointer (some ⟨g3, 0, none⟩))), (5, isD (.pointer (some ⟨g5, 0, none⟩))), (6, iD n)] [.c g3 [strD e.acc, iD e.rnd, iD e.ser, bD e.box, bD e.tag], .c g5 [strD x.acc, iD x.rnd, iD x.ser, bD x.box, bD x.tag]]) (⟨⟨_, rfl, ⟨⟨_, rfl, Le.refl _⟩, ⟨⟨_, rfl, Le.refl _⟩, ⟨⟨_, rfl, Le.refl _⟩, ⟨⟨_, rfl, Le.is (by rw [hn])⟩, trivial⟩⟩⟩⟩⟩, [0, 1], by decide, ⟨⟨_, rfl, LeAll.refl _⟩, ⟨⟨_, rfl, (by rw [hx]; exact LeAll.refl _)⟩, trivial⟩⟩⟩) ?_
      refine SW.region ?_
      refine SWl.rd rfl (Rd.move rfl) ?_
      refine SWl.ef (S := []) (Ef.call (con_decodeER p (by omega)) rfl ⟨Le.refl _, trivial⟩ rfl) ?_
      rintro _ rfl
      refine SWl.rd rfl (Rd.move rfl) ?_
      refine SWl.rd rfl (Rd.extract rfl rfl) ?_
      refine SWl.rd rfl (Rd.extract rfl rfl) ?_
      refine SWl.ef (S := []) (Ef.alloc (zs := [.string ⟨#[]⟩, .int .i64 0, .int .i64 0, .slice none 0 0, .slice none 0 0]) (by kernel_rfl) rfl) ?_
      rintro _ ⟨g7, rfl⟩
      refine SWl.ef (S := [_]) (Ef.storeA 2 rfl rfl rfl (by kernel_rfl) rfl (List.mem_singleton.2 rfl)) ?_
      rintro _ rfl
      refine SWl.rd rfl (Rd.assign rfl) ?_
      refine SWl.nil ?_
      refine SN.then ?_
      refine SW.seq ?_
      refine SW.seq ?_
      refine SW.sub (σ' := St.ob [(3, isD (.pointer (some ⟨g3, 0, none⟩))), (5, isD (.pointer (some ⟨g5, 0, none⟩))), (6, iD n), (7, isD (.pointer (some ⟨g7, 0, none⟩))), (8, iD n)] [.c g3 [strD e.acc, iD e.rnd, iD e.ser, bD e.box, bD e.tag], .c g5 [strD x.acc, iD x.rnd, iD x.ser, bD x.box, bD x.tag], .c g7 [strD x.acc, iD x.rnd, iD x.ser, bD x.box, bD x.tag]]) (⟨⟨_, rfl, ⟨⟨_, rfl, Le.refl _⟩, ⟨⟨_, rfl, Le.refl _⟩, ⟨⟨_, rfl, Le.refl _⟩, ⟨⟨_, rfl, Le.refl _⟩, ⟨⟨_, rfl, Le.is (by rw [hn])⟩, trivial⟩⟩⟩⟩⟩⟩, [0, 1, 2], by decide, ⟨⟨_, rfl, LeAll.refl _⟩, ⟨⟨_, rfl, LeAll.refl _⟩, ⟨⟨_, rfl, (by rw [hx]; exact LeAll.refl _)⟩, trivial⟩⟩⟩⟩) ?_
      refine SW.region ?_
      refine SWl.rd rfl (Rd.loadA 1 5 rfl rfl (by kernel_rfl) rfl ap_nil) ?_
      refine SWl.rd rfl (Rd.loadA 2 5 rfl rfl (by kernel_rfl) rfl ap_nil) ?_
      refine SWl.ef (S := []) (Ef.callN [] (con_sameE x x) rfl ⟨(sees_agg ⟨(sees_le (Le.refl _)), (sees_le (Le.refl _)), (sees_le (Le.refl _)), (sees_le (Le.refl _)), (sees_le (Le.refl _)), trivial⟩), (sees_agg ⟨(sees_le (Le.refl _)), (sees_le (Le.refl _)), (sees_le (Le.refl _)), (sees_le (Le.refl _)), (sees_le (Le.refl _)), trivial⟩), trivial⟩ rfl) ?_
      rintro _ rfl
      refine SWl.rd rfl (Rd.not rfl) ?_
      refine SWl.rd rfl (Rd.move rfl) ?_
      refine SWl.rdg rfl rfl (by simp) rfl rfl (Rd.move rfl) ?_
      refine SWl.rdg rfl rfl (by simp) rfl rfl (Rd.move rfl) ?_
      refine SWl.rdg rfl rfl (by simp) rfl rfl (Rd.nei rfl rfl) ?_
      refine SWl.rd rfl (Rd.pickN rfl (by simp) rfl) ?_
      refine SWl.nil ?_
      refine SN.then ?_
      refine SW.condF rfl (by simp) ?_
      refine SW.skip ?_
      refine SN.then ?_
      refine SW.seq ?_
      refine SW.sub (σ' := St.ob [(3, isD (.pointer (some ⟨g3, 0, none⟩)))] [.c g3 [strD e.acc, iD e.rnd, iD e.ser, bD e.box, bD e.tag]]) (⟨⟨_, rfl, ⟨⟨_, rfl, Le.refl _⟩, trivial⟩⟩, [0], by decide, ⟨⟨_, rfl, LeAll.refl _⟩, trivial⟩⟩) ?_
      refine SW.region ?_
      refine SWl.rd rfl (Rd.loadA 0 5 rfl rfl (by kernel_rfl) rfl ap_nil) ?_
      refine SWl.ef (S := []) (Ef.call (con_encodeE e) rfl ⟨Le.refl _, trivial⟩ rfl) ?_
      rintro _ rfl
      refine SWl.rd rfl (Rd.move rfl) ?_
      refine SWl.rd rfl (Rd.extract rfl rfl) ?_
      refine SWl.rd rfl (Rd.extract rfl rfl) ?_
      refine SWl.rd rfl (Rd.assign rfl) ?_
      refine SWl.rd rfl (Rd.assign rfl) ?_
      refine SWl.nil ?_
      refine SN.then ?_
      refine SW.seq ?_
      refine SW.seq ?_
      refine SW.region ?_
      refine SWl.rd rfl (Rd.loadA 0 5 rfl rfl (by kernel_rfl) rfl ap_nil) ?_
      refine SWl.ef (S := []) (Ef.callN [] (con_validR42 e.acc e.rnd e.ser e.box.length e.tag.length (hea)) rfl ⟨(sees_le (Le.agg ⟨Le.refl _, Le.refl _, Le.refl _, le_b_len, le_b_len, trivial⟩)), trivial⟩ rfl) ?_
      rintro _ rfl
      refine SWl.rd rfl (Rd.not rfl) ?_
      refine SWl.nil ?_
      refine SN.then ?_
      refine SW.cond rfl (fun hb47 => ?_) (fun hb47 => ?_)
      · have h47 : ¬ Env.ok e := by (intro h; rw [show decide (Env.okV e.acc e.rnd e.ser e.box.length e.tag.length) = true from okD_t h] at hb47; cases hb47)
        refine SW.seq ?_
        refine SW.region ?_
        refine SWl.rd rfl (Rd.move rfl) ?_
        refine SWl.rd rfl (Rd.len (e := 5) rfl (by kernel_rfl)) ?_
        refine SWl.rd rfl (Rd.eqi rfl rfl) ?_
        refine SWl.rd rfl (Rd.move rfl) ?_
        refine SWl.rdg rfl rfl (by simp [Env.encQ, h47, cellsOf]) rfl rfl (Rd.move rfl) ?_
        refine SWl.rdg rfl rfl (by simp [Env.encQ, h47, cellsOf]) rfl rfl (Rd.eqi rfl rfl) ?_
        refine SWl.rd rfl (Rd.pickY rfl (by simp [Env.encQ, h47, cellsOf]) rfl) ?_
        refine SWl.rd rfl (Rd.move rfl) ?_
        refine SWl.efg (S := []) rfl rfl (by simp [Env.encE, h47]) rfl (Ef.callN [] (con_known42) rfl trivial rfl) ?_
        rintro _ rfl
        refine SWl.rd rfl (Rd.pickY rfl (by simp [Env.encE, h47]) rfl) ?_
        refine SWl.rd rfl (Rd.assign rfl) ?_
        refine SWl.nil ?_
        refine SN.then ?_
        refine SW.ret (fn := Tryd.f8) (fun _ _ h => h) (Rs.le (Rs.one rfl (ResV.tmp rfl)) ?_)
        exact le_bool_n rfl
      · have h47 : Env.ok e := by (by_cases h : Env.ok e; exact h; rw [show decide (Env.okV e.acc e.rnd e.ser e.box.length e.tag.length) = false from okD_f h] at hb47; cases hb47)
        refine SW.skip ?_
        refine SN.then ?_
        refine SW.seq ?_
        refine SW.draw [] (.r 0 (.r 1 (.r 2 (.r 3 (.r 4 (.r 5 (.n 6 (.r 7 (.r 8 (.r 9 (.r 10 (.n 11 (.r 12 (.r 13 .fin)) .no))))) .no))))))) (by kernel_rfl) (by kernel_rfl) (fun d _ _ _ _ h => by cases d <;> exact h) ?_
        refine SWz.rd (i := 0) rfl rfl (Rd.move rfl) ?_
        refine SWz.rd (i := 1) rfl rfl (Rd.eqi rfl rfl) ?_
        refine SWz.rd (i := 2) rfl rfl (Rd.move rfl) ?_
        refine SWz.rdg (i := 3) rfl rfl rfl (by simp [Env.encE, h47]) rfl rfl (Rd.move rfl) ?_
        refine SWz.rdg (i := 4) rfl rfl rfl (by simp [Env.encE, h47]) rfl rfl (Rd.str (e := 5) rfl (by kernel_rfl) (by kernel_rfl) (by kernel_rfl) (by simp)) ?_
        refine SWz.rdg (i := 5) rfl rfl rfl (by simp [Env.encE, h47]) rfl rfl (Rd.loadA 0 5 rfl rfl (by kernel_rfl) rfl ap_nil) ?_
        refine SWz.efng (i := 6) rfl rfl rfl (by simp [Env.encE, h47]) rfl (Ef.call (con_encodeER e h47) rfl ⟨Le.refl _, trivial⟩ rfl) ?_ SWz.no
        rintro _ rfl
        refine SWz.rdg (i := 7) rfl rfl rfl (by simp [Env.encE, h47]) rfl rfl (Rd.str (e := 5) rfl (by kernel_rfl) (by kernel_rfl) (by kernel_rfl) (by simp)) ?_
        refine SWz.rdg (i := 8) rfl rfl rfl (by simp [Env.encE, h47]) rfl rfl (Rd.eqs (p := Env.encQ e) (q := Env.enc e) rfl rfl) ?_
        refine SWz.rd (i := 9) rfl rfl (Rd.pickY rfl (by simp [Env.encE, h47]) rfl) ?_
        refine SWz.rd (i := 10) rfl rfl (Rd.move rfl) ?_
        refine SWz.efng (i := 11) rfl rfl rfl (by simp [Env.encQ, h47]) rfl (Ef.callN [] (con_known42) rfl trivial rfl) ?_ SWz.no
        rintro _ rfl
        refine SWz.rd (i := 12) rfl rfl (Rd.pickY rfl (by simp [Env.encQ, h47]) rfl) ?_
        refine SWz.rd (i := 13) rfl rfl (Rd.assign rfl) ?_
        refine SWz.nil ?_
        refine SN.then ?_
        refine SW.ret (fn := Tryd.f8) (fun _ _ h => h) (Rs.le (Rs.one rfl (ResV.tmp rfl)) ?_)
        exact le_bool_n rfl
end Sx
end Go.Proofs.YtchbgfgboogniaaDoor
