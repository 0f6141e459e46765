/-
  LEDGERS: LedgerFull.
-/
import Derived.Test.YtonjpfpdpfonnaaDoorL21
namespace Go.Proofs.YtonjpfpdpfonnaaDoor
open Go.RowKit
namespace Sx
def zeros (n : Nat) : List Led.Ent := List.replicate n ⟨0, []⟩
theorem zeros_0 : zeros 0 = [] := by unfold zeros; rfl
theorem zeros_len (n : Nat) : (zeros n).length = n := by unfold zeros; simp
theorem zeros_fit (n : Nat) : ∀ e ∈ zeros n, Led.Ent.fit e := fun e he => by
  unfold zeros at he
  rw [List.eq_of_mem_replicate he]
  simp [Led.Ent.fit]
theorem zeros_app {i : Nat} (h : i < 4096) : Led.app (zeros i) 0 [] = zeros (i + 1) ∧ Led.appE (zeros i) 0 [] = 0 ∧ Led.appI (zeros i) 0 [] = i := by
  have := Led.app_ok (es := zeros i) (k := 0) (b := []) (by simp) (by rw [zeros_len]; exact h)
  rw [this.1, this.2.1, this.2.2, zeros_len]
  exact ⟨by unfold zeros; rw [List.replicate_succ'], rfl, rfl⟩
theorem szs_zeros (n : Nat) : szs (zeros n) = 5 * n := by
  unfold zeros szs
  simp
  omega
theorem u8_fit (k : UInt8) : (0 : Int) ≤ (k.toNat : Int) ∧ (k.toNat : Int) ≤ 255 ∧ ([] : List UInt8).length ≤ 65536 := by
  have := k.toNat_lt
  exact ⟨by omega, by omega, by simp⟩
set_option maxHeartbeats 4000000 in
set_option maxRecDepth 100000 in
theorem ledgerFull_con (k : UInt8) : ConN Tryd.prog 6 [isD (B8 k)] (boolD true) := by
  refine con_ofN Tryd.func6 (by kernel_rfl) rfl (by kernel_rfl) fun base w0 => ?_
  refine SW.seq ?_
  refine SW.region ?_
  refine SWl.rd rfl (Rd.assign rfl) ?_
  refine SWl.nil ?_
  refine SN.then ?_
  refine SW.seq ?_
  refine SW.region ?_
  refine SWl.rd rfl (Rd.build rfl rfl bldL0) ?_
  refine SWl.ef (S := []) (Ef.boxA rfl rfl) ?_
  rintro _ ⟨g17, rfl⟩
  refine SWl.rd rfl (Rd.assign rfl) ?_
  refine SWl.nil ?_
  refine SN.then ?_
  refine SW.seq ?_
  refine SW.seq ?_
  refine SW.vecN 44 2 encE ?_
  refine SW.mapN encN ?_
  refine SW.vecN 5 1 encB ?_
  refine SW.region ?_
  refine SWl.rd rfl (Rd.assign rfl) ?_
  refine SWl.nil ?_
  refine SN.then ?_
  refine SW.block ?_
  refine SW.loop (ι := {p : Nat × Lst // p.1 ≤ 4096}) (fun p => St.ob [(0, isD (B8 k)), (3, isD (.pointer (some ⟨g17, 0, none⟩))), (4, iD (p.1.1 : Int))] [.c g17 [isD (.slice p.1.2.A (zeros p.1.1).length p.1.2.c), isD (.map p.1.2.M)], ledE p.1.2 (zeros p.1.1), ledM p.1.2 (zeros p.1.1), .r [] (vecT 5 1 encB none 0 [])]) (fun p => 4096 - p.1.1) (⟨(0, ⟨none, 0, [], none, []⟩), by simp⟩) ?_ ?_
  · exact ⟨⟨_, rfl, ⟨⟨_, rfl, Le.refl _⟩, ⟨⟨_, rfl, Le.refl _⟩, ⟨⟨_, rfl, Le.refl _⟩, trivial⟩⟩⟩⟩, [0, 1, 2, 3], by decide, ⟨⟨_, rfl, ⟨Le.is (by rw [zeros_0]; rfl), Le.refl _, trivial⟩⟩, ⟨⟨_, rfl, leVec (by rw [zeros_0]) (by rw [zeros_0])⟩, ⟨⟨_, rfl, (by rw [zeros_0]; exact LeR.refl _)⟩, ⟨⟨_, rfl, LeR.refl _⟩, trivial⟩⟩⟩⟩⟩
  · rintro ⟨⟨i, s⟩, hi⟩ K0 hK0
    dsimp only at hi ⊢
    refine SW.seq ?_
    refine SW.seq ?_
    refine SW.region ?_
    refine SWl.rd rfl (Rd.move rfl) ?_
    refine SWl.rd rfl (Rd.lss rfl rfl) ?_
    refine SWl.nil ?_
    refine SN.then ?_
    refine SW.cond rfl (fun hb19 => ?_) (fun hb19 => ?_)
    · have hb19 := of_decide_eq_true hb19
      refine SW.skip ?_
      refine SN.then ?_
      refine SW.seq ?_
      refine SW.block ?_
      refine SW.seq ?_
      refine SW.region ?_
      refine SWl.rd rfl (Rd.move rfl) ?_
      refine SWl.rd rfl (Rd.build rfl rfl bldE0) ?_
      refine SWl.ef (Ef.callR [0, 1, 2, 3] (con_append g17 s (zeros i) _ 0 [] none 0 [] _ isView_vec (by rw [zeros_len]; omega) rfl) rfl ⟨Le.refl _, Le.refl _, trivial⟩ (by decide) ⟨⟨_, rfl, LeAll.refl _⟩, ⟨⟨_, rfl, LeR.refl _⟩, ⟨⟨_, rfl, LeR.refl _⟩, ⟨⟨_, rfl, LeR.refl _⟩, trivial⟩⟩⟩⟩ (fun _ h => h) rfl) ?_
      rintro _ ⟨s25, rfl⟩
      refine SWl.rd rfl (Rd.move rfl) ?_
      have hz := zeros_app (i := i) (by omega)
      refine SWl.rd rfl (Rd.extract rfl rfl) ?_
      refine SWl.rd rfl (Rd.extract rfl rfl) ?_
      refine SWl.rd rfl (Rd.assign rfl) ?_
      refine SWl.rd rfl (Rd.assign rfl) ?_
      refine SWl.nil ?_
      refine SN.then ?_
      refine SW.seq ?_
      refine SW.region ?_
      refine SWl.rd rfl (Rd.move rfl) ?_
      refine SWl.rd rfl (Rd.move rfl) ?_
      refine SWl.rd rfl (Rd.nei rfl rfl) ?_
      refine SWl.rd rfl (Rd.move rfl) ?_
      refine SWl.rdg rfl rfl (by rw [hz.2.2]; simp) rfl rfl (Rd.move rfl) ?_
      refine SWl.rdg rfl rfl (by rw [hz.2.2]; simp) rfl rfl (Rd.nei rfl rfl) ?_
      refine SWl.rd rfl (Rd.pickN rfl (by rw [hz.2.2]; simp) rfl) ?_
      refine SWl.nil ?_
      refine SN.then ?_
      refine SW.condF rfl (by rw [hz.2.1]; rfl) ?_
      refine SW.skip ?_
      refine SN.block ?_
      refine SN.then ?_
      refine SW.region ?_
      refine SWl.rd rfl (Rd.move rfl) ?_
      refine SWl.rd rfl (Rd.add rfl rfl ⟨by omega, by omega⟩) ?_
      refine SWl.rd rfl (Rd.assign rfl) ?_
      refine SWl.nil ?_
      exact fun a w hh => hK0 (⟨(i + 1, s25), by simp only; omega⟩) (by simp only; omega) a w (hh.sub (⟨⟨_, rfl, ⟨⟨_, rfl, Le.refl _⟩, ⟨⟨_, rfl, Le.refl _⟩, ⟨⟨_, rfl, Le.refl _⟩, trivial⟩⟩⟩⟩, [0, 1, 2, 3], by decide, ⟨⟨_, rfl, ⟨Le.is (by rw [hz.1]), Le.refl _, trivial⟩⟩, ⟨⟨_, rfl, leVec (by rw [hz.1]) (by rw [hz.1])⟩, ⟨⟨_, rfl, leMap (by rw [hz.1]) (by rw [hz.1])⟩, ⟨⟨_, rfl, LeR.refl _⟩, trivial⟩⟩⟩⟩⟩))
    · have hb19 := of_decide_eq_false hb19
      refine SW.exit' ?_
      repeat (first | refine SE.then ?_ | refine SE.skip (by decide) ?_)
      refine SE.here ?_
      refine SN.then ?_
      refine SW.seq ?_
      refine SW.sub (σ' := St.ob [(0, isD (B8 k)), (3, isD (.pointer (some ⟨g17, 0, none⟩)))] [.c g17 [isD (.slice s.A (zeros i).length s.c), isD (.map s.M)], ledE s (zeros i), ledM s (zeros i), .r [] (vecT 5 1 encB none 0 [])]) (⟨⟨_, rfl, ⟨⟨_, rfl, Le.refl _⟩, ⟨⟨_, rfl, Le.refl _⟩, trivial⟩⟩⟩, [0, 1, 2, 3], by decide, ⟨⟨_, rfl, LeAll.refl _⟩, ⟨⟨_, rfl, LeR.refl _⟩, ⟨⟨_, rfl, LeR.refl _⟩, ⟨⟨_, rfl, LeR.refl _⟩, trivial⟩⟩⟩⟩⟩) ?_
      refine SW.region ?_
      refine SWl.rd rfl (Rd.move rfl) ?_
      have hi4 : i = 4096 := by omega
      have hfu : ¬ (zeros i).length < 4096 := by rw [zeros_len]; omega
      have hs := szs_zeros i
      have hel := encAll_len (zeros i)
      have hd1 := decs_enc (zeros_fit i) (by rw [zeros_len]; omega)
      have hd2 := decs_full (zeros_fit i) (by rw [zeros_len]; exact hi4) (r := [k]) (by simp)
      refine SWl.rd rfl (Rd.move rfl) ?_
      refine SWl.rd rfl (Rd.cvW .u8 rfl (by kernel_rfl) (by kernel_rfl) (cv_i64 k.toNat_lt)) ?_
      refine SWl.rd rfl (Rd.build rfl rfl bldE1) ?_
      refine SWl.ef (Ef.callR [0, 1, 2, 3] (con_append g17 s (zeros i) _ (k.toNat : Int) [] none 0 [] _ isView_vec (by rw [zeros_len]; omega) rfl) rfl ⟨Le.refl _, Le.refl _, trivial⟩ (by decide) ⟨⟨_, rfl, LeAll.refl _⟩, ⟨⟨_, rfl, LeR.refl _⟩, ⟨⟨_, rfl, LeR.refl _⟩, ⟨⟨_, rfl, LeR.refl _⟩, trivial⟩⟩⟩⟩ (fun _ h => h) rfl) ?_
      rintro _ ⟨s40, rfl⟩
      refine SWl.rd rfl (Rd.move rfl) ?_
      refine SWl.rd rfl (Rd.extract rfl rfl) ?_
      refine SWl.rd rfl (Rd.extract rfl rfl) ?_
      refine SWl.rd rfl (Rd.assign rfl) ?_
      refine SWl.rd rfl (Rd.assign rfl) ?_
      refine SWl.nil ?_
      refine SN.then ?_
      refine SW.seq ?_
      refine SW.sub (σ' := St.ob [(0, isD (B8 k)), (3, isD (.pointer (some ⟨g17, 0, none⟩))), (7, iD 0), (8, iD 7)] [.c g17 [isD (.slice s40.A (zeros i).length s40.c), isD (.map s40.M)], ledE s40 (zeros i), ledM s40 (zeros i), .r [] (vecT 5 1 encB none 0 [])]) (⟨⟨_, rfl, ⟨⟨_, rfl, Le.refl _⟩, ⟨⟨_, rfl, Le.refl _⟩, ⟨⟨_, rfl, Le.is (by rw [(Led.app_full (u8_fit k) hfu).2.2])⟩, ⟨⟨_, rfl, Le.is (by rw [(Led.app_full (u8_fit k) hfu).2.1])⟩, trivial⟩⟩⟩⟩⟩, [0, 1, 2, 3], by decide, ⟨⟨_, rfl, ⟨Le.is (by rw [(Led.app_full (u8_fit k) hfu).1]), Le.refl _, trivial⟩⟩, ⟨⟨_, rfl, leVec (by rw [(Led.app_full (u8_fit k) hfu).1]) (by rw [(Led.app_full (u8_fit k) hfu).1])⟩, ⟨⟨_, rfl, leMap (by rw [(Led.app_full (u8_fit k) hfu).1]) (by rw [(Led.app_full (u8_fit k) hfu).1])⟩, ⟨⟨_, rfl, LeR.refl _⟩, trivial⟩⟩⟩⟩⟩) ?_
      refine SW.region ?_
      refine SWl.rd rfl (Rd.move rfl) ?_
      refine SWl.rd rfl (Rd.build rfl rfl bldE1) ?_
      refine SWl.ef (Ef.callR [0, 1, 2, 3] (con_append g17 s40 (zeros i) _ 256 [] none 0 [] _ isView_vec (by rw [zeros_len]; omega) rfl) rfl ⟨Le.refl _, Le.refl _, trivial⟩ (by decide) ⟨⟨_, rfl, LeAll.refl _⟩, ⟨⟨_, rfl, LeR.refl _⟩, ⟨⟨_, rfl, LeR.refl _⟩, ⟨⟨_, rfl, LeR.refl _⟩, trivial⟩⟩⟩⟩ (fun _ h => h) rfl) ?_
      rintro _ ⟨s46, rfl⟩
      refine SWl.rd rfl (Rd.move rfl) ?_
      refine SWl.rd rfl (Rd.extract rfl rfl) ?_
      refine SWl.rd rfl (Rd.extract rfl rfl) ?_
      refine SWl.rd rfl (Rd.assign rfl) ?_
      refine SWl.rd rfl (Rd.assign rfl) ?_
      refine SWl.nil ?_
      refine SN.then ?_
      refine SW.seq ?_
      refine SW.seq ?_
      refine SW.sub (σ' := St.ob [(0, isD (B8 k)), (3, isD (.pointer (some ⟨g17, 0, none⟩))), (7, iD 0), (8, iD 7), (10, iD 2)] [.c g17 [isD (.slice s46.A (zeros i).length s46.c), isD (.map s46.M)], ledE s46 (zeros i), ledM s46 (zeros i)]) (⟨⟨_, rfl, ⟨⟨_, rfl, Le.refl _⟩, ⟨⟨_, rfl, Le.refl _⟩, ⟨⟨_, rfl, Le.refl _⟩, ⟨⟨_, rfl, Le.refl _⟩, ⟨⟨_, rfl, Le.is (by rw [(Led.app_bad (es := zeros i) (k := 256) (b := []) (by simp)).2.1])⟩, trivial⟩⟩⟩⟩⟩⟩, [0, 1, 2], by decide, ⟨⟨_, rfl, ⟨Le.is (by rw [(Led.app_bad (es := zeros i) (k := 256) (b := []) (by simp)).1]), Le.refl _, trivial⟩⟩, ⟨⟨_, rfl, leVec (by rw [(Led.app_bad (es := zeros i) (k := 256) (b := []) (by simp)).1]) (by rw [(Led.app_bad (es := zeros i) (k := 256) (b := []) (by simp)).1])⟩, ⟨⟨_, rfl, leMap (by rw [(Led.app_bad (es := zeros i) (k := 256) (b := []) (by simp)).1]) (by rw [(Led.app_bad (es := zeros i) (k := 256) (b := []) (by simp)).1])⟩, trivial⟩⟩⟩⟩) ?_
      refine SW.region ?_
      refine SWl.rd rfl (Rd.move rfl) ?_
      refine SWl.rd rfl (Rd.nei rfl rfl) ?_
      refine SWl.rd rfl (Rd.move rfl) ?_
      refine SWl.rdg rfl rfl (by rfl) rfl rfl (Rd.move rfl) ?_
      refine SWl.rdg rfl rfl (by rfl) rfl rfl (Rd.nei rfl rfl) ?_
      refine SWl.rd rfl (Rd.pickN rfl (by rfl) rfl) ?_
      refine SWl.rd rfl (Rd.move rfl) ?_
      refine SWl.rdg rfl rfl (by rfl) rfl rfl (Rd.move rfl) ?_
      refine SWl.rdg rfl rfl (by rfl) rfl rfl (Rd.nei rfl rfl) ?_
      refine SWl.rd rfl (Rd.pickN rfl (by rfl) rfl) ?_
      refine SWl.rd rfl (Rd.move rfl) ?_
      refine SWl.rdg rfl rfl (by rfl) rfl rfl (Rd.move rfl) ?_
      refine SWl.efg (S := []) rfl rfl (by rfl) rfl (Ef.callN [0, 1, 2] (con_len (zeros i)) rfl ⟨(sees_box 0 rfl (by decide) ⟨(sees_vec 1 rfl (by decide)), (sees_map 2 rfl (by decide)), trivial⟩), trivial⟩ rfl) ?_
      rintro _ rfl
      refine SWl.rdg rfl rfl (by rfl) rfl rfl (Rd.nei rfl rfl) ?_
      refine SWl.rd rfl (Rd.pickN rfl (by rfl) rfl) ?_
      refine SWl.nil ?_
      refine SN.then ?_
      refine SW.condF rfl (by rw [zeros_len, hi4]; rfl) ?_
      refine SW.skip ?_
      refine SN.then ?_
      refine SW.seq ?_
      refine SW.sub (σ' := St.ob [(0, isD (B8 k)), (3, isD (.pointer (some ⟨g17, 0, none⟩)))] [.c g17 [isD (.slice s46.A (zeros i).length s46.c), isD (.map s46.M)], ledE s46 (zeros i), ledM s46 (zeros i)]) (⟨⟨_, rfl, ⟨⟨_, rfl, Le.refl _⟩, ⟨⟨_, rfl, Le.refl _⟩, trivial⟩⟩⟩, [0, 1, 2], by decide, ⟨⟨_, rfl, LeAll.refl _⟩, ⟨⟨_, rfl, LeR.refl _⟩, ⟨⟨_, rfl, LeR.refl _⟩, trivial⟩⟩⟩⟩) ?_
      refine SW.region ?_
      refine SWl.rd rfl (Rd.move rfl) ?_
      refine SWl.ef (S := []) (Ef.callN [0, 1, 2] (con_encode (zeros i) (zeros_fit i) (by rw [zeros_len]; omega)) rfl ⟨(sees_box 0 rfl (by decide) ⟨(sees_vec 1 rfl (by decide)), (sees_map 2 rfl (by decide)), trivial⟩), trivial⟩ rfl) ?_
      rintro _ rfl
      refine SWl.rd rfl (Rd.assign rfl) ?_
      refine SWl.nil ?_
      refine SN.then ?_
      refine SW.seq ?_
      refine SW.sub (σ' := St.ob [(0, isD (B8 k)), (11, bD (encAll (zeros i)))] []) (⟨⟨_, rfl, ⟨⟨_, rfl, Le.refl _⟩, ⟨⟨_, rfl, Le.refl _⟩, trivial⟩⟩⟩, [], by decide, trivial⟩) ?_
      refine SW.region ?_
      refine SWl.rd rfl (Rd.move rfl) ?_
      refine SWl.ef (S := []) (Ef.callR [] (con_decode (encAll (zeros i)) (by first | omega | (simp; omega)) (.ok (zeros i)) hd1) rfl ⟨Le.refl _, trivial⟩ (by decide) trivial (fun _ h => h) rfl) ?_
      rintro _ ⟨⟨gx, sx⟩, rfl⟩
      refine SWl.rd rfl (Rd.move rfl) ?_
      refine SWl.rd rfl (Rd.extract rfl rfl) ?_
      refine SWl.rd rfl (Rd.extract rfl rfl) ?_
      refine SWl.rd rfl (Rd.assign rfl) ?_
      refine SWl.rd rfl (Rd.assign rfl) ?_
      refine SWl.nil ?_
      refine SN.then ?_
      refine SW.seq ?_
      refine SW.sub (σ' := St.ob [(0, isD (B8 k)), (11, bD (encAll (zeros i))), (12, isD (.pointer (some ⟨gx, 0, none⟩))), (13, iD 0)] [.c gx [isD (.slice sx.A (zeros i).length sx.c), isD (.map sx.M)], ledE sx (zeros i), ledM sx (zeros i)]) (⟨⟨_, rfl, ⟨⟨_, rfl, Le.refl _⟩, ⟨⟨_, rfl, Le.refl _⟩, ⟨⟨_, rfl, Le.refl _⟩, ⟨⟨_, rfl, Le.refl _⟩, trivial⟩⟩⟩⟩⟩, [0, 1, 2], by decide, ⟨⟨_, rfl, LeAll.refl _⟩, ⟨⟨_, rfl, LeR.refl _⟩, ⟨⟨_, rfl, LeR.refl _⟩, trivial⟩⟩⟩⟩) ?_
      refine SW.vecN 5 1 encB ?_
      refine SW.region ?_
      refine SWl.rd rfl (Rd.move rfl) ?_
      refine SWl.ef (Ef.appT 3 1 1 rfl rfl (SrcT.b rfl) (by kernel_rfl) (by kernel_rfl) (by simp; omega) (by decide) (fun _ h => h) rfl) ?_
      rintro _ ⟨A73, F73, c73, rfl⟩
      refine SWl.rd rfl (Rd.move rfl) ?_
      refine SWl.ef (S := []) (Ef.litR rfl rfl (blsB1 _) rfl) ?_
      rintro _ rfl
      refine SWl.ef (Ef.appT 3 1 1 rfl rfl (SrcT.ls (l := [_]) rfl) (by kernel_rfl) (by kernel_rfl) (by simp; omega) (by decide) (fun _ h => h) rfl) ?_
      rintro _ ⟨A76, F76, c76, rfl⟩
      refine SWl.freezeT 3 76 rfl rfl (le_ls_b _) ?_
      refine SWl.ef (S := []) (Ef.callR [] (con_decode (encAll (zeros i) ++ [k]) (by first | omega | (simp; omega)) (.error 7) hd2) rfl ⟨Le.refl _, trivial⟩ (by decide) trivial (fun _ h => h) rfl) ?_
      rintro _ ⟨t, rfl⟩
      refine SWl.rd rfl (Rd.move rfl) ?_
      refine SWl.rd rfl (Rd.extract rfl rfl) ?_
      refine SWl.rd rfl (Rd.extract rfl rfl) ?_
      refine SWl.rd rfl (Rd.assign rfl) ?_
      refine SWl.rd rfl (Rd.assign rfl) ?_
      refine SWl.nil ?_
      refine SN.then ?_
      refine SW.seq ?_
      refine SW.sub (σ' := St.ob [(12, isD (.pointer (some ⟨gx, 0, none⟩))), (13, iD 0), (14, isD (.pointer none)), (15, iD 7)] [.c gx [isD (.slice sx.A (zeros i).length sx.c), isD (.map sx.M)], ledE sx (zeros i), ledM sx (zeros i)]) (⟨⟨_, rfl, ⟨⟨_, rfl, Le.refl _⟩, ⟨⟨_, rfl, Le.refl _⟩, ⟨⟨_, rfl, Le.refl _⟩, ⟨⟨_, rfl, Le.refl _⟩, trivial⟩⟩⟩⟩⟩, [0, 1, 2], by decide, ⟨⟨_, rfl, LeAll.refl _⟩, ⟨⟨_, rfl, LeR.refl _⟩, ⟨⟨_, rfl, LeR.refl _⟩, trivial⟩⟩⟩⟩) ?_
      refine SW.region ?_
      refine SWl.rd rfl (Rd.move rfl) ?_
      refine SWl.rd rfl (Rd.neP rfl rfl (by kernel_rfl)) ?_
      refine SWl.rd rfl (Rd.move rfl) ?_
      refine SWl.rdg rfl rfl (rfl) rfl rfl (Rd.move rfl) ?_
      refine SWl.rdg rfl rfl (rfl) rfl rfl (Rd.eqi rfl rfl) ?_
      refine SWl.rd rfl (Rd.pickY rfl (rfl) rfl) ?_
      refine SWl.rd rfl (Rd.move rfl) ?_
      refine SWl.rdg rfl rfl (by rfl) rfl rfl (Rd.move rfl) ?_
      refine SWl.efg (S := []) rfl rfl (by rfl) rfl (Ef.callN [0, 1, 2] (con_len (zeros i)) rfl ⟨(sees_box 0 rfl (by decide) ⟨(sees_vec 1 rfl (by decide)), (sees_map 2 rfl (by decide)), trivial⟩), trivial⟩ rfl) ?_
      rintro _ rfl
      refine SWl.rdg rfl rfl (by rfl) rfl rfl (Rd.eqi rfl rfl) ?_
      refine SWl.rd rfl (Rd.pickY rfl (by rfl) rfl) ?_
      refine SWl.rd rfl (Rd.move rfl) ?_
      refine SWl.rdg rfl rfl (by rw [zeros_len, hi4]; rfl) rfl rfl (Rd.move rfl) ?_
      refine SWl.rdg rfl rfl (by rw [zeros_len, hi4]; rfl) rfl rfl (Rd.eqP rfl rfl (by kernel_rfl)) ?_
      refine SWl.rd rfl (Rd.pickY rfl (by rw [zeros_len, hi4]; rfl) rfl) ?_
      refine SWl.rd rfl (Rd.move rfl) ?_
      refine SWl.rdg rfl rfl (rfl) rfl rfl (Rd.move rfl) ?_
      refine SWl.rdg rfl rfl (rfl) rfl rfl (Rd.eqi rfl rfl) ?_
      refine SWl.rd rfl (Rd.pickY rfl (rfl) rfl) ?_
      refine SWl.rd rfl (Rd.move rfl) ?_
      refine SWl.efg (S := []) rfl rfl (by rfl) rfl (Ef.callN [] (con_known43) rfl trivial rfl) ?_
      rintro _ rfl
      refine SWl.rd rfl (Rd.pickY rfl (by rfl) rfl) ?_
      refine SWl.rd rfl (Rd.assign rfl) ?_
      refine SWl.nil ?_
      refine SN.then ?_
      refine SW.ret (fn := Tryd.f6) (fun _ _ h => h) (Rs.le (Rs.one rfl (ResV.tmp rfl)) ?_)
      exact le_bool_n (by rfl)
end Sx
end Go.Proofs.YtonjpfpdpfonnaaDoor
