/-
  ENVELOPES: EnvelopeSeals.
-/
import Derived.Test.YtchbgfgboogniaaDoorE7
namespace Go.Proofs.YtchbgfgboogniaaDoor
open Go.RowKit
namespace Sx
set_option maxHeartbeats 4000000 in
set_option maxRecDepth 100000 in
theorem envelopeSeals_con (nm : List UInt8) (rnd ser : Int) (key nonce bid : List UInt8) (long : Int) : ConN Tryd.prog 7 [strD nm, iD rnd, iD ser, bD key, bD nonce, bD bid, iD long] (boolD true) := by
  refine con_ofN Tryd.func7 (by kernel_rfl) rfl (by kernel_rfl) fun base w0 => ?_
  refine SW.seq ?_
  refine SW.region ?_
  refine SWl.rd rfl (Rd.assign rfl) ?_
  refine SWl.nil ?_
  refine SN.then ?_
  refine SW.seq ?_
  refine SW.seq ?_
  refine SW.region ?_
  refine SWl.rd rfl (Rd.move rfl) ?_
  refine SWl.rd rfl (Rd.lenb rfl (by kernel_rfl)) ?_
  refine SWl.rd rfl (Rd.gtr rfl rfl) ?_
  refine SWl.rd rfl (Rd.move rfl) ?_
  refine SWl.split 28 rfl (fun hb28 => ?_) (fun hb28 => ?_)
  · skip
    refine SWl.off rfl rfl (hb28) rfl rfl ?_
    refine SWl.off rfl rfl (hb28) rfl rfl ?_
    refine SWl.off rfl rfl (hb28) rfl rfl ?_
    refine SWl.rd rfl (Rd.pickY rfl (hb28) rfl) ?_
    refine SWl.rd rfl (Rd.move rfl) ?_
    refine SWl.off rfl rfl (rfl) rfl rfl ?_
    refine SWl.off rfl rfl (rfl) rfl rfl ?_
    refine SWl.off rfl rfl (rfl) rfl rfl ?_
    refine SWl.rd rfl (Rd.pickY rfl (rfl) rfl) ?_
    refine SWl.rd rfl (Rd.move rfl) ?_
    refine SWl.off rfl rfl (rfl) rfl rfl ?_
    refine SWl.off rfl rfl (rfl) rfl rfl ?_
    refine SWl.off rfl rfl (rfl) rfl rfl ?_
    refine SWl.rd rfl (Rd.pickY rfl (rfl) rfl) ?_
    refine SWl.nil ?_
    refine SN.then ?_
    refine SW.condT rfl (rfl) ?_
    refine SW.seq ?_
    refine SW.region ?_
    refine SWl.ef (S := []) (Ef.callN [] (con_known42) rfl trivial rfl) ?_
    rintro _ rfl
    refine SWl.rd rfl (Rd.assign rfl) ?_
    refine SWl.nil ?_
    refine SN.then ?_
    refine SW.ret (fn := Tryd.f7) (fun _ _ h => h) (Rs.le (Rs.one rfl (ResV.tmp rfl)) ?_)
    exact le_bool_n rfl
  · have h28 : nm.length ≤ 100 := (by have h := of_decide_eq_false hb28; omega)
    refine SWl.rdg rfl rfl (hb28) rfl rfl (Rd.move rfl) ?_
    refine SWl.rdg rfl rfl (hb28) rfl rfl (Rd.len (e := 5) rfl (by kernel_rfl)) ?_
    refine SWl.rdg rfl rfl (hb28) rfl rfl (Rd.gtr rfl rfl) ?_
    refine SWl.rd rfl (Rd.pickN rfl (hb28) rfl) ?_
    refine SWl.rd rfl (Rd.move rfl) ?_
    refine SWl.split 33 rfl (fun hb33 => ?_) (fun hb33 => ?_)
    · skip
      refine SWl.off rfl rfl (hb33) rfl rfl ?_
      refine SWl.off rfl rfl (hb33) rfl rfl ?_
      refine SWl.off rfl rfl (hb33) rfl rfl ?_
      refine SWl.rd rfl (Rd.pickY rfl (hb33) rfl) ?_
      refine SWl.rd rfl (Rd.move rfl) ?_
      refine SWl.off rfl rfl (rfl) rfl rfl ?_
      refine SWl.off rfl rfl (rfl) rfl rfl ?_
      refine SWl.off rfl rfl (rfl) rfl rfl ?_
      refine SWl.rd rfl (Rd.pickY rfl (rfl) rfl) ?_
      refine SWl.nil ?_
      refine SN.then ?_
      refine SW.condT rfl (rfl) ?_
      refine SW.seq ?_
      refine SW.region ?_
      refine SWl.ef (S := []) (Ef.callN [] (con_known42) rfl trivial rfl) ?_
      rintro _ rfl
      refine SWl.rd rfl (Rd.assign rfl) ?_
      refine SWl.nil ?_
      refine SN.then ?_
      refine SW.ret (fn := Tryd.f7) (fun _ _ h => h) (Rs.le (Rs.one rfl (ResV.tmp rfl)) ?_)
      exact le_bool_n rfl
    · have h33 : key.length ≤ 100 := (by have h := of_decide_eq_false hb33; rw [cellsOf_length] at h; omega)
      refine SWl.rdg rfl rfl (hb33) rfl rfl (Rd.move rfl) ?_
      refine SWl.rdg rfl rfl (hb33) rfl rfl (Rd.len (e := 5) rfl (by kernel_rfl)) ?_
      refine SWl.rdg rfl rfl (hb33) rfl rfl (Rd.gtr rfl rfl) ?_
      refine SWl.rd rfl (Rd.pickN rfl (hb33) rfl) ?_
      refine SWl.rd rfl (Rd.move rfl) ?_
      refine SWl.split 38 rfl (fun hb38 => ?_) (fun hb38 => ?_)
      · skip
        refine SWl.off rfl rfl (hb38) rfl rfl ?_
        refine SWl.off rfl rfl (hb38) rfl rfl ?_
        refine SWl.off rfl rfl (hb38) rfl rfl ?_
        refine SWl.rd rfl (Rd.pickY rfl (hb38) rfl) ?_
        refine SWl.nil ?_
        refine SN.then ?_
        refine SW.condT rfl (rfl) ?_
        refine SW.seq ?_
        refine SW.region ?_
        refine SWl.ef (S := []) (Ef.callN [] (con_known42) rfl trivial rfl) ?_
        rintro _ rfl
        refine SWl.rd rfl (Rd.assign rfl) ?_
        refine SWl.nil ?_
        refine SN.then ?_
        refine SW.ret (fn := Tryd.f7) (fun _ _ h => h) (Rs.le (Rs.one rfl (ResV.tmp rfl)) ?_)
        exact le_bool_n rfl
      · have h38 : nonce.length ≤ 100 := (by have h := of_decide_eq_false hb38; rw [cellsOf_length] at h; omega)
        refine SWl.rdg rfl rfl (hb38) rfl rfl (Rd.move rfl) ?_
        refine SWl.rdg rfl rfl (hb38) rfl rfl (Rd.len (e := 5) rfl (by kernel_rfl)) ?_
        refine SWl.rdg rfl rfl (hb38) rfl rfl (Rd.gtr rfl rfl) ?_
        refine SWl.rd rfl (Rd.pickN rfl (hb38) rfl) ?_
        refine SWl.nil ?_
        refine SN.then ?_
        refine SW.cond rfl (fun hb42 => ?_) (fun hb42 => ?_)
        · skip
          refine SW.seq ?_
          refine SW.region ?_
          refine SWl.ef (S := []) (Ef.callN [] (con_known42) rfl trivial rfl) ?_
          rintro _ rfl
          refine SWl.rd rfl (Rd.assign rfl) ?_
          refine SWl.nil ?_
          refine SN.then ?_
          refine SW.ret (fn := Tryd.f7) (fun _ _ h => h) (Rs.le (Rs.one rfl (ResV.tmp rfl)) ?_)
          exact le_bool_n rfl
        · have h42 : bid.length ≤ 200 := (by have h := of_decide_eq_false hb42; rw [cellsOf_length] at h; omega)
          refine SW.skip ?_
          refine SN.then ?_
          refine SW.seq ?_
          refine SW.meet (fun σ => ∃ x : List UInt8, x.length ≤ 1000000 ∧ σ = St.ob [(0, strD nm), (1, iD rnd), (2, iD ser), (3, bD key), (4, bD nonce), (5, bD x)] []) ?_ ?_
          · skip
            refine SW.seq ?_
            refine SW.sub (σ' := St.ob [(0, strD nm), (1, iD rnd), (2, iD ser), (3, bD key), (4, bD nonce), (5, bD bid), (6, iD long)] []) (⟨⟨_, rfl, ⟨⟨_, rfl, Le.refl _⟩, ⟨⟨_, rfl, Le.refl _⟩, ⟨⟨_, rfl, Le.refl _⟩, ⟨⟨_, rfl, Le.refl _⟩, ⟨⟨_, rfl, Le.refl _⟩, ⟨⟨_, rfl, Le.refl _⟩, ⟨⟨_, rfl, Le.refl _⟩, trivial⟩⟩⟩⟩⟩⟩⟩⟩, [], by decide, trivial⟩) ?_
            refine SW.region ?_
            refine SWl.rd rfl (Rd.move rfl) ?_
            refine SWl.rd rfl (Rd.geq rfl rfl) ?_
            refine SWl.rd rfl (Rd.move rfl) ?_
            refine SWl.split 46 rfl (fun hb46 => ?_) (fun hb46 => ?_)
            · have h46 := of_decide_eq_true hb46
              refine SWl.rdg rfl rfl (hb46) rfl rfl (Rd.move rfl) ?_
              refine SWl.rdg rfl rfl (hb46) rfl rfl (Rd.leq rfl rfl) ?_
              refine SWl.rd rfl (Rd.pickY rfl (hb46) rfl) ?_
              refine SWl.nil ?_
              refine SN.then ?_
              refine SW.cond rfl (fun hb49 => ?_) (fun hb49 => ?_)
              · have h49 := of_decide_eq_true hb49
                refine SW.region ?_
                refine SWl.rd rfl (Rd.move rfl) ?_
                refine SWl.ef (S := []) (Ef.call (con_row 3 long.toNat (by omega)) rfl ⟨Le.refl _, Le.is (by rw [Int.toNat_of_nonneg (by omega)]), trivial⟩ rfl) ?_
                rintro _ rfl
                refine SWl.rd rfl (Rd.assign rfl) ?_
                refine SWl.nil ?_
                exact SN.meet ⟨List.replicate long.toNat 3, by rw [List.length_replicate]; omega, rfl⟩ (⟨⟨_, rfl, ⟨⟨_, rfl, Le.refl _⟩, ⟨⟨_, rfl, Le.refl _⟩, ⟨⟨_, rfl, Le.refl _⟩, ⟨⟨_, rfl, Le.refl _⟩, ⟨⟨_, rfl, Le.refl _⟩, ⟨⟨_, rfl, Le.refl _⟩, trivial⟩⟩⟩⟩⟩⟩⟩, [], by decide, trivial⟩)
              · skip
                refine SW.skip ?_
                exact SN.meet ⟨bid, by omega, rfl⟩ (⟨⟨_, rfl, ⟨⟨_, rfl, Le.refl _⟩, ⟨⟨_, rfl, Le.refl _⟩, ⟨⟨_, rfl, Le.refl _⟩, ⟨⟨_, rfl, Le.refl _⟩, ⟨⟨_, rfl, Le.refl _⟩, ⟨⟨_, rfl, Le.refl _⟩, trivial⟩⟩⟩⟩⟩⟩⟩, [], by decide, trivial⟩)
            · skip
              refine SWl.off rfl rfl (hb46) rfl rfl ?_
              refine SWl.off rfl rfl (hb46) rfl rfl ?_
              refine SWl.rd rfl (Rd.pickN rfl (hb46) rfl) ?_
              refine SWl.nil ?_
              refine SN.then ?_
              refine SW.condF rfl (rfl) ?_
              refine SW.skip ?_
              exact SN.meet ⟨bid, by omega, rfl⟩ (⟨⟨_, rfl, ⟨⟨_, rfl, Le.refl _⟩, ⟨⟨_, rfl, Le.refl _⟩, ⟨⟨_, rfl, Le.refl _⟩, ⟨⟨_, rfl, Le.refl _⟩, ⟨⟨_, rfl, Le.refl _⟩, ⟨⟨_, rfl, Le.refl _⟩, trivial⟩⟩⟩⟩⟩⟩⟩, [], by decide, trivial⟩)
          · rintro _ ⟨x, hxl, rfl⟩
            refine SN.then ?_
            refine SW.seq ?_
            refine SW.region ?_
            refine SWl.ef (S := []) (Ef.callR [] (con_given) rfl trivial (by decide) trivial (fun _ h => h) rfl) ?_
            rintro _ ⟨⟨gb, s⟩, rfl⟩
            refine SWl.rd rfl (Rd.move rfl) ?_
            refine SWl.rd rfl (Rd.extract rfl rfl) ?_
            refine SWl.rd rfl (Rd.extract rfl rfl) ?_
            refine SWl.ef (S := []) (Ef.alloc (zs := [.slice none 0 0]) (by kernel_rfl) rfl) ?_
            rintro _ ⟨g16, rfl⟩
            refine SWl.rd rfl (Rd.assign rfl) ?_
            refine SWl.ef (S := [_]) (Ef.storeA 4 rfl rfl rfl (by kernel_rfl) rfl (List.mem_singleton.2 rfl)) ?_
            rintro _ rfl
            refine SWl.nil ?_
            refine SN.then ?_
            refine SW.seq ?_
            refine SW.sub (σ' := St.ob [(0, strD nm), (1, iD rnd), (2, iD ser), (3, bD key), (4, bD nonce), (5, bD x), (15, isD (.pointer (some ⟨gb, 0, none⟩))), (16, isD (.pointer (some ⟨g16, 0, none⟩)))] [.c gb [isD (.map (s.M.map Prod.fst)), isD (.slice s.n.A (Acc.nm gL).length s.n.c), isD (.map (s.M.map Prod.snd))], .r s.n.F (vecT 9 1 encT s.n.A s.n.c (Acc.nm gL)), .r s.F1 (mapQ (s.M.map Prod.fst) encS (Acc.nm gL) (acD gL)), .r s.F2 (mapQ (s.M.map Prod.snd) encSt (Acc.seats gL) (seD gL)), .c g16 [lsD encA gL]]) (⟨⟨_, rfl, ⟨⟨_, rfl, Le.refl _⟩, ⟨⟨_, rfl, Le.refl _⟩, ⟨⟨_, rfl, Le.refl _⟩, ⟨⟨_, rfl, Le.refl _⟩, ⟨⟨_, rfl, Le.refl _⟩, ⟨⟨_, rfl, Le.refl _⟩, ⟨⟨_, rfl, Le.refl _⟩, ⟨⟨_, rfl, Le.refl _⟩, trivial⟩⟩⟩⟩⟩⟩⟩⟩⟩, [0, 1, 2, 3, 4], by decide, ⟨⟨_, rfl, LeAll.refl _⟩, ⟨⟨_, rfl, LeR.refl _⟩, ⟨⟨_, rfl, LeR.refl _⟩, ⟨⟨_, rfl, LeR.refl _⟩, ⟨⟨_, rfl, LeAll.refl _⟩, trivial⟩⟩⟩⟩⟩⟩) ?_
            refine SW.region ?_
            refine SWl.rd rfl (Rd.move rfl) ?_
            refine SWl.ef (S := []) (Ef.call (con_commit key (by omega)) rfl ⟨Le.refl _, trivial⟩ rfl) ?_
            rintro _ rfl
            refine SWl.rd rfl (Rd.move rfl) ?_
            refine SWl.rd rfl (Rd.extract rfl rfl) ?_
            refine SWl.rd rfl (Rd.extract rfl rfl) ?_
            refine SWl.rd rfl (Rd.assign rfl) ?_
            refine SWl.rd rfl (Rd.assign rfl) ?_
            refine SWl.nil ?_
            refine SN.then ?_
            refine SW.seq ?_
            refine SW.sub (σ' := St.ob [(0, strD nm), (1, iD rnd), (2, iD ser), (3, bD key), (4, bD nonce), (5, bD x), (15, isD (.pointer (some ⟨gb, 0, none⟩))), (16, isD (.pointer (some ⟨g16, 0, none⟩))), (17, bD (Env.comB key)), (18, iD (Env.comE key))] [.c gb [isD (.map (s.M.map Prod.fst)), isD (.slice s.n.A (Acc.nm gL).length s.n.c), isD (.map (s.M.map Prod.snd))], .r s.n.F (vecT 9 1 encT s.n.A s.n.c (Acc.nm gL)), .r s.F1 (mapQ (s.M.map Prod.fst) encS (Acc.nm gL) (acD gL)), .r s.F2 (mapQ (s.M.map Prod.snd) encSt (Acc.seats gL) (seD gL)), .c g16 [lsD encA gL]]) (⟨⟨_, rfl, ⟨⟨_, rfl, Le.refl _⟩, ⟨⟨_, rfl, Le.refl _⟩, ⟨⟨_, rfl, Le.refl _⟩, ⟨⟨_, rfl, Le.refl _⟩, ⟨⟨_, rfl, Le.refl _⟩, ⟨⟨_, rfl, Le.refl _⟩, ⟨⟨_, rfl, Le.refl _⟩, ⟨⟨_, rfl, Le.refl _⟩, ⟨⟨_, rfl, Le.refl _⟩, ⟨⟨_, rfl, Le.refl _⟩, trivial⟩⟩⟩⟩⟩⟩⟩⟩⟩⟩⟩, [0, 1, 2, 3, 4], by decide, ⟨⟨_, rfl, LeAll.refl _⟩, ⟨⟨_, rfl, LeR.refl _⟩, ⟨⟨_, rfl, LeR.refl _⟩, ⟨⟨_, rfl, LeR.refl _⟩, ⟨⟨_, rfl, LeAll.refl _⟩, trivial⟩⟩⟩⟩⟩⟩) ?_
            refine SW.region ?_
            refine SWl.rd rfl (Rd.move rfl) ?_
            refine SWl.ef (S := []) (Ef.call (con_commitR key (by omega)) rfl ⟨Le.refl _, trivial⟩ rfl) ?_
            rintro _ rfl
            refine SWl.rd rfl (Rd.move rfl) ?_
            refine SWl.rd rfl (Rd.extract rfl rfl) ?_
            refine SWl.rd rfl (Rd.extract rfl rfl) ?_
            refine SWl.rd rfl (Rd.assign rfl) ?_
            refine SWl.rd rfl (Rd.assign rfl) ?_
            refine SWl.nil ?_
            refine SN.then ?_
            refine SW.seq ?_
            refine SW.sub (σ' := St.ob [(0, strD nm), (1, iD rnd), (2, iD ser), (3, bD key), (4, bD nonce), (5, bD x), (15, isD (.pointer (some ⟨gb, 0, none⟩))), (16, isD (.pointer (some ⟨g16, 0, none⟩))), (17, bD (Env.comB key)), (18, iD (Env.comE key)), (19, strD (Env.comB key)), (20, iD (Env.comE key))] [.c gb [isD (.map (s.M.map Prod.fst)), isD (.slice s.n.A (Acc.nm gL).length s.n.c), isD (.map (s.M.map Prod.snd))], .r s.n.F (vecT 9 1 encT s.n.A s.n.c (Acc.nm gL)), .r s.F1 (mapQ (s.M.map Prod.fst) encS (Acc.nm gL) (acD gL)), .r s.F2 (mapQ (s.M.map Prod.snd) encSt (Acc.seats gL) (seD gL)), .c g16 [lsD encA gL]]) (⟨⟨_, rfl, ⟨⟨_, rfl, Le.refl _⟩, ⟨⟨_, rfl, Le.refl _⟩, ⟨⟨_, rfl, Le.refl _⟩, ⟨⟨_, rfl, Le.refl _⟩, ⟨⟨_, rfl, Le.refl _⟩, ⟨⟨_, rfl, Le.refl _⟩, ⟨⟨_, rfl, Le.refl _⟩, ⟨⟨_, rfl, Le.refl _⟩, ⟨⟨_, rfl, Le.refl _⟩, ⟨⟨_, rfl, Le.refl _⟩, ⟨⟨_, rfl, Le.refl _⟩, ⟨⟨_, rfl, Le.refl _⟩, trivial⟩⟩⟩⟩⟩⟩⟩⟩⟩⟩⟩⟩⟩, [0, 1, 2, 3, 4], by decide, ⟨⟨_, rfl, LeAll.refl _⟩, ⟨⟨_, rfl, LeR.refl _⟩, ⟨⟨_, rfl, LeR.refl _⟩, ⟨⟨_, rfl, LeR.refl _⟩, ⟨⟨_, rfl, LeAll.refl _⟩, trivial⟩⟩⟩⟩⟩⟩) ?_
            refine SW.vecN 5 1 encB ?_
            refine SW.vecN 5 1 encB ?_
            refine SW.vecN 5 1 encB ?_
            refine SW.region ?_
            refine SWl.rd rfl (Rd.move rfl) ?_
            refine SWl.rd rfl (Rd.move rfl) ?_
            refine SWl.rd rfl (Rd.move rfl) ?_
            refine SWl.rd rfl (Rd.move rfl) ?_
            refine SWl.rd rfl (Rd.move rfl) ?_
            refine SWl.ef (Ef.appT 5 1 1 rfl rfl (SrcT.b rfl) (by kernel_rfl) (by kernel_rfl) (by simp <;> omega) (by decide) (fun _ h => h) rfl) ?_
            rintro _ ⟨A72, F72, c72, rfl⟩
            refine SWl.rd rfl (Rd.move rfl) ?_
            refine SWl.ef (Ef.appT 5 1 1 rfl rfl (SrcT.b rfl) (by kernel_rfl) (by kernel_rfl) (by simp <;> omega) (by decide) (fun _ h => h) rfl) ?_
            rintro _ ⟨A74, F74, c74, rfl⟩
            refine SWl.rd rfl (Rd.move rfl) ?_
            refine SWl.ef (Ef.appT 5 1 1 rfl rfl (SrcT.b rfl) (by kernel_rfl) (by kernel_rfl) (by simp <;> omega) (by decide) (fun _ h => h) rfl) ?_
            rintro _ ⟨A76, F76, c76, rfl⟩
            refine SWl.freezeT 5 72 rfl rfl (le_ls_b _) ?_
            refine SWl.freezeT 5 74 rfl rfl (le_ls_b _) ?_
            refine SWl.freezeT 5 76 rfl rfl (le_ls_b _) ?_
            refine SWl.ef (Ef.callR [0, 1, 2, 3] (con_sealE gb s gL nm rnd ser key nonce x gFine) rfl ⟨Le.refl _, Le.refl _, Le.refl _, Le.refl _, Le.refl _, Le.refl _, Le.refl _, trivial⟩ (by decide) ⟨⟨_, rfl, LeAll.refl _⟩, ⟨⟨_, rfl, LeR.refl _⟩, ⟨⟨_, rfl, LeR.refl _⟩, ⟨⟨_, rfl, LeR.refl _⟩, trivial⟩⟩⟩⟩ (fun _ h => h) rfl) ?_
            rintro _ ⟨⟨⟩, rfl⟩
            refine SWl.rd rfl (Rd.move rfl) ?_
            refine SWl.rd rfl (Rd.extract rfl rfl) ?_
            refine SWl.rd rfl (Rd.extract rfl rfl) ?_
            refine SWl.ef (S := []) (Ef.alloc (zs := [.string ⟨#[]⟩, .int .i64 0, .int .i64 0, .slice none 0 0, .slice none 0 0]) (by kernel_rfl) rfl) ?_
            rintro _ ⟨g21, rfl⟩
            refine SWl.ef (S := [_]) (Ef.storeA 5 rfl rfl rfl (by kernel_rfl) rfl (List.mem_singleton.2 rfl)) ?_
            rintro _ rfl
            refine SWl.rd rfl (Rd.assign rfl) ?_
            refine SWl.nil ?_
            refine SN.then ?_
            refine SW.seq ?_
            obtain ⟨y, hy⟩ : ∃ y, y = Env.slT gL nm rnd ser key nonce x := ⟨_, rfl⟩
            obtain ⟨z, hz⟩ : ∃ z, z = Env.slE gL nm rnd ser key.length nonce.length x.length := ⟨_, rfl⟩
            refine SW.sub (σ' := St.ob [(0, strD nm), (1, iD rnd), (2, iD ser), (3, bD key), (4, bD nonce), (5, bD x), (16, isD (.pointer (some ⟨g16, 0, none⟩))), (21, isD (.pointer (some ⟨g21, 0, none⟩))), (22, iD z), (17, bD (Env.comB key)), (18, iD (Env.comE key)), (19, strD (Env.comB key)), (20, iD (Env.comE key))] [.c g16 [lsD encA gL], .c g21 [strD y.acc, iD y.rnd, iD y.ser, bD y.box, bD y.tag]]) (⟨⟨_, rfl, ⟨⟨_, rfl, Le.refl _⟩, ⟨⟨_, rfl, Le.refl _⟩, ⟨⟨_, rfl, Le.refl _⟩, ⟨⟨_, rfl, Le.refl _⟩, ⟨⟨_, rfl, Le.refl _⟩, ⟨⟨_, rfl, Le.refl _⟩, ⟨⟨_, rfl, Le.refl _⟩, ⟨⟨_, rfl, Le.refl _⟩, ⟨⟨_, rfl, Le.is (by rw [hz])⟩, ⟨⟨_, rfl, Le.refl _⟩, ⟨⟨_, rfl, Le.refl _⟩, ⟨⟨_, rfl, Le.refl _⟩, ⟨⟨_, rfl, Le.refl _⟩, trivial⟩⟩⟩⟩⟩⟩⟩⟩⟩⟩⟩⟩⟩⟩, [0, 5], by decide, ⟨⟨_, rfl, LeAll.refl _⟩, ⟨⟨_, rfl, (by rw [hy]; exact LeAll.refl _)⟩, trivial⟩⟩⟩) ?_
            refine SW.region ?_
            refine SWl.rd rfl (Rd.loadA 0 1 rfl rfl (by kernel_rfl) rfl ap_nil) ?_
            refine SWl.rd rfl (Rd.move rfl) ?_
            refine SWl.rd rfl (Rd.move rfl) ?_
            refine SWl.rd rfl (Rd.move rfl) ?_
            refine SWl.rd rfl (Rd.move rfl) ?_
            refine SWl.rd rfl (Rd.move rfl) ?_
            refine SWl.rd rfl (Rd.move rfl) ?_
            refine SWl.ef (S := []) (Ef.call (con_sealER gL nm rnd ser key nonce x gFine hxl) rfl ⟨Le.refl _, Le.refl _, Le.refl _, Le.refl _, Le.refl _, Le.refl _, Le.refl _, trivial⟩ rfl) ?_
            rintro _ rfl
            refine SWl.rd rfl (Rd.move rfl) ?_
            refine SWl.rd rfl (Rd.extract rfl rfl) ?_
            refine SWl.rd rfl (Rd.extract rfl rfl) ?_
            refine SWl.ef (S := []) (Ef.alloc (zs := [.string ⟨#[]⟩, .int .i64 0, .int .i64 0, .slice none 0 0, .slice none 0 0]) (by kernel_rfl) rfl) ?_
            rintro _ ⟨g23, rfl⟩
            refine SWl.ef (S := [_]) (Ef.storeA 2 rfl rfl rfl (by kernel_rfl) rfl (List.mem_singleton.2 rfl)) ?_
            rintro _ rfl
            refine SWl.rd rfl (Rd.assign rfl) ?_
            refine SWl.nil ?_
            refine SN.then ?_
            refine SW.seq ?_
            refine SW.sub (σ' := St.ob [(21, isD (.pointer (some ⟨g21, 0, none⟩))), (22, iD z), (23, isD (.pointer (some ⟨g23, 0, none⟩))), (24, iD z), (17, bD (Env.comB key)), (18, iD (Env.comE key)), (19, strD (Env.comB key)), (20, iD (Env.comE key))] [.c g21 [strD y.acc, iD y.rnd, iD y.ser, bD y.box, bD y.tag], .c g23 [strD y.acc, iD y.rnd, iD y.ser, bD y.box, bD y.tag]]) (⟨⟨_, rfl, ⟨⟨_, rfl, Le.refl _⟩, ⟨⟨_, rfl, Le.refl _⟩, ⟨⟨_, rfl, Le.refl _⟩, ⟨⟨_, rfl, Le.is (by rw [hz])⟩, ⟨⟨_, rfl, Le.refl _⟩, ⟨⟨_, rfl, Le.refl _⟩, ⟨⟨_, rfl, Le.refl _⟩, ⟨⟨_, rfl, Le.refl _⟩, trivial⟩⟩⟩⟩⟩⟩⟩⟩⟩, [1, 2], by decide, ⟨⟨_, rfl, LeAll.refl _⟩, ⟨⟨_, rfl, (by rw [hy]; exact LeAll.refl _)⟩, trivial⟩⟩⟩) ?_
            refine SW.region ?_
            refine SWl.rd rfl (Rd.move rfl) ?_
            refine SWl.rd rfl (Rd.str (e := 5) rfl (by kernel_rfl) (by kernel_rfl) (by kernel_rfl) (by simp)) ?_
            refine SWl.rd rfl (Rd.move rfl) ?_
            refine SWl.rd rfl (Rd.eqs (p := Env.comB key) (q := Env.comB key) rfl rfl) ?_
            refine SWl.rd rfl (Rd.move rfl) ?_
            refine SWl.rdg rfl rfl (by simp) rfl rfl (Rd.move rfl) ?_
            refine SWl.rdg rfl rfl (by simp) rfl rfl (Rd.move rfl) ?_
            refine SWl.rdg rfl rfl (by simp) rfl rfl (Rd.eqi rfl rfl) ?_
            refine SWl.rd rfl (Rd.pickY rfl (by simp) rfl) ?_
            refine SWl.rd rfl (Rd.move rfl) ?_
            refine SWl.rdg rfl rfl (by simp) rfl rfl (Rd.loadA 0 5 rfl rfl (by kernel_rfl) rfl ap_nil) ?_
            refine SWl.rdg rfl rfl (by simp) rfl rfl (Rd.loadA 1 5 rfl rfl (by kernel_rfl) rfl ap_nil) ?_
            refine SWl.efg (S := []) rfl rfl (by simp) rfl (Ef.callN [] (con_sameE y y) rfl ⟨(sees_agg ⟨(sees_le (Le.refl _)), (sees_le (Le.refl _)), (sees_le (Le.refl _)), (sees_le (Le.refl _)), (sees_le (Le.refl _)), trivial⟩), (sees_agg ⟨(sees_le (Le.refl _)), (sees_le (Le.refl _)), (sees_le (Le.refl _)), (sees_le (Le.refl _)), (sees_le (Le.refl _)), trivial⟩), trivial⟩ rfl) ?_
            rintro _ rfl
            refine SWl.rd rfl (Rd.pickY rfl (by simp) rfl) ?_
            refine SWl.rd rfl (Rd.move rfl) ?_
            refine SWl.rdg rfl rfl (by simp) rfl rfl (Rd.move rfl) ?_
            refine SWl.rdg rfl rfl (by simp) rfl rfl (Rd.move rfl) ?_
            refine SWl.rdg rfl rfl (by simp) rfl rfl (Rd.eqi rfl rfl) ?_
            refine SWl.rd rfl (Rd.pickY rfl (by simp) rfl) ?_
            refine SWl.rd rfl (Rd.move rfl) ?_
            refine SWl.efg (S := []) rfl rfl (by simp) rfl (Ef.callN [] (con_known42) rfl trivial rfl) ?_
            rintro _ rfl
            refine SWl.rd rfl (Rd.pickY rfl (by simp) rfl) ?_
            refine SWl.rd rfl (Rd.assign rfl) ?_
            refine SWl.nil ?_
            refine SN.then ?_
            refine SW.ret (fn := Tryd.f7) (fun _ _ h => h) (Rs.le (Rs.one rfl (ResV.tmp rfl)) ?_)
            exact le_bool_n rfl
end Sx
end Go.Proofs.YtchbgfgboogniaaDoor
