/-
  ENVELOPES: EnvelopeHides.
-/
import Derived.Test.YtchbgfgboogniaaDoorE7
namespace Go.Proofs.YtchbgfgboogniaaDoor
open Go.RowKit
namespace Sx
set_option maxHeartbeats 4000000 in
set_option maxRecDepth 100000 in
theorem envelopeHides_con (bell : Bool) (rnd ser : Int) (kb nb : UInt8) (one other p : List UInt8) : ConN Tryd.prog 9 [boolD bell, iD rnd, iD ser, isD (B8 kb), isD (B8 nb), bD one, bD other, bD p] (boolD true) := by
  refine con_ofN Tryd.func9 (by kernel_rfl) rfl (by kernel_rfl) fun base w0 => ?_
  refine SW.seq ?_
  refine SW.region ?_
  refine SWl.rd rfl (Rd.assign rfl) ?_
  refine SWl.nil ?_
  refine SN.then ?_
  refine SW.seq ?_
  refine SW.seq ?_
  refine SW.region ?_
  refine SWl.rd rfl (Rd.move rfl) ?_
  refine SWl.rd rfl (Rd.lss rfl rfl) ?_
  refine SWl.rd rfl (Rd.move rfl) ?_
  refine SWl.split 36 rfl (fun hb36 => ?_) (fun hb36 => ?_)
  · skip
    refine SWl.off rfl rfl (hb36) rfl rfl ?_
    refine SWl.off rfl rfl (hb36) rfl rfl ?_
    refine SWl.rd rfl (Rd.pickY rfl (hb36) rfl) ?_
    refine SWl.rd rfl (Rd.move rfl) ?_
    refine SWl.off rfl rfl (rfl) rfl rfl ?_
    refine SWl.off rfl rfl (rfl) rfl rfl ?_
    refine SWl.rd rfl (Rd.pickY rfl (rfl) rfl) ?_
    refine SWl.rd rfl (Rd.move rfl) ?_
    refine SWl.off rfl rfl (rfl) rfl rfl ?_
    refine SWl.off rfl rfl (rfl) rfl rfl ?_
    refine SWl.rd rfl (Rd.pickY rfl (rfl) rfl) ?_
    refine SWl.rd rfl (Rd.move rfl) ?_
    refine SWl.off rfl rfl (rfl) rfl rfl ?_
    refine SWl.off rfl rfl (rfl) rfl rfl ?_
    refine SWl.off rfl rfl (rfl) rfl rfl ?_
    refine SWl.rd rfl (Rd.pickY rfl (rfl) rfl) ?_
    refine SWl.rd rfl (Rd.move rfl) ?_
    refine SWl.off rfl rfl (rfl) rfl rfl ?_
    refine SWl.off rfl rfl (rfl) rfl rfl ?_
    refine SWl.off rfl rfl (rfl) rfl rfl ?_
    refine SWl.rd rfl (Rd.pickY rfl (rfl) rfl) ?_
    refine SWl.rd rfl (Rd.move rfl) ?_
    refine SWl.off rfl rfl (rfl) rfl rfl ?_
    refine SWl.off rfl rfl (rfl) rfl rfl ?_
    refine SWl.off rfl rfl (rfl) rfl rfl ?_
    refine SWl.rd rfl (Rd.pickY rfl (rfl) rfl) ?_
    refine SWl.nil ?_
    refine SN.then ?_
    refine SW.condT rfl (rfl) ?_
    refine SW.seq ?_
    refine SW.region ?_
    refine SWl.ef (S := []) (Ef.callN [] (con_known42) rfl trivial rfl) ?_
    rintro _ rfl
    refine SWl.rd rfl (Rd.assign rfl) ?_
    refine SWl.nil ?_
    refine SN.then ?_
    refine SW.ret (fn := Tryd.f9) (fun _ _ h => h) (Rs.le (Rs.one rfl (ResV.tmp rfl)) ?_)
    exact le_bool_n rfl
  · have h36 : ¬ rnd < 0 := of_decide_eq_false hb36
    refine SWl.rdg rfl rfl (hb36) rfl rfl (Rd.move rfl) ?_
    refine SWl.rdg rfl rfl (hb36) rfl rfl (Rd.gtr rfl rfl) ?_
    refine SWl.rd rfl (Rd.pickN rfl (hb36) rfl) ?_
    refine SWl.rd rfl (Rd.move rfl) ?_
    refine SWl.split 40 rfl (fun hb40 => ?_) (fun hb40 => ?_)
    · skip
      refine SWl.off rfl rfl (hb40) rfl rfl ?_
      refine SWl.off rfl rfl (hb40) rfl rfl ?_
      refine SWl.rd rfl (Rd.pickY rfl (hb40) rfl) ?_
      refine SWl.rd rfl (Rd.move rfl) ?_
      refine SWl.off rfl rfl (rfl) rfl rfl ?_
      refine SWl.off rfl rfl (rfl) rfl rfl ?_
      refine SWl.rd rfl (Rd.pickY rfl (rfl) rfl) ?_
      refine SWl.rd rfl (Rd.move rfl) ?_
      refine SWl.off rfl rfl (rfl) rfl rfl ?_
      refine SWl.off rfl rfl (rfl) rfl rfl ?_
      refine SWl.off rfl rfl (rfl) rfl rfl ?_
      refine SWl.rd rfl (Rd.pickY rfl (rfl) rfl) ?_
      refine SWl.rd rfl (Rd.move rfl) ?_
      refine SWl.off rfl rfl (rfl) rfl rfl ?_
      refine SWl.off rfl rfl (rfl) rfl rfl ?_
      refine SWl.off rfl rfl (rfl) rfl rfl ?_
      refine SWl.rd rfl (Rd.pickY rfl (rfl) rfl) ?_
      refine SWl.rd rfl (Rd.move rfl) ?_
      refine SWl.off rfl rfl (rfl) rfl rfl ?_
      refine SWl.off rfl rfl (rfl) rfl rfl ?_
      refine SWl.off rfl rfl (rfl) rfl rfl ?_
      refine SWl.rd rfl (Rd.pickY rfl (rfl) rfl) ?_
      refine SWl.nil ?_
      refine SN.then ?_
      refine SW.condT rfl (rfl) ?_
      refine SW.seq ?_
      refine SW.region ?_
      refine SWl.ef (S := []) (Ef.callN [] (con_known42) rfl trivial rfl) ?_
      rintro _ rfl
      refine SWl.rd rfl (Rd.assign rfl) ?_
      refine SWl.nil ?_
      refine SN.then ?_
      refine SW.ret (fn := Tryd.f9) (fun _ _ h => h) (Rs.le (Rs.one rfl (ResV.tmp rfl)) ?_)
      exact le_bool_n rfl
    · have h40 : ¬ rnd > 1048576 := of_decide_eq_false hb40
      refine SWl.rdg rfl rfl (hb40) rfl rfl (Rd.move rfl) ?_
      refine SWl.rdg rfl rfl (hb40) rfl rfl (Rd.lss rfl rfl) ?_
      refine SWl.rd rfl (Rd.pickN rfl (hb40) rfl) ?_
      refine SWl.rd rfl (Rd.move rfl) ?_
      refine SWl.split 44 rfl (fun hb44 => ?_) (fun hb44 => ?_)
      · skip
        refine SWl.off rfl rfl (hb44) rfl rfl ?_
        refine SWl.off rfl rfl (hb44) rfl rfl ?_
        refine SWl.rd rfl (Rd.pickY rfl (hb44) rfl) ?_
        refine SWl.rd rfl (Rd.move rfl) ?_
        refine SWl.off rfl rfl (rfl) rfl rfl ?_
        refine SWl.off rfl rfl (rfl) rfl rfl ?_
        refine SWl.off rfl rfl (rfl) rfl rfl ?_
        refine SWl.rd rfl (Rd.pickY rfl (rfl) rfl) ?_
        refine SWl.rd rfl (Rd.move rfl) ?_
        refine SWl.off rfl rfl (rfl) rfl rfl ?_
        refine SWl.off rfl rfl (rfl) rfl rfl ?_
        refine SWl.off rfl rfl (rfl) rfl rfl ?_
        refine SWl.rd rfl (Rd.pickY rfl (rfl) rfl) ?_
        refine SWl.rd rfl (Rd.move rfl) ?_
        refine SWl.off rfl rfl (rfl) rfl rfl ?_
        refine SWl.off rfl rfl (rfl) rfl rfl ?_
        refine SWl.off rfl rfl (rfl) rfl rfl ?_
        refine SWl.rd rfl (Rd.pickY rfl (rfl) rfl) ?_
        refine SWl.nil ?_
        refine SN.then ?_
        refine SW.condT rfl (rfl) ?_
        refine SW.seq ?_
        refine SW.region ?_
        refine SWl.ef (S := []) (Ef.callN [] (con_known42) rfl trivial rfl) ?_
        rintro _ rfl
        refine SWl.rd rfl (Rd.assign rfl) ?_
        refine SWl.nil ?_
        refine SN.then ?_
        refine SW.ret (fn := Tryd.f9) (fun _ _ h => h) (Rs.le (Rs.one rfl (ResV.tmp rfl)) ?_)
        exact le_bool_n rfl
      · have h44 : ¬ ser < 0 := of_decide_eq_false hb44
        refine SWl.rdg rfl rfl (hb44) rfl rfl (Rd.move rfl) ?_
        refine SWl.rdg rfl rfl (hb44) rfl rfl (Rd.gtr rfl rfl) ?_
        refine SWl.rd rfl (Rd.pickN rfl (hb44) rfl) ?_
        refine SWl.rd rfl (Rd.move rfl) ?_
        refine SWl.split 48 rfl (fun hb48 => ?_) (fun hb48 => ?_)
        · skip
          refine SWl.off rfl rfl (hb48) rfl rfl ?_
          refine SWl.off rfl rfl (hb48) rfl rfl ?_
          refine SWl.off rfl rfl (hb48) rfl rfl ?_
          refine SWl.rd rfl (Rd.pickY rfl (hb48) rfl) ?_
          refine SWl.rd rfl (Rd.move rfl) ?_
          refine SWl.off rfl rfl (rfl) rfl rfl ?_
          refine SWl.off rfl rfl (rfl) rfl rfl ?_
          refine SWl.off rfl rfl (rfl) rfl rfl ?_
          refine SWl.rd rfl (Rd.pickY rfl (rfl) rfl) ?_
          refine SWl.rd rfl (Rd.move rfl) ?_
          refine SWl.off rfl rfl (rfl) rfl rfl ?_
          refine SWl.off rfl rfl (rfl) rfl rfl ?_
          refine SWl.off rfl rfl (rfl) rfl rfl ?_
          refine SWl.rd rfl (Rd.pickY rfl (rfl) rfl) ?_
          refine SWl.nil ?_
          refine SN.then ?_
          refine SW.condT rfl (rfl) ?_
          refine SW.seq ?_
          refine SW.region ?_
          refine SWl.ef (S := []) (Ef.callN [] (con_known42) rfl trivial rfl) ?_
          rintro _ rfl
          refine SWl.rd rfl (Rd.assign rfl) ?_
          refine SWl.nil ?_
          refine SN.then ?_
          refine SW.ret (fn := Tryd.f9) (fun _ _ h => h) (Rs.le (Rs.one rfl (ResV.tmp rfl)) ?_)
          exact le_bool_n rfl
        · have h48 : ¬ ser > 1073741824 := of_decide_eq_false hb48
          refine SWl.rdg rfl rfl (hb48) rfl rfl (Rd.move rfl) ?_
          refine SWl.rdg rfl rfl (hb48) rfl rfl (Rd.len (e := 5) rfl (by kernel_rfl)) ?_
          refine SWl.rdg rfl rfl (hb48) rfl rfl (Rd.gtr rfl rfl) ?_
          refine SWl.rd rfl (Rd.pickN rfl (hb48) rfl) ?_
          refine SWl.rd rfl (Rd.move rfl) ?_
          refine SWl.split 53 rfl (fun hb53 => ?_) (fun hb53 => ?_)
          · skip
            refine SWl.off rfl rfl (hb53) rfl rfl ?_
            refine SWl.off rfl rfl (hb53) rfl rfl ?_
            refine SWl.off rfl rfl (hb53) rfl rfl ?_
            refine SWl.rd rfl (Rd.pickY rfl (hb53) rfl) ?_
            refine SWl.rd rfl (Rd.move rfl) ?_
            refine SWl.off rfl rfl (rfl) rfl rfl ?_
            refine SWl.off rfl rfl (rfl) rfl rfl ?_
            refine SWl.off rfl rfl (rfl) rfl rfl ?_
            refine SWl.rd rfl (Rd.pickY rfl (rfl) rfl) ?_
            refine SWl.nil ?_
            refine SN.then ?_
            refine SW.condT rfl (rfl) ?_
            refine SW.seq ?_
            refine SW.region ?_
            refine SWl.ef (S := []) (Ef.callN [] (con_known42) rfl trivial rfl) ?_
            rintro _ rfl
            refine SWl.rd rfl (Rd.assign rfl) ?_
            refine SWl.nil ?_
            refine SN.then ?_
            refine SW.ret (fn := Tryd.f9) (fun _ _ h => h) (Rs.le (Rs.one rfl (ResV.tmp rfl)) ?_)
            exact le_bool_n rfl
          · have h53 : one.length ≤ 200 := (by have h := of_decide_eq_false hb53; rw [cellsOf_length] at h; omega)
            refine SWl.rdg rfl rfl (hb53) rfl rfl (Rd.move rfl) ?_
            refine SWl.rdg rfl rfl (hb53) rfl rfl (Rd.len (e := 5) rfl (by kernel_rfl)) ?_
            refine SWl.rdg rfl rfl (hb53) rfl rfl (Rd.gtr rfl rfl) ?_
            refine SWl.rd rfl (Rd.pickN rfl (hb53) rfl) ?_
            refine SWl.rd rfl (Rd.move rfl) ?_
            refine SWl.split 58 rfl (fun hb58 => ?_) (fun hb58 => ?_)
            · skip
              refine SWl.off rfl rfl (hb58) rfl rfl ?_
              refine SWl.off rfl rfl (hb58) rfl rfl ?_
              refine SWl.off rfl rfl (hb58) rfl rfl ?_
              refine SWl.rd rfl (Rd.pickY rfl (hb58) rfl) ?_
              refine SWl.nil ?_
              refine SN.then ?_
              refine SW.condT rfl (rfl) ?_
              refine SW.seq ?_
              refine SW.region ?_
              refine SWl.ef (S := []) (Ef.callN [] (con_known42) rfl trivial rfl) ?_
              rintro _ rfl
              refine SWl.rd rfl (Rd.assign rfl) ?_
              refine SWl.nil ?_
              refine SN.then ?_
              refine SW.ret (fn := Tryd.f9) (fun _ _ h => h) (Rs.le (Rs.one rfl (ResV.tmp rfl)) ?_)
              exact le_bool_n rfl
            · have h58 : other.length ≤ 200 := (by have h := of_decide_eq_false hb58; rw [cellsOf_length] at h; omega)
              refine SWl.rdg rfl rfl (hb58) rfl rfl (Rd.move rfl) ?_
              refine SWl.rdg rfl rfl (hb58) rfl rfl (Rd.len (e := 5) rfl (by kernel_rfl)) ?_
              refine SWl.rdg rfl rfl (hb58) rfl rfl (Rd.gtr rfl rfl) ?_
              refine SWl.rd rfl (Rd.pickN rfl (hb58) rfl) ?_
              refine SWl.nil ?_
              refine SN.then ?_
              refine SW.cond rfl (fun hb62 => ?_) (fun hb62 => ?_)
              · skip
                refine SW.seq ?_
                refine SW.region ?_
                refine SWl.ef (S := []) (Ef.callN [] (con_known42) rfl trivial rfl) ?_
                rintro _ rfl
                refine SWl.rd rfl (Rd.assign rfl) ?_
                refine SWl.nil ?_
                refine SN.then ?_
                refine SW.ret (fn := Tryd.f9) (fun _ _ h => h) (Rs.le (Rs.one rfl (ResV.tmp rfl)) ?_)
                exact le_bool_n rfl
              · have h62 : p.length ≤ 500 := (by have h := of_decide_eq_false hb62; rw [cellsOf_length] at h; omega)
                refine SW.skip ?_
                refine SN.then ?_
                refine SW.seq ?_
                refine SW.sub (σ' := St.ob [(0, boolD bell), (1, iD rnd), (2, iD ser), (5, bD one), (6, bD other), (7, bD p), (3, isD (B8 kb)), (4, isD (B8 nb))] []) (⟨⟨_, rfl, ⟨⟨_, rfl, Le.refl _⟩, ⟨⟨_, rfl, Le.refl _⟩, ⟨⟨_, rfl, Le.refl _⟩, ⟨⟨_, rfl, Le.refl _⟩, ⟨⟨_, rfl, Le.refl _⟩, ⟨⟨_, rfl, Le.refl _⟩, ⟨⟨_, rfl, Le.refl _⟩, ⟨⟨_, rfl, Le.refl _⟩, trivial⟩⟩⟩⟩⟩⟩⟩⟩⟩, [], by decide, trivial⟩) ?_
                refine SW.region ?_
                refine SWl.ef (S := []) (Ef.callR [] (con_given) rfl trivial (by decide) trivial (fun _ h => h) rfl) ?_
                rintro _ ⟨⟨gb, s⟩, rfl⟩
                refine SWl.rd rfl (Rd.move rfl) ?_
                refine SWl.rd rfl (Rd.extract rfl rfl) ?_
                refine SWl.rd rfl (Rd.extract rfl rfl) ?_
                refine SWl.ef (S := []) (Ef.alloc (zs := [.slice none 0 0]) (by kernel_rfl) rfl) ?_
                rintro _ ⟨g18, rfl⟩
                refine SWl.rd rfl (Rd.assign rfl) ?_
                refine SWl.ef (S := [_]) (Ef.storeA 4 rfl rfl rfl (by kernel_rfl) rfl (List.mem_singleton.2 rfl)) ?_
                rintro _ rfl
                refine SWl.nil ?_
                refine SN.then ?_
                refine SW.seq ?_
                refine SW.region ?_
                refine SWl.rd rfl (Rd.assign rfl) ?_
                refine SWl.nil ?_
                refine SN.then ?_
                refine SW.seq ?_
                refine SW.seq ?_
                refine SW.region ?_
                refine SWl.rd rfl (Rd.move rfl) ?_
                refine SWl.nil ?_
                refine SN.then ?_
                refine SW.cond rfl (fun hb68 => ?_) (fun hb68 => ?_)
                · skip
                  refine SW.region ?_
                  refine SWl.rd rfl (Rd.assign rfl) ?_
                  refine SWl.nil ?_
                  refine SN.then ?_
                  refine SW.seq ?_
                  obtain ⟨nm, hnm⟩ : ∃ x, x = nmB := ⟨_, rfl⟩
                  obtain ⟨ac, hac⟩ : ∃ a, Acc.find gL nm = some a := ⟨gB, by rw [hnm]; rfl⟩
                  refine SW.sub (σ' := St.ob [(1, iD rnd), (2, iD ser), (5, bD one), (6, bD other), (7, bD p), (3, isD (B8 kb)), (4, isD (B8 nb)), (17, isD (.pointer (some ⟨gb, 0, none⟩))), (19, strD nm)] [.c gb [isD (.map (s.M.map Prod.fst)), isD (.slice s.n.A (Acc.nm gL).length s.n.c), isD (.map (s.M.map Prod.snd))], .r s.n.F (vecT 9 1 encT s.n.A s.n.c (Acc.nm gL)), .r s.F1 (mapQ (s.M.map Prod.fst) encS (Acc.nm gL) (acD gL)), .r s.F2 (mapQ (s.M.map Prod.snd) encSt (Acc.seats gL) (seD gL))]) (⟨⟨_, rfl, ⟨⟨_, rfl, Le.refl _⟩, ⟨⟨_, rfl, Le.refl _⟩, ⟨⟨_, rfl, Le.refl _⟩, ⟨⟨_, rfl, Le.refl _⟩, ⟨⟨_, rfl, Le.refl _⟩, ⟨⟨_, rfl, Le.refl _⟩, ⟨⟨_, rfl, Le.refl _⟩, ⟨⟨_, rfl, Le.refl _⟩, ⟨⟨_, rfl, (by rw [hnm]; exact Le.refl _)⟩, trivial⟩⟩⟩⟩⟩⟩⟩⟩⟩⟩, [0, 1, 2, 3], by decide, ⟨⟨_, rfl, LeAll.refl _⟩, ⟨⟨_, rfl, LeR.refl _⟩, ⟨⟨_, rfl, LeR.refl _⟩, ⟨⟨_, rfl, LeR.refl _⟩, trivial⟩⟩⟩⟩⟩) ?_
                  refine SW.region ?_
                  refine SWl.rd rfl (Rd.move rfl) ?_
                  refine SWl.ef (S := []) (Ef.call (con_row kb 32 (by decide)) rfl ⟨Le.refl _, Le.refl _, trivial⟩ rfl) ?_
                  rintro _ rfl
                  refine SWl.rd rfl (Rd.move rfl) ?_
                  refine SWl.ef (S := []) (Ef.call (con_row nb 16 (by decide)) rfl ⟨Le.refl _, Le.refl _, trivial⟩ rfl) ?_
                  rintro _ rfl
                  refine SWl.rd rfl (Rd.assign rfl) ?_
                  refine SWl.rd rfl (Rd.assign rfl) ?_
                  refine SWl.nil ?_
                  refine SN.then ?_
                  refine SW.seq ?_
                  obtain ⟨k, hk⟩ : ∃ k, k = List.replicate 32 kb := ⟨_, rfl⟩
                  have hk3 : k.length = 32 := by rw [hk]; simp
                  obtain ⟨n, hn⟩ : ∃ k, k = List.replicate 16 nb := ⟨_, rfl⟩
                  have hn3 : n.length = 16 := by rw [hn]; simp
                  have hA : Env.Sld gL nm rnd ser k n one ac := Env.sld gFine hac ⟨by omega, by omega⟩ ⟨by omega, by omega⟩ hk3 hn3 (by omega)
                  have hB : Env.Sld gL nm rnd ser k n other ac := Env.sld gFine hac ⟨by omega, by omega⟩ ⟨by omega, by omega⟩ hk3 hn3 (by omega)
                  refine SW.sub (σ' := St.ob [(1, iD rnd), (2, iD ser), (5, bD one), (6, bD other), (7, bD p), (17, isD (.pointer (some ⟨gb, 0, none⟩))), (19, strD nm), (20, bD k), (21, bD n)] [.c gb [isD (.map (s.M.map Prod.fst)), isD (.slice s.n.A (Acc.nm gL).length s.n.c), isD (.map (s.M.map Prod.snd))], .r s.n.F (vecT 9 1 encT s.n.A s.n.c (Acc.nm gL)), .r s.F1 (mapQ (s.M.map Prod.fst) encS (Acc.nm gL) (acD gL)), .r s.F2 (mapQ (s.M.map Prod.snd) encSt (Acc.seats gL) (seD gL))]) (⟨⟨_, rfl, ⟨⟨_, rfl, Le.refl _⟩, ⟨⟨_, rfl, Le.refl _⟩, ⟨⟨_, rfl, Le.refl _⟩, ⟨⟨_, rfl, Le.refl _⟩, ⟨⟨_, rfl, Le.refl _⟩, ⟨⟨_, rfl, Le.refl _⟩, ⟨⟨_, rfl, Le.refl _⟩, ⟨⟨_, rfl, (by rw [hk]; exact Le.refl _)⟩, ⟨⟨_, rfl, (by rw [hn]; exact Le.refl _)⟩, trivial⟩⟩⟩⟩⟩⟩⟩⟩⟩⟩, [0, 1, 2, 3], by decide, ⟨⟨_, rfl, LeAll.refl _⟩, ⟨⟨_, rfl, LeR.refl _⟩, ⟨⟨_, rfl, LeR.refl _⟩, ⟨⟨_, rfl, LeR.refl _⟩, trivial⟩⟩⟩⟩⟩) ?_
                  refine SW.region ?_
                  refine SWl.rd rfl (Rd.move rfl) ?_
                  refine SWl.rd rfl (Rd.move rfl) ?_
                  refine SWl.rd rfl (Rd.move rfl) ?_
                  refine SWl.rd rfl (Rd.move rfl) ?_
                  refine SWl.rd rfl (Rd.move rfl) ?_
                  refine SWl.rd rfl (Rd.move rfl) ?_
                  refine SWl.rd rfl (Rd.move rfl) ?_
                  refine SWl.ef (Ef.callR [0, 1, 2, 3] (con_sealE gb s gL nm rnd ser k n one gFine) rfl ⟨Le.refl _, Le.refl _, Le.refl _, Le.refl _, Le.refl _, Le.refl _, Le.refl _, trivial⟩ (by decide) ⟨⟨_, rfl, LeAll.refl _⟩, ⟨⟨_, rfl, LeR.refl _⟩, ⟨⟨_, rfl, LeR.refl _⟩, ⟨⟨_, rfl, LeR.refl _⟩, trivial⟩⟩⟩⟩ (fun _ h => h) rfl) ?_
                  rintro _ ⟨⟨⟩, rfl⟩
                  refine SWl.rd rfl (Rd.move rfl) ?_
                  refine SWl.rd rfl (Rd.extract rfl rfl) ?_
                  refine SWl.rd rfl (Rd.extract rfl rfl) ?_
                  refine SWl.ef (S := []) (Ef.alloc (zs := [.string ⟨#[]⟩, .int .i64 0, .int .i64 0, .slice none 0 0, .slice none 0 0]) (by kernel_rfl) rfl) ?_
                  rintro _ ⟨g22, rfl⟩
                  refine SWl.ef (S := [_]) (Ef.storeA 4 rfl rfl rfl (by kernel_rfl) rfl (List.mem_singleton.2 rfl)) ?_
                  rintro _ rfl
                  refine SWl.rd rfl (Rd.assign rfl) ?_
                  refine SWl.nil ?_
                  refine SN.then ?_
                  refine SW.seq ?_
                  obtain ⟨a, ha⟩ : ∃ a, a = Env.mk gL nm rnd ser k n one := ⟨_, rfl⟩
                  have haut : Env.autE gL a = 0 := by rw [ha]; exact hA.aut
                  have hok : Env.ok a := by rw [ha]; exact hA.ok
                  have hsz : Env.sz a = (one.length : Int) := by rw [ha]; exact sld_sz hA hn3
                  refine SW.sub (σ' := St.ob [(1, iD rnd), (2, iD ser), (5, bD one), (6, bD other), (7, bD p), (17, isD (.pointer (some ⟨gb, 0, none⟩))), (19, strD nm), (22, isD (.pointer (some ⟨g22, 0, none⟩))), (23, iD 0), (20, bD k), (21, bD n)] [.c gb [isD (.map (s.M.map Prod.fst)), isD (.slice s.n.A (Acc.nm gL).length s.n.c), isD (.map (s.M.map Prod.snd))], .r s.n.F (vecT 9 1 encT s.n.A s.n.c (Acc.nm gL)), .r s.F1 (mapQ (s.M.map Prod.fst) encS (Acc.nm gL) (acD gL)), .r s.F2 (mapQ (s.M.map Prod.snd) encSt (Acc.seats gL) (seD gL)), .c g22 [strD a.acc, iD a.rnd, iD a.ser, bD a.box, bD a.tag]]) (⟨⟨_, rfl, ⟨⟨_, rfl, Le.refl _⟩, ⟨⟨_, rfl, Le.refl _⟩, ⟨⟨_, rfl, Le.refl _⟩, ⟨⟨_, rfl, Le.refl _⟩, ⟨⟨_, rfl, Le.refl _⟩, ⟨⟨_, rfl, Le.refl _⟩, ⟨⟨_, rfl, Le.refl _⟩, ⟨⟨_, rfl, Le.refl _⟩, ⟨⟨_, rfl, Le.is (by rw [hA.err])⟩, ⟨⟨_, rfl, Le.refl _⟩, ⟨⟨_, rfl, Le.refl _⟩, trivial⟩⟩⟩⟩⟩⟩⟩⟩⟩⟩⟩⟩, [0, 1, 2, 3, 4], by decide, ⟨⟨_, rfl, LeAll.refl _⟩, ⟨⟨_, rfl, LeR.refl _⟩, ⟨⟨_, rfl, LeR.refl _⟩, ⟨⟨_, rfl, LeR.refl _⟩, ⟨⟨_, rfl, (by rw [ha, ← hA.eq]; exact LeAll.refl _)⟩, trivial⟩⟩⟩⟩⟩⟩) ?_
                  refine SW.region ?_
                  refine SWl.rd rfl (Rd.move rfl) ?_
                  refine SWl.rd rfl (Rd.move rfl) ?_
                  refine SWl.rd rfl (Rd.move rfl) ?_
                  refine SWl.rd rfl (Rd.move rfl) ?_
                  refine SWl.rd rfl (Rd.move rfl) ?_
                  refine SWl.rd rfl (Rd.move rfl) ?_
                  refine SWl.rd rfl (Rd.move rfl) ?_
                  refine SWl.ef (Ef.callR [0, 1, 2, 3] (con_sealE gb s gL nm rnd ser k n other gFine) rfl ⟨Le.refl _, Le.refl _, Le.refl _, Le.refl _, Le.refl _, Le.refl _, Le.refl _, trivial⟩ (by decide) ⟨⟨_, rfl, LeAll.refl _⟩, ⟨⟨_, rfl, LeR.refl _⟩, ⟨⟨_, rfl, LeR.refl _⟩, ⟨⟨_, rfl, LeR.refl _⟩, trivial⟩⟩⟩⟩ (fun _ h => h) rfl) ?_
                  rintro _ ⟨⟨⟩, rfl⟩
                  refine SWl.rd rfl (Rd.move rfl) ?_
                  refine SWl.rd rfl (Rd.extract rfl rfl) ?_
                  refine SWl.rd rfl (Rd.extract rfl rfl) ?_
                  refine SWl.ef (S := []) (Ef.alloc (zs := [.string ⟨#[]⟩, .int .i64 0, .int .i64 0, .slice none 0 0, .slice none 0 0]) (by kernel_rfl) rfl) ?_
                  rintro _ ⟨g24, rfl⟩
                  refine SWl.ef (S := [_]) (Ef.storeA 5 rfl rfl rfl (by kernel_rfl) rfl (List.mem_singleton.2 rfl)) ?_
                  rintro _ rfl
                  refine SWl.rd rfl (Rd.assign rfl) ?_
                  refine SWl.nil ?_
                  refine SN.then ?_
                  refine SW.seq ?_
                  refine SW.seq ?_
                  obtain ⟨b, hb⟩ : ∃ a, a = Env.mk gL nm rnd ser k n other := ⟨_, rfl⟩
                  refine SW.sub (σ' := St.ob [(5, bD one), (6, bD other), (7, bD p), (17, isD (.pointer (some ⟨gb, 0, none⟩))), (22, isD (.pointer (some ⟨g22, 0, none⟩))), (23, iD 0), (24, isD (.pointer (some ⟨g24, 0, none⟩))), (25, iD 0), (20, bD k), (21, bD n)] [.c gb [isD (.map (s.M.map Prod.fst)), isD (.slice s.n.A (Acc.nm gL).length s.n.c), isD (.map (s.M.map Prod.snd))], .r s.n.F (vecT 9 1 encT s.n.A s.n.c (Acc.nm gL)), .r s.F1 (mapQ (s.M.map Prod.fst) encS (Acc.nm gL) (acD gL)), .r s.F2 (mapQ (s.M.map Prod.snd) encSt (Acc.seats gL) (seD gL)), .c g22 [strD a.acc, iD a.rnd, iD a.ser, bD a.box, bD a.tag], .c g24 [strD b.acc, iD b.rnd, iD b.ser, bD b.box, bD b.tag]]) (⟨⟨_, rfl, ⟨⟨_, rfl, Le.refl _⟩, ⟨⟨_, rfl, Le.refl _⟩, ⟨⟨_, rfl, Le.refl _⟩, ⟨⟨_, rfl, Le.refl _⟩, ⟨⟨_, rfl, Le.refl _⟩, ⟨⟨_, rfl, Le.refl _⟩, ⟨⟨_, rfl, Le.refl _⟩, ⟨⟨_, rfl, Le.is (by rw [hB.err])⟩, ⟨⟨_, rfl, Le.refl _⟩, ⟨⟨_, rfl, Le.refl _⟩, trivial⟩⟩⟩⟩⟩⟩⟩⟩⟩⟩⟩, [1, 2, 3, 4, 0, 5], by decide, ⟨⟨_, rfl, LeAll.refl _⟩, ⟨⟨_, rfl, LeR.refl _⟩, ⟨⟨_, rfl, LeR.refl _⟩, ⟨⟨_, rfl, LeR.refl _⟩, ⟨⟨_, rfl, LeAll.refl _⟩, ⟨⟨_, rfl, (by rw [hb, ← hB.eq]; exact LeAll.refl _)⟩, trivial⟩⟩⟩⟩⟩⟩⟩) ?_
                  refine SW.region ?_
                  refine SWl.rd rfl (Rd.move rfl) ?_
                  refine SWl.rd rfl (Rd.nei rfl rfl) ?_
                  refine SWl.rd rfl (Rd.move rfl) ?_
                  refine SWl.rdg rfl rfl (by decide) rfl rfl (Rd.move rfl) ?_
                  refine SWl.rdg rfl rfl (by decide) rfl rfl (Rd.nei rfl rfl) ?_
                  refine SWl.rd rfl (Rd.pickN rfl (by decide) rfl) ?_
                  refine SWl.rd rfl (Rd.move rfl) ?_
                  refine SWl.rdg rfl rfl (by decide) rfl rfl (Rd.loadA 4 5 rfl rfl (by kernel_rfl) rfl ap_nil) ?_
                  refine SWl.efg (S := []) rfl rfl (by decide) rfl (Ef.callN [] (con_sizeE a) rfl ⟨(sees_agg ⟨(sees_le (Le.refl _)), (sees_le (Le.refl _)), (sees_le (Le.refl _)), (sees_le (Le.refl _)), (sees_le (Le.refl _)), trivial⟩), trivial⟩ rfl) ?_
                  rintro _ rfl
                  refine SWl.rdg rfl rfl (by decide) rfl rfl (Rd.move rfl) ?_
                  refine SWl.rdg rfl rfl (by decide) rfl rfl (Rd.len (e := 5) rfl (by kernel_rfl)) ?_
                  refine SWl.rdg rfl rfl (by decide) rfl rfl (Rd.nei rfl rfl) ?_
                  refine SWl.rd rfl (Rd.pickN rfl (by decide) rfl) ?_
                  refine SWl.rd rfl (Rd.move rfl) ?_
                  refine SWl.rdg rfl rfl (by rw [hsz, cellsOf_length]; simp) rfl rfl (Rd.move rfl) ?_
                  refine SWl.rdg rfl rfl (by rw [hsz, cellsOf_length]; simp) rfl rfl (Rd.loadA 4 5 rfl rfl (by kernel_rfl) rfl ap_nil) ?_
                  refine SWl.efg rfl rfl (by rw [hsz, cellsOf_length]; simp) rfl (Ef.callR [0, 1, 2, 3] (con_checkE gb s gL a gFine) rfl ⟨Le.refl _, Le.refl _, trivial⟩ (by decide) ⟨⟨_, rfl, LeAll.refl _⟩, ⟨⟨_, rfl, LeR.refl _⟩, ⟨⟨_, rfl, LeR.refl _⟩, ⟨⟨_, rfl, LeR.refl _⟩, trivial⟩⟩⟩⟩ (fun _ h => h) rfl) ?_
                  rintro _ ⟨⟨⟩, rfl⟩
                  refine SWl.rdg rfl rfl (by rw [hsz, cellsOf_length]; simp) rfl rfl (Rd.nei rfl rfl) ?_
                  refine SWl.rd rfl (Rd.pickN rfl (by rw [hsz, cellsOf_length]; simp) rfl) ?_
                  refine SWl.nil ?_
                  refine SN.then ?_
                  refine SW.condF rfl (by simp [haut]) ?_
                  refine SW.skip ?_
                  refine SN.then ?_
                  refine SW.seq ?_
                  refine SW.seq ?_
                  refine SW.sub (σ' := St.ob [(5, bD one), (6, bD other), (7, bD p), (17, isD (.pointer (some ⟨gb, 0, none⟩))), (22, isD (.pointer (some ⟨g22, 0, none⟩))), (24, isD (.pointer (some ⟨g24, 0, none⟩))), (20, bD k), (21, bD n)] [.c gb [isD (.map (s.M.map Prod.fst)), isD (.slice s.n.A (Acc.nm gL).length s.n.c), isD (.map (s.M.map Prod.snd))], .r s.n.F (vecT 9 1 encT s.n.A s.n.c (Acc.nm gL)), .r s.F1 (mapQ (s.M.map Prod.fst) encS (Acc.nm gL) (acD gL)), .r s.F2 (mapQ (s.M.map Prod.snd) encSt (Acc.seats gL) (seD gL)), .c g22 [strD a.acc, iD a.rnd, iD a.ser, bD a.box, bD a.tag], .c g24 [strD b.acc, iD b.rnd, iD b.ser, bD b.box, bD b.tag]]) (⟨⟨_, rfl, ⟨⟨_, rfl, Le.refl _⟩, ⟨⟨_, rfl, Le.refl _⟩, ⟨⟨_, rfl, Le.refl _⟩, ⟨⟨_, rfl, Le.refl _⟩, ⟨⟨_, rfl, Le.refl _⟩, ⟨⟨_, rfl, Le.refl _⟩, ⟨⟨_, rfl, Le.refl _⟩, ⟨⟨_, rfl, Le.refl _⟩, trivial⟩⟩⟩⟩⟩⟩⟩⟩⟩, [2, 3, 4, 5, 0, 1], by decide, ⟨⟨_, rfl, LeAll.refl _⟩, ⟨⟨_, rfl, LeR.refl _⟩, ⟨⟨_, rfl, LeR.refl _⟩, ⟨⟨_, rfl, LeR.refl _⟩, ⟨⟨_, rfl, LeAll.refl _⟩, ⟨⟨_, rfl, LeAll.refl _⟩, trivial⟩⟩⟩⟩⟩⟩⟩) ?_
                  refine SW.region ?_
                  refine SWl.rd rfl (Rd.move rfl) ?_
                  refine SWl.rd rfl (Rd.len (e := 5) rfl (by kernel_rfl)) ?_
                  refine SWl.rd rfl (Rd.move rfl) ?_
                  refine SWl.rd rfl (Rd.len (e := 5) rfl (by kernel_rfl)) ?_
                  refine SWl.rd rfl (Rd.eqi rfl rfl) ?_
                  refine SWl.rd rfl (Rd.move rfl) ?_
                  refine SWl.split 119 rfl (fun hb119 => ?_) (fun hb119 => ?_)
                  · have h119 : one.length = other.length := (by have h := of_decide_eq_true hb119; rw [cellsOf_length, cellsOf_length] at h; omega); obtain ⟨e4, e5⟩ := mk_alike hA hB hn3 h119; rw [← ha, ← hb] at e4 e5
                    refine SWl.rdg rfl rfl (hb119) rfl rfl (Rd.fieldAddr (n := 0) rfl (by kernel_rfl)) ?_
                    refine SWl.rdg rfl rfl (hb119) rfl rfl (Rd.loadB 4 rfl rfl rfl (by kernel_rfl) ap_nil) ?_
                    refine SWl.rdg rfl rfl (hb119) rfl rfl (Rd.fieldAddr (n := 0) rfl (by kernel_rfl)) ?_
                    refine SWl.rdg rfl rfl (hb119) rfl rfl (Rd.loadB 5 rfl rfl rfl (by kernel_rfl) ap_nil) ?_
                    refine SWl.rdg rfl rfl (hb119) rfl rfl (Rd.nes (p := a.acc) (q := b.acc) rfl rfl) ?_
                    refine SWl.rdg rfl rfl (hb119) rfl rfl (Rd.move rfl) ?_
                    refine SWl.rdg rfl rfl (by simp [ha, hb, Env.mk]) rfl rfl (Rd.fieldAddr (n := 1) rfl (by kernel_rfl)) ?_
                    refine SWl.rdg rfl rfl (by simp [ha, hb, Env.mk]) rfl rfl (Rd.loadB 4 rfl rfl rfl (by kernel_rfl) ap_nil) ?_
                    refine SWl.rdg rfl rfl (by simp [ha, hb, Env.mk]) rfl rfl (Rd.fieldAddr (n := 1) rfl (by kernel_rfl)) ?_
                    refine SWl.rdg rfl rfl (by simp [ha, hb, Env.mk]) rfl rfl (Rd.loadB 5 rfl rfl rfl (by kernel_rfl) ap_nil) ?_
                    refine SWl.rdg rfl rfl (by simp [ha, hb, Env.mk]) rfl rfl (Rd.nei rfl rfl) ?_
                    refine SWl.rdg rfl rfl (hb119) rfl rfl (Rd.pickN rfl (by simp [ha, hb, Env.mk]) rfl) ?_
                    refine SWl.rdg rfl rfl (hb119) rfl rfl (Rd.move rfl) ?_
                    refine SWl.rdg rfl rfl (by simp [ha, hb, Env.mk]) rfl rfl (Rd.fieldAddr (n := 2) rfl (by kernel_rfl)) ?_
                    refine SWl.rdg rfl rfl (by simp [ha, hb, Env.mk]) rfl rfl (Rd.loadB 4 rfl rfl rfl (by kernel_rfl) ap_nil) ?_
                    refine SWl.rdg rfl rfl (by simp [ha, hb, Env.mk]) rfl rfl (Rd.fieldAddr (n := 2) rfl (by kernel_rfl)) ?_
                    refine SWl.rdg rfl rfl (by simp [ha, hb, Env.mk]) rfl rfl (Rd.loadB 5 rfl rfl rfl (by kernel_rfl) ap_nil) ?_
                    refine SWl.rdg rfl rfl (by simp [ha, hb, Env.mk]) rfl rfl (Rd.nei rfl rfl) ?_
                    refine SWl.rdg rfl rfl (hb119) rfl rfl (Rd.pickN rfl (by simp [ha, hb, Env.mk]) rfl) ?_
                    refine SWl.rdg rfl rfl (hb119) rfl rfl (Rd.move rfl) ?_
                    refine SWl.rdg rfl rfl (by simp [ha, hb, Env.mk]) rfl rfl (Rd.fieldAddr (n := 3) rfl (by kernel_rfl)) ?_
                    refine SWl.rdg rfl rfl (by simp [ha, hb, Env.mk]) rfl rfl (Rd.loadB 4 rfl rfl rfl (by kernel_rfl) ap_nil) ?_
                    refine SWl.rdg rfl rfl (by simp [ha, hb, Env.mk]) rfl rfl (Rd.len (e := 5) rfl (by kernel_rfl)) ?_
                    refine SWl.rdg rfl rfl (by simp [ha, hb, Env.mk]) rfl rfl (Rd.fieldAddr (n := 3) rfl (by kernel_rfl)) ?_
                    refine SWl.rdg rfl rfl (by simp [ha, hb, Env.mk]) rfl rfl (Rd.loadB 5 rfl rfl rfl (by kernel_rfl) ap_nil) ?_
                    refine SWl.rdg rfl rfl (by simp [ha, hb, Env.mk]) rfl rfl (Rd.len (e := 5) rfl (by kernel_rfl)) ?_
                    refine SWl.rdg rfl rfl (by simp [ha, hb, Env.mk]) rfl rfl (Rd.nei rfl rfl) ?_
                    refine SWl.rdg rfl rfl (hb119) rfl rfl (Rd.pickN rfl (by simp [ha, hb, Env.mk]) rfl) ?_
                    refine SWl.rdg rfl rfl (hb119) rfl rfl (Rd.move rfl) ?_
                    refine SWl.rdg rfl rfl (by simp [e4]) rfl rfl (Rd.fieldAddr (n := 4) rfl (by kernel_rfl)) ?_
                    refine SWl.rdg rfl rfl (by simp [e4]) rfl rfl (Rd.loadB 4 rfl rfl rfl (by kernel_rfl) ap_nil) ?_
                    refine SWl.rdg rfl rfl (by simp [e4]) rfl rfl (Rd.len (e := 5) rfl (by kernel_rfl)) ?_
                    refine SWl.rdg rfl rfl (by simp [e4]) rfl rfl (Rd.fieldAddr (n := 4) rfl (by kernel_rfl)) ?_
                    refine SWl.rdg rfl rfl (by simp [e4]) rfl rfl (Rd.loadB 5 rfl rfl rfl (by kernel_rfl) ap_nil) ?_
                    refine SWl.rdg rfl rfl (by simp [e4]) rfl rfl (Rd.len (e := 5) rfl (by kernel_rfl)) ?_
                    refine SWl.rdg rfl rfl (by simp [e4]) rfl rfl (Rd.nei rfl rfl) ?_
                    refine SWl.rdg rfl rfl (hb119) rfl rfl (Rd.pickN rfl (by simp [e4]) rfl) ?_
                    refine SWl.rd rfl (Rd.pickY rfl (hb119) rfl) ?_
                    refine SWl.nil ?_
                    refine SN.then ?_
                    refine SW.condF rfl (by simp [e5]) ?_
                    refine SW.skip ?_
                    refine SN.then ?_
                    refine SW.seq ?_
                    refine SW.sub (σ' := St.ob [(5, bD one), (7, bD p), (17, isD (.pointer (some ⟨gb, 0, none⟩))), (22, isD (.pointer (some ⟨g22, 0, none⟩))), (20, bD k), (21, bD n)] [.c gb [isD (.map (s.M.map Prod.fst)), isD (.slice s.n.A (Acc.nm gL).length s.n.c), isD (.map (s.M.map Prod.snd))], .r s.n.F (vecT 9 1 encT s.n.A s.n.c (Acc.nm gL)), .r s.F1 (mapQ (s.M.map Prod.fst) encS (Acc.nm gL) (acD gL)), .r s.F2 (mapQ (s.M.map Prod.snd) encSt (Acc.seats gL) (seD gL)), .c g22 [strD a.acc, iD a.rnd, iD a.ser, bD a.box, bD a.tag]]) (⟨⟨_, rfl, ⟨⟨_, rfl, Le.refl _⟩, ⟨⟨_, rfl, Le.refl _⟩, ⟨⟨_, rfl, Le.refl _⟩, ⟨⟨_, rfl, Le.refl _⟩, ⟨⟨_, rfl, Le.refl _⟩, ⟨⟨_, rfl, Le.refl _⟩, trivial⟩⟩⟩⟩⟩⟩⟩, [0, 1, 2, 3, 4], by decide, ⟨⟨_, rfl, LeAll.refl _⟩, ⟨⟨_, rfl, LeR.refl _⟩, ⟨⟨_, rfl, LeR.refl _⟩, ⟨⟨_, rfl, LeR.refl _⟩, ⟨⟨_, rfl, LeAll.refl _⟩, trivial⟩⟩⟩⟩⟩⟩) ?_
                    refine SW.region ?_
                    refine SWl.rd rfl (Rd.move rfl) ?_
                    refine SWl.rd rfl (Rd.loadA 4 5 rfl rfl (by kernel_rfl) rfl ap_nil) ?_
                    refine SWl.rd rfl (Rd.move rfl) ?_
                    refine SWl.ef (Ef.callR [0, 1, 2, 3] (con_openE gb s gL a gFine k) rfl ⟨Le.refl _, Le.refl _, Le.refl _, trivial⟩ (by decide) ⟨⟨_, rfl, LeAll.refl _⟩, ⟨⟨_, rfl, LeR.refl _⟩, ⟨⟨_, rfl, LeR.refl _⟩, ⟨⟨_, rfl, LeR.refl _⟩, trivial⟩⟩⟩⟩ (fun _ h => h) rfl) ?_
                    rintro _ ⟨⟨⟩, rfl⟩
                    refine SWl.rd rfl (Rd.move rfl) ?_
                    refine SWl.rd rfl (Rd.extract rfl rfl) ?_
                    refine SWl.rd rfl (Rd.extract rfl rfl) ?_
                    refine SWl.rd rfl (Rd.assign rfl) ?_
                    refine SWl.rd rfl (Rd.assign rfl) ?_
                    refine SWl.nil ?_
                    refine SN.then ?_
                    refine SW.seq ?_
                    obtain ⟨o1, o2⟩ := Env.op_sld hA hk3 hn3 (by omega)
                    refine SW.sub (σ' := St.ob [(5, bD one), (7, bD p), (22, isD (.pointer (some ⟨g22, 0, none⟩))), (26, bD one), (27, iD 0)] [.c g22 [strD a.acc, iD a.rnd, iD a.ser, bD a.box, bD a.tag]]) (⟨⟨_, rfl, ⟨⟨_, rfl, Le.refl _⟩, ⟨⟨_, rfl, Le.refl _⟩, ⟨⟨_, rfl, Le.refl _⟩, ⟨⟨_, rfl, (by rw [ha, o2]; exact Le.refl _)⟩, ⟨⟨_, rfl, Le.is (by rw [ha, o1])⟩, trivial⟩⟩⟩⟩⟩⟩, [0], by decide, ⟨⟨_, rfl, LeAll.refl _⟩, trivial⟩⟩) ?_
                    refine SW.region ?_
                    refine SWl.rd rfl (Rd.loadA 0 5 rfl rfl (by kernel_rfl) rfl ap_nil) ?_
                    refine SWl.ef (S := []) (Ef.call (con_encodeE a) rfl ⟨Le.refl _, trivial⟩ rfl) ?_
                    rintro _ rfl
                    refine SWl.rd rfl (Rd.move rfl) ?_
                    refine SWl.rd rfl (Rd.extract rfl rfl) ?_
                    refine SWl.rd rfl (Rd.extract rfl rfl) ?_
                    refine SWl.rd rfl (Rd.assign rfl) ?_
                    refine SWl.rd rfl (Rd.assign rfl) ?_
                    refine SWl.nil ?_
                    refine SN.then ?_
                    refine SW.seq ?_
                    refine SW.sub (σ' := St.ob [(5, bD one), (7, bD p), (22, isD (.pointer (some ⟨g22, 0, none⟩))), (26, bD one), (27, iD 0), (28, bD (Env.enc a)), (29, iD 0)] [.c g22 [strD a.acc, iD a.rnd, iD a.ser, bD a.box, bD a.tag]]) (⟨⟨_, rfl, ⟨⟨_, rfl, Le.refl _⟩, ⟨⟨_, rfl, Le.refl _⟩, ⟨⟨_, rfl, Le.refl _⟩, ⟨⟨_, rfl, Le.refl _⟩, ⟨⟨_, rfl, Le.refl _⟩, ⟨⟨_, rfl, (by rw [Env.encQ, if_pos hok]; exact Le.refl _)⟩, ⟨⟨_, rfl, Le.is (by rw [Env.encE, if_pos hok])⟩, trivial⟩⟩⟩⟩⟩⟩⟩⟩, [0], by decide, ⟨⟨_, rfl, LeAll.refl _⟩, trivial⟩⟩) ?_
                    refine SW.region ?_
                    refine SWl.rd rfl (Rd.move rfl) ?_
                    refine SWl.ef (S := []) (Ef.call (con_decodeE (Env.enc a) (enc_len hok)) rfl ⟨Le.refl _, trivial⟩ rfl) ?_
                    rintro _ rfl
                    refine SWl.rd rfl (Rd.move rfl) ?_
                    refine SWl.rd rfl (Rd.extract rfl rfl) ?_
                    refine SWl.rd rfl (Rd.extract rfl rfl) ?_
                    refine SWl.ef (S := []) (Ef.alloc (zs := [.string ⟨#[]⟩, .int .i64 0, .int .i64 0, .slice none 0 0, .slice none 0 0]) (by kernel_rfl) rfl) ?_
                    rintro _ ⟨g30, rfl⟩
                    refine SWl.ef (S := [_]) (Ef.storeA 1 rfl rfl rfl (by kernel_rfl) rfl (List.mem_singleton.2 rfl)) ?_
                    rintro _ rfl
                    refine SWl.rd rfl (Rd.assign rfl) ?_
                    refine SWl.nil ?_
                    refine SN.then ?_
                    refine SW.seq ?_
                    refine SW.seq ?_
                    refine SW.sub (σ' := St.ob [(5, bD one), (7, bD p), (22, isD (.pointer (some ⟨g22, 0, none⟩))), (26, bD one), (27, iD 0), (29, iD 0), (30, isD (.pointer (some ⟨g30, 0, none⟩))), (31, iD 0)] [.c g22 [strD a.acc, iD a.rnd, iD a.ser, bD a.box, bD a.tag], .c g30 [strD a.acc, iD a.rnd, iD a.ser, bD a.box, bD a.tag]]) (⟨⟨_, rfl, ⟨⟨_, rfl, Le.refl _⟩, ⟨⟨_, rfl, Le.refl _⟩, ⟨⟨_, rfl, Le.refl _⟩, ⟨⟨_, rfl, Le.refl _⟩, ⟨⟨_, rfl, Le.refl _⟩, ⟨⟨_, rfl, Le.refl _⟩, ⟨⟨_, rfl, Le.refl _⟩, ⟨⟨_, rfl, Le.is (by rw [(Env.dec_enc hok).1])⟩, trivial⟩⟩⟩⟩⟩⟩⟩⟩⟩, [0, 1], by decide, ⟨⟨_, rfl, LeAll.refl _⟩, ⟨⟨_, rfl, (by rw [← (Env.dec_enc hok).2]; simp only [(Env.dec_enc hok).2]; exact LeAll.refl _)⟩, trivial⟩⟩⟩) ?_
                    refine SW.region ?_
                    refine SWl.rd rfl (Rd.move rfl) ?_
                    refine SWl.rd rfl (Rd.nei rfl rfl) ?_
                    refine SWl.rd rfl (Rd.move rfl) ?_
                    refine SWl.rdg rfl rfl (by decide) rfl rfl (Rd.move rfl) ?_
                    refine SWl.rdg rfl rfl (by decide) rfl rfl (Rd.str (e := 5) rfl (by kernel_rfl) (by kernel_rfl) (by kernel_rfl) (by simp)) ?_
                    refine SWl.rdg rfl rfl (by decide) rfl rfl (Rd.move rfl) ?_
                    refine SWl.rdg rfl rfl (by decide) rfl rfl (Rd.str (e := 5) rfl (by kernel_rfl) (by kernel_rfl) (by kernel_rfl) (by simp)) ?_
                    refine SWl.rdg rfl rfl (by decide) rfl rfl (Rd.nes (p := one) (q := one) rfl rfl) ?_
                    refine SWl.rd rfl (Rd.pickN rfl (by decide) rfl) ?_
                    refine SWl.rd rfl (Rd.move rfl) ?_
                    refine SWl.rdg rfl rfl (by simp) rfl rfl (Rd.move rfl) ?_
                    refine SWl.rdg rfl rfl (by simp) rfl rfl (Rd.nei rfl rfl) ?_
                    refine SWl.rd rfl (Rd.pickN rfl (by simp) rfl) ?_
                    refine SWl.rd rfl (Rd.move rfl) ?_
                    refine SWl.rdg rfl rfl (by decide) rfl rfl (Rd.move rfl) ?_
                    refine SWl.rdg rfl rfl (by decide) rfl rfl (Rd.nei rfl rfl) ?_
                    refine SWl.rd rfl (Rd.pickN rfl (by decide) rfl) ?_
                    refine SWl.rd rfl (Rd.move rfl) ?_
                    refine SWl.rdg rfl rfl (by decide) rfl rfl (Rd.loadA 0 5 rfl rfl (by kernel_rfl) rfl ap_nil) ?_
                    refine SWl.rdg rfl rfl (by decide) rfl rfl (Rd.loadA 1 5 rfl rfl (by kernel_rfl) rfl ap_nil) ?_
                    refine SWl.efg (S := []) rfl rfl (by decide) rfl (Ef.callN [] (con_sameE a a) rfl ⟨(sees_agg ⟨(sees_le (Le.refl _)), (sees_le (Le.refl _)), (sees_le (Le.refl _)), (sees_le (Le.refl _)), (sees_le (Le.refl _)), trivial⟩), (sees_agg ⟨(sees_le (Le.refl _)), (sees_le (Le.refl _)), (sees_le (Le.refl _)), (sees_le (Le.refl _)), (sees_le (Le.refl _)), trivial⟩), trivial⟩ rfl) ?_
                    rintro _ rfl
                    refine SWl.rdg rfl rfl (by decide) rfl rfl (Rd.not rfl) ?_
                    refine SWl.rd rfl (Rd.pickN rfl (by decide) rfl) ?_
                    refine SWl.nil ?_
                    refine SN.then ?_
                    refine SW.condF rfl (by simp) ?_
                    refine SW.skip ?_
                    refine SN.then ?_
                    refine SW.seq ?_
                    refine SW.sub (σ' := St.ob [(7, bD p)] []) (⟨⟨_, rfl, ⟨⟨_, rfl, Le.refl _⟩, trivial⟩⟩, [], by decide, trivial⟩) ?_
                    refine SW.region ?_
                    refine SWl.rd rfl (Rd.move rfl) ?_
                    refine SWl.ef (S := []) (Ef.call (con_decodeE p (by omega)) rfl ⟨Le.refl _, trivial⟩ rfl) ?_
                    rintro _ rfl
                    refine SWl.rd rfl (Rd.move rfl) ?_
                    refine SWl.rd rfl (Rd.extract rfl rfl) ?_
                    refine SWl.rd rfl (Rd.extract rfl rfl) ?_
                    refine SWl.ef (S := []) (Ef.alloc (zs := [.string ⟨#[]⟩, .int .i64 0, .int .i64 0, .slice none 0 0, .slice none 0 0]) (by kernel_rfl) rfl) ?_
                    rintro _ ⟨g32, rfl⟩
                    refine SWl.ef (S := [_]) (Ef.storeA 0 rfl rfl rfl (by kernel_rfl) rfl (List.mem_singleton.2 rfl)) ?_
                    rintro _ rfl
                    refine SWl.rd rfl (Rd.assign rfl) ?_
                    refine SWl.nil ?_
                    refine SN.then ?_
                    refine SW.seq ?_
                    refine SW.seq ?_
                    obtain ⟨d, hd⟩ : ∃ d, d = Env.dec p := ⟨_, rfl⟩
                    refine SW.sub (σ' := St.ob [(7, bD p), (32, isD (.pointer (some ⟨g32, 0, none⟩))), (33, iD (Env.decE p))] [.c g32 [strD d.acc, iD d.rnd, iD d.ser, bD d.box, bD d.tag]]) (⟨⟨_, rfl, ⟨⟨_, rfl, Le.refl _⟩, ⟨⟨_, rfl, Le.refl _⟩, ⟨⟨_, rfl, Le.refl _⟩, trivial⟩⟩⟩⟩, [0], by decide, ⟨⟨_, rfl, (by rw [hd]; exact LeAll.refl _)⟩, trivial⟩⟩) ?_
                    refine SW.region ?_
                    refine SWl.rd rfl (Rd.move rfl) ?_
                    refine SWl.rd rfl (Rd.nei rfl rfl) ?_
                    refine SWl.nil ?_
                    refine SN.then ?_
                    refine SW.cond rfl (fun hb204 => ?_) (fun hb204 => ?_)
                    · skip
                      refine SW.seq ?_
                      refine SW.region ?_
                      refine SWl.ef (S := []) (Ef.callN [] (con_known42) rfl trivial rfl) ?_
                      rintro _ rfl
                      refine SWl.rd rfl (Rd.assign rfl) ?_
                      refine SWl.nil ?_
                      refine SN.then ?_
                      refine SW.ret (fn := Tryd.f9) (fun _ _ h => h) (Rs.le (Rs.one rfl (ResV.tmp rfl)) ?_)
                      exact le_bool_n rfl
                    · have h204 : Env.decE p = 0 := (by simpa using hb204); obtain ⟨i1, i2⟩ := Env.dec_inv h204; rw [← hd] at i1 i2
                      refine SW.skip ?_
                      refine SN.then ?_
                      refine SW.seq ?_
                      refine SW.region ?_
                      refine SWl.rd rfl (Rd.loadA 0 5 rfl rfl (by kernel_rfl) rfl ap_nil) ?_
                      refine SWl.ef (S := []) (Ef.call (con_encodeE d) rfl ⟨Le.refl _, trivial⟩ rfl) ?_
                      rintro _ rfl
                      refine SWl.rd rfl (Rd.move rfl) ?_
                      refine SWl.rd rfl (Rd.extract rfl rfl) ?_
                      refine SWl.rd rfl (Rd.extract rfl rfl) ?_
                      refine SWl.rd rfl (Rd.assign rfl) ?_
                      refine SWl.rd rfl (Rd.assign rfl) ?_
                      refine SWl.nil ?_
                      refine SN.then ?_
                      refine SW.seq ?_
                      refine SW.region ?_
                      refine SWl.rd rfl (Rd.move rfl) ?_
                      refine SWl.rd rfl (Rd.eqi rfl rfl) ?_
                      refine SWl.rd rfl (Rd.move rfl) ?_
                      refine SWl.rdg rfl rfl (by simp [Env.encE, i1]) rfl rfl (Rd.move rfl) ?_
                      refine SWl.rdg rfl rfl (by simp [Env.encE, i1]) rfl rfl (Rd.str (e := 5) rfl (by kernel_rfl) (by kernel_rfl) (by kernel_rfl) (by simp)) ?_
                      refine SWl.rdg rfl rfl (by simp [Env.encE, i1]) rfl rfl (Rd.move rfl) ?_
                      refine SWl.rdg rfl rfl (by simp [Env.encE, i1]) rfl rfl (Rd.str (e := 5) rfl (by kernel_rfl) (by kernel_rfl) (by kernel_rfl) (by simp)) ?_
                      refine SWl.rdg rfl rfl (by simp [Env.encE, i1]) rfl rfl (Rd.eqs (p := Env.encQ d) (q := p) rfl rfl) ?_
                      refine SWl.rd rfl (Rd.pickY rfl (by simp [Env.encE, i1]) rfl) ?_
                      refine SWl.rd rfl (Rd.move rfl) ?_
                      refine SWl.efg (S := []) rfl rfl (by simp [Env.encQ, i1, i2]) rfl (Ef.callN [] (con_known42) rfl trivial rfl) ?_
                      rintro _ rfl
                      refine SWl.rd rfl (Rd.pickY rfl (by simp [Env.encQ, i1, i2]) rfl) ?_
                      refine SWl.rd rfl (Rd.assign rfl) ?_
                      refine SWl.nil ?_
                      refine SN.then ?_
                      refine SW.ret (fn := Tryd.f9) (fun _ _ h => h) (Rs.le (Rs.one rfl (ResV.tmp rfl)) ?_)
                      exact le_bool_n rfl
                  · skip
                    refine SWl.off rfl rfl (hb119) rfl rfl ?_
                    refine SWl.off rfl rfl (hb119) rfl rfl ?_
                    refine SWl.off rfl rfl (hb119) rfl rfl ?_
                    refine SWl.off rfl rfl (hb119) rfl rfl ?_
                    refine SWl.off rfl rfl (hb119) rfl rfl ?_
                    refine SWl.off rfl rfl (hb119) rfl rfl ?_
                    refine SWl.offu rfl rfl rfl rfl ?_
                    refine SWl.offu rfl rfl rfl rfl ?_
                    refine SWl.offu rfl rfl rfl rfl ?_
                    refine SWl.offu rfl rfl rfl rfl ?_
                    refine SWl.offu rfl rfl rfl rfl ?_
                    refine SWl.off rfl rfl (hb119) rfl rfl ?_
                    refine SWl.off rfl rfl (hb119) rfl rfl ?_
                    refine SWl.offu rfl rfl rfl rfl ?_
                    refine SWl.offu rfl rfl rfl rfl ?_
                    refine SWl.offu rfl rfl rfl rfl ?_
                    refine SWl.offu rfl rfl rfl rfl ?_
                    refine SWl.offu rfl rfl rfl rfl ?_
                    refine SWl.off rfl rfl (hb119) rfl rfl ?_
                    refine SWl.off rfl rfl (hb119) rfl rfl ?_
                    refine SWl.offu rfl rfl rfl rfl ?_
                    refine SWl.offu rfl rfl rfl rfl ?_
                    refine SWl.offu rfl rfl rfl rfl ?_
                    refine SWl.offu rfl rfl rfl rfl ?_
                    refine SWl.offu rfl rfl rfl rfl ?_
                    refine SWl.offu rfl rfl rfl rfl ?_
                    refine SWl.offu rfl rfl rfl rfl ?_
                    refine SWl.off rfl rfl (hb119) rfl rfl ?_
                    refine SWl.off rfl rfl (hb119) rfl rfl ?_
                    refine SWl.offu rfl rfl rfl rfl ?_
                    refine SWl.offu rfl rfl rfl rfl ?_
                    refine SWl.offu rfl rfl rfl rfl ?_
                    refine SWl.offu rfl rfl rfl rfl ?_
                    refine SWl.offu rfl rfl rfl rfl ?_
                    refine SWl.offu rfl rfl rfl rfl ?_
                    refine SWl.offu rfl rfl rfl rfl ?_
                    refine SWl.off rfl rfl (hb119) rfl rfl ?_
                    refine SWl.rd rfl (Rd.pickN rfl (hb119) rfl) ?_
                    refine SWl.nil ?_
                    refine SN.then ?_
                    refine SW.condF rfl (rfl) ?_
                    refine SW.skip ?_
                    refine SN.then ?_
                    refine SW.seq ?_
                    refine SW.sub (σ' := St.ob [(5, bD one), (7, bD p), (17, isD (.pointer (some ⟨gb, 0, none⟩))), (22, isD (.pointer (some ⟨g22, 0, none⟩))), (20, bD k), (21, bD n)] [.c gb [isD (.map (s.M.map Prod.fst)), isD (.slice s.n.A (Acc.nm gL).length s.n.c), isD (.map (s.M.map Prod.snd))], .r s.n.F (vecT 9 1 encT s.n.A s.n.c (Acc.nm gL)), .r s.F1 (mapQ (s.M.map Prod.fst) encS (Acc.nm gL) (acD gL)), .r s.F2 (mapQ (s.M.map Prod.snd) encSt (Acc.seats gL) (seD gL)), .c g22 [strD a.acc, iD a.rnd, iD a.ser, bD a.box, bD a.tag]]) (⟨⟨_, rfl, ⟨⟨_, rfl, Le.refl _⟩, ⟨⟨_, rfl, Le.refl _⟩, ⟨⟨_, rfl, Le.refl _⟩, ⟨⟨_, rfl, Le.refl _⟩, ⟨⟨_, rfl, Le.refl _⟩, ⟨⟨_, rfl, Le.refl _⟩, trivial⟩⟩⟩⟩⟩⟩⟩, [0, 1, 2, 3, 4], by decide, ⟨⟨_, rfl, LeAll.refl _⟩, ⟨⟨_, rfl, LeR.refl _⟩, ⟨⟨_, rfl, LeR.refl _⟩, ⟨⟨_, rfl, LeR.refl _⟩, ⟨⟨_, rfl, LeAll.refl _⟩, trivial⟩⟩⟩⟩⟩⟩) ?_
                    refine SW.region ?_
                    refine SWl.rd rfl (Rd.move rfl) ?_
                    refine SWl.rd rfl (Rd.loadA 4 5 rfl rfl (by kernel_rfl) rfl ap_nil) ?_
                    refine SWl.rd rfl (Rd.move rfl) ?_
                    refine SWl.ef (Ef.callR [0, 1, 2, 3] (con_openE gb s gL a gFine k) rfl ⟨Le.refl _, Le.refl _, Le.refl _, trivial⟩ (by decide) ⟨⟨_, rfl, LeAll.refl _⟩, ⟨⟨_, rfl, LeR.refl _⟩, ⟨⟨_, rfl, LeR.refl _⟩, ⟨⟨_, rfl, LeR.refl _⟩, trivial⟩⟩⟩⟩ (fun _ h => h) rfl) ?_
                    rintro _ ⟨⟨⟩, rfl⟩
                    refine SWl.rd rfl (Rd.move rfl) ?_
                    refine SWl.rd rfl (Rd.extract rfl rfl) ?_
                    refine SWl.rd rfl (Rd.extract rfl rfl) ?_
                    refine SWl.rd rfl (Rd.assign rfl) ?_
                    refine SWl.rd rfl (Rd.assign rfl) ?_
                    refine SWl.nil ?_
                    refine SN.then ?_
                    refine SW.seq ?_
                    obtain ⟨o1, o2⟩ := Env.op_sld hA hk3 hn3 (by omega)
                    refine SW.sub (σ' := St.ob [(5, bD one), (7, bD p), (22, isD (.pointer (some ⟨g22, 0, none⟩))), (26, bD one), (27, iD 0)] [.c g22 [strD a.acc, iD a.rnd, iD a.ser, bD a.box, bD a.tag]]) (⟨⟨_, rfl, ⟨⟨_, rfl, Le.refl _⟩, ⟨⟨_, rfl, Le.refl _⟩, ⟨⟨_, rfl, Le.refl _⟩, ⟨⟨_, rfl, (by rw [ha, o2]; exact Le.refl _)⟩, ⟨⟨_, rfl, Le.is (by rw [ha, o1])⟩, trivial⟩⟩⟩⟩⟩⟩, [0], by decide, ⟨⟨_, rfl, LeAll.refl _⟩, trivial⟩⟩) ?_
                    refine SW.region ?_
                    refine SWl.rd rfl (Rd.loadA 0 5 rfl rfl (by kernel_rfl) rfl ap_nil) ?_
                    refine SWl.ef (S := []) (Ef.call (con_encodeE a) rfl ⟨Le.refl _, trivial⟩ rfl) ?_
                    rintro _ rfl
                    refine SWl.rd rfl (Rd.move rfl) ?_
                    refine SWl.rd rfl (Rd.extract rfl rfl) ?_
                    refine SWl.rd rfl (Rd.extract rfl rfl) ?_
                    refine SWl.rd rfl (Rd.assign rfl) ?_
                    refine SWl.rd rfl (Rd.assign rfl) ?_
                    refine SWl.nil ?_
                    refine SN.then ?_
                    refine SW.seq ?_
                    refine SW.sub (σ' := St.ob [(5, bD one), (7, bD p), (22, isD (.pointer (some ⟨g22, 0, none⟩))), (26, bD one), (27, iD 0), (28, bD (Env.enc a)), (29, iD 0)] [.c g22 [strD a.acc, iD a.rnd, iD a.ser, bD a.box, bD a.tag]]) (⟨⟨_, rfl, ⟨⟨_, rfl, Le.refl _⟩, ⟨⟨_, rfl, Le.refl _⟩, ⟨⟨_, rfl, Le.refl _⟩, ⟨⟨_, rfl, Le.refl _⟩, ⟨⟨_, rfl, Le.refl _⟩, ⟨⟨_, rfl, (by rw [Env.encQ, if_pos hok]; exact Le.refl _)⟩, ⟨⟨_, rfl, Le.is (by rw [Env.encE, if_pos hok])⟩, trivial⟩⟩⟩⟩⟩⟩⟩⟩, [0], by decide, ⟨⟨_, rfl, LeAll.refl _⟩, trivial⟩⟩) ?_
                    refine SW.region ?_
                    refine SWl.rd rfl (Rd.move rfl) ?_
                    refine SWl.ef (S := []) (Ef.call (con_decodeE (Env.enc a) (enc_len hok)) rfl ⟨Le.refl _, trivial⟩ rfl) ?_
                    rintro _ rfl
                    refine SWl.rd rfl (Rd.move rfl) ?_
                    refine SWl.rd rfl (Rd.extract rfl rfl) ?_
                    refine SWl.rd rfl (Rd.extract rfl rfl) ?_
                    refine SWl.ef (S := []) (Ef.alloc (zs := [.string ⟨#[]⟩, .int .i64 0, .int .i64 0, .slice none 0 0, .slice none 0 0]) (by kernel_rfl) rfl) ?_
                    rintro _ ⟨g30, rfl⟩
                    refine SWl.ef (S := [_]) (Ef.storeA 1 rfl rfl rfl (by kernel_rfl) rfl (List.mem_singleton.2 rfl)) ?_
                    rintro _ rfl
                    refine SWl.rd rfl (Rd.assign rfl) ?_
                    refine SWl.nil ?_
                    refine SN.then ?_
                    refine SW.seq ?_
                    refine SW.seq ?_
                    refine SW.sub (σ' := St.ob [(5, bD one), (7, bD p), (22, isD (.pointer (some ⟨g22, 0, none⟩))), (26, bD one), (27, iD 0), (29, iD 0), (30, isD (.pointer (some ⟨g30, 0, none⟩))), (31, iD 0)] [.c g22 [strD a.acc, iD a.rnd, iD a.ser, bD a.box, bD a.tag], .c g30 [strD a.acc, iD a.rnd, iD a.ser, bD a.box, bD a.tag]]) (⟨⟨_, rfl, ⟨⟨_, rfl, Le.refl _⟩, ⟨⟨_, rfl, Le.refl _⟩, ⟨⟨_, rfl, Le.refl _⟩, ⟨⟨_, rfl, Le.refl _⟩, ⟨⟨_, rfl, Le.refl _⟩, ⟨⟨_, rfl, Le.refl _⟩, ⟨⟨_, rfl, Le.refl _⟩, ⟨⟨_, rfl, Le.is (by rw [(Env.dec_enc hok).1])⟩, trivial⟩⟩⟩⟩⟩⟩⟩⟩⟩, [0, 1], by decide, ⟨⟨_, rfl, LeAll.refl _⟩, ⟨⟨_, rfl, (by rw [← (Env.dec_enc hok).2]; simp only [(Env.dec_enc hok).2]; exact LeAll.refl _)⟩, trivial⟩⟩⟩) ?_
                    refine SW.region ?_
                    refine SWl.rd rfl (Rd.move rfl) ?_
                    refine SWl.rd rfl (Rd.nei rfl rfl) ?_
                    refine SWl.rd rfl (Rd.move rfl) ?_
                    refine SWl.rdg rfl rfl (by decide) rfl rfl (Rd.move rfl) ?_
                    refine SWl.rdg rfl rfl (by decide) rfl rfl (Rd.str (e := 5) rfl (by kernel_rfl) (by kernel_rfl) (by kernel_rfl) (by simp)) ?_
                    refine SWl.rdg rfl rfl (by decide) rfl rfl (Rd.move rfl) ?_
                    refine SWl.rdg rfl rfl (by decide) rfl rfl (Rd.str (e := 5) rfl (by kernel_rfl) (by kernel_rfl) (by kernel_rfl) (by simp)) ?_
                    refine SWl.rdg rfl rfl (by decide) rfl rfl (Rd.nes (p := one) (q := one) rfl rfl) ?_
                    refine SWl.rd rfl (Rd.pickN rfl (by decide) rfl) ?_
                    refine SWl.rd rfl (Rd.move rfl) ?_
                    refine SWl.rdg rfl rfl (by simp) rfl rfl (Rd.move rfl) ?_
                    refine SWl.rdg rfl rfl (by simp) rfl rfl (Rd.nei rfl rfl) ?_
                    refine SWl.rd rfl (Rd.pickN rfl (by simp) rfl) ?_
                    refine SWl.rd rfl (Rd.move rfl) ?_
                    refine SWl.rdg rfl rfl (by decide) rfl rfl (Rd.move rfl) ?_
                    refine SWl.rdg rfl rfl (by decide) rfl rfl (Rd.nei rfl rfl) ?_
                    refine SWl.rd rfl (Rd.pickN rfl (by decide) rfl) ?_
                    refine SWl.rd rfl (Rd.move rfl) ?_
                    refine SWl.rdg rfl rfl (by decide) rfl rfl (Rd.loadA 0 5 rfl rfl (by kernel_rfl) rfl ap_nil) ?_
                    refine SWl.rdg rfl rfl (by decide) rfl rfl (Rd.loadA 1 5 rfl rfl (by kernel_rfl) rfl ap_nil) ?_
                    refine SWl.efg (S := []) rfl rfl (by decide) rfl (Ef.callN [] (con_sameE a a) rfl ⟨(sees_agg ⟨(sees_le (Le.refl _)), (sees_le (Le.refl _)), (sees_le (Le.refl _)), (sees_le (Le.refl _)), (sees_le (Le.refl _)), trivial⟩), (sees_agg ⟨(sees_le (Le.refl _)), (sees_le (Le.refl _)), (sees_le (Le.refl _)), (sees_le (Le.refl _)), (sees_le (Le.refl _)), trivial⟩), trivial⟩ rfl) ?_
                    rintro _ rfl
                    refine SWl.rdg rfl rfl (by decide) rfl rfl (Rd.not rfl) ?_
                    refine SWl.rd rfl (Rd.pickN rfl (by decide) rfl) ?_
                    refine SWl.nil ?_
                    refine SN.then ?_
                    refine SW.condF rfl (by simp) ?_
                    refine SW.skip ?_
                    refine SN.then ?_
                    refine SW.seq ?_
                    refine SW.sub (σ' := St.ob [(7, bD p)] []) (⟨⟨_, rfl, ⟨⟨_, rfl, Le.refl _⟩, trivial⟩⟩, [], by decide, trivial⟩) ?_
                    refine SW.region ?_
                    refine SWl.rd rfl (Rd.move rfl) ?_
                    refine SWl.ef (S := []) (Ef.call (con_decodeE p (by omega)) rfl ⟨Le.refl _, trivial⟩ rfl) ?_
                    rintro _ rfl
                    refine SWl.rd rfl (Rd.move rfl) ?_
                    refine SWl.rd rfl (Rd.extract rfl rfl) ?_
                    refine SWl.rd rfl (Rd.extract rfl rfl) ?_
                    refine SWl.ef (S := []) (Ef.alloc (zs := [.string ⟨#[]⟩, .int .i64 0, .int .i64 0, .slice none 0 0, .slice none 0 0]) (by kernel_rfl) rfl) ?_
                    rintro _ ⟨g32, rfl⟩
                    refine SWl.ef (S := [_]) (Ef.storeA 0 rfl rfl rfl (by kernel_rfl) rfl (List.mem_singleton.2 rfl)) ?_
                    rintro _ rfl
                    refine SWl.rd rfl (Rd.assign rfl) ?_
                    refine SWl.nil ?_
                    refine SN.then ?_
                    refine SW.seq ?_
                    refine SW.seq ?_
                    obtain ⟨d, hd⟩ : ∃ d, d = Env.dec p := ⟨_, rfl⟩
                    refine SW.sub (σ' := St.ob [(7, bD p), (32, isD (.pointer (some ⟨g32, 0, none⟩))), (33, iD (Env.decE p))] [.c g32 [strD d.acc, iD d.rnd, iD d.ser, bD d.box, bD d.tag]]) (⟨⟨_, rfl, ⟨⟨_, rfl, Le.refl _⟩, ⟨⟨_, rfl, Le.refl _⟩, ⟨⟨_, rfl, Le.refl _⟩, trivial⟩⟩⟩⟩, [0], by decide, ⟨⟨_, rfl, (by rw [hd]; exact LeAll.refl _)⟩, trivial⟩⟩) ?_
                    refine SW.region ?_
                    refine SWl.rd rfl (Rd.move rfl) ?_
                    refine SWl.rd rfl (Rd.nei rfl rfl) ?_
                    refine SWl.nil ?_
                    refine SN.then ?_
                    refine SW.cond rfl (fun hb204 => ?_) (fun hb204 => ?_)
                    · skip
                      refine SW.seq ?_
                      refine SW.region ?_
                      refine SWl.ef (S := []) (Ef.callN [] (con_known42) rfl trivial rfl) ?_
                      rintro _ rfl
                      refine SWl.rd rfl (Rd.assign rfl) ?_
                      refine SWl.nil ?_
                      refine SN.then ?_
                      refine SW.ret (fn := Tryd.f9) (fun _ _ h => h) (Rs.le (Rs.one rfl (ResV.tmp rfl)) ?_)
                      exact le_bool_n rfl
                    · have h204 : Env.decE p = 0 := (by simpa using hb204); obtain ⟨i1, i2⟩ := Env.dec_inv h204; rw [← hd] at i1 i2
                      refine SW.skip ?_
                      refine SN.then ?_
                      refine SW.seq ?_
                      refine SW.region ?_
                      refine SWl.rd rfl (Rd.loadA 0 5 rfl rfl (by kernel_rfl) rfl ap_nil) ?_
                      refine SWl.ef (S := []) (Ef.call (con_encodeE d) rfl ⟨Le.refl _, trivial⟩ rfl) ?_
                      rintro _ rfl
                      refine SWl.rd rfl (Rd.move rfl) ?_
                      refine SWl.rd rfl (Rd.extract rfl rfl) ?_
                      refine SWl.rd rfl (Rd.extract rfl rfl) ?_
                      refine SWl.rd rfl (Rd.assign rfl) ?_
                      refine SWl.rd rfl (Rd.assign rfl) ?_
                      refine SWl.nil ?_
                      refine SN.then ?_
                      refine SW.seq ?_
                      refine SW.region ?_
                      refine SWl.rd rfl (Rd.move rfl) ?_
                      refine SWl.rd rfl (Rd.eqi rfl rfl) ?_
                      refine SWl.rd rfl (Rd.move rfl) ?_
                      refine SWl.rdg rfl rfl (by simp [Env.encE, i1]) rfl rfl (Rd.move rfl) ?_
                      refine SWl.rdg rfl rfl (by simp [Env.encE, i1]) rfl rfl (Rd.str (e := 5) rfl (by kernel_rfl) (by kernel_rfl) (by kernel_rfl) (by simp)) ?_
                      refine SWl.rdg rfl rfl (by simp [Env.encE, i1]) rfl rfl (Rd.move rfl) ?_
                      refine SWl.rdg rfl rfl (by simp [Env.encE, i1]) rfl rfl (Rd.str (e := 5) rfl (by kernel_rfl) (by kernel_rfl) (by kernel_rfl) (by simp)) ?_
                      refine SWl.rdg rfl rfl (by simp [Env.encE, i1]) rfl rfl (Rd.eqs (p := Env.encQ d) (q := p) rfl rfl) ?_
                      refine SWl.rd rfl (Rd.pickY rfl (by simp [Env.encE, i1]) rfl) ?_
                      refine SWl.rd rfl (Rd.move rfl) ?_
                      refine SWl.efg (S := []) rfl rfl (by simp [Env.encQ, i1, i2]) rfl (Ef.callN [] (con_known42) rfl trivial rfl) ?_
                      rintro _ rfl
                      refine SWl.rd rfl (Rd.pickY rfl (by simp [Env.encQ, i1, i2]) rfl) ?_
                      refine SWl.rd rfl (Rd.assign rfl) ?_
                      refine SWl.nil ?_
                      refine SN.then ?_
                      refine SW.ret (fn := Tryd.f9) (fun _ _ h => h) (Rs.le (Rs.one rfl (ResV.tmp rfl)) ?_)
                      exact le_bool_n rfl
                · skip
                  refine SW.skip ?_
                  refine SN.then ?_
                  refine SW.seq ?_
                  obtain ⟨nm, hnm⟩ : ∃ x, x = nmA := ⟨_, rfl⟩
                  obtain ⟨ac, hac⟩ : ∃ a, Acc.find gL nm = some a := ⟨gA, by rw [hnm]; rfl⟩
                  refine SW.sub (σ' := St.ob [(1, iD rnd), (2, iD ser), (5, bD one), (6, bD other), (7, bD p), (3, isD (B8 kb)), (4, isD (B8 nb)), (17, isD (.pointer (some ⟨gb, 0, none⟩))), (19, strD nm)] [.c gb [isD (.map (s.M.map Prod.fst)), isD (.slice s.n.A (Acc.nm gL).length s.n.c), isD (.map (s.M.map Prod.snd))], .r s.n.F (vecT 9 1 encT s.n.A s.n.c (Acc.nm gL)), .r s.F1 (mapQ (s.M.map Prod.fst) encS (Acc.nm gL) (acD gL)), .r s.F2 (mapQ (s.M.map Prod.snd) encSt (Acc.seats gL) (seD gL))]) (⟨⟨_, rfl, ⟨⟨_, rfl, Le.refl _⟩, ⟨⟨_, rfl, Le.refl _⟩, ⟨⟨_, rfl, Le.refl _⟩, ⟨⟨_, rfl, Le.refl _⟩, ⟨⟨_, rfl, Le.refl _⟩, ⟨⟨_, rfl, Le.refl _⟩, ⟨⟨_, rfl, Le.refl _⟩, ⟨⟨_, rfl, Le.refl _⟩, ⟨⟨_, rfl, (by rw [hnm]; exact Le.refl _)⟩, trivial⟩⟩⟩⟩⟩⟩⟩⟩⟩⟩, [0, 1, 2, 3], by decide, ⟨⟨_, rfl, LeAll.refl _⟩, ⟨⟨_, rfl, LeR.refl _⟩, ⟨⟨_, rfl, LeR.refl _⟩, ⟨⟨_, rfl, LeR.refl _⟩, trivial⟩⟩⟩⟩⟩) ?_
                  refine SW.region ?_
                  refine SWl.rd rfl (Rd.move rfl) ?_
                  refine SWl.ef (S := []) (Ef.call (con_row kb 32 (by decide)) rfl ⟨Le.refl _, Le.refl _, trivial⟩ rfl) ?_
                  rintro _ rfl
                  refine SWl.rd rfl (Rd.move rfl) ?_
                  refine SWl.ef (S := []) (Ef.call (con_row nb 16 (by decide)) rfl ⟨Le.refl _, Le.refl _, trivial⟩ rfl) ?_
                  rintro _ rfl
                  refine SWl.rd rfl (Rd.assign rfl) ?_
                  refine SWl.rd rfl (Rd.assign rfl) ?_
                  refine SWl.nil ?_
                  refine SN.then ?_
                  refine SW.seq ?_
                  obtain ⟨k, hk⟩ : ∃ k, k = List.replicate 32 kb := ⟨_, rfl⟩
                  have hk3 : k.length = 32 := by rw [hk]; simp
                  obtain ⟨n, hn⟩ : ∃ k, k = List.replicate 16 nb := ⟨_, rfl⟩
                  have hn3 : n.length = 16 := by rw [hn]; simp
                  have hA : Env.Sld gL nm rnd ser k n one ac := Env.sld gFine hac ⟨by omega, by omega⟩ ⟨by omega, by omega⟩ hk3 hn3 (by omega)
                  have hB : Env.Sld gL nm rnd ser k n other ac := Env.sld gFine hac ⟨by omega, by omega⟩ ⟨by omega, by omega⟩ hk3 hn3 (by omega)
                  refine SW.sub (σ' := St.ob [(1, iD rnd), (2, iD ser), (5, bD one), (6, bD other), (7, bD p), (17, isD (.pointer (some ⟨gb, 0, none⟩))), (19, strD nm), (20, bD k), (21, bD n)] [.c gb [isD (.map (s.M.map Prod.fst)), isD (.slice s.n.A (Acc.nm gL).length s.n.c), isD (.map (s.M.map Prod.snd))], .r s.n.F (vecT 9 1 encT s.n.A s.n.c (Acc.nm gL)), .r s.F1 (mapQ (s.M.map Prod.fst) encS (Acc.nm gL) (acD gL)), .r s.F2 (mapQ (s.M.map Prod.snd) encSt (Acc.seats gL) (seD gL))]) (⟨⟨_, rfl, ⟨⟨_, rfl, Le.refl _⟩, ⟨⟨_, rfl, Le.refl _⟩, ⟨⟨_, rfl, Le.refl _⟩, ⟨⟨_, rfl, Le.refl _⟩, ⟨⟨_, rfl, Le.refl _⟩, ⟨⟨_, rfl, Le.refl _⟩, ⟨⟨_, rfl, Le.refl _⟩, ⟨⟨_, rfl, (by rw [hk]; exact Le.refl _)⟩, ⟨⟨_, rfl, (by rw [hn]; exact Le.refl _)⟩, trivial⟩⟩⟩⟩⟩⟩⟩⟩⟩⟩, [0, 1, 2, 3], by decide, ⟨⟨_, rfl, LeAll.refl _⟩, ⟨⟨_, rfl, LeR.refl _⟩, ⟨⟨_, rfl, LeR.refl _⟩, ⟨⟨_, rfl, LeR.refl _⟩, trivial⟩⟩⟩⟩⟩) ?_
                  refine SW.region ?_
                  refine SWl.rd rfl (Rd.move rfl) ?_
                  refine SWl.rd rfl (Rd.move rfl) ?_
                  refine SWl.rd rfl (Rd.move rfl) ?_
                  refine SWl.rd rfl (Rd.move rfl) ?_
                  refine SWl.rd rfl (Rd.move rfl) ?_
                  refine SWl.rd rfl (Rd.move rfl) ?_
                  refine SWl.rd rfl (Rd.move rfl) ?_
                  refine SWl.ef (Ef.callR [0, 1, 2, 3] (con_sealE gb s gL nm rnd ser k n one gFine) rfl ⟨Le.refl _, Le.refl _, Le.refl _, Le.refl _, Le.refl _, Le.refl _, Le.refl _, trivial⟩ (by decide) ⟨⟨_, rfl, LeAll.refl _⟩, ⟨⟨_, rfl, LeR.refl _⟩, ⟨⟨_, rfl, LeR.refl _⟩, ⟨⟨_, rfl, LeR.refl _⟩, trivial⟩⟩⟩⟩ (fun _ h => h) rfl) ?_
                  rintro _ ⟨⟨⟩, rfl⟩
                  refine SWl.rd rfl (Rd.move rfl) ?_
                  refine SWl.rd rfl (Rd.extract rfl rfl) ?_
                  refine SWl.rd rfl (Rd.extract rfl rfl) ?_
                  refine SWl.ef (S := []) (Ef.alloc (zs := [.string ⟨#[]⟩, .int .i64 0, .int .i64 0, .slice none 0 0, .slice none 0 0]) (by kernel_rfl) rfl) ?_
                  rintro _ ⟨g22, rfl⟩
                  refine SWl.ef (S := [_]) (Ef.storeA 4 rfl rfl rfl (by kernel_rfl) rfl (List.mem_singleton.2 rfl)) ?_
                  rintro _ rfl
                  refine SWl.rd rfl (Rd.assign rfl) ?_
                  refine SWl.nil ?_
                  refine SN.then ?_
                  refine SW.seq ?_
                  obtain ⟨a, ha⟩ : ∃ a, a = Env.mk gL nm rnd ser k n one := ⟨_, rfl⟩
                  have haut : Env.autE gL a = 0 := by rw [ha]; exact hA.aut
                  have hok : Env.ok a := by rw [ha]; exact hA.ok
                  have hsz : Env.sz a = (one.length : Int) := by rw [ha]; exact sld_sz hA hn3
                  refine SW.sub (σ' := St.ob [(1, iD rnd), (2, iD ser), (5, bD one), (6, bD other), (7, bD p), (17, isD (.pointer (some ⟨gb, 0, none⟩))), (19, strD nm), (22, isD (.pointer (some ⟨g22, 0, none⟩))), (23, iD 0), (20, bD k), (21, bD n)] [.c gb [isD (.map (s.M.map Prod.fst)), isD (.slice s.n.A (Acc.nm gL).length s.n.c), isD (.map (s.M.map Prod.snd))], .r s.n.F (vecT 9 1 encT s.n.A s.n.c (Acc.nm gL)), .r s.F1 (mapQ (s.M.map Prod.fst) encS (Acc.nm gL) (acD gL)), .r s.F2 (mapQ (s.M.map Prod.snd) encSt (Acc.seats gL) (seD gL)), .c g22 [strD a.acc, iD a.rnd, iD a.ser, bD a.box, bD a.tag]]) (⟨⟨_, rfl, ⟨⟨_, rfl, Le.refl _⟩, ⟨⟨_, rfl, Le.refl _⟩, ⟨⟨_, rfl, Le.refl _⟩, ⟨⟨_, rfl, Le.refl _⟩, ⟨⟨_, rfl, Le.refl _⟩, ⟨⟨_, rfl, Le.refl _⟩, ⟨⟨_, rfl, Le.refl _⟩, ⟨⟨_, rfl, Le.refl _⟩, ⟨⟨_, rfl, Le.is (by rw [hA.err])⟩, ⟨⟨_, rfl, Le.refl _⟩, ⟨⟨_, rfl, Le.refl _⟩, trivial⟩⟩⟩⟩⟩⟩⟩⟩⟩⟩⟩⟩, [0, 1, 2, 3, 4], by decide, ⟨⟨_, rfl, LeAll.refl _⟩, ⟨⟨_, rfl, LeR.refl _⟩, ⟨⟨_, rfl, LeR.refl _⟩, ⟨⟨_, rfl, LeR.refl _⟩, ⟨⟨_, rfl, (by rw [ha, ← hA.eq]; exact LeAll.refl _)⟩, trivial⟩⟩⟩⟩⟩⟩) ?_
                  refine SW.region ?_
                  refine SWl.rd rfl (Rd.move rfl) ?_
                  refine SWl.rd rfl (Rd.move rfl) ?_
                  refine SWl.rd rfl (Rd.move rfl) ?_
                  refine SWl.rd rfl (Rd.move rfl) ?_
                  refine SWl.rd rfl (Rd.move rfl) ?_
                  refine SWl.rd rfl (Rd.move rfl) ?_
                  refine SWl.rd rfl (Rd.move rfl) ?_
                  refine SWl.ef (Ef.callR [0, 1, 2, 3] (con_sealE gb s gL nm rnd ser k n other gFine) rfl ⟨Le.refl _, Le.refl _, Le.refl _, Le.refl _, Le.refl _, Le.refl _, Le.refl _, trivial⟩ (by decide) ⟨⟨_, rfl, LeAll.refl _⟩, ⟨⟨_, rfl, LeR.refl _⟩, ⟨⟨_, rfl, LeR.refl _⟩, ⟨⟨_, rfl, LeR.refl _⟩, trivial⟩⟩⟩⟩ (fun _ h => h) rfl) ?_
                  rintro _ ⟨⟨⟩, rfl⟩
                  refine SWl.rd rfl (Rd.move rfl) ?_
                  refine SWl.rd rfl (Rd.extract rfl rfl) ?_
                  refine SWl.rd rfl (Rd.extract rfl rfl) ?_
                  refine SWl.ef (S := []) (Ef.alloc (zs := [.string ⟨#[]⟩, .int .i64 0, .int .i64 0, .slice none 0 0, .slice none 0 0]) (by kernel_rfl) rfl) ?_
                  rintro _ ⟨g24, rfl⟩
                  refine SWl.ef (S := [_]) (Ef.storeA 5 rfl rfl rfl (by kernel_rfl) rfl (List.mem_singleton.2 rfl)) ?_
                  rintro _ rfl
                  refine SWl.rd rfl (Rd.assign rfl) ?_
                  refine SWl.nil ?_
                  refine SN.then ?_
                  refine SW.seq ?_
                  refine SW.seq ?_
                  obtain ⟨b, hb⟩ : ∃ a, a = Env.mk gL nm rnd ser k n other := ⟨_, rfl⟩
                  refine SW.sub (σ' := St.ob [(5, bD one), (6, bD other), (7, bD p), (17, isD (.pointer (some ⟨gb, 0, none⟩))), (22, isD (.pointer (some ⟨g22, 0, none⟩))), (23, iD 0), (24, isD (.pointer (some ⟨g24, 0, none⟩))), (25, iD 0), (20, bD k), (21, bD n)] [.c gb [isD (.map (s.M.map Prod.fst)), isD (.slice s.n.A (Acc.nm gL).length s.n.c), isD (.map (s.M.map Prod.snd))], .r s.n.F (vecT 9 1 encT s.n.A s.n.c (Acc.nm gL)), .r s.F1 (mapQ (s.M.map Prod.fst) encS (Acc.nm gL) (acD gL)), .r s.F2 (mapQ (s.M.map Prod.snd) encSt (Acc.seats gL) (seD gL)), .c g22 [strD a.acc, iD a.rnd, iD a.ser, bD a.box, bD a.tag], .c g24 [strD b.acc, iD b.rnd, iD b.ser, bD b.box, bD b.tag]]) (⟨⟨_, rfl, ⟨⟨_, rfl, Le.refl _⟩, ⟨⟨_, rfl, Le.refl _⟩, ⟨⟨_, rfl, Le.refl _⟩, ⟨⟨_, rfl, Le.refl _⟩, ⟨⟨_, rfl, Le.refl _⟩, ⟨⟨_, rfl, Le.refl _⟩, ⟨⟨_, rfl, Le.refl _⟩, ⟨⟨_, rfl, Le.is (by rw [hB.err])⟩, ⟨⟨_, rfl, Le.refl _⟩, ⟨⟨_, rfl, Le.refl _⟩, trivial⟩⟩⟩⟩⟩⟩⟩⟩⟩⟩⟩, [1, 2, 3, 4, 0, 5], by decide, ⟨⟨_, rfl, LeAll.refl _⟩, ⟨⟨_, rfl, LeR.refl _⟩, ⟨⟨_, rfl, LeR.refl _⟩, ⟨⟨_, rfl, LeR.refl _⟩, ⟨⟨_, rfl, LeAll.refl _⟩, ⟨⟨_, rfl, (by rw [hb, ← hB.eq]; exact LeAll.refl _)⟩, trivial⟩⟩⟩⟩⟩⟩⟩) ?_
                  refine SW.region ?_
                  refine SWl.rd rfl (Rd.move rfl) ?_
                  refine SWl.rd rfl (Rd.nei rfl rfl) ?_
                  refine SWl.rd rfl (Rd.move rfl) ?_
                  refine SWl.rdg rfl rfl (by decide) rfl rfl (Rd.move rfl) ?_
                  refine SWl.rdg rfl rfl (by decide) rfl rfl (Rd.nei rfl rfl) ?_
                  refine SWl.rd rfl (Rd.pickN rfl (by decide) rfl) ?_
                  refine SWl.rd rfl (Rd.move rfl) ?_
                  refine SWl.rdg rfl rfl (by decide) rfl rfl (Rd.loadA 4 5 rfl rfl (by kernel_rfl) rfl ap_nil) ?_
                  refine SWl.efg (S := []) rfl rfl (by decide) rfl (Ef.callN [] (con_sizeE a) rfl ⟨(sees_agg ⟨(sees_le (Le.refl _)), (sees_le (Le.refl _)), (sees_le (Le.refl _)), (sees_le (Le.refl _)), (sees_le (Le.refl _)), trivial⟩), trivial⟩ rfl) ?_
                  rintro _ rfl
                  refine SWl.rdg rfl rfl (by decide) rfl rfl (Rd.move rfl) ?_
                  refine SWl.rdg rfl rfl (by decide) rfl rfl (Rd.len (e := 5) rfl (by kernel_rfl)) ?_
                  refine SWl.rdg rfl rfl (by decide) rfl rfl (Rd.nei rfl rfl) ?_
                  refine SWl.rd rfl (Rd.pickN rfl (by decide) rfl) ?_
                  refine SWl.rd rfl (Rd.move rfl) ?_
                  refine SWl.rdg rfl rfl (by rw [hsz, cellsOf_length]; simp) rfl rfl (Rd.move rfl) ?_
                  refine SWl.rdg rfl rfl (by rw [hsz, cellsOf_length]; simp) rfl rfl (Rd.loadA 4 5 rfl rfl (by kernel_rfl) rfl ap_nil) ?_
                  refine SWl.efg rfl rfl (by rw [hsz, cellsOf_length]; simp) rfl (Ef.callR [0, 1, 2, 3] (con_checkE gb s gL a gFine) rfl ⟨Le.refl _, Le.refl _, trivial⟩ (by decide) ⟨⟨_, rfl, LeAll.refl _⟩, ⟨⟨_, rfl, LeR.refl _⟩, ⟨⟨_, rfl, LeR.refl _⟩, ⟨⟨_, rfl, LeR.refl _⟩, trivial⟩⟩⟩⟩ (fun _ h => h) rfl) ?_
                  rintro _ ⟨⟨⟩, rfl⟩
                  refine SWl.rdg rfl rfl (by rw [hsz, cellsOf_length]; simp) rfl rfl (Rd.nei rfl rfl) ?_
                  refine SWl.rd rfl (Rd.pickN rfl (by rw [hsz, cellsOf_length]; simp) rfl) ?_
                  refine SWl.nil ?_
                  refine SN.then ?_
                  refine SW.condF rfl (by simp [haut]) ?_
                  refine SW.skip ?_
                  refine SN.then ?_
                  refine SW.seq ?_
                  refine SW.seq ?_
                  refine SW.sub (σ' := St.ob [(5, bD one), (6, bD other), (7, bD p), (17, isD (.pointer (some ⟨gb, 0, none⟩))), (22, isD (.pointer (some ⟨g22, 0, none⟩))), (24, isD (.pointer (some ⟨g24, 0, none⟩))), (20, bD k), (21, bD n)] [.c gb [isD (.map (s.M.map Prod.fst)), isD (.slice s.n.A (Acc.nm gL).length s.n.c), isD (.map (s.M.map Prod.snd))], .r s.n.F (vecT 9 1 encT s.n.A s.n.c (Acc.nm gL)), .r s.F1 (mapQ (s.M.map Prod.fst) encS (Acc.nm gL) (acD gL)), .r s.F2 (mapQ (s.M.map Prod.snd) encSt (Acc.seats gL) (seD gL)), .c g22 [strD a.acc, iD a.rnd, iD a.ser, bD a.box, bD a.tag], .c g24 [strD b.acc, iD b.rnd, iD b.ser, bD b.box, bD b.tag]]) (⟨⟨_, rfl, ⟨⟨_, rfl, Le.refl _⟩, ⟨⟨_, rfl, Le.refl _⟩, ⟨⟨_, rfl, Le.refl _⟩, ⟨⟨_, rfl, Le.refl _⟩, ⟨⟨_, rfl, Le.refl _⟩, ⟨⟨_, rfl, Le.refl _⟩, ⟨⟨_, rfl, Le.refl _⟩, ⟨⟨_, rfl, Le.refl _⟩, trivial⟩⟩⟩⟩⟩⟩⟩⟩⟩, [2, 3, 4, 5, 0, 1], by decide, ⟨⟨_, rfl, LeAll.refl _⟩, ⟨⟨_, rfl, LeR.refl _⟩, ⟨⟨_, rfl, LeR.refl _⟩, ⟨⟨_, rfl, LeR.refl _⟩, ⟨⟨_, rfl, LeAll.refl _⟩, ⟨⟨_, rfl, LeAll.refl _⟩, trivial⟩⟩⟩⟩⟩⟩⟩) ?_
                  refine SW.region ?_
                  refine SWl.rd rfl (Rd.move rfl) ?_
                  refine SWl.rd rfl (Rd.len (e := 5) rfl (by kernel_rfl)) ?_
                  refine SWl.rd rfl (Rd.move rfl) ?_
                  refine SWl.rd rfl (Rd.len (e := 5) rfl (by kernel_rfl)) ?_
                  refine SWl.rd rfl (Rd.eqi rfl rfl) ?_
                  refine SWl.rd rfl (Rd.move rfl) ?_
                  refine SWl.split 119 rfl (fun hb119 => ?_) (fun hb119 => ?_)
                  · have h119 : one.length = other.length := (by have h := of_decide_eq_true hb119; rw [cellsOf_length, cellsOf_length] at h; omega); obtain ⟨e4, e5⟩ := mk_alike hA hB hn3 h119; rw [← ha, ← hb] at e4 e5
                    refine SWl.rdg rfl rfl (hb119) rfl rfl (Rd.fieldAddr (n := 0) rfl (by kernel_rfl)) ?_
                    refine SWl.rdg rfl rfl (hb119) rfl rfl (Rd.loadB 4 rfl rfl rfl (by kernel_rfl) ap_nil) ?_
                    refine SWl.rdg rfl rfl (hb119) rfl rfl (Rd.fieldAddr (n := 0) rfl (by kernel_rfl)) ?_
                    refine SWl.rdg rfl rfl (hb119) rfl rfl (Rd.loadB 5 rfl rfl rfl (by kernel_rfl) ap_nil) ?_
                    refine SWl.rdg rfl rfl (hb119) rfl rfl (Rd.nes (p := a.acc) (q := b.acc) rfl rfl) ?_
                    refine SWl.rdg rfl rfl (hb119) rfl rfl (Rd.move rfl) ?_
                    refine SWl.rdg rfl rfl (by simp [ha, hb, Env.mk]) rfl rfl (Rd.fieldAddr (n := 1) rfl (by kernel_rfl)) ?_
                    refine SWl.rdg rfl rfl (by simp [ha, hb, Env.mk]) rfl rfl (Rd.loadB 4 rfl rfl rfl (by kernel_rfl) ap_nil) ?_
                    refine SWl.rdg rfl rfl (by simp [ha, hb, Env.mk]) rfl rfl (Rd.fieldAddr (n := 1) rfl (by kernel_rfl)) ?_
                    refine SWl.rdg rfl rfl (by simp [ha, hb, Env.mk]) rfl rfl (Rd.loadB 5 rfl rfl rfl (by kernel_rfl) ap_nil) ?_
                    refine SWl.rdg rfl rfl (by simp [ha, hb, Env.mk]) rfl rfl (Rd.nei rfl rfl) ?_
                    refine SWl.rdg rfl rfl (hb119) rfl rfl (Rd.pickN rfl (by simp [ha, hb, Env.mk]) rfl) ?_
                    refine SWl.rdg rfl rfl (hb119) rfl rfl (Rd.move rfl) ?_
                    refine SWl.rdg rfl rfl (by simp [ha, hb, Env.mk]) rfl rfl (Rd.fieldAddr (n := 2) rfl (by kernel_rfl)) ?_
                    refine SWl.rdg rfl rfl (by simp [ha, hb, Env.mk]) rfl rfl (Rd.loadB 4 rfl rfl rfl (by kernel_rfl) ap_nil) ?_
                    refine SWl.rdg rfl rfl (by simp [ha, hb, Env.mk]) rfl rfl (Rd.fieldAddr (n := 2) rfl (by kernel_rfl)) ?_
                    refine SWl.rdg rfl rfl (by simp [ha, hb, Env.mk]) rfl rfl (Rd.loadB 5 rfl rfl rfl (by kernel_rfl) ap_nil) ?_
                    refine SWl.rdg rfl rfl (by simp [ha, hb, Env.mk]) rfl rfl (Rd.nei rfl rfl) ?_
                    refine SWl.rdg rfl rfl (hb119) rfl rfl (Rd.pickN rfl (by simp [ha, hb, Env.mk]) rfl) ?_
                    refine SWl.rdg rfl rfl (hb119) rfl rfl (Rd.move rfl) ?_
                    refine SWl.rdg rfl rfl (by simp [ha, hb, Env.mk]) rfl rfl (Rd.fieldAddr (n := 3) rfl (by kernel_rfl)) ?_
                    refine SWl.rdg rfl rfl (by simp [ha, hb, Env.mk]) rfl rfl (Rd.loadB 4 rfl rfl rfl (by kernel_rfl) ap_nil) ?_
                    refine SWl.rdg rfl rfl (by simp [ha, hb, Env.mk]) rfl rfl (Rd.len (e := 5) rfl (by kernel_rfl)) ?_
                    refine SWl.rdg rfl rfl (by simp [ha, hb, Env.mk]) rfl rfl (Rd.fieldAddr (n := 3) rfl (by kernel_rfl)) ?_
                    refine SWl.rdg rfl rfl (by simp [ha, hb, Env.mk]) rfl rfl (Rd.loadB 5 rfl rfl rfl (by kernel_rfl) ap_nil) ?_
                    refine SWl.rdg rfl rfl (by simp [ha, hb, Env.mk]) rfl rfl (Rd.len (e := 5) rfl (by kernel_rfl)) ?_
                    refine SWl.rdg rfl rfl (by simp [ha, hb, Env.mk]) rfl rfl (Rd.nei rfl rfl) ?_
                    refine SWl.rdg rfl rfl (hb119) rfl rfl (Rd.pickN rfl (by simp [ha, hb, Env.mk]) rfl) ?_
                    refine SWl.rdg rfl rfl (hb119) rfl rfl (Rd.move rfl) ?_
                    refine SWl.rdg rfl rfl (by simp [e4]) rfl rfl (Rd.fieldAddr (n := 4) rfl (by kernel_rfl)) ?_
                    refine SWl.rdg rfl rfl (by simp [e4]) rfl rfl (Rd.loadB 4 rfl rfl rfl (by kernel_rfl) ap_nil) ?_
                    refine SWl.rdg rfl rfl (by simp [e4]) rfl rfl (Rd.len (e := 5) rfl (by kernel_rfl)) ?_
                    refine SWl.rdg rfl rfl (by simp [e4]) rfl rfl (Rd.fieldAddr (n := 4) rfl (by kernel_rfl)) ?_
                    refine SWl.rdg rfl rfl (by simp [e4]) rfl rfl (Rd.loadB 5 rfl rfl rfl (by kernel_rfl) ap_nil) ?_
                    refine SWl.rdg rfl rfl (by simp [e4]) rfl rfl (Rd.len (e := 5) rfl (by kernel_rfl)) ?_
                    refine SWl.rdg rfl rfl (by simp [e4]) rfl rfl (Rd.nei rfl rfl) ?_
                    refine SWl.rdg rfl rfl (hb119) rfl rfl (Rd.pickN rfl (by simp [e4]) rfl) ?_
                    refine SWl.rd rfl (Rd.pickY rfl (hb119) rfl) ?_
                    refine SWl.nil ?_
                    refine SN.then ?_
                    refine SW.condF rfl (by simp [e5]) ?_
                    refine SW.skip ?_
                    refine SN.then ?_
                    refine SW.seq ?_
                    refine SW.sub (σ' := St.ob [(5, bD one), (7, bD p), (17, isD (.pointer (some ⟨gb, 0, none⟩))), (22, isD (.pointer (some ⟨g22, 0, none⟩))), (20, bD k), (21, bD n)] [.c gb [isD (.map (s.M.map Prod.fst)), isD (.slice s.n.A (Acc.nm gL).length s.n.c), isD (.map (s.M.map Prod.snd))], .r s.n.F (vecT 9 1 encT s.n.A s.n.c (Acc.nm gL)), .r s.F1 (mapQ (s.M.map Prod.fst) encS (Acc.nm gL) (acD gL)), .r s.F2 (mapQ (s.M.map Prod.snd) encSt (Acc.seats gL) (seD gL)), .c g22 [strD a.acc, iD a.rnd, iD a.ser, bD a.box, bD a.tag]]) (⟨⟨_, rfl, ⟨⟨_, rfl, Le.refl _⟩, ⟨⟨_, rfl, Le.refl _⟩, ⟨⟨_, rfl, Le.refl _⟩, ⟨⟨_, rfl, Le.refl _⟩, ⟨⟨_, rfl, Le.refl _⟩, ⟨⟨_, rfl, Le.refl _⟩, trivial⟩⟩⟩⟩⟩⟩⟩, [0, 1, 2, 3, 4], by decide, ⟨⟨_, rfl, LeAll.refl _⟩, ⟨⟨_, rfl, LeR.refl _⟩, ⟨⟨_, rfl, LeR.refl _⟩, ⟨⟨_, rfl, LeR.refl _⟩, ⟨⟨_, rfl, LeAll.refl _⟩, trivial⟩⟩⟩⟩⟩⟩) ?_
                    refine SW.region ?_
                    refine SWl.rd rfl (Rd.move rfl) ?_
                    refine SWl.rd rfl (Rd.loadA 4 5 rfl rfl (by kernel_rfl) rfl ap_nil) ?_
                    refine SWl.rd rfl (Rd.move rfl) ?_
                    refine SWl.ef (Ef.callR [0, 1, 2, 3] (con_openE gb s gL a gFine k) rfl ⟨Le.refl _, Le.refl _, Le.refl _, trivial⟩ (by decide) ⟨⟨_, rfl, LeAll.refl _⟩, ⟨⟨_, rfl, LeR.refl _⟩, ⟨⟨_, rfl, LeR.refl _⟩, ⟨⟨_, rfl, LeR.refl _⟩, trivial⟩⟩⟩⟩ (fun _ h => h) rfl) ?_
                    rintro _ ⟨⟨⟩, rfl⟩
                    refine SWl.rd rfl (Rd.move rfl) ?_
                    refine SWl.rd rfl (Rd.extract rfl rfl) ?_
                    refine SWl.rd rfl (Rd.extract rfl rfl) ?_
                    refine SWl.rd rfl (Rd.assign rfl) ?_
                    refine SWl.rd rfl (Rd.assign rfl) ?_
                    refine SWl.nil ?_
                    refine SN.then ?_
                    refine SW.seq ?_
                    obtain ⟨o1, o2⟩ := Env.op_sld hA hk3 hn3 (by omega)
                    refine SW.sub (σ' := St.ob [(5, bD one), (7, bD p), (22, isD (.pointer (some ⟨g22, 0, none⟩))), (26, bD one), (27, iD 0)] [.c g22 [strD a.acc, iD a.rnd, iD a.ser, bD a.box, bD a.tag]]) (⟨⟨_, rfl, ⟨⟨_, rfl, Le.refl _⟩, ⟨⟨_, rfl, Le.refl _⟩, ⟨⟨_, rfl, Le.refl _⟩, ⟨⟨_, rfl, (by rw [ha, o2]; exact Le.refl _)⟩, ⟨⟨_, rfl, Le.is (by rw [ha, o1])⟩, trivial⟩⟩⟩⟩⟩⟩, [0], by decide, ⟨⟨_, rfl, LeAll.refl _⟩, trivial⟩⟩) ?_
                    refine SW.region ?_
                    refine SWl.rd rfl (Rd.loadA 0 5 rfl rfl (by kernel_rfl) rfl ap_nil) ?_
                    refine SWl.ef (S := []) (Ef.call (con_encodeE a) rfl ⟨Le.refl _, trivial⟩ rfl) ?_
                    rintro _ rfl
                    refine SWl.rd rfl (Rd.move rfl) ?_
                    refine SWl.rd rfl (Rd.extract rfl rfl) ?_
                    refine SWl.rd rfl (Rd.extract rfl rfl) ?_
                    refine SWl.rd rfl (Rd.assign rfl) ?_
                    refine SWl.rd rfl (Rd.assign rfl) ?_
                    refine SWl.nil ?_
                    refine SN.then ?_
                    refine SW.seq ?_
                    refine SW.sub (σ' := St.ob [(5, bD one), (7, bD p), (22, isD (.pointer (some ⟨g22, 0, none⟩))), (26, bD one), (27, iD 0), (28, bD (Env.enc a)), (29, iD 0)] [.c g22 [strD a.acc, iD a.rnd, iD a.ser, bD a.box, bD a.tag]]) (⟨⟨_, rfl, ⟨⟨_, rfl, Le.refl _⟩, ⟨⟨_, rfl, Le.refl _⟩, ⟨⟨_, rfl, Le.refl _⟩, ⟨⟨_, rfl, Le.refl _⟩, ⟨⟨_, rfl, Le.refl _⟩, ⟨⟨_, rfl, (by rw [Env.encQ, if_pos hok]; exact Le.refl _)⟩, ⟨⟨_, rfl, Le.is (by rw [Env.encE, if_pos hok])⟩, trivial⟩⟩⟩⟩⟩⟩⟩⟩, [0], by decide, ⟨⟨_, rfl, LeAll.refl _⟩, trivial⟩⟩) ?_
                    refine SW.region ?_
                    refine SWl.rd rfl (Rd.move rfl) ?_
                    refine SWl.ef (S := []) (Ef.call (con_decodeE (Env.enc a) (enc_len hok)) rfl ⟨Le.refl _, trivial⟩ rfl) ?_
                    rintro _ rfl
                    refine SWl.rd rfl (Rd.move rfl) ?_
                    refine SWl.rd rfl (Rd.extract rfl rfl) ?_
                    refine SWl.rd rfl (Rd.extract rfl rfl) ?_
                    refine SWl.ef (S := []) (Ef.alloc (zs := [.string ⟨#[]⟩, .int .i64 0, .int .i64 0, .slice none 0 0, .slice none 0 0]) (by kernel_rfl) rfl) ?_
                    rintro _ ⟨g30, rfl⟩
                    refine SWl.ef (S := [_]) (Ef.storeA 1 rfl rfl rfl (by kernel_rfl) rfl (List.mem_singleton.2 rfl)) ?_
                    rintro _ rfl
                    refine SWl.rd rfl (Rd.assign rfl) ?_
                    refine SWl.nil ?_
                    refine SN.then ?_
                    refine SW.seq ?_
                    refine SW.seq ?_
                    refine SW.sub (σ' := St.ob [(5, bD one), (7, bD p), (22, isD (.pointer (some ⟨g22, 0, none⟩))), (26, bD one), (27, iD 0), (29, iD 0), (30, isD (.pointer (some ⟨g30, 0, none⟩))), (31, iD 0)] [.c g22 [strD a.acc, iD a.rnd, iD a.ser, bD a.box, bD a.tag], .c g30 [strD a.acc, iD a.rnd, iD a.ser, bD a.box, bD a.tag]]) (⟨⟨_, rfl, ⟨⟨_, rfl, Le.refl _⟩, ⟨⟨_, rfl, Le.refl _⟩, ⟨⟨_, rfl, Le.refl _⟩, ⟨⟨_, rfl, Le.refl _⟩, ⟨⟨_, rfl, Le.refl _⟩, ⟨⟨_, rfl, Le.refl _⟩, ⟨⟨_, rfl, Le.refl _⟩, ⟨⟨_, rfl, Le.is (by rw [(Env.dec_enc hok).1])⟩, trivial⟩⟩⟩⟩⟩⟩⟩⟩⟩, [0, 1], by decide, ⟨⟨_, rfl, LeAll.refl _⟩, ⟨⟨_, rfl, (by rw [← (Env.dec_enc hok).2]; simp only [(Env.dec_enc hok).2]; exact LeAll.refl _)⟩, trivial⟩⟩⟩) ?_
                    refine SW.region ?_
                    refine SWl.rd rfl (Rd.move rfl) ?_
                    refine SWl.rd rfl (Rd.nei rfl rfl) ?_
                    refine SWl.rd rfl (Rd.move rfl) ?_
                    refine SWl.rdg rfl rfl (by decide) rfl rfl (Rd.move rfl) ?_
                    refine SWl.rdg rfl rfl (by decide) rfl rfl (Rd.str (e := 5) rfl (by kernel_rfl) (by kernel_rfl) (by kernel_rfl) (by simp)) ?_
                    refine SWl.rdg rfl rfl (by decide) rfl rfl (Rd.move rfl) ?_
                    refine SWl.rdg rfl rfl (by decide) rfl rfl (Rd.str (e := 5) rfl (by kernel_rfl) (by kernel_rfl) (by kernel_rfl) (by simp)) ?_
                    refine SWl.rdg rfl rfl (by decide) rfl rfl (Rd.nes (p := one) (q := one) rfl rfl) ?_
                    refine SWl.rd rfl (Rd.pickN rfl (by decide) rfl) ?_
                    refine SWl.rd rfl (Rd.move rfl) ?_
                    refine SWl.rdg rfl rfl (by simp) rfl rfl (Rd.move rfl) ?_
                    refine SWl.rdg rfl rfl (by simp) rfl rfl (Rd.nei rfl rfl) ?_
                    refine SWl.rd rfl (Rd.pickN rfl (by simp) rfl) ?_
                    refine SWl.rd rfl (Rd.move rfl) ?_
                    refine SWl.rdg rfl rfl (by decide) rfl rfl (Rd.move rfl) ?_
                    refine SWl.rdg rfl rfl (by decide) rfl rfl (Rd.nei rfl rfl) ?_
                    refine SWl.rd rfl (Rd.pickN rfl (by decide) rfl) ?_
                    refine SWl.rd rfl (Rd.move rfl) ?_
                    refine SWl.rdg rfl rfl (by decide) rfl rfl (Rd.loadA 0 5 rfl rfl (by kernel_rfl) rfl ap_nil) ?_
                    refine SWl.rdg rfl rfl (by decide) rfl rfl (Rd.loadA 1 5 rfl rfl (by kernel_rfl) rfl ap_nil) ?_
                    refine SWl.efg (S := []) rfl rfl (by decide) rfl (Ef.callN [] (con_sameE a a) rfl ⟨(sees_agg ⟨(sees_le (Le.refl _)), (sees_le (Le.refl _)), (sees_le (Le.refl _)), (sees_le (Le.refl _)), (sees_le (Le.refl _)), trivial⟩), (sees_agg ⟨(sees_le (Le.refl _)), (sees_le (Le.refl _)), (sees_le (Le.refl _)), (sees_le (Le.refl _)), (sees_le (Le.refl _)), trivial⟩), trivial⟩ rfl) ?_
                    rintro _ rfl
                    refine SWl.rdg rfl rfl (by decide) rfl rfl (Rd.not rfl) ?_
                    refine SWl.rd rfl (Rd.pickN rfl (by decide) rfl) ?_
                    refine SWl.nil ?_
                    refine SN.then ?_
                    refine SW.condF rfl (by simp) ?_
                    refine SW.skip ?_
                    refine SN.then ?_
                    refine SW.seq ?_
                    refine SW.sub (σ' := St.ob [(7, bD p)] []) (⟨⟨_, rfl, ⟨⟨_, rfl, Le.refl _⟩, trivial⟩⟩, [], by decide, trivial⟩) ?_
                    refine SW.region ?_
                    refine SWl.rd rfl (Rd.move rfl) ?_
                    refine SWl.ef (S := []) (Ef.call (con_decodeE p (by omega)) rfl ⟨Le.refl _, trivial⟩ rfl) ?_
                    rintro _ rfl
                    refine SWl.rd rfl (Rd.move rfl) ?_
                    refine SWl.rd rfl (Rd.extract rfl rfl) ?_
                    refine SWl.rd rfl (Rd.extract rfl rfl) ?_
                    refine SWl.ef (S := []) (Ef.alloc (zs := [.string ⟨#[]⟩, .int .i64 0, .int .i64 0, .slice none 0 0, .slice none 0 0]) (by kernel_rfl) rfl) ?_
                    rintro _ ⟨g32, rfl⟩
                    refine SWl.ef (S := [_]) (Ef.storeA 0 rfl rfl rfl (by kernel_rfl) rfl (List.mem_singleton.2 rfl)) ?_
                    rintro _ rfl
                    refine SWl.rd rfl (Rd.assign rfl) ?_
                    refine SWl.nil ?_
                    refine SN.then ?_
                    refine SW.seq ?_
                    refine SW.seq ?_
                    obtain ⟨d, hd⟩ : ∃ d, d = Env.dec p := ⟨_, rfl⟩
                    refine SW.sub (σ' := St.ob [(7, bD p), (32, isD (.pointer (some ⟨g32, 0, none⟩))), (33, iD (Env.decE p))] [.c g32 [strD d.acc, iD d.rnd, iD d.ser, bD d.box, bD d.tag]]) (⟨⟨_, rfl, ⟨⟨_, rfl, Le.refl _⟩, ⟨⟨_, rfl, Le.refl _⟩, ⟨⟨_, rfl, Le.refl _⟩, trivial⟩⟩⟩⟩, [0], by decide, ⟨⟨_, rfl, (by rw [hd]; exact LeAll.refl _)⟩, trivial⟩⟩) ?_
                    refine SW.region ?_
                    refine SWl.rd rfl (Rd.move rfl) ?_
                    refine SWl.rd rfl (Rd.nei rfl rfl) ?_
                    refine SWl.nil ?_
                    refine SN.then ?_
                    refine SW.cond rfl (fun hb204 => ?_) (fun hb204 => ?_)
                    · skip
                      refine SW.seq ?_
                      refine SW.region ?_
                      refine SWl.ef (S := []) (Ef.callN [] (con_known42) rfl trivial rfl) ?_
                      rintro _ rfl
                      refine SWl.rd rfl (Rd.assign rfl) ?_
                      refine SWl.nil ?_
                      refine SN.then ?_
                      refine SW.ret (fn := Tryd.f9) (fun _ _ h => h) (Rs.le (Rs.one rfl (ResV.tmp rfl)) ?_)
                      exact le_bool_n rfl
                    · have h204 : Env.decE p = 0 := (by simpa using hb204); obtain ⟨i1, i2⟩ := Env.dec_inv h204; rw [← hd] at i1 i2
                      refine SW.skip ?_
                      refine SN.then ?_
                      refine SW.seq ?_
                      refine SW.region ?_
                      refine SWl.rd rfl (Rd.loadA 0 5 rfl rfl (by kernel_rfl) rfl ap_nil) ?_
                      refine SWl.ef (S := []) (Ef.call (con_encodeE d) rfl ⟨Le.refl _, trivial⟩ rfl) ?_
                      rintro _ rfl
                      refine SWl.rd rfl (Rd.move rfl) ?_
                      refine SWl.rd rfl (Rd.extract rfl rfl) ?_
                      refine SWl.rd rfl (Rd.extract rfl rfl) ?_
                      refine SWl.rd rfl (Rd.assign rfl) ?_
                      refine SWl.rd rfl (Rd.assign rfl) ?_
                      refine SWl.nil ?_
                      refine SN.then ?_
                      refine SW.seq ?_
                      refine SW.region ?_
                      refine SWl.rd rfl (Rd.move rfl) ?_
                      refine SWl.rd rfl (Rd.eqi rfl rfl) ?_
                      refine SWl.rd rfl (Rd.move rfl) ?_
                      refine SWl.rdg rfl rfl (by simp [Env.encE, i1]) rfl rfl (Rd.move rfl) ?_
                      refine SWl.rdg rfl rfl (by simp [Env.encE, i1]) rfl rfl (Rd.str (e := 5) rfl (by kernel_rfl) (by kernel_rfl) (by kernel_rfl) (by simp)) ?_
                      refine SWl.rdg rfl rfl (by simp [Env.encE, i1]) rfl rfl (Rd.move rfl) ?_
                      refine SWl.rdg rfl rfl (by simp [Env.encE, i1]) rfl rfl (Rd.str (e := 5) rfl (by kernel_rfl) (by kernel_rfl) (by kernel_rfl) (by simp)) ?_
                      refine SWl.rdg rfl rfl (by simp [Env.encE, i1]) rfl rfl (Rd.eqs (p := Env.encQ d) (q := p) rfl rfl) ?_
                      refine SWl.rd rfl (Rd.pickY rfl (by simp [Env.encE, i1]) rfl) ?_
                      refine SWl.rd rfl (Rd.move rfl) ?_
                      refine SWl.efg (S := []) rfl rfl (by simp [Env.encQ, i1, i2]) rfl (Ef.callN [] (con_known42) rfl trivial rfl) ?_
                      rintro _ rfl
                      refine SWl.rd rfl (Rd.pickY rfl (by simp [Env.encQ, i1, i2]) rfl) ?_
                      refine SWl.rd rfl (Rd.assign rfl) ?_
                      refine SWl.nil ?_
                      refine SN.then ?_
                      refine SW.ret (fn := Tryd.f9) (fun _ _ h => h) (Rs.le (Rs.one rfl (ResV.tmp rfl)) ?_)
                      exact le_bool_n rfl
                  · skip
                    refine SWl.off rfl rfl (hb119) rfl rfl ?_
                    refine SWl.off rfl rfl (hb119) rfl rfl ?_
                    refine SWl.off rfl rfl (hb119) rfl rfl ?_
                    refine SWl.off rfl rfl (hb119) rfl rfl ?_
                    refine SWl.off rfl rfl (hb119) rfl rfl ?_
                    refine SWl.off rfl rfl (hb119) rfl rfl ?_
                    refine SWl.offu rfl rfl rfl rfl ?_
                    refine SWl.offu rfl rfl rfl rfl ?_
                    refine SWl.offu rfl rfl rfl rfl ?_
                    refine SWl.offu rfl rfl rfl rfl ?_
                    refine SWl.offu rfl rfl rfl rfl ?_
                    refine SWl.off rfl rfl (hb119) rfl rfl ?_
                    refine SWl.off rfl rfl (hb119) rfl rfl ?_
                    refine SWl.offu rfl rfl rfl rfl ?_
                    refine SWl.offu rfl rfl rfl rfl ?_
                    refine SWl.offu rfl rfl rfl rfl ?_
                    refine SWl.offu rfl rfl rfl rfl ?_
                    refine SWl.offu rfl rfl rfl rfl ?_
                    refine SWl.off rfl rfl (hb119) rfl rfl ?_
                    refine SWl.off rfl rfl (hb119) rfl rfl ?_
                    refine SWl.offu rfl rfl rfl rfl ?_
                    refine SWl.offu rfl rfl rfl rfl ?_
                    refine SWl.offu rfl rfl rfl rfl ?_
                    refine SWl.offu rfl rfl rfl rfl ?_
                    refine SWl.offu rfl rfl rfl rfl ?_
                    refine SWl.offu rfl rfl rfl rfl ?_
                    refine SWl.offu rfl rfl rfl rfl ?_
                    refine SWl.off rfl rfl (hb119) rfl rfl ?_
                    refine SWl.off rfl rfl (hb119) rfl rfl ?_
                    refine SWl.offu rfl rfl rfl rfl ?_
                    refine SWl.offu rfl rfl rfl rfl ?_
                    refine SWl.offu rfl rfl rfl rfl ?_
                    refine SWl.offu rfl rfl rfl rfl ?_
                    refine SWl.offu rfl rfl rfl rfl ?_
                    refine SWl.offu rfl rfl rfl rfl ?_
                    refine SWl.offu rfl rfl rfl rfl ?_
                    refine SWl.off rfl rfl (hb119) rfl rfl ?_
                    refine SWl.rd rfl (Rd.pickN rfl (hb119) rfl) ?_
                    refine SWl.nil ?_
                    refine SN.then ?_
                    refine SW.condF rfl (rfl) ?_
                    refine SW.skip ?_
                    refine SN.then ?_
                    refine SW.seq ?_
                    refine SW.sub (σ' := St.ob [(5, bD one), (7, bD p), (17, isD (.pointer (some ⟨gb, 0, none⟩))), (22, isD (.pointer (some ⟨g22, 0, none⟩))), (20, bD k), (21, bD n)] [.c gb [isD (.map (s.M.map Prod.fst)), isD (.slice s.n.A (Acc.nm gL).length s.n.c), isD (.map (s.M.map Prod.snd))], .r s.n.F (vecT 9 1 encT s.n.A s.n.c (Acc.nm gL)), .r s.F1 (mapQ (s.M.map Prod.fst) encS (Acc.nm gL) (acD gL)), .r s.F2 (mapQ (s.M.map Prod.snd) encSt (Acc.seats gL) (seD gL)), .c g22 [strD a.acc, iD a.rnd, iD a.ser, bD a.box, bD a.tag]]) (⟨⟨_, rfl, ⟨⟨_, rfl, Le.refl _⟩, ⟨⟨_, rfl, Le.refl _⟩, ⟨⟨_, rfl, Le.refl _⟩, ⟨⟨_, rfl, Le.refl _⟩, ⟨⟨_, rfl, Le.refl _⟩, ⟨⟨_, rfl, Le.refl _⟩, trivial⟩⟩⟩⟩⟩⟩⟩, [0, 1, 2, 3, 4], by decide, ⟨⟨_, rfl, LeAll.refl _⟩, ⟨⟨_, rfl, LeR.refl _⟩, ⟨⟨_, rfl, LeR.refl _⟩, ⟨⟨_, rfl, LeR.refl _⟩, ⟨⟨_, rfl, LeAll.refl _⟩, trivial⟩⟩⟩⟩⟩⟩) ?_
                    refine SW.region ?_
                    refine SWl.rd rfl (Rd.move rfl) ?_
                    refine SWl.rd rfl (Rd.loadA 4 5 rfl rfl (by kernel_rfl) rfl ap_nil) ?_
                    refine SWl.rd rfl (Rd.move rfl) ?_
                    refine SWl.ef (Ef.callR [0, 1, 2, 3] (con_openE gb s gL a gFine k) rfl ⟨Le.refl _, Le.refl _, Le.refl _, trivial⟩ (by decide) ⟨⟨_, rfl, LeAll.refl _⟩, ⟨⟨_, rfl, LeR.refl _⟩, ⟨⟨_, rfl, LeR.refl _⟩, ⟨⟨_, rfl, LeR.refl _⟩, trivial⟩⟩⟩⟩ (fun _ h => h) rfl) ?_
                    rintro _ ⟨⟨⟩, rfl⟩
                    refine SWl.rd rfl (Rd.move rfl) ?_
                    refine SWl.rd rfl (Rd.extract rfl rfl) ?_
                    refine SWl.rd rfl (Rd.extract rfl rfl) ?_
                    refine SWl.rd rfl (Rd.assign rfl) ?_
                    refine SWl.rd rfl (Rd.assign rfl) ?_
                    refine SWl.nil ?_
                    refine SN.then ?_
                    refine SW.seq ?_
                    obtain ⟨o1, o2⟩ := Env.op_sld hA hk3 hn3 (by omega)
                    refine SW.sub (σ' := St.ob [(5, bD one), (7, bD p), (22, isD (.pointer (some ⟨g22, 0, none⟩))), (26, bD one), (27, iD 0)] [.c g22 [strD a.acc, iD a.rnd, iD a.ser, bD a.box, bD a.tag]]) (⟨⟨_, rfl, ⟨⟨_, rfl, Le.refl _⟩, ⟨⟨_, rfl, Le.refl _⟩, ⟨⟨_, rfl, Le.refl _⟩, ⟨⟨_, rfl, (by rw [ha, o2]; exact Le.refl _)⟩, ⟨⟨_, rfl, Le.is (by rw [ha, o1])⟩, trivial⟩⟩⟩⟩⟩⟩, [0], by decide, ⟨⟨_, rfl, LeAll.refl _⟩, trivial⟩⟩) ?_
                    refine SW.region ?_
                    refine SWl.rd rfl (Rd.loadA 0 5 rfl rfl (by kernel_rfl) rfl ap_nil) ?_
                    refine SWl.ef (S := []) (Ef.call (con_encodeE a) rfl ⟨Le.refl _, trivial⟩ rfl) ?_
                    rintro _ rfl
                    refine SWl.rd rfl (Rd.move rfl) ?_
                    refine SWl.rd rfl (Rd.extract rfl rfl) ?_
                    refine SWl.rd rfl (Rd.extract rfl rfl) ?_
                    refine SWl.rd rfl (Rd.assign rfl) ?_
                    refine SWl.rd rfl (Rd.assign rfl) ?_
                    refine SWl.nil ?_
                    refine SN.then ?_
                    refine SW.seq ?_
                    refine SW.sub (σ' := St.ob [(5, bD one), (7, bD p), (22, isD (.pointer (some ⟨g22, 0, none⟩))), (26, bD one), (27, iD 0), (28, bD (Env.enc a)), (29, iD 0)] [.c g22 [strD a.acc, iD a.rnd, iD a.ser, bD a.box, bD a.tag]]) (⟨⟨_, rfl, ⟨⟨_, rfl, Le.refl _⟩, ⟨⟨_, rfl, Le.refl _⟩, ⟨⟨_, rfl, Le.refl _⟩, ⟨⟨_, rfl, Le.refl _⟩, ⟨⟨_, rfl, Le.refl _⟩, ⟨⟨_, rfl, (by rw [Env.encQ, if_pos hok]; exact Le.refl _)⟩, ⟨⟨_, rfl, Le.is (by rw [Env.encE, if_pos hok])⟩, trivial⟩⟩⟩⟩⟩⟩⟩⟩, [0], by decide, ⟨⟨_, rfl, LeAll.refl _⟩, trivial⟩⟩) ?_
                    refine SW.region ?_
                    refine SWl.rd rfl (Rd.move rfl) ?_
                    refine SWl.ef (S := []) (Ef.call (con_decodeE (Env.enc a) (enc_len hok)) rfl ⟨Le.refl _, trivial⟩ rfl) ?_
                    rintro _ rfl
                    refine SWl.rd rfl (Rd.move rfl) ?_
                    refine SWl.rd rfl (Rd.extract rfl rfl) ?_
                    refine SWl.rd rfl (Rd.extract rfl rfl) ?_
                    refine SWl.ef (S := []) (Ef.alloc (zs := [.string ⟨#[]⟩, .int .i64 0, .int .i64 0, .slice none 0 0, .slice none 0 0]) (by kernel_rfl) rfl) ?_
                    rintro _ ⟨g30, rfl⟩
                    refine SWl.ef (S := [_]) (Ef.storeA 1 rfl rfl rfl (by kernel_rfl) rfl (List.mem_singleton.2 rfl)) ?_
                    rintro _ rfl
                    refine SWl.rd rfl (Rd.assign rfl) ?_
                    refine SWl.nil ?_
                    refine SN.then ?_
                    refine SW.seq ?_
                    refine SW.seq ?_
                    refine SW.sub (σ' := St.ob [(5, bD one), (7, bD p), (22, isD (.pointer (some ⟨g22, 0, none⟩))), (26, bD one), (27, iD 0), (29, iD 0), (30, isD (.pointer (some ⟨g30, 0, none⟩))), (31, iD 0)] [.c g22 [strD a.acc, iD a.rnd, iD a.ser, bD a.box, bD a.tag], .c g30 [strD a.acc, iD a.rnd, iD a.ser, bD a.box, bD a.tag]]) (⟨⟨_, rfl, ⟨⟨_, rfl, Le.refl _⟩, ⟨⟨_, rfl, Le.refl _⟩, ⟨⟨_, rfl, Le.refl _⟩, ⟨⟨_, rfl, Le.refl _⟩, ⟨⟨_, rfl, Le.refl _⟩, ⟨⟨_, rfl, Le.refl _⟩, ⟨⟨_, rfl, Le.refl _⟩, ⟨⟨_, rfl, Le.is (by rw [(Env.dec_enc hok).1])⟩, trivial⟩⟩⟩⟩⟩⟩⟩⟩⟩, [0, 1], by decide, ⟨⟨_, rfl, LeAll.refl _⟩, ⟨⟨_, rfl, (by rw [← (Env.dec_enc hok).2]; simp only [(Env.dec_enc hok).2]; exact LeAll.refl _)⟩, trivial⟩⟩⟩) ?_
                    refine SW.region ?_
                    refine SWl.rd rfl (Rd.move rfl) ?_
                    refine SWl.rd rfl (Rd.nei rfl rfl) ?_
                    refine SWl.rd rfl (Rd.move rfl) ?_
                    refine SWl.rdg rfl rfl (by decide) rfl rfl (Rd.move rfl) ?_
                    refine SWl.rdg rfl rfl (by decide) rfl rfl (Rd.str (e := 5) rfl (by kernel_rfl) (by kernel_rfl) (by kernel_rfl) (by simp)) ?_
                    refine SWl.rdg rfl rfl (by decide) rfl rfl (Rd.move rfl) ?_
                    refine SWl.rdg rfl rfl (by decide) rfl rfl (Rd.str (e := 5) rfl (by kernel_rfl) (by kernel_rfl) (by kernel_rfl) (by simp)) ?_
                    refine SWl.rdg rfl rfl (by decide) rfl rfl (Rd.nes (p := one) (q := one) rfl rfl) ?_
                    refine SWl.rd rfl (Rd.pickN rfl (by decide) rfl) ?_
                    refine SWl.rd rfl (Rd.move rfl) ?_
                    refine SWl.rdg rfl rfl (by simp) rfl rfl (Rd.move rfl) ?_
                    refine SWl.rdg rfl rfl (by simp) rfl rfl (Rd.nei rfl rfl) ?_
                    refine SWl.rd rfl (Rd.pickN rfl (by simp) rfl) ?_
                    refine SWl.rd rfl (Rd.move rfl) ?_
                    refine SWl.rdg rfl rfl (by decide) rfl rfl (Rd.move rfl) ?_
                    refine SWl.rdg rfl rfl (by decide) rfl rfl (Rd.nei rfl rfl) ?_
                    refine SWl.rd rfl (Rd.pickN rfl (by decide) rfl) ?_
                    refine SWl.rd rfl (Rd.move rfl) ?_
                    refine SWl.rdg rfl rfl (by decide) rfl rfl (Rd.loadA 0 5 rfl rfl (by kernel_rfl) rfl ap_nil) ?_
                    refine SWl.rdg rfl rfl (by decide) rfl rfl (Rd.loadA 1 5 rfl rfl (by kernel_rfl) rfl ap_nil) ?_
                    refine SWl.efg (S := []) rfl rfl (by decide) rfl (Ef.callN [] (con_sameE a a) rfl ⟨(sees_agg ⟨(sees_le (Le.refl _)), (sees_le (Le.refl _)), (sees_le (Le.refl _)), (sees_le (Le.refl _)), (sees_le (Le.refl _)), trivial⟩), (sees_agg ⟨(sees_le (Le.refl _)), (sees_le (Le.refl _)), (sees_le (Le.refl _)), (sees_le (Le.refl _)), (sees_le (Le.refl _)), trivial⟩), trivial⟩ rfl) ?_
                    rintro _ rfl
                    refine SWl.rdg rfl rfl (by decide) rfl rfl (Rd.not rfl) ?_
                    refine SWl.rd rfl (Rd.pickN rfl (by decide) rfl) ?_
                    refine SWl.nil ?_
                    refine SN.then ?_
                    refine SW.condF rfl (by simp) ?_
                    refine SW.skip ?_
                    refine SN.then ?_
                    refine SW.seq ?_
                    refine SW.sub (σ' := St.ob [(7, bD p)] []) (⟨⟨_, rfl, ⟨⟨_, rfl, Le.refl _⟩, trivial⟩⟩, [], by decide, trivial⟩) ?_
                    refine SW.region ?_
                    refine SWl.rd rfl (Rd.move rfl) ?_
                    refine SWl.ef (S := []) (Ef.call (con_decodeE p (by omega)) rfl ⟨Le.refl _, trivial⟩ rfl) ?_
                    rintro _ rfl
                    refine SWl.rd rfl (Rd.move rfl) ?_
                    refine SWl.rd rfl (Rd.extract rfl rfl) ?_
                    refine SWl.rd rfl (Rd.extract rfl rfl) ?_
                    refine SWl.ef (S := []) (Ef.alloc (zs := [.string ⟨#[]⟩, .int .i64 0, .int .i64 0, .slice none 0 0, .slice none 0 0]) (by kernel_rfl) rfl) ?_
                    rintro _ ⟨g32, rfl⟩
                    refine SWl.ef (S := [_]) (Ef.storeA 0 rfl rfl rfl (by kernel_rfl) rfl (List.mem_singleton.2 rfl)) ?_
                    rintro _ rfl
                    refine SWl.rd rfl (Rd.assign rfl) ?_
                    refine SWl.nil ?_
                    refine SN.then ?_
                    refine SW.seq ?_
                    refine SW.seq ?_
                    obtain ⟨d, hd⟩ : ∃ d, d = Env.dec p := ⟨_, rfl⟩
                    refine SW.sub (σ' := St.ob [(7, bD p), (32, isD (.pointer (some ⟨g32, 0, none⟩))), (33, iD (Env.decE p))] [.c g32 [strD d.acc, iD d.rnd, iD d.ser, bD d.box, bD d.tag]]) (⟨⟨_, rfl, ⟨⟨_, rfl, Le.refl _⟩, ⟨⟨_, rfl, Le.refl _⟩, ⟨⟨_, rfl, Le.refl _⟩, trivial⟩⟩⟩⟩, [0], by decide, ⟨⟨_, rfl, (by rw [hd]; exact LeAll.refl _)⟩, trivial⟩⟩) ?_
                    refine SW.region ?_
                    refine SWl.rd rfl (Rd.move rfl) ?_
                    refine SWl.rd rfl (Rd.nei rfl rfl) ?_
                    refine SWl.nil ?_
                    refine SN.then ?_
                    refine SW.cond rfl (fun hb204 => ?_) (fun hb204 => ?_)
                    · skip
                      refine SW.seq ?_
                      refine SW.region ?_
                      refine SWl.ef (S := []) (Ef.callN [] (con_known42) rfl trivial rfl) ?_
                      rintro _ rfl
                      refine SWl.rd rfl (Rd.assign rfl) ?_
                      refine SWl.nil ?_
                      refine SN.then ?_
                      refine SW.ret (fn := Tryd.f9) (fun _ _ h => h) (Rs.le (Rs.one rfl (ResV.tmp rfl)) ?_)
                      exact le_bool_n rfl
                    · have h204 : Env.decE p = 0 := (by simpa using hb204); obtain ⟨i1, i2⟩ := Env.dec_inv h204; rw [← hd] at i1 i2
                      refine SW.skip ?_
                      refine SN.then ?_
                      refine SW.seq ?_
                      refine SW.region ?_
                      refine SWl.rd rfl (Rd.loadA 0 5 rfl rfl (by kernel_rfl) rfl ap_nil) ?_
                      refine SWl.ef (S := []) (Ef.call (con_encodeE d) rfl ⟨Le.refl _, trivial⟩ rfl) ?_
                      rintro _ rfl
                      refine SWl.rd rfl (Rd.move rfl) ?_
                      refine SWl.rd rfl (Rd.extract rfl rfl) ?_
                      refine SWl.rd rfl (Rd.extract rfl rfl) ?_
                      refine SWl.rd rfl (Rd.assign rfl) ?_
                      refine SWl.rd rfl (Rd.assign rfl) ?_
                      refine SWl.nil ?_
                      refine SN.then ?_
                      refine SW.seq ?_
                      refine SW.region ?_
                      refine SWl.rd rfl (Rd.move rfl) ?_
                      refine SWl.rd rfl (Rd.eqi rfl rfl) ?_
                      refine SWl.rd rfl (Rd.move rfl) ?_
                      refine SWl.rdg rfl rfl (by simp [Env.encE, i1]) rfl rfl (Rd.move rfl) ?_
                      refine SWl.rdg rfl rfl (by simp [Env.encE, i1]) rfl rfl (Rd.str (e := 5) rfl (by kernel_rfl) (by kernel_rfl) (by kernel_rfl) (by simp)) ?_
                      refine SWl.rdg rfl rfl (by simp [Env.encE, i1]) rfl rfl (Rd.move rfl) ?_
                      refine SWl.rdg rfl rfl (by simp [Env.encE, i1]) rfl rfl (Rd.str (e := 5) rfl (by kernel_rfl) (by kernel_rfl) (by kernel_rfl) (by simp)) ?_
                      refine SWl.rdg rfl rfl (by simp [Env.encE, i1]) rfl rfl (Rd.eqs (p := Env.encQ d) (q := p) rfl rfl) ?_
                      refine SWl.rd rfl (Rd.pickY rfl (by simp [Env.encE, i1]) rfl) ?_
                      refine SWl.rd rfl (Rd.move rfl) ?_
                      refine SWl.efg (S := []) rfl rfl (by simp [Env.encQ, i1, i2]) rfl (Ef.callN [] (con_known42) rfl trivial rfl) ?_
                      rintro _ rfl
                      refine SWl.rd rfl (Rd.pickY rfl (by simp [Env.encQ, i1, i2]) rfl) ?_
                      refine SWl.rd rfl (Rd.assign rfl) ?_
                      refine SWl.nil ?_
                      refine SN.then ?_
                      refine SW.ret (fn := Tryd.f9) (fun _ _ h => h) (Rs.le (Rs.one rfl (ResV.tmp rfl)) ?_)
                      exact le_bool_n rfl
end Sx
end Go.Proofs.YtchbgfgboogniaaDoor
