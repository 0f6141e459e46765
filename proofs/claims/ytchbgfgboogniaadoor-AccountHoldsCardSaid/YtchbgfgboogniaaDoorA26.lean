/-
  ACCOUNTS: AccountHolds.
-/
import Derived.Test.YtchbgfgboogniaaDoorA26p
import Derived.Test.YtchbgfgboogniaaDoorGH
import Derived.Test.YtchbgfgboogniaaDoorGQ
import Derived.Test.YtchbgfgboogniaaDoorGU
namespace Go.Proofs.YtchbgfgboogniaaDoor
open Go.RowKit
namespace Sx
set_option maxHeartbeats 4000000 in
set_option maxRecDepth 100000 in
theorem accountHolds_con (l : List Acc.T) (p b : List UInt8) (hl : l.length ≤ 9223372036854775807) : ConN Tryd.prog 3 [lsD encA l, bD p, bD b] (boolD true) := by
  refine con_ofN Tryd.func3 (by kernel_rfl) rfl (by kernel_rfl) fun base w0 => ?_
  refine SW.seq ?_
  refine SW.region ?_
  refine SWl.rd rfl (Rd.assign rfl) ?_
  refine SWl.nil ?_
  refine SN.then ?_
  refine SW.seq ?_
  refine SW.seq ?_
  refine SW.region ?_
  refine SWl.rd rfl (Rd.move rfl) ?_
  refine SWl.rd rfl (Rd.lenR (e := 33) rfl (by kernel_rfl)) ?_
  refine SWl.rd rfl (Rd.gtr rfl rfl) ?_
  refine SWl.rd rfl (Rd.move rfl) ?_
  refine SWl.split 22 rfl (fun hb22 => ?_) (fun hb22 => ?_)
  · skip
    refine SWl.off rfl rfl (hb22) rfl rfl ?_
    refine SWl.off rfl rfl (hb22) rfl rfl ?_
    refine SWl.off rfl rfl (hb22) rfl rfl ?_
    refine SWl.rd rfl (Rd.pickY rfl (hb22) rfl) ?_
    refine SWl.rd rfl (Rd.move rfl) ?_
    refine SWl.off rfl rfl (rfl) rfl rfl ?_
    refine SWl.off rfl rfl (rfl) rfl rfl ?_
    refine SWl.off rfl rfl (rfl) rfl rfl ?_
    refine SWl.rd rfl (Rd.pickY rfl (rfl) rfl) ?_
    refine SWl.nil ?_
    refine SN.then ?_
    refine SW.condT rfl (rfl) ?_
    refine SW.seq ?_
    refine SW.region ?_
    refine SWl.ef (S := []) (Ef.callN [] (con_known41) rfl trivial rfl) ?_
    rintro _ rfl
    refine SWl.rd rfl (Rd.assign rfl) ?_
    refine SWl.nil ?_
    refine SN.then ?_
    refine SW.ret (fn := Tryd.f3) (fun _ _ h => h) (Rs.le (Rs.one rfl (ResV.tmp rfl)) ?_)
    exact le_bool_n rfl
  · have h22 : l.length ≤ 10 := by have h := of_decide_eq_false hb22; omega
    refine SWl.rdg rfl rfl (hb22) rfl rfl (Rd.move rfl) ?_
    refine SWl.rdg rfl rfl (hb22) rfl rfl (Rd.len (e := 5) rfl (by kernel_rfl)) ?_
    refine SWl.rdg rfl rfl (hb22) rfl rfl (Rd.gtr rfl rfl) ?_
    refine SWl.rd rfl (Rd.pickN rfl (hb22) rfl) ?_
    refine SWl.rd rfl (Rd.move rfl) ?_
    refine SWl.split 27 rfl (fun hb27 => ?_) (fun hb27 => ?_)
    · skip
      refine SWl.off rfl rfl (hb27) rfl rfl ?_
      refine SWl.off rfl rfl (hb27) rfl rfl ?_
      refine SWl.off rfl rfl (hb27) rfl rfl ?_
      refine SWl.rd rfl (Rd.pickY rfl (hb27) rfl) ?_
      refine SWl.nil ?_
      refine SN.then ?_
      refine SW.condT rfl (rfl) ?_
      refine SW.seq ?_
      refine SW.region ?_
      refine SWl.ef (S := []) (Ef.callN [] (con_known41) rfl trivial rfl) ?_
      rintro _ rfl
      refine SWl.rd rfl (Rd.assign rfl) ?_
      refine SWl.nil ?_
      refine SN.then ?_
      refine SW.ret (fn := Tryd.f3) (fun _ _ h => h) (Rs.le (Rs.one rfl (ResV.tmp rfl)) ?_)
      exact le_bool_n rfl
    · have h27 : p.length ≤ 300 := by have h := of_decide_eq_false hb27; rw [cellsOf_length] at h; omega
      refine SWl.rdg rfl rfl (hb27) rfl rfl (Rd.move rfl) ?_
      refine SWl.rdg rfl rfl (hb27) rfl rfl (Rd.len (e := 5) rfl (by kernel_rfl)) ?_
      refine SWl.rdg rfl rfl (hb27) rfl rfl (Rd.gtr rfl rfl) ?_
      refine SWl.rd rfl (Rd.pickN rfl (hb27) rfl) ?_
      refine SWl.nil ?_
      refine SN.then ?_
      refine SW.cond rfl (fun hb31 => ?_) (fun hb31 => ?_)
      · skip
        refine SW.seq ?_
        refine SW.region ?_
        refine SWl.ef (S := []) (Ef.callN [] (con_known41) rfl trivial rfl) ?_
        rintro _ rfl
        refine SWl.rd rfl (Rd.assign rfl) ?_
        refine SWl.nil ?_
        refine SN.then ?_
        refine SW.ret (fn := Tryd.f3) (fun _ _ h => h) (Rs.le (Rs.one rfl (ResV.tmp rfl)) ?_)
        exact le_bool_n rfl
      · have h31 : b.length ≤ 500 := by have h := of_decide_eq_false hb31; rw [cellsOf_length] at h; omega
        refine SW.skip ?_
        refine SN.then ?_
        refine SW.seq ?_
        refine SW.region ?_
        refine SWl.rd rfl (Rd.build rfl rfl bldBk0) ?_
        refine SWl.ef (S := []) (Ef.boxA rfl rfl) ?_
        rintro _ ⟨g34, rfl⟩
        refine SWl.rd rfl (Rd.build rfl rfl bldBk0) ?_
        refine SWl.ef (S := []) (Ef.boxA rfl rfl) ?_
        rintro _ ⟨g36, rfl⟩
        refine SWl.rd rfl (Rd.assign rfl) ?_
        refine SWl.rd rfl (Rd.assign rfl) ?_
        refine SWl.nil ?_
        refine SN.then ?_
        refine SW.seq ?_
        refine SW.vecN 9 1 encT ?_
        refine SW.mapQN encS (acD []) ?_
        refine SW.mapQN encSt (seD []) ?_
        refine SW.vecN 9 1 encT ?_
        refine SW.mapQN encS (acD []) ?_
        refine SW.mapQN encSt (seD []) ?_
        refine SW.sub (σ' := St.ob [(0, lsD encA l), (1, bD p), (2, bD b), (7, isD (.pointer (some ⟨g34, 0, none⟩))), (8, isD (.pointer (some ⟨g36, 0, none⟩)))] [.c g34 [isD (.map ((⟨none, [], [], ⟨none, 0, []⟩⟩ : Bst).M.map Prod.fst)), isD (.slice (⟨none, [], [], ⟨none, 0, []⟩⟩ : Bst).n.A (Acc.nm ([] : List Acc.T)).length (⟨none, [], [], ⟨none, 0, []⟩⟩ : Bst).n.c), isD (.map ((⟨none, [], [], ⟨none, 0, []⟩⟩ : Bst).M.map Prod.snd))], .r (⟨none, [], [], ⟨none, 0, []⟩⟩ : Bst).n.F (vecT 9 1 encT (⟨none, [], [], ⟨none, 0, []⟩⟩ : Bst).n.A (⟨none, [], [], ⟨none, 0, []⟩⟩ : Bst).n.c (Acc.nm ([] : List Acc.T))), .r (⟨none, [], [], ⟨none, 0, []⟩⟩ : Bst).F1 (mapQ ((⟨none, [], [], ⟨none, 0, []⟩⟩ : Bst).M.map Prod.fst) encS (Acc.nm ([] : List Acc.T)) (acD ([] : List Acc.T))), .r (⟨none, [], [], ⟨none, 0, []⟩⟩ : Bst).F2 (mapQ ((⟨none, [], [], ⟨none, 0, []⟩⟩ : Bst).M.map Prod.snd) encSt (Acc.seats ([] : List Acc.T)) (seD ([] : List Acc.T))), .c g36 [isD (.map ((⟨none, [], [], ⟨none, 0, []⟩⟩ : Bst).M.map Prod.fst)), isD (.slice (⟨none, [], [], ⟨none, 0, []⟩⟩ : Bst).n.A (Acc.nm ([] : List Acc.T)).length (⟨none, [], [], ⟨none, 0, []⟩⟩ : Bst).n.c), isD (.map ((⟨none, [], [], ⟨none, 0, []⟩⟩ : Bst).M.map Prod.snd))], .r (⟨none, [], [], ⟨none, 0, []⟩⟩ : Bst).n.F (vecT 9 1 encT (⟨none, [], [], ⟨none, 0, []⟩⟩ : Bst).n.A (⟨none, [], [], ⟨none, 0, []⟩⟩ : Bst).n.c (Acc.nm ([] : List Acc.T))), .r (⟨none, [], [], ⟨none, 0, []⟩⟩ : Bst).F1 (mapQ ((⟨none, [], [], ⟨none, 0, []⟩⟩ : Bst).M.map Prod.fst) encS (Acc.nm ([] : List Acc.T)) (acD ([] : List Acc.T))), .r (⟨none, [], [], ⟨none, 0, []⟩⟩ : Bst).F2 (mapQ ((⟨none, [], [], ⟨none, 0, []⟩⟩ : Bst).M.map Prod.snd) encSt (Acc.seats ([] : List Acc.T)) (seD ([] : List Acc.T)))]) (⟨⟨_, rfl, ⟨⟨_, rfl, Le.refl _⟩, ⟨⟨_, rfl, Le.refl _⟩, ⟨⟨_, rfl, Le.refl _⟩, ⟨⟨_, rfl, Le.refl _⟩, ⟨⟨_, rfl, Le.refl _⟩, trivial⟩⟩⟩⟩⟩⟩, [0, 2, 3, 4, 1, 5, 6, 7], by decide, ⟨⟨_, rfl, LeAll.refl _⟩, ⟨⟨_, rfl, LeR.refl _⟩, ⟨⟨_, rfl, LeR.refl _⟩, ⟨⟨_, rfl, LeR.refl _⟩, ⟨⟨_, rfl, LeAll.refl _⟩, ⟨⟨_, rfl, LeR.refl _⟩, ⟨⟨_, rfl, LeR.refl _⟩, ⟨⟨_, rfl, LeR.refl _⟩, trivial⟩⟩⟩⟩⟩⟩⟩⟩⟩) ?_
        refine SW.region ?_
        refine SWl.rd rfl (Rd.assign rfl) ?_
        refine SWl.nil ?_
        refine SN.then ?_
        refine SW.seq ?_
        refine SW.seq ?_
        refine SW.region ?_
        refine SWl.rd rfl (Rd.assign rfl) ?_
        refine SWl.nil ?_
        refine SN.then ?_
        refine SW.block ?_
        refine SW.loop (ι := {q : Nat × Bst × List Acc.T × Bool // AdUp l q.1 q.2.2.1 q.2.2.2}) (fun ⟨(i, s, x, rf), hI⟩ => St.ob [(0, lsD encA l), (1, bD p), (2, bD b), (7, isD (.pointer (some ⟨g34, 0, none⟩))), (8, isD (.pointer (some ⟨g36, 0, none⟩))), (9, boolD rf), (10, iD (i : Int))] [.c g34 [isD (.map (s.M.map Prod.fst)), isD (.slice s.n.A (Acc.nm x).length s.n.c), isD (.map (s.M.map Prod.snd))], .r s.n.F (vecT 9 1 encT s.n.A s.n.c (Acc.nm x)), .r s.F1 (mapQ (s.M.map Prod.fst) encS (Acc.nm x) (acD x)), .r s.F2 (mapQ (s.M.map Prod.snd) encSt (Acc.seats x) (seD x)), .c g36 [isD (.map ((⟨none, [], [], ⟨none, 0, []⟩⟩ : Bst).M.map Prod.fst)), isD (.slice (⟨none, [], [], ⟨none, 0, []⟩⟩ : Bst).n.A (Acc.nm ([] : List Acc.T)).length (⟨none, [], [], ⟨none, 0, []⟩⟩ : Bst).n.c), isD (.map ((⟨none, [], [], ⟨none, 0, []⟩⟩ : Bst).M.map Prod.snd))], .r (⟨none, [], [], ⟨none, 0, []⟩⟩ : Bst).n.F (vecT 9 1 encT (⟨none, [], [], ⟨none, 0, []⟩⟩ : Bst).n.A (⟨none, [], [], ⟨none, 0, []⟩⟩ : Bst).n.c (Acc.nm ([] : List Acc.T))), .r (⟨none, [], [], ⟨none, 0, []⟩⟩ : Bst).F1 (mapQ ((⟨none, [], [], ⟨none, 0, []⟩⟩ : Bst).M.map Prod.fst) encS (Acc.nm ([] : List Acc.T)) (acD ([] : List Acc.T))), .r (⟨none, [], [], ⟨none, 0, []⟩⟩ : Bst).F2 (mapQ ((⟨none, [], [], ⟨none, 0, []⟩⟩ : Bst).M.map Prod.snd) encSt (Acc.seats ([] : List Acc.T)) (seD ([] : List Acc.T)))]) (fun ⟨(i, s, x, rf), hI⟩ => l.length - i) (⟨(0, (⟨none, [], [], ⟨none, 0, []⟩⟩ : Bst), [], false), AdUp.start l⟩) ?_ ?_
        · exact ⟨⟨_, rfl, ⟨⟨_, rfl, Le.refl _⟩, ⟨⟨_, rfl, Le.refl _⟩, ⟨⟨_, rfl, Le.refl _⟩, ⟨⟨_, rfl, Le.refl _⟩, ⟨⟨_, rfl, Le.refl _⟩, ⟨⟨_, rfl, Le.refl _⟩, ⟨⟨_, rfl, Le.refl _⟩, trivial⟩⟩⟩⟩⟩⟩⟩⟩, [0, 1, 2, 3, 4, 5, 6, 7], by decide, ⟨⟨_, rfl, LeAll.refl _⟩, ⟨⟨_, rfl, LeR.refl _⟩, ⟨⟨_, rfl, LeR.refl _⟩, ⟨⟨_, rfl, LeR.refl _⟩, ⟨⟨_, rfl, LeAll.refl _⟩, ⟨⟨_, rfl, LeR.refl _⟩, ⟨⟨_, rfl, LeR.refl _⟩, ⟨⟨_, rfl, LeR.refl _⟩, trivial⟩⟩⟩⟩⟩⟩⟩⟩⟩
        · rintro ⟨⟨i, s, x, rf⟩, hI⟩ K0 hK0
          dsimp only at hI ⊢
          have hil := hI.1
          refine SW.seq ?_
          refine SW.seq ?_
          refine SW.region ?_
          refine SWl.rd rfl (Rd.move rfl) ?_
          refine SWl.rd rfl (Rd.move rfl) ?_
          refine SWl.rd rfl (Rd.lenR (e := 33) rfl (by kernel_rfl)) ?_
          refine SWl.rd rfl (Rd.lss rfl rfl) ?_
          refine SWl.nil ?_
          refine SN.then ?_
          refine SW.cond rfl (fun hb40 => ?_) (fun hb40 => ?_)
          · have hb40 := of_decide_eq_true hb40
            refine SW.skip ?_
            refine SN.then ?_
            refine SW.seq ?_
            refine SW.block ?_
            refine SW.seq ?_
            refine SW.seq ?_
            obtain ⟨ac, ha⟩ : ∃ ac, l[i]? = some ac := ⟨_, List.getElem?_eq_getElem (by omega)⟩
            refine SW.region ?_
            refine SWl.rd rfl (Rd.move rfl) ?_
            refine SWl.rd rfl (Rd.move rfl) ?_
            refine SWl.rd rfl (Rd.idxL (e := 33) 5 rfl rfl (by kernel_rfl) (by kernel_rfl) (by omega) (by simpa using ha)) ?_
            refine SWl.rd rfl (Rd.fieldR (n := 2) rfl (by kernel_rfl) (show 2 < 5 by decide)) ?_
            refine SWl.rd rfl (Rd.loadR rfl rfl (by kernel_rfl) (by simp)) ?_
            refine SWl.rd rfl (Rd.len (e := 5) rfl (by kernel_rfl)) ?_
            refine SWl.rd rfl (Rd.gtr rfl rfl) ?_
            refine SWl.rd rfl (Rd.move rfl) ?_
            refine SWl.split 50 rfl (fun hb50 => ?_) (fun hb50 => ?_)
            · skip
              refine SWl.off rfl rfl (hb50) rfl rfl ?_
              refine SWl.off rfl rfl (hb50) rfl rfl ?_
              refine SWl.off rfl rfl (hb50) rfl rfl ?_
              refine SWl.off rfl rfl (hb50) rfl rfl ?_
              refine SWl.off rfl rfl (hb50) rfl rfl ?_
              refine SWl.off rfl rfl (hb50) rfl rfl ?_
              refine SWl.off rfl rfl (hb50) rfl rfl ?_
              refine SWl.rd rfl (Rd.pickY rfl (hb50) rfl) ?_
              refine SWl.nil ?_
              refine SN.then ?_
              refine SW.condT rfl (rfl) ?_
              refine SW.seq ?_
              refine SW.region ?_
              refine SWl.ef (S := []) (Ef.callN [] (con_known41) rfl trivial rfl) ?_
              rintro _ rfl
              refine SWl.rd rfl (Rd.assign rfl) ?_
              refine SWl.nil ?_
              refine SN.then ?_
              refine SW.ret (fn := Tryd.f3) (fun _ _ h => h) (Rs.le (Rs.one rfl (ResV.tmp rfl)) ?_)
              exact le_bool_n rfl
            · skip
              refine SWl.rdg rfl rfl (hb50) rfl rfl (Rd.move rfl) ?_
              refine SWl.rdg rfl rfl (hb50) rfl rfl (Rd.move rfl) ?_
              refine SWl.rdg rfl rfl (hb50) rfl rfl (Rd.idxL (e := 33) 5 rfl rfl (by kernel_rfl) (by kernel_rfl) (by omega) (by simpa using ha)) ?_
              refine SWl.rdg rfl rfl (hb50) rfl rfl (Rd.fieldR (n := 0) rfl (by kernel_rfl) (show 0 < 5 by decide)) ?_
              refine SWl.rdg rfl rfl (hb50) rfl rfl (Rd.loadR rfl rfl (by kernel_rfl) (by simp)) ?_
              refine SWl.rdg rfl rfl (hb50) rfl rfl (Rd.lenb rfl (by kernel_rfl)) ?_
              refine SWl.rdg rfl rfl (hb50) rfl rfl (Rd.gtr rfl rfl) ?_
              refine SWl.rd rfl (Rd.pickN rfl (hb50) rfl) ?_
              refine SWl.nil ?_
              refine SN.then ?_
              refine SW.cond rfl (fun hb58 => ?_) (fun hb58 => ?_)
              · skip
                refine SW.seq ?_
                refine SW.region ?_
                refine SWl.ef (S := []) (Ef.callN [] (con_known41) rfl trivial rfl) ?_
                rintro _ rfl
                refine SWl.rd rfl (Rd.assign rfl) ?_
                refine SWl.nil ?_
                refine SN.then ?_
                refine SW.ret (fn := Tryd.f3) (fun _ _ h => h) (Rs.le (Rs.one rfl (ResV.tmp rfl)) ?_)
                exact le_bool_n rfl
              · skip
                refine SW.skip ?_
                refine SN.then ?_
                refine SW.region ?_
                refine SWl.rd rfl (Rd.move rfl) ?_
                refine SWl.rd rfl (Rd.move rfl) ?_
                refine SWl.rd rfl (Rd.move rfl) ?_
                refine SWl.rd rfl (Rd.idxL (e := 33) 5 rfl rfl (by kernel_rfl) (by kernel_rfl) (by omega) (by simpa using ha)) ?_
                refine SWl.rd rfl (Rd.loadRA 5 rfl (by kernel_rfl) (by decide) (show 5 ≤ 5 by decide) (by simp)) ?_
                refine SWl.lookA5 64 rfl fun A64 c64 => ?_
                refine SWl.ef (Ef.callR [0, 1, 2, 3, 8] (con_add g34 s x ac A64 c64 [] _ (isView_viewB _ _ _ _ rfl) (hI.2.1)) rfl ⟨Le.refl _, Le.refl _, trivial⟩ (by decide) ⟨⟨_, rfl, LeAll.refl _⟩, ⟨⟨_, rfl, LeR.refl _⟩, ⟨⟨_, rfl, LeR.refl _⟩, ⟨⟨_, rfl, LeR.refl _⟩, ⟨⟨_, rfl, LeR.refl _⟩, trivial⟩⟩⟩⟩⟩ (fun _ h => h) rfl) ?_
                rintro _ ⟨s65, rfl⟩
                refine SWl.rd rfl (Rd.nei rfl rfl) ?_
                refine SWl.rd rfl (Rd.move rfl) ?_
                refine SWl.split 67 rfl (fun hb67 => ?_) (fun hb67 => ?_)
                · skip
                  refine SWl.off rfl rfl (hb67) rfl rfl ?_
                  refine SWl.rd rfl (Rd.pickY rfl (hb67) rfl) ?_
                  refine SWl.rd rfl (Rd.assign rfl) ?_
                  refine SWl.nil ?_
                  refine SN.block ?_
                  refine SN.then ?_
                  refine SW.region ?_
                  refine SWl.rd rfl (Rd.move rfl) ?_
                  refine SWl.rd rfl (Rd.add rfl rfl ⟨by omega, by omega⟩) ?_
                  refine SWl.rd rfl (Rd.assign rfl) ?_
                  refine SWl.nil ?_
                  exact fun a w hh => hK0 (⟨(i + 1, s65, (Acc.add x ac).1, _), hI.next ha⟩) (by dsimp only; omega) a w (hh.sub (⟨⟨_, rfl, ⟨⟨_, rfl, Le.refl _⟩, ⟨⟨_, rfl, Le.refl _⟩, ⟨⟨_, rfl, Le.refl _⟩, ⟨⟨_, rfl, Le.refl _⟩, ⟨⟨_, rfl, Le.refl _⟩, ⟨⟨_, rfl, Le.is (by simp [show ¬ (Acc.add x ac).2 = 0 by simpa using hb67])⟩, ⟨⟨_, rfl, Le.is (by simp)⟩, trivial⟩⟩⟩⟩⟩⟩⟩⟩, [4, 5, 6, 7, 0, 1, 2, 3], by decide, ⟨⟨_, rfl, LeAll.refl _⟩, ⟨⟨_, rfl, LeR.refl _⟩, ⟨⟨_, rfl, LeR.refl _⟩, ⟨⟨_, rfl, LeR.refl _⟩, ⟨⟨_, rfl, LeAll.refl _⟩, ⟨⟨_, rfl, LeR.refl _⟩, ⟨⟨_, rfl, LeR.refl _⟩, ⟨⟨_, rfl, LeR.refl _⟩, trivial⟩⟩⟩⟩⟩⟩⟩⟩⟩))
                · skip
                  refine SWl.rdg rfl rfl (hb67) rfl rfl (Rd.move rfl) ?_
                  refine SWl.rd rfl (Rd.pickN rfl (hb67) rfl) ?_
                  refine SWl.rd rfl (Rd.assign rfl) ?_
                  refine SWl.nil ?_
                  refine SN.block ?_
                  refine SN.then ?_
                  refine SW.region ?_
                  refine SWl.rd rfl (Rd.move rfl) ?_
                  refine SWl.rd rfl (Rd.add rfl rfl ⟨by omega, by omega⟩) ?_
                  refine SWl.rd rfl (Rd.assign rfl) ?_
                  refine SWl.nil ?_
                  exact fun a w hh => hK0 (⟨(i + 1, s65, (Acc.add x ac).1, _), hI.next ha⟩) (by dsimp only; omega) a w (hh.sub (⟨⟨_, rfl, ⟨⟨_, rfl, Le.refl _⟩, ⟨⟨_, rfl, Le.refl _⟩, ⟨⟨_, rfl, Le.refl _⟩, ⟨⟨_, rfl, Le.refl _⟩, ⟨⟨_, rfl, Le.refl _⟩, ⟨⟨_, rfl, Le.is (by simp [show (Acc.add x ac).2 = 0 by simpa using hb67])⟩, ⟨⟨_, rfl, Le.is (by simp)⟩, trivial⟩⟩⟩⟩⟩⟩⟩⟩, [4, 5, 6, 7, 0, 1, 2, 3], by decide, ⟨⟨_, rfl, LeAll.refl _⟩, ⟨⟨_, rfl, LeR.refl _⟩, ⟨⟨_, rfl, LeR.refl _⟩, ⟨⟨_, rfl, LeR.refl _⟩, ⟨⟨_, rfl, LeAll.refl _⟩, ⟨⟨_, rfl, LeR.refl _⟩, ⟨⟨_, rfl, LeR.refl _⟩, ⟨⟨_, rfl, LeR.refl _⟩, trivial⟩⟩⟩⟩⟩⟩⟩⟩⟩))
          · have hb40 := of_decide_eq_false hb40
            refine SW.exit' ?_
            repeat (first | refine SE.then ?_ | refine SE.skip (by decide) ?_)
            refine SE.here ?_
            refine SN.then ?_
            refine SW.seq ?_
            refine SW.seq ?_
            refine SW.region ?_
            refine SWl.rd rfl (Rd.move rfl) ?_
            refine SWl.rd rfl (Rd.lenR (e := 33) rfl (by kernel_rfl)) ?_
            refine SWl.rd rfl (Rd.subi rfl rfl ⟨by omega, by omega⟩) ?_
            refine SWl.rd rfl (Rd.assign rfl) ?_
            refine SWl.nil ?_
            refine SN.then ?_
            refine SW.block ?_
            refine SW.loop (ι := {q : Int × Bst × List Acc.T × Bool // AdDn l x q.1 q.2.2.1 q.2.2.2}) (fun ⟨(k, t, y, rg), hJ⟩ => St.ob [(0, lsD encA l), (1, bD p), (2, bD b), (7, isD (.pointer (some ⟨g34, 0, none⟩))), (8, isD (.pointer (some ⟨g36, 0, none⟩))), (9, boolD rg), (11, iD k)] [.c g34 [isD (.map (s.M.map Prod.fst)), isD (.slice s.n.A (Acc.nm x).length s.n.c), isD (.map (s.M.map Prod.snd))], .r s.n.F (vecT 9 1 encT s.n.A s.n.c (Acc.nm x)), .r s.F1 (mapQ (s.M.map Prod.fst) encS (Acc.nm x) (acD x)), .r s.F2 (mapQ (s.M.map Prod.snd) encSt (Acc.seats x) (seD x)), .c g36 [isD (.map (t.M.map Prod.fst)), isD (.slice t.n.A (Acc.nm y).length t.n.c), isD (.map (t.M.map Prod.snd))], .r t.n.F (vecT 9 1 encT t.n.A t.n.c (Acc.nm y)), .r t.F1 (mapQ (t.M.map Prod.fst) encS (Acc.nm y) (acD y)), .r t.F2 (mapQ (t.M.map Prod.snd) encSt (Acc.seats y) (seD y))]) (fun ⟨(k, t, y, rg), hJ⟩ => (k + 1).toNat) (⟨((l.length : Int) - 1, (⟨none, [], [], ⟨none, 0, []⟩⟩ : Bst), [], rf), AdDn.start hI (by omega)⟩) ?_ ?_
            · exact ⟨⟨_, rfl, ⟨⟨_, rfl, Le.refl _⟩, ⟨⟨_, rfl, Le.refl _⟩, ⟨⟨_, rfl, Le.refl _⟩, ⟨⟨_, rfl, Le.refl _⟩, ⟨⟨_, rfl, Le.refl _⟩, ⟨⟨_, rfl, Le.refl _⟩, ⟨⟨_, rfl, Le.refl _⟩, trivial⟩⟩⟩⟩⟩⟩⟩⟩, [0, 1, 2, 3, 4, 5, 6, 7], by decide, ⟨⟨_, rfl, LeAll.refl _⟩, ⟨⟨_, rfl, LeR.refl _⟩, ⟨⟨_, rfl, LeR.refl _⟩, ⟨⟨_, rfl, LeR.refl _⟩, ⟨⟨_, rfl, LeAll.refl _⟩, ⟨⟨_, rfl, LeR.refl _⟩, ⟨⟨_, rfl, LeR.refl _⟩, ⟨⟨_, rfl, LeR.refl _⟩, trivial⟩⟩⟩⟩⟩⟩⟩⟩⟩
            · rintro ⟨⟨k, t, y, rg⟩, hJ⟩ K1 hK1
              dsimp only at hJ ⊢
              refine SW.seq ?_
              refine SW.seq ?_
              refine SW.region ?_
              refine SWl.rd rfl (Rd.move rfl) ?_
              refine SWl.rd rfl (Rd.geq rfl rfl) ?_
              refine SWl.nil ?_
              refine SN.then ?_
              refine SW.cond rfl (fun hb74 => ?_) (fun hb74 => ?_)
              · have h74 : 0 ≤ k := of_decide_eq_true hb74
                refine SW.skip ?_
                refine SN.then ?_
                refine SW.seq ?_
                refine SW.block ?_
                obtain ⟨ac, ha⟩ : ∃ ac, l[k.toNat]? = some ac := ⟨_, List.getElem?_eq_getElem (by have h1 := hJ.2.1; omega)⟩
                refine SW.region ?_
                refine SWl.rd rfl (Rd.move rfl) ?_
                refine SWl.rd rfl (Rd.move rfl) ?_
                refine SWl.rd rfl (Rd.move rfl) ?_
                refine SWl.rd rfl (Rd.idxL (e := 33) 5 rfl rfl (by kernel_rfl) (by kernel_rfl) h74 ha) ?_
                refine SWl.rd rfl (Rd.loadRA 5 rfl (by kernel_rfl) (by decide) (show 5 ≤ 5 by decide) (by simp)) ?_
                refine SWl.lookA5 81 rfl fun A81 c81 => ?_
                refine SWl.ef (Ef.callR [4, 5, 6, 7, 8] (con_add g36 t y ac A81 c81 [] _ (isView_viewB _ _ _ _ rfl) (hJ.2.2.1)) rfl ⟨Le.refl _, Le.refl _, trivial⟩ (by decide) ⟨⟨_, rfl, LeAll.refl _⟩, ⟨⟨_, rfl, LeR.refl _⟩, ⟨⟨_, rfl, LeR.refl _⟩, ⟨⟨_, rfl, LeR.refl _⟩, ⟨⟨_, rfl, LeR.refl _⟩, trivial⟩⟩⟩⟩⟩ (fun _ h => h) rfl) ?_
                rintro _ ⟨s82, rfl⟩
                refine SWl.rd rfl (Rd.nei rfl rfl) ?_
                refine SWl.rd rfl (Rd.move rfl) ?_
                refine SWl.split 84 rfl (fun hb84 => ?_) (fun hb84 => ?_)
                · skip
                  refine SWl.off rfl rfl (hb84) rfl rfl ?_
                  refine SWl.rd rfl (Rd.pickY rfl (hb84) rfl) ?_
                  refine SWl.rd rfl (Rd.assign rfl) ?_
                  refine SWl.nil ?_
                  refine SN.block ?_
                  refine SN.then ?_
                  refine SW.region ?_
                  refine SWl.rd rfl (Rd.move rfl) ?_
                  refine SWl.rd rfl (Rd.subi rfl rfl ⟨by omega, by have h1 := hJ.2.1; omega⟩) ?_
                  refine SWl.rd rfl (Rd.assign rfl) ?_
                  refine SWl.nil ?_
                  exact fun a w hh => hK1 (⟨(k - 1, s82, (Acc.add y ac).1, _), hJ.next h74 ha⟩) (by dsimp only; omega) a w (hh.sub (⟨⟨_, rfl, ⟨⟨_, rfl, Le.refl _⟩, ⟨⟨_, rfl, Le.refl _⟩, ⟨⟨_, rfl, Le.refl _⟩, ⟨⟨_, rfl, Le.refl _⟩, ⟨⟨_, rfl, Le.refl _⟩, ⟨⟨_, rfl, Le.is (by simp [show ¬ (Acc.add y ac).2 = 0 by simpa using hb84])⟩, ⟨⟨_, rfl, Le.refl _⟩, trivial⟩⟩⟩⟩⟩⟩⟩⟩, [0, 1, 2, 3, 4, 5, 6, 7], by decide, ⟨⟨_, rfl, LeAll.refl _⟩, ⟨⟨_, rfl, LeR.refl _⟩, ⟨⟨_, rfl, LeR.refl _⟩, ⟨⟨_, rfl, LeR.refl _⟩, ⟨⟨_, rfl, LeAll.refl _⟩, ⟨⟨_, rfl, LeR.refl _⟩, ⟨⟨_, rfl, LeR.refl _⟩, ⟨⟨_, rfl, LeR.refl _⟩, trivial⟩⟩⟩⟩⟩⟩⟩⟩⟩))
                · skip
                  refine SWl.rdg rfl rfl (hb84) rfl rfl (Rd.move rfl) ?_
                  refine SWl.rd rfl (Rd.pickN rfl (hb84) rfl) ?_
                  refine SWl.rd rfl (Rd.assign rfl) ?_
                  refine SWl.nil ?_
                  refine SN.block ?_
                  refine SN.then ?_
                  refine SW.region ?_
                  refine SWl.rd rfl (Rd.move rfl) ?_
                  refine SWl.rd rfl (Rd.subi rfl rfl ⟨by omega, by have h1 := hJ.2.1; omega⟩) ?_
                  refine SWl.rd rfl (Rd.assign rfl) ?_
                  refine SWl.nil ?_
                  exact fun a w hh => hK1 (⟨(k - 1, s82, (Acc.add y ac).1, _), hJ.next h74 ha⟩) (by dsimp only; omega) a w (hh.sub (⟨⟨_, rfl, ⟨⟨_, rfl, Le.refl _⟩, ⟨⟨_, rfl, Le.refl _⟩, ⟨⟨_, rfl, Le.refl _⟩, ⟨⟨_, rfl, Le.refl _⟩, ⟨⟨_, rfl, Le.refl _⟩, ⟨⟨_, rfl, Le.is (by simp [show (Acc.add y ac).2 = 0 by simpa using hb84])⟩, ⟨⟨_, rfl, Le.refl _⟩, trivial⟩⟩⟩⟩⟩⟩⟩⟩, [0, 1, 2, 3, 4, 5, 6, 7], by decide, ⟨⟨_, rfl, LeAll.refl _⟩, ⟨⟨_, rfl, LeR.refl _⟩, ⟨⟨_, rfl, LeR.refl _⟩, ⟨⟨_, rfl, LeR.refl _⟩, ⟨⟨_, rfl, LeAll.refl _⟩, ⟨⟨_, rfl, LeR.refl _⟩, ⟨⟨_, rfl, LeR.refl _⟩, ⟨⟨_, rfl, LeR.refl _⟩, trivial⟩⟩⟩⟩⟩⟩⟩⟩⟩))
              · have h74 := of_decide_eq_false hb74
                refine SW.exit' ?_
                repeat (first | refine SE.then ?_ | refine SE.skip (by decide) ?_)
                refine SE.here ?_
                refine SN.then ?_
                refine SW.seq ?_
                have hf := hI.2.1
                have hxy := hJ.same (by omega) hf
                refine SW.sub (σ' := St.ob [(0, lsD encA l), (1, bD p), (2, bD b), (7, isD (.pointer (some ⟨g34, 0, none⟩))), (8, isD (.pointer (some ⟨g36, 0, none⟩))), (9, boolD rg)] [.c g34 [isD (.map (s.M.map Prod.fst)), isD (.slice s.n.A (Acc.nm x).length s.n.c), isD (.map (s.M.map Prod.snd))], .r s.n.F (vecT 9 1 encT s.n.A s.n.c (Acc.nm x)), .r s.F1 (mapQ (s.M.map Prod.fst) encS (Acc.nm x) (acD x)), .r s.F2 (mapQ (s.M.map Prod.snd) encSt (Acc.seats x) (seD x)), .c g36 [isD (.map (t.M.map Prod.fst)), isD (.slice t.n.A (Acc.nm y).length t.n.c), isD (.map (t.M.map Prod.snd))], .r t.n.F (vecT 9 1 encT t.n.A t.n.c (Acc.nm y)), .r t.F1 (mapQ (t.M.map Prod.fst) encS (Acc.nm y) (acD y)), .r t.F2 (mapQ (t.M.map Prod.snd) encSt (Acc.seats y) (seD y))]) (⟨⟨_, rfl, ⟨⟨_, rfl, Le.refl _⟩, ⟨⟨_, rfl, Le.refl _⟩, ⟨⟨_, rfl, Le.refl _⟩, ⟨⟨_, rfl, Le.refl _⟩, ⟨⟨_, rfl, Le.refl _⟩, ⟨⟨_, rfl, Le.refl _⟩, trivial⟩⟩⟩⟩⟩⟩⟩, [0, 1, 2, 3, 4, 5, 6, 7], by decide, ⟨⟨_, rfl, LeAll.refl _⟩, ⟨⟨_, rfl, LeR.refl _⟩, ⟨⟨_, rfl, LeR.refl _⟩, ⟨⟨_, rfl, LeR.refl _⟩, ⟨⟨_, rfl, LeAll.refl _⟩, ⟨⟨_, rfl, LeR.refl _⟩, ⟨⟨_, rfl, LeR.refl _⟩, ⟨⟨_, rfl, LeR.refl _⟩, trivial⟩⟩⟩⟩⟩⟩⟩⟩⟩) ?_
                refine SW.region ?_
                refine SWl.rd rfl (Rd.move rfl) ?_
                refine SWl.ef (Ef.callR [0, 1, 2, 3] (con_encodeB g34 s x (hf)) rfl ⟨Le.refl _, trivial⟩ (by decide) ⟨⟨_, rfl, LeAll.refl _⟩, ⟨⟨_, rfl, LeR.refl _⟩, ⟨⟨_, rfl, LeR.refl _⟩, ⟨⟨_, rfl, LeR.refl _⟩, trivial⟩⟩⟩⟩ (fun _ h => h) rfl) ?_
                rintro _ ⟨⟨⟩, rfl⟩
                refine SWl.ef (S := []) (Ef.callR [] (con_decodeB_ok (encBook x) (encBook_len hf) x (decB_enc hf)) rfl ⟨Le.refl _, trivial⟩ (by decide) trivial (fun _ h => h) rfl) ?_
                rintro _ ⟨⟨gd, sd⟩, rfl⟩
                refine SWl.rd rfl (Rd.move rfl) ?_
                refine SWl.rd rfl (Rd.extract rfl rfl) ?_
                refine SWl.rd rfl (Rd.extract rfl rfl) ?_
                refine SWl.rd rfl (Rd.assign rfl) ?_
                refine SWl.rd rfl (Rd.assign rfl) ?_
                refine SWl.nil ?_
                refine SN.then ?_
                refine SW.seq ?_
                refine SW.seq ?_
                refine SW.sub (σ' := St.ob [(0, lsD encA l), (1, bD p), (2, bD b), (7, isD (.pointer (some ⟨g34, 0, none⟩))), (8, isD (.pointer (some ⟨g36, 0, none⟩))), (9, boolD rg), (12, isD (.pointer (some ⟨gd, 0, none⟩))), (13, iD 0)] [.c g34 [isD (.map (s.M.map Prod.fst)), isD (.slice s.n.A (Acc.nm x).length s.n.c), isD (.map (s.M.map Prod.snd))], .r s.n.F (vecT 9 1 encT s.n.A s.n.c (Acc.nm x)), .r s.F1 (mapQ (s.M.map Prod.fst) encS (Acc.nm x) (acD x)), .r s.F2 (mapQ (s.M.map Prod.snd) encSt (Acc.seats x) (seD x)), .c g36 [isD (.map (t.M.map Prod.fst)), isD (.slice t.n.A (Acc.nm y).length t.n.c), isD (.map (t.M.map Prod.snd))], .r t.n.F (vecT 9 1 encT t.n.A t.n.c (Acc.nm y)), .r t.F1 (mapQ (t.M.map Prod.fst) encS (Acc.nm y) (acD y)), .r t.F2 (mapQ (t.M.map Prod.snd) encSt (Acc.seats y) (seD y)), .c gd [isD (.map (sd.M.map Prod.fst)), isD (.slice sd.n.A (Acc.nm x).length sd.n.c), isD (.map (sd.M.map Prod.snd))], .r sd.n.F (vecT 9 1 encT sd.n.A sd.n.c (Acc.nm x)), .r sd.F1 (mapQ (sd.M.map Prod.fst) encS (Acc.nm x) (acD x)), .r sd.F2 (mapQ (sd.M.map Prod.snd) encSt (Acc.seats x) (seD x))]) (⟨⟨_, rfl, ⟨⟨_, rfl, Le.refl _⟩, ⟨⟨_, rfl, Le.refl _⟩, ⟨⟨_, rfl, Le.refl _⟩, ⟨⟨_, rfl, Le.refl _⟩, ⟨⟨_, rfl, Le.refl _⟩, ⟨⟨_, rfl, Le.refl _⟩, ⟨⟨_, rfl, Le.refl _⟩, ⟨⟨_, rfl, Le.refl _⟩, trivial⟩⟩⟩⟩⟩⟩⟩⟩⟩, [4, 5, 6, 7, 0, 1, 2, 3, 8, 9, 10, 11], by decide, ⟨⟨_, rfl, LeAll.refl _⟩, ⟨⟨_, rfl, LeR.refl _⟩, ⟨⟨_, rfl, LeR.refl _⟩, ⟨⟨_, rfl, LeR.refl _⟩, ⟨⟨_, rfl, LeAll.refl _⟩, ⟨⟨_, rfl, LeR.refl _⟩, ⟨⟨_, rfl, LeR.refl _⟩, ⟨⟨_, rfl, LeR.refl _⟩, ⟨⟨_, rfl, LeAll.refl _⟩, ⟨⟨_, rfl, LeR.refl _⟩, ⟨⟨_, rfl, LeR.refl _⟩, ⟨⟨_, rfl, LeR.refl _⟩, trivial⟩⟩⟩⟩⟩⟩⟩⟩⟩⟩⟩⟩⟩) ?_
                refine SW.draw (gd :: (sd.n.F ++ (sd.F1 ++ (sd.F2 ++ (g34 :: (s.n.F ++ (s.F1 ++ (s.F2 ++ (g36 :: (t.n.F ++ (t.F1 ++ (t.F2 ++ [])))))))))))) (.r 0 (.r 1 (.r 2 (.r 3 (.r 4 (.r 5 (.r 6 (.r 7 (.r 10 (.e 8 (.r 9 (.e 11 (.r 12 (.r 13 (.r 14 (.r 15 (.r 16 (.r 17 (.r 18 (.r 19 (.r 22 (.e 20 (.r 21 (.e 23 (.r 24 (.r 25 (.r 26 (.r 27 .fin)))) .no)) .no)))))))))) .no)) .no)))))))))) (by kernel_rfl) (by kernel_rfl) (fun d _ _ _ _ h => by cases d <;> exact h) ?_
                refine SWz.rd (i := 0) rfl rfl (Rd.move rfl) ?_
                refine SWz.rd (i := 1) rfl rfl (Rd.nei rfl rfl) ?_
                refine SWz.rd (i := 2) rfl rfl (Rd.move rfl) ?_
                refine SWz.rdg (i := 3) rfl rfl rfl (by simp) rfl rfl (Rd.move rfl) ?_
                refine SWz.rdg (i := 4) rfl rfl rfl (by simp) rfl rfl (Rd.eqP rfl rfl (by kernel_rfl)) ?_
                refine SWz.rd (i := 5) rfl rfl (Rd.pickN rfl (by simp) rfl) ?_
                refine SWz.rd (i := 6) rfl rfl (Rd.move rfl) ?_
                refine SWz.rdg (i := 7) rfl rfl rfl (rfl) rfl rfl (Rd.move rfl) ?_
                refine SWz.rdg (i := 10) rfl rfl rfl (rfl) rfl rfl (Rd.move rfl) ?_
                refine SWz.efeg (i := 8) rfl rfl rfl (rfl) rfl (Ef.callR [8, 9, 10, 11] (con_encodeB gd sd x (hf)) rfl ⟨Le.refl _, trivial⟩ (by decide) ⟨⟨_, rfl, LeAll.refl _⟩, ⟨⟨_, rfl, LeR.refl _⟩, ⟨⟨_, rfl, LeR.refl _⟩, ⟨⟨_, rfl, LeR.refl _⟩, trivial⟩⟩⟩⟩ (fin_c (List.mem_cons_self) (fin_r (fun _ h => List.mem_cons_of_mem _ (List.mem_append_left _ h)) (fin_r (fun _ h => List.mem_cons_of_mem _ (List.mem_append_right _ (List.mem_append_left _ h))) (fin_r (fun _ h => List.mem_cons_of_mem _ (List.mem_append_right _ (List.mem_append_right _ (List.mem_append_left _ h)))) fin_nil)))) rfl) ?_ SWz.no
                rintro _ ⟨⟨⟩, rfl⟩
                refine SWz.rdg (i := 9) rfl rfl rfl (rfl) rfl rfl (Rd.str (e := 5) rfl (by kernel_rfl) (by kernel_rfl) (by kernel_rfl) (ins_cons (j := 8) rfl (ins_app (j := 9) rfl (ins_app (j := 10) rfl (ins_app (j := 11) rfl (ins_cons (j := 0) rfl (ins_app (j := 1) rfl (ins_app (j := 2) rfl (ins_app (j := 3) rfl (ins_cons (j := 4) rfl (ins_app (j := 5) rfl (ins_app (j := 6) rfl (ins_app (j := 7) rfl ins_nil))))))))))))) ?_
                refine SWz.efeg (i := 11) rfl rfl rfl (rfl) rfl (Ef.callR [0, 1, 2, 3] (con_encodeB g34 s x (hf)) rfl ⟨Le.refl _, trivial⟩ (by decide) ⟨⟨_, rfl, LeAll.refl _⟩, ⟨⟨_, rfl, LeR.refl _⟩, ⟨⟨_, rfl, LeR.refl _⟩, ⟨⟨_, rfl, LeR.refl _⟩, trivial⟩⟩⟩⟩ (fin_c (List.mem_cons_of_mem _ (List.mem_append_right _ (List.mem_append_right _ (List.mem_append_right _ (List.mem_cons_self))))) (fin_r (fun _ h => List.mem_cons_of_mem _ (List.mem_append_right _ (List.mem_append_right _ (List.mem_append_right _ (List.mem_cons_of_mem _ (List.mem_append_left _ h)))))) (fin_r (fun _ h => List.mem_cons_of_mem _ (List.mem_append_right _ (List.mem_append_right _ (List.mem_append_right _ (List.mem_cons_of_mem _ (List.mem_append_right _ (List.mem_append_left _ h))))))) (fin_r (fun _ h => List.mem_cons_of_mem _ (List.mem_append_right _ (List.mem_append_right _ (List.mem_append_right _ (List.mem_cons_of_mem _ (List.mem_append_right _ (List.mem_append_right _ (List.mem_append_left _ h)))))))) fin_nil)))) rfl) ?_ SWz.no
                rintro _ ⟨⟨⟩, rfl⟩
                refine SWz.rdg (i := 12) rfl rfl rfl (rfl) rfl rfl (Rd.str (e := 5) rfl (by kernel_rfl) (by kernel_rfl) (by kernel_rfl) (ins_cons (j := 4) rfl (ins_app (j := 5) rfl (ins_app (j := 6) rfl (ins_app (j := 7) rfl (ins_cons (j := 8) rfl (ins_app (j := 9) rfl (ins_app (j := 10) rfl (ins_app (j := 11) rfl (ins_cons (j := 0) rfl (ins_app (j := 1) rfl (ins_app (j := 2) rfl (ins_app (j := 3) rfl ins_nil))))))))))))) ?_
                refine SWz.rdg (i := 13) rfl rfl rfl (rfl) rfl rfl (Rd.nes (p := encBook x) (q := encBook x) rfl rfl) ?_
                refine SWz.rd (i := 14) rfl rfl (Rd.pickN rfl (rfl) rfl) ?_
                refine SWz.rd (i := 15) rfl rfl (Rd.move rfl) ?_
                refine SWz.rdg (i := 16) rfl rfl rfl (by simp) rfl rfl (Rd.move rfl) ?_
                refine SWz.rdg (i := 17) rfl rfl rfl (by simp) rfl rfl (Rd.not rfl) ?_
                refine SWz.rdg (i := 18) rfl rfl rfl (by simp) rfl rfl (Rd.move rfl) ?_
                refine SWz.split 111 rfl (fun hb111 => ?_) (fun hb111 => ?_)
                · have hrg : rg = false := by simpa using hb111
                  refine SWz.rdg (i := 19) rfl rfl rfl (hb111) rfl rfl (Rd.move rfl) ?_
                  refine SWz.rdg (i := 22) rfl rfl rfl (hb111) rfl rfl (Rd.move rfl) ?_
                  refine SWz.efeg (i := 20) rfl rfl rfl (hb111) rfl (Ef.callR [8, 9, 10, 11] (con_encodeB g34 s x (hf)) rfl ⟨Le.refl _, trivial⟩ (by decide) ⟨⟨_, rfl, LeAll.refl _⟩, ⟨⟨_, rfl, LeR.refl _⟩, ⟨⟨_, rfl, LeR.refl _⟩, ⟨⟨_, rfl, LeR.refl _⟩, trivial⟩⟩⟩⟩ (fin_c (List.mem_cons_of_mem _ (List.mem_append_right _ (List.mem_append_right _ (List.mem_append_right _ (List.mem_cons_self))))) (fin_r (fun _ h => List.mem_cons_of_mem _ (List.mem_append_right _ (List.mem_append_right _ (List.mem_append_right _ (List.mem_cons_of_mem _ (List.mem_append_left _ h)))))) (fin_r (fun _ h => List.mem_cons_of_mem _ (List.mem_append_right _ (List.mem_append_right _ (List.mem_append_right _ (List.mem_cons_of_mem _ (List.mem_append_right _ (List.mem_append_left _ h))))))) (fin_r (fun _ h => List.mem_cons_of_mem _ (List.mem_append_right _ (List.mem_append_right _ (List.mem_append_right _ (List.mem_cons_of_mem _ (List.mem_append_right _ (List.mem_append_right _ (List.mem_append_left _ h)))))))) fin_nil)))) rfl) ?_ SWz.no
                  rintro _ ⟨⟨⟩, rfl⟩
                  refine SWz.rdg (i := 21) rfl rfl rfl (hb111) rfl rfl (Rd.str (e := 5) rfl (by kernel_rfl) (by kernel_rfl) (by kernel_rfl) (ins_cons (j := 4) rfl (ins_app (j := 5) rfl (ins_app (j := 6) rfl (ins_app (j := 7) rfl (ins_cons (j := 8) rfl (ins_app (j := 9) rfl (ins_app (j := 10) rfl (ins_app (j := 11) rfl (ins_cons (j := 0) rfl (ins_app (j := 1) rfl (ins_app (j := 2) rfl (ins_app (j := 3) rfl ins_nil))))))))))))) ?_
                  refine SWz.efeg (i := 23) rfl rfl rfl (hb111) rfl (Ef.callR [0, 1, 2, 3] (con_encodeB g36 t y (hJ.2.2.1)) rfl ⟨Le.refl _, trivial⟩ (by decide) ⟨⟨_, rfl, LeAll.refl _⟩, ⟨⟨_, rfl, LeR.refl _⟩, ⟨⟨_, rfl, LeR.refl _⟩, ⟨⟨_, rfl, LeR.refl _⟩, trivial⟩⟩⟩⟩ (fin_c (List.mem_cons_of_mem _ (List.mem_append_right _ (List.mem_append_right _ (List.mem_append_right _ (List.mem_cons_of_mem _ (List.mem_append_right _ (List.mem_append_right _ (List.mem_append_right _ (List.mem_cons_self))))))))) (fin_r (fun _ h => List.mem_cons_of_mem _ (List.mem_append_right _ (List.mem_append_right _ (List.mem_append_right _ (List.mem_cons_of_mem _ (List.mem_append_right _ (List.mem_append_right _ (List.mem_append_right _ (List.mem_cons_of_mem _ (List.mem_append_left _ h)))))))))) (fin_r (fun _ h => List.mem_cons_of_mem _ (List.mem_append_right _ (List.mem_append_right _ (List.mem_append_right _ (List.mem_cons_of_mem _ (List.mem_append_right _ (List.mem_append_right _ (List.mem_append_right _ (List.mem_cons_of_mem _ (List.mem_append_right _ (List.mem_append_left _ h))))))))))) (fin_r (fun _ h => List.mem_cons_of_mem _ (List.mem_append_right _ (List.mem_append_right _ (List.mem_append_right _ (List.mem_cons_of_mem _ (List.mem_append_right _ (List.mem_append_right _ (List.mem_append_right _ (List.mem_cons_of_mem _ (List.mem_append_right _ (List.mem_append_right _ (List.mem_append_left _ h)))))))))))) fin_nil)))) rfl) ?_ SWz.no
                  rintro _ ⟨⟨⟩, rfl⟩
                  refine SWz.rdg (i := 24) rfl rfl rfl (hb111) rfl rfl (Rd.str (e := 5) rfl (by kernel_rfl) (by kernel_rfl) (by kernel_rfl) (ins_cons (j := 0) rfl (ins_app (j := 1) rfl (ins_app (j := 2) rfl (ins_app (j := 3) rfl (ins_cons (j := 4) rfl (ins_app (j := 5) rfl (ins_app (j := 6) rfl (ins_app (j := 7) rfl (ins_cons (j := 8) rfl (ins_app (j := 9) rfl (ins_app (j := 10) rfl (ins_app (j := 11) rfl ins_nil))))))))))))) ?_
                  refine SWz.rdg (i := 25) rfl rfl rfl (hb111) rfl rfl (Rd.nes (p := encBook x) (q := encBook y) rfl rfl) ?_
                  refine SWz.rdg (i := 26) rfl rfl rfl (by simp) rfl rfl (Rd.pickY rfl (hb111) rfl) ?_
                  refine SWz.rd (i := 27) rfl rfl (Rd.pickN rfl (by simp) rfl) ?_
                  refine SWz.nil ?_
                  refine SN.then ?_
                  refine SW.condF rfl (by simp [hxy hrg]) ?_
                  refine SW.skip ?_
                  refine SN.then ?_
                  refine SW.seq ?_
                  refine SW.seq ?_
                  refine SW.sub (σ' := St.ob [(0, lsD encA l), (1, bD p), (2, bD b), (7, isD (.pointer (some ⟨g34, 0, none⟩))), (12, isD (.pointer (some ⟨gd, 0, none⟩)))] [.c g34 [isD (.map (s.M.map Prod.fst)), isD (.slice s.n.A (Acc.nm x).length s.n.c), isD (.map (s.M.map Prod.snd))], .r s.n.F (vecT 9 1 encT s.n.A s.n.c (Acc.nm x)), .r s.F1 (mapQ (s.M.map Prod.fst) encS (Acc.nm x) (acD x)), .r s.F2 (mapQ (s.M.map Prod.snd) encSt (Acc.seats x) (seD x)), .c gd [isD (.map (sd.M.map Prod.fst)), isD (.slice sd.n.A (Acc.nm x).length sd.n.c), isD (.map (sd.M.map Prod.snd))], .r sd.n.F (vecT 9 1 encT sd.n.A sd.n.c (Acc.nm x)), .r sd.F1 (mapQ (sd.M.map Prod.fst) encS (Acc.nm x) (acD x)), .r sd.F2 (mapQ (sd.M.map Prod.snd) encSt (Acc.seats x) (seD x))]) (⟨⟨_, rfl, ⟨⟨_, rfl, Le.refl _⟩, ⟨⟨_, rfl, Le.refl _⟩, ⟨⟨_, rfl, Le.refl _⟩, ⟨⟨_, rfl, Le.refl _⟩, ⟨⟨_, rfl, Le.refl _⟩, trivial⟩⟩⟩⟩⟩⟩, [4, 5, 6, 7, 0, 1, 2, 3], by decide, ⟨⟨_, rfl, LeAll.refl _⟩, ⟨⟨_, rfl, LeR.refl _⟩, ⟨⟨_, rfl, LeR.refl _⟩, ⟨⟨_, rfl, LeR.refl _⟩, ⟨⟨_, rfl, LeAll.refl _⟩, ⟨⟨_, rfl, LeR.refl _⟩, ⟨⟨_, rfl, LeR.refl _⟩, ⟨⟨_, rfl, LeR.refl _⟩, trivial⟩⟩⟩⟩⟩⟩⟩⟩⟩) ?_
                  refine SW.region ?_
                  refine SWl.rd rfl (Rd.assign rfl) ?_
                  refine SWl.nil ?_
                  refine SN.then ?_
                  refine SW.block ?_
                  refine SW.loop (ι := {i : Nat // i ≤ l.length}) (fun i => St.ob [(0, lsD encA l), (1, bD p), (2, bD b), (7, isD (.pointer (some ⟨g34, 0, none⟩))), (12, isD (.pointer (some ⟨gd, 0, none⟩))), (14, iD (i.1 : Int))] [.c g34 [isD (.map (s.M.map Prod.fst)), isD (.slice s.n.A (Acc.nm x).length s.n.c), isD (.map (s.M.map Prod.snd))], .r s.n.F (vecT 9 1 encT s.n.A s.n.c (Acc.nm x)), .r s.F1 (mapQ (s.M.map Prod.fst) encS (Acc.nm x) (acD x)), .r s.F2 (mapQ (s.M.map Prod.snd) encSt (Acc.seats x) (seD x)), .c gd [isD (.map (sd.M.map Prod.fst)), isD (.slice sd.n.A (Acc.nm x).length sd.n.c), isD (.map (sd.M.map Prod.snd))], .r sd.n.F (vecT 9 1 encT sd.n.A sd.n.c (Acc.nm x)), .r sd.F1 (mapQ (sd.M.map Prod.fst) encS (Acc.nm x) (acD x)), .r sd.F2 (mapQ (sd.M.map Prod.snd) encSt (Acc.seats x) (seD x))]) (fun i => l.length - i.1) (⟨0, Nat.zero_le _⟩) ?_ ?_
                  · exact ⟨⟨_, rfl, ⟨⟨_, rfl, Le.refl _⟩, ⟨⟨_, rfl, Le.refl _⟩, ⟨⟨_, rfl, Le.refl _⟩, ⟨⟨_, rfl, Le.refl _⟩, ⟨⟨_, rfl, Le.refl _⟩, ⟨⟨_, rfl, Le.refl _⟩, trivial⟩⟩⟩⟩⟩⟩⟩, [0, 1, 2, 3, 4, 5, 6, 7], by decide, ⟨⟨_, rfl, LeAll.refl _⟩, ⟨⟨_, rfl, LeR.refl _⟩, ⟨⟨_, rfl, LeR.refl _⟩, ⟨⟨_, rfl, LeR.refl _⟩, ⟨⟨_, rfl, LeAll.refl _⟩, ⟨⟨_, rfl, LeR.refl _⟩, ⟨⟨_, rfl, LeR.refl _⟩, ⟨⟨_, rfl, LeR.refl _⟩, trivial⟩⟩⟩⟩⟩⟩⟩⟩⟩
                  · rintro ⟨i, hi⟩ K2 hK2
                    dsimp only at hi ⊢
                    refine SW.seq ?_
                    refine SW.seq ?_
                    refine SW.region ?_
                    refine SWl.rd rfl (Rd.move rfl) ?_
                    refine SWl.rd rfl (Rd.move rfl) ?_
                    refine SWl.rd rfl (Rd.lenR (e := 33) rfl (by kernel_rfl)) ?_
                    refine SWl.rd rfl (Rd.lss rfl rfl) ?_
                    refine SWl.nil ?_
                    refine SN.then ?_
                    refine SW.cond rfl (fun hb124 => ?_) (fun hb124 => ?_)
                    · have hb124 := of_decide_eq_true hb124
                      refine SW.skip ?_
                      refine SN.then ?_
                      refine SW.seq ?_
                      refine SW.block ?_
                      refine SW.seq ?_
                      obtain ⟨ac, ha⟩ : ∃ ac, l[i]? = some ac := ⟨_, List.getElem?_eq_getElem (by omega)⟩
                      refine SW.region ?_
                      refine SWl.rd rfl (Rd.move rfl) ?_
                      refine SWl.rd rfl (Rd.move rfl) ?_
                      refine SWl.rd rfl (Rd.move rfl) ?_
                      refine SWl.rd rfl (Rd.idxL (e := 33) 5 rfl rfl (by kernel_rfl) (by kernel_rfl) (by omega) (by simpa using ha)) ?_
                      refine SWl.rd rfl (Rd.fieldR (n := 0) rfl (by kernel_rfl) (show 0 < 5 by decide)) ?_
                      refine SWl.rd rfl (Rd.loadR rfl rfl (by kernel_rfl) (by simp)) ?_
                      refine SWl.rd rfl (Rd.move rfl) ?_
                      refine SWl.ef (Ef.callR [0, 1, 2, 3] (con_tag g34 s x ac.name p hf (by omega)) rfl ⟨Le.refl _, Le.refl _, Le.refl _, trivial⟩ (by decide) ⟨⟨_, rfl, LeAll.refl _⟩, ⟨⟨_, rfl, LeR.refl _⟩, ⟨⟨_, rfl, LeR.refl _⟩, ⟨⟨_, rfl, LeR.refl _⟩, trivial⟩⟩⟩⟩ (fun _ h => h) rfl) ?_
                      rintro _ ⟨⟨⟩, rfl⟩
                      refine SWl.rd rfl (Rd.move rfl) ?_
                      refine SWl.rd rfl (Rd.extract rfl rfl) ?_
                      refine SWl.rd rfl (Rd.extract rfl rfl) ?_
                      refine SWl.rd rfl (Rd.assign rfl) ?_
                      refine SWl.rd rfl (Rd.assign rfl) ?_
                      refine SWl.nil ?_
                      refine SN.then ?_
                      refine SW.seq ?_
                      refine SW.region ?_
                      refine SWl.rd rfl (Rd.move rfl) ?_
                      refine SWl.rd rfl (Rd.eqi rfl rfl) ?_
                      refine SWl.rd rfl (Rd.move rfl) ?_
                      refine SWl.split 140 rfl (fun hb140 => ?_) (fun hb140 => ?_)
                      · have h140 : Acc.tagE x ac.name p = 0 := by simpa using hb140
                        refine SWl.rdg rfl rfl (hb140) rfl rfl (Rd.move rfl) ?_
                        refine SWl.rdg rfl rfl (hb140) rfl rfl (Rd.move rfl) ?_
                        refine SWl.rdg rfl rfl (hb140) rfl rfl (Rd.move rfl) ?_
                        refine SWl.rdg rfl rfl (hb140) rfl rfl (Rd.idxL (e := 33) 5 rfl rfl (by kernel_rfl) (by kernel_rfl) (by omega) (by simpa using ha)) ?_
                        refine SWl.rdg rfl rfl (hb140) rfl rfl (Rd.fieldR (n := 0) rfl (by kernel_rfl) (show 0 < 5 by decide)) ?_
                        refine SWl.rdg rfl rfl (hb140) rfl rfl (Rd.loadR rfl rfl (by kernel_rfl) (by simp)) ?_
                        refine SWl.rdg rfl rfl (hb140) rfl rfl (Rd.move rfl) ?_
                        refine SWl.rdg rfl rfl (hb140) rfl rfl (Rd.move rfl) ?_
                        refine SWl.efg rfl rfl (hb140) rfl (Ef.callR [4, 5, 6, 7] (con_verify g34 s x ac.name p (Acc.tagT x ac.name p) hf (by omega)) rfl ⟨Le.refl _, Le.refl _, Le.refl _, Le.refl _, trivial⟩ (by decide) ⟨⟨_, rfl, LeAll.refl _⟩, ⟨⟨_, rfl, LeR.refl _⟩, ⟨⟨_, rfl, LeR.refl _⟩, ⟨⟨_, rfl, LeR.refl _⟩, trivial⟩⟩⟩⟩ (fun _ h => h) rfl) ?_
                        rintro _ ⟨⟨⟩, rfl⟩
                        refine SWl.rdg rfl rfl (hb140) rfl rfl (Rd.nei rfl rfl) ?_
                        refine SWl.rdg rfl rfl (hb140) rfl rfl (Rd.move rfl) ?_
                        refine SWl.rdg rfl rfl (by simp [Acc.verE, Acc.ver, h140]) rfl rfl (Rd.move rfl) ?_
                        refine SWl.rdg rfl rfl (by simp [Acc.verE, Acc.ver, h140]) rfl rfl (Rd.move rfl) ?_
                        refine SWl.rdg rfl rfl (by simp [Acc.verE, Acc.ver, h140]) rfl rfl (Rd.move rfl) ?_
                        refine SWl.rdg rfl rfl (by simp [Acc.verE, Acc.ver, h140]) rfl rfl (Rd.idxL (e := 33) 5 rfl rfl (by kernel_rfl) (by kernel_rfl) (by omega) (by simpa using ha)) ?_
                        refine SWl.rdg rfl rfl (by simp [Acc.verE, Acc.ver, h140]) rfl rfl (Rd.fieldR (n := 0) rfl (by kernel_rfl) (show 0 < 5 by decide)) ?_
                        refine SWl.rdg rfl rfl (by simp [Acc.verE, Acc.ver, h140]) rfl rfl (Rd.loadR rfl rfl (by kernel_rfl) (by simp)) ?_
                        refine SWl.rdg rfl rfl (by simp [Acc.verE, Acc.ver, h140]) rfl rfl (Rd.move rfl) ?_
                        refine SWl.rdg rfl rfl (by simp [Acc.verE, Acc.ver, h140]) rfl rfl (Rd.move rfl) ?_
                        refine SWl.efg rfl rfl (by simp [Acc.verE, Acc.ver, h140]) rfl (Ef.callR [0, 1, 2, 3] (con_verify gd sd x ac.name p (Acc.tagT x ac.name p) hf (by omega)) rfl ⟨Le.refl _, Le.refl _, Le.refl _, Le.refl _, trivial⟩ (by decide) ⟨⟨_, rfl, LeAll.refl _⟩, ⟨⟨_, rfl, LeR.refl _⟩, ⟨⟨_, rfl, LeR.refl _⟩, ⟨⟨_, rfl, LeR.refl _⟩, trivial⟩⟩⟩⟩ (fun _ h => h) rfl) ?_
                        rintro _ ⟨⟨⟩, rfl⟩
                        refine SWl.rdg rfl rfl (by simp [Acc.verE, Acc.ver, h140]) rfl rfl (Rd.nei rfl rfl) ?_
                        refine SWl.rdg rfl rfl (hb140) rfl rfl (Rd.pickN rfl (by simp [Acc.verE, Acc.ver, h140]) rfl) ?_
                        refine SWl.rd rfl (Rd.pickY rfl (hb140) rfl) ?_
                        refine SWl.nil ?_
                        refine SN.then ?_
                        refine SW.condF rfl (by simp [Acc.verE, Acc.ver, h140]) ?_
                        refine SW.skip ?_
                        refine SN.block ?_
                        refine SN.then ?_
                        refine SW.region ?_
                        refine SWl.rd rfl (Rd.move rfl) ?_
                        refine SWl.rd rfl (Rd.add rfl rfl ⟨by omega, by omega⟩) ?_
                        refine SWl.rd rfl (Rd.assign rfl) ?_
                        refine SWl.nil ?_
                        exact fun a w hh => hK2 (⟨i + 1, by omega⟩) (by dsimp only; omega) a w (hh.sub (⟨⟨_, rfl, ⟨⟨_, rfl, Le.refl _⟩, ⟨⟨_, rfl, Le.refl _⟩, ⟨⟨_, rfl, Le.refl _⟩, ⟨⟨_, rfl, Le.refl _⟩, ⟨⟨_, rfl, Le.refl _⟩, ⟨⟨_, rfl, Le.is (by simp)⟩, trivial⟩⟩⟩⟩⟩⟩⟩, [0, 1, 2, 3, 4, 5, 6, 7], by decide, ⟨⟨_, rfl, LeAll.refl _⟩, ⟨⟨_, rfl, LeR.refl _⟩, ⟨⟨_, rfl, LeR.refl _⟩, ⟨⟨_, rfl, LeR.refl _⟩, ⟨⟨_, rfl, LeAll.refl _⟩, ⟨⟨_, rfl, LeR.refl _⟩, ⟨⟨_, rfl, LeR.refl _⟩, ⟨⟨_, rfl, LeR.refl _⟩, trivial⟩⟩⟩⟩⟩⟩⟩⟩⟩))
                      · skip
                        refine SWl.off rfl rfl (hb140) rfl rfl ?_
                        refine SWl.off rfl rfl (hb140) rfl rfl ?_
                        refine SWl.off rfl rfl (hb140) rfl rfl ?_
                        refine SWl.off rfl rfl (hb140) rfl rfl ?_
                        refine SWl.off rfl rfl (hb140) rfl rfl ?_
                        refine SWl.off rfl rfl (hb140) rfl rfl ?_
                        refine SWl.off rfl rfl (hb140) rfl rfl ?_
                        refine SWl.off rfl rfl (hb140) rfl rfl ?_
                        refine SWl.off rfl rfl (hb140) rfl rfl ?_
                        refine SWl.off rfl rfl (hb140) rfl rfl ?_
                        refine SWl.off rfl rfl (hb140) rfl rfl ?_
                        refine SWl.offu rfl rfl rfl rfl ?_
                        refine SWl.offu rfl rfl rfl rfl ?_
                        refine SWl.offu rfl rfl rfl rfl ?_
                        refine SWl.offu rfl rfl rfl rfl ?_
                        refine SWl.offu rfl rfl rfl rfl ?_
                        refine SWl.offu rfl rfl rfl rfl ?_
                        refine SWl.offu rfl rfl rfl rfl ?_
                        refine SWl.offu rfl rfl rfl rfl ?_
                        refine SWl.offu rfl rfl rfl rfl ?_
                        refine SWl.offu rfl rfl rfl rfl ?_
                        refine SWl.off rfl rfl (hb140) rfl rfl ?_
                        refine SWl.rd rfl (Rd.pickN rfl (hb140) rfl) ?_
                        refine SWl.nil ?_
                        refine SN.then ?_
                        refine SW.condF rfl (rfl) ?_
                        refine SW.skip ?_
                        refine SN.block ?_
                        refine SN.then ?_
                        refine SW.region ?_
                        refine SWl.rd rfl (Rd.move rfl) ?_
                        refine SWl.rd rfl (Rd.add rfl rfl ⟨by omega, by omega⟩) ?_
                        refine SWl.rd rfl (Rd.assign rfl) ?_
                        refine SWl.nil ?_
                        exact fun a w hh => hK2 (⟨i + 1, by omega⟩) (by dsimp only; omega) a w (hh.sub (⟨⟨_, rfl, ⟨⟨_, rfl, Le.refl _⟩, ⟨⟨_, rfl, Le.refl _⟩, ⟨⟨_, rfl, Le.refl _⟩, ⟨⟨_, rfl, Le.refl _⟩, ⟨⟨_, rfl, Le.refl _⟩, ⟨⟨_, rfl, Le.is (by simp)⟩, trivial⟩⟩⟩⟩⟩⟩⟩, [4, 5, 6, 7, 0, 1, 2, 3], by decide, ⟨⟨_, rfl, LeAll.refl _⟩, ⟨⟨_, rfl, LeR.refl _⟩, ⟨⟨_, rfl, LeR.refl _⟩, ⟨⟨_, rfl, LeR.refl _⟩, ⟨⟨_, rfl, LeAll.refl _⟩, ⟨⟨_, rfl, LeR.refl _⟩, ⟨⟨_, rfl, LeR.refl _⟩, ⟨⟨_, rfl, LeR.refl _⟩, trivial⟩⟩⟩⟩⟩⟩⟩⟩⟩))
                    · skip
                      refine SW.exit' ?_
                      repeat (first | refine SE.then ?_ | refine SE.skip (by decide) ?_)
                      refine SE.here ?_
                      refine SN.then ?_
                      refine SW.seq ?_
                      rcases hres : decB b with E | L
                      · have hE := decB_ne hres
                        refine SW.sub (σ' := St.ob [(2, bD b)] []) (⟨⟨_, rfl, ⟨⟨_, rfl, Le.refl _⟩, trivial⟩⟩, [], by decide, trivial⟩) ?_
                        refine SW.region ?_
                        refine SWl.rd rfl (Rd.move rfl) ?_
                        refine SWl.ef (S := []) (Ef.callR [] (con_decodeB_bad b (by omega) E hres) rfl ⟨Le.refl _, trivial⟩ (by decide) trivial (fun _ h => h) rfl) ?_
                        rintro _ ⟨⟨gq, sq⟩, rfl⟩
                        refine SWl.rd rfl (Rd.move rfl) ?_
                        refine SWl.rd rfl (Rd.extract rfl rfl) ?_
                        refine SWl.rd rfl (Rd.extract rfl rfl) ?_
                        refine SWl.rd rfl (Rd.assign rfl) ?_
                        refine SWl.rd rfl (Rd.assign rfl) ?_
                        refine SWl.nil ?_
                        refine SN.then ?_
                        refine SW.seq ?_
                        refine SW.sub (σ' := St.ob [(2, bD b), (17, isD (.pointer none)), (18, iD E)] []) (⟨⟨_, rfl, ⟨⟨_, rfl, Le.refl _⟩, ⟨⟨_, rfl, Le.refl _⟩, ⟨⟨_, rfl, Le.refl _⟩, trivial⟩⟩⟩⟩, [], by decide, trivial⟩) ?_
                        refine SW.draw [] (.r 0 (.r 1 (.r 2 (.r 3 (.r 4 (.r 5 (.r 6 (.r 7 (.r 8 (.r 9 (.r 10 (.r 11 (.r 12 (.r 13 (.r 14 (.r 17 (.r 18 (.e 15 (.r 16 (.r 19 (.r 20 (.r 21 (.r 22 (.n 23 (.r 24 (.r 25 .fin)) .no)))))) .no)))))))))))))))))) (by kernel_rfl) (by kernel_rfl) (fun d _ _ _ _ h => by cases d <;> exact h) ?_
                        refine SWz.rd (i := 0) rfl rfl (Rd.move rfl) ?_
                        refine SWz.rd (i := 1) rfl rfl (Rd.nei rfl rfl) ?_
                        refine SWz.rd (i := 2) rfl rfl (Rd.move rfl) ?_
                        refine SWz.rdg (i := 3) rfl rfl rfl (by simp [hE]) rfl rfl (Rd.move rfl) ?_
                        refine SWz.rdg (i := 4) rfl rfl rfl (by simp [hE]) rfl rfl (Rd.eqP rfl rfl (by kernel_rfl)) ?_
                        refine SWz.rd (i := 5) rfl rfl (Rd.pickY rfl (by simp [hE]) rfl) ?_
                        refine SWz.rd (i := 6) rfl rfl (Rd.move rfl) ?_
                        refine SWz.off (i := 7) rfl rfl rfl (rfl) rfl rfl ?_
                        refine SWz.off (i := 8) rfl rfl rfl (rfl) rfl rfl ?_
                        refine SWz.off (i := 9) rfl rfl rfl (rfl) rfl rfl ?_
                        refine SWz.offu (i := 10) rfl rfl rfl rfl rfl ?_
                        refine SWz.offu (i := 11) rfl rfl rfl rfl rfl ?_
                        refine SWz.off (i := 12) rfl rfl rfl (rfl) rfl rfl ?_
                        refine SWz.off (i := 13) rfl rfl rfl (rfl) rfl rfl ?_
                        refine SWz.offu (i := 14) rfl rfl rfl rfl rfl ?_
                        refine SWz.offu (i := 17) rfl rfl rfl rfl rfl ?_
                        refine SWz.offu (i := 18) rfl rfl rfl rfl rfl ?_
                        refine SWz.offeu (i := 15) rfl rfl rfl rfl rfl ?_ SWz.no
                        refine SWz.offu (i := 16) rfl rfl rfl rfl rfl ?_
                        refine SWz.offu (i := 19) rfl rfl rfl rfl rfl ?_
                        refine SWz.off (i := 20) rfl rfl rfl (rfl) rfl rfl ?_
                        refine SWz.rd (i := 21) rfl rfl (Rd.pickY rfl (rfl) rfl) ?_
                        refine SWz.rd (i := 22) rfl rfl (Rd.move rfl) ?_
                        refine SWz.efng (i := 23) rfl rfl rfl (rfl) rfl (Ef.callN [] (con_known41) rfl trivial rfl) ?_ SWz.no
                        rintro _ rfl
                        refine SWz.rd (i := 24) rfl rfl (Rd.pickY rfl (rfl) rfl) ?_
                        refine SWz.rd (i := 25) rfl rfl (Rd.assign rfl) ?_
                        refine SWz.nil ?_
                        refine SN.then ?_
                        refine SW.ret (fn := Tryd.f3) (fun _ _ h => h) (Rs.le (Rs.one rfl (ResV.tmp rfl)) ?_)
                        exact le_bool_n rfl
                      · skip
                        refine SW.sub (σ' := St.ob [(2, bD b)] []) (⟨⟨_, rfl, ⟨⟨_, rfl, Le.refl _⟩, trivial⟩⟩, [], by decide, trivial⟩) ?_
                        refine SW.region ?_
                        refine SWl.rd rfl (Rd.move rfl) ?_
                        refine SWl.ef (S := []) (Ef.callR [] (con_decodeB_ok b (by omega) L hres) rfl ⟨Le.refl _, trivial⟩ (by decide) trivial (fun _ h => h) rfl) ?_
                        rintro _ ⟨⟨gq, sq⟩, rfl⟩
                        refine SWl.rd rfl (Rd.move rfl) ?_
                        refine SWl.rd rfl (Rd.extract rfl rfl) ?_
                        refine SWl.rd rfl (Rd.extract rfl rfl) ?_
                        refine SWl.rd rfl (Rd.assign rfl) ?_
                        refine SWl.rd rfl (Rd.assign rfl) ?_
                        refine SWl.nil ?_
                        refine SN.then ?_
                        refine SW.seq ?_
                        refine SW.sub (σ' := St.ob [(2, bD b), (17, isD (.pointer (some ⟨gq, 0, none⟩))), (18, iD 0)] [.c gq [isD (.map (sq.M.map Prod.fst)), isD (.slice sq.n.A (Acc.nm L).length sq.n.c), isD (.map (sq.M.map Prod.snd))], .r sq.n.F (vecT 9 1 encT sq.n.A sq.n.c (Acc.nm L)), .r sq.F1 (mapQ (sq.M.map Prod.fst) encS (Acc.nm L) (acD L)), .r sq.F2 (mapQ (sq.M.map Prod.snd) encSt (Acc.seats L) (seD L))]) (⟨⟨_, rfl, ⟨⟨_, rfl, Le.refl _⟩, ⟨⟨_, rfl, Le.refl _⟩, ⟨⟨_, rfl, Le.refl _⟩, trivial⟩⟩⟩⟩, [0, 1, 2, 3], by decide, ⟨⟨_, rfl, LeAll.refl _⟩, ⟨⟨_, rfl, LeR.refl _⟩, ⟨⟨_, rfl, LeR.refl _⟩, ⟨⟨_, rfl, LeR.refl _⟩, trivial⟩⟩⟩⟩⟩) ?_
                        refine SW.draw (gq :: (sq.n.F ++ (sq.F1 ++ (sq.F2 ++ [])))) (.r 0 (.r 1 (.r 2 (.r 3 (.r 4 (.r 5 (.r 6 (.r 7 (.r 8 (.r 9 (.r 10 (.r 11 (.r 12 (.r 13 (.r 14 (.r 17 (.r 18 (.e 15 (.r 16 (.r 19 (.r 20 (.r 21 (.r 22 (.n 23 (.r 24 (.r 25 .fin)) .no)))))) .no)))))))))))))))))) (by kernel_rfl) (by kernel_rfl) (fun d _ _ _ _ h => by cases d <;> exact h) ?_
                        refine SWz.rd (i := 0) rfl rfl (Rd.move rfl) ?_
                        refine SWz.rd (i := 1) rfl rfl (Rd.nei rfl rfl) ?_
                        refine SWz.rd (i := 2) rfl rfl (Rd.move rfl) ?_
                        refine SWz.off (i := 3) rfl rfl rfl (by simp) rfl rfl ?_
                        refine SWz.off (i := 4) rfl rfl rfl (by simp) rfl rfl ?_
                        refine SWz.rd (i := 5) rfl rfl (Rd.pickN rfl (by simp) rfl) ?_
                        refine SWz.rd (i := 6) rfl rfl (Rd.move rfl) ?_
                        refine SWz.rdg (i := 7) rfl rfl rfl (rfl) rfl rfl (Rd.move rfl) ?_
                        refine SWz.rdg (i := 8) rfl rfl rfl (rfl) rfl rfl (Rd.eqi rfl rfl) ?_
                        refine SWz.rdg (i := 9) rfl rfl rfl (rfl) rfl rfl (Rd.move rfl) ?_
                        refine SWz.rdg (i := 10) rfl rfl rfl (by decide) rfl rfl (Rd.move rfl) ?_
                        refine SWz.rdg (i := 11) rfl rfl rfl (by decide) rfl rfl (Rd.neP rfl rfl (by kernel_rfl)) ?_
                        refine SWz.rdg (i := 12) rfl rfl rfl (rfl) rfl rfl (Rd.pickY rfl (by decide) rfl) ?_
                        refine SWz.rdg (i := 13) rfl rfl rfl (rfl) rfl rfl (Rd.move rfl) ?_
                        refine SWz.rdg (i := 14) rfl rfl rfl (rfl) rfl rfl (Rd.move rfl) ?_
                        refine SWz.rdg (i := 17) rfl rfl rfl (rfl) rfl rfl (Rd.move rfl) ?_
                        refine SWz.rdg (i := 18) rfl rfl rfl (rfl) rfl rfl (Rd.str (e := 5) rfl (by kernel_rfl) (by kernel_rfl) (by kernel_rfl) (ins_cons (j := 0) rfl (ins_app (j := 1) rfl (ins_app (j := 2) rfl (ins_app (j := 3) rfl ins_nil))))) ?_
                        refine SWz.efeg (i := 15) rfl rfl rfl (rfl) rfl (Ef.callR [0, 1, 2, 3] (con_encodeB gq sq L (decB_fine hres)) rfl ⟨Le.refl _, trivial⟩ (by decide) ⟨⟨_, rfl, LeAll.refl _⟩, ⟨⟨_, rfl, LeR.refl _⟩, ⟨⟨_, rfl, LeR.refl _⟩, ⟨⟨_, rfl, LeR.refl _⟩, trivial⟩⟩⟩⟩ (fun _ h => h) rfl) ?_ SWz.no
                        rintro _ ⟨⟨⟩, rfl⟩
                        refine SWz.rdg (i := 16) rfl rfl rfl (rfl) rfl rfl (Rd.str (e := 5) rfl (by kernel_rfl) (by kernel_rfl) (by kernel_rfl) (ins_cons (j := 0) rfl (ins_app (j := 1) rfl (ins_app (j := 2) rfl (ins_app (j := 3) rfl ins_nil))))) ?_
                        refine SWz.rdg (i := 19) rfl rfl rfl (rfl) rfl rfl (Rd.eqs (p := encBook L) (q := b) rfl rfl) ?_
                        refine SWz.rdg (i := 20) rfl rfl rfl (rfl) rfl rfl (Rd.pickY rfl (rfl) rfl) ?_
                        refine SWz.rd (i := 21) rfl rfl (Rd.pickN rfl (rfl) rfl) ?_
                        refine SWz.rd (i := 22) rfl rfl (Rd.move rfl) ?_
                        refine SWz.efng (i := 23) rfl rfl rfl (by simp [decB_inv hres]) rfl (Ef.callN [] (con_known41) rfl trivial rfl) ?_ SWz.no
                        rintro _ rfl
                        refine SWz.rd (i := 24) rfl rfl (Rd.pickY rfl (by simp [decB_inv hres]) rfl) ?_
                        refine SWz.rd (i := 25) rfl rfl (Rd.assign rfl) ?_
                        refine SWz.nil ?_
                        refine SN.then ?_
                        refine SW.ret (fn := Tryd.f3) (fun _ _ h => h) (Rs.le (Rs.one rfl (ResV.tmp rfl)) ?_)
                        exact le_bool_n rfl
                · skip
                  refine SWz.off (i := 19) rfl rfl rfl (hb111) rfl rfl ?_
                  refine SWz.off (i := 22) rfl rfl rfl (hb111) rfl rfl ?_
                  refine SWz.offe (i := 20) rfl rfl rfl (hb111) rfl rfl ?_ SWz.no
                  refine SWz.off (i := 21) rfl rfl rfl (hb111) rfl rfl ?_
                  refine SWz.offe (i := 23) rfl rfl rfl (hb111) rfl rfl ?_ SWz.no
                  refine SWz.off (i := 24) rfl rfl rfl (hb111) rfl rfl ?_
                  refine SWz.off (i := 25) rfl rfl rfl (hb111) rfl rfl ?_
                  refine SWz.rdg (i := 26) rfl rfl rfl (by simp) rfl rfl (Rd.pickN rfl (hb111) rfl) ?_
                  refine SWz.rd (i := 27) rfl rfl (Rd.pickN rfl (by simp) rfl) ?_
                  refine SWz.nil ?_
                  refine SN.then ?_
                  refine SW.condF rfl (rfl) ?_
                  refine SW.skip ?_
                  refine SN.then ?_
                  refine SW.seq ?_
                  refine SW.seq ?_
                  refine SW.sub (σ' := St.ob [(0, lsD encA l), (1, bD p), (2, bD b), (7, isD (.pointer (some ⟨g34, 0, none⟩))), (12, isD (.pointer (some ⟨gd, 0, none⟩)))] [.c g34 [isD (.map (s.M.map Prod.fst)), isD (.slice s.n.A (Acc.nm x).length s.n.c), isD (.map (s.M.map Prod.snd))], .r s.n.F (vecT 9 1 encT s.n.A s.n.c (Acc.nm x)), .r s.F1 (mapQ (s.M.map Prod.fst) encS (Acc.nm x) (acD x)), .r s.F2 (mapQ (s.M.map Prod.snd) encSt (Acc.seats x) (seD x)), .c gd [isD (.map (sd.M.map Prod.fst)), isD (.slice sd.n.A (Acc.nm x).length sd.n.c), isD (.map (sd.M.map Prod.snd))], .r sd.n.F (vecT 9 1 encT sd.n.A sd.n.c (Acc.nm x)), .r sd.F1 (mapQ (sd.M.map Prod.fst) encS (Acc.nm x) (acD x)), .r sd.F2 (mapQ (sd.M.map Prod.snd) encSt (Acc.seats x) (seD x))]) (⟨⟨_, rfl, ⟨⟨_, rfl, Le.refl _⟩, ⟨⟨_, rfl, Le.refl _⟩, ⟨⟨_, rfl, Le.refl _⟩, ⟨⟨_, rfl, Le.refl _⟩, ⟨⟨_, rfl, Le.refl _⟩, trivial⟩⟩⟩⟩⟩⟩, [8, 9, 10, 11, 4, 5, 6, 7], by decide, ⟨⟨_, rfl, LeAll.refl _⟩, ⟨⟨_, rfl, LeR.refl _⟩, ⟨⟨_, rfl, LeR.refl _⟩, ⟨⟨_, rfl, LeR.refl _⟩, ⟨⟨_, rfl, LeAll.refl _⟩, ⟨⟨_, rfl, LeR.refl _⟩, ⟨⟨_, rfl, LeR.refl _⟩, ⟨⟨_, rfl, LeR.refl _⟩, trivial⟩⟩⟩⟩⟩⟩⟩⟩⟩) ?_
                  refine SW.region ?_
                  refine SWl.rd rfl (Rd.assign rfl) ?_
                  refine SWl.nil ?_
                  refine SN.then ?_
                  refine SW.block ?_
                  refine SW.loop (ι := {i : Nat // i ≤ l.length}) (fun i => St.ob [(0, lsD encA l), (1, bD p), (2, bD b), (7, isD (.pointer (some ⟨g34, 0, none⟩))), (12, isD (.pointer (some ⟨gd, 0, none⟩))), (14, iD (i.1 : Int))] [.c g34 [isD (.map (s.M.map Prod.fst)), isD (.slice s.n.A (Acc.nm x).length s.n.c), isD (.map (s.M.map Prod.snd))], .r s.n.F (vecT 9 1 encT s.n.A s.n.c (Acc.nm x)), .r s.F1 (mapQ (s.M.map Prod.fst) encS (Acc.nm x) (acD x)), .r s.F2 (mapQ (s.M.map Prod.snd) encSt (Acc.seats x) (seD x)), .c gd [isD (.map (sd.M.map Prod.fst)), isD (.slice sd.n.A (Acc.nm x).length sd.n.c), isD (.map (sd.M.map Prod.snd))], .r sd.n.F (vecT 9 1 encT sd.n.A sd.n.c (Acc.nm x)), .r sd.F1 (mapQ (sd.M.map Prod.fst) encS (Acc.nm x) (acD x)), .r sd.F2 (mapQ (sd.M.map Prod.snd) encSt (Acc.seats x) (seD x))]) (fun i => l.length - i.1) (⟨0, Nat.zero_le _⟩) ?_ ?_
                  · exact ⟨⟨_, rfl, ⟨⟨_, rfl, Le.refl _⟩, ⟨⟨_, rfl, Le.refl _⟩, ⟨⟨_, rfl, Le.refl _⟩, ⟨⟨_, rfl, Le.refl _⟩, ⟨⟨_, rfl, Le.refl _⟩, ⟨⟨_, rfl, Le.refl _⟩, trivial⟩⟩⟩⟩⟩⟩⟩, [0, 1, 2, 3, 4, 5, 6, 7], by decide, ⟨⟨_, rfl, LeAll.refl _⟩, ⟨⟨_, rfl, LeR.refl _⟩, ⟨⟨_, rfl, LeR.refl _⟩, ⟨⟨_, rfl, LeR.refl _⟩, ⟨⟨_, rfl, LeAll.refl _⟩, ⟨⟨_, rfl, LeR.refl _⟩, ⟨⟨_, rfl, LeR.refl _⟩, ⟨⟨_, rfl, LeR.refl _⟩, trivial⟩⟩⟩⟩⟩⟩⟩⟩⟩
                  · rintro ⟨i, hi⟩ K2 hK2
                    dsimp only at hi ⊢
                    refine SW.seq ?_
                    refine SW.seq ?_
                    refine SW.region ?_
                    refine SWl.rd rfl (Rd.move rfl) ?_
                    refine SWl.rd rfl (Rd.move rfl) ?_
                    refine SWl.rd rfl (Rd.lenR (e := 33) rfl (by kernel_rfl)) ?_
                    refine SWl.rd rfl (Rd.lss rfl rfl) ?_
                    refine SWl.nil ?_
                    refine SN.then ?_
                    refine SW.cond rfl (fun hb124 => ?_) (fun hb124 => ?_)
                    · have hb124 := of_decide_eq_true hb124
                      refine SW.skip ?_
                      refine SN.then ?_
                      refine SW.seq ?_
                      refine SW.block ?_
                      refine SW.seq ?_
                      obtain ⟨ac, ha⟩ : ∃ ac, l[i]? = some ac := ⟨_, List.getElem?_eq_getElem (by omega)⟩
                      refine SW.region ?_
                      refine SWl.rd rfl (Rd.move rfl) ?_
                      refine SWl.rd rfl (Rd.move rfl) ?_
                      refine SWl.rd rfl (Rd.move rfl) ?_
                      refine SWl.rd rfl (Rd.idxL (e := 33) 5 rfl rfl (by kernel_rfl) (by kernel_rfl) (by omega) (by simpa using ha)) ?_
                      refine SWl.rd rfl (Rd.fieldR (n := 0) rfl (by kernel_rfl) (show 0 < 5 by decide)) ?_
                      refine SWl.rd rfl (Rd.loadR rfl rfl (by kernel_rfl) (by simp)) ?_
                      refine SWl.rd rfl (Rd.move rfl) ?_
                      refine SWl.ef (Ef.callR [0, 1, 2, 3] (con_tag g34 s x ac.name p hf (by omega)) rfl ⟨Le.refl _, Le.refl _, Le.refl _, trivial⟩ (by decide) ⟨⟨_, rfl, LeAll.refl _⟩, ⟨⟨_, rfl, LeR.refl _⟩, ⟨⟨_, rfl, LeR.refl _⟩, ⟨⟨_, rfl, LeR.refl _⟩, trivial⟩⟩⟩⟩ (fun _ h => h) rfl) ?_
                      rintro _ ⟨⟨⟩, rfl⟩
                      refine SWl.rd rfl (Rd.move rfl) ?_
                      refine SWl.rd rfl (Rd.extract rfl rfl) ?_
                      refine SWl.rd rfl (Rd.extract rfl rfl) ?_
                      refine SWl.rd rfl (Rd.assign rfl) ?_
                      refine SWl.rd rfl (Rd.assign rfl) ?_
                      refine SWl.nil ?_
                      refine SN.then ?_
                      refine SW.seq ?_
                      refine SW.region ?_
                      refine SWl.rd rfl (Rd.move rfl) ?_
                      refine SWl.rd rfl (Rd.eqi rfl rfl) ?_
                      refine SWl.rd rfl (Rd.move rfl) ?_
                      refine SWl.split 140 rfl (fun hb140 => ?_) (fun hb140 => ?_)
                      · have h140 : Acc.tagE x ac.name p = 0 := by simpa using hb140
                        refine SWl.rdg rfl rfl (hb140) rfl rfl (Rd.move rfl) ?_
                        refine SWl.rdg rfl rfl (hb140) rfl rfl (Rd.move rfl) ?_
                        refine SWl.rdg rfl rfl (hb140) rfl rfl (Rd.move rfl) ?_
                        refine SWl.rdg rfl rfl (hb140) rfl rfl (Rd.idxL (e := 33) 5 rfl rfl (by kernel_rfl) (by kernel_rfl) (by omega) (by simpa using ha)) ?_
                        refine SWl.rdg rfl rfl (hb140) rfl rfl (Rd.fieldR (n := 0) rfl (by kernel_rfl) (show 0 < 5 by decide)) ?_
                        refine SWl.rdg rfl rfl (hb140) rfl rfl (Rd.loadR rfl rfl (by kernel_rfl) (by simp)) ?_
                        refine SWl.rdg rfl rfl (hb140) rfl rfl (Rd.move rfl) ?_
                        refine SWl.rdg rfl rfl (hb140) rfl rfl (Rd.move rfl) ?_
                        refine SWl.efg rfl rfl (hb140) rfl (Ef.callR [4, 5, 6, 7] (con_verify g34 s x ac.name p (Acc.tagT x ac.name p) hf (by omega)) rfl ⟨Le.refl _, Le.refl _, Le.refl _, Le.refl _, trivial⟩ (by decide) ⟨⟨_, rfl, LeAll.refl _⟩, ⟨⟨_, rfl, LeR.refl _⟩, ⟨⟨_, rfl, LeR.refl _⟩, ⟨⟨_, rfl, LeR.refl _⟩, trivial⟩⟩⟩⟩ (fun _ h => h) rfl) ?_
                        rintro _ ⟨⟨⟩, rfl⟩
                        refine SWl.rdg rfl rfl (hb140) rfl rfl (Rd.nei rfl rfl) ?_
                        refine SWl.rdg rfl rfl (hb140) rfl rfl (Rd.move rfl) ?_
                        refine SWl.rdg rfl rfl (by simp [Acc.verE, Acc.ver, h140]) rfl rfl (Rd.move rfl) ?_
                        refine SWl.rdg rfl rfl (by simp [Acc.verE, Acc.ver, h140]) rfl rfl (Rd.move rfl) ?_
                        refine SWl.rdg rfl rfl (by simp [Acc.verE, Acc.ver, h140]) rfl rfl (Rd.move rfl) ?_
                        refine SWl.rdg rfl rfl (by simp [Acc.verE, Acc.ver, h140]) rfl rfl (Rd.idxL (e := 33) 5 rfl rfl (by kernel_rfl) (by kernel_rfl) (by omega) (by simpa using ha)) ?_
                        refine SWl.rdg rfl rfl (by simp [Acc.verE, Acc.ver, h140]) rfl rfl (Rd.fieldR (n := 0) rfl (by kernel_rfl) (show 0 < 5 by decide)) ?_
                        refine SWl.rdg rfl rfl (by simp [Acc.verE, Acc.ver, h140]) rfl rfl (Rd.loadR rfl rfl (by kernel_rfl) (by simp)) ?_
                        refine SWl.rdg rfl rfl (by simp [Acc.verE, Acc.ver, h140]) rfl rfl (Rd.move rfl) ?_
                        refine SWl.rdg rfl rfl (by simp [Acc.verE, Acc.ver, h140]) rfl rfl (Rd.move rfl) ?_
                        refine SWl.efg rfl rfl (by simp [Acc.verE, Acc.ver, h140]) rfl (Ef.callR [0, 1, 2, 3] (con_verify gd sd x ac.name p (Acc.tagT x ac.name p) hf (by omega)) rfl ⟨Le.refl _, Le.refl _, Le.refl _, Le.refl _, trivial⟩ (by decide) ⟨⟨_, rfl, LeAll.refl _⟩, ⟨⟨_, rfl, LeR.refl _⟩, ⟨⟨_, rfl, LeR.refl _⟩, ⟨⟨_, rfl, LeR.refl _⟩, trivial⟩⟩⟩⟩ (fun _ h => h) rfl) ?_
                        rintro _ ⟨⟨⟩, rfl⟩
                        refine SWl.rdg rfl rfl (by simp [Acc.verE, Acc.ver, h140]) rfl rfl (Rd.nei rfl rfl) ?_
                        refine SWl.rdg rfl rfl (hb140) rfl rfl (Rd.pickN rfl (by simp [Acc.verE, Acc.ver, h140]) rfl) ?_
                        refine SWl.rd rfl (Rd.pickY rfl (hb140) rfl) ?_
                        refine SWl.nil ?_
                        refine SN.then ?_
                        refine SW.condF rfl (by simp [Acc.verE, Acc.ver, h140]) ?_
                        refine SW.skip ?_
                        refine SN.block ?_
                        refine SN.then ?_
                        refine SW.region ?_
                        refine SWl.rd rfl (Rd.move rfl) ?_
                        refine SWl.rd rfl (Rd.add rfl rfl ⟨by omega, by omega⟩) ?_
                        refine SWl.rd rfl (Rd.assign rfl) ?_
                        refine SWl.nil ?_
                        exact fun a w hh => hK2 (⟨i + 1, by omega⟩) (by dsimp only; omega) a w (hh.sub (⟨⟨_, rfl, ⟨⟨_, rfl, Le.refl _⟩, ⟨⟨_, rfl, Le.refl _⟩, ⟨⟨_, rfl, Le.refl _⟩, ⟨⟨_, rfl, Le.refl _⟩, ⟨⟨_, rfl, Le.refl _⟩, ⟨⟨_, rfl, Le.is (by simp)⟩, trivial⟩⟩⟩⟩⟩⟩⟩, [0, 1, 2, 3, 4, 5, 6, 7], by decide, ⟨⟨_, rfl, LeAll.refl _⟩, ⟨⟨_, rfl, LeR.refl _⟩, ⟨⟨_, rfl, LeR.refl _⟩, ⟨⟨_, rfl, LeR.refl _⟩, ⟨⟨_, rfl, LeAll.refl _⟩, ⟨⟨_, rfl, LeR.refl _⟩, ⟨⟨_, rfl, LeR.refl _⟩, ⟨⟨_, rfl, LeR.refl _⟩, trivial⟩⟩⟩⟩⟩⟩⟩⟩⟩))
                      · skip
                        refine SWl.off rfl rfl (hb140) rfl rfl ?_
                        refine SWl.off rfl rfl (hb140) rfl rfl ?_
                        refine SWl.off rfl rfl (hb140) rfl rfl ?_
                        refine SWl.off rfl rfl (hb140) rfl rfl ?_
                        refine SWl.off rfl rfl (hb140) rfl rfl ?_
                        refine SWl.off rfl rfl (hb140) rfl rfl ?_
                        refine SWl.off rfl rfl (hb140) rfl rfl ?_
                        refine SWl.off rfl rfl (hb140) rfl rfl ?_
                        refine SWl.off rfl rfl (hb140) rfl rfl ?_
                        refine SWl.off rfl rfl (hb140) rfl rfl ?_
                        refine SWl.off rfl rfl (hb140) rfl rfl ?_
                        refine SWl.offu rfl rfl rfl rfl ?_
                        refine SWl.offu rfl rfl rfl rfl ?_
                        refine SWl.offu rfl rfl rfl rfl ?_
                        refine SWl.offu rfl rfl rfl rfl ?_
                        refine SWl.offu rfl rfl rfl rfl ?_
                        refine SWl.offu rfl rfl rfl rfl ?_
                        refine SWl.offu rfl rfl rfl rfl ?_
                        refine SWl.offu rfl rfl rfl rfl ?_
                        refine SWl.offu rfl rfl rfl rfl ?_
                        refine SWl.offu rfl rfl rfl rfl ?_
                        refine SWl.off rfl rfl (hb140) rfl rfl ?_
                        refine SWl.rd rfl (Rd.pickN rfl (hb140) rfl) ?_
                        refine SWl.nil ?_
                        refine SN.then ?_
                        refine SW.condF rfl (rfl) ?_
                        refine SW.skip ?_
                        refine SN.block ?_
                        refine SN.then ?_
                        refine SW.region ?_
                        refine SWl.rd rfl (Rd.move rfl) ?_
                        refine SWl.rd rfl (Rd.add rfl rfl ⟨by omega, by omega⟩) ?_
                        refine SWl.rd rfl (Rd.assign rfl) ?_
                        refine SWl.nil ?_
                        exact fun a w hh => hK2 (⟨i + 1, by omega⟩) (by dsimp only; omega) a w (hh.sub (⟨⟨_, rfl, ⟨⟨_, rfl, Le.refl _⟩, ⟨⟨_, rfl, Le.refl _⟩, ⟨⟨_, rfl, Le.refl _⟩, ⟨⟨_, rfl, Le.refl _⟩, ⟨⟨_, rfl, Le.refl _⟩, ⟨⟨_, rfl, Le.is (by simp)⟩, trivial⟩⟩⟩⟩⟩⟩⟩, [4, 5, 6, 7, 0, 1, 2, 3], by decide, ⟨⟨_, rfl, LeAll.refl _⟩, ⟨⟨_, rfl, LeR.refl _⟩, ⟨⟨_, rfl, LeR.refl _⟩, ⟨⟨_, rfl, LeR.refl _⟩, ⟨⟨_, rfl, LeAll.refl _⟩, ⟨⟨_, rfl, LeR.refl _⟩, ⟨⟨_, rfl, LeR.refl _⟩, ⟨⟨_, rfl, LeR.refl _⟩, trivial⟩⟩⟩⟩⟩⟩⟩⟩⟩))
                    · skip
                      refine SW.exit' ?_
                      repeat (first | refine SE.then ?_ | refine SE.skip (by decide) ?_)
                      refine SE.here ?_
                      refine SN.then ?_
                      refine SW.seq ?_
                      rcases hres : decB b with E | L
                      · have hE := decB_ne hres
                        refine SW.sub (σ' := St.ob [(2, bD b)] []) (⟨⟨_, rfl, ⟨⟨_, rfl, Le.refl _⟩, trivial⟩⟩, [], by decide, trivial⟩) ?_
                        refine SW.region ?_
                        refine SWl.rd rfl (Rd.move rfl) ?_
                        refine SWl.ef (S := []) (Ef.callR [] (con_decodeB_bad b (by omega) E hres) rfl ⟨Le.refl _, trivial⟩ (by decide) trivial (fun _ h => h) rfl) ?_
                        rintro _ ⟨⟨gq, sq⟩, rfl⟩
                        refine SWl.rd rfl (Rd.move rfl) ?_
                        refine SWl.rd rfl (Rd.extract rfl rfl) ?_
                        refine SWl.rd rfl (Rd.extract rfl rfl) ?_
                        refine SWl.rd rfl (Rd.assign rfl) ?_
                        refine SWl.rd rfl (Rd.assign rfl) ?_
                        refine SWl.nil ?_
                        refine SN.then ?_
                        refine SW.seq ?_
                        refine SW.sub (σ' := St.ob [(2, bD b), (17, isD (.pointer none)), (18, iD E)] []) (⟨⟨_, rfl, ⟨⟨_, rfl, Le.refl _⟩, ⟨⟨_, rfl, Le.refl _⟩, ⟨⟨_, rfl, Le.refl _⟩, trivial⟩⟩⟩⟩, [], by decide, trivial⟩) ?_
                        refine SW.draw [] (.r 0 (.r 1 (.r 2 (.r 3 (.r 4 (.r 5 (.r 6 (.r 7 (.r 8 (.r 9 (.r 10 (.r 11 (.r 12 (.r 13 (.r 14 (.r 17 (.r 18 (.e 15 (.r 16 (.r 19 (.r 20 (.r 21 (.r 22 (.n 23 (.r 24 (.r 25 .fin)) .no)))))) .no)))))))))))))))))) (by kernel_rfl) (by kernel_rfl) (fun d _ _ _ _ h => by cases d <;> exact h) ?_
                        refine SWz.rd (i := 0) rfl rfl (Rd.move rfl) ?_
                        refine SWz.rd (i := 1) rfl rfl (Rd.nei rfl rfl) ?_
                        refine SWz.rd (i := 2) rfl rfl (Rd.move rfl) ?_
                        refine SWz.rdg (i := 3) rfl rfl rfl (by simp [hE]) rfl rfl (Rd.move rfl) ?_
                        refine SWz.rdg (i := 4) rfl rfl rfl (by simp [hE]) rfl rfl (Rd.eqP rfl rfl (by kernel_rfl)) ?_
                        refine SWz.rd (i := 5) rfl rfl (Rd.pickY rfl (by simp [hE]) rfl) ?_
                        refine SWz.rd (i := 6) rfl rfl (Rd.move rfl) ?_
                        refine SWz.off (i := 7) rfl rfl rfl (rfl) rfl rfl ?_
                        refine SWz.off (i := 8) rfl rfl rfl (rfl) rfl rfl ?_
                        refine SWz.off (i := 9) rfl rfl rfl (rfl) rfl rfl ?_
                        refine SWz.offu (i := 10) rfl rfl rfl rfl rfl ?_
                        refine SWz.offu (i := 11) rfl rfl rfl rfl rfl ?_
                        refine SWz.off (i := 12) rfl rfl rfl (rfl) rfl rfl ?_
                        refine SWz.off (i := 13) rfl rfl rfl (rfl) rfl rfl ?_
                        refine SWz.offu (i := 14) rfl rfl rfl rfl rfl ?_
                        refine SWz.offu (i := 17) rfl rfl rfl rfl rfl ?_
                        refine SWz.offu (i := 18) rfl rfl rfl rfl rfl ?_
                        refine SWz.offeu (i := 15) rfl rfl rfl rfl rfl ?_ SWz.no
                        refine SWz.offu (i := 16) rfl rfl rfl rfl rfl ?_
                        refine SWz.offu (i := 19) rfl rfl rfl rfl rfl ?_
                        refine SWz.off (i := 20) rfl rfl rfl (rfl) rfl rfl ?_
                        refine SWz.rd (i := 21) rfl rfl (Rd.pickY rfl (rfl) rfl) ?_
                        refine SWz.rd (i := 22) rfl rfl (Rd.move rfl) ?_
                        refine SWz.efng (i := 23) rfl rfl rfl (rfl) rfl (Ef.callN [] (con_known41) rfl trivial rfl) ?_ SWz.no
                        rintro _ rfl
                        refine SWz.rd (i := 24) rfl rfl (Rd.pickY rfl (rfl) rfl) ?_
                        refine SWz.rd (i := 25) rfl rfl (Rd.assign rfl) ?_
                        refine SWz.nil ?_
                        refine SN.then ?_
                        refine SW.ret (fn := Tryd.f3) (fun _ _ h => h) (Rs.le (Rs.one rfl (ResV.tmp rfl)) ?_)
                        exact le_bool_n rfl
                      · skip
                        refine SW.sub (σ' := St.ob [(2, bD b)] []) (⟨⟨_, rfl, ⟨⟨_, rfl, Le.refl _⟩, trivial⟩⟩, [], by decide, trivial⟩) ?_
                        refine SW.region ?_
                        refine SWl.rd rfl (Rd.move rfl) ?_
                        refine SWl.ef (S := []) (Ef.callR [] (con_decodeB_ok b (by omega) L hres) rfl ⟨Le.refl _, trivial⟩ (by decide) trivial (fun _ h => h) rfl) ?_
                        rintro _ ⟨⟨gq, sq⟩, rfl⟩
                        refine SWl.rd rfl (Rd.move rfl) ?_
                        refine SWl.rd rfl (Rd.extract rfl rfl) ?_
                        refine SWl.rd rfl (Rd.extract rfl rfl) ?_
                        refine SWl.rd rfl (Rd.assign rfl) ?_
                        refine SWl.rd rfl (Rd.assign rfl) ?_
                        refine SWl.nil ?_
                        refine SN.then ?_
                        refine SW.seq ?_
                        refine SW.sub (σ' := St.ob [(2, bD b), (17, isD (.pointer (some ⟨gq, 0, none⟩))), (18, iD 0)] [.c gq [isD (.map (sq.M.map Prod.fst)), isD (.slice sq.n.A (Acc.nm L).length sq.n.c), isD (.map (sq.M.map Prod.snd))], .r sq.n.F (vecT 9 1 encT sq.n.A sq.n.c (Acc.nm L)), .r sq.F1 (mapQ (sq.M.map Prod.fst) encS (Acc.nm L) (acD L)), .r sq.F2 (mapQ (sq.M.map Prod.snd) encSt (Acc.seats L) (seD L))]) (⟨⟨_, rfl, ⟨⟨_, rfl, Le.refl _⟩, ⟨⟨_, rfl, Le.refl _⟩, ⟨⟨_, rfl, Le.refl _⟩, trivial⟩⟩⟩⟩, [0, 1, 2, 3], by decide, ⟨⟨_, rfl, LeAll.refl _⟩, ⟨⟨_, rfl, LeR.refl _⟩, ⟨⟨_, rfl, LeR.refl _⟩, ⟨⟨_, rfl, LeR.refl _⟩, trivial⟩⟩⟩⟩⟩) ?_
                        refine SW.draw (gq :: (sq.n.F ++ (sq.F1 ++ (sq.F2 ++ [])))) (.r 0 (.r 1 (.r 2 (.r 3 (.r 4 (.r 5 (.r 6 (.r 7 (.r 8 (.r 9 (.r 10 (.r 11 (.r 12 (.r 13 (.r 14 (.r 17 (.r 18 (.e 15 (.r 16 (.r 19 (.r 20 (.r 21 (.r 22 (.n 23 (.r 24 (.r 25 .fin)) .no)))))) .no)))))))))))))))))) (by kernel_rfl) (by kernel_rfl) (fun d _ _ _ _ h => by cases d <;> exact h) ?_
                        refine SWz.rd (i := 0) rfl rfl (Rd.move rfl) ?_
                        refine SWz.rd (i := 1) rfl rfl (Rd.nei rfl rfl) ?_
                        refine SWz.rd (i := 2) rfl rfl (Rd.move rfl) ?_
                        refine SWz.off (i := 3) rfl rfl rfl (by simp) rfl rfl ?_
                        refine SWz.off (i := 4) rfl rfl rfl (by simp) rfl rfl ?_
                        refine SWz.rd (i := 5) rfl rfl (Rd.pickN rfl (by simp) rfl) ?_
                        refine SWz.rd (i := 6) rfl rfl (Rd.move rfl) ?_
                        refine SWz.rdg (i := 7) rfl rfl rfl (rfl) rfl rfl (Rd.move rfl) ?_
                        refine SWz.rdg (i := 8) rfl rfl rfl (rfl) rfl rfl (Rd.eqi rfl rfl) ?_
                        refine SWz.rdg (i := 9) rfl rfl rfl (rfl) rfl rfl (Rd.move rfl) ?_
                        refine SWz.rdg (i := 10) rfl rfl rfl (by decide) rfl rfl (Rd.move rfl) ?_
                        refine SWz.rdg (i := 11) rfl rfl rfl (by decide) rfl rfl (Rd.neP rfl rfl (by kernel_rfl)) ?_
                        refine SWz.rdg (i := 12) rfl rfl rfl (rfl) rfl rfl (Rd.pickY rfl (by decide) rfl) ?_
                        refine SWz.rdg (i := 13) rfl rfl rfl (rfl) rfl rfl (Rd.move rfl) ?_
                        refine SWz.rdg (i := 14) rfl rfl rfl (rfl) rfl rfl (Rd.move rfl) ?_
                        refine SWz.rdg (i := 17) rfl rfl rfl (rfl) rfl rfl (Rd.move rfl) ?_
                        refine SWz.rdg (i := 18) rfl rfl rfl (rfl) rfl rfl (Rd.str (e := 5) rfl (by kernel_rfl) (by kernel_rfl) (by kernel_rfl) (ins_cons (j := 0) rfl (ins_app (j := 1) rfl (ins_app (j := 2) rfl (ins_app (j := 3) rfl ins_nil))))) ?_
                        refine SWz.efeg (i := 15) rfl rfl rfl (rfl) rfl (Ef.callR [0, 1, 2, 3] (con_encodeB gq sq L (decB_fine hres)) rfl ⟨Le.refl _, trivial⟩ (by decide) ⟨⟨_, rfl, LeAll.refl _⟩, ⟨⟨_, rfl, LeR.refl _⟩, ⟨⟨_, rfl, LeR.refl _⟩, ⟨⟨_, rfl, LeR.refl _⟩, trivial⟩⟩⟩⟩ (fun _ h => h) rfl) ?_ SWz.no
                        rintro _ ⟨⟨⟩, rfl⟩
                        refine SWz.rdg (i := 16) rfl rfl rfl (rfl) rfl rfl (Rd.str (e := 5) rfl (by kernel_rfl) (by kernel_rfl) (by kernel_rfl) (ins_cons (j := 0) rfl (ins_app (j := 1) rfl (ins_app (j := 2) rfl (ins_app (j := 3) rfl ins_nil))))) ?_
                        refine SWz.rdg (i := 19) rfl rfl rfl (rfl) rfl rfl (Rd.eqs (p := encBook L) (q := b) rfl rfl) ?_
                        refine SWz.rdg (i := 20) rfl rfl rfl (rfl) rfl rfl (Rd.pickY rfl (rfl) rfl) ?_
                        refine SWz.rd (i := 21) rfl rfl (Rd.pickN rfl (rfl) rfl) ?_
                        refine SWz.rd (i := 22) rfl rfl (Rd.move rfl) ?_
                        refine SWz.efng (i := 23) rfl rfl rfl (by simp [decB_inv hres]) rfl (Ef.callN [] (con_known41) rfl trivial rfl) ?_ SWz.no
                        rintro _ rfl
                        refine SWz.rd (i := 24) rfl rfl (Rd.pickY rfl (by simp [decB_inv hres]) rfl) ?_
                        refine SWz.rd (i := 25) rfl rfl (Rd.assign rfl) ?_
                        refine SWz.nil ?_
                        refine SN.then ?_
                        refine SW.ret (fn := Tryd.f3) (fun _ _ h => h) (Rs.le (Rs.one rfl (ResV.tmp rfl)) ?_)
                        exact le_bool_n rfl
end Sx
end Go.Proofs.YtchbgfgboogniaaDoor
