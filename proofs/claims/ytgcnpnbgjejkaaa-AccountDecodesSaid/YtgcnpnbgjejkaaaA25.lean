/-
  ACCOUNTS: AccountDecodes.
-/
import Derived.Test.YtgcnpnbgjejkaaaGM
import Derived.Test.YtgcnpnbgjejkaaaGQ
namespace Go.Proofs.Ytgcnpnbgjejkaaa
open Go.RowKit
namespace Sx
theorem decLoop_fine : ∀ (j : Nat) (l : List Acc.T) (r : RT) (L : List Acc.T), decFin (decLoop j l r) = .ok L → Acc.Fine l → l.length + j ≤ 256 → Acc.Fine L
  | 0, l, r, L, h, hf, _ => by
    unfold decLoop decFin at h
    simp only at h
    split at h
    · cases h
    · injection h with h; rw [← h]; exact hf
  | j + 1, l, r, L, h, hf, hl => by
    unfold decLoop at h
    split at h
    · cases h
    · split at h
      · cases h
      · rename_i h1 h2
        obtain ⟨g1, g2, g3, g4⟩ := dec_good hf h2 (by omega)
        refine decLoop_fine j _ _ L h ?_ (by rw [List.length_append]; simp; omega)
        rw [← g3]
        exact hf.ins g1 g2 (by omega)
theorem decB_fine {p : List UInt8} {L : List Acc.T} (h : decB p = .ok L) : Acc.Fine L := by
  obtain ⟨n, hn, h1, _⟩ := stC_nat p
  unfold decB at h
  rw [hn] at h
  exact decLoop_fine _ _ _ L h Acc.Fine.nil (by simp; omega)
theorem decLoop_ne : ∀ (j : Nat) (l : List Acc.T) (r : RT) (E : Int), decFin (decLoop j l r) = .error E → E ≠ 0
  | 0, l, r, E, h => by
    unfold decLoop decFin at h
    simp only at h
    split at h
    · rename_i h1; injection h with h; rw [← h]; exact h1
    · cases h
  | j + 1, l, r, E, h => by
    unfold decLoop at h
    split at h
    · rename_i h1; injection h with h; rw [← h]; exact h1
    · split at h
      · injection h with h; rw [← h]; decide
      · exact decLoop_ne j _ _ E h
theorem decB_ne {p : List UInt8} {E : Int} (h : decB p = .error E) : E ≠ 0 := decLoop_ne _ _ _ E h
theorem con_decodeB_ok (p : List UInt8) (hp : p.length ≤ 1000000) (L : List Acc.T) (h : decB p = .ok L) : ConR Try.prog 23 [] [bD p] (fun t : Nat × Bst => [bookC t.1 t.2 L, bookN t.2 L, bookA t.2 L, bookS t.2 L]) (fun t => tupD [isD (.pointer (some ⟨t.1, 0, none⟩)), iD 0]) := con_decodeB p hp (.ok L) h
theorem con_decodeB_bad (p : List UInt8) (hp : p.length ≤ 1000000) (E : Int) (h : decB p = .error E) : ConR Try.prog 23 [] [bD p] (fun _ : Nat × Bst => []) (fun _ => tupD [isD (.pointer none), iD E]) := con_decodeB p hp (.error E) h
/-- A contract that is lent no boxes and gives none back. -/
theorem ConR.toC {P : Program} {f : FuncId} {ad : List D} {ι : Type} {d : D} (h : ConR P f [] ad (fun _ : ι => []) (fun _ => d)) : Con P f ad d :=
  ⟨h.en, fun L w vs hL hG ha => (h.go L w vs hL hG (by simp [fps]) (by simp [fps]) (by simp [fps]) (by simp) (by simpa [fps] using ha)).mono fun _ _ ⟨_, v, hv, hd, _, _, _, ho⟩ => ⟨v, hv, by simpa [fps] using hd, by simpa [fps] using ho⟩⟩
set_option maxHeartbeats 4000000 in
set_option maxRecDepth 100000 in
theorem accountDecodes_con (p : List UInt8) (l : List Act.T) (hl : l.length ≤ 9223372036854775807) : ConN Try.prog 6 [bD p, lsD encAct l] (boolD true) := by
  refine con_ofN Try.func6 (by kernel_rfl) rfl (by kernel_rfl) fun base w0 => ?_
  refine SW.seq ?_
  refine SW.region ?_
  refine SWl.rd rfl (Rd.assign rfl) ?_
  refine SWl.nil ?_
  refine SN.then ?_
  refine SW.seq ?_
  refine SW.seq ?_
  refine SW.region ?_
  refine SWl.rd rfl (Rd.move rfl) ?_
  refine SWl.rd rfl (Rd.len (e := 5) rfl (by kernel_rfl)) ?_
  refine SWl.rd rfl (Rd.gtr rfl rfl) ?_
  refine SWl.rd rfl (Rd.move rfl) ?_
  refine SWl.split 15 rfl (fun hb15 => ?_) (fun hb15 => ?_)
  · skip
    refine SWl.off rfl rfl (hb15) rfl rfl ?_
    refine SWl.off rfl rfl (hb15) rfl rfl ?_
    refine SWl.off rfl rfl (hb15) rfl rfl ?_
    refine SWl.rd rfl (Rd.pickY rfl (hb15) rfl) ?_
    refine SWl.nil ?_
    refine SN.then ?_
    refine SW.condT rfl (rfl) ?_
    refine SW.seq ?_
    refine SW.region ?_
    refine SWl.ef (S := []) (Ef.callN [] (con_known41) rfl trivial rfl) ?_
    rintro _ rfl
    refine SWl.rd rfl (Rd.assign rfl) ?_
    refine SWl.nil ?_
    refine SN.then ?_
    refine SW.ret (fn := Try.f6) (fun _ _ h => h) (Rs.le (Rs.one rfl (ResV.tmp rfl)) ?_)
    exact le_bool_n rfl
  · have hpl : p.length ≤ 800 := by have h := of_decide_eq_false hb15; rw [cellsOf_length] at h; omega
    refine SWl.rdg rfl rfl (hb15) rfl rfl (Rd.move rfl) ?_
    refine SWl.efg (S := []) rfl rfl (hb15) rfl (Ef.callN [] (con_few41 l 12 hl) rfl ⟨(sees_le (Le.refl _)), (sees_le (Le.refl _)), trivial⟩ rfl) ?_
    rintro _ rfl
    refine SWl.rdg rfl rfl (hb15) rfl rfl (Rd.not rfl) ?_
    refine SWl.rd rfl (Rd.pickN rfl (hb15) rfl) ?_
    refine SWl.nil ?_
    refine SN.then ?_
    refine SW.cond rfl (fun hb19 => ?_) (fun hb19 => ?_)
    · skip
      refine SW.seq ?_
      refine SW.region ?_
      refine SWl.ef (S := []) (Ef.callN [] (con_known41) rfl trivial rfl) ?_
      rintro _ rfl
      refine SWl.rd rfl (Rd.assign rfl) ?_
      refine SWl.nil ?_
      refine SN.then ?_
      refine SW.ret (fn := Try.f6) (fun _ _ h => h) (Rs.le (Rs.one rfl (ResV.tmp rfl)) ?_)
      exact le_bool_n rfl
    · have hq : Act.few l 12 := by simpa using hb19
      refine SW.skip ?_
      refine SN.then ?_
      refine SW.seq ?_
      rcases hres : decB p with E | L
      · have hE := decB_ne hres
        refine SW.sub (σ' := St.ob [(0, bD p), (1, lsD encAct l)] []) (⟨⟨_, rfl, ⟨⟨_, rfl, Le.refl _⟩, ⟨⟨_, rfl, Le.refl _⟩, trivial⟩⟩⟩, [], by decide, trivial⟩) ?_
        refine SW.vecN 5 1 encB ?_
        refine SW.region ?_
        refine SWl.rd rfl (Rd.move rfl) ?_
        refine SWl.ef (Ef.appT 0 1 1 rfl rfl (SrcT.b rfl) (by kernel_rfl) (by kernel_rfl) (by simp <;> omega) (by decide) (fun _ h => h) rfl) ?_
        rintro _ ⟨A23, F23, c23, rfl⟩
        refine SWl.freezeT 0 23 rfl rfl (le_ls_b _) ?_
        refine SWl.ef (S := []) (Ef.callR [] (con_decodeB_bad p (by omega) E hres) rfl ⟨Le.refl _, trivial⟩ (by decide) trivial (fun _ h => h) rfl) ?_
        rintro _ ⟨⟨gd, sd⟩, rfl⟩
        refine SWl.rd rfl (Rd.move rfl) ?_
        refine SWl.rd rfl (Rd.extract rfl rfl) ?_
        refine SWl.rd rfl (Rd.extract rfl rfl) ?_
        refine SWl.rd rfl (Rd.assign rfl) ?_
        refine SWl.rd rfl (Rd.assign rfl) ?_
        refine SWl.nil ?_
        refine SN.then ?_
        refine SW.seq ?_
        refine SW.sub (σ' := St.ob [(0, bD p), (1, lsD encAct l), (5, isD (.pointer none)), (6, iD E)] []) (⟨⟨_, rfl, ⟨⟨_, rfl, Le.refl _⟩, ⟨⟨_, rfl, Le.refl _⟩, ⟨⟨_, rfl, Le.refl _⟩, ⟨⟨_, rfl, Le.refl _⟩, trivial⟩⟩⟩⟩⟩, [], by decide, trivial⟩) ?_
        refine SW.region ?_
        refine SWl.rd rfl (Rd.move rfl) ?_
        refine SWl.ef (S := []) (Ef.callR [] (con_decodeBR p (by omega) _ hres) rfl ⟨Le.refl _, trivial⟩ (by decide) trivial (fun _ h => h) rfl) ?_
        rintro _ ⟨⟨⟩, rfl⟩
        refine SWl.rd rfl (Rd.move rfl) ?_
        refine SWl.rd rfl (Rd.extract rfl rfl) ?_
        refine SWl.rd rfl (Rd.extract rfl rfl) ?_
        refine SWl.ef (S := []) (Ef.alloc (zs := [.slice none 0 0]) (by kernel_rfl) rfl) ?_
        rintro _ ⟨g7, rfl⟩
        refine SWl.ef (S := [_]) (Ef.storeA 0 rfl rfl rfl (by kernel_rfl) rfl (List.mem_singleton.2 rfl)) ?_
        rintro _ rfl
        refine SWl.rd rfl (Rd.assign rfl) ?_
        refine SWl.nil ?_
        refine SN.then ?_
        refine SW.seq ?_
        refine SW.seq ?_
        refine SW.sub (σ' := St.ob [(0, bD p), (1, lsD encAct l), (5, isD (.pointer none)), (6, iD E), (7, isD (.pointer (some ⟨g7, 0, none⟩))), (8, iD E)] [.c g7 [lsD encA ([] : List Acc.T)]]) (⟨⟨_, rfl, ⟨⟨_, rfl, Le.refl _⟩, ⟨⟨_, rfl, Le.refl _⟩, ⟨⟨_, rfl, Le.refl _⟩, ⟨⟨_, rfl, Le.refl _⟩, ⟨⟨_, rfl, Le.refl _⟩, ⟨⟨_, rfl, Le.refl _⟩, trivial⟩⟩⟩⟩⟩⟩⟩, [0], by decide, ⟨⟨_, rfl, LeAll.refl _⟩, trivial⟩⟩) ?_
        refine SW.region ?_
        refine SWl.rd rfl (Rd.move rfl) ?_
        refine SWl.rd rfl (Rd.move rfl) ?_
        refine SWl.rd rfl (Rd.nei rfl rfl) ?_
        refine SWl.rd rfl (Rd.move rfl) ?_
        refine SWl.rdg rfl rfl (by simp) rfl rfl (Rd.move rfl) ?_
        refine SWl.rdg rfl rfl (by simp) rfl rfl (Rd.eqP rfl rfl (by kernel_rfl)) ?_
        refine SWl.rdg rfl rfl (by simp) rfl rfl (Rd.move rfl) ?_
        refine SWl.rdg rfl rfl (by simp) rfl rfl (Rd.nei rfl rfl) ?_
        refine SWl.rdg rfl rfl (by simp) rfl rfl (Rd.neb (by kernel_rfl) rfl rfl) ?_
        refine SWl.rd rfl (Rd.pickN rfl (by simp) rfl) ?_
        refine SWl.rd rfl (Rd.move rfl) ?_
        refine SWl.rdg rfl rfl (by simp [hE]) rfl rfl (Rd.move rfl) ?_
        refine SWl.rdg rfl rfl (by simp [hE]) rfl rfl (Rd.eqi rfl rfl) ?_
        refine SWl.rdg rfl rfl (by simp [hE]) rfl rfl (Rd.move rfl) ?_
        refine SWl.off rfl rfl (by simp [hE]) rfl rfl ?_
        refine SWl.off rfl rfl (by simp [hE]) rfl rfl ?_
        refine SWl.off rfl rfl (by simp [hE]) rfl rfl ?_
        refine SWl.off rfl rfl (by simp [hE]) rfl rfl ?_
        refine SWl.rdg rfl rfl (by simp [hE]) rfl rfl (Rd.pickN rfl (by simp [hE]) rfl) ?_
        refine SWl.rd rfl (Rd.pickN rfl (by simp [hE]) rfl) ?_
        refine SWl.nil ?_
        refine SN.then ?_
        refine SW.condF rfl (rfl) ?_
        refine SW.skip ?_
        refine SN.then ?_
        refine SW.seq ?_
        refine SW.sub (σ' := St.ob [(0, bD p), (1, lsD encAct l)] []) (⟨⟨_, rfl, ⟨⟨_, rfl, Le.refl _⟩, ⟨⟨_, rfl, Le.refl _⟩, trivial⟩⟩⟩, [], by decide, trivial⟩) ?_
        refine SW.region ?_
        refine SWl.rd rfl (Rd.move rfl) ?_
        refine SWl.ef (S := []) (Ef.callR [] (con_played l 12 hl hq) rfl ⟨Le.refl _, trivial⟩ (by decide) trivial (fun _ h => h) rfl) ?_
        rintro _ ⟨⟨gb, s⟩, rfl⟩
        refine SWl.rd rfl (Rd.move rfl) ?_
        refine SWl.rd rfl (Rd.extract rfl rfl) ?_
        refine SWl.rd rfl (Rd.extract rfl rfl) ?_
        refine SWl.rd rfl (Rd.extract rfl rfl) ?_
        refine SWl.ef (S := []) (Ef.alloc (zs := [.slice none 0 0]) (by kernel_rfl) rfl) ?_
        rintro _ ⟨g10, rfl⟩
        refine SWl.rd rfl (Rd.assign rfl) ?_
        refine SWl.ef (S := [_]) (Ef.storeA 4 rfl rfl rfl (by kernel_rfl) rfl (List.mem_singleton.2 rfl)) ?_
        rintro _ rfl
        refine SWl.rd rfl (Rd.assign rfl) ?_
        refine SWl.nil ?_
        refine SN.then ?_
        refine SW.seq ?_
        obtain ⟨R, hR⟩ : ∃ R, R = Act.run l := ⟨_, rfl⟩
        have hf : Acc.Fine R := by rw [hR]; exact Act.fine_run l
        refine SW.sub (σ' := St.ob [(9, isD (.pointer (some ⟨gb, 0, none⟩))), (10, isD (.pointer (some ⟨g10, 0, none⟩))), (11, boolD true)] [.c gb [isD (.map (s.M.map Prod.fst)), isD (.slice s.n.A (Acc.nm R).length s.n.c), isD (.map (s.M.map Prod.snd))], .r s.n.F (vecT 9 1 encT s.n.A s.n.c (Acc.nm R)), .r s.F1 (mapQ (s.M.map Prod.fst) encS (Acc.nm R) (acD R)), .r s.F2 (mapQ (s.M.map Prod.snd) encSt (Acc.seats R) (seD R)), .c g10 [lsD encA R]]) (⟨⟨_, rfl, ⟨⟨_, rfl, Le.refl _⟩, ⟨⟨_, rfl, Le.refl _⟩, ⟨⟨_, rfl, Le.refl _⟩, trivial⟩⟩⟩⟩, [0, 1, 2, 3, 4], by decide, ⟨⟨_, rfl, ⟨Le.refl _, Le.is (by rw [hR]), Le.refl _, trivial⟩⟩, ⟨⟨_, rfl, leVec (by rw [hR]) (by rw [hR])⟩, ⟨⟨_, rfl, (by rw [hR]; exact LeR.refl _)⟩, ⟨⟨_, rfl, (by rw [hR]; exact LeR.refl _)⟩, ⟨⟨_, rfl, ⟨(by rw [hR]; exact Le.refl _), trivial⟩⟩, trivial⟩⟩⟩⟩⟩⟩) ?_
        refine SW.draw (gb :: (s.n.F ++ (s.F1 ++ (s.F2 ++ [])))) (.r 0 (.r 1 (.r 2 (.r 5 (.e 3 (.r 4 (.n 6 (.r 7 (.r 8 (.r 9 (.r 10 (.n 11 (.r 12 (.r 13 .fin)) .no))))) .no)) .no))))) (by kernel_rfl) (by kernel_rfl) (fun d _ _ _ _ h => by cases d <;> exact h) ?_
        refine SWz.rd (i := 0) rfl rfl (Rd.move rfl) ?_
        refine SWz.rd (i := 1) rfl rfl (Rd.move rfl) ?_
        refine SWz.rdg (i := 2) rfl rfl rfl (rfl) rfl rfl (Rd.move rfl) ?_
        refine SWz.rdg (i := 5) rfl rfl rfl (rfl) rfl rfl (Rd.loadA 4 1 rfl rfl (by kernel_rfl) rfl (ap_cons 0 rfl (by decide) (ap_app 1 rfl (by decide) (ap_app 2 rfl (by decide) (ap_app 3 rfl (by decide) ap_nil))))) ?_
        refine SWz.efeg (i := 3) rfl rfl rfl (rfl) rfl (Ef.callR [0, 1, 2, 3] (con_encodeB gb s R hf) rfl ⟨Le.refl _, trivial⟩ (by decide) ⟨⟨_, rfl, LeAll.refl _⟩, ⟨⟨_, rfl, LeR.refl _⟩, ⟨⟨_, rfl, LeR.refl _⟩, ⟨⟨_, rfl, LeR.refl _⟩, trivial⟩⟩⟩⟩ (fun _ h => h) rfl) ?_ SWz.no
        rintro _ ⟨⟨⟩, rfl⟩
        refine SWz.rdg (i := 4) rfl rfl rfl (rfl) rfl rfl (Rd.str (e := 5) rfl (by kernel_rfl) (by kernel_rfl) (by kernel_rfl) (ins_cons (j := 1) rfl (ins_app (j := 2) rfl (ins_app (j := 3) rfl (ins_app (j := 4) rfl ins_nil))))) ?_
        refine SWz.efng (i := 6) rfl rfl rfl (rfl) rfl (Ef.call ((con_encodeBR R hf).toC) rfl ⟨Le.refl _, trivial⟩ rfl) ?_ SWz.no
        rintro _ rfl
        refine SWz.rdg (i := 7) rfl rfl rfl (rfl) rfl rfl (Rd.str (e := 5) rfl (by kernel_rfl) (by kernel_rfl) (by kernel_rfl) (ins_cons (j := 1) rfl (ins_app (j := 2) rfl (ins_app (j := 3) rfl (ins_app (j := 4) rfl ins_nil))))) ?_
        refine SWz.rdg (i := 8) rfl rfl rfl (rfl) rfl rfl (Rd.eqs (p := encBook R) (q := encBook R) rfl rfl) ?_
        refine SWz.rd (i := 9) rfl rfl (Rd.pickY rfl (rfl) rfl) ?_
        refine SWz.rd (i := 10) rfl rfl (Rd.move rfl) ?_
        refine SWz.efng (i := 11) rfl rfl rfl (by simp) rfl (Ef.callN [] (con_known41) rfl trivial rfl) ?_ SWz.no
        rintro _ rfl
        refine SWz.rd (i := 12) rfl rfl (Rd.pickY rfl (by simp) rfl) ?_
        refine SWz.rd (i := 13) rfl rfl (Rd.assign rfl) ?_
        refine SWz.nil ?_
        refine SN.then ?_
        refine SW.ret (fn := Try.f6) (fun _ _ h => h) (Rs.le (Rs.one rfl (ResV.tmp rfl)) ?_)
        exact le_bool_n rfl
      · skip
        refine SW.sub (σ' := St.ob [(0, bD p), (1, lsD encAct l)] []) (⟨⟨_, rfl, ⟨⟨_, rfl, Le.refl _⟩, ⟨⟨_, rfl, Le.refl _⟩, trivial⟩⟩⟩, [], by decide, trivial⟩) ?_
        refine SW.vecN 5 1 encB ?_
        refine SW.region ?_
        refine SWl.rd rfl (Rd.move rfl) ?_
        refine SWl.ef (Ef.appT 0 1 1 rfl rfl (SrcT.b rfl) (by kernel_rfl) (by kernel_rfl) (by simp <;> omega) (by decide) (fun _ h => h) rfl) ?_
        rintro _ ⟨A23, F23, c23, rfl⟩
        refine SWl.freezeT 0 23 rfl rfl (le_ls_b _) ?_
        refine SWl.ef (S := []) (Ef.callR [] (con_decodeB_ok p (by omega) L hres) rfl ⟨Le.refl _, trivial⟩ (by decide) trivial (fun _ h => h) rfl) ?_
        rintro _ ⟨⟨gd, sd⟩, rfl⟩
        refine SWl.rd rfl (Rd.move rfl) ?_
        refine SWl.rd rfl (Rd.extract rfl rfl) ?_
        refine SWl.rd rfl (Rd.extract rfl rfl) ?_
        refine SWl.rd rfl (Rd.assign rfl) ?_
        refine SWl.rd rfl (Rd.assign rfl) ?_
        refine SWl.nil ?_
        refine SN.then ?_
        refine SW.seq ?_
        refine SW.sub (σ' := St.ob [(0, bD p), (1, lsD encAct l), (5, isD (.pointer (some ⟨gd, 0, none⟩))), (6, iD 0)] [.c gd [isD (.map (sd.M.map Prod.fst)), isD (.slice sd.n.A (Acc.nm L).length sd.n.c), isD (.map (sd.M.map Prod.snd))], .r sd.n.F (vecT 9 1 encT sd.n.A sd.n.c (Acc.nm L)), .r sd.F1 (mapQ (sd.M.map Prod.fst) encS (Acc.nm L) (acD L)), .r sd.F2 (mapQ (sd.M.map Prod.snd) encSt (Acc.seats L) (seD L))]) (⟨⟨_, rfl, ⟨⟨_, rfl, Le.refl _⟩, ⟨⟨_, rfl, Le.refl _⟩, ⟨⟨_, rfl, Le.refl _⟩, ⟨⟨_, rfl, Le.refl _⟩, trivial⟩⟩⟩⟩⟩, [0, 1, 2, 3], by decide, ⟨⟨_, rfl, LeAll.refl _⟩, ⟨⟨_, rfl, LeR.refl _⟩, ⟨⟨_, rfl, LeR.refl _⟩, ⟨⟨_, rfl, LeR.refl _⟩, trivial⟩⟩⟩⟩⟩) ?_
        refine SW.region ?_
        refine SWl.rd rfl (Rd.move rfl) ?_
        refine SWl.ef (S := []) (Ef.callR [] (con_decodeBR p (by omega) _ hres) rfl ⟨Le.refl _, trivial⟩ (by decide) trivial (fun _ h => h) rfl) ?_
        rintro _ ⟨⟨⟩, rfl⟩
        refine SWl.rd rfl (Rd.move rfl) ?_
        refine SWl.rd rfl (Rd.extract rfl rfl) ?_
        refine SWl.rd rfl (Rd.extract rfl rfl) ?_
        refine SWl.ef (S := []) (Ef.alloc (zs := [.slice none 0 0]) (by kernel_rfl) rfl) ?_
        rintro _ ⟨g7, rfl⟩
        refine SWl.ef (S := [_]) (Ef.storeA 4 rfl rfl rfl (by kernel_rfl) rfl (List.mem_singleton.2 rfl)) ?_
        rintro _ rfl
        refine SWl.rd rfl (Rd.assign rfl) ?_
        refine SWl.nil ?_
        refine SN.then ?_
        refine SW.seq ?_
        refine SW.seq ?_
        refine SW.sub (σ' := St.ob [(0, bD p), (1, lsD encAct l), (5, isD (.pointer (some ⟨gd, 0, none⟩))), (6, iD 0), (7, isD (.pointer (some ⟨g7, 0, none⟩))), (8, iD 0)] [.c gd [isD (.map (sd.M.map Prod.fst)), isD (.slice sd.n.A (Acc.nm L).length sd.n.c), isD (.map (sd.M.map Prod.snd))], .r sd.n.F (vecT 9 1 encT sd.n.A sd.n.c (Acc.nm L)), .r sd.F1 (mapQ (sd.M.map Prod.fst) encS (Acc.nm L) (acD L)), .r sd.F2 (mapQ (sd.M.map Prod.snd) encSt (Acc.seats L) (seD L)), .c g7 [lsD encA L]]) (⟨⟨_, rfl, ⟨⟨_, rfl, Le.refl _⟩, ⟨⟨_, rfl, Le.refl _⟩, ⟨⟨_, rfl, Le.refl _⟩, ⟨⟨_, rfl, Le.refl _⟩, ⟨⟨_, rfl, Le.refl _⟩, ⟨⟨_, rfl, Le.refl _⟩, trivial⟩⟩⟩⟩⟩⟩⟩, [0, 1, 2, 3, 4], by decide, ⟨⟨_, rfl, LeAll.refl _⟩, ⟨⟨_, rfl, LeR.refl _⟩, ⟨⟨_, rfl, LeR.refl _⟩, ⟨⟨_, rfl, LeR.refl _⟩, ⟨⟨_, rfl, LeAll.refl _⟩, trivial⟩⟩⟩⟩⟩⟩) ?_
        refine SW.region ?_
        refine SWl.rd rfl (Rd.move rfl) ?_
        refine SWl.rd rfl (Rd.move rfl) ?_
        refine SWl.rd rfl (Rd.nei rfl rfl) ?_
        refine SWl.rd rfl (Rd.move rfl) ?_
        refine SWl.rdg rfl rfl (by simp) rfl rfl (Rd.move rfl) ?_
        refine SWl.rdg rfl rfl (by simp) rfl rfl (Rd.eqP rfl rfl (by kernel_rfl)) ?_
        refine SWl.rdg rfl rfl (by simp) rfl rfl (Rd.move rfl) ?_
        refine SWl.rdg rfl rfl (by simp) rfl rfl (Rd.nei rfl rfl) ?_
        refine SWl.rdg rfl rfl (by simp) rfl rfl (Rd.neb (by kernel_rfl) rfl rfl) ?_
        refine SWl.rd rfl (Rd.pickN rfl (by simp) rfl) ?_
        refine SWl.rd rfl (Rd.move rfl) ?_
        refine SWl.rdg rfl rfl (by simp) rfl rfl (Rd.move rfl) ?_
        refine SWl.rdg rfl rfl (by simp) rfl rfl (Rd.eqi rfl rfl) ?_
        refine SWl.rdg rfl rfl (by simp) rfl rfl (Rd.move rfl) ?_
        refine SWl.rdg rfl rfl (by decide) rfl rfl (Rd.move rfl) ?_
        refine SWl.rdg rfl rfl (by decide) rfl rfl (Rd.loadA 4 1 rfl rfl (by kernel_rfl) rfl ap_nil) ?_
        refine SWl.efg rfl rfl (by decide) rfl (Ef.callR [0, 1, 2, 3] (con_over gd sd L (decB_fine hres)) rfl ⟨Le.refl _, Le.refl _, trivial⟩ (by decide) ⟨⟨_, rfl, LeAll.refl _⟩, ⟨⟨_, rfl, LeR.refl _⟩, ⟨⟨_, rfl, LeR.refl _⟩, ⟨⟨_, rfl, LeR.refl _⟩, trivial⟩⟩⟩⟩ (fun _ h => h) rfl) ?_
        rintro _ ⟨⟨⟩, rfl⟩
        refine SWl.rdg rfl rfl (by decide) rfl rfl (Rd.not rfl) ?_
        refine SWl.rdg rfl rfl (by simp) rfl rfl (Rd.pickY rfl (by decide) rfl) ?_
        refine SWl.rd rfl (Rd.pickN rfl (by simp) rfl) ?_
        refine SWl.nil ?_
        refine SN.then ?_
        refine SW.condF rfl (rfl) ?_
        refine SW.skip ?_
        refine SN.then ?_
        refine SW.seq ?_
        refine SW.sub (σ' := St.ob [(0, bD p), (1, lsD encAct l)] []) (⟨⟨_, rfl, ⟨⟨_, rfl, Le.refl _⟩, ⟨⟨_, rfl, Le.refl _⟩, trivial⟩⟩⟩, [], by decide, trivial⟩) ?_
        refine SW.region ?_
        refine SWl.rd rfl (Rd.move rfl) ?_
        refine SWl.ef (S := []) (Ef.callR [] (con_played l 12 hl hq) rfl ⟨Le.refl _, trivial⟩ (by decide) trivial (fun _ h => h) rfl) ?_
        rintro _ ⟨⟨gb, s⟩, rfl⟩
        refine SWl.rd rfl (Rd.move rfl) ?_
        refine SWl.rd rfl (Rd.extract rfl rfl) ?_
        refine SWl.rd rfl (Rd.extract rfl rfl) ?_
        refine SWl.rd rfl (Rd.extract rfl rfl) ?_
        refine SWl.ef (S := []) (Ef.alloc (zs := [.slice none 0 0]) (by kernel_rfl) rfl) ?_
        rintro _ ⟨g10, rfl⟩
        refine SWl.rd rfl (Rd.assign rfl) ?_
        refine SWl.ef (S := [_]) (Ef.storeA 4 rfl rfl rfl (by kernel_rfl) rfl (List.mem_singleton.2 rfl)) ?_
        rintro _ rfl
        refine SWl.rd rfl (Rd.assign rfl) ?_
        refine SWl.nil ?_
        refine SN.then ?_
        refine SW.seq ?_
        obtain ⟨R, hR⟩ : ∃ R, R = Act.run l := ⟨_, rfl⟩
        have hf : Acc.Fine R := by rw [hR]; exact Act.fine_run l
        refine SW.sub (σ' := St.ob [(9, isD (.pointer (some ⟨gb, 0, none⟩))), (10, isD (.pointer (some ⟨g10, 0, none⟩))), (11, boolD true)] [.c gb [isD (.map (s.M.map Prod.fst)), isD (.slice s.n.A (Acc.nm R).length s.n.c), isD (.map (s.M.map Prod.snd))], .r s.n.F (vecT 9 1 encT s.n.A s.n.c (Acc.nm R)), .r s.F1 (mapQ (s.M.map Prod.fst) encS (Acc.nm R) (acD R)), .r s.F2 (mapQ (s.M.map Prod.snd) encSt (Acc.seats R) (seD R)), .c g10 [lsD encA R]]) (⟨⟨_, rfl, ⟨⟨_, rfl, Le.refl _⟩, ⟨⟨_, rfl, Le.refl _⟩, ⟨⟨_, rfl, Le.refl _⟩, trivial⟩⟩⟩⟩, [0, 1, 2, 3, 4], by decide, ⟨⟨_, rfl, ⟨Le.refl _, Le.is (by rw [hR]), Le.refl _, trivial⟩⟩, ⟨⟨_, rfl, leVec (by rw [hR]) (by rw [hR])⟩, ⟨⟨_, rfl, (by rw [hR]; exact LeR.refl _)⟩, ⟨⟨_, rfl, (by rw [hR]; exact LeR.refl _)⟩, ⟨⟨_, rfl, ⟨(by rw [hR]; exact Le.refl _), trivial⟩⟩, trivial⟩⟩⟩⟩⟩⟩) ?_
        refine SW.draw (gb :: (s.n.F ++ (s.F1 ++ (s.F2 ++ [])))) (.r 0 (.r 1 (.r 2 (.r 5 (.e 3 (.r 4 (.n 6 (.r 7 (.r 8 (.r 9 (.r 10 (.n 11 (.r 12 (.r 13 .fin)) .no))))) .no)) .no))))) (by kernel_rfl) (by kernel_rfl) (fun d _ _ _ _ h => by cases d <;> exact h) ?_
        refine SWz.rd (i := 0) rfl rfl (Rd.move rfl) ?_
        refine SWz.rd (i := 1) rfl rfl (Rd.move rfl) ?_
        refine SWz.rdg (i := 2) rfl rfl rfl (rfl) rfl rfl (Rd.move rfl) ?_
        refine SWz.rdg (i := 5) rfl rfl rfl (rfl) rfl rfl (Rd.loadA 4 1 rfl rfl (by kernel_rfl) rfl (ap_cons 0 rfl (by decide) (ap_app 1 rfl (by decide) (ap_app 2 rfl (by decide) (ap_app 3 rfl (by decide) ap_nil))))) ?_
        refine SWz.efeg (i := 3) rfl rfl rfl (rfl) rfl (Ef.callR [0, 1, 2, 3] (con_encodeB gb s R hf) rfl ⟨Le.refl _, trivial⟩ (by decide) ⟨⟨_, rfl, LeAll.refl _⟩, ⟨⟨_, rfl, LeR.refl _⟩, ⟨⟨_, rfl, LeR.refl _⟩, ⟨⟨_, rfl, LeR.refl _⟩, trivial⟩⟩⟩⟩ (fun _ h => h) rfl) ?_ SWz.no
        rintro _ ⟨⟨⟩, rfl⟩
        refine SWz.rdg (i := 4) rfl rfl rfl (rfl) rfl rfl (Rd.str (e := 5) rfl (by kernel_rfl) (by kernel_rfl) (by kernel_rfl) (ins_cons (j := 1) rfl (ins_app (j := 2) rfl (ins_app (j := 3) rfl (ins_app (j := 4) rfl ins_nil))))) ?_
        refine SWz.efng (i := 6) rfl rfl rfl (rfl) rfl (Ef.call ((con_encodeBR R hf).toC) rfl ⟨Le.refl _, trivial⟩ rfl) ?_ SWz.no
        rintro _ rfl
        refine SWz.rdg (i := 7) rfl rfl rfl (rfl) rfl rfl (Rd.str (e := 5) rfl (by kernel_rfl) (by kernel_rfl) (by kernel_rfl) (ins_cons (j := 1) rfl (ins_app (j := 2) rfl (ins_app (j := 3) rfl (ins_app (j := 4) rfl ins_nil))))) ?_
        refine SWz.rdg (i := 8) rfl rfl rfl (rfl) rfl rfl (Rd.eqs (p := encBook R) (q := encBook R) rfl rfl) ?_
        refine SWz.rd (i := 9) rfl rfl (Rd.pickY rfl (rfl) rfl) ?_
        refine SWz.rd (i := 10) rfl rfl (Rd.move rfl) ?_
        refine SWz.efng (i := 11) rfl rfl rfl (by simp) rfl (Ef.callN [] (con_known41) rfl trivial rfl) ?_ SWz.no
        rintro _ rfl
        refine SWz.rd (i := 12) rfl rfl (Rd.pickY rfl (by simp) rfl) ?_
        refine SWz.rd (i := 13) rfl rfl (Rd.assign rfl) ?_
        refine SWz.nil ?_
        refine SN.then ?_
        refine SW.ret (fn := Try.f6) (fun _ _ h => h) (Rs.le (Rs.one rfl (ResV.tmp rfl)) ?_)
        exact le_bool_n rfl
end Sx
end Go.Proofs.Ytgcnpnbgjejkaaa
