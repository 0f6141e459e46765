/-
  LEDGERS: LedgerHolds.
-/
import Derived.Test.YtonjpfpdpfonnaaDoorL35
namespace Go.Proofs.YtonjpfpdpfonnaaDoor
open Go.RowKit
namespace Sx
theorem cpath_le {es : List Led.Ent} {m : Nat} (h : m ≤ es.length) (hn : es.length ≤ 4096) : (cpath es m).length ≤ 1000000 := by
  unfold cpath
  split
  · simp
  · have := cons_le es m true (by omega) h
    omega
theorem f0_take {f0 m0 es : List Led.Ent} (hes : es = f0 ++ m0) {i : Nat} (h : i ≤ f0.length) : es.take i = f0.take i := by rw [hes, List.take_append_of_le_length h]
theorem fits_step {f0 m : List Led.Ent} {j : Nat} {e : Led.Ent} (he : m[j]? = some e) : f0 ++ Led.fits (m.take (j + 1)) = if Led.Ent.fit e then (f0 ++ Led.fits (m.take j)) ++ [e] else f0 ++ Led.fits (m.take j) := by
  rw [fits_snoc he]
  split
  · rw [List.append_assoc]
  · rfl
set_option maxHeartbeats 4000000 in
set_option maxRecDepth 100000 in
theorem ledgerHolds_con (l m : List Led.Ent) (hl : l.length ≤ 9223372036854775807) (hm : m.length ≤ 9223372036854775807) : ConN Tryd.prog 9 [lsD encE l, lsD encE m] (boolD true) := by
  refine con_ofN Tryd.func9 (by kernel_rfl) rfl (by kernel_rfl) fun base w0 => ?_
  refine SW.seq ?_
  refine SW.region ?_
  refine SWl.rd rfl (Rd.assign rfl) ?_
  refine SWl.nil ?_
  refine SN.then ?_
  refine SW.seq ?_
  refine SW.seq ?_
  refine SW.region ?_
  refine SWl.rd rfl (Rd.move rfl) ?_
  refine SWl.ef (S := []) (Ef.callN [] (con_few l 16 hl) rfl ⟨(sees_le (Le.refl _)), (sees_le (Le.refl _)), trivial⟩ rfl) ?_
  rintro _ rfl
  refine SWl.rd rfl (Rd.not rfl) ?_
  refine SWl.rd rfl (Rd.move rfl) ?_
  refine SWl.split 34 rfl (fun hb34 => ?_) (fun hb34 => ?_)
  · skip
    refine SWl.off rfl rfl (hb34) rfl rfl ?_
    refine SWl.off rfl rfl (hb34) rfl rfl ?_
    refine SWl.off rfl rfl (hb34) rfl rfl ?_
    refine SWl.rd rfl (Rd.pickY rfl (hb34) rfl) ?_
    refine SWl.nil ?_
    refine SN.then ?_
    refine SW.condT rfl (rfl) ?_
    refine SW.seq ?_
    refine SW.region ?_
    refine SWl.ef (S := []) (Ef.callN [] (con_known43) rfl trivial rfl) ?_
    rintro _ rfl
    refine SWl.rd rfl (Rd.assign rfl) ?_
    refine SWl.nil ?_
    refine SN.then ?_
    refine SW.ret (fn := Tryd.f9) (fun _ _ h => h) (Rs.le (Rs.one rfl (ResV.tmp rfl)) ?_)
    exact le_bool_n (by rfl)
  · have hq := of_decide_eq_true (show decide ((∀ e ∈ l, e.bytes.length ≤ 200) ∧ l.length ≤ 16) = true from by simpa using hb34)
    refine SWl.rdg rfl rfl (hb34) rfl rfl (Rd.move rfl) ?_
    refine SWl.efg (S := []) rfl rfl (hb34) rfl (Ef.callN [] (con_few m 8 hm) rfl ⟨(sees_le (Le.refl _)), (sees_le (Le.refl _)), trivial⟩ rfl) ?_
    rintro _ rfl
    refine SWl.rdg rfl rfl (hb34) rfl rfl (Rd.not rfl) ?_
    refine SWl.rd rfl (Rd.pickN rfl (hb34) rfl) ?_
    refine SWl.nil ?_
    refine SN.then ?_
    refine SW.cond rfl (fun hb38 => ?_) (fun hb38 => ?_)
    · skip
      refine SW.seq ?_
      refine SW.region ?_
      refine SWl.ef (S := []) (Ef.callN [] (con_known43) rfl trivial rfl) ?_
      rintro _ rfl
      refine SWl.rd rfl (Rd.assign rfl) ?_
      refine SWl.nil ?_
      refine SN.then ?_
      refine SW.ret (fn := Tryd.f9) (fun _ _ h => h) (Rs.le (Rs.one rfl (ResV.tmp rfl)) ?_)
      exact le_bool_n (by rfl)
    · have hp := of_decide_eq_true (show decide ((∀ e ∈ m, e.bytes.length ≤ 200) ∧ m.length ≤ 8) = true from by simpa using hb38)
      refine SW.skip ?_
      refine SN.then ?_
      refine SW.seq ?_
      refine SW.region ?_
      refine SWl.rd rfl (Rd.move rfl) ?_
      refine SWl.ef (S := []) (Ef.callR [] (con_madeO l (by omega) (fun e he => by have := hq.1 e he; omega)) rfl ⟨Le.refl _, trivial⟩ (by decide) trivial (fun _ h => h) rfl) ?_
      rintro _ ⟨⟨ga, sa, va⟩, rfl⟩
      refine SWl.rd rfl (Rd.move rfl) ?_
      refine SWl.rd rfl (Rd.extract rfl rfl) ?_
      refine SWl.rd rfl (Rd.extract rfl rfl) ?_
      refine SWl.rd rfl (Rd.extract rfl rfl) ?_
      refine SWl.rd rfl (Rd.assign rfl) ?_
      refine SWl.rd rfl (Rd.assign rfl) ?_
      refine SWl.rd rfl (Rd.assign rfl) ?_
      refine SWl.nil ?_
      refine SN.then ?_
      refine SW.seq ?_
      refine SW.seq ?_
      obtain ⟨f0, hf0⟩ : ∃ f, f = Led.fits l := ⟨_, rfl⟩
      have hfl : f0.length ≤ 16 := by rw [hf0]; exact Nat.le_trans (fits_len l) hq.2
      have hff : ∀ e ∈ f0, Led.Ent.fit e := by rw [hf0]; exact fits_fit
      refine SW.sub (σ' := St.ob [(1, lsD encE m), (5, isD (.pointer (some ⟨ga, 0, none⟩))), (6, isD (.slice va.A (f0).length va.c)), (7, boolD true)] [.c ga [isD (.slice sa.A (f0).length sa.c), isD (.map sa.M)], ledE sa (f0), ledM sa (f0), .r va.F (vecT 44 2 encE va.A va.c (f0))]) (⟨⟨_, rfl, ⟨⟨_, rfl, Le.refl _⟩, ⟨⟨_, rfl, Le.refl _⟩, ⟨⟨_, rfl, Le.is (by rw [hf0])⟩, ⟨⟨_, rfl, Le.refl _⟩, trivial⟩⟩⟩⟩⟩, [0, 1, 2, 3], by decide, ⟨⟨_, rfl, ⟨Le.is (by rw [hf0]), Le.refl _, trivial⟩⟩, ⟨⟨_, rfl, leVec (by rw [hf0]) (by rw [hf0])⟩, ⟨⟨_, rfl, leMap (by rw [hf0]) (by rw [hf0])⟩, ⟨⟨_, rfl, leVec (by rw [hf0]) (by rw [hf0])⟩, trivial⟩⟩⟩⟩⟩) ?_
      refine SW.region ?_
      refine SWl.rd rfl (Rd.move rfl) ?_
      refine SWl.rd rfl (Rd.not rfl) ?_
      refine SWl.nil ?_
      refine SN.then ?_
      refine SW.condF rfl (rfl) ?_
      refine SW.skip ?_
      refine SN.then ?_
      refine SW.seq ?_
      refine SW.region ?_
      refine SWl.rd rfl (Rd.assign rfl) ?_
      refine SWl.nil ?_
      refine SN.then ?_
      refine SW.seq ?_
      refine SW.seq ?_
      refine SW.vecN 28 1 encL ?_
      refine SW.region ?_
      refine SWl.rd rfl (Rd.assign rfl) ?_
      refine SWl.nil ?_
      refine SN.then ?_
      refine SW.block ?_
      refine SW.loop (ι := {p : Nat × Vst // p.1 ≤ f0.length + 1}) (fun p => St.ob [(1, lsD encE m), (5, isD (.pointer (some ⟨ga, 0, none⟩))), (6, isD (.slice va.A (f0).length va.c)), (8, isD (.slice p.1.2.A (rts f0 p.1.1).length p.1.2.c)), (9, iD (p.1.1 : Int))] [.c ga [isD (.slice sa.A (f0).length sa.c), isD (.map sa.M)], ledE sa (f0), ledM sa (f0), .r va.F (vecT 44 2 encE va.A va.c (f0)), .r p.1.2.F (vecT 28 1 encL p.1.2.A p.1.2.c (rts f0 p.1.1))]) (fun p => f0.length + 1 - p.1.1) (⟨(0, ⟨none, 0, []⟩), by simp⟩) ?_ ?_
      · exact ⟨⟨_, rfl, ⟨⟨_, rfl, Le.refl _⟩, ⟨⟨_, rfl, Le.refl _⟩, ⟨⟨_, rfl, Le.refl _⟩, ⟨⟨_, rfl, Le.refl _⟩, ⟨⟨_, rfl, Le.refl _⟩, trivial⟩⟩⟩⟩⟩⟩, [0, 1, 2, 3, 4], by decide, ⟨⟨_, rfl, LeAll.refl _⟩, ⟨⟨_, rfl, LeR.refl _⟩, ⟨⟨_, rfl, LeR.refl _⟩, ⟨⟨_, rfl, LeR.refl _⟩, ⟨⟨_, rfl, LeR.refl _⟩, trivial⟩⟩⟩⟩⟩⟩
      · rintro ⟨⟨i, v⟩, hi⟩ K0 hK0
        dsimp only at hi ⊢
        refine SW.seq ?_
        refine SW.seq ?_
        refine SW.region ?_
        refine SWl.rd rfl (Rd.move rfl) ?_
        refine SWl.rd rfl (Rd.move rfl) ?_
        refine SWl.rd rfl (Rd.lenE (e := 44) rfl (by kernel_rfl)) ?_
        refine SWl.rd rfl (Rd.leq rfl rfl) ?_
        refine SWl.nil ?_
        refine SN.then ?_
        refine SW.cond rfl (fun hb51 => ?_) (fun hb51 => ?_)
        · have hb51 := of_decide_eq_true hb51
          refine SW.skip ?_
          refine SN.then ?_
          refine SW.seq ?_
          refine SW.block ?_
          refine SW.seq ?_
          refine SW.region ?_
          refine SWl.rd rfl (Rd.move rfl) ?_
          refine SWl.rd rfl (Rd.move rfl) ?_
          refine SWl.ef (S := []) (Ef.callN [0, 1, 2] (con_root f0 (by omega) i (by omega)) rfl ⟨(sees_box 0 rfl (by decide) ⟨(sees_vec 1 rfl (by decide)), (sees_map 2 rfl (by decide)), trivial⟩), (sees_le (Le.refl _)), trivial⟩ rfl) ?_
          rintro _ rfl
          refine SWl.rd rfl (Rd.move rfl) ?_
          refine SWl.rd rfl (Rd.extract rfl rfl) ?_
          refine SWl.rd rfl (Rd.extract rfl rfl) ?_
          refine SWl.rd rfl (Rd.assign rfl) ?_
          refine SWl.rd rfl (Rd.assign rfl) ?_
          refine SWl.nil ?_
          refine SN.then ?_
          refine SW.seq ?_
          refine SW.seq ?_
          refine SW.region ?_
          refine SWl.rd rfl (Rd.move rfl) ?_
          refine SWl.rd rfl (Rd.nei rfl rfl) ?_
          refine SWl.rd rfl (Rd.move rfl) ?_
          refine SWl.rdg rfl rfl (by rfl) rfl rfl (Rd.move rfl) ?_
          refine SWl.rdg rfl rfl (by rfl) rfl rfl (Rd.len (e := 5) rfl (by kernel_rfl)) ?_
          refine SWl.rdg rfl rfl (by rfl) rfl rfl (Rd.nei rfl rfl) ?_
          refine SWl.rd rfl (Rd.pickN rfl (by rfl) rfl) ?_
          refine SWl.nil ?_
          refine SN.then ?_
          refine SW.condF rfl (by simp) ?_
          refine SW.skip ?_
          refine SN.then ?_
          refine SW.region ?_
          refine SWl.rd rfl (Rd.move rfl) ?_
          refine SWl.rd rfl (Rd.move rfl) ?_
          refine SWl.ef (S := []) (Ef.litR rfl rfl (blsL _) rfl) ?_
          rintro _ rfl
          refine SWl.ef (Ef.appT 4 1 24 rfl rfl (SrcT.ls (l := [_]) rfl) (by kernel_rfl) (by kernel_rfl) (by rw [rts_len]; simp; omega) (by decide) (fun _ h => h) rfl) ?_
          rintro _ ⟨A70, F70, c70, rfl⟩
          refine SWl.rd rfl (Rd.assign rfl) ?_
          refine SWl.nil ?_
          refine SN.block ?_
          refine SN.then ?_
          refine SW.region ?_
          refine SWl.rd rfl (Rd.move rfl) ?_
          refine SWl.rd rfl (Rd.add rfl rfl ⟨by omega, by omega⟩) ?_
          refine SWl.rd rfl (Rd.assign rfl) ?_
          refine SWl.nil ?_
          exact fun a w hh => hK0 (⟨(i + 1, ⟨A70, c70, F70⟩), by simp only; omega⟩) (by simp only; omega) a w (hh.sub (⟨⟨_, rfl, ⟨⟨_, rfl, Le.refl _⟩, ⟨⟨_, rfl, Le.refl _⟩, ⟨⟨_, rfl, Le.refl _⟩, ⟨⟨_, rfl, Le.is (by rw [rts_succ])⟩, ⟨⟨_, rfl, Le.refl _⟩, trivial⟩⟩⟩⟩⟩⟩, [0, 1, 2, 3, 4], by decide, ⟨⟨_, rfl, LeAll.refl _⟩, ⟨⟨_, rfl, LeR.refl _⟩, ⟨⟨_, rfl, LeR.refl _⟩, ⟨⟨_, rfl, LeR.refl _⟩, ⟨⟨_, rfl, leVec (by rw [rts_succ]) (by rw [rts_succ])⟩, trivial⟩⟩⟩⟩⟩⟩))
        · have hb51 := of_decide_eq_false hb51
          refine SW.exit' ?_
          repeat (first | refine SE.then ?_ | refine SE.skip (by decide) ?_)
          refine SE.here ?_
          refine SN.then ?_
          refine SW.seq ?_
          obtain rfl : i = f0.length + 1 := by omega
          refine SW.freezeT 4 8 rfl rfl (Le.refl _) ?_
          refine SW.sub (σ' := St.ob [(1, lsD encE m), (5, isD (.pointer (some ⟨ga, 0, none⟩))), (6, isD (.slice va.A (f0).length va.c)), (8, lsD encL (rts f0 (f0.length + 1)))] [.c ga [isD (.slice sa.A (f0).length sa.c), isD (.map sa.M)], ledE sa (f0), ledM sa (f0), .r va.F (vecT 44 2 encE va.A va.c (f0))]) (⟨⟨_, rfl, ⟨⟨_, rfl, Le.refl _⟩, ⟨⟨_, rfl, Le.refl _⟩, ⟨⟨_, rfl, Le.refl _⟩, ⟨⟨_, rfl, Le.refl _⟩, trivial⟩⟩⟩⟩⟩, [0, 1, 2, 3], by decide, ⟨⟨_, rfl, LeAll.refl _⟩, ⟨⟨_, rfl, LeR.refl _⟩, ⟨⟨_, rfl, LeR.refl _⟩, ⟨⟨_, rfl, LeR.refl _⟩, trivial⟩⟩⟩⟩⟩) ?_
          refine SW.region ?_
          refine SWl.rd rfl (Rd.move rfl) ?_
          refine SWl.ef (Ef.callR [0, 1, 2] (con_copyL ga sa f0 (by omega)) rfl ⟨Le.refl _, trivial⟩ (by decide) ⟨⟨_, rfl, LeAll.refl _⟩, ⟨⟨_, rfl, LeR.refl _⟩, ⟨⟨_, rfl, LeR.refl _⟩, trivial⟩⟩⟩ (fun _ h => h) rfl) ?_
          rintro _ ⟨⟨gc, sc⟩, rfl⟩
          refine SWl.rd rfl (Rd.assign rfl) ?_
          refine SWl.nil ?_
          refine SN.then ?_
          refine SW.seq ?_
          refine SW.seq ?_
          refine SW.region ?_
          refine SWl.rd rfl (Rd.move rfl) ?_
          refine SWl.rd rfl (Rd.eqP rfl rfl (by kernel_rfl)) ?_
          refine SWl.nil ?_
          refine SN.then ?_
          refine SW.condF rfl (rfl) ?_
          refine SW.skip ?_
          refine SN.then ?_
          refine SW.seq ?_
          refine SW.seq ?_
          refine SW.region ?_
          refine SWl.rd rfl (Rd.assign rfl) ?_
          refine SWl.nil ?_
          refine SN.then ?_
          refine SW.block ?_
          have he0 : f0 ++ Led.fits (m.take 0) = f0 := by rw [List.take_zero]; simp [Led.fits]
          refine SW.loop (ι := {p : Nat × Lst × Vst // p.1 ≤ m.length}) (fun p => St.ob [(1, lsD encE m), (5, isD (.pointer (some ⟨ga, 0, none⟩))), (6, isD (.slice p.1.2.2.A (f0 ++ Led.fits (m.take p.1.1)).length p.1.2.2.c)), (8, lsD encL (rts f0 (f0.length + 1))), (12, isD (.pointer (some ⟨gc, 0, none⟩))), (13, iD (p.1.1 : Int))] [.c ga [isD (.slice sa.A (f0).length sa.c), isD (.map sa.M)], ledE sa (f0), ledM sa (f0), .c gc [isD (.slice p.1.2.1.A (f0 ++ Led.fits (m.take p.1.1)).length p.1.2.1.c), isD (.map p.1.2.1.M)], ledE p.1.2.1 (f0 ++ Led.fits (m.take p.1.1)), ledM p.1.2.1 (f0 ++ Led.fits (m.take p.1.1)), .r p.1.2.2.F (vecT 44 2 encE p.1.2.2.A p.1.2.2.c (f0 ++ Led.fits (m.take p.1.1)))]) (fun p => m.length - p.1.1) (⟨(0, sc, va), by simp⟩) ?_ ?_
          · exact ⟨⟨_, rfl, ⟨⟨_, rfl, Le.refl _⟩, ⟨⟨_, rfl, Le.refl _⟩, ⟨⟨_, rfl, Le.is (by rw [he0])⟩, ⟨⟨_, rfl, Le.refl _⟩, ⟨⟨_, rfl, Le.refl _⟩, ⟨⟨_, rfl, Le.refl _⟩, trivial⟩⟩⟩⟩⟩⟩⟩, [1, 2, 3, 4, 5, 6, 0], by decide, ⟨⟨_, rfl, LeAll.refl _⟩, ⟨⟨_, rfl, LeR.refl _⟩, ⟨⟨_, rfl, LeR.refl _⟩, ⟨⟨_, rfl, ⟨Le.is (by rw [he0]), Le.refl _, trivial⟩⟩, ⟨⟨_, rfl, leVec (by rw [he0]) (by rw [he0])⟩, ⟨⟨_, rfl, leMap (by rw [he0]) (by rw [he0])⟩, ⟨⟨_, rfl, leVec (by rw [he0]) (by rw [he0])⟩, trivial⟩⟩⟩⟩⟩⟩⟩⟩
          · rintro ⟨⟨j, s, v⟩, hj⟩ K1 hK1
            dsimp only at hj ⊢
            refine SW.seq ?_
            refine SW.seq ?_
            refine SW.region ?_
            refine SWl.rd rfl (Rd.move rfl) ?_
            refine SWl.rd rfl (Rd.move rfl) ?_
            refine SWl.rd rfl (Rd.lenR (e := 44) rfl (by kernel_rfl)) ?_
            refine SWl.rd rfl (Rd.lss rfl rfl) ?_
            refine SWl.nil ?_
            refine SN.then ?_
            refine SW.cond rfl (fun hb78 => ?_) (fun hb78 => ?_)
            · have hb78 := of_decide_eq_true hb78
              refine SW.skip ?_
              refine SN.then ?_
              refine SW.seq ?_
              refine SW.block ?_
              refine SW.seq ?_
              refine SW.region ?_
              obtain ⟨e, he⟩ : ∃ e, m[j]? = some e := ⟨_, List.getElem?_eq_getElem (by omega)⟩
              obtain ⟨ha1, ha2, ha3⟩ := app_fit (es := f0 ++ Led.fits (m.take j)) (e := e) (by have := fits_len (m.take j); rw [List.length_append]; simp at *; omega)
              have hej : (f0 ++ Led.fits (m.take j)).length ≤ 24 := by have := fits_len (m.take j); rw [List.length_append]; simp at *; omega
              refine SWl.rd rfl (Rd.move rfl) ?_
              refine SWl.rd rfl (Rd.move rfl) ?_
              refine SWl.rd rfl (Rd.move rfl) ?_
              refine SWl.rd rfl (Rd.idxL (e := 44) 2 rfl rfl (by kernel_rfl) (by kernel_rfl) (by omega) (by simpa using he)) ?_
              refine SWl.rd rfl (Rd.loadRA 2 rfl (by kernel_rfl) (by decide) (show 2 ≤ 2 by decide) (by simp)) ?_
              refine SWl.lookA 86 rfl fun A86 c86 => ?_
              refine SWl.ef (Ef.callR [3, 4, 5, 7] (con_append gc s (f0 ++ Led.fits (m.take j)) _ e.kind e.bytes A86 c86 [] _ (isView_viewB _ _ _ _ rfl) (by omega) rfl) rfl ⟨Le.refl _, Le.refl _, trivial⟩ (by decide) ⟨⟨_, rfl, LeAll.refl _⟩, ⟨⟨_, rfl, LeR.refl _⟩, ⟨⟨_, rfl, LeR.refl _⟩, ⟨⟨_, rfl, LeR.refl _⟩, trivial⟩⟩⟩⟩ (fun _ h => h) rfl) ?_
              rintro _ ⟨s87, rfl⟩
              refine SWl.rd rfl (Rd.move rfl) ?_
              refine SWl.rd rfl (Rd.extract rfl rfl) ?_
              refine SWl.rd rfl (Rd.extract rfl rfl) ?_
              refine SWl.rd rfl (Rd.assign rfl) ?_
              refine SWl.rd rfl (Rd.assign rfl) ?_
              refine SWl.nil ?_
              refine SN.then ?_
              refine SW.seq ?_
              refine SW.region ?_
              refine SWl.rd rfl (Rd.move rfl) ?_
              refine SWl.rd rfl (Rd.eqi rfl rfl) ?_
              refine SWl.nil ?_
              refine SN.then ?_
              refine SW.cond rfl (fun hb91 => ?_) (fun hb91 => ?_)
              · have hf : Led.Ent.fit e := Classical.byContradiction fun hn => by rw [ha2, if_neg hn] at hb91; simp at hb91
                refine SW.region ?_
                refine SWl.rd rfl (Rd.move rfl) ?_
                refine SWl.rd rfl (Rd.move rfl) ?_
                refine SWl.rd rfl (Rd.move rfl) ?_
                refine SWl.rd rfl (Rd.idxL (e := 44) 2 rfl rfl (by kernel_rfl) (by kernel_rfl) (by omega) (by simpa using he)) ?_
                refine SWl.rd rfl (Rd.loadRA 2 rfl (by kernel_rfl) (by decide) (show 2 ≤ 2 by decide) (by simp)) ?_
                refine SWl.ef (S := []) (Ef.litR rfl rfl (blsE1 e.kind e.bytes) rfl) ?_
                rintro _ rfl
                refine SWl.ef (Ef.appT 3 2 32 rfl rfl (SrcT.ls (l := [_]) rfl) (by kernel_rfl) (by kernel_rfl) (by simp at hej ⊢; omega) (by decide) (fun _ h => h) rfl) ?_
                rintro _ ⟨A98, F98, c98, rfl⟩
                refine SWl.rd rfl (Rd.assign rfl) ?_
                refine SWl.nil ?_
                refine SN.block ?_
                refine SN.then ?_
                refine SW.region ?_
                refine SWl.rd rfl (Rd.move rfl) ?_
                refine SWl.rd rfl (Rd.add rfl rfl ⟨by omega, by omega⟩) ?_
                refine SWl.rd rfl (Rd.assign rfl) ?_
                refine SWl.nil ?_
                have hT := fits_step (f0 := f0) he
                rw [if_pos hf] at hT ha1
                have hA := ha1
                exact fun a w hh => hK1 (⟨(j + 1, s87, ⟨A98, c98, F98⟩), by simp only; omega⟩) (by simp only; omega) a w (hh.sub (⟨⟨_, rfl, ⟨⟨_, rfl, Le.refl _⟩, ⟨⟨_, rfl, Le.refl _⟩, ⟨⟨_, rfl, Le.is (by rw [hT])⟩, ⟨⟨_, rfl, Le.refl _⟩, ⟨⟨_, rfl, Le.refl _⟩, ⟨⟨_, rfl, Le.refl _⟩, trivial⟩⟩⟩⟩⟩⟩⟩, [0, 1, 2, 3, 4, 5, 7], by decide, ⟨⟨_, rfl, LeAll.refl _⟩, ⟨⟨_, rfl, LeR.refl _⟩, ⟨⟨_, rfl, LeR.refl _⟩, ⟨⟨_, rfl, ⟨Le.is (by rw [hT, hA]), Le.refl _, trivial⟩⟩, ⟨⟨_, rfl, leVec (by rw [hT, hA]) (by rw [hT, hA])⟩, ⟨⟨_, rfl, leMap (by rw [hT, hA]) (by rw [hT, hA])⟩, ⟨⟨_, rfl, leVec (by rw [hT]) (by rw [hT])⟩, trivial⟩⟩⟩⟩⟩⟩⟩⟩))
              · have hf : ¬ Led.Ent.fit e := fun hn => by rw [ha2, if_pos hn] at hb91; simp at hb91
                refine SW.skip ?_
                refine SN.block ?_
                refine SN.then ?_
                refine SW.region ?_
                refine SWl.rd rfl (Rd.move rfl) ?_
                refine SWl.rd rfl (Rd.add rfl rfl ⟨by omega, by omega⟩) ?_
                refine SWl.rd rfl (Rd.assign rfl) ?_
                refine SWl.nil ?_
                have hT := fits_step (f0 := f0) he
                rw [if_neg hf] at hT ha1
                have hA := ha1
                exact fun a w hh => hK1 (⟨(j + 1, s87, v), by simp only; omega⟩) (by simp only; omega) a w (hh.sub (⟨⟨_, rfl, ⟨⟨_, rfl, Le.refl _⟩, ⟨⟨_, rfl, Le.refl _⟩, ⟨⟨_, rfl, Le.is (by rw [hT])⟩, ⟨⟨_, rfl, Le.refl _⟩, ⟨⟨_, rfl, Le.refl _⟩, ⟨⟨_, rfl, Le.refl _⟩, trivial⟩⟩⟩⟩⟩⟩⟩, [0, 1, 2, 4, 5, 6, 3], by decide, ⟨⟨_, rfl, LeAll.refl _⟩, ⟨⟨_, rfl, LeR.refl _⟩, ⟨⟨_, rfl, LeR.refl _⟩, ⟨⟨_, rfl, ⟨Le.is (by rw [hT, hA]), Le.refl _, trivial⟩⟩, ⟨⟨_, rfl, leVec (by rw [hT, hA]) (by rw [hT, hA])⟩, ⟨⟨_, rfl, leMap (by rw [hT, hA]) (by rw [hT, hA])⟩, ⟨⟨_, rfl, leVec (by rw [hT]) (by rw [hT])⟩, trivial⟩⟩⟩⟩⟩⟩⟩⟩))
            · have hb78 := of_decide_eq_false hb78
              refine SW.exit' ?_
              repeat (first | refine SE.then ?_ | refine SE.skip (by decide) ?_)
              refine SE.here ?_
              refine SN.then ?_
              refine SW.seq ?_
              obtain ⟨es, hes⟩ : ∃ es, es = f0 ++ Led.fits m := ⟨_, rfl⟩
              have hjm : m.take j = m := List.take_of_length_le (by omega)
              have hel : es.length ≤ 24 := by have := fits_len m; rw [hes, List.length_append]; omega
              have hef : f0.length ≤ es.length := by rw [hes, List.length_append]; omega
              have hfe : ∀ e ∈ es, Led.Ent.fit e := fun e he => by rw [hes] at he; rcases List.mem_append.1 he with h | h; exact hff e h; exact fits_fit e h
              have htk : ∀ {i : Nat}, i ≤ f0.length → es.take i = f0.take i := fun h => f0_take hes h
              have hEs : f0 ++ Led.fits (m.take j) = es := by rw [hjm, hes]
              refine SW.sub (σ' := St.ob [(5, isD (.pointer (some ⟨ga, 0, none⟩))), (6, isD (.slice v.A (es).length v.c)), (8, lsD encL (rts f0 (f0.length + 1))), (12, isD (.pointer (some ⟨gc, 0, none⟩)))] [.c ga [isD (.slice sa.A (f0).length sa.c), isD (.map sa.M)], ledE sa (f0), ledM sa (f0), .c gc [isD (.slice s.A (es).length s.c), isD (.map s.M)], ledE s (es), ledM s (es), .r v.F (vecT 44 2 encE v.A v.c (es))]) (⟨⟨_, rfl, ⟨⟨_, rfl, Le.refl _⟩, ⟨⟨_, rfl, Le.is (by rw [hEs])⟩, ⟨⟨_, rfl, Le.refl _⟩, ⟨⟨_, rfl, Le.refl _⟩, trivial⟩⟩⟩⟩⟩, [0, 1, 2, 3, 4, 5, 6], by decide, ⟨⟨_, rfl, LeAll.refl _⟩, ⟨⟨_, rfl, LeR.refl _⟩, ⟨⟨_, rfl, LeR.refl _⟩, ⟨⟨_, rfl, ⟨Le.is (by rw [hEs]), Le.refl _, trivial⟩⟩, ⟨⟨_, rfl, leVec (by rw [hEs]) (by rw [hEs])⟩, ⟨⟨_, rfl, leMap (by rw [hEs]) (by rw [hEs])⟩, ⟨⟨_, rfl, leVec (by rw [hEs]) (by rw [hEs])⟩, trivial⟩⟩⟩⟩⟩⟩⟩⟩) ?_
              refine SW.region ?_
              refine SWl.rd rfl (Rd.move rfl) ?_
              refine SWl.freezeT 6 6 rfl rfl (Le.refl _) ?_
              refine SWl.ef (S := []) (Ef.callN [3, 4, 5] (con_len es) rfl ⟨(sees_box 3 rfl (by decide) ⟨(sees_vec 4 rfl (by decide)), (sees_map 5 rfl (by decide)), trivial⟩), trivial⟩ rfl) ?_
              rintro _ rfl
              refine SWl.rd rfl (Rd.assign rfl) ?_
              refine SWl.nil ?_
              refine SN.then ?_
              refine SW.seq ?_
              refine SW.region ?_
              refine SWl.rd rfl (Rd.move rfl) ?_
              refine SWl.rd rfl (Rd.move rfl) ?_
              refine SWl.ef (S := []) (Ef.callN [3, 4, 5] (con_root es (by omega) es.length (Nat.le_refl _)) rfl ⟨(sees_box 3 rfl (by decide) ⟨(sees_vec 4 rfl (by decide)), (sees_map 5 rfl (by decide)), trivial⟩), (sees_le (Le.refl _)), trivial⟩ rfl) ?_
              rintro _ rfl
              refine SWl.rd rfl (Rd.move rfl) ?_
              refine SWl.rd rfl (Rd.extract rfl rfl) ?_
              refine SWl.rd rfl (Rd.extract rfl rfl) ?_
              refine SWl.rd rfl (Rd.assign rfl) ?_
              refine SWl.rd rfl (Rd.assign rfl) ?_
              refine SWl.nil ?_
              refine SN.then ?_
              refine SW.seq ?_
              refine SW.seq ?_
              refine SW.sub (σ' := St.ob [(5, isD (.pointer (some ⟨ga, 0, none⟩))), (6, lsD encE es), (8, lsD encL (rts f0 (f0.length + 1))), (12, isD (.pointer (some ⟨gc, 0, none⟩))), (16, iD (es.length : Int)), (17, bD (Led.root HH es)), (18, iD 0)] [.c ga [isD (.slice sa.A (f0).length sa.c), isD (.map sa.M)], ledE sa (f0), ledM sa (f0), .c gc [isD (.slice s.A (es).length s.c), isD (.map s.M)], ledE s (es), ledM s (es)]) (⟨⟨_, rfl, ⟨⟨_, rfl, Le.refl _⟩, ⟨⟨_, rfl, Le.refl _⟩, ⟨⟨_, rfl, Le.refl _⟩, ⟨⟨_, rfl, Le.refl _⟩, ⟨⟨_, rfl, Le.refl _⟩, ⟨⟨_, rfl, (by rw [List.take_length]; exact Le.refl _)⟩, ⟨⟨_, rfl, Le.refl _⟩, trivial⟩⟩⟩⟩⟩⟩⟩⟩, [0, 1, 2, 3, 4, 5], by decide, ⟨⟨_, rfl, LeAll.refl _⟩, ⟨⟨_, rfl, LeR.refl _⟩, ⟨⟨_, rfl, LeR.refl _⟩, ⟨⟨_, rfl, LeAll.refl _⟩, ⟨⟨_, rfl, LeR.refl _⟩, ⟨⟨_, rfl, LeR.refl _⟩, trivial⟩⟩⟩⟩⟩⟩⟩) ?_
              refine SW.region ?_
              refine SWl.rd rfl (Rd.move rfl) ?_
              refine SWl.rd rfl (Rd.nei rfl rfl) ?_
              refine SWl.rd rfl (Rd.move rfl) ?_
              refine SWl.rdg rfl rfl (by rfl) rfl rfl (Rd.move rfl) ?_
              refine SWl.rdg rfl rfl (by rfl) rfl rfl (Rd.move rfl) ?_
              refine SWl.rdg rfl rfl (by rfl) rfl rfl (Rd.lenR (e := 44) rfl (by kernel_rfl)) ?_
              refine SWl.rdg rfl rfl (by rfl) rfl rfl (Rd.nei rfl rfl) ?_
              refine SWl.rd rfl (Rd.pickN rfl (by rfl) rfl) ?_
              refine SWl.rd rfl (Rd.move rfl) ?_
              refine SWl.rdg rfl rfl (by simp) rfl rfl (Rd.move rfl) ?_
              refine SWl.efg (S := []) rfl rfl (by simp) rfl (Ef.callN [0, 1, 2] (con_len f0) rfl ⟨(sees_box 0 rfl (by decide) ⟨(sees_vec 1 rfl (by decide)), (sees_map 2 rfl (by decide)), trivial⟩), trivial⟩ rfl) ?_
              rintro _ rfl
              refine SWl.rdg rfl rfl (by simp) rfl rfl (Rd.move rfl) ?_
              refine SWl.rdg rfl rfl (by simp) rfl rfl (Rd.lenR (e := 28) rfl (by kernel_rfl)) ?_
              refine SWl.rdg rfl rfl (by simp) rfl rfl (Rd.subi rfl rfl ⟨by rw [rts_len]; omega, by rw [rts_len]; omega⟩) ?_
              refine SWl.rdg rfl rfl (by simp) rfl rfl (Rd.nei rfl rfl) ?_
              refine SWl.rd rfl (Rd.pickN rfl (by simp) rfl) ?_
              refine SWl.nil ?_
              refine SN.then ?_
              refine SW.condF rfl (by rw [rts_len]; simp) ?_
              refine SW.skip ?_
              refine SN.then ?_
              refine SW.seq ?_
              refine SW.seq ?_
              refine SW.sub (σ' := St.ob [(6, lsD encE es), (8, lsD encL (rts f0 (f0.length + 1))), (12, isD (.pointer (some ⟨gc, 0, none⟩))), (16, iD (es.length : Int)), (17, bD (Led.root HH es))] [.c gc [isD (.slice s.A (es).length s.c), isD (.map s.M)], ledE s (es), ledM s (es)]) (⟨⟨_, rfl, ⟨⟨_, rfl, Le.refl _⟩, ⟨⟨_, rfl, Le.refl _⟩, ⟨⟨_, rfl, Le.refl _⟩, ⟨⟨_, rfl, Le.refl _⟩, ⟨⟨_, rfl, Le.refl _⟩, trivial⟩⟩⟩⟩⟩⟩, [3, 4, 5], by decide, ⟨⟨_, rfl, LeAll.refl _⟩, ⟨⟨_, rfl, LeR.refl _⟩, ⟨⟨_, rfl, LeR.refl _⟩, trivial⟩⟩⟩⟩) ?_
              refine SW.region ?_
              refine SWl.rd rfl (Rd.assign rfl) ?_
              refine SWl.nil ?_
              refine SN.then ?_
              refine SW.block ?_
              refine SW.loop (ι := {i : Nat // i ≤ f0.length + 1}) (fun i => St.ob [(6, lsD encE es), (8, lsD encL (rts f0 (f0.length + 1))), (12, isD (.pointer (some ⟨gc, 0, none⟩))), (16, iD (es.length : Int)), (17, bD (Led.root HH es)), (19, iD (i.1 : Int))] [.c gc [isD (.slice s.A (es).length s.c), isD (.map s.M)], ledE s (es), ledM s (es)]) (fun i => f0.length + 1 - i.1) (⟨0, by omega⟩) ?_ ?_
              · exact ⟨⟨_, rfl, ⟨⟨_, rfl, Le.refl _⟩, ⟨⟨_, rfl, Le.refl _⟩, ⟨⟨_, rfl, Le.refl _⟩, ⟨⟨_, rfl, Le.refl _⟩, ⟨⟨_, rfl, Le.refl _⟩, ⟨⟨_, rfl, Le.refl _⟩, trivial⟩⟩⟩⟩⟩⟩⟩, [0, 1, 2], by decide, ⟨⟨_, rfl, LeAll.refl _⟩, ⟨⟨_, rfl, LeR.refl _⟩, ⟨⟨_, rfl, LeR.refl _⟩, trivial⟩⟩⟩⟩
              · rintro ⟨i, hi⟩ K2 hK2
                dsimp only
                refine SW.seq ?_
                refine SW.seq ?_
                refine SW.region ?_
                refine SWl.rd rfl (Rd.move rfl) ?_
                refine SWl.rd rfl (Rd.move rfl) ?_
                refine SWl.rd rfl (Rd.lenR (e := 28) rfl (by kernel_rfl)) ?_
                refine SWl.rd rfl (Rd.lss rfl rfl) ?_
                refine SWl.nil ?_
                refine SN.then ?_
                refine SW.cond rfl (fun hb126 => ?_) (fun hb126 => ?_)
                · have hb126 := of_decide_eq_true hb126; rw [rts_len] at hb126
                  refine SW.skip ?_
                  refine SN.then ?_
                  refine SW.seq ?_
                  refine SW.block ?_
                  refine SW.seq ?_
                  refine SW.region ?_
                  refine SWl.rd rfl (Rd.move rfl) ?_
                  refine SWl.rd rfl (Rd.move rfl) ?_
                  refine SWl.ef (S := []) (Ef.callN [0, 1, 2] (con_root es (by omega) i (by omega)) rfl ⟨(sees_box 0 rfl (by decide) ⟨(sees_vec 1 rfl (by decide)), (sees_map 2 rfl (by decide)), trivial⟩), (sees_le (Le.refl _)), trivial⟩ rfl) ?_
                  rintro _ rfl
                  refine SWl.rd rfl (Rd.move rfl) ?_
                  refine SWl.rd rfl (Rd.extract rfl rfl) ?_
                  refine SWl.rd rfl (Rd.extract rfl rfl) ?_
                  refine SWl.rd rfl (Rd.assign rfl) ?_
                  refine SWl.rd rfl (Rd.assign rfl) ?_
                  refine SWl.nil ?_
                  refine SN.then ?_
                  refine SW.seq ?_
                  refine SW.region ?_
                  refine SWl.rd rfl (Rd.move rfl) ?_
                  refine SWl.rd rfl (Rd.move rfl) ?_
                  refine SWl.rd rfl (Rd.move rfl) ?_
                  refine SWl.ef (S := []) (Ef.callN [0, 1, 2] (con_consistency_any es (by omega) i (by omega)) rfl ⟨(sees_box 0 rfl (by decide) ⟨(sees_vec 1 rfl (by decide)), (sees_map 2 rfl (by decide)), trivial⟩), (sees_le (Le.refl _)), (sees_le (Le.refl _)), trivial⟩ rfl) ?_
                  rintro _ rfl
                  refine SWl.rd rfl (Rd.move rfl) ?_
                  refine SWl.rd rfl (Rd.extract rfl rfl) ?_
                  refine SWl.rd rfl (Rd.extract rfl rfl) ?_
                  refine SWl.ef (S := []) (Ef.alloc (zs := [.slice none 0 0]) (by kernel_rfl) rfl) ?_
                  rintro _ ⟨g22, rfl⟩
                  refine SWl.ef (S := [_]) (Ef.storeA 3 rfl rfl rfl (by kernel_rfl) rfl (List.mem_singleton.2 rfl)) ?_
                  rintro _ rfl
                  refine SWl.rd rfl (Rd.assign rfl) ?_
                  refine SWl.nil ?_
                  refine SN.then ?_
                  refine SW.seq ?_
                  refine SW.draw [] (.r 0 (.r 1 (.r 2 (.r 3 (.r 4 (.r 5 (.r 6 (.r 7 (.r 8 (.r 9 (.r 10 (.r 11 (.r 12 (.r 13 (.r 14 (.r 15 (.r 16 (.r 17 (.r 18 (.r 19 (.r 20 (.r 21 (.n 22 (.r 23 (.r 24 .fin)) .no))))))))))))))))))))))) (by kernel_rfl) (by kernel_rfl) (fun d _ _ _ _ h => by cases d <;> exact h) ?_
                  refine SWz.rd (i := 0) rfl rfl (Rd.move rfl) ?_
                  refine SWz.rd (i := 1) rfl rfl (Rd.nei rfl rfl) ?_
                  refine SWz.rd (i := 2) rfl rfl (Rd.move rfl) ?_
                  refine SWz.rdg (i := 3) rfl rfl rfl (by rfl) rfl rfl (Rd.move rfl) ?_
                  refine SWz.rdg (i := 4) rfl rfl rfl (by rfl) rfl rfl (Rd.nei rfl rfl) ?_
                  refine SWz.rd (i := 5) rfl rfl (Rd.pickN rfl (by rfl) rfl) ?_
                  refine SWz.rd (i := 6) rfl rfl (Rd.move rfl) ?_
                  refine SWz.rdg (i := 7) rfl rfl rfl (by rfl) rfl rfl (Rd.move rfl) ?_
                  refine SWz.rdg (i := 8) rfl rfl rfl (by rfl) rfl rfl (Rd.str (e := 5) rfl (by kernel_rfl) (by kernel_rfl) (by kernel_rfl) (by simp)) ?_
                  refine SWz.rdg (i := 9) rfl rfl rfl (by rfl) rfl rfl (Rd.move rfl) ?_
                  refine SWz.rdg (i := 10) rfl rfl rfl (by rfl) rfl rfl (Rd.move rfl) ?_
                  refine SWz.rdg (i := 11) rfl rfl rfl (by rfl) rfl rfl (Rd.idxL (e := 28) 1 rfl rfl (by kernel_rfl) (by kernel_rfl) (by omega) (by simpa using rts_get f0 (by omega))) ?_
                  refine SWz.rdg (i := 12) rfl rfl rfl (by rfl) rfl rfl (Rd.loadR rfl rfl (by kernel_rfl) (by simp)) ?_
                  refine SWz.rdg (i := 13) rfl rfl rfl (by rfl) rfl rfl (Rd.str (e := 5) rfl (by kernel_rfl) (by kernel_rfl) (by kernel_rfl) (by simp)) ?_
                  refine SWz.rdg (i := 14) rfl rfl rfl (by rfl) rfl rfl (Rd.nes (p := Led.root HH (es.take i)) (q := Led.root HH (f0.take i)) rfl rfl) ?_
                  refine SWz.rd (i := 15) rfl rfl (Rd.pickN rfl (by rfl) rfl) ?_
                  refine SWz.rd (i := 16) rfl rfl (Rd.move rfl) ?_
                  refine SWz.rdg (i := 17) rfl rfl rfl (by rw [htk (by omega)]; simp) rfl rfl (Rd.move rfl) ?_
                  refine SWz.rdg (i := 18) rfl rfl rfl (by rw [htk (by omega)]; simp) rfl rfl (Rd.move rfl) ?_
                  refine SWz.rdg (i := 19) rfl rfl rfl (by rw [htk (by omega)]; simp) rfl rfl (Rd.move rfl) ?_
                  refine SWz.rdg (i := 20) rfl rfl rfl (by rw [htk (by omega)]; simp) rfl rfl (Rd.move rfl) ?_
                  refine SWz.rdg (i := 21) rfl rfl rfl (by rw [htk (by omega)]; simp) rfl rfl (Rd.loadA 3 1 rfl rfl (by kernel_rfl) rfl ap_nil) ?_
                  refine SWz.efng (i := 22) rfl rfl rfl (by rw [htk (by omega)]; simp) rfl (Ef.callN [] (con_consistent (Led.root HH (es.take i)) (i : Int) (Led.root HH es) (es.length : Int) (cpath es i) (cpath_le (by omega) (by omega))) rfl ⟨(sees_le (Le.refl _)), (sees_le (Le.refl _)), (sees_le (Le.refl _)), (sees_le (Le.refl _)), (sees_agg ⟨(sees_le (Le.refl _)), trivial⟩), trivial⟩ rfl) ?_ SWz.no
                  rintro _ rfl
                  refine SWz.rdg (i := 23) rfl rfl rfl (by rw [htk (by omega)]; simp) rfl rfl (Rd.nei rfl rfl) ?_
                  refine SWz.rd (i := 24) rfl rfl (Rd.pickN rfl (by rw [htk (by omega)]; simp) rfl) ?_
                  refine SWz.nil ?_
                  refine SN.then ?_
                  refine SW.condF rfl (by rw [conOut_path (by omega) (by omega)]; rfl) ?_
                  refine SW.skip ?_
                  refine SN.block ?_
                  refine SN.then ?_
                  refine SW.region ?_
                  refine SWl.rd rfl (Rd.move rfl) ?_
                  refine SWl.rd rfl (Rd.add rfl rfl ⟨by omega, by omega⟩) ?_
                  refine SWl.rd rfl (Rd.assign rfl) ?_
                  refine SWl.nil ?_
                  exact fun a w hh => hK2 (⟨i + 1, by omega⟩) (by simp only; omega) a w (hh.sub (⟨⟨_, rfl, ⟨⟨_, rfl, Le.refl _⟩, ⟨⟨_, rfl, Le.refl _⟩, ⟨⟨_, rfl, Le.refl _⟩, ⟨⟨_, rfl, Le.refl _⟩, ⟨⟨_, rfl, Le.refl _⟩, ⟨⟨_, rfl, Le.refl _⟩, trivial⟩⟩⟩⟩⟩⟩⟩, [0, 1, 2], by decide, ⟨⟨_, rfl, LeAll.refl _⟩, ⟨⟨_, rfl, LeR.refl _⟩, ⟨⟨_, rfl, LeR.refl _⟩, trivial⟩⟩⟩⟩))
                · have hb126 := of_decide_eq_false hb126; rw [rts_len] at hb126
                  refine SW.exit' ?_
                  repeat (first | refine SE.then ?_ | refine SE.skip (by decide) ?_)
                  refine SE.here ?_
                  refine SN.then ?_
                  refine SW.seq ?_
                  refine SW.seq ?_
                  refine SW.sub (σ' := St.ob [(6, lsD encE es), (12, isD (.pointer (some ⟨gc, 0, none⟩))), (16, iD (es.length : Int)), (17, bD (Led.root HH es))] [.c gc [isD (.slice s.A (es).length s.c), isD (.map s.M)], ledE s (es), ledM s (es)]) (⟨⟨_, rfl, ⟨⟨_, rfl, Le.refl _⟩, ⟨⟨_, rfl, Le.refl _⟩, ⟨⟨_, rfl, Le.refl _⟩, ⟨⟨_, rfl, Le.refl _⟩, trivial⟩⟩⟩⟩⟩, [0, 1, 2], by decide, ⟨⟨_, rfl, LeAll.refl _⟩, ⟨⟨_, rfl, LeR.refl _⟩, ⟨⟨_, rfl, LeR.refl _⟩, trivial⟩⟩⟩⟩) ?_
                  refine SW.region ?_
                  refine SWl.rd rfl (Rd.assign rfl) ?_
                  refine SWl.nil ?_
                  refine SN.then ?_
                  refine SW.block ?_
                  refine SW.loop (ι := {i : Nat // i ≤ es.length}) (fun i => St.ob [(6, lsD encE es), (12, isD (.pointer (some ⟨gc, 0, none⟩))), (16, iD (es.length : Int)), (17, bD (Led.root HH es)), (24, iD (i.1 : Int))] [.c gc [isD (.slice s.A (es).length s.c), isD (.map s.M)], ledE s (es), ledM s (es)]) (fun i => es.length - i.1) (⟨0, by omega⟩) ?_ ?_
                  · exact ⟨⟨_, rfl, ⟨⟨_, rfl, Le.refl _⟩, ⟨⟨_, rfl, Le.refl _⟩, ⟨⟨_, rfl, Le.refl _⟩, ⟨⟨_, rfl, Le.refl _⟩, ⟨⟨_, rfl, Le.refl _⟩, trivial⟩⟩⟩⟩⟩⟩, [0, 1, 2], by decide, ⟨⟨_, rfl, LeAll.refl _⟩, ⟨⟨_, rfl, LeR.refl _⟩, ⟨⟨_, rfl, LeR.refl _⟩, trivial⟩⟩⟩⟩
                  · rintro ⟨i, hi⟩ K3 hK3
                    dsimp only
                    refine SW.seq ?_
                    refine SW.seq ?_
                    refine SW.region ?_
                    refine SWl.rd rfl (Rd.move rfl) ?_
                    refine SWl.rd rfl (Rd.move rfl) ?_
                    refine SWl.rd rfl (Rd.lss rfl rfl) ?_
                    refine SWl.nil ?_
                    refine SN.then ?_
                    refine SW.cond rfl (fun hb169 => ?_) (fun hb169 => ?_)
                    · have hb169 := of_decide_eq_true hb169
                      refine SW.skip ?_
                      refine SN.then ?_
                      refine SW.seq ?_
                      refine SW.block ?_
                      refine SW.seq ?_
                      refine SW.region ?_
                      obtain ⟨e, he⟩ : ∃ e, es[i]? = some e := ⟨_, List.getElem?_eq_getElem (by omega)⟩
                      refine SWl.rd rfl (Rd.move rfl) ?_
                      refine SWl.rd rfl (Rd.move rfl) ?_
                      refine SWl.rd rfl (Rd.move rfl) ?_
                      refine SWl.ef (S := []) (Ef.callN [0, 1, 2] (con_inclusion es (by omega) i es.length (by omega) (Nat.le_refl _)) rfl ⟨(sees_box 0 rfl (by decide) ⟨(sees_vec 1 rfl (by decide)), (sees_map 2 rfl (by decide)), trivial⟩), (sees_le (Le.refl _)), (sees_le (Le.refl _)), trivial⟩ rfl) ?_
                      rintro _ rfl
                      refine SWl.rd rfl (Rd.move rfl) ?_
                      refine SWl.rd rfl (Rd.extract rfl rfl) ?_
                      refine SWl.rd rfl (Rd.extract rfl rfl) ?_
                      refine SWl.ef (S := []) (Ef.alloc (zs := [.slice none 0 0]) (by kernel_rfl) rfl) ?_
                      rintro _ ⟨g25, rfl⟩
                      refine SWl.ef (S := [_]) (Ef.storeA 3 rfl rfl rfl (by kernel_rfl) rfl (List.mem_singleton.2 rfl)) ?_
                      rintro _ rfl
                      refine SWl.rd rfl (Rd.assign rfl) ?_
                      refine SWl.nil ?_
                      refine SN.then ?_
                      refine SW.seq ?_
                      refine SW.draw [] (.r 0 (.r 1 (.r 2 (.r 3 (.r 4 (.r 5 (.r 6 (.r 7 (.r 8 (.r 9 (.r 10 (.n 11 (.r 12 (.r 13 .fin)) .no)))))))))))) (by kernel_rfl) (by kernel_rfl) (fun d _ _ _ _ h => by cases d <;> exact h) ?_
                      refine SWz.rd (i := 0) rfl rfl (Rd.move rfl) ?_
                      refine SWz.rd (i := 1) rfl rfl (Rd.nei rfl rfl) ?_
                      refine SWz.rd (i := 2) rfl rfl (Rd.move rfl) ?_
                      refine SWz.rdg (i := 3) rfl rfl rfl (by rfl) rfl rfl (Rd.move rfl) ?_
                      refine SWz.rdg (i := 4) rfl rfl rfl (by rfl) rfl rfl (Rd.move rfl) ?_
                      refine SWz.rdg (i := 5) rfl rfl rfl (by rfl) rfl rfl (Rd.move rfl) ?_
                      refine SWz.rdg (i := 6) rfl rfl rfl (by rfl) rfl rfl (Rd.move rfl) ?_
                      refine SWz.rdg (i := 7) rfl rfl rfl (by rfl) rfl rfl (Rd.move rfl) ?_
                      refine SWz.rdg (i := 8) rfl rfl rfl (by rfl) rfl rfl (Rd.idxL (e := 44) 2 rfl rfl (by kernel_rfl) (by kernel_rfl) (by omega) (by simpa using he)) ?_
                      refine SWz.rdg (i := 9) rfl rfl rfl (by rfl) rfl rfl (Rd.loadRA 2 rfl (by kernel_rfl) (by decide) (show 2 ≤ 2 by decide) (by simp)) ?_
                      refine SWz.rdg (i := 10) rfl rfl rfl (by rfl) rfl rfl (Rd.loadA 3 1 rfl rfl (by kernel_rfl) rfl ap_nil) ?_
                      refine SWz.efng (i := 11) rfl rfl rfl (by rfl) rfl (Ef.callN [] (con_include (Led.root HH es) (es.length : Int) (i : Int) e (Led.incl HH (es.take es.length) i) (by have := incl_le _ (es.take es.length) i (Nat.le_refl _); simp at *; omega)) rfl ⟨(sees_le (Le.refl _)), (sees_le (Le.refl _)), (sees_le (Le.refl _)), (sees_agg ⟨(sees_le (Le.refl _)), (sees_le (Le.refl _)), trivial⟩), (sees_agg ⟨(sees_le (Le.refl _)), trivial⟩), trivial⟩ rfl) ?_ SWz.no
                      rintro _ rfl
                      refine SWz.rdg (i := 12) rfl rfl rfl (by rfl) rfl rfl (Rd.nei rfl rfl) ?_
                      refine SWz.rd (i := 13) rfl rfl (Rd.pickN rfl (by rfl) rfl) ?_
                      refine SWz.nil ?_
                      refine SN.then ?_
                      refine SW.condF rfl (by rw [List.take_length, incOut_path he (hfe e (List.mem_of_getElem? he)) (by omega)]; rfl) ?_
                      refine SW.skip ?_
                      refine SN.block ?_
                      refine SN.then ?_
                      refine SW.region ?_
                      refine SWl.rd rfl (Rd.move rfl) ?_
                      refine SWl.rd rfl (Rd.add rfl rfl ⟨by omega, by omega⟩) ?_
                      refine SWl.rd rfl (Rd.assign rfl) ?_
                      refine SWl.nil ?_
                      exact fun a w hh => hK3 (⟨i + 1, by omega⟩) (by simp only; omega) a w (hh.sub (⟨⟨_, rfl, ⟨⟨_, rfl, Le.refl _⟩, ⟨⟨_, rfl, Le.refl _⟩, ⟨⟨_, rfl, Le.refl _⟩, ⟨⟨_, rfl, Le.refl _⟩, ⟨⟨_, rfl, Le.refl _⟩, trivial⟩⟩⟩⟩⟩⟩, [0, 1, 2], by decide, ⟨⟨_, rfl, LeAll.refl _⟩, ⟨⟨_, rfl, LeR.refl _⟩, ⟨⟨_, rfl, LeR.refl _⟩, trivial⟩⟩⟩⟩))
                    · have hb169 := of_decide_eq_false hb169
                      refine SW.exit' ?_
                      repeat (first | refine SE.then ?_ | refine SE.skip (by decide) ?_)
                      refine SE.here ?_
                      refine SN.then ?_
                      refine SW.seq ?_
                      refine SW.sub (σ' := St.ob [(12, isD (.pointer (some ⟨gc, 0, none⟩))), (16, iD (es.length : Int)), (17, bD (Led.root HH es))] [.c gc [isD (.slice s.A (es).length s.c), isD (.map s.M)], ledE s (es), ledM s (es)]) (⟨⟨_, rfl, ⟨⟨_, rfl, Le.refl _⟩, ⟨⟨_, rfl, Le.refl _⟩, ⟨⟨_, rfl, Le.refl _⟩, trivial⟩⟩⟩⟩, [0, 1, 2], by decide, ⟨⟨_, rfl, LeAll.refl _⟩, ⟨⟨_, rfl, LeR.refl _⟩, ⟨⟨_, rfl, LeR.refl _⟩, trivial⟩⟩⟩⟩) ?_
                      refine SW.region ?_
                      refine SWl.rd rfl (Rd.move rfl) ?_
                      refine SWl.ef (S := []) (Ef.callN [0, 1, 2] (con_encode es hfe (by omega)) rfl ⟨(sees_box 0 rfl (by decide) ⟨(sees_vec 1 rfl (by decide)), (sees_map 2 rfl (by decide)), trivial⟩), trivial⟩ rfl) ?_
                      rintro _ rfl
                      refine SWl.ef (S := []) (Ef.callR [] (con_decode (encAll es) (by have := encAll_len es; have := szs_le es hfe; omega) (.ok es) (decs_enc hfe (by omega))) rfl ⟨Le.refl _, trivial⟩ (by decide) trivial (fun _ h => h) rfl) ?_
                      rintro _ ⟨⟨gx, sx⟩, rfl⟩
                      refine SWl.rd rfl (Rd.move rfl) ?_
                      refine SWl.rd rfl (Rd.extract rfl rfl) ?_
                      refine SWl.rd rfl (Rd.extract rfl rfl) ?_
                      refine SWl.rd rfl (Rd.assign rfl) ?_
                      refine SWl.rd rfl (Rd.assign rfl) ?_
                      refine SWl.nil ?_
                      refine SN.then ?_
                      refine SW.seq ?_
                      refine SW.seq ?_
                      refine SW.sub (σ' := St.ob [(16, iD (es.length : Int)), (17, bD (Led.root HH es)), (27, isD (.pointer (some ⟨gx, 0, none⟩))), (28, iD 0)] [.c gx [isD (.slice sx.A (es).length sx.c), isD (.map sx.M)], ledE sx (es), ledM sx (es)]) (⟨⟨_, rfl, ⟨⟨_, rfl, Le.refl _⟩, ⟨⟨_, rfl, Le.refl _⟩, ⟨⟨_, rfl, Le.refl _⟩, ⟨⟨_, rfl, Le.refl _⟩, trivial⟩⟩⟩⟩⟩, [3, 4, 5], by decide, ⟨⟨_, rfl, LeAll.refl _⟩, ⟨⟨_, rfl, LeR.refl _⟩, ⟨⟨_, rfl, LeR.refl _⟩, trivial⟩⟩⟩⟩) ?_
                      refine SW.region ?_
                      refine SWl.rd rfl (Rd.move rfl) ?_
                      refine SWl.rd rfl (Rd.nei rfl rfl) ?_
                      refine SWl.rd rfl (Rd.move rfl) ?_
                      refine SWl.rdg rfl rfl (by rfl) rfl rfl (Rd.move rfl) ?_
                      refine SWl.rdg rfl rfl (by rfl) rfl rfl (Rd.eqP rfl rfl (by kernel_rfl)) ?_
                      refine SWl.rd rfl (Rd.pickN rfl (by rfl) rfl) ?_
                      refine SWl.rd rfl (Rd.move rfl) ?_
                      refine SWl.rdg rfl rfl (rfl) rfl rfl (Rd.move rfl) ?_
                      refine SWl.efg (S := []) rfl rfl (rfl) rfl (Ef.callN [0, 1, 2] (con_len es) rfl ⟨(sees_box 0 rfl (by decide) ⟨(sees_vec 1 rfl (by decide)), (sees_map 2 rfl (by decide)), trivial⟩), trivial⟩ rfl) ?_
                      rintro _ rfl
                      refine SWl.rdg rfl rfl (rfl) rfl rfl (Rd.move rfl) ?_
                      refine SWl.rdg rfl rfl (rfl) rfl rfl (Rd.nei rfl rfl) ?_
                      refine SWl.rd rfl (Rd.pickN rfl (rfl) rfl) ?_
                      refine SWl.nil ?_
                      refine SN.then ?_
                      refine SW.condF rfl (by simp) ?_
                      refine SW.skip ?_
                      refine SN.then ?_
                      refine SW.seq ?_
                      refine SW.region ?_
                      refine SWl.rd rfl (Rd.move rfl) ?_
                      refine SWl.rd rfl (Rd.move rfl) ?_
                      refine SWl.ef (S := []) (Ef.callN [0, 1, 2] (con_root es (by omega) es.length (Nat.le_refl _)) rfl ⟨(sees_box 0 rfl (by decide) ⟨(sees_vec 1 rfl (by decide)), (sees_map 2 rfl (by decide)), trivial⟩), (sees_le (Le.refl _)), trivial⟩ rfl) ?_
                      rintro _ rfl
                      refine SWl.rd rfl (Rd.move rfl) ?_
                      refine SWl.rd rfl (Rd.extract rfl rfl) ?_
                      refine SWl.rd rfl (Rd.extract rfl rfl) ?_
                      refine SWl.rd rfl (Rd.assign rfl) ?_
                      refine SWl.rd rfl (Rd.assign rfl) ?_
                      refine SWl.nil ?_
                      refine SN.then ?_
                      refine SW.seq ?_
                      refine SW.region ?_
                      refine SWl.rd rfl (Rd.move rfl) ?_
                      refine SWl.rd rfl (Rd.eqi rfl rfl) ?_
                      refine SWl.rd rfl (Rd.move rfl) ?_
                      refine SWl.rdg rfl rfl (by rfl) rfl rfl (Rd.move rfl) ?_
                      refine SWl.rdg rfl rfl (by rfl) rfl rfl (Rd.str (e := 5) rfl (by kernel_rfl) (by kernel_rfl) (by kernel_rfl) (by simp)) ?_
                      refine SWl.rdg rfl rfl (by rfl) rfl rfl (Rd.move rfl) ?_
                      refine SWl.rdg rfl rfl (by rfl) rfl rfl (Rd.str (e := 5) rfl (by kernel_rfl) (by kernel_rfl) (by kernel_rfl) (by simp)) ?_
                      refine SWl.rdg rfl rfl (by rfl) rfl rfl (Rd.eqs (p := Led.root HH (es.take es.length)) (q := Led.root HH es) rfl rfl) ?_
                      refine SWl.rd rfl (Rd.pickY rfl (by rfl) rfl) ?_
                      refine SWl.rd rfl (Rd.move rfl) ?_
                      refine SWl.efg (S := []) rfl rfl (by simp) rfl (Ef.callN [] (con_known43) rfl trivial rfl) ?_
                      rintro _ rfl
                      refine SWl.rd rfl (Rd.pickY rfl (by simp) rfl) ?_
                      refine SWl.rd rfl (Rd.assign rfl) ?_
                      refine SWl.nil ?_
                      refine SN.then ?_
                      refine SW.ret (fn := Tryd.f9) (fun _ _ h => h) (Rs.le (Rs.one rfl (ResV.tmp rfl)) ?_)
                      exact le_bool_n (by rfl)
end Sx
end Go.Proofs.YtonjpfpdpfonnaaDoor
