/-
  LEDGERS: made, the list too one's own.
-/
import Derived.Test.YtonjpfpdpfonnaaDoorL30
namespace Go.Proofs.YtonjpfpdpfonnaaDoor
open Go.RowKit
namespace Sx
set_option maxHeartbeats 4000000 in
set_option maxRecDepth 100000 in
theorem con_madeO (l : List Led.Ent) (hl : l.length ≤ 1000) (hb : ∀ e ∈ l, e.bytes.length ≤ 1000000) : ConR Tryd.prog 12 [] [lsD encE l] (fun t : Nat × Lst × Vst => [.c t.1 [isD (.slice t.2.1.A (Led.fits l).length t.2.1.c), isD (.map t.2.1.M)], ledE t.2.1 (Led.fits l), ledM t.2.1 (Led.fits l), .r t.2.2.F (vecT 44 2 encE t.2.2.A t.2.2.c (Led.fits l))]) (fun t : Nat × Lst × Vst => tupD [isD (.pointer (some ⟨t.1, 0, none⟩)), isD (.slice t.2.2.A (Led.fits l).length t.2.2.c), boolD true]) := by
  refine con_ofR Tryd.func12 (by kernel_rfl) rfl (by kernel_rfl) fun base w0 => ?_
  refine SW.seq ?_
  refine SW.region ?_
  refine SWl.rd rfl (Rd.assign rfl) ?_
  refine SWl.rd rfl (Rd.assign rfl) ?_
  refine SWl.rd rfl (Rd.assign rfl) ?_
  refine SWl.nil ?_
  refine SN.then ?_
  refine SW.seq ?_
  refine SW.region ?_
  refine SWl.rd rfl (Rd.build rfl rfl bldL0) ?_
  refine SWl.ef (S := []) (Ef.boxA rfl rfl) ?_
  rintro _ ⟨g13, rfl⟩
  refine SWl.rd rfl (Rd.assign rfl) ?_
  refine SWl.nil ?_
  refine SN.then ?_
  refine SW.seq ?_
  refine SW.vecN 44 2 encE ?_
  refine SW.mapN encN ?_
  refine SW.region ?_
  refine SWl.rd rfl (Rd.assign rfl) ?_
  refine SWl.nil ?_
  refine SN.then ?_
  refine SW.seq ?_
  refine SW.seq ?_
  refine SW.vecN 44 2 encE ?_
  refine SW.region ?_
  refine SWl.rd rfl (Rd.assign rfl) ?_
  refine SWl.nil ?_
  refine SN.then ?_
  refine SW.block ?_
  refine SW.loop (ι := {p : Nat × Lst × Vst // p.1 ≤ l.length}) (fun p => St.ob [(0, lsD encE l), (5, isD (.pointer (some ⟨g13, 0, none⟩))), (6, isD (.slice p.1.2.2.A ((Led.fits (l.take p.1.1))).length p.1.2.2.c)), (7, iD (p.1.1 : Int))] [.c g13 [isD (.slice p.1.2.1.A ((Led.fits (l.take p.1.1))).length p.1.2.1.c), isD (.map p.1.2.1.M)], ledE p.1.2.1 ((Led.fits (l.take p.1.1))), ledM p.1.2.1 ((Led.fits (l.take p.1.1))), .r p.1.2.2.F (vecT 44 2 encE p.1.2.2.A p.1.2.2.c ((Led.fits (l.take p.1.1))))]) (fun p => l.length - p.1.1) (⟨(0, ⟨none, 0, [], none, []⟩, ⟨none, 0, []⟩), by simp⟩) ?_ ?_
  · exact ⟨⟨_, rfl, ⟨⟨_, rfl, Le.refl _⟩, ⟨⟨_, rfl, Le.refl _⟩, ⟨⟨_, rfl, Le.refl _⟩, ⟨⟨_, rfl, Le.refl _⟩, trivial⟩⟩⟩⟩⟩, [0, 1, 2, 3], by decide, ⟨⟨_, rfl, LeAll.refl _⟩, ⟨⟨_, rfl, LeR.refl _⟩, ⟨⟨_, rfl, LeR.refl _⟩, ⟨⟨_, rfl, LeR.refl _⟩, trivial⟩⟩⟩⟩⟩
  · rintro ⟨⟨i, s, v⟩, hi⟩ K0 hK0
    dsimp only at hi ⊢
    refine SW.seq ?_
    refine SW.seq ?_
    refine SW.region ?_
    refine SWl.rd rfl (Rd.move rfl) ?_
    refine SWl.rd rfl (Rd.move rfl) ?_
    refine SWl.rd rfl (Rd.lenR (e := 44) rfl (by kernel_rfl)) ?_
    refine SWl.rd rfl (Rd.lss rfl rfl) ?_
    refine SWl.nil ?_
    refine SN.then ?_
    refine SW.cond rfl (fun hb17 => ?_) (fun hb17 => ?_)
    · have hb17 := of_decide_eq_true hb17
      refine SW.skip ?_
      refine SN.then ?_
      refine SW.seq ?_
      refine SW.block ?_
      refine SW.seq ?_
      obtain ⟨e, he⟩ : ∃ e, l[i]? = some e := ⟨_, List.getElem?_eq_getElem (by omega)⟩
      have hbe := hb e (List.mem_of_getElem? he)
      have hfl := fits_take_len l i
      obtain ⟨ha1, ha2, ha3⟩ := app_fit (es := (Led.fits (l.take i))) (e := e) (by omega)
      refine SW.vecN 5 1 encB ?_
      refine SW.meet (fun σ => ∃ g8 A30 F30 c30, σ = St.ob [(0, lsD encE l), (5, isD (.pointer (some ⟨g13, 0, none⟩))), (6, isD (.slice v.A ((Led.fits (l.take i))).length v.c)), (7, iD (i : Int)), (8, isD (.pointer (some ⟨g8, 0, none⟩)))] [.c g13 [isD (.slice s.A ((Led.fits (l.take i))).length s.c), isD (.map s.M)], ledE s ((Led.fits (l.take i))), ledM s ((Led.fits (l.take i))), .r v.F (vecT 44 2 encE v.A v.c ((Led.fits (l.take i)))), .c g8 [iD e.kind, isD (.slice A30 e.bytes.length c30)], .r F30 (vecT 5 1 encB A30 c30 e.bytes)]) ?_ ?_
      · refine SW.draw [] (.r 0 (.r 1 (.r 2 (.r 3 (.r 4 (.r 5 (.r 6 (.r 7 (.r 8 (.r 9 (.e 10 (.r 11 (.n 12 (.e 13 .fin .no) .no)) (.n 12 (.e 10 (.r 11 (.e 13 .fin .no)) .no) .no)))))))))))) (by kernel_rfl) (by kernel_rfl) (fun d _ _ _ _ h => by cases d <;> exact h) ?_
        refine SWz.rd (i := 0) rfl rfl (Rd.move rfl) ?_
        refine SWz.rd (i := 1) rfl rfl (Rd.move rfl) ?_
        refine SWz.rd (i := 2) rfl rfl (Rd.idxL (e := 44) 2 rfl rfl (by kernel_rfl) (by kernel_rfl) (by omega) (by simpa using he)) ?_
        refine SWz.rd (i := 3) rfl rfl (Rd.fieldR (n := 0) rfl (by kernel_rfl) (show 0 < 2 by decide)) ?_
        refine SWz.rd (i := 4) rfl rfl (Rd.loadR rfl rfl (by kernel_rfl) (by simp)) ?_
        refine SWz.rd (i := 5) rfl rfl (Rd.move rfl) ?_
        refine SWz.rd (i := 6) rfl rfl (Rd.move rfl) ?_
        refine SWz.rd (i := 7) rfl rfl (Rd.idxL (e := 44) 2 rfl rfl (by kernel_rfl) (by kernel_rfl) (by omega) (by simpa using he)) ?_
        refine SWz.rd (i := 8) rfl rfl (Rd.fieldR (n := 1) rfl (by kernel_rfl) (show 1 < 2 by decide)) ?_
        refine SWz.rd (i := 9) rfl rfl (Rd.loadR rfl rfl (by kernel_rfl) (by simp)) ?_
        refine SWz.efe (i := 10) rfl (Ef.appT 4 1 1 rfl rfl (SrcT.b rfl) (by kernel_rfl) (by kernel_rfl) (by simp; omega) (by decide) (by simp) rfl) ?_ ?_
        · rintro _ ⟨A30, F30, c30, rfl⟩
          refine SWz.rd (i := 11) rfl rfl (Rd.build rfl rfl bldE2) ?_
          refine SWz.efb (i := 12) rfl (EfB.alloc (zs := [.int .i64 0, .slice none 0 0]) (by kernel_rfl) rfl) ?_ SWz.no
          rintro g8 _ rfl
          refine SWz.efe (i := 13) rfl (Ef.storeA 5 rfl rfl rfl (by kernel_rfl) rfl (List.mem_append_right _ (List.mem_cons_self))) ?_ SWz.no
          rintro _ rfl
          refine SWz.nil ?_
          exact SN.meet ⟨g8, A30, F30, c30, rfl⟩ (⟨⟨_, rfl, ⟨⟨_, rfl, Le.refl _⟩, ⟨⟨_, rfl, Le.refl _⟩, ⟨⟨_, rfl, Le.refl _⟩, ⟨⟨_, rfl, Le.refl _⟩, ⟨⟨_, rfl, Le.refl _⟩, trivial⟩⟩⟩⟩⟩⟩, [0, 1, 2, 3, 5, 4], by decide, ⟨⟨_, rfl, LeAll.refl _⟩, ⟨⟨_, rfl, LeR.refl _⟩, ⟨⟨_, rfl, LeR.refl _⟩, ⟨⟨_, rfl, LeR.refl _⟩, ⟨⟨_, rfl, LeAll.refl _⟩, ⟨⟨_, rfl, LeR.refl _⟩, trivial⟩⟩⟩⟩⟩⟩⟩)
        refine SWz.efb (i := 12) rfl (EfB.alloc (zs := [.int .i64 0, .slice none 0 0]) (by kernel_rfl) rfl) ?_ SWz.no
        rintro g8 _ rfl
        refine SWz.efe (i := 10) rfl (Ef.appT 4 1 1 rfl rfl (SrcT.b rfl) (by kernel_rfl) (by kernel_rfl) (by simp; omega) (by decide) (by simp) rfl) ?_ SWz.no
        rintro _ ⟨A30, F30, c30, rfl⟩
        refine SWz.rd (i := 11) rfl rfl (Rd.build rfl rfl bldE2) ?_
        refine SWz.efe (i := 13) rfl (Ef.storeA 4 rfl rfl rfl (by kernel_rfl) rfl (List.mem_append_right _ (List.mem_cons_self))) ?_ SWz.no
        rintro _ rfl
        refine SWz.nil ?_
        exact SN.meet ⟨g8, A30, F30, c30, rfl⟩ (⟨⟨_, rfl, ⟨⟨_, rfl, Le.refl _⟩, ⟨⟨_, rfl, Le.refl _⟩, ⟨⟨_, rfl, Le.refl _⟩, ⟨⟨_, rfl, Le.refl _⟩, ⟨⟨_, rfl, Le.refl _⟩, trivial⟩⟩⟩⟩⟩⟩, [0, 1, 2, 3, 4, 5], by decide, ⟨⟨_, rfl, LeAll.refl _⟩, ⟨⟨_, rfl, LeR.refl _⟩, ⟨⟨_, rfl, LeR.refl _⟩, ⟨⟨_, rfl, LeR.refl _⟩, ⟨⟨_, rfl, LeAll.refl _⟩, ⟨⟨_, rfl, LeR.refl _⟩, trivial⟩⟩⟩⟩⟩⟩⟩)
      · rintro _ ⟨g8, A30, F30, c30, rfl⟩
        refine SN.then ?_
        refine SW.seq ?_
        refine SW.region ?_
        refine SWl.rd rfl (Rd.move rfl) ?_
        refine SWl.rd rfl (Rd.loadA 4 2 rfl rfl (by kernel_rfl) rfl ap_nil) ?_
        refine SWl.ef (Ef.callR [0, 1, 2, 5] (con_append g13 s (Led.fits (l.take i)) _ e.kind e.bytes A30 c30 F30 _ isView_vec (by omega) rfl) rfl ⟨Le.refl _, Le.refl _, trivial⟩ (by decide) ⟨⟨_, rfl, LeAll.refl _⟩, ⟨⟨_, rfl, LeR.refl _⟩, ⟨⟨_, rfl, LeR.refl _⟩, ⟨⟨_, rfl, LeR.refl _⟩, trivial⟩⟩⟩⟩ (fun _ h => h) rfl) ?_
        rintro _ ⟨s2, rfl⟩
        refine SWl.rd rfl (Rd.move rfl) ?_
        refine SWl.rd rfl (Rd.extract rfl rfl) ?_
        refine SWl.rd rfl (Rd.extract rfl rfl) ?_
        refine SWl.rd rfl (Rd.assign rfl) ?_
        refine SWl.rd rfl (Rd.assign rfl) ?_
        refine SWl.nil ?_
        refine SN.then ?_
        refine SW.seq ?_
        refine SW.seq ?_
        refine SW.region ?_
        refine SWl.rd rfl (Rd.assign rfl) ?_
        refine SWl.nil ?_
        refine SN.then ?_
        refine SW.block ?_
        refine SW.loop (ι := {q : Nat × List UInt8 // q.2.length = e.bytes.length}) (fun q => St.ob [(0, lsD encE l), (5, isD (.pointer (some ⟨g13, 0, none⟩))), (6, isD (.slice v.A ((Led.fits (l.take i))).length v.c)), (7, iD (i : Int)), (8, isD (.pointer (some ⟨g8, 0, none⟩))), (9, iD (Led.appI (Led.fits (l.take i)) e.kind e.bytes)), (10, iD (Led.appE (Led.fits (l.take i)) e.kind e.bytes)), (11, iD (q.1.1 : Int))] [.c g13 [isD (.slice s2.A (Led.app (Led.fits (l.take i)) e.kind e.bytes).length s2.c), isD (.map s2.M)], ledE s2 (Led.app (Led.fits (l.take i)) e.kind e.bytes), ledM s2 (Led.app (Led.fits (l.take i)) e.kind e.bytes), .r v.F (vecT 44 2 encE v.A v.c ((Led.fits (l.take i)))), .c g8 [iD e.kind, isD (.slice A30 q.1.2.length c30)], .r F30 (vecT 5 1 encB A30 c30 q.1.2)]) (fun q => q.1.2.length - q.1.1) (⟨(0, e.bytes), rfl⟩) ?_ ?_
        · exact ⟨⟨_, rfl, ⟨⟨_, rfl, Le.refl _⟩, ⟨⟨_, rfl, Le.refl _⟩, ⟨⟨_, rfl, Le.refl _⟩, ⟨⟨_, rfl, Le.refl _⟩, ⟨⟨_, rfl, Le.refl _⟩, ⟨⟨_, rfl, Le.refl _⟩, ⟨⟨_, rfl, Le.refl _⟩, ⟨⟨_, rfl, Le.refl _⟩, trivial⟩⟩⟩⟩⟩⟩⟩⟩⟩, [2, 3, 4, 0, 1, 5], by decide, ⟨⟨_, rfl, LeAll.refl _⟩, ⟨⟨_, rfl, LeR.refl _⟩, ⟨⟨_, rfl, LeR.refl _⟩, ⟨⟨_, rfl, LeR.refl _⟩, ⟨⟨_, rfl, LeAll.refl _⟩, ⟨⟨_, rfl, LeR.refl _⟩, trivial⟩⟩⟩⟩⟩⟩⟩
        · rintro ⟨⟨k, q⟩, hq⟩ K1 hK1
          dsimp only at hq ⊢
          refine SW.seq ?_
          refine SW.seq ?_
          refine SW.region ?_
          refine SWl.rd rfl (Rd.move rfl) ?_
          refine SWl.rd rfl (Rd.fieldAddr (n := 1) rfl (by kernel_rfl)) ?_
          refine SWl.rd rfl (Rd.loadB 4 rfl rfl rfl (by kernel_rfl) ap_nil) ?_
          refine SWl.rd rfl (Rd.lenE (e := 5) rfl (by kernel_rfl)) ?_
          refine SWl.rd rfl (Rd.lss rfl rfl) ?_
          refine SWl.nil ?_
          refine SN.then ?_
          refine SW.cond rfl (fun hb42 => ?_) (fun hb42 => ?_)
          · have hb42 := of_decide_eq_true hb42
            refine SW.skip ?_
            refine SN.then ?_
            refine SW.seq ?_
            refine SW.block ?_
            refine SW.region ?_
            refine SWl.rd rfl (Rd.fieldAddr (n := 1) rfl (by kernel_rfl)) ?_
            refine SWl.rd rfl (Rd.loadB 4 rfl rfl rfl (by kernel_rfl) ap_nil) ?_
            refine SWl.rd rfl (Rd.move rfl) ?_
            obtain ⟨x, hx⟩ : ∃ x, q[k]? = some x := ⟨_, List.getElem?_eq_getElem (by omega)⟩
            refine SWl.rd rfl (Rd.idxT 5 1 rfl rfl rfl (by kernel_rfl) (by kernel_rfl) (by omega) (by simp; omega)) ?_
            refine SWl.rd rfl (Rd.loadT1 5 rfl rfl (by kernel_rfl) (by simpa using hx) rfl ap_nil) ?_
            refine SWl.rd rfl (Rd.addB (b := 1) rfl rfl) ?_
            refine SWl.rd rfl (Rd.idxT 5 1 rfl rfl rfl (by kernel_rfl) (by kernel_rfl) (by omega) (by simp; omega)) ?_
            refine SWl.ef (S := _) (Ef.storeT1 (v := x + 1) 5 rfl rfl rfl rfl (by kernel_rfl) (by simp; omega) (fun _ h => h)) ?_
            rintro _ rfl
            refine SWl.nil ?_
            refine SN.block ?_
            refine SN.then ?_
            refine SW.region ?_
            refine SWl.rd rfl (Rd.move rfl) ?_
            refine SWl.rd rfl (Rd.add rfl rfl ⟨by omega, by omega⟩) ?_
            refine SWl.rd rfl (Rd.assign rfl) ?_
            refine SWl.nil ?_
            exact fun a w hh => hK1 (⟨(k + 1, q.set k (x + 1)), by simp; exact hq⟩) (by simp; omega) a w (hh.sub (⟨⟨_, rfl, ⟨⟨_, rfl, Le.refl _⟩, ⟨⟨_, rfl, Le.refl _⟩, ⟨⟨_, rfl, Le.refl _⟩, ⟨⟨_, rfl, Le.refl _⟩, ⟨⟨_, rfl, Le.refl _⟩, ⟨⟨_, rfl, Le.refl _⟩, ⟨⟨_, rfl, Le.refl _⟩, ⟨⟨_, rfl, Le.refl _⟩, trivial⟩⟩⟩⟩⟩⟩⟩⟩⟩, [0, 1, 2, 3, 4, 5], by decide, ⟨⟨_, rfl, LeAll.refl _⟩, ⟨⟨_, rfl, LeR.refl _⟩, ⟨⟨_, rfl, LeR.refl _⟩, ⟨⟨_, rfl, LeR.refl _⟩, ⟨⟨_, rfl, ⟨Le.refl _, Le.is (by simp), trivial⟩⟩, ⟨⟨_, rfl, LeR.refl _⟩, trivial⟩⟩⟩⟩⟩⟩⟩))
          · have hb42 := of_decide_eq_false hb42
            refine SW.exit' ?_
            repeat (first | refine SE.then ?_ | refine SE.skip (by decide) ?_)
            refine SE.here ?_
            refine SN.then ?_
            refine SW.seq ?_
            refine SW.seq ?_
            refine SW.region ?_
            refine SWl.rd rfl (Rd.move rfl) ?_
            refine SWl.rd rfl (Rd.move rfl) ?_
            refine SWl.rd rfl (Rd.idxL (e := 44) 2 rfl rfl (by kernel_rfl) (by kernel_rfl) (by omega) (by simpa using he)) ?_
            refine SWl.rd rfl (Rd.loadRA 2 rfl (by kernel_rfl) (by decide) (show 2 ≤ 2 by decide) (by simp)) ?_
            refine SWl.ef (S := []) (Ef.callN [] (con_validR e.kind e.bytes.length) rfl ⟨(sees_le (Le.agg ⟨Le.refl _, le_b_len, trivial⟩)), trivial⟩ rfl) ?_
            rintro _ rfl
            refine SWl.rd rfl (Rd.not rfl) ?_
            refine SWl.nil ?_
            refine SN.then ?_
            refine SW.cond rfl (fun hb57 => ?_) (fun hb57 => ?_)
            · have hf : ¬ Led.Ent.fit e := fun hf => by simp at hb57; unfold Led.Ent.fit at hf; omega
              refine SW.seq ?_
              refine SW.seq ?_
              refine SW.region ?_
              refine SWl.rd rfl (Rd.move rfl) ?_
              refine SWl.rd rfl (Rd.nei rfl rfl) ?_
              refine SWl.rd rfl (Rd.move rfl) ?_
              refine SWl.rdg rfl rfl (by rw [ha3, if_neg hf]; rfl) rfl rfl (Rd.move rfl) ?_
              refine SWl.rdg rfl rfl (by rw [ha3, if_neg hf]; rfl) rfl rfl (Rd.nei rfl rfl) ?_
              refine SWl.rd rfl (Rd.pickN rfl (by rw [ha3, if_neg hf]; rfl) rfl) ?_
              refine SWl.nil ?_
              refine SN.then ?_
              refine SW.condF rfl (by rw [ha2, if_neg hf]; rfl) ?_
              refine SW.skip ?_
              refine SN.then ?_
              refine SW.exit' ?_
              repeat (first | refine SE.then ?_ | refine SE.skip (by decide) ?_)
              refine SE.here ?_
              refine SN.then ?_
              refine SW.region ?_
              refine SWl.rd rfl (Rd.move rfl) ?_
              refine SWl.rd rfl (Rd.add rfl rfl ⟨by omega, by omega⟩) ?_
              refine SWl.rd rfl (Rd.assign rfl) ?_
              refine SWl.nil ?_
              have hT := fits_snoc he
              rw [if_neg hf] at hT ha1
              have hA := ha1
              exact fun a w hh => hK0 (⟨(i + 1, s2, v), by simp only; omega⟩) (by simp only; omega) a w (hh.sub (⟨⟨_, rfl, ⟨⟨_, rfl, Le.refl _⟩, ⟨⟨_, rfl, Le.refl _⟩, ⟨⟨_, rfl, Le.is (by rw [hT])⟩, ⟨⟨_, rfl, Le.refl _⟩, trivial⟩⟩⟩⟩⟩, [0, 1, 2, 3], by decide, ⟨⟨_, rfl, ⟨Le.is (by rw [hT, hA]), Le.refl _, trivial⟩⟩, ⟨⟨_, rfl, leVec (by rw [hT, hA]) (by rw [hT, hA])⟩, ⟨⟨_, rfl, leMap (by rw [hT, hA]) (by rw [hT, hA])⟩, ⟨⟨_, rfl, leVec (by rw [hT]) (by rw [hT])⟩, trivial⟩⟩⟩⟩⟩))
            · have hf : Led.Ent.fit e := by simp at hb57; exact hb57
              refine SW.skip ?_
              refine SN.then ?_
              refine SW.seq ?_
              refine SW.seq ?_
              refine SW.region ?_
              refine SWl.rd rfl (Rd.move rfl) ?_
              refine SWl.rd rfl (Rd.move rfl) ?_
              refine SWl.rd rfl (Rd.lenE (e := 44) rfl (by kernel_rfl)) ?_
              refine SWl.rd rfl (Rd.nei rfl rfl) ?_
              refine SWl.rd rfl (Rd.move rfl) ?_
              refine SWl.rdg rfl rfl (by rw [ha3, if_pos hf]; simp) rfl rfl (Rd.move rfl) ?_
              refine SWl.rdg rfl rfl (by rw [ha3, if_pos hf]; simp) rfl rfl (Rd.nei rfl rfl) ?_
              refine SWl.rd rfl (Rd.pickN rfl (by rw [ha3, if_pos hf]; simp) rfl) ?_
              refine SWl.nil ?_
              refine SN.then ?_
              refine SW.condF rfl (by rw [ha2, if_pos hf]; rfl) ?_
              refine SW.skip ?_
              refine SN.then ?_
              refine SW.region ?_
              refine SWl.rd rfl (Rd.move rfl) ?_
              refine SWl.rd rfl (Rd.move rfl) ?_
              refine SWl.rd rfl (Rd.move rfl) ?_
              refine SWl.rd rfl (Rd.idxL (e := 44) 2 rfl rfl (by kernel_rfl) (by kernel_rfl) (by omega) (by simpa using he)) ?_
              refine SWl.rd rfl (Rd.loadRA 2 rfl (by kernel_rfl) (by decide) (show 2 ≤ 2 by decide) (by simp)) ?_
              refine SWl.ef (S := []) (Ef.litR rfl rfl (blsE1 e.kind e.bytes) rfl) ?_
              rintro _ rfl
              refine SWl.ef (Ef.appT 3 2 32 rfl rfl (SrcT.ls (l := [_]) rfl) (by kernel_rfl) (by kernel_rfl) (by simp; omega) (by decide) (fun _ h => h) rfl) ?_
              rintro _ ⟨A78, F78, c78, rfl⟩
              refine SWl.rd rfl (Rd.assign rfl) ?_
              refine SWl.nil ?_
              refine SN.block ?_
              refine SN.then ?_
              refine SW.region ?_
              refine SWl.rd rfl (Rd.move rfl) ?_
              refine SWl.rd rfl (Rd.add rfl rfl ⟨by omega, by omega⟩) ?_
              refine SWl.rd rfl (Rd.assign rfl) ?_
              refine SWl.nil ?_
              have hT := fits_snoc he
              rw [if_pos hf] at hT ha1
              have hA := ha1
              exact fun a w hh => hK0 (⟨(i + 1, s2, ⟨A78, c78, F78⟩), by simp only; omega⟩) (by simp only; omega) a w (hh.sub (⟨⟨_, rfl, ⟨⟨_, rfl, Le.refl _⟩, ⟨⟨_, rfl, Le.refl _⟩, ⟨⟨_, rfl, Le.is (by rw [hT])⟩, ⟨⟨_, rfl, Le.refl _⟩, trivial⟩⟩⟩⟩⟩, [0, 1, 2, 5], by decide, ⟨⟨_, rfl, ⟨Le.is (by rw [hT, hA]), Le.refl _, trivial⟩⟩, ⟨⟨_, rfl, leVec (by rw [hT, hA]) (by rw [hT, hA])⟩, ⟨⟨_, rfl, leMap (by rw [hT, hA]) (by rw [hT, hA])⟩, ⟨⟨_, rfl, leVec (by rw [hT]) (by rw [hT])⟩, trivial⟩⟩⟩⟩⟩))
    · have hb17 := of_decide_eq_false hb17
      refine SW.exit' ?_
      repeat (first | refine SE.then ?_ | refine SE.skip (by decide) ?_)
      refine SE.here ?_
      refine SN.then ?_
      refine SW.seq ?_
      refine SW.region ?_
      refine SWl.rd rfl (Rd.move rfl) ?_
      refine SWl.rd rfl (Rd.move rfl) ?_
      refine SWl.rd rfl (Rd.move rfl) ?_
      refine SWl.ef (S := []) (Ef.callN [0, 1, 2] (con_len _) rfl ⟨(sees_box 0 rfl (by decide) ⟨(sees_vec 1 rfl (by decide)), (sees_map 2 rfl (by decide)), trivial⟩), trivial⟩ rfl) ?_
      rintro _ rfl
      refine SWl.rd rfl (Rd.move rfl) ?_
      refine SWl.rd rfl (Rd.lenE (e := 44) rfl (by kernel_rfl)) ?_
      refine SWl.rd rfl (Rd.eqi rfl rfl) ?_
      refine SWl.rd rfl (Rd.assign rfl) ?_
      refine SWl.rd rfl (Rd.assign rfl) ?_
      refine SWl.rd rfl (Rd.assign rfl) ?_
      refine SWl.nil ?_
      refine SN.then ?_
      refine SW.retR (fn := Tryd.f12) (((g13, s, v) : Nat × Lst × Vst)) [0, 1, 2, 3] (fun _ _ h => h) (Rs.le (Rs.three rfl (ResV.tmp rfl) (ResV.tmp rfl) (ResV.tmp rfl)) ?_) (by decide) ⟨⟨_, rfl, ⟨Le.is (by rw [take_all (by omega)]), Le.refl _, trivial⟩⟩, ⟨⟨_, rfl, leVec (by rw [take_all (by omega)]) (by rw [take_all (by omega)])⟩, ⟨⟨_, rfl, leMap (by rw [take_all (by omega)]) (by rw [take_all (by omega)])⟩, ⟨⟨_, rfl, leVec (by rw [take_all (by omega)]) (by rw [take_all (by omega)])⟩, trivial⟩⟩⟩⟩
      exact Le.tup ⟨Le.refl _, Le.is (by rw [take_all (by omega)]), Le.is (by simp), trivial⟩
end Sx
end Go.Proofs.YtonjpfpdpfonnaaDoor
