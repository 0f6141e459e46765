/-
  LEDGERS: what the law changes.
-/
import Derived.Test.YtonjpfpdpfonnaaDoorL37
import Derived.Test.YtonjpfpdpfonnaaDoorSyX
namespace Go.Proofs.YtonjpfpdpfonnaaDoor
open Go.RowKit
namespace Sx
theorem SWz.freeze {P : Program} {Γ : Cx} {σ : St} {S : List Nat} {l : List Oper} {tz : Reg.Tz} {Q : Exit → Act → World → Prop} (i j : Nat) {g c n : Nat} {ds : List D} (xs : List Value) (hi : σ.tm i = some (isD (.slice (some ⟨g, 0, none⟩) n c))) (hj : σ.bx[j]? = some (.c g ds)) (hn : n = xs.length) (hc : n ≤ c) (hds : ds = xs.map isD) (h : SWz P Γ l Q S tz ⟨fun k => cond (Nat.beq k i) (some (slD xs)) (σ.tm k), σ.bx.eraseIdx j⟩) : SWz P Γ l Q S tz σ :=
  fun a w hh => by subst hn hds; exact h a w (hh.freeze hi hc hj)
set_option maxHeartbeats 4000000 in
set_option maxRecDepth 100000 in
theorem con_changed_a (p : List (List UInt8)) (k z : Int) (hp : p.length ≤ 100000) (hbs : ∀ b ∈ p, b.length ≤ 100000) (hk : k ≠ 3) : ConR Tryd.prog 30 [] [aggD [lsD encL p], aggD [iD k, iD z]] (fun t : {q : List (List UInt8) // q.length ≤ p.length + 1} => []) (fun t : {q : List (List UInt8) // q.length ≤ p.length + 1} => aggD [lsD encL t.1]) := by
  refine con_ofR Tryd.func30 (by kernel_rfl) rfl (by kernel_rfl) fun base w0 => ?_
  refine SW.seq ?_
  refine SW.region ?_
  refine SWl.ef (S := []) (Ef.boxA rfl rfl) ?_
  rintro _ ⟨g2, rfl⟩
  refine SWl.ef (S := []) (Ef.boxA rfl rfl) ?_
  rintro _ ⟨g3, rfl⟩
  refine SWl.ef (S := []) (Ef.alloc (zs := [.slice none 0 0]) (by kernel_rfl) rfl) ?_
  rintro _ ⟨g4, rfl⟩
  refine SWl.nil ?_
  refine SN.then ?_
  refine SW.seq ?_
  refine SW.region ?_
  refine SWl.ef (S := []) (Ef.alloc (zs := [.slice none 0 0]) (by kernel_rfl) rfl) ?_
  rintro _ ⟨g5, rfl⟩
  refine SWl.nil ?_
  refine SN.then ?_
  refine SW.seq ?_
  refine SW.seq ?_
  refine SW.vecN 28 1 encL ?_
  refine SW.region ?_
  refine SWl.rd rfl (Rd.assign rfl) ?_
  refine SWl.nil ?_
  refine SN.then ?_
  refine SW.block ?_
  refine SW.loop (ι := {s : Nat × Vst // s.1 ≤ p.length}) (fun s => St.ob [(2, isD (.pointer (some ⟨g2, 0, none⟩))), (3, isD (.pointer (some ⟨g3, 0, none⟩))), (4, isD (.pointer (some ⟨g4, 0, none⟩))), (5, isD (.pointer (some ⟨g5, 0, none⟩))), (6, iD (s.1.1 : Int))] [.c g2 [lsD encL p], .c g3 [iD k, iD z], .c g4 [isD (.slice none 0 0)], .c g5 [isD (.slice s.1.2.A (p.take s.1.1).length s.1.2.c)], .r s.1.2.F (vecT 28 1 encL s.1.2.A s.1.2.c (p.take s.1.1))]) (fun s => p.length - s.1.1) (⟨(0, ⟨none, 0, []⟩), by simp⟩) ?_ ?_
  · exact ⟨⟨_, rfl, ⟨⟨_, rfl, Le.refl _⟩, ⟨⟨_, rfl, Le.refl _⟩, ⟨⟨_, rfl, Le.refl _⟩, ⟨⟨_, rfl, Le.refl _⟩, ⟨⟨_, rfl, Le.refl _⟩, trivial⟩⟩⟩⟩⟩⟩, [0, 1, 2, 3, 4], by decide, ⟨⟨_, rfl, LeAll.refl _⟩, ⟨⟨_, rfl, LeAll.refl _⟩, ⟨⟨_, rfl, LeAll.refl _⟩, ⟨⟨_, rfl, LeAll.refl _⟩, ⟨⟨_, rfl, LeR.refl _⟩, trivial⟩⟩⟩⟩⟩⟩
  · rintro ⟨⟨i, v⟩, hi⟩ K0 hK0
    dsimp only at hi ⊢
    refine SW.seq ?_
    refine SW.seq ?_
    refine SW.region ?_
    refine SWl.rd rfl (Rd.move rfl) ?_
    refine SWl.rd rfl (Rd.fieldAddr (n := 0) rfl (by kernel_rfl)) ?_
    refine SWl.rd rfl (Rd.loadB 0 rfl rfl rfl (by kernel_rfl) ap_nil) ?_
    refine SWl.rd rfl (Rd.lenR (e := 28) rfl (by kernel_rfl)) ?_
    refine SWl.rd rfl (Rd.lss rfl rfl) ?_
    refine SWl.nil ?_
    refine SN.then ?_
    refine SW.cond rfl (fun hb13 => ?_) (fun hb13 => ?_)
    · have hb13 := of_decide_eq_true hb13
      refine SW.skip ?_
      refine SN.then ?_
      refine SW.seq ?_
      refine SW.block ?_
      obtain ⟨x, hx⟩ : ∃ x, p[i]? = some x := ⟨_, List.getElem?_eq_getElem (by omega)⟩
      refine SW.vecN 5 1 encB ?_
      refine SW.draw (v.F ++ (g5 :: [])) (.r 0 (.q 1 (.r 2 (.r 3 (.r 4 (.r 5 (.r 6 (.n 7 (.n 8 (.e 9 (.r 10 (.e 11 .fin .no)) .no) .no) .no)))))))) (by kernel_rfl) (by kernel_rfl) (fun d _ _ _ _ h => by cases d <;> exact h) ?_
      refine SWz.rd (i := 0) rfl rfl (Rd.fieldAddr (n := 0) rfl (by kernel_rfl)) ?_
      refine SWz.rq (i := 1) rfl rfl (Rd.loadB 3 rfl rfl rfl (by kernel_rfl) ap_nil) ?_
      refine SWz.rd (i := 2) rfl rfl (Rd.fieldAddr (n := 0) rfl (by kernel_rfl)) ?_
      refine SWz.rd (i := 3) rfl rfl (Rd.loadB 0 rfl rfl rfl (by kernel_rfl) (ap_app 4 rfl (by decide) (ap_cons 3 rfl (by decide) ap_nil))) ?_
      refine SWz.rd (i := 4) rfl rfl (Rd.move rfl) ?_
      refine SWz.rd (i := 5) rfl rfl (Rd.idxL (e := 28) 1 rfl rfl (by kernel_rfl) (by kernel_rfl) (by omega) (by simpa using hx)) ?_
      refine SWz.rd (i := 6) rfl rfl (Rd.loadR rfl rfl (by kernel_rfl) (ins_app (j := 4) rfl (ins_cons (j := 3) rfl ins_nil))) ?_
      refine SWz.efn (i := 7) rfl (Ef.appT 5 1 1 rfl rfl (SrcT.b rfl) (by kernel_rfl) (by kernel_rfl) (by have := hbs x (List.mem_of_getElem? hx); simp; omega) (by decide) (by simp) rfl) ?_ SWz.no
      rintro _ ⟨A23, F23, c23, rfl⟩
      refine SWz.freezeT 5 23 rfl rfl (le_ls_b _) ?_
      refine SWz.efn (i := 8) rfl (Ef.litR rfl rfl (blsL x) rfl) ?_ SWz.no
      rintro _ rfl
      refine SWz.efe (i := 9) rfl (Ef.appT 4 1 24 rfl rfl (SrcT.ls (l := [_]) rfl) (by kernel_rfl) (by kernel_rfl) (by simp; omega) (by decide) (fun _ h => List.mem_append_left _ h) rfl) ?_ SWz.no
      rintro _ ⟨A25, F25, c25, rfl⟩
      refine SWz.rd (i := 10) rfl rfl (Rd.fieldAddr (n := 0) rfl (by kernel_rfl)) ?_
      refine SWz.efe (i := 11) rfl (Ef.storeV 3 rfl rfl rfl (by kernel_rfl) rfl (List.mem_append_right _ (List.mem_cons_self))) ?_ SWz.no
      rintro _ rfl
      refine SWz.nil ?_
      refine SN.block ?_
      refine SN.then ?_
      refine SW.region ?_
      refine SWl.rd rfl (Rd.move rfl) ?_
      refine SWl.rd rfl (Rd.add rfl rfl ⟨by omega, by omega⟩) ?_
      refine SWl.rd rfl (Rd.assign rfl) ?_
      refine SWl.nil ?_
      exact fun a w hh => hK0 (⟨(i + 1, ⟨A25, c25, F25⟩), by simp only; omega⟩) (by simp only; omega) a w (hh.sub (⟨⟨_, rfl, ⟨⟨_, rfl, Le.refl _⟩, ⟨⟨_, rfl, Le.refl _⟩, ⟨⟨_, rfl, Le.refl _⟩, ⟨⟨_, rfl, Le.refl _⟩, ⟨⟨_, rfl, Le.refl _⟩, trivial⟩⟩⟩⟩⟩⟩, [0, 1, 2, 3, 4], by decide, ⟨⟨_, rfl, LeAll.refl _⟩, ⟨⟨_, rfl, LeAll.refl _⟩, ⟨⟨_, rfl, LeAll.refl _⟩, ⟨⟨_, rfl, ⟨Le.is (by rw [take_snoc hx]), trivial⟩⟩, ⟨⟨_, rfl, leVec (by rw [take_snoc hx]) (by rw [take_snoc hx])⟩, trivial⟩⟩⟩⟩⟩⟩))
    · have hb13 := of_decide_eq_false hb13
      refine SW.exit' ?_
      repeat (first | refine SE.then ?_ | refine SE.skip (by decide) ?_)
      refine SE.here ?_
      refine SN.then ?_
      refine SW.seq ?_
      refine SW.sub (σ' := St.ob [(3, isD (.pointer (some ⟨g3, 0, none⟩))), (4, isD (.pointer (some ⟨g4, 0, none⟩))), (5, isD (.pointer (some ⟨g5, 0, none⟩)))] [.c g3 [iD k, iD z], .c g4 [isD (.slice none 0 0)], .c g5 [isD (.slice v.A (p).length v.c)], .r v.F (vecT 28 1 encL v.A v.c (p))]) (⟨⟨_, rfl, ⟨⟨_, rfl, Le.refl _⟩, ⟨⟨_, rfl, Le.refl _⟩, ⟨⟨_, rfl, Le.refl _⟩, trivial⟩⟩⟩⟩, [1, 2, 3, 4], by decide, ⟨⟨_, rfl, LeAll.refl _⟩, ⟨⟨_, rfl, LeAll.refl _⟩, ⟨⟨_, rfl, ⟨Le.is (by rw [take_all (by omega)]), trivial⟩⟩, ⟨⟨_, rfl, leVec (by rw [take_all (by omega)]) (by rw [take_all (by omega)])⟩, trivial⟩⟩⟩⟩⟩) ?_
      refine SW.region ?_
      refine SWl.rd rfl (Rd.fieldAddr (n := 0) rfl (by kernel_rfl)) ?_
      refine SWl.rd rfl (Rd.loadB 2 rfl rfl rfl (by kernel_rfl) ap_nil) ?_
      refine SWl.rd rfl (Rd.lenE (e := 28) rfl (by kernel_rfl)) ?_
      refine SWl.rd rfl (Rd.assign rfl) ?_
      refine SWl.nil ?_
      refine SN.then ?_
      refine SW.seq ?_
      refine SW.seq ?_
      refine SW.region ?_
      refine SWl.rd rfl (Rd.fieldAddr (n := 0) rfl (by kernel_rfl)) ?_
      refine SWl.rd rfl (Rd.loadB 0 rfl rfl rfl (by kernel_rfl) ap_nil) ?_
      refine SWl.nil ?_
      refine SN.then ?_
      refine SW.block ?_
      refine SW.seq ?_
      refine SW.region ?_
      refine SWl.rd rfl (Rd.eqi rfl rfl) ?_
      refine SWl.rd rfl (Rd.assign rfl) ?_
      refine SWl.nil ?_
      refine SN.then ?_
      refine SW.cond rfl (fun hb32 => ?_) (fun hb32 => ?_)
      · skip
        refine SW.seq ?_
        refine SW.region ?_
        refine SWl.rd rfl (Rd.move rfl) ?_
        refine SWl.rd rfl (Rd.gtr rfl rfl) ?_
        refine SWl.nil ?_
        refine SN.then ?_
        refine SW.cond rfl (fun hb35 => ?_) (fun hb35 => ?_)
        · have hb35 := of_decide_eq_true hb35
          refine SW.region ?_
          refine SWl.rd rfl (Rd.fieldAddr (n := 0) rfl (by kernel_rfl)) ?_
          refine SWl.rd rfl (Rd.loadB 2 rfl rfl rfl (by kernel_rfl) ap_nil) ?_
          refine SWl.rd rfl (Rd.move rfl) ?_
          refine SWl.rd rfl (Rd.mono (Rd.subi rfl rfl ⟨by omega, by omega⟩) (show Le _ (iD ((p.length - 1 : Nat) : Int)) from Le.is (by congr 1; omega))) ?_
          refine SWl.freezeT 3 37 rfl rfl (Le.refl _) ?_
          refine SWl.rd rfl (Rd.shL (e := 28) 1 rfl rfl (by kernel_rfl) (by kernel_rfl) (by omega)) ?_
          refine SWl.rd rfl (Rd.fieldAddr (n := 0) rfl (by kernel_rfl)) ?_
          refine SWl.ef (S := [_]) (Ef.storeV 2 rfl rfl rfl (by kernel_rfl) rfl (List.mem_singleton.2 rfl)) ?_
          rintro _ rfl
          refine SWl.nil ?_
          refine SN.block ?_
          refine SN.then ?_
          refine SW.seq ?_
          refine SW.sub (σ' := St.ob [(4, isD (.pointer (some ⟨g4, 0, none⟩))), (5, isD (.pointer (some ⟨g5, 0, none⟩)))] [.c g4 [isD (.slice none 0 0)], .c g5 [lsD encL (p.take (p.length - 1))]]) (⟨⟨_, rfl, ⟨⟨_, rfl, Le.refl _⟩, ⟨⟨_, rfl, Le.refl _⟩, trivial⟩⟩⟩, [1, 2], by decide, ⟨⟨_, rfl, LeAll.refl _⟩, ⟨⟨_, rfl, (by first | exact LeAll.refl _ | exact ⟨Le.is (by simp), trivial⟩)⟩, trivial⟩⟩⟩) ?_
          refine SW.region ?_
          refine SWl.rd rfl (Rd.loadA 1 1 rfl rfl (by kernel_rfl) rfl ap_nil) ?_
          refine SWl.ef (S := [_]) (Ef.storeA 0 rfl rfl rfl (by kernel_rfl) rfl (List.mem_singleton.2 rfl)) ?_
          rintro _ rfl
          refine SWl.nil ?_
          refine SN.then ?_
          refine SW.retR (fn := Tryd.f30) (⟨p.take (p.length - 1), by simp; omega⟩) [] (fun _ _ h => h) (Rs.le (Rs.one rfl (ResV.cellA 0 rfl rfl (by kernel_rfl))) ?_) (by decide) trivial
          exact Le.refl _
        · have hb35 := of_decide_eq_false hb35
          refine SW.skip ?_
          refine SN.block ?_
          refine SN.then ?_
          refine SW.seq ?_
          refine SW.sub (σ' := St.ob [(4, isD (.pointer (some ⟨g4, 0, none⟩))), (5, isD (.pointer (some ⟨g5, 0, none⟩)))] [.c g4 [isD (.slice none 0 0)], .c g5 [isD (.slice v.A (p).length v.c)], .r v.F (vecT 28 1 encL v.A v.c (p))]) (⟨⟨_, rfl, ⟨⟨_, rfl, Le.refl _⟩, ⟨⟨_, rfl, Le.refl _⟩, trivial⟩⟩⟩, [1, 2, 3], by decide, ⟨⟨_, rfl, LeAll.refl _⟩, ⟨⟨_, rfl, (by first | exact LeAll.refl _ | exact ⟨Le.is (by simp), trivial⟩)⟩, ⟨⟨_, rfl, (by first | exact LeR.refl _ | exact leVec (by simp) (by simp))⟩, trivial⟩⟩⟩⟩) ?_
          refine SW.region ?_
          refine SWl.rd rfl (Rd.loadA 1 1 rfl rfl (by kernel_rfl) rfl ap_nil) ?_
          refine SWl.ef (S := [_]) (Ef.storeA 0 rfl rfl rfl (by kernel_rfl) rfl (List.mem_singleton.2 rfl)) ?_
          rintro _ rfl
          refine SWl.nil ?_
          refine SN.then ?_
          refine SW.freezeC 0 0 2 rfl rfl rfl ?_
          refine SW.retR (fn := Tryd.f30) (⟨p, by omega⟩) [] (fun _ _ h => h) (Rs.le (Rs.one rfl (ResV.cellA 0 rfl rfl (by kernel_rfl))) ?_) (by decide) trivial
          exact Le.refl _
      · skip
        refine SW.seq ?_
        refine SW.region ?_
        refine SWl.rd rfl (Rd.eqi rfl rfl) ?_
        refine SWl.rd rfl (Rd.assign rfl) ?_
        refine SWl.nil ?_
        refine SN.then ?_
        refine SW.cond rfl (fun hb42 => ?_) (fun hb42 => ?_)
        · skip
          refine SW.draw (v.F ++ (g5 :: [])) (.r 0 (.q 1 (.n 2 (.n 3 (.e 4 (.r 5 (.e 6 .fin .no)) .no) .no) .no))) (by kernel_rfl) (by kernel_rfl) (fun d _ _ _ _ h => by cases d <;> exact h) ?_
          refine SWz.rd (i := 0) rfl rfl (Rd.fieldAddr (n := 0) rfl (by kernel_rfl)) ?_
          refine SWz.rq (i := 1) rfl rfl (Rd.loadB 2 rfl rfl rfl (by kernel_rfl) ap_nil) ?_
          refine SWz.efn (i := 2) rfl (Ef.make (e := 5) (z := .int .u8 0) (n := 32) 1 rfl rfl (by kernel_rfl) (by kernel_rfl) rfl rfl rfl (by decide) (by decide) rfl) ?_ SWz.no
          rintro _ ⟨g46, rfl⟩
          refine SWz.freeze 46 4 (cellsOf (List.replicate 32 0)) rfl rfl rfl (by decide) rfl ?_
          refine SWz.efn (i := 3) rfl (Ef.litR rfl rfl (blsL (List.replicate 32 0)) rfl) ?_ SWz.no
          rintro _ rfl
          refine SWz.efe (i := 4) rfl (Ef.appT 3 1 24 rfl rfl (SrcT.ls (l := [_]) rfl) (by kernel_rfl) (by kernel_rfl) (by simp; omega) (by decide) (fun _ h => List.mem_append_left _ h) rfl) ?_ SWz.no
          rintro _ ⟨A48, F48, c48, rfl⟩
          refine SWz.rd (i := 5) rfl rfl (Rd.fieldAddr (n := 0) rfl (by kernel_rfl)) ?_
          refine SWz.efe (i := 6) rfl (Ef.storeV 2 rfl rfl rfl (by kernel_rfl) rfl (List.mem_append_right _ (List.mem_cons_self))) ?_ SWz.no
          rintro _ rfl
          refine SWz.nil ?_
          refine SN.block ?_
          refine SN.then ?_
          refine SW.seq ?_
          refine SW.sub (σ' := St.ob [(4, isD (.pointer (some ⟨g4, 0, none⟩))), (5, isD (.pointer (some ⟨g5, 0, none⟩)))] [.c g4 [isD (.slice none 0 0)], .c g5 [isD (.slice (⟨A48, c48, F48⟩ : Vst).A (p ++ [List.replicate 32 0]).length (⟨A48, c48, F48⟩ : Vst).c)], .r (⟨A48, c48, F48⟩ : Vst).F (vecT 28 1 encL (⟨A48, c48, F48⟩ : Vst).A (⟨A48, c48, F48⟩ : Vst).c (p ++ [List.replicate 32 0]))]) (⟨⟨_, rfl, ⟨⟨_, rfl, Le.refl _⟩, ⟨⟨_, rfl, Le.refl _⟩, trivial⟩⟩⟩, [1, 2, 3], by decide, ⟨⟨_, rfl, LeAll.refl _⟩, ⟨⟨_, rfl, (by first | exact LeAll.refl _ | exact ⟨Le.is (by simp), trivial⟩)⟩, ⟨⟨_, rfl, (by first | exact LeR.refl _ | exact leVec (by simp) (by simp))⟩, trivial⟩⟩⟩⟩) ?_
          refine SW.region ?_
          refine SWl.rd rfl (Rd.loadA 1 1 rfl rfl (by kernel_rfl) rfl ap_nil) ?_
          refine SWl.ef (S := [_]) (Ef.storeA 0 rfl rfl rfl (by kernel_rfl) rfl (List.mem_singleton.2 rfl)) ?_
          rintro _ rfl
          refine SWl.nil ?_
          refine SN.then ?_
          refine SW.freezeC 0 0 2 rfl rfl rfl ?_
          refine SW.retR (fn := Tryd.f30) (⟨p ++ [List.replicate 32 0], by simp⟩) [] (fun _ _ h => h) (Rs.le (Rs.one rfl (ResV.cellA 0 rfl rfl (by kernel_rfl))) ?_) (by decide) trivial
          exact Le.refl _
        · skip
          refine SW.seq ?_
          refine SW.region ?_
          refine SWl.rd rfl (Rd.eqi rfl rfl) ?_
          refine SWl.rd rfl (Rd.assign rfl) ?_
          refine SWl.nil ?_
          refine SN.then ?_
          refine SW.condF rfl (by simp [hk]) ?_
          refine SW.seq ?_
          refine SW.region ?_
          refine SWl.rd rfl (Rd.eqi rfl rfl) ?_
          refine SWl.rd rfl (Rd.assign rfl) ?_
          refine SWl.nil ?_
          refine SN.then ?_
          refine SW.cond rfl (fun hb81 => ?_) (fun hb81 => ?_)
          · skip
            refine SW.seq ?_
            refine SW.region ?_
            refine SWl.rd rfl (Rd.move rfl) ?_
            refine SWl.rd rfl (Rd.gtr rfl rfl) ?_
            refine SWl.nil ?_
            refine SN.then ?_
            refine SW.cond rfl (fun hb84 => ?_) (fun hb84 => ?_)
            · have hb84 := of_decide_eq_true hb84
              obtain ⟨y0, hy0⟩ : ∃ y, p[0]? = some y := ⟨_, List.getElem?_eq_getElem (by omega)⟩
              obtain ⟨y1, hy1⟩ : ∃ y, p[1]? = some y := ⟨_, List.getElem?_eq_getElem (by omega)⟩
              refine SW.draw (v.F ++ []) (.r 0 (.r 1 (.r 2 (.r 3 (.r 4 (.r 5 (.r 6 (.q 7 (.r 8 (.r 9 (.r 10 (.q 11 (.r 12 (.e 13 (.r 14 (.e 15 .fin .no)) .no)))))))))))))) (by kernel_rfl) (by kernel_rfl) (fun d _ _ _ _ h => by cases d <;> exact h) ?_
              refine SWz.rd (i := 0) rfl rfl (Rd.fieldAddr (n := 0) rfl (by kernel_rfl)) ?_
              refine SWz.rd (i := 1) rfl rfl (Rd.loadB 2 rfl rfl rfl (by kernel_rfl) (ap_app 3 rfl (by decide) ap_nil)) ?_
              refine SWz.rd (i := 2) rfl rfl (Rd.fieldAddr (n := 0) rfl (by kernel_rfl)) ?_
              refine SWz.rd (i := 3) rfl rfl (Rd.loadB 2 rfl rfl rfl (by kernel_rfl) (ap_app 3 rfl (by decide) ap_nil)) ?_
              refine SWz.rd (i := 4) rfl rfl (Rd.fieldAddr (n := 0) rfl (by kernel_rfl)) ?_
              refine SWz.rd (i := 5) rfl rfl (Rd.loadB 2 rfl rfl rfl (by kernel_rfl) (ap_app 3 rfl (by decide) ap_nil)) ?_
              refine SWz.rd (i := 6) rfl rfl (Rd.idxT 3 1 rfl rfl rfl (by kernel_rfl) (by kernel_rfl) (by omega) (by omega)) ?_
              refine SWz.rq (i := 7) rfl rfl (Rd.loadT1 3 rfl rfl (by kernel_rfl) hy1 rfl ap_nil) ?_
              refine SWz.rd (i := 8) rfl rfl (Rd.fieldAddr (n := 0) rfl (by kernel_rfl)) ?_
              refine SWz.rd (i := 9) rfl rfl (Rd.loadB 2 rfl rfl rfl (by kernel_rfl) (ap_app 3 rfl (by decide) ap_nil)) ?_
              refine SWz.rd (i := 10) rfl rfl (Rd.idxT 3 1 rfl rfl rfl (by kernel_rfl) (by kernel_rfl) (by omega) (by omega)) ?_
              refine SWz.rq (i := 11) rfl rfl (Rd.loadT1 3 rfl rfl (by kernel_rfl) hy0 rfl ap_nil) ?_
              refine SWz.rd (i := 12) rfl rfl (Rd.idxT 3 1 rfl rfl rfl (by kernel_rfl) (by kernel_rfl) (by omega) (by omega)) ?_
              refine SWz.efe (i := 13) rfl (Ef.storeT1 (v := y1) 3 rfl rfl rfl rfl (by kernel_rfl) (by omega) (fun _ h => List.mem_append_left _ h)) ?_ SWz.no
              rintro _ rfl
              refine SWz.weak 88 rfl (show Le _ (isD (.slice v.A (p.set 0 y1).length v.c)) from Le.is (by simp)) ?_
              refine SWz.rd (i := 14) rfl rfl (Rd.idxT 3 1 rfl rfl rfl (by kernel_rfl) (by kernel_rfl) (by omega) (by simp; omega)) ?_
              refine SWz.efe (i := 15) rfl (Ef.storeT1 (v := y0) 3 rfl rfl rfl rfl (by kernel_rfl) (by simp; omega) (fun _ h => List.mem_append_left _ h)) ?_ SWz.no
              rintro _ rfl
              refine SWz.nil ?_
              refine SN.block ?_
              refine SN.then ?_
              refine SW.seq ?_
              refine SW.sub (σ' := St.ob [(4, isD (.pointer (some ⟨g4, 0, none⟩))), (5, isD (.pointer (some ⟨g5, 0, none⟩)))] [.c g4 [isD (.slice none 0 0)], .c g5 [isD (.slice v.A ((p.set 0 y1).set 1 y0).length v.c)], .r v.F (vecT 28 1 encL v.A v.c ((p.set 0 y1).set 1 y0))]) (⟨⟨_, rfl, ⟨⟨_, rfl, Le.refl _⟩, ⟨⟨_, rfl, Le.refl _⟩, trivial⟩⟩⟩, [1, 2, 3], by decide, ⟨⟨_, rfl, LeAll.refl _⟩, ⟨⟨_, rfl, (by first | exact LeAll.refl _ | exact ⟨Le.is (by simp), trivial⟩)⟩, ⟨⟨_, rfl, (by first | exact LeR.refl _ | exact leVec (by simp) (by simp))⟩, trivial⟩⟩⟩⟩) ?_
              refine SW.region ?_
              refine SWl.rd rfl (Rd.loadA 1 1 rfl rfl (by kernel_rfl) rfl ap_nil) ?_
              refine SWl.ef (S := [_]) (Ef.storeA 0 rfl rfl rfl (by kernel_rfl) rfl (List.mem_singleton.2 rfl)) ?_
              rintro _ rfl
              refine SWl.nil ?_
              refine SN.then ?_
              refine SW.freezeC 0 0 2 rfl rfl rfl ?_
              refine SW.retR (fn := Tryd.f30) (⟨(p.set 0 y1).set 1 y0, by simp⟩) [] (fun _ _ h => h) (Rs.le (Rs.one rfl (ResV.cellA 0 rfl rfl (by kernel_rfl))) ?_) (by decide) trivial
              exact Le.refl _
            · have hb84 := of_decide_eq_false hb84
              refine SW.skip ?_
              refine SN.block ?_
              refine SN.then ?_
              refine SW.seq ?_
              refine SW.sub (σ' := St.ob [(4, isD (.pointer (some ⟨g4, 0, none⟩))), (5, isD (.pointer (some ⟨g5, 0, none⟩)))] [.c g4 [isD (.slice none 0 0)], .c g5 [isD (.slice v.A (p).length v.c)], .r v.F (vecT 28 1 encL v.A v.c (p))]) (⟨⟨_, rfl, ⟨⟨_, rfl, Le.refl _⟩, ⟨⟨_, rfl, Le.refl _⟩, trivial⟩⟩⟩, [1, 2, 3], by decide, ⟨⟨_, rfl, LeAll.refl _⟩, ⟨⟨_, rfl, (by first | exact LeAll.refl _ | exact ⟨Le.is (by simp), trivial⟩)⟩, ⟨⟨_, rfl, (by first | exact LeR.refl _ | exact leVec (by simp) (by simp))⟩, trivial⟩⟩⟩⟩) ?_
              refine SW.region ?_
              refine SWl.rd rfl (Rd.loadA 1 1 rfl rfl (by kernel_rfl) rfl ap_nil) ?_
              refine SWl.ef (S := [_]) (Ef.storeA 0 rfl rfl rfl (by kernel_rfl) rfl (List.mem_singleton.2 rfl)) ?_
              rintro _ rfl
              refine SWl.nil ?_
              refine SN.then ?_
              refine SW.freezeC 0 0 2 rfl rfl rfl ?_
              refine SW.retR (fn := Tryd.f30) (⟨p, by omega⟩) [] (fun _ _ h => h) (Rs.le (Rs.one rfl (ResV.cellA 0 rfl rfl (by kernel_rfl))) ?_) (by decide) trivial
              exact Le.refl _
          · skip
            refine SW.skip ?_
            refine SN.block ?_
            refine SN.then ?_
            refine SW.seq ?_
            refine SW.sub (σ' := St.ob [(4, isD (.pointer (some ⟨g4, 0, none⟩))), (5, isD (.pointer (some ⟨g5, 0, none⟩)))] [.c g4 [isD (.slice none 0 0)], .c g5 [isD (.slice v.A (p).length v.c)], .r v.F (vecT 28 1 encL v.A v.c (p))]) (⟨⟨_, rfl, ⟨⟨_, rfl, Le.refl _⟩, ⟨⟨_, rfl, Le.refl _⟩, trivial⟩⟩⟩, [1, 2, 3], by decide, ⟨⟨_, rfl, LeAll.refl _⟩, ⟨⟨_, rfl, (by first | exact LeAll.refl _ | exact ⟨Le.is (by simp), trivial⟩)⟩, ⟨⟨_, rfl, (by first | exact LeR.refl _ | exact leVec (by simp) (by simp))⟩, trivial⟩⟩⟩⟩) ?_
            refine SW.region ?_
            refine SWl.rd rfl (Rd.loadA 1 1 rfl rfl (by kernel_rfl) rfl ap_nil) ?_
            refine SWl.ef (S := [_]) (Ef.storeA 0 rfl rfl rfl (by kernel_rfl) rfl (List.mem_singleton.2 rfl)) ?_
            rintro _ rfl
            refine SWl.nil ?_
            refine SN.then ?_
            refine SW.freezeC 0 0 2 rfl rfl rfl ?_
            refine SW.retR (fn := Tryd.f30) (⟨p, by omega⟩) [] (fun _ _ h => h) (Rs.le (Rs.one rfl (ResV.cellA 0 rfl rfl (by kernel_rfl))) ?_) (by decide) trivial
            exact Le.refl _
end Sx
end Go.Proofs.YtonjpfpdpfonnaaDoor
