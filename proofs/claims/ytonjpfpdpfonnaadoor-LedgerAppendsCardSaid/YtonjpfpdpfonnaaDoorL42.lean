/-
  LEDGERS: Entries, and Append while its iterator is kept.
-/
import Derived.Test.YtonjpfpdpfonnaaDoorL39
import Derived.Test.YtonjpfpdpfonnaaDoorSyY
namespace Go.Proofs.YtonjpfpdpfonnaaDoor
open Go.RowKit
namespace Sx
set_option maxHeartbeats 4000000 in
set_option maxRecDepth 100000 in
theorem con_entriesO (gl : Nat) (sA : Option Addr) (sc : Nat) (sF sG : List Nat) (M : Option Nat) (es : List Led.Ent) : ConR Tryd.prog 22 [.c gl [isD (.slice sA es.length sc), isD (.map M)], ledE ⟨sA, sc, sF, M, sG⟩ es, ledM ⟨sA, sc, sF, M, sG⟩ es] [isD (.pointer (some ⟨gl, 0, none⟩))] (fun g : Nat => [.c gl [isD (.slice sA es.length sc), isD (.map M)], ledE ⟨sA, sc, sF, M, sG⟩ es, ledM ⟨sA, sc, sF, M, sG⟩ es, .c g [isD (.slice sA es.length es.length)]]) (fun g : Nat => isD (.func (.func 48) #[] #[.pointer (some ⟨g, 0, none⟩)])) := by
  refine con_ofR Tryd.func22 (by kernel_rfl) rfl (by kernel_rfl) fun base w0 => ?_
  refine SW.seq ?_
  refine SW.region ?_
  refine SWl.rd rfl (Rd.assign rfl) ?_
  refine SWl.nil ?_
  refine SN.then ?_
  refine SW.seq ?_
  refine SW.region ?_
  refine SWl.ef (S := []) (Ef.alloc (zs := [.slice none 0 0]) (by kernel_rfl) rfl) ?_
  rintro _ ⟨g3, rfl⟩
  refine SWl.nil ?_
  refine SN.then ?_
  refine SW.seq ?_
  refine SW.seq ?_
  refine SW.region ?_
  refine SWl.rd rfl (Rd.move rfl) ?_
  refine SWl.rd rfl (Rd.neP rfl rfl (by kernel_rfl)) ?_
  refine SWl.nil ?_
  refine SN.then ?_
  refine SW.condT rfl (rfl) ?_
  refine SW.draw (g3 :: []) (.r 0 (.r 1 (.r 2 (.r 3 (.r 4 (.r 5 (.r 6 (.r 7 (.r 8 (.r 9 (.r 10 (.r 11 (.r 12 (.r 13 (.r 14 (.e 15 .fin .no)))))))))))))))) (by kernel_rfl) (by kernel_rfl) (fun d _ _ _ _ h => by cases d <;> exact h) ?_
  refine SWz.rd (i := 0) rfl rfl (Rd.move rfl) ?_
  refine SWz.rd (i := 1) rfl rfl (Rd.nilCheck rfl) ?_
  refine SWz.rd (i := 2) rfl rfl (Rd.fieldAddr (n := 0) rfl (by kernel_rfl)) ?_
  refine SWz.rd (i := 3) rfl rfl (Rd.loadB 0 rfl rfl rfl (by kernel_rfl) (ap_cons 3 rfl (by decide) ap_nil)) ?_
  refine SWz.rd (i := 4) rfl rfl (Rd.move rfl) ?_
  refine SWz.rd (i := 5) rfl rfl (Rd.nilCheck rfl) ?_
  refine SWz.rd (i := 6) rfl rfl (Rd.fieldAddr (n := 0) rfl (by kernel_rfl)) ?_
  refine SWz.rd (i := 7) rfl rfl (Rd.loadB 0 rfl rfl rfl (by kernel_rfl) (ap_cons 3 rfl (by decide) ap_nil)) ?_
  refine SWz.rd (i := 8) rfl rfl (Rd.lenE (e := 44) rfl (by kernel_rfl)) ?_
  refine SWz.rd (i := 9) rfl rfl (Rd.move rfl) ?_
  refine SWz.rd (i := 10) rfl rfl (Rd.nilCheck rfl) ?_
  refine SWz.rd (i := 11) rfl rfl (Rd.fieldAddr (n := 0) rfl (by kernel_rfl)) ?_
  refine SWz.rd (i := 12) rfl rfl (Rd.loadB 0 rfl rfl rfl (by kernel_rfl) (ap_cons 3 rfl (by decide) ap_nil)) ?_
  refine SWz.rd (i := 13) rfl rfl (Rd.lenE (e := 44) rfl (by kernel_rfl)) ?_
  refine SWz.rd (i := 14) rfl rfl (Rd.sl3 1 2 rfl rfl rfl rfl (by kernel_rfl) (by kernel_rfl)) ?_
  refine SWz.efe (i := 15) rfl (Ef.storeV 3 rfl rfl rfl (by kernel_rfl) rfl (List.mem_cons_self)) ?_ SWz.no
  rintro _ rfl
  refine SWz.nil ?_
  refine SN.then ?_
  refine SW.seq ?_
  refine SW.region ?_
  refine SWl.rd rfl (Rd.makeFunc [.pointer (some ⟨g3, 0, none⟩)] rfl) ?_
  refine SWl.rd rfl (Rd.assign rfl) ?_
  refine SWl.nil ?_
  refine SN.then ?_
  refine SW.retR (fn := Tryd.f22) (g3) [0, 1, 2, 3] (fun _ _ h => h) (Rs.one rfl (ResV.tmp rfl)) (by decide) ⟨⟨_, rfl, LeAll.refl _⟩, ⟨⟨_, rfl, LeR.refl _⟩, ⟨⟨_, rfl, LeR.refl _⟩, ⟨⟨_, rfl, LeAll.refl _⟩, trivial⟩⟩⟩⟩
set_option maxHeartbeats 4000000 in
set_option maxRecDepth 100000 in
theorem con_pushO0 (gl : Nat) (sA : Option Addr) (sc : Nat) (sF sG : List Nat) (es es' : List Led.Ent) (k : Int) (b : List UInt8) (A : Option Addr) (c : Nat) (F : List Nat) (R : Res) (hR : IsView R (.slice A b.length c) (cellsOf b)) (hb : b.length ≤ 1000000) (hk : 0 ≤ k ∧ k ≤ 255) (hn : es.length ≤ 100000) (he : es' = es ++ [⟨k, b⟩]) : ConR Tryd.prog 50 [.c gl [isD (.slice sA es.length sc), isD (.map none)], ledE ⟨sA, sc, sF, none, sG⟩ es, ledM ⟨sA, sc, sF, none, sG⟩ es, .r F R] [isD (.pointer (some ⟨gl, 0, none⟩)), aggD [iD k, isD (.slice A b.length c)]] (fun t : Option Addr × Nat × Option Nat => [.c gl [isD (.slice t.1 (es').length t.2.1), isD (.map t.2.2)], ledE ⟨sA, sc, sF, none, sG⟩ es, .r F R]) (fun t : Option Addr × Nat × Option Nat => isD (.tuple #[])) := by
  have hl : es'.length = es.length + 1 := by rw [he]; simp
  refine con_ofR Tryd.func50 (by kernel_rfl) rfl (by kernel_rfl) fun base w0 => ?_
  refine SW.seq ?_
  refine SW.mapNil 2 rfl rfl fun hk0 => ?_
  refine SW.region ?_
  refine SWl.ef (S := []) (Ef.boxA rfl rfl) ?_
  rintro _ ⟨g3, rfl⟩
  refine SWl.nil ?_
  refine SN.then ?_
  refine SW.seq ?_
  refine SW.region ?_
  refine SWl.rd rfl (Rd.move rfl) ?_
  refine SWl.rd rfl (Rd.nilCheck rfl) ?_
  refine SWl.rd rfl (Rd.fieldAddr (n := 0) rfl (by kernel_rfl)) ?_
  refine SWl.rd rfl (Rd.loadB 0 rfl rfl rfl (by kernel_rfl) ap_nil) ?_
  refine SWl.rd rfl (Rd.lenE (e := 44) rfl (by kernel_rfl)) ?_
  refine SWl.rd rfl (Rd.assign rfl) ?_
  refine SWl.nil ?_
  refine SN.then ?_
  refine SW.seq ?_
  refine SW.draw (sF ++ (gl :: [])) (.r 0 (.r 1 (.r 2 (.r 3 (.q 4 (.r 5 (.n 6 (.n 7 (.e 8 (.r 9 (.r 10 (.e 11 .fin .no))) .no) .no) .no))))))) (by kernel_rfl) (by kernel_rfl) (fun d _ _ _ _ h => by cases d <;> exact h) ?_
  refine SWz.rd (i := 0) rfl rfl (Rd.move rfl) ?_
  refine SWz.rd (i := 1) rfl rfl (Rd.move rfl) ?_
  refine SWz.rd (i := 2) rfl rfl (Rd.nilCheck rfl) ?_
  refine SWz.rd (i := 3) rfl rfl (Rd.fieldAddr (n := 0) rfl (by kernel_rfl)) ?_
  refine SWz.rq (i := 4) rfl rfl (Rd.loadB 0 rfl rfl rfl (by kernel_rfl) ap_nil) ?_
  refine SWz.rd (i := 5) rfl rfl (Rd.loadA 4 2 rfl rfl (by kernel_rfl) rfl (ap_app 1 rfl (by decide) (ap_cons 0 rfl (by decide) ap_nil))) ?_
  refine SWz.efn (i := 6) rfl (Ef.callN [3] (con_clone _ _ (by first | assumption | omega)) rfl ⟨(sees_agg ⟨(sees_le (Le.refl _)), (sees_view 3 rfl hR (by decide)), trivial⟩), trivial⟩ rfl) ?_ SWz.no
  rintro _ rfl
  refine SWz.efn (i := 7) rfl (Ef.litR rfl rfl (blsE1 k b) rfl) ?_ SWz.no
  rintro _ rfl
  refine SWz.efe (i := 8) rfl (Ef.appOld 1 2 32 rfl rfl (SrcT.ls (l := [⟨k, b⟩]) rfl) (by kernel_rfl) (by kernel_rfl) (by simp) (by simp <;> omega) (by decide) (fun _ h => List.mem_append_left _ h) rfl) ?_ SWz.no
  rintro _ ⟨A20, c20, rfl⟩
  refine SWz.rd (i := 9) rfl rfl (Rd.nilCheck rfl) ?_
  refine SWz.rd (i := 10) rfl rfl (Rd.fieldAddr (n := 0) rfl (by kernel_rfl)) ?_
  refine SWz.efe (i := 11) rfl (Ef.storeV 0 rfl rfl rfl (by kernel_rfl) rfl (List.mem_append_right _ (List.mem_cons_self))) ?_ SWz.no
  rintro _ rfl
  refine SWz.nil ?_
  refine SN.then ?_
  refine SW.seq ?_
  refine SW.seq ?_
  refine SW.region ?_
  refine SWl.rd rfl (Rd.move rfl) ?_
  refine SWl.rd rfl (Rd.nilCheck rfl) ?_
  refine SWl.rd rfl (Rd.fieldAddr (n := 1) rfl (by kernel_rfl)) ?_
  refine SWl.rd rfl (Rd.loadB 0 rfl rfl rfl (by kernel_rfl) ap_nil) ?_
  refine SWl.rd rfl (Rd.eqM (kt := 100) (et := 79) rfl rfl (by kernel_rfl)) ?_
  refine SWl.nil ?_
  refine SN.then ?_
  refine SW.condT rfl (rfl) ?_
  refine SW.region ?_
  refine SWl.rd rfl (Rd.move rfl) ?_
  refine SWl.ef (S := []) (Ef.makeMapF (enc := encN) (mkeys es') rfl) ?_
  rintro _ ⟨g29, rfl⟩
  refine SWl.rd rfl (Rd.nilCheck rfl) ?_
  refine SWl.rd rfl (Rd.fieldAddr (n := 1) rfl (by kernel_rfl)) ?_
  refine SWl.ef (S := [_]) (Ef.storeV 0 rfl rfl rfl (by kernel_rfl) rfl (List.mem_singleton.2 rfl)) ?_
  rintro _ rfl
  refine SWl.nil ?_
  refine SN.then ?_
  refine SW.seq ?_
  refine SW.region ?_
  refine SWl.rd rfl (Rd.loadA 3 2 rfl rfl (by kernel_rfl) rfl ap_nil) ?_
  refine SWl.ef (S := []) (Ef.callN [2] (con_leaf _ _ (by first | assumption | omega) (by first | assumption | omega)) rfl ⟨(sees_agg ⟨(sees_le (Le.refl _)), (sees_view 2 rfl hR (by decide)), trivial⟩), trivial⟩ rfl) ?_
  rintro _ rfl
  refine SWl.ef (S := []) (Ef.alloc (zs := cellsOf (List.replicate 32 0)) (by kernel_rfl) rfl) ?_
  rintro _ ⟨g5, rfl⟩
  refine SWl.ef (S := [_]) (Ef.storeG 6 32 rfl rfl rfl (by kernel_rfl) (by first | assumption | (simp; done) | (simp; omega)) (by first | assumption | (simp; done) | (simp; omega)) (List.mem_singleton.2 rfl)) ?_
  rintro _ rfl
  refine SWl.nil ?_
  refine SN.then ?_
  refine SW.seq ?_
  refine SW.region ?_
  refine SWl.rd rfl (Rd.move rfl) ?_
  refine SWl.rd rfl (Rd.build rfl rfl bldN2) ?_
  refine SWl.ef (S := []) (Ef.alloc (zs := [.int .i64 0, .int .i64 0]) (by kernel_rfl) rfl) ?_
  rintro _ ⟨g6, rfl⟩
  refine SWl.ef (S := [_]) (Ef.storeA 7 rfl rfl rfl (by kernel_rfl) rfl (List.mem_singleton.2 rfl)) ?_
  rintro _ rfl
  refine SWl.nil ?_
  refine SN.then ?_
  refine SW.seq ?_
  refine SW.sub (σ' := St.ob [(0, isD (.pointer (some ⟨gl, 0, none⟩))), (5, isD (.pointer (some ⟨g5, 0, none⟩))), (6, isD (.pointer (some ⟨g6, 0, none⟩)))] [.c gl [isD (.slice A20 (es').length c20), isD (.map (some g29))], ledE ⟨sA, sc, sF, none, sG⟩ es, .r [g29] (mapF (some g29) encN ([]) (mkeys es')), .r F R, .c g5 ((cellsOf (Led.val HH es' (1, es.length))).map isD), .c g6 [iD (1), iD ((es.length : Int))]]) (⟨⟨_, rfl, ⟨⟨_, rfl, Le.refl _⟩, ⟨⟨_, rfl, Le.refl _⟩, ⟨⟨_, rfl, Le.refl _⟩, trivial⟩⟩⟩⟩, [0, 4, 5, 2, 6, 7], by decide, ⟨⟨_, rfl, ⟨Le.is (by rw [he]; simp), Le.refl _, trivial⟩⟩, ⟨⟨_, rfl, LeR.refl _⟩, ⟨⟨_, rfl, LeR.refl _⟩, ⟨⟨_, rfl, LeR.refl _⟩, ⟨⟨_, rfl, (by rw [he, Led.val_one]; exact LeAll.refl _)⟩, ⟨⟨_, rfl, LeAll.refl _⟩, trivial⟩⟩⟩⟩⟩⟩⟩) ?_
  refine SW.draw ([g29] ++ []) (.r 0 (.r 1 (.r 2 (.r 3 (.r 4 (.r 5 (.e 6 .fin .no))))))) (by kernel_rfl) (by kernel_rfl) (fun d _ _ _ _ h => by cases d <;> exact h) ?_
  refine SWz.rd (i := 0) rfl rfl (Rd.move rfl) ?_
  refine SWz.rd (i := 1) rfl rfl (Rd.nilCheck rfl) ?_
  refine SWz.rd (i := 2) rfl rfl (Rd.fieldAddr (n := 1) rfl (by kernel_rfl)) ?_
  refine SWz.rd (i := 3) rfl rfl (Rd.loadB 0 rfl rfl rfl (by kernel_rfl) (ap_app 2 rfl (by decide) ap_nil)) ?_
  refine SWz.rd (i := 4) rfl rfl (Rd.loadA 5 2 rfl rfl (by kernel_rfl) rfl (ap_app 2 rfl (by decide) ap_nil)) ?_
  refine SWz.rd (i := 5) rfl rfl (Rd.loadG 4 32 rfl rfl (by kernel_rfl) (by first | assumption | (simp; done) | (simp; omega)) (ap_app 2 rfl (by decide) ap_nil)) ?_
  refine SWz.efe (i := 6) rfl (Ef.mapNewF (kt := 100) (et := 79) 2 rfl rfl rfl (le_key rfl rfl) rfl rfl (by kernel_rfl) (keyN _ _) (by simp) (fun _ h => List.mem_append_left _ h)) ?_ SWz.no
  rintro _ rfl
  refine SWz.nil ?_
  refine SN.then ?_
  refine SW.block ?_
  refine SW.loop (ι := {q : Nat × Nat × List (Nat × Nat) // PInv es.length q.1 q.2.1 q.2.2}) (fun q => St.ob [(0, isD (.pointer (some ⟨gl, 0, none⟩))), (5, isD (.pointer (some ⟨g5, 0, none⟩))), (6, isD (.pointer (some ⟨g6, 0, none⟩)))] [.c gl [isD (.slice A20 (es').length c20), isD (.map (some g29))], ledE ⟨sA, sc, sF, none, sG⟩ es, .r [g29] (mapF (some g29) encN (q.1.2.2) (mkeys es')), .r F R, .c g5 ((cellsOf (Led.val HH es' (q.1.1, q.1.2.1))).map isD), .c g6 [iD ((q.1.1 : Int)), iD ((q.1.2.1 : Int))]]) (fun q => q.1.2.1) (⟨(1, es.length, Led.keys es.length ++ [(1, es.length)]), PInv.start _⟩) ?_ ?_
  · exact ⟨⟨_, rfl, ⟨⟨_, rfl, Le.refl _⟩, ⟨⟨_, rfl, Le.refl _⟩, ⟨⟨_, rfl, Le.refl _⟩, trivial⟩⟩⟩⟩, [0, 1, 5, 2, 3, 4], by decide, ⟨⟨_, rfl, LeAll.refl _⟩, ⟨⟨_, rfl, LeR.refl _⟩, ⟨⟨_, rfl, leMap (by dsimp only; rw [hk0]) (by dsimp only; rw [hk0])⟩, ⟨⟨_, rfl, LeR.refl _⟩, ⟨⟨_, rfl, LeAll.refl _⟩, ⟨⟨_, rfl, LeAll.refl _⟩, trivial⟩⟩⟩⟩⟩⟩⟩
  · rintro ⟨⟨sz, j, ks⟩, hI⟩ K0 hK0
    dsimp only at hI ⊢
    refine SW.seq ?_
    refine SW.seq ?_
    refine SW.region ?_
    refine SWl.rd rfl (Rd.fieldAddr (n := 1) rfl (by kernel_rfl)) ?_
    refine SWl.rd rfl (Rd.loadB 5 rfl rfl rfl (by kernel_rfl) ap_nil) ?_
    refine SWl.rd rfl (Rd.remN rfl rfl ⟨by omega, by omega⟩) ?_
    refine SWl.rd rfl (Rd.eqi rfl rfl) ?_
    refine SWl.nil ?_
    refine SN.then ?_
    refine SW.cond rfl (fun hb45 => ?_) (fun hb45 => ?_)
    · have hb45 : j % 2 = 1 := by have := of_decide_eq_true hb45; omega
      refine SW.skip ?_
      refine SN.then ?_
      refine SW.block ?_
      refine SW.seq ?_
      refine SW.draw (g5 :: []) (.r 0 (.r 1 (.r 2 (.r 3 (.r 4 (.r 5 (.r 6 (.r 7 (.r 8 (.r 9 (.r 10 (.q 11 (.n 12 (.e 13 .fin .no) .no))))))))))))) (by kernel_rfl) (by kernel_rfl) (fun d _ _ _ _ h => by cases d <;> exact h) ?_
      refine SWz.rd (i := 0) rfl rfl (Rd.move rfl) ?_
      refine SWz.rd (i := 1) rfl rfl (Rd.nilCheck rfl) ?_
      refine SWz.rd (i := 2) rfl rfl (Rd.fieldAddr (n := 1) rfl (by kernel_rfl)) ?_
      refine SWz.rd (i := 3) rfl rfl (Rd.loadB 0 rfl rfl rfl (by kernel_rfl) (ap_cons 4 rfl (by decide) ap_nil)) ?_
      refine SWz.rd (i := 4) rfl rfl (Rd.fieldAddr (n := 0) rfl (by kernel_rfl)) ?_
      refine SWz.rd (i := 5) rfl rfl (Rd.loadB 5 rfl rfl rfl (by kernel_rfl) (ap_cons 4 rfl (by decide) ap_nil)) ?_
      refine SWz.rd (i := 6) rfl rfl (Rd.fieldAddr (n := 1) rfl (by kernel_rfl)) ?_
      refine SWz.rd (i := 7) rfl rfl (Rd.loadB 5 rfl rfl rfl (by kernel_rfl) (ap_cons 4 rfl (by decide) ap_nil)) ?_
      refine SWz.rd (i := 8) rfl rfl (Rd.subi rfl rfl ⟨by have := hI.le; omega, by have := hI.le; omega⟩) ?_
      refine SWz.rd (i := 9) rfl rfl (Rd.build rfl rfl bldN2) ?_
      refine SWz.rd (i := 10) rfl rfl (Rd.lookF (kt := 100) (et := 79) 2 rfl rfl rfl (le_key rfl (by omega)) (by kernel_rfl) (keyN _ _) (hI.left hb45) (ap_cons 4 rfl (by decide) ap_nil)) ?_
      refine SWz.rq (i := 11) rfl rfl (Rd.loadG 4 32 rfl rfl (by kernel_rfl) (by first | assumption | (simp; done) | (simp; omega)) ap_nil) ?_
      refine SWz.efn (i := 12) rfl (Ef.callN [] (con_join _ _ (by first | assumption | simp) (by first | assumption | simp)) rfl ⟨(sees_le (Le.refl _)), (sees_le (Le.refl _)), trivial⟩ rfl) ?_ SWz.no
      rintro _ rfl
      refine SWz.efe (i := 13) rfl (Ef.storeG 4 32 rfl rfl rfl (by kernel_rfl) (by first | assumption | (simp; done) | (simp; omega)) (by first | assumption | (simp; done) | (simp; omega)) (List.mem_cons_self)) ?_ SWz.no
      rintro _ rfl
      refine SWz.nil ?_
      refine SN.then ?_
      refine SW.seq ?_
      refine SW.region ?_
      refine SWl.rd rfl (Rd.fieldAddr (n := 0) rfl (by kernel_rfl)) ?_
      refine SWl.rd rfl (Rd.loadB 5 rfl rfl rfl (by kernel_rfl) ap_nil) ?_
      refine SWl.rd rfl (Rd.mul rfl rfl ⟨by have := hI.le; omega, by have := hI.le; omega⟩) ?_
      refine SWl.rd rfl (Rd.fieldAddr (n := 1) rfl (by kernel_rfl)) ?_
      refine SWl.rd rfl (Rd.loadB 5 rfl rfl rfl (by kernel_rfl) ap_nil) ?_
      refine SWl.rd rfl (Rd.quoN rfl rfl ⟨by omega, by have := hI.le; omega, by omega⟩) ?_
      refine SWl.rd rfl (Rd.build rfl rfl bldN2) ?_
      refine SWl.ef (S := [_]) (Ef.storeA 5 rfl rfl rfl (by kernel_rfl) rfl (List.mem_singleton.2 rfl)) ?_
      rintro _ rfl
      refine SWl.nil ?_
      refine SN.then ?_
      refine SW.draw ([g29] ++ []) (.r 0 (.r 1 (.r 2 (.r 3 (.r 4 (.r 5 (.e 6 .fin .no))))))) (by kernel_rfl) (by kernel_rfl) (fun d _ _ _ _ h => by cases d <;> exact h) ?_
      refine SWz.rd (i := 0) rfl rfl (Rd.move rfl) ?_
      refine SWz.rd (i := 1) rfl rfl (Rd.nilCheck rfl) ?_
      refine SWz.rd (i := 2) rfl rfl (Rd.fieldAddr (n := 1) rfl (by kernel_rfl)) ?_
      refine SWz.rd (i := 3) rfl rfl (Rd.loadB 0 rfl rfl rfl (by kernel_rfl) (ap_app 2 rfl (by decide) ap_nil)) ?_
      refine SWz.rd (i := 4) rfl rfl (Rd.loadA 5 2 rfl rfl (by kernel_rfl) rfl (ap_app 2 rfl (by decide) ap_nil)) ?_
      refine SWz.rd (i := 5) rfl rfl (Rd.loadG 4 32 rfl rfl (by kernel_rfl) (by first | assumption | (simp; done) | (simp; omega)) (ap_app 2 rfl (by decide) ap_nil)) ?_
      refine SWz.efe (i := 6) rfl (Ef.mapNewF (kt := 100) (et := 79) 2 rfl rfl rfl (le_key (by omega) (by omega)) rfl (by show gD _ = gD _; rw [hI.join hb45 hl]) (by kernel_rfl) (keyN _ _) (hI.new hb45) (fun _ h => List.mem_append_left _ h)) ?_ SWz.no
      rintro _ rfl
      refine SWz.nil ?_
      refine SN.block ?_
      exact fun a w hh => hK0 (⟨(2 * sz, j / 2, ks ++ [(2 * sz, j / 2)]), hI.step hb45⟩) (by simp only; omega) a w (hh.sub (⟨⟨_, rfl, ⟨⟨_, rfl, Le.refl _⟩, ⟨⟨_, rfl, Le.refl _⟩, ⟨⟨_, rfl, Le.refl _⟩, trivial⟩⟩⟩⟩, [0, 1, 5, 2, 3, 4], by decide, ⟨⟨_, rfl, LeAll.refl _⟩, ⟨⟨_, rfl, LeR.refl _⟩, ⟨⟨_, rfl, LeR.refl _⟩, ⟨⟨_, rfl, LeR.refl _⟩, ⟨⟨_, rfl, (by rw [← hI.join hb45 hl]; exact LeAll.refl _)⟩, ⟨⟨_, rfl, ⟨Le.is (by congr 1 <;> omega), Le.is (by congr 1 <;> omega), trivial⟩⟩, trivial⟩⟩⟩⟩⟩⟩⟩))
    · have hb45 : ¬ j % 2 = 1 := by have := of_decide_eq_false hb45; omega
      refine SW.exit' ?_
      repeat (first | refine SE.then ?_ | refine SE.skip (by decide) ?_)
      refine SE.here ?_
      refine SN.retR (fn := Tryd.f50) (⟨A20, c20, some g29⟩) [0, 1, 3] (Rs.none rfl) (by decide) ⟨⟨_, rfl, LeAll.refl _⟩, ⟨⟨_, rfl, LeR.refl _⟩, ⟨⟨_, rfl, LeR.refl _⟩, trivial⟩⟩⟩
set_option maxHeartbeats 4000000 in
set_option maxRecDepth 100000 in
theorem con_pushO1 (gl : Nat) (sA : Option Addr) (sc : Nat) (sF sG : List Nat) (gm : Nat) (es es' : List Led.Ent) (k : Int) (b : List UInt8) (A : Option Addr) (c : Nat) (F : List Nat) (R : Res) (hR : IsView R (.slice A b.length c) (cellsOf b)) (hb : b.length ≤ 1000000) (hk : 0 ≤ k ∧ k ≤ 255) (hn : es.length ≤ 100000) (he : es' = es ++ [⟨k, b⟩]) : ConR Tryd.prog 50 [.c gl [isD (.slice sA es.length sc), isD (.map (some gm))], ledE ⟨sA, sc, sF, (some gm), sG⟩ es, ledM ⟨sA, sc, sF, (some gm), sG⟩ es, .r F R] [isD (.pointer (some ⟨gl, 0, none⟩)), aggD [iD k, isD (.slice A b.length c)]] (fun t : Option Addr × Nat × Option Nat => [.c gl [isD (.slice t.1 (es').length t.2.1), isD (.map t.2.2)], ledE ⟨sA, sc, sF, (some gm), sG⟩ es, .r F R]) (fun t : Option Addr × Nat × Option Nat => isD (.tuple #[])) := by
  have hl : es'.length = es.length + 1 := by rw [he]; simp
  refine con_ofR Tryd.func50 (by kernel_rfl) rfl (by kernel_rfl) fun base w0 => ?_
  refine SW.seq ?_
  refine SW.region ?_
  refine SWl.ef (S := []) (Ef.boxA rfl rfl) ?_
  rintro _ ⟨g3, rfl⟩
  refine SWl.nil ?_
  refine SN.then ?_
  refine SW.seq ?_
  refine SW.region ?_
  refine SWl.rd rfl (Rd.move rfl) ?_
  refine SWl.rd rfl (Rd.nilCheck rfl) ?_
  refine SWl.rd rfl (Rd.fieldAddr (n := 0) rfl (by kernel_rfl)) ?_
  refine SWl.rd rfl (Rd.loadB 0 rfl rfl rfl (by kernel_rfl) ap_nil) ?_
  refine SWl.rd rfl (Rd.lenE (e := 44) rfl (by kernel_rfl)) ?_
  refine SWl.rd rfl (Rd.assign rfl) ?_
  refine SWl.nil ?_
  refine SN.then ?_
  refine SW.seq ?_
  refine SW.draw (sF ++ (gl :: [])) (.r 0 (.r 1 (.r 2 (.r 3 (.q 4 (.r 5 (.n 6 (.n 7 (.e 8 (.r 9 (.r 10 (.e 11 .fin .no))) .no) .no) .no))))))) (by kernel_rfl) (by kernel_rfl) (fun d _ _ _ _ h => by cases d <;> exact h) ?_
  refine SWz.rd (i := 0) rfl rfl (Rd.move rfl) ?_
  refine SWz.rd (i := 1) rfl rfl (Rd.move rfl) ?_
  refine SWz.rd (i := 2) rfl rfl (Rd.nilCheck rfl) ?_
  refine SWz.rd (i := 3) rfl rfl (Rd.fieldAddr (n := 0) rfl (by kernel_rfl)) ?_
  refine SWz.rq (i := 4) rfl rfl (Rd.loadB 0 rfl rfl rfl (by kernel_rfl) ap_nil) ?_
  refine SWz.rd (i := 5) rfl rfl (Rd.loadA 4 2 rfl rfl (by kernel_rfl) rfl (ap_app 1 rfl (by decide) (ap_cons 0 rfl (by decide) ap_nil))) ?_
  refine SWz.efn (i := 6) rfl (Ef.callN [3] (con_clone _ _ (by first | assumption | omega)) rfl ⟨(sees_agg ⟨(sees_le (Le.refl _)), (sees_view 3 rfl hR (by decide)), trivial⟩), trivial⟩ rfl) ?_ SWz.no
  rintro _ rfl
  refine SWz.efn (i := 7) rfl (Ef.litR rfl rfl (blsE1 k b) rfl) ?_ SWz.no
  rintro _ rfl
  refine SWz.efe (i := 8) rfl (Ef.appOld 1 2 32 rfl rfl (SrcT.ls (l := [⟨k, b⟩]) rfl) (by kernel_rfl) (by kernel_rfl) (by simp) (by simp <;> omega) (by decide) (fun _ h => List.mem_append_left _ h) rfl) ?_ SWz.no
  rintro _ ⟨A20, c20, rfl⟩
  refine SWz.rd (i := 9) rfl rfl (Rd.nilCheck rfl) ?_
  refine SWz.rd (i := 10) rfl rfl (Rd.fieldAddr (n := 0) rfl (by kernel_rfl)) ?_
  refine SWz.efe (i := 11) rfl (Ef.storeV 0 rfl rfl rfl (by kernel_rfl) rfl (List.mem_append_right _ (List.mem_cons_self))) ?_ SWz.no
  rintro _ rfl
  refine SWz.nil ?_
  refine SN.then ?_
  refine SW.seq ?_
  refine SW.seq ?_
  refine SW.region ?_
  refine SWl.rd rfl (Rd.move rfl) ?_
  refine SWl.rd rfl (Rd.nilCheck rfl) ?_
  refine SWl.rd rfl (Rd.fieldAddr (n := 1) rfl (by kernel_rfl)) ?_
  refine SWl.rd rfl (Rd.loadB 0 rfl rfl rfl (by kernel_rfl) ap_nil) ?_
  refine SWl.rd rfl (Rd.eqM (kt := 100) (et := 79) rfl rfl (by kernel_rfl)) ?_
  refine SWl.nil ?_
  refine SN.then ?_
  refine SW.condF rfl (rfl) ?_
  refine SW.skip ?_
  refine SN.then ?_
  refine SW.seq ?_
  refine SW.region ?_
  refine SWl.rd rfl (Rd.loadA 3 2 rfl rfl (by kernel_rfl) rfl ap_nil) ?_
  refine SWl.ef (S := []) (Ef.callN [2] (con_leaf _ _ (by first | assumption | omega) (by first | assumption | omega)) rfl ⟨(sees_agg ⟨(sees_le (Le.refl _)), (sees_view 2 rfl hR (by decide)), trivial⟩), trivial⟩ rfl) ?_
  rintro _ rfl
  refine SWl.ef (S := []) (Ef.alloc (zs := cellsOf (List.replicate 32 0)) (by kernel_rfl) rfl) ?_
  rintro _ ⟨g5, rfl⟩
  refine SWl.ef (S := [_]) (Ef.storeG 5 32 rfl rfl rfl (by kernel_rfl) (by first | assumption | (simp; done) | (simp; omega)) (by first | assumption | (simp; done) | (simp; omega)) (List.mem_singleton.2 rfl)) ?_
  rintro _ rfl
  refine SWl.nil ?_
  refine SN.then ?_
  refine SW.seq ?_
  refine SW.region ?_
  refine SWl.rd rfl (Rd.move rfl) ?_
  refine SWl.rd rfl (Rd.build rfl rfl bldN2) ?_
  refine SWl.ef (S := []) (Ef.alloc (zs := [.int .i64 0, .int .i64 0]) (by kernel_rfl) rfl) ?_
  rintro _ ⟨g6, rfl⟩
  refine SWl.ef (S := [_]) (Ef.storeA 6 rfl rfl rfl (by kernel_rfl) rfl (List.mem_singleton.2 rfl)) ?_
  rintro _ rfl
  refine SWl.nil ?_
  refine SN.then ?_
  refine SW.seq ?_
  refine SW.sub (σ' := St.ob [(0, isD (.pointer (some ⟨gl, 0, none⟩))), (5, isD (.pointer (some ⟨g5, 0, none⟩))), (6, isD (.pointer (some ⟨g6, 0, none⟩)))] [.c gl [isD (.slice A20 (es').length c20), isD (.map (some gm))], ledE ⟨sA, sc, sF, (some gm), sG⟩ es, .r sG (mapF (some gm) encN (Led.keys es.length) (mkeys es')), .r F R, .c g5 ((cellsOf (Led.val HH es' (1, es.length))).map isD), .c g6 [iD (1), iD ((es.length : Int))]]) (⟨⟨_, rfl, ⟨⟨_, rfl, Le.refl _⟩, ⟨⟨_, rfl, Le.refl _⟩, ⟨⟨_, rfl, Le.refl _⟩, trivial⟩⟩⟩⟩, [0, 4, 1, 2, 5, 6], by decide, ⟨⟨_, rfl, ⟨Le.is (by rw [he]; simp), Le.refl _, trivial⟩⟩, ⟨⟨_, rfl, LeR.refl _⟩, ⟨⟨_, rfl, leMap rfl (by rw [he]; exact mkeys_app _ _)⟩, ⟨⟨_, rfl, LeR.refl _⟩, ⟨⟨_, rfl, (by rw [he, Led.val_one]; exact LeAll.refl _)⟩, ⟨⟨_, rfl, LeAll.refl _⟩, trivial⟩⟩⟩⟩⟩⟩⟩) ?_
  refine SW.draw (sG ++ []) (.r 0 (.r 1 (.r 2 (.r 3 (.r 4 (.r 5 (.e 6 .fin .no))))))) (by kernel_rfl) (by kernel_rfl) (fun d _ _ _ _ h => by cases d <;> exact h) ?_
  refine SWz.rd (i := 0) rfl rfl (Rd.move rfl) ?_
  refine SWz.rd (i := 1) rfl rfl (Rd.nilCheck rfl) ?_
  refine SWz.rd (i := 2) rfl rfl (Rd.fieldAddr (n := 1) rfl (by kernel_rfl)) ?_
  refine SWz.rd (i := 3) rfl rfl (Rd.loadB 0 rfl rfl rfl (by kernel_rfl) (ap_app 2 rfl (by decide) ap_nil)) ?_
  refine SWz.rd (i := 4) rfl rfl (Rd.loadA 5 2 rfl rfl (by kernel_rfl) rfl (ap_app 2 rfl (by decide) ap_nil)) ?_
  refine SWz.rd (i := 5) rfl rfl (Rd.loadG 4 32 rfl rfl (by kernel_rfl) (by first | assumption | (simp; done) | (simp; omega)) (ap_app 2 rfl (by decide) ap_nil)) ?_
  refine SWz.efe (i := 6) rfl (Ef.mapNewF (kt := 100) (et := 79) 2 rfl rfl rfl (le_key rfl rfl) rfl rfl (by kernel_rfl) (keyN _ _) new_one (fun _ h => List.mem_append_left _ h)) ?_ SWz.no
  rintro _ rfl
  refine SWz.nil ?_
  refine SN.then ?_
  refine SW.block ?_
  refine SW.loop (ι := {q : Nat × Nat × List (Nat × Nat) // PInv es.length q.1 q.2.1 q.2.2}) (fun q => St.ob [(0, isD (.pointer (some ⟨gl, 0, none⟩))), (5, isD (.pointer (some ⟨g5, 0, none⟩))), (6, isD (.pointer (some ⟨g6, 0, none⟩)))] [.c gl [isD (.slice A20 (es').length c20), isD (.map (some gm))], ledE ⟨sA, sc, sF, (some gm), sG⟩ es, .r sG (mapF (some gm) encN (q.1.2.2) (mkeys es')), .r F R, .c g5 ((cellsOf (Led.val HH es' (q.1.1, q.1.2.1))).map isD), .c g6 [iD ((q.1.1 : Int)), iD ((q.1.2.1 : Int))]]) (fun q => q.1.2.1) (⟨(1, es.length, Led.keys es.length ++ [(1, es.length)]), PInv.start _⟩) ?_ ?_
  · exact ⟨⟨_, rfl, ⟨⟨_, rfl, Le.refl _⟩, ⟨⟨_, rfl, Le.refl _⟩, ⟨⟨_, rfl, Le.refl _⟩, trivial⟩⟩⟩⟩, [0, 1, 5, 2, 3, 4], by decide, ⟨⟨_, rfl, LeAll.refl _⟩, ⟨⟨_, rfl, LeR.refl _⟩, ⟨⟨_, rfl, LeR.refl _⟩, ⟨⟨_, rfl, LeR.refl _⟩, ⟨⟨_, rfl, LeAll.refl _⟩, ⟨⟨_, rfl, LeAll.refl _⟩, trivial⟩⟩⟩⟩⟩⟩⟩
  · rintro ⟨⟨sz, j, ks⟩, hI⟩ K0 hK0
    dsimp only at hI ⊢
    refine SW.seq ?_
    refine SW.seq ?_
    refine SW.region ?_
    refine SWl.rd rfl (Rd.fieldAddr (n := 1) rfl (by kernel_rfl)) ?_
    refine SWl.rd rfl (Rd.loadB 5 rfl rfl rfl (by kernel_rfl) ap_nil) ?_
    refine SWl.rd rfl (Rd.remN rfl rfl ⟨by omega, by omega⟩) ?_
    refine SWl.rd rfl (Rd.eqi rfl rfl) ?_
    refine SWl.nil ?_
    refine SN.then ?_
    refine SW.cond rfl (fun hb45 => ?_) (fun hb45 => ?_)
    · have hb45 : j % 2 = 1 := by have := of_decide_eq_true hb45; omega
      refine SW.skip ?_
      refine SN.then ?_
      refine SW.block ?_
      refine SW.seq ?_
      refine SW.draw (g5 :: []) (.r 0 (.r 1 (.r 2 (.r 3 (.r 4 (.r 5 (.r 6 (.r 7 (.r 8 (.r 9 (.r 10 (.q 11 (.n 12 (.e 13 .fin .no) .no))))))))))))) (by kernel_rfl) (by kernel_rfl) (fun d _ _ _ _ h => by cases d <;> exact h) ?_
      refine SWz.rd (i := 0) rfl rfl (Rd.move rfl) ?_
      refine SWz.rd (i := 1) rfl rfl (Rd.nilCheck rfl) ?_
      refine SWz.rd (i := 2) rfl rfl (Rd.fieldAddr (n := 1) rfl (by kernel_rfl)) ?_
      refine SWz.rd (i := 3) rfl rfl (Rd.loadB 0 rfl rfl rfl (by kernel_rfl) (ap_cons 4 rfl (by decide) ap_nil)) ?_
      refine SWz.rd (i := 4) rfl rfl (Rd.fieldAddr (n := 0) rfl (by kernel_rfl)) ?_
      refine SWz.rd (i := 5) rfl rfl (Rd.loadB 5 rfl rfl rfl (by kernel_rfl) (ap_cons 4 rfl (by decide) ap_nil)) ?_
      refine SWz.rd (i := 6) rfl rfl (Rd.fieldAddr (n := 1) rfl (by kernel_rfl)) ?_
      refine SWz.rd (i := 7) rfl rfl (Rd.loadB 5 rfl rfl rfl (by kernel_rfl) (ap_cons 4 rfl (by decide) ap_nil)) ?_
      refine SWz.rd (i := 8) rfl rfl (Rd.subi rfl rfl ⟨by have := hI.le; omega, by have := hI.le; omega⟩) ?_
      refine SWz.rd (i := 9) rfl rfl (Rd.build rfl rfl bldN2) ?_
      refine SWz.rd (i := 10) rfl rfl (Rd.lookF (kt := 100) (et := 79) 2 rfl rfl rfl (le_key rfl (by omega)) (by kernel_rfl) (keyN _ _) (hI.left hb45) (ap_cons 4 rfl (by decide) ap_nil)) ?_
      refine SWz.rq (i := 11) rfl rfl (Rd.loadG 4 32 rfl rfl (by kernel_rfl) (by first | assumption | (simp; done) | (simp; omega)) ap_nil) ?_
      refine SWz.efn (i := 12) rfl (Ef.callN [] (con_join _ _ (by first | assumption | simp) (by first | assumption | simp)) rfl ⟨(sees_le (Le.refl _)), (sees_le (Le.refl _)), trivial⟩ rfl) ?_ SWz.no
      rintro _ rfl
      refine SWz.efe (i := 13) rfl (Ef.storeG 4 32 rfl rfl rfl (by kernel_rfl) (by first | assumption | (simp; done) | (simp; omega)) (by first | assumption | (simp; done) | (simp; omega)) (List.mem_cons_self)) ?_ SWz.no
      rintro _ rfl
      refine SWz.nil ?_
      refine SN.then ?_
      refine SW.seq ?_
      refine SW.region ?_
      refine SWl.rd rfl (Rd.fieldAddr (n := 0) rfl (by kernel_rfl)) ?_
      refine SWl.rd rfl (Rd.loadB 5 rfl rfl rfl (by kernel_rfl) ap_nil) ?_
      refine SWl.rd rfl (Rd.mul rfl rfl ⟨by have := hI.le; omega, by have := hI.le; omega⟩) ?_
      refine SWl.rd rfl (Rd.fieldAddr (n := 1) rfl (by kernel_rfl)) ?_
      refine SWl.rd rfl (Rd.loadB 5 rfl rfl rfl (by kernel_rfl) ap_nil) ?_
      refine SWl.rd rfl (Rd.quoN rfl rfl ⟨by omega, by have := hI.le; omega, by omega⟩) ?_
      refine SWl.rd rfl (Rd.build rfl rfl bldN2) ?_
      refine SWl.ef (S := [_]) (Ef.storeA 5 rfl rfl rfl (by kernel_rfl) rfl (List.mem_singleton.2 rfl)) ?_
      rintro _ rfl
      refine SWl.nil ?_
      refine SN.then ?_
      refine SW.draw (sG ++ []) (.r 0 (.r 1 (.r 2 (.r 3 (.r 4 (.r 5 (.e 6 .fin .no))))))) (by kernel_rfl) (by kernel_rfl) (fun d _ _ _ _ h => by cases d <;> exact h) ?_
      refine SWz.rd (i := 0) rfl rfl (Rd.move rfl) ?_
      refine SWz.rd (i := 1) rfl rfl (Rd.nilCheck rfl) ?_
      refine SWz.rd (i := 2) rfl rfl (Rd.fieldAddr (n := 1) rfl (by kernel_rfl)) ?_
      refine SWz.rd (i := 3) rfl rfl (Rd.loadB 0 rfl rfl rfl (by kernel_rfl) (ap_app 2 rfl (by decide) ap_nil)) ?_
      refine SWz.rd (i := 4) rfl rfl (Rd.loadA 5 2 rfl rfl (by kernel_rfl) rfl (ap_app 2 rfl (by decide) ap_nil)) ?_
      refine SWz.rd (i := 5) rfl rfl (Rd.loadG 4 32 rfl rfl (by kernel_rfl) (by first | assumption | (simp; done) | (simp; omega)) (ap_app 2 rfl (by decide) ap_nil)) ?_
      refine SWz.efe (i := 6) rfl (Ef.mapNewF (kt := 100) (et := 79) 2 rfl rfl rfl (le_key (by omega) (by omega)) rfl (by show gD _ = gD _; rw [hI.join hb45 hl]) (by kernel_rfl) (keyN _ _) (hI.new hb45) (fun _ h => List.mem_append_left _ h)) ?_ SWz.no
      rintro _ rfl
      refine SWz.nil ?_
      refine SN.block ?_
      exact fun a w hh => hK0 (⟨(2 * sz, j / 2, ks ++ [(2 * sz, j / 2)]), hI.step hb45⟩) (by simp only; omega) a w (hh.sub (⟨⟨_, rfl, ⟨⟨_, rfl, Le.refl _⟩, ⟨⟨_, rfl, Le.refl _⟩, ⟨⟨_, rfl, Le.refl _⟩, trivial⟩⟩⟩⟩, [0, 1, 5, 2, 3, 4], by decide, ⟨⟨_, rfl, LeAll.refl _⟩, ⟨⟨_, rfl, LeR.refl _⟩, ⟨⟨_, rfl, LeR.refl _⟩, ⟨⟨_, rfl, LeR.refl _⟩, ⟨⟨_, rfl, (by rw [← hI.join hb45 hl]; exact LeAll.refl _)⟩, ⟨⟨_, rfl, ⟨Le.is (by congr 1 <;> omega), Le.is (by congr 1 <;> omega), trivial⟩⟩, trivial⟩⟩⟩⟩⟩⟩⟩))
    · have hb45 : ¬ j % 2 = 1 := by have := of_decide_eq_false hb45; omega
      refine SW.exit' ?_
      repeat (first | refine SE.then ?_ | refine SE.skip (by decide) ?_)
      refine SE.here ?_
      refine SN.retR (fn := Tryd.f50) (⟨A20, c20, some gm⟩) [0, 1, 3] (Rs.none rfl) (by decide) ⟨⟨_, rfl, LeAll.refl _⟩, ⟨⟨_, rfl, LeR.refl _⟩, ⟨⟨_, rfl, LeR.refl _⟩, trivial⟩⟩⟩
theorem con_pushO (gl : Nat) (s : Lst) (es es' : List Led.Ent) (k : Int) (b : List UInt8) (A : Option Addr) (c : Nat) (F : List Nat) (R : Res) (hR : IsView R (.slice A b.length c) (cellsOf b)) (hb : b.length ≤ 1000000) (hk : 0 ≤ k ∧ k ≤ 255) (hn : es.length ≤ 100000) (he : es' = es ++ [⟨k, b⟩]) :
    ConR Tryd.prog 50 [ledC gl s es, ledE s es, ledM s es, .r F R] [isD (.pointer (some ⟨gl, 0, none⟩)), aggD [iD k, isD (.slice A b.length c)]] (fun t : Option Addr × Nat × Option Nat => [.c gl [isD (.slice t.1 es'.length t.2.1), isD (.map t.2.2)], ledE s es, .r F R]) (fun _ => isD (.tuple #[])) := by
  obtain ⟨sA, sc, sF, M, sG⟩ := s
  cases M with
  | none => exact con_pushO0 gl sA sc sF sG es es' k b A c F R hR hb hk hn he
  | some gm => exact con_pushO1 gl sA sc sF sG gm es es' k b A c F R hR hb hk hn he
set_option maxHeartbeats 4000000 in
set_option maxRecDepth 100000 in
theorem con_appendO (gl : Nat) (s : Lst) (es : List Led.Ent) (k : Int) (b : List UInt8) (A : Option Addr) (c : Nat) (F : List Nat) (R : Res) (hR : IsView R (.slice A b.length c) (cellsOf b)) (h : 0 ≤ k ∧ k ≤ 255 ∧ b.length ≤ 65536) (hn : es.length < 4096) : ConR Tryd.prog 23 [.c gl [isD (.slice s.A (es).length s.c), isD (.map s.M)], ledE s (es), ledM s (es), .r F R] [isD (.pointer (some ⟨gl, 0, none⟩)), aggD [iD k, isD (.slice A b.length c)]] (fun t : Option Addr × Nat × Option Nat => [.c gl [isD (.slice t.1 (es ++ [(⟨k, b⟩ : Led.Ent)]).length t.2.1), isD (.map t.2.2)], ledE s es]) (fun t : Option Addr × Nat × Option Nat => tupD [iD (es.length : Int), iD 0]) := by
  refine con_ofR Tryd.func23 (by kernel_rfl) rfl (by kernel_rfl) fun base w0 => ?_
  refine SW.seq ?_
  refine SW.region ?_
  refine SWl.ef (S := []) (Ef.boxA rfl rfl) ?_
  rintro _ ⟨g3, rfl⟩
  refine SWl.rd rfl (Rd.assign rfl) ?_
  refine SWl.rd rfl (Rd.assign rfl) ?_
  refine SWl.nil ?_
  refine SN.then ?_
  refine SW.seq ?_
  refine SW.seq ?_
  refine SW.region ?_
  refine SWl.rd rfl (Rd.move rfl) ?_
  refine SWl.rd rfl (Rd.eqP rfl rfl (by kernel_rfl)) ?_
  refine SWl.nil ?_
  refine SN.then ?_
  refine SW.condF rfl (rfl) ?_
  refine SW.skip ?_
  refine SN.then ?_
  refine SW.seq ?_
  refine SW.seq ?_
  refine SW.region ?_
  refine SWl.rd rfl (Rd.loadA 4 2 rfl rfl (by kernel_rfl) rfl ap_nil) ?_
  refine SWl.ef (S := []) (Ef.callN [] (con_valid k b.length) rfl ⟨(sees_le (Le.agg ⟨Le.refl _, le_is_len, trivial⟩)), trivial⟩ rfl) ?_
  rintro _ rfl
  refine SWl.rd rfl (Rd.not rfl) ?_
  refine SWl.nil ?_
  refine SN.then ?_
  refine SW.condF rfl (by simp; omega) ?_
  refine SW.skip ?_
  refine SN.then ?_
  refine SW.seq ?_
  refine SW.seq ?_
  refine SW.region ?_
  refine SWl.rd rfl (Rd.move rfl) ?_
  refine SWl.rd rfl (Rd.nilCheck rfl) ?_
  refine SWl.rd rfl (Rd.fieldAddr (n := 0) rfl (by kernel_rfl)) ?_
  refine SWl.rd rfl (Rd.loadB 0 rfl rfl rfl (by kernel_rfl) ap_nil) ?_
  refine SWl.rd rfl (Rd.lenE (e := 44) rfl (by kernel_rfl)) ?_
  refine SWl.rd rfl (Rd.geq rfl rfl) ?_
  refine SWl.nil ?_
  refine SN.then ?_
  refine SW.condF rfl (by simp; omega) ?_
  refine SW.skip ?_
  refine SN.then ?_
  refine SW.seq ?_
  refine SW.region ?_
  refine SWl.rd rfl (Rd.move rfl) ?_
  refine SWl.rd rfl (Rd.loadA 4 2 rfl rfl (by kernel_rfl) rfl ap_nil) ?_
  refine SWl.ef (Ef.callR [0, 1, 2, 3] (con_pushO gl s es _ k b A c F R hR (by omega) ⟨h.1, h.2.1⟩ (by omega) rfl) rfl ⟨Le.refl _, Le.refl _, trivial⟩ (by decide) ⟨⟨_, rfl, LeAll.refl _⟩, ⟨⟨_, rfl, LeR.refl _⟩, ⟨⟨_, rfl, LeR.refl _⟩, ⟨⟨_, rfl, LeR.refl _⟩, trivial⟩⟩⟩⟩ (fun _ h => h) rfl) ?_
  rintro _ ⟨t19, rfl⟩
  refine SWl.nil ?_
  refine SN.then ?_
  refine SW.seq ?_
  refine SW.region ?_
  refine SWl.rd rfl (Rd.move rfl) ?_
  refine SWl.rd rfl (Rd.nilCheck rfl) ?_
  refine SWl.rd rfl (Rd.fieldAddr (n := 0) rfl (by kernel_rfl)) ?_
  refine SWl.rd rfl (Rd.loadB 1 rfl rfl rfl (by kernel_rfl) ap_nil) ?_
  refine SWl.rd rfl (Rd.lenE (e := 44) rfl (by kernel_rfl)) ?_
  refine SWl.rd rfl (Rd.subi rfl rfl ⟨by simp <;> omega, by simp <;> omega⟩) ?_
  refine SWl.rd rfl (Rd.assign rfl) ?_
  refine SWl.rd rfl (Rd.assign rfl) ?_
  refine SWl.nil ?_
  refine SN.then ?_
  refine SW.retR (fn := Tryd.f23) (t19) [1, 2] (fun _ _ h => h) (Rs.le (Rs.two rfl (ResV.tmp rfl) (ResV.tmp rfl)) ?_) (by decide) ⟨⟨_, rfl, LeAll.refl _⟩, ⟨⟨_, rfl, LeR.refl _⟩, trivial⟩⟩
  exact Le.tup ⟨Le.is (by simp), Le.refl _, trivial⟩
set_option maxHeartbeats 4000000 in
set_option maxRecDepth 100000 in
theorem con_lenS (A : Option Addr) (n c : Nat) (M : Option Nat) : ConN Tryd.prog 24 [paD [isD (.slice A n c), isD (.map M)]] (iD (n : Int)) := by
  refine con_ofN Tryd.func24 (by kernel_rfl) rfl (by kernel_rfl) fun base w0 => ?_
  refine SW.seq ?_
  refine SW.region ?_
  refine SWl.rd rfl (Rd.assign rfl) ?_
  refine SWl.nil ?_
  refine SN.then ?_
  refine SW.seq ?_
  refine SW.seq ?_
  refine SW.region ?_
  refine SWl.rd rfl (Rd.move rfl) ?_
  refine SWl.rd rfl (Rd.eqPA rfl rfl (by kernel_rfl)) ?_
  refine SWl.nil ?_
  refine SN.then ?_
  refine SW.condF rfl (rfl) ?_
  refine SW.skip ?_
  refine SN.then ?_
  refine SW.seq ?_
  refine SW.region ?_
  refine SWl.rd rfl (Rd.move rfl) ?_
  refine SWl.rd rfl (Rd.nilCheckP rfl) ?_
  refine SWl.rd rfl (Rd.fieldR (n := 0) rfl (by kernel_rfl) (show 0 < 2 by decide)) ?_
  refine SWl.rd rfl (Rd.loadR rfl rfl (by kernel_rfl) (by simp)) ?_
  refine SWl.rd rfl (Rd.lenE (e := 44) rfl (by kernel_rfl)) ?_
  refine SWl.rd rfl (Rd.assign rfl) ?_
  refine SWl.nil ?_
  refine SN.then ?_
  refine SW.ret (fn := Tryd.f24) (fun _ _ h => h) (Rs.le (Rs.one rfl (ResV.tmp rfl)) ?_)
  exact le_nw_is
end Sx
end Go.Proofs.YtonjpfpdpfonnaaDoor
