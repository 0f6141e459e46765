/-
  ACCOUNTS: list, Accounts, Add.
  ACCOUNTS: Remove, Copy, the iterator.
-/
import Derived.Test.YtchbgfgboogniaaDoorGY
namespace Go.Proofs.YtchbgfgboogniaaDoor
open Go.RowKit
namespace Sx
set_option maxHeartbeats 4000000 in
set_option maxRecDepth 100000 in
theorem con_list (gb : Nat) (s : Bst) (l : List Acc.T) (hf : Acc.Fine l) : ConR Tryd.prog 104 [.c gb [isD (.map (s.M.map Prod.fst)), isD (.slice s.n.A (Acc.nm l).length s.n.c), isD (.map (s.M.map Prod.snd))], .r s.n.F (vecT 9 1 encT s.n.A s.n.c (Acc.nm l)), .r s.F1 (mapQ (s.M.map Prod.fst) encS (Acc.nm l) (acD l)), .r s.F2 (mapQ (s.M.map Prod.snd) encSt (Acc.seats l) (seD l))] [isD (.pointer (some ⟨gb, 0, none⟩))] (fun _ : Unit => [.c gb [isD (.map (s.M.map Prod.fst)), isD (.slice s.n.A (Acc.nm l).length s.n.c), isD (.map (s.M.map Prod.snd))], .r s.n.F (vecT 9 1 encT s.n.A s.n.c (Acc.nm l)), .r s.F1 (mapQ (s.M.map Prod.fst) encS (Acc.nm l) (acD l)), .r s.F2 (mapQ (s.M.map Prod.snd) encSt (Acc.seats l) (seD l))]) (fun _ : Unit => lsD encA l) := by
  refine con_ofR Tryd.func104 (by kernel_rfl) rfl (by kernel_rfl) fun base w0 => ?_
  refine SW.seq ?_
  refine SW.region ?_
  refine SWl.rd rfl (Rd.assign rfl) ?_
  refine SWl.nil ?_
  refine SN.then ?_
  refine SW.seq ?_
  refine SW.seq ?_
  refine SW.region ?_
  refine SWl.rd rfl (Rd.move rfl) ?_
  refine SWl.rd rfl (Rd.eqP rfl rfl (by kernel_rfl)) ?_
  refine SWl.nil ?_
  refine SN.then ?_
  refine SW.condF rfl (rfl) ?_
  refine SW.skip ?_
  refine SN.then ?_
  refine SW.seq ?_
  refine SW.region ?_
  refine SWl.rd rfl (Rd.move rfl) ?_
  refine SWl.rd rfl (Rd.nilCheck rfl) ?_
  refine SWl.rd rfl (Rd.fieldAddr (n := 1) rfl (by kernel_rfl)) ?_
  refine SWl.rd rfl (Rd.loadB 0 rfl rfl rfl (by kernel_rfl) ap_nil) ?_
  refine SWl.rd rfl (Rd.lenE (e := 9) rfl (by kernel_rfl)) ?_
  refine SWl.ef (S := []) (Ef.makeT (e := 33) (c := (Acc.nm l).length) encA 5 64 rfl rfl (by kernel_rfl) (by kernel_rfl) rfl (by have := hf.len; simp; omega) (by decide) rfl) ?_
  rintro _ ⟨g13, rfl⟩
  refine SWl.rd rfl (Rd.assign rfl) ?_
  refine SWl.nil ?_
  refine SN.then ?_
  refine SW.seq ?_
  refine SW.seq ?_
  refine SW.region ?_
  refine SWl.rd rfl (Rd.move rfl) ?_
  refine SWl.rd rfl (Rd.nilCheck rfl) ?_
  refine SWl.rd rfl (Rd.fieldAddr (n := 1) rfl (by kernel_rfl)) ?_
  refine SWl.rd rfl (Rd.loadB 0 rfl rfl rfl (by kernel_rfl) ap_nil) ?_
  refine SWl.rd rfl (Rd.lenE (e := 9) rfl (by kernel_rfl)) ?_
  refine SWl.rd rfl (Rd.move rfl) ?_
  refine SWl.nil ?_
  refine SN.then ?_
  refine SW.block ?_
  refine SW.loop (ι := {p : Nat × Ust // p.1 ≤ l.length}) (fun p => St.ob [(0, isD (.pointer (some ⟨gb, 0, none⟩))), (3, isD (.slice p.1.2.A (l.take p.1.1).length p.1.2.c)), (17, isD (.slice s.n.A (Acc.nm l).length s.n.c)), (18, iD (l.length : Int)), (19, iD (p.1.1 : Int))] [.c gb [isD (.map (s.M.map Prod.fst)), isD (.slice s.n.A (Acc.nm l).length s.n.c), isD (.map (s.M.map Prod.snd))], .r s.n.F (vecT 9 1 encT s.n.A s.n.c (Acc.nm l)), .r s.F1 (mapQ (s.M.map Prod.fst) encS (Acc.nm l) (acD l)), .r s.F2 (mapQ (s.M.map Prod.snd) encSt (Acc.seats l) (seD l)), .r p.1.2.F (vecT 33 5 encA p.1.2.A p.1.2.c (l.take p.1.1))]) (fun p => l.length - p.1.1) (⟨(0, ⟨some ⟨g13, 0, none⟩, (Acc.nm l).length, [g13]⟩), Nat.zero_le _⟩) ?_ ?_
  · exact ⟨⟨_, rfl, ⟨⟨_, rfl, Le.refl _⟩, ⟨⟨_, rfl, Le.refl _⟩, ⟨⟨_, rfl, Le.refl _⟩, ⟨⟨_, rfl, Le.is (by simp)⟩, ⟨⟨_, rfl, Le.refl _⟩, trivial⟩⟩⟩⟩⟩⟩, [0, 1, 2, 3, 4], by decide, ⟨⟨_, rfl, LeAll.refl _⟩, ⟨⟨_, rfl, LeR.refl _⟩, ⟨⟨_, rfl, LeR.refl _⟩, ⟨⟨_, rfl, LeR.refl _⟩, ⟨⟨_, rfl, LeR.refl _⟩, trivial⟩⟩⟩⟩⟩⟩
  · rintro ⟨⟨i, t⟩, hi⟩ K0 hK0
    dsimp only at hi ⊢
    refine SW.seq ?_
    refine SW.region ?_
    refine SWl.rd rfl (Rd.lss rfl rfl) ?_
    refine SWl.nil ?_
    refine SN.then ?_
    refine SW.seq ?_
    refine SW.cond rfl (fun hb20 => ?_) (fun hb20 => ?_)
    · have hb20 := of_decide_eq_true hb20
      refine SW.skip ?_
      refine SN.then ?_
      refine SW.seq ?_
      refine SW.block ?_
      refine SW.seq ?_
      obtain ⟨x, hx⟩ : ∃ x, l[i]? = some x := ⟨_, List.getElem?_eq_getElem (by omega)⟩
      have hnm : (Acc.nm l)[i]? = some x.name := by simp [hx]
      have hfx := Acc.find_mem hf.srt (List.mem_of_getElem? hx)
      refine SW.region ?_
      refine SWl.rd rfl (Rd.idxT 1 1 rfl rfl rfl (by kernel_rfl) (by kernel_rfl) (by omega) (by simp; omega)) ?_
      refine SWl.rd rfl (Rd.loadT1 1 rfl rfl (by kernel_rfl) hnm rfl ap_nil) ?_
      refine SWl.rd rfl (Rd.assign rfl) ?_
      refine SWl.nil ?_
      refine SN.then ?_
      refine SW.region ?_
      refine SWl.rd rfl (Rd.move rfl) ?_
      refine SWl.rd rfl (Rd.move rfl) ?_
      refine SWl.rd rfl (Rd.nilCheck rfl) ?_
      refine SWl.rd rfl (Rd.fieldAddr (n := 0) rfl (by kernel_rfl)) ?_
      refine SWl.rd rfl (Rd.loadB 0 rfl rfl rfl (by kernel_rfl) ap_nil) ?_
      refine SWl.rd rfl (Rd.move rfl) ?_
      refine SWl.rd rfl ((Rd.mono (Rd.lookQ (kt := 9) (et := 33) (ok := false) 2 rfl rfl rfl (Le.refl _) (by kernel_rfl) (keyNm _) (Acc.nm_in hfx) ap_nil) (ac_x hfx))) ?_
      refine SWl.ef (S := []) (Ef.litR rfl rfl (blsA1 x) rfl) ?_
      rintro _ rfl
      refine SWl.ef (Ef.appT 4 5 64 rfl rfl (SrcT.ls (l := [x]) rfl) (by kernel_rfl) (by kernel_rfl) (by have := hf.len; simp; omega) (by decide) (fun _ h => h) rfl) ?_
      rintro _ ⟨A31, F31, c31, rfl⟩
      refine SWl.rd rfl (Rd.assign rfl) ?_
      refine SWl.nil ?_
      refine SN.block ?_
      refine SN.then ?_
      refine SW.region ?_
      refine SWl.rd rfl (Rd.add rfl rfl ⟨by omega, by have := hf.len; omega⟩) ?_
      refine SWl.rd rfl (Rd.move rfl) ?_
      refine SWl.nil ?_
      exact fun a w hh => hK0 (⟨(i + 1, ⟨A31, c31, F31⟩), by dsimp only; omega⟩) (by dsimp only; omega) a w (hh.sub (⟨⟨_, rfl, ⟨⟨_, rfl, Le.refl _⟩, ⟨⟨_, rfl, Le.is (by rw [take_snoc hx])⟩, ⟨⟨_, rfl, Le.refl _⟩, ⟨⟨_, rfl, Le.refl _⟩, ⟨⟨_, rfl, Le.refl _⟩, trivial⟩⟩⟩⟩⟩⟩, [0, 1, 2, 3, 4], by decide, ⟨⟨_, rfl, LeAll.refl _⟩, ⟨⟨_, rfl, LeR.refl _⟩, ⟨⟨_, rfl, LeR.refl _⟩, ⟨⟨_, rfl, LeR.refl _⟩, ⟨⟨_, rfl, leVec (by rw [take_snoc hx]) (by rw [take_snoc hx])⟩, trivial⟩⟩⟩⟩⟩⟩))
    · have hb20 := of_decide_eq_false hb20
      refine SW.exit' ?_
      repeat (first | refine SE.then ?_ | refine SE.skip (by decide) ?_)
      refine SE.here ?_
      refine SN.then ?_
      refine SW.seq ?_
      refine SW.region ?_
      refine SWl.rd rfl (Rd.move rfl) ?_
      refine SWl.rd rfl (Rd.assign rfl) ?_
      refine SWl.nil ?_
      refine SN.then ?_
      refine SW.freezeT 4 2 rfl rfl (Le.refl _) ?_
      refine SW.retR (fn := Tryd.f104) (()) [0, 1, 2, 3] (fun _ _ h => h) (Rs.le (Rs.one rfl (ResV.tmp rfl)) ?_) (by decide) ⟨⟨_, rfl, LeAll.refl _⟩, ⟨⟨_, rfl, LeR.refl _⟩, ⟨⟨_, rfl, LeR.refl _⟩, ⟨⟨_, rfl, LeR.refl _⟩, trivial⟩⟩⟩⟩
      rw [List.take_of_length_le (by omega)]; exact Le.refl _
set_option maxHeartbeats 4000000 in
set_option maxRecDepth 100000 in
theorem con_accounts (gb : Nat) (s : Bst) (l : List Acc.T) (hf : Acc.Fine l) : ConR Tryd.prog 56 [.c gb [isD (.map (s.M.map Prod.fst)), isD (.slice s.n.A (Acc.nm l).length s.n.c), isD (.map (s.M.map Prod.snd))], .r s.n.F (vecT 9 1 encT s.n.A s.n.c (Acc.nm l)), .r s.F1 (mapQ (s.M.map Prod.fst) encS (Acc.nm l) (acD l)), .r s.F2 (mapQ (s.M.map Prod.snd) encSt (Acc.seats l) (seD l))] [isD (.pointer (some ⟨gb, 0, none⟩))] (fun g : Nat => [.c gb [isD (.map (s.M.map Prod.fst)), isD (.slice s.n.A (Acc.nm l).length s.n.c), isD (.map (s.M.map Prod.snd))], .r s.n.F (vecT 9 1 encT s.n.A s.n.c (Acc.nm l)), .r s.F1 (mapQ (s.M.map Prod.fst) encS (Acc.nm l) (acD l)), .r s.F2 (mapQ (s.M.map Prod.snd) encSt (Acc.seats l) (seD l)), .c g [lsD encA l]]) (fun g : Nat => isD (.func (.func 105) #[] #[.pointer (some ⟨g, 0, none⟩)])) := by
  refine con_ofR Tryd.func56 (by kernel_rfl) rfl (by kernel_rfl) fun base w0 => ?_
  refine SW.seq ?_
  refine SW.region ?_
  refine SWl.rd rfl (Rd.assign rfl) ?_
  refine SWl.nil ?_
  refine SN.then ?_
  refine SW.seq ?_
  refine SW.region ?_
  refine SWl.rd rfl (Rd.move rfl) ?_
  refine SWl.ef (Ef.callR [0, 1, 2, 3] (con_list gb s l hf) rfl ⟨Le.refl _, trivial⟩ (by decide) ⟨⟨_, rfl, LeAll.refl _⟩, ⟨⟨_, rfl, LeR.refl _⟩, ⟨⟨_, rfl, LeR.refl _⟩, ⟨⟨_, rfl, LeR.refl _⟩, trivial⟩⟩⟩⟩ (fun _ h => h) rfl) ?_
  rintro _ ⟨⟨⟩, rfl⟩
  refine SWl.ef (S := []) (Ef.alloc (zs := [.slice none 0 0]) (by kernel_rfl) rfl) ?_
  rintro _ ⟨g3, rfl⟩
  refine SWl.ef (S := [_]) (Ef.storeV 4 rfl rfl rfl (by kernel_rfl) rfl (List.mem_singleton.2 rfl)) ?_
  rintro _ rfl
  refine SWl.nil ?_
  refine SN.then ?_
  refine SW.seq ?_
  refine SW.region ?_
  refine SWl.rd rfl (Rd.makeFunc [.pointer (some ⟨g3, 0, none⟩)] rfl) ?_
  refine SWl.rd rfl (Rd.assign rfl) ?_
  refine SWl.nil ?_
  refine SN.then ?_
  refine SW.retR (fn := Tryd.f56) (g3) [0, 1, 2, 3, 4] (fun _ _ h => h) (Rs.one rfl (ResV.tmp rfl)) (by decide) ⟨⟨_, rfl, LeAll.refl _⟩, ⟨⟨_, rfl, LeR.refl _⟩, ⟨⟨_, rfl, LeR.refl _⟩, ⟨⟨_, rfl, LeR.refl _⟩, ⟨⟨_, rfl, LeAll.refl _⟩, trivial⟩⟩⟩⟩⟩
set_option maxHeartbeats 4000000 in
set_option maxRecDepth 100000 in
theorem con_add_bad (gb : Nat) (s : Bst) (l : List Acc.T) (a : Acc.T) (A : Option Addr) (c : Nat) (F : List Nat) (R : Res) (hR : IsView R (.slice A a.key.length c) (cellsOf a.key)) (hf : Acc.Fine l) (h : ¬ Acc.ok a) : ConR Tryd.prog 11 [.c gb [isD (.map (s.M.map Prod.fst)), isD (.slice s.n.A (Acc.nm l).length s.n.c), isD (.map (s.M.map Prod.snd))], .r s.n.F (vecT 9 1 encT s.n.A s.n.c (Acc.nm l)), .r s.F1 (mapQ (s.M.map Prod.fst) encS (Acc.nm l) (acD l)), .r s.F2 (mapQ (s.M.map Prod.snd) encSt (Acc.seats l) (seD l)), .r F R] [isD (.pointer (some ⟨gb, 0, none⟩)), aggD [strD a.name, iD a.role, isD (.slice A a.key.length c), iD a.dep, iD a.num]] (fun t : Bst => [.c gb [isD (.map (t.M.map Prod.fst)), isD (.slice t.n.A (Acc.nm (Acc.add l a).1).length t.n.c), isD (.map (t.M.map Prod.snd))], .r t.n.F (vecT 9 1 encT t.n.A t.n.c (Acc.nm (Acc.add l a).1)), .r t.F1 (mapQ (t.M.map Prod.fst) encS (Acc.nm (Acc.add l a).1) (acD (Acc.add l a).1)), .r t.F2 (mapQ (t.M.map Prod.snd) encSt (Acc.seats (Acc.add l a).1) (seD (Acc.add l a).1)), .r F R]) (fun t : Bst => iD (Acc.add l a).2) := by
  refine con_ofR Tryd.func11 (by kernel_rfl) rfl (by kernel_rfl) fun base w0 => ?_
  refine SW.seq ?_
  refine SW.region ?_
  refine SWl.ef (S := []) (Ef.boxA rfl rfl) ?_
  rintro _ ⟨g3, rfl⟩
  refine SWl.rd rfl (Rd.assign rfl) ?_
  refine SWl.nil ?_
  refine SN.then ?_
  refine SW.seq ?_
  refine SW.seq ?_
  refine SW.region ?_
  refine SWl.rd rfl (Rd.move rfl) ?_
  refine SWl.rd rfl (Rd.eqP rfl rfl (by kernel_rfl)) ?_
  refine SWl.nil ?_
  refine SN.then ?_
  refine SW.condF rfl (rfl) ?_
  refine SW.skip ?_
  refine SN.then ?_
  refine SW.seq ?_
  refine SW.seq ?_
  refine SW.region ?_
  refine SWl.rd rfl (Rd.loadA 5 5 rfl rfl (by kernel_rfl) rfl ap_nil) ?_
  refine SWl.ef (S := []) (Ef.callN [] (con_validA a.name a.role a.key.length a.dep a.num) rfl ⟨(sees_le (Le.agg ⟨Le.refl _, Le.refl _, le_is_len, Le.refl _, Le.refl _, trivial⟩)), trivial⟩ rfl) ?_
  rintro _ rfl
  refine SWl.rd rfl (Rd.not rfl) ?_
  refine SWl.nil ?_
  refine SN.then ?_
  refine SW.condT rfl (by rw [decide_eq_false (show ¬ Acc.okN _ _ _ _ _ from h)]; rfl) ?_
  refine SW.seq ?_
  refine SW.region ?_
  refine SWl.rd rfl (Rd.assign rfl) ?_
  refine SWl.nil ?_
  refine SN.then ?_
  refine SW.retR (fn := Tryd.f11) (s) [0, 1, 2, 3, 4] (fun _ _ h => h) (Rs.le (Rs.one rfl (ResV.tmp rfl)) ?_) (by decide) ⟨⟨_, rfl, ⟨Le.refl _, Le.is (by rw [Acc.add_bad h]), Le.refl _, trivial⟩⟩, ⟨⟨_, rfl, leVec (by rw [Acc.add_bad h]) (by rw [Acc.add_bad h])⟩, ⟨⟨_, rfl, (by rw [Acc.add_bad h]; exact LeR.refl _)⟩, ⟨⟨_, rfl, (by rw [Acc.add_bad h]; exact LeR.refl _)⟩, ⟨⟨_, rfl, LeR.refl _⟩, trivial⟩⟩⟩⟩⟩
  exact Le.is (by rw [Acc.add_bad h])
set_option maxHeartbeats 4000000 in
set_option maxRecDepth 100000 in
theorem con_add_busyn (gb : Nat) (s : Bst) (l : List Acc.T) (a : Acc.T) (A : Option Addr) (c : Nat) (F : List Nat) (R : Res) (hR : IsView R (.slice A a.key.length c) (cellsOf a.key)) (hf : Acc.Fine l) (h : Acc.ok a) (hn : a.name ∈ Acc.nm l) : ConR Tryd.prog 11 [.c gb [isD (.map (s.M.map Prod.fst)), isD (.slice s.n.A (Acc.nm l).length s.n.c), isD (.map (s.M.map Prod.snd))], .r s.n.F (vecT 9 1 encT s.n.A s.n.c (Acc.nm l)), .r s.F1 (mapQ (s.M.map Prod.fst) encS (Acc.nm l) (acD l)), .r s.F2 (mapQ (s.M.map Prod.snd) encSt (Acc.seats l) (seD l)), .r F R] [isD (.pointer (some ⟨gb, 0, none⟩)), aggD [strD a.name, iD a.role, isD (.slice A a.key.length c), iD a.dep, iD a.num]] (fun t : Bst => [.c gb [isD (.map (t.M.map Prod.fst)), isD (.slice t.n.A (Acc.nm (Acc.add l a).1).length t.n.c), isD (.map (t.M.map Prod.snd))], .r t.n.F (vecT 9 1 encT t.n.A t.n.c (Acc.nm (Acc.add l a).1)), .r t.F1 (mapQ (t.M.map Prod.fst) encS (Acc.nm (Acc.add l a).1) (acD (Acc.add l a).1)), .r t.F2 (mapQ (t.M.map Prod.snd) encSt (Acc.seats (Acc.add l a).1) (seD (Acc.add l a).1)), .r F R]) (fun t : Bst => iD (Acc.add l a).2) := by
  refine con_ofR Tryd.func11 (by kernel_rfl) rfl (by kernel_rfl) fun base w0 => ?_
  refine SW.seq ?_
  refine SW.region ?_
  refine SWl.ef (S := []) (Ef.boxA rfl rfl) ?_
  rintro _ ⟨g3, rfl⟩
  refine SWl.rd rfl (Rd.assign rfl) ?_
  refine SWl.nil ?_
  refine SN.then ?_
  refine SW.seq ?_
  refine SW.seq ?_
  refine SW.region ?_
  refine SWl.rd rfl (Rd.move rfl) ?_
  refine SWl.rd rfl (Rd.eqP rfl rfl (by kernel_rfl)) ?_
  refine SWl.nil ?_
  refine SN.then ?_
  refine SW.condF rfl (rfl) ?_
  refine SW.skip ?_
  refine SN.then ?_
  refine SW.seq ?_
  refine SW.seq ?_
  refine SW.region ?_
  refine SWl.rd rfl (Rd.loadA 5 5 rfl rfl (by kernel_rfl) rfl ap_nil) ?_
  refine SWl.ef (S := []) (Ef.callN [] (con_validA a.name a.role a.key.length a.dep a.num) rfl ⟨(sees_le (Le.agg ⟨Le.refl _, Le.refl _, le_is_len, Le.refl _, Le.refl _, trivial⟩)), trivial⟩ rfl) ?_
  rintro _ rfl
  refine SWl.rd rfl (Rd.not rfl) ?_
  refine SWl.nil ?_
  refine SN.then ?_
  refine SW.condF rfl (by rw [decide_eq_true (show Acc.okN _ _ _ _ _ from h)]; rfl) ?_
  refine SW.skip ?_
  refine SN.then ?_
  refine SW.seq ?_
  refine SW.seq ?_
  refine SW.draw [] (.r 0 (.r 1 (.r 2 (.r 3 (.r 4 (.r 5 (.r 6 (.r 7 (.r 8 (.r 9 (.n 10 (.e 11 (.r 12 .fin) .no) .no))))))))))) (by kernel_rfl) (by kernel_rfl) (fun d _ _ _ _ h => by cases d <;> exact h) ?_
  refine SWz.rd (i := 0) rfl rfl (Rd.move rfl) ?_
  refine SWz.rd (i := 1) rfl rfl (Rd.nilCheck rfl) ?_
  refine SWz.rd (i := 2) rfl rfl (Rd.fieldAddr (n := 0) rfl (by kernel_rfl)) ?_
  refine SWz.rd (i := 3) rfl rfl (Rd.loadB 0 rfl rfl rfl (by kernel_rfl) ap_nil) ?_
  refine SWz.rd (i := 4) rfl rfl (Rd.fieldAddr (n := 0) rfl (by kernel_rfl)) ?_
  refine SWz.rd (i := 5) rfl rfl (Rd.loadB 5 rfl rfl rfl (by kernel_rfl) ap_nil) ?_
  refine SWz.rd (i := 6) rfl rfl ((Rd.lookQ (kt := 9) (et := 33) (ok := true) 2 rfl rfl rfl (Le.refl _) (by kernel_rfl) (keyNm _) hn ap_nil)) ?_
  refine SWz.rd (i := 7) rfl rfl (Rd.move rfl) ?_
  refine SWz.rd (i := 8) rfl rfl (Rd.extract rfl rfl) ?_
  refine SWz.rd (i := 9) rfl rfl (Rd.extract rfl rfl) ?_
  refine SWz.efb (i := 10) rfl (EfB.alloc (zs := [.string ⟨#[]⟩, .int .i64 0, .slice none 0 0, .int .i64 0, .int .i64 0]) (by kernel_rfl) rfl) ?_ SWz.no
  rintro g5 _ rfl
  refine SWz.efe (i := 11) rfl (Ef.storeA 6 rfl rfl rfl (by kernel_rfl) rfl (List.mem_append_right _ (List.mem_cons_self))) ?_ SWz.no
  rintro _ rfl
  refine SWz.rd (i := 12) rfl rfl (Rd.assign rfl) ?_
  refine SWz.nil ?_
  refine SN.then ?_
  refine SW.seq ?_
  refine SW.region ?_
  refine SWl.rd rfl (Rd.move rfl) ?_
  refine SWl.rd rfl (Rd.move rfl) ?_
  refine SWl.off rfl rfl (rfl) rfl rfl ?_
  refine SWl.off rfl rfl (rfl) rfl rfl ?_
  refine SWl.off rfl rfl (rfl) rfl rfl ?_
  refine SWl.off rfl rfl (rfl) rfl rfl ?_
  refine SWl.off rfl rfl (rfl) rfl rfl ?_
  refine SWl.off rfl rfl (rfl) rfl rfl ?_
  refine SWl.rd rfl (Rd.pickY rfl (rfl) rfl) ?_
  refine SWl.nil ?_
  refine SN.then ?_
  refine SW.condT rfl (rfl) ?_
  refine SW.seq ?_
  refine SW.region ?_
  refine SWl.rd rfl (Rd.assign rfl) ?_
  refine SWl.nil ?_
  refine SN.then ?_
  refine SW.retR (fn := Tryd.f11) (s) [0, 1, 2, 3, 4] (fun _ _ h => h) (Rs.le (Rs.one rfl (ResV.tmp rfl)) ?_) (by decide) ⟨⟨_, rfl, ⟨Le.refl _, Le.is (by rw [Acc.add_busy h (Acc.clash_nm hn)]), Le.refl _, trivial⟩⟩, ⟨⟨_, rfl, leVec (by rw [Acc.add_busy h (Acc.clash_nm hn)]) (by rw [Acc.add_busy h (Acc.clash_nm hn)])⟩, ⟨⟨_, rfl, (by rw [Acc.add_busy h (Acc.clash_nm hn)]; exact LeR.refl _)⟩, ⟨⟨_, rfl, (by rw [Acc.add_busy h (Acc.clash_nm hn)]; exact LeR.refl _)⟩, ⟨⟨_, rfl, LeR.refl _⟩, trivial⟩⟩⟩⟩⟩
  exact Le.is (by rw [Acc.add_busy h (Acc.clash_nm hn)])
set_option maxHeartbeats 4000000 in
set_option maxRecDepth 100000 in
theorem con_add_busys (gb : Nat) (s : Bst) (l : List Acc.T) (a : Acc.T) (A : Option Addr) (c : Nat) (F : List Nat) (R : Res) (hR : IsView R (.slice A a.key.length c) (cellsOf a.key)) (hf : Acc.Fine l) (h : Acc.ok a) (hn : a.name ∉ Acc.nm l) (hs : (a.role, a.num) ∈ Acc.seats l) : ConR Tryd.prog 11 [.c gb [isD (.map (s.M.map Prod.fst)), isD (.slice s.n.A (Acc.nm l).length s.n.c), isD (.map (s.M.map Prod.snd))], .r s.n.F (vecT 9 1 encT s.n.A s.n.c (Acc.nm l)), .r s.F1 (mapQ (s.M.map Prod.fst) encS (Acc.nm l) (acD l)), .r s.F2 (mapQ (s.M.map Prod.snd) encSt (Acc.seats l) (seD l)), .r F R] [isD (.pointer (some ⟨gb, 0, none⟩)), aggD [strD a.name, iD a.role, isD (.slice A a.key.length c), iD a.dep, iD a.num]] (fun t : Bst => [.c gb [isD (.map (t.M.map Prod.fst)), isD (.slice t.n.A (Acc.nm (Acc.add l a).1).length t.n.c), isD (.map (t.M.map Prod.snd))], .r t.n.F (vecT 9 1 encT t.n.A t.n.c (Acc.nm (Acc.add l a).1)), .r t.F1 (mapQ (t.M.map Prod.fst) encS (Acc.nm (Acc.add l a).1) (acD (Acc.add l a).1)), .r t.F2 (mapQ (t.M.map Prod.snd) encSt (Acc.seats (Acc.add l a).1) (seD (Acc.add l a).1)), .r F R]) (fun t : Bst => iD (Acc.add l a).2) := by
  refine con_ofR Tryd.func11 (by kernel_rfl) rfl (by kernel_rfl) fun base w0 => ?_
  refine SW.seq ?_
  refine SW.region ?_
  refine SWl.ef (S := []) (Ef.boxA rfl rfl) ?_
  rintro _ ⟨g3, rfl⟩
  refine SWl.rd rfl (Rd.assign rfl) ?_
  refine SWl.nil ?_
  refine SN.then ?_
  refine SW.seq ?_
  refine SW.seq ?_
  refine SW.region ?_
  refine SWl.rd rfl (Rd.move rfl) ?_
  refine SWl.rd rfl (Rd.eqP rfl rfl (by kernel_rfl)) ?_
  refine SWl.nil ?_
  refine SN.then ?_
  refine SW.condF rfl (rfl) ?_
  refine SW.skip ?_
  refine SN.then ?_
  refine SW.seq ?_
  refine SW.seq ?_
  refine SW.region ?_
  refine SWl.rd rfl (Rd.loadA 5 5 rfl rfl (by kernel_rfl) rfl ap_nil) ?_
  refine SWl.ef (S := []) (Ef.callN [] (con_validA a.name a.role a.key.length a.dep a.num) rfl ⟨(sees_le (Le.agg ⟨Le.refl _, Le.refl _, le_is_len, Le.refl _, Le.refl _, trivial⟩)), trivial⟩ rfl) ?_
  rintro _ rfl
  refine SWl.rd rfl (Rd.not rfl) ?_
  refine SWl.nil ?_
  refine SN.then ?_
  refine SW.condF rfl (by rw [decide_eq_true (show Acc.okN _ _ _ _ _ from h)]; rfl) ?_
  refine SW.skip ?_
  refine SN.then ?_
  refine SW.seq ?_
  refine SW.seq ?_
  refine SW.draw [] (.r 0 (.r 1 (.r 2 (.r 3 (.r 4 (.r 5 (.r 6 (.r 7 (.r 8 (.r 9 (.n 10 (.e 11 (.r 12 .fin) .no) .no))))))))))) (by kernel_rfl) (by kernel_rfl) (fun d _ _ _ _ h => by cases d <;> exact h) ?_
  refine SWz.rd (i := 0) rfl rfl (Rd.move rfl) ?_
  refine SWz.rd (i := 1) rfl rfl (Rd.nilCheck rfl) ?_
  refine SWz.rd (i := 2) rfl rfl (Rd.fieldAddr (n := 0) rfl (by kernel_rfl)) ?_
  refine SWz.rd (i := 3) rfl rfl (Rd.loadB 0 rfl rfl rfl (by kernel_rfl) ap_nil) ?_
  refine SWz.rd (i := 4) rfl rfl (Rd.fieldAddr (n := 0) rfl (by kernel_rfl)) ?_
  refine SWz.rd (i := 5) rfl rfl (Rd.loadB 5 rfl rfl rfl (by kernel_rfl) ap_nil) ?_
  refine SWz.rd (i := 6) rfl rfl ((Rd.mono (Rd.lookQN (kt := 9) (et := 33) (z := .agg #[.string ⟨#[]⟩, .int .i64 0, .slice none 0 0, .int .i64 0, .int .i64 0]) (ok := true) 2 rfl rfl rfl (Le.refl _) (by kernel_rfl) (by kernel_rfl) (keyNm _) hn ap_nil) tup_z5)) ?_
  refine SWz.rd (i := 7) rfl rfl (Rd.move rfl) ?_
  refine SWz.rd (i := 8) rfl rfl (Rd.extract rfl rfl) ?_
  refine SWz.rd (i := 9) rfl rfl (Rd.extract rfl rfl) ?_
  refine SWz.efb (i := 10) rfl (EfB.alloc (zs := [.string ⟨#[]⟩, .int .i64 0, .slice none 0 0, .int .i64 0, .int .i64 0]) (by kernel_rfl) rfl) ?_ SWz.no
  rintro g5 _ rfl
  refine SWz.efe (i := 11) rfl (Ef.storeA 6 rfl rfl rfl (by kernel_rfl) rfl (List.mem_append_right _ (List.mem_cons_self))) ?_ SWz.no
  rintro _ rfl
  refine SWz.rd (i := 12) rfl rfl (Rd.assign rfl) ?_
  refine SWz.nil ?_
  refine SN.then ?_
  refine SW.seq ?_
  refine SW.region ?_
  refine SWl.rd rfl (Rd.move rfl) ?_
  refine SWl.rd rfl (Rd.move rfl) ?_
  refine SWl.rdg rfl rfl (rfl) rfl rfl (Rd.move rfl) ?_
  refine SWl.rdg rfl rfl (rfl) rfl rfl (Rd.fieldAddr (n := 1) rfl (by kernel_rfl)) ?_
  refine SWl.rdg rfl rfl (rfl) rfl rfl (Rd.loadB 5 rfl rfl rfl (by kernel_rfl) ap_nil) ?_
  refine SWl.rdg rfl rfl (rfl) rfl rfl (Rd.fieldAddr (n := 4) rfl (by kernel_rfl)) ?_
  refine SWl.rdg rfl rfl (rfl) rfl rfl (Rd.loadB 5 rfl rfl rfl (by kernel_rfl) ap_nil) ?_
  refine SWl.efg (S := []) rfl rfl (rfl) rfl (Ef.callN [0, 2, 1, 3] (con_taken l a.role a.num) rfl ⟨(sees_box 0 rfl (by decide) ⟨(sees_mapQ 2 rfl (by decide)), (sees_vec 1 rfl (by decide)), (sees_mapQ 3 rfl (by decide)), trivial⟩), (sees_le (Le.refl _)), (sees_le (Le.refl _)), trivial⟩ rfl) ?_
  rintro _ rfl
  refine SWl.rd rfl (Rd.pickN rfl (rfl) rfl) ?_
  refine SWl.nil ?_
  refine SN.then ?_
  refine SW.condT rfl (decide_eq_true hs) ?_
  refine SW.seq ?_
  refine SW.region ?_
  refine SWl.rd rfl (Rd.assign rfl) ?_
  refine SWl.nil ?_
  refine SN.then ?_
  refine SW.retR (fn := Tryd.f11) (s) [0, 1, 2, 3, 4] (fun _ _ h => h) (Rs.le (Rs.one rfl (ResV.tmp rfl)) ?_) (by decide) ⟨⟨_, rfl, ⟨Le.refl _, Le.is (by rw [Acc.add_busy h (Acc.clash_st hs)]), Le.refl _, trivial⟩⟩, ⟨⟨_, rfl, leVec (by rw [Acc.add_busy h (Acc.clash_st hs)]) (by rw [Acc.add_busy h (Acc.clash_st hs)])⟩, ⟨⟨_, rfl, (by rw [Acc.add_busy h (Acc.clash_st hs)]; exact LeR.refl _)⟩, ⟨⟨_, rfl, (by rw [Acc.add_busy h (Acc.clash_st hs)]; exact LeR.refl _)⟩, ⟨⟨_, rfl, LeR.refl _⟩, trivial⟩⟩⟩⟩⟩
  exact Le.is (by rw [Acc.add_busy h (Acc.clash_st hs)])
set_option maxHeartbeats 4000000 in
set_option maxRecDepth 100000 in
theorem con_add_full (gb : Nat) (s : Bst) (l : List Acc.T) (a : Acc.T) (A : Option Addr) (c : Nat) (F : List Nat) (R : Res) (hR : IsView R (.slice A a.key.length c) (cellsOf a.key)) (hf : Acc.Fine l) (h : Acc.ok a) (hn : a.name ∉ Acc.nm l) (hs : (a.role, a.num) ∉ Acc.seats l) (hl : 256 ≤ l.length) : ConR Tryd.prog 11 [.c gb [isD (.map (s.M.map Prod.fst)), isD (.slice s.n.A (Acc.nm l).length s.n.c), isD (.map (s.M.map Prod.snd))], .r s.n.F (vecT 9 1 encT s.n.A s.n.c (Acc.nm l)), .r s.F1 (mapQ (s.M.map Prod.fst) encS (Acc.nm l) (acD l)), .r s.F2 (mapQ (s.M.map Prod.snd) encSt (Acc.seats l) (seD l)), .r F R] [isD (.pointer (some ⟨gb, 0, none⟩)), aggD [strD a.name, iD a.role, isD (.slice A a.key.length c), iD a.dep, iD a.num]] (fun t : Bst => [.c gb [isD (.map (t.M.map Prod.fst)), isD (.slice t.n.A (Acc.nm (Acc.add l a).1).length t.n.c), isD (.map (t.M.map Prod.snd))], .r t.n.F (vecT 9 1 encT t.n.A t.n.c (Acc.nm (Acc.add l a).1)), .r t.F1 (mapQ (t.M.map Prod.fst) encS (Acc.nm (Acc.add l a).1) (acD (Acc.add l a).1)), .r t.F2 (mapQ (t.M.map Prod.snd) encSt (Acc.seats (Acc.add l a).1) (seD (Acc.add l a).1)), .r F R]) (fun t : Bst => iD (Acc.add l a).2) := by
  refine con_ofR Tryd.func11 (by kernel_rfl) rfl (by kernel_rfl) fun base w0 => ?_
  refine SW.seq ?_
  refine SW.region ?_
  refine SWl.ef (S := []) (Ef.boxA rfl rfl) ?_
  rintro _ ⟨g3, rfl⟩
  refine SWl.rd rfl (Rd.assign rfl) ?_
  refine SWl.nil ?_
  refine SN.then ?_
  refine SW.seq ?_
  refine SW.seq ?_
  refine SW.region ?_
  refine SWl.rd rfl (Rd.move rfl) ?_
  refine SWl.rd rfl (Rd.eqP rfl rfl (by kernel_rfl)) ?_
  refine SWl.nil ?_
  refine SN.then ?_
  refine SW.condF rfl (rfl) ?_
  refine SW.skip ?_
  refine SN.then ?_
  refine SW.seq ?_
  refine SW.seq ?_
  refine SW.region ?_
  refine SWl.rd rfl (Rd.loadA 5 5 rfl rfl (by kernel_rfl) rfl ap_nil) ?_
  refine SWl.ef (S := []) (Ef.callN [] (con_validA a.name a.role a.key.length a.dep a.num) rfl ⟨(sees_le (Le.agg ⟨Le.refl _, Le.refl _, le_is_len, Le.refl _, Le.refl _, trivial⟩)), trivial⟩ rfl) ?_
  rintro _ rfl
  refine SWl.rd rfl (Rd.not rfl) ?_
  refine SWl.nil ?_
  refine SN.then ?_
  refine SW.condF rfl (by rw [decide_eq_true (show Acc.okN _ _ _ _ _ from h)]; rfl) ?_
  refine SW.skip ?_
  refine SN.then ?_
  refine SW.seq ?_
  refine SW.seq ?_
  refine SW.draw [] (.r 0 (.r 1 (.r 2 (.r 3 (.r 4 (.r 5 (.r 6 (.r 7 (.r 8 (.r 9 (.n 10 (.e 11 (.r 12 .fin) .no) .no))))))))))) (by kernel_rfl) (by kernel_rfl) (fun d _ _ _ _ h => by cases d <;> exact h) ?_
  refine SWz.rd (i := 0) rfl rfl (Rd.move rfl) ?_
  refine SWz.rd (i := 1) rfl rfl (Rd.nilCheck rfl) ?_
  refine SWz.rd (i := 2) rfl rfl (Rd.fieldAddr (n := 0) rfl (by kernel_rfl)) ?_
  refine SWz.rd (i := 3) rfl rfl (Rd.loadB 0 rfl rfl rfl (by kernel_rfl) ap_nil) ?_
  refine SWz.rd (i := 4) rfl rfl (Rd.fieldAddr (n := 0) rfl (by kernel_rfl)) ?_
  refine SWz.rd (i := 5) rfl rfl (Rd.loadB 5 rfl rfl rfl (by kernel_rfl) ap_nil) ?_
  refine SWz.rd (i := 6) rfl rfl ((Rd.mono (Rd.lookQN (kt := 9) (et := 33) (z := .agg #[.string ⟨#[]⟩, .int .i64 0, .slice none 0 0, .int .i64 0, .int .i64 0]) (ok := true) 2 rfl rfl rfl (Le.refl _) (by kernel_rfl) (by kernel_rfl) (keyNm _) hn ap_nil) tup_z5)) ?_
  refine SWz.rd (i := 7) rfl rfl (Rd.move rfl) ?_
  refine SWz.rd (i := 8) rfl rfl (Rd.extract rfl rfl) ?_
  refine SWz.rd (i := 9) rfl rfl (Rd.extract rfl rfl) ?_
  refine SWz.efb (i := 10) rfl (EfB.alloc (zs := [.string ⟨#[]⟩, .int .i64 0, .slice none 0 0, .int .i64 0, .int .i64 0]) (by kernel_rfl) rfl) ?_ SWz.no
  rintro g5 _ rfl
  refine SWz.efe (i := 11) rfl (Ef.storeA 6 rfl rfl rfl (by kernel_rfl) rfl (List.mem_append_right _ (List.mem_cons_self))) ?_ SWz.no
  rintro _ rfl
  refine SWz.rd (i := 12) rfl rfl (Rd.assign rfl) ?_
  refine SWz.nil ?_
  refine SN.then ?_
  refine SW.seq ?_
  refine SW.region ?_
  refine SWl.rd rfl (Rd.move rfl) ?_
  refine SWl.rd rfl (Rd.move rfl) ?_
  refine SWl.rdg rfl rfl (rfl) rfl rfl (Rd.move rfl) ?_
  refine SWl.rdg rfl rfl (rfl) rfl rfl (Rd.fieldAddr (n := 1) rfl (by kernel_rfl)) ?_
  refine SWl.rdg rfl rfl (rfl) rfl rfl (Rd.loadB 5 rfl rfl rfl (by kernel_rfl) ap_nil) ?_
  refine SWl.rdg rfl rfl (rfl) rfl rfl (Rd.fieldAddr (n := 4) rfl (by kernel_rfl)) ?_
  refine SWl.rdg rfl rfl (rfl) rfl rfl (Rd.loadB 5 rfl rfl rfl (by kernel_rfl) ap_nil) ?_
  refine SWl.efg (S := []) rfl rfl (rfl) rfl (Ef.callN [0, 2, 1, 3] (con_taken l a.role a.num) rfl ⟨(sees_box 0 rfl (by decide) ⟨(sees_mapQ 2 rfl (by decide)), (sees_vec 1 rfl (by decide)), (sees_mapQ 3 rfl (by decide)), trivial⟩), (sees_le (Le.refl _)), (sees_le (Le.refl _)), trivial⟩ rfl) ?_
  rintro _ rfl
  refine SWl.rd rfl (Rd.pickN rfl (rfl) rfl) ?_
  refine SWl.nil ?_
  refine SN.then ?_
  refine SW.condF rfl (decide_eq_false hs) ?_
  refine SW.skip ?_
  refine SN.then ?_
  refine SW.seq ?_
  refine SW.seq ?_
  refine SW.region ?_
  refine SWl.rd rfl (Rd.move rfl) ?_
  refine SWl.rd rfl (Rd.nilCheck rfl) ?_
  refine SWl.rd rfl (Rd.fieldAddr (n := 1) rfl (by kernel_rfl)) ?_
  refine SWl.rd rfl (Rd.loadB 0 rfl rfl rfl (by kernel_rfl) ap_nil) ?_
  refine SWl.rd rfl (Rd.lenE (e := 9) rfl (by kernel_rfl)) ?_
  refine SWl.rd rfl (Rd.geq rfl rfl) ?_
  refine SWl.nil ?_
  refine SN.then ?_
  refine SW.condT rfl (by simp; omega) ?_
  refine SW.seq ?_
  refine SW.region ?_
  refine SWl.rd rfl (Rd.assign rfl) ?_
  refine SWl.nil ?_
  refine SN.then ?_
  refine SW.retR (fn := Tryd.f11) (s) [0, 1, 2, 3, 4] (fun _ _ h => h) (Rs.le (Rs.one rfl (ResV.tmp rfl)) ?_) (by decide) ⟨⟨_, rfl, ⟨Le.refl _, Le.is (by rw [Acc.add_full h (Acc.no_clash hn hs) hl]), Le.refl _, trivial⟩⟩, ⟨⟨_, rfl, leVec (by rw [Acc.add_full h (Acc.no_clash hn hs) hl]) (by rw [Acc.add_full h (Acc.no_clash hn hs) hl])⟩, ⟨⟨_, rfl, (by rw [Acc.add_full h (Acc.no_clash hn hs) hl]; exact LeR.refl _)⟩, ⟨⟨_, rfl, (by rw [Acc.add_full h (Acc.no_clash hn hs) hl]; exact LeR.refl _)⟩, ⟨⟨_, rfl, LeR.refl _⟩, trivial⟩⟩⟩⟩⟩
  exact Le.is (by rw [Acc.add_full h (Acc.no_clash hn hs) hl])
set_option maxHeartbeats 4000000 in
set_option maxRecDepth 100000 in
theorem con_add_ok (gb : Nat) (s : Bst) (l : List Acc.T) (a : Acc.T) (A : Option Addr) (c : Nat) (F : List Nat) (R : Res) (hR : IsView R (.slice A a.key.length c) (cellsOf a.key)) (hf : Acc.Fine l) (h : Acc.ok a) (hn : a.name ∉ Acc.nm l) (hs : (a.role, a.num) ∉ Acc.seats l) (hl : ¬ 256 ≤ l.length) : ConR Tryd.prog 11 [.c gb [isD (.map (s.M.map Prod.fst)), isD (.slice s.n.A (Acc.nm l).length s.n.c), isD (.map (s.M.map Prod.snd))], .r s.n.F (vecT 9 1 encT s.n.A s.n.c (Acc.nm l)), .r s.F1 (mapQ (s.M.map Prod.fst) encS (Acc.nm l) (acD l)), .r s.F2 (mapQ (s.M.map Prod.snd) encSt (Acc.seats l) (seD l)), .r F R] [isD (.pointer (some ⟨gb, 0, none⟩)), aggD [strD a.name, iD a.role, isD (.slice A a.key.length c), iD a.dep, iD a.num]] (fun t : Bst => [.c gb [isD (.map (t.M.map Prod.fst)), isD (.slice t.n.A (Acc.nm (Acc.add l a).1).length t.n.c), isD (.map (t.M.map Prod.snd))], .r t.n.F (vecT 9 1 encT t.n.A t.n.c (Acc.nm (Acc.add l a).1)), .r t.F1 (mapQ (t.M.map Prod.fst) encS (Acc.nm (Acc.add l a).1) (acD (Acc.add l a).1)), .r t.F2 (mapQ (t.M.map Prod.snd) encSt (Acc.seats (Acc.add l a).1) (seD (Acc.add l a).1)), .r F R]) (fun t : Bst => iD (Acc.add l a).2) := by
  refine con_ofR Tryd.func11 (by kernel_rfl) rfl (by kernel_rfl) fun base w0 => ?_
  refine SW.seq ?_
  refine SW.region ?_
  refine SWl.ef (S := []) (Ef.boxA rfl rfl) ?_
  rintro _ ⟨g3, rfl⟩
  refine SWl.rd rfl (Rd.assign rfl) ?_
  refine SWl.nil ?_
  refine SN.then ?_
  refine SW.seq ?_
  refine SW.seq ?_
  refine SW.region ?_
  refine SWl.rd rfl (Rd.move rfl) ?_
  refine SWl.rd rfl (Rd.eqP rfl rfl (by kernel_rfl)) ?_
  refine SWl.nil ?_
  refine SN.then ?_
  refine SW.condF rfl (rfl) ?_
  refine SW.skip ?_
  refine SN.then ?_
  refine SW.seq ?_
  refine SW.seq ?_
  refine SW.region ?_
  refine SWl.rd rfl (Rd.loadA 5 5 rfl rfl (by kernel_rfl) rfl ap_nil) ?_
  refine SWl.ef (S := []) (Ef.callN [] (con_validA a.name a.role a.key.length a.dep a.num) rfl ⟨(sees_le (Le.agg ⟨Le.refl _, Le.refl _, le_is_len, Le.refl _, Le.refl _, trivial⟩)), trivial⟩ rfl) ?_
  rintro _ rfl
  refine SWl.rd rfl (Rd.not rfl) ?_
  refine SWl.nil ?_
  refine SN.then ?_
  refine SW.condF rfl (by rw [decide_eq_true (show Acc.okN _ _ _ _ _ from h)]; rfl) ?_
  refine SW.skip ?_
  refine SN.then ?_
  refine SW.seq ?_
  refine SW.seq ?_
  refine SW.draw [] (.r 0 (.r 1 (.r 2 (.r 3 (.r 4 (.r 5 (.r 6 (.r 7 (.r 8 (.r 9 (.n 10 (.e 11 (.r 12 .fin) .no) .no))))))))))) (by kernel_rfl) (by kernel_rfl) (fun d _ _ _ _ h => by cases d <;> exact h) ?_
  refine SWz.rd (i := 0) rfl rfl (Rd.move rfl) ?_
  refine SWz.rd (i := 1) rfl rfl (Rd.nilCheck rfl) ?_
  refine SWz.rd (i := 2) rfl rfl (Rd.fieldAddr (n := 0) rfl (by kernel_rfl)) ?_
  refine SWz.rd (i := 3) rfl rfl (Rd.loadB 0 rfl rfl rfl (by kernel_rfl) ap_nil) ?_
  refine SWz.rd (i := 4) rfl rfl (Rd.fieldAddr (n := 0) rfl (by kernel_rfl)) ?_
  refine SWz.rd (i := 5) rfl rfl (Rd.loadB 5 rfl rfl rfl (by kernel_rfl) ap_nil) ?_
  refine SWz.rd (i := 6) rfl rfl ((Rd.mono (Rd.lookQN (kt := 9) (et := 33) (z := .agg #[.string ⟨#[]⟩, .int .i64 0, .slice none 0 0, .int .i64 0, .int .i64 0]) (ok := true) 2 rfl rfl rfl (Le.refl _) (by kernel_rfl) (by kernel_rfl) (keyNm _) hn ap_nil) tup_z5)) ?_
  refine SWz.rd (i := 7) rfl rfl (Rd.move rfl) ?_
  refine SWz.rd (i := 8) rfl rfl (Rd.extract rfl rfl) ?_
  refine SWz.rd (i := 9) rfl rfl (Rd.extract rfl rfl) ?_
  refine SWz.efb (i := 10) rfl (EfB.alloc (zs := [.string ⟨#[]⟩, .int .i64 0, .slice none 0 0, .int .i64 0, .int .i64 0]) (by kernel_rfl) rfl) ?_ SWz.no
  rintro g5 _ rfl
  refine SWz.efe (i := 11) rfl (Ef.storeA 6 rfl rfl rfl (by kernel_rfl) rfl (List.mem_append_right _ (List.mem_cons_self))) ?_ SWz.no
  rintro _ rfl
  refine SWz.rd (i := 12) rfl rfl (Rd.assign rfl) ?_
  refine SWz.nil ?_
  refine SN.then ?_
  refine SW.seq ?_
  refine SW.region ?_
  refine SWl.rd rfl (Rd.move rfl) ?_
  refine SWl.rd rfl (Rd.move rfl) ?_
  refine SWl.rdg rfl rfl (rfl) rfl rfl (Rd.move rfl) ?_
  refine SWl.rdg rfl rfl (rfl) rfl rfl (Rd.fieldAddr (n := 1) rfl (by kernel_rfl)) ?_
  refine SWl.rdg rfl rfl (rfl) rfl rfl (Rd.loadB 5 rfl rfl rfl (by kernel_rfl) ap_nil) ?_
  refine SWl.rdg rfl rfl (rfl) rfl rfl (Rd.fieldAddr (n := 4) rfl (by kernel_rfl)) ?_
  refine SWl.rdg rfl rfl (rfl) rfl rfl (Rd.loadB 5 rfl rfl rfl (by kernel_rfl) ap_nil) ?_
  refine SWl.efg (S := []) rfl rfl (rfl) rfl (Ef.callN [0, 2, 1, 3] (con_taken l a.role a.num) rfl ⟨(sees_box 0 rfl (by decide) ⟨(sees_mapQ 2 rfl (by decide)), (sees_vec 1 rfl (by decide)), (sees_mapQ 3 rfl (by decide)), trivial⟩), (sees_le (Le.refl _)), (sees_le (Le.refl _)), trivial⟩ rfl) ?_
  rintro _ rfl
  refine SWl.rd rfl (Rd.pickN rfl (rfl) rfl) ?_
  refine SWl.nil ?_
  refine SN.then ?_
  refine SW.condF rfl (decide_eq_false hs) ?_
  refine SW.skip ?_
  refine SN.then ?_
  refine SW.seq ?_
  refine SW.seq ?_
  refine SW.region ?_
  refine SWl.rd rfl (Rd.move rfl) ?_
  refine SWl.rd rfl (Rd.nilCheck rfl) ?_
  refine SWl.rd rfl (Rd.fieldAddr (n := 1) rfl (by kernel_rfl)) ?_
  refine SWl.rd rfl (Rd.loadB 0 rfl rfl rfl (by kernel_rfl) ap_nil) ?_
  refine SWl.rd rfl (Rd.lenE (e := 9) rfl (by kernel_rfl)) ?_
  refine SWl.rd rfl (Rd.geq rfl rfl) ?_
  refine SWl.nil ?_
  refine SN.then ?_
  refine SW.condF rfl (by simp; omega) ?_
  refine SW.skip ?_
  refine SN.then ?_
  refine SW.seq ?_
  refine SW.region ?_
  refine SWl.rd rfl (Rd.move rfl) ?_
  refine SWl.rd rfl (Rd.loadA 5 5 rfl rfl (by kernel_rfl) rfl ap_nil) ?_
  refine SWl.ef (Ef.callR [0, 1, 2, 3, 4] (con_put gb s l a A c F R hR (by have := h.2.1; omega) (by have := hf.len; omega) (Acc.free_of hf h (Acc.no_clash hn hs) (by omega))) rfl ⟨Le.refl _, Le.refl _, trivial⟩ (by decide) ⟨⟨_, rfl, LeAll.refl _⟩, ⟨⟨_, rfl, LeR.refl _⟩, ⟨⟨_, rfl, LeR.refl _⟩, ⟨⟨_, rfl, LeR.refl _⟩, ⟨⟨_, rfl, LeR.refl _⟩, trivial⟩⟩⟩⟩⟩ (fun _ h => h) rfl) ?_
  rintro _ ⟨s39, rfl⟩
  refine SWl.nil ?_
  refine SN.then ?_
  refine SW.seq ?_
  refine SW.region ?_
  refine SWl.rd rfl (Rd.assign rfl) ?_
  refine SWl.nil ?_
  refine SN.then ?_
  refine SW.retR (fn := Tryd.f11) (s39) [2, 3, 4, 5, 6] (fun _ _ h => h) (Rs.le (Rs.one rfl (ResV.tmp rfl)) ?_) (by decide) ⟨⟨_, rfl, ⟨Le.refl _, Le.is (by rw [Acc.add_ok h (Acc.no_clash hn hs) hl]), Le.refl _, trivial⟩⟩, ⟨⟨_, rfl, leVec (by rw [Acc.add_ok h (Acc.no_clash hn hs) hl]) (by rw [Acc.add_ok h (Acc.no_clash hn hs) hl])⟩, ⟨⟨_, rfl, (by rw [Acc.add_ok h (Acc.no_clash hn hs) hl]; exact LeR.refl _)⟩, ⟨⟨_, rfl, (by rw [Acc.add_ok h (Acc.no_clash hn hs) hl]; exact LeR.refl _)⟩, ⟨⟨_, rfl, LeR.refl _⟩, trivial⟩⟩⟩⟩⟩
  exact Le.is (by rw [Acc.add_ok h (Acc.no_clash hn hs) hl])
theorem con_add (gb : Nat) (s : Bst) (l : List Acc.T) (a : Acc.T) (A : Option Addr) (c : Nat) (F : List Nat) (R : Res) (hR : IsView R (.slice A a.key.length c) (cellsOf a.key)) (hf : Acc.Fine l) :
    ConR Tryd.prog 11 [bookC gb s l, bookN s l, bookA s l, bookS s l, .r F R] [isD (.pointer (some ⟨gb, 0, none⟩)), aggD [strD a.name, iD a.role, isD (.slice A a.key.length c), iD a.dep, iD a.num]]
      (fun t : Bst => [bookC gb t (Acc.add l a).1, bookN t (Acc.add l a).1, bookA t (Acc.add l a).1, bookS t (Acc.add l a).1, .r F R]) (fun _ => iD (Acc.add l a).2) := by
  by_cases h : Acc.ok a
  · by_cases hn : a.name ∈ Acc.nm l
    · exact con_add_busyn gb s l a A c F R hR hf h hn
    · by_cases hs : (a.role, a.num) ∈ Acc.seats l
      · exact con_add_busys gb s l a A c F R hR hf h hn hs
      · by_cases hl : 256 ≤ l.length
        · exact con_add_full gb s l a A c F R hR hf h hn hs hl
        · exact con_add_ok gb s l a A c F R hR hf h hn hs hl
  · exact con_add_bad gb s l a A c F R hR hf h
end Sx
end Go.Proofs.YtchbgfgboogniaaDoor
namespace Go.Proofs.YtchbgfgboogniaaDoor
open Go.RowKit
namespace Sx
section
variable {P : Program} {Γ : Cx} {σ : St} {Q : Exit → Act → World → Prop} {a : Act} {w : World}
/-- An account's key is looked at. -/
theorem SWl.lookA5 {ops : Array Oper} {lo : List Oper} (k : Nat) {d0 d1 d3 d4 : D} {b : List UInt8} (hk : σ.tm k = some (aggD [d0, d1, bD b, d3, d4])) (h : ∀ A cp, SWl P Γ ops Q lo ((⟨σ.tm, σ.bx ++ [.r [] (viewR (.slice A b.length cp) (cellsOf b))]⟩ : St).put k (aggD [d0, d1, isD (.slice A b.length cp), d3, d4]))) : SWl P Γ ops Q lo σ := fun a w hh => by
  obtain ⟨cs, hv, ha⟩ := hh.tm k _ hk
  match cs, ha with
  | [u0, u1, v, u3, u4], ha =>
    obtain ⟨h0, h1, ⟨A, c, hvv, hc, hr, hn⟩, h3, h4, -⟩ := ha
    rw [cellsOf_length] at hvv hc
    refine h A c a w ?_
    have h5 := hh.more (Only.refl [] w) (b := .r [] (viewR (.slice A b.length c) (cellsOf b))) ⟨⟨A, c, by rw [cellsOf_length], by rw [cellsOf_length]; exact hc, hr, fun h0 p hp => .inr (hn h0 p hp)⟩, by simp⟩ (by simp [Box.fp]) (by simp [Box.fp])
    have hL : ∀ x ∈ St.L Γ ⟨σ.tm, σ.bx ++ [.r [] (viewR (.slice A b.length c) (cellsOf b))]⟩, x ∈ σ.L Γ ∨ w.heap.size ≤ x := fun x hx => .inl (by simpa [St.L, fps, Box.fp] using hx)
    exact h5.learn ⟨[u0, u1, v, u3, u4], hv, D.less _ h0 hL, D.less _ h1 hL, hvv, D.less _ h3 hL, D.less _ h4 hL, trivial⟩
theorem SWz.lookA5 {l : List Oper} {S : List Nat} {tz : Reg.Tz} (k : Nat) {d0 d1 d3 d4 : D} {b : List UInt8} (hk : σ.tm k = some (aggD [d0, d1, bD b, d3, d4])) (h : ∀ A cp, SWz P Γ l Q S tz ((⟨σ.tm, σ.bx ++ [.r [] (viewR (.slice A b.length cp) (cellsOf b))]⟩ : St).put k (aggD [d0, d1, isD (.slice A b.length cp), d3, d4]))) : SWz P Γ l Q S tz σ := fun a w hh => by
  obtain ⟨cs, hv, ha⟩ := hh.tm k _ hk
  match cs, ha with
  | [u0, u1, v, u3, u4], ha =>
    obtain ⟨h0, h1, ⟨A, c, hvv, hc, hr, hn⟩, h3, h4, -⟩ := ha
    rw [cellsOf_length] at hvv hc
    refine h A c a w ?_
    have h5 := hh.more (Only.refl [] w) (b := .r [] (viewR (.slice A b.length c) (cellsOf b))) ⟨⟨A, c, by rw [cellsOf_length], by rw [cellsOf_length]; exact hc, hr, fun h0 p hp => .inr (hn h0 p hp)⟩, by simp⟩ (by simp [Box.fp]) (by simp [Box.fp])
    have hL : ∀ x ∈ St.L Γ ⟨σ.tm, σ.bx ++ [.r [] (viewR (.slice A b.length c) (cellsOf b))]⟩, x ∈ σ.L Γ ∨ w.heap.size ≤ x := fun x hx => .inl (by simpa [St.L, fps, Box.fp] using hx)
    exact h5.learn ⟨[u0, u1, v, u3, u4], hv, D.less _ h0 hL, D.less _ h1 hL, hvv, D.less _ h3 hL, D.less _ h4 hL, trivial⟩
end
theorem while_all {α : Type} {p : α → Bool} : ∀ {l : List α}, (∀ x ∈ l, p x = true) → l.takeWhile p = l ∧ l.dropWhile p = []
  | [], _ => ⟨rfl, rfl⟩
  | x :: l, h => by
    obtain ⟨h1, h2⟩ := while_all (l := l) (fun y hy => h y (List.mem_cons_of_mem _ hy))
    have h3 := h x List.mem_cons_self
    exact ⟨by rw [List.takeWhile_cons, if_pos h3, h1], by rw [List.dropWhile_cons, if_pos h3, h2]⟩
theorem bldBk0 : Bld Tryd.prog 30 [] [] [isD (.map none), isD (.slice none 0 0), isD (.map none)] := fun L w vs h => by
  obtain rfl := all0 h
  exact ⟨[.map none, .slice none 0 0, .map none], ⟨rfl, rfl, rfl, trivial⟩, fun w' => by kernel_rfl⟩
set_option maxHeartbeats 4000000 in
set_option maxRecDepth 100000 in
theorem con_cloneBO (b : List UInt8) (hb : b.length ≤ 1000000) : ConR Tryd.prog 120 [] [bD b] (fun t : Ust => [.r t.F (vecT 5 1 encB t.A t.c b)]) (fun t : Ust => isD (.slice t.A b.length t.c)) := by
  refine con_ofR Tryd.func120 (by kernel_rfl) rfl (by kernel_rfl) fun base w0 => ?_
  refine SW.seq ?_
  refine SW.lookB 0 rfl fun A c => ?_
  refine SW.region ?_
  refine SWl.rd rfl (Rd.assign rfl) ?_
  refine SWl.nil ?_
  refine SN.then ?_
  refine SW.seq ?_
  refine SW.seq ?_
  refine SW.region ?_
  refine SWl.rd rfl (Rd.move rfl) ?_
  refine SWl.rd rfl (Rd.eqN (e := 5) rfl rfl (by kernel_rfl)) ?_
  refine SWl.nil ?_
  refine SN.then ?_
  refine SW.cond rfl (fun hb4 => ?_) (fun hb4 => ?_)
  · refine SW.viewN 0 rfl hb4 fun hnil => ?_
    refine SW.seq ?_
    refine SW.vecN 5 1 encB ?_
    refine SW.region ?_
    refine SWl.rd rfl (Rd.assign rfl) ?_
    refine SWl.nil ?_
    refine SN.then ?_
    refine SW.retR (fn := Tryd.f120) (⟨none, 0, []⟩) [1] (fun _ _ h => h) (Rs.le (Rs.one rfl (ResV.tmp rfl)) ?_) (by decide) ⟨⟨_, rfl, leVec (by rw [hnil]) (by rw [hnil])⟩, trivial⟩
    exact Le.is (by rw [hnil]; rfl)
  · skip
    refine SW.skip ?_
    refine SN.then ?_
    refine SW.seq ?_
    refine SW.region ?_
    refine SWl.ef (S := []) (Ef.lit0 (e := 5) encB 1 1 (by kernel_rfl) (by kernel_rfl) rfl) ?_
    rintro _ ⟨g5, rfl⟩
    refine SWl.rd rfl (Rd.move rfl) ?_
    refine SWl.ef (Ef.appT 1 1 1 rfl rfl (SrcT.view 0 rfl rfl) (by kernel_rfl) (by kernel_rfl) (by simp <;> omega) (by decide) (fun _ h => h) rfl) ?_
    rintro _ ⟨A7, F7, c7, rfl⟩
    refine SWl.rd rfl (Rd.assign rfl) ?_
    refine SWl.nil ?_
    refine SN.then ?_
    refine SW.retR (fn := Tryd.f120) (⟨A7, c7, F7⟩) [1] (fun _ _ h => h) (Rs.le (Rs.one rfl (ResV.tmp rfl)) ?_) (by decide) ⟨⟨_, rfl, LeR.refl _⟩, trivial⟩
    exact Le.refl _
set_option maxHeartbeats 4000000 in
set_option maxRecDepth 100000 in
theorem con_copiedO (a : Acc.T) (hb : a.key.length ≤ 1000000) : ConR Tryd.prog 86 [] [aggD [strD a.name, iD a.role, bD a.key, iD a.dep, iD a.num]] (fun t : Ust => [.r t.F (vecT 5 1 encB t.A t.c a.key)]) (fun t : Ust => aggD [strD a.name, iD a.role, isD (.slice t.A a.key.length t.c), iD a.dep, iD a.num]) := by
  refine con_ofR Tryd.func86 (by kernel_rfl) rfl (by kernel_rfl) fun base w0 => ?_
  refine SW.seq ?_
  refine SW.region ?_
  refine SWl.ef (S := []) (Ef.boxA rfl rfl) ?_
  rintro _ ⟨g1, rfl⟩
  refine SWl.ef (S := []) (Ef.alloc (zs := [.string ⟨#[]⟩, .int .i64 0, .slice none 0 0, .int .i64 0, .int .i64 0]) (by kernel_rfl) rfl) ?_
  rintro _ ⟨g2, rfl⟩
  refine SWl.nil ?_
  refine SN.then ?_
  refine SW.seq ?_
  refine SW.region ?_
  refine SWl.rd rfl (Rd.fieldAddr (n := 2) rfl (by kernel_rfl)) ?_
  refine SWl.rd rfl (Rd.loadB 0 rfl rfl rfl (by kernel_rfl) ap_nil) ?_
  refine SWl.ef (S := []) (Ef.callR [] (con_cloneBO a.key hb) rfl ⟨Le.refl _, trivial⟩ (by decide) trivial (fun _ h => h) rfl) ?_
  rintro _ ⟨s5, rfl⟩
  refine SWl.rd rfl (Rd.fieldAddr (n := 2) rfl (by kernel_rfl)) ?_
  refine SWl.ef (S := [_]) (Ef.storeV 0 rfl rfl rfl (by kernel_rfl) rfl (List.mem_singleton.2 rfl)) ?_
  rintro _ rfl
  refine SWl.nil ?_
  refine SN.then ?_
  refine SW.seq ?_
  refine SW.sub (σ' := St.ob [(1, isD (.pointer (some ⟨g1, 0, none⟩))), (2, isD (.pointer (some ⟨g2, 0, none⟩)))] [.c g1 [strD a.name, iD a.role, isD (.slice s5.A a.key.length s5.c), iD a.dep, iD a.num], .c g2 [strD [], iD 0, isD (.slice none 0 0), iD 0, iD 0], .r s5.F (vecT 5 1 encB s5.A s5.c a.key)]) (⟨⟨_, rfl, ⟨⟨_, rfl, Le.refl _⟩, ⟨⟨_, rfl, Le.refl _⟩, trivial⟩⟩⟩, [0, 1, 2], by decide, ⟨⟨_, rfl, LeAll.refl _⟩, ⟨⟨_, rfl, LeAll.refl _⟩, ⟨⟨_, rfl, LeR.refl _⟩, trivial⟩⟩⟩⟩) ?_
  refine SW.region ?_
  refine SWl.rd rfl (Rd.loadA 0 5 rfl rfl (by kernel_rfl) rfl ap_nil) ?_
  refine SWl.ef (S := [_]) (Ef.storeA 1 rfl rfl rfl (by kernel_rfl) rfl (List.mem_singleton.2 rfl)) ?_
  rintro _ rfl
  refine SWl.nil ?_
  refine SN.then ?_
  refine SW.retR (fn := Tryd.f86) (s5) [2] (fun _ _ h => h) (Rs.one rfl (ResV.cellA 1 rfl rfl (by kernel_rfl))) (by decide) ⟨⟨_, rfl, LeR.refl _⟩, trivial⟩
set_option maxHeartbeats 4000000 in
set_option maxRecDepth 100000 in
theorem con_accounts_it (l : List Acc.T) (hl : l.length ≤ 1000000) (hb : ∀ e ∈ l, e.key.length ≤ 1000000) (J Jx : Nat → Res) (y : Nat) (hy : ∀ (i : Nat) (x : Nat × Acc.T) (k : Ust) (F : List Nat), (itemsA l)[i]? = some x → ConY Tryd.prog y (.r F (J i) :: ibA x k) (ddA x k) (fun t : List Nat × Bool => [.r t.1 (if t.2 = true then J (i + 1) else Jx (i + 1))]) (fun t => t.2)) (F : List Nat) : ConR Tryd.prog 105 [.r F (J 0)] [isD (.func (.yield y) #[] #[]), paD [lsD encA l]] (fun t : List Nat × Option Nat => [.r t.1 (match t.2 with | none => J (itemsA l).length | some i => Jx (i + 1))]) (fun t : List Nat × Option Nat => isD (.tuple #[])) := by
  refine con_ofR Tryd.func105 (by kernel_rfl) rfl (by kernel_rfl) fun base w0 => ?_
  refine SW.seq ?_
  refine SW.region ?_
  refine SWl.rd rfl (Rd.loadR rfl rfl (by kernel_rfl) (by simp)) ?_
  refine SWl.rd rfl (Rd.lenR (e := 33) rfl (by kernel_rfl)) ?_
  refine SWl.rd rfl (Rd.move rfl) ?_
  refine SWl.nil ?_
  refine SN.then ?_
  refine SW.block ?_
  refine SW.loop (ι := {p : Nat × List Nat // p.1 ≤ l.length}) (fun p => St.ob [(0, isD (.func (.yield y) #[] #[])), (5, lsD encA l), (6, iD (l.length : Int)), (7, iD (p.1.1 : Int))] [.r p.1.2 (J p.1.1)]) (fun p => l.length - p.1.1) (⟨(0, F), by simp⟩) ?_ ?_
  · exact ⟨⟨_, rfl, ⟨⟨_, rfl, Le.refl _⟩, ⟨⟨_, rfl, Le.refl _⟩, ⟨⟨_, rfl, Le.refl _⟩, ⟨⟨_, rfl, Le.refl _⟩, trivial⟩⟩⟩⟩⟩, [0], by decide, ⟨⟨_, rfl, LeR.refl _⟩, trivial⟩⟩
  · rintro ⟨⟨i, G⟩, hi⟩ K0 hK0
    dsimp only at hi ⊢
    refine SW.seq ?_
    refine SW.region ?_
    refine SWl.rd rfl (Rd.lss rfl rfl) ?_
    refine SWl.nil ?_
    refine SN.then ?_
    refine SW.seq ?_
    refine SW.cond rfl (fun hb8 => ?_) (fun hb8 => ?_)
    · have hb8 := of_decide_eq_true hb8
      refine SW.skip ?_
      refine SN.then ?_
      refine SW.seq ?_
      refine SW.block ?_
      refine SW.seq ?_
      refine SW.region ?_
      refine SWl.rd rfl (Rd.move rfl) ?_
      obtain ⟨e, he⟩ : ∃ e, l[i]? = some e := ⟨_, List.getElem?_eq_getElem (by omega)⟩
      refine SWl.rd rfl (Rd.idxL (e := 33) 5 rfl rfl (by kernel_rfl) (by kernel_rfl) (by omega) (by simpa using he)) ?_
      refine SWl.rd rfl (Rd.loadRA 5 rfl (by kernel_rfl) (by decide) (show 5 ≤ 5 by decide) (by simp)) ?_
      refine SWl.ef (S := []) (Ef.alloc (zs := [.string ⟨#[]⟩, .int .i64 0, .slice none 0 0, .int .i64 0, .int .i64 0]) (by kernel_rfl) rfl) ?_
      rintro _ ⟨g4, rfl⟩
      refine SWl.rd rfl (Rd.assign rfl) ?_
      refine SWl.ef (S := [_]) (Ef.storeA 1 rfl rfl rfl (by kernel_rfl) rfl (List.mem_singleton.2 rfl)) ?_
      rintro _ rfl
      refine SWl.nil ?_
      refine SN.then ?_
      refine SW.seq ?_
      refine SW.sub (σ' := St.ob [(0, isD (.func (.yield y) #[] #[])), (3, iD (i : Int)), (4, isD (.pointer (some ⟨g4, 0, none⟩))), (5, lsD encA l), (6, iD (l.length : Int)), (7, iD (i : Int))] [.r G (J i), .c g4 [strD e.name, iD e.role, bD e.key, iD e.dep, iD e.num]]) (⟨⟨_, rfl, ⟨⟨_, rfl, Le.refl _⟩, ⟨⟨_, rfl, Le.refl _⟩, ⟨⟨_, rfl, Le.refl _⟩, ⟨⟨_, rfl, Le.refl _⟩, ⟨⟨_, rfl, Le.refl _⟩, ⟨⟨_, rfl, Le.refl _⟩, trivial⟩⟩⟩⟩⟩⟩⟩, [0, 1], by decide, ⟨⟨_, rfl, LeR.refl _⟩, ⟨⟨_, rfl, LeAll.refl _⟩, trivial⟩⟩⟩) ?_
      refine SW.regionK ?_
      refine SWk.rd rfl (Rd.move rfl) ?_
      refine SWk.rd rfl (Rd.move rfl) ?_
      refine SWk.rd rfl (Rd.loadA 1 5 rfl rfl (by kernel_rfl) rfl ap_nil) ?_
      refine SWk.ef (S := []) (Ef.callR [] (con_copiedO e (hb e (List.mem_of_getElem? he))) rfl ⟨Le.refl _, trivial⟩ (by decide) trivial (fun _ h => h) rfl) ?_
      rintro _ ⟨s15, rfl⟩
      refine SWk.yield [0, 2] (hy i (i, e) s15 G (itemsA_get he)) rfl rfl ⟨Le.refl _, Le.refl _, trivial⟩ (by decide) ⟨⟨_, rfl, LeR.refl _⟩, ⟨⟨_, rfl, LeR.refl _⟩, trivial⟩⟩ rfl ?_
      rintro ⟨G2, b⟩
      refine SWk.rd rfl (Rd.not rfl) ?_
      refine SWk.nil ?_
      refine SN.then ?_
      refine SW.cond rfl (fun hb17 => ?_) (fun hb17 => ?_)
      · obtain rfl : b = false := by simpa using hb17
        refine SW.retR (fn := Tryd.f105) (((G2, some i) : List Nat × Option Nat)) [1] (fun _ _ h => h) (Rs.none rfl) (by decide) ⟨⟨_, rfl, LeR.refl _⟩, trivial⟩
      · obtain rfl : b = true := by simpa using hb17
        refine SW.skip ?_
        refine SN.block ?_
        refine SN.then ?_
        refine SW.region ?_
        refine SWl.rd rfl (Rd.add rfl rfl ⟨by omega, by omega⟩) ?_
        refine SWl.rd rfl (Rd.move rfl) ?_
        refine SWl.nil ?_
        exact fun a w hh => hK0 (⟨(i + 1, G2), by simp only; omega⟩) (by simp only; omega) a w (hh.sub (⟨⟨_, rfl, ⟨⟨_, rfl, Le.refl _⟩, ⟨⟨_, rfl, Le.refl _⟩, ⟨⟨_, rfl, Le.refl _⟩, ⟨⟨_, rfl, Le.refl _⟩, trivial⟩⟩⟩⟩⟩, [1], by decide, ⟨⟨_, rfl, LeR.refl _⟩, trivial⟩⟩))
    · have hb8 := of_decide_eq_false hb8
      refine SW.exit' ?_
      repeat (first | refine SE.then ?_ | refine SE.skip (by decide) ?_)
      refine SE.here ?_
      refine SN.retR (fn := Tryd.f105) (((G, none) : List Nat × Option Nat)) [0] (Rs.none rfl) (by decide) ⟨⟨_, rfl, (by rw [itemsA_len, show l.length = i by omega]; exact LeR.refl _)⟩, trivial⟩
theorem con_accounts_seq (l : List Acc.T) (hl : l.length ≤ 1000000) (hb : ∀ e ∈ l, e.key.length ≤ 1000000) : Seq Tryd.prog 105 [paD [lsD encA l]] ibA ddA (itemsA l) := fun J Jx y hy F => con_accounts_it l hl hb J Jx y hy F
theorem accounts_en : enters Tryd.prog 105 := enters_of Tryd.func105 (by kernel_rfl) rfl
end Sx
end Go.Proofs.YtchbgfgboogniaaDoor
