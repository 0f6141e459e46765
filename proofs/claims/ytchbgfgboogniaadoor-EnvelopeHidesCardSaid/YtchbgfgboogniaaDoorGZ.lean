/-
  ACCOUNTS: list, Accounts, Add.
  ACCOUNTS: Remove, Copy, the iterator.
-/
import Derived.Test.YtchbgfgboogniaaDoorGY
namespace Go.Proofs.YtchbgfgboogniaaDoor
open Go.RowKit
namespace Sx
set_option maxHeartbeats 4000000 in
set_option maxRecDepth 100000 in
theorem con_add_bad (gb : Nat) (s : Bst) (l : List Acc.T) (a : Acc.T) (A : Option Addr) (c : Nat) (F : List Nat) (R : Res) (hR : IsView R (.slice A a.key.length c) (cellsOf a.key)) (hf : Acc.Fine l) (h : ¬ Acc.ok a) : ConR Tryd.prog 11 [.c gb [isD (.map (s.M.map Prod.fst)), isD (.slice s.n.A (Acc.nm l).length s.n.c), isD (.map (s.M.map Prod.snd))], .r s.n.F (vecT 9 1 encT s.n.A s.n.c (Acc.nm l)), .r s.F1 (mapQ (s.M.map Prod.fst) encS (Acc.nm l) (acD l)), .r s.F2 (mapQ (s.M.map Prod.snd) encSt (Acc.seats l) (seD l)), .r F R] [isD (.pointer (some ⟨gb, 0, none⟩)), aggD [strD a.name, iD a.role, isD (.slice A a.key.length c), iD a.dep, iD a.num]] (fun t : Bst => [.c gb [isD (.map (t.M.map Prod.fst)), isD (.slice t.n.A (Acc.nm (Acc.add l a).1).length t.n.c), isD (.map (t.M.map Prod.snd))], .r t.n.F (vecT 9 1 encT t.n.A t.n.c (Acc.nm (Acc.add l a).1)), .r t.F1 (mapQ (t.M.map Prod.fst) encS (Acc.nm (Acc.add l a).1) (acD (Acc.add l a).1)), .r t.F2 (mapQ (t.M.map Prod.snd) encSt (Acc.seats (Acc.add l a).1) (seD (Acc.add l a).1)), .r F R]) (fun t : Bst => iD (Acc.add l a).2) := by
  refine con_ofR Tryd.func11 (by kernel_rfl) rfl (by kernel_rfl) fun base w0 => ?_
  refine SW.seq ?_
  refine SW.region ?_
  refine SWl.ef (S := []) (Ef.boxA rfl rfl) ?_
  rintro _ ⟨g3, rfl⟩
  refine SWl.rd rfl (Rd.assign rfl) ?_
  refine SWl.nil ?_
  refine SN.then ?_
  refine SW.seq ?_
  refine SW.seq ?_
  refine SW.region ?_
  refine SWl.rd rfl (Rd.move rfl) ?_
  refine SWl.rd rfl (Rd.eqP rfl rfl (by kernel_rfl)) ?_
  refine SWl.nil ?_
  refine SN.then ?_
  refine SW.condF rfl (rfl) ?_
  refine SW.skip ?_
  refine SN.then ?_
  refine SW.seq ?_
  refine SW.seq ?_
  refine SW.region ?_
  refine SWl.rd rfl (Rd.loadA 5 5 rfl rfl (by kernel_rfl) rfl ap_nil) ?_
  refine SWl.ef (S := []) (Ef.callN [] (con_validA a.name a.role a.key.length a.dep a.num) rfl ⟨(sees_le (Le.agg ⟨Le.refl _, Le.refl _, le_is_len, Le.refl _, Le.refl _, trivial⟩)), trivial⟩ rfl) ?_
  rintro _ rfl
  refine SWl.rd rfl (Rd.not rfl) ?_
  refine SWl.nil ?_
  refine SN.then ?_
  refine SW.condT rfl (by rw [decide_eq_false (show ¬ Acc.okN _ _ _ _ _ from h)]; rfl) ?_
  refine SW.seq ?_
  refine SW.region ?_
  refine SWl.rd rfl (Rd.assign rfl) ?_
  refine SWl.nil ?_
  refine SN.then ?_
  refine SW.retR (fn := Tryd.f11) (s) [0, 1, 2, 3, 4] (fun _ _ h => h) (Rs.le (Rs.one rfl (ResV.tmp rfl)) ?_) (by decide) ⟨⟨_, rfl, ⟨Le.refl _, Le.is (by rw [Acc.add_bad h]), Le.refl _, trivial⟩⟩, ⟨⟨_, rfl, leVec (by rw [Acc.add_bad h]) (by rw [Acc.add_bad h])⟩, ⟨⟨_, rfl, (by rw [Acc.add_bad h]; exact LeR.refl _)⟩, ⟨⟨_, rfl, (by rw [Acc.add_bad h]; exact LeR.refl _)⟩, ⟨⟨_, rfl, LeR.refl _⟩, trivial⟩⟩⟩⟩⟩
  exact Le.is (by rw [Acc.add_bad h])
set_option maxHeartbeats 4000000 in
set_option maxRecDepth 100000 in
theorem con_add_busyn (gb : Nat) (s : Bst) (l : List Acc.T) (a : Acc.T) (A : Option Addr) (c : Nat) (F : List Nat) (R : Res) (hR : IsView R (.slice A a.key.length c) (cellsOf a.key)) (hf : Acc.Fine l) (h : Acc.ok a) (hn : a.name ∈ Acc.nm l) : ConR Tryd.prog 11 [.c gb [isD (.map (s.M.map Prod.fst)), isD (.slice s.n.A (Acc.nm l).length s.n.c), isD (.map (s.M.map Prod.snd))], .r s.n.F (vecT 9 1 encT s.n.A s.n.c (Acc.nm l)), .r s.F1 (mapQ (s.M.map Prod.fst) encS (Acc.nm l) (acD l)), .r s.F2 (mapQ (s.M.map Prod.snd) encSt (Acc.seats l) (seD l)), .r F R] [isD (.pointer (some ⟨gb, 0, none⟩)), aggD [strD a.name, iD a.role, isD (.slice A a.key.length c), iD a.dep, iD a.num]] (fun t : Bst => [.c gb [isD (.map (t.M.map Prod.fst)), isD (.slice t.n.A (Acc.nm (Acc.add l a).1).length t.n.c), isD (.map (t.M.map Prod.snd))], .r t.n.F (vecT 9 1 encT t.n.A t.n.c (Acc.nm (Acc.add l a).1)), .r t.F1 (mapQ (t.M.map Prod.fst) encS (Acc.nm (Acc.add l a).1) (acD (Acc.add l a).1)), .r t.F2 (mapQ (t.M.map Prod.snd) encSt (Acc.seats (Acc.add l a).1) (seD (Acc.add l a).1)), .r F R]) (fun t : Bst => iD (Acc.add l a).2) := by
  refine con_ofR Tryd.func11 (by kernel_rfl) rfl (by kernel_rfl) fun base w0 => ?_
  refine SW.seq ?_
  refine SW.region ?_
  refine SWl.ef (S := []) (Ef.boxA rfl rfl) ?_
  rintro _ ⟨g3, rfl⟩
  refine SWl.rd rfl (Rd.assign rfl) ?_
  refine SWl.nil ?_
  refine SN.then ?_
  refine SW.seq ?_
  refine SW.seq ?_
  refine SW.region ?_
  refine SWl.rd rfl (Rd.move rfl) ?_
  refine SWl.rd rfl (Rd.eqP rfl rfl (by kernel_rfl)) ?_
  refine SWl.nil ?_
  refine SN.then ?_
  refine SW.condF rfl (rfl) ?_
  refine SW.skip ?_
  refine SN.then ?_
  refine SW.seq ?_
  refine SW.seq ?_
  refine SW.region ?_
  refine SWl.rd rfl (Rd.loadA 5 5 rfl rfl (by kernel_rfl) rfl ap_nil) ?_
  refine SWl.ef (S := []) (Ef.callN [] (con_validA a.name a.role a.key.length a.dep a.num) rfl ⟨(sees_le (Le.agg ⟨Le.refl _, Le.refl _, le_is_len, Le.refl _, Le.refl _, trivial⟩)), trivial⟩ rfl) ?_
  rintro _ rfl
  refine SWl.rd rfl (Rd.not rfl) ?_
  refine SWl.nil ?_
  refine SN.then ?_
  refine SW.condF rfl (by rw [decide_eq_true (show Acc.okN _ _ _ _ _ from h)]; rfl) ?_
  refine SW.skip ?_
  refine SN.then ?_
  refine SW.seq ?_
  refine SW.seq ?_
  refine SW.draw [] (.r 0 (.r 1 (.r 2 (.r 3 (.r 4 (.r 5 (.r 6 (.r 7 (.r 8 (.r 9 (.n 10 (.e 11 (.r 12 .fin) .no) .no))))))))))) (by kernel_rfl) (by kernel_rfl) (fun d _ _ _ _ h => by cases d <;> exact h) ?_
  refine SWz.rd (i := 0) rfl rfl (Rd.move rfl) ?_
  refine SWz.rd (i := 1) rfl rfl (Rd.nilCheck rfl) ?_
  refine SWz.rd (i := 2) rfl rfl (Rd.fieldAddr (n := 0) rfl (by kernel_rfl)) ?_
  refine SWz.rd (i := 3) rfl rfl (Rd.loadB 0 rfl rfl rfl (by kernel_rfl) ap_nil) ?_
  refine SWz.rd (i := 4) rfl rfl (Rd.fieldAddr (n := 0) rfl (by kernel_rfl)) ?_
  refine SWz.rd (i := 5) rfl rfl (Rd.loadB 5 rfl rfl rfl (by kernel_rfl) ap_nil) ?_
  refine SWz.rd (i := 6) rfl rfl ((Rd.lookQ (kt := 9) (et := 33) (ok := true) 2 rfl rfl rfl (Le.refl _) (by kernel_rfl) (keyNm _) hn ap_nil)) ?_
  refine SWz.rd (i := 7) rfl rfl (Rd.move rfl) ?_
  refine SWz.rd (i := 8) rfl rfl (Rd.extract rfl rfl) ?_
  refine SWz.rd (i := 9) rfl rfl (Rd.extract rfl rfl) ?_
  refine SWz.efb (i := 10) rfl (EfB.alloc (zs := [.string ⟨#[]⟩, .int .i64 0, .slice none 0 0, .int .i64 0, .int .i64 0]) (by kernel_rfl) rfl) ?_ SWz.no
  rintro g5 _ rfl
  refine SWz.efe (i := 11) rfl (Ef.storeA 6 rfl rfl rfl (by kernel_rfl) rfl (List.mem_append_right _ (List.mem_cons_self))) ?_ SWz.no
  rintro _ rfl
  refine SWz.rd (i := 12) rfl rfl (Rd.assign rfl) ?_
  refine SWz.nil ?_
  refine SN.then ?_
  refine SW.seq ?_
  refine SW.region ?_
  refine SWl.rd rfl (Rd.move rfl) ?_
  refine SWl.rd rfl (Rd.move rfl) ?_
  refine SWl.off rfl rfl (rfl) rfl rfl ?_
  refine SWl.off rfl rfl (rfl) rfl rfl ?_
  refine SWl.off rfl rfl (rfl) rfl rfl ?_
  refine SWl.off rfl rfl (rfl) rfl rfl ?_
  refine SWl.off rfl rfl (rfl) rfl rfl ?_
  refine SWl.off rfl rfl (rfl) rfl rfl ?_
  refine SWl.rd rfl (Rd.pickY rfl (rfl) rfl) ?_
  refine SWl.nil ?_
  refine SN.then ?_
  refine SW.condT rfl (rfl) ?_
  refine SW.seq ?_
  refine SW.region ?_
  refine SWl.rd rfl (Rd.assign rfl) ?_
  refine SWl.nil ?_
  refine SN.then ?_
  refine SW.retR (fn := Tryd.f11) (s) [0, 1, 2, 3, 4] (fun _ _ h => h) (Rs.le (Rs.one rfl (ResV.tmp rfl)) ?_) (by decide) ⟨⟨_, rfl, ⟨Le.refl _, Le.is (by rw [Acc.add_busy h (Acc.clash_nm hn)]), Le.refl _, trivial⟩⟩, ⟨⟨_, rfl, leVec (by rw [Acc.add_busy h (Acc.clash_nm hn)]) (by rw [Acc.add_busy h (Acc.clash_nm hn)])⟩, ⟨⟨_, rfl, (by rw [Acc.add_busy h (Acc.clash_nm hn)]; exact LeR.refl _)⟩, ⟨⟨_, rfl, (by rw [Acc.add_busy h (Acc.clash_nm hn)]; exact LeR.refl _)⟩, ⟨⟨_, rfl, LeR.refl _⟩, trivial⟩⟩⟩⟩⟩
  exact Le.is (by rw [Acc.add_busy h (Acc.clash_nm hn)])
set_option maxHeartbeats 4000000 in
set_option maxRecDepth 100000 in
theorem con_add_busys (gb : Nat) (s : Bst) (l : List Acc.T) (a : Acc.T) (A : Option Addr) (c : Nat) (F : List Nat) (R : Res) (hR : IsView R (.slice A a.key.length c) (cellsOf a.key)) (hf : Acc.Fine l) (h : Acc.ok a) (hn : a.name ∉ Acc.nm l) (hs : (a.role, a.num) ∈ Acc.seats l) : ConR Tryd.prog 11 [.c gb [isD (.map (s.M.map Prod.fst)), isD (.slice s.n.A (Acc.nm l).length s.n.c), isD (.map (s.M.map Prod.snd))], .r s.n.F (vecT 9 1 encT s.n.A s.n.c (Acc.nm l)), .r s.F1 (mapQ (s.M.map Prod.fst) encS (Acc.nm l) (acD l)), .r s.F2 (mapQ (s.M.map Prod.snd) encSt (Acc.seats l) (seD l)), .r F R] [isD (.pointer (some ⟨gb, 0, none⟩)), aggD [strD a.name, iD a.role, isD (.slice A a.key.length c), iD a.dep, iD a.num]] (fun t : Bst => [.c gb [isD (.map (t.M.map Prod.fst)), isD (.slice t.n.A (Acc.nm (Acc.add l a).1).length t.n.c), isD (.map (t.M.map Prod.snd))], .r t.n.F (vecT 9 1 encT t.n.A t.n.c (Acc.nm (Acc.add l a).1)), .r t.F1 (mapQ (t.M.map Prod.fst) encS (Acc.nm (Acc.add l a).1) (acD (Acc.add l a).1)), .r t.F2 (mapQ (t.M.map Prod.snd) encSt (Acc.seats (Acc.add l a).1) (seD (Acc.add l a).1)), .r F R]) (fun t : Bst => iD (Acc.add l a).2) := by
  refine con_ofR Tryd.func11 (by kernel_rfl) rfl (by kernel_rfl) fun base w0 => ?_
  refine SW.seq ?_
  refine SW.region ?_
  refine SWl.ef (S := []) (Ef.boxA rfl rfl) ?_
  rintro _ ⟨g3, rfl⟩
  refine SWl.rd rfl (Rd.assign rfl) ?_
  refine SWl.nil ?_
  refine SN.then ?_
  refine SW.seq ?_
  refine SW.seq ?_
  refine SW.region ?_
  refine SWl.rd rfl (Rd.move rfl) ?_
  refine SWl.rd rfl (Rd.eqP rfl rfl (by kernel_rfl)) ?_
  refine SWl.nil ?_
  refine SN.then ?_
  refine SW.condF rfl (rfl) ?_
  refine SW.skip ?_
  refine SN.then ?_
  refine SW.seq ?_
  refine SW.seq ?_
  refine SW.region ?_
  refine SWl.rd rfl (Rd.loadA 5 5 rfl rfl (by kernel_rfl) rfl ap_nil) ?_
  refine SWl.ef (S := []) (Ef.callN [] (con_validA a.name a.role a.key.length a.dep a.num) rfl ⟨(sees_le (Le.agg ⟨Le.refl _, Le.refl _, le_is_len, Le.refl _, Le.refl _, trivial⟩)), trivial⟩ rfl) ?_
  rintro _ rfl
  refine SWl.rd rfl (Rd.not rfl) ?_
  refine SWl.nil ?_
  refine SN.then ?_
  refine SW.condF rfl (by rw [decide_eq_true (show Acc.okN _ _ _ _ _ from h)]; rfl) ?_
  refine SW.skip ?_
  refine SN.then ?_
  refine SW.seq ?_
  refine SW.seq ?_
  refine SW.draw [] (.r 0 (.r 1 (.r 2 (.r 3 (.r 4 (.r 5 (.r 6 (.r 7 (.r 8 (.r 9 (.n 10 (.e 11 (.r 12 .fin) .no) .no))))))))))) (by kernel_rfl) (by kernel_rfl) (fun d _ _ _ _ h => by cases d <;> exact h) ?_
  refine SWz.rd (i := 0) rfl rfl (Rd.move rfl) ?_
  refine SWz.rd (i := 1) rfl rfl (Rd.nilCheck rfl) ?_
  refine SWz.rd (i := 2) rfl rfl (Rd.fieldAddr (n := 0) rfl (by kernel_rfl)) ?_
  refine SWz.rd (i := 3) rfl rfl (Rd.loadB 0 rfl rfl rfl (by kernel_rfl) ap_nil) ?_
  refine SWz.rd (i := 4) rfl rfl (Rd.fieldAddr (n := 0) rfl (by kernel_rfl)) ?_
  refine SWz.rd (i := 5) rfl rfl (Rd.loadB 5 rfl rfl rfl (by kernel_rfl) ap_nil) ?_
  refine SWz.rd (i := 6) rfl rfl ((Rd.mono (Rd.lookQN (kt := 9) (et := 33) (z := .agg #[.string ⟨#[]⟩, .int .i64 0, .slice none 0 0, .int .i64 0, .int .i64 0]) (ok := true) 2 rfl rfl rfl (Le.refl _) (by kernel_rfl) (by kernel_rfl) (keyNm _) hn ap_nil) tup_z5)) ?_
  refine SWz.rd (i := 7) rfl rfl (Rd.move rfl) ?_
  refine SWz.rd (i := 8) rfl rfl (Rd.extract rfl rfl) ?_
  refine SWz.rd (i := 9) rfl rfl (Rd.extract rfl rfl) ?_
  refine SWz.efb (i := 10) rfl (EfB.alloc (zs := [.string ⟨#[]⟩, .int .i64 0, .slice none 0 0, .int .i64 0, .int .i64 0]) (by kernel_rfl) rfl) ?_ SWz.no
  rintro g5 _ rfl
  refine SWz.efe (i := 11) rfl (Ef.storeA 6 rfl rfl rfl (by kernel_rfl) rfl (List.mem_append_right _ (List.mem_cons_self))) ?_ SWz.no
  rintro _ rfl
  refine SWz.rd (i := 12) rfl rfl (Rd.assign rfl) ?_
  refine SWz.nil ?_
  refine SN.then ?_
  refine SW.seq ?_
  refine SW.region ?_
  refine SWl.rd rfl (Rd.move rfl) ?_
  refine SWl.rd rfl (Rd.move rfl) ?_
  refine SWl.rdg rfl rfl (rfl) rfl rfl (Rd.move rfl) ?_
  refine SWl.rdg rfl rfl (rfl) rfl rfl (Rd.fieldAddr (n := 1) rfl (by kernel_rfl)) ?_
  refine SWl.rdg rfl rfl (rfl) rfl rfl (Rd.loadB 5 rfl rfl rfl (by kernel_rfl) ap_nil) ?_
  refine SWl.rdg rfl rfl (rfl) rfl rfl (Rd.fieldAddr (n := 4) rfl (by kernel_rfl)) ?_
  refine SWl.rdg rfl rfl (rfl) rfl rfl (Rd.loadB 5 rfl rfl rfl (by kernel_rfl) ap_nil) ?_
  refine SWl.efg (S := []) rfl rfl (rfl) rfl (Ef.callN [0, 2, 1, 3] (con_taken l a.role a.num) rfl ⟨(sees_box 0 rfl (by decide) ⟨(sees_mapQ 2 rfl (by decide)), (sees_vec 1 rfl (by decide)), (sees_mapQ 3 rfl (by decide)), trivial⟩), (sees_le (Le.refl _)), (sees_le (Le.refl _)), trivial⟩ rfl) ?_
  rintro _ rfl
  refine SWl.rd rfl (Rd.pickN rfl (rfl) rfl) ?_
  refine SWl.nil ?_
  refine SN.then ?_
  refine SW.condT rfl (decide_eq_true hs) ?_
  refine SW.seq ?_
  refine SW.region ?_
  refine SWl.rd rfl (Rd.assign rfl) ?_
  refine SWl.nil ?_
  refine SN.then ?_
  refine SW.retR (fn := Tryd.f11) (s) [0, 1, 2, 3, 4] (fun _ _ h => h) (Rs.le (Rs.one rfl (ResV.tmp rfl)) ?_) (by decide) ⟨⟨_, rfl, ⟨Le.refl _, Le.is (by rw [Acc.add_busy h (Acc.clash_st hs)]), Le.refl _, trivial⟩⟩, ⟨⟨_, rfl, leVec (by rw [Acc.add_busy h (Acc.clash_st hs)]) (by rw [Acc.add_busy h (Acc.clash_st hs)])⟩, ⟨⟨_, rfl, (by rw [Acc.add_busy h (Acc.clash_st hs)]; exact LeR.refl _)⟩, ⟨⟨_, rfl, (by rw [Acc.add_busy h (Acc.clash_st hs)]; exact LeR.refl _)⟩, ⟨⟨_, rfl, LeR.refl _⟩, trivial⟩⟩⟩⟩⟩
  exact Le.is (by rw [Acc.add_busy h (Acc.clash_st hs)])
set_option maxHeartbeats 4000000 in
set_option maxRecDepth 100000 in
theorem con_add_full (gb : Nat) (s : Bst) (l : List Acc.T) (a : Acc.T) (A : Option Addr) (c : Nat) (F : List Nat) (R : Res) (hR : IsView R (.slice A a.key.length c) (cellsOf a.key)) (hf : Acc.Fine l) (h : Acc.ok a) (hn : a.name ∉ Acc.nm l) (hs : (a.role, a.num) ∉ Acc.seats l) (hl : 256 ≤ l.length) : ConR Tryd.prog 11 [.c gb [isD (.map (s.M.map Prod.fst)), isD (.slice s.n.A (Acc.nm l).length s.n.c), isD (.map (s.M.map Prod.snd))], .r s.n.F (vecT 9 1 encT s.n.A s.n.c (Acc.nm l)), .r s.F1 (mapQ (s.M.map Prod.fst) encS (Acc.nm l) (acD l)), .r s.F2 (mapQ (s.M.map Prod.snd) encSt (Acc.seats l) (seD l)), .r F R] [isD (.pointer (some ⟨gb, 0, none⟩)), aggD [strD a.name, iD a.role, isD (.slice A a.key.length c), iD a.dep, iD a.num]] (fun t : Bst => [.c gb [isD (.map (t.M.map Prod.fst)), isD (.slice t.n.A (Acc.nm (Acc.add l a).1).length t.n.c), isD (.map (t.M.map Prod.snd))], .r t.n.F (vecT 9 1 encT t.n.A t.n.c (Acc.nm (Acc.add l a).1)), .r t.F1 (mapQ (t.M.map Prod.fst) encS (Acc.nm (Acc.add l a).1) (acD (Acc.add l a).1)), .r t.F2 (mapQ (t.M.map Prod.snd) encSt (Acc.seats (Acc.add l a).1) (seD (Acc.add l a).1)), .r F R]) (fun t : Bst => iD (Acc.add l a).2) := by
  refine con_ofR Tryd.func11 (by kernel_rfl) rfl (by kernel_rfl) fun base w0 => ?_
  refine SW.seq ?_
  refine SW.region ?_
  refine SWl.ef (S := []) (Ef.boxA rfl rfl) ?_
  rintro _ ⟨g3, rfl⟩
  refine SWl.rd rfl (Rd.assign rfl) ?_
  refine SWl.nil ?_
  refine SN.then ?_
  refine SW.seq ?_
  refine SW.seq ?_
  refine SW.region ?_
  refine SWl.rd rfl (Rd.move rfl) ?_
  refine SWl.rd rfl (Rd.eqP rfl rfl (by kernel_rfl)) ?_
  refine SWl.nil ?_
  refine SN.then ?_
  refine SW.condF rfl (rfl) ?_
  refine SW.skip ?_
  refine SN.then ?_
  refine SW.seq ?_
  refine SW.seq ?_
  refine SW.region ?_
  refine SWl.rd rfl (Rd.loadA 5 5 rfl rfl (by kernel_rfl) rfl ap_nil) ?_
  refine SWl.ef (S := []) (Ef.callN [] (con_validA a.name a.role a.key.length a.dep a.num) rfl ⟨(sees_le (Le.agg ⟨Le.refl _, Le.refl _, le_is_len, Le.refl _, Le.refl _, trivial⟩)), trivial⟩ rfl) ?_
  rintro _ rfl
  refine SWl.rd rfl (Rd.not rfl) ?_
  refine SWl.nil ?_
  refine SN.then ?_
  refine SW.condF rfl (by rw [decide_eq_true (show Acc.okN _ _ _ _ _ from h)]; rfl) ?_
  refine SW.skip ?_
  refine SN.then ?_
  refine SW.seq ?_
  refine SW.seq ?_
  refine SW.draw [] (.r 0 (.r 1 (.r 2 (.r 3 (.r 4 (.r 5 (.r 6 (.r 7 (.r 8 (.r 9 (.n 10 (.e 11 (.r 12 .fin) .no) .no))))))))))) (by kernel_rfl) (by kernel_rfl) (fun d _ _ _ _ h => by cases d <;> exact h) ?_
  refine SWz.rd (i := 0) rfl rfl (Rd.move rfl) ?_
  refine SWz.rd (i := 1) rfl rfl (Rd.nilCheck rfl) ?_
  refine SWz.rd (i := 2) rfl rfl (Rd.fieldAddr (n := 0) rfl (by kernel_rfl)) ?_
  refine SWz.rd (i := 3) rfl rfl (Rd.loadB 0 rfl rfl rfl (by kernel_rfl) ap_nil) ?_
  refine SWz.rd (i := 4) rfl rfl (Rd.fieldAddr (n := 0) rfl (by kernel_rfl)) ?_
  refine SWz.rd (i := 5) rfl rfl (Rd.loadB 5 rfl rfl rfl (by kernel_rfl) ap_nil) ?_
  refine SWz.rd (i := 6) rfl rfl ((Rd.mono (Rd.lookQN (kt := 9) (et := 33) (z := .agg #[.string ⟨#[]⟩, .int .i64 0, .slice none 0 0, .int .i64 0, .int .i64 0]) (ok := true) 2 rfl rfl rfl (Le.refl _) (by kernel_rfl) (by kernel_rfl) (keyNm _) hn ap_nil) tup_z5)) ?_
  refine SWz.rd (i := 7) rfl rfl (Rd.move rfl) ?_
  refine SWz.rd (i := 8) rfl rfl (Rd.extract rfl rfl) ?_
  refine SWz.rd (i := 9) rfl rfl (Rd.extract rfl rfl) ?_
  refine SWz.efb (i := 10) rfl (EfB.alloc (zs := [.string ⟨#[]⟩, .int .i64 0, .slice none 0 0, .int .i64 0, .int .i64 0]) (by kernel_rfl) rfl) ?_ SWz.no
  rintro g5 _ rfl
  refine SWz.efe (i := 11) rfl (Ef.storeA 6 rfl rfl rfl (by kernel_rfl) rfl (List.mem_append_right _ (List.mem_cons_self))) ?_ SWz.no
  rintro _ rfl
  refine SWz.rd (i := 12) rfl rfl (Rd.assign rfl) ?_
  refine SWz.nil ?_
  refine SN.then ?_
  refine SW.seq ?_
  refine SW.region ?_
  refine SWl.rd rfl (Rd.move rfl) ?_
  refine SWl.rd rfl (Rd.move rfl) ?_
  refine SWl.rdg rfl rfl (rfl) rfl rfl (Rd.move rfl) ?_
  refine SWl.rdg rfl rfl (rfl) rfl rfl (Rd.fieldAddr (n := 1) rfl (by kernel_rfl)) ?_
  refine SWl.rdg rfl rfl (rfl) rfl rfl (Rd.loadB 5 rfl rfl rfl (by kernel_rfl) ap_nil) ?_
  refine SWl.rdg rfl rfl (rfl) rfl rfl (Rd.fieldAddr (n := 4) rfl (by kernel_rfl)) ?_
  refine SWl.rdg rfl rfl (rfl) rfl rfl (Rd.loadB 5 rfl rfl rfl (by kernel_rfl) ap_nil) ?_
  refine SWl.efg (S := []) rfl rfl (rfl) rfl (Ef.callN [0, 2, 1, 3] (con_taken l a.role a.num) rfl ⟨(sees_box 0 rfl (by decide) ⟨(sees_mapQ 2 rfl (by decide)), (sees_vec 1 rfl (by decide)), (sees_mapQ 3 rfl (by decide)), trivial⟩), (sees_le (Le.refl _)), (sees_le (Le.refl _)), trivial⟩ rfl) ?_
  rintro _ rfl
  refine SWl.rd rfl (Rd.pickN rfl (rfl) rfl) ?_
  refine SWl.nil ?_
  refine SN.then ?_
  refine SW.condF rfl (decide_eq_false hs) ?_
  refine SW.skip ?_
  refine SN.then ?_
  refine SW.seq ?_
  refine SW.seq ?_
  refine SW.region ?_
  refine SWl.rd rfl (Rd.move rfl) ?_
  refine SWl.rd rfl (Rd.nilCheck rfl) ?_
  refine SWl.rd rfl (Rd.fieldAddr (n := 1) rfl (by kernel_rfl)) ?_
  refine SWl.rd rfl (Rd.loadB 0 rfl rfl rfl (by kernel_rfl) ap_nil) ?_
  refine SWl.rd rfl (Rd.lenE (e := 9) rfl (by kernel_rfl)) ?_
  refine SWl.rd rfl (Rd.geq rfl rfl) ?_
  refine SWl.nil ?_
  refine SN.then ?_
  refine SW.condT rfl (by simp; omega) ?_
  refine SW.seq ?_
  refine SW.region ?_
  refine SWl.rd rfl (Rd.assign rfl) ?_
  refine SWl.nil ?_
  refine SN.then ?_
  refine SW.retR (fn := Tryd.f11) (s) [0, 1, 2, 3, 4] (fun _ _ h => h) (Rs.le (Rs.one rfl (ResV.tmp rfl)) ?_) (by decide) ⟨⟨_, rfl, ⟨Le.refl _, Le.is (by rw [Acc.add_full h (Acc.no_clash hn hs) hl]), Le.refl _, trivial⟩⟩, ⟨⟨_, rfl, leVec (by rw [Acc.add_full h (Acc.no_clash hn hs) hl]) (by rw [Acc.add_full h (Acc.no_clash hn hs) hl])⟩, ⟨⟨_, rfl, (by rw [Acc.add_full h (Acc.no_clash hn hs) hl]; exact LeR.refl _)⟩, ⟨⟨_, rfl, (by rw [Acc.add_full h (Acc.no_clash hn hs) hl]; exact LeR.refl _)⟩, ⟨⟨_, rfl, LeR.refl _⟩, trivial⟩⟩⟩⟩⟩
  exact Le.is (by rw [Acc.add_full h (Acc.no_clash hn hs) hl])
set_option maxHeartbeats 4000000 in
set_option maxRecDepth 100000 in
theorem con_add_ok (gb : Nat) (s : Bst) (l : List Acc.T) (a : Acc.T) (A : Option Addr) (c : Nat) (F : List Nat) (R : Res) (hR : IsView R (.slice A a.key.length c) (cellsOf a.key)) (hf : Acc.Fine l) (h : Acc.ok a) (hn : a.name ∉ Acc.nm l) (hs : (a.role, a.num) ∉ Acc.seats l) (hl : ¬ 256 ≤ l.length) : ConR Tryd.prog 11 [.c gb [isD (.map (s.M.map Prod.fst)), isD (.slice s.n.A (Acc.nm l).length s.n.c), isD (.map (s.M.map Prod.snd))], .r s.n.F (vecT 9 1 encT s.n.A s.n.c (Acc.nm l)), .r s.F1 (mapQ (s.M.map Prod.fst) encS (Acc.nm l) (acD l)), .r s.F2 (mapQ (s.M.map Prod.snd) encSt (Acc.seats l) (seD l)), .r F R] [isD (.pointer (some ⟨gb, 0, none⟩)), aggD [strD a.name, iD a.role, isD (.slice A a.key.length c), iD a.dep, iD a.num]] (fun t : Bst => [.c gb [isD (.map (t.M.map Prod.fst)), isD (.slice t.n.A (Acc.nm (Acc.add l a).1).length t.n.c), isD (.map (t.M.map Prod.snd))], .r t.n.F (vecT 9 1 encT t.n.A t.n.c (Acc.nm (Acc.add l a).1)), .r t.F1 (mapQ (t.M.map Prod.fst) encS (Acc.nm (Acc.add l a).1) (acD (Acc.add l a).1)), .r t.F2 (mapQ (t.M.map Prod.snd) encSt (Acc.seats (Acc.add l a).1) (seD (Acc.add l a).1)), .r F R]) (fun t : Bst => iD (Acc.add l a).2) := by
  refine con_ofR Tryd.func11 (by kernel_rfl) rfl (by kernel_rfl) fun base w0 => ?_
  refine SW.seq ?_
  refine SW.region ?_
  refine SWl.ef (S := []) (Ef.boxA rfl rfl) ?_
  rintro _ ⟨g3, rfl⟩
  refine SWl.rd rfl (Rd.assign rfl) ?_
  refine SWl.nil ?_
  refine SN.then ?_
  refine SW.seq ?_
  refine SW.seq ?_
  refine SW.region ?_
  refine SWl.rd rfl (Rd.move rfl) ?_
  refine SWl.rd rfl (Rd.eqP rfl rfl (by kernel_rfl)) ?_
  refine SWl.nil ?_
  refine SN.then ?_
  refine SW.condF rfl (rfl) ?_
  refine SW.skip ?_
  refine SN.then ?_
  refine SW.seq ?_
  refine SW.seq ?_
  refine SW.region ?_
  refine SWl.rd rfl (Rd.loadA 5 5 rfl rfl (by kernel_rfl) rfl ap_nil) ?_
  refine SWl.ef (S := []) (Ef.callN [] (con_validA a.name a.role a.key.length a.dep a.num) rfl ⟨(sees_le (Le.agg ⟨Le.refl _, Le.refl _, le_is_len, Le.refl _, Le.refl _, trivial⟩)), trivial⟩ rfl) ?_
  rintro _ rfl
  refine SWl.rd rfl (Rd.not rfl) ?_
  refine SWl.nil ?_
  refine SN.then ?_
  refine SW.condF rfl (by rw [decide_eq_true (show Acc.okN _ _ _ _ _ from h)]; rfl) ?_
  refine SW.skip ?_
  refine SN.then ?_
  refine SW.seq ?_
  refine SW.seq ?_
  refine SW.draw [] (.r 0 (.r 1 (.r 2 (.r 3 (.r 4 (.r 5 (.r 6 (.r 7 (.r 8 (.r 9 (.n 10 (.e 11 (.r 12 .fin) .no) .no))))))))))) (by kernel_rfl) (by kernel_rfl) (fun d _ _ _ _ h => by cases d <;> exact h) ?_
  refine SWz.rd (i := 0) rfl rfl (Rd.move rfl) ?_
  refine SWz.rd (i := 1) rfl rfl (Rd.nilCheck rfl) ?_
  refine SWz.rd (i := 2) rfl rfl (Rd.fieldAddr (n := 0) rfl (by kernel_rfl)) ?_
  refine SWz.rd (i := 3) rfl rfl (Rd.loadB 0 rfl rfl rfl (by kernel_rfl) ap_nil) ?_
  refine SWz.rd (i := 4) rfl rfl (Rd.fieldAddr (n := 0) rfl (by kernel_rfl)) ?_
  refine SWz.rd (i := 5) rfl rfl (Rd.loadB 5 rfl rfl rfl (by kernel_rfl) ap_nil) ?_
  refine SWz.rd (i := 6) rfl rfl ((Rd.mono (Rd.lookQN (kt := 9) (et := 33) (z := .agg #[.string ⟨#[]⟩, .int .i64 0, .slice none 0 0, .int .i64 0, .int .i64 0]) (ok := true) 2 rfl rfl rfl (Le.refl _) (by kernel_rfl) (by kernel_rfl) (keyNm _) hn ap_nil) tup_z5)) ?_
  refine SWz.rd (i := 7) rfl rfl (Rd.move rfl) ?_
  refine SWz.rd (i := 8) rfl rfl (Rd.extract rfl rfl) ?_
  refine SWz.rd (i := 9) rfl rfl (Rd.extract rfl rfl) ?_
  refine SWz.efb (i := 10) rfl (EfB.alloc (zs := [.string ⟨#[]⟩, .int .i64 0, .slice none 0 0, .int .i64 0, .int .i64 0]) (by kernel_rfl) rfl) ?_ SWz.no
  rintro g5 _ rfl
  refine SWz.efe (i := 11) rfl (Ef.storeA 6 rfl rfl rfl (by kernel_rfl) rfl (List.mem_append_right _ (List.mem_cons_self))) ?_ SWz.no
  rintro _ rfl
  refine SWz.rd (i := 12) rfl rfl (Rd.assign rfl) ?_
  refine SWz.nil ?_
  refine SN.then ?_
  refine SW.seq ?_
  refine SW.region ?_
  refine SWl.rd rfl (Rd.move rfl) ?_
  refine SWl.rd rfl (Rd.move rfl) ?_
  refine SWl.rdg rfl rfl (rfl) rfl rfl (Rd.move rfl) ?_
  refine SWl.rdg rfl rfl (rfl) rfl rfl (Rd.fieldAddr (n := 1) rfl (by kernel_rfl)) ?_
  refine SWl.rdg rfl rfl (rfl) rfl rfl (Rd.loadB 5 rfl rfl rfl (by kernel_rfl) ap_nil) ?_
  refine SWl.rdg rfl rfl (rfl) rfl rfl (Rd.fieldAddr (n := 4) rfl (by kernel_rfl)) ?_
  refine SWl.rdg rfl rfl (rfl) rfl rfl (Rd.loadB 5 rfl rfl rfl (by kernel_rfl) ap_nil) ?_
  refine SWl.efg (S := []) rfl rfl (rfl) rfl (Ef.callN [0, 2, 1, 3] (con_taken l a.role a.num) rfl ⟨(sees_box 0 rfl (by decide) ⟨(sees_mapQ 2 rfl (by decide)), (sees_vec 1 rfl (by decide)), (sees_mapQ 3 rfl (by decide)), trivial⟩), (sees_le (Le.refl _)), (sees_le (Le.refl _)), trivial⟩ rfl) ?_
  rintro _ rfl
  refine SWl.rd rfl (Rd.pickN rfl (rfl) rfl) ?_
  refine SWl.nil ?_
  refine SN.then ?_
  refine SW.condF rfl (decide_eq_false hs) ?_
  refine SW.skip ?_
  refine SN.then ?_
  refine SW.seq ?_
  refine SW.seq ?_
  refine SW.region ?_
  refine SWl.rd rfl (Rd.move rfl) ?_
  refine SWl.rd rfl (Rd.nilCheck rfl) ?_
  refine SWl.rd rfl (Rd.fieldAddr (n := 1) rfl (by kernel_rfl)) ?_
  refine SWl.rd rfl (Rd.loadB 0 rfl rfl rfl (by kernel_rfl) ap_nil) ?_
  refine SWl.rd rfl (Rd.lenE (e := 9) rfl (by kernel_rfl)) ?_
  refine SWl.rd rfl (Rd.geq rfl rfl) ?_
  refine SWl.nil ?_
  refine SN.then ?_
  refine SW.condF rfl (by simp; omega) ?_
  refine SW.skip ?_
  refine SN.then ?_
  refine SW.seq ?_
  refine SW.region ?_
  refine SWl.rd rfl (Rd.move rfl) ?_
  refine SWl.rd rfl (Rd.loadA 5 5 rfl rfl (by kernel_rfl) rfl ap_nil) ?_
  refine SWl.ef (Ef.callR [0, 1, 2, 3, 4] (con_put gb s l a A c F R hR (by have := h.2.1; omega) (by have := hf.len; omega) (Acc.free_of hf h (Acc.no_clash hn hs) (by omega))) rfl ⟨Le.refl _, Le.refl _, trivial⟩ (by decide) ⟨⟨_, rfl, LeAll.refl _⟩, ⟨⟨_, rfl, LeR.refl _⟩, ⟨⟨_, rfl, LeR.refl _⟩, ⟨⟨_, rfl, LeR.refl _⟩, ⟨⟨_, rfl, LeR.refl _⟩, trivial⟩⟩⟩⟩⟩ (fun _ h => h) rfl) ?_
  rintro _ ⟨s39, rfl⟩
  refine SWl.nil ?_
  refine SN.then ?_
  refine SW.seq ?_
  refine SW.region ?_
  refine SWl.rd rfl (Rd.assign rfl) ?_
  refine SWl.nil ?_
  refine SN.then ?_
  refine SW.retR (fn := Tryd.f11) (s39) [2, 3, 4, 5, 6] (fun _ _ h => h) (Rs.le (Rs.one rfl (ResV.tmp rfl)) ?_) (by decide) ⟨⟨_, rfl, ⟨Le.refl _, Le.is (by rw [Acc.add_ok h (Acc.no_clash hn hs) hl]), Le.refl _, trivial⟩⟩, ⟨⟨_, rfl, leVec (by rw [Acc.add_ok h (Acc.no_clash hn hs) hl]) (by rw [Acc.add_ok h (Acc.no_clash hn hs) hl])⟩, ⟨⟨_, rfl, (by rw [Acc.add_ok h (Acc.no_clash hn hs) hl]; exact LeR.refl _)⟩, ⟨⟨_, rfl, (by rw [Acc.add_ok h (Acc.no_clash hn hs) hl]; exact LeR.refl _)⟩, ⟨⟨_, rfl, LeR.refl _⟩, trivial⟩⟩⟩⟩⟩
  exact Le.is (by rw [Acc.add_ok h (Acc.no_clash hn hs) hl])
theorem con_add (gb : Nat) (s : Bst) (l : List Acc.T) (a : Acc.T) (A : Option Addr) (c : Nat) (F : List Nat) (R : Res) (hR : IsView R (.slice A a.key.length c) (cellsOf a.key)) (hf : Acc.Fine l) :
    ConR Tryd.prog 11 [bookC gb s l, bookN s l, bookA s l, bookS s l, .r F R] [isD (.pointer (some ⟨gb, 0, none⟩)), aggD [strD a.name, iD a.role, isD (.slice A a.key.length c), iD a.dep, iD a.num]]
      (fun t : Bst => [bookC gb t (Acc.add l a).1, bookN t (Acc.add l a).1, bookA t (Acc.add l a).1, bookS t (Acc.add l a).1, .r F R]) (fun _ => iD (Acc.add l a).2) := by
  by_cases h : Acc.ok a
  · by_cases hn : a.name ∈ Acc.nm l
    · exact con_add_busyn gb s l a A c F R hR hf h hn
    · by_cases hs : (a.role, a.num) ∈ Acc.seats l
      · exact con_add_busys gb s l a A c F R hR hf h hn hs
      · by_cases hl : 256 ≤ l.length
        · exact con_add_full gb s l a A c F R hR hf h hn hs hl
        · exact con_add_ok gb s l a A c F R hR hf h hn hs hl
  · exact con_add_bad gb s l a A c F R hR hf h
end Sx
end Go.Proofs.YtchbgfgboogniaaDoor
namespace Go.Proofs.YtchbgfgboogniaaDoor
open Go.RowKit
namespace Sx
section
variable {P : Program} {Γ : Cx} {σ : St} {Q : Exit → Act → World → Prop} {a : Act} {w : World}
/-- An account's key is looked at. -/
theorem SWl.lookA5 {ops : Array Oper} {lo : List Oper} (k : Nat) {d0 d1 d3 d4 : D} {b : List UInt8} (hk : σ.tm k = some (aggD [d0, d1, bD b, d3, d4])) (h : ∀ A cp, SWl P Γ ops Q lo ((⟨σ.tm, σ.bx ++ [.r [] (viewR (.slice A b.length cp) (cellsOf b))]⟩ : St).put k (aggD [d0, d1, isD (.slice A b.length cp), d3, d4]))) : SWl P Γ ops Q lo σ := fun a w hh => by
  obtain ⟨cs, hv, ha⟩ := hh.tm k _ hk
  match cs, ha with
  | [u0, u1, v, u3, u4], ha =>
    obtain ⟨h0, h1, ⟨A, c, hvv, hc, hr, hn⟩, h3, h4, -⟩ := ha
    rw [cellsOf_length] at hvv hc
    refine h A c a w ?_
    have h5 := hh.more (Only.refl [] w) (b := .r [] (viewR (.slice A b.length c) (cellsOf b))) ⟨⟨A, c, by rw [cellsOf_length], by rw [cellsOf_length]; exact hc, hr, fun h0 p hp => .inr (hn h0 p hp)⟩, by simp⟩ (by simp [Box.fp]) (by simp [Box.fp])
    have hL : ∀ x ∈ St.L Γ ⟨σ.tm, σ.bx ++ [.r [] (viewR (.slice A b.length c) (cellsOf b))]⟩, x ∈ σ.L Γ ∨ w.heap.size ≤ x := fun x hx => .inl (by simpa [St.L, fps, Box.fp] using hx)
    exact h5.learn ⟨[u0, u1, v, u3, u4], hv, D.less _ h0 hL, D.less _ h1 hL, hvv, D.less _ h3 hL, D.less _ h4 hL, trivial⟩
theorem SWz.lookA5 {l : List Oper} {S : List Nat} {tz : Reg.Tz} (k : Nat) {d0 d1 d3 d4 : D} {b : List UInt8} (hk : σ.tm k = some (aggD [d0, d1, bD b, d3, d4])) (h : ∀ A cp, SWz P Γ l Q S tz ((⟨σ.tm, σ.bx ++ [.r [] (viewR (.slice A b.length cp) (cellsOf b))]⟩ : St).put k (aggD [d0, d1, isD (.slice A b.length cp), d3, d4]))) : SWz P Γ l Q S tz σ := fun a w hh => by
  obtain ⟨cs, hv, ha⟩ := hh.tm k _ hk
  match cs, ha with
  | [u0, u1, v, u3, u4], ha =>
    obtain ⟨h0, h1, ⟨A, c, hvv, hc, hr, hn⟩, h3, h4, -⟩ := ha
    rw [cellsOf_length] at hvv hc
    refine h A c a w ?_
    have h5 := hh.more (Only.refl [] w) (b := .r [] (viewR (.slice A b.length c) (cellsOf b))) ⟨⟨A, c, by rw [cellsOf_length], by rw [cellsOf_length]; exact hc, hr, fun h0 p hp => .inr (hn h0 p hp)⟩, by simp⟩ (by simp [Box.fp]) (by simp [Box.fp])
    have hL : ∀ x ∈ St.L Γ ⟨σ.tm, σ.bx ++ [.r [] (viewR (.slice A b.length c) (cellsOf b))]⟩, x ∈ σ.L Γ ∨ w.heap.size ≤ x := fun x hx => .inl (by simpa [St.L, fps, Box.fp] using hx)
    exact h5.learn ⟨[u0, u1, v, u3, u4], hv, D.less _ h0 hL, D.less _ h1 hL, hvv, D.less _ h3 hL, D.less _ h4 hL, trivial⟩
end
theorem while_all {α : Type} {p : α → Bool} : ∀ {l : List α}, (∀ x ∈ l, p x = true) → l.takeWhile p = l ∧ l.dropWhile p = []
  | [], _ => ⟨rfl, rfl⟩
  | x :: l, h => by
    obtain ⟨h1, h2⟩ := while_all (l := l) (fun y hy => h y (List.mem_cons_of_mem _ hy))
    have h3 := h x List.mem_cons_self
    exact ⟨by rw [List.takeWhile_cons, if_pos h3, h1], by rw [List.dropWhile_cons, if_pos h3, h2]⟩
theorem bldBk0 : Bld Tryd.prog 30 [] [] [isD (.map none), isD (.slice none 0 0), isD (.map none)] := fun L w vs h => by
  obtain rfl := all0 h
  exact ⟨[.map none, .slice none 0 0, .map none], ⟨rfl, rfl, rfl, trivial⟩, fun w' => by kernel_rfl⟩
end Sx
end Go.Proofs.YtchbgfgboogniaaDoor
