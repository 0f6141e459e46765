/-
  ACCOUNTS: put.
  ACCOUNTS: put, in one.
  ACCOUNTS: taken, Get, Of, Len, Units.
-/
import Derived.Test.YtchbgfgboogniaaDoorGX
namespace Go.Proofs.YtchbgfgboogniaaDoor
open Go.RowKit
namespace Sx
set_option maxHeartbeats 4000000 in
set_option maxRecDepth 100000 in
theorem con_put0 (gb : Nat) (n : Ust) (F1 F2 : List Nat) (l : List Acc.T) (a : Acc.T) (A : Option Addr) (c : Nat) (F : List Nat) (R : Res) (hR : IsView R (.slice A a.key.length c) (cellsOf a.key)) (hb : a.key.length ≤ 1000000) (hl : l.length ≤ 100000) (hf : Acc.Free l a) : ConR Tryd.prog 45 [.c gb [isD (.map none), isD (.slice n.A (Acc.nm l).length n.c), isD (.map none)], .r n.F (vecT 9 1 encT n.A n.c (Acc.nm l)), .r F1 (mapQ none encS (Acc.nm l) (acD l)), .r F2 (mapQ none encSt (Acc.seats l) (seD l)), .r F R] [isD (.pointer (some ⟨gb, 0, none⟩)), aggD [strD a.name, iD a.role, isD (.slice A a.key.length c), iD a.dep, iD a.num]] (fun t : Nat × Nat × Ust × List Nat × List Nat => [.c gb [isD (.map (some t.1)), isD (.slice t.2.2.1.A (Acc.nm (Acc.ins l a)).length t.2.2.1.c), isD (.map (some t.2.1))], .r t.2.2.1.F (vecT 9 1 encT t.2.2.1.A t.2.2.1.c (Acc.nm (Acc.ins l a))), .r t.2.2.2.1 (mapQ (some t.1) encS (Acc.nm (Acc.ins l a)) (acD (Acc.ins l a))), .r t.2.2.2.2 (mapQ (some t.2.1) encSt (Acc.seats (Acc.ins l a)) (seD (Acc.ins l a))), .r F R]) (fun t : Nat × Nat × Ust × List Nat × List Nat => isD (.tuple #[])) := by
  have hin : Acc.nm (Acc.ins l a) = (Acc.nm l).take (Acc.pos l a.name) ++ a.name :: (Acc.nm l).drop (Acc.pos l a.name) := Acc.names_ins l a
  have hpl := Acc.pos_le l a.name
  have hil : (Acc.nm (Acc.ins l a)).length = (Acc.nm l).length + 1 := by simp [Acc.ins_len]
  refine con_ofR Tryd.func45 (by kernel_rfl) rfl (by kernel_rfl) fun base w0 => ?_
  refine SW.seq ?_
  refine SW.mapQNil 2 rfl fun h0 => ?_
  have hl0 : l = [] := by simpa using h0
  have hs0 : Acc.seats l = [] := by rw [hl0]; rfl
  refine SW.region ?_
  refine SWl.ef (S := []) (Ef.boxA rfl rfl) ?_
  rintro _ ⟨g3, rfl⟩
  refine SWl.nil ?_
  refine SN.then ?_
  refine SW.seq ?_
  refine SW.seq ?_
  refine SW.region ?_
  refine SWl.rd rfl (Rd.move rfl) ?_
  refine SWl.rd rfl (Rd.nilCheck rfl) ?_
  refine SWl.rd rfl (Rd.fieldAddr (n := 0) rfl (by kernel_rfl)) ?_
  refine SWl.rd rfl (Rd.loadB 0 rfl rfl rfl (by kernel_rfl) ap_nil) ?_
  refine SWl.rd rfl (Rd.eqM (kt := 9) (et := 33) rfl rfl (by kernel_rfl)) ?_
  refine SWl.nil ?_
  refine SN.then ?_
  refine SW.condT rfl (rfl) ?_
  refine SW.region ?_
  refine SWl.rd rfl (Rd.move rfl) ?_
  refine SWl.rd rfl (Rd.move rfl) ?_
  refine SWl.ef (S := []) (Ef.makeMapQ (enc := encS) (acD (Acc.ins l a)) rfl) ?_
  rintro _ ⟨g13, rfl⟩
  refine SWl.ef (S := []) (Ef.makeMapQ (enc := encSt) (seD (Acc.ins l a)) rfl) ?_
  rintro _ ⟨g14, rfl⟩
  refine SWl.rd rfl (Rd.nilCheck rfl) ?_
  refine SWl.rd rfl (Rd.fieldAddr (n := 0) rfl (by kernel_rfl)) ?_
  refine SWl.ef (S := [_]) (Ef.storeV 0 rfl rfl rfl (by kernel_rfl) rfl (List.mem_singleton.2 rfl)) ?_
  rintro _ rfl
  refine SWl.rd rfl (Rd.nilCheck rfl) ?_
  refine SWl.rd rfl (Rd.fieldAddr (n := 2) rfl (by kernel_rfl)) ?_
  refine SWl.ef (S := [_]) (Ef.storeV 0 rfl rfl rfl (by kernel_rfl) rfl (List.mem_singleton.2 rfl)) ?_
  rintro _ rfl
  refine SWl.nil ?_
  refine SN.then ?_
  refine SW.seq ?_
  refine SW.sub (σ' := St.ob [(0, isD (.pointer (some ⟨gb, 0, none⟩))), (3, isD (.pointer (some ⟨g3, 0, none⟩)))] [.c gb [isD (.map (some g13)), isD (.slice n.A (Acc.nm l).length n.c), isD (.map (some g14))], .r n.F (vecT 9 1 encT n.A n.c (Acc.nm l)), .r [g13] (mapQ (some g13) encS [] (acD (Acc.ins l a))), .r [g14] (mapQ (some g14) encSt [] (seD (Acc.ins l a))), .c g3 [strD a.name, iD a.role, isD (.slice A a.key.length c), iD a.dep, iD a.num], .r F R]) (⟨⟨_, rfl, ⟨⟨_, rfl, Le.refl _⟩, ⟨⟨_, rfl, Le.refl _⟩, trivial⟩⟩⟩, [0, 1, 6, 7, 5, 4], by decide, ⟨⟨_, rfl, LeAll.refl _⟩, ⟨⟨_, rfl, LeR.refl _⟩, ⟨⟨_, rfl, LeR.refl _⟩, ⟨⟨_, rfl, LeR.refl _⟩, ⟨⟨_, rfl, LeAll.refl _⟩, ⟨⟨_, rfl, LeR.refl _⟩, trivial⟩⟩⟩⟩⟩⟩⟩) ?_
  refine SW.draw ([g13] ++ []) (.r 0 (.r 1 (.r 2 (.r 3 (.r 4 (.r 5 (.r 6 (.n 7 (.e 8 .fin .no) .no)))))))) (by kernel_rfl) (by kernel_rfl) (fun d _ _ _ _ h => by cases d <;> exact h) ?_
  refine SWz.rd (i := 0) rfl rfl (Rd.move rfl) ?_
  refine SWz.rd (i := 1) rfl rfl (Rd.nilCheck rfl) ?_
  refine SWz.rd (i := 2) rfl rfl (Rd.fieldAddr (n := 0) rfl (by kernel_rfl)) ?_
  refine SWz.rd (i := 3) rfl rfl (Rd.loadB 0 rfl rfl rfl (by kernel_rfl) (ap_app 2 rfl (by decide) ap_nil)) ?_
  refine SWz.rd (i := 4) rfl rfl (Rd.fieldAddr (n := 0) rfl (by kernel_rfl)) ?_
  refine SWz.rd (i := 5) rfl rfl (Rd.loadB 4 rfl rfl rfl (by kernel_rfl) (ap_app 2 rfl (by decide) ap_nil)) ?_
  refine SWz.rd (i := 6) rfl rfl (Rd.loadA 4 5 rfl rfl (by kernel_rfl) rfl (ap_app 2 rfl (by decide) ap_nil)) ?_
  refine SWz.efn (i := 7) rfl (Ef.callN [5] (con_copied a.name a.role a.key a.dep a.num hb) rfl ⟨(sees_agg ⟨(sees_le (Le.refl _)), (sees_le (Le.refl _)), (sees_view 5 rfl hR (by decide)), (sees_le (Le.refl _)), (sees_le (Le.refl _)), trivial⟩), trivial⟩ rfl) ?_ SWz.no
  rintro _ rfl
  refine SWz.efe (i := 8) rfl (Ef.mapNewQ (kt := 9) (et := 33) 2 rfl rfl rfl (Le.refl _) rfl (by rw [acD_mem (Acc.find_ins hf.fine'.srt)]; exact Le.refl _) (by kernel_rfl) (keyNm _) (by simp) (fun _ h => List.mem_append_left _ h)) ?_ SWz.no
  rintro _ rfl
  refine SWz.nil ?_
  refine SN.then ?_
  refine SW.seq ?_
  refine SW.sub (σ' := St.ob [(0, isD (.pointer (some ⟨gb, 0, none⟩))), (3, isD (.pointer (some ⟨g3, 0, none⟩)))] [.c gb [isD (.map (some g13)), isD (.slice n.A (Acc.nm l).length n.c), isD (.map (some g14))], .r n.F (vecT 9 1 encT n.A n.c (Acc.nm l)), .r [g13] (mapQ (some g13) encS (a.name :: []) (acD (Acc.ins l a))), .r [g14] (mapQ (some g14) encSt [] (seD (Acc.ins l a))), .c g3 [strD a.name, iD a.role, isD (.slice A a.key.length c), iD a.dep, iD a.num], .r F R]) (⟨⟨_, rfl, ⟨⟨_, rfl, Le.refl _⟩, ⟨⟨_, rfl, Le.refl _⟩, trivial⟩⟩⟩, [0, 1, 5, 2, 3, 4], by decide, ⟨⟨_, rfl, LeAll.refl _⟩, ⟨⟨_, rfl, LeR.refl _⟩, ⟨⟨_, rfl, LeR.refl _⟩, ⟨⟨_, rfl, LeR.refl _⟩, ⟨⟨_, rfl, LeAll.refl _⟩, ⟨⟨_, rfl, LeR.refl _⟩, trivial⟩⟩⟩⟩⟩⟩⟩) ?_
  refine SW.draw [] (.r 0 (.r 1 (.r 2 (.r 3 (.r 4 (.r 5 (.n 6 (.r 7 (.r 8 (.r 9 (.r 10 (.r 11 .fin))))) .no))))))) (by kernel_rfl) (by kernel_rfl) (fun d _ _ _ _ h => by cases d <;> exact h) ?_
  refine SWz.rd (i := 0) rfl rfl (Rd.move rfl) ?_
  refine SWz.rd (i := 1) rfl rfl (Rd.nilCheck rfl) ?_
  refine SWz.rd (i := 2) rfl rfl (Rd.fieldAddr (n := 1) rfl (by kernel_rfl)) ?_
  refine SWz.rd (i := 3) rfl rfl (Rd.loadB 0 rfl rfl rfl (by kernel_rfl) ap_nil) ?_
  refine SWz.rd (i := 4) rfl rfl (Rd.fieldAddr (n := 0) rfl (by kernel_rfl)) ?_
  refine SWz.rd (i := 5) rfl rfl (Rd.loadB 4 rfl rfl rfl (by kernel_rfl) ap_nil) ?_
  refine SWz.efn (i := 6) rfl (Ef.callN [1] ((con_search lays26 l a.name hf.fine.srt (by omega))) rfl ⟨(sees_vec 1 rfl (by decide)), (sees_le (Le.refl _)), trivial⟩ rfl) ?_ SWz.no
  rintro _ rfl
  refine SWz.rd (i := 7) rfl rfl (Rd.move rfl) ?_
  refine SWz.rd (i := 8) rfl rfl (Rd.extract rfl rfl) ?_
  refine SWz.rd (i := 9) rfl rfl (Rd.extract rfl rfl) ?_
  refine SWz.rd (i := 10) rfl rfl (Rd.assign rfl) ?_
  refine SWz.rd (i := 11) rfl rfl (Rd.assign rfl) ?_
  refine SWz.nil ?_
  refine SN.then ?_
  refine SW.seq ?_
  refine SW.sub (σ' := St.ob [(0, isD (.pointer (some ⟨gb, 0, none⟩))), (3, isD (.pointer (some ⟨g3, 0, none⟩))), (4, iD (Acc.pos l a.name : Int))] [.c gb [isD (.map (some g13)), isD (.slice n.A (Acc.nm l).length n.c), isD (.map (some g14))], .r n.F (vecT 9 1 encT n.A n.c (Acc.nm l)), .r [g13] (mapQ (some g13) encS (a.name :: []) (acD (Acc.ins l a))), .r [g14] (mapQ (some g14) encSt [] (seD (Acc.ins l a))), .c g3 [strD a.name, iD a.role, isD (.slice A a.key.length c), iD a.dep, iD a.num], .r F R]) (⟨⟨_, rfl, ⟨⟨_, rfl, Le.refl _⟩, ⟨⟨_, rfl, Le.refl _⟩, ⟨⟨_, rfl, Le.refl _⟩, trivial⟩⟩⟩⟩, [0, 1, 2, 3, 4, 5], by decide, ⟨⟨_, rfl, LeAll.refl _⟩, ⟨⟨_, rfl, LeR.refl _⟩, ⟨⟨_, rfl, LeR.refl _⟩, ⟨⟨_, rfl, LeR.refl _⟩, ⟨⟨_, rfl, LeAll.refl _⟩, ⟨⟨_, rfl, LeR.refl _⟩, trivial⟩⟩⟩⟩⟩⟩⟩) ?_
  refine SW.draw (n.F ++ (gb :: [])) (.r 0 (.r 1 (.r 2 (.r 3 (.q 4 (.r 5 (.r 6 (.r 7 (.n 8 (.e 9 (.r 10 (.r 11 (.e 12 .fin .no))) .no) .no))))))))) (by kernel_rfl) (by kernel_rfl) (fun d _ _ _ _ h => by cases d <;> exact h) ?_
  refine SWz.rd (i := 0) rfl rfl (Rd.move rfl) ?_
  refine SWz.rd (i := 1) rfl rfl (Rd.move rfl) ?_
  refine SWz.rd (i := 2) rfl rfl (Rd.nilCheck rfl) ?_
  refine SWz.rd (i := 3) rfl rfl (Rd.fieldAddr (n := 1) rfl (by kernel_rfl)) ?_
  refine SWz.rq (i := 4) rfl rfl (Rd.loadB 0 rfl rfl rfl (by kernel_rfl) ap_nil) ?_
  refine SWz.rd (i := 5) rfl rfl (Rd.move rfl) ?_
  refine SWz.rd (i := 6) rfl rfl (Rd.fieldAddr (n := 0) rfl (by kernel_rfl)) ?_
  refine SWz.rd (i := 7) rfl rfl (Rd.loadB 4 rfl rfl rfl (by kernel_rfl) (ap_app 1 rfl (by decide) (ap_cons 0 rfl (by decide) ap_nil))) ?_
  refine SWz.efn (i := 8) rfl (Ef.litB (e := 9) [encS a.name] rfl rfl (fun L w vs hv => by obtain ⟨u, rfl, rfl⟩ := all1 hv; intro w'; kernel_rfl) rfl) ?_ SWz.no
  rintro _ rfl
  refine SWz.efe (i := 9) rfl (Ef.callR [1] ((con_insert lays22 (Acc.nm l) n a.name (Acc.pos l a.name) (by simpa using hpl) (by simpa using (by omega : l.length ≤ 1000000)))) rfl ⟨Le.refl _, Le.refl _, Le.refl _, trivial⟩ (by decide) ⟨⟨_, rfl, LeR.refl _⟩, trivial⟩ (fin_r (fun _ h => List.mem_append_left _ h) fin_nil) rfl) ?_ SWz.no
  rintro _ ⟨t46, rfl⟩
  refine SWz.rd (i := 10) rfl rfl (Rd.nilCheck rfl) ?_
  refine SWz.rd (i := 11) rfl rfl (Rd.fieldAddr (n := 1) rfl (by kernel_rfl)) ?_
  refine SWz.efe (i := 12) rfl (Ef.storeV 0 rfl rfl rfl (by kernel_rfl) rfl (List.mem_append_right _ (List.mem_cons_self))) ?_ SWz.no
  rintro _ rfl
  refine SWz.nil ?_
  refine SN.then ?_
  refine SW.seq ?_
  refine SW.sub (σ' := St.ob [(0, isD (.pointer (some ⟨gb, 0, none⟩))), (3, isD (.pointer (some ⟨g3, 0, none⟩)))] [.c gb [isD (.map (some g13)), isD (.slice t46.A (Acc.nm (Acc.ins l a)).length t46.c), isD (.map (some g14))], .r t46.F (vecT 9 1 encT t46.A t46.c (Acc.nm (Acc.ins l a))), .r [g13] (mapQ (some g13) encS (a.name :: []) (acD (Acc.ins l a))), .r [g14] (mapQ (some g14) encSt [] (seD (Acc.ins l a))), .c g3 [strD a.name, iD a.role, isD (.slice A a.key.length c), iD a.dep, iD a.num], .r F R]) (⟨⟨_, rfl, ⟨⟨_, rfl, Le.refl _⟩, ⟨⟨_, rfl, Le.refl _⟩, trivial⟩⟩⟩, [0, 5, 1, 2, 3, 4], by decide, ⟨⟨_, rfl, ⟨Le.refl _, Le.is (by rw [hil]), Le.refl _, trivial⟩⟩, ⟨⟨_, rfl, leVec (by rw [hin]) (by rw [hin])⟩, ⟨⟨_, rfl, LeR.refl _⟩, ⟨⟨_, rfl, LeR.refl _⟩, ⟨⟨_, rfl, LeAll.refl _⟩, ⟨⟨_, rfl, LeR.refl _⟩, trivial⟩⟩⟩⟩⟩⟩⟩) ?_
  refine SW.region ?_
  refine SWl.rd rfl (Rd.fieldAddr (n := 1) rfl (by kernel_rfl)) ?_
  refine SWl.rd rfl (Rd.loadB 4 rfl rfl rfl (by kernel_rfl) ap_nil) ?_
  refine SWl.rd rfl (Rd.nei rfl rfl) ?_
  refine SWl.nil ?_
  refine SN.then ?_
  refine SW.cond rfl (fun hb51 => ?_) (fun hb51 => ?_)
  · have h51 : a.role ≠ 3 := by simpa using hb51
    refine SW.draw ([g14] ++ []) (.r 0 (.r 1 (.r 2 (.r 3 (.r 4 (.r 5 (.r 6 (.r 7 (.r 8 (.r 9 (.r 10 (.e 11 .fin .no)))))))))))) (by kernel_rfl) (by kernel_rfl) (fun d _ _ _ _ h => by cases d <;> exact h) ?_
    refine SWz.rd (i := 0) rfl rfl (Rd.move rfl) ?_
    refine SWz.rd (i := 1) rfl rfl (Rd.nilCheck rfl) ?_
    refine SWz.rd (i := 2) rfl rfl (Rd.fieldAddr (n := 2) rfl (by kernel_rfl)) ?_
    refine SWz.rd (i := 3) rfl rfl (Rd.loadB 0 rfl rfl rfl (by kernel_rfl) (ap_app 3 rfl (by decide) ap_nil)) ?_
    refine SWz.rd (i := 4) rfl rfl (Rd.fieldAddr (n := 1) rfl (by kernel_rfl)) ?_
    refine SWz.rd (i := 5) rfl rfl (Rd.loadB 4 rfl rfl rfl (by kernel_rfl) (ap_app 3 rfl (by decide) ap_nil)) ?_
    refine SWz.rd (i := 6) rfl rfl (Rd.fieldAddr (n := 4) rfl (by kernel_rfl)) ?_
    refine SWz.rd (i := 7) rfl rfl (Rd.loadB 4 rfl rfl rfl (by kernel_rfl) (ap_app 3 rfl (by decide) ap_nil)) ?_
    refine SWz.rd (i := 8) rfl rfl (Rd.build rfl rfl bldSt2) ?_
    refine SWz.rd (i := 9) rfl rfl (Rd.fieldAddr (n := 0) rfl (by kernel_rfl)) ?_
    refine SWz.rd (i := 10) rfl rfl (Rd.loadB 4 rfl rfl rfl (by kernel_rfl) (ap_app 3 rfl (by decide) ap_nil)) ?_
    refine SWz.efe (i := 11) rfl (Ef.mapNewQ (kt := 136) (et := 9) 3 rfl rfl rfl (le_seat _ _) rfl (by rw [seD_mem (Acc.seat_mem hf.fine' (Acc.mem_ins.2 (.inl rfl)) h51)]; exact Le.refl _) (by kernel_rfl) (keySt _) (by simp) (fun _ h => List.mem_append_left _ h)) ?_ SWz.no
    rintro _ rfl
    refine SWz.nil ?_
    refine SN.retR (fn := Tryd.f45) (⟨g13, g14, t46, [g13], [g14]⟩) [0, 1, 2, 5, 4] (Rs.none rfl) (by decide) ⟨⟨_, rfl, LeAll.refl _⟩, ⟨⟨_, rfl, LeR.refl _⟩, ⟨⟨_, rfl, leMapQ (fun k => by rw [← Acc.mem_names_ins]; simp [h0]) (fun _ _ => Le.refl _)⟩, ⟨⟨_, rfl, leMapQ (fun k => by rw [← Acc.mem_seats_ins h51]; simp [hs0]) (fun _ _ => Le.refl _)⟩, ⟨⟨_, rfl, LeR.refl _⟩, trivial⟩⟩⟩⟩⟩
  · have h51 : a.role = 3 := by simpa using hb51
    refine SW.skip ?_
    refine SN.retR (fn := Tryd.f45) (⟨g13, g14, t46, [g13], [g14]⟩) [0, 1, 2, 3, 5] (Rs.none rfl) (by decide) ⟨⟨_, rfl, LeAll.refl _⟩, ⟨⟨_, rfl, LeR.refl _⟩, ⟨⟨_, rfl, leMapQ (fun k => by rw [← Acc.mem_names_ins]; simp [h0]) (fun _ _ => Le.refl _)⟩, ⟨⟨_, rfl, leMapQ (fun k => by rw [← Acc.mem_seats_ins3 h51]; simp [hs0]) (fun _ _ => Le.refl _)⟩, ⟨⟨_, rfl, LeR.refl _⟩, trivial⟩⟩⟩⟩⟩
set_option maxHeartbeats 4000000 in
set_option maxRecDepth 100000 in
theorem con_put1 (gb g1 g2 : Nat) (n : Ust) (F1 F2 : List Nat) (l : List Acc.T) (a : Acc.T) (A : Option Addr) (c : Nat) (F : List Nat) (R : Res) (hR : IsView R (.slice A a.key.length c) (cellsOf a.key)) (hb : a.key.length ≤ 1000000) (hl : l.length ≤ 100000) (hf : Acc.Free l a) : ConR Tryd.prog 45 [.c gb [isD (.map (some g1)), isD (.slice n.A (Acc.nm l).length n.c), isD (.map (some g2))], .r n.F (vecT 9 1 encT n.A n.c (Acc.nm l)), .r F1 (mapQ (some g1) encS (Acc.nm l) (acD l)), .r F2 (mapQ (some g2) encSt (Acc.seats l) (seD l)), .r F R] [isD (.pointer (some ⟨gb, 0, none⟩)), aggD [strD a.name, iD a.role, isD (.slice A a.key.length c), iD a.dep, iD a.num]] (fun t : Nat × Nat × Ust × List Nat × List Nat => [.c gb [isD (.map (some t.1)), isD (.slice t.2.2.1.A (Acc.nm (Acc.ins l a)).length t.2.2.1.c), isD (.map (some t.2.1))], .r t.2.2.1.F (vecT 9 1 encT t.2.2.1.A t.2.2.1.c (Acc.nm (Acc.ins l a))), .r t.2.2.2.1 (mapQ (some t.1) encS (Acc.nm (Acc.ins l a)) (acD (Acc.ins l a))), .r t.2.2.2.2 (mapQ (some t.2.1) encSt (Acc.seats (Acc.ins l a)) (seD (Acc.ins l a))), .r F R]) (fun t : Nat × Nat × Ust × List Nat × List Nat => isD (.tuple #[])) := by
  have hin : Acc.nm (Acc.ins l a) = (Acc.nm l).take (Acc.pos l a.name) ++ a.name :: (Acc.nm l).drop (Acc.pos l a.name) := Acc.names_ins l a
  have hpl := Acc.pos_le l a.name
  have hil : (Acc.nm (Acc.ins l a)).length = (Acc.nm l).length + 1 := by simp [Acc.ins_len]
  refine con_ofR Tryd.func45 (by kernel_rfl) rfl (by kernel_rfl) fun base w0 => ?_
  refine SW.seq ?_
  refine SW.region ?_
  refine SWl.ef (S := []) (Ef.boxA rfl rfl) ?_
  rintro _ ⟨g3, rfl⟩
  refine SWl.nil ?_
  refine SN.then ?_
  refine SW.seq ?_
  refine SW.seq ?_
  refine SW.region ?_
  refine SWl.rd rfl (Rd.move rfl) ?_
  refine SWl.rd rfl (Rd.nilCheck rfl) ?_
  refine SWl.rd rfl (Rd.fieldAddr (n := 0) rfl (by kernel_rfl)) ?_
  refine SWl.rd rfl (Rd.loadB 0 rfl rfl rfl (by kernel_rfl) ap_nil) ?_
  refine SWl.rd rfl (Rd.eqM (kt := 9) (et := 33) rfl rfl (by kernel_rfl)) ?_
  refine SWl.nil ?_
  refine SN.then ?_
  refine SW.condF rfl (rfl) ?_
  refine SW.skip ?_
  refine SN.then ?_
  refine SW.seq ?_
  refine SW.sub (σ' := St.ob [(0, isD (.pointer (some ⟨gb, 0, none⟩))), (3, isD (.pointer (some ⟨g3, 0, none⟩)))] [.c gb [isD (.map (some g1)), isD (.slice n.A (Acc.nm l).length n.c), isD (.map (some g2))], .r n.F (vecT 9 1 encT n.A n.c (Acc.nm l)), .r F1 (mapQ (some g1) encS (Acc.nm l) (acD (Acc.ins l a))), .r F2 (mapQ (some g2) encSt (Acc.seats l) (seD (Acc.ins l a))), .c g3 [strD a.name, iD a.role, isD (.slice A a.key.length c), iD a.dep, iD a.num], .r F R]) (⟨⟨_, rfl, ⟨⟨_, rfl, Le.refl _⟩, ⟨⟨_, rfl, Le.refl _⟩, trivial⟩⟩⟩, [0, 1, 2, 3, 5, 4], by decide, ⟨⟨_, rfl, LeAll.refl _⟩, ⟨⟨_, rfl, LeR.refl _⟩, ⟨⟨_, rfl, leMapQ (fun _ => Iff.rfl) (fun k hk => acD_eq (Acc.find_ins' hf.fine.srt hf.fine'.srt hk))⟩, ⟨⟨_, rfl, leMapQ (fun _ => Iff.rfl) (fun k hk => seD_eq (Acc.seat_ins' hf.fine hf.fine' hk))⟩, ⟨⟨_, rfl, LeAll.refl _⟩, ⟨⟨_, rfl, LeR.refl _⟩, trivial⟩⟩⟩⟩⟩⟩⟩) ?_
  refine SW.draw (F1 ++ []) (.r 0 (.r 1 (.r 2 (.r 3 (.r 4 (.r 5 (.r 6 (.n 7 (.e 8 .fin .no) .no)))))))) (by kernel_rfl) (by kernel_rfl) (fun d _ _ _ _ h => by cases d <;> exact h) ?_
  refine SWz.rd (i := 0) rfl rfl (Rd.move rfl) ?_
  refine SWz.rd (i := 1) rfl rfl (Rd.nilCheck rfl) ?_
  refine SWz.rd (i := 2) rfl rfl (Rd.fieldAddr (n := 0) rfl (by kernel_rfl)) ?_
  refine SWz.rd (i := 3) rfl rfl (Rd.loadB 0 rfl rfl rfl (by kernel_rfl) (ap_app 2 rfl (by decide) ap_nil)) ?_
  refine SWz.rd (i := 4) rfl rfl (Rd.fieldAddr (n := 0) rfl (by kernel_rfl)) ?_
  refine SWz.rd (i := 5) rfl rfl (Rd.loadB 4 rfl rfl rfl (by kernel_rfl) (ap_app 2 rfl (by decide) ap_nil)) ?_
  refine SWz.rd (i := 6) rfl rfl (Rd.loadA 4 5 rfl rfl (by kernel_rfl) rfl (ap_app 2 rfl (by decide) ap_nil)) ?_
  refine SWz.efn (i := 7) rfl (Ef.callN [5] (con_copied a.name a.role a.key a.dep a.num hb) rfl ⟨(sees_agg ⟨(sees_le (Le.refl _)), (sees_le (Le.refl _)), (sees_view 5 rfl hR (by decide)), (sees_le (Le.refl _)), (sees_le (Le.refl _)), trivial⟩), trivial⟩ rfl) ?_ SWz.no
  rintro _ rfl
  refine SWz.efe (i := 8) rfl (Ef.mapNewQ (kt := 9) (et := 33) 2 rfl rfl rfl (Le.refl _) rfl (by rw [acD_mem (Acc.find_ins hf.fine'.srt)]; exact Le.refl _) (by kernel_rfl) (keyNm _) hf.nm (fun _ h => List.mem_append_left _ h)) ?_ SWz.no
  rintro _ rfl
  refine SWz.nil ?_
  refine SN.then ?_
  refine SW.seq ?_
  refine SW.sub (σ' := St.ob [(0, isD (.pointer (some ⟨gb, 0, none⟩))), (3, isD (.pointer (some ⟨g3, 0, none⟩)))] [.c gb [isD (.map (some g1)), isD (.slice n.A (Acc.nm l).length n.c), isD (.map (some g2))], .r n.F (vecT 9 1 encT n.A n.c (Acc.nm l)), .r F1 (mapQ (some g1) encS (a.name :: (Acc.nm l)) (acD (Acc.ins l a))), .r F2 (mapQ (some g2) encSt (Acc.seats l) (seD (Acc.ins l a))), .c g3 [strD a.name, iD a.role, isD (.slice A a.key.length c), iD a.dep, iD a.num], .r F R]) (⟨⟨_, rfl, ⟨⟨_, rfl, Le.refl _⟩, ⟨⟨_, rfl, Le.refl _⟩, trivial⟩⟩⟩, [0, 1, 5, 2, 3, 4], by decide, ⟨⟨_, rfl, LeAll.refl _⟩, ⟨⟨_, rfl, LeR.refl _⟩, ⟨⟨_, rfl, LeR.refl _⟩, ⟨⟨_, rfl, LeR.refl _⟩, ⟨⟨_, rfl, LeAll.refl _⟩, ⟨⟨_, rfl, LeR.refl _⟩, trivial⟩⟩⟩⟩⟩⟩⟩) ?_
  refine SW.draw [] (.r 0 (.r 1 (.r 2 (.r 3 (.r 4 (.r 5 (.n 6 (.r 7 (.r 8 (.r 9 (.r 10 (.r 11 .fin))))) .no))))))) (by kernel_rfl) (by kernel_rfl) (fun d _ _ _ _ h => by cases d <;> exact h) ?_
  refine SWz.rd (i := 0) rfl rfl (Rd.move rfl) ?_
  refine SWz.rd (i := 1) rfl rfl (Rd.nilCheck rfl) ?_
  refine SWz.rd (i := 2) rfl rfl (Rd.fieldAddr (n := 1) rfl (by kernel_rfl)) ?_
  refine SWz.rd (i := 3) rfl rfl (Rd.loadB 0 rfl rfl rfl (by kernel_rfl) ap_nil) ?_
  refine SWz.rd (i := 4) rfl rfl (Rd.fieldAddr (n := 0) rfl (by kernel_rfl)) ?_
  refine SWz.rd (i := 5) rfl rfl (Rd.loadB 4 rfl rfl rfl (by kernel_rfl) ap_nil) ?_
  refine SWz.efn (i := 6) rfl (Ef.callN [1] ((con_search lays26 l a.name hf.fine.srt (by omega))) rfl ⟨(sees_vec 1 rfl (by decide)), (sees_le (Le.refl _)), trivial⟩ rfl) ?_ SWz.no
  rintro _ rfl
  refine SWz.rd (i := 7) rfl rfl (Rd.move rfl) ?_
  refine SWz.rd (i := 8) rfl rfl (Rd.extract rfl rfl) ?_
  refine SWz.rd (i := 9) rfl rfl (Rd.extract rfl rfl) ?_
  refine SWz.rd (i := 10) rfl rfl (Rd.assign rfl) ?_
  refine SWz.rd (i := 11) rfl rfl (Rd.assign rfl) ?_
  refine SWz.nil ?_
  refine SN.then ?_
  refine SW.seq ?_
  refine SW.sub (σ' := St.ob [(0, isD (.pointer (some ⟨gb, 0, none⟩))), (3, isD (.pointer (some ⟨g3, 0, none⟩))), (4, iD (Acc.pos l a.name : Int))] [.c gb [isD (.map (some g1)), isD (.slice n.A (Acc.nm l).length n.c), isD (.map (some g2))], .r n.F (vecT 9 1 encT n.A n.c (Acc.nm l)), .r F1 (mapQ (some g1) encS (a.name :: (Acc.nm l)) (acD (Acc.ins l a))), .r F2 (mapQ (some g2) encSt (Acc.seats l) (seD (Acc.ins l a))), .c g3 [strD a.name, iD a.role, isD (.slice A a.key.length c), iD a.dep, iD a.num], .r F R]) (⟨⟨_, rfl, ⟨⟨_, rfl, Le.refl _⟩, ⟨⟨_, rfl, Le.refl _⟩, ⟨⟨_, rfl, Le.refl _⟩, trivial⟩⟩⟩⟩, [0, 1, 2, 3, 4, 5], by decide, ⟨⟨_, rfl, LeAll.refl _⟩, ⟨⟨_, rfl, LeR.refl _⟩, ⟨⟨_, rfl, LeR.refl _⟩, ⟨⟨_, rfl, LeR.refl _⟩, ⟨⟨_, rfl, LeAll.refl _⟩, ⟨⟨_, rfl, LeR.refl _⟩, trivial⟩⟩⟩⟩⟩⟩⟩) ?_
  refine SW.draw (n.F ++ (gb :: [])) (.r 0 (.r 1 (.r 2 (.r 3 (.q 4 (.r 5 (.r 6 (.r 7 (.n 8 (.e 9 (.r 10 (.r 11 (.e 12 .fin .no))) .no) .no))))))))) (by kernel_rfl) (by kernel_rfl) (fun d _ _ _ _ h => by cases d <;> exact h) ?_
  refine SWz.rd (i := 0) rfl rfl (Rd.move rfl) ?_
  refine SWz.rd (i := 1) rfl rfl (Rd.move rfl) ?_
  refine SWz.rd (i := 2) rfl rfl (Rd.nilCheck rfl) ?_
  refine SWz.rd (i := 3) rfl rfl (Rd.fieldAddr (n := 1) rfl (by kernel_rfl)) ?_
  refine SWz.rq (i := 4) rfl rfl (Rd.loadB 0 rfl rfl rfl (by kernel_rfl) ap_nil) ?_
  refine SWz.rd (i := 5) rfl rfl (Rd.move rfl) ?_
  refine SWz.rd (i := 6) rfl rfl (Rd.fieldAddr (n := 0) rfl (by kernel_rfl)) ?_
  refine SWz.rd (i := 7) rfl rfl (Rd.loadB 4 rfl rfl rfl (by kernel_rfl) (ap_app 1 rfl (by decide) (ap_cons 0 rfl (by decide) ap_nil))) ?_
  refine SWz.efn (i := 8) rfl (Ef.litB (e := 9) [encS a.name] rfl rfl (fun L w vs hv => by obtain ⟨u, rfl, rfl⟩ := all1 hv; intro w'; kernel_rfl) rfl) ?_ SWz.no
  rintro _ rfl
  refine SWz.efe (i := 9) rfl (Ef.callR [1] ((con_insert lays22 (Acc.nm l) n a.name (Acc.pos l a.name) (by simpa using hpl) (by simpa using (by omega : l.length ≤ 1000000)))) rfl ⟨Le.refl _, Le.refl _, Le.refl _, trivial⟩ (by decide) ⟨⟨_, rfl, LeR.refl _⟩, trivial⟩ (fin_r (fun _ h => List.mem_append_left _ h) fin_nil) rfl) ?_ SWz.no
  rintro _ ⟨t46, rfl⟩
  refine SWz.rd (i := 10) rfl rfl (Rd.nilCheck rfl) ?_
  refine SWz.rd (i := 11) rfl rfl (Rd.fieldAddr (n := 1) rfl (by kernel_rfl)) ?_
  refine SWz.efe (i := 12) rfl (Ef.storeV 0 rfl rfl rfl (by kernel_rfl) rfl (List.mem_append_right _ (List.mem_cons_self))) ?_ SWz.no
  rintro _ rfl
  refine SWz.nil ?_
  refine SN.then ?_
  refine SW.seq ?_
  refine SW.sub (σ' := St.ob [(0, isD (.pointer (some ⟨gb, 0, none⟩))), (3, isD (.pointer (some ⟨g3, 0, none⟩)))] [.c gb [isD (.map (some g1)), isD (.slice t46.A (Acc.nm (Acc.ins l a)).length t46.c), isD (.map (some g2))], .r t46.F (vecT 9 1 encT t46.A t46.c (Acc.nm (Acc.ins l a))), .r F1 (mapQ (some g1) encS (a.name :: (Acc.nm l)) (acD (Acc.ins l a))), .r F2 (mapQ (some g2) encSt (Acc.seats l) (seD (Acc.ins l a))), .c g3 [strD a.name, iD a.role, isD (.slice A a.key.length c), iD a.dep, iD a.num], .r F R]) (⟨⟨_, rfl, ⟨⟨_, rfl, Le.refl _⟩, ⟨⟨_, rfl, Le.refl _⟩, trivial⟩⟩⟩, [0, 5, 1, 2, 3, 4], by decide, ⟨⟨_, rfl, ⟨Le.refl _, Le.is (by rw [hil]), Le.refl _, trivial⟩⟩, ⟨⟨_, rfl, leVec (by rw [hin]) (by rw [hin])⟩, ⟨⟨_, rfl, LeR.refl _⟩, ⟨⟨_, rfl, LeR.refl _⟩, ⟨⟨_, rfl, LeAll.refl _⟩, ⟨⟨_, rfl, LeR.refl _⟩, trivial⟩⟩⟩⟩⟩⟩⟩) ?_
  refine SW.region ?_
  refine SWl.rd rfl (Rd.fieldAddr (n := 1) rfl (by kernel_rfl)) ?_
  refine SWl.rd rfl (Rd.loadB 4 rfl rfl rfl (by kernel_rfl) ap_nil) ?_
  refine SWl.rd rfl (Rd.nei rfl rfl) ?_
  refine SWl.nil ?_
  refine SN.then ?_
  refine SW.cond rfl (fun hb51 => ?_) (fun hb51 => ?_)
  · have h51 : a.role ≠ 3 := by simpa using hb51
    refine SW.draw (F2 ++ []) (.r 0 (.r 1 (.r 2 (.r 3 (.r 4 (.r 5 (.r 6 (.r 7 (.r 8 (.r 9 (.r 10 (.e 11 .fin .no)))))))))))) (by kernel_rfl) (by kernel_rfl) (fun d _ _ _ _ h => by cases d <;> exact h) ?_
    refine SWz.rd (i := 0) rfl rfl (Rd.move rfl) ?_
    refine SWz.rd (i := 1) rfl rfl (Rd.nilCheck rfl) ?_
    refine SWz.rd (i := 2) rfl rfl (Rd.fieldAddr (n := 2) rfl (by kernel_rfl)) ?_
    refine SWz.rd (i := 3) rfl rfl (Rd.loadB 0 rfl rfl rfl (by kernel_rfl) (ap_app 3 rfl (by decide) ap_nil)) ?_
    refine SWz.rd (i := 4) rfl rfl (Rd.fieldAddr (n := 1) rfl (by kernel_rfl)) ?_
    refine SWz.rd (i := 5) rfl rfl (Rd.loadB 4 rfl rfl rfl (by kernel_rfl) (ap_app 3 rfl (by decide) ap_nil)) ?_
    refine SWz.rd (i := 6) rfl rfl (Rd.fieldAddr (n := 4) rfl (by kernel_rfl)) ?_
    refine SWz.rd (i := 7) rfl rfl (Rd.loadB 4 rfl rfl rfl (by kernel_rfl) (ap_app 3 rfl (by decide) ap_nil)) ?_
    refine SWz.rd (i := 8) rfl rfl (Rd.build rfl rfl bldSt2) ?_
    refine SWz.rd (i := 9) rfl rfl (Rd.fieldAddr (n := 0) rfl (by kernel_rfl)) ?_
    refine SWz.rd (i := 10) rfl rfl (Rd.loadB 4 rfl rfl rfl (by kernel_rfl) (ap_app 3 rfl (by decide) ap_nil)) ?_
    refine SWz.efe (i := 11) rfl (Ef.mapNewQ (kt := 136) (et := 9) 3 rfl rfl rfl (le_seat _ _) rfl (by rw [seD_mem (Acc.seat_mem hf.fine' (Acc.mem_ins.2 (.inl rfl)) h51)]; exact Le.refl _) (by kernel_rfl) (keySt _) (hf.st h51) (fun _ h => List.mem_append_left _ h)) ?_ SWz.no
    rintro _ rfl
    refine SWz.nil ?_
    refine SN.retR (fn := Tryd.f45) (⟨g1, g2, t46, F1, F2⟩) [0, 1, 2, 5, 4] (Rs.none rfl) (by decide) ⟨⟨_, rfl, LeAll.refl _⟩, ⟨⟨_, rfl, LeR.refl _⟩, ⟨⟨_, rfl, leMapQ (fun k => Acc.mem_names_ins) (fun _ _ => Le.refl _)⟩, ⟨⟨_, rfl, leMapQ (fun k => Acc.mem_seats_ins h51) (fun _ _ => Le.refl _)⟩, ⟨⟨_, rfl, LeR.refl _⟩, trivial⟩⟩⟩⟩⟩
  · have h51 : a.role = 3 := by simpa using hb51
    refine SW.skip ?_
    refine SN.retR (fn := Tryd.f45) (⟨g1, g2, t46, F1, F2⟩) [0, 1, 2, 3, 5] (Rs.none rfl) (by decide) ⟨⟨_, rfl, LeAll.refl _⟩, ⟨⟨_, rfl, LeR.refl _⟩, ⟨⟨_, rfl, leMapQ (fun k => Acc.mem_names_ins) (fun _ _ => Le.refl _)⟩, ⟨⟨_, rfl, leMapQ (fun k => Acc.mem_seats_ins3 h51) (fun _ _ => Le.refl _)⟩, ⟨⟨_, rfl, LeR.refl _⟩, trivial⟩⟩⟩⟩⟩
end Sx
end Go.Proofs.YtchbgfgboogniaaDoor
namespace Go.Proofs.YtchbgfgboogniaaDoor
open Go.RowKit
namespace Sx
theorem ConR.map {P : Program} {f : FuncId} {pre : List Box} {ad : List D} {ι ι' : Type} {post : ι → List Box} {d : ι → D} {post' : ι' → List Box} {d' : ι' → D} (h : ConR P f pre ad post d) (g : ι → ι') (hp : ∀ i, post i = post' (g i)) (hd : ∀ i, d i = d' (g i)) : ConR P f pre ad post' d' :=
  ⟨h.en, fun L w vs h1 h2 h3 h4 h5 h6 h7 => (h.go L w vs h1 h2 h3 h4 h5 h6 h7).mono fun e w' ⟨i, v, a1, a2, a3, a4, a5, a6⟩ => ⟨g i, v, a1, by rw [← hp, ← hd]; exact a2, by rw [← hp]; exact a3, by rw [← hp]; exact a4, by rw [← hp]; exact a5, a6⟩⟩
theorem con_put (gb : Nat) (s : Bst) (l : List Acc.T) (a : Acc.T) (A : Option Addr) (c : Nat) (F : List Nat) (R : Res) (hR : IsView R (.slice A a.key.length c) (cellsOf a.key)) (hb : a.key.length ≤ 1000000) (hl : l.length ≤ 100000) (hf : Acc.Free l a) :
    ConR Tryd.prog 45 [bookC gb s l, bookN s l, bookA s l, bookS s l, .r F R] [isD (.pointer (some ⟨gb, 0, none⟩)), aggD [strD a.name, iD a.role, isD (.slice A a.key.length c), iD a.dep, iD a.num]]
      (fun t : Bst => [bookC gb t (Acc.ins l a), bookN t (Acc.ins l a), bookA t (Acc.ins l a), bookS t (Acc.ins l a), .r F R]) (fun _ => isD (.tuple #[])) := by
  obtain ⟨M, F1, F2, n⟩ := s
  match M with
  | none => exact (con_put0 gb n F1 F2 l a A c F R hR hb hl hf).map (fun t => ⟨some (t.1, t.2.1), t.2.2.2.1, t.2.2.2.2, t.2.2.1⟩) (fun _ => rfl) (fun _ => rfl)
  | some (g1, g2) => exact (con_put1 gb g1 g2 n F1 F2 l a A c F R hR hb hl hf).map (fun t => ⟨some (t.1, t.2.1), t.2.2.2.1, t.2.2.2.2, t.2.2.1⟩) (fun _ => rfl) (fun _ => rfl)
theorem Acc.free_of {l : List Acc.T} {a : Acc.T} (hf : Acc.Fine l) (ha : Acc.ok a) (hc : ¬ ∃ x ∈ l, Acc.clash a x) (hl : l.length < 256) : Acc.Free l a :=
  ⟨hf, hf.ins ha hc hl, fun h => by obtain ⟨x, hx, e⟩ := List.mem_map.1 h; exact hc ⟨x, hx, .inl e⟩, fun h3 h => by
    obtain ⟨x, hx, h4, e⟩ := Acc.mem_seats.1 h
    injection e with e1 e2
    exact hc ⟨x, hx, .inr ⟨e1, e2, h3⟩⟩⟩
theorem Acc.add_bad {l : List Acc.T} {a : Acc.T} (h : ¬ Acc.ok a) : Acc.add l a = (l, 2) := by unfold Acc.add; rw [if_neg h]
theorem Acc.add_busy {l : List Acc.T} {a : Acc.T} (h : Acc.ok a) (hc : ∃ x ∈ l, Acc.clash a x) : Acc.add l a = (l, 11) := by unfold Acc.add; rw [if_pos h, if_pos hc]
theorem Acc.add_full {l : List Acc.T} {a : Acc.T} (h : Acc.ok a) (hc : ¬ ∃ x ∈ l, Acc.clash a x) (hl : 256 ≤ l.length) : Acc.add l a = (l, 7) := by unfold Acc.add; rw [if_pos h, if_neg hc, if_pos hl]
theorem Acc.add_ok {l : List Acc.T} {a : Acc.T} (h : Acc.ok a) (hc : ¬ ∃ x ∈ l, Acc.clash a x) (hl : ¬ 256 ≤ l.length) : Acc.add l a = (Acc.ins l a, 0) := by unfold Acc.add; rw [if_pos h, if_neg hc, if_neg hl]
theorem Acc.clash_nm {l : List Acc.T} {a : Acc.T} (h : a.name ∈ Acc.nm l) : ∃ x ∈ l, Acc.clash a x := by
  obtain ⟨x, hx, e⟩ := List.mem_map.1 h
  exact ⟨x, hx, .inl e⟩
theorem Acc.ok_role {a : Acc.T} (h : Acc.ok a) : a.role = 1 ∨ a.role = 2 ∨ a.role = 3 := by
  have h1 := h.2.2.2.2.2
  have h2 := h.2.2.2.2.1
  unfold Acc.nums at h1
  split at h1
  · exact .inl (by assumption)
  · split at h1
    · exact .inr (.inl (by assumption))
    · split at h1
      · exact .inr (.inr (by assumption))
      · omega
theorem Acc.clash_st {l : List Acc.T} {a : Acc.T} (h : (a.role, a.num) ∈ Acc.seats l) : ∃ x ∈ l, Acc.clash a x := by
  obtain ⟨x, hx, h3, e⟩ := Acc.mem_seats.1 h
  injection e with e1 e2
  exact ⟨x, hx, .inr ⟨e1, e2, by rw [← e1]; exact h3⟩⟩
theorem Acc.no_clash {l : List Acc.T} {a : Acc.T} (h1 : a.name ∉ Acc.nm l) (h2 : (a.role, a.num) ∉ Acc.seats l) : ¬ ∃ x ∈ l, Acc.clash a x := by
  rintro ⟨x, hx, hc⟩
  rcases hc with hc | ⟨e1, e2, h3⟩
  · exact h1 (List.mem_map.2 ⟨x, hx, hc⟩)
  · exact h2 (Acc.mem_seats.2 ⟨x, hx, by rw [e1]; exact h3, by rw [e1, e2]⟩)
def Acc.zero : Acc.T := ⟨[], 0, [], 0, 0⟩
def Acc.getA (l : List Acc.T) (n : List UInt8) : Acc.T := (Acc.find l n).getD Acc.zero
def Acc.getE (l : List Acc.T) (n : List UInt8) : Int := if (Acc.find l n).isSome then 0 else 9
theorem Acc.get_yes {l : List Acc.T} {n : List UInt8} {x : Acc.T} (h : Acc.find l n = some x) : Acc.getA l n = x ∧ Acc.getE l n = 0 := by unfold Acc.getA Acc.getE; rw [h]; exact ⟨rfl, rfl⟩
theorem Acc.get_no {l : List Acc.T} {n : List UInt8} (h : Acc.find l n = none) : Acc.getA l n = Acc.zero ∧ Acc.getE l n = 9 := by unfold Acc.getA Acc.getE; rw [h]; exact ⟨rfl, rfl⟩
def Acc.ofA (l : List Acc.T) (p : Int × Int) : Acc.T := (Acc.seat l p).getD Acc.zero
def Acc.ofE (l : List Acc.T) (p : Int × Int) : Int := if (Acc.seat l p).isSome then 0 else 9
theorem Acc.of_yes {l : List Acc.T} {p : Int × Int} {x : Acc.T} (h : Acc.seat l p = some x) : Acc.ofA l p = x ∧ Acc.ofE l p = 0 := by unfold Acc.ofA Acc.ofE; rw [h]; exact ⟨rfl, rfl⟩
theorem Acc.of_no {l : List Acc.T} {p : Int × Int} (h : Acc.seat l p = none) : Acc.ofA l p = Acc.zero ∧ Acc.ofE l p = 9 := by unfold Acc.ofA Acc.ofE; rw [h]; exact ⟨rfl, rfl⟩
theorem Acc.nm_in {l : List Acc.T} {n : List UInt8} {x : Acc.T} (h : Acc.find l n = some x) : n ∈ Acc.nm l := List.mem_map.2 ⟨x, Acc.find_some h⟩
theorem Acc.nm_out {l : List Acc.T} {n : List UInt8} (h : Acc.find l n = none) : n ∉ Acc.nm l := fun hm => Acc.find_none.1 h (List.mem_map.1 hm)
theorem Acc.st_in {l : List Acc.T} {p : Int × Int} {x : Acc.T} (h : Acc.seat l p = some x) : p ∈ Acc.seats l := Acc.mem_seats.2 ⟨x, Acc.seat_some h⟩
theorem tup_ac {l : List Acc.T} {n : List UInt8} {x : Acc.T} (h : Acc.find l n = some x) : Le (tupD [acD l n, isD (.bool true)]) (tupD [aggD [strD x.name, iD x.role, bD x.key, iD x.dep, iD x.num], isD (.bool true)]) := by unfold acD; rw [h]; exact Le.refl _
theorem ac_x {l : List Acc.T} {n : List UInt8} {x : Acc.T} (h : Acc.find l n = some x) : Le (acD l n) (aggD [strD x.name, iD x.role, bD x.key, iD x.dep, iD x.num]) := by unfold acD; rw [h]; exact Le.refl _
theorem tup_se {l : List Acc.T} {p : Int × Int} {x : Acc.T} (h : Acc.seat l p = some x) : Le (tupD [seD l p, isD (.bool true)]) (tupD [strD x.name, isD (.bool true)]) := by unfold seD; rw [h]; exact Le.refl _
theorem tup_z5 : Le (tupD [isD (.agg #[.string ⟨#[]⟩, .int .i64 0, .slice none 0 0, .int .i64 0, .int .i64 0]), isD (.bool false)]) (tupD [aggD [strD [], iD 0, isD (.slice none 0 0), iD 0, iD 0], isD (.bool false)]) := Le.tup ⟨le_is_agg (vs := [.string ⟨#[]⟩, .int .i64 0, .slice none 0 0, .int .i64 0, .int .i64 0]), Le.refl _, trivial⟩
theorem blsA1 (x : Acc.T) : Bls Tryd.prog 22 1 [0] [aggD [strD x.name, iD x.role, bD x.key, iD x.dep, iD x.num]] ([x].flatMap encA) := ⟨33, fun L w vs hv => by
  obtain ⟨u, rfl, cs, rfl, hc⟩ := all1 hv
  match cs, hc with
  | [a, b, c, d, e], hc =>
    obtain ⟨rfl, rfl, h3, rfl, rfl, -⟩ := hc
    have h3' := h3
    obtain ⟨A, cp, rfl, -⟩ := h3
    exact ⟨[.string _, .int .i64 _, .slice A _ cp, .int .i64 _, .int .i64 _], ⟨rfl, rfl, h3', rfl, rfl, trivial⟩, fun w' => by kernel_rfl⟩⟩
theorem nwA5 {n : Nat} {x : Acc.T} : Le (aggD [nwD n (strD x.name), nwD n (iD x.role), nwD n (bD x.key), nwD n (iD x.dep), nwD n (iD x.num)]) (nwD n (aggD (encA x))) := by
  have h : LeAll [nwD n (strD x.name), nwD n (iD x.role), nwD n (bD x.key), nwD n (iD x.dep), nwD n (iD x.num)] ([strD x.name, iD x.role, bD x.key, iD x.dep, iD x.num].map (nwD n)) := ⟨Le.refl _, Le.refl _, Le.refl _, Le.refl _, Le.refl _, trivial⟩
  exact le_nw_agg h
theorem nwZ5 {n : Nat} : Le (aggD [strD [], iD 0, isD (.slice none 0 0), iD 0, iD 0]) (nwD n (aggD (encA Acc.zero))) := by
  have h : LeAll [strD [], iD 0, isD (.slice none 0 0), iD 0, iD 0] ([strD [], iD 0, bD [], iD 0, iD 0].map (nwD n)) := ⟨le_nw_is, le_nw_is, Le.trans (le_nw_is (x := .slice none 0 0)) (le_nw_mono (Nat.le_refl _) Le.nil_sl), le_nw_is, le_nw_is, trivial⟩
  exact le_nw_agg h
theorem le_get {n : Nat} {x : Acc.T} {e : Int} : Le (nwD n (tupD [aggD (encA x), iD e])) (tupD [aggD [nwD n (strD x.name), nwD n (iD x.role), nwD n (bD x.key), nwD n (iD x.dep), nwD n (iD x.num)], iD e]) := by
  refine Le.trans (le_nw_tupD (ds := [aggD (encA x), iD e])) (Le.tup ⟨?_, le_nw, trivial⟩)
  exact le_nw_aggD (ds := encA x)
/-- What an iterator over accounts hands on. -/
def itemsA (l : List Acc.T) : List (Nat × Acc.T) := l.mapIdx fun i e => (i, e)
theorem itemsA_len (l : List Acc.T) : (itemsA l).length = l.length := by simp [itemsA]
theorem itemsA_get {l : List Acc.T} {i : Nat} {e : Acc.T} (h : l[i]? = some e) : (itemsA l)[i]? = some (i, e) := by simp [itemsA, List.getElem?_mapIdx, h]
theorem itemsA_inv {l : List Acc.T} {i j : Nat} {e : Acc.T} (h : (itemsA l)[i]? = some (j, e)) : j = i ∧ l[i]? = some e := by
  simp only [itemsA, List.getElem?_mapIdx, Option.map_eq_some_iff, Prod.mk.injEq] at h
  obtain ⟨x, h1, h2, h3⟩ := h
  subst h3
  exact ⟨h2.symm, h1⟩
def ibA (x : Nat × Acc.T) (k : Ust) : List Box := [.r k.F (vecT 5 1 encB k.A k.c x.2.key)]
def ddA (x : Nat × Acc.T) (k : Ust) : List D := [iD x.1, aggD [strD x.2.name, iD x.2.role, isD (.slice k.A x.2.key.length k.c), iD x.2.dep, iD x.2.num]]
instance (a : Acc.T) : Ones (encA a) := by unfold encA; infer_instance
end Sx
end Go.Proofs.YtchbgfgboogniaaDoor
namespace Go.Proofs.YtchbgfgboogniaaDoor
open Go.RowKit
namespace Sx
set_option maxHeartbeats 4000000 in
set_option maxRecDepth 100000 in
theorem con_taken (l : List Acc.T) (r n : Int) : ConN Tryd.prog 44 [bookD l, iD r, iD n] (boolD (decide ((r, n) ∈ Acc.seats l))) := by
  refine con_ofN Tryd.func44 (by kernel_rfl) rfl (by kernel_rfl) fun base w0 => ?_
  refine SW.seq ?_
  refine SW.region ?_
  refine SWl.rd rfl (Rd.assign rfl) ?_
  refine SWl.nil ?_
  refine SN.then ?_
  refine SW.seq ?_
  by_cases hm : (r, n) ∈ Acc.seats l
  · skip
    refine SW.region ?_
    refine SWl.rd rfl (Rd.move rfl) ?_
    refine SWl.rd rfl (Rd.nilCheckP rfl) ?_
    refine SWl.rd rfl (Rd.fieldR (n := 2) rfl (by kernel_rfl) (show 2 < 3 by decide)) ?_
    refine SWl.rd rfl (Rd.loadR rfl rfl (by kernel_rfl) (by simp)) ?_
    refine SWl.rd rfl (Rd.move rfl) ?_
    refine SWl.rd rfl (Rd.move rfl) ?_
    refine SWl.rd rfl (Rd.build rfl rfl bldSt2) ?_
    refine SWl.rd rfl (Rd.lookMQ (kt := 136) (et := 9) rfl rfl (le_seat _ _) (by kernel_rfl) (keySt _) hm (by simp)) ?_
    refine SWl.rd rfl (Rd.move rfl) ?_
    refine SWl.rd rfl (Rd.extract rfl rfl) ?_
    refine SWl.rd rfl (Rd.extract rfl rfl) ?_
    refine SWl.rd rfl (Rd.assign rfl) ?_
    refine SWl.rd rfl (Rd.assign rfl) ?_
    refine SWl.nil ?_
    refine SN.then ?_
    refine SW.seq ?_
    refine SW.region ?_
    refine SWl.rd rfl (Rd.move rfl) ?_
    refine SWl.rd rfl (Rd.assign rfl) ?_
    refine SWl.nil ?_
    refine SN.then ?_
    refine SW.ret (fn := Tryd.f44) (fun _ _ h => h) (Rs.le (Rs.one rfl (ResV.tmp rfl)) ?_)
    first | exact Le.trans (le_decT hm) le_nw_is | exact Le.trans (le_decF hm) le_nw_is
  · skip
    refine SW.region ?_
    refine SWl.rd rfl (Rd.move rfl) ?_
    refine SWl.rd rfl (Rd.nilCheckP rfl) ?_
    refine SWl.rd rfl (Rd.fieldR (n := 2) rfl (by kernel_rfl) (show 2 < 3 by decide)) ?_
    refine SWl.rd rfl (Rd.loadR rfl rfl (by kernel_rfl) (by simp)) ?_
    refine SWl.rd rfl (Rd.move rfl) ?_
    refine SWl.rd rfl (Rd.move rfl) ?_
    refine SWl.rd rfl (Rd.build rfl rfl bldSt2) ?_
    refine SWl.rd rfl (Rd.lookMQN (kt := 136) (et := 9) (z := .string ⟨#[]⟩) rfl rfl (le_seat _ _) (by kernel_rfl) (by kernel_rfl) (keySt _) hm (by simp)) ?_
    refine SWl.rd rfl (Rd.move rfl) ?_
    refine SWl.rd rfl (Rd.extract rfl rfl) ?_
    refine SWl.rd rfl (Rd.extract rfl rfl) ?_
    refine SWl.rd rfl (Rd.assign rfl) ?_
    refine SWl.rd rfl (Rd.assign rfl) ?_
    refine SWl.nil ?_
    refine SN.then ?_
    refine SW.seq ?_
    refine SW.region ?_
    refine SWl.rd rfl (Rd.move rfl) ?_
    refine SWl.rd rfl (Rd.assign rfl) ?_
    refine SWl.nil ?_
    refine SN.then ?_
    refine SW.ret (fn := Tryd.f44) (fun _ _ h => h) (Rs.le (Rs.one rfl (ResV.tmp rfl)) ?_)
    first | exact Le.trans (le_decT hm) le_nw_is | exact Le.trans (le_decF hm) le_nw_is
set_option maxHeartbeats 4000000 in
set_option maxRecDepth 100000 in
theorem con_get (l : List Acc.T) (nm : List UInt8) (hf : Acc.Fine l) : ConN Tryd.prog 58 [bookD l, strD nm] (tupD [aggD (encA (Acc.getA l nm)), iD (Acc.getE l nm)]) := by
  refine con_ofN Tryd.func58 (by kernel_rfl) rfl (by kernel_rfl) fun base w0 => ?_
  refine SW.seq ?_
  refine SW.region ?_
  refine SWl.ef (S := []) (Ef.alloc (zs := [.string ⟨#[]⟩, .int .i64 0, .slice none 0 0, .int .i64 0, .int .i64 0]) (by kernel_rfl) rfl) ?_
  rintro _ ⟨g4, rfl⟩
  refine SWl.rd rfl (Rd.assign rfl) ?_
  refine SWl.nil ?_
  refine SN.then ?_
  refine SW.seq ?_
  refine SW.seq ?_
  refine SW.region ?_
  refine SWl.rd rfl (Rd.move rfl) ?_
  refine SWl.rd rfl (Rd.eqPA rfl rfl (by kernel_rfl)) ?_
  refine SWl.nil ?_
  refine SN.then ?_
  refine SW.condF rfl (rfl) ?_
  refine SW.skip ?_
  refine SN.then ?_
  refine SW.seq ?_
  rcases hx : Acc.find l nm with _ | x
  · skip
    refine SW.region ?_
    refine SWl.rd rfl (Rd.move rfl) ?_
    refine SWl.rd rfl (Rd.nilCheckP rfl) ?_
    refine SWl.rd rfl (Rd.fieldR (n := 0) rfl (by kernel_rfl) (show 0 < 3 by decide)) ?_
    refine SWl.rd rfl (Rd.loadR rfl rfl (by kernel_rfl) (by simp)) ?_
    refine SWl.rd rfl (Rd.move rfl) ?_
    refine SWl.rd rfl ((Rd.mono (Rd.lookMQN (kt := 9) (et := 33) (z := .agg #[.string ⟨#[]⟩, .int .i64 0, .slice none 0 0, .int .i64 0, .int .i64 0]) (ok := true) rfl rfl (Le.refl _) (by kernel_rfl) (by kernel_rfl) (keyNm _) (Acc.nm_out hx) (by simp)) tup_z5)) ?_
    refine SWl.rd rfl (Rd.move rfl) ?_
    refine SWl.rd rfl (Rd.extract rfl rfl) ?_
    refine SWl.rd rfl (Rd.extract rfl rfl) ?_
    refine SWl.ef (S := []) (Ef.alloc (zs := [.string ⟨#[]⟩, .int .i64 0, .slice none 0 0, .int .i64 0, .int .i64 0]) (by kernel_rfl) rfl) ?_
    rintro _ ⟨g6, rfl⟩
    refine SWl.ef (S := [_]) (Ef.storeA 1 rfl rfl rfl (by kernel_rfl) rfl (List.mem_singleton.2 rfl)) ?_
    rintro _ rfl
    refine SWl.rd rfl (Rd.assign rfl) ?_
    refine SWl.nil ?_
    refine SN.then ?_
    refine SW.seq ?_
    refine SW.seq ?_
    refine SW.region ?_
    refine SWl.rd rfl (Rd.move rfl) ?_
    refine SWl.rd rfl (Rd.not rfl) ?_
    refine SWl.nil ?_
    refine SN.then ?_
    refine SW.condT rfl (rfl) ?_
    refine SW.seq ?_
    refine SW.region ?_
    refine SWl.rd rfl (Rd.build rfl rfl bldA0) ?_
    refine SWl.ef (S := [_]) (Ef.storeA 0 rfl rfl rfl (by kernel_rfl) rfl (List.mem_singleton.2 rfl)) ?_
    rintro _ rfl
    refine SWl.rd rfl (Rd.assign rfl) ?_
    refine SWl.nil ?_
    refine SN.then ?_
    refine SW.ret (fn := Tryd.f58) (fun _ _ h => h) (Rs.le (Rs.two rfl (ResV.cellA 0 rfl rfl (by kernel_rfl)) (ResV.tmp rfl)) ?_)
    first | (rw [(Acc.get_no hx).1, (Acc.get_no hx).2]; exact le_nw_tup ⟨nwZ5, le_nw_is, trivial⟩) | (rw [(Acc.get_yes hx).1, (Acc.get_yes hx).2]; exact le_nw_tup ⟨nwA5, le_nw_is, trivial⟩)
  · have hkl := (hf.oks x (Acc.find_some hx).1).2.1
    refine SW.region ?_
    refine SWl.rd rfl (Rd.move rfl) ?_
    refine SWl.rd rfl (Rd.nilCheckP rfl) ?_
    refine SWl.rd rfl (Rd.fieldR (n := 0) rfl (by kernel_rfl) (show 0 < 3 by decide)) ?_
    refine SWl.rd rfl (Rd.loadR rfl rfl (by kernel_rfl) (by simp)) ?_
    refine SWl.rd rfl (Rd.move rfl) ?_
    refine SWl.rd rfl ((Rd.mono (Rd.lookMQ (kt := 9) (et := 33) (ok := true) rfl rfl (Le.refl _) (by kernel_rfl) (keyNm _) (Acc.nm_in hx) (by simp)) (tup_ac hx))) ?_
    refine SWl.rd rfl (Rd.move rfl) ?_
    refine SWl.rd rfl (Rd.extract rfl rfl) ?_
    refine SWl.rd rfl (Rd.extract rfl rfl) ?_
    refine SWl.ef (S := []) (Ef.alloc (zs := [.string ⟨#[]⟩, .int .i64 0, .slice none 0 0, .int .i64 0, .int .i64 0]) (by kernel_rfl) rfl) ?_
    rintro _ ⟨g6, rfl⟩
    refine SWl.ef (S := [_]) (Ef.storeA 1 rfl rfl rfl (by kernel_rfl) rfl (List.mem_singleton.2 rfl)) ?_
    rintro _ rfl
    refine SWl.rd rfl (Rd.assign rfl) ?_
    refine SWl.nil ?_
    refine SN.then ?_
    refine SW.seq ?_
    refine SW.seq ?_
    refine SW.region ?_
    refine SWl.rd rfl (Rd.move rfl) ?_
    refine SWl.rd rfl (Rd.not rfl) ?_
    refine SWl.nil ?_
    refine SN.then ?_
    refine SW.condF rfl (rfl) ?_
    refine SW.skip ?_
    refine SN.then ?_
    refine SW.seq ?_
    refine SW.sub (σ' := St.ob [(4, isD (.pointer (some ⟨g4, 0, none⟩))), (6, isD (.pointer (some ⟨g6, 0, none⟩)))] [.c g4 [strD [], iD 0, isD (.slice none 0 0), iD 0, iD 0], .c g6 [strD x.name, iD x.role, bD x.key, iD x.dep, iD x.num]]) (⟨⟨_, rfl, ⟨⟨_, rfl, Le.refl _⟩, ⟨⟨_, rfl, Le.refl _⟩, trivial⟩⟩⟩, [0, 1], by decide, ⟨⟨_, rfl, LeAll.refl _⟩, ⟨⟨_, rfl, LeAll.refl _⟩, trivial⟩⟩⟩) ?_
    refine SW.region ?_
    refine SWl.rd rfl (Rd.loadA 1 5 rfl rfl (by kernel_rfl) rfl ap_nil) ?_
    refine SWl.ef (S := []) (Ef.callNL [] (con_copied x.name x.role x.key x.dep x.num (by omega)) rfl ⟨(sees_agg ⟨(sees_le (Le.refl _)), (sees_le (Le.refl _)), (sees_le (Le.refl _)), (sees_le (Le.refl _)), (sees_le (Le.refl _)), trivial⟩), trivial⟩ le_nw_aggD rfl) ?_
    rintro _ rfl
    refine SWl.ef (S := [_]) (Ef.storeA 0 rfl rfl rfl (by kernel_rfl) rfl (List.mem_singleton.2 rfl)) ?_
    rintro _ rfl
    refine SWl.rd rfl (Rd.assign rfl) ?_
    refine SWl.nil ?_
    refine SN.then ?_
    refine SW.ret (fn := Tryd.f58) (fun _ _ h => h) (Rs.le (Rs.two rfl (ResV.cellA 0 rfl rfl (by kernel_rfl)) (ResV.tmp rfl)) ?_)
    first | (rw [(Acc.get_no hx).1, (Acc.get_no hx).2]; exact le_nw_tup ⟨nwZ5, le_nw_is, trivial⟩) | (rw [(Acc.get_yes hx).1, (Acc.get_yes hx).2]; exact le_nw_tup ⟨nwA5, le_nw_is, trivial⟩)
set_option maxHeartbeats 4000000 in
set_option maxRecDepth 100000 in
theorem con_ofSeat (l : List Acc.T) (r n : Int) (hf : Acc.Fine l) : ConN Tryd.prog 39 [bookD l, iD r, iD n] (tupD [aggD (encA (Acc.ofA l (r, n))), iD (Acc.ofE l (r, n))]) := by
  refine con_ofN Tryd.func39 (by kernel_rfl) rfl (by kernel_rfl) fun base w0 => ?_
  refine SW.seq ?_
  refine SW.region ?_
  refine SWl.ef (S := []) (Ef.alloc (zs := [.string ⟨#[]⟩, .int .i64 0, .slice none 0 0, .int .i64 0, .int .i64 0]) (by kernel_rfl) rfl) ?_
  rintro _ ⟨g6, rfl⟩
  refine SWl.rd rfl (Rd.assign rfl) ?_
  refine SWl.nil ?_
  refine SN.then ?_
  refine SW.seq ?_
  refine SW.seq ?_
  refine SW.region ?_
  refine SWl.rd rfl (Rd.move rfl) ?_
  refine SWl.rd rfl (Rd.eqPA rfl rfl (by kernel_rfl)) ?_
  refine SWl.nil ?_
  refine SN.then ?_
  refine SW.condF rfl (rfl) ?_
  refine SW.skip ?_
  refine SN.then ?_
  refine SW.seq ?_
  rcases hx : Acc.seat l (r, n) with _ | x
  · skip
    refine SW.region ?_
    refine SWl.rd rfl (Rd.move rfl) ?_
    refine SWl.rd rfl (Rd.nilCheckP rfl) ?_
    refine SWl.rd rfl (Rd.fieldR (n := 2) rfl (by kernel_rfl) (show 2 < 3 by decide)) ?_
    refine SWl.rd rfl (Rd.loadR rfl rfl (by kernel_rfl) (by simp)) ?_
    refine SWl.rd rfl (Rd.move rfl) ?_
    refine SWl.rd rfl (Rd.move rfl) ?_
    refine SWl.rd rfl (Rd.build rfl rfl bldSt2) ?_
    refine SWl.rd rfl ((Rd.lookMQN (kt := 136) (et := 9) (z := .string ⟨#[]⟩) (ok := true) rfl rfl (le_seat _ _) (by kernel_rfl) (by kernel_rfl) (keySt _) (Acc.seat_none.1 hx) (by simp))) ?_
    refine SWl.rd rfl (Rd.move rfl) ?_
    refine SWl.rd rfl (Rd.extract rfl rfl) ?_
    refine SWl.rd rfl (Rd.extract rfl rfl) ?_
    refine SWl.rd rfl (Rd.assign rfl) ?_
    refine SWl.rd rfl (Rd.assign rfl) ?_
    refine SWl.nil ?_
    refine SN.then ?_
    refine SW.seq ?_
    refine SW.seq ?_
    refine SW.region ?_
    refine SWl.rd rfl (Rd.move rfl) ?_
    refine SWl.rd rfl (Rd.not rfl) ?_
    refine SWl.nil ?_
    refine SN.then ?_
    refine SW.condT rfl (rfl) ?_
    refine SW.seq ?_
    refine SW.region ?_
    refine SWl.rd rfl (Rd.build rfl rfl bldA0) ?_
    refine SWl.ef (S := [_]) (Ef.storeA 0 rfl rfl rfl (by kernel_rfl) rfl (List.mem_singleton.2 rfl)) ?_
    rintro _ rfl
    refine SWl.rd rfl (Rd.assign rfl) ?_
    refine SWl.nil ?_
    refine SN.then ?_
    refine SW.ret (fn := Tryd.f39) (fun _ _ h => h) (Rs.le (Rs.two rfl (ResV.cellA 0 rfl rfl (by kernel_rfl)) (ResV.tmp rfl)) ?_)
    first | (rw [(Acc.of_no hx).1, (Acc.of_no hx).2]; exact le_nw_tup ⟨nwZ5, le_nw_is, trivial⟩) | (rw [(Acc.of_yes hx).1, (Acc.of_yes hx).2]; exact le_nw_tup ⟨nwA5, le_nw_is, trivial⟩)
  · have hg := Acc.get_yes (Acc.find_mem hf.srt (Acc.seat_some hx).1); have hget : ConN Tryd.prog 58 [bookD l, strD x.name] (tupD [aggD (encA x), iD 0]) := by (have h := con_get l x.name hf; rw [hg.1, hg.2] at h; exact h)
    refine SW.region ?_
    refine SWl.rd rfl (Rd.move rfl) ?_
    refine SWl.rd rfl (Rd.nilCheckP rfl) ?_
    refine SWl.rd rfl (Rd.fieldR (n := 2) rfl (by kernel_rfl) (show 2 < 3 by decide)) ?_
    refine SWl.rd rfl (Rd.loadR rfl rfl (by kernel_rfl) (by simp)) ?_
    refine SWl.rd rfl (Rd.move rfl) ?_
    refine SWl.rd rfl (Rd.move rfl) ?_
    refine SWl.rd rfl (Rd.build rfl rfl bldSt2) ?_
    refine SWl.rd rfl ((Rd.mono (Rd.lookMQ (kt := 136) (et := 9) (ok := true) rfl rfl (le_seat _ _) (by kernel_rfl) (keySt _) (Acc.st_in hx) (by simp)) (tup_se hx))) ?_
    refine SWl.rd rfl (Rd.move rfl) ?_
    refine SWl.rd rfl (Rd.extract rfl rfl) ?_
    refine SWl.rd rfl (Rd.extract rfl rfl) ?_
    refine SWl.rd rfl (Rd.assign rfl) ?_
    refine SWl.rd rfl (Rd.assign rfl) ?_
    refine SWl.nil ?_
    refine SN.then ?_
    refine SW.seq ?_
    refine SW.seq ?_
    refine SW.region ?_
    refine SWl.rd rfl (Rd.move rfl) ?_
    refine SWl.rd rfl (Rd.not rfl) ?_
    refine SWl.nil ?_
    refine SN.then ?_
    refine SW.condF rfl (rfl) ?_
    refine SW.skip ?_
    refine SN.then ?_
    refine SW.seq ?_
    refine SW.region ?_
    refine SWl.rd rfl (Rd.move rfl) ?_
    refine SWl.rd rfl (Rd.move rfl) ?_
    refine SWl.ef (S := []) (Ef.callNL [] (hget) rfl ⟨(sees_le (Le.refl _)), (sees_le (Le.refl _)), trivial⟩ le_get rfl) ?_
    rintro _ rfl
    refine SWl.rd rfl (Rd.extract rfl rfl) ?_
    refine SWl.rd rfl (Rd.extract rfl rfl) ?_
    refine SWl.ef (S := [_]) (Ef.storeA 0 rfl rfl rfl (by kernel_rfl) rfl (List.mem_singleton.2 rfl)) ?_
    rintro _ rfl
    refine SWl.rd rfl (Rd.assign rfl) ?_
    refine SWl.nil ?_
    refine SN.then ?_
    refine SW.ret (fn := Tryd.f39) (fun _ _ h => h) (Rs.le (Rs.two rfl (ResV.cellA 0 rfl rfl (by kernel_rfl)) (ResV.tmp rfl)) ?_)
    first | (rw [(Acc.of_no hx).1, (Acc.of_no hx).2]; exact le_nw_tup ⟨nwZ5, le_nw_is, trivial⟩) | (rw [(Acc.of_yes hx).1, (Acc.of_yes hx).2]; exact le_nw_tup ⟨nwA5, le_nw_is, trivial⟩)
set_option maxHeartbeats 4000000 in
set_option maxRecDepth 100000 in
theorem con_lenB (l : List Acc.T) : ConN Tryd.prog 38 [bookD l] (iD (l.length : Int)) := by
  refine con_ofN Tryd.func38 (by kernel_rfl) rfl (by kernel_rfl) fun base w0 => ?_
  refine SW.seq ?_
  refine SW.region ?_
  refine SWl.rd rfl (Rd.assign rfl) ?_
  refine SWl.nil ?_
  refine SN.then ?_
  refine SW.seq ?_
  refine SW.seq ?_
  refine SW.region ?_
  refine SWl.rd rfl (Rd.move rfl) ?_
  refine SWl.rd rfl (Rd.eqPA rfl rfl (by kernel_rfl)) ?_
  refine SWl.nil ?_
  refine SN.then ?_
  refine SW.condF rfl (rfl) ?_
  refine SW.skip ?_
  refine SN.then ?_
  refine SW.seq ?_
  refine SW.region ?_
  refine SWl.rd rfl (Rd.move rfl) ?_
  refine SWl.rd rfl (Rd.nilCheckP rfl) ?_
  refine SWl.rd rfl (Rd.fieldR (n := 1) rfl (by kernel_rfl) (show 1 < 3 by decide)) ?_
  refine SWl.rd rfl (Rd.loadR rfl rfl (by kernel_rfl) (by simp)) ?_
  refine SWl.rd rfl (Rd.lenR (e := 9) rfl (by kernel_rfl)) ?_
  refine SWl.rd rfl (Rd.assign rfl) ?_
  refine SWl.nil ?_
  refine SN.then ?_
  refine SW.ret (fn := Tryd.f38) (fun _ _ h => h) (Rs.le (Rs.one rfl (ResV.tmp rfl)) ?_)
  exact Le.trans (Le.is (by simp)) le_nw_is
set_option maxHeartbeats 4000000 in
set_option maxRecDepth 100000 in
theorem con_units_no (l : List Acc.T) (nm : List UInt8) (p : Int) (hp : p < 1) : ConN Tryd.prog 40 [bookD l, strD nm, iD p] (tupD [iD 0, iD 2]) := by
  refine con_ofN Tryd.func40 (by kernel_rfl) rfl (by kernel_rfl) fun base w0 => ?_
  refine SW.seq ?_
  refine SW.region ?_
  refine SWl.rd rfl (Rd.assign rfl) ?_
  refine SWl.rd rfl (Rd.assign rfl) ?_
  refine SWl.nil ?_
  refine SN.then ?_
  refine SW.seq ?_
  refine SW.seq ?_
  refine SW.region ?_
  refine SWl.rd rfl (Rd.move rfl) ?_
  refine SWl.rd rfl (Rd.eqPA rfl rfl (by kernel_rfl)) ?_
  refine SWl.nil ?_
  refine SN.then ?_
  refine SW.condF rfl (rfl) ?_
  refine SW.skip ?_
  refine SN.then ?_
  refine SW.seq ?_
  refine SW.seq ?_
  refine SW.region ?_
  refine SWl.rd rfl (Rd.move rfl) ?_
  refine SWl.rd rfl (Rd.lss rfl rfl) ?_
  refine SWl.nil ?_
  refine SN.then ?_
  refine SW.condT rfl (decide_eq_true hp) ?_
  refine SW.seq ?_
  refine SW.region ?_
  refine SWl.rd rfl (Rd.assign rfl) ?_
  refine SWl.rd rfl (Rd.assign rfl) ?_
  refine SWl.nil ?_
  refine SN.then ?_
  refine SW.ret (fn := Tryd.f40) (fun _ _ h => h) (Rs.le (Rs.two rfl (ResV.tmp rfl) (ResV.tmp rfl)) ?_)
  exact (le_nw_tup ⟨le_nw_is, le_nw_is, trivial⟩)
set_option maxHeartbeats 4000000 in
set_option maxRecDepth 100000 in
theorem con_units (l : List Acc.T) (nm : List UInt8) (p : Int) (hp : ¬ p < 1) (hf : Acc.Fine l) : ConN Tryd.prog 40 [bookD l, strD nm, iD p] (tupD [iD ((Acc.getA l nm).dep / p), iD (Acc.getE l nm)]) := by
  obtain ⟨x, hx, hd⟩ : ∃ x, x = Acc.getA l nm ∧ 0 ≤ x.dep ∧ x.dep ≤ 1125899906842624 := by
    refine ⟨_, rfl, ?_⟩
    rcases h : Acc.find l nm with _ | y
    · rw [(Acc.get_no h).1]; decide
    · rw [(Acc.get_yes h).1]; exact ⟨(hf.oks y (Acc.find_some h).1).2.2.1, (hf.oks y (Acc.find_some h).1).2.2.2.1⟩
  have hget : ConN Tryd.prog 58 [bookD l, strD nm] (tupD [aggD [strD x.name, iD x.role, bD x.key, iD x.dep, iD x.num], iD (Acc.getE l nm)]) := by (have h := con_get l nm hf; rw [← hx] at h; exact h)
  refine con_ofN Tryd.func40 (by kernel_rfl) rfl (by kernel_rfl) fun base w0 => ?_
  refine SW.seq ?_
  refine SW.region ?_
  refine SWl.rd rfl (Rd.assign rfl) ?_
  refine SWl.rd rfl (Rd.assign rfl) ?_
  refine SWl.nil ?_
  refine SN.then ?_
  refine SW.seq ?_
  refine SW.seq ?_
  refine SW.region ?_
  refine SWl.rd rfl (Rd.move rfl) ?_
  refine SWl.rd rfl (Rd.eqPA rfl rfl (by kernel_rfl)) ?_
  refine SWl.nil ?_
  refine SN.then ?_
  refine SW.condF rfl (rfl) ?_
  refine SW.skip ?_
  refine SN.then ?_
  refine SW.seq ?_
  refine SW.seq ?_
  refine SW.region ?_
  refine SWl.rd rfl (Rd.move rfl) ?_
  refine SWl.rd rfl (Rd.lss rfl rfl) ?_
  refine SWl.nil ?_
  refine SN.then ?_
  refine SW.condF rfl (decide_eq_false hp) ?_
  refine SW.skip ?_
  refine SN.then ?_
  refine SW.seq ?_
  refine SW.region ?_
  refine SWl.rd rfl (Rd.move rfl) ?_
  refine SWl.rd rfl (Rd.move rfl) ?_
  refine SWl.ef (S := []) (Ef.callN [] (hget) rfl ⟨(sees_le (Le.refl _)), (sees_le (Le.refl _)), trivial⟩ rfl) ?_
  rintro _ rfl
  refine SWl.rd rfl (Rd.move rfl) ?_
  refine SWl.rd rfl (Rd.extract rfl rfl) ?_
  refine SWl.rd rfl (Rd.extract rfl rfl) ?_
  refine SWl.ef (S := []) (Ef.alloc (zs := [.string ⟨#[]⟩, .int .i64 0, .slice none 0 0, .int .i64 0, .int .i64 0]) (by kernel_rfl) rfl) ?_
  rintro _ ⟨g8, rfl⟩
  refine SWl.ef (S := [_]) (Ef.storeA 0 rfl rfl rfl (by kernel_rfl) rfl (List.mem_singleton.2 rfl)) ?_
  rintro _ rfl
  refine SWl.rd rfl (Rd.assign rfl) ?_
  refine SWl.nil ?_
  refine SN.then ?_
  refine SW.seq ?_
  refine SW.sub (σ' := St.ob [(2, iD p), (8, isD (.pointer (some ⟨g8, 0, none⟩))), (9, iD (Acc.getE l nm))] [.c g8 [strD x.name, iD x.role, bD x.key, iD x.dep, iD x.num]]) (⟨⟨_, rfl, ⟨⟨_, rfl, Le.refl _⟩, ⟨⟨_, rfl, Le.refl _⟩, ⟨⟨_, rfl, Le.refl _⟩, trivial⟩⟩⟩⟩, [0], by decide, ⟨⟨_, rfl, LeAll.refl _⟩, trivial⟩⟩) ?_
  refine SW.region ?_
  refine SWl.rd rfl (Rd.fieldAddr (n := 3) rfl (by kernel_rfl)) ?_
  refine SWl.rd rfl (Rd.loadB 0 rfl rfl rfl (by kernel_rfl) ap_nil) ?_
  refine SWl.rd rfl (Rd.move rfl) ?_
  refine SWl.rd rfl (Rd.quoN rfl rfl ⟨by omega, by omega, by omega⟩) ?_
  refine SWl.rd rfl (Rd.move rfl) ?_
  refine SWl.rd rfl (Rd.assign rfl) ?_
  refine SWl.rd rfl (Rd.assign rfl) ?_
  refine SWl.nil ?_
  refine SN.then ?_
  refine SW.ret (fn := Tryd.f40) (fun _ _ h => h) (Rs.le (Rs.two rfl (ResV.tmp rfl) (ResV.tmp rfl)) ?_)
  rw [← hx]; exact le_nw_tup ⟨le_nw_is, le_nw_is, trivial⟩
end Sx
end Go.Proofs.YtchbgfgboogniaaDoor
