/-
  ACCOUNTS: the law's key, over.
  ACCOUNTS: what the law's known needs.
  ACCOUNTS: the law's known.
-/
import Derived.Test.YtchbgfgboogniaaDoorGP
namespace Go.Proofs.YtchbgfgboogniaaDoor
open Go.RowKit
namespace Sx
set_option maxHeartbeats 4000000 in
set_option maxRecDepth 100000 in
theorem con_key (b : UInt8) : Con Tryd.prog 37 [isD (B8 b)] (bD (List.replicate 32 b)) := by
  refine con_of Tryd.func37 (by kernel_rfl) rfl (by kernel_rfl) fun base w0 => ?_
  refine SW.seq ?_
  refine SW.region ?_
  refine SWl.rd rfl (Rd.assign rfl) ?_
  refine SWl.nil ?_
  refine SN.then ?_
  refine SW.seq ?_
  refine SW.region ?_
  refine SWl.ef (S := []) (Ef.make (e := 5) (z := .int .u8 0) (n := 32) 1 rfl rfl (by kernel_rfl) (by kernel_rfl) rfl rfl rfl (by decide) (by decide) rfl) ?_
  rintro _ ⟨g5, rfl⟩
  refine SWl.rd rfl (Rd.assign rfl) ?_
  refine SWl.nil ?_
  refine SN.then ?_
  refine SW.seq ?_
  refine SW.seq ?_
  refine SW.region ?_
  refine SWl.rd rfl (Rd.assign rfl) ?_
  refine SWl.nil ?_
  refine SN.then ?_
  refine SW.block ?_
  refine SW.loop (ι := {i : Nat // i ≤ 32}) (fun i => St.ob [(0, isD (B8 b)), (3, isD (.slice (some ⟨g5, 0, none⟩) 32 32)), (4, iD (i.1 : Int))] [.c g5 ((cellsOf (List.replicate i.1 b ++ List.replicate (32 - i.1) 0)).map isD)]) (fun i => 32 - i.1) (⟨0, by decide⟩) ?_ ?_
  · exact ⟨⟨_, rfl, ⟨⟨_, rfl, Le.refl _⟩, ⟨⟨_, rfl, Le.refl _⟩, ⟨⟨_, rfl, Le.refl _⟩, trivial⟩⟩⟩⟩, [0], by decide, ⟨⟨_, rfl, leAll_eq (by rfl)⟩, trivial⟩⟩
  · rintro ⟨i, hi⟩ K0 hK0
    dsimp only at hi ⊢
    refine SW.seq ?_
    refine SW.seq ?_
    refine SW.region ?_
    refine SWl.rd rfl (Rd.move rfl) ?_
    refine SWl.rd rfl (Rd.lss rfl rfl) ?_
    refine SWl.nil ?_
    refine SN.then ?_
    refine SW.cond rfl (fun hb7 => ?_) (fun hb7 => ?_)
    · have hb7 := of_decide_eq_true hb7
      refine SW.skip ?_
      refine SN.then ?_
      refine SW.seq ?_
      refine SW.block ?_
      refine SW.region ?_
      refine SWl.rd rfl (Rd.move rfl) ?_
      refine SWl.rd rfl (Rd.move rfl) ?_
      refine SWl.rd rfl (Rd.move rfl) ?_
      refine SWl.rd rfl (Rd.idxE (e := 5) rfl rfl (by kernel_rfl) (by kernel_rfl) (by omega) (by omega)) ?_
      refine SWl.ef (S := [_]) (Ef.storeE 0 rfl rfl rfl (by kernel_rfl) (by simp; omega) (List.mem_singleton.2 rfl)) ?_
      rintro _ rfl
      refine SWl.nil ?_
      refine SN.block ?_
      refine SN.then ?_
      refine SW.region ?_
      refine SWl.rd rfl (Rd.move rfl) ?_
      refine SWl.rd rfl (Rd.add rfl rfl ⟨by omega, by omega⟩) ?_
      refine SWl.rd rfl (Rd.assign rfl) ?_
      refine SWl.nil ?_
      exact fun a w hh => hK0 (⟨i + 1, by omega⟩) (by dsimp only; omega) a w (hh.sub (⟨⟨_, rfl, ⟨⟨_, rfl, Le.refl _⟩, ⟨⟨_, rfl, Le.refl _⟩, ⟨⟨_, rfl, Le.is (by simp)⟩, trivial⟩⟩⟩⟩, [0], by decide, ⟨⟨_, rfl, leAll_eq (by rw [show 0 + ((i : Nat) : Int).toNat = i by simp]; exact key_step (by omega))⟩, trivial⟩⟩))
    · obtain rfl : i = 32 := by have := of_decide_eq_false hb7; omega
      refine SW.exit' ?_
      repeat (first | refine SE.then ?_ | refine SE.skip (by decide) ?_)
      refine SE.here ?_
      refine SN.then ?_
      refine SW.seq ?_
      refine SW.region ?_
      refine SWl.freeze 3 0 (cellsOf (List.replicate 32 b)) rfl rfl rfl (by decide) rfl ?_
      refine SWl.rd rfl (Rd.move rfl) ?_
      refine SWl.rd rfl (Rd.assign rfl) ?_
      refine SWl.nil ?_
      refine SN.then ?_
      refine SW.ret (fn := Tryd.f37) (fun _ _ h => h) (Rs.le (Rs.one rfl (ResV.tmp rfl)) ?_)
      exact Le.refl _
set_option maxHeartbeats 4000000 in
set_option maxRecDepth 100000 in
theorem con_over (gb : Nat) (s : Bst) (l : List Acc.T) (hf : Acc.Fine l) : ConR Tryd.prog 42 [.c gb [isD (.map (s.M.map Prod.fst)), isD (.slice s.n.A (Acc.nm l).length s.n.c), isD (.map (s.M.map Prod.snd))], .r s.n.F (vecT 9 1 encT s.n.A s.n.c (Acc.nm l)), .r s.F1 (mapQ (s.M.map Prod.fst) encS (Acc.nm l) (acD l)), .r s.F2 (mapQ (s.M.map Prod.snd) encSt (Acc.seats l) (seD l))] [isD (.pointer (some ⟨gb, 0, none⟩)), aggD [lsD encA l]] (fun _ : Unit => [.c gb [isD (.map (s.M.map Prod.fst)), isD (.slice s.n.A (Acc.nm l).length s.n.c), isD (.map (s.M.map Prod.snd))], .r s.n.F (vecT 9 1 encT s.n.A s.n.c (Acc.nm l)), .r s.F1 (mapQ (s.M.map Prod.fst) encS (Acc.nm l) (acD l)), .r s.F2 (mapQ (s.M.map Prod.snd) encSt (Acc.seats l) (seD l))]) (fun _ : Unit => boolD true) := by
  have hll := hf.len
  have hkb : ∀ e ∈ l, e.key.length ≤ 1000000 := fun e he => by have := (hf.oks e he).2.1; omega
  refine con_ofRMp Tryd.func42 (by kernel_rfl) rfl (by kernel_rfl) fun base w0 => ?_
  refine SW.seq ?_
  refine SW.region ?_
  refine SWl.ef (S := []) (Ef.boxA rfl rfl) ?_
  rintro _ ⟨g3, rfl⟩
  refine SWl.ef (S := []) (Ef.alloc (zs := [.bool false]) (by kernel_rfl) rfl) ?_
  rintro _ ⟨g4, rfl⟩
  refine SWl.nil ?_
  refine SN.then ?_
  refine SW.seq ?_
  refine SW.seq ?_
  refine SW.draw [] (.r 0 (.r 2 (.r 3 (.r 4 (.n 1 (.r 5 .fin) .no))))) (by kernel_rfl) (by kernel_rfl) (fun d _ _ _ _ h => by cases d <;> exact h) ?_
  refine SWz.rd (i := 0) rfl rfl (Rd.move rfl) ?_
  refine SWz.rd (i := 2) rfl rfl (Rd.fieldAddr (n := 0) rfl (by kernel_rfl)) ?_
  refine SWz.rd (i := 3) rfl rfl (Rd.loadB 4 rfl rfl rfl (by kernel_rfl) ap_nil) ?_
  refine SWz.rd (i := 4) rfl rfl (Rd.lenR (e := 33) rfl (by kernel_rfl)) ?_
  refine SWz.efn (i := 1) rfl (Ef.callN [0, 2, 1, 3] (con_lenB l) rfl ⟨(sees_box 0 rfl (by decide) ⟨(sees_mapQ 2 rfl (by decide)), (sees_vec 1 rfl (by decide)), (sees_mapQ 3 rfl (by decide)), trivial⟩), trivial⟩ rfl) ?_ SWz.no
  rintro _ rfl
  refine SWz.rd (i := 5) rfl rfl (Rd.nei rfl rfl) ?_
  refine SWz.nil ?_
  refine SN.then ?_
  refine SW.condF rfl (by simp) ?_
  refine SW.skip ?_
  refine SN.then ?_
  refine SW.seq ?_
  refine SW.region ?_
  refine SWl.rd rfl (Rd.move rfl) ?_
  refine SWl.ef (Ef.callR [0, 1, 2, 3] (con_accounts gb s l hf) rfl ⟨Le.refl _, trivial⟩ (by decide) ⟨⟨_, rfl, LeAll.refl _⟩, ⟨⟨_, rfl, LeR.refl _⟩, ⟨⟨_, rfl, LeR.refl _⟩, ⟨⟨_, rfl, LeR.refl _⟩, trivial⟩⟩⟩⟩ (fun _ h => h) rfl) ?_
  rintro _ ⟨gq, rfl⟩
  refine SWl.rd rfl (Rd.assign rfl) ?_
  refine SWl.nil ?_
  refine SN.then ?_
  refine SW.seq ?_
  refine SW.seq ?_
  refine SW.region ?_
  refine SWl.rd rfl (Rd.move rfl) ?_
  refine SWl.rd rfl (Rd.eqFnI rfl rfl (by kernel_rfl)) ?_
  refine SWl.nil ?_
  refine SN.then ?_
  refine SW.condF rfl (rfl) ?_
  refine SW.skip ?_
  refine SN.then ?_
  refine SW.seq ?_
  refine SW.freezeF 6 5 rfl rfl ?_
  refine SW.sub (σ' := St.ob [(0, isD (.pointer (some ⟨gb, 0, none⟩))), (3, isD (.pointer (some ⟨g3, 0, none⟩))), (4, isD (.pointer (some ⟨g4, 0, none⟩))), (5, fnD 105 [paD [lsD encA l]])] [.c gb [isD (.map (s.M.map Prod.fst)), isD (.slice s.n.A (Acc.nm l).length s.n.c), isD (.map (s.M.map Prod.snd))], .r s.n.F (vecT 9 1 encT s.n.A s.n.c (Acc.nm l)), .r s.F1 (mapQ (s.M.map Prod.fst) encS (Acc.nm l) (acD l)), .r s.F2 (mapQ (s.M.map Prod.snd) encSt (Acc.seats l) (seD l)), .c g3 [lsD encA l], .c g4 [boolD false]]) (⟨⟨_, rfl, ⟨⟨_, rfl, Le.refl _⟩, ⟨⟨_, rfl, Le.refl _⟩, ⟨⟨_, rfl, Le.refl _⟩, ⟨⟨_, rfl, Le.refl _⟩, trivial⟩⟩⟩⟩⟩, [2, 3, 4, 5, 0, 1], by decide, ⟨⟨_, rfl, LeAll.refl _⟩, ⟨⟨_, rfl, LeR.refl _⟩, ⟨⟨_, rfl, LeR.refl _⟩, ⟨⟨_, rfl, LeR.refl _⟩, ⟨⟨_, rfl, LeAll.refl _⟩, ⟨⟨_, rfl, LeAll.refl _⟩, trivial⟩⟩⟩⟩⟩⟩⟩) ?_
  refine SW.region ?_
  refine SWl.ef (S := []) (Ef.alloc (zs := [.int .i64 0]) (by kernel_rfl) rfl) ?_
  rintro _ ⟨g6, rfl⟩
  refine SWl.ef (S := [_]) (Ef.storeV 6 rfl rfl rfl (by kernel_rfl) rfl (List.mem_singleton.2 rfl)) ?_
  rintro _ rfl
  refine SWl.nil ?_
  refine SN.then ?_
  refine SW.seq ?_
  refine SW.seq ?_
  refine SW.sub (σ' := St.ob [(0, isD (.pointer (some ⟨gb, 0, none⟩))), (3, isD (.pointer (some ⟨g3, 0, none⟩))), (4, isD (.pointer (some ⟨g4, 0, none⟩))), (6, isD (.pointer (some ⟨g6, 0, none⟩))), (5, fnD 105 [paD [lsD encA l]])] [.c gb [isD (.map (s.M.map Prod.fst)), isD (.slice s.n.A (Acc.nm l).length s.n.c), isD (.map (s.M.map Prod.snd))], .r s.n.F (vecT 9 1 encT s.n.A s.n.c (Acc.nm l)), .r s.F1 (mapQ (s.M.map Prod.fst) encS (Acc.nm l) (acD l)), .r s.F2 (mapQ (s.M.map Prod.snd) encSt (Acc.seats l) (seD l)), .c g3 [lsD encA l], .c g4 [boolD false], .c g6 [iD ((0 : Nat))]]) (⟨⟨_, rfl, ⟨⟨_, rfl, Le.refl _⟩, ⟨⟨_, rfl, Le.refl _⟩, ⟨⟨_, rfl, Le.refl _⟩, ⟨⟨_, rfl, Le.refl _⟩, ⟨⟨_, rfl, Le.refl _⟩, trivial⟩⟩⟩⟩⟩⟩, [0, 1, 2, 3, 4, 5, 6], by decide, ⟨⟨_, rfl, LeAll.refl _⟩, ⟨⟨_, rfl, LeR.refl _⟩, ⟨⟨_, rfl, LeR.refl _⟩, ⟨⟨_, rfl, LeR.refl _⟩, ⟨⟨_, rfl, LeAll.refl _⟩, ⟨⟨_, rfl, LeAll.refl _⟩, ⟨⟨_, rfl, LeAll.refl _⟩, trivial⟩⟩⟩⟩⟩⟩⟩⟩) ?_
  refine SW.region ?_
  refine SWl.rd rfl (Rd.move rfl) ?_
  refine SWl.nil ?_
  refine SN.then ?_
  refine SW.block ?_
  refine SW.rangeF (gf := 105) (ps := [21, 22]) (ib := ibA) (dd := ddA) (items := (itemsA l)) (fun i bx => bx = [.c gb [isD (.map (s.M.map Prod.fst)), isD (.slice s.n.A (Acc.nm l).length s.n.c), isD (.map (s.M.map Prod.snd))], .r s.n.F (vecT 9 1 encT s.n.A s.n.c (Acc.nm l)), .r s.F1 (mapQ (s.M.map Prod.fst) encS (Acc.nm l) (acD l)), .r s.F2 (mapQ (s.M.map Prod.snd) encSt (Acc.seats l) (seD l)), .c g3 [lsD encA l], .c g4 [boolD false], .c g6 [iD ((i : Int))]]) (fun o i bx => match o with | none => False | some n => False) (fun i x k σ => ∃ g8, σ = St.ob [(0, isD (.pointer (some ⟨gb, 0, none⟩))), (3, isD (.pointer (some ⟨g3, 0, none⟩))), (4, isD (.pointer (some ⟨g4, 0, none⟩))), (6, isD (.pointer (some ⟨g6, 0, none⟩))), (7, iD (x.1 : Int)), (8, isD (.pointer (some ⟨g8, 0, none⟩)))] [.c gb [isD (.map (s.M.map Prod.fst)), isD (.slice s.n.A (Acc.nm l).length s.n.c), isD (.map (s.M.map Prod.snd))], .r s.n.F (vecT 9 1 encT s.n.A s.n.c (Acc.nm l)), .r s.F1 (mapQ (s.M.map Prod.fst) encS (Acc.nm l) (acD l)), .r s.F2 (mapQ (s.M.map Prod.snd) encSt (Acc.seats l) (seD l)), .c g3 [lsD encA l], .c g4 [boolD false], .c g6 [iD ((i : Int))], .r k.F (vecT 5 1 encB k.A k.c x.2.key), .c g8 [strD x.2.name, iD x.2.role, isD (.slice k.A x.2.key.length k.c), iD x.2.dep, iD x.2.num]]) accounts_en (con_accounts_seq l (by omega) hkb) rfl (rfl) (by kernel_rfl) (fun _ _ => rfl) ?_ ?_ ?_ ?_ ?_
  · rintro i x k hx bx rfl y base w0
    refine SWr.seq ?_
    refine SWr.region (by kernel_rfl) (fun _ _ h => h) ?_
    refine SWl.rd rfl (Rd.assign rfl) ?_
    refine SWl.nil ?_
    refine SN.thenr ?_
    refine SWr.region (by kernel_rfl) (fun _ _ h => h) ?_
    refine SWl.ef (S := []) (Ef.alloc (zs := [.string ⟨#[]⟩, .int .i64 0, .slice none 0 0, .int .i64 0, .int .i64 0]) (by kernel_rfl) rfl) ?_
    rintro _ ⟨g8, rfl⟩
    refine SWl.ef (S := [_]) (Ef.storeA 8 rfl rfl rfl (by kernel_rfl) rfl (List.mem_singleton.2 rfl)) ?_
    rintro _ rfl
    refine SWl.nil ?_
    exact SN.rnd (σ' := St.ob [(0, isD (.pointer (some ⟨gb, 0, none⟩))), (3, isD (.pointer (some ⟨g3, 0, none⟩))), (4, isD (.pointer (some ⟨g4, 0, none⟩))), (6, isD (.pointer (some ⟨g6, 0, none⟩))), (7, iD (x.1 : Int)), (8, isD (.pointer (some ⟨g8, 0, none⟩)))] [.c gb [isD (.map (s.M.map Prod.fst)), isD (.slice s.n.A (Acc.nm l).length s.n.c), isD (.map (s.M.map Prod.snd))], .r s.n.F (vecT 9 1 encT s.n.A s.n.c (Acc.nm l)), .r s.F1 (mapQ (s.M.map Prod.fst) encS (Acc.nm l) (acD l)), .r s.F2 (mapQ (s.M.map Prod.snd) encSt (Acc.seats l) (seD l)), .c g3 [lsD encA l], .c g4 [boolD false], .c g6 [iD ((i : Int))], .r k.F (vecT 5 1 encB k.A k.c x.2.key), .c g8 [strD x.2.name, iD x.2.role, isD (.slice k.A x.2.key.length k.c), iD x.2.dep, iD x.2.num]]) ⟨g8, rfl⟩ (⟨⟨_, rfl, ⟨⟨_, rfl, Le.refl _⟩, ⟨⟨_, rfl, Le.refl _⟩, ⟨⟨_, rfl, Le.refl _⟩, ⟨⟨_, rfl, Le.refl _⟩, ⟨⟨_, rfl, Le.refl _⟩, ⟨⟨_, rfl, Le.refl _⟩, trivial⟩⟩⟩⟩⟩⟩⟩, [0, 1, 2, 3, 4, 5, 6, 7, 8], by decide, ⟨⟨_, rfl, LeAll.refl _⟩, ⟨⟨_, rfl, LeR.refl _⟩, ⟨⟨_, rfl, LeR.refl _⟩, ⟨⟨_, rfl, LeR.refl _⟩, ⟨⟨_, rfl, LeAll.refl _⟩, ⟨⟨_, rfl, LeAll.refl _⟩, ⟨⟨_, rfl, LeAll.refl _⟩, ⟨⟨_, rfl, LeR.refl _⟩, ⟨⟨_, rfl, LeAll.refl _⟩, trivial⟩⟩⟩⟩⟩⟩⟩⟩⟩⟩)
  · rintro i x k hx _ ⟨g8, rfl⟩ y base w0
    obtain ⟨hx1, hx2⟩ := itemsA_inv (j := x.1) (e := x.2) hx
    have hlt := (List.getElem?_eq_some_iff.1 hx2).1
    have hxb := hkb x.2 (List.mem_of_getElem? hx2)
    refine SWr.block ?_
    refine SWr.seq ?_
    refine SWr.seq ?_
    refine SWr.draw [] (.r 0 (.r 1 (.r 2 (.r 3 (.r 4 (.r 5 (.r 6 (.r 7 (.r 8 (.r 9 (.r 10 (.r 11 (.r 12 (.r 13 (.r 14 (.r 15 (.r 16 (.n 17 (.r 18 (.r 19 .fin)) .no)))))))))))))))))) (by kernel_rfl) (fun _ _ h => h) (by kernel_rfl) (by kernel_rfl) (fun d _ _ _ _ h => by cases d <;> exact h) ?_
    refine SWz.rd (i := 0) rfl rfl (Rd.move rfl) ?_
    refine SWz.rd (i := 1) rfl rfl (Rd.loadB 6 rfl rfl rfl (by kernel_rfl) ap_nil) ?_
    refine SWz.rd (i := 2) rfl rfl (Rd.nei rfl rfl) ?_
    refine SWz.rd (i := 3) rfl rfl (Rd.move rfl) ?_
    refine SWz.rdg (i := 4) rfl rfl rfl (by simp [hx1]) rfl rfl (Rd.loadB 6 rfl rfl rfl (by kernel_rfl) ap_nil) ?_
    refine SWz.rdg (i := 5) rfl rfl rfl (by simp [hx1]) rfl rfl (Rd.fieldAddr (n := 0) rfl (by kernel_rfl)) ?_
    refine SWz.rdg (i := 6) rfl rfl rfl (by simp [hx1]) rfl rfl (Rd.loadB 4 rfl rfl rfl (by kernel_rfl) ap_nil) ?_
    refine SWz.rdg (i := 7) rfl rfl rfl (by simp [hx1]) rfl rfl (Rd.lenR (e := 33) rfl (by kernel_rfl)) ?_
    refine SWz.rdg (i := 8) rfl rfl rfl (by simp [hx1]) rfl rfl (Rd.geq rfl rfl) ?_
    refine SWz.rd (i := 9) rfl rfl (Rd.pickN rfl (by simp [hx1]) rfl) ?_
    refine SWz.rd (i := 10) rfl rfl (Rd.move rfl) ?_
    refine SWz.rdg (i := 11) rfl rfl rfl (by simp; omega) rfl rfl (Rd.loadA 8 5 rfl rfl (by kernel_rfl) rfl ap_nil) ?_
    refine SWz.rdg (i := 12) rfl rfl rfl (by simp; omega) rfl rfl (Rd.fieldAddr (n := 0) rfl (by kernel_rfl)) ?_
    refine SWz.rdg (i := 13) rfl rfl rfl (by simp; omega) rfl rfl (Rd.loadB 4 rfl rfl rfl (by kernel_rfl) ap_nil) ?_
    refine SWz.rdg (i := 14) rfl rfl rfl (by simp; omega) rfl rfl (Rd.loadB 6 rfl rfl rfl (by kernel_rfl) ap_nil) ?_
    refine SWz.rdg (i := 15) rfl rfl rfl (by simp; omega) rfl rfl (Rd.idxL (e := 33) 5 rfl rfl (by kernel_rfl) (by kernel_rfl) (by omega) (by simpa using hx2)) ?_
    refine SWz.rdg (i := 16) rfl rfl rfl (by simp; omega) rfl rfl (Rd.loadRA 5 rfl (by kernel_rfl) (by decide) (show 5 ≤ 5 by decide) (by simp)) ?_
    refine SWz.efng (i := 17) rfl rfl rfl (by simp; omega) rfl (Ef.callN [7] (con_SameR x.2 x.2) rfl ⟨(sees_agg ⟨(sees_le (Le.refl _)), (sees_le (Le.refl _)), (sees_vecB 7 rfl (by decide)), (sees_le (Le.refl _)), (sees_le (Le.refl _)), trivial⟩), (sees_agg ⟨(sees_le (Le.refl _)), (sees_le (Le.refl _)), (sees_le (Le.refl _)), (sees_le (Le.refl _)), (sees_le (Le.refl _)), trivial⟩), trivial⟩ rfl) ?_ SWz.no
    rintro _ rfl
    refine SWz.rdg (i := 18) rfl rfl rfl (by simp; omega) rfl rfl (Rd.not rfl) ?_
    refine SWz.rd (i := 19) rfl rfl (Rd.pickN rfl (by simp; omega) rfl) ?_
    refine SWz.nil ?_
    refine SN.thenr ?_
    refine SWr.condF rfl (by rw [decide_eq_true (Acc.eqv_refl _)]; rfl) ?_
    refine SWr.skip ?_
    refine SN.thenr ?_
    refine SWr.seq ?_
    refine SWr.seq ?_
    refine SWr.region (by kernel_rfl) (fun _ _ h => h) ?_
    refine SWl.rd rfl (Rd.assign rfl) ?_
    refine SWl.nil ?_
    refine SN.thenr ?_
    refine SWr.block ?_
    refine SWr.loop (ι := {s : Nat × List UInt8 // s.1 ≤ s.2.length ∧ s.2.length = x.2.key.length}) (fun q => St.ob [(0, isD (.pointer (some ⟨gb, 0, none⟩))), (3, isD (.pointer (some ⟨g3, 0, none⟩))), (4, isD (.pointer (some ⟨g4, 0, none⟩))), (6, isD (.pointer (some ⟨g6, 0, none⟩))), (8, isD (.pointer (some ⟨g8, 0, none⟩))), (9, iD (q.1.1 : Int))] [.c gb [isD (.map (s.M.map Prod.fst)), isD (.slice s.n.A (Acc.nm l).length s.n.c), isD (.map (s.M.map Prod.snd))], .r s.n.F (vecT 9 1 encT s.n.A s.n.c (Acc.nm l)), .r s.F1 (mapQ (s.M.map Prod.fst) encS (Acc.nm l) (acD l)), .r s.F2 (mapQ (s.M.map Prod.snd) encSt (Acc.seats l) (seD l)), .c g3 [lsD encA l], .c g4 [boolD false], .c g6 [iD ((i : Int))], .c g8 [strD x.2.name, iD x.2.role, isD (.slice k.A q.1.2.length k.c), iD x.2.dep, iD x.2.num], .r k.F (vecT 5 1 encB k.A k.c q.1.2)]) (fun q => x.2.key.length - q.1.1) (⟨(0, x.2.key), Nat.zero_le _, rfl⟩) ?_ ?_
    · exact ⟨⟨_, rfl, ⟨⟨_, rfl, Le.refl _⟩, ⟨⟨_, rfl, Le.refl _⟩, ⟨⟨_, rfl, Le.refl _⟩, ⟨⟨_, rfl, Le.refl _⟩, ⟨⟨_, rfl, Le.refl _⟩, ⟨⟨_, rfl, Le.refl _⟩, trivial⟩⟩⟩⟩⟩⟩⟩, [0, 1, 2, 3, 4, 5, 6, 8, 7], by decide, ⟨⟨_, rfl, LeAll.refl _⟩, ⟨⟨_, rfl, LeR.refl _⟩, ⟨⟨_, rfl, LeR.refl _⟩, ⟨⟨_, rfl, LeR.refl _⟩, ⟨⟨_, rfl, LeAll.refl _⟩, ⟨⟨_, rfl, LeAll.refl _⟩, ⟨⟨_, rfl, LeAll.refl _⟩, ⟨⟨_, rfl, LeAll.refl _⟩, ⟨⟨_, rfl, LeR.refl _⟩, trivial⟩⟩⟩⟩⟩⟩⟩⟩⟩⟩
    · rintro ⟨⟨n, bs⟩, hn⟩ K0 hK0
      dsimp only at hn ⊢
      refine SWr.seq ?_
      refine SWr.seq ?_
      refine SWr.region (by kernel_rfl) (fun _ _ h => h) ?_
      refine SWl.rd rfl (Rd.move rfl) ?_
      refine SWl.rd rfl (Rd.fieldAddr (n := 2) rfl (by kernel_rfl)) ?_
      refine SWl.rd rfl (Rd.loadB 7 rfl rfl rfl (by kernel_rfl) ap_nil) ?_
      refine SWl.rd rfl (Rd.lenE (e := 5) rfl (by kernel_rfl)) ?_
      refine SWl.rd rfl (Rd.lss rfl rfl) ?_
      refine SWl.nil ?_
      refine SN.thenr ?_
      refine SWr.cond rfl (fun hb47 => ?_) (fun hb47 => ?_)
      · have hb47 := of_decide_eq_true hb47
        refine SWr.skip ?_
        refine SN.thenr ?_
        refine SWr.seq ?_
        refine SWr.block ?_
        obtain ⟨b, hb⟩ : ∃ b, bs[n]? = some b := ⟨_, List.getElem?_eq_getElem (by omega)⟩
        refine SWr.region (by kernel_rfl) (fun _ _ h => h) ?_
        refine SWl.rd rfl (Rd.fieldAddr (n := 2) rfl (by kernel_rfl)) ?_
        refine SWl.rd rfl (Rd.loadB 7 rfl rfl rfl (by kernel_rfl) ap_nil) ?_
        refine SWl.rd rfl (Rd.move rfl) ?_
        refine SWl.rd rfl (Rd.idxT 8 1 rfl rfl rfl (by kernel_rfl) (by kernel_rfl) (by omega) (by simp; omega)) ?_
        refine SWl.rd rfl (Rd.loadT1 8 rfl rfl (by kernel_rfl) hb rfl ap_nil) ?_
        refine SWl.rd rfl (Rd.addB (b := 1) rfl rfl) ?_
        refine SWl.rd rfl (Rd.idxT 8 1 rfl rfl rfl (by kernel_rfl) (by kernel_rfl) (by omega) (by simp; omega)) ?_
        refine SWl.ef (S := _) (Ef.storeT1 (v := b + 1) 8 rfl rfl rfl rfl (by kernel_rfl) (by simp; omega) (fun _ h => h)) ?_
        rintro _ rfl
        refine SWl.nil ?_
        refine SN.block ?_
        refine SN.thenr ?_
        refine SWr.region (by kernel_rfl) (fun _ _ h => h) ?_
        refine SWl.rd rfl (Rd.move rfl) ?_
        refine SWl.rd rfl (Rd.add rfl rfl ⟨by omega, by omega⟩) ?_
        refine SWl.rd rfl (Rd.assign rfl) ?_
        refine SWl.nil ?_
        exact fun a w hh => hK0 (⟨(n + 1, bs.set n (b + 1)), by simp only [List.length_set]; omega, by simp only [List.length_set]; omega⟩) (by simp only; omega) a w (hh.sub (⟨⟨_, rfl, ⟨⟨_, rfl, Le.refl _⟩, ⟨⟨_, rfl, Le.refl _⟩, ⟨⟨_, rfl, Le.refl _⟩, ⟨⟨_, rfl, Le.refl _⟩, ⟨⟨_, rfl, Le.refl _⟩, ⟨⟨_, rfl, Le.refl _⟩, trivial⟩⟩⟩⟩⟩⟩⟩, [0, 1, 2, 3, 4, 5, 6, 7, 8], by decide, ⟨⟨_, rfl, LeAll.refl _⟩, ⟨⟨_, rfl, LeR.refl _⟩, ⟨⟨_, rfl, LeR.refl _⟩, ⟨⟨_, rfl, LeR.refl _⟩, ⟨⟨_, rfl, LeAll.refl _⟩, ⟨⟨_, rfl, LeAll.refl _⟩, ⟨⟨_, rfl, LeAll.refl _⟩, ⟨⟨_, rfl, ⟨Le.refl _, Le.refl _, Le.is (by simp), Le.refl _, Le.refl _, trivial⟩⟩, ⟨⟨_, rfl, leVec (by simp) (by simp)⟩, trivial⟩⟩⟩⟩⟩⟩⟩⟩⟩⟩))
      · skip
        refine SWr.exit' ?_
        repeat (first | refine SE.then ?_ | refine SE.skip (by decide) ?_)
        refine SE.here ?_
        refine SN.thenr ?_
        refine SWr.region (by kernel_rfl) (fun _ _ h => h) ?_
        refine SWl.rd rfl (Rd.loadB 6 rfl rfl rfl (by kernel_rfl) ap_nil) ?_
        refine SWl.rd rfl (Rd.add rfl rfl ⟨by omega, by omega⟩) ?_
        refine SWl.ef (S := [_]) (Ef.storeV 6 rfl rfl rfl (by kernel_rfl) rfl (List.mem_singleton.2 rfl)) ?_
        rintro _ rfl
        refine SWl.nil ?_
        refine SN.block ?_
        exact SN.rnd (σ' := St.ob [] [.c gb [isD (.map (s.M.map Prod.fst)), isD (.slice s.n.A (Acc.nm l).length s.n.c), isD (.map (s.M.map Prod.snd))], .r s.n.F (vecT 9 1 encT s.n.A s.n.c (Acc.nm l)), .r s.F1 (mapQ (s.M.map Prod.fst) encS (Acc.nm l) (acD l)), .r s.F2 (mapQ (s.M.map Prod.snd) encSt (Acc.seats l) (seD l)), .c g3 [lsD encA l], .c g4 [boolD false], .c g6 [iD (((i + 1 : Nat) : Int))]]) rfl (⟨⟨_, rfl, trivial⟩, [0, 1, 2, 3, 4, 5, 6], by decide, ⟨⟨_, rfl, LeAll.refl _⟩, ⟨⟨_, rfl, LeR.refl _⟩, ⟨⟨_, rfl, LeR.refl _⟩, ⟨⟨_, rfl, LeR.refl _⟩, ⟨⟨_, rfl, LeAll.refl _⟩, ⟨⟨_, rfl, LeAll.refl _⟩, ⟨⟨_, rfl, ⟨Le.is (by simp), trivial⟩⟩, trivial⟩⟩⟩⟩⟩⟩⟩⟩)
  · rintro dk0 bx rfl
    refine SN.block ?_
    refine SN.then ?_
    refine SW.seq ?_
    refine SW.sub (σ' := St.ob [(3, isD (.pointer (some ⟨g3, 0, none⟩))), (4, isD (.pointer (some ⟨g4, 0, none⟩))), (6, isD (.pointer (some ⟨g6, 0, none⟩)))] [.c gb [isD (.map (s.M.map Prod.fst)), isD (.slice s.n.A (Acc.nm l).length s.n.c), isD (.map (s.M.map Prod.snd))], .r s.n.F (vecT 9 1 encT s.n.A s.n.c (Acc.nm l)), .r s.F1 (mapQ (s.M.map Prod.fst) encS (Acc.nm l) (acD l)), .r s.F2 (mapQ (s.M.map Prod.snd) encSt (Acc.seats l) (seD l)), .c g3 [lsD encA l], .c g4 [boolD false], .c g6 [iD ((l.length : Int))], .r [dk0] dfR]) (⟨⟨_, rfl, ⟨⟨_, rfl, Le.refl _⟩, ⟨⟨_, rfl, Le.refl _⟩, ⟨⟨_, rfl, Le.refl _⟩, trivial⟩⟩⟩⟩, [0, 1, 2, 3, 4, 5, 6, 7], by decide, ⟨⟨_, rfl, LeAll.refl _⟩, ⟨⟨_, rfl, LeR.refl _⟩, ⟨⟨_, rfl, LeR.refl _⟩, ⟨⟨_, rfl, LeR.refl _⟩, ⟨⟨_, rfl, LeAll.refl _⟩, ⟨⟨_, rfl, LeAll.refl _⟩, ⟨⟨_, rfl, ⟨Le.is (by rw [itemsA_len]), trivial⟩⟩, ⟨⟨_, rfl, LeR.refl _⟩, trivial⟩⟩⟩⟩⟩⟩⟩⟩⟩) ?_
    refine SW.region ?_
    refine SWl.rd rfl (Rd.loadB 6 rfl rfl rfl (by kernel_rfl) ap_nil) ?_
    refine SWl.rd rfl (Rd.fieldAddr (n := 0) rfl (by kernel_rfl)) ?_
    refine SWl.rd rfl (Rd.loadB 4 rfl rfl rfl (by kernel_rfl) ap_nil) ?_
    refine SWl.rd rfl (Rd.lenR (e := 33) rfl (by kernel_rfl)) ?_
    refine SWl.rd rfl (Rd.eqi rfl rfl) ?_
    refine SWl.ef (S := [_]) (Ef.storeV 5 rfl rfl rfl (by kernel_rfl) rfl (List.mem_singleton.2 rfl)) ?_
    rintro _ rfl
    refine SWl.nil ?_
    refine SN.then ?_
    refine SW.retM (fn := Tryd.f42) (fun _ _ h => h) ?_
    refine RM.mark 7 rfl ?_
    refine RM.finR (()) [0, 1, 2, 3] (Rs.le (Rs.one rfl (ResV.cellV 5 rfl rfl (by kernel_rfl) rfl)) ?_) (by decide) ⟨⟨_, rfl, LeAll.refl _⟩, ⟨⟨_, rfl, LeR.refl _⟩, ⟨⟨_, rfl, LeR.refl _⟩, ⟨⟨_, rfl, LeR.refl _⟩, trivial⟩⟩⟩⟩
    exact Le.is (by simp)
  · rintro _ _ _ _ hX; exact hX.elim
  · rintro _ _ _ hX; exact hX.elim
end Sx
end Go.Proofs.YtchbgfgboogniaaDoor
namespace Go.Proofs.YtchbgfgboogniaaDoor
open Go.RowKit
namespace Sx
theorem bldA4 {n : List UInt8} {r d : Int} {b : List UInt8} : Bld Tryd.prog 33 [0, 1, 2, 3] [strD n, iD r, bD b, iD d] [strD n, iD r, bD b, iD d, iD 0] := fun L w vs hv => by
  match vs, hv with
  | [x, y, z, u], ⟨hx, hy, h3, hu, _⟩ =>
    cases hx; cases hy; cases hu
    have h3' := h3
    obtain ⟨A, cp, rfl, -⟩ := h3
    exact ⟨[.string _, .int .i64 r, .slice A _ cp, .int .i64 d, .int .i64 0], ⟨rfl, rfl, h3', rfl, rfl, trivial⟩, fun w' => by kernel_rfl⟩
theorem bldA5 {n : List UInt8} {r d m : Int} {b : List UInt8} : Bld Tryd.prog 33 [0, 1, 2, 3, 4] [strD n, iD r, bD b, iD d, iD m] [strD n, iD r, bD b, iD d, iD m] := fun L w vs hv => by
  match vs, hv with
  | [x, y, z, u, v], ⟨hx, hy, h3, hu, hw, _⟩ =>
    cases hx; cases hy; cases hu; cases hw
    have h3' := h3
    obtain ⟨A, cp, rfl, -⟩ := h3
    exact ⟨[.string _, .int .i64 r, .slice A _ cp, .int .i64 d, .int .i64 m], ⟨rfl, rfl, h3', rfl, rfl, trivial⟩, fun w' => by kernel_rfl⟩
theorem blsA2 (x y : Acc.T) : Bls Tryd.prog 22 2 [0, 1] [aggD [strD x.name, iD x.role, bD x.key, iD x.dep, iD x.num], aggD [strD y.name, iD y.role, bD y.key, iD y.dep, iD y.num]] ([x, y].flatMap encA) := ⟨33, fun L w vs hv => by
  obtain ⟨u, v, rfl, h1, h2⟩ := all2 hv
  obtain ⟨cs, rfl, hc⟩ := h1
  obtain ⟨ds, rfl, hd⟩ := h2
  match cs, hc, ds, hd with
  | [a, b, c, d, e], hc, [a', b', c', d', e'], hd =>
    obtain ⟨rfl, rfl, h3, rfl, rfl, -⟩ := hc
    obtain ⟨rfl, rfl, k3, rfl, rfl, -⟩ := hd
    have h3' := h3
    have k3' := k3
    obtain ⟨A, cp, rfl, -⟩ := h3
    obtain ⟨A', cp', rfl, -⟩ := k3
    exact ⟨[.string _, .int .i64 _, .slice A _ cp, .int .i64 _, .int .i64 _, .string _, .int .i64 _, .slice A' _ cp', .int .i64 _, .int .i64 _], ⟨rfl, rfl, h3', rfl, rfl, rfl, rfl, k3', rfl, rfl, trivial⟩, fun w' => by kernel_rfl⟩⟩
abbrev aW : Acc.T := ⟨[119, 120, 121, 122], 1, List.replicate 32 7, 100, 5⟩
abbrev aA : Acc.T := ⟨[97, 99, 109, 101], 2, List.replicate 32 8, 1000, 0⟩
theorem addW : Acc.add [] aW = ([aW], 0) := (Acc.add_ok (by decide +kernel) (by decide +kernel) (by decide)).trans (by rfl)
theorem addA : Acc.add [aW] aA = ([aA, aW], 0) := (Acc.add_ok (by decide +kernel) (by decide +kernel) (by decide)).trans (by rfl)
theorem addWW : Acc.add [aA, aW] aW = ([aA, aW], 11) := Acc.add_busy (by decide +kernel) (by decide +kernel)
theorem fineW : Acc.Fine [aW] := by have h := Acc.Fine.nil.add aW; rw [addW] at h; exact h
theorem fineK : Acc.Fine [aA, aW] := by have h := fineW.add aA; rw [addA] at h; exact h
theorem con_add_to {gb : Nat} {s : Bst} {l l' : List Acc.T} {a : Acc.T} {e : Int} {A : Option Addr} {c : Nat} {F : List Nat} {R : Res} (hR : IsView R (.slice A a.key.length c) (cellsOf a.key)) (hf : Acc.Fine l) (h : Acc.add l a = (l', e)) :
    ConR Tryd.prog 11 [bookC gb s l, bookN s l, bookA s l, bookS s l, .r F R] [isD (.pointer (some ⟨gb, 0, none⟩)), aggD [strD a.name, iD a.role, isD (.slice A a.key.length c), iD a.dep, iD a.num]]
      (fun t : Bst => [bookC gb t l', bookN t l', bookA t l', bookS t l', .r F R]) (fun _ => iD e) := by
  have hc := con_add gb s l a A c F R hR hf
  rw [h] at hc
  exact hc
theorem con_of_to {l : List Acc.T} {r n e : Int} {a : Acc.T} (hf : Acc.Fine l) (h1 : Acc.ofA l (r, n) = a) (h2 : Acc.ofE l (r, n) = e) : ConN Tryd.prog 39 [bookD l, iD r, iD n] (tupD [aggD (encA a), iD e]) := by
  have h := con_ofSeat l r n hf
  rw [h1, h2] at h
  exact h
theorem con_units_to {l : List Acc.T} {nm : List UInt8} {p q e : Int} (hp : ¬ p < 1) (hf : Acc.Fine l) (h1 : (Acc.getA l nm).dep / p = q) (h2 : Acc.getE l nm = e) : ConN Tryd.prog 40 [bookD l, strD nm, iD p] (tupD [iD q, iD e]) := by
  have h := con_units l nm p hp hf
  rw [h1, h2] at h
  exact h
theorem con_of_tu {l : List Acc.T} {r n e : Int} {a : Acc.T} (hf : Acc.Fine l) (h1 : Acc.ofA l (r, n) = a) (h2 : Acc.ofE l (r, n) = e) : ConN Tryd.prog 39 [bookD l, iD r, iD n] (tupD [aggD [strD a.name, iD a.role, bD a.key, iD a.dep, iD a.num], iD e]) := con_of_to hf h1 h2
end Sx
end Go.Proofs.YtchbgfgboogniaaDoor
namespace Go.Proofs.YtchbgfgboogniaaDoor
open Go.RowKit
namespace Sx
set_option maxHeartbeats 4000000 in
set_option maxRecDepth 100000 in
theorem con_known41  : ConN Tryd.prog 10 [] (boolD true) := by
  refine con_ofN Tryd.func10 (by kernel_rfl) rfl (by kernel_rfl) fun base w0 => ?_
  refine SW.seq ?_
  refine SW.region ?_
  refine SWl.rd rfl (Rd.assign rfl) ?_
  refine SWl.nil ?_
  refine SN.then ?_
  refine SW.seq ?_
  refine SW.region ?_
  refine SWl.ef (S := []) (Ef.call (con_key 7) rfl ⟨Le.refl _, trivial⟩ rfl) ?_
  rintro _ rfl
  refine SWl.rd rfl (Rd.build rfl rfl (bldA5 (n := aW.name) (r := 1) (d := 100) (m := 5))) ?_
  refine SWl.ef (S := []) (Ef.alloc (zs := [.string ⟨#[]⟩, .int .i64 0, .slice none 0 0, .int .i64 0, .int .i64 0]) (by kernel_rfl) rfl) ?_
  rintro _ ⟨g1, rfl⟩
  refine SWl.ef (S := [_]) (Ef.storeA 0 rfl rfl rfl (by kernel_rfl) rfl (List.mem_singleton.2 rfl)) ?_
  rintro _ rfl
  refine SWl.nil ?_
  refine SN.then ?_
  refine SW.seq ?_
  refine SW.sub (σ' := St.ob [(1, isD (.pointer (some ⟨g1, 0, none⟩)))] [.c g1 [strD aW.name, iD aW.role, bD aW.key, iD aW.dep, iD aW.num]]) (⟨⟨_, rfl, ⟨⟨_, rfl, Le.refl _⟩, trivial⟩⟩, [0], by decide, ⟨⟨_, rfl, LeAll.refl _⟩, trivial⟩⟩) ?_
  refine SW.region ?_
  refine SWl.rd rfl (Rd.build rfl rfl bldBk0) ?_
  refine SWl.ef (S := []) (Ef.boxA rfl rfl) ?_
  rintro _ ⟨g18, rfl⟩
  refine SWl.rd rfl (Rd.assign rfl) ?_
  refine SWl.nil ?_
  refine SN.then ?_
  refine SW.seq ?_
  refine SW.seq ?_
  refine SW.vecN 9 1 encT ?_
  refine SW.mapQN encS (acD []) ?_
  refine SW.mapQN encSt (seD []) ?_
  refine SW.sub (σ' := St.ob [(1, isD (.pointer (some ⟨g1, 0, none⟩))), (2, isD (.pointer (some ⟨g18, 0, none⟩)))] [.c g1 [strD aW.name, iD aW.role, bD aW.key, iD aW.dep, iD aW.num], .c g18 [isD (.map ((⟨none, [], [], ⟨none, 0, []⟩⟩ : Bst).M.map Prod.fst)), isD (.slice (⟨none, [], [], ⟨none, 0, []⟩⟩ : Bst).n.A (Acc.nm []).length (⟨none, [], [], ⟨none, 0, []⟩⟩ : Bst).n.c), isD (.map ((⟨none, [], [], ⟨none, 0, []⟩⟩ : Bst).M.map Prod.snd))], .r (⟨none, [], [], ⟨none, 0, []⟩⟩ : Bst).n.F (vecT 9 1 encT (⟨none, [], [], ⟨none, 0, []⟩⟩ : Bst).n.A (⟨none, [], [], ⟨none, 0, []⟩⟩ : Bst).n.c (Acc.nm [])), .r (⟨none, [], [], ⟨none, 0, []⟩⟩ : Bst).F1 (mapQ ((⟨none, [], [], ⟨none, 0, []⟩⟩ : Bst).M.map Prod.fst) encS (Acc.nm []) (acD [])), .r (⟨none, [], [], ⟨none, 0, []⟩⟩ : Bst).F2 (mapQ ((⟨none, [], [], ⟨none, 0, []⟩⟩ : Bst).M.map Prod.snd) encSt (Acc.seats []) (seD []))]) (⟨⟨_, rfl, ⟨⟨_, rfl, Le.refl _⟩, ⟨⟨_, rfl, Le.refl _⟩, trivial⟩⟩⟩, [0, 1, 2, 3, 4], by decide, ⟨⟨_, rfl, LeAll.refl _⟩, ⟨⟨_, rfl, LeAll.refl _⟩, ⟨⟨_, rfl, LeR.refl _⟩, ⟨⟨_, rfl, LeR.refl _⟩, ⟨⟨_, rfl, LeR.refl _⟩, trivial⟩⟩⟩⟩⟩⟩) ?_
  refine SW.region ?_
  refine SWl.rd rfl (Rd.move rfl) ?_
  refine SWl.rd rfl (Rd.loadA 0 5 rfl rfl (by kernel_rfl) rfl ap_nil) ?_
  refine SWl.lookA5 20 rfl fun A20 c20 => ?_
  refine SWl.ef (Ef.callR [1, 2, 3, 4, 5] (con_add_to (gb := g18) (s := (⟨none, [], [], ⟨none, 0, []⟩⟩ : Bst)) (l := []) (a := aW) (A := A20) (c := c20) (isView_viewB _ _ _ _ rfl) Acc.Fine.nil addW) rfl ⟨Le.refl _, Le.refl _, trivial⟩ (by decide) ⟨⟨_, rfl, LeAll.refl _⟩, ⟨⟨_, rfl, LeR.refl _⟩, ⟨⟨_, rfl, LeR.refl _⟩, ⟨⟨_, rfl, LeR.refl _⟩, ⟨⟨_, rfl, LeR.refl _⟩, trivial⟩⟩⟩⟩⟩ (fun _ h => h) rfl) ?_
  rintro _ ⟨s21, rfl⟩
  refine SWl.rd rfl (Rd.nei rfl rfl) ?_
  refine SWl.rd rfl (Rd.move rfl) ?_
  refine SWl.rdg rfl rfl (by decide) rfl rfl (Rd.move rfl) ?_
  refine SWl.efg (S := []) rfl rfl (by decide) rfl (Ef.call (con_key 8) rfl ⟨Le.refl _, trivial⟩ rfl) ?_
  rintro _ rfl
  refine SWl.rdg rfl rfl (by decide) rfl rfl (Rd.build rfl rfl (bldA4 (n := aA.name) (r := 2) (d := 1000))) ?_
  refine SWl.lookA5 26 rfl fun A26 c26 => ?_
  refine SWl.efg rfl rfl (by decide) rfl (Ef.callR [1, 2, 3, 4, 6] (con_add_to (gb := g18) (s := s21) (l := [aW]) (a := aA) (A := A26) (c := c26) (isView_viewB _ _ _ _ rfl) fineW addA) rfl ⟨Le.refl _, Le.refl _, trivial⟩ (by decide) ⟨⟨_, rfl, LeAll.refl _⟩, ⟨⟨_, rfl, LeR.refl _⟩, ⟨⟨_, rfl, LeR.refl _⟩, ⟨⟨_, rfl, LeR.refl _⟩, ⟨⟨_, rfl, LeR.refl _⟩, trivial⟩⟩⟩⟩⟩ (fun _ h => h) rfl) ?_
  rintro _ ⟨s27, rfl⟩
  refine SWl.rdg rfl rfl (by decide) rfl rfl (Rd.nei rfl rfl) ?_
  refine SWl.rd rfl (Rd.pickN rfl (by decide) rfl) ?_
  refine SWl.rd rfl (Rd.move rfl) ?_
  refine SWl.rdg rfl rfl (by decide) rfl rfl (Rd.move rfl) ?_
  refine SWl.rdg rfl rfl (by decide) rfl rfl (Rd.loadA 0 5 rfl rfl (by kernel_rfl) rfl ap_nil) ?_
  refine SWl.lookA5 32 rfl fun A32 c32 => ?_
  refine SWl.efg rfl rfl (by decide) rfl (Ef.callR [2, 3, 4, 5, 7] (con_add_to (gb := g18) (s := s27) (l := [aA, aW]) (a := aW) (A := A32) (c := c32) (isView_viewB _ _ _ _ rfl) fineK addWW) rfl ⟨Le.refl _, Le.refl _, trivial⟩ (by decide) ⟨⟨_, rfl, LeAll.refl _⟩, ⟨⟨_, rfl, LeR.refl _⟩, ⟨⟨_, rfl, LeR.refl _⟩, ⟨⟨_, rfl, LeR.refl _⟩, ⟨⟨_, rfl, LeR.refl _⟩, trivial⟩⟩⟩⟩⟩ (fun _ h => h) rfl) ?_
  rintro _ ⟨s33, rfl⟩
  refine SWl.rdg rfl rfl (by decide) rfl rfl (Rd.nei rfl rfl) ?_
  refine SWl.rd rfl (Rd.pickN rfl (by decide) rfl) ?_
  refine SWl.rd rfl (Rd.move rfl) ?_
  refine SWl.rdg rfl rfl (by decide) rfl rfl (Rd.move rfl) ?_
  refine SWl.efg (S := []) rfl rfl (by decide) rfl (Ef.callN [3, 5, 4, 6] (con_lenB [aA, aW]) rfl ⟨(sees_box 3 rfl (by decide) ⟨(sees_mapQ 5 rfl (by decide)), (sees_vec 4 rfl (by decide)), (sees_mapQ 6 rfl (by decide)), trivial⟩), trivial⟩ rfl) ?_
  rintro _ rfl
  refine SWl.rdg rfl rfl (by decide) rfl rfl (Rd.nei rfl rfl) ?_
  refine SWl.rd rfl (Rd.pickN rfl (by decide) rfl) ?_
  refine SWl.nil ?_
  refine SN.then ?_
  refine SW.condF rfl (by decide) ?_
  refine SW.skip ?_
  refine SN.then ?_
  refine SW.seq ?_
  refine SW.sub (σ' := St.ob [(1, isD (.pointer (some ⟨g1, 0, none⟩))), (2, isD (.pointer (some ⟨g18, 0, none⟩)))] [.c g1 [strD aW.name, iD aW.role, bD aW.key, iD aW.dep, iD aW.num], .c g18 [isD (.map (s33.M.map Prod.fst)), isD (.slice s33.n.A (Acc.nm [aA, aW]).length s33.n.c), isD (.map (s33.M.map Prod.snd))], .r s33.n.F (vecT 9 1 encT s33.n.A s33.n.c (Acc.nm [aA, aW])), .r s33.F1 (mapQ (s33.M.map Prod.fst) encS (Acc.nm [aA, aW]) (acD [aA, aW])), .r s33.F2 (mapQ (s33.M.map Prod.snd) encSt (Acc.seats [aA, aW]) (seD [aA, aW]))]) (⟨⟨_, rfl, ⟨⟨_, rfl, Le.refl _⟩, ⟨⟨_, rfl, Le.refl _⟩, trivial⟩⟩⟩, [0, 3, 4, 5, 6], by decide, ⟨⟨_, rfl, LeAll.refl _⟩, ⟨⟨_, rfl, LeAll.refl _⟩, ⟨⟨_, rfl, LeR.refl _⟩, ⟨⟨_, rfl, LeR.refl _⟩, ⟨⟨_, rfl, LeR.refl _⟩, trivial⟩⟩⟩⟩⟩⟩) ?_
  refine SW.region ?_
  refine SWl.rd rfl (Rd.move rfl) ?_
  refine SWl.ef (S := []) (Ef.callN [1, 3, 2, 4] (con_of_tu (l := [aA, aW]) (r := 1) (n := 5) (a := aW) (e := 0) fineK rfl rfl) rfl ⟨(sees_box 1 rfl (by decide) ⟨(sees_mapQ 3 rfl (by decide)), (sees_vec 2 rfl (by decide)), (sees_mapQ 4 rfl (by decide)), trivial⟩), (sees_le (Le.refl _)), (sees_le (Le.refl _)), trivial⟩ rfl) ?_
  rintro _ rfl
  refine SWl.rd rfl (Rd.move rfl) ?_
  refine SWl.rd rfl (Rd.extract rfl rfl) ?_
  refine SWl.rd rfl (Rd.extract rfl rfl) ?_
  refine SWl.ef (S := []) (Ef.alloc (zs := [.string ⟨#[]⟩, .int .i64 0, .slice none 0 0, .int .i64 0, .int .i64 0]) (by kernel_rfl) rfl) ?_
  rintro _ ⟨g3, rfl⟩
  refine SWl.ef (S := [_]) (Ef.storeA 5 rfl rfl rfl (by kernel_rfl) rfl (List.mem_singleton.2 rfl)) ?_
  rintro _ rfl
  refine SWl.rd rfl (Rd.assign rfl) ?_
  refine SWl.nil ?_
  refine SN.then ?_
  refine SW.seq ?_
  refine SW.sub (σ' := St.ob [(1, isD (.pointer (some ⟨g1, 0, none⟩))), (2, isD (.pointer (some ⟨g18, 0, none⟩))), (3, isD (.pointer (some ⟨g3, 0, none⟩))), (4, iD 0)] [.c g1 [strD aW.name, iD aW.role, bD aW.key, iD aW.dep, iD aW.num], .c g3 [strD aW.name, iD aW.role, bD aW.key, iD aW.dep, iD aW.num], .c g18 [isD (.map (s33.M.map Prod.fst)), isD (.slice s33.n.A (Acc.nm [aA, aW]).length s33.n.c), isD (.map (s33.M.map Prod.snd))], .r s33.n.F (vecT 9 1 encT s33.n.A s33.n.c (Acc.nm [aA, aW])), .r s33.F1 (mapQ (s33.M.map Prod.fst) encS (Acc.nm [aA, aW]) (acD [aA, aW])), .r s33.F2 (mapQ (s33.M.map Prod.snd) encSt (Acc.seats [aA, aW]) (seD [aA, aW]))]) (⟨⟨_, rfl, ⟨⟨_, rfl, Le.refl _⟩, ⟨⟨_, rfl, Le.refl _⟩, ⟨⟨_, rfl, Le.refl _⟩, ⟨⟨_, rfl, Le.refl _⟩, trivial⟩⟩⟩⟩⟩, [0, 5, 1, 2, 3, 4], by decide, ⟨⟨_, rfl, LeAll.refl _⟩, ⟨⟨_, rfl, LeAll.refl _⟩, ⟨⟨_, rfl, LeAll.refl _⟩, ⟨⟨_, rfl, LeR.refl _⟩, ⟨⟨_, rfl, LeR.refl _⟩, ⟨⟨_, rfl, LeR.refl _⟩, trivial⟩⟩⟩⟩⟩⟩⟩) ?_
  refine SW.region ?_
  refine SWl.rd rfl (Rd.move rfl) ?_
  refine SWl.ef (S := []) (Ef.callN [2, 4, 3, 5] (con_of_tu (l := [aA, aW]) (r := 2) (n := 5) (a := Acc.zero) (e := 9) fineK rfl rfl) rfl ⟨(sees_box 2 rfl (by decide) ⟨(sees_mapQ 4 rfl (by decide)), (sees_vec 3 rfl (by decide)), (sees_mapQ 5 rfl (by decide)), trivial⟩), (sees_le (Le.refl _)), (sees_le (Le.refl _)), trivial⟩ rfl) ?_
  rintro _ rfl
  refine SWl.rd rfl (Rd.move rfl) ?_
  refine SWl.rd rfl (Rd.extract rfl rfl) ?_
  refine SWl.rd rfl (Rd.extract rfl rfl) ?_
  refine SWl.ef (S := []) (Ef.alloc (zs := [.string ⟨#[]⟩, .int .i64 0, .slice none 0 0, .int .i64 0, .int .i64 0]) (by kernel_rfl) rfl) ?_
  rintro _ ⟨g5, rfl⟩
  refine SWl.ef (S := [_]) (Ef.storeA 6 rfl rfl rfl (by kernel_rfl) rfl (List.mem_singleton.2 rfl)) ?_
  rintro _ rfl
  refine SWl.rd rfl (Rd.assign rfl) ?_
  refine SWl.nil ?_
  refine SN.then ?_
  refine SW.seq ?_
  refine SW.sub (σ' := St.ob [(1, isD (.pointer (some ⟨g1, 0, none⟩))), (2, isD (.pointer (some ⟨g18, 0, none⟩))), (3, isD (.pointer (some ⟨g3, 0, none⟩))), (4, iD 0), (6, iD 9)] [.c g1 [strD aW.name, iD aW.role, bD aW.key, iD aW.dep, iD aW.num], .c g3 [strD aW.name, iD aW.role, bD aW.key, iD aW.dep, iD aW.num], .c g18 [isD (.map (s33.M.map Prod.fst)), isD (.slice s33.n.A (Acc.nm [aA, aW]).length s33.n.c), isD (.map (s33.M.map Prod.snd))], .r s33.n.F (vecT 9 1 encT s33.n.A s33.n.c (Acc.nm [aA, aW])), .r s33.F1 (mapQ (s33.M.map Prod.fst) encS (Acc.nm [aA, aW]) (acD [aA, aW])), .r s33.F2 (mapQ (s33.M.map Prod.snd) encSt (Acc.seats [aA, aW]) (seD [aA, aW]))]) (⟨⟨_, rfl, ⟨⟨_, rfl, Le.refl _⟩, ⟨⟨_, rfl, Le.refl _⟩, ⟨⟨_, rfl, Le.refl _⟩, ⟨⟨_, rfl, Le.refl _⟩, ⟨⟨_, rfl, Le.refl _⟩, trivial⟩⟩⟩⟩⟩⟩, [0, 1, 2, 3, 4, 5], by decide, ⟨⟨_, rfl, LeAll.refl _⟩, ⟨⟨_, rfl, LeAll.refl _⟩, ⟨⟨_, rfl, LeAll.refl _⟩, ⟨⟨_, rfl, LeR.refl _⟩, ⟨⟨_, rfl, LeR.refl _⟩, ⟨⟨_, rfl, LeR.refl _⟩, trivial⟩⟩⟩⟩⟩⟩⟩) ?_
  refine SW.region ?_
  refine SWl.rd rfl (Rd.move rfl) ?_
  refine SWl.ef (S := []) (Ef.callN [2, 4, 3, 5] (con_of_tu (l := [aA, aW]) (r := 3) (n := 0) (a := Acc.zero) (e := 9) fineK rfl rfl) rfl ⟨(sees_box 2 rfl (by decide) ⟨(sees_mapQ 4 rfl (by decide)), (sees_vec 3 rfl (by decide)), (sees_mapQ 5 rfl (by decide)), trivial⟩), (sees_le (Le.refl _)), (sees_le (Le.refl _)), trivial⟩ rfl) ?_
  rintro _ rfl
  refine SWl.rd rfl (Rd.move rfl) ?_
  refine SWl.rd rfl (Rd.extract rfl rfl) ?_
  refine SWl.rd rfl (Rd.extract rfl rfl) ?_
  refine SWl.ef (S := []) (Ef.alloc (zs := [.string ⟨#[]⟩, .int .i64 0, .slice none 0 0, .int .i64 0, .int .i64 0]) (by kernel_rfl) rfl) ?_
  rintro _ ⟨g7, rfl⟩
  refine SWl.ef (S := [_]) (Ef.storeA 6 rfl rfl rfl (by kernel_rfl) rfl (List.mem_singleton.2 rfl)) ?_
  rintro _ rfl
  refine SWl.rd rfl (Rd.assign rfl) ?_
  refine SWl.nil ?_
  refine SN.then ?_
  refine SW.seq ?_
  refine SW.sub (σ' := St.ob [(1, isD (.pointer (some ⟨g1, 0, none⟩))), (2, isD (.pointer (some ⟨g18, 0, none⟩))), (3, isD (.pointer (some ⟨g3, 0, none⟩))), (4, iD 0), (6, iD 9), (8, iD 9)] [.c g1 [strD aW.name, iD aW.role, bD aW.key, iD aW.dep, iD aW.num], .c g3 [strD aW.name, iD aW.role, bD aW.key, iD aW.dep, iD aW.num], .c g18 [isD (.map (s33.M.map Prod.fst)), isD (.slice s33.n.A (Acc.nm [aA, aW]).length s33.n.c), isD (.map (s33.M.map Prod.snd))], .r s33.n.F (vecT 9 1 encT s33.n.A s33.n.c (Acc.nm [aA, aW])), .r s33.F1 (mapQ (s33.M.map Prod.fst) encS (Acc.nm [aA, aW]) (acD [aA, aW])), .r s33.F2 (mapQ (s33.M.map Prod.snd) encSt (Acc.seats [aA, aW]) (seD [aA, aW]))]) (⟨⟨_, rfl, ⟨⟨_, rfl, Le.refl _⟩, ⟨⟨_, rfl, Le.refl _⟩, ⟨⟨_, rfl, Le.refl _⟩, ⟨⟨_, rfl, Le.refl _⟩, ⟨⟨_, rfl, Le.refl _⟩, ⟨⟨_, rfl, Le.refl _⟩, trivial⟩⟩⟩⟩⟩⟩⟩, [0, 1, 2, 3, 4, 5], by decide, ⟨⟨_, rfl, LeAll.refl _⟩, ⟨⟨_, rfl, LeAll.refl _⟩, ⟨⟨_, rfl, LeAll.refl _⟩, ⟨⟨_, rfl, LeR.refl _⟩, ⟨⟨_, rfl, LeR.refl _⟩, ⟨⟨_, rfl, LeR.refl _⟩, trivial⟩⟩⟩⟩⟩⟩⟩) ?_
  refine SW.region ?_
  refine SWl.rd rfl (Rd.move rfl) ?_
  refine SWl.ef (S := []) (Ef.callN [2, 4, 3, 5] (con_units_to (l := [aA, aW]) (nm := ([97, 99, 109, 101] : List UInt8)) (p := 300) (q := 3) (e := 0) (by decide) fineK (by decide +kernel) (by decide +kernel)) rfl ⟨(sees_box 2 rfl (by decide) ⟨(sees_mapQ 4 rfl (by decide)), (sees_vec 3 rfl (by decide)), (sees_mapQ 5 rfl (by decide)), trivial⟩), (sees_le (Le.refl _)), (sees_le (Le.refl _)), trivial⟩ rfl) ?_
  rintro _ rfl
  refine SWl.rd rfl (Rd.move rfl) ?_
  refine SWl.rd rfl (Rd.extract rfl rfl) ?_
  refine SWl.rd rfl (Rd.extract rfl rfl) ?_
  refine SWl.rd rfl (Rd.assign rfl) ?_
  refine SWl.rd rfl (Rd.assign rfl) ?_
  refine SWl.nil ?_
  refine SN.then ?_
  refine SW.seq ?_
  refine SW.sub (σ' := St.ob [(1, isD (.pointer (some ⟨g1, 0, none⟩))), (2, isD (.pointer (some ⟨g18, 0, none⟩))), (3, isD (.pointer (some ⟨g3, 0, none⟩))), (4, iD 0), (6, iD 9), (8, iD 9), (9, iD 3), (10, iD 0)] [.c g1 [strD aW.name, iD aW.role, bD aW.key, iD aW.dep, iD aW.num], .c g3 [strD aW.name, iD aW.role, bD aW.key, iD aW.dep, iD aW.num], .c g18 [isD (.map (s33.M.map Prod.fst)), isD (.slice s33.n.A (Acc.nm [aA, aW]).length s33.n.c), isD (.map (s33.M.map Prod.snd))], .r s33.n.F (vecT 9 1 encT s33.n.A s33.n.c (Acc.nm [aA, aW])), .r s33.F1 (mapQ (s33.M.map Prod.fst) encS (Acc.nm [aA, aW]) (acD [aA, aW])), .r s33.F2 (mapQ (s33.M.map Prod.snd) encSt (Acc.seats [aA, aW]) (seD [aA, aW]))]) (⟨⟨_, rfl, ⟨⟨_, rfl, Le.refl _⟩, ⟨⟨_, rfl, Le.refl _⟩, ⟨⟨_, rfl, Le.refl _⟩, ⟨⟨_, rfl, Le.refl _⟩, ⟨⟨_, rfl, Le.refl _⟩, ⟨⟨_, rfl, Le.refl _⟩, ⟨⟨_, rfl, Le.refl _⟩, ⟨⟨_, rfl, Le.refl _⟩, trivial⟩⟩⟩⟩⟩⟩⟩⟩⟩, [0, 1, 2, 3, 4, 5], by decide, ⟨⟨_, rfl, LeAll.refl _⟩, ⟨⟨_, rfl, LeAll.refl _⟩, ⟨⟨_, rfl, LeAll.refl _⟩, ⟨⟨_, rfl, LeR.refl _⟩, ⟨⟨_, rfl, LeR.refl _⟩, ⟨⟨_, rfl, LeR.refl _⟩, trivial⟩⟩⟩⟩⟩⟩⟩) ?_
  refine SW.region ?_
  refine SWl.rd rfl (Rd.move rfl) ?_
  refine SWl.ef (S := []) (Ef.callN [2, 4, 3, 5] (con_units_to (l := [aA, aW]) (nm := ([110, 111, 110, 101] : List UInt8)) (p := 300) (q := 0) (e := 9) (by decide) fineK (by decide +kernel) (by decide +kernel)) rfl ⟨(sees_box 2 rfl (by decide) ⟨(sees_mapQ 4 rfl (by decide)), (sees_vec 3 rfl (by decide)), (sees_mapQ 5 rfl (by decide)), trivial⟩), (sees_le (Le.refl _)), (sees_le (Le.refl _)), trivial⟩ rfl) ?_
  rintro _ rfl
  refine SWl.rd rfl (Rd.move rfl) ?_
  refine SWl.rd rfl (Rd.extract rfl rfl) ?_
  refine SWl.rd rfl (Rd.extract rfl rfl) ?_
  refine SWl.rd rfl (Rd.assign rfl) ?_
  refine SWl.rd rfl (Rd.assign rfl) ?_
  refine SWl.nil ?_
  refine SN.then ?_
  refine SW.seq ?_
  refine SW.sub (σ' := St.ob [(1, isD (.pointer (some ⟨g1, 0, none⟩))), (2, isD (.pointer (some ⟨g18, 0, none⟩))), (3, isD (.pointer (some ⟨g3, 0, none⟩))), (4, iD 0), (6, iD 9), (8, iD 9), (9, iD 3), (10, iD 0), (12, iD 9)] [.c g1 [strD aW.name, iD aW.role, bD aW.key, iD aW.dep, iD aW.num], .c g3 [strD aW.name, iD aW.role, bD aW.key, iD aW.dep, iD aW.num], .c g18 [isD (.map (s33.M.map Prod.fst)), isD (.slice s33.n.A (Acc.nm [aA, aW]).length s33.n.c), isD (.map (s33.M.map Prod.snd))], .r s33.n.F (vecT 9 1 encT s33.n.A s33.n.c (Acc.nm [aA, aW])), .r s33.F1 (mapQ (s33.M.map Prod.fst) encS (Acc.nm [aA, aW]) (acD [aA, aW])), .r s33.F2 (mapQ (s33.M.map Prod.snd) encSt (Acc.seats [aA, aW]) (seD [aA, aW]))]) (⟨⟨_, rfl, ⟨⟨_, rfl, Le.refl _⟩, ⟨⟨_, rfl, Le.refl _⟩, ⟨⟨_, rfl, Le.refl _⟩, ⟨⟨_, rfl, Le.refl _⟩, ⟨⟨_, rfl, Le.refl _⟩, ⟨⟨_, rfl, Le.refl _⟩, ⟨⟨_, rfl, Le.refl _⟩, ⟨⟨_, rfl, Le.refl _⟩, ⟨⟨_, rfl, Le.refl _⟩, trivial⟩⟩⟩⟩⟩⟩⟩⟩⟩⟩, [0, 1, 2, 3, 4, 5], by decide, ⟨⟨_, rfl, LeAll.refl _⟩, ⟨⟨_, rfl, LeAll.refl _⟩, ⟨⟨_, rfl, LeAll.refl _⟩, ⟨⟨_, rfl, LeR.refl _⟩, ⟨⟨_, rfl, LeR.refl _⟩, ⟨⟨_, rfl, LeR.refl _⟩, trivial⟩⟩⟩⟩⟩⟩⟩) ?_
  refine SW.region ?_
  refine SWl.rd rfl (Rd.move rfl) ?_
  refine SWl.ef (S := []) (Ef.callN [2, 4, 3, 5] (con_units_no [aA, aW] ([110, 111, 110, 101] : List UInt8) 0 (by decide)) rfl ⟨(sees_box 2 rfl (by decide) ⟨(sees_mapQ 4 rfl (by decide)), (sees_vec 3 rfl (by decide)), (sees_mapQ 5 rfl (by decide)), trivial⟩), (sees_le (Le.refl _)), (sees_le (Le.refl _)), trivial⟩ rfl) ?_
  rintro _ rfl
  refine SWl.rd rfl (Rd.move rfl) ?_
  refine SWl.rd rfl (Rd.extract rfl rfl) ?_
  refine SWl.rd rfl (Rd.extract rfl rfl) ?_
  refine SWl.rd rfl (Rd.assign rfl) ?_
  refine SWl.rd rfl (Rd.assign rfl) ?_
  refine SWl.nil ?_
  refine SN.then ?_
  refine SW.seq ?_
  refine SW.sub (σ' := St.ob [(1, isD (.pointer (some ⟨g1, 0, none⟩))), (2, isD (.pointer (some ⟨g18, 0, none⟩))), (3, isD (.pointer (some ⟨g3, 0, none⟩))), (4, iD 0), (6, iD 9), (8, iD 9), (9, iD 3), (10, iD 0), (12, iD 9), (14, iD 2)] [.c g1 [strD aW.name, iD aW.role, bD aW.key, iD aW.dep, iD aW.num], .c g3 [strD aW.name, iD aW.role, bD aW.key, iD aW.dep, iD aW.num], .c g18 [isD (.map (s33.M.map Prod.fst)), isD (.slice s33.n.A (Acc.nm [aA, aW]).length s33.n.c), isD (.map (s33.M.map Prod.snd))], .r s33.n.F (vecT 9 1 encT s33.n.A s33.n.c (Acc.nm [aA, aW])), .r s33.F1 (mapQ (s33.M.map Prod.fst) encS (Acc.nm [aA, aW]) (acD [aA, aW])), .r s33.F2 (mapQ (s33.M.map Prod.snd) encSt (Acc.seats [aA, aW]) (seD [aA, aW]))]) (⟨⟨_, rfl, ⟨⟨_, rfl, Le.refl _⟩, ⟨⟨_, rfl, Le.refl _⟩, ⟨⟨_, rfl, Le.refl _⟩, ⟨⟨_, rfl, Le.refl _⟩, ⟨⟨_, rfl, Le.refl _⟩, ⟨⟨_, rfl, Le.refl _⟩, ⟨⟨_, rfl, Le.refl _⟩, ⟨⟨_, rfl, Le.refl _⟩, ⟨⟨_, rfl, Le.refl _⟩, ⟨⟨_, rfl, Le.refl _⟩, trivial⟩⟩⟩⟩⟩⟩⟩⟩⟩⟩⟩, [0, 1, 2, 3, 4, 5], by decide, ⟨⟨_, rfl, LeAll.refl _⟩, ⟨⟨_, rfl, LeAll.refl _⟩, ⟨⟨_, rfl, LeAll.refl _⟩, ⟨⟨_, rfl, LeR.refl _⟩, ⟨⟨_, rfl, LeR.refl _⟩, ⟨⟨_, rfl, LeR.refl _⟩, trivial⟩⟩⟩⟩⟩⟩⟩) ?_
  refine SW.draw (g18 :: (s33.n.F ++ (s33.F1 ++ (s33.F2 ++ [])))) (.r 0 (.r 1 (.n 2 (.r 3 (.r 4 (.r 5 (.r 6 (.r 7 (.r 8 (.r 9 (.r 10 (.r 11 (.r 12 (.r 13 (.r 14 (.r 15 (.r 16 (.r 17 (.r 18 (.r 19 (.r 20 (.r 21 (.r 22 (.r 23 (.r 24 (.r 25 (.r 26 (.r 27 (.r 28 (.r 29 (.r 30 (.r 31 (.r 32 (.r 35 (.n 33 (.r 34 (.n 36 (.r 37 (.e 38 (.r 39 (.r 40 .fin)) .no)) .no)) .no)))))))))))))))))))))))))))))))) .no))) (by kernel_rfl) (by kernel_rfl) (fun d _ _ _ _ h => by cases d <;> exact h) ?_
  refine SWz.rd (i := 0) rfl rfl (Rd.loadA 0 5 rfl rfl (by kernel_rfl) rfl (ap_cons 2 rfl (by decide) (ap_app 3 rfl (by decide) (ap_app 4 rfl (by decide) (ap_app 5 rfl (by decide) ap_nil))))) ?_
  refine SWz.rd (i := 1) rfl rfl (Rd.loadA 1 5 rfl rfl (by kernel_rfl) rfl (ap_cons 2 rfl (by decide) (ap_app 3 rfl (by decide) (ap_app 4 rfl (by decide) (ap_app 5 rfl (by decide) ap_nil))))) ?_
  refine SWz.efn (i := 2) rfl (Ef.callN [] (con_SameR aW aW) rfl ⟨(sees_agg ⟨(sees_le (Le.refl _)), (sees_le (Le.refl _)), (sees_le (Le.refl _)), (sees_le (Le.refl _)), (sees_le (Le.refl _)), trivial⟩), (sees_agg ⟨(sees_le (Le.refl _)), (sees_le (Le.refl _)), (sees_le (Le.refl _)), (sees_le (Le.refl _)), (sees_le (Le.refl _)), trivial⟩), trivial⟩ rfl) ?_ SWz.no
  rintro _ rfl
  refine SWz.rd (i := 3) rfl rfl (Rd.move rfl) ?_
  refine SWz.rdg (i := 4) rfl rfl rfl (decide_eq_true (Acc.eqv_refl _)) rfl rfl (Rd.move rfl) ?_
  refine SWz.rdg (i := 5) rfl rfl rfl (decide_eq_true (Acc.eqv_refl _)) rfl rfl (Rd.eqi rfl rfl) ?_
  refine SWz.rd (i := 6) rfl rfl (Rd.pickY rfl (decide_eq_true (Acc.eqv_refl _)) rfl) ?_
  refine SWz.rd (i := 7) rfl rfl (Rd.move rfl) ?_
  refine SWz.rdg (i := 8) rfl rfl rfl (by decide) rfl rfl (Rd.move rfl) ?_
  refine SWz.rdg (i := 9) rfl rfl rfl (by decide) rfl rfl (Rd.eqi rfl rfl) ?_
  refine SWz.rd (i := 10) rfl rfl (Rd.pickY rfl (by decide) rfl) ?_
  refine SWz.rd (i := 11) rfl rfl (Rd.move rfl) ?_
  refine SWz.rdg (i := 12) rfl rfl rfl (by decide) rfl rfl (Rd.move rfl) ?_
  refine SWz.rdg (i := 13) rfl rfl rfl (by decide) rfl rfl (Rd.eqi rfl rfl) ?_
  refine SWz.rd (i := 14) rfl rfl (Rd.pickY rfl (by decide) rfl) ?_
  refine SWz.rd (i := 15) rfl rfl (Rd.move rfl) ?_
  refine SWz.rdg (i := 16) rfl rfl rfl (by decide) rfl rfl (Rd.move rfl) ?_
  refine SWz.rdg (i := 17) rfl rfl rfl (by decide) rfl rfl (Rd.eqi rfl rfl) ?_
  refine SWz.rd (i := 18) rfl rfl (Rd.pickY rfl (by decide) rfl) ?_
  refine SWz.rd (i := 19) rfl rfl (Rd.move rfl) ?_
  refine SWz.rdg (i := 20) rfl rfl rfl (by decide) rfl rfl (Rd.move rfl) ?_
  refine SWz.rdg (i := 21) rfl rfl rfl (by decide) rfl rfl (Rd.eqi rfl rfl) ?_
  refine SWz.rd (i := 22) rfl rfl (Rd.pickY rfl (by decide) rfl) ?_
  refine SWz.rd (i := 23) rfl rfl (Rd.move rfl) ?_
  refine SWz.rdg (i := 24) rfl rfl rfl (by decide) rfl rfl (Rd.move rfl) ?_
  refine SWz.rdg (i := 25) rfl rfl rfl (by decide) rfl rfl (Rd.eqi rfl rfl) ?_
  refine SWz.rd (i := 26) rfl rfl (Rd.pickY rfl (by decide) rfl) ?_
  refine SWz.rd (i := 27) rfl rfl (Rd.move rfl) ?_
  refine SWz.rdg (i := 28) rfl rfl rfl (by decide) rfl rfl (Rd.move rfl) ?_
  refine SWz.rdg (i := 29) rfl rfl rfl (by decide) rfl rfl (Rd.eqi rfl rfl) ?_
  refine SWz.rd (i := 30) rfl rfl (Rd.pickY rfl (by decide) rfl) ?_
  refine SWz.rd (i := 31) rfl rfl (Rd.move rfl) ?_
  refine SWz.rdg (i := 32) rfl rfl rfl (by decide) rfl rfl (Rd.move rfl) ?_
  refine SWz.rdg (i := 35) rfl rfl rfl (by decide) rfl rfl (Rd.loadA 0 5 rfl rfl (by kernel_rfl) rfl (ap_cons 2 rfl (by decide) (ap_app 3 rfl (by decide) (ap_app 4 rfl (by decide) (ap_app 5 rfl (by decide) ap_nil))))) ?_
  refine SWz.efng (i := 33) rfl rfl rfl (by decide) rfl (Ef.call (con_key 8) rfl ⟨Le.refl _, trivial⟩ rfl) ?_ SWz.no
  rintro _ rfl
  refine SWz.rdg (i := 34) rfl rfl rfl (by decide) rfl rfl (Rd.build rfl rfl (bldA4 (n := aA.name) (r := 2) (d := 1000))) ?_
  refine SWz.efng (i := 36) rfl rfl rfl (by decide) rfl (Ef.litR rfl rfl (blsA2 aA aW) rfl) ?_ SWz.no
  rintro _ rfl
  refine SWz.rdg (i := 37) rfl rfl rfl (by decide) rfl rfl (Rd.build rfl rfl bldRB) ?_
  refine SWz.efeg (i := 38) rfl rfl rfl (by decide) rfl (Ef.callR [2, 3, 4, 5] (con_over g18 s33 [aA, aW] fineK) rfl ⟨Le.refl _, Le.refl _, trivial⟩ (by decide) ⟨⟨_, rfl, LeAll.refl _⟩, ⟨⟨_, rfl, LeR.refl _⟩, ⟨⟨_, rfl, LeR.refl _⟩, ⟨⟨_, rfl, LeR.refl _⟩, trivial⟩⟩⟩⟩ (fun _ h => h) rfl) ?_ SWz.no
  rintro _ ⟨⟨⟩, rfl⟩
  refine SWz.rd (i := 39) rfl rfl (Rd.pickY rfl (by decide) rfl) ?_
  refine SWz.rd (i := 40) rfl rfl (Rd.assign rfl) ?_
  refine SWz.nil ?_
  refine SN.then ?_
  refine SW.ret (fn := Tryd.f10) (fun _ _ h => h) (Rs.le (Rs.one rfl (ResV.tmp rfl)) ?_)
  exact le_bool_n rfl
end Sx
end Go.Proofs.YtchbgfgboogniaaDoor
