/-
  ACCOUNTS: AccountPlays, AccountOver.
-/
import Derived.Test.YtgcnpnbgjejkaaaGQ
namespace Go.Proofs.Ytgcnpnbgjejkaaa
open Go.RowKit
namespace Sx
set_option maxHeartbeats 4000000 in
set_option maxRecDepth 100000 in
theorem accountPlays_con (l : List Act.T) (nm : List UInt8) (r n : Int) (hl : l.length ≤ 9223372036854775807) : ConN Try.prog 4 [lsD encAct l, strD nm, iD r, iD n] (boolD true) := by
  refine con_ofN Try.func4 (by kernel_rfl) rfl (by kernel_rfl) fun base w0 => ?_
  refine SW.seq ?_
  refine SW.region ?_
  refine SWl.rd rfl (Rd.assign rfl) ?_
  refine SWl.nil ?_
  refine SN.then ?_
  refine SW.seq ?_
  refine SW.seq ?_
  refine SW.region ?_
  refine SWl.rd rfl (Rd.move rfl) ?_
  refine SWl.ef (S := []) (Ef.callN [] (con_few41 l 25 hl) rfl ⟨(sees_le (Le.refl _)), (sees_le (Le.refl _)), trivial⟩ rfl) ?_
  rintro _ rfl
  refine SWl.rd rfl (Rd.not rfl) ?_
  refine SWl.nil ?_
  refine SN.then ?_
  refine SW.cond rfl (fun hb21 => ?_) (fun hb21 => ?_)
  · skip
    refine SW.seq ?_
    refine SW.region ?_
    refine SWl.ef (S := []) (Ef.callN [] (con_known41) rfl trivial rfl) ?_
    rintro _ rfl
    refine SWl.rd rfl (Rd.assign rfl) ?_
    refine SWl.nil ?_
    refine SN.then ?_
    refine SW.ret (fn := Try.f4) (fun _ _ h => h) (Rs.le (Rs.one rfl (ResV.tmp rfl)) ?_)
    exact le_bool_n rfl
  · have hq : Act.few l 25 := by simpa using hb21
    refine SW.skip ?_
    refine SN.then ?_
    refine SW.seq ?_
    refine SW.seq ?_
    refine SW.region ?_
    refine SWl.rd rfl (Rd.assign rfl) ?_
    refine SWl.nil ?_
    refine SN.then ?_
    refine SW.block ?_
    refine SW.loop (ι := {i : Nat // i ≤ l.length}) (fun i => St.ob [(0, lsD encAct l), (1, strD nm), (2, iD r), (3, iD n), (9, iD (i.1 : Int))] []) (fun i => l.length - i.1) (⟨0, Nat.zero_le _⟩) ?_ ?_
    · exact ⟨⟨_, rfl, ⟨⟨_, rfl, Le.refl _⟩, ⟨⟨_, rfl, Le.refl _⟩, ⟨⟨_, rfl, Le.refl _⟩, ⟨⟨_, rfl, Le.refl _⟩, ⟨⟨_, rfl, Le.refl _⟩, trivial⟩⟩⟩⟩⟩⟩, [], by decide, trivial⟩
    · rintro ⟨i, hi⟩ K0 hK0
      dsimp only at hi ⊢
      refine SW.seq ?_
      refine SW.seq ?_
      refine SW.region ?_
      refine SWl.rd rfl (Rd.move rfl) ?_
      refine SWl.rd rfl (Rd.move rfl) ?_
      refine SWl.rd rfl (Rd.lenR (e := 43) rfl (by kernel_rfl)) ?_
      refine SWl.rd rfl (Rd.lss rfl rfl) ?_
      refine SWl.nil ?_
      refine SN.then ?_
      refine SW.cond rfl (fun hb26 => ?_) (fun hb26 => ?_)
      · have hb26 := of_decide_eq_true hb26
        refine SW.skip ?_
        refine SN.then ?_
        refine SW.seq ?_
        refine SW.block ?_
        refine SW.seq ?_
        obtain ⟨x, hx⟩ : ∃ x, l[i]? = some x := ⟨_, List.getElem?_eq_getElem (by omega)⟩
        refine SW.draw [] (.r 0 (.r 1 (.r 2 (.r 3 (.r 4 (.r 6 (.r 7 (.r 8 (.r 9 (.r 10 (.n 5 (.n 11 (.r 12 .fin) .no) .no))))))))))) (by kernel_rfl) (by kernel_rfl) (fun d _ _ _ _ h => by cases d <;> exact h) ?_
        refine SWz.rd (i := 0) rfl rfl (Rd.move rfl) ?_
        refine SWz.rd (i := 1) rfl rfl (Rd.move rfl) ?_
        refine SWz.rd (i := 2) rfl rfl (Rd.idxL (e := 43) 7 rfl rfl (by kernel_rfl) (by kernel_rfl) (by omega) (by simpa using hx)) ?_
        refine SWz.rd (i := 3) rfl rfl (Rd.fieldR (n := 2) rfl (by kernel_rfl) (show 2 < 7 by decide)) ?_
        refine SWz.rd (i := 4) rfl rfl (Rd.loadRA 5 rfl (by kernel_rfl) (by decide) (show 5 ≤ 5 by decide) (by simp)) ?_
        refine SWz.rd (i := 6) rfl rfl (Rd.move rfl) ?_
        refine SWz.rd (i := 7) rfl rfl (Rd.move rfl) ?_
        refine SWz.rd (i := 8) rfl rfl (Rd.idxL (e := 43) 7 rfl rfl (by kernel_rfl) (by kernel_rfl) (by omega) (by simpa using hx)) ?_
        refine SWz.rd (i := 9) rfl rfl (Rd.fieldR (n := 2) rfl (by kernel_rfl) (show 2 < 7 by decide)) ?_
        refine SWz.rd (i := 10) rfl rfl (Rd.loadRA 5 rfl (by kernel_rfl) (by decide) (show 5 ≤ 5 by decide) (by simp)) ?_
        refine SWz.efn (i := 5) rfl (Ef.callN [] (con_validA x.a.name x.a.role x.a.key.length x.a.dep x.a.num) rfl ⟨(sees_le (Le.agg ⟨Le.refl _, Le.refl _, le_b_len, Le.refl _, Le.refl _, trivial⟩)), trivial⟩ rfl) ?_ SWz.no
        rintro _ rfl
        refine SWz.efn (i := 11) rfl (Ef.callN [] (con_ValidR x.a.name x.a.role x.a.key.length x.a.dep x.a.num (by have := hq.1 x (List.mem_of_getElem? hx); omega)) rfl ⟨(sees_le (Le.agg ⟨Le.refl _, Le.refl _, le_b_len, Le.refl _, Le.refl _, trivial⟩)), trivial⟩ rfl) ?_ SWz.no
        rintro _ rfl
        refine SWz.rd (i := 12) rfl rfl (Rd.neb (by kernel_rfl) rfl rfl) ?_
        refine SWz.nil ?_
        refine SN.then ?_
        refine SW.condF rfl (by simp) ?_
        refine SW.skip ?_
        refine SN.block ?_
        refine SN.then ?_
        refine SW.region ?_
        refine SWl.rd rfl (Rd.move rfl) ?_
        refine SWl.rd rfl (Rd.add rfl rfl ⟨by omega, by omega⟩) ?_
        refine SWl.rd rfl (Rd.assign rfl) ?_
        refine SWl.nil ?_
        exact fun a w hh => hK0 (⟨i + 1, by omega⟩) (by dsimp only; omega) a w (hh.sub (⟨⟨_, rfl, ⟨⟨_, rfl, Le.refl _⟩, ⟨⟨_, rfl, Le.refl _⟩, ⟨⟨_, rfl, Le.refl _⟩, ⟨⟨_, rfl, Le.refl _⟩, ⟨⟨_, rfl, Le.is (by simp)⟩, trivial⟩⟩⟩⟩⟩⟩, [], by decide, trivial⟩))
      · skip
        refine SW.exit' ?_
        repeat (first | refine SE.then ?_ | refine SE.skip (by decide) ?_)
        refine SE.here ?_
        refine SN.then ?_
        refine SW.seq ?_
        refine SW.region ?_
        refine SWl.rd rfl (Rd.move rfl) ?_
        refine SWl.ef (S := []) (Ef.callR [] (con_played l 25 hl hq) rfl ⟨Le.refl _, trivial⟩ (by decide) trivial (fun _ h => h) rfl) ?_
        rintro _ ⟨⟨gb, s⟩, rfl⟩
        refine SWl.rd rfl (Rd.move rfl) ?_
        refine SWl.rd rfl (Rd.extract rfl rfl) ?_
        refine SWl.rd rfl (Rd.extract rfl rfl) ?_
        refine SWl.rd rfl (Rd.extract rfl rfl) ?_
        refine SWl.ef (S := []) (Ef.alloc (zs := [.slice none 0 0]) (by kernel_rfl) rfl) ?_
        rintro _ ⟨g11, rfl⟩
        refine SWl.rd rfl (Rd.assign rfl) ?_
        refine SWl.ef (S := [_]) (Ef.storeA 4 rfl rfl rfl (by kernel_rfl) rfl (List.mem_singleton.2 rfl)) ?_
        rintro _ rfl
        refine SWl.rd rfl (Rd.assign rfl) ?_
        refine SWl.nil ?_
        refine SN.then ?_
        refine SW.seq ?_
        refine SW.seq ?_
        obtain ⟨R, hR⟩ : ∃ R, R = Act.run l := ⟨_, rfl⟩
        have hf : Acc.Fine R := by rw [hR]; exact Act.fine_run l
        refine SW.sub (σ' := St.ob [(1, strD nm), (2, iD r), (3, iD n), (10, isD (.pointer (some ⟨gb, 0, none⟩))), (11, isD (.pointer (some ⟨g11, 0, none⟩))), (12, boolD true)] [.c gb [isD (.map (s.M.map Prod.fst)), isD (.slice s.n.A (Acc.nm R).length s.n.c), isD (.map (s.M.map Prod.snd))], .r s.n.F (vecT 9 1 encT s.n.A s.n.c (Acc.nm R)), .r s.F1 (mapQ (s.M.map Prod.fst) encS (Acc.nm R) (acD R)), .r s.F2 (mapQ (s.M.map Prod.snd) encSt (Acc.seats R) (seD R)), .c g11 [lsD encA R]]) (⟨⟨_, rfl, ⟨⟨_, rfl, Le.refl _⟩, ⟨⟨_, rfl, Le.refl _⟩, ⟨⟨_, rfl, Le.refl _⟩, ⟨⟨_, rfl, Le.refl _⟩, ⟨⟨_, rfl, Le.refl _⟩, ⟨⟨_, rfl, Le.refl _⟩, trivial⟩⟩⟩⟩⟩⟩⟩, [0, 1, 2, 3, 4], by decide, ⟨⟨_, rfl, ⟨Le.refl _, Le.is (by rw [hR]), Le.refl _, trivial⟩⟩, ⟨⟨_, rfl, leVec (by rw [hR]) (by rw [hR])⟩, ⟨⟨_, rfl, (by rw [hR]; exact LeR.refl _)⟩, ⟨⟨_, rfl, (by rw [hR]; exact LeR.refl _)⟩, ⟨⟨_, rfl, ⟨(by rw [hR]; exact Le.refl _), trivial⟩⟩, trivial⟩⟩⟩⟩⟩⟩) ?_
        refine SW.region ?_
        refine SWl.rd rfl (Rd.move rfl) ?_
        refine SWl.rd rfl (Rd.not rfl) ?_
        refine SWl.nil ?_
        refine SN.then ?_
        refine SW.condF rfl (rfl) ?_
        refine SW.skip ?_
        refine SN.then ?_
        refine SW.seq ?_
        refine SW.region ?_
        refine SWl.rd rfl (Rd.move rfl) ?_
        refine SWl.rd rfl (Rd.move rfl) ?_
        refine SWl.ef (S := []) (Ef.callN [0, 2, 1, 3] (con_get R nm hf) rfl ⟨(sees_box 0 rfl (by decide) ⟨(sees_mapQ 2 rfl (by decide)), (sees_vec 1 rfl (by decide)), (sees_mapQ 3 rfl (by decide)), trivial⟩), (sees_le (Le.refl _)), trivial⟩ rfl) ?_
        rintro _ rfl
        refine SWl.rd rfl (Rd.move rfl) ?_
        refine SWl.rd rfl (Rd.extract rfl rfl) ?_
        refine SWl.rd rfl (Rd.extract rfl rfl) ?_
        refine SWl.ef (S := []) (Ef.alloc (zs := [.string ⟨#[]⟩, .int .i64 0, .slice none 0 0, .int .i64 0, .int .i64 0]) (by kernel_rfl) rfl) ?_
        rintro _ ⟨g13, rfl⟩
        refine SWl.ef (S := [_]) (Ef.storeA 5 rfl rfl rfl (by kernel_rfl) rfl (List.mem_singleton.2 rfl)) ?_
        rintro _ rfl
        refine SWl.rd rfl (Rd.assign rfl) ?_
        refine SWl.nil ?_
        refine SN.then ?_
        refine SW.seq ?_
        refine SW.region ?_
        refine SWl.rd rfl (Rd.move rfl) ?_
        refine SWl.rd rfl (Rd.move rfl) ?_
        refine SWl.rd rfl (Rd.move rfl) ?_
        refine SWl.ef (S := []) (Ef.callN [0, 2, 1, 3] (con_ofSeat R r n hf) rfl ⟨(sees_box 0 rfl (by decide) ⟨(sees_mapQ 2 rfl (by decide)), (sees_vec 1 rfl (by decide)), (sees_mapQ 3 rfl (by decide)), trivial⟩), (sees_le (Le.refl _)), (sees_le (Le.refl _)), trivial⟩ rfl) ?_
        rintro _ rfl
        refine SWl.rd rfl (Rd.move rfl) ?_
        refine SWl.rd rfl (Rd.extract rfl rfl) ?_
        refine SWl.rd rfl (Rd.extract rfl rfl) ?_
        refine SWl.ef (S := []) (Ef.alloc (zs := [.string ⟨#[]⟩, .int .i64 0, .slice none 0 0, .int .i64 0, .int .i64 0]) (by kernel_rfl) rfl) ?_
        rintro _ ⟨g15, rfl⟩
        refine SWl.ef (S := [_]) (Ef.storeA 6 rfl rfl rfl (by kernel_rfl) rfl (List.mem_singleton.2 rfl)) ?_
        rintro _ rfl
        refine SWl.rd rfl (Rd.assign rfl) ?_
        refine SWl.nil ?_
        refine SN.then ?_
        refine SW.seq ?_
        refine SW.draw [] (.r 0 (.r 1 (.r 3 (.r 4 (.r 5 (.n 2 (.n 6 (.r 7 (.r 8 .fin)) .no) .no)))))) (by kernel_rfl) (by kernel_rfl) (fun d _ _ _ _ h => by cases d <;> exact h) ?_
        refine SWz.rd (i := 0) rfl rfl (Rd.loadA 4 1 rfl rfl (by kernel_rfl) rfl ap_nil) ?_
        refine SWz.rd (i := 1) rfl rfl (Rd.move rfl) ?_
        refine SWz.rd (i := 3) rfl rfl (Rd.loadA 4 1 rfl rfl (by kernel_rfl) rfl ap_nil) ?_
        refine SWz.rd (i := 4) rfl rfl (Rd.move rfl) ?_
        refine SWz.rd (i := 5) rfl rfl (Rd.move rfl) ?_
        refine SWz.efn (i := 2) rfl (Ef.callN [] (con_AtR R nm (by have := hf.len; omega)) rfl ⟨(sees_agg ⟨(sees_le (Le.refl _)), trivial⟩), (sees_le (Le.refl _)), trivial⟩ rfl) ?_ SWz.no
        rintro _ rfl
        refine SWz.efn (i := 6) rfl (Ef.callN [] (con_OfR R r n (by have := hf.len; omega)) rfl ⟨(sees_agg ⟨(sees_le (Le.refl _)), trivial⟩), (sees_le (Le.refl _)), (sees_le (Le.refl _)), trivial⟩ rfl) ?_ SWz.no
        rintro _ rfl
        refine SWz.rd (i := 7) rfl rfl (Rd.assign rfl) ?_
        refine SWz.rd (i := 8) rfl rfl (Rd.assign rfl) ?_
        refine SWz.nil ?_
        refine SN.then ?_
        refine SW.seq ?_
        refine SW.seq ?_
        rcases Acc.at_cases R nm with ⟨he, hx⟩ | ⟨i, x, he, hi, hx⟩
        · have hg := Acc.get_no hx
          refine SW.sub (σ' := St.ob [(11, isD (.pointer (some ⟨g11, 0, none⟩))), (13, isD (.pointer (some ⟨g13, 0, none⟩))), (14, iD 9), (15, isD (.pointer (some ⟨g15, 0, none⟩))), (16, iD (Acc.ofE R (r, n))), (17, iD (-1)), (18, iD (Acc.ofI R (r, n)))] [.c g11 [lsD encA R], .c g13 [strD Acc.zero.name, iD Acc.zero.role, bD Acc.zero.key, iD Acc.zero.dep, iD Acc.zero.num], .c g15 [strD (Acc.ofA R (r, n)).name, iD (Acc.ofA R (r, n)).role, bD (Acc.ofA R (r, n)).key, iD (Acc.ofA R (r, n)).dep, iD (Acc.ofA R (r, n)).num]]) (⟨⟨_, rfl, ⟨⟨_, rfl, Le.refl _⟩, ⟨⟨_, rfl, Le.refl _⟩, ⟨⟨_, rfl, Le.is (by rw [hg.2])⟩, ⟨⟨_, rfl, Le.refl _⟩, ⟨⟨_, rfl, Le.refl _⟩, ⟨⟨_, rfl, Le.is (by rw [he])⟩, ⟨⟨_, rfl, Le.refl _⟩, trivial⟩⟩⟩⟩⟩⟩⟩⟩, [4, 5, 6], by decide, ⟨⟨_, rfl, LeAll.refl _⟩, ⟨⟨_, rfl, (by rw [hg.1]; exact LeAll.refl _)⟩, ⟨⟨_, rfl, LeAll.refl _⟩, trivial⟩⟩⟩⟩) ?_
          refine SW.draw [] (.r 0 (.r 1 (.r 2 (.r 3 (.r 4 (.r 5 (.r 6 (.r 7 (.n 8 (.r 9 (.r 10 (.r 11 (.r 12 (.r 13 (.r 14 (.r 15 (.r 16 (.r 17 (.r 18 (.r 19 (.r 20 (.r 21 (.r 22 (.r 23 (.r 24 (.n 25 (.r 26 (.r 27 (.r 28 (.r 29 .fin)))) .no))))))))))))))))) .no))))))))) (by kernel_rfl) (by kernel_rfl) (fun d _ _ _ _ h => by cases d <;> exact h) ?_
          refine SWz.rd (i := 0) rfl rfl (Rd.move rfl) ?_
          refine SWz.rd (i := 1) rfl rfl (Rd.lss rfl rfl) ?_
          refine SWz.rd (i := 2) rfl rfl (Rd.move rfl) ?_
          refine SWz.rdg (i := 3) rfl rfl rfl (by decide) rfl rfl (Rd.move rfl) ?_
          refine SWz.rdg (i := 4) rfl rfl rfl (by decide) rfl rfl (Rd.nei rfl rfl) ?_
          refine SWz.rdg (i := 5) rfl rfl rfl (by decide) rfl rfl (Rd.move rfl) ?_
          refine SWz.rdg (i := 6) rfl rfl rfl (by decide) rfl rfl (Rd.loadA 1 5 rfl rfl (by kernel_rfl) rfl ap_nil) ?_
          refine SWz.rdg (i := 7) rfl rfl rfl (by decide) rfl rfl (Rd.build rfl rfl bldA0) ?_
          refine SWz.efng (i := 8) rfl rfl rfl (by decide) rfl (Ef.callN [] (con_SameR Acc.zero Acc.zero) rfl ⟨(sees_agg ⟨(sees_le (Le.refl _)), (sees_le (Le.refl _)), (sees_le (Le.refl _)), (sees_le (Le.refl _)), (sees_le (Le.refl _)), trivial⟩), (sees_le (Le.agg ⟨Le.refl _, Le.refl _, Le.nil_sl, Le.refl _, Le.refl _, trivial⟩)), trivial⟩ rfl) ?_ SWz.no
          rintro _ rfl
          refine SWz.rdg (i := 9) rfl rfl rfl (by decide) rfl rfl (Rd.not rfl) ?_
          refine SWz.rdg (i := 10) rfl rfl rfl (by decide) rfl rfl (Rd.pickN rfl (by decide) rfl) ?_
          refine SWz.rd (i := 11) rfl rfl (Rd.pickY rfl (by decide) rfl) ?_
          refine SWz.rd (i := 12) rfl rfl (Rd.move rfl) ?_
          refine SWz.rdg (i := 13) rfl rfl rfl (by rw [decide_eq_true (Acc.eqv_refl _)]; rfl) rfl rfl (Rd.move rfl) ?_
          refine SWz.rdg (i := 14) rfl rfl rfl (by rw [decide_eq_true (Acc.eqv_refl _)]; rfl) rfl rfl (Rd.geq rfl rfl) ?_
          refine SWz.rdg (i := 15) rfl rfl rfl (by rw [decide_eq_true (Acc.eqv_refl _)]; rfl) rfl rfl (Rd.move rfl) ?_
          refine SWz.off (i := 16) rfl rfl rfl (by decide) rfl rfl ?_
          refine SWz.off (i := 17) rfl rfl rfl (by decide) rfl rfl ?_
          refine SWz.off (i := 18) rfl rfl rfl (by decide) rfl rfl ?_
          refine SWz.offu (i := 19) rfl rfl rfl rfl rfl ?_
          refine SWz.offu (i := 20) rfl rfl rfl rfl rfl ?_
          refine SWz.offu (i := 21) rfl rfl rfl rfl rfl ?_
          refine SWz.offu (i := 22) rfl rfl rfl rfl rfl ?_
          refine SWz.offu (i := 23) rfl rfl rfl rfl rfl ?_
          refine SWz.offu (i := 24) rfl rfl rfl rfl rfl ?_
          refine SWz.offun (i := 25) rfl rfl rfl rfl rfl ?_ SWz.no
          refine SWz.offu (i := 26) rfl rfl rfl rfl rfl ?_
          refine SWz.off (i := 27) rfl rfl rfl (by decide) rfl rfl ?_
          refine SWz.rdg (i := 28) rfl rfl rfl (by rw [decide_eq_true (Acc.eqv_refl _)]; rfl) rfl rfl (Rd.pickN rfl (by decide) rfl) ?_
          refine SWz.rd (i := 29) rfl rfl (Rd.pickN rfl (by rw [decide_eq_true (Acc.eqv_refl _)]; rfl) rfl) ?_
          refine SWz.nil ?_
          refine SN.then ?_
          refine SW.condF rfl (rfl) ?_
          refine SW.skip ?_
          refine SN.then ?_
          refine SW.seq ?_
          refine SW.seq ?_
          rcases Acc.of_cases R (r, n) with ⟨ke, ky⟩ | ⟨k, y, ke, ki, ky⟩
          · have hg2 := Acc.of_no ky
            refine SW.sub (σ' := St.ob [(11, isD (.pointer (some ⟨g11, 0, none⟩))), (15, isD (.pointer (some ⟨g15, 0, none⟩))), (16, iD 9), (18, iD (-1))] [.c g11 [lsD encA R], .c g15 [strD Acc.zero.name, iD Acc.zero.role, bD Acc.zero.key, iD Acc.zero.dep, iD Acc.zero.num]]) (⟨⟨_, rfl, ⟨⟨_, rfl, Le.refl _⟩, ⟨⟨_, rfl, Le.refl _⟩, ⟨⟨_, rfl, Le.is (by rw [hg2.2])⟩, ⟨⟨_, rfl, Le.is (by rw [ke])⟩, trivial⟩⟩⟩⟩⟩, [0, 2], by decide, ⟨⟨_, rfl, LeAll.refl _⟩, ⟨⟨_, rfl, (by rw [hg2.1]; exact LeAll.refl _)⟩, trivial⟩⟩⟩) ?_
            refine SW.region ?_
            refine SWl.rd rfl (Rd.move rfl) ?_
            refine SWl.rd rfl (Rd.lss rfl rfl) ?_
            refine SWl.nil ?_
            refine SN.then ?_
            refine SW.condT rfl (by decide) ?_
            refine SW.seq ?_
            refine SW.region ?_
            refine SWl.rd rfl (Rd.move rfl) ?_
            refine SWl.rd rfl (Rd.eqi rfl rfl) ?_
            refine SWl.rd rfl (Rd.move rfl) ?_
            refine SWl.rdg rfl rfl (by decide) rfl rfl (Rd.loadA 1 5 rfl rfl (by kernel_rfl) rfl ap_nil) ?_
            refine SWl.rdg rfl rfl (by decide) rfl rfl (Rd.build rfl rfl bldA0) ?_
            refine SWl.efg (S := []) rfl rfl (by decide) rfl (Ef.callN [] (con_SameR Acc.zero Acc.zero) rfl ⟨(sees_agg ⟨(sees_le (Le.refl _)), (sees_le (Le.refl _)), (sees_le (Le.refl _)), (sees_le (Le.refl _)), (sees_le (Le.refl _)), trivial⟩), (sees_le (Le.agg ⟨Le.refl _, Le.refl _, Le.nil_sl, Le.refl _, Le.refl _, trivial⟩)), trivial⟩ rfl) ?_
            rintro _ rfl
            refine SWl.rd rfl (Rd.pickY rfl (by decide) rfl) ?_
            refine SWl.rd rfl (Rd.move rfl) ?_
            refine SWl.efg (S := []) rfl rfl (decide_eq_true (Acc.eqv_refl _)) rfl (Ef.callN [] (con_known41) rfl trivial rfl) ?_
            rintro _ rfl
            refine SWl.rd rfl (Rd.pickY rfl (decide_eq_true (Acc.eqv_refl _)) rfl) ?_
            refine SWl.rd rfl (Rd.assign rfl) ?_
            refine SWl.nil ?_
            refine SN.then ?_
            refine SW.ret (fn := Try.f4) (fun _ _ h => h) (Rs.le (Rs.one rfl (ResV.tmp rfl)) ?_)
            exact le_bool_n rfl
          · have hg2 := Acc.of_yes ky; have hkl := (List.getElem?_eq_some_iff.1 ki).1
            refine SW.sub (σ' := St.ob [(11, isD (.pointer (some ⟨g11, 0, none⟩))), (15, isD (.pointer (some ⟨g15, 0, none⟩))), (16, iD 0), (18, iD (k : Int))] [.c g11 [lsD encA R], .c g15 [strD y.name, iD y.role, bD y.key, iD y.dep, iD y.num]]) (⟨⟨_, rfl, ⟨⟨_, rfl, Le.refl _⟩, ⟨⟨_, rfl, Le.refl _⟩, ⟨⟨_, rfl, Le.is (by rw [hg2.2])⟩, ⟨⟨_, rfl, Le.is (by rw [ke])⟩, trivial⟩⟩⟩⟩⟩, [0, 2], by decide, ⟨⟨_, rfl, LeAll.refl _⟩, ⟨⟨_, rfl, (by rw [hg2.1]; exact LeAll.refl _)⟩, trivial⟩⟩⟩) ?_
            refine SW.region ?_
            refine SWl.rd rfl (Rd.move rfl) ?_
            refine SWl.rd rfl (Rd.lss rfl rfl) ?_
            refine SWl.nil ?_
            refine SN.then ?_
            refine SW.condF rfl (by simp) ?_
            refine SW.skip ?_
            refine SN.then ?_
            refine SW.seq ?_
            refine SW.draw [] (.r 0 (.r 1 (.r 2 (.r 3 (.r 4 (.r 5 (.r 6 (.r 7 (.r 8 (.n 9 (.r 10 (.r 11 (.n 12 (.r 13 (.r 14 .fin)) .no))) .no)))))))))) (by kernel_rfl) (by kernel_rfl) (fun d _ _ _ _ h => by cases d <;> exact h) ?_
            refine SWz.rd (i := 0) rfl rfl (Rd.move rfl) ?_
            refine SWz.rd (i := 1) rfl rfl (Rd.eqi rfl rfl) ?_
            refine SWz.rd (i := 2) rfl rfl (Rd.move rfl) ?_
            refine SWz.rdg (i := 3) rfl rfl rfl (by decide) rfl rfl (Rd.loadA 1 5 rfl rfl (by kernel_rfl) rfl ap_nil) ?_
            refine SWz.rdg (i := 4) rfl rfl rfl (by decide) rfl rfl (Rd.fieldAddr (n := 0) rfl (by kernel_rfl)) ?_
            refine SWz.rdg (i := 5) rfl rfl rfl (by decide) rfl rfl (Rd.loadB 0 rfl rfl rfl (by kernel_rfl) ap_nil) ?_
            refine SWz.rdg (i := 6) rfl rfl rfl (by decide) rfl rfl (Rd.move rfl) ?_
            refine SWz.rdg (i := 7) rfl rfl rfl (by decide) rfl rfl (Rd.idxL (e := 34) 5 rfl rfl (by kernel_rfl) (by kernel_rfl) (by omega) (by simpa using ki)) ?_
            refine SWz.rdg (i := 8) rfl rfl rfl (by decide) rfl rfl (Rd.loadRA 5 rfl (by kernel_rfl) (by decide) (show 5 ≤ 5 by decide) (by simp)) ?_
            refine SWz.efng (i := 9) rfl rfl rfl (by decide) rfl (Ef.callN [] (con_SameR y y) rfl ⟨(sees_agg ⟨(sees_le (Le.refl _)), (sees_le (Le.refl _)), (sees_le (Le.refl _)), (sees_le (Le.refl _)), (sees_le (Le.refl _)), trivial⟩), (sees_agg ⟨(sees_le (Le.refl _)), (sees_le (Le.refl _)), (sees_le (Le.refl _)), (sees_le (Le.refl _)), (sees_le (Le.refl _)), trivial⟩), trivial⟩ rfl) ?_ SWz.no
            rintro _ rfl
            refine SWz.rd (i := 10) rfl rfl (Rd.pickY rfl (by decide) rfl) ?_
            refine SWz.rd (i := 11) rfl rfl (Rd.move rfl) ?_
            refine SWz.efng (i := 12) rfl rfl rfl (decide_eq_true (Acc.eqv_refl _)) rfl (Ef.callN [] (con_known41) rfl trivial rfl) ?_ SWz.no
            rintro _ rfl
            refine SWz.rd (i := 13) rfl rfl (Rd.pickY rfl (decide_eq_true (Acc.eqv_refl _)) rfl) ?_
            refine SWz.rd (i := 14) rfl rfl (Rd.assign rfl) ?_
            refine SWz.nil ?_
            refine SN.then ?_
            refine SW.ret (fn := Try.f4) (fun _ _ h => h) (Rs.le (Rs.one rfl (ResV.tmp rfl)) ?_)
            exact le_bool_n rfl
        · have hg := Acc.get_yes hx; have hil := (List.getElem?_eq_some_iff.1 hi).1
          refine SW.sub (σ' := St.ob [(11, isD (.pointer (some ⟨g11, 0, none⟩))), (13, isD (.pointer (some ⟨g13, 0, none⟩))), (14, iD 0), (15, isD (.pointer (some ⟨g15, 0, none⟩))), (16, iD (Acc.ofE R (r, n))), (17, iD (i : Int)), (18, iD (Acc.ofI R (r, n)))] [.c g11 [lsD encA R], .c g13 [strD x.name, iD x.role, bD x.key, iD x.dep, iD x.num], .c g15 [strD (Acc.ofA R (r, n)).name, iD (Acc.ofA R (r, n)).role, bD (Acc.ofA R (r, n)).key, iD (Acc.ofA R (r, n)).dep, iD (Acc.ofA R (r, n)).num]]) (⟨⟨_, rfl, ⟨⟨_, rfl, Le.refl _⟩, ⟨⟨_, rfl, Le.refl _⟩, ⟨⟨_, rfl, Le.is (by rw [hg.2])⟩, ⟨⟨_, rfl, Le.refl _⟩, ⟨⟨_, rfl, Le.refl _⟩, ⟨⟨_, rfl, Le.is (by rw [he])⟩, ⟨⟨_, rfl, Le.refl _⟩, trivial⟩⟩⟩⟩⟩⟩⟩⟩, [4, 5, 6], by decide, ⟨⟨_, rfl, LeAll.refl _⟩, ⟨⟨_, rfl, (by rw [hg.1]; exact LeAll.refl _)⟩, ⟨⟨_, rfl, LeAll.refl _⟩, trivial⟩⟩⟩⟩) ?_
          refine SW.draw [] (.r 0 (.r 1 (.r 2 (.r 3 (.r 4 (.r 5 (.r 6 (.r 7 (.n 8 (.r 9 (.r 10 (.r 11 (.r 12 (.r 13 (.r 14 (.r 15 (.r 16 (.r 17 (.r 18 (.r 19 (.r 20 (.r 21 (.r 22 (.r 23 (.r 24 (.n 25 (.r 26 (.r 27 (.r 28 (.r 29 .fin)))) .no))))))))))))))))) .no))))))))) (by kernel_rfl) (by kernel_rfl) (fun d _ _ _ _ h => by cases d <;> exact h) ?_
          refine SWz.rd (i := 0) rfl rfl (Rd.move rfl) ?_
          refine SWz.rd (i := 1) rfl rfl (Rd.lss rfl rfl) ?_
          refine SWz.rd (i := 2) rfl rfl (Rd.move rfl) ?_
          refine SWz.off (i := 3) rfl rfl rfl (by simp) rfl rfl ?_
          refine SWz.off (i := 4) rfl rfl rfl (by simp) rfl rfl ?_
          refine SWz.off (i := 5) rfl rfl rfl (by simp) rfl rfl ?_
          refine SWz.offu (i := 6) rfl rfl rfl rfl rfl ?_
          refine SWz.offu (i := 7) rfl rfl rfl rfl rfl ?_
          refine SWz.offun (i := 8) rfl rfl rfl rfl rfl ?_ SWz.no
          refine SWz.offu (i := 9) rfl rfl rfl rfl rfl ?_
          refine SWz.off (i := 10) rfl rfl rfl (by simp) rfl rfl ?_
          refine SWz.rd (i := 11) rfl rfl (Rd.pickN rfl (by simp) rfl) ?_
          refine SWz.rd (i := 12) rfl rfl (Rd.move rfl) ?_
          refine SWz.rdg (i := 13) rfl rfl rfl (rfl) rfl rfl (Rd.move rfl) ?_
          refine SWz.rdg (i := 14) rfl rfl rfl (rfl) rfl rfl (Rd.geq rfl rfl) ?_
          refine SWz.rdg (i := 15) rfl rfl rfl (rfl) rfl rfl (Rd.move rfl) ?_
          refine SWz.rdg (i := 16) rfl rfl rfl (by simp) rfl rfl (Rd.move rfl) ?_
          refine SWz.rdg (i := 17) rfl rfl rfl (by simp) rfl rfl (Rd.nei rfl rfl) ?_
          refine SWz.rdg (i := 18) rfl rfl rfl (by simp) rfl rfl (Rd.move rfl) ?_
          refine SWz.rdg (i := 19) rfl rfl rfl (by decide) rfl rfl (Rd.loadA 1 5 rfl rfl (by kernel_rfl) rfl ap_nil) ?_
          refine SWz.rdg (i := 20) rfl rfl rfl (by decide) rfl rfl (Rd.fieldAddr (n := 0) rfl (by kernel_rfl)) ?_
          refine SWz.rdg (i := 21) rfl rfl rfl (by decide) rfl rfl (Rd.loadB 0 rfl rfl rfl (by kernel_rfl) ap_nil) ?_
          refine SWz.rdg (i := 22) rfl rfl rfl (by decide) rfl rfl (Rd.move rfl) ?_
          refine SWz.rdg (i := 23) rfl rfl rfl (by decide) rfl rfl (Rd.idxL (e := 34) 5 rfl rfl (by kernel_rfl) (by kernel_rfl) (by omega) (by simpa using hi)) ?_
          refine SWz.rdg (i := 24) rfl rfl rfl (by decide) rfl rfl (Rd.loadRA 5 rfl (by kernel_rfl) (by decide) (show 5 ≤ 5 by decide) (by simp)) ?_
          refine SWz.efng (i := 25) rfl rfl rfl (by decide) rfl (Ef.callN [] (con_SameR x x) rfl ⟨(sees_agg ⟨(sees_le (Le.refl _)), (sees_le (Le.refl _)), (sees_le (Le.refl _)), (sees_le (Le.refl _)), (sees_le (Le.refl _)), trivial⟩), (sees_agg ⟨(sees_le (Le.refl _)), (sees_le (Le.refl _)), (sees_le (Le.refl _)), (sees_le (Le.refl _)), (sees_le (Le.refl _)), trivial⟩), trivial⟩ rfl) ?_ SWz.no
          rintro _ rfl
          refine SWz.rdg (i := 26) rfl rfl rfl (by decide) rfl rfl (Rd.not rfl) ?_
          refine SWz.rdg (i := 27) rfl rfl rfl (by simp) rfl rfl (Rd.pickN rfl (by decide) rfl) ?_
          refine SWz.rdg (i := 28) rfl rfl rfl (rfl) rfl rfl (Rd.pickY rfl (by simp) rfl) ?_
          refine SWz.rd (i := 29) rfl rfl (Rd.pickN rfl (rfl) rfl) ?_
          refine SWz.nil ?_
          refine SN.then ?_
          refine SW.condF rfl (by rw [decide_eq_true (Acc.eqv_refl _)]; rfl) ?_
          refine SW.skip ?_
          refine SN.then ?_
          refine SW.seq ?_
          refine SW.seq ?_
          rcases Acc.of_cases R (r, n) with ⟨ke, ky⟩ | ⟨k, y, ke, ki, ky⟩
          · have hg2 := Acc.of_no ky
            refine SW.sub (σ' := St.ob [(11, isD (.pointer (some ⟨g11, 0, none⟩))), (15, isD (.pointer (some ⟨g15, 0, none⟩))), (16, iD 9), (18, iD (-1))] [.c g11 [lsD encA R], .c g15 [strD Acc.zero.name, iD Acc.zero.role, bD Acc.zero.key, iD Acc.zero.dep, iD Acc.zero.num]]) (⟨⟨_, rfl, ⟨⟨_, rfl, Le.refl _⟩, ⟨⟨_, rfl, Le.refl _⟩, ⟨⟨_, rfl, Le.is (by rw [hg2.2])⟩, ⟨⟨_, rfl, Le.is (by rw [ke])⟩, trivial⟩⟩⟩⟩⟩, [0, 2], by decide, ⟨⟨_, rfl, LeAll.refl _⟩, ⟨⟨_, rfl, (by rw [hg2.1]; exact LeAll.refl _)⟩, trivial⟩⟩⟩) ?_
            refine SW.region ?_
            refine SWl.rd rfl (Rd.move rfl) ?_
            refine SWl.rd rfl (Rd.lss rfl rfl) ?_
            refine SWl.nil ?_
            refine SN.then ?_
            refine SW.condT rfl (by decide) ?_
            refine SW.seq ?_
            refine SW.region ?_
            refine SWl.rd rfl (Rd.move rfl) ?_
            refine SWl.rd rfl (Rd.eqi rfl rfl) ?_
            refine SWl.rd rfl (Rd.move rfl) ?_
            refine SWl.rdg rfl rfl (by decide) rfl rfl (Rd.loadA 1 5 rfl rfl (by kernel_rfl) rfl ap_nil) ?_
            refine SWl.rdg rfl rfl (by decide) rfl rfl (Rd.build rfl rfl bldA0) ?_
            refine SWl.efg (S := []) rfl rfl (by decide) rfl (Ef.callN [] (con_SameR Acc.zero Acc.zero) rfl ⟨(sees_agg ⟨(sees_le (Le.refl _)), (sees_le (Le.refl _)), (sees_le (Le.refl _)), (sees_le (Le.refl _)), (sees_le (Le.refl _)), trivial⟩), (sees_le (Le.agg ⟨Le.refl _, Le.refl _, Le.nil_sl, Le.refl _, Le.refl _, trivial⟩)), trivial⟩ rfl) ?_
            rintro _ rfl
            refine SWl.rd rfl (Rd.pickY rfl (by decide) rfl) ?_
            refine SWl.rd rfl (Rd.move rfl) ?_
            refine SWl.efg (S := []) rfl rfl (decide_eq_true (Acc.eqv_refl _)) rfl (Ef.callN [] (con_known41) rfl trivial rfl) ?_
            rintro _ rfl
            refine SWl.rd rfl (Rd.pickY rfl (decide_eq_true (Acc.eqv_refl _)) rfl) ?_
            refine SWl.rd rfl (Rd.assign rfl) ?_
            refine SWl.nil ?_
            refine SN.then ?_
            refine SW.ret (fn := Try.f4) (fun _ _ h => h) (Rs.le (Rs.one rfl (ResV.tmp rfl)) ?_)
            exact le_bool_n rfl
          · have hg2 := Acc.of_yes ky; have hkl := (List.getElem?_eq_some_iff.1 ki).1
            refine SW.sub (σ' := St.ob [(11, isD (.pointer (some ⟨g11, 0, none⟩))), (15, isD (.pointer (some ⟨g15, 0, none⟩))), (16, iD 0), (18, iD (k : Int))] [.c g11 [lsD encA R], .c g15 [strD y.name, iD y.role, bD y.key, iD y.dep, iD y.num]]) (⟨⟨_, rfl, ⟨⟨_, rfl, Le.refl _⟩, ⟨⟨_, rfl, Le.refl _⟩, ⟨⟨_, rfl, Le.is (by rw [hg2.2])⟩, ⟨⟨_, rfl, Le.is (by rw [ke])⟩, trivial⟩⟩⟩⟩⟩, [0, 2], by decide, ⟨⟨_, rfl, LeAll.refl _⟩, ⟨⟨_, rfl, (by rw [hg2.1]; exact LeAll.refl _)⟩, trivial⟩⟩⟩) ?_
            refine SW.region ?_
            refine SWl.rd rfl (Rd.move rfl) ?_
            refine SWl.rd rfl (Rd.lss rfl rfl) ?_
            refine SWl.nil ?_
            refine SN.then ?_
            refine SW.condF rfl (by simp) ?_
            refine SW.skip ?_
            refine SN.then ?_
            refine SW.seq ?_
            refine SW.draw [] (.r 0 (.r 1 (.r 2 (.r 3 (.r 4 (.r 5 (.r 6 (.r 7 (.r 8 (.n 9 (.r 10 (.r 11 (.n 12 (.r 13 (.r 14 .fin)) .no))) .no)))))))))) (by kernel_rfl) (by kernel_rfl) (fun d _ _ _ _ h => by cases d <;> exact h) ?_
            refine SWz.rd (i := 0) rfl rfl (Rd.move rfl) ?_
            refine SWz.rd (i := 1) rfl rfl (Rd.eqi rfl rfl) ?_
            refine SWz.rd (i := 2) rfl rfl (Rd.move rfl) ?_
            refine SWz.rdg (i := 3) rfl rfl rfl (by decide) rfl rfl (Rd.loadA 1 5 rfl rfl (by kernel_rfl) rfl ap_nil) ?_
            refine SWz.rdg (i := 4) rfl rfl rfl (by decide) rfl rfl (Rd.fieldAddr (n := 0) rfl (by kernel_rfl)) ?_
            refine SWz.rdg (i := 5) rfl rfl rfl (by decide) rfl rfl (Rd.loadB 0 rfl rfl rfl (by kernel_rfl) ap_nil) ?_
            refine SWz.rdg (i := 6) rfl rfl rfl (by decide) rfl rfl (Rd.move rfl) ?_
            refine SWz.rdg (i := 7) rfl rfl rfl (by decide) rfl rfl (Rd.idxL (e := 34) 5 rfl rfl (by kernel_rfl) (by kernel_rfl) (by omega) (by simpa using ki)) ?_
            refine SWz.rdg (i := 8) rfl rfl rfl (by decide) rfl rfl (Rd.loadRA 5 rfl (by kernel_rfl) (by decide) (show 5 ≤ 5 by decide) (by simp)) ?_
            refine SWz.efng (i := 9) rfl rfl rfl (by decide) rfl (Ef.callN [] (con_SameR y y) rfl ⟨(sees_agg ⟨(sees_le (Le.refl _)), (sees_le (Le.refl _)), (sees_le (Le.refl _)), (sees_le (Le.refl _)), (sees_le (Le.refl _)), trivial⟩), (sees_agg ⟨(sees_le (Le.refl _)), (sees_le (Le.refl _)), (sees_le (Le.refl _)), (sees_le (Le.refl _)), (sees_le (Le.refl _)), trivial⟩), trivial⟩ rfl) ?_ SWz.no
            rintro _ rfl
            refine SWz.rd (i := 10) rfl rfl (Rd.pickY rfl (by decide) rfl) ?_
            refine SWz.rd (i := 11) rfl rfl (Rd.move rfl) ?_
            refine SWz.efng (i := 12) rfl rfl rfl (decide_eq_true (Acc.eqv_refl _)) rfl (Ef.callN [] (con_known41) rfl trivial rfl) ?_ SWz.no
            rintro _ rfl
            refine SWz.rd (i := 13) rfl rfl (Rd.pickY rfl (decide_eq_true (Acc.eqv_refl _)) rfl) ?_
            refine SWz.rd (i := 14) rfl rfl (Rd.assign rfl) ?_
            refine SWz.nil ?_
            refine SN.then ?_
            refine SW.ret (fn := Try.f4) (fun _ _ h => h) (Rs.le (Rs.one rfl (ResV.tmp rfl)) ?_)
            exact le_bool_n rfl
set_option maxHeartbeats 4000000 in
set_option maxRecDepth 100000 in
theorem accountOver_con (l more : List Act.T) (many : Int) (hl : l.length ≤ 9223372036854775807) (hm : more.length ≤ 9223372036854775807) : ConN Try.prog 5 [lsD encAct l, lsD encAct more, iD many] (boolD true) := by
  refine con_ofNMp Try.func5 (by kernel_rfl) rfl (by kernel_rfl) fun base w0 => ?_
  refine SW.seq ?_
  refine SW.region ?_
  refine SWl.ef (S := []) (Ef.boxV rfl (fun _ _ _ h => one_cells (One.h _ _ _ h)) rfl) ?_
  rintro _ ⟨g5, rfl⟩
  refine SWl.ef (S := []) (Ef.alloc (zs := [.bool false]) (by kernel_rfl) rfl) ?_
  rintro _ ⟨g6, rfl⟩
  refine SWl.nil ?_
  refine SN.then ?_
  refine SW.seq ?_
  refine SW.seq ?_
  refine SW.region ?_
  refine SWl.rd rfl (Rd.move rfl) ?_
  refine SWl.ef (S := []) (Ef.callN [] (con_few41 l 12 hl) rfl ⟨(sees_le (Le.refl _)), (sees_le (Le.refl _)), trivial⟩ rfl) ?_
  rintro _ rfl
  refine SWl.rd rfl (Rd.not rfl) ?_
  refine SWl.rd rfl (Rd.move rfl) ?_
  refine SWl.split 19 rfl (fun hb19 => ?_) (fun hb19 => ?_)
  · skip
    refine SWl.off rfl rfl (hb19) rfl rfl ?_
    refine SWl.off rfl rfl (hb19) rfl rfl ?_
    refine SWl.off rfl rfl (hb19) rfl rfl ?_
    refine SWl.rd rfl (Rd.pickY rfl (hb19) rfl) ?_
    refine SWl.nil ?_
    refine SN.then ?_
    refine SW.condT rfl (rfl) ?_
    refine SW.seq ?_
    refine SW.region ?_
    refine SWl.ef (S := []) (Ef.callN [] (con_known41) rfl trivial rfl) ?_
    rintro _ rfl
    refine SWl.ef (S := [_]) (Ef.storeV 1 rfl rfl rfl (by kernel_rfl) rfl (List.mem_singleton.2 rfl)) ?_
    rintro _ rfl
    refine SWl.nil ?_
    refine SN.then ?_
    refine SW.retM (fn := Try.f5) (fun _ _ h => h) ?_
    refine RM.fin ?_
    refine Rs.le (Rs.one rfl (ResV.cellV 1 rfl rfl (by kernel_rfl) rfl)) ?_
    exact le_bool_n (by rfl)
  · have hq : Act.few l 12 := by simpa using hb19
    refine SWl.rdg rfl rfl (hb19) rfl rfl (Rd.move rfl) ?_
    refine SWl.efg (S := []) rfl rfl (hb19) rfl (Ef.callN [] (con_few41 more 12 hm) rfl ⟨(sees_le (Le.refl _)), (sees_le (Le.refl _)), trivial⟩ rfl) ?_
    rintro _ rfl
    refine SWl.rdg rfl rfl (hb19) rfl rfl (Rd.not rfl) ?_
    refine SWl.rd rfl (Rd.pickN rfl (hb19) rfl) ?_
    refine SWl.nil ?_
    refine SN.then ?_
    refine SW.cond rfl (fun hb23 => ?_) (fun hb23 => ?_)
    · skip
      refine SW.seq ?_
      refine SW.region ?_
      refine SWl.ef (S := []) (Ef.callN [] (con_known41) rfl trivial rfl) ?_
      rintro _ rfl
      refine SWl.ef (S := [_]) (Ef.storeV 1 rfl rfl rfl (by kernel_rfl) rfl (List.mem_singleton.2 rfl)) ?_
      rintro _ rfl
      refine SWl.nil ?_
      refine SN.then ?_
      refine SW.retM (fn := Try.f5) (fun _ _ h => h) ?_
      refine RM.fin ?_
      refine Rs.le (Rs.one rfl (ResV.cellV 1 rfl rfl (by kernel_rfl) rfl)) ?_
      exact le_bool_n (by rfl)
    · have hqm : Act.few more 12 := by simpa using hb23
      refine SW.skip ?_
      refine SN.then ?_
      refine SW.seq ?_
      refine SW.region ?_
      refine SWl.rd rfl (Rd.move rfl) ?_
      refine SWl.ef (S := []) (Ef.callR [] (con_played l 12 hl hq) rfl ⟨Le.refl _, trivial⟩ (by decide) trivial (fun _ h => h) rfl) ?_
      rintro _ ⟨⟨gb, s⟩, rfl⟩
      refine SWl.rd rfl (Rd.move rfl) ?_
      refine SWl.rd rfl (Rd.extract rfl rfl) ?_
      refine SWl.rd rfl (Rd.extract rfl rfl) ?_
      refine SWl.rd rfl (Rd.extract rfl rfl) ?_
      refine SWl.ef (S := []) (Ef.alloc (zs := [.slice none 0 0]) (by kernel_rfl) rfl) ?_
      rintro _ ⟨g8, rfl⟩
      refine SWl.rd rfl (Rd.assign rfl) ?_
      refine SWl.ef (S := [_]) (Ef.storeA 6 rfl rfl rfl (by kernel_rfl) rfl (List.mem_singleton.2 rfl)) ?_
      rintro _ rfl
      refine SWl.rd rfl (Rd.assign rfl) ?_
      refine SWl.nil ?_
      refine SN.then ?_
      refine SW.seq ?_
      refine SW.seq ?_
      obtain ⟨R, hR⟩ : ∃ R, R = Act.run l := ⟨_, rfl⟩
      have hf : Acc.Fine R := by rw [hR]; exact Act.fine_run l
      have hll := hf.len
      have hkb : ∀ e ∈ R, e.key.length ≤ 1000000 := fun e he => by have := (hf.oks e he).2.1; omega
      refine SW.sub (σ' := St.ob [(1, lsD encAct more), (5, isD (.pointer (some ⟨g5, 0, none⟩))), (6, isD (.pointer (some ⟨g6, 0, none⟩))), (8, isD (.pointer (some ⟨g8, 0, none⟩))), (7, isD (.pointer (some ⟨gb, 0, none⟩))), (9, boolD true)] [.c g5 [iD many], .c g6 [boolD false], .c g8 [lsD encA R], .c gb [isD (.map (s.M.map Prod.fst)), isD (.slice s.n.A (Acc.nm R).length s.n.c), isD (.map (s.M.map Prod.snd))], .r s.n.F (vecT 9 1 encT s.n.A s.n.c (Acc.nm R)), .r s.F1 (mapQ (s.M.map Prod.fst) encS (Acc.nm R) (acD R)), .r s.F2 (mapQ (s.M.map Prod.snd) encSt (Acc.seats R) (seD R))]) (⟨⟨_, rfl, ⟨⟨_, rfl, Le.refl _⟩, ⟨⟨_, rfl, Le.refl _⟩, ⟨⟨_, rfl, Le.refl _⟩, ⟨⟨_, rfl, Le.refl _⟩, ⟨⟨_, rfl, Le.refl _⟩, ⟨⟨_, rfl, Le.refl _⟩, trivial⟩⟩⟩⟩⟩⟩⟩, [0, 1, 6, 2, 3, 4, 5], by decide, ⟨⟨_, rfl, LeAll.refl _⟩, ⟨⟨_, rfl, LeAll.refl _⟩, ⟨⟨_, rfl, ⟨(by rw [hR]; exact Le.refl _), trivial⟩⟩, ⟨⟨_, rfl, ⟨Le.refl _, Le.is (by rw [hR]), Le.refl _, trivial⟩⟩, ⟨⟨_, rfl, leVec (by rw [hR]) (by rw [hR])⟩, ⟨⟨_, rfl, (by rw [hR]; exact LeR.refl _)⟩, ⟨⟨_, rfl, (by rw [hR]; exact LeR.refl _)⟩, trivial⟩⟩⟩⟩⟩⟩⟩⟩) ?_
      refine SW.region ?_
      refine SWl.rd rfl (Rd.move rfl) ?_
      refine SWl.rd rfl (Rd.not rfl) ?_
      refine SWl.nil ?_
      refine SN.then ?_
      refine SW.condF rfl (rfl) ?_
      refine SW.skip ?_
      refine SN.then ?_
      refine SW.seq ?_
      refine SW.region ?_
      refine SWl.rd rfl (Rd.move rfl) ?_
      refine SWl.ef (Ef.callR [3, 4, 5, 6] (con_accounts gb s R hf) rfl ⟨Le.refl _, trivial⟩ (by decide) ⟨⟨_, rfl, LeAll.refl _⟩, ⟨⟨_, rfl, LeR.refl _⟩, ⟨⟨_, rfl, LeR.refl _⟩, ⟨⟨_, rfl, LeR.refl _⟩, trivial⟩⟩⟩⟩ (fun _ h => h) rfl) ?_
      rintro _ ⟨gq, rfl⟩
      refine SWl.rd rfl (Rd.assign rfl) ?_
      refine SWl.nil ?_
      refine SN.then ?_
      refine SW.seq ?_
      refine SW.seq ?_
      refine SW.region ?_
      refine SWl.rd rfl (Rd.move rfl) ?_
      refine SWl.rd rfl (Rd.eqFnI rfl rfl (by kernel_rfl)) ?_
      refine SWl.nil ?_
      refine SN.then ?_
      refine SW.condF rfl (rfl) ?_
      refine SW.skip ?_
      refine SN.then ?_
      refine SW.seq ?_
      refine SW.seq ?_
      refine SW.freezeF 7 10 rfl rfl ?_
      refine SW.sub (σ' := St.ob [(1, lsD encAct more), (5, isD (.pointer (some ⟨g5, 0, none⟩))), (6, isD (.pointer (some ⟨g6, 0, none⟩))), (8, isD (.pointer (some ⟨g8, 0, none⟩))), (7, isD (.pointer (some ⟨gb, 0, none⟩))), (10, fnD 37 [paD [lsD encA R]])] [.c g5 [iD many], .c g6 [boolD false], .c g8 [lsD encA R], .c gb [isD (.map (s.M.map Prod.fst)), isD (.slice s.n.A (Acc.nm R).length s.n.c), isD (.map (s.M.map Prod.snd))], .r s.n.F (vecT 9 1 encT s.n.A s.n.c (Acc.nm R)), .r s.F1 (mapQ (s.M.map Prod.fst) encS (Acc.nm R) (acD R)), .r s.F2 (mapQ (s.M.map Prod.snd) encSt (Acc.seats R) (seD R))]) (⟨⟨_, rfl, ⟨⟨_, rfl, Le.refl _⟩, ⟨⟨_, rfl, Le.refl _⟩, ⟨⟨_, rfl, Le.refl _⟩, ⟨⟨_, rfl, Le.refl _⟩, ⟨⟨_, rfl, Le.refl _⟩, ⟨⟨_, rfl, Le.refl _⟩, trivial⟩⟩⟩⟩⟩⟩⟩, [0, 1, 2, 3, 4, 5, 6], by decide, ⟨⟨_, rfl, LeAll.refl _⟩, ⟨⟨_, rfl, LeAll.refl _⟩, ⟨⟨_, rfl, LeAll.refl _⟩, ⟨⟨_, rfl, LeAll.refl _⟩, ⟨⟨_, rfl, LeR.refl _⟩, ⟨⟨_, rfl, LeR.refl _⟩, ⟨⟨_, rfl, LeR.refl _⟩, trivial⟩⟩⟩⟩⟩⟩⟩⟩) ?_
      refine SW.region ?_
      refine SWl.rd rfl (Rd.assign rfl) ?_
      refine SWl.nil ?_
      refine SN.then ?_
      refine SW.block ?_
      refine SW.loop (ι := {p : Nat × Bst × List Acc.T // p.1 ≤ more.length ∧ Acc.Fine p.2.2}) (fun ⟨(i, t, b), hi, hb⟩ => St.ob [(1, lsD encAct more), (5, isD (.pointer (some ⟨g5, 0, none⟩))), (6, isD (.pointer (some ⟨g6, 0, none⟩))), (8, isD (.pointer (some ⟨g8, 0, none⟩))), (7, isD (.pointer (some ⟨gb, 0, none⟩))), (10, fnD 37 [paD [lsD encA R]]), (11, iD (i : Int))] [.c g5 [iD many], .c g6 [boolD false], .c g8 [lsD encA R], .c gb [isD (.map (t.M.map Prod.fst)), isD (.slice t.n.A (Acc.nm b).length t.n.c), isD (.map (t.M.map Prod.snd))], .r t.n.F (vecT 9 1 encT t.n.A t.n.c (Acc.nm b)), .r t.F1 (mapQ (t.M.map Prod.fst) encS (Acc.nm b) (acD b)), .r t.F2 (mapQ (t.M.map Prod.snd) encSt (Acc.seats b) (seD b))]) (fun ⟨(i, t, b), hi, hb⟩ => more.length - i) (⟨(0, s, R), Nat.zero_le _, hf⟩) ?_ ?_
      · exact ⟨⟨_, rfl, ⟨⟨_, rfl, Le.refl _⟩, ⟨⟨_, rfl, Le.refl _⟩, ⟨⟨_, rfl, Le.refl _⟩, ⟨⟨_, rfl, Le.refl _⟩, ⟨⟨_, rfl, Le.refl _⟩, ⟨⟨_, rfl, Le.refl _⟩, ⟨⟨_, rfl, Le.refl _⟩, trivial⟩⟩⟩⟩⟩⟩⟩⟩, [0, 1, 2, 3, 4, 5, 6], by decide, ⟨⟨_, rfl, LeAll.refl _⟩, ⟨⟨_, rfl, LeAll.refl _⟩, ⟨⟨_, rfl, LeAll.refl _⟩, ⟨⟨_, rfl, LeAll.refl _⟩, ⟨⟨_, rfl, LeR.refl _⟩, ⟨⟨_, rfl, LeR.refl _⟩, ⟨⟨_, rfl, LeR.refl _⟩, trivial⟩⟩⟩⟩⟩⟩⟩⟩
      · rintro ⟨⟨i, t, b⟩, hi, hb⟩ K0 hK0
        dsimp only at hi hb ⊢
        refine SW.seq ?_
        refine SW.seq ?_
        refine SW.region ?_
        refine SWl.rd rfl (Rd.move rfl) ?_
        refine SWl.rd rfl (Rd.move rfl) ?_
        refine SWl.rd rfl (Rd.lenR (e := 43) rfl (by kernel_rfl)) ?_
        refine SWl.rd rfl (Rd.lss rfl rfl) ?_
        refine SWl.nil ?_
        refine SN.then ?_
        refine SW.cond rfl (fun hb40 => ?_) (fun hb40 => ?_)
        · have hb40 := of_decide_eq_true hb40
          refine SW.skip ?_
          refine SN.then ?_
          refine SW.seq ?_
          refine SW.block ?_
          refine SW.seq ?_
          obtain ⟨x, hx⟩ : ∃ x, more[i]? = some x := ⟨_, List.getElem?_eq_getElem (by omega)⟩
          refine SW.region ?_
          refine SWl.rd rfl (Rd.move rfl) ?_
          refine SWl.rd rfl (Rd.move rfl) ?_
          refine SWl.rd rfl (Rd.idxL (e := 43) 7 rfl rfl (by kernel_rfl) (by kernel_rfl) (by omega) (by simpa using hx)) ?_
          refine SWl.rd rfl (Rd.fieldR (n := 0) rfl (by kernel_rfl) (show 0 < 7 by decide)) ?_
          refine SWl.rd rfl (Rd.loadR rfl rfl (by kernel_rfl) (by simp)) ?_
          refine SWl.rd rfl (Rd.nei rfl rfl) ?_
          refine SWl.nil ?_
          refine SN.then ?_
          refine SW.cond rfl (fun hb48 => ?_) (fun hb48 => ?_)
          · have h48 : x.what ≠ 1 := by simpa using hb48
            refine SW.draw (gb :: (t.n.F ++ (t.F1 ++ (t.F2 ++ [])))) (.r 0 (.r 1 (.r 2 (.r 3 (.r 4 (.q 5 (.e 6 .fin .no))))))) (by kernel_rfl) (by kernel_rfl) (fun d _ _ _ _ h => by cases d <;> exact h) ?_
            refine SWz.rd (i := 0) rfl rfl (Rd.move rfl) ?_
            refine SWz.rd (i := 1) rfl rfl (Rd.loadA 2 1 rfl rfl (by kernel_rfl) rfl (ap_cons 3 rfl (by decide) (ap_app 4 rfl (by decide) (ap_app 5 rfl (by decide) (ap_app 6 rfl (by decide) ap_nil))))) ?_
            refine SWz.rd (i := 2) rfl rfl (Rd.move rfl) ?_
            refine SWz.rd (i := 3) rfl rfl (Rd.move rfl) ?_
            refine SWz.rd (i := 4) rfl rfl (Rd.idxL (e := 43) 7 rfl rfl (by kernel_rfl) (by kernel_rfl) (by omega) (by simpa using hx)) ?_
            refine SWz.rq (i := 5) rfl rfl (Rd.loadRA 7 rfl (by kernel_rfl) (by decide) (show 7 ≤ 7 by decide) (by simp)) ?_
            refine SWz.efe (i := 6) rfl (Ef.callR [3, 4, 5, 6] (con_doM gb t b x R hf hb (by have := hqm.1 x (List.mem_of_getElem? hx); omega) (by have := hqm.1 x (List.mem_of_getElem? hx); omega) h48) rfl ⟨Le.refl _, Le.refl _, Le.refl _, trivial⟩ (by decide) ⟨⟨_, rfl, LeAll.refl _⟩, ⟨⟨_, rfl, LeR.refl _⟩, ⟨⟨_, rfl, LeR.refl _⟩, ⟨⟨_, rfl, LeR.refl _⟩, trivial⟩⟩⟩⟩ (fun _ h => h) rfl) ?_ SWz.no
            rintro _ ⟨s55, rfl⟩
            refine SWz.nil ?_
            refine SN.block ?_
            refine SN.then ?_
            refine SW.region ?_
            refine SWl.rd rfl (Rd.move rfl) ?_
            refine SWl.rd rfl (Rd.add rfl rfl ⟨by omega, by omega⟩) ?_
            refine SWl.rd rfl (Rd.assign rfl) ?_
            refine SWl.nil ?_
            exact fun a w hh => hK0 (⟨(i + 1, s55, Act.next b x), by dsimp only; omega, Act.fine_next hb x⟩) (by dsimp only; omega) a w (hh.sub (⟨⟨_, rfl, ⟨⟨_, rfl, Le.refl _⟩, ⟨⟨_, rfl, Le.refl _⟩, ⟨⟨_, rfl, Le.refl _⟩, ⟨⟨_, rfl, Le.refl _⟩, ⟨⟨_, rfl, Le.refl _⟩, ⟨⟨_, rfl, Le.refl _⟩, ⟨⟨_, rfl, Le.is (by simp)⟩, trivial⟩⟩⟩⟩⟩⟩⟩⟩, [0, 1, 2, 3, 4, 5, 6], by decide, ⟨⟨_, rfl, LeAll.refl _⟩, ⟨⟨_, rfl, LeAll.refl _⟩, ⟨⟨_, rfl, LeAll.refl _⟩, ⟨⟨_, rfl, LeAll.refl _⟩, ⟨⟨_, rfl, LeR.refl _⟩, ⟨⟨_, rfl, LeR.refl _⟩, ⟨⟨_, rfl, LeR.refl _⟩, trivial⟩⟩⟩⟩⟩⟩⟩⟩))
          · skip
            refine SW.skip ?_
            refine SN.block ?_
            refine SN.then ?_
            refine SW.region ?_
            refine SWl.rd rfl (Rd.move rfl) ?_
            refine SWl.rd rfl (Rd.add rfl rfl ⟨by omega, by omega⟩) ?_
            refine SWl.rd rfl (Rd.assign rfl) ?_
            refine SWl.nil ?_
            exact fun a w hh => hK0 (⟨(i + 1, t, b), by dsimp only; omega, hb⟩) (by dsimp only; omega) a w (hh.sub (⟨⟨_, rfl, ⟨⟨_, rfl, Le.refl _⟩, ⟨⟨_, rfl, Le.refl _⟩, ⟨⟨_, rfl, Le.refl _⟩, ⟨⟨_, rfl, Le.refl _⟩, ⟨⟨_, rfl, Le.refl _⟩, ⟨⟨_, rfl, Le.refl _⟩, ⟨⟨_, rfl, Le.is (by simp)⟩, trivial⟩⟩⟩⟩⟩⟩⟩⟩, [0, 1, 2, 3, 4, 5, 6], by decide, ⟨⟨_, rfl, LeAll.refl _⟩, ⟨⟨_, rfl, LeAll.refl _⟩, ⟨⟨_, rfl, LeAll.refl _⟩, ⟨⟨_, rfl, LeAll.refl _⟩, ⟨⟨_, rfl, LeR.refl _⟩, ⟨⟨_, rfl, LeR.refl _⟩, ⟨⟨_, rfl, LeR.refl _⟩, trivial⟩⟩⟩⟩⟩⟩⟩⟩))
        · skip
          refine SW.exit' ?_
          repeat (first | refine SE.then ?_ | refine SE.skip (by decide) ?_)
          refine SE.here ?_
          refine SN.then ?_
          refine SW.seq ?_
          refine SW.seq ?_
          refine SW.sub (σ' := St.ob [(5, isD (.pointer (some ⟨g5, 0, none⟩))), (6, isD (.pointer (some ⟨g6, 0, none⟩))), (8, isD (.pointer (some ⟨g8, 0, none⟩))), (10, fnD 37 [paD [lsD encA R]])] [.c g5 [iD many], .c g6 [boolD false], .c g8 [lsD encA R]]) (⟨⟨_, rfl, ⟨⟨_, rfl, Le.refl _⟩, ⟨⟨_, rfl, Le.refl _⟩, ⟨⟨_, rfl, Le.refl _⟩, ⟨⟨_, rfl, Le.refl _⟩, trivial⟩⟩⟩⟩⟩, [0, 1, 2], by decide, ⟨⟨_, rfl, LeAll.refl _⟩, ⟨⟨_, rfl, LeAll.refl _⟩, ⟨⟨_, rfl, LeAll.refl _⟩, trivial⟩⟩⟩⟩) ?_
          refine SW.region ?_
          refine SWl.ef (S := []) (Ef.alloc (zs := [.int .i64 0]) (by kernel_rfl) rfl) ?_
          rintro _ ⟨g12, rfl⟩
          refine SWl.ef (S := [_]) (Ef.storeV 3 rfl rfl rfl (by kernel_rfl) rfl (List.mem_singleton.2 rfl)) ?_
          rintro _ rfl
          refine SWl.nil ?_
          refine SN.then ?_
          refine SW.block ?_
          refine SW.rounds 2 ?_
          refine SW.seq ?_
          refine SW.seq ?_
          refine SW.sub (σ' := St.ob [(5, isD (.pointer (some ⟨g5, 0, none⟩))), (6, isD (.pointer (some ⟨g6, 0, none⟩))), (8, isD (.pointer (some ⟨g8, 0, none⟩))), (10, fnD 37 [paD [lsD encA R]]), (12, isD (.pointer (some ⟨g12, 0, none⟩)))] [.c g5 [iD many], .c g6 [boolD false], .c g8 [lsD encA R], .c g12 [iD 0]]) (⟨⟨_, rfl, ⟨⟨_, rfl, Le.refl _⟩, ⟨⟨_, rfl, Le.refl _⟩, ⟨⟨_, rfl, Le.refl _⟩, ⟨⟨_, rfl, Le.refl _⟩, ⟨⟨_, rfl, Le.refl _⟩, trivial⟩⟩⟩⟩⟩⟩, [0, 1, 2, 3], by decide, ⟨⟨_, rfl, LeAll.refl _⟩, ⟨⟨_, rfl, LeAll.refl _⟩, ⟨⟨_, rfl, LeAll.refl _⟩, ⟨⟨_, rfl, LeAll.refl _⟩, trivial⟩⟩⟩⟩⟩) ?_
          refine SW.region ?_
          refine SWl.rd rfl (Rd.loadB 3 rfl rfl rfl (by kernel_rfl) ap_nil) ?_
          refine SWl.rd rfl (Rd.lss rfl rfl) ?_
          refine SWl.nil ?_
          refine SN.then ?_
          refine SW.condT rfl (by decide) ?_
          refine SW.skip ?_
          refine SN.then ?_
          refine SW.seq ?_
          refine SW.block ?_
          refine SW.seq ?_
          refine SW.region ?_
          refine SWl.ef (S := []) (Ef.alloc (zs := [.int .i64 0]) (by kernel_rfl) rfl) ?_
          rintro _ ⟨g13, rfl⟩
          refine SWl.ef (S := [_]) (Ef.storeV 4 rfl rfl rfl (by kernel_rfl) rfl (List.mem_singleton.2 rfl)) ?_
          rintro _ rfl
          refine SWl.nil ?_
          refine SN.then ?_
          refine SW.seq ?_
          refine SW.seq ?_
          refine SW.sub (σ' := St.ob [(5, isD (.pointer (some ⟨g5, 0, none⟩))), (6, isD (.pointer (some ⟨g6, 0, none⟩))), (8, isD (.pointer (some ⟨g8, 0, none⟩))), (10, fnD 37 [paD [lsD encA R]]), (12, isD (.pointer (some ⟨g12, 0, none⟩))), (13, isD (.pointer (some ⟨g13, 0, none⟩)))] [.c g5 [iD many], .c g6 [boolD false], .c g8 [lsD encA R], .c g12 [iD 0], .c g13 [iD (0)]]) (⟨⟨_, rfl, ⟨⟨_, rfl, Le.refl _⟩, ⟨⟨_, rfl, Le.refl _⟩, ⟨⟨_, rfl, Le.refl _⟩, ⟨⟨_, rfl, Le.refl _⟩, ⟨⟨_, rfl, Le.refl _⟩, ⟨⟨_, rfl, Le.refl _⟩, trivial⟩⟩⟩⟩⟩⟩⟩, [0, 1, 2, 3, 4], by decide, ⟨⟨_, rfl, LeAll.refl _⟩, ⟨⟨_, rfl, LeAll.refl _⟩, ⟨⟨_, rfl, LeAll.refl _⟩, ⟨⟨_, rfl, LeAll.refl _⟩, ⟨⟨_, rfl, LeAll.refl _⟩, trivial⟩⟩⟩⟩⟩⟩) ?_
          refine SW.region ?_
          refine SWl.rd rfl (Rd.move rfl) ?_
          refine SWl.nil ?_
          refine SN.then ?_
          refine SW.block ?_
          refine SW.rangeF (gf := 37) (ps := [61, 62]) (ib := ibA) (dd := ddA) (items := (itemsA R)) (fun i bx => (0 < i → (i : Int) < many) ∧ bx = [.c g5 [iD many], .c g6 [boolD false], .c g8 [lsD encA R], .c g12 [iD 0], .c g13 [iD ((i : Int))]]) (fun o i bx => match o with | none => False | some n => n = 4 ∧ i < R.length ∧ (0 < i → (i : Int) < many) ∧ many ≤ (i : Int) + 1 ∧ bx = [.c g5 [iD many], .c g6 [boolD false], .c g8 [lsD encA R], .c g12 [iD 0], .c g13 [iD ((i : Int) + 1)]]) (fun i x k σ => ∃ g15, (0 < i → (i : Int) < many) ∧ σ = St.ob [(5, isD (.pointer (some ⟨g5, 0, none⟩))), (6, isD (.pointer (some ⟨g6, 0, none⟩))), (8, isD (.pointer (some ⟨g8, 0, none⟩))), (12, isD (.pointer (some ⟨g12, 0, none⟩))), (13, isD (.pointer (some ⟨g13, 0, none⟩))), (14, iD (x.1 : Int)), (15, isD (.pointer (some ⟨g15, 0, none⟩)))] [.c g5 [iD many], .c g6 [boolD false], .c g8 [lsD encA R], .c g12 [iD 0], .c g13 [iD ((i : Int))], .r k.F (vecT 5 1 encB k.A k.c x.2.key), .c g15 [strD x.2.name, iD x.2.role, isD (.slice k.A x.2.key.length k.c), iD x.2.dep, iD x.2.num]]) accounts_en (con_accounts_seq R (by omega) hkb) rfl (⟨fun h => absurd h (Nat.lt_irrefl 0), rfl⟩) (by kernel_rfl) (fun _ _ => rfl) ?_ ?_ ?_ ?_ ?_
          · rintro i x k hx bx ⟨hm, rfl⟩ y base w0
            refine SWr.seq ?_
            refine SWr.region (by kernel_rfl) (fun _ _ h => h) ?_
            refine SWl.rd rfl (Rd.assign rfl) ?_
            refine SWl.nil ?_
            refine SN.thenr ?_
            refine SWr.region (by kernel_rfl) (fun _ _ h => h) ?_
            refine SWl.ef (S := []) (Ef.alloc (zs := [.string ⟨#[]⟩, .int .i64 0, .slice none 0 0, .int .i64 0, .int .i64 0]) (by kernel_rfl) rfl) ?_
            rintro _ ⟨g15, rfl⟩
            refine SWl.ef (S := [_]) (Ef.storeA 6 rfl rfl rfl (by kernel_rfl) rfl (List.mem_singleton.2 rfl)) ?_
            rintro _ rfl
            refine SWl.nil ?_
            exact SN.rnd (σ' := St.ob [(5, isD (.pointer (some ⟨g5, 0, none⟩))), (6, isD (.pointer (some ⟨g6, 0, none⟩))), (8, isD (.pointer (some ⟨g8, 0, none⟩))), (12, isD (.pointer (some ⟨g12, 0, none⟩))), (13, isD (.pointer (some ⟨g13, 0, none⟩))), (14, iD (x.1 : Int)), (15, isD (.pointer (some ⟨g15, 0, none⟩)))] [.c g5 [iD many], .c g6 [boolD false], .c g8 [lsD encA R], .c g12 [iD 0], .c g13 [iD ((i : Int))], .r k.F (vecT 5 1 encB k.A k.c x.2.key), .c g15 [strD x.2.name, iD x.2.role, isD (.slice k.A x.2.key.length k.c), iD x.2.dep, iD x.2.num]]) ⟨g15, hm, rfl⟩ (⟨⟨_, rfl, ⟨⟨_, rfl, Le.refl _⟩, ⟨⟨_, rfl, Le.refl _⟩, ⟨⟨_, rfl, Le.refl _⟩, ⟨⟨_, rfl, Le.refl _⟩, ⟨⟨_, rfl, Le.refl _⟩, ⟨⟨_, rfl, Le.refl _⟩, ⟨⟨_, rfl, Le.refl _⟩, trivial⟩⟩⟩⟩⟩⟩⟩⟩, [0, 1, 2, 3, 4, 5, 6], by decide, ⟨⟨_, rfl, LeAll.refl _⟩, ⟨⟨_, rfl, LeAll.refl _⟩, ⟨⟨_, rfl, LeAll.refl _⟩, ⟨⟨_, rfl, LeAll.refl _⟩, ⟨⟨_, rfl, LeAll.refl _⟩, ⟨⟨_, rfl, LeR.refl _⟩, ⟨⟨_, rfl, LeAll.refl _⟩, trivial⟩⟩⟩⟩⟩⟩⟩⟩)
          · rintro i x k hx _ ⟨g15, hm, rfl⟩ y base w0
            obtain ⟨hx1, hx2⟩ := itemsA_inv (j := x.1) (e := x.2) hx
            have hlt := (List.getElem?_eq_some_iff.1 hx2).1
            refine SWr.block ?_
            refine SWr.seq ?_
            refine SWr.seq ?_
            refine SWr.draw [] (.r 0 (.r 1 (.r 2 (.r 3 (.r 4 (.r 5 (.r 6 (.r 7 (.r 8 (.r 9 (.r 10 (.r 11 (.r 12 (.r 13 (.r 14 (.r 15 (.r 16 (.n 17 (.r 18 (.r 19 .fin)) .no)))))))))))))))))) (by kernel_rfl) (fun _ _ h => h) (by kernel_rfl) (by kernel_rfl) (fun d _ _ _ _ h => by cases d <;> exact h) ?_
            refine SWz.rd (i := 0) rfl rfl (Rd.move rfl) ?_
            refine SWz.rd (i := 1) rfl rfl (Rd.loadB 4 rfl rfl rfl (by kernel_rfl) ap_nil) ?_
            refine SWz.rd (i := 2) rfl rfl (Rd.nei rfl rfl) ?_
            refine SWz.rd (i := 3) rfl rfl (Rd.move rfl) ?_
            refine SWz.rdg (i := 4) rfl rfl rfl (by simp [hx1]) rfl rfl (Rd.loadB 4 rfl rfl rfl (by kernel_rfl) ap_nil) ?_
            refine SWz.rdg (i := 5) rfl rfl rfl (by simp [hx1]) rfl rfl (Rd.fieldAddr (n := 0) rfl (by kernel_rfl)) ?_
            refine SWz.rdg (i := 6) rfl rfl rfl (by simp [hx1]) rfl rfl (Rd.loadB 2 rfl rfl rfl (by kernel_rfl) ap_nil) ?_
            refine SWz.rdg (i := 7) rfl rfl rfl (by simp [hx1]) rfl rfl (Rd.lenR (e := 34) rfl (by kernel_rfl)) ?_
            refine SWz.rdg (i := 8) rfl rfl rfl (by simp [hx1]) rfl rfl (Rd.geq rfl rfl) ?_
            refine SWz.rd (i := 9) rfl rfl (Rd.pickN rfl (by simp [hx1]) rfl) ?_
            refine SWz.rd (i := 10) rfl rfl (Rd.move rfl) ?_
            refine SWz.rdg (i := 11) rfl rfl rfl (by simp; omega) rfl rfl (Rd.loadA 6 5 rfl rfl (by kernel_rfl) rfl ap_nil) ?_
            refine SWz.rdg (i := 12) rfl rfl rfl (by simp; omega) rfl rfl (Rd.fieldAddr (n := 0) rfl (by kernel_rfl)) ?_
            refine SWz.rdg (i := 13) rfl rfl rfl (by simp; omega) rfl rfl (Rd.loadB 2 rfl rfl rfl (by kernel_rfl) ap_nil) ?_
            refine SWz.rdg (i := 14) rfl rfl rfl (by simp; omega) rfl rfl (Rd.loadB 4 rfl rfl rfl (by kernel_rfl) ap_nil) ?_
            refine SWz.rdg (i := 15) rfl rfl rfl (by simp; omega) rfl rfl (Rd.idxL (e := 34) 5 rfl rfl (by kernel_rfl) (by kernel_rfl) (by omega) (by simpa using hx2)) ?_
            refine SWz.rdg (i := 16) rfl rfl rfl (by simp; omega) rfl rfl (Rd.loadRA 5 rfl (by kernel_rfl) (by decide) (show 5 ≤ 5 by decide) (by simp)) ?_
            refine SWz.efng (i := 17) rfl rfl rfl (by simp; omega) rfl (Ef.callN [5] (con_SameR x.2 x.2) rfl ⟨(sees_agg ⟨(sees_le (Le.refl _)), (sees_le (Le.refl _)), (sees_vecB 5 rfl (by decide)), (sees_le (Le.refl _)), (sees_le (Le.refl _)), trivial⟩), (sees_agg ⟨(sees_le (Le.refl _)), (sees_le (Le.refl _)), (sees_le (Le.refl _)), (sees_le (Le.refl _)), (sees_le (Le.refl _)), trivial⟩), trivial⟩ rfl) ?_ SWz.no
            rintro _ rfl
            refine SWz.rdg (i := 18) rfl rfl rfl (by simp; omega) rfl rfl (Rd.not rfl) ?_
            refine SWz.rd (i := 19) rfl rfl (Rd.pickN rfl (by simp; omega) rfl) ?_
            refine SWz.nil ?_
            refine SN.thenr ?_
            refine SWr.condF rfl (by rw [decide_eq_true (Acc.eqv_refl _)]; rfl) ?_
            refine SWr.skip ?_
            refine SN.thenr ?_
            refine SWr.seq ?_
            refine SWr.region (by kernel_rfl) (fun _ _ h => h) ?_
            refine SWl.rd rfl (Rd.loadB 4 rfl rfl rfl (by kernel_rfl) ap_nil) ?_
            refine SWl.rd rfl (Rd.add rfl rfl ⟨by omega, by omega⟩) ?_
            refine SWl.ef (S := [_]) (Ef.storeV 4 rfl rfl rfl (by kernel_rfl) rfl (List.mem_singleton.2 rfl)) ?_
            rintro _ rfl
            refine SWl.nil ?_
            refine SN.thenr ?_
            refine SWr.seq ?_
            refine SWr.region (by kernel_rfl) (fun _ _ h => h) ?_
            refine SWl.rd rfl (Rd.loadB 3 rfl rfl rfl (by kernel_rfl) ap_nil) ?_
            refine SWl.rd rfl (Rd.eqi rfl rfl) ?_
            refine SWl.rd rfl (Rd.move rfl) ?_
            refine SWl.rdg rfl rfl (by decide) rfl rfl (Rd.loadB 4 rfl rfl rfl (by kernel_rfl) ap_nil) ?_
            refine SWl.rdg rfl rfl (by decide) rfl rfl (Rd.loadB 0 rfl rfl rfl (by kernel_rfl) ap_nil) ?_
            refine SWl.rdg rfl rfl (by decide) rfl rfl (Rd.geq rfl rfl) ?_
            refine SWl.rd rfl (Rd.pickY rfl (by decide) rfl) ?_
            refine SWl.nil ?_
            refine SN.thenr ?_
            refine SWr.cond rfl (fun hb91 => ?_) (fun hb91 => ?_)
            · have hM := of_decide_eq_true hb91
              refine SWr.exit' ?_
              repeat (first | refine SE.then ?_ | refine SE.skip (by decide) ?_)
              exact SE.rnd (σ' := St.ob [] [.c g5 [iD many], .c g6 [boolD false], .c g8 [lsD encA R], .c g12 [iD 0], .c g13 [iD ((i : Int) + 1)]]) ⟨rfl, hlt, hm, by omega, rfl⟩ (⟨⟨_, rfl, trivial⟩, [0, 1, 2, 3, 4], by decide, ⟨⟨_, rfl, LeAll.refl _⟩, ⟨⟨_, rfl, LeAll.refl _⟩, ⟨⟨_, rfl, LeAll.refl _⟩, ⟨⟨_, rfl, LeAll.refl _⟩, ⟨⟨_, rfl, LeAll.refl _⟩, trivial⟩⟩⟩⟩⟩⟩)
            · have hM := of_decide_eq_false hb91
              refine SWr.skip ?_
              refine SN.block ?_
              exact SN.rnd (σ' := St.ob [] [.c g5 [iD many], .c g6 [boolD false], .c g8 [lsD encA R], .c g12 [iD 0], .c g13 [iD (((i + 1 : Nat) : Int))]]) ⟨fun _ => by omega, rfl⟩ (⟨⟨_, rfl, trivial⟩, [0, 1, 2, 3, 4], by decide, ⟨⟨_, rfl, LeAll.refl _⟩, ⟨⟨_, rfl, LeAll.refl _⟩, ⟨⟨_, rfl, LeAll.refl _⟩, ⟨⟨_, rfl, LeAll.refl _⟩, ⟨⟨_, rfl, ⟨Le.is (by simp), trivial⟩⟩, trivial⟩⟩⟩⟩⟩⟩)
          · rintro dk0 bx ⟨hm, rfl⟩
            rw [itemsA_len] at hm
            refine SN.block ?_
            refine SN.then ?_
            refine SW.seq ?_
            refine SW.region ?_
            refine SWl.rd rfl (Rd.loadB 3 rfl rfl rfl (by kernel_rfl) ap_nil) ?_
            refine SWl.rd rfl (Rd.eqi rfl rfl) ?_
            refine SWl.rd rfl (Rd.move rfl) ?_
            refine SWl.rdg rfl rfl (by decide) rfl rfl (Rd.loadB 4 rfl rfl rfl (by kernel_rfl) ap_nil) ?_
            refine SWl.rdg rfl rfl (by decide) rfl rfl (Rd.fieldAddr (n := 0) rfl (by kernel_rfl)) ?_
            refine SWl.rdg rfl rfl (by decide) rfl rfl (Rd.loadB 2 rfl rfl rfl (by kernel_rfl) ap_nil) ?_
            refine SWl.rdg rfl rfl (by decide) rfl rfl (Rd.lenR (e := 34) rfl (by kernel_rfl)) ?_
            refine SWl.rdg rfl rfl (by decide) rfl rfl (Rd.loadB 0 rfl rfl rfl (by kernel_rfl) ap_nil) ?_
            refine SWl.rdg rfl rfl (by decide) rfl rfl (Rd.maxI rfl rfl) ?_
            refine SWl.rdg rfl rfl (by decide) rfl rfl (Rd.minI rfl rfl) ?_
            refine SWl.rdg rfl rfl (by decide) rfl rfl (Rd.nei rfl rfl) ?_
            refine SWl.rd rfl (Rd.pickY rfl (by decide) rfl) ?_
            refine SWl.rd rfl (Rd.move rfl) ?_
            refine SWl.rdg rfl rfl (by first | (simp [itemsA_len]; omega) | simp [itemsA_len]) rfl rfl (Rd.loadB 3 rfl rfl rfl (by kernel_rfl) ap_nil) ?_
            refine SWl.rdg rfl rfl (by first | (simp [itemsA_len]; omega) | simp [itemsA_len]) rfl rfl (Rd.eqi rfl rfl) ?_
            refine SWl.rdg rfl rfl (by first | (simp [itemsA_len]; omega) | simp [itemsA_len]) rfl rfl (Rd.move rfl) ?_
            refine SWl.off rfl rfl (by decide) rfl rfl ?_
            refine SWl.off rfl rfl (by decide) rfl rfl ?_
            refine SWl.off rfl rfl (by decide) rfl rfl ?_
            refine SWl.off rfl rfl (by decide) rfl rfl ?_
            refine SWl.off rfl rfl (by decide) rfl rfl ?_
            refine SWl.rdg rfl rfl (by first | (simp [itemsA_len]; omega) | simp [itemsA_len]) rfl rfl (Rd.pickN rfl (by decide) rfl) ?_
            refine SWl.rd rfl (Rd.pickN rfl (by first | (simp [itemsA_len]; omega) | simp [itemsA_len]) rfl) ?_
            refine SWl.nil ?_
            refine SN.then ?_
            refine SW.condF rfl (rfl) ?_
            refine SW.skip ?_
            refine SN.block ?_
            refine SN.then ?_
            refine SW.seq ?_
            refine SW.seq ?_
            refine SW.region ?_
            refine SWl.rd rfl (Rd.loadB 3 rfl rfl rfl (by kernel_rfl) ap_nil) ?_
            refine SWl.nil ?_
            refine SN.then ?_
            refine SW.sub (σ' := St.ob [(5, isD (.pointer (some ⟨g5, 0, none⟩))), (6, isD (.pointer (some ⟨g6, 0, none⟩))), (8, isD (.pointer (some ⟨g8, 0, none⟩))), (10, fnD 37 [paD [lsD encA R]]), (115, iD 0)] [.c g5 [iD many], .c g6 [boolD false], .c g8 [lsD encA R], .r [dk0] dfR]) (⟨⟨_, rfl, ⟨⟨_, rfl, Le.refl _⟩, ⟨⟨_, rfl, Le.refl _⟩, ⟨⟨_, rfl, Le.refl _⟩, ⟨⟨_, rfl, Le.refl _⟩, ⟨⟨_, rfl, Le.refl _⟩, trivial⟩⟩⟩⟩⟩⟩, [0, 1, 2, 5], by decide, ⟨⟨_, rfl, LeAll.refl _⟩, ⟨⟨_, rfl, LeAll.refl _⟩, ⟨⟨_, rfl, LeAll.refl _⟩, ⟨⟨_, rfl, LeR.refl _⟩, trivial⟩⟩⟩⟩⟩) ?_
            refine SW.region ?_
            refine SWl.ef (S := []) (Ef.alloc (zs := [.int .i64 0]) (by kernel_rfl) rfl) ?_
            rintro _ ⟨g12, rfl⟩
            refine SWl.ef (S := [_]) (Ef.storeV 4 rfl rfl rfl (by kernel_rfl) rfl (List.mem_singleton.2 rfl)) ?_
            rintro _ rfl
            refine SWl.nil ?_
            refine SN.then ?_
            refine SW.region ?_
            refine SWl.rd rfl (Rd.loadB 4 rfl rfl rfl (by kernel_rfl) ap_nil) ?_
            refine SWl.rd rfl (Rd.add rfl rfl ⟨by decide, by decide⟩) ?_
            refine SWl.ef (S := [_]) (Ef.storeV 4 rfl rfl rfl (by kernel_rfl) rfl (List.mem_singleton.2 rfl)) ?_
            rintro _ rfl
            refine SWl.nil ?_
            refine SN.round ?_
            refine SW.seq ?_
            refine SW.seq ?_
            refine SW.sub (σ' := St.ob [(5, isD (.pointer (some ⟨g5, 0, none⟩))), (6, isD (.pointer (some ⟨g6, 0, none⟩))), (8, isD (.pointer (some ⟨g8, 0, none⟩))), (10, fnD 37 [paD [lsD encA R]]), (12, isD (.pointer (some ⟨g12, 0, none⟩)))] [.c g5 [iD many], .c g6 [boolD false], .c g8 [lsD encA R], .c g12 [iD 1], .r [dk0] dfR]) (⟨⟨_, rfl, ⟨⟨_, rfl, Le.refl _⟩, ⟨⟨_, rfl, Le.refl _⟩, ⟨⟨_, rfl, Le.refl _⟩, ⟨⟨_, rfl, Le.refl _⟩, ⟨⟨_, rfl, Le.refl _⟩, trivial⟩⟩⟩⟩⟩⟩, [0, 1, 2, 4, 3], by decide, ⟨⟨_, rfl, LeAll.refl _⟩, ⟨⟨_, rfl, LeAll.refl _⟩, ⟨⟨_, rfl, LeAll.refl _⟩, ⟨⟨_, rfl, LeAll.refl _⟩, ⟨⟨_, rfl, LeR.refl _⟩, trivial⟩⟩⟩⟩⟩⟩) ?_
            refine SW.region ?_
            refine SWl.rd rfl (Rd.loadB 3 rfl rfl rfl (by kernel_rfl) ap_nil) ?_
            refine SWl.rd rfl (Rd.lss rfl rfl) ?_
            refine SWl.nil ?_
            refine SN.then ?_
            refine SW.condT rfl (by decide) ?_
            refine SW.skip ?_
            refine SN.then ?_
            refine SW.seq ?_
            refine SW.block ?_
            refine SW.seq ?_
            refine SW.region ?_
            refine SWl.ef (S := []) (Ef.alloc (zs := [.int .i64 0]) (by kernel_rfl) rfl) ?_
            rintro _ ⟨g13, rfl⟩
            refine SWl.ef (S := [_]) (Ef.storeV 5 rfl rfl rfl (by kernel_rfl) rfl (List.mem_singleton.2 rfl)) ?_
            rintro _ rfl
            refine SWl.nil ?_
            refine SN.then ?_
            refine SW.seq ?_
            refine SW.seq ?_
            refine SW.sub (σ' := St.ob [(5, isD (.pointer (some ⟨g5, 0, none⟩))), (6, isD (.pointer (some ⟨g6, 0, none⟩))), (8, isD (.pointer (some ⟨g8, 0, none⟩))), (10, fnD 37 [paD [lsD encA R]]), (12, isD (.pointer (some ⟨g12, 0, none⟩))), (13, isD (.pointer (some ⟨g13, 0, none⟩)))] [.c g5 [iD many], .c g6 [boolD false], .c g8 [lsD encA R], .c g12 [iD 1], .c g13 [iD (0)], .r [dk0] dfR]) (⟨⟨_, rfl, ⟨⟨_, rfl, Le.refl _⟩, ⟨⟨_, rfl, Le.refl _⟩, ⟨⟨_, rfl, Le.refl _⟩, ⟨⟨_, rfl, Le.refl _⟩, ⟨⟨_, rfl, Le.refl _⟩, ⟨⟨_, rfl, Le.refl _⟩, trivial⟩⟩⟩⟩⟩⟩⟩, [0, 1, 2, 3, 5, 4], by decide, ⟨⟨_, rfl, LeAll.refl _⟩, ⟨⟨_, rfl, LeAll.refl _⟩, ⟨⟨_, rfl, LeAll.refl _⟩, ⟨⟨_, rfl, LeAll.refl _⟩, ⟨⟨_, rfl, LeAll.refl _⟩, ⟨⟨_, rfl, LeR.refl _⟩, trivial⟩⟩⟩⟩⟩⟩⟩) ?_
            refine SW.region ?_
            refine SWl.rd rfl (Rd.move rfl) ?_
            refine SWl.nil ?_
            refine SN.then ?_
            refine SW.block ?_
            refine SW.rangeF (gf := 37) (ps := [61, 62]) (ib := ibA) (dd := ddA) (items := (itemsA R)) (fun i bx => bx = [.c g5 [iD many], .c g6 [boolD false], .c g8 [lsD encA R], .c g12 [iD 1], .c g13 [iD ((i : Int))], .r [dk0] dfR]) (fun o i bx => match o with | none => False | some n => False) (fun i x k σ => ∃ g15, σ = St.ob [(5, isD (.pointer (some ⟨g5, 0, none⟩))), (6, isD (.pointer (some ⟨g6, 0, none⟩))), (8, isD (.pointer (some ⟨g8, 0, none⟩))), (12, isD (.pointer (some ⟨g12, 0, none⟩))), (13, isD (.pointer (some ⟨g13, 0, none⟩))), (14, iD (x.1 : Int)), (15, isD (.pointer (some ⟨g15, 0, none⟩)))] [.c g5 [iD many], .c g6 [boolD false], .c g8 [lsD encA R], .c g12 [iD 1], .c g13 [iD ((i : Int))], .r [dk0] dfR, .r k.F (vecT 5 1 encB k.A k.c x.2.key), .c g15 [strD x.2.name, iD x.2.role, isD (.slice k.A x.2.key.length k.c), iD x.2.dep, iD x.2.num]]) accounts_en (con_accounts_seq R (by omega) hkb) rfl (rfl) (by kernel_rfl) (fun _ _ => rfl) ?_ ?_ ?_ ?_ ?_
            · rintro i x k hx bx rfl y base w0
              refine SWr.seq ?_
              refine SWr.region (by kernel_rfl) (fun _ _ h => h) ?_
              refine SWl.rd rfl (Rd.assign rfl) ?_
              refine SWl.nil ?_
              refine SN.thenr ?_
              refine SWr.region (by kernel_rfl) (fun _ _ h => h) ?_
              refine SWl.ef (S := []) (Ef.alloc (zs := [.string ⟨#[]⟩, .int .i64 0, .slice none 0 0, .int .i64 0, .int .i64 0]) (by kernel_rfl) rfl) ?_
              rintro _ ⟨g15, rfl⟩
              refine SWl.ef (S := [_]) (Ef.storeA 7 rfl rfl rfl (by kernel_rfl) rfl (List.mem_singleton.2 rfl)) ?_
              rintro _ rfl
              refine SWl.nil ?_
              exact SN.rnd (σ' := St.ob [(5, isD (.pointer (some ⟨g5, 0, none⟩))), (6, isD (.pointer (some ⟨g6, 0, none⟩))), (8, isD (.pointer (some ⟨g8, 0, none⟩))), (12, isD (.pointer (some ⟨g12, 0, none⟩))), (13, isD (.pointer (some ⟨g13, 0, none⟩))), (14, iD (x.1 : Int)), (15, isD (.pointer (some ⟨g15, 0, none⟩)))] [.c g5 [iD many], .c g6 [boolD false], .c g8 [lsD encA R], .c g12 [iD 1], .c g13 [iD ((i : Int))], .r [dk0] dfR, .r k.F (vecT 5 1 encB k.A k.c x.2.key), .c g15 [strD x.2.name, iD x.2.role, isD (.slice k.A x.2.key.length k.c), iD x.2.dep, iD x.2.num]]) ⟨g15, rfl⟩ (⟨⟨_, rfl, ⟨⟨_, rfl, Le.refl _⟩, ⟨⟨_, rfl, Le.refl _⟩, ⟨⟨_, rfl, Le.refl _⟩, ⟨⟨_, rfl, Le.refl _⟩, ⟨⟨_, rfl, Le.refl _⟩, ⟨⟨_, rfl, Le.refl _⟩, ⟨⟨_, rfl, Le.refl _⟩, trivial⟩⟩⟩⟩⟩⟩⟩⟩, [0, 1, 2, 3, 4, 5, 6, 7], by decide, ⟨⟨_, rfl, LeAll.refl _⟩, ⟨⟨_, rfl, LeAll.refl _⟩, ⟨⟨_, rfl, LeAll.refl _⟩, ⟨⟨_, rfl, LeAll.refl _⟩, ⟨⟨_, rfl, LeAll.refl _⟩, ⟨⟨_, rfl, LeR.refl _⟩, ⟨⟨_, rfl, LeR.refl _⟩, ⟨⟨_, rfl, LeAll.refl _⟩, trivial⟩⟩⟩⟩⟩⟩⟩⟩⟩)
            · rintro i x k hx _ ⟨g15, rfl⟩ y base w0
              obtain ⟨hx1, hx2⟩ := itemsA_inv (j := x.1) (e := x.2) hx
              have hlt := (List.getElem?_eq_some_iff.1 hx2).1
              refine SWr.block ?_
              refine SWr.seq ?_
              refine SWr.seq ?_
              refine SWr.draw [] (.r 0 (.r 1 (.r 2 (.r 3 (.r 4 (.r 5 (.r 6 (.r 7 (.r 8 (.r 9 (.r 10 (.r 11 (.r 12 (.r 13 (.r 14 (.r 15 (.r 16 (.n 17 (.r 18 (.r 19 .fin)) .no)))))))))))))))))) (by kernel_rfl) (fun _ _ h => h) (by kernel_rfl) (by kernel_rfl) (fun d _ _ _ _ h => by cases d <;> exact h) ?_
              refine SWz.rd (i := 0) rfl rfl (Rd.move rfl) ?_
              refine SWz.rd (i := 1) rfl rfl (Rd.loadB 4 rfl rfl rfl (by kernel_rfl) ap_nil) ?_
              refine SWz.rd (i := 2) rfl rfl (Rd.nei rfl rfl) ?_
              refine SWz.rd (i := 3) rfl rfl (Rd.move rfl) ?_
              refine SWz.rdg (i := 4) rfl rfl rfl (by simp [hx1]) rfl rfl (Rd.loadB 4 rfl rfl rfl (by kernel_rfl) ap_nil) ?_
              refine SWz.rdg (i := 5) rfl rfl rfl (by simp [hx1]) rfl rfl (Rd.fieldAddr (n := 0) rfl (by kernel_rfl)) ?_
              refine SWz.rdg (i := 6) rfl rfl rfl (by simp [hx1]) rfl rfl (Rd.loadB 2 rfl rfl rfl (by kernel_rfl) ap_nil) ?_
              refine SWz.rdg (i := 7) rfl rfl rfl (by simp [hx1]) rfl rfl (Rd.lenR (e := 34) rfl (by kernel_rfl)) ?_
              refine SWz.rdg (i := 8) rfl rfl rfl (by simp [hx1]) rfl rfl (Rd.geq rfl rfl) ?_
              refine SWz.rd (i := 9) rfl rfl (Rd.pickN rfl (by simp [hx1]) rfl) ?_
              refine SWz.rd (i := 10) rfl rfl (Rd.move rfl) ?_
              refine SWz.rdg (i := 11) rfl rfl rfl (by simp; omega) rfl rfl (Rd.loadA 7 5 rfl rfl (by kernel_rfl) rfl ap_nil) ?_
              refine SWz.rdg (i := 12) rfl rfl rfl (by simp; omega) rfl rfl (Rd.fieldAddr (n := 0) rfl (by kernel_rfl)) ?_
              refine SWz.rdg (i := 13) rfl rfl rfl (by simp; omega) rfl rfl (Rd.loadB 2 rfl rfl rfl (by kernel_rfl) ap_nil) ?_
              refine SWz.rdg (i := 14) rfl rfl rfl (by simp; omega) rfl rfl (Rd.loadB 4 rfl rfl rfl (by kernel_rfl) ap_nil) ?_
              refine SWz.rdg (i := 15) rfl rfl rfl (by simp; omega) rfl rfl (Rd.idxL (e := 34) 5 rfl rfl (by kernel_rfl) (by kernel_rfl) (by omega) (by simpa using hx2)) ?_
              refine SWz.rdg (i := 16) rfl rfl rfl (by simp; omega) rfl rfl (Rd.loadRA 5 rfl (by kernel_rfl) (by decide) (show 5 ≤ 5 by decide) (by simp)) ?_
              refine SWz.efng (i := 17) rfl rfl rfl (by simp; omega) rfl (Ef.callN [6] (con_SameR x.2 x.2) rfl ⟨(sees_agg ⟨(sees_le (Le.refl _)), (sees_le (Le.refl _)), (sees_vecB 6 rfl (by decide)), (sees_le (Le.refl _)), (sees_le (Le.refl _)), trivial⟩), (sees_agg ⟨(sees_le (Le.refl _)), (sees_le (Le.refl _)), (sees_le (Le.refl _)), (sees_le (Le.refl _)), (sees_le (Le.refl _)), trivial⟩), trivial⟩ rfl) ?_ SWz.no
              rintro _ rfl
              refine SWz.rdg (i := 18) rfl rfl rfl (by simp; omega) rfl rfl (Rd.not rfl) ?_
              refine SWz.rd (i := 19) rfl rfl (Rd.pickN rfl (by simp; omega) rfl) ?_
              refine SWz.nil ?_
              refine SN.thenr ?_
              refine SWr.condF rfl (by rw [decide_eq_true (Acc.eqv_refl _)]; rfl) ?_
              refine SWr.skip ?_
              refine SN.thenr ?_
              refine SWr.seq ?_
              refine SWr.region (by kernel_rfl) (fun _ _ h => h) ?_
              refine SWl.rd rfl (Rd.loadB 4 rfl rfl rfl (by kernel_rfl) ap_nil) ?_
              refine SWl.rd rfl (Rd.add rfl rfl ⟨by omega, by omega⟩) ?_
              refine SWl.ef (S := [_]) (Ef.storeV 4 rfl rfl rfl (by kernel_rfl) rfl (List.mem_singleton.2 rfl)) ?_
              rintro _ rfl
              refine SWl.nil ?_
              refine SN.thenr ?_
              refine SWr.seq ?_
              refine SWr.region (by kernel_rfl) (fun _ _ h => h) ?_
              refine SWl.rd rfl (Rd.loadB 3 rfl rfl rfl (by kernel_rfl) ap_nil) ?_
              refine SWl.rd rfl (Rd.eqi rfl rfl) ?_
              refine SWl.rd rfl (Rd.move rfl) ?_
              refine SWl.off rfl rfl (by decide) rfl rfl ?_
              refine SWl.off rfl rfl (by decide) rfl rfl ?_
              refine SWl.off rfl rfl (by decide) rfl rfl ?_
              refine SWl.rd rfl (Rd.pickN rfl (by decide) rfl) ?_
              refine SWl.nil ?_
              refine SN.thenr ?_
              refine SWr.condF rfl (rfl) ?_
              refine SWr.skip ?_
              refine SN.block ?_
              exact SN.rnd (σ' := St.ob [] [.c g5 [iD many], .c g6 [boolD false], .c g8 [lsD encA R], .c g12 [iD 1], .c g13 [iD (((i + 1 : Nat) : Int))], .r [dk0] dfR]) rfl (⟨⟨_, rfl, trivial⟩, [0, 1, 2, 3, 4, 5], by decide, ⟨⟨_, rfl, LeAll.refl _⟩, ⟨⟨_, rfl, LeAll.refl _⟩, ⟨⟨_, rfl, LeAll.refl _⟩, ⟨⟨_, rfl, LeAll.refl _⟩, ⟨⟨_, rfl, ⟨Le.is (by simp), trivial⟩⟩, ⟨⟨_, rfl, LeR.refl _⟩, trivial⟩⟩⟩⟩⟩⟩⟩)
            · rintro dk1 bx rfl
              refine SN.block ?_
              refine SN.then ?_
              refine SW.seq ?_
              refine SW.region ?_
              refine SWl.rd rfl (Rd.loadB 3 rfl rfl rfl (by kernel_rfl) ap_nil) ?_
              refine SWl.rd rfl (Rd.eqi rfl rfl) ?_
              refine SWl.rd rfl (Rd.move rfl) ?_
              refine SWl.off rfl rfl (by decide) rfl rfl ?_
              refine SWl.off rfl rfl (by decide) rfl rfl ?_
              refine SWl.off rfl rfl (by decide) rfl rfl ?_
              refine SWl.off rfl rfl (by decide) rfl rfl ?_
              refine SWl.off rfl rfl (by decide) rfl rfl ?_
              refine SWl.off rfl rfl (by decide) rfl rfl ?_
              refine SWl.off rfl rfl (by decide) rfl rfl ?_
              refine SWl.off rfl rfl (by decide) rfl rfl ?_
              refine SWl.rd rfl (Rd.pickN rfl (by decide) rfl) ?_
              refine SWl.rd rfl (Rd.move rfl) ?_
              refine SWl.rdg rfl rfl (rfl) rfl rfl (Rd.loadB 3 rfl rfl rfl (by kernel_rfl) ap_nil) ?_
              refine SWl.rdg rfl rfl (rfl) rfl rfl (Rd.eqi rfl rfl) ?_
              refine SWl.rdg rfl rfl (rfl) rfl rfl (Rd.move rfl) ?_
              refine SWl.rdg rfl rfl (by decide) rfl rfl (Rd.loadB 4 rfl rfl rfl (by kernel_rfl) ap_nil) ?_
              refine SWl.rdg rfl rfl (by decide) rfl rfl (Rd.fieldAddr (n := 0) rfl (by kernel_rfl)) ?_
              refine SWl.rdg rfl rfl (by decide) rfl rfl (Rd.loadB 2 rfl rfl rfl (by kernel_rfl) ap_nil) ?_
              refine SWl.rdg rfl rfl (by decide) rfl rfl (Rd.lenR (e := 34) rfl (by kernel_rfl)) ?_
              refine SWl.rdg rfl rfl (by decide) rfl rfl (Rd.nei rfl rfl) ?_
              refine SWl.rdg rfl rfl (rfl) rfl rfl (Rd.pickY rfl (by decide) rfl) ?_
              refine SWl.rd rfl (Rd.pickN rfl (rfl) rfl) ?_
              refine SWl.nil ?_
              refine SN.then ?_
              refine SW.condF rfl (by simp [itemsA_len]) ?_
              refine SW.skip ?_
              refine SN.block ?_
              refine SN.then ?_
              refine SW.seq ?_
              refine SW.seq ?_
              refine SW.region ?_
              refine SWl.rd rfl (Rd.loadB 3 rfl rfl rfl (by kernel_rfl) ap_nil) ?_
              refine SWl.nil ?_
              refine SN.then ?_
              refine SW.sub (σ' := St.ob [(5, isD (.pointer (some ⟨g5, 0, none⟩))), (6, isD (.pointer (some ⟨g6, 0, none⟩))), (8, isD (.pointer (some ⟨g8, 0, none⟩))), (10, fnD 37 [paD [lsD encA R]]), (115, iD 1)] [.c g5 [iD many], .c g6 [boolD false], .c g8 [lsD encA R], .r [dk0] dfR, .r [dk1] dfR]) (⟨⟨_, rfl, ⟨⟨_, rfl, Le.refl _⟩, ⟨⟨_, rfl, Le.refl _⟩, ⟨⟨_, rfl, Le.refl _⟩, ⟨⟨_, rfl, Le.refl _⟩, ⟨⟨_, rfl, Le.refl _⟩, trivial⟩⟩⟩⟩⟩⟩, [0, 1, 2, 5, 6], by decide, ⟨⟨_, rfl, LeAll.refl _⟩, ⟨⟨_, rfl, LeAll.refl _⟩, ⟨⟨_, rfl, LeAll.refl _⟩, ⟨⟨_, rfl, LeR.refl _⟩, ⟨⟨_, rfl, LeR.refl _⟩, trivial⟩⟩⟩⟩⟩⟩) ?_
              refine SW.region ?_
              refine SWl.ef (S := []) (Ef.alloc (zs := [.int .i64 0]) (by kernel_rfl) rfl) ?_
              rintro _ ⟨g12, rfl⟩
              refine SWl.ef (S := [_]) (Ef.storeV 5 rfl rfl rfl (by kernel_rfl) rfl (List.mem_singleton.2 rfl)) ?_
              rintro _ rfl
              refine SWl.nil ?_
              refine SN.then ?_
              refine SW.region ?_
              refine SWl.rd rfl (Rd.loadB 5 rfl rfl rfl (by kernel_rfl) ap_nil) ?_
              refine SWl.rd rfl (Rd.add rfl rfl ⟨by decide, by decide⟩) ?_
              refine SWl.ef (S := [_]) (Ef.storeV 5 rfl rfl rfl (by kernel_rfl) rfl (List.mem_singleton.2 rfl)) ?_
              rintro _ rfl
              refine SWl.nil ?_
              refine SN.round ?_
              refine SW.seq ?_
              refine SW.seq ?_
              refine SW.sub (σ' := St.ob [(5, isD (.pointer (some ⟨g5, 0, none⟩))), (6, isD (.pointer (some ⟨g6, 0, none⟩))), (8, isD (.pointer (some ⟨g8, 0, none⟩))), (10, fnD 37 [paD [lsD encA R]]), (12, isD (.pointer (some ⟨g12, 0, none⟩)))] [.c g5 [iD many], .c g6 [boolD false], .c g8 [lsD encA R], .c g12 [iD 2], .r [dk0] dfR, .r [dk1] dfR]) (⟨⟨_, rfl, ⟨⟨_, rfl, Le.refl _⟩, ⟨⟨_, rfl, Le.refl _⟩, ⟨⟨_, rfl, Le.refl _⟩, ⟨⟨_, rfl, Le.refl _⟩, ⟨⟨_, rfl, Le.refl _⟩, trivial⟩⟩⟩⟩⟩⟩, [0, 1, 2, 5, 3, 4], by decide, ⟨⟨_, rfl, LeAll.refl _⟩, ⟨⟨_, rfl, LeAll.refl _⟩, ⟨⟨_, rfl, LeAll.refl _⟩, ⟨⟨_, rfl, LeAll.refl _⟩, ⟨⟨_, rfl, LeR.refl _⟩, ⟨⟨_, rfl, LeR.refl _⟩, trivial⟩⟩⟩⟩⟩⟩⟩) ?_
              refine SW.region ?_
              refine SWl.rd rfl (Rd.loadB 3 rfl rfl rfl (by kernel_rfl) ap_nil) ?_
              refine SWl.rd rfl (Rd.lss rfl rfl) ?_
              refine SWl.nil ?_
              refine SN.then ?_
              refine SW.condF rfl (by decide) ?_
              refine SW.exit' ?_
              repeat (first | refine SE.then ?_ | refine SE.skip (by decide) ?_)
              refine SE.here ?_
              refine SN.then ?_
              refine SW.seq ?_
              refine SW.sub (σ' := St.ob [(6, isD (.pointer (some ⟨g6, 0, none⟩)))] [.c g6 [boolD false], .r [dk0] dfR, .r [dk1] dfR]) (⟨⟨_, rfl, ⟨⟨_, rfl, Le.refl _⟩, trivial⟩⟩, [1, 4, 5], by decide, ⟨⟨_, rfl, LeAll.refl _⟩, ⟨⟨_, rfl, LeR.refl _⟩, ⟨⟨_, rfl, LeR.refl _⟩, trivial⟩⟩⟩⟩) ?_
              refine SW.region ?_
              refine SWl.ef (S := []) (Ef.callN [] (con_known41) rfl trivial rfl) ?_
              rintro _ rfl
              refine SWl.ef (S := [_]) (Ef.storeV 0 rfl rfl rfl (by kernel_rfl) rfl (List.mem_singleton.2 rfl)) ?_
              rintro _ rfl
              refine SWl.nil ?_
              refine SN.then ?_
              refine SW.retM (fn := Try.f5) (fun _ _ h => h) ?_
              refine RM.mark 2 rfl ?_
              refine RM.mark 1 rfl ?_
              refine RM.fin ?_
              refine Rs.le (Rs.one rfl (ResV.cellV 0 rfl rfl (by kernel_rfl) rfl)) ?_
              exact le_bool_n (by rfl)
            · rintro _ _ _ _ hX; exact hX.elim
            · rintro _ _ _ hX; exact hX.elim
          · rintro dk0 nq i bx ⟨rfl, hlt, hm, hM, rfl⟩
            repeat (first | refine SE.then ?_ | refine SE.skip (by decide) ?_)
            refine SE.here ?_
            refine SN.then ?_
            refine SW.seq ?_
            refine SW.region ?_
            refine SWl.rd rfl (Rd.loadB 3 rfl rfl rfl (by kernel_rfl) ap_nil) ?_
            refine SWl.rd rfl (Rd.eqi rfl rfl) ?_
            refine SWl.rd rfl (Rd.move rfl) ?_
            refine SWl.rdg rfl rfl (by decide) rfl rfl (Rd.loadB 4 rfl rfl rfl (by kernel_rfl) ap_nil) ?_
            refine SWl.rdg rfl rfl (by decide) rfl rfl (Rd.fieldAddr (n := 0) rfl (by kernel_rfl)) ?_
            refine SWl.rdg rfl rfl (by decide) rfl rfl (Rd.loadB 2 rfl rfl rfl (by kernel_rfl) ap_nil) ?_
            refine SWl.rdg rfl rfl (by decide) rfl rfl (Rd.lenR (e := 34) rfl (by kernel_rfl)) ?_
            refine SWl.rdg rfl rfl (by decide) rfl rfl (Rd.loadB 0 rfl rfl rfl (by kernel_rfl) ap_nil) ?_
            refine SWl.rdg rfl rfl (by decide) rfl rfl (Rd.maxI rfl rfl) ?_
            refine SWl.rdg rfl rfl (by decide) rfl rfl (Rd.minI rfl rfl) ?_
            refine SWl.rdg rfl rfl (by decide) rfl rfl (Rd.nei rfl rfl) ?_
            refine SWl.rd rfl (Rd.pickY rfl (by decide) rfl) ?_
            refine SWl.rd rfl (Rd.move rfl) ?_
            refine SWl.rdg rfl rfl (by first | (simp [itemsA_len]; omega) | simp [itemsA_len]) rfl rfl (Rd.loadB 3 rfl rfl rfl (by kernel_rfl) ap_nil) ?_
            refine SWl.rdg rfl rfl (by first | (simp [itemsA_len]; omega) | simp [itemsA_len]) rfl rfl (Rd.eqi rfl rfl) ?_
            refine SWl.rdg rfl rfl (by first | (simp [itemsA_len]; omega) | simp [itemsA_len]) rfl rfl (Rd.move rfl) ?_
            refine SWl.off rfl rfl (by decide) rfl rfl ?_
            refine SWl.off rfl rfl (by decide) rfl rfl ?_
            refine SWl.off rfl rfl (by decide) rfl rfl ?_
            refine SWl.off rfl rfl (by decide) rfl rfl ?_
            refine SWl.off rfl rfl (by decide) rfl rfl ?_
            refine SWl.rdg rfl rfl (by first | (simp [itemsA_len]; omega) | simp [itemsA_len]) rfl rfl (Rd.pickN rfl (by decide) rfl) ?_
            refine SWl.rd rfl (Rd.pickN rfl (by first | (simp [itemsA_len]; omega) | simp [itemsA_len]) rfl) ?_
            refine SWl.nil ?_
            refine SN.then ?_
            refine SW.condF rfl (rfl) ?_
            refine SW.skip ?_
            refine SN.block ?_
            refine SN.then ?_
            refine SW.seq ?_
            refine SW.seq ?_
            refine SW.region ?_
            refine SWl.rd rfl (Rd.loadB 3 rfl rfl rfl (by kernel_rfl) ap_nil) ?_
            refine SWl.nil ?_
            refine SN.then ?_
            refine SW.sub (σ' := St.ob [(5, isD (.pointer (some ⟨g5, 0, none⟩))), (6, isD (.pointer (some ⟨g6, 0, none⟩))), (8, isD (.pointer (some ⟨g8, 0, none⟩))), (10, fnD 37 [paD [lsD encA R]]), (115, iD 0)] [.c g5 [iD many], .c g6 [boolD false], .c g8 [lsD encA R], .r [dk0] dfR]) (⟨⟨_, rfl, ⟨⟨_, rfl, Le.refl _⟩, ⟨⟨_, rfl, Le.refl _⟩, ⟨⟨_, rfl, Le.refl _⟩, ⟨⟨_, rfl, Le.refl _⟩, ⟨⟨_, rfl, Le.refl _⟩, trivial⟩⟩⟩⟩⟩⟩, [0, 1, 2, 5], by decide, ⟨⟨_, rfl, LeAll.refl _⟩, ⟨⟨_, rfl, LeAll.refl _⟩, ⟨⟨_, rfl, LeAll.refl _⟩, ⟨⟨_, rfl, LeR.refl _⟩, trivial⟩⟩⟩⟩⟩) ?_
            refine SW.region ?_
            refine SWl.ef (S := []) (Ef.alloc (zs := [.int .i64 0]) (by kernel_rfl) rfl) ?_
            rintro _ ⟨g12, rfl⟩
            refine SWl.ef (S := [_]) (Ef.storeV 4 rfl rfl rfl (by kernel_rfl) rfl (List.mem_singleton.2 rfl)) ?_
            rintro _ rfl
            refine SWl.nil ?_
            refine SN.then ?_
            refine SW.region ?_
            refine SWl.rd rfl (Rd.loadB 4 rfl rfl rfl (by kernel_rfl) ap_nil) ?_
            refine SWl.rd rfl (Rd.add rfl rfl ⟨by decide, by decide⟩) ?_
            refine SWl.ef (S := [_]) (Ef.storeV 4 rfl rfl rfl (by kernel_rfl) rfl (List.mem_singleton.2 rfl)) ?_
            rintro _ rfl
            refine SWl.nil ?_
            refine SN.round ?_
            refine SW.seq ?_
            refine SW.seq ?_
            refine SW.sub (σ' := St.ob [(5, isD (.pointer (some ⟨g5, 0, none⟩))), (6, isD (.pointer (some ⟨g6, 0, none⟩))), (8, isD (.pointer (some ⟨g8, 0, none⟩))), (10, fnD 37 [paD [lsD encA R]]), (12, isD (.pointer (some ⟨g12, 0, none⟩)))] [.c g5 [iD many], .c g6 [boolD false], .c g8 [lsD encA R], .c g12 [iD 1], .r [dk0] dfR]) (⟨⟨_, rfl, ⟨⟨_, rfl, Le.refl _⟩, ⟨⟨_, rfl, Le.refl _⟩, ⟨⟨_, rfl, Le.refl _⟩, ⟨⟨_, rfl, Le.refl _⟩, ⟨⟨_, rfl, Le.refl _⟩, trivial⟩⟩⟩⟩⟩⟩, [0, 1, 2, 4, 3], by decide, ⟨⟨_, rfl, LeAll.refl _⟩, ⟨⟨_, rfl, LeAll.refl _⟩, ⟨⟨_, rfl, LeAll.refl _⟩, ⟨⟨_, rfl, LeAll.refl _⟩, ⟨⟨_, rfl, LeR.refl _⟩, trivial⟩⟩⟩⟩⟩⟩) ?_
            refine SW.region ?_
            refine SWl.rd rfl (Rd.loadB 3 rfl rfl rfl (by kernel_rfl) ap_nil) ?_
            refine SWl.rd rfl (Rd.lss rfl rfl) ?_
            refine SWl.nil ?_
            refine SN.then ?_
            refine SW.condT rfl (by decide) ?_
            refine SW.skip ?_
            refine SN.then ?_
            refine SW.seq ?_
            refine SW.block ?_
            refine SW.seq ?_
            refine SW.region ?_
            refine SWl.ef (S := []) (Ef.alloc (zs := [.int .i64 0]) (by kernel_rfl) rfl) ?_
            rintro _ ⟨g13, rfl⟩
            refine SWl.ef (S := [_]) (Ef.storeV 5 rfl rfl rfl (by kernel_rfl) rfl (List.mem_singleton.2 rfl)) ?_
            rintro _ rfl
            refine SWl.nil ?_
            refine SN.then ?_
            refine SW.seq ?_
            refine SW.seq ?_
            refine SW.sub (σ' := St.ob [(5, isD (.pointer (some ⟨g5, 0, none⟩))), (6, isD (.pointer (some ⟨g6, 0, none⟩))), (8, isD (.pointer (some ⟨g8, 0, none⟩))), (10, fnD 37 [paD [lsD encA R]]), (12, isD (.pointer (some ⟨g12, 0, none⟩))), (13, isD (.pointer (some ⟨g13, 0, none⟩)))] [.c g5 [iD many], .c g6 [boolD false], .c g8 [lsD encA R], .c g12 [iD 1], .c g13 [iD (0)], .r [dk0] dfR]) (⟨⟨_, rfl, ⟨⟨_, rfl, Le.refl _⟩, ⟨⟨_, rfl, Le.refl _⟩, ⟨⟨_, rfl, Le.refl _⟩, ⟨⟨_, rfl, Le.refl _⟩, ⟨⟨_, rfl, Le.refl _⟩, ⟨⟨_, rfl, Le.refl _⟩, trivial⟩⟩⟩⟩⟩⟩⟩, [0, 1, 2, 3, 5, 4], by decide, ⟨⟨_, rfl, LeAll.refl _⟩, ⟨⟨_, rfl, LeAll.refl _⟩, ⟨⟨_, rfl, LeAll.refl _⟩, ⟨⟨_, rfl, LeAll.refl _⟩, ⟨⟨_, rfl, LeAll.refl _⟩, ⟨⟨_, rfl, LeR.refl _⟩, trivial⟩⟩⟩⟩⟩⟩⟩) ?_
            refine SW.region ?_
            refine SWl.rd rfl (Rd.move rfl) ?_
            refine SWl.nil ?_
            refine SN.then ?_
            refine SW.block ?_
            refine SW.rangeF (gf := 37) (ps := [61, 62]) (ib := ibA) (dd := ddA) (items := (itemsA R)) (fun i bx => bx = [.c g5 [iD many], .c g6 [boolD false], .c g8 [lsD encA R], .c g12 [iD 1], .c g13 [iD ((i : Int))], .r [dk0] dfR]) (fun o i bx => match o with | none => False | some n => False) (fun i x k σ => ∃ g15, σ = St.ob [(5, isD (.pointer (some ⟨g5, 0, none⟩))), (6, isD (.pointer (some ⟨g6, 0, none⟩))), (8, isD (.pointer (some ⟨g8, 0, none⟩))), (12, isD (.pointer (some ⟨g12, 0, none⟩))), (13, isD (.pointer (some ⟨g13, 0, none⟩))), (14, iD (x.1 : Int)), (15, isD (.pointer (some ⟨g15, 0, none⟩)))] [.c g5 [iD many], .c g6 [boolD false], .c g8 [lsD encA R], .c g12 [iD 1], .c g13 [iD ((i : Int))], .r [dk0] dfR, .r k.F (vecT 5 1 encB k.A k.c x.2.key), .c g15 [strD x.2.name, iD x.2.role, isD (.slice k.A x.2.key.length k.c), iD x.2.dep, iD x.2.num]]) accounts_en (con_accounts_seq R (by omega) hkb) rfl (rfl) (by kernel_rfl) (fun _ _ => rfl) ?_ ?_ ?_ ?_ ?_
            · rintro i x k hx bx rfl y base w0
              refine SWr.seq ?_
              refine SWr.region (by kernel_rfl) (fun _ _ h => h) ?_
              refine SWl.rd rfl (Rd.assign rfl) ?_
              refine SWl.nil ?_
              refine SN.thenr ?_
              refine SWr.region (by kernel_rfl) (fun _ _ h => h) ?_
              refine SWl.ef (S := []) (Ef.alloc (zs := [.string ⟨#[]⟩, .int .i64 0, .slice none 0 0, .int .i64 0, .int .i64 0]) (by kernel_rfl) rfl) ?_
              rintro _ ⟨g15, rfl⟩
              refine SWl.ef (S := [_]) (Ef.storeA 7 rfl rfl rfl (by kernel_rfl) rfl (List.mem_singleton.2 rfl)) ?_
              rintro _ rfl
              refine SWl.nil ?_
              exact SN.rnd (σ' := St.ob [(5, isD (.pointer (some ⟨g5, 0, none⟩))), (6, isD (.pointer (some ⟨g6, 0, none⟩))), (8, isD (.pointer (some ⟨g8, 0, none⟩))), (12, isD (.pointer (some ⟨g12, 0, none⟩))), (13, isD (.pointer (some ⟨g13, 0, none⟩))), (14, iD (x.1 : Int)), (15, isD (.pointer (some ⟨g15, 0, none⟩)))] [.c g5 [iD many], .c g6 [boolD false], .c g8 [lsD encA R], .c g12 [iD 1], .c g13 [iD ((i : Int))], .r [dk0] dfR, .r k.F (vecT 5 1 encB k.A k.c x.2.key), .c g15 [strD x.2.name, iD x.2.role, isD (.slice k.A x.2.key.length k.c), iD x.2.dep, iD x.2.num]]) ⟨g15, rfl⟩ (⟨⟨_, rfl, ⟨⟨_, rfl, Le.refl _⟩, ⟨⟨_, rfl, Le.refl _⟩, ⟨⟨_, rfl, Le.refl _⟩, ⟨⟨_, rfl, Le.refl _⟩, ⟨⟨_, rfl, Le.refl _⟩, ⟨⟨_, rfl, Le.refl _⟩, ⟨⟨_, rfl, Le.refl _⟩, trivial⟩⟩⟩⟩⟩⟩⟩⟩, [0, 1, 2, 3, 4, 5, 6, 7], by decide, ⟨⟨_, rfl, LeAll.refl _⟩, ⟨⟨_, rfl, LeAll.refl _⟩, ⟨⟨_, rfl, LeAll.refl _⟩, ⟨⟨_, rfl, LeAll.refl _⟩, ⟨⟨_, rfl, LeAll.refl _⟩, ⟨⟨_, rfl, LeR.refl _⟩, ⟨⟨_, rfl, LeR.refl _⟩, ⟨⟨_, rfl, LeAll.refl _⟩, trivial⟩⟩⟩⟩⟩⟩⟩⟩⟩)
            · rintro i x k hx _ ⟨g15, rfl⟩ y base w0
              obtain ⟨hx1, hx2⟩ := itemsA_inv (j := x.1) (e := x.2) hx
              have hlt := (List.getElem?_eq_some_iff.1 hx2).1
              refine SWr.block ?_
              refine SWr.seq ?_
              refine SWr.seq ?_
              refine SWr.draw [] (.r 0 (.r 1 (.r 2 (.r 3 (.r 4 (.r 5 (.r 6 (.r 7 (.r 8 (.r 9 (.r 10 (.r 11 (.r 12 (.r 13 (.r 14 (.r 15 (.r 16 (.n 17 (.r 18 (.r 19 .fin)) .no)))))))))))))))))) (by kernel_rfl) (fun _ _ h => h) (by kernel_rfl) (by kernel_rfl) (fun d _ _ _ _ h => by cases d <;> exact h) ?_
              refine SWz.rd (i := 0) rfl rfl (Rd.move rfl) ?_
              refine SWz.rd (i := 1) rfl rfl (Rd.loadB 4 rfl rfl rfl (by kernel_rfl) ap_nil) ?_
              refine SWz.rd (i := 2) rfl rfl (Rd.nei rfl rfl) ?_
              refine SWz.rd (i := 3) rfl rfl (Rd.move rfl) ?_
              refine SWz.rdg (i := 4) rfl rfl rfl (by simp [hx1]) rfl rfl (Rd.loadB 4 rfl rfl rfl (by kernel_rfl) ap_nil) ?_
              refine SWz.rdg (i := 5) rfl rfl rfl (by simp [hx1]) rfl rfl (Rd.fieldAddr (n := 0) rfl (by kernel_rfl)) ?_
              refine SWz.rdg (i := 6) rfl rfl rfl (by simp [hx1]) rfl rfl (Rd.loadB 2 rfl rfl rfl (by kernel_rfl) ap_nil) ?_
              refine SWz.rdg (i := 7) rfl rfl rfl (by simp [hx1]) rfl rfl (Rd.lenR (e := 34) rfl (by kernel_rfl)) ?_
              refine SWz.rdg (i := 8) rfl rfl rfl (by simp [hx1]) rfl rfl (Rd.geq rfl rfl) ?_
              refine SWz.rd (i := 9) rfl rfl (Rd.pickN rfl (by simp [hx1]) rfl) ?_
              refine SWz.rd (i := 10) rfl rfl (Rd.move rfl) ?_
              refine SWz.rdg (i := 11) rfl rfl rfl (by simp; omega) rfl rfl (Rd.loadA 7 5 rfl rfl (by kernel_rfl) rfl ap_nil) ?_
              refine SWz.rdg (i := 12) rfl rfl rfl (by simp; omega) rfl rfl (Rd.fieldAddr (n := 0) rfl (by kernel_rfl)) ?_
              refine SWz.rdg (i := 13) rfl rfl rfl (by simp; omega) rfl rfl (Rd.loadB 2 rfl rfl rfl (by kernel_rfl) ap_nil) ?_
              refine SWz.rdg (i := 14) rfl rfl rfl (by simp; omega) rfl rfl (Rd.loadB 4 rfl rfl rfl (by kernel_rfl) ap_nil) ?_
              refine SWz.rdg (i := 15) rfl rfl rfl (by simp; omega) rfl rfl (Rd.idxL (e := 34) 5 rfl rfl (by kernel_rfl) (by kernel_rfl) (by omega) (by simpa using hx2)) ?_
              refine SWz.rdg (i := 16) rfl rfl rfl (by simp; omega) rfl rfl (Rd.loadRA 5 rfl (by kernel_rfl) (by decide) (show 5 ≤ 5 by decide) (by simp)) ?_
              refine SWz.efng (i := 17) rfl rfl rfl (by simp; omega) rfl (Ef.callN [6] (con_SameR x.2 x.2) rfl ⟨(sees_agg ⟨(sees_le (Le.refl _)), (sees_le (Le.refl _)), (sees_vecB 6 rfl (by decide)), (sees_le (Le.refl _)), (sees_le (Le.refl _)), trivial⟩), (sees_agg ⟨(sees_le (Le.refl _)), (sees_le (Le.refl _)), (sees_le (Le.refl _)), (sees_le (Le.refl _)), (sees_le (Le.refl _)), trivial⟩), trivial⟩ rfl) ?_ SWz.no
              rintro _ rfl
              refine SWz.rdg (i := 18) rfl rfl rfl (by simp; omega) rfl rfl (Rd.not rfl) ?_
              refine SWz.rd (i := 19) rfl rfl (Rd.pickN rfl (by simp; omega) rfl) ?_
              refine SWz.nil ?_
              refine SN.thenr ?_
              refine SWr.condF rfl (by rw [decide_eq_true (Acc.eqv_refl _)]; rfl) ?_
              refine SWr.skip ?_
              refine SN.thenr ?_
              refine SWr.seq ?_
              refine SWr.region (by kernel_rfl) (fun _ _ h => h) ?_
              refine SWl.rd rfl (Rd.loadB 4 rfl rfl rfl (by kernel_rfl) ap_nil) ?_
              refine SWl.rd rfl (Rd.add rfl rfl ⟨by omega, by omega⟩) ?_
              refine SWl.ef (S := [_]) (Ef.storeV 4 rfl rfl rfl (by kernel_rfl) rfl (List.mem_singleton.2 rfl)) ?_
              rintro _ rfl
              refine SWl.nil ?_
              refine SN.thenr ?_
              refine SWr.seq ?_
              refine SWr.region (by kernel_rfl) (fun _ _ h => h) ?_
              refine SWl.rd rfl (Rd.loadB 3 rfl rfl rfl (by kernel_rfl) ap_nil) ?_
              refine SWl.rd rfl (Rd.eqi rfl rfl) ?_
              refine SWl.rd rfl (Rd.move rfl) ?_
              refine SWl.off rfl rfl (by decide) rfl rfl ?_
              refine SWl.off rfl rfl (by decide) rfl rfl ?_
              refine SWl.off rfl rfl (by decide) rfl rfl ?_
              refine SWl.rd rfl (Rd.pickN rfl (by decide) rfl) ?_
              refine SWl.nil ?_
              refine SN.thenr ?_
              refine SWr.condF rfl (rfl) ?_
              refine SWr.skip ?_
              refine SN.block ?_
              exact SN.rnd (σ' := St.ob [] [.c g5 [iD many], .c g6 [boolD false], .c g8 [lsD encA R], .c g12 [iD 1], .c g13 [iD (((i + 1 : Nat) : Int))], .r [dk0] dfR]) rfl (⟨⟨_, rfl, trivial⟩, [0, 1, 2, 3, 4, 5], by decide, ⟨⟨_, rfl, LeAll.refl _⟩, ⟨⟨_, rfl, LeAll.refl _⟩, ⟨⟨_, rfl, LeAll.refl _⟩, ⟨⟨_, rfl, LeAll.refl _⟩, ⟨⟨_, rfl, ⟨Le.is (by simp), trivial⟩⟩, ⟨⟨_, rfl, LeR.refl _⟩, trivial⟩⟩⟩⟩⟩⟩⟩)
            · rintro dk2 bx rfl
              refine SN.block ?_
              refine SN.then ?_
              refine SW.seq ?_
              refine SW.region ?_
              refine SWl.rd rfl (Rd.loadB 3 rfl rfl rfl (by kernel_rfl) ap_nil) ?_
              refine SWl.rd rfl (Rd.eqi rfl rfl) ?_
              refine SWl.rd rfl (Rd.move rfl) ?_
              refine SWl.off rfl rfl (by decide) rfl rfl ?_
              refine SWl.off rfl rfl (by decide) rfl rfl ?_
              refine SWl.off rfl rfl (by decide) rfl rfl ?_
              refine SWl.off rfl rfl (by decide) rfl rfl ?_
              refine SWl.off rfl rfl (by decide) rfl rfl ?_
              refine SWl.off rfl rfl (by decide) rfl rfl ?_
              refine SWl.off rfl rfl (by decide) rfl rfl ?_
              refine SWl.off rfl rfl (by decide) rfl rfl ?_
              refine SWl.rd rfl (Rd.pickN rfl (by decide) rfl) ?_
              refine SWl.rd rfl (Rd.move rfl) ?_
              refine SWl.rdg rfl rfl (rfl) rfl rfl (Rd.loadB 3 rfl rfl rfl (by kernel_rfl) ap_nil) ?_
              refine SWl.rdg rfl rfl (rfl) rfl rfl (Rd.eqi rfl rfl) ?_
              refine SWl.rdg rfl rfl (rfl) rfl rfl (Rd.move rfl) ?_
              refine SWl.rdg rfl rfl (by decide) rfl rfl (Rd.loadB 4 rfl rfl rfl (by kernel_rfl) ap_nil) ?_
              refine SWl.rdg rfl rfl (by decide) rfl rfl (Rd.fieldAddr (n := 0) rfl (by kernel_rfl)) ?_
              refine SWl.rdg rfl rfl (by decide) rfl rfl (Rd.loadB 2 rfl rfl rfl (by kernel_rfl) ap_nil) ?_
              refine SWl.rdg rfl rfl (by decide) rfl rfl (Rd.lenR (e := 34) rfl (by kernel_rfl)) ?_
              refine SWl.rdg rfl rfl (by decide) rfl rfl (Rd.nei rfl rfl) ?_
              refine SWl.rdg rfl rfl (rfl) rfl rfl (Rd.pickY rfl (by decide) rfl) ?_
              refine SWl.rd rfl (Rd.pickN rfl (rfl) rfl) ?_
              refine SWl.nil ?_
              refine SN.then ?_
              refine SW.condF rfl (by simp [itemsA_len]) ?_
              refine SW.skip ?_
              refine SN.block ?_
              refine SN.then ?_
              refine SW.seq ?_
              refine SW.seq ?_
              refine SW.region ?_
              refine SWl.rd rfl (Rd.loadB 3 rfl rfl rfl (by kernel_rfl) ap_nil) ?_
              refine SWl.nil ?_
              refine SN.then ?_
              refine SW.sub (σ' := St.ob [(5, isD (.pointer (some ⟨g5, 0, none⟩))), (6, isD (.pointer (some ⟨g6, 0, none⟩))), (8, isD (.pointer (some ⟨g8, 0, none⟩))), (10, fnD 37 [paD [lsD encA R]]), (115, iD 1)] [.c g5 [iD many], .c g6 [boolD false], .c g8 [lsD encA R], .r [dk0] dfR, .r [dk2] dfR]) (⟨⟨_, rfl, ⟨⟨_, rfl, Le.refl _⟩, ⟨⟨_, rfl, Le.refl _⟩, ⟨⟨_, rfl, Le.refl _⟩, ⟨⟨_, rfl, Le.refl _⟩, ⟨⟨_, rfl, Le.refl _⟩, trivial⟩⟩⟩⟩⟩⟩, [0, 1, 2, 5, 6], by decide, ⟨⟨_, rfl, LeAll.refl _⟩, ⟨⟨_, rfl, LeAll.refl _⟩, ⟨⟨_, rfl, LeAll.refl _⟩, ⟨⟨_, rfl, LeR.refl _⟩, ⟨⟨_, rfl, LeR.refl _⟩, trivial⟩⟩⟩⟩⟩⟩) ?_
              refine SW.region ?_
              refine SWl.ef (S := []) (Ef.alloc (zs := [.int .i64 0]) (by kernel_rfl) rfl) ?_
              rintro _ ⟨g12, rfl⟩
              refine SWl.ef (S := [_]) (Ef.storeV 5 rfl rfl rfl (by kernel_rfl) rfl (List.mem_singleton.2 rfl)) ?_
              rintro _ rfl
              refine SWl.nil ?_
              refine SN.then ?_
              refine SW.region ?_
              refine SWl.rd rfl (Rd.loadB 5 rfl rfl rfl (by kernel_rfl) ap_nil) ?_
              refine SWl.rd rfl (Rd.add rfl rfl ⟨by decide, by decide⟩) ?_
              refine SWl.ef (S := [_]) (Ef.storeV 5 rfl rfl rfl (by kernel_rfl) rfl (List.mem_singleton.2 rfl)) ?_
              rintro _ rfl
              refine SWl.nil ?_
              refine SN.round ?_
              refine SW.seq ?_
              refine SW.seq ?_
              refine SW.sub (σ' := St.ob [(5, isD (.pointer (some ⟨g5, 0, none⟩))), (6, isD (.pointer (some ⟨g6, 0, none⟩))), (8, isD (.pointer (some ⟨g8, 0, none⟩))), (10, fnD 37 [paD [lsD encA R]]), (12, isD (.pointer (some ⟨g12, 0, none⟩)))] [.c g5 [iD many], .c g6 [boolD false], .c g8 [lsD encA R], .c g12 [iD 2], .r [dk0] dfR, .r [dk2] dfR]) (⟨⟨_, rfl, ⟨⟨_, rfl, Le.refl _⟩, ⟨⟨_, rfl, Le.refl _⟩, ⟨⟨_, rfl, Le.refl _⟩, ⟨⟨_, rfl, Le.refl _⟩, ⟨⟨_, rfl, Le.refl _⟩, trivial⟩⟩⟩⟩⟩⟩, [0, 1, 2, 5, 3, 4], by decide, ⟨⟨_, rfl, LeAll.refl _⟩, ⟨⟨_, rfl, LeAll.refl _⟩, ⟨⟨_, rfl, LeAll.refl _⟩, ⟨⟨_, rfl, LeAll.refl _⟩, ⟨⟨_, rfl, LeR.refl _⟩, ⟨⟨_, rfl, LeR.refl _⟩, trivial⟩⟩⟩⟩⟩⟩⟩) ?_
              refine SW.region ?_
              refine SWl.rd rfl (Rd.loadB 3 rfl rfl rfl (by kernel_rfl) ap_nil) ?_
              refine SWl.rd rfl (Rd.lss rfl rfl) ?_
              refine SWl.nil ?_
              refine SN.then ?_
              refine SW.condF rfl (by decide) ?_
              refine SW.exit' ?_
              repeat (first | refine SE.then ?_ | refine SE.skip (by decide) ?_)
              refine SE.here ?_
              refine SN.then ?_
              refine SW.seq ?_
              refine SW.sub (σ' := St.ob [(6, isD (.pointer (some ⟨g6, 0, none⟩)))] [.c g6 [boolD false], .r [dk0] dfR, .r [dk2] dfR]) (⟨⟨_, rfl, ⟨⟨_, rfl, Le.refl _⟩, trivial⟩⟩, [1, 4, 5], by decide, ⟨⟨_, rfl, LeAll.refl _⟩, ⟨⟨_, rfl, LeR.refl _⟩, ⟨⟨_, rfl, LeR.refl _⟩, trivial⟩⟩⟩⟩) ?_
              refine SW.region ?_
              refine SWl.ef (S := []) (Ef.callN [] (con_known41) rfl trivial rfl) ?_
              rintro _ rfl
              refine SWl.ef (S := [_]) (Ef.storeV 0 rfl rfl rfl (by kernel_rfl) rfl (List.mem_singleton.2 rfl)) ?_
              rintro _ rfl
              refine SWl.nil ?_
              refine SN.then ?_
              refine SW.retM (fn := Try.f5) (fun _ _ h => h) ?_
              refine RM.mark 2 rfl ?_
              refine RM.mark 1 rfl ?_
              refine RM.fin ?_
              refine Rs.le (Rs.one rfl (ResV.cellV 0 rfl rfl (by kernel_rfl) rfl)) ?_
              exact le_bool_n (by rfl)
            · rintro _ _ _ _ hX; exact hX.elim
            · rintro _ _ _ hX; exact hX.elim
          · rintro _ _ _ hX; exact hX.elim
end Sx
end Go.Proofs.Ytgcnpnbgjejkaaa
