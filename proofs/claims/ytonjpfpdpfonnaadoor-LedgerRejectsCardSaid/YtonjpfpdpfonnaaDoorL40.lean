/-
  LEDGERS: what the law changes in place, the walk.
-/
import Derived.Test.YtonjpfpdpfonnaaDoorL39
namespace Go.Proofs.YtonjpfpdpfonnaaDoor
open Go.RowKit
namespace Sx
theorem uidx {z : Int} {n : Nat} : (IntKind.wrap .u64 z).tmod (n : Int) = (((IntKind.wrap .u64 z).toNat % n : Nat) : Int) := by
  rw [IntKind.wrap_u64]
  have h : 0 ≤ z % 18446744073709551616 := Int.emod_nonneg _ (by decide)
  obtain ⟨m, hm⟩ := Int.eq_ofNat_of_zero_le h
  rw [hm]
  rfl
theorem u64_small {n : Nat} (h : n ≤ 1000000) : IntKind.wrap .u64 (n : Int) = (n : Int) := by rw [IntKind.wrap_u64]; omega
theorem i64_small {n : Nat} (h : n ≤ 1000000) : IntKind.wrap .i64 (n : Int) = (n : Int) := by rw [IntKind.wrap_i64]; omega
theorem blsXk (b : List UInt8) : Bls Tryd.prog 32 1 [0] [bD b] ([El.k b].flatMap encX) := blsL b
theorem blsXx (A : Option Addr) (n c : Nat) : Bls Tryd.prog 32 1 [0] [isD (.slice A n c)] ([El.x A n c].flatMap encX) := ⟨28, fun L w vs hv => by
  obtain ⟨u, rfl, hu⟩ := all1 hv
  obtain rfl : u = .slice A n c := hu
  exact ⟨[.slice A n c], ⟨rfl, trivial⟩, fun w' => by kernel_rfl⟩⟩
set_option maxHeartbeats 4000000 in
set_option maxRecDepth 100000 in
theorem con_changed_e (p : List (List UInt8)) (z : Int) (hp : p.length = 0) : ConR Tryd.prog 30 [] [aggD [lsD encL p], aggD [iD 3, iD z]] (fun t : {q : List (List UInt8) // q.length ≤ p.length + 1} => []) (fun t : {q : List (List UInt8) // q.length ≤ p.length + 1} => aggD [lsD encL t.1]) := by
  refine con_ofR Tryd.func30 (by kernel_rfl) rfl (by kernel_rfl) fun base w0 => ?_
  refine SW.seq ?_
  refine SW.region ?_
  refine SWl.ef (S := []) (Ef.boxA rfl rfl) ?_
  rintro _ ⟨g2, rfl⟩
  refine SWl.ef (S := []) (Ef.boxA rfl rfl) ?_
  rintro _ ⟨g3, rfl⟩
  refine SWl.ef (S := []) (Ef.alloc (zs := [.slice none 0 0]) (by kernel_rfl) rfl) ?_
  rintro _ ⟨g4, rfl⟩
  refine SWl.nil ?_
  refine SN.then ?_
  refine SW.seq ?_
  refine SW.region ?_
  refine SWl.ef (S := []) (Ef.alloc (zs := [.slice none 0 0]) (by kernel_rfl) rfl) ?_
  rintro _ ⟨g5, rfl⟩
  refine SWl.nil ?_
  refine SN.then ?_
  refine SW.seq ?_
  refine SW.seq ?_
  refine SW.vecN 28 1 encL ?_
  refine SW.region ?_
  refine SWl.rd rfl (Rd.assign rfl) ?_
  refine SWl.nil ?_
  refine SN.then ?_
  refine SW.block ?_
  refine SW.loop (ι := Vst) (fun v => St.ob [(2, isD (.pointer (some ⟨g2, 0, none⟩))), (3, isD (.pointer (some ⟨g3, 0, none⟩))), (4, isD (.pointer (some ⟨g4, 0, none⟩))), (5, isD (.pointer (some ⟨g5, 0, none⟩))), (6, iD 0)] [.c g2 [lsD encL p], .c g3 [iD 3, iD z], .c g4 [isD (.slice none 0 0)], .c g5 [isD (.slice v.A (p).length v.c)], .r v.F (vecT 28 1 encL v.A v.c (p))]) (fun v => v.c) (⟨none, 0, []⟩) ?_ ?_
  · exact ⟨⟨_, rfl, ⟨⟨_, rfl, Le.refl _⟩, ⟨⟨_, rfl, Le.refl _⟩, ⟨⟨_, rfl, Le.refl _⟩, ⟨⟨_, rfl, Le.refl _⟩, ⟨⟨_, rfl, Le.refl _⟩, trivial⟩⟩⟩⟩⟩⟩, [0, 1, 2, 3, 4], by decide, ⟨⟨_, rfl, LeAll.refl _⟩, ⟨⟨_, rfl, LeAll.refl _⟩, ⟨⟨_, rfl, LeAll.refl _⟩, ⟨⟨_, rfl, ⟨Le.is (by rw [List.eq_nil_of_length_eq_zero hp]; rfl), trivial⟩⟩, ⟨⟨_, rfl, leVec (by rw [List.eq_nil_of_length_eq_zero hp]) (by rw [List.eq_nil_of_length_eq_zero hp])⟩, trivial⟩⟩⟩⟩⟩⟩
  · rintro v K0 hK0
    refine SW.seq ?_
    refine SW.seq ?_
    refine SW.region ?_
    refine SWl.rd rfl (Rd.move rfl) ?_
    refine SWl.rd rfl (Rd.fieldAddr (n := 0) rfl (by kernel_rfl)) ?_
    refine SWl.rd rfl (Rd.loadB 0 rfl rfl rfl (by kernel_rfl) ap_nil) ?_
    refine SWl.rd rfl (Rd.lenR (e := 28) rfl (by kernel_rfl)) ?_
    refine SWl.rd rfl (Rd.lss rfl rfl) ?_
    refine SWl.nil ?_
    refine SN.then ?_
    refine SW.cond rfl (fun hb13 => ?_) (fun hb13 => ?_)
    · exact absurd (of_decide_eq_true hb13) (by omega)
    · skip
      refine SW.exit' ?_
      repeat (first | refine SE.then ?_ | refine SE.skip (by decide) ?_)
      refine SE.here ?_
      refine SN.then ?_
      refine SW.seq ?_
      refine SW.sub (σ' := St.ob [(3, isD (.pointer (some ⟨g3, 0, none⟩))), (4, isD (.pointer (some ⟨g4, 0, none⟩))), (5, isD (.pointer (some ⟨g5, 0, none⟩)))] [.c g3 [iD 3, iD z], .c g4 [isD (.slice none 0 0)], .c g5 [isD (.slice v.A (p).length v.c)], .r v.F (vecT 28 1 encL v.A v.c (p))]) (⟨⟨_, rfl, ⟨⟨_, rfl, Le.refl _⟩, ⟨⟨_, rfl, Le.refl _⟩, ⟨⟨_, rfl, Le.refl _⟩, trivial⟩⟩⟩⟩, [1, 2, 3, 4], by decide, ⟨⟨_, rfl, LeAll.refl _⟩, ⟨⟨_, rfl, LeAll.refl _⟩, ⟨⟨_, rfl, LeAll.refl _⟩, ⟨⟨_, rfl, LeR.refl _⟩, trivial⟩⟩⟩⟩⟩) ?_
      refine SW.region ?_
      refine SWl.rd rfl (Rd.fieldAddr (n := 0) rfl (by kernel_rfl)) ?_
      refine SWl.rd rfl (Rd.loadB 2 rfl rfl rfl (by kernel_rfl) ap_nil) ?_
      refine SWl.rd rfl (Rd.mono (Rd.lenE (e := 28) rfl (by kernel_rfl)) (show Le _ (iD (0 : Int)) from Le.is (by rw [hp]; rfl))) ?_
      refine SWl.rd rfl (Rd.assign rfl) ?_
      refine SWl.nil ?_
      refine SN.then ?_
      refine SW.seq ?_
      refine SW.seq ?_
      refine SW.region ?_
      refine SWl.rd rfl (Rd.fieldAddr (n := 0) rfl (by kernel_rfl)) ?_
      refine SWl.rd rfl (Rd.loadB 0 rfl rfl rfl (by kernel_rfl) ap_nil) ?_
      refine SWl.nil ?_
      refine SN.then ?_
      refine SW.block ?_
      refine SW.seq ?_
      refine SW.region ?_
      refine SWl.rd rfl (Rd.eqi rfl rfl) ?_
      refine SWl.rd rfl (Rd.assign rfl) ?_
      refine SWl.nil ?_
      refine SN.then ?_
      refine SW.condF rfl (by decide) ?_
      refine SW.seq ?_
      refine SW.region ?_
      refine SWl.rd rfl (Rd.eqi rfl rfl) ?_
      refine SWl.rd rfl (Rd.assign rfl) ?_
      refine SWl.nil ?_
      refine SN.then ?_
      refine SW.condF rfl (by decide) ?_
      refine SW.seq ?_
      refine SW.region ?_
      refine SWl.rd rfl (Rd.eqi rfl rfl) ?_
      refine SWl.rd rfl (Rd.assign rfl) ?_
      refine SWl.nil ?_
      refine SN.then ?_
      refine SW.condT rfl (by decide) ?_
      refine SW.seq ?_
      refine SW.region ?_
      refine SWl.rd rfl (Rd.move rfl) ?_
      refine SWl.rd rfl (Rd.gtr rfl rfl) ?_
      refine SWl.rd rfl (Rd.move rfl) ?_
      refine SWl.off rfl rfl (by decide) rfl rfl ?_
      refine SWl.off rfl rfl (by decide) rfl rfl ?_
      refine SWl.off rfl rfl (by decide) rfl rfl ?_
      refine SWl.off rfl rfl (by decide) rfl rfl ?_
      refine SWl.off rfl rfl (by decide) rfl rfl ?_
      refine SWl.off rfl rfl (by decide) rfl rfl ?_
      refine SWl.rd rfl (Rd.pickN rfl (by decide) rfl) ?_
      refine SWl.nil ?_
      refine SN.then ?_
      refine SW.condF rfl (rfl) ?_
      refine SW.skip ?_
      refine SN.block ?_
      refine SN.then ?_
      refine SW.seq ?_
      refine SW.region ?_
      refine SWl.rd rfl (Rd.loadA 2 1 rfl rfl (by kernel_rfl) rfl ap_nil) ?_
      refine SWl.ef (S := [_]) (Ef.storeA 1 rfl rfl rfl (by kernel_rfl) rfl (List.mem_singleton.2 rfl)) ?_
      rintro _ rfl
      refine SWl.nil ?_
      refine SN.then ?_
      refine SW.freezeC 1 0 3 rfl rfl rfl ?_
      refine SW.retR (fn := Tryd.f30) (⟨p, by omega⟩) [] (fun _ _ h => h) (Rs.le (Rs.one rfl (ResV.cellA 1 rfl rfl (by kernel_rfl))) ?_) (by decide) trivial
      exact Le.refl _
set_option maxHeartbeats 4000000 in
set_option maxRecDepth 100000 in
theorem con_changed_b (p : List (List UInt8)) (z : Int) (hp : p.length ≤ 100000) (hbs : ∀ b ∈ p, b.length ≤ 100000) (hp0 : 0 < p.length) (t : Nat) (ht : t = (IntKind.wrap .u64 z).toNat % p.length) : ConR Tryd.prog 30 [] [aggD [lsD encL p], aggD [iD 3, iD z]] (fun t : {q : List (List UInt8) // q.length ≤ p.length + 1} => []) (fun t : {q : List (List UInt8) // q.length ≤ p.length + 1} => aggD [lsD encL t.1]) := by
  have htl : t < p.length := by rw [ht]; exact Nat.mod_lt _ hp0
  refine con_ofR Tryd.func30 (by kernel_rfl) rfl (by kernel_rfl) fun base w0 => ?_
  refine SW.seq ?_
  refine SW.region ?_
  refine SWl.ef (S := []) (Ef.boxA rfl rfl) ?_
  rintro _ ⟨g2, rfl⟩
  refine SWl.ef (S := []) (Ef.boxA rfl rfl) ?_
  rintro _ ⟨g3, rfl⟩
  refine SWl.ef (S := []) (Ef.alloc (zs := [.slice none 0 0]) (by kernel_rfl) rfl) ?_
  rintro _ ⟨g4, rfl⟩
  refine SWl.nil ?_
  refine SN.then ?_
  refine SW.seq ?_
  refine SW.region ?_
  refine SWl.ef (S := []) (Ef.alloc (zs := [.slice none 0 0]) (by kernel_rfl) rfl) ?_
  rintro _ ⟨g5, rfl⟩
  refine SWl.nil ?_
  refine SN.then ?_
  refine SW.seq ?_
  refine SW.seq ?_
  refine SW.vecN 28 1 encX ?_
  refine SW.vecN 5 1 encB ?_
  refine SW.region ?_
  refine SWl.rd rfl (Rd.assign rfl) ?_
  refine SWl.nil ?_
  refine SN.then ?_
  refine SW.block ?_
  refine SW.loop (ι := {s : Nat × Vst × Vst × List UInt8 // s.1 ≤ p.length ∧ (t < s.1 → p[t]? = some s.2.2.2)}) (fun s => St.ob [(2, isD (.pointer (some ⟨g2, 0, none⟩))), (3, isD (.pointer (some ⟨g3, 0, none⟩))), (4, isD (.pointer (some ⟨g4, 0, none⟩))), (5, isD (.pointer (some ⟨g5, 0, none⟩))), (6, iD (s.1.1 : Int))] [.c g2 [lsD encL p], .c g3 [iD 3, iD z], .c g4 [isD (.slice none 0 0)], .c g5 [isD (.slice s.1.2.1.A (els p t s.1.1 s.1.2.2.1.A (s.1.2.2.2).length s.1.2.2.1.c).length s.1.2.1.c)], .r s.1.2.1.F (vecT 28 1 encX s.1.2.1.A s.1.2.1.c (els p t s.1.1 s.1.2.2.1.A (s.1.2.2.2).length s.1.2.2.1.c)), .r s.1.2.2.1.F (vecT 5 1 encB s.1.2.2.1.A s.1.2.2.1.c (s.1.2.2.2))]) (fun s => p.length - s.1.1) (⟨(0, ⟨none, 0, []⟩, ⟨none, 0, []⟩, []), Nat.zero_le _, fun h => absurd h (Nat.not_lt_zero _)⟩) ?_ ?_
  · exact ⟨⟨_, rfl, ⟨⟨_, rfl, Le.refl _⟩, ⟨⟨_, rfl, Le.refl _⟩, ⟨⟨_, rfl, Le.refl _⟩, ⟨⟨_, rfl, Le.refl _⟩, ⟨⟨_, rfl, Le.refl _⟩, trivial⟩⟩⟩⟩⟩⟩, [0, 1, 2, 3, 4, 5], by decide, ⟨⟨_, rfl, LeAll.refl _⟩, ⟨⟨_, rfl, LeAll.refl _⟩, ⟨⟨_, rfl, LeAll.refl _⟩, ⟨⟨_, rfl, ⟨Le.is (by simp [els]), trivial⟩⟩, ⟨⟨_, rfl, leVec (by simp [els]) (by simp [els])⟩, ⟨⟨_, rfl, LeR.refl _⟩, trivial⟩⟩⟩⟩⟩⟩⟩
  · rintro ⟨⟨i, v, tb, bs⟩, hi⟩ K0 hK0
    dsimp only at hi ⊢
    refine SW.seq ?_
    refine SW.seq ?_
    refine SW.region ?_
    refine SWl.rd rfl (Rd.move rfl) ?_
    refine SWl.rd rfl (Rd.fieldAddr (n := 0) rfl (by kernel_rfl)) ?_
    refine SWl.rd rfl (Rd.loadB 0 rfl rfl rfl (by kernel_rfl) ap_nil) ?_
    refine SWl.rd rfl (Rd.lenR (e := 28) rfl (by kernel_rfl)) ?_
    refine SWl.rd rfl (Rd.lss rfl rfl) ?_
    refine SWl.nil ?_
    refine SN.then ?_
    refine SW.cond rfl (fun hb13 => ?_) (fun hb13 => ?_)
    · have hb13 := of_decide_eq_true hb13
      refine SW.skip ?_
      refine SN.then ?_
      refine SW.seq ?_
      refine SW.block ?_
      by_cases hit : i = t
      · skip
        obtain ⟨x, hx⟩ : ∃ x, p[i]? = some x := ⟨_, List.getElem?_eq_getElem (by omega)⟩
        refine SW.vecN 5 1 encB ?_
        refine SW.draw (v.F ++ (g5 :: [])) (.r 0 (.q 1 (.r 2 (.r 3 (.r 4 (.r 5 (.r 6 (.n 7 (.n 8 (.e 9 (.r 10 (.e 11 .fin .no)) .no) .no) .no)))))))) (by kernel_rfl) (by kernel_rfl) (fun d _ _ _ _ h => by cases d <;> exact h) ?_
        refine SWz.rd (i := 0) rfl rfl (Rd.fieldAddr (n := 0) rfl (by kernel_rfl)) ?_
        refine SWz.rq (i := 1) rfl rfl (Rd.loadB 3 rfl rfl rfl (by kernel_rfl) ap_nil) ?_
        refine SWz.rd (i := 2) rfl rfl (Rd.fieldAddr (n := 0) rfl (by kernel_rfl)) ?_
        refine SWz.rd (i := 3) rfl rfl (Rd.loadB 0 rfl rfl rfl (by kernel_rfl) (ap_app 4 rfl (by decide) (ap_cons 3 rfl (by decide) ap_nil))) ?_
        refine SWz.rd (i := 4) rfl rfl (Rd.move rfl) ?_
        refine SWz.rd (i := 5) rfl rfl (Rd.idxL (e := 28) 1 rfl rfl (by kernel_rfl) (by kernel_rfl) (by omega) (by simpa using hx)) ?_
        refine SWz.rd (i := 6) rfl rfl (Rd.loadR rfl rfl (by kernel_rfl) (ins_app (j := 4) rfl (ins_cons (j := 3) rfl ins_nil))) ?_
        refine SWz.efn (i := 7) rfl (Ef.appT 6 1 1 rfl rfl (SrcT.b rfl) (by kernel_rfl) (by kernel_rfl) (by have := hbs x (List.mem_of_getElem? hx); simp; omega) (by decide) (by simp) rfl) ?_ SWz.no
        rintro _ ⟨A23, F23, c23, rfl⟩
        refine SWz.efn (i := 8) rfl (Ef.litR rfl rfl (blsXx A23 x.length c23) rfl) ?_ SWz.no
        rintro _ rfl
        refine SWz.efe (i := 9) rfl (Ef.appT 4 1 24 rfl rfl (SrcT.ls (l := [El.x A23 x.length c23]) rfl) (by kernel_rfl) (by kernel_rfl) (by rw [els_len hi.1]; simp; omega) (by decide) (fun _ h => List.mem_append_left _ h) rfl) ?_ SWz.no
        rintro _ ⟨A25, F25, c25, rfl⟩
        refine SWz.rd (i := 10) rfl rfl (Rd.fieldAddr (n := 0) rfl (by kernel_rfl)) ?_
        refine SWz.efe (i := 11) rfl (Ef.storeV 3 rfl rfl rfl (by kernel_rfl) rfl (List.mem_append_right _ (List.mem_cons_self))) ?_ SWz.no
        rintro _ rfl
        refine SWz.nil ?_
        refine SN.block ?_
        refine SN.then ?_
        refine SW.region ?_
        refine SWl.rd rfl (Rd.move rfl) ?_
        refine SWl.rd rfl (Rd.add rfl rfl ⟨by omega, by omega⟩) ?_
        refine SWl.rd rfl (Rd.assign rfl) ?_
        refine SWl.nil ?_
        exact fun a w hh => hK0 (⟨(i + 1, ⟨A25, c25, F25⟩, ⟨A23, c23, F23⟩, x), by dsimp only; omega, fun _ => by dsimp only; rw [← hit]; exact hx⟩) (by dsimp only; omega) a w (hh.sub (⟨⟨_, rfl, ⟨⟨_, rfl, Le.refl _⟩, ⟨⟨_, rfl, Le.refl _⟩, ⟨⟨_, rfl, Le.refl _⟩, ⟨⟨_, rfl, Le.refl _⟩, ⟨⟨_, rfl, Le.refl _⟩, trivial⟩⟩⟩⟩⟩⟩, [0, 1, 2, 3, 6, 5], by decide, ⟨⟨_, rfl, LeAll.refl _⟩, ⟨⟨_, rfl, LeAll.refl _⟩, ⟨⟨_, rfl, LeAll.refl _⟩, ⟨⟨_, rfl, ⟨Le.is (by dsimp only; rw [hit, els_eq (A' := tb.A) (n' := bs.length) (c' := tb.c) (hit ▸ hx)]), trivial⟩⟩, ⟨⟨_, rfl, leVec (by dsimp only; rw [hit, els_eq (A' := tb.A) (n' := bs.length) (c' := tb.c) (hit ▸ hx)]) (by dsimp only; rw [hit, els_eq (A' := tb.A) (n' := bs.length) (c' := tb.c) (hit ▸ hx)])⟩, ⟨⟨_, rfl, LeR.refl _⟩, trivial⟩⟩⟩⟩⟩⟩⟩))
      · skip
        obtain ⟨x, hx⟩ : ∃ x, p[i]? = some x := ⟨_, List.getElem?_eq_getElem (by omega)⟩
        refine SW.vecN 5 1 encB ?_
        refine SW.draw (v.F ++ (g5 :: [])) (.r 0 (.q 1 (.r 2 (.r 3 (.r 4 (.r 5 (.r 6 (.n 7 (.n 8 (.e 9 (.r 10 (.e 11 .fin .no)) .no) .no) .no)))))))) (by kernel_rfl) (by kernel_rfl) (fun d _ _ _ _ h => by cases d <;> exact h) ?_
        refine SWz.rd (i := 0) rfl rfl (Rd.fieldAddr (n := 0) rfl (by kernel_rfl)) ?_
        refine SWz.rq (i := 1) rfl rfl (Rd.loadB 3 rfl rfl rfl (by kernel_rfl) ap_nil) ?_
        refine SWz.rd (i := 2) rfl rfl (Rd.fieldAddr (n := 0) rfl (by kernel_rfl)) ?_
        refine SWz.rd (i := 3) rfl rfl (Rd.loadB 0 rfl rfl rfl (by kernel_rfl) (ap_app 4 rfl (by decide) (ap_cons 3 rfl (by decide) ap_nil))) ?_
        refine SWz.rd (i := 4) rfl rfl (Rd.move rfl) ?_
        refine SWz.rd (i := 5) rfl rfl (Rd.idxL (e := 28) 1 rfl rfl (by kernel_rfl) (by kernel_rfl) (by omega) (by simpa using hx)) ?_
        refine SWz.rd (i := 6) rfl rfl (Rd.loadR rfl rfl (by kernel_rfl) (ins_app (j := 4) rfl (ins_cons (j := 3) rfl ins_nil))) ?_
        refine SWz.efn (i := 7) rfl (Ef.appT 6 1 1 rfl rfl (SrcT.b rfl) (by kernel_rfl) (by kernel_rfl) (by have := hbs x (List.mem_of_getElem? hx); simp; omega) (by decide) (by simp) rfl) ?_ SWz.no
        rintro _ ⟨A23, F23, c23, rfl⟩
        refine SWz.freezeT 6 23 rfl rfl (le_ls_b _) ?_
        refine SWz.efn (i := 8) rfl (Ef.litR rfl rfl (blsXk x) rfl) ?_ SWz.no
        rintro _ rfl
        refine SWz.efe (i := 9) rfl (Ef.appT 4 1 24 rfl rfl (SrcT.ls (l := [El.k x]) rfl) (by kernel_rfl) (by kernel_rfl) (by rw [els_len hi.1]; simp; omega) (by decide) (fun _ h => List.mem_append_left _ h) rfl) ?_ SWz.no
        rintro _ ⟨A25, F25, c25, rfl⟩
        refine SWz.rd (i := 10) rfl rfl (Rd.fieldAddr (n := 0) rfl (by kernel_rfl)) ?_
        refine SWz.efe (i := 11) rfl (Ef.storeV 3 rfl rfl rfl (by kernel_rfl) rfl (List.mem_append_right _ (List.mem_cons_self))) ?_ SWz.no
        rintro _ rfl
        refine SWz.nil ?_
        refine SN.block ?_
        refine SN.then ?_
        refine SW.region ?_
        refine SWl.rd rfl (Rd.move rfl) ?_
        refine SWl.rd rfl (Rd.add rfl rfl ⟨by omega, by omega⟩) ?_
        refine SWl.rd rfl (Rd.assign rfl) ?_
        refine SWl.nil ?_
        exact fun a w hh => hK0 (⟨(i + 1, ⟨A25, c25, F25⟩, tb, bs), by dsimp only; omega, fun h => hi.2 (by dsimp only at h; omega)⟩) (by dsimp only; omega) a w (hh.sub (⟨⟨_, rfl, ⟨⟨_, rfl, Le.refl _⟩, ⟨⟨_, rfl, Le.refl _⟩, ⟨⟨_, rfl, Le.refl _⟩, ⟨⟨_, rfl, Le.refl _⟩, ⟨⟨_, rfl, Le.refl _⟩, trivial⟩⟩⟩⟩⟩⟩, [0, 1, 2, 3, 5, 4], by decide, ⟨⟨_, rfl, LeAll.refl _⟩, ⟨⟨_, rfl, LeAll.refl _⟩, ⟨⟨_, rfl, LeAll.refl _⟩, ⟨⟨_, rfl, ⟨Le.is (by dsimp only; rw [els_ne hx hit]), trivial⟩⟩, ⟨⟨_, rfl, leVec (by dsimp only; rw [els_ne hx hit]) (by dsimp only; rw [els_ne hx hit])⟩, ⟨⟨_, rfl, LeR.refl _⟩, trivial⟩⟩⟩⟩⟩⟩⟩))
    · have hb13 := of_decide_eq_false hb13
      refine SW.exit' ?_
      repeat (first | refine SE.then ?_ | refine SE.skip (by decide) ?_)
      refine SE.here ?_
      refine SN.then ?_
      refine SW.seq ?_
      obtain rfl : i = p.length := by omega
      obtain ⟨l, hl⟩ : ∃ l, l = els p t p.length tb.A (bs).length tb.c := ⟨_, rfl⟩
      have hlen : l.length = p.length := by rw [hl]; exact els_len (Nat.le_refl _)
      have hl3 := (els_thaw (p := p) (A := tb.A) (n := bs.length) (c := tb.c) (b := bs) htl).1
      rw [← hl] at hl3
      have hvt : l[t]? = some (El.x tb.A bs.length tb.c) := by rw [hl3]; simp [Nat.min_eq_left (Nat.le_of_lt htl)]
      refine SW.sub (σ' := St.ob [(3, isD (.pointer (some ⟨g3, 0, none⟩))), (4, isD (.pointer (some ⟨g4, 0, none⟩))), (5, isD (.pointer (some ⟨g5, 0, none⟩)))] [.c g3 [iD 3, iD z], .c g4 [isD (.slice none 0 0)], .c g5 [isD (.slice v.A l.length v.c)], .r v.F (vecT 28 1 encX v.A v.c (l)), .r tb.F (vecT 5 1 encB tb.A tb.c (bs))]) (⟨⟨_, rfl, ⟨⟨_, rfl, Le.refl _⟩, ⟨⟨_, rfl, Le.refl _⟩, ⟨⟨_, rfl, Le.refl _⟩, trivial⟩⟩⟩⟩, [1, 2, 3, 4, 5], by decide, ⟨⟨_, rfl, LeAll.refl _⟩, ⟨⟨_, rfl, LeAll.refl _⟩, ⟨⟨_, rfl, ⟨Le.is (by rw [hl]), trivial⟩⟩, ⟨⟨_, rfl, leVec (by rw [hl]) (by rw [hl])⟩, ⟨⟨_, rfl, LeR.refl _⟩, trivial⟩⟩⟩⟩⟩⟩) ?_
      refine SW.region ?_
      refine SWl.rd rfl (Rd.fieldAddr (n := 0) rfl (by kernel_rfl)) ?_
      refine SWl.rd rfl (Rd.loadB 2 rfl rfl rfl (by kernel_rfl) ap_nil) ?_
      refine SWl.rd rfl (Rd.mono (Rd.lenE (e := 28) rfl (by kernel_rfl)) (show Le _ (iD (p.length : Int)) from Le.is (by rw [hlen]))) ?_
      refine SWl.rd rfl (Rd.assign rfl) ?_
      refine SWl.nil ?_
      refine SN.then ?_
      refine SW.seq ?_
      refine SW.seq ?_
      refine SW.region ?_
      refine SWl.rd rfl (Rd.fieldAddr (n := 0) rfl (by kernel_rfl)) ?_
      refine SWl.rd rfl (Rd.loadB 0 rfl rfl rfl (by kernel_rfl) ap_nil) ?_
      refine SWl.nil ?_
      refine SN.then ?_
      refine SW.block ?_
      refine SW.seq ?_
      refine SW.region ?_
      refine SWl.rd rfl (Rd.eqi rfl rfl) ?_
      refine SWl.rd rfl (Rd.assign rfl) ?_
      refine SWl.nil ?_
      refine SN.then ?_
      refine SW.condF rfl (by decide) ?_
      refine SW.seq ?_
      refine SW.region ?_
      refine SWl.rd rfl (Rd.eqi rfl rfl) ?_
      refine SWl.rd rfl (Rd.assign rfl) ?_
      refine SWl.nil ?_
      refine SN.then ?_
      refine SW.condF rfl (by decide) ?_
      refine SW.seq ?_
      refine SW.region ?_
      refine SWl.rd rfl (Rd.eqi rfl rfl) ?_
      refine SWl.rd rfl (Rd.assign rfl) ?_
      refine SWl.nil ?_
      refine SN.then ?_
      refine SW.condT rfl (by decide) ?_
      refine SW.seq ?_
      obtain ⟨v0, hv0⟩ : ∃ v0, l[0]? = some v0 := ⟨_, List.getElem?_eq_getElem (by omega)⟩
      refine SW.region ?_
      refine SWl.rd rfl (Rd.move rfl) ?_
      refine SWl.rd rfl (Rd.gtr rfl rfl) ?_
      refine SWl.rd rfl (Rd.move rfl) ?_
      refine SWl.rdg rfl rfl (decide_eq_true (by omega)) rfl rfl (Rd.fieldAddr (n := 0) rfl (by kernel_rfl)) ?_
      refine SWl.rdg rfl rfl (decide_eq_true (by omega)) rfl rfl (Rd.loadB 2 rfl rfl rfl (by kernel_rfl) ap_nil) ?_
      refine SWl.rdg rfl rfl (decide_eq_true (by omega)) rfl rfl (Rd.idxT 3 1 rfl rfl rfl (by kernel_rfl) (by kernel_rfl) (by omega) (by simp; omega)) ?_
      refine SWl.rdg rfl rfl (decide_eq_true (by omega)) rfl rfl (Rd.loadX 3 rfl rfl (by kernel_rfl) hv0 ap_nil) ?_
      refine SWl.rdg rfl rfl (decide_eq_true (by omega)) rfl rfl (Rd.lenN (e := 5) rfl (by kernel_rfl)) ?_
      refine SWl.rdg rfl rfl (decide_eq_true (by omega)) rfl rfl (Rd.gtr rfl rfl) ?_
      refine SWl.rd rfl (Rd.pickY rfl (decide_eq_true (by omega)) rfl) ?_
      refine SWl.nil ?_
      refine SN.then ?_
      refine SW.cond rfl (fun hb61 => ?_) (fun hb61 => ?_)
      · skip
        refine SW.seq ?_
        refine SW.draw [] (.r 0 (.r 1 (.r 2 (.r 3 (.r 4 (.r 5 (.r 6 (.r 7 (.r 8 (.r 9 (.r 10 (.r 11 .fin)))))))))))) (by kernel_rfl) (by kernel_rfl) (fun d _ _ _ _ h => by cases d <;> exact h) ?_
        refine SWz.rd (i := 0) rfl rfl (Rd.fieldAddr (n := 0) rfl (by kernel_rfl)) ?_
        refine SWz.rd (i := 1) rfl rfl (Rd.loadB 2 rfl rfl rfl (by kernel_rfl) ap_nil) ?_
        refine SWz.rd (i := 2) rfl rfl (Rd.fieldAddr (n := 1) rfl (by kernel_rfl)) ?_
        refine SWz.rd (i := 3) rfl rfl (Rd.loadB 0 rfl rfl rfl (by kernel_rfl) ap_nil) ?_
        refine SWz.rd (i := 4) rfl rfl (Rd.cvW .i64 rfl (by kernel_rfl) (by kernel_rfl) (show IntKind.wrap .u64 z = IntKind.wrap .u64 z from rfl)) ?_
        refine SWz.rd (i := 5) rfl rfl (Rd.move rfl) ?_
        refine SWz.rd (i := 6) rfl rfl (Rd.cvW .i64 rfl (by kernel_rfl) (by kernel_rfl) (show IntKind.wrap .u64 (p.length : Int) = (p.length : Int) from u64_small (by omega))) ?_
        refine SWz.rd (i := 7) rfl rfl (Rd.remW rfl rfl (by omega) (show _ = ((t : Nat) : Int) from by rw [ht]; exact uidx)) ?_
        refine SWz.rd (i := 8) rfl rfl (Rd.cvW .u64 rfl (by kernel_rfl) (by kernel_rfl) (show IntKind.wrap .i64 (t : Int) = (t : Int) from i64_small (by omega))) ?_
        refine SWz.rd (i := 9) rfl rfl (Rd.idxT 3 1 rfl rfl rfl (by kernel_rfl) (by kernel_rfl) (by omega) (by simp; omega)) ?_
        refine SWz.rd (i := 10) rfl rfl (Rd.loadT1 3 rfl rfl (by kernel_rfl) hvt rfl ap_nil) ?_
        refine SWz.rd (i := 11) rfl rfl (Rd.assign rfl) ?_
        refine SWz.nil ?_
        refine SN.then ?_
        refine SW.seq ?_
        refine SW.region ?_
        refine SWl.rd rfl (Rd.move rfl) ?_
        refine SWl.rd rfl (Rd.lenE (e := 5) rfl (by kernel_rfl)) ?_
        refine SWl.rd rfl (Rd.gtr rfl rfl) ?_
        refine SWl.nil ?_
        refine SN.then ?_
        refine SW.cond rfl (fun hb75 => ?_) (fun hb75 => ?_)
        · have hb75 := of_decide_eq_true hb75
          obtain ⟨b0, hb0⟩ : ∃ b0, bs[0]? = some b0 := ⟨_, List.getElem?_eq_getElem (by omega)⟩
          refine SW.region ?_
          refine SWl.rd rfl (Rd.move rfl) ?_
          refine SWl.rd rfl (Rd.idxT 4 1 rfl rfl rfl (by kernel_rfl) (by kernel_rfl) (by omega) (by simp; omega)) ?_
          refine SWl.rd rfl (Rd.loadT1 4 rfl rfl (by kernel_rfl) hb0 rfl ap_nil) ?_
          refine SWl.rd rfl (Rd.addB (b := 1) rfl rfl) ?_
          refine SWl.rd rfl (Rd.idxT 4 1 rfl rfl rfl (by kernel_rfl) (by kernel_rfl) (by omega) (by simp; omega)) ?_
          refine SWl.ef (S := _) (Ef.storeT1 (v := b0 + 1) 4 rfl rfl rfl rfl (by kernel_rfl) (by simp; omega) (fun _ h => h)) ?_
          rintro _ rfl
          refine SWl.nil ?_
          refine SN.block ?_
          refine SN.then ?_
          refine SW.seq ?_
          refine SW.sub (σ' := St.ob [(4, isD (.pointer (some ⟨g4, 0, none⟩))), (5, isD (.pointer (some ⟨g5, 0, none⟩)))] [.c g4 [isD (.slice none 0 0)], .c g5 [isD (.slice v.A l.length v.c)], .r v.F (vecT 28 1 encX v.A v.c ((p.take t).map El.k ++ [El.x tb.A (bs.set 0 (b0 + 1)).length tb.c] ++ (p.drop (t + 1)).map El.k)), .r tb.F (vecT 5 1 encB tb.A tb.c (bs.set 0 (b0 + 1)))]) (⟨⟨_, rfl, ⟨⟨_, rfl, Le.refl _⟩, ⟨⟨_, rfl, Le.refl _⟩, trivial⟩⟩⟩, [1, 2, 3, 4], by decide, ⟨⟨_, rfl, LeAll.refl _⟩, ⟨⟨_, rfl, LeAll.refl _⟩, ⟨⟨_, rfl, leVec (by rw [hl3]; simp) (by rw [hl3]; simp)⟩, ⟨⟨_, rfl, LeR.refl _⟩, trivial⟩⟩⟩⟩⟩) ?_
          refine SW.freezeIn 3 2 rfl rfl ?_
          refine SW.sub (σ' := St.ob [(4, isD (.pointer (some ⟨g4, 0, none⟩))), (5, isD (.pointer (some ⟨g5, 0, none⟩)))] [.c g4 [isD (.slice none 0 0)], .c g5 [isD (.slice v.A (p.set t (bs.set 0 (b0 + 1))).length v.c)], .r v.F (vecT 28 1 encL v.A v.c (p.set t (bs.set 0 (b0 + 1))))]) (⟨⟨_, rfl, ⟨⟨_, rfl, Le.refl _⟩, ⟨⟨_, rfl, Le.refl _⟩, trivial⟩⟩⟩, [0, 1, 2], by decide, ⟨⟨_, rfl, LeAll.refl _⟩, ⟨⟨_, rfl, ⟨Le.is (by rw [hlen, List.length_set]), trivial⟩⟩, ⟨⟨_, rfl, leVec (by rw [(els_thaw (A := tb.A) (n := 0) (c := tb.c) htl).2]; simp) (by rw [(els_thaw (A := tb.A) (n := 0) (c := tb.c) htl).2, flat_k])⟩, trivial⟩⟩⟩⟩) ?_
          refine SW.region ?_
          refine SWl.rd rfl (Rd.loadA 1 1 rfl rfl (by kernel_rfl) rfl ap_nil) ?_
          refine SWl.ef (S := [_]) (Ef.storeA 0 rfl rfl rfl (by kernel_rfl) rfl (List.mem_singleton.2 rfl)) ?_
          rintro _ rfl
          refine SWl.nil ?_
          refine SN.then ?_
          refine SW.freezeC 0 0 2 rfl rfl rfl ?_
          refine SW.retR (fn := Tryd.f30) (⟨p.set t (bs.set 0 (b0 + 1)), by simp⟩) [] (fun _ _ h => h) (Rs.le (Rs.one rfl (ResV.cellA 0 rfl rfl (by kernel_rfl))) ?_) (by decide) trivial
          exact Le.refl _
        · skip
          refine SW.skip ?_
          refine SN.block ?_
          refine SN.then ?_
          refine SW.seq ?_
          refine SW.sub (σ' := St.ob [(4, isD (.pointer (some ⟨g4, 0, none⟩))), (5, isD (.pointer (some ⟨g5, 0, none⟩)))] [.c g4 [isD (.slice none 0 0)], .c g5 [isD (.slice v.A l.length v.c)], .r v.F (vecT 28 1 encX v.A v.c ((p.take t).map El.k ++ [El.x tb.A (bs).length tb.c] ++ (p.drop (t + 1)).map El.k)), .r tb.F (vecT 5 1 encB tb.A tb.c (bs))]) (⟨⟨_, rfl, ⟨⟨_, rfl, Le.refl _⟩, ⟨⟨_, rfl, Le.refl _⟩, trivial⟩⟩⟩, [1, 2, 3, 4], by decide, ⟨⟨_, rfl, LeAll.refl _⟩, ⟨⟨_, rfl, LeAll.refl _⟩, ⟨⟨_, rfl, leVec (by rw [hl3]) (by rw [hl3])⟩, ⟨⟨_, rfl, LeR.refl _⟩, trivial⟩⟩⟩⟩⟩) ?_
          refine SW.freezeIn 3 2 rfl rfl ?_
          refine SW.sub (σ' := St.ob [(4, isD (.pointer (some ⟨g4, 0, none⟩))), (5, isD (.pointer (some ⟨g5, 0, none⟩)))] [.c g4 [isD (.slice none 0 0)], .c g5 [isD (.slice v.A (p.set t (bs)).length v.c)], .r v.F (vecT 28 1 encL v.A v.c (p.set t (bs)))]) (⟨⟨_, rfl, ⟨⟨_, rfl, Le.refl _⟩, ⟨⟨_, rfl, Le.refl _⟩, trivial⟩⟩⟩, [0, 1, 2], by decide, ⟨⟨_, rfl, LeAll.refl _⟩, ⟨⟨_, rfl, ⟨Le.is (by rw [hlen, List.length_set]), trivial⟩⟩, ⟨⟨_, rfl, leVec (by rw [(els_thaw (A := tb.A) (n := 0) (c := tb.c) htl).2]; simp) (by rw [(els_thaw (A := tb.A) (n := 0) (c := tb.c) htl).2, flat_k])⟩, trivial⟩⟩⟩⟩) ?_
          refine SW.region ?_
          refine SWl.rd rfl (Rd.loadA 1 1 rfl rfl (by kernel_rfl) rfl ap_nil) ?_
          refine SWl.ef (S := [_]) (Ef.storeA 0 rfl rfl rfl (by kernel_rfl) rfl (List.mem_singleton.2 rfl)) ?_
          rintro _ rfl
          refine SWl.nil ?_
          refine SN.then ?_
          refine SW.freezeC 0 0 2 rfl rfl rfl ?_
          refine SW.retR (fn := Tryd.f30) (⟨p.set t (bs), by simp⟩) [] (fun _ _ h => h) (Rs.le (Rs.one rfl (ResV.cellA 0 rfl rfl (by kernel_rfl))) ?_) (by decide) trivial
          exact Le.refl _
      · skip
        refine SW.skip ?_
        refine SN.block ?_
        refine SN.then ?_
        refine SW.seq ?_
        refine SW.sub (σ' := St.ob [(4, isD (.pointer (some ⟨g4, 0, none⟩))), (5, isD (.pointer (some ⟨g5, 0, none⟩)))] [.c g4 [isD (.slice none 0 0)], .c g5 [isD (.slice v.A l.length v.c)], .r v.F (vecT 28 1 encX v.A v.c ((p.take t).map El.k ++ [El.x tb.A (bs).length tb.c] ++ (p.drop (t + 1)).map El.k)), .r tb.F (vecT 5 1 encB tb.A tb.c (bs))]) (⟨⟨_, rfl, ⟨⟨_, rfl, Le.refl _⟩, ⟨⟨_, rfl, Le.refl _⟩, trivial⟩⟩⟩, [1, 2, 3, 4], by decide, ⟨⟨_, rfl, LeAll.refl _⟩, ⟨⟨_, rfl, LeAll.refl _⟩, ⟨⟨_, rfl, leVec (by rw [hl3]) (by rw [hl3])⟩, ⟨⟨_, rfl, LeR.refl _⟩, trivial⟩⟩⟩⟩⟩) ?_
        refine SW.freezeIn 3 2 rfl rfl ?_
        refine SW.sub (σ' := St.ob [(4, isD (.pointer (some ⟨g4, 0, none⟩))), (5, isD (.pointer (some ⟨g5, 0, none⟩)))] [.c g4 [isD (.slice none 0 0)], .c g5 [isD (.slice v.A (p.set t (bs)).length v.c)], .r v.F (vecT 28 1 encL v.A v.c (p.set t (bs)))]) (⟨⟨_, rfl, ⟨⟨_, rfl, Le.refl _⟩, ⟨⟨_, rfl, Le.refl _⟩, trivial⟩⟩⟩, [0, 1, 2], by decide, ⟨⟨_, rfl, LeAll.refl _⟩, ⟨⟨_, rfl, ⟨Le.is (by rw [hlen, List.length_set]), trivial⟩⟩, ⟨⟨_, rfl, leVec (by rw [(els_thaw (A := tb.A) (n := 0) (c := tb.c) htl).2]; simp) (by rw [(els_thaw (A := tb.A) (n := 0) (c := tb.c) htl).2, flat_k])⟩, trivial⟩⟩⟩⟩) ?_
        refine SW.region ?_
        refine SWl.rd rfl (Rd.loadA 1 1 rfl rfl (by kernel_rfl) rfl ap_nil) ?_
        refine SWl.ef (S := [_]) (Ef.storeA 0 rfl rfl rfl (by kernel_rfl) rfl (List.mem_singleton.2 rfl)) ?_
        rintro _ rfl
        refine SWl.nil ?_
        refine SN.then ?_
        refine SW.freezeC 0 0 2 rfl rfl rfl ?_
        refine SW.retR (fn := Tryd.f30) (⟨p.set t (bs), by simp⟩) [] (fun _ _ h => h) (Rs.le (Rs.one rfl (ResV.cellA 0 rfl rfl (by kernel_rfl))) ?_) (by decide) trivial
        exact Le.refl _
theorem con_changed (p : List (List UInt8)) (k z : Int) (hp : p.length ≤ 100000) (hbs : ∀ b ∈ p, b.length ≤ 100000) : ConR Tryd.prog 30 [] [aggD [lsD encL p], aggD [iD k, iD z]] (fun t : {q : List (List UInt8) // q.length ≤ p.length + 1} => []) (fun t : {q : List (List UInt8) // q.length ≤ p.length + 1} => aggD [lsD encL t.1]) := by
  by_cases hk : k = 3
  · subst hk
    rcases Nat.eq_zero_or_pos p.length with h0 | h0
    · exact con_changed_e p z h0
    · exact con_changed_b p z hp hbs h0 _ rfl
  · exact con_changed_a p k z hp hbs hk
end Sx
end Go.Proofs.YtonjpfpdpfonnaaDoor
