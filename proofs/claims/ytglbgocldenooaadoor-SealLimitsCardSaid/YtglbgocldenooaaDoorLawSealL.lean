/-
  THE WALK of the law SealLimits.
-/
import Derived.Test.YtglbgocldenooaaDoorSealKn
import Derived.Test.YtglbgocldenooaaDoorReg3
namespace Go.Proofs.YtglbgocldenooaaDoor
open Go.RowKit

theorem zcells (n : Nat) : List.replicate n (Value.int .u8 0) = cellsOf (List.replicate n 0) := by simp [cellsOf, B8]

theorem sealZ (w : World) (A B C : Option Addr) (ca cb n cc : Nat) (key nonce b : List UInt8) (hn' : n = b.length) (hk : key.length = 32) (hn : nonce.length = 16) (hca : 32 ≤ ca) (hcb : 16 ≤ cb) (hcc : n ≤ cc) (hA : RV w A (cellsOf key)) (hB : RV w B (cellsOf nonce)) (hC : RV w C (cellsOf b)) (hgl : Gl w) :
    Calls Tryd.prog 31 #[.slice A 32 ca, .slice B 16 cb, .slice C n cc] w fun e w' => ∃ A' m c' er, e = .returned (.tuple #[.slice A' m c', .int .i64 er]) ∧ Hid ((65504 < n → m = 0 ∧ er = 2) ∧ (n ≤ 65504 → m = n + 32 ∧ er = 0)) ∧ Only [] w w' := by
  by_cases h : n ≤ 65504
  · refine (sealB_at w A B C ca cb n cc key nonce b hn' hk hn (by omega) hca hcb hcc hA hB hC hgl).mono ?_
    rintro e w' ⟨A', c', G, rfl, _, _, hO⟩
    exact ⟨A', n + 32, c', 0, rfl, ⟨fun h' => absurd h (by omega), fun _ => ⟨rfl, rfl⟩⟩, hO⟩
  · refine (seal_no w A B C 32 ca 16 cb n cc (.inr (.inr (by omega)))).mono ?_
    rintro e w' ⟨rfl, rfl⟩
    exact ⟨none, 0, 0, 2, rfl, ⟨fun _ => ⟨rfl, rfl⟩, fun h' => absurd h' h⟩, Only.refl _ _⟩

theorem openZ (w : World) (A B : Option Addr) (ca n cb : Nat) (key : List UInt8) (hk : key.length = 32) (h32 : 32 ≤ n) (hca : 32 ≤ ca) (hcb : n ≤ cb) (hA : RV w A (cellsOf key)) (hB : RV w B (cellsOf (List.replicate n 0))) (hgl : Gl w) :
    Calls Tryd.prog 33 #[.slice A 32 ca, .slice B n cb] w fun e w' => ∃ A' m c' er, e = .returned (.tuple #[.slice A' m c', .int .i64 er]) ∧ Hid ((65536 < n ∧ er = 5) ∨ (n ≤ 65536 ∧ er = 10) ∨ (n ≤ 65536 ∧ er = 0 ∧ Sl.tag key (List.replicate (n - 16) 0) = List.replicate 16 0)) ∧ Only [] w w' := by
  refine (open_any w A B ca n cb key _ (by simp) hk hca hcb hA hB hgl).mono ?_
  rintro e w' ⟨A', c', rfl, _, _, _, hO⟩
  refine ⟨A', _, c', _, rfl, ?_, hO⟩
  unfold Hid Sl.openB
  rw [List.length_replicate, if_neg (by omega)]
  by_cases h : 65536 < n
  · exact .inl ⟨h, by rw [if_pos h]; rfl⟩
  · rw [if_neg h]
    by_cases hg : Sl.good key (List.replicate n 0) = true
    · refine .inr (.inr ⟨by omega, by rw [if_pos hg]; rfl, ?_⟩)
      have := hg
      unfold Sl.good Sl.bodyOf Sl.tagIn at this
      rw [beq_iff_eq, List.length_replicate, List.take_replicate, List.drop_replicate] at this
      rw [show min (n - 16) n = n - 16 by omega, show n - (n - 16) = 16 by omega] at this
      exact this
    · exact .inr (.inl ⟨by omega, by rw [if_neg hg]; rfl⟩)

set_option maxHeartbeats 4000000 in
set_option maxRecDepth 100000 in
theorem sealLimits_in (w : World) (n : Nat) (h1 : (65490 : Int) ≤ (n : Int)) (h2 : (n : Int) ≤ 65550) (hgl : Gl w) :
    Calls Tryd.prog 15 #[.int .i64 (n : Int)] w fun e w' => e = .returned (.bool true) ∧ Only [] w w' := by
  obtain ⟨K, hK⟩ : ∃ K, K = kp [] := ⟨_, rfl⟩
  have hKl : K.length = 32 := by rw [hK]; simp
  have HK := Lib.hid hK
  have HKl := Lib.hid hKl
  clear hK hKl
  go_enter Tryd.func15, Tryd.ntmps15
  go_wp2_with fail
  refine (key_any w none 0 0 [] rfl (by decide) (fun h => absurd h (by simp [cellsOf]))).mono ?_
  rintro e w1 ⟨rfl, hK1, hO1⟩
  generalize hgk : w.heap.size = gk at hK1 ⊢
  rw [← HK.out] at hK1
  have hRk : RV w1 (some ⟨gk, 0, none⟩) (cellsOf K) := hK1.rv
  have hN16 : RV w1 (some ⟨gk, 0, none⟩) (cellsOf (K.take 16)) := by
    have h := RV.slice rfl hRk 0 16
    simpa [cellsOf, List.map_take] using h
  have HM := Lib.hid (show (K.take 16).length = 16 by rw [List.length_take, HKl.out]; rfl)
  clear hgk hK1
  go_wp2
  refine Reg.wp [] [.r 0, .r 1, .r 2, .r 3, .e 4, .e 5, .r 6, .r 7, .r 8, .r 9, .r 10] (by kernel_rfl) (by kernel_rfl) (fun d _ _ _ _ h => by cases d <;> exact h) ?_
  simp only [Reg.pick, List.getD_cons_succ, List.getD_cons_zero]
  iterate 4 (apply Reg.read; (· (intro t K hK; go_simp; (try go_ints); (try ((go_ite <;> go_prune); go_simp)); (try go_ints); exact hK _ rfl)); (· (intro K hK; go_simp; exact hK _ rfl)))
  refine Reg.eff ?_
  go_wp2_with (refine wpl_make rfl 22 _ _ rfl 5 (.int .u8 0) 1 Tryd.underlying22 info8 rfl .i64 .i64 _ _ n n rfl rfl rfl rfl (Nat.le_refl _) (by omega) (by decide) ?_; intro w2 _ hB2 hO2)
  have hP2 := hO1.drew.trans' hO2
  rw [zcells] at hB2
  refine ⟨hO2, ?_⟩
  refine Reg.eff ?_
  go_wp2_with (go_at_call 31; refine (sealZ w2 _ _ _ 32 32 n n K (K.take 16) (List.replicate n 0) (by simp) HKl.out HM.out (by decide) (by decide) (Nat.le_refl _) (hRk.drew.keep0 hO2) (hN16.drew.keep0 hO2) hB2.rv (hgl.keep hP2 (by simp) (by simp))).mono ?_; rintro e w3 ⟨A3, m, c3, er, rfl, H3, hO3⟩)
  refine ⟨hO3, ?_⟩
  have hP3 := hP2.trans' hO3
  have hRk3 := (hRk.drew.keep0 hO2).keep0 hO3
  clear hB2 hN16 hRk
  iterate 5 (apply Reg.read; (· (intro t K hK; go_simp; (try go_ints); (try ((go_ite <;> go_prune); go_simp)); (try go_ints); exact hK _ rfl)); (· (intro K hK; go_simp; exact hK _ rfl)))
  refine Reg.fin ?_
  go_wp2_with (first
    | (refine wpl_make rfl 22 _ _ rfl 5 (.int .u8 0) 1 Tryd.underlying22 info8 rfl .i64 .i64 _ _ n n rfl rfl rfl rfl (Nat.le_refl _) (by omega) (by decide) ?_; intro w4 _ hB4 hO4; have hP4 := hP3.trans' hO4; rw [zcells] at hB4)
    | (go_at_call 33; refine (openZ w4 _ _ 32 n n K HKl.out (by omega) (by decide) (Nat.le_refl _) (hRk3.keep0 hO4) hB4.rv (hgl.keep hP4 (by simp) (by simp))).mono ?_; rintro e w5 ⟨A5, m5, c5, er5, rfl, H5, hO5⟩))
  have hP5 := hP4.trans' hO5
  have hRk5 := ((hRk3.keep0 hO4).keep0 hO5).drew
  clear hB4 hRk3
  rcases H5.out with ⟨hlo, rfl⟩ | ⟨hle, rfl⟩ | ⟨hle, rfl, htag⟩
  · have hloI : (65536 : Int) < (n : Int) := by omega
    refine Reg.wp [] [.r 0, .r 1, .r 2, .r 3, .r 4, .r 5, .r 6, .r 7, .r 8, .r 9, .r 10, .r 11, .r 12, .r 13, .r 14, .r 15, .r 16, .r 17, .r 18, .r 19, .r 20, .r 21, .r 22, .r 23, .r 24] (by kernel_rfl) (by kernel_rfl) (fun d _ _ _ _ h => by cases d <;> exact h) ?_
    simp only [Reg.pick, List.getD_cons_succ, List.getD_cons_zero]
    iterate 25 (apply Reg.read; (· (intro t K hK; go_simp; (try go_ints); (try ((go_ite <;> go_prune); go_simp)); (try go_ints); exact hK _ rfl)); (· (intro K hK; go_simp; exact hK _ rfl)))
    refine Reg.fin ?_
    obtain ⟨rfl, rfl⟩ := H3.out.1 (by omega)
    have h5I : (65504 : Int) < (n : Int) := by omega
    go_wp2_with (first
      | (go_at_call 27; refine (refused_yes (w5.drew) A3 c3 2).mono ?_; rintro e w' ⟨rfl, rfl⟩)
      | (go_at_call 25; refine (known5 (w5.drew) (hgl.keep (hP5.drew) (by simp) (by simp))).mono ?_; rintro e W9 ⟨rfl, hO9⟩))
    go_ret
    exact ⟨rfl, (hP5.drew).trans' hO9⟩
  · have hleI : (n : Int) ≤ 65536 := by omega
    refine Reg.wp [] [.r 0, .r 1, .r 2, .r 3, .r 4, .r 5, .r 6, .r 7, .r 8, .r 9, .r 10, .r 11, .r 12, .r 13, .r 14, .r 15, .r 16, .r 17, .r 18, .r 19, .r 20, .r 21, .r 22, .r 23, .r 24] (by kernel_rfl) (by kernel_rfl) (fun d _ _ _ _ h => by cases d <;> exact h) ?_
    simp only [Reg.pick, List.getD_cons_succ, List.getD_cons_zero]
    iterate 25 (apply Reg.read; (· (intro t K hK; go_simp; (try go_ints); (try ((go_ite <;> go_prune); go_simp)); (try go_ints); exact hK _ rfl)); (· (intro K hK; go_simp; exact hK _ rfl)))
    refine Reg.fin ?_
    by_cases h5 : n ≤ 65504
    · obtain ⟨rfl, rfl⟩ := H3.out.2 h5
      have h5I : (n : Int) ≤ 65504 := by omega
      go_wp2_with (go_at_call 25; refine (known5 (w5.drew) (hgl.keep (hP5.drew) (by simp) (by simp))).mono ?_; rintro e W9 ⟨rfl, hO9⟩)
      go_ret
      exact ⟨rfl, (hP5.drew).trans' hO9⟩
    · obtain ⟨rfl, rfl⟩ := H3.out.1 (by omega)
      have h5I : (65504 : Int) < (n : Int) := by omega
      go_wp2_with (first
        | (go_at_call 27; refine (refused_yes (w5.drew) A3 c3 2).mono ?_; rintro e w' ⟨rfl, rfl⟩)
        | (go_at_call 25; refine (known5 (w5.drew) (hgl.keep (hP5.drew) (by simp) (by simp))).mono ?_; rintro e W9 ⟨rfl, hO9⟩))
      go_ret
      exact ⟨rfl, (hP5.drew).trans' hO9⟩
  · have hleI : (n : Int) ≤ 65536 := by omega
    have Htag := Lib.hid htag
    clear htag
    obtain ⟨m16, Hm16⟩ : ∃ m16 : Nat, Hid (m16 = n - 16) := ⟨_, rfl⟩
    have hmI : (n : Int) - 16 = (m16 : Int) := by have := Hm16.out; omega
    have hm16 : m16 ≤ 1000000 := by have := Hm16.out; omega
    refine Reg.wpT [] (.r 0 (.r 1 (.r 2 (.r 3 (.r 4 (.r 5 (.r 6 (.r 7 (.r 8 (.r 9 (.r 10 (.r 11 (.r 12 (.r 13 (.r 14 (.r 15 (.r 16 (.two 17 (.two 18 (.r 19 (.e 20 (.r 21 (.r 22 (.r 23 (.r 24 .fin)))))) 20 (.r 21 (.e 18 (.r 19 (.r 22 (.r 23 (.r 24 .fin))))))) 20 (.r 21 (.e 17 (.e 18 (.r 19 (.r 22 (.r 23 (.r 24 .fin))))))))))))))))))))))))) (by kernel_rfl) (by kernel_rfl) (fun d _ _ _ _ h => by cases d <;> exact h) ?_
    simp only [Reg.pickT, List.getD_cons_succ, List.getD_cons_zero]
    iterate 17 (apply Reg.readT; (· (intro t K hK; go_simp; (try go_ints); (try ((go_ite <;> go_prune); go_simp)); (try go_ints); exact hK _ rfl)); (· (intro K hK; go_simp; exact hK _ rfl)))
    obtain ⟨Z, hZ⟩ : ∃ Z : List UInt8, Z = List.replicate 16 0 := ⟨_, rfl⟩
    have hZl : 16 = Z.length := by rw [hZ]; rfl
    have HZl := Lib.hid hZl
    have HZ := Lib.hid hZ
    have Htag' : Hid (Sl.tag K (List.replicate m16 0) = Z) := by rw [Hm16.out, HZ.out]; exact Htag.out
    clear hZ hZl
    refine Reg.twoT ?_ ?_
    · skip
      go_wp2_with (refine wpl_wanted (by rfl) ?_; refine wpl_make rfl 22 _ _ rfl 5 (.int .u8 0) 1 Tryd.underlying22 info8 rfl .i64 .i64 _ _ (m16) (m16) ((by omega)) ((by omega)) rfl rfl (Nat.le_refl _) (by omega) (by decide) ?_; intro w6 _ hB6 hO6)
      rw [zcells] at hB6
      refine ⟨hO6, ?_⟩
      refine Reg.twoT ?_ ?_
      · skip
        go_wp2_with (go_at_call 37; refine (refTag_any (w6) _ _ 32 m16 m16 K (List.replicate m16 0) HKl.out (by simp) (by decide) (Nat.le_refl _) hm16 (hRk5.keep0 hO6) hB6.rv).mono ?_; rintro e w7 ⟨A7, c7, G7, rfl, hc7, hown7, hnew7, hO7⟩)
        rw [Htag'.out] at hown7
        refine ⟨hO7, ?_⟩
        have s1 := fun c => str_in0 (w := w7) (n := 16) (c := c) hown7.reads HZl.out
        (apply Reg.readT; (· (intro t K hK; go_simp; (try go_ints); (try ((go_ite <;> go_prune); go_simp)); (try go_ints); exact hK _ rfl)); (· (intro K hK; go_simp; exact hK _ rfl)))
        refine Reg.effT ?_
        go_wp2_with (refine wpl_wanted (by rfl) ?_; refine wpl_make rfl 22 _ _ rfl 5 (.int .u8 0) 1 Tryd.underlying22 info8 rfl .i64 .i64 _ _ (16) (16) (rfl) (rfl) rfl rfl (Nat.le_refl _) (by omega) (by decide) ?_; intro w8 _ hB8 hO8)
        rw [zcells] at hB8
        rw [← HZ.out] at hB8
        have s2 := fun c => str_in0 (w := w8) (n := 16) (c := c) hB8.rv HZl.out
        refine ⟨hO8, ?_⟩
        clear s1
        iterate 4 (apply Reg.readT; (· (intro t K hK; go_simp; (try go_ints); (try ((go_ite <;> go_prune); go_simp)); (try go_ints); exact hK _ rfl)); (· (intro K hK; go_simp; exact hK _ rfl)))
        refine Reg.finT ?_
        clear s2
        by_cases h5 : n ≤ 65504
        · obtain ⟨rfl, rfl⟩ := H3.out.2 h5
          have h5I : (n : Int) ≤ 65504 := by omega
          go_wp2_with (go_at_call 25; refine (known5 (w8) (hgl.keep (((hP5.drew.trans' hO6).trans' hO7).trans' hO8) (by simp) (by simp))).mono ?_; rintro e W9 ⟨rfl, hO9⟩)
          go_ret
          exact ⟨rfl, (((hP5.drew.trans' hO6).trans' hO7).trans' hO8).trans' hO9⟩
        · obtain ⟨rfl, rfl⟩ := H3.out.1 (by omega)
          have h5I : (65504 : Int) < (n : Int) := by omega
          go_wp2_with (first
            | (go_at_call 27; refine (refused_yes (w8) A3 c3 2).mono ?_; rintro e w' ⟨rfl, rfl⟩)
            | (go_at_call 25; refine (known5 (w8) (hgl.keep (((hP5.drew.trans' hO6).trans' hO7).trans' hO8) (by simp) (by simp))).mono ?_; rintro e W9 ⟨rfl, hO9⟩))
          go_ret
          exact ⟨rfl, (((hP5.drew.trans' hO6).trans' hO7).trans' hO8).trans' hO9⟩
      · skip
        go_wp2_with (refine wpl_wanted (by rfl) ?_; refine wpl_make rfl 22 _ _ rfl 5 (.int .u8 0) 1 Tryd.underlying22 info8 rfl .i64 .i64 _ _ (16) (16) (rfl) (rfl) rfl rfl (Nat.le_refl _) (by omega) (by decide) ?_; intro w7 _ hB7 hO7)
        rw [zcells] at hB7
        rw [← HZ.out] at hB7
        have s2 := fun c => str_in0 (w := w7) (n := 16) (c := c) hB7.rv HZl.out
        refine ⟨hO7, ?_⟩
        (apply Reg.readT; (· (intro t K hK; go_simp; (try go_ints); (try ((go_ite <;> go_prune); go_simp)); (try go_ints); exact hK _ rfl)); (· (intro K hK; go_simp; exact hK _ rfl)))
        clear s2
        refine Reg.effT ?_
        go_wp2_with (go_at_call 37; refine (refTag_any (w7) _ _ 32 m16 m16 K (List.replicate m16 0) HKl.out (by simp) (by decide) (Nat.le_refl _) hm16 ((hRk5.keep0 hO6).keep0 hO7) (hB6.rv.keep0 hO7)).mono ?_; rintro e w8 ⟨A7, c7, G7, rfl, hc7, hown8, hnew7, hO8⟩)
        rw [Htag'.out] at hown8
        refine ⟨hO8, ?_⟩
        have s1 := fun c => str_in0 (w := w8) (n := 16) (c := c) hown8.reads HZl.out
        iterate 4 (apply Reg.readT; (· (intro t K hK; go_simp; (try go_ints); (try ((go_ite <;> go_prune); go_simp)); (try go_ints); exact hK _ rfl)); (· (intro K hK; go_simp; exact hK _ rfl)))
        refine Reg.finT ?_
        clear s1
        by_cases h5 : n ≤ 65504
        · obtain ⟨rfl, rfl⟩ := H3.out.2 h5
          have h5I : (n : Int) ≤ 65504 := by omega
          go_wp2_with (go_at_call 25; refine (known5 (w8) (hgl.keep (((hP5.drew.trans' hO6).trans' hO7).trans' hO8) (by simp) (by simp))).mono ?_; rintro e W9 ⟨rfl, hO9⟩)
          go_ret
          exact ⟨rfl, (((hP5.drew.trans' hO6).trans' hO7).trans' hO8).trans' hO9⟩
        · obtain ⟨rfl, rfl⟩ := H3.out.1 (by omega)
          have h5I : (65504 : Int) < (n : Int) := by omega
          go_wp2_with (first
            | (go_at_call 27; refine (refused_yes (w8) A3 c3 2).mono ?_; rintro e w' ⟨rfl, rfl⟩)
            | (go_at_call 25; refine (known5 (w8) (hgl.keep (((hP5.drew.trans' hO6).trans' hO7).trans' hO8) (by simp) (by simp))).mono ?_; rintro e W9 ⟨rfl, hO9⟩))
          go_ret
          exact ⟨rfl, (((hP5.drew.trans' hO6).trans' hO7).trans' hO8).trans' hO9⟩
    · skip
      go_wp2_with (refine wpl_wanted (by rfl) ?_; refine wpl_make rfl 22 _ _ rfl 5 (.int .u8 0) 1 Tryd.underlying22 info8 rfl .i64 .i64 _ _ (16) (16) (rfl) (rfl) rfl rfl (Nat.le_refl _) (by omega) (by decide) ?_; intro w6 _ hB6 hO6)
      rw [zcells] at hB6
      rw [← HZ.out] at hB6
      have s2 := fun c => str_in0 (w := w6) (A := some ⟨w5.heap.size, 0, none⟩) (n := 16) (c := c) hB6.rv HZl.out
      refine ⟨hO6, ?_⟩
      (apply Reg.readT; (· (intro t K hK; go_simp; (try go_ints); (try ((go_ite <;> go_prune); go_simp)); (try go_ints); exact hK _ rfl)); (· (intro K hK; go_simp; exact hK _ rfl)))
      clear s2
      refine Reg.effT ?_
      go_wp2_with (refine wpl_wanted (by rfl) ?_; refine wpl_make rfl 22 _ _ rfl 5 (.int .u8 0) 1 Tryd.underlying22 info8 rfl .i64 .i64 _ _ (m16) (m16) ((by omega)) ((by omega)) rfl rfl (Nat.le_refl _) (by omega) (by decide) ?_; intro w7 _ hB7 hO7)
      rw [zcells] at hB7
      refine ⟨hO7, ?_⟩
      refine Reg.effT ?_
      go_wp2_with (go_at_call 37; refine (refTag_any (w7) _ _ 32 m16 m16 K (List.replicate m16 0) HKl.out (by simp) (by decide) (Nat.le_refl _) hm16 ((hRk5.keep0 hO6).keep0 hO7) hB7.rv).mono ?_; rintro e w8 ⟨A7, c7, G7, rfl, hc7, hown8, hnew7, hO8⟩)
      rw [Htag'.out] at hown8
      refine ⟨hO8, ?_⟩
      have s1 := fun c => str_in0 (w := w8) (n := 16) (c := c) hown8.reads HZl.out
      iterate 4 (apply Reg.readT; (· (intro t K hK; go_simp; (try go_ints); (try ((go_ite <;> go_prune); go_simp)); (try go_ints); exact hK _ rfl)); (· (intro K hK; go_simp; exact hK _ rfl)))
      refine Reg.finT ?_
      clear s1
      by_cases h5 : n ≤ 65504
      · obtain ⟨rfl, rfl⟩ := H3.out.2 h5
        have h5I : (n : Int) ≤ 65504 := by omega
        go_wp2_with (go_at_call 25; refine (known5 (w8) (hgl.keep (((hP5.drew.trans' hO6).trans' hO7).trans' hO8) (by simp) (by simp))).mono ?_; rintro e W9 ⟨rfl, hO9⟩)
        go_ret
        exact ⟨rfl, (((hP5.drew.trans' hO6).trans' hO7).trans' hO8).trans' hO9⟩
      · obtain ⟨rfl, rfl⟩ := H3.out.1 (by omega)
        have h5I : (65504 : Int) < (n : Int) := by omega
        go_wp2_with (first
          | (go_at_call 27; refine (refused_yes (w8) A3 c3 2).mono ?_; rintro e w' ⟨rfl, rfl⟩)
          | (go_at_call 25; refine (known5 (w8) (hgl.keep (((hP5.drew.trans' hO6).trans' hO7).trans' hO8) (by simp) (by simp))).mono ?_; rintro e W9 ⟨rfl, hO9⟩))
        go_ret
        exact ⟨rfl, (((hP5.drew.trans' hO6).trans' hO7).trans' hO8).trans' hO9⟩

theorem sealLimits_any (w : World) (z : Int) (hgl : Gl w) :
    Calls Tryd.prog 15 #[.int .i64 z] w fun e w' => e = .returned (.bool true) ∧ Only [] w w' := by
  by_cases g1 : z < 65490
  · go_enter Tryd.func15, Tryd.ntmps15
    go_wp2_with (go_at_call 25; refine (known5 w hgl).mono ?_; rintro e W1 ⟨rfl, hO1⟩)
    go_ret
    exact ⟨rfl, hO1⟩
  by_cases g2 : 65550 < z
  · have g1' : 65490 ≤ z := by omega
    clear g1
    go_enter Tryd.func15, Tryd.ntmps15
    go_wp2_with (go_at_call 25; refine (known5 w hgl).mono ?_; rintro e W1 ⟨rfl, hO1⟩)
    go_ret
    exact ⟨rfl, hO1⟩
  obtain ⟨n, rfl⟩ : ∃ n : Nat, z = (n : Int) := ⟨z.toNat, by omega⟩
  exact sealLimits_in w n (by omega) (by omega) hgl
end Go.Proofs.YtglbgocldenooaaDoor
