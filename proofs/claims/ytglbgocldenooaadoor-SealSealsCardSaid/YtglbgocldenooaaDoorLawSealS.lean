/-
  THE WALK of the law SealSeals.
-/
import Derived.Test.YtglbgocldenooaaDoorSealKn
namespace Go.Proofs.YtglbgocldenooaaDoor
open Go.RowKit

set_option maxHeartbeats 2000000 in
set_option maxRecDepth 100000 in
theorem sealSeals_in (w : World) (A B C : Option Addr) (ca cb cc : Nat) (key nonce b : List UInt8) (hk : key.length = 32) (hn : nonce.length = 16) (hb : (b.length : Int) ≤ 300) (hca : 32 ≤ ca) (hcb : 16 ≤ cb) (hcc : b.length ≤ cc) (hA : RV w A (cellsOf key)) (hB : RV w B (cellsOf nonce)) (hC : RV w C (cellsOf b)) (hgl : Gl w) :
    Calls Tryd.prog 11 #[.slice A 32 ca, .slice B 16 cb, .slice C b.length cc] w fun e w' => e = .returned (.bool true) ∧ Only [] w w' := by
  have Hk := Lib.hid hk
  have Hn := Lib.hid hn
  clear hk hn
  have hb2 : (b.length : Int) ≤ 65504 := by omega
  go_enter Tryd.func11, Tryd.ntmps11
  go_wp2_with (first
    | (at_builtin; refine wpl_append8 rfl (.tmp 24) (.tmp 25) rfl (some ⟨w.heap.size, 0, none⟩) 0 0 [] (some w.heap.size) rfl rfl (ownS_empty w _) C b.length cc b rfl rfl (hC.keep0 ((Only.refl [] w).alloc _)) (by simp; omega) ?_
       intro A1 c1 w1 G1 hown1 hO1 hG1
       have hP1 : Only [] w w1 := ((Only.refl [] w).alloc _).trans hO1 (by simp)
       rw [List.nil_append] at hown1
       have hc1 : b.length ≤ c1 := by simpa using hown1.le
       clear hO1 hG1)
    | (go_at_call 31; refine (sealB_any w1 A B A1 ca cb c1 key nonce b Hk.out Hn.out hb2 hca hcb hc1 (hA.keep0 hP1) (hB.keep0 hP1) hown1.reads (hgl.keep hP1 (by simp) (by simp))).mono ?_
       rintro e w2 ⟨A2, c2, G2, rfl, hown2, hnew2, hO2⟩
       have hP2 := hP1.trans' hO2
       have hown1' := hown1.keep hO2 (by simp)
       clear hown1))
  have hsl : (Sl.sealB key nonce b).length = b.length + 32 := Sl.sealB_length _ _ _ Hn.out
  have s1 := fun c => str_in0 (w := w2.drew) (n := b.length + 32) (c := c) hown2.reads.drew hsl.symm
  refine Reg.wp [] [.r 0, .r 1, .r 2, .r 3, .r 4, .r 5, .r 6, .r 7, .e 8, .r 9, .r 10, .r 11, .r 12, .r 13, .r 14, .r 15, .r 16, .r 17, .r 18, .r 19, .e 20, .r 21, .r 22] (by kernel_rfl) (by kernel_rfl) (fun d _ _ _ _ h => by cases d <;> exact h) ?_
  simp only [Reg.pick, List.getD_cons_succ, List.getD_cons_zero]
  iterate 8 (apply Reg.read; (· (intro t K hK; go_simp; (try go_ints); (try ((go_ite <;> go_prune); go_simp)); (try go_ints); exact hK _ rfl)); (· (intro K hK; go_simp; exact hK _ rfl)))
  clear s1
  refine Reg.eff ?_
  go_wp2_with (go_at_call 32; refine (refSeal_any w2.drew A B C ca cb cc key nonce b Hk.out Hn.out hb2 hca hcb hcc (hA.keep0 hP2).drew (hB.keep0 hP2).drew (hC.keep0 hP2).drew).mono ?_; rintro e w3 ⟨A3, c3, G3, rfl, hown3, hnew3, hO3⟩)
  refine ⟨hO3, ?_⟩
  have hO3' : Only [] w2 w3 := Only.undrew (w := w2) hO3
  have hP3 : Only [] w w3 := hP2.trans' hO3'
  have s2 := fun c => str_in0 (w := w3) (n := b.length + 32) (c := c) hown3.reads hsl.symm
  have s3 := fun c => str_in0 (w := w3) (n := b.length) (c := c) (hown1'.reads.keep0 hO3') rfl
  have s4 := fun c => str_in0 (w := w3) (n := b.length) (c := c) (hC.keep0 hP3) rfl
  clear hsl
  iterate 11 (apply Reg.read; (· (intro t K hK; go_simp; (try go_ints); (try ((go_ite <;> go_prune); go_simp)); (try go_ints); exact hK _ rfl)); (· (intro K hK; go_simp; exact hK _ rfl)))
  clear s2 s3 s4
  refine Reg.eff ?_
  go_wp2_with (go_at_call 25; refine (known5 w3 (hgl.keep hP3 (by simp) (by simp))).mono ?_; rintro e w4 ⟨rfl, hO4⟩)
  refine ⟨hO4, ?_⟩
  iterate 2 (apply Reg.read; (· (intro t K hK; go_simp; (try go_ints); (try ((go_ite <;> go_prune); go_simp)); (try go_ints); exact hK _ rfl)); (· (intro K hK; go_simp; exact hK _ rfl)))
  refine Reg.fin ?_
  go_wp2
  go_ret
  exact ⟨rfl, hP3.trans' hO4⟩

set_option maxHeartbeats 2000000 in
theorem sealSeals_any (w : World) (A B C : Option Addr) (na ca nb cb nc cc : Nat) (key nonce b : List UInt8) (hna : na = key.length) (hnb : nb = nonce.length) (hnc : nc = b.length) (hca : na ≤ ca) (hcb : nb ≤ cb) (hcc : nc ≤ cc) (hA : RV w A (cellsOf key)) (hB : RV w B (cellsOf nonce)) (hC : RV w C (cellsOf b)) (hgl : Gl w) :
    Calls Tryd.prog 11 #[.slice A na ca, .slice B nb cb, .slice C nc cc] w fun e w' => e = .returned (.bool true) ∧ Only [] w w' := by
  have Hna := Lib.hid hna
  have Hnb := Lib.hid hnb
  clear hna hnb
  subst hnc
  by_cases g1 : 100 < na
  · have k1 : (100 : Int) < (na : Int) := by omega
    go_enter Tryd.func11, Tryd.ntmps11
    go_wp2_with (go_at_call 25; refine (known5 w hgl).mono ?_; rintro e W1 ⟨rfl, hO1⟩)
    go_ret
    exact ⟨rfl, hO1⟩
  have k1 : (na : Int) ≤ 100 := by omega
  by_cases g2 : 100 < nb
  · have k2 : (100 : Int) < (nb : Int) := by omega
    go_enter Tryd.func11, Tryd.ntmps11
    go_wp2_with (go_at_call 25; refine (known5 w hgl).mono ?_; rintro e W1 ⟨rfl, hO1⟩)
    go_ret
    exact ⟨rfl, hO1⟩
  have k2 : (nb : Int) ≤ 100 := by omega
  by_cases g3 : 300 < b.length
  · have k3 : (300 : Int) < (b.length : Int) := by omega
    go_enter Tryd.func11, Tryd.ntmps11
    go_wp2_with (go_at_call 25; refine (known5 w hgl).mono ?_; rintro e W1 ⟨rfl, hO1⟩)
    go_ret
    exact ⟨rfl, hO1⟩
  have k3 : (b.length : Int) ≤ 300 := by omega
  clear g1 g2 g3
  by_cases h1 : na = 32
  · subst h1
    by_cases h2 : nb = 16
    · subst h2
      exact sealSeals_in w A B C ca cb cc key nonce b Hna.out.symm Hnb.out.symm k3 hca hcb hcc hA hB hC hgl
    · have e1 : ((nb : Int) == 16) = false := beq_eq_false_iff_ne.2 (by omega)
      have e2 : ((nb : Int) != 16) = true := by rw [bne_iff_ne]; omega
      go_enter Tryd.func11, Tryd.ntmps11
      go_wp2_with (first
        | (at_builtin; refine wpl_append8 rfl (.tmp 24) (.tmp 25) rfl (some ⟨w.heap.size, 0, none⟩) 0 0 [] (some w.heap.size) rfl rfl (ownS_empty w _) C b.length cc b rfl rfl (hC.keep0 ((Only.refl [] w).alloc _)) (by simp; omega) ?_
           intro A1 c1 w1 G1 hown1 hO1 hG1
           have hP1 : Only [] w w1 := ((Only.refl [] w).alloc _).trans hO1 (by simp)
           rw [List.nil_append] at hown1
           have hc1 : b.length ≤ c1 := by simpa using hown1.le
           clear hO1 hG1)
        | (go_at_call 31; refine (seal_no w1 A B A1 32 ca nb cb b.length c1 (.inr (.inl h2))).mono ?_; rintro e w' ⟨rfl, rfl⟩)
        | (go_at_call 27; refine (refused_yes w1 none 0 2).mono ?_; rintro e w' ⟨rfl, rfl⟩)
        | (go_at_call 25; refine (known5 w1 (hgl.keep hP1 (by simp) (by simp))).mono ?_; rintro e W2 ⟨rfl, hO2⟩))
      go_ret
      exact ⟨rfl, hP1.trans' hO2⟩
  · have e1 : ((na : Int) == 32) = false := beq_eq_false_iff_ne.2 (by omega)
    have e2 : ((na : Int) != 32) = true := by rw [bne_iff_ne]; omega
    go_enter Tryd.func11, Tryd.ntmps11
    go_wp2_with (first
      | (at_builtin; refine wpl_append8 rfl (.tmp 24) (.tmp 25) rfl (some ⟨w.heap.size, 0, none⟩) 0 0 [] (some w.heap.size) rfl rfl (ownS_empty w _) C b.length cc b rfl rfl (hC.keep0 ((Only.refl [] w).alloc _)) (by simp; omega) ?_
         intro A1 c1 w1 G1 hown1 hO1 hG1
         have hP1 : Only [] w w1 := ((Only.refl [] w).alloc _).trans hO1 (by simp)
         rw [List.nil_append] at hown1
         have hc1 : b.length ≤ c1 := by simpa using hown1.le
         clear hO1 hG1)
      | (go_at_call 31; refine (seal_no w1 A B A1 na ca nb cb b.length c1 (.inl h1)).mono ?_; rintro e w' ⟨rfl, rfl⟩)
      | (go_at_call 27; refine (refused_yes w1 none 0 2).mono ?_; rintro e w' ⟨rfl, rfl⟩)
      | (go_at_call 25; refine (known5 w1 (hgl.keep hP1 (by simp) (by simp))).mono ?_; rintro e W2 ⟨rfl, hO2⟩))
    go_ret
    exact ⟨rfl, hP1.trans' hO2⟩
end Go.Proofs.YtglbgocldenooaaDoor
