/-
  THE WALKS of the laws SealDerives and SealStreams.
-/
import Derived.Test.YtglbgocldenooaaDoorSealKn
namespace Go.Proofs.YtglbgocldenooaaDoor
open Go.RowKit

set_option maxHeartbeats 2000000 in
set_option maxRecDepth 100000 in
theorem sealDerives_any (w : World) (A : Option Addr) (n c : Nat) (key : List UInt8) (s : ByteArray) (hn : n = key.length) (hc : n ≤ c) (hA : RV w A (cellsOf key)) (hgl : Gl w) :
    Calls Tryd.prog 9 #[.slice A n c, .string s] w fun e w' => e = .returned (.bool true) ∧ Only [] w w' := by
  have Hn := Lib.hid hn
  clear hn
  obtain ⟨m, hm⟩ : ∃ m, m = s.size := ⟨_, rfl⟩
  by_cases g1 : 100 < n
  · have k1 : (100 : Int) < (n : Int) := by omega
    clear hm
    go_enter Tryd.func9, Tryd.ntmps9
    go_wp2_with (go_at_call 25; refine (known5 w hgl).mono ?_; rintro e W1 ⟨rfl, hO1⟩)
    go_ret
    exact ⟨rfl, hO1⟩
  have k1 : (n : Int) ≤ 100 := by omega
  by_cases g2 : 100 < s.size
  · have k2 : (100 : Int) < (s.size : Int) := by omega
    clear hm
    go_enter Tryd.func9, Tryd.ntmps9
    go_wp2_with (go_at_call 25; refine (known5 w hgl).mono ?_; rintro e W1 ⟨rfl, hO1⟩)
    go_ret
    exact ⟨rfl, hO1⟩
  have k2 : (s.size : Int) ≤ 100 := by omega
  clear hm g1 g2
  by_cases h1 : n = 32
  · subst h1
    by_cases h2 : s.size < 1
    · have h2I : (s.size : Int) < 1 := by omega
      go_enter Tryd.func9, Tryd.ntmps9
      go_wp2_with (first
        | (go_at_call 26; refine (derive_no w A 32 c s (.inr (.inl h2I))).mono ?_; rintro e w' ⟨rfl, rfl⟩)
        | (go_at_call 27; refine (refused_yes w none 0 2).mono ?_; rintro e w' ⟨rfl, rfl⟩)
        | (go_at_call 25; refine (known5 w hgl).mono ?_; rintro e W1 ⟨rfl, hO1⟩))
      go_ret
      exact ⟨rfl, hO1⟩
    by_cases h3 : 64 < s.size
    · have h2I : (1 : Int) ≤ (s.size : Int) := by omega
      have h3I : (64 : Int) < (s.size : Int) := by omega
      go_enter Tryd.func9, Tryd.ntmps9
      go_wp2_with (first
        | (go_at_call 26; refine (derive_no w A 32 c s (.inr (.inr h3I))).mono ?_; rintro e w' ⟨rfl, rfl⟩)
        | (go_at_call 27; refine (refused_yes w none 0 2).mono ?_; rintro e w' ⟨rfl, rfl⟩)
        | (go_at_call 25; refine (known5 w hgl).mono ?_; rintro e W1 ⟨rfl, hO1⟩))
      go_ret
      exact ⟨rfl, hO1⟩
    have h2I : (1 : Int) ≤ (s.size : Int) := by omega
    have h3I : (s.size : Int) ≤ 64 := by omega
    have hll : s.data.toList.length ≤ 1000 := by
      have : s.data.toList.length = s.size := by rw [Array.length_toList]; rfl
      omega
    clear h2 h3
    go_enter Tryd.func9, Tryd.ntmps9
    go_wp2_with (go_at_call 26; refine (derive_any w A c key s s.data.toList Hn.out.symm rfl h2I h3I hc hA hgl).mono ?_; rintro e w1 ⟨g, rfl, hB1, hg, hO1⟩)
    have s1 := fun c => str_in0 (w := w1.drew) (n := 32) (c := c) hB1.rv.drew (by simp)
    refine Reg.wp [] [.r 0, .r 1, .r 2, .r 3, .r 4, .r 5, .r 6, .e 7, .r 8, .r 9, .r 10, .r 11, .e 12, .r 13, .r 14] (by kernel_rfl) (by kernel_rfl) (fun d _ _ _ _ h => by cases d <;> exact h) ?_
    simp only [Reg.pick, List.getD_cons_succ, List.getD_cons_zero]
    iterate 7 (apply Reg.read; (· (intro t K hK; go_simp; (try go_ints); (try ((go_ite <;> go_prune); go_simp)); (try go_ints); exact hK _ rfl)); (· (intro K hK; go_simp; exact hK _ rfl)))
    clear s1
    refine Reg.eff ?_
    go_wp2_with (go_at_call 28; refine (refDerive_any w1.drew A 32 c key s s.data.toList Hn.out (by rw [← Hn.out]; decide) rfl hll hc (hA.keep0 hO1).drew).mono ?_; rintro e w2 ⟨A2, c2, G2, rfl, hown2, hnew2, hO2⟩)
    refine ⟨hO2, ?_⟩
    have hP2 : Only [] w w2 := hO1.trans' (Only.undrew (w := w1) hO2)
    have s2 := fun c => str_in0 (w := w2) (n := 32) (c := c) hown2.reads (by simp)
    iterate 4 (apply Reg.read; (· (intro t K hK; go_simp; (try go_ints); (try ((go_ite <;> go_prune); go_simp)); (try go_ints); exact hK _ rfl)); (· (intro K hK; go_simp; exact hK _ rfl)))
    clear s2
    refine Reg.eff ?_
    go_wp2_with (go_at_call 25; refine (known5 w2 (hgl.keep hP2 (by simp) (by simp))).mono ?_; rintro e w3 ⟨rfl, hO3⟩)
    refine ⟨hO3, ?_⟩
    iterate 2 (apply Reg.read; (· (intro t K hK; go_simp; (try go_ints); (try ((go_ite <;> go_prune); go_simp)); (try go_ints); exact hK _ rfl)); (· (intro K hK; go_simp; exact hK _ rfl)))
    refine Reg.fin ?_
    go_wp2
    go_ret
    exact ⟨rfl, hP2.trans' hO3⟩
  · have e1 : ((n : Int) == 32) = false := beq_eq_false_iff_ne.2 (by omega)
    have e2 : ((n : Int) != 32) = true := by rw [bne_iff_ne]; omega
    go_enter Tryd.func9, Tryd.ntmps9
    go_wp2_with (first
      | (go_at_call 26; refine (derive_no w A n c s (.inl h1)).mono ?_; rintro e w' ⟨rfl, rfl⟩)
      | (go_at_call 27; refine (refused_yes w none 0 2).mono ?_; rintro e w' ⟨rfl, rfl⟩)
      | (go_at_call 25; refine (known5 w hgl).mono ?_; rintro e W1 ⟨rfl, hO1⟩))
    go_ret
    exact ⟨rfl, hO1⟩
end Go.Proofs.YtglbgocldenooaaDoor
