/-
  THE WALK of the law SealStreams.
-/
import Derived.Test.YtglbgocldenooaaDoorSealKn
namespace Go.Proofs.YtglbgocldenooaaDoor
open Go.RowKit

set_option maxHeartbeats 2000000 in
set_option maxRecDepth 100000 in
theorem sealStreams_in (w : World) (A B : Option Addr) (ca cb : Nat) (key nonce : List UInt8) (N : Nat) (hk : key.length = 32) (hn : nonce.length = 16) (hca : 32 ≤ ca) (hcb : 16 ≤ cb) (hN : (N : Int) ≤ 300) (hA : RV w A (cellsOf key)) (hB : RV w B (cellsOf nonce)) (hgl : Gl w) :
    Calls Tryd.prog 10 #[.slice A 32 ca, .slice B 16 cb, .int .i64 (N : Int)] w fun e w' => e = .returned (.bool true) ∧ Only [] w w' := by
  have Hk := Lib.hid hk
  have Hn := Lib.hid hn
  clear hk hn
  have hN2 : (N : Int) ≤ 65504 := by omega
  go_enter Tryd.func10, Tryd.ntmps10
  go_wp2_with (go_at_call 29; refine (stream_any w A B ca cb key nonce N Hk.out Hn.out hN2 hca hcb hA hB hgl).mono ?_; rintro e w1 ⟨g, r, rfl, hB1, hg, hO1⟩)
  have hR1 : RV w1 (some ⟨g, 0, none⟩) (cellsOf (Sl.stream key nonce N)) := fun _ => ⟨g, 0, rfl, hB1.lt, fun j hj => by rw [Nat.zero_add, hB1.cell, List.getElem?_append_left hj]⟩
  have s1 := fun c => str_in0 (w := w1.drew) (n := N) (c := c) hR1.drew (by simp)
  refine Reg.wp [] [.r 0, .r 1, .r 2, .r 3, .r 4, .r 5, .r 6, .r 7, .e 8, .r 9, .r 10, .r 11, .r 12, .e 13, .r 14, .r 15] (by kernel_rfl) (by kernel_rfl) (fun d _ _ _ _ h => by cases d <;> exact h) ?_
  simp only [Reg.pick, List.getD_cons_succ, List.getD_cons_zero]
  iterate 8 (apply Reg.read; (· (intro t K hK; go_simp; (try go_ints); (try ((go_ite <;> go_prune); go_simp)); (try go_ints); exact hK _ rfl)); (· (intro K hK; go_simp; exact hK _ rfl)))
  clear s1
  refine Reg.eff ?_
  go_wp2_with (go_at_call 30; refine (refStream_any w1.drew A B ca cb key nonce N Hk.out Hn.out hN2 hca hcb (hA.keep0 hO1).drew (hB.keep0 hO1).drew).mono ?_; rintro e w2 ⟨A2, c2, G2, rfl, hc2, hown2, hnew2, hO2⟩)
  refine ⟨hO2, ?_⟩
  have hP2 : Only [] w w2 := hO1.trans' (Only.undrew (w := w1) hO2)
  have s2 := fun c => str_in0 (w := w2) (n := N) (c := c) hown2.reads (by simp)
  iterate 4 (apply Reg.read; (· (intro t K hK; go_simp; (try go_ints); (try ((go_ite <;> go_prune); go_simp)); (try go_ints); exact hK _ rfl)); (· (intro K hK; go_simp; exact hK _ rfl)))
  clear s2
  refine Reg.eff ?_
  go_wp2_with (go_at_call 25; refine (known5 w2 (hgl.keep hP2 (by simp) (by simp))).mono ?_; rintro e w3 ⟨rfl, hO3⟩)
  refine ⟨hO3, ?_⟩
  iterate 2 (apply Reg.read; (· (intro t K hK; go_simp; (try go_ints); (try ((go_ite <;> go_prune); go_simp)); (try go_ints); exact hK _ rfl)); (· (intro K hK; go_simp; exact hK _ rfl)))
  refine Reg.fin ?_
  go_wp2
  go_ret
  exact ⟨rfl, hP2.trans' hO3⟩

set_option maxHeartbeats 2000000 in
theorem sealStreams_any (w : World) (A B : Option Addr) (na ca nb cb : Nat) (key nonce : List UInt8) (z : Int) (hna : na = key.length) (hnb : nb = nonce.length) (hca : na ≤ ca) (hcb : nb ≤ cb) (hA : RV w A (cellsOf key)) (hB : RV w B (cellsOf nonce)) (hgl : Gl w) :
    Calls Tryd.prog 10 #[.slice A na ca, .slice B nb cb, .int .i64 z] w fun e w' => e = .returned (.bool true) ∧ Only [] w w' := by
  have Hna := Lib.hid hna
  have Hnb := Lib.hid hnb
  clear hna hnb
  by_cases g1 : 100 < na
  · have k1 : (100 : Int) < (na : Int) := by omega
    go_enter Tryd.func10, Tryd.ntmps10
    go_wp2_with (go_at_call 25; refine (known5 w hgl).mono ?_; rintro e W1 ⟨rfl, hO1⟩)
    go_ret
    exact ⟨rfl, hO1⟩
  have k1 : (na : Int) ≤ 100 := by omega
  by_cases g2 : 100 < nb
  · have k2 : (100 : Int) < (nb : Int) := by omega
    go_enter Tryd.func10, Tryd.ntmps10
    go_wp2_with (go_at_call 25; refine (known5 w hgl).mono ?_; rintro e W1 ⟨rfl, hO1⟩)
    go_ret
    exact ⟨rfl, hO1⟩
  have k2 : (nb : Int) ≤ 100 := by omega
  clear g1 g2
  by_cases g3 : 300 < z ∧ z ≤ 65504
  · obtain ⟨g3, g4⟩ := g3
    go_enter Tryd.func10, Tryd.ntmps10
    go_wp2_with (go_at_call 25; refine (known5 w hgl).mono ?_; rintro e W1 ⟨rfl, hO1⟩)
    go_ret
    exact ⟨rfl, hO1⟩
  have hz : z ≤ 300 ∨ 65504 < z := by omega
  clear g3
  by_cases h1 : na = 32
  · subst h1
    by_cases h2 : nb = 16
    · subst h2
      rcases hz with hz | hz
      · by_cases h0 : z < 0
        · go_enter Tryd.func10, Tryd.ntmps10
          go_wp2_with (first
            | (go_at_call 29; refine (stream_no w A B 32 ca 16 cb z (.inr (.inr (.inl h0)))).mono ?_; rintro e w' ⟨rfl, rfl⟩)
            | (go_at_call 27; refine (refused_yes w none 0 2).mono ?_; rintro e w' ⟨rfl, rfl⟩)
            | (go_at_call 25; refine (known5 w hgl).mono ?_; rintro e W1 ⟨rfl, hO1⟩))
          go_ret
          exact ⟨rfl, hO1⟩
        · obtain ⟨N, rfl⟩ := Int.eq_ofNat_of_zero_le (show 0 ≤ z by omega)
          exact sealStreams_in w A B ca cb key nonce N Hna.out.symm Hnb.out.symm hca hcb (by omega) hA hB hgl
      · have hz3 : 300 < z := by omega
        have hz0 : 0 ≤ z := by omega
        go_enter Tryd.func10, Tryd.ntmps10
        go_wp2_with (first
          | (go_at_call 29; refine (stream_no w A B 32 ca 16 cb z (.inr (.inr (.inr hz)))).mono ?_; rintro e w' ⟨rfl, rfl⟩)
          | (go_at_call 27; refine (refused_yes w none 0 2).mono ?_; rintro e w' ⟨rfl, rfl⟩)
          | (go_at_call 25; refine (known5 w hgl).mono ?_; rintro e W1 ⟨rfl, hO1⟩))
        go_ret
        exact ⟨rfl, hO1⟩
    · have e1 : ((nb : Int) == 16) = false := beq_eq_false_iff_ne.2 (by omega)
      have e2 : ((nb : Int) != 16) = true := by rw [bne_iff_ne]; omega
      rcases hz with hz | hz
      · go_enter Tryd.func10, Tryd.ntmps10
        go_wp2_with (first
          | (go_at_call 29; refine (stream_no w A B 32 ca nb cb z (.inr (.inl h2))).mono ?_; rintro e w' ⟨rfl, rfl⟩)
          | (go_at_call 27; refine (refused_yes w none 0 2).mono ?_; rintro e w' ⟨rfl, rfl⟩)
          | (go_at_call 25; refine (known5 w hgl).mono ?_; rintro e W1 ⟨rfl, hO1⟩))
        go_ret
        exact ⟨rfl, hO1⟩
      · have hz3 : 300 < z := by omega
        go_enter Tryd.func10, Tryd.ntmps10
        go_wp2_with (first
          | (go_at_call 29; refine (stream_no w A B 32 ca nb cb z (.inr (.inl h2))).mono ?_; rintro e w' ⟨rfl, rfl⟩)
          | (go_at_call 27; refine (refused_yes w none 0 2).mono ?_; rintro e w' ⟨rfl, rfl⟩)
          | (go_at_call 25; refine (known5 w hgl).mono ?_; rintro e W1 ⟨rfl, hO1⟩))
        go_ret
        exact ⟨rfl, hO1⟩
  · have e1 : ((na : Int) == 32) = false := beq_eq_false_iff_ne.2 (by omega)
    have e2 : ((na : Int) != 32) = true := by rw [bne_iff_ne]; omega
    rcases hz with hz | hz
    · go_enter Tryd.func10, Tryd.ntmps10
      go_wp2_with (first
        | (go_at_call 29; refine (stream_no w A B na ca nb cb z (.inl h1)).mono ?_; rintro e w' ⟨rfl, rfl⟩)
        | (go_at_call 27; refine (refused_yes w none 0 2).mono ?_; rintro e w' ⟨rfl, rfl⟩)
        | (go_at_call 25; refine (known5 w hgl).mono ?_; rintro e W1 ⟨rfl, hO1⟩))
      go_ret
      exact ⟨rfl, hO1⟩
    · have hz3 : 300 < z := by omega
      go_enter Tryd.func10, Tryd.ntmps10
      go_wp2_with (first
        | (go_at_call 29; refine (stream_no w A B na ca nb cb z (.inl h1)).mono ?_; rintro e w' ⟨rfl, rfl⟩)
        | (go_at_call 27; refine (refused_yes w none 0 2).mono ?_; rintro e w' ⟨rfl, rfl⟩)
        | (go_at_call 25; refine (known5 w hgl).mono ?_; rintro e W1 ⟨rfl, hO1⟩))
      go_ret
      exact ⟨rfl, hO1⟩
end Go.Proofs.YtglbgocldenooaaDoor
