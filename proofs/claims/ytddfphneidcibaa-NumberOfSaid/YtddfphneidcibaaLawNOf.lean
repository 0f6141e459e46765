/-
  THE WALK of the law NumberOf.
-/
import Derived.Test.YtddfphneidcibaaK2
namespace Go.Proofs.Ytddfphneidcibaa
open Go.RowKit

set_option maxHeartbeats 4000000 in
set_option maxRecDepth 100000 in
theorem numberOf_any (w : World) (z : Int) (h1 : -9223372036854775808 ≤ z) (h2 : z ≤ 9223372036854775807) :
    Calls Try.prog 3 #[.int .i64 z] w fun e w' => e = .returned (.bool true) ∧ Only [] w w' := by
  have Hz := Lib.hid (And.intro h1 h2)
  have hzb : z.natAbs < big512 := Nat.lt_of_le_of_lt (show z.natAbs ≤ 9223372036854775808 by omega) (by unfold big512; decide +kernel)
  have Hzb := Lib.hid hzb
  clear h1 h2 hzb
  go_enter Try.func3, Try.ntmps3
  go_wp2_with fail
  refine (of_any w z Hz.out.1 Hz.out.2).mono ?_
  rintro e w1 ⟨s1, A1, n1, c1, rfl, hI1, -, hO1⟩
  obtain ⟨S1, hO2⟩ := slot1 w1 hI1
  have hP2 := hO1.trans' hO2
  obtain ⟨K0, K1, -⟩ := S1.cells
  go_wp2_with fail
  clear K0 K1
  revert S1 hP2
  generalize w1.alloc (.cells #[.bool s1, .slice A1 n1 c1] 24) = W1
  generalize w1.heap.size = g1
  intro S1 hP2
  clear hI1 hO1 hO2
  refine (value_any W1 s1 A1 n1 c1 z Hzb.out S1.i).mono ?_
  rintro e w2 ⟨v, er, rfl, hv, hO3⟩
  obtain ⟨rfl, rfl⟩ : v = z ∧ er = 0 := by
    rcases hv.out with ⟨_, _, h, h'⟩ | ⟨h, _, _⟩
    · exact ⟨h, h'⟩
    · have := Hz.out; omega
  have S2 := S1.keep hO3
  have hP3 := hP2.trans' hO3
  clear hv S1 hP2 hO3
  obtain ⟨k0, k1, k2⟩ := S2.cells
  go_wp2
  refine Reg.wp [] [.r 0, .r 1, .e 2, .e 3, .r 4, .r 5, .r 6, .r 7, .r 8, .r 9, .r 10, .r 11, .r 12, .r 13, .e 14, .r 15, .r 16] (by kernel_rfl) (by kernel_rfl) (fun d _ _ _ _ h => by cases d <;> exact h) ?_
  simp only [Reg.pick, List.getD_cons_succ, List.getD_cons_zero]
  iterate 2 (apply Reg.read; (· (intro t K hK; go_simp; (try go_ints); (try ((go_ite <;> go_prune); go_simp)); (try go_ints); exact hK _ rfl)); (· (intro K hK; go_simp; exact hK _ rfl)))
  clear k0 k1 k2
  refine Reg.eff ?_
  go_wp2_with (go_at_call 21; refine (ofR_any w2.drew v Hz.out.1 Hz.out.2).mono ?_; rintro e wa ⟨sa, Aa, na, ca, rfl, hIa, -, hOa⟩)
  refine ⟨hOa, ?_⟩
  refine Reg.eff ?_
  go_wp2_with (go_at_call 20; refine (same_any wa _ sa _ Aa _ _ na ca v v (S2.drew.keep hOa).i hIa).mono ?_; rintro e wb ⟨rfl, hOb⟩)
  refine ⟨hOb, ?_⟩
  iterate 10 (apply Reg.read; (· (intro t K hK; go_simp; (try go_ints); (try ((go_ite <;> go_prune); go_simp)); (try go_ints); exact hK _ rfl)); (· (intro K hK; go_simp; exact hK _ rfl)))
  refine Reg.eff ?_
  go_wp2_with (go_at_call 22; refine (known1 (wb)).mono ?_; rintro e wk ⟨rfl, hOk⟩)
  refine ⟨hOk, ?_⟩
  iterate 2 (apply Reg.read; (· (intro t K hK; go_simp; (try go_ints); (try ((go_ite <;> go_prune); go_simp)); (try go_ints); exact hK _ rfl)); (· (intro K hK; go_simp; exact hK _ rfl)))
  refine Reg.fin ?_
  go_wp2
  go_ret
  exact ⟨rfl, hP3.trans' (Only.undrew (w := w2) ((hOa.trans' hOb).trans' hOk))⟩
end Go.Proofs.Ytddfphneidcibaa
