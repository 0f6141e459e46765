/-
  THE WALKS of the laws SealOpens and SealSeals.
-/
import Derived.Test.YtglbgocldenooaaDoorSealKn
namespace Go.Proofs.YtglbgocldenooaaDoor
open Go.RowKit

set_option maxHeartbeats 2000000 in
set_option maxRecDepth 100000 in
theorem sealOpens_in (w : World) (A B : Option Addr) (ca cb : Nat) (key b : List UInt8) (hk : key.length = 32) (hb : (b.length : Int) ≤ 300) (hca : 32 ≤ ca) (hcb : b.length ≤ cb) (hA : RV w A (cellsOf key)) (hB : RV w B (cellsOf b)) (hgl : Gl w) :
    Calls Tryd.prog 12 #[.slice A 32 ca, .slice B b.length cb] w fun e w' => e = .returned (.bool true) ∧ Only [] w w' := by
  have Hk := Lib.hid hk
  clear hk
  have o1 := open_any w A B ca b.length cb key b rfl Hk.out hca hcb hA hB hgl
  have o2 := fun w1 (h : Only [] w w1) => refOpen_any w1 A B ca b.length cb key b rfl Hk.out hca hcb (hA.keep0 h) (hB.keep0 h)
  revert o1 o2
  generalize (Sl.openB key b).1 = bs
  generalize (Sl.openB key b).2 = er
  intro o1 o2
  have O1 := Lib.hid o1
  have O2 := Lib.hid o2
  clear o1 o2
  go_enter Tryd.func12, Tryd.ntmps12
  go_wp2_with (first
    | (go_at_call 33; refine (O1.out).mono ?_; rintro e w1 ⟨A1, c1, rfl, hc1, hR1, hA1, hO1⟩)
    | (go_at_call 34; refine (O2.out w1 hO1).mono ?_; rintro e w2 ⟨A2, c2, rfl, hc2, hR2, hA2, hO2⟩; have hR1' := hR1.keep0 hO2)
    | (refine wpl_wanted (by rfl) ?_; refine wpl_str rfl 22 9 5 (.tmp 43) rfl Tryd.underlying22 Tryd.underlying5 Tryd.underlying9 A1 bs.length c1 bs rfl rfl hR1' ?_)
    | (refine wpl_wanted (by rfl) ?_; refine wpl_str rfl 22 9 5 (.tmp 45) rfl Tryd.underlying22 Tryd.underlying5 Tryd.underlying9 A2 bs.length c2 bs rfl rfl hR2 ?_)
    | (go_at_call 25; refine (known5 w2 (hgl.keep (hO1.trans' hO2) (by simp) (by simp))).mono ?_; rintro e w3 ⟨rfl, hO3⟩))
  go_ret
  exact ⟨rfl, (hO1.trans' hO2).trans' hO3⟩

set_option maxHeartbeats 2000000 in
theorem sealOpens_any (w : World) (A B : Option Addr) (na ca nb cb : Nat) (key b : List UInt8) (hna : na = key.length) (hnb : nb = b.length) (hca : na ≤ ca) (hcb : nb ≤ cb) (hA : RV w A (cellsOf key)) (hB : RV w B (cellsOf b)) (hgl : Gl w) :
    Calls Tryd.prog 12 #[.slice A na ca, .slice B nb cb] w fun e w' => e = .returned (.bool true) ∧ Only [] w w' := by
  by_cases g1 : 100 < na
  · have k1 : (100 : Int) < (na : Int) := by omega
    clear hna hnb
    go_enter Tryd.func12, Tryd.ntmps12
    go_wp2_with (go_at_call 25; refine (known5 w hgl).mono ?_; rintro e W1 ⟨rfl, hO1⟩)
    go_ret
    exact ⟨rfl, hO1⟩
  have k1 : (na : Int) ≤ 100 := by omega
  by_cases g2 : 300 < nb
  · have k2 : (300 : Int) < (nb : Int) := by omega
    clear hna hnb
    go_enter Tryd.func12, Tryd.ntmps12
    go_wp2_with (go_at_call 25; refine (known5 w hgl).mono ?_; rintro e W1 ⟨rfl, hO1⟩)
    go_ret
    exact ⟨rfl, hO1⟩
  have k2 : (nb : Int) ≤ 300 := by omega
  by_cases h1 : na = 32
  · subst h1 hnb
    exact sealOpens_in w A B ca cb key b hna.symm k2 hca hcb hA hB hgl
  · have e1 : ((na : Int) == 32) = false := beq_eq_false_iff_ne.2 (by omega)
    have e2 : ((na : Int) != 32) = true := by rw [bne_iff_ne]; omega
    clear hna hnb
    go_enter Tryd.func12, Tryd.ntmps12
    go_wp2_with (first
      | (go_at_call 33; refine (open_arg w A na ca _ h1).mono ?_; rintro e w1 ⟨A1, c1, rfl, hc1, hR1, hA1, hO1⟩)
      | (go_at_call 27; refine (refused_yes w1 A1 c1 2).mono ?_; rintro e w' ⟨rfl, rfl⟩)
      | (go_at_call 25; refine (known5 w1 (hgl.keep hO1 (by simp) (by simp))).mono ?_; rintro e W2 ⟨rfl, hO2⟩))
    go_ret
    exact ⟨rfl, hO1.trans' hO2⟩
end Go.Proofs.YtglbgocldenooaaDoor
