/-
  THE LAW SealAgain, for all inputs.
-/
import Derived.Test.YtglbgocldenooaaDoorLawSealA
namespace Go.Proofs.YtglbgocldenooaaDoor
open Go.RowKit
set_option maxHeartbeats 1000000 in
theorem sealAgain_any (w : World) (A B C D : Option Addr) (na nb nc nd ca cb cc cd : Nat) (k n one two : List UInt8) (hna : na = k.length) (hnb : nb = n.length) (hnc : nc = one.length) (hnd : nd = two.length) (hma : na ≤ 9223372036854775807) (hmb : nb ≤ 9223372036854775807) (hcc : nc ≤ cc) (hcd : nd ≤ cd)
    (hA : RV w A (cellsOf k)) (hB : RV w B (cellsOf n)) (hC : RV w C (cellsOf one)) (hD : RV w D (cellsOf two)) (hgl : Gl w) :
    Calls Tryd.prog 14 #[.slice A na ca, .slice B nb cb, .slice C nc cc, .slice D nd cd] w fun e w' => e = .returned (.bool true) ∧ Only [] w w' := by
  by_cases g1 : 300 < nc
  · have k1 : (300 : Int) < (nc : Int) := by omega
    clear hna hnb hnc hnd
    go_enter Tryd.func14, Tryd.ntmps14
    go_wp2_with (go_at_call 25; refine (known5 w hgl).mono ?_; rintro e W1 ⟨rfl, hO1⟩)
    go_ret
    exact ⟨rfl, hO1⟩
  by_cases g2 : 300 < nd
  · have k1 : (nc : Int) ≤ 300 := by omega
    have k2 : (300 : Int) < (nd : Int) := by omega
    clear hna hnb hnc hnd
    go_enter Tryd.func14, Tryd.ntmps14
    go_wp2_with (go_at_call 25; refine (known5 w hgl).mono ?_; rintro e W1 ⟨rfl, hO1⟩)
    go_ret
    exact ⟨rfl, hO1⟩
  subst hnc hnd
  exact sealAgain_in w A B C D na ca nb cb cc cd k n one two hna hnb hma hmb (by omega) (by omega) hcc hcd hA hB hC hD hgl
end Go.Proofs.YtglbgocldenooaaDoor
