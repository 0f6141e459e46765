/-
  THE LAW BlakeCopies, for all inputs.
-/
import Derived.Test.YtglbgocldenooaaDoorLawCopies
namespace Go.Proofs.YtglbgocldenooaaDoor
open Go.RowKit
set_option maxHeartbeats 1000000 in
theorem blakeCopies_any (w : World) (A B C D : Option Addr) (ka kb kc kd ca cb cc cd : Nat) (key start one two : List UInt8) (h1 : ka = key.length) (h2 : kb = start.length) (h3 : kc = one.length) (h4 : kd = two.length)
    (hca : ka ≤ ca) (hcb : kb ≤ cb) (hcc : kc ≤ cc) (hcd : kd ≤ cd) (hA : RV w A (cellsOf key)) (hB : RV w B (cellsOf start)) (hC : RV w C (cellsOf one)) (hD : RV w D (cellsOf two)) (hgl : Gl w) :
    Calls Tryd.prog 7 #[.slice A ka ca, .slice B kb cb, .slice C kc cc, .slice D kd cd] w fun e w' => e = .returned (.bool true) ∧ Only [] w w' := by
  by_cases g1 : 32 < ka
  · have : (32 : Int) < (ka : Int) := by omega
    go_enter Tryd.func7, Tryd.ntmps7
    go_wp2_with (go_at_call 16; refine (known_any w hgl).mono ?_; rintro e W1 ⟨rfl, hO1⟩)
    go_ret
    exact ⟨rfl, hO1⟩
  by_cases g2 : 150 < kb
  · have k1 : (ka : Int) ≤ 32 := by omega
    have k2 : (150 : Int) < (kb : Int) := by omega
    go_enter Tryd.func7, Tryd.ntmps7
    go_wp2_with (go_at_call 16; refine (known_any w hgl).mono ?_; rintro e W1 ⟨rfl, hO1⟩)
    go_ret
    exact ⟨rfl, hO1⟩
  by_cases g3 : 150 < kc
  · have k1 : (ka : Int) ≤ 32 := by omega
    have k2 : (kb : Int) ≤ 150 := by omega
    have k3 : (150 : Int) < (kc : Int) := by omega
    go_enter Tryd.func7, Tryd.ntmps7
    go_wp2_with (go_at_call 16; refine (known_any w hgl).mono ?_; rintro e W1 ⟨rfl, hO1⟩)
    go_ret
    exact ⟨rfl, hO1⟩
  by_cases g4 : 150 < kd
  · have k1 : (ka : Int) ≤ 32 := by omega
    have k2 : (kb : Int) ≤ 150 := by omega
    have k3 : (kc : Int) ≤ 150 := by omega
    have k4 : (150 : Int) < (kd : Int) := by omega
    go_enter Tryd.func7, Tryd.ntmps7
    go_wp2_with (go_at_call 16; refine (known_any w hgl).mono ?_; rintro e W1 ⟨rfl, hO1⟩)
    go_ret
    exact ⟨rfl, hO1⟩
  subst h1 h2 h3 h4
  exact blakeCopies_in w A B C D ca cb cc cd key start one two (by omega) (by omega) (by omega) (by omega) hca hcb hcc hcd hA hB hC hD hgl
end Go.Proofs.YtglbgocldenooaaDoor
