/-
  THE LAW BlakeParts, for all inputs.
-/
import Derived.Test.YtglbgocldenooaaDoorLawParts
namespace Go.Proofs.YtglbgocldenooaaDoor
open Go.RowKit
set_option maxHeartbeats 1000000 in
theorem blakeParts_any (w : World) (A B : Option Addr) (n c m d : Nat) (key : List UInt8) (ps : List (List UInt8)) (hn : n = key.length) (hm : m = ps.length) (hc : n ≤ c) (hd : m ≤ d) (hA : RV w A (cellsOf key)) (hB : RP w B ps) (hgl : Gl w) :
    Calls Tryd.prog 6 #[.slice A n c, .slice B m d] w fun e w' => e = .returned (.bool true) ∧ Only [] w w' := by
  by_cases g1 : 32 < n
  · have : (32 : Int) < (n : Int) := by omega
    go_enter Tryd.func6, Tryd.ntmps6
    go_wp2_with (go_at_call 16; refine (known_any w hgl).mono ?_; rintro e W1 ⟨rfl, hO1⟩)
    go_ret
    exact ⟨rfl, hO1⟩
  by_cases g2 : 10 < m
  · have k1 : (n : Int) ≤ 32 := by omega
    have k2 : (10 : Int) < (m : Int) := by omega
    go_enter Tryd.func6, Tryd.ntmps6
    go_wp2_with (go_at_call 16; refine (known_any w hgl).mono ?_; rintro e W1 ⟨rfl, hO1⟩)
    go_ret
    exact ⟨rfl, hO1⟩
  subst hn hm
  exact blakeParts_in w A B c d key ps (by omega) (by omega) hc hd hA hB hgl
end Go.Proofs.YtglbgocldenooaaDoor
