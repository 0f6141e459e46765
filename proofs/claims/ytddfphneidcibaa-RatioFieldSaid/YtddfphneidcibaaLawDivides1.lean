/-
  THE LAW NumberDivides.
-/
import Derived.Test.YtddfphneidcibaaGO
import Derived.Test.YtddfphneidcibaaLawPowers1
namespace Go.Proofs.Ytddfphneidcibaa
open Go.RowKit
open Nm (W32)
namespace Sx
theorem con_sameT {x y : Int} (h : x = y) : Con Try.prog 20 [intD x, intD y] (boolD true) := con_same.mono ⟨Le.refl _, Le.refl _, trivial⟩ (Le.is (by rw [decide_eq_true h]))
end Sx
end Go.Proofs.Ytddfphneidcibaa
