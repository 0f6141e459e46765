/-
  LEDGERS: next, and what is deferred.
-/
import Derived.Test.YtonjpfpdpfonnaaDoorL17
namespace Go.Proofs.YtonjpfpdpfonnaaDoor
open Go.RowKit
namespace Sx
section
variable {P : Program} {Γ : Cx} {σ : St} {S : List Nat} {dst : Option Tmp} {ty : TypeId} {pos : String} {af : Array Edge} {gd : Option (Nat × Bool)} {d d' : D} {Q : Exit → Act → World → Prop} {a : Act} {w : World}
end
end Sx
end Go.Proofs.YtonjpfpdpfonnaaDoor
