/- WIRE: the closures that read. WIRE: value, and the reader's methods. -/
import Derived.Test.YtgokpcnabgacnaaGreatDoorGZAO
namespace Go.Proofs.YtgokpcnabgacnaaGreatDoor
open Go.RowKit
namespace Sx
structure RT where
 p : List UInt8
 e : Int
def RRel (b : List UInt8) (s : Int × Nat) (r : RT) : Prop := s.1 = r.e ∧ s.2 ≤ b.length ∧ (r.e = 0 → r.p = b.drop s.2)
theorem RRel.start (b : List UInt8) : RRel b (0, 0) ⟨b, 0⟩ := ⟨rfl, Nat.zero_le _, fun _ => rfl⟩
theorem RRel.bad {b : List UInt8} {k : Nat} {E : Int} (hk : k ≤ b.length) (hE : E ≠ 0) : RRel b (E, k) ⟨[], E⟩ := ⟨rfl, hk, fun h => absurd h hE⟩
theorem RRel.good {b : List UInt8} {k m : Nat} (hk : k + m ≤ b.length) : RRel b (0, k + m) ⟨(b.drop k).drop m, 0⟩ := ⟨rfl, hk, fun _ => by rw [List.drop_drop]⟩
def stG {α β : Type} (z : β) (f : List UInt8 → Except Int (α × Nat)) (g : α → β) (r : RT) : β × RT := if r.e ≠ 0 then (z, r) else match f r.p with
 | .error e => (z, ⟨[], e⟩)
 | .ok (n, m) => (g n, ⟨r.p.drop m, 0⟩)
abbrev stU (r : RT) : Int × RT := stG 0 (rdg 9 true) (fun n : Nat => (n : Int)) r
abbrev stC (lim : Int) (r : RT) : Int × RT := stG 0 (rdC lim) (fun n : Nat => (n : Int)) r
abbrev stP (lim : Int) (r : RT) : List UInt8 × RT := stG [] (rdP lim) (fun q : List UInt8 => q) r
end Sx
end Go.Proofs.YtgokpcnabgacnaaGreatDoor
namespace Go.Proofs.YtgokpcnabgacnaaGreatDoor
open Go.RowKit
namespace Sx
end Sx
end Go.Proofs.YtgokpcnabgacnaaGreatDoor
