/-
  MORE STEPS of the walk of a drawing region: reads whose value a law of their own gives; whole arrays.
-/
import Derived.Test.YtddfphneidcibaaReg
import Derived.Deep.MidRow
namespace Go.Proofs.Ytddfphneidcibaa
open Go.RowKit
namespace Reg
variable {P : Program} {ops : Array Oper} {Q : Exit → Act → World → Prop} {S : List Nat}
/-- A read whose value is known by a law of its own. -/
theorem readY {a : Act} {w : World} {o : Oper} {rest : List (Bool × Oper)} {v : Value} (hy : YieldsIf P ops (fun w' => Only S w w') o v a)
    (b : Act) (ha : ∀ K : Act → Prop, (∀ u, u = b → K u) → K (a.put o.dst v)) (hn : wpOrd P ops Q S rest b w) : wpOrd P ops Q S ((false, o) :: rest) a w :=
  ⟨v, fun _ hw => hy.imp (fun ⟨h1, h2⟩ => ⟨h1, .inl (h2 _ hw)⟩) id, ha (fun x => wpOrd P ops Q S rest x w) (fun u hu => by rw [hu]; exact hn)⟩
/-- A whole array (or struct) read out of a block of its own. -/
theorem load {a : Act} {w : World} {o : Oper} {rest : List (Bool × Oper)} (ty : TypeId) (x : Operand) (g : Nat) (cs : List Value) {t : TypeId} (hB : Blk w g t cs) (hg : g ∉ S) (hw : Region.wanted o (yielded ops a.tmps) = true) (ho : o.op = .load ty x)
    (hx : a.eval x = .pointer (some ⟨g, 0, none⟩)) {d : TypeDesc} (hu : P.underlying ty = some d) (hd : d.isRow = true) (hi : (P.info? ty).map (·.size) = some cs.length)
    (b : Act) (ha : ∀ K : Act → Prop, (∀ u, u = b → K u) → K (a.put o.dst (.agg cs.toArray))) (hn : wpOrd P ops Q S rest b w) : wpOrd P ops Q S ((false, o) :: rest) a w :=
  readY (yieldsIf_load_mid hw ty x ho g 0 hx cs d (fun w' hw' => fun j v hv => by rw [Nat.zero_add]; exact ((hB.keep hw' hg).cell j).trans hv) hu hd hi) b ha hn
end Reg
end Go.Proofs.Ytddfphneidcibaa
