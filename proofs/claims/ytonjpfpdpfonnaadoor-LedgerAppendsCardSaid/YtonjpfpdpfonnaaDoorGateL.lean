/-
  WHAT CAME IN: entries.
-/
import Derived.Test.YtonjpfpdpfonnaaDoorGateY
import Derived.Test.YtonjpfpdpfonnaaDoorGZ
namespace Go.Proofs.YtonjpfpdpfonnaaDoor
open Go.ChangeShapes Go.WideShapes Go.ChangeAt Go.RowKit
namespace Sx
instance : Inhabited Led.Ent := ⟨⟨0, []⟩⟩
set_option maxRecDepth 100000 in
theorem came_ent : Came Tryd.prog 44 encE (fun e => e.bytes.length ≤ maxLen) := fun H enc W fuel cs x h => by
  obtain ⟨hl, hf⟩ := came_fields Tryd.underlying44 h
  have hl' : cs.length = 2 := hl.trans (by kernel_rfl)
  obtain ⟨_, _, h0⟩ := hf 0 _ rfl
  obtain ⟨_, _, h1⟩ := hf 1 _ rfl
  obtain ⟨k, -, a0⟩ := came_int Tryd.underlying3 _ _ _ _ _ _ h0
  obtain ⟨b, hb, a1⟩ := came_bytes Tryd.underlying28 Tryd.underlying5 (by kernel_rfl) _ _ _ _ _ _ h1
  exact ⟨⟨k, b⟩, hb, all_parts [[iD k], [bD b]] cs 0 ⟨a0, a1, trivial⟩ (by simpa using hl')⟩
set_option maxRecDepth 100000 in
theorem came_ents : Came Tryd.prog 22 (fun l : List Led.Ent => [lsD encE l]) (fun l => l.length ≤ maxLen ∧ ∀ e ∈ l, e.bytes.length ≤ maxLen) := came_slice Tryd.underlying22 (by kernel_rfl) (by decide) came_ent
end Sx
end Go.Proofs.YtonjpfpdpfonnaaDoor
