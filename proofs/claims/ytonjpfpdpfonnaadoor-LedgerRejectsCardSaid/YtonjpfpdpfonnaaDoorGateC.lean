/-
  WHAT CAME IN: the law's Change.
-/
import Derived.Test.YtonjpfpdpfonnaaDoorGateL
namespace Go.Proofs.YtonjpfpdpfonnaaDoor
open Go.ChangeShapes Go.WideShapes Go.ChangeAt Go.RowKit
namespace Sx
set_option maxRecDepth 100000 in
theorem came_change : Came Tryd.prog 69 (fun c : Int × Int => [iD c.1, iD c.2]) (fun _ => True) := fun H enc W fuel cs x h => by
  obtain ⟨hl, hf⟩ := came_fields Tryd.underlying69 h
  have hl' : cs.length = 2 := hl.trans (by kernel_rfl)
  obtain ⟨_, _, h0⟩ := hf 0 _ rfl
  obtain ⟨_, _, h1⟩ := hf 1 _ rfl
  obtain ⟨k, -, a0⟩ := came_int Tryd.underlying3 _ _ _ _ _ _ h0
  obtain ⟨z, -, a1⟩ := came_int Tryd.underlying3 _ _ _ _ _ _ h1
  exact ⟨(k, z), trivial, all_parts [[iD k], [iD z]] cs 0 ⟨a0, a1, trivial⟩ (by simpa using hl')⟩
end Sx
end Go.Proofs.YtonjpfpdpfonnaaDoor
