/-
  WHAT CAME IN: the law's calls.
-/
import Derived.Test.YtgcnpnbgjejkaaaGateA0
import Derived.Test.YtgcnpnbgjejkaaaGQ
namespace Go.Proofs.Ytgcnpnbgjejkaaa
open Go.ChangeShapes Go.WideShapes Go.ChangeAt Go.RowKit
namespace Sx
instance : Inhabited Act.T := ⟨⟨0, [], Acc.zero⟩⟩
set_option maxRecDepth 100000 in
theorem came_act : Came Try.prog 43 encAct (fun _ => True) := fun H enc W fuel cs x h => by
  obtain ⟨hl, hf⟩ := came_fields Try.underlying43 h
  have hl' : cs.length = 7 := hl.trans (by kernel_rfl)
  obtain ⟨_, _, h0⟩ := hf 0 _ rfl
  obtain ⟨_, _, h1⟩ := hf 1 _ rfl
  obtain ⟨_, _, h2⟩ := hf 2 _ rfl
  obtain ⟨k, o0, a0⟩ := came_int Try.underlying3 _ _ _ _ _ _ h0
  obtain ⟨n, o1, a1⟩ := came_str Try.underlying9 _ _ _ _ _ _ h1
  obtain ⟨a, o2, a2⟩ := came_acc _ _ _ _ _ _ h2
  exact ⟨⟨k, n, a⟩, trivial, all_parts [[iD k], [strD n], encA a] cs 0 ⟨a0, a1, a2, trivial⟩ (by simpa [encA] using hl')⟩
set_option maxRecDepth 100000 in
theorem came_acts : Came Try.prog 39 (fun l : List Act.T => [lsD encAct l]) (fun l => l.length ≤ maxLen ∧ ∀ e ∈ l, True) := came_slice Try.underlying39 (by kernel_rfl) (by decide) came_act
end Sx
end Go.Proofs.Ytgcnpnbgjejkaaa
