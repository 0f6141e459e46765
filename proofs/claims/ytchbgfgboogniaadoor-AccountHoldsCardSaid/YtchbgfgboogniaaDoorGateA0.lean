/-
  WHAT CAME IN: accounts.
-/
import Derived.Test.YtchbgfgboogniaaDoorGateY
import Derived.Test.YtchbgfgboogniaaDoorGP
namespace Go.Proofs.YtchbgfgboogniaaDoor
open Go.ChangeShapes Go.WideShapes Go.ChangeAt Go.RowKit
namespace Sx
instance : Inhabited Acc.T := ⟨Acc.zero⟩
set_option maxRecDepth 100000 in
theorem came_acc : Came Tryd.prog 33 encA (fun a => a.name.length ≤ maxLen ∧ a.key.length ≤ maxLen ∧ (Lit.int .i64 a.num).wf = true) := fun H enc W fuel cs x h => by
  obtain ⟨hl, hf⟩ := came_fields Tryd.underlying33 h
  have hl' : cs.length = 5 := hl.trans (by kernel_rfl)
  obtain ⟨_, _, h0⟩ := hf 0 _ rfl
  obtain ⟨_, _, h1⟩ := hf 1 _ rfl
  obtain ⟨_, _, h2⟩ := hf 2 _ rfl
  obtain ⟨_, _, h3⟩ := hf 3 _ rfl
  obtain ⟨_, _, h4⟩ := hf 4 _ rfl
  obtain ⟨n, o0, a0⟩ := came_str Tryd.underlying9 _ _ _ _ _ _ h0
  obtain ⟨r, o1, a1⟩ := came_int Tryd.underlying31 _ _ _ _ _ _ h1
  obtain ⟨b, o2, a2⟩ := came_bytes Tryd.underlying23 Tryd.underlying5 (by kernel_rfl) _ _ _ _ _ _ h2
  obtain ⟨d, o3, a3⟩ := came_int Tryd.underlying3 _ _ _ _ _ _ h3
  obtain ⟨m, o4, a4⟩ := came_int Tryd.underlying3 _ _ _ _ _ _ h4
  exact ⟨⟨n, r, b, d, m⟩, ⟨o0, o2, o4⟩, all_parts [[strD n], [iD r], [bD b], [iD d], [iD m]] cs 0 ⟨a0, a1, a2, a3, a4, trivial⟩ (by simpa using hl')⟩
set_option maxRecDepth 100000 in
theorem came_accs : Came Tryd.prog 22 (fun l : List Acc.T => [lsD encA l]) (fun l => l.length ≤ maxLen ∧ ∀ a ∈ l, a.name.length ≤ maxLen ∧ a.key.length ≤ maxLen ∧ (Lit.int .i64 a.num).wf = true) := came_slice Tryd.underlying22 (by kernel_rfl) (by decide) came_acc
end Sx
end Go.Proofs.YtchbgfgboogniaaDoor
