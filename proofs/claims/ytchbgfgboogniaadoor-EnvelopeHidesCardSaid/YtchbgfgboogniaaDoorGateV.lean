/-
  WHAT CAME IN: envelopes.
-/
import Derived.Test.YtchbgfgboogniaaDoorGateY
import Derived.Test.YtchbgfgboogniaaDoorGH
namespace Go.Proofs.YtchbgfgboogniaaDoor
open Go.ChangeShapes Go.WideShapes Go.ChangeAt Go.RowKit
namespace Sx
theorem top_bool {P : Program} {t : TypeId} {base : Nat} {W : World} {v : Value} {H : Type} {enc : TypeId × Value → H} {x : DataW H} {p : List MemPlace} (ht : P.underlying t = some .bool) (hv : Value.okWide P W .any base t v) (_h : DataW.Trod enc P W 0 (fun _ => true) true t v x p) : ∃ b : Bool, (boolD b).R [] W v := by
  obtain ⟨b, rfl⟩ := okWide_bool ht hv
  exact ⟨b, rfl⟩
instance : Inhabited Env.T := ⟨Env.zero⟩
set_option maxRecDepth 100000 in
theorem came_env : Came Tryd.prog 44 encEn (fun e => e.acc.length ≤ maxLen ∧ e.box.length ≤ maxLen ∧ e.tag.length ≤ maxLen) := fun H enc W fuel cs x h => by
  obtain ⟨hl, hf⟩ := came_fields Tryd.underlying44 h
  have hl' : cs.length = 5 := hl.trans (by kernel_rfl)
  obtain ⟨_, _, h0⟩ := hf 0 _ rfl
  obtain ⟨_, _, h1⟩ := hf 1 _ rfl
  obtain ⟨_, _, h2⟩ := hf 2 _ rfl
  obtain ⟨_, _, h3⟩ := hf 3 _ rfl
  obtain ⟨_, _, h4⟩ := hf 4 _ rfl
  obtain ⟨n, o0, a0⟩ := came_str Tryd.underlying9 _ _ _ _ _ _ h0
  obtain ⟨r, o1, a1⟩ := came_int Tryd.underlying3 _ _ _ _ _ _ h1
  obtain ⟨d, o3, a3⟩ := came_int Tryd.underlying3 _ _ _ _ _ _ h2
  obtain ⟨b, o2, a2⟩ := came_bytes Tryd.underlying23 Tryd.underlying5 (by kernel_rfl) _ _ _ _ _ _ h3
  obtain ⟨m, o4, a4⟩ := came_bytes Tryd.underlying23 Tryd.underlying5 (by kernel_rfl) _ _ _ _ _ _ h4
  exact ⟨⟨n, r, d, b, m⟩, ⟨o0, o2, o4⟩, all_parts [[strD n], [iD r], [iD d], [bD b], [bD m]] cs 0 ⟨a0, a1, a3, a2, a4, trivial⟩ (by simpa using hl')⟩
end Sx
end Go.Proofs.YtchbgfgboogniaaDoor
