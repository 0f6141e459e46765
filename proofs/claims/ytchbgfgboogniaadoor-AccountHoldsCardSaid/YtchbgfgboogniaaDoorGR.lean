/-
  Bytes read.
  The hash of bytes with a key as a contract.
-/
import Derived.Test.YtchbgfgboogniaaDoorGT
import Derived.Test.YtchbgfgboogniaaDoorGD
import Derived.Test.YtchbgfgboogniaaDoorGF
namespace Go.Proofs.YtchbgfgboogniaaDoor
open Go.RowKit
namespace Sx
section
variable {w : World}
theorem rb_of_rv {A : Option Addr} {b : List UInt8} (h : RV w A (cellsOf b)) : RB w A b := fun h0 => by
  obtain ⟨g, o, e, hg, hc⟩ := h (by rw [cellsOf_length]; exact h0)
  refine ⟨g, o, e, hg, fun j hj => ?_⟩
  rw [hc j (by rw [cellsOf_length]; exact hj)]
  simp [cellsOf, List.getElem?_eq_getElem hj, List.getD_eq_getElem?_getD]
end
end Sx
end Go.Proofs.YtchbgfgboogniaaDoor
namespace Go.Proofs.YtchbgfgboogniaaDoor
open Go.RowKit
namespace Sx
theorem con_keyed (key b : List UInt8) (hk1 : 1 ≤ key.length) (hk : key.length ≤ 32) (hb : b.length ≤ 2305843009213693952) : Con Tryd.prog 59 [bD key, bD b] (tupD [gD (Bl.hash key b), iD 0]) := by
  refine ⟨enters_of Tryd.func59 (by kernel_rfl) rfl, fun L w vs hL hG ha => ?_⟩
  obtain ⟨u, v, rfl, hu, hv⟩ := all2 ha
  obtain ⟨A, c, rfl, hc, hr⟩ := b_out hu
  obtain ⟨B, d, rfl, hd, hs⟩ := b_out hv
  refine (keyed_any w A c key hk1 hk hc (rb_of_rv hr) B d b hd (rb_of_rv hs) hb hG).mono ?_
  rintro r w' ⟨rfl, ho⟩
  exact ⟨_, rfl, ⟨_, rfl, rfl, rfl, trivial⟩, ho⟩
end Sx
end Go.Proofs.YtchbgfgboogniaaDoor
