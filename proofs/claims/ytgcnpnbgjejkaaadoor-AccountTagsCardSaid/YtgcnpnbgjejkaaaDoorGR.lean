/-
  Bytes read.
  The hash of bytes with a key as a contract.
-/
import Derived.Test.YtgcnpnbgjejkaaaDoorGT
import Derived.Test.YtgcnpnbgjejkaaaDoorGD
import Derived.Test.YtgcnpnbgjejkaaaDoorGF
namespace Go.Proofs.YtgcnpnbgjejkaaaDoor
open Go.RowKit
namespace Sx
section
variable {w : World}
theorem rb_of_rv {A : Option Addr} {b : List UInt8} (h : RV w A (cellsOf b)) : RB w A b := fun h0 => by
  obtain ⟨g, o, e, hg, hc⟩ := h (by rw [cellsOf_length]; exact h0)
  refine ⟨g, o, e, hg, fun j hj => ?_⟩
  rw [hc j (by rw [cellsOf_length]; exact hj)]
  simp [cellsOf, List.getElem?_eq_getElem hj, List.getD_eq_getElem?_getD]
end
end Sx
end Go.Proofs.YtgcnpnbgjejkaaaDoor
namespace Go.Proofs.YtgcnpnbgjejkaaaDoor
open Go.RowKit
namespace Sx
theorem con_keyed (key b : List UInt8) (hk1 : 1 ≤ key.length) (hk : key.length ≤ 32) (hb : b.length ≤ 2305843009213693952) : Con Tryd.prog 27 [bD key, bD b] (tupD [gD (Bl.hash key b), iD 0]) := by
  refine ⟨enters_of Tryd.func27 (by kernel_rfl) rfl, fun L w vs hL hG ha => ?_⟩
  obtain ⟨u, v, rfl, hu, hv⟩ := all2 ha
  obtain ⟨A, c, rfl, hc, hr⟩ := b_out hu
  obtain ⟨B, d, rfl, hd, hs⟩ := b_out hv
  refine (keyed_any w A c key hk1 hk hc (rb_of_rv hr) B d b hd (rb_of_rv hs) hb hG).mono ?_
  rintro r w' ⟨rfl, ho⟩
  exact ⟨_, rfl, ⟨_, rfl, rfl, rfl, trivial⟩, ho⟩
theorem con_hashK (key b : List UInt8) (hk : key.length ≤ 32) (hb : b.length ≤ 1099511627) : Con Tryd.prog 53 [bD key, bD b] (bD (Bl.hash key b)) := by
  refine ⟨enters_of Tryd.func53 (by kernel_rfl) rfl, fun L w vs hL hG ha => ?_⟩
  obtain ⟨u, v, rfl, hu, hv⟩ := all2 ha
  obtain ⟨A0, c0, rfl, hc0, hr0⟩ := b_out hu
  obtain ⟨A, c, rfl, hc, hr⟩ := b_out hv
  refine (hash_ref w A0 A c0 c key b hk hr0 hr hc0 hc hb).mono ?_
  rintro r w' ⟨A', c', G, rfl, hO, hN, ho⟩
  refine ⟨_, rfl, ⟨A', c', by rw [cellsOf_length, Bl.hash_length], ?_, hO.reads, fun _ p hp hm => ?_⟩, ho⟩
  · rcases hO with ⟨_, _, h, _⟩ | ⟨g, r, _, _, _, h, _⟩
    · have := congrArg List.length h; simp at this
    · omega
  · rcases hO with ⟨h, _⟩ | ⟨g, r, h1, h2, _⟩
    · rw [h] at hp; cases hp
    · rw [h1] at hp
      injection hp with hp
      subst hp
      have := hN g h2
      have := hL _ hm
      simp only at *
      omega
end Sx
end Go.Proofs.YtgcnpnbgjejkaaaDoor
