/-
  Bytes read.
  The hash of bytes with a key as a contract.
  The hash of bytes as a contract.
  Sealing and opening as contracts.
-/
import Derived.Test.YtchbgfgboogniaaDoorGT
import Derived.Test.YtchbgfgboogniaaDoorGD
import Derived.Test.YtchbgfgboogniaaDoorGF
import Derived.Test.YtchbgfgboogniaaDoorGI
namespace Go.Proofs.YtchbgfgboogniaaDoor
open Go.RowKit
namespace Sx
section
variable {w : World}
theorem rb_of_rv {A : Option Addr} {b : List UInt8} (h : RV w A (cellsOf b)) : RB w A b := fun h0 => by
  obtain ⟨g, o, e, hg, hc⟩ := h (by rw [cellsOf_length]; exact h0)
  refine ⟨g, o, e, hg, fun j hj => ?_⟩
  rw [hc j (by rw [cellsOf_length]; exact hj)]
  simp [cellsOf, List.getElem?_eq_getElem hj, List.getD_eq_getElem?_getD]
end
end Sx
end Go.Proofs.YtchbgfgboogniaaDoor
namespace Go.Proofs.YtchbgfgboogniaaDoor
open Go.RowKit
namespace Sx
theorem con_keyed (key b : List UInt8) (hk1 : 1 ≤ key.length) (hk : key.length ≤ 32) (hb : b.length ≤ 2305843009213693952) : Con Tryd.prog 59 [bD key, bD b] (tupD [gD (Bl.hash key b), iD 0]) := by
  refine ⟨enters_of Tryd.func59 (by kernel_rfl) rfl, fun L w vs hL hG ha => ?_⟩
  obtain ⟨u, v, rfl, hu, hv⟩ := all2 ha
  obtain ⟨A, c, rfl, hc, hr⟩ := b_out hu
  obtain ⟨B, d, rfl, hd, hs⟩ := b_out hv
  refine (keyed_any w A c key hk1 hk hc (rb_of_rv hr) B d b hd (rb_of_rv hs) hb hG).mono ?_
  rintro r w' ⟨rfl, ho⟩
  exact ⟨_, rfl, ⟨_, rfl, rfl, rfl, trivial⟩, ho⟩
end Sx
end Go.Proofs.YtchbgfgboogniaaDoor
namespace Go.Proofs.YtchbgfgboogniaaDoor
open Go.RowKit
namespace Sx
end Sx
end Go.Proofs.YtchbgfgboogniaaDoor
namespace Go.Proofs.YtchbgfgboogniaaDoor
open Go.RowKit
namespace Sx
theorem bD_new {L : List Nat} {w w' : World} {A : Option Addr} {n c : Nat} {b : List UInt8} (hn : n = b.length) (hc : n ≤ c) (hr : RV w' A (cellsOf b)) (hL : ∀ x ∈ L, x < w.heap.size) (ha : ∀ p, A = some p → w.heap.size ≤ p.block) : (bD b).R L w' (.slice A n c) := by
  subst hn
  refine ⟨A, c, by rw [cellsOf_length], by rw [cellsOf_length]; exact hc, hr, fun _ p hp hm => ?_⟩
  have h1 := ha p hp
  have h2 := hL _ hm
  omega
theorem own_new {L : List Nat} {w w' : World} {e : TypeId} {A : Option Addr} {n c : Nat} {b : List UInt8} {G : Option Nat} (hn : n = b.length) (hO : OwnS w' e A c (cellsOf b) G) (hN : New w G) (hL : ∀ x ∈ L, x < w.heap.size) : (bD b).R L w' (.slice A n c) := by
  refine bD_new hn (by rw [hn]; simpa using hO.le) hO.reads hL fun p hp => ?_
  rcases hO with ⟨h, _⟩ | ⟨g, r, h1, h2, _⟩
  · rw [h] at hp; cases hp
  · rw [h1] at hp
    injection hp with hp
    subst hp
    exact hN g h2
theorem sz_str (b : List UInt8) : (⟨b.toArray⟩ : ByteArray).size = b.length := by show b.toArray.size = _; simp
theorem con_derive (key label : List UInt8) (hk : key.length = 32) (h1 : 1 ≤ label.length) (h2 : label.length ≤ 64) : Con Tryd.prog 108 [bD key, strD label] (tupD [bD (Bl.hash key label), iD 0]) := by
  refine ⟨enters_of Tryd.func108 (by kernel_rfl) rfl, fun L w vs hL hG ha => ?_⟩
  obtain ⟨u, v, rfl, hu, rfl⟩ := all2 ha
  obtain ⟨A, c, rfl, hc, hr⟩ := b_out hu
  rw [hk] at hc ⊢
  refine (derive_any w A c key ⟨label.toArray⟩ label hk rfl (by rw [sz_str]; omega) (by rw [sz_str]; omega) hc hr hG).mono ?_
  rintro r w' ⟨g, rfl, hB, hg, ho⟩
  exact ⟨_, rfl, ⟨_, rfl, bD_new (by simp) (Nat.le_refl _) hB.rv hL (fun p hp => by injection hp with hp; subst hp; exact hg), rfl, trivial⟩, ho⟩
theorem con_sealB (key nonce b : List UInt8) (hk : key.length = 32) (hn : nonce.length = 16) (hb : b.length ≤ 65504) : Con Tryd.prog 72 [bD key, bD nonce, bD b] (tupD [bD (Sl.sealB key nonce b), iD 0]) := by
  refine ⟨enters_of Tryd.func72 (by kernel_rfl) rfl, fun L w vs hL hG ha => ?_⟩
  obtain ⟨u, v, x, rfl, hu, hv, hx⟩ := all3 ha
  obtain ⟨A, c, rfl, hc, hr⟩ := b_out hu
  obtain ⟨B, d, rfl, hd, hs⟩ := b_out hv
  obtain ⟨C, f, rfl, hf, ht⟩ := b_out hx
  have hl := Sl.sealB_length key nonce b hn
  rw [hk] at hc ⊢
  rw [hn] at hd ⊢
  refine (sealB_any w A B C c d f key nonce b hk hn (by omega) hc hd hf hr hs ht hG).mono ?_
  rintro r w' ⟨A', c', G, rfl, hO, hN, ho⟩
  exact ⟨_, rfl, ⟨_, rfl, own_new hl.symm hO hN hL, rfl, trivial⟩, ho⟩
theorem con_openB (key b : List UInt8) (hk : key.length = 32) : Con Tryd.prog 66 [bD key, bD b] (tupD [bD (Sl.openB key b).1, iD ((Sl.openB key b).2 : Int)]) := by
  refine ⟨enters_of Tryd.func66 (by kernel_rfl) rfl, fun L w vs hL hG ha => ?_⟩
  obtain ⟨u, v, rfl, hu, hv⟩ := all2 ha
  obtain ⟨A, c, rfl, hc, hr⟩ := b_out hu
  obtain ⟨B, d, rfl, hd, hs⟩ := b_out hv
  rw [hk] at hc ⊢
  refine (open_any w A B c b.length d key b rfl hk hc hd hr hs hG).mono ?_
  rintro r w' ⟨A', c', rfl, h1, h2, h3, ho⟩
  exact ⟨_, rfl, ⟨_, rfl, bD_new rfl h1 h2 hL h3, rfl, trivial⟩, ho⟩
end Sx
end Go.Proofs.YtchbgfgboogniaaDoor
