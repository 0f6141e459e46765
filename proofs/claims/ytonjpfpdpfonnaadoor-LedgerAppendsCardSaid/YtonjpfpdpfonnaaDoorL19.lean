/-
  LEDGERS: Decode.
-/
import Derived.Test.YtonjpfpdpfonnaaDoorL18
namespace Go.Proofs.YtonjpfpdpfonnaaDoor
open Go.RowKit
namespace Sx
theorem dec1_len {r r2 : List UInt8} {c : Nat} {e : Led.Ent} (hd : Led.dec1 r c = .ok (e, r2)) : r2.length + 5 ≤ r.length := by
  have := (Led.dec1_spec hd).2.2
  have h2 := congrArg List.length this
  simp [encF, be4] at h2
  omega
theorem decF_more {n : Nat} {es : List Led.Ent} {r r2 : List UInt8} {e : Led.Ent} (hne : r ≠ []) (hle : r.length ≤ n) (hd : Led.dec1 r es.length = .ok (e, r2)) : ∃ m, Led.decF n es r = Led.decF m (es ++ [e]) r2 ∧ r2.length ≤ m := by
  have h0 : 0 < r.length := List.length_pos_iff.2 hne
  obtain ⟨m, rfl⟩ : ∃ m, n = m + 1 := ⟨n - 1, by omega⟩
  have := dec1_len hd
  exact ⟨m, by rw [Led.decF_step hne, hd], by omega⟩
/-- While an encoding is read. -/
def DInv (b : List UInt8) (es : List Led.Ent) (r : List UInt8) : Prop := es.length ≤ 4096 ∧ (∀ e ∈ es, Led.Ent.fit e) ∧ b = encAll es ++ r ∧ ∃ n, r.length ≤ n ∧ Led.decs b = Led.decF n es r
theorem DInv.start (b : List UInt8) : DInv b [] b := ⟨by simp, by simp, rfl, b.length, Nat.le_refl _, rfl⟩
theorem DInv.fin {b r : List UInt8} {es : List Led.Ent} (h : DInv b es r) (hr : r = []) : Led.decs b = .ok es := by
  obtain ⟨_, _, _, n, h4, h5⟩ := h
  rw [h5, hr, Led.decF_nil]
theorem DInv.next {b r r2 : List UInt8} {es : List Led.Ent} {e : Led.Ent} (h : DInv b es r) (hne : r ≠ []) (hd : Led.dec1 r es.length = .ok (e, r2)) : DInv b (es ++ [e]) r2 := by
  obtain ⟨h1, h2, h3, n, h4, h5⟩ := h
  obtain ⟨h6, h7, h8⟩ := Led.dec1_spec hd
  obtain ⟨m, h9, h10⟩ := decF_more hne h4 hd
  refine ⟨by simp; omega, fun x hx => ?_, ?_, m, h10, by rw [h5, h9]⟩
  · rcases List.mem_append.1 hx with hx | hx
    · exact h2 x hx
    · rw [List.mem_singleton.1 hx]; exact h7
  · rw [h3, h8]
    simp [encAll]
theorem DInv.len {b r : List UInt8} {es : List Led.Ent} (h : DInv b es r) : r.length ≤ b.length := by
  rw [h.2.2.1]; simp
end Sx
end Go.Proofs.YtonjpfpdpfonnaaDoor
