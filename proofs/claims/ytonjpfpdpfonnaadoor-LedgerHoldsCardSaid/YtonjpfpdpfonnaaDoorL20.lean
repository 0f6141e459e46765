/-
  LEDGERS: the reference's Decode; encodings and back.
-/
import Derived.Test.YtonjpfpdpfonnaaDoorL19
namespace Go.Proofs.YtonjpfpdpfonnaaDoor
open Go.RowKit
namespace Sx
theorem dec1_enc {e : Led.Ent} (hf : Led.Ent.fit e) (r : List UInt8) {c : Nat} (hc : c < 4096) : Led.dec1 (encF e ++ r) c = .ok (e, r) := by
  obtain ⟨k, b⟩ := e
  obtain ⟨h1, h2, h3⟩ := hf
  simp only at h1 h2 h3
  have e0 : encF ⟨k, b⟩ ++ r = UInt8.ofNat k.toNat :: UInt8.ofNat (b.length / 16777216) :: UInt8.ofNat (b.length / 65536) :: UInt8.ofNat (b.length / 256) :: UInt8.ofNat b.length :: (b ++ r) := by simp [encF, be4]
  have hr : Led.rd4 (encF ⟨k, b⟩ ++ r) = b.length := by
    rw [e0]
    simp only [Led.rd4, List.getD_cons_succ, List.getD_cons_zero, UInt8.toNat_ofNat']
    omega
  have hl : (encF ⟨k, b⟩ ++ r).length = b.length + r.length + 5 := by rw [e0]; simp
  rw [Led.dec1_ok (by omega) (by omega) (by omega) (by omega), hr, e0, Led.take5, Led.drop5]
  simp only [List.getD_cons_zero, UInt8.toNat_ofNat', List.take_left, List.drop_left]
  have : ((k.toNat % 2 ^ 8 : Nat) : Int) = k := by omega
  rw [this]
theorem decF_enc : ∀ (es : List Led.Ent) (es0 : List Led.Ent) (r : List UInt8) (n : Nat), (∀ e ∈ es, Led.Ent.fit e) → es0.length + es.length ≤ 4096 → (encAll es ++ r).length ≤ n → ∃ m, r.length ≤ m ∧ Led.decF n es0 (encAll es ++ r) = Led.decF m (es0 ++ es) r
  | [], es0, r, n, _, _, h => ⟨n, by simpa [encAll] using h, by simp [encAll]⟩
  | e :: es, es0, r, n, hv, hl, h => by
    have he : encAll (e :: es) ++ r = encF e ++ (encAll es ++ r) := by simp [encAll]
    rw [he] at h ⊢
    have h5 : 5 ≤ (encF e ++ (encAll es ++ r)).length := by simp [encF, be4] <;> omega
    have hne : encF e ++ (encAll es ++ r) ≠ [] := by intro e0; rw [e0] at h5; simp at h5
    obtain ⟨m, rfl⟩ : ∃ m, n = m + 1 := ⟨n - 1, by omega⟩
    simp only [List.length_cons] at hl
    rw [Led.decF_step hne, dec1_enc (hv e (by simp)) _ (by omega)]
    have h6 : (encF e).length ≥ 5 := by simp [encF, be4]
    obtain ⟨q, h7, h8⟩ := decF_enc es (es0 ++ [e]) r m (fun x hx => hv x (by simp [hx])) (by simp; omega) (by simp only [List.length_append] at h ⊢; omega)
    exact ⟨q, h7, by rw [show es0 ++ e :: es = (es0 ++ [e]) ++ es by simp]; exact h8⟩
/-- Decode inverts Encode. -/
theorem decs_enc {es : List Led.Ent} (hv : ∀ e ∈ es, Led.Ent.fit e) (hl : es.length ≤ 4096) : Led.decs (encAll es) = .ok es := by
  obtain ⟨m, _, h⟩ := decF_enc es [] [] (encAll es).length hv (by simpa using hl) (by simp)
  rw [List.append_nil] at h
  unfold Led.decs
  rw [h, Led.decF_nil]
  simp
end Sx
end Go.Proofs.YtonjpfpdpfonnaaDoor
