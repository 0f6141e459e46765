/-
  THE WALK of number's Parse.
-/
import Derived.Test.YtddfphneidcibaaT5
namespace Go.Proofs.Ytddfphneidcibaa
open Go.RowKit
open Nm (W32)

/-- The value of decimal digits. -/
def decV (ds : List UInt8) : Nat := ds.foldl (fun a c => a * 10 + (c.toNat - 48)) 0
theorem decV_snoc (ds : List UInt8) (c : UInt8) : decV (ds ++ [c]) = decV ds * 10 + (c.toNat - 48) := by simp [decV, List.foldl_append]
theorem decV_from : ∀ (ds : List UInt8) (a : Nat), (∀ c ∈ ds, c.toNat ≤ 57) → ds.foldl (fun a c => a * 10 + (c.toNat - 48)) a < (a + 1) * 10 ^ ds.length
  | [], a, _ => by simp
  | c :: t, a, h => by
    have h1 := decV_from t (a * 10 + (c.toNat - 48)) fun d hd => h d (List.mem_cons_of_mem _ hd)
    have h2 := h c (by simp)
    rw [List.foldl_cons, List.length_cons, Nat.pow_succ]
    refine Nat.lt_of_lt_of_le h1 ?_
    have h3 : (a * 10 + (c.toNat - 48) + 1) * 10 ^ t.length ≤ ((a + 1) * 10) * 10 ^ t.length := Nat.mul_le_mul_right _ (by omega)
    rw [Nat.mul_assoc, Nat.mul_comm 10] at h3
    exact h3
theorem decV_lt (ds : List UInt8) (h : ∀ c ∈ ds, c.toNat ≤ 57) : decV ds < 10 ^ ds.length := by
  have := decV_from ds 0 h
  simpa [decV] using this
/-- The sign in front and the digits. -/
def Cut (b ds : List UInt8) (neg : Bool) : Prop := (neg = true ∧ b = 45 :: ds) ∨ (neg = false ∧ b = ds ∧ ∀ t, ds ≠ 45 :: t)
theorem cut_of (b : List UInt8) : ∃ ds neg, Cut b ds neg := by
  cases b with
  | nil => exact ⟨[], false, .inr ⟨rfl, rfl, fun _ h => by cases h⟩⟩
  | cons c t =>
    by_cases h : c = 45
    · subst h; exact ⟨t, true, .inl ⟨rfl, rfl⟩⟩
    · exact ⟨c :: t, false, .inr ⟨rfl, rfl, fun _ e => by injection e with e; exact h e⟩⟩
theorem cut_any (w : World) (b ds : List UInt8) (neg : Bool) (h : Cut b ds neg) : Calls Try.prog 91 #[.string ⟨b.toArray⟩, .string ⟨#[45]⟩] w fun e w' => e = .returned (.tuple #[.string ⟨ds.toArray⟩, .bool neg]) ∧ w = w' := by
  refine (strings_CutPrefix ⟨b.toArray⟩ ⟨#[45]⟩ w).mono ?_
  rintro e w' ⟨rfl, rfl⟩
  refine ⟨?_, rfl⟩
  rcases h with ⟨rfl, rfl⟩ | ⟨rfl, rfl, h⟩
  · simp [Lib.trimPrefix, Lib.hasPrefix]
  · cases b with
    | nil => simp [Lib.trimPrefix, Lib.hasPrefix]
    | cons c t =>
      have hc : c ≠ 45 := fun e => h t (by rw [e])
      simp [Lib.trimPrefix, Lib.hasPrefix, List.isPrefixOf, Ne.symm hc]

set_option maxHeartbeats 4000000 in
set_option maxRecDepth 100000 in
theorem parse_bad (w : World) (b ds : List UInt8) (neg : Bool) (hc : Cut b ds neg) (hb : b.length ≤ 1000) (h : isDec ds = false ∨ (neg = true ∧ ds = [48])) :
    Calls Try.prog 29 #[.string ⟨b.toArray⟩] w (RI w 0 6) := by
  have hO0 : Only [] w (w.alloc (.cells #[.bool false, .slice none 0 0] 24)) := (Only.refl [] w).alloc _
  have hdl : ds.length ≤ 1000 := by rcases hc with ⟨_, h⟩ | ⟨_, h, _⟩ <;> (rw [h] at hb; first | omega | (simp at hb; omega))
  obtain ⟨k0, k1, f0, f1⟩ := (Blk.int0 w).two
  have Hc := Lib.hid hc
  clear hc
  rcases h with h | ⟨rfl, rfl⟩
  · have Hd := Lib.hid h
    clear h
    go_enter Try.func29, Try.ntmps29
    go_wp2_with (first
      | (go_at_call 91; refine (cut_any _ b ds neg Hc.out).mono ?_; rintro e w' ⟨rfl, rfl⟩)
      | (go_at_call 92; have hd := isDecimal_any (w.alloc (.cells #[.bool false, .slice none 0 0] 24)) ds (by omega); rw [Hd.out] at hd; refine hd.mono ?_; rintro e w' ⟨rfl, rfl⟩))
    exact bodyPost_ret (results_row_tmp rfl _ _ (w.heap.size) 24 [_, _] _ rfl ((Blk.int0 w)) Try.underlying24 rfl isz) rfl (RI.of rfl (IntS.zero _ _ _) (Frs.none (w.alloc (.cells #[.bool false, .slice none 0 0] 24))) (by simp) (Nat.le_refl _) hO0 (Only.refl _ _))
  · have Hd : Hid (isDec [48] = true) := by unfold Hid; decide
    go_enter Try.func29, Try.ntmps29
    go_wp2_with (first
      | (go_at_call 91; refine (cut_any _ b [48] true Hc.out).mono ?_; rintro e w' ⟨rfl, rfl⟩)
      | (go_at_call 92; have hd := isDecimal_any (w.alloc (.cells #[.bool false, .slice none 0 0] 24)) [48] (by decide); rw [Hd.out] at hd; refine hd.mono ?_; rintro e w' ⟨rfl, rfl⟩))
    exact bodyPost_ret (results_row_tmp rfl _ _ (w.heap.size) 24 [_, _] _ rfl ((Blk.int0 w)) Try.underlying24 rfl isz) rfl (RI.of rfl (IntS.zero _ _ _) (Frs.none (w.alloc (.cells #[.bool false, .slice none 0 0] 24))) (by simp) (Nat.le_refl _) hO0 (Only.refl _ _))
end Go.Proofs.Ytddfphneidcibaa
