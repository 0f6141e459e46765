/-
  WIRE: numbers and bytes read, in plain terms.
  WIRE: next, group, count, part.
  WIRE: the closures that read.
-/
import Derived.Test.YtchbgfgboogniaaDoorGO
import Derived.Test.YtchbgfgboogniaaDoorGN
namespace Go.Proofs.YtchbgfgboogniaaDoor
open Go.RowKit
namespace Sx
/-! Reading numbers in groups of seven bits, and bytes. -/
theorem u8_lt {c : UInt8} : c.toNat < 256 := c.toNat_lt
def rdg : Nat → Bool → List UInt8 → Except Int (Nat × Nat)
  | 0, _, _ => .error 6
  | _ + 1, _, [] => .error 4
  | j + 1, fst, c :: p => if c.toNat < 128 then (if c.toNat = 0 ∧ fst = false then .error 6 else .ok (c.toNat, 1)) else match rdg j false p with
    | .error e => .error e
    | .ok (n, m) => .ok (c.toNat - 128 + 128 * n, m + 1)
theorem rdg_zero (f : Bool) (p : List UInt8) : rdg 0 f p = .error 6 := by cases p <;> rfl
/-- While a number is read. -/
def GInv (b : List UInt8) (k N M i a : Nat) : Prop := i ≤ 9 ∧ a < 128 ^ i ∧ ∃ n m, rdg (9 - i) (decide (i = 0)) (b.drop (k + i)) = .ok (n, m) ∧ a + 128 ^ i * n = N ∧ i + m = M
theorem GInv.start {b : List UInt8} {k N M : Nat} (h : rdg 9 true (b.drop k) = .ok (N, M)) : GInv b k N M 0 0 := ⟨by omega, by decide, N, M, h, by simp, by simp⟩
theorem GInv.step {b : List UInt8} {k N M i a : Nat} (h : GInv b k N M i a) : i < 9 ∧ ∃ c, b[k + i]? = some c ∧
    ((c.toNat < 128 ∧ ¬ (c.toNat = 0 ∧ 0 < i) ∧ a + 128 ^ i * (c.toNat % 128) = N ∧ i + 1 = M) ∨ (¬ c.toNat < 128 ∧ GInv b k N M (i + 1) (a + 128 ^ i * (c.toNat % 128)))) := by
  obtain ⟨hi, ha, n, m, hr, hn, hm⟩ := h
  have hi9 : i < 9 := by
    rcases Nat.lt_or_ge i 9 with h | h
    · exact h
    · rw [show 9 - i = 0 by omega, rdg_zero] at hr; cases hr
  refine ⟨hi9, ?_⟩
  rw [show 9 - i = (8 - i) + 1 by omega] at hr
  rcases hd : b.drop (k + i) with _ | ⟨c, p⟩
  · rw [hd] at hr; cases hr
  have hc : b[k + i]? = some c := by
    have := congrArg (fun l => l[0]?) hd
    simpa using this
  have hp : b.drop (k + (i + 1)) = p := by
    have h2 : (b.drop (k + i)).drop 1 = p := by rw [hd]; rfl
    rw [List.drop_drop] at h2
    exact h2
  refine ⟨c, hc, ?_⟩
  rw [hd] at hr
  unfold rdg at hr
  have hcl := u8_lt (c := c)
  by_cases h8 : c.toNat < 128
  · left
    rw [if_pos h8] at hr
    by_cases h0 : c.toNat = 0 ∧ decide (i = 0) = false
    · rw [if_pos h0] at hr; cases hr
    · rw [if_neg h0] at hr
      injection hr with hr
      injection hr with h1 h2
      subst h1 h2
      rw [Nat.mod_eq_of_lt h8]
      refine ⟨h8, fun h => h0 ⟨h.1, by simp; omega⟩, hn, hm⟩
  · right
    rw [if_neg h8] at hr
    rcases hr2 : rdg (8 - i) false p with e | ⟨n', m'⟩
    · rw [hr2] at hr; cases hr
    · rw [hr2] at hr
      injection hr with hr
      injection hr with h1 h2
      subst h1 h2
      have e1 : c.toNat - 128 = c.toNat % 128 := by omega
      have e2 : 128 ^ (i + 1) = 128 ^ i * 128 := Nat.pow_succ 128 i
      refine ⟨h8, by omega, ?_, n', m', ?_, ?_, by omega⟩
      · have hx : c.toNat % 128 ≤ 127 := by omega
        have := Nat.mul_le_mul_left (128 ^ i) hx
        rw [e2]; omega
      · rw [show 9 - (i + 1) = 8 - i by omega, hp, show decide (i + 1 = 0) = false by simp]
        exact hr2
      · rw [← hn, e1, e2, Nat.mul_add, Nat.mul_assoc]; omega
def GBad (b : List UInt8) (k : Nat) (E : Int) (i : Nat) : Prop := i ≤ 9 ∧ rdg (9 - i) (decide (i = 0)) (b.drop (k + i)) = .error E
theorem GBad.start {b : List UInt8} {k : Nat} {E : Int} (h : rdg 9 true (b.drop k) = .error E) : GBad b k E 0 := ⟨by omega, h⟩
theorem GBad.last {b : List UInt8} {k : Nat} {E : Int} {i : Nat} (h : GBad b k E i) (hi : ¬ i < 9) : E = 6 := by
  obtain ⟨h1, h2⟩ := h
  rw [show 9 - i = 0 by omega, rdg_zero] at h2
  injection h2 with h2
  exact h2.symm
theorem GBad.short {b : List UInt8} {k : Nat} {E : Int} {i : Nat} (h : GBad b k E i) (hi : i < 9) (hs : b.length ≤ k + i) : E = 4 := by
  obtain ⟨h1, h2⟩ := h
  rw [show 9 - i = (8 - i) + 1 by omega, List.drop_eq_nil_of_le hs] at h2
  injection h2 with h2
  exact h2.symm
theorem GBad.step {b : List UInt8} {k : Nat} {E : Int} {i : Nat} {c : UInt8} (h : GBad b k E i) (hi : i < 9) (hc : b[k + i]? = some c) : (c.toNat < 128 ∧ c.toNat = 0 ∧ 0 < i ∧ E = 6) ∨ (¬ c.toNat < 128 ∧ GBad b k E (i + 1)) := by
  obtain ⟨h1, h2⟩ := h
  have hl := (List.getElem?_eq_some_iff.1 hc).1
  have hd : b.drop (k + i) = c :: b.drop (k + (i + 1)) := by
    rw [List.drop_eq_getElem_cons hl, (List.getElem?_eq_some_iff.1 hc).2]; rfl
  rw [show 9 - i = (8 - i) + 1 by omega, hd] at h2
  unfold rdg at h2
  by_cases h8 : c.toNat < 128
  · rw [if_pos h8] at h2
    by_cases h0 : c.toNat = 0 ∧ decide (i = 0) = false
    · rw [if_pos h0] at h2
      injection h2 with h2
      exact .inl ⟨h8, h0.1, by have := h0.2; simp at this; omega, h2.symm⟩
    · rw [if_neg h0] at h2; cases h2
  · rw [if_neg h8] at h2
    refine .inr ⟨h8, by omega, ?_⟩
    rcases hr : rdg (8 - i) false (b.drop (k + (i + 1))) with e | ⟨n', m'⟩
    · rw [hr] at h2
      injection h2 with h2
      subst h2
      rw [show 9 - (i + 1) = 8 - i by omega, show decide (i + 1 = 0) = false by simp]
      exact hr
    · rw [hr] at h2; cases h2
def rdC (lim : Int) (p : List UInt8) : Except Int (Nat × Nat) := match rdg 9 true p with
  | .error e => .error e
  | .ok (n, m) => if lim < (n : Int) then .error 7 else .ok (n, m)
def rdP (lim : Int) (p : List UInt8) : Except Int (List UInt8 × Nat) := match rdC lim p with
  | .error e => .error e
  | .ok (n, m) => if p.length < m + n then .error 4 else .ok ((p.drop m).take n, m + n)
end Sx
end Go.Proofs.YtchbgfgboogniaaDoor
namespace Go.Proofs.YtchbgfgboogniaaDoor
open Go.RowKit
namespace Sx
end Sx
end Go.Proofs.YtchbgfgboogniaaDoor
namespace Go.Proofs.YtchbgfgboogniaaDoor
open Go.RowKit
namespace Sx
/-- What is left to read, and the first error. -/
structure RT where
  p : List UInt8
  e : Int
def RRel (b : List UInt8) (s : Int × Nat) (r : RT) : Prop := s.1 = r.e ∧ s.2 ≤ b.length ∧ (r.e = 0 → r.p = b.drop s.2)
theorem RRel.start (b : List UInt8) : RRel b (0, 0) ⟨b, 0⟩ := ⟨rfl, Nat.zero_le _, fun _ => rfl⟩
theorem RRel.good {b : List UInt8} {k m : Nat} (hk : k + m ≤ b.length) : RRel b (0, k + m) ⟨(b.drop k).drop m, 0⟩ := ⟨rfl, hk, fun _ => by rw [List.drop_drop]⟩
def stG {α β : Type} (z : β) (f : List UInt8 → Except Int (α × Nat)) (g : α → β) (r : RT) : β × RT := if r.e ≠ 0 then (z, r) else match f r.p with
  | .error e => (z, ⟨[], e⟩)
  | .ok (n, m) => (g n, ⟨r.p.drop m, 0⟩)
abbrev stU (r : RT) : Int × RT := stG 0 (rdg 9 true) (fun n : Nat => (n : Int)) r
abbrev stC (lim : Int) (r : RT) : Int × RT := stG 0 (rdC lim) (fun n : Nat => (n : Int)) r
abbrev stP (lim : Int) (r : RT) : List UInt8 × RT := stG [] (rdP lim) (fun q : List UInt8 => q) r
end Sx
end Go.Proofs.YtchbgfgboogniaaDoor
