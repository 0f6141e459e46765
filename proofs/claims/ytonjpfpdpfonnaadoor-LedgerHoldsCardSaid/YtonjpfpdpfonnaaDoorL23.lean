/-
  LEDGERS: the reference, paths read.
-/
import Derived.Test.YtonjpfpdpfonnaaDoorL22
namespace Go.Proofs.YtonjpfpdpfonnaaDoor
open Go.RowKit
namespace Sx
/-- What the reference's include returns. -/
def IncOK (i n : Nat) (d : List UInt8) (p : List (List UInt8)) (t : List UInt8 × List (List UInt8) × Bool) : Prop :=
  (Led.ver HH i n d p = if t.2.2 = true ∧ t.2.1 = [] then some t.1 else none) ∧ t.1.length ≤ 32 ∧ t.2.1.length ≤ p.length
theorem IncOK.one (i : Nat) (d : List UInt8) (p : List (List UInt8)) (hd : d.length ≤ 32) : IncOK i 1 d p (d, p, true) :=
  ⟨by rw [Led.ver_one]; simp, hd, Nat.le_refl _⟩
theorem IncOK.none {i n : Nat} (d : List UInt8) (h : 2 ≤ n) : IncOK i n d [] ([], [], false) :=
  ⟨by rw [Led.ver_step HH i d [] h]; simp, by simp, by simp⟩
theorem getLast_snoc {p : List (List UInt8)} {x : List UInt8} (hx : p[p.length - 1]? = some x) : p.getLast? = some x := by rw [List.getLast?_eq_getElem?]; exact hx
theorem take_pred (p : List (List UInt8)) : p.take (p.length - 1) = p.dropLast := by rw [List.dropLast_eq_take]
theorem IncOK.left {i n : Nat} {d x : List UInt8} {p : List (List UInt8)} {t : List UInt8 × List (List UInt8) × Bool} (h : 2 ≤ n) (hx : p[p.length - 1]? = some x) (hi : i < Led.bl n) (ht : IncOK i (Led.bl n) d (p.take (p.length - 1)) t) : IncOK i n d p (Led.join HH t.1 x, t.2.1, t.2.2) := by
  obtain ⟨h1, h2, h3⟩ := ht
  rw [take_pred] at h1 h3
  refine ⟨?_, by simp, by simp at h3; simp; omega⟩
  rw [Led.ver_step HH i d p h, getLast_snoc hx]
  simp only
  rw [if_pos hi, h1]
  split <;> rfl
theorem IncOK.right {i n : Nat} {d x : List UInt8} {p : List (List UInt8)} {t : List UInt8 × List (List UInt8) × Bool} (h : 2 ≤ n) (hx : p[p.length - 1]? = some x) (hi : ¬ i < Led.bl n) (ht : IncOK (i - Led.bl n) (n - Led.bl n) d (p.take (p.length - 1)) t) : IncOK i n d p (Led.join HH x t.1, t.2.1, t.2.2) := by
  obtain ⟨h1, h2, h3⟩ := ht
  rw [take_pred] at h1 h3
  refine ⟨?_, by simp, by simp at h3; simp; omega⟩
  rw [Led.ver_step HH i d p h, getLast_snoc hx]
  simp only
  rw [if_neg hi, h1]
  split <;> rfl
/-- What Include says. -/
def incGood (root : List UInt8) (n i : Int) (e : Led.Ent) (p : List (List UInt8)) : Prop := Led.Ent.fit e ∧ 1 ≤ n ∧ n ≤ 4096 ∧ 0 ≤ i ∧ i < n ∧ root.length = 32 ∧ ∀ d ∈ p, d.length = 32
open Classical in
noncomputable def incOut (root : List UInt8) (n i : Int) (e : Led.Ent) (p : List (List UInt8)) : Int :=
  if incGood root n i e p then (if Led.ver HH i.toNat n.toNat (Led.leaf HH e) p = some root then 0 else 10) else 2
theorem incOut_bad {root : List UInt8} {n i : Int} {e : Led.Ent} {p : List (List UInt8)} (h : ¬ incGood root n i e p) : incOut root n i e p = 2 := if_neg h
theorem incOut_yes {root : List UInt8} {n i : Int} {e : Led.Ent} {p : List (List UInt8)} (h : incGood root n i e p) (hv : Led.ver HH i.toNat n.toNat (Led.leaf HH e) p = some root) : incOut root n i e p = 0 := by
  unfold incOut; rw [if_pos h, if_pos hv]
theorem incOut_no {root : List UInt8} {n i : Int} {e : Led.Ent} {p : List (List UInt8)} (h : incGood root n i e p) (hv : ¬ Led.ver HH i.toNat n.toNat (Led.leaf HH e) p = some root) : incOut root n i e p = 10 := by
  unfold incOut; rw [if_pos h, if_neg hv]
end Sx
end Go.Proofs.YtonjpfpdpfonnaaDoor
