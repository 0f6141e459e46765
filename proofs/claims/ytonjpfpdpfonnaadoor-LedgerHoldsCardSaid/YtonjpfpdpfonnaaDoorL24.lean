/-
  LEDGERS: the reference, paths read, all of it.
-/
import Derived.Test.YtonjpfpdpfonnaaDoorL23
namespace Go.Proofs.YtonjpfpdpfonnaaDoor
open Go.RowKit
namespace Sx
theorem Rs.four {P : Program} {Γ : Cx} {σ : St} {fn : Func} {r s t q : ResultVar} {d e f k : D} (h : fn.results = #[r, s, t, q]) (h1 : ResV σ P r d) (h2 : ResV σ P s e) (h3 : ResV σ P t f) (h4 : ResV σ P q k) : Rs P Γ fn σ (tupD [d, e, f, k]) := by
  intro a w hh
  obtain ⟨v, hv, hd⟩ := run_loadR hh h1
  obtain ⟨u, hu, he⟩ := run_loadR hh h2
  obtain ⟨z, hz, hf⟩ := run_loadR hh h3
  obtain ⟨y, hy, hk⟩ := run_loadR hh h4
  refine ⟨.tuple #[v, u, z, y], ?_, [v, u, z, y], rfl, hd, he, hf, hk, trivial⟩
  have e : results fn a.tmps = (do let x ← loadR a.tmps r; let y ← loadR a.tmps s; let z ← loadR a.tmps t; let l ← loadR a.tmps q; pure (.tuple #[x, y, z, l])) := by cases r <;> cases s <;> cases t <;> cases q <;> simp [results, h, loadR]
  simp [e, hv, hu, hz, hy]
/-- What the reference's consistent returns. -/
def ConOK (m n : Nat) (o : Bool) (d : List UInt8) (p : List (List UInt8)) (t : List UInt8 × List UInt8 × List (List UInt8) × Bool) : Prop :=
  (Led.con HH m n o d p = if t.2.2.2 = true ∧ t.2.2.1 = [] then some (t.1, t.2.1) else none) ∧ t.1.length ≤ 32 ∧ t.2.1.length ≤ 32 ∧ t.2.2.1.length ≤ p.length
theorem ConOK.same {n : Nat} {o : Bool} (d : List UInt8) (p : List (List UInt8)) (h : 0 < n) (ho : o = true) (hd : d.length ≤ 32) : ConOK n n o d p (d, d, p, true) :=
  ⟨by rw [Led.con_eq HH o d p h, if_pos ho]; simp, hd, hd, Nat.le_refl _⟩
theorem ConOK.none {m n : Nat} {o : Bool} (d : List UInt8) (h0 : 0 < m) (hm : m ≤ n) (h : ¬ (m = n ∧ o = true)) : ConOK m n o d [] ([], [], [], false) := by
  refine ⟨?_, by simp, by simp, by simp⟩
  by_cases h1 : m = n
  · subst h1
    rw [Led.con_eq HH o d [] h0, if_neg (fun e => h ⟨rfl, e⟩)]
    simp
  · rw [Led.con_step HH o d [] h0 (by omega)]
    simp
theorem ConOK.last {n : Nat} {o : Bool} {d x : List UInt8} {p : List (List UInt8)} (h : 0 < n) (ho : ¬ o = true) (hx : p[p.length - 1]? = some x) (hl : x.length = 32) : ConOK n n o d p (x, x, p.take (p.length - 1), true) := by
  refine ⟨?_, by simp [hl], by simp [hl], by simp⟩
  rw [Led.con_eq HH o d p h, if_neg ho, getLast_snoc hx, take_pred]
  simp
theorem ConOK.left {m n : Nat} {o : Bool} {d x : List UInt8} {p : List (List UInt8)} {t : List UInt8 × List UInt8 × List (List UInt8) × Bool} (h0 : 0 < m) (h : m < n) (hx : p[p.length - 1]? = some x) (hi : m ≤ Led.bl n) (ht : ConOK m (Led.bl n) o d (p.take (p.length - 1)) t) : ConOK m n o d p (t.1, Led.join HH t.2.1 x, t.2.2.1, t.2.2.2) := by
  obtain ⟨h1, h2, h3, h4⟩ := ht
  rw [take_pred] at h1 h4
  refine ⟨?_, h2, by simp, by simp at h4; simp; omega⟩
  rw [Led.con_step HH o d p h0 h, getLast_snoc hx]
  simp only
  rw [if_pos hi, h1]
  split <;> rfl
theorem ConOK.right {m n : Nat} {o : Bool} {d x : List UInt8} {p : List (List UInt8)} {t : List UInt8 × List UInt8 × List (List UInt8) × Bool} (h0 : 0 < m) (h : m < n) (hx : p[p.length - 1]? = some x) (hi : ¬ m ≤ Led.bl n) (ht : ConOK (m - Led.bl n) (n - Led.bl n) false d (p.take (p.length - 1)) t) : ConOK m n o d p (Led.join HH x t.1, Led.join HH x t.2.1, t.2.2.1, t.2.2.2) := by
  obtain ⟨h1, h2, h3, h4⟩ := ht
  rw [take_pred] at h1 h4
  refine ⟨?_, by simp, by simp, by simp at h4; simp; omega⟩
  rw [Led.con_step HH o d p h0 h, getLast_snoc hx]
  simp only
  rw [if_neg hi, h1]
  split <;> rfl
/-- What Consistent says. -/
def conGood (old : List UInt8) (m : Int) (new : List UInt8) (n : Int) (p : List (List UInt8)) : Prop := 0 ≤ m ∧ m ≤ n ∧ n ≤ 4096 ∧ old.length = 32 ∧ new.length = 32 ∧ ∀ d ∈ p, d.length = 32
open Classical in
noncomputable def conOut (old : List UInt8) (m : Int) (new : List UInt8) (n : Int) (p : List (List UInt8)) : Int :=
  if conGood old m new n p then (if m = 0 then (if p = [] ∧ old = HH [] then 0 else 10) else if Led.con HH m.toNat n.toNat true old p = some (old, new) then 0 else 10) else 2
theorem conOut_bad {old new : List UInt8} {m n : Int} {p : List (List UInt8)} (h : ¬ conGood old m new n p) : conOut old m new n p = 2 := if_neg h
theorem conOut_0yes {old new : List UInt8} {m n : Int} {p : List (List UInt8)} (h : conGood old m new n p) (h0 : m = 0) (hp : p = []) (ho : old = HH []) : conOut old m new n p = 0 := by
  unfold conOut; rw [if_pos h, if_pos h0, if_pos ⟨hp, ho⟩]
theorem conOut_0no {old new : List UInt8} {m n : Int} {p : List (List UInt8)} (h : conGood old m new n p) (h0 : m = 0) (hp : ¬ (p = [] ∧ old = HH [])) : conOut old m new n p = 10 := by
  unfold conOut; rw [if_pos h, if_pos h0, if_neg hp]
theorem conOut_yes {old new : List UInt8} {m n : Int} {p : List (List UInt8)} (h : conGood old m new n p) (h0 : ¬ m = 0) (hv : Led.con HH m.toNat n.toNat true old p = some (old, new)) : conOut old m new n p = 0 := by
  unfold conOut; rw [if_pos h, if_neg h0, if_pos hv]
theorem conOut_no {old new : List UInt8} {m n : Int} {p : List (List UInt8)} (h : conGood old m new n p) (h0 : ¬ m = 0) (hv : ¬ Led.con HH m.toNat n.toNat true old p = some (old, new)) : conOut old m new n p = 10 := by
  unfold conOut; rw [if_pos h, if_neg h0, if_neg hv]
end Sx
end Go.Proofs.YtonjpfpdpfonnaaDoor
