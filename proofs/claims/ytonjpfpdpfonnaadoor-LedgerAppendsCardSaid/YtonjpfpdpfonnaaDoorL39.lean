/-
  LEDGERS: what the law changes in place.
-/
import Derived.Test.YtonjpfpdpfonnaaDoorL38
namespace Go.Proofs.YtonjpfpdpfonnaaDoor
open Go.RowKit
namespace Sx
/-- The elements while they are cloned: the one at t is a slice of one's own. -/
def els (p : List (List UInt8)) (t i : Nat) (A : Option Addr) (n c : Nat) : List El := if i ≤ t then (p.take i).map El.k else (p.take t).map El.k ++ [El.x A n c] ++ ((p.take i).drop (t + 1)).map El.k
theorem els_lt {p : List (List UInt8)} {t i n c : Nat} {A : Option Addr} {x : List UInt8} (hx : p[i]? = some x) (h : i < t) : els p t (i + 1) A n c = els p t i A n c ++ [El.k x] := by
  unfold els
  rw [if_pos (by omega), if_pos (by omega), take_snoc hx, List.map_append]
  rfl
theorem els_eq {p : List (List UInt8)} {t n c n' c' : Nat} {A A' : Option Addr} {x : List UInt8} (hx : p[t]? = some x) : els p t (t + 1) A n c = els p t t A' n' c' ++ [El.x A n c] := by
  unfold els
  rw [if_neg (by omega), if_pos (Nat.le_refl _)]
  have hl := (List.getElem?_eq_some_iff.1 hx).1
  rw [List.drop_of_length_le (by simp; omega), List.map_nil, List.append_nil]
theorem els_gt {p : List (List UInt8)} {t i n c : Nat} {A : Option Addr} {x : List UInt8} (hx : p[i]? = some x) (h : t < i) : els p t (i + 1) A n c = els p t i A n c ++ [El.k x] := by
  unfold els
  have hl := (List.getElem?_eq_some_iff.1 hx).1
  rw [if_neg (by omega), if_neg (by omega), take_snoc hx, List.drop_append_of_le_length (by simp; omega), List.map_append, ← List.append_assoc]
  rfl
theorem els_ne {p : List (List UInt8)} {t i n c : Nat} {A : Option Addr} {x : List UInt8} (hx : p[i]? = some x) (h : ¬ i = t) : els p t (i + 1) A n c = els p t i A n c ++ [El.k x] := by
  rcases Nat.lt_or_gt_of_ne h with h | h
  · exact els_lt hx h
  · exact els_gt hx h
theorem els_len {p : List (List UInt8)} {t i n c : Nat} {A : Option Addr} (hi : i ≤ p.length) : (els p t i A n c).length = i := by
  unfold els
  split
  · simp; omega
  · simp; omega
def El.len : El → Nat
  | .k b => b.length
  | .x _ n _ => n
/-- An element's length, whatever is known of it. -/
theorem Rd.loadX {P : Program} {Γ : Cx} {σ : St} {S : List Nat} {dst : Option Tmp} {ty : TypeId} {pos : String} {af : Array Edge} {gd : Option (Nat × Bool)} {x : Operand} {T e c i : Nat} {A : Option Addr} {F : List Nat} {l : List El} {v : El} (j : Nat) (hx : σ.ev x = some (isD (elP A (i * 1)))) (hj : σ.bx[j]? = some (.r F (vecT e 1 encX A c l))) (hT : plainT P T = true) (hv : l[i]? = some v) (hS : Ap σ j S) : Rd P Γ S ⟨dst, .load T x, ty, pos, af, gd⟩ σ (lenD v.len) := by
  cases v with
  | k b => exact Rd.more (Rd.loadT1 j hx hj hT hv rfl hS) le_b_len
  | x B n d => exact Rd.more (Rd.loadT1 j hx hj hT hv rfl hS) le_is_len
/-- All known again. -/
theorem els_thaw {p : List (List UInt8)} {t n c : Nat} {A : Option Addr} {b : List UInt8} (h : t < p.length) : els p t p.length A n c = (p.take t).map El.k ++ [El.x A n c] ++ (p.drop (t + 1)).map El.k ∧ (p.take t).map El.k ++ [El.k b] ++ (p.drop (t + 1)).map El.k = (p.set t b).map El.k := by
  refine ⟨by unfold els; rw [if_neg (by omega), List.take_length], ?_⟩
  rw [List.set_eq_take_append_cons_drop, if_pos h]
  simp
end Sx
end Go.Proofs.YtonjpfpdpfonnaaDoor
