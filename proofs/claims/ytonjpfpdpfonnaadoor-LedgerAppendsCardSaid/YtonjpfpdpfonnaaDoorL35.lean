/-
  LEDGERS: what LedgerHolds needs.
-/
import Derived.Test.YtonjpfpdpfonnaaDoorL34
namespace Go.Proofs.YtonjpfpdpfonnaaDoor
open Go.RowKit
namespace Sx
section
variable {P : Program} {Γ : Cx} {σ : St} {Q : Exit → Act → World → Prop}
end
theorem incl_32 : ∀ (n : Nat) (l : List Led.Ent) (i : Nat), l.length ≤ n → ∀ d ∈ Led.incl HH l i, d.length = 32 := by
  intro n
  induction n with
  | zero => intro l i h d hd; rw [Led.incl_one HH i (by omega)] at hd; cases hd
  | succ n ih =>
    intro l i h d hd
    by_cases h2 : 2 ≤ l.length
    · have hb := Led.bl_spec h2
      rw [Led.incl_step HH i h2] at hd
      split at hd
      · rcases List.mem_append.1 hd with hd | hd
        · exact ih _ _ (by simp; omega) d hd
        · rw [List.mem_singleton.1 hd]; simp
      · rcases List.mem_append.1 hd with hd | hd
        · exact ih _ _ (by simp; omega) d hd
        · rw [List.mem_singleton.1 hd]; simp
    · rw [Led.incl_one HH i (by omega)] at hd; cases hd
theorem cons_32 : ∀ (n : Nat) (l : List Led.Ent) (m : Nat) (o : Bool), l.length ≤ n → 0 < m → m ≤ l.length → ∀ d ∈ Led.cons HH l m o, d.length = 32 := by
  intro n
  induction n with
  | zero => intro l m o h h0 hm; omega
  | succ n ih =>
    intro l m o h h0 hm d hd
    by_cases h1 : m = l.length
    · rw [h1, Led.cons_all HH o (by omega)] at hd
      split at hd
      · cases hd
      · rw [List.mem_singleton.1 hd]; simp
    · have hb := Led.bl_spec (n := l.length) (by omega)
      rw [Led.cons_step HH o h0 (by omega)] at hd
      split at hd
      · rcases List.mem_append.1 hd with hd | hd
        · exact ih _ _ _ (by simp; omega) h0 (by simp; omega) d hd
        · rw [List.mem_singleton.1 hd]; simp
      · rcases List.mem_append.1 hd with hd | hd
        · exact ih _ _ _ (by simp; omega) (by omega) (by simp; omega) d hd
        · rw [List.mem_singleton.1 hd]; simp
/-- A consistency path, the empty ledger's too. -/
noncomputable def cpath (es : List Led.Ent) (m : Nat) : List (List UInt8) := if m = 0 then [] else Led.cons HH es m true
theorem con_consistency_any (es : List Led.Ent) (hn : es.length ≤ 100000) (m : Nat) (h : m ≤ es.length) : ConN Tryd.prog 15 [ledD es, iD (m : Int), iD (es.length : Int)] (tupD [aggD [lsD encL (cpath es m)], iD 0]) := by
  by_cases h0 : m = 0
  · subst h0
    have := con_consistency_0 es es.length (Nat.le_refl _)
    unfold cpath
    rw [if_pos rfl]
    exact this
  · have := con_consistency es hn m es.length (by omega) h (Nat.le_refl _)
    unfold cpath
    rw [if_neg h0]
    rw [List.take_length] at this
    exact this
theorem blsL (b : List UInt8) : Bls Tryd.prog 32 1 [0] [bD b] ([b].flatMap encL) := ⟨28, fun L w vs hv => by
  obtain ⟨u, rfl, hu⟩ := all1 hv
  have hu' := hu
  obtain ⟨A, c, rfl, -⟩ := hu
  exact ⟨[.slice A _ c], ⟨hu', trivial⟩, fun w' => by kernel_rfl⟩⟩
end Sx
end Go.Proofs.YtonjpfpdpfonnaaDoor
