/-
  LEDGERS: what LedgerHolds needs.
-/
import Derived.Test.YtonjpfpdpfonnaaDoorL34
namespace Go.Proofs.YtonjpfpdpfonnaaDoor
open Go.RowKit
namespace Sx
section
variable {P : Program} {Γ : Cx} {σ : St} {Q : Exit → Act → World → Prop}
/-- The bytes of an entry that is known. -/
theorem SWl.lookA {ops : Array Oper} {lo : List Oper} (k : Nat) {d : D} {b : List UInt8} (hk : σ.tm k = some (aggD [d, bD b])) (h : ∀ A cp, SWl P Γ ops Q lo ((⟨σ.tm, σ.bx ++ [.r [] (viewR (.slice A b.length cp) (cellsOf b))]⟩ : St).put k (aggD [d, isD (.slice A b.length cp)]))) : SWl P Γ ops Q lo σ := fun a w hh => by
  obtain ⟨cs, hv, ha⟩ := hh.tm k _ hk
  match cs, ha with
  | [u, v], ha =>
    obtain ⟨hu, ⟨A, c, hvv, hc, hr, hn⟩, -⟩ := ha
    rw [cellsOf_length] at hvv hc
    refine h A c a w ?_
    have h1 := hh.more (Only.refl [] w) (b := .r [] (viewR (.slice A b.length c) (cellsOf b))) ⟨⟨A, c, by rw [cellsOf_length], by rw [cellsOf_length]; exact hc, hr, fun h0 p hp => .inr (hn h0 p hp)⟩, by simp⟩ (by simp [Box.fp]) (by simp [Box.fp])
    refine h1.learn ⟨[u, v], hv, D.less _ hu (fun x hx => .inl ?_), hvv, trivial⟩
    simpa [St.L, fps, Box.fp] using hx
end
theorem incl_32 : ∀ (n : Nat) (l : List Led.Ent) (i : Nat), l.length ≤ n → ∀ d ∈ Led.incl HH l i, d.length = 32 := by
  intro n
  induction n with
  | zero => intro l i h d hd; rw [Led.incl_one HH i (by omega)] at hd; cases hd
  | succ n ih =>
    intro l i h d hd
    by_cases h2 : 2 ≤ l.length
    · have hb := Led.bl_spec h2
      rw [Led.incl_step HH i h2] at hd
      split at hd
      · rcases List.mem_append.1 hd with hd | hd
        · exact ih _ _ (by simp; omega) d hd
        · rw [List.mem_singleton.1 hd]; simp
      · rcases List.mem_append.1 hd with hd | hd
        · exact ih _ _ (by simp; omega) d hd
        · rw [List.mem_singleton.1 hd]; simp
    · rw [Led.incl_one HH i (by omega)] at hd; cases hd
theorem cons_32 : ∀ (n : Nat) (l : List Led.Ent) (m : Nat) (o : Bool), l.length ≤ n → 0 < m → m ≤ l.length → ∀ d ∈ Led.cons HH l m o, d.length = 32 := by
  intro n
  induction n with
  | zero => intro l m o h h0 hm; omega
  | succ n ih =>
    intro l m o h h0 hm d hd
    by_cases h1 : m = l.length
    · rw [h1, Led.cons_all HH o (by omega)] at hd
      split at hd
      · cases hd
      · rw [List.mem_singleton.1 hd]; simp
    · have hb := Led.bl_spec (n := l.length) (by omega)
      rw [Led.cons_step HH o h0 (by omega)] at hd
      split at hd
      · rcases List.mem_append.1 hd with hd | hd
        · exact ih _ _ _ (by simp; omega) h0 (by simp; omega) d hd
        · rw [List.mem_singleton.1 hd]; simp
      · rcases List.mem_append.1 hd with hd | hd
        · exact ih _ _ _ (by simp; omega) (by omega) (by simp; omega) d hd
        · rw [List.mem_singleton.1 hd]; simp
/-- A consistency path, the empty ledger's too. -/
noncomputable def cpath (es : List Led.Ent) (m : Nat) : List (List UInt8) := if m = 0 then [] else Led.cons HH es m true
theorem con_consistency_any (es : List Led.Ent) (hn : es.length ≤ 100000) (m : Nat) (h : m ≤ es.length) : ConN Tryd.prog 15 [ledD es, iD (m : Int), iD (es.length : Int)] (tupD [aggD [lsD encL (cpath es m)], iD 0]) := by
  by_cases h0 : m = 0
  · subst h0
    have := con_consistency_0 es es.length (Nat.le_refl _)
    unfold cpath
    rw [if_pos rfl]
    exact this
  · have := con_consistency es hn m es.length (by omega) h (Nat.le_refl _)
    unfold cpath
    rw [if_neg h0]
    rw [List.take_length] at this
    exact this
theorem conOut_path {es : List Led.Ent} {m : Nat} (h : m ≤ es.length) (hn : es.length ≤ 4096) : conOut (Led.root HH (es.take m)) (m : Int) (Led.root HH es) (es.length : Int) (cpath es m) = 0 := by
  have hg : conGood (Led.root HH (es.take m)) (m : Int) (Led.root HH es) (es.length : Int) (cpath es m) := by
    refine ⟨by omega, by omega, by omega, by simp, by simp, fun d hd => ?_⟩
    unfold cpath at hd
    split at hd
    · cases hd
    · exact cons_32 _ es m true (Nat.le_refl _) (by omega) h d hd
  by_cases h0 : m = 0
  · subst h0
    exact conOut_0yes hg rfl (by unfold cpath; rw [if_pos rfl]) (by rw [List.take_zero, Led.root_nil])
  · refine conOut_yes hg (by omega) ?_
    rw [Int.toNat_natCast, Int.toNat_natCast]
    unfold cpath
    rw [if_neg h0]
    exact Led.con_cons HH _ es m true (Nat.le_refl _) (by omega) h
theorem incOut_path {es : List Led.Ent} {i : Nat} {e : Led.Ent} (he : es[i]? = some e) (hf : Led.Ent.fit e) (hn : es.length ≤ 4096) : incOut (Led.root HH es) (es.length : Int) (i : Int) e (Led.incl HH es i) = 0 := by
  have hi := (List.getElem?_eq_some_iff.1 he).1
  refine incOut_yes ⟨hf, by omega, by omega, by omega, by omega, by simp, incl_32 _ es i (Nat.le_refl _)⟩ ?_
  rw [Int.toNat_natCast, Int.toNat_natCast]
  exact Led.ver_incl HH _ es i e (Nat.le_refl _) he
noncomputable def rts (f0 : List Led.Ent) (i : Nat) : List (List UInt8) := (List.range i).map fun j => Led.root HH (f0.take j)
theorem rts_succ (f0 : List Led.Ent) (i : Nat) : rts f0 (i + 1) = rts f0 i ++ [Led.root HH (f0.take i)] := by unfold rts; rw [List.range_succ, List.map_append]; rfl
theorem rts_len (f0 : List Led.Ent) (i : Nat) : (rts f0 i).length = i := by unfold rts; simp
theorem rts_get (f0 : List Led.Ent) {i n : Nat} (h : i < n) : (rts f0 n)[i]? = some (Led.root HH (f0.take i)) := by unfold rts; simp [h]
theorem blsL (b : List UInt8) : Bls Tryd.prog 32 1 [0] [bD b] ([b].flatMap encL) := ⟨28, fun L w vs hv => by
  obtain ⟨u, rfl, hu⟩ := all1 hv
  have hu' := hu
  obtain ⟨A, c, rfl, -⟩ := hu
  exact ⟨[.slice A _ c], ⟨hu', trivial⟩, fun w' => by kernel_rfl⟩⟩
end Sx
end Go.Proofs.YtonjpfpdpfonnaaDoor
