/-
  ACCOUNTS: Encode.
  ACCOUNTS: books read, in plain terms.
-/
import Derived.Test.YtchbgfgboogniaaDoorGO
import Derived.Test.YtchbgfgboogniaaDoorGL
namespace Go.Proofs.YtchbgfgboogniaaDoor
open Go.RowKit
namespace Sx
theorem strE_len {b : List UInt8} (h : b.length < 18446744073709551616) : (strE b).length ≤ 10 + b.length := by
  have := grp_ten h
  unfold strE
  rw [List.length_append]
  omega
end Sx
end Go.Proofs.YtchbgfgboogniaaDoor
namespace Go.Proofs.YtchbgfgboogniaaDoor
open Go.RowKit
namespace Sx
def lastN (l : List Acc.T) : List UInt8 := (l.getLast?.map Acc.T.name).getD []
theorem lastN_get {l : List Acc.T} {y : Acc.T} (h : l[l.length - 1]? = some y) : lastN l = y.name := by unfold lastN; rw [List.getLast?_eq_getElem?, h]; rfl
def les (p q : List UInt8) : Bool := Op.bytesLess p q || decide (p = q)
theorem les_not {p q : List UInt8} : les p q = false ↔ Acc.lt q p = true := by
  unfold les
  constructor
  · intro h
    simp only [Bool.or_eq_false_iff, decide_eq_false_iff_not] at h
    rcases Acc.lt_tri p q with h1 | h1 | h1
    · exact absurd h1 (by rw [show Acc.lt p q = false from h.1]; decide)
    · exact absurd h1 h.2
    · exact h1
  · intro h
    simp only [Bool.or_eq_false_iff, decide_eq_false_iff_not]
    exact ⟨Acc.lt_asym h, fun e => Acc.lt_ne h e.symm⟩
def decBad (l : List Acc.T) (a : Acc.T) : Prop := ¬ Acc.ok a ∨ les a.name (lastN l) = true ∨ (a.role, a.num) ∈ Acc.seats l
instance (l : List Acc.T) (a : Acc.T) : Decidable (decBad l a) := by unfold decBad; infer_instance
theorem lt_all {l : List Acc.T} {a : Acc.T} (hf : Acc.Fine l) (h : les a.name (lastN l) = false) : ∀ x ∈ l, Acc.lt x.name a.name = true := by
  intro x hx
  have hl := les_not.1 h
  obtain ⟨i, hi, e⟩ := List.mem_iff_getElem.1 hx
  have hy : l[l.length - 1]? = some l[l.length - 1] := List.getElem?_eq_getElem (by omega)
  rw [lastN_get hy] at hl
  by_cases h1 : i = l.length - 1
  · subst h1
    rw [← e]
    exact hl
  · have := List.pairwise_iff_getElem.1 hf.srt i (l.length - 1) hi (by omega) (by omega)
    rw [← e]
    exact Acc.lt_trans this hl
theorem dec_good {l : List Acc.T} {a : Acc.T} (hf : Acc.Fine l) (h : ¬ decBad l a) (hl : l.length < 256) : Acc.ok a ∧ (¬ ∃ x ∈ l, Acc.clash a x) ∧ Acc.ins l a = l ++ [a] ∧ Acc.add l a = (l ++ [a], 0) := by
  have h1 : Acc.ok a := Classical.byContradiction fun h' => h (.inl h')
  have h2 : les a.name (lastN l) = false := by
    rcases hb : les a.name (lastN l) with _ | _
    · rfl
    · exact absurd (.inr (.inl hb)) h
  have h3 : (a.role, a.num) ∉ Acc.seats l := fun h' => h (.inr (.inr h'))
  have hall := lt_all hf h2
  have hc : ¬ ∃ x ∈ l, Acc.clash a x := by
    rintro ⟨x, hx, e | ⟨e1, e2, e3⟩⟩
    · exact Acc.lt_ne (hall x hx) e
    · exact h3 (Acc.mem_seats.2 ⟨x, hx, by rw [e1]; exact e3, by rw [e1, e2]⟩)
  have hi : Acc.ins l a = l ++ [a] := by
    obtain ⟨w1, w2⟩ := while_all (p := fun x : Acc.T => Acc.lt x.name a.name) hall
    unfold Acc.ins
    rw [w1, w2]
  exact ⟨h1, hc, hi, by rw [Acc.add_ok h1 hc (by omega), hi]⟩
/-- An account read. -/
def rdAcc (r : RT) : Acc.T × RT :=
  (⟨(stP 32 r).1, (stU (stP 32 r).2).1, (stP 32 (stU (stP 32 r).2).2).1, (stU (stP 32 (stU (stP 32 r).2).2).2).1, (stU (stU (stP 32 (stU (stP 32 r).2).2).2).2).1⟩, (stU (stU (stP 32 (stU (stP 32 r).2).2).2).2).2)
def decLoop : Nat → List Acc.T → RT → Except Int (List Acc.T × RT)
  | 0, l, r => .ok (l, r)
  | j + 1, l, r => if (rdAcc r).2.e ≠ 0 then .error (rdAcc r).2.e else if decBad l (rdAcc r).1 then .error 6 else decLoop j (l ++ [(rdAcc r).1]) (rdAcc r).2
def decFin : Except Int (List Acc.T × RT) → Except Int (List Acc.T)
  | .error e => .error e
  | .ok (l, r) => if endE r ≠ 0 then .error (endE r) else .ok l
def decB (p : List UInt8) : Except Int (List Acc.T) := decFin (decLoop (stC 256 ⟨p, 0⟩).1.toNat [] (stC 256 ⟨p, 0⟩).2)
theorem stG_len {α β : Type} {z : β} {f : List UInt8 → Except Int (α × Nat)} {g : α → β} (r : RT) : (stG z f g r).2.p.length ≤ r.p.length := by
  unfold stG
  split
  · exact Nat.le_refl _
  · split
    · exact Nat.zero_le _
    · simp
theorem rdAcc_len (r : RT) : (rdAcc r).2.p.length ≤ r.p.length := Nat.le_trans (stG_len _) (Nat.le_trans (stG_len _) (Nat.le_trans (stG_len _) (Nat.le_trans (stG_len _) (stG_len _))))
theorem rdP_le {lim : Int} {p q : List UInt8} {m : Nat} (h : rdP lim p = .ok (q, m)) : (q.length : Int) ≤ lim := by
  obtain ⟨n, k, h1, _, rfl, _⟩ := rdP_ok h
  have := (rdC_ok h1).2
  rw [List.length_take]
  omega
theorem stP_le {lim : Int} (hl : 0 ≤ lim) (r : RT) : ((stP lim r).1.length : Int) ≤ lim := by
  by_cases h : r.e = 0
  · rcases hr : rdP lim r.p with E | ⟨q, m⟩
    · rw [show stP lim r = _ from stG_bad h hr]; simpa using hl
    · rw [show stP lim r = _ from stG_ok h hr]; exact rdP_le hr
  · rw [show stP lim r = _ from stG_skip h]; simpa using hl
/-- While a book is read. -/
structure DI (p : List UInt8) (res : Except Int (List Acc.T)) (n i : Nat) (l : List Acc.T) (r : RT) : Prop where
  fine : Acc.Fine l
  len : l.length = i
  le : i ≤ n
  max : n ≤ 256
  e0 : i < n → r.e = 0
  fin : decFin (decLoop (n - i) l r) = res
  pl : r.p.length ≤ p.length
theorem DI.start {p : List UInt8} {res : Except Int (List Acc.T)} {n : Nat} (hn : (stC 256 ⟨p, 0⟩).1 = n) (h1 : n ≤ 256) (h2 : 0 < n → (stC 256 ⟨p, 0⟩).2.e = 0) (h : decB p = res) : DI p res n 0 [] (stC 256 ⟨p, 0⟩).2 :=
  ⟨Acc.Fine.nil, rfl, Nat.zero_le _, h1, h2, by unfold decB at h; rw [hn] at h; simpa using h, stG_len _⟩
theorem DI.step {p : List UInt8} {res : Except Int (List Acc.T)} {n i : Nat} {l : List Acc.T} {r : RT} (h : DI p res n i l r) (hi : i < n) :
    decFin (if (rdAcc r).2.e ≠ 0 then .error (rdAcc r).2.e else if decBad l (rdAcc r).1 then .error 6 else decLoop (n - (i + 1)) (l ++ [(rdAcc r).1]) (rdAcc r).2) = res := by
  have := h.fin
  rw [show n - i = (n - (i + 1)) + 1 by omega] at this
  exact this
theorem DI.err {p : List UInt8} {res : Except Int (List Acc.T)} {n i : Nat} {l : List Acc.T} {r : RT} (h : DI p res n i l r) (hi : i < n) (he : (rdAcc r).2.e ≠ 0) : res = .error (rdAcc r).2.e := by
  have := h.step hi
  rw [if_pos he] at this
  exact this.symm
theorem DI.bad {p : List UInt8} {res : Except Int (List Acc.T)} {n i : Nat} {l : List Acc.T} {r : RT} (h : DI p res n i l r) (hi : i < n) (he : (rdAcc r).2.e = 0) (hb : decBad l (rdAcc r).1) : res = .error 6 := by
  have := h.step hi
  rw [if_neg (by simp [he]), if_pos hb] at this
  exact this.symm
theorem DI.next {p : List UInt8} {res : Except Int (List Acc.T)} {n i : Nat} {l : List Acc.T} {r : RT} (h : DI p res n i l r) (hi : i < n) (he : (rdAcc r).2.e = 0) (hb : ¬ decBad l (rdAcc r).1) : DI p res n (i + 1) (l ++ [(rdAcc r).1]) (rdAcc r).2 := by
  have h1 := h.step hi
  rw [if_neg (by simp [he]), if_neg hb] at h1
  have hl : l.length < 256 := by have := h.len; have := h.max; omega
  obtain ⟨g1, g2, g3, g4⟩ := dec_good h.fine hb hl
  refine ⟨?_, by rw [List.length_append, h.len]; rfl, by omega, h.max, fun _ => he, h1, Nat.le_trans (rdAcc_len r) h.pl⟩
  rw [← g3]
  exact h.fine.ins g1 g2 hl
theorem DI.last {p : List UInt8} {res : Except Int (List Acc.T)} {n i : Nat} {l : List Acc.T} {r : RT} (h : DI p res n i l r) (hi : ¬ i < n) : res = if endE r ≠ 0 then .error (endE r) else .ok l := by
  have := h.fin
  have hle := h.le
  rw [show n - i = 0 by omega] at this
  exact this.symm
end Sx
end Go.Proofs.YtchbgfgboogniaaDoor
