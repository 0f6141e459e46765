/-
  ACCOUNTS: Decode and Encode invert each other; the order of adding; in plain terms.
-/
import Derived.Test.YtchbgfgboogniaaDoorGM
import Derived.Test.YtchbgfgboogniaaDoorGL
namespace Go.Proofs.YtchbgfgboogniaaDoor
open Go.RowKit
namespace Sx
/-! Decode and Encode invert each other. -/
theorem rdAcc_enc {a : Acc.T} {q : List UInt8} (h : Acc.ok a) : rdAcc ⟨encAcc a ++ q, 0⟩ = (a, ⟨q, 0⟩) := by
  obtain ⟨h1, h2, h3, h4, h5, h6, h7, h8⟩ := okR h
  unfold rdAcc encAcc
  simp only [List.append_assoc]
  rw [stP_strE (by omega) (by omega)]
  simp only
  rw [stU_grp (by omega)]
  simp only
  rw [stP_strE (by omega) (by omega)]
  simp only
  rw [stU_grp (by omega)]
  simp only
  rw [stU_grp (by omega)]
  simp only
  rw [show ((a.role.toNat : Nat) : Int) = a.role by omega, show ((a.dep.toNat : Nat) : Int) = a.dep by omega, show ((a.num.toNat : Nat) : Int) = a.num by omega]
theorem rdAcc_inv {r : RT} (h : (rdAcc r).2.e = 0) : r.e = 0 ∧ r.p = encAcc (rdAcc r).1 ++ (rdAcc r).2.p := by
  unfold rdAcc at h ⊢
  simp only at h ⊢
  obtain ⟨e5, n5, v5, p5, -⟩ := stU_inv h
  obtain ⟨e4, n4, v4, p4, -⟩ := stU_inv e5
  obtain ⟨e3, p3, -⟩ := stP_inv e4
  obtain ⟨e2, n2, v2, p2, -⟩ := stU_inv e3
  obtain ⟨e1, p1, -⟩ := stP_inv e2
  refine ⟨e1, ?_⟩
  unfold encAcc
  simp only
  rw [v5, v4, v2, Int.toNat_natCast, Int.toNat_natCast, Int.toNat_natCast]
  simp only [List.append_assoc]
  rw [← p5, ← p4, ← p3, ← p2]
  exact p1
theorem dec_notBad {l rest : List Acc.T} {a : Acc.T} (hf : Acc.Fine (l ++ a :: rest)) : ¬ decBad l a := by
  have hs := List.pairwise_append.1 hf.srt
  have hu := List.pairwise_append.1 hf.uni
  have hok := hf.oks a (by simp)
  rintro (h | h | h)
  · exact h hok
  · rcases Nat.eq_zero_or_pos l.length with h0 | h0
    · have hn : l = [] := List.eq_nil_of_length_eq_zero h0
      subst hn
      rw [lastN_nil] at h
      have h1 := hok.1.2.1
      match hm : a.name, h, h1 with
      | [], _, h1 => simp at h1
      | x :: xs, h, _ => simp [les, Op.bytesLess] at h
    · have hy : l[l.length - 1]? = some l[l.length - 1] := List.getElem?_eq_getElem (by omega)
      rw [lastN_get hy, les_not.2 (hs.2.2 _ (List.getElem_mem (by omega)) a (by simp))] at h
      cases h
  · obtain ⟨x, hx, h3, e⟩ := Acc.mem_seats.1 h
    injection e with e1 e2
    exact hu.2.2 x hx a (by simp) ⟨e1.symm, e2.symm, h3⟩
theorem decLoop_enc : ∀ (rest l : List Acc.T) (q : List UInt8), Acc.Fine (l ++ rest) → decLoop rest.length l ⟨rest.flatMap encAcc ++ q, 0⟩ = .ok (l ++ rest, ⟨q, 0⟩)
  | [], l, q, h => by simp [decLoop]
  | a :: rest, l, q, h => by
    have hr : rdAcc ⟨(a :: rest).flatMap encAcc ++ q, 0⟩ = (a, ⟨rest.flatMap encAcc ++ q, 0⟩) := by
      rw [List.flatMap_cons, List.append_assoc]
      exact rdAcc_enc (h.oks a (by simp))
    rw [List.length_cons]
    unfold decLoop
    rw [hr]
    simp only
    rw [if_neg (by simp), if_neg (dec_notBad h), decLoop_enc rest (l ++ [a]) q (by simpa using h)]
    simp
theorem decB_enc {L : List Acc.T} (h : Acc.Fine L) : decB (encBook L) = .ok L := by
  have hl := h.len
  have hc := decLoop_enc L [] [] (by simpa using h)
  unfold decB encBook
  rw [stC_grp (by omega) (by omega)]
  simp only [Int.toNat_natCast]
  rw [show (L.flatMap encAcc : List UInt8) = L.flatMap encAcc ++ [] by simp, hc]
  simp [decFin, endE]
theorem decLoop_inv : ∀ (j : Nat) (l L : List Acc.T) (r r' : RT), decLoop j l r = .ok (L, r') → r'.e = 0 → r.e = 0 ∧ ∃ rest, L = l ++ rest ∧ rest.length = j ∧ r.p = rest.flatMap encAcc ++ r'.p
  | 0, l, L, r, r', h, h0 => by
    unfold decLoop at h
    injection h with h
    injection h with h1 h2
    subst h1 h2
    exact ⟨h0, [], by simp, rfl, by simp⟩
  | j + 1, l, L, r, r', h, h0 => by
    unfold decLoop at h
    split at h
    · cases h
    · split at h
      · cases h
      · rename_i h1 h2
        have h1 : (rdAcc r).2.e = 0 := by simpa using h1
        obtain ⟨e0, ep⟩ := rdAcc_inv h1
        obtain ⟨_, rest, rfl, hj, hp⟩ := decLoop_inv j _ L _ r' h h0
        exact ⟨e0, (rdAcc r).1 :: rest, by simp, by simp [hj], by rw [ep, hp]; simp⟩
theorem decB_inv {b : List UInt8} {L : List Acc.T} (h : decB b = .ok L) : encBook L = b := by
  unfold decB at h
  rcases hd : decLoop (stC 256 ⟨b, 0⟩).1.toNat [] (stC 256 ⟨b, 0⟩).2 with E | ⟨l, r'⟩
  · rw [hd] at h; cases h
  · rw [hd] at h
    unfold decFin at h
    simp only at h
    split at h
    · cases h
    · rename_i he
      injection h with h
      subst h
      have he : endE r' = 0 := by simpa using he
      have hr : r'.e = 0 ∧ r'.p = [] := by
        unfold endE at he
        split at he
        · cases he
        · rename_i hn
          exact ⟨he, Classical.byContradiction fun hp => hn ⟨he, hp⟩⟩
      obtain ⟨h1, rest, rfl, hj, hp⟩ := decLoop_inv _ _ _ _ _ hd hr.1
      obtain ⟨_, n, v, p, _⟩ := stC_inv h1
      rw [v, Int.toNat_natCast] at hj
      rw [hr.2, List.append_nil] at hp
      unfold encBook
      rw [hj, ← hp]
      exact p.symm
theorem encBook_len {l : List Acc.T} (hf : Acc.Fine l) : (encBook l).length ≤ 1000000 := by
  have h := encPre_len hf l.length
  have := hf.len
  rw [encPre_all (Nat.le_refl _)] at h
  omega
/-! Books in which all accounts stand. -/
theorem Acc.same_of_perm {x y : List Acc.T} (hx : Acc.inOrder x) (hy : Acc.inOrder y) (h : x.Perm y) : x = y :=
  List.Perm.eq_of_pairwise (le := fun (a b : Acc.T) => Acc.lt a.name b.name = true) (fun a b _ _ h1 h2 => by rw [Acc.lt_asym h1] at h2; cases h2) hx hy h
theorem Acc.add_perm {s : List Acc.T} {a : Acc.T} (h : (Acc.add s a).2 = 0) : (Acc.add s a).1.Perm (a :: s) := by
  unfold Acc.add at h ⊢
  split
  · split
    · rename_i h1 h2; rw [if_pos h1, if_pos h2] at h; cases h
    · split
      · rename_i h1 h2 h3; rw [if_pos h1, if_neg h2, if_pos h3] at h; cases h
      · exact Acc.perm_ins s a
  · rename_i h1; rw [if_neg h1] at h; cases h
/-- While accounts are added from the first on, from the last on. -/
def AdUp (l : List Acc.T) (i : Nat) (s : List Acc.T) (rf : Bool) : Prop := i ≤ l.length ∧ Acc.Fine s ∧ (rf = false → s.Perm (l.take i))
def AdDn (l x : List Acc.T) (i : Int) (s : List Acc.T) (rf : Bool) : Prop := -1 ≤ i ∧ i < l.length ∧ Acc.Fine s ∧ (rf = false → x.Perm l ∧ s.Perm (l.drop (i + 1).toNat))
theorem AdUp.start (l : List Acc.T) : AdUp l 0 [] false := ⟨Nat.zero_le _, Acc.Fine.nil, fun _ => by simp⟩
theorem AdUp.next {l s : List Acc.T} {i : Nat} {rf : Bool} {a : Acc.T} (h : AdUp l i s rf) (ha : l[i]? = some a) : AdUp l (i + 1) (Acc.add s a).1 (decide ((Acc.add s a).2 ≠ 0) || rf) := by
  have hi := (List.getElem?_eq_some_iff.1 ha).1
  refine ⟨by omega, h.2.1.add a, fun hr => ?_⟩
  simp only [Bool.or_eq_false_iff, decide_eq_false_iff_not, ne_eq, Decidable.not_not] at hr
  rw [take_snoc ha]
  exact (Acc.add_perm hr.1).trans (((h.2.2 hr.2).cons a).trans (List.perm_append_singleton a _).symm)
theorem AdDn.start {l x : List Acc.T} {rf : Bool} {i : Nat} (h : AdUp l i x rf) (hi : ¬ i < l.length) : AdDn l x ((l.length : Int) - 1) [] rf :=
  ⟨by omega, by omega, Acc.Fine.nil, fun hr => ⟨by have := h.2.2 hr; rwa [List.take_of_length_le (by omega)] at this, by rw [List.drop_eq_nil_of_le (by omega)]⟩⟩
theorem AdDn.next {l x s : List Acc.T} {i : Int} {rf : Bool} {a : Acc.T} (h : AdDn l x i s rf) (h0 : 0 ≤ i) (ha : l[i.toNat]? = some a) : AdDn l x (i - 1) (Acc.add s a).1 (decide ((Acc.add s a).2 ≠ 0) || rf) := by
  obtain ⟨h1, h2, h3, h4⟩ := h
  refine ⟨by omega, by omega, h3.add a, fun hr => ?_⟩
  simp only [Bool.or_eq_false_iff, decide_eq_false_iff_not, ne_eq, Decidable.not_not] at hr
  refine ⟨(h4 hr.2).1, ?_⟩
  have hd : l.drop (i - 1 + 1).toNat = a :: l.drop (i + 1).toNat := by
    rw [show (i - 1 + 1).toNat = i.toNat by omega, show (i + 1).toNat = i.toNat + 1 by omega, List.drop_eq_getElem_cons (List.getElem?_eq_some_iff.1 ha).1, (List.getElem?_eq_some_iff.1 ha).2]
  rw [hd]
  exact (Acc.add_perm hr.1).trans ((h4 hr.2).2.cons a)
theorem AdDn.same {l x s : List Acc.T} {i : Int} {rf : Bool} (h : AdDn l x i s rf) (h0 : i < 0) (hx : Acc.Fine x) : rf = false → x = s := fun hr => by
  obtain ⟨h1, h2, h3, h4⟩ := h
  obtain ⟨p1, p2⟩ := h4 hr
  rw [show (i + 1).toNat = 0 by omega, List.drop_zero] at p2
  exact Acc.same_of_perm hx.srt h3.srt (p1.trans p2.symm)
end Sx
end Go.Proofs.YtchbgfgboogniaaDoor
