/-
  append onto a slice of the call's own, told exactly: in place, or into a new block with nothing else changed. Over any program; then for bytes.
-/
import Derived.Test.YtglbgocldenooaaDoorLaws5
namespace Go.Proofs.YtglbgocldenooaaDoor
open Go.RowKit

theorem OwnS.front {w : World} {e : TypeId} {A : Option Addr} {c : Nat} {xs ys : List Value} {G : Option Nat} (h : OwnS w e A c (xs ++ ys) G) : OwnS w e A c xs G := by
  rcases h with ⟨h1, h2, h3, h4⟩ | ⟨g, r, h1, h2, h3, h4, h5⟩
  · exact .inl ⟨h1, h2, (List.append_eq_nil_iff.1 h3).1, h4⟩
  · exact .inr ⟨g, ys ++ r, h1, h2, by rw [← List.append_assoc]; exact h3, by simp at h4 ⊢; omega, h5⟩

section
variable {P : Program} {w : World} {ops : Array Oper} {rest : List Oper} {o : Oper} {a : Act} {Q : Exit → Act → World → Prop}

theorem run_app (t ty : TypeId) (e : TypeId) (i : TypeInfo) (z : Value) (bytes : Nat) (ht : P.underlying t = some (.slice e)) (hi : P.info? e = some i) (hz : i.zero = some z) (hsize : i.size = 1) (hby : i.bytes = bytes) (hzs : z.cells.size = 1)
    (A : Option Addr) (c : Nat) (xs : List Value) (G : Option Nat) (hown : OwnS w e A c xs G) (B : Option Addr) (d : Nat) (news : List Value) (hr : RV w B news) (h1 : ∀ u ∈ news, u.oneCell' = true)
    (hlen : xs.length + news.length ≤ 1099511627776) (hbs : bytes ≤ 128) :
    ∃ A' c' w' G', (Builtin.append_ #[t, t] ty #[.slice A xs.length c, .slice B news.length d]).run P w = .ok (.slice A' (xs.length + news.length) c') w' ∧ OwnS w' e A' c' (xs ++ news) G' ∧
      ((G' = G ∧ A' = A ∧ c' = c ∧ Only G.toList w w') ∨ (G' = some w.heap.size ∧ Only [] w w')) := by
  by_cases hB : ∃ ad, B = some ad
  · obtain ⟨ad, rfl⟩ := hB
    have hnews : ∀ j u, news[j]? = some u → w.cell? (ad.add j) = some u := by
      intro j u hu
      have hj := (List.getElem?_eq_some_iff.1 hu).1
      obtain ⟨g, o', e1, _, hc⟩ := hr (by omega)
      injection e1 with e1
      subst e1
      rw [Addr.add_mid, hc j hj, hu]
    obtain ⟨v', w', hrun, h2, h3, h4, h5⟩ := run_append_own_at (P := P) w 0 t ty e i z 1 bytes ht hi hz hsize hby hzs (by decide) _ _ xs hown.owns ad news.length d news (by simp) hnews h1
      (by simp only [maxLen]; omega) (by have := Nat.mul_le_mul hlen hbs; omega) (Nat.zero_le _)
    obtain ⟨A', c', rfl, _, h6⟩ := OwnS.of_owns h2
    rw [hown.ownBlock] at h3 h5
    refine ⟨A', c', w', _, hrun, h6, ?_⟩
    have hbb := Nat.mul_le_mul hlen hbs
    rcases hown with ⟨rfl, rfl, rfl, rfl⟩ | ⟨g, r, rfl, rfl, hb, hc, hm⟩
    · by_cases hm0 : news.length = 0
      · have hn0 : news = [] := List.eq_nil_of_length_eq_zero hm0
        subst hn0
        have hA' := h4.2 ⟨rfl, rfl⟩
        injection hA' with e1 e2 e3
        subst e1 e3
        exact .inl ⟨by simp [Value.ownBlock], rfl, rfl, Only.of_grown h3⟩
      · have hr2 := run_append_nil (P := P) w t ty e i z ht hi hz ad news.length d news (by rw [hsize, Nat.mul_one]) hnews (by omega) (by omega) (by rw [hby]; have := Nat.mul_le_mul (show news.length ≤ 1099511627776 by simp at hlen; omega) hbs; omega)
        rw [show ([] : List Value).length = 0 from rfl] at hrun
        rw [hr2] at hrun
        injection hrun with e1 e2
        injection e1 with e3 e4 e5
        subst e2 e3 e5
        exact .inr ⟨by simp [Value.ownBlock], ((Only.refl [] w).drew).alloc _⟩
    · by_cases hroom : xs.length + news.length ≤ c
      · have hr2 := run_append_room (P := P) w t ty e i ht hi g xs.length c (xs ++ r).toArray hb ad news.length d news (by rw [hsize, Nat.mul_one]) hnews h1 hroom (by rw [hsize]; simp; omega)
        rw [hr2] at hrun
        injection hrun with e1 e2
        injection e1 with e3 e4 e5
        subst e3 e5
        exact .inl ⟨by simp [Value.ownBlock], rfl, rfl, Only.of_grown h3⟩
      · have hr2 := run_append_grow (P := P) w t ty e i z ht hi hz ⟨g, 0, none⟩ xs.length c xs (by rw [hsize, Nat.mul_one]) (fun j v hv => by
            have hj := (List.getElem?_eq_some_iff.1 hv).1
            rw [Addr.add_mid, Nat.zero_add, hb.cell, List.getElem?_append_left hj, hv]) ad news.length d news (by rw [hsize, Nat.mul_one]) hnews (by omega) (by omega) (growslice_fits (by omega) (by rw [hby]; omega))
        rw [hr2] at hrun
        injection hrun with e1 e2
        injection e1 with e3 e4 e5
        subst e2 e3 e5
        exact .inr ⟨by simp [Value.ownBlock], ((Only.refl [] w).drew).alloc _⟩
  · have hB' : B = none := by
      cases B with
      | none => rfl
      | some ad => exact absurd ⟨ad, rfl⟩ hB
    subst hB'
    have hm0 : news = [] := by
      rcases Nat.eq_zero_or_pos news.length with h0 | h0
      · exact List.eq_nil_of_length_eq_zero h0
      · obtain ⟨g, o', e1, _⟩ := hr h0
        cases e1
    subst hm0
    have hrun : (Builtin.append_ #[t, t] ty #[.slice A xs.length c, .slice none 0 d]).run P w = .ok (.slice A xs.length c) w := by
      have hxc := hown.le
      rcases hown with ⟨rfl, rfl, rfl, rfl⟩ | ⟨g, r, rfl, rfl, h3, h4, h5⟩
      · simp [Builtin.append_, run_underlying ht, sizeOf, typeInfo, hi, Builtin.lenOf, Builtin.firstCells]
      · simp [Builtin.append_, run_underlying ht, sizeOf, typeInfo, hi, Builtin.lenOf, Builtin.firstCells, hxc, storeCells]
    exact ⟨A, c, w, G, hrun, by simpa using hown, .inl ⟨rfl, rfl, rfl, Only.refl _ _⟩⟩
end

section
variable {w : World} {ops : Array Oper} {rest : List Oper} {o : Oper} {a : Act} {Q : Exit → Act → World → Prop}
theorem wpl_app8 (hgd : o.guard = none) (s x : Operand) (ho : o.op = .call { callee := .builtin .append, args := #[s, x], argTypes := #[22, 22] })
    (A : Option Addr) (n c : Nat) (xs : List UInt8) (G : Option Nat) (hs : a.eval s = .slice A n c) (hn : n = xs.length) (hown : OwnS w 5 A c (cellsOf xs) G)
    (B : Option Addr) (m d : Nat) (ys : List UInt8) (hx : a.eval x = .slice B m d) (hm : m = ys.length) (hr : RV w B (cellsOf ys))
    (hlen : xs.length + ys.length ≤ 1099511627776)
    (h : ∀ A' c' w' G', OwnS w' 5 A' c' (cellsOf (xs ++ ys)) G' → ((G' = G ∧ A' = A ∧ c' = c ∧ Only G.toList w w') ∨ (G' = some w.heap.size ∧ Only [] w w')) → wpList Tryd.prog ops Q rest (a.put o.dst (.slice A' (n + m) c')) w') : wpList Tryd.prog ops Q (o :: rest) a w := by
  have hi := info8
  cases hI : Tryd.prog.info? 5 with
  | none => rw [hI] at hi; cases hi
  | some i =>
    rw [hI] at hi
    injection hi with hi
    injection hi with h1 h2
    injection h2 with h2 h3
    obtain ⟨A', c', w', G', hrun, hown', hG⟩ := run_app (P := Tryd.prog) 22 o.type 5 i (.int .u8 0) 1 Tryd.underlying22 hI h1 h2 h3 rfl A c (cellsOf xs) G hown B d (cellsOf ys) hr cellsOf_one (by simpa using hlen) (by decide)
    subst hn hm
    refine wpList_plain hgd fun K hK => ?_
    unfold Oper.wp execOp
    simp only [ho, resolve, invoke, builtin, Sem.run_bind, Sem.run_pure, Result.andThen_ok, List.map_toArray, List.map_cons, List.map_nil, hs, hx]
    simp only [cellsOf_length] at hrun
    rw [hrun]
    exact hK _ _ (h A' c' w' G' (by rw [cellsOf_append]; exact hown') hG)
end
end Go.Proofs.YtglbgocldenooaaDoor
