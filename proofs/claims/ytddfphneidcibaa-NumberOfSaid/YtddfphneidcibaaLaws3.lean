/-
  append onto a slice of the call's own, in the words of XMem; over any program.
-/
import Derived.Test.YtddfphneidcibaaLaws2
namespace Go.Proofs.Ytddfphneidcibaa
open Go.RowKit

/-- A slice that reads as these cells (one cell an element). -/
def RV (w : World) (A : Option Addr) (xs : List Value) : Prop :=
  0 < xs.length → ∃ g o, A = some ⟨g, o, none⟩ ∧ g < w.heap.size ∧ ∀ j, j < xs.length → w.cell? ⟨g, o + j, none⟩ = xs[j]?
namespace RV
variable {w w' : World} {A : Option Addr} {xs : List Value} {S : List Nat}
theorem keep (h : RV w A xs) (ho : Only S w w') (hn : ∀ p, A = some p → p.block ∉ S) : RV w' A xs := by
  intro h0
  obtain ⟨g, o, rfl, hg, hc⟩ := h h0
  exact ⟨g, o, rfl, Nat.lt_of_lt_of_le hg ho.size, fun j hj => (ho.cell (p := ⟨g, o + j, none⟩) hg (hn ⟨g, o, none⟩ rfl)).trans (hc j hj)⟩
theorem keep0 (h : RV w A xs) (ho : Only [] w w') : RV w' A xs := h.keep ho (by simp)
theorem nil : RV w A [] := fun h => absurd h (by simp)
theorem one (w : World) (t : TypeId) (v : Value) : RV (w.alloc (.cells #[v] t)) (some ⟨w.heap.size, 0, none⟩) [v] := by
  intro _
  refine ⟨w.heap.size, 0, rfl, by simp, fun j hj => ?_⟩
  have : j = 0 := by simpa using hj
  subst this
  exact (Blk.new w t [v]).cellv rfl
end RV

/-- A slice that the call itself made: nil, or the front of a block of its own, whose number is G. -/
def OwnS (w : World) (e : TypeId) (A : Option Addr) (c : Nat) (xs : List Value) (G : Option Nat) : Prop :=
  (A = none ∧ c = 0 ∧ xs = [] ∧ G = none) ∨ ∃ g rest, A = some ⟨g, 0, none⟩ ∧ G = some g ∧ Blk w g e (xs ++ rest) ∧ xs.length + rest.length = c ∧ c ≤ maxLen
namespace OwnS
variable {w w' : World} {e : TypeId} {A : Option Addr} {c : Nat} {xs : List Value} {G : Option Nat} {S : List Nat}
theorem none (w : World) (e : TypeId) : OwnS w e none 0 [] none := .inl ⟨rfl, rfl, rfl, rfl⟩
theorem of_blk {g : Nat} (h : Blk w g e xs) (hm : xs.length ≤ maxLen) : OwnS w e (some ⟨g, 0, Option.none⟩) xs.length xs (some g) :=
  .inr ⟨g, [], rfl, rfl, by simpa using h, by simp, hm⟩
theorem keep (h : OwnS w e A c xs G) (ho : Only S w w') (hn : ∀ g, G = some g → g ∉ S) : OwnS w' e A c xs G := by
  rcases h with h | ⟨g, r, h1, h2, h3, h4⟩
  · exact .inl h
  · exact .inr ⟨g, r, h1, h2, h3.keep ho (hn g h2), h4⟩
theorem lt (h : OwnS w e A c xs G) : ∀ g, G = some g → g < w.heap.size := by
  intro g hg
  rcases h with h | ⟨g', r, _, h2, h3, _⟩
  · rw [h.2.2.2] at hg; cases hg
  · rw [h2] at hg; injection hg with hg; subst hg; exact h3.lt
theorem le (h : OwnS w e A c xs G) : xs.length ≤ c := by
  rcases h with h | ⟨g, r, _, _, _, h4, _⟩
  · simp [h.2.2.1]
  · omega
theorem reads (h : OwnS w e A c xs G) : RV w A xs := by
  intro h0
  rcases h with h | ⟨g, r, h1, _, h3, _⟩
  · rw [h.2.2.1] at h0; simp at h0
  · exact ⟨g, 0, h1, h3.lt, fun j hj => by rw [Nat.zero_add, h3.cell, List.getElem?_append_left hj]⟩
theorem blk (h : OwnS w e A c xs G) (h0 : 0 < xs.length) : ∃ g rest, A = some ⟨g, 0, Option.none⟩ ∧ G = some g ∧ Blk w g e (xs ++ rest) := by
  rcases h with h | ⟨g, r, h1, h2, h3, _⟩
  · rw [h.2.2.1] at h0; simp at h0
  · exact ⟨g, r, h1, h2, h3⟩
theorem drew (h : OwnS w e A c xs G) : OwnS w.drew e A c xs G := h
theorem owns (h : OwnS w e A c xs G) : w.ownsRow 0 e 1 (.slice A xs.length c) xs.length xs := by
  refine ⟨by simp, ?_⟩
  rcases h with ⟨rfl, rfl, rfl, rfl⟩ | ⟨g, r, rfl, rfl, h3, h4, h5⟩
  · exact .inl ⟨rfl, rfl⟩
  · exact .inr ⟨g, c, (xs ++ r).toArray, rfl, Nat.zero_le _, h3, by omega, h5, by simp [h4], by simp⟩
theorem ownBlock (h : OwnS w e A c xs G) : (Value.slice A xs.length c).ownBlock = G := by
  rcases h with ⟨rfl, rfl, rfl, rfl⟩ | ⟨g, r, rfl, rfl, h3, h4, h5⟩ <;> simp [Value.ownBlock]
theorem of_owns {v : Value} {n : Nat} (h : w.ownsRow 0 e 1 v n xs) : ∃ A c, v = .slice A n c ∧ n = xs.length ∧ OwnS w e A c xs v.ownBlock := by
  have hn : n = xs.length := by have := h.1; omega
  rcases h.2 with ⟨rfl, h0⟩ | ⟨g, cap, cur, rfl, _, hh, hnc, hm, hs, hx⟩
  · have : xs = [] := List.eq_nil_of_length_eq_zero (by omega)
    exact ⟨Option.none, 0, by rw [h0], hn, .inl ⟨rfl, rfl, this, by simp [Value.ownBlock]⟩⟩
  · refine ⟨_, _, rfl, hn, .inr ⟨g, cur.toList.drop n, rfl, by simp [Value.ownBlock], ?_, ?_, hm⟩⟩
    · have e1 : xs ++ cur.toList.drop n = cur.toList := by rw [← hx, Nat.mul_one]; exact List.take_append_drop _ _
      unfold Blk
      rw [e1]
      simpa using hh
    · have : cur.toList.length = cap := by simp [hs]
      rw [List.length_drop, this]; omega
end OwnS

section
variable {P : Program} {w : World} {ops : Array Oper} {rest : List Oper} {o : Oper} {a : Act} {Q : Exit → Act → World → Prop}

/-- append(s, x...): s the call's own, x whatever reads as cells. -/
theorem wpl_append (hgd : o.guard = none) (s x : Operand) (t : TypeId) (ho : o.op = .call { callee := .builtin .append, args := #[s, x], argTypes := #[t, t] })
    (e : TypeId) (i : TypeInfo) (z : Value) (bytes : Nat) (ht : P.underlying t = some (.slice e)) (hi : P.info? e = some i) (hz : i.zero = some z) (hsize : i.size = 1) (hby : i.bytes = bytes) (hzs : z.cells.size = 1)
    (A : Option Addr) (n c : Nat) (xs : List Value) (G : Option Nat) (hs : a.eval s = .slice A n c) (hn : n = xs.length) (hown : OwnS w e A c xs G)
    (B : Option Addr) (m d : Nat) (news : List Value) (hx : a.eval x = .slice B m d) (hm : m = news.length) (hr : RV w B news) (h1 : ∀ u ∈ news, u.oneCell' = true)
    (hlen : xs.length + news.length ≤ 1099511627776) (hbs : bytes ≤ 128)
    (h : ∀ A' c' w' G', OwnS w' e A' c' (xs ++ news) G' → Only G.toList w w' → (G' = G ∨ G' = some w.heap.size) → wpList P ops Q rest (a.put o.dst (.slice A' (n + m) c')) w') : wpList P ops Q (o :: rest) a w := by
  subst hn hm
  refine wpList_plain hgd fun K hK => ?_
  unfold Oper.wp execOp
  simp only [ho, resolve, invoke, builtin, Sem.run_bind, Sem.run_pure, Result.andThen_ok, List.map_toArray, List.map_cons, List.map_nil, hs, hx]
  by_cases hB : ∃ ad, B = some ad
  · obtain ⟨ad, rfl⟩ := hB
    have hnews : ∀ j u, news[j]? = some u → w.cell? (ad.add j) = some u := by
      intro j u hu
      have hj := (List.getElem?_eq_some_iff.1 hu).1
      obtain ⟨g, o', e1, _, hc⟩ := hr (by omega)
      injection e1 with e1
      subst e1
      rw [Addr.add_mid, hc j hj, hu]
    obtain ⟨v', w', hrun, h2, h3, _, h5⟩ := run_append_own_at (P := P) w 0 t o.type e i z 1 bytes ht hi hz hsize hby hzs (by decide) _ _ xs hown.owns ad news.length d news (by simp) hnews h1
      (by simp only [maxLen]; omega) (by have := Nat.mul_le_mul hlen hbs; omega) (Nat.zero_le _)
    rw [hrun]
    obtain ⟨A', c', rfl, _, h6⟩ := OwnS.of_owns h2
    rw [hown.ownBlock] at h3 h5
    exact hK _ _ (h A' c' w' _ h6 (Only.of_grown h3) h5)
  · have hB' : B = none := by
      cases B with
      | none => rfl
      | some ad => exact absurd ⟨ad, rfl⟩ hB
    subst hB'
    have hm0 : news = [] := by
      rcases Nat.eq_zero_or_pos news.length with h0 | h0
      · exact List.eq_nil_of_length_eq_zero h0
      · obtain ⟨g, o', e1, _⟩ := hr h0
        cases e1
    subst hm0
    have hrun : (Builtin.append_ #[t, t] o.type #[.slice A xs.length c, .slice none 0 d]).run P w = .ok (.slice A xs.length c) w := by
      have hxc := hown.le
      rcases hown with ⟨rfl, rfl, rfl, rfl⟩ | ⟨g, r, rfl, rfl, h3, h4, h5⟩
      · simp [Builtin.append_, run_underlying ht, sizeOf, typeInfo, hi, Builtin.lenOf, Builtin.firstCells]
      · simp [Builtin.append_, run_underlying ht, sizeOf, typeInfo, hi, Builtin.lenOf, Builtin.firstCells, hxc, storeCells]
    simp only [List.length_nil]
    rw [hrun]
    refine hK _ _ (h A c w G (by simpa using hown) (Only.refl _ _) (.inl rfl))
end
end Go.Proofs.Ytddfphneidcibaa
