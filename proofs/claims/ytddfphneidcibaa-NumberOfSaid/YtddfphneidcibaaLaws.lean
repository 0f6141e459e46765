/-
  LAWS OF SINGLE OPERATIONS in the words of XMem (Blk, Only), over any program: copy, a whole array loaded and stored, append, a slice of bytes turned into a string.
-/
import Derived.Test.YtddfphneidcibaaMem
import Derived.Deep.MidRow
import Derived.Laws.CopyOwn
import Derived.Deep.AppendLies
import Derived.Maps.AppendAt
namespace Go.Proofs.Ytddfphneidcibaa
open Go.RowKit

/-- Filling a row from the front: the first k places hold f, the others z. -/
def fillTo {α : Type} (n : Nat) (f z : Nat → α) (k : Nat) : List α := (List.range n).map fun i => if i < k then f i else z i
section
variable {α : Type} {n : Nat} {f z : Nat → α}
@[simp] theorem fillTo_length (k : Nat) : (fillTo n f z k).length = n := by simp [fillTo]
theorem fillTo_set {k : Nat} (_hk : k < n) : (fillTo n f z k).set k (f k) = fillTo n f z (k + 1) := by
  apply List.ext_getElem?
  intro i
  simp only [List.getElem?_set, fillTo, List.length_map, List.length_range, List.getElem?_map]
  by_cases h : k = i
  · subst h; simp [_hk]
  · by_cases hi : i < n
    · rw [List.getElem?_range hi]
      have : (i < k + 1) ↔ (i < k) := by omega
      simp [h, this]
    · rw [List.getElem?_eq_none (by simpa using hi)]; simp [h]
theorem fillTo_zero : fillTo n f z 0 = (List.range n).map z := by simp [fillTo]
theorem fillTo_all : fillTo n f z n = (List.range n).map f := by
  simp only [fillTo]
  apply List.map_congr_left
  intro i hi
  simp [List.mem_range.1 hi]
theorem fillTo_get {k i : Nat} (hi : i < n) : (fillTo n f z k)[i]? = some (if i < k then f i else z i) := by
  simp [fillTo, hi]
end

section
variable {P : Program} {w : World} {ops : Array Oper} {rest : List Oper} {o : Oper} {a : Act} {Q : Exit → Act → World → Prop}

theorem blk_setRow {g : Nat} {t : TypeId} {cur : List Value} (h : Blk w g t cur) (cs : List Value) : Blk (w.setRow g cs.toArray) g t cs := setRow_heap w g _ _ t _ h
theorem only_setRow (w : World) (g : Nat) (cs : Array Value) : Only [g] w (w.setRow g cs) :=
  ⟨rfl, rfl, rfl, by simp [World.setRow], fun k _ hn => setRow_other w g k cs (fun e => hn (by simp [e]))⟩

/-- copy(dst, src): dst from place off of a block that is known whole. -/
theorem wpl_copy (hgd : o.guard = none) (d s : Operand) (dT sT : TypeId)
    (ho : o.op = .call { callee := .builtin .copy, args := #[d, s], argTypes := #[dT, sT] }) (elem : TypeId) (hu : P.underlying dT = some (.slice elem)) (hsz : (P.info? elem).map (·.size) = some 1)
    (dp sp : Option Addr) (dLen dCap sLen sCap : Nat) (hd : a.eval d = .slice dp dLen dCap) (hs : a.eval s = .slice sp sLen sCap)
    (g off : Nat) (cur : List Value) (t : TypeId) (hg : Blk w g t cur) (cs : List Value) (hn : cs.length = Nat.min sLen dLen)
    (hpos : 0 < cs.length → dp = some ⟨g, off, none⟩ ∧ ∃ ad, sp = some ad ∧ ∀ j v, cs[j]? = some v → w.cell? (ad.add j) = some v)
    (hfit : off + cs.length ≤ cur.length) (h1 : ∀ v ∈ cs, v.oneCell' = true)
    (h : ∀ w', Blk w' g t (splice cur off cs) → Only [g] w w' → wpList P ops Q rest (a.put o.dst (goInt cs.length)) w') :
    wpList P ops Q (o :: rest) a w := by
  by_cases h0 : cs.length = 0
  · obtain rfl : cs = [] := List.eq_nil_of_length_eq_zero h0
    refine wpList_copy_nothing hgd d s dT sT ho elem hu hsz dp sp dLen dCap sLen sCap hd hs (by simpa using hn.symm) ?_
    exact h w (by simpa [splice] using hg) (Only.refl _ _)
  · obtain ⟨rfl, ad, rfl, hsrc⟩ := hpos (by omega)
    refine wpList_copy_own hgd d s dT sT ho elem hu hsz g off dLen dCap ad sLen sCap hd hs cur.toArray t hg cs hn hsrc (by simpa using hfit) h1 ?_
    have e : (cur.toArray.toList.take off ++ (cs ++ cur.toArray.toList.drop (off + cs.length))) = splice cur off cs := by simp [splice]
    rw [e]
    exact h _ (blk_setRow hg _) (only_setRow _ _ _)

theorem blk_setCells {g : Nat} {t : TypeId} : ∀ (l : List Value) (o : Nat) (cur : List Value) (w : World), Blk w g t cur → o + l.length ≤ cur.length → Blk (w.setCells g o l) g t (cur.take o ++ (l ++ cur.drop (o + l.length))) ∧ Only [g] w (w.setCells g o l)
  | [], o, cur, w, h, _ => by simp [World.setCells]; exact ⟨h, Only.refl _ _⟩
  | v :: l, o, cur, w, h, hl => by
    simp only [List.length_cons] at hl
    have h1 := h.set o v
    obtain ⟨h2, h3⟩ := blk_setCells l (o + 1) (cur.set o v) _ h1 (by simp; omega)
    simp only [World.setCells]
    refine ⟨?_, ((Only.refl [g] w).setCell (p := ⟨g, o, none⟩) (.inl (by simp)) v).trans' h3⟩
    have e : (cur.set o v).take (o + 1) ++ (l ++ (cur.set o v).drop (o + 1 + l.length)) = cur.take o ++ (v :: l ++ cur.drop (o + (v :: l).length)) := by
      apply List.ext_getElem?
      intro i
      simp only [List.getElem?_append, List.getElem?_take, List.getElem?_set, List.getElem?_drop, List.length_take, List.length_set, List.length_cons, List.getElem?_cons]
      by_cases ha : i < o
      · rw [if_pos (by omega), if_pos (by omega), if_neg (by omega), if_pos (by omega), if_pos ha]
      · by_cases hb : i = o
        · subst hb; rw [if_pos (by omega), if_pos (by omega), if_pos rfl, if_pos (by omega), if_neg (by omega), if_pos (by omega), if_pos (by omega)]
        · by_cases hc : i < o + 1 + l.length
          · rw [if_neg (by omega), if_pos (by omega), if_neg (by omega), if_pos (by omega), if_neg (by omega)]
            congr 1; omega
          · rw [if_neg (by omega), if_neg (by omega), if_neg (by omega), if_neg (by omega), if_neg (by omega)]
            congr 1; omega
    rw [← e]
    exact h2

/-- A whole array (or struct) stored over a block that is known whole. -/
theorem wpl_store_all (hgd : o.guard = none) (ty : TypeId) (x y : Operand) (ho : o.op = .store ty x y)
    (g : Nat) (cells : List Value) (hx : a.eval x = .pointer (some ⟨g, 0, none⟩)) (hy : a.eval y = .agg cells.toArray) (t : TypeId) (cur : List Value) (hb : Blk w g t cur) (hl : cur.length = cells.length)
    (hi : (P.info? ty).map (·.size) = some cells.length) (h1 : ∀ v ∈ cells, v.oneCell' = true)
    (h : ∀ w', Blk w' g t cells → Only [g] w w' → wpList P ops Q rest (a.put o.dst undef) w') : wpList P ops Q (o :: rest) a w := by
  refine wpList_store_mid hgd ty x y ho g 0 cells.toArray hx hy ?_ (by simpa using hi) (by simpa using h1) ?_
  · intro j hj
    refine ⟨?_, hb.frozen _⟩
    rw [Nat.zero_add, hb.cell]
    have : j < cur.length := by simpa [hl] using hj
    simp [this]
  · obtain ⟨h2, h3⟩ := blk_setCells cells 0 cur w hb (by omega)
    simp only [List.take_zero, List.nil_append, Nat.zero_add, ← hl, List.drop_length, List.append_nil] at h2
    exact h _ (by simpa using h2) (by simpa using h3)

/-- A whole array (or struct) loaded from the middle of a block. -/
theorem wpl_load_at (hgd : o.guard = none) (ty : TypeId) (x : Operand) (ho : o.op = .load ty x)
    (b off : Nat) (hx : a.eval x = .pointer (some ⟨b, off, none⟩)) (cs : List Value) (d : TypeDesc) (hu : P.underlying ty = some d) (hd : d.isRow = true)
    (hi : (P.info? ty).map (·.size) = some cs.length) (hc : ∀ j, j < cs.length → w.cell? ⟨b, off + j, none⟩ = cs[j]?)
    (h : wpList P ops Q rest (a.put o.dst (.agg cs.toArray)) w) : wpList P ops Q (o :: rest) a w :=
  wpList_load_mid hgd ty x ho b off hx cs d (fun j _ hv => (hc j (List.getElem?_eq_some_iff.1 hv).1).trans hv) hu hd hi h

/-- T{..}: what it comes to is given as an equation on its run. -/
theorem wpl_build (hgd : o.guard = none) (t : TypeId) (parts : Array (Nat × Operand)) (ho : o.op = .build t parts) (v : Value)
    (hrun : (Instr.build t (parts.map fun (i, x) => (i, a.eval x))).run P w = .ok v w) (h : wpList P ops Q rest (a.put o.dst v) w) : wpList P ops Q (o :: rest) a w :=
  wpList_plain hgd fun K hK => by
    unfold Oper.wp execOp
    simp only [ho, Sem.run_bind, hrun, Result.andThen_ok, Sem.run_pure]
    exact hK _ _ h

/-- x[k] of an array value whose elements are one cell each. -/
theorem run_index_row {t e : TypeId} {n : Nat} {cs : List Value} {k : Nat} {kd : IntKind} {v : Value} (hu : P.underlying t = some (.array n e)) {d : TypeDesc} (he : P.underlying e = some d) (hd : d.isRow = false)
    (hsz : (P.info? e).map (·.size) = some 1) (hk : k < n) (hv : cs[k]? = some v) (w : World) : (Instr.index t (.agg cs.toArray) (.int kd (k : Int))).run P w = .ok v w := by
  obtain ⟨i, hi, hs⟩ := Option.map_eq_some_iff.1 hsz
  have h0 : (0 : Int) ≤ (k : Int) ∧ (k : Int) < (n : Int) := ⟨by omega, by omega⟩
  have hag : (isAgg e).run P w = .ok false w := by
    cases d <;> simp [TypeDesc.isRow] at hd <;> simp [isAgg, run_underlying he]
  simp only [Instr.index, asIntOf, Sem.run_bind, Sem.run_pure, Result.andThen_ok, run_underlying hu]
  rw [if_pos h0]
  simp [sizeOf, typeInfo, hi, hs, part, hag, hv]
end
end Go.Proofs.Ytddfphneidcibaa
