/-
  make and []byte(s), in the words of XMem; over any program, then for bytes.
-/
import Derived.Test.YtglbgocldenooaaDoorLaws6
import Derived.Laws.MakeOwn
import Derived.Lib.ConvBytes
namespace Go.Proofs.YtglbgocldenooaaDoor
open Go.RowKit

theorem madeCells_one (z : Value) (n : Nat) : (madeCells #[z] n).toList = List.replicate n z := by
  apply List.ext_getElem?
  intro i
  simp only [madeCells, Array.toList_map, Array.toList_range, List.getElem?_map, List.getElem?_replicate]
  by_cases h : i < n
  · rw [List.getElem?_range h]; simp [h, Nat.mod_one]
  · rw [List.getElem?_eq_none (by simpa using h)]; simp [h]

section
variable {P : Program} {w : World} {ops : Array Oper} {rest : List Oper} {o : Oper} {a : Act} {Q : Exit → Act → World → Prop}
/-- make([]T, l, c), an element one cell. -/
theorem wpl_make (hgd : o.guard = none) (t : TypeId) (x y : Operand) (ho : o.op = .makeSlice t x y) (e : TypeId) (z : Value) (bytes : Nat) (ht : P.underlying t = some (.slice e))
    (hinfo : (P.info? e).map (fun i => (i.zero, i.size, i.bytes)) = some (some z, 1, bytes)) (hzc : z.cells = #[z]) (kl kc : IntKind) (li ci : Int) (l c : Nat) (hl : li = (l : Int)) (hci : ci = (c : Int)) (hx : a.eval x = .int kl li) (hy : a.eval y = .int kc ci)
    (hlc : l ≤ c) (hc : c ≤ 1099511627776) (hb : bytes ≤ 128)
    (h : ∀ w', OwnS w' e (some ⟨w.heap.size, 0, none⟩) c (List.replicate l z) (some w.heap.size) → Blk w' w.heap.size e (List.replicate c z) → Only [] w w' → wpList P ops Q rest (a.put o.dst (.slice (some ⟨w.heap.size, 0, none⟩) l c)) w') : wpList P ops Q (o :: rest) a w := by
  subst hl hci
  refine wpList_plain hgd fun K hK => ?_
  cases hI : P.info? e with
  | none => rw [hI] at hinfo; cases hinfo
  | some i =>
    rw [hI] at hinfo
    injection hinfo with hinfo
    injection hinfo with h1 h2
    injection h2 with h2 h3
    have hbc := Nat.mul_le_mul hb hc
    have hbI : (i.bytes : Int) * (c : Int) ≤ 281474976710656 := by
      rw [h3]
      have h4 : ((bytes * c : Nat) : Int) ≤ 281474976710656 := by omega
      rw [Int.natCast_mul] at h4
      exact h4
    have hrun := run_make (P := P) w t e i z ht hI h1 kl kc (l : Int) (c : Int) (by omega) (by omega) hbI (by omega)
    unfold Oper.wp execOp
    simp only [ho, hx, hy, Sem.run_bind, hrun, Result.andThen_ok, Sem.run_pure]
    simp only [Int.toNat_natCast, h2, Nat.mul_one, hzc]
    have hB : Blk (w.alloc (.cells (madeCells #[z] c) e)) w.heap.size e (List.replicate c z) := by
      have h4 := Blk.new w e (madeCells #[z] c).toList
      rw [Array.toArray_toList] at h4
      rw [← madeCells_one]
      exact h4
    refine hK _ _ (h _ (.inr ⟨w.heap.size, List.replicate (c - l) z, rfl, rfl, ?_, by simp; omega, by simp only [maxLen]; omega⟩) hB ((Only.refl [] w).alloc _))
    rw [List.replicate_append_replicate, show l + (c - l) = c by omega]
    exact hB
/-- []byte(s). -/
theorem wpl_bytes (hgd : o.guard = none) (src dst e : TypeId) (x : Operand) (ho : o.op = .convert src dst x) (hs : P.underlying src = some .string) (hd : P.underlying dst = some (.slice e)) (he : P.underlying e = some (.int .u8))
    (s : ByteArray) (bs : List UInt8) (hx : a.eval x = .string s) (hbs : s.data.toList = bs)
    (h : ∀ c w', bs.length ≤ c → RV w' (some ⟨w.heap.size, 0, none⟩) (cellsOf bs) → Only [] w w' → wpList P ops Q rest (a.put o.dst (.slice (some ⟨w.heap.size, 0, none⟩) bs.length c)) w') : wpList P ops Q (o :: rest) a w := by
  subst hbs
  refine wpList_plain hgd fun K hK => ?_
  have hrun := run_bytes_of_string (P := P) w src dst e s hs hd he
  unfold Oper.wp execOp
  simp only [ho, hx, Sem.run_bind, hrun, Result.andThen_ok, Sem.run_pure]
  have hsz : s.size = s.data.toList.length := by rw [Array.length_toList]; rfl
  have hge := grownCap_ge w s.size 0 e
  have := h (grownCap w s.size 0 e) (w.drew.alloc (.cells (bytesRow s (grownCap w s.size 0 e)) e ((bytesRow s (grownCap w s.size 0 e)).size, (bytesRow s (grownCap w s.size 0 e)).size + 1))) (by rw [← hsz]; exact hge) ?_ (((Only.refl [] w).drew).alloc _)
  · rw [← hsz] at this
    exact hK _ _ this
  · intro _
    refine ⟨_, 0, rfl, by simp, fun j hj => ?_⟩
    have hj' : j < s.data.toList.length := by simpa using hj
    rw [Nat.zero_add]
    have hb : (w.drew.alloc (.cells (bytesRow s (grownCap w s.size 0 e)) e ((bytesRow s (grownCap w s.size 0 e)).size, (bytesRow s (grownCap w s.size 0 e)).size + 1))).heap[w.heap.size]? = some (.cells (bytesRow s (grownCap w s.size 0 e)) e ((bytesRow s (grownCap w s.size 0 e)).size, (bytesRow s (grownCap w s.size 0 e)).size + 1)) := heap_alloc_new w.drew _
    simp only [World.cell?, hb]
    rw [cellsOf_get hj']
    have hjs : j < s.data.size := by simpa using hj'
    have e2 : (bytesRow s (grownCap w s.size 0 e))[j]? = some (Value.int .u8 (s.data.toList[j].toNat : Int)) := by
      unfold bytesRow
      rw [Array.getElem?_append_left (by simpa using hjs)]
      rw [Array.getElem?_map, Array.getElem?_eq_getElem hjs]
      simp
    simpa using e2
end
end Go.Proofs.YtglbgocldenooaaDoor
