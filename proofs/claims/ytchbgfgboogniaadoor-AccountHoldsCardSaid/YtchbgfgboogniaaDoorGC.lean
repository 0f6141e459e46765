/-
  WHAT EVERY WALK NEEDS, over any program: blocks made since, slices as lists, append, make, strings out of bytes; cells of one kind of integer.
-/
import Derived.Test.YtchbgfgboogniaaDoorGA
import Derived.Test.YtchbgfgboogniaaDoorGB
import Derived.Laws.MakeOwn
import Derived.Lib.ConvBytes
import Derived.Laws.BitsAllLaws
namespace Go.Proofs.YtchbgfgboogniaaDoor
open Go.RowKit
/-- A block made since w0. -/
def New (w0 : World) (G : Option Nat) : Prop := ∀ g, G = some g → w0.heap.size ≤ g
theorem New.none (w0 : World) : New w0 none := fun g h => by cases h
theorem New.next {w0 w : World} {G G' : Option Nat} (h : New w0 G) (ho : w0.heap.size ≤ w.heap.size) (hG : G' = G ∨ G' = some w.heap.size) : New w0 G' := by
  rcases hG with rfl | rfl
  · exact h
  · intro g hg; injection hg with hg; omega
theorem New.far {w0 : World} {G : Option Nat} (h : New w0 G) {g : Nat} (hg : g < w0.heap.size) : g ∉ G.toList := by
  intro hm
  cases G with
  | none => simp at hm
  | some x => simp at hm; have := h x rfl; omega
theorem New.out {w0 : World} {G : Option Nat} (h : New w0 G) {S : List Nat} : ∀ x ∈ G.toList, x < w0.heap.size → x ∈ S := fun _ hx hlt => absurd hx (h.far hlt)
theorem New.le {w0 w1 : World} {G : Option Nat} (h : New w1 G) (hs : w0.heap.size ≤ w1.heap.size) : New w0 G := fun g hg => Nat.le_trans hs (h g hg)
theorem Only.dd {S : List Nat} {w w' : World} (h : Only S w w') : Only S w.drew w'.drew := ⟨h.os, h.tape, h.output, h.size, h.block⟩
theorem Only.d {S : List Nat} {w w' : World} (h : Only S w w') : Only S w.drew w' := ⟨h.os, h.tape, h.output, h.size, h.block⟩
theorem RV.drew {w : World} {A : Option Addr} {xs : List Value} (h : RV w A xs) : RV w.drew A xs := h
theorem RV.new {w : World} {t : TypeId} {arr : Array Value} {xs : List Value} (h : arr = xs.toArray) : RV (w.alloc (.cells arr t)) (some ⟨w.heap.size, 0, none⟩) xs := by
  subst h
  exact fun _ => ⟨_, 0, rfl, (Blk.new w t xs).lt, fun j _ => by rw [Nat.zero_add]; exact (Blk.new w t xs).cell j⟩
theorem RV.slice {w : World} {A : Option Addr} {xs : List Value} {g o : Nat} (hA : A = some ⟨g, o, none⟩) (h : RV w A xs) (i n : Nat) : RV w (some ⟨g, o + i, none⟩) ((xs.drop i).take n) := by
  intro h0
  have hx : 0 < xs.length := by simp at h0; omega
  obtain ⟨g', o', e, hg, hc⟩ := h hx
  rw [hA] at e
  injection e with e
  injection e with e1 e2
  subst e1 e2
  refine ⟨g, o + i, rfl, hg, fun j hj => ?_⟩
  have hj' : i + j < xs.length ∧ j < n := by simp at hj; omega
  rw [Nat.add_assoc, hc (i + j) hj'.1, List.getElem?_take, if_pos hj'.2, List.getElem?_drop]
theorem Blk.rv {w : World} {g : Nat} {t : TypeId} {cs : List Value} (h : Blk w g t cs) : RV w (some ⟨g, 0, none⟩) cs := fun _ => ⟨_, 0, rfl, h.lt, fun j _ => by rw [Nat.zero_add]; exact h.cell j⟩
theorem OwnS.front {w : World} {e : TypeId} {A : Option Addr} {c : Nat} {xs ys : List Value} {G : Option Nat} (h : OwnS w e A c (xs ++ ys) G) : OwnS w e A c xs G := by
  rcases h with ⟨h1, h2, h3, h4⟩ | ⟨g, r, h1, h2, h3, h4, h5⟩
  · exact .inl ⟨h1, h2, (List.append_eq_nil_iff.1 h3).1, h4⟩
  · exact .inr ⟨g, ys ++ r, h1, h2, by rw [← List.append_assoc]; exact h3, by simp at h4 ⊢; omega, h5⟩
theorem madeCells_one (z : Value) (n : Nat) : (madeCells #[z] n).toList = List.replicate n z := by
  apply List.ext_getElem?
  intro i
  simp only [madeCells, Array.toList_map, Array.toList_range, List.getElem?_map, List.getElem?_replicate]
  by_cases h : i < n
  · rw [List.getElem?_range h]; simp [h, Nat.mod_one]
  · rw [List.getElem?_eq_none (by simpa using h)]; simp [h]
section
variable {P : Program} {w : World} {ops : Array Oper} {rest : List Oper} {o : Oper} {a : Act} {Q : Exit → Act → World → Prop}
end
@[go_sem] theorem extS_drew2 (S : List Nat) (w : World) (t : { w' : World // Only S w.drew.drew w' }) (p : Addr) (h : p.block < w.heap.size) (hn : p.block ∉ S) : (Reg.extS S w.drew.drew t).cell? p = w.cell? p := t.2.cell (w := w.drew.drew) h hn
@[go_sem] theorem extS_drew3 (S : List Nat) (w : World) (t : { w' : World // Only S w.drew.drew.drew w' }) (p : Addr) (h : p.block < w.heap.size) (hn : p.block ∉ S) : (Reg.extS S w.drew.drew.drew t).cell? p = w.cell? p := t.2.cell (w := w.drew.drew.drew) h hn

/-- Numbers as cells of one kind. -/
def cN (k : IntKind) (l : List Nat) : List Value := l.map fun n : Nat => .int k (n : Int)
@[simp] theorem cN_length (k : IntKind) (l : List Nat) : (cN k l).length = l.length := by simp [cN]
/-- A slice's cell. -/
theorem RV.at {w : World} {A : Option Addr} {xs : List Value} (h : RV w A xs) {i : Nat} (hi : i < xs.length) : ∃ g o, A = some ⟨g, o, none⟩ ∧ g < w.heap.size ∧ ∀ j, j < xs.length → w.cell? ⟨g, o + j, none⟩ = xs[j]? := by
  obtain ⟨g, o, e, hg, hc⟩ := h (by omega)
  exact ⟨g, o, e, hg, hc⟩
theorem RV.front {w : World} {A : Option Addr} {xs ys : List Value} (h : RV w A (xs ++ ys)) : RV w A xs := by
  intro h0
  obtain ⟨g, o, e, hg, hc⟩ := h (by rw [List.length_append]; omega)
  exact ⟨g, o, e, hg, fun j hj => by rw [hc j (by rw [List.length_append]; omega), List.getElem?_append_left hj]⟩
theorem RV.take {w : World} {A : Option Addr} {xs : List Value} (h : RV w A xs) (k : Nat) : RV w A (xs.take k) := by
  rw [← List.take_append_drop k xs] at h
  exact h.front
end Go.Proofs.YtchbgfgboogniaaDoor
