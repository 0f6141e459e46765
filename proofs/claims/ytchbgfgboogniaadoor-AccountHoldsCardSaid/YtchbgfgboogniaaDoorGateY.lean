/-
  WHAT CAME IN, by what is known: data made of ints, bytes, strings, truth values, structs and slices, nested as one likes.
-/
import Derived.Test.YtchbgfgboogniaaDoorGE
import Derived.Test.YtchbgfgboogniaaDoorGU
import Derived.Deep.Slices
namespace Go.Proofs.YtchbgfgboogniaaDoor
open Go.ChangeShapes Go.WideShapes Go.ChangeAt Go.RowKit
namespace Sx
section
variable {P : Program}
/-- Cells of type t that were read are known. -/
def Came (P : Program) (t : TypeId) {α : Type} (ec : α → List D) (ok : α → Prop) : Prop := ∀ (H : Type) (enc : TypeId × Value → H) (W : World) (fuel : Nat) (cs : List Value) (x : DataW H × List MemPlace), DataW.trod enc P W 0 (fun _ => true) true fuel t cs = some x → ∃ a, ok a ∧ All [] W (ec a) cs
theorem came_int {t : TypeId} {k : IntKind} (ht : P.underlying t = some (.int k)) : Came P t (fun z : Int => [isD (.int k z)]) (fun z => (Lit.int k z).wf = true) := fun H enc W fuel cs x h => by
  obtain ⟨z, rfl, -, hw⟩ := DataW.trod_int ht h
  exact ⟨z, hw, rfl, trivial⟩
theorem came_str {t : TypeId} (ht : P.underlying t = some .string) : Came P t (fun b : List UInt8 => [strD b]) (fun b => b.length ≤ maxLen) := fun H enc W fuel cs x h => by
  obtain ⟨⟨⟨s⟩⟩, rfl, -, hl⟩ := DataW.trod_string ht h
  exact ⟨s, hl, rfl, trivial⟩
theorem came_u8 {t : TypeId} (ht : P.underlying t = some (.int .u8)) : Came P t encB (fun _ => True) := fun H enc W fuel cs x h => by
  obtain ⟨z, rfl, -, hw⟩ := DataW.trod_int ht h
  have : 0 ≤ z ∧ z < 256 := by simp [Lit.wf, IntKind.min, IntKind.max, IntKind.signed, IntKind.bits] at hw; omega
  refine ⟨UInt8.ofNat z.toNat, trivial, ?_, trivial⟩
  show Value.int .u8 z = B8 _
  unfold B8
  congr 1
  simp
  omega
theorem le_nil_lsD {α : Type} {enc : α → List D} : Le (isD (.slice none 0 0)) (lsD enc []) := fun _ _ _ h => ⟨none, 0, h, Nat.le_refl _, fun h0 => by simp at h0⟩
theorem came_slice {t e sz : Nat} {α : Type} [Inhabited α] {ec : α → List D} {ok : α → Prop} [Row ec sz] (ht : P.underlying t = some (.slice e)) (hc : P.cellsOf e = sz) (hsz : 0 < sz) (he : Came P e ec ok) : Came P t (fun l : List α => [lsD ec l]) (fun l => l.length ≤ maxLen ∧ ∀ x ∈ l, ok x) := fun H enc W fuel cs x h => by
  rcases Go.Deep.open_slice ht h with ⟨rfl, -⟩ | ⟨a, len, cap, m, n, Dn, Pl, rfl, -, hl, hm, hmm, -, hx⟩
  · exact ⟨[], ⟨Nat.zero_le _, by simp⟩, le_nil_lsD _ _ _ rfl, trivial⟩
  simp only [if_true] at hmm
  subst hmm
  have hx2 : ∀ i, i < len → ∃ q : α × List Value, ok q.1 ∧ W.cells? 0 (a.add (i * sz)) sz = some q.2 ∧ All [] W (ec q.1) q.2 := fun i hi => by
    obtain ⟨cs', h1, h2⟩ := hx i (by omega)
    rw [hc] at h1
    obtain ⟨q, h3, h4⟩ := he _ _ _ _ _ _ h2
    exact ⟨(q, cs'), h3, h1, h4⟩
  obtain ⟨X, hX⟩ := Go.Deep.choose_lt hx2
  have hlen : ((List.range len).map fun i => (X i).1).length = len := by simp
  have hnth : 0 < len → a.spot = none := fun hi => by
    obtain ⟨_, hl2, hcell⟩ := World.cells?_some (hX 0 hi).2.1
    have h1 := hcell 0 hsz
    rw [List.getElem?_eq_getElem (by omega)] at h1
    have h2 := World.cell?_spot h1
    simpa [Addr.add] using h2
  have key : ∀ k, k ≤ len → ∃ cs, All [] W (((List.range k).map fun i => (X i).1).flatMap ec) cs ∧ cs.length = k * sz ∧ ∀ j, j < cs.length → W.cell? (a.add j) = cs[j]? := by
    intro k
    induction k with
    | zero => intro _; exact ⟨[], trivial, by simp, by simp⟩
    | succ k ih =>
      intro hk
      obtain ⟨cs, h1, h2, h3⟩ := ih (by omega)
      obtain ⟨_, hl2, hcell⟩ := World.cells?_some (hX k (by omega)).2.1
      refine ⟨cs ++ (X k).2, ?_, ?_, fun j hj => ?_⟩
      · rw [List.range_succ, List.map_append, List.flatMap_append]
        exact h1.append (by simpa using (hX k (by omega)).2.2)
      · rw [List.length_append, h2, hl2, Nat.succ_mul]
      · by_cases hjc : j < cs.length
        · rw [List.getElem?_append_left hjc]; exact h3 j hjc
        · rw [List.getElem?_append_right (by omega)]
          rw [List.length_append, hl2] at hj
          have h4 := hcell (j - cs.length) (by omega)
          rw [Go.Deep.add_add, h2, show k * sz + (j - k * sz) = j by omega] at h4
          rw [h2, h4]
  refine ⟨(List.range len).map fun i => (X i).1, ⟨by omega, fun x hx => ?_⟩, ⟨some a, m, by rw [hlen], by rw [hlen]; exact hl, fun h0 => ?_⟩, trivial⟩
  · obtain ⟨i, hi, rfl⟩ := List.mem_map.1 hx
    exact (hX i (by simpa using hi)).1
  · obtain ⟨cs, h1, h2, h3⟩ := key len (Nat.le_refl _)
    have hpos : 0 < len := by
      rcases Nat.eq_zero_or_pos len with h | h
      · subst h; simp at h0
      · exact h
    have hsp := hnth hpos
    obtain ⟨g, o, s⟩ := a
    simp only at hsp
    subst hsp
    have hcl : 0 < cs.length := by rw [h2]; exact Nat.mul_pos hpos hsz
    have hc0 := h3 0 hcl
    refine ⟨g, o, rfl, ?_, by simp, cs, h1, fun j hj => ?_⟩
    · rw [List.getElem?_eq_getElem hcl] at hc0
      exact (by simpa [Addr.add] using cell_lt hc0)
    · have := h3 j hj
      rw [Addr.add_mid] at this
      exact this
theorem came_bytes {t e : TypeId} (ht : P.underlying t = some (.slice e)) (he : P.underlying e = some (.int .u8)) (hc : P.cellsOf e = 1) : Came P t (fun b : List UInt8 => [bD b]) (fun b => b.length ≤ maxLen) := fun H enc W fuel cs x h => by
  obtain ⟨b, ⟨h1, -⟩, h2⟩ := came_slice ht hc (by decide) (came_u8 he) _ _ _ _ _ _ h
  match cs, h2 with
  | [c], h2 => exact ⟨b, h1, le_ls_b b _ _ _ h2.1, trivial⟩
/-! Structs. -/
def Parts (L : List Nat) (w : World) : List (List D) → List Value → Nat → Prop
  | [], _, _ => True
  | d :: ls, cs, o => All L w d ((cs.drop o).take d.length) ∧ Parts L w ls cs (o + d.length)
theorem all_parts {L : List Nat} {w : World} : ∀ (ls : List (List D)) (cs : List Value) (o : Nat), Parts L w ls cs o → cs.length = o + ls.flatten.length → All L w ls.flatten (cs.drop o)
  | [], cs, o, _, h => by
    have : cs.drop o = [] := List.drop_eq_nil_of_le (by simp at h; omega)
    rw [this]; trivial
  | d :: ls, cs, o, h, hl => by
    have ih := all_parts ls cs (o + d.length) h.2 (by simp at hl ⊢; omega)
    have e : cs.drop o = (cs.drop o).take d.length ++ cs.drop (o + d.length) := by
      rw [← List.drop_drop]
      exact (List.take_append_drop _ _).symm
    rw [e, List.flatten_cons]
    exact h.1.append ih
theorem came_fields {t : TypeId} {fs : Array Field} (ht : P.underlying t = some (.struct fs)) {H : Type} {enc : TypeId × Value → H} {W : World} {fuel : Nat} {cs : List Value} {x : DataW H × List MemPlace} (h : DataW.trod enc P W 0 (fun _ => true) true fuel t cs = some x) :
    cs.length = P.cellsOf t ∧ ∀ (i : Nat) (f : Field), fs[i]? = some f → ∃ n y, DataW.trod enc P W 0 (fun _ => true) true n f.type ((cs.drop f.offset).take (P.cellsOf f.type)) = some y := by
  obtain ⟨xs, n, _, _, hl, hlen, hf⟩ := DataW.trod_struct ht h
  refine ⟨hl, fun i f hi => ⟨n, xs[i]'(by have := (Array.getElem?_eq_some_iff.1 hi).1; omega), ?_⟩⟩
  rw [hf i f hi]
  exact List.getElem?_eq_getElem _
/-! Arguments. -/
theorem top_slice {t e : TypeId} {α : Type} {d : α → D} {ok : α → Prop} {base : Nat} {W : World} {v : Value} {H : Type} {enc : TypeId × Value → H} {x : DataW H} {p : List MemPlace} (hop : Came P t (fun a => [d a]) ok) (ht : P.underlying t = some (.slice e)) (hv : Value.okWide P W .any base t v) (h : DataW.Trod enc P W 0 (fun _ => true) true t v x p) : ∃ a, ok a ∧ (d a).R [] W v := by
  obtain ⟨A, n, c, rfl⟩ := okWide_slice ht hv
  obtain ⟨fuel, h⟩ := h
  obtain ⟨a, h1, h2⟩ := hop _ _ _ _ _ _ h
  exact ⟨a, h1, h2.1⟩
end
end Sx
end Go.Proofs.YtchbgfgboogniaaDoor
