/-
  Plain words for memory, over any program: a block that is known whole, what a call may have changed, a slice that reads as a list of bytes. No program in sight.
  LAWS OF SINGLE OPERATIONS in the words of XMem (Blk, Only), over any program: copy, a whole array loaded and stored, append, a slice of bytes turned into a string.
  MORE LAWS OF SINGLE OPERATIONS, over any program: clear, append onto a row of the call's own, a slice of bytes turned into a string.
  append onto a slice of the call's own, in the words of XMem; over any program.
  string(b) of a slice of bytes, as a law; over any program.
-/
import Derived.WalkKit
import Derived.Lib.Hide
import Derived.Deep.Draws
import Derived.Deep.MidRow
import Derived.Laws.CopyOwn
import Derived.Deep.AppendLies
import Derived.Maps.AppendAt
import Derived.Laws.BytesArg
import Derived.Laws.IdiomStrings
namespace Go.Proofs.Ytgcnpnbgjejkaaa
open Go.RowKit
/-- Only the blocks of S, and new ones, may differ. -/
structure Only (S : List Nat) (w w' : World) : Prop where
  os : w'.os = w.os
  tape : w'.tape = w.tape
  output : w'.output = w.output
  size : w.heap.size ≤ w'.heap.size
  block : ∀ k, k < w.heap.size → k ∉ S → w'.heap[k]? = w.heap[k]?

namespace Only
variable {S S' : List Nat} {a w w' w'' : World}
theorem refl (S : List Nat) (w : World) : Only S w w := ⟨rfl, rfl, rfl, Nat.le_refl _, fun _ _ _ => rfl⟩
theorem trans (h : Only S w w') (k : Only S' w' w'') (hS : ∀ x ∈ S', x < w.heap.size → x ∈ S) : Only S w w'' :=
  ⟨k.os.trans h.os, k.tape.trans h.tape, k.output.trans h.output, Nat.le_trans h.size k.size, fun i hi hn =>
    (k.block i (Nat.lt_of_lt_of_le hi h.size) (fun hm => hn (hS i hm hi))).trans (h.block i hi hn)⟩
theorem trans' (h : Only S w w') (k : Only S w' w'') : Only S w w'' := h.trans k fun _ hx _ => hx
theorem mono (h : Only S w w') (hS : ∀ x ∈ S, x < w.heap.size → x ∈ S') : Only S' w w' :=
  ⟨h.os, h.tape, h.output, h.size, fun i hi hn => h.block i hi fun hm => hn (hS i hm hi)⟩
theorem drew (h : Only S a w) : Only S a w.drew := ⟨h.os, h.tape, h.output, h.size, h.block⟩
theorem drewN (h : Only S a w) (n : Nat) : Only S a (w.drewN n) := ⟨h.os, h.tape, h.output, h.size, h.block⟩
theorem alloc (h : Only S a w) (o : Obj) : Only S a (w.alloc o) :=
  ⟨h.os, h.tape, h.output, Nat.le_trans h.size (by simp), fun i hi hn => (Below.heap_alloc w o i (Nat.lt_of_lt_of_le hi h.size)).trans (h.block i hi hn)⟩
theorem setCell (h : Only S a w) {p : Addr} (hp : p.block ∈ S ∨ a.heap.size ≤ p.block) (u : Value) : Only S a (w.setCell p u) :=
  ⟨h.os, h.tape, h.output, by simpa [World.setCell] using h.size, fun i hi hn => (Below.heap_setCell w p u i (by
    rintro rfl
    rcases hp with hp | hp
    · exact hn hp
    · omega)).trans (h.block i hi hn)⟩
theorem below (h : Only [] w w') : Below w.heap.size w w' := ⟨h.os, h.tape, h.output, h.size, fun k hk => h.block k hk (by simp)⟩
theorem of_grown {r : Option Nat} (h : w.grownBy w' r) : Only r.toList w w' :=
  ⟨h.os, h.tape, h.output, h.size, fun k hk hn => h.block k hk (fun e => hn (by rw [← e]; simp))⟩
theorem cell (h : Only S w w') {p : Addr} (hp : p.block < w.heap.size) (hn : p.block ∉ S) : w'.cell? p = w.cell? p := World.cell?_of_block (w := w) (h.block p.block hp hn)
theorem frozen (h : Only S w w') {p : Addr} (hp : p.block < w.heap.size) (hn : p.block ∉ S) : w'.frozen? p = w.frozen? p := World.frozen?_of_block (w := w) (h.block p.block hp hn)
end Only
/-- Block g is just the cells cs, of element type t, none of them frozen. -/
def Blk (w : World) (g : Nat) (t : TypeId) (cs : List Value) : Prop := w.heap[g]? = some (.cells cs.toArray t (0, 0))

namespace Blk
variable {w w' : World} {g : Nat} {t : TypeId} {cs : List Value} {S : List Nat}
theorem lt (h : Blk w g t cs) : g < w.heap.size := by
  rcases Nat.lt_or_ge g w.heap.size with hlt | hge
  · exact hlt
  · unfold Blk at h; rw [Array.getElem?_eq_none hge] at h; cases h
theorem cell (h : Blk w g t cs) (i : Nat) : w.cell? ⟨g, i, none⟩ = cs[i]? := by
  unfold Blk at h; simp [World.cell?, h]
theorem cellv (h : Blk w g t cs) {i : Nat} {v : Value} (hv : cs[i]? = some v) : w.cell? ⟨g, i, none⟩ = some v := (h.cell i).trans hv
theorem frozen (h : Blk w g t cs) (i : Nat) : w.frozen? ⟨g, i, none⟩ = false := by
  unfold Blk at h
  simp [World.frozen?, h]
theorem new (w : World) (t : TypeId) (cs : List Value) : Blk (w.alloc (.cells cs.toArray t)) w.heap.size t cs := heap_alloc_new w _
theorem drew (h : Blk w g t cs) : Blk w.drew g t cs := h
theorem drewN (h : Blk w g t cs) (n : Nat) : Blk (w.drewN n) g t cs := h
theorem alloc (h : Blk w g t cs) (o : Obj) : Blk (w.alloc o) g t cs := (Below.heap_alloc w o g h.lt).trans h
theorem set (h : Blk w g t cs) (i : Nat) (u : Value) : Blk (w.setCell ⟨g, i, none⟩ u) g t (cs.set i u) := by
  unfold Blk at h ⊢
  simp [World.setCell, Array.getElem?_modify, h]
theorem far (h : Blk w g t cs) {p : Addr} (hp : g ≠ p.block) (u : Value) : Blk (w.setCell p u) g t cs := (Below.heap_setCell w p u g hp).trans h
theorem keep (h : Blk w g t cs) (ho : Only S w w') (hn : g ∉ S) : Blk w' g t cs := (ho.block g h.lt hn).trans h
theorem below {B : Nat} (h : Blk w g t cs) (hb : Below B w w') (hg : g < B) : Blk w' g t cs := (hb.block g hg).trans h
end Blk
/-- A byte as a value; a list of bytes as cells. -/
abbrev B8 (b : UInt8) : Value := .int .u8 b.toNat
def cellsOf (bs : List UInt8) : List Value := bs.map B8
@[simp] theorem cellsOf_length (bs : List UInt8) : (cellsOf bs).length = bs.length := by simp [cellsOf]
theorem cellsOf_get {bs : List UInt8} {i : Nat} (h : i < bs.length) : (cellsOf bs)[i]? = some (.int .u8 (bs[i]).toNat) := by simp [cellsOf, h]
end Go.Proofs.Ytgcnpnbgjejkaaa
namespace Go.Proofs.Ytgcnpnbgjejkaaa
open Go.RowKit
/-- Filling a row from the front: the first k places hold f, the others z. -/
def fillTo {α : Type} (n : Nat) (f z : Nat → α) (k : Nat) : List α := (List.range n).map fun i => if i < k then f i else z i
section
variable {α : Type} {n : Nat} {f z : Nat → α}
@[simp] theorem fillTo_length (k : Nat) : (fillTo n f z k).length = n := by simp [fillTo]
end
section
variable {P : Program} {w : World} {ops : Array Oper} {rest : List Oper} {o : Oper} {a : Act} {Q : Exit → Act → World → Prop}
theorem blk_setCells {g : Nat} {t : TypeId} : ∀ (l : List Value) (o : Nat) (cur : List Value) (w : World), Blk w g t cur → o + l.length ≤ cur.length → Blk (w.setCells g o l) g t (cur.take o ++ (l ++ cur.drop (o + l.length))) ∧ Only [g] w (w.setCells g o l)
  | [], o, cur, w, h, _ => by simp [World.setCells]; exact ⟨h, Only.refl _ _⟩
  | v :: l, o, cur, w, h, hl => by
    simp only [List.length_cons] at hl
    have h1 := h.set o v
    obtain ⟨h2, h3⟩ := blk_setCells l (o + 1) (cur.set o v) _ h1 (by simp; omega)
    simp only [World.setCells]
    refine ⟨?_, ((Only.refl [g] w).setCell (p := ⟨g, o, none⟩) (.inl (by simp)) v).trans' h3⟩
    have e : (cur.set o v).take (o + 1) ++ (l ++ (cur.set o v).drop (o + 1 + l.length)) = cur.take o ++ (v :: l ++ cur.drop (o + (v :: l).length)) := by
      apply List.ext_getElem?
      intro i
      simp only [List.getElem?_append, List.getElem?_take, List.getElem?_set, List.getElem?_drop, List.length_take, List.length_set, List.length_cons, List.getElem?_cons]
      by_cases ha : i < o
      · rw [if_pos (by omega), if_pos (by omega), if_neg (by omega), if_pos (by omega), if_pos ha]
      · by_cases hb : i = o
        · subst hb; rw [if_pos (by omega), if_pos (by omega), if_pos rfl, if_pos (by omega), if_neg (by omega), if_pos (by omega), if_pos (by omega)]
        · by_cases hc : i < o + 1 + l.length
          · rw [if_neg (by omega), if_pos (by omega), if_neg (by omega), if_pos (by omega), if_neg (by omega)]
            congr 1; omega
          · rw [if_neg (by omega), if_neg (by omega), if_neg (by omega), if_neg (by omega), if_neg (by omega)]
            congr 1; omega
    rw [← e]
    exact h2

end
end Go.Proofs.Ytgcnpnbgjejkaaa
namespace Go.Proofs.Ytgcnpnbgjejkaaa
open Go.RowKit
section
variable {P : Program} {w : World} {ops : Array Oper} {rest : List Oper} {o : Oper} {a : Act} {Q : Exit → Act → World → Prop}
end
end Go.Proofs.Ytgcnpnbgjejkaaa
namespace Go.Proofs.Ytgcnpnbgjejkaaa
open Go.RowKit
/-- A slice that reads as these cells (one cell an element). -/
def RV (w : World) (A : Option Addr) (xs : List Value) : Prop :=
  0 < xs.length → ∃ g o, A = some ⟨g, o, none⟩ ∧ g < w.heap.size ∧ ∀ j, j < xs.length → w.cell? ⟨g, o + j, none⟩ = xs[j]?
namespace RV
variable {w w' : World} {A : Option Addr} {xs : List Value} {S : List Nat}
theorem keep (h : RV w A xs) (ho : Only S w w') (hn : ∀ p, A = some p → p.block ∉ S) : RV w' A xs := by
  intro h0
  obtain ⟨g, o, rfl, hg, hc⟩ := h h0
  exact ⟨g, o, rfl, Nat.lt_of_lt_of_le hg ho.size, fun j hj => (ho.cell (p := ⟨g, o + j, none⟩) hg (hn ⟨g, o, none⟩ rfl)).trans (hc j hj)⟩
theorem nil : RV w A [] := fun h => absurd h (by simp)
theorem one (w : World) (t : TypeId) (v : Value) : RV (w.alloc (.cells #[v] t)) (some ⟨w.heap.size, 0, none⟩) [v] := by
  intro _
  refine ⟨w.heap.size, 0, rfl, by simp, fun j hj => ?_⟩
  have : j = 0 := by simpa using hj
  subst this
  exact (Blk.new w t [v]).cellv rfl
end RV
/-- A slice that the call itself made: nil, or the front of a block of its own, whose number is G. -/
def OwnS (w : World) (e : TypeId) (A : Option Addr) (c : Nat) (xs : List Value) (G : Option Nat) : Prop :=
  (A = none ∧ c = 0 ∧ xs = [] ∧ G = none) ∨ ∃ g rest, A = some ⟨g, 0, none⟩ ∧ G = some g ∧ Blk w g e (xs ++ rest) ∧ xs.length + rest.length = c ∧ c ≤ maxLen
namespace OwnS
variable {w w' : World} {e : TypeId} {A : Option Addr} {c : Nat} {xs : List Value} {G : Option Nat} {S : List Nat}
theorem none (w : World) (e : TypeId) : OwnS w e none 0 [] none := .inl ⟨rfl, rfl, rfl, rfl⟩
theorem keep (h : OwnS w e A c xs G) (ho : Only S w w') (hn : ∀ g, G = some g → g ∉ S) : OwnS w' e A c xs G := by
  rcases h with h | ⟨g, r, h1, h2, h3, h4⟩
  · exact .inl h
  · exact .inr ⟨g, r, h1, h2, h3.keep ho (hn g h2), h4⟩
theorem lt (h : OwnS w e A c xs G) : ∀ g, G = some g → g < w.heap.size := by
  intro g hg
  rcases h with h | ⟨g', r, _, h2, h3, _⟩
  · rw [h.2.2.2] at hg; cases hg
  · rw [h2] at hg; injection hg with hg; subst hg; exact h3.lt
theorem le (h : OwnS w e A c xs G) : xs.length ≤ c := by
  rcases h with h | ⟨g, r, _, _, _, h4, _⟩
  · simp [h.2.2.1]
  · omega
theorem reads (h : OwnS w e A c xs G) : RV w A xs := by
  intro h0
  rcases h with h | ⟨g, r, h1, _, h3, _⟩
  · rw [h.2.2.1] at h0; simp at h0
  · exact ⟨g, 0, h1, h3.lt, fun j hj => by rw [Nat.zero_add, h3.cell, List.getElem?_append_left hj]⟩
theorem drew (h : OwnS w e A c xs G) : OwnS w.drew e A c xs G := h
theorem ownBlock (h : OwnS w e A c xs G) : (Value.slice A xs.length c).ownBlock = G := by
  rcases h with ⟨rfl, rfl, rfl, rfl⟩ | ⟨g, r, rfl, rfl, h3, h4, h5⟩ <;> simp [Value.ownBlock]
end OwnS
section
variable {P : Program} {w : World} {ops : Array Oper} {rest : List Oper} {o : Oper} {a : Act} {Q : Exit → Act → World → Prop}
end
end Go.Proofs.Ytgcnpnbgjejkaaa
namespace Go.Proofs.Ytgcnpnbgjejkaaa
open Go.RowKit
section
variable {P : Program} {w : World} {ops : Array Oper} {rest : List Oper} {o : Oper} {a : Act} {Q : Exit → Act → World → Prop}
theorem run_str {src dst e : TypeId} (hs : P.underlying src = some (.slice e)) (he : P.underlying e = some (.int .u8)) (hd : P.underlying dst = some .string) {A : Option Addr} {n c : Nat} {bs : List UInt8} (hn : n = bs.length) (hr : RV w A (cellsOf bs)) :
    (convert src dst (.slice A n c)).run P w = .ok (.string ⟨bs.toArray⟩) w := by
  subst hn
  rw [run_convert_bytes_string w src dst e A bs.length c hs he hd]
  cases A with
  | none =>
    have : bs = [] := by
      rcases Nat.eq_zero_or_pos bs.length with h | h
      · exact List.eq_nil_of_length_eq_zero h
      · obtain ⟨g, o', h1, _⟩ := hr (by simpa using h)
        cases h1
    subst this
    simp [Conv.bytesToString]
    rfl
  | some ad =>
    have hl := run_loadCells_list (P := P) w ad ((bs.map (fun b => (b.toNat : Int))).map (Value.int .u8)) (fun j v hj => by
      have hj' : j < bs.length := by simpa using (List.getElem?_eq_some_iff.1 hj).1
      obtain ⟨g, o', h1, _, hc⟩ := hr (by simp; omega)
      injection h1 with h1
      subst h1
      rw [Addr.add_mid, hc j (by simpa using hj'), ← hj]
      rw [cellsOf, List.map_map]
      rfl)
    simp only [List.length_map] at hl
    rw [run_bytesToString w ad bs.length c _ hl, foldl_push_byteCells]
    have he0 : ByteArray.empty.data = #[] := rfl
    rw [he0]
    simp
end
end Go.Proofs.Ytgcnpnbgjejkaaa
