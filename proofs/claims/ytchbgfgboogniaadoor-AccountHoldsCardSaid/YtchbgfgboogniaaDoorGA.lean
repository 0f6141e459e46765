/-
  Plain words for memory, over any program: a block that is known whole, what a call may have changed, a slice that reads as a list of bytes. No program in sight.
  LAWS OF SINGLE OPERATIONS in the words of XMem (Blk, Only), over any program: copy, a whole array loaded and stored, append, a slice of bytes turned into a string.
  MORE LAWS OF SINGLE OPERATIONS, over any program: clear, append onto a row of the call's own, a slice of bytes turned into a string.
  append onto a slice of the call's own, in the words of XMem; over any program.
  string(b) of a slice of bytes, as a law; over any program.
-/
import Derived.WalkKit
import Derived.Lib.Hide
import Derived.Deep.Draws
import Derived.Deep.MidRow
import Derived.Laws.CopyOwn
import Derived.Deep.AppendLies
import Derived.Maps.AppendAt
import Derived.Laws.BytesArg
import Derived.Laws.IdiomStrings
namespace Go.Proofs.YtchbgfgboogniaaDoor
open Go.RowKit
/-- Only the blocks of S, and new ones, may differ. -/
structure Only (S : List Nat) (w w' : World) : Prop where
  os : w'.os = w.os
  tape : w'.tape = w.tape
  output : w'.output = w.output
  size : w.heap.size ≤ w'.heap.size
  block : ∀ k, k < w.heap.size → k ∉ S → w'.heap[k]? = w.heap[k]?

namespace Only
variable {S S' : List Nat} {a w w' w'' : World}
theorem refl (S : List Nat) (w : World) : Only S w w := ⟨rfl, rfl, rfl, Nat.le_refl _, fun _ _ _ => rfl⟩
theorem trans (h : Only S w w') (k : Only S' w' w'') (hS : ∀ x ∈ S', x < w.heap.size → x ∈ S) : Only S w w'' :=
  ⟨k.os.trans h.os, k.tape.trans h.tape, k.output.trans h.output, Nat.le_trans h.size k.size, fun i hi hn =>
    (k.block i (Nat.lt_of_lt_of_le hi h.size) (fun hm => hn (hS i hm hi))).trans (h.block i hi hn)⟩
theorem trans' (h : Only S w w') (k : Only S w' w'') : Only S w w'' := h.trans k fun _ hx _ => hx
theorem mono (h : Only S w w') (hS : ∀ x ∈ S, x < w.heap.size → x ∈ S') : Only S' w w' :=
  ⟨h.os, h.tape, h.output, h.size, fun i hi hn => h.block i hi fun hm => hn (hS i hm hi)⟩
theorem drew (h : Only S a w) : Only S a w.drew := ⟨h.os, h.tape, h.output, h.size, h.block⟩
theorem undrew (h : Only S w.drew w') : Only S w w' := ⟨h.os, h.tape, h.output, h.size, h.block⟩
theorem drewN (h : Only S a w) (n : Nat) : Only S a (w.drewN n) := ⟨h.os, h.tape, h.output, h.size, h.block⟩
theorem alloc (h : Only S a w) (o : Obj) : Only S a (w.alloc o) :=
  ⟨h.os, h.tape, h.output, Nat.le_trans h.size (by simp), fun i hi hn => (Below.heap_alloc w o i (Nat.lt_of_lt_of_le hi h.size)).trans (h.block i hi hn)⟩
theorem setCell (h : Only S a w) {p : Addr} (hp : p.block ∈ S ∨ a.heap.size ≤ p.block) (u : Value) : Only S a (w.setCell p u) :=
  ⟨h.os, h.tape, h.output, by simpa [World.setCell] using h.size, fun i hi hn => (Below.heap_setCell w p u i (by
    rintro rfl
    rcases hp with hp | hp
    · exact hn hp
    · omega)).trans (h.block i hi hn)⟩
theorem below (h : Only [] w w') : Below w.heap.size w w' := ⟨h.os, h.tape, h.output, h.size, fun k hk => h.block k hk (by simp)⟩
theorem of_grown {r : Option Nat} (h : w.grownBy w' r) : Only r.toList w w' :=
  ⟨h.os, h.tape, h.output, h.size, fun k hk hn => h.block k hk (fun e => hn (by rw [← e]; simp))⟩
theorem cell (h : Only S w w') {p : Addr} (hp : p.block < w.heap.size) (hn : p.block ∉ S) : w'.cell? p = w.cell? p := World.cell?_of_block (w := w) (h.block p.block hp hn)
theorem frozen (h : Only S w w') {p : Addr} (hp : p.block < w.heap.size) (hn : p.block ∉ S) : w'.frozen? p = w.frozen? p := World.frozen?_of_block (w := w) (h.block p.block hp hn)
end Only
/-- Block g is just the cells cs, of element type t, none of them frozen. -/
def Blk (w : World) (g : Nat) (t : TypeId) (cs : List Value) : Prop := w.heap[g]? = some (.cells cs.toArray t (0, 0))

namespace Blk
variable {w w' : World} {g : Nat} {t : TypeId} {cs : List Value} {S : List Nat}
theorem lt (h : Blk w g t cs) : g < w.heap.size := by
  rcases Nat.lt_or_ge g w.heap.size with hlt | hge
  · exact hlt
  · unfold Blk at h; rw [Array.getElem?_eq_none hge] at h; cases h
theorem cell (h : Blk w g t cs) (i : Nat) : w.cell? ⟨g, i, none⟩ = cs[i]? := by
  unfold Blk at h; simp [World.cell?, h]
theorem cellv (h : Blk w g t cs) {i : Nat} {v : Value} (hv : cs[i]? = some v) : w.cell? ⟨g, i, none⟩ = some v := (h.cell i).trans hv
theorem frozen (h : Blk w g t cs) (i : Nat) : w.frozen? ⟨g, i, none⟩ = false := by
  unfold Blk at h
  simp [World.frozen?, h]
theorem new (w : World) (t : TypeId) (cs : List Value) : Blk (w.alloc (.cells cs.toArray t)) w.heap.size t cs := heap_alloc_new w _
theorem drew (h : Blk w g t cs) : Blk w.drew g t cs := h
theorem drewN (h : Blk w g t cs) (n : Nat) : Blk (w.drewN n) g t cs := h
theorem alloc (h : Blk w g t cs) (o : Obj) : Blk (w.alloc o) g t cs := (Below.heap_alloc w o g h.lt).trans h
theorem set (h : Blk w g t cs) (i : Nat) (u : Value) : Blk (w.setCell ⟨g, i, none⟩ u) g t (cs.set i u) := by
  unfold Blk at h ⊢
  simp [World.setCell, Array.getElem?_modify, h]
theorem far (h : Blk w g t cs) {p : Addr} (hp : g ≠ p.block) (u : Value) : Blk (w.setCell p u) g t cs := (Below.heap_setCell w p u g hp).trans h
theorem keep (h : Blk w g t cs) (ho : Only S w w') (hn : g ∉ S) : Blk w' g t cs := (ho.block g h.lt hn).trans h
theorem below {B : Nat} (h : Blk w g t cs) (hb : Below B w w') (hg : g < B) : Blk w' g t cs := (hb.block g hg).trans h
theorem inj {t' : TypeId} {cs' : List Value} (h : Blk w g t cs) (h' : Blk w g t' cs') : cs = cs' := by
  unfold Blk at h h'
  rw [h] at h'
  injection h' with h'
  injection h' with h1 h2
  simpa using h1
end Blk
/-- A byte as a value; a list of bytes as cells. -/
abbrev B8 (b : UInt8) : Value := .int .u8 b.toNat
def cellsOf (bs : List UInt8) : List Value := bs.map B8
@[simp] theorem cellsOf_length (bs : List UInt8) : (cellsOf bs).length = bs.length := by simp [cellsOf]
theorem cellsOf_get {bs : List UInt8} {i : Nat} (h : i < bs.length) : (cellsOf bs)[i]? = some (.int .u8 (bs[i]).toNat) := by simp [cellsOf, h]
theorem cellsOf_getD {bs : List UInt8} {i : Nat} (h : i < bs.length) : (cellsOf bs)[i]? = some (.int .u8 (bs.getD i 0).toNat) := by simp [cellsOf, h]
theorem cellsOf_one {bs : List UInt8} : ∀ u ∈ cellsOf bs, u.oneCell' = true := by
  intro u hu
  obtain ⟨b, _, rfl⟩ := List.mem_map.1 hu
  rfl
end Go.Proofs.YtchbgfgboogniaaDoor
namespace Go.Proofs.YtchbgfgboogniaaDoor
open Go.RowKit
/-- Filling a row from the front: the first k places hold f, the others z. -/
def fillTo {α : Type} (n : Nat) (f z : Nat → α) (k : Nat) : List α := (List.range n).map fun i => if i < k then f i else z i
section
variable {α : Type} {n : Nat} {f z : Nat → α}
@[simp] theorem fillTo_length (k : Nat) : (fillTo n f z k).length = n := by simp [fillTo]
theorem fillTo_set {k : Nat} (_hk : k < n) : (fillTo n f z k).set k (f k) = fillTo n f z (k + 1) := by
  apply List.ext_getElem?
  intro i
  simp only [List.getElem?_set, fillTo, List.length_map, List.length_range, List.getElem?_map]
  by_cases h : k = i
  · subst h; simp [_hk]
  · by_cases hi : i < n
    · rw [List.getElem?_range hi]
      have : (i < k + 1) ↔ (i < k) := by omega
      simp [h, this]
    · rw [List.getElem?_eq_none (by simpa using hi)]; simp [h]
theorem fillTo_zero : fillTo n f z 0 = (List.range n).map z := by simp [fillTo]
theorem fillTo_all : fillTo n f z n = (List.range n).map f := by
  simp only [fillTo]
  apply List.map_congr_left
  intro i hi
  simp [List.mem_range.1 hi]
theorem fillTo_get {k i : Nat} (hi : i < n) : (fillTo n f z k)[i]? = some (if i < k then f i else z i) := by
  simp [fillTo, hi]
end
section
variable {P : Program} {w : World} {ops : Array Oper} {rest : List Oper} {o : Oper} {a : Act} {Q : Exit → Act → World → Prop}
theorem blk_setRow {g : Nat} {t : TypeId} {cur : List Value} (h : Blk w g t cur) (cs : List Value) : Blk (w.setRow g cs.toArray) g t cs := setRow_heap w g _ _ t _ h
theorem only_setRow (w : World) (g : Nat) (cs : Array Value) : Only [g] w (w.setRow g cs) :=
  ⟨rfl, rfl, rfl, by simp [World.setRow], fun k _ hn => setRow_other w g k cs (fun e => hn (by simp [e]))⟩

/-- copy(dst, src): dst from place off of a block that is known whole. -/
theorem wpl_copy (hgd : o.guard = none) (d s : Operand) (dT sT : TypeId)
    (ho : o.op = .call { callee := .builtin .copy, args := #[d, s], argTypes := #[dT, sT] }) (elem : TypeId) (hu : P.underlying dT = some (.slice elem)) (hsz : (P.info? elem).map (·.size) = some 1)
    (dp sp : Option Addr) (dLen dCap sLen sCap : Nat) (hd : a.eval d = .slice dp dLen dCap) (hs : a.eval s = .slice sp sLen sCap)
    (g off : Nat) (cur : List Value) (t : TypeId) (hg : Blk w g t cur) (cs : List Value) (hn : cs.length = Nat.min sLen dLen)
    (hpos : 0 < cs.length → dp = some ⟨g, off, none⟩ ∧ ∃ ad, sp = some ad ∧ ∀ j v, cs[j]? = some v → w.cell? (ad.add j) = some v)
    (hfit : off + cs.length ≤ cur.length) (h1 : ∀ v ∈ cs, v.oneCell' = true)
    (h : ∀ w', Blk w' g t (splice cur off cs) → Only [g] w w' → wpList P ops Q rest (a.put o.dst (goInt cs.length)) w') :
    wpList P ops Q (o :: rest) a w := by
  by_cases h0 : cs.length = 0
  · obtain rfl : cs = [] := List.eq_nil_of_length_eq_zero h0
    refine wpList_copy_nothing hgd d s dT sT ho elem hu hsz dp sp dLen dCap sLen sCap hd hs (by simpa using hn.symm) ?_
    exact h w (by simpa [splice] using hg) (Only.refl _ _)
  · obtain ⟨rfl, ad, rfl, hsrc⟩ := hpos (by omega)
    refine wpList_copy_own hgd d s dT sT ho elem hu hsz g off dLen dCap ad sLen sCap hd hs cur.toArray t hg cs hn hsrc (by simpa using hfit) h1 ?_
    have e : (cur.toArray.toList.take off ++ (cs ++ cur.toArray.toList.drop (off + cs.length))) = splice cur off cs := by simp [splice]
    rw [e]
    exact h _ (blk_setRow hg _) (only_setRow _ _ _)

theorem blk_setCells {g : Nat} {t : TypeId} : ∀ (l : List Value) (o : Nat) (cur : List Value) (w : World), Blk w g t cur → o + l.length ≤ cur.length → Blk (w.setCells g o l) g t (cur.take o ++ (l ++ cur.drop (o + l.length))) ∧ Only [g] w (w.setCells g o l)
  | [], o, cur, w, h, _ => by simp [World.setCells]; exact ⟨h, Only.refl _ _⟩
  | v :: l, o, cur, w, h, hl => by
    simp only [List.length_cons] at hl
    have h1 := h.set o v
    obtain ⟨h2, h3⟩ := blk_setCells l (o + 1) (cur.set o v) _ h1 (by simp; omega)
    simp only [World.setCells]
    refine ⟨?_, ((Only.refl [g] w).setCell (p := ⟨g, o, none⟩) (.inl (by simp)) v).trans' h3⟩
    have e : (cur.set o v).take (o + 1) ++ (l ++ (cur.set o v).drop (o + 1 + l.length)) = cur.take o ++ (v :: l ++ cur.drop (o + (v :: l).length)) := by
      apply List.ext_getElem?
      intro i
      simp only [List.getElem?_append, List.getElem?_take, List.getElem?_set, List.getElem?_drop, List.length_take, List.length_set, List.length_cons, List.getElem?_cons]
      by_cases ha : i < o
      · rw [if_pos (by omega), if_pos (by omega), if_neg (by omega), if_pos (by omega), if_pos ha]
      · by_cases hb : i = o
        · subst hb; rw [if_pos (by omega), if_pos (by omega), if_pos rfl, if_pos (by omega), if_neg (by omega), if_pos (by omega), if_pos (by omega)]
        · by_cases hc : i < o + 1 + l.length
          · rw [if_neg (by omega), if_pos (by omega), if_neg (by omega), if_pos (by omega), if_neg (by omega)]
            congr 1; omega
          · rw [if_neg (by omega), if_neg (by omega), if_neg (by omega), if_neg (by omega), if_neg (by omega)]
            congr 1; omega
    rw [← e]
    exact h2

/-- A whole array (or struct) stored over a block that is known whole. -/
theorem wpl_store_all (hgd : o.guard = none) (ty : TypeId) (x y : Operand) (ho : o.op = .store ty x y)
    (g : Nat) (cells : List Value) (hx : a.eval x = .pointer (some ⟨g, 0, none⟩)) (hy : a.eval y = .agg cells.toArray) (t : TypeId) (cur : List Value) (hb : Blk w g t cur) (hl : cur.length = cells.length)
    (hi : (P.info? ty).map (·.size) = some cells.length) (h1 : ∀ v ∈ cells, v.oneCell' = true)
    (h : ∀ w', Blk w' g t cells → Only [g] w w' → wpList P ops Q rest (a.put o.dst undef) w') : wpList P ops Q (o :: rest) a w := by
  refine wpList_store_mid hgd ty x y ho g 0 cells.toArray hx hy ?_ (by simpa using hi) (by simpa using h1) ?_
  · intro j hj
    refine ⟨?_, hb.frozen _⟩
    rw [Nat.zero_add, hb.cell]
    have : j < cur.length := by simpa [hl] using hj
    simp [this]
  · obtain ⟨h2, h3⟩ := blk_setCells cells 0 cur w hb (by omega)
    simp only [List.take_zero, List.nil_append, Nat.zero_add, ← hl, List.drop_length, List.append_nil] at h2
    exact h _ (by simpa using h2) (by simpa using h3)

/-- A whole array (or struct) loaded from the middle of a block. -/
theorem wpl_load_at (hgd : o.guard = none) (ty : TypeId) (x : Operand) (ho : o.op = .load ty x)
    (b off : Nat) (hx : a.eval x = .pointer (some ⟨b, off, none⟩)) (cs : List Value) (d : TypeDesc) (hu : P.underlying ty = some d) (hd : d.isRow = true)
    (hi : (P.info? ty).map (·.size) = some cs.length) (hc : ∀ j, j < cs.length → w.cell? ⟨b, off + j, none⟩ = cs[j]?)
    (h : wpList P ops Q rest (a.put o.dst (.agg cs.toArray)) w) : wpList P ops Q (o :: rest) a w :=
  wpList_load_mid hgd ty x ho b off hx cs d (fun j _ hv => (hc j (List.getElem?_eq_some_iff.1 hv).1).trans hv) hu hd hi h

/-- T{..}: what it comes to is given as an equation on its run. -/
theorem wpl_build (hgd : o.guard = none) (t : TypeId) (parts : Array (Nat × Operand)) (ho : o.op = .build t parts) (v : Value)
    (hrun : (Instr.build t (parts.map fun (i, x) => (i, a.eval x))).run P w = .ok v w) (h : wpList P ops Q rest (a.put o.dst v) w) : wpList P ops Q (o :: rest) a w :=
  wpList_plain hgd fun K hK => by
    unfold Oper.wp execOp
    simp only [ho, Sem.run_bind, hrun, Result.andThen_ok, Sem.run_pure]
    exact hK _ _ h

/-- x[k] of an array value whose elements are one cell each. -/
theorem run_index_row {t e : TypeId} {n : Nat} {cs : List Value} {k : Nat} {kd : IntKind} {v : Value} (hu : P.underlying t = some (.array n e)) {d : TypeDesc} (he : P.underlying e = some d) (hd : d.isRow = false)
    (hsz : (P.info? e).map (·.size) = some 1) (hk : k < n) (hv : cs[k]? = some v) (w : World) : (Instr.index t (.agg cs.toArray) (.int kd (k : Int))).run P w = .ok v w := by
  obtain ⟨i, hi, hs⟩ := Option.map_eq_some_iff.1 hsz
  have h0 : (0 : Int) ≤ (k : Int) ∧ (k : Int) < (n : Int) := ⟨by omega, by omega⟩
  have hag : (isAgg e).run P w = .ok false w := by
    cases d <;> simp [TypeDesc.isRow] at hd <;> simp [isAgg, run_underlying he]
  simp only [Instr.index, asIntOf, Sem.run_bind, Sem.run_pure, Result.andThen_ok, run_underlying hu]
  rw [if_pos h0]
  simp [sizeOf, typeInfo, hi, hs, part, hag, hv]
end
end Go.Proofs.YtchbgfgboogniaaDoor
namespace Go.Proofs.YtchbgfgboogniaaDoor
open Go.RowKit
section
variable {P : Program} {w : World} {ops : Array Oper} {rest : List Oper} {o : Oper} {a : Act} {Q : Exit → Act → World → Prop}
theorem zeroCells_one (z : Value) (n : Nat) : (Builtin.zeroCells #[z] n).toList = List.replicate n z := by
  apply List.ext_getElem?
  intro i
  simp only [Builtin.zeroCells, Array.toList_map, Array.toList_range, List.getElem?_map, List.getElem?_replicate]
  by_cases h : i < n
  · rw [List.getElem?_range (by simpa using h)]; simp [h, Nat.mod_one]
  · rw [List.getElem?_eq_none (by simpa using h)]; simp [h]

/-- clear(s) of a slice of one-cell elements in a block that is known whole. -/
theorem wpl_clear (hgd : o.guard = none) (x : Operand) (t : TypeId) (ho : o.op = .call { callee := .builtin .clear, args := #[x], argTypes := #[t] })
    (e : TypeId) (hu : P.underlying t = some (.slice e)) (i : TypeInfo) (hi : P.info? e = some i) (z : Value) (hz : i.zero = some z) (hzc : z.cells = #[z]) (hz1 : z.oneCell' = true)
    (A : Option Addr) (n c : Nat) (hx : a.eval x = .slice A n c) (g off : Nat) (tt : TypeId) (cur : List Value) (hb : Blk w g tt cur) (hA : 0 < n → A = some ⟨g, off, none⟩) (hfit : off + n ≤ cur.length)
    (h : ∀ w', Blk w' g tt (cur.take off ++ (List.replicate n z ++ cur.drop (off + n))) → Only [g] w w' → wpList P ops Q rest (a.put o.dst (.tuple #[])) w') : wpList P ops Q (o :: rest) a w := by
  refine wpList_plain hgd fun K hK => ?_
  unfold Oper.wp execOp
  simp only [ho, resolve, invoke, builtin, Sem.run_bind, Sem.run_pure, Result.andThen_ok, List.map_toArray, List.map_cons, List.map_nil, hx]
  by_cases h0 : n = 0
  · subst h0
    have hr : (Builtin.clear_ #[t] o.type #[.slice A 0 c]).run P w = .ok (.tuple #[]) w := by
      cases A <;> simp [Builtin.clear_, run_underlying hu]
    rw [hr]
    exact hK _ _ (h w (by simpa using hb) (Only.refl _ _))
  · obtain rfl := hA (by omega)
    obtain ⟨h1, h2⟩ := blk_setCells (List.replicate n z) off cur w hb (by simpa using hfit)
    have hst := run_storeCells_cells (P := P) g off (List.replicate n z) 0 w
      (fun j hj => by rw [Nat.add_zero, hb.cell]; have : off + j < cur.length := by simp at hj; omega
                      simp [this]) (fun j _ => hb.frozen _) (fun v hv => by rw [List.eq_of_mem_replicate hv]; exact hz1)
    have hr : (Builtin.clear_ #[t] o.type #[.slice (some ⟨g, off, none⟩) n c]).run P w = .ok (.tuple #[]) (w.setCells g off (List.replicate n z)) := by
      obtain ⟨m, rfl⟩ : ∃ m, n = m + 1 := ⟨n - 1, by omega⟩
      simp [Builtin.clear_, run_underlying hu, zeroValue, typeInfo, hi, hz, hzc, zeroCells_one, hst]
    rw [hr]
    refine hK _ _ (h _ ?_ h2)
    simpa using h1
end
end Go.Proofs.YtchbgfgboogniaaDoor
namespace Go.Proofs.YtchbgfgboogniaaDoor
open Go.RowKit
/-- A slice that reads as these cells (one cell an element). -/
def RV (w : World) (A : Option Addr) (xs : List Value) : Prop :=
  0 < xs.length → ∃ g o, A = some ⟨g, o, none⟩ ∧ g < w.heap.size ∧ ∀ j, j < xs.length → w.cell? ⟨g, o + j, none⟩ = xs[j]?
namespace RV
variable {w w' : World} {A : Option Addr} {xs : List Value} {S : List Nat}
theorem keep (h : RV w A xs) (ho : Only S w w') (hn : ∀ p, A = some p → p.block ∉ S) : RV w' A xs := by
  intro h0
  obtain ⟨g, o, rfl, hg, hc⟩ := h h0
  exact ⟨g, o, rfl, Nat.lt_of_lt_of_le hg ho.size, fun j hj => (ho.cell (p := ⟨g, o + j, none⟩) hg (hn ⟨g, o, none⟩ rfl)).trans (hc j hj)⟩
theorem keep0 (h : RV w A xs) (ho : Only [] w w') : RV w' A xs := h.keep ho (by simp)
theorem nil : RV w A [] := fun h => absurd h (by simp)
theorem one (w : World) (t : TypeId) (v : Value) : RV (w.alloc (.cells #[v] t)) (some ⟨w.heap.size, 0, none⟩) [v] := by
  intro _
  refine ⟨w.heap.size, 0, rfl, by simp, fun j hj => ?_⟩
  have : j = 0 := by simpa using hj
  subst this
  exact (Blk.new w t [v]).cellv rfl
end RV
/-- A slice that the call itself made: nil, or the front of a block of its own, whose number is G. -/
def OwnS (w : World) (e : TypeId) (A : Option Addr) (c : Nat) (xs : List Value) (G : Option Nat) : Prop :=
  (A = none ∧ c = 0 ∧ xs = [] ∧ G = none) ∨ ∃ g rest, A = some ⟨g, 0, none⟩ ∧ G = some g ∧ Blk w g e (xs ++ rest) ∧ xs.length + rest.length = c ∧ c ≤ maxLen
namespace OwnS
variable {w w' : World} {e : TypeId} {A : Option Addr} {c : Nat} {xs : List Value} {G : Option Nat} {S : List Nat}
theorem none (w : World) (e : TypeId) : OwnS w e none 0 [] none := .inl ⟨rfl, rfl, rfl, rfl⟩
theorem keep (h : OwnS w e A c xs G) (ho : Only S w w') (hn : ∀ g, G = some g → g ∉ S) : OwnS w' e A c xs G := by
  rcases h with h | ⟨g, r, h1, h2, h3, h4⟩
  · exact .inl h
  · exact .inr ⟨g, r, h1, h2, h3.keep ho (hn g h2), h4⟩
theorem lt (h : OwnS w e A c xs G) : ∀ g, G = some g → g < w.heap.size := by
  intro g hg
  rcases h with h | ⟨g', r, _, h2, h3, _⟩
  · rw [h.2.2.2] at hg; cases hg
  · rw [h2] at hg; injection hg with hg; subst hg; exact h3.lt
theorem le (h : OwnS w e A c xs G) : xs.length ≤ c := by
  rcases h with h | ⟨g, r, _, _, _, h4, _⟩
  · simp [h.2.2.1]
  · omega
theorem reads (h : OwnS w e A c xs G) : RV w A xs := by
  intro h0
  rcases h with h | ⟨g, r, h1, _, h3, _⟩
  · rw [h.2.2.1] at h0; simp at h0
  · exact ⟨g, 0, h1, h3.lt, fun j hj => by rw [Nat.zero_add, h3.cell, List.getElem?_append_left hj]⟩
theorem blk (h : OwnS w e A c xs G) (h0 : 0 < xs.length) : ∃ g rest, A = some ⟨g, 0, Option.none⟩ ∧ G = some g ∧ Blk w g e (xs ++ rest) := by
  rcases h with h | ⟨g, r, h1, h2, h3, _⟩
  · rw [h.2.2.1] at h0; simp at h0
  · exact ⟨g, r, h1, h2, h3⟩
theorem drew (h : OwnS w e A c xs G) : OwnS w.drew e A c xs G := h
theorem ownBlock (h : OwnS w e A c xs G) : (Value.slice A xs.length c).ownBlock = G := by
  rcases h with ⟨rfl, rfl, rfl, rfl⟩ | ⟨g, r, rfl, rfl, h3, h4, h5⟩ <;> simp [Value.ownBlock]
end OwnS
section
variable {P : Program} {w : World} {ops : Array Oper} {rest : List Oper} {o : Oper} {a : Act} {Q : Exit → Act → World → Prop}
end
end Go.Proofs.YtchbgfgboogniaaDoor
namespace Go.Proofs.YtchbgfgboogniaaDoor
open Go.RowKit
section
variable {P : Program} {w : World} {ops : Array Oper} {rest : List Oper} {o : Oper} {a : Act} {Q : Exit → Act → World → Prop}
theorem run_str {src dst e : TypeId} (hs : P.underlying src = some (.slice e)) (he : P.underlying e = some (.int .u8)) (hd : P.underlying dst = some .string) {A : Option Addr} {n c : Nat} {bs : List UInt8} (hn : n = bs.length) (hr : RV w A (cellsOf bs)) :
    (convert src dst (.slice A n c)).run P w = .ok (.string ⟨bs.toArray⟩) w := by
  subst hn
  rw [run_convert_bytes_string w src dst e A bs.length c hs he hd]
  cases A with
  | none =>
    have : bs = [] := by
      rcases Nat.eq_zero_or_pos bs.length with h | h
      · exact List.eq_nil_of_length_eq_zero h
      · obtain ⟨g, o', h1, _⟩ := hr (by simpa using h)
        cases h1
    subst this
    simp [Conv.bytesToString]
    rfl
  | some ad =>
    have hl := run_loadCells_list (P := P) w ad ((bs.map (fun b => (b.toNat : Int))).map (Value.int .u8)) (fun j v hj => by
      have hj' : j < bs.length := by simpa using (List.getElem?_eq_some_iff.1 hj).1
      obtain ⟨g, o', h1, _, hc⟩ := hr (by simp; omega)
      injection h1 with h1
      subst h1
      rw [Addr.add_mid, hc j (by simpa using hj'), ← hj]
      rw [cellsOf, List.map_map]
      rfl)
    simp only [List.length_map] at hl
    rw [run_bytesToString w ad bs.length c _ hl, foldl_push_byteCells]
    have he0 : ByteArray.empty.data = #[] := rfl
    rw [he0]
    simp
end
end Go.Proofs.YtchbgfgboogniaaDoor
