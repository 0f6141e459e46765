/-
  THE WALKS of the reference's small functions: Words, Row, Lane, Right, G.
-/
import Derived.Test.YtglbgocldenooaaDoorComp
import Derived.Test.YtglbgocldenooaaDoorLaws3
import Derived.Test.YtglbgocldenooaaDoorOrd
namespace Go.Proofs.YtglbgocldenooaaDoor
open Go.RowKit

theorem Blk.new' (w : World) {t : TypeId} {A : Array Value} {cs : List Value} (h : A = cs.toArray) : Blk (w.alloc (.cells A t)) w.heap.size t cs := by subst h; exact Blk.new w t cs
/-- ints as cells -/
def icells (xs : List Nat) : List Value := xs.map fun (n : Nat) => Value.int .i64 (n : Int)
theorem icells_get {xs : List Nat} {i n : Nat} (h : xs[i]? = some n) : (icells xs)[i]? = some (.int .i64 (n : Int)) := by simp [icells, h]
theorem words_any (w : World) : Calls Tryd.prog 40 #[] w fun e w' => e = .returned (.slice (some ⟨w.heap.size, 0, none⟩) 8 8) ∧ Blk w' w.heap.size 43 (wcells Bl.iv) ∧ Only [] w w' := by
  go_enter Tryd.func40, Tryd.ntmps40
  go_wp2
  go_ret
  exact ⟨rfl, Blk.new w _ (wcells Bl.iv), (Only.refl [] w).alloc _⟩

def allocs (w : World) (os : List Obj) : World := os.foldl World.alloc w
theorem allocs_heap : ∀ (os : List Obj) (w : World) (i : Nat), i < os.length → (allocs w os).heap[w.heap.size + i]? = os[i]? ∧ w.heap.size ≤ (allocs w os).heap.size
  | [], _, i, h => by simp at h
  | o :: os, w, 0, _ => by
    have hsz : ∀ (os : List Obj) (w : World) (k : Nat), k < w.heap.size → (allocs w os).heap[k]? = w.heap[k]? ∧ w.heap.size ≤ (allocs w os).heap.size := by
      intro os
      induction os with
      | nil => exact fun w k _ => ⟨rfl, Nat.le_refl _⟩
      | cons o os ih =>
        intro w k hk
        obtain ⟨h1, h2⟩ := ih (w.alloc o) k (by simp; omega)
        refine ⟨h1.trans (Below.heap_alloc w o k hk), Nat.le_trans ?_ h2⟩
        simp
    obtain ⟨h1, h2⟩ := hsz os (w.alloc o) w.heap.size (by simp)
    exact ⟨h1.trans (heap_alloc_new w o), Nat.le_trans (by simp) h2⟩
  | o :: os, w, i + 1, h => by
    obtain ⟨h1, h2⟩ := allocs_heap os (w.alloc o) i (by simpa using h)
    have e : (w.alloc o).heap.size + i = w.heap.size + (i + 1) := by simp; omega
    rw [e] at h1
    exact ⟨by rw [List.getElem?_cons_succ]; exact h1, Nat.le_trans (by simp) h2⟩
theorem allocs_only : ∀ (os : List Obj) (w w0 : World), Only [] w0 w → Only [] w0 (allocs w os)
  | [], _, _, h => h
  | o :: os, w, w0, h => allocs_only os (w.alloc o) w0 (h.alloc o)

/-- The four places of the i-th time. -/
def lane (i : Nat) : List Nat := [[0, 4, 8, 12], [1, 5, 9, 13], [2, 6, 10, 14], [3, 7, 11, 15], [0, 5, 10, 15], [1, 6, 11, 12], [2, 7, 8, 13], [3, 4, 9, 14]].getD i []
theorem lane_any (w : World) (i : Nat) (hi : i < 8) : Calls Tryd.prog 50 #[.int .i64 (i : Int)] w fun e w' => e = .returned (.slice (some ⟨w.heap.size, 0, none⟩) 4 4) ∧ Blk w' w.heap.size 3 (icells (lane i)) ∧ Only [] w w' := by
  rcases (show i = 0 ∨ i = 1 ∨ i = 2 ∨ i = 3 ∨ i = 4 ∨ i = 5 ∨ i = 6 ∨ i = 7 by omega) with rfl | rfl | rfl | rfl | rfl | rfl | rfl | rfl
  all_goals
    go_enter Tryd.func50, Tryd.ntmps50
    go_wp2
    go_ret
    exact ⟨rfl, Blk.new' w rfl, (Only.refl [] w).alloc _⟩

theorem wpl_load1 {P : Program} {w : World} {ops : Array Oper} {rest : List Oper} {o : Oper} {a : Act} {Q : Exit → Act → World → Prop} (hgd : o.guard = none) (ty : TypeId) (x : Operand) (ho : o.op = .load ty x)
    (p : Addr) (hx : a.eval x = .pointer (some p)) (d : TypeDesc) (hu : P.underlying ty = some d) (hd : d.isRow = false) (v : Value) (hc : w.cell? p = some v)
    (h : wpList P ops Q rest (a.put o.dst v) w) : wpList P ops Q (o :: rest) a w :=
  wpList_plain hgd fun K hK => by
    have hag : (isAgg ty).run P w = .ok false w := by
      cases d <;> simp [TypeDesc.isRow] at hd <;> simp [isAgg, run_underlying hu]
    have hl : (load p).run P w = .ok v w := by simp [load, Sem.run, hc]
    unfold Oper.wp execOp
    simp only [ho, hx, Instr.loadAt, Instr.sureAddr, Sem.run_bind, Sem.run_pure, Result.andThen_ok, loadVar, hag, Bool.false_eq_true, if_false, hl]
    exact hK _ _ h

set_option maxHeartbeats 1000000 in
theorem row_any (w : World) (r : Nat) (hr : r < 10) : Calls Tryd.prog 48 #[.int .i64 (r : Int)] w fun e w' => e = .returned (.slice (some ⟨w.heap.size + r, 0, none⟩) 16 16) ∧ Blk w' (w.heap.size + r) 3 (icells (Bl.tab.getD r [])) ∧ Only [] w w' := by
  have hrI : (r : Int) < 10 := by omega
  go_enter Tryd.func48, Tryd.ntmps48
  go_wp2_with (refine wpl_load1 rfl 76 _ rfl _ rfl _ Tryd.underlying76 rfl (.slice (some ⟨w.heap.size + r, 0, none⟩) 16 16) ?hc ?_)
  case hc =>
    show (allocs w [_, _, _, _, _, _, _, _, _, _, _]).cell? ⟨w.heap.size + 10, r, none⟩ = _
    unfold World.cell?
    rw [(allocs_heap _ w 10 (by simp)).1]
    rcases (show r = 0 ∨ r = 1 ∨ r = 2 ∨ r = 3 ∨ r = 4 ∨ r = 5 ∨ r = 6 ∨ r = 7 ∨ r = 8 ∨ r = 9 by omega) with rfl | rfl | rfl | rfl | rfl | rfl | rfl | rfl | rfl | rfl <;> rfl
  go_ret
  refine ⟨rfl, ?_, allocs_only [_, _, _, _, _, _, _, _, _, _, _] w w (Only.refl [] w)⟩
  show (allocs w [_, _, _, _, _, _, _, _, _, _, _]).heap[w.heap.size + r]? = _
  rw [(allocs_heap _ w r (by simp; omega)).1]
  rcases (show r = 0 ∨ r = 1 ∨ r = 2 ∨ r = 3 ∨ r = 4 ∨ r = 5 ∨ r = 6 ∨ r = 7 ∨ r = 8 ∨ r = 9 by omega) with rfl | rfl | rfl | rfl | rfl | rfl | rfl | rfl | rfl | rfl <;> rfl
end Go.Proofs.YtglbgocldenooaaDoor
