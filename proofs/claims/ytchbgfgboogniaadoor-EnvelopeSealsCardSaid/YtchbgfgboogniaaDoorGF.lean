/-
  THE WALKS of the reference's small functions: Words, Row, Lane, Right, G.
  THE WALKS of the reference's Right and G.
  APPEND to a row of bytes of the call's own, in this program's numbers.
  THE WALK of the reference's Compress.
  THE WALK of the reference's Hash: it computes Bl.hash.
  append onto a slice of the call's own, told exactly: in place, or into a new block with nothing else changed. Over any program; then for bytes.
  make and []byte(s), in the words of XMem; over any program, then for bytes.
-/
import Derived.Test.YtchbgfgboogniaaDoorGD
import Derived.Test.YtchbgfgboogniaaDoorGA
import Derived.Test.YtchbgfgboogniaaDoorGB
import Derived.Test.YtchbgfgboogniaaDoorGC
import Derived.Laws.MakeOwn
import Derived.Lib.ConvBytes
namespace Go.Proofs.YtchbgfgboogniaaDoor
open Go.RowKit
theorem Blk.new' (w : World) {t : TypeId} {A : Array Value} {cs : List Value} (h : A = cs.toArray) : Blk (w.alloc (.cells A t)) w.heap.size t cs := by subst h; exact Blk.new w t cs
/-- ints as cells -/
def icells (xs : List Nat) : List Value := xs.map fun (n : Nat) => Value.int .i64 (n : Int)
theorem icells_get {xs : List Nat} {i n : Nat} (h : xs[i]? = some n) : (icells xs)[i]? = some (.int .i64 (n : Int)) := by simp [icells, h]
theorem words_any (w : World) : Calls Tryd.prog 131 #[] w fun e w' => e = .returned (.slice (some ⟨w.heap.size, 0, none⟩) 8 8) ∧ Blk w' w.heap.size 178 (wcells Bl.iv) ∧ Only [] w w' := by
  go_enter Tryd.func131, Tryd.ntmps131
  go_wp2
  go_ret
  exact ⟨rfl, Blk.new w _ (wcells Bl.iv), (Only.refl [] w).alloc _⟩

def allocs (w : World) (os : List Obj) : World := os.foldl World.alloc w
theorem allocs_heap : ∀ (os : List Obj) (w : World) (i : Nat), i < os.length → (allocs w os).heap[w.heap.size + i]? = os[i]? ∧ w.heap.size ≤ (allocs w os).heap.size
  | [], _, i, h => by simp at h
  | o :: os, w, 0, _ => by
    have hsz : ∀ (os : List Obj) (w : World) (k : Nat), k < w.heap.size → (allocs w os).heap[k]? = w.heap[k]? ∧ w.heap.size ≤ (allocs w os).heap.size := by
      intro os
      induction os with
      | nil => exact fun w k _ => ⟨rfl, Nat.le_refl _⟩
      | cons o os ih =>
        intro w k hk
        obtain ⟨h1, h2⟩ := ih (w.alloc o) k (by simp; omega)
        refine ⟨h1.trans (Below.heap_alloc w o k hk), Nat.le_trans ?_ h2⟩
        simp
    obtain ⟨h1, h2⟩ := hsz os (w.alloc o) w.heap.size (by simp)
    exact ⟨h1.trans (heap_alloc_new w o), Nat.le_trans (by simp) h2⟩
  | o :: os, w, i + 1, h => by
    obtain ⟨h1, h2⟩ := allocs_heap os (w.alloc o) i (by simpa using h)
    have e : (w.alloc o).heap.size + i = w.heap.size + (i + 1) := by simp; omega
    rw [e] at h1
    exact ⟨by rw [List.getElem?_cons_succ]; exact h1, Nat.le_trans (by simp) h2⟩
theorem allocs_only : ∀ (os : List Obj) (w w0 : World), Only [] w0 w → Only [] w0 (allocs w os)
  | [], _, _, h => h
  | o :: os, w, w0, h => allocs_only os (w.alloc o) w0 (h.alloc o)

/-- The four places of the i-th time. -/
def lane (i : Nat) : List Nat := [[0, 4, 8, 12], [1, 5, 9, 13], [2, 6, 10, 14], [3, 7, 11, 15], [0, 5, 10, 15], [1, 6, 11, 12], [2, 7, 8, 13], [3, 4, 9, 14]].getD i []
theorem lane_any (w : World) (i : Nat) (hi : i < 8) : Calls Tryd.prog 140 #[.int .i64 (i : Int)] w fun e w' => e = .returned (.slice (some ⟨w.heap.size, 0, none⟩) 4 4) ∧ Blk w' w.heap.size 3 (icells (lane i)) ∧ Only [] w w' := by
  rcases (show i = 0 ∨ i = 1 ∨ i = 2 ∨ i = 3 ∨ i = 4 ∨ i = 5 ∨ i = 6 ∨ i = 7 by omega) with rfl | rfl | rfl | rfl | rfl | rfl | rfl | rfl
  all_goals
    go_enter Tryd.func140, Tryd.ntmps140
    go_wp2
    go_ret
    exact ⟨rfl, Blk.new' w rfl, (Only.refl [] w).alloc _⟩

theorem wpl_load1 {P : Program} {w : World} {ops : Array Oper} {rest : List Oper} {o : Oper} {a : Act} {Q : Exit → Act → World → Prop} (hgd : o.guard = none) (ty : TypeId) (x : Operand) (ho : o.op = .load ty x)
    (p : Addr) (hx : a.eval x = .pointer (some p)) (d : TypeDesc) (hu : P.underlying ty = some d) (hd : d.isRow = false) (v : Value) (hc : w.cell? p = some v)
    (h : wpList P ops Q rest (a.put o.dst v) w) : wpList P ops Q (o :: rest) a w :=
  wpList_plain hgd fun K hK => by
    have hag : (isAgg ty).run P w = .ok false w := by
      cases d <;> simp [TypeDesc.isRow] at hd <;> simp [isAgg, run_underlying hu]
    have hl : (load p).run P w = .ok v w := by simp [load, Sem.run, hc]
    unfold Oper.wp execOp
    simp only [ho, hx, Instr.loadAt, Instr.sureAddr, Sem.run_bind, Sem.run_pure, Result.andThen_ok, loadVar, hag, Bool.false_eq_true, if_false, hl]
    exact hK _ _ h

set_option maxHeartbeats 1000000 in
theorem row_any (w : World) (r : Nat) (hr : r < 10) : Calls Tryd.prog 138 #[.int .i64 (r : Int)] w fun e w' => e = .returned (.slice (some ⟨w.heap.size + r, 0, none⟩) 16 16) ∧ Blk w' (w.heap.size + r) 3 (icells (Bl.tab.getD r [])) ∧ Only [] w w' := by
  have hrI : (r : Int) < 10 := by omega
  go_enter Tryd.func138, Tryd.ntmps138
  go_wp2_with (refine wpl_load1 rfl 188 _ rfl _ rfl _ Tryd.underlying188 rfl (.slice (some ⟨w.heap.size + r, 0, none⟩) 16 16) ?hc ?_)
  case hc =>
    show (allocs w [_, _, _, _, _, _, _, _, _, _, _]).cell? ⟨w.heap.size + 10, r, none⟩ = _
    unfold World.cell?
    rw [(allocs_heap _ w 10 (by simp)).1]
    rcases (show r = 0 ∨ r = 1 ∨ r = 2 ∨ r = 3 ∨ r = 4 ∨ r = 5 ∨ r = 6 ∨ r = 7 ∨ r = 8 ∨ r = 9 by omega) with rfl | rfl | rfl | rfl | rfl | rfl | rfl | rfl | rfl | rfl <;> rfl
  go_ret
  refine ⟨rfl, ?_, allocs_only [_, _, _, _, _, _, _, _, _, _, _] w w (Only.refl [] w)⟩
  show (allocs w [_, _, _, _, _, _, _, _, _, _, _]).heap[w.heap.size + r]? = _
  rw [(allocs_heap _ w r (by simp; omega)).1]
  rcases (show r = 0 ∨ r = 1 ∨ r = 2 ∨ r = 3 ∨ r = 4 ∨ r = 5 ∨ r = 6 ∨ r = 7 ∨ r = 8 ∨ r = 9 by omega) with rfl | rfl | rfl | rfl | rfl | rfl | rfl | rfl | rfl | rfl <;> rfl
end Go.Proofs.YtchbgfgboogniaaDoor
namespace Go.Proofs.YtchbgfgboogniaaDoor
open Go.RowKit
theorem or_rot' (x p q : Nat) (hx : x < 4294967296) : bits .or .u32 ((x : Int) / q) ((x : Int) * p % 4294967296) = ((x / q ||| x * p % 4294967296 : Nat) : Int) := by
  have h1 : x / q < 4294967296 := Nat.lt_of_le_of_lt (Nat.div_le_self _ _) hx
  have h2 : x * p % 4294967296 < 4294967296 := by omega
  have := u32_or_nat (x / q) (x * p % 4294967296) h1 h2
  rw [← this]
  simp

theorem right16 (x r : Nat) (hx : x < 4294967296) (hr : r = Bl.ror x 16) (w : World) :
    Calls Tryd.prog 143 #[.int .u32 x, .int .i64 16] w fun e w' => e = .returned (.int .u32 (r : Nat)) ∧ w' = w.drew := by
  have Hr := Lib.hid hr
  clear hr
  have w16 : IntKind.i64.wrap 16 = 16 := by decide
  go_enter Tryd.func143, Tryd.ntmps143
  go_wp2
  refine Ord.wp_tail 9 (by kernel_rfl) (by kernel_rfl) (fun d _ _ _ _ h => by cases d <;> exact h) ?_
  simp only [List.take_succ_cons, List.take_zero, List.drop_succ_cons, List.drop_zero]
  repeat still_step
  refine wpStill_nil ?_
  go_wp2
  go_ret
  exact ⟨congrArg (fun n => Ending.returned (.int .u32 n)) (by rw [IntKind.wrap_u32', Hr.out]; exact or_rot' x 65536 65536 hx), rfl⟩
theorem right12 (x r : Nat) (hx : x < 4294967296) (hr : r = Bl.ror x 12) (w : World) :
    Calls Tryd.prog 143 #[.int .u32 x, .int .i64 12] w fun e w' => e = .returned (.int .u32 (r : Nat)) ∧ w' = w.drew := by
  have Hr := Lib.hid hr
  clear hr
  have w16 : IntKind.i64.wrap 20 = 20 := by decide
  go_enter Tryd.func143, Tryd.ntmps143
  go_wp2
  refine Ord.wp_tail 9 (by kernel_rfl) (by kernel_rfl) (fun d _ _ _ _ h => by cases d <;> exact h) ?_
  simp only [List.take_succ_cons, List.take_zero, List.drop_succ_cons, List.drop_zero]
  repeat still_step
  refine wpStill_nil ?_
  go_wp2
  go_ret
  exact ⟨congrArg (fun n => Ending.returned (.int .u32 n)) (by rw [IntKind.wrap_u32', Hr.out]; exact or_rot' x 1048576 4096 hx), rfl⟩
theorem right8 (x r : Nat) (hx : x < 4294967296) (hr : r = Bl.ror x 8) (w : World) :
    Calls Tryd.prog 143 #[.int .u32 x, .int .i64 8] w fun e w' => e = .returned (.int .u32 (r : Nat)) ∧ w' = w.drew := by
  have Hr := Lib.hid hr
  clear hr
  have w16 : IntKind.i64.wrap 24 = 24 := by decide
  go_enter Tryd.func143, Tryd.ntmps143
  go_wp2
  refine Ord.wp_tail 9 (by kernel_rfl) (by kernel_rfl) (fun d _ _ _ _ h => by cases d <;> exact h) ?_
  simp only [List.take_succ_cons, List.take_zero, List.drop_succ_cons, List.drop_zero]
  repeat still_step
  refine wpStill_nil ?_
  go_wp2
  go_ret
  exact ⟨congrArg (fun n => Ending.returned (.int .u32 n)) (by rw [IntKind.wrap_u32', Hr.out]; exact or_rot' x 16777216 256 hx), rfl⟩
theorem right7 (x r : Nat) (hx : x < 4294967296) (hr : r = Bl.ror x 7) (w : World) :
    Calls Tryd.prog 143 #[.int .u32 x, .int .i64 7] w fun e w' => e = .returned (.int .u32 (r : Nat)) ∧ w' = w.drew := by
  have Hr := Lib.hid hr
  clear hr
  have w16 : IntKind.i64.wrap 25 = 25 := by decide
  go_enter Tryd.func143, Tryd.ntmps143
  go_wp2
  refine Ord.wp_tail 9 (by kernel_rfl) (by kernel_rfl) (fun d _ _ _ _ h => by cases d <;> exact h) ?_
  simp only [List.take_succ_cons, List.take_zero, List.drop_succ_cons, List.drop_zero]
  repeat still_step
  refine wpStill_nil ?_
  go_wp2
  go_ret
  exact ⟨congrArg (fun n => Ending.returned (.int .u32 n)) (by rw [IntKind.wrap_u32', Hr.out]; exact or_rot' x 33554432 128 hx), rfl⟩

theorem wset {ws : List Nat} {rest : List Value} {i n : Nat} (h : i < ws.length) : (wcells ws ++ rest).set i (.int .u32 (n : Int)) = wcells (ws.set i n) ++ rest := by
  rw [List.set_append_left _ _ (by simpa using h), wcells_set]

set_option maxHeartbeats 2000000 in
set_option maxRecDepth 100000 in
theorem g_walk (w : World) (gv gl : Nat) (cv : Nat) (ws : List Nat) (rest : List Value) (a b c d x y : Nat) (hw : Bl.Words 16 ws) (hv : Blk w gv 178 (wcells ws ++ rest)) (hl : Blk w gl 3 (icells [a, b, c, d])) (_hg : gl ≠ gv)
    (la : a < 16) (lb : b < 16) (lc : c < 16) (ld : d < 16) (ab : a ≠ b) (ac : a ≠ c) (ad : a ≠ d) (bc : b ≠ c) (bd : b ≠ d) (cd : c ≠ d) :
    Calls Tryd.prog 139 #[.slice (some ⟨gv, 0, none⟩) 16 cv, .slice (some ⟨gl, 0, none⟩) 4 4, .int .u32 x, .int .u32 y] w fun e w' =>
      e = .returned (.tuple #[]) ∧ Blk w' gv 178 (wcells (Bl.mixw ws a b c d x y) ++ rest) ∧ Only [gv] w w' := by
  have hget : ∀ i, i < 16 → (wcells ws ++ rest)[i]? = some (.int .u32 (ws.getD i 0 : Nat)) := fun i hi => by
    rw [List.getElem?_append_left (by simp [hw.1, hi])]; exact wcells_get (wget hw hi)
  obtain ⟨va, Hva⟩ : ∃ n, Hid (n = ws.getD a 0) := ⟨_, rfl⟩
  obtain ⟨vb, Hvb⟩ : ∃ n, Hid (n = ws.getD b 0) := ⟨_, rfl⟩
  obtain ⟨vc, Hvc⟩ : ∃ n, Hid (n = ws.getD c 0) := ⟨_, rfl⟩
  obtain ⟨vd, Hvd⟩ : ∃ n, Hid (n = ws.getD d 0) := ⟨_, rfl⟩
  have k0 : w.cell? ⟨gl, 0, none⟩ = some (.int .i64 (a : Int)) := hl.cellv rfl
  have k1 : w.cell? ⟨gl, 1, none⟩ = some (.int .i64 (b : Int)) := hl.cellv rfl
  have k2 : w.cell? ⟨gl, 2, none⟩ = some (.int .i64 (c : Int)) := hl.cellv rfl
  have k3 : w.cell? ⟨gl, 3, none⟩ = some (.int .i64 (d : Int)) := hl.cellv rfl
  have ca : w.cell? ⟨gv, a, none⟩ = some (.int .u32 (va : Int)) := by rw [Hva.out]; exact hv.cellv (hget a la)
  have cb : w.cell? ⟨gv, b, none⟩ = some (.int .u32 (vb : Int)) := by rw [Hvb.out]; exact hv.cellv (hget b lb)
  have cc : w.cell? ⟨gv, c, none⟩ = some (.int .u32 (vc : Int)) := by rw [Hvc.out]; exact hv.cellv (hget c lc)
  have cd' : w.cell? ⟨gv, d, none⟩ = some (.int .u32 (vd : Int)) := by rw [Hvd.out]; exact hv.cellv (hget d ld)
  have la' : (a : Int) < 16 := by omega
  have lb' : (b : Int) < 16 := by omega
  have lc' : (c : Int) < 16 := by omega
  have ld' : (d : Int) < 16 := by omega
  have Hget := Lib.hid hget
  clear hget
  go_enter Tryd.func139, Tryd.ntmps139
  refine wp_seq_k fun K hK => ?_
  refine Ord.wp_tail 28 (by kernel_rfl) (by kernel_rfl) (fun d _ _ _ _ h => by cases d <;> exact h) ?_
  simp only [List.take_succ_cons, List.take_zero, List.drop_succ_cons, List.drop_zero]
  repeat still_step
  refine wpStill_nil ?_
  have lva : va < 4294967296 := by rw [Hva.out]; exact hw.getD _
  have lvb : vb < 4294967296 := by rw [Hvb.out]; exact hw.getD _
  have lvc : vc < 4294967296 := by rw [Hvc.out]; exact hw.getD _
  have lvd : vd < 4294967296 := by rw [Hvd.out]; exact hw.getD _
  obtain ⟨a1, Ha1⟩ : ∃ n, Hid (n = Bl.add32 va (Bl.add32 vb x)) := ⟨_, rfl⟩
  have eA1 : (((va : Int) + vb) % 4294967296 + x) % 4294967296 = (a1 : Int) := by rw [Ha1.out]; simp [Bl.add32]; omega
  have eB1 : ((va : Int) + vb + x) % 4294967296 = (a1 : Int) := by rw [Ha1.out]; simp [Bl.add32]; omega
  have la1 : a1 < 4294967296 := by rw [Ha1.out]; exact Bl.add32_lt _ _
  obtain ⟨zd1, Hzd1⟩ : ∃ n, Hid (n = vd ^^^ a1) := ⟨_, rfl⟩
  have ezd1 : bits .xor .u32 (vd : Int) (a1 : Int) = (zd1 : Int) := by rw [Hzd1.out]; exact u32_xor_nat _ _ lvd la1
  have lzd1 : zd1 < 4294967296 := by rw [Hzd1.out]; exact Bl.xor_lt _ _ lvd la1
  obtain ⟨d1, Hd1⟩ : ∃ n, Hid (n = Bl.ror zd1 16) := ⟨_, rfl⟩
  have ld1 : d1 < 4294967296 := by rw [Hd1.out]; exact Bl.ror_lt _ _ lzd1
  go_wp2_with fail
  simp only [eA1]
  refine (right16 zd1 d1 lzd1 Hd1.out _).mono ?_
  rintro e w' ⟨rfl, rfl⟩
  obtain ⟨c1, Hc1⟩ : ∃ n, Hid (n = Bl.add32 vc d1) := ⟨_, rfl⟩
  have eC1 : ((vc : Int) + d1) % 4294967296 = (c1 : Int) := by rw [Hc1.out]; exact Bl.add_cast _ _
  have lc1 : c1 < 4294967296 := by rw [Hc1.out]; exact Bl.add32_lt _ _
  obtain ⟨zb1, Hzb1⟩ : ∃ n, Hid (n = vb ^^^ c1) := ⟨_, rfl⟩
  have ezb1 : bits .xor .u32 (vb : Int) (c1 : Int) = (zb1 : Int) := by rw [Hzb1.out]; exact u32_xor_nat _ _ lvb lc1
  have lzb1 : zb1 < 4294967296 := by rw [Hzb1.out]; exact Bl.xor_lt _ _ lvb lc1
  obtain ⟨b1, Hb1⟩ : ∃ n, Hid (n = Bl.ror zb1 12) := ⟨_, rfl⟩
  have lb1 : b1 < 4294967296 := by rw [Hb1.out]; exact Bl.ror_lt _ _ lzb1
  go_wp2_with fail
  simp only [eC1]
  refine (right12 zb1 b1 lzb1 Hb1.out _).mono ?_
  rintro e w' ⟨rfl, rfl⟩
  clear eA1 eB1 eC1 ezd1 ezb1
  obtain ⟨a2, Ha2⟩ : ∃ n, Hid (n = Bl.add32 a1 (Bl.add32 b1 y)) := ⟨_, rfl⟩
  have eA2 : (((a1 : Int) + b1) % 4294967296 + y) % 4294967296 = (a2 : Int) := by rw [Ha2.out]; simp [Bl.add32]; omega
  have eB2 : ((a1 : Int) + b1 + y) % 4294967296 = (a2 : Int) := by rw [Ha2.out]; simp [Bl.add32]; omega
  have la2 : a2 < 4294967296 := by rw [Ha2.out]; exact Bl.add32_lt _ _
  obtain ⟨zd2, Hzd2⟩ : ∃ n, Hid (n = d1 ^^^ a2) := ⟨_, rfl⟩
  have ezd2 : bits .xor .u32 (d1 : Int) (a2 : Int) = (zd2 : Int) := by rw [Hzd2.out]; exact u32_xor_nat _ _ ld1 la2
  have lzd2 : zd2 < 4294967296 := by rw [Hzd2.out]; exact Bl.xor_lt _ _ ld1 la2
  obtain ⟨d2, Hd2⟩ : ∃ n, Hid (n = Bl.ror zd2 8) := ⟨_, rfl⟩
  have ld2 : d2 < 4294967296 := by rw [Hd2.out]; exact Bl.ror_lt _ _ lzd2
  go_wp2_with fail
  simp only [eA2]
  refine (right8 zd2 d2 lzd2 Hd2.out _).mono ?_
  rintro e w' ⟨rfl, rfl⟩
  obtain ⟨c2, Hc2⟩ : ∃ n, Hid (n = Bl.add32 c1 d2) := ⟨_, rfl⟩
  have eC2 : ((c1 : Int) + d2) % 4294967296 = (c2 : Int) := by rw [Hc2.out]; exact Bl.add_cast _ _
  have lc2 : c2 < 4294967296 := by rw [Hc2.out]; exact Bl.add32_lt _ _
  obtain ⟨zb2, Hzb2⟩ : ∃ n, Hid (n = b1 ^^^ c2) := ⟨_, rfl⟩
  have ezb2 : bits .xor .u32 (b1 : Int) (c2 : Int) = (zb2 : Int) := by rw [Hzb2.out]; exact u32_xor_nat _ _ lb1 lc2
  have lzb2 : zb2 < 4294967296 := by rw [Hzb2.out]; exact Bl.xor_lt _ _ lb1 lc2
  obtain ⟨b2, Hb2⟩ : ∃ n, Hid (n = Bl.ror zb2 7) := ⟨_, rfl⟩
  have lb2 : b2 < 4294967296 := by rw [Hb2.out]; exact Bl.ror_lt _ _ lzb2
  go_wp2_with fail
  simp only [eC2]
  refine (right7 zb2 b2 lzb2 Hb2.out _).mono ?_
  rintro e w' ⟨rfl, rfl⟩
  clear eA2 eB2 eC2 ezd2 ezb2
  go_wp2_with fail
  have fz : ∀ i, w.frozen? ⟨gv, i, none⟩ = false := fun i => hv.frozen i
  refine Ord.wp_tail 20 (by kernel_rfl) (by kernel_rfl) (fun d _ _ _ _ h => by cases d <;> exact h) ?_
  simp only [List.take_succ_cons, List.take_zero, List.drop_succ_cons, List.drop_zero]
  repeat still_step
  refine wpStill_nil ?_
  go_wp2
  refine bodyPost_end (results_none rfl _ _ _) rfl ⟨rfl, ?_, ?_⟩
  · have e : Bl.mixw ws a b c d x y = (((ws.set a a2).set b b2).set c c2).set d d2 := by
      simp only [Bl.mixw, Bl.gmix, Bl.half, ← Hva.out, ← Hvb.out, ← Hvc.out, ← Hvd.out]
      rw [Hb2.out, Hzb2.out, Hc2.out, Hd2.out, Hzd2.out, Ha2.out, Hb1.out, Hzb1.out, Hc1.out, Hd1.out, Hzd1.out, Ha1.out]
    have hl := hw.1
    have h4 := (((hv.set a (.int .u32 (a2 : Int))).set b (.int .u32 (b2 : Int))).set c (.int .u32 (c2 : Int))).set d (.int .u32 (d2 : Int))
    rw [wset (by omega), wset (by simp; omega), wset (by simp; omega), wset (by simp; omega), ← e] at h4
    exact h4
  · have h5 := ((((Only.refl [gv] w).setCell (p := ⟨gv, a, none⟩) (.inl (by simp)) (.int .u32 (a2 : Int))).setCell (p := ⟨gv, b, none⟩) (.inl (by simp)) (.int .u32 (b2 : Int))).setCell (p := ⟨gv, c, none⟩) (.inl (by simp)) (.int .u32 (c2 : Int))).setCell (p := ⟨gv, d, none⟩) (.inl (by simp)) (.int .u32 (d2 : Int))
    exact ⟨h5.os, h5.tape, h5.output, h5.size, h5.block⟩
end Go.Proofs.YtchbgfgboogniaaDoor
namespace Go.Proofs.YtchbgfgboogniaaDoor
open Go.RowKit
theorem info8 : (Tryd.prog.info? 5).map (fun i => (i.zero, i.size, i.bytes)) = some (some (.int .u8 0), 1, 1) := by kernel_rfl

section
variable {w : World} {ops : Array Oper} {rest : List Oper} {o : Oper} {a : Act} {Q : Exit → Act → World → Prop}
theorem wpl_append8 (hgd : o.guard = none) (s x : Operand) (ho : o.op = .call { callee := .builtin .append, args := #[s, x], argTypes := #[23, 23] })
    (A : Option Addr) (n c : Nat) (xs : List UInt8) (G : Option Nat) (hs : a.eval s = .slice A n c) (hn : n = xs.length) (hown : OwnS w 5 A c (cellsOf xs) G)
    (B : Option Addr) (m d : Nat) (ys : List UInt8) (hx : a.eval x = .slice B m d) (hm : m = ys.length) (hr : RV w B (cellsOf ys))
    (hlen : xs.length + ys.length ≤ 1099511627776)
    (h : ∀ A' c' w' G', OwnS w' 5 A' c' (cellsOf (xs ++ ys)) G' → Only G.toList w w' → (G' = G ∨ G' = some w.heap.size) → wpList Tryd.prog ops Q rest (a.put o.dst (.slice A' (n + m) c')) w') : wpList Tryd.prog ops Q (o :: rest) a w := by
  have hi := info8
  cases hI : Tryd.prog.info? 5 with
  | none => rw [hI] at hi; cases hi
  | some i =>
    rw [hI] at hi
    injection hi with hi
    injection hi with h1 h2
    injection h2 with h2 h3
    refine wpl_append hgd s x 23 ho 5 i (.int .u8 0) 1 Tryd.underlying23 hI h1 h2 h3 rfl A n c (cellsOf xs) G hs (by simpa using hn) hown B m d (cellsOf ys) hx (by simpa using hm) hr cellsOf_one (by simpa using hlen) (by decide) fun A' c' w' G' hw hO hG => h A' c' w' G' (by simpa [cellsOf] using hw) hO hG
/-- an array of 32 bytes into a block of its own -/
theorem wpl_put32 (hgd : o.guard = none) (x y : Operand) (ho : o.op = .store 104 x y) (g : Nat) (bs : List UInt8) (hx : a.eval x = .pointer (some ⟨g, 0, none⟩)) (hy : a.eval y = .agg (cellsOf bs).toArray)
    (cur : List Value) (hb : Blk w g 104 cur) (hc : cur.length = 32) (hl : bs.length = 32)
    (h : ∀ w', Blk w' g 104 (cellsOf bs) → Only [g] w w' → wpList Tryd.prog ops Q rest (a.put o.dst undef) w') : wpList Tryd.prog ops Q (o :: rest) a w := by
  have hs : (Tryd.prog.info? 104).map (·.size) = some 32 := by kernel_rfl
  exact wpl_store_all hgd _ x y ho g (cellsOf bs) hx hy _ cur hb (by simp [hc, hl]) (by simpa [hl] using hs) cellsOf_one h
end
end Go.Proofs.YtchbgfgboogniaaDoor
namespace Go.Proofs.YtchbgfgboogniaaDoor
open Go.RowKit
/-- A block made since w0. -/
theorem info32 : (Tryd.prog.info? 178).map (fun i => (i.zero, i.size, i.bytes)) = some (some (.int .u32 0), 1, 4) := by kernel_rfl
section
variable {w : World} {ops : Array Oper} {rest : List Oper} {o : Oper} {a : Act} {Q : Exit → Act → World → Prop}
theorem wpl_append32 (hgd : o.guard = none) (s x : Operand) (ho : o.op = .call { callee := .builtin .append, args := #[s, x], argTypes := #[176, 176] })
    (A : Option Addr) (n c : Nat) (xs : List Nat) (G : Option Nat) (hs : a.eval s = .slice A n c) (hn : n = xs.length) (hown : OwnS w 178 A c (wcells xs) G)
    (B : Option Addr) (m d : Nat) (ys : List Nat) (hx : a.eval x = .slice B m d) (hm : m = ys.length) (hr : RV w B (wcells ys))
    (hlen : xs.length + ys.length ≤ 1099511627776)
    (h : ∀ A' c' w' G', OwnS w' 178 A' c' (wcells (xs ++ ys)) G' → Only G.toList w w' → (G' = G ∨ G' = some w.heap.size) → wpList Tryd.prog ops Q rest (a.put o.dst (.slice A' (n + m) c')) w') : wpList Tryd.prog ops Q (o :: rest) a w := by
  have hi := info32
  cases hI : Tryd.prog.info? 178 with
  | none => rw [hI] at hi; cases hi
  | some i =>
    rw [hI] at hi
    injection hi with hi
    injection hi with h1 h2
    injection h2 with h2 h3
    refine wpl_append hgd s x 176 ho 178 i (.int .u32 0) 4 Tryd.underlying176 hI h1 h2 h3 rfl A n c (wcells xs) G hs (by simpa using hn) hown B m d (wcells ys) hx (by simpa using hm) hr (fun u hu => by obtain ⟨n, _, rfl⟩ := List.mem_map.1 hu; rfl) (by simpa using hlen) (by decide) fun A' c' w' G' hw hO hG => h A' c' w' G' (by simpa [wcells] using hw) hO hG
end
namespace Bl
/-- A round, lane by lane. -/
def lanesTo (m row v : List Nat) : Nat → List Nat
  | 0 => v
  | j + 1 => mixw (lanesTo m row v j) ((lane j).getD 0 0) ((lane j).getD 1 0) ((lane j).getD 2 0) ((lane j).getD 3 0) (m.getD (row.getD (2 * j) 0) 0) (m.getD (row.getD (2 * j + 1) 0) 0)
theorem lanesTo_all (m row v : List Nat) : lanesTo m row v 8 = round m row v := rfl
theorem lanesTo_words {m row v : List Nat} (h : Words 16 v) : ∀ j, Words 16 (lanesTo m row v j)
  | 0 => h
  | j + 1 => mixw_words (lanesTo_words h j) _ _ _ _ _ _
end Bl
theorem lane_four (j : Nat) (hj : j < 8) : ∃ a b c d, lane j = [a, b, c, d] ∧ a < 16 ∧ b < 16 ∧ c < 16 ∧ d < 16 ∧ a ≠ b ∧ a ≠ c ∧ a ≠ d ∧ b ≠ c ∧ b ≠ d ∧ c ≠ d := by
  rcases (show j = 0 ∨ j = 1 ∨ j = 2 ∨ j = 3 ∨ j = 4 ∨ j = 5 ∨ j = 6 ∨ j = 7 by omega) with rfl | rfl | rfl | rfl | rfl | rfl | rfl | rfl <;> exact ⟨_, _, _, _, rfl, by decide, by decide, by decide, by decide, by decide, by decide, by decide, by decide, by decide, by decide⟩
theorem nget {l : List Nat} {i : Nat} (h : i < l.length) : l[i]? = some (l.getD i 0) := by simp [h]
set_option maxHeartbeats 8000000 in
set_option maxRecDepth 100000 in
theorem compress_ref (w : World) (A B : Option Addr) (ca cb : Nat) (st : List Nat) (bs : List UInt8) (t : Nat) (last : Bool) (hst : Bl.Words 8 st) (hbs : bs.length = 64) (hA : RV w A (wcells st)) (hB : RV w B (cellsOf bs)) (_hca : 8 ≤ ca) (_hcb : 64 ≤ cb) (ht : t < 4611686018427387904) :
    Calls Tryd.prog 132 #[.slice A 8 ca, .slice B 64 cb, .int .i64 (t : Int), .bool last] w fun e w' => ∃ A' c' G, e = .returned (.slice A' 8 c') ∧ OwnS w' 178 A' c' (wcells (Bl.comp st bs t last)) G ∧ New w G ∧ Only [] w w' := by
  obtain ⟨gb, ob, rfl, hgb, hcb'⟩ := hB (by simp [hbs])
  obtain ⟨gh, oh, rfl, hgh, hch'⟩ := hA (by simp [hst.1])
  have Hcb := Lib.hid hcb'
  have Hch := Lib.hid hch'
  have Hbs := Lib.hid hbs
  clear hcb' hch' hbs
  go_enter Tryd.func132, Tryd.ntmps132
  go_wp2
  go_loopw [9, 10] (fun m i wr => ∃ (k : Nat) (Am : Option Addr) (cm : Nat) (G : Option Nat), k ≤ 16 ∧ i = .int .i64 k ∧ m = .slice Am k cm ∧ OwnS wr 178 Am cm (wcells ((List.range k).map (Bl.mw bs))) G ∧ New w G ∧ Only [] w wr) (fun _ i _ => 16 - (intOf i).toNat)
  case atStart => exact ⟨0, none, 0, none, by omega, rfl, rfl, OwnS.none _ _, New.none _, Only.refl _ _⟩
  case round =>
    obtain ⟨k, Am, cm, G, hk, rfl, rfl, hown, hnew, hO⟩ := hrel
    by_cases hlt : k < 16
    ·
      have hltI : (k : Int) < 16 := by omega
      have hcell : ∀ j, j < 64 → wr.cell? ⟨gb, ob + j, none⟩ = some (.int .u8 ((bs.getD j 0).toNat : Int)) := fun j hj => by
        rw [hO.cell (p := ⟨gb, ob + j, none⟩) hgb (by simp), Hcb.out j (by simp [Hbs.out, hj]), cellsOf_getD (by rw [Hbs.out]; exact hj)]
      obtain ⟨b0, E0⟩ : ∃ n, n = (bs.getD (4 * k) 0).toNat := ⟨_, rfl⟩
      obtain ⟨b1, E1⟩ : ∃ n, n = (bs.getD (4 * k + 1) 0).toNat := ⟨_, rfl⟩
      obtain ⟨b2, E2⟩ : ∃ n, n = (bs.getD (4 * k + 2) 0).toNat := ⟨_, rfl⟩
      obtain ⟨b3, E3⟩ : ∃ n, n = (bs.getD (4 * k + 3) 0).toNat := ⟨_, rfl⟩
      have l0 : b0 < 256 := by rw [E0]; exact UInt8.toNat_lt _
      have l1 : b1 < 256 := by rw [E1]; exact UInt8.toNat_lt _
      have l2 : b2 < 256 := by rw [E2]; exact UInt8.toNat_lt _
      have l3 : b3 < 256 := by rw [E3]; exact UInt8.toNat_lt _
      have c0 : wr.cell? ⟨gb, ob + 4 * k, none⟩ = some (.int .u8 (b0 : Int)) := by rw [E0]; exact hcell _ (by omega)
      have c1 : wr.cell? ⟨gb, ob + (4 * k + 1), none⟩ = some (.int .u8 (b1 : Int)) := by rw [E1]; exact hcell _ (by omega)
      have c2 : wr.cell? ⟨gb, ob + (4 * k + 2), none⟩ = some (.int .u8 (b2 : Int)) := by rw [E2]; exact hcell _ (by omega)
      have c3 : wr.cell? ⟨gb, ob + (4 * k + 3), none⟩ = some (.int .u8 (b3 : Int)) := by rw [E3]; exact hcell _ (by omega)
      have eM := Bl.mword_cast l0 l1 l2 l3
      have Hmw : Hid (Bl.mw bs k = Bl.mword b0 b1 b2 b3) := by rw [E0, E1, E2, E3]; rfl
      have HeM := Lib.hid eM
      have hgb' : gb < wr.heap.size := Nat.lt_of_lt_of_le hgb hO.size
      have hgbG : gb ∉ G.toList := hnew.far hgb
      clear E0 E1 E2 E3 hcell eM
      go_wp2
      refine Reg.wp G.toList [.r 0, .r 1, .r 2, .r 3, .r 4, .r 5, .r 6, .r 7, .r 8, .r 9, .r 10, .r 11, .r 12, .r 13, .r 14, .r 15, .r 16, .r 17, .r 18, .r 19, .r 20, .r 21, .r 22, .r 23, .r 24, .r 25, .r 26, .r 27, .r 28, .r 29, .r 30, .r 31, .r 32, .r 33, .e 34, .e 35, .r 36] (by kernel_rfl) (by kernel_rfl) (fun d _ _ _ _ h => by cases d <;> exact h) ?_
      simp only [Reg.pick, List.getD_cons_succ, List.getD_cons_zero]
      iterate 34 (apply Reg.read; (· (intro t K hK; go_simp; (try go_ints); (try ((go_ite <;> go_prune); go_simp)); (try go_ints); exact hK _ rfl)); (· (intro K hK; go_simp; exact hK _ rfl)))
      refine Reg.eff ?_
      go_wp2
      refine ⟨((Only.refl G.toList wr).alloc _).dd, ?_⟩
      simp only [HeM.out]
      rw [← Hmw.out]
      clear c0 c1 c2 c3 HeM
      refine Reg.eff ?_
      refine wpl_append32 rfl (.tmp 21) (.tmp 55) rfl Am k cm _ G rfl (by simp) ((hown.keep ((Only.refl [] wr).alloc _) (by simp)).drew) (some ⟨wr.heap.size, 0, none⟩) 1 1 [Bl.mw bs k] rfl rfl (RV.one wr _ _).drew (by simp; omega) ?_
      intro A' c' w2 G' hown2 hO2 hG2
      refine Reg.done hO2 ?_
      (apply Reg.read; (· (intro t K hK; go_simp; (try go_ints); (try ((go_ite <;> go_prune); go_simp)); (try go_ints); exact hK _ rfl)); (· (intro K hK; go_simp; exact hK _ rfl)))
      refine Reg.fin ?_
      have hO1s := hO.size
      have hO2' : Only [] w w2 := ((hO.alloc _).drew).trans hO2 hnew.out
      clear hO2 hO hown
      go_wp2
      go_roundw
      case rel =>
        refine ⟨k + 1, A', c', G', by omega, by go_num, rfl, ?_, hnew.next (Nat.le_trans hO1s (by simp)) hG2, hO2'⟩
        rw [List.range_succ, List.map_append]; exact hown2
      case measure => simp [intOf]; omega
    · obtain rfl : k = 16 := by omega
      clear hlt hk
      have hown : OwnS wr 178 Am cm (wcells (Bl.mws bs)) G := hown
      obtain ⟨gm, mrest, rfl, rfl, hBm⟩ := hown.blk (by simp [Bl.mws])
      have hgm := hBm.lt
      have hgmw := hnew gm rfl
      clear hown
      rw [show ((16 : Nat) : Int) = 16 from rfl]
      have hAr : RV wr (some ⟨gh, oh, none⟩) (wcells st) := fun _ => ⟨gh, oh, rfl, Nat.lt_of_lt_of_le hgh hO.size, fun j hj => (hO.cell (p := ⟨gh, oh + j, none⟩) hgh (by simp)).trans (Hch.out j hj)⟩
      go_upto_region 7 with (fail)
      have hlw : st.length = 8 := hst.1
      have Hlw := Lib.hid hlw
      clear hlw
      obtain ⟨z12, ez12⟩ : ∃ n, n = 1359893119 ^^^ t % 4294967296 := ⟨_, rfl⟩
      obtain ⟨z13, ez13⟩ : ∃ n, n = 2600822924 ^^^ t / 4294967296 % 4294967296 := ⟨_, rfl⟩
      have x12 : bits .xor .u32 1359893119 ((t : Int) % 4294967296) = (z12 : Int) := by
        have := u32_xor_nat 1359893119 (t % 4294967296) (by decide) (by omega); rw [ez12]; simpa using this
      have x13 : bits .xor .u32 2600822924 ((t : Int) / 4294967296) = (z13 : Int) := by
        have := u32_xor_nat 2600822924 (t / 4294967296) (by decide) (by omega); rw [ez13, Nat.mod_eq_of_lt (by omega)]; simpa using this
      have Hz12 := Lib.hid ez12
      have Hz13 := Lib.hid ez13
      clear ez12 ez13
      go_upto_if 79 with (first
        | (at_builtin; refine wpl_append32 rfl (.tmp 57) (.tmp 58) rfl none 0 0 [] none rfl rfl (OwnS.none _ _) (some ⟨gh, oh, none⟩) 8 ca st rfl Hlw.out.symm hAr (by rw [Hlw.out]; decide) ?_
           intro A1 c1 w1 G1 hown1 hO1 hG1
           rw [List.nil_append] at hown1
           have hG1' : New wr G1 := (New.none wr).next (Nat.le_refl _) hG1)
        | (go_at_call 131; refine (words_any w1).mono ?_
           rintro e w2 ⟨rfl, hBw, hO2⟩
           have hown2 := hown1.keep hO2 (by simp))
        | (at_builtin; refine wpl_append32 rfl (.tmp 59) (.tmp 60) rfl A1 8 c1 st G1 rfl Hlw.out.symm hown2 (some ⟨w1.heap.size, 0, none⟩) 8 8 Bl.iv rfl rfl (fun _ => ⟨_, 0, rfl, hBw.lt, fun j _ => by rw [Nat.zero_add]; exact hBw.cell j⟩) (by rw [Hlw.out]; decide) ?_
           intro A3 c3 w3 G3 hown3 hO3 hG3
           obtain ⟨gv, vrest, rfl, rfl, hV⟩ := hown3.blk (by rw [wcells_length, List.length_append, Hlw.out]; decide)
           have c12 : w3.cell? ⟨gv, 12, none⟩ = some (.int .u32 (1359893119 : Int)) := hV.cellv (by rw [List.getElem?_append_left (by simp [Hlw.out, Bl.iv])]; exact wcells_get (iv_get Hlw.out 4 (by decide)))
           have c13 : w3.cell? ⟨gv, 13, none⟩ = some (.int .u32 (2600822924 : Int)) := hV.cellv (by rw [List.getElem?_append_left (by simp [Hlw.out, Bl.iv])]; exact wcells_get (iv_get Hlw.out 5 (by decide)))
           have f12 := hV.frozen 12
           have f13 := hV.frozen 13))
      have hNew3 : New wr (some gv) := (hG1'.next (Nat.le_trans (Only.size hO1) hO2.size) hG3)
      have hO3' : Only [] wr w3 := ((hO1.mono (by simp)).trans' hO2).trans hO3 hG1'.out
      have hgv := hNew3 gv rfl
      have hM3 : Blk w3 gm 178 (wcells (Bl.mws bs) ++ mrest) := hBm.keep hO3' (by simp)
      have hO4 : Only [] w w3 := hO.trans' hO3'
      have hV5 : Blk ((w3.setCell ⟨gv, 12, none⟩ (.int .u32 (z12 : Int))).setCell ⟨gv, 13, none⟩ (.int .u32 (z13 : Int))) gv 178 (wcells (((st ++ Bl.iv).set 12 z12).set 13 z13) ++ vrest) := by
        rw [← wset (by rw [List.length_set, List.length_append, Hlw.out]; decide), ← wset (by rw [List.length_append, Hlw.out]; decide)]; exact (hV.set 12 _).set 13 _
      have hM5 := (hM3.far (p := ⟨gv, 12, none⟩) (by simp; omega) (.int .u32 (z12 : Int))).far (p := ⟨gv, 13, none⟩) (by simp; omega) (.int .u32 (z13 : Int))
      have hO5 := (hO4.setCell (p := ⟨gv, 12, none⟩) (.inr (by simp; omega)) (.int .u32 (z12 : Int))).setCell (p := ⟨gv, 13, none⟩) (.inr (by simp; omega)) (.int .u32 (z13 : Int))
      have hS5 : ((w3.setCell ⟨gv, 12, none⟩ (.int .u32 (z12 : Int))).setCell ⟨gv, 13, none⟩ (.int .u32 (z13 : Int))).heap.size = w3.heap.size := by simp [World.setCell]
      clear c12 c13 f12 f13 x12 x13 hV hM3 hown1 hown2 hown3 hO1 hO2 hO3 hG1 hG3 hBw hG1'
      revert hV5 hM5 hO5 hS5
      generalize World.setCell (World.setCell _ _ _) _ _ = W3
      intro hV5 hM5 hO5 hS5
      have hgv3 := hV5.lt
      clear hS5
      go_cut [] (fun wx => Blk wx gv 178 (wcells (Bl.vinit st t last) ++ vrest) ∧ Blk wx gm 178 (wcells (Bl.mws bs) ++ mrest) ∧ Only [] w wx)
      case first =>
        cases last
        · go_wp2
          go_meet
          have e : Bl.vinit st t false = ((st ++ Bl.iv).set 12 z12).set 13 z13 := by rw [Hz12.out, Hz13.out]; rfl
          exact ⟨by rw [e]; exact hV5, hM5, hO5⟩
        · have c14 : W3.cell? ⟨gv, 14, none⟩ = some (.int .u32 (528734635 : Int)) := by
            refine hV5.cellv ?_
            rw [List.getElem?_append_left (by simp [Hlw.out, Bl.iv])]
            refine wcells_get ?_
            rw [List.getElem?_set_ne (by decide), List.getElem?_set_ne (by decide)]
            exact iv_get hst.1 6 (by decide)
          have f14 := hV5.frozen 14
          have x14 : bits .xor .u32 528734635 4294967295 = ((528734635 ^^^ 4294967295 : Nat) : Int) := by decide +kernel
          go_wp2
          go_meet
          have e : Bl.vinit st t true = (((st ++ Bl.iv).set 12 z12).set 13 z13).set 14 (528734635 ^^^ 4294967295) := by rw [Hz12.out, Hz13.out]; rfl
          refine ⟨?_, hM5.far (p := ⟨gv, 14, none⟩) (by simp; omega) _, hO5.setCell (p := ⟨gv, 14, none⟩) (.inr (by simp; omega)) _⟩
          rw [e, ← wset (by rw [List.length_set, List.length_set, List.length_append, Hlw.out]; decide)]
          exact hV5.set 14 _
      case rest =>
        clear hV5 hM5 hO5 Hz12 Hz13 hO3' hO4 hNew3
        obtain ⟨hV6, hM6, hO6⟩ := hcut
        have hvw := Bl.vinit_words (t := t) (last := last) hst
        go_wp2
        go_loopw [12, 13, 14] (fun a _ _ wr => ∃ k : Nat, k ≤ 10 ∧ a = .int .i64 k ∧ Blk wr gv 178 (wcells (Bl.rounds (Bl.mws bs) k (Bl.vinit st t last)) ++ vrest) ∧ Blk wr gm 178 (wcells (Bl.mws bs) ++ mrest) ∧ Only [] w wr) (fun a _ _ _ => 10 - (intOf a).toNat)
        case atStart => exact ⟨0, by omega, rfl, hV6, hM6, hO6⟩
        case round =>
          clear hV6 hM6 hO6
          obtain ⟨k, hk, rfl, hV, hM, hO⟩ := hrel
          by_cases hlt : k < 10
          · have hltI : (k : Int) < 10 := by omega
            go_wp2_with (go_at_call 138; refine (row_any _ k hlt).mono ?_; rintro e w1 ⟨rfl, hR1, hO1⟩)
            obtain ⟨wo, rfl⟩ : ∃ wo : World, wo = wr := ⟨_, rfl⟩
            obtain ⟨gr, Hgr⟩ : ∃ gr : Nat, Hid (gr = wo.heap.size + k) := ⟨_, rfl⟩
            rw [← Hgr.out] at hR1
            rw [← Hgr.out]
            have hV1 := hV.keep hO1 (by simp)
            have hM1 := hM.keep hO1 (by simp)
            have hO1' := hO.trans' hO1
            have hgrv : gv ≠ gr := by have := hV.lt; have := Hgr.out; omega
            have hgrm : gm ≠ gr := by have := hM.lt; have := Hgr.out; omega
            obtain ⟨v0, Hv0⟩ : ∃ v0, Hid (v0 = Bl.rounds (Bl.mws bs) k (Bl.vinit st t last)) := ⟨_, rfl⟩
            have hv0 : Bl.Words 16 v0 := by rw [Hv0.out]; exact Bl.rounds_words hvw k
            rw [← Hv0.out] at hV1
            have hgr := hR1.lt
            clear hV hM hO hO1
            go_loopw [14] (fun a wr => ∃ j : Nat, j ≤ 8 ∧ a = .int .i64 j ∧ Blk wr gv 178 (wcells (Bl.lanesTo (Bl.mws bs) (Bl.tab.getD k []) v0 j) ++ vrest) ∧ Blk wr gm 178 (wcells (Bl.mws bs) ++ mrest) ∧ Blk wr gr 3 (icells (Bl.tab.getD k [])) ∧ Only [] w wr) (fun a _ => 8 - (intOf a).toNat)
            case atStart => exact ⟨0, by omega, rfl, hV1, hM1, hR1, hO1'⟩
            case round =>
              clear hV1 hM1 hR1 hO1'
              obtain ⟨j, hj, rfl, hV, hM, hR, hO⟩ := hrel
              by_cases hlj : j < 8
              · have hljI : (j : Int) < 8 := by omega
                obtain ⟨x1, Hx1⟩ : ∃ n, Hid (n = (Bl.tab.getD k []).getD (2 * j) 0) := ⟨_, rfl⟩
                obtain ⟨x2, Hx2⟩ : ∃ n, Hid (n = (Bl.tab.getD k []).getD (2 * j + 1) 0) := ⟨_, rfl⟩
                obtain ⟨m1, Hm1⟩ : ∃ n, Hid (n = (Bl.mws bs).getD x1 0) := ⟨_, rfl⟩
                obtain ⟨m2, Hm2⟩ : ∃ n, Hid (n = (Bl.mws bs).getD x2 0) := ⟨_, rfl⟩
                have hx1 : x1 < 16 := by rw [Hx1.out]; exact Bl.tab_lt k hlt _
                have hx2 : x2 < 16 := by rw [Hx2.out]; exact Bl.tab_lt k hlt _
                have hx1I : (x1 : Int) < 16 := by omega
                have hx2I : (x2 : Int) < 16 := by omega
                have htl := Bl.tab_len k hlt
                have cr1 : wr.cell? ⟨gr, 2 * j, none⟩ = some (.int .i64 (x1 : Int)) := hR.cellv (icells_get (by rw [Hx1.out]; exact nget (by omega)))
                have cr2 : wr.cell? ⟨gr, 2 * j + 1, none⟩ = some (.int .i64 (x2 : Int)) := hR.cellv (icells_get (by rw [Hx2.out]; exact nget (by omega)))
                have cm1 : wr.cell? ⟨gm, x1, none⟩ = some (.int .u32 (m1 : Int)) := hM.cellv (by rw [List.getElem?_append_left (by rw [wcells_length]; simp [Bl.mws]; omega), Hm1.out]; exact wcells_get (wget (Bl.mws_words bs) hx1))
                have cm2 : wr.cell? ⟨gm, x2, none⟩ = some (.int .u32 (m2 : Int)) := hM.cellv (by rw [List.getElem?_append_left (by rw [wcells_length]; simp [Bl.mws]; omega), Hm2.out]; exact wcells_get (wget (Bl.mws_words bs) hx2))
                have hgr' := hR.lt
                have hgm' := hM.lt
                have hgrv' : gr ≠ gv := Ne.symm hgrv
                have hgmv' : gm ≠ gv := by omega
                have hsv := hV.lt
                clear htl
                go_wp2
                refine Reg.wp [gv] [.r 0, .r 1, .r 3, .r 4, .r 5, .r 6, .r 7, .r 8, .r 9, .r 10, .r 11, .r 12, .r 13, .r 14, .r 15, .r 16, .r 17, .r 18, .r 19, .e 2, .e 20] (by kernel_rfl) (by kernel_rfl) (fun d _ _ _ _ h => by cases d <;> exact h) ?_
                simp only [Reg.pick, List.getD_cons_succ, List.getD_cons_zero]
                iterate 19 (apply Reg.read; (· (intro t K hK; go_simp; (try go_ints); (try ((go_ite <;> go_prune); go_simp)); (try go_ints); exact hK _ rfl)); (· (intro K hK; go_simp; exact hK _ rfl)))
                clear cr1 cr2 cm1 cm2
                refine Reg.eff ?_
                go_wp2_with (go_at_call 140; refine (lane_any _ j hlj).mono ?_; rintro e w1 ⟨rfl, hL1, hO1⟩)
                refine ⟨hO1.mono (by simp), ?_⟩
                refine Reg.eff ?_
                obtain ⟨a1, a2, a3, a4, el, la, lb, lc, ld, ab, ac, ad, bc, bd, cd⟩ := lane_four j hlj
                have Hel := Lib.hid el
                rw [el] at hL1
                clear el
                have hO1w : Only [] wr w1 := Only.undrew (w := wr) hO1
                go_wp2_with (go_at_call 139; refine (g_walk w1 gv _ c3 _ vrest a1 a2 a3 a4 m1 m2 (Bl.lanesTo_words hv0 j) (hV.keep hO1w (by simp)) hL1 (by simp; omega) la lb lc ld ab ac ad bc bd cd).mono ?_; rintro e w2 ⟨rfl, hV2, hO2⟩)
                refine ⟨hO2, ?_⟩
                refine Reg.fin ?_
                have hM2 := (hM.keep hO1w (by simp)).keep hO2 (by simpa using hgmv')
                have hR2 := (hR.keep hO1w (by simp)).keep hO2 (by simpa using hgrv')
                have hO2' : Only [] w w2 := (hO.trans' hO1w).trans hO2 (by simp; omega)
                clear hM hR hO hV hO1 hO2 hL1 hO1w ab ac ad bc bd cd la lb lc ld
                go_wp2
                go_roundw
                case rel =>
                  refine ⟨j + 1, by omega, by go_num, ?_, hM2, hR2, hO2'⟩
                  have e : Bl.lanesTo (Bl.mws bs) (Bl.tab.getD k []) v0 (j + 1) = Bl.mixw (Bl.lanesTo (Bl.mws bs) (Bl.tab.getD k []) v0 j) a1 a2 a3 a4 m1 m2 := by
                    rw [Bl.lanesTo, Hel.out, Hm1.out, Hm2.out, Hx1.out, Hx2.out]; rfl
                  rw [e]
                  exact hV2
                case measure => simp [intOf]; omega
              · obtain rfl : j = 8 := by omega
                rw [Bl.lanesTo_all] at hV
                rw [show ((8 : Nat) : Int) = 8 from rfl]
                go_wp2
                refine ⟨⟨k + 1, by omega, by go_num, ?_, hM, hO⟩, by simp [intOf]; omega⟩
                rw [Bl.rounds, ← Hv0.out]
                exact hV
          · obtain rfl : k = 10 := by omega
            rw [show ((10 : Nat) : Int) = 10 from rfl]
            obtain ⟨vv, Hvv⟩ : ∃ v, Hid (v = Bl.rounds (Bl.mws bs) 10 (Bl.vinit st t last)) := ⟨_, rfl⟩
            have hvv : Bl.Words 16 vv := by rw [Hvv.out]; exact Bl.rounds_words hvw 10
            rw [← Hvv.out] at hV
            clear hlt hk hM
            obtain ⟨wv, rfl⟩ : ∃ wv : World, wv = wr := ⟨_, rfl⟩
            have hgvv := hV.lt
            go_wp2
            go_loopw [15, 16] (fun m i wr => ∃ (k : Nat) (Ao : Option Addr) (co : Nat) (G : Option Nat), k ≤ 8 ∧ i = .int .i64 k ∧ m = .slice Ao k co ∧ OwnS wr 178 Ao co (wcells ((List.range k).map fun i => st.getD i 0 ^^^ (vv.getD i 0 ^^^ vv.getD (i + 8) 0))) G ∧ New wv G ∧ Only [] wv wr) (fun _ i _ => 8 - (intOf i).toNat)
            case atStart => exact ⟨0, none, 0, none, by omega, rfl, rfl, OwnS.none _ _, New.none _, Only.refl _ _⟩
            case round =>
              obtain ⟨k, Ao, co, G, hk, rfl, rfl, hown, hnewo, hOo⟩ := hrel
              by_cases hlt : k < 8
              · have hltI : (k : Int) < 8 := by omega
                obtain ⟨n0, H0⟩ : ∃ n, Hid (n = st.getD k 0) := ⟨_, rfl⟩
                obtain ⟨n1, H1⟩ : ∃ n, Hid (n = vv.getD k 0) := ⟨_, rfl⟩
                obtain ⟨n2, H2⟩ : ∃ n, Hid (n = vv.getD (k + 8) 0) := ⟨_, rfl⟩
                have l0 : n0 < 4294967296 := by rw [H0.out]; exact hst.getD _
                have l1 : n1 < 4294967296 := by rw [H1.out]; exact hvv.getD _
                have l2 : n2 < 4294967296 := by rw [H2.out]; exact hvv.getD _
                have c0 : wr.cell? ⟨gh, oh + k, none⟩ = some (.int .u32 (n0 : Int)) := by
                  rw [hOo.cell (p := ⟨gh, oh + k, none⟩) (Nat.lt_of_lt_of_le hgh hO.size) (by simp), hO.cell (p := ⟨gh, oh + k, none⟩) hgh (by simp), Hch.out k (by rw [wcells_length, Hlw.out]; exact hlt), H0.out]
                  exact wcells_get (wget hst hlt)
                have hV' := hV.keep hOo (by simp)
                have c1 : wr.cell? ⟨gv, k, none⟩ = some (.int .u32 (n1 : Int)) := hV'.cellv (by rw [List.getElem?_append_left (by rw [wcells_length, hvv.1]; omega), H1.out]; exact wcells_get (wget hvv (by omega)))
                have c2 : wr.cell? ⟨gv, k + 8, none⟩ = some (.int .u32 (n2 : Int)) := hV'.cellv (by rw [List.getElem?_append_left (by rw [wcells_length, hvv.1]; omega), H2.out]; exact wcells_get (wget hvv (by omega)))
                have hghr : gh < wr.heap.size := Nat.lt_of_lt_of_le (Nat.lt_of_lt_of_le hgh hO.size) hOo.size
                have hgvr : gv < wr.heap.size := hV'.lt
                have hghG : gh ∉ G.toList := hnewo.far (Nat.lt_of_lt_of_le hgh hO.size)
                have hgvG : gv ∉ G.toList := hnewo.far hgvv
                have xx : bits .xor .u32 (bits .xor .u32 (n0 : Int) (n1 : Int)) (n2 : Int) = ((n0 ^^^ (n1 ^^^ n2) : Nat) : Int) := by
                  rw [u32_xor_nat _ _ l0 l1, u32_xor_nat _ _ (Bl.xor_lt _ _ l0 l1) l2, Nat.xor_assoc]
                have Hxx := Lib.hid xx
                clear xx hV'
                go_wp2
                refine Reg.wp G.toList [.r 0, .r 1, .r 2, .r 3, .r 4, .r 5, .r 6, .r 7, .r 8, .r 9, .r 10, .r 11, .r 12, .r 13, .r 14, .r 15, .e 16, .e 17, .r 18] (by kernel_rfl) (by kernel_rfl) (fun d _ _ _ _ h => by cases d <;> exact h) ?_
                simp only [Reg.pick, List.getD_cons_succ, List.getD_cons_zero]
                iterate 16 (apply Reg.read; (· (intro t K hK; go_simp; (try go_ints); (try ((go_ite <;> go_prune); go_simp)); (try go_ints); exact hK _ rfl)); (· (intro K hK; go_simp; exact hK _ rfl)))
                refine Reg.eff ?_
                go_wp2
                refine ⟨((Only.refl G.toList wr).alloc _).dd, ?_⟩
                simp only [Hxx.out]
                clear c0 c1 c2 Hxx
                refine Reg.eff ?_
                refine wpl_append32 rfl (.tmp 121) (.tmp 137) rfl Ao k co _ G rfl (by simp) ((hown.keep ((Only.refl [] wr).alloc _) (by simp)).drew) (some ⟨wr.heap.size, 0, none⟩) 1 1 [n0 ^^^ (n1 ^^^ n2)] rfl rfl (RV.one wr _ _).drew (by simp; omega) ?_
                intro A' c' w2 G' hown2 hO2 hG2
                refine Reg.done hO2 ?_
                (apply Reg.read; (· (intro t K hK; go_simp; (try go_ints); (try ((go_ite <;> go_prune); go_simp)); (try go_ints); exact hK _ rfl)); (· (intro K hK; go_simp; exact hK _ rfl)))
                refine Reg.fin ?_
                have hO1s := hOo.size
                have hO2' : Only [] wv w2 := ((hOo.alloc _).drew).trans hO2 hnewo.out
                clear hO2 hOo hown
                go_wp2
                go_roundw
                case rel =>
                  refine ⟨k + 1, A', c', G', by omega, by go_num, rfl, ?_, hnewo.next (Nat.le_trans hO1s (by simp)) hG2, hO2'⟩
                  rw [List.range_succ, List.map_append]
                  rw [H0.out, H1.out, H2.out] at hown2
                  exact hown2
                case measure => simp [intOf]; omega
              · obtain rfl : k = 8 := by omega
                rw [show ((8 : Nat) : Int) = 8 from rfl]
                rw [Hvv.out] at hown
                go_wp2
                go_ret
                exact ⟨Ao, co, G, rfl, hown, hnewo.le hO.size, hO.trans' hOo⟩
end Go.Proofs.YtchbgfgboogniaaDoor
namespace Go.Proofs.YtchbgfgboogniaaDoor
open Go.RowKit
namespace Bl
/-- The state after i of the padded message's blocks. -/
def stR (n : Nat) (M : List UInt8) (i : Nat) : List Nat :=
  if i ≤ (M.length - 1) / 64 then stq n M i else comp (stq n M ((M.length - 1) / 64)) (M.drop (64 * ((M.length - 1) / 64))) M.length true
theorem stR_words {n : Nat} {M : List UInt8} (h : n ≤ 32) (i : Nat) : Words 8 (stR n M i) := by
  unfold stR
  split
  · exact stq_words h i
  · exact comp_words (stq_words h _)
theorem stR_zero (n : Nat) (M : List UInt8) : stR n M 0 = st0 n := by simp [stR, stq]
theorem padded_get {M : List UInt8} {p i j : Nat} (_hj : j < 64) (_hi : 64 * i + 64 ≤ M.length + p) : (((M ++ List.replicate p 0).drop (64 * i)).take 64).getD j 0 = (M.drop (64 * i)).getD j 0 := by
  simp only [List.getD_eq_getElem?_getD, List.getElem?_take, List.getElem?_drop, List.getElem?_append, List.getElem?_replicate]
  rw [if_pos _hj]
  by_cases h : 64 * i + j < M.length
  · rw [if_pos h]
  · rw [if_neg h, if_pos (by omega), List.getElem?_eq_none (by omega)]; rfl
theorem stR_next {n : Nat} {M : List UInt8} {p i : Nat} (hi : i ≤ (M.length - 1) / 64) (hp : M.length + p = 64 * ((M.length - 1) / 64) + 64) :
    stR n M (i + 1) = comp (stR n M i) (((M ++ List.replicate p 0).drop (64 * i)).take 64) (if M.length < 64 * i + 64 then M.length else 64 * i + 64) (decide (64 * i + 64 = M.length + p)) := by
  have e : comp (stR n M i) (((M ++ List.replicate p 0).drop (64 * i)).take 64) = comp (stR n M i) (M.drop (64 * i)) := by
    funext t l
    exact comp_congr (fun j hj => padded_get hj (by omega)) _ _ _
  rw [e]
  by_cases h : i = (M.length - 1) / 64
  · subst h
    rw [decide_eq_true (by omega)]
    unfold stR
    rw [if_neg (by omega), if_pos (Nat.le_refl _)]
    congr 1
    split <;> omega
  · rw [decide_eq_false (by omega), if_neg (by omega)]
    unfold stR
    rw [if_pos (by omega), if_pos (by omega)]
    rfl
theorem hashM_stR (n : Nat) (M : List UInt8) : leb (stR n M ((M.length - 1) / 64 + 1)) = hashM n M := by
  unfold stR hashM
  rw [if_neg (by omega)]
theorem leb_next (ws : List Nat) (k : Nat) (hk : k < 8) : (leb ws).take (4 * k) ++ [UInt8.ofNat (ws.getD k 0), UInt8.ofNat (ws.getD k 0 / 256), UInt8.ofNat (ws.getD k 0 / 65536), UInt8.ofNat (ws.getD k 0 / 16777216)] = (leb ws).take (4 * (k + 1)) := by
  rw [show 4 * (k + 1) = 4 * k + 4 by omega, List.take_add]
  congr 1
  unfold leb
  rw [← List.map_drop, ← List.map_take]
  rcases (show k = 0 ∨ k = 1 ∨ k = 2 ∨ k = 3 ∨ k = 4 ∨ k = 5 ∨ k = 6 ∨ k = 7 by omega) with rfl | rfl | rfl | rfl | rfl | rfl | rfl | rfl <;> simp [List.range, List.range.loop]
end Bl
theorem four_cells (x : Nat) (h : x < 4294967296) : #[Value.int .u8 ((x : Int) % 256), .int .u8 ((x : Int) / 256 % 256), .int .u8 ((x : Int) / 65536 % 256), .int .u8 ((x : Int) / 16777216)] = (cellsOf [UInt8.ofNat x, UInt8.ofNat (x / 256), UInt8.ofNat (x / 65536), UInt8.ofNat (x / 16777216)]).toArray := by
  have e : x / 16777216 % 256 = x / 16777216 := Nat.mod_eq_of_lt (by omega)
  simp only [cellsOf, List.map_cons, List.map_nil, B8, UInt8.toNat_ofNat', Nat.reducePow, e]
  rfl

theorem compress_at (w : World) (A B : Option Addr) (ca cb nb : Nat) (ti : Int) (lb : Bool) (st : List Nat) (bs : List UInt8) (t : Nat) (last : Bool) (hnb : nb = 64) (hti : ti = (t : Int)) (hl : lb = last) (hst : Bl.Words 8 st) (hbs : bs.length = 64) (hA : RV w A (wcells st)) (hB : RV w B (cellsOf bs)) (hca : 8 ≤ ca) (hcb : 64 ≤ cb) (ht : t < 4611686018427387904) :
    Calls Tryd.prog 132 #[.slice A 8 ca, .slice B nb cb, .int .i64 ti, .bool lb] w fun e w' => ∃ A' c' G, e = .returned (.slice A' 8 c') ∧ OwnS w' 178 A' c' (wcells (Bl.comp st bs t last)) G ∧ New w G ∧ Only [] w w' := by
  subst hnb hti hl
  exact compress_ref w A B ca cb st bs t lb hst hbs hA hB hca hcb ht

set_option maxHeartbeats 8000000 in
set_option maxRecDepth 100000 in
theorem hash_ref (w : World) (A B : Option Addr) (ca cb : Nat) (key b : List UInt8) (hk : key.length ≤ 32) (hA : RV w A (cellsOf key)) (hB : RV w B (cellsOf b)) (_hca : key.length ≤ ca) (_hcb : b.length ≤ cb) (hbl : b.length ≤ 1099511627) :
    Calls Tryd.prog 113 #[.slice A key.length ca, .slice B b.length cb] w fun e w' => ∃ A' c' G, e = .returned (.slice A' 32 c') ∧ OwnS w' 5 A' c' (cellsOf (Bl.hash key b)) G ∧ New w G ∧ Only [] w w' := by
  go_enter Tryd.func113, Tryd.ntmps113
  go_upto_if 14 with (fail)
  go_cut [5] (fun m wx => ∃ (Am : Option Addr) (cm : Nat) (G : Option Nat), m = .slice Am (Bl.kblock key).length cm ∧ OwnS wx 5 Am cm (cellsOf (Bl.kblock key)) G ∧ New w G ∧ Only [] w wx)
  case first =>
    by_cases h0 : 0 < key.length
    · have h0I : (0 : Int) < (key.length : Int) := by omega
      go_wp2_with (at_builtin; refine wpl_append8 rfl (.tmp 15) (.tmp 16) rfl none 0 0 [] none rfl rfl (OwnS.none _ _) A key.length ca key rfl rfl hA (by simp; omega) ?_; intro A1 c1 w1 G1 hown1 hO1 hG1)
      rw [List.nil_append] at hown1
      have hG1' : New w G1 := (New.none w).next (Nat.le_refl _) hG1
      have hO1' : Only [] w w1 := hO1
      clear hO1 hG1
      go_loopw [5] (fun m wr => ∃ (k : Nat) (Am : Option Addr) (cm : Nat) (G : Option Nat), key.length + k ≤ 64 ∧ m = .slice Am (key.length + k) cm ∧ OwnS wr 5 Am cm (cellsOf (key ++ List.replicate k 0)) G ∧ New w G ∧ Only [] w wr) (fun m _ => 64 - lenV m)
      case atStart => exact ⟨0, A1, c1, G1, by omega, by simp, by simpa using hown1, hG1', hO1'⟩
      case round =>
        clear hown1 hG1' hO1'
        obtain ⟨k, Am, cm, G, hkk, rfl, hown, hnew, hO⟩ := hrel
        obtain ⟨n, hn⟩ : ∃ n, n = key.length + k := ⟨_, rfl⟩
        rw [← hn]
        rw [← hn] at hkk
        have Hn := Lib.hid hn
        clear hn
        by_cases hlt : n < 64
        · have hltI : (n : Int) < 64 := by omega
          go_wp2_with (at_builtin; refine wpl_append8 rfl (.tmp 21) (.tmp 22) rfl Am n cm _ G rfl (by rw [Hn.out]; simp) (hown.keep ((Only.refl [] wr).alloc _) (by simp)) (some ⟨wr.heap.size, 0, none⟩) 1 1 [0] rfl rfl (RV.one wr _ _) (by have := Hn.out; simp; omega) ?_; intro A' c' w2 G' hown2 hO2 hG2)
          go_roundw
          case rel =>
            have e := Hn.out
            refine ⟨k + 1, A', c', G', by omega, by rw [e, Nat.add_assoc], ?_, hnew.next (Nat.le_trans hO.size (by simp)) hG2, (hO.alloc _).trans hO2 hnew.out⟩
            rw [List.replicate_succ', ← List.append_assoc]
            exact hown2
          case measure => simp only [lenV]; omega
        · obtain rfl : n = 64 := by omega
          go_wp2
          go_meet
          have e : key ++ List.replicate k (0 : UInt8) = Bl.kblock key := by
            unfold Bl.kblock
            rw [if_neg (by omega), show 64 - key.length = k by have := Hn.out; omega]
          rw [e] at hown
          exact ⟨Am, cm, G, by rw [← e]; simp [← Hn.out], hown, hnew, hO⟩
    · have h0I : key.length ≤ 0 := by omega
      go_wp2
      go_meet
      have e : Bl.kblock key = [] := by unfold Bl.kblock; rw [if_pos (by omega)]
      rw [e]
      exact ⟨none, 0, none, rfl, OwnS.none _ _, New.none _, Only.refl _ _⟩
  case rest =>
    obtain ⟨Am, cm, G, rfl, hown, hnew, hO⟩ := hcut
    have hkb : (Bl.kblock key).length ≤ 64 := by unfold Bl.kblock; split <;> simp; omega
    have hBr : RV wc B (cellsOf b) := hB.keep0 hO
    obtain ⟨nk, hnk⟩ : ∃ n, n = (Bl.kblock key).length := ⟨_, rfl⟩
    obtain ⟨ny, hny⟩ : ∃ n, n = key.length := ⟨_, rfl⟩
    obtain ⟨nb, hnb⟩ : ∃ n, n = b.length := ⟨_, rfl⟩
    rw [← hnk] at hkb
    rw [← hny] at hk
    rw [← hnb] at hbl
    rw [← hnk, ← hny, ← hnb]
    have Hnk := Lib.hid hnk
    have Hny := Lib.hid hny
    have Hnb := Lib.hid hnb
    clear hnk hny hnb
    obtain ⟨z, Hz⟩ : ∃ n, Hid (n = 1779033703 ^^^ (16842784 + ny * 256)) := ⟨_, rfl⟩
    have xz : bits .xor .u32 1779033703 (16842784 + (ny : Int) * 256) = (z : Int) := by
      have := u32_xor_nat 1779033703 (16842784 + ny * 256) (by decide) (by omega)
      rw [Hz.out, ← this]
      congr 1
    go_wp2_with (first
      | (at_builtin; refine wpl_append8 rfl (.tmp 24) (.tmp 25) rfl Am nk cm _ G rfl Hnk.out hown B nb cb b rfl Hnb.out hBr (by rw [← Hnk.out, ← Hnb.out]; omega) ?_
         intro A1 c1 w1 G1 hown1 hO1 hG1
         have hO1' := hO.trans hO1 hnew.out
         have hnew1 := hnew.next hO.size hG1
         clear hO1 hG1)
      | (go_at_call 131; refine (words_any w1).mono ?_
         rintro e w2 ⟨rfl, hBw, hO2⟩
         have hown2 := hown1.keep hO2 (by simp)
         have c0 : w2.cell? ⟨w1.heap.size, 0, none⟩ = some (.int .u32 1779033703) := hBw.cellv rfl
         have f0 := hBw.frozen 0))
    have hw1 := hown1.lt
    have hBh : Blk (w2.setCell ⟨w1.heap.size, 0, none⟩ (.int .u32 (z : Int))) w1.heap.size 178 (wcells (Bl.st0 ny)) := by
      have e : Bl.st0 ny = Bl.iv.set 0 z := by rw [Hz.out]; rfl
      rw [e, ← wcells_set]
      exact hBw.set 0 _
    have hO3 : Only [w1.heap.size] w2 (w2.setCell ⟨w1.heap.size, 0, none⟩ (.int .u32 (z : Int))) := (Only.refl _ _).setCell (p := ⟨w1.heap.size, 0, none⟩) (.inl (by simp)) _
    have hown3 := hown2.keep hO3 (fun g hg => by have := hw1 g hg; simp; omega)
    have hO3' : Only [] w (w2.setCell ⟨w1.heap.size, 0, none⟩ (.int .u32 (z : Int))) := (hO1'.trans' hO2).trans hO3 (by have := hO1'.size; simp; omega)
    have hgh3 : ∀ g, G1 = some g → g ≠ w1.heap.size := fun g hg => by have := hw1 g hg; omega
    clear xz c0 f0 hBw hown1 hown2 hO1' hO2 hO3 hown hnew hO hw1 hB hA
    revert hBh hown3 hO3'
    generalize World.setCell _ _ _ = W3
    intro hBh hown3 hO3'
    revert hBh hgh3
    generalize w1.heap.size = gh
    intro hgh3 hBh
    obtain ⟨M, hM⟩ : ∃ M, M = Bl.kblock key ++ b := ⟨_, rfl⟩
    rw [← hM] at hown3
    obtain ⟨nM, hnM⟩ : ∃ n, n = nk + nb := ⟨_, rfl⟩
    have hml : nM = M.length := by rw [hnM, hM, List.length_append, Hnk.out, Hnb.out]
    rw [← Int.natCast_add, ← hnM]
    obtain ⟨q, hq⟩ : ∃ q, q = (nM - 1) / 64 := ⟨_, rfl⟩
    have hq1 : nM ≤ 64 * q + 64 := by omega
    have hq2 : 64 * q < nM ∨ nM = 0 ∧ q = 0 := by omega
    have hqb : q ≤ 1099511627 := by omega
    have hMb : nM ≤ 1099511691 := by omega
    have Hq2 := Lib.hid hq2
    have Hq := Lib.hid hq
    have Hml := Lib.hid hml
    have HM := Lib.hid hM
    clear hq2 hq hml hM hnM Hnk Hz hkb
    go_loopw [5] (fun m wr => ∃ (k : Nat) (Am : Option Addr) (cm : Nat) (G : Option Nat), nM + k ≤ 64 * q + 64 ∧ m = .slice Am (nM + k) cm ∧ OwnS wr 5 Am cm (cellsOf (M ++ List.replicate k 0)) G ∧ New w G ∧ (∀ g, G = some g → g ≠ gh) ∧ Blk wr gh 178 (wcells (Bl.st0 ny)) ∧ Only [] w wr) (fun m _ => 64 * q + 64 - lenV m)
    case atStart => exact ⟨0, A1, c1, G1, by omega, rfl, by simpa using hown3, hnew1, hgh3, hBh, hO3'⟩
    case round =>
      clear hown3 hO3' hBh hgh3 hnew1
      obtain ⟨k, Am, cm, G, hkk, rfl, hown, hnew, hgh, hBh, hO⟩ := hrel
      obtain ⟨n, hn⟩ : ∃ n, n = nM + k := ⟨_, rfl⟩
      rw [← hn]
      rw [← hn] at hkk
      have hnb : n ≤ 100 * 1099511627 := by omega
      by_cases hlt : n < 64 * q + 64
      · have hc : ((n : Int) == 0) = true ∨ (((n : Int) == 0) = false ∧ ((n : Int) % 64 == 0) = false ∧ ((n : Int) % 64 != 0) = true) := by
          by_cases h0 : n = 0
          · left; exact beq_iff_eq.2 (by omega)
          · right
            have h1 : ¬ n % 64 = 0 := by
              intro h64
              rcases Hq2.out with h | ⟨h, h'⟩ <;> omega
            refine ⟨beq_eq_false_iff_ne.2 (by omega), beq_eq_false_iff_ne.2 (by omega), ?_⟩
            rw [bne_iff_ne]; omega
        have Hn := Lib.hid hn
        clear hn
        rcases hc with hc | ⟨hc, hc2, hc3⟩
        all_goals
          go_wp2_with (at_builtin; refine wpl_append8 rfl (.tmp 50) (.tmp 51) rfl Am n cm _ G rfl (by rw [Hn.out, Hml.out]; simp) (hown.keep ((Only.refl [] wr).alloc _) (by simp)) (some ⟨wr.heap.size, 0, none⟩) 1 1 [0] rfl rfl (RV.one wr _ _) (by have := Hn.out; have := Hml.out; simp; omega) ?_; intro A' c' w2 G' hown2 hO2 hG2)
          go_roundw
          case rel =>
            have e := Hn.out
            have hlt' := hBh.lt
            refine ⟨k + 1, A', c', G', by omega, by rw [e, Nat.add_assoc], ?_, hnew.next (Nat.le_trans hO.size (by simp)) hG2, ?_, (hBh.alloc _).keep hO2 (fun hm => ?_), (hO.alloc _).trans hO2 hnew.out⟩
            · rw [List.replicate_succ', ← List.append_assoc]
              exact hown2
            · intro g hg
              rcases hG2 with h | h
              · exact hgh g (by rw [← h]; exact hg)
              · rw [h] at hg
                injection hg with hg
                simp at hg
                omega
            · cases G with
              | none => simp at hm
              | some g => exact hgh g rfl (by simp at hm; exact hm.symm)
          case measure => simp only [lenV]; omega
      · have hkN : nM + k = 64 * q + 64 := by omega
        obtain ⟨N, rfl⟩ : ∃ N, N = n := ⟨_, rfl⟩
        have hNq : N = 64 * q + 64 := by omega
        have t0 : ((N : Int) == 0) = false := beq_eq_false_iff_ne.2 (by omega)
        have t1 : ((N : Int) % 64 == 0) = true := beq_iff_eq.2 (by omega)
        have t2 : ((N : Int) % 64 != 0) = false := by rw [bne_eq_false_iff_eq]; omega
        have hNl : N = (M ++ List.replicate k (0 : UInt8)).length := by rw [List.length_append, List.length_replicate, ← Hml.out]; omega
        obtain ⟨gm, mrest, rfl, rfl, hBm⟩ := hown.blk (by rw [cellsOf_length, ← hNl]; omega)
        have hcm : N ≤ cm := by rw [hNl]; simpa using hown.le
        have hcmx : cm ≤ maxLen := by
          rcases hown with h | ⟨_, _, _, _, _, _, h⟩
          · cases h.1
          · exact h
        unfold maxLen at hcmx
        have HkN := Lib.hid hkN
        have HNl := Lib.hid hNl
        have HNq := Lib.hid hNq
        have hgm := hBm.lt
        have hN64 : 64 ≤ N := by omega
        have hq64 : 64 * q ≤ N := by omega
        have hnN : nM ≤ N := by omega
        have hRh : RV wr (some ⟨gh, 0, none⟩) (wcells (Bl.stR ny M 0)) := by rw [Bl.stR_zero]; exact fun _ => ⟨gh, 0, rfl, hBh.lt, fun j _ => by rw [Nat.zero_add]; exact hBh.cell j⟩
        have hRm : RV wr (some ⟨gm, 0, none⟩) (cellsOf (M ++ List.replicate k 0)) := hown.reads
        clear hn hkN hlt hkk hNl hNq hown hgh hBh hnew hBm
        obtain ⟨wp, rfl⟩ : ∃ wp : World, wp = wr := ⟨_, rfl⟩
        go_wp2
        go_loopw [6, 8, 9] (fun h a _ wr => ∃ (i x : Nat) (Ah : Option Addr) (ch : Nat), i ≤ q + 1 ∧ x = 64 * i ∧ a = .int .i64 (x : Int) ∧ h = .slice Ah 8 ch ∧ 8 ≤ ch ∧ RV wr Ah (wcells (Bl.stR ny M i)) ∧ Only [] wp wr) (fun _ a _ _ => N - (intOf a).toNat)
        case atStart => exact ⟨0, 0, _, 8, by omega, rfl, rfl, rfl, by omega, hRh, Only.refl _ _⟩
        case round =>
          clear hRh t0 t1 t2
          obtain ⟨i, x, Ah, ch, hi, hx, rfl, rfl, hch, hRh, hOr⟩ := hrel
          by_cases hlt : i ≤ q
          · have hNq := HNq.out
            have hxN : x + 64 ≤ N := by omega
            have hxI : (x : Int) < (N : Int) := by omega
            have hxc : ¬ cm = x := by omega
            have hxcI : (x : Int) + 64 ≤ (cm : Int) := by omega
            have hws := Bl.stR_words (n := ny) (M := M) hk i
            have hRb : RV wr (some ⟨gm, x, none⟩) (cellsOf (((M ++ List.replicate k 0).drop x).take 64)) := by
              have h1 := RV.slice rfl (hRm.keep0 hOr) x 64
              rw [Nat.zero_add] at h1
              simpa [cellsOf, List.map_take, List.map_drop] using h1
            have hbl64 : (((M ++ List.replicate k (0 : UInt8)).drop x).take 64).length = 64 := by rw [List.length_take, List.length_drop, ← HNl.out]; omega
            have hnext : Bl.stR ny M (i + 1) = Bl.comp (Bl.stR ny M i) (((M ++ List.replicate k 0).drop x).take 64) (if nM < x + 64 then nM else x + 64) (decide (x + 64 = N)) := by
              have h1 := Bl.stR_next (n := ny) (M := M) (p := k) (i := i) (by rw [← Hml.out, ← Hq.out]; exact hlt) (by rw [← Hml.out, ← Hq.out]; exact HkN.out)
              rw [h1, ← Hml.out, HkN.out, ← hNq, hx]
            have Hx := Lib.hid hx
            have Hnext := Lib.hid hnext
            have Hbl64 := Lib.hid hbl64
            have hcases : (nM < x + 64 ∧ x + 64 = N) ∨ (x + 64 ≤ nM ∧ x + 64 = N) ∨ (x + 64 ≤ nM ∧ x + 64 ≠ N) := by
              by_cases h1 : x + 64 = N
              · omega
              · have := Hq2.out
                omega
            clear hx hnext hbl64 hNq
            rcases hcases with ⟨ha, hb⟩ | ⟨ha, hb⟩ | ⟨ha, hb⟩
            · have haI : (nM : Int) < (x : Int) + 64 := by omega
              have hbI : ((x : Int) + 64 == (N : Int)) = true := beq_iff_eq.2 (by omega)
              have Hb := Lib.hid hb
              clear hb
              go_wp2_with (go_at_call 132; refine (compress_at _ Ah _ ch _ _ _ _ _ (((M ++ List.replicate k 0).drop x).take 64) nM true (by omega) rfl rfl hws Hbl64.out hRh hRb hch (by omega) (by omega)).mono ?_; rintro e w2 ⟨A', c', G', rfl, hown', hnew', hO'⟩)
              go_roundw
              case rel =>
                refine ⟨i + 1, x + 64, A', c', by omega, by have := Hx.out; omega, by go_num, rfl, by simpa [(Bl.comp_words hws).1] using hown'.le, ?_, hOr.trans' hO'⟩
                rw [Hnext.out, if_pos ha, decide_eq_true Hb.out]
                exact hown'.reads
              case measure => simp [intOf]; omega
            · have haI : (x : Int) + 64 ≤ (nM : Int) := by omega
              have hbI : ((x : Int) + 64 == (N : Int)) = true := beq_iff_eq.2 (by omega)
              have Hb := Lib.hid hb
              clear hb
              go_wp2_with (go_at_call 132; refine (compress_at _ Ah _ ch _ _ _ _ _ (((M ++ List.replicate k 0).drop x).take 64) (x + 64) true (by omega) rfl rfl hws Hbl64.out hRh hRb hch (by omega) (by omega)).mono ?_; rintro e w2 ⟨A', c', G', rfl, hown', hnew', hO'⟩)
              go_roundw
              case rel =>
                refine ⟨i + 1, x + 64, A', c', by omega, by have := Hx.out; omega, by go_num, rfl, by simpa [(Bl.comp_words hws).1] using hown'.le, ?_, hOr.trans' hO'⟩
                rw [Hnext.out, if_neg (by omega), decide_eq_true Hb.out]
                exact hown'.reads
              case measure => simp [intOf]; omega
            · have haI : (x : Int) + 64 ≤ (nM : Int) := by omega
              have hbI : ((x : Int) + 64 == (N : Int)) = false := beq_eq_false_iff_ne.2 (by omega)
              have Hb := Lib.hid hb
              clear hb
              go_wp2_with (go_at_call 132; refine (compress_at _ Ah _ ch _ _ _ _ _ (((M ++ List.replicate k 0).drop x).take 64) (x + 64) false (by omega) rfl rfl hws Hbl64.out hRh hRb hch (by omega) (by omega)).mono ?_; rintro e w2 ⟨A', c', G', rfl, hown', hnew', hO'⟩)
              go_roundw
              case rel =>
                refine ⟨i + 1, x + 64, A', c', by omega, by have := Hx.out; omega, by go_num, rfl, by simpa [(Bl.comp_words hws).1] using hown'.le, ?_, hOr.trans' hO'⟩
                rw [Hnext.out, if_neg (by omega), decide_eq_false Hb.out]
                exact hown'.reads
              case measure => simp [intOf]; omega
          · obtain rfl : i = q + 1 := by omega
            obtain rfl : x = N := by have := HNq.out; omega
            have hws := Bl.stR_words (n := ny) (M := M) hk (q + 1)
            obtain ⟨ws, Hws⟩ : ∃ ws, Hid (ws = Bl.stR ny M (q + 1)) := ⟨_, rfl⟩
            rw [← Hws.out] at hws hRh
            obtain ⟨ga, oa, rfl, hga, hca⟩ := hRh (by rw [wcells_length, hws.1]; decide)
            have Hca := Lib.hid hca
            clear hca hlt hi hx
            obtain ⟨wv, rfl⟩ : ∃ wv : World, wv = wr := ⟨_, rfl⟩
            go_wp2
            go_loopw [10, 11] (fun m i wr => ∃ (k : Nat) (Ao : Option Addr) (co : Nat) (G : Option Nat), k ≤ 8 ∧ i = .int .i64 k ∧ m = .slice Ao (4 * k) co ∧ OwnS wr 5 Ao co (cellsOf ((Bl.leb ws).take (4 * k))) G ∧ New wv G ∧ Only [] wv wr) (fun _ i _ => 8 - (intOf i).toNat)
            case atStart => exact ⟨0, none, 0, none, by omega, rfl, rfl, OwnS.none _ _, New.none _, Only.refl _ _⟩
            case round =>
              obtain ⟨k, Ao, co, G, hk8, rfl, rfl, hown, hnewo, hOo⟩ := hrel
              by_cases hlt : k < 8
              · have hltI : (k : Int) < 8 := by omega
                obtain ⟨n0, H0⟩ : ∃ n, Hid (n = ws.getD k 0) := ⟨_, rfl⟩
                have l0 : n0 < 4294967296 := by rw [H0.out]; exact hws.getD _
                have c0 : wr.cell? ⟨ga, oa + k, none⟩ = some (.int .u32 (n0 : Int)) := by
                  rw [hOo.cell (p := ⟨ga, oa + k, none⟩) hga (by simp), Hca.out k (by rw [wcells_length, hws.1]; exact hlt), H0.out]
                  exact wcells_get (wget hws hlt)
                have hgar : ga < wr.heap.size := Nat.lt_of_lt_of_le hga hOo.size
                have hgaG : ga ∉ G.toList := hnewo.far hga
                go_wp2
                refine Reg.wp G.toList [.r 0, .r 1, .r 2, .r 3, .r 4, .r 5, .r 6, .r 7, .r 8, .r 9, .r 10, .r 11, .r 12, .r 13, .r 14, .r 15, .r 16, .r 17, .r 18, .r 19, .r 20, .r 21, .r 22, .r 23, .e 24, .e 25, .r 26] (by kernel_rfl) (by kernel_rfl) (fun d _ _ _ _ h => by cases d <;> exact h) ?_
                simp only [Reg.pick, List.getD_cons_succ, List.getD_cons_zero]
                iterate 24 (apply Reg.read; (· (intro t K hK; go_simp; (try go_ints); (try ((go_ite <;> go_prune); go_simp)); (try go_ints); exact hK _ rfl)); (· (intro K hK; go_simp; exact hK _ rfl)))
                refine Reg.eff ?_
                go_wp2
                refine ⟨((Only.refl G.toList wr).alloc _).dd, ?_⟩
                clear c0
                refine Reg.eff ?_
                refine wpl_append8 rfl (.tmp 82) (.tmp 106) rfl Ao (4 * k) co _ G rfl (by simp; omega) ((hown.keep ((Only.refl [] wr).alloc _) (by simp)).drew) (some ⟨wr.heap.size, 0, none⟩) 4 4 [UInt8.ofNat n0, UInt8.ofNat (n0 / 256), UInt8.ofNat (n0 / 65536), UInt8.ofNat (n0 / 16777216)] rfl rfl (RV.new (four_cells n0 l0)).drew (by simp; omega) ?_
                intro A' c' w2 G' hown2 hO2 hG2
                refine Reg.done hO2 ?_
                (apply Reg.read; (· (intro t K hK; go_simp; (try go_ints); (try ((go_ite <;> go_prune); go_simp)); (try go_ints); exact hK _ rfl)); (· (intro K hK; go_simp; exact hK _ rfl)))
                refine Reg.fin ?_
                have hO1s := hOo.size
                have hO2' : Only [] wv w2 := ((hOo.alloc _).drew).trans hO2 hnewo.out
                clear hO2 hOo hown
                go_wp2
                go_roundw
                case rel =>
                  refine ⟨k + 1, A', c', G', by omega, by go_num, rfl, ?_, hnewo.next (Nat.le_trans hO1s (by simp)) hG2, hO2'⟩
                  rw [H0.out, Bl.leb_next ws k hlt] at hown2
                  exact hown2
                case measure => simp [intOf]; omega
              · obtain rfl : k = 8 := by omega
                rw [List.take_of_length_le (by simp), Hws.out, Hq.out, Hml.out, Bl.hashM_stR, HM.out, Hny.out] at hown
                go_wp2
                go_ret
                exact ⟨Ao, co, G, rfl, hown, hnewo.le (Nat.le_trans hO.size hOr.size), (hO.trans' hOr).trans' hOo⟩
end Go.Proofs.YtchbgfgboogniaaDoor
namespace Go.Proofs.YtchbgfgboogniaaDoor
open Go.RowKit
section
variable {P : Program} {w : World} {ops : Array Oper} {rest : List Oper} {o : Oper} {a : Act} {Q : Exit → Act → World → Prop}
end
section
variable {w : World} {ops : Array Oper} {rest : List Oper} {o : Oper} {a : Act} {Q : Exit → Act → World → Prop}
theorem wpl_app8 (hgd : o.guard = none) (s x : Operand) (ho : o.op = .call { callee := .builtin .append, args := #[s, x], argTypes := #[23, 23] })
    (A : Option Addr) (n c : Nat) (xs : List UInt8) (G : Option Nat) (hs : a.eval s = .slice A n c) (hn : n = xs.length) (hown : OwnS w 5 A c (cellsOf xs) G)
    (B : Option Addr) (m d : Nat) (ys : List UInt8) (hx : a.eval x = .slice B m d) (hm : m = ys.length) (hr : RV w B (cellsOf ys))
    (hlen : xs.length + ys.length ≤ 1099511627776)
    (h : ∀ A' c' w' G', OwnS w' 5 A' c' (cellsOf (xs ++ ys)) G' → ((G' = G ∧ A' = A ∧ c' = c ∧ Only G.toList w w') ∨ (G' = some w.heap.size ∧ Only [] w w')) → wpList Tryd.prog ops Q rest (a.put o.dst (.slice A' (n + m) c')) w') : wpList Tryd.prog ops Q (o :: rest) a w := by
  have hi := info8
  cases hI : Tryd.prog.info? 5 with
  | none => rw [hI] at hi; cases hi
  | some i =>
    rw [hI] at hi
    injection hi with hi
    injection hi with h1 h2
    injection h2 with h2 h3
    obtain ⟨A', c', w', G', hrun, hown', hG⟩ := run_app (P := Tryd.prog) 23 o.type 5 i (.int .u8 0) 1 Tryd.underlying23 hI h1 h2 h3 rfl A c (cellsOf xs) G hown B d (cellsOf ys) hr cellsOf_one (by simpa using hlen) (by decide)
    subst hn hm
    refine wpList_plain hgd fun K hK => ?_
    unfold Oper.wp execOp
    simp only [ho, resolve, invoke, builtin, Sem.run_bind, Sem.run_pure, Result.andThen_ok, List.map_toArray, List.map_cons, List.map_nil, hs, hx]
    simp only [cellsOf_length] at hrun
    rw [hrun]
    exact hK _ _ (h A' c' w' G' (by rw [cellsOf_append]; exact hown') hG)
end
end Go.Proofs.YtchbgfgboogniaaDoor
namespace Go.Proofs.YtchbgfgboogniaaDoor
open Go.RowKit
section
variable {P : Program} {w : World} {ops : Array Oper} {rest : List Oper} {o : Oper} {a : Act} {Q : Exit → Act → World → Prop}
end
end Go.Proofs.YtchbgfgboogniaaDoor
