/-
  THE WALKS of blake.start and (*blake.Hash).absorb.
-/
import Derived.Test.YtglbgocldenooaaDoorComp
import Derived.Test.YtglbgocldenooaaDoorHashP
namespace Go.Proofs.YtglbgocldenooaaDoor
open Go.RowKit

/-- A slice that reads as bytes: its address counts only where there is a byte. -/
def RB (w : World) (A : Option Addr) (bs : List UInt8) : Prop :=
  0 < bs.length → ∃ g o, A = some ⟨g, o, none⟩ ∧ g < w.heap.size ∧ ∀ j, j < bs.length → w.cell? ⟨g, o + j, none⟩ = some (.int .u8 (bs.getD j 0).toNat)
theorem RB.keep {S : List Nat} {w w' : World} {A : Option Addr} {bs : List UInt8} (h : RB w A bs) (ho : Only S w w') (hn : ∀ p, A = some p → p.block ∉ S) : RB w' A bs := by
  intro h0
  obtain ⟨g, o, rfl, hg, hc⟩ := h h0
  exact ⟨g, o, rfl, Nat.lt_of_lt_of_le hg ho.size, fun j hj => (ho.cell (p := ⟨g, o + j, none⟩) hg (hn ⟨g, o, none⟩ rfl)).trans (hc j hj)⟩
theorem RB.keep0 {w w' : World} {A : Option Addr} {bs : List UInt8} (h : RB w A bs) (ho : Only [] w w') : RB w' A bs := h.keep ho (by simp)
theorem RB.nil {w : World} {A : Option Addr} : RB w A [] := fun h => absurd h (by simp)

def z64 : List UInt8 := List.replicate 64 0
theorem u8size : (Tryd.prog.info? 5).map (·.size) = some 1 := by kernel_rfl
theorem splice_hcells {st : List Nat} {blk xs : List UInt8} {f : Nat} {fill before written : Int} (hs : st.length = 8) (_hb : blk.length = 64) (hf : f + xs.length ≤ 64) :
    splice (hcells st blk fill before written) (9 + f) (cellsOf xs) = hcells st (splice blk f xs) fill before written := by
  have e : 9 + f = (8 + f) + 1 := by omega
  have e2 : 8 + f + 1 + xs.length = (8 + (f + xs.length)) + 1 := by omega
  simp only [splice, hcells, cellsOf_length, e, e2, List.take_succ_cons, List.drop_succ_cons, List.cons_append]
  congr 1
  rw [List.take_append, List.drop_append, List.take_of_length_le (by simp [hs]), List.drop_eq_nil_of_le (by simp [hs])]
  simp only [wcells_length, hs, Nat.add_sub_cancel_left, List.nil_append, List.append_assoc]
  congr 1
  rw [List.take_append_of_le_length (by simp [_hb]; omega), List.drop_append_of_le_length (by simp [_hb]; omega)]
  simp [cellsOf, List.map_append, List.map_take, List.map_drop]
theorem splice_length {α : Type} {l xs : List α} {f : Nat} (h : f + xs.length ≤ l.length) : (splice l f xs).length = l.length := length_splice l f xs h
theorem hcells_fill {st : List Nat} {blk : List UInt8} {fill before written f' : Int} (hs : st.length = 8) (hb : blk.length = 64) :
    (hcells st blk fill before written).set 73 (.int .i64 f') = hcells st blk f' before written := by
  have e : 73 = 72 + 1 := rfl
  rw [e]
  simp only [hcells, List.set_cons_succ]
  rw [List.set_append_right _ _ (by simp [hs]), List.set_append_right _ _ (by simp [hs, hb])]
  simp [hs, hb]
theorem hcells_before {st : List Nat} {blk : List UInt8} {fill before written f' : Int} (hs : st.length = 8) (hb : blk.length = 64) :
    (hcells st blk fill before written).set 74 (.int .u64 f') = hcells st blk fill f' written := by
  have e : 74 = 73 + 1 := rfl
  rw [e]
  simp only [hcells, List.set_cons_succ]
  rw [List.set_append_right _ _ (by simp [hs]), List.set_append_right _ _ (by simp [hs, hb])]
  simp [hs, hb]
theorem hcells_written {st : List Nat} {blk : List UInt8} {fill before written f' : Int} (hs : st.length = 8) (hb : blk.length = 64) :
    (hcells st blk fill before written).set 75 (.int .i64 f') = hcells st blk fill before f' := by
  have e : 75 = 74 + 1 := rfl
  rw [e]
  simp only [hcells, List.set_cons_succ]
  rw [List.set_append_right _ _ (by simp [hs]), List.set_append_right _ _ (by simp [hs, hb])]
  simp [hs, hb]

/-- A computation in memory: the message so far is M, of which q blocks are compressed and fill bytes lie in the block. -/
def HSx (w : World) (gh nk : Nat) (M : List UInt8) (written fill q : Nat) : Prop :=
  ∃ blk, Blk w gh 48 (hcells (Bl.stq nk M q) blk (fill : Int) ((64 * q : Nat) : Int) (written : Int)) ∧ blk.length = 64 ∧ M.length = 64 * q + fill ∧ fill ≤ 64 ∧ blk.take fill = M.drop (64 * q)
def HS (w : World) (gh nk : Nat) (M : List UInt8) (written : Nat) : Prop := ∃ fill q, HSx w gh nk M written fill q ∧ (M ≠ [] → 0 < fill)

theorem kpad_length {key : List UInt8} (hk : key.length ≤ 32) : (key ++ List.replicate (64 - key.length) (0 : UInt8)).length = 64 := by simp; omega
theorem splice_key {key : List UInt8} {st : List Nat} {f b wt : Int} (hs : st.length = 8) (hk : key.length ≤ 32) : splice (hcells st z64 f b wt) 9 (cellsOf key) = hcells st (key ++ List.replicate (64 - key.length) 0) f b wt := by
  have e := splice_hcells (st := st) (blk := z64) (xs := key) (f := 0) (fill := f) (before := b) (written := wt) hs rfl (by omega)
  rw [Nat.add_zero] at e
  rw [e, splice, z64]
  simp only [List.take_zero, List.nil_append, Nat.zero_add, List.drop_replicate]

set_option maxHeartbeats 2000000 in
set_option maxRecDepth 100000 in
theorem start_any (w : World) (A : Option Addr) (c : Nat) (key : List UInt8) (hk : key.length ≤ 32) (_hc : key.length ≤ c) (hr : RB w A key) (hgl : Gl w) :
    Calls Tryd.prog 42 #[.slice A key.length c] w fun e w' => e = .returned (.pointer (some ⟨w.heap.size, 0, none⟩)) ∧ HS w' w.heap.size key.length (Bl.kblock key) 0 ∧ Only [] w w' := by
  have hini : ∀ j, j < ([Value.int .u32 1779033703, Value.int .u32 3144134277, Value.int .u32 1013904242, Value.int .u32 2773480762, Value.int .u32 1359893119, Value.int .u32 2600822924, Value.int .u32 528734635, Value.int .u32 1541459225]).length → w.cell? ⟨0, 0 + j, none⟩ = ([Value.int .u32 1779033703, Value.int .u32 3144134277, Value.int .u32 1013904242, Value.int .u32 2773480762, Value.int .u32 1359893119, Value.int .u32 2600822924, Value.int .u32 528734635, Value.int .u32 1541459225])[j]? := by
    intro j hj
    have hj' : j < 8 := hj
    rw [Nat.zero_add, hgl.ini j hj']
    have : j < Bl.iv.length := hj'
    show _ = (wcells Bl.iv)[j]?
    simp [wcells, this]
  have Hini := Lib.hid hini
  clear hini
  go_enter Tryd.func42, Tryd.ntmps42
  go_wp2_with (first | (refine wpl_load_at rfl 44 _ rfl 0 0 rfl [Value.int .u32 1779033703, Value.int .u32 3144134277, Value.int .u32 1013904242, Value.int .u32 2773480762, Value.int .u32 1359893119, Value.int .u32 2600822924, Value.int .u32 528734635, Value.int .u32 1541459225] _ Tryd.underlying44 rfl arr8size Hini.out ?_) | (refine wpl_build rfl 48 _ rfl (.agg (hcells Bl.iv z64 0 0 0).toArray) ?hb ?_; case hb => kernel_rfl))
  clear Hini
  have hB0 := Blk.new w 48 (hcells Bl.iv z64 0 0 0)
  have hO0 := (Only.refl [] w).alloc (.cells (hcells Bl.iv z64 0 0 0).toArray 48)
  revert hB0 hO0
  generalize World.alloc _ _ = W1
  intro hB0 hO0
  have cs : W1.cell? ⟨w.heap.size, 1, none⟩ = some (.int .u32 (1779033703 : Int)) := hB0.cellv (hcells_st (i := 0) rfl (by decide))
  have fz := hB0.frozen 1
  obtain ⟨z, Hz⟩ : ∃ n, Hid (n = 1779033703 ^^^ (16842784 + key.length * 256)) := ⟨_, rfl⟩
  have xz : bits .xor .u32 1779033703 (16842784 + 256 * (key.length : Int)) = (z : Int) := by
    have := u32_xor_nat 1779033703 (16842784 + key.length * 256) (by decide) (by omega)
    rw [Hz.out, ← this]
    congr 1
    simp only [Int.natCast_add, Int.natCast_mul]
    omega
  have hB1 : Blk ((W1.setCell ⟨w.heap.size, 1, none⟩ (.int .u32 (z : Int))).drew) w.heap.size 48 (hcells (Bl.st0 key.length) z64 0 0 0) := by
    have e : Bl.st0 key.length = Bl.iv.set 0 z := by rw [Hz.out]; rfl
    rw [e, ← hcells_set (i := 0) rfl (by decide)]
    exact (hB0.set 1 _).drew
  have hO1 := (hO0.setCell (p := ⟨w.heap.size, 1, none⟩) (.inr (Nat.le_refl _)) (.int .u32 (z : Int))).drew
  have hs0 : (Bl.st0 key.length).length = 8 := rfl
  by_cases h0 : 0 < key.length
  · have h0' : ((key.length : Int) == 0) = false := beq_eq_false_iff_ne.2 (by omega)
    go_still_tail 14, (by kernel_rfl)
    go_upto_region 4 with (fail)
    clear cs fz xz
    revert hB1 hO1
    generalize World.drew _ = W2
    intro hB1 hO1
    obtain ⟨g, o, rfl, hg, hcl⟩ := hr h0
    have hcl2 : ∀ j v, (cellsOf key)[j]? = some v → W2.cell? ((⟨g, o, none⟩ : Addr).add j) = some v := by
      intro j v hv
      have hj : j < key.length := by simpa using (List.getElem?_eq_some_iff.1 hv).1
      rw [Addr.add_mid, hO1.cell (p := ⟨g, o + j, none⟩) hg (by simp), hcl j hj, ← hv, cellsOf_getD hj]
    have Hcl := Lib.hid hcl2
    clear hcl hcl2
    have hm : Nat.min key.length 64 = key.length := Nat.min_eq_left (by omega)
    go_wp2_with (refine wpl_copy rfl (.tmp 27) (.tmp 28) _ _ rfl 5 Tryd.underlying22 u8size _ _ _ _ _ _ rfl rfl w.heap.size 9 _ _ hB1 (cellsOf key) (by rw [cellsOf_length]; exact hm.symm) (fun _ => ⟨rfl, _, rfl, Hcl.out⟩) (by rw [hcells_length hs0 rfl, cellsOf_length]; omega) cellsOf_one ?_; intro W3 hB3 hO3; rw [splice_key hs0 hk] at hB3; have fz := hB3.frozen 73; have c73 : W3.cell? ⟨w.heap.size, 73, none⟩ = some (.int .i64 0) := hB3.cellv (hcells_tail hs0 (kpad_length hk) 0))
    go_ret
    refine ⟨rfl, ⟨64, 0, ⟨_, ?_, kpad_length hk, ?_, Nat.le_refl _, ?_⟩, fun _ => by decide⟩, ?_⟩
    · have := hB3.set 73 (.int .i64 64)
      rw [hcells_fill hs0 (kpad_length hk)] at this
      exact this
    · have : key.length ≠ 0 := by omega
      simp [Bl.kblock, this]; omega
    · have : key.length ≠ 0 := by omega
      rw [List.take_of_length_le (by rw [kpad_length hk]; exact Nat.le_refl _)]
      simp [Bl.kblock, this]
    · exact (hO1.trans hO3 (by simp)).setCell (p := ⟨w.heap.size, 73, none⟩) (.inr (Nat.le_refl _)) _
  · have h0' : key.length ≤ 0 := by omega
    go_still_tail 14, (by kernel_rfl)
    go_wp2
    go_ret
    have hz : Bl.kblock key = [] := by unfold Bl.kblock; rw [if_pos (by omega)]
    rw [hz]
    exact ⟨rfl, ⟨0, 0, ⟨z64, hB1, rfl, rfl, by decide, rfl⟩, fun h => absurd rfl h⟩, hO1⟩
end Go.Proofs.YtglbgocldenooaaDoor
