/-
  THE WALK of (*blake.Hash).finish: the hash of the message as 32 bytes.
-/
import Derived.Test.YtglbgocldenooaaDoorAbs
import Derived.Test.YtglbgocldenooaaDoorLaws2
namespace Go.Proofs.YtglbgocldenooaaDoor
open Go.RowKit

theorem u8info : (Tryd.prog.info? 5).map (fun i => (i.zero, i.size, i.bytes)) = some (some (.int .u8 0), 1, 1) := by kernel_rfl
theorem arr32size : (Tryd.prog.info? 24).map (·.size) = some 32 := by kernel_rfl

theorem leb_byte {s : List Nat} {k j : Nat} (hj : j < 4) : ((s.getD k 0 : Nat) : Int) / 2 ^ (8 * j) % 256 = (((UInt8.ofNat (s.getD ((4 * k + j) / 4) 0 / 2 ^ (8 * ((4 * k + j) % 4)))).toNat : Nat) : Int) := by
  have e1 : (4 * k + j) / 4 = k := by omega
  have e2 : (4 * k + j) % 4 = j := by omega
  rw [e1, e2, UInt8.toNat_ofNat', Int.natCast_emod, Int.natCast_ediv, Int.natCast_pow]
  simp
theorem hashM_eq {n q fill : Nat} {M blk b2 : List UInt8} (hM : M.length = 64 * q + fill) (hf : fill ≤ 64) (hz : M ≠ [] → 0 < fill) (ht : blk.take fill = M.drop (64 * q)) (_hl : blk.length = 64)
    (hb : b2 = blk.take fill ++ List.replicate (64 - fill) (0 : UInt8)) : Bl.hashM n M = Bl.leb (Bl.comp (Bl.stq n M q) b2 (64 * q + fill) true) := by
  have e1 : (M.length - 1) / 64 = q := by
    rcases Nat.eq_zero_or_pos fill with h0 | h0
    · have h1 : M.length = 0 := by
        rcases Nat.eq_zero_or_pos M.length with h | h
        · exact h
        · have := hz (fun e => by rw [e] at h; exact absurd h (by simp)); omega
      omega
    · omega
  have e2 : Bl.comp (Bl.stq n M q) b2 (64 * q + fill) true = Bl.comp (Bl.stq n M q) (M.drop (64 * q)) (64 * q + fill) true := by
    refine Bl.comp_congr (fun j _ => ?_) _ _ _
    rw [hb, ← ht]
    by_cases hjf : j < (blk.take fill).length
    · exact Bl.getD_append_left hjf
    · rw [List.getD_eq_getElem?_getD, List.getElem?_append_right (by omega), List.getElem?_replicate, List.getD_eq_getElem?_getD, List.getElem?_eq_none (by omega)]
      split <;> rfl
  rw [e2]
  unfold Bl.hashM
  rw [e1, hM]

set_option maxHeartbeats 1000000 in
set_option maxRecDepth 100000 in
theorem finish_any (w : World) (gh nk : Nat) (M : List UInt8) (written : Nat) (hS : HS w gh nk M written) (hnk : nk ≤ 32) (hw2 : M.length ≤ 4611686018427387904) (hgl : Gl w) (hg2 : 2 ≤ gh) :
    Calls Tryd.prog 45 #[.pointer (some ⟨gh, 0, none⟩)] w fun e w' => e = .returned (.agg (cellsOf (Bl.hashM nk M)).toArray) ∧ Only [gh] w w' := by
  obtain ⟨fill, q, ⟨blk, hB, hl, hM, hf, ht⟩, hz⟩ := hS
  have hst := Bl.stq_words (n := nk) (M := M) hnk q
  obtain ⟨i0, hi0, hz0, hz1, hz2⟩ := info_parts u8info
  go_enter Tryd.func45, Tryd.ntmps45
  go_wp2
  have hB1 := hB.alloc (.cells (List.replicate 32 (Value.int .u8 0)).toArray 24)
  have hR1 := Blk.new w 24 (List.replicate 32 (Value.int .u8 0))
  have hO1 := (Only.refl [gh] w).alloc (.cells (List.replicate 32 (Value.int .u8 0)).toArray 24)
  have hgw := hB.lt
  revert hB1 hR1 hO1
  simp only [List.replicate_succ, List.replicate_zero]
  generalize World.alloc _ _ = W1
  intro hB1 hR1 hO1
  have c73 : W1.cell? ⟨gh, 73, none⟩ = some (.int .i64 (fill : Int)) := hB1.cellv (hcells_tail hst.1 hl 0)
  have hfI : (fill : Int) ≤ 64 := by omega
  have HM := Lib.hid hM
  have Ht := Lib.hid ht
  have Hl := Lib.hid hl
  have hq : 64 * q + fill ≤ 4611686018427387904 := by omega
  have hlen : (hcells (Bl.stq nk M q) blk (fill : Int) ((64 * q : Nat) : Int) (written : Int)).length = 76 := hcells_length hst.1 hl
  have Hlen := Lib.hid hlen
  clear hM ht hl hlen hB
  have hOr := Only.refl [gh] w
  go_still_tail 8, (by kernel_rfl)
  refine wpl_clear rfl (.tmp 14) _ rfl 5 Tryd.underlying22 i0 hi0 (.int .u8 0) hz0 rfl rfl _ (64 - fill) _ rfl gh (9 + fill) _ _ hB1.drew (fun h => by rw [if_neg (by omega)]) (by rw [Hlen.out]; omega) ?_
  intro W2 hB2 hO2
  generalize (if 64 = fill then (⟨gh, 9, none⟩ : Addr) else ⟨gh, 9 + fill, none⟩) = A14
  have e2 : (hcells (Bl.stq nk M q) blk (fill : Int) ((64 * q : Nat) : Int) (written : Int)).take (9 + fill) ++ (List.replicate (64 - fill) (Value.int .u8 0) ++ (hcells (Bl.stq nk M q) blk (fill : Int) ((64 * q : Nat) : Int) (written : Int)).drop (9 + fill + (64 - fill))) = hcells (Bl.stq nk M q) (blk.take fill ++ List.replicate (64 - fill) 0) (fill : Int) ((64 * q : Nat) : Int) (written : Int) := by
    have := splice_hcells (st := Bl.stq nk M q) (blk := blk) (xs := List.replicate (64 - fill) 0) (f := fill) (fill := fill) (before := ((64 * q : Nat) : Int)) (written := written) hst.1 Hl.out (by simp; omega)
    simp only [splice, cellsOf, List.map_replicate, List.length_replicate] at this
    refine this.trans ?_
    congr 2
    rw [List.drop_eq_nil_of_le (by rw [Hl.out]; omega), List.append_nil]
  rw [e2] at hB2
  clear e2
  have hb2 : (blk.take fill ++ List.replicate (64 - fill) (0 : UInt8)).length = 64 := by have := Hl.out; simp; omega
  obtain ⟨b2, Hb2⟩ : ∃ b, Hid (b = blk.take fill ++ List.replicate (64 - fill) (0 : UInt8)) := ⟨_, rfl⟩
  rw [← Hb2.out] at hB2 hb2
  have Hbl := Lib.hid hb2
  clear hb2 c73
  have hR2 := hR1.keep (Only.undrew (w := W1) hO2) (by simp; omega)
  have hO3 := hO1.trans' (Only.undrew (w := W1) hO2)
  clear hO2 hO1 hR1 hB1 hOr
  obtain ⟨t, Htq⟩ : ∃ t, Hid (t = 64 * q) := ⟨_, rfl⟩
  rw [← Htq.out] at hB2
  have htl : t + fill ≤ 4611686018427387904 := by rw [Htq.out]; exact hq
  have c73 : W2.cell? ⟨gh, 73, none⟩ = some (.int .i64 (fill : Int)) := hB2.cellv (hcells_tail hst.1 Hbl.out 0)
  have c74 : W2.cell? ⟨gh, 74, none⟩ = some (.int .u64 (t : Int)) := hB2.cellv (hcells_tail hst.1 Hbl.out 1)
  go_wp2
  go_still_tail 15, (by kernel_rfl)
  go_wp2_with fail
  refine (comp_at _ gh gh 9 _ _ b2 b2 _ _ _ _ (t + fill) ?hti true hst Hbl.out hB2.drew (hgl.keep hO3 (by simp; omega) (by simp; omega)).drew hg2 (by omega) (fun j hj => hB2.cellv (hcells_blk hst.1 Hbl.out hj)) hB2.lt).mono ?_
  case hti => omega
  rintro e W3 ⟨rfl, hB3, hO4⟩
  have hR3 := hR2.keep (Only.undrew (w := W2) hO4) (by simp; omega)
  have hO5 := hO3.trans' (Only.undrew (w := W2) hO4)
  have hS3 := hO5.size
  have hst3 := Bl.comp_words (bs := b2) (t := t + fill) (last := true) hst
  have hcq : Bl.hashM nk M = Bl.leb (Bl.comp (Bl.stq nk M q) b2 (t + fill) true) := by
    rw [Htq.out]
    exact hashM_eq HM.out hf hz Ht.out Hl.out Hb2.out
  have Hcq := Lib.hid hcq
  clear hcq c73 c74 hB2 hO4 hO3 hR2
  obtain ⟨st3, Hst3⟩ : ∃ s, Hid (s = Bl.comp (Bl.stq nk M q) b2 (t + fill) true) := ⟨_, rfl⟩
  rw [← Hst3.out] at hB3 hst3
  have hl8 : (Tryd.prog.info? 44).map (·.size) = some (wcells st3).length := by rw [wcells_length, hst3.1]; exact arr8size
  have Hl8 := Lib.hid hl8
  clear hl8
  go_upto_region 4 with (fail)
  have hB4 := hB3.alloc (.cells (List.replicate 32 (Value.int .u8 0)).toArray 24)
  have hR4 := hR3.alloc (.cells (List.replicate 32 (Value.int .u8 0)).toArray 24)
  have hU4 := Blk.new W3 24 (List.replicate 32 (Value.int .u8 0))
  have hO6 := hO5.alloc (.cells (List.replicate 32 (Value.int .u8 0)).toArray 24)
  have hgs : w.heap.size < W3.heap.size := hR3.lt
  revert hB4 hR4 hU4 hO6
  simp only [List.replicate_succ, List.replicate_zero]
  generalize World.alloc _ _ = W4
  generalize W3.heap.size = gs at hgs ⊢
  intro hB4 hR4 hU4 hO6
  clear hB3 hR3 hO5 hS3
  have hload : ∀ j, j < (wcells st3).length → W4.cell? ⟨gh, 1 + j, none⟩ = (wcells st3)[j]? := by
    intro j hj
    have hj' : j < 8 := by simpa [hst3.1] using hj
    rw [hB4.cell, hcells_st hst3.1 hj', wcells_get (wget hst3 hj')]
  have Hload := Lib.hid hload
  clear hload
  go_wp2_with (refine wpl_load_at rfl 44 _ rfl gh 1 rfl (wcells st3) _ Tryd.underlying44 rfl Hl8.out Hload.out ?_)
  clear Hload Hl8
  obtain ⟨sc, Hsc⟩ : ∃ c, Hid (c = (wcells st3).toArray) := ⟨_, rfl⟩
  rw [← Hsc.out]
  have hU5 : Blk W4 gs 24 (fillTo 32 (fun i => Value.int .u8 ((UInt8.ofNat (st3.getD (i / 4) 0 / 2 ^ (8 * (i % 4)))).toNat : Int)) (fun _ => .int .u8 0) (4 * 0)) := by
    have : (fillTo 32 (fun i => Value.int .u8 ((UInt8.ofNat (st3.getD (i / 4) 0 / 2 ^ (8 * (i % 4)))).toNat : Int)) (fun _ => .int .u8 0) (4 * 0)) = List.replicate 32 (Value.int .u8 0) := by
      simp [fillTo, List.range, List.range.loop, List.replicate]
    rw [this]; exact hU4
  clear hU4
  go_loopw [35, 4, 5, 6, 39] (fun a _ _ _ _ wr => ∃ k : Nat, k ≤ 8 ∧ a = .int .i64 k ∧ Blk wr gs 24 (fillTo 32 (fun i => Value.int .u8 ((UInt8.ofNat (st3.getD (i / 4) 0 / 2 ^ (8 * (i % 4)))).toNat : Int)) (fun _ => .int .u8 0) (4 * k)) ∧ Blk wr w.heap.size 24 (List.replicate 32 (Value.int .u8 0)) ∧ Only [gh] w wr) (fun a _ _ _ _ _ => 8 - (intOf a).toNat)
  case atStart => exact ⟨0, by omega, rfl, hU5, hR4, hO6⟩
  case round =>
    clear hU5 hR4 hO6 hB4
    obtain ⟨k, hk, rfl, hU, hR, hO⟩ := hrel
    by_cases hlt : k < 8
    · obtain ⟨sv, Hs⟩ : ∃ n, Hid (n = st3.getD k 0) := ⟨_, rfl⟩
      have ls : sv < 4294967296 := by rw [Hs.out]; exact hst3.getD _
      have hidx : ∀ w, (Instr.index 44 (.agg sc) (.int .i64 (k : Int))).run Tryd.prog w = .ok (.int .u32 (sv : Nat)) w := by
        rw [Hsc.out, Hs.out]
        exact run_index_row Tryd.underlying44 Tryd.underlying43 rfl u32size hlt (wcells_get (wget hst3 hlt))
      go_wp2
      obtain ⟨wo, rfl⟩ : ∃ wo : World, wo = wr := ⟨_, rfl⟩
      go_loopw [39, 6] (fun a _ wr => ∃ j : Nat, j ≤ 4 ∧ a = .int .i64 j ∧ Blk wr gs 24 (fillTo 32 (fun i => Value.int .u8 ((UInt8.ofNat (st3.getD (i / 4) 0 / 2 ^ (8 * (i % 4)))).toNat : Int)) (fun _ => .int .u8 0) (4 * k + j)) ∧ Blk wr w.heap.size 24 (List.replicate 32 (Value.int .u8 0)) ∧ Only [gh] w wr) (fun a _ _ => 4 - (intOf a).toNat)
      case atStart => exact ⟨0, by omega, rfl, hU, hR, hO⟩
      case round =>
        clear hU hR hO hidx
        obtain ⟨j, hj, rfl, hU, hR, hO⟩ := hrel
        by_cases hjlt : j < 4
        · have cu : wr.cell? ⟨gs, 4 * k + j, none⟩ = some (.int .u8 0) := hU.cellv (by rw [fillTo_get (by omega), if_neg (by omega)])
          have fu := hU.frozen (4 * k + j)
          go_wp2
          go_roundw
          case rel =>
            refine ⟨j + 1, by omega, by go_num, ?_, hR.far (p := ⟨gs, 4 * k + j, none⟩) (by simp; omega) _, hO.setCell (p := ⟨gs, 4 * k + j, none⟩) (.inr (by simp; omega)) _⟩
            rw [Hs.out, leb_byte (s := st3) hjlt, ← Nat.add_assoc, ← fillTo_set (by omega)]
            exact hU.set (4 * k + j) _
          case measure => simp [intOf]; omega
        · obtain rfl : j = 4 := by omega
          go_wp2
          go_roundw
          case rel => exact ⟨k + 1, by omega, by go_num, hU, hR, hO⟩
          case measure => simp [intOf]; omega
    · obtain rfl : k = 8 := by omega
      have eL : fillTo 32 (fun i => Value.int .u8 ((UInt8.ofNat (st3.getD (i / 4) 0 / 2 ^ (8 * (i % 4)))).toNat : Int)) (fun _ => .int .u8 0) (4 * 8) = cellsOf (Bl.hashM nk M) := by
        rw [Hcq.out, ← Hst3.out, show 4 * 8 = 32 from rfl, fillTo_all]
        simp [Bl.leb, cellsOf]
      rw [eL] at hU
      have hl32 : (cellsOf (Bl.hashM nk M)).length = 32 := by simp
      have hs32 : (Tryd.prog.info? 24).map (·.size) = some (cellsOf (Bl.hashM nk M)).length := by rw [hl32]; exact arr32size
      have Hs32 := Lib.hid hs32
      have Hl32 := Lib.hid hl32
      clear eL hl32 hs32
      go_wp2_with (first | (refine wpl_load_at rfl 24 _ rfl gs 0 rfl (cellsOf (Bl.hashM nk M)) _ Tryd.underlying24 rfl Hs32.out (fun j _ => by rw [Nat.zero_add]; exact hU.cell j) ?_) | (refine wpl_store_all rfl 24 _ _ rfl w.heap.size (cellsOf (Bl.hashM nk M)) rfl rfl 24 (List.replicate 32 (Value.int .u8 0)) hR (by rw [Hl32.out]; rfl) Hs32.out cellsOf_one ?_; intro W9 hR9 hO9))
      have hO10 := hO.trans hO9 (by simp)
      exact bodyPost_ret (results_cell_row rfl _ _ w.heap.size 24 (cellsOf (Bl.hashM nk M)).toArray (0, 0) _ rfl hR9 Tryd.underlying24 rfl (by simpa using Hs32.out)) rfl ⟨rfl, hO10⟩
end Go.Proofs.YtglbgocldenooaaDoor
