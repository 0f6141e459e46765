/-
  THE WALK of (*blake.Hash).compress: the state's words become the plain function comp's.
-/
import Derived.Test.YtglbgocldenooaaDoorMix
import Derived.Test.YtglbgocldenooaaDoorLaws
import Derived.Deep.DeepCutAuto
namespace Go.Proofs.YtglbgocldenooaaDoor
open Go.RowKit

/-- A Hash in memory: made, the state, the block, fill, before, written. -/
def hcells (st : List Nat) (blk : List UInt8) (fill before written : Int) : List Value := .bool true :: (wcells st ++ (cellsOf blk ++ [.int .i64 fill, .int .u64 before, .int .i64 written]))
@[simp] theorem wcells_length (ws : List Nat) : (wcells ws).length = ws.length := by simp [wcells]
section
variable {st : List Nat} {blk : List UInt8} {fill before written : Int}
theorem hcells_length (hs : st.length = 8) (hb : blk.length = 64) : (hcells st blk fill before written).length = 76 := by simp [hcells, hs, hb]
theorem hcells_st (hs : st.length = 8) {i : Nat} (hi : i < 8) : (hcells st blk fill before written)[1 + i]? = some (.int .u32 (st.getD i 0 : Nat)) := by
  rw [Nat.add_comm]
  simp only [hcells, List.getElem?_cons_succ]
  rw [List.getElem?_append_left (by simp [hs, hi])]
  simp [wcells, hs, hi]
theorem hcells_set (hs : st.length = 8) {i : Nat} (hi : i < 8) (n : Nat) : (hcells st blk fill before written).set (1 + i) (.int .u32 (n : Int)) = hcells (st.set i n) blk fill before written := by
  rw [Nat.add_comm]
  simp only [hcells, List.set_cons_succ]
  rw [List.set_append_left _ _ (by simp [hs, hi])]
  rw [wcells_set]
theorem hcells_blk (hs : st.length = 8) (hb : blk.length = 64) {j : Nat} (hj : j < 64) : (hcells st blk fill before written)[9 + j]? = some (.int .u8 (blk.getD j 0).toNat) := by
  have e : 9 + j = (8 + j) + 1 := by omega
  rw [e]
  simp only [hcells, List.getElem?_cons_succ]
  rw [List.getElem?_append_right (by simp [hs]), List.getElem?_append_left (by simp [hs, hb]; omega)]
  simp [hs, cellsOf, hb, hj]
theorem hcells_tail (hs : st.length = 8) (hb : blk.length = 64) (j : Nat) : (hcells st blk fill before written)[73 + j]? = [Value.int .i64 fill, .int .u64 before, .int .i64 written][j]? := by
  have e : 73 + j = (72 + j) + 1 := by omega
  rw [e]
  simp only [hcells, List.getElem?_cons_succ]
  rw [List.getElem?_append_right (by simp [hs]; omega), List.getElem?_append_right (by simp [hs, hb]; omega)]
  simp only [wcells_length, cellsOf_length, hs, hb]
  congr 1
  omega
end

/-- The two tables of the package. -/
structure Gl (w : World) : Prop where
  ini : ∀ j, j < 8 → w.cell? ⟨0, j, none⟩ = some (.int .u32 (Bl.iv.getD j 0 : Nat))
  tab : ∀ r j, r < 10 → j < 16 → w.cell? ⟨1, 16 * r + j, none⟩ = some (.int .u8 ((Bl.tab.getD r []).getD j 0 : Nat))
  sz : 2 ≤ w.heap.size
theorem Gl.keep {S : List Nat} {w w' : World} (h : Gl w) (ho : Only S w w') (h0 : 0 ∉ S) (h1 : 1 ∉ S) : Gl w' :=
  ⟨fun j hj => (ho.cell (p := ⟨_, j, none⟩) (Nat.lt_of_lt_of_le (show 0 < 2 by decide) h.sz) h0).trans (h.ini j hj),
   fun r j hr hj => (ho.cell (p := ⟨_, 16 * r + j, none⟩) (Nat.lt_of_lt_of_le (show 1 < 2 by decide) h.sz) h1).trans (h.tab r j hr hj), Nat.le_trans h.sz ho.size⟩

theorem u32size : (Tryd.prog.info? 43).map (·.size) = some 1 := by kernel_rfl
theorem arr16size : (Tryd.prog.info? 83).map (·.size) = some 16 := by kernel_rfl
theorem arr8size : (Tryd.prog.info? 44).map (·.size) = some 8 := by kernel_rfl
theorem wcells_one {ws : List Nat} : ∀ u ∈ wcells ws, u.oneCell' = true := by
  intro u hu
  obtain ⟨b, _, rfl⟩ := List.mem_map.1 hu
  rfl

theorem wget {n : Nat} {ws : List Nat} (h : Bl.Words n ws) {i : Nat} (hi : i < n) : ws[i]? = some (ws.getD i 0) := by have := h.1; simp [this, hi]
theorem range_getD {st : List Nat} {n : Nat} (hs : st.length = n) : (List.range n).map (fun i => st.getD i 0) = st := by
  apply List.ext_getElem?
  intro i
  by_cases hi : i < n
  · rw [List.getElem?_map, List.getElem?_range hi]; simp [hs, hi]
  · rw [List.getElem?_eq_none (by simpa using hi), List.getElem?_eq_none (by omega)]
theorem vset {st : List Nat} {f z : Nat → Nat} {k : Nat} (hs : st.length = 8) (hk : k < 8) : (wcells (st ++ fillTo 8 f z k)).set (8 + k) (.int .u32 (f k : Nat)) = wcells (st ++ fillTo 8 f z (k + 1)) := by
  rw [wcells_set, List.set_append_right _ _ (by omega), hs, Nat.add_sub_cancel_left, fillTo_set hk]
theorem iv_get {st : List Nat} (hs : st.length = 8) (i : Nat) (_hi : i < 8) : (st ++ Bl.iv)[8 + i]? = some (Bl.ivf i) := by
  rw [List.getElem?_append_right (by omega), hs, Nat.add_sub_cancel_left]
  have : i < Bl.iv.length := _hi
  simp [Bl.ivf, this]

set_option maxHeartbeats 4000000 in
set_option maxRecDepth 100000 in
theorem comp_any (w : World) (gh gb ob : Nat) (tH : TypeId) (st : List Nat) (blk bs : List UInt8) (fill before written : Int) (t : Nat) (last : Bool) (hst : Bl.Words 8 st) (_hblk : blk.length = 64)
    (hH : Blk w gh tH (hcells st blk fill before written)) (hgl : Gl w) (_hg2 : 2 ≤ gh) (_ht : t < 18446744073709551616)
    (hcell : ∀ j, j < 64 → w.cell? ⟨gb, ob + j, none⟩ = some (.int .u8 (bs.getD j 0).toNat)) (hgb : gb < w.heap.size) :
    Calls Tryd.prog 51 #[.pointer (some ⟨gh, 0, none⟩), .slice (some ⟨gb, ob, none⟩) 64 64, .int .u64 t, .bool last] w fun e w' =>
      e = .returned (.tuple #[]) ∧ Blk w' gh tH (hcells (Bl.comp st bs t last) blk fill before written) ∧ Only [gh] w w' := by
  have hC := Lib.hid hcell
  clear hcell
  go_enter Tryd.func51, Tryd.ntmps51
  go_wp2
  go_loopw [17, 9, 10] (fun a _ _ wr => ∃ k : Nat, k ≤ 16 ∧ a = .int .i64 k ∧ Blk wr w.heap.size 82 (wcells (fillTo 16 (Bl.mw bs) (fun _ => 0) k)) ∧ Only [] w wr) (fun a _ _ _ => 16 - (intOf a).toNat)
  case atStart => exact ⟨0, by omega, rfl, Blk.new w _ _, (Only.refl [] w).alloc _⟩
  case round =>
    obtain ⟨k, hk, rfl, hB, hO⟩ := hrel
    by_cases hlt : k < 16
    · have e4 : 4 * k + 4 - 4 * k = 4 := by omega
      obtain ⟨b0, E0⟩ : ∃ n, n = (bs.getD (4 * k) 0).toNat := ⟨_, rfl⟩
      obtain ⟨b1, E1⟩ : ∃ n, n = (bs.getD (4 * k + 1) 0).toNat := ⟨_, rfl⟩
      obtain ⟨b2, E2⟩ : ∃ n, n = (bs.getD (4 * k + 2) 0).toNat := ⟨_, rfl⟩
      obtain ⟨b3, E3⟩ : ∃ n, n = (bs.getD (4 * k + 3) 0).toNat := ⟨_, rfl⟩
      have l0 : b0 < 256 := by rw [E0]; exact UInt8.toNat_lt _
      have l1 : b1 < 256 := by rw [E1]; exact UInt8.toNat_lt _
      have l2 : b2 < 256 := by rw [E2]; exact UInt8.toNat_lt _
      have l3 : b3 < 256 := by rw [E3]; exact UInt8.toNat_lt _
      have c0 : wr.cell? ⟨gb, ob + 4 * k, none⟩ = some (.int .u8 (b0 : Int)) := by
        rw [hO.cell (p := ⟨gb, ob + 4 * k, none⟩) hgb (by simp), E0]; exact hC.out _ (by omega)
      have c1 : wr.cell? ⟨gb, ob + 4 * k + 1, none⟩ = some (.int .u8 (b1 : Int)) := by
        rw [hO.cell (p := ⟨gb, ob + 4 * k + 1, none⟩) hgb (by simp), E1]; exact hC.out (4 * k + 1) (by omega)
      have c2 : wr.cell? ⟨gb, ob + 4 * k + 2, none⟩ = some (.int .u8 (b2 : Int)) := by
        rw [hO.cell (p := ⟨gb, ob + 4 * k + 2, none⟩) hgb (by simp), E2]; exact hC.out (4 * k + 2) (by omega)
      have c3 : wr.cell? ⟨gb, ob + 4 * k + 3, none⟩ = some (.int .u8 (b3 : Int)) := by
        rw [hO.cell (p := ⟨gb, ob + 4 * k + 3, none⟩) hgb (by simp), E3]; exact hC.out (4 * k + 3) (by omega)
      have cm : wr.cell? ⟨w.heap.size, k, none⟩ = some (.int .u32 (0 : Nat)) := hB.cellv (wcells_get (by rw [fillTo_get hlt, if_neg (by omega)]))
      have Hn : Hid (Bl.mword b0 b1 b2 b3 = Bl.mw bs k) := by rw [E0, E1, E2, E3]; rfl
      clear E0 E1 E2 E3
      have fz := hB.frozen k
      go_wp2
      go_still_tail 24, (by kernel_rfl)
      go_wp2
      go_roundw
      case rel =>
        refine ⟨k + 1, by omega, by go_num, ?_, ?_⟩
        · rw [Bl.mword_cast l0 l1 l2 l3, Hn.out, ← fillTo_set hlt, ← wcells_set]
          exact (hB.set k _).drew
        · exact (hO.setCell (p := ⟨w.heap.size, k, none⟩) (.inr (Nat.le_refl _)) _).drew
      case measure => simp [intOf]; omega
    · obtain rfl : k = 16 := by omega
      rw [fillTo_all] at hB
      have hB1 : Blk wr w.heap.size 82 (wcells (Bl.mws bs)) := hB
      rw [show ((16 : Nat) : Int) = 16 from rfl]
      clear hB hlt hk
      go_wp2
      have hV0 := Blk.new wr 82 (wcells (List.replicate 16 0))
      have hO0 := hO.alloc (.cells (wcells (List.replicate 16 0)).toArray 82)
      have hM0 := hB1.alloc (.cells (wcells (List.replicate 16 0)).toArray 82)
      have hl : w.heap.size < wr.heap.size := hB1.lt
      revert hV0 hO0 hM0
      simp only [wcells, List.replicate_succ, List.replicate_zero, List.map_cons, List.map_nil]
      generalize World.alloc _ _ = W1
      generalize wr.heap.size = gv at hl ⊢
      intro hV0 hO0 hM0
      have hH1 := hH.keep hO0 (by simp)
      have hgv : w.heap.size < gv := hl
      have hgw := hH.lt
      clear hB1 hO
      go_still_tail 5, (by kernel_rfl)
      refine wpl_copy rfl (.tmp 55) (.tmp 59) _ _ rfl 43 Tryd.underlying69 u32size _ _ _ _ _ _ rfl rfl gv 0 _ _ hV0.drew (wcells st) (by simp [hst.1]) (fun _ => ⟨rfl, _, rfl, ?_⟩) (by simp [hst.1]) wcells_one ?_
      · intro j v hv
        have hj : j < 8 := by have := (List.getElem?_eq_some_iff.1 hv).1; simpa [hst.1] using this
        rw [Addr.add_mid]
        show W1.cell? _ = _
        rw [hH1.cell, hcells_st hst.1 hj, ← hv]
        simp [wcells, hst.1, hj]
      intro W2 hV2 hO2
      have hO3 : Only [] w W2 := hO0.trans (Only.undrew (w := W1) hO2) (by simp; omega)
      have hM2 : Blk W2 w.heap.size 82 (wcells (Bl.mws bs)) := hM0.keep (Only.undrew (w := W1) hO2) (by simp; omega)
      have hVe : splice (wcells (List.replicate 16 0)) 0 (wcells st) = wcells (st ++ fillTo 8 Bl.ivf (fun _ => 0) 0) := by
        simp [splice, hst.1, wcells, fillTo, List.replicate, List.range, List.range.loop]
      have hV3 : Blk W2 gv 82 (wcells (st ++ fillTo 8 Bl.ivf (fun _ => 0) 0)) := by rw [← hVe]; simpa [wcells, List.replicate] using hV2
      clear hV2 hVe hO2 hV0 hM0 hO0 hH1
      have hini : ∀ j, j < (wcells Bl.iv).length → W2.cell? ⟨0, 0 + j, none⟩ = (wcells Bl.iv)[j]? := by
        intro j hj
        have hj' : j < 8 := by simpa [Bl.iv] using hj
        rw [Nat.zero_add, (hgl.keep hO3 (by simp) (by simp)).ini j hj']
        have : j < Bl.iv.length := hj'
        simp [wcells, this]
      have Hini := Lib.hid hini
      clear hini
      go_wp2_with (refine wpl_load_at rfl 44 _ rfl 0 0 rfl (wcells Bl.iv) _ Tryd.underlying44 rfl arr8size Hini.out ?_)
      clear Hini
      obtain ⟨ivc, Hiv⟩ : ∃ c, Hid (c = (wcells Bl.iv).toArray) := ⟨_, rfl⟩
      rw [← Hiv.out]
      go_loopw [62, 12, 13] (fun a _ _ wr => ∃ k : Nat, k ≤ 8 ∧ a = .int .i64 k ∧ Blk wr gv 82 (wcells (st ++ fillTo 8 Bl.ivf (fun _ => 0) k)) ∧ Blk wr w.heap.size 82 (wcells (Bl.mws bs)) ∧ Only [] w wr) (fun a _ _ _ => 8 - (intOf a).toNat)
      case atStart => exact ⟨0, by omega, rfl, hV3, hM2, hO3⟩
      case round =>
        clear hV3 hM2 hO3
        obtain ⟨k, hk, rfl, hV, hM, hO⟩ := hrel
        by_cases hlt : k < 8
        · have hidx : ∀ w, (Instr.index 44 (.agg ivc) (.int .i64 (k : Int))).run Tryd.prog w = .ok (.int .u32 (Bl.ivf k : Nat)) w := by
            rw [Hiv.out]
            have hk8 : k < Bl.iv.length := hlt
            exact run_index_row Tryd.underlying44 Tryd.underlying43 rfl u32size hlt (wcells_get (by simp [Bl.ivf, hk8]))
          have cv : wr.cell? ⟨gv, 8 + k, none⟩ = some (.int .u32 (0 : Nat)) := by
            refine hV.cellv (wcells_get ?_)
            rw [List.getElem?_append_right (by rw [hst.1]; omega), hst.1, Nat.add_sub_cancel_left, fillTo_get hlt, if_neg (by omega)]
          have fz := hV.frozen (8 + k)
          go_wp2
          go_roundw
          case rel =>
            refine ⟨k + 1, by omega, by go_num, ?_, ?_, ?_⟩
            · rw [← vset hst.1 hlt]; exact hV.set (8 + k) _
            · exact hM.far (p := ⟨gv, 8 + k, none⟩) (by simp; omega) _
            · exact hO.setCell (p := ⟨gv, 8 + k, none⟩) (.inr (by simp; omega)) _
          case measure => simp [intOf]; omega
        · obtain rfl : k = 8 := by omega
          rw [fillTo_all, Bl.ivf_all] at hV
          rw [show ((8 : Nat) : Int) = 8 from rfl]
          clear hlt hk
          have c12 : wr.cell? ⟨gv, 12, none⟩ = some (.int .u32 (1359893119 : Int)) := hV.cellv (wcells_get (iv_get hst.1 4 (by decide)))
          have c13 : wr.cell? ⟨gv, 13, none⟩ = some (.int .u32 (2600822924 : Int)) := hV.cellv (wcells_get (iv_get hst.1 5 (by decide)))
          have f12 := hV.frozen 12
          have f13 := hV.frozen 13
          obtain ⟨z12, ez12⟩ : ∃ n, n = 1359893119 ^^^ t % 4294967296 := ⟨_, rfl⟩
          obtain ⟨z13, ez13⟩ : ∃ n, n = 2600822924 ^^^ t / 4294967296 % 4294967296 := ⟨_, rfl⟩
          have x12 : bits .xor .u32 1359893119 ((t : Int) % 4294967296) = (z12 : Int) := by
            have := u32_xor_nat 1359893119 (t % 4294967296) (by decide) (by omega); rw [ez12]; simpa using this
          have x13 : bits .xor .u32 2600822924 ((t : Int) / 4294967296) = (z13 : Int) := by
            have := u32_xor_nat 2600822924 (t / 4294967296) (by decide) (by omega); rw [ez13, Nat.mod_eq_of_lt (by omega)]; simpa using this
          have Hz12 := Lib.hid ez12
          have Hz13 := Lib.hid ez13
          clear ez12 ez13
          go_upto_if 84 with (fail)
          have hV5 : Blk ((wr.setCell ⟨gv, 12, none⟩ (.int .u32 (z12 : Int))).setCell ⟨gv, 13, none⟩ (.int .u32 (z13 : Int))) gv 82 (wcells (((st ++ Bl.iv).set 12 z12).set 13 z13)) := by
            rw [← wcells_set, ← wcells_set]; exact (hV.set 12 _).set 13 _
          have hM5 := (hM.far (p := ⟨gv, 12, none⟩) (by simp; omega) (.int .u32 (z12 : Int))).far (p := ⟨gv, 13, none⟩) (by simp; omega) (.int .u32 (z13 : Int))
          have hO5 := (hO.setCell (p := ⟨gv, 12, none⟩) (.inr (by simp; omega)) (.int .u32 (z12 : Int))).setCell (p := ⟨gv, 13, none⟩) (.inr (by simp; omega)) (.int .u32 (z13 : Int))
          clear c12 c13 f12 f13 x12 x13 hV hM hO
          revert hV5 hM5 hO5
          generalize World.setCell (World.setCell _ _ _) _ _ = W3
          intro hV5 hM5 hO5
          go_cut [] (fun wx => Blk wx gv 82 (wcells (Bl.vinit st t last)) ∧ Blk wx w.heap.size 82 (wcells (Bl.mws bs)) ∧ Only [] w wx)
          case first =>
            cases last
            · go_wp2
              go_meet
              have e : Bl.vinit st t false = ((st ++ Bl.iv).set 12 z12).set 13 z13 := by rw [Hz12.out, Hz13.out]; rfl
              exact ⟨by rw [e]; exact hV5, hM5, hO5⟩
            · have c14 : W3.cell? ⟨gv, 14, none⟩ = some (.int .u32 (528734635 : Int)) := by
                refine hV5.cellv (wcells_get ?_)
                rw [List.getElem?_set_ne (by decide), List.getElem?_set_ne (by decide)]
                exact iv_get hst.1 6 (by decide)
              have f14 := hV5.frozen 14
              have x14 : bits .xor .u32 528734635 4294967295 = ((528734635 ^^^ 4294967295 : Nat) : Int) := by decide +kernel
              go_wp2
              go_meet
              have e : Bl.vinit st t true = (((st ++ Bl.iv).set 12 z12).set 13 z13).set 14 (528734635 ^^^ 4294967295) := by rw [Hz12.out, Hz13.out]; rfl
              refine ⟨?_, hM5.far (p := ⟨gv, 14, none⟩) (by simp; omega) _, hO5.setCell (p := ⟨gv, 14, none⟩) (.inr (by simp; omega)) _⟩
              rw [e, ← wcells_set]
              exact hV5.set 14 _
          case rest =>
            clear hV5 hM5 hO5 Hz12 Hz13
            obtain ⟨hV6, hM6, hO6⟩ := hcut
            go_wp2
            go_loopw [89, 14, 15] (fun a _ _ wr => ∃ k : Nat, k ≤ 10 ∧ a = .int .i64 k ∧ Blk wr gv 82 (wcells (Bl.rounds (Bl.mws bs) k (Bl.vinit st t last))) ∧ Blk wr w.heap.size 82 (wcells (Bl.mws bs)) ∧ Only [] w wr) (fun a _ _ _ => 10 - (intOf a).toNat)
            case atStart => exact ⟨0, by omega, rfl, hV6, hM6, hO6⟩
            case round =>
              clear hV6 hM6 hO6
              obtain ⟨k, hk, rfl, hV, hM, hO⟩ := hrel
              by_cases hlt : k < 10
              · have hrow : ∀ j, j < ((Bl.tab.getD k []).map fun (n : Nat) => Value.int .u8 (n : Int)).length → wr.cell? ⟨1, k * 16 + j, none⟩ = ((Bl.tab.getD k []).map fun (n : Nat) => Value.int .u8 (n : Int))[j]? := by
                  intro j hj
                  have hj' : j < 16 := by rw [List.length_map, Bl.tab_len k hlt] at hj; exact hj
                  have hj2 : j < (Bl.tab.getD k []).length := by rw [Bl.tab_len k hlt]; exact hj'
                  rw [Nat.mul_comm, (hgl.keep hO (by simp) (by simp)).tab k j hlt hj', List.getElem?_map, List.getElem?_eq_getElem hj2, List.getD_eq_getElem?_getD, List.getElem?_eq_getElem hj2]
                  rfl
                obtain ⟨row, Hrow⟩ : ∃ r, Hid (r = Bl.tab.getD k []) := ⟨_, rfl⟩
                rw [← Hrow.out] at hrow
                have rl : ∀ j, row.getD j 0 < 16 := by rw [Hrow.out]; exact Bl.tab_lt k hlt
                have rlen : row.length = 16 := by rw [Hrow.out]; exact Bl.tab_len k hlt
                have hrs : (Tryd.prog.info? 83).map (·.size) = some (row.map fun (n : Nat) => Value.int .u8 (n : Int)).length := by rw [List.length_map, rlen]; exact arr16size
                have Rl := Lib.hid rl
                have Rlen := Lib.hid rlen
                have Rs := Lib.hid hrs
                have Rw := Lib.hid hrow
                clear rl rlen hrs hrow
                go_wp2_with (first | (refine wpl_load_at rfl 83 _ rfl 1 (k * 16) rfl (row.map fun (n : Nat) => Value.int .u8 (n : Int)) _ Tryd.underlying83 rfl Rs.out Rw.out ?_) | (refine wpl_store_all rfl 83 _ _ rfl wr.heap.size (row.map fun (n : Nat) => Value.int .u8 (n : Int)) rfl rfl 83 [.int .u8 0, .int .u8 0, .int .u8 0, .int .u8 0, .int .u8 0, .int .u8 0, .int .u8 0, .int .u8 0, .int .u8 0, .int .u8 0, .int .u8 0, .int .u8 0, .int .u8 0, .int .u8 0, .int .u8 0, .int .u8 0] (Blk.new wr _ _) (by rw [List.length_map, Rlen.out]; rfl) Rs.out ?h1 ?_; case h1 => (intro v hv; obtain ⟨b, _, rfl⟩ := List.mem_map.1 hv; rfl)); intro V0 hR0 hO0)
                go_frame
                have hV0 : Blk V0 gv 82 (wcells (Bl.rounds (Bl.mws bs) k (Bl.vinit st t last))) := (hV.alloc _).keep hO0 (by have := hV.lt; simp; omega)
                have hM0 : Blk V0 w.heap.size 82 (wcells (Bl.mws bs)) := (hM.alloc _).keep hO0 (by have := hM.lt; simp; omega)
                have hP0 : Only [] w V0 := (hO.alloc _).trans hO0 (by have := hO.size; simp; omega)
                have hvr : gv < wr.heap.size := hV.lt
                have hw0 := Bl.rounds_words (m := Bl.mws bs) (Bl.vinit_words (t := t) (last := last) hst) k
                revert hR0 hvr
                clear hO0
                generalize wr.heap.size = gr
                intro hR0 hvr
                obtain ⟨vs0, Hv0⟩ : ∃ v, Hid (v = Bl.rounds (Bl.mws bs) k (Bl.vinit st t last)) := ⟨_, rfl⟩
                rw [← Hv0.out] at hV0 hw0
                clear hV hM hO
                have hmw := Bl.mws_words bs
                obtain ⟨p0, Hp0⟩ : ∃ n, Hid (n = row.getD 0 0) := ⟨_, rfl⟩
                obtain ⟨q0, Hq0⟩ : ∃ n, Hid (n = row.getD 1 0) := ⟨_, rfl⟩
                obtain ⟨x0, Hx0⟩ : ∃ n, Hid (n = (Bl.mws bs).getD p0 0) := ⟨_, rfl⟩
                obtain ⟨y0, Hy0⟩ : ∃ n, Hid (n = (Bl.mws bs).getD q0 0) := ⟨_, rfl⟩
                have lp : p0 < 16 := by rw [Hp0.out]; exact Rl.out _
                have lq : q0 < 16 := by rw [Hq0.out]; exact Rl.out _
                have lp' : (p0 : Int) < 16 := by omega
                have lq' : (q0 : Int) < 16 := by omega
                have cp : V0.cell? ⟨gr, 0, none⟩ = some (.int .u8 (p0 : Int)) := hR0.cellv (by have := Rlen.out; rw [Hp0.out]; simp [this])
                have cq : V0.cell? ⟨gr, 1, none⟩ = some (.int .u8 (q0 : Int)) := hR0.cellv (by have := Rlen.out; rw [Hq0.out]; simp [this])
                have cx : V0.cell? ⟨w.heap.size, p0, none⟩ = some (.int .u32 (x0 : Int)) := hM0.cellv (wcells_get (by have := hmw.1; rw [Hx0.out]; simp [this, lp]))
                have cy : V0.cell? ⟨w.heap.size, q0, none⟩ = some (.int .u32 (y0 : Int)) := hM0.cellv (wcells_get (by have := hmw.1; rw [Hy0.out]; simp [this, lq]))
                go_still_tail 8, (by kernel_rfl)
                clear cp cq cx cy
                go_wp2_with (go_at_call 53; refine (mix_lane0 _ gv 82 vs0 x0 y0 hw0 hV0.drew).mono ?_; rintro e V1 ⟨rfl, hV1, hO1⟩)
                obtain ⟨vs1, Hv1⟩ : ∃ v, Hid (v = Bl.mixw vs0 0 4 8 12 x0 y0) := ⟨_, rfl⟩
                have hw1 : Bl.Words 16 vs1 := by rw [Hv1.out]; exact Bl.mixw_words hw0 _ _ _ _ _ _
                rw [← Hv1.out] at hV1
                have hP1 : Only [] w V1 := hP0.trans (Only.undrew (w := V0) hO1) (by simp; omega)
                have hM1 : Blk V1 w.heap.size 82 (wcells (Bl.mws bs)) := hM0.keep (Only.undrew (w := V0) hO1) (by simp; omega)
                have hR1 := hR0.keep (Only.undrew (w := V0) hO1) (by simp; omega)
                clear hO1 hP0 hM0 hR0 hV0 hw0 lp lq lp' lq'
                obtain ⟨p1, Hp1⟩ : ∃ n, Hid (n = row.getD 2 0) := ⟨_, rfl⟩
                obtain ⟨q1, Hq1⟩ : ∃ n, Hid (n = row.getD 3 0) := ⟨_, rfl⟩
                obtain ⟨x1, Hx1⟩ : ∃ n, Hid (n = (Bl.mws bs).getD p1 0) := ⟨_, rfl⟩
                obtain ⟨y1, Hy1⟩ : ∃ n, Hid (n = (Bl.mws bs).getD q1 0) := ⟨_, rfl⟩
                have lp : p1 < 16 := by rw [Hp1.out]; exact Rl.out _
                have lq : q1 < 16 := by rw [Hq1.out]; exact Rl.out _
                have lp' : (p1 : Int) < 16 := by omega
                have lq' : (q1 : Int) < 16 := by omega
                have cp : V1.cell? ⟨gr, 2, none⟩ = some (.int .u8 (p1 : Int)) := hR1.cellv (by have := Rlen.out; rw [Hp1.out]; simp [this])
                have cq : V1.cell? ⟨gr, 3, none⟩ = some (.int .u8 (q1 : Int)) := hR1.cellv (by have := Rlen.out; rw [Hq1.out]; simp [this])
                have cx : V1.cell? ⟨w.heap.size, p1, none⟩ = some (.int .u32 (x1 : Int)) := hM1.cellv (wcells_get (by have := hmw.1; rw [Hx1.out]; simp [this, lp]))
                have cy : V1.cell? ⟨w.heap.size, q1, none⟩ = some (.int .u32 (y1 : Int)) := hM1.cellv (wcells_get (by have := hmw.1; rw [Hy1.out]; simp [this, lq]))
                go_still_tail 8, (by kernel_rfl)
                clear cp cq cx cy
                go_wp2_with (go_at_call 53; refine (mix_lane1 _ gv 82 vs1 x1 y1 hw1 hV1.drew).mono ?_; rintro e V2 ⟨rfl, hV2, hO2⟩)
                obtain ⟨vs2, Hv2⟩ : ∃ v, Hid (v = Bl.mixw vs1 1 5 9 13 x1 y1) := ⟨_, rfl⟩
                have hw2 : Bl.Words 16 vs2 := by rw [Hv2.out]; exact Bl.mixw_words hw1 _ _ _ _ _ _
                rw [← Hv2.out] at hV2
                have hP2 : Only [] w V2 := hP1.trans (Only.undrew (w := V1) hO2) (by simp; omega)
                have hM2 : Blk V2 w.heap.size 82 (wcells (Bl.mws bs)) := hM1.keep (Only.undrew (w := V1) hO2) (by simp; omega)
                have hR2 := hR1.keep (Only.undrew (w := V1) hO2) (by simp; omega)
                clear hO2 hP1 hM1 hR1 hV1 hw1 lp lq lp' lq'
                obtain ⟨p2, Hp2⟩ : ∃ n, Hid (n = row.getD 4 0) := ⟨_, rfl⟩
                obtain ⟨q2, Hq2⟩ : ∃ n, Hid (n = row.getD 5 0) := ⟨_, rfl⟩
                obtain ⟨x2, Hx2⟩ : ∃ n, Hid (n = (Bl.mws bs).getD p2 0) := ⟨_, rfl⟩
                obtain ⟨y2, Hy2⟩ : ∃ n, Hid (n = (Bl.mws bs).getD q2 0) := ⟨_, rfl⟩
                have lp : p2 < 16 := by rw [Hp2.out]; exact Rl.out _
                have lq : q2 < 16 := by rw [Hq2.out]; exact Rl.out _
                have lp' : (p2 : Int) < 16 := by omega
                have lq' : (q2 : Int) < 16 := by omega
                have cp : V2.cell? ⟨gr, 4, none⟩ = some (.int .u8 (p2 : Int)) := hR2.cellv (by have := Rlen.out; rw [Hp2.out]; simp [this])
                have cq : V2.cell? ⟨gr, 5, none⟩ = some (.int .u8 (q2 : Int)) := hR2.cellv (by have := Rlen.out; rw [Hq2.out]; simp [this])
                have cx : V2.cell? ⟨w.heap.size, p2, none⟩ = some (.int .u32 (x2 : Int)) := hM2.cellv (wcells_get (by have := hmw.1; rw [Hx2.out]; simp [this, lp]))
                have cy : V2.cell? ⟨w.heap.size, q2, none⟩ = some (.int .u32 (y2 : Int)) := hM2.cellv (wcells_get (by have := hmw.1; rw [Hy2.out]; simp [this, lq]))
                go_still_tail 8, (by kernel_rfl)
                clear cp cq cx cy
                go_wp2_with (go_at_call 53; refine (mix_lane2 _ gv 82 vs2 x2 y2 hw2 hV2.drew).mono ?_; rintro e V3 ⟨rfl, hV3, hO3⟩)
                obtain ⟨vs3, Hv3⟩ : ∃ v, Hid (v = Bl.mixw vs2 2 6 10 14 x2 y2) := ⟨_, rfl⟩
                have hw3 : Bl.Words 16 vs3 := by rw [Hv3.out]; exact Bl.mixw_words hw2 _ _ _ _ _ _
                rw [← Hv3.out] at hV3
                have hP3 : Only [] w V3 := hP2.trans (Only.undrew (w := V2) hO3) (by simp; omega)
                have hM3 : Blk V3 w.heap.size 82 (wcells (Bl.mws bs)) := hM2.keep (Only.undrew (w := V2) hO3) (by simp; omega)
                have hR3 := hR2.keep (Only.undrew (w := V2) hO3) (by simp; omega)
                clear hO3 hP2 hM2 hR2 hV2 hw2 lp lq lp' lq'
                obtain ⟨p3, Hp3⟩ : ∃ n, Hid (n = row.getD 6 0) := ⟨_, rfl⟩
                obtain ⟨q3, Hq3⟩ : ∃ n, Hid (n = row.getD 7 0) := ⟨_, rfl⟩
                obtain ⟨x3, Hx3⟩ : ∃ n, Hid (n = (Bl.mws bs).getD p3 0) := ⟨_, rfl⟩
                obtain ⟨y3, Hy3⟩ : ∃ n, Hid (n = (Bl.mws bs).getD q3 0) := ⟨_, rfl⟩
                have lp : p3 < 16 := by rw [Hp3.out]; exact Rl.out _
                have lq : q3 < 16 := by rw [Hq3.out]; exact Rl.out _
                have lp' : (p3 : Int) < 16 := by omega
                have lq' : (q3 : Int) < 16 := by omega
                have cp : V3.cell? ⟨gr, 6, none⟩ = some (.int .u8 (p3 : Int)) := hR3.cellv (by have := Rlen.out; rw [Hp3.out]; simp [this])
                have cq : V3.cell? ⟨gr, 7, none⟩ = some (.int .u8 (q3 : Int)) := hR3.cellv (by have := Rlen.out; rw [Hq3.out]; simp [this])
                have cx : V3.cell? ⟨w.heap.size, p3, none⟩ = some (.int .u32 (x3 : Int)) := hM3.cellv (wcells_get (by have := hmw.1; rw [Hx3.out]; simp [this, lp]))
                have cy : V3.cell? ⟨w.heap.size, q3, none⟩ = some (.int .u32 (y3 : Int)) := hM3.cellv (wcells_get (by have := hmw.1; rw [Hy3.out]; simp [this, lq]))
                go_still_tail 8, (by kernel_rfl)
                clear cp cq cx cy
                go_wp2_with (go_at_call 53; refine (mix_lane3 _ gv 82 vs3 x3 y3 hw3 hV3.drew).mono ?_; rintro e V4 ⟨rfl, hV4, hO4⟩)
                obtain ⟨vs4, Hv4⟩ : ∃ v, Hid (v = Bl.mixw vs3 3 7 11 15 x3 y3) := ⟨_, rfl⟩
                have hw4 : Bl.Words 16 vs4 := by rw [Hv4.out]; exact Bl.mixw_words hw3 _ _ _ _ _ _
                rw [← Hv4.out] at hV4
                have hP4 : Only [] w V4 := hP3.trans (Only.undrew (w := V3) hO4) (by simp; omega)
                have hM4 : Blk V4 w.heap.size 82 (wcells (Bl.mws bs)) := hM3.keep (Only.undrew (w := V3) hO4) (by simp; omega)
                have hR4 := hR3.keep (Only.undrew (w := V3) hO4) (by simp; omega)
                clear hO4 hP3 hM3 hR3 hV3 hw3 lp lq lp' lq'
                obtain ⟨p4, Hp4⟩ : ∃ n, Hid (n = row.getD 8 0) := ⟨_, rfl⟩
                obtain ⟨q4, Hq4⟩ : ∃ n, Hid (n = row.getD 9 0) := ⟨_, rfl⟩
                obtain ⟨x4, Hx4⟩ : ∃ n, Hid (n = (Bl.mws bs).getD p4 0) := ⟨_, rfl⟩
                obtain ⟨y4, Hy4⟩ : ∃ n, Hid (n = (Bl.mws bs).getD q4 0) := ⟨_, rfl⟩
                have lp : p4 < 16 := by rw [Hp4.out]; exact Rl.out _
                have lq : q4 < 16 := by rw [Hq4.out]; exact Rl.out _
                have lp' : (p4 : Int) < 16 := by omega
                have lq' : (q4 : Int) < 16 := by omega
                have cp : V4.cell? ⟨gr, 8, none⟩ = some (.int .u8 (p4 : Int)) := hR4.cellv (by have := Rlen.out; rw [Hp4.out]; simp [this])
                have cq : V4.cell? ⟨gr, 9, none⟩ = some (.int .u8 (q4 : Int)) := hR4.cellv (by have := Rlen.out; rw [Hq4.out]; simp [this])
                have cx : V4.cell? ⟨w.heap.size, p4, none⟩ = some (.int .u32 (x4 : Int)) := hM4.cellv (wcells_get (by have := hmw.1; rw [Hx4.out]; simp [this, lp]))
                have cy : V4.cell? ⟨w.heap.size, q4, none⟩ = some (.int .u32 (y4 : Int)) := hM4.cellv (wcells_get (by have := hmw.1; rw [Hy4.out]; simp [this, lq]))
                go_still_tail 8, (by kernel_rfl)
                clear cp cq cx cy
                go_wp2_with (go_at_call 53; refine (mix_lane4 _ gv 82 vs4 x4 y4 hw4 hV4.drew).mono ?_; rintro e V5 ⟨rfl, hV5, hO5⟩)
                obtain ⟨vs5, Hv5⟩ : ∃ v, Hid (v = Bl.mixw vs4 0 5 10 15 x4 y4) := ⟨_, rfl⟩
                have hw5 : Bl.Words 16 vs5 := by rw [Hv5.out]; exact Bl.mixw_words hw4 _ _ _ _ _ _
                rw [← Hv5.out] at hV5
                have hP5 : Only [] w V5 := hP4.trans (Only.undrew (w := V4) hO5) (by simp; omega)
                have hM5 : Blk V5 w.heap.size 82 (wcells (Bl.mws bs)) := hM4.keep (Only.undrew (w := V4) hO5) (by simp; omega)
                have hR5 := hR4.keep (Only.undrew (w := V4) hO5) (by simp; omega)
                clear hO5 hP4 hM4 hR4 hV4 hw4 lp lq lp' lq'
                obtain ⟨p5, Hp5⟩ : ∃ n, Hid (n = row.getD 10 0) := ⟨_, rfl⟩
                obtain ⟨q5, Hq5⟩ : ∃ n, Hid (n = row.getD 11 0) := ⟨_, rfl⟩
                obtain ⟨x5, Hx5⟩ : ∃ n, Hid (n = (Bl.mws bs).getD p5 0) := ⟨_, rfl⟩
                obtain ⟨y5, Hy5⟩ : ∃ n, Hid (n = (Bl.mws bs).getD q5 0) := ⟨_, rfl⟩
                have lp : p5 < 16 := by rw [Hp5.out]; exact Rl.out _
                have lq : q5 < 16 := by rw [Hq5.out]; exact Rl.out _
                have lp' : (p5 : Int) < 16 := by omega
                have lq' : (q5 : Int) < 16 := by omega
                have cp : V5.cell? ⟨gr, 10, none⟩ = some (.int .u8 (p5 : Int)) := hR5.cellv (by have := Rlen.out; rw [Hp5.out]; simp [this])
                have cq : V5.cell? ⟨gr, 11, none⟩ = some (.int .u8 (q5 : Int)) := hR5.cellv (by have := Rlen.out; rw [Hq5.out]; simp [this])
                have cx : V5.cell? ⟨w.heap.size, p5, none⟩ = some (.int .u32 (x5 : Int)) := hM5.cellv (wcells_get (by have := hmw.1; rw [Hx5.out]; simp [this, lp]))
                have cy : V5.cell? ⟨w.heap.size, q5, none⟩ = some (.int .u32 (y5 : Int)) := hM5.cellv (wcells_get (by have := hmw.1; rw [Hy5.out]; simp [this, lq]))
                go_still_tail 8, (by kernel_rfl)
                clear cp cq cx cy
                go_wp2_with (go_at_call 53; refine (mix_lane5 _ gv 82 vs5 x5 y5 hw5 hV5.drew).mono ?_; rintro e V6 ⟨rfl, hV6, hO6⟩)
                obtain ⟨vs6, Hv6⟩ : ∃ v, Hid (v = Bl.mixw vs5 1 6 11 12 x5 y5) := ⟨_, rfl⟩
                have hw6 : Bl.Words 16 vs6 := by rw [Hv6.out]; exact Bl.mixw_words hw5 _ _ _ _ _ _
                rw [← Hv6.out] at hV6
                have hP6 : Only [] w V6 := hP5.trans (Only.undrew (w := V5) hO6) (by simp; omega)
                have hM6 : Blk V6 w.heap.size 82 (wcells (Bl.mws bs)) := hM5.keep (Only.undrew (w := V5) hO6) (by simp; omega)
                have hR6 := hR5.keep (Only.undrew (w := V5) hO6) (by simp; omega)
                clear hO6 hP5 hM5 hR5 hV5 hw5 lp lq lp' lq'
                obtain ⟨p6, Hp6⟩ : ∃ n, Hid (n = row.getD 12 0) := ⟨_, rfl⟩
                obtain ⟨q6, Hq6⟩ : ∃ n, Hid (n = row.getD 13 0) := ⟨_, rfl⟩
                obtain ⟨x6, Hx6⟩ : ∃ n, Hid (n = (Bl.mws bs).getD p6 0) := ⟨_, rfl⟩
                obtain ⟨y6, Hy6⟩ : ∃ n, Hid (n = (Bl.mws bs).getD q6 0) := ⟨_, rfl⟩
                have lp : p6 < 16 := by rw [Hp6.out]; exact Rl.out _
                have lq : q6 < 16 := by rw [Hq6.out]; exact Rl.out _
                have lp' : (p6 : Int) < 16 := by omega
                have lq' : (q6 : Int) < 16 := by omega
                have cp : V6.cell? ⟨gr, 12, none⟩ = some (.int .u8 (p6 : Int)) := hR6.cellv (by have := Rlen.out; rw [Hp6.out]; simp [this])
                have cq : V6.cell? ⟨gr, 13, none⟩ = some (.int .u8 (q6 : Int)) := hR6.cellv (by have := Rlen.out; rw [Hq6.out]; simp [this])
                have cx : V6.cell? ⟨w.heap.size, p6, none⟩ = some (.int .u32 (x6 : Int)) := hM6.cellv (wcells_get (by have := hmw.1; rw [Hx6.out]; simp [this, lp]))
                have cy : V6.cell? ⟨w.heap.size, q6, none⟩ = some (.int .u32 (y6 : Int)) := hM6.cellv (wcells_get (by have := hmw.1; rw [Hy6.out]; simp [this, lq]))
                go_still_tail 8, (by kernel_rfl)
                clear cp cq cx cy
                go_wp2_with (go_at_call 53; refine (mix_lane6 _ gv 82 vs6 x6 y6 hw6 hV6.drew).mono ?_; rintro e V7 ⟨rfl, hV7, hO7⟩)
                obtain ⟨vs7, Hv7⟩ : ∃ v, Hid (v = Bl.mixw vs6 2 7 8 13 x6 y6) := ⟨_, rfl⟩
                have hw7 : Bl.Words 16 vs7 := by rw [Hv7.out]; exact Bl.mixw_words hw6 _ _ _ _ _ _
                rw [← Hv7.out] at hV7
                have hP7 : Only [] w V7 := hP6.trans (Only.undrew (w := V6) hO7) (by simp; omega)
                have hM7 : Blk V7 w.heap.size 82 (wcells (Bl.mws bs)) := hM6.keep (Only.undrew (w := V6) hO7) (by simp; omega)
                have hR7 := hR6.keep (Only.undrew (w := V6) hO7) (by simp; omega)
                clear hO7 hP6 hM6 hR6 hV6 hw6 lp lq lp' lq'
                obtain ⟨p7, Hp7⟩ : ∃ n, Hid (n = row.getD 14 0) := ⟨_, rfl⟩
                obtain ⟨q7, Hq7⟩ : ∃ n, Hid (n = row.getD 15 0) := ⟨_, rfl⟩
                obtain ⟨x7, Hx7⟩ : ∃ n, Hid (n = (Bl.mws bs).getD p7 0) := ⟨_, rfl⟩
                obtain ⟨y7, Hy7⟩ : ∃ n, Hid (n = (Bl.mws bs).getD q7 0) := ⟨_, rfl⟩
                have lp : p7 < 16 := by rw [Hp7.out]; exact Rl.out _
                have lq : q7 < 16 := by rw [Hq7.out]; exact Rl.out _
                have lp' : (p7 : Int) < 16 := by omega
                have lq' : (q7 : Int) < 16 := by omega
                have cp : V7.cell? ⟨gr, 14, none⟩ = some (.int .u8 (p7 : Int)) := hR7.cellv (by have := Rlen.out; rw [Hp7.out]; simp [this])
                have cq : V7.cell? ⟨gr, 15, none⟩ = some (.int .u8 (q7 : Int)) := hR7.cellv (by have := Rlen.out; rw [Hq7.out]; simp [this])
                have cx : V7.cell? ⟨w.heap.size, p7, none⟩ = some (.int .u32 (x7 : Int)) := hM7.cellv (wcells_get (by have := hmw.1; rw [Hx7.out]; simp [this, lp]))
                have cy : V7.cell? ⟨w.heap.size, q7, none⟩ = some (.int .u32 (y7 : Int)) := hM7.cellv (wcells_get (by have := hmw.1; rw [Hy7.out]; simp [this, lq]))
                go_still_tail 8, (by kernel_rfl)
                clear cp cq cx cy
                go_wp2_with (go_at_call 53; refine (mix_lane7 _ gv 82 vs7 x7 y7 hw7 hV7.drew).mono ?_; rintro e V8 ⟨rfl, hV8, hO8⟩)
                obtain ⟨vs8, Hv8⟩ : ∃ v, Hid (v = Bl.mixw vs7 3 4 9 14 x7 y7) := ⟨_, rfl⟩
                have hw8 : Bl.Words 16 vs8 := by rw [Hv8.out]; exact Bl.mixw_words hw7 _ _ _ _ _ _
                rw [← Hv8.out] at hV8
                have hP8 : Only [] w V8 := hP7.trans (Only.undrew (w := V7) hO8) (by simp; omega)
                have hM8 : Blk V8 w.heap.size 82 (wcells (Bl.mws bs)) := hM7.keep (Only.undrew (w := V7) hO8) (by simp; omega)
                have hR8 := hR7.keep (Only.undrew (w := V7) hO8) (by simp; omega)
                clear hO8 hP7 hM7 hR7 hV7 hw7 lp lq lp' lq'
                go_roundw
                case rel =>
                  refine ⟨k + 1, by omega, by go_num, ?_, hM8, hP8⟩
                  have e : Bl.rounds (Bl.mws bs) (k + 1) (Bl.vinit st t last) = vs8 := by
                    rw [Hv8.out, Hv7.out, Hv6.out, Hv5.out, Hv4.out, Hv3.out, Hv2.out, Hv1.out, Hv0.out]
                    rw [Hx0.out, Hy0.out, Hp0.out, Hq0.out, Hx1.out, Hy1.out, Hp1.out, Hq1.out, Hx2.out, Hy2.out, Hp2.out, Hq2.out, Hx3.out, Hy3.out, Hp3.out, Hq3.out, Hx4.out, Hy4.out, Hp4.out, Hq4.out, Hx5.out, Hy5.out, Hp5.out, Hq5.out, Hx6.out, Hy6.out, Hp6.out, Hq6.out, Hx7.out, Hy7.out, Hp7.out, Hq7.out, Hrow.out]
                    rfl
                  rw [e]
                  exact hV8
                case measure => simp [intOf]; omega
              · obtain rfl : k = 10 := by omega
                rw [show ((10 : Nat) : Int) = 10 from rfl]
                clear hlt hk
                have hvw := Bl.rounds_words (m := Bl.mws bs) (Bl.vinit_words (t := t) (last := last) hst) 10
                have hcomp : Bl.comp st bs t last = (List.range 8).map fun i => st.getD i 0 ^^^ ((Bl.rounds (Bl.mws bs) 10 (Bl.vinit st t last)).getD i 0 ^^^ (Bl.rounds (Bl.mws bs) 10 (Bl.vinit st t last)).getD (i + 8) 0) := rfl
                obtain ⟨vf, Hvf⟩ : ∃ v, Hid (v = Bl.rounds (Bl.mws bs) 10 (Bl.vinit st t last)) := ⟨_, rfl⟩
                rw [← Hvf.out] at hV hvw hcomp
                have Hcomp := Lib.hid hcomp
                clear hcomp hM
                have hH9 := hH.keep hO (by simp)
                go_wp2
                go_loopw [168, 16] (fun a _ wr => ∃ k : Nat, k ≤ 8 ∧ a = .int .i64 k ∧ Blk wr gv 82 (wcells vf) ∧ Blk wr gh tH (hcells (fillTo 8 (fun i => st.getD i 0 ^^^ (vf.getD i 0 ^^^ vf.getD (i + 8) 0)) (fun i => st.getD i 0) k) blk fill before written) ∧ Only [gh] w wr) (fun a _ _ => 8 - (intOf a).toNat)
                case atStart =>
                  refine ⟨0, by omega, rfl, hV, ?_, hO.mono (by simp)⟩
                  rw [fillTo_zero, range_getD hst.1]
                  exact hH9
                case round =>
                  clear hV hH9 hO
                  obtain ⟨k, hk, rfl, hV, hH9, hO⟩ := hrel
                  by_cases hlt : k < 8
                  · obtain ⟨sv, Hs⟩ : ∃ n, Hid (n = st.getD k 0) := ⟨_, rfl⟩
                    obtain ⟨v1, Hv1⟩ : ∃ n, Hid (n = vf.getD k 0) := ⟨_, rfl⟩
                    obtain ⟨v2, Hv2⟩ : ∃ n, Hid (n = vf.getD (k + 8) 0) := ⟨_, rfl⟩
                    have ls : sv < 4294967296 := by rw [Hs.out]; exact hst.getD _
                    have lv1 : v1 < 4294967296 := by rw [Hv1.out]; exact hvw.getD _
                    have lv2 : v2 < 4294967296 := by rw [Hv2.out]; exact hvw.getD _
                    obtain ⟨z, Hz⟩ : ∃ n, Hid (n = v1 ^^^ v2) := ⟨_, rfl⟩
                    obtain ⟨z', Hz'⟩ : ∃ n, Hid (n = sv ^^^ z) := ⟨_, rfl⟩
                    have xz : bits .xor .u32 (v1 : Int) (v2 : Int) = (z : Int) := by rw [Hz.out]; exact u32_xor_nat _ _ lv1 lv2
                    have xz' : bits .xor .u32 (sv : Int) (z : Int) = (z' : Int) := by rw [Hz'.out]; exact u32_xor_nat _ _ ls (by rw [Hz.out]; exact Bl.xor_lt _ _ lv1 lv2)
                    have cs : wr.cell? ⟨gh, 1 + k, none⟩ = some (.int .u32 (sv : Int)) := hH9.cellv (by
                      rw [hcells_st (by simp) hlt, List.getD_eq_getElem?_getD, fillTo_get hlt, if_neg (by omega), Hs.out]; rfl)
                    have c1 : wr.cell? ⟨gv, k, none⟩ = some (.int .u32 (v1 : Int)) := hV.cellv (wcells_get (by rw [Hv1.out]; exact wget hvw (by omega)))
                    have c2 : wr.cell? ⟨gv, k + 8, none⟩ = some (.int .u32 (v2 : Int)) := hV.cellv (wcells_get (by rw [Hv2.out]; exact wget hvw (by omega)))
                    have fz := hH9.frozen (1 + k)
                    have i1 : (k : Int) < 16 := by omega
                    have i2 : (k : Int) + 8 < 16 := by omega
                    have i3 : 0 ≤ (k : Int) + 8 := by omega
                    have i4 : (k : Int) < 8 := by omega
                    have w1 : IntKind.i64.wrap ((k : Int) + 8) = (k : Int) + 8 := IntWalk.i64_in _ (by omega)
                    have t1 : ((k : Int) + 8).toNat = k + 8 := by omega
                    go_wp2
                    go_still_tail 18, (by kernel_rfl)
                    go_wp2
                    go_roundw
                    case rel =>
                      refine ⟨k + 1, by omega, by go_num, (hV.far (p := ⟨gh, 1 + k, none⟩) (by simp; omega) _).drew, ?_, (hO.setCell (p := ⟨gh, 1 + k, none⟩) (.inl (by simp)) _).drew⟩
                      have e : (z' : Int) = ((st.getD k 0 ^^^ (vf.getD k 0 ^^^ vf.getD (k + 8) 0) : Nat) : Int) := by rw [Hz'.out, Hz.out, Hs.out, Hv1.out, Hv2.out]
                      rw [e, ← fillTo_set hlt, ← hcells_set (by simp) hlt]
                      exact (hH9.set (1 + k) _).drew
                    case measure => simp [intOf]; omega
                  · obtain rfl : k = 8 := by omega
                    rw [fillTo_all, ← Hcomp.out] at hH9
                    go_wp2
                    go_end0
                    exact ⟨rfl, hH9, hO⟩
end Go.Proofs.YtglbgocldenooaaDoor
