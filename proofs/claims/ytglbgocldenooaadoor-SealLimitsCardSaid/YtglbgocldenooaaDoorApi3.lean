/-
  THE WALKS of (*blake.Hash).Sum and Copy.
-/
import Derived.Test.YtglbgocldenooaaDoorApi2
namespace Go.Proofs.YtglbgocldenooaaDoor
open Go.RowKit

/-- The zero Hash's cells. -/
def zcH : List Value := [.bool false, .int .u32 0, .int .u32 0, .int .u32 0, .int .u32 0, .int .u32 0, .int .u32 0, .int .u32 0, .int .u32 0, .int .u8 0, .int .u8 0, .int .u8 0, .int .u8 0, .int .u8 0, .int .u8 0, .int .u8 0, .int .u8 0, .int .u8 0, .int .u8 0, .int .u8 0, .int .u8 0, .int .u8 0, .int .u8 0, .int .u8 0, .int .u8 0, .int .u8 0, .int .u8 0, .int .u8 0, .int .u8 0, .int .u8 0, .int .u8 0, .int .u8 0, .int .u8 0, .int .u8 0, .int .u8 0, .int .u8 0, .int .u8 0, .int .u8 0, .int .u8 0, .int .u8 0, .int .u8 0, .int .u8 0, .int .u8 0, .int .u8 0, .int .u8 0, .int .u8 0, .int .u8 0, .int .u8 0, .int .u8 0, .int .u8 0, .int .u8 0, .int .u8 0, .int .u8 0, .int .u8 0, .int .u8 0, .int .u8 0, .int .u8 0, .int .u8 0, .int .u8 0, .int .u8 0, .int .u8 0, .int .u8 0, .int .u8 0, .int .u8 0, .int .u8 0, .int .u8 0, .int .u8 0, .int .u8 0, .int .u8 0, .int .u8 0, .int .u8 0, .int .u8 0, .int .u8 0, .int .i64 0, .int .u64 0, .int .i64 0]
theorem zeroH (w : World) : (zeroValue 48).run Tryd.prog w = .ok (.agg zcH.toArray) w := by kernel_rfl
theorem hashsize : (Tryd.prog.info? 48).map (·.size) = some 76 := by kernel_rfl
theorem hcells_one {st : List Nat} {blk : List UInt8} {a b c : Int} : ∀ v ∈ hcells st blk a b c, v.oneCell' = true := by
  intro v hv
  simp only [hcells, List.mem_cons, List.mem_append, List.mem_nil_iff, or_false] at hv
  rcases hv with rfl | hv | hv | rfl | rfl | rfl
  · rfl
  · exact wcells_one v hv
  · exact cellsOf_one v hv
  all_goals rfl
/-- A computation's block, as such. -/
theorem HS.block {w : World} {gh nk wt : Nat} {M : List UInt8} (h : HS w gh nk M wt) (hn : nk ≤ 32) : ∃ cs : List Value, Blk w gh 48 cs ∧ cs.length = 76 ∧ (∀ v ∈ cs, v.oneCell' = true) ∧ ∀ (w' : World) (g' : Nat), Blk w' g' 48 cs → HS w' g' nk M wt := by
  obtain ⟨f, q, ⟨b, hb, hl, r⟩, hz⟩ := h
  exact ⟨_, hb, hcells_length (Bl.stq_words hn q).1 hl, hcells_one, fun w' g' h' => ⟨f, q, ⟨b, h', hl, r⟩, hz⟩⟩

set_option maxHeartbeats 1000000 in
theorem copy_any (w : World) (gh nk : Nat) (M : List UInt8) (wt : Nat) (hS : HS w gh nk M wt) (hnk : nk ≤ 32) :
    Calls Tryd.prog 24 #[.pointer (some ⟨gh, 0, none⟩)] w fun e w' => e = .returned (.pointer (some ⟨w.heap.size, 0, none⟩)) ∧ HS w' w.heap.size nk M wt ∧ Only [] w w' := by
  obtain ⟨cs, hb, hl, h1, hmk⟩ := hS.block hnk
  have hs : (Tryd.prog.info? 48).map (·.size) = some cs.length := by rw [hl]; exact hashsize
  have Hs := Lib.hid hs
  have Hl := Lib.hid hl
  have H1 := Lib.hid h1
  have Hmk := Lib.hid hmk
  clear hs hl h1 hmk
  have hzz := zeroH
  go_enter Tryd.func24, Tryd.ntmps24
  go_wp2_with (first
    | (go_at_call 43; refine (valid_yes w gh hS.made).mono ?_; rintro e w' ⟨rfl, rfl⟩)
    | (refine wpl_load_at rfl 48 _ rfl gh 0 rfl cs _ Tryd.underlying48 rfl Hs.out (fun j _ => by rw [Nat.zero_add]; exact hb.cell j) ?_)
    | (refine wpl_store_all rfl 48 _ _ rfl w.heap.size cs rfl rfl 48 zcH (Blk.new w _ _) (by rw [Hl.out]; rfl) Hs.out H1.out ?_; intro W5 hR5 hO5))
  go_ret
  exact ⟨rfl, Hmk.out _ _ hR5, ((Only.refl [] w).alloc _).trans hO5 (by simp)⟩

set_option maxHeartbeats 1000000 in
theorem sumM_any (w : World) (gh nk : Nat) (M : List UInt8) (wt : Nat) (hS : HS w gh nk M wt) (hnk : nk ≤ 32) (hw2 : M.length ≤ 4611686018427387904) (hgl : Gl w) :
    Calls Tryd.prog 22 #[.pointer (some ⟨gh, 0, none⟩)] w fun e w' => e = .returned (.tuple #[.agg (cellsOf (Bl.hashM nk M)).toArray, .int .i64 0]) ∧ Only [] w w' := by
  obtain ⟨cs, hb, hl, h1, hmk⟩ := hS.block hnk
  have hs : (Tryd.prog.info? 48).map (·.size) = some cs.length := by rw [hl]; exact hashsize
  have hl32 : (cellsOf (Bl.hashM nk M)).length = 32 := by simp
  have hs32 : (Tryd.prog.info? 24).map (·.size) = some (cellsOf (Bl.hashM nk M)).length := by rw [hl32]; exact arr32size
  have Hs32 := Lib.hid hs32
  have Hl32 := Lib.hid hl32
  have Hs := Lib.hid hs
  have Hl := Lib.hid hl
  have H1 := Lib.hid h1
  have Hmk := Lib.hid hmk
  have hsz := hgl.sz
  clear hs hl h1 hmk hl32 hs32
  go_enter Tryd.func22, Tryd.ntmps22
  go_upto_region 1 with (fail)
  have hR1 := Blk.new w 24 (List.replicate 32 (Value.int .u8 0))
  have hO1 := (Only.refl [] w).alloc (.cells (List.replicate 32 (Value.int .u8 0)).toArray 24)
  have hs1 : (w.alloc (.cells (List.replicate 32 (Value.int .u8 0)).toArray 24)).heap.size = w.heap.size + 1 := by simp
  revert hR1 hO1 hs1
  simp only [List.replicate_succ, List.replicate_zero]
  generalize World.alloc _ _ = W1
  intro hR1 hO1 hs1
  have hs1' : w.heap.size < W1.heap.size := by omega
  clear hs1
  have hb1 := hb.keep hO1 (by simp)
  have hS1 := hS.keep hO1 (by simp)
  have hzz := zeroH
  go_wp2_with (first
    | (go_at_call 43; refine (valid_yes W1 gh hS1.made).mono ?_; rintro e w' ⟨rfl, rfl⟩)
    | (refine wpl_load_at rfl 48 _ rfl gh 0 rfl cs _ Tryd.underlying48 rfl Hs.out (fun j _ => by rw [Nat.zero_add]; exact hb1.cell j) ?_)
    | (refine wpl_store_all rfl 48 _ _ rfl W1.heap.size cs rfl rfl 48 zcH (Blk.new W1 _ _) (by rw [Hl.out]; rfl) Hs.out H1.out ?_; intro W5 hR5 hO5; have hO5' := (hO1.alloc _).trans hO5 (by simp; omega); have hRr := (hR1.alloc _).keep hO5 (by simp; omega); clear hO5)
    | (go_at_call 45; refine (finish_any W5 W1.heap.size nk M wt (Hmk.out _ _ hR5) hnk hw2 (hgl.keep hO5' (by simp) (by simp)) (by omega)).mono ?_; rintro e W6 ⟨rfl, hO6⟩; have hO6' := hO5'.trans hO6 (by simp; omega); have hR6 := hRr.keep hO6 (by simp; omega); clear hO6)
    | (refine wpl_store_all rfl 24 _ _ rfl w.heap.size (cellsOf (Bl.hashM nk M)) rfl rfl 24 _ hR6 (by rw [Hl32.out]; rfl) Hs32.out cellsOf_one ?_; intro W7 hR7 hO7))
  exact bodyPost_ret (results_row_tmp rfl _ _ w.heap.size 24 (cellsOf (Bl.hashM nk M)) _ rfl hR7 Tryd.underlying24 rfl Hs32.out) rfl ⟨rfl, hO6'.trans hO7 (by simp)⟩

set_option maxHeartbeats 1000000 in
theorem sumM_no (w : World) (v : Value) (h : NoHash w v) (hv : ∀ p, v = .pointer (some p) → p.block < w.heap.size) :
    Calls Tryd.prog 22 #[v] w fun e w' => e = .returned (.tuple #[zagg, .int .i64 1]) ∧ Only [] w w' := by
  have hs32 : (Tryd.prog.info? 24).map (·.size) = some (List.replicate 32 (Value.int .u8 0)).length := arr32size
  have Hs32 := Lib.hid hs32
  clear hs32
  go_enter Tryd.func22, Tryd.ntmps22
  go_upto_region 1 with (fail)
  have hR1 := Blk.new w 24 (List.replicate 32 (Value.int .u8 0))
  have hO1 := (Only.refl [] w).alloc (.cells (List.replicate 32 (Value.int .u8 0)).toArray 24)
  revert hR1 hO1
  simp only [List.replicate_succ, List.replicate_zero]
  generalize World.alloc _ _ = W1
  intro hR1 hO1
  have h' : NoHash W1 v := by
    rcases h with h | ⟨g, rfl, hc⟩
    · exact .inl h
    · exact .inr ⟨g, rfl, (hO1.cell (p := ⟨g, 0, none⟩) (hv _ rfl) (by simp)).trans hc⟩
  go_wp2_with (first
    | (go_at_call 43; refine (valid_no W1 v h').mono ?_; rintro e w' ⟨rfl, rfl⟩)
    | (refine wpl_build rfl 24 _ rfl zagg ?hb ?_; case hb => kernel_rfl) | (refine wpl_store_all rfl 24 _ _ rfl w.heap.size (List.replicate 32 (Value.int .u8 0)) rfl rfl 24 _ hR1 rfl Hs32.out zeros_one ?_; intro W5 hR5 hO5))
  exact bodyPost_ret (results_row_tmp rfl _ _ w.heap.size 24 (List.replicate 32 (Value.int .u8 0)) _ rfl hR5 Tryd.underlying24 rfl Hs32.out) rfl ⟨rfl, hO1.trans hO5 (by simp)⟩
end Go.Proofs.YtglbgocldenooaaDoor
