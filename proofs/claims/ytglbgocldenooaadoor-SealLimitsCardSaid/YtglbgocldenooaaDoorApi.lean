/-
  THE WALKS of the other functions of package blake: hashOf, Sum, Keyed, New, valid, Write, (*Hash).Sum, Len, Copy.
-/
import Derived.Test.YtglbgocldenooaaDoorFinish
import Derived.WalkSpells
namespace Go.Proofs.YtglbgocldenooaaDoor
open Go.RowKit

theorem HS.lt {w : World} {gh nk wt : Nat} {M : List UInt8} (h : HS w gh nk M wt) : gh < w.heap.size := by obtain ⟨_, _, ⟨_, hb, _⟩, _⟩ := h; exact hb.lt
theorem HS.keep {S : List Nat} {w w' : World} {gh nk wt : Nat} {M : List UInt8} (h : HS w gh nk M wt) (ho : Only S w w') (hn : gh ∉ S) : HS w' gh nk M wt := by
  obtain ⟨f, q, ⟨b, hb, r⟩, hz⟩ := h
  exact ⟨f, q, ⟨b, hb.keep ho hn, r⟩, hz⟩
theorem HS.made {w : World} {gh nk wt : Nat} {M : List UInt8} (h : HS w gh nk M wt) : w.cell? ⟨gh, 0, none⟩ = some (.bool true) := by
  obtain ⟨f, q, ⟨b, hb, r⟩, hz⟩ := h
  exact hb.cellv rfl
theorem HS.written {w : World} {gh nk wt : Nat} {M : List UInt8} (h : HS w gh nk M wt) (hn : nk ≤ 32) : w.cell? ⟨gh, 75, none⟩ = some (.int .i64 (wt : Int)) := by
  obtain ⟨f, q, ⟨b, hb, hl, r⟩, hz⟩ := h
  exact hb.cellv (hcells_tail (Bl.stq_words hn q).1 hl 2)

theorem RB.low {w : World} {A : Option Addr} {bs : List UInt8} (h : RB w A bs) {g : Nat} (hg : w.heap.size ≤ g) : 0 < bs.length → ∀ p, A = some p → p.block ≠ g := by
  intro h0 p hp
  obtain ⟨g', o, h1, h2, _⟩ := h h0
  rw [h1] at hp
  injection hp with hp
  subst hp
  simp
  omega

set_option maxHeartbeats 1000000 in
set_option maxRecDepth 100000 in
theorem hashOf_any (w : World) (A : Option Addr) (c : Nat) (key : List UInt8) (hk : key.length ≤ 32) (hc : key.length ≤ c) (hr : RB w A key) (hgl : Gl w)
    (gp : Nat) (B : Option Addr) (d : Nat) (b : List UInt8) (hgp : gp < w.heap.size) (hcp : w.cell? ⟨gp, 0, none⟩ = some (.slice B b.length d)) (hd : b.length ≤ d) (hrb : RB w B b) (hbl : b.length ≤ 2305843009213693952) :
    Calls Tryd.prog 39 #[.slice A key.length c, .slice (some ⟨gp, 0, none⟩) 1 1] w fun e w' => e = .returned (.agg (cellsOf (Bl.hash key b)).toArray) ∧ Only [] w w' := by
  have Hcp := Lib.hid hcp
  clear hcp
  have hkb : (Bl.kblock key).length ≤ 64 := by unfold Bl.kblock; split <;> simp; omega
  have hl32 : (cellsOf (Bl.hash key b)).length = 32 := by simp
  have hs32 : (Tryd.prog.info? 24).map (·.size) = some (cellsOf (Bl.hash key b)).length := by rw [hl32]; exact arr32size
  have Hs32 := Lib.hid hs32
  have Hl32 := Lib.hid hl32
  clear hl32 hs32
  go_enter Tryd.func39, Tryd.ntmps39
  go_upto_region 1 with (fail)
  have hR1 := Blk.new w 24 (List.replicate 32 (Value.int .u8 0))
  have hO1 := (Only.refl [] w).alloc (.cells (List.replicate 32 (Value.int .u8 0)).toArray 24)
  have hs1 : (w.alloc (.cells (List.replicate 32 (Value.int .u8 0)).toArray 24)).heap.size = w.heap.size + 1 := by simp
  revert hR1 hO1 hs1
  simp only [List.replicate_succ, List.replicate_zero]
  generalize World.alloc _ _ = W1
  intro hR1 hO1 hs1
  have hs1' : w.heap.size < W1.heap.size := by omega
  clear hs1
  have hsz := hgl.sz
  go_wp2_with (first
    | (go_at_call 42; refine (start_any W1 A c key hk hc (hr.keep0 hO1) (hgl.keep hO1 (by simp) (by simp))).mono ?_; rintro e W2 ⟨rfl, hS2, hO2⟩; have hO2' := hO1.trans' hO2; have hR2 := hR1.keep hO2 (by simp); have hl2 := hS2.lt; clear hO1 hR1 hO2)
    | (go_at_call 44; refine (absorb_any W2 W1.heap.size key.length (Bl.kblock key) b 0 gp d B hS2 (by omega) (by omega) ((hO2'.cell (p := ⟨gp, 0, none⟩) hgp (by simp)).trans Hcp.out) hd (hrb.keep0 hO2') (hrb.low (by omega)) hk (by omega) (by omega) (hgl.keep hO2' (by simp) (by simp)) (by omega)).mono ?_; rintro e W3 ⟨rfl, hS3, hO3⟩; have hO3' := hO2'.trans hO3 (by simp; omega); have hR3 := hR2.keep hO3 (by simp; omega); clear hS2 hO2' hR2 hO3)
    | (go_at_call 45; refine (finish_any W3 W1.heap.size key.length (Bl.kblock key ++ b) _ hS3 hk (by simp; omega) (hgl.keep hO3' (by simp) (by simp)) (by omega)).mono ?_; rintro e W4 ⟨rfl, hO4⟩; have hO4' := hO3'.trans hO4 (by simp; omega); have hR4 := hR3.keep hO4 (by simp; omega); clear hS3 hO3' hR3 hO4)
    | (refine wpl_store_all rfl 24 _ _ rfl w.heap.size (cellsOf (Bl.hash key b)) rfl rfl 24 _ hR4 (by rw [Hl32.out]; rfl) Hs32.out cellsOf_one ?_; intro W5 hR5 hO5))
  exact bodyPost_ret (results_cell_row rfl _ _ w.heap.size 24 (cellsOf (Bl.hash key b)).toArray (0, 0) _ rfl hR5 Tryd.underlying24 rfl (by simpa using Hs32.out)) rfl ⟨rfl, hO4'.trans hO5 (by simp)⟩

/-- The world behind 'T{x}' as the one part of a call. -/
theorem part_new (w : World) (t : TypeId) (v : Value) : (w.alloc (.cells #[v] t)).cell? ⟨w.heap.size, 0, none⟩ = some v := (Blk.new w t [v]).cellv rfl

set_option maxHeartbeats 1000000 in
theorem sum_any (w : World) (B : Option Addr) (d : Nat) (b : List UInt8) (hd : b.length ≤ d) (hrb : RB w B b) (hbl : b.length ≤ 2305843009213693952) (hgl : Gl w) :
    Calls Tryd.prog 17 #[.slice B b.length d] w fun e w' => e = .returned (.agg (cellsOf (Bl.hash [] b)).toArray) ∧ Only [] w w' := by
  have hl32 : (cellsOf (Bl.hash [] b)).length = 32 := by simp
  have hs32 : (Tryd.prog.info? 24).map (·.size) = some (cellsOf (Bl.hash [] b)).length := by rw [hl32]; exact arr32size
  have Hs32 := Lib.hid hs32
  have Hl32 := Lib.hid hl32
  clear hl32 hs32
  go_enter Tryd.func17, Tryd.ntmps17
  go_upto_region 1 with (fail)
  have hR1 := Blk.new w 24 (List.replicate 32 (Value.int .u8 0))
  have hO1 := (Only.refl [] w).alloc (.cells (List.replicate 32 (Value.int .u8 0)).toArray 24)
  have hs1 : (w.alloc (.cells (List.replicate 32 (Value.int .u8 0)).toArray 24)).heap.size = w.heap.size + 1 := by simp
  revert hR1 hO1 hs1
  simp only [List.replicate_succ, List.replicate_zero]
  generalize World.alloc _ _ = W1
  intro hR1 hO1 hs1
  have hs1' : w.heap.size < W1.heap.size := by omega
  clear hs1
  go_wp2_with fail
  have hO2 := hO1.alloc (.cells #[.slice B b.length d] 22)
  refine (hashOf_any _ none 0 [] (by simp) (by simp) RB.nil (hgl.keep hO2 (by simp) (by simp)) W1.heap.size B d b (by simp) (part_new _ _ _) hd (hrb.keep0 hO2) hbl).mono ?_
  rintro e W2 ⟨rfl, hO3⟩
  have hR2 := (hR1.alloc (.cells #[.slice B b.length d] 22)).keep hO3 (by simp)
  have hO4 := hO2.trans' hO3
  go_wp2_with (refine wpl_store_all rfl 24 _ _ rfl w.heap.size (cellsOf (Bl.hash [] b)) rfl rfl 24 _ hR2 (by rw [Hl32.out]; rfl) Hs32.out cellsOf_one ?_; intro W5 hR5 hO5)
  exact bodyPost_ret (results_cell_row rfl _ _ w.heap.size 24 (cellsOf (Bl.hash [] b)).toArray (0, 0) _ rfl hR5 Tryd.underlying24 rfl (by simpa using Hs32.out)) rfl ⟨rfl, hO4.trans hO5 (by simp)⟩
end Go.Proofs.YtglbgocldenooaaDoor
