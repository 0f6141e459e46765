/-
  THE WALKS of seal.Derive and seal.tagOf.
-/
import Derived.Test.YtglbgocldenooaaDoorLawLong
import Derived.Test.YtglbgocldenooaaDoorLaws7
import Derived.Test.YtglbgocldenooaaDoorSealP
namespace Go.Proofs.YtglbgocldenooaaDoor
open Go.RowKit

set_option maxHeartbeats 1000000 in
theorem derive_any (w : World) (A : Option Addr) (ca : Nat) (key : List UInt8) (s : ByteArray) (label : List UInt8) (hk : key.length = 32) (hs : s.data.toList = label) (h1 : (1 : Int) ≤ (s.size : Int)) (h2 : (s.size : Int) ≤ 64) (hca : 32 ≤ ca) (hA : RV w A (cellsOf key)) (hgl : Gl w) :
    Calls Tryd.prog 26 #[.slice A 32 ca, .string s] w fun e w' => ∃ g, e = .returned (.tuple #[.slice (some ⟨g, 0, none⟩) 32 32, .int .i64 0]) ∧ Blk w' g 24 (cellsOf (Bl.hash key label)) ∧ w.heap.size ≤ g ∧ Only [] w w' := by
  have Hk := Lib.hid hk
  have Hs := Lib.hid hs
  have hsz : s.size = label.length := by rw [← hs, Array.length_toList]; rfl
  have Hsz := Lib.hid hsz
  have hll : label.length ≤ 64 := by omega
  clear hk hs hsz
  go_enter Tryd.func26, Tryd.ntmps26
  go_wp2_with (first
    | (refine wpl_bytes rfl 9 22 5 (.tmp 23) rfl Tryd.underlying9 Tryd.underlying22 Tryd.underlying5 s label rfl Hs.out ?_
       intro c1 w1 hc1 hR1 hO1)
    | (go_at_call 19; refine (keyed_at w1 A 32 ca key Hk.out.symm (by rw [Hk.out]; decide) (by rw [Hk.out]; decide) (by rw [Hk.out]; exact hca) (hA.keep0 hO1).rb _ label.length c1 label rfl hc1 hR1.rb (by omega) (hgl.keep hO1 (by simp) (by simp))).mono ?_
       rintro e w2 ⟨rfl, hO2⟩
       have hO2' := hO1.trans' hO2)
    | (refine wpl_put32 rfl (.tmp 6) (.tmp 26) rfl w2.heap.size (Bl.hash key label) rfl rfl (List.replicate 32 (Value.int .u8 0)) ?hb rfl (by simp) ?_
       case hb => exact Blk.new' w2 rfl
       intro w3 hB3 hO3))
  go_ret2
  exact ⟨_, rfl, hB3, hO2'.size, (hO2'.alloc _).trans hO3 (by have := hO2'.size; simp; omega)⟩

theorem derive_no (w : World) (A : Option Addr) (n ca : Nat) (s : ByteArray) (h : n ≠ 32 ∨ (s.size : Int) < 1 ∨ (64 : Int) < (s.size : Int)) :
    Calls Tryd.prog 26 #[.slice A n ca, .string s] w fun e w' => e = .returned (.tuple #[.slice none 0 0, .int .i64 2]) ∧ w = w' := by
  by_cases h1 : n = 32
  · subst h1
    rcases h with h | h | h
    · exact absurd rfl h
    · go_enter Tryd.func26, Tryd.ntmps26
      go_wp2
      go_ret2
      exact ⟨rfl, rfl⟩
    · have h' : (1 : Int) ≤ (s.size : Int) := by omega
      go_enter Tryd.func26, Tryd.ntmps26
      go_wp2
      go_ret2
      exact ⟨rfl, rfl⟩
  · have e1 : ((n : Int) == 32) = false := beq_eq_false_iff_ne.2 (by omega)
    have e2 : ((n : Int) != 32) = true := by rw [bne_iff_ne]; omega
    clear h
    go_enter Tryd.func26, Tryd.ntmps26
    go_wp2
    go_ret2
    exact ⟨rfl, rfl⟩

set_option maxHeartbeats 1000000 in
theorem tagOf_any (w : World) (A B : Option Addr) (ca n cb : Nat) (key body : List UInt8) (hk : key.length = 32) (hn : n = body.length) (hca : 32 ≤ ca) (hcb : n ≤ cb) (hbl : n ≤ 1000000) (hA : RV w A (cellsOf key)) (hB : RV w B (cellsOf body)) (hgl : Gl w) :
    Calls Tryd.prog 47 #[.slice A 32 ca, .slice B n cb] w fun e w' => ∃ g, e = .returned (.tuple #[.slice (some ⟨g, 0, none⟩) 16 32, .int .i64 0]) ∧ RV w' (some ⟨g, 0, none⟩) (cellsOf (Sl.tag key body)) ∧ w.heap.size ≤ g ∧ Only [] w w' := by
  have Hk := Lib.hid hk
  have Hn := Lib.hid hn
  clear hk hn
  go_enter Tryd.func47, Tryd.ntmps47
  go_wp2_with (first
    | (go_at_call 26; refine (derive_any w A ca key _ Sl.tagL Hk.out rfl (by decide) (by decide) hca hA hgl).mono ?_
       rintro e w1 ⟨g1, rfl, hB1, hg1, hO1⟩)
    | (go_at_call 19; refine (keyed_at w1 _ 32 32 (Bl.hash key Sl.tagL) (by simp) (by simp) (by simp) (by simp) hB1.rv.rb B n cb body Hn.out (by rw [← Hn.out]; exact hcb) (hB.keep0 hO1).rb (by rw [← Hn.out]; omega) (hgl.keep hO1 (by simp) (by simp))).mono ?_
       rintro e w2 ⟨rfl, hO2⟩
       have hO2' := hO1.trans' hO2)
    | (refine wpl_put32 rfl (.tmp 8) (.tmp 21) rfl w2.heap.size (Bl.hash (Bl.hash key Sl.tagL) body) rfl rfl (List.replicate 32 (Value.int .u8 0)) ?hb rfl (by simp) ?_
       case hb => exact Blk.new' w2 rfl
       intro w3 hB3 hO3))
  go_ret2
  refine ⟨_, rfl, ?_, hO2'.size, (hO2'.alloc _).trans hO3 (by have := hO2'.size; simp; omega)⟩
  intro _
  refine ⟨_, 0, rfl, hB3.lt, fun j hj => ?_⟩
  have hj' : j < 16 := by simpa using hj
  rw [Nat.zero_add, hB3.cell]
  unfold Sl.tag
  rw [cellsOf, cellsOf, List.map_take, List.getElem?_take, if_pos hj']
end Go.Proofs.YtglbgocldenooaaDoor
