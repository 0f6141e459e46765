/-
  THE WALK of the law BlakeNone.
-/
import Derived.Test.YtglbgocldenooaaDoorKnown
namespace Go.Proofs.YtglbgocldenooaaDoor
open Go.RowKit

def z32 : List Value := List.replicate 32 (Value.int .u8 0)
set_option maxHeartbeats 4000000 in
set_option maxRecDepth 100000 in
theorem blakeNone_any (w : World) (A : Option Addr) (n c : Nat) (hgl : Gl w) :
    Calls Tryd.prog 8 #[.slice A n c] w fun e w' => e = .returned (.bool true) ∧ Only [] w w' := by
  by_cases hn : n ≤ 100
  · have hnI : (n : Int) ≤ 100 := by omega
    go_enter Tryd.func8, Tryd.ntmps8
    go_wp2_with (refine wpl_build rfl 48 _ rfl (.agg zcH.toArray) ?hb ?_; case hb => kernel_rfl)
    have hO1 : Only [] w ((w.alloc (.cells zcH.toArray 48)).alloc (.cells #[Value.pointer none, Value.pointer (some ⟨w.heap.size, 0, none⟩)] 31)) := ((Only.refl [] w).alloc _).alloc _
    have hH1 : Blk ((w.alloc (.cells zcH.toArray 48)).alloc (.cells #[Value.pointer none, Value.pointer (some ⟨w.heap.size, 0, none⟩)] 31)) w.heap.size 48 zcH := (Blk.new w _ _).alloc _
    have hS1 : Blk ((w.alloc (.cells zcH.toArray 48)).alloc (.cells #[Value.pointer none, Value.pointer (some ⟨w.heap.size, 0, none⟩)] 31)) (w.heap.size + 1) 31 [Value.pointer none, Value.pointer (some ⟨w.heap.size, 0, none⟩)] := by
      have := Blk.new (w.alloc (.cells zcH.toArray 48)) 31 [Value.pointer none, Value.pointer (some ⟨w.heap.size, 0, none⟩)]
      simpa using this
    revert hO1 hH1 hS1
    generalize World.alloc _ _ = w1
    intro hO1 hH1 hS1
    obtain ⟨gH, HgH⟩ : ∃ g : Nat, Hid (g = w.heap.size) := ⟨_, Lib.hid rfl⟩
    obtain ⟨gS, HgS⟩ : ∃ g : Nat, Hid (g = w.heap.size + 1) := ⟨_, Lib.hid rfl⟩
    rw [← HgS.out, ← HgH.out] at hS1
    rw [← HgH.out] at hH1
    rw [← HgS.out, ← HgH.out]
    have key : ∀ k : Nat, k < 2 → ∃ v, w1.cell? ⟨gS, k, none⟩ = some v ∧ ∀ W, Only [] w1 W → NoHash W v ∧ (∀ p, v = .pointer (some p) → p.block < W.heap.size) := by
      intro k hk
      rcases (show k = 0 ∨ k = 1 by omega) with rfl | rfl
      · exact ⟨.pointer none, hS1.cell 0, fun W _ => ⟨.inl rfl, fun p h => by cases h⟩⟩
      · refine ⟨.pointer (some ⟨gH, 0, none⟩), hS1.cell 1, fun W hW => ⟨.inr ⟨gH, rfl, (hH1.keep hW (by simp)).cell 0⟩, fun p h => ?_⟩⟩
        injection h with h
        injection h with h
        subst h
        exact (hH1.keep hW (by simp)).lt
    have Key := Lib.hid key
    have hgS := hS1.lt
    clear key hS1 hH1
    have hne : ∀ w, (binOp .neq 24 (.agg z32.toArray) (.agg z32.toArray)).run Tryd.prog w = .ok (.bool false) w := fun w => by kernel_rfl
    have hz : (Tryd.prog.info? 24).map (·.size) = some z32.length := by kernel_rfl
    have Hz := Lib.hid hz
    clear hz
    go_loopw [18] (fun i wr => ∃ k : Nat, k ≤ 2 ∧ i = .int .i64 k ∧ Only [] w1 wr) (fun i _ => 2 - (intOf i).toNat)
    case atStart => exact ⟨0, by omega, rfl, Only.refl _ _⟩
    case round =>
      obtain ⟨k, hk, rfl, hO⟩ := hrel
      by_cases hlt : k < 2
      · have hltI : (k : Int) < 2 := by omega
        obtain ⟨v, hc0, hv⟩ := Key.out k hlt
        have hc : wr.cell? ⟨gS, k, none⟩ = some v := (hO.cell (p := ⟨gS, k, none⟩) hgS (by simp)).trans hc0
        have Hv := Lib.hid hv
        clear hv hc0
        go_wp2_with (first
          | (go_at_call 21; refine (write_no wr v _ (Hv.out wr hO).1).mono ?_; rintro e w' ⟨rfl, rfl⟩)
          | (go_at_call 22; refine (sumM_no wr v (Hv.out wr hO).1 (Hv.out wr hO).2).mono ?_; rintro e W2 ⟨rfl, hO2⟩; have hP2 := hO.trans' hO2; clear hO2)
          | (refine wpl_store_all rfl 24 (.tmp 7) (.tmp 28) rfl W2.heap.size z32 rfl rfl 24 z32 ?hb rfl Hz.out zeros_one ?_
             case hb => refine Blk.new' W2 ?_; rfl
             intro W3 hR3 hO3
             have hP3 := (hP2.alloc _).trans hO3 (by have := hP2.size; simp; omega)
             clear hO3)
          | (refine wpl_wanted (by rfl) ?_; refine wpl_load_at rfl 24 (.tmp 7) rfl W2.heap.size 0 rfl z32 _ Tryd.underlying24 rfl Hz.out (fun j _ => by rw [Nat.zero_add]; exact hR3.cell j) ?_)
          | (refine wpl_wanted (by rfl) ?_; refine wpl_build rfl 24 _ rfl (.agg z32.toArray) ?hb ?_; case hb => kernel_rfl)
          | (go_at_call 23; refine (len_no W3 v (Hv.out W3 hP3).1).mono ?_; rintro e w' ⟨rfl, rfl⟩)
          | (go_at_call 24; refine (copy_no W3 v (Hv.out W3 hP3).1).mono ?_; rintro e w' ⟨rfl, rfl⟩))
        go_roundw
        case rel => exact ⟨k + 1, by omega, by go_num, hP3⟩
        case measure => simp [intOf]; omega
      · obtain rfl : k = 2 := by omega
        rw [show ((2 : Nat) : Int) = 2 from rfl]
        have hP := hO1.trans' hO
        go_wp2_with (go_at_call 16; refine (known_any wr (hgl.keep hP (by simp) (by simp))).mono ?_; rintro e W1 ⟨rfl, hO2⟩)
        go_ret
        exact ⟨rfl, hP.trans' hO2⟩
  · have hnI : (100 : Int) < (n : Int) := by omega
    go_enter Tryd.func8, Tryd.ntmps8
    go_wp2_with (go_at_call 16; refine (known_any w hgl).mono ?_; rintro e W1 ⟨rfl, hO1⟩)
    go_ret
    exact ⟨rfl, hO1⟩
end Go.Proofs.YtglbgocldenooaaDoor
