/-
  THE WALK of the law BlakeSums.
-/
import Derived.Test.YtglbgocldenooaaDoorKnown
import Derived.Test.YtglbgocldenooaaDoorRef4
namespace Go.Proofs.YtglbgocldenooaaDoor
open Go.RowKit

theorem RV.rb {w : World} {A : Option Addr} {bs : List UInt8} (h : RV w A (cellsOf bs)) : RB w A bs := by
  intro h0
  obtain ⟨g, o, e, hg, hc⟩ := h (by simpa using h0)
  exact ⟨g, o, e, hg, fun j hj => by rw [hc j (by simpa using hj), cellsOf_getD hj]⟩
/-- string(b) in every world that a read may see. -/
theorem str_in {w : World} {A : Option Addr} {n c : Nat} {bs : List UInt8} (S : List Nat) (hr : RV w A (cellsOf bs)) (hn : n = bs.length) (hS : ∀ p, A = some p → p.block ∉ S) (t : { w' : World // Only S w w' }) :
    (convert 22 9 (.slice A n c)).run Tryd.prog (Reg.extS S w t) = .ok (.string ⟨bs.toArray⟩) (Reg.extS S w t) :=
  run_str Tryd.underlying22 Tryd.underlying5 Tryd.underlying9 hn (hr.keep t.2 hS)
theorem str_in0 {w : World} {A : Option Addr} {n c : Nat} {bs : List UInt8} (hr : RV w A (cellsOf bs)) (hn : n = bs.length) (t : { w' : World // Only [] w w' }) :
    (convert 22 9 (.slice A n c)).run Tryd.prog (Reg.extS [] w t) = .ok (.string ⟨bs.toArray⟩) (Reg.extS [] w t) := str_in [] hr hn (fun _ _ => by simp) t
theorem ownS_empty (w : World) (e : TypeId) : OwnS (w.alloc (.cells #[] e)) e (some ⟨w.heap.size, 0, none⟩) 0 [] (some w.heap.size) := by
  have h := OwnS.of_blk (Blk.new w e []) (by decide)
  exact h

set_option maxHeartbeats 1000000 in
set_option maxRecDepth 100000 in
theorem blakeSums_any (w : World) (A : Option Addr) (n c : Nat) (b : List UInt8) (hn : n = b.length) (hc : n ≤ c) (hr : RV w A (cellsOf b)) (hgl : Gl w) :
    Calls Tryd.prog 3 #[.slice A n c] w fun e w' => e = .returned (.bool true) ∧ Only [] w w' := by
  subst hn
  by_cases hle : b.length ≤ 400
  · have hnI : (b.length : Int) ≤ 400 := by omega
    have hs32 : (cellsOf (Bl.hash [] b)).length = 32 := by simp
    have Hs32 := Lib.hid hs32
    clear hs32
    go_enter Tryd.func3, Tryd.ntmps3
    go_wp2_with (first
      | (at_builtin; refine wpl_append8 rfl (.tmp 9) (.tmp 10) rfl (some ⟨w.heap.size, 0, none⟩) 0 0 [] (some w.heap.size) rfl rfl (ownS_empty w _) A b.length c b rfl rfl (hr.keep0 ((Only.refl [] w).alloc _)) (by simp; omega) ?_
         intro A1 c1 w1 G1 hown1 hO1 hG1
         have hO1' : Only [] w w1 := ((Only.refl [] w).alloc _).trans hO1 (by simp)
         rw [List.nil_append] at hown1
         have hc1 : b.length ≤ c1 := by simpa using hown1.le
         clear hO1 hG1)
      | (go_at_call 17; refine (sum_any w1 A1 c1 b hc1 hown1.reads.rb (by omega) (hgl.keep hO1' (by simp) (by simp))).mono ?_
         rintro e w2 ⟨rfl, hO2⟩
         have hown2 := hown1.keep hO2 (by simp)
         have hO2' := hO1'.trans' hO2
         clear hown1 hO2 hO1')
      | (refine wpl_put32 rfl (.tmp 4) (.tmp 13) rfl w2.heap.size (Bl.hash [] b) rfl rfl (List.replicate 32 (Value.int .u8 0)) ?hb rfl (by simp) ?_
         case hb => exact Blk.new' w2 rfl
         intro w3 hB3 hO3))
    have hO3' : Only [] w w3 := (hO2'.alloc _).trans hO3 (by have := hO2'.size; simp; omega)
    have hS3 : RV w3 A1 (cellsOf b) := ((hown2.keep ((Only.refl [] w2).alloc _) (by simp)).keep hO3 (fun g hg => by have := hown2.lt g hg; simp; omega)).reads
    have hH3 : RV w3 (some ⟨w2.heap.size, 0, none⟩) (cellsOf (Bl.hash [] b)) := fun _ => ⟨_, 0, rfl, hB3.lt, fun j _ => by rw [Nat.zero_add]; exact hB3.cell j⟩
    clear hB3 hO3 hown2 hO2'
    have s1 := fun c => str_in0 (w := w3.drew) (n := 32) (c := c) hH3.drew (by simp)
    refine Reg.wp [] [.r 0, .r 1, .r 2, .e 3, .r 4, .r 5, .r 6, .r 7, .r 8, .r 9, .r 10, .r 11, .r 12, .r 13, .e 14, .r 15, .r 16] (by kernel_rfl) (by kernel_rfl) (fun d _ _ _ _ h => by cases d <;> exact h) ?_
    simp only [Reg.pick, List.getD_cons_succ, List.getD_cons_zero]
    iterate 3 (apply Reg.read; (· (intro t K hK; go_simp; (try go_ints); (try ((go_ite <;> go_prune); go_simp)); (try go_ints); exact hK _ rfl)); (· (intro K hK; go_simp; exact hK _ rfl)))
    clear s1
    refine Reg.eff ?_
    go_wp2_with (go_at_call 18; refine (hash_ref w3.drew none A 0 c [] b (by decide) RV.nil (hr.keep0 hO3').drew (by decide) (by omega) (by omega)).mono ?_; rintro e w4 ⟨A4, c4, G4, rfl, hown4, hnew4, hO4⟩)
    refine ⟨hO4, ?_⟩
    have hO4' : Only [] w w4 := hO3'.trans' (Only.undrew (w := w3) hO4)
    have s2 := fun c => str_in0 (w := w4) (n := 32) (c := c) hown4.reads (by simp)
    have s3 := fun c => str_in0 (w := w4) (c := c) (hS3.keep0 (Only.undrew (w := w3) hO4)) rfl
    have s4 := fun c => str_in0 (w := w4) (c := c) (hr.keep0 hO4') rfl
    iterate 10 (apply Reg.read; (· (intro t K hK; go_simp; (try go_ints); (try ((go_ite <;> go_prune); go_simp)); (try go_ints); exact hK _ rfl)); (· (intro K hK; go_simp; exact hK _ rfl)))
    clear s2 s3 s4
    refine Reg.eff ?_
    go_wp2_with (go_at_call 16; refine (known_any w4 (hgl.keep hO4' (by simp) (by simp))).mono ?_; rintro e w5 ⟨rfl, hO5⟩)
    refine ⟨hO5, ?_⟩
    iterate 2 (apply Reg.read; (· (intro t K hK; go_simp; (try go_ints); (try ((go_ite <;> go_prune); go_simp)); (try go_ints); exact hK _ rfl)); (· (intro K hK; go_simp; exact hK _ rfl)))
    refine Reg.fin ?_
    go_wp2
    go_ret
    exact ⟨rfl, hO4'.trans' hO5⟩
  · have hnI : (400 : Int) < (b.length : Int) := by omega
    go_enter Tryd.func3, Tryd.ntmps3
    go_wp2_with (go_at_call 16; refine (known_any w hgl).mono ?_; rintro e W1 ⟨rfl, hO1⟩)
    go_ret
    exact ⟨rfl, hO1⟩
end Go.Proofs.YtglbgocldenooaaDoor
