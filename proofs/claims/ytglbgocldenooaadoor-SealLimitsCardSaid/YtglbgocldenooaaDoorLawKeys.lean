/-
  THE WALK of the law BlakeKeys.
-/
import Derived.Test.YtglbgocldenooaaDoorLawSums
import Derived.Test.YtglbgocldenooaaDoorLawNone
namespace Go.Proofs.YtglbgocldenooaaDoor
open Go.RowKit

theorem hash_eq (key b : List UInt8) : Bl.hashM key.length (Bl.kblock key ++ b) = Bl.hash key b := rfl
theorem kblock_le (key : List UInt8) (hk : key.length ≤ 32) : (Bl.kblock key).length ≤ 64 := by unfold Bl.kblock; split <;> simp; omega
theorem z32size : (Tryd.prog.info? 24).map (·.size) = some z32.length := by kernel_rfl
theorem eq_zagg : ∀ w, (binOp .eql 24 (.agg z32.toArray) (.agg z32.toArray)).run Tryd.prog w = .ok (.bool true) w := fun w => by kernel_rfl

/-- A new block for 32 bytes. -/
theorem blk32 (w : World) : Blk (w.alloc (.cells (List.replicate 32 (Value.int .u8 0)).toArray 24)) w.heap.size 24 (List.replicate 32 (Value.int .u8 0)) := Blk.new w _ _
theorem Blk.rv {w : World} {g : Nat} {t : TypeId} {cs : List Value} (h : Blk w g t cs) : RV w (some ⟨g, 0, none⟩) cs := fun _ => ⟨_, 0, rfl, h.lt, fun j _ => by rw [Nat.zero_add]; exact h.cell j⟩

set_option maxHeartbeats 2000000 in
set_option maxRecDepth 100000 in
theorem blakeKeys_many (w : World) (A B : Option Addr) (c d : Nat) (key b : List UInt8) (h1 : (key.length : Int) ≤ 100) (h2 : (b.length : Int) ≤ 300) (h3 : (32 : Int) < (key.length : Int)) (hgl : Gl w) :
    Calls Tryd.prog 4 #[.slice A key.length c, .slice B b.length d] w fun e w' => e = .returned (.bool true) ∧ Only [] w w' := by
  have hz := z32size
  have Hz := Lib.hid hz
  clear hz
  have he := eq_zagg
  go_enter Tryd.func4, Tryd.ntmps4
  go_wp2_with (first
    | (go_at_call 19; refine (keyed_no w A key.length c _ (.inr (by omega))).mono ?_; rintro e w1 ⟨rfl, hO1⟩)
    | (refine wpl_store_all rfl 24 (.tmp 5) (.tmp 26) rfl w1.heap.size z32 rfl rfl 24 z32 ?hb rfl Hz.out zeros_one ?_
       case hb => refine Blk.new' w1 ?_; rfl
       intro w2 hB2 hO2
       have hO2' := (hO1.alloc _).trans hO2 (by have := hO1.size; simp; omega)
       clear hO1 hO2)
    | (go_at_call 20; refine (new_no w2 A key.length c h3).mono ?_; rintro e w' ⟨rfl, rfl⟩)
    | (refine wpl_wanted (by rfl) ?_; refine wpl_load_at rfl 24 (.tmp 5) rfl w1.heap.size 0 rfl z32 _ Tryd.underlying24 rfl Hz.out (fun j _ => by rw [Nat.zero_add]; exact hB2.cell j) ?_)
    | (refine wpl_wanted (by rfl) ?_; refine wpl_build rfl 24 _ rfl (.agg z32.toArray) ?hb ?_; case hb => kernel_rfl)
    | (go_at_call 16; refine (known_any _ (hgl.keep hO2' (by simp) (by simp))).mono ?_; rintro e w3 ⟨rfl, hO3⟩))
  go_ret
  exact ⟨rfl, hO2'.trans' hO3⟩

set_option maxHeartbeats 2000000 in
set_option maxRecDepth 100000 in
theorem blakeKeys_none (w : World) (A B : Option Addr) (c d : Nat) (b : List UInt8) (h2 : (b.length : Int) ≤ 300) (hd : b.length ≤ d) (hB : RV w B (cellsOf b)) (hgl : Gl w) :
    Calls Tryd.prog 4 #[.slice A 0 c, .slice B b.length d] w fun e w' => e = .returned (.bool true) ∧ Only [] w w' := by
  have hz := z32size
  have Hz := Lib.hid hz
  clear hz
  have he := eq_zagg
  have hsz := hgl.sz
  go_enter Tryd.func4, Tryd.ntmps4
  go_wp2_with (first
    | (go_at_call 19; refine (keyed_no w A 0 c _ (.inl (by omega))).mono ?_; rintro e w1 ⟨rfl, hO1⟩)
    | (refine wpl_store_all rfl 24 (.tmp 5) (.tmp 26) rfl w1.heap.size z32 rfl rfl 24 z32 ?hb rfl Hz.out zeros_one ?_
       case hb => refine Blk.new' w1 ?_; rfl
       intro w2 hB2 hO2
       have hO2' := (hO1.alloc _).trans hO2 (by have := hO1.size; simp; omega)
       have hs2 := hO2'.size
       have hl2 := hB2.lt
       clear hO1 hO2)
    | (go_at_call 20; refine (new_any w2 A c [] (by decide) (by simp) RB.nil (hgl.keep hO2' (by simp) (by simp))).mono ?_; rintro e w3 ⟨rfl, hS3, hO3⟩
       have hO3' := hO2'.trans' hO3
       have hB3 := hB2.keep hO3 (by simp)
       clear hB2 hO3)
    | (go_at_call 18; refine (hash_ref w3 A B c d [] b (by decide) RV.nil (hB.keep0 hO3') (by simp) hd (by omega)).mono ?_; rintro e w4 ⟨A4, c4, G4, rfl, hown4, hnew4, hO4⟩
       have hO4' := hO3'.trans' hO4
       have hS4 := hS3.keep hO4 (by simp)
       have hB4 := hB3.keep hO4 (by simp)
       have hl3 := hS3.lt
       clear hS3 hB3 hO4)
    | (go_at_call 21; refine (write_any w4 w2.heap.size 0 (Bl.kblock []) 0 B d b hS4 hd (hB.keep0 hO4').rb (hB.rb.low hs2) (by decide) (by omega) (by have := kblock_le [] (by decide); omega) (hgl.keep hO4' (by simp) (by simp)) (by omega)).mono ?_; rintro e w5 ⟨rfl, hS5, hO5⟩
       have hO5' := hO4'.trans hO5 (by simp; omega)
       have hB5 := hB4.keep hO5 (by simp; omega)
       have hown5 := hown4.keep hO5 (fun g hg => by have := hnew4 g hg; simp; omega)
       clear hS4 hB4 hO5 hown4)
    | (go_at_call 22; refine (sumM_any w5 w2.heap.size 0 _ _ hS5 (by decide) (by have := kblock_le [] (by decide); simp; omega) (hgl.keep hO5' (by simp) (by simp))).mono ?_; rintro e w6 ⟨rfl, hO6⟩
       have hO6' := hO5'.trans' hO6
       have hB6 := hB5.keep hO6 (by simp)
       have hown6 := hown5.keep hO6 (by simp)
       clear hO6 hB5 hown5 hS5)
    | (refine wpl_put32 rfl (.tmp 11) (.tmp 69) rfl w6.heap.size (Bl.hash [] b) rfl rfl (List.replicate 32 (Value.int .u8 0)) ?hb rfl (by simp) ?_
       case hb => exact Blk.new' w6 rfl
       intro w7 hB7 hO7))
  have hO7' : Only [] w w7 := (hO6'.alloc _).trans hO7 (by have := hO6'.size; simp; omega)
  have hB7' : Blk w7 w1.heap.size 24 z32 := (hB6.alloc _).keep hO7 (by have := hB6.lt; simp; omega)
  have hW7 : RV w7 A4 (cellsOf (Bl.hash [] b)) := ((hown6.keep ((Only.refl [] w6).alloc _) (by simp)).keep hO7 (fun g hg => by have := hown6.lt g hg; simp; omega)).reads
  have s1 := fun c => str_in0 (w := w7.drew) (n := 32) (c := c) hB7.rv.drew (by simp)
  have s2 := fun c => str_in0 (w := w7.drew) (n := 32) (c := c) hW7.drew (by simp)
  clear hB7 hO7 hB6 hown6 hO6'
  refine Reg.wp [] [.r 0, .r 1, .r 2, .r 3, .r 4, .r 5, .r 6, .r 7, .r 8, .r 9, .r 10, .r 11, .r 12] (by kernel_rfl) (by kernel_rfl) (fun d _ _ _ _ h => by cases d <;> exact h) ?_
  simp only [Reg.pick, List.getD_cons_succ, List.getD_cons_zero]
  iterate 13 (apply Reg.read; (· (intro t K hK; go_simp; (try go_ints); (try ((go_ite <;> go_prune); go_simp)); (try go_ints); exact hK _ rfl)); (· (intro K hK; go_simp; exact hK _ rfl)))
  refine Reg.fin ?_
  clear s1 s2
  go_wp2_with (first
    | (refine wpl_wanted (by rfl) ?_; refine wpl_load_at rfl 24 (.tmp 5) rfl w1.heap.size 0 rfl z32 _ Tryd.underlying24 rfl Hz.out (fun j _ => by rw [Nat.zero_add]; exact hB7'.cell j) ?_)
    | (refine wpl_wanted (by rfl) ?_; refine wpl_build rfl 24 _ rfl (.agg z32.toArray) ?hb ?_; case hb => kernel_rfl)
    | (go_at_call 16; refine (known_any _ ((hgl.keep hO7' (by simp) (by simp)).drew)).mono ?_; rintro e w8 ⟨rfl, hO8⟩))
  go_ret
  exact ⟨rfl, hO7'.trans' (Only.undrew (w := w7) hO8)⟩

set_option maxHeartbeats 2000000 in
set_option maxRecDepth 100000 in
theorem blakeKeys_some (w : World) (A B : Option Addr) (c d : Nat) (key b : List UInt8) (h1 : (1 : Int) ≤ (key.length : Int)) (h3 : (key.length : Int) ≤ 32) (h2 : (b.length : Int) ≤ 300) (hc : key.length ≤ c) (hd : b.length ≤ d) (hA : RV w A (cellsOf key)) (hB : RV w B (cellsOf b)) (hgl : Gl w) :
    Calls Tryd.prog 4 #[.slice A key.length c, .slice B b.length d] w fun e w' => e = .returned (.bool true) ∧ Only [] w w' := by
  have hsz := hgl.sz
  have h100 : (key.length : Int) ≤ 100 := by omega
  have hk0 : ((key.length : Int) == 0) = false := beq_eq_false_iff_ne.2 (by omega)
  go_enter Tryd.func4, Tryd.ntmps4
  go_wp2_with (first
    | (go_at_call 19; refine (keyed_any w A c key (by omega) (by omega) hc hA.rb B d b hd hB.rb (by omega) hgl).mono ?_; rintro e w1 ⟨rfl, hO1⟩)
    | (refine wpl_put32 rfl (.tmp 5) (.tmp 26) rfl w1.heap.size (Bl.hash key b) rfl rfl (List.replicate 32 (Value.int .u8 0)) ?hb rfl (by simp) ?_
       case hb => exact Blk.new' w1 rfl
       intro w2 hB2 hO2
       have hO2' := (hO1.alloc _).trans hO2 (by have := hO1.size; simp; omega)
       have hs2 := hO2'.size
       have hl2 := hB2.lt
       clear hO1 hO2)
    | (go_at_call 20; refine (new_any w2 A c key (by omega) hc (hA.keep0 hO2').rb (hgl.keep hO2' (by simp) (by simp))).mono ?_; rintro e w3 ⟨rfl, hS3, hO3⟩
       have hO3' := hO2'.trans' hO3
       have hB3 := hB2.keep hO3 (by simp)
       clear hB2 hO3)
    | (go_at_call 18; refine (hash_ref w3 A B c d key b (by omega) (hA.keep0 hO3') (hB.keep0 hO3') hc hd (by omega)).mono ?_; rintro e w4 ⟨A4, c4, G4, rfl, hown4, hnew4, hO4⟩
       have hO4' := hO3'.trans' hO4
       have hS4 := hS3.keep hO4 (by simp)
       have hB4 := hB3.keep hO4 (by simp)
       have hl3 := hS3.lt
       clear hS3 hB3 hO4)
    | (go_at_call 21; refine (write_any w4 w2.heap.size key.length (Bl.kblock key) 0 B d b hS4 hd (hB.keep0 hO4').rb (hB.rb.low hs2) (by omega) (by omega) (by have := kblock_le key (by omega); omega) (hgl.keep hO4' (by simp) (by simp)) (by omega)).mono ?_; rintro e w5 ⟨rfl, hS5, hO5⟩
       have hO5' := hO4'.trans hO5 (by simp; omega)
       have hB5 := hB4.keep hO5 (by simp; omega)
       have hown5 := hown4.keep hO5 (fun g hg => by have := hnew4 g hg; simp; omega)
       clear hS4 hB4 hO5 hown4)
    | (go_at_call 22; refine (sumM_any w5 w2.heap.size key.length _ _ hS5 (by omega) (by have := kblock_le key (by omega); simp; omega) (hgl.keep hO5' (by simp) (by simp))).mono ?_; rintro e w6 ⟨rfl, hO6⟩
       have hO6' := hO5'.trans' hO6
       have hB6 := hB5.keep hO6 (by simp)
       have hown6 := hown5.keep hO6 (by simp)
       clear hO6 hB5 hown5 hS5)
    | (refine wpl_put32 rfl (.tmp 11) (.tmp 69) rfl w6.heap.size (Bl.hash key b) rfl rfl (List.replicate 32 (Value.int .u8 0)) ?hb2 rfl (by simp) ?_
       case hb2 => exact Blk.new' w6 rfl
       intro w7 hB7 hO7))
  have hO7' : Only [] w w7 := (hO6'.alloc _).trans hO7 (by have := hO6'.size; simp; omega)
  have hB7' : Blk w7 w1.heap.size 24 (cellsOf (Bl.hash key b)) := (hB6.alloc _).keep hO7 (by have := hB6.lt; simp; omega)
  have hW7 : RV w7 A4 (cellsOf (Bl.hash key b)) := ((hown6.keep ((Only.refl [] w6).alloc _) (by simp)).keep hO7 (fun g hg => by have := hown6.lt g hg; simp; omega)).reads
  have s1 := fun c => str_in0 (w := w7.drew) (n := 32) (c := c) hB7.rv.drew (by simp)
  have s2 := fun c => str_in0 (w := w7.drew) (n := 32) (c := c) hW7.drew (by simp)
  clear hB7 hO7 hB6 hown6 hO6'
  refine Reg.wp [] [.r 0, .r 1, .r 2, .r 3, .r 4, .r 5, .r 6, .r 7, .r 8, .r 9, .r 10, .r 11, .r 12] (by kernel_rfl) (by kernel_rfl) (fun d _ _ _ _ h => by cases d <;> exact h) ?_
  simp only [Reg.pick, List.getD_cons_succ, List.getD_cons_zero]
  iterate 13 (apply Reg.read; (· (intro t K hK; go_simp; (try go_ints); (try ((go_ite <;> go_prune); go_simp)); (try go_ints); exact hK _ rfl)); (· (intro K hK; go_simp; exact hK _ rfl)))
  refine Reg.fin ?_
  clear s1 s2
  go_wp2
  have s1 := fun c => str_in0 (w := w7.drew.drew) (n := 32) (c := c) hB7'.rv.drew.drew (by simp)
  have s2 := fun c => str_in0 (w := w7.drew.drew) (n := 32) (c := c) hW7.drew.drew (by simp)
  refine Reg.wp [] [.r 0, .r 1, .r 2, .r 3, .r 4, .r 5, .r 6, .r 7, .r 8, .r 9, .e 10, .r 11, .r 12] (by kernel_rfl) (by kernel_rfl) (fun d _ _ _ _ h => by cases d <;> exact h) ?_
  simp only [Reg.pick, List.getD_cons_succ, List.getD_cons_zero]
  iterate 10 (apply Reg.read; (· (intro t K hK; go_simp; (try go_ints); (try ((go_ite <;> go_prune); go_simp)); (try go_ints); exact hK _ rfl)); (· (intro K hK; go_simp; exact hK _ rfl)))
  clear s1 s2
  refine Reg.eff ?_
  go_wp2_with (go_at_call 16; refine (known_any _ ((hgl.keep hO7' (by simp) (by simp)).drew.drew)).mono ?_; rintro e w8 ⟨rfl, hO8⟩)
  refine ⟨hO8, ?_⟩
  iterate 2 (apply Reg.read; (· (intro t K hK; go_simp; (try go_ints); (try ((go_ite <;> go_prune); go_simp)); (try go_ints); exact hK _ rfl)); (· (intro K hK; go_simp; exact hK _ rfl)))
  refine Reg.fin ?_
  go_wp2
  go_ret
  exact ⟨rfl, hO7'.trans' (Only.undrew (w := w7) (Only.undrew (w := w7.drew) hO8))⟩

set_option maxHeartbeats 1000000 in
theorem blakeKeys_any (w : World) (A B : Option Addr) (n c m d : Nat) (key b : List UInt8) (hn : n = key.length) (hm : m = b.length) (hc : n ≤ c) (hd : m ≤ d) (hA : RV w A (cellsOf key)) (hB : RV w B (cellsOf b)) (hgl : Gl w) :
    Calls Tryd.prog 4 #[.slice A n c, .slice B m d] w fun e w' => e = .returned (.bool true) ∧ Only [] w w' := by
  subst hn hm
  by_cases h1 : 100 < key.length
  · have h1I : (100 : Int) < (key.length : Int) := by omega
    go_enter Tryd.func4, Tryd.ntmps4
    go_wp2_with (go_at_call 16; refine (known_any w hgl).mono ?_; rintro e W1 ⟨rfl, hO1⟩)
    go_ret
    exact ⟨rfl, hO1⟩
  · by_cases h2 : 300 < b.length
    · have h1I : (key.length : Int) ≤ 100 := by omega
      have h2I : (300 : Int) < (b.length : Int) := by omega
      go_enter Tryd.func4, Tryd.ntmps4
      go_wp2_with (go_at_call 16; refine (known_any w hgl).mono ?_; rintro e W1 ⟨rfl, hO1⟩)
      go_ret
      exact ⟨rfl, hO1⟩
    · by_cases h3 : 32 < key.length
      · exact blakeKeys_many w A B c d key b (by omega) (by omega) (by omega) hgl
      · by_cases h4 : key.length = 0
        · rw [h4]
          exact blakeKeys_none w A B c d b (by omega) hd hB hgl
        · exact blakeKeys_some w A B c d key b (by omega) (by omega) (by omega) hc hd hA hB hgl
end Go.Proofs.YtglbgocldenooaaDoor
