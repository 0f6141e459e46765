/-
  THE WALK of the law BlakeLong.
-/
import Derived.Test.YtglbgocldenooaaDoorLawKeys
import Derived.Test.YtglbgocldenooaaDoorReg2
import Derived.Stop.BytesEq
namespace Go.Proofs.YtglbgocldenooaaDoor
open Go.RowKit

theorem write_at (w : World) (gh nk : Nat) (M : List UInt8) (wt : Nat) (B : Option Addr) (n d : Nat) (b : List UInt8) (hn : n = b.length) (hS : HS w gh nk M wt) (hd : n ≤ d) (hrb : RV w B (cellsOf b)) (hB : 0 < b.length → ∀ p, B = some p → p.block ≠ gh)
    (hnk : nk ≤ 32) (hw1 : wt + n ≤ 4611686018427387904) (hw2 : M.length + n ≤ 4611686018427387904) (hgl : Gl w) (hg2 : 2 ≤ gh) :
    Calls Tryd.prog 21 #[.pointer (some ⟨gh, 0, none⟩), .slice B n d] w fun e w' => e = .returned (.int .i64 0) ∧ HS w' gh nk (M ++ b) (wt + b.length) ∧ Only [gh] w w' := by
  subst hn
  exact write_any w gh nk M wt B d b hS hd hrb.rb hB hnk hw1 hw2 hgl hg2
theorem take_more {α : Type} (b : List α) (x e : Nat) (h : x ≤ e) : b.take x ++ (b.drop x).take (e - x) = b.take e := by
  rw [← List.take_add]
  congr 1
  omega
theorem eq_arr (bs : List UInt8) (hb : bs.length = 32) : ∀ w, (binOp .eql 24 (.agg (cellsOf bs).toArray) (.agg (cellsOf bs).toArray)).run Tryd.prog w = .ok (.bool true) w := by
  intro w
  have h := run_eql_bytes (P := Tryd.prog) w 24 5 32 Tryd.underlying24 Tryd.underlying5 (fun w => by kernel_rfl) bs bs hb hb
  rw [beq_self_eq_true] at h
  exact h

set_option maxHeartbeats 2000000 in
set_option maxRecDepth 100000 in
theorem blakeLong_in (w : World) (N P : Nat) (fill : UInt8) (hN : (N : Int) ≤ 3000) (hP1 : (1 : Int) ≤ (P : Int)) (hP2 : (P : Int) ≤ 200) (hgl : Gl w) :
    Calls Tryd.prog 5 #[.int .i64 (N : Int), .int .i64 (P : Int), .int .u8 (fill.toNat : Int)] w fun e w' => e = .returned (.bool true) ∧ Only [] w w' := by
  have hsz := hgl.sz
  go_enter Tryd.func5, Tryd.ntmps5
  go_wp2
  go_loopw [7, 8] (fun b i wr => ∃ (k : Nat) (A : Option Addr) (c : Nat) (G : Option Nat), k ≤ N ∧ i = .int .i64 k ∧ b = .slice A k c ∧ OwnS wr 5 A c (cellsOf (List.replicate k fill)) G ∧ New w G ∧ Only [] w wr) (fun _ i _ => N - (intOf i).toNat)
  case atStart => exact ⟨0, none, 0, none, by omega, rfl, rfl, OwnS.none _ _, New.none _, Only.refl _ _⟩
  case round =>
    obtain ⟨k, A, c, G, hk, rfl, rfl, hown, hnew, hO⟩ := hrel
    by_cases hlt : k < N
    · have hltI : (k : Int) < (N : Int) := by omega
      go_wp2_with (at_builtin; refine wpl_append8 rfl (.tmp 36) (.tmp 38) rfl A k c _ G rfl (by simp) (hown.keep ((Only.refl [] wr).alloc _) (by simp)) (some ⟨wr.heap.size, 0, none⟩) 1 1 [fill] rfl rfl (RV.one wr _ _) (by simp; omega) ?_; intro A' c' w2 G' hown2 hO2 hG2)
      go_roundw
      case rel =>
        refine ⟨k + 1, A', c', G', by omega, by go_num, rfl, ?_, hnew.next (Nat.le_trans hO.size (by simp)) hG2, (hO.alloc _).trans hO2 hnew.out⟩
        rw [List.replicate_succ']
        exact hown2
      case measure => simp [intOf]; omega
    · obtain rfl : k = N := by omega
      clear hlt hk
      obtain ⟨b, hb⟩ : ∃ b, b = List.replicate k fill := ⟨_, rfl⟩
      rw [← hb] at hown
      have hbl : b.length = k := by rw [hb]; simp
      have Hb := Lib.hid hb
      have Hbl := Lib.hid hbl
      have hRb : RV wr A (cellsOf b) := hown.reads
      have hAb : ∀ g o, A = some ⟨g, o, none⟩ → o = 0 ∧ w.heap.size ≤ g ∧ g < wr.heap.size := by
        intro g o hA
        rcases hown with h | ⟨g', r, h1, h2, h3, _⟩
        · rw [h.1] at hA; cases hA
        · rw [h1] at hA
          injection hA with hA
          injection hA with e1 e2
          subst e1 e2
          exact ⟨rfl, hnew g' h2, h3.lt⟩
      have HAb := Lib.hid hAb
      have hkc : k ≤ c := by rw [← hbl]; simpa using hown.le
      clear hb hbl hAb
      go_wp2_with (go_at_call 20; refine (new_any wr none 0 [] (by decide) (by simp) RB.nil (hgl.keep hO (by simp) (by simp))).mono ?_; rintro e w3 ⟨rfl, hS3, hO3⟩)
      have hO3' := hO.trans' hO3
      have hl3 := hS3.lt
      have hws := hO.size
      obtain ⟨gh, Hgh⟩ : ∃ g, Hid (g = wr.heap.size) := ⟨_, rfl⟩
      rw [← Hgh.out]
      rw [← Hgh.out] at hS3
      obtain ⟨wb, rfl⟩ : ∃ wb : World, wb = wr := ⟨_, rfl⟩
      go_loopw [11, 12] (fun a _ wr => ∃ (x : Nat), a = .int .i64 (x : Int) ∧ x ≤ k + P ∧ HS wr gh 0 (Bl.kblock [] ++ b.take x) (b.take x).length ∧ Only [gh] w3 wr) (fun a _ _ => k + 1 + P - (intOf a).toNat)
      case atStart => exact ⟨0, rfl, by omega, by simpa using hS3, Only.refl _ _⟩
      case round =>
        obtain ⟨x, rfl, hx, hS, hOr⟩ := hrel
        by_cases hlt : x < k
        · have hltI : (x : Int) < (k : Int) := by omega
          have hxc : ¬ c = x := by omega
          obtain ⟨g, o, rfl, hg, hcells⟩ := hRb (by rw [cellsOf_length, Hbl.out]; omega)
          obtain ⟨rfl, hgw, hgb⟩ := HAb.out g o rfl
          have hgg : g ≠ gh := by have := Hgh.out; omega
          have hR1 : RV wr (some ⟨g, 0, none⟩) (cellsOf b) := (hRb.keep0 hO3).keep hOr (fun p hp => by injection hp with hp; subst hp; simpa using hgg)
          have hR2 := fun n => RV.slice rfl hR1 x n
          simp only [Nat.zero_add, ← List.map_drop, ← List.map_take, cellsOf] at hR2
          have HR2 := Lib.hid hR2
          have hgl' : Gl wr := (hgl.keep hO3' (by simp) (by simp)).keep hOr (by have := Hgh.out; simp; omega) (by have := Hgh.out; simp; omega)
          have htl : (b.take x).length = x := by rw [List.length_take, Hbl.out]; omega
          have hkb : (Bl.kblock []).length = 0 := rfl
          have Htl := Lib.hid htl
          have hgh2 : 2 ≤ gh := by have := Hgh.out; omega
          clear hR1 hcells hR2 htl hkb
          by_cases hc : k < x + P
          · have hcI : (k : Int) < (x : Int) + (P : Int) := by omega
            go_wp2_with (go_at_call 21; refine (write_at wr gh 0 _ _ _ _ _ ((b.drop x).take (k - x)) ?hn hS ?hd (HR2.out _) ?hB (by decide) ?h1 ?h2 hgl' hgh2).mono ?_
                         case hn => rw [List.length_take, List.length_drop, Hbl.out]; omega
                         case hd => omega
                         case hB => intro _ p hp; injection hp with hp; subst hp; exact hgg
                         case h1 => rw [Htl.out]; omega
                         case h2 => rw [List.length_append, Htl.out]; have : (Bl.kblock []).length = 0 := rfl; omega
                         rintro e w4 ⟨rfl, hS4, hO4⟩)
            go_roundw
            case rel =>
              refine ⟨x + P, by go_num, by omega, ?_, hOr.trans' hO4⟩
              rw [List.append_assoc, ← List.length_append, take_more b x k (by omega)] at hS4
              have e1 : b.take (x + P) = b.take k := by rw [List.take_of_length_le (i := x + P) (by rw [Hbl.out]; omega), List.take_of_length_le (i := k) (by rw [Hbl.out]; omega)]
              rw [e1]
              exact hS4
            case measure => simp [intOf]; omega
          · have hcI : (x : Int) + (P : Int) ≤ (k : Int) := by omega
            go_wp2_with (go_at_call 21; refine (write_at wr gh 0 _ _ _ _ _ ((b.drop x).take P) ?hn2 hS ?hd2 (HR2.out _) ?hB2 (by decide) ?h12 ?h22 hgl' hgh2).mono ?_
                         case hn2 => rw [List.length_take, List.length_drop, Hbl.out]; omega
                         case hd2 => omega
                         case hB2 => intro _ p hp; injection hp with hp; subst hp; exact hgg
                         case h12 => rw [Htl.out]; omega
                         case h22 => rw [List.length_append, Htl.out]; have : (Bl.kblock []).length = 0 := rfl; omega
                         rintro e w4 ⟨rfl, hS4, hO4⟩)
            go_roundw
            case rel =>
              refine ⟨x + P, by go_num, by omega, ?_, hOr.trans' hO4⟩
              rw [List.append_assoc, ← List.length_append, ← List.take_add] at hS4
              exact hS4
            case measure => simp [intOf]; omega
        · have hltI : (k : Int) ≤ (x : Int) := by omega
          have hgh2 : 2 ≤ gh := by have := Hgh.out; omega
          have hgl' : Gl wr := (hgl.keep hO3' (by simp) (by simp)).keep hOr (by simp; omega) (by simp; omega)
          have htk : b.take x = b := List.take_of_length_le (by rw [Hbl.out]; omega)
          rw [htk] at hS
          have hRr : RV wr A (cellsOf b) := (hRb.keep0 hO3).keep hOr (fun p hp => by
            obtain ⟨g, o, s⟩ := p
            intro hm
            rcases hown with h | ⟨g', r, h1, h2, h3, _⟩
            · rw [h.1] at hp; cases hp
            · rw [h1] at hp
              injection hp with hp
              injection hp with e1 e2
              subst e1
              have := h3.lt
              have := Hgh.out
              simp at hm
              omega)
          have hO4 : Only [] w wr := hO3'.trans hOr (by have := Hgh.out; simp; omega)
          clear htk hown HAb
          go_wp2_with (first
            | (go_at_call 17; refine (sum_at wr A k c b Hbl.out.symm (by rw [Hbl.out]; exact hkc) hRr.rb (by rw [Hbl.out]; omega) hgl').mono ?_
               rintro e w5 ⟨rfl, hO5⟩
               have hS5 := hS.keep hO5 (by simp)
               have hO5' := hO4.trans' hO5)
            | (refine wpl_put32 rfl (.tmp 13) (.tmp 71) rfl w5.heap.size (Bl.hash [] b) rfl rfl (List.replicate 32 (Value.int .u8 0)) ?hb rfl (by simp) ?_
               case hb => exact Blk.new' w5 rfl
               intro w6 hB6 hO6
               have hO6' := (hO5'.alloc _).trans hO6 (by have := hO5'.size; simp; omega)
               have hS6 := (hS5.keep ((Only.refl [] w5).alloc _) (by simp)).keep hO6 (by have := hS5.lt; simp; omega))
            | (go_at_call 22; refine (sumM_any w6 gh 0 _ _ hS6 (by decide) (by rw [List.length_append, Hbl.out]; have : (Bl.kblock []).length = 0 := rfl; omega) (hgl.keep hO6' (by simp) (by simp))).mono ?_
               rintro e w7 ⟨rfl, hO7⟩
               have hO7' := hO6'.trans' hO7
               have hB7 := hB6.keep hO7 (by simp))
            | (refine wpl_put32 rfl (.tmp 14) (.tmp 75) rfl w7.heap.size (Bl.hash [] b) rfl rfl (List.replicate 32 (Value.int .u8 0)) ?hb2 rfl (by simp) ?_
               case hb2 => exact Blk.new' w7 rfl
               intro w8 hB8 hO8))
          have hO8' : Only [] w w8 := (hO7'.alloc _).trans hO8 (by have := hO7'.size; simp; omega)
          have hB8' : Blk w8 w5.heap.size 24 (cellsOf (Bl.hash [] b)) := (hB7.alloc _).keep hO8 (by have := hB7.lt; simp; omega)
          have hR8 : RV w8 A (cellsOf b) := by
            have h1 : Only [] wr w8 := by
              have h5 := (Only.refl [] wr).trans' hO5
              have h6 := (h5.alloc _).trans hO6 (S := []) (by have := hO5.size; simp; omega)
              have h7 := h6.trans' hO7
              exact (h7.alloc _).trans hO8 (by have := h7.size; simp; omega)
            exact hRr.keep0 h1
          have hh := eq_arr (Bl.hash [] b) (by simp)
          have hz : (Tryd.prog.info? 24).map (·.size) = some (cellsOf (Bl.hash [] b)).length := by rw [cellsOf_length, Bl.hash_length]; exact arr32size
          have Hz := Lib.hid hz
          clear hz hB7 hO8 hO7 hO6 hO5 hS5 hS6 hO7' hO6' hO5' hB6
          have s1 := fun c => str_in0 (w := w8.drew) (n := 32) (c := c) hB8'.rv.drew (by simp)
          refine Reg.wp [] [.r 0, .r 1, .r 2, .r 3, .r 4, .r 5, .r 6, .r 7, .r 8, .r 9, .r 10, .e 11, .r 12, .r 13, .r 14, .r 15, .e 16, .r 17, .r 18] (by kernel_rfl) (by kernel_rfl) (fun d _ _ _ _ h => by cases d <;> exact h) ?_
          simp only [Reg.pick, List.getD_cons_succ, List.getD_cons_zero]
          iterate 3 (apply Reg.read; (· (intro t K hK; go_simp; (try go_ints); (try ((go_ite <;> go_prune); go_simp)); (try go_ints); exact hK _ rfl)); (· (intro K hK; go_simp; exact hK _ rfl)))
          (apply Reg.load 24 (.tmp 13) w5.heap.size (cellsOf (Bl.hash [] b)) hB8'.drew (by simp) rfl rfl rfl Tryd.underlying24 rfl Hz.out; (· (intro K hK; go_simp; exact hK _ rfl)))
          (apply Reg.load 24 (.tmp 14) w7.heap.size (cellsOf (Bl.hash [] b)) hB8.drew (by simp) rfl rfl rfl Tryd.underlying24 rfl Hz.out; (· (intro K hK; go_simp; exact hK _ rfl)))
          iterate 6 (apply Reg.read; (· (intro t K hK; go_simp; (try go_ints); (try ((go_ite <;> go_prune); go_simp)); (try go_ints); exact hK _ rfl)); (· (intro K hK; go_simp; exact hK _ rfl)))
          clear s1 hh
          refine Reg.eff ?_
          go_wp2_with (go_at_call 18; rw [← Hbl.out]; refine (hash_ref w8.drew none A 0 c [] b (by decide) RV.nil hR8.drew (by decide) (by rw [Hbl.out]; exact hkc) (by rw [Hbl.out]; omega)).mono ?_; rintro e w9 ⟨A9, c9, G9, rfl, hown9, hnew9, hO9⟩)
          refine ⟨hO9, ?_⟩
          have hO9' : Only [] w w9 := hO8'.trans' (Only.undrew (w := w8) hO9)
          have s2 := fun c => str_in0 (w := w9) (n := 32) (c := c) hown9.reads (by simp)
          iterate 4 (apply Reg.read; (· (intro t K hK; go_simp; (try go_ints); (try ((go_ite <;> go_prune); go_simp)); (try go_ints); exact hK _ rfl)); (· (intro K hK; go_simp; exact hK _ rfl)))
          clear s2
          refine Reg.eff ?_
          go_wp2_with (go_at_call 16; refine (known_any w9 (hgl.keep hO9' (by simp) (by simp))).mono ?_; rintro e wa ⟨rfl, hOa⟩)
          refine ⟨hOa, ?_⟩
          iterate 2 (apply Reg.read; (· (intro t K hK; go_simp; (try go_ints); (try ((go_ite <;> go_prune); go_simp)); (try go_ints); exact hK _ rfl)); (· (intro K hK; go_simp; exact hK _ rfl)))
          refine Reg.fin ?_
          go_wp2
          go_ret
          exact ⟨rfl, hO9'.trans' hOa⟩

set_option maxHeartbeats 1000000 in
theorem blakeLong_any (w : World) (n p : Int) (fill : UInt8) (hgl : Gl w) :
    Calls Tryd.prog 5 #[.int .i64 n, .int .i64 p, .int .u8 (fill.toNat : Int)] w fun e w' => e = .returned (.bool true) ∧ Only [] w w' := by
  by_cases h1 : n < 0
  · go_enter Tryd.func5, Tryd.ntmps5
    go_wp2_with (go_at_call 16; refine (known_any w hgl).mono ?_; rintro e W1 ⟨rfl, hO1⟩)
    go_ret
    exact ⟨rfl, hO1⟩
  · by_cases h2 : 3000 < n
    · have h1' : 0 ≤ n := by omega
      go_enter Tryd.func5, Tryd.ntmps5
      go_wp2_with (go_at_call 16; refine (known_any w hgl).mono ?_; rintro e W1 ⟨rfl, hO1⟩)
      go_ret
      exact ⟨rfl, hO1⟩
    · by_cases h3 : p < 1
      · have h1' : 0 ≤ n := by omega
        have h2' : n ≤ 3000 := by omega
        go_enter Tryd.func5, Tryd.ntmps5
        go_wp2_with (go_at_call 16; refine (known_any w hgl).mono ?_; rintro e W1 ⟨rfl, hO1⟩)
        go_ret
        exact ⟨rfl, hO1⟩
      · by_cases h4 : 200 < p
        · have h1' : 0 ≤ n := by omega
          have h2' : n ≤ 3000 := by omega
          have h3' : 1 ≤ p := by omega
          go_enter Tryd.func5, Tryd.ntmps5
          go_wp2_with (go_at_call 16; refine (known_any w hgl).mono ?_; rintro e W1 ⟨rfl, hO1⟩)
          go_ret
          exact ⟨rfl, hO1⟩
        · obtain ⟨N, rfl⟩ := Int.eq_ofNat_of_zero_le (show 0 ≤ n by omega)
          obtain ⟨P, rfl⟩ := Int.eq_ofNat_of_zero_le (show 0 ≤ p by omega)
          exact blakeLong_in w N P fill (by omega) (by omega) (by omega) hgl
end Go.Proofs.YtglbgocldenooaaDoor
