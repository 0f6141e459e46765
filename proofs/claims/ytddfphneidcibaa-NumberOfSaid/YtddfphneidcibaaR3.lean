/-
  THE WALK of the reference's Of.
-/
import Derived.Test.YtddfphneidcibaaR2
namespace Go.Proofs.Ytddfphneidcibaa
open Go.RowKit
open Nm (W32)

set_option maxHeartbeats 4000000 in
set_option maxRecDepth 100000 in
theorem ofR_pos (w : World) (U : Nat) (hU : U ≤ 9223372036854775807) : Calls Try.prog 21 #[.int .i64 (U : Int)] w (RV1 w (U : Int)) := by
  have hO0 : Only [] w (w.alloc (.cells #[.bool false, .slice none 0 0] 24)) := (Only.refl [] w).alloc _
  have HU : Hid (U < 256 ^ 8) := Nat.lt_of_le_of_lt hU (by decide +kernel)
  have Hsg : Hid (sgn false U = (U : Int)) := rfl
  go_enter Try.func21, Try.ntmps21
  go_wp2
  go_loopw [3, 4, 5] (fun out m _ wr => ∃ (k V : Nat) (Ao : Option Addr) (co : Nat) (G : Option Nat), out = .slice Ao k co ∧ m = .int .i64 ((V : Int)) ∧ Hid (V = U / 256 ^ k) ∧ V ≤ 9223372036854775808 ∧ k ≤ 9 ∧ OwnS wr 5 Ao co (cN .u8 (Nm.pad 256 k U)) G ∧ New (w.alloc (.cells #[.bool false, .slice none 0 0] 24)) G ∧ Only [] (w.alloc (.cells #[.bool false, .slice none 0 0] 24)) wr) (fun out _ _ _ => 10 - lenV out)
  case atStart => exact ⟨0, U, none, 0, none, rfl, rfl, by unfold Hid; simp, by omega, by omega, OwnS.none _ _, New.none _, Only.refl _ _⟩
  case round =>
    obtain ⟨k, V, Ao, co, G, rfl, rfl, hV, hVb, hk9, hown, hnew, hO⟩ := hrel
    by_cases hV0 : V = 0
    · subst hV0
      have hUk : U < 256 ^ k := Nat.lt_of_not_le fun h => by have := Nat.div_pos h (Nat.pow_pos (by decide)); have := hV.out; omega
      have hle : k ≤ co := by have := hown.le; simpa using this
      have hR := hown.reads
      have hBr := (Blk.int0 w).keep hO (by simp)
      have hsz : w.heap.size < wr.heap.size := Nat.lt_of_lt_of_le (by simp) hO.size
      have HUk := Lib.hid hUk
      clear hUk hown hnew
      go_wp2_with (go_at_call 84
                   have hb := makeR_any wr false Ao k co U hle (by omega) HUk.out hR
                   rw [Hsg.out] at hb
                   refine hb.mono ?_
                   rintro e w9 ⟨s9, A9, n9, c9, rfl, hI9, hF9, hO9⟩
                   have hBr9 := hBr.keep hO9 (by simp)
                   obtain ⟨p0, p1, f0, f1⟩ := hBr9.two)
      exact bodyPost_ret (results_cell_row rfl _ _ w.heap.size 24 #[.bool s9, .slice A9 n9 c9] (0, 0) _ rfl (hBr9.put2 _ _) Try.underlying24 rfl isz) rfl (RV1.of rfl hI9 hF9 hsz (Nat.le_refl _) ((hO0.trans' hO).trans' hO9) (only_put2 _ _ _ _))
    · obtain ⟨r, Hr⟩ : ∃ r, Hid (r = V % 256) := ⟨_, rfl⟩
      obtain ⟨q, Hq⟩ : ∃ q, Hid (q = V / 256) := ⟨_, rfl⟩
      have hk8 : k < 8 := by
        apply Nat.lt_of_not_le
        intro h
        have h1 : U < 256 ^ k := Nat.lt_of_lt_of_le HU.out (Nat.pow_le_pow_right (by decide) h)
        exact hV0 (by rw [hV.out, Nat.div_eq_of_lt h1])
      have hq1 : q ≤ 9223372036854775808 := by have := Hq.out; omega
      have hr1 : (r : Int) < 256 := by have := Hr.out; omega
      have hchs : cN .u8 (Nm.pad 256 (k + 1) U) = cN .u8 (Nm.pad 256 k U) ++ cN .u8 [r] := by
        rw [Nm.pad_snoc, cN_append, Hr.out, hV.out]
      have Hchs := Lib.hid hchs
      have Hq2 : Hid (q = U / 256 ^ (k + 1)) := by unfold Hid; rw [Hq.out, hV.out, Nat.div_div_eq_div_mul, Nat.pow_succ]
      clear hchs
      have hV0b : ((V : Int) != 0) = true := by rw [bne_iff_ne]; omega
      have hrI : (V : Int) % 256 = (r : Int) := by have := Hr.out; omega
      have hqI : (V : Int) / 256 = (q : Int) := by have := Hq.out; omega
      have hVI : (V : Int) ≤ 9223372036854775807 := by have : V ≤ U := (by rw [hV.out]; exact Nat.div_le_self _ _); omega
      obtain ⟨wj, rfl⟩ : ∃ wj : World, wj = wr := ⟨_, rfl⟩
      go_wp2_with (at_builtin
                   refine wpl_app rfl (.tmp 17) (.tmp 20) 85 5 rfl (.int .u8 0) 1 Try.underlying85 info8 rfl Ao k co (cN .u8 (Nm.pad 256 k U)) G rfl (by simp) (hown.keep ((Only.refl [] wj).alloc _) (by simp)) (some ⟨wj.heap.size, 0, none⟩) 1 1 (cN .u8 [r]) rfl rfl (RV.new rfl) cN_one (by simp; omega) (by decide) ?_
                   intro A2 c2 w2 G2 hown2 hG2
                   rw [← Hchs.out] at hown2
                   have hx := only_app hG2
                   have hO2 := (hO.alloc (.cells #[.int .u8 ((r : Nat) : Int)] 5)).trans hx hnew.out
                   have hn2 : New (w.alloc (.cells #[.bool false, .slice none 0 0] 24)) G2 := by
                     rcases hG2 with ⟨e, _⟩ | ⟨e, _⟩
                     · rw [e]; exact hnew
                     · rw [e]; intro g hg; injection hg with hg; have := hO.size; simp at hg this; simp; omega
                   clear hG2 hx hown hnew hO)
      go_roundw
      case rel => exact ⟨k + 1, q, A2, c2, G2, rfl, rfl, Hq2, hq1, by omega, hown2, hn2, hO2⟩
      case measure => simp [lenV]; omega
set_option maxHeartbeats 4000000 in
set_option maxRecDepth 100000 in
theorem ofR_neg (w : World) (U : Nat) (hU0 : 0 < U) (hU : U ≤ 9223372036854775808) : Calls Try.prog 21 #[.int .i64 (-(U : Int))] w (RV1 w (-(U : Int))) := by
  have hO0 : Only [] w (w.alloc (.cells #[.bool false, .slice none 0 0] 24)) := (Only.refl [] w).alloc _
  have HU : Hid (U < 256 ^ 8) := Nat.lt_of_le_of_lt hU (by decide +kernel)
  have Hsg : Hid (sgn true U = -(U : Int)) := rfl
  have hUI : -(U : Int) < 0 := by omega
  go_enter Try.func21, Try.ntmps21
  go_wp2
  go_loopw [3, 4, 5] (fun out m _ wr => ∃ (k V : Nat) (Ao : Option Addr) (co : Nat) (G : Option Nat), out = .slice Ao k co ∧ m = .int .i64 (-(V : Int)) ∧ Hid (V = U / 256 ^ k) ∧ V ≤ 9223372036854775808 ∧ k ≤ 9 ∧ OwnS wr 5 Ao co (cN .u8 (Nm.pad 256 k U)) G ∧ New (w.alloc (.cells #[.bool false, .slice none 0 0] 24)) G ∧ Only [] (w.alloc (.cells #[.bool false, .slice none 0 0] 24)) wr) (fun out _ _ _ => 10 - lenV out)
  case atStart => exact ⟨0, U, none, 0, none, rfl, rfl, by unfold Hid; simp, by omega, by omega, OwnS.none _ _, New.none _, Only.refl _ _⟩
  case round =>
    obtain ⟨k, V, Ao, co, G, rfl, rfl, hV, hVb, hk9, hown, hnew, hO⟩ := hrel
    by_cases hV0 : V = 0
    · subst hV0
      have hUk : U < 256 ^ k := Nat.lt_of_not_le fun h => by have := Nat.div_pos h (Nat.pow_pos (by decide)); have := hV.out; omega
      have hle : k ≤ co := by have := hown.le; simpa using this
      have hR := hown.reads
      have hBr := (Blk.int0 w).keep hO (by simp)
      have hsz : w.heap.size < wr.heap.size := Nat.lt_of_lt_of_le (by simp) hO.size
      have HUk := Lib.hid hUk
      clear hUk hown hnew
      go_wp2_with (go_at_call 84
                   have hb := makeR_any wr true Ao k co U hle (by omega) HUk.out hR
                   rw [Hsg.out] at hb
                   refine hb.mono ?_
                   rintro e w9 ⟨s9, A9, n9, c9, rfl, hI9, hF9, hO9⟩
                   have hBr9 := hBr.keep hO9 (by simp)
                   obtain ⟨p0, p1, f0, f1⟩ := hBr9.two)
      exact bodyPost_ret (results_cell_row rfl _ _ w.heap.size 24 #[.bool s9, .slice A9 n9 c9] (0, 0) _ rfl (hBr9.put2 _ _) Try.underlying24 rfl isz) rfl (RV1.of rfl hI9 hF9 hsz (Nat.le_refl _) ((hO0.trans' hO).trans' hO9) (only_put2 _ _ _ _))
    · obtain ⟨r, Hr⟩ : ∃ r, Hid (r = V % 256) := ⟨_, rfl⟩
      obtain ⟨q, Hq⟩ : ∃ q, Hid (q = V / 256) := ⟨_, rfl⟩
      have hk8 : k < 8 := by
        apply Nat.lt_of_not_le
        intro h
        have h1 : U < 256 ^ k := Nat.lt_of_lt_of_le HU.out (Nat.pow_le_pow_right (by decide) h)
        exact hV0 (by rw [hV.out, Nat.div_eq_of_lt h1])
      have hq1 : q ≤ 9223372036854775808 := by have := Hq.out; omega
      have hr1 : (r : Int) < 256 := by have := Hr.out; omega
      have hchs : cN .u8 (Nm.pad 256 (k + 1) U) = cN .u8 (Nm.pad 256 k U) ++ cN .u8 [r] := by
        rw [Nm.pad_snoc, cN_append, Hr.out, hV.out]
      have Hchs := Lib.hid hchs
      have Hq2 : Hid (q = U / 256 ^ (k + 1)) := by unfold Hid; rw [Hq.out, hV.out, Nat.div_div_eq_div_mul, Nat.pow_succ]
      clear hchs
      have hV0b : (-(V : Int) != 0) = true := by rw [bne_iff_ne]; omega
      have hV0c : ((V : Int) != 0) = true := by rw [bne_iff_ne]; omega
      have hrI : (-(V : Int)).tmod 256 = -(r : Int) := by rw [Int.neg_tmod, Int.tmod_eq_emod_of_nonneg (by omega)]; have := Hr.out; omega
      have hqI : (-(V : Int)).tdiv 256 = -(q : Int) := by rw [Int.neg_tdiv, Int.tdiv_eq_ediv_of_nonneg (by omega)]; have := Hq.out; omega
      have hVI : (V : Int) ≤ 9223372036854775808 := by omega
      by_cases hr0 : r = 0
      · subst hr0
        obtain ⟨wj, rfl⟩ : ∃ wj : World, wj = wr := ⟨_, rfl⟩
        go_wp2_with (at_builtin
                     refine wpl_app rfl (.tmp 17) (.tmp 20) 85 5 rfl (.int .u8 0) 1 Try.underlying85 info8 rfl Ao k co (cN .u8 (Nm.pad 256 k U)) G rfl (by simp) (hown.keep ((Only.refl [] wj).alloc _) (by simp)) (some ⟨wj.heap.size, 0, none⟩) 1 1 (cN .u8 [0]) rfl rfl (RV.new rfl) cN_one (by simp; omega) (by decide) ?_
                     intro A2 c2 w2 G2 hown2 hG2
                     rw [← Hchs.out] at hown2
                     have hx := only_app hG2
                     have hO2 := (hO.alloc (.cells #[.int .u8 ((0 : Nat) : Int)] 5)).trans hx hnew.out
                     have hn2 : New (w.alloc (.cells #[.bool false, .slice none 0 0] 24)) G2 := by
                       rcases hG2 with ⟨e, _⟩ | ⟨e, _⟩
                       · rw [e]; exact hnew
                       · rw [e]; intro g hg; injection hg with hg; have := hO.size; simp at hg this; simp; omega
                     clear hG2 hx hown hnew hO)
        go_roundw
        case rel => exact ⟨k + 1, q, A2, c2, G2, rfl, rfl, Hq2, hq1, by omega, hown2, hn2, hO2⟩
        case measure => simp [lenV]; omega
      · have hr0I : -(r : Int) < 0 := by omega
        obtain ⟨wj, rfl⟩ : ∃ wj : World, wj = wr := ⟨_, rfl⟩
        go_wp2_with (at_builtin
                     refine wpl_app rfl (.tmp 17) (.tmp 20) 85 5 rfl (.int .u8 0) 1 Try.underlying85 info8 rfl Ao k co (cN .u8 (Nm.pad 256 k U)) G rfl (by simp) (hown.keep ((Only.refl [] wj).alloc _) (by simp)) (some ⟨wj.heap.size, 0, none⟩) 1 1 (cN .u8 [r]) rfl rfl (RV.new rfl) cN_one (by simp; omega) (by decide) ?_
                     intro A2 c2 w2 G2 hown2 hG2
                     rw [← Hchs.out] at hown2
                     have hx := only_app hG2
                     have hO2 := (hO.alloc (.cells #[.int .u8 ((r : Nat) : Int)] 5)).trans hx hnew.out
                     have hn2 : New (w.alloc (.cells #[.bool false, .slice none 0 0] 24)) G2 := by
                       rcases hG2 with ⟨e, _⟩ | ⟨e, _⟩
                       · rw [e]; exact hnew
                       · rw [e]; intro g hg; injection hg with hg; have := hO.size; simp at hg this; simp; omega
                     clear hG2 hx hown hnew hO)
        go_roundw
        case rel => exact ⟨k + 1, q, A2, c2, G2, rfl, rfl, Hq2, hq1, by omega, hown2, hn2, hO2⟩
        case measure => simp [lenV]; omega
theorem ofR_any (w : World) (z : Int) (h1 : -9223372036854775808 ≤ z) (h2 : z ≤ 9223372036854775807) : Calls Try.prog 21 #[.int .i64 z] w (RV1 w z) := by
  by_cases h : 0 ≤ z
  · obtain ⟨U, rfl⟩ : ∃ U : Nat, z = (U : Int) := ⟨z.toNat, by omega⟩
    exact ofR_pos w U (by omega)
  · obtain ⟨U, rfl⟩ : ∃ U : Nat, z = -(U : Int) := ⟨(-z).toNat, by omega⟩
    exact ofR_neg w U (by omega) (by omega)
end Go.Proofs.Ytddfphneidcibaa
