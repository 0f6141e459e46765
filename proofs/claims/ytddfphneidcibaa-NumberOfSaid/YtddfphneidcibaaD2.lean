/-
  THE WALK of slices.Reverse at []byte.
-/
import Derived.Test.YtddfphneidcibaaI6
import Derived.Test.YtddfphneidcibaaReg4
namespace Go.Proofs.Ytddfphneidcibaa
open Go.RowKit
open Nm (W32)

/-- The list with its first and last k turned. -/
def rk (l : List Nat) (k : Nat) : List Nat := (List.range l.length).map fun p => if p < k ∨ l.length ≤ p + k then l.getD (l.length - 1 - p) 0 else l.getD p 0
@[simp] theorem rk_length (l : List Nat) (k : Nat) : (rk l k).length = l.length := by simp [rk]
theorem rk_get (l : List Nat) (k p : Nat) (hp : p < l.length) : (rk l k)[p]? = some (if p < k ∨ l.length ≤ p + k then l.getD (l.length - 1 - p) 0 else l.getD p 0) := by
  simp [rk, hp]
theorem rk_zero (l : List Nat) : rk l 0 = l := by
  refine List.ext_getElem? fun p => ?_
  by_cases hp : p < l.length
  · rw [rk_get l 0 p hp, if_neg (by omega), List.getElem?_eq_getElem hp, List.getD_eq_getElem?_getD, List.getElem?_eq_getElem hp, Option.getD_some]
  · rw [List.getElem?_eq_none (by simpa using hp), List.getElem?_eq_none (by simpa using hp)]
theorem rk_all (l : List Nat) (k : Nat) (h : l.length ≤ 2 * k + 1) : rk l k = l.reverse := by
  refine List.ext_getElem? fun p => ?_
  by_cases hp : p < l.length
  · rw [rk_get l k p hp, List.getElem?_reverse hp]
    by_cases hc : p < k ∨ l.length ≤ p + k
    · rw [if_pos hc, List.getD_eq_getElem?_getD, List.getElem?_eq_getElem (by omega), Option.getD_some]
    · rw [if_neg hc, List.getD_eq_getElem?_getD, show l.length - 1 - p = p by omega, List.getElem?_eq_getElem hp, Option.getD_some]
  · rw [List.getElem?_eq_none (by simpa using hp), List.getElem?_eq_none (by simpa using hp)]
theorem rk_next (l : List Nat) (k j : Nat) (hj : k + j + 1 = l.length) (hlt : k < j) : ((rk l k).set k (l.getD j 0)).set j (l.getD k 0) = rk l (k + 1) := by
  refine List.ext_getElem? fun p => ?_
  by_cases hp : p < l.length
  · rw [rk_get l (k + 1) p hp]
    by_cases h1 : p = j
    · subst h1
      rw [List.getElem?_set_self (by simpa using hp), if_pos (by omega), show l.length - 1 - p = k by omega]
    · rw [List.getElem?_set_ne (by omega)]
      by_cases h2 : p = k
      · subst h2
        rw [List.getElem?_set_self (by simpa using hp), if_pos (by omega), show l.length - 1 - p = j by omega]
      · rw [List.getElem?_set_ne (by omega), rk_get l k p hp]
        by_cases hc : p < k ∨ l.length ≤ p + k
        · rw [if_pos hc, if_pos (by omega)]
        · rw [if_neg hc, if_neg (by omega)]
  · rw [List.getElem?_eq_none (by simpa using hp), List.getElem?_eq_none (by simpa using hp)]
theorem rk_at (l : List Nat) (k p : Nat) (hp : p < l.length) (h1 : k ≤ p) (h2 : p + k < l.length) : (rk l k).getD p 0 = l.getD p 0 := by
  rw [List.getD_eq_getElem?_getD, rk_get l k p hp, if_neg (by omega), Option.getD_some]

theorem Blk.getN {w : World} {g q : Nat} {t : TypeId} {k : IntKind} {xs : List Nat} {r : List Value} (h : Blk w g t (cN k xs ++ r)) (hq : q < xs.length) : w.cell? ⟨g, q, none⟩ = some (.int k ((xs.getD q 0 : Nat) : Int)) := by
  refine h.cellv ?_
  rw [List.getElem?_append_left (by simpa using hq), cN_get hq]
theorem Blk.setN {w : World} {g q : Nat} {t : TypeId} {k : IntKind} {xs : List Nat} {r : List Value} (h : Blk w g t (cN k xs ++ r)) (hq : q < xs.length) (v : Nat) : Blk (w.setCell ⟨g, q, none⟩ (.int k (v : Int))) g t (cN k (xs.set q v) ++ r) := by
  have h' := h.set q (.int k (v : Int))
  rw [List.set_append_left _ _ (by simpa using hq), cN_set] at h'
  exact h'
theorem Blk.rvN {w : World} {g : Nat} {t : TypeId} {k : IntKind} {xs : List Nat} {r : List Value} (h : Blk w g t (cN k xs ++ r)) : RV w (some ⟨g, 0, none⟩) (cN k xs) := fun _ => ⟨g, 0, rfl, h.lt, fun j hj => by rw [Nat.zero_add, h.cell, List.getElem?_append_left hj]⟩

set_option maxHeartbeats 4000000 in
set_option maxRecDepth 100000 in
theorem reverse_any (w : World) (g n c : Nat) (l : List Nat) (rest : List Value) (hn : n = l.length) (hm : n ≤ 1000000) (hB : Blk w g 5 (cN .u8 l ++ rest)) :
    Calls Try.prog 113 #[.slice (some ⟨g, 0, none⟩) n c] w fun e w' => e = .returned (.tuple #[]) ∧ Blk w' g 5 (cN .u8 l.reverse ++ rest) ∧ Only [g] w w' := by
  have Hn := Lib.hid hn
  clear hn
  go_enter Try.func113, Try.ntmps113
  go_wp2
  go_loopw [2, 3] (fun i j wr => ∃ k : Nat, ∃ z : Int, i = .int .i64 (k : Int) ∧ j = .int .i64 z ∧ z = (n : Int) - 1 - (k : Int) ∧ k ≤ n ∧ Blk wr g 5 (cN .u8 (rk l k) ++ rest) ∧ Only [g] w wr) (fun i _ _ => n - (intOf i).toNat)
  case atStart => exact ⟨0, _, rfl, rfl, by omega, by omega, by rw [rk_zero]; exact hB, Only.refl _ _⟩
  case round =>
    clear hB
    obtain ⟨k, z, rfl, rfl, hz, hkn, hBk, hO⟩ := hrel
    by_cases hlt : (k : Int) < z
    · obtain ⟨j, rfl⟩ : ∃ j : Nat, z = (j : Int) := ⟨z.toNat, by omega⟩
      have hj : k + j + 1 = l.length := by rw [← Hn.out]; omega
      have hkj : k < j := by omega
      have c1 := hBk.getN (q := k) (by simp; omega)
      have c2 := hBk.getN (q := j) (by simp; omega)
      rw [rk_at l k k (by omega) (by omega) (by omega)] at c1
      rw [rk_at l k j (by omega) (by omega) (by omega)] at c2
      have hB1 := hBk.setN (q := k) (by simp; omega) (l.getD j 0)
      have hB2 := hB1.setN (q := j) (by simp; omega) (l.getD k 0)
      rw [rk_next l k j hj hkj] at hB2
      have f1 := hBk.frozen k
      have f2 := hB1.frozen j
      have c3 := hB1.getN (q := j) (by simp; omega)
      have HB2 := Lib.hid hB2
      have Hz := Lib.hid hz
      have hg := hBk.lt
      have hjn : (j : Int) < (n : Int) := by omega
      have hjm : (j : Int) ≤ 1000000 := by omega
      clear hB2 hB1 hBk hj hz
      generalize l.getD k 0 = x at c1 HB2
      generalize l.getD j 0 = y at c2 HB2 c3 f2
      go_wp2
      refine Reg.wpQL [g] [.r 0, .r 1, .r 2, .r 3, .r 4, .r 5, .r 6, .q 7, .r 8, .r 9, .r 10, .q 11, .r 12, .e 13, .r 14, .e 15] (by kernel_rfl) (by kernel_rfl) (fun d _ _ _ _ h => by cases d <;> exact h) ?_
      simp only [Reg.pickQ, List.getD_cons_succ, List.getD_cons_zero]
      iterate 7 (apply Reg.readX; (· (intro t K hK; go_simp; (try go_ints); (try ((go_ite <;> go_prune); go_simp)); (try go_ints); exact hK _ rfl)); (· (intro K hK; go_simp; exact hK _ rfl)))
      (apply Reg.readQ; (· (intro K hK; go_simp; (try go_ints); (try ((go_ite <;> go_prune); go_simp)); (try go_ints); exact hK _ rfl)); (· (intro K hK; go_simp; exact hK _ rfl)))
      iterate 3 (apply Reg.readX; (· (intro t K hK; go_simp; (try go_ints); (try ((go_ite <;> go_prune); go_simp)); (try go_ints); exact hK _ rfl)); (· (intro K hK; go_simp; exact hK _ rfl)))
      (apply Reg.readQ; (· (intro K hK; go_simp; (try go_ints); (try ((go_ite <;> go_prune); go_simp)); (try go_ints); exact hK _ rfl)); (· (intro K hK; go_simp; exact hK _ rfl)))
      (apply Reg.readX; (· (intro t K hK; go_simp; (try go_ints); (try ((go_ite <;> go_prune); go_simp)); (try go_ints); exact hK _ rfl)); (· (intro K hK; go_simp; exact hK _ rfl)))
      refine Reg.effQL ?_
      go_wp2
      refine ⟨((Only.refl [g] wr).setCell (p := ⟨g, k, none⟩) (.inl (by simp)) _).dd, ?_⟩
      (apply Reg.readX; (· (intro t K hK; go_simp; (try go_ints); (try ((go_ite <;> go_prune); go_simp)); (try go_ints); exact hK _ rfl)); (· (intro K hK; go_simp; exact hK _ rfl)))
      refine Reg.effQL ?_
      go_wp2
      refine ⟨((Only.refl [g] (wr.setCell ⟨g, k, none⟩ (.int .u8 (y : Int)))).setCell (p := ⟨g, j, none⟩) (.inl (by simp)) _).dd, ?_⟩
      refine Reg.finQ ?_
      go_wp2
      go_roundw
      case rel => exact ⟨k + 1, _, by go_num, rfl, by have := Hz.out; omega, by omega, HB2.out.drew, ((hO.setCell (p := ⟨g, k, none⟩) (.inl (by simp)) _).setCell (p := ⟨g, j, none⟩) (.inl (by simp)) _).drew⟩
      case measure => simp [intOf]; omega
    · have hle : z ≤ (k : Int) := by omega
      rw [rk_all l k (by rw [← Hn.out]; omega)] at hBk
      go_wp2
      go_end0
      exact ⟨rfl, hBk, hO⟩
end Go.Proofs.Ytddfphneidcibaa
