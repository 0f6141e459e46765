/-
  THE WALK of slices.Reverse at []byte.
  THE WALK of number's decimal.
  THE WALKS of number's Digits10, Text, Sign, Neg, Compare on valid Ints.
  THE WALKS of number's Neg and Compare on valid Ints.
  THE WALK of number's Value on valid Ints.
  THE WALK of number's Power on valid Ints.
  THE WALKS of number's isDecimal and Parse.
  THE WALK of number's Parse.
  THE WALK of number's Parse on decimal forms.
-/
import Derived.Test.YtddfphneidcibaaGH
import Derived.Test.YtddfphneidcibaaGB
namespace Go.Proofs.Ytddfphneidcibaa
open Go.RowKit
open Nm (W32)
/-- The list with its first and last k turned. -/
def rk (l : List Nat) (k : Nat) : List Nat := (List.range l.length).map fun p => if p < k ∨ l.length ≤ p + k then l.getD (l.length - 1 - p) 0 else l.getD p 0
@[simp] theorem rk_length (l : List Nat) (k : Nat) : (rk l k).length = l.length := by simp [rk]
theorem rk_get (l : List Nat) (k p : Nat) (hp : p < l.length) : (rk l k)[p]? = some (if p < k ∨ l.length ≤ p + k then l.getD (l.length - 1 - p) 0 else l.getD p 0) := by
  simp [rk, hp]
theorem rk_zero (l : List Nat) : rk l 0 = l := by
  refine List.ext_getElem? fun p => ?_
  by_cases hp : p < l.length
  · rw [rk_get l 0 p hp, if_neg (by omega), List.getElem?_eq_getElem hp, List.getD_eq_getElem?_getD, List.getElem?_eq_getElem hp, Option.getD_some]
  · rw [List.getElem?_eq_none (by simpa using hp), List.getElem?_eq_none (by simpa using hp)]
theorem rk_all (l : List Nat) (k : Nat) (h : l.length ≤ 2 * k + 1) : rk l k = l.reverse := by
  refine List.ext_getElem? fun p => ?_
  by_cases hp : p < l.length
  · rw [rk_get l k p hp, List.getElem?_reverse hp]
    by_cases hc : p < k ∨ l.length ≤ p + k
    · rw [if_pos hc, List.getD_eq_getElem?_getD, List.getElem?_eq_getElem (by omega), Option.getD_some]
    · rw [if_neg hc, List.getD_eq_getElem?_getD, show l.length - 1 - p = p by omega, List.getElem?_eq_getElem hp, Option.getD_some]
  · rw [List.getElem?_eq_none (by simpa using hp), List.getElem?_eq_none (by simpa using hp)]
theorem rk_next (l : List Nat) (k j : Nat) (hj : k + j + 1 = l.length) (hlt : k < j) : ((rk l k).set k (l.getD j 0)).set j (l.getD k 0) = rk l (k + 1) := by
  refine List.ext_getElem? fun p => ?_
  by_cases hp : p < l.length
  · rw [rk_get l (k + 1) p hp]
    by_cases h1 : p = j
    · subst h1
      rw [List.getElem?_set_self (by simpa using hp), if_pos (by omega), show l.length - 1 - p = k by omega]
    · rw [List.getElem?_set_ne (by omega)]
      by_cases h2 : p = k
      · subst h2
        rw [List.getElem?_set_self (by simpa using hp), if_pos (by omega), show l.length - 1 - p = j by omega]
      · rw [List.getElem?_set_ne (by omega), rk_get l k p hp]
        by_cases hc : p < k ∨ l.length ≤ p + k
        · rw [if_pos hc, if_pos (by omega)]
        · rw [if_neg hc, if_neg (by omega)]
  · rw [List.getElem?_eq_none (by simpa using hp), List.getElem?_eq_none (by simpa using hp)]
theorem rk_at (l : List Nat) (k p : Nat) (hp : p < l.length) (h1 : k ≤ p) (h2 : p + k < l.length) : (rk l k).getD p 0 = l.getD p 0 := by
  rw [List.getD_eq_getElem?_getD, rk_get l k p hp, if_neg (by omega), Option.getD_some]

theorem Blk.getN {w : World} {g q : Nat} {t : TypeId} {k : IntKind} {xs : List Nat} {r : List Value} (h : Blk w g t (cN k xs ++ r)) (hq : q < xs.length) : w.cell? ⟨g, q, none⟩ = some (.int k ((xs.getD q 0 : Nat) : Int)) := by
  refine h.cellv ?_
  rw [List.getElem?_append_left (by simpa using hq), cN_get hq]
theorem Blk.setN {w : World} {g q : Nat} {t : TypeId} {k : IntKind} {xs : List Nat} {r : List Value} (h : Blk w g t (cN k xs ++ r)) (hq : q < xs.length) (v : Nat) : Blk (w.setCell ⟨g, q, none⟩ (.int k (v : Int))) g t (cN k (xs.set q v) ++ r) := by
  have h' := h.set q (.int k (v : Int))
  rw [List.set_append_left _ _ (by simpa using hq), cN_set] at h'
  exact h'
theorem Blk.rvN {w : World} {g : Nat} {t : TypeId} {k : IntKind} {xs : List Nat} {r : List Value} (h : Blk w g t (cN k xs ++ r)) : RV w (some ⟨g, 0, none⟩) (cN k xs) := fun _ => ⟨g, 0, rfl, h.lt, fun j hj => by rw [Nat.zero_add, h.cell, List.getElem?_append_left hj]⟩

set_option maxHeartbeats 4000000 in
set_option maxRecDepth 100000 in
theorem reverse_any (w : World) (g n c : Nat) (l : List Nat) (rest : List Value) (hn : n = l.length) (hm : n ≤ 1000000) (hB : Blk w g 5 (cN .u8 l ++ rest)) :
    Calls Try.prog 113 #[.slice (some ⟨g, 0, none⟩) n c] w fun e w' => e = .returned (.tuple #[]) ∧ Blk w' g 5 (cN .u8 l.reverse ++ rest) ∧ Only [g] w w' := by
  have Hn := Lib.hid hn
  clear hn
  go_enter Try.func113, Try.ntmps113
  go_wp2
  go_loopw [2, 3] (fun i j wr => ∃ k : Nat, ∃ z : Int, i = .int .i64 (k : Int) ∧ j = .int .i64 z ∧ z = (n : Int) - 1 - (k : Int) ∧ k ≤ n ∧ Blk wr g 5 (cN .u8 (rk l k) ++ rest) ∧ Only [g] w wr) (fun i _ _ => n - (intOf i).toNat)
  case atStart => exact ⟨0, _, rfl, rfl, by omega, by omega, by rw [rk_zero]; exact hB, Only.refl _ _⟩
  case round =>
    clear hB
    obtain ⟨k, z, rfl, rfl, hz, hkn, hBk, hO⟩ := hrel
    by_cases hlt : (k : Int) < z
    · obtain ⟨j, rfl⟩ : ∃ j : Nat, z = (j : Int) := ⟨z.toNat, by omega⟩
      have hj : k + j + 1 = l.length := by rw [← Hn.out]; omega
      have hkj : k < j := by omega
      have c1 := hBk.getN (q := k) (by simp; omega)
      have c2 := hBk.getN (q := j) (by simp; omega)
      rw [rk_at l k k (by omega) (by omega) (by omega)] at c1
      rw [rk_at l k j (by omega) (by omega) (by omega)] at c2
      have hB1 := hBk.setN (q := k) (by simp; omega) (l.getD j 0)
      have hB2 := hB1.setN (q := j) (by simp; omega) (l.getD k 0)
      rw [rk_next l k j hj hkj] at hB2
      have f1 := hBk.frozen k
      have f2 := hB1.frozen j
      have c3 := hB1.getN (q := j) (by simp; omega)
      have HB2 := Lib.hid hB2
      have Hz := Lib.hid hz
      have hg := hBk.lt
      have hjn : (j : Int) < (n : Int) := by omega
      have hjm : (j : Int) ≤ 1000000 := by omega
      clear hB2 hB1 hBk hj hz
      generalize l.getD k 0 = x at c1 HB2
      generalize l.getD j 0 = y at c2 HB2 c3 f2
      go_wp2
      refine Reg.wpQL [g] [.r 0, .r 1, .r 2, .r 3, .r 4, .r 5, .r 6, .q 7, .r 8, .r 9, .r 10, .q 11, .r 12, .e 13, .r 14, .e 15] (by kernel_rfl) (by kernel_rfl) (fun d _ _ _ _ h => by cases d <;> exact h) ?_
      simp only [Reg.pickQ, List.getD_cons_succ, List.getD_cons_zero]
      iterate 7 (apply Reg.readX; (· (intro t K hK; go_simp; (try go_ints); (try ((go_ite <;> go_prune); go_simp)); (try go_ints); exact hK _ rfl)); (· (intro K hK; go_simp; exact hK _ rfl)))
      (apply Reg.readQ; (· (intro K hK; go_simp; (try go_ints); (try ((go_ite <;> go_prune); go_simp)); (try go_ints); exact hK _ rfl)); (· (intro K hK; go_simp; exact hK _ rfl)))
      iterate 3 (apply Reg.readX; (· (intro t K hK; go_simp; (try go_ints); (try ((go_ite <;> go_prune); go_simp)); (try go_ints); exact hK _ rfl)); (· (intro K hK; go_simp; exact hK _ rfl)))
      (apply Reg.readQ; (· (intro K hK; go_simp; (try go_ints); (try ((go_ite <;> go_prune); go_simp)); (try go_ints); exact hK _ rfl)); (· (intro K hK; go_simp; exact hK _ rfl)))
      (apply Reg.readX; (· (intro t K hK; go_simp; (try go_ints); (try ((go_ite <;> go_prune); go_simp)); (try go_ints); exact hK _ rfl)); (· (intro K hK; go_simp; exact hK _ rfl)))
      refine Reg.effQL ?_
      go_wp2
      refine ⟨((Only.refl [g] wr).setCell (p := ⟨g, k, none⟩) (.inl (by simp)) _).dd, ?_⟩
      (apply Reg.readX; (· (intro t K hK; go_simp; (try go_ints); (try ((go_ite <;> go_prune); go_simp)); (try go_ints); exact hK _ rfl)); (· (intro K hK; go_simp; exact hK _ rfl)))
      refine Reg.effQL ?_
      go_wp2
      refine ⟨((Only.refl [g] (wr.setCell ⟨g, k, none⟩ (.int .u8 (y : Int)))).setCell (p := ⟨g, j, none⟩) (.inl (by simp)) _).dd, ?_⟩
      refine Reg.finQ ?_
      go_wp2
      go_roundw
      case rel => exact ⟨k + 1, _, by go_num, rfl, by have := Hz.out; omega, by omega, HB2.out.drew, ((hO.setCell (p := ⟨g, k, none⟩) (.inl (by simp)) _).setCell (p := ⟨g, j, none⟩) (.inl (by simp)) _).drew⟩
      case measure => simp [intOf]; omega
    · have hle : z ≤ (k : Int) := by omega
      rw [rk_all l k (by rw [← Hn.out]; omega)] at hBk
      go_wp2
      go_end0
      exact ⟨rfl, hBk, hO⟩
end Go.Proofs.Ytddfphneidcibaa
namespace Go.Proofs.Ytddfphneidcibaa
open Go.RowKit
open Nm (W32)
/-- m decimal digits, the lowest first, as characters. -/
def chs (m X : Nat) : List Nat := (Nm.pad 10 m X).map (· + 48)
@[simp] theorem chs_length (m X : Nat) : (chs m X).length = m := by simp [chs]
theorem chs_snoc (m X : Nat) : chs (m + 1) X = chs m X ++ [X / 10 ^ m % 10 + 48] := by rw [chs, Nm.pad_snoc, List.map_append]; rfl
theorem chs_getD (m X i : Nat) (h : i < m) : (chs m X).getD i 0 = X / 10 ^ i % 10 + 48 := by
  have := Nm.pad_getD 10 m X i h
  rw [List.getD_eq_getElem?_getD] at this ⊢
  rw [chs, List.getElem?_map, List.getElem?_eq_getElem (by simpa using h)] at *
  simp at this ⊢
  exact this
theorem chs_take (k m X : Nat) (h : k ≤ m) : (chs m X).take k = chs k X := by rw [chs, ← List.map_take, Nm.take_pad _ _ _ _ h, chs]
/-- The decimal form of a number. -/
def decs (X : Nat) : List Nat := if X = 0 then [48] else (chs (Nm.len 10 X) X).reverse

theorem NatS.keepG {w w' : World} {A : Option Addr} {n c X : Nat} {S : List Nat} (h : NatS w A n c X) (ho : Only S w w') (hd : 0 < n → ∀ p, A = some p → p.block ∉ S) : NatS w' A n c X := by
  refine ⟨h.n_eq, h.le, ?_⟩
  by_cases h0 : n = 0
  · have : X = 0 := (Nm.len_eq_zero (B := W32) (by decide)).1 (by rw [← h.n_eq]; exact h0)
    rw [this, Nm.dg_zero]
    exact RV.nil
  · exact h.rd.keep ho (hd (by omega))
theorem chunk_next (X k j r : Nat) (hj : j < 9) (hr : r = X / 1000000000 ^ k % 1000000000) : r / 10 ^ j % 10 = X / 10 ^ (9 * k + j) % 10 := by rw [hr]; exact Nm.chunk_dig X k j hj

set_option maxHeartbeats 4000000 in
set_option maxRecDepth 100000 in
theorem decimal_any (w : World) (A : Option Addr) (n c X : Nat) (hX : X < big512) (hX0 : X ≠ 0) (hA : NatS w A n c X) :
    Calls Try.prog 94 #[.slice A n c] w fun e w' => ∃ A' n' c', e = .returned (.slice A' n' c') ∧ n' = (decs X).length ∧ n' ≤ c' ∧ RV w' A' (cN .u8 (decs X)) ∧ Only [] w w' := by
  have hl : Nm.len 10 X ≤ 155 := (Nm.len_le (by decide) _ _).2 (Nat.lt_of_lt_of_le hX (by unfold big512; decide +kernel))
  have hn : n ≤ 16 := hA.n_le (big_w32 (z := (X : Int)) (by simpa using hX))
  have hn0 : n ≠ 0 := by rw [hA.n_eq]; exact fun h => hX0 ((Nm.len_eq_zero (B := W32) (by decide)).1 h)
  have hn0b : ((n : Int) == 0) = false := beq_eq_false_iff_ne.2 (by omega)
  have HX0 := Lib.hid hX0
  have Hl := Lib.hid hl
  have HXb := Lib.hid hX
  clear hX hX0 hl
  go_enter Try.func94, Try.ntmps94
  go_wp2
  go_loopw [0, 3, 4] (fun x out _ wr => ∃ (k : Nat) (Ax : Option Addr) (nx cx : Nat) (Ao : Option Addr) (mo co : Nat) (G : Option Nat), x = .slice Ax nx cx ∧ NatS wr Ax nx cx (X / 1000000000 ^ k) ∧ out = .slice Ao mo co ∧ mo = 9 * k ∧ mo ≤ 200 ∧ OwnS wr 5 Ao co (cN .u8 (chs mo X)) G ∧ New w G ∧ (0 < nx → ∀ p, Ax = some p → p.block ∉ G.toList) ∧ Only [] w wr ∧ Hid (k = 0 ∨ X / 1000000000 ^ (k - 1) ≠ 0)) (fun _ out _ _ => 300 - lenV out)
  case atStart => exact ⟨0, A, n, c, none, 0, 0, none, rfl, by simpa using hA, rfl, by omega, by omega, OwnS.none _ _, New.none _, fun _ => by simp, Only.refl _ _, .inl rfl⟩
  case round =>
    obtain ⟨k, Ax, nx, cx, Ao, mo, co, G, rfl, hNx, rfl, hmo, hm2, hown, hnew, hdis, hO, Hk⟩ := hrel
    by_cases hx0 : X / 1000000000 ^ k = 0
    · have hnx0 : nx = 0 := by rw [hNx.n_eq, hx0, Nm.len_zero]
      subst hnx0
      have hXm : X < 10 ^ mo := by
        rw [hmo, Nat.pow_mul]
        exact Nat.lt_of_not_le fun h => absurd hx0 (Nat.ne_of_gt (Nat.div_pos h (Nat.pow_pos (by decide))))
      have hmo0 : 0 < mo := Nat.pos_of_ne_zero fun h => HX0.out (by rw [h] at hXm; simpa using hXm)
      obtain ⟨g, r, rfl, rfl, hB⟩ := hown.blk (by simpa using hmo0)
      have hco : mo ≤ co := by have := hown.le; simpa using this
      have hg := hnew g rfl
      have HXm := Lib.hid hXm
      have HB := Lib.hid hB
      clear hXm hown hNx hdis hnew hmo Hk hx0 hB
      go_wp2
      go_loopw [3] (fun out wj => ∃ m : Nat, out = .slice (some ⟨g, 0, none⟩) m co ∧ 0 < m ∧ m ≤ mo ∧ Hid (X < 10 ^ m) ∧ wr = wj) (fun out _ => lenV out)
      case atStart => exact ⟨mo, rfl, hmo0, Nat.le_refl _, HXm.out, rfl⟩
      case round =>
        obtain ⟨m, rfl, hm0, hmm, hXm, rfl⟩ := hrel
        obtain ⟨j, rfl⟩ : ∃ j, m = j + 1 := ⟨m - 1, by omega⟩
        have c1 := HB.out.getN (q := j) (by simp; omega)
        rw [chs_getD _ _ _ (by omega)] at c1
        have hjm : (j : Int) ≤ 1000000 := by omega
        have hjc : (j : Int) ≤ (co : Int) := by omega
        obtain ⟨dd, Hdd⟩ : ∃ dd, Hid (dd = X / 10 ^ j % 10) := ⟨_, rfl⟩
        rw [← Hdd.out] at c1
        by_cases hd0 : dd = 0
        · subst hd0
          have hlt := Nm.top_zero (by decide) hXm.out Hdd.out.symm
          have hj0 : 0 < j := Nat.pos_of_ne_zero fun h => HX0.out (by rw [h] at hlt; simpa using hlt)
          have Hlt := Lib.hid hlt
          clear hlt
          go_wp2
          go_roundw
          case rel => exact ⟨j, rfl, hj0, by omega, Hlt, trivial⟩
          case measure => simp [lenV]
        · have hlen := Nm.top_len (by decide) hXm.out (by rw [← Hdd.out]; exact hd0)
          have Hlen := Lib.hid hlen
          have e1 : (((dd + 48 : Nat) : Int) == 48) = false := beq_eq_false_iff_ne.2 (by omega)
          have e2 : ((dd : Int) + 48 == 48) = false := beq_eq_false_iff_ne.2 (by omega)
          have hB2 : Blk wr g 5 (cN .u8 (chs (j + 1) X) ++ (cN .u8 ((chs mo X).drop (j + 1)) ++ r)) := by
            rw [← List.append_assoc, ← cN_append, ← chs_take (j + 1) mo X hmm, List.take_append_drop]
            exact HB.out
          have HB2 := Lib.hid hB2
          clear hlen hB2
          go_wp2_with (go_at_call 113; refine (reverse_any wr g (j + 1) co (chs (j + 1) X) _ (by simp) (by omega) HB2.out).mono ?_; rintro e w9 ⟨rfl, hB9, hO9⟩)
          go_ret
          have ed : decs X = (chs (j + 1) X).reverse := by unfold decs; rw [if_neg HX0.out, Hlen.out]
          exact ⟨_, _, _, rfl, by rw [ed]; simp, by omega, by rw [ed]; exact hB9.rvN, hO.trans hO9 (by intro x hx hlt; simp at hx; omega)⟩
    · have hnx : 0 < nx := by rw [hNx.n_eq]; exact Nat.pos_of_ne_zero fun h => hx0 ((Nm.len_eq_zero (B := W32) (by decide)).1 h)
      have hnxI : (0 : Int) < (nx : Int) := by omega
      have hnx16 : nx ≤ 16 := hNx.n_le (Nat.lt_of_le_of_lt (Nat.div_le_self _ _) (big_w32 (z := (X : Int)) (by simpa using HXb.out)))
      have hmlen : mo < 155 := by
        have h1 : ¬ Nm.len 10 X ≤ mo := by
          rw [Nm.len_le (by decide), hmo, Nat.pow_mul]
          intro h
          exact hx0 (Nat.div_eq_of_lt h)
        have := Hl.out
        omega
      have Hmo := Lib.hid hmo
      have Hx0 := Lib.hid hx0
      clear hmo hx0
      go_wp2_with fail
      refine (divSmall_any wr Ax nx cx (X / 1000000000 ^ k) 1000000000 (by omega) (by decide) (by decide) hNx).mono ?_
      rintro e w1 ⟨A1, n1, c1, r1, rfl, hN1, hr1, hO1, hf1⟩
      rw [Nat.div_div_eq_div_mul, ← Nat.pow_succ] at hN1
      have hg1 : ∀ p, A1 = some p → p.block ∉ G.toList := by
        intro p hp hm
        have := hf1 p hp
        cases G with
        | none => simp at hm
        | some g =>
          simp at hm
          have := hown.lt g rfl
          omega
      have hs1 := hO1.size
      have hlt1 : ∀ p, A1 = some p → 0 < n1 → p.block < w1.heap.size := by
        intro p hp h0
        obtain ⟨g, o, e, hg, -⟩ := hN1.at h0
        rw [hp] at e
        injection e with e
        rw [e]
        exact hg
      have hown1 := hown.keep hO1 (by simp)
      have hP1 := hO.trans' hO1
      have hr1l : r1 < 1000000000 := by rw [hr1.out]; exact Nat.mod_lt _ (by decide)
      clear hown hNx hdis hf1
      go_wp2
      go_loopw [3, 4, 17] (fun out rst i wj => ∃ (j mj : Nat) (Aj : Option Addr) (cj : Nat) (Gj : Option Nat) (rj : Nat), j ≤ 9 ∧ i = .int .i64 (j : Int) ∧ out = .slice Aj mj cj ∧ mj = mo + j ∧ OwnS wj 5 Aj cj (cN .u8 (chs mj X)) Gj ∧ New w Gj ∧ rst = .int .u32 (rj : Int) ∧ Hid (rj = r1 / 10 ^ j) ∧ rj < 1000000000 ∧ NatS wj A1 n1 c1 (X / 1000000000 ^ k.succ) ∧ (0 < n1 → ∀ p, A1 = some p → p.block ∉ Gj.toList) ∧ Only [] w wj ∧ w1.heap.size ≤ wj.heap.size) (fun _ _ i _ => 9 - (intOf i).toNat)
      case atStart => exact ⟨0, mo, Ao, co, G, r1, by omega, rfl, rfl, rfl, hown1, hnew, rfl, by unfold Hid; simp, hr1l, hN1, fun _ => hg1, hP1, Nat.le_refl _⟩
      case round =>
        clear hown1 hN1 hP1 hg1
        obtain ⟨j, mj, Aj, cj, Gj, rj, hj9, rfl, rfl, hmj, hown, hnew, rfl, hrj, hrl, hN, hdis, hO, hsz⟩ := hrel
        by_cases hlt : j < 9
        · have hltI : (j : Int) < 9 := by omega
          obtain ⟨dd, Hdd⟩ : ∃ dd, Hid (dd = rj % 10) := ⟨_, rfl⟩
          obtain ⟨rn, Hrn⟩ : ∃ rn, Hid (rn = rj / 10) := ⟨_, rfl⟩
          have hd1 : (rj : Int) % 10 = (dd : Int) := by have := Hdd.out; omega
          have hd2 : (rj : Int) / 10 = (rn : Int) := by have := Hrn.out; omega
          have hd3 : (dd : Int) ≤ 9 := by have := Hdd.out; omega
          have hrn : rn < 1000000000 := by have := Hrn.out; omega
          have hmj2 : mj ≤ 200 := by omega
          have hchs : cN .u8 (chs (mj + 1) X) = cN .u8 (chs mj X) ++ cN .u8 [dd + 48] := by
            rw [chs_snoc, cN_append]
            have : X / 10 ^ mj % 10 = dd := by
              rw [Hdd.out, hrj.out, chunk_next X k j r1 hlt hr1.out, ← Hmo.out, ← hmj]
            rw [this]
          have Hchs := Lib.hid hchs
          have Hmj := Lib.hid hmj
          clear hchs hmj hrl
          obtain ⟨wj, rfl⟩ : ∃ wj : World, wj = wr := ⟨_, rfl⟩
          go_wp2_with (at_builtin
                       refine wpl_app rfl (.tmp 19) (.tmp 24) 22 5 rfl (.int .u8 0) 1 Try.underlying22 info8 rfl Aj mj cj (cN .u8 (chs mj X)) Gj rfl (by simp) (hown.keep ((Only.refl [] wj).alloc _) (by simp)) (some ⟨wj.heap.size, 0, none⟩) 1 1 (cN .u8 [dd + 48]) rfl rfl (RV.new (by simp [cN, Int.add_comm])) cN_one (by simp; omega) (by decide) ?_
                       intro A2 c2 w2 G2 hown2 hG2
                       rw [← Hchs.out] at hown2
                       have hx := only_app hG2
                       have hO2 : Only [] w w2 := (hO.alloc _).trans hx hnew.out
                       have hsz2 : w1.heap.size ≤ w2.heap.size := Nat.le_trans hsz (Nat.le_trans (by simp) hx.size)
                       have hN2 := (hN.keep ((Only.refl [] wj).alloc _)).keepG hx hdis
                       have hn2 : New w G2 := by
                         rcases hG2 with ⟨e, _⟩ | ⟨e, _⟩
                         · rw [e]; exact hnew
                         · rw [e]; intro g hg; injection hg with hg; have := hO.size; simp at hg; omega
                       have hdis2 : 0 < n1 → ∀ p, A1 = some p → p.block ∉ G2.toList := by
                         intro h0 p hp
                         rcases hG2 with ⟨e, _⟩ | ⟨e, _⟩
                         · rw [e]; exact hdis h0 p hp
                         · rw [e]; have := hlt1 p hp h0; simp; omega
                       clear hG2 hx hown hN hdis hnew hO hsz)
          go_roundw
          case rel => exact ⟨j + 1, mj + 1, A2, c2, G2, rn, by omega, by go_num, rfl, by have := Hmj.out; omega, hown2, hn2, rfl, by unfold Hid; rw [Hrn.out, hrj.out, Nat.div_div_eq_div_mul, Nat.pow_succ], hrn, hN2, hdis2, hO2, hsz2⟩
          case measure => simp [intOf]; omega
        · obtain rfl : j = 9 := by omega
          go_wp2
          go_roundw
          case rel => exact ⟨k + 1, A1, n1, c1, Aj, mj, cj, Gj, rfl, hN, rfl, by have := Hmo.out; omega, by omega, hown, hnew, hdis, hO, .inr (by simpa using Hx0.out)⟩
          case measure => simp [lenV]; omega
set_option maxHeartbeats 4000000 in
set_option maxRecDepth 100000 in
theorem decimal_zero (w : World) (A : Option Addr) (c : Nat) : Calls Try.prog 94 #[.slice A 0 c] w fun e w' => ∃ A' n' c', e = .returned (.slice A' n' c') ∧ n' = (decs 0).length ∧ n' ≤ c' ∧ RV w' A' (cN .u8 (decs 0)) ∧ Only [] w w' := by
  go_enter Try.func94, Try.ntmps94
  go_wp2
  go_ret
  exact ⟨_, _, _, rfl, rfl, Nat.le_refl _, RV.new rfl, (Only.refl [] w).alloc _⟩
theorem decimal_all (w : World) (A : Option Addr) (n c X : Nat) (hX : X < big512) (hA : NatS w A n c X) :
    Calls Try.prog 94 #[.slice A n c] w fun e w' => ∃ A' n' c', e = .returned (.slice A' n' c') ∧ n' = (decs X).length ∧ n' ≤ c' ∧ RV w' A' (cN .u8 (decs X)) ∧ Only [] w w' := by
  by_cases h0 : X = 0
  · subst h0
    have hn : n = 0 := by rw [hA.n_eq, Nm.len_zero]
    subst hn
    exact decimal_zero w A c
  · exact decimal_any w A n c X hX h0 hA
end Go.Proofs.Ytddfphneidcibaa
namespace Go.Proofs.Ytddfphneidcibaa
open Go.RowKit
open Nm (W32)
/-- One argument in a block of its own. -/
theorem box1_spec (w : World) (a b : Value) : Blk (w.alloc (.cells #[a, b] 24)) w.heap.size 24 [a, b] ∧ Only [] w (w.alloc (.cells #[a, b] 24)) := ⟨Blk.new w _ _, (Only.refl [] w).alloc _⟩
/-- The decimal form of an integer, as bytes. -/
def txt (z : Int) : List UInt8 := ((if z < 0 then [45] else []) ++ decs z.natAbs).map UInt8.ofNat
theorem decs_lt (X : Nat) : ∀ d ∈ decs X, d < 256 := by
  intro d hd
  unfold decs at hd
  split at hd
  · simp at hd; omega
  · rw [List.mem_reverse, chs, List.mem_map] at hd
    obtain ⟨e, he, rfl⟩ := hd
    have := Nm.pad_lt (B := 10) (by decide) _ _ e he
    omega
theorem decs_cells (X : Nat) : cN .u8 (decs X) = cellsOf ((decs X).map UInt8.ofNat) := cN_bytes _ (decs_lt X)

theorem decs_len {X : Nat} (h : X < big512) : (decs X).length ≤ 155 := by
  unfold decs
  split
  · simp
  · simp
    exact (Nm.len_le (by decide) _ _).2 (Nat.lt_of_lt_of_le h (by unfold big512; decide +kernel))

set_option maxHeartbeats 4000000 in
set_option maxRecDepth 100000 in
theorem text_any (w : World) (s : Bool) (A : Option Addr) (n c : Nat) (x : Int) (hx : x.natAbs < big512) (hA : IntS w s A n c x) :
    Calls Try.prog 30 #[.agg #[.bool s, .slice A n c]] w fun e w' => e = .returned (.string ⟨(txt x).toArray⟩) ∧ Only [] w w' := by
  have Hsg := Lib.hid hA.sg
  obtain ⟨hBa, hO0⟩ := box1_spec w (.bool s) (.slice A n c)
  have hn := hA.n_le hx
  have Hx := Lib.hid hx
  obtain ⟨K0, K1, -, -⟩ := hBa.two
  clear hx
  go_enter Try.func30, Try.ntmps30
  go_wp2_with fail
  clear K0 K1
  refine (valid_yes _ s A n c x (hA.keep hO0) Hx.out).mono ?_
  rintro e w1 ⟨rfl, hO1⟩
  obtain ⟨K0, K1, -, -⟩ := (hBa.keep hO1 (by simp)).two
  have hA1 := (hA.keep hO0).keep hO1
  go_wp2_with fail
  refine (natOf_any w1 A n c x.natAbs (by omega) hA1.by_).mono ?_
  rintro e w2 ⟨A2, n2, c2, rfl, hN2, hO2⟩
  go_wp2_with fail
  refine (decimal_all w2 A2 n2 c2 x.natAbs Hx.out hN2).mono ?_
  rintro e w3 ⟨A3, n3, c3, rfl, hl3, hc3, hR3, hO3⟩
  rw [decs_cells] at hR3
  have hQ3 := (hO1.trans' hO2).trans' hO3
  clear K0 K1
  obtain ⟨K0, K1, -, -⟩ := (hBa.keep hQ3 (by simp)).two
  obtain ⟨bs, Hbs⟩ : ∃ bs, Hid (bs = (decs x.natAbs).map UInt8.ofNat) := ⟨_, rfl⟩
  rw [← Hbs.out] at hR3
  have hl3' : n3 = bs.length := by rw [hl3, Hbs.out]; simp
  have Hl3 := Lib.hid hl3'
  have hbl : bs.length ≤ 155 := by rw [Hbs.out, List.length_map]; exact decs_len Hx.out
  have hbl2 : 1 + bs.length ≤ 9223372036854775807 := by omega
  clear hl3 hl3'
  cases s
  · have ht : txt x = bs := by
      have h : ¬ x < 0 := by simpa using Hsg.out
      unfold txt; rw [if_neg h, Hbs.out]; rfl
    have Ht := Lib.hid ht
    clear ht
    go_wp2_with (refine wpl_str rfl 22 9 5 (.tmp 10) rfl Try.underlying22 Try.underlying5 Try.underlying9 A3 n3 c3 bs rfl Hl3.out hR3 ?_)
    go_ret
    exact ⟨by rw [Ht.out]; rfl, hO0.trans' hQ3⟩
  · have ht : txt x = 45 :: bs := by
      have h : x < 0 := by have := Hsg.out; simpa using this.symm
      unfold txt; rw [if_pos h, Hbs.out]; rfl
    have Ht := Lib.hid ht
    clear ht
    go_wp2_with (refine wpl_str rfl 22 9 5 (.tmp 10) rfl Try.underlying22 Try.underlying5 Try.underlying9 A3 n3 c3 bs rfl Hl3.out hR3 ?_)
    go_ret
    refine ⟨?_, hO0.trans' hQ3⟩
    rw [Ht.out]
    show Ending.returned (Value.string (ByteArray.mk #[45] ++ ByteArray.mk bs.toArray)) = _
    congr 2

set_option maxHeartbeats 4000000 in
set_option maxRecDepth 100000 in
theorem sign_any (w : World) (s : Bool) (A : Option Addr) (n c : Nat) (x : Int) (hx : x.natAbs < big512) (hA : IntS w s A n c x) :
    Calls Try.prog 41 #[.agg #[.bool s, .slice A n c]] w fun e w' => e = .returned (.int .i64 x.sign) ∧ Only [] w w' := by
  have Hsg := Lib.hid hA.sg
  have Hn := Lib.hid hA.by_.n_eq
  obtain ⟨hBa, hO0⟩ := box1_spec w (.bool s) (.slice A n c)
  have hn := hA.n_le hx
  have Hx := Lib.hid hx
  obtain ⟨K0, K1, -, -⟩ := hBa.two
  clear hx
  go_enter Try.func41, Try.ntmps41
  go_wp2_with fail
  clear K0 K1
  refine (valid_yes _ s A n c x (hA.keep hO0) Hx.out).mono ?_
  rintro e w1 ⟨rfl, hO1⟩
  obtain ⟨K0, K1, -, -⟩ := (hBa.keep hO1 (by simp)).two
  have hA1 := (hA.keep hO0).keep hO1
  by_cases h0 : x = 0
  · have hn0 : n = 0 := by rw [Hn.out, h0]; exact Nm.len_zero 256
    subst hn0
    go_wp2
    go_ret
    exact ⟨by rw [h0]; rfl, hO0.trans' hO1⟩
  · have hn0 : n ≠ 0 := by rw [Hn.out]; exact fun h => h0 (by have := (Nm.len_eq_zero (B := 256) (by decide)).1 h; omega)
    have hn0b : ((n : Int) == 0) = false := beq_eq_false_iff_ne.2 (by omega)
    cases s
    · have hp : x.sign = 1 := Int.sign_eq_one_of_pos (by have : ¬ x < 0 := by simpa using Hsg.out
                                                         omega)
      go_wp2
      go_ret
      exact ⟨by rw [hp]; rfl, hO0.trans' hO1⟩
    · have hp : x.sign = -1 := Int.sign_eq_neg_one_of_neg (by have := Hsg.out; simpa using this.symm)
      go_wp2
      go_ret
      exact ⟨by rw [hp]; rfl, hO0.trans' hO1⟩
end Go.Proofs.Ytddfphneidcibaa
namespace Go.Proofs.Ytddfphneidcibaa
open Go.RowKit
open Nm (W32)
theorem box2_spec (w : World) (a b c d : Value) : Blk ((w.alloc (.cells #[a, b] 24)).alloc (.cells #[c, d] 24)) w.heap.size 24 [a, b] ∧ Blk ((w.alloc (.cells #[a, b] 24)).alloc (.cells #[c, d] 24)) (w.heap.size + 1) 24 [c, d] ∧ Only [] w ((w.alloc (.cells #[a, b] 24)).alloc (.cells #[c, d] 24)) ∧ ((w.alloc (.cells #[a, b] 24)).alloc (.cells #[c, d] 24)).heap.size = w.heap.size + 2 := by
  have h1 := Blk.new w 24 [a, b]
  have h2 := Blk.new (w.alloc (.cells #[a, b] 24)) 24 [c, d]
  have : (w.alloc (.cells #[a, b] 24)).heap.size = w.heap.size + 1 := by simp
  rw [this] at h2
  exact ⟨h1.alloc _, h2, ((Only.refl [] w).alloc _).alloc _, by simp⟩

set_option maxHeartbeats 4000000 in
set_option maxRecDepth 100000 in
theorem neg_any (w : World) (s : Bool) (A : Option Addr) (n c : Nat) (x : Int) (hx : x.natAbs < big512) (hA : IntS w s A n c x) :
    Calls Try.prog 39 #[.agg #[.bool s, .slice A n c]] w (RI w (-x) 0) := by
  obtain ⟨hBa, hBr, hO0, hsz⟩ := box2_spec w (.bool s) (.slice A n c) (.bool false) (.slice none 0 0)
  have hn := hA.n_le hx
  have Hx := Lib.hid hx
  have Hxw := Lib.hid (big_w32 hx)
  have hex : sgn (!s) x.natAbs = -x := by rw [sgn_not, hA.nat]
  have Hex := Lib.hid hex
  have hlim := lim_ok (z := -x) (by rw [Int.natAbs_neg]; exact hx)
  have Hlim := Lib.hid hlim
  obtain ⟨K0, K1, -, -⟩ := hBa.two
  clear hx hex hlim
  go_enter Try.func39, Try.ntmps39
  go_wp2_with fail
  clear K0 K1
  refine (valid_yes _ s A n c x (hA.keep hO0) Hx.out).mono ?_
  rintro e w2 ⟨rfl, hO2⟩
  obtain ⟨k0, k1, -, -⟩ := (hBa.keep hO2 (by simp)).two
  have hA2 := (hA.keep hO0).keep hO2
  have hBr2 := hBr.keep hO2 (by simp)
  have hP2 := hO0.trans' hO2
  have hs2 : w.heap.size + 2 ≤ w2.heap.size := by rw [← hsz]; exact hO2.size
  have hl0 : w.heap.size < w2.heap.size := by omega
  clear hBa hBr hO0 hsz hO2
  go_wp2
  refine Reg.wp [w.heap.size + 1] [.r 0, .r 1, .r 2, .r 3, .r 4, .e 5, .e 6, .r 7, .r 8, .e 9, .r 10] (by kernel_rfl) (by kernel_rfl) (fun d _ _ _ _ h => by cases d <;> exact h) ?_
  simp only [Reg.pick, List.getD_cons_succ, List.getD_cons_zero]
  iterate 5 (apply Reg.read; (· (intro t K hK; go_simp; (try go_ints); (try ((go_ite <;> go_prune); go_simp)); (try go_ints); exact hK _ rfl)); (· (intro K hK; go_simp; exact hK _ rfl)))
  clear k0 k1
  refine Reg.eff ?_
  go_wp2_with (go_at_call 85; refine (natOf_any w2.drew A n c x.natAbs (by omega) hA2.by_.drew).mono ?_; rintro e w3 ⟨A3, n3, c3, rfl, hN3, hO3⟩)
  refine ⟨hO3.mono (by simp), ?_⟩
  refine Reg.eff ?_
  go_wp2_with (go_at_call 82
               have hb := build_any w3 (!s) A3 n3 c3 x.natAbs (Nat.le_trans (hN3.n_le Hxw.out) (by decide)) hN3
               rw [Hex.out, Hlim.out.1, Hlim.out.2] at hb
               refine hb.mono ?_
               rintro e w5 ⟨s2, A2, n2, c2, rfl, hI, hF, hO5⟩)
  refine ⟨hO5.mono (by simp), ?_⟩
  have hsz4 : w2.heap.size ≤ w3.heap.size := hO3.size
  have hQ5 : Only [] w2 w5 := Only.undrew (w := w2) (hO3.trans' hO5)
  have hBr5 := hBr2.keep hQ5 (by simp)
  obtain ⟨k0, k1, f0, f1⟩ := hBr5.two
  have hsw := hQ5.size
  iterate 2 (apply Reg.read; (· (intro t K hK; go_simp; (try go_ints); (try ((go_ite <;> go_prune); go_simp)); (try go_ints); exact hK _ rfl)); (· (intro K hK; go_simp; exact hK _ rfl)))
  refine Reg.eff ?_
  go_wp2
  refine ⟨only_put2 _ _ _ _, ?_⟩
  (apply Reg.read; (· (intro t K hK; go_simp; (try go_ints); (try ((go_ite <;> go_prune); go_simp)); (try go_ints); exact hK _ rfl)); (· (intro K hK; go_simp; exact hK _ rfl)))
  refine Reg.fin ?_
  go_wp2
  exact bodyPost_ret (results_row_tmp rfl _ _ (w.heap.size + 1) 24 [_, _] _ rfl (hBr5.put2 _ _) Try.underlying24 rfl isz) rfl (RI.of rfl hI hF (Nat.lt_of_lt_of_le (show w.heap.size + 1 < w2.heap.size by omega) hsz4) (Nat.le_add_right _ _) (hP2.trans' hQ5) (only_put2 _ _ _ _))

def CmpZ (x y r : Int) : Prop := (x < y ∧ r = -1) ∨ (x = y ∧ r = 0) ∨ (y < x ∧ r = 1)

set_option maxHeartbeats 4000000 in
set_option maxRecDepth 100000 in
theorem compare_any (w : World) (s t : Bool) (A B : Option Addr) (n c m d : Nat) (x y : Int) (hx : x.natAbs < big512) (hy : y.natAbs < big512) (hA : IntS w s A n c x) (hB : IntS w t B m d y) :
    Calls Try.prog 47 #[.agg #[.bool s, .slice A n c], .agg #[.bool t, .slice B m d]] w fun e w' => ∃ r : Int, e = .returned (.int .i64 r) ∧ Hid (CmpZ x y r) ∧ Only [] w w' := by
  obtain ⟨hBa, hBb, hO0, hsz⟩ := box2_spec w (.bool s) (.slice A n c) (.bool t) (.slice B m d)
  have hn := hA.n_le hx
  have hm := hB.n_le hy
  have Hx := Lib.hid hx
  have Hy := Lib.hid hy
  have Hxw := Lib.hid (big_w32 hx)
  have Hyw := Lib.hid (big_w32 hy)
  have Hs := Lib.hid hA.sg
  have Ht := Lib.hid hB.sg
  obtain ⟨K0, K1, -, -⟩ := hBa.two
  obtain ⟨L0, L1, -, -⟩ := hBb.two
  clear hx hy
  go_enter Try.func47, Try.ntmps47
  go_wp2_with fail
  clear K0 K1 L0 L1
  refine (valid_yes _ s A n c x (hA.keep hO0) Hx.out).mono ?_
  rintro e w1 ⟨rfl, hO1⟩
  obtain ⟨K0, K1, -, -⟩ := (hBa.keep hO1 (by simp)).two
  obtain ⟨L0, L1, -, -⟩ := (hBb.keep hO1 (by simp)).two
  go_wp2_with fail
  clear K0 K1 L0 L1
  refine (valid_yes _ t B m d y ((hB.keep hO0).keep hO1) Hy.out).mono ?_
  rintro e w2 ⟨rfl, hO2⟩
  have hQ2 := hO1.trans' hO2
  have hBa2 := hBa.keep hQ2 (by simp)
  obtain ⟨k0, k1, -, -⟩ := hBa2.two
  obtain ⟨l0, l1, -, -⟩ := (hBb.keep hQ2 (by simp)).two
  have hA2 := (hA.keep hO0).keep hQ2
  have hB2 := (hB.keep hO0).keep hQ2
  have hP2 := hO0.trans' hQ2
  have hs2 : w.heap.size + 2 ≤ w2.heap.size := by rw [← hsz]; exact hQ2.size
  have hl0 : w.heap.size < w2.heap.size := by omega
  have hl1 : w.heap.size + 1 < w2.heap.size := by omega
  clear hBa hBb hO0 hsz hO1 hO2 hQ2 hA hB
  cases s <;> cases t
  · skip
    go_wp2
    refine Reg.wp [] [.r 0, .r 1, .r 3, .r 4, .e 2, .e 5, .e 6, .r 7] (by kernel_rfl) (by kernel_rfl) (fun d _ _ _ _ h => by cases d <;> exact h) ?_
    simp only [Reg.pick, List.getD_cons_succ, List.getD_cons_zero]
    iterate 4 (apply Reg.read; (· (intro t K hK; go_simp; (try go_ints); (try ((go_ite <;> go_prune); go_simp)); (try go_ints); exact hK _ rfl)); (· (intro K hK; go_simp; exact hK _ rfl)))
    clear k0 k1 l0 l1
    refine Reg.eff ?_
    go_wp2_with (go_at_call 85; refine (natOf_any w2.drew A n c x.natAbs (by omega) hA2.by_.drew).mono ?_; rintro e w3 ⟨A3, n3, c3, rfl, hN3, hO3⟩)
    refine ⟨hO3, ?_⟩
    refine Reg.eff ?_
    go_wp2_with (go_at_call 85; refine (natOf_any w3 B m d y.natAbs (by omega) (hB2.by_.drew.keep hO3)).mono ?_; rintro e w4 ⟨A4, n4, c4, rfl, hN4, hO4⟩)
    refine ⟨hO4, ?_⟩
    have hN3' := hN3.keep hO4
    refine Reg.eff ?_
    go_wp2_with (go_at_call 103; refine (compareNat_any w4 A3 A4 n3 c3 n4 c4 x.natAbs y.natAbs (Nat.le_trans (hN3'.n_le Hxw.out) (by decide)) (Nat.le_trans (hN4.n_le Hyw.out) (by decide)) hN3' hN4).mono ?_; rintro e w5 ⟨r, rfl, hr, hO5⟩)
    refine ⟨hO5, ?_⟩
    have hQ5 : Only [] w2 w5 := Only.undrew (w := w2) ((hO3.trans' hO4).trans' hO5)
    obtain ⟨k0, k1, -, -⟩ := (hBa2.keep hQ5 (by simp)).two
    (apply Reg.read; (· (intro t K hK; go_simp; (try go_ints); (try ((go_ite <;> go_prune); go_simp)); (try go_ints); exact hK _ rfl)); (· (intro K hK; go_simp; exact hK _ rfl)))
    refine Reg.fin ?_
    go_wp2
    go_ret
    exact ⟨r, rfl, by have h1 := Hs.out; have h2 := Ht.out; have h3 := hr.out; unfold Hid CmpZ; unfold Cmp at h3; simp at h1 h2; omega, hP2.trans' hQ5⟩
  · go_wp2
    go_ret
    exact ⟨1, rfl, by have h1 := Hs.out; have h2 := Ht.out; unfold Hid CmpZ; simp at h1 h2; omega, hP2⟩
  · go_wp2
    go_ret
    exact ⟨-1, rfl, by have h1 := Hs.out; have h2 := Ht.out; unfold Hid CmpZ; simp at h1 h2; omega, hP2⟩
  · skip
    go_wp2
    refine Reg.wp [] [.r 0, .r 1, .r 3, .r 4, .e 2, .e 5, .e 6, .r 7] (by kernel_rfl) (by kernel_rfl) (fun d _ _ _ _ h => by cases d <;> exact h) ?_
    simp only [Reg.pick, List.getD_cons_succ, List.getD_cons_zero]
    iterate 4 (apply Reg.read; (· (intro t K hK; go_simp; (try go_ints); (try ((go_ite <;> go_prune); go_simp)); (try go_ints); exact hK _ rfl)); (· (intro K hK; go_simp; exact hK _ rfl)))
    clear k0 k1 l0 l1
    refine Reg.eff ?_
    go_wp2_with (go_at_call 85; refine (natOf_any w2.drew A n c x.natAbs (by omega) hA2.by_.drew).mono ?_; rintro e w3 ⟨A3, n3, c3, rfl, hN3, hO3⟩)
    refine ⟨hO3, ?_⟩
    refine Reg.eff ?_
    go_wp2_with (go_at_call 85; refine (natOf_any w3 B m d y.natAbs (by omega) (hB2.by_.drew.keep hO3)).mono ?_; rintro e w4 ⟨A4, n4, c4, rfl, hN4, hO4⟩)
    refine ⟨hO4, ?_⟩
    have hN3' := hN3.keep hO4
    refine Reg.eff ?_
    go_wp2_with (go_at_call 103; refine (compareNat_any w4 A3 A4 n3 c3 n4 c4 x.natAbs y.natAbs (Nat.le_trans (hN3'.n_le Hxw.out) (by decide)) (Nat.le_trans (hN4.n_le Hyw.out) (by decide)) hN3' hN4).mono ?_; rintro e w5 ⟨r, rfl, hr, hO5⟩)
    refine ⟨hO5, ?_⟩
    have hQ5 : Only [] w2 w5 := Only.undrew (w := w2) ((hO3.trans' hO4).trans' hO5)
    obtain ⟨k0, k1, -, -⟩ := (hBa2.keep hQ5 (by simp)).two
    (apply Reg.read; (· (intro t K hK; go_simp; (try go_ints); (try ((go_ite <;> go_prune); go_simp)); (try go_ints); exact hK _ rfl)); (· (intro K hK; go_simp; exact hK _ rfl)))
    refine Reg.fin ?_
    have hr1 : -1 ≤ r ∧ r ≤ 1 := by have h3 := hr.out; unfold Cmp at h3; omega
    go_wp2
    go_ret
    exact ⟨-r, rfl, by have h1 := Hs.out; have h2 := Ht.out; have h3 := hr.out; unfold Hid CmpZ; unfold Cmp at h3; simp at h1 h2; omega, hP2.trans' hQ5⟩
end Go.Proofs.Ytddfphneidcibaa
namespace Go.Proofs.Ytddfphneidcibaa
open Go.RowKit
open Nm (W32)
end Go.Proofs.Ytddfphneidcibaa
namespace Go.Proofs.Ytddfphneidcibaa
open Go.RowKit
open Nm (W32)
end Go.Proofs.Ytddfphneidcibaa
namespace Go.Proofs.Ytddfphneidcibaa
open Go.RowKit
open Nm (W32)
/-- Only digits, and no leading zeros? -/
def isDec (b : List UInt8) : Bool := decide (b.length ≠ 0) && !(decide (b.getD 0 0 = 48) && decide (1 < b.length)) && b.all fun c => decide (48 ≤ c.toNat) && decide (c.toNat ≤ 57)

theorem str_at (b : List UInt8) (i : Nat) (h : i < (ByteArray.mk b.toArray).size) : ((ByteArray.mk b.toArray)[i]'h).toNat = (b.getD i 0).toNat := by
  have hi : i < b.length := by simpa [ByteArray.size] using h
  rw [List.getD_eq_getElem?_getD, List.getElem?_eq_getElem hi]
  rfl
theorem isDec_all {b : List UInt8} (h0 : b.length ≠ 0) (hl : ¬ ((b.getD 0 0).toNat = 48 ∧ 1 < b.length)) : isDec b = b.all fun c => decide (48 ≤ c.toNat) && decide (c.toNat ≤ 57) := by
  unfold isDec
  have h1 : (decide (b.getD 0 0 = 48) && decide (1 < b.length)) = false := by
    rw [Bool.and_eq_false_iff]
    by_cases h : b.getD 0 0 = 48
    · right; exact decide_eq_false fun h' => hl ⟨by rw [h]; rfl, h'⟩
    · left; exact decide_eq_false h
  rw [h1, decide_eq_true h0]
  rfl
theorem isDec_lead {b : List UInt8} (h : (b.getD 0 0).toNat = 48) (h1 : 1 < b.length) : isDec b = false := by
  have h' : b.getD 0 0 = 48 := UInt8.toNat_inj.1 (by rw [h]; rfl)
  unfold isDec
  rw [decide_eq_true h', decide_eq_true h1]
  simp

set_option maxHeartbeats 4000000 in
set_option maxRecDepth 100000 in
theorem isDecimal_any (w : World) (b : List UInt8) (hb : b.length ≤ 1000000) : Calls Try.prog 92 #[.string ⟨b.toArray⟩] w fun e w' => e = .returned (.bool (isDec b)) ∧ w = w' := by
  by_cases h0 : b.length = 0
  · have hv : isDec b = false := by simp [isDec, h0]
    have Hv := Lib.hid hv
    have hb0 : b = [] := List.eq_nil_of_length_eq_zero h0
    subst hb0
    clear hv
    go_enter Try.func92, Try.ntmps92
    go_wp2
    go_ret
    exact ⟨by rw [Hv.out]; rfl, rfl⟩
  · have h0b : ((b.length : Int) == 0) = false := beq_eq_false_iff_ne.2 (by omega)
    have hpos : 0 < b.length := by omega
    have hbI : (b.length : Int) ≤ 1000000 := by omega
    have i0 := str_at b 0
    obtain ⟨x, Hx⟩ : ∃ x, Hid (x = (b.getD 0 0).toNat) := ⟨_, rfl⟩
    simp only [← Hx.out] at i0
    by_cases hlead : x = 48 ∧ 1 < b.length
    · obtain ⟨hx, h1⟩ := hlead
      have hv := isDec_lead (b := b) (by rw [← Hx.out]; exact hx) h1
      have Hv := Lib.hid hv
      subst hx
      have h1I : (1 : Int) < (b.length : Int) := by omega
      clear hv
      go_enter Try.func92, Try.ntmps92
      go_wp2
      go_ret
      exact ⟨by rw [Hv.out]; rfl, rfl⟩
    · have hv := isDec_all (b := b) h0 (by rw [← Hx.out]; exact hlead)
      have Hv := Lib.hid hv
      clear hv
      have hcase : ((x : Int) == 48) = false ∨ (x = 48 ∧ (b.length : Int) ≤ 1) := by
        by_cases h : x = 48
        · right; exact ⟨h, by omega⟩
        · left; exact beq_eq_false_iff_ne.2 (by omega)
      clear hlead
      have Hi0 := Lib.hid i0
      rcases hcase with hc | ⟨rfl, hc⟩
      · skip
        go_enter Try.func92, Try.ntmps92
        go_wp2
        go_loopw [2, 3, 19] (fun _ _ i wr => ∃ k : Nat, k ≤ b.length ∧ i = .int .i64 (k : Int) ∧ Hid ((b.take k).all (fun c => decide (48 ≤ c.toNat) && decide (c.toNat ≤ 57)) = true) ∧ w = wr) (fun _ _ i _ => b.length - (intOf i).toNat)
        case atStart => exact ⟨0, by omega, rfl, by unfold Hid; simp, rfl⟩
        case round =>
          clear i0
          obtain ⟨k, hk, rfl, hall, rfl⟩ := hrel
          by_cases hlt : k < b.length
          · have hltI : (k : Int) < (b.length : Int) := by omega
            have ik := str_at b k
            have hg : b.getD k 0 = b[k] := by rw [List.getD_eq_getElem?_getD, List.getElem?_eq_getElem hlt]; rfl
            have Hg := Lib.hid hg
            obtain ⟨y, Hy⟩ : ∃ y, Hid (y = (b.getD k 0).toNat) := ⟨_, rfl⟩
            simp only [← Hy.out] at ik
            clear hg
            have hno : ¬ (48 ≤ y ∧ y ≤ 57) → (b.all fun c => decide (48 ≤ c.toNat) && decide (c.toNat ≤ 57)) = false := by
              intro h
              rw [List.all_eq_false]
              refine ⟨b[k], List.getElem_mem hlt, ?_⟩
              rw [← Hg.out, ← Hy.out]
              simp
              omega
            have Hno := Lib.hid hno
            clear hno
            by_cases h1 : y < 48
            · have h1I : (y : Int) < 48 := by omega
              go_wp2
              go_ret
              exact ⟨by rw [Hv.out, Hno.out (by omega)]; rfl, rfl⟩
            · have h1I : (48 : Int) ≤ (y : Int) := by omega
              by_cases h2 : 57 < y
              · have h2I : (57 : Int) < (y : Int) := by omega
                go_wp2
                go_ret
                exact ⟨by rw [Hv.out, Hno.out (by omega)]; rfl, rfl⟩
              · have h2I : (y : Int) ≤ 57 := by omega
                go_wp2
                go_roundw
                case rel =>
                  refine ⟨k + 1, by omega, by go_num, ?_, trivial⟩
                  unfold Hid
                  rw [List.take_succ_eq_append_getElem hlt, List.all_append, hall.out, ← Hg.out, Bool.true_and]
                  simp only [List.all_cons, List.all_nil, Bool.and_true, ← Hy.out]
                  simp
                  omega
                case measure => simp [intOf]; omega
          · obtain rfl : k = b.length := by omega
            have h := hall.out
            rw [List.take_length] at h
            have Hh := Lib.hid h
            clear h
            go_wp2
            go_ret
            exact ⟨by rw [Hv.out, Hh.out]; rfl, rfl⟩
      · skip
        go_enter Try.func92, Try.ntmps92
        go_wp2
        go_loopw [2, 3, 19] (fun _ _ i wr => ∃ k : Nat, k ≤ b.length ∧ i = .int .i64 (k : Int) ∧ Hid ((b.take k).all (fun c => decide (48 ≤ c.toNat) && decide (c.toNat ≤ 57)) = true) ∧ w = wr) (fun _ _ i _ => b.length - (intOf i).toNat)
        case atStart => exact ⟨0, by omega, rfl, by unfold Hid; simp, rfl⟩
        case round =>
          clear i0
          obtain ⟨k, hk, rfl, hall, rfl⟩ := hrel
          by_cases hlt : k < b.length
          · have hltI : (k : Int) < (b.length : Int) := by omega
            have ik := str_at b k
            have hg : b.getD k 0 = b[k] := by rw [List.getD_eq_getElem?_getD, List.getElem?_eq_getElem hlt]; rfl
            have Hg := Lib.hid hg
            obtain ⟨y, Hy⟩ : ∃ y, Hid (y = (b.getD k 0).toNat) := ⟨_, rfl⟩
            simp only [← Hy.out] at ik
            clear hg
            have hno : ¬ (48 ≤ y ∧ y ≤ 57) → (b.all fun c => decide (48 ≤ c.toNat) && decide (c.toNat ≤ 57)) = false := by
              intro h
              rw [List.all_eq_false]
              refine ⟨b[k], List.getElem_mem hlt, ?_⟩
              rw [← Hg.out, ← Hy.out]
              simp
              omega
            have Hno := Lib.hid hno
            clear hno
            by_cases h1 : y < 48
            · have h1I : (y : Int) < 48 := by omega
              go_wp2
              go_ret
              exact ⟨by rw [Hv.out, Hno.out (by omega)]; rfl, rfl⟩
            · have h1I : (48 : Int) ≤ (y : Int) := by omega
              by_cases h2 : 57 < y
              · have h2I : (57 : Int) < (y : Int) := by omega
                go_wp2
                go_ret
                exact ⟨by rw [Hv.out, Hno.out (by omega)]; rfl, rfl⟩
              · have h2I : (y : Int) ≤ 57 := by omega
                go_wp2
                go_roundw
                case rel =>
                  refine ⟨k + 1, by omega, by go_num, ?_, trivial⟩
                  unfold Hid
                  rw [List.take_succ_eq_append_getElem hlt, List.all_append, hall.out, ← Hg.out, Bool.true_and]
                  simp only [List.all_cons, List.all_nil, Bool.and_true, ← Hy.out]
                  simp
                  omega
                case measure => simp [intOf]; omega
          · obtain rfl : k = b.length := by omega
            have h := hall.out
            rw [List.take_length] at h
            have Hh := Lib.hid h
            clear h
            go_wp2
            go_ret
            exact ⟨by rw [Hv.out, Hh.out]; rfl, rfl⟩
end Go.Proofs.Ytddfphneidcibaa
namespace Go.Proofs.Ytddfphneidcibaa
open Go.RowKit
open Nm (W32)
/-- The value of decimal digits. -/
def decV (ds : List UInt8) : Nat := ds.foldl (fun a c => a * 10 + (c.toNat - 48)) 0
theorem decV_snoc (ds : List UInt8) (c : UInt8) : decV (ds ++ [c]) = decV ds * 10 + (c.toNat - 48) := by simp [decV, List.foldl_append]
theorem decV_from : ∀ (ds : List UInt8) (a : Nat), (∀ c ∈ ds, c.toNat ≤ 57) → ds.foldl (fun a c => a * 10 + (c.toNat - 48)) a < (a + 1) * 10 ^ ds.length
  | [], a, _ => by simp
  | c :: t, a, h => by
    have h1 := decV_from t (a * 10 + (c.toNat - 48)) fun d hd => h d (List.mem_cons_of_mem _ hd)
    have h2 := h c (by simp)
    rw [List.foldl_cons, List.length_cons, Nat.pow_succ]
    refine Nat.lt_of_lt_of_le h1 ?_
    have h3 : (a * 10 + (c.toNat - 48) + 1) * 10 ^ t.length ≤ ((a + 1) * 10) * 10 ^ t.length := Nat.mul_le_mul_right _ (by omega)
    rw [Nat.mul_assoc, Nat.mul_comm 10] at h3
    exact h3
theorem decV_lt (ds : List UInt8) (h : ∀ c ∈ ds, c.toNat ≤ 57) : decV ds < 10 ^ ds.length := by
  have := decV_from ds 0 h
  simpa [decV] using this
/-- The sign in front and the digits. -/
def Cut (b ds : List UInt8) (neg : Bool) : Prop := (neg = true ∧ b = 45 :: ds) ∨ (neg = false ∧ b = ds ∧ ∀ t, ds ≠ 45 :: t)
theorem cut_of (b : List UInt8) : ∃ ds neg, Cut b ds neg := by
  cases b with
  | nil => exact ⟨[], false, .inr ⟨rfl, rfl, fun _ h => by cases h⟩⟩
  | cons c t =>
    by_cases h : c = 45
    · subst h; exact ⟨t, true, .inl ⟨rfl, rfl⟩⟩
    · exact ⟨c :: t, false, .inr ⟨rfl, rfl, fun _ e => by injection e with e; exact h e⟩⟩
theorem cut_any (w : World) (b ds : List UInt8) (neg : Bool) (h : Cut b ds neg) : Calls Try.prog 91 #[.string ⟨b.toArray⟩, .string ⟨#[45]⟩] w fun e w' => e = .returned (.tuple #[.string ⟨ds.toArray⟩, .bool neg]) ∧ w = w' := by
  refine (strings_CutPrefix ⟨b.toArray⟩ ⟨#[45]⟩ w).mono ?_
  rintro e w' ⟨rfl, rfl⟩
  refine ⟨?_, rfl⟩
  rcases h with ⟨rfl, rfl⟩ | ⟨rfl, rfl, h⟩
  · simp [Lib.trimPrefix, Lib.hasPrefix]
  · cases b with
    | nil => simp [Lib.trimPrefix, Lib.hasPrefix]
    | cons c t =>
      have hc : c ≠ 45 := fun e => h t (by rw [e])
      simp [Lib.trimPrefix, Lib.hasPrefix, List.isPrefixOf, Ne.symm hc]

set_option maxHeartbeats 4000000 in
set_option maxRecDepth 100000 in
theorem parse_bad (w : World) (b ds : List UInt8) (neg : Bool) (hc : Cut b ds neg) (hb : b.length ≤ 1000) (h : isDec ds = false ∨ (neg = true ∧ ds = [48])) :
    Calls Try.prog 29 #[.string ⟨b.toArray⟩] w (RI w 0 6) := by
  have hO0 : Only [] w (w.alloc (.cells #[.bool false, .slice none 0 0] 24)) := (Only.refl [] w).alloc _
  have hdl : ds.length ≤ 1000 := by rcases hc with ⟨_, h⟩ | ⟨_, h, _⟩ <;> (rw [h] at hb; first | omega | (simp at hb; omega))
  obtain ⟨k0, k1, f0, f1⟩ := (Blk.int0 w).two
  have Hc := Lib.hid hc
  clear hc
  rcases h with h | ⟨rfl, rfl⟩
  · have Hd := Lib.hid h
    clear h
    go_enter Try.func29, Try.ntmps29
    go_wp2_with (first
      | (go_at_call 91; refine (cut_any _ b ds neg Hc.out).mono ?_; rintro e w' ⟨rfl, rfl⟩)
      | (go_at_call 92; have hd := isDecimal_any (w.alloc (.cells #[.bool false, .slice none 0 0] 24)) ds (by omega); rw [Hd.out] at hd; refine hd.mono ?_; rintro e w' ⟨rfl, rfl⟩))
    exact bodyPost_ret (results_row_tmp rfl _ _ (w.heap.size) 24 [_, _] _ rfl ((Blk.int0 w)) Try.underlying24 rfl isz) rfl (RI.of rfl (IntS.zero _ _ _) (Frs.none (w.alloc (.cells #[.bool false, .slice none 0 0] 24))) (by simp) (Nat.le_refl _) hO0 (Only.refl _ _))
  · have Hd : Hid (isDec [48] = true) := by unfold Hid; decide
    go_enter Try.func29, Try.ntmps29
    go_wp2_with (first
      | (go_at_call 91; refine (cut_any _ b [48] true Hc.out).mono ?_; rintro e w' ⟨rfl, rfl⟩)
      | (go_at_call 92; have hd := isDecimal_any (w.alloc (.cells #[.bool false, .slice none 0 0] 24)) [48] (by decide); rw [Hd.out] at hd; refine hd.mono ?_; rintro e w' ⟨rfl, rfl⟩))
    exact bodyPost_ret (results_row_tmp rfl _ _ (w.heap.size) 24 [_, _] _ rfl ((Blk.int0 w)) Try.underlying24 rfl isz) rfl (RI.of rfl (IntS.zero _ _ _) (Frs.none (w.alloc (.cells #[.bool false, .slice none 0 0] 24))) (by simp) (Nat.le_refl _) hO0 (Only.refl _ _))
end Go.Proofs.Ytddfphneidcibaa
namespace Go.Proofs.Ytddfphneidcibaa
open Go.RowKit
open Nm (W32)
set_option maxHeartbeats 4000000 in
set_option maxRecDepth 100000 in
theorem parse_long (w : World) (b ds : List UInt8) (neg : Bool) (hc : Cut b ds neg) (hb : b.length ≤ 1000) (hd : isDec ds = true) (hl : 155 < ds.length) :
    Calls Try.prog 29 #[.string ⟨b.toArray⟩] w (RI w 0 7) := by
  have hlI : (155 : Int) < (ds.length : Int) := by omega
  obtain ⟨k0, k1, f0, f1⟩ := (Blk.int0 w).two
  have hne : (ds == [48]) = false := beq_eq_false_iff_ne.2 fun h => by rw [h] at hl; simp at hl
  cases neg
  all_goals
    have hO0 : Only [] w (w.alloc (.cells #[.bool false, .slice none 0 0] 24)) := (Only.refl [] w).alloc _
    have hdl : ds.length ≤ 1000 := by rcases hc with ⟨_, h⟩ | ⟨_, h, _⟩ <;> (rw [h] at hb; first | omega | (simp at hb; omega))
    have Hc := Lib.hid hc
    have Hd := Lib.hid hd
    clear hc hd
    go_enter Try.func29, Try.ntmps29
    go_wp2_with fail
    refine (cut_any _ b ds _ Hc.out).mono ?_
    rintro e w' ⟨rfl, rfl⟩
    go_wp2_with fail
    have hdd := isDecimal_any (w.alloc (.cells #[.bool false, .slice none 0 0] 24)) ds (by omega)
    rw [Hd.out] at hdd
    refine hdd.mono ?_
    clear hdd
    rintro e w' ⟨rfl, rfl⟩
    go_wp2
    exact bodyPost_ret (results_row_tmp rfl _ _ (w.heap.size) 24 [_, _] _ rfl ((Blk.int0 w)) Try.underlying24 rfl isz) rfl (RI.of rfl (IntS.zero _ _ _) (Frs.none (w.alloc (.cells #[.bool false, .slice none 0 0] 24))) (by simp) (Nat.le_refl _) hO0 (Only.refl _ _))

theorem isDec_dig {ds : List UInt8} (h : isDec ds = true) : ∀ c ∈ ds, 48 ≤ c.toNat ∧ c.toNat ≤ 57 := by
  unfold isDec at h
  simp only [Bool.and_eq_true, List.all_eq_true, decide_eq_true_eq] at h
  exact h.2
theorem dec_w32 {ds : List UInt8} (h : isDec ds = true) (hl : ds.length ≤ 155) (k : Nat) : decV (ds.take k) < W32 ^ 17 := by
  have h1 := decV_lt (ds.take k) fun c hc => (isDec_dig h c (List.mem_of_mem_take hc)).2
  refine Nat.lt_of_lt_of_le h1 ?_
  have h2 : 10 ^ (ds.take k).length ≤ 10 ^ 155 := Nat.pow_le_pow_right (by decide) (by rw [List.length_take]; omega)
  exact Nat.le_trans h2 (by decide +kernel)
theorem decV_next {ds : List UInt8} {k : Nat} (hk : k < ds.length) : decV (ds.take (k + 1)) = decV (ds.take k) * 10 + ((ds.getD k 0).toNat - 48) := by
  have hg : ds.getD k 0 = ds[k] := by rw [List.getD_eq_getElem?_getD, List.getElem?_eq_getElem hk]; rfl
  rw [List.take_succ_eq_append_getElem hk, decV_snoc, hg]
/-- A slice of one word below ten. -/
theorem rv_one (w : World) (v : Nat) (hv : v < W32) : RV (w.alloc (.cells #[.int .u32 (v : Int)] 83)) (some ⟨w.heap.size, 0, none⟩) (cN .u32 (Nm.pad W32 1 v)) :=
  RV.new (by simp [Nm.pad, cN, Nat.mod_eq_of_lt hv])

set_option maxHeartbeats 4000000 in
set_option maxRecDepth 100000 in
theorem parse_good (w : World) (b ds : List UInt8) (neg : Bool) (hc : Cut b ds neg) (hb : b.length ≤ 1000) (hd : isDec ds = true) (hn0 : ¬ (neg = true ∧ ds = [48])) (hl : ds.length ≤ 155) :
    Calls Try.prog 29 #[.string ⟨b.toArray⟩] w (RI w (limZ (sgn neg (decV ds))) (limE (sgn neg (decV ds)))) := by
  have hlI : (ds.length : Int) ≤ 155 := by omega
  generalize hz : limZ (sgn neg (decV ds)) = zz
  generalize he : limE (sgn neg (decV ds)) = ee
  have Hz := Lib.hid hz
  have He := Lib.hid he
  have hne : neg = true → (ds == [48]) = false := fun h => beq_eq_false_iff_ne.2 fun h' => hn0 ⟨h, h'⟩
  clear hz he hn0
  cases neg
  all_goals
    have hne := hne
    simp only [forall_const, Bool.false_eq_true, false_implies] at hne
    have hO0 : Only [] w (w.alloc (.cells #[.bool false, .slice none 0 0] 24)) := (Only.refl [] w).alloc _
    have hdl : ds.length ≤ 1000 := by rcases hc with ⟨_, h⟩ | ⟨_, h, _⟩ <;> (rw [h] at hb; first | omega | (simp at hb; omega))
    have Hc := Lib.hid hc
    have Hd := Lib.hid hd
    clear hc hd
    go_enter Try.func29, Try.ntmps29
    go_wp2_with fail
    refine (cut_any _ b ds _ Hc.out).mono ?_
    rintro e w' ⟨rfl, rfl⟩
    go_wp2_with fail
    have hdd := isDecimal_any (w.alloc (.cells #[.bool false, .slice none 0 0] 24)) ds (by omega)
    rw [Hd.out] at hdd
    refine hdd.mono ?_
    clear hdd
    rintro e w' ⟨rfl, rfl⟩
    go_wp2
    go_loopw [6, 7, 30] (fun x _ i wr => ∃ (k : Nat) (Ax : Option Addr) (nx cx : Nat), i = .int .i64 (k : Int) ∧ k ≤ ds.length ∧ x = .slice Ax nx cx ∧ NatS wr Ax nx cx (decV (ds.take k)) ∧ Only [] (w.alloc (.cells #[.bool false, .slice none 0 0] 24)) wr) (fun _ _ i _ => ds.length - (intOf i).toNat)
    case atStart => exact ⟨0, none, 0, 0, rfl, Nat.zero_le _, rfl, by simpa [decV] using NatS.zero _ _ _, Only.refl _ _⟩
    case round =>
      obtain ⟨k, Ax, nx, cx, rfl, hk, rfl, hNx, hOr⟩ := hrel
      have hnx : nx ≤ 17 := hNx.n_le (dec_w32 Hd.out hl k)
      by_cases hlt : k < ds.length
      · have hltI : (k : Int) < (ds.length : Int) := by omega
        have ik := str_at ds k
        have hdig : 48 ≤ (ds.getD k 0).toNat ∧ (ds.getD k 0).toNat ≤ 57 := by
          rw [List.getD_eq_getElem?_getD, List.getElem?_eq_getElem hlt, Option.getD_some]
          exact isDec_dig Hd.out _ (List.getElem_mem hlt)
        have Hnext := Lib.hid (decV_next hlt)
        obtain ⟨y, Hy⟩ : ∃ y, Hid (y = (ds.getD k 0).toNat) := ⟨_, rfl⟩
        simp only [← Hy.out] at ik hdig Hnext
        obtain ⟨hy1, hy2⟩ := hdig
        obtain ⟨dd, Hdd⟩ : ∃ dd, Hid (dd = y - 48) := ⟨_, rfl⟩
        rw [← Hdd.out] at Hnext
        have hyd : (y : Int) - 48 = (dd : Int) := by have := Hdd.out; omega
        have hy1I : (48 : Int) ≤ (y : Int) := by omega
        have hy2I : (y : Int) ≤ 57 := by omega
        have hdd9 : dd ≤ 9 := by have := Hdd.out; omega
        have hddI : (dd : Int) ≤ 9 := by omega
        have Hdd1 : Hid (dd < W32 ^ 1) := by unfold Hid; rw [Nat.pow_one]; exact Nat.lt_of_le_of_lt hdd9 (by decide)
        have HddW : Hid (dd < W32) := Nat.lt_of_le_of_lt hdd9 (by decide)
        have HM : Hid (decV (ds.take k) * 10 < W32 ^ 18) := by
          unfold Hid
          have h1 := dec_w32 Hd.out hl k
          rw [show 18 = 17 + 1 from rfl, Nat.pow_succ]
          exact Nat.mul_lt_mul'' h1 (by decide)
        go_wp2
        refine Reg.wpT [] (.r 0 (.r 3 (.r 4 (.r 5 (.r 6 (.r 7 (.two 1 (.two 2 (.e 8 (.e 9 (.e 10 (.r 11 .fin)))) 8 (.e 2 (.e 9 (.e 10 (.r 11 .fin))))) 8 (.e 1 (.e 2 (.e 9 (.e 10 (.r 11 .fin)))))))))))) (by kernel_rfl) (by kernel_rfl) (fun d _ _ _ _ h => by cases d <;> exact h) ?_
        simp only [Reg.pickT, List.getD_cons_succ, List.getD_cons_zero]
        iterate 6 (apply Reg.readT; (· (intro t K hK; go_simp; (try go_ints); (try ((go_ite <;> go_prune); go_simp)); (try go_ints); exact hK _ rfl)); (· (intro K hK; go_simp; exact hK _ rfl)))
        refine Reg.twoT ?_ ?_
        · go_wp2
          have hOa := (Only.refl [] wr.drew).alloc (.cells #[.int .u32 10] 83)
          have hNa : NatS (wr.drew.alloc (.cells #[.int .u32 10] 83)) (some ⟨wr.heap.size, 0, none⟩) 1 1 10 := NatS.one wr.drew 10 (by decide) (by decide)
          refine ⟨hOa, ?_⟩
          revert hOa hNa
          show (_ → _ → Reg.wpTr _ _ _ _ _ _ (wr.drew.alloc (.cells #[.int .u32 10] 83)))
          generalize wr.drew.alloc (.cells #[.int .u32 10] 83) = wa
          intro hOa hNa
          refine Reg.twoT ?_ ?_
          · skip
            go_wp2_with (go_at_call 87; refine (mulNat_any (wa) Ax _ nx cx 1 1 (decV (ds.take k)) 10 (by omega) (by decide) (hNx.drew.keep hOa) (hNa)).mono ?_; rintro e wm ⟨Am, nm, cm, rfl, hNm, hOm⟩)
            refine ⟨hOm, ?_⟩
            refine Reg.effT ?_
            go_wp2
            have hOd := (Only.refl [] wm).alloc (.cells #[.int .u32 (dd : Int)] 83)
            refine ⟨hOd, ?_⟩
            have hRd := rv_one wm dd HddW.out
            refine Reg.effT ?_
            go_wp2_with (go_at_call 83; refine (trim_any (_) _ 1 1 dd (Nat.le_refl _) (by decide) Hdd1.out (hRd)).mono ?_; rintro e w' ⟨mt, rfl, rfl, hNt⟩)
            refine ⟨Only.refl _ _, ?_⟩
            refine Reg.effT ?_
            go_wp2_with (go_at_call 93; refine (addNat_any (_) Am _ nm cm mt 1 _ dd (Nat.le_trans (hNm.n_le HM.out) (by decide)) (Nat.le_trans (hNt.n_le Hdd1.out) (by decide)) (hNm.keep hOd) hNt).mono ?_; rintro e wz ⟨Az, nz, cz, rfl, hNz, hOz⟩)
            refine ⟨hOz, ?_⟩
            (apply Reg.readT; (· (intro t K hK; go_simp; (try go_ints); (try ((go_ite <;> go_prune); go_simp)); (try go_ints); exact hK _ rfl)); (· (intro K hK; go_simp; exact hK _ rfl)))
            refine Reg.finT ?_
            go_wp2
            go_roundw
            case rel => exact ⟨k + 1, Az, nz, cz, by go_num, by omega, rfl, by rw [Hnext.out]; exact hNz, hOr.trans' (Only.undrew (w := wr) (((hOa.trans' hOm).trans' hOd).trans' hOz))⟩
            case measure => simp [intOf]; omega
          · go_wp2
            have hOd := (Only.refl [] wa).alloc (.cells #[.int .u32 (dd : Int)] 83)
            refine ⟨hOd, ?_⟩
            have hRd := rv_one wa dd HddW.out
            refine Reg.effT ?_
            go_wp2_with (go_at_call 87; refine (mulNat_any (_) Ax _ nx cx 1 1 (decV (ds.take k)) 10 (by omega) (by decide) ((hNx.drew.keep hOa).keep hOd) (hNa.keep hOd)).mono ?_; rintro e wm ⟨Am, nm, cm, rfl, hNm, hOm⟩)
            refine ⟨hOm, ?_⟩
            refine Reg.effT ?_
            go_wp2_with (go_at_call 83; refine (trim_any (wm) _ 1 1 dd (Nat.le_refl _) (by decide) Hdd1.out (hRd.keep0 hOm)).mono ?_; rintro e w' ⟨mt, rfl, rfl, hNt⟩)
            refine ⟨Only.refl _ _, ?_⟩
            refine Reg.effT ?_
            go_wp2_with (go_at_call 93; refine (addNat_any (wm) Am _ nm cm mt 1 _ dd (Nat.le_trans (hNm.n_le HM.out) (by decide)) (Nat.le_trans (hNt.n_le Hdd1.out) (by decide)) (hNm) hNt).mono ?_; rintro e wz ⟨Az, nz, cz, rfl, hNz, hOz⟩)
            refine ⟨hOz, ?_⟩
            (apply Reg.readT; (· (intro t K hK; go_simp; (try go_ints); (try ((go_ite <;> go_prune); go_simp)); (try go_ints); exact hK _ rfl)); (· (intro K hK; go_simp; exact hK _ rfl)))
            refine Reg.finT ?_
            go_wp2
            go_roundw
            case rel => exact ⟨k + 1, Az, nz, cz, by go_num, by omega, rfl, by rw [Hnext.out]; exact hNz, hOr.trans' (Only.undrew (w := wr) (((hOa.trans' hOd).trans' hOm).trans' hOz))⟩
            case measure => simp [intOf]; omega
        · go_wp2
          have hOd := (Only.refl [] wr.drew).alloc (.cells #[.int .u32 (dd : Int)] 83)
          have hRd : RV (wr.drew.alloc (.cells #[.int .u32 (dd : Int)] 83)) (some ⟨wr.heap.size, 0, none⟩) (cN .u32 (Nm.pad W32 1 dd)) := rv_one wr.drew dd HddW.out
          refine ⟨hOd, ?_⟩
          revert hOd hRd
          show (_ → _ → Reg.wpTr _ _ _ _ _ _ (wr.drew.alloc (.cells #[.int .u32 (dd : Int)] 83)))
          generalize wr.drew.alloc (.cells #[.int .u32 (dd : Int)] 83) = wd
          intro hOd hRd
          refine Reg.effT ?_
          go_wp2
          have hOa := (Only.refl [] wd).alloc (.cells #[.int .u32 10] 83)
          have hNa : NatS (wd.alloc (.cells #[.int .u32 10] 83)) (some ⟨wd.heap.size, 0, none⟩) 1 1 10 := NatS.one wd 10 (by decide) (by decide)
          refine ⟨hOa, ?_⟩
          refine Reg.effT ?_
          go_wp2_with (go_at_call 87; refine (mulNat_any (_) Ax _ nx cx 1 1 (decV (ds.take k)) 10 (by omega) (by decide) ((hNx.drew.keep hOd).keep hOa) (hNa)).mono ?_; rintro e wm ⟨Am, nm, cm, rfl, hNm, hOm⟩)
          refine ⟨hOm, ?_⟩
          refine Reg.effT ?_
          go_wp2_with (go_at_call 83; refine (trim_any (wm) _ 1 1 dd (Nat.le_refl _) (by decide) Hdd1.out ((hRd.keep0 hOa).keep0 hOm)).mono ?_; rintro e w' ⟨mt, rfl, rfl, hNt⟩)
          refine ⟨Only.refl _ _, ?_⟩
          refine Reg.effT ?_
          go_wp2_with (go_at_call 93; refine (addNat_any (wm) Am _ nm cm mt 1 _ dd (Nat.le_trans (hNm.n_le HM.out) (by decide)) (Nat.le_trans (hNt.n_le Hdd1.out) (by decide)) (hNm) hNt).mono ?_; rintro e wz ⟨Az, nz, cz, rfl, hNz, hOz⟩)
          refine ⟨hOz, ?_⟩
          (apply Reg.readT; (· (intro t K hK; go_simp; (try go_ints); (try ((go_ite <;> go_prune); go_simp)); (try go_ints); exact hK _ rfl)); (· (intro K hK; go_simp; exact hK _ rfl)))
          refine Reg.finT ?_
          go_wp2
          go_roundw
          case rel => exact ⟨k + 1, Az, nz, cz, by go_num, by omega, rfl, by rw [Hnext.out]; exact hNz, hOr.trans' (Only.undrew (w := wr) (((hOd.trans' hOa).trans' hOm).trans' hOz))⟩
          case measure => simp [intOf]; omega
      · obtain rfl : k = ds.length := by omega
        rw [List.take_length] at hNx
        have hnxw : nx ≤ 99999 := by omega
        have hBr := (Blk.int0 w).keep hOr (by simp)
        have hsz : w.heap.size < wr.heap.size := Nat.lt_of_lt_of_le (by simp) hOr.size
        go_wp2_with (go_at_call 82
                     (first | (have hb := build_any wr false Ax nx cx (decV ds) hnxw hNx; rw [Hz.out, He.out] at hb; refine hb.mono ?_) | (have hb := build_any wr true Ax nx cx (decV ds) hnxw hNx; rw [Hz.out, He.out] at hb; refine hb.mono ?_))
                     rintro e w9 ⟨s9, A9, n9, c9, rfl, hI9, hF9, hO9⟩
                     have hBr9 := hBr.keep hO9 (by simp)
                     obtain ⟨p0, p1, f0, f1⟩ := hBr9.two)
        exact bodyPost_ret (results_row_tmp rfl _ _ (w.heap.size) 24 [_, _] _ rfl (hBr9.put2 _ _) Try.underlying24 rfl isz) rfl (RI.of rfl hI9 hF9 hsz (Nat.le_refl _) ((hO0.trans' hOr).trans' hO9) (only_put2 _ _ _ _))
end Go.Proofs.Ytddfphneidcibaa
