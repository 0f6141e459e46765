/-
  THE WALK of number's decimal.
-/
import Derived.Test.YtddfphneidcibaaD2
namespace Go.Proofs.Ytddfphneidcibaa
open Go.RowKit
open Nm (W32)

/-- m decimal digits, the lowest first, as characters. -/
def chs (m X : Nat) : List Nat := (Nm.pad 10 m X).map (· + 48)
@[simp] theorem chs_length (m X : Nat) : (chs m X).length = m := by simp [chs]
theorem chs_snoc (m X : Nat) : chs (m + 1) X = chs m X ++ [X / 10 ^ m % 10 + 48] := by rw [chs, Nm.pad_snoc, List.map_append]; rfl
theorem chs_getD (m X i : Nat) (h : i < m) : (chs m X).getD i 0 = X / 10 ^ i % 10 + 48 := by
  have := Nm.pad_getD 10 m X i h
  rw [List.getD_eq_getElem?_getD] at this ⊢
  rw [chs, List.getElem?_map, List.getElem?_eq_getElem (by simpa using h)] at *
  simp at this ⊢
  exact this
theorem chs_take (k m X : Nat) (h : k ≤ m) : (chs m X).take k = chs k X := by rw [chs, ← List.map_take, Nm.take_pad _ _ _ _ h, chs]
/-- The decimal form of a number. -/
def decs (X : Nat) : List Nat := if X = 0 then [48] else (chs (Nm.len 10 X) X).reverse

theorem NatS.keepG {w w' : World} {A : Option Addr} {n c X : Nat} {S : List Nat} (h : NatS w A n c X) (ho : Only S w w') (hd : 0 < n → ∀ p, A = some p → p.block ∉ S) : NatS w' A n c X := by
  refine ⟨h.n_eq, h.le, ?_⟩
  by_cases h0 : n = 0
  · have : X = 0 := (Nm.len_eq_zero (B := W32) (by decide)).1 (by rw [← h.n_eq]; exact h0)
    rw [this, Nm.dg_zero]
    exact RV.nil
  · exact h.rd.keep ho (hd (by omega))
theorem chunk_next (X k j r : Nat) (hj : j < 9) (hr : r = X / 1000000000 ^ k % 1000000000) : r / 10 ^ j % 10 = X / 10 ^ (9 * k + j) % 10 := by rw [hr]; exact Nm.chunk_dig X k j hj

set_option maxHeartbeats 4000000 in
set_option maxRecDepth 100000 in
theorem decimal_any (w : World) (A : Option Addr) (n c X : Nat) (hX : X < big512) (hX0 : X ≠ 0) (hA : NatS w A n c X) :
    Calls Try.prog 94 #[.slice A n c] w fun e w' => ∃ A' n' c', e = .returned (.slice A' n' c') ∧ n' = (decs X).length ∧ n' ≤ c' ∧ RV w' A' (cN .u8 (decs X)) ∧ Only [] w w' := by
  have hl : Nm.len 10 X ≤ 155 := (Nm.len_le (by decide) _ _).2 (Nat.lt_of_lt_of_le hX (by unfold big512; decide +kernel))
  have hn : n ≤ 16 := hA.n_le (big_w32 (z := (X : Int)) (by simpa using hX))
  have hn0 : n ≠ 0 := by rw [hA.n_eq]; exact fun h => hX0 ((Nm.len_eq_zero (B := W32) (by decide)).1 h)
  have hn0b : ((n : Int) == 0) = false := beq_eq_false_iff_ne.2 (by omega)
  have HX0 := Lib.hid hX0
  have Hl := Lib.hid hl
  have HXb := Lib.hid hX
  clear hX hX0 hl
  go_enter Try.func94, Try.ntmps94
  go_wp2
  go_loopw [0, 3, 4] (fun x out _ wr => ∃ (k : Nat) (Ax : Option Addr) (nx cx : Nat) (Ao : Option Addr) (mo co : Nat) (G : Option Nat), x = .slice Ax nx cx ∧ NatS wr Ax nx cx (X / 1000000000 ^ k) ∧ out = .slice Ao mo co ∧ mo = 9 * k ∧ mo ≤ 200 ∧ OwnS wr 5 Ao co (cN .u8 (chs mo X)) G ∧ New w G ∧ (0 < nx → ∀ p, Ax = some p → p.block ∉ G.toList) ∧ Only [] w wr ∧ Hid (k = 0 ∨ X / 1000000000 ^ (k - 1) ≠ 0)) (fun _ out _ _ => 300 - lenV out)
  case atStart => exact ⟨0, A, n, c, none, 0, 0, none, rfl, by simpa using hA, rfl, by omega, by omega, OwnS.none _ _, New.none _, fun _ => by simp, Only.refl _ _, .inl rfl⟩
  case round =>
    obtain ⟨k, Ax, nx, cx, Ao, mo, co, G, rfl, hNx, rfl, hmo, hm2, hown, hnew, hdis, hO, Hk⟩ := hrel
    by_cases hx0 : X / 1000000000 ^ k = 0
    · have hnx0 : nx = 0 := by rw [hNx.n_eq, hx0, Nm.len_zero]
      subst hnx0
      have hXm : X < 10 ^ mo := by
        rw [hmo, Nat.pow_mul]
        exact Nat.lt_of_not_le fun h => absurd hx0 (Nat.ne_of_gt (Nat.div_pos h (Nat.pow_pos (by decide))))
      have hmo0 : 0 < mo := Nat.pos_of_ne_zero fun h => HX0.out (by rw [h] at hXm; simpa using hXm)
      obtain ⟨g, r, rfl, rfl, hB⟩ := hown.blk (by simpa using hmo0)
      have hco : mo ≤ co := by have := hown.le; simpa using this
      have hg := hnew g rfl
      have HXm := Lib.hid hXm
      have HB := Lib.hid hB
      clear hXm hown hNx hdis hnew hmo Hk hx0 hB
      go_wp2
      go_loopw [3] (fun out wj => ∃ m : Nat, out = .slice (some ⟨g, 0, none⟩) m co ∧ 0 < m ∧ m ≤ mo ∧ Hid (X < 10 ^ m) ∧ wr = wj) (fun out _ => lenV out)
      case atStart => exact ⟨mo, rfl, hmo0, Nat.le_refl _, HXm.out, rfl⟩
      case round =>
        obtain ⟨m, rfl, hm0, hmm, hXm, rfl⟩ := hrel
        obtain ⟨j, rfl⟩ : ∃ j, m = j + 1 := ⟨m - 1, by omega⟩
        have c1 := HB.out.getN (q := j) (by simp; omega)
        rw [chs_getD _ _ _ (by omega)] at c1
        have hjm : (j : Int) ≤ 1000000 := by omega
        have hjc : (j : Int) ≤ (co : Int) := by omega
        obtain ⟨dd, Hdd⟩ : ∃ dd, Hid (dd = X / 10 ^ j % 10) := ⟨_, rfl⟩
        rw [← Hdd.out] at c1
        by_cases hd0 : dd = 0
        · subst hd0
          have hlt := Nm.top_zero (by decide) hXm.out Hdd.out.symm
          have hj0 : 0 < j := Nat.pos_of_ne_zero fun h => HX0.out (by rw [h] at hlt; simpa using hlt)
          have Hlt := Lib.hid hlt
          clear hlt
          go_wp2
          go_roundw
          case rel => exact ⟨j, rfl, hj0, by omega, Hlt, trivial⟩
          case measure => simp [lenV]
        · have hlen := Nm.top_len (by decide) hXm.out (by rw [← Hdd.out]; exact hd0)
          have Hlen := Lib.hid hlen
          have e1 : (((dd + 48 : Nat) : Int) == 48) = false := beq_eq_false_iff_ne.2 (by omega)
          have e2 : ((dd : Int) + 48 == 48) = false := beq_eq_false_iff_ne.2 (by omega)
          have hB2 : Blk wr g 5 (cN .u8 (chs (j + 1) X) ++ (cN .u8 ((chs mo X).drop (j + 1)) ++ r)) := by
            rw [← List.append_assoc, ← cN_append, ← chs_take (j + 1) mo X hmm, List.take_append_drop]
            exact HB.out
          have HB2 := Lib.hid hB2
          clear hlen hB2
          go_wp2_with (go_at_call 113; refine (reverse_any wr g (j + 1) co (chs (j + 1) X) _ (by simp) (by omega) HB2.out).mono ?_; rintro e w9 ⟨rfl, hB9, hO9⟩)
          go_ret
          have ed : decs X = (chs (j + 1) X).reverse := by unfold decs; rw [if_neg HX0.out, Hlen.out]
          exact ⟨_, _, _, rfl, by rw [ed]; simp, by omega, by rw [ed]; exact hB9.rvN, hO.trans hO9 (by intro x hx hlt; simp at hx; omega)⟩
    · have hnx : 0 < nx := by rw [hNx.n_eq]; exact Nat.pos_of_ne_zero fun h => hx0 ((Nm.len_eq_zero (B := W32) (by decide)).1 h)
      have hnxI : (0 : Int) < (nx : Int) := by omega
      have hnx16 : nx ≤ 16 := hNx.n_le (Nat.lt_of_le_of_lt (Nat.div_le_self _ _) (big_w32 (z := (X : Int)) (by simpa using HXb.out)))
      have hmlen : mo < 155 := by
        have h1 : ¬ Nm.len 10 X ≤ mo := by
          rw [Nm.len_le (by decide), hmo, Nat.pow_mul]
          intro h
          exact hx0 (Nat.div_eq_of_lt h)
        have := Hl.out
        omega
      have Hmo := Lib.hid hmo
      have Hx0 := Lib.hid hx0
      clear hmo hx0
      go_wp2_with fail
      refine (divSmall_any wr Ax nx cx (X / 1000000000 ^ k) 1000000000 (by omega) (by decide) (by decide) hNx).mono ?_
      rintro e w1 ⟨A1, n1, c1, r1, rfl, hN1, hr1, hO1, hf1⟩
      rw [Nat.div_div_eq_div_mul, ← Nat.pow_succ] at hN1
      have hg1 : ∀ p, A1 = some p → p.block ∉ G.toList := by
        intro p hp hm
        have := hf1 p hp
        cases G with
        | none => simp at hm
        | some g =>
          simp at hm
          have := hown.lt g rfl
          omega
      have hs1 := hO1.size
      have hlt1 : ∀ p, A1 = some p → 0 < n1 → p.block < w1.heap.size := by
        intro p hp h0
        obtain ⟨g, o, e, hg, -⟩ := hN1.at h0
        rw [hp] at e
        injection e with e
        rw [e]
        exact hg
      have hown1 := hown.keep hO1 (by simp)
      have hP1 := hO.trans' hO1
      have hr1l : r1 < 1000000000 := by rw [hr1.out]; exact Nat.mod_lt _ (by decide)
      clear hown hNx hdis hf1
      go_wp2
      go_loopw [3, 4, 17] (fun out rst i wj => ∃ (j mj : Nat) (Aj : Option Addr) (cj : Nat) (Gj : Option Nat) (rj : Nat), j ≤ 9 ∧ i = .int .i64 (j : Int) ∧ out = .slice Aj mj cj ∧ mj = mo + j ∧ OwnS wj 5 Aj cj (cN .u8 (chs mj X)) Gj ∧ New w Gj ∧ rst = .int .u32 (rj : Int) ∧ Hid (rj = r1 / 10 ^ j) ∧ rj < 1000000000 ∧ NatS wj A1 n1 c1 (X / 1000000000 ^ k.succ) ∧ (0 < n1 → ∀ p, A1 = some p → p.block ∉ Gj.toList) ∧ Only [] w wj ∧ w1.heap.size ≤ wj.heap.size) (fun _ _ i _ => 9 - (intOf i).toNat)
      case atStart => exact ⟨0, mo, Ao, co, G, r1, by omega, rfl, rfl, rfl, hown1, hnew, rfl, by unfold Hid; simp, hr1l, hN1, fun _ => hg1, hP1, Nat.le_refl _⟩
      case round =>
        clear hown1 hN1 hP1 hg1
        obtain ⟨j, mj, Aj, cj, Gj, rj, hj9, rfl, rfl, hmj, hown, hnew, rfl, hrj, hrl, hN, hdis, hO, hsz⟩ := hrel
        by_cases hlt : j < 9
        · have hltI : (j : Int) < 9 := by omega
          obtain ⟨dd, Hdd⟩ : ∃ dd, Hid (dd = rj % 10) := ⟨_, rfl⟩
          obtain ⟨rn, Hrn⟩ : ∃ rn, Hid (rn = rj / 10) := ⟨_, rfl⟩
          have hd1 : (rj : Int) % 10 = (dd : Int) := by have := Hdd.out; omega
          have hd2 : (rj : Int) / 10 = (rn : Int) := by have := Hrn.out; omega
          have hd3 : (dd : Int) ≤ 9 := by have := Hdd.out; omega
          have hrn : rn < 1000000000 := by have := Hrn.out; omega
          have hmj2 : mj ≤ 200 := by omega
          have hchs : cN .u8 (chs (mj + 1) X) = cN .u8 (chs mj X) ++ cN .u8 [dd + 48] := by
            rw [chs_snoc, cN_append]
            have : X / 10 ^ mj % 10 = dd := by
              rw [Hdd.out, hrj.out, chunk_next X k j r1 hlt hr1.out, ← Hmo.out, ← hmj]
            rw [this]
          have Hchs := Lib.hid hchs
          have Hmj := Lib.hid hmj
          clear hchs hmj hrl
          obtain ⟨wj, rfl⟩ : ∃ wj : World, wj = wr := ⟨_, rfl⟩
          go_wp2_with (at_builtin
                       refine wpl_app rfl (.tmp 19) (.tmp 24) 22 5 rfl (.int .u8 0) 1 Try.underlying22 info8 rfl Aj mj cj (cN .u8 (chs mj X)) Gj rfl (by simp) (hown.keep ((Only.refl [] wj).alloc _) (by simp)) (some ⟨wj.heap.size, 0, none⟩) 1 1 (cN .u8 [dd + 48]) rfl rfl (RV.new (by simp [cN, Int.add_comm])) cN_one (by simp; omega) (by decide) ?_
                       intro A2 c2 w2 G2 hown2 hG2
                       rw [← Hchs.out] at hown2
                       have hx := only_app hG2
                       have hO2 : Only [] w w2 := (hO.alloc _).trans hx hnew.out
                       have hsz2 : w1.heap.size ≤ w2.heap.size := Nat.le_trans hsz (Nat.le_trans (by simp) hx.size)
                       have hN2 := (hN.keep ((Only.refl [] wj).alloc _)).keepG hx hdis
                       have hn2 : New w G2 := by
                         rcases hG2 with ⟨e, _⟩ | ⟨e, _⟩
                         · rw [e]; exact hnew
                         · rw [e]; intro g hg; injection hg with hg; have := hO.size; simp at hg; omega
                       have hdis2 : 0 < n1 → ∀ p, A1 = some p → p.block ∉ G2.toList := by
                         intro h0 p hp
                         rcases hG2 with ⟨e, _⟩ | ⟨e, _⟩
                         · rw [e]; exact hdis h0 p hp
                         · rw [e]; have := hlt1 p hp h0; simp; omega
                       clear hG2 hx hown hN hdis hnew hO hsz)
          go_roundw
          case rel => exact ⟨j + 1, mj + 1, A2, c2, G2, rn, by omega, by go_num, rfl, by have := Hmj.out; omega, hown2, hn2, rfl, by unfold Hid; rw [Hrn.out, hrj.out, Nat.div_div_eq_div_mul, Nat.pow_succ], hrn, hN2, hdis2, hO2, hsz2⟩
          case measure => simp [intOf]; omega
        · obtain rfl : j = 9 := by omega
          go_wp2
          go_roundw
          case rel => exact ⟨k + 1, A1, n1, c1, Aj, mj, cj, Gj, rfl, hN, rfl, by have := Hmo.out; omega, by omega, hown, hnew, hdis, hO, .inr (by simpa using Hx0.out)⟩
          case measure => simp [lenV]; omega
set_option maxHeartbeats 4000000 in
set_option maxRecDepth 100000 in
theorem decimal_zero (w : World) (A : Option Addr) (c : Nat) : Calls Try.prog 94 #[.slice A 0 c] w fun e w' => ∃ A' n' c', e = .returned (.slice A' n' c') ∧ n' = (decs 0).length ∧ n' ≤ c' ∧ RV w' A' (cN .u8 (decs 0)) ∧ Only [] w w' := by
  go_enter Try.func94, Try.ntmps94
  go_wp2
  go_ret
  exact ⟨_, _, _, rfl, rfl, Nat.le_refl _, RV.new rfl, (Only.refl [] w).alloc _⟩
theorem decimal_all (w : World) (A : Option Addr) (n c X : Nat) (hX : X < big512) (hA : NatS w A n c X) :
    Calls Try.prog 94 #[.slice A n c] w fun e w' => ∃ A' n' c', e = .returned (.slice A' n' c') ∧ n' = (decs X).length ∧ n' ≤ c' ∧ RV w' A' (cN .u8 (decs X)) ∧ Only [] w w' := by
  by_cases h0 : X = 0
  · subst h0
    have hn : n = 0 := by rw [hA.n_eq, Nm.len_zero]
    subst hn
    exact decimal_zero w A c
  · exact decimal_any w A n c X hX h0 hA
end Go.Proofs.Ytddfphneidcibaa
