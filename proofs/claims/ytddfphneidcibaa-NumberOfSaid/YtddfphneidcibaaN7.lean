/-
  THE WALKS of number's natOf and digits: bytes, the highest first, and words.
-/
import Derived.Test.YtddfphneidcibaaN6
namespace Go.Proofs.Ytddfphneidcibaa
open Go.RowKit
open Nm (W32)

/-- A slice of bytes that holds a number, the highest byte first, without zeros in front. -/
structure BytS (w : World) (A : Option Addr) (n c X : Nat) : Prop where
  n_eq : n = Nm.len 256 X
  le : n ≤ c
  rd : RV w A (cN .u8 (Nm.dg 256 X).reverse)
theorem BytS.keep {w w' : World} {A : Option Addr} {n c X : Nat} (h : BytS w A n c X) (ho : Only [] w w') : BytS w' A n c X := ⟨h.n_eq, h.le, h.rd.keep0 ho⟩
theorem BytS.drew {w : World} {A : Option Addr} {n c X : Nat} (h : BytS w A n c X) : BytS w.drew A n c X := ⟨h.n_eq, h.le, h.rd⟩
theorem BytS.zero (w : World) (A : Option Addr) (c : Nat) : BytS w A 0 c 0 := ⟨by rw [Nm.len_zero], Nat.zero_le _, by rw [Nm.dg_zero]; exact RV.nil⟩
theorem rev_getD {l : List Nat} {i r : Nat} (h : i + r + 1 = l.length) : l.reverse.getD r 0 = l.getD i 0 := by
  rw [List.getD_eq_getElem?_getD, List.getD_eq_getElem?_getD, List.getElem?_reverse (by omega)]
  congr 2
  omega
theorem BytS.at {w : World} {A : Option Addr} {n c X : Nat} (h : BytS w A n c X) (h0 : 0 < n) : ∃ g o, A = some ⟨g, o, none⟩ ∧ g < w.heap.size ∧ ∀ j r, j + r + 1 = n → w.cell? ⟨g, o + r, none⟩ = some (.int .u8 ((X / 256 ^ j % 256 : Nat) : Int)) := by
  have hl : (Nm.dg 256 X).length = n := by rw [Nm.dg_length, h.n_eq]
  obtain ⟨g, o, e, hg, hc⟩ := h.rd (by rw [cN_length, List.length_reverse]; omega)
  refine ⟨g, o, e, hg, fun j r hj => ?_⟩
  rw [hc r (by rw [cN_length, List.length_reverse]; omega), cN_get (by rw [List.length_reverse]; omega), rev_getD (i := j) (by omega), Nm.dg_getD (by decide)]

theorem i64_in {z : Int} (h1 : -9223372036854775808 ≤ z) (h2 : z ≤ 9223372036854775807) : IntKind.i64.wrap z = z := by
  simp [IntKind.wrap, IntKind.signed, IntKind.bits]
  omega
theorem or32 {u d s : Nat} (hs : s ≤ 24) (hu : u < 2 ^ s) (hd : d < 256) : bits .or .u32 (u : Int) ((d * 2 ^ s : Nat) : Int) = ((u + d * 2 ^ s : Nat) : Int) := by
  have h24 : 2 ^ s ≤ 2 ^ 24 := Nat.pow_le_pow_right (by decide) hs
  have h1 : d * 2 ^ s < 4294967296 := by
    calc d * 2 ^ s ≤ 255 * 2 ^ 24 := Nat.mul_le_mul (by omega) h24
      _ < 4294967296 := by decide
  rw [u32_or_nat u (d * 2 ^ s) (by omega) h1]
  congr 1
  have := Nat.two_pow_add_eq_or_of_lt hu d
  rw [Nat.or_comm, Nat.mul_comm, Nat.add_comm]
  exact this.symm

set_option maxHeartbeats 4000000 in
set_option maxRecDepth 100000 in
theorem natOf_any (w : World) (A : Option Addr) (n c X : Nat) (hn : n ≤ 100000) (hA : BytS w A n c X) :
    Calls Try.prog 85 #[.slice A n c] w fun e w' => ∃ A' n' c', e = .returned (.slice A' n' c') ∧ NatS w' A' n' c' X ∧ Only [] w w' := by
  have Hn := Lib.hid hA.n_eq
  obtain ⟨m, Hm⟩ : ∃ m, Hid (m = (n + 3) / 4) := ⟨_, rfl⟩
  have hmI : ((n : Int) + 3) / 4 = (m : Int) := by have := Hm.out; omega
  have hm1 : m ≤ 100000 := by have := Hm.out; omega
  go_enter Try.func85, Try.ntmps85
  go_wp2_with (refine wpl_make rfl 81 _ _ rfl 83 (.int .u32 0) 4 Try.underlying81 info32 rfl .i64 .i64 _ _ m m (by omega) (by omega) rfl rfl (Nat.le_refl _) (by omega) (by decide) ?_; intro w1 _ hB1 hO1)
  rw [zeros32] at hB1
  go_loopw [13] (fun i wr => ∃ k : Nat, k ≤ n ∧ i = .int .i64 (k : Int) ∧ Blk wr w.heap.size 83 (cN .u32 (Nm.pad W32 m (X % 256 ^ k))) ∧ Only [] w wr) (fun i _ => n - (intOf i).toNat)
  case atStart => exact ⟨0, Nat.zero_le _, rfl, by rw [Nat.pow_zero, Nat.mod_one]; exact hB1, hO1⟩
  case round =>
    clear hB1 hO1
    obtain ⟨k, hk, rfl, hBk, hO⟩ := hrel
    by_cases hlt : k < n
    · have hltI : (k : Int) < (n : Int) := by omega
      have hkm : (k : Int) ≤ 100000 := by omega
      obtain ⟨ga, oa, hAe, hga, hca⟩ := (hA.keep hO).at (by omega)
      obtain ⟨r, Hr⟩ : ∃ r, Hid (k + r + 1 = n) := ⟨n - 1 - k, by unfold Hid; omega⟩
      have hrI : (n : Int) - 1 - (k : Int) = (r : Int) := by have := Hr.out; omega
      have hrn : (r : Int) < (n : Int) := by omega
      have c1 := hca k r Hr.out
      clear hca
      obtain ⟨q, Hq⟩ : ∃ q, Hid (q = k / 4) := ⟨_, rfl⟩
      have hqI : (k : Int) / 4 = (q : Int) := by have := Hq.out; omega
      have hqm : q < m := by have := Hq.out; have := Hm.out; omega
      have hqmI : (q : Int) < (m : Int) := by omega
      have hq1 : (q : Int) ≤ 100000 := by omega
      have hwq : IntKind.i64.wrap (q : Int) = (q : Int) := i64_in (by omega) (by omega)
      have hfl := Lib.hid (Nm.word_fill X m k (by rw [← Hq.out]; exact hqm))
      have hbf := Nm.word_before X (k / 4) (k % 4) (Nat.mod_lt _ (by decide))
      rw [Nat.div_add_mod] at hbf
      have c2 := hBk.cellv (i := q) (cN_get (by simpa using hqm))
      rw [Nm.pad_getD _ _ _ _ hqm] at c2
      rw [← Hq.out] at hfl hbf
      have hdl : X / 256 ^ k % 256 < 256 := Nat.mod_lt _ (by decide)
      generalize X / 256 ^ k % 256 = d at c1 hfl hdl
      generalize X % 256 ^ k / W32 ^ q % W32 = u at c2 hfl hbf
      have hdI : (d : Int) < 256 := by omega
      subst hAe
      obtain ⟨r4, Hr4⟩ : ∃ r4, Hid (r4 = k % 4) := ⟨_, rfl⟩
      rw [← Hr4.out] at hfl hbf
      have hr4I : (k : Int) % 4 = (r4 : Int) := by have := Hr4.out; omega
      have hr4T : (k : Int).tmod 4 = (r4 : Int) := by rw [Int.tmod_eq_emod_of_nonneg (by omega)]; exact hr4I
      have hcase : r4 = 0 ∨ r4 = 1 ∨ r4 = 2 ∨ r4 = 3 := by have := Hr4.out; omega
      rcases hcase with rfl | rfl | rfl | rfl
      · have hu : u < 2 ^ 0 := hbf
        have huI : (u : Int) < 4294967296 := by omega
        clear hbf
        have hor := or32 (u := u) (d := d) (s := 0) (by decide) hu hdl
        obtain ⟨v, Hv⟩ : ∃ v : Nat, Hid (v = u + d * 2 ^ 0) := ⟨u + d * 2 ^ 0, Eq.refl (u + d * 2 ^ 0)⟩
        rw [← Hv.out] at hor
        have hor : bits .or .u32 (u : Int) ((d : Int)) = (v : Int) := by rw [← hor]; simp
        have hB' := hBk.set q (.int .u32 (v : Int))
        rw [cN_set, hfl.out v Hv.out] at hB'
        have HB' := Lib.hid hB'
        have fz := hBk.frozen q
        clear hB' hBk
        go_wp2
        refine wp_region_still_tail 12 (by kernel_rfl) (by kernel_rfl) ?_
        simp only [List.take_succ_cons, List.take_zero, List.drop_succ_cons, List.drop_zero]
        iterate 12 (refine wpStill_step ?_; intro K hK; go_simp; (try go_ints); (try ((go_ite <;> go_prune); go_simp)); (try go_ints); refine hK _ ?_)
        refine wpStill_nil ?_
        go_wp2
        go_roundw
        case rel => exact ⟨k + 1, by omega, by go_num, HB'.out.drew, (hO.setCell (p := ⟨w.heap.size, q, none⟩) (.inr (Nat.le_refl _)) _).drew⟩
        case measure => simp [intOf]; omega
      · have hu : u < 2 ^ 8 := hbf
        have huI : (u : Int) < 4294967296 := by omega
        clear hbf
        have hor := or32 (u := u) (d := d) (s := 8) (by decide) hu hdl
        obtain ⟨v, Hv⟩ : ∃ v : Nat, Hid (v = u + d * 2 ^ 8) := ⟨u + d * 2 ^ 8, Eq.refl (u + d * 2 ^ 8)⟩
        rw [← Hv.out] at hor
        have hor : bits .or .u32 (u : Int) ((d : Int) * 256) = (v : Int) := by rw [← hor]; simp
        have hB' := hBk.set q (.int .u32 (v : Int))
        rw [cN_set, hfl.out v Hv.out] at hB'
        have HB' := Lib.hid hB'
        have fz := hBk.frozen q
        clear hB' hBk
        go_wp2
        refine wp_region_still_tail 12 (by kernel_rfl) (by kernel_rfl) ?_
        simp only [List.take_succ_cons, List.take_zero, List.drop_succ_cons, List.drop_zero]
        iterate 12 (refine wpStill_step ?_; intro K hK; go_simp; (try go_ints); (try ((go_ite <;> go_prune); go_simp)); (try go_ints); refine hK _ ?_)
        refine wpStill_nil ?_
        go_wp2
        go_roundw
        case rel => exact ⟨k + 1, by omega, by go_num, HB'.out.drew, (hO.setCell (p := ⟨w.heap.size, q, none⟩) (.inr (Nat.le_refl _)) _).drew⟩
        case measure => simp [intOf]; omega
      · have hu : u < 2 ^ 16 := hbf
        have huI : (u : Int) < 4294967296 := by omega
        clear hbf
        have hor := or32 (u := u) (d := d) (s := 16) (by decide) hu hdl
        obtain ⟨v, Hv⟩ : ∃ v : Nat, Hid (v = u + d * 2 ^ 16) := ⟨u + d * 2 ^ 16, Eq.refl (u + d * 2 ^ 16)⟩
        rw [← Hv.out] at hor
        have hor : bits .or .u32 (u : Int) ((d : Int) * 65536) = (v : Int) := by rw [← hor]; simp
        have hB' := hBk.set q (.int .u32 (v : Int))
        rw [cN_set, hfl.out v Hv.out] at hB'
        have HB' := Lib.hid hB'
        have fz := hBk.frozen q
        clear hB' hBk
        go_wp2
        refine wp_region_still_tail 12 (by kernel_rfl) (by kernel_rfl) ?_
        simp only [List.take_succ_cons, List.take_zero, List.drop_succ_cons, List.drop_zero]
        iterate 12 (refine wpStill_step ?_; intro K hK; go_simp; (try go_ints); (try ((go_ite <;> go_prune); go_simp)); (try go_ints); refine hK _ ?_)
        refine wpStill_nil ?_
        go_wp2
        go_roundw
        case rel => exact ⟨k + 1, by omega, by go_num, HB'.out.drew, (hO.setCell (p := ⟨w.heap.size, q, none⟩) (.inr (Nat.le_refl _)) _).drew⟩
        case measure => simp [intOf]; omega
      · have hu : u < 2 ^ 24 := hbf
        have huI : (u : Int) < 4294967296 := by omega
        clear hbf
        have hor := or32 (u := u) (d := d) (s := 24) (by decide) hu hdl
        obtain ⟨v, Hv⟩ : ∃ v : Nat, Hid (v = u + d * 2 ^ 24) := ⟨u + d * 2 ^ 24, Eq.refl (u + d * 2 ^ 24)⟩
        rw [← Hv.out] at hor
        have hor : bits .or .u32 (u : Int) ((d : Int) * 16777216) = (v : Int) := by rw [← hor]; simp
        have hB' := hBk.set q (.int .u32 (v : Int))
        rw [cN_set, hfl.out v Hv.out] at hB'
        have HB' := Lib.hid hB'
        have fz := hBk.frozen q
        clear hB' hBk
        go_wp2
        refine wp_region_still_tail 12 (by kernel_rfl) (by kernel_rfl) ?_
        simp only [List.take_succ_cons, List.take_zero, List.drop_succ_cons, List.drop_zero]
        iterate 12 (refine wpStill_step ?_; intro K hK; go_simp; (try go_ints); (try ((go_ite <;> go_prune); go_simp)); (try go_ints); refine hK _ ?_)
        refine wpStill_nil ?_
        go_wp2
        go_roundw
        case rel => exact ⟨k + 1, by omega, by go_num, HB'.out.drew, (hO.setCell (p := ⟨w.heap.size, q, none⟩) (.inr (Nat.le_refl _)) _).drew⟩
        case measure => simp [intOf]; omega
    · obtain rfl : k = n := by omega
      have hX : X < 256 ^ k := by rw [Hn.out]; exact Nm.lt_pow_len (by decide) X
      rw [Nat.mod_eq_of_lt hX] at hBk
      have hl := Nm.len_words X
      rw [← Hn.out, ← Hm.out] at hl
      have Hlt := Lib.hid ((Nm.len_le (by decide) _ _).1 hl)
      clear hX hl
      go_wp2_with (go_at_call 83; refine (trim_any _ _ m m X (Nat.le_refl _) (by omega) Hlt.out hBk.rv).mono ?_; rintro e w' ⟨m', rfl, rfl, hN⟩)
      go_ret
      exact ⟨_, _, _, rfl, hN, hO⟩
end Go.Proofs.Ytddfphneidcibaa
