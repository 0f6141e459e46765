/-
  THE WALKS of number's Digits10, Text, Sign, Neg, Compare on valid Ints.
-/
import Derived.Test.YtddfphneidcibaaD3
namespace Go.Proofs.Ytddfphneidcibaa
open Go.RowKit
open Nm (W32)

/-- One argument in a block of its own. -/
theorem box1_spec (w : World) (a b : Value) : Blk (w.alloc (.cells #[a, b] 24)) w.heap.size 24 [a, b] ∧ Only [] w (w.alloc (.cells #[a, b] 24)) := ⟨Blk.new w _ _, (Only.refl [] w).alloc _⟩
/-- The decimal form of an integer, as bytes. -/
def txt (z : Int) : List UInt8 := ((if z < 0 then [45] else []) ++ decs z.natAbs).map UInt8.ofNat
theorem decs_lt (X : Nat) : ∀ d ∈ decs X, d < 256 := by
  intro d hd
  unfold decs at hd
  split at hd
  · simp at hd; omega
  · rw [List.mem_reverse, chs, List.mem_map] at hd
    obtain ⟨e, he, rfl⟩ := hd
    have := Nm.pad_lt (B := 10) (by decide) _ _ e he
    omega
theorem decs_cells (X : Nat) : cN .u8 (decs X) = cellsOf ((decs X).map UInt8.ofNat) := cN_bytes _ (decs_lt X)

theorem decs_len {X : Nat} (h : X < big512) : (decs X).length ≤ 155 := by
  unfold decs
  split
  · simp
  · simp
    exact (Nm.len_le (by decide) _ _).2 (Nat.lt_of_lt_of_le h (by unfold big512; decide +kernel))

set_option maxHeartbeats 4000000 in
set_option maxRecDepth 100000 in
theorem digits10_any (w : World) (s : Bool) (A : Option Addr) (n c : Nat) (x : Int) (hx : x.natAbs < big512) (hA : IntS w s A n c x) :
    Calls Try.prog 31 #[.agg #[.bool s, .slice A n c]] w fun e w' => e = .returned (.int .i64 ((decs x.natAbs).length : Int)) ∧ Only [] w w' := by
  obtain ⟨hBa, hO0⟩ := box1_spec w (.bool s) (.slice A n c)
  have hn := hA.n_le hx
  have Hx := Lib.hid hx
  obtain ⟨K0, K1, -, -⟩ := hBa.two
  clear hx
  go_enter Try.func31, Try.ntmps31
  go_wp2_with fail
  clear K0 K1
  refine (valid_yes _ s A n c x (hA.keep hO0) Hx.out).mono ?_
  rintro e w1 ⟨rfl, hO1⟩
  obtain ⟨K0, K1, -, -⟩ := (hBa.keep hO1 (by simp)).two
  have hA1 := (hA.keep hO0).keep hO1
  go_wp2_with (first
    | (go_at_call 85; refine (natOf_any w1 A n c x.natAbs (by omega) hA1.by_).mono ?_; rintro e w2 ⟨A2, n2, c2, rfl, hN2, hO2⟩)
    | (go_at_call 94; refine (decimal_all w2 A2 n2 c2 x.natAbs Hx.out hN2).mono ?_; rintro e w3 ⟨A3, n3, c3, rfl, hl3, hc3, hR3, hO3⟩))
  go_ret
  exact ⟨by rw [← hl3]; rfl, ((hO0.trans' hO1).trans' hO2).trans' hO3⟩

set_option maxHeartbeats 4000000 in
set_option maxRecDepth 100000 in
theorem text_any (w : World) (s : Bool) (A : Option Addr) (n c : Nat) (x : Int) (hx : x.natAbs < big512) (hA : IntS w s A n c x) :
    Calls Try.prog 30 #[.agg #[.bool s, .slice A n c]] w fun e w' => e = .returned (.string ⟨(txt x).toArray⟩) ∧ Only [] w w' := by
  have Hsg := Lib.hid hA.sg
  obtain ⟨hBa, hO0⟩ := box1_spec w (.bool s) (.slice A n c)
  have hn := hA.n_le hx
  have Hx := Lib.hid hx
  obtain ⟨K0, K1, -, -⟩ := hBa.two
  clear hx
  go_enter Try.func30, Try.ntmps30
  go_wp2_with fail
  clear K0 K1
  refine (valid_yes _ s A n c x (hA.keep hO0) Hx.out).mono ?_
  rintro e w1 ⟨rfl, hO1⟩
  obtain ⟨K0, K1, -, -⟩ := (hBa.keep hO1 (by simp)).two
  have hA1 := (hA.keep hO0).keep hO1
  go_wp2_with fail
  refine (natOf_any w1 A n c x.natAbs (by omega) hA1.by_).mono ?_
  rintro e w2 ⟨A2, n2, c2, rfl, hN2, hO2⟩
  go_wp2_with fail
  refine (decimal_all w2 A2 n2 c2 x.natAbs Hx.out hN2).mono ?_
  rintro e w3 ⟨A3, n3, c3, rfl, hl3, hc3, hR3, hO3⟩
  rw [decs_cells] at hR3
  have hQ3 := (hO1.trans' hO2).trans' hO3
  clear K0 K1
  obtain ⟨K0, K1, -, -⟩ := (hBa.keep hQ3 (by simp)).two
  obtain ⟨bs, Hbs⟩ : ∃ bs, Hid (bs = (decs x.natAbs).map UInt8.ofNat) := ⟨_, rfl⟩
  rw [← Hbs.out] at hR3
  have hl3' : n3 = bs.length := by rw [hl3, Hbs.out]; simp
  have Hl3 := Lib.hid hl3'
  have hbl : bs.length ≤ 155 := by rw [Hbs.out, List.length_map]; exact decs_len Hx.out
  have hbl2 : 1 + bs.length ≤ 9223372036854775807 := by omega
  clear hl3 hl3'
  cases s
  · have ht : txt x = bs := by
      have h : ¬ x < 0 := by simpa using Hsg.out
      unfold txt; rw [if_neg h, Hbs.out]; rfl
    have Ht := Lib.hid ht
    clear ht
    go_wp2_with (refine wpl_str rfl 22 9 5 (.tmp 10) rfl Try.underlying22 Try.underlying5 Try.underlying9 A3 n3 c3 bs rfl Hl3.out hR3 ?_)
    go_ret
    exact ⟨by rw [Ht.out]; rfl, hO0.trans' hQ3⟩
  · have ht : txt x = 45 :: bs := by
      have h : x < 0 := by have := Hsg.out; simpa using this.symm
      unfold txt; rw [if_pos h, Hbs.out]; rfl
    have Ht := Lib.hid ht
    clear ht
    go_wp2_with (refine wpl_str rfl 22 9 5 (.tmp 10) rfl Try.underlying22 Try.underlying5 Try.underlying9 A3 n3 c3 bs rfl Hl3.out hR3 ?_)
    go_ret
    refine ⟨?_, hO0.trans' hQ3⟩
    rw [Ht.out]
    show Ending.returned (Value.string (ByteArray.mk #[45] ++ ByteArray.mk bs.toArray)) = _
    congr 2

set_option maxHeartbeats 4000000 in
set_option maxRecDepth 100000 in
theorem sign_any (w : World) (s : Bool) (A : Option Addr) (n c : Nat) (x : Int) (hx : x.natAbs < big512) (hA : IntS w s A n c x) :
    Calls Try.prog 41 #[.agg #[.bool s, .slice A n c]] w fun e w' => e = .returned (.int .i64 x.sign) ∧ Only [] w w' := by
  have Hsg := Lib.hid hA.sg
  have Hn := Lib.hid hA.by_.n_eq
  obtain ⟨hBa, hO0⟩ := box1_spec w (.bool s) (.slice A n c)
  have hn := hA.n_le hx
  have Hx := Lib.hid hx
  obtain ⟨K0, K1, -, -⟩ := hBa.two
  clear hx
  go_enter Try.func41, Try.ntmps41
  go_wp2_with fail
  clear K0 K1
  refine (valid_yes _ s A n c x (hA.keep hO0) Hx.out).mono ?_
  rintro e w1 ⟨rfl, hO1⟩
  obtain ⟨K0, K1, -, -⟩ := (hBa.keep hO1 (by simp)).two
  have hA1 := (hA.keep hO0).keep hO1
  by_cases h0 : x = 0
  · have hn0 : n = 0 := by rw [Hn.out, h0]; exact Nm.len_zero 256
    subst hn0
    go_wp2
    go_ret
    exact ⟨by rw [h0]; rfl, hO0.trans' hO1⟩
  · have hn0 : n ≠ 0 := by rw [Hn.out]; exact fun h => h0 (by have := (Nm.len_eq_zero (B := 256) (by decide)).1 h; omega)
    have hn0b : ((n : Int) == 0) = false := beq_eq_false_iff_ne.2 (by omega)
    cases s
    · have hp : x.sign = 1 := Int.sign_eq_one_of_pos (by have : ¬ x < 0 := by simpa using Hsg.out
                                                         omega)
      go_wp2
      go_ret
      exact ⟨by rw [hp]; rfl, hO0.trans' hO1⟩
    · have hp : x.sign = -1 := Int.sign_eq_neg_one_of_neg (by have := Hsg.out; simpa using this.symm)
      go_wp2
      go_ret
      exact ⟨by rw [hp]; rfl, hO0.trans' hO1⟩
end Go.Proofs.Ytddfphneidcibaa
