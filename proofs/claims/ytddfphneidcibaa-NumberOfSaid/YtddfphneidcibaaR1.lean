/-
  THE WALKS of the reference's Trim, Make, Same: natural numbers as bytes, the lowest first.
-/
import Derived.Test.YtddfphneidcibaaT7
import Derived.Test.YtddfphneidcibaaReg5
namespace Go.Proofs.Ytddfphneidcibaa
open Go.RowKit
open Nm (W32)

/-- A slice of bytes that holds a number, the lowest byte first, without zeros at its end. -/
structure LitS (w : World) (A : Option Addr) (n c X : Nat) : Prop where
  n_eq : n = Nm.len 256 X
  le : n ≤ c
  rd : RV w A (cN .u8 (Nm.dg 256 X))
theorem LitS.keep {w w' : World} {A : Option Addr} {n c X : Nat} (h : LitS w A n c X) (ho : Only [] w w') : LitS w' A n c X := ⟨h.n_eq, h.le, h.rd.keep0 ho⟩
theorem LitS.drew {w : World} {A : Option Addr} {n c X : Nat} (h : LitS w A n c X) : LitS w.drew A n c X := ⟨h.n_eq, h.le, h.rd⟩
theorem LitS.zero (w : World) (A : Option Addr) (c : Nat) : LitS w A 0 c 0 := ⟨by rw [Nm.len_zero], Nat.zero_le _, by rw [Nm.dg_zero]; exact RV.nil⟩
theorem LitS.at {w : World} {A : Option Addr} {n c X : Nat} (h : LitS w A n c X) (h0 : 0 < n) : ∃ g o, A = some ⟨g, o, none⟩ ∧ g < w.heap.size ∧ ∀ j, j < n → w.cell? ⟨g, o + j, none⟩ = some (.int .u8 ((X / 256 ^ j % 256 : Nat) : Int)) := by
  have hl : (cN .u8 (Nm.dg 256 X)).length = n := by rw [cN_length, Nm.dg_length, h.n_eq]
  obtain ⟨g, o, e, hg, hc⟩ := h.rd (by omega)
  refine ⟨g, o, e, hg, fun j hj => ?_⟩
  rw [hc j (by omega), cN_get (by rw [cN_length] at hl; omega), Nm.dg_getD (by decide)]
theorem LitS.of_pad {w : World} {A : Option Addr} {n c X : Nat} (hc : n ≤ c) (hX : X < 256 ^ n) (hr : RV w A (cN .u8 (Nm.pad 256 n X))) : LitS w A (Nm.len 256 X) c X := by
  have hle := (Nm.len_le (B := 256) (by decide) n X).2 hX
  refine ⟨rfl, Nat.le_trans hle hc, ?_⟩
  rw [Nm.dg_pad (by decide), ← Nm.take_pad 256 _ _ _ hle, cN, List.map_take]
  exact hr.take _
theorem LitS.lt {w : World} {A : Option Addr} {n c X : Nat} (h : LitS w A n c X) : X < 256 ^ n := by rw [h.n_eq]; exact Nm.lt_pow_len (by decide) X

set_option maxHeartbeats 4000000 in
set_option maxRecDepth 100000 in
theorem trimR_any (w : World) (A : Option Addr) (n c X : Nat) (hc : n ≤ c) (hm : n ≤ 1000000) (hX : X < 256 ^ n) (hr : RV w A (cN .u8 (Nm.pad 256 n X))) :
    Calls Try.prog 96 #[.slice A n c] w fun e w' => ∃ m, e = .returned (.slice A m c) ∧ w = w' ∧ LitS w A m c X := by
  have Hr := Lib.hid hr
  have HX := Lib.hid hX
  have hns := LitS.of_pad hc hX hr
  clear hr hX
  go_enter Try.func96, Try.ntmps96
  go_wp2
  go_loopw [0] (fun x wr => ∃ k : Nat, k ≤ n ∧ x = .slice A k c ∧ Hid (X < 256 ^ k) ∧ w = wr) (fun x _ => lenV x)
  case atStart => exact ⟨n, Nat.le_refl _, rfl, HX.out, rfl⟩
  case round =>
    obtain ⟨k, hk, rfl, hXk, rfl⟩ := hrel
    rcases (show k = 0 ∨ ∃ j, k = j + 1 from by cases k; exact .inl rfl; exact .inr ⟨_, rfl⟩) with rfl | ⟨j, rfl⟩
    · go_wp2
      go_ret
      have : X = 0 := by simpa using hXk.out
      subst this
      exact ⟨0, rfl, rfl, LitS.zero _ _ _⟩
    · obtain ⟨g, o, rfl, hg, hcl⟩ := padAt Hr.out (by omega)
      have c1 := hcl j (by omega)
      clear hcl
      obtain ⟨x, Hx⟩ : ∃ x : Nat, Hid (x = X / 256 ^ j % 256) := ⟨_, rfl⟩
      rw [← Hx.out] at c1
      have hcj : (j : Int) ≤ (c : Int) := by omega
      have hjm : (j : Int) ≤ 1000000 := by omega
      by_cases h0 : x = 0
      · subst h0
        go_wp2
        go_roundw
        case rel => exact ⟨j, by omega, rfl, Nm.top_zero (by decide) hXk.out Hx.out.symm, trivial⟩
        case measure => simp [lenV]
      · have e1 : ((x : Int) == 0) = false := beq_eq_false_iff_ne.2 (by omega)
        have hl := Nm.top_len (by decide) hXk.out (by rw [← Hx.out]; exact h0)
        rw [hl] at hns
        go_wp2
        go_ret
        exact ⟨j + 1, rfl, rfl, hns⟩

theorem dg_bytes (X : Nat) : cN .u8 (Nm.dg 256 X).reverse = cellsOf (((Nm.dg 256 X).reverse).map UInt8.ofNat) := cN_bytes _ fun d hd => Nm.dg_lt (by decide) d (by simpa using hd)
theorem dg_inj {X Y : Nat} (h : ((Nm.dg 256 X).reverse).map UInt8.ofNat = ((Nm.dg 256 Y).reverse).map UInt8.ofNat) : X = Y := by
  have h1 := congrArg cellsOf h
  rw [← dg_bytes, ← dg_bytes] at h1
  have h2 : Nm.dg 256 X = Nm.dg 256 Y := by
    have h3 : (Nm.dg 256 X).reverse = (Nm.dg 256 Y).reverse := by
      unfold cN at h1
      exact (List.map_inj_right (fun a b hab => by injection hab with _ hab; omega)).1 h1
    exact List.reverse_inj.1 h3
  have hl : Nm.len 256 X = Nm.len 256 Y := by unfold Nm.len; rw [h2]
  have hX := Nm.lt_pow_len (B := 256) (by decide) X
  have hY := Nm.lt_pow_len (B := 256) (by decide) Y
  rw [hl] at hX
  have key : ∀ k, X % 256 ^ k = Y % 256 ^ k := by
    intro k
    induction k with
    | zero => simp [Nat.mod_one]
    | succ k ih =>
      have e := congrArg (fun l => l.getD k 0) h2
      simp only [Nm.dg_getD (B := 256) (by decide)] at e
      rw [Nm.mod_next, Nm.mod_next, ih, e]
  have := key (Nm.len 256 Y)
  rwa [Nat.mod_eq_of_lt hX, Nat.mod_eq_of_lt hY] at this

set_option maxHeartbeats 4000000 in
set_option maxRecDepth 100000 in
theorem same_any (w : World) (s t : Bool) (A B : Option Addr) (n c m d : Nat) (x y : Int) (hA : IntS w s A n c x) (hB : IntS w t B m d y) :
    Calls Try.prog 20 #[.agg #[.bool s, .slice A n c], .agg #[.bool t, .slice B m d]] w fun e w' => e = .returned (.bool (decide (x = y))) ∧ Only [] w w' := by
  obtain ⟨hBa, hBb, hO0, hsz⟩ := box2_spec w (.bool s) (.slice A n c) (.bool t) (.slice B m d)
  obtain ⟨K0, K1, -, -⟩ := hBa.two
  obtain ⟨L0, L1, -, -⟩ := hBb.two
  have hs := hA.sg
  have ht := hB.sg
  by_cases hst : s = t
  · subst hst
    have hbs : (s == s) = true := by simp
    have ra := (hA.keep hO0).by_.rd
    have rb := (hB.keep hO0).by_.rd
    rw [dg_bytes] at ra rb
    have hla : n = (((Nm.dg 256 x.natAbs).reverse).map UInt8.ofNat).length := by simp [Nm.dg_length, hA.by_.n_eq]
    have hlb : m = (((Nm.dg 256 y.natAbs).reverse).map UInt8.ofNat).length := by simp [Nm.dg_length, hB.by_.n_eq]
    have hxy : ((((Nm.dg 256 x.natAbs).reverse).map UInt8.ofNat) == (((Nm.dg 256 y.natAbs).reverse).map UInt8.ofNat)) = decide (x = y) := by
      by_cases h : x = y
      · subst h; simp
      · rw [decide_eq_false h, beq_eq_false_iff_ne]
        intro h'
        have := dg_inj h'
        rw [hs] at ht
        have h2 : (x < 0) ↔ (y < 0) := by simpa using ht
        omega
    generalize ((Nm.dg 256 x.natAbs).reverse).map UInt8.ofNat = p at ra hla hxy
    generalize ((Nm.dg 256 y.natAbs).reverse).map UInt8.ofNat = q at rb hlb hxy
    generalize decide (x = y) = r at hxy ⊢
    have Hla := Lib.hid hla
    have Hlb := Lib.hid hlb
    clear hs ht hla hlb hA hB
    go_enter Try.func20, Try.ntmps20
    go_wp2_with (first
      | (refine wpl_wanted (by rfl) ?_; refine wpl_str rfl 22 9 5 (.tmp 12) rfl Try.underlying22 Try.underlying5 Try.underlying9 A n c p rfl Hla.out ra ?_)
      | (refine wpl_wanted (by rfl) ?_; refine wpl_str rfl 22 9 5 (.tmp 15) rfl Try.underlying22 Try.underlying5 Try.underlying9 B m d q rfl Hlb.out rb ?_))
    go_ret
    exact ⟨by rw [← hxy]; rfl, hO0⟩
  · have hbs : (s == t) = false := beq_eq_false_iff_ne.2 hst
    have hne : decide (x = y) = false := decide_eq_false fun h => hst (by rw [hs, ht, h])
    have Hne := Lib.hid hne
    clear hs ht hne
    go_enter Try.func20, Try.ntmps20
    go_wp2
    go_ret
    exact ⟨by rw [Hne.out]; rfl, hO0⟩
end Go.Proofs.Ytddfphneidcibaa
