/-
  WHAT IS KNOWN OF Ints: the contracts that stand, in the words of Sx.
  THE CONTRACTS OF CHAPTER 01 THAT STAND, in the words of Sx.
  THE WALKS of the reference's Compare, Sum.
-/
import Derived.Test.YtddfphneidcibaaGS
import Derived.Test.YtddfphneidcibaaGJ
namespace Go.Proofs.Ytddfphneidcibaa
open Go.RowKit
open Nm (W32)
namespace Sx
/-- Bytes; a reference's number; a number of words; an Int. -/
abbrev rawD (b : List Nat) : D := slD (cN .u8 b)
abbrev bytD (X : Nat) : D := slD (cN .u8 (Nm.dg 256 X).reverse)
abbrev litD (X : Nat) : D := slD (cN .u8 (Nm.dg 256 X))
abbrev natD (X : Nat) : D := slD (cN .u32 (Nm.dg W32 X))
abbrev intC (x : Int) : List D := [isD (.bool (decide (x < 0))), bytD x.natAbs]
abbrev rintC (s : Bool) (b : List Nat) : List D := [isD (.bool s), rawD b]
abbrev intD (x : Int) : D := aggD (intC x)
abbrev rintD (s : Bool) (b : List Nat) : D := aggD (rintC s b)
abbrev errD (e : Int) : D := isD (.int .i64 e)
abbrev boolD (b : Bool) : D := isD (.bool b)
abbrev strD (b : List UInt8) : D := isD (.string ⟨b.toArray⟩)

section
variable {L : List Nat} {w : World} {v : Value}
def Aw (L : List Nat) (A : Option Addr) (n : Nat) : Prop := 0 < n → ∀ p, A = some p → p.block ∉ L
theorem Aw.of_frs {w0 : World} {A : Option Addr} {n : Nat} (h : Frs w0 A) (hL : ∀ g ∈ L, g < w0.heap.size) : Aw L A n := fun _ p hp hm => by
  have := h p hp
  have := hL _ hm
  omega
theorem lit_out {X : Nat} (h : (litD X).R L w v) : ∃ A n c, v = .slice A n c ∧ LitS w A n c X ∧ Aw L A n := by
  obtain ⟨A, c, hv, hc, hr, ha⟩ := h
  have hl : (cN .u8 (Nm.dg 256 X)).length = Nm.len 256 X := by rw [cN_length, Nm.dg_length]
  refine ⟨A, _, c, hv, ⟨hl, hc, hr⟩, ha⟩
theorem lit_in {A : Option Addr} {n c X : Nat} (h : LitS w A n c X) (ha : Aw L A n) : (litD X).R L w (.slice A n c) := by
  have hl : (cN .u8 (Nm.dg 256 X)).length = n := by rw [cN_length, Nm.dg_length, h.n_eq]
  exact ⟨A, c, by rw [hl], by rw [hl]; exact h.le, h.rd, by rw [hl]; exact ha⟩
theorem nat_out {X : Nat} (h : (natD X).R L w v) : ∃ A n c, v = .slice A n c ∧ NatS w A n c X ∧ Aw L A n := by
  obtain ⟨A, c, hv, hc, hr, ha⟩ := h
  have hl : (cN .u32 (Nm.dg W32 X)).length = Nm.len W32 X := by rw [cN_length, Nm.dg_length]
  refine ⟨A, _, c, hv, ⟨hl, hc, hr⟩, ha⟩
theorem nat_in {A : Option Addr} {n c X : Nat} (h : NatS w A n c X) (ha : Aw L A n) : (natD X).R L w (.slice A n c) := by
  have hl : (cN .u32 (Nm.dg W32 X)).length = n := by rw [cN_length, Nm.dg_length, h.n_eq]
  exact ⟨A, c, by rw [hl], by rw [hl]; exact h.le, h.rd, by rw [hl]; exact ha⟩
theorem byt_out {X : Nat} (h : (bytD X).R L w v) : ∃ A n c, v = .slice A n c ∧ BytS w A n c X ∧ Aw L A n := by
  obtain ⟨A, c, hv, hc, hr, ha⟩ := h
  have hl : (cN .u8 (Nm.dg 256 X).reverse).length = Nm.len 256 X := by rw [cN_length, List.length_reverse, Nm.dg_length]
  refine ⟨A, _, c, hv, ⟨hl, hc, hr⟩, ha⟩
theorem byt_in {A : Option Addr} {n c X : Nat} (h : BytS w A n c X) (ha : Aw L A n) : (bytD X).R L w (.slice A n c) := by
  have hl : (cN .u8 (Nm.dg 256 X).reverse).length = n := by rw [cN_length, List.length_reverse, Nm.dg_length, h.n_eq]
  exact ⟨A, c, by rw [hl], by rw [hl]; exact h.le, h.rd, by rw [hl]; exact ha⟩
theorem int_out {x : Int} (h : (intD x).R L w v) : ∃ s A n c, v = .agg #[.bool s, .slice A n c] ∧ IntS w s A n c x ∧ Aw L A n := by
  obtain ⟨cs, hv, ha⟩ := h
  cases cs with
  | nil => exact ha.elim
  | cons c1 cs =>
    cases cs with
    | nil => exact ha.2.elim
    | cons c2 cs =>
      cases cs with
      | nil =>
        obtain ⟨h1, h2, -⟩ := ha
        obtain ⟨A, n, c, h3, h4, h5⟩ := byt_out h2
        rw [show c1 = _ from h1, h3] at hv
        exact ⟨_, A, n, c, hv, ⟨rfl, h4⟩, h5⟩
      | cons => exact ha.2.2.elim
theorem int_in {x : Int} {s : Bool} {A : Option Addr} {n c : Nat} (h : IntS w s A n c x) (ha : Aw L A n) : (intD x).R L w (.agg #[.bool s, .slice A n c]) :=
  ⟨[.bool s, .slice A n c], rfl, by rw [h.sg]; rfl, byt_in h.by_ ha, trivial⟩
theorem rint_out {s : Bool} {b : List Nat} (h : (rintD s b).R L w v) : ∃ A n c, v = .agg #[.bool s, .slice A n c] ∧ n = b.length ∧ n ≤ c ∧ RV w A (cN .u8 b) ∧ Aw L A n := by
  obtain ⟨cs, hv, ha⟩ := h
  cases cs with
  | nil => exact ha.elim
  | cons c1 cs =>
    cases cs with
    | nil => exact ha.2.elim
    | cons c2 cs =>
      cases cs with
      | nil =>
        obtain ⟨h1, ⟨A, c, h3, h4, h5, h6⟩, -⟩ := ha
        rw [show c1 = _ from h1, h3] at hv
        rw [cN_length] at hv h4 h6
        exact ⟨A, _, c, hv, rfl, h4, h5, h6⟩
      | cons => exact ha.2.2.elim
theorem all1 {d : D} {vs : List Value} (h : All L w [d] vs) : ∃ u, vs = [u] ∧ d.R L w u := by
  cases vs with
  | nil => exact h.elim
  | cons u vs => cases vs with | nil => exact ⟨u, rfl, h.1⟩ | cons => exact h.2.elim
theorem all2 {d e : D} {vs : List Value} (h : All L w [d, e] vs) : ∃ u v, vs = [u, v] ∧ d.R L w u ∧ e.R L w v := by
  cases vs with
  | nil => exact h.elim
  | cons u vs => obtain ⟨v, rfl, hv⟩ := all1 h.2; exact ⟨u, v, rfl, h.1, hv⟩
theorem all3 {d e f : D} {vs : List Value} (h : All L w [d, e, f] vs) : ∃ u v z, vs = [u, v, z] ∧ d.R L w u ∧ e.R L w v ∧ f.R L w z := by
  cases vs with
  | nil => exact h.elim
  | cons u vs => obtain ⟨v, z, rfl, hv, hz⟩ := all2 h.2; exact ⟨u, v, z, rfl, h.1, hv, hz⟩
theorem all0 {vs : List Value} (h : All L w [] vs) : vs = [] := by
  cases vs with
  | nil => rfl
  | cons => exact h.elim
theorem le_int {x y : Int} (h : x = y) : Le (intD x) (intD y) := by subst h; exact Le.refl _
theorem le_int0 : Le (aggD [isD (.bool false), isD (.slice none 0 0)]) (intD 0) := by
  refine Le.agg ⟨Le.refl _, ?_, trivial⟩
  have : (Nm.dg 256 (0 : Int).natAbs).reverse = [] := by rw [show (0 : Int).natAbs = 0 from rfl, Nm.dg_zero]; rfl
  unfold bytD
  rw [this]
  exact Le.nil_sl
theorem le_err {a b : Int} (h : a = b) : Le (errD a) (errD b) := by subst h; exact Le.refl _
end
/-! From walks to contracts. -/
section
variable {f : FuncId} {x y : Int}
theorem con_ii_RI {z e : Int} (hen : enters Try.prog f) (h : ∀ w s t A B n c m d, IntS w s A n c x → IntS w t B m d y → Calls Try.prog f #[.agg #[.bool s, .slice A n c], .agg #[.bool t, .slice B m d]] w (RI w z e)) : Con Try.prog f [intD x, intD y] (tupD [intD z, errD e]) := by
  refine ⟨hen, fun L w vs hL ha => ?_⟩
  obtain ⟨u, v, rfl, hu, hv⟩ := all2 ha
  obtain ⟨s, A, n, c, rfl, h1, -⟩ := int_out hu
  obtain ⟨t, B, m, d, rfl, h2, -⟩ := int_out hv
  refine (h w s t A B n c m d h1 h2).mono ?_
  rintro r w' ⟨s', A', n', c', rfl, hI, hF, hO⟩
  exact ⟨_, rfl, ⟨[_, _], rfl, int_in hI (Aw.of_frs hF hL), rfl, trivial⟩, hO⟩
theorem con_i_RI {z e : Int} (hen : enters Try.prog f) (h : ∀ w s A n c, IntS w s A n c x → Calls Try.prog f #[.agg #[.bool s, .slice A n c]] w (RI w z e)) : Con Try.prog f [intD x] (tupD [intD z, errD e]) := by
  refine ⟨hen, fun L w vs hL ha => ?_⟩
  obtain ⟨u, rfl, hu⟩ := all1 ha
  obtain ⟨s, A, n, c, rfl, h1, -⟩ := int_out hu
  refine (h w s A n c h1).mono ?_
  rintro r w' ⟨s', A', n', c', rfl, hI, hF, hO⟩
  exact ⟨_, rfl, ⟨[_, _], rfl, int_in hI (Aw.of_frs hF hL), rfl, trivial⟩, hO⟩
theorem con_v_RI {z e : Int} {p : Value} (hen : enters Try.prog f) (h : ∀ w, Calls Try.prog f #[p] w (RI w z e)) : Con Try.prog f [isD p] (tupD [intD z, errD e]) := by
  refine ⟨hen, fun L w vs hL ha => ?_⟩
  obtain ⟨u, rfl, rfl⟩ := all1 ha
  refine (h w).mono ?_
  rintro r w' ⟨s', A', n', c', rfl, hI, hF, hO⟩
  exact ⟨_, rfl, ⟨[_, _], rfl, int_in hI (Aw.of_frs hF hL), rfl, trivial⟩, hO⟩
theorem con_ii_RI2 {q r e : Int} (hen : enters Try.prog f) (h : ∀ w s t A B n c m d, IntS w s A n c x → IntS w t B m d y → Calls Try.prog f #[.agg #[.bool s, .slice A n c], .agg #[.bool t, .slice B m d]] w (RI2 w q r e)) : Con Try.prog f [intD x, intD y] (tupD [intD q, intD r, errD e]) := by
  refine ⟨hen, fun L w vs hL ha => ?_⟩
  obtain ⟨u, v, rfl, hu, hv⟩ := all2 ha
  obtain ⟨s, A, n, c, rfl, h1, -⟩ := int_out hu
  obtain ⟨t, B, m, d, rfl, h2, -⟩ := int_out hv
  refine (h w s t A B n c m d h1 h2).mono ?_
  rintro r w' ⟨s', A', n', c', s2, A2, n2, c2, rfl, hI, hI2, hF, hF2, hO⟩
  exact ⟨_, rfl, ⟨[_, _, _], rfl, int_in hI (Aw.of_frs hF hL), int_in hI2 (Aw.of_frs hF2 hL), rfl, trivial⟩, hO⟩
theorem con_i_RV1 {z : Int} (hen : enters Try.prog f) (h : ∀ w s A n c, IntS w s A n c x → Calls Try.prog f #[.agg #[.bool s, .slice A n c]] w (RV1 w z)) : Con Try.prog f [intD x] (intD z) := by
  refine ⟨hen, fun L w vs hL ha => ?_⟩
  obtain ⟨u, rfl, hu⟩ := all1 ha
  obtain ⟨s, A, n, c, rfl, h1, -⟩ := int_out hu
  refine (h w s A n c h1).mono ?_
  rintro r w' ⟨s', A', n', c', rfl, hI, hF, hO⟩
  exact ⟨_, rfl, int_in hI (Aw.of_frs hF hL), hO⟩
theorem con_ii_RV1 {z : Int} (hen : enters Try.prog f) (h : ∀ w s t A B n c m d, IntS w s A n c x → IntS w t B m d y → Calls Try.prog f #[.agg #[.bool s, .slice A n c], .agg #[.bool t, .slice B m d]] w (RV1 w z)) : Con Try.prog f [intD x, intD y] (intD z) := by
  refine ⟨hen, fun L w vs hL ha => ?_⟩
  obtain ⟨u, v, rfl, hu, hv⟩ := all2 ha
  obtain ⟨s, A, n, c, rfl, h1, -⟩ := int_out hu
  obtain ⟨t, B, m, d, rfl, h2, -⟩ := int_out hv
  refine (h w s t A B n c m d h1 h2).mono ?_
  rintro r w' ⟨s', A', n', c', rfl, hI, hF, hO⟩
  exact ⟨_, rfl, int_in hI (Aw.of_frs hF hL), hO⟩
theorem con_v_RV1 {z : Int} {p : Value} (hen : enters Try.prog f) (h : ∀ w, Calls Try.prog f #[p] w (RV1 w z)) : Con Try.prog f [isD p] (intD z) := by
  refine ⟨hen, fun L w vs hL ha => ?_⟩
  obtain ⟨u, rfl, rfl⟩ := all1 ha
  refine (h w).mono ?_
  rintro r w' ⟨s', A', n', c', rfl, hI, hF, hO⟩
  exact ⟨_, rfl, int_in hI (Aw.of_frs hF hL), hO⟩
theorem con_i_v {p : Value} (hen : enters Try.prog f) (h : ∀ w s A n c, IntS w s A n c x → Calls Try.prog f #[.agg #[.bool s, .slice A n c]] w fun e w' => e = .returned p ∧ Only [] w w') : Con Try.prog f [intD x] (isD p) := by
  refine ⟨hen, fun L w vs hL ha => ?_⟩
  obtain ⟨u, rfl, hu⟩ := all1 ha
  obtain ⟨s, A, n, c, rfl, h1, -⟩ := int_out hu
  refine (h w s A n c h1).mono ?_
  rintro r w' ⟨rfl, hO⟩
  exact ⟨_, rfl, rfl, hO⟩
theorem con_ii_v {p : Value} (hen : enters Try.prog f) (h : ∀ w s t A B n c m d, IntS w s A n c x → IntS w t B m d y → Calls Try.prog f #[.agg #[.bool s, .slice A n c], .agg #[.bool t, .slice B m d]] w fun e w' => e = .returned p ∧ Only [] w w') : Con Try.prog f [intD x, intD y] (isD p) := by
  refine ⟨hen, fun L w vs hL ha => ?_⟩
  obtain ⟨u, v, rfl, hu, hv⟩ := all2 ha
  obtain ⟨s, A, n, c, rfl, h1, -⟩ := int_out hu
  obtain ⟨t, B, m, d, rfl, h2, -⟩ := int_out hv
  refine (h w s t A B n c m d h1 h2).mono ?_
  rintro r w' ⟨rfl, hO⟩
  exact ⟨_, rfl, rfl, hO⟩
theorem con_r_v {p : Value} {s : Bool} {b : List Nat} (hen : enters Try.prog f) (h : ∀ w A n c, n = b.length → RV w A (cN .u8 b) → Calls Try.prog f #[.agg #[.bool s, .slice A n c]] w fun e w' => e = .returned p ∧ Only [] w w') : Con Try.prog f [rintD s b] (isD p) := by
  refine ⟨hen, fun L w vs hL ha => ?_⟩
  obtain ⟨u, rfl, hu⟩ := all1 ha
  obtain ⟨A, n, c, rfl, h1, -, h2, -⟩ := rint_out hu
  refine (h w A n c h1 h2).mono ?_
  rintro r w' ⟨rfl, hO⟩
  exact ⟨_, rfl, rfl, hO⟩
end
end Sx
end Go.Proofs.Ytddfphneidcibaa
namespace Go.Proofs.Ytddfphneidcibaa
open Go.RowKit
open Nm (W32)
namespace Sx
section
variable {x y : Int}
/-- Bounds for the reference's numbers. -/
def e2 : Nat := 200
def e4 : Nat := 1000
def b2 : Nat := 256 ^ e2
def b4 : Nat := 256 ^ e4
theorem b24 {X : Nat} (h : X < b2) : X < b4 := Nat.lt_of_lt_of_le h (Nat.pow_le_pow_right (by decide) (by decide))
theorem b2_512 {X : Nat} (h : X < big512) : X < b2 := Nat.lt_of_lt_of_le h (Nat.pow_le_pow_right (by decide) (by decide))
theorem b4_512 {X : Nat} (h : X < big512) : X < b4 := b24 (b2_512 h)
theorem b4_add {X Y : Nat} (hX : X < b2) (hY : Y < b2) : X + Y < b4 := by
  have h1 : 256 ^ e2 * 2 ≤ 256 ^ e2 * 256 := Nat.mul_le_mul_left _ (by decide)
  have h2 : 256 ^ (e2 + 1) ≤ 256 ^ e4 := Nat.pow_le_pow_right (by decide) (by decide)
  rw [Nat.pow_succ] at h2
  unfold b2 at hX hY
  unfold b4
  omega
theorem b4_mul {X Y : Nat} (hX : X < b2) (hY : Y < b2) : X * Y < b4 := by
  have h1 : X * Y < 256 ^ e2 * 256 ^ e2 := Nat.mul_lt_mul'' hX hY
  rw [← Nat.pow_add] at h1
  exact Nat.lt_of_lt_of_le h1 (Nat.pow_le_pow_right (by decide) (by decide))
theorem b2_mul {X Y : Nat} (hX : X < big512) (hY : Y < big512) : X * Y < b2 := by
  have h1 : X * Y < 256 ^ 64 * 256 ^ 64 := Nat.mul_lt_mul'' hX hY
  rw [← Nat.pow_add] at h1
  exact Nat.lt_of_lt_of_le h1 (Nat.pow_le_pow_right (by decide) (by decide))
theorem n_64 {w : World} {s : Bool} {A : Option Addr} {n c : Nat} {z : Int} (h : IntS w s A n c z) (hz : z.natAbs < b4) : n ≤ 100000 := by
  rw [h.by_.n_eq]
  exact Nat.le_trans ((Nm.len_le (B := 256) (by decide) e4 _).2 hz) (by decide)
theorem con_add (hx : x.natAbs < big512) (hy : y.natAbs < big512) : Con Try.prog 44 [intD x, intD y] (tupD [intD (limZ (x + y)), errD (limE (x + y))]) :=
  con_ii_RI (enters_of Try.func44 (by kernel_rfl) rfl) fun w s t A B n c m d h1 h2 => add_any w s t A B n c m d x y hx hy h1 h2
theorem con_sub (hx : x.natAbs < big512) (hy : y.natAbs < big512) : Con Try.prog 45 [intD x, intD y] (tupD [intD (limZ (x - y)), errD (limE (x - y))]) :=
  con_ii_RI (enters_of Try.func45 (by kernel_rfl) rfl) fun w s t A B n c m d h1 h2 => sub_any w s t A B n c m d x y hx hy h1 h2
theorem con_mul (hx : x.natAbs < big512) (hy : y.natAbs < big512) : Con Try.prog 46 [intD x, intD y] (tupD [intD (limZ (x * y)), errD (limE (x * y))]) :=
  con_ii_RI (enters_of Try.func46 (by kernel_rfl) rfl) fun w s t A B n c m d h1 h2 => mul_any w s t A B n c m d x y hx hy h1 h2
theorem con_neg (hx : x.natAbs < big512) : Con Try.prog 39 [intD x] (tupD [intD (-x), errD 0]) :=
  con_i_RI (enters_of Try.func39 (by kernel_rfl) rfl) fun w s A n c h => neg_any w s A n c x hx h
theorem con_of_ (h1 : -9223372036854775808 ≤ x) (h2 : x ≤ 9223372036854775807) : Con Try.prog 18 [errD x] (intD x) :=
  con_v_RV1 (enters_of Try.func18 (by kernel_rfl) rfl) fun w => of_any w x h1 h2
theorem con_ofR (h1 : -9223372036854775808 ≤ x) (h2 : x ≤ 9223372036854775807) : Con Try.prog 21 [errD x] (intD x) :=
  con_v_RV1 (enters_of Try.func21 (by kernel_rfl) rfl) fun w => ofR_any w x h1 h2
theorem con_sign (hx : x.natAbs < big512) : Con Try.prog 41 [intD x] (errD x.sign) :=
  con_i_v (enters_of Try.func41 (by kernel_rfl) rfl) fun w s A n c h => sign_any w s A n c x hx h
theorem con_text (hx : x.natAbs < big512) : Con Try.prog 30 [intD x] (strD (txt x)) :=
  con_i_v (enters_of Try.func30 (by kernel_rfl) rfl) fun w s A n c h => text_any w s A n c x hx h
theorem con_valid (hx : x.natAbs < big512) : Con Try.prog 40 [intD x] (boolD true) :=
  con_i_v (enters_of Try.func40 (by kernel_rfl) rfl) fun w s A n c h => valid_yes w s A n c x h hx
theorem con_validB (s : Bool) (b : List Nat) : Con Try.prog 40 [rintD s b] (boolD (vld s b)) :=
  con_r_v (enters_of Try.func40 (by kernel_rfl) rfl) fun w A n c h1 h2 => valid_any w s A n c b h1 h2
theorem con_validR (s : Bool) (b : List Nat) : Con Try.prog 25 [rintD s b] (boolD (vld s b)) :=
  con_r_v (enters_of Try.func25 (by kernel_rfl) rfl) fun w A n c h1 h2 => validR_any w s A n c b h1 h2
theorem con_same : Con Try.prog 20 [intD x, intD y] (boolD (decide (x = y))) :=
  con_ii_v (enters_of Try.func20 (by kernel_rfl) rfl) fun w s t A B n c m d h1 h2 => same_any w s t A B n c m d x y h1 h2
theorem con_negR (hx : x.natAbs < b4) : Con Try.prog 43 [intD x] (intD (-x)) :=
  con_i_RV1 (enters_of Try.func43 (by kernel_rfl) rfl) fun w s A n c h => negativeR_any w s A n c x (n_64 h hx) h
theorem con_productR (hx : x.natAbs < b4) (hy : y.natAbs < b4) : Con Try.prog 27 [intD x, intD y] (intD (x * y)) :=
  con_ii_RV1 (enters_of Try.func27 (by kernel_rfl) rfl) fun w s t A B n c m d h1 h2 => productR_any w s t A B n c m d x y (n_64 h1 hx) (n_64 h2 hy) h1 h2
/-- What is less, equal, greater: -1, 0, 1. -/
def cmpN (X Y : Nat) : Int := if X < Y then -1 else if X = Y then 0 else 1
def cmpZ (x y : Int) : Int := if x < y then -1 else if x = y then 0 else 1
theorem cmpN_of {X Y : Nat} {r : Int} (h : Cmp X Y r) : r = cmpN X Y := by
  unfold cmpN
  rcases h with ⟨h, rfl⟩ | ⟨h, rfl⟩ | ⟨h, rfl⟩
  · rw [if_pos h]
  · rw [if_neg (by omega), if_pos h]
  · rw [if_neg (by omega), if_neg (by omega)]
theorem cmpZ_of {x y r : Int} (h : CmpZ x y r) : r = cmpZ x y := by
  unfold cmpZ
  rcases h with ⟨h, rfl⟩ | ⟨h, rfl⟩ | ⟨h, rfl⟩
  · rw [if_pos h]
  · rw [if_neg (by omega), if_pos h]
  · rw [if_neg (by omega), if_neg (by omega)]
theorem con_compare (hx : x.natAbs < big512) (hy : y.natAbs < big512) : Con Try.prog 47 [intD x, intD y] (errD (cmpZ x y)) :=
  con_ii_v (enters_of Try.func47 (by kernel_rfl) rfl) fun w s t A B n c m d h1 h2 => (compare_any w s t A B n c m d x y hx hy h1 h2).mono fun _ _ ⟨r, he, hr, hO⟩ => ⟨by rw [he, cmpZ_of hr.out], hO⟩
end
/-! The reference's natural numbers. -/
section
variable {X Y : Nat}
theorem big_n {w : World} {A : Option Addr} {n c X : Nat} (h : LitS w A n c X) (hX : X < b4) : n ≤ 100000 := by
  rw [h.n_eq]
  exact Nat.le_trans ((Nm.len_le (B := 256) (by decide) e4 _).2 hX) (by decide)
theorem con_absR {x : Int} (hx : x.natAbs < b4) : Con Try.prog 89 [intD x] (litD x.natAbs) := by
  refine ⟨enters_of Try.func89 (by kernel_rfl) rfl, fun L w vs hL ha => ?_⟩
  obtain ⟨u, rfl, hu⟩ := all1 ha
  obtain ⟨s, A, n, c, rfl, h1, -⟩ := int_out hu
  refine (absR_any w s A n c x (n_64 h1 hx) h1).mono ?_
  rintro r w' ⟨A', n', c', rfl, hI, hF, hO⟩
  exact ⟨_, rfl, lit_in hI (Aw.of_frs hF hL), hO⟩
theorem con_plusR (hX : X < b4) (hY : Y < b4) : Con Try.prog 95 [litD X, litD Y] (litD (X + Y)) := by
  refine ⟨enters_of Try.func95 (by kernel_rfl) rfl, fun L w vs hL ha => ?_⟩
  obtain ⟨u, v, rfl, hu, hv⟩ := all2 ha
  obtain ⟨A, n, c, rfl, h1, -⟩ := lit_out hu
  obtain ⟨B, m, d, rfl, h2, -⟩ := lit_out hv
  refine (plusR_any w A B n c m d X Y (big_n h1 hX) (big_n h2 hY) h1 h2).mono ?_
  rintro r w' ⟨A', n', c', rfl, hI, hF, hO⟩
  exact ⟨_, rfl, lit_in hI (Aw.of_frs hF hL), hO⟩
theorem con_timesR (hX : X < b4) (hY : Y < b4) : Con Try.prog 88 [litD X, litD Y] (litD (X * Y)) := by
  refine ⟨enters_of Try.func88 (by kernel_rfl) rfl, fun L w vs hL ha => ?_⟩
  obtain ⟨u, v, rfl, hu, hv⟩ := all2 ha
  obtain ⟨A, n, c, rfl, h1, -⟩ := lit_out hu
  obtain ⟨B, m, d, rfl, h2, -⟩ := lit_out hv
  refine (timesR_any w A B n c m d X Y (Nat.le_trans (big_n h1 hX) (by decide)) (Nat.le_trans (big_n h2 hY) (by decide)) h1 h2).mono ?_
  rintro r w' ⟨A', n', c', rfl, hI, hF, hO⟩
  exact ⟨_, rfl, lit_in hI (Aw.of_frs hF hL), hO⟩
theorem con_orderR (hX : X < b4) (hY : Y < b4) : Con Try.prog 101 [litD X, litD Y] (errD (cmpN X Y)) := by
  refine ⟨enters_of Try.func101 (by kernel_rfl) rfl, fun L w vs hL ha => ?_⟩
  obtain ⟨u, v, rfl, hu, hv⟩ := all2 ha
  obtain ⟨A, n, c, rfl, h1, -⟩ := lit_out hu
  obtain ⟨B, m, d, rfl, h2, -⟩ := lit_out hv
  refine (orderR_any w A B n c m d X Y (Nat.le_trans (big_n h1 hX) (by decide)) (Nat.le_trans (big_n h2 hY) (by decide)) h1 h2).mono ?_
  rintro r w' ⟨r', rfl, hr, hO⟩
  exact ⟨_, rfl, by rw [cmpN_of hr.out]; rfl, hO⟩
theorem con_makeR (neg : Bool) (hX : X < b4) : Con Try.prog 84 [boolD neg, litD X] (intD (sgn neg X)) := by
  refine ⟨enters_of Try.func84 (by kernel_rfl) rfl, fun L w vs hL ha => ?_⟩
  obtain ⟨u, v, rfl, rfl, hv⟩ := all2 ha
  obtain ⟨B, m, d, rfl, h2, -⟩ := lit_out hv
  refine (makeR_any w neg B m d X h2.le (Nat.le_trans (big_n h2 hX) (by decide)) h2.lt h2.pad).mono ?_
  rintro r w' ⟨s', A', n', c', rfl, hI, hF, hO⟩
  exact ⟨_, rfl, int_in hI (Aw.of_frs hF hL), hO⟩
end
section
variable {X Y : Nat}
theorem con_minusR (hX : X < b4) (hXY : Y ≤ X) : Con Try.prog 100 [litD X, litD Y] (litD (X - Y)) := by
  refine ⟨enters_of Try.func100 (by kernel_rfl) rfl, fun L w vs hL ha => ?_⟩
  obtain ⟨u, v, rfl, hu, hv⟩ := all2 ha
  obtain ⟨A, n, c, rfl, h1, -⟩ := lit_out hu
  obtain ⟨B, m, d, rfl, h2, -⟩ := lit_out hv
  refine (minusR_any w A B n c m d X Y (big_n h1 hX) h1 h2 hXY).mono ?_
  rintro r w' ⟨A', n', c', rfl, hI, hF, hO⟩
  exact ⟨_, rfl, lit_in hI (Aw.of_frs hF hL), hO⟩
theorem con_trimR {n : Nat} (hn : n ≤ 1000000) (hX : X < 256 ^ n) : Con Try.prog 96 [slD (cN .u8 (Nm.pad 256 n X))] (litD X) := by
  refine ⟨enters_of Try.func96 (by kernel_rfl) rfl, fun L w vs hL ha => ?_⟩
  obtain ⟨u, rfl, A, c, rfl, hc, hr, haw⟩ := all1 ha
  have hl : (cN .u8 (Nm.pad 256 n X)).length = n := by simp
  rw [hl] at hc haw ⊢
  refine (trimR_any w A n c X hc hn hX hr).mono ?_
  rintro r w' ⟨m, rfl, rfl, hN⟩
  refine ⟨_, rfl, lit_in hN (fun h0 => haw ?_), Only.refl _ _⟩
  have h1 := (Nm.len_le (B := 256) (by decide) n X).2 hX
  rw [← hN.n_eq] at h1
  omega
theorem le_nil_lit : Le (isD (.slice none 0 0)) (litD 0) := by
  unfold litD
  rw [Nm.dg_zero]
  exact Le.nil_sl
theorem le_lit {X Y : Nat} (h : X = Y) : Le (litD X) (litD Y) := by subst h; exact Le.refl _
theorem le_lit1 {d : Nat} (h : 0 < d) (h2 : d < 256) : Le (slD [.int .u8 (d : Int)]) (litD d) := by
  have : Nm.dg 256 d = [d] := by rw [Nm.dg_pos (by decide) (by omega), Nat.div_eq_of_lt h2, Nm.dg_zero, Nat.mod_eq_of_lt h2]
  unfold litD
  rw [this]
  exact Le.refl _
theorem le_pad1 {d : Nat} (h2 : d < 256) : Le (slD [.int .u8 (d : Int)]) (slD (cN .u8 (Nm.pad 256 1 d))) := by
  have : Nm.pad 256 1 d = [d] := by simp [Nm.pad, Nat.mod_eq_of_lt h2]
  rw [this]
  exact Le.refl _
end
end Sx
end Go.Proofs.Ytddfphneidcibaa
namespace Go.Proofs.Ytddfphneidcibaa
open Go.RowKit
open Nm (W32)
namespace Sx
theorem cmpZ_s1 (x y : Int) (h : (decide (x < 0) != decide (y < 0)) = true) (k : decide (x < 0) = true) : -1 = cmpZ x y := by
  rw [k] at h
  simp at h k
  unfold cmpZ
  rw [if_pos (by omega)]
theorem cmpZ_s2 (x y : Int) (h : (decide (x < 0) != decide (y < 0)) = true) (k : decide (x < 0) = false) : 1 = cmpZ x y := by
  rw [k] at h
  simp at h k
  unfold cmpZ
  rw [if_neg (by omega), if_neg (by omega)]
theorem cmpZ_s3 (x y : Int) (h : (decide (x < 0) != decide (y < 0)) = false) (k : decide (x < 0) = true) : cmpN y.natAbs x.natAbs = cmpZ x y := by
  rw [k] at h
  simp at h k
  unfold cmpZ cmpN
  by_cases h1 : x < y
  · rw [if_pos h1, if_pos (by omega)]
  · rw [if_neg h1, if_neg (by omega)]
    by_cases h2 : x = y
    · rw [if_pos h2, if_pos (by omega)]
    · rw [if_neg h2, if_neg (by omega)]
theorem cmpZ_s4 (x y : Int) (h : (decide (x < 0) != decide (y < 0)) = false) (k : decide (x < 0) = false) : cmpN x.natAbs y.natAbs = cmpZ x y := by
  rw [k] at h
  simp at h k
  unfold cmpZ cmpN
  by_cases h1 : x < y
  · rw [if_pos h1, if_pos (by omega)]
  · rw [if_neg h1, if_neg (by omega)]
    by_cases h2 : x = y
    · rw [if_pos h2, if_pos (by omega)]
    · rw [if_neg h2, if_neg (by omega)]
theorem cmpN_ge (X Y : Nat) (h : decide (0 ≤ cmpN X Y) = true) : Y ≤ X := by
  unfold cmpN at h
  simp at h
  split at h
  · omega
  · omega
theorem cmpN_lt (X Y : Nat) (h : decide (0 ≤ cmpN X Y) = false) : X ≤ Y := by
  unfold cmpN at h
  simp at h
  split at h
  · omega
  · split at h <;> omega
theorem sum_s1 (x y : Int) (h : (decide (x < 0) == decide (y < 0)) = true) : sgn (decide (x < 0)) (x.natAbs + y.natAbs) = x + y := by
  simp at h
  unfold sgn
  by_cases hx : x < 0 <;> simp [hx] <;> omega
theorem sum_s2 (x y : Int) (h : (decide (x < 0) == decide (y < 0)) = false) (hle : y.natAbs ≤ x.natAbs) : sgn (decide (x < 0)) (x.natAbs - y.natAbs) = x + y := by
  simp at h
  unfold sgn
  by_cases hx : x < 0 <;> simp [hx] at h ⊢ <;> omega
theorem sum_s3 (x y : Int) (h : (decide (x < 0) == decide (y < 0)) = false) (hle : x.natAbs ≤ y.natAbs) : sgn (decide (y < 0)) (y.natAbs - x.natAbs) = x + y := by
  simp at h
  unfold sgn
  by_cases hy : y < 0 <;> simp [hy] at h ⊢ <;> omega
set_option maxHeartbeats 4000000 in
set_option maxRecDepth 100000 in
theorem con_compareR {x y : Int} (hx : x.natAbs < b4) (hy : y.natAbs < b4) : Con Try.prog 42 [intD x, intD y] (errD (cmpZ x y)) := by
  refine con_of Try.func42 (by kernel_rfl) rfl (by kernel_rfl) fun base w0 => ?_
  refine SW.seq ?_
  refine SW.region ?_
  refine SWl.ef (S := []) (Ef.boxA rfl rfl) ?_
  rintro _ ⟨g2, rfl⟩
  refine SWl.ef (S := []) (Ef.boxA rfl rfl) ?_
  rintro _ ⟨g3, rfl⟩
  refine SWl.rd rfl (Rd.assign rfl) ?_
  refine SWl.nil ?_
  refine SN.then ?_
  refine SW.seq ?_
  refine SW.seq ?_
  refine SW.region ?_
  refine SWl.rd rfl (Rd.fieldAddr (n := 0) rfl (by kernel_rfl)) ?_
  refine SWl.rd rfl (Rd.loadB 0 rfl rfl rfl (by kernel_rfl) trivial) ?_
  refine SWl.rd rfl (Rd.fieldAddr (n := 0) rfl (by kernel_rfl)) ?_
  refine SWl.rd rfl (Rd.loadB 1 rfl rfl rfl (by kernel_rfl) trivial) ?_
  refine SWl.rd rfl (Rd.neb (by kernel_rfl) rfl rfl) ?_
  refine SWl.nil ?_
  refine SN.then ?_
  refine SW.cond rfl (fun hb9 => ?_) (fun hb9 => ?_)
  · skip
    refine SW.seq ?_
    refine SW.seq ?_
    refine SW.region ?_
    refine SWl.rd rfl (Rd.fieldAddr (n := 0) rfl (by kernel_rfl)) ?_
    refine SWl.rd rfl (Rd.loadB 0 rfl rfl rfl (by kernel_rfl) trivial) ?_
    refine SWl.nil ?_
    refine SN.then ?_
    refine SW.cond rfl (fun hb11 => ?_) (fun hb11 => ?_)
    · skip
      refine SW.seq ?_
      refine SW.region ?_
      refine SWl.rd rfl (Rd.assign rfl) ?_
      refine SWl.nil ?_
      refine SN.then ?_
      refine SW.ret (fn := Try.f42) (fun _ _ h => h) (Rs.le (Rs.one rfl (ResV.tmp rfl)) ?_)
      exact le_err (cmpZ_s1 _ _ hb9 hb11)
    · skip
      refine SW.skip ?_
      refine SN.then ?_
      refine SW.seq ?_
      refine SW.region ?_
      refine SWl.rd rfl (Rd.assign rfl) ?_
      refine SWl.nil ?_
      refine SN.then ?_
      refine SW.ret (fn := Try.f42) (fun _ _ h => h) (Rs.le (Rs.one rfl (ResV.tmp rfl)) ?_)
      exact le_err (cmpZ_s2 _ _ hb9 hb11)
  · skip
    refine SW.skip ?_
    refine SN.then ?_
    refine SW.seq ?_
    refine SW.seq ?_
    refine SW.region ?_
    refine SWl.rd rfl (Rd.fieldAddr (n := 0) rfl (by kernel_rfl)) ?_
    refine SWl.rd rfl (Rd.loadB 0 rfl rfl rfl (by kernel_rfl) trivial) ?_
    refine SWl.nil ?_
    refine SN.then ?_
    refine SW.cond rfl (fun hb13 => ?_) (fun hb13 => ?_)
    · skip
      refine SW.seq ?_
      refine SW.draw [] (.r 0 (.r 2 (.n 1 (.n 3 (.n 4 (.r 5 .fin) .no) .no) .no))) (by kernel_rfl) (by kernel_rfl) (fun d _ _ _ _ h => by cases d <;> exact h) ?_
      refine SWz.rd (i := 0) rfl rfl (Rd.loadA 1 2 rfl rfl (by kernel_rfl) rfl trivial) ?_
      refine SWz.rd (i := 2) rfl rfl (Rd.loadA 0 2 rfl rfl (by kernel_rfl) rfl trivial) ?_
      refine SWz.efn (i := 1) rfl (Ef.call (con_absR (by first | assumption | omega)) rfl ⟨Le.refl _, trivial⟩ rfl) ?_ SWz.no
      rintro _ rfl
      refine SWz.efn (i := 3) rfl (Ef.call (con_absR (by first | assumption | omega)) rfl ⟨Le.refl _, trivial⟩ rfl) ?_ SWz.no
      rintro _ rfl
      refine SWz.efn (i := 4) rfl (Ef.call (con_orderR (by assumption) (by assumption)) rfl ⟨Le.refl _, Le.refl _, trivial⟩ rfl) ?_ SWz.no
      rintro _ rfl
      refine SWz.rd (i := 5) rfl rfl (Rd.assign rfl) ?_
      refine SWz.nil ?_
      refine SN.then ?_
      refine SW.ret (fn := Try.f42) (fun _ _ h => h) (Rs.le (Rs.one rfl (ResV.tmp rfl)) ?_)
      exact le_err (cmpZ_s3 _ _ hb9 hb13)
    · skip
      refine SW.skip ?_
      refine SN.then ?_
      refine SW.seq ?_
      refine SW.draw [] (.r 0 (.r 2 (.n 1 (.n 3 (.n 4 (.r 5 .fin) .no) .no) .no))) (by kernel_rfl) (by kernel_rfl) (fun d _ _ _ _ h => by cases d <;> exact h) ?_
      refine SWz.rd (i := 0) rfl rfl (Rd.loadA 0 2 rfl rfl (by kernel_rfl) rfl trivial) ?_
      refine SWz.rd (i := 2) rfl rfl (Rd.loadA 1 2 rfl rfl (by kernel_rfl) rfl trivial) ?_
      refine SWz.efn (i := 1) rfl (Ef.call (con_absR (by first | assumption | omega)) rfl ⟨Le.refl _, trivial⟩ rfl) ?_ SWz.no
      rintro _ rfl
      refine SWz.efn (i := 3) rfl (Ef.call (con_absR (by first | assumption | omega)) rfl ⟨Le.refl _, trivial⟩ rfl) ?_ SWz.no
      rintro _ rfl
      refine SWz.efn (i := 4) rfl (Ef.call (con_orderR (by assumption) (by assumption)) rfl ⟨Le.refl _, Le.refl _, trivial⟩ rfl) ?_ SWz.no
      rintro _ rfl
      refine SWz.rd (i := 5) rfl rfl (Rd.assign rfl) ?_
      refine SWz.nil ?_
      refine SN.then ?_
      refine SW.ret (fn := Try.f42) (fun _ _ h => h) (Rs.le (Rs.one rfl (ResV.tmp rfl)) ?_)
      exact le_err (cmpZ_s4 _ _ hb9 hb13)
set_option maxHeartbeats 4000000 in
set_option maxRecDepth 100000 in
theorem con_sumR {x y : Int} (hx2 : x.natAbs < b2) (hy2 : y.natAbs < b2) : Con Try.prog 48 [intD x, intD y] (intD (x + y)) := by
  have hx := b24 hx2
  have hy := b24 hy2
  have hxy := b4_add hx2 hy2
  have hm1 : x.natAbs - y.natAbs < b4 := Nat.lt_of_le_of_lt (Nat.sub_le _ _) hx
  have hm2 : y.natAbs - x.natAbs < b4 := Nat.lt_of_le_of_lt (Nat.sub_le _ _) hy
  refine con_of Try.func48 (by kernel_rfl) rfl (by kernel_rfl) fun base w0 => ?_
  refine SW.seq ?_
  refine SW.region ?_
  refine SWl.ef (S := []) (Ef.boxA rfl rfl) ?_
  rintro _ ⟨g2, rfl⟩
  refine SWl.ef (S := []) (Ef.boxA rfl rfl) ?_
  rintro _ ⟨g3, rfl⟩
  refine SWl.ef (S := []) (Ef.alloc (zs := [.bool false, .slice none 0 0]) (by kernel_rfl) rfl) ?_
  rintro _ ⟨g4, rfl⟩
  refine SWl.nil ?_
  refine SN.then ?_
  refine SW.seq ?_
  refine SW.draw [] (.r 0 (.r 2 (.n 1 (.n 3 (.r 4 (.r 5 .fin)) .no) .no))) (by kernel_rfl) (by kernel_rfl) (fun d _ _ _ _ h => by cases d <;> exact h) ?_
  refine SWz.rd (i := 0) rfl rfl (Rd.loadA 0 2 rfl rfl (by kernel_rfl) rfl trivial) ?_
  refine SWz.rd (i := 2) rfl rfl (Rd.loadA 1 2 rfl rfl (by kernel_rfl) rfl trivial) ?_
  refine SWz.efn (i := 1) rfl (Ef.call (con_absR (by first | assumption | omega)) rfl ⟨Le.refl _, trivial⟩ rfl) ?_ SWz.no
  rintro _ rfl
  refine SWz.efn (i := 3) rfl (Ef.call (con_absR (by first | assumption | omega)) rfl ⟨Le.refl _, trivial⟩ rfl) ?_ SWz.no
  rintro _ rfl
  refine SWz.rd (i := 4) rfl rfl (Rd.assign rfl) ?_
  refine SWz.rd (i := 5) rfl rfl (Rd.assign rfl) ?_
  refine SWz.nil ?_
  refine SN.then ?_
  refine SW.seq ?_
  refine SW.seq ?_
  refine SW.region ?_
  refine SWl.rd rfl (Rd.fieldAddr (n := 0) rfl (by kernel_rfl)) ?_
  refine SWl.rd rfl (Rd.loadB 0 rfl rfl rfl (by kernel_rfl) trivial) ?_
  refine SWl.rd rfl (Rd.fieldAddr (n := 0) rfl (by kernel_rfl)) ?_
  refine SWl.rd rfl (Rd.loadB 1 rfl rfl rfl (by kernel_rfl) trivial) ?_
  refine SWl.rd rfl (Rd.eqb (by kernel_rfl) rfl rfl) ?_
  refine SWl.nil ?_
  refine SN.then ?_
  refine SW.cond rfl (fun hb15 => ?_) (fun hb15 => ?_)
  · skip
    refine SW.seq ?_
    refine SW.draw [g4] (.r 0 (.r 1 (.r 2 (.r 3 (.n 4 (.n 5 (.e 6 .fin .no) .no) .no))))) (by kernel_rfl) (by kernel_rfl) (fun d _ _ _ _ h => by cases d <;> exact h) ?_
    refine SWz.rd (i := 0) rfl rfl (Rd.fieldAddr (n := 0) rfl (by kernel_rfl)) ?_
    refine SWz.rd (i := 1) rfl rfl (Rd.loadB 0 rfl rfl rfl (by kernel_rfl) ⟨⟨2, _, rfl, by decide⟩, trivial⟩) ?_
    refine SWz.rd (i := 2) rfl rfl (Rd.move rfl) ?_
    refine SWz.rd (i := 3) rfl rfl (Rd.move rfl) ?_
    refine SWz.efn (i := 4) rfl (Ef.call (con_plusR (by assumption) (by assumption)) rfl ⟨Le.refl _, Le.refl _, trivial⟩ rfl) ?_ SWz.no
    rintro _ rfl
    refine SWz.efn (i := 5) rfl (Ef.call (con_makeR _ (by assumption)) rfl ⟨Le.refl _, Le.refl _, trivial⟩ rfl) ?_ SWz.no
    rintro _ rfl
    refine SWz.efe (i := 6) rfl (Ef.storeA 2 rfl rfl rfl (by kernel_rfl) rfl (List.mem_of_getElem? (i := 0) rfl)) ?_ SWz.no
    rintro _ rfl
    refine SWz.nil ?_
    refine SN.then ?_
    refine SW.ret (fn := Try.f48) (fun _ _ h => h) (Rs.le (Rs.one rfl (ResV.cellA 2 rfl rfl (by kernel_rfl))) ?_)
    exact le_int (sum_s1 _ _ hb15)
  · skip
    refine SW.skip ?_
    refine SN.then ?_
    refine SW.seq ?_
    refine SW.seq ?_
    refine SW.region ?_
    refine SWl.rd rfl (Rd.move rfl) ?_
    refine SWl.rd rfl (Rd.move rfl) ?_
    refine SWl.ef (S := []) (Ef.call (con_orderR (by assumption) (by assumption)) rfl ⟨Le.refl _, Le.refl _, trivial⟩ rfl) ?_
    rintro _ rfl
    refine SWl.rd rfl (Rd.geq rfl rfl) ?_
    refine SWl.nil ?_
    refine SN.then ?_
    refine SW.cond rfl (fun hb25 => ?_) (fun hb25 => ?_)
    · have hle := cmpN_ge _ _ hb25
      refine SW.seq ?_
      refine SW.draw [g4] (.r 0 (.r 1 (.r 2 (.r 3 (.n 4 (.n 5 (.e 6 .fin .no) .no) .no))))) (by kernel_rfl) (by kernel_rfl) (fun d _ _ _ _ h => by cases d <;> exact h) ?_
      refine SWz.rd (i := 0) rfl rfl (Rd.fieldAddr (n := 0) rfl (by kernel_rfl)) ?_
      refine SWz.rd (i := 1) rfl rfl (Rd.loadB 0 rfl rfl rfl (by kernel_rfl) ⟨⟨2, _, rfl, by decide⟩, trivial⟩) ?_
      refine SWz.rd (i := 2) rfl rfl (Rd.move rfl) ?_
      refine SWz.rd (i := 3) rfl rfl (Rd.move rfl) ?_
      refine SWz.efn (i := 4) rfl (Ef.call (con_minusR (by assumption) (by assumption)) rfl ⟨Le.refl _, Le.refl _, trivial⟩ rfl) ?_ SWz.no
      rintro _ rfl
      refine SWz.efn (i := 5) rfl (Ef.call (con_makeR _ (by assumption)) rfl ⟨Le.refl _, Le.refl _, trivial⟩ rfl) ?_ SWz.no
      rintro _ rfl
      refine SWz.efe (i := 6) rfl (Ef.storeA 2 rfl rfl rfl (by kernel_rfl) rfl (List.mem_of_getElem? (i := 0) rfl)) ?_ SWz.no
      rintro _ rfl
      refine SWz.nil ?_
      refine SN.then ?_
      refine SW.ret (fn := Try.f48) (fun _ _ h => h) (Rs.le (Rs.one rfl (ResV.cellA 2 rfl rfl (by kernel_rfl))) ?_)
      exact le_int (sum_s2 _ _ hb15 hle)
    · have hle := cmpN_lt _ _ hb25
      refine SW.skip ?_
      refine SN.then ?_
      refine SW.seq ?_
      refine SW.draw [g4] (.r 0 (.r 1 (.r 2 (.r 3 (.n 4 (.n 5 (.e 6 .fin .no) .no) .no))))) (by kernel_rfl) (by kernel_rfl) (fun d _ _ _ _ h => by cases d <;> exact h) ?_
      refine SWz.rd (i := 0) rfl rfl (Rd.fieldAddr (n := 0) rfl (by kernel_rfl)) ?_
      refine SWz.rd (i := 1) rfl rfl (Rd.loadB 1 rfl rfl rfl (by kernel_rfl) ⟨⟨2, _, rfl, by decide⟩, trivial⟩) ?_
      refine SWz.rd (i := 2) rfl rfl (Rd.move rfl) ?_
      refine SWz.rd (i := 3) rfl rfl (Rd.move rfl) ?_
      refine SWz.efn (i := 4) rfl (Ef.call (con_minusR (by assumption) (by assumption)) rfl ⟨Le.refl _, Le.refl _, trivial⟩ rfl) ?_ SWz.no
      rintro _ rfl
      refine SWz.efn (i := 5) rfl (Ef.call (con_makeR _ (by assumption)) rfl ⟨Le.refl _, Le.refl _, trivial⟩ rfl) ?_ SWz.no
      rintro _ rfl
      refine SWz.efe (i := 6) rfl (Ef.storeA 2 rfl rfl rfl (by kernel_rfl) rfl (List.mem_of_getElem? (i := 0) rfl)) ?_ SWz.no
      rintro _ rfl
      refine SWz.nil ?_
      refine SN.then ?_
      refine SW.ret (fn := Try.f48) (fun _ _ h => h) (Rs.le (Rs.one rfl (ResV.cellA 2 rfl rfl (by kernel_rfl))) ?_)
      exact le_int (sum_s3 _ _ hb15 hle)
end Sx
end Go.Proofs.Ytddfphneidcibaa
