/-
  FROM A ROW's WORDS TO WHAT IS KNOWN OF SLOTS: arguments that are Ints, strings, numbers.
-/
import Derived.Test.YtddfphneidcibaaGateN
import Derived.Test.YtddfphneidcibaaGK
import Derived.Lib.SmallJoins
namespace Go.Proofs.Ytddfphneidcibaa
open Go.ChangeShapes Go.WideShapes Go.ChangeAt Go.RowKit
namespace Sx
/-- The value of bytes, the lowest first. -/
def valL : List Nat → Nat
  | [] => 0
  | d :: l => d + 256 * valL l
theorem dg_valL : ∀ (l : List Nat), (∀ d ∈ l, d < 256) → (∀ h : l ≠ [], l.getLast h ≠ 0) → Nm.dg 256 (valL l) = l
  | [], _, _ => by simp [valL, Nm.dg_zero]
  | d :: l, h, hl => by
    have hd : d < 256 := h d (by simp)
    have ih := dg_valL l (fun e he => h e (List.mem_cons_of_mem _ he)) (fun hne => by
      have := hl (by simp)
      rw [List.getLast_cons hne] at this
      exact this)
    have hne : valL (d :: l) ≠ 0 := by
      simp only [valL]
      intro h0
      have hd0 : d = 0 := by omega
      have hl0 : valL l = 0 := by omega
      rw [hl0, Nm.dg_zero] at ih
      have := hl (by simp)
      subst hd0
      simp [← ih] at this
    rw [Nm.dg_pos (by decide) hne]
    have e1 : valL (d :: l) % 256 = d := by simp only [valL]; omega
    have e2 : valL (d :: l) / 256 = valL l := by simp only [valL]; omega
    rw [e1, e2, ih]
/-- A valid Int is an integer. -/
theorem vld_out {s : Bool} {b : List Nat} (hb : ∀ d ∈ b, d < 256) (hv : vld s b = true) : ∃ x : Int, x.natAbs < big512 ∧ s = decide (x < 0) ∧ b = (Nm.dg 256 x.natAbs).reverse := by
  unfold vld at hv
  by_cases h0 : b.length = 0
  · have : b = [] := List.eq_nil_of_length_eq_zero h0
    subst this
    simp at hv
    subst hv
    exact ⟨0, by unfold big512; decide +kernel, rfl, by rw [show (0 : Int).natAbs = 0 from rfl, Nm.dg_zero]; rfl⟩
  · rw [if_neg h0] at hv
    simp only [Bool.and_eq_true, decide_eq_true_eq] at hv
    obtain ⟨h1, h2⟩ := hv
    have hdg : Nm.dg 256 (valL b.reverse) = b.reverse := by
      refine dg_valL _ (fun d hd => hb d (by simpa using hd)) (fun hne => ?_)
      cases b with
      | nil => simp at h0
      | cons c t => simpa using h2
    have hlen : Nm.len 256 (valL b.reverse) = b.length := by rw [← Nm.dg_length, hdg, List.length_reverse]
    have hpos : valL b.reverse ≠ 0 := fun h => by rw [h, Nm.len_zero] at hlen; omega
    refine ⟨sgn s (valL b.reverse), ?_, ?_, ?_⟩
    · rw [sgn_abs]
      exact (Nm.len_le (B := 256) (by decide) 64 _).1 (by omega)
    · rw [sgn_neg, decide_eq_true (by omega : 0 < valL b.reverse), Bool.and_true]
    · rw [sgn_abs, hdg, List.reverse_reverse]

section
variable {H : Type} {enc : TypeId × Value → H} {P : Program}
/-- Bytes that came in. -/
theorem raw_of {W : World} {t e : TypeId} {v : Value} {fuel : Nat} {x : DataW H × List MemPlace} (ht : P.underlying t = some (.slice e)) (he : P.underlying e = some (.int .u8)) (hc : P.cellsOf e = 1)
    (h : DataW.trod enc P W 0 (fun _ => true) true fuel t [v] = some x) : ∃ b : List Nat, (∀ d ∈ b, d < 256) ∧ b.length ≤ maxLen ∧ (rawD b).R [] W v := by
  rcases Go.ChangeShapes.open_ints ht he hc h with ⟨e1, -⟩ | ⟨a, len, cap, zs, e1, -, h1, h2, h3, -, h4, h5⟩
  · obtain rfl : v = .slice none 0 0 := by simpa using e1
    exact ⟨[], by simp, by decide, none, 0, rfl, by simp, RV.nil, by simp⟩
  · obtain rfl : v = .slice (some a) len cap := by simpa using e1
    have hz : zs.length = cap := by simpa using h3
    have hwf : ∀ z ∈ zs, 0 ≤ z ∧ z < 256 := fun z hz => by
      have hw := h5 z hz
      simp [Lit.wf, IntKind.min, IntKind.max, IntKind.signed, IntKind.bits] at hw
      omega
    have hlen : ((zs.take len).map Int.toNat).length = len := by simp; omega
    refine ⟨(zs.take len).map Int.toNat, ?_, by rw [hlen]; omega, some a, cap, by rw [cN_length, hlen], by rw [cN_length, hlen]; exact h1, fun h0 => ?_, by simp⟩
    · intro d hd
      obtain ⟨z, hz1, rfl⟩ := List.mem_map.1 hd
      have := hwf z (List.mem_of_mem_take hz1)
      omega
    · rw [cN_length, hlen] at h0
      obtain ⟨b, off, spot⟩ := a
      have hspot : spot = none := by simpa [Addr.add] using World.cell?_spot (h4 0 (by omega))
      subst hspot
      refine ⟨b, off, rfl, ?_, fun j hj => ?_⟩
      · have := h4 0 (by omega)
        simp only [Addr.add, if_true] at this
        exact cell_lt this
      · rw [cN_length, hlen] at hj
        have hjz : j < zs.length := by omega
        have e2 := h4 j hjz
        rw [Addr.add_mid] at e2
        rw [e2]
        have hr := hwf zs[j] (List.getElem_mem _)
        rw [cN_get (by rw [hlen]; exact hj)]
        simp [List.getD, hj, hjz]
        omega
end
section
variable {H : Type} {enc : TypeId × Value → H}
set_option maxRecDepth 100000 in
/-- An Int that came in. -/
theorem open_Int {W : World} {v : Value} {d : DataW H} {p : List MemPlace} {base : Nat} (hv : Value.okWide Try.prog W .any base 24 v) (h : DataW.Trod enc Try.prog W 0 (fun _ => true) true 24 v d p) :
    ∃ (s : Bool) (b : List Nat), (∀ d ∈ b, d < 256) ∧ b.length ≤ maxLen ∧ (rintD s b).R [] W v := by
  obtain ⟨v0, v1, y0, y1, n, rfl, -, -, h0, h1⟩ := Joins.open_agg2 Try.underlying24 (by kernel_rfl) (by kernel_rfl) hv h
  obtain ⟨s, e0, -⟩ := DataW.trod_bool Try.underlying4 h0
  obtain rfl : v0 = .bool s := by simpa using e0
  obtain ⟨b, hb, hl, hr⟩ := raw_of Try.underlying22 Try.underlying5 (by kernel_rfl) h1
  exact ⟨s, b, hb, hl, [.bool s, v1], rfl, rfl, hr, trivial⟩
set_option maxRecDepth 100000 in
theorem open_Str {W : World} {v : Value} {d : DataW H} {p : List MemPlace} {base : Nat} (hv : Value.okWide Try.prog W .any base 9 v) (_ : DataW.Trod enc Try.prog W 0 (fun _ => true) true 9 v d p) : ∃ b : List UInt8, (strD b).R [] W v := by
  obtain ⟨s, rfl⟩ := okWide_string Try.underlying9 hv
  obtain ⟨⟨s⟩⟩ := s
  exact ⟨s, rfl⟩
set_option maxRecDepth 100000 in
theorem open_I64 {W : World} {v : Value} {d : DataW H} {p : List MemPlace} {base : Nat} (hv : Value.okWide Try.prog W .any base 3 v) (h : DataW.Trod enc Try.prog W 0 (fun _ => true) true 3 v d p) : ∃ z : Int, -9223372036854775808 ≤ z ∧ z ≤ 9223372036854775807 ∧ (errD z).R [] W v := by
  obtain ⟨z, rfl, -, -, hz⟩ := open_int Try.underlying3 hv h
  exact ⟨z, (wf_i64 hz).1, (wf_i64 hz).2, rfl⟩
end
end Sx
end Go.Proofs.Ytddfphneidcibaa
