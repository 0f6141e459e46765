/-
  THE LAW NumberTexts.
-/
import Derived.Test.YtddfphneidcibaaGN
import Derived.Test.YtddfphneidcibaaGateS
namespace Go.Proofs.Ytddfphneidcibaa
open Go.RowKit
open Nm (W32)
namespace Sx
theorem decV_ds10 : ∀ (n X : Nat), X ≤ n → decV (ds10 X) = X
  | 0, X, h => by
    obtain rfl : X = 0 := by omega
    rw [ds10_zero]; rfl
  | n + 1, X, h => by
    by_cases h0 : X = 0
    · subst h0; rw [ds10_zero]; rfl
    · rw [ds10_step h0, decV_snoc, decV_ds10 n (X / 10) (by omega)]
      have h1 : (UInt8.ofNat (48 + X % 10)).toNat = 48 + X % 10 := by
        simp
        omega
      rw [h1]
      omega
theorem ds10_dig : ∀ (n X : Nat), X ≤ n → ∀ c ∈ ds10 X, 48 ≤ c.toNat ∧ c.toNat ≤ 57
  | 0, X, h => by
    obtain rfl : X = 0 := by omega
    rw [ds10_zero]; simp
  | n + 1, X, h => by
    by_cases h0 : X = 0
    · subst h0; rw [ds10_zero]; simp
    · rw [ds10_step h0]
      intro c hc
      rcases List.mem_append.1 hc with hc | hc
      · exact ds10_dig n (X / 10) (by omega) c hc
      · have hc : c = UInt8.ofNat (48 + X % 10) := List.mem_singleton.1 hc
        subst hc
        have h1 : (UInt8.ofNat (48 + X % 10)).toNat = 48 + X % 10 := by
          simp
          omega
        omega
theorem ds10_lead : ∀ (n X : Nat), X ≤ n → X ≠ 0 → ∃ c t, ds10 X = c :: t ∧ c.toNat ≠ 48
  | 0, X, h, h0 => absurd (by omega) h0
  | n + 1, X, h, h0 => by
    rw [ds10_step h0]
    by_cases h1 : X / 10 = 0
    · rw [h1, ds10_zero]
      refine ⟨_, [], rfl, ?_⟩
      have h2 : (UInt8.ofNat (48 + X % 10)).toNat = 48 + X % 10 := by
        simp
        omega
      omega
    · obtain ⟨c, t, e, hc⟩ := ds10_lead n (X / 10) (by omega) h1
      exact ⟨c, t ++ [UInt8.ofNat (48 + X % 10)], by rw [e]; rfl, hc⟩
theorem isDec_ds10 {X : Nat} (h0 : X ≠ 0) : isDec (ds10 X) = true := by
  obtain ⟨c, t, e, hc⟩ := ds10_lead X X (Nat.le_refl _) h0
  rw [isDec_all (by rw [e]; simp) (by rw [e]; simp; intro h; exact absurd h hc)]
  rw [List.all_eq_true]
  intro d hd
  have := ds10_dig X X (Nat.le_refl _) d hd
  simp [this]
def absT (x : Int) : List UInt8 := if x = 0 then [48] else ds10 x.natAbs
theorem txt_cut (x : Int) : Cut (txt x) (absT x) (decide (x < 0)) := by
  rw [txt_of]
  unfold absT
  by_cases h : x < 0
  · left
    rw [decide_eq_true h, if_pos h]
    exact ⟨rfl, rfl⟩
  · right
    rw [decide_eq_false h, if_neg h]
    refine ⟨rfl, rfl, fun t ht => ?_⟩
    split at ht
    · injection ht with ht; exact absurd ht (by decide)
    · rename_i h0
      have := ds10_dig x.natAbs x.natAbs (Nat.le_refl _) 45 (by rw [ht]; simp)
      simp at this
theorem absT_dec (x : Int) : isDec (absT x) = true := by
  unfold absT
  split
  · decide
  · rename_i h; exact isDec_ds10 (by omega)
theorem absT_val (x : Int) : decV (absT x) = x.natAbs := by
  unfold absT
  split
  · rename_i h; subst h; decide
  · exact decV_ds10 _ _ (Nat.le_refl _)
theorem absT_neg (x : Int) : ¬ (decide (x < 0) = true ∧ absT x = [48]) := by
  rintro ⟨h, h1⟩
  have hx := of_decide_eq_true h
  have := absT_val x
  rw [h1] at this
  have h2 : decV [48] = 0 := by decide
  omega
theorem absT_len {x : Int} (hx : x.natAbs < big512) : (absT x).length ≤ 155 := by
  unfold absT
  split
  · decide
  · rw [ds10_length]
    exact (Nm.len_le (B := 10) (by decide) 155 _).2 (Nat.lt_of_lt_of_le hx (by unfold big512; decide +kernel))
theorem absT_decs (x : Int) : (absT x).length = (decs x.natAbs).length := by
  unfold absT decs ds10
  by_cases h : x = 0
  · subst h; rfl
  · rw [if_neg h, if_neg (by omega), List.length_map]
theorem txt_len (x : Int) : (txt x).length = (if x < 0 then 1 else 0) + (absT x).length := by
  rw [txt_of]
  unfold absT
  by_cases h : x < 0 <;> simp [h] <;> omega
theorem con_parseTxt {x : Int} (hx : x.natAbs < big512) : Con Try.prog 29 [strD (txt x)] (tupD [intD x, errD 0]) := by
  have hl := absT_len hx
  have h := con_parseGood (txt_cut x) (by rw [txt_len]; split <;> omega) (absT_dec x) (absT_neg x) hl
  have e : sgn (decide (x < 0)) (decV (absT x)) = x := by
    rw [absT_val]
    unfold sgn
    by_cases hn : x < 0 <;> simp [hn] <;> omega
  rw [e, (lim_ok hx).1, (lim_ok hx).2] at h
  exact h
set_option maxHeartbeats 4000000 in
set_option maxRecDepth 100000 in
theorem texts_valid {x : Int} (hx : x.natAbs < big512) : Con Try.prog 5 [intD x] (boolD true) := by
  have hl := absT_len hx
  have htl := txt_len x
  have hdl := absT_decs x
  have htl2 : (txt x).length ≤ 156 := by rw [htl]; split <;> omega
  refine con_of Try.func5 (by kernel_rfl) rfl (by kernel_rfl) fun base w0 => ?_
  refine SW.seq ?_
  refine SW.region ?_
  refine SWl.ef (S := []) (Ef.boxA rfl rfl) ?_
  rintro _ ⟨g1, rfl⟩
  refine SWl.rd rfl (Rd.assign rfl) ?_
  refine SWl.nil ?_
  refine SN.then ?_
  refine SW.seq ?_
  refine SW.seq ?_
  refine SW.region ?_
  refine SWl.rd rfl (Rd.loadA 0 2 rfl rfl (by kernel_rfl) rfl trivial) ?_
  refine SWl.ef (S := []) (Ef.litR rfl rfl blsI1 rfl) ?_
  rintro _ rfl
  refine SWl.ef (S := []) (Ef.call (con_big [(decide (x < 0), (Nm.dg 256 x.natAbs).reverse)] (by simp)) rfl ⟨Le.refl _, trivial⟩ rfl) ?_
  rintro _ rfl
  refine SWl.rd rfl (Rd.move rfl) ?_
  refine SWl.rdg rfl rfl (any1_int hx) rfl rfl (Rd.loadA 0 2 rfl rfl (by kernel_rfl) rfl trivial) ?_
  refine SWl.efg (S := []) rfl rfl (any1_int hx) rfl (Ef.call (con_validRT (by assumption)) rfl ⟨Le.refl _, trivial⟩ rfl) ?_
  rintro _ rfl
  refine SWl.rdg rfl rfl (any1_int hx) rfl rfl (Rd.not rfl) ?_
  refine SWl.rd rfl (Rd.pickN rfl (any1_int hx) rfl) ?_
  refine SWl.nil ?_
  refine SN.then ?_
  refine SW.condF rfl (rfl) ?_
  refine SW.skip ?_
  refine SN.then ?_
  refine SW.seq ?_
  refine SW.region ?_
  refine SWl.rd rfl (Rd.loadA 0 2 rfl rfl (by kernel_rfl) rfl trivial) ?_
  refine SWl.ef (S := []) (Ef.call (con_textR (b4_512 hx)) rfl ⟨Le.refl _, trivial⟩ rfl) ?_
  rintro _ rfl
  refine SWl.rd rfl (Rd.assign rfl) ?_
  refine SWl.nil ?_
  refine SN.then ?_
  refine SW.seq ?_
  refine SW.region ?_
  refine SWl.rd rfl (Rd.move rfl) ?_
  refine SWl.rd rfl (Rd.lenb rfl (by kernel_rfl)) ?_
  refine SWl.rd rfl (Rd.assign rfl) ?_
  refine SWl.nil ?_
  refine SN.then ?_
  refine SW.seq ?_
  refine SW.seq ?_
  refine SW.region ?_
  refine SWl.rd rfl (Rd.fieldAddr (n := 0) rfl (by kernel_rfl)) ?_
  refine SWl.rd rfl (Rd.loadB 0 rfl rfl rfl (by kernel_rfl) trivial) ?_
  refine SWl.nil ?_
  refine SN.then ?_
  refine SW.cond rfl (fun hb21 => ?_) (fun hb21 => ?_)
  · skip
    refine SW.region ?_
    refine SWl.rd rfl (Rd.move rfl) ?_
    refine SWl.rd rfl (Rd.subi rfl rfl ⟨by omega, by omega⟩) ?_
    refine SWl.rd rfl (Rd.assign rfl) ?_
    refine SWl.nil ?_
    refine SN.then ?_
    refine SW.seq ?_
    refine SW.region ?_
    refine SWl.rd rfl (Rd.move rfl) ?_
    refine SWl.ef (S := []) (Ef.call (con_parseTxt hx) rfl ⟨Le.refl _, trivial⟩ rfl) ?_
    rintro _ rfl
    refine SWl.rd rfl (Rd.move rfl) ?_
    refine SWl.rd rfl (Rd.extract rfl rfl) ?_
    refine SWl.rd rfl (Rd.extract rfl rfl) ?_
    refine SWl.ef (S := []) (Ef.alloc (zs := [.bool false, .slice none 0 0]) (by kernel_rfl) rfl) ?_
    rintro _ ⟨g5, rfl⟩
    refine SWl.ef (S := [_]) (Ef.storeA 1 rfl rfl rfl (by kernel_rfl) rfl (List.mem_singleton.2 rfl)) ?_
    rintro _ rfl
    refine SWl.rd rfl (Rd.assign rfl) ?_
    refine SWl.nil ?_
    refine SN.then ?_
    refine SW.seq ?_
    refine SW.region ?_
    refine SWl.rd rfl (Rd.loadA 0 2 rfl rfl (by kernel_rfl) rfl trivial) ?_
    refine SWl.ef (S := []) (Ef.call (con_text hx) rfl ⟨Le.refl _, trivial⟩ rfl) ?_
    rintro _ rfl
    refine SWl.rd rfl (Rd.move rfl) ?_
    refine SWl.rd rfl (Rd.eqs  rfl rfl) ?_
    refine SWl.rd rfl (Rd.move rfl) ?_
    refine SWl.rdg rfl rfl (decide_eq_true rfl) rfl rfl (Rd.loadA 0 2 rfl rfl (by kernel_rfl) rfl trivial) ?_
    refine SWl.efg (S := []) rfl rfl (decide_eq_true rfl) rfl (Ef.call (con_digits10 hx) rfl ⟨Le.refl _, trivial⟩ rfl) ?_
    rintro _ rfl
    refine SWl.rdg rfl rfl (decide_eq_true rfl) rfl rfl (Rd.move rfl) ?_
    refine SWl.rdg rfl rfl (decide_eq_true rfl) rfl rfl (Rd.eqi rfl rfl) ?_
    refine SWl.rd rfl (Rd.pickY rfl (decide_eq_true rfl) rfl) ?_
    refine SWl.rd rfl (Rd.move rfl) ?_
    refine SWl.rdg rfl rfl (decide_eq_true (by first | (rw [if_pos (of_decide_eq_true hb21)] at htl; omega) | (rw [if_neg (of_decide_eq_false hb21)] at htl; omega))) rfl rfl (Rd.loadA 1 2 rfl rfl (by kernel_rfl) rfl trivial) ?_
    refine SWl.rdg rfl rfl (decide_eq_true (by first | (rw [if_pos (of_decide_eq_true hb21)] at htl; omega) | (rw [if_neg (of_decide_eq_false hb21)] at htl; omega))) rfl rfl (Rd.move rfl) ?_
    refine SWl.rdg rfl rfl (decide_eq_true (by first | (rw [if_pos (of_decide_eq_true hb21)] at htl; omega) | (rw [if_neg (of_decide_eq_false hb21)] at htl; omega))) rfl rfl (Rd.loadA 0 2 rfl rfl (by kernel_rfl) rfl trivial) ?_
    refine SWl.efg (S := []) rfl rfl (decide_eq_true (by first | (rw [if_pos (of_decide_eq_true hb21)] at htl; omega) | (rw [if_neg (of_decide_eq_false hb21)] at htl; omega))) rfl (Ef.call (con_sameL (by first | rfl | assumption) (by first | rfl | assumption)) rfl ⟨Le.refl _, Le.refl _, Le.refl _, Le.refl _, trivial⟩ rfl) ?_
    rintro _ rfl
    refine SWl.rd rfl (Rd.pickY rfl (decide_eq_true (by first | (rw [if_pos (of_decide_eq_true hb21)] at htl; omega) | (rw [if_neg (of_decide_eq_false hb21)] at htl; omega))) rfl) ?_
    refine SWl.rd rfl (Rd.move rfl) ?_
    refine SWl.efg (S := []) rfl rfl (rfl) rfl (Ef.call (con_known) rfl trivial rfl) ?_
    rintro _ rfl
    refine SWl.rd rfl (Rd.pickY rfl (rfl) rfl) ?_
    refine SWl.rd rfl (Rd.assign rfl) ?_
    refine SWl.nil ?_
    refine SN.then ?_
    refine SW.ret (fn := Try.f5) (fun _ _ h => h) (Rs.one rfl (ResV.tmp rfl))
  · skip
    refine SW.skip ?_
    refine SN.then ?_
    refine SW.seq ?_
    refine SW.region ?_
    refine SWl.rd rfl (Rd.move rfl) ?_
    refine SWl.ef (S := []) (Ef.call (con_parseTxt hx) rfl ⟨Le.refl _, trivial⟩ rfl) ?_
    rintro _ rfl
    refine SWl.rd rfl (Rd.move rfl) ?_
    refine SWl.rd rfl (Rd.extract rfl rfl) ?_
    refine SWl.rd rfl (Rd.extract rfl rfl) ?_
    refine SWl.ef (S := []) (Ef.alloc (zs := [.bool false, .slice none 0 0]) (by kernel_rfl) rfl) ?_
    rintro _ ⟨g5, rfl⟩
    refine SWl.ef (S := [_]) (Ef.storeA 1 rfl rfl rfl (by kernel_rfl) rfl (List.mem_singleton.2 rfl)) ?_
    rintro _ rfl
    refine SWl.rd rfl (Rd.assign rfl) ?_
    refine SWl.nil ?_
    refine SN.then ?_
    refine SW.seq ?_
    refine SW.region ?_
    refine SWl.rd rfl (Rd.loadA 0 2 rfl rfl (by kernel_rfl) rfl trivial) ?_
    refine SWl.ef (S := []) (Ef.call (con_text hx) rfl ⟨Le.refl _, trivial⟩ rfl) ?_
    rintro _ rfl
    refine SWl.rd rfl (Rd.move rfl) ?_
    refine SWl.rd rfl (Rd.eqs  rfl rfl) ?_
    refine SWl.rd rfl (Rd.move rfl) ?_
    refine SWl.rdg rfl rfl (decide_eq_true rfl) rfl rfl (Rd.loadA 0 2 rfl rfl (by kernel_rfl) rfl trivial) ?_
    refine SWl.efg (S := []) rfl rfl (decide_eq_true rfl) rfl (Ef.call (con_digits10 hx) rfl ⟨Le.refl _, trivial⟩ rfl) ?_
    rintro _ rfl
    refine SWl.rdg rfl rfl (decide_eq_true rfl) rfl rfl (Rd.move rfl) ?_
    refine SWl.rdg rfl rfl (decide_eq_true rfl) rfl rfl (Rd.eqi rfl rfl) ?_
    refine SWl.rd rfl (Rd.pickY rfl (decide_eq_true rfl) rfl) ?_
    refine SWl.rd rfl (Rd.move rfl) ?_
    refine SWl.rdg rfl rfl (decide_eq_true (by first | (rw [if_pos (of_decide_eq_true hb21)] at htl; omega) | (rw [if_neg (of_decide_eq_false hb21)] at htl; omega))) rfl rfl (Rd.loadA 1 2 rfl rfl (by kernel_rfl) rfl trivial) ?_
    refine SWl.rdg rfl rfl (decide_eq_true (by first | (rw [if_pos (of_decide_eq_true hb21)] at htl; omega) | (rw [if_neg (of_decide_eq_false hb21)] at htl; omega))) rfl rfl (Rd.move rfl) ?_
    refine SWl.rdg rfl rfl (decide_eq_true (by first | (rw [if_pos (of_decide_eq_true hb21)] at htl; omega) | (rw [if_neg (of_decide_eq_false hb21)] at htl; omega))) rfl rfl (Rd.loadA 0 2 rfl rfl (by kernel_rfl) rfl trivial) ?_
    refine SWl.efg (S := []) rfl rfl (decide_eq_true (by first | (rw [if_pos (of_decide_eq_true hb21)] at htl; omega) | (rw [if_neg (of_decide_eq_false hb21)] at htl; omega))) rfl (Ef.call (con_sameL (by first | rfl | assumption) (by first | rfl | assumption)) rfl ⟨Le.refl _, Le.refl _, Le.refl _, Le.refl _, trivial⟩ rfl) ?_
    rintro _ rfl
    refine SWl.rd rfl (Rd.pickY rfl (decide_eq_true (by first | (rw [if_pos (of_decide_eq_true hb21)] at htl; omega) | (rw [if_neg (of_decide_eq_false hb21)] at htl; omega))) rfl) ?_
    refine SWl.rd rfl (Rd.move rfl) ?_
    refine SWl.efg (S := []) rfl rfl (rfl) rfl (Ef.call (con_known) rfl trivial rfl) ?_
    rintro _ rfl
    refine SWl.rd rfl (Rd.pickY rfl (rfl) rfl) ?_
    refine SWl.rd rfl (Rd.assign rfl) ?_
    refine SWl.nil ?_
    refine SN.then ?_
    refine SW.ret (fn := Try.f5) (fun _ _ h => h) (Rs.one rfl (ResV.tmp rfl))
set_option maxHeartbeats 4000000 in
set_option maxRecDepth 100000 in
theorem texts_big {s : Bool} {b : List Nat} (h : anyB [(s, b)] = true) : Con Try.prog 5 [rintD s b] (boolD true) := by
  refine con_of Try.func5 (by kernel_rfl) rfl (by kernel_rfl) fun base w0 => ?_
  refine SW.seq ?_
  refine SW.region ?_
  refine SWl.ef (S := []) (Ef.boxA rfl rfl) ?_
  rintro _ ⟨g1, rfl⟩
  refine SWl.rd rfl (Rd.assign rfl) ?_
  refine SWl.nil ?_
  refine SN.then ?_
  refine SW.seq ?_
  refine SW.seq ?_
  refine SW.region ?_
  refine SWl.rd rfl (Rd.loadA 0 2 rfl rfl (by kernel_rfl) rfl trivial) ?_
  refine SWl.ef (S := []) (Ef.litR rfl rfl blsI1 rfl) ?_
  rintro _ rfl
  refine SWl.ef (S := []) (Ef.call (con_big [(_, _)] (by simp)) rfl ⟨Le.refl _, trivial⟩ rfl) ?_
  rintro _ rfl
  refine SWl.rd rfl (Rd.move rfl) ?_
  refine SWl.off rfl rfl (h) rfl rfl ?_
  refine SWl.off rfl rfl (h) rfl rfl ?_
  refine SWl.off rfl rfl (h) rfl rfl ?_
  refine SWl.rd rfl (Rd.pickY rfl (h) rfl) ?_
  refine SWl.nil ?_
  refine SN.then ?_
  refine SW.condT rfl (rfl) ?_
  refine SW.seq ?_
  refine SW.region ?_
  refine SWl.ef (S := []) (Ef.call (con_known) rfl trivial rfl) ?_
  rintro _ rfl
  refine SWl.rd rfl (Rd.assign rfl) ?_
  refine SWl.nil ?_
  refine SN.then ?_
  refine SW.ret (fn := Try.f5) (fun _ _ h => h) (Rs.one rfl (ResV.tmp rfl))
set_option maxHeartbeats 4000000 in
set_option maxRecDepth 100000 in
theorem texts_bad {s : Bool} {b : List Nat} (h : anyB [(s, b)] = false) (hv : vld s b = false) : Con Try.prog 5 [rintD s b] (boolD true) := by
  refine con_of Try.func5 (by kernel_rfl) rfl (by kernel_rfl) fun base w0 => ?_
  refine SW.seq ?_
  refine SW.region ?_
  refine SWl.ef (S := []) (Ef.boxA rfl rfl) ?_
  rintro _ ⟨g1, rfl⟩
  refine SWl.rd rfl (Rd.assign rfl) ?_
  refine SWl.nil ?_
  refine SN.then ?_
  refine SW.seq ?_
  refine SW.seq ?_
  refine SW.region ?_
  refine SWl.rd rfl (Rd.loadA 0 2 rfl rfl (by kernel_rfl) rfl trivial) ?_
  refine SWl.ef (S := []) (Ef.litR rfl rfl blsI1 rfl) ?_
  rintro _ rfl
  refine SWl.ef (S := []) (Ef.call (con_big [(_, _)] (by simp)) rfl ⟨Le.refl _, trivial⟩ rfl) ?_
  rintro _ rfl
  refine SWl.rd rfl (Rd.move rfl) ?_
  refine SWl.rdg rfl rfl (h) rfl rfl (Rd.loadA 0 2 rfl rfl (by kernel_rfl) rfl trivial) ?_
  refine SWl.efg (S := []) rfl rfl (h) rfl (Ef.call (con_validRF hv) rfl ⟨Le.refl _, trivial⟩ rfl) ?_
  rintro _ rfl
  refine SWl.rdg rfl rfl (h) rfl rfl (Rd.not rfl) ?_
  refine SWl.rd rfl (Rd.pickN rfl (h) rfl) ?_
  refine SWl.nil ?_
  refine SN.then ?_
  refine SW.condT rfl (rfl) ?_
  refine SW.seq ?_
  refine SW.region ?_
  refine SWl.ef (S := []) (Ef.call (con_known) rfl trivial rfl) ?_
  rintro _ rfl
  refine SWl.rd rfl (Rd.assign rfl) ?_
  refine SWl.nil ?_
  refine SN.then ?_
  refine SW.ret (fn := Try.f5) (fun _ _ h => h) (Rs.one rfl (ResV.tmp rfl))
theorem numberTexts_con (s : Bool) (b : List Nat) (hb : ∀ d ∈ b, d < 256) : Con Try.prog 5 [rintD s b] (boolD true) := by
  cases hB : anyB [(s, b)]
  · cases hv : vld s b
    · exact texts_bad hB hv
    · obtain ⟨x, hx, rfl, rfl⟩ := vld_out hb hv
      exact texts_valid hx
  · exact texts_big hB
end Sx
end Go.Proofs.Ytddfphneidcibaa
