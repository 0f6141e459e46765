/-
  THE LAW RatioTexts.
-/
import Derived.Test.YtddfphneidcibaaLawRValid1
namespace Go.Proofs.Ytddfphneidcibaa
open Go.RowKit
open Nm (W32)
namespace Sx
/-- Parsing what Text gave. -/
theorem form_txt (x : Int) : formB (txt x) = true ∧ readZ (txt x) = x := by
  have hc := txt_cut x
  have hg : goodB (absT x) (decide (x < 0)) = true := by
    unfold goodB
    rw [absT_dec, Bool.true_and]
    have := absT_neg x
    simp at this ⊢
    rcases Int.lt_or_le x 0 with h1 | h1
    · exact .inr (this h1)
    · exact .inl h1
  refine ⟨by rw [form_cut hc]; exact hg, ?_⟩
  have h := (cut_form hc (absT_dec x) (absT_neg x)).2.1
  rw [h, absT_val]
  unfold sgn
  by_cases hn : x < 0 <;> simp [hn] <;> omega
theorem txt_no47 (x : Int) : 47 ∉ txt x := fun h => by
  have h1 := (form_read (form_txt x).1).1 47 h
  rcases h1 with h1 | h1
  · exact absurd h1 (by decide)
  · exact absurd h1.1 (by decide)
theorem txt_short {x : Int} (hx : x.natAbs < big512) : (txt x).length ≤ 156 := by
  have h1 := txt_len x
  have h2 := absT_len hx
  rw [h1]
  split <;> omega
theorem con_parseTxtQ {n d : Int} (hG : Good n d) : Con Try.prog 61 [strD (rtxt n d)] (tupD [ratD n d, errD 0]) := by
  obtain ⟨fn, zn⟩ := form_txt n
  have hn := txt_short hG.hn
  unfold rtxt
  by_cases h1 : d = 1
  · rw [if_pos h1]
    have hp : pE (txt n) = 0 ∧ pZ (txt n) = n := by
      have := pE_good fn
      rw [zn, (lim_ok hG.hn).1, (lim_ok hG.hn).2] at this
      exact this
    have h := con_parseN (txt_no47 n) (by omega)
    rw [← (o_ok hp.1).1, ← (o_ok hp.1).2, hp.1, hp.2] at h
    rw [h1]
    exact h
  · rw [if_neg h1, List.append_assoc]
    obtain ⟨fd, zd⟩ := form_txt d
    have hd := txt_short hG.hd
    have h := con_parseY (t := txt n) (u := txt d) (txt_no47 n) (by omega) (by omega)
    have hp := hG.pos
    have hb : bad6 (txt n) (txt d) = false := by
      refine bad_no fn fd (fun e => ?_) (fun e => ?_) (fun e => ?_)
      · have hc := txt_cut d
        rw [decide_eq_false (show ¬ d < 0 by omega)] at hc
        rcases hc with ⟨hc, -⟩ | ⟨-, hc, hc2⟩
        · cases hc
        · cases ht : txt d with
          | nil => rw [ht] at e; cases e
          | cons c r =>
            rw [ht] at e
            simp at e
            rw [ht, e] at hc
            exact hc2 r hc.symm
      · rw [e, read_48] at zd; omega
      · rw [e, read_49] at zd; omega
    have hs := s_ok (t := txt n) (u := txt d) hb (by rw [zn, zd]; have h7 := hG.hn; have h8 := hG.hd; simp [fits, h7, h8]) (by rw [zn, zd]; exact hG.g)
    rw [zn, zd] at hs
    rw [← hs.1, ← hs.2.1, ← hs.2.2] at h
    exact h
set_option maxHeartbeats 4000000 in
set_option maxRecDepth 100000 in
theorem rtexts_big {s t : Bool} {b c : List Nat} (h : anyR [((s, b), (t, c))] = true) : Con Try.prog 12 [rratD s b t c] (boolD true) := by
  refine con_of Try.func12 (by kernel_rfl) rfl (by kernel_rfl) fun base w0 => ?_
  refine SW.seq ?_
  refine SW.region ?_
  refine SWl.ef (S := []) (Ef.boxA rfl rfl) ?_
  rintro _ ⟨g1, rfl⟩
  refine SWl.rd rfl (Rd.assign rfl) ?_
  refine SWl.nil ?_
  refine SN.then ?_
  refine SW.seq ?_
  refine SW.seq ?_
  refine SW.region ?_
  refine SWl.rd rfl (Rd.loadA 0 4 rfl rfl (by kernel_rfl) rfl trivial) ?_
  refine SWl.ef (S := []) (Ef.litR rfl rfl blsR1 rfl) ?_
  rintro _ rfl
  refine SWl.ef (S := []) (Ef.call (con_bigQ [((s, b), (t, c))] (by simp)) rfl ⟨Le.refl _, trivial⟩ rfl) ?_
  rintro _ rfl
  refine SWl.rd rfl (Rd.move rfl) ?_
  refine SWl.off rfl rfl (h) rfl rfl ?_
  refine SWl.off rfl rfl (h) rfl rfl ?_
  refine SWl.off rfl rfl (h) rfl rfl ?_
  refine SWl.rd rfl (Rd.pickY rfl (h) rfl) ?_
  refine SWl.nil ?_
  refine SN.then ?_
  refine SW.condT rfl (rfl) ?_
  refine SW.seq ?_
  refine SW.region ?_
  refine SWl.ef (S := []) (Ef.call (con_known2) rfl trivial rfl) ?_
  rintro _ rfl
  refine SWl.rd rfl (Rd.assign rfl) ?_
  refine SWl.nil ?_
  refine SN.then ?_
  refine SW.ret (fn := Try.f12) (fun _ _ h => h) (Rs.one rfl (ResV.tmp rfl))
set_option maxHeartbeats 4000000 in
set_option maxRecDepth 100000 in
theorem rtexts_bad {s t : Bool} {b c : List Nat} (h : anyR [((s, b), (t, c))] = false) (hB : Byt b c) (hv : rvld s b t c = false) : Con Try.prog 12 [rratD s b t c] (boolD true) := by
  refine con_of Try.func12 (by kernel_rfl) rfl (by kernel_rfl) fun base w0 => ?_
  refine SW.seq ?_
  refine SW.region ?_
  refine SWl.ef (S := []) (Ef.boxA rfl rfl) ?_
  rintro _ ⟨g1, rfl⟩
  refine SWl.rd rfl (Rd.assign rfl) ?_
  refine SWl.nil ?_
  refine SN.then ?_
  refine SW.seq ?_
  refine SW.seq ?_
  refine SW.region ?_
  refine SWl.rd rfl (Rd.loadA 0 4 rfl rfl (by kernel_rfl) rfl trivial) ?_
  refine SWl.ef (S := []) (Ef.litR rfl rfl blsR1 rfl) ?_
  rintro _ rfl
  refine SWl.ef (S := []) (Ef.call (con_bigQ [((s, b), (t, c))] (by simp)) rfl ⟨Le.refl _, trivial⟩ rfl) ?_
  rintro _ rfl
  refine SWl.rd rfl (Rd.move rfl) ?_
  refine SWl.rdg rfl rfl (h) rfl rfl (Rd.loadA 0 4 rfl rfl (by kernel_rfl) rfl trivial) ?_
  refine SWl.efg (S := []) rfl rfl (h) rfl (Ef.call (con_rvalRF hB hv) rfl ⟨Le.refl _, trivial⟩ rfl) ?_
  rintro _ rfl
  refine SWl.rdg rfl rfl (h) rfl rfl (Rd.not rfl) ?_
  refine SWl.rd rfl (Rd.pickN rfl (h) rfl) ?_
  refine SWl.nil ?_
  refine SN.then ?_
  refine SW.condT rfl (rfl) ?_
  refine SW.seq ?_
  refine SW.region ?_
  refine SWl.ef (S := []) (Ef.call (con_known2) rfl trivial rfl) ?_
  rintro _ rfl
  refine SWl.rd rfl (Rd.assign rfl) ?_
  refine SWl.nil ?_
  refine SN.then ?_
  refine SW.ret (fn := Try.f12) (fun _ _ h => h) (Rs.one rfl (ResV.tmp rfl))
set_option maxHeartbeats 4000000 in
set_option maxRecDepth 100000 in
theorem rtexts_good {n d : Int} (hG : Good n d) : Con Try.prog 12 [ratD n d] (boolD true) := by
  refine con_of Try.func12 (by kernel_rfl) rfl (by kernel_rfl) fun base w0 => ?_
  refine SW.seq ?_
  refine SW.region ?_
  refine SWl.ef (S := []) (Ef.boxA rfl rfl) ?_
  rintro _ ⟨g1, rfl⟩
  refine SWl.rd rfl (Rd.assign rfl) ?_
  refine SWl.nil ?_
  refine SN.then ?_
  refine SW.seq ?_
  refine SW.seq ?_
  refine SW.region ?_
  refine SWl.rd rfl (Rd.loadA 0 4 rfl rfl (by kernel_rfl) rfl trivial) ?_
  refine SWl.ef (S := []) (Ef.litR rfl rfl blsR1 rfl) ?_
  rintro _ rfl
  refine SWl.ef (S := []) (Ef.call (con_bigQ [row4 n d] (by simp)) rfl ⟨Le.refl _, trivial⟩ rfl) ?_
  rintro _ rfl
  refine SWl.rd rfl (Rd.move rfl) ?_
  refine SWl.rdg rfl rfl (anyR1 hG) rfl rfl (Rd.loadA 0 4 rfl rfl (by kernel_rfl) rfl trivial) ?_
  refine SWl.efg (S := []) rfl rfl (anyR1 hG) rfl (Ef.call (con_rvalRT hG) rfl ⟨Le.refl _, trivial⟩ rfl) ?_
  rintro _ rfl
  refine SWl.rdg rfl rfl (anyR1 hG) rfl rfl (Rd.not rfl) ?_
  refine SWl.rd rfl (Rd.pickN rfl (anyR1 hG) rfl) ?_
  refine SWl.nil ?_
  refine SN.then ?_
  refine SW.condF rfl (rfl) ?_
  refine SW.skip ?_
  refine SN.then ?_
  refine SW.seq ?_
  refine SW.region ?_
  refine SWl.rd rfl (Rd.loadA 0 4 rfl rfl (by kernel_rfl) rfl trivial) ?_
  refine SWl.ef (S := []) (Ef.call (con_textQR hG) rfl ⟨Le.refl _, trivial⟩ rfl) ?_
  rintro _ rfl
  refine SWl.rd rfl (Rd.assign rfl) ?_
  refine SWl.nil ?_
  refine SN.then ?_
  refine SW.seq ?_
  refine SW.region ?_
  refine SWl.rd rfl (Rd.move rfl) ?_
  refine SWl.ef (S := []) (Ef.call (con_parseTxtQ hG) rfl ⟨Le.refl _, trivial⟩ rfl) ?_
  rintro _ rfl
  refine SWl.rd rfl (Rd.move rfl) ?_
  refine SWl.rd rfl (Rd.extract rfl rfl) ?_
  refine SWl.rd rfl (Rd.extract rfl rfl) ?_
  refine SWl.ef (S := []) (Ef.alloc (zs := [.bool false, .slice none 0 0, .bool false, .slice none 0 0]) (by kernel_rfl) rfl) ?_
  rintro _ ⟨g4, rfl⟩
  refine SWl.ef (S := [_]) (Ef.storeA 1 rfl rfl rfl (by kernel_rfl) rfl (List.mem_singleton.2 rfl)) ?_
  rintro _ rfl
  refine SWl.rd rfl (Rd.assign rfl) ?_
  refine SWl.nil ?_
  refine SN.then ?_
  refine SW.seq ?_
  refine SW.region ?_
  refine SWl.rd rfl (Rd.loadA 0 4 rfl rfl (by kernel_rfl) rfl trivial) ?_
  refine SWl.ef (S := []) (Ef.call (con_textQ hG) rfl ⟨Le.refl _, trivial⟩ rfl) ?_
  rintro _ rfl
  refine SWl.rd rfl (Rd.move rfl) ?_
  refine SWl.rd rfl (Rd.eqs  rfl rfl) ?_
  refine SWl.rd rfl (Rd.move rfl) ?_
  refine SWl.rdg rfl rfl (decide_eq_true rfl) rfl rfl (Rd.loadA 1 4 rfl rfl (by kernel_rfl) rfl trivial) ?_
  refine SWl.rdg rfl rfl (decide_eq_true rfl) rfl rfl (Rd.move rfl) ?_
  refine SWl.rdg rfl rfl (decide_eq_true rfl) rfl rfl (Rd.loadA 0 4 rfl rfl (by kernel_rfl) rfl trivial) ?_
  refine SWl.efg (S := []) rfl rfl (decide_eq_true rfl) rfl (Ef.call (con_same2L (by first | rfl | assumption) (by first | rfl | assumption) (by first | rfl | assumption)) rfl ⟨Le.refl _, Le.refl _, Le.refl _, Le.refl _, trivial⟩ rfl) ?_
  rintro _ rfl
  refine SWl.rd rfl (Rd.pickY rfl (decide_eq_true rfl) rfl) ?_
  refine SWl.rd rfl (Rd.move rfl) ?_
  refine SWl.efg (S := []) rfl rfl (rfl) rfl (Ef.call (con_known2) rfl trivial rfl) ?_
  rintro _ rfl
  refine SWl.rd rfl (Rd.pickY rfl (rfl) rfl) ?_
  refine SWl.rd rfl (Rd.assign rfl) ?_
  refine SWl.nil ?_
  refine SN.then ?_
  refine SW.ret (fn := Try.f12) (fun _ _ h => h) (Rs.one rfl (ResV.tmp rfl))
theorem ratioTexts_con (s : Bool) (b : List Nat) (t : Bool) (c : List Nat) (hB : Byt b c) : Con Try.prog 12 [rratD s b t c] (boolD true) := by
  cases h : anyR [((s, b), (t, c))]
  · cases hv : rvld s b t c
    · exact rtexts_bad h hB hv
    · obtain ⟨n, d, hG, rfl, rfl, rfl, rfl⟩ := rvld_out hB.l hB.r hv
      exact rtexts_good hG
  · exact rtexts_big h
end Sx
end Go.Proofs.Ytddfphneidcibaa
