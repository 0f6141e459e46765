/-
  THE WALKS of number's isDecimal and Parse.
-/
import Derived.Test.YtddfphneidcibaaT4
namespace Go.Proofs.Ytddfphneidcibaa
open Go.RowKit
open Nm (W32)

/-- Only digits, and no leading zeros? -/
def isDec (b : List UInt8) : Bool := decide (b.length ≠ 0) && !(decide (b.getD 0 0 = 48) && decide (1 < b.length)) && b.all fun c => decide (48 ≤ c.toNat) && decide (c.toNat ≤ 57)

theorem str_at (b : List UInt8) (i : Nat) (h : i < (ByteArray.mk b.toArray).size) : ((ByteArray.mk b.toArray)[i]'h).toNat = (b.getD i 0).toNat := by
  have hi : i < b.length := by simpa [ByteArray.size] using h
  rw [List.getD_eq_getElem?_getD, List.getElem?_eq_getElem hi]
  rfl
theorem isDec_all {b : List UInt8} (h0 : b.length ≠ 0) (hl : ¬ ((b.getD 0 0).toNat = 48 ∧ 1 < b.length)) : isDec b = b.all fun c => decide (48 ≤ c.toNat) && decide (c.toNat ≤ 57) := by
  unfold isDec
  have h1 : (decide (b.getD 0 0 = 48) && decide (1 < b.length)) = false := by
    rw [Bool.and_eq_false_iff]
    by_cases h : b.getD 0 0 = 48
    · right; exact decide_eq_false fun h' => hl ⟨by rw [h]; rfl, h'⟩
    · left; exact decide_eq_false h
  rw [h1, decide_eq_true h0]
  rfl
theorem isDec_lead {b : List UInt8} (h : (b.getD 0 0).toNat = 48) (h1 : 1 < b.length) : isDec b = false := by
  have h' : b.getD 0 0 = 48 := UInt8.toNat_inj.1 (by rw [h]; rfl)
  unfold isDec
  rw [decide_eq_true h', decide_eq_true h1]
  simp

set_option maxHeartbeats 4000000 in
set_option maxRecDepth 100000 in
theorem isDecimal_any (w : World) (b : List UInt8) (hb : b.length ≤ 1000000) : Calls Try.prog 92 #[.string ⟨b.toArray⟩] w fun e w' => e = .returned (.bool (isDec b)) ∧ w = w' := by
  by_cases h0 : b.length = 0
  · have hv : isDec b = false := by simp [isDec, h0]
    have Hv := Lib.hid hv
    have hb0 : b = [] := List.eq_nil_of_length_eq_zero h0
    subst hb0
    clear hv
    go_enter Try.func92, Try.ntmps92
    go_wp2
    go_ret
    exact ⟨by rw [Hv.out]; rfl, rfl⟩
  · have h0b : ((b.length : Int) == 0) = false := beq_eq_false_iff_ne.2 (by omega)
    have hpos : 0 < b.length := by omega
    have hbI : (b.length : Int) ≤ 1000000 := by omega
    have i0 := str_at b 0
    obtain ⟨x, Hx⟩ : ∃ x, Hid (x = (b.getD 0 0).toNat) := ⟨_, rfl⟩
    simp only [← Hx.out] at i0
    by_cases hlead : x = 48 ∧ 1 < b.length
    · obtain ⟨hx, h1⟩ := hlead
      have hv := isDec_lead (b := b) (by rw [← Hx.out]; exact hx) h1
      have Hv := Lib.hid hv
      subst hx
      have h1I : (1 : Int) < (b.length : Int) := by omega
      clear hv
      go_enter Try.func92, Try.ntmps92
      go_wp2
      go_ret
      exact ⟨by rw [Hv.out]; rfl, rfl⟩
    · have hv := isDec_all (b := b) h0 (by rw [← Hx.out]; exact hlead)
      have Hv := Lib.hid hv
      clear hv
      have hcase : ((x : Int) == 48) = false ∨ (x = 48 ∧ (b.length : Int) ≤ 1) := by
        by_cases h : x = 48
        · right; exact ⟨h, by omega⟩
        · left; exact beq_eq_false_iff_ne.2 (by omega)
      clear hlead
      have Hi0 := Lib.hid i0
      rcases hcase with hc | ⟨rfl, hc⟩
      · skip
        go_enter Try.func92, Try.ntmps92
        go_wp2
        go_loopw [2, 3, 19] (fun _ _ i wr => ∃ k : Nat, k ≤ b.length ∧ i = .int .i64 (k : Int) ∧ Hid ((b.take k).all (fun c => decide (48 ≤ c.toNat) && decide (c.toNat ≤ 57)) = true) ∧ w = wr) (fun _ _ i _ => b.length - (intOf i).toNat)
        case atStart => exact ⟨0, by omega, rfl, by unfold Hid; simp, rfl⟩
        case round =>
          clear i0
          obtain ⟨k, hk, rfl, hall, rfl⟩ := hrel
          by_cases hlt : k < b.length
          · have hltI : (k : Int) < (b.length : Int) := by omega
            have ik := str_at b k
            have hg : b.getD k 0 = b[k] := by rw [List.getD_eq_getElem?_getD, List.getElem?_eq_getElem hlt]; rfl
            have Hg := Lib.hid hg
            obtain ⟨y, Hy⟩ : ∃ y, Hid (y = (b.getD k 0).toNat) := ⟨_, rfl⟩
            simp only [← Hy.out] at ik
            clear hg
            have hno : ¬ (48 ≤ y ∧ y ≤ 57) → (b.all fun c => decide (48 ≤ c.toNat) && decide (c.toNat ≤ 57)) = false := by
              intro h
              rw [List.all_eq_false]
              refine ⟨b[k], List.getElem_mem hlt, ?_⟩
              rw [← Hg.out, ← Hy.out]
              simp
              omega
            have Hno := Lib.hid hno
            clear hno
            by_cases h1 : y < 48
            · have h1I : (y : Int) < 48 := by omega
              go_wp2
              go_ret
              exact ⟨by rw [Hv.out, Hno.out (by omega)]; rfl, rfl⟩
            · have h1I : (48 : Int) ≤ (y : Int) := by omega
              by_cases h2 : 57 < y
              · have h2I : (57 : Int) < (y : Int) := by omega
                go_wp2
                go_ret
                exact ⟨by rw [Hv.out, Hno.out (by omega)]; rfl, rfl⟩
              · have h2I : (y : Int) ≤ 57 := by omega
                go_wp2
                go_roundw
                case rel =>
                  refine ⟨k + 1, by omega, by go_num, ?_, trivial⟩
                  unfold Hid
                  rw [List.take_succ_eq_append_getElem hlt, List.all_append, hall.out, ← Hg.out, Bool.true_and]
                  simp only [List.all_cons, List.all_nil, Bool.and_true, ← Hy.out]
                  simp
                  omega
                case measure => simp [intOf]; omega
          · obtain rfl : k = b.length := by omega
            have h := hall.out
            rw [List.take_length] at h
            have Hh := Lib.hid h
            clear h
            go_wp2
            go_ret
            exact ⟨by rw [Hv.out, Hh.out]; rfl, rfl⟩
      · skip
        go_enter Try.func92, Try.ntmps92
        go_wp2
        go_loopw [2, 3, 19] (fun _ _ i wr => ∃ k : Nat, k ≤ b.length ∧ i = .int .i64 (k : Int) ∧ Hid ((b.take k).all (fun c => decide (48 ≤ c.toNat) && decide (c.toNat ≤ 57)) = true) ∧ w = wr) (fun _ _ i _ => b.length - (intOf i).toNat)
        case atStart => exact ⟨0, by omega, rfl, by unfold Hid; simp, rfl⟩
        case round =>
          clear i0
          obtain ⟨k, hk, rfl, hall, rfl⟩ := hrel
          by_cases hlt : k < b.length
          · have hltI : (k : Int) < (b.length : Int) := by omega
            have ik := str_at b k
            have hg : b.getD k 0 = b[k] := by rw [List.getD_eq_getElem?_getD, List.getElem?_eq_getElem hlt]; rfl
            have Hg := Lib.hid hg
            obtain ⟨y, Hy⟩ : ∃ y, Hid (y = (b.getD k 0).toNat) := ⟨_, rfl⟩
            simp only [← Hy.out] at ik
            clear hg
            have hno : ¬ (48 ≤ y ∧ y ≤ 57) → (b.all fun c => decide (48 ≤ c.toNat) && decide (c.toNat ≤ 57)) = false := by
              intro h
              rw [List.all_eq_false]
              refine ⟨b[k], List.getElem_mem hlt, ?_⟩
              rw [← Hg.out, ← Hy.out]
              simp
              omega
            have Hno := Lib.hid hno
            clear hno
            by_cases h1 : y < 48
            · have h1I : (y : Int) < 48 := by omega
              go_wp2
              go_ret
              exact ⟨by rw [Hv.out, Hno.out (by omega)]; rfl, rfl⟩
            · have h1I : (48 : Int) ≤ (y : Int) := by omega
              by_cases h2 : 57 < y
              · have h2I : (57 : Int) < (y : Int) := by omega
                go_wp2
                go_ret
                exact ⟨by rw [Hv.out, Hno.out (by omega)]; rfl, rfl⟩
              · have h2I : (y : Int) ≤ 57 := by omega
                go_wp2
                go_roundw
                case rel =>
                  refine ⟨k + 1, by omega, by go_num, ?_, trivial⟩
                  unfold Hid
                  rw [List.take_succ_eq_append_getElem hlt, List.all_append, hall.out, ← Hg.out, Bool.true_and]
                  simp only [List.all_cons, List.all_nil, Bool.and_true, ← Hy.out]
                  simp
                  omega
                case measure => simp [intOf]; omega
          · obtain rfl : k = b.length := by omega
            have h := hall.out
            rw [List.take_length] at h
            have Hh := Lib.hid h
            clear h
            go_wp2
            go_ret
            exact ⟨by rw [Hv.out, Hh.out]; rfl, rfl⟩
end Go.Proofs.Ytddfphneidcibaa
