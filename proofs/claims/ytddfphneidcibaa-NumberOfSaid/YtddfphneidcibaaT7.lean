/-
  THE WALK of number's Parse on decimal forms.
-/
import Derived.Test.YtddfphneidcibaaT6
namespace Go.Proofs.Ytddfphneidcibaa
open Go.RowKit
open Nm (W32)

set_option maxHeartbeats 4000000 in
set_option maxRecDepth 100000 in
theorem parse_long (w : World) (b ds : List UInt8) (neg : Bool) (hc : Cut b ds neg) (hb : b.length ≤ 1000) (hd : isDec ds = true) (hl : 155 < ds.length) :
    Calls Try.prog 29 #[.string ⟨b.toArray⟩] w (RI w 0 7) := by
  have hlI : (155 : Int) < (ds.length : Int) := by omega
  obtain ⟨k0, k1, f0, f1⟩ := (Blk.int0 w).two
  have hne : (ds == [48]) = false := beq_eq_false_iff_ne.2 fun h => by rw [h] at hl; simp at hl
  cases neg
  all_goals
    have hO0 : Only [] w (w.alloc (.cells #[.bool false, .slice none 0 0] 24)) := (Only.refl [] w).alloc _
    have hdl : ds.length ≤ 1000 := by rcases hc with ⟨_, h⟩ | ⟨_, h, _⟩ <;> (rw [h] at hb; first | omega | (simp at hb; omega))
    have Hc := Lib.hid hc
    have Hd := Lib.hid hd
    clear hc hd
    go_enter Try.func29, Try.ntmps29
    go_wp2_with fail
    refine (cut_any _ b ds _ Hc.out).mono ?_
    rintro e w' ⟨rfl, rfl⟩
    go_wp2_with fail
    have hdd := isDecimal_any (w.alloc (.cells #[.bool false, .slice none 0 0] 24)) ds (by omega)
    rw [Hd.out] at hdd
    refine hdd.mono ?_
    clear hdd
    rintro e w' ⟨rfl, rfl⟩
    go_wp2
    exact bodyPost_ret (results_row_tmp rfl _ _ (w.heap.size) 24 [_, _] _ rfl ((Blk.int0 w)) Try.underlying24 rfl isz) rfl (RI.of rfl (IntS.zero _ _ _) (Frs.none (w.alloc (.cells #[.bool false, .slice none 0 0] 24))) (by simp) (Nat.le_refl _) hO0 (Only.refl _ _))

theorem isDec_dig {ds : List UInt8} (h : isDec ds = true) : ∀ c ∈ ds, 48 ≤ c.toNat ∧ c.toNat ≤ 57 := by
  unfold isDec at h
  simp only [Bool.and_eq_true, List.all_eq_true, decide_eq_true_eq] at h
  exact h.2
theorem dec_w32 {ds : List UInt8} (h : isDec ds = true) (hl : ds.length ≤ 155) (k : Nat) : decV (ds.take k) < W32 ^ 17 := by
  have h1 := decV_lt (ds.take k) fun c hc => (isDec_dig h c (List.mem_of_mem_take hc)).2
  refine Nat.lt_of_lt_of_le h1 ?_
  have h2 : 10 ^ (ds.take k).length ≤ 10 ^ 155 := Nat.pow_le_pow_right (by decide) (by rw [List.length_take]; omega)
  exact Nat.le_trans h2 (by decide +kernel)
theorem decV_next {ds : List UInt8} {k : Nat} (hk : k < ds.length) : decV (ds.take (k + 1)) = decV (ds.take k) * 10 + ((ds.getD k 0).toNat - 48) := by
  have hg : ds.getD k 0 = ds[k] := by rw [List.getD_eq_getElem?_getD, List.getElem?_eq_getElem hk]; rfl
  rw [List.take_succ_eq_append_getElem hk, decV_snoc, hg]
/-- A slice of one word below ten. -/
theorem rv_one (w : World) (v : Nat) (hv : v < W32) : RV (w.alloc (.cells #[.int .u32 (v : Int)] 83)) (some ⟨w.heap.size, 0, none⟩) (cN .u32 (Nm.pad W32 1 v)) :=
  RV.new (by simp [Nm.pad, cN, Nat.mod_eq_of_lt hv])

set_option maxHeartbeats 4000000 in
set_option maxRecDepth 100000 in
theorem parse_good (w : World) (b ds : List UInt8) (neg : Bool) (hc : Cut b ds neg) (hb : b.length ≤ 1000) (hd : isDec ds = true) (hn0 : ¬ (neg = true ∧ ds = [48])) (hl : ds.length ≤ 155) :
    Calls Try.prog 29 #[.string ⟨b.toArray⟩] w (RI w (limZ (sgn neg (decV ds))) (limE (sgn neg (decV ds)))) := by
  have hlI : (ds.length : Int) ≤ 155 := by omega
  generalize hz : limZ (sgn neg (decV ds)) = zz
  generalize he : limE (sgn neg (decV ds)) = ee
  have Hz := Lib.hid hz
  have He := Lib.hid he
  have hne : neg = true → (ds == [48]) = false := fun h => beq_eq_false_iff_ne.2 fun h' => hn0 ⟨h, h'⟩
  clear hz he hn0
  cases neg
  all_goals
    have hne := hne
    simp only [forall_const, Bool.false_eq_true, false_implies] at hne
    have hO0 : Only [] w (w.alloc (.cells #[.bool false, .slice none 0 0] 24)) := (Only.refl [] w).alloc _
    have hdl : ds.length ≤ 1000 := by rcases hc with ⟨_, h⟩ | ⟨_, h, _⟩ <;> (rw [h] at hb; first | omega | (simp at hb; omega))
    have Hc := Lib.hid hc
    have Hd := Lib.hid hd
    clear hc hd
    go_enter Try.func29, Try.ntmps29
    go_wp2_with fail
    refine (cut_any _ b ds _ Hc.out).mono ?_
    rintro e w' ⟨rfl, rfl⟩
    go_wp2_with fail
    have hdd := isDecimal_any (w.alloc (.cells #[.bool false, .slice none 0 0] 24)) ds (by omega)
    rw [Hd.out] at hdd
    refine hdd.mono ?_
    clear hdd
    rintro e w' ⟨rfl, rfl⟩
    go_wp2
    go_loopw [6, 7, 30] (fun x _ i wr => ∃ (k : Nat) (Ax : Option Addr) (nx cx : Nat), i = .int .i64 (k : Int) ∧ k ≤ ds.length ∧ x = .slice Ax nx cx ∧ NatS wr Ax nx cx (decV (ds.take k)) ∧ Only [] (w.alloc (.cells #[.bool false, .slice none 0 0] 24)) wr) (fun _ _ i _ => ds.length - (intOf i).toNat)
    case atStart => exact ⟨0, none, 0, 0, rfl, Nat.zero_le _, rfl, by simpa [decV] using NatS.zero _ _ _, Only.refl _ _⟩
    case round =>
      obtain ⟨k, Ax, nx, cx, rfl, hk, rfl, hNx, hOr⟩ := hrel
      have hnx : nx ≤ 17 := hNx.n_le (dec_w32 Hd.out hl k)
      by_cases hlt : k < ds.length
      · have hltI : (k : Int) < (ds.length : Int) := by omega
        have ik := str_at ds k
        have hdig : 48 ≤ (ds.getD k 0).toNat ∧ (ds.getD k 0).toNat ≤ 57 := by
          rw [List.getD_eq_getElem?_getD, List.getElem?_eq_getElem hlt, Option.getD_some]
          exact isDec_dig Hd.out _ (List.getElem_mem hlt)
        have Hnext := Lib.hid (decV_next hlt)
        obtain ⟨y, Hy⟩ : ∃ y, Hid (y = (ds.getD k 0).toNat) := ⟨_, rfl⟩
        simp only [← Hy.out] at ik hdig Hnext
        obtain ⟨hy1, hy2⟩ := hdig
        obtain ⟨dd, Hdd⟩ : ∃ dd, Hid (dd = y - 48) := ⟨_, rfl⟩
        rw [← Hdd.out] at Hnext
        have hyd : (y : Int) - 48 = (dd : Int) := by have := Hdd.out; omega
        have hy1I : (48 : Int) ≤ (y : Int) := by omega
        have hy2I : (y : Int) ≤ 57 := by omega
        have hdd9 : dd ≤ 9 := by have := Hdd.out; omega
        have hddI : (dd : Int) ≤ 9 := by omega
        have Hdd1 : Hid (dd < W32 ^ 1) := by unfold Hid; rw [Nat.pow_one]; exact Nat.lt_of_le_of_lt hdd9 (by decide)
        have HddW : Hid (dd < W32) := Nat.lt_of_le_of_lt hdd9 (by decide)
        have HM : Hid (decV (ds.take k) * 10 < W32 ^ 18) := by
          unfold Hid
          have h1 := dec_w32 Hd.out hl k
          rw [show 18 = 17 + 1 from rfl, Nat.pow_succ]
          exact Nat.mul_lt_mul'' h1 (by decide)
        go_wp2
        refine Reg.wpT [] (.r 0 (.r 3 (.r 4 (.r 5 (.r 6 (.r 7 (.two 1 (.two 2 (.e 8 (.e 9 (.e 10 (.r 11 .fin)))) 8 (.e 2 (.e 9 (.e 10 (.r 11 .fin))))) 8 (.e 1 (.e 2 (.e 9 (.e 10 (.r 11 .fin)))))))))))) (by kernel_rfl) (by kernel_rfl) (fun d _ _ _ _ h => by cases d <;> exact h) ?_
        simp only [Reg.pickT, List.getD_cons_succ, List.getD_cons_zero]
        iterate 6 (apply Reg.readT; (· (intro t K hK; go_simp; (try go_ints); (try ((go_ite <;> go_prune); go_simp)); (try go_ints); exact hK _ rfl)); (· (intro K hK; go_simp; exact hK _ rfl)))
        refine Reg.twoT ?_ ?_
        · go_wp2
          have hOa := (Only.refl [] wr.drew).alloc (.cells #[.int .u32 10] 83)
          have hNa : NatS (wr.drew.alloc (.cells #[.int .u32 10] 83)) (some ⟨wr.heap.size, 0, none⟩) 1 1 10 := NatS.one wr.drew 10 (by decide) (by decide)
          refine ⟨hOa, ?_⟩
          revert hOa hNa
          show (_ → _ → Reg.wpTr _ _ _ _ _ _ (wr.drew.alloc (.cells #[.int .u32 10] 83)))
          generalize wr.drew.alloc (.cells #[.int .u32 10] 83) = wa
          intro hOa hNa
          refine Reg.twoT ?_ ?_
          · skip
            go_wp2_with (go_at_call 87; refine (mulNat_any (wa) Ax _ nx cx 1 1 (decV (ds.take k)) 10 (by omega) (by decide) (hNx.drew.keep hOa) (hNa)).mono ?_; rintro e wm ⟨Am, nm, cm, rfl, hNm, hOm⟩)
            refine ⟨hOm, ?_⟩
            refine Reg.effT ?_
            go_wp2
            have hOd := (Only.refl [] wm).alloc (.cells #[.int .u32 (dd : Int)] 83)
            refine ⟨hOd, ?_⟩
            have hRd := rv_one wm dd HddW.out
            refine Reg.effT ?_
            go_wp2_with (go_at_call 83; refine (trim_any (_) _ 1 1 dd (Nat.le_refl _) (by decide) Hdd1.out (hRd)).mono ?_; rintro e w' ⟨mt, rfl, rfl, hNt⟩)
            refine ⟨Only.refl _ _, ?_⟩
            refine Reg.effT ?_
            go_wp2_with (go_at_call 93; refine (addNat_any (_) Am _ nm cm mt 1 _ dd (Nat.le_trans (hNm.n_le HM.out) (by decide)) (Nat.le_trans (hNt.n_le Hdd1.out) (by decide)) (hNm.keep hOd) hNt).mono ?_; rintro e wz ⟨Az, nz, cz, rfl, hNz, hOz⟩)
            refine ⟨hOz, ?_⟩
            (apply Reg.readT; (· (intro t K hK; go_simp; (try go_ints); (try ((go_ite <;> go_prune); go_simp)); (try go_ints); exact hK _ rfl)); (· (intro K hK; go_simp; exact hK _ rfl)))
            refine Reg.finT ?_
            go_wp2
            go_roundw
            case rel => exact ⟨k + 1, Az, nz, cz, by go_num, by omega, rfl, by rw [Hnext.out]; exact hNz, hOr.trans' (Only.undrew (w := wr) (((hOa.trans' hOm).trans' hOd).trans' hOz))⟩
            case measure => simp [intOf]; omega
          · go_wp2
            have hOd := (Only.refl [] wa).alloc (.cells #[.int .u32 (dd : Int)] 83)
            refine ⟨hOd, ?_⟩
            have hRd := rv_one wa dd HddW.out
            refine Reg.effT ?_
            go_wp2_with (go_at_call 87; refine (mulNat_any (_) Ax _ nx cx 1 1 (decV (ds.take k)) 10 (by omega) (by decide) ((hNx.drew.keep hOa).keep hOd) (hNa.keep hOd)).mono ?_; rintro e wm ⟨Am, nm, cm, rfl, hNm, hOm⟩)
            refine ⟨hOm, ?_⟩
            refine Reg.effT ?_
            go_wp2_with (go_at_call 83; refine (trim_any (wm) _ 1 1 dd (Nat.le_refl _) (by decide) Hdd1.out (hRd.keep0 hOm)).mono ?_; rintro e w' ⟨mt, rfl, rfl, hNt⟩)
            refine ⟨Only.refl _ _, ?_⟩
            refine Reg.effT ?_
            go_wp2_with (go_at_call 93; refine (addNat_any (wm) Am _ nm cm mt 1 _ dd (Nat.le_trans (hNm.n_le HM.out) (by decide)) (Nat.le_trans (hNt.n_le Hdd1.out) (by decide)) (hNm) hNt).mono ?_; rintro e wz ⟨Az, nz, cz, rfl, hNz, hOz⟩)
            refine ⟨hOz, ?_⟩
            (apply Reg.readT; (· (intro t K hK; go_simp; (try go_ints); (try ((go_ite <;> go_prune); go_simp)); (try go_ints); exact hK _ rfl)); (· (intro K hK; go_simp; exact hK _ rfl)))
            refine Reg.finT ?_
            go_wp2
            go_roundw
            case rel => exact ⟨k + 1, Az, nz, cz, by go_num, by omega, rfl, by rw [Hnext.out]; exact hNz, hOr.trans' (Only.undrew (w := wr) (((hOa.trans' hOd).trans' hOm).trans' hOz))⟩
            case measure => simp [intOf]; omega
        · go_wp2
          have hOd := (Only.refl [] wr.drew).alloc (.cells #[.int .u32 (dd : Int)] 83)
          have hRd : RV (wr.drew.alloc (.cells #[.int .u32 (dd : Int)] 83)) (some ⟨wr.heap.size, 0, none⟩) (cN .u32 (Nm.pad W32 1 dd)) := rv_one wr.drew dd HddW.out
          refine ⟨hOd, ?_⟩
          revert hOd hRd
          show (_ → _ → Reg.wpTr _ _ _ _ _ _ (wr.drew.alloc (.cells #[.int .u32 (dd : Int)] 83)))
          generalize wr.drew.alloc (.cells #[.int .u32 (dd : Int)] 83) = wd
          intro hOd hRd
          refine Reg.effT ?_
          go_wp2
          have hOa := (Only.refl [] wd).alloc (.cells #[.int .u32 10] 83)
          have hNa : NatS (wd.alloc (.cells #[.int .u32 10] 83)) (some ⟨wd.heap.size, 0, none⟩) 1 1 10 := NatS.one wd 10 (by decide) (by decide)
          refine ⟨hOa, ?_⟩
          refine Reg.effT ?_
          go_wp2_with (go_at_call 87; refine (mulNat_any (_) Ax _ nx cx 1 1 (decV (ds.take k)) 10 (by omega) (by decide) ((hNx.drew.keep hOd).keep hOa) (hNa)).mono ?_; rintro e wm ⟨Am, nm, cm, rfl, hNm, hOm⟩)
          refine ⟨hOm, ?_⟩
          refine Reg.effT ?_
          go_wp2_with (go_at_call 83; refine (trim_any (wm) _ 1 1 dd (Nat.le_refl _) (by decide) Hdd1.out ((hRd.keep0 hOa).keep0 hOm)).mono ?_; rintro e w' ⟨mt, rfl, rfl, hNt⟩)
          refine ⟨Only.refl _ _, ?_⟩
          refine Reg.effT ?_
          go_wp2_with (go_at_call 93; refine (addNat_any (wm) Am _ nm cm mt 1 _ dd (Nat.le_trans (hNm.n_le HM.out) (by decide)) (Nat.le_trans (hNt.n_le Hdd1.out) (by decide)) (hNm) hNt).mono ?_; rintro e wz ⟨Az, nz, cz, rfl, hNz, hOz⟩)
          refine ⟨hOz, ?_⟩
          (apply Reg.readT; (· (intro t K hK; go_simp; (try go_ints); (try ((go_ite <;> go_prune); go_simp)); (try go_ints); exact hK _ rfl)); (· (intro K hK; go_simp; exact hK _ rfl)))
          refine Reg.finT ?_
          go_wp2
          go_roundw
          case rel => exact ⟨k + 1, Az, nz, cz, by go_num, by omega, rfl, by rw [Hnext.out]; exact hNz, hOr.trans' (Only.undrew (w := wr) (((hOd.trans' hOa).trans' hOm).trans' hOz))⟩
          case measure => simp [intOf]; omega
      · obtain rfl : k = ds.length := by omega
        rw [List.take_length] at hNx
        have hnxw : nx ≤ 99999 := by omega
        have hBr := (Blk.int0 w).keep hOr (by simp)
        have hsz : w.heap.size < wr.heap.size := Nat.lt_of_lt_of_le (by simp) hOr.size
        go_wp2_with (go_at_call 82
                     (first | (have hb := build_any wr false Ax nx cx (decV ds) hnxw hNx; rw [Hz.out, He.out] at hb; refine hb.mono ?_) | (have hb := build_any wr true Ax nx cx (decV ds) hnxw hNx; rw [Hz.out, He.out] at hb; refine hb.mono ?_))
                     rintro e w9 ⟨s9, A9, n9, c9, rfl, hI9, hF9, hO9⟩
                     have hBr9 := hBr.keep hO9 (by simp)
                     obtain ⟨p0, p1, f0, f1⟩ := hBr9.two)
        exact bodyPost_ret (results_row_tmp rfl _ _ (w.heap.size) 24 [_, _] _ rfl (hBr9.put2 _ _) Try.underlying24 rfl isz) rfl (RI.of rfl hI9 hF9 hsz (Nat.le_refl _) ((hO0.trans' hOr).trans' hO9) (only_put2 _ _ _ _))
end Go.Proofs.Ytddfphneidcibaa
