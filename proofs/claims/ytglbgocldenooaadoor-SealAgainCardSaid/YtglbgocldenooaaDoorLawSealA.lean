/-
  THE WALK of the law SealAgain.
-/
import Derived.Test.YtglbgocldenooaaDoorSealKn
import Derived.Test.YtglbgocldenooaaDoorSealQ
namespace Go.Proofs.YtglbgocldenooaaDoor
open Go.RowKit

set_option maxHeartbeats 4000000 in
set_option maxRecDepth 100000 in
theorem sealAgain_in (w : World) (A B C D : Option Addr) (na ca nb cb cc cd : Nat) (k n one two : List UInt8) (hna : na = k.length) (hnb : nb = n.length) (hma : na ≤ 9223372036854775807) (hmb : nb ≤ 9223372036854775807) (h1 : (one.length : Int) ≤ 300) (h2 : (two.length : Int) ≤ 300) (hcc : one.length ≤ cc) (hcd : two.length ≤ cd)
    (hA : RV w A (cellsOf k)) (hB : RV w B (cellsOf n)) (hC : RV w C (cellsOf one)) (hD : RV w D (cellsOf two)) (hgl : Gl w) :
    Calls Tryd.prog 14 #[.slice A na ca, .slice B nb cb, .slice C one.length cc, .slice D two.length cd] w fun e w' => e = .returned (.bool true) ∧ Only [] w w' := by
  obtain ⟨K, hK⟩ : ∃ K, K = kp k := ⟨_, rfl⟩
  obtain ⟨M, hM⟩ : ∃ M, M = np n := ⟨_, rfl⟩
  have hKl : K.length = 32 := by rw [hK]; simp
  have hMl : M.length = 16 := by rw [hM]; simp
  have Hna := Lib.hid hna
  have Hnb := Lib.hid hnb
  have HK := Lib.hid hK
  have HM := Lib.hid hM
  have HKl := Lib.hid hKl
  have HMl := Lib.hid hMl
  have h1' : (one.length : Int) ≤ 65504 := by omega
  have h2' : (two.length : Int) ≤ 65504 := by omega
  clear hna hnb hK hM hKl hMl
  go_enter Tryd.func14, Tryd.ntmps14
  go_wp2_with fail
  refine (key_any w A na ca k Hna.out hma hA).mono ?_
  rintro e w1 ⟨rfl, hK1, hO1⟩
  generalize hgk : w.heap.size = gk at hK1 ⊢
  rw [← HK.out] at hK1
  go_wp2_with fail
  refine (nonce_any w1 B nb cb n Hnb.out hmb (hB.keep0 hO1)).mono ?_
  rintro e w2 ⟨rfl, hN2, hO2⟩
  generalize hgn : w1.heap.size = gn at hN2 ⊢
  rw [← HM.out] at hN2
  have hP2 := hO1.trans' hO2
  have hRk2 : RV w2 (some ⟨gk, 0, none⟩) (cellsOf K) := hK1.rv.keep0 hO2
  clear hgk hgn hK1
  go_wp2_with fail
  refine (sealB_any w2 _ _ C 32 32 cc K M one HKl.out HMl.out h1' (by decide) (by decide) hcc hRk2 hN2 (hC.keep0 hP2) (hgl.keep hP2 (by simp) (by simp))).mono ?_
  rintro e w3 ⟨A3, c3, G3, rfl, hown3, hnew3, hO3⟩
  have hP3 := hP2.trans' hO3
  go_wp2_with fail
  refine (sealB_any w3 _ _ D 32 32 cd K M two HKl.out HMl.out h2' (by decide) (by decide) hcd (hRk2.keep0 hO3) (hN2.keep0 hO3) (hD.keep0 hP3) (hgl.keep hP3 (by simp) (by simp))).mono ?_
  rintro e w4 ⟨A4, c4, G4, rfl, hown4, hnew4, hO4⟩
  have hP4 := hP3.trans' hO4
  have hQ4 : Only [] w2 w4 := hO3.trans' hO4
  go_wp2_with fail
  refine (sealB_any w4 _ _ C 32 32 cc K M one HKl.out HMl.out h1' (by decide) (by decide) hcc (hRk2.keep0 hQ4) (hN2.keep0 hQ4) (hC.keep0 hP4) (hgl.keep hP4 (by simp) (by simp))).mono ?_
  rintro e w5 ⟨A5, c5, G5, rfl, hown5, hnew5, hO5⟩
  have hP5 := hP4.trans' hO5
  have hQ5 : Only [] w2 w5 := hQ4.trans' hO5
  have hx5 := (hown3.keep hO4 (by simp)).keep hO5 (by simp)
  have hlx := Sl.sealB_length K M one HMl.out
  have hly := Sl.sealB_length K M two HMl.out
  have Hlx := Lib.hid hlx
  have Hly := Lib.hid hly
  have hc3 : one.length + 32 ≤ c3 := by rw [← hlx]; simpa using hown3.le
  have hc4 : two.length + 32 ≤ c4 := by rw [← hly]; simpa using hown4.le
  clear hlx hly
  go_wp2_with fail
  have o1 := open_any w5 (some ⟨gk, 0, none⟩) A3 32 (one.length + 32) c3 K (Sl.sealB K M one) Hlx.out.symm HKl.out (by decide) hc3 (hRk2.keep0 hQ5) hx5.reads (hgl.keep hP5 (by simp) (by simp))
  rw [Sl.open_seal K M one HMl.out (by omega)] at o1
  refine o1.mono ?_
  clear o1
  rintro e w6 ⟨A6, c6, rfl, hc6, hR6, hA6, hO6⟩
  have hP6 := hP5.trans' hO6
  have hX : RV w6 A3 (cellsOf (Sl.sealB K M one)) := hx5.reads.keep0 hO6
  have hY : RV w6 A4 (cellsOf (Sl.sealB K M two)) := (hown4.keep hO5 (by simp)).reads.keep0 hO6
  have hZ : RV w6 A5 (cellsOf (Sl.sealB K M one)) := hown5.reads.keep0 hO6
  have hN6 : RV w6 (some ⟨gn, 0, none⟩) (cellsOf M) := (hN2.keep0 hQ5).keep0 hO6
  obtain ⟨g3, o3, rfl, hg3, hcX⟩ := hX (by rw [cellsOf_length, Hlx.out]; omega)
  obtain ⟨g4, o4, rfl, hg4, hcY⟩ := hY (by rw [cellsOf_length, Hly.out]; omega)
  have hX16 : RV w6 (some ⟨g3, o3, none⟩) (cellsOf M) := by
    have h := RV.slice rfl hX 0 16
    have e : ((cellsOf (Sl.sealB K M one)).drop 0).take 16 = cellsOf M := by rw [List.drop_zero, cellsOf, ← List.map_take, Sl.seal_front _ _ _ HMl.out]; rfl
    rw [e] at h
    simpa using h
  have hc3I : (one.length : Int) + 32 ≤ (c3 : Int) := by omega
  have hc16 : (16 : Int) ≤ (c3 : Int) := by omega
  have s1 := fun c => str_in0 (w := w6.drew) (n := one.length + 32) (c := c) hX.drew Hlx.out.symm
  have s2 := fun c => str_in0 (w := w6.drew) (n := one.length + 32) (c := c) hZ.drew Hlx.out.symm
  have s3 := fun c => str_in0 (w := w6.drew) (n := one.length) (c := c) hR6.drew rfl
  have s4 := fun c => str_in0 (w := w6.drew) (n := one.length) (c := c) (hC.keep0 hP6).drew rfl
  have s5 := fun c => str_in0 (w := w6.drew) (n := 16) (c := c) hX16.drew HMl.out.symm
  have s6 := fun c => str_in0 (w := w6.drew) (n := 16) (c := c) hN6.drew HMl.out.symm
  have HcX := Lib.hid hcX
  have HcY := Lib.hid hcY
  clear hcX hcY hX16 hR6 hx5 hown3 hown4 hown5 hQ4 hQ5 hRk2 hN2 hZ hA6
  go_wp2
  refine Reg.wp [] [.r 0, .r 1, .r 2, .r 3, .r 4, .r 5, .r 6, .r 7, .r 8, .r 9, .r 10, .r 11, .r 12, .r 13, .r 14, .r 15, .r 16, .r 17, .r 18, .r 19, .r 20, .r 21, .r 22, .r 23, .r 24, .r 25, .r 26, .r 27, .r 28, .r 29, .r 30, .r 31, .r 32, .r 33, .r 34, .r 35, .r 36, .r 37, .r 38, .r 39, .r 40, .r 41, .r 42, .r 43, .r 44, .r 45, .r 46, .r 47, .r 48, .r 49, .r 50, .r 51] (by kernel_rfl) (by kernel_rfl) (fun d _ _ _ _ h => by cases d <;> exact h) ?_
  simp only [Reg.pick, List.getD_cons_succ, List.getD_cons_zero]
  iterate 52 (apply Reg.read; (· (intro t K hK; go_simp; (try go_ints); (try ((go_ite <;> go_prune); go_simp)); (try go_ints); exact hK _ rfl)); (· (intro K hK; go_simp; exact hK _ rfl)))
  refine Reg.fin ?_
  clear s1 s2 s3 s4 s5 s6
  go_wp2
  go_loopw [19] (fun c wr => ∃ i : Nat, i ≤ one.length ∧ i ≤ two.length ∧ c = .int .i64 (i : Int) ∧ Only [] w6 wr) (fun c _ => one.length - (intOf c).toNat)
  case atStart => exact ⟨0, by omega, by omega, rfl, (Only.refl [] w6).drew⟩
  case round =>
    obtain ⟨i, hi1, hi2, rfl, hOr⟩ := hrel
    by_cases hlt : i < one.length ∧ i < two.length
    · obtain ⟨hl1, hl2⟩ := hlt
      have hl1I : (i : Int) < (one.length : Int) := by omega
      have hl2I : (i : Int) < (two.length : Int) := by omega
      obtain ⟨gc, oc, rfl, hgc, hcc'⟩ := hC (by rw [cellsOf_length]; omega)
      obtain ⟨gd, od, rfl, hgd, hcd'⟩ := hD (by rw [cellsOf_length]; omega)
      have hPr := hP6.trans' hOr
      have c1 : wr.cell? ⟨g3, o3 + (16 + i), none⟩ = some (.int .u8 (((Sl.sealB K M one).getD (16 + i) 0).toNat : Int)) := by
        rw [hOr.cell (p := ⟨g3, o3 + (16 + i), none⟩) hg3 (by simp), HcX.out (16 + i) (by rw [cellsOf_length, Hlx.out]; omega)]
        exact cellsOf_getD (by rw [Hlx.out]; omega)
      have c2 : wr.cell? ⟨g4, o4 + (16 + i), none⟩ = some (.int .u8 (((Sl.sealB K M two).getD (16 + i) 0).toNat : Int)) := by
        rw [hOr.cell (p := ⟨g4, o4 + (16 + i), none⟩) hg4 (by simp), HcY.out (16 + i) (by rw [cellsOf_length, Hly.out]; omega)]
        exact cellsOf_getD (by rw [Hly.out]; omega)
      have c3' : wr.cell? ⟨gc, oc + i, none⟩ = some (.int .u8 ((one.getD i 0).toNat : Int)) := by
        rw [hPr.cell (p := ⟨gc, oc + i, none⟩) hgc (by simp), hcc' i (by simpa using hl1)]
        exact cellsOf_getD hl1
      have c4' : wr.cell? ⟨gd, od + i, none⟩ = some (.int .u8 ((two.getD i 0).toNat : Int)) := by
        rw [hPr.cell (p := ⟨gd, od + i, none⟩) hgd (by simp), hcd' i (by simpa using hl2)]
        exact cellsOf_getD hl2
      rw [Sl.seal_get K M one HMl.out hl1] at c1
      rw [Sl.seal_get K M two HMl.out hl2] at c2
      revert c1 c2 c3' c4'
      generalize (Sl.blocks (Bl.hash K Sl.streamL) M (i + 1)).getD i 0 = s
      generalize one.getD i 0 = x
      generalize two.getD i 0 = y
      intro c1 c2 c3' c4'
      have hx1 := u8_xor_val (s ^^^ x) (s ^^^ y)
      have hx2 := u8_xor_val x y
      rw [Sl.xor_cancel] at hx1
      obtain ⟨p1, Hp1⟩ : ∃ z : Nat, Hid (z = (s ^^^ x).toNat) := ⟨_, rfl⟩
      obtain ⟨p2, Hp2⟩ : ∃ z : Nat, Hid (z = (s ^^^ y).toNat) := ⟨_, rfl⟩
      obtain ⟨z, Hz⟩ : ∃ z : Nat, Hid (z = (x ^^^ y).toNat) := ⟨_, rfl⟩
      rw [← Hp1.out] at c1 hx1
      rw [← Hp2.out] at c2 hx1
      rw [← Hz.out] at hx1 hx2
      have hg3r : g3 < wr.heap.size := Nat.lt_of_lt_of_le hg3 hOr.size
      have hg4r : g4 < wr.heap.size := Nat.lt_of_lt_of_le hg4 hOr.size
      have hgcr : gc < wr.heap.size := Nat.lt_of_lt_of_le hgc hPr.size
      have hgdr : gd < wr.heap.size := Nat.lt_of_lt_of_le hgd hPr.size
      clear hcc' hcd'
      go_wp2
      refine Reg.wp [] [.r 0, .r 1, .r 2, .r 3, .r 4, .r 5, .r 6, .r 7, .r 8, .r 9, .r 10, .r 11, .r 12, .r 13, .r 14, .r 15, .r 16, .r 17, .r 18, .r 19, .r 20] (by kernel_rfl) (by kernel_rfl) (fun d _ _ _ _ h => by cases d <;> exact h) ?_
      simp only [Reg.pick, List.getD_cons_succ, List.getD_cons_zero]
      iterate 21 (apply Reg.read; (· (intro t K hK; go_simp; (try go_ints); (try ((go_ite <;> go_prune); go_simp)); (try go_ints); exact hK _ rfl)); (· (intro K hK; go_simp; exact hK _ rfl)))
      refine Reg.fin ?_
      go_wp2
      go_roundw
      case rel => exact ⟨i + 1, by omega, by omega, by go_num, hOr.drew⟩
      case measure => simp [intOf]; omega
    · have hor : (one.length : Int) ≤ (i : Int) ∨ ((i : Int) < (one.length : Int) ∧ (two.length : Int) ≤ (i : Int)) := by omega
      clear hlt
      rcases hor with h | ⟨h, h'⟩
      all_goals
        go_wp2_with (go_at_call 25; refine (known5 wr (hgl.keep (hP6.trans' hOr) (by simp) (by simp))).mono ?_; rintro e W2 ⟨rfl, hO9⟩)
        go_ret
        exact ⟨rfl, (hP6.trans' hOr).trans' hO9⟩
end Go.Proofs.YtglbgocldenooaaDoor
