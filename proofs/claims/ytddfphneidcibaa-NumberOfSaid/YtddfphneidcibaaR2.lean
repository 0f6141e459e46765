/-
  THE WALK of the reference's Make.
-/
import Derived.Test.YtddfphneidcibaaR1
namespace Go.Proofs.Ytddfphneidcibaa
open Go.RowKit
open Nm (W32)

theorem drop_next {l : List Nat} {k : Nat} (h : k < l.length) : (l.drop k).reverse = (l.drop (k + 1)).reverse ++ [l.getD k 0] := by
  rw [List.drop_eq_getElem_cons h, List.reverse_cons, List.getD_eq_getElem?_getD, List.getElem?_eq_getElem h]
  rfl
theorem frs_own {w0 w : World} {e : TypeId} {A : Option Addr} {c : Nat} {xs : List Value} {G : Option Nat} (h : OwnS w e A c xs G) (hn : New w0 G) : Frs w0 A := by
  rcases h with ⟨rfl, _⟩ | ⟨g, r, rfl, rfl, _⟩
  · exact Frs.none _
  · intro p hp
    injection hp with hp
    subst hp
    exact hn g rfl

set_option maxHeartbeats 4000000 in
set_option maxRecDepth 100000 in
theorem makeR_any (w : World) (neg : Bool) (A : Option Addr) (n c X : Nat) (hc : n ≤ c) (hm : n ≤ 1000000) (hX : X < 256 ^ n) (hr : RV w A (cN .u8 (Nm.pad 256 n X))) :
    Calls Try.prog 84 #[.bool neg, .slice A n c] w (RV1 w (sgn neg X)) := by
  have hO0 : Only [] w (w.alloc (.cells #[.bool false, .slice none 0 0] 24)) := (Only.refl [] w).alloc _
  have HX := Lib.hid hX
  have Hsg := Lib.hid (sgn_neg neg X)
  have Habs := Lib.hid (sgn_abs neg X)
  have hAlt : ∀ p, A = some p → 0 < n → p.block < w.heap.size := by
    intro p hp h0
    obtain ⟨g, o, e, hg, -⟩ := hr (by simpa using h0)
    rw [hp] at e
    injection e with e
    rw [e]
    exact hg
  clear hX
  go_enter Try.func84, Try.ntmps84
  go_wp2_with fail
  refine (trimR_any _ A n c X hc hm HX.out (hr.keep0 hO0)).mono ?_
  rintro e w' ⟨m, rfl, rfl, hL⟩
  have hmn : m ≤ n := by rw [hL.n_eq]; exact (Nm.len_le (by decide) _ _).2 HX.out
  have hm0 : (0 < X) ↔ 0 < m := by
    rw [hL.n_eq]
    have := Nm.len_eq_zero (B := 256) (x := X) (by decide)
    omega
  obtain ⟨nb, Hnb⟩ : ∃ nb, Hid (nb = (neg && decide (0 < m))) := ⟨_, rfl⟩
  have Hnb2 : Hid (nb = decide (sgn neg X < 0)) := by unfold Hid; rw [Hnb.out, Hsg.out]; simp only [hm0]
  have hmm : (m : Int) ≤ 1000000 := by omega
  have Hl : Hid ((Nm.dg 256 X).length = m) := by unfold Hid; rw [Nm.dg_length, hL.n_eq]
  obtain ⟨W2, hW2⟩ : ∃ W2, W2 = (w.alloc (.cells #[.bool false, .slice none 0 0] 24)).alloc (.cells #[.bool nb, .slice none 0 0] 24) := ⟨_, rfl⟩
  have hB5 : Blk W2 (w.heap.size + 1) 24 [.bool nb, .slice none 0 0] := by
    rw [hW2]
    have h := Blk.new (w.alloc (.cells #[.bool false, .slice none 0 0] 24)) 24 [.bool nb, .slice none 0 0]
    have e : (w.alloc (.cells #[.bool false, .slice none 0 0] 24)).heap.size = w.heap.size + 1 := by simp
    rw [e] at h
    exact h
  have hB4 : Blk W2 w.heap.size 24 [.bool false, .slice none 0 0] := by rw [hW2]; exact (Blk.int0 w).alloc _
  have hO2 : Only [] w W2 := by rw [hW2]; exact hO0.alloc _
  have hsz2 : W2.heap.size = w.heap.size + 2 := by rw [hW2]; simp
  have hL2 : LitS W2 A m c X := by rw [hW2]; exact hL.keep ((Only.refl [] _).alloc _)
  have HW2 := Lib.hid hW2
  clear hW2 hL hr hm0
  cases neg
  · obtain rfl : nb = false := by rw [Hnb.out]; rfl
    go_wp2
    go_loopw [6] (fun i wr => ∃ (k : Nat) (z : Int) (Ad : Option Addr) (md cd : Nat) (G : Option Nat), z = (k : Int) - 1 ∧ i = .int .i64 z ∧ k ≤ m ∧ md + k = m ∧ Blk wr (w.heap.size + 1) 24 [.bool false, .slice Ad md cd] ∧ OwnS wr 5 Ad cd (cN .u8 ((Nm.dg 256 X).drop k).reverse) G ∧ New W2 G ∧ Only [w.heap.size + 1] W2 wr) (fun i _ => (intOf i + 1).toNat)
    case atStart => exact ⟨m, _, none, 0, 0, none, rfl, by go_num, Nat.le_refl _, by omega, by rw [← HW2.out]; exact hB5, by rw [List.drop_of_length_le (by rw [Hl.out]; exact Nat.le_refl _)]; exact OwnS.none _ _, New.none _, by rw [← HW2.out]; exact Only.refl _ _⟩
    case round =>
      obtain ⟨k, z, Ad, md, cd, G, hz, rfl, hk, hmd, hBk, hown, hnew, hOk⟩ := hrel
      rcases (show k = 0 ∨ ∃ j, k = j + 1 from by cases k; exact .inl rfl; exact .inr ⟨_, rfl⟩) with rfl | ⟨j, rfl⟩
      · obtain rfl : z = -1 := by omega
        obtain rfl : md = m := by omega
        clear hz
        rw [List.drop_zero] at hown
        have hB4k := hB4.keep hOk (by simp)
        have hsk := hOk.size
        obtain ⟨k0, k1, -, -⟩ := hBk.two
        obtain ⟨p0, p1, f0, f1⟩ := hB4k.two
        have hF := frs_own hown hnew
        have hle : md ≤ cd := by have := hown.le; rw [cN_length, List.length_reverse, Hl.out] at this; exact this
        have hI : IntS wr false Ad md cd (sgn _ X) := ⟨Hnb2.out, by rw [Habs.out]; exact ⟨by rw [← Nm.dg_length, Hl.out], hle, hown.reads⟩⟩
        have hOw : Only [] w wr := hO2.trans hOk (by intro x hx hlt; simp at hx; omega)
        go_wp2
        exact bodyPost_ret (results_cell_row rfl _ _ w.heap.size 24 #[.bool false, .slice Ad md cd] (0, 0) _ rfl (hB4k.put2 _ _) Try.underlying24 rfl isz) rfl (RV1.of rfl hI hF (by omega) (Nat.le_refl _) hOw (only_put2 _ _ _ _))
      · obtain rfl : z = (j : Int) := by omega
        clear hz
        have hjm : (j : Int) < (m : Int) := by omega
        have hAn : ∀ p, A = some p → p.block < w.heap.size := fun p hp => hAlt p hp (by omega)
        have hLk : LitS wr A m c X := ⟨hL2.n_eq, hL2.le, hL2.rd.keep hOk fun p hp hx => by have := hAn p hp; simp at hx; omega⟩
        obtain ⟨ga, oa, rfl, hga, hca⟩ := hLk.at (by omega)
        have c1 := hca j (by omega)
        have hga0 : ga < w.heap.size := hAn _ rfl
        have hdn := drop_next (l := Nm.dg 256 X) (k := j) (by rw [Hl.out]; omega)
        rw [Nm.dg_getD (by decide)] at hdn
        generalize X / 256 ^ j % 256 = v at c1 hdn
        have Hdn := Lib.hid hdn
        obtain ⟨k0, k1, -, -⟩ := hBk.two
        have hgl : w.heap.size + 1 < wr.heap.size := hBk.lt
        have hGn : w.heap.size + 1 ∉ G.toList := hnew.far (by omega)
        have hGa : ga ∉ G.toList := hnew.far (by omega)
        have hne1 : ga ≠ w.heap.size + 1 := by omega
        have hll : ((Nm.dg 256 X).drop (j + 1)).reverse.length = md := by rw [List.length_reverse, List.length_drop, Hl.out]; omega
        have Hll := Lib.hid hll
        have hmdm : md ≤ 1000000 := by omega
        obtain ⟨SL, hSL⟩ : ∃ SL, SL = (w.heap.size + 1) :: G.toList := ⟨_, rfl⟩
        have hS1 : ga ∉ SL := by rw [hSL, List.mem_cons]; rintro (h | h); exact hne1 h; exact hGa h
        have HS1 : Hid (∀ x ∈ G.toList, x ∈ SL) := by unfold Hid; rw [hSL]; exact fun x hx => List.mem_cons_of_mem _ hx
        have HS2 : Hid (w.heap.size + 1 ∈ SL) := by unfold Hid; rw [hSL]; exact List.mem_cons_self
        clear hca hLk hdn hll hSL hGa
        go_wp2
        refine Reg.wpYL SL [.r 0, .q 1, .r 2, .r 3, .r 4, .r 5, .n 6, .e 7, .r 8, .e 9] (by kernel_rfl) (by kernel_rfl) (fun d _ _ _ _ h => by cases d <;> exact h) ?_
        simp only [Reg.pickY, List.getD_cons_succ, List.getD_cons_zero]
        (apply Reg.readYr; (· (intro t K hK; go_simp; (try go_ints); (try ((go_ite <;> go_prune); go_simp)); (try go_ints); exact hK _ rfl)); (· (intro K hK; go_simp; exact hK _ rfl)))
        (apply Reg.readYq; (· (intro t K hK; go_simp; (try go_ints); (try ((go_ite <;> go_prune); go_simp)); (try go_ints); exact hK _ rfl)); (· (intro K hK; go_simp; exact hK _ rfl)))
        iterate 4 (apply Reg.readYr; (· (intro t K hK; go_simp; (try go_ints); (try ((go_ite <;> go_prune); go_simp)); (try go_ints); exact hK _ rfl)); (· (intro K hK; go_simp; exact hK _ rfl)))
        clear k0 k1 c1
        refine Reg.effYn ?_
        go_wp2
        have hO6 := (Only.refl [] wr.drew).alloc (.cells #[.int .u8 (v : Int)] 5)
        refine ⟨hO6, ?_⟩
        refine Reg.effYe ?_
        refine wpl_app rfl (.tmp 24) (.tmp 29) 22 5 rfl (.int .u8 0) 1 Try.underlying22 info8 rfl Ad md cd (cN .u8 ((Nm.dg 256 X).drop (j + 1)).reverse) G rfl (by rw [cN_length]; exact Hll.out.symm) (hown.drew.keep hO6 (by simp)) (some ⟨wr.heap.size, 0, none⟩) 1 1 (cN .u8 [v]) rfl rfl (RV.new (w := wr.drew) rfl) cN_one (by rw [cN_length, cN_length, Hll.out]; simp; omega) (by decide) ?_
        intro A2 c2 w2 G2 hown2 hG2
        have hx := only_app hG2
        have hQ : Only [] wr (wr.drew.alloc (.cells #[.int .u8 (v : Int)] 5)) := Only.undrew hO6
        have hn2 : New W2 G2 := by
          rcases hG2 with ⟨e, _⟩ | ⟨e, _⟩
          · rw [e]; exact hnew
          · rw [e]; intro g hg; injection hg with hg; have := hOk.size; simp at hg; omega
        have hBk2 := (hBk.keep hQ (by simp)).keep hx hGn
        rw [← cN_append, ← Hdn.out] at hown2
        have hOk2 : Only [w.heap.size + 1] W2 w2 := (hOk.trans hQ (by simp)).trans hx (hnew.out)
        have hG2n : ∀ g, G2 = some g → g ∉ [w.heap.size + 1] := by
          intro g hg hm
          have := hn2 g hg
          simp at hm
          omega
        refine Reg.done (hx.mono fun x hx _ => HS1.out x hx) ?_
        obtain ⟨k0, k1, f0, f1⟩ := hBk2.two
        clear hG2 hx hown hnew hBk hOk hQ hO6
        (apply Reg.readYr; (· (intro t K hK; go_simp; (try go_ints); (try ((go_ite <;> go_prune); go_simp)); (try go_ints); exact hK _ rfl)); (· (intro K hK; go_simp; exact hK _ rfl)))
        refine Reg.effYe ?_
        go_wp2
        refine ⟨(Only.refl SL w2).setCell (p := ⟨w.heap.size + 1, 1, none⟩) (.inl HS2.out) _, ?_⟩
        refine Reg.finY ?_
        go_wp2
        go_roundw
        case rel => exact ⟨j, _, A2, md + 1, c2, G2, rfl, by go_num, by omega, by omega, hBk2.set 1 _, hown2.keep ((Only.refl [w.heap.size + 1] w2).setCell (p := ⟨w.heap.size + 1, 1, none⟩) (.inl (by simp)) _) hG2n, hn2, hOk2.setCell (p := ⟨w.heap.size + 1, 1, none⟩) (.inl (by simp)) _⟩
        case measure => simp [intOf]
  · by_cases hmz : m = 0
    · obtain rfl : nb = false := by rw [Hnb.out, hmz]; rfl
      subst hmz
      have hX0 : X = 0 := (Nm.len_eq_zero (B := 256) (by decide)).1 (by rw [← Nm.dg_length, Hl.out])
      subst hX0
      rw [HW2.out] at hB4 hB5 hO2
      obtain ⟨k0, k1, -, -⟩ := hB5.two
      obtain ⟨p0, p1, f0, f1⟩ := hB4.two
      clear hL2 hB5 HW2 hsz2
      go_wp2
      go_loopw [6] (fun i wr => i = .int .i64 (-1) ∧ (w.alloc (.cells #[.bool false, .slice none 0 0] 24)).alloc (.cells #[.bool false, .slice none 0 0] 24) = wr) (fun i _ => (intOf i + 1).toNat)
      case atStart => exact ⟨rfl, rfl⟩
      case round =>
        obtain ⟨rfl, rfl⟩ := hrel
        go_wp2
        exact bodyPost_ret (results_cell_row rfl _ _ w.heap.size 24 #[.bool false, .slice none 0 0] (0, 0) _ rfl hB4 Try.underlying24 rfl isz) rfl (RV1.of rfl (IntS.zero _ _ _) (Frs.none (w.alloc (.cells #[.bool false, .slice none 0 0] 24))) (by simp) (Nat.le_refl _) hO2 (Only.refl _ _))
    · obtain rfl : nb = true := by rw [Hnb.out]; simp; omega
      have hmzI : (0 : Int) < (m : Int) := by omega
      have hmzN : 0 < m := by omega
      clear hmz
      go_wp2
      go_loopw [6] (fun i wr => ∃ (k : Nat) (z : Int) (Ad : Option Addr) (md cd : Nat) (G : Option Nat), z = (k : Int) - 1 ∧ i = .int .i64 z ∧ k ≤ m ∧ md + k = m ∧ Blk wr (w.heap.size + 1) 24 [.bool true, .slice Ad md cd] ∧ OwnS wr 5 Ad cd (cN .u8 ((Nm.dg 256 X).drop k).reverse) G ∧ New W2 G ∧ Only [w.heap.size + 1] W2 wr) (fun i _ => (intOf i + 1).toNat)
      case atStart => exact ⟨m, _, none, 0, 0, none, rfl, by go_num, Nat.le_refl _, by omega, by rw [← HW2.out]; exact hB5, by rw [List.drop_of_length_le (by rw [Hl.out]; exact Nat.le_refl _)]; exact OwnS.none _ _, New.none _, by rw [← HW2.out]; exact Only.refl _ _⟩
      case round =>
        obtain ⟨k, z, Ad, md, cd, G, hz, rfl, hk, hmd, hBk, hown, hnew, hOk⟩ := hrel
        rcases (show k = 0 ∨ ∃ j, k = j + 1 from by cases k; exact .inl rfl; exact .inr ⟨_, rfl⟩) with rfl | ⟨j, rfl⟩
        · obtain rfl : z = -1 := by omega
          obtain rfl : md = m := by omega
          clear hz
          rw [List.drop_zero] at hown
          have hB4k := hB4.keep hOk (by simp)
          have hsk := hOk.size
          obtain ⟨k0, k1, -, -⟩ := hBk.two
          obtain ⟨p0, p1, f0, f1⟩ := hB4k.two
          have hF := frs_own hown hnew
          have hle : md ≤ cd := by have := hown.le; rw [cN_length, List.length_reverse, Hl.out] at this; exact this
          have hI : IntS wr true Ad md cd (sgn _ X) := ⟨Hnb2.out, by rw [Habs.out]; exact ⟨by rw [← Nm.dg_length, Hl.out], hle, hown.reads⟩⟩
          have hOw : Only [] w wr := hO2.trans hOk (by intro x hx hlt; simp at hx; omega)
          go_wp2
          exact bodyPost_ret (results_cell_row rfl _ _ w.heap.size 24 #[.bool true, .slice Ad md cd] (0, 0) _ rfl (hB4k.put2 _ _) Try.underlying24 rfl isz) rfl (RV1.of rfl hI hF (by omega) (Nat.le_refl _) hOw (only_put2 _ _ _ _))
        · obtain rfl : z = (j : Int) := by omega
          clear hz
          have hjm : (j : Int) < (m : Int) := by omega
          have hAn : ∀ p, A = some p → p.block < w.heap.size := fun p hp => hAlt p hp (by omega)
          have hLk : LitS wr A m c X := ⟨hL2.n_eq, hL2.le, hL2.rd.keep hOk fun p hp hx => by have := hAn p hp; simp at hx; omega⟩
          obtain ⟨ga, oa, rfl, hga, hca⟩ := hLk.at (by omega)
          have c1 := hca j (by omega)
          have hga0 : ga < w.heap.size := hAn _ rfl
          have hdn := drop_next (l := Nm.dg 256 X) (k := j) (by rw [Hl.out]; omega)
          rw [Nm.dg_getD (by decide)] at hdn
          generalize X / 256 ^ j % 256 = v at c1 hdn
          have Hdn := Lib.hid hdn
          obtain ⟨k0, k1, -, -⟩ := hBk.two
          have hgl : w.heap.size + 1 < wr.heap.size := hBk.lt
          have hGn : w.heap.size + 1 ∉ G.toList := hnew.far (by omega)
          have hGa : ga ∉ G.toList := hnew.far (by omega)
          have hne1 : ga ≠ w.heap.size + 1 := by omega
          have hll : ((Nm.dg 256 X).drop (j + 1)).reverse.length = md := by rw [List.length_reverse, List.length_drop, Hl.out]; omega
          have Hll := Lib.hid hll
          have hmdm : md ≤ 1000000 := by omega
          obtain ⟨SL, hSL⟩ : ∃ SL, SL = (w.heap.size + 1) :: G.toList := ⟨_, rfl⟩
          have hS1 : ga ∉ SL := by rw [hSL, List.mem_cons]; rintro (h | h); exact hne1 h; exact hGa h
          have HS1 : Hid (∀ x ∈ G.toList, x ∈ SL) := by unfold Hid; rw [hSL]; exact fun x hx => List.mem_cons_of_mem _ hx
          have HS2 : Hid (w.heap.size + 1 ∈ SL) := by unfold Hid; rw [hSL]; exact List.mem_cons_self
          clear hca hLk hdn hll hSL hGa
          go_wp2
          refine Reg.wpYL SL [.r 0, .q 1, .r 2, .r 3, .r 4, .r 5, .n 6, .e 7, .r 8, .e 9] (by kernel_rfl) (by kernel_rfl) (fun d _ _ _ _ h => by cases d <;> exact h) ?_
          simp only [Reg.pickY, List.getD_cons_succ, List.getD_cons_zero]
          (apply Reg.readYr; (· (intro t K hK; go_simp; (try go_ints); (try ((go_ite <;> go_prune); go_simp)); (try go_ints); exact hK _ rfl)); (· (intro K hK; go_simp; exact hK _ rfl)))
          (apply Reg.readYq; (· (intro t K hK; go_simp; (try go_ints); (try ((go_ite <;> go_prune); go_simp)); (try go_ints); exact hK _ rfl)); (· (intro K hK; go_simp; exact hK _ rfl)))
          iterate 4 (apply Reg.readYr; (· (intro t K hK; go_simp; (try go_ints); (try ((go_ite <;> go_prune); go_simp)); (try go_ints); exact hK _ rfl)); (· (intro K hK; go_simp; exact hK _ rfl)))
          clear k0 k1 c1
          refine Reg.effYn ?_
          go_wp2
          have hO6 := (Only.refl [] wr.drew).alloc (.cells #[.int .u8 (v : Int)] 5)
          refine ⟨hO6, ?_⟩
          refine Reg.effYe ?_
          refine wpl_app rfl (.tmp 24) (.tmp 29) 22 5 rfl (.int .u8 0) 1 Try.underlying22 info8 rfl Ad md cd (cN .u8 ((Nm.dg 256 X).drop (j + 1)).reverse) G rfl (by rw [cN_length]; exact Hll.out.symm) (hown.drew.keep hO6 (by simp)) (some ⟨wr.heap.size, 0, none⟩) 1 1 (cN .u8 [v]) rfl rfl (RV.new (w := wr.drew) rfl) cN_one (by rw [cN_length, cN_length, Hll.out]; simp; omega) (by decide) ?_
          intro A2 c2 w2 G2 hown2 hG2
          have hx := only_app hG2
          have hQ : Only [] wr (wr.drew.alloc (.cells #[.int .u8 (v : Int)] 5)) := Only.undrew hO6
          have hn2 : New W2 G2 := by
            rcases hG2 with ⟨e, _⟩ | ⟨e, _⟩
            · rw [e]; exact hnew
            · rw [e]; intro g hg; injection hg with hg; have := hOk.size; simp at hg; omega
          have hBk2 := (hBk.keep hQ (by simp)).keep hx hGn
          rw [← cN_append, ← Hdn.out] at hown2
          have hOk2 : Only [w.heap.size + 1] W2 w2 := (hOk.trans hQ (by simp)).trans hx (hnew.out)
          have hG2n : ∀ g, G2 = some g → g ∉ [w.heap.size + 1] := by
            intro g hg hm
            have := hn2 g hg
            simp at hm
            omega
          refine Reg.done (hx.mono fun x hx _ => HS1.out x hx) ?_
          obtain ⟨k0, k1, f0, f1⟩ := hBk2.two
          clear hG2 hx hown hnew hBk hOk hQ hO6
          (apply Reg.readYr; (· (intro t K hK; go_simp; (try go_ints); (try ((go_ite <;> go_prune); go_simp)); (try go_ints); exact hK _ rfl)); (· (intro K hK; go_simp; exact hK _ rfl)))
          refine Reg.effYe ?_
          go_wp2
          refine ⟨(Only.refl SL w2).setCell (p := ⟨w.heap.size + 1, 1, none⟩) (.inl HS2.out) _, ?_⟩
          refine Reg.finY ?_
          go_wp2
          go_roundw
          case rel => exact ⟨j, _, A2, md + 1, c2, G2, rfl, by go_num, by omega, by omega, hBk2.set 1 _, hown2.keep ((Only.refl [w.heap.size + 1] w2).setCell (p := ⟨w.heap.size + 1, 1, none⟩) (.inl (by simp)) _) hG2n, hn2, hOk2.setCell (p := ⟨w.heap.size + 1, 1, none⟩) (.inl (by simp)) _⟩
          case measure => simp [intOf]
end Go.Proofs.Ytddfphneidcibaa
