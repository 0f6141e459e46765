/-
  THE WALK of the law BlakeCopies.
-/
import Derived.Test.YtglbgocldenooaaDoorLawLong
import Derived.Test.YtglbgocldenooaaDoorLaws6
namespace Go.Proofs.YtglbgocldenooaaDoor
open Go.RowKit

theorem New.keepOf {w w' : World} {G : Option Nat} {e : TypeId} {A : Option Addr} {c : Nat} {xs ys : List Value} {A' : Option Addr} {c' : Nat} {G' : Option Nat} (hown : OwnS w e A c xs G) (hown' : OwnS w' e A' c' (xs ++ ys) G')
    (h : (G' = G ∧ A' = A ∧ c' = c ∧ Only G.toList w w') ∨ (G' = some w.heap.size ∧ Only [] w w')) : OwnS w' e A c xs G := by
  rcases h with ⟨rfl, rfl, rfl, _⟩ | ⟨_, ho⟩
  · exact hown'.front
  · exact hown.keep ho (by simp)
theorem New.keepRV {w w9 w1 w2 : World} {X : Option Addr} {xs : List Value} {G : Option Nat} (hnew : New w9 G) (hs : w.heap.size ≤ w9.heap.size) (h0 : RV w X xs) (h1 : RV w1 X xs) (ho : Only G.toList w1 w2) : RV w2 X xs := by
  intro hx
  refine h1.keep ho (fun p hp => ?_) hx
  obtain ⟨g, o, e, hg, _⟩ := h0 hx
  rw [e] at hp
  injection hp with hp
  subst hp
  exact hnew.far (by simp; omega)
theorem only_app {w w' : World} {G G' : Option Nat} {A A' : Option Addr} {c c' : Nat} (h : (G' = G ∧ A' = A ∧ c' = c ∧ Only G.toList w w') ∨ (G' = some w.heap.size ∧ Only [] w w')) : Only G.toList w w' := by
  rcases h with ⟨_, _, _, h⟩ | ⟨_, h⟩
  · exact h
  · exact h.mono (by simp)

set_option maxHeartbeats 4000000 in
set_option maxRecDepth 100000 in
theorem blakeCopies_in (w : World) (A B C D : Option Addr) (ca cb cc cd : Nat) (key start one two : List UInt8) (h1 : (key.length : Int) ≤ 32) (h2 : (start.length : Int) ≤ 150) (h3 : (one.length : Int) ≤ 150) (h4 : (two.length : Int) ≤ 150)
    (hca : key.length ≤ ca) (hcb : start.length ≤ cb) (hcc : one.length ≤ cc) (hcd : two.length ≤ cd) (hA : RV w A (cellsOf key)) (hB : RV w B (cellsOf start)) (hC : RV w C (cellsOf one)) (hD : RV w D (cellsOf two)) (hgl : Gl w) :
    Calls Tryd.prog 7 #[.slice A key.length ca, .slice B start.length cb, .slice C one.length cc, .slice D two.length cd] w fun e w' => e = .returned (.bool true) ∧ Only [] w w' := by
  have hsz := hgl.sz
  have hkb := kblock_le key (by omega)
  go_enter Tryd.func7, Tryd.ntmps7
  go_upto_region 12 with (first
    | (go_at_call 20; refine (new_any w A ca key (by omega) hca hA.rb hgl).mono ?_; rintro e w1 ⟨rfl, hS1, hO1⟩
       have hl1 := hS1.lt)
    | (go_at_call 21; refine (write_any w1 w.heap.size key.length (Bl.kblock key) 0 B cb start hS1 hcb (hB.keep0 hO1).rb (hB.rb.low (Nat.le_refl _)) (by omega) (by omega) (by omega) (hgl.keep hO1 (by simp) (by simp)) (by omega)).mono ?_; rintro e w2 ⟨rfl, hS2, hO2⟩
       have hP2 : Only [] w w2 := hO1.trans hO2 (by simp)
       have hs2 := hO2.size
       clear hO1 hO2 hS1)
    | (go_at_call 24; refine (copy_any w2 w.heap.size key.length _ _ hS2 (by omega)).mono ?_; rintro e w3 ⟨rfl, hT3, hO3⟩
       have hS3 := hS2.keep hO3 (by simp)
       have hP3 := hP2.trans' hO3
       have hl3 := hT3.lt
       clear hS2 hO3)
    | (go_at_call 21; refine (write_any w3 w.heap.size key.length _ _ C cc one hS3 hcc (hC.keep0 hP3).rb (hC.rb.low (Nat.le_refl _)) (by omega) (by omega) (by rw [List.length_append]; omega) (hgl.keep hP3 (by simp) (by simp)) (by omega)).mono ?_; rintro e w4 ⟨rfl, hS4, hO4⟩
       have hP4 : Only [] w w4 := hP3.trans hO4 (by simp)
       have hT4 := hT3.keep hO4 (by simp; omega)
       have hs4 := hO4.size
       clear hS3 hT3 hO4)
    | (go_at_call 21; refine (write_any w4 w2.heap.size key.length _ _ D cd two hT4 hcd (hD.keep0 hP4).rb (hD.rb.low (by omega)) (by omega) (by omega) (by rw [List.length_append]; omega) (hgl.keep hP4 (by simp) (by simp)) (by omega)).mono ?_; rintro e w5 ⟨rfl, hT5, hO5⟩
       have hP5 : Only [] w w5 := hP4.trans hO5 (by simp; omega)
       have hS5 := hS4.keep hO5 (by simp; omega)
       clear hS4 hT4 hO5)
    | (go_at_call 22; refine (sumM_any w5 w.heap.size key.length _ _ hS5 (by omega) (by simp only [List.length_append]; omega) (hgl.keep hP5 (by simp) (by simp))).mono ?_; rintro e w6 ⟨rfl, hO6⟩
       have hP6 := hP5.trans' hO6
       have hS6 := hS5.keep hO6 (by simp)
       have hT6 := hT5.keep hO6 (by simp)
       clear hS5 hT5 hO6)
    | (refine wpl_put32 rfl (.tmp 12) (.tmp 72) rfl w6.heap.size (Bl.hash key (start ++ one)) rfl (by rw [← hash_eq, ← List.append_assoc]; rfl) (List.replicate 32 (Value.int .u8 0)) ?hb rfl (by simp) ?_
       case hb => exact Blk.new' w6 rfl
       intro w7 hX7 hO7
       have hP7 := (hP6.alloc _).trans hO7 (by have := hP6.size; simp; omega)
       have hS7 := (hS6.keep ((Only.refl [] w6).alloc _) (by simp)).keep hO7 (by have := hS6.lt; simp; omega)
       have hT7 := (hT6.keep ((Only.refl [] w6).alloc _) (by simp)).keep hO7 (by have := hT6.lt; simp; omega)
       clear hS6 hT6 hO7)
    | (go_at_call 22; refine (sumM_any w7 w2.heap.size key.length _ _ hT7 (by omega) (by simp only [List.length_append]; omega) (hgl.keep hP7 (by simp) (by simp))).mono ?_; rintro e w8 ⟨rfl, hO8⟩
       have hP8 := hP7.trans' hO8
       have hS8 := hS7.keep hO8 (by simp)
       have hT8 := hT7.keep hO8 (by simp)
       have hX8 := hX7.keep hO8 (by simp)
       clear hS7 hT7 hX7 hO8)
    | (refine wpl_put32 rfl (.tmp 14) (.tmp 77) rfl w8.heap.size (Bl.hash key (start ++ two)) rfl (by rw [← hash_eq, ← List.append_assoc]; rfl) (List.replicate 32 (Value.int .u8 0)) ?hb2 rfl (by simp) ?_
       case hb2 => exact Blk.new' w8 rfl
       intro w9 hY9 hO9
       have hP9 := (hP8.alloc _).trans hO9 (by have := hP8.size; simp; omega)
       have hS9 := (hS8.keep ((Only.refl [] w8).alloc _) (by simp)).keep hO9 (by have := hS8.lt; simp; omega)
       have hT9 := (hT8.keep ((Only.refl [] w8).alloc _) (by simp)).keep hO9 (by have := hT8.lt; simp; omega)
       have hX9 := (hX8.alloc _).keep hO9 (by have := hX8.lt; simp; omega)
       clear hS8 hT8 hX8 hO9)
    | (at_builtin; refine wpl_append8 rfl (.tmp 79) (.tmp 80) rfl (some ⟨w9.heap.size, 0, none⟩) 0 0 [] (some w9.heap.size) rfl rfl (ownS_empty w9 _) B start.length cb start rfl rfl (hB.keep0 (hP9.alloc _)) (by simp; omega) ?_
       intro A1 c1 wa G1 hown1 hO1 hG1
       have hQ : Only [w9.heap.size] w9 wa := ((Only.refl _ w9).alloc _).trans hO1 (by simp)
       have hPa : Only [] w wa := hP9.trans hQ (by have := hP9.size; simp; omega)
       have hnew : New w9 G1 := by
         have h0 : New w9 (some w9.heap.size) := fun g hg => by injection hg with hg; omega
         exact h0.next (by simp) hG1
       have hSa := hS9.keep hQ (by have := hS9.lt; simp; omega)
       have hTa := hT9.keep hQ (by have := hT9.lt; simp; omega)
       have hXa := hX9.keep hQ (by have := hX9.lt; simp; omega)
       have hYa := hY9.keep hQ (by have := hY9.lt; simp; omega)
       rw [List.nil_append] at hown1
       have hls := hS9.lt
       have hlt := hT9.lt
       have hlx := hX9.lt
       have hly := hY9.lt
       clear hS9 hT9 hX9 hY9 hO1 hG1 hQ))
  have hAa : RV wa A (cellsOf key) := hA.keep0 hPa
  have hCa : RV wa C (cellsOf one) := hC.keep0 hPa
  have hDa : RV wa D (cellsOf two) := hD.keep0 hPa
  have hsw := hP9.size
  have hgs : w.heap.size ∉ G1.toList := hnew.far hls
  have hgt : w2.heap.size ∉ G1.toList := hnew.far hlt
  have hgx : w6.heap.size ∉ G1.toList := hnew.far hlx
  have hgy : w8.heap.size ∉ G1.toList := hnew.far hly
  have hc1 : start.length ≤ c1 := by simpa using hown1.le
  have s1 := fun c => str_in (w := wa.drew) (n := 32) (c := c) G1.toList hXa.rv.drew (by simp) (fun p hp => by injection hp with hp; subst hp; exact hgx)
  refine Reg.wp G1.toList [.r 0, .r 1, .r 2, .r 3, .r 4, .r 5, .r 6, .r 7, .r 8, .r 9, .r 10, .r 11, .e 12, .e 13, .r 14, .r 15, .r 16, .r 17, .r 18, .r 19, .r 20, .r 21, .r 22, .e 23, .e 24, .r 25, .r 26, .r 27, .r 28, .r 29, .r 31, .r 32, .r 33, .r 34, .r 35, .e 30, .r 36, .r 37, .r 38, .r 39, .r 41, .r 42, .r 43, .r 44, .r 45, .e 40, .r 46, .r 47, .r 48, .e 49, .r 50, .r 51] (by kernel_rfl) (by kernel_rfl) (fun d _ _ _ _ h => by cases d <;> exact h) ?_
  simp only [Reg.pick, List.getD_cons_succ, List.getD_cons_zero]
  iterate 12 (apply Reg.read; (· (intro t K hK; go_simp; (try go_ints); (try ((go_ite <;> go_prune); go_simp)); (try go_ints); exact hK _ rfl)); (· (intro K hK; go_simp; exact hK _ rfl)))
  clear s1
  refine Reg.eff ?_
  refine wpl_wanted (by rfl) ?_
  refine wpl_app8 rfl (.tmp 92) (.tmp 93) rfl A1 start.length c1 start G1 rfl rfl hown1.drew C one.length cc one rfl rfl hCa.drew (by omega) ?_
  intro A2 c2 wb G2 hown2 hO2
  refine Reg.done (only_app hO2) ?_
  have hown1b := New.keepOf hown1.drew (by rw [← cellsOf_append]; exact hown2) hO2
  have hOb : Only G1.toList wa wb := Only.undrew (w := wa) (only_app hO2)
  have hPb : Only [] w wb := hPa.trans hOb (hnew.le hsw).out
  have hc2 : start.length + one.length ≤ c2 := by simpa using hown2.le
  clear hO2
  refine Reg.eff ?_
  go_wp2_with (go_at_call 18; rw [← List.length_append]; refine (hash_ref wb A A2 ca c2 key (start ++ one) (by omega) (hnew.keepRV hsw hA hAa hOb) hown2.reads hca (by simpa using hc2) (by simp; omega)).mono ?_; rintro e wc ⟨A3, c3, G3, rfl, hown3, hnew3, hO3⟩)
  refine ⟨hO3.mono (by simp), ?_⟩
  have hOc : Only G1.toList wa wc := hOb.trans hO3 (by simp)
  have hPc := hPb.trans' hO3
  have hown1c := hown1b.keep hO3 (by simp)
  have hYc := hYa.keep hOc hgy
  have s2 := fun c => str_in (w := wc) (n := 32) (c := c) G1.toList hown3.reads (by simp) (fun p hp => by
    rcases hown3 with h | ⟨g, r, h1, h2, _⟩
    · rw [h.1] at hp; cases hp
    · rw [h1] at hp
      injection hp with hp
      subst hp
      have h5 := hnew3 g h2
      have h6 := hown1b.lt
      intro hm
      cases G1 with
      | none => simp at hm
      | some x => have := h6 x rfl; simp at hm; omega)
  have s3 := fun c => str_in (w := wc) (n := 32) (c := c) G1.toList hYc.rv (by simp) (fun p hp => by injection hp with hp; subst hp; exact hgy)
  iterate 9 (apply Reg.read; (· (intro t K hK; go_simp; (try go_ints); (try ((go_ite <;> go_prune); go_simp)); (try go_ints); exact hK _ rfl)); (· (intro K hK; go_simp; exact hK _ rfl)))
  clear s2 s3
  refine Reg.eff ?_
  refine wpl_wanted (by rfl) ?_
  refine wpl_app8 rfl (.tmp 103) (.tmp 104) rfl A1 start.length c1 start G1 rfl rfl hown1c D two.length cd two rfl rfl (hnew.keepRV hsw hD hDa hOc) (by omega) ?_
  intro A4 c4 wd G4 hown4 hO4
  refine Reg.done (only_app hO4) ?_
  have hOd : Only G1.toList wa wd := hOc.trans' (only_app hO4)
  have hPd : Only [] w wd := hPa.trans hOd (hnew.le hsw).out
  have hc4 : start.length + two.length ≤ c4 := by simpa using hown4.le
  have hlG : ∀ x ∈ G1.toList, x < wd.heap.size := by
    intro x hx
    have h6 := hown1c.lt
    cases G1 with
    | none => simp at hx
    | some y => have := h6 y rfl; have := (only_app hO4).size; simp at hx; omega
  have HlG := Lib.hid hlG
  clear hO4 hlG
  refine Reg.eff ?_
  go_wp2_with (go_at_call 18; rw [← List.length_append]; refine (hash_ref wd A A4 ca c4 key (start ++ two) (by omega) (hnew.keepRV hsw hA hAa hOd) hown4.reads hca (by simpa using hc4) (by simp; omega)).mono ?_; rintro e we ⟨A5, c5, G5, rfl, hown5, hnew5, hO5⟩)
  refine ⟨hO5.mono (by simp), ?_⟩
  have hOe : Only G1.toList wa we := hOd.trans hO5 (by simp)
  have hPe := hPd.trans' hO5
  have s2 := fun c => str_in (w := we) (n := 32) (c := c) G1.toList hown5.reads (by simp) (fun p hp => by
    rcases hown5 with h | ⟨g, r, h1, h2, _⟩
    · rw [h.1] at hp; cases hp
    · rw [h1] at hp
      injection hp with hp
      subst hp
      have h5 := hnew5 g h2
      intro hm
      have := HlG.out _ hm
      simp at this
      omega)
  iterate 10 (apply Reg.read; (· (intro t K hK; go_simp; (try go_ints); (try ((go_ite <;> go_prune); go_simp)); (try go_ints); exact hK _ rfl)); (· (intro K hK; go_simp; exact hK _ rfl)))
  clear s2
  have hSe := hSa.keep hOe hgs
  have hTe := hTa.keep hOe hgt
  rw [Nat.zero_add] at hSe hTe
  refine Reg.eff ?_
  go_wp2_with (go_at_call 23; refine (len_any we w.heap.size key.length _ _ hSe (by omega)).mono ?_; rintro e w' ⟨rfl, rfl⟩)
  refine ⟨Only.refl _ _, ?_⟩
  iterate 9 (apply Reg.read; (· (intro t K hK; go_simp; (try go_ints); (try ((go_ite <;> go_prune); go_simp)); (try go_ints); exact hK _ rfl)); (· (intro K hK; go_simp; exact hK _ rfl)))
  refine Reg.eff ?_
  go_wp2_with (go_at_call 23; refine (len_any we w2.heap.size key.length _ _ hTe (by omega)).mono ?_; rintro e w' ⟨rfl, rfl⟩)
  refine ⟨Only.refl _ _, ?_⟩
  iterate 3 (apply Reg.read; (· (intro t K hK; go_simp; (try go_ints); (try ((go_ite <;> go_prune); go_simp)); (try go_ints); exact hK _ rfl)); (· (intro K hK; go_simp; exact hK _ rfl)))
  refine Reg.eff ?_
  go_wp2_with (go_at_call 16; refine (known_any we (hgl.keep hPe (by simp) (by simp))).mono ?_; rintro e wf ⟨rfl, hOf⟩)
  refine ⟨hOf.mono (by simp), ?_⟩
  iterate 2 (apply Reg.read; (· (intro t K hK; go_simp; (try go_ints); (try ((go_ite <;> go_prune); go_simp)); (try go_ints); exact hK _ rfl)); (· (intro K hK; go_simp; exact hK _ rfl)))
  refine Reg.fin ?_
  go_wp2
  go_ret
  exact ⟨rfl, hPe.trans' hOf⟩
end Go.Proofs.YtglbgocldenooaaDoor
