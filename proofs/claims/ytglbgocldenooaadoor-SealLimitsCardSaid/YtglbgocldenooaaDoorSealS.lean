/-
  THE WALKS of the reference's Seal and Open.
-/
import Derived.Test.YtglbgocldenooaaDoorSealR
import Derived.Test.YtglbgocldenooaaDoorSeal4
namespace Go.Proofs.YtglbgocldenooaaDoor
open Go.RowKit

set_option maxHeartbeats 4000000 in
set_option maxRecDepth 100000 in
theorem refSeal_any (w : World) (A B C : Option Addr) (ca cb cc : Nat) (key nonce b : List UInt8) (hk : key.length = 32) (hn : nonce.length = 16) (hb : (b.length : Int) ≤ 65504) (hca : 32 ≤ ca) (hcb : 16 ≤ cb) (_hcc : b.length ≤ cc) (hA : RV w A (cellsOf key)) (hB : RV w B (cellsOf nonce)) (hC : RV w C (cellsOf b)) :
    Calls Tryd.prog 32 #[.slice A 32 ca, .slice B 16 cb, .slice C b.length cc] w fun e w' => ∃ A' c' G, e = .returned (.slice A' (b.length + 32) c') ∧ OwnS w' 5 A' c' (cellsOf (Sl.sealB key nonce b)) G ∧ New w G ∧ Only [] w w' := by
  have Hk := Lib.hid hk
  have Hn := Lib.hid hn
  clear hk hn
  go_enter Tryd.func32, Tryd.ntmps32
  go_wp2_with (first
    | (at_builtin; refine wpl_append8 rfl (.tmp 10) (.tmp 11) rfl (some ⟨w.heap.size, 0, none⟩) 0 0 [] (some w.heap.size) rfl rfl (ownS_empty w _) B 16 cb nonce rfl Hn.out.symm (hB.keep0 ((Only.refl [] w).alloc _)) (by rw [Hn.out]; decide) ?_
       intro A1 c1 w1 G1 hown1 hO1 hG1
       have hP1 : Only [] w w1 := ((Only.refl [] w).alloc _).trans hO1 (by simp)
       have hn1 : New w G1 := by
         have h0 : New w (some w.heap.size) := fun g hg => by injection hg with hg; omega
         exact h0.next (by simp) hG1
       rw [List.nil_append] at hown1
       clear hO1 hG1)
    | (go_at_call 30; refine (refStream_any w1 A B ca cb key nonce b.length Hk.out Hn.out hb hca hcb (hA.keep0 hP1) (hB.keep0 hP1)).mono ?_
       rintro e w2 ⟨A2, c2, G2, rfl, hc2, hown2, hn2, hO2⟩
       have hown1' := hown1.keep hO2 (by simp)
       have hP2 := hP1.trans' hO2
       have hl1 := hown1.lt
       clear hown1))
  have hsl : (Sl.stream key nonce b.length).length = b.length := by simp
  obtain ⟨s, hs⟩ : ∃ s, s = Sl.stream key nonce b.length := ⟨_, rfl⟩
  rw [← hs] at hown2 hsl
  have Hs := Lib.hid hs
  have Hsl := Lib.hid hsl
  have hRs := hown2.reads
  have hsw1 := hO2.size
  have hA2 : ∀ p, A2 = some p → w1.heap.size ≤ p.block ∧ p.block < w2.heap.size := by
    intro p hp
    rcases hown2 with h | ⟨g, r, e1, e2, e3, _⟩
    · rw [h.1] at hp; cases hp
    · rw [e1] at hp
      injection hp with hp
      subst hp
      exact ⟨hn2 g e2, e3.lt⟩
  have HA2 := Lib.hid hA2
  have hG1l : ∀ g, G1 = some g → g < w1.heap.size := hl1
  have HG1l := Lib.hid hG1l
  clear hs hsl hown2 hA2 hG1l hl1
  go_loopw [7, 9] (fun out i wr => ∃ (k : Nat) (Ao : Option Addr) (co : Nat) (G : Option Nat), k ≤ b.length ∧ i = .int .i64 (k : Int) ∧ out = .slice Ao (16 + k) co ∧ OwnS wr 5 Ao co (cellsOf (nonce ++ Sl.xorb (b.take k) (s.take k))) G ∧ New w G ∧ (∀ p, A2 = some p → p.block ∉ G.toList) ∧ RV wr A2 (cellsOf s) ∧ Only [] w wr ∧ w2.heap.size ≤ wr.heap.size) (fun _ i _ => b.length - (intOf i).toNat)
  case atStart =>
    refine ⟨0, A1, c1, G1, by omega, rfl, rfl, by simpa [Sl.xorb] using hown1', hn1, ?_, hRs, hP2, Nat.le_refl _⟩
    intro p hp hm
    have := HA2.out p hp
    cases hG : G1 with
    | none => rw [hG] at hm; simp at hm
    | some g => have := HG1l.out g hG; rw [hG] at hm; simp at hm; omega
  case round =>
    obtain ⟨k, Ao, co, G, hk', rfl, rfl, hown, hnew, hAG, hR, hO, hsw⟩ := hrel
    have HAG := Lib.hid hAG
    have hll : 16 + k = (nonce ++ Sl.xorb (b.take k) (s.take k)).length := by rw [List.length_append, Hn.out, Sl.xorb_length (by simp [Hsl.out])]; simp [Hsl.out]; omega
    have Hll := Lib.hid hll
    clear hll hAG
    by_cases hlt : k < b.length
    · have hltI : (k : Int) < (b.length : Int) := by omega
      obtain ⟨gc, oc, rfl, hgc, hcc⟩ := hC (by rw [cellsOf_length]; omega)
      obtain ⟨gs, os, rfl, hgs, hcs⟩ := hR (by rw [cellsOf_length, Hsl.out]; omega)
      have cb' : wr.cell? ⟨gc, oc + k, none⟩ = some (.int .u8 ((b.getD k 0).toNat : Int)) := by
        rw [hO.cell (p := ⟨gc, oc + k, none⟩) hgc (by simp), hcc k (by simpa using hlt)]
        exact cellsOf_getD hlt
      have cs : wr.cell? ⟨gs, os + k, none⟩ = some (.int .u8 ((s.getD k 0).toNat : Int)) := by
        rw [hcs k (by rw [cellsOf_length, Hsl.out]; exact hlt)]
        exact cellsOf_getD (by rw [Hsl.out]; exact hlt)
      have hx := u8_xor_val (b.getD k 0) (s.getD k 0)
      have hnext := Sl.xorb_take (a := b) (b := s) Hsl.out.symm k hlt
      revert cs cb' hx hnext
      generalize s.getD k 0 = y
      generalize b.getD k 0 = x
      intro cs cb' hx hnext
      obtain ⟨z, Hz⟩ : ∃ z : Nat, Hid (z = (x ^^^ y).toNat) := ⟨_, rfl⟩
      rw [← Hz.out] at hx
      have Hnext := Lib.hid hnext
      have hgcr : gc < wr.heap.size := Nat.lt_of_lt_of_le hgc hO.size
      have hgcG : gc ∉ G.toList := hnew.far hgc
      have hgsG : gs ∉ G.toList := HAG.out _ rfl
      have hlw := HA2.out _ rfl
      have hgs2 : gs < w2.heap.size := hlw.2
      clear hnext hcc hcs hlw
      go_wp2
      refine Reg.wp G.toList [.r 0, .r 1, .r 2, .r 3, .r 4, .r 5, .r 6, .r 7, .r 8, .r 9, .e 10, .e 11, .r 12] (by kernel_rfl) (by kernel_rfl) (fun d _ _ _ _ h => by cases d <;> exact h) ?_
      simp only [Reg.pick, List.getD_cons_succ, List.getD_cons_zero]
      iterate 10 (apply Reg.read; (· (intro t K hK; go_simp; (try go_ints); (try ((go_ite <;> go_prune); go_simp)); (try go_ints); exact hK _ rfl)); (· (intro K hK; go_simp; exact hK _ rfl)))
      refine Reg.eff ?_
      go_wp2
      refine ⟨((Only.refl G.toList wr).alloc _).dd, ?_⟩
      clear cs cb'
      refine Reg.eff ?_
      refine wpl_app8 rfl (.tmp 24) (.tmp 34) rfl Ao (16 + k) co _ G rfl Hll.out ((hown.keep ((Only.refl [] wr).alloc _) (by simp)).drew) (some ⟨wr.heap.size, 0, none⟩) 1 1 [x ^^^ y] rfl rfl (RV.new ?hv).drew ?hl ?_
      case hv => rw [Hz.out]; rfl
      case hl => rw [← Hll.out, List.length_singleton]; omega
      intro A3 c3 w3 G3 hown3 hG3
      have hO3 := only_app hG3
      refine Reg.done hO3 ?_
      (apply Reg.read; (· (intro t K hK; go_simp; (try go_ints); (try ((go_ite <;> go_prune); go_simp)); (try go_ints); exact hK _ rfl)); (· (intro K hK; go_simp; exact hK _ rfl)))
      refine Reg.fin ?_
      have hO3' : Only [] w w3 := ((hO.alloc _).drew).trans hO3 hnew.out
      have hR3 : RV w3 (some ⟨gs, os, none⟩) (cellsOf s) := (hR.keep (((Only.refl G.toList wr).alloc _).drew) (fun p hp => HAG.out p hp)).keep hO3 (fun p hp => HAG.out p hp)
      have hs3 : w2.heap.size ≤ w3.heap.size := Nat.le_trans hsw (Nat.le_trans (by simp) hO3.size)
      have hn3 : New w G3 := by
        rcases hG3 with ⟨e, _⟩ | ⟨e, _⟩
        · rw [e]; exact hnew
        · rw [e]; intro g hg; injection hg with hg; have := hO.size; simp at hg; omega
      have hA3 : ∀ p, some (⟨gs, os, none⟩ : Addr) = some p → p.block ∉ G3.toList := by
        intro p hp
        injection hp with hp
        subst hp
        rcases hG3 with ⟨e, _⟩ | ⟨e, _⟩
        · rw [e]; exact hgsG
        · rw [e]; simp; omega
      have HA3 := Lib.hid hA3
      clear hO3 hO hown hR hA3 hG3 HAG
      go_wp2
      go_roundw
      case rel =>
        refine ⟨k + 1, A3, c3, G3, by omega, by go_num, rfl, ?_, hn3, HA3.out, hR3, hO3', hs3⟩
        rw [Hnext.out, ← List.append_assoc]
        exact hown3
      case measure => simp [intOf]; omega
    · obtain rfl : k = b.length := by omega
      rw [List.take_of_length_le (Nat.le_refl _), List.take_of_length_le (by rw [Hsl.out]; exact Nat.le_refl _), Sl.xorb_comm, Hs.out] at hown
      have hown : OwnS wr 5 Ao co (cellsOf (nonce ++ Sl.mask key nonce b)) G := hown
      have hl2 : 16 + b.length = (nonce ++ Sl.mask key nonce b).length := by simp [Hn.out]
      have Hl2 := Lib.hid hl2
      have hco : 16 + b.length ≤ co := by rw [hl2]; simpa using hown.le
      clear hl2 hlt hk' HAG hR
      go_wp2_with (first
        | (go_at_call 37; refine (refTag_any wr A Ao ca (16 + b.length) co key (nonce ++ Sl.mask key nonce b) Hk.out Hl2.out hca hco (by omega) (hA.keep0 hO) hown.reads).mono ?_
           rintro e w4 ⟨A4, c4, G4, rfl, hc4, hown4, hn4, hO4⟩
           have hown5 := hown.keep hO4 (by simp))
        | (at_builtin; refine wpl_append8 rfl (.tmp 36) (.tmp 39) rfl Ao (16 + b.length) co (nonce ++ Sl.mask key nonce b) G rfl Hl2.out hown5 A4 16 c4 (Sl.tag key (nonce ++ Sl.mask key nonce b)) rfl (by simp) hown4.reads (by rw [← Hl2.out]; simp; omega) ?_
           intro A6 c6 w6 G6 hown6 hO6 hG6))
      go_ret
      have e : b.length + 32 = 16 + b.length + 16 := by omega
      exact ⟨A6, c6, G6, by rw [e]; rfl, hown6, hnew.next (Nat.le_trans hO.size hO4.size) hG6, (hO.trans' hO4).trans hO6 hnew.out⟩
end Go.Proofs.YtglbgocldenooaaDoor
