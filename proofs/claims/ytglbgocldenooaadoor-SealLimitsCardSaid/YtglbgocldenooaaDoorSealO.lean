/-
  THE WALK of the reference's Open.
-/
import Derived.Test.YtglbgocldenooaaDoorSealS
namespace Go.Proofs.YtglbgocldenooaaDoor
open Go.RowKit

theorem refOpen_short (w : World) (A B : Option Addr) (ca n cb : Nat) (h : (n : Int) < 32) :
    Calls Tryd.prog 34 #[.slice A 32 ca, .slice B n cb] w (RetE w [] 4) := by
  go_enter Tryd.func34, Tryd.ntmps34
  go_wp2
  go_ret2
  exact ⟨none, 0, rfl, by simp, RV.nil, (fun p hp => by cases hp), Only.refl _ _⟩
theorem refOpen_long (w : World) (A B : Option Addr) (ca n cb : Nat) (h : (65536 : Int) < (n : Int)) :
    Calls Tryd.prog 34 #[.slice A 32 ca, .slice B n cb] w (RetE w [] 5) := by
  have h' : (32 : Int) ≤ (n : Int) := by omega
  go_enter Tryd.func34, Tryd.ntmps34
  go_wp2
  go_ret2
  exact ⟨none, 0, rfl, by simp, RV.nil, (fun p hp => by cases hp), Only.refl _ _⟩
set_option maxHeartbeats 4000000 in
set_option maxRecDepth 100000 in
theorem refOpen_mid (w : World) (A B : Option Addr) (ca cb : Nat) (key b : List UInt8) (n m : Nat) (hn : n = b.length) (hm : n = m + 16) (hk : key.length = 32) (h1 : (16 : Int) ≤ (m : Int)) (h2 : (m : Int) ≤ 65520) (hca : 32 ≤ ca) (hcb : n ≤ cb) (hA : RV w A (cellsOf key)) (hB : RV w B (cellsOf b)) (bs : List UInt8) (err : Nat) (Hbs : Hid (bs = if Sl.good key b then Sl.plainOf key b else [])) (Herr : Hid (err = if Sl.good key b then 0 else 10)) :
    Calls Tryd.prog 34 #[.slice A 32 ca, .slice B n cb] w (RetE w bs err) := by
  have Hk := Lib.hid hk
  have e1 : (n : Int) - 16 = (m : Int) := by omega
  have e2 : n - m = 16 := by omega
  have hnI : (32 : Int) ≤ (n : Int) := by omega
  have hnI2 : (n : Int) ≤ 65536 := by omega
  have hmn : m ≤ n := by omega
  have Hm : Hid (b.length = m + 16) := by rw [← hn]; exact hm
  have hmcb : m + 16 ≤ cb := by omega
  clear hk hm hn
  obtain ⟨gb, ob, rfl, hgb, hcells⟩ := hB (by rw [cellsOf_length, Hm.out]; omega)
  have Hcells := Lib.hid hcells
  have hcbI : (n : Int) ≤ (cb : Int) := by omega
  have hmcI : (m : Int) ≤ (cb : Int) := by omega
  have hmnI : (m : Int) ≤ (n : Int) := by omega
  have hne : ¬ cb = m := by omega
  clear hcells
  have hbody : RV w (some ⟨gb, ob, none⟩) (cellsOf (Sl.bodyOf b)) := by
    have h := RV.slice rfl hB 0 m
    simpa [Sl.bodyOf, cellsOf, List.map_take, Hm.out] using h
  have htag : RV w (some ⟨gb, ob + m, none⟩) (cellsOf (Sl.tagIn b)) := by
    have h := RV.slice rfl hB m 16
    have e : ((cellsOf b).drop m).take 16 = cellsOf (Sl.tagIn b) := by
      rw [List.take_of_length_le (by rw [List.length_drop, cellsOf_length, Hm.out]; omega), Sl.tagIn, Hm.out, Nat.add_sub_cancel, cellsOf, cellsOf, List.map_drop]
    rw [e] at h
    exact h
  have htl : (Sl.tagIn b).length = 16 := by rw [Sl.tagIn, List.length_drop, Hm.out]; omega
  have Htl := Lib.hid htl
  have s1 := fun c => str_in0 (w := w.drew) (n := 16) (c := c) htag.drew htl.symm
  clear htl
  go_enter Tryd.func34, Tryd.ntmps34
  go_upto_region 6 with (fail)
  refine Reg.wp [] [.r 0, .r 1, .r 2, .r 3, .r 6, .r 7, .r 8, .r 9, .e 4, .r 5, .r 10] (by kernel_rfl) (by kernel_rfl) (fun d _ _ _ _ h => by cases d <;> exact h) ?_
  simp only [Reg.pick, List.getD_cons_succ, List.getD_cons_zero]
  iterate 8 (apply Reg.read; (· (intro t K hK; go_simp; (try go_ints); (try ((go_ite <;> go_prune); go_simp)); (try go_ints); exact hK _ rfl)); (· (intro K hK; go_simp; exact hK _ rfl)))
  clear s1
  refine Reg.eff ?_
  go_wp2_with (go_at_call 37; refine (refTag_any w.drew A _ ca m cb key (Sl.bodyOf b) Hk.out ?hn hca (by omega) (by omega) hA.drew hbody.drew).mono ?_
               case hn => rw [Sl.bodyOf, List.length_take, Hm.out]; omega
               rintro e w1 ⟨A1, c1, G1, rfl, hc1, hown1, hn1, hO1⟩)
  refine ⟨hO1, ?_⟩
  have hO1' : Only [] w w1 := Only.undrew (w := w) hO1
  have s2 := fun c => str_in0 (w := w1) (n := 16) (c := c) hown1.reads (by simp)
  by_cases hg : Sl.tag key (Sl.bodyOf b) = Sl.tagIn b
  · have hgood : Sl.good key b = true := by unfold Sl.good; rw [hg, beq_self_eq_true]
    have hbs : bs = Sl.plainOf key b := by rw [Hbs.out, hgood, if_pos rfl]
    have her : err = 0 := by rw [Herr.out, hgood, if_pos rfl]
    have Hbs2 := Lib.hid hbs
    have Her2 := Lib.hid her
    rw [hg] at s2
    clear hgood hbs her hg
    iterate 2 (apply Reg.read; (· (intro t K hK; go_simp; (try go_ints); (try ((go_ite <;> go_prune); go_simp)); (try go_ints); exact hK _ rfl)); (· (intro K hK; go_simp; exact hK _ rfl)))
    refine Reg.fin ?_
    clear s2
    obtain ⟨p, hp⟩ : ∃ p, m = p + 16 := ⟨m - 16, by omega⟩
    have hpI : (m : Int) - 16 = (p : Int) := by omega
    have hpb : (p : Int) ≤ 65504 := by omega
    have hbl : (Sl.bodyOf b).length = m := by rw [Sl.bodyOf, List.length_take, Hm.out]; omega
    have hb1 : RV w1 (some ⟨gb, ob, none⟩) (cellsOf ((Sl.bodyOf b).take 16)) := by
      have h := RV.slice rfl (hbody.keep0 hO1') 0 16
      simpa [cellsOf, List.map_take] using h
    have hb1l : ((Sl.bodyOf b).take 16).length = 16 := by rw [List.length_take, hbl]; omega
    obtain ⟨q, hq⟩ : ∃ q, q = (Sl.bodyOf b).drop 16 := ⟨_, rfl⟩
    have hql : q.length = p := by rw [hq, List.length_drop, hbl]; omega
    have hqc : ∀ k, k < p → w1.cell? ⟨gb, ob + (16 + k), none⟩ = some (.int .u8 ((q.getD k 0).toNat : Int)) := by
      intro k hk
      obtain ⟨g', o', ee, hg', hc'⟩ := (hbody.keep0 hO1') (by rw [cellsOf_length, hbl]; omega)
      injection ee with ee
      injection ee with e3 e4
      subst e3 e4
      rw [hc' (16 + k) (by rw [cellsOf_length, hbl]; omega), cellsOf_getD (by rw [hbl]; omega), hq]
      simp [List.getD]
    have Hb1l := Lib.hid hb1l
    have Hq := Lib.hid hq
    have Hql := Lib.hid hql
    have Hqc := Lib.hid hqc
    have Hp := Lib.hid hp
    have hp16 : p + 16 ≤ m := by omega
    have hp16' : m ≤ p + 16 := by omega
    have hgb1 : gb < w1.heap.size := Nat.lt_of_lt_of_le hgb hO1'.size
    clear hbl hb1l hq hql hqc hp
    go_wp2_with (go_at_call 30; refine (refStream_any w1 A _ ca cb key ((Sl.bodyOf b).take 16) p Hk.out Hb1l.out hpb hca (by omega) (hA.keep0 hO1') hb1).mono ?_
                 rintro e w2 ⟨A2, c2, G2, rfl, hc2, hown2, hn2, hO2⟩)
    have hsl : (Sl.stream key ((Sl.bodyOf b).take 16) p).length = p := by simp
    obtain ⟨s, hs⟩ : ∃ s, s = Sl.stream key ((Sl.bodyOf b).take 16) p := ⟨_, rfl⟩
    rw [← hs] at hown2 hsl
    have hRs := hown2.reads
    have hl2 := hown2.lt
    have hA2 : ∀ p, A2 = some p → p.block < w2.heap.size := by
      intro p hp
      rcases hown2 with h | ⟨g, r, e1, e2, e3, _⟩
      · rw [h.1] at hp; cases hp
      · rw [e1] at hp
        injection hp with hp
        subst hp
        exact e3.lt
    have HA2 := Lib.hid hA2
    have Hs := Lib.hid hs
    have Hsl := Lib.hid hsl
    have hP2 : Only [] w w2 := hO1'.trans' hO2
    clear hs hsl hown2 hA2 hl2
    go_loopw [7, 9] (fun out i wr => ∃ (k x : Nat) (Ao : Option Addr) (co : Nat) (G : Option Nat), k ≤ p ∧ x = 16 + k ∧ i = .int .i64 (x : Int) ∧ out = .slice Ao k co ∧ OwnS wr 5 Ao co (cellsOf (Sl.xorb (q.take k) (s.take k))) G ∧ New w2 G ∧ Only [] w2 wr) (fun _ i _ => m - (intOf i).toNat)
    case atStart => exact ⟨0, 16, none, 0, none, by omega, rfl, rfl, rfl, OwnS.none _ _, New.none _, Only.refl _ _⟩
    case round =>
      obtain ⟨k, x, Ao, co, G, hk', hx, rfl, rfl, hown, hnew, hO⟩ := hrel
      have hxk : (x : Int) - 16 = (k : Int) := by omega
      have hll : k = (Sl.xorb (q.take k) (s.take k)).length := by rw [Sl.xorb_length (by simp [Hsl.out, Hql.out])]; simp [Hsl.out]; omega
      have Hll := Lib.hid hll
      clear hll
      by_cases hlt : k < p
      · have hltI : (x : Int) < (m : Int) := by omega
        have hxn : (x : Int) < (n : Int) := by omega
        have hkp : (k : Int) < (p : Int) := by omega
        obtain ⟨gs, os, rfl, hgs, hcs⟩ := hRs (by rw [cellsOf_length, Hsl.out]; omega)
        have cb' : wr.cell? ⟨gb, ob + x, none⟩ = some (.int .u8 ((q.getD k 0).toNat : Int)) := by
          rw [hO.cell (p := ⟨gb, ob + x, none⟩) (Nat.lt_of_lt_of_le hgb1 hO2.size) (by simp), hO2.cell (p := ⟨gb, ob + x, none⟩) hgb1 (by simp), hx]
          exact Hqc.out k hlt
        have cs : wr.cell? ⟨gs, os + k, none⟩ = some (.int .u8 ((s.getD k 0).toNat : Int)) := by
          rw [hO.cell (p := ⟨gs, os + k, none⟩) hgs (by simp), hcs k (by rw [cellsOf_length, Hsl.out]; exact hlt)]
          exact cellsOf_getD (by rw [Hsl.out]; exact hlt)
        have hxr := u8_xor_val (q.getD k 0) (s.getD k 0)
        have hnext := Sl.xorb_take (a := q) (b := s) (by rw [Hql.out, Hsl.out]) k (by rw [Hql.out]; exact hlt)
        revert cs cb' hxr hnext
        generalize s.getD k 0 = y
        generalize q.getD k 0 = u
        intro cs cb' hxr hnext
        obtain ⟨z, Hz⟩ : ∃ z : Nat, Hid (z = (u ^^^ y).toNat) := ⟨_, rfl⟩
        rw [← Hz.out] at hxr
        have Hnext := Lib.hid hnext
        have Hx := Lib.hid hx
        have hgbr : gb < wr.heap.size := Nat.lt_of_lt_of_le (Nat.lt_of_lt_of_le hgb1 hO2.size) hO.size
        have hgsr : gs < wr.heap.size := Nat.lt_of_lt_of_le hgs hO.size
        have hgbG : gb ∉ G.toList := hnew.far (Nat.lt_of_lt_of_le hgb1 hO2.size)
        have hgsG : gs ∉ G.toList := hnew.far hgs
        clear hnext hcs hx
        go_wp2
        refine Reg.wp G.toList [.r 0, .r 1, .r 2, .r 3, .r 4, .r 5, .r 6, .r 7, .r 8, .r 9, .r 10, .e 11, .e 12, .r 13] (by kernel_rfl) (by kernel_rfl) (fun d _ _ _ _ h => by cases d <;> exact h) ?_
        simp only [Reg.pick, List.getD_cons_succ, List.getD_cons_zero]
        iterate 11 (apply Reg.read; (· (intro t K hK; go_simp; (try go_ints); (try ((go_ite <;> go_prune); go_simp)); (try go_ints); exact hK _ rfl)); (· (intro K hK; go_simp; exact hK _ rfl)))
        refine Reg.eff ?_
        go_wp2
        refine ⟨((Only.refl G.toList wr).alloc _).dd, ?_⟩
        clear cs cb'
        refine Reg.eff ?_
        refine wpl_append8 rfl (.tmp 41) (.tmp 52) rfl Ao k co _ G rfl Hll.out ((hown.keep ((Only.refl [] wr).alloc _) (by simp)).drew) (some ⟨wr.heap.size, 0, none⟩) 1 1 [u ^^^ y] rfl rfl (RV.new ?hv).drew ?hl ?_
        case hv => rw [Hz.out]; rfl
        case hl => rw [← Hll.out, List.length_singleton]; omega
        intro A3 c3 w3 G3 hown3 hO3 hG3
        refine Reg.done hO3 ?_
        (apply Reg.read; (· (intro t K hK; go_simp; (try go_ints); (try ((go_ite <;> go_prune); go_simp)); (try go_ints); exact hK _ rfl)); (· (intro K hK; go_simp; exact hK _ rfl)))
        refine Reg.fin ?_
        have hO3' : Only [] w2 w3 := ((hO.alloc _).drew).trans hO3 hnew.out
        have hs3 := hO.size
        clear hO3 hO hown
        go_wp2
        go_roundw
        case rel =>
          refine ⟨k + 1, x + 1, A3, c3, G3, by omega, by have := Hx.out; omega, by go_num, rfl, ?_, hnew.next (Nat.le_trans hs3 (by simp)) hG3, hO3'⟩
          rw [Hnext.out]
          exact hown3
        case measure => have := Hx.out; simp [intOf]; omega
      · obtain rfl : k = p := by omega
        have hltI : (m : Int) ≤ (x : Int) := by omega
        rw [List.take_of_length_le (by rw [Hql.out]; exact Nat.le_refl _), List.take_of_length_le (by rw [Hsl.out]; exact Nat.le_refl _), Sl.xorb_comm] at hown
        go_wp2
        go_ret2
        rw [Hbs2.out, Her2.out]
        have epl : Sl.plainOf key b = Sl.xorb s q := by rw [Sl.plainOf, Sl.mask, ← Hq.out, Hql.out, ← Hs.out]
        have hpl : (Sl.plainOf key b).length = k := by rw [epl, Sl.xorb_length (by rw [Hsl.out, Hql.out]), Hql.out]
        refine ⟨Ao, co, by rw [hpl]; rfl, by rw [hpl]; have := hown.le; rw [cellsOf_length, ← epl, hpl] at this; exact this, by rw [epl]; exact hown.reads, ?_, hP2.trans' hO⟩
        intro pp hpp
        rcases hown with h | ⟨g', r, e1, e2, e3, _⟩
        · rw [h.1] at hpp; cases hpp
        · rw [e1] at hpp
          injection hpp with hpp
          subst hpp
          exact Nat.le_trans hP2.size (hnew g' e2)
  · have hgood : Sl.good key b = false := by unfold Sl.good; exact beq_eq_false_iff_ne.2 hg
    have hbs : bs = [] := by rw [Hbs.out, hgood, if_neg (by decide)]
    have her : err = 10 := by rw [Herr.out, hgood, if_neg (by decide)]
    have Hbs2 := Lib.hid hbs
    have Her2 := Lib.hid her
    have hs : (Sl.tag key (Sl.bodyOf b) == Sl.tagIn b) = false := beq_eq_false_iff_ne.2 hg
    clear hgood hbs her hg
    iterate 2 (apply Reg.read; (· (intro t K hK; go_simp; (try go_ints); (try ((go_ite <;> go_prune); go_simp)); (try go_ints); exact hK _ rfl)); (· (intro K hK; go_simp; exact hK _ rfl)))
    refine Reg.fin ?_
    clear s2 hs
    go_wp2
    go_ret2
    rw [Hbs2.out, Her2.out]
    exact ⟨none, 0, rfl, by simp, RV.nil, (fun p hp => by cases hp), hO1'⟩

theorem refOpen_any (w : World) (A B : Option Addr) (ca n cb : Nat) (key b : List UInt8) (hn : n = b.length) (hk : key.length = 32) (hca : 32 ≤ ca) (hcb : n ≤ cb) (hA : RV w A (cellsOf key)) (hB : RV w B (cellsOf b)) :
    Calls Tryd.prog 34 #[.slice A 32 ca, .slice B n cb] w (RetE w (Sl.openB key b).1 (Sl.openB key b).2) := by
  by_cases h1 : n < 32
  · have e : Sl.openB key b = ([], 4) := by unfold Sl.openB; rw [if_pos (by omega)]
    rw [e]
    exact refOpen_short w A B ca n cb (by omega)
  · by_cases h2 : 65536 < n
    · have e : Sl.openB key b = ([], 5) := by unfold Sl.openB; rw [if_neg (by omega), if_pos (by omega)]
      rw [e]
      exact refOpen_long w A B ca n cb (by omega)
    · have e : Sl.openB key b = if Sl.good key b then (Sl.plainOf key b, 0) else ([], 10) := by unfold Sl.openB; rw [if_neg (by omega), if_neg (by omega)]
      refine refOpen_mid w A B ca cb key b n (n - 16) hn (by omega) hk (by omega) (by omega) hca hcb hA hB _ _ ?_ ?_
      · show _ = _
        rw [e]
        split <;> rfl
      · show _ = _
        rw [e]
        split <;> rfl
end Go.Proofs.YtglbgocldenooaaDoor
