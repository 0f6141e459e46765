/-
  THE WALK of seal.Open.
-/
import Derived.Test.YtglbgocldenooaaDoorSeal3
namespace Go.Proofs.YtglbgocldenooaaDoor
open Go.RowKit

theorem mask_at (w : World) (A B C : Option Addr) (ca cb n cc : Nat) (key nonce b : List UInt8) (hn' : n = b.length) (hk : key.length = 32) (hn : nonce.length = 16) (hb : (n : Int) ≤ 65504) (hca : 32 ≤ ca) (hcb : 16 ≤ cb) (hcc : n ≤ cc) (hA : RV w A (cellsOf key)) (hB : RV w B (cellsOf nonce)) (hC : RV w C (cellsOf b)) (hgl : Gl w) :
    Calls Tryd.prog 46 #[.slice A 32 ca, .slice B 16 cb, .slice C n cc] w fun e w' => ∃ g rest, e = .returned (.tuple #[.slice (some ⟨g, 0, none⟩) n n, .int .i64 0]) ∧ Blk w' g 5 (cellsOf (Sl.mask key nonce b) ++ rest) ∧ w.heap.size ≤ g ∧ Only [] w w' := by
  subst hn'
  exact mask_any w A B C ca cb cc key nonce b hk hn hb hca hcb hcc hA hB hC hgl

/-- Bytes are handed back beside an error. -/
def RetE (w : World) (bs : List UInt8) (err : Nat) (e : Ending) (w' : World) : Prop :=
  ∃ A c, e = .returned (.tuple #[.slice A bs.length c, .int .i64 (err : Int)]) ∧ bs.length ≤ c ∧ RV w' A (cellsOf bs) ∧ (∀ p, A = some p → w.heap.size ≤ p.block) ∧ Only [] w w'

theorem open_arg (w : World) (A : Option Addr) (n ca : Nat) (v : Value) (h : n ≠ 32) :
    Calls Tryd.prog 33 #[.slice A n ca, v] w (RetE w [] 2) := by
  have e1 : ((n : Int) == 32) = false := beq_eq_false_iff_ne.2 (by omega)
  have e2 : ((n : Int) != 32) = true := by rw [bne_iff_ne]; omega
  clear h
  go_enter Tryd.func33, Tryd.ntmps33
  go_wp2
  go_ret2
  exact ⟨none, 0, rfl, by simp, RV.nil, (fun p hp => by cases hp), Only.refl _ _⟩
theorem open_short (w : World) (A B : Option Addr) (ca n cb : Nat) (h : (n : Int) < 32) :
    Calls Tryd.prog 33 #[.slice A 32 ca, .slice B n cb] w (RetE w [] 4) := by
  go_enter Tryd.func33, Tryd.ntmps33
  go_wp2
  go_ret2
  exact ⟨none, 0, rfl, by simp, RV.nil, (fun p hp => by cases hp), Only.refl _ _⟩
theorem open_long (w : World) (A B : Option Addr) (ca n cb : Nat) (h : (65536 : Int) < (n : Int)) :
    Calls Tryd.prog 33 #[.slice A 32 ca, .slice B n cb] w (RetE w [] 5) := by
  have h' : (32 : Int) ≤ (n : Int) := by omega
  go_enter Tryd.func33, Tryd.ntmps33
  go_wp2
  go_ret2
  exact ⟨none, 0, rfl, by simp, RV.nil, (fun p hp => by cases hp), Only.refl _ _⟩

theorem or_zero (d x : UInt8) : d ||| x = 0 ↔ d = 0 ∧ x = 0 := by
  constructor
  · intro h
    have := congrArg UInt8.toNat h
    rw [UInt8.toNat_or] at this
    have h1 : d.toNat ||| x.toNat = 0 := this
    rw [Nat.or_eq_zero_iff] at h1
    exact ⟨UInt8.toNat_inj.1 h1.1, UInt8.toNat_inj.1 h1.2⟩
  · rintro ⟨rfl, rfl⟩
    rfl
theorem xor_zero (x y : UInt8) : x ^^^ y = 0 ↔ x = y := by
  constructor
  · intro h
    have : x ^^^ y ^^^ y = 0 ^^^ y := by rw [h]
    rwa [UInt8.xor_assoc, UInt8.xor_self, UInt8.xor_zero, UInt8.zero_xor] at this
  · rintro rfl
    exact UInt8.xor_self
theorem take_eq_next {a b : List UInt8} {k : Nat} (ha : k < a.length) (hb : k < b.length) : a.take (k + 1) = b.take (k + 1) ↔ a.take k = b.take k ∧ a.getD k 0 = b.getD k 0 := by
  rw [List.take_succ_eq_append_getElem ha, List.take_succ_eq_append_getElem hb]
  simp only [List.getD_eq_getElem?_getD, List.getElem?_eq_getElem ha, List.getElem?_eq_getElem hb, Option.getD_some]
  constructor
  · intro h
    have := List.append_inj h (by simp; omega)
    exact ⟨this.1, by simpa using this.2⟩
  · rintro ⟨h1, h2⟩
    rw [h1, h2]

set_option maxHeartbeats 4000000 in
set_option maxRecDepth 100000 in
theorem open_mid (w : World) (A B : Option Addr) (ca cb : Nat) (key b : List UInt8) (n m : Nat) (hn : n = b.length) (hm : n = m + 16) (hk : key.length = 32) (h1 : (16 : Int) ≤ (m : Int)) (h2 : (m : Int) ≤ 65520) (hca : 32 ≤ ca) (hcb : n ≤ cb) (hA : RV w A (cellsOf key)) (hB : RV w B (cellsOf b)) (hgl : Gl w) (bs : List UInt8) (err : Nat) (Hbs : Hid (bs = if Sl.good key b then Sl.plainOf key b else [])) (Herr : Hid (err = if Sl.good key b then 0 else 10)) :
    Calls Tryd.prog 33 #[.slice A 32 ca, .slice B n cb] w (RetE w bs err) := by
  have Hk := Lib.hid hk
  have e1 : (n : Int) - 16 = (m : Int) := by omega
  have e2 : n - m = 16 := by omega
  have hnI : (32 : Int) ≤ (n : Int) := by omega
  have hnI2 : (n : Int) ≤ 65536 := by omega
  have hmn : m ≤ n := by omega
  have Hm : Hid (b.length = m + 16) := by rw [← hn]; exact hm
  have hncb : n ≤ cb := hcb
  have hmcb : m + 16 ≤ cb := by omega
  clear hk hm hn
  obtain ⟨gb, ob, rfl, hgb, hcells⟩ := hB (by rw [cellsOf_length, Hm.out]; omega)
  have Hcells := Lib.hid hcells
  have hcbI : (n : Int) ≤ (cb : Int) := by omega
  have hmcI : (m : Int) ≤ (cb : Int) := by omega
  have hne : ¬ cb = m := by omega
  have hne2 : ¬ cb = 16 := by omega
  clear hcells
  have hbody : RV w (some ⟨gb, ob, none⟩) (cellsOf (Sl.bodyOf b)) := by
    have h := RV.slice rfl hB 0 m
    simpa [Sl.bodyOf, cellsOf, List.map_take, Hm.out] using h
  go_enter Tryd.func33, Tryd.ntmps33
  go_wp2_with (go_at_call 47; refine (tagOf_any w A _ ca m cb key (Sl.bodyOf b) Hk.out ?hn hca (by omega) (by omega) hA hbody hgl).mono ?_
               case hn => rw [Sl.bodyOf, List.length_take, Hm.out]; omega
               rintro e w1 ⟨g, rfl, hT, hg, hO1⟩)
  obtain ⟨T, hT'⟩ : ∃ T, T = Sl.tag key (Sl.bodyOf b) := ⟨_, rfl⟩
  rw [← hT'] at hT
  have hTl : T.length = 16 := by rw [hT']; simp
  have HT := Lib.hid hT'
  have HTl := Lib.hid hTl
  obtain ⟨g', o', e1, hgT, hcT⟩ := hT (by rw [cellsOf_length, hTl]; decide)
  injection e1 with e1
  injection e1 with e1 e2
  subst e1 e2
  have HcT := Lib.hid hcT
  obtain ⟨U, hU⟩ : ∃ U, U = Sl.tagIn b := ⟨_, rfl⟩
  have hUl : U.length = 16 := by rw [hU, Sl.tagIn, List.length_drop, Hm.out]; omega
  have HU := Lib.hid hU
  have HUl := Lib.hid hUl
  clear hT' hTl hcT hU hUl hT
  go_loop [43, 9, 10, 11] (fun c d _ _ => ∃ (k : Nat) (dv : UInt8), k ≤ 16 ∧ c = .int .i64 (k : Int) ∧ d = .int .u8 (dv.toNat : Int) ∧ (dv = 0 ↔ U.take k = T.take k)) (fun c _ _ _ => 16 - (intOf c).toNat)
  case atStart => exact ⟨0, 0, by omega, rfl, rfl, by simp⟩
  case round =>
    obtain ⟨k, dv, hk16, rfl, rfl, hdv⟩ := hrel
    have Hdv := Lib.hid hdv
    clear hdv
    by_cases hlt : k < 16
    · have hltI : (k : Int) < 16 := by omega
      have c1 : w1.cell? ⟨gb, ob + m + k, none⟩ = some (.int .u8 ((U.getD k 0).toNat : Int)) := by
        rw [Nat.add_assoc, hO1.cell (p := ⟨gb, ob + (m + k), none⟩) hgb (by simp), Hcells.out (m + k) (by rw [cellsOf_length, Hm.out]; omega), cellsOf_getD (by rw [Hm.out]; omega), HU.out]
        simp [Sl.tagIn, List.getD, Hm.out]
      have c2 : w1.cell? ⟨g, k, none⟩ = some (.int .u8 ((T.getD k 0).toNat : Int)) := by
        have := HcT.out k (by rw [cellsOf_length, HTl.out]; exact hlt)
        rw [Nat.zero_add] at this
        rw [this]
        exact cellsOf_getD (by rw [HTl.out]; exact hlt)
      have hnext := take_eq_next (a := U) (b := T) (k := k) (by rw [HUl.out]; exact hlt) (by rw [HTl.out]; exact hlt)
      have Hnext := Lib.hid hnext
      clear hnext
      revert c1 c2 Hnext
      generalize U.getD k 0 = x
      generalize T.getD k 0 = y
      intro c1 c2 Hnext
      obtain ⟨z, Hz⟩ : ∃ z : Nat, Hid (z = (x ^^^ y).toNat) := ⟨_, rfl⟩
      obtain ⟨z2, Hz2⟩ : ∃ z : Nat, Hid (z = (dv ||| (x ^^^ y)).toNat) := ⟨_, rfl⟩
      have hx := u8_xor_val x y
      have ho := u8_or_val dv (x ^^^ y)
      rw [← Hz.out] at hx ho
      rw [← Hz2.out] at ho
      go_wp2
      go_round
      case rel =>
        refine ⟨k + 1, dv ||| (x ^^^ y), by omega, by go_num, by rw [Hz2.out], ?_⟩
        rw [or_zero, xor_zero, Hnext.out, Hdv.out]
      case measure => simp [intOf]; omega
    · obtain rfl : k = 16 := by omega
      have hgood : Sl.good key b = decide (dv = 0) := by
        unfold Sl.good
        rw [← HT.out, ← HU.out, Bool.eq_iff_iff, beq_iff_eq, decide_eq_true_iff, Hdv.out, List.take_of_length_le (by rw [HUl.out]; exact Nat.le_refl _), List.take_of_length_le (by rw [HTl.out]; exact Nat.le_refl _)]
        exact ⟨fun h => h.symm, fun h => h.symm⟩
      by_cases hd : dv = 0
      · subst hd
        rw [decide_eq_true rfl] at hgood
        have hbs : bs = Sl.plainOf key b := by rw [Hbs.out, hgood, if_pos rfl]
        have her : err = 0 := by rw [Herr.out, hgood, if_pos rfl]
        have Hbs2 := Lib.hid hbs
        have Her2 := Lib.hid her
        clear hgood hbs her
        have d0 : ((0 : UInt8).toNat : Int) = 0 := rfl
        rw [d0]
        have h16 : (16 : Int) ≤ (m : Int) := h1
        have hm16 : ¬ cb = 16 := by omega
        have h16n : 16 ≤ m := by omega
        go_wp2
        refine Reg.wp [] [.r 0, .r 1, .r 2, .r 3, .r 4, .e 5, .r 6, .r 7, .r 8, .r 9] (by kernel_rfl) (by kernel_rfl) (fun d _ _ _ _ h => by cases d <;> exact h) ?_
        simp only [Reg.pick, List.getD_cons_succ, List.getD_cons_zero]
        iterate 5 (apply Reg.read; (· (intro t K hK; go_simp; (try go_ints); (try ((go_ite <;> go_prune); go_simp)); (try go_ints); exact hK _ rfl)); (· (intro K hK; go_simp; exact hK _ rfl)))
        refine Reg.eff ?_
        have hb1 : RV w1 (some ⟨gb, ob, none⟩) (cellsOf ((Sl.bodyOf b).take 16)) := by
          have h := RV.slice rfl (hbody.keep0 hO1) 0 16
          simpa [cellsOf, List.map_take] using h
        have hbl : (Sl.bodyOf b).length = m := by rw [Sl.bodyOf, List.length_take, Hm.out]; omega
        have hb2 : RV w1 (some ⟨gb, ob + 16, none⟩) (cellsOf ((Sl.bodyOf b).drop 16)) := by
          have h := RV.slice rfl (hbody.keep0 hO1) 16 (m - 16)
          have e : ((cellsOf (Sl.bodyOf b)).drop 16).take (m - 16) = cellsOf ((Sl.bodyOf b).drop 16) := by
            rw [List.take_of_length_le (by rw [List.length_drop, cellsOf_length, hbl]; exact Nat.le_refl _), cellsOf, cellsOf, List.map_drop]
          rw [e] at h
          exact h
        have Hbl := Lib.hid hbl
        clear hbl
        go_wp2_with (go_at_call 46; refine (mask_at w1.drew A _ _ ca cb (m - 16) _ key ((Sl.bodyOf b).take 16) ((Sl.bodyOf b).drop 16) ?hn3 Hk.out ?hn4 ?hb3 hca (by omega) (by omega) (hA.keep0 hO1).drew hb1.drew hb2.drew (hgl.keep hO1 (by simp) (by simp)).drew).mono ?_
                     case hn3 => rw [List.length_drop, Hbl.out]
                     case hn4 => rw [List.length_take, Hbl.out]; omega
                     case hb3 => omega
                     rintro e w2 ⟨g2, r2, rfl, hB2, hg2, hO2⟩)
        refine ⟨hO2, ?_⟩
        iterate 4 (apply Reg.read; (· (intro t K hK; go_simp; (try go_ints); (try ((go_ite <;> go_prune); go_simp)); (try go_ints); exact hK _ rfl)); (· (intro K hK; go_simp; exact hK _ rfl)))
        refine Reg.fin ?_
        go_wp2
        go_ret2
        rw [Hbs2.out, Her2.out]
        have hpl : (Sl.plainOf key b).length = m - 16 := by rw [Sl.plainOf, Sl.mask_length, List.length_drop, Hbl.out]
        refine ⟨some ⟨g2, 0, none⟩, m - 16, by rw [hpl]; rfl, by rw [hpl]; exact Nat.le_refl _, ?_, (fun p hp => by injection hp with hp; subst hp; exact Nat.le_trans hO1.size hg2), hO1.trans' (Only.undrew (w := w1) hO2)⟩
        intro _
        unfold Sl.plainOf
        exact ⟨g2, 0, rfl, hB2.lt, fun j hj => by rw [Nat.zero_add, hB2.cell, List.getElem?_append_left hj]⟩
      · rw [decide_eq_false hd] at hgood
        have hbs : bs = [] := by rw [Hbs.out, hgood, if_neg (by decide)]
        have her : err = 10 := by rw [Herr.out, hgood, if_neg (by decide)]
        have Hbs2 := Lib.hid hbs
        have Her2 := Lib.hid her
        clear hbs her
        have hd0 : dv.toNat ≠ 0 := fun h => hd (UInt8.toNat_inj.1 h)
        have d1 : ((dv.toNat : Int) == 0) = false := beq_eq_false_iff_ne.2 (by omega)
        have d2 : ((dv.toNat : Int) != 0) = true := by rw [bne_iff_ne]; omega
        clear hgood
        go_wp2
        go_ret2
        rw [Hbs2.out, Her2.out]
        exact ⟨none, 0, rfl, by simp, RV.nil, (fun p hp => by cases hp), hO1⟩

/-- Open with a key of 32 bytes. -/
theorem open_any (w : World) (A B : Option Addr) (ca n cb : Nat) (key b : List UInt8) (hn : n = b.length) (hk : key.length = 32) (hca : 32 ≤ ca) (hcb : n ≤ cb) (hA : RV w A (cellsOf key)) (hB : RV w B (cellsOf b)) (hgl : Gl w) :
    Calls Tryd.prog 33 #[.slice A 32 ca, .slice B n cb] w (RetE w (Sl.openB key b).1 (Sl.openB key b).2) := by
  by_cases h1 : n < 32
  · have e : Sl.openB key b = ([], 4) := by unfold Sl.openB; rw [if_pos (by omega)]
    rw [e]
    exact open_short w A B ca n cb (by omega)
  · by_cases h2 : 65536 < n
    · have e : Sl.openB key b = ([], 5) := by unfold Sl.openB; rw [if_neg (by omega), if_pos (by omega)]
      rw [e]
      exact open_long w A B ca n cb (by omega)
    · have e : Sl.openB key b = if Sl.good key b then (Sl.plainOf key b, 0) else ([], 10) := by unfold Sl.openB; rw [if_neg (by omega), if_neg (by omega)]
      refine open_mid w A B ca cb key b n (n - 16) hn (by omega) hk (by omega) (by omega) hca hcb hA hB hgl _ _ ?_ ?_
      · show _ = _
        rw [e]
        split <;> rfl
      · show _ = _
        rw [e]
        split <;> rfl
end Go.Proofs.YtglbgocldenooaaDoor
