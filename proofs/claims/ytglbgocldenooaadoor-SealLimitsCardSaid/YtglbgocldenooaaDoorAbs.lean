/-
  THE WALK of (*blake.Hash).absorb with one part: the message grows by it.
-/
import Derived.Test.YtglbgocldenooaaDoorAbsorb
namespace Go.Proofs.YtglbgocldenooaaDoor
open Go.RowKit

theorem comp_at (w : World) (gh gb ob : Nat) (tH : TypeId) (st : List Nat) (blk bs : List UInt8) (fill before written ti : Int) (t : Nat) (hti : ti = (t : Int)) (last : Bool) (hst : Bl.Words 8 st) (hblk : blk.length = 64)
    (hH : Blk w gh tH (hcells st blk fill before written)) (hgl : Gl w) (hg2 : 2 ≤ gh) (ht : t < 18446744073709551616)
    (hcell : ∀ j, j < 64 → w.cell? ⟨gb, ob + j, none⟩ = some (.int .u8 (bs.getD j 0).toNat)) (hgb : gb < w.heap.size) :
    Calls Tryd.prog 51 #[.pointer (some ⟨gh, 0, none⟩), .slice (some ⟨gb, ob, none⟩) 64 64, .int .u64 ti, .bool last] w fun e w' =>
      e = .returned (.tuple #[]) ∧ Blk w' gh tH (hcells (Bl.comp st bs t last) blk fill before written) ∧ Only [gh] w w' := by
  subst hti
  exact comp_any w gh gb ob tH st blk bs fill before written t last hst hblk hH hgl hg2 ht hcell hgb

def lenV : Value → Nat | .slice _ n _ => n | _ => 0
theorem Gl.drew {w : World} (h : Gl w) : Gl w.drew := ⟨h.ini, h.tab, h.sz⟩

/-- What the outer loop knows before its k-th round. -/
def AbsRel (w : World) (gh nk : Nat) (M part : List UInt8) (written k : Nat) (wr : World) : Prop :=
  (k = 0 → HS wr gh nk M written ∧ wr = w) ∧ (k = 1 → HS wr gh nk (M ++ part) (written + part.length) ∧ Only [gh] w wr)

/-- The inner loop's. -/
def InRel (w : World) (gh nk : Nat) (M part : List UInt8) (written c ga oa k : Nat) (p : Value) (wr : World) : Prop :=
  k ≤ part.length ∧ (∃ A, p = .slice A (part.length - k) (c - k) ∧ (k < part.length → A = some ⟨ga, oa + k, none⟩)) ∧
  (∃ fill q, HSx wr gh nk (M ++ part.take k) written fill q ∧ (fill = 0 → M ++ part.take k ≠ [] → k < part.length)) ∧ Only [gh] w wr

theorem abs_copy {w0 W3 : World} {gh nk q fill k m d n c ga oa wn : Nat} {M part blk xs : List UInt8} (hB3 : Blk W3 gh 48 (hcells (Bl.stq nk (M ++ part.take k) q) (splice blk fill xs) (fill : Int) ((64 * q : Nat) : Int) (wn : Int)))
    (hO : Only [gh] w0 W3) (hst : (Bl.stq nk (M ++ part.take k) q).length = 8) (hl : blk.length = 64) (hM : (M ++ part.take k).length = 64 * q + fill) (ht : blk.take fill = (M ++ part.take k).drop (64 * q))
    (hm : part.length - k = m) (hd : c - k = d) (hxs : xs = (part.drop k).take n) (hxl : xs.length = n) (hn1 : n ≤ m) (hn2 : n ≤ 64 - fill) (hn0 : 0 < n) (hmd : m ≤ d) (hc : part.length ≤ c) (hk : k ≤ part.length) (hf : fill < 64) :
    InRel w0 gh nk M part wn c ga oa (k + n) (.slice (if d = n then some ⟨ga, oa + k, none⟩ else some ⟨ga, oa + k + n, none⟩) (m - n) (d - n)) (W3.setCell ⟨gh, 73, none⟩ (.int .i64 ((fill : Int) + (n : Int)))) := by
  have hl3 : (splice blk fill xs).length = 64 := by rw [splice_length (by rw [hl]; omega), hl]
  refine ⟨by omega, ⟨_, by rw [← hm, ← hd, Nat.sub_sub, Nat.sub_sub], fun h => ?_⟩, ⟨fill + n, q, ⟨splice blk fill xs, ?_, hl3, ?_, by omega, ?_⟩, fun h => by omega⟩, hO.setCell (p := ⟨gh, 73, none⟩) (.inl (by simp)) _⟩
  · rw [if_neg (by omega), Nat.add_assoc]
  all_goals rw [List.take_add (l := part), ← List.append_assoc, ← hxs]
  · rw [Bl.stq_append (by rw [hM]; omega)]
    have := hB3.set 73 (.int .i64 ((fill : Int) + (n : Int)))
    rw [hcells_fill hst hl3] at this
    have e : ((fill + n : Nat) : Int) = (fill : Int) + (n : Int) := by omega
    rw [e]
    exact this
  · rw [List.length_append, hM, hxl]; omega
  · rw [List.drop_append_of_le_length (by rw [hM]; omega), ← ht]
    unfold splice
    rw [← List.append_assoc, List.take_append_of_le_length (by simp [hl, hxl]; omega), List.take_of_length_le (by simp [hl, hxl]; omega)]

set_option maxHeartbeats 4000000 in
set_option maxRecDepth 100000 in
theorem absorb_any (w : World) (gh nk : Nat) (M part : List UInt8) (written gp c : Nat) (A : Option Addr) (hS : HS w gh nk M written) (_hgp : gp ≠ gh) (hgps : gp < w.heap.size)
    (hcp : w.cell? ⟨gp, 0, none⟩ = some (.slice A part.length c)) (hc : part.length ≤ c) (hr : RB w A part) (hA : 0 < part.length → ∀ p, A = some p → p.block ≠ gh) (hnk : nk ≤ 32)
    (hw1 : written + part.length ≤ 4611686018427387904) (hw2 : M.length + part.length ≤ 4611686018427387904) (hgl : Gl w) (hg2 : 2 ≤ gh) :
    Calls Tryd.prog 44 #[.pointer (some ⟨gh, 0, none⟩), .slice (some ⟨gp, 0, none⟩) 1 1] w fun e w' =>
      e = .returned (.tuple #[]) ∧ HS w' gh nk (M ++ part) (written + part.length) ∧ Only [gh] w w' := by
  obtain ⟨ga, oa, hga⟩ : ∃ ga oa, 0 < part.length → A = some ⟨ga, oa, none⟩ ∧ ga < w.heap.size ∧ ga ≠ gh ∧ ∀ j, j < part.length → w.cell? ⟨ga, oa + j, none⟩ = some (.int .u8 (part.getD j 0).toNat) := by
    by_cases h0 : 0 < part.length
    · obtain ⟨g, o, rfl, h1, h2⟩ := hr h0
      exact ⟨g, o, fun _ => ⟨rfl, h1, hA h0 _ rfl, h2⟩⟩
    · exact ⟨0, 0, fun h => absurd h h0⟩
  have Hga := Lib.hid hga
  have HA := Lib.hid hA
  clear hga hA hr
  go_enter Tryd.func44, Tryd.ntmps44
  go_wp2
  go_loopw [9, 5, 6] (fun a _ _ wr => ∃ k : Nat, k ≤ 1 ∧ a = .int .i64 k ∧ AbsRel w gh nk M part written k wr) (fun a _ _ _ => 1 - (intOf a).toNat)
  case atStart => exact ⟨0, by omega, rfl, fun _ => ⟨hS, rfl⟩, fun h => by cases h⟩
  case round =>
    obtain ⟨k, hk, rfl, hrel⟩ := hrel
    by_cases hlt : k < 1
    · obtain rfl : k = 0 := by omega
      obtain ⟨hS', rfl⟩ := hrel.1 rfl
      clear hrel hk hlt hS
      rw [show ((0 : Nat) : Int) = 0 from rfl]
      obtain ⟨fill0, q0, ⟨blk0, hB0, hl0, hM0, hf0, ht0⟩, hz0⟩ := hS'
      have hst := Bl.stq_words (n := nk) (M := M) hnk q0
      have c75 : wr.cell? ⟨gh, 75, none⟩ = some (.int .i64 (written : Int)) := hB0.cellv (hcells_tail hst.1 hl0 2)
      have f75 := hB0.frozen 75
      go_wp2
      have hB1 := hB0.set 75 (.int .i64 ((written + part.length : Nat) : Int))
      rw [hcells_written hst.1 hl0] at hB1
      have hO1 := (Only.refl [gh] wr).setCell (p := ⟨gh, 75, none⟩) (.inl (by simp)) (.int .i64 ((written + part.length : Nat) : Int))
      have eN : ((written + part.length : Nat) : Int) = (written : Int) + part.length := by omega
      rw [eN] at hB1 hO1
      clear c75 f75
      revert hB1 hO1
      generalize World.setCell _ _ _ = W1
      intro hB1 hO1
      rw [← eN] at hB1
      clear eN
      obtain ⟨w0, rfl⟩ : ∃ w0 : World, w0 = wr := ⟨_, rfl⟩
      go_loopw [5, 6] (fun p _ wr => ∃ k : Nat, InRel w0 gh nk M part (written + part.length) c ga oa k p wr) (fun p _ _ => lenV p)
      case atStart =>
        refine ⟨0, by omega, ⟨A, rfl, fun h => (Hga.out h).1⟩, ⟨fill0, q0, ⟨blk0, ?_, hl0, ?_, hf0, ?_⟩, fun h h' => ?_⟩, hO1⟩
        · simpa using hB1
        · simpa using hM0
        · simpa using ht0
        · exact absurd h (by have := hz0 (by simpa using h'); omega)
      case round =>
        clear hB1 hO1 hB0
        obtain ⟨k, hk, ⟨A', rfl, hA'⟩, ⟨fill, q, ⟨blk, hB, hl, hM, hf, ht⟩, hz⟩, hO⟩ := hrel
        obtain ⟨m, hm⟩ : ∃ m, part.length - k = m := ⟨_, rfl⟩
        obtain ⟨d, hd⟩ : ∃ d, c - k = d := ⟨_, rfl⟩
        rw [hm, hd]
        have hmd : m ≤ d := by omega
        by_cases hlt : k < part.length
        · obtain ⟨rfl, hgas, hgah, hcell⟩ := Hga.out (by omega)
          obtain rfl := hA' hlt
          have hM' : (M ++ part.take k).length = 64 * q + fill := hM
          have hMle : (M ++ part.take k).length ≤ 4611686018427387904 := by simp; omega
          have hst := Bl.stq_words (n := nk) (M := M ++ part.take k) hnk q
          have c73 : wr.cell? ⟨gh, 73, none⟩ = some (.int .i64 (fill : Int)) := hB.cellv (hcells_tail hst.1 hl 0)
          have hm0 : 0 < m := by omega
          have Hm := Lib.hid hm
          have Hd := Lib.hid hd
          have Hc := Lib.hid hcell
          have HM := Lib.hid hM'
          have Ht := Lib.hid ht
          have Hl := Lib.hid hl
          have hq : 64 * q + fill ≤ 4611686018427387904 := by omega
          clear hm hd hcell hM hM' ht hl hA' hMle
          go_upto_if 29 with (fail)
          go_cut [] (fun wx => ∃ fill q, HSx wx gh nk (M ++ part.take k) (written + part.length) fill q ∧ fill < 64 ∧ Only [gh] w0 wx)
          case first =>
            by_cases h64 : fill = 64
            · have hb64 : ((fill : Int) == 64) = true := beq_iff_eq.2 (by omega)
              obtain ⟨t, Htq⟩ : ∃ t, Hid (t = 64 * q) := ⟨_, rfl⟩
              have htl : t + 64 ≤ 4611686018427387904 := by rw [Htq.out]; omega
              rw [← Htq.out] at hB
              have c74 : wr.cell? ⟨gh, 74, none⟩ = some (.int .u64 (t : Int)) := hB.cellv (hcells_tail hst.1 Hl.out 1)
              have f74 := hB.frozen 74
              go_wp2
              have hB2 := hB.set 74 (.int .u64 ((t : Int) + 64))
              rw [hcells_before hst.1 Hl.out] at hB2
              have hO2 := hO.setCell (p := ⟨gh, 74, none⟩) (.inl (by simp)) (.int .u64 ((t : Int) + 64))
              clear c74 f74 c73
              revert hB2 hO2
              generalize World.setCell _ _ _ = W2
              intro hB2 hO2
              have c74 : W2.cell? ⟨gh, 74, none⟩ = some (.int .u64 ((t : Int) + 64)) := hB2.cellv (hcells_tail hst.1 Hl.out 1)
              go_still_tail 9, (by kernel_rfl)
              go_wp2_with (go_at_call 51; refine (comp_at _ gh gh 9 _ _ blk blk _ _ _ _ (t + 64) (by omega) false hst Hl.out hB2.drew (hgl.keep hO2 (by simp; omega) (by simp; omega)).drew hg2 (by omega) (fun j hj => hB2.cellv (hcells_blk hst.1 Hl.out hj)) hB2.lt).mono ?_; rintro e W3 ⟨rfl, hB3, hO3⟩; have f73 := hB3.frozen 73; have c73 : W3.cell? ⟨gh, 73, none⟩ = some (.int .i64 (fill : Int)) := hB3.cellv (hcells_tail (Bl.comp_words hst).1 Hl.out 0))
              go_meet
              have hB4 := hB3.set 73 (.int .i64 ((0 : Nat) : Int))
              rw [hcells_fill (Bl.comp_words hst).1 Hl.out] at hB4
              refine ⟨0, q + 1, ⟨blk, ?_, Hl.out, ?_, by omega, ?_⟩, by omega, (hO2.trans' (Only.undrew (w := W2) hO3)).setCell (p := ⟨gh, 73, none⟩) (.inl (by simp)) _⟩
              · have e1 : Bl.stq nk (M ++ part.take k) (q + 1) = Bl.comp (Bl.stq nk (M ++ part.take k) q) blk (t + 64) false := by
                  simp only [Bl.stq]
                  have : blk = (M ++ part.take k).drop (64 * q) := by rw [← Ht.out, h64, List.take_of_length_le (by rw [Hl.out]; exact Nat.le_refl _)]
                  rw [← this, Htq.out]
                  congr 1
                have e2 : ((64 * (q + 1) : Nat) : Int) = (t : Int) + 64 := by rw [Htq.out]; omega
                rw [e1, e2]
                exact hB4
              · rw [HM.out, h64]; omega
              · rw [List.take_zero, List.drop_eq_nil_of_le (by rw [HM.out]; omega)]
            · have hb64 : ((fill : Int) == 64) = false := beq_eq_false_iff_ne.2 (by omega)
              go_wp2
              go_meet
              exact ⟨fill, q, ⟨blk, hB, Hl.out, HM.out, hf, Ht.out⟩, by omega, hO⟩
          case rest =>
            clear hB hf hst c73 hq hO HM Ht Hl hz hcp hgps HA
            obtain ⟨fill, q, ⟨blk, hB, hl, hM, hf, ht⟩, hf64, hO⟩ := hcut
            have hst := Bl.stq_words (n := nk) (M := M ++ part.take k) hnk q
            have c73 : wc.cell? ⟨gh, 73, none⟩ = some (.int .i64 (fill : Int)) := hB.cellv (hcells_tail hst.1 hl 0)
            have HM := Lib.hid hM
            have Ht := Lib.hid ht
            have Hl := Lib.hid hl
            have hle : (M ++ part.take k).length ≤ 4611686018427387904 := by simp; omega
            have hq : 64 * q + fill ≤ 4611686018427387904 := by rw [hM] at hle; exact hle
            clear hle
            clear hM ht hl
            by_cases hdir : fill = 0 ∧ 64 < m
            · obtain ⟨h0, hm64⟩ := hdir
              have hb0 : ((fill : Int) == 0) = true := beq_iff_eq.2 (by omega)
              have hm64' : (64 : Int) < (m : Int) := by omega
              have hd64 : ¬ d = 64 := by omega
              obtain ⟨t, Htq⟩ : ∃ t, Hid (t = 64 * q) := ⟨_, rfl⟩
              have htl : t + 64 ≤ 4611686018427387904 + 64 := by rw [Htq.out]; omega
              rw [← Htq.out] at hB
              have c74 : wc.cell? ⟨gh, 74, none⟩ = some (.int .u64 (t : Int)) := hB.cellv (hcells_tail hst.1 Hl.out 1)
              have f74 := hB.frozen 74
              go_wp2
              have hB2 := hB.set 74 (.int .u64 ((t : Int) + 64))
              rw [hcells_before hst.1 Hl.out] at hB2
              have hO2 := hO.setCell (p := ⟨gh, 74, none⟩) (.inl (by simp)) (.int .u64 ((t : Int) + 64))
              clear c74 f74 c73
              revert hB2 hO2
              generalize World.setCell _ _ _ = W2
              intro hB2 hO2
              have c74 : W2.cell? ⟨gh, 74, none⟩ = some (.int .u64 ((t : Int) + 64)) := hB2.cellv (hcells_tail hst.1 Hl.out 1)
              have hd64' : (64 : Int) ≤ (d : Int) := by omega
              have hcb : ∀ j, j < 64 → W2.cell? ⟨ga, oa + k + j, none⟩ = some (.int .u8 (((part.drop k).take 64).getD j 0).toNat) := by
                intro j hj
                have hkj : k + j < part.length := by have := Hm.out; omega
                rw [Nat.add_assoc, hO2.cell (p := ⟨ga, oa + (k + j), none⟩) hgas (by simpa using hgah), Hc.out (k + j) hkj]
                simp [hj]
              have Hcb := Lib.hid hcb
              clear hcb
              go_still_tail 7, (by kernel_rfl)
              go_wp2_with (go_at_call 51; refine (comp_at _ gh ga (oa + k) _ _ blk ((part.drop k).take 64) _ _ _ _ (t + 64) (by omega) false hst Hl.out hB2.drew (hgl.keep hO2 (by simp; omega) (by simp; omega)).drew hg2 (by omega) Hcb.out (Nat.lt_of_lt_of_le hgas hO2.size)).mono ?_; rintro e W3 ⟨rfl, hB3, hO3⟩)
              go_roundw
              case rel =>
                have hm' := Hm.out
                have hd' := Hd.out
                refine ⟨k + 64, by omega, ⟨_, by rw [← hm', ← hd', Nat.sub_sub, Nat.sub_sub], fun _ => by rw [Nat.add_assoc]⟩, ⟨0, q + 1, ⟨blk, ?_, Hl.out, ?_, by omega, ?_⟩, fun _ _ => by omega⟩, hO2.trans' (Only.undrew (w := W2) hO3)⟩
                all_goals rw [List.take_add, ← List.append_assoc]
                · have e1 : Bl.stq nk (M ++ part.take k ++ (part.drop k).take 64) (q + 1) = Bl.comp (Bl.stq nk (M ++ part.take k) q) ((part.drop k).take 64) (t + 64) false := by
                    simp only [Bl.stq]
                    have hnil : (M ++ part.take k).drop (64 * q) = [] := List.drop_eq_nil_of_le (by rw [HM.out]; omega)
                    rw [Bl.stq_append (by rw [HM.out]; omega), List.drop_append_of_le_length (by rw [HM.out]; omega), hnil, List.nil_append, Htq.out]
                    congr 1
                  have e2 : ((64 * (q + 1) : Nat) : Int) = (t : Int) + 64 := by rw [Htq.out]; omega
                  have e3 : ((0 : Nat) : Int) = (fill : Int) := by omega
                  rw [e1, e2, e3]
                  exact hB3
                · rw [List.length_append, HM.out, List.length_take, List.length_drop]; omega
                · rw [List.take_zero, List.drop_eq_nil_of_le]
                  rw [List.length_append, HM.out, List.length_take, List.length_drop]; omega
              case measure => simp only [lenV]; omega
            · obtain ⟨n, hn⟩ : ∃ n, Nat.min m (64 - fill) = n := ⟨_, rfl⟩
              have hn1 : n ≤ m := by rw [← hn]; exact Nat.min_le_left _ _
              have hn2 : n ≤ 64 - fill := by rw [← hn]; exact Nat.min_le_right _ _
              have hn0 : 0 < n := by rw [← hn]; exact Nat.lt_min.2 ⟨hm0, by omega⟩
              obtain ⟨xs, Hxs⟩ : ∃ xs, Hid (xs = (part.drop k).take n) := ⟨_, rfl⟩
              have hxl : xs.length = n := by rw [Hxs.out, List.length_take, List.length_drop]; have := Hm.out; omega
              have Hn := Lib.hid hn
              have f73 := hB.frozen 73
              have hcx : ∀ j v, (cellsOf xs)[j]? = some v → wc.cell? ((⟨ga, oa + k, none⟩ : Addr).add j) = some v := by
                intro j v hv
                have hj : j < n := by rw [← hxl]; simpa using (List.getElem?_eq_some_iff.1 hv).1
                have hkj : k + j < part.length := by have := Hm.out; omega
                rw [Addr.add_mid, Nat.add_assoc, hO.cell (p := ⟨ga, oa + (k + j), none⟩) hgas (by simpa using hgah), Hc.out (k + j) hkj, ← hv, cellsOf_getD (by omega), Hxs.out]
                simp [hj]
              have Hcx := Lib.hid hcx
              have hlen : (hcells (Bl.stq nk (M ++ part.take k) q) blk (fill : Int) ((64 * q : Nat) : Int) ((written + part.length : Nat) : Int)).length = 76 := hcells_length hst.1 Hl.out
              have Hlen := Lib.hid hlen
              have hfI : (fill : Int) ≤ 64 := by omega
              have hfne : ¬ 64 = fill := by omega
              clear hn hcx hlen
              rcases (show (((fill : Int) == 0) = true ∧ (m : Int) ≤ 64) ∨ ((fill : Int) == 0) = false by
                by_cases h0 : fill = 0
                · exact .inl ⟨beq_iff_eq.2 (by omega), by omega⟩
                · exact .inr (beq_eq_false_iff_ne.2 (by omega))) with ⟨hb0, hm64⟩ | hb0
              all_goals
                go_wp2
                go_still_tail 9, (by kernel_rfl)
                refine wpl_copy rfl (.tmp 84) (.tmp 85) _ _ rfl 5 Tryd.underlying22 u8size _ _ _ _ _ _ rfl rfl gh (9 + fill) _ _ hB.drew (cellsOf xs) (by rw [cellsOf_length, hxl]; exact Hn.out.symm) (fun _ => ⟨rfl, _, rfl, Hcx.out⟩) (by rw [Hlen.out, cellsOf_length, hxl]; omega) cellsOf_one ?_
                intro W3 hB3 hO3
                rw [splice_hcells hst.1 Hl.out (by omega)] at hB3
                have hl3 : (splice blk fill xs).length = 64 := by rw [splice_length (by rw [Hl.out]; omega), Hl.out]
                rw [cellsOf_length, hxl]
                have c73' : W3.cell? ⟨gh, 73, none⟩ = some (.int .i64 (fill : Int)) := hB3.cellv (hcells_tail hst.1 hl3 0)
                have f73' := hB3.frozen 73
                have Hl3 := Lib.hid hl3
                have Hxl := Lib.hid hxl
                clear hl3 hxl
                go_wp2
                go_roundw
                case rel =>
                  exact ⟨k + n, abs_copy hB3 (hO.trans' (Only.undrew (w := wc) hO3)) hst.1 Hl.out HM.out Ht.out Hm.out Hd.out Hxs.out Hxl.out hn1 hn2 hn0 hmd hc hk hf64⟩
                case measure => simp only [lenV]; omega
        · go_wp2
          obtain rfl : k = part.length := by omega
          refine ⟨⟨1, by omega, rfl, ⟨(fun h => by cases h), fun _ => ⟨⟨fill, q, ?_, fun h' => ?_⟩, hO⟩⟩⟩, by decide⟩
          · rw [List.take_length] at hB hM ht
            exact ⟨blk, hB, hl, hM, hf, ht⟩
          · rw [List.take_length] at hz
            rcases Nat.eq_zero_or_pos fill with h0 | h0
            · exact absurd (hz h0 h') (Nat.lt_irrefl _)
            · exact h0
    · obtain rfl : k = 1 := by omega
      obtain ⟨hS', hO'⟩ := hrel.2 rfl
      go_wp2
      go_end0
      exact ⟨rfl, hS', hO'⟩
end Go.Proofs.YtglbgocldenooaaDoor
