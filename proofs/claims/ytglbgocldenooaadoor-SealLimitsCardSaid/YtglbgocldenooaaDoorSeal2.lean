/-
  THE WALK of seal.Stream.
-/
import Derived.Test.YtglbgocldenooaaDoorSeal1
import Derived.Test.YtglbgocldenooaaDoorLawCopies
namespace Go.Proofs.YtglbgocldenooaaDoor
open Go.RowKit

theorem be8_cell (q j : Nat) (hj : j < 8) : (Sl.be8 q).getD j 0 = UInt8.ofNat (q / 2 ^ (56 - 8 * j)) := by simp [Sl.be8, hj]
theorem be8_set {nonce : List UInt8} {tl : List Value} (hn : nonce.length = 16) (htl : tl.length = 8) (q j : Nat) (hj : j < 8) :
    (cellsOf (nonce ++ (Sl.be8 q).take j) ++ tl.drop j).set (16 + j) (B8 ((Sl.be8 q).getD j 0)) = cellsOf (nonce ++ (Sl.be8 q).take (j + 1)) ++ tl.drop (j + 1) := by
  have hl : (cellsOf (nonce ++ (Sl.be8 q).take j)).length = 16 + j := by simp [hn]; omega
  rw [List.set_append_right _ _ (by omega), hl, Nat.sub_self]
  have hd : tl.drop j = tl[j] :: tl.drop (j + 1) := List.drop_eq_getElem_cons (by omega)
  have hb : j < (Sl.be8 q).length := by simp; omega
  rw [hd, List.set_cons_zero, List.take_succ_eq_append_getElem hb, ← List.append_assoc, cellsOf_append (nonce ++ (Sl.be8 q).take j)]
  simp [cellsOf, List.getElem?_eq_getElem hb]

set_option maxHeartbeats 4000000 in
set_option maxRecDepth 100000 in
theorem stream_any (w : World) (A B : Option Addr) (ca cb : Nat) (key nonce : List UInt8) (n : Nat) (hk : key.length = 32) (hn : nonce.length = 16) (hnn : (n : Int) ≤ 65504) (hca : 32 ≤ ca) (_hcb : 16 ≤ cb) (hA : RV w A (cellsOf key)) (hB : RV w B (cellsOf nonce)) (hgl : Gl w) :
    Calls Tryd.prog 29 #[.slice A 32 ca, .slice B 16 cb, .int .i64 (n : Int)] w fun e w' => ∃ g rest, e = .returned (.tuple #[.slice (some ⟨g, 0, none⟩) n n, .int .i64 0]) ∧ Blk w' g 5 (cellsOf (Sl.stream key nonce n) ++ rest) ∧ w.heap.size ≤ g ∧ Only [] w w' := by
  have Hk := Lib.hid hk
  have Hn := Lib.hid hn
  clear hk hn
  obtain ⟨gn, on, rfl, hgn, hcn⟩ := hB (by rw [cellsOf_length, Hn.out]; decide)
  have Hcn := Lib.hid hcn
  clear hcn
  go_enter Tryd.func29, Tryd.ntmps29
  go_upto_region 9 with (first
    | (go_at_call 26; refine (derive_any w A ca key _ Sl.streamL Hk.out rfl (by decide) (by decide) hca hA hgl).mono ?_
       rintro e w1 ⟨gd, rfl, hD1, hgd, hO1⟩)
    | (refine wpl_make rfl 22 _ _ rfl 5 (.int .u8 0) 1 Tryd.underlying22 info8 rfl .i64 .i64 24 24 24 24 rfl rfl rfl rfl (by decide) (by decide) (by decide) ?_
       intro w2 _ hI2 hO2
       have hD2 := hD1.keep hO2 (by simp)
       have hO2' := hO1.trans' hO2
       have hl1 := hD1.lt
       clear hD1)
    | (refine wpl_copy rfl (.tmp 41) (.tmp 42) _ _ rfl 5 Tryd.underlying22 u8size _ _ _ _ _ _ rfl rfl w1.heap.size 0 _ _ hI2 (cellsOf nonce) (by rw [cellsOf_length, Hn.out]; decide) (fun _ => ⟨rfl, _, rfl, ?hsrc⟩) (by rw [cellsOf_length, Hn.out]; decide) cellsOf_one ?_
       case hsrc =>
         intro j v hv
         rw [Addr.add_mid, hO2'.cell (p := ⟨gn, on + j, none⟩) hgn (by simp), Hcn.out j (List.getElem?_eq_some_iff.1 hv).1, hv]
       intro w3 hI3 hO3
       have hO3' := hO2'.trans hO3 (by have := hO1.size; simp; omega)
       have hD3 := hD2.keep hO3 (by simp; omega)
       have hs3 := hO3'.size
       have hl3 := hI3.lt
       clear hD2 hI2 hO2)
    | (refine wpl_make rfl 22 _ _ rfl 5 (.int .u8 0) 1 Tryd.underlying22 info8 rfl .i64 .i64 0 _ 0 (n + 32) rfl ?hc rfl rfl (by omega) (by omega) (by decide) ?_
       case hc => omega
       intro w4 hown4 hB4 hO4
       have hD4 := hD3.keep hO4 (by simp)
       have hI4 := hI3.keep hO4 (by simp)
       have hO4' := hO3'.trans' hO4
       clear hD3 hI3 hO4 hO3'))
  have hI5 : Blk w4 w1.heap.size 5 (cellsOf nonce ++ List.replicate 8 (Value.int .u8 0)) := by
    have e : splice (List.replicate 24 (Value.int .u8 0)) 0 (cellsOf nonce) = cellsOf nonce ++ List.replicate 8 (Value.int .u8 0) := by simp [splice, Hn.out]
    rw [e] at hI4
    exact hI4
  have hgo : w3.heap.size ≠ w1.heap.size := by omega
  have hgo2 : w3.heap.size ≠ gd := by omega
  have hwg : w.heap.size ≤ w1.heap.size := hO1.size
  have hgdi : gd ≠ w1.heap.size := by omega
  clear hI4 hB4
  revert hI5 hgo hwg hgdi
  generalize w1.heap.size = gi
  intro hI5 hgo hwg hgdi
  go_wp2
  go_loopw [11, 12, 13, 14, 15] (fun out i _ _ _ wr => ∃ (q x g co : Nat) (tl : List Value), out = .slice (some ⟨g, 0, none⟩) x co ∧ x = 32 * q ∧ i = .int .u64 (q : Int) ∧ OwnS wr 5 (some ⟨g, 0, none⟩) co (cellsOf (Sl.blocks (Bl.hash key Sl.streamL) nonce q)) (some g) ∧ g ≠ gi ∧ g ≠ gd ∧ w.heap.size ≤ g ∧ tl.length = 8 ∧ Blk wr gi 5 (cellsOf nonce ++ tl) ∧ Blk wr gd 24 (cellsOf (Bl.hash key Sl.streamL)) ∧ Only [] w wr ∧ (q = 0 ∨ 32 * q < n + 32)) (fun out _ _ _ _ _ => n + 32 - lenV out)
  case atStart => exact ⟨0, 0, w3.heap.size, n + 32, List.replicate 8 (Value.int .u8 0), rfl, rfl, rfl, hown4, hgo, hgo2, hs3, by simp, hI5, hD4, hO4', .inl rfl⟩
  case round =>
    clear hown4 hI5 hD4 hO4' hgo
    obtain ⟨q, x, g, co, tl, rfl, hx, rfl, hown, hgg, hggd, hgw, htl, hI, hD, hO, hq⟩ := hrel
    have hxb : x ≤ 65536 + 32 := by omega
    have hqb : q ≤ 2050 := by omega
    have Hx := Lib.hid hx
    have Htl := Lib.hid htl
    have Hq := Lib.hid hq
    have hlgi := hI.lt
    have hlgd := hD.lt
    by_cases hlt : x < n
    · have hltI : (x : Int) < (n : Int) := by omega
      clear hx htl hq
      obtain ⟨wo, rfl⟩ : ∃ wo : World, wo = wr := ⟨_, rfl⟩
      go_wp2
      go_loopw [53, 13] (fun c _ wr => ∃ j : Nat, j ≤ 8 ∧ c = .int .i64 (j : Int) ∧ Blk wr gi 5 (cellsOf (nonce ++ (Sl.be8 q).take j) ++ tl.drop j) ∧ Only [gi] wo wr) (fun c _ _ => 8 - (intOf c).toNat)
      case atStart => exact ⟨0, by omega, rfl, by simpa using hI, Only.refl _ _⟩
      case round =>
        obtain ⟨j, hj, rfl, hI', hOj⟩ := hrel
        by_cases hlj : j < 8
        · have cv : wr.cell? ⟨gi, 16 + j, none⟩ = some ((cellsOf (nonce ++ (Sl.be8 q).take j) ++ tl.drop j).getD (16 + j) undef) := by
            refine hI'.cellv ?_
            have hll : 16 + j < (cellsOf (nonce ++ (Sl.be8 q).take j) ++ tl.drop j).length := by simp [Hn.out, Htl.out]; omega
            rw [List.getD_eq_getElem?_getD, List.getElem?_eq_getElem hll]
            rfl
          have fz := hI'.frozen (16 + j)
          have hset := be8_set Hn.out Htl.out q j hlj
          have hcell := be8_cell q j hlj
          have hnew : ∀ v, v = B8 ((Sl.be8 q).getD j 0) → Blk (wr.setCell ⟨gi, 16 + j, none⟩ v) gi 5 (cellsOf (nonce ++ (Sl.be8 q).take (j + 1)) ++ tl.drop (j + 1)) := by
            rintro _ rfl
            rw [← hset]
            exact hI'.set (16 + j) _
          rw [hcell] at hnew
          revert cv
          generalize (cellsOf (nonce ++ (Sl.be8 q).take j) ++ tl.drop j).getD (16 + j) undef = v0
          intro cv
          have Hnew := Lib.hid hnew
          clear hset hcell hnew hI'
          rcases (show j = 0 ∨ j = 1 ∨ j = 2 ∨ j = 3 ∨ j = 4 ∨ j = 5 ∨ j = 6 ∨ j = 7 by omega) with rfl | rfl | rfl | rfl | rfl | rfl | rfl | rfl
          all_goals
            simp only [Nat.reduceAdd] at cv fz
            go_wp2
            go_roundw
            case rel =>
              refine ⟨_, ?_, ?_, Hnew.out _ ?_, hOj.setCell (p := ⟨gi, _, none⟩) (.inl (by simp)) _⟩
              · omega
              · rfl
              · first | (simp [B8]; done) | (simp [B8]; omega)
            case measure => simp [intOf]
        · obtain rfl : j = 8 := by omega
          clear hlj hj
          have hI8 : Blk wr gi 5 (cellsOf (nonce ++ Sl.be8 q)) := by
            have e1 : (Sl.be8 q).take 8 = Sl.be8 q := List.take_of_length_le (by simp)
            have e2 : tl.drop 8 = [] := List.drop_eq_nil_of_le (by rw [Htl.out]; exact Nat.le_refl _)
            rw [e1, e2, List.append_nil] at hI'
            exact hI'
          have hD8 := hD.keep hOj (by simpa using hgdi)
          have hown8 := hown.keep hOj (fun y hy => by injection hy with hy; subst hy; simpa using hgg)
          have hO8 : Only [] w wr := hO.trans hOj (by simp; omega)
          have hil : (nonce ++ Sl.be8 q).length = 24 := by simp [Hn.out]
          have Hil := Lib.hid hil
          have hbl : (Sl.blocks (Bl.hash key Sl.streamL) nonce q).length = x := by rw [Sl.blocks_length, Hx.out]
          have Hbl := Lib.hid hbl
          clear hil hbl hI' hD hown hO hI hOj
          go_wp2_with (first
            | (go_at_call 19; refine (keyed_at wr _ 32 32 (Bl.hash key Sl.streamL) (by simp) (by simp) (by simp) (by simp) hD8.rv.rb _ 24 24 (nonce ++ Sl.be8 q) Hil.out.symm (by rw [Hil.out]; decide) hI8.rv.rb (by rw [Hil.out]; decide) (hgl.keep hO8 (by simp) (by simp))).mono ?_
               rintro e w5 ⟨rfl, hO5⟩
               have hP5 := hO8.trans' hO5
               have hD5 := hD8.keep hO5 (by simp)
               have hI5 := hI8.keep hO5 (by simp)
               have hown5 := hown8.keep hO5 (by simp)
               clear hO5)
            | (refine wpl_put32 rfl (.tmp 14) (.tmp 71) rfl w5.heap.size (Sl.block (Bl.hash key Sl.streamL) nonce q) rfl rfl (List.replicate 32 (Value.int .u8 0)) ?hb rfl (by simp [Sl.block]) ?_
               case hb => exact Blk.new' w5 rfl
               intro w6 hB6 hO6
               have hP6 := (hP5.alloc _).trans hO6 (by have := hP5.size; simp; omega)
               have hD6 := (hD5.alloc _).keep hO6 (by have := hD5.lt; simp; omega)
               have hI6 := (hI5.alloc _).keep hO6 (by have := hI5.lt; simp; omega)
               have hown6 := (hown5.keep ((Only.refl [] w5).alloc _) (by simp)).keep hO6 (fun y hy => by have := hown5.lt y hy; simp; omega)
               clear hO6 hD5 hI5 hown5)
            | (at_builtin; refine wpl_app8 rfl (.tmp 76) (.tmp 77) rfl (some ⟨g, 0, none⟩) x co _ (some g) rfl Hbl.out.symm hown6 (some ⟨w5.heap.size, 0, none⟩) 32 32 (Sl.block (Bl.hash key Sl.streamL) nonce q) rfl (by simp [Sl.block]) hB6.rv (by rw [Hbl.out]; simp [Sl.block]; omega) ?_
               intro A7 c7 w7 G7 hown7 hG7
               have hO7 := only_app hG7))
          obtain ⟨g7, r7, rfl, rfl, hB7⟩ := hown7.blk (by rw [cellsOf_length, List.length_append]; simp [Sl.block])
          have hg7 : g7 ≠ gi ∧ g7 ≠ gd ∧ w.heap.size ≤ g7 := by
            rcases hG7 with ⟨e1, _⟩ | ⟨e1, _⟩
            · injection e1 with e1
              subst e1
              exact ⟨hgg, hggd, hgw⟩
            · injection e1 with e1
              have := hI6.lt
              have := hD6.lt
              have := hP6.size
              omega
          have hD7 := hD6.keep hO7 (by simp; exact fun he => hggd he.symm)
          have hI7 := hI6.keep hO7 (by simp; exact fun he => hgg he.symm)
          have hP7 := hP6.trans hO7 (by simp; omega)
          have hx32 : x + 32 = 32 * (q + 1) := by rw [Hx.out]; omega
          have hq' : 32 * (q + 1) < n + 32 := by rw [← hx32]; omega
          have Hx32 := Lib.hid hx32
          clear hx32 hown6 hI6 hD6 hP6 hG7 hO7 hB6 hown8 hI8 hD8 hO8
          go_wp2
          refine ⟨⟨q + 1, x + 32, g7, c7, cellsOf (Sl.be8 q), rfl, Hx32.out, by go_num, hown7, hg7.1, hg7.2.1, hg7.2.2, by simp, by rw [← cellsOf_append]; exact hI7, hD7, hP7, .inr hq'⟩, by simp only [lenV]; omega⟩
    · have hltI : (n : Int) ≤ (x : Int) := by omega
      have hbl : (Sl.blocks (Bl.hash key Sl.streamL) nonce q).length = x := by rw [Sl.blocks_length, hx]
      have hco : x ≤ co := by rw [← hbl]; simpa using hown.le
      have hcoI : (n : Int) ≤ (co : Int) := by omega
      have hqq : q = (n + 31) / 32 := by omega
      have hBg : ∃ r, Blk wr g 5 (cellsOf (Sl.blocks (Bl.hash key Sl.streamL) nonce q) ++ r) := by
        rcases hown with h | ⟨g', r, e1, _, h3, _⟩
        · cases h.1
        · injection e1 with e1
          injection e1 with e1
          subst e1
          exact ⟨r, h3⟩
      obtain ⟨r, hBg⟩ := hBg
      have Hqq := Lib.hid hqq
      clear hx htl hq hqq hown hbl
      go_wp2
      go_ret2
      refine ⟨g, cellsOf ((Sl.blocks (Bl.hash key Sl.streamL) nonce q).drop n) ++ r, rfl, ?_, hgw, hO⟩
      rw [Sl.stream, ← Hqq.out, ← List.append_assoc, ← cellsOf_append, List.take_append_drop]
      exact hBg
end Go.Proofs.YtglbgocldenooaaDoor
