/-
  THE WALK of the law SealChanged.
-/
import Derived.Test.YtglbgocldenooaaDoorSealKn
namespace Go.Proofs.YtglbgocldenooaaDoor
open Go.RowKit

theorem New.empty (w : World) {G : Option Nat} (h : G = some w.heap.size ∨ G = some (w.alloc (.cells #[] 5)).heap.size) : New w G := by
  have h0 : New w (some w.heap.size) := fun g hg => by injection hg with hg; omega
  exact h0.next (by simp) h

theorem wf_i64 {n : Int} (h : (Lit.int .i64 n).wf = true) : -9223372036854775808 ≤ n ∧ n ≤ 9223372036854775807 := by
  simp [Lit.wf, IntKind.min, IntKind.max, IntKind.signed, IntKind.bits] at h
  omega

theorem pair_open (w : World) (A B : Option Addr) (ca n cb : Nat) (key b : List UInt8) (hn : n = b.length) (hk : key.length = 32) (hca : 32 ≤ ca) (hcb : n ≤ cb) (hA : RV w A (cellsOf key)) (hB : RV w B (cellsOf b)) (hgl : Gl w) :
    ∃ (bs : List UInt8) (er : Nat), Hid (∀ w1, Only [] w w1 → Calls Tryd.prog 33 #[.slice A 32 ca, .slice B n cb] w1 (RetE w1 bs er)) ∧ Hid (∀ w1, Only [] w w1 → Calls Tryd.prog 34 #[.slice A 32 ca, .slice B n cb] w1 (RetE w1 bs er)) :=
  ⟨_, _, fun w1 h => open_any w1 A B ca n cb key b hn hk hca hcb (hA.keep0 h) (hB.keep0 h) (hgl.keep h (by simp) (by simp)), fun w1 h => refOpen_any w1 A B ca n cb key b hn hk hca hcb (hA.keep0 h) (hB.keep0 h)⟩

theorem newBlk_of {w0 w : World} {A : Option Addr} {c : Nat} {xs : List UInt8} {G : Option Nat} (h : OwnS w 5 A c (cellsOf xs) G) (hn : New w0 G) (hl : xs ≠ []) : ∃ g r, A = some ⟨g, 0, none⟩ ∧ G = some g ∧ w0.heap.size ≤ g ∧ xs.length ≤ c ∧ Blk w g 5 (cellsOf xs ++ r) := by
  have hle := h.le
  obtain ⟨g, r, hA, hG, hB⟩ := h.blk (by rw [cellsOf_length]; cases xs with | nil => exact absurd rfl hl | cons => simp)
  exact ⟨g, r, hA, hG, hn g hG, by simpa using hle, hB⟩
theorem Blk.getc {w : World} {g q : Nat} {xs : List UInt8} {r : List Value} (h : Blk w g 5 (cellsOf xs ++ r)) (hq : q < xs.length) : w.cell? ⟨g, q, none⟩ = some (.int .u8 ((xs.getD q 0).toNat : Int)) := by
  refine h.cellv ?_
  rw [List.getElem?_append_left (by simpa using hq), cellsOf_getD hq]
theorem Blk.setc {w : World} {g q : Nat} {xs : List UInt8} {r : List Value} (h : Blk w g 5 (cellsOf xs ++ r)) (hq : q < xs.length) (v : UInt8) : Blk (w.setCell ⟨g, q, none⟩ (.int .u8 (v.toNat : Int))) g 5 (cellsOf (xs.set q v) ++ r) := by
  have h' := h.set q (.int .u8 (v.toNat : Int))
  rw [List.set_append_left _ _ (by simpa using hq), cellsOf, ← List.map_set] at h'
  exact h'
theorem Blk.rvc {w : World} {g : Nat} {xs : List UInt8} {r : List Value} (h : Blk w g 5 (cellsOf xs ++ r)) : RV w (some ⟨g, 0, none⟩) (cellsOf xs) := fun _ => ⟨g, 0, rfl, h.lt, fun j hj => by rw [Nat.zero_add, h.cell, List.getElem?_append_left hj]⟩

set_option maxHeartbeats 4000000 in
set_option maxRecDepth 100000 in
theorem sealChanged_in (w : World) (A B C : Option Addr) (na ca nb cb cc : Nat) (k n plain : List UInt8) (t l : Nat) (y : UInt8) (hna : na = k.length) (hnb : nb = n.length) (hma : na ≤ 9223372036854775807) (hmb : nb ≤ 9223372036854775807) (h1 : (plain.length : Int) ≤ 100) (hcc : plain.length ≤ cc)
    (ht : (t : Int) ≤ 9223372036854775807) (hl : (l : Int) ≤ 9223372036854775807)
    (hA : RV w A (cellsOf k)) (hB : RV w B (cellsOf n)) (hC : RV w C (cellsOf plain)) (hgl : Gl w) :
    Calls Tryd.prog 13 #[.slice A na ca, .slice B nb cb, .slice C plain.length cc, .int .i64 (t : Int), .int .u8 (y.toNat : Int), .int .i64 (l : Int)] w fun e w' => e = .returned (.bool true) ∧ Only [] w w' := by
  obtain ⟨K, hK⟩ : ∃ K, K = kp k := ⟨_, rfl⟩
  obtain ⟨M, hM⟩ : ∃ M, M = np n := ⟨_, rfl⟩
  have hKl : K.length = 32 := by rw [hK]; simp
  have hMl : M.length = 16 := by rw [hM]; simp
  have Hna := Lib.hid hna
  have Hnb := Lib.hid hnb
  have HK := Lib.hid hK
  have HM := Lib.hid hM
  have HKl := Lib.hid hKl
  have HMl := Lib.hid hMl
  have h1' : (plain.length : Int) ≤ 65504 := by omega
  clear hna hnb hK hM hKl hMl
  go_enter Tryd.func13, Tryd.ntmps13
  go_wp2_with fail
  refine (key_any w A na ca k Hna.out hma hA).mono ?_
  rintro e w1 ⟨rfl, hK1, hO1⟩
  generalize hgk : w.heap.size = gk at hK1 ⊢
  rw [← HK.out] at hK1
  go_wp2_with fail
  refine (nonce_any w1 B nb cb n Hnb.out hmb (hB.keep0 hO1)).mono ?_
  rintro e w2 ⟨rfl, hN2, hO2⟩
  generalize hgn : w1.heap.size = gn at hN2 ⊢
  rw [← HM.out] at hN2
  have hP2 := hO1.trans' hO2
  have hRk2 : RV w2 (some ⟨gk, 0, none⟩) (cellsOf K) := hK1.rv.keep0 hO2
  clear hgk hgn hK1
  go_wp2_with fail
  refine (sealB_any w2 _ _ C 32 32 cc K M plain HKl.out HMl.out h1' (by decide) (by decide) hcc hRk2 hN2 (hC.keep0 hP2) (hgl.keep hP2 (by simp) (by simp))).mono ?_
  rintro e w3 ⟨A3, c3, G3, rfl, hown3, hnew3, hO3⟩
  have hP3 := hP2.trans' hO3
  have hRk3 := hRk2.keep0 hO3
  have hS3 := hown3.reads
  obtain ⟨s, hs⟩ : ∃ s, s = Sl.sealB K M plain := ⟨_, rfl⟩
  rw [← hs] at hS3 hown3
  have hsl : plain.length + 32 = s.length := by rw [hs, Sl.sealB_length _ _ _ HMl.out]
  obtain ⟨L, hL⟩ : ∃ L, L = plain.length + 32 := ⟨_, rfl⟩
  have hLI : (plain.length : Int) + 32 = (L : Int) := by omega
  have hc3 : L ≤ c3 := by have := hown3.le; rw [cellsOf_length] at this; omega
  rw [← hL]
  have HsL := Lib.hid (show L = s.length by omega)
  have hL1 : 32 ≤ L := by omega
  have hL2 : L ≤ 132 := by omega
  clear hs hL hsl hN2 hRk2 hown3
  have hsn : s ≠ [] := fun h => by have := HsL.out; rw [h] at this; simp at this; omega
  have hKn : K ≠ [] := fun h => by have := HKl.out; rw [h] at this; simp at this
  obtain ⟨q, hq⟩ : ∃ q, q = t % L := ⟨_, rfl⟩
  have hqL : q < L := by rw [hq]; exact Nat.mod_lt _ (by omega)
  have hqI : (t : Int) % (L : Int) = (q : Int) := by rw [hq]; simp
  obtain ⟨p, hp⟩ : ∃ p, p = t % 32 := ⟨_, rfl⟩
  have hp32 : p < 32 := by rw [hp]; exact Nat.mod_lt _ (by omega)
  have hpI : (t : Int) % 32 = (p : Int) := by rw [hp]; simp
  obtain ⟨x, hx⟩ : ∃ x : UInt8, x = s.getD q 0 := ⟨_, rfl⟩
  obtain ⟨x2, hx2⟩ : ∃ x : UInt8, x = K.getD p 0 := ⟨_, rfl⟩
  have ex : ((x.toNat : Int) + (y.toNat : Int)) % 256 = ((x + y).toNat : Int) := by simp
  obtain ⟨z, hz⟩ : ∃ z : UInt8, z = x + y := ⟨_, rfl⟩
  rw [← hz] at ex
  have ex2 := u8_xor_val x2 y
  obtain ⟨z2, hz2⟩ : ∃ z : UInt8, z = x2 ^^^ y := ⟨_, rfl⟩
  rw [← hz2] at ex2
  have Hx := Lib.hid hx
  have Hx2 := Lib.hid hx2
  clear hq hp hx hx2 hz hz2
  go_wp2_with (first
    | (at_builtin
       refine wpl_append8 rfl (.tmp 58) (.tmp 59) rfl (some ⟨w3.heap.size, 0, none⟩) 0 0 [] (some w3.heap.size) rfl rfl (ownS_empty w3 _) A3 L c3 s rfl HsL.out (hS3.keep0 ((Only.refl [] w3).alloc _)) (by rw [← HsL.out]; simp; omega) ?_
       intro A4 c4 w4 G4 hown4 hO4 hG4
       have hQ4 : Only [] w3 w4 := ((Only.refl [] w3).alloc _).trans hO4 (by simp)
       rw [List.nil_append] at hown4
       obtain ⟨g4, r4, rfl, rfl, hg4, hc4, hB4⟩ := newBlk_of hown4 (New.empty w3 hG4) hsn
       rw [← HsL.out] at hc4
       have cx := hB4.getc (q := q) (by rw [← HsL.out]; exact hqL)
       rw [← Hx.out] at cx
       have fx := hB4.frozen q
       have hB5 := hB4.setc (q := q) (by rw [← HsL.out]; exact hqL) z
       have hO5 : Only [g4] w4 (w4.setCell ⟨g4, q, none⟩ (.int .u8 (z.toNat : Int))) := (Only.refl _ _).setCell (p := ⟨g4, q, none⟩) (.inl (by simp)) _
       clear hown4 hO4 hG4 hB4)
    | (at_builtin
       have hz5 : (w4.setCell ⟨g4, q, none⟩ (.int .u8 (z.toNat : Int))).heap.size = w4.heap.size := by simp
       revert hB5 hO5 hz5
       generalize World.setCell _ _ _ = w5
       intro hB5 hO5 hz5
       simp only [← hz5]
       have hQ5 : Only [] w3 w5 := hQ4.trans hO5 (by simp; omega)
       have hS5 := hS3.keep0 hQ5
       have hRk5 := hRk3.keep0 hQ5
       refine wpl_append8 rfl (.tmp 71) (.tmp 72) rfl (some ⟨w5.heap.size, 0, none⟩) 0 0 [] (some w5.heap.size) rfl rfl (ownS_empty w5 _) A3 L c3 s rfl HsL.out (hS5.keep0 ((Only.refl [] w5).alloc _)) (by rw [← HsL.out]; simp; omega) ?_
       intro A6 c6 w6 G6 hown6 hO6 hG6
       have hQ6 : Only [] w5 w6 := ((Only.refl [] w5).alloc _).trans hO6 (by simp)
       rw [List.nil_append] at hown6
       have hn6 := New.empty w5 hG6
       clear hO6 hG6 cx fx)
    | (at_builtin
       refine wpl_app8 rfl (.tmp 73) (.tmp 75) rfl A6 L c6 s G6 rfl HsL.out (hown6.keep ((Only.refl [] w6).alloc _) (by simp)) (some ⟨w6.heap.size, 0, none⟩) 1 1 [y] rfl rfl (RV.new rfl) (by rw [← HsL.out, List.length_singleton]; omega) ?_
       intro A7 c7 w7 G7 hown7 hG7
       have hQ7 : Only [] w5 w7 := (hQ6.alloc _).trans (only_app hG7) hn6.out
       have hR7 := hown7.reads
       have hc7 : L + 1 ≤ c7 := by have := hown7.le; rw [cellsOf_length, List.length_append, ← HsL.out] at this; simpa using this
       clear hown7 hG7 hown6)
    | (at_builtin
       refine wpl_append8 rfl (.tmp 77) (.tmp 78) rfl (some ⟨w7.heap.size, 0, none⟩) 0 0 [] (some w7.heap.size) rfl rfl (ownS_empty w7 _) (some ⟨gk, 0, none⟩) 32 32 K rfl HKl.out.symm ((hRk5.keep0 hQ7).keep0 ((Only.refl [] w7).alloc _)) (by rw [HKl.out]; decide) ?_
       intro A8 c8 w8 G8 hown8 hO8 hG8
       have hQ8 : Only [] w7 w8 := ((Only.refl [] w7).alloc _).trans hO8 (by simp)
       rw [List.nil_append] at hown8
       obtain ⟨g8, r8, rfl, rfl, hg8, hc8, hB8⟩ := newBlk_of hown8 (New.empty w7 hG8) hKn
       rw [HKl.out] at hc8
       have cx := hB8.getc (q := p) (by rw [HKl.out]; exact hp32)
       rw [← Hx2.out] at cx
       have fx := hB8.frozen p
       have hB9 := hB8.setc (q := p) (by rw [HKl.out]; exact hp32) z2
       have hO9 : Only [g8] w8 (w8.setCell ⟨g8, p, none⟩ (.int .u8 (z2.toNat : Int))) := (Only.refl _ _).setCell (p := ⟨g8, p, none⟩) (.inl (by simp)) _
       clear hown8 hO8 hG8 hB8))
  revert hB9 hO9
  generalize World.setCell _ _ _ = w9
  intro hB9 hO9
  have hQ9 : Only [] w5 w9 := (hQ7.trans' hQ8).trans hO9 (by have := hQ7.size; simp; omega)
  have hP9 : Only [] w w9 := (hP3.trans' hQ5).trans' hQ9
  have hR4 := hB5.rvc.keep0 hQ9
  have hR3 := hS5.keep0 hQ9
  have hR8 := hB9.rvc
  have hRk9 := hRk5.keep0 hQ9
  have hR7' : RV w9 A7 (cellsOf (s ++ [y])) := hR7.keep0 (hQ8.trans hO9 (by simp; omega))
  have hgl9 := hgl.keep hP9 (by simp) (by simp)
  obtain ⟨m, hm⟩ : ∃ m, m = l % (L + 1) := ⟨_, rfl⟩
  have hmL : m ≤ L := by rw [hm]; have := Nat.mod_lt l (show 0 < L + 1 by omega); omega
  have hmI : (l : Int) % ((L : Int) + 1) = (m : Int) := by rw [hm]; simp
  clear hm
  have hRm : RV w9 A3 (cellsOf (s.take m)) := by
    intro hne
    obtain ⟨g, o, e, hg, hc⟩ := hR3 (by rw [cellsOf_length, ← HsL.out]; omega)
    refine ⟨g, o, e, hg, fun j hj => ?_⟩
    have hj' : j < m := by rw [cellsOf_length, List.length_take] at hj; omega
    rw [hc j (by rw [cellsOf_length, ← HsL.out]; omega), cellsOf, cellsOf, List.map_take, List.getElem?_take_of_lt hj']
  obtain ⟨bs0, er0, oA0, oB0⟩ := pair_open w9 (some ⟨gk, 0, none⟩) (some ⟨g4, 0, none⟩) 32 L c4 K (s.set q z) (by rw [List.length_set]; exact HsL.out) HKl.out (by decide) hc4 hRk9 hR4 hgl9
  obtain ⟨bs1, er1, oA1, oB1⟩ := pair_open w9 (some ⟨gk, 0, none⟩) A3 32 m c3 K (s.take m) (by rw [List.length_take, ← HsL.out]; omega) HKl.out (by decide) (Nat.le_trans hmL hc3) hRk9 hRm hgl9
  obtain ⟨bs2, er2, oA2, oB2⟩ := pair_open w9 (some ⟨gk, 0, none⟩) A7 32 (L + 1) c7 K (s ++ [y]) (by rw [List.length_append, ← HsL.out]; rfl) HKl.out (by decide) hc7 hRk9 hR7' hgl9
  obtain ⟨bs3, er3, oA3, oB3⟩ := pair_open w9 (some ⟨g8, 0, none⟩) A3 c8 L c3 (K.set p z2) s HsL.out (by rw [List.length_set]; exact HKl.out) hc8 hc3 hR8 hR3 hgl9
  have hc3I : (m : Int) ≤ (c3 : Int) := by omega
  clear hpI hqI hqL hp32
  clear hR4 hR3 hR8 hRk9 hR7' hRm hB9 hO9 cx fx ex ex2 hR7 hB5 hO5 hS5 hS3 hRk3 hRk5
  go_loopw [19, 20, 21, 22, 23, 24, 25] (fun i _ _ _ _ _ _ wr => ∃ j : Nat, j ≤ 4 ∧ i = .int .i64 (j : Int) ∧ Only [] w9 wr) (fun i _ _ _ _ _ _ _ => 4 - (intOf i).toNat)
  case atStart => exact ⟨0, by omega, rfl, Only.refl _ _⟩
  case round =>
    obtain ⟨j, hj, rfl, hOr⟩ := hrel
    have hj5 : j = 0 ∨ j = 1 ∨ j = 2 ∨ j = 3 ∨ j = 4 := by omega
    clear hj
    rcases hj5 with rfl | rfl | rfl | rfl | rfl
    · skip
      go_wp2_with (first
        | (go_at_call 33; refine (oA0.out _ (hOr.alloc _)).mono ?_; rintro e w1r ⟨A1, c1, rfl, hc1, hR1, hA1, hO1r⟩)
        | (go_at_call 34; refine (oB0.out _ ((hOr.alloc _).trans' hO1r)).mono ?_; rintro e w2r ⟨A2, c2, rfl, hc2, hR2, hA2, hO2r⟩; have hR1' := hR1.keep0 hO2r)
        | (refine wpl_wanted (by rfl) ?_; refine wpl_str rfl 22 9 5 (.tmp 126) rfl Tryd.underlying22 Tryd.underlying5 Tryd.underlying9 A1 _ c1 _ rfl rfl hR1' ?_)
        | (refine wpl_wanted (by rfl) ?_; refine wpl_str rfl 22 9 5 (.tmp 128) rfl Tryd.underlying22 Tryd.underlying5 Tryd.underlying9 A2 _ c2 _ rfl rfl hR2 ?_))
      go_roundw
      case rel => exact ⟨1, by decide, rfl, ((hOr.alloc _).trans' hO1r).trans' hO2r⟩
      case measure => simp [intOf]
    · skip
      go_wp2_with (first
        | (go_at_call 33; refine (oA1.out _ (hOr.alloc _)).mono ?_; rintro e w1r ⟨A1, c1, rfl, hc1, hR1, hA1, hO1r⟩)
        | (go_at_call 34; refine (oB1.out _ ((hOr.alloc _).trans' hO1r)).mono ?_; rintro e w2r ⟨A2, c2, rfl, hc2, hR2, hA2, hO2r⟩; have hR1' := hR1.keep0 hO2r)
        | (refine wpl_wanted (by rfl) ?_; refine wpl_str rfl 22 9 5 (.tmp 126) rfl Tryd.underlying22 Tryd.underlying5 Tryd.underlying9 A1 _ c1 _ rfl rfl hR1' ?_)
        | (refine wpl_wanted (by rfl) ?_; refine wpl_str rfl 22 9 5 (.tmp 128) rfl Tryd.underlying22 Tryd.underlying5 Tryd.underlying9 A2 _ c2 _ rfl rfl hR2 ?_))
      go_roundw
      case rel => exact ⟨2, by decide, rfl, ((hOr.alloc _).trans' hO1r).trans' hO2r⟩
      case measure => simp [intOf]
    · skip
      go_wp2_with (first
        | (go_at_call 33; refine (oA2.out _ (hOr.alloc _)).mono ?_; rintro e w1r ⟨A1, c1, rfl, hc1, hR1, hA1, hO1r⟩)
        | (go_at_call 34; refine (oB2.out _ ((hOr.alloc _).trans' hO1r)).mono ?_; rintro e w2r ⟨A2, c2, rfl, hc2, hR2, hA2, hO2r⟩; have hR1' := hR1.keep0 hO2r)
        | (refine wpl_wanted (by rfl) ?_; refine wpl_str rfl 22 9 5 (.tmp 126) rfl Tryd.underlying22 Tryd.underlying5 Tryd.underlying9 A1 _ c1 _ rfl rfl hR1' ?_)
        | (refine wpl_wanted (by rfl) ?_; refine wpl_str rfl 22 9 5 (.tmp 128) rfl Tryd.underlying22 Tryd.underlying5 Tryd.underlying9 A2 _ c2 _ rfl rfl hR2 ?_))
      go_roundw
      case rel => exact ⟨3, by decide, rfl, ((hOr.alloc _).trans' hO1r).trans' hO2r⟩
      case measure => simp [intOf]
    · skip
      go_wp2_with (first
        | (go_at_call 33; refine (oA3.out _ (hOr.alloc _)).mono ?_; rintro e w1r ⟨A1, c1, rfl, hc1, hR1, hA1, hO1r⟩)
        | (go_at_call 34; refine (oB3.out _ ((hOr.alloc _).trans' hO1r)).mono ?_; rintro e w2r ⟨A2, c2, rfl, hc2, hR2, hA2, hO2r⟩; have hR1' := hR1.keep0 hO2r)
        | (refine wpl_wanted (by rfl) ?_; refine wpl_str rfl 22 9 5 (.tmp 126) rfl Tryd.underlying22 Tryd.underlying5 Tryd.underlying9 A1 _ c1 _ rfl rfl hR1' ?_)
        | (refine wpl_wanted (by rfl) ?_; refine wpl_str rfl 22 9 5 (.tmp 128) rfl Tryd.underlying22 Tryd.underlying5 Tryd.underlying9 A2 _ c2 _ rfl rfl hR2 ?_))
      go_roundw
      case rel => exact ⟨4, by decide, rfl, ((hOr.alloc _).trans' hO1r).trans' hO2r⟩
      case measure => simp [intOf]
    · go_wp2_with (go_at_call 25; refine (known5 wr (hgl.keep (hP9.trans' hOr) (by simp) (by simp))).mono ?_; rintro e W2 ⟨rfl, hO9⟩)
      go_ret
      exact ⟨rfl, (hP9.trans' hOr).trans' hO9⟩

set_option maxHeartbeats 1000000 in
theorem sealChanged_any (w : World) (A B C : Option Addr) (na ca nb cb nc cc : Nat) (k n plain : List UInt8) (at_ : Int) (y : UInt8) (left : Int) (hna : na = k.length) (hnb : nb = n.length) (hnc : nc = plain.length) (hma : na ≤ 9223372036854775807) (hmb : nb ≤ 9223372036854775807) (hcc : nc ≤ cc)
    (ht : at_ ≤ 9223372036854775807) (hl : left ≤ 9223372036854775807)
    (hA : RV w A (cellsOf k)) (hB : RV w B (cellsOf n)) (hC : RV w C (cellsOf plain)) (hgl : Gl w) :
    Calls Tryd.prog 13 #[.slice A na ca, .slice B nb cb, .slice C nc cc, .int .i64 at_, .int .u8 (y.toNat : Int), .int .i64 left] w fun e w' => e = .returned (.bool true) ∧ Only [] w w' := by
  by_cases g1 : 100 < nc
  · have k1 : (100 : Int) < (nc : Int) := by omega
    clear hna hnb hnc
    go_enter Tryd.func13, Tryd.ntmps13
    go_wp2_with (go_at_call 25; refine (known5 w hgl).mono ?_; rintro e W1 ⟨rfl, hO1⟩)
    go_ret
    exact ⟨rfl, hO1⟩
  have k1 : (nc : Int) ≤ 100 := by omega
  by_cases g2 : at_ < 0
  · clear hna hnb hnc
    go_enter Tryd.func13, Tryd.ntmps13
    go_wp2_with (go_at_call 25; refine (known5 w hgl).mono ?_; rintro e W1 ⟨rfl, hO1⟩)
    go_ret
    exact ⟨rfl, hO1⟩
  have k2 : 0 ≤ at_ := by omega
  by_cases g3 : left < 0
  · clear hna hnb hnc
    go_enter Tryd.func13, Tryd.ntmps13
    go_wp2_with (go_at_call 25; refine (known5 w hgl).mono ?_; rintro e W1 ⟨rfl, hO1⟩)
    go_ret
    exact ⟨rfl, hO1⟩
  obtain ⟨t, rfl⟩ : ∃ t : Nat, at_ = (t : Int) := ⟨at_.toNat, by omega⟩
  obtain ⟨l, rfl⟩ : ∃ t : Nat, left = (t : Int) := ⟨left.toNat, by omega⟩
  subst hnc
  exact sealChanged_in w A B C na ca nb cb cc k n plain t l y hna hnb hma hmb k1 hcc ht hl hA hB hC hgl
end Go.Proofs.YtglbgocldenooaaDoor
