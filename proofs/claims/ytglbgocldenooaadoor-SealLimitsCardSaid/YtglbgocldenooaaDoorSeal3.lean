/-
  THE WALKS of seal.mask, seal.Seal and seal.Open.
-/
import Derived.Test.YtglbgocldenooaaDoorSeal2
namespace Go.Proofs.YtglbgocldenooaaDoor
open Go.RowKit

theorem u8_xor_val (x y : UInt8) : bits .xor .u8 (x.toNat : Int) (y.toNat : Int) = ((x ^^^ y).toNat : Int) := by
  rw [u8_xor_nat _ _ (UInt8.toNat_lt _) (UInt8.toNat_lt _), UInt8.toNat_xor]
theorem u8_or_val (x y : UInt8) : bits .or .u8 (x.toNat : Int) (y.toNat : Int) = ((x ||| y).toNat : Int) := by
  rw [u8_or_nat _ _ (UInt8.toNat_lt _) (UInt8.toNat_lt _), UInt8.toNat_or]

set_option maxHeartbeats 2000000 in
set_option maxRecDepth 100000 in
theorem mask_any (w : World) (A B C : Option Addr) (ca cb cc : Nat) (key nonce b : List UInt8) (hk : key.length = 32) (hn : nonce.length = 16) (hb : (b.length : Int) ≤ 65504) (hca : 32 ≤ ca) (hcb : 16 ≤ cb) (_hcc : b.length ≤ cc) (hA : RV w A (cellsOf key)) (hB : RV w B (cellsOf nonce)) (hC : RV w C (cellsOf b)) (hgl : Gl w) :
    Calls Tryd.prog 46 #[.slice A 32 ca, .slice B 16 cb, .slice C b.length cc] w fun e w' => ∃ g rest, e = .returned (.tuple #[.slice (some ⟨g, 0, none⟩) b.length b.length, .int .i64 0]) ∧ Blk w' g 5 (cellsOf (Sl.mask key nonce b) ++ rest) ∧ w.heap.size ≤ g ∧ Only [] w w' := by
  go_enter Tryd.func46, Tryd.ntmps46
  go_wp2_with (go_at_call 29; refine (stream_any w A B ca cb key nonce b.length hk hn hb hca hcb hA hB hgl).mono ?_; rintro e w1 ⟨g, rest, rfl, hB1, hg, hO1⟩)
  have hsl : (Sl.stream key nonce b.length).length = b.length := by simp
  obtain ⟨s, hs⟩ : ∃ s, s = Sl.stream key nonce b.length := ⟨_, rfl⟩
  rw [← hs] at hB1 hsl
  have Hs := Lib.hid hs
  have Hsl := Lib.hid hsl
  clear hs hsl
  go_loopw [24, 10] (fun c _ wr => ∃ k : Nat, k ≤ b.length ∧ c = .int .i64 (k : Int) ∧ Blk wr g 5 (cellsOf (Sl.xorb (s.take k) (b.take k)) ++ (cellsOf (s.drop k) ++ rest)) ∧ Only [g] w1 wr) (fun c _ _ => b.length - (intOf c).toNat)
  case atStart => exact ⟨0, by omega, rfl, hB1, Only.refl _ _⟩
  case round =>
    obtain ⟨k, hk', rfl, hBk, hOk⟩ := hrel
    by_cases hlt : k < b.length
    · have hltI : (k : Int) < (b.length : Int) := by omega
      have hxl : (cellsOf (Sl.xorb (s.take k) (b.take k))).length = k := by rw [cellsOf_length, Sl.xorb_length (by simp [Hsl.out])]; simp; omega
      have hsd : s.drop k = s.getD k 0 :: s.drop (k + 1) := by
        have hks : k < s.length := by rw [Hsl.out]; exact hlt
        rw [List.drop_eq_getElem_cons hks]
        simp [hks]
      have cs : wr.cell? ⟨g, k, none⟩ = some (.int .u8 ((s.getD k 0).toNat : Int)) := by
        refine hBk.cellv ?_
        rw [List.getElem?_append_right (by omega), hxl, Nat.sub_self, hsd]
        rfl
      have fz := hBk.frozen k
      obtain ⟨gc, oc, rfl, hgc, hcc⟩ := hC (by rw [cellsOf_length]; omega)
      have cb' : wr.cell? ⟨gc, oc + k, none⟩ = some (.int .u8 ((b.getD k 0).toNat : Int)) := by
        rw [hOk.cell (p := ⟨gc, oc + k, none⟩) (Nat.lt_of_lt_of_le hgc hO1.size) (by simp; omega), hO1.cell (p := ⟨gc, oc + k, none⟩) hgc (by simp), hcc k (by simpa using hlt)]
        exact cellsOf_getD hlt
      have hx := u8_xor_val (s.getD k 0) (b.getD k 0)
      have hnew : Blk (wr.setCell ⟨g, k, none⟩ (.int .u8 ((s.getD k 0 ^^^ b.getD k 0).toNat : Int))) g 5 (cellsOf (Sl.xorb (s.take (k + 1)) (b.take (k + 1))) ++ (cellsOf (s.drop (k + 1)) ++ rest)) := by
        have h1 := hBk.set k (.int .u8 ((s.getD k 0 ^^^ b.getD k 0).toNat : Int))
        rw [List.set_append_right _ _ (by omega), hxl, Nat.sub_self, hsd] at h1
        rw [Sl.xorb_take Hsl.out k (by rw [Hsl.out]; exact hlt), cellsOf_append, List.append_assoc]
        exact h1
      revert cs cb' hx hnew
      generalize s.getD k 0 = x
      generalize b.getD k 0 = y
      intro cs cb' hx hnew
      have Hnew := Lib.hid hnew
      clear hsd hxl hcc hnew
      obtain ⟨z, Hz⟩ : ∃ z : Nat, Hid (z = (x ^^^ y).toNat) := ⟨_, rfl⟩
      rw [← Hz.out] at hx
      go_wp2
      go_still_tail 10, (by kernel_rfl)
      go_wp2
      go_roundw
      case rel =>
        refine ⟨k + 1, by omega, by go_num, ?_, (hOk.setCell (p := ⟨g, k, none⟩) (.inl (by simp)) _).drew⟩
        rw [Hz.out]
        exact Hnew.out.drew
      case measure => simp [intOf]; omega
    · obtain rfl : k = b.length := by omega
      go_wp2
      go_ret2
      refine ⟨g, cellsOf (s.drop b.length) ++ rest, rfl, ?_, hg, hO1.trans hOk (by simp; omega)⟩
      rw [List.take_of_length_le (by rw [Hsl.out]; exact Nat.le_refl _), List.take_of_length_le (Nat.le_refl _)] at hBk
      rw [Sl.mask, ← Hs.out]
      exact hBk

set_option maxHeartbeats 2000000 in
set_option maxRecDepth 100000 in
theorem sealB_any (w : World) (A B C : Option Addr) (ca cb cc : Nat) (key nonce b : List UInt8) (hk : key.length = 32) (hn : nonce.length = 16) (hb : (b.length : Int) ≤ 65504) (hca : 32 ≤ ca) (hcb : 16 ≤ cb) (hcc : b.length ≤ cc) (hA : RV w A (cellsOf key)) (hB : RV w B (cellsOf nonce)) (hC : RV w C (cellsOf b)) (hgl : Gl w) :
    Calls Tryd.prog 31 #[.slice A 32 ca, .slice B 16 cb, .slice C b.length cc] w fun e w' => ∃ A' c' G, e = .returned (.tuple #[.slice A' (b.length + 32) c', .int .i64 0]) ∧ OwnS w' 5 A' c' (cellsOf (Sl.sealB key nonce b)) G ∧ New w G ∧ Only [] w w' := by
  have Hk := Lib.hid hk
  have Hn := Lib.hid hn
  clear hk hn
  go_enter Tryd.func31, Tryd.ntmps31
  go_wp2_with (first
    | (go_at_call 46; refine (mask_any w A B C ca cb cc key nonce b Hk.out Hn.out hb hca hcb hcc hA hB hC hgl).mono ?_; rintro e w1 ⟨g1, r1, rfl, hM1, hg1, hO1⟩)
    | (refine wpl_make rfl 22 _ _ rfl 5 (.int .u8 0) 1 Tryd.underlying22 info8 rfl .i64 .i64 0 _ 0 (b.length + 32) rfl ?hc rfl rfl (by omega) (by omega) (by decide) ?_
       case hc => omega
       intro w2 hown2 _ hO2
       have hM2 := hM1.keep hO2 (by simp)
       have hP2 := hO1.trans' hO2
       have hl1 := hM1.lt
       have hnew2 : New w1 (some w1.heap.size) := fun g hg => by injection hg with hg; omega
       clear hM1)
    | (at_builtin; refine wpl_append8 rfl (.tmp 39) (.tmp 40) rfl (some ⟨w1.heap.size, 0, none⟩) 0 (b.length + 32) [] (some w1.heap.size) rfl rfl hown2 B 16 cb nonce rfl Hn.out.symm (hB.keep0 hP2) (by rw [Hn.out]; decide) ?_
       intro A3 c3 w3 G3 hown3 hO3 hG3
       have hnew3 := hnew2.next hO2.size hG3
       have hP3 := hP2.trans hO3 (hnew2.le hO1.size).out
       have hM3 := hM2.keep hO3 (hnew2.far hl1)
       have hs3 : w1.heap.size ≤ w3.heap.size := Nat.le_trans hO2.size hO3.size
       rw [List.nil_append] at hown3
       clear hM2 hO3 hG3)
    | (at_builtin; refine wpl_append8 rfl (.tmp 42) (.tmp 43) rfl A3 _ c3 nonce G3 rfl ?hn0 hown3 (some ⟨g1, 0, none⟩) b.length b.length (Sl.mask key nonce b) rfl (by simp) ?hr (by simp [Hn.out]; omega) ?_
       case hn0 => rw [Hn.out]
       case hr => exact fun h0 => ⟨g1, 0, rfl, hM3.lt, fun j hj => by rw [Nat.zero_add, hM3.cell, List.getElem?_append_left hj]⟩
       intro A4 c4 w4 G4 hown4 hO4 hG4
       have hnew4 := hnew3.next hs3 hG4
       have hP4 := hP3.trans hO4 (hnew3.le hO1.size).out
       have hs4 : w1.heap.size ≤ w4.heap.size := Nat.le_trans hs3 hO4.size
       have hc4 : 16 + b.length ≤ c4 := by simpa [Hn.out] using hown4.le
       clear hO4 hG4)
    | (go_at_call 47; refine (tagOf_any w4 A A4 ca _ c4 key (nonce ++ Sl.mask key nonce b) Hk.out ?hn2 hca hc4 (by omega) (hA.keep0 hP4) hown4.reads (hgl.keep hP4 (by simp) (by simp))).mono ?_
       case hn2 => simp [Hn.out]
       rintro e w5 ⟨g5, rfl, hT5, hg5, hO5⟩
       have hown5 := hown4.keep hO5 (by simp)
       have hP5 := hP4.trans' hO5)
    | (at_builtin; refine wpl_append8 rfl (.tmp 54) (.tmp 55) rfl A4 _ c4 (nonce ++ Sl.mask key nonce b) G4 rfl ?hn3 hown5 (some ⟨g5, 0, none⟩) 16 32 (Sl.tag key (nonce ++ Sl.mask key nonce b)) rfl (by simp) hT5 (by simp [Hn.out]; omega) ?_
       case hn3 => simp [Hn.out]
       intro A6 c6 w6 G6 hown6 hO6 hG6
       have hnew6 := hnew4.next (Nat.le_trans hs4 hO5.size) hG6
       have hP6 := hP5.trans hO6 (hnew4.le hO1.size).out
       clear hO6 hG6))
  go_ret2
  have e : b.length + 32 = 16 + b.length + 16 := by omega
  exact ⟨A6, c6, G6, by rw [e]; rfl, hown6, hnew6.le hO1.size, hP6⟩
end Go.Proofs.YtglbgocldenooaaDoor
