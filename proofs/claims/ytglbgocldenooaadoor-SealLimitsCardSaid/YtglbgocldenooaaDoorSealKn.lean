/-
  THE WALK of chapter 5's known.
-/
import Derived.Test.YtglbgocldenooaaDoorSealK
import Derived.Lib.SlBytesConst
namespace Go.Proofs.YtglbgocldenooaaDoor
open Go.RowKit

theorem set_last_good {key b : List UInt8} {v : UInt8} (hl : 32 ≤ b.length) (hg : Sl.good key b = true) (hv : v ≠ b.getD (b.length - 1) 0) : Sl.good key (b.set (b.length - 1) v) = false := by
  have hbody : Sl.bodyOf (b.set (b.length - 1) v) = Sl.bodyOf b := by
    unfold Sl.bodyOf
    rw [List.length_set]
    apply List.ext_getElem?
    intro i
    simp only [List.getElem?_take]
    split
    · rw [List.getElem?_set_ne (by omega)]
    · rfl
  unfold Sl.good at *
  rw [hbody]
  have hg' := beq_iff_eq.1 hg
  rw [hg']
  apply beq_eq_false_iff_ne.2
  intro he
  apply hv
  have h1 : (Sl.tagIn b).getD 15 0 = (Sl.tagIn (b.set (b.length - 1) v)).getD 15 0 := by rw [← he]
  unfold Sl.tagIn at h1
  rw [List.length_set] at h1
  have e1 : (b.drop (b.length - 16)).getD 15 0 = b.getD (b.length - 1) 0 := by
    simp only [List.getD_eq_getElem?_getD, List.getElem?_drop]
    congr 2
    omega
  have e2 : ((b.set (b.length - 1) v).drop (b.length - 16)).getD 15 0 = v := by
    simp only [List.getD_eq_getElem?_getD, List.getElem?_drop]
    rw [show b.length - 16 + 15 = b.length - 1 by omega, List.getElem?_set_self (by omega)]
    rfl
  rw [e1, e2] at h1
  exact h1.symm
theorem u8_succ_ne (x : UInt8) : UInt8.ofNat (x.toNat + 1) ≠ x := by
  intro h
  have := congrArg UInt8.toNat h
  have hx := UInt8.toNat_lt x
  simp at this
  omega
theorem open_changed (key nonce plain : List UInt8) (hn : nonce.length = 16) (hp : plain.length ≤ 65504) (x : UInt8) (hx : x = (Sl.sealB key nonce plain).getD (plain.length + 31) 0) :
    Sl.openB key ((Sl.sealB key nonce plain).set (plain.length + 31) (UInt8.ofNat (x.toNat + 1))) = ([], 10) := by
  have hl := Sl.sealB_length key nonce plain hn
  have h31 : plain.length + 31 = (Sl.sealB key nonce plain).length - 1 := by omega
  have hg := set_last_good (key := key) (b := Sl.sealB key nonce plain) (v := UInt8.ofNat (x.toNat + 1)) (by omega) (Sl.seal_good key nonce plain) (by rw [← h31, ← hx]; exact u8_succ_ne x)
  rw [← h31] at hg
  unfold Sl.openB
  rw [List.length_set, hl, if_neg (by omega), if_neg (by omega), hg, if_neg (by decide)]

def abc : List UInt8 := [97, 98, 99]
def kK : List UInt8 := kp [107]
def nN : List UInt8 := np [110]
theorem RV.frz {w : World} {t : TypeId} {arr : Array Value} {fr : Nat × Nat} {xs : List Value} (h : arr = xs.toArray) : RV (w.alloc (.cells arr t fr)) (some ⟨w.heap.size, 0, none⟩) xs := by
  subst h
  intro _
  refine ⟨_, 0, rfl, by simp, fun j _ => ?_⟩
  have : (w.alloc (.cells xs.toArray t fr)).heap[w.heap.size]? = some (.cells xs.toArray t fr) := heap_alloc_new w _
  rw [Nat.zero_add]
  unfold World.cell?
  rw [this]
  simp

set_option maxHeartbeats 4000000 in
set_option maxRecDepth 100000 in
theorem known5 (w : World) (hgl : Gl w) : Calls Tryd.prog 25 #[] w fun e w' => e = .returned (.bool true) ∧ Only [] w w' := by
  have kc := fun (w : World) (C : Array Value) (n c : Nat) => Lib.run_convert_bytes_const (P := Tryd.prog) w 22 5 C n c Tryd.underlying22 Tryd.underlying5
  have hkl : kK.length = 32 := by simp [kK]
  have hnl : nN.length = 16 := by simp [nN]
  have Hkl := Lib.hid hkl
  have Hnl := Lib.hid hnl
  clear hkl hnl
  go_enter Tryd.func25, Tryd.ntmps25
  go_wp2_with fail
  have hc107 : RV (w.alloc (.cells #[.int .u8 107] 5 (1, 2))) (some ⟨w.heap.size, 0, none⟩) (cellsOf [107]) := RV.frz (by kernel_rfl)
  refine (key_any _ _ 1 1 [107] rfl (by decide) hc107).mono ?_
  rintro e w1 ⟨rfl, hK1, hO1⟩
  have hP1 : Only [] w w1 := ((Only.refl [] w).alloc _).trans' hO1
  generalize hgk : (w.alloc (.cells #[.int .u8 107] 5 (1, 2))).heap.size = gk at hK1 ⊢
  clear hgk
  have hRk1 : RV w1 (some ⟨gk, 0, none⟩) (cellsOf kK) := hK1.rv
  clear hO1 hK1 hc107
  go_wp2_with fail
  have hc110 : RV (w1.alloc (.cells #[.int .u8 110] 5 (1, 2))) (some ⟨w1.heap.size, 0, none⟩) (cellsOf [110]) := RV.frz (by kernel_rfl)
  refine (nonce_any _ _ 1 1 [110] rfl (by decide) hc110).mono ?_
  rintro e w2 ⟨rfl, hRn2, hO2⟩
  have hO2' : Only [] w1 w2 := ((Only.refl [] w1).alloc _).trans' hO2
  have hP2 := hP1.trans' hO2'
  have hRk2 := hRk1.keep0 hO2'
  generalize hgn : (w1.alloc (.cells #[.int .u8 110] 5 (1, 2))).heap.size = gn at hRn2 ⊢
  clear hgn
  have hRn2 : RV w2 (some ⟨gn, 0, none⟩) (cellsOf nN) := hRn2
  clear hO2 hRk1 hc110
  go_wp2_with fail
  refine (sealB_at w2 _ _ none 32 32 0 0 kK nN [] rfl Hkl.out Hnl.out (by decide) (by decide) (by decide) (by decide) hRk2 hRn2 RV.nil (hgl.keep hP2 (by simp) (by simp))).mono ?_
  rintro e w3 ⟨A3, c3, G3, rfl, hown3, hnew3, hO3⟩
  have hP3 := hP2.trans' hO3
  have hRk3 := hRk2.keep0 hO3
  have hRn3 := hRn2.keep0 hO3
  clear hRk2 hRn2
  go_wp2_with fail
  have hcabc : RV (w3.alloc (.cells #[.int .u8 97, .int .u8 98, .int .u8 99] 5 (3, 4))) (some ⟨w3.heap.size, 0, none⟩) (cellsOf abc) := RV.frz (by kernel_rfl)
  refine (sealB_at _ _ _ _ 32 32 3 3 kK nN abc rfl Hkl.out Hnl.out (by decide) (by decide) (by decide) (by decide) (hRk3.keep0 ((Only.refl [] w3).alloc _)) (hRn3.keep0 ((Only.refl [] w3).alloc _)) hcabc (hgl.keep (hP3.alloc _) (by simp) (by simp))).mono ?_
  rintro e w4 ⟨A4, c4, G4, rfl, hown4, hnew4, hO4⟩
  have hO4' : Only [] w3 w4 := ((Only.refl [] w3).alloc _).trans' hO4
  have hP4 := hP3.trans' hO4'
  have hRk4 := hRk3.keep0 hO4'
  have hRn4 := hRn3.keep0 hO4'
  have hown3' := hown3.keep hO4' (by simp)
  have hkg0 : gk < w3.heap.size := by
    obtain ⟨g', o', e', hg', _⟩ := hRk3 (by rw [cellsOf_length, Hkl.out]; decide)
    injection e' with e'
    injection e' with e'
    omega
  have hng0 : gn < w3.heap.size := by
    obtain ⟨g', o', e', hg', _⟩ := hRn3 (by rw [cellsOf_length, Hnl.out]; decide)
    injection e' with e'
    injection e' with e'
    omega
  clear hRk3 hRn3 hcabc
  go_wp2_with fail
  have hc3 : 32 ≤ c3 := by have := hown3'.le; rw [cellsOf_length, Sl.sealB_length _ _ _ Hnl.out] at this; simpa using this
  have hc4 : 35 ≤ c4 := by have := hown4.le; rw [cellsOf_length, Sl.sealB_length _ _ _ Hnl.out] at this; simpa [abc] using this
  have o1 := open_any w4 (some ⟨gk, 0, none⟩) A3 32 32 c3 kK (Sl.sealB kK nN []) (by rw [Sl.sealB_length _ _ _ Hnl.out]; rfl) Hkl.out (by decide) hc3 hRk4 hown3'.reads (hgl.keep hP4 (by simp) (by simp))
  rw [Sl.open_seal kK nN [] Hnl.out (by decide)] at o1
  refine o1.mono ?_
  clear o1
  rintro e w5 ⟨A5, c5, rfl, hc5, hR5, -, hO5⟩
  have hP5 := hP4.trans' hO5
  have hRk5 := hRk4.keep0 hO5
  have hRn5 := hRn4.keep0 hO5
  have hown5 := hown4.keep hO5 (by simp)
  clear hRk4 hRn4 hown4 hO5 hown3' hown3 hR5 hc5
  go_wp2_with fail
  have o2 := open_any w5 (some ⟨gk, 0, none⟩) A4 32 35 c4 kK (Sl.sealB kK nN abc) (by rw [Sl.sealB_length _ _ _ Hnl.out]; rfl) Hkl.out (by decide) hc4 hRk5 hown5.reads (hgl.keep hP5 (by simp) (by simp))
  rw [Sl.open_seal kK nN abc Hnl.out (by decide)] at o2
  refine o2.mono ?_
  clear o2
  rintro e w6 ⟨A6, c6, rfl, hc6, hR6, hA6, hO6⟩
  have hl4 := hown5.lt
  have hP6 := hP5.trans' hO6
  have hRk6 := hRk5.keep0 hO6
  have hRn6 := hRn5.keep0 hO6
  have hown6 := hown5.keep hO6 (by simp)
  clear hRk5 hRn5 hown5 hO6
  obtain ⟨sb, hsb⟩ : ∃ sb, sb = Sl.sealB kK nN abc := ⟨_, rfl⟩
  have hsl : sb.length = 35 := by rw [hsb, Sl.sealB_length _ _ _ Hnl.out]; rfl
  rw [← hsb] at hown6
  obtain ⟨g4, r4, rfl, rfl, hB6⟩ := hown6.blk (by rw [cellsOf_length, hsl]; decide)
  have hg4 : w3.heap.size ≤ g4 := by have := hnew4 g4 rfl; simp at this; omega
  obtain ⟨x, hx⟩ : ∃ x : UInt8, x = sb.getD 34 0 := ⟨_, rfl⟩
  have cx : w6.cell? ⟨g4, 34, none⟩ = some (.int .u8 (x.toNat : Int)) := by
    refine hB6.cellv ?_
    rw [List.getElem?_append_left (by rw [cellsOf_length, hsl]; decide), cellsOf_getD (by rw [hsl]; decide), hx]
  have fx := hB6.frozen 34
  have ex : ((x.toNat : Int) + 1) % 256 = ((UInt8.ofNat (x.toNat + 1)).toNat : Int) := by simp
  obtain ⟨y, hy⟩ : ∃ y : UInt8, y = UInt8.ofNat (x.toNat + 1) := ⟨_, rfl⟩
  rw [← hy] at ex
  have hchg : Sl.openB kK (sb.set 34 y) = ([], 10) := by rw [hy, hsb]; exact open_changed kK nN abc Hnl.out (by decide) x (by rw [hx, hsb]; rfl)
  have Hchg := Lib.hid hchg
  have Hsl := Lib.hid hsl
  have hkg : gk < w3.heap.size := hkg0
  clear hchg hsl hsb hx hy
  go_wp2_with fail
  have hB7 : Blk (w6.setCell ⟨g4, 34, none⟩ (.int .u8 (y.toNat : Int))) g4 5 (cellsOf (sb.set 34 y) ++ r4) := by
    have h := hB6.set 34 (.int .u8 (y.toNat : Int))
    rw [List.set_append_left _ _ (by rw [cellsOf_length, Hsl.out]; decide), cellsOf, ← List.map_set] at h
    exact h
  have hO7 : Only [g4] w6 (w6.setCell ⟨g4, 34, none⟩ (.int .u8 (y.toNat : Int))) := (Only.refl _ _).setCell (p := ⟨g4, 34, none⟩) (.inl (by simp)) _
  clear cx fx ex hB6 hown6
  revert hB7 hO7
  generalize World.setCell _ _ _ = w7
  intro hB7 hO7
  have hw3 := hP3.size
  have hP7 : Only [] w w7 := hP6.trans hO7 (by simp; omega)
  have hRk7 : RV w7 (some ⟨gk, 0, none⟩) (cellsOf kK) := hRk6.keep hO7 (fun p hp => by injection hp with hp; subst hp; simp; omega)
  have hR7 : RV w7 (some ⟨g4, 0, none⟩) (cellsOf (sb.set 34 y)) := fun _ => ⟨g4, 0, rfl, hB7.lt, fun j hj => by rw [Nat.zero_add, hB7.cell, List.getElem?_append_left hj]⟩
  have hR6' : RV w7 A6 (cellsOf abc) := hR6.keep hO7 (fun p hp => by have := hA6 p hp; have := hl4 g4 rfl; simp; omega)
  have o3 := open_any w7 (some ⟨gk, 0, none⟩) (some ⟨g4, 0, none⟩) 32 35 c4 kK (sb.set 34 y) (by rw [List.length_set, Hsl.out]) Hkl.out (by decide) hc4 hRk7 hR7 (hgl.keep hP7 (by simp) (by simp))
  rw [Hchg.out] at o3
  refine o3.mono ?_
  clear o3
  rintro e w8 ⟨A8, c8, rfl, hc8, hR8, -, hO8⟩
  have hP8 := hP7.trans' hO8
  have hRk8 := hRk7.keep0 hO8
  have hR68 := hR6'.keep0 hO8
  clear hRk7 hR7 hB7 hR6' hR6 hR8 hc8
  go_wp2_with fail
  refine (derive_no w8 _ 31 _ _ (.inl (by decide))).mono ?_
  rintro e w' ⟨rfl, rfl⟩
  go_wp2_with fail
  refine (derive_no _ _ 32 _ _ (.inr (.inl (by decide)))).mono ?_
  rintro e w' ⟨rfl, rfl⟩
  go_wp2_with fail
  refine (stream_no _ _ _ 32 _ 16 _ (-1) (.inr (.inr (.inl (by decide))))).mono ?_
  rintro e w' ⟨rfl, rfl⟩
  have hc4I : (31 : Int) ≤ (c4 : Int) := by omega
  go_wp2_with fail
  refine (open_short _ _ _ 32 31 c4 (by decide)).mono ?_
  rintro e w9 ⟨A9, c9, rfl, hc9, hR9, -, hO9⟩
  have hR9 : RV w9 A6 (cellsOf [97, 98, 99]) := hR68.keep0 hO9
  go_wp2_with (refine wpl_wanted (by rfl) ?_; refine wpl_str rfl 22 9 5 (.tmp 112) rfl Tryd.underlying22 Tryd.underlying5 Tryd.underlying9 A6 abc.length c6 [97, 98, 99] rfl rfl hR9 ?_)
  go_ret
  exact ⟨rfl, hP8.trans' hO9⟩
end Go.Proofs.YtglbgocldenooaaDoor
