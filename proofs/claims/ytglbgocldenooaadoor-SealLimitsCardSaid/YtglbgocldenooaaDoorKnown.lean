/-
  THE WALK of the law's known: the examples of the chapter.
-/
import Derived.Test.YtglbgocldenooaaDoorKnownP
import Derived.Test.YtglbgocldenooaaDoorRef2
import Derived.Test.YtglbgocldenooaaDoorLaws5
import Derived.Lib.SlBytesConst
namespace Go.Proofs.YtglbgocldenooaaDoor
open Go.RowKit

theorem hex_at (w : World) (g n : Nat) (t : TypeId) (bs out : List UInt8) (hb : Blk w g t (cellsOf bs)) (hn : n = bs.length) (hl : bs.length ≤ 1000) (ho : hexs bs = out) :
    Calls Tryd.prog 38 #[.slice (some ⟨g, 0, none⟩) n n] w fun e w' => e = .returned (.string ⟨out.toArray⟩) ∧ Only [] w w' := by
  subst hn ho
  exact hex_any w g t bs hb hl
def kkey : List UInt8 := [0, 1, 2, 3, 4, 5, 6, 7, 8, 9, 10, 11, 12, 13, 14, 15, 16, 17, 18, 19, 20, 21, 22, 23, 24, 25, 26, 27, 28, 29, 30, 31]
def hexA : List UInt8 := [53, 48, 56, 99, 53, 101, 56, 99, 51, 50, 55, 99, 49, 52, 101, 50, 101, 49, 97, 55, 50, 98, 97, 51, 52, 101, 101, 98, 52, 53, 50, 102, 51, 55, 52, 53, 56, 98, 50, 48, 57, 101, 100, 54, 51, 97, 50, 57, 52, 100, 57, 57, 57, 98, 52, 99, 56, 54, 54, 55, 53, 57, 56, 50]
def hexB : List UInt8 := [54, 57, 50, 49, 55, 97, 51, 48, 55, 57, 57, 48, 56, 48, 57, 52, 101, 49, 49, 49, 50, 49, 100, 48, 52, 50, 51, 53, 52, 97, 55, 99, 49, 102, 53, 53, 98, 54, 52, 56, 50, 99, 97, 49, 97, 53, 49, 101, 49, 98, 50, 53, 48, 100, 102, 100, 49, 101, 100, 48, 101, 101, 102, 57]
def hexC : List UInt8 := [52, 56, 97, 56, 57, 57, 55, 100, 97, 52, 48, 55, 56, 55, 54, 98, 51, 100, 55, 57, 99, 48, 100, 57, 50, 51, 50, 53, 97, 100, 51, 98, 56, 57, 99, 98, 98, 55, 53, 52, 100, 56, 54, 97, 98, 55, 49, 97, 101, 101, 48, 52, 55, 97, 100, 51, 52, 53, 102, 100, 50, 99, 52, 57]
theorem hashA : hexs (Bl.hash [] [97, 98, 99]) = hexA := Kn.kA_hex
theorem hashB : hexs (Bl.hash [] []) = hexB := Kn.kB_hex
theorem hashC : hexs (Bl.hash kkey []) = hexC := by
  rw [show Bl.hash kkey [] = Bl.hashM 32 [0, 1, 2, 3, 4, 5, 6, 7, 8, 9, 10, 11, 12, 13, 14, 15, 16, 17, 18, 19, 20, 21, 22, 23, 24, 25, 26, 27, 28, 29, 30, 31, 0, 0, 0, 0, 0, 0, 0, 0, 0, 0, 0, 0, 0, 0, 0, 0, 0, 0, 0, 0, 0, 0, 0, 0, 0, 0, 0, 0, 0, 0, 0, 0] from rfl]
  exact Kn.kC_hex
theorem strneqA (w : World) : (binOp .neq 9 (.string ⟨hexA.toArray⟩) (.string ⟨#[53, 48, 56, 99, 53, 101, 56, 99, 51, 50, 55, 99, 49, 52, 101, 50, 101, 49, 97, 55, 50, 98, 97, 51, 52, 101, 101, 98, 52, 53, 50, 102, 51, 55, 52, 53, 56, 98, 50, 48, 57, 101, 100, 54, 51, 97, 50, 57, 52, 100, 57, 57, 57, 98, 52, 99, 56, 54, 54, 55, 53, 57, 56, 50]⟩)).run Tryd.prog w = .ok (.bool false) w := by kernel_rfl
theorem streqB (w : World) : (binOp .eql 9 (.string ⟨hexB.toArray⟩) (.string ⟨#[54, 57, 50, 49, 55, 97, 51, 48, 55, 57, 57, 48, 56, 48, 57, 52, 101, 49, 49, 49, 50, 49, 100, 48, 52, 50, 51, 53, 52, 97, 55, 99, 49, 102, 53, 53, 98, 54, 52, 56, 50, 99, 97, 49, 97, 53, 49, 101, 49, 98, 50, 53, 48, 100, 102, 100, 49, 101, 100, 48, 101, 101, 102, 57]⟩)).run Tryd.prog w = .ok (.bool true) w := by kernel_rfl
theorem streqC (w : World) : (binOp .eql 9 (.string ⟨hexC.toArray⟩) (.string ⟨#[52, 56, 97, 56, 57, 57, 55, 100, 97, 52, 48, 55, 56, 55, 54, 98, 51, 100, 55, 57, 99, 48, 100, 57, 50, 51, 50, 53, 97, 100, 51, 98, 56, 57, 99, 98, 98, 55, 53, 52, 100, 56, 54, 97, 98, 55, 49, 97, 101, 101, 48, 52, 55, 97, 100, 51, 52, 53, 102, 100, 50, 99, 52, 57]⟩)).run Tryd.prog w = .ok (.bool true) w := by kernel_rfl
theorem sum_at (w : World) (B : Option Addr) (n d : Nat) (b : List UInt8) (hn : n = b.length) (hd : b.length ≤ d) (hrb : RB w B b) (hbl : b.length ≤ 2305843009213693952) (hgl : Gl w) :
    Calls Tryd.prog 17 #[.slice B n d] w fun e w' => e = .returned (.agg (cellsOf (Bl.hash [] b)).toArray) ∧ Only [] w w' := by
  subst hn
  exact sum_any w B d b hd hrb hbl hgl
theorem keyed_at (w : World) (A : Option Addr) (n c : Nat) (key : List UInt8) (hn : n = key.length) (hk1 : 1 ≤ key.length) (hk : key.length ≤ 32) (hc : key.length ≤ c) (hr : RB w A key)
    (B : Option Addr) (m d : Nat) (b : List UInt8) (hm : m = b.length) (hd : b.length ≤ d) (hrb : RB w B b) (hbl : b.length ≤ 2305843009213693952) (hgl : Gl w) :
    Calls Tryd.prog 19 #[.slice A n c, .slice B m d] w fun e w' => e = .returned (.tuple #[.agg (cellsOf (Bl.hash key b)).toArray, .int .i64 0]) ∧ Only [] w w' := by
  subst hn hm
  exact keyed_any w A c key hk1 hk hc hr B d b hd hrb hbl hgl
theorem RB.of_RV {w : World} {A : Option Addr} {bs : List UInt8} (h : RV w A (cellsOf bs)) : RB w A bs := by
  intro h0
  obtain ⟨g, o, h1, h2, h3⟩ := h (by simpa using h0)
  exact ⟨g, o, h1, h2, fun j hj => (h3 j (by simpa using hj)).trans (cellsOf_getD hj)⟩
theorem RB.rv {w : World} {A : Option Addr} {bs : List UInt8} (h : RB w A bs) : RV w A (cellsOf bs) := by
  intro h0
  obtain ⟨g, o, h1, h2, h3⟩ := h (by simpa using h0)
  exact ⟨g, o, h1, h2, fun j hj => (h3 j (by simpa using hj)).trans (cellsOf_getD (by simpa using hj)).symm⟩

theorem blk_two {w W : World} {t : TypeId} {A B : Array Value} {cs : List Value} (h : Only [w.heap.size] ((w.alloc (.cells A t)).alloc (.cells B t)) W) (hB : B = cs.toArray) : Blk W (w.heap.size + 1) t cs := by
  have := (Blk.new' (w.alloc (.cells A t)) (t := t) hB).keep h (by simp)
  simpa using this

set_option maxHeartbeats 4000000 in
set_option maxRecDepth 100000 in
theorem known_any (w : World) (hgl : Gl w) : Calls Tryd.prog 16 #[] w fun e w' => e = .returned (.bool true) ∧ Only [] w w' := by
  have kc := fun (w : World) (C : Array Value) (n c : Nat) => Lib.run_convert_bytes_const (P := Tryd.prog) w 22 5 C n c Tryd.underlying22 Tryd.underlying5
  go_enter Tryd.func16, Tryd.ntmps16
  go_wp2_with fail
  have hO1 := (Only.refl [] w).alloc (.cells #[.int .u8 97, .int .u8 98, .int .u8 99] 5 (3, 4))
  refine (sum_at _ _ 3 3 [97, 98, 99] rfl (by decide) (fun _ => ⟨w.heap.size, 0, rfl, by simp, fun j hj => ?_⟩) (by decide) (hgl.keep hO1 (by simp) (by simp))).mono ?_
  · rw [Nat.zero_add, World.cell?_alloc_mark]
    have : j < 3 := hj
    rcases (show j = 0 ∨ j = 1 ∨ j = 2 by omega) with rfl | rfl | rfl <;> rfl
  rintro e W1 ⟨rfl, hO2⟩
  have hO3 := hO1.trans' hO2
  clear hO1 hO2 kc
  go_wp2_with fail
  refine (sum_at _ none 0 0 [] rfl (by decide) RB.nil (by decide) (hgl.keep hO3 (by simp) (by simp))).mono ?_
  rintro e W2 ⟨rfl, hO4⟩
  have hO5 := hO3.trans' hO4
  clear hO3 hO4
  have hsA : (Tryd.prog.info? 24).map (·.size) = some (cellsOf (Bl.hash [] [97, 98, 99])).length := by simpa using arr32size
  have hsB : (Tryd.prog.info? 24).map (·.size) = some (cellsOf (Bl.hash [] [])).length := by simpa using arr32size
  have hlA : 32 = (cellsOf (Bl.hash [] [97, 98, 99])).length := by simp
  have hlB : 32 = (cellsOf (Bl.hash [] [])).length := by simp
  have HsA := Lib.hid hsA
  have HsB := Lib.hid hsB
  have HlA := Lib.hid hlA
  have HlB := Lib.hid hlB
  clear hsA hsB hlA hlB
  have hs5 := hO5.size
  go_wp2_with (first
    | (refine wpl_store_all rfl 24 (.tmp 1) (.tmp 13) rfl W2.heap.size (cellsOf (Bl.hash [] [97, 98, 99])) rfl rfl 24 (List.replicate 32 (Value.int .u8 0)) ?hb ?hl HsA.out cellsOf_one ?_
       case hb => refine Blk.alloc (Blk.new' W2 ?_) _; rfl
       case hl => rw [List.length_replicate]; exact HlA.out
       intro W3 hA3 hO6
       have hO7 := ((hO5.alloc _).alloc _).trans hO6 (by simp; omega)
       have hB3 := blk_two (cs := List.replicate 32 (Value.int .u8 0)) hO6 rfl
       clear hO6 hO5)
    | (refine wpl_store_all rfl 24 (.tmp 2) (.tmp 14) rfl (W2.heap.size + 1) (cellsOf (Bl.hash [] [])) rfl rfl 24 (List.replicate 32 (Value.int .u8 0)) hB3 ?hl HsB.out cellsOf_one ?_
       case hl => rw [List.length_replicate]; exact HlB.out
       intro W4 hB4 hO8
       have hA4 := hA3.keep hO8 (by simp)
       have hO9 := hO7.trans hO8 (by simp; omega)
       clear hO8 hO7 hA3 hB3))
  obtain ⟨gA, gB, hgA, hgB⟩ : ∃ gA gB : Nat, gA = W2.heap.size ∧ gB = W2.heap.size + 1 := ⟨_, _, rfl, rfl⟩
  rw [← hgB] at hB4 ⊢
  rw [← hgA] at hA4 ⊢
  have hgA' : w.heap.size ≤ gA := by omega
  have hgB' : w.heap.size ≤ gB := by omega
  clear hgA hgB hs5 HsA HsB HlA HlB
  go_loopw [4, 3] (fun i s wr => ∃ (k : Nat) (A : Option Addr) (c : Nat) (G : Option Nat), k ≤ 32 ∧ i = .int .i64 k ∧ s = .slice A k c ∧ OwnS wr 5 A c (cellsOf (kkey.take k)) G ∧ Only [] w wr ∧ Blk wr gA 24 (cellsOf (Bl.hash [] [97, 98, 99])) ∧ Blk wr gB 24 (cellsOf (Bl.hash [] [])) ∧ ∀ g, G = some g → w.heap.size ≤ g ∧ g ≠ gA ∧ g ≠ gB) (fun i _ _ => 32 - (intOf i).toNat)
  case atStart => exact ⟨0, none, 0, none, by omega, rfl, rfl, OwnS.none _ _, hO9, hA4, hB4, by simp⟩
  case round =>
    obtain ⟨k, A, c, G, hk, rfl, rfl, hown, hO, hA, hB, hG⟩ := hrel
    by_cases hlt : k < 32
    · have hltI : (k : Int) < 32 := by omega
      have hkb : (k : Int) = ((kkey.getD k 0).toNat : Int) := by
        rcases (show k = 0 ∨ k = 1 ∨ k = 2 ∨ k = 3 ∨ k = 4 ∨ k = 5 ∨ k = 6 ∨ k = 7 ∨ k = 8 ∨ k = 9 ∨ k = 10 ∨ k = 11 ∨ k = 12 ∨ k = 13 ∨ k = 14 ∨ k = 15 ∨ k = 16 ∨ k = 17 ∨ k = 18 ∨ k = 19 ∨ k = 20 ∨ k = 21 ∨ k = 22 ∨ k = 23 ∨ k = 24 ∨ k = 25 ∨ k = 26 ∨ k = 27 ∨ k = 28 ∨ k = 29 ∨ k = 30 ∨ k = 31 by omega) with rfl | rfl | rfl | rfl | rfl | rfl | rfl | rfl | rfl | rfl | rfl | rfl | rfl | rfl | rfl | rfl | rfl | rfl | rfl | rfl | rfl | rfl | rfl | rfl | rfl | rfl | rfl | rfl | rfl | rfl | rfl | rfl <;> rfl
      have hwr : IntKind.u8.wrap (k : Int) = (k : Int) := by rw [IntKind.wrap_u8']; omega
      have hcell : (#[Value.int .u8 (k : Int)] : Array Value) = (cellsOf [kkey.getD k 0]).toArray := by
        show #[Value.int .u8 (k : Int)] = #[Value.int .u8 ((kkey.getD k 0).toNat : Int)]
        rw [← hkb]
      have hlk : k = (kkey.take k).length := by simp [kkey]; omega
      have hnx : kkey.take (k + 1) = kkey.take k ++ [kkey.getD k 0] := by
        rw [List.take_succ_eq_append_getElem (show k < kkey.length from hlt), List.getD_eq_getElem?_getD, List.getElem?_eq_getElem (show k < kkey.length from hlt), Option.getD_some]
      have hle : (kkey.take k).length + [kkey.getD k 0].length ≤ 1099511627776 := by simp [kkey]; omega
      have Hle := Lib.hid hle
      have Hcell := Lib.hid hcell
      have Hlk := Lib.hid hlk
      have Hnx := Lib.hid hnx
      clear hkb hcell hlk hnx hle
      have hrv : RV (wr.alloc (.cells #[.int .u8 (k : Int)] 5)) (some ⟨wr.heap.size, 0, none⟩) (cellsOf [kkey.getD k 0]) := by
        intro _
        refine ⟨wr.heap.size, 0, rfl, by simp, fun j _ => ?_⟩
        rw [Nat.zero_add]
        exact (Blk.new' wr (t := 5) Hcell.out).cell j
      have Hrv := Lib.hid hrv
      clear hrv
      have Hown := Lib.hid (hown.keep ((Only.refl [] wr).alloc (.cells #[.int .u8 (k : Int)] 5)) (by simp))
      go_wp2_with (refine wpl_append8 rfl (.tmp 19) (.tmp 22) rfl A k c (kkey.take k) G rfl Hlk.out Hown.out (some ⟨wr.heap.size, 0, none⟩) 1 1 [kkey.getD k 0] rfl rfl Hrv.out Hle.out ?_; intro A' c' W' G' hown' hO' hG'; rw [← Hnx.out] at hown')
      go_roundw
      case rel =>
        have hO'' := (hO.alloc _).trans hO' (by intro g hg h; simp at hg; have := hG g hg; omega)
        have hsz := hO.size
        have hlA := hA.lt
        have hlB := hB.lt
        refine ⟨k + 1, A', c', G', by omega, by go_num, rfl, hown', hO'', (hA.alloc _).keep hO' (by intro h; simp at h; exact (hG _ h).2.1 rfl), (hB.alloc _).keep hO' (by intro h; simp at h; exact (hG _ h).2.2 rfl), ?_⟩
        intro g hg
        rcases hG' with rfl | rfl
        · exact hG g hg
        · simp at hg; omega
      case measure => simp [intOf]; omega
    · obtain rfl : k = 32 := by omega
      rw [show kkey.take 32 = kkey from rfl] at hown
      rw [show ((32 : Nat) : Int) = 32 from rfl]
      have hrk : RB wr A kkey := RB.of_RV hown.reads
      have hlC : (Bl.hash kkey []).length = 32 := by simp
      have HlC := Lib.hid hlC
      have hlA : 32 = (Bl.hash [] [97, 98, 99]).length := by simp
      have hlB : 32 = (Bl.hash [] []).length := by simp
      have HmA := Lib.hid (show (Bl.hash [] [97, 98, 99]).length ≤ 1000 by simp)
      have HmB := Lib.hid (show (Bl.hash [] []).length ≤ 1000 by simp)
      have HmC := Lib.hid (show (Bl.hash kkey []).length ≤ 1000 by simp)
      have HlA := Lib.hid hlA
      have HlB := Lib.hid hlB
      have HxA := Lib.hid hashA
      have HxB := Lib.hid hashB
      have HxC := Lib.hid hashC
      have n1 := strneqA
      have n2 := streqB
      have n3 := streqC
      have hmk : ∀ w, (Instr.makeSlice 22 (.int .i64 33) (.int .i64 33)).run Tryd.prog w = .ok (.slice (some ⟨w.heap.size, 0, none⟩) 33 33) (w.alloc (.cells (List.replicate 33 (Value.int .u8 0)).toArray 5)) := fun w => by kernel_rfl
      clear hlA hlB
      clear hlC
      have hck : kkey.length ≤ c := by simpa using hown.le
      have hsz := hO.size
      go_wp2_with (first
        | (refine wpl_put32 rfl (.tmp 5) (.tmp 27) rfl W5.heap.size (Bl.hash kkey []) rfl rfl (List.replicate 32 (Value.int .u8 0)) ?hb rfl HlC.out ?_
           case hb => refine Blk.new' W5 ?_; rfl
           intro W6 hC6 hO6
           have hP6 := (hP5.alloc _).trans hO6 (by have := hP5.size; simp; omega)
           have hA6 := (hA5.alloc _).keep hO6 (by have := hA5.lt; simp; omega)
           have hB6 := (hB5.alloc _).keep hO6 (by have := hB5.lt; simp; omega)
           clear hO6 hP5 hA5 hB5)
        | (go_at_call 19; refine (keyed_at _ A 32 c kkey rfl (by decide) (by decide) hck hrk none 0 0 [] rfl (by decide) RB.nil (by decide) (hgl.keep hO (by simp) (by simp))).mono ?_
           rintro e W5 ⟨rfl, hO5⟩
           have hP5 := hO.trans' hO5
           have hA5 := hA.keep hO5 (by simp)
           have hB5 := hB.keep hO5 (by simp)
           clear hO5 hO hA hB)
        | (go_at_call 19; refine (keyed_no _ none 0 0 _ (.inl (by decide))).mono ?_
           rintro e W7 ⟨rfl, hO7⟩
           have hP7 := hP6.trans' hO7
           have hA7 := hA6.keep hO7 (by simp)
           have hB7 := hB6.keep hO7 (by simp)
           have hC7 := hC6.keep hO7 (by simp)
           clear hO7 hP6 hA6 hB6 hC6)
        | (refine wpl_put32 rfl (.tmp 7) (.tmp 32) rfl W7.heap.size (List.replicate 32 0) rfl rfl (List.replicate 32 (Value.int .u8 0)) ?hb rfl rfl ?_
           case hb => refine Blk.new' W7 ?_; rfl
           intro W8 hD8 hO8
           have hP8 := (hP7.alloc _).trans hO8 (by have := hP7.size; simp; omega)
           have hA8 := (hA7.alloc _).keep hO8 (by have := hA7.lt; simp; omega)
           have hB8 := (hB7.alloc _).keep hO8 (by have := hB7.lt; simp; omega)
           have hC8 := (hC7.alloc _).keep hO8 (by have := hC7.lt; simp; omega)
           clear hO8 hP7 hA7 hB7 hC7 hD8)
        | (go_at_call 20; refine (new_no _ _ 33 33 (by decide)).mono ?_; rintro e w' ⟨rfl, rfl⟩)
        | (go_at_call 38; refine (hex_at _ gA 32 24 (Bl.hash [] [97, 98, 99]) hexA (hA8.alloc _) HlA.out HmA.out HxA.out).mono ?_
           rintro e W9 ⟨rfl, hO9⟩
           have hP9 := (hP8.alloc _).trans' hO9
           have hB9 := (hB8.alloc _).keep hO9 (by simp)
           have hC9 := (hC8.alloc _).keep hO9 (by simp)
           clear hO9 hP8 hA8 hB8 hC8)
        | (go_at_call 38; refine (hex_at _ gB 32 24 (Bl.hash [] []) hexB hB9 HlB.out HmB.out HxB.out).mono ?_
           rintro e W10 ⟨rfl, hO10⟩
           have hP10 := hP9.trans' hO10
           have hC10 := hC9.keep hO10 (by simp)
           clear hO10 hP9 hB9 hC9)
        | (go_at_call 38; refine (hex_at _ W5.heap.size 32 24 (Bl.hash kkey []) hexC hC10 HlC.out.symm HmC.out HxC.out).mono ?_
           rintro e W11 ⟨rfl, hO11⟩
           have hP11 := hP10.trans' hO11
           clear hO11 hP10 hC10))
      go_ret
      exact ⟨rfl, hP11⟩
end Go.Proofs.YtglbgocldenooaaDoor
