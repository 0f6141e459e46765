/-
  THE WALKS of the laws' key, nonce, refused, and of the refusals of seal.Stream and seal.Seal.
-/
import Derived.Test.YtglbgocldenooaaDoorSealO
namespace Go.Proofs.YtglbgocldenooaaDoor
open Go.RowKit

/-- A key of 32 bytes that begins with some bytes. -/
def kp (b : List UInt8) : List UInt8 := b.take 32 ++ List.replicate (32 - b.length) 0
@[simp] theorem kp_length (b : List UInt8) : (kp b).length = 32 := by simp [kp]; omega
def np (b : List UInt8) : List UInt8 := (kp b).take 16
@[simp] theorem np_length (b : List UInt8) : (np b).length = 16 := by simp [np]

theorem kfill_set {b : List UInt8} {k : Nat} (hk : k < b.length) (h32 : k < 32) :
    (cellsOf (b.take k) ++ List.replicate (32 - k) (Value.int .u8 0)).set k (.int .u8 ((b.getD k 0).toNat : Int)) = cellsOf (b.take (k + 1)) ++ List.replicate (32 - (k + 1)) (Value.int .u8 0) := by
  have hl : (cellsOf (b.take k)).length = k := by simp; omega
  have hr : List.replicate (32 - k) (Value.int .u8 0) = Value.int .u8 0 :: List.replicate (32 - (k + 1)) (Value.int .u8 0) := by
    rw [show 32 - k = (32 - (k + 1)) + 1 by omega, List.replicate_succ]
  rw [List.set_append_right _ _ (by omega), hl, Nat.sub_self, hr, List.set_cons_zero, List.take_succ_eq_append_getElem hk, cellsOf_append, List.append_assoc]
  simp [cellsOf, hk]

set_option maxHeartbeats 1000000 in
set_option maxRecDepth 100000 in
theorem key_any (w : World) (A : Option Addr) (n c : Nat) (b : List UInt8) (hn : n = b.length) (hm : n ≤ 9223372036854775807) (hA : RV w A (cellsOf b)) :
    Calls Tryd.prog 35 #[.slice A n c] w fun e w' => e = .returned (.slice (some ⟨w.heap.size, 0, none⟩) 32 32) ∧ Blk w' w.heap.size 5 (cellsOf (kp b)) ∧ Only [] w w' := by
  have Hn := Lib.hid hn
  clear hn
  go_enter Tryd.func35, Tryd.ntmps35
  go_wp2_with (refine wpl_make rfl 22 _ _ rfl 5 (.int .u8 0) 1 Tryd.underlying22 info8 rfl .i64 .i64 32 32 32 32 rfl rfl rfl rfl (by decide) (by decide) (by decide) ?_; intro w1 _ hB1 hO1)
  go_loopw [4] (fun i wr => ∃ k : Nat, k ≤ n ∧ k ≤ 32 ∧ i = .int .i64 (k : Int) ∧ Blk wr w.heap.size 5 (cellsOf (b.take k) ++ List.replicate (32 - k) (Value.int .u8 0)) ∧ Only [] w wr) (fun i _ => 32 - (intOf i).toNat)
  case atStart => exact ⟨0, by omega, by omega, rfl, hB1, hO1⟩
  case round =>
    obtain ⟨k, hk, hk32, rfl, hB, hO⟩ := hrel
    by_cases hlt : k < n ∧ k < 32
    · obtain ⟨h1, h2⟩ := hlt
      have h1I : (k : Int) < (n : Int) := by omega
      have h2I : (k : Int) < 32 := by omega
      have hkb : k < b.length := by rw [← Hn.out]; exact h1
      obtain ⟨g, o, rfl, hg, hc⟩ := hA (by rw [cellsOf_length]; omega)
      have c1 : wr.cell? ⟨g, o + k, none⟩ = some (.int .u8 ((b.getD k 0).toNat : Int)) := by
        rw [hO.cell (p := ⟨g, o + k, none⟩) hg (by simp), hc k (by simpa using hkb)]
        exact cellsOf_getD hkb
      have c2 : wr.cell? ⟨w.heap.size, k, none⟩ = some (.int .u8 0) := by
        refine hB.cellv ?_
        have hl : (cellsOf (b.take k)).length = k := by simp; omega
        rw [List.getElem?_append_right (by omega), hl, Nat.sub_self, List.getElem?_replicate, if_pos (by omega)]
      have fz := hB.frozen k
      have hset := kfill_set hkb h2
      have hB' := hB.set k (.int .u8 ((b.getD k 0).toNat : Int))
      rw [hset] at hB'
      have HB' := Lib.hid hB'
      clear hset hB' hB hc
      revert c1 HB'
      generalize b.getD k 0 = x
      intro c1 HB'
      go_wp2
      go_roundw
      case rel => exact ⟨k + 1, by omega, by omega, by go_num, HB'.out, hO.setCell (p := ⟨w.heap.size, k, none⟩) (.inr (Nat.le_refl _)) _⟩
      case measure => simp [intOf]; omega
    · have e : cellsOf (b.take k) ++ List.replicate (32 - k) (Value.int .u8 0) = cellsOf (kp b) := by
        have hb := Hn.out
        rw [kp, cellsOf_append]
        by_cases h32 : k = 32
        · subst h32
          rw [show 32 - b.length = 0 by omega]
          simp [cellsOf]
        · have : k = b.length := by omega
          subst this
          rw [List.take_of_length_le (Nat.le_refl _), List.take_of_length_le (by omega)]
          simp [cellsOf, B8]
      rw [e] at hB
      have hor : (n : Int) ≤ (k : Int) ∨ ((k : Int) < (n : Int) ∧ (32 : Int) ≤ (k : Int)) := by omega
      clear e hlt
      rcases hor with h | ⟨h, h'⟩
      all_goals
        go_wp2
        go_ret
        exact ⟨rfl, hB, hO⟩

theorem nonce_any (w : World) (A : Option Addr) (n c : Nat) (b : List UInt8) (hn : n = b.length) (hm : n ≤ 9223372036854775807) (hA : RV w A (cellsOf b)) :
    Calls Tryd.prog 36 #[.slice A n c] w fun e w' => e = .returned (.slice (some ⟨w.heap.size, 0, none⟩) 16 32) ∧ RV w' (some ⟨w.heap.size, 0, none⟩) (cellsOf (np b)) ∧ Only [] w w' := by
  go_enter Tryd.func36, Tryd.ntmps36
  have Hn := Lib.hid hn
  clear hn
  go_wp2_with (go_at_call 35; refine (key_any w A n c b Hn.out hm hA).mono ?_; rintro e w1 ⟨rfl, hB1, hO1⟩)
  go_ret
  refine ⟨rfl, ?_, hO1⟩
  have h := RV.slice rfl hB1.rv 0 16
  simpa [np, cellsOf, List.map_take] using h

theorem refused_yes (w : World) (A : Option Addr) (c : Nat) (e : Int) :
    Calls Tryd.prog 27 #[.slice A 0 c, .int .i64 e, .int .i64 e] w fun r w' => r = .returned (.bool true) ∧ w = w' := by
  go_enter Tryd.func27, Tryd.ntmps27
  go_wp2
  go_ret
  exact ⟨rfl, rfl⟩

theorem stream_no (w : World) (A B : Option Addr) (na ca nb cb : Nat) (n : Int) (h : na ≠ 32 ∨ nb ≠ 16 ∨ n < 0 ∨ 65504 < n) :
    Calls Tryd.prog 29 #[.slice A na ca, .slice B nb cb, .int .i64 n] w fun e w' => e = .returned (.tuple #[.slice none 0 0, .int .i64 2]) ∧ w = w' := by
  by_cases h1 : na = 32
  · subst h1
    by_cases h2 : nb = 16
    · subst h2
      rcases h with h | h | h | h
      · exact absurd rfl h
      · exact absurd rfl h
      · go_enter Tryd.func29, Tryd.ntmps29
        go_wp2
        go_ret2
        exact ⟨rfl, rfl⟩
      · have h' : 0 ≤ n := by omega
        go_enter Tryd.func29, Tryd.ntmps29
        go_wp2
        go_ret2
        exact ⟨rfl, rfl⟩
    · have e1 : ((nb : Int) == 16) = false := beq_eq_false_iff_ne.2 (by omega)
      have e2 : ((nb : Int) != 16) = true := by rw [bne_iff_ne]; omega
      clear h
      go_enter Tryd.func29, Tryd.ntmps29
      go_wp2
      go_ret2
      exact ⟨rfl, rfl⟩
  · have e1 : ((na : Int) == 32) = false := beq_eq_false_iff_ne.2 (by omega)
    have e2 : ((na : Int) != 32) = true := by rw [bne_iff_ne]; omega
    clear h
    go_enter Tryd.func29, Tryd.ntmps29
    go_wp2
    go_ret2
    exact ⟨rfl, rfl⟩

theorem seal_no (w : World) (A B C : Option Addr) (na ca nb cb nc cc : Nat) (h : na ≠ 32 ∨ nb ≠ 16 ∨ (65504 : Int) < (nc : Int)) :
    Calls Tryd.prog 31 #[.slice A na ca, .slice B nb cb, .slice C nc cc] w fun e w' => e = .returned (.tuple #[.slice none 0 0, .int .i64 2]) ∧ w = w' := by
  by_cases h1 : na = 32
  · subst h1
    by_cases h2 : nb = 16
    · subst h2
      rcases h with h | h | h
      · exact absurd rfl h
      · exact absurd rfl h
      · go_enter Tryd.func31, Tryd.ntmps31
        go_wp2
        go_ret2
        exact ⟨rfl, rfl⟩
    · have e1 : ((nb : Int) == 16) = false := beq_eq_false_iff_ne.2 (by omega)
      have e2 : ((nb : Int) != 16) = true := by rw [bne_iff_ne]; omega
      clear h
      go_enter Tryd.func31, Tryd.ntmps31
      go_wp2
      go_ret2
      exact ⟨rfl, rfl⟩
  · have e1 : ((na : Int) == 32) = false := beq_eq_false_iff_ne.2 (by omega)
    have e2 : ((na : Int) != 32) = true := by rw [bne_iff_ne]; omega
    clear h
    go_enter Tryd.func31, Tryd.ntmps31
    go_wp2
    go_ret2
    exact ⟨rfl, rfl⟩
theorem sealB_at (w : World) (A B C : Option Addr) (ca cb n cc : Nat) (key nonce b : List UInt8) (hn' : n = b.length) (hk : key.length = 32) (hn : nonce.length = 16) (hb : (n : Int) ≤ 65504) (hca : 32 ≤ ca) (hcb : 16 ≤ cb) (hcc : n ≤ cc) (hA : RV w A (cellsOf key)) (hB : RV w B (cellsOf nonce)) (hC : RV w C (cellsOf b)) (hgl : Gl w) :
    Calls Tryd.prog 31 #[.slice A 32 ca, .slice B 16 cb, .slice C n cc] w fun e w' => ∃ A' c' G, e = .returned (.tuple #[.slice A' (n + 32) c', .int .i64 0]) ∧ OwnS w' 5 A' c' (cellsOf (Sl.sealB key nonce b)) G ∧ New w G ∧ Only [] w w' := by
  subst hn'
  exact sealB_any w A B C ca cb cc key nonce b hk hn hb hca hcb hcc hA hB hC hgl
end Go.Proofs.YtglbgocldenooaaDoor
