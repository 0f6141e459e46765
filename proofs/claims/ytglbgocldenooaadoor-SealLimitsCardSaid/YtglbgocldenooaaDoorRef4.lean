/-
  THE WALK of the reference's Hash: it computes Bl.hash.
-/
import Derived.Test.YtglbgocldenooaaDoorRef3
import Derived.Test.YtglbgocldenooaaDoorApi3
namespace Go.Proofs.YtglbgocldenooaaDoor
open Go.RowKit

namespace Bl
/-- The state after i of the padded message's blocks. -/
def stR (n : Nat) (M : List UInt8) (i : Nat) : List Nat :=
  if i ≤ (M.length - 1) / 64 then stq n M i else comp (stq n M ((M.length - 1) / 64)) (M.drop (64 * ((M.length - 1) / 64))) M.length true
theorem stR_words {n : Nat} {M : List UInt8} (h : n ≤ 32) (i : Nat) : Words 8 (stR n M i) := by
  unfold stR
  split
  · exact stq_words h i
  · exact comp_words (stq_words h _)
theorem stR_zero (n : Nat) (M : List UInt8) : stR n M 0 = st0 n := by simp [stR, stq]
theorem padded_get {M : List UInt8} {p i j : Nat} (_hj : j < 64) (_hi : 64 * i + 64 ≤ M.length + p) : (((M ++ List.replicate p 0).drop (64 * i)).take 64).getD j 0 = (M.drop (64 * i)).getD j 0 := by
  simp only [List.getD_eq_getElem?_getD, List.getElem?_take, List.getElem?_drop, List.getElem?_append, List.getElem?_replicate]
  rw [if_pos _hj]
  by_cases h : 64 * i + j < M.length
  · rw [if_pos h]
  · rw [if_neg h, if_pos (by omega), List.getElem?_eq_none (by omega)]; rfl
theorem stR_next {n : Nat} {M : List UInt8} {p i : Nat} (hi : i ≤ (M.length - 1) / 64) (hp : M.length + p = 64 * ((M.length - 1) / 64) + 64) :
    stR n M (i + 1) = comp (stR n M i) (((M ++ List.replicate p 0).drop (64 * i)).take 64) (if M.length < 64 * i + 64 then M.length else 64 * i + 64) (decide (64 * i + 64 = M.length + p)) := by
  have e : comp (stR n M i) (((M ++ List.replicate p 0).drop (64 * i)).take 64) = comp (stR n M i) (M.drop (64 * i)) := by
    funext t l
    exact comp_congr (fun j hj => padded_get hj (by omega)) _ _ _
  rw [e]
  by_cases h : i = (M.length - 1) / 64
  · subst h
    rw [decide_eq_true (by omega)]
    unfold stR
    rw [if_neg (by omega), if_pos (Nat.le_refl _)]
    congr 1
    split <;> omega
  · rw [decide_eq_false (by omega), if_neg (by omega)]
    unfold stR
    rw [if_pos (by omega), if_pos (by omega)]
    rfl
theorem hashM_stR (n : Nat) (M : List UInt8) : leb (stR n M ((M.length - 1) / 64 + 1)) = hashM n M := by
  unfold stR hashM
  rw [if_neg (by omega)]
theorem leb_next (ws : List Nat) (k : Nat) (hk : k < 8) : (leb ws).take (4 * k) ++ [UInt8.ofNat (ws.getD k 0), UInt8.ofNat (ws.getD k 0 / 256), UInt8.ofNat (ws.getD k 0 / 65536), UInt8.ofNat (ws.getD k 0 / 16777216)] = (leb ws).take (4 * (k + 1)) := by
  rw [show 4 * (k + 1) = 4 * k + 4 by omega, List.take_add]
  congr 1
  unfold leb
  rw [← List.map_drop, ← List.map_take]
  rcases (show k = 0 ∨ k = 1 ∨ k = 2 ∨ k = 3 ∨ k = 4 ∨ k = 5 ∨ k = 6 ∨ k = 7 by omega) with rfl | rfl | rfl | rfl | rfl | rfl | rfl | rfl <;> simp [List.range, List.range.loop]
end Bl

theorem u8_cell (x : Nat) : Value.int .u8 ((x : Int) % 256) = B8 (UInt8.ofNat x) := by simp [B8]
theorem four_cells (x : Nat) (h : x < 4294967296) : #[Value.int .u8 ((x : Int) % 256), .int .u8 ((x : Int) / 256 % 256), .int .u8 ((x : Int) / 65536 % 256), .int .u8 ((x : Int) / 16777216)] = (cellsOf [UInt8.ofNat x, UInt8.ofNat (x / 256), UInt8.ofNat (x / 65536), UInt8.ofNat (x / 16777216)]).toArray := by
  have e : x / 16777216 % 256 = x / 16777216 := Nat.mod_eq_of_lt (by omega)
  simp only [cellsOf, List.map_cons, List.map_nil, B8, UInt8.toNat_ofNat', Nat.reducePow, e]
  rfl
theorem RV.new {w : World} {t : TypeId} {arr : Array Value} {xs : List Value} (h : arr = xs.toArray) : RV (w.alloc (.cells arr t)) (some ⟨w.heap.size, 0, none⟩) xs := by
  subst h
  exact fun _ => ⟨_, 0, rfl, (Blk.new w t xs).lt, fun j _ => by rw [Nat.zero_add]; exact (Blk.new w t xs).cell j⟩
theorem RV.slice {w : World} {A : Option Addr} {xs : List Value} {g o : Nat} (hA : A = some ⟨g, o, none⟩) (h : RV w A xs) (i n : Nat) : RV w (some ⟨g, o + i, none⟩) ((xs.drop i).take n) := by
  intro h0
  have hx : 0 < xs.length := by simp at h0; omega
  obtain ⟨g', o', e, hg, hc⟩ := h hx
  rw [hA] at e
  injection e with e
  injection e with e1 e2
  subst e1 e2
  refine ⟨g, o + i, rfl, hg, fun j hj => ?_⟩
  have hj' : i + j < xs.length ∧ j < n := by simp at hj; omega
  rw [Nat.add_assoc, hc (i + j) hj'.1, List.getElem?_take, if_pos hj'.2, List.getElem?_drop]

theorem compress_at (w : World) (A B : Option Addr) (ca cb nb : Nat) (ti : Int) (lb : Bool) (st : List Nat) (bs : List UInt8) (t : Nat) (last : Bool) (hnb : nb = 64) (hti : ti = (t : Int)) (hl : lb = last) (hst : Bl.Words 8 st) (hbs : bs.length = 64) (hA : RV w A (wcells st)) (hB : RV w B (cellsOf bs)) (hca : 8 ≤ ca) (hcb : 64 ≤ cb) (ht : t < 4611686018427387904) :
    Calls Tryd.prog 41 #[.slice A 8 ca, .slice B nb cb, .int .i64 ti, .bool lb] w fun e w' => ∃ A' c' G, e = .returned (.slice A' 8 c') ∧ OwnS w' 43 A' c' (wcells (Bl.comp st bs t last)) G ∧ New w G ∧ Only [] w w' := by
  subst hnb hti hl
  exact compress_ref w A B ca cb st bs t lb hst hbs hA hB hca hcb ht

set_option maxHeartbeats 8000000 in
set_option maxRecDepth 100000 in
theorem hash_ref (w : World) (A B : Option Addr) (ca cb : Nat) (key b : List UInt8) (hk : key.length ≤ 32) (hA : RV w A (cellsOf key)) (hB : RV w B (cellsOf b)) (_hca : key.length ≤ ca) (_hcb : b.length ≤ cb) (hbl : b.length ≤ 1099511627) :
    Calls Tryd.prog 18 #[.slice A key.length ca, .slice B b.length cb] w fun e w' => ∃ A' c' G, e = .returned (.slice A' 32 c') ∧ OwnS w' 5 A' c' (cellsOf (Bl.hash key b)) G ∧ New w G ∧ Only [] w w' := by
  go_enter Tryd.func18, Tryd.ntmps18
  go_upto_if 14 with (fail)
  go_cut [5] (fun m wx => ∃ (Am : Option Addr) (cm : Nat) (G : Option Nat), m = .slice Am (Bl.kblock key).length cm ∧ OwnS wx 5 Am cm (cellsOf (Bl.kblock key)) G ∧ New w G ∧ Only [] w wx)
  case first =>
    by_cases h0 : 0 < key.length
    · have h0I : (0 : Int) < (key.length : Int) := by omega
      go_wp2_with (at_builtin; refine wpl_append8 rfl (.tmp 15) (.tmp 16) rfl none 0 0 [] none rfl rfl (OwnS.none _ _) A key.length ca key rfl rfl hA (by simp; omega) ?_; intro A1 c1 w1 G1 hown1 hO1 hG1)
      rw [List.nil_append] at hown1
      have hG1' : New w G1 := (New.none w).next (Nat.le_refl _) hG1
      have hO1' : Only [] w w1 := hO1
      clear hO1 hG1
      go_loopw [5] (fun m wr => ∃ (k : Nat) (Am : Option Addr) (cm : Nat) (G : Option Nat), key.length + k ≤ 64 ∧ m = .slice Am (key.length + k) cm ∧ OwnS wr 5 Am cm (cellsOf (key ++ List.replicate k 0)) G ∧ New w G ∧ Only [] w wr) (fun m _ => 64 - lenV m)
      case atStart => exact ⟨0, A1, c1, G1, by omega, by simp, by simpa using hown1, hG1', hO1'⟩
      case round =>
        clear hown1 hG1' hO1'
        obtain ⟨k, Am, cm, G, hkk, rfl, hown, hnew, hO⟩ := hrel
        obtain ⟨n, hn⟩ : ∃ n, n = key.length + k := ⟨_, rfl⟩
        rw [← hn]
        rw [← hn] at hkk
        have Hn := Lib.hid hn
        clear hn
        by_cases hlt : n < 64
        · have hltI : (n : Int) < 64 := by omega
          go_wp2_with (at_builtin; refine wpl_append8 rfl (.tmp 21) (.tmp 22) rfl Am n cm _ G rfl (by rw [Hn.out]; simp) (hown.keep ((Only.refl [] wr).alloc _) (by simp)) (some ⟨wr.heap.size, 0, none⟩) 1 1 [0] rfl rfl (RV.one wr _ _) (by have := Hn.out; simp; omega) ?_; intro A' c' w2 G' hown2 hO2 hG2)
          go_roundw
          case rel =>
            have e := Hn.out
            refine ⟨k + 1, A', c', G', by omega, by rw [e, Nat.add_assoc], ?_, hnew.next (Nat.le_trans hO.size (by simp)) hG2, (hO.alloc _).trans hO2 hnew.out⟩
            rw [List.replicate_succ', ← List.append_assoc]
            exact hown2
          case measure => simp only [lenV]; omega
        · obtain rfl : n = 64 := by omega
          go_wp2
          go_meet
          have e : key ++ List.replicate k (0 : UInt8) = Bl.kblock key := by
            unfold Bl.kblock
            rw [if_neg (by omega), show 64 - key.length = k by have := Hn.out; omega]
          rw [e] at hown
          exact ⟨Am, cm, G, by rw [← e]; simp [← Hn.out], hown, hnew, hO⟩
    · have h0I : key.length ≤ 0 := by omega
      go_wp2
      go_meet
      have e : Bl.kblock key = [] := by unfold Bl.kblock; rw [if_pos (by omega)]
      rw [e]
      exact ⟨none, 0, none, rfl, OwnS.none _ _, New.none _, Only.refl _ _⟩
  case rest =>
    obtain ⟨Am, cm, G, rfl, hown, hnew, hO⟩ := hcut
    have hkb : (Bl.kblock key).length ≤ 64 := by unfold Bl.kblock; split <;> simp; omega
    have hBr : RV wc B (cellsOf b) := hB.keep0 hO
    obtain ⟨nk, hnk⟩ : ∃ n, n = (Bl.kblock key).length := ⟨_, rfl⟩
    obtain ⟨ny, hny⟩ : ∃ n, n = key.length := ⟨_, rfl⟩
    obtain ⟨nb, hnb⟩ : ∃ n, n = b.length := ⟨_, rfl⟩
    rw [← hnk] at hkb
    rw [← hny] at hk
    rw [← hnb] at hbl
    rw [← hnk, ← hny, ← hnb]
    have Hnk := Lib.hid hnk
    have Hny := Lib.hid hny
    have Hnb := Lib.hid hnb
    clear hnk hny hnb
    obtain ⟨z, Hz⟩ : ∃ n, Hid (n = 1779033703 ^^^ (16842784 + ny * 256)) := ⟨_, rfl⟩
    have xz : bits .xor .u32 1779033703 (16842784 + (ny : Int) * 256) = (z : Int) := by
      have := u32_xor_nat 1779033703 (16842784 + ny * 256) (by decide) (by omega)
      rw [Hz.out, ← this]
      congr 1
    go_wp2_with (first
      | (at_builtin; refine wpl_append8 rfl (.tmp 24) (.tmp 25) rfl Am nk cm _ G rfl Hnk.out hown B nb cb b rfl Hnb.out hBr (by rw [← Hnk.out, ← Hnb.out]; omega) ?_
         intro A1 c1 w1 G1 hown1 hO1 hG1
         have hO1' := hO.trans hO1 hnew.out
         have hnew1 := hnew.next hO.size hG1
         clear hO1 hG1)
      | (go_at_call 40; refine (words_any w1).mono ?_
         rintro e w2 ⟨rfl, hBw, hO2⟩
         have hown2 := hown1.keep hO2 (by simp)
         have c0 : w2.cell? ⟨w1.heap.size, 0, none⟩ = some (.int .u32 1779033703) := hBw.cellv rfl
         have f0 := hBw.frozen 0))
    have hw1 := hown1.lt
    have hBh : Blk (w2.setCell ⟨w1.heap.size, 0, none⟩ (.int .u32 (z : Int))) w1.heap.size 43 (wcells (Bl.st0 ny)) := by
      have e : Bl.st0 ny = Bl.iv.set 0 z := by rw [Hz.out]; rfl
      rw [e, ← wcells_set]
      exact hBw.set 0 _
    have hO3 : Only [w1.heap.size] w2 (w2.setCell ⟨w1.heap.size, 0, none⟩ (.int .u32 (z : Int))) := (Only.refl _ _).setCell (p := ⟨w1.heap.size, 0, none⟩) (.inl (by simp)) _
    have hown3 := hown2.keep hO3 (fun g hg => by have := hw1 g hg; simp; omega)
    have hO3' : Only [] w (w2.setCell ⟨w1.heap.size, 0, none⟩ (.int .u32 (z : Int))) := (hO1'.trans' hO2).trans hO3 (by have := hO1'.size; simp; omega)
    have hgh3 : ∀ g, G1 = some g → g ≠ w1.heap.size := fun g hg => by have := hw1 g hg; omega
    clear xz c0 f0 hBw hown1 hown2 hO1' hO2 hO3 hown hnew hO hw1 hB hA
    revert hBh hown3 hO3'
    generalize World.setCell _ _ _ = W3
    intro hBh hown3 hO3'
    revert hBh hgh3
    generalize w1.heap.size = gh
    intro hgh3 hBh
    obtain ⟨M, hM⟩ : ∃ M, M = Bl.kblock key ++ b := ⟨_, rfl⟩
    rw [← hM] at hown3
    obtain ⟨nM, hnM⟩ : ∃ n, n = nk + nb := ⟨_, rfl⟩
    have hml : nM = M.length := by rw [hnM, hM, List.length_append, Hnk.out, Hnb.out]
    rw [← Int.natCast_add, ← hnM]
    obtain ⟨q, hq⟩ : ∃ q, q = (nM - 1) / 64 := ⟨_, rfl⟩
    have hq1 : nM ≤ 64 * q + 64 := by omega
    have hq2 : 64 * q < nM ∨ nM = 0 ∧ q = 0 := by omega
    have hqb : q ≤ 1099511627 := by omega
    have hMb : nM ≤ 1099511691 := by omega
    have Hq2 := Lib.hid hq2
    have Hq := Lib.hid hq
    have Hml := Lib.hid hml
    have HM := Lib.hid hM
    clear hq2 hq hml hM hnM Hnk Hz hkb
    go_loopw [5] (fun m wr => ∃ (k : Nat) (Am : Option Addr) (cm : Nat) (G : Option Nat), nM + k ≤ 64 * q + 64 ∧ m = .slice Am (nM + k) cm ∧ OwnS wr 5 Am cm (cellsOf (M ++ List.replicate k 0)) G ∧ New w G ∧ (∀ g, G = some g → g ≠ gh) ∧ Blk wr gh 43 (wcells (Bl.st0 ny)) ∧ Only [] w wr) (fun m _ => 64 * q + 64 - lenV m)
    case atStart => exact ⟨0, A1, c1, G1, by omega, rfl, by simpa using hown3, hnew1, hgh3, hBh, hO3'⟩
    case round =>
      clear hown3 hO3' hBh hgh3 hnew1
      obtain ⟨k, Am, cm, G, hkk, rfl, hown, hnew, hgh, hBh, hO⟩ := hrel
      obtain ⟨n, hn⟩ : ∃ n, n = nM + k := ⟨_, rfl⟩
      rw [← hn]
      rw [← hn] at hkk
      have hnb : n ≤ 100 * 1099511627 := by omega
      by_cases hlt : n < 64 * q + 64
      · have hc : ((n : Int) == 0) = true ∨ (((n : Int) == 0) = false ∧ ((n : Int) % 64 == 0) = false ∧ ((n : Int) % 64 != 0) = true) := by
          by_cases h0 : n = 0
          · left; exact beq_iff_eq.2 (by omega)
          · right
            have h1 : ¬ n % 64 = 0 := by
              intro h64
              rcases Hq2.out with h | ⟨h, h'⟩ <;> omega
            refine ⟨beq_eq_false_iff_ne.2 (by omega), beq_eq_false_iff_ne.2 (by omega), ?_⟩
            rw [bne_iff_ne]; omega
        have Hn := Lib.hid hn
        clear hn
        rcases hc with hc | ⟨hc, hc2, hc3⟩
        all_goals
          go_wp2_with (at_builtin; refine wpl_append8 rfl (.tmp 50) (.tmp 51) rfl Am n cm _ G rfl (by rw [Hn.out, Hml.out]; simp) (hown.keep ((Only.refl [] wr).alloc _) (by simp)) (some ⟨wr.heap.size, 0, none⟩) 1 1 [0] rfl rfl (RV.one wr _ _) (by have := Hn.out; have := Hml.out; simp; omega) ?_; intro A' c' w2 G' hown2 hO2 hG2)
          go_roundw
          case rel =>
            have e := Hn.out
            have hlt' := hBh.lt
            refine ⟨k + 1, A', c', G', by omega, by rw [e, Nat.add_assoc], ?_, hnew.next (Nat.le_trans hO.size (by simp)) hG2, ?_, (hBh.alloc _).keep hO2 (fun hm => ?_), (hO.alloc _).trans hO2 hnew.out⟩
            · rw [List.replicate_succ', ← List.append_assoc]
              exact hown2
            · intro g hg
              rcases hG2 with h | h
              · exact hgh g (by rw [← h]; exact hg)
              · rw [h] at hg
                injection hg with hg
                simp at hg
                omega
            · cases G with
              | none => simp at hm
              | some g => exact hgh g rfl (by simp at hm; exact hm.symm)
          case measure => simp only [lenV]; omega
      · have hkN : nM + k = 64 * q + 64 := by omega
        obtain ⟨N, rfl⟩ : ∃ N, N = n := ⟨_, rfl⟩
        have hNq : N = 64 * q + 64 := by omega
        have t0 : ((N : Int) == 0) = false := beq_eq_false_iff_ne.2 (by omega)
        have t1 : ((N : Int) % 64 == 0) = true := beq_iff_eq.2 (by omega)
        have t2 : ((N : Int) % 64 != 0) = false := by rw [bne_eq_false_iff_eq]; omega
        have hNl : N = (M ++ List.replicate k (0 : UInt8)).length := by rw [List.length_append, List.length_replicate, ← Hml.out]; omega
        obtain ⟨gm, mrest, rfl, rfl, hBm⟩ := hown.blk (by rw [cellsOf_length, ← hNl]; omega)
        have hcm : N ≤ cm := by rw [hNl]; simpa using hown.le
        have hcmx : cm ≤ maxLen := by
          rcases hown with h | ⟨_, _, _, _, _, _, h⟩
          · cases h.1
          · exact h
        unfold maxLen at hcmx
        have HkN := Lib.hid hkN
        have HNl := Lib.hid hNl
        have HNq := Lib.hid hNq
        have hgm := hBm.lt
        have hN64 : 64 ≤ N := by omega
        have hq64 : 64 * q ≤ N := by omega
        have hnN : nM ≤ N := by omega
        have hRh : RV wr (some ⟨gh, 0, none⟩) (wcells (Bl.stR ny M 0)) := by rw [Bl.stR_zero]; exact fun _ => ⟨gh, 0, rfl, hBh.lt, fun j _ => by rw [Nat.zero_add]; exact hBh.cell j⟩
        have hRm : RV wr (some ⟨gm, 0, none⟩) (cellsOf (M ++ List.replicate k 0)) := hown.reads
        clear hn hkN hlt hkk hNl hNq hown hgh hBh hnew hBm
        obtain ⟨wp, rfl⟩ : ∃ wp : World, wp = wr := ⟨_, rfl⟩
        go_wp2
        go_loopw [6, 8, 9] (fun h a _ wr => ∃ (i x : Nat) (Ah : Option Addr) (ch : Nat), i ≤ q + 1 ∧ x = 64 * i ∧ a = .int .i64 (x : Int) ∧ h = .slice Ah 8 ch ∧ 8 ≤ ch ∧ RV wr Ah (wcells (Bl.stR ny M i)) ∧ Only [] wp wr) (fun _ a _ _ => N - (intOf a).toNat)
        case atStart => exact ⟨0, 0, _, 8, by omega, rfl, rfl, rfl, by omega, hRh, Only.refl _ _⟩
        case round =>
          clear hRh t0 t1 t2
          obtain ⟨i, x, Ah, ch, hi, hx, rfl, rfl, hch, hRh, hOr⟩ := hrel
          by_cases hlt : i ≤ q
          · have hNq := HNq.out
            have hxN : x + 64 ≤ N := by omega
            have hxI : (x : Int) < (N : Int) := by omega
            have hxc : ¬ cm = x := by omega
            have hxcI : (x : Int) + 64 ≤ (cm : Int) := by omega
            have hws := Bl.stR_words (n := ny) (M := M) hk i
            have hRb : RV wr (some ⟨gm, x, none⟩) (cellsOf (((M ++ List.replicate k 0).drop x).take 64)) := by
              have h1 := RV.slice rfl (hRm.keep0 hOr) x 64
              rw [Nat.zero_add] at h1
              simpa [cellsOf, List.map_take, List.map_drop] using h1
            have hbl64 : (((M ++ List.replicate k (0 : UInt8)).drop x).take 64).length = 64 := by rw [List.length_take, List.length_drop, ← HNl.out]; omega
            have hnext : Bl.stR ny M (i + 1) = Bl.comp (Bl.stR ny M i) (((M ++ List.replicate k 0).drop x).take 64) (if nM < x + 64 then nM else x + 64) (decide (x + 64 = N)) := by
              have h1 := Bl.stR_next (n := ny) (M := M) (p := k) (i := i) (by rw [← Hml.out, ← Hq.out]; exact hlt) (by rw [← Hml.out, ← Hq.out]; exact HkN.out)
              rw [h1, ← Hml.out, HkN.out, ← hNq, hx]
            have Hx := Lib.hid hx
            have Hnext := Lib.hid hnext
            have Hbl64 := Lib.hid hbl64
            have hcases : (nM < x + 64 ∧ x + 64 = N) ∨ (x + 64 ≤ nM ∧ x + 64 = N) ∨ (x + 64 ≤ nM ∧ x + 64 ≠ N) := by
              by_cases h1 : x + 64 = N
              · omega
              · have := Hq2.out
                omega
            clear hx hnext hbl64 hNq
            rcases hcases with ⟨ha, hb⟩ | ⟨ha, hb⟩ | ⟨ha, hb⟩
            · have haI : (nM : Int) < (x : Int) + 64 := by omega
              have hbI : ((x : Int) + 64 == (N : Int)) = true := beq_iff_eq.2 (by omega)
              have Hb := Lib.hid hb
              clear hb
              go_wp2_with (go_at_call 41; refine (compress_at _ Ah _ ch _ _ _ _ _ (((M ++ List.replicate k 0).drop x).take 64) nM true (by omega) rfl rfl hws Hbl64.out hRh hRb hch (by omega) (by omega)).mono ?_; rintro e w2 ⟨A', c', G', rfl, hown', hnew', hO'⟩)
              go_roundw
              case rel =>
                refine ⟨i + 1, x + 64, A', c', by omega, by have := Hx.out; omega, by go_num, rfl, by simpa [(Bl.comp_words hws).1] using hown'.le, ?_, hOr.trans' hO'⟩
                rw [Hnext.out, if_pos ha, decide_eq_true Hb.out]
                exact hown'.reads
              case measure => simp [intOf]; omega
            · have haI : (x : Int) + 64 ≤ (nM : Int) := by omega
              have hbI : ((x : Int) + 64 == (N : Int)) = true := beq_iff_eq.2 (by omega)
              have Hb := Lib.hid hb
              clear hb
              go_wp2_with (go_at_call 41; refine (compress_at _ Ah _ ch _ _ _ _ _ (((M ++ List.replicate k 0).drop x).take 64) (x + 64) true (by omega) rfl rfl hws Hbl64.out hRh hRb hch (by omega) (by omega)).mono ?_; rintro e w2 ⟨A', c', G', rfl, hown', hnew', hO'⟩)
              go_roundw
              case rel =>
                refine ⟨i + 1, x + 64, A', c', by omega, by have := Hx.out; omega, by go_num, rfl, by simpa [(Bl.comp_words hws).1] using hown'.le, ?_, hOr.trans' hO'⟩
                rw [Hnext.out, if_neg (by omega), decide_eq_true Hb.out]
                exact hown'.reads
              case measure => simp [intOf]; omega
            · have haI : (x : Int) + 64 ≤ (nM : Int) := by omega
              have hbI : ((x : Int) + 64 == (N : Int)) = false := beq_eq_false_iff_ne.2 (by omega)
              have Hb := Lib.hid hb
              clear hb
              go_wp2_with (go_at_call 41; refine (compress_at _ Ah _ ch _ _ _ _ _ (((M ++ List.replicate k 0).drop x).take 64) (x + 64) false (by omega) rfl rfl hws Hbl64.out hRh hRb hch (by omega) (by omega)).mono ?_; rintro e w2 ⟨A', c', G', rfl, hown', hnew', hO'⟩)
              go_roundw
              case rel =>
                refine ⟨i + 1, x + 64, A', c', by omega, by have := Hx.out; omega, by go_num, rfl, by simpa [(Bl.comp_words hws).1] using hown'.le, ?_, hOr.trans' hO'⟩
                rw [Hnext.out, if_neg (by omega), decide_eq_false Hb.out]
                exact hown'.reads
              case measure => simp [intOf]; omega
          · obtain rfl : i = q + 1 := by omega
            obtain rfl : x = N := by have := HNq.out; omega
            have hws := Bl.stR_words (n := ny) (M := M) hk (q + 1)
            obtain ⟨ws, Hws⟩ : ∃ ws, Hid (ws = Bl.stR ny M (q + 1)) := ⟨_, rfl⟩
            rw [← Hws.out] at hws hRh
            obtain ⟨ga, oa, rfl, hga, hca⟩ := hRh (by rw [wcells_length, hws.1]; decide)
            have Hca := Lib.hid hca
            clear hca hlt hi hx
            obtain ⟨wv, rfl⟩ : ∃ wv : World, wv = wr := ⟨_, rfl⟩
            go_wp2
            go_loopw [10, 11] (fun m i wr => ∃ (k : Nat) (Ao : Option Addr) (co : Nat) (G : Option Nat), k ≤ 8 ∧ i = .int .i64 k ∧ m = .slice Ao (4 * k) co ∧ OwnS wr 5 Ao co (cellsOf ((Bl.leb ws).take (4 * k))) G ∧ New wv G ∧ Only [] wv wr) (fun _ i _ => 8 - (intOf i).toNat)
            case atStart => exact ⟨0, none, 0, none, by omega, rfl, rfl, OwnS.none _ _, New.none _, Only.refl _ _⟩
            case round =>
              obtain ⟨k, Ao, co, G, hk8, rfl, rfl, hown, hnewo, hOo⟩ := hrel
              by_cases hlt : k < 8
              · have hltI : (k : Int) < 8 := by omega
                obtain ⟨n0, H0⟩ : ∃ n, Hid (n = ws.getD k 0) := ⟨_, rfl⟩
                have l0 : n0 < 4294967296 := by rw [H0.out]; exact hws.getD _
                have c0 : wr.cell? ⟨ga, oa + k, none⟩ = some (.int .u32 (n0 : Int)) := by
                  rw [hOo.cell (p := ⟨ga, oa + k, none⟩) hga (by simp), Hca.out k (by rw [wcells_length, hws.1]; exact hlt), H0.out]
                  exact wcells_get (wget hws hlt)
                have hgar : ga < wr.heap.size := Nat.lt_of_lt_of_le hga hOo.size
                have hgaG : ga ∉ G.toList := hnewo.far hga
                go_wp2
                refine Reg.wp G.toList [.r 0, .r 1, .r 2, .r 3, .r 4, .r 5, .r 6, .r 7, .r 8, .r 9, .r 10, .r 11, .r 12, .r 13, .r 14, .r 15, .r 16, .r 17, .r 18, .r 19, .r 20, .r 21, .r 22, .r 23, .e 24, .e 25, .r 26] (by kernel_rfl) (by kernel_rfl) (fun d _ _ _ _ h => by cases d <;> exact h) ?_
                simp only [Reg.pick, List.getD_cons_succ, List.getD_cons_zero]
                iterate 24 (apply Reg.read; (· (intro t K hK; go_simp; (try go_ints); (try ((go_ite <;> go_prune); go_simp)); (try go_ints); exact hK _ rfl)); (· (intro K hK; go_simp; exact hK _ rfl)))
                refine Reg.eff ?_
                go_wp2
                refine ⟨((Only.refl G.toList wr).alloc _).dd, ?_⟩
                clear c0
                refine Reg.eff ?_
                refine wpl_append8 rfl (.tmp 82) (.tmp 106) rfl Ao (4 * k) co _ G rfl (by simp; omega) ((hown.keep ((Only.refl [] wr).alloc _) (by simp)).drew) (some ⟨wr.heap.size, 0, none⟩) 4 4 [UInt8.ofNat n0, UInt8.ofNat (n0 / 256), UInt8.ofNat (n0 / 65536), UInt8.ofNat (n0 / 16777216)] rfl rfl (RV.new (four_cells n0 l0)).drew (by simp; omega) ?_
                intro A' c' w2 G' hown2 hO2 hG2
                refine Reg.done hO2 ?_
                (apply Reg.read; (· (intro t K hK; go_simp; (try go_ints); (try ((go_ite <;> go_prune); go_simp)); (try go_ints); exact hK _ rfl)); (· (intro K hK; go_simp; exact hK _ rfl)))
                refine Reg.fin ?_
                have hO1s := hOo.size
                have hO2' : Only [] wv w2 := ((hOo.alloc _).drew).trans hO2 hnewo.out
                clear hO2 hOo hown
                go_wp2
                go_roundw
                case rel =>
                  refine ⟨k + 1, A', c', G', by omega, by go_num, rfl, ?_, hnewo.next (Nat.le_trans hO1s (by simp)) hG2, hO2'⟩
                  rw [H0.out, Bl.leb_next ws k hlt] at hown2
                  exact hown2
                case measure => simp [intOf]; omega
              · obtain rfl : k = 8 := by omega
                rw [List.take_of_length_le (by simp), Hws.out, Hq.out, Hml.out, Bl.hashM_stR, HM.out, Hny.out] at hown
                go_wp2
                go_ret
                exact ⟨Ao, co, G, rfl, hown, hnewo.le (Nat.le_trans hO.size hOr.size), (hO.trans' hOr).trans' hOo⟩
end Go.Proofs.YtglbgocldenooaaDoor
