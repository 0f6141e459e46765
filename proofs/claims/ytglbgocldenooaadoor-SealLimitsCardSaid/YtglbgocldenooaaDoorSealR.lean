/-
  THE WALKS of the reference's Derive, Tag and Stream.
-/
import Derived.Test.YtglbgocldenooaaDoorSeal2
import Derived.Test.YtglbgocldenooaaDoorLawCopies
namespace Go.Proofs.YtglbgocldenooaaDoor
open Go.RowKit

theorem hash_at (w : World) (A B : Option Addr) (na nb ca cb : Nat) (key b : List UInt8) (hna : na = key.length) (hnb : nb = b.length) (hk : key.length ≤ 32) (hA : RV w A (cellsOf key)) (hB : RV w B (cellsOf b)) (hca : na ≤ ca) (hcb : nb ≤ cb) (hbl : b.length ≤ 1099511627) :
    Calls Tryd.prog 18 #[.slice A na ca, .slice B nb cb] w fun e w' => ∃ A' c' G, e = .returned (.slice A' 32 c') ∧ OwnS w' 5 A' c' (cellsOf (Bl.hash key b)) G ∧ New w G ∧ Only [] w w' := by
  subst hna hnb
  exact hash_ref w A B ca cb key b hk hA hB hca hcb hbl

set_option maxHeartbeats 1000000 in
theorem refDerive_any (w : World) (A : Option Addr) (na ca : Nat) (key : List UInt8) (s : ByteArray) (label : List UInt8) (hna : na = key.length) (hk : key.length ≤ 32) (hs : s.data.toList = label) (hll : label.length ≤ 1000) (hca : na ≤ ca) (hA : RV w A (cellsOf key)) :
    Calls Tryd.prog 28 #[.slice A na ca, .string s] w fun e w' => ∃ A' c' G, e = .returned (.slice A' 32 c') ∧ OwnS w' 5 A' c' (cellsOf (Bl.hash key label)) G ∧ New w G ∧ Only [] w w' := by
  have Hs := Lib.hid hs
  have Hna := Lib.hid hna
  clear hs hna
  go_enter Tryd.func28, Tryd.ntmps28
  go_wp2_with (first
    | (refine wpl_bytes rfl 9 22 5 (.tmp 6) rfl Tryd.underlying9 Tryd.underlying22 Tryd.underlying5 s label rfl Hs.out ?_
       intro c1 w1 hc1 hR1 hO1)
    | (go_at_call 18; refine (hash_at w1 A _ na label.length ca c1 key label Hna.out rfl hk (hA.keep0 hO1) hR1 hca hc1 (by omega)).mono ?_
       rintro e w2 ⟨A', c', G, rfl, hown, hnew, hO2⟩))
  go_ret
  exact ⟨A', c', G, rfl, hown, hnew.le hO1.size, hO1.trans' hO2⟩

set_option maxHeartbeats 1000000 in
theorem refTag_any (w : World) (A B : Option Addr) (ca nb cb : Nat) (key b : List UInt8) (hk : key.length = 32) (hnb : nb = b.length) (hca : 32 ≤ ca) (hcb : nb ≤ cb) (hbl : nb ≤ 1000000) (hA : RV w A (cellsOf key)) (hB : RV w B (cellsOf b)) :
    Calls Tryd.prog 37 #[.slice A 32 ca, .slice B nb cb] w fun e w' => ∃ A' c' G, e = .returned (.slice A' 16 c') ∧ 16 ≤ c' ∧ OwnS w' 5 A' c' (cellsOf (Sl.tag key b)) G ∧ New w G ∧ Only [] w w' := by
  have Hk := Lib.hid hk
  have Hnb := Lib.hid hnb
  clear hk hnb
  go_enter Tryd.func37, Tryd.ntmps37
  go_wp2_with (first
    | (go_at_call 28; refine (refDerive_any w A 32 ca key _ Sl.tagL Hk.out.symm (by rw [Hk.out]; decide) rfl (by decide) hca hA).mono ?_
       rintro e w1 ⟨A1, c1, G1, rfl, hown1, hnew1, hO1⟩)
    | (go_at_call 18; refine (hash_at w1 A1 B 32 nb c1 cb (Bl.hash key Sl.tagL) b (by simp) Hnb.out (by simp) hown1.reads (hB.keep0 hO1) (by simpa using hown1.le) hcb (by rw [← Hnb.out]; omega)).mono ?_
       rintro e w2 ⟨A2, c2, G2, rfl, hown2, hnew2, hO2⟩
       have hc2 : 32 ≤ c2 := by simpa using hown2.le
       have hc2I : (16 : Int) ≤ (c2 : Int) := by omega))
  go_ret
  refine ⟨_, c2, G2, rfl, by omega, ?_, hnew2.le hO1.size, hO1.trans' hO2⟩
  have e : cellsOf (Bl.hash (Bl.hash key Sl.tagL) b) = cellsOf (Sl.tag key b) ++ cellsOf ((Bl.hash (Bl.hash key Sl.tagL) b).drop 16) := by
    rw [← cellsOf_append, Sl.tag, List.take_append_drop]
  rw [e] at hown2
  exact hown2.front

set_option maxHeartbeats 4000000 in
set_option maxRecDepth 100000 in
theorem refStream_any (w : World) (A B : Option Addr) (ca cb : Nat) (key nonce : List UInt8) (n : Nat) (hk : key.length = 32) (hn : nonce.length = 16) (hnn : (n : Int) ≤ 65504) (hca : 32 ≤ ca) (_hcb : 16 ≤ cb) (hA : RV w A (cellsOf key)) (hB : RV w B (cellsOf nonce)) :
    Calls Tryd.prog 30 #[.slice A 32 ca, .slice B 16 cb, .int .i64 (n : Int)] w fun e w' => ∃ A' c' G, e = .returned (.slice A' n c') ∧ n ≤ c' ∧ OwnS w' 5 A' c' (cellsOf (Sl.stream key nonce n)) G ∧ New w G ∧ Only [] w w' := by
  have Hk := Lib.hid hk
  have Hn := Lib.hid hn
  clear hk hn
  go_enter Tryd.func30, Tryd.ntmps30
  go_wp2_with (go_at_call 28; refine (refDerive_any w A 32 ca key _ Sl.streamL Hk.out.symm (by rw [Hk.out]; decide) rfl (by decide) hca hA).mono ?_
               rintro e w1 ⟨A1, c1, G1, rfl, hown1, hnew1, hO1⟩)
  have hc1 : 32 ≤ c1 := by simpa using hown1.le
  have hR1 := hown1.reads
  clear hown1
  go_loopw [7, 9, 10, 11] (fun out i _ _ wr => ∃ (q x : Nat) (Ao : Option Addr) (co : Nat) (G : Option Nat), out = .slice Ao x co ∧ x = 32 * q ∧ i = .int .i64 (q : Int) ∧ OwnS wr 5 Ao co (cellsOf (Sl.blocks (Bl.hash key Sl.streamL) nonce q)) G ∧ New w1 G ∧ RV wr A1 (cellsOf (Bl.hash key Sl.streamL)) ∧ Only [] w wr ∧ w1.heap.size ≤ wr.heap.size ∧ (q = 0 ∨ 32 * q < n + 32)) (fun out _ _ _ _ => n + 32 - lenV out)
  case atStart => exact ⟨0, 0, none, 0, none, rfl, rfl, rfl, OwnS.none _ _, New.none _, hR1, hO1, Nat.le_refl _, .inl rfl⟩
  case round =>
    obtain ⟨q, x, Ao, co, G, rfl, hx, rfl, hown, hnew, hRk, hO, hsw, hq⟩ := hrel
    have hxb : x ≤ 65536 + 32 := by omega
    have hqb : q ≤ 2050 := by omega
    have Hx := Lib.hid hx
    have Hq := Lib.hid hq
    by_cases hlt : x < n
    · have hltI : (x : Int) < (n : Int) := by omega
      clear hx hq
      obtain ⟨wo, rfl⟩ : ∃ wo : World, wo = wr := ⟨_, rfl⟩
      go_wp2_with (at_builtin; refine wpl_append8 rfl (.tmp 20) (.tmp 21) rfl (some ⟨wo.heap.size, 0, none⟩) 0 0 [] (some wo.heap.size) rfl rfl (ownS_empty wo _) B 16 cb nonce rfl Hn.out.symm (hB.keep0 (hO.alloc _)) (by rw [Hn.out]; decide) ?_
                   intro A2 c2 w2 G2 hown2 hO2 hG2)
      rw [List.nil_append] at hown2
      have hQ2 : Only [] wo w2 := ((Only.refl [] wo).alloc _).trans hO2 (by simp)
      have hn2 : New wo G2 := by
        have h0 : New wo (some wo.heap.size) := fun g hg => by injection hg with hg; omega
        exact h0.next (by simp) hG2
      clear hO2 hG2
      go_loopw [10, 11] (fun m s wr => ∃ (j : Nat) (sv : Int) (Am : Option Addr) (cm : Nat) (Gm : Option Nat), j ≤ 8 ∧ sv = 56 - 8 * (j : Int) ∧ s = .int .i64 sv ∧ m = .slice Am (16 + j) cm ∧ OwnS wr 5 Am cm (cellsOf (nonce ++ (Sl.be8 q).take j)) Gm ∧ New wo Gm ∧ Only [] wo wr) (fun _ s _ => (8 + intOf s).toNat)
      case atStart => exact ⟨0, 56, A2, c2, G2, by omega, by omega, rfl, rfl, by simpa using hown2, hn2, hQ2⟩
      case round =>
        clear hown2 hn2 hQ2
        obtain ⟨j, sv, Am, cm, Gm, hj, hsv, rfl, rfl, hownm, hnm, hOm⟩ := hrel
        by_cases hlj : j < 8
        · have hnext : nonce ++ (Sl.be8 q).take (j + 1) = nonce ++ (Sl.be8 q).take j ++ [(Sl.be8 q).getD j 0] := by
            have hb : j < (Sl.be8 q).length := by simp; omega
            have hg : (Sl.be8 q).getD j 0 = (Sl.be8 q)[j] := by rw [List.getD_eq_getElem?_getD, List.getElem?_eq_getElem hb]; rfl
            rw [List.take_succ_eq_append_getElem hb, hg, List.append_assoc]
          obtain ⟨bj, Hbj⟩ : ∃ b, Hid (b = UInt8.ofNat (q / 2 ^ (56 - 8 * j))) := ⟨_, rfl⟩
          rw [be8_cell q j hlj, ← Hbj.out] at hnext
          have hll : 16 + j = (nonce ++ (Sl.be8 q).take j).length := by simp [Hn.out]; omega
          obtain ⟨jn, Hjn⟩ : ∃ jn, Hid (jn = j + 1) := ⟨_, rfl⟩
          rw [← Hjn.out] at hnext
          have Hnext := Lib.hid hnext
          have Hll := Lib.hid hll
          clear hnext hll
          rcases (show j = 0 ∧ sv = 56 ∨ j = 1 ∧ sv = 48 ∨ j = 2 ∧ sv = 40 ∨ j = 3 ∧ sv = 32 ∨ j = 4 ∧ sv = 24 ∨ j = 5 ∧ sv = 16 ∨ j = 6 ∧ sv = 8 ∨ j = 7 ∧ sv = 0 by omega) with ⟨rfl, rfl⟩ | ⟨rfl, rfl⟩ | ⟨rfl, rfl⟩ | ⟨rfl, rfl⟩ | ⟨rfl, rfl⟩ | ⟨rfl, rfl⟩ | ⟨rfl, rfl⟩ | ⟨rfl, rfl⟩
          all_goals
            clear hsv hj hlj
            go_upto_region 9 with (first
              | (at_builtin; refine wpl_append8 rfl (.tmp 27) (.tmp 32) rfl Am _ cm _ Gm rfl Hll.out (hownm.keep ((Only.refl [] wr).alloc _) (by simp)) (some ⟨wr.heap.size, 0, none⟩) 1 1 [bj] rfl rfl (RV.new ?hv) (by rw [← Hll.out, List.length_singleton]; decide) ?_
                 case hv => rw [Hbj.out]; first | (simp [cellsOf, B8]; done) | (simp [cellsOf, B8]; omega)
                 intro A3 c3 w3 G3 hown3 hO3 hG3))
            go_wp2
            go_roundw
            case rel =>
              have hjn := Hjn.out
              refine ⟨jn, 56 - 8 * (jn : Int), A3, c3, G3, by omega, rfl, congrArg (Value.int .i64) (by omega), congrArg (fun k => Value.slice A3 k c3) (by omega), ?_, hnm.next (Nat.le_trans hOm.size (by simp)) hG3, (hOm.alloc _).trans hO3 hnm.out⟩
              rw [Hnext.out]
              exact hown3
            case measure => simp [intOf]
        · obtain rfl : j = 8 := by omega
          obtain rfl : sv = -8 := by omega
          clear hlj hj hsv
          rw [List.take_of_length_le (by simp)] at hownm
          have hil : (nonce ++ Sl.be8 q).length = 24 := by simp [Hn.out]
          have Hil := Lib.hid hil
          have hbl : (Sl.blocks (Bl.hash key Sl.streamL) nonce q).length = x := by rw [Sl.blocks_length, Hx.out]
          have Hbl := Lib.hid hbl
          have hcm : 24 ≤ cm := by rw [← hil]; simpa using hownm.le
          have hx32 : x + 32 = 32 * (q + 1) := by rw [Hx.out]; omega
          have hq' : 32 * (q + 1) < n + 32 := by rw [← hx32]; omega
          have Hx32 := Lib.hid hx32
          have hown' := hown.keep hOm (by simp)
          have hRk' := hRk.keep0 hOm
          have hO' := hO.trans' hOm
          have hsm := hOm.size
          clear hil hbl hx32 hown hRk hO
          go_wp2_with (first
            | (go_at_call 18; refine (hash_at wr A1 Am 32 24 c1 cm (Bl.hash key Sl.streamL) (nonce ++ Sl.be8 q) (by simp) Hil.out.symm (by simp) hRk' hownm.reads hc1 hcm (by rw [Hil.out]; decide)).mono ?_
               rintro e w5 ⟨A5, c5, G5, rfl, hown5, hnew5, hO5⟩
               have hownO := hown'.keep hO5 (by simp))
            | (at_builtin; refine wpl_append8 rfl (.tmp 34) (.tmp 37) rfl Ao x co _ G rfl Hbl.out.symm hownO A5 32 c5 (Sl.block (Bl.hash key Sl.streamL) nonce q) rfl (by simp [Sl.block]) hown5.reads (by rw [Hbl.out]; simp [Sl.block]; omega) ?_
               intro A6 c6 w6 G6 hown6 hO6 hG6))
          go_wp2
          refine ⟨⟨q + 1, x + 32, A6, c6, G6, rfl, Hx32.out, by go_num, hown6, hnew.next (Nat.le_trans hsw (Nat.le_trans hsm hO5.size)) hG6, hnew.keepRV (Nat.le_refl _) hR1 (hRk'.keep0 hO5) hO6, (hO'.trans' hO5).trans hO6 (hnew.le hO1.size).out, Nat.le_trans hsw (Nat.le_trans hsm (Nat.le_trans hO5.size hO6.size)), .inr hq'⟩, by simp only [lenV]; omega⟩
    · have hltI : (n : Int) ≤ (x : Int) := by omega
      have hbl : (Sl.blocks (Bl.hash key Sl.streamL) nonce q).length = x := by rw [Sl.blocks_length, hx]
      have hco : x ≤ co := by rw [← hbl]; simpa using hown.le
      have hcoI : (n : Int) ≤ (co : Int) := by omega
      have hqq : q = (n + 31) / 32 := by omega
      have Hqq := Lib.hid hqq
      clear hx hq hqq hbl
      go_wp2
      go_ret
      refine ⟨Ao, co, G, rfl, by omega, ?_, hnew.le hO1.size, hO⟩
      have e : cellsOf (Sl.blocks (Bl.hash key Sl.streamL) nonce q) = cellsOf (Sl.stream key nonce n) ++ cellsOf ((Sl.blocks (Bl.hash key Sl.streamL) nonce q).drop n) := by
        rw [← cellsOf_append, Sl.stream, ← Hqq.out, List.take_append_drop]
      rw [e] at hown
      exact hown.front
end Go.Proofs.YtglbgocldenooaaDoor
