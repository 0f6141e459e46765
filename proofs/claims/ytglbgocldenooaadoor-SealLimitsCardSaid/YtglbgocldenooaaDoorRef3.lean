/-
  THE WALK of the reference's Compress.
-/
import Derived.Test.YtglbgocldenooaaDoorRef2
import Derived.Test.YtglbgocldenooaaDoorReg
import Derived.Test.YtglbgocldenooaaDoorLaws5
namespace Go.Proofs.YtglbgocldenooaaDoor
open Go.RowKit

/-- A block made since w0. -/
def New (w0 : World) (G : Option Nat) : Prop := ∀ g, G = some g → w0.heap.size ≤ g
theorem New.none (w0 : World) : New w0 none := fun g h => by cases h
theorem New.next {w0 w : World} {G G' : Option Nat} (h : New w0 G) (ho : w0.heap.size ≤ w.heap.size) (hG : G' = G ∨ G' = some w.heap.size) : New w0 G' := by
  rcases hG with rfl | rfl
  · exact h
  · intro g hg; injection hg with hg; omega
theorem New.far {w0 : World} {G : Option Nat} (h : New w0 G) {g : Nat} (hg : g < w0.heap.size) : g ∉ G.toList := by
  intro hm
  cases G with
  | none => simp at hm
  | some x => simp at hm; have := h x rfl; omega
theorem New.out {w0 : World} {G : Option Nat} (h : New w0 G) {S : List Nat} : ∀ x ∈ G.toList, x < w0.heap.size → x ∈ S := fun _ hx hlt => absurd hx (h.far hlt)
theorem New.le {w0 w1 : World} {G : Option Nat} (h : New w1 G) (hs : w0.heap.size ≤ w1.heap.size) : New w0 G := fun g hg => Nat.le_trans hs (h g hg)
theorem Only.dd {S : List Nat} {w w' : World} (h : Only S w w') : Only S w.drew w'.drew := ⟨h.os, h.tape, h.output, h.size, h.block⟩
theorem Only.d {S : List Nat} {w w' : World} (h : Only S w w') : Only S w.drew w' := ⟨h.os, h.tape, h.output, h.size, h.block⟩
theorem RV.drew {w : World} {A : Option Addr} {xs : List Value} (h : RV w A xs) : RV w.drew A xs := h

theorem info32 : (Tryd.prog.info? 43).map (fun i => (i.zero, i.size, i.bytes)) = some (some (.int .u32 0), 1, 4) := by kernel_rfl
section
variable {w : World} {ops : Array Oper} {rest : List Oper} {o : Oper} {a : Act} {Q : Exit → Act → World → Prop}
theorem wpl_append32 (hgd : o.guard = none) (s x : Operand) (ho : o.op = .call { callee := .builtin .append, args := #[s, x], argTypes := #[69, 69] })
    (A : Option Addr) (n c : Nat) (xs : List Nat) (G : Option Nat) (hs : a.eval s = .slice A n c) (hn : n = xs.length) (hown : OwnS w 43 A c (wcells xs) G)
    (B : Option Addr) (m d : Nat) (ys : List Nat) (hx : a.eval x = .slice B m d) (hm : m = ys.length) (hr : RV w B (wcells ys))
    (hlen : xs.length + ys.length ≤ 1099511627776)
    (h : ∀ A' c' w' G', OwnS w' 43 A' c' (wcells (xs ++ ys)) G' → Only G.toList w w' → (G' = G ∨ G' = some w.heap.size) → wpList Tryd.prog ops Q rest (a.put o.dst (.slice A' (n + m) c')) w') : wpList Tryd.prog ops Q (o :: rest) a w := by
  have hi := info32
  cases hI : Tryd.prog.info? 43 with
  | none => rw [hI] at hi; cases hi
  | some i =>
    rw [hI] at hi
    injection hi with hi
    injection hi with h1 h2
    injection h2 with h2 h3
    refine wpl_append hgd s x 69 ho 43 i (.int .u32 0) 4 Tryd.underlying69 hI h1 h2 h3 rfl A n c (wcells xs) G hs (by simpa using hn) hown B m d (wcells ys) hx (by simpa using hm) hr (fun u hu => by obtain ⟨n, _, rfl⟩ := List.mem_map.1 hu; rfl) (by simpa using hlen) (by decide) fun A' c' w' G' hw hO hG => h A' c' w' G' (by simpa [wcells] using hw) hO hG
end

namespace Bl
/-- A round, lane by lane. -/
def lanesTo (m row v : List Nat) : Nat → List Nat
  | 0 => v
  | j + 1 => mixw (lanesTo m row v j) ((lane j).getD 0 0) ((lane j).getD 1 0) ((lane j).getD 2 0) ((lane j).getD 3 0) (m.getD (row.getD (2 * j) 0) 0) (m.getD (row.getD (2 * j + 1) 0) 0)
theorem lanesTo_all (m row v : List Nat) : lanesTo m row v 8 = round m row v := rfl
theorem lanesTo_words {m row v : List Nat} (h : Words 16 v) : ∀ j, Words 16 (lanesTo m row v j)
  | 0 => h
  | j + 1 => mixw_words (lanesTo_words h j) _ _ _ _ _ _
end Bl
theorem lane_four (j : Nat) (hj : j < 8) : ∃ a b c d, lane j = [a, b, c, d] ∧ a < 16 ∧ b < 16 ∧ c < 16 ∧ d < 16 ∧ a ≠ b ∧ a ≠ c ∧ a ≠ d ∧ b ≠ c ∧ b ≠ d ∧ c ≠ d := by
  rcases (show j = 0 ∨ j = 1 ∨ j = 2 ∨ j = 3 ∨ j = 4 ∨ j = 5 ∨ j = 6 ∨ j = 7 by omega) with rfl | rfl | rfl | rfl | rfl | rfl | rfl | rfl <;> exact ⟨_, _, _, _, rfl, by decide, by decide, by decide, by decide, by decide, by decide, by decide, by decide, by decide, by decide⟩
theorem nget {l : List Nat} {i : Nat} (h : i < l.length) : l[i]? = some (l.getD i 0) := by simp [h]
theorem wcells_app (a b : List Nat) : wcells (a ++ b) = wcells a ++ wcells b := by simp [wcells]

set_option maxHeartbeats 8000000 in
set_option maxRecDepth 100000 in
theorem compress_ref (w : World) (A B : Option Addr) (ca cb : Nat) (st : List Nat) (bs : List UInt8) (t : Nat) (last : Bool) (hst : Bl.Words 8 st) (hbs : bs.length = 64) (hA : RV w A (wcells st)) (hB : RV w B (cellsOf bs)) (_hca : 8 ≤ ca) (_hcb : 64 ≤ cb) (ht : t < 4611686018427387904) :
    Calls Tryd.prog 41 #[.slice A 8 ca, .slice B 64 cb, .int .i64 (t : Int), .bool last] w fun e w' => ∃ A' c' G, e = .returned (.slice A' 8 c') ∧ OwnS w' 43 A' c' (wcells (Bl.comp st bs t last)) G ∧ New w G ∧ Only [] w w' := by
  obtain ⟨gb, ob, rfl, hgb, hcb'⟩ := hB (by simp [hbs])
  obtain ⟨gh, oh, rfl, hgh, hch'⟩ := hA (by simp [hst.1])
  have Hcb := Lib.hid hcb'
  have Hch := Lib.hid hch'
  have Hbs := Lib.hid hbs
  clear hcb' hch' hbs
  go_enter Tryd.func41, Tryd.ntmps41
  go_wp2
  go_loopw [9, 10] (fun m i wr => ∃ (k : Nat) (Am : Option Addr) (cm : Nat) (G : Option Nat), k ≤ 16 ∧ i = .int .i64 k ∧ m = .slice Am k cm ∧ OwnS wr 43 Am cm (wcells ((List.range k).map (Bl.mw bs))) G ∧ New w G ∧ Only [] w wr) (fun _ i _ => 16 - (intOf i).toNat)
  case atStart => exact ⟨0, none, 0, none, by omega, rfl, rfl, OwnS.none _ _, New.none _, Only.refl _ _⟩
  case round =>
    obtain ⟨k, Am, cm, G, hk, rfl, rfl, hown, hnew, hO⟩ := hrel
    by_cases hlt : k < 16
    ·
      have hltI : (k : Int) < 16 := by omega
      have hcell : ∀ j, j < 64 → wr.cell? ⟨gb, ob + j, none⟩ = some (.int .u8 ((bs.getD j 0).toNat : Int)) := fun j hj => by
        rw [hO.cell (p := ⟨gb, ob + j, none⟩) hgb (by simp), Hcb.out j (by simp [Hbs.out, hj]), cellsOf_getD (by rw [Hbs.out]; exact hj)]
      obtain ⟨b0, E0⟩ : ∃ n, n = (bs.getD (4 * k) 0).toNat := ⟨_, rfl⟩
      obtain ⟨b1, E1⟩ : ∃ n, n = (bs.getD (4 * k + 1) 0).toNat := ⟨_, rfl⟩
      obtain ⟨b2, E2⟩ : ∃ n, n = (bs.getD (4 * k + 2) 0).toNat := ⟨_, rfl⟩
      obtain ⟨b3, E3⟩ : ∃ n, n = (bs.getD (4 * k + 3) 0).toNat := ⟨_, rfl⟩
      have l0 : b0 < 256 := by rw [E0]; exact UInt8.toNat_lt _
      have l1 : b1 < 256 := by rw [E1]; exact UInt8.toNat_lt _
      have l2 : b2 < 256 := by rw [E2]; exact UInt8.toNat_lt _
      have l3 : b3 < 256 := by rw [E3]; exact UInt8.toNat_lt _
      have c0 : wr.cell? ⟨gb, ob + 4 * k, none⟩ = some (.int .u8 (b0 : Int)) := by rw [E0]; exact hcell _ (by omega)
      have c1 : wr.cell? ⟨gb, ob + (4 * k + 1), none⟩ = some (.int .u8 (b1 : Int)) := by rw [E1]; exact hcell _ (by omega)
      have c2 : wr.cell? ⟨gb, ob + (4 * k + 2), none⟩ = some (.int .u8 (b2 : Int)) := by rw [E2]; exact hcell _ (by omega)
      have c3 : wr.cell? ⟨gb, ob + (4 * k + 3), none⟩ = some (.int .u8 (b3 : Int)) := by rw [E3]; exact hcell _ (by omega)
      have eM := Bl.mword_cast l0 l1 l2 l3
      have Hmw : Hid (Bl.mw bs k = Bl.mword b0 b1 b2 b3) := by rw [E0, E1, E2, E3]; rfl
      have HeM := Lib.hid eM
      have hgb' : gb < wr.heap.size := Nat.lt_of_lt_of_le hgb hO.size
      have hgbG : gb ∉ G.toList := hnew.far hgb
      clear E0 E1 E2 E3 hcell eM
      go_wp2
      refine Reg.wp G.toList [.r 0, .r 1, .r 2, .r 3, .r 4, .r 5, .r 6, .r 7, .r 8, .r 9, .r 10, .r 11, .r 12, .r 13, .r 14, .r 15, .r 16, .r 17, .r 18, .r 19, .r 20, .r 21, .r 22, .r 23, .r 24, .r 25, .r 26, .r 27, .r 28, .r 29, .r 30, .r 31, .r 32, .r 33, .e 34, .e 35, .r 36] (by kernel_rfl) (by kernel_rfl) (fun d _ _ _ _ h => by cases d <;> exact h) ?_
      simp only [Reg.pick, List.getD_cons_succ, List.getD_cons_zero]
      iterate 34 (apply Reg.read; (· (intro t K hK; go_simp; (try go_ints); (try ((go_ite <;> go_prune); go_simp)); (try go_ints); exact hK _ rfl)); (· (intro K hK; go_simp; exact hK _ rfl)))
      refine Reg.eff ?_
      go_wp2
      refine ⟨((Only.refl G.toList wr).alloc _).dd, ?_⟩
      simp only [HeM.out]
      rw [← Hmw.out]
      clear c0 c1 c2 c3 HeM
      refine Reg.eff ?_
      refine wpl_append32 rfl (.tmp 21) (.tmp 55) rfl Am k cm _ G rfl (by simp) ((hown.keep ((Only.refl [] wr).alloc _) (by simp)).drew) (some ⟨wr.heap.size, 0, none⟩) 1 1 [Bl.mw bs k] rfl rfl (RV.one wr _ _).drew (by simp; omega) ?_
      intro A' c' w2 G' hown2 hO2 hG2
      refine Reg.done hO2 ?_
      (apply Reg.read; (· (intro t K hK; go_simp; (try go_ints); (try ((go_ite <;> go_prune); go_simp)); (try go_ints); exact hK _ rfl)); (· (intro K hK; go_simp; exact hK _ rfl)))
      refine Reg.fin ?_
      have hO1s := hO.size
      have hO2' : Only [] w w2 := ((hO.alloc _).drew).trans hO2 hnew.out
      clear hO2 hO hown
      go_wp2
      go_roundw
      case rel =>
        refine ⟨k + 1, A', c', G', by omega, by go_num, rfl, ?_, hnew.next (Nat.le_trans hO1s (by simp)) hG2, hO2'⟩
        rw [List.range_succ, List.map_append]; exact hown2
      case measure => simp [intOf]; omega
    · obtain rfl : k = 16 := by omega
      clear hlt hk
      have hown : OwnS wr 43 Am cm (wcells (Bl.mws bs)) G := hown
      obtain ⟨gm, mrest, rfl, rfl, hBm⟩ := hown.blk (by simp [Bl.mws])
      have hgm := hBm.lt
      have hgmw := hnew gm rfl
      clear hown
      rw [show ((16 : Nat) : Int) = 16 from rfl]
      have hAr : RV wr (some ⟨gh, oh, none⟩) (wcells st) := fun _ => ⟨gh, oh, rfl, Nat.lt_of_lt_of_le hgh hO.size, fun j hj => (hO.cell (p := ⟨gh, oh + j, none⟩) hgh (by simp)).trans (Hch.out j hj)⟩
      go_upto_region 7 with (fail)
      have hlw : st.length = 8 := hst.1
      have Hlw := Lib.hid hlw
      clear hlw
      obtain ⟨z12, ez12⟩ : ∃ n, n = 1359893119 ^^^ t % 4294967296 := ⟨_, rfl⟩
      obtain ⟨z13, ez13⟩ : ∃ n, n = 2600822924 ^^^ t / 4294967296 % 4294967296 := ⟨_, rfl⟩
      have x12 : bits .xor .u32 1359893119 ((t : Int) % 4294967296) = (z12 : Int) := by
        have := u32_xor_nat 1359893119 (t % 4294967296) (by decide) (by omega); rw [ez12]; simpa using this
      have x13 : bits .xor .u32 2600822924 ((t : Int) / 4294967296) = (z13 : Int) := by
        have := u32_xor_nat 2600822924 (t / 4294967296) (by decide) (by omega); rw [ez13, Nat.mod_eq_of_lt (by omega)]; simpa using this
      have Hz12 := Lib.hid ez12
      have Hz13 := Lib.hid ez13
      clear ez12 ez13
      go_upto_if 79 with (first
        | (at_builtin; refine wpl_append32 rfl (.tmp 57) (.tmp 58) rfl none 0 0 [] none rfl rfl (OwnS.none _ _) (some ⟨gh, oh, none⟩) 8 ca st rfl Hlw.out.symm hAr (by rw [Hlw.out]; decide) ?_
           intro A1 c1 w1 G1 hown1 hO1 hG1
           rw [List.nil_append] at hown1
           have hG1' : New wr G1 := (New.none wr).next (Nat.le_refl _) hG1)
        | (go_at_call 40; refine (words_any w1).mono ?_
           rintro e w2 ⟨rfl, hBw, hO2⟩
           have hown2 := hown1.keep hO2 (by simp))
        | (at_builtin; refine wpl_append32 rfl (.tmp 59) (.tmp 60) rfl A1 8 c1 st G1 rfl Hlw.out.symm hown2 (some ⟨w1.heap.size, 0, none⟩) 8 8 Bl.iv rfl rfl (fun _ => ⟨_, 0, rfl, hBw.lt, fun j _ => by rw [Nat.zero_add]; exact hBw.cell j⟩) (by rw [Hlw.out]; decide) ?_
           intro A3 c3 w3 G3 hown3 hO3 hG3
           obtain ⟨gv, vrest, rfl, rfl, hV⟩ := hown3.blk (by rw [wcells_length, List.length_append, Hlw.out]; decide)
           have c12 : w3.cell? ⟨gv, 12, none⟩ = some (.int .u32 (1359893119 : Int)) := hV.cellv (by rw [List.getElem?_append_left (by simp [Hlw.out, Bl.iv])]; exact wcells_get (iv_get Hlw.out 4 (by decide)))
           have c13 : w3.cell? ⟨gv, 13, none⟩ = some (.int .u32 (2600822924 : Int)) := hV.cellv (by rw [List.getElem?_append_left (by simp [Hlw.out, Bl.iv])]; exact wcells_get (iv_get Hlw.out 5 (by decide)))
           have f12 := hV.frozen 12
           have f13 := hV.frozen 13))
      have hNew3 : New wr (some gv) := (hG1'.next (Nat.le_trans (Only.size hO1) hO2.size) hG3)
      have hO3' : Only [] wr w3 := ((hO1.mono (by simp)).trans' hO2).trans hO3 hG1'.out
      have hgv := hNew3 gv rfl
      have hM3 : Blk w3 gm 43 (wcells (Bl.mws bs) ++ mrest) := hBm.keep hO3' (by simp)
      have hO4 : Only [] w w3 := hO.trans' hO3'
      have hV5 : Blk ((w3.setCell ⟨gv, 12, none⟩ (.int .u32 (z12 : Int))).setCell ⟨gv, 13, none⟩ (.int .u32 (z13 : Int))) gv 43 (wcells (((st ++ Bl.iv).set 12 z12).set 13 z13) ++ vrest) := by
        rw [← wset (by rw [List.length_set, List.length_append, Hlw.out]; decide), ← wset (by rw [List.length_append, Hlw.out]; decide)]; exact (hV.set 12 _).set 13 _
      have hM5 := (hM3.far (p := ⟨gv, 12, none⟩) (by simp; omega) (.int .u32 (z12 : Int))).far (p := ⟨gv, 13, none⟩) (by simp; omega) (.int .u32 (z13 : Int))
      have hO5 := (hO4.setCell (p := ⟨gv, 12, none⟩) (.inr (by simp; omega)) (.int .u32 (z12 : Int))).setCell (p := ⟨gv, 13, none⟩) (.inr (by simp; omega)) (.int .u32 (z13 : Int))
      have hS5 : ((w3.setCell ⟨gv, 12, none⟩ (.int .u32 (z12 : Int))).setCell ⟨gv, 13, none⟩ (.int .u32 (z13 : Int))).heap.size = w3.heap.size := by simp [World.setCell]
      clear c12 c13 f12 f13 x12 x13 hV hM3 hown1 hown2 hown3 hO1 hO2 hO3 hG1 hG3 hBw hG1'
      revert hV5 hM5 hO5 hS5
      generalize World.setCell (World.setCell _ _ _) _ _ = W3
      intro hV5 hM5 hO5 hS5
      have hgv3 := hV5.lt
      clear hS5
      go_cut [] (fun wx => Blk wx gv 43 (wcells (Bl.vinit st t last) ++ vrest) ∧ Blk wx gm 43 (wcells (Bl.mws bs) ++ mrest) ∧ Only [] w wx)
      case first =>
        cases last
        · go_wp2
          go_meet
          have e : Bl.vinit st t false = ((st ++ Bl.iv).set 12 z12).set 13 z13 := by rw [Hz12.out, Hz13.out]; rfl
          exact ⟨by rw [e]; exact hV5, hM5, hO5⟩
        · have c14 : W3.cell? ⟨gv, 14, none⟩ = some (.int .u32 (528734635 : Int)) := by
            refine hV5.cellv ?_
            rw [List.getElem?_append_left (by simp [Hlw.out, Bl.iv])]
            refine wcells_get ?_
            rw [List.getElem?_set_ne (by decide), List.getElem?_set_ne (by decide)]
            exact iv_get hst.1 6 (by decide)
          have f14 := hV5.frozen 14
          have x14 : bits .xor .u32 528734635 4294967295 = ((528734635 ^^^ 4294967295 : Nat) : Int) := by decide +kernel
          go_wp2
          go_meet
          have e : Bl.vinit st t true = (((st ++ Bl.iv).set 12 z12).set 13 z13).set 14 (528734635 ^^^ 4294967295) := by rw [Hz12.out, Hz13.out]; rfl
          refine ⟨?_, hM5.far (p := ⟨gv, 14, none⟩) (by simp; omega) _, hO5.setCell (p := ⟨gv, 14, none⟩) (.inr (by simp; omega)) _⟩
          rw [e, ← wset (by rw [List.length_set, List.length_set, List.length_append, Hlw.out]; decide)]
          exact hV5.set 14 _
      case rest =>
        clear hV5 hM5 hO5 Hz12 Hz13 hO3' hO4 hNew3
        obtain ⟨hV6, hM6, hO6⟩ := hcut
        have hvw := Bl.vinit_words (t := t) (last := last) hst
        go_wp2
        go_loopw [12, 13, 14] (fun a _ _ wr => ∃ k : Nat, k ≤ 10 ∧ a = .int .i64 k ∧ Blk wr gv 43 (wcells (Bl.rounds (Bl.mws bs) k (Bl.vinit st t last)) ++ vrest) ∧ Blk wr gm 43 (wcells (Bl.mws bs) ++ mrest) ∧ Only [] w wr) (fun a _ _ _ => 10 - (intOf a).toNat)
        case atStart => exact ⟨0, by omega, rfl, hV6, hM6, hO6⟩
        case round =>
          clear hV6 hM6 hO6
          obtain ⟨k, hk, rfl, hV, hM, hO⟩ := hrel
          by_cases hlt : k < 10
          · have hltI : (k : Int) < 10 := by omega
            go_wp2_with (go_at_call 48; refine (row_any _ k hlt).mono ?_; rintro e w1 ⟨rfl, hR1, hO1⟩)
            obtain ⟨wo, rfl⟩ : ∃ wo : World, wo = wr := ⟨_, rfl⟩
            obtain ⟨gr, Hgr⟩ : ∃ gr : Nat, Hid (gr = wo.heap.size + k) := ⟨_, rfl⟩
            rw [← Hgr.out] at hR1
            rw [← Hgr.out]
            have hV1 := hV.keep hO1 (by simp)
            have hM1 := hM.keep hO1 (by simp)
            have hO1' := hO.trans' hO1
            have hgrv : gv ≠ gr := by have := hV.lt; have := Hgr.out; omega
            have hgrm : gm ≠ gr := by have := hM.lt; have := Hgr.out; omega
            obtain ⟨v0, Hv0⟩ : ∃ v0, Hid (v0 = Bl.rounds (Bl.mws bs) k (Bl.vinit st t last)) := ⟨_, rfl⟩
            have hv0 : Bl.Words 16 v0 := by rw [Hv0.out]; exact Bl.rounds_words hvw k
            rw [← Hv0.out] at hV1
            have hgr := hR1.lt
            clear hV hM hO hO1
            go_loopw [14] (fun a wr => ∃ j : Nat, j ≤ 8 ∧ a = .int .i64 j ∧ Blk wr gv 43 (wcells (Bl.lanesTo (Bl.mws bs) (Bl.tab.getD k []) v0 j) ++ vrest) ∧ Blk wr gm 43 (wcells (Bl.mws bs) ++ mrest) ∧ Blk wr gr 3 (icells (Bl.tab.getD k [])) ∧ Only [] w wr) (fun a _ => 8 - (intOf a).toNat)
            case atStart => exact ⟨0, by omega, rfl, hV1, hM1, hR1, hO1'⟩
            case round =>
              clear hV1 hM1 hR1 hO1'
              obtain ⟨j, hj, rfl, hV, hM, hR, hO⟩ := hrel
              by_cases hlj : j < 8
              · have hljI : (j : Int) < 8 := by omega
                obtain ⟨x1, Hx1⟩ : ∃ n, Hid (n = (Bl.tab.getD k []).getD (2 * j) 0) := ⟨_, rfl⟩
                obtain ⟨x2, Hx2⟩ : ∃ n, Hid (n = (Bl.tab.getD k []).getD (2 * j + 1) 0) := ⟨_, rfl⟩
                obtain ⟨m1, Hm1⟩ : ∃ n, Hid (n = (Bl.mws bs).getD x1 0) := ⟨_, rfl⟩
                obtain ⟨m2, Hm2⟩ : ∃ n, Hid (n = (Bl.mws bs).getD x2 0) := ⟨_, rfl⟩
                have hx1 : x1 < 16 := by rw [Hx1.out]; exact Bl.tab_lt k hlt _
                have hx2 : x2 < 16 := by rw [Hx2.out]; exact Bl.tab_lt k hlt _
                have hx1I : (x1 : Int) < 16 := by omega
                have hx2I : (x2 : Int) < 16 := by omega
                have htl := Bl.tab_len k hlt
                have cr1 : wr.cell? ⟨gr, 2 * j, none⟩ = some (.int .i64 (x1 : Int)) := hR.cellv (icells_get (by rw [Hx1.out]; exact nget (by omega)))
                have cr2 : wr.cell? ⟨gr, 2 * j + 1, none⟩ = some (.int .i64 (x2 : Int)) := hR.cellv (icells_get (by rw [Hx2.out]; exact nget (by omega)))
                have cm1 : wr.cell? ⟨gm, x1, none⟩ = some (.int .u32 (m1 : Int)) := hM.cellv (by rw [List.getElem?_append_left (by rw [wcells_length]; simp [Bl.mws]; omega), Hm1.out]; exact wcells_get (wget (Bl.mws_words bs) hx1))
                have cm2 : wr.cell? ⟨gm, x2, none⟩ = some (.int .u32 (m2 : Int)) := hM.cellv (by rw [List.getElem?_append_left (by rw [wcells_length]; simp [Bl.mws]; omega), Hm2.out]; exact wcells_get (wget (Bl.mws_words bs) hx2))
                have hgr' := hR.lt
                have hgm' := hM.lt
                have hgrv' : gr ≠ gv := Ne.symm hgrv
                have hgmv' : gm ≠ gv := by omega
                have hsv := hV.lt
                clear htl
                go_wp2
                refine Reg.wp [gv] [.r 0, .r 1, .r 3, .r 4, .r 5, .r 6, .r 7, .r 8, .r 9, .r 10, .r 11, .r 12, .r 13, .r 14, .r 15, .r 16, .r 17, .r 18, .r 19, .e 2, .e 20] (by kernel_rfl) (by kernel_rfl) (fun d _ _ _ _ h => by cases d <;> exact h) ?_
                simp only [Reg.pick, List.getD_cons_succ, List.getD_cons_zero]
                iterate 19 (apply Reg.read; (· (intro t K hK; go_simp; (try go_ints); (try ((go_ite <;> go_prune); go_simp)); (try go_ints); exact hK _ rfl)); (· (intro K hK; go_simp; exact hK _ rfl)))
                clear cr1 cr2 cm1 cm2
                refine Reg.eff ?_
                go_wp2_with (go_at_call 50; refine (lane_any _ j hlj).mono ?_; rintro e w1 ⟨rfl, hL1, hO1⟩)
                refine ⟨hO1.mono (by simp), ?_⟩
                refine Reg.eff ?_
                obtain ⟨a1, a2, a3, a4, el, la, lb, lc, ld, ab, ac, ad, bc, bd, cd⟩ := lane_four j hlj
                have Hel := Lib.hid el
                rw [el] at hL1
                clear el
                have hO1w : Only [] wr w1 := Only.undrew (w := wr) hO1
                go_wp2_with (go_at_call 49; refine (g_walk w1 gv _ c3 _ vrest a1 a2 a3 a4 m1 m2 (Bl.lanesTo_words hv0 j) (hV.keep hO1w (by simp)) hL1 (by simp; omega) la lb lc ld ab ac ad bc bd cd).mono ?_; rintro e w2 ⟨rfl, hV2, hO2⟩)
                refine ⟨hO2, ?_⟩
                refine Reg.fin ?_
                have hM2 := (hM.keep hO1w (by simp)).keep hO2 (by simpa using hgmv')
                have hR2 := (hR.keep hO1w (by simp)).keep hO2 (by simpa using hgrv')
                have hO2' : Only [] w w2 := (hO.trans' hO1w).trans hO2 (by simp; omega)
                clear hM hR hO hV hO1 hO2 hL1 hO1w ab ac ad bc bd cd la lb lc ld
                go_wp2
                go_roundw
                case rel =>
                  refine ⟨j + 1, by omega, by go_num, ?_, hM2, hR2, hO2'⟩
                  have e : Bl.lanesTo (Bl.mws bs) (Bl.tab.getD k []) v0 (j + 1) = Bl.mixw (Bl.lanesTo (Bl.mws bs) (Bl.tab.getD k []) v0 j) a1 a2 a3 a4 m1 m2 := by
                    rw [Bl.lanesTo, Hel.out, Hm1.out, Hm2.out, Hx1.out, Hx2.out]; rfl
                  rw [e]
                  exact hV2
                case measure => simp [intOf]; omega
              · obtain rfl : j = 8 := by omega
                rw [Bl.lanesTo_all] at hV
                rw [show ((8 : Nat) : Int) = 8 from rfl]
                go_wp2
                refine ⟨⟨k + 1, by omega, by go_num, ?_, hM, hO⟩, by simp [intOf]; omega⟩
                rw [Bl.rounds, ← Hv0.out]
                exact hV
          · obtain rfl : k = 10 := by omega
            rw [show ((10 : Nat) : Int) = 10 from rfl]
            obtain ⟨vv, Hvv⟩ : ∃ v, Hid (v = Bl.rounds (Bl.mws bs) 10 (Bl.vinit st t last)) := ⟨_, rfl⟩
            have hvv : Bl.Words 16 vv := by rw [Hvv.out]; exact Bl.rounds_words hvw 10
            rw [← Hvv.out] at hV
            clear hlt hk hM
            obtain ⟨wv, rfl⟩ : ∃ wv : World, wv = wr := ⟨_, rfl⟩
            have hgvv := hV.lt
            go_wp2
            go_loopw [15, 16] (fun m i wr => ∃ (k : Nat) (Ao : Option Addr) (co : Nat) (G : Option Nat), k ≤ 8 ∧ i = .int .i64 k ∧ m = .slice Ao k co ∧ OwnS wr 43 Ao co (wcells ((List.range k).map fun i => st.getD i 0 ^^^ (vv.getD i 0 ^^^ vv.getD (i + 8) 0))) G ∧ New wv G ∧ Only [] wv wr) (fun _ i _ => 8 - (intOf i).toNat)
            case atStart => exact ⟨0, none, 0, none, by omega, rfl, rfl, OwnS.none _ _, New.none _, Only.refl _ _⟩
            case round =>
              obtain ⟨k, Ao, co, G, hk, rfl, rfl, hown, hnewo, hOo⟩ := hrel
              by_cases hlt : k < 8
              · have hltI : (k : Int) < 8 := by omega
                obtain ⟨n0, H0⟩ : ∃ n, Hid (n = st.getD k 0) := ⟨_, rfl⟩
                obtain ⟨n1, H1⟩ : ∃ n, Hid (n = vv.getD k 0) := ⟨_, rfl⟩
                obtain ⟨n2, H2⟩ : ∃ n, Hid (n = vv.getD (k + 8) 0) := ⟨_, rfl⟩
                have l0 : n0 < 4294967296 := by rw [H0.out]; exact hst.getD _
                have l1 : n1 < 4294967296 := by rw [H1.out]; exact hvv.getD _
                have l2 : n2 < 4294967296 := by rw [H2.out]; exact hvv.getD _
                have c0 : wr.cell? ⟨gh, oh + k, none⟩ = some (.int .u32 (n0 : Int)) := by
                  rw [hOo.cell (p := ⟨gh, oh + k, none⟩) (Nat.lt_of_lt_of_le hgh hO.size) (by simp), hO.cell (p := ⟨gh, oh + k, none⟩) hgh (by simp), Hch.out k (by rw [wcells_length, Hlw.out]; exact hlt), H0.out]
                  exact wcells_get (wget hst hlt)
                have hV' := hV.keep hOo (by simp)
                have c1 : wr.cell? ⟨gv, k, none⟩ = some (.int .u32 (n1 : Int)) := hV'.cellv (by rw [List.getElem?_append_left (by rw [wcells_length, hvv.1]; omega), H1.out]; exact wcells_get (wget hvv (by omega)))
                have c2 : wr.cell? ⟨gv, k + 8, none⟩ = some (.int .u32 (n2 : Int)) := hV'.cellv (by rw [List.getElem?_append_left (by rw [wcells_length, hvv.1]; omega), H2.out]; exact wcells_get (wget hvv (by omega)))
                have hghr : gh < wr.heap.size := Nat.lt_of_lt_of_le (Nat.lt_of_lt_of_le hgh hO.size) hOo.size
                have hgvr : gv < wr.heap.size := hV'.lt
                have hghG : gh ∉ G.toList := hnewo.far (Nat.lt_of_lt_of_le hgh hO.size)
                have hgvG : gv ∉ G.toList := hnewo.far hgvv
                have xx : bits .xor .u32 (bits .xor .u32 (n0 : Int) (n1 : Int)) (n2 : Int) = ((n0 ^^^ (n1 ^^^ n2) : Nat) : Int) := by
                  rw [u32_xor_nat _ _ l0 l1, u32_xor_nat _ _ (Bl.xor_lt _ _ l0 l1) l2, Nat.xor_assoc]
                have Hxx := Lib.hid xx
                clear xx hV'
                go_wp2
                refine Reg.wp G.toList [.r 0, .r 1, .r 2, .r 3, .r 4, .r 5, .r 6, .r 7, .r 8, .r 9, .r 10, .r 11, .r 12, .r 13, .r 14, .r 15, .e 16, .e 17, .r 18] (by kernel_rfl) (by kernel_rfl) (fun d _ _ _ _ h => by cases d <;> exact h) ?_
                simp only [Reg.pick, List.getD_cons_succ, List.getD_cons_zero]
                iterate 16 (apply Reg.read; (· (intro t K hK; go_simp; (try go_ints); (try ((go_ite <;> go_prune); go_simp)); (try go_ints); exact hK _ rfl)); (· (intro K hK; go_simp; exact hK _ rfl)))
                refine Reg.eff ?_
                go_wp2
                refine ⟨((Only.refl G.toList wr).alloc _).dd, ?_⟩
                simp only [Hxx.out]
                clear c0 c1 c2 Hxx
                refine Reg.eff ?_
                refine wpl_append32 rfl (.tmp 121) (.tmp 137) rfl Ao k co _ G rfl (by simp) ((hown.keep ((Only.refl [] wr).alloc _) (by simp)).drew) (some ⟨wr.heap.size, 0, none⟩) 1 1 [n0 ^^^ (n1 ^^^ n2)] rfl rfl (RV.one wr _ _).drew (by simp; omega) ?_
                intro A' c' w2 G' hown2 hO2 hG2
                refine Reg.done hO2 ?_
                (apply Reg.read; (· (intro t K hK; go_simp; (try go_ints); (try ((go_ite <;> go_prune); go_simp)); (try go_ints); exact hK _ rfl)); (· (intro K hK; go_simp; exact hK _ rfl)))
                refine Reg.fin ?_
                have hO1s := hOo.size
                have hO2' : Only [] wv w2 := ((hOo.alloc _).drew).trans hO2 hnewo.out
                clear hO2 hOo hown
                go_wp2
                go_roundw
                case rel =>
                  refine ⟨k + 1, A', c', G', by omega, by go_num, rfl, ?_, hnewo.next (Nat.le_trans hO1s (by simp)) hG2, hO2'⟩
                  rw [List.range_succ, List.map_append]
                  rw [H0.out, H1.out, H2.out] at hown2
                  exact hown2
                case measure => simp [intOf]; omega
              · obtain rfl : k = 8 := by omega
                rw [show ((8 : Nat) : Int) = 8 from rfl]
                rw [Hvv.out] at hown
                go_wp2
                go_ret
                exact ⟨Ao, co, G, rfl, hown, hnewo.le hO.size, hO.trans' hOo⟩
end Go.Proofs.YtglbgocldenooaaDoor
