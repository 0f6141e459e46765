/-
  THE WALKS of number's trim, compareNat, addNat: natural numbers as slices of words.
  THE WALKS of number's addNat and subNat.
  THE WALK of number's subNat.
  THE WALKS of number's mulNat and divSmall.
  THE WALK of number's divSmall.
-/
import Derived.Test.YtddfphneidcibaaProg
import Derived.Test.YtddfphneidcibaaGC
import Derived.Test.YtddfphneidcibaaGD
import Derived.WalkSpells
import Derived.WalkLawsBesides
import Derived.StillTailTactics
namespace Go.Proofs.Ytddfphneidcibaa
open Go.RowKit
open Nm (W32)
def lenV : Value → Nat | .slice _ n _ => n | _ => 0
theorem info32 : (Try.prog.info? 83).map (fun i => (i.zero, i.size, i.bytes)) = some (some (.int .u32 0), 1, 4) := by kernel_rfl
theorem info8 : (Try.prog.info? 5).map (fun i => (i.zero, i.size, i.bytes)) = some (some (.int .u8 0), 1, 1) := by kernel_rfl

/-- A slice of words that holds a number, without zeros at its end. -/
structure NatS (w : World) (A : Option Addr) (n c X : Nat) : Prop where
  n_eq : n = Nm.len W32 X
  le : n ≤ c
  rd : RV w A (cN .u32 (Nm.dg W32 X))
theorem NatS.keep {w w' : World} {A : Option Addr} {n c X : Nat} (h : NatS w A n c X) (ho : Only [] w w') : NatS w' A n c X := ⟨h.n_eq, h.le, h.rd.keep0 ho⟩
theorem NatS.drew {w : World} {A : Option Addr} {n c X : Nat} (h : NatS w A n c X) : NatS w.drew A n c X := ⟨h.n_eq, h.le, h.rd⟩
theorem NatS.zero (w : World) (A : Option Addr) (c : Nat) : NatS w A 0 c 0 := ⟨by rw [Nm.len_zero], Nat.zero_le _, by rw [Nm.dg_zero]; exact RV.nil⟩
/-- Its words. -/
theorem NatS.at {w : World} {A : Option Addr} {n c X : Nat} (h : NatS w A n c X) (h0 : 0 < n) : ∃ g o, A = some ⟨g, o, none⟩ ∧ g < w.heap.size ∧ ∀ j, j < n → w.cell? ⟨g, o + j, none⟩ = some (.int .u32 ((X / W32 ^ j % W32 : Nat) : Int)) := by
  have hl : (cN .u32 (Nm.dg W32 X)).length = n := by rw [cN_length, Nm.dg_length, h.n_eq]
  obtain ⟨g, o, e, hg, hc⟩ := h.rd (by omega)
  refine ⟨g, o, e, hg, fun j hj => ?_⟩
  rw [hc j (by omega), cN_get (by rw [cN_length] at hl; omega), Nm.dg_getD (by decide)]
/-- An array of words. -/
theorem NatS.of_pad {w : World} {A : Option Addr} {n c X : Nat} (hc : n ≤ c) (hX : X < W32 ^ n) (hr : RV w A (cN .u32 (Nm.pad W32 n X))) : NatS w A (Nm.len W32 X) c X := by
  have hle := (Nm.len_le (B := W32) (by decide) n X).2 hX
  refine ⟨rfl, Nat.le_trans hle hc, ?_⟩
  rw [Nm.dg_pad (by decide), ← Nm.take_pad W32 _ _ _ hle, cN, List.map_take]
  exact hr.take _
theorem padAt {w : World} {A : Option Addr} {k : IntKind} {B n X : Nat} (hr : RV w A (cN k (Nm.pad B n X))) (h0 : 0 < n) : ∃ g o, A = some ⟨g, o, none⟩ ∧ g < w.heap.size ∧ ∀ j, j < n → w.cell? ⟨g, o + j, none⟩ = some (.int k ((X / B ^ j % B : Nat) : Int)) := by
  obtain ⟨g, o, e, hg, hc⟩ := hr (by simpa using h0)
  refine ⟨g, o, e, hg, fun j hj => ?_⟩
  rw [hc j (by simpa using hj), cN_get (by simpa using hj), Nm.pad_getD _ _ _ _ hj]

set_option maxHeartbeats 4000000 in
set_option maxRecDepth 100000 in
theorem trim_any (w : World) (A : Option Addr) (n c X : Nat) (hc : n ≤ c) (hm : n ≤ 1000000) (hX : X < W32 ^ n) (hr : RV w A (cN .u32 (Nm.pad W32 n X))) :
    Calls Try.prog 83 #[.slice A n c] w fun e w' => ∃ m, e = .returned (.slice A m c) ∧ w = w' ∧ NatS w A m c X := by
  have Hr := Lib.hid hr
  have HX := Lib.hid hX
  have hns := NatS.of_pad hc hX hr
  clear hr hX
  go_enter Try.func83, Try.ntmps83
  go_wp2
  go_loopw [0] (fun x wr => ∃ k : Nat, k ≤ n ∧ x = .slice A k c ∧ Hid (X < W32 ^ k) ∧ w = wr) (fun x _ => lenV x)
  case atStart => exact ⟨n, Nat.le_refl _, rfl, HX.out, rfl⟩
  case round =>
    obtain ⟨k, hk, rfl, hXk, rfl⟩ := hrel
    rcases (show k = 0 ∨ ∃ j, k = j + 1 from by cases k; exact .inl rfl; exact .inr ⟨_, rfl⟩) with rfl | ⟨j, rfl⟩
    · go_wp2
      go_ret
      have : X = 0 := by simpa using hXk.out
      subst this
      exact ⟨0, rfl, rfl, NatS.zero _ _ _⟩
    · obtain ⟨g, o, rfl, hg, hcl⟩ := padAt Hr.out (by omega)
      have c1 := hcl j (by omega)
      clear hcl
      obtain ⟨x, Hx⟩ : ∃ x : Nat, Hid (x = X / W32 ^ j % W32) := ⟨_, rfl⟩
      rw [← Hx.out] at c1
      have hcj : (j : Int) ≤ (c : Int) := by omega
      have hjm : (j : Int) ≤ 1000000 := by omega
      by_cases h0 : x = 0
      · subst h0
        go_wp2
        go_roundw
        case rel => exact ⟨j, by omega, rfl, Nm.top_zero (by decide) hXk.out Hx.out.symm, trivial⟩
        case measure => simp [lenV]
      · have e1 : ((x : Int) == 0) = false := beq_eq_false_iff_ne.2 (by omega)
        have hl := Nm.top_len (by decide) hXk.out (by rw [← Hx.out]; exact h0)
        rw [hl] at hns
        go_wp2
        go_ret
        exact ⟨j + 1, rfl, rfl, hns⟩
theorem NatS.lt {w : World} {A : Option Addr} {n c X : Nat} (h : NatS w A n c X) : X < W32 ^ n := by rw [h.n_eq]; exact Nm.lt_pow_len (by decide) X

/-- What compareNat and Order answer. -/
def Cmp (X Y : Nat) (r : Int) : Prop := (X < Y ∧ r = -1) ∨ (X = Y ∧ r = 0) ∨ (Y < X ∧ r = 1)

set_option maxHeartbeats 4000000 in
set_option maxRecDepth 100000 in
theorem compareNat_any (w : World) (A B : Option Addr) (n c m d X Y : Nat) (hn : n ≤ 1000000) (hm : m ≤ 1000000) (hA : NatS w A n c X) (hB : NatS w B m d Y) :
    Calls Try.prog 103 #[.slice A n c, .slice B m d] w fun e w' => ∃ r : Int, e = .returned (.int .i64 r) ∧ Hid (Cmp X Y r) ∧ Only [] w w' := by
  by_cases hnm : n = m
  · subst hnm
    have hX := hA.lt
    have hY := hB.lt
    have HX := Lib.hid hX
    have HY := Lib.hid hY
    clear hX hY
    go_enter Try.func103, Try.ntmps103
    go_wp2
    go_loopw [4, 5] (fun _ i wr => ∃ k : Nat, k ≤ n ∧ ∃ z : Int, z = (k : Int) - 1 ∧ i = .int .i64 z ∧ Hid (X / W32 ^ k = Y / W32 ^ k) ∧ Only [] w wr) (fun _ i _ => (intOf i + 1).toNat)
    case atStart => exact ⟨n, Nat.le_refl _, _, rfl, by go_num, by unfold Hid; rw [Nat.div_eq_of_lt HX.out, Nat.div_eq_of_lt HY.out], Only.refl _ _⟩
    case round =>
      obtain ⟨k, hk, z, hz, rfl, he, hO⟩ := hrel
      rcases (show k = 0 ∨ ∃ j, k = j + 1 from by cases k; exact .inl rfl; exact .inr ⟨_, rfl⟩) with rfl | ⟨j, rfl⟩
      · obtain rfl : z = -1 := by omega
        clear hz
        go_wp2
        go_ret
        exact ⟨0, rfl, .inr (.inl ⟨by simpa using he.out, rfl⟩), hO⟩
      · obtain rfl : z = (j : Int) := by omega
        clear hz
        obtain ⟨ga, oa, rfl, hga, hca⟩ := (hA.keep hO).at (by omega)
        obtain ⟨gb, ob, rfl, hgb, hcb⟩ := (hB.keep hO).at (by omega)
        have c1 := hca j (by omega)
        have c2 := hcb j (by omega)
        clear hca hcb
        have ht := Lib.hid (Nm.cmp_top he.out)
        have ht' := Lib.hid (Nm.cmp_top he.out.symm)
        revert c1 c2 ht ht'
        generalize X / W32 ^ j % W32 = x
        generalize Y / W32 ^ j % W32 = y
        intro c1 c2 ht ht'
        have hjn : (j : Int) < (n : Int) := by omega
        have hjm : (j : Int) ≤ 1000000 := by omega
        by_cases h1 : x < y
        · have h1I : (x : Int) < (y : Int) := by omega
          go_wp2
          refine Reg.wp [] [.r 0, .r 1, .r 2, .r 3, .r 4, .r 5, .r 6, .r 7, .r 8] (by kernel_rfl) (by kernel_rfl) (fun d _ _ _ _ h => by cases d <;> exact h) ?_
          simp only [Reg.pick, List.getD_cons_succ, List.getD_cons_zero]
          iterate 9 (apply Reg.read; (· (intro t K hK; go_simp; (try go_ints); (try ((go_ite <;> go_prune); go_simp)); (try go_ints); exact hK _ rfl)); (· (intro K hK; go_simp; exact hK _ rfl)))
          refine Reg.fin ?_
          go_wp2
          go_ret
          exact ⟨-1, rfl, .inl ⟨ht.out.2 h1, rfl⟩, hO.drew⟩
        · have h1I : (y : Int) ≤ (x : Int) := by omega
          by_cases h2 : y < x
          · have h2I : (y : Int) < (x : Int) := by omega
            go_wp2
            refine Reg.wp [] [.r 0, .r 1, .r 2, .r 3, .r 4, .r 5, .r 6, .r 7, .r 8] (by kernel_rfl) (by kernel_rfl) (fun d _ _ _ _ h => by cases d <;> exact h) ?_
            simp only [Reg.pick, List.getD_cons_succ, List.getD_cons_zero]
            iterate 9 (apply Reg.read; (· (intro t K hK; go_simp; (try go_ints); (try ((go_ite <;> go_prune); go_simp)); (try go_ints); exact hK _ rfl)); (· (intro K hK; go_simp; exact hK _ rfl)))
            refine Reg.fin ?_
            go_wp2
            refine Reg.wp [] [.r 0, .r 1, .r 2, .r 3, .r 4, .r 5, .r 6, .r 7, .r 8] (by kernel_rfl) (by kernel_rfl) (fun d _ _ _ _ h => by cases d <;> exact h) ?_
            simp only [Reg.pick, List.getD_cons_succ, List.getD_cons_zero]
            iterate 9 (apply Reg.read; (· (intro t K hK; go_simp; (try go_ints); (try ((go_ite <;> go_prune); go_simp)); (try go_ints); exact hK _ rfl)); (· (intro K hK; go_simp; exact hK _ rfl)))
            refine Reg.fin ?_
            go_wp2
            go_ret
            exact ⟨1, rfl, .inr (.inr ⟨ht'.out.2 h2, rfl⟩), hO.drew.drew⟩
          · obtain rfl : x = y := by omega
            have Ht := Lib.hid (ht.out.1 rfl)
            clear ht ht' h1I h1 h2
            go_wp2
            refine Reg.wp [] [.r 0, .r 1, .r 2, .r 3, .r 4, .r 5, .r 6, .r 7, .r 8] (by kernel_rfl) (by kernel_rfl) (fun d _ _ _ _ h => by cases d <;> exact h) ?_
            simp only [Reg.pick, List.getD_cons_succ, List.getD_cons_zero]
            iterate 9 (apply Reg.read; (· (intro t K hK; go_simp; (try go_ints); (try ((go_ite <;> go_prune); go_simp)); (try go_ints); exact hK _ rfl)); (· (intro K hK; go_simp; exact hK _ rfl)))
            refine Reg.fin ?_
            go_wp2
            refine Reg.wp [] [.r 0, .r 1, .r 2, .r 3, .r 4, .r 5, .r 6, .r 7, .r 8] (by kernel_rfl) (by kernel_rfl) (fun d _ _ _ _ h => by cases d <;> exact h) ?_
            simp only [Reg.pick, List.getD_cons_succ, List.getD_cons_zero]
            iterate 9 (apply Reg.read; (· (intro t K hK; go_simp; (try go_ints); (try ((go_ite <;> go_prune); go_simp)); (try go_ints); exact hK _ rfl)); (· (intro K hK; go_simp; exact hK _ rfl)))
            refine Reg.fin ?_
            go_wp2
            go_roundw
            case rel => exact ⟨j, by omega, _, rfl, by go_num, Ht, hO.drew.drew⟩
            case measure => simp [intOf]
  · have e1 : ((n : Int) == (m : Int)) = false := beq_eq_false_iff_ne.2 (by omega)
    have e2 : ((n : Int) != (m : Int)) = true := by rw [bne_iff_ne]; omega
    have hla := hA.n_eq
    have hlb := hB.n_eq
    by_cases hlt : n < m
    · have hltI : (n : Int) < (m : Int) := by omega
      have hxy : X < Y := Nm.cmp_len (B := W32) (by decide) (by omega)
      clear hla hlb hA hB
      go_enter Try.func103, Try.ntmps103
      go_wp2
      go_ret
      exact ⟨-1, rfl, .inl ⟨hxy, rfl⟩, Only.refl _ _⟩
    · have hltI : (m : Int) ≤ (n : Int) := by omega
      have hxy : Y < X := Nm.cmp_len (B := W32) (by decide) (by omega)
      clear hla hlb hA hB
      go_enter Try.func103, Try.ntmps103
      go_wp2
      go_ret
      exact ⟨1, rfl, .inr (.inr ⟨hxy, rfl⟩), Only.refl _ _⟩
end Go.Proofs.Ytddfphneidcibaa
namespace Go.Proofs.Ytddfphneidcibaa
open Go.RowKit
open Nm (W32)
theorem zeros32 (n : Nat) : List.replicate n (Value.int .u32 0) = cN .u32 (Nm.pad W32 n 0) := by rw [cN_replicate, Nm.pad_zero]

set_option maxHeartbeats 4000000 in
set_option maxRecDepth 100000 in
theorem addNat_ge (w : World) (A B : Option Addr) (n c m d X Y : Nat) (hn : n ≤ 999999) (hmn : m ≤ n) (hA : NatS w A n c X) (hB : NatS w B m d Y) :
    Calls Try.prog 93 #[.slice A n c, .slice B m d] w fun e w' => ∃ A' n' c', e = .returned (.slice A' n' c') ∧ NatS w' A' n' c' (X + Y) ∧ Only [] w w' := by
  have hmnI : (m : Int) ≤ (n : Int) := by omega
  have Hm := Lib.hid hB.n_eq
  go_enter Try.func93, Try.ntmps93
  go_wp2_with (refine wpl_make rfl 81 _ _ rfl 83 (.int .u32 0) 4 Try.underlying81 info32 rfl .i64 .i64 _ _ (n + 1) (n + 1) (by omega) (by omega) rfl rfl (Nat.le_refl _) (by omega) (by decide) ?_; intro w1 _ hB1 hO1)
  rw [zeros32] at hB1
  go_loopw [6, 7, 21] (fun carry _ i wr => ∃ k : Nat, k ≤ n ∧ i = .int .i64 (k : Int) ∧ (∃ cr : Nat, carry = .int .u64 (cr : Int) ∧ Hid (cr = Nm.sm W32 X Y k / W32 ^ k)) ∧ Blk wr w.heap.size 83 (cN .u32 (Nm.pad W32 (n + 1) (Nm.sm W32 X Y k % W32 ^ k))) ∧ Only [] w wr) (fun _ _ i _ => n - (intOf i).toNat)
  case atStart => exact ⟨0, Nat.zero_le _, rfl, ⟨0, rfl, by unfold Hid; rw [Nm.sm_zero]; rfl⟩, by rw [Nm.sm_zero]; exact hB1, hO1⟩
  case round =>
    clear hB1 hO1
    obtain ⟨k, hk, rfl, ⟨cr, rfl, hcr⟩, hBk, hO⟩ := hrel
    have hcr1 := Nm.sm_carry (B := W32) (by decide) X Y k
    rw [← hcr.out] at hcr1
    have hcrI : (cr : Int) ≤ 1 := by omega
    by_cases hlt : k < n
    · have hltI : (k : Int) < (n : Int) := by omega
      have hkm : (k : Int) ≤ 1000000 := by omega
      obtain ⟨ga, oa, hAe, hga, hca⟩ := (hA.keep hO).at (by omega)
      have c1 := hca k hlt
      have hst := Lib.hid (Nm.sm_step (B := W32) (by decide) X Y k)
      have hfl := Lib.hid (Nm.sm_fill (B := W32) (n := n + 1) (by decide) X Y k (by omega))
      rw [← hcr.out] at hst hfl
      have hxl : X / W32 ^ k % W32 < 4294967296 := Nat.mod_lt _ (by decide)
      have hyl : Y / W32 ^ k % W32 < 4294967296 := Nat.mod_lt _ (by decide)
      have hy0 : m ≤ k → Y / W32 ^ k % W32 = 0 := fun h => Nm.high_zero (by decide) (by rw [← Hm.out]; exact h)
      by_cases hkm2 : k < m
      · have hkmI : (k : Int) < (m : Int) := by omega
        obtain ⟨gb, ob, hBe, hgb, hcb⟩ := (hB.keep hO).at (by omega)
        have c2 := hcb k hkm2
        clear hca hcb hy0
        revert c1 c2 hst hfl hxl hyl
        generalize X / W32 ^ k % W32 = x
        generalize Y / W32 ^ k % W32 = y
        intro c1 hst hfl hxl hyl c2
        have hxI : (x : Int) < 4294967296 := by omega
        have hyI : (y : Int) < 4294967296 := by omega
        subst hAe hBe
        obtain ⟨d, Hd⟩ : ∃ d : Nat, Hid (d = (cr + (x + y)) % 4294967296) := ⟨_, rfl⟩
        obtain ⟨e, He⟩ : ∃ e : Nat, Hid (e = (cr + (x + y)) / 4294967296) := ⟨_, rfl⟩
        have hd : ((cr : Int) + (x : Int) + (y : Int)) % 4294967296 = (d : Int) := by have := Hd.out; omega
        have he : ((cr : Int) + (x : Int) + (y : Int)) / 4294967296 = (e : Int) := by have := He.out; omega
        have hB' := hBk.set k (.int .u32 (d : Int))
        rw [cN_set, hfl.out d Hd.out] at hB'
        have HB' := Lib.hid hB'
        have c3 := hBk.cellv (i := k) (cN_get (by simp; omega))
        have fz := hBk.frozen k
        clear hB' hBk
        go_wp2
        go_roundw
        case rel => exact ⟨k + 1, by omega, by go_num, ⟨e, rfl, by unfold Hid; rw [hst.out.1]; exact He.out⟩, HB'.out, hO.setCell (p := ⟨w.heap.size, k, none⟩) (.inr (Nat.le_refl _)) _⟩
        case measure => simp [intOf]; omega
      · have hkmI : (m : Int) ≤ (k : Int) := by omega
        rw [hy0 (by omega), Nat.add_zero] at hst hfl
        clear hca hy0 hyl
        revert c1 hst hfl hxl
        generalize X / W32 ^ k % W32 = x
        intro c1 hst hfl hxl
        have hxI : (x : Int) < 4294967296 := by omega
        subst hAe
        obtain ⟨d, Hd⟩ : ∃ d : Nat, Hid (d = (cr + x) % 4294967296) := ⟨_, rfl⟩
        obtain ⟨e, He⟩ : ∃ e : Nat, Hid (e = (cr + x) / 4294967296) := ⟨_, rfl⟩
        have hd : ((cr : Int) + (x : Int)) % 4294967296 = (d : Int) := by have := Hd.out; omega
        have he : ((cr : Int) + (x : Int)) / 4294967296 = (e : Int) := by have := He.out; omega
        have hB' := hBk.set k (.int .u32 (d : Int))
        rw [cN_set, hfl.out d Hd.out] at hB'
        have HB' := Lib.hid hB'
        have c3 := hBk.cellv (i := k) (cN_get (by simp; omega))
        have fz := hBk.frozen k
        clear hB' hBk
        go_wp2
        go_roundw
        case rel => exact ⟨k + 1, by omega, by go_num, ⟨e, rfl, by unfold Hid; rw [hst.out.1]; exact He.out⟩, HB'.out, hO.setCell (p := ⟨w.heap.size, k, none⟩) (.inr (Nat.le_refl _)) _⟩
        case measure => simp [intOf]; omega
    · obtain rfl : k = n := by omega
      have hB' := hBk.set k (.int .u32 (cr : Int))
      have hlx : Nm.len W32 X ≤ k := by rw [hA.n_eq]; exact Nat.le_refl _
      have hly : Nm.len W32 Y ≤ k := by rw [← Hm.out]; omega
      rw [cN_set, hcr.out, Nm.sm_last (by decide) hlx hly, ← hcr.out] at hB'
      have hlt' := Nm.sum_lt (by decide) hlx hly
      have HB' := Lib.hid hB'
      have Hlt' := Lib.hid hlt'
      have c3 := hBk.cellv (i := k) (cN_get (by simp))
      have fz := hBk.frozen k
      have hkm : (k : Int) ≤ 1000000 := by omega
      have hO' : Only [] w (wr.setCell ⟨w.heap.size, k, none⟩ (.int .u32 (cr : Int))) := hO.setCell (p := ⟨w.heap.size, k, none⟩) (.inr (Nat.le_refl _)) _
      clear hB' hBk hlt' hlx hly
      go_wp2_with (go_at_call 83; refine (trim_any _ _ (k + 1) (k + 1) (X + Y) (Nat.le_refl _) (by omega) Hlt'.out HB'.out.rv).mono ?_; rintro e w' ⟨m', rfl, rfl, hN⟩)
      go_ret
      exact ⟨_, _, _, rfl, hN, hO'⟩
set_option maxHeartbeats 4000000 in
set_option maxRecDepth 100000 in
theorem addNat_lt (w : World) (A B : Option Addr) (n c m d X Y : Nat) (hn : n ≤ 999999) (hmn : m < n) (hA : NatS w A n c X) (hB : NatS w B m d Y) :
    Calls Try.prog 93 #[.slice B m d, .slice A n c] w fun e w' => ∃ A' n' c', e = .returned (.slice A' n' c') ∧ NatS w' A' n' c' (X + Y) ∧ Only [] w w' := by
  have hmnI : (m : Int) < (n : Int) := by omega
  have Hm := Lib.hid hB.n_eq
  go_enter Try.func93, Try.ntmps93
  go_wp2_with (refine wpl_make rfl 81 _ _ rfl 83 (.int .u32 0) 4 Try.underlying81 info32 rfl .i64 .i64 _ _ (n + 1) (n + 1) (by omega) (by omega) rfl rfl (Nat.le_refl _) (by omega) (by decide) ?_; intro w1 _ hB1 hO1)
  rw [zeros32] at hB1
  go_loopw [6, 7, 21] (fun carry _ i wr => ∃ k : Nat, k ≤ n ∧ i = .int .i64 (k : Int) ∧ (∃ cr : Nat, carry = .int .u64 (cr : Int) ∧ Hid (cr = Nm.sm W32 X Y k / W32 ^ k)) ∧ Blk wr w.heap.size 83 (cN .u32 (Nm.pad W32 (n + 1) (Nm.sm W32 X Y k % W32 ^ k))) ∧ Only [] w wr) (fun _ _ i _ => n - (intOf i).toNat)
  case atStart => exact ⟨0, Nat.zero_le _, rfl, ⟨0, rfl, by unfold Hid; rw [Nm.sm_zero]; rfl⟩, by rw [Nm.sm_zero]; exact hB1, hO1⟩
  case round =>
    clear hB1 hO1
    obtain ⟨k, hk, rfl, ⟨cr, rfl, hcr⟩, hBk, hO⟩ := hrel
    have hcr1 := Nm.sm_carry (B := W32) (by decide) X Y k
    rw [← hcr.out] at hcr1
    have hcrI : (cr : Int) ≤ 1 := by omega
    by_cases hlt : k < n
    · have hltI : (k : Int) < (n : Int) := by omega
      have hkm : (k : Int) ≤ 1000000 := by omega
      obtain ⟨ga, oa, hAe, hga, hca⟩ := (hA.keep hO).at (by omega)
      have c1 := hca k hlt
      have hst := Lib.hid (Nm.sm_step (B := W32) (by decide) X Y k)
      have hfl := Lib.hid (Nm.sm_fill (B := W32) (n := n + 1) (by decide) X Y k (by omega))
      rw [← hcr.out] at hst hfl
      have hxl : X / W32 ^ k % W32 < 4294967296 := Nat.mod_lt _ (by decide)
      have hyl : Y / W32 ^ k % W32 < 4294967296 := Nat.mod_lt _ (by decide)
      have hy0 : m ≤ k → Y / W32 ^ k % W32 = 0 := fun h => Nm.high_zero (by decide) (by rw [← Hm.out]; exact h)
      by_cases hkm2 : k < m
      · have hkmI : (k : Int) < (m : Int) := by omega
        obtain ⟨gb, ob, hBe, hgb, hcb⟩ := (hB.keep hO).at (by omega)
        have c2 := hcb k hkm2
        clear hca hcb hy0
        revert c1 c2 hst hfl hxl hyl
        generalize X / W32 ^ k % W32 = x
        generalize Y / W32 ^ k % W32 = y
        intro c1 hst hfl hxl hyl c2
        have hxI : (x : Int) < 4294967296 := by omega
        have hyI : (y : Int) < 4294967296 := by omega
        subst hAe hBe
        obtain ⟨d, Hd⟩ : ∃ d : Nat, Hid (d = (cr + (x + y)) % 4294967296) := ⟨_, rfl⟩
        obtain ⟨e, He⟩ : ∃ e : Nat, Hid (e = (cr + (x + y)) / 4294967296) := ⟨_, rfl⟩
        have hd : ((cr : Int) + (x : Int) + (y : Int)) % 4294967296 = (d : Int) := by have := Hd.out; omega
        have he : ((cr : Int) + (x : Int) + (y : Int)) / 4294967296 = (e : Int) := by have := He.out; omega
        have hB' := hBk.set k (.int .u32 (d : Int))
        rw [cN_set, hfl.out d Hd.out] at hB'
        have HB' := Lib.hid hB'
        have c3 := hBk.cellv (i := k) (cN_get (by simp; omega))
        have fz := hBk.frozen k
        clear hB' hBk
        go_wp2
        go_roundw
        case rel => exact ⟨k + 1, by omega, by go_num, ⟨e, rfl, by unfold Hid; rw [hst.out.1]; exact He.out⟩, HB'.out, hO.setCell (p := ⟨w.heap.size, k, none⟩) (.inr (Nat.le_refl _)) _⟩
        case measure => simp [intOf]; omega
      · have hkmI : (m : Int) ≤ (k : Int) := by omega
        rw [hy0 (by omega), Nat.add_zero] at hst hfl
        clear hca hy0 hyl
        revert c1 hst hfl hxl
        generalize X / W32 ^ k % W32 = x
        intro c1 hst hfl hxl
        have hxI : (x : Int) < 4294967296 := by omega
        subst hAe
        obtain ⟨d, Hd⟩ : ∃ d : Nat, Hid (d = (cr + x) % 4294967296) := ⟨_, rfl⟩
        obtain ⟨e, He⟩ : ∃ e : Nat, Hid (e = (cr + x) / 4294967296) := ⟨_, rfl⟩
        have hd : ((cr : Int) + (x : Int)) % 4294967296 = (d : Int) := by have := Hd.out; omega
        have he : ((cr : Int) + (x : Int)) / 4294967296 = (e : Int) := by have := He.out; omega
        have hB' := hBk.set k (.int .u32 (d : Int))
        rw [cN_set, hfl.out d Hd.out] at hB'
        have HB' := Lib.hid hB'
        have c3 := hBk.cellv (i := k) (cN_get (by simp; omega))
        have fz := hBk.frozen k
        clear hB' hBk
        go_wp2
        go_roundw
        case rel => exact ⟨k + 1, by omega, by go_num, ⟨e, rfl, by unfold Hid; rw [hst.out.1]; exact He.out⟩, HB'.out, hO.setCell (p := ⟨w.heap.size, k, none⟩) (.inr (Nat.le_refl _)) _⟩
        case measure => simp [intOf]; omega
    · obtain rfl : k = n := by omega
      have hB' := hBk.set k (.int .u32 (cr : Int))
      have hlx : Nm.len W32 X ≤ k := by rw [hA.n_eq]; exact Nat.le_refl _
      have hly : Nm.len W32 Y ≤ k := by rw [← Hm.out]; omega
      rw [cN_set, hcr.out, Nm.sm_last (by decide) hlx hly, ← hcr.out] at hB'
      have hlt' := Nm.sum_lt (by decide) hlx hly
      have HB' := Lib.hid hB'
      have Hlt' := Lib.hid hlt'
      have c3 := hBk.cellv (i := k) (cN_get (by simp))
      have fz := hBk.frozen k
      have hkm : (k : Int) ≤ 1000000 := by omega
      have hO' : Only [] w (wr.setCell ⟨w.heap.size, k, none⟩ (.int .u32 (cr : Int))) := hO.setCell (p := ⟨w.heap.size, k, none⟩) (.inr (Nat.le_refl _)) _
      clear hB' hBk hlt' hlx hly
      go_wp2_with (go_at_call 83; refine (trim_any _ _ (k + 1) (k + 1) (X + Y) (Nat.le_refl _) (by omega) Hlt'.out HB'.out.rv).mono ?_; rintro e w' ⟨m', rfl, rfl, hN⟩)
      go_ret
      exact ⟨_, _, _, rfl, hN, hO'⟩
theorem addNat_any (w : World) (A B : Option Addr) (n c m d X Y : Nat) (hn : n ≤ 999999) (hm : m ≤ 999999) (hA : NatS w A n c X) (hB : NatS w B m d Y) :
    Calls Try.prog 93 #[.slice A n c, .slice B m d] w fun e w' => ∃ A' n' c', e = .returned (.slice A' n' c') ∧ NatS w' A' n' c' (X + Y) ∧ Only [] w w' := by
  by_cases h : m ≤ n
  · exact addNat_ge w A B n c m d X Y hn h hA hB
  · rw [Nat.add_comm]
    exact addNat_lt w B A m d n c Y X hm (by omega) hB hA
end Go.Proofs.Ytddfphneidcibaa
namespace Go.Proofs.Ytddfphneidcibaa
open Go.RowKit
open Nm (W32)
theorem u64_neg {z : Int} (h1 : -18446744073709551616 ≤ z) (h2 : z < 0) : IntKind.u64.wrap z = z + 18446744073709551616 := by
  simp [IntKind.wrap, IntKind.signed, IntKind.bits]
  omega

set_option maxHeartbeats 4000000 in
set_option maxRecDepth 100000 in
theorem subNat_any (w : World) (A B : Option Addr) (n c m d X Y : Nat) (hn : n ≤ 999999) (hA : NatS w A n c X) (hB : NatS w B m d Y) (hXY : Y ≤ X) :
    Calls Try.prog 98 #[.slice A n c, .slice B m d] w fun e w' => ∃ A' n' c', e = .returned (.slice A' n' c') ∧ NatS w' A' n' c' (X - Y) ∧ Only [] w w' := by
  have Hm := Lib.hid hB.n_eq
  have hmn : m ≤ n := by rw [hA.n_eq, hB.n_eq]; exact Nm.len_mono (by decide) hXY
  go_enter Try.func98, Try.ntmps98
  go_wp2_with (refine wpl_make rfl 81 _ _ rfl 83 (.int .u32 0) 4 Try.underlying81 info32 rfl .i64 .i64 _ _ n n (by omega) (by omega) rfl rfl (Nat.le_refl _) (by omega) (by decide) ?_; intro w1 _ hB1 hO1)
  rw [zeros32] at hB1
  go_loopw [6, 7, 8, 14] (fun borrow _ _ i wr => ∃ k : Nat, k ≤ n ∧ i = .int .i64 (k : Int) ∧ (∃ b : Nat, borrow = .int .u64 (b : Int) ∧ Hid (b = Nm.bw W32 X Y k)) ∧ Blk wr w.heap.size 83 (cN .u32 (Nm.pad W32 n (Nm.df W32 X Y k))) ∧ Only [] w wr) (fun _ _ _ i _ => n - (intOf i).toNat)
  case atStart => exact ⟨0, Nat.zero_le _, rfl, ⟨0, rfl, by unfold Hid; rw [Nm.bw_zero]⟩, by rw [Nm.df_zero]; exact hB1, hO1⟩
  case round =>
    clear hB1 hO1
    obtain ⟨k, hk, rfl, ⟨b, rfl, hb⟩, hBk, hO⟩ := hrel
    have hb1 := Nm.bw_le W32 X Y k
    rw [← hb.out] at hb1
    have hbI : (b : Int) ≤ 1 := by omega
    by_cases hlt : k < n
    · have hltI : (k : Int) < (n : Int) := by omega
      have hkm : (k : Int) ≤ 1000000 := by omega
      obtain ⟨ga, oa, hAe, hga, hca⟩ := (hA.keep hO).at (by omega)
      have c1 := hca k hlt
      have hst := Lib.hid (Nm.df_step (B := W32) (by decide) X Y k).1
      have hfl := Lib.hid (Nm.df_fill (B := W32) (n := n) (by decide) X Y k hlt)
      rw [← hb.out] at hst hfl
      obtain ⟨b', hb'⟩ : ∃ b', Hid (b' = Nm.bw W32 X Y (k + 1)) := ⟨_, rfl⟩
      rw [← hb'.out] at hst hfl
      have hxl : X / W32 ^ k % W32 < 4294967296 := Nat.mod_lt _ (by decide)
      have hyl : Y / W32 ^ k % W32 < 4294967296 := Nat.mod_lt _ (by decide)
      have hy0 : m ≤ k → Y / W32 ^ k % W32 = 0 := fun h => Nm.high_zero (by decide) (by rw [← Hm.out]; exact h)
      by_cases hkm2 : k < m
      · have hkmI : (k : Int) < (m : Int) := by omega
        obtain ⟨gb, ob, hBe, hgb, hcb⟩ := (hB.keep hO).at (by omega)
        have c2 := hcb k hkm2
        clear hca hcb hy0
        generalize X / W32 ^ k % W32 = x at c1 hst hfl hxl
        generalize Y / W32 ^ k % W32 = y at c2 hst hfl hyl
        have hxI : (x : Int) < 4294967296 := by omega
        have hyI : (y : Int) < 4294967296 := by omega
        subst hAe hBe
        by_cases hneg : x < y + b
        · obtain rfl : b' = 1 := by rw [hst.out, if_pos hneg]
          obtain ⟨dd, Hd⟩ : ∃ d : Nat, Hid (d = x + 4294967296 - y - b) := ⟨_, rfl⟩
          have hnegI : (x : Int) - (b : Int) - (y : Int) < 0 := by omega
          by_cases hxb : x < b
          · obtain rfl : x = 0 := by omega
            obtain rfl : b = 1 := by omega
            have hw0 : IntKind.u64.wrap (-1) = 18446744073709551615 := by decide +kernel
            have hw1 : (18446744073709551615 - (y : Int)) % 4294967296 = (dd : Int) := by have := Hd.out; omega
            have hw2 : (18446744073709551615 - (y : Int)) / 9223372036854775808 = 1 := by omega
            have hB' := hBk.set k (.int .u32 (dd : Int))
            rw [cN_set, hfl.out dd (by rw [Hd.out]; rfl)] at hB'
            have HB' := Lib.hid hB'
            have c3 := hBk.cellv (i := k) (cN_get (by simp; omega))
            have fz := hBk.frozen k
            clear hB' hBk
            go_wp2
            go_roundw
            case rel => exact ⟨k + 1, by omega, by go_num, ⟨1, rfl, hb'⟩, HB'.out, hO.setCell (p := ⟨w.heap.size, k, none⟩) (.inr (Nat.le_refl _)) _⟩
            case measure => simp [intOf]; omega
          · have hxbI : (b : Int) ≤ (x : Int) := by omega
            obtain ⟨v, hv⟩ : ∃ v : Nat, Hid ((v : Int) = (x : Int) - (b : Int) - (y : Int) + 18446744073709551616) := ⟨((x : Int) - (b : Int) - (y : Int) + 18446744073709551616).toNat, by unfold Hid; omega⟩
            have hw0 : IntKind.u64.wrap ((x : Int) - (b : Int) - (y : Int)) = (v : Int) := by rw [u64_neg (by omega) hnegI, hv.out]
            have hw1 : (v : Int) % 4294967296 = (dd : Int) := by have := hv.out; have := Hd.out; omega
            have hw2 : (v : Int) / 9223372036854775808 = 1 := by have := hv.out; omega
            have hB' := hBk.set k (.int .u32 (dd : Int))
            rw [cN_set, hfl.out dd (by rw [Hd.out]; rfl)] at hB'
            have HB' := Lib.hid hB'
            have c3 := hBk.cellv (i := k) (cN_get (by simp; omega))
            have fz := hBk.frozen k
            clear hB' hBk
            go_wp2
            go_roundw
            case rel => exact ⟨k + 1, by omega, by go_num, ⟨1, rfl, hb'⟩, HB'.out, hO.setCell (p := ⟨w.heap.size, k, none⟩) (.inr (Nat.le_refl _)) _⟩
            case measure => simp [intOf]; omega
        · obtain rfl : b' = 0 := by rw [hst.out, if_neg hneg]
          have hnegI : 0 ≤ (x : Int) - (b : Int) - (y : Int) := by omega
          obtain ⟨dd, Hd⟩ : ∃ d : Nat, Hid (d = x - y - b) := ⟨_, rfl⟩
          have hd0 : (x : Int) - (b : Int) - (y : Int) = (dd : Int) := by have := Hd.out; omega
          have hd1 : (dd : Int) < 4294967296 := by omega
          have hw2 : (dd : Int) / 9223372036854775808 = 0 := by omega
          have hB' := hBk.set k (.int .u32 (dd : Int))
          rw [cN_set, hfl.out dd (by rw [Hd.out]; simp)] at hB'
          have HB' := Lib.hid hB'
          have c3 := hBk.cellv (i := k) (cN_get (by simp; omega))
          have fz := hBk.frozen k
          clear hB' hBk
          go_wp2
          go_roundw
          case rel => exact ⟨k + 1, by omega, by go_num, ⟨0, rfl, hb'⟩, HB'.out, hO.setCell (p := ⟨w.heap.size, k, none⟩) (.inr (Nat.le_refl _)) _⟩
          case measure => simp [intOf]; omega
      · have hkmI : (m : Int) ≤ (k : Int) := by omega
        rw [hy0 (by omega)] at hst hfl
        clear hca hy0 hyl
        generalize X / W32 ^ k % W32 = x at c1 hst hfl hxl
        have hxI : (x : Int) < 4294967296 := by omega
        subst hAe
        by_cases hneg : x < b
        · obtain rfl : b' = 1 := by rw [hst.out, if_pos (by omega)]
          obtain rfl : x = 0 := by omega
          obtain rfl : b = 1 := by omega
          have hw0 : IntKind.u64.wrap (-1) = 18446744073709551615 := by decide +kernel
          have hB' := hBk.set k (.int .u32 ((4294967295 : Nat) : Int))
          rw [cN_set, hfl.out 4294967295 rfl] at hB'
          have HB' := Lib.hid hB'
          have c3 := hBk.cellv (i := k) (cN_get (by simp; omega))
          have fz := hBk.frozen k
          clear hB' hBk
          go_wp2
          go_roundw
          case rel => exact ⟨k + 1, by omega, by go_num, ⟨1, rfl, hb'⟩, HB'.out, hO.setCell (p := ⟨w.heap.size, k, none⟩) (.inr (Nat.le_refl _)) _⟩
          case measure => simp [intOf]; omega
        · obtain rfl : b' = 0 := by rw [hst.out, if_neg (by omega)]
          have hnegI : 0 ≤ (x : Int) - (b : Int) := by omega
          obtain ⟨dd, Hd⟩ : ∃ d : Nat, Hid (d = x - b) := ⟨_, rfl⟩
          have hd0 : (x : Int) - (b : Int) = (dd : Int) := by have := Hd.out; omega
          have hd1 : (dd : Int) < 4294967296 := by omega
          have hw2 : (dd : Int) / 9223372036854775808 = 0 := by omega
          have hB' := hBk.set k (.int .u32 (dd : Int))
          rw [cN_set, hfl.out dd (by rw [Hd.out]; simp)] at hB'
          have HB' := Lib.hid hB'
          have c3 := hBk.cellv (i := k) (cN_get (by simp; omega))
          have fz := hBk.frozen k
          clear hB' hBk
          go_wp2
          go_roundw
          case rel => exact ⟨k + 1, by omega, by go_num, ⟨0, rfl, hb'⟩, HB'.out, hO.setCell (p := ⟨w.heap.size, k, none⟩) (.inr (Nat.le_refl _)) _⟩
          case measure => simp [intOf]; omega
    · obtain rfl : k = n := by omega
      have hlx : Nm.len W32 X ≤ k := by rw [hA.n_eq]; exact Nat.le_refl _
      rw [Nm.df_all (by decide) hlx hXY] at hBk
      have Hlt := Lib.hid (Nat.lt_of_le_of_lt (Nat.sub_le X Y) hA.lt)
      have hkm : (k : Int) ≤ 1000000 := by omega
      clear hlx
      go_wp2_with (go_at_call 83; refine (trim_any _ _ k k (X - Y) (Nat.le_refl _) (by omega) Hlt.out hBk.rv).mono ?_; rintro e w' ⟨m', rfl, rfl, hN⟩)
      go_ret
      exact ⟨_, _, _, rfl, hN, hO⟩
end Go.Proofs.Ytddfphneidcibaa
namespace Go.Proofs.Ytddfphneidcibaa
open Go.RowKit
open Nm (W32)
theorem mul32_le {x y : Nat} (hx : x < 4294967296) (hy : y < 4294967296) : x * y ≤ 18446744065119617025 := by
  have : x * y ≤ 4294967295 * 4294967295 := Nat.mul_le_mul (by omega) (by omega)
  omega

set_option maxHeartbeats 4000000 in
set_option maxRecDepth 100000 in
theorem mulNat_any (w : World) (A B : Option Addr) (n c m d X Y : Nat) (hn : n ≤ 400000) (hm : m ≤ 400000) (hA : NatS w A n c X) (hB : NatS w B m d Y) :
    Calls Try.prog 87 #[.slice A n c, .slice B m d] w fun e w' => ∃ A' n' c', e = .returned (.slice A' n' c') ∧ NatS w' A' n' c' (X * Y) ∧ Only [] w w' := by
  have Hm := Lib.hid hB.n_eq
  have Hn := Lib.hid hA.n_eq
  obtain ⟨nm, hnm⟩ : ∃ nm, nm = n + m := ⟨_, rfl⟩
  have hnmI : (n : Int) + (m : Int) = (nm : Int) := by omega
  have Hnm := Lib.hid hnm
  have hnm1 : nm ≤ 800000 := by omega
  clear hnm
  go_enter Try.func87, Try.ntmps87
  go_wp2_with (refine wpl_make rfl 81 _ _ rfl 83 (.int .u32 0) 4 Try.underlying81 info32 rfl .i64 .i64 _ _ nm nm (by omega) (by omega) rfl rfl (Nat.le_refl _) (by omega) (by decide) ?_; intro w1 _ hB1 hO1)
  rw [zeros32] at hB1
  go_loopw [19] (fun i wr => ∃ k : Nat, k ≤ n ∧ i = .int .i64 (k : Int) ∧ Blk wr w.heap.size 83 (cN .u32 (Nm.pad W32 nm (X % W32 ^ k * Y))) ∧ Only [] w wr) (fun i _ => n - (intOf i).toNat)
  case atStart => exact ⟨0, Nat.zero_le _, rfl, by rw [Nat.pow_zero, Nat.mod_one, Nat.zero_mul]; exact hB1, hO1⟩
  case round =>
    clear hB1 hO1
    obtain ⟨k, hk, rfl, hBk, hO⟩ := hrel
    by_cases hlt : k < n
    · have hltI : (k : Int) < (n : Int) := by omega
      have hkm : (k : Int) ≤ 400000 := by omega
      obtain ⟨ga, oa, hAe, hga, hca⟩ := (hA.keep hO).at (by omega)
      have c1 := hca k hlt
      clear hca
      have hxl : X / W32 ^ k % W32 < 4294967296 := Nat.mod_lt _ (by decide)
      obtain ⟨x, Hx⟩ : ∃ x, Hid (x = X / W32 ^ k % W32) := ⟨_, rfl⟩
      rw [← Hx.out] at c1 hxl
      obtain ⟨P, HP⟩ : ∃ P, Hid (P = X % W32 ^ k * Y) := ⟨_, rfl⟩
      rw [← HP.out] at hBk
      have hxI : (x : Int) < 4294967296 := by omega
      subst hAe
      go_wp2
      go_loopw [8, 26] (fun carry j wr => ∃ q : Nat, q ≤ m ∧ j = .int .i64 (q : Int) ∧ (∃ cr : Nat, carry = .int .u64 (cr : Int) ∧ Hid (cr = Nm.mT W32 P x Y k q / W32 ^ (k + q))) ∧ Blk wr w.heap.size 83 (cN .u32 (Nm.pad W32 nm (Nm.mA W32 P x Y k q))) ∧ Only [] w wr) (fun _ j _ => m - (intOf j).toNat)
      case atStart => exact ⟨0, Nat.zero_le _, rfl, ⟨0, rfl, by unfold Hid; rw [Nm.mT_zero, Nat.add_zero, Nat.div_eq_of_lt (Nat.mod_lt _ (Nat.pow_pos (by decide)))]⟩, by rw [Nm.mA_zero]; exact hBk, hO⟩
      case round =>
        clear hBk hO
        obtain ⟨q, hq, rfl, ⟨cr, rfl, hcr⟩, hBq, hO⟩ := hrel
        have hcr1 := Nm.mT_carry (B := W32) (by decide) P Y k q hxl
        rw [← hcr.out] at hcr1
        have hcr1 : cr < 4294967296 := hcr1
        have hcrI : (cr : Int) < 4294967296 := by omega
        by_cases hqm : q < m
        · have hqI : (q : Int) < (m : Int) := by omega
          have hqm1 : (q : Int) ≤ 400000 := by omega
          have hkq : k + q < nm := by rw [Hnm.out]; omega
          have hkqI : (k : Int) + (q : Int) < (nm : Int) := by omega
          obtain ⟨gb, ob, hBe, hgb, hcb⟩ := (hB.keep hO).at (by omega)
          have c2 := hcb q hqm
          clear hcb
          have c3 := hBq.cellv (i := k + q) (cN_get (by simpa using hkq))
          rw [Nm.pad_getD _ _ _ _ hkq, Nm.mA_at (by decide)] at c3
          have hst := Lib.hid (Nm.mT_step (B := W32) (by decide) P x Y k q).1
          have hfl := Lib.hid (Nm.mA_fill (B := W32) (n := nm) (by decide) P x Y k q hkq)
          rw [← hcr.out] at hst hfl
          have hyl : Y / W32 ^ q % W32 < 4294967296 := Nat.mod_lt _ (by decide)
          have hol : P / W32 ^ (k + q) % W32 < 4294967296 := Nat.mod_lt _ (by decide)
          generalize Y / W32 ^ q % W32 = y at c2 hst hfl hyl
          generalize P / W32 ^ (k + q) % W32 = o at c3 hst hfl hol
          have hp1 := mul32_le hxl hyl
          obtain ⟨p, Hp⟩ : ∃ p, Hid (p = x * y) := ⟨_, rfl⟩
          rw [← Hp.out] at hp1 hst hfl
          have hpI : (x : Int) * (y : Int) = (p : Int) := by rw [Hp.out, Int.natCast_mul]
          have hp1I : (p : Int) ≤ 18446744065119617025 := by omega
          have hoI : (o : Int) < 4294967296 := by omega
          subst hBe
          obtain ⟨dd, Hd⟩ : ∃ d : Nat, Hid (d = (cr + (o + p)) % 4294967296) := ⟨_, rfl⟩
          obtain ⟨e, He⟩ : ∃ e : Nat, Hid (e = (cr + (o + p)) / 4294967296) := ⟨_, rfl⟩
          have hd : ((cr : Int) + ((p : Int) + (o : Int))) % 4294967296 = (dd : Int) := by have := Hd.out; omega
          have he : ((cr : Int) + ((p : Int) + (o : Int))) / 4294967296 = (e : Int) := by have := He.out; omega
          have hB' := hBq.set (k + q) (.int .u32 (dd : Int))
          rw [cN_set, hfl.out dd Hd.out] at hB'
          have HB' := Lib.hid hB'
          have fz := hBq.frozen (k + q)
          clear hB' hBq
          go_wp2
          go_roundw
          case rel => exact ⟨q + 1, by omega, by go_num, ⟨e, rfl, by unfold Hid; rw [← Nat.add_assoc, hst.out]; exact He.out⟩, HB'.out, hO.setCell (p := ⟨w.heap.size, k + q, none⟩) (.inr (Nat.le_refl _)) _⟩
          case measure => simp [intOf]; omega
        · obtain rfl : q = m := by omega
          have hkq : k + q < nm := by rw [Hnm.out]; omega
          have hkqI : (k : Int) + (q : Int) < (nm : Int) := by omega
          have hB' := hBq.set (k + q) (.int .u32 (cr : Int))
          rw [cN_set, hcr.out, HP.out, Hx.out, Nm.mA_last (by decide) X Y k q (by rw [Hm.out]; exact Nat.le_refl _) hkq, ← Hx.out, ← HP.out, ← hcr.out] at hB'
          have HB' := Lib.hid hB'
          have c3 := hBq.cellv (i := k + q) (cN_get (by simpa using hkq))
          have fz := hBq.frozen (k + q)
          have hqm1 : (q : Int) ≤ 400000 := by omega
          clear hB' hBq
          go_wp2
          go_roundw
          case rel => exact ⟨k + 1, by omega, by go_num, HB'.out, hO.setCell (p := ⟨w.heap.size, k + q, none⟩) (.inr (Nat.le_refl _)) _⟩
          case measure => simp [intOf]; omega
    · obtain rfl : k = n := by omega
      have hX := hA.lt
      rw [Nat.mod_eq_of_lt hX] at hBk
      have Hlt := Lib.hid (Nm.mul_lt (B := W32) (X := X) (Y := Y) (by decide))
      rw [← Hn.out, ← Hm.out, ← Hnm.out] at Hlt
      clear hX
      go_wp2_with (go_at_call 83; refine (trim_any _ _ nm nm (X * Y) (Nat.le_refl _) (by omega) Hlt.out hBk.rv).mono ?_; rintro e w' ⟨m', rfl, rfl, hN⟩)
      go_ret
      exact ⟨_, _, _, rfl, hN, hO⟩
end Go.Proofs.Ytddfphneidcibaa
namespace Go.Proofs.Ytddfphneidcibaa
open Go.RowKit
open Nm (W32)
theorem or64 (r x : Nat) (hr : r < 4294967296) (hx : x < 4294967296) : bits .or .u64 ((r : Int) * 4294967296) (x : Int) = ((r * 4294967296 + x : Nat) : Int) := by
  have h := u64_or_nat (r * 4294967296) x (by omega) (by omega)
  have e : r * 4294967296 ||| x = r * 4294967296 + x := by
    have := Nat.two_pow_add_eq_or_of_lt (i := 32) (b := x) (by omega) r
    rw [Nat.mul_comm r]
    exact this.symm
  rw [e] at h
  rw [← h]
  simp

set_option maxHeartbeats 4000000 in
set_option maxRecDepth 100000 in
theorem divSmall_any (w : World) (A : Option Addr) (n c X d : Nat) (hn : n ≤ 999999) (hd : 0 < d) (hd2 : d < 4294967296) (hA : NatS w A n c X) :
    Calls Try.prog 112 #[.slice A n c, .int .u32 (d : Int)] w fun e w' => ∃ A' n' c' r, e = .returned (.tuple #[.slice A' n' c', .int .u32 (r : Nat)]) ∧ NatS w' A' n' c' (X / d) ∧ Hid (r = X % d) ∧ Only [] w w' ∧ (∀ p, A' = some p → p.block = w.heap.size) := by
  have hdI : 0 < (d : Int) := by omega
  have hd2I : (d : Int) < 4294967296 := by omega
  have hd0 : ((d : Int) == 0) = false := beq_eq_false_iff_ne.2 (by omega)
  go_enter Try.func112, Try.ntmps112
  go_wp2_with (refine wpl_make rfl 81 _ _ rfl 83 (.int .u32 0) 4 Try.underlying81 info32 rfl .i64 .i64 _ _ n n (by omega) (by omega) rfl rfl (Nat.le_refl _) (by omega) (by decide) ?_; intro w1 _ hB1 hO1)
  rw [zeros32] at hB1
  have Htop := Lib.hid (Nm.ds_top (B := W32) (X := X) (n := n) (by decide) (by rw [hA.n_eq]; exact Nat.le_refl _))
  go_loopw [7, 8] (fun rv i wr => ∃ k : Nat, k ≤ n ∧ (∃ z : Int, z = (k : Int) - 1 ∧ i = .int .i64 z) ∧ (∃ r : Nat, rv = .int .u64 (r : Int) ∧ Hid (r = X / W32 ^ k % d)) ∧ Blk wr w.heap.size 83 (cN .u32 (Nm.pad W32 n (X / W32 ^ k / d * W32 ^ k))) ∧ Only [] w wr) (fun _ i _ => (intOf i + 1).toNat)
  case atStart => exact ⟨n, Nat.le_refl _, ⟨_, rfl, by go_num⟩, ⟨0, rfl, by unfold Hid; rw [Htop.out, Nat.zero_mod]⟩, by rw [Htop.out, Nat.zero_div, Nat.zero_mul]; exact hB1, hO1⟩
  case round =>
    clear hB1 hO1
    obtain ⟨k, hk, ⟨z, hz, rfl⟩, ⟨r, rfl, hr⟩, hBk, hO⟩ := hrel
    have hrd : r < d := by rw [hr.out]; exact Nat.mod_lt _ hd
    have hrI : (r : Int) < 4294967296 := by omega
    rcases (show k = 0 ∨ ∃ j, k = j + 1 from by cases k; exact .inl rfl; exact .inr ⟨_, rfl⟩) with rfl | ⟨j, rfl⟩
    · obtain rfl : z = -1 := by omega
      clear hz
      rw [Nat.pow_zero, Nat.div_one, Nat.mul_one] at hBk
      have Hlt := Lib.hid (Nat.lt_of_le_of_lt (Nat.div_le_self X d) hA.lt)
      have hr' : Hid (r = X % d) := by unfold Hid; rw [hr.out, Nat.pow_zero, Nat.div_one]
      go_wp2_with (go_at_call 83; refine (trim_any _ _ n n (X / d) (Nat.le_refl _) (by omega) Hlt.out hBk.rv).mono ?_; rintro e w' ⟨m', rfl, rfl, hN⟩)
      go_ret2
      exact ⟨_, _, _, r, rfl, hN, hr', hO, fun p hp => by injection hp with hp; subst hp; rfl⟩
    · obtain rfl : z = (j : Int) := by omega
      clear hz
      have hjn : (j : Int) < (n : Int) := by omega
      have hjm : (j : Int) ≤ 1000000 := by omega
      obtain ⟨ga, oa, hAe, hga, hca⟩ := (hA.keep hO).at (by omega)
      have c1 := hca j (by omega)
      clear hca
      have hst := Lib.hid (Nm.ds_step (B := W32) hd X j)
      have hfl := Lib.hid (Nm.ds_fill (B := W32) (n := n) (by decide) hd X j (by omega))
      have hql := Nm.ds_lt (B := W32) (by decide) hd X j
      rw [← hr.out] at hst hfl hql
      have hxl : X / W32 ^ j % W32 < 4294967296 := Nat.mod_lt _ (by decide)
      generalize X / W32 ^ j % W32 = x at c1 hst hfl hql hxl
      have hor := or64 r x (by omega) hxl
      obtain ⟨v, Hv⟩ : ∃ v, Hid (v = r * 4294967296 + x) := ⟨_, rfl⟩
      have hv0 : v = r * W32 + x := Hv.out
      rw [← Hv.out] at hor
      rw [← hv0] at hst hfl hql
      clear hv0
      have hv1 : (v : Int) < 18446744073709551616 := by have := Hv.out; omega
      have hxI : (x : Int) < 4294967296 := by omega
      obtain ⟨q, Hq⟩ : ∃ q, Hid (q = v / d) := ⟨_, rfl⟩
      obtain ⟨s, Hs⟩ : ∃ s, Hid (s = v % d) := ⟨_, rfl⟩
      have hqI : (v : Int) / (d : Int) = (q : Int) := by rw [Hq.out]; simp
      have hsI : (v : Int) % (d : Int) = (s : Int) := by rw [Hs.out]; simp
      rw [← Hq.out] at hql
      have hq1 : (q : Int) < 4294967296 := by have : q < 4294967296 := hql; omega
      have hB' := hBk.set j (.int .u32 (q : Int))
      rw [cN_set, hfl.out q Hq.out] at hB'
      have HB' := Lib.hid hB'
      have c3 := hBk.cellv (i := j) (cN_get (by simp; omega))
      have fz := hBk.frozen j
      subst hAe
      clear hB' hBk hql
      go_wp2
      go_roundw
      case rel => exact ⟨j, by omega, ⟨_, rfl, by go_num⟩, ⟨s, by rw [hsI], by unfold Hid; rw [hst.out.2]; exact Hs.out⟩, HB'.out, hO.setCell (p := ⟨w.heap.size, j, none⟩) (.inr (Nat.le_refl _)) _⟩
      case measure => simp [intOf]
end Go.Proofs.Ytddfphneidcibaa
