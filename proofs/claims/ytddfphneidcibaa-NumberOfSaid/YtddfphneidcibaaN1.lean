/-
  THE WALKS of number's trim, compareNat, addNat: natural numbers as slices of words.
-/
import Derived.Test.YtddfphneidcibaaProg
import Derived.Test.YtddfphneidcibaaBase
import Derived.Test.YtddfphneidcibaaNumS
import Derived.WalkSpells
import Derived.WalkLawsBesides
import Derived.StillTailTactics
namespace Go.Proofs.Ytddfphneidcibaa
open Go.RowKit
open Nm (W32)

def lenV : Value → Nat | .slice _ n _ => n | _ => 0
theorem info32 : (Try.prog.info? 83).map (fun i => (i.zero, i.size, i.bytes)) = some (some (.int .u32 0), 1, 4) := by kernel_rfl
theorem info8 : (Try.prog.info? 5).map (fun i => (i.zero, i.size, i.bytes)) = some (some (.int .u8 0), 1, 1) := by kernel_rfl

/-- A slice of words that holds a number, without zeros at its end. -/
structure NatS (w : World) (A : Option Addr) (n c X : Nat) : Prop where
  n_eq : n = Nm.len W32 X
  le : n ≤ c
  rd : RV w A (cN .u32 (Nm.dg W32 X))
theorem NatS.keep {w w' : World} {A : Option Addr} {n c X : Nat} (h : NatS w A n c X) (ho : Only [] w w') : NatS w' A n c X := ⟨h.n_eq, h.le, h.rd.keep0 ho⟩
theorem NatS.drew {w : World} {A : Option Addr} {n c X : Nat} (h : NatS w A n c X) : NatS w.drew A n c X := ⟨h.n_eq, h.le, h.rd⟩
theorem NatS.zero (w : World) (A : Option Addr) (c : Nat) : NatS w A 0 c 0 := ⟨by rw [Nm.len_zero], Nat.zero_le _, by rw [Nm.dg_zero]; exact RV.nil⟩
/-- Its words. -/
theorem NatS.at {w : World} {A : Option Addr} {n c X : Nat} (h : NatS w A n c X) (h0 : 0 < n) : ∃ g o, A = some ⟨g, o, none⟩ ∧ g < w.heap.size ∧ ∀ j, j < n → w.cell? ⟨g, o + j, none⟩ = some (.int .u32 ((X / W32 ^ j % W32 : Nat) : Int)) := by
  have hl : (cN .u32 (Nm.dg W32 X)).length = n := by rw [cN_length, Nm.dg_length, h.n_eq]
  obtain ⟨g, o, e, hg, hc⟩ := h.rd (by omega)
  refine ⟨g, o, e, hg, fun j hj => ?_⟩
  rw [hc j (by omega), cN_get (by rw [cN_length] at hl; omega), Nm.dg_getD (by decide)]
/-- An array of words. -/
theorem NatS.of_pad {w : World} {A : Option Addr} {n c X : Nat} (hc : n ≤ c) (hX : X < W32 ^ n) (hr : RV w A (cN .u32 (Nm.pad W32 n X))) : NatS w A (Nm.len W32 X) c X := by
  have hle := (Nm.len_le (B := W32) (by decide) n X).2 hX
  refine ⟨rfl, Nat.le_trans hle hc, ?_⟩
  rw [Nm.dg_pad (by decide), ← Nm.take_pad W32 _ _ _ hle, cN, List.map_take]
  exact hr.take _
theorem padAt {w : World} {A : Option Addr} {k : IntKind} {B n X : Nat} (hr : RV w A (cN k (Nm.pad B n X))) (h0 : 0 < n) : ∃ g o, A = some ⟨g, o, none⟩ ∧ g < w.heap.size ∧ ∀ j, j < n → w.cell? ⟨g, o + j, none⟩ = some (.int k ((X / B ^ j % B : Nat) : Int)) := by
  obtain ⟨g, o, e, hg, hc⟩ := hr (by simpa using h0)
  refine ⟨g, o, e, hg, fun j hj => ?_⟩
  rw [hc j (by simpa using hj), cN_get (by simpa using hj), Nm.pad_getD _ _ _ _ hj]

set_option maxHeartbeats 4000000 in
set_option maxRecDepth 100000 in
theorem trim_any (w : World) (A : Option Addr) (n c X : Nat) (hc : n ≤ c) (hm : n ≤ 1000000) (hX : X < W32 ^ n) (hr : RV w A (cN .u32 (Nm.pad W32 n X))) :
    Calls Try.prog 83 #[.slice A n c] w fun e w' => ∃ m, e = .returned (.slice A m c) ∧ w = w' ∧ NatS w A m c X := by
  have Hr := Lib.hid hr
  have HX := Lib.hid hX
  have hns := NatS.of_pad hc hX hr
  clear hr hX
  go_enter Try.func83, Try.ntmps83
  go_wp2
  go_loopw [0] (fun x wr => ∃ k : Nat, k ≤ n ∧ x = .slice A k c ∧ Hid (X < W32 ^ k) ∧ w = wr) (fun x _ => lenV x)
  case atStart => exact ⟨n, Nat.le_refl _, rfl, HX.out, rfl⟩
  case round =>
    obtain ⟨k, hk, rfl, hXk, rfl⟩ := hrel
    rcases (show k = 0 ∨ ∃ j, k = j + 1 from by cases k; exact .inl rfl; exact .inr ⟨_, rfl⟩) with rfl | ⟨j, rfl⟩
    · go_wp2
      go_ret
      have : X = 0 := by simpa using hXk.out
      subst this
      exact ⟨0, rfl, rfl, NatS.zero _ _ _⟩
    · obtain ⟨g, o, rfl, hg, hcl⟩ := padAt Hr.out (by omega)
      have c1 := hcl j (by omega)
      clear hcl
      obtain ⟨x, Hx⟩ : ∃ x : Nat, Hid (x = X / W32 ^ j % W32) := ⟨_, rfl⟩
      rw [← Hx.out] at c1
      have hcj : (j : Int) ≤ (c : Int) := by omega
      have hjm : (j : Int) ≤ 1000000 := by omega
      by_cases h0 : x = 0
      · subst h0
        go_wp2
        go_roundw
        case rel => exact ⟨j, by omega, rfl, Nm.top_zero (by decide) hXk.out Hx.out.symm, trivial⟩
        case measure => simp [lenV]
      · have e1 : ((x : Int) == 0) = false := beq_eq_false_iff_ne.2 (by omega)
        have hl := Nm.top_len (by decide) hXk.out (by rw [← Hx.out]; exact h0)
        rw [hl] at hns
        go_wp2
        go_ret
        exact ⟨j + 1, rfl, rfl, hns⟩
theorem NatS.lt {w : World} {A : Option Addr} {n c X : Nat} (h : NatS w A n c X) : X < W32 ^ n := by rw [h.n_eq]; exact Nm.lt_pow_len (by decide) X

/-- What compareNat and Order answer. -/
def Cmp (X Y : Nat) (r : Int) : Prop := (X < Y ∧ r = -1) ∨ (X = Y ∧ r = 0) ∨ (Y < X ∧ r = 1)

set_option maxHeartbeats 4000000 in
set_option maxRecDepth 100000 in
theorem compareNat_any (w : World) (A B : Option Addr) (n c m d X Y : Nat) (hn : n ≤ 1000000) (hm : m ≤ 1000000) (hA : NatS w A n c X) (hB : NatS w B m d Y) :
    Calls Try.prog 103 #[.slice A n c, .slice B m d] w fun e w' => ∃ r : Int, e = .returned (.int .i64 r) ∧ Hid (Cmp X Y r) ∧ Only [] w w' := by
  by_cases hnm : n = m
  · subst hnm
    have hX := hA.lt
    have hY := hB.lt
    have HX := Lib.hid hX
    have HY := Lib.hid hY
    clear hX hY
    go_enter Try.func103, Try.ntmps103
    go_wp2
    go_loopw [4, 5] (fun _ i wr => ∃ k : Nat, k ≤ n ∧ ∃ z : Int, z = (k : Int) - 1 ∧ i = .int .i64 z ∧ Hid (X / W32 ^ k = Y / W32 ^ k) ∧ Only [] w wr) (fun _ i _ => (intOf i + 1).toNat)
    case atStart => exact ⟨n, Nat.le_refl _, _, rfl, by go_num, by unfold Hid; rw [Nat.div_eq_of_lt HX.out, Nat.div_eq_of_lt HY.out], Only.refl _ _⟩
    case round =>
      obtain ⟨k, hk, z, hz, rfl, he, hO⟩ := hrel
      rcases (show k = 0 ∨ ∃ j, k = j + 1 from by cases k; exact .inl rfl; exact .inr ⟨_, rfl⟩) with rfl | ⟨j, rfl⟩
      · obtain rfl : z = -1 := by omega
        clear hz
        go_wp2
        go_ret
        exact ⟨0, rfl, .inr (.inl ⟨by simpa using he.out, rfl⟩), hO⟩
      · obtain rfl : z = (j : Int) := by omega
        clear hz
        obtain ⟨ga, oa, rfl, hga, hca⟩ := (hA.keep hO).at (by omega)
        obtain ⟨gb, ob, rfl, hgb, hcb⟩ := (hB.keep hO).at (by omega)
        have c1 := hca j (by omega)
        have c2 := hcb j (by omega)
        clear hca hcb
        have ht := Lib.hid (Nm.cmp_top he.out)
        have ht' := Lib.hid (Nm.cmp_top he.out.symm)
        revert c1 c2 ht ht'
        generalize X / W32 ^ j % W32 = x
        generalize Y / W32 ^ j % W32 = y
        intro c1 c2 ht ht'
        have hjn : (j : Int) < (n : Int) := by omega
        have hjm : (j : Int) ≤ 1000000 := by omega
        by_cases h1 : x < y
        · have h1I : (x : Int) < (y : Int) := by omega
          go_wp2
          refine Reg.wp [] [.r 0, .r 1, .r 2, .r 3, .r 4, .r 5, .r 6, .r 7, .r 8] (by kernel_rfl) (by kernel_rfl) (fun d _ _ _ _ h => by cases d <;> exact h) ?_
          simp only [Reg.pick, List.getD_cons_succ, List.getD_cons_zero]
          iterate 9 (apply Reg.read; (· (intro t K hK; go_simp; (try go_ints); (try ((go_ite <;> go_prune); go_simp)); (try go_ints); exact hK _ rfl)); (· (intro K hK; go_simp; exact hK _ rfl)))
          refine Reg.fin ?_
          go_wp2
          go_ret
          exact ⟨-1, rfl, .inl ⟨ht.out.2 h1, rfl⟩, hO.drew⟩
        · have h1I : (y : Int) ≤ (x : Int) := by omega
          by_cases h2 : y < x
          · have h2I : (y : Int) < (x : Int) := by omega
            go_wp2
            refine Reg.wp [] [.r 0, .r 1, .r 2, .r 3, .r 4, .r 5, .r 6, .r 7, .r 8] (by kernel_rfl) (by kernel_rfl) (fun d _ _ _ _ h => by cases d <;> exact h) ?_
            simp only [Reg.pick, List.getD_cons_succ, List.getD_cons_zero]
            iterate 9 (apply Reg.read; (· (intro t K hK; go_simp; (try go_ints); (try ((go_ite <;> go_prune); go_simp)); (try go_ints); exact hK _ rfl)); (· (intro K hK; go_simp; exact hK _ rfl)))
            refine Reg.fin ?_
            go_wp2
            refine Reg.wp [] [.r 0, .r 1, .r 2, .r 3, .r 4, .r 5, .r 6, .r 7, .r 8] (by kernel_rfl) (by kernel_rfl) (fun d _ _ _ _ h => by cases d <;> exact h) ?_
            simp only [Reg.pick, List.getD_cons_succ, List.getD_cons_zero]
            iterate 9 (apply Reg.read; (· (intro t K hK; go_simp; (try go_ints); (try ((go_ite <;> go_prune); go_simp)); (try go_ints); exact hK _ rfl)); (· (intro K hK; go_simp; exact hK _ rfl)))
            refine Reg.fin ?_
            go_wp2
            go_ret
            exact ⟨1, rfl, .inr (.inr ⟨ht'.out.2 h2, rfl⟩), hO.drew.drew⟩
          · obtain rfl : x = y := by omega
            have Ht := Lib.hid (ht.out.1 rfl)
            clear ht ht' h1I h1 h2
            go_wp2
            refine Reg.wp [] [.r 0, .r 1, .r 2, .r 3, .r 4, .r 5, .r 6, .r 7, .r 8] (by kernel_rfl) (by kernel_rfl) (fun d _ _ _ _ h => by cases d <;> exact h) ?_
            simp only [Reg.pick, List.getD_cons_succ, List.getD_cons_zero]
            iterate 9 (apply Reg.read; (· (intro t K hK; go_simp; (try go_ints); (try ((go_ite <;> go_prune); go_simp)); (try go_ints); exact hK _ rfl)); (· (intro K hK; go_simp; exact hK _ rfl)))
            refine Reg.fin ?_
            go_wp2
            refine Reg.wp [] [.r 0, .r 1, .r 2, .r 3, .r 4, .r 5, .r 6, .r 7, .r 8] (by kernel_rfl) (by kernel_rfl) (fun d _ _ _ _ h => by cases d <;> exact h) ?_
            simp only [Reg.pick, List.getD_cons_succ, List.getD_cons_zero]
            iterate 9 (apply Reg.read; (· (intro t K hK; go_simp; (try go_ints); (try ((go_ite <;> go_prune); go_simp)); (try go_ints); exact hK _ rfl)); (· (intro K hK; go_simp; exact hK _ rfl)))
            refine Reg.fin ?_
            go_wp2
            go_roundw
            case rel => exact ⟨j, by omega, _, rfl, by go_num, Ht, hO.drew.drew⟩
            case measure => simp [intOf]
  · have e1 : ((n : Int) == (m : Int)) = false := beq_eq_false_iff_ne.2 (by omega)
    have e2 : ((n : Int) != (m : Int)) = true := by rw [bne_iff_ne]; omega
    have hla := hA.n_eq
    have hlb := hB.n_eq
    by_cases hlt : n < m
    · have hltI : (n : Int) < (m : Int) := by omega
      have hxy : X < Y := Nm.cmp_len (B := W32) (by decide) (by omega)
      clear hla hlb hA hB
      go_enter Try.func103, Try.ntmps103
      go_wp2
      go_ret
      exact ⟨-1, rfl, .inl ⟨hxy, rfl⟩, Only.refl _ _⟩
    · have hltI : (m : Int) ≤ (n : Int) := by omega
      have hxy : Y < X := Nm.cmp_len (B := W32) (by decide) (by omega)
      clear hla hlb hA hB
      go_enter Try.func103, Try.ntmps103
      go_wp2
      go_ret
      exact ⟨1, rfl, .inr (.inr ⟨hxy, rfl⟩), Only.refl _ _⟩
end Go.Proofs.Ytddfphneidcibaa
