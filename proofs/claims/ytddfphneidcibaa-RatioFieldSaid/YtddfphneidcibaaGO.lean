/-
  THE WALKS of the reference's Split, Divide, Common.
-/
import Derived.Test.YtddfphneidcibaaGM
import Derived.Test.YtddfphneidcibaaGN
namespace Go.Proofs.Ytddfphneidcibaa
open Go.RowKit
open Nm (W32)
namespace Sx
theorem bit_and : ∀ b : Fin 256, bits .and .u8 ((b.val : Nat) : Int) 1 = ((b.val % 2 : Nat) : Int) := by decide +kernel
theorem and1 {b : Nat} {p q : Int} (hp : p = (b : Int)) (hq : q = 1) (h : b < 256) : bits .and .u8 p q = ((b % 2 : Nat) : Int) := by
  subst hp hq
  exact bit_and ⟨b, h⟩
theorem bit_or : ∀ (b : Fin 256) (s : Fin 8), bits .or .u8 ((b.val : Nat) : Int) ((2 ^ s.val : Nat) : Int) = ((b.val ||| 2 ^ s.val : Nat) : Int) := by decide +kernel
theorem or8 {b s : Nat} {p q : Int} (hp : p = (b : Int)) (hq : q = ((2 ^ s : Nat) : Int)) (h : b < 256) (hs : s < 8) : bits .or .u8 p q = ((b ||| 2 ^ s : Nat) : Int) := by
  subst hp hq
  exact bit_or ⟨b, h⟩ ⟨s, hs⟩
theorem shl8 {s : Nat} (hs : s < 8) : IntKind.u8.wrap (1 * 2 ^ (min s IntKind.u8.bits)) = ((2 ^ s : Nat) : Int) := by
  have : ∀ s : Fin 8, IntKind.u8.wrap (1 * 2 ^ (min s.val IntKind.u8.bits)) = ((2 ^ s.val : Nat) : Int) := by decide +kernel
  exact this ⟨s, hs⟩
theorem shr8 {b s : Nat} (hs : s < 8) : (b : Int) / 2 ^ (min s IntKind.u8.bits) = ((b / 2 ^ s : Nat) : Int) := by
  have : min s IntKind.u8.bits = s := Nat.min_eq_left (by show s ≤ 8; omega)
  rw [this]
  simp
/-- One bit more of a quotient. -/
theorem sp_rest {A B j : Nat} (hB : 0 < B) : (2 * (A / 2 ^ (j + 1) % B) + A / 2 ^ j % 2) % B = A / 2 ^ j % B ∧ A / 2 ^ j / B = 2 * (A / 2 ^ (j + 1) / B) + (if B ≤ 2 * (A / 2 ^ (j + 1) % B) + A / 2 ^ j % 2 then 1 else 0) := by
  have e1 : A / 2 ^ j = 2 * (A / 2 ^ (j + 1)) + A / 2 ^ j % 2 := by
    rw [Nat.pow_succ, ← Nat.div_div_eq_div_mul]
    omega
  have hb : A / 2 ^ j % 2 < 2 := Nat.mod_lt _ (by decide)
  have hr : A / 2 ^ (j + 1) % B < B := Nat.mod_lt _ hB
  have e2 := Nat.div_add_mod (A / 2 ^ (j + 1)) B
  generalize A / 2 ^ (j + 1) / B = Q at *
  generalize A / 2 ^ (j + 1) % B = r at *
  generalize A / 2 ^ j % 2 = b at *
  have e3 : A / 2 ^ j = (2 * r + b) + B * (2 * Q) := by
    have : B * (2 * Q) = 2 * (B * Q) := Nat.mul_left_comm _ _ _
    omega
  rw [e3]
  refine ⟨by rw [Nat.add_mul_mod_self_left], ?_⟩
  rw [Nat.add_mul_div_left _ _ hB, Nat.add_comm]
  congr 1
  by_cases h : B ≤ 2 * r + b
  · rw [if_pos h]
    have : 2 * r + b = (2 * r + b - B) + B * 1 := by omega
    rw [this, Nat.add_mul_div_left _ _ hB, Nat.div_eq_of_lt (by omega)]
  · rw [if_neg h]
    exact Nat.div_eq_of_lt (by omega)
theorem sp_in {r B b : Nat} (h : B ≤ 2 * r + b) (hr : r < B) (hb : b < 2) : (2 * r + b) % B = 2 * r + b - B := by
  rw [Nat.mod_eq_sub_mod h, Nat.mod_eq_of_lt (by omega)]
theorem lit1_is : Le (slD [.int .u8 1]) (litD 1) := le_lit1 (d := 1) (by decide) (by decide)
theorem b2_dbl {X B : Nat} (hB : B < b2) (h : X < 2 * B) : X < b4 := by
  have := b4_add hB hB
  omega
theorem cmpN_lts (X Y : Nat) (h : decide (0 ≤ cmpN X Y) = false) : X < Y := by
  unfold cmpN at h
  simp at h
  split at h
  · assumption
  · split at h <;> omega
theorem own8_at {n A o j : Nat} (ho : o = j) (hj : j < n) : ((cN .u8 (Nm.pad 256 n A)).map isD)[o]? = some (isD (.int .u8 ((A / 256 ^ j % 256 : Nat) : Int))) := by
  subst ho
  rw [List.getElem?_map, cN_get (by simpa using hj), Nm.pad_getD _ _ _ _ hj]
  rfl
theorem sp_put {n X Y j : Nat} (hj : j / 8 < n) (hY : 0 < Y) (h : Y ≤ 2 * (X / 2 ^ (j + 1) % Y) + X / 2 ^ j % 2) :
    (Nm.pad 256 n (X / 2 ^ (j + 1) / Y * 2 ^ (j + 1))).set (j / 8) (X / 2 ^ (j + 1) / Y * 2 ^ (j + 1) / 256 ^ (j / 8) % 256 ||| 2 ^ (j % 8)) = Nm.pad 256 n (X / 2 ^ j / Y * 2 ^ j) := by
  rw [Nm.bit_fill hj (Nat.mul_mod_left _ _)]
  congr 1
  rw [(sp_rest (A := X) (j := j) hY).2, if_pos h, Nat.add_mul, Nat.one_mul, Nat.pow_succ, Nat.mul_comm 2, Nat.mul_assoc, Nat.mul_comm 2]
theorem sp_not {X Y j : Nat} (hY : 0 < Y) (h : ¬ Y ≤ 2 * (X / 2 ^ (j + 1) % Y) + X / 2 ^ j % 2) : X / 2 ^ (j + 1) / Y * 2 ^ (j + 1) = X / 2 ^ j / Y * 2 ^ j ∧ 2 * (X / 2 ^ (j + 1) % Y) + X / 2 ^ j % 2 = X / 2 ^ j % Y := by
  have h1 := sp_rest (A := X) (j := j) hY
  refine ⟨?_, (Nat.mod_eq_of_lt (by omega)).symm.trans h1.1⟩
  rw [h1.2, if_neg h]
  generalize X / 2 ^ (j + 1) / Y = q
  rw [Nat.pow_succ, Nat.mul_comm (2 ^ j) 2, ← Nat.mul_assoc, Nat.mul_comm q 2]
  rfl
set_option maxHeartbeats 4000000 in
set_option maxRecDepth 100000 in
theorem con_splitR {X Y : Nat} (hX : X < b4) (hY : Y < b2) (h0 : 0 < Y) : Con Try.prog 99 [litD X, litD Y] (tupD [litD (X / Y), litD (X % Y)]) := by
  have hn : (cN .u8 (Nm.dg 256 X)).length = Nm.len 256 X := by rw [cN_length, Nm.dg_length]
  have hn1 : (cN .u8 (Nm.dg 256 X)).length ≤ 1000 := by rw [hn]; exact Nat.le_trans ((Nm.len_le (B := 256) (by decide) e4 _).2 hX) (by decide)
  have hXn : X < 256 ^ (cN .u8 (Nm.dg 256 X)).length := by rw [hn]; exact Nm.lt_pow_len (by decide) X
  have htop : X / 2 ^ ((cN .u8 (Nm.dg 256 X)).length * 8) = 0 := Nat.div_eq_of_lt (by rw [Nat.mul_comm, Nat.pow_mul]; exact hXn)
  have hXd : X / Y < 256 ^ (cN .u8 (Nm.dg 256 X)).length := Nat.lt_of_le_of_lt (Nat.div_le_self _ _) hXn
  have h14 : 1 < b4 := b24 (Nat.lt_trans (by decide) b2_ten)
  have hY4 := b24 hY
  refine con_of Try.func99 (by kernel_rfl) rfl (by kernel_rfl) fun base w0 => ?_
  refine SW.seq ?_
  refine SW.region ?_
  refine SWl.rd rfl (Rd.assign rfl) ?_
  refine SWl.rd rfl (Rd.assign rfl) ?_
  refine SWl.nil ?_
  refine SN.then ?_
  refine SW.seq ?_
  refine SW.region ?_
  refine SWl.rd rfl (Rd.move rfl) ?_
  refine SWl.rd rfl (Rd.len (e := 5) rfl (by kernel_rfl)) ?_
  refine SWl.ef (S := []) (Ef.make (e := 5) (z := .int .u8 0) (n := (cN .u8 (Nm.dg 256 X)).length) 1 rfl rfl (by kernel_rfl) (by kernel_rfl) rfl rfl rfl (by omega) (by decide) rfl) ?_
  rintro _ ⟨g11, rfl⟩
  refine SWl.rd rfl (Rd.assign rfl) ?_
  refine SWl.nil ?_
  refine SN.then ?_
  refine SW.seq ?_
  refine SW.region ?_
  refine SWl.rd rfl (Rd.assign rfl) ?_
  refine SWl.nil ?_
  refine SN.then ?_
  refine SW.seq ?_
  refine SW.seq ?_
  refine SW.region ?_
  refine SWl.rd rfl (Rd.move rfl) ?_
  refine SWl.rd rfl (Rd.len (e := 5) rfl (by kernel_rfl)) ?_
  refine SWl.rd rfl (Rd.mul rfl rfl ⟨by omega, by omega⟩) ?_
  refine SWl.rd rfl (Rd.subi rfl rfl ⟨by omega, by omega⟩) ?_
  refine SWl.rd rfl (Rd.assign rfl) ?_
  refine SWl.nil ?_
  refine SN.then ?_
  refine SW.block ?_
  refine SW.loop (ι := {k : Nat // k ≤ (cN .u8 (Nm.dg 256 X)).length * 8}) (fun ⟨k, hk⟩ => St.of [(0, litD X), (1, litD Y), (6, isD (.slice (some ⟨g11, 0, none⟩) (cN .u8 (Nm.dg 256 X)).length (cN .u8 (Nm.dg 256 X)).length)), (7, litD (X / 2 ^ k % Y)), (8, errD ((k : Int) - 1))] [(g11, (cN .u8 (Nm.pad 256 (cN .u8 (Nm.dg 256 X)).length (X / 2 ^ k / Y * 2 ^ k))).map isD)]) (fun ⟨k, hk⟩ => k) (⟨(cN .u8 (Nm.dg 256 X)).length * 8, Nat.le_refl _⟩) ?_ ?_
  · exact ⟨⟨_, rfl, ⟨⟨_, rfl, Le.refl _⟩, ⟨⟨_, rfl, Le.refl _⟩, ⟨⟨_, rfl, Le.refl _⟩, ⟨⟨_, rfl, (by rw [htop, Nat.zero_mod]; exact le_nil_lit)⟩, ⟨⟨_, rfl, le_err (by omega)⟩, trivial⟩⟩⟩⟩⟩⟩, [0], by decide, ⟨⟨_, rfl, leAll_eq (by rw [htop, Nat.zero_div, Nat.zero_mul, zeros8])⟩, trivial⟩⟩
  · rintro ⟨k, hk⟩ K0 hK0
    refine SW.seq ?_
    refine SW.seq ?_
    refine SW.region ?_
    refine SWl.rd rfl (Rd.move rfl) ?_
    refine SWl.rd rfl (Rd.geq rfl rfl) ?_
    refine SWl.nil ?_
    refine SN.then ?_
    refine SW.cond rfl (fun hb17 => ?_) (fun hb17 => ?_)
    · obtain ⟨j, rfl⟩ : ∃ j, k = j + 1 := ⟨k - 1, by have := of_decide_eq_true hb17; omega⟩; have hr : X / 2 ^ (j + 1) % Y < Y := Nat.mod_lt _ h0; have hr4 : X / 2 ^ (j + 1) % Y < b4 := Nat.lt_trans hr hY4; have hs1 := (sp_rest (A := X) (j := j) h0).1
      refine SW.skip ?_
      refine SN.then ?_
      refine SW.seq ?_
      refine SW.block ?_
      refine SW.seq ?_
      refine SW.region ?_
      refine SWl.rd rfl (Rd.move rfl) ?_
      refine SWl.rd rfl (Rd.move rfl) ?_
      refine SWl.ef (S := []) (Ef.call (con_plusR hr4 hr4) rfl ⟨Le.refl _, Le.refl _, trivial⟩ rfl) ?_
      rintro _ rfl
      refine SWl.rd rfl (Rd.assign rfl) ?_
      refine SWl.nil ?_
      refine SN.then ?_
      refine SW.seq ?_
      refine SW.seq ?_
      refine SW.region ?_
      refine SWl.rd rfl (Rd.move rfl) ?_
      refine SWl.rd rfl (Rd.move rfl) ?_
      refine SWl.rd rfl (Rd.quoN rfl rfl ⟨by omega, by omega, by omega⟩) ?_
      refine SWl.rd rfl (Rd.idx (e := 5) rfl rfl (by kernel_rfl) (by kernel_rfl) (by omega) (lit_at (j := j / 8) (by omega) (by omega))) ?_
      refine SWl.rd rfl (Rd.loadP rfl (by kernel_rfl) (by simp)) ?_
      refine SWl.rd rfl (Rd.move rfl) ?_
      refine SWl.rd rfl (Rd.le (Rd.remN rfl rfl ⟨by omega, by omega⟩) (le_err (b := ((j % 8 : Nat) : Int)) (by omega))) ?_
      refine SWl.rd rfl (Rd.shrW (s := j % 8) rfl rfl (shr8 (Nat.mod_lt _ (by decide)))) ?_
      refine SWl.rd rfl (Rd.le (Rd.andW rfl rfl (and1 rfl rfl (Nat.lt_of_le_of_lt (Nat.div_le_self _ _) (Nat.mod_lt _ (by decide))))) (le_wd (congrArg _ (Nm.bit_of X j)))) ?_
      refine SWl.rd rfl (Rd.eqi rfl rfl) ?_
      refine SWl.nil ?_
      refine SN.then ?_
      refine SW.cond rfl (fun hb32 => ?_) (fun hb32 => ?_)
      · have hbit : X / 2 ^ j % 2 = 1 := by have := of_decide_eq_true hb32; omega
        refine SW.region ?_
        refine SWl.rd rfl (Rd.move rfl) ?_
        refine SWl.ef (S := []) (Ef.lit1 (e := 5) rfl rfl (by kernel_rfl) (by kernel_rfl) rfl) ?_
        rintro _ rfl
        refine SWl.ef (S := []) (Ef.call (con_plusR (Y := 1) (b2_dbl hY (by omega)) h14) rfl ⟨Le.refl _, lit1_is, trivial⟩ rfl) ?_
        rintro _ rfl
        refine SWl.rd rfl (Rd.assign rfl) ?_
        refine SWl.nil ?_
        refine SN.then ?_
        refine SW.seq ?_
        refine SW.region ?_
        refine SWl.rd rfl (Rd.move rfl) ?_
        refine SWl.rd rfl (Rd.move rfl) ?_
        refine SWl.ef (S := []) (Ef.call (con_orderR (b2_dbl hY (by omega)) hY4) rfl ⟨Le.refl _, Le.refl _, trivial⟩ rfl) ?_
        rintro _ rfl
        refine SWl.rd rfl (Rd.geq rfl rfl) ?_
        refine SWl.nil ?_
        refine SN.then ?_
        refine SW.cond rfl (fun hb39 => ?_) (fun hb39 => ?_)
        · have hge := cmpN_ge _ _ hb39
          refine SW.seq ?_
          refine SW.region ?_
          refine SWl.rd rfl (Rd.move rfl) ?_
          refine SWl.rd rfl (Rd.move rfl) ?_
          refine SWl.ef (S := []) (Ef.call (con_minusR (b2_dbl hY (by omega)) hge) rfl ⟨Le.refl _, Le.refl _, trivial⟩ rfl) ?_
          rintro _ rfl
          refine SWl.rd rfl (Rd.assign rfl) ?_
          refine SWl.nil ?_
          refine SN.then ?_
          refine SW.draw [g11] (.r 0 (.r 1 (.r 2 (.r 3 (.r 4 (.r 5 (.r 6 (.q 7 (.r 8 (.r 9 (.r 10 (.r 11 (.r 12 (.e 13 .fin .no)))))))))))))) (by kernel_rfl) (by kernel_rfl) (fun d _ _ _ _ h => by cases d <;> exact h) ?_
          refine SWz.rd (i := 0) rfl rfl (Rd.move rfl) ?_
          refine SWz.rd (i := 1) rfl rfl (Rd.move rfl) ?_
          refine SWz.rd (i := 2) rfl rfl (Rd.quoN rfl rfl ⟨by omega, by omega, by omega⟩) ?_
          refine SWz.rd (i := 3) rfl rfl (Rd.move rfl) ?_
          refine SWz.rd (i := 4) rfl rfl (Rd.move rfl) ?_
          refine SWz.rd (i := 5) rfl rfl (Rd.quoN rfl rfl ⟨by omega, by omega, by omega⟩) ?_
          refine SWz.rd (i := 6) rfl rfl (Rd.idxE (e := 5) rfl rfl (by kernel_rfl) (by kernel_rfl) (by omega) (by omega)) ?_
          refine SWz.rq (i := 7) rfl rfl (Rd.loadE 0 rfl rfl (own8_at (j := j / 8) (by omega) (by omega)) (by kernel_rfl) trivial) ?_
          refine SWz.rd (i := 8) rfl rfl (Rd.move rfl) ?_
          refine SWz.rd (i := 9) rfl rfl (Rd.le (Rd.remN rfl rfl ⟨by omega, by omega⟩) (le_err (b := ((j % 8 : Nat) : Int)) (by omega))) ?_
          refine SWz.rd (i := 10) rfl rfl (Rd.shlW (s := j % 8) rfl rfl (shl8 (Nat.mod_lt _ (by decide)))) ?_
          refine SWz.rd (i := 11) rfl rfl (Rd.orW rfl rfl (or8 rfl rfl (Nat.mod_lt _ (by decide)) (Nat.mod_lt _ (by decide)))) ?_
          refine SWz.rd (i := 12) rfl rfl (Rd.idxE (e := 5) rfl rfl (by kernel_rfl) (by kernel_rfl) (by omega) (by omega)) ?_
          refine SWz.efe (i := 13) rfl (Ef.storeE 0 rfl rfl rfl (by kernel_rfl) (by rw [List.length_map, cN_length, Nm.pad_length]; omega) (List.mem_of_getElem? (i := 0) rfl)) ?_ SWz.no
          rintro _ rfl
          refine SWz.nil ?_
          refine SN.block ?_
          refine SN.then ?_
          refine SW.region ?_
          refine SWl.rd rfl (Rd.move rfl) ?_
          refine SWl.rd rfl (Rd.subi rfl rfl ⟨by omega, by omega⟩) ?_
          refine SWl.rd rfl (Rd.assign rfl) ?_
          refine SWl.nil ?_
          exact fun a w hh => hK0 (⟨j, by omega⟩) (Nat.lt_succ_self _) a w (hh.sub (⟨⟨_, rfl, ⟨⟨_, rfl, Le.refl _⟩, ⟨⟨_, rfl, Le.refl _⟩, ⟨⟨_, rfl, Le.refl _⟩, ⟨⟨_, rfl, le_lit (by rw [← hs1, hbit, sp_in (by omega) hr (by omega)]; omega)⟩, ⟨⟨_, rfl, le_err (by omega)⟩, trivial⟩⟩⟩⟩⟩⟩, [0], by decide, ⟨⟨_, rfl, leAll_eq (own_set (by omega) rfl (sp_put (by omega) h0 (by omega)))⟩, trivial⟩⟩))
        · have hge := cmpN_lts _ _ hb39
          refine SW.skip ?_
          refine SN.block ?_
          refine SN.then ?_
          refine SW.region ?_
          refine SWl.rd rfl (Rd.move rfl) ?_
          refine SWl.rd rfl (Rd.subi rfl rfl ⟨by omega, by omega⟩) ?_
          refine SWl.rd rfl (Rd.assign rfl) ?_
          refine SWl.nil ?_
          exact fun a w hh => hK0 (⟨j, by omega⟩) (Nat.lt_succ_self _) a w (hh.sub (⟨⟨_, rfl, ⟨⟨_, rfl, Le.refl _⟩, ⟨⟨_, rfl, Le.refl _⟩, ⟨⟨_, rfl, Le.refl _⟩, ⟨⟨_, rfl, le_lit (by rw [← (sp_not (X := X) (Y := Y) (j := j) h0 (by omega)).2]; omega)⟩, ⟨⟨_, rfl, le_err (by omega)⟩, trivial⟩⟩⟩⟩⟩⟩, [0], by decide, ⟨⟨_, rfl, leAll_eq (by rw [(sp_not (X := X) (Y := Y) (j := j) h0 (by omega)).1])⟩, trivial⟩⟩))
      · have hbit : X / 2 ^ j % 2 = 0 := by have := of_decide_eq_false hb32; omega
        refine SW.skip ?_
        refine SN.then ?_
        refine SW.seq ?_
        refine SW.region ?_
        refine SWl.rd rfl (Rd.move rfl) ?_
        refine SWl.rd rfl (Rd.move rfl) ?_
        refine SWl.ef (S := []) (Ef.call (con_orderR (b2_dbl hY (by omega)) hY4) rfl ⟨Le.refl _, Le.refl _, trivial⟩ rfl) ?_
        rintro _ rfl
        refine SWl.rd rfl (Rd.geq rfl rfl) ?_
        refine SWl.nil ?_
        refine SN.then ?_
        refine SW.cond rfl (fun hb39 => ?_) (fun hb39 => ?_)
        · have hge := cmpN_ge _ _ hb39
          refine SW.seq ?_
          refine SW.region ?_
          refine SWl.rd rfl (Rd.move rfl) ?_
          refine SWl.rd rfl (Rd.move rfl) ?_
          refine SWl.ef (S := []) (Ef.call (con_minusR (b2_dbl hY (by omega)) hge) rfl ⟨Le.refl _, Le.refl _, trivial⟩ rfl) ?_
          rintro _ rfl
          refine SWl.rd rfl (Rd.assign rfl) ?_
          refine SWl.nil ?_
          refine SN.then ?_
          refine SW.draw [g11] (.r 0 (.r 1 (.r 2 (.r 3 (.r 4 (.r 5 (.r 6 (.q 7 (.r 8 (.r 9 (.r 10 (.r 11 (.r 12 (.e 13 .fin .no)))))))))))))) (by kernel_rfl) (by kernel_rfl) (fun d _ _ _ _ h => by cases d <;> exact h) ?_
          refine SWz.rd (i := 0) rfl rfl (Rd.move rfl) ?_
          refine SWz.rd (i := 1) rfl rfl (Rd.move rfl) ?_
          refine SWz.rd (i := 2) rfl rfl (Rd.quoN rfl rfl ⟨by omega, by omega, by omega⟩) ?_
          refine SWz.rd (i := 3) rfl rfl (Rd.move rfl) ?_
          refine SWz.rd (i := 4) rfl rfl (Rd.move rfl) ?_
          refine SWz.rd (i := 5) rfl rfl (Rd.quoN rfl rfl ⟨by omega, by omega, by omega⟩) ?_
          refine SWz.rd (i := 6) rfl rfl (Rd.idxE (e := 5) rfl rfl (by kernel_rfl) (by kernel_rfl) (by omega) (by omega)) ?_
          refine SWz.rq (i := 7) rfl rfl (Rd.loadE 0 rfl rfl (own8_at (j := j / 8) (by omega) (by omega)) (by kernel_rfl) trivial) ?_
          refine SWz.rd (i := 8) rfl rfl (Rd.move rfl) ?_
          refine SWz.rd (i := 9) rfl rfl (Rd.le (Rd.remN rfl rfl ⟨by omega, by omega⟩) (le_err (b := ((j % 8 : Nat) : Int)) (by omega))) ?_
          refine SWz.rd (i := 10) rfl rfl (Rd.shlW (s := j % 8) rfl rfl (shl8 (Nat.mod_lt _ (by decide)))) ?_
          refine SWz.rd (i := 11) rfl rfl (Rd.orW rfl rfl (or8 rfl rfl (Nat.mod_lt _ (by decide)) (Nat.mod_lt _ (by decide)))) ?_
          refine SWz.rd (i := 12) rfl rfl (Rd.idxE (e := 5) rfl rfl (by kernel_rfl) (by kernel_rfl) (by omega) (by omega)) ?_
          refine SWz.efe (i := 13) rfl (Ef.storeE 0 rfl rfl rfl (by kernel_rfl) (by rw [List.length_map, cN_length, Nm.pad_length]; omega) (List.mem_of_getElem? (i := 0) rfl)) ?_ SWz.no
          rintro _ rfl
          refine SWz.nil ?_
          refine SN.block ?_
          refine SN.then ?_
          refine SW.region ?_
          refine SWl.rd rfl (Rd.move rfl) ?_
          refine SWl.rd rfl (Rd.subi rfl rfl ⟨by omega, by omega⟩) ?_
          refine SWl.rd rfl (Rd.assign rfl) ?_
          refine SWl.nil ?_
          exact fun a w hh => hK0 (⟨j, by omega⟩) (Nat.lt_succ_self _) a w (hh.sub (⟨⟨_, rfl, ⟨⟨_, rfl, Le.refl _⟩, ⟨⟨_, rfl, Le.refl _⟩, ⟨⟨_, rfl, Le.refl _⟩, ⟨⟨_, rfl, le_lit (by rw [← hs1, hbit, sp_in (by omega) hr (by omega)]; omega)⟩, ⟨⟨_, rfl, le_err (by omega)⟩, trivial⟩⟩⟩⟩⟩⟩, [0], by decide, ⟨⟨_, rfl, leAll_eq (own_set (by omega) rfl (sp_put (by omega) h0 (by omega)))⟩, trivial⟩⟩))
        · have hge := cmpN_lts _ _ hb39
          refine SW.skip ?_
          refine SN.block ?_
          refine SN.then ?_
          refine SW.region ?_
          refine SWl.rd rfl (Rd.move rfl) ?_
          refine SWl.rd rfl (Rd.subi rfl rfl ⟨by omega, by omega⟩) ?_
          refine SWl.rd rfl (Rd.assign rfl) ?_
          refine SWl.nil ?_
          exact fun a w hh => hK0 (⟨j, by omega⟩) (Nat.lt_succ_self _) a w (hh.sub (⟨⟨_, rfl, ⟨⟨_, rfl, Le.refl _⟩, ⟨⟨_, rfl, Le.refl _⟩, ⟨⟨_, rfl, Le.refl _⟩, ⟨⟨_, rfl, le_lit (by rw [← (sp_not (X := X) (Y := Y) (j := j) h0 (by omega)).2]; omega)⟩, ⟨⟨_, rfl, le_err (by omega)⟩, trivial⟩⟩⟩⟩⟩⟩, [0], by decide, ⟨⟨_, rfl, leAll_eq (by rw [(sp_not (X := X) (Y := Y) (j := j) h0 (by omega)).1])⟩, trivial⟩⟩))
    · obtain rfl : k = 0 := by have := of_decide_eq_false hb17; omega
      refine SW.exit' ?_
      repeat (first | refine SE.then ?_ | refine SE.skip (by decide) ?_)
      refine SE.here ?_
      refine SN.then ?_
      refine SW.seq ?_
      refine SW.region ?_
      refine SWl.rd rfl (Rd.move rfl) ?_
      refine SWl.freeze 56 0 (cN .u8 (Nm.pad 256 (cN .u8 (Nm.dg 256 X)).length (X / 2 ^ 0 / Y * 2 ^ 0))) rfl rfl (by simp) (Nat.le_refl _) rfl ?_
      refine SWl.ef (S := []) (Ef.call (con_trimR' (X := X / Y) (by simp) (by omega) hXd) rfl ⟨Le.refl _, trivial⟩ rfl) ?_
      rintro _ rfl
      refine SWl.rd rfl (Rd.move rfl) ?_
      refine SWl.rd rfl (Rd.assign rfl) ?_
      refine SWl.rd rfl (Rd.assign rfl) ?_
      refine SWl.nil ?_
      refine SN.then ?_
      refine SW.ret (fn := Try.f99) (fun _ _ h => h) (Rs.le (Rs.two rfl (ResV.tmp rfl) (ResV.tmp rfl)) ?_)
      exact Le.tup ⟨Le.refl _, le_lit (by rw [Nat.pow_zero, Nat.div_one]), trivial⟩
theorem sgn_dq {x y : Int} {b : Bool} {n : Nat} (h1 : b = (decide (x < 0) != decide (y < 0))) (h2 : n = dqN x y) : sgn b n = dq x y := by subst h1 h2; rfl
theorem sgn_dr {x y : Int} {b : Bool} {n : Nat} (h1 : b = decide (y < 0)) (h2 : n = drN x y) : sgn b n = dr x y := by subst h1 h2; rfl
theorem up_yes {x y : Int} (h1 : decide (0 < ((cN .u8 (Nm.dg 256 (x.natAbs % y.natAbs))).length : Int)) = true) (h2 : (decide (x < 0) != decide (y < 0)) = true) : up x y = true := by
  have h3 : x.natAbs % y.natAbs ≠ 0 := lit_len0.1 (of_decide_eq_true h1)
  unfold up
  rw [h2, decide_eq_true (by omega)]
  rfl
theorem up_no1 {x y : Int} (h1 : decide (0 < ((cN .u8 (Nm.dg 256 (x.natAbs % y.natAbs))).length : Int)) = false) : up x y = false := by
  have h3 : x.natAbs % y.natAbs = 0 := Classical.byContradiction fun h => of_decide_eq_false h1 (lit_len0.2 h)
  unfold up
  rw [h3]
  simp
theorem up_no2 {x y : Int} (h2 : (decide (x < 0) != decide (y < 0)) = false) : up x y = false := by
  unfold up
  rw [h2]
  rfl
theorem dqN_up {x y : Int} (h : up x y = true) : dqN x y = x.natAbs / y.natAbs + 1 ∧ drN x y = y.natAbs - x.natAbs % y.natAbs := by
  unfold dqN drN
  rw [if_pos h, if_pos h]
  exact ⟨rfl, rfl⟩
theorem dqN_no {x y : Int} (h : up x y = false) : dqN x y = x.natAbs / y.natAbs ∧ drN x y = x.natAbs % y.natAbs := by
  unfold dqN drN
  rw [if_neg (by rw [h]; decide), if_neg (by rw [h]; decide)]
  exact ⟨rfl, rfl⟩
set_option maxHeartbeats 4000000 in
set_option maxRecDepth 100000 in
theorem con_divideR {x y : Int} (hx : x.natAbs < b2) (hy : y.natAbs < b2) (hy0 : y ≠ 0) : Con Try.prog 38 [intD x, intD y] (tupD [intD (dq x y), intD (dr x y)]) := by
  have hx4 := b24 hx
  have hy4 := b24 hy
  have h0 : 0 < y.natAbs := by omega
  have hq2 : x.natAbs / y.natAbs < b2 := Nat.lt_of_le_of_lt (Nat.div_le_self _ _) hx
  have hq4 := b24 hq2
  have h12 : 1 < b2 := Nat.lt_trans (by decide) b2_ten
  have hq14 := b4_add hq2 h12
  have hrl : x.natAbs % y.natAbs < y.natAbs := Nat.mod_lt _ h0
  have hr4 := Nat.lt_trans hrl hy4
  have hm4 : y.natAbs - x.natAbs % y.natAbs < b4 := Nat.lt_of_le_of_lt (Nat.sub_le _ _) hy4
  have hrle := Nat.le_of_lt hrl
  refine con_of Try.func38 (by kernel_rfl) rfl (by kernel_rfl) fun base w0 => ?_
  refine SW.seq ?_
  refine SW.region ?_
  refine SWl.ef (S := []) (Ef.boxA rfl rfl) ?_
  rintro _ ⟨g2, rfl⟩
  refine SWl.ef (S := []) (Ef.boxA rfl rfl) ?_
  rintro _ ⟨g3, rfl⟩
  refine SWl.ef (S := []) (Ef.alloc (zs := [.bool false, .slice none 0 0]) (by kernel_rfl) rfl) ?_
  rintro _ ⟨g4, rfl⟩
  refine SWl.ef (S := []) (Ef.alloc (zs := [.bool false, .slice none 0 0]) (by kernel_rfl) rfl) ?_
  rintro _ ⟨g5, rfl⟩
  refine SWl.nil ?_
  refine SN.then ?_
  refine SW.seq ?_
  refine SW.draw [] (.r 0 (.r 2 (.n 1 (.n 3 (.n 4 (.r 5 (.r 6 (.r 7 (.r 8 (.r 9 .fin))))) .no) .no) .no))) (by kernel_rfl) (by kernel_rfl) (fun d _ _ _ _ h => by cases d <;> exact h) ?_
  refine SWz.rd (i := 0) rfl rfl (Rd.loadA 0 2 rfl rfl (by kernel_rfl) rfl trivial) ?_
  refine SWz.rd (i := 2) rfl rfl (Rd.loadA 1 2 rfl rfl (by kernel_rfl) rfl trivial) ?_
  refine SWz.efn (i := 1) rfl (Ef.call (con_absR (by first | assumption | omega)) rfl ⟨Le.refl _, trivial⟩ rfl) ?_ SWz.no
  rintro _ rfl
  refine SWz.efn (i := 3) rfl (Ef.call (con_absR (by first | assumption | omega)) rfl ⟨Le.refl _, trivial⟩ rfl) ?_ SWz.no
  rintro _ rfl
  refine SWz.efn (i := 4) rfl (Ef.call (con_splitR (by assumption) (by assumption) (by assumption)) rfl ⟨Le.refl _, Le.refl _, trivial⟩ rfl) ?_ SWz.no
  rintro _ rfl
  refine SWz.rd (i := 5) rfl rfl (Rd.move rfl) ?_
  refine SWz.rd (i := 6) rfl rfl (Rd.extract rfl rfl) ?_
  refine SWz.rd (i := 7) rfl rfl (Rd.extract rfl rfl) ?_
  refine SWz.rd (i := 8) rfl rfl (Rd.assign rfl) ?_
  refine SWz.rd (i := 9) rfl rfl (Rd.assign rfl) ?_
  refine SWz.nil ?_
  refine SN.then ?_
  refine SW.seq ?_
  refine SW.seq ?_
  refine SW.region ?_
  refine SWl.rd rfl (Rd.move rfl) ?_
  refine SWl.rd rfl (Rd.len (e := 5) rfl (by kernel_rfl)) ?_
  refine SWl.rd rfl (Rd.gtr rfl rfl) ?_
  refine SWl.rd rfl (Rd.move rfl) ?_
  refine SWl.split 19 rfl (fun hb19 => ?_) (fun hb19 => ?_)
  · skip
    refine SWl.rdg rfl rfl (hb19) rfl rfl (Rd.fieldAddr (n := 0) rfl (by kernel_rfl)) ?_
    refine SWl.rdg rfl rfl (hb19) rfl rfl (Rd.loadB 0 rfl rfl rfl (by kernel_rfl) trivial) ?_
    refine SWl.rdg rfl rfl (hb19) rfl rfl (Rd.fieldAddr (n := 0) rfl (by kernel_rfl)) ?_
    refine SWl.rdg rfl rfl (hb19) rfl rfl (Rd.loadB 1 rfl rfl rfl (by kernel_rfl) trivial) ?_
    refine SWl.rdg rfl rfl (hb19) rfl rfl (Rd.neb (by kernel_rfl) rfl rfl) ?_
    refine SWl.rd rfl (Rd.pickY rfl (hb19) rfl) ?_
    refine SWl.nil ?_
    refine SN.then ?_
    refine SW.cond rfl (fun hb25 => ?_) (fun hb25 => ?_)
    · skip
      refine SW.draw [] (.r 0 (.r 3 (.r 5 (.n 1 (.n 2 (.n 4 (.n 6 (.r 7 (.r 8 .fin)) .no) .no) .no) .no)))) (by kernel_rfl) (by kernel_rfl) (fun d _ _ _ _ h => by cases d <;> exact h) ?_
      refine SWz.rd (i := 0) rfl rfl (Rd.move rfl) ?_
      refine SWz.rd (i := 3) rfl rfl (Rd.loadA 1 2 rfl rfl (by kernel_rfl) rfl trivial) ?_
      refine SWz.rd (i := 5) rfl rfl (Rd.move rfl) ?_
      refine SWz.efn (i := 1) rfl (Ef.lit1 (e := 5) rfl rfl (by kernel_rfl) (by kernel_rfl) rfl) ?_ SWz.no
      rintro _ rfl
      refine SWz.efn (i := 2) rfl (Ef.call (con_plusR (Y := 1) hq4 (b24 h12)) rfl ⟨Le.refl _, lit1_is, trivial⟩ rfl) ?_ SWz.no
      rintro _ rfl
      refine SWz.efn (i := 4) rfl (Ef.call (con_absR (by first | assumption | omega)) rfl ⟨Le.refl _, trivial⟩ rfl) ?_ SWz.no
      rintro _ rfl
      refine SWz.efn (i := 6) rfl (Ef.call (con_minusR (by assumption) (by assumption)) rfl ⟨Le.refl _, Le.refl _, trivial⟩ rfl) ?_ SWz.no
      rintro _ rfl
      refine SWz.rd (i := 7) rfl rfl (Rd.assign rfl) ?_
      refine SWz.rd (i := 8) rfl rfl (Rd.assign rfl) ?_
      refine SWz.nil ?_
      refine SN.then ?_
      refine SW.seq ?_
      refine SW.draw [g4, g5] (.r 0 (.r 1 (.r 2 (.r 3 (.r 4 (.r 5 (.r 7 (.r 8 (.r 9 (.n 6 (.n 10 (.e 11 (.e 12 .fin .no) .no) .no) .no)))))))))) (by kernel_rfl) (by kernel_rfl) (fun d _ _ _ _ h => by cases d <;> exact h) ?_
      refine SWz.rd (i := 0) rfl rfl (Rd.fieldAddr (n := 0) rfl (by kernel_rfl)) ?_
      refine SWz.rd (i := 1) rfl rfl (Rd.loadB 0 rfl rfl rfl (by kernel_rfl) ⟨⟨2, _, rfl, by decide⟩, ⟨⟨3, _, rfl, by decide⟩, trivial⟩⟩) ?_
      refine SWz.rd (i := 2) rfl rfl (Rd.fieldAddr (n := 0) rfl (by kernel_rfl)) ?_
      refine SWz.rd (i := 3) rfl rfl (Rd.loadB 1 rfl rfl rfl (by kernel_rfl) ⟨⟨2, _, rfl, by decide⟩, ⟨⟨3, _, rfl, by decide⟩, trivial⟩⟩) ?_
      refine SWz.rd (i := 4) rfl rfl (Rd.neb (by kernel_rfl) rfl rfl) ?_
      refine SWz.rd (i := 5) rfl rfl (Rd.move rfl) ?_
      refine SWz.rd (i := 7) rfl rfl (Rd.fieldAddr (n := 0) rfl (by kernel_rfl)) ?_
      refine SWz.rd (i := 8) rfl rfl (Rd.loadB 1 rfl rfl rfl (by kernel_rfl) ⟨⟨2, _, rfl, by decide⟩, ⟨⟨3, _, rfl, by decide⟩, trivial⟩⟩) ?_
      refine SWz.rd (i := 9) rfl rfl (Rd.move rfl) ?_
      refine SWz.efn (i := 6) rfl (Ef.call (con_makeR _ (by assumption)) rfl ⟨Le.refl _, Le.refl _, trivial⟩ rfl) ?_ SWz.no
      rintro _ rfl
      refine SWz.efn (i := 10) rfl (Ef.call (con_makeR _ (by assumption)) rfl ⟨Le.refl _, Le.refl _, trivial⟩ rfl) ?_ SWz.no
      rintro _ rfl
      refine SWz.efe (i := 11) rfl (Ef.storeA 2 rfl rfl rfl (by kernel_rfl) rfl (List.mem_of_getElem? (i := 0) rfl)) ?_ SWz.no
      rintro _ rfl
      refine SWz.efe (i := 12) rfl (Ef.storeA 3 rfl rfl rfl (by kernel_rfl) rfl (List.mem_of_getElem? (i := 1) rfl)) ?_ SWz.no
      rintro _ rfl
      refine SWz.nil ?_
      refine SN.then ?_
      refine SW.ret (fn := Try.f38) (fun _ _ h => h) (Rs.le (Rs.two rfl (ResV.cellA 2 rfl rfl (by kernel_rfl)) (ResV.cellA 3 rfl rfl (by kernel_rfl))) ?_)
      have hu := up_yes hb19 hb25
      exact Le.tup ⟨le_int (sgn_dq rfl (dqN_up hu).1.symm), le_int (sgn_dr rfl (dqN_up hu).2.symm), trivial⟩
    · skip
      refine SW.skip ?_
      refine SN.then ?_
      refine SW.seq ?_
      refine SW.draw [g4, g5] (.r 0 (.r 1 (.r 2 (.r 3 (.r 4 (.r 5 (.r 7 (.r 8 (.r 9 (.n 6 (.n 10 (.e 11 (.e 12 .fin .no) .no) .no) .no)))))))))) (by kernel_rfl) (by kernel_rfl) (fun d _ _ _ _ h => by cases d <;> exact h) ?_
      refine SWz.rd (i := 0) rfl rfl (Rd.fieldAddr (n := 0) rfl (by kernel_rfl)) ?_
      refine SWz.rd (i := 1) rfl rfl (Rd.loadB 0 rfl rfl rfl (by kernel_rfl) ⟨⟨2, _, rfl, by decide⟩, ⟨⟨3, _, rfl, by decide⟩, trivial⟩⟩) ?_
      refine SWz.rd (i := 2) rfl rfl (Rd.fieldAddr (n := 0) rfl (by kernel_rfl)) ?_
      refine SWz.rd (i := 3) rfl rfl (Rd.loadB 1 rfl rfl rfl (by kernel_rfl) ⟨⟨2, _, rfl, by decide⟩, ⟨⟨3, _, rfl, by decide⟩, trivial⟩⟩) ?_
      refine SWz.rd (i := 4) rfl rfl (Rd.neb (by kernel_rfl) rfl rfl) ?_
      refine SWz.rd (i := 5) rfl rfl (Rd.move rfl) ?_
      refine SWz.rd (i := 7) rfl rfl (Rd.fieldAddr (n := 0) rfl (by kernel_rfl)) ?_
      refine SWz.rd (i := 8) rfl rfl (Rd.loadB 1 rfl rfl rfl (by kernel_rfl) ⟨⟨2, _, rfl, by decide⟩, ⟨⟨3, _, rfl, by decide⟩, trivial⟩⟩) ?_
      refine SWz.rd (i := 9) rfl rfl (Rd.move rfl) ?_
      refine SWz.efn (i := 6) rfl (Ef.call (con_makeR _ (by assumption)) rfl ⟨Le.refl _, Le.refl _, trivial⟩ rfl) ?_ SWz.no
      rintro _ rfl
      refine SWz.efn (i := 10) rfl (Ef.call (con_makeR _ (by assumption)) rfl ⟨Le.refl _, Le.refl _, trivial⟩ rfl) ?_ SWz.no
      rintro _ rfl
      refine SWz.efe (i := 11) rfl (Ef.storeA 2 rfl rfl rfl (by kernel_rfl) rfl (List.mem_of_getElem? (i := 0) rfl)) ?_ SWz.no
      rintro _ rfl
      refine SWz.efe (i := 12) rfl (Ef.storeA 3 rfl rfl rfl (by kernel_rfl) rfl (List.mem_of_getElem? (i := 1) rfl)) ?_ SWz.no
      rintro _ rfl
      refine SWz.nil ?_
      refine SN.then ?_
      refine SW.ret (fn := Try.f38) (fun _ _ h => h) (Rs.le (Rs.two rfl (ResV.cellA 2 rfl rfl (by kernel_rfl)) (ResV.cellA 3 rfl rfl (by kernel_rfl))) ?_)
      have hu := up_no2 (x := x) (y := y) hb25
      exact Le.tup ⟨le_int (sgn_dq rfl (dqN_no hu).1.symm), le_int (sgn_dr rfl (dqN_no hu).2.symm), trivial⟩
  · skip
    refine SWl.off rfl rfl (hb19) rfl rfl ?_
    refine SWl.off rfl rfl (hb19) rfl rfl ?_
    refine SWl.off rfl rfl (hb19) rfl rfl ?_
    refine SWl.off rfl rfl (hb19) rfl rfl ?_
    refine SWl.off rfl rfl (hb19) rfl rfl ?_
    refine SWl.rd rfl (Rd.pickN rfl (hb19) rfl) ?_
    refine SWl.nil ?_
    refine SN.then ?_
    refine SW.condF rfl (rfl) ?_
    refine SW.skip ?_
    refine SN.then ?_
    refine SW.seq ?_
    refine SW.draw [g4, g5] (.r 0 (.r 1 (.r 2 (.r 3 (.r 4 (.r 5 (.r 7 (.r 8 (.r 9 (.n 6 (.n 10 (.e 11 (.e 12 .fin .no) .no) .no) .no)))))))))) (by kernel_rfl) (by kernel_rfl) (fun d _ _ _ _ h => by cases d <;> exact h) ?_
    refine SWz.rd (i := 0) rfl rfl (Rd.fieldAddr (n := 0) rfl (by kernel_rfl)) ?_
    refine SWz.rd (i := 1) rfl rfl (Rd.loadB 0 rfl rfl rfl (by kernel_rfl) ⟨⟨2, _, rfl, by decide⟩, ⟨⟨3, _, rfl, by decide⟩, trivial⟩⟩) ?_
    refine SWz.rd (i := 2) rfl rfl (Rd.fieldAddr (n := 0) rfl (by kernel_rfl)) ?_
    refine SWz.rd (i := 3) rfl rfl (Rd.loadB 1 rfl rfl rfl (by kernel_rfl) ⟨⟨2, _, rfl, by decide⟩, ⟨⟨3, _, rfl, by decide⟩, trivial⟩⟩) ?_
    refine SWz.rd (i := 4) rfl rfl (Rd.neb (by kernel_rfl) rfl rfl) ?_
    refine SWz.rd (i := 5) rfl rfl (Rd.move rfl) ?_
    refine SWz.rd (i := 7) rfl rfl (Rd.fieldAddr (n := 0) rfl (by kernel_rfl)) ?_
    refine SWz.rd (i := 8) rfl rfl (Rd.loadB 1 rfl rfl rfl (by kernel_rfl) ⟨⟨2, _, rfl, by decide⟩, ⟨⟨3, _, rfl, by decide⟩, trivial⟩⟩) ?_
    refine SWz.rd (i := 9) rfl rfl (Rd.move rfl) ?_
    refine SWz.efn (i := 6) rfl (Ef.call (con_makeR _ (by assumption)) rfl ⟨Le.refl _, Le.refl _, trivial⟩ rfl) ?_ SWz.no
    rintro _ rfl
    refine SWz.efn (i := 10) rfl (Ef.call (con_makeR _ (by assumption)) rfl ⟨Le.refl _, Le.refl _, trivial⟩ rfl) ?_ SWz.no
    rintro _ rfl
    refine SWz.efe (i := 11) rfl (Ef.storeA 2 rfl rfl rfl (by kernel_rfl) rfl (List.mem_of_getElem? (i := 0) rfl)) ?_ SWz.no
    rintro _ rfl
    refine SWz.efe (i := 12) rfl (Ef.storeA 3 rfl rfl rfl (by kernel_rfl) rfl (List.mem_of_getElem? (i := 1) rfl)) ?_ SWz.no
    rintro _ rfl
    refine SWz.nil ?_
    refine SN.then ?_
    refine SW.ret (fn := Try.f38) (fun _ _ h => h) (Rs.le (Rs.two rfl (ResV.cellA 2 rfl rfl (by kernel_rfl)) (ResV.cellA 3 rfl rfl (by kernel_rfl))) ?_)
    have hu := up_no1 hb19
    exact Le.tup ⟨le_int (sgn_dq rfl (dqN_no hu).1.symm), le_int (sgn_dr rfl (dqN_no hu).2.symm), trivial⟩
set_option maxHeartbeats 4000000 in
set_option maxRecDepth 100000 in
theorem con_commonR {x y : Int} (hx : x.natAbs < b2) (hy : y.natAbs < b2) : Con Try.prog 37 [intD x, intD y] (intD (gcdZ x y)) := by
  have hx4 := b24 hx
  have hy4 := b24 hy
  refine con_of Try.func37 (by kernel_rfl) rfl (by kernel_rfl) fun base w0 => ?_
  refine SW.seq ?_
  refine SW.region ?_
  refine SWl.ef (S := []) (Ef.boxA rfl rfl) ?_
  rintro _ ⟨g2, rfl⟩
  refine SWl.ef (S := []) (Ef.boxA rfl rfl) ?_
  rintro _ ⟨g3, rfl⟩
  refine SWl.ef (S := []) (Ef.alloc (zs := [.bool false, .slice none 0 0]) (by kernel_rfl) rfl) ?_
  rintro _ ⟨g4, rfl⟩
  refine SWl.nil ?_
  refine SN.then ?_
  refine SW.seq ?_
  refine SW.draw [] (.r 0 (.r 2 (.n 1 (.n 3 (.r 4 (.r 5 .fin)) .no) .no))) (by kernel_rfl) (by kernel_rfl) (fun d _ _ _ _ h => by cases d <;> exact h) ?_
  refine SWz.rd (i := 0) rfl rfl (Rd.loadA 0 2 rfl rfl (by kernel_rfl) rfl trivial) ?_
  refine SWz.rd (i := 2) rfl rfl (Rd.loadA 1 2 rfl rfl (by kernel_rfl) rfl trivial) ?_
  refine SWz.efn (i := 1) rfl (Ef.call (con_absR (by first | assumption | omega)) rfl ⟨Le.refl _, trivial⟩ rfl) ?_ SWz.no
  rintro _ rfl
  refine SWz.efn (i := 3) rfl (Ef.call (con_absR (by first | assumption | omega)) rfl ⟨Le.refl _, trivial⟩ rfl) ?_ SWz.no
  rintro _ rfl
  refine SWz.rd (i := 4) rfl rfl (Rd.assign rfl) ?_
  refine SWz.rd (i := 5) rfl rfl (Rd.assign rfl) ?_
  refine SWz.nil ?_
  refine SN.then ?_
  refine SW.seq ?_
  refine SW.block ?_
  refine SW.loop (ι := {p : Nat × Nat // p.1 < b2 ∧ p.2 < b2 ∧ Nat.gcd p.1 p.2 = Nat.gcd x.natAbs y.natAbs}) (fun ⟨⟨X, Y⟩, hX, hY, hG⟩ => St.of [(4, isD (.pointer (some ⟨g4, 0, none⟩))), (5, litD X), (6, litD Y)] [(g4, [isD (.bool false), isD (.slice none 0 0)])]) (fun ⟨⟨X, Y⟩, hX, hY, hG⟩ => Y) (⟨(x.natAbs, y.natAbs), hx, hy, rfl⟩) ?_ ?_
  · exact ⟨⟨_, rfl, ⟨⟨_, rfl, Le.refl _⟩, ⟨⟨_, rfl, Le.refl _⟩, ⟨⟨_, rfl, Le.refl _⟩, trivial⟩⟩⟩⟩, [2], by decide, ⟨⟨_, rfl, LeAll.refl _⟩, trivial⟩⟩
  · rintro ⟨⟨X, Y⟩, hX, hY, hG⟩ K0 hK0
    simp only at hX hY hG
    refine SW.seq ?_
    refine SW.seq ?_
    refine SW.region ?_
    refine SWl.rd rfl (Rd.move rfl) ?_
    refine SWl.rd rfl (Rd.len (e := 5) rfl (by kernel_rfl)) ?_
    refine SWl.rd rfl (Rd.gtr rfl rfl) ?_
    refine SWl.nil ?_
    refine SN.then ?_
    refine SW.cond rfl (fun hb15 => ?_) (fun hb15 => ?_)
    · have h0 : 0 < Y := Nat.pos_of_ne_zero (lit_len0.1 (of_decide_eq_true hb15))
      refine SW.skip ?_
      refine SN.then ?_
      refine SW.block ?_
      refine SW.seq ?_
      refine SW.region ?_
      refine SWl.rd rfl (Rd.move rfl) ?_
      refine SWl.rd rfl (Rd.move rfl) ?_
      refine SWl.ef (S := []) (Ef.call (con_splitR (b24 hX) hY h0) rfl ⟨Le.refl _, Le.refl _, trivial⟩ rfl) ?_
      rintro _ rfl
      refine SWl.rd rfl (Rd.move rfl) ?_
      refine SWl.rd rfl (Rd.extract rfl rfl) ?_
      refine SWl.rd rfl (Rd.extract rfl rfl) ?_
      refine SWl.rd rfl (Rd.assign rfl) ?_
      refine SWl.rd rfl (Rd.assign rfl) ?_
      refine SWl.nil ?_
      refine SN.then ?_
      refine SW.region ?_
      refine SWl.rd rfl (Rd.move rfl) ?_
      refine SWl.rd rfl (Rd.move rfl) ?_
      refine SWl.rd rfl (Rd.assign rfl) ?_
      refine SWl.rd rfl (Rd.assign rfl) ?_
      refine SWl.nil ?_
      refine SN.block ?_
      exact fun a w hh => hK0 (⟨(Y, X % Y), hY, Nat.lt_trans (Nat.mod_lt _ h0) hY, gcd_next hG⟩) (Nat.mod_lt _ h0) a w (hh.sub (⟨⟨_, rfl, ⟨⟨_, rfl, Le.refl _⟩, ⟨⟨_, rfl, Le.refl _⟩, ⟨⟨_, rfl, Le.refl _⟩, trivial⟩⟩⟩⟩, [0], by decide, ⟨⟨_, rfl, LeAll.refl _⟩, trivial⟩⟩))
    · obtain rfl : Y = 0 := Classical.byContradiction fun h => of_decide_eq_false hb15 (lit_len0.2 h)
      refine SW.exit' ?_
      repeat (first | refine SE.then ?_ | refine SE.skip (by decide) ?_)
      refine SE.here ?_
      refine SN.then ?_
      refine SW.seq ?_
      refine SW.region ?_
      refine SWl.rd rfl (Rd.move rfl) ?_
      refine SWl.ef (S := []) (Ef.call (con_makeR false (b24 hX)) rfl ⟨Le.refl _, Le.refl _, trivial⟩ rfl) ?_
      rintro _ rfl
      refine SWl.ef (S := [_]) (Ef.storeA 0 rfl rfl rfl (by kernel_rfl) rfl (List.mem_singleton.2 rfl)) ?_
      rintro _ rfl
      refine SWl.nil ?_
      refine SN.then ?_
      refine SW.ret (fn := Try.f37) (fun _ _ h => h) (Rs.le (Rs.one rfl (ResV.cellA 0 rfl rfl (by kernel_rfl))) ?_)
      rw [Nat.gcd_zero_right] at hG
      exact le_int (by show ((X : Nat) : Int) = _; rw [hG]; rfl)
end Sx
end Go.Proofs.Ytddfphneidcibaa
