/-
  THE WALKS of the reference's Tenth, Text.
  THE WALKS of the reference's Form.
  THE WALK of the reference's Read; Parse and Form by what a string is.
-/
import Derived.Test.YtddfphneidcibaaGL
namespace Go.Proofs.Ytddfphneidcibaa
open Go.RowKit
open Nm (W32)
namespace Sx
theorem leAll_eq {ds es : List D} (h : ds = es) : LeAll ds es := by subst h; exact LeAll.refl _
theorem lit_at {X j : Nat} {i : Int} (hi : i = (j : Int)) (hj : j < (cN .u8 (Nm.dg 256 X)).length) : (cN .u8 (Nm.dg 256 X))[i.toNat]? = some (.int .u8 ((X / 256 ^ j % 256 : Nat) : Int)) := by
  subst hi
  rw [Int.toNat_natCast, cN_get (by simpa using hj), Nm.dg_getD (by decide)]
theorem own_set {k : IntKind} {l m : List Nat} {o j d : Nat} {v : Int} (ho : o = j) (hv : v = (d : Int)) (hm : l.set j d = m) : ((cN k l).map isD).set o (isD (.int k v)) = (cN k m).map isD := by
  subst ho hv hm
  rw [← List.map_set, cN_set]
theorem con_trimR' {n X Y : Nat} (h : Y = X) (hn : n ≤ 1000000) (hX : X < 256 ^ n) : Con Try.prog 96 [slD (cN .u8 (Nm.pad 256 n Y))] (litD X) := by subst h; exact con_trimR hn hX
set_option maxHeartbeats 4000000 in
set_option maxRecDepth 100000 in
theorem con_tenthR {X : Nat} (hX : X < b4) : Con Try.prog 90 [litD X] (tupD [litD (X / 10), errD ((X % 10 : Nat) : Int)]) := by
  have hn : (cN .u8 (Nm.dg 256 X)).length = Nm.len 256 X := by rw [cN_length, Nm.dg_length]
  have hn1 : (cN .u8 (Nm.dg 256 X)).length ≤ 1000 := by rw [hn]; exact Nat.le_trans ((Nm.len_le (B := 256) (by decide) e4 _).2 hX) (by decide)
  have htop : X / 256 ^ (cN .u8 (Nm.dg 256 X)).length = 0 := Nm.ds_top (by decide) (by rw [hn]; exact Nat.le_refl _)
  have hXn : X < 256 ^ (cN .u8 (Nm.dg 256 X)).length := by rw [hn]; exact Nm.lt_pow_len (by decide) X
  have hXd : X / 10 < 256 ^ (cN .u8 (Nm.dg 256 X)).length := Nat.lt_of_le_of_lt (Nat.div_le_self _ _) hXn
  refine con_of Try.func90 (by kernel_rfl) rfl (by kernel_rfl) fun base w0 => ?_
  refine SW.seq ?_
  refine SW.region ?_
  refine SWl.rd rfl (Rd.assign rfl) ?_
  refine SWl.rd rfl (Rd.assign rfl) ?_
  refine SWl.nil ?_
  refine SN.then ?_
  refine SW.seq ?_
  refine SW.region ?_
  refine SWl.rd rfl (Rd.move rfl) ?_
  refine SWl.rd rfl (Rd.len (e := 5) rfl (by kernel_rfl)) ?_
  refine SWl.ef (S := []) (Ef.make (e := 5) (z := .int .u8 0) (n := (cN .u8 (Nm.dg 256 X)).length) 1 rfl rfl (by kernel_rfl) (by kernel_rfl) rfl rfl rfl (by omega) (by decide) rfl) ?_
  rintro _ ⟨g10, rfl⟩
  refine SWl.rd rfl (Rd.assign rfl) ?_
  refine SWl.nil ?_
  refine SN.then ?_
  refine SW.seq ?_
  refine SW.region ?_
  refine SWl.rd rfl (Rd.assign rfl) ?_
  refine SWl.nil ?_
  refine SN.then ?_
  refine SW.seq ?_
  refine SW.seq ?_
  refine SW.region ?_
  refine SWl.rd rfl (Rd.move rfl) ?_
  refine SWl.rd rfl (Rd.len (e := 5) rfl (by kernel_rfl)) ?_
  refine SWl.rd rfl (Rd.subi rfl rfl ⟨by omega, by omega⟩) ?_
  refine SWl.rd rfl (Rd.assign rfl) ?_
  refine SWl.nil ?_
  refine SN.then ?_
  refine SW.block ?_
  refine SW.loop (ι := {k : Nat // k ≤ (cN .u8 (Nm.dg 256 X)).length}) (fun ⟨k, hk⟩ => St.of [(0, litD X), (4, isD (.slice (some ⟨g10, 0, none⟩) (cN .u8 (Nm.dg 256 X)).length (cN .u8 (Nm.dg 256 X)).length)), (5, errD ((X / 256 ^ k % 10 : Nat) : Int)), (6, errD ((k : Int) - 1))] [(g10, (cN .u8 (Nm.pad 256 (cN .u8 (Nm.dg 256 X)).length (X / 256 ^ k / 10 * 256 ^ k))).map isD)]) (fun ⟨k, hk⟩ => k) (⟨(cN .u8 (Nm.dg 256 X)).length, Nat.le_refl _⟩) ?_ ?_
  · exact ⟨⟨_, rfl, ⟨⟨_, rfl, Le.refl _⟩, ⟨⟨_, rfl, Le.refl _⟩, ⟨⟨_, rfl, le_err (by rw [htop]; rfl)⟩, ⟨⟨_, rfl, Le.refl _⟩, trivial⟩⟩⟩⟩⟩, [0], by decide, ⟨⟨_, rfl, leAll_eq (by rw [htop, Nat.zero_div, Nat.zero_mul, zeros8])⟩, trivial⟩⟩
  · rintro ⟨k, hk⟩ K0 hK0
    refine SW.seq ?_
    refine SW.seq ?_
    refine SW.region ?_
    refine SWl.rd rfl (Rd.move rfl) ?_
    refine SWl.rd rfl (Rd.geq rfl rfl) ?_
    refine SWl.nil ?_
    refine SN.then ?_
    refine SW.cond rfl (fun hb15 => ?_) (fun hb15 => ?_)
    · obtain ⟨j, rfl⟩ : ∃ j, k = j + 1 := ⟨k - 1, by have := of_decide_eq_true hb15; omega⟩; have hr10 : X / 256 ^ (j + 1) % 10 < 10 := Nat.mod_lt _ (by decide); have hx256 : X / 256 ^ j % 256 < 256 := Nat.mod_lt _ (by decide)
      refine SW.skip ?_
      refine SN.then ?_
      refine SW.seq ?_
      refine SW.block ?_
      refine SW.seq ?_
      refine SW.region ?_
      refine SWl.rd rfl (Rd.move rfl) ?_
      refine SWl.rd rfl (Rd.mul rfl rfl ⟨by omega, by omega⟩) ?_
      refine SWl.rd rfl (Rd.move rfl) ?_
      refine SWl.rd rfl (Rd.move rfl) ?_
      refine SWl.rd rfl (Rd.idx (e := 5) rfl rfl (by kernel_rfl) (by kernel_rfl) (by omega) (lit_at (j := j) (by omega) (by omega))) ?_
      refine SWl.rd rfl (Rd.loadP rfl (by kernel_rfl) (by simp)) ?_
      refine SWl.rd rfl (Rd.cvW .u8 rfl (by kernel_rfl) (by kernel_rfl) (wrap_in (by omega) (by omega))) ?_
      refine SWl.rd rfl (Rd.add rfl rfl ⟨by omega, by omega⟩) ?_
      refine SWl.rd rfl (Rd.assign rfl) ?_
      refine SWl.nil ?_
      refine SN.then ?_
      refine SW.seq ?_
      refine SW.region ?_
      refine SWl.rd rfl (Rd.move rfl) ?_
      refine SWl.rd rfl (Rd.move rfl) ?_
      refine SWl.rd rfl (Rd.move rfl) ?_
      refine SWl.rd rfl (Rd.quoN rfl rfl ⟨by omega, by omega, by omega⟩) ?_
      refine SWl.rd rfl (Rd.cvW .i64 rfl (by kernel_rfl) (by kernel_rfl) (wrap_u8 (by omega) (by omega))) ?_
      refine SWl.rd rfl (Rd.idxE (e := 5) rfl rfl (by kernel_rfl) (by kernel_rfl) (by omega) (by omega)) ?_
      refine SWl.ef (S := [_]) (Ef.storeE 0 rfl rfl rfl (by kernel_rfl) (by simp at hk ⊢; omega) (List.mem_singleton.2 rfl)) ?_
      rintro _ rfl
      refine SWl.nil ?_
      refine SN.then ?_
      refine SW.region ?_
      refine SWl.rd rfl (Rd.move rfl) ?_
      refine SWl.rd rfl (Rd.remN rfl rfl ⟨by omega, by omega⟩) ?_
      refine SWl.rd rfl (Rd.assign rfl) ?_
      refine SWl.nil ?_
      refine SN.block ?_
      refine SN.then ?_
      refine SW.region ?_
      refine SWl.rd rfl (Rd.move rfl) ?_
      refine SWl.rd rfl (Rd.subi rfl rfl ⟨by omega, by omega⟩) ?_
      refine SWl.rd rfl (Rd.assign rfl) ?_
      refine SWl.nil ?_
      exact fun a w hh => hK0 (⟨j, by omega⟩) (Nat.lt_succ_self _) a w (hh.sub (⟨⟨_, rfl, ⟨⟨_, rfl, Le.refl _⟩, ⟨⟨_, rfl, Le.refl _⟩, ⟨⟨_, rfl, le_err (by rw [(Nm.ds_step (B := 256) (d := 10) (by decide) X j).2]; omega)⟩, ⟨⟨_, rfl, le_err (by omega)⟩, trivial⟩⟩⟩⟩⟩, [0], by decide, ⟨⟨_, rfl, leAll_eq (own_set (by omega) (by rw [Int.natCast_ediv, Int.natCast_add, Int.natCast_mul]; omega) (Nm.ds_fill (B := 256) (by decide) (by decide) X j (by omega) _ rfl))⟩, trivial⟩⟩))
    · obtain rfl : k = 0 := by have := of_decide_eq_false hb15; omega
      refine SW.exit' ?_
      repeat (first | refine SE.then ?_ | refine SE.skip (by decide) ?_)
      refine SE.here ?_
      refine SN.then ?_
      refine SW.seq ?_
      refine SW.region ?_
      refine SWl.rd rfl (Rd.move rfl) ?_
      refine SWl.freeze 34 0 (cN .u8 (Nm.pad 256 (cN .u8 (Nm.dg 256 X)).length (X / 256 ^ 0 / 10 * 256 ^ 0))) rfl rfl (by simp) (Nat.le_refl _) rfl ?_
      refine SWl.ef (S := []) (Ef.call (con_trimR' (X := X / 10) (by simp) (by omega) hXd) rfl ⟨Le.refl _, trivial⟩ rfl) ?_
      rintro _ rfl
      refine SWl.rd rfl (Rd.move rfl) ?_
      refine SWl.rd rfl (Rd.assign rfl) ?_
      refine SWl.rd rfl (Rd.assign rfl) ?_
      refine SWl.nil ?_
      refine SN.then ?_
      refine SW.ret (fn := Try.f90) (fun _ _ h => h) (Rs.le (Rs.two rfl (ResV.tmp rfl) (ResV.tmp rfl)) ?_)
      exact Le.tup ⟨Le.refl _, le_err (by simp), trivial⟩
/-- Decimal digits, the highest first; none for 0. -/
def ds10 (X : Nat) : List UInt8 := ((chs (Nm.len 10 X) X).reverse).map UInt8.ofNat
theorem ds10_zero : ds10 0 = [] := by simp [ds10, Nm.len_zero, chs, Nm.pad]
theorem ds10_step {X : Nat} (h : X ≠ 0) : ds10 X = ds10 (X / 10) ++ [UInt8.ofNat (48 + X % 10)] := by
  unfold ds10 chs
  rw [Nm.len_pos (by decide) h]
  simp only [Nm.pad, List.map_cons, List.reverse_cons, List.map_append, List.map_nil]
  rw [Nat.add_comm (X % 10) 48]
theorem ds10_length (X : Nat) : (ds10 X).length = Nm.len 10 X := by simp [ds10]
theorem ds10_small {X : Nat} (h : X < b4) : (ds10 X).length ≤ 100000 := by
  rw [ds10_length]
  refine Nat.le_trans ((Nm.len_le (B := 10) (by decide) (3 * e4) X).2 (Nat.lt_of_lt_of_le h ?_)) (by decide)
  unfold b4
  rw [Nat.pow_mul]
  exact Nat.pow_le_pow_left (by decide) _
theorem txt_of (x : Int) : txt x = (if x < 0 then [45] else []) ++ (if x = 0 then [48] else ds10 x.natAbs) := by
  unfold txt decs ds10
  by_cases h0 : x = 0
  · subst h0; rfl
  · have : ¬ x.natAbs = 0 := by omega
    rw [if_neg this, if_neg h0, List.map_append]
    by_cases hn : x < 0 <;> simp [hn]
theorem le_byte {d : Nat} {v : Int} (h : v = 48 + (d : Int)) (hd : d < 10) : Le (slD [.int .u8 v]) (slD (cellsOf [UInt8.ofNat (48 + d)])) := by
  subst h
  have : cellsOf [UInt8.ofNat (48 + d)] = [.int .u8 (48 + (d : Int))] := by
    simp [cellsOf, B8]
    omega
  rw [this]
  exact Le.refl _
theorem lit_len0 {X : Nat} : (0 < ((cN .u8 (Nm.dg 256 X)).length : Int)) ↔ X ≠ 0 := by
  rw [cN_length, Nm.dg_length]
  have := Nm.len_eq_zero (B := 256) (x := X) (by decide)
  omega
set_option maxHeartbeats 4000000 in
set_option maxRecDepth 100000 in
theorem con_textR {x : Int} (hx : x.natAbs < b4) : Con Try.prog 28 [intD x] (strD (txt x)) := by
  have hlen := ds10_small hx
  refine con_of Try.func28 (by kernel_rfl) rfl (by kernel_rfl) fun base w0 => ?_
  refine SW.seq ?_
  refine SW.region ?_
  refine SWl.ef (S := []) (Ef.boxA rfl rfl) ?_
  rintro _ ⟨g1, rfl⟩
  refine SWl.rd rfl (Rd.assign rfl) ?_
  refine SWl.nil ?_
  refine SN.then ?_
  refine SW.seq ?_
  refine SW.region ?_
  refine SWl.rd rfl (Rd.assign rfl) ?_
  refine SWl.nil ?_
  refine SN.then ?_
  refine SW.seq ?_
  refine SW.region ?_
  refine SWl.rd rfl (Rd.loadA 0 2 rfl rfl (by kernel_rfl) rfl trivial) ?_
  refine SWl.ef (S := []) (Ef.call (con_absR (by first | assumption | omega)) rfl ⟨Le.refl _, trivial⟩ rfl) ?_
  rintro _ rfl
  refine SWl.rd rfl (Rd.assign rfl) ?_
  refine SWl.nil ?_
  refine SN.then ?_
  refine SW.seq ?_
  refine SW.block ?_
  refine SW.loop (ι := {p : Nat × List UInt8 // p.1 < b4 ∧ ds10 p.1 ++ p.2 = ds10 x.natAbs}) (fun ⟨⟨X, acc⟩, hX4, hacc⟩ => St.of [(1, isD (.pointer (some ⟨g1, 0, none⟩))), (3, strD acc), (4, litD X)] [(g1, intC (x))]) (fun ⟨⟨X, acc⟩, hX4, hacc⟩ => X) (⟨(x.natAbs, []), hx, by simp⟩) ?_ ?_
  · exact ⟨⟨_, rfl, ⟨⟨_, rfl, Le.refl _⟩, ⟨⟨_, rfl, Le.refl _⟩, ⟨⟨_, rfl, Le.refl _⟩, trivial⟩⟩⟩⟩, [0], by decide, ⟨⟨_, rfl, LeAll.refl _⟩, trivial⟩⟩
  · rintro ⟨⟨X, acc⟩, hX4, hacc⟩ K0 hK0
    have hal : acc.length ≤ 100000 := by { have := congrArg List.length hacc; simp at this; omega }
    simp only at hX4 hacc
    refine SW.seq ?_
    refine SW.seq ?_
    refine SW.region ?_
    refine SWl.rd rfl (Rd.move rfl) ?_
    refine SWl.rd rfl (Rd.len (e := 5) rfl (by kernel_rfl)) ?_
    refine SWl.rd rfl (Rd.gtr rfl rfl) ?_
    refine SWl.nil ?_
    refine SN.then ?_
    refine SW.cond rfl (fun hb11 => ?_) (fun hb11 => ?_)
    · have hX0 : X ≠ 0 := lit_len0.1 (of_decide_eq_true hb11); have hd10 : X % 10 < 10 := Nat.mod_lt _ (by decide); have hq4 : X / 10 < b4 := Nat.lt_of_le_of_lt (Nat.div_le_self _ _) hX4
      refine SW.skip ?_
      refine SN.then ?_
      refine SW.block ?_
      refine SW.seq ?_
      refine SW.region ?_
      refine SWl.rd rfl (Rd.move rfl) ?_
      refine SWl.ef (S := []) (Ef.call (con_tenthR (by assumption)) rfl ⟨Le.refl _, trivial⟩ rfl) ?_
      rintro _ rfl
      refine SWl.rd rfl (Rd.move rfl) ?_
      refine SWl.rd rfl (Rd.extract rfl rfl) ?_
      refine SWl.rd rfl (Rd.extract rfl rfl) ?_
      refine SWl.rd rfl (Rd.assign rfl) ?_
      refine SWl.rd rfl (Rd.assign rfl) ?_
      refine SWl.nil ?_
      refine SN.then ?_
      refine SW.seq ?_
      refine SW.region ?_
      refine SWl.rd rfl (Rd.move rfl) ?_
      refine SWl.rd rfl (Rd.add rfl rfl ⟨by omega, by omega⟩) ?_
      refine SWl.rd rfl (Rd.cvW .i64 rfl (by kernel_rfl) (by kernel_rfl) (wrap_u8 (by omega) (by omega))) ?_
      refine SWl.ef (S := []) (Ef.lit1 (e := 5) rfl rfl (by kernel_rfl) (by kernel_rfl) rfl) ?_
      rintro _ rfl
      refine SWl.weak 20 rfl (le_byte rfl hd10) ?_
      refine SWl.rd rfl (Rd.str (e := 5) rfl (by kernel_rfl) (by kernel_rfl) (by kernel_rfl) (by simp)) ?_
      refine SWl.rd rfl (Rd.move rfl) ?_
      refine SWl.rd rfl (Rd.sadd rfl rfl (by simp; omega)) ?_
      refine SWl.rd rfl (Rd.assign rfl) ?_
      refine SWl.nil ?_
      refine SN.then ?_
      refine SW.region ?_
      refine SWl.rd rfl (Rd.move rfl) ?_
      refine SWl.rd rfl (Rd.assign rfl) ?_
      refine SWl.nil ?_
      refine SN.block ?_
      exact fun a w hh => hK0 (⟨(X / 10, [UInt8.ofNat (48 + X % 10)] ++ acc), hq4, by rw [← hacc, ds10_step hX0, List.append_assoc]⟩) (Nat.div_lt_self (by omega) (by decide)) a w (hh.sub (⟨⟨_, rfl, ⟨⟨_, rfl, Le.refl _⟩, ⟨⟨_, rfl, Le.refl _⟩, ⟨⟨_, rfl, Le.refl _⟩, trivial⟩⟩⟩⟩, [0], by decide, ⟨⟨_, rfl, LeAll.refl _⟩, trivial⟩⟩))
    · obtain rfl : X = 0 := Classical.byContradiction fun h => of_decide_eq_false hb11 (lit_len0.2 h); rw [ds10_zero, List.nil_append] at hacc; subst hacc
      refine SW.exit' ?_
      repeat (first | refine SE.then ?_ | refine SE.skip (by decide) ?_)
      refine SE.here ?_
      refine SN.then ?_
      refine SW.seq ?_
      refine SW.seq ?_
      refine SW.region ?_
      refine SWl.rd rfl (Rd.move rfl) ?_
      refine SWl.rd rfl (Rd.eqs  rfl rfl) ?_
      refine SWl.nil ?_
      refine SN.then ?_
      refine SW.cond rfl (fun hb26 => ?_) (fun hb26 => ?_)
      · have h0 : x = 0 := Classical.byContradiction fun h => by { have h1 := of_decide_eq_true hb26; have h2 := ds10_step (X := x.natAbs) (by omega); rw [h1] at h2; simp at h2 }
        refine SW.region ?_
        refine SWl.rd rfl (Rd.assign rfl) ?_
        refine SWl.nil ?_
        refine SN.then ?_
        refine SW.seq ?_
        refine SW.seq ?_
        refine SW.region ?_
        refine SWl.rd rfl (Rd.fieldAddr (n := 0) rfl (by kernel_rfl)) ?_
        refine SWl.rd rfl (Rd.loadB 0 rfl rfl rfl (by kernel_rfl) trivial) ?_
        refine SWl.nil ?_
        refine SN.then ?_
        refine SW.cond rfl (fun hb28 => ?_) (fun hb28 => ?_)
        · skip
          refine SW.region ?_
          refine SWl.rd rfl (Rd.move rfl) ?_
          refine SWl.rd rfl (Rd.sadd rfl rfl (by first | (simp; done) | (simp; omega))) ?_
          refine SWl.rd rfl (Rd.assign rfl) ?_
          refine SWl.nil ?_
          refine SN.then ?_
          refine SW.seq ?_
          refine SW.region ?_
          refine SWl.rd rfl (Rd.move rfl) ?_
          refine SWl.rd rfl (Rd.assign rfl) ?_
          refine SWl.nil ?_
          refine SN.then ?_
          refine SW.ret (fn := Try.f28) (fun _ _ h => h) (Rs.le (Rs.one rfl (ResV.tmp rfl)) ?_)
          exact absurd (of_decide_eq_true hb28) (by omega)
        · skip
          refine SW.skip ?_
          refine SN.then ?_
          refine SW.seq ?_
          refine SW.region ?_
          refine SWl.rd rfl (Rd.move rfl) ?_
          refine SWl.rd rfl (Rd.assign rfl) ?_
          refine SWl.nil ?_
          refine SN.then ?_
          refine SW.ret (fn := Try.f28) (fun _ _ h => h) (Rs.le (Rs.one rfl (ResV.tmp rfl)) ?_)
          exact le_v (by rw [txt_of, if_pos h0]; subst h0; rfl)
      · have h0 : ¬ x = 0 := fun h => of_decide_eq_false hb26 (by rw [h]; exact ds10_zero)
        refine SW.skip ?_
        refine SN.then ?_
        refine SW.seq ?_
        refine SW.seq ?_
        refine SW.region ?_
        refine SWl.rd rfl (Rd.fieldAddr (n := 0) rfl (by kernel_rfl)) ?_
        refine SWl.rd rfl (Rd.loadB 0 rfl rfl rfl (by kernel_rfl) trivial) ?_
        refine SWl.nil ?_
        refine SN.then ?_
        refine SW.cond rfl (fun hb28 => ?_) (fun hb28 => ?_)
        · skip
          refine SW.region ?_
          refine SWl.rd rfl (Rd.move rfl) ?_
          refine SWl.rd rfl (Rd.sadd rfl rfl (by first | (simp; done) | (simp; omega))) ?_
          refine SWl.rd rfl (Rd.assign rfl) ?_
          refine SWl.nil ?_
          refine SN.then ?_
          refine SW.seq ?_
          refine SW.region ?_
          refine SWl.rd rfl (Rd.move rfl) ?_
          refine SWl.rd rfl (Rd.assign rfl) ?_
          refine SWl.nil ?_
          refine SN.then ?_
          refine SW.ret (fn := Try.f28) (fun _ _ h => h) (Rs.le (Rs.one rfl (ResV.tmp rfl)) ?_)
          exact le_v (by rw [txt_of, if_neg h0, if_pos (of_decide_eq_true hb28)])
        · skip
          refine SW.skip ?_
          refine SN.then ?_
          refine SW.seq ?_
          refine SW.region ?_
          refine SWl.rd rfl (Rd.move rfl) ?_
          refine SWl.rd rfl (Rd.assign rfl) ?_
          refine SWl.nil ?_
          refine SN.then ?_
          refine SW.ret (fn := Try.f28) (fun _ _ h => h) (Rs.le (Rs.one rfl (ResV.tmp rfl)) ?_)
          exact le_v (by rw [txt_of, if_neg h0, if_neg (of_decide_eq_false hb28)]; rfl)
end Sx
end Go.Proofs.Ytddfphneidcibaa
namespace Go.Proofs.Ytddfphneidcibaa
open Go.RowKit
open Nm (W32)
namespace Sx
def digB (c : UInt8) : Bool := decide (48 ≤ c.toNat ∧ c.toNat ≤ 57)
def formT (ds : List UInt8) : Bool := decide (ds ≠ []) && !decide ((ds.getD 0 0).toNat = 48) && ds.all digB
theorem formT_nil {ds : List UInt8} (h : decide (ds = []) = true) : Value.bool false = .bool (formT ds) := by
  have := of_decide_eq_true h
  subst this
  rfl
theorem ds_zero {ds : List UInt8} (h : decide (ds = []) = false) : ds[(0 : Int).toNat]? = some (ds.getD 0 0) := by
  have := of_decide_eq_false h
  cases ds with
  | nil => exact absurd rfl this
  | cons c t => rfl
theorem formT_lead {ds : List UInt8} (h : decide (((ds.getD 0 0).toNat : Int) = 48) = true) : Value.bool false = .bool (formT ds) := by
  have h1 : (ds.getD 0 0).toNat = 48 := by have := of_decide_eq_true h; omega
  unfold formT
  rw [decide_eq_true h1]
  simp
theorem formT_bad {ds : List UInt8} {k : Nat} {c : UInt8} (hc : ds[k]? = some c) (h : ¬ (48 ≤ c.toNat ∧ c.toNat ≤ 57)) : Value.bool false = .bool (formT ds) := by
  have : ds.all digB = false := by
    rw [List.all_eq_false]
    refine ⟨c, List.mem_of_getElem? hc, ?_⟩
    simp only [digB, decide_eq_true_eq]
    exact h
  unfold formT
  rw [this, Bool.and_false]
theorem formT_good {ds : List UInt8} {k : Nat} (hk : (ds.take k).all digB = true) (hge : ¬ (k : Int) < (ds.length : Int)) (h1 : decide (ds = []) = false) (h2 : decide (((ds.getD 0 0).toNat : Int) = 48) = false) : Value.bool true = .bool (formT ds) := by
  rw [List.take_of_length_le (by omega)] at hk
  have e1 : ¬ ds = [] := of_decide_eq_false h1
  have e2 : ¬ (ds.getD 0 0).toNat = 48 := by have := of_decide_eq_false h2; omega
  unfold formT
  rw [hk, decide_eq_true e1, decide_eq_false e2]
  rfl
theorem all_dig {ds : List UInt8} {k : Nat} {c : UInt8} (hc : ds[k]? = some c) (hk : (ds.take k).all digB = true) (h1 : decide ((c.toNat : Int) < 48) = false) (h2 : decide (57 < (c.toNat : Int)) = false) : (ds.take (k + 1)).all digB = true := by
  have hlt : k < ds.length := (List.getElem?_eq_some_iff.1 hc).1
  have hg : ds[k] = c := (List.getElem?_eq_some_iff.1 hc).2
  rw [List.take_succ_eq_append_getElem hlt, List.all_append, hk, hg]
  have e1 := of_decide_eq_false h1
  have e2 := of_decide_eq_false h2
  simp [digB]
  omega
theorem lead45 {ds : List UInt8} (h : ∀ t, ds ≠ 45 :: t) (h0 : decide (ds = []) = false) : ¬ ((ds.getD 0 0).toNat : Int) = 45 := by
  have := of_decide_eq_false h0
  cases ds with
  | nil => exact absurd rfl this
  | cons c t =>
    intro hc
    have h1 : (c.toNat : Int) = 45 := by simpa using hc
    have h2 : c.toNat = 45 := by omega
    have : c = 45 := UInt8.toNat_inj.1 h2
    exact h t (by rw [this])
theorem at_k {ds : List UInt8} {k : Nat} (h : k < ds.length) : ∃ c, ds[k]? = some c := ⟨ds[k], List.getElem?_eq_getElem h⟩
set_option maxHeartbeats 4000000 in
set_option maxRecDepth 100000 in
theorem form_neg {ds : List UInt8} (hl : ds.length ≤ 1000000) : Con Try.prog 32 [strD (45 :: ds)] (boolD (formT ds)) := by
  refine con_of Try.func32 (by kernel_rfl) rfl (by kernel_rfl) fun base w0 => ?_
  refine SW.seq ?_
  refine SW.region ?_
  refine SWl.rd rfl (Rd.assign rfl) ?_
  refine SWl.nil ?_
  refine SN.then ?_
  refine SW.seq ?_
  refine SW.seq ?_
  refine SW.region ?_
  refine SWl.rd rfl (Rd.move rfl) ?_
  refine SWl.rd rfl (Rd.eqs  rfl rfl) ?_
  refine SWl.nil ?_
  refine SN.then ?_
  refine SW.condF rfl (decide_eq_false (by simp)) ?_
  refine SW.skip ?_
  refine SN.then ?_
  refine SW.seq ?_
  refine SW.seq ?_
  refine SW.region ?_
  refine SWl.rd rfl (Rd.move rfl) ?_
  refine SWl.rd rfl (Rd.lenb rfl (by kernel_rfl)) ?_
  refine SWl.rd rfl (Rd.gtr rfl rfl) ?_
  refine SWl.rd rfl (Rd.move rfl) ?_
  refine SWl.rdg rfl rfl (decide_eq_true (by simp)) rfl rfl (Rd.move rfl) ?_
  refine SWl.rdg rfl rfl (decide_eq_true (by simp)) rfl rfl (Rd.sidx rfl rfl (by kernel_rfl) (by decide) rfl) ?_
  refine SWl.rdg rfl rfl (decide_eq_true (by simp)) rfl rfl (Rd.eqi rfl rfl) ?_
  refine SWl.rd rfl (Rd.pickY rfl (decide_eq_true (by simp)) rfl) ?_
  refine SWl.nil ?_
  refine SN.then ?_
  refine SW.condT rfl (by decide) ?_
  refine SW.region ?_
  refine SWl.rd rfl (Rd.move rfl) ?_
  refine SWl.rd rfl (Rd.sslo rfl rfl (by kernel_rfl) (by decide) (by simp; omega)) ?_
  refine SWl.rd rfl (Rd.assign rfl) ?_
  refine SWl.nil ?_
  refine SN.then ?_
  refine SW.seq ?_
  refine SW.seq ?_
  refine SW.region ?_
  refine SWl.rd rfl (Rd.move rfl) ?_
  refine SWl.rd rfl (Rd.eqs  rfl rfl) ?_
  refine SWl.rd rfl (Rd.move rfl) ?_
  refine SWl.split 18 rfl (fun hb18 => ?_) (fun hb18 => ?_)
  · skip
    refine SWl.off rfl rfl (hb18) rfl rfl ?_
    refine SWl.off rfl rfl (hb18) rfl rfl ?_
    refine SWl.off rfl rfl (hb18) rfl rfl ?_
    refine SWl.rd rfl (Rd.pickY rfl (hb18) rfl) ?_
    refine SWl.nil ?_
    refine SN.then ?_
    refine SW.condT rfl (rfl) ?_
    refine SW.seq ?_
    refine SW.region ?_
    refine SWl.rd rfl (Rd.assign rfl) ?_
    refine SWl.nil ?_
    refine SN.then ?_
    refine SW.ret (fn := Try.f32) (fun _ _ h => h) (Rs.le (Rs.one rfl (ResV.tmp rfl)) ?_)
    exact le_v (formT_nil hb18)
  · skip
    refine SWl.rdg rfl rfl (hb18) rfl rfl (Rd.move rfl) ?_
    refine SWl.rdg rfl rfl (hb18) rfl rfl (Rd.sidx rfl rfl (by kernel_rfl) (by decide) (ds_zero hb18)) ?_
    refine SWl.rdg rfl rfl (hb18) rfl rfl (Rd.eqi rfl rfl) ?_
    refine SWl.rd rfl (Rd.pickN rfl (hb18) rfl) ?_
    refine SWl.nil ?_
    refine SN.then ?_
    refine SW.cond rfl (fun hb22 => ?_) (fun hb22 => ?_)
    · skip
      refine SW.seq ?_
      refine SW.region ?_
      refine SWl.rd rfl (Rd.assign rfl) ?_
      refine SWl.nil ?_
      refine SN.then ?_
      refine SW.ret (fn := Try.f32) (fun _ _ h => h) (Rs.le (Rs.one rfl (ResV.tmp rfl)) ?_)
      exact le_v (formT_lead hb22)
    · skip
      refine SW.skip ?_
      refine SN.then ?_
      refine SW.seq ?_
      refine SW.seq ?_
      refine SW.region ?_
      refine SWl.rd rfl (Rd.assign rfl) ?_
      refine SWl.nil ?_
      refine SN.then ?_
      refine SW.block ?_
      refine SW.loop (ι := {k : Nat // k ≤ ds.length ∧ (ds.take k).all digB = true}) (fun ⟨k, hk, hal⟩ => St.of [(0, strD ds), (3, errD (k : Int))] []) (fun ⟨k, hk, hal⟩ => ds.length - k) (⟨0, Nat.zero_le _, by simp⟩) ?_ ?_
      · exact ⟨⟨_, rfl, ⟨⟨_, rfl, Le.refl _⟩, ⟨⟨_, rfl, Le.refl _⟩, trivial⟩⟩⟩, [], by decide, trivial⟩
      · rintro ⟨k, hk, hal⟩ K0 hK0
        refine SW.seq ?_
        refine SW.seq ?_
        refine SW.region ?_
        refine SWl.rd rfl (Rd.move rfl) ?_
        refine SWl.rd rfl (Rd.move rfl) ?_
        refine SWl.rd rfl (Rd.lenb rfl (by kernel_rfl)) ?_
        refine SWl.rd rfl (Rd.lss rfl rfl) ?_
        refine SWl.nil ?_
        refine SN.then ?_
        refine SW.cond rfl (fun hb26 => ?_) (fun hb26 => ?_)
        · obtain ⟨c, hc⟩ := at_k (ds := ds) (k := k) (by have := of_decide_eq_true hb26; omega)
          refine SW.skip ?_
          refine SN.then ?_
          refine SW.seq ?_
          refine SW.block ?_
          refine SW.seq ?_
          refine SW.region ?_
          refine SWl.rd rfl (Rd.move rfl) ?_
          refine SWl.rd rfl (Rd.move rfl) ?_
          refine SWl.rd rfl (Rd.sidx rfl rfl (by kernel_rfl) (by omega) (by rw [Int.toNat_natCast]; exact hc)) ?_
          refine SWl.rd rfl (Rd.lss rfl rfl) ?_
          refine SWl.rd rfl (Rd.move rfl) ?_
          refine SWl.split 33 rfl (fun hb33 => ?_) (fun hb33 => ?_)
          · skip
            refine SWl.off rfl rfl (hb33) rfl rfl ?_
            refine SWl.off rfl rfl (hb33) rfl rfl ?_
            refine SWl.off rfl rfl (hb33) rfl rfl ?_
            refine SWl.off rfl rfl (hb33) rfl rfl ?_
            refine SWl.rd rfl (Rd.pickY rfl (hb33) rfl) ?_
            refine SWl.nil ?_
            refine SN.then ?_
            refine SW.condT rfl (rfl) ?_
            refine SW.seq ?_
            refine SW.region ?_
            refine SWl.rd rfl (Rd.assign rfl) ?_
            refine SWl.nil ?_
            refine SN.then ?_
            refine SW.ret (fn := Try.f32) (fun _ _ h => h) (Rs.le (Rs.one rfl (ResV.tmp rfl)) ?_)
            exact le_v (formT_bad hc (by have := of_decide_eq_true hb33; omega))
          · skip
            refine SWl.rdg rfl rfl (hb33) rfl rfl (Rd.move rfl) ?_
            refine SWl.rdg rfl rfl (hb33) rfl rfl (Rd.move rfl) ?_
            refine SWl.rdg rfl rfl (hb33) rfl rfl (Rd.sidx rfl rfl (by kernel_rfl) (by omega) (by rw [Int.toNat_natCast]; exact hc)) ?_
            refine SWl.rdg rfl rfl (hb33) rfl rfl (Rd.gtr rfl rfl) ?_
            refine SWl.rd rfl (Rd.pickN rfl (hb33) rfl) ?_
            refine SWl.nil ?_
            refine SN.then ?_
            refine SW.cond rfl (fun hb38 => ?_) (fun hb38 => ?_)
            · skip
              refine SW.seq ?_
              refine SW.region ?_
              refine SWl.rd rfl (Rd.assign rfl) ?_
              refine SWl.nil ?_
              refine SN.then ?_
              refine SW.ret (fn := Try.f32) (fun _ _ h => h) (Rs.le (Rs.one rfl (ResV.tmp rfl)) ?_)
              exact le_v (formT_bad hc (by have := of_decide_eq_true hb38; omega))
            · skip
              refine SW.skip ?_
              refine SN.block ?_
              refine SN.then ?_
              refine SW.region ?_
              refine SWl.rd rfl (Rd.move rfl) ?_
              refine SWl.rd rfl (Rd.add rfl rfl ⟨by omega, by omega⟩) ?_
              refine SWl.rd rfl (Rd.assign rfl) ?_
              refine SWl.nil ?_
              exact fun a w hh => hK0 (⟨k + 1, (List.getElem?_eq_some_iff.1 hc).1, all_dig hc hal hb33 hb38⟩) (by show ds.length - (k + 1) < ds.length - k; have := (List.getElem?_eq_some_iff.1 hc).1; omega) a w (hh.sub (⟨⟨_, rfl, ⟨⟨_, rfl, Le.refl _⟩, ⟨⟨_, rfl, le_err (by omega)⟩, trivial⟩⟩⟩, [], by decide, trivial⟩))
        · have hge : ¬ (k : Int) < (ds.length : Int) := of_decide_eq_false hb26
          refine SW.exit' ?_
          repeat (first | refine SE.then ?_ | refine SE.skip (by decide) ?_)
          refine SE.here ?_
          refine SN.then ?_
          refine SW.seq ?_
          refine SW.region ?_
          refine SWl.rd rfl (Rd.assign rfl) ?_
          refine SWl.nil ?_
          refine SN.then ?_
          refine SW.ret (fn := Try.f32) (fun _ _ h => h) (Rs.le (Rs.one rfl (ResV.tmp rfl)) ?_)
          exact le_v (formT_good hal hge hb18 hb22)
set_option maxHeartbeats 4000000 in
set_option maxRecDepth 100000 in
theorem form_zero {ds : List UInt8} (h : ds = [48]) : Con Try.prog 32 [strD (ds)] (boolD (true)) := by
  refine con_of Try.func32 (by kernel_rfl) rfl (by kernel_rfl) fun base w0 => ?_
  refine SW.seq ?_
  refine SW.region ?_
  refine SWl.rd rfl (Rd.assign rfl) ?_
  refine SWl.nil ?_
  refine SN.then ?_
  refine SW.seq ?_
  refine SW.seq ?_
  refine SW.region ?_
  refine SWl.rd rfl (Rd.move rfl) ?_
  refine SWl.rd rfl (Rd.eqs  rfl rfl) ?_
  refine SWl.nil ?_
  refine SN.then ?_
  refine SW.condT rfl (decide_eq_true h) ?_
  refine SW.seq ?_
  refine SW.region ?_
  refine SWl.rd rfl (Rd.assign rfl) ?_
  refine SWl.nil ?_
  refine SN.then ?_
  refine SW.ret (fn := Try.f32) (fun _ _ h => h) (Rs.le (Rs.one rfl (ResV.tmp rfl)) ?_)
  exact Le.refl _
set_option maxHeartbeats 4000000 in
set_option maxRecDepth 100000 in
theorem form_pos {ds : List UInt8} (hl : ds.length ≤ 1000000) (h48 : ds ≠ [48]) (h45 : ∀ t, ds ≠ 45 :: t) : Con Try.prog 32 [strD (ds)] (boolD (formT ds)) := by
  refine con_of Try.func32 (by kernel_rfl) rfl (by kernel_rfl) fun base w0 => ?_
  refine SW.seq ?_
  refine SW.region ?_
  refine SWl.rd rfl (Rd.assign rfl) ?_
  refine SWl.nil ?_
  refine SN.then ?_
  refine SW.seq ?_
  refine SW.seq ?_
  refine SW.region ?_
  refine SWl.rd rfl (Rd.move rfl) ?_
  refine SWl.rd rfl (Rd.eqs  rfl rfl) ?_
  refine SWl.nil ?_
  refine SN.then ?_
  refine SW.condF rfl (decide_eq_false h48) ?_
  refine SW.skip ?_
  refine SN.then ?_
  refine SW.seq ?_
  refine SW.seq ?_
  refine SW.region ?_
  refine SWl.rd rfl (Rd.move rfl) ?_
  refine SWl.rd rfl (Rd.lenb rfl (by kernel_rfl)) ?_
  refine SWl.rd rfl (Rd.gtr rfl rfl) ?_
  refine SWl.rd rfl (Rd.move rfl) ?_
  refine SWl.split 9 rfl (fun hb9 => ?_) (fun hb9 => ?_)
  · have h0 : decide (ds = []) = false := decide_eq_false (by intro h; subst h; simp at hb9)
    refine SWl.rdg rfl rfl (hb9) rfl rfl (Rd.move rfl) ?_
    refine SWl.rdg rfl rfl (hb9) rfl rfl (Rd.sidx rfl rfl (by kernel_rfl) (by decide) (ds_zero h0)) ?_
    refine SWl.rdg rfl rfl (hb9) rfl rfl (Rd.eqi rfl rfl) ?_
    refine SWl.rd rfl (Rd.pickY rfl (hb9) rfl) ?_
    refine SWl.nil ?_
    refine SN.then ?_
    refine SW.condF rfl (decide_eq_false (lead45 h45 h0)) ?_
    refine SW.skip ?_
    refine SN.then ?_
    refine SW.seq ?_
    refine SW.seq ?_
    refine SW.region ?_
    refine SWl.rd rfl (Rd.move rfl) ?_
    refine SWl.rd rfl (Rd.eqs  rfl rfl) ?_
    refine SWl.rd rfl (Rd.move rfl) ?_
    refine SWl.split 18 rfl (fun hb18 => ?_) (fun hb18 => ?_)
    · skip
      refine SWl.off rfl rfl (hb18) rfl rfl ?_
      refine SWl.off rfl rfl (hb18) rfl rfl ?_
      refine SWl.off rfl rfl (hb18) rfl rfl ?_
      refine SWl.rd rfl (Rd.pickY rfl (hb18) rfl) ?_
      refine SWl.nil ?_
      refine SN.then ?_
      refine SW.condT rfl (rfl) ?_
      refine SW.seq ?_
      refine SW.region ?_
      refine SWl.rd rfl (Rd.assign rfl) ?_
      refine SWl.nil ?_
      refine SN.then ?_
      refine SW.ret (fn := Try.f32) (fun _ _ h => h) (Rs.le (Rs.one rfl (ResV.tmp rfl)) ?_)
      exact le_v (formT_nil hb18)
    · skip
      refine SWl.rdg rfl rfl (hb18) rfl rfl (Rd.move rfl) ?_
      refine SWl.rdg rfl rfl (hb18) rfl rfl (Rd.sidx rfl rfl (by kernel_rfl) (by decide) (ds_zero hb18)) ?_
      refine SWl.rdg rfl rfl (hb18) rfl rfl (Rd.eqi rfl rfl) ?_
      refine SWl.rd rfl (Rd.pickN rfl (hb18) rfl) ?_
      refine SWl.nil ?_
      refine SN.then ?_
      refine SW.cond rfl (fun hb22 => ?_) (fun hb22 => ?_)
      · skip
        refine SW.seq ?_
        refine SW.region ?_
        refine SWl.rd rfl (Rd.assign rfl) ?_
        refine SWl.nil ?_
        refine SN.then ?_
        refine SW.ret (fn := Try.f32) (fun _ _ h => h) (Rs.le (Rs.one rfl (ResV.tmp rfl)) ?_)
        exact le_v (formT_lead hb22)
      · skip
        refine SW.skip ?_
        refine SN.then ?_
        refine SW.seq ?_
        refine SW.seq ?_
        refine SW.region ?_
        refine SWl.rd rfl (Rd.assign rfl) ?_
        refine SWl.nil ?_
        refine SN.then ?_
        refine SW.block ?_
        refine SW.loop (ι := {k : Nat // k ≤ ds.length ∧ (ds.take k).all digB = true}) (fun ⟨k, hk, hal⟩ => St.of [(0, strD ds), (3, errD (k : Int))] []) (fun ⟨k, hk, hal⟩ => ds.length - k) (⟨0, Nat.zero_le _, by simp⟩) ?_ ?_
        · exact ⟨⟨_, rfl, ⟨⟨_, rfl, Le.refl _⟩, ⟨⟨_, rfl, Le.refl _⟩, trivial⟩⟩⟩, [], by decide, trivial⟩
        · rintro ⟨k, hk, hal⟩ K0 hK0
          refine SW.seq ?_
          refine SW.seq ?_
          refine SW.region ?_
          refine SWl.rd rfl (Rd.move rfl) ?_
          refine SWl.rd rfl (Rd.move rfl) ?_
          refine SWl.rd rfl (Rd.lenb rfl (by kernel_rfl)) ?_
          refine SWl.rd rfl (Rd.lss rfl rfl) ?_
          refine SWl.nil ?_
          refine SN.then ?_
          refine SW.cond rfl (fun hb26 => ?_) (fun hb26 => ?_)
          · obtain ⟨c, hc⟩ := at_k (ds := ds) (k := k) (by have := of_decide_eq_true hb26; omega)
            refine SW.skip ?_
            refine SN.then ?_
            refine SW.seq ?_
            refine SW.block ?_
            refine SW.seq ?_
            refine SW.region ?_
            refine SWl.rd rfl (Rd.move rfl) ?_
            refine SWl.rd rfl (Rd.move rfl) ?_
            refine SWl.rd rfl (Rd.sidx rfl rfl (by kernel_rfl) (by omega) (by rw [Int.toNat_natCast]; exact hc)) ?_
            refine SWl.rd rfl (Rd.lss rfl rfl) ?_
            refine SWl.rd rfl (Rd.move rfl) ?_
            refine SWl.split 33 rfl (fun hb33 => ?_) (fun hb33 => ?_)
            · skip
              refine SWl.off rfl rfl (hb33) rfl rfl ?_
              refine SWl.off rfl rfl (hb33) rfl rfl ?_
              refine SWl.off rfl rfl (hb33) rfl rfl ?_
              refine SWl.off rfl rfl (hb33) rfl rfl ?_
              refine SWl.rd rfl (Rd.pickY rfl (hb33) rfl) ?_
              refine SWl.nil ?_
              refine SN.then ?_
              refine SW.condT rfl (rfl) ?_
              refine SW.seq ?_
              refine SW.region ?_
              refine SWl.rd rfl (Rd.assign rfl) ?_
              refine SWl.nil ?_
              refine SN.then ?_
              refine SW.ret (fn := Try.f32) (fun _ _ h => h) (Rs.le (Rs.one rfl (ResV.tmp rfl)) ?_)
              exact le_v (formT_bad hc (by have := of_decide_eq_true hb33; omega))
            · skip
              refine SWl.rdg rfl rfl (hb33) rfl rfl (Rd.move rfl) ?_
              refine SWl.rdg rfl rfl (hb33) rfl rfl (Rd.move rfl) ?_
              refine SWl.rdg rfl rfl (hb33) rfl rfl (Rd.sidx rfl rfl (by kernel_rfl) (by omega) (by rw [Int.toNat_natCast]; exact hc)) ?_
              refine SWl.rdg rfl rfl (hb33) rfl rfl (Rd.gtr rfl rfl) ?_
              refine SWl.rd rfl (Rd.pickN rfl (hb33) rfl) ?_
              refine SWl.nil ?_
              refine SN.then ?_
              refine SW.cond rfl (fun hb38 => ?_) (fun hb38 => ?_)
              · skip
                refine SW.seq ?_
                refine SW.region ?_
                refine SWl.rd rfl (Rd.assign rfl) ?_
                refine SWl.nil ?_
                refine SN.then ?_
                refine SW.ret (fn := Try.f32) (fun _ _ h => h) (Rs.le (Rs.one rfl (ResV.tmp rfl)) ?_)
                exact le_v (formT_bad hc (by have := of_decide_eq_true hb38; omega))
              · skip
                refine SW.skip ?_
                refine SN.block ?_
                refine SN.then ?_
                refine SW.region ?_
                refine SWl.rd rfl (Rd.move rfl) ?_
                refine SWl.rd rfl (Rd.add rfl rfl ⟨by omega, by omega⟩) ?_
                refine SWl.rd rfl (Rd.assign rfl) ?_
                refine SWl.nil ?_
                exact fun a w hh => hK0 (⟨k + 1, (List.getElem?_eq_some_iff.1 hc).1, all_dig hc hal hb33 hb38⟩) (by show ds.length - (k + 1) < ds.length - k; have := (List.getElem?_eq_some_iff.1 hc).1; omega) a w (hh.sub (⟨⟨_, rfl, ⟨⟨_, rfl, Le.refl _⟩, ⟨⟨_, rfl, le_err (by omega)⟩, trivial⟩⟩⟩, [], by decide, trivial⟩))
          · have hge : ¬ (k : Int) < (ds.length : Int) := of_decide_eq_false hb26
            refine SW.exit' ?_
            repeat (first | refine SE.then ?_ | refine SE.skip (by decide) ?_)
            refine SE.here ?_
            refine SN.then ?_
            refine SW.seq ?_
            refine SW.region ?_
            refine SWl.rd rfl (Rd.assign rfl) ?_
            refine SWl.nil ?_
            refine SN.then ?_
            refine SW.ret (fn := Try.f32) (fun _ _ h => h) (Rs.le (Rs.one rfl (ResV.tmp rfl)) ?_)
            exact le_v (formT_good hal hge hb18 hb22)
  · have h0 : ds = [] := List.eq_nil_of_length_eq_zero (by have := of_decide_eq_false hb9; omega)
    refine SWl.off rfl rfl (hb9) rfl rfl ?_
    refine SWl.off rfl rfl (hb9) rfl rfl ?_
    refine SWl.off rfl rfl (hb9) rfl rfl ?_
    refine SWl.rd rfl (Rd.pickN rfl (hb9) rfl) ?_
    refine SWl.nil ?_
    refine SN.then ?_
    refine SW.condF rfl (rfl) ?_
    refine SW.skip ?_
    refine SN.then ?_
    refine SW.seq ?_
    refine SW.seq ?_
    refine SW.region ?_
    refine SWl.rd rfl (Rd.move rfl) ?_
    refine SWl.rd rfl (Rd.eqs  rfl rfl) ?_
    refine SWl.rd rfl (Rd.move rfl) ?_
    refine SWl.split 18 rfl (fun hb18 => ?_) (fun hb18 => ?_)
    · skip
      refine SWl.off rfl rfl (hb18) rfl rfl ?_
      refine SWl.off rfl rfl (hb18) rfl rfl ?_
      refine SWl.off rfl rfl (hb18) rfl rfl ?_
      refine SWl.rd rfl (Rd.pickY rfl (hb18) rfl) ?_
      refine SWl.nil ?_
      refine SN.then ?_
      refine SW.condT rfl (rfl) ?_
      refine SW.seq ?_
      refine SW.region ?_
      refine SWl.rd rfl (Rd.assign rfl) ?_
      refine SWl.nil ?_
      refine SN.then ?_
      refine SW.ret (fn := Try.f32) (fun _ _ h => h) (Rs.le (Rs.one rfl (ResV.tmp rfl)) ?_)
      exact le_v (formT_nil hb18)
    · skip
      refine SWl.rdg rfl rfl (hb18) rfl rfl (Rd.move rfl) ?_
      refine SWl.rdg rfl rfl (hb18) rfl rfl (Rd.sidx rfl rfl (by kernel_rfl) (by decide) (ds_zero hb18)) ?_
      refine SWl.rdg rfl rfl (hb18) rfl rfl (Rd.eqi rfl rfl) ?_
      refine SWl.rd rfl (Rd.pickN rfl (hb18) rfl) ?_
      refine SWl.nil ?_
      refine SN.then ?_
      refine SW.cond rfl (fun hb22 => ?_) (fun hb22 => ?_)
      · skip
        refine SW.seq ?_
        refine SW.region ?_
        refine SWl.rd rfl (Rd.assign rfl) ?_
        refine SWl.nil ?_
        refine SN.then ?_
        refine SW.ret (fn := Try.f32) (fun _ _ h => h) (Rs.le (Rs.one rfl (ResV.tmp rfl)) ?_)
        exact le_v (formT_lead hb22)
      · skip
        refine SW.skip ?_
        refine SN.then ?_
        refine SW.seq ?_
        refine SW.seq ?_
        refine SW.region ?_
        refine SWl.rd rfl (Rd.assign rfl) ?_
        refine SWl.nil ?_
        refine SN.then ?_
        refine SW.block ?_
        refine SW.loop (ι := {k : Nat // k ≤ ds.length ∧ (ds.take k).all digB = true}) (fun ⟨k, hk, hal⟩ => St.of [(0, strD ds), (3, errD (k : Int))] []) (fun ⟨k, hk, hal⟩ => ds.length - k) (⟨0, Nat.zero_le _, by simp⟩) ?_ ?_
        · exact ⟨⟨_, rfl, ⟨⟨_, rfl, Le.refl _⟩, ⟨⟨_, rfl, Le.refl _⟩, trivial⟩⟩⟩, [], by decide, trivial⟩
        · rintro ⟨k, hk, hal⟩ K0 hK0
          refine SW.seq ?_
          refine SW.seq ?_
          refine SW.region ?_
          refine SWl.rd rfl (Rd.move rfl) ?_
          refine SWl.rd rfl (Rd.move rfl) ?_
          refine SWl.rd rfl (Rd.lenb rfl (by kernel_rfl)) ?_
          refine SWl.rd rfl (Rd.lss rfl rfl) ?_
          refine SWl.nil ?_
          refine SN.then ?_
          refine SW.cond rfl (fun hb26 => ?_) (fun hb26 => ?_)
          · obtain ⟨c, hc⟩ := at_k (ds := ds) (k := k) (by have := of_decide_eq_true hb26; omega)
            refine SW.skip ?_
            refine SN.then ?_
            refine SW.seq ?_
            refine SW.block ?_
            refine SW.seq ?_
            refine SW.region ?_
            refine SWl.rd rfl (Rd.move rfl) ?_
            refine SWl.rd rfl (Rd.move rfl) ?_
            refine SWl.rd rfl (Rd.sidx rfl rfl (by kernel_rfl) (by omega) (by rw [Int.toNat_natCast]; exact hc)) ?_
            refine SWl.rd rfl (Rd.lss rfl rfl) ?_
            refine SWl.rd rfl (Rd.move rfl) ?_
            refine SWl.split 33 rfl (fun hb33 => ?_) (fun hb33 => ?_)
            · skip
              refine SWl.off rfl rfl (hb33) rfl rfl ?_
              refine SWl.off rfl rfl (hb33) rfl rfl ?_
              refine SWl.off rfl rfl (hb33) rfl rfl ?_
              refine SWl.off rfl rfl (hb33) rfl rfl ?_
              refine SWl.rd rfl (Rd.pickY rfl (hb33) rfl) ?_
              refine SWl.nil ?_
              refine SN.then ?_
              refine SW.condT rfl (rfl) ?_
              refine SW.seq ?_
              refine SW.region ?_
              refine SWl.rd rfl (Rd.assign rfl) ?_
              refine SWl.nil ?_
              refine SN.then ?_
              refine SW.ret (fn := Try.f32) (fun _ _ h => h) (Rs.le (Rs.one rfl (ResV.tmp rfl)) ?_)
              exact le_v (formT_bad hc (by have := of_decide_eq_true hb33; omega))
            · skip
              refine SWl.rdg rfl rfl (hb33) rfl rfl (Rd.move rfl) ?_
              refine SWl.rdg rfl rfl (hb33) rfl rfl (Rd.move rfl) ?_
              refine SWl.rdg rfl rfl (hb33) rfl rfl (Rd.sidx rfl rfl (by kernel_rfl) (by omega) (by rw [Int.toNat_natCast]; exact hc)) ?_
              refine SWl.rdg rfl rfl (hb33) rfl rfl (Rd.gtr rfl rfl) ?_
              refine SWl.rd rfl (Rd.pickN rfl (hb33) rfl) ?_
              refine SWl.nil ?_
              refine SN.then ?_
              refine SW.cond rfl (fun hb38 => ?_) (fun hb38 => ?_)
              · skip
                refine SW.seq ?_
                refine SW.region ?_
                refine SWl.rd rfl (Rd.assign rfl) ?_
                refine SWl.nil ?_
                refine SN.then ?_
                refine SW.ret (fn := Try.f32) (fun _ _ h => h) (Rs.le (Rs.one rfl (ResV.tmp rfl)) ?_)
                exact le_v (formT_bad hc (by have := of_decide_eq_true hb38; omega))
              · skip
                refine SW.skip ?_
                refine SN.block ?_
                refine SN.then ?_
                refine SW.region ?_
                refine SWl.rd rfl (Rd.move rfl) ?_
                refine SWl.rd rfl (Rd.add rfl rfl ⟨by omega, by omega⟩) ?_
                refine SWl.rd rfl (Rd.assign rfl) ?_
                refine SWl.nil ?_
                exact fun a w hh => hK0 (⟨k + 1, (List.getElem?_eq_some_iff.1 hc).1, all_dig hc hal hb33 hb38⟩) (by show ds.length - (k + 1) < ds.length - k; have := (List.getElem?_eq_some_iff.1 hc).1; omega) a w (hh.sub (⟨⟨_, rfl, ⟨⟨_, rfl, Le.refl _⟩, ⟨⟨_, rfl, le_err (by omega)⟩, trivial⟩⟩⟩, [], by decide, trivial⟩))
          · have hge : ¬ (k : Int) < (ds.length : Int) := of_decide_eq_false hb26
            refine SW.exit' ?_
            repeat (first | refine SE.then ?_ | refine SE.skip (by decide) ?_)
            refine SE.here ?_
            refine SN.then ?_
            refine SW.seq ?_
            refine SW.region ?_
            refine SWl.rd rfl (Rd.assign rfl) ?_
            refine SWl.nil ?_
            refine SN.then ?_
            refine SW.ret (fn := Try.f32) (fun _ _ h => h) (Rs.le (Rs.one rfl (ResV.tmp rfl)) ?_)
            exact le_v (formT_good hal hge hb18 hb22)
end Sx
end Go.Proofs.Ytddfphneidcibaa
namespace Go.Proofs.Ytddfphneidcibaa
open Go.RowKit
open Nm (W32)
namespace Sx
/-- What Read makes of a decimal form. -/
def rdV (b : List UInt8) : Nat := decV (b.filter (· ≠ 45))
def readZ (b : List UInt8) : Int := sgn (decide (((b.getD 0 0).toNat : Int) = 45)) (rdV b)
theorem rdV_next {b : List UInt8} {k : Nat} {c : UInt8} (hc : b[k]? = some c) (h : c ≠ 45) : rdV (b.take (k + 1)) = rdV (b.take k) * 10 + (c.toNat - 48) := by
  have hlt : k < b.length := (List.getElem?_eq_some_iff.1 hc).1
  have hg : b[k] = c := (List.getElem?_eq_some_iff.1 hc).2
  unfold rdV
  rw [List.take_succ_eq_append_getElem hlt, List.filter_append, hg]
  have : [c].filter (· ≠ 45) = [c] := by simp [h]
  rw [this, decV_snoc]
theorem rdV_skip {b : List UInt8} {k : Nat} {c : UInt8} (hc : b[k]? = some c) (h : c = 45) : rdV (b.take (k + 1)) = rdV (b.take k) := by
  have hlt : k < b.length := (List.getElem?_eq_some_iff.1 hc).1
  have hg : b[k] = c := (List.getElem?_eq_some_iff.1 hc).2
  unfold rdV
  rw [List.take_succ_eq_append_getElem hlt, List.filter_append, hg]
  have : [c].filter (· ≠ 45) = [] := by simp [h]
  rw [this, List.append_nil]
theorem rdV_lt {b : List UInt8} (hb : b.length ≤ 400) (hd : ∀ c ∈ b, c = 45 ∨ (48 ≤ c.toNat ∧ c.toNat ≤ 57)) (k : Nat) : rdV (b.take k) < 10 ^ (2 * e2) := by
  unfold rdV
  have h1 := decV_lt ((b.take k).filter (· ≠ 45)) fun c hc => by
    have h2 := List.mem_filter.1 hc
    rcases hd c (List.mem_of_mem_take h2.1) with h | h
    · simp [h] at h2
    · exact h.2
  refine Nat.lt_of_lt_of_le h1 (Nat.pow_le_pow_right (by decide) ?_)
  have he : 2 * e2 = 400 := rfl
  have h3 := List.length_filter_le (· ≠ 45) (b.take k)
  have h4 := List.length_take_le k b
  have h5 : (b.take k).length ≤ b.length := by rw [List.length_take]; omega
  omega
theorem ten_lt : (10 : Nat) ^ (2 * e2) < 256 ^ e2 := by
  rw [Nat.pow_mul]
  exact Nat.pow_lt_pow_left (by decide) (by decide)
theorem rdV_b2 {b : List UInt8} (hb : b.length ≤ 400) (hd : ∀ c ∈ b, c = 45 ∨ (48 ≤ c.toNat ∧ c.toNat ≤ 57)) (k : Nat) : rdV (b.take k) < b2 := Nat.lt_trans (rdV_lt hb hd k) ten_lt
theorem b2_ten : 10 < b2 := by
  unfold b2
  exact Nat.lt_of_lt_of_le (show 10 < 256 ^ 1 by decide) (Nat.pow_le_pow_right (by decide) (by decide))
set_option maxHeartbeats 4000000 in
set_option maxRecDepth 100000 in
theorem con_readR {b : List UInt8} (hb : b.length ≤ 400) (hd : ∀ c ∈ b, c = 45 ∨ (48 ≤ c.toNat ∧ c.toNat ≤ 57)) (hne : b ≠ []) : Con Try.prog 34 [strD b] (intD (readZ b)) := by
  have hR := fun k => rdV_b2 hb hd k
  have hR4 := fun k => b24 (hR k)
  have h104 := b24 b2_ten
  have h0 : decide (b = []) = false := decide_eq_false hne
  refine con_of Try.func34 (by kernel_rfl) rfl (by kernel_rfl) fun base w0 => ?_
  refine SW.seq ?_
  refine SW.region ?_
  refine SWl.ef (S := []) (Ef.alloc (zs := [.bool false, .slice none 0 0]) (by kernel_rfl) rfl) ?_
  rintro _ ⟨g2, rfl⟩
  refine SWl.nil ?_
  refine SN.then ?_
  refine SW.seq ?_
  refine SW.region ?_
  refine SWl.rd rfl (Rd.move rfl) ?_
  refine SWl.rd rfl (Rd.sidx rfl rfl (by kernel_rfl) (by decide) (ds_zero h0)) ?_
  refine SWl.rd rfl (Rd.eqi rfl rfl) ?_
  refine SWl.rd rfl (Rd.assign rfl) ?_
  refine SWl.nil ?_
  refine SN.then ?_
  refine SW.seq ?_
  refine SW.region ?_
  refine SWl.rd rfl (Rd.assign rfl) ?_
  refine SWl.nil ?_
  refine SN.then ?_
  refine SW.seq ?_
  refine SW.seq ?_
  refine SW.region ?_
  refine SWl.rd rfl (Rd.assign rfl) ?_
  refine SWl.nil ?_
  refine SN.then ?_
  refine SW.block ?_
  refine SW.loop (ι := {k : Nat // k ≤ b.length}) (fun ⟨k, hk⟩ => St.of [(2, isD (.pointer (some ⟨g2, 0, none⟩))), (0, strD b), (3, boolD (decide (((b.getD 0 0).toNat : Int) = 45))), (4, litD (rdV (b.take (k)))), (5, errD (k : Int))] [(g2, [isD (.bool false), isD (.slice none 0 0)])]) (fun ⟨k, hk⟩ => b.length - k) (⟨0, Nat.zero_le _⟩) ?_ ?_
  · exact ⟨⟨_, rfl, ⟨⟨_, rfl, Le.refl _⟩, ⟨⟨_, rfl, Le.refl _⟩, ⟨⟨_, rfl, Le.refl _⟩, ⟨⟨_, rfl, (by rw [List.take_zero]; exact le_nil_lit)⟩, ⟨⟨_, rfl, Le.refl _⟩, trivial⟩⟩⟩⟩⟩⟩, [0], by decide, ⟨⟨_, rfl, LeAll.refl _⟩, trivial⟩⟩
  · rintro ⟨k, hk⟩ K0 hK0
    refine SW.seq ?_
    refine SW.seq ?_
    refine SW.region ?_
    refine SWl.rd rfl (Rd.move rfl) ?_
    refine SWl.rd rfl (Rd.move rfl) ?_
    refine SWl.rd rfl (Rd.lenb rfl (by kernel_rfl)) ?_
    refine SWl.rd rfl (Rd.lss rfl rfl) ?_
    refine SWl.nil ?_
    refine SN.then ?_
    refine SW.cond rfl (fun hb12 => ?_) (fun hb12 => ?_)
    · obtain ⟨c, hc⟩ := at_k (ds := b) (k := k) (by have := of_decide_eq_true hb12; omega)
      refine SW.skip ?_
      refine SN.then ?_
      refine SW.seq ?_
      refine SW.block ?_
      refine SW.seq ?_
      refine SW.seq ?_
      refine SW.region ?_
      refine SWl.rd rfl (Rd.move rfl) ?_
      refine SWl.rd rfl (Rd.move rfl) ?_
      refine SWl.rd rfl (Rd.sidx rfl rfl (by kernel_rfl) (by omega) (by rw [Int.toNat_natCast]; exact hc)) ?_
      refine SWl.rd rfl (Rd.eqi rfl rfl) ?_
      refine SWl.nil ?_
      refine SN.then ?_
      refine SW.cond rfl (fun hb18 => ?_) (fun hb18 => ?_)
      · have h45 : c = 45 := UInt8.toNat_inj.1 (Int.ofNat_inj.1 (of_decide_eq_true hb18))
        refine SW.exit' ?_
        repeat (first | refine SE.then ?_ | refine SE.skip (by decide) ?_)
        refine SE.here ?_
        refine SN.then ?_
        refine SW.region ?_
        refine SWl.rd rfl (Rd.move rfl) ?_
        refine SWl.rd rfl (Rd.add rfl rfl ⟨by omega, by omega⟩) ?_
        refine SWl.rd rfl (Rd.assign rfl) ?_
        refine SWl.nil ?_
        exact fun a w hh => hK0 (⟨k + 1, (List.getElem?_eq_some_iff.1 hc).1⟩) (by show b.length - (k + 1) < b.length - k; have := (List.getElem?_eq_some_iff.1 hc).1; omega) a w (hh.sub (⟨⟨_, rfl, ⟨⟨_, rfl, Le.refl _⟩, ⟨⟨_, rfl, Le.refl _⟩, ⟨⟨_, rfl, Le.refl _⟩, ⟨⟨_, rfl, le_lit (rdV_skip hc h45).symm⟩, ⟨⟨_, rfl, le_err (by omega)⟩, trivial⟩⟩⟩⟩⟩⟩, [0], by decide, ⟨⟨_, rfl, LeAll.refl _⟩, trivial⟩⟩))
      · have h45 : c ≠ 45 := fun h => of_decide_eq_false hb18 (by rw [h]; rfl); have hdg := (hd c (List.mem_of_getElem? hc)).resolve_left h45; have hX1 := hR k; have hY1 : c.toNat - 48 < b2 := Nat.lt_trans (by omega) b2_ten; have hXY := b4_mul hX1 b2_ten
        refine SW.skip ?_
        refine SN.then ?_
        refine SW.meet (fun σ => σ = St.of [(2, isD (.pointer (some ⟨g2, 0, none⟩))), (0, strD b), (3, boolD (decide (((b.getD 0 0).toNat : Int) = 45))), (4, litD (rdV (b.take (k + 1)))), (5, errD (k : Int))] [(g2, [isD (.bool false), isD (.slice none 0 0)])]) ?_ ?_
        · refine SW.draw [] (.r 0 (.r 3 (.r 4 (.r 5 (.r 6 (.n 1 (.n 2 (.n 7 (.n 8 (.n 9 (.r 10 .fin) .no) .no) .no) (.n 7 (.n 2 (.n 8 (.n 9 (.r 10 .fin) .no) .no) .no) .no)) (.n 7 (.n 1 (.n 2 (.n 8 (.n 9 (.r 10 .fin) .no) .no) .no) .no) .no))))))) (by kernel_rfl) (by kernel_rfl) (fun d _ _ _ _ h => by cases d <;> exact h) ?_
          refine SWz.rd (i := 0) rfl rfl (Rd.move rfl) ?_
          refine SWz.rd (i := 3) rfl rfl (Rd.move rfl) ?_
          refine SWz.rd (i := 4) rfl rfl (Rd.move rfl) ?_
          refine SWz.rd (i := 5) rfl rfl (Rd.sidx rfl rfl (by kernel_rfl) (by omega) (by rw [Int.toNat_natCast]; exact hc)) ?_
          refine SWz.rd (i := 6) rfl rfl (Rd.subW rfl rfl (r := ((c.toNat - 48 : Nat) : Int)) (by rw [wrap_u8 (by omega) (by omega)]; omega)) ?_
          refine SWz.efn (i := 1) rfl (Ef.lit1 (e := 5) rfl rfl (by kernel_rfl) (by kernel_rfl) rfl) ?_ ?_
          · rintro _ rfl
            refine SWz.efn (i := 2) rfl (Ef.call (con_timesR (X := rdV (b.take (k))) (Y := 10) (hR4 k) h104) rfl ⟨Le.refl _, le_lit1 (d := 10) (by decide) (by decide), trivial⟩ rfl) ?_ ?_
            · rintro _ rfl
              refine SWz.efn (i := 7) rfl (Ef.lit1 (e := 5) rfl rfl (by kernel_rfl) (by kernel_rfl) rfl) ?_ SWz.no
              rintro _ rfl
              refine SWz.efn (i := 8) rfl (Ef.call (con_trimR (n := 1) (X := c.toNat - 48) (by decide) (by omega)) rfl ⟨le_pad1 (by omega), trivial⟩ rfl) ?_ SWz.no
              rintro _ rfl
              refine SWz.efn (i := 9) rfl (Ef.call (con_plusR (X := rdV (b.take (k)) * 10) (Y := c.toNat - 48) hXY (b24 hY1)) rfl ⟨Le.refl _, Le.refl _, trivial⟩ rfl) ?_ SWz.no
              rintro _ rfl
              refine SWz.rd (i := 10) rfl rfl (Rd.assign rfl) ?_
              refine SWz.nil ?_
              exact SN.meet rfl (⟨⟨_, rfl, ⟨⟨_, rfl, Le.refl _⟩, ⟨⟨_, rfl, Le.refl _⟩, ⟨⟨_, rfl, Le.refl _⟩, ⟨⟨_, rfl, le_lit (rdV_next hc h45).symm⟩, ⟨⟨_, rfl, Le.refl _⟩, trivial⟩⟩⟩⟩⟩⟩, [0], by decide, ⟨⟨_, rfl, LeAll.refl _⟩, trivial⟩⟩)
            refine SWz.efn (i := 7) rfl (Ef.lit1 (e := 5) rfl rfl (by kernel_rfl) (by kernel_rfl) rfl) ?_ SWz.no
            rintro _ rfl
            refine SWz.efn (i := 2) rfl (Ef.call (con_timesR (X := rdV (b.take (k))) (Y := 10) (hR4 k) h104) rfl ⟨Le.refl _, le_lit1 (d := 10) (by decide) (by decide), trivial⟩ rfl) ?_ SWz.no
            rintro _ rfl
            refine SWz.efn (i := 8) rfl (Ef.call (con_trimR (n := 1) (X := c.toNat - 48) (by decide) (by omega)) rfl ⟨le_pad1 (by omega), trivial⟩ rfl) ?_ SWz.no
            rintro _ rfl
            refine SWz.efn (i := 9) rfl (Ef.call (con_plusR (X := rdV (b.take (k)) * 10) (Y := c.toNat - 48) hXY (b24 hY1)) rfl ⟨Le.refl _, Le.refl _, trivial⟩ rfl) ?_ SWz.no
            rintro _ rfl
            refine SWz.rd (i := 10) rfl rfl (Rd.assign rfl) ?_
            refine SWz.nil ?_
            exact SN.meet rfl (⟨⟨_, rfl, ⟨⟨_, rfl, Le.refl _⟩, ⟨⟨_, rfl, Le.refl _⟩, ⟨⟨_, rfl, Le.refl _⟩, ⟨⟨_, rfl, le_lit (rdV_next hc h45).symm⟩, ⟨⟨_, rfl, Le.refl _⟩, trivial⟩⟩⟩⟩⟩⟩, [0], by decide, ⟨⟨_, rfl, LeAll.refl _⟩, trivial⟩⟩)
          refine SWz.efn (i := 7) rfl (Ef.lit1 (e := 5) rfl rfl (by kernel_rfl) (by kernel_rfl) rfl) ?_ SWz.no
          rintro _ rfl
          refine SWz.efn (i := 1) rfl (Ef.lit1 (e := 5) rfl rfl (by kernel_rfl) (by kernel_rfl) rfl) ?_ SWz.no
          rintro _ rfl
          refine SWz.efn (i := 2) rfl (Ef.call (con_timesR (X := rdV (b.take (k))) (Y := 10) (hR4 k) h104) rfl ⟨Le.refl _, le_lit1 (d := 10) (by decide) (by decide), trivial⟩ rfl) ?_ SWz.no
          rintro _ rfl
          refine SWz.efn (i := 8) rfl (Ef.call (con_trimR (n := 1) (X := c.toNat - 48) (by decide) (by omega)) rfl ⟨le_pad1 (by omega), trivial⟩ rfl) ?_ SWz.no
          rintro _ rfl
          refine SWz.efn (i := 9) rfl (Ef.call (con_plusR (X := rdV (b.take (k)) * 10) (Y := c.toNat - 48) hXY (b24 hY1)) rfl ⟨Le.refl _, Le.refl _, trivial⟩ rfl) ?_ SWz.no
          rintro _ rfl
          refine SWz.rd (i := 10) rfl rfl (Rd.assign rfl) ?_
          refine SWz.nil ?_
          exact SN.meet rfl (⟨⟨_, rfl, ⟨⟨_, rfl, Le.refl _⟩, ⟨⟨_, rfl, Le.refl _⟩, ⟨⟨_, rfl, Le.refl _⟩, ⟨⟨_, rfl, le_lit (rdV_next hc h45).symm⟩, ⟨⟨_, rfl, Le.refl _⟩, trivial⟩⟩⟩⟩⟩⟩, [0], by decide, ⟨⟨_, rfl, LeAll.refl _⟩, trivial⟩⟩)
        · rintro _ rfl
          refine SN.block ?_
          refine SN.then ?_
          refine SW.region ?_
          refine SWl.rd rfl (Rd.move rfl) ?_
          refine SWl.rd rfl (Rd.add rfl rfl ⟨by omega, by omega⟩) ?_
          refine SWl.rd rfl (Rd.assign rfl) ?_
          refine SWl.nil ?_
          exact fun a w hh => hK0 (⟨k + 1, (List.getElem?_eq_some_iff.1 hc).1⟩) (by show b.length - (k + 1) < b.length - k; have := (List.getElem?_eq_some_iff.1 hc).1; omega) a w (hh.sub (⟨⟨_, rfl, ⟨⟨_, rfl, Le.refl _⟩, ⟨⟨_, rfl, Le.refl _⟩, ⟨⟨_, rfl, Le.refl _⟩, ⟨⟨_, rfl, Le.refl _⟩, ⟨⟨_, rfl, le_err (by omega)⟩, trivial⟩⟩⟩⟩⟩⟩, [0], by decide, ⟨⟨_, rfl, LeAll.refl _⟩, trivial⟩⟩))
    · obtain rfl : k = b.length := by have := of_decide_eq_false hb12; omega
      refine SW.exit' ?_
      repeat (first | refine SE.then ?_ | refine SE.skip (by decide) ?_)
      refine SE.here ?_
      refine SN.then ?_
      refine SW.seq ?_
      refine SW.region ?_
      refine SWl.rd rfl (Rd.move rfl) ?_
      refine SWl.rd rfl (Rd.move rfl) ?_
      refine SWl.ef (S := []) (Ef.call (con_makeR _ (hR4 _)) rfl ⟨Le.refl _, Le.refl _, trivial⟩ rfl) ?_
      rintro _ rfl
      refine SWl.ef (S := [_]) (Ef.storeA 0 rfl rfl rfl (by kernel_rfl) rfl (List.mem_singleton.2 rfl)) ?_
      rintro _ rfl
      refine SWl.nil ?_
      refine SN.then ?_
      refine SW.ret (fn := Try.f34) (fun _ _ h => h) (Rs.le (Rs.one rfl (ResV.cellA 0 rfl rfl (by kernel_rfl))) ?_)
      exact le_int (by rw [List.take_length]; rfl)
theorem cut_form {b ds : List UInt8} {neg : Bool} (hc : Cut b ds neg) (hd : isDec ds = true) (hn0 : ¬ (neg = true ∧ ds = [48])) : (∀ c ∈ b, c = 45 ∨ (48 ≤ c.toNat ∧ c.toNat ≤ 57)) ∧ readZ b = sgn neg (decV ds) ∧ b ≠ [] := by
  have hdig := isDec_dig hd
  have hne : ds ≠ [] := by intro h; subst h; simp [isDec] at hd
  have hf : ds.filter (· ≠ 45) = ds := by
    rw [List.filter_eq_self]
    intro c hc
    have := hdig c hc
    simp
    intro h
    subst h
    simp at this
  rcases hc with ⟨rfl, rfl⟩ | ⟨rfl, rfl, h45⟩
  · refine ⟨fun c hc => ?_, ?_, by simp⟩
    · rcases List.mem_cons.1 hc with h | h
      · exact .inl h
      · exact .inr (hdig c h)
    · unfold readZ rdV
      have : (45 :: ds).filter (· ≠ 45) = ds := by rw [List.filter_cons]; simpa using hf
      rw [this]
      rfl
  · refine ⟨fun c hc => .inr (hdig c hc), ?_, hne⟩
    unfold readZ rdV
    rw [hf]
    have h0 : decide (b = []) = false := decide_eq_false hne
    rw [decide_eq_false (lead45 h45 h0)]
theorem con_parseBad {b ds : List UInt8} {neg : Bool} (hc : Cut b ds neg) (hb : b.length ≤ 1000) (h : isDec ds = false ∨ (neg = true ∧ ds = [48])) : Con Try.prog 29 [strD b] (tupD [intD 0, errD 6]) :=
  con_v_RI (enters_of Try.func29 (by kernel_rfl) rfl) fun w => parse_bad w b ds neg hc hb h
theorem con_parseLong {b ds : List UInt8} {neg : Bool} (hc : Cut b ds neg) (hb : b.length ≤ 1000) (hd : isDec ds = true) (hl : 155 < ds.length) : Con Try.prog 29 [strD b] (tupD [intD 0, errD 7]) :=
  con_v_RI (enters_of Try.func29 (by kernel_rfl) rfl) fun w => parse_long w b ds neg hc hb hd hl
theorem con_parseGood {b ds : List UInt8} {neg : Bool} (hc : Cut b ds neg) (hb : b.length ≤ 1000) (hd : isDec ds = true) (hn0 : ¬ (neg = true ∧ ds = [48])) (hl : ds.length ≤ 155) : Con Try.prog 29 [strD b] (tupD [intD (limZ (sgn neg (decV ds))), errD (limE (sgn neg (decV ds)))]) :=
  con_v_RI (enters_of Try.func29 (by kernel_rfl) rfl) fun w => parse_good w b ds neg hc hb hd hn0 hl
/-- Which strings are decimal forms. -/
def goodB (ds : List UInt8) (neg : Bool) : Bool := isDec ds && !(neg && decide (ds = [48]))
theorem form_dec {ds : List UInt8} (h48 : ds ≠ [48]) : formT ds = isDec ds := by
  unfold formT isDec
  have e : ds.all digB = ds.all fun c => decide (48 ≤ c.toNat) && decide (c.toNat ≤ 57) := by
    congr 1
    funext c
    unfold digB
    rw [Bool.eq_iff_iff]
    simp
  rw [e]
  cases ds with
  | nil => rfl
  | cons c t =>
    have e2 : decide ((c :: t).getD 0 0 = 48) = decide (((c :: t).getD 0 0).toNat = 48) := by
      rw [Bool.eq_iff_iff]
      simp only [decide_eq_true_eq]
      constructor
      · intro h; rw [h]; rfl
      · intro h; exact UInt8.toNat_inj.1 h
    rw [e2]
    cases t with
    | nil =>
      by_cases h : ((c :: []).getD 0 0).toNat = 48
      · have : c = 48 := UInt8.toNat_inj.1 (by simpa using h)
        exact absurd (by rw [this]) h48
      · simp at h; simp [h]
    | cons c' t' => simp
theorem con_formR {b ds : List UInt8} {neg : Bool} (hc : Cut b ds neg) (hb : b.length ≤ 1000) : Con Try.prog 32 [strD b] (boolD (goodB ds neg)) := by
  rcases hc with ⟨rfl, rfl⟩ | ⟨rfl, rfl, h45⟩
  · refine (form_neg (ds := ds) (by simp at hb; omega)).mono (LeAll.refl _) (le_v ?_)
    unfold goodB
    by_cases h48 : ds = [48]
    · subst h48; rfl
    · rw [form_dec h48, decide_eq_false h48, Bool.and_false, Bool.not_false, Bool.and_true]
  · by_cases h48 : b = [48]
    · refine (form_zero h48).mono (LeAll.refl _) (le_v ?_)
      subst h48
      rfl
    · refine (form_pos (by omega) h48 h45).mono (LeAll.refl _) (le_v ?_)
      unfold goodB
      rw [form_dec h48, Bool.false_and, Bool.not_false, Bool.and_true]
theorem goodB_out {ds : List UInt8} {neg : Bool} (h : goodB ds neg = true) : isDec ds = true ∧ ¬ (neg = true ∧ ds = [48]) := by
  unfold goodB at h
  simp only [Bool.and_eq_true, Bool.not_eq_true', Bool.and_eq_false_iff, decide_eq_false_iff_not] at h
  refine ⟨h.1, fun ⟨h1, h2⟩ => ?_⟩
  rcases h.2 with h3 | h3
  · rw [h1] at h3; cases h3
  · exact h3 h2
theorem goodB_no {ds : List UInt8} {neg : Bool} (h : goodB ds neg = false) : isDec ds = false ∨ (neg = true ∧ ds = [48]) := by
  unfold goodB at h
  cases hd : isDec ds
  · exact .inl rfl
  · rw [hd, Bool.true_and, Bool.not_eq_false'] at h
    simp only [Bool.and_eq_true, decide_eq_true_eq] at h
    exact .inr h
/-- A long decimal form is too large. -/
theorem long_lim {ds : List UInt8} {neg : Bool} (hd : isDec ds = true) (hl : 155 < ds.length) : limZ (sgn neg (decV ds)) = 0 ∧ limE (sgn neg (decV ds)) = 7 := by
  refine lim_no fun h => ?_
  rw [sgn_abs] at h
  have h1 : 10 ^ 155 ≤ decV ds := by
    cases ds with
    | nil => simp at hl
    | cons c t =>
      have hdig := isDec_dig hd
      have hc := hdig c (by simp)
      have hne : c.toNat ≠ 48 := by
        intro h48
        have := isDec_lead (b := c :: t) (by simpa using h48) (by simp at hl ⊢; omega)
        rw [this] at hd
        cases hd
      have key : ∀ (l : List UInt8) (a : Nat), a * 10 ^ l.length ≤ l.foldl (fun a c => a * 10 + (c.toNat - 48)) a := by
        intro l
        induction l with
        | nil => intro a; simp
        | cons d l ih =>
          intro a
          simp only [List.foldl_cons, List.length_cons]
          refine Nat.le_trans ?_ (ih (a * 10 + (d.toNat - 48)))
          rw [Nat.pow_succ, Nat.mul_comm (10 ^ l.length) 10, ← Nat.mul_assoc]
          exact Nat.mul_le_mul_right _ (by omega)
      have h2 := key t (0 * 10 + (c.toNat - 48))
      have h3 : 10 ^ 155 ≤ (0 * 10 + (c.toNat - 48)) * 10 ^ t.length := by
        have h4 : (10 : Nat) ^ 155 ≤ 10 ^ t.length := Nat.pow_le_pow_right (by decide) (by simp at hl; omega)
        have h5 : 1 * 10 ^ t.length ≤ (0 * 10 + (c.toNat - 48)) * 10 ^ t.length := Nat.mul_le_mul_right _ (by omega)
        omega
      exact Nat.le_trans h3 h2
  have h2 : big512 ≤ 10 ^ 155 := by unfold big512; decide +kernel
  omega
end Sx
end Go.Proofs.Ytddfphneidcibaa
