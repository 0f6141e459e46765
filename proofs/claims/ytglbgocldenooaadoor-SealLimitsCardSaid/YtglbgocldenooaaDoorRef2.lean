/-
  THE WALKS of the reference's Right and G.
-/
import Derived.Test.YtglbgocldenooaaDoorRef
namespace Go.Proofs.YtglbgocldenooaaDoor
open Go.RowKit

theorem or_rot' (x p q : Nat) (hx : x < 4294967296) : bits .or .u32 ((x : Int) / q) ((x : Int) * p % 4294967296) = ((x / q ||| x * p % 4294967296 : Nat) : Int) := by
  have h1 : x / q < 4294967296 := Nat.lt_of_le_of_lt (Nat.div_le_self _ _) hx
  have h2 : x * p % 4294967296 < 4294967296 := by omega
  have := u32_or_nat (x / q) (x * p % 4294967296) h1 h2
  rw [← this]
  simp

theorem right16 (x r : Nat) (hx : x < 4294967296) (hr : r = Bl.ror x 16) (w : World) :
    Calls Tryd.prog 52 #[.int .u32 x, .int .i64 16] w fun e w' => e = .returned (.int .u32 (r : Nat)) ∧ w' = w.drew := by
  have Hr := Lib.hid hr
  clear hr
  have w16 : IntKind.i64.wrap 16 = 16 := by decide
  go_enter Tryd.func52, Tryd.ntmps52
  go_wp2
  refine Ord.wp_tail 9 (by kernel_rfl) (by kernel_rfl) (fun d _ _ _ _ h => by cases d <;> exact h) ?_
  simp only [List.take_succ_cons, List.take_zero, List.drop_succ_cons, List.drop_zero]
  repeat still_step
  refine wpStill_nil ?_
  go_wp2
  go_ret
  exact ⟨congrArg (fun n => Ending.returned (.int .u32 n)) (by rw [IntKind.wrap_u32', Hr.out]; exact or_rot' x 65536 65536 hx), rfl⟩
theorem right12 (x r : Nat) (hx : x < 4294967296) (hr : r = Bl.ror x 12) (w : World) :
    Calls Tryd.prog 52 #[.int .u32 x, .int .i64 12] w fun e w' => e = .returned (.int .u32 (r : Nat)) ∧ w' = w.drew := by
  have Hr := Lib.hid hr
  clear hr
  have w16 : IntKind.i64.wrap 20 = 20 := by decide
  go_enter Tryd.func52, Tryd.ntmps52
  go_wp2
  refine Ord.wp_tail 9 (by kernel_rfl) (by kernel_rfl) (fun d _ _ _ _ h => by cases d <;> exact h) ?_
  simp only [List.take_succ_cons, List.take_zero, List.drop_succ_cons, List.drop_zero]
  repeat still_step
  refine wpStill_nil ?_
  go_wp2
  go_ret
  exact ⟨congrArg (fun n => Ending.returned (.int .u32 n)) (by rw [IntKind.wrap_u32', Hr.out]; exact or_rot' x 1048576 4096 hx), rfl⟩
theorem right8 (x r : Nat) (hx : x < 4294967296) (hr : r = Bl.ror x 8) (w : World) :
    Calls Tryd.prog 52 #[.int .u32 x, .int .i64 8] w fun e w' => e = .returned (.int .u32 (r : Nat)) ∧ w' = w.drew := by
  have Hr := Lib.hid hr
  clear hr
  have w16 : IntKind.i64.wrap 24 = 24 := by decide
  go_enter Tryd.func52, Tryd.ntmps52
  go_wp2
  refine Ord.wp_tail 9 (by kernel_rfl) (by kernel_rfl) (fun d _ _ _ _ h => by cases d <;> exact h) ?_
  simp only [List.take_succ_cons, List.take_zero, List.drop_succ_cons, List.drop_zero]
  repeat still_step
  refine wpStill_nil ?_
  go_wp2
  go_ret
  exact ⟨congrArg (fun n => Ending.returned (.int .u32 n)) (by rw [IntKind.wrap_u32', Hr.out]; exact or_rot' x 16777216 256 hx), rfl⟩
theorem right7 (x r : Nat) (hx : x < 4294967296) (hr : r = Bl.ror x 7) (w : World) :
    Calls Tryd.prog 52 #[.int .u32 x, .int .i64 7] w fun e w' => e = .returned (.int .u32 (r : Nat)) ∧ w' = w.drew := by
  have Hr := Lib.hid hr
  clear hr
  have w16 : IntKind.i64.wrap 25 = 25 := by decide
  go_enter Tryd.func52, Tryd.ntmps52
  go_wp2
  refine Ord.wp_tail 9 (by kernel_rfl) (by kernel_rfl) (fun d _ _ _ _ h => by cases d <;> exact h) ?_
  simp only [List.take_succ_cons, List.take_zero, List.drop_succ_cons, List.drop_zero]
  repeat still_step
  refine wpStill_nil ?_
  go_wp2
  go_ret
  exact ⟨congrArg (fun n => Ending.returned (.int .u32 n)) (by rw [IntKind.wrap_u32', Hr.out]; exact or_rot' x 33554432 128 hx), rfl⟩

theorem wset {ws : List Nat} {rest : List Value} {i n : Nat} (h : i < ws.length) : (wcells ws ++ rest).set i (.int .u32 (n : Int)) = wcells (ws.set i n) ++ rest := by
  rw [List.set_append_left _ _ (by simpa using h), wcells_set]

set_option maxHeartbeats 2000000 in
set_option maxRecDepth 100000 in
theorem g_walk (w : World) (gv gl : Nat) (cv : Nat) (ws : List Nat) (rest : List Value) (a b c d x y : Nat) (hw : Bl.Words 16 ws) (hv : Blk w gv 43 (wcells ws ++ rest)) (hl : Blk w gl 3 (icells [a, b, c, d])) (_hg : gl ≠ gv)
    (la : a < 16) (lb : b < 16) (lc : c < 16) (ld : d < 16) (ab : a ≠ b) (ac : a ≠ c) (ad : a ≠ d) (bc : b ≠ c) (bd : b ≠ d) (cd : c ≠ d) :
    Calls Tryd.prog 49 #[.slice (some ⟨gv, 0, none⟩) 16 cv, .slice (some ⟨gl, 0, none⟩) 4 4, .int .u32 x, .int .u32 y] w fun e w' =>
      e = .returned (.tuple #[]) ∧ Blk w' gv 43 (wcells (Bl.mixw ws a b c d x y) ++ rest) ∧ Only [gv] w w' := by
  have hget : ∀ i, i < 16 → (wcells ws ++ rest)[i]? = some (.int .u32 (ws.getD i 0 : Nat)) := fun i hi => by
    rw [List.getElem?_append_left (by simp [hw.1, hi])]; exact wcells_get (wget hw hi)
  obtain ⟨va, Hva⟩ : ∃ n, Hid (n = ws.getD a 0) := ⟨_, rfl⟩
  obtain ⟨vb, Hvb⟩ : ∃ n, Hid (n = ws.getD b 0) := ⟨_, rfl⟩
  obtain ⟨vc, Hvc⟩ : ∃ n, Hid (n = ws.getD c 0) := ⟨_, rfl⟩
  obtain ⟨vd, Hvd⟩ : ∃ n, Hid (n = ws.getD d 0) := ⟨_, rfl⟩
  have k0 : w.cell? ⟨gl, 0, none⟩ = some (.int .i64 (a : Int)) := hl.cellv rfl
  have k1 : w.cell? ⟨gl, 1, none⟩ = some (.int .i64 (b : Int)) := hl.cellv rfl
  have k2 : w.cell? ⟨gl, 2, none⟩ = some (.int .i64 (c : Int)) := hl.cellv rfl
  have k3 : w.cell? ⟨gl, 3, none⟩ = some (.int .i64 (d : Int)) := hl.cellv rfl
  have ca : w.cell? ⟨gv, a, none⟩ = some (.int .u32 (va : Int)) := by rw [Hva.out]; exact hv.cellv (hget a la)
  have cb : w.cell? ⟨gv, b, none⟩ = some (.int .u32 (vb : Int)) := by rw [Hvb.out]; exact hv.cellv (hget b lb)
  have cc : w.cell? ⟨gv, c, none⟩ = some (.int .u32 (vc : Int)) := by rw [Hvc.out]; exact hv.cellv (hget c lc)
  have cd' : w.cell? ⟨gv, d, none⟩ = some (.int .u32 (vd : Int)) := by rw [Hvd.out]; exact hv.cellv (hget d ld)
  have la' : (a : Int) < 16 := by omega
  have lb' : (b : Int) < 16 := by omega
  have lc' : (c : Int) < 16 := by omega
  have ld' : (d : Int) < 16 := by omega
  have Hget := Lib.hid hget
  clear hget
  go_enter Tryd.func49, Tryd.ntmps49
  refine wp_seq_k fun K hK => ?_
  refine Ord.wp_tail 28 (by kernel_rfl) (by kernel_rfl) (fun d _ _ _ _ h => by cases d <;> exact h) ?_
  simp only [List.take_succ_cons, List.take_zero, List.drop_succ_cons, List.drop_zero]
  repeat still_step
  refine wpStill_nil ?_
  have lva : va < 4294967296 := by rw [Hva.out]; exact hw.getD _
  have lvb : vb < 4294967296 := by rw [Hvb.out]; exact hw.getD _
  have lvc : vc < 4294967296 := by rw [Hvc.out]; exact hw.getD _
  have lvd : vd < 4294967296 := by rw [Hvd.out]; exact hw.getD _
  obtain ⟨a1, Ha1⟩ : ∃ n, Hid (n = Bl.add32 va (Bl.add32 vb x)) := ⟨_, rfl⟩
  have eA1 : (((va : Int) + vb) % 4294967296 + x) % 4294967296 = (a1 : Int) := by rw [Ha1.out]; simp [Bl.add32]; omega
  have eB1 : ((va : Int) + vb + x) % 4294967296 = (a1 : Int) := by rw [Ha1.out]; simp [Bl.add32]; omega
  have la1 : a1 < 4294967296 := by rw [Ha1.out]; exact Bl.add32_lt _ _
  obtain ⟨zd1, Hzd1⟩ : ∃ n, Hid (n = vd ^^^ a1) := ⟨_, rfl⟩
  have ezd1 : bits .xor .u32 (vd : Int) (a1 : Int) = (zd1 : Int) := by rw [Hzd1.out]; exact u32_xor_nat _ _ lvd la1
  have lzd1 : zd1 < 4294967296 := by rw [Hzd1.out]; exact Bl.xor_lt _ _ lvd la1
  obtain ⟨d1, Hd1⟩ : ∃ n, Hid (n = Bl.ror zd1 16) := ⟨_, rfl⟩
  have ld1 : d1 < 4294967296 := by rw [Hd1.out]; exact Bl.ror_lt _ _ lzd1
  go_wp2_with fail
  simp only [eA1]
  refine (right16 zd1 d1 lzd1 Hd1.out _).mono ?_
  rintro e w' ⟨rfl, rfl⟩
  obtain ⟨c1, Hc1⟩ : ∃ n, Hid (n = Bl.add32 vc d1) := ⟨_, rfl⟩
  have eC1 : ((vc : Int) + d1) % 4294967296 = (c1 : Int) := by rw [Hc1.out]; exact Bl.add_cast _ _
  have lc1 : c1 < 4294967296 := by rw [Hc1.out]; exact Bl.add32_lt _ _
  obtain ⟨zb1, Hzb1⟩ : ∃ n, Hid (n = vb ^^^ c1) := ⟨_, rfl⟩
  have ezb1 : bits .xor .u32 (vb : Int) (c1 : Int) = (zb1 : Int) := by rw [Hzb1.out]; exact u32_xor_nat _ _ lvb lc1
  have lzb1 : zb1 < 4294967296 := by rw [Hzb1.out]; exact Bl.xor_lt _ _ lvb lc1
  obtain ⟨b1, Hb1⟩ : ∃ n, Hid (n = Bl.ror zb1 12) := ⟨_, rfl⟩
  have lb1 : b1 < 4294967296 := by rw [Hb1.out]; exact Bl.ror_lt _ _ lzb1
  go_wp2_with fail
  simp only [eC1]
  refine (right12 zb1 b1 lzb1 Hb1.out _).mono ?_
  rintro e w' ⟨rfl, rfl⟩
  clear eA1 eB1 eC1 ezd1 ezb1
  obtain ⟨a2, Ha2⟩ : ∃ n, Hid (n = Bl.add32 a1 (Bl.add32 b1 y)) := ⟨_, rfl⟩
  have eA2 : (((a1 : Int) + b1) % 4294967296 + y) % 4294967296 = (a2 : Int) := by rw [Ha2.out]; simp [Bl.add32]; omega
  have eB2 : ((a1 : Int) + b1 + y) % 4294967296 = (a2 : Int) := by rw [Ha2.out]; simp [Bl.add32]; omega
  have la2 : a2 < 4294967296 := by rw [Ha2.out]; exact Bl.add32_lt _ _
  obtain ⟨zd2, Hzd2⟩ : ∃ n, Hid (n = d1 ^^^ a2) := ⟨_, rfl⟩
  have ezd2 : bits .xor .u32 (d1 : Int) (a2 : Int) = (zd2 : Int) := by rw [Hzd2.out]; exact u32_xor_nat _ _ ld1 la2
  have lzd2 : zd2 < 4294967296 := by rw [Hzd2.out]; exact Bl.xor_lt _ _ ld1 la2
  obtain ⟨d2, Hd2⟩ : ∃ n, Hid (n = Bl.ror zd2 8) := ⟨_, rfl⟩
  have ld2 : d2 < 4294967296 := by rw [Hd2.out]; exact Bl.ror_lt _ _ lzd2
  go_wp2_with fail
  simp only [eA2]
  refine (right8 zd2 d2 lzd2 Hd2.out _).mono ?_
  rintro e w' ⟨rfl, rfl⟩
  obtain ⟨c2, Hc2⟩ : ∃ n, Hid (n = Bl.add32 c1 d2) := ⟨_, rfl⟩
  have eC2 : ((c1 : Int) + d2) % 4294967296 = (c2 : Int) := by rw [Hc2.out]; exact Bl.add_cast _ _
  have lc2 : c2 < 4294967296 := by rw [Hc2.out]; exact Bl.add32_lt _ _
  obtain ⟨zb2, Hzb2⟩ : ∃ n, Hid (n = b1 ^^^ c2) := ⟨_, rfl⟩
  have ezb2 : bits .xor .u32 (b1 : Int) (c2 : Int) = (zb2 : Int) := by rw [Hzb2.out]; exact u32_xor_nat _ _ lb1 lc2
  have lzb2 : zb2 < 4294967296 := by rw [Hzb2.out]; exact Bl.xor_lt _ _ lb1 lc2
  obtain ⟨b2, Hb2⟩ : ∃ n, Hid (n = Bl.ror zb2 7) := ⟨_, rfl⟩
  have lb2 : b2 < 4294967296 := by rw [Hb2.out]; exact Bl.ror_lt _ _ lzb2
  go_wp2_with fail
  simp only [eC2]
  refine (right7 zb2 b2 lzb2 Hb2.out _).mono ?_
  rintro e w' ⟨rfl, rfl⟩
  clear eA2 eB2 eC2 ezd2 ezb2
  go_wp2_with fail
  have fz : ∀ i, w.frozen? ⟨gv, i, none⟩ = false := fun i => hv.frozen i
  refine Ord.wp_tail 20 (by kernel_rfl) (by kernel_rfl) (fun d _ _ _ _ h => by cases d <;> exact h) ?_
  simp only [List.take_succ_cons, List.take_zero, List.drop_succ_cons, List.drop_zero]
  repeat still_step
  refine wpStill_nil ?_
  go_wp2
  refine bodyPost_end (results_none rfl _ _ _) rfl ⟨rfl, ?_, ?_⟩
  · have e : Bl.mixw ws a b c d x y = (((ws.set a a2).set b b2).set c c2).set d d2 := by
      simp only [Bl.mixw, Bl.gmix, Bl.half, ← Hva.out, ← Hvb.out, ← Hvc.out, ← Hvd.out]
      rw [Hb2.out, Hzb2.out, Hc2.out, Hd2.out, Hzd2.out, Ha2.out, Hb1.out, Hzb1.out, Hc1.out, Hd1.out, Hzd1.out, Ha1.out]
    have hl := hw.1
    have h4 := (((hv.set a (.int .u32 (a2 : Int))).set b (.int .u32 (b2 : Int))).set c (.int .u32 (c2 : Int))).set d (.int .u32 (d2 : Int))
    rw [wset (by omega), wset (by simp; omega), wset (by simp; omega), wset (by simp; omega), ← e] at h4
    exact h4
  · have h5 := ((((Only.refl [gv] w).setCell (p := ⟨gv, a, none⟩) (.inl (by simp)) (.int .u32 (a2 : Int))).setCell (p := ⟨gv, b, none⟩) (.inl (by simp)) (.int .u32 (b2 : Int))).setCell (p := ⟨gv, c, none⟩) (.inl (by simp)) (.int .u32 (c2 : Int))).setCell (p := ⟨gv, d, none⟩) (.inl (by simp)) (.int .u32 (d2 : Int))
    exact ⟨h5.os, h5.tape, h5.output, h5.size, h5.block⟩
end Go.Proofs.YtglbgocldenooaaDoor
