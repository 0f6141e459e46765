/-
  THE WALKS of math/bits.RotateLeft32 (at the four counts that are used) and of blake.mix: what they compute is the plain function gmix.
-/
import Derived.Test.YtglbgocldenooaaDoorProg
import Derived.Test.YtglbgocldenooaaDoorMem
import Derived.Test.YtglbgocldenooaaDoorPlain
import Derived.WalkSpells
import Derived.WalkLawsBesides
import Derived.StillTailTactics
namespace Go.Proofs.YtglbgocldenooaaDoor
open Go.RowKit

theorem and31_16 : bits BinOp.and IntKind.u64 (IntKind.u64.wrap (-16)) 31 = 16 := by decide +kernel
theorem and31_12 : bits BinOp.and IntKind.u64 (IntKind.u64.wrap (-12)) 31 = 20 := by decide +kernel
theorem and31_8 : bits BinOp.and IntKind.u64 (IntKind.u64.wrap (-8)) 31 = 24 := by decide +kernel
theorem and31_7 : bits BinOp.and IntKind.u64 (IntKind.u64.wrap (-7)) 31 = 25 := by decide +kernel

theorem rot16 (x : Nat) (hx : x < 4294967296) (w : World) :
    Calls Tryd.prog 54 #[.int .u32 x, .int .i64 (-16)] w fun e w' => e = .returned (.int .u32 (Bl.ror x 16 : Nat)) ∧ w' = w := by
  have e1 := and31_16
  go_enter Tryd.func54, Tryd.ntmps54
  go_wp2
  go_ret
  exact ⟨congrArg (fun n => Ending.returned (.int .u32 n)) (Bl.or_rot x 65536 65536 hx), rfl⟩
theorem rot12 (x : Nat) (hx : x < 4294967296) (w : World) :
    Calls Tryd.prog 54 #[.int .u32 x, .int .i64 (-12)] w fun e w' => e = .returned (.int .u32 (Bl.ror x 12 : Nat)) ∧ w' = w := by
  have e1 := and31_12
  go_enter Tryd.func54, Tryd.ntmps54
  go_wp2
  go_ret
  exact ⟨congrArg (fun n => Ending.returned (.int .u32 n)) (Bl.or_rot x 1048576 4096 hx), rfl⟩
theorem rot8 (x : Nat) (hx : x < 4294967296) (w : World) :
    Calls Tryd.prog 54 #[.int .u32 x, .int .i64 (-8)] w fun e w' => e = .returned (.int .u32 (Bl.ror x 8 : Nat)) ∧ w' = w := by
  have e1 := and31_8
  go_enter Tryd.func54, Tryd.ntmps54
  go_wp2
  go_ret
  exact ⟨congrArg (fun n => Ending.returned (.int .u32 n)) (Bl.or_rot x 16777216 256 hx), rfl⟩
theorem rot7 (x : Nat) (hx : x < 4294967296) (w : World) :
    Calls Tryd.prog 54 #[.int .u32 x, .int .i64 (-7)] w fun e w' => e = .returned (.int .u32 (Bl.ror x 7 : Nat)) ∧ w' = w := by
  have e1 := and31_7
  go_enter Tryd.func54, Tryd.ntmps54
  go_wp2
  go_ret
  exact ⟨congrArg (fun n => Ending.returned (.int .u32 n)) (Bl.or_rot x 33554432 128 hx), rfl⟩

/-- Words as cells. -/
def wcells (ws : List Nat) : List Value := ws.map fun (n : Nat) => Value.int .u32 (n : Int)
theorem wcells_get {ws : List Nat} {i n : Nat} (h : ws[i]? = some n) : (wcells ws)[i]? = some (.int .u32 (n : Int)) := by simp [wcells, h]
theorem wcells_set (ws : List Nat) (i n : Nat) : (wcells ws).set i (.int .u32 (n : Int)) = wcells (ws.set i n) := by simp [wcells, List.map_set]

/-- What mix knows of its sixteen words: the four that it touches. -/
structure Mx (w W : World) (g : Nat) (t : TypeId) (ws : List Nat) (a b c d va vb vc vd : Nat) : Prop where
  blk : Blk W g t (wcells ws)
  only : Only [g] w W
  ga : ws[a]? = some va
  gb : ws[b]? = some vb
  gc : ws[c]? = some vc
  gd : ws[d]? = some vd
  la : va < 4294967296
  lb : vb < 4294967296
  lc : vc < 4294967296
  ld : vd < 4294967296
  ab : a ≠ b
  ac : a ≠ c
  ad : a ≠ d
  bc : b ≠ c
  bd : b ≠ d
  cd : c ≠ d

namespace Mx
variable {w W : World} {g : Nat} {t : TypeId} {ws : List Nat} {a b c d va vb vc vd : Nat}
theorem store {i n : Nat} {X : Int} (hb : Blk W g t (wcells ws)) (ho : Only [g] w W) (hX : X = (n : Int)) :
    Blk ((W.setCell ⟨g, i, none⟩ (.int .u32 X)).drew) g t (wcells (ws.set i n)) ∧ Only [g] w ((W.setCell ⟨g, i, none⟩ (.int .u32 X)).drew) := by
  subst hX
  exact ⟨by rw [← wcells_set]; exact (hb.set i _).drew, (ho.setCell (p := ⟨g, i, none⟩) (.inl (by simp)) _).drew⟩
theorem lt_of {i v : Nat} (h : ws[i]? = some v) : i < ws.length := (List.getElem?_eq_some_iff.1 h).1
theorem setA (h : Mx w W g t ws a b c d va vb vc vd) {n : Nat} {X : Int} (hX : X = (n : Int)) (hn : n < 4294967296) :
    Mx w ((W.setCell ⟨g, a, none⟩ (.int .u32 X)).drew) g t (ws.set a n) a b c d n vb vc vd := by
  obtain ⟨h1, h2⟩ := store (i := a) h.blk h.only hX
  have := lt_of h.ga
  exact ⟨h1, h2, by simp [this], by simp [h.ab, h.gb], by simp [h.ac, h.gc], by simp [h.ad, h.gd], hn, h.lb, h.lc, h.ld, h.ab, h.ac, h.ad, h.bc, h.bd, h.cd⟩
theorem setB (h : Mx w W g t ws a b c d va vb vc vd) {n : Nat} {X : Int} (hX : X = (n : Int)) (hn : n < 4294967296) :
    Mx w ((W.setCell ⟨g, b, none⟩ (.int .u32 X)).drew) g t (ws.set b n) a b c d va n vc vd := by
  obtain ⟨h1, h2⟩ := store (i := b) h.blk h.only hX
  have := lt_of h.gb
  exact ⟨h1, h2, by simp [h.ab.symm, h.ga], by simp [this], by simp [h.bc, h.gc], by simp [h.bd, h.gd], h.la, hn, h.lc, h.ld, h.ab, h.ac, h.ad, h.bc, h.bd, h.cd⟩
theorem setC (h : Mx w W g t ws a b c d va vb vc vd) {n : Nat} {X : Int} (hX : X = (n : Int)) (hn : n < 4294967296) :
    Mx w ((W.setCell ⟨g, c, none⟩ (.int .u32 X)).drew) g t (ws.set c n) a b c d va vb n vd := by
  obtain ⟨h1, h2⟩ := store (i := c) h.blk h.only hX
  have := lt_of h.gc
  exact ⟨h1, h2, by simp [h.ac.symm, h.ga], by simp [h.bc.symm, h.gb], by simp [this], by simp [h.cd, h.gd], h.la, h.lb, hn, h.ld, h.ab, h.ac, h.ad, h.bc, h.bd, h.cd⟩
theorem setD (h : Mx w W g t ws a b c d va vb vc vd) {n : Nat} {X : Int} (hX : X = (n : Int)) (hn : n < 4294967296) :
    Mx w ((W.setCell ⟨g, d, none⟩ (.int .u32 X)).drew) g t (ws.set d n) a b c d va vb vc n := by
  obtain ⟨h1, h2⟩ := store (i := d) h.blk h.only hX
  have := lt_of h.gd
  exact ⟨h1, h2, by simp [h.ad.symm, h.ga], by simp [h.bd.symm, h.gb], by simp [h.cd.symm, h.gc], by simp [this], h.la, h.lb, h.lc, hn, h.ab, h.ac, h.ad, h.bc, h.bd, h.cd⟩
theorem ca (h : Mx w W g t ws a b c d va vb vc vd) : W.cell? ⟨g, a, none⟩ = some (.int .u32 (va : Int)) := h.blk.cellv (wcells_get h.ga)
theorem cb (h : Mx w W g t ws a b c d va vb vc vd) : W.cell? ⟨g, b, none⟩ = some (.int .u32 (vb : Int)) := h.blk.cellv (wcells_get h.gb)
theorem cc (h : Mx w W g t ws a b c d va vb vc vd) : W.cell? ⟨g, c, none⟩ = some (.int .u32 (vc : Int)) := h.blk.cellv (wcells_get h.gc)
theorem cdd (h : Mx w W g t ws a b c d va vb vc vd) : W.cell? ⟨g, d, none⟩ = some (.int .u32 (vd : Int)) := h.blk.cellv (wcells_get h.gd)
end Mx

theorem add2 (p q r : Nat) : ((p : Int) + ((q : Int) + r) % 4294967296) % 4294967296 = ((Bl.add32 p (Bl.add32 q r) : Nat) : Int) := by simp [Bl.add32]
theorem eight (ws : List Nat) (a b c d a1 b1 c1 d1 a2 b2 c2 d2 : Nat) (ab : a ≠ b) (ac : a ≠ c) (ad : a ≠ d) (bc : b ≠ c) (bd : b ≠ d) (cd : c ≠ d) :
    ((((((((ws.set a a1).set d d1).set c c1).set b b1).set a a2).set d d2).set c c2).set b b2) = (((ws.set a a2).set b b2).set c c2).set d d2 := by
  apply List.ext_getElem?
  intro i
  simp only [List.getElem?_set, List.length_set]
  by_cases h1 : a = i <;> by_cases h2 : b = i <;> by_cases h3 : c = i <;> by_cases h4 : d = i <;> simp_all

set_option maxHeartbeats 1000000 in
set_option maxRecDepth 100000 in
theorem mix_walk (w : World) (g : Nat) (t : TypeId) (ws : List Nat) (a b c d va vb vc vd x y : Nat) (ha : (a : Int) < 16) (hb : (b : Int) < 16) (hc : (c : Int) < 16) (hd : (d : Int) < 16) (h : Mx w w g t ws a b c d va vb vc vd) :
    Calls Tryd.prog 53 #[.pointer (some ⟨g, 0, none⟩), .int .i64 a, .int .i64 b, .int .i64 c, .int .i64 d, .int .u32 x, .int .u32 y] w fun e w' => e = .returned (.tuple #[]) ∧ Blk w' g t (wcells (Bl.mixw ws a b c d x y)) ∧ Only [g] w w' := by
  have ca := h.ca
  have cb := h.cb
  have fz := h.blk.frozen a
  go_enter Tryd.func53, Tryd.ntmps53
  go_wp2
  go_still_tail 15, (by kernel_rfl)
  go_wp2
  clear ca cb fz
  have h1 := h.setA (add2 va vb x) (Bl.add32_lt _ _)
  revert h1
  generalize World.drew _ = W1
  intro h1
  obtain ⟨a1, ea1⟩ : ∃ n, n = Bl.add32 va (Bl.add32 vb x) := ⟨_, rfl⟩
  rw [← ea1] at h1
  have Ha1 := Lib.hid ea1
  clear ea1
  obtain ⟨z2, ez2⟩ : ∃ n, n = vd ^^^ a1 := ⟨_, rfl⟩
  have xz2 : bits .xor .u32 (vd : Int) (a1 : Int) = (z2 : Int) := by rw [ez2]; exact u32_xor_nat _ _ h1.ld h1.la
  have lz2 : z2 < 4294967296 := by rw [ez2]; exact Bl.xor_lt _ _ h1.ld h1.la
  have Hz2 := Lib.hid ez2
  clear ez2
  have c1 := h1.cdd
  have c2 := h1.ca
  have fz := h1.blk.frozen d
  go_still_tail 16, (by kernel_rfl)
  still_call (rot16 z2 lz2 _)
  repeat still_step
  refine wpStill_nil ?_
  go_wp2
  clear c1 c2 fz xz2
  have h2 := h1.setD (n := Bl.ror z2 16) rfl (Bl.ror_lt _ _ lz2)
  revert h2
  generalize World.drew _ = W2
  intro h2
  obtain ⟨d1, ed1⟩ : ∃ n, n = Bl.ror z2 16 := ⟨_, rfl⟩
  rw [← ed1] at h2
  have Hd1 := Lib.hid ed1
  clear ed1 h1
  have c1 := h2.cc
  have c2 := h2.cdd
  have fz := h2.blk.frozen c
  go_still_tail 13, (by kernel_rfl)
  go_wp2
  clear c1 c2 fz
  have h3 := h2.setC (Bl.add_cast vc d1) (Bl.add32_lt _ _)
  revert h3
  generalize World.drew _ = W3
  intro h3
  obtain ⟨c1v, ec1v⟩ : ∃ n, n = Bl.add32 vc d1 := ⟨_, rfl⟩
  rw [← ec1v] at h3
  have Hc1v := Lib.hid ec1v
  clear ec1v h2
  obtain ⟨z4, ez4⟩ : ∃ n, n = vb ^^^ c1v := ⟨_, rfl⟩
  have xz4 : bits .xor .u32 (vb : Int) (c1v : Int) = (z4 : Int) := by rw [ez4]; exact u32_xor_nat _ _ h3.lb h3.lc
  have lz4 : z4 < 4294967296 := by rw [ez4]; exact Bl.xor_lt _ _ h3.lb h3.lc
  have Hz4 := Lib.hid ez4
  clear ez4
  have c1 := h3.cb
  have c2 := h3.cc
  have fz := h3.blk.frozen b
  go_still_tail 16, (by kernel_rfl)
  still_call (rot12 z4 lz4 _)
  repeat still_step
  refine wpStill_nil ?_
  go_wp2
  clear c1 c2 fz xz4
  have h4 := h3.setB (n := Bl.ror z4 12) rfl (Bl.ror_lt _ _ lz4)
  revert h4
  generalize World.drew _ = W4
  intro h4
  obtain ⟨b1, eb1⟩ : ∃ n, n = Bl.ror z4 12 := ⟨_, rfl⟩
  rw [← eb1] at h4
  have Hb1 := Lib.hid eb1
  clear eb1 h3
  have c1 := h4.ca
  have c2 := h4.cb
  have fz := h4.blk.frozen a
  go_still_tail 15, (by kernel_rfl)
  go_wp2
  clear c1 c2 fz
  have h5 := h4.setA (add2 a1 b1 y) (Bl.add32_lt _ _)
  revert h5
  generalize World.drew _ = W5
  intro h5
  obtain ⟨a2, ea2⟩ : ∃ n, n = Bl.add32 a1 (Bl.add32 b1 y) := ⟨_, rfl⟩
  rw [← ea2] at h5
  have Ha2 := Lib.hid ea2
  clear ea2 h4
  obtain ⟨z6, ez6⟩ : ∃ n, n = d1 ^^^ a2 := ⟨_, rfl⟩
  have xz6 : bits .xor .u32 (d1 : Int) (a2 : Int) = (z6 : Int) := by rw [ez6]; exact u32_xor_nat _ _ h5.ld h5.la
  have lz6 : z6 < 4294967296 := by rw [ez6]; exact Bl.xor_lt _ _ h5.ld h5.la
  have Hz6 := Lib.hid ez6
  clear ez6
  have c1 := h5.cdd
  have c2 := h5.ca
  have fz := h5.blk.frozen d
  go_still_tail 16, (by kernel_rfl)
  still_call (rot8 z6 lz6 _)
  repeat still_step
  refine wpStill_nil ?_
  go_wp2
  clear c1 c2 fz xz6
  have h6 := h5.setD (n := Bl.ror z6 8) rfl (Bl.ror_lt _ _ lz6)
  revert h6
  generalize World.drew _ = W6
  intro h6
  obtain ⟨d2, ed2⟩ : ∃ n, n = Bl.ror z6 8 := ⟨_, rfl⟩
  rw [← ed2] at h6
  have Hd2 := Lib.hid ed2
  clear ed2 h5
  have c1 := h6.cc
  have c2 := h6.cdd
  have fz := h6.blk.frozen c
  go_still_tail 13, (by kernel_rfl)
  go_wp2
  clear c1 c2 fz
  have h7 := h6.setC (Bl.add_cast c1v d2) (Bl.add32_lt _ _)
  revert h7
  generalize World.drew _ = W7
  intro h7
  obtain ⟨c2v, ec2v⟩ : ∃ n, n = Bl.add32 c1v d2 := ⟨_, rfl⟩
  rw [← ec2v] at h7
  have Hc2v := Lib.hid ec2v
  clear ec2v h6
  obtain ⟨z8, ez8⟩ : ∃ n, n = b1 ^^^ c2v := ⟨_, rfl⟩
  have xz8 : bits .xor .u32 (b1 : Int) (c2v : Int) = (z8 : Int) := by rw [ez8]; exact u32_xor_nat _ _ h7.lb h7.lc
  have lz8 : z8 < 4294967296 := by rw [ez8]; exact Bl.xor_lt _ _ h7.lb h7.lc
  have Hz8 := Lib.hid ez8
  clear ez8
  have c1 := h7.cb
  have c2 := h7.cc
  have fz := h7.blk.frozen b
  go_still_tail 16, (by kernel_rfl)
  still_call (rot7 z8 lz8 _)
  repeat still_step
  refine wpStill_nil ?_
  go_wp2
  clear c1 c2 fz xz8
  have h8 := h7.setB (n := Bl.ror z8 7) rfl (Bl.ror_lt _ _ lz8)
  revert h8
  generalize World.drew _ = W8
  intro h8
  obtain ⟨b2, eb2⟩ : ∃ n, n = Bl.ror z8 7 := ⟨_, rfl⟩
  rw [← eb2] at h8
  have Hb2 := Lib.hid eb2
  clear eb2 h7
  refine bodyPost_end (results_none rfl _ _ _) rfl ⟨rfl, ?_, h8.only⟩
  have hb8 := h8.blk
  rw [eight _ _ _ _ _ _ _ _ _ _ _ _ _ h.ab h.ac h.ad h.bc h.bd h.cd] at hb8
  have e1 : ws.getD a 0 = va := by simp [h.ga]
  have e2 : ws.getD b 0 = vb := by simp [h.gb]
  have e3 : ws.getD c 0 = vc := by simp [h.gc]
  have e4 : ws.getD d 0 = vd := by simp [h.gd]
  have e : Bl.mixw ws a b c d x y = (((ws.set a a2).set b b2).set c c2v).set d d2 := by
    simp only [Bl.mixw, Bl.gmix, Bl.half, e1, e2, e3, e4]
    rw [Hb2.out, Hz8.out, Hc2v.out, Hd2.out, Hz6.out, Ha2.out, Hb1.out, Hz4.out, Hc1v.out, Hd1.out, Hz2.out, Ha1.out]
  rw [e]
  exact hb8
theorem mix_at (w : World) (g : Nat) (t : TypeId) (ws : List Nat) (a b c d x y : Nat) (hw : Bl.Words 16 ws) (hb : Blk w g t (wcells ws)) (la : a < 16) (lb : b < 16) (lc : c < 16) (ld : d < 16)
    (ab : a ≠ b) (ac : a ≠ c) (ad : a ≠ d) (bc : b ≠ c) (bd : b ≠ d) (cd : c ≠ d) :
    Calls Tryd.prog 53 #[.pointer (some ⟨g, 0, none⟩), .int .i64 a, .int .i64 b, .int .i64 c, .int .i64 d, .int .u32 x, .int .u32 y] w fun e w' => e = .returned (.tuple #[]) ∧ Blk w' g t (wcells (Bl.mixw ws a b c d x y)) ∧ Only [g] w w' := by
  have gt : ∀ i, i < 16 → ws[i]? = some (ws.getD i 0) := fun i hi => by have := hw.1; simp [this, hi]
  exact mix_walk w g t ws a b c d _ _ _ _ x y (by omega) (by omega) (by omega) (by omega)
    ⟨hb, Only.refl _ _, gt a la, gt b lb, gt c lc, gt d ld, hw.getD a, hw.getD b, hw.getD c, hw.getD d, ab, ac, ad, bc, bd, cd⟩
theorem mix_lane0 (w : World) (g : Nat) (t : TypeId) (ws : List Nat) (x y : Nat) (hw : Bl.Words 16 ws) (hb : Blk w g t (wcells ws)) :
    Calls Tryd.prog 53 #[.pointer (some ⟨g, 0, none⟩), .int .i64 0, .int .i64 4, .int .i64 8, .int .i64 12, .int .u32 x, .int .u32 y] w fun e w' => e = .returned (.tuple #[]) ∧ Blk w' g t (wcells (Bl.mixw ws 0 4 8 12 x y)) ∧ Only [g] w w' :=
  mix_at w g t ws 0 4 8 12 x y hw hb (by decide) (by decide) (by decide) (by decide) (by decide) (by decide) (by decide) (by decide) (by decide) (by decide)
theorem mix_lane1 (w : World) (g : Nat) (t : TypeId) (ws : List Nat) (x y : Nat) (hw : Bl.Words 16 ws) (hb : Blk w g t (wcells ws)) :
    Calls Tryd.prog 53 #[.pointer (some ⟨g, 0, none⟩), .int .i64 1, .int .i64 5, .int .i64 9, .int .i64 13, .int .u32 x, .int .u32 y] w fun e w' => e = .returned (.tuple #[]) ∧ Blk w' g t (wcells (Bl.mixw ws 1 5 9 13 x y)) ∧ Only [g] w w' :=
  mix_at w g t ws 1 5 9 13 x y hw hb (by decide) (by decide) (by decide) (by decide) (by decide) (by decide) (by decide) (by decide) (by decide) (by decide)
theorem mix_lane2 (w : World) (g : Nat) (t : TypeId) (ws : List Nat) (x y : Nat) (hw : Bl.Words 16 ws) (hb : Blk w g t (wcells ws)) :
    Calls Tryd.prog 53 #[.pointer (some ⟨g, 0, none⟩), .int .i64 2, .int .i64 6, .int .i64 10, .int .i64 14, .int .u32 x, .int .u32 y] w fun e w' => e = .returned (.tuple #[]) ∧ Blk w' g t (wcells (Bl.mixw ws 2 6 10 14 x y)) ∧ Only [g] w w' :=
  mix_at w g t ws 2 6 10 14 x y hw hb (by decide) (by decide) (by decide) (by decide) (by decide) (by decide) (by decide) (by decide) (by decide) (by decide)
theorem mix_lane3 (w : World) (g : Nat) (t : TypeId) (ws : List Nat) (x y : Nat) (hw : Bl.Words 16 ws) (hb : Blk w g t (wcells ws)) :
    Calls Tryd.prog 53 #[.pointer (some ⟨g, 0, none⟩), .int .i64 3, .int .i64 7, .int .i64 11, .int .i64 15, .int .u32 x, .int .u32 y] w fun e w' => e = .returned (.tuple #[]) ∧ Blk w' g t (wcells (Bl.mixw ws 3 7 11 15 x y)) ∧ Only [g] w w' :=
  mix_at w g t ws 3 7 11 15 x y hw hb (by decide) (by decide) (by decide) (by decide) (by decide) (by decide) (by decide) (by decide) (by decide) (by decide)
theorem mix_lane4 (w : World) (g : Nat) (t : TypeId) (ws : List Nat) (x y : Nat) (hw : Bl.Words 16 ws) (hb : Blk w g t (wcells ws)) :
    Calls Tryd.prog 53 #[.pointer (some ⟨g, 0, none⟩), .int .i64 0, .int .i64 5, .int .i64 10, .int .i64 15, .int .u32 x, .int .u32 y] w fun e w' => e = .returned (.tuple #[]) ∧ Blk w' g t (wcells (Bl.mixw ws 0 5 10 15 x y)) ∧ Only [g] w w' :=
  mix_at w g t ws 0 5 10 15 x y hw hb (by decide) (by decide) (by decide) (by decide) (by decide) (by decide) (by decide) (by decide) (by decide) (by decide)
theorem mix_lane5 (w : World) (g : Nat) (t : TypeId) (ws : List Nat) (x y : Nat) (hw : Bl.Words 16 ws) (hb : Blk w g t (wcells ws)) :
    Calls Tryd.prog 53 #[.pointer (some ⟨g, 0, none⟩), .int .i64 1, .int .i64 6, .int .i64 11, .int .i64 12, .int .u32 x, .int .u32 y] w fun e w' => e = .returned (.tuple #[]) ∧ Blk w' g t (wcells (Bl.mixw ws 1 6 11 12 x y)) ∧ Only [g] w w' :=
  mix_at w g t ws 1 6 11 12 x y hw hb (by decide) (by decide) (by decide) (by decide) (by decide) (by decide) (by decide) (by decide) (by decide) (by decide)
theorem mix_lane6 (w : World) (g : Nat) (t : TypeId) (ws : List Nat) (x y : Nat) (hw : Bl.Words 16 ws) (hb : Blk w g t (wcells ws)) :
    Calls Tryd.prog 53 #[.pointer (some ⟨g, 0, none⟩), .int .i64 2, .int .i64 7, .int .i64 8, .int .i64 13, .int .u32 x, .int .u32 y] w fun e w' => e = .returned (.tuple #[]) ∧ Blk w' g t (wcells (Bl.mixw ws 2 7 8 13 x y)) ∧ Only [g] w w' :=
  mix_at w g t ws 2 7 8 13 x y hw hb (by decide) (by decide) (by decide) (by decide) (by decide) (by decide) (by decide) (by decide) (by decide) (by decide)
theorem mix_lane7 (w : World) (g : Nat) (t : TypeId) (ws : List Nat) (x y : Nat) (hw : Bl.Words 16 ws) (hb : Blk w g t (wcells ws)) :
    Calls Tryd.prog 53 #[.pointer (some ⟨g, 0, none⟩), .int .i64 3, .int .i64 4, .int .i64 9, .int .i64 14, .int .u32 x, .int .u32 y] w fun e w' => e = .returned (.tuple #[]) ∧ Blk w' g t (wcells (Bl.mixw ws 3 4 9 14 x y)) ∧ Only [g] w w' :=
  mix_at w g t ws 3 4 9 14 x y hw hb (by decide) (by decide) (by decide) (by decide) (by decide) (by decide) (by decide) (by decide) (by decide) (by decide)
end Go.Proofs.YtglbgocldenooaaDoor
