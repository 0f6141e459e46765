/-
  BLAKE2s in plain Lean, over natural numbers: words, the function G, a round, the compression of a block, the hash of a string with a key. No program in sight.
  THE WALKS of math/bits.RotateLeft32 (at the four counts that are used) and of blake.mix: what they compute is the plain function gmix.
  THE WALK of (*blake.Hash).compress: the state's words become the plain function comp's.
  BLAKE2s in plain Lean, the message as a whole: the state after so many blocks, the hash of a message, of a string with a key. No program in sight.
  THE WALKS of blake.start and (*blake.Hash).absorb.
  THE WALK of (*blake.Hash).absorb with one part: the message grows by it.
  THE WALK of (*blake.Hash).finish: the hash of the message as 32 bytes.
  THE WALKS of the other functions of package blake: hashOf.
  THE WALK of blake.Keyed.
-/
import Derived.Laws.BitsAllLaws
import Derived.Test.YtchbgfgboogniaaDoorProg
import Derived.Test.YtchbgfgboogniaaDoorGA
import Derived.WalkSpells
import Derived.WalkLawsBesides
import Derived.StillTailTactics
import Derived.Deep.DeepCutAuto
namespace Go.Proofs.YtchbgfgboogniaaDoor
namespace Bl
def add32 (a b : Nat) : Nat := (a + b) % 4294967296
def ror (x n : Nat) : Nat := x / 2 ^ n ||| x * 2 ^ (32 - n) % 4294967296
theorem add32_lt (a b : Nat) : add32 a b < 4294967296 := by unfold add32; omega
theorem ror_lt (x n : Nat) (h : x < 4294967296) : ror x n < 4294967296 := by
  unfold ror
  have h1 : x / 2 ^ n < 2 ^ 32 := Nat.lt_of_le_of_lt (Nat.div_le_self _ _) h
  have h2 : x * 2 ^ (32 - n) % 4294967296 < 2 ^ 32 := by omega
  exact Nat.or_lt_two_pow h1 h2
theorem xor_lt (a b : Nat) (h : a < 4294967296) (k : b < 4294967296) : a ^^^ b < 4294967296 := Nat.xor_lt_two_pow (n := 32) h k
theorem add_cast (a b : Nat) : ((a : Int) + b) % 4294967296 = ((add32 a b : Nat) : Int) := by simp [add32]

/-- The four words after G. -/
def ga (a b x : Nat) : Nat := add32 a (add32 b x)
structure Four where
  a : Nat
  b : Nat
  c : Nat
  d : Nat
/-- The first half of G, with the rotations r and s. -/
def half (r s : Nat) (q : Four) (x : Nat) : Four :=
  let a := add32 q.a (add32 q.b x)
  let d := ror (q.d ^^^ a) r
  let c := add32 q.c d
  let b := ror (q.b ^^^ c) s
  ⟨a, b, c, d⟩
def gmix (q : Four) (x y : Nat) : Four := half 8 7 (half 16 12 q x) y
def Four.ok (q : Four) : Prop := q.a < 4294967296 ∧ q.b < 4294967296 ∧ q.c < 4294967296 ∧ q.d < 4294967296
theorem half_ok {r s : Nat} {q : Four} {x : Nat} (h : q.ok) : (half r s q x).ok := by
  obtain ⟨h1, h2, h3, h4⟩ := h
  have ha := add32_lt q.a (add32 q.b x)
  have hd := ror_lt _ r (xor_lt _ _ h4 ha)
  have hc := add32_lt q.c (ror (q.d ^^^ add32 q.a (add32 q.b x)) r)
  exact ⟨ha, ror_lt _ s (xor_lt _ _ h2 hc), hc, hd⟩
theorem gmix_ok {q : Four} {x y : Nat} (h : q.ok) : (gmix q x y).ok := half_ok (half_ok h)

/-- bits at u32, as the walks come to them -/
theorem or_rot (x p q : Nat) (hx : x < 4294967296) : bits .or .u32 ((x : Int) * p % 4294967296) ((x : Int) / q) = ((x / q ||| x * p % 4294967296 : Nat) : Int) := by
  have h1 : x / q < 4294967296 := Nat.lt_of_le_of_lt (Nat.div_le_self _ _) hx
  have h2 : x * p % 4294967296 < 4294967296 := by omega
  have := u32_or_nat (x * p % 4294967296) (x / q) h2 h1
  rw [Nat.or_comm] at this
  rw [← this]
  simp

/-- The sixteen words after G at four places. -/
def mixw (ws : List Nat) (a b c d x y : Nat) : List Nat :=
  let q := Bl.gmix ⟨ws.getD a 0, ws.getD b 0, ws.getD c 0, ws.getD d 0⟩ x y
  (((ws.set a q.a).set b q.b).set c q.c).set d q.d
def iv : List Nat := [1779033703, 3144134277, 1013904242, 2773480762, 1359893119, 2600822924, 528734635, 1541459225]
def tab : List (List Nat) := [[0, 1, 2, 3, 4, 5, 6, 7, 8, 9, 10, 11, 12, 13, 14, 15], [14, 10, 4, 8, 9, 15, 13, 6, 1, 12, 0, 2, 11, 7, 5, 3], [11, 8, 12, 0, 5, 2, 15, 13, 10, 14, 3, 6, 7, 1, 9, 4], [7, 9, 3, 1, 13, 12, 11, 14, 2, 6, 5, 10, 4, 0, 15, 8], [9, 0, 5, 7, 2, 4, 10, 15, 14, 1, 11, 12, 6, 8, 3, 13], [2, 12, 6, 10, 0, 11, 8, 3, 4, 13, 7, 5, 15, 14, 1, 9], [12, 5, 1, 15, 14, 13, 4, 10, 0, 7, 6, 3, 9, 2, 8, 11], [13, 11, 7, 14, 12, 1, 3, 9, 5, 0, 15, 4, 8, 6, 2, 10], [6, 15, 14, 9, 11, 3, 0, 8, 12, 2, 13, 7, 1, 4, 10, 5], [10, 2, 8, 4, 7, 6, 1, 5, 15, 11, 9, 14, 3, 12, 13, 0]]
def ivf (i : Nat) : Nat := iv.getD i 0
theorem ivf_all : (List.range 8).map ivf = iv := by decide
/-- n words. -/
def Words (n : Nat) (ws : List Nat) : Prop := ws.length = n ∧ ∀ x ∈ ws, x < 4294967296
theorem Words.getD {n : Nat} {ws : List Nat} (h : Words n ws) (i : Nat) : ws.getD i 0 < 4294967296 := by
  by_cases hi : i < ws.length
  · simp [hi]; exact h.2 _ (List.getElem_mem hi)
  · simp [hi]
theorem Words.set {n : Nat} {ws : List Nat} (h : Words n ws) (i : Nat) {v : Nat} (hv : v < 4294967296) : Words n (ws.set i v) :=
  ⟨by simp [h.1], fun x hx => (List.mem_or_eq_of_mem_set hx).elim (h.2 x) (fun e => e ▸ hv)⟩
theorem mixw_words {n : Nat} {ws : List Nat} (h : Words n ws) (a b c d x y : Nat) : Words n (mixw ws a b c d x y) := by
  have hq : (gmix ⟨ws.getD a 0, ws.getD b 0, ws.getD c 0, ws.getD d 0⟩ x y).ok := gmix_ok ⟨h.getD a, h.getD b, h.getD c, h.getD d⟩
  exact (((h.set a hq.1).set b hq.2.1).set c hq.2.2.1).set d hq.2.2.2
def mword (b0 b1 b2 b3 : Nat) : Nat := ((b0 ||| b1 * 256) ||| b2 * 65536) ||| b3 * 16777216
theorem mword_lt {b0 b1 b2 b3 : Nat} (h0 : b0 < 256) (h1 : b1 < 256) (h2 : b2 < 256) (h3 : b3 < 256) : mword b0 b1 b2 b3 < 4294967296 := by
  unfold mword
  exact Nat.or_lt_two_pow (n := 32) (Nat.or_lt_two_pow (Nat.or_lt_two_pow (by omega) (by omega)) (by omega)) (by omega)
theorem mword_cast {b0 b1 b2 b3 : Nat} (h0 : b0 < 256) (h1 : b1 < 256) (h2 : b2 < 256) (h3 : b3 < 256) :
    bits .or .u32 (bits .or .u32 (bits .or .u32 (b0 : Int) ((b1 : Int) * 256)) ((b2 : Int) * 65536)) ((b3 : Int) * 16777216) = ((mword b0 b1 b2 b3 : Nat) : Int) := by
  have e1 := u32_or_nat b0 (b1 * 256) (by omega) (by omega)
  have l1 : b0 ||| b1 * 256 < 4294967296 := Nat.or_lt_two_pow (n := 32) (by omega) (by omega)
  have e2 := u32_or_nat (b0 ||| b1 * 256) (b2 * 65536) l1 (by omega)
  have l2 : (b0 ||| b1 * 256) ||| b2 * 65536 < 4294967296 := Nat.or_lt_two_pow (n := 32) l1 (by omega)
  have e3 := u32_or_nat ((b0 ||| b1 * 256) ||| b2 * 65536) (b3 * 16777216) l2 (by omega)
  simp only [Int.natCast_mul, Int.cast_ofNat_Int] at e1 e2 e3
  rw [e1, e2, e3]
  rfl
/-- Word i of a block. -/
def mw (bs : List UInt8) (i : Nat) : Nat := mword (bs.getD (4 * i) 0).toNat (bs.getD (4 * i + 1) 0).toNat (bs.getD (4 * i + 2) 0).toNat (bs.getD (4 * i + 3) 0).toNat
def mws (bs : List UInt8) : List Nat := (List.range 16).map (mw bs)
theorem mw_lt (bs : List UInt8) (i : Nat) : mw bs i < 4294967296 := mword_lt (UInt8.toNat_lt _) (UInt8.toNat_lt _) (UInt8.toNat_lt _) (UInt8.toNat_lt _)
theorem mws_words (bs : List UInt8) : Words 16 (mws bs) := ⟨by simp [mws], fun x hx => by obtain ⟨i, _, rfl⟩ := List.mem_map.1 hx; exact mw_lt _ _⟩
/-- A round with the row's words of m. -/
def round (m row v : List Nat) : List Nat :=
  let x := fun i => m.getD (row.getD i 0) 0
  let v1 := mixw v 0 4 8 12 (x 0) (x 1)
  let v2 := mixw v1 1 5 9 13 (x 2) (x 3)
  let v3 := mixw v2 2 6 10 14 (x 4) (x 5)
  let v4 := mixw v3 3 7 11 15 (x 6) (x 7)
  let v5 := mixw v4 0 5 10 15 (x 8) (x 9)
  let v6 := mixw v5 1 6 11 12 (x 10) (x 11)
  let v7 := mixw v6 2 7 8 13 (x 12) (x 13)
  let v8 := mixw v7 3 4 9 14 (x 14) (x 15)
  v8
def rounds (m : List Nat) : Nat → List Nat → List Nat
  | 0, v => v
  | k + 1, v => round m (tab.getD k []) (rounds m k v)
theorem round_words {m row v : List Nat} (h : Words 16 v) : Words 16 (round m row v) := by
  unfold round
  exact mixw_words (mixw_words (mixw_words (mixw_words (mixw_words (mixw_words (mixw_words (mixw_words h _ _ _ _ _ _) _ _ _ _ _ _) _ _ _ _ _ _) _ _ _ _ _ _) _ _ _ _ _ _) _ _ _ _ _ _) _ _ _ _ _ _) _ _ _ _ _ _
theorem rounds_words {m v : List Nat} (h : Words 16 v) : ∀ k, Words 16 (rounds m k v)
  | 0 => h
  | k + 1 => round_words (rounds_words h k)
theorem iv_words : Words 8 iv := ⟨by decide, by decide⟩
theorem tab_len (r : Nat) (h : r < 10) : (tab.getD r []).length = 16 := (by decide : ∀ r : Fin 10, (tab.getD r.val []).length = 16) ⟨r, h⟩
theorem tab_lt (r : Nat) (h : r < 10) (j : Nat) : (tab.getD r []).getD j 0 < 16 := by
  by_cases hj : j < 16
  · exact (by decide : ∀ r : Fin 10, ∀ j : Fin 16, (tab.getD r.val []).getD j.val 0 < 16) ⟨r, h⟩ ⟨j, hj⟩
  · rw [List.getD_eq_getElem?_getD, List.getElem?_eq_none (by rw [tab_len r h]; omega)]; decide
/-- The sixteen words before the rounds. -/
def vinit (st : List Nat) (t : Nat) (last : Bool) : List Nat :=
  let v := st ++ iv
  let v1 := v.set 12 (1359893119 ^^^ t % 4294967296)
  let v2 := v1.set 13 (2600822924 ^^^ t / 4294967296 % 4294967296)
  if last then v2.set 14 (528734635 ^^^ 4294967295) else v2
theorem vinit_words {st : List Nat} {t : Nat} {last : Bool} (h : Words 8 st) : Words 16 (vinit st t last) := by
  have h0 : Words 16 (st ++ iv) := ⟨by simp [h.1, iv_words.1], fun x hx => (List.mem_append.1 hx).elim (h.2 x) (iv_words.2 x)⟩
  have h1 := h0.set 12 (xor_lt 1359893119 (t % 4294967296) (by decide) (by omega))
  have h2 := h1.set 13 (xor_lt 2600822924 (t / 4294967296 % 4294967296) (by decide) (by omega))
  unfold vinit
  cases last
  · exact h2
  · exact h2.set 14 (by decide)
/-- The state after a block. -/
def comp (st : List Nat) (bs : List UInt8) (t : Nat) (last : Bool) : List Nat :=
  let v := rounds (mws bs) 10 (vinit st t last)
  (List.range 8).map fun i => st.getD i 0 ^^^ (v.getD i 0 ^^^ v.getD (i + 8) 0)
theorem comp_words {st : List Nat} {bs : List UInt8} {t : Nat} {last : Bool} (h : Words 8 st) : Words 8 (comp st bs t last) := by
  have hv := rounds_words (m := mws bs) (vinit_words (t := t) (last := last) h) 10
  refine ⟨by simp [comp], fun x hx => ?_⟩
  obtain ⟨i, _, rfl⟩ := List.mem_map.1 hx
  exact xor_lt _ _ (h.getD i) (xor_lt _ _ (hv.getD i) (hv.getD _))
end Bl
end Go.Proofs.YtchbgfgboogniaaDoor
namespace Go.Proofs.YtchbgfgboogniaaDoor
open Go.RowKit
theorem and31_16 : bits BinOp.and IntKind.u64 (IntKind.u64.wrap (-16)) 31 = 16 := by decide +kernel
theorem and31_12 : bits BinOp.and IntKind.u64 (IntKind.u64.wrap (-12)) 31 = 20 := by decide +kernel
theorem and31_8 : bits BinOp.and IntKind.u64 (IntKind.u64.wrap (-8)) 31 = 24 := by decide +kernel
theorem and31_7 : bits BinOp.and IntKind.u64 (IntKind.u64.wrap (-7)) 31 = 25 := by decide +kernel

theorem rot16 (x : Nat) (hx : x < 4294967296) (w : World) :
    Calls Tryd.prog 144 #[.int .u32 x, .int .i64 (-16)] w fun e w' => e = .returned (.int .u32 (Bl.ror x 16 : Nat)) ∧ w' = w := by
  have e1 := and31_16
  go_enter Tryd.func144, Tryd.ntmps144
  go_wp2
  go_ret
  exact ⟨congrArg (fun n => Ending.returned (.int .u32 n)) (Bl.or_rot x 65536 65536 hx), rfl⟩
theorem rot12 (x : Nat) (hx : x < 4294967296) (w : World) :
    Calls Tryd.prog 144 #[.int .u32 x, .int .i64 (-12)] w fun e w' => e = .returned (.int .u32 (Bl.ror x 12 : Nat)) ∧ w' = w := by
  have e1 := and31_12
  go_enter Tryd.func144, Tryd.ntmps144
  go_wp2
  go_ret
  exact ⟨congrArg (fun n => Ending.returned (.int .u32 n)) (Bl.or_rot x 1048576 4096 hx), rfl⟩
theorem rot8 (x : Nat) (hx : x < 4294967296) (w : World) :
    Calls Tryd.prog 144 #[.int .u32 x, .int .i64 (-8)] w fun e w' => e = .returned (.int .u32 (Bl.ror x 8 : Nat)) ∧ w' = w := by
  have e1 := and31_8
  go_enter Tryd.func144, Tryd.ntmps144
  go_wp2
  go_ret
  exact ⟨congrArg (fun n => Ending.returned (.int .u32 n)) (Bl.or_rot x 16777216 256 hx), rfl⟩
theorem rot7 (x : Nat) (hx : x < 4294967296) (w : World) :
    Calls Tryd.prog 144 #[.int .u32 x, .int .i64 (-7)] w fun e w' => e = .returned (.int .u32 (Bl.ror x 7 : Nat)) ∧ w' = w := by
  have e1 := and31_7
  go_enter Tryd.func144, Tryd.ntmps144
  go_wp2
  go_ret
  exact ⟨congrArg (fun n => Ending.returned (.int .u32 n)) (Bl.or_rot x 33554432 128 hx), rfl⟩

/-- Words as cells. -/
def wcells (ws : List Nat) : List Value := ws.map fun (n : Nat) => Value.int .u32 (n : Int)
theorem wcells_get {ws : List Nat} {i n : Nat} (h : ws[i]? = some n) : (wcells ws)[i]? = some (.int .u32 (n : Int)) := by simp [wcells, h]
theorem wcells_set (ws : List Nat) (i n : Nat) : (wcells ws).set i (.int .u32 (n : Int)) = wcells (ws.set i n) := by simp [wcells, List.map_set]

/-- What mix knows of its sixteen words: the four that it touches. -/
structure Mx (w W : World) (g : Nat) (t : TypeId) (ws : List Nat) (a b c d va vb vc vd : Nat) : Prop where
  blk : Blk W g t (wcells ws)
  only : Only [g] w W
  ga : ws[a]? = some va
  gb : ws[b]? = some vb
  gc : ws[c]? = some vc
  gd : ws[d]? = some vd
  la : va < 4294967296
  lb : vb < 4294967296
  lc : vc < 4294967296
  ld : vd < 4294967296
  ab : a ≠ b
  ac : a ≠ c
  ad : a ≠ d
  bc : b ≠ c
  bd : b ≠ d
  cd : c ≠ d

namespace Mx
variable {w W : World} {g : Nat} {t : TypeId} {ws : List Nat} {a b c d va vb vc vd : Nat}
theorem store {i n : Nat} {X : Int} (hb : Blk W g t (wcells ws)) (ho : Only [g] w W) (hX : X = (n : Int)) :
    Blk ((W.setCell ⟨g, i, none⟩ (.int .u32 X)).drew) g t (wcells (ws.set i n)) ∧ Only [g] w ((W.setCell ⟨g, i, none⟩ (.int .u32 X)).drew) := by
  subst hX
  exact ⟨by rw [← wcells_set]; exact (hb.set i _).drew, (ho.setCell (p := ⟨g, i, none⟩) (.inl (by simp)) _).drew⟩
theorem lt_of {i v : Nat} (h : ws[i]? = some v) : i < ws.length := (List.getElem?_eq_some_iff.1 h).1
theorem setA (h : Mx w W g t ws a b c d va vb vc vd) {n : Nat} {X : Int} (hX : X = (n : Int)) (hn : n < 4294967296) :
    Mx w ((W.setCell ⟨g, a, none⟩ (.int .u32 X)).drew) g t (ws.set a n) a b c d n vb vc vd := by
  obtain ⟨h1, h2⟩ := store (i := a) h.blk h.only hX
  have := lt_of h.ga
  exact ⟨h1, h2, by simp [this], by simp [h.ab, h.gb], by simp [h.ac, h.gc], by simp [h.ad, h.gd], hn, h.lb, h.lc, h.ld, h.ab, h.ac, h.ad, h.bc, h.bd, h.cd⟩
theorem setB (h : Mx w W g t ws a b c d va vb vc vd) {n : Nat} {X : Int} (hX : X = (n : Int)) (hn : n < 4294967296) :
    Mx w ((W.setCell ⟨g, b, none⟩ (.int .u32 X)).drew) g t (ws.set b n) a b c d va n vc vd := by
  obtain ⟨h1, h2⟩ := store (i := b) h.blk h.only hX
  have := lt_of h.gb
  exact ⟨h1, h2, by simp [h.ab.symm, h.ga], by simp [this], by simp [h.bc, h.gc], by simp [h.bd, h.gd], h.la, hn, h.lc, h.ld, h.ab, h.ac, h.ad, h.bc, h.bd, h.cd⟩
theorem setC (h : Mx w W g t ws a b c d va vb vc vd) {n : Nat} {X : Int} (hX : X = (n : Int)) (hn : n < 4294967296) :
    Mx w ((W.setCell ⟨g, c, none⟩ (.int .u32 X)).drew) g t (ws.set c n) a b c d va vb n vd := by
  obtain ⟨h1, h2⟩ := store (i := c) h.blk h.only hX
  have := lt_of h.gc
  exact ⟨h1, h2, by simp [h.ac.symm, h.ga], by simp [h.bc.symm, h.gb], by simp [this], by simp [h.cd, h.gd], h.la, h.lb, hn, h.ld, h.ab, h.ac, h.ad, h.bc, h.bd, h.cd⟩
theorem setD (h : Mx w W g t ws a b c d va vb vc vd) {n : Nat} {X : Int} (hX : X = (n : Int)) (hn : n < 4294967296) :
    Mx w ((W.setCell ⟨g, d, none⟩ (.int .u32 X)).drew) g t (ws.set d n) a b c d va vb vc n := by
  obtain ⟨h1, h2⟩ := store (i := d) h.blk h.only hX
  have := lt_of h.gd
  exact ⟨h1, h2, by simp [h.ad.symm, h.ga], by simp [h.bd.symm, h.gb], by simp [h.cd.symm, h.gc], by simp [this], h.la, h.lb, h.lc, hn, h.ab, h.ac, h.ad, h.bc, h.bd, h.cd⟩
theorem ca (h : Mx w W g t ws a b c d va vb vc vd) : W.cell? ⟨g, a, none⟩ = some (.int .u32 (va : Int)) := h.blk.cellv (wcells_get h.ga)
theorem cb (h : Mx w W g t ws a b c d va vb vc vd) : W.cell? ⟨g, b, none⟩ = some (.int .u32 (vb : Int)) := h.blk.cellv (wcells_get h.gb)
theorem cc (h : Mx w W g t ws a b c d va vb vc vd) : W.cell? ⟨g, c, none⟩ = some (.int .u32 (vc : Int)) := h.blk.cellv (wcells_get h.gc)
theorem cdd (h : Mx w W g t ws a b c d va vb vc vd) : W.cell? ⟨g, d, none⟩ = some (.int .u32 (vd : Int)) := h.blk.cellv (wcells_get h.gd)
end Mx
theorem add2 (p q r : Nat) : ((p : Int) + ((q : Int) + r) % 4294967296) % 4294967296 = ((Bl.add32 p (Bl.add32 q r) : Nat) : Int) := by simp [Bl.add32]
theorem eight (ws : List Nat) (a b c d a1 b1 c1 d1 a2 b2 c2 d2 : Nat) (ab : a ≠ b) (ac : a ≠ c) (ad : a ≠ d) (bc : b ≠ c) (bd : b ≠ d) (cd : c ≠ d) :
    ((((((((ws.set a a1).set d d1).set c c1).set b b1).set a a2).set d d2).set c c2).set b b2) = (((ws.set a a2).set b b2).set c c2).set d d2 := by
  apply List.ext_getElem?
  intro i
  simp only [List.getElem?_set, List.length_set]
  by_cases h1 : a = i <;> by_cases h2 : b = i <;> by_cases h3 : c = i <;> by_cases h4 : d = i <;> simp_all

set_option maxHeartbeats 1000000 in
set_option maxRecDepth 100000 in
theorem mix_walk (w : World) (g : Nat) (t : TypeId) (ws : List Nat) (a b c d va vb vc vd x y : Nat) (ha : (a : Int) < 16) (hb : (b : Int) < 16) (hc : (c : Int) < 16) (hd : (d : Int) < 16) (h : Mx w w g t ws a b c d va vb vc vd) :
    Calls Tryd.prog 142 #[.pointer (some ⟨g, 0, none⟩), .int .i64 a, .int .i64 b, .int .i64 c, .int .i64 d, .int .u32 x, .int .u32 y] w fun e w' => e = .returned (.tuple #[]) ∧ Blk w' g t (wcells (Bl.mixw ws a b c d x y)) ∧ Only [g] w w' := by
  have ca := h.ca
  have cb := h.cb
  have fz := h.blk.frozen a
  go_enter Tryd.func142, Tryd.ntmps142
  go_wp2
  go_still_tail 15, (by kernel_rfl)
  go_wp2
  clear ca cb fz
  have h1 := h.setA (add2 va vb x) (Bl.add32_lt _ _)
  revert h1
  generalize World.drew _ = W1
  intro h1
  obtain ⟨a1, ea1⟩ : ∃ n, n = Bl.add32 va (Bl.add32 vb x) := ⟨_, rfl⟩
  rw [← ea1] at h1
  have Ha1 := Lib.hid ea1
  clear ea1
  obtain ⟨z2, ez2⟩ : ∃ n, n = vd ^^^ a1 := ⟨_, rfl⟩
  have xz2 : bits .xor .u32 (vd : Int) (a1 : Int) = (z2 : Int) := by rw [ez2]; exact u32_xor_nat _ _ h1.ld h1.la
  have lz2 : z2 < 4294967296 := by rw [ez2]; exact Bl.xor_lt _ _ h1.ld h1.la
  have Hz2 := Lib.hid ez2
  clear ez2
  have c1 := h1.cdd
  have c2 := h1.ca
  have fz := h1.blk.frozen d
  go_still_tail 16, (by kernel_rfl)
  still_call (rot16 z2 lz2 _)
  repeat still_step
  refine wpStill_nil ?_
  go_wp2
  clear c1 c2 fz xz2
  have h2 := h1.setD (n := Bl.ror z2 16) rfl (Bl.ror_lt _ _ lz2)
  revert h2
  generalize World.drew _ = W2
  intro h2
  obtain ⟨d1, ed1⟩ : ∃ n, n = Bl.ror z2 16 := ⟨_, rfl⟩
  rw [← ed1] at h2
  have Hd1 := Lib.hid ed1
  clear ed1 h1
  have c1 := h2.cc
  have c2 := h2.cdd
  have fz := h2.blk.frozen c
  go_still_tail 13, (by kernel_rfl)
  go_wp2
  clear c1 c2 fz
  have h3 := h2.setC (Bl.add_cast vc d1) (Bl.add32_lt _ _)
  revert h3
  generalize World.drew _ = W3
  intro h3
  obtain ⟨c1v, ec1v⟩ : ∃ n, n = Bl.add32 vc d1 := ⟨_, rfl⟩
  rw [← ec1v] at h3
  have Hc1v := Lib.hid ec1v
  clear ec1v h2
  obtain ⟨z4, ez4⟩ : ∃ n, n = vb ^^^ c1v := ⟨_, rfl⟩
  have xz4 : bits .xor .u32 (vb : Int) (c1v : Int) = (z4 : Int) := by rw [ez4]; exact u32_xor_nat _ _ h3.lb h3.lc
  have lz4 : z4 < 4294967296 := by rw [ez4]; exact Bl.xor_lt _ _ h3.lb h3.lc
  have Hz4 := Lib.hid ez4
  clear ez4
  have c1 := h3.cb
  have c2 := h3.cc
  have fz := h3.blk.frozen b
  go_still_tail 16, (by kernel_rfl)
  still_call (rot12 z4 lz4 _)
  repeat still_step
  refine wpStill_nil ?_
  go_wp2
  clear c1 c2 fz xz4
  have h4 := h3.setB (n := Bl.ror z4 12) rfl (Bl.ror_lt _ _ lz4)
  revert h4
  generalize World.drew _ = W4
  intro h4
  obtain ⟨b1, eb1⟩ : ∃ n, n = Bl.ror z4 12 := ⟨_, rfl⟩
  rw [← eb1] at h4
  have Hb1 := Lib.hid eb1
  clear eb1 h3
  have c1 := h4.ca
  have c2 := h4.cb
  have fz := h4.blk.frozen a
  go_still_tail 15, (by kernel_rfl)
  go_wp2
  clear c1 c2 fz
  have h5 := h4.setA (add2 a1 b1 y) (Bl.add32_lt _ _)
  revert h5
  generalize World.drew _ = W5
  intro h5
  obtain ⟨a2, ea2⟩ : ∃ n, n = Bl.add32 a1 (Bl.add32 b1 y) := ⟨_, rfl⟩
  rw [← ea2] at h5
  have Ha2 := Lib.hid ea2
  clear ea2 h4
  obtain ⟨z6, ez6⟩ : ∃ n, n = d1 ^^^ a2 := ⟨_, rfl⟩
  have xz6 : bits .xor .u32 (d1 : Int) (a2 : Int) = (z6 : Int) := by rw [ez6]; exact u32_xor_nat _ _ h5.ld h5.la
  have lz6 : z6 < 4294967296 := by rw [ez6]; exact Bl.xor_lt _ _ h5.ld h5.la
  have Hz6 := Lib.hid ez6
  clear ez6
  have c1 := h5.cdd
  have c2 := h5.ca
  have fz := h5.blk.frozen d
  go_still_tail 16, (by kernel_rfl)
  still_call (rot8 z6 lz6 _)
  repeat still_step
  refine wpStill_nil ?_
  go_wp2
  clear c1 c2 fz xz6
  have h6 := h5.setD (n := Bl.ror z6 8) rfl (Bl.ror_lt _ _ lz6)
  revert h6
  generalize World.drew _ = W6
  intro h6
  obtain ⟨d2, ed2⟩ : ∃ n, n = Bl.ror z6 8 := ⟨_, rfl⟩
  rw [← ed2] at h6
  have Hd2 := Lib.hid ed2
  clear ed2 h5
  have c1 := h6.cc
  have c2 := h6.cdd
  have fz := h6.blk.frozen c
  go_still_tail 13, (by kernel_rfl)
  go_wp2
  clear c1 c2 fz
  have h7 := h6.setC (Bl.add_cast c1v d2) (Bl.add32_lt _ _)
  revert h7
  generalize World.drew _ = W7
  intro h7
  obtain ⟨c2v, ec2v⟩ : ∃ n, n = Bl.add32 c1v d2 := ⟨_, rfl⟩
  rw [← ec2v] at h7
  have Hc2v := Lib.hid ec2v
  clear ec2v h6
  obtain ⟨z8, ez8⟩ : ∃ n, n = b1 ^^^ c2v := ⟨_, rfl⟩
  have xz8 : bits .xor .u32 (b1 : Int) (c2v : Int) = (z8 : Int) := by rw [ez8]; exact u32_xor_nat _ _ h7.lb h7.lc
  have lz8 : z8 < 4294967296 := by rw [ez8]; exact Bl.xor_lt _ _ h7.lb h7.lc
  have Hz8 := Lib.hid ez8
  clear ez8
  have c1 := h7.cb
  have c2 := h7.cc
  have fz := h7.blk.frozen b
  go_still_tail 16, (by kernel_rfl)
  still_call (rot7 z8 lz8 _)
  repeat still_step
  refine wpStill_nil ?_
  go_wp2
  clear c1 c2 fz xz8
  have h8 := h7.setB (n := Bl.ror z8 7) rfl (Bl.ror_lt _ _ lz8)
  revert h8
  generalize World.drew _ = W8
  intro h8
  obtain ⟨b2, eb2⟩ : ∃ n, n = Bl.ror z8 7 := ⟨_, rfl⟩
  rw [← eb2] at h8
  have Hb2 := Lib.hid eb2
  clear eb2 h7
  refine bodyPost_end (results_none rfl _ _ _) rfl ⟨rfl, ?_, h8.only⟩
  have hb8 := h8.blk
  rw [eight _ _ _ _ _ _ _ _ _ _ _ _ _ h.ab h.ac h.ad h.bc h.bd h.cd] at hb8
  have e1 : ws.getD a 0 = va := by simp [h.ga]
  have e2 : ws.getD b 0 = vb := by simp [h.gb]
  have e3 : ws.getD c 0 = vc := by simp [h.gc]
  have e4 : ws.getD d 0 = vd := by simp [h.gd]
  have e : Bl.mixw ws a b c d x y = (((ws.set a a2).set b b2).set c c2v).set d d2 := by
    simp only [Bl.mixw, Bl.gmix, Bl.half, e1, e2, e3, e4]
    rw [Hb2.out, Hz8.out, Hc2v.out, Hd2.out, Hz6.out, Ha2.out, Hb1.out, Hz4.out, Hc1v.out, Hd1.out, Hz2.out, Ha1.out]
  rw [e]
  exact hb8
theorem mix_at (w : World) (g : Nat) (t : TypeId) (ws : List Nat) (a b c d x y : Nat) (hw : Bl.Words 16 ws) (hb : Blk w g t (wcells ws)) (la : a < 16) (lb : b < 16) (lc : c < 16) (ld : d < 16)
    (ab : a ≠ b) (ac : a ≠ c) (ad : a ≠ d) (bc : b ≠ c) (bd : b ≠ d) (cd : c ≠ d) :
    Calls Tryd.prog 142 #[.pointer (some ⟨g, 0, none⟩), .int .i64 a, .int .i64 b, .int .i64 c, .int .i64 d, .int .u32 x, .int .u32 y] w fun e w' => e = .returned (.tuple #[]) ∧ Blk w' g t (wcells (Bl.mixw ws a b c d x y)) ∧ Only [g] w w' := by
  have gt : ∀ i, i < 16 → ws[i]? = some (ws.getD i 0) := fun i hi => by have := hw.1; simp [this, hi]
  exact mix_walk w g t ws a b c d _ _ _ _ x y (by omega) (by omega) (by omega) (by omega)
    ⟨hb, Only.refl _ _, gt a la, gt b lb, gt c lc, gt d ld, hw.getD a, hw.getD b, hw.getD c, hw.getD d, ab, ac, ad, bc, bd, cd⟩
theorem mix_lane0 (w : World) (g : Nat) (t : TypeId) (ws : List Nat) (x y : Nat) (hw : Bl.Words 16 ws) (hb : Blk w g t (wcells ws)) :
    Calls Tryd.prog 142 #[.pointer (some ⟨g, 0, none⟩), .int .i64 0, .int .i64 4, .int .i64 8, .int .i64 12, .int .u32 x, .int .u32 y] w fun e w' => e = .returned (.tuple #[]) ∧ Blk w' g t (wcells (Bl.mixw ws 0 4 8 12 x y)) ∧ Only [g] w w' :=
  mix_at w g t ws 0 4 8 12 x y hw hb (by decide) (by decide) (by decide) (by decide) (by decide) (by decide) (by decide) (by decide) (by decide) (by decide)
theorem mix_lane1 (w : World) (g : Nat) (t : TypeId) (ws : List Nat) (x y : Nat) (hw : Bl.Words 16 ws) (hb : Blk w g t (wcells ws)) :
    Calls Tryd.prog 142 #[.pointer (some ⟨g, 0, none⟩), .int .i64 1, .int .i64 5, .int .i64 9, .int .i64 13, .int .u32 x, .int .u32 y] w fun e w' => e = .returned (.tuple #[]) ∧ Blk w' g t (wcells (Bl.mixw ws 1 5 9 13 x y)) ∧ Only [g] w w' :=
  mix_at w g t ws 1 5 9 13 x y hw hb (by decide) (by decide) (by decide) (by decide) (by decide) (by decide) (by decide) (by decide) (by decide) (by decide)
theorem mix_lane2 (w : World) (g : Nat) (t : TypeId) (ws : List Nat) (x y : Nat) (hw : Bl.Words 16 ws) (hb : Blk w g t (wcells ws)) :
    Calls Tryd.prog 142 #[.pointer (some ⟨g, 0, none⟩), .int .i64 2, .int .i64 6, .int .i64 10, .int .i64 14, .int .u32 x, .int .u32 y] w fun e w' => e = .returned (.tuple #[]) ∧ Blk w' g t (wcells (Bl.mixw ws 2 6 10 14 x y)) ∧ Only [g] w w' :=
  mix_at w g t ws 2 6 10 14 x y hw hb (by decide) (by decide) (by decide) (by decide) (by decide) (by decide) (by decide) (by decide) (by decide) (by decide)
theorem mix_lane3 (w : World) (g : Nat) (t : TypeId) (ws : List Nat) (x y : Nat) (hw : Bl.Words 16 ws) (hb : Blk w g t (wcells ws)) :
    Calls Tryd.prog 142 #[.pointer (some ⟨g, 0, none⟩), .int .i64 3, .int .i64 7, .int .i64 11, .int .i64 15, .int .u32 x, .int .u32 y] w fun e w' => e = .returned (.tuple #[]) ∧ Blk w' g t (wcells (Bl.mixw ws 3 7 11 15 x y)) ∧ Only [g] w w' :=
  mix_at w g t ws 3 7 11 15 x y hw hb (by decide) (by decide) (by decide) (by decide) (by decide) (by decide) (by decide) (by decide) (by decide) (by decide)
theorem mix_lane4 (w : World) (g : Nat) (t : TypeId) (ws : List Nat) (x y : Nat) (hw : Bl.Words 16 ws) (hb : Blk w g t (wcells ws)) :
    Calls Tryd.prog 142 #[.pointer (some ⟨g, 0, none⟩), .int .i64 0, .int .i64 5, .int .i64 10, .int .i64 15, .int .u32 x, .int .u32 y] w fun e w' => e = .returned (.tuple #[]) ∧ Blk w' g t (wcells (Bl.mixw ws 0 5 10 15 x y)) ∧ Only [g] w w' :=
  mix_at w g t ws 0 5 10 15 x y hw hb (by decide) (by decide) (by decide) (by decide) (by decide) (by decide) (by decide) (by decide) (by decide) (by decide)
theorem mix_lane5 (w : World) (g : Nat) (t : TypeId) (ws : List Nat) (x y : Nat) (hw : Bl.Words 16 ws) (hb : Blk w g t (wcells ws)) :
    Calls Tryd.prog 142 #[.pointer (some ⟨g, 0, none⟩), .int .i64 1, .int .i64 6, .int .i64 11, .int .i64 12, .int .u32 x, .int .u32 y] w fun e w' => e = .returned (.tuple #[]) ∧ Blk w' g t (wcells (Bl.mixw ws 1 6 11 12 x y)) ∧ Only [g] w w' :=
  mix_at w g t ws 1 6 11 12 x y hw hb (by decide) (by decide) (by decide) (by decide) (by decide) (by decide) (by decide) (by decide) (by decide) (by decide)
theorem mix_lane6 (w : World) (g : Nat) (t : TypeId) (ws : List Nat) (x y : Nat) (hw : Bl.Words 16 ws) (hb : Blk w g t (wcells ws)) :
    Calls Tryd.prog 142 #[.pointer (some ⟨g, 0, none⟩), .int .i64 2, .int .i64 7, .int .i64 8, .int .i64 13, .int .u32 x, .int .u32 y] w fun e w' => e = .returned (.tuple #[]) ∧ Blk w' g t (wcells (Bl.mixw ws 2 7 8 13 x y)) ∧ Only [g] w w' :=
  mix_at w g t ws 2 7 8 13 x y hw hb (by decide) (by decide) (by decide) (by decide) (by decide) (by decide) (by decide) (by decide) (by decide) (by decide)
theorem mix_lane7 (w : World) (g : Nat) (t : TypeId) (ws : List Nat) (x y : Nat) (hw : Bl.Words 16 ws) (hb : Blk w g t (wcells ws)) :
    Calls Tryd.prog 142 #[.pointer (some ⟨g, 0, none⟩), .int .i64 3, .int .i64 4, .int .i64 9, .int .i64 14, .int .u32 x, .int .u32 y] w fun e w' => e = .returned (.tuple #[]) ∧ Blk w' g t (wcells (Bl.mixw ws 3 4 9 14 x y)) ∧ Only [g] w w' :=
  mix_at w g t ws 3 4 9 14 x y hw hb (by decide) (by decide) (by decide) (by decide) (by decide) (by decide) (by decide) (by decide) (by decide) (by decide)
end Go.Proofs.YtchbgfgboogniaaDoor
namespace Go.Proofs.YtchbgfgboogniaaDoor
open Go.RowKit
/-- A Hash in memory: made, the state, the block, fill, before, written. -/
def hcells (st : List Nat) (blk : List UInt8) (fill before written : Int) : List Value := .bool true :: (wcells st ++ (cellsOf blk ++ [.int .i64 fill, .int .u64 before, .int .i64 written]))
@[simp] theorem wcells_length (ws : List Nat) : (wcells ws).length = ws.length := by simp [wcells]
section
variable {st : List Nat} {blk : List UInt8} {fill before written : Int}
theorem hcells_length (hs : st.length = 8) (hb : blk.length = 64) : (hcells st blk fill before written).length = 76 := by simp [hcells, hs, hb]
theorem hcells_st (hs : st.length = 8) {i : Nat} (hi : i < 8) : (hcells st blk fill before written)[1 + i]? = some (.int .u32 (st.getD i 0 : Nat)) := by
  rw [Nat.add_comm]
  simp only [hcells, List.getElem?_cons_succ]
  rw [List.getElem?_append_left (by simp [hs, hi])]
  simp [wcells, hs, hi]
theorem hcells_set (hs : st.length = 8) {i : Nat} (hi : i < 8) (n : Nat) : (hcells st blk fill before written).set (1 + i) (.int .u32 (n : Int)) = hcells (st.set i n) blk fill before written := by
  rw [Nat.add_comm]
  simp only [hcells, List.set_cons_succ]
  rw [List.set_append_left _ _ (by simp [hs, hi])]
  rw [wcells_set]
theorem hcells_blk (hs : st.length = 8) (hb : blk.length = 64) {j : Nat} (hj : j < 64) : (hcells st blk fill before written)[9 + j]? = some (.int .u8 (blk.getD j 0).toNat) := by
  have e : 9 + j = (8 + j) + 1 := by omega
  rw [e]
  simp only [hcells, List.getElem?_cons_succ]
  rw [List.getElem?_append_right (by simp [hs]), List.getElem?_append_left (by simp [hs, hb]; omega)]
  simp [hs, cellsOf, hb, hj]
theorem hcells_tail (hs : st.length = 8) (hb : blk.length = 64) (j : Nat) : (hcells st blk fill before written)[73 + j]? = [Value.int .i64 fill, .int .u64 before, .int .i64 written][j]? := by
  have e : 73 + j = (72 + j) + 1 := by omega
  rw [e]
  simp only [hcells, List.getElem?_cons_succ]
  rw [List.getElem?_append_right (by simp [hs]; omega), List.getElem?_append_right (by simp [hs, hb]; omega)]
  simp only [wcells_length, cellsOf_length, hs, hb]
  congr 1
  omega
end
/-- The two tables of the package. -/
structure Gl (w : World) : Prop where
  ini : ∀ j, j < 8 → w.cell? ⟨0, j, none⟩ = some (.int .u32 (Bl.iv.getD j 0 : Nat))
  tab : ∀ r j, r < 10 → j < 16 → w.cell? ⟨1, 16 * r + j, none⟩ = some (.int .u8 ((Bl.tab.getD r []).getD j 0 : Nat))
  sz : 2 ≤ w.heap.size
theorem Gl.keep {S : List Nat} {w w' : World} (h : Gl w) (ho : Only S w w') (h0 : 0 ∉ S) (h1 : 1 ∉ S) : Gl w' :=
  ⟨fun j hj => (ho.cell (p := ⟨_, j, none⟩) (Nat.lt_of_lt_of_le (show 0 < 2 by decide) h.sz) h0).trans (h.ini j hj),
   fun r j hr hj => (ho.cell (p := ⟨_, 16 * r + j, none⟩) (Nat.lt_of_lt_of_le (show 1 < 2 by decide) h.sz) h1).trans (h.tab r j hr hj), Nat.le_trans h.sz ho.size⟩

theorem u32size : (Tryd.prog.info? 178).map (·.size) = some 1 := by kernel_rfl
theorem arr16size : (Tryd.prog.info? 193).map (·.size) = some 16 := by kernel_rfl
theorem arr8size : (Tryd.prog.info? 183).map (·.size) = some 8 := by kernel_rfl
theorem wcells_one {ws : List Nat} : ∀ u ∈ wcells ws, u.oneCell' = true := by
  intro u hu
  obtain ⟨b, _, rfl⟩ := List.mem_map.1 hu
  rfl

theorem wget {n : Nat} {ws : List Nat} (h : Bl.Words n ws) {i : Nat} (hi : i < n) : ws[i]? = some (ws.getD i 0) := by have := h.1; simp [this, hi]
theorem range_getD {st : List Nat} {n : Nat} (hs : st.length = n) : (List.range n).map (fun i => st.getD i 0) = st := by
  apply List.ext_getElem?
  intro i
  by_cases hi : i < n
  · rw [List.getElem?_map, List.getElem?_range hi]; simp [hs, hi]
  · rw [List.getElem?_eq_none (by simpa using hi), List.getElem?_eq_none (by omega)]
theorem vset {st : List Nat} {f z : Nat → Nat} {k : Nat} (hs : st.length = 8) (hk : k < 8) : (wcells (st ++ fillTo 8 f z k)).set (8 + k) (.int .u32 (f k : Nat)) = wcells (st ++ fillTo 8 f z (k + 1)) := by
  rw [wcells_set, List.set_append_right _ _ (by omega), hs, Nat.add_sub_cancel_left, fillTo_set hk]
theorem iv_get {st : List Nat} (hs : st.length = 8) (i : Nat) (_hi : i < 8) : (st ++ Bl.iv)[8 + i]? = some (Bl.ivf i) := by
  rw [List.getElem?_append_right (by omega), hs, Nat.add_sub_cancel_left]
  have : i < Bl.iv.length := _hi
  simp [Bl.ivf, this]

set_option maxHeartbeats 4000000 in
set_option maxRecDepth 100000 in
theorem comp_any (w : World) (gh gb ob : Nat) (tH : TypeId) (st : List Nat) (blk bs : List UInt8) (fill before written : Int) (t : Nat) (last : Bool) (hst : Bl.Words 8 st) (_hblk : blk.length = 64)
    (hH : Blk w gh tH (hcells st blk fill before written)) (hgl : Gl w) (_hg2 : 2 ≤ gh) (_ht : t < 18446744073709551616)
    (hcell : ∀ j, j < 64 → w.cell? ⟨gb, ob + j, none⟩ = some (.int .u8 (bs.getD j 0).toNat)) (hgb : gb < w.heap.size) :
    Calls Tryd.prog 137 #[.pointer (some ⟨gh, 0, none⟩), .slice (some ⟨gb, ob, none⟩) 64 64, .int .u64 t, .bool last] w fun e w' =>
      e = .returned (.tuple #[]) ∧ Blk w' gh tH (hcells (Bl.comp st bs t last) blk fill before written) ∧ Only [gh] w w' := by
  have hC := Lib.hid hcell
  clear hcell
  go_enter Tryd.func137, Tryd.ntmps137
  go_wp2
  go_loopw [17, 9, 10] (fun a _ _ wr => ∃ k : Nat, k ≤ 16 ∧ a = .int .i64 k ∧ Blk wr w.heap.size 192 (wcells (fillTo 16 (Bl.mw bs) (fun _ => 0) k)) ∧ Only [] w wr) (fun a _ _ _ => 16 - (intOf a).toNat)
  case atStart => exact ⟨0, by omega, rfl, Blk.new w _ _, (Only.refl [] w).alloc _⟩
  case round =>
    obtain ⟨k, hk, rfl, hB, hO⟩ := hrel
    by_cases hlt : k < 16
    · have e4 : 4 * k + 4 - 4 * k = 4 := by omega
      obtain ⟨b0, E0⟩ : ∃ n, n = (bs.getD (4 * k) 0).toNat := ⟨_, rfl⟩
      obtain ⟨b1, E1⟩ : ∃ n, n = (bs.getD (4 * k + 1) 0).toNat := ⟨_, rfl⟩
      obtain ⟨b2, E2⟩ : ∃ n, n = (bs.getD (4 * k + 2) 0).toNat := ⟨_, rfl⟩
      obtain ⟨b3, E3⟩ : ∃ n, n = (bs.getD (4 * k + 3) 0).toNat := ⟨_, rfl⟩
      have l0 : b0 < 256 := by rw [E0]; exact UInt8.toNat_lt _
      have l1 : b1 < 256 := by rw [E1]; exact UInt8.toNat_lt _
      have l2 : b2 < 256 := by rw [E2]; exact UInt8.toNat_lt _
      have l3 : b3 < 256 := by rw [E3]; exact UInt8.toNat_lt _
      have c0 : wr.cell? ⟨gb, ob + 4 * k, none⟩ = some (.int .u8 (b0 : Int)) := by
        rw [hO.cell (p := ⟨gb, ob + 4 * k, none⟩) hgb (by simp), E0]; exact hC.out _ (by omega)
      have c1 : wr.cell? ⟨gb, ob + 4 * k + 1, none⟩ = some (.int .u8 (b1 : Int)) := by
        rw [hO.cell (p := ⟨gb, ob + 4 * k + 1, none⟩) hgb (by simp), E1]; exact hC.out (4 * k + 1) (by omega)
      have c2 : wr.cell? ⟨gb, ob + 4 * k + 2, none⟩ = some (.int .u8 (b2 : Int)) := by
        rw [hO.cell (p := ⟨gb, ob + 4 * k + 2, none⟩) hgb (by simp), E2]; exact hC.out (4 * k + 2) (by omega)
      have c3 : wr.cell? ⟨gb, ob + 4 * k + 3, none⟩ = some (.int .u8 (b3 : Int)) := by
        rw [hO.cell (p := ⟨gb, ob + 4 * k + 3, none⟩) hgb (by simp), E3]; exact hC.out (4 * k + 3) (by omega)
      have cm : wr.cell? ⟨w.heap.size, k, none⟩ = some (.int .u32 (0 : Nat)) := hB.cellv (wcells_get (by rw [fillTo_get hlt, if_neg (by omega)]))
      have Hn : Hid (Bl.mword b0 b1 b2 b3 = Bl.mw bs k) := by rw [E0, E1, E2, E3]; rfl
      clear E0 E1 E2 E3
      have fz := hB.frozen k
      go_wp2
      go_still_tail 24, (by kernel_rfl)
      go_wp2
      go_roundw
      case rel =>
        refine ⟨k + 1, by omega, by go_num, ?_, ?_⟩
        · rw [Bl.mword_cast l0 l1 l2 l3, Hn.out, ← fillTo_set hlt, ← wcells_set]
          exact (hB.set k _).drew
        · exact (hO.setCell (p := ⟨w.heap.size, k, none⟩) (.inr (Nat.le_refl _)) _).drew
      case measure => simp [intOf]; omega
    · obtain rfl : k = 16 := by omega
      rw [fillTo_all] at hB
      have hB1 : Blk wr w.heap.size 192 (wcells (Bl.mws bs)) := hB
      rw [show ((16 : Nat) : Int) = 16 from rfl]
      clear hB hlt hk
      go_wp2
      have hV0 := Blk.new wr 192 (wcells (List.replicate 16 0))
      have hO0 := hO.alloc (.cells (wcells (List.replicate 16 0)).toArray 192)
      have hM0 := hB1.alloc (.cells (wcells (List.replicate 16 0)).toArray 192)
      have hl : w.heap.size < wr.heap.size := hB1.lt
      revert hV0 hO0 hM0
      simp only [wcells, List.replicate_succ, List.replicate_zero, List.map_cons, List.map_nil]
      generalize World.alloc _ _ = W1
      generalize wr.heap.size = gv at hl ⊢
      intro hV0 hO0 hM0
      have hH1 := hH.keep hO0 (by simp)
      have hgv : w.heap.size < gv := hl
      have hgw := hH.lt
      clear hB1 hO
      go_still_tail 5, (by kernel_rfl)
      refine wpl_copy rfl (.tmp 55) (.tmp 59) _ _ rfl 178 Tryd.underlying176 u32size _ _ _ _ _ _ rfl rfl gv 0 _ _ hV0.drew (wcells st) (by simp [hst.1]) (fun _ => ⟨rfl, _, rfl, ?_⟩) (by simp [hst.1]) wcells_one ?_
      · intro j v hv
        have hj : j < 8 := by have := (List.getElem?_eq_some_iff.1 hv).1; simpa [hst.1] using this
        rw [Addr.add_mid]
        show W1.cell? _ = _
        rw [hH1.cell, hcells_st hst.1 hj, ← hv]
        simp [wcells, hst.1, hj]
      intro W2 hV2 hO2
      have hO3 : Only [] w W2 := hO0.trans (Only.undrew (w := W1) hO2) (by simp; omega)
      have hM2 : Blk W2 w.heap.size 192 (wcells (Bl.mws bs)) := hM0.keep (Only.undrew (w := W1) hO2) (by simp; omega)
      have hVe : splice (wcells (List.replicate 16 0)) 0 (wcells st) = wcells (st ++ fillTo 8 Bl.ivf (fun _ => 0) 0) := by
        simp [splice, hst.1, wcells, fillTo, List.replicate, List.range, List.range.loop]
      have hV3 : Blk W2 gv 192 (wcells (st ++ fillTo 8 Bl.ivf (fun _ => 0) 0)) := by rw [← hVe]; simpa [wcells, List.replicate] using hV2
      clear hV2 hVe hO2 hV0 hM0 hO0 hH1
      have hini : ∀ j, j < (wcells Bl.iv).length → W2.cell? ⟨0, 0 + j, none⟩ = (wcells Bl.iv)[j]? := by
        intro j hj
        have hj' : j < 8 := by simpa [Bl.iv] using hj
        rw [Nat.zero_add, (hgl.keep hO3 (by simp) (by simp)).ini j hj']
        have : j < Bl.iv.length := hj'
        simp [wcells, this]
      have Hini := Lib.hid hini
      clear hini
      go_wp2_with (refine wpl_load_at rfl 183 _ rfl 0 0 rfl (wcells Bl.iv) _ Tryd.underlying183 rfl arr8size Hini.out ?_)
      clear Hini
      obtain ⟨ivc, Hiv⟩ : ∃ c, Hid (c = (wcells Bl.iv).toArray) := ⟨_, rfl⟩
      rw [← Hiv.out]
      go_loopw [62, 12, 13] (fun a _ _ wr => ∃ k : Nat, k ≤ 8 ∧ a = .int .i64 k ∧ Blk wr gv 192 (wcells (st ++ fillTo 8 Bl.ivf (fun _ => 0) k)) ∧ Blk wr w.heap.size 192 (wcells (Bl.mws bs)) ∧ Only [] w wr) (fun a _ _ _ => 8 - (intOf a).toNat)
      case atStart => exact ⟨0, by omega, rfl, hV3, hM2, hO3⟩
      case round =>
        clear hV3 hM2 hO3
        obtain ⟨k, hk, rfl, hV, hM, hO⟩ := hrel
        by_cases hlt : k < 8
        · have hidx : ∀ w, (Instr.index 183 (.agg ivc) (.int .i64 (k : Int))).run Tryd.prog w = .ok (.int .u32 (Bl.ivf k : Nat)) w := by
            rw [Hiv.out]
            have hk8 : k < Bl.iv.length := hlt
            exact run_index_row Tryd.underlying183 Tryd.underlying178 rfl u32size hlt (wcells_get (by simp [Bl.ivf, hk8]))
          have cv : wr.cell? ⟨gv, 8 + k, none⟩ = some (.int .u32 (0 : Nat)) := by
            refine hV.cellv (wcells_get ?_)
            rw [List.getElem?_append_right (by rw [hst.1]; omega), hst.1, Nat.add_sub_cancel_left, fillTo_get hlt, if_neg (by omega)]
          have fz := hV.frozen (8 + k)
          go_wp2
          go_roundw
          case rel =>
            refine ⟨k + 1, by omega, by go_num, ?_, ?_, ?_⟩
            · rw [← vset hst.1 hlt]; exact hV.set (8 + k) _
            · exact hM.far (p := ⟨gv, 8 + k, none⟩) (by simp; omega) _
            · exact hO.setCell (p := ⟨gv, 8 + k, none⟩) (.inr (by simp; omega)) _
          case measure => simp [intOf]; omega
        · obtain rfl : k = 8 := by omega
          rw [fillTo_all, Bl.ivf_all] at hV
          rw [show ((8 : Nat) : Int) = 8 from rfl]
          clear hlt hk
          have c12 : wr.cell? ⟨gv, 12, none⟩ = some (.int .u32 (1359893119 : Int)) := hV.cellv (wcells_get (iv_get hst.1 4 (by decide)))
          have c13 : wr.cell? ⟨gv, 13, none⟩ = some (.int .u32 (2600822924 : Int)) := hV.cellv (wcells_get (iv_get hst.1 5 (by decide)))
          have f12 := hV.frozen 12
          have f13 := hV.frozen 13
          obtain ⟨z12, ez12⟩ : ∃ n, n = 1359893119 ^^^ t % 4294967296 := ⟨_, rfl⟩
          obtain ⟨z13, ez13⟩ : ∃ n, n = 2600822924 ^^^ t / 4294967296 % 4294967296 := ⟨_, rfl⟩
          have x12 : bits .xor .u32 1359893119 ((t : Int) % 4294967296) = (z12 : Int) := by
            have := u32_xor_nat 1359893119 (t % 4294967296) (by decide) (by omega); rw [ez12]; simpa using this
          have x13 : bits .xor .u32 2600822924 ((t : Int) / 4294967296) = (z13 : Int) := by
            have := u32_xor_nat 2600822924 (t / 4294967296) (by decide) (by omega); rw [ez13, Nat.mod_eq_of_lt (by omega)]; simpa using this
          have Hz12 := Lib.hid ez12
          have Hz13 := Lib.hid ez13
          clear ez12 ez13
          go_upto_if 84 with (fail)
          have hV5 : Blk ((wr.setCell ⟨gv, 12, none⟩ (.int .u32 (z12 : Int))).setCell ⟨gv, 13, none⟩ (.int .u32 (z13 : Int))) gv 192 (wcells (((st ++ Bl.iv).set 12 z12).set 13 z13)) := by
            rw [← wcells_set, ← wcells_set]; exact (hV.set 12 _).set 13 _
          have hM5 := (hM.far (p := ⟨gv, 12, none⟩) (by simp; omega) (.int .u32 (z12 : Int))).far (p := ⟨gv, 13, none⟩) (by simp; omega) (.int .u32 (z13 : Int))
          have hO5 := (hO.setCell (p := ⟨gv, 12, none⟩) (.inr (by simp; omega)) (.int .u32 (z12 : Int))).setCell (p := ⟨gv, 13, none⟩) (.inr (by simp; omega)) (.int .u32 (z13 : Int))
          clear c12 c13 f12 f13 x12 x13 hV hM hO
          revert hV5 hM5 hO5
          generalize World.setCell (World.setCell _ _ _) _ _ = W3
          intro hV5 hM5 hO5
          go_cut [] (fun wx => Blk wx gv 192 (wcells (Bl.vinit st t last)) ∧ Blk wx w.heap.size 192 (wcells (Bl.mws bs)) ∧ Only [] w wx)
          case first =>
            cases last
            · go_wp2
              go_meet
              have e : Bl.vinit st t false = ((st ++ Bl.iv).set 12 z12).set 13 z13 := by rw [Hz12.out, Hz13.out]; rfl
              exact ⟨by rw [e]; exact hV5, hM5, hO5⟩
            · have c14 : W3.cell? ⟨gv, 14, none⟩ = some (.int .u32 (528734635 : Int)) := by
                refine hV5.cellv (wcells_get ?_)
                rw [List.getElem?_set_ne (by decide), List.getElem?_set_ne (by decide)]
                exact iv_get hst.1 6 (by decide)
              have f14 := hV5.frozen 14
              have x14 : bits .xor .u32 528734635 4294967295 = ((528734635 ^^^ 4294967295 : Nat) : Int) := by decide +kernel
              go_wp2
              go_meet
              have e : Bl.vinit st t true = (((st ++ Bl.iv).set 12 z12).set 13 z13).set 14 (528734635 ^^^ 4294967295) := by rw [Hz12.out, Hz13.out]; rfl
              refine ⟨?_, hM5.far (p := ⟨gv, 14, none⟩) (by simp; omega) _, hO5.setCell (p := ⟨gv, 14, none⟩) (.inr (by simp; omega)) _⟩
              rw [e, ← wcells_set]
              exact hV5.set 14 _
          case rest =>
            clear hV5 hM5 hO5 Hz12 Hz13
            obtain ⟨hV6, hM6, hO6⟩ := hcut
            go_wp2
            go_loopw [89, 14, 15] (fun a _ _ wr => ∃ k : Nat, k ≤ 10 ∧ a = .int .i64 k ∧ Blk wr gv 192 (wcells (Bl.rounds (Bl.mws bs) k (Bl.vinit st t last))) ∧ Blk wr w.heap.size 192 (wcells (Bl.mws bs)) ∧ Only [] w wr) (fun a _ _ _ => 10 - (intOf a).toNat)
            case atStart => exact ⟨0, by omega, rfl, hV6, hM6, hO6⟩
            case round =>
              clear hV6 hM6 hO6
              obtain ⟨k, hk, rfl, hV, hM, hO⟩ := hrel
              by_cases hlt : k < 10
              · have hrow : ∀ j, j < ((Bl.tab.getD k []).map fun (n : Nat) => Value.int .u8 (n : Int)).length → wr.cell? ⟨1, k * 16 + j, none⟩ = ((Bl.tab.getD k []).map fun (n : Nat) => Value.int .u8 (n : Int))[j]? := by
                  intro j hj
                  have hj' : j < 16 := by rw [List.length_map, Bl.tab_len k hlt] at hj; exact hj
                  have hj2 : j < (Bl.tab.getD k []).length := by rw [Bl.tab_len k hlt]; exact hj'
                  rw [Nat.mul_comm, (hgl.keep hO (by simp) (by simp)).tab k j hlt hj', List.getElem?_map, List.getElem?_eq_getElem hj2, List.getD_eq_getElem?_getD, List.getElem?_eq_getElem hj2]
                  rfl
                obtain ⟨row, Hrow⟩ : ∃ r, Hid (r = Bl.tab.getD k []) := ⟨_, rfl⟩
                rw [← Hrow.out] at hrow
                have rl : ∀ j, row.getD j 0 < 16 := by rw [Hrow.out]; exact Bl.tab_lt k hlt
                have rlen : row.length = 16 := by rw [Hrow.out]; exact Bl.tab_len k hlt
                have hrs : (Tryd.prog.info? 193).map (·.size) = some (row.map fun (n : Nat) => Value.int .u8 (n : Int)).length := by rw [List.length_map, rlen]; exact arr16size
                have Rl := Lib.hid rl
                have Rlen := Lib.hid rlen
                have Rs := Lib.hid hrs
                have Rw := Lib.hid hrow
                clear rl rlen hrs hrow
                go_wp2_with (first | (refine wpl_load_at rfl 193 _ rfl 1 (k * 16) rfl (row.map fun (n : Nat) => Value.int .u8 (n : Int)) _ Tryd.underlying193 rfl Rs.out Rw.out ?_) | (refine wpl_store_all rfl 193 _ _ rfl wr.heap.size (row.map fun (n : Nat) => Value.int .u8 (n : Int)) rfl rfl 193 [.int .u8 0, .int .u8 0, .int .u8 0, .int .u8 0, .int .u8 0, .int .u8 0, .int .u8 0, .int .u8 0, .int .u8 0, .int .u8 0, .int .u8 0, .int .u8 0, .int .u8 0, .int .u8 0, .int .u8 0, .int .u8 0] (Blk.new wr _ _) (by rw [List.length_map, Rlen.out]; rfl) Rs.out ?h1 ?_; case h1 => (intro v hv; obtain ⟨b, _, rfl⟩ := List.mem_map.1 hv; rfl)); intro V0 hR0 hO0)
                go_frame
                have hV0 : Blk V0 gv 192 (wcells (Bl.rounds (Bl.mws bs) k (Bl.vinit st t last))) := (hV.alloc _).keep hO0 (by have := hV.lt; simp; omega)
                have hM0 : Blk V0 w.heap.size 192 (wcells (Bl.mws bs)) := (hM.alloc _).keep hO0 (by have := hM.lt; simp; omega)
                have hP0 : Only [] w V0 := (hO.alloc _).trans hO0 (by have := hO.size; simp; omega)
                have hvr : gv < wr.heap.size := hV.lt
                have hw0 := Bl.rounds_words (m := Bl.mws bs) (Bl.vinit_words (t := t) (last := last) hst) k
                revert hR0 hvr
                clear hO0
                generalize wr.heap.size = gr
                intro hR0 hvr
                obtain ⟨vs0, Hv0⟩ : ∃ v, Hid (v = Bl.rounds (Bl.mws bs) k (Bl.vinit st t last)) := ⟨_, rfl⟩
                rw [← Hv0.out] at hV0 hw0
                clear hV hM hO
                have hmw := Bl.mws_words bs
                obtain ⟨p0, Hp0⟩ : ∃ n, Hid (n = row.getD 0 0) := ⟨_, rfl⟩
                obtain ⟨q0, Hq0⟩ : ∃ n, Hid (n = row.getD 1 0) := ⟨_, rfl⟩
                obtain ⟨x0, Hx0⟩ : ∃ n, Hid (n = (Bl.mws bs).getD p0 0) := ⟨_, rfl⟩
                obtain ⟨y0, Hy0⟩ : ∃ n, Hid (n = (Bl.mws bs).getD q0 0) := ⟨_, rfl⟩
                have lp : p0 < 16 := by rw [Hp0.out]; exact Rl.out _
                have lq : q0 < 16 := by rw [Hq0.out]; exact Rl.out _
                have lp' : (p0 : Int) < 16 := by omega
                have lq' : (q0 : Int) < 16 := by omega
                have cp : V0.cell? ⟨gr, 0, none⟩ = some (.int .u8 (p0 : Int)) := hR0.cellv (by have := Rlen.out; rw [Hp0.out]; simp [this])
                have cq : V0.cell? ⟨gr, 1, none⟩ = some (.int .u8 (q0 : Int)) := hR0.cellv (by have := Rlen.out; rw [Hq0.out]; simp [this])
                have cx : V0.cell? ⟨w.heap.size, p0, none⟩ = some (.int .u32 (x0 : Int)) := hM0.cellv (wcells_get (by have := hmw.1; rw [Hx0.out]; simp [this, lp]))
                have cy : V0.cell? ⟨w.heap.size, q0, none⟩ = some (.int .u32 (y0 : Int)) := hM0.cellv (wcells_get (by have := hmw.1; rw [Hy0.out]; simp [this, lq]))
                go_still_tail 8, (by kernel_rfl)
                clear cp cq cx cy
                go_wp2_with (go_at_call 142; refine (mix_lane0 _ gv 192 vs0 x0 y0 hw0 hV0.drew).mono ?_; rintro e V1 ⟨rfl, hV1, hO1⟩)
                obtain ⟨vs1, Hv1⟩ : ∃ v, Hid (v = Bl.mixw vs0 0 4 8 12 x0 y0) := ⟨_, rfl⟩
                have hw1 : Bl.Words 16 vs1 := by rw [Hv1.out]; exact Bl.mixw_words hw0 _ _ _ _ _ _
                rw [← Hv1.out] at hV1
                have hP1 : Only [] w V1 := hP0.trans (Only.undrew (w := V0) hO1) (by simp; omega)
                have hM1 : Blk V1 w.heap.size 192 (wcells (Bl.mws bs)) := hM0.keep (Only.undrew (w := V0) hO1) (by simp; omega)
                have hR1 := hR0.keep (Only.undrew (w := V0) hO1) (by simp; omega)
                clear hO1 hP0 hM0 hR0 hV0 hw0 lp lq lp' lq'
                obtain ⟨p1, Hp1⟩ : ∃ n, Hid (n = row.getD 2 0) := ⟨_, rfl⟩
                obtain ⟨q1, Hq1⟩ : ∃ n, Hid (n = row.getD 3 0) := ⟨_, rfl⟩
                obtain ⟨x1, Hx1⟩ : ∃ n, Hid (n = (Bl.mws bs).getD p1 0) := ⟨_, rfl⟩
                obtain ⟨y1, Hy1⟩ : ∃ n, Hid (n = (Bl.mws bs).getD q1 0) := ⟨_, rfl⟩
                have lp : p1 < 16 := by rw [Hp1.out]; exact Rl.out _
                have lq : q1 < 16 := by rw [Hq1.out]; exact Rl.out _
                have lp' : (p1 : Int) < 16 := by omega
                have lq' : (q1 : Int) < 16 := by omega
                have cp : V1.cell? ⟨gr, 2, none⟩ = some (.int .u8 (p1 : Int)) := hR1.cellv (by have := Rlen.out; rw [Hp1.out]; simp [this])
                have cq : V1.cell? ⟨gr, 3, none⟩ = some (.int .u8 (q1 : Int)) := hR1.cellv (by have := Rlen.out; rw [Hq1.out]; simp [this])
                have cx : V1.cell? ⟨w.heap.size, p1, none⟩ = some (.int .u32 (x1 : Int)) := hM1.cellv (wcells_get (by have := hmw.1; rw [Hx1.out]; simp [this, lp]))
                have cy : V1.cell? ⟨w.heap.size, q1, none⟩ = some (.int .u32 (y1 : Int)) := hM1.cellv (wcells_get (by have := hmw.1; rw [Hy1.out]; simp [this, lq]))
                go_still_tail 8, (by kernel_rfl)
                clear cp cq cx cy
                go_wp2_with (go_at_call 142; refine (mix_lane1 _ gv 192 vs1 x1 y1 hw1 hV1.drew).mono ?_; rintro e V2 ⟨rfl, hV2, hO2⟩)
                obtain ⟨vs2, Hv2⟩ : ∃ v, Hid (v = Bl.mixw vs1 1 5 9 13 x1 y1) := ⟨_, rfl⟩
                have hw2 : Bl.Words 16 vs2 := by rw [Hv2.out]; exact Bl.mixw_words hw1 _ _ _ _ _ _
                rw [← Hv2.out] at hV2
                have hP2 : Only [] w V2 := hP1.trans (Only.undrew (w := V1) hO2) (by simp; omega)
                have hM2 : Blk V2 w.heap.size 192 (wcells (Bl.mws bs)) := hM1.keep (Only.undrew (w := V1) hO2) (by simp; omega)
                have hR2 := hR1.keep (Only.undrew (w := V1) hO2) (by simp; omega)
                clear hO2 hP1 hM1 hR1 hV1 hw1 lp lq lp' lq'
                obtain ⟨p2, Hp2⟩ : ∃ n, Hid (n = row.getD 4 0) := ⟨_, rfl⟩
                obtain ⟨q2, Hq2⟩ : ∃ n, Hid (n = row.getD 5 0) := ⟨_, rfl⟩
                obtain ⟨x2, Hx2⟩ : ∃ n, Hid (n = (Bl.mws bs).getD p2 0) := ⟨_, rfl⟩
                obtain ⟨y2, Hy2⟩ : ∃ n, Hid (n = (Bl.mws bs).getD q2 0) := ⟨_, rfl⟩
                have lp : p2 < 16 := by rw [Hp2.out]; exact Rl.out _
                have lq : q2 < 16 := by rw [Hq2.out]; exact Rl.out _
                have lp' : (p2 : Int) < 16 := by omega
                have lq' : (q2 : Int) < 16 := by omega
                have cp : V2.cell? ⟨gr, 4, none⟩ = some (.int .u8 (p2 : Int)) := hR2.cellv (by have := Rlen.out; rw [Hp2.out]; simp [this])
                have cq : V2.cell? ⟨gr, 5, none⟩ = some (.int .u8 (q2 : Int)) := hR2.cellv (by have := Rlen.out; rw [Hq2.out]; simp [this])
                have cx : V2.cell? ⟨w.heap.size, p2, none⟩ = some (.int .u32 (x2 : Int)) := hM2.cellv (wcells_get (by have := hmw.1; rw [Hx2.out]; simp [this, lp]))
                have cy : V2.cell? ⟨w.heap.size, q2, none⟩ = some (.int .u32 (y2 : Int)) := hM2.cellv (wcells_get (by have := hmw.1; rw [Hy2.out]; simp [this, lq]))
                go_still_tail 8, (by kernel_rfl)
                clear cp cq cx cy
                go_wp2_with (go_at_call 142; refine (mix_lane2 _ gv 192 vs2 x2 y2 hw2 hV2.drew).mono ?_; rintro e V3 ⟨rfl, hV3, hO3⟩)
                obtain ⟨vs3, Hv3⟩ : ∃ v, Hid (v = Bl.mixw vs2 2 6 10 14 x2 y2) := ⟨_, rfl⟩
                have hw3 : Bl.Words 16 vs3 := by rw [Hv3.out]; exact Bl.mixw_words hw2 _ _ _ _ _ _
                rw [← Hv3.out] at hV3
                have hP3 : Only [] w V3 := hP2.trans (Only.undrew (w := V2) hO3) (by simp; omega)
                have hM3 : Blk V3 w.heap.size 192 (wcells (Bl.mws bs)) := hM2.keep (Only.undrew (w := V2) hO3) (by simp; omega)
                have hR3 := hR2.keep (Only.undrew (w := V2) hO3) (by simp; omega)
                clear hO3 hP2 hM2 hR2 hV2 hw2 lp lq lp' lq'
                obtain ⟨p3, Hp3⟩ : ∃ n, Hid (n = row.getD 6 0) := ⟨_, rfl⟩
                obtain ⟨q3, Hq3⟩ : ∃ n, Hid (n = row.getD 7 0) := ⟨_, rfl⟩
                obtain ⟨x3, Hx3⟩ : ∃ n, Hid (n = (Bl.mws bs).getD p3 0) := ⟨_, rfl⟩
                obtain ⟨y3, Hy3⟩ : ∃ n, Hid (n = (Bl.mws bs).getD q3 0) := ⟨_, rfl⟩
                have lp : p3 < 16 := by rw [Hp3.out]; exact Rl.out _
                have lq : q3 < 16 := by rw [Hq3.out]; exact Rl.out _
                have lp' : (p3 : Int) < 16 := by omega
                have lq' : (q3 : Int) < 16 := by omega
                have cp : V3.cell? ⟨gr, 6, none⟩ = some (.int .u8 (p3 : Int)) := hR3.cellv (by have := Rlen.out; rw [Hp3.out]; simp [this])
                have cq : V3.cell? ⟨gr, 7, none⟩ = some (.int .u8 (q3 : Int)) := hR3.cellv (by have := Rlen.out; rw [Hq3.out]; simp [this])
                have cx : V3.cell? ⟨w.heap.size, p3, none⟩ = some (.int .u32 (x3 : Int)) := hM3.cellv (wcells_get (by have := hmw.1; rw [Hx3.out]; simp [this, lp]))
                have cy : V3.cell? ⟨w.heap.size, q3, none⟩ = some (.int .u32 (y3 : Int)) := hM3.cellv (wcells_get (by have := hmw.1; rw [Hy3.out]; simp [this, lq]))
                go_still_tail 8, (by kernel_rfl)
                clear cp cq cx cy
                go_wp2_with (go_at_call 142; refine (mix_lane3 _ gv 192 vs3 x3 y3 hw3 hV3.drew).mono ?_; rintro e V4 ⟨rfl, hV4, hO4⟩)
                obtain ⟨vs4, Hv4⟩ : ∃ v, Hid (v = Bl.mixw vs3 3 7 11 15 x3 y3) := ⟨_, rfl⟩
                have hw4 : Bl.Words 16 vs4 := by rw [Hv4.out]; exact Bl.mixw_words hw3 _ _ _ _ _ _
                rw [← Hv4.out] at hV4
                have hP4 : Only [] w V4 := hP3.trans (Only.undrew (w := V3) hO4) (by simp; omega)
                have hM4 : Blk V4 w.heap.size 192 (wcells (Bl.mws bs)) := hM3.keep (Only.undrew (w := V3) hO4) (by simp; omega)
                have hR4 := hR3.keep (Only.undrew (w := V3) hO4) (by simp; omega)
                clear hO4 hP3 hM3 hR3 hV3 hw3 lp lq lp' lq'
                obtain ⟨p4, Hp4⟩ : ∃ n, Hid (n = row.getD 8 0) := ⟨_, rfl⟩
                obtain ⟨q4, Hq4⟩ : ∃ n, Hid (n = row.getD 9 0) := ⟨_, rfl⟩
                obtain ⟨x4, Hx4⟩ : ∃ n, Hid (n = (Bl.mws bs).getD p4 0) := ⟨_, rfl⟩
                obtain ⟨y4, Hy4⟩ : ∃ n, Hid (n = (Bl.mws bs).getD q4 0) := ⟨_, rfl⟩
                have lp : p4 < 16 := by rw [Hp4.out]; exact Rl.out _
                have lq : q4 < 16 := by rw [Hq4.out]; exact Rl.out _
                have lp' : (p4 : Int) < 16 := by omega
                have lq' : (q4 : Int) < 16 := by omega
                have cp : V4.cell? ⟨gr, 8, none⟩ = some (.int .u8 (p4 : Int)) := hR4.cellv (by have := Rlen.out; rw [Hp4.out]; simp [this])
                have cq : V4.cell? ⟨gr, 9, none⟩ = some (.int .u8 (q4 : Int)) := hR4.cellv (by have := Rlen.out; rw [Hq4.out]; simp [this])
                have cx : V4.cell? ⟨w.heap.size, p4, none⟩ = some (.int .u32 (x4 : Int)) := hM4.cellv (wcells_get (by have := hmw.1; rw [Hx4.out]; simp [this, lp]))
                have cy : V4.cell? ⟨w.heap.size, q4, none⟩ = some (.int .u32 (y4 : Int)) := hM4.cellv (wcells_get (by have := hmw.1; rw [Hy4.out]; simp [this, lq]))
                go_still_tail 8, (by kernel_rfl)
                clear cp cq cx cy
                go_wp2_with (go_at_call 142; refine (mix_lane4 _ gv 192 vs4 x4 y4 hw4 hV4.drew).mono ?_; rintro e V5 ⟨rfl, hV5, hO5⟩)
                obtain ⟨vs5, Hv5⟩ : ∃ v, Hid (v = Bl.mixw vs4 0 5 10 15 x4 y4) := ⟨_, rfl⟩
                have hw5 : Bl.Words 16 vs5 := by rw [Hv5.out]; exact Bl.mixw_words hw4 _ _ _ _ _ _
                rw [← Hv5.out] at hV5
                have hP5 : Only [] w V5 := hP4.trans (Only.undrew (w := V4) hO5) (by simp; omega)
                have hM5 : Blk V5 w.heap.size 192 (wcells (Bl.mws bs)) := hM4.keep (Only.undrew (w := V4) hO5) (by simp; omega)
                have hR5 := hR4.keep (Only.undrew (w := V4) hO5) (by simp; omega)
                clear hO5 hP4 hM4 hR4 hV4 hw4 lp lq lp' lq'
                obtain ⟨p5, Hp5⟩ : ∃ n, Hid (n = row.getD 10 0) := ⟨_, rfl⟩
                obtain ⟨q5, Hq5⟩ : ∃ n, Hid (n = row.getD 11 0) := ⟨_, rfl⟩
                obtain ⟨x5, Hx5⟩ : ∃ n, Hid (n = (Bl.mws bs).getD p5 0) := ⟨_, rfl⟩
                obtain ⟨y5, Hy5⟩ : ∃ n, Hid (n = (Bl.mws bs).getD q5 0) := ⟨_, rfl⟩
                have lp : p5 < 16 := by rw [Hp5.out]; exact Rl.out _
                have lq : q5 < 16 := by rw [Hq5.out]; exact Rl.out _
                have lp' : (p5 : Int) < 16 := by omega
                have lq' : (q5 : Int) < 16 := by omega
                have cp : V5.cell? ⟨gr, 10, none⟩ = some (.int .u8 (p5 : Int)) := hR5.cellv (by have := Rlen.out; rw [Hp5.out]; simp [this])
                have cq : V5.cell? ⟨gr, 11, none⟩ = some (.int .u8 (q5 : Int)) := hR5.cellv (by have := Rlen.out; rw [Hq5.out]; simp [this])
                have cx : V5.cell? ⟨w.heap.size, p5, none⟩ = some (.int .u32 (x5 : Int)) := hM5.cellv (wcells_get (by have := hmw.1; rw [Hx5.out]; simp [this, lp]))
                have cy : V5.cell? ⟨w.heap.size, q5, none⟩ = some (.int .u32 (y5 : Int)) := hM5.cellv (wcells_get (by have := hmw.1; rw [Hy5.out]; simp [this, lq]))
                go_still_tail 8, (by kernel_rfl)
                clear cp cq cx cy
                go_wp2_with (go_at_call 142; refine (mix_lane5 _ gv 192 vs5 x5 y5 hw5 hV5.drew).mono ?_; rintro e V6 ⟨rfl, hV6, hO6⟩)
                obtain ⟨vs6, Hv6⟩ : ∃ v, Hid (v = Bl.mixw vs5 1 6 11 12 x5 y5) := ⟨_, rfl⟩
                have hw6 : Bl.Words 16 vs6 := by rw [Hv6.out]; exact Bl.mixw_words hw5 _ _ _ _ _ _
                rw [← Hv6.out] at hV6
                have hP6 : Only [] w V6 := hP5.trans (Only.undrew (w := V5) hO6) (by simp; omega)
                have hM6 : Blk V6 w.heap.size 192 (wcells (Bl.mws bs)) := hM5.keep (Only.undrew (w := V5) hO6) (by simp; omega)
                have hR6 := hR5.keep (Only.undrew (w := V5) hO6) (by simp; omega)
                clear hO6 hP5 hM5 hR5 hV5 hw5 lp lq lp' lq'
                obtain ⟨p6, Hp6⟩ : ∃ n, Hid (n = row.getD 12 0) := ⟨_, rfl⟩
                obtain ⟨q6, Hq6⟩ : ∃ n, Hid (n = row.getD 13 0) := ⟨_, rfl⟩
                obtain ⟨x6, Hx6⟩ : ∃ n, Hid (n = (Bl.mws bs).getD p6 0) := ⟨_, rfl⟩
                obtain ⟨y6, Hy6⟩ : ∃ n, Hid (n = (Bl.mws bs).getD q6 0) := ⟨_, rfl⟩
                have lp : p6 < 16 := by rw [Hp6.out]; exact Rl.out _
                have lq : q6 < 16 := by rw [Hq6.out]; exact Rl.out _
                have lp' : (p6 : Int) < 16 := by omega
                have lq' : (q6 : Int) < 16 := by omega
                have cp : V6.cell? ⟨gr, 12, none⟩ = some (.int .u8 (p6 : Int)) := hR6.cellv (by have := Rlen.out; rw [Hp6.out]; simp [this])
                have cq : V6.cell? ⟨gr, 13, none⟩ = some (.int .u8 (q6 : Int)) := hR6.cellv (by have := Rlen.out; rw [Hq6.out]; simp [this])
                have cx : V6.cell? ⟨w.heap.size, p6, none⟩ = some (.int .u32 (x6 : Int)) := hM6.cellv (wcells_get (by have := hmw.1; rw [Hx6.out]; simp [this, lp]))
                have cy : V6.cell? ⟨w.heap.size, q6, none⟩ = some (.int .u32 (y6 : Int)) := hM6.cellv (wcells_get (by have := hmw.1; rw [Hy6.out]; simp [this, lq]))
                go_still_tail 8, (by kernel_rfl)
                clear cp cq cx cy
                go_wp2_with (go_at_call 142; refine (mix_lane6 _ gv 192 vs6 x6 y6 hw6 hV6.drew).mono ?_; rintro e V7 ⟨rfl, hV7, hO7⟩)
                obtain ⟨vs7, Hv7⟩ : ∃ v, Hid (v = Bl.mixw vs6 2 7 8 13 x6 y6) := ⟨_, rfl⟩
                have hw7 : Bl.Words 16 vs7 := by rw [Hv7.out]; exact Bl.mixw_words hw6 _ _ _ _ _ _
                rw [← Hv7.out] at hV7
                have hP7 : Only [] w V7 := hP6.trans (Only.undrew (w := V6) hO7) (by simp; omega)
                have hM7 : Blk V7 w.heap.size 192 (wcells (Bl.mws bs)) := hM6.keep (Only.undrew (w := V6) hO7) (by simp; omega)
                have hR7 := hR6.keep (Only.undrew (w := V6) hO7) (by simp; omega)
                clear hO7 hP6 hM6 hR6 hV6 hw6 lp lq lp' lq'
                obtain ⟨p7, Hp7⟩ : ∃ n, Hid (n = row.getD 14 0) := ⟨_, rfl⟩
                obtain ⟨q7, Hq7⟩ : ∃ n, Hid (n = row.getD 15 0) := ⟨_, rfl⟩
                obtain ⟨x7, Hx7⟩ : ∃ n, Hid (n = (Bl.mws bs).getD p7 0) := ⟨_, rfl⟩
                obtain ⟨y7, Hy7⟩ : ∃ n, Hid (n = (Bl.mws bs).getD q7 0) := ⟨_, rfl⟩
                have lp : p7 < 16 := by rw [Hp7.out]; exact Rl.out _
                have lq : q7 < 16 := by rw [Hq7.out]; exact Rl.out _
                have lp' : (p7 : Int) < 16 := by omega
                have lq' : (q7 : Int) < 16 := by omega
                have cp : V7.cell? ⟨gr, 14, none⟩ = some (.int .u8 (p7 : Int)) := hR7.cellv (by have := Rlen.out; rw [Hp7.out]; simp [this])
                have cq : V7.cell? ⟨gr, 15, none⟩ = some (.int .u8 (q7 : Int)) := hR7.cellv (by have := Rlen.out; rw [Hq7.out]; simp [this])
                have cx : V7.cell? ⟨w.heap.size, p7, none⟩ = some (.int .u32 (x7 : Int)) := hM7.cellv (wcells_get (by have := hmw.1; rw [Hx7.out]; simp [this, lp]))
                have cy : V7.cell? ⟨w.heap.size, q7, none⟩ = some (.int .u32 (y7 : Int)) := hM7.cellv (wcells_get (by have := hmw.1; rw [Hy7.out]; simp [this, lq]))
                go_still_tail 8, (by kernel_rfl)
                clear cp cq cx cy
                go_wp2_with (go_at_call 142; refine (mix_lane7 _ gv 192 vs7 x7 y7 hw7 hV7.drew).mono ?_; rintro e V8 ⟨rfl, hV8, hO8⟩)
                obtain ⟨vs8, Hv8⟩ : ∃ v, Hid (v = Bl.mixw vs7 3 4 9 14 x7 y7) := ⟨_, rfl⟩
                have hw8 : Bl.Words 16 vs8 := by rw [Hv8.out]; exact Bl.mixw_words hw7 _ _ _ _ _ _
                rw [← Hv8.out] at hV8
                have hP8 : Only [] w V8 := hP7.trans (Only.undrew (w := V7) hO8) (by simp; omega)
                have hM8 : Blk V8 w.heap.size 192 (wcells (Bl.mws bs)) := hM7.keep (Only.undrew (w := V7) hO8) (by simp; omega)
                have hR8 := hR7.keep (Only.undrew (w := V7) hO8) (by simp; omega)
                clear hO8 hP7 hM7 hR7 hV7 hw7 lp lq lp' lq'
                go_roundw
                case rel =>
                  refine ⟨k + 1, by omega, by go_num, ?_, hM8, hP8⟩
                  have e : Bl.rounds (Bl.mws bs) (k + 1) (Bl.vinit st t last) = vs8 := by
                    rw [Hv8.out, Hv7.out, Hv6.out, Hv5.out, Hv4.out, Hv3.out, Hv2.out, Hv1.out, Hv0.out]
                    rw [Hx0.out, Hy0.out, Hp0.out, Hq0.out, Hx1.out, Hy1.out, Hp1.out, Hq1.out, Hx2.out, Hy2.out, Hp2.out, Hq2.out, Hx3.out, Hy3.out, Hp3.out, Hq3.out, Hx4.out, Hy4.out, Hp4.out, Hq4.out, Hx5.out, Hy5.out, Hp5.out, Hq5.out, Hx6.out, Hy6.out, Hp6.out, Hq6.out, Hx7.out, Hy7.out, Hp7.out, Hq7.out, Hrow.out]
                    rfl
                  rw [e]
                  exact hV8
                case measure => simp [intOf]; omega
              · obtain rfl : k = 10 := by omega
                rw [show ((10 : Nat) : Int) = 10 from rfl]
                clear hlt hk
                have hvw := Bl.rounds_words (m := Bl.mws bs) (Bl.vinit_words (t := t) (last := last) hst) 10
                have hcomp : Bl.comp st bs t last = (List.range 8).map fun i => st.getD i 0 ^^^ ((Bl.rounds (Bl.mws bs) 10 (Bl.vinit st t last)).getD i 0 ^^^ (Bl.rounds (Bl.mws bs) 10 (Bl.vinit st t last)).getD (i + 8) 0) := rfl
                obtain ⟨vf, Hvf⟩ : ∃ v, Hid (v = Bl.rounds (Bl.mws bs) 10 (Bl.vinit st t last)) := ⟨_, rfl⟩
                rw [← Hvf.out] at hV hvw hcomp
                have Hcomp := Lib.hid hcomp
                clear hcomp hM
                have hH9 := hH.keep hO (by simp)
                go_wp2
                go_loopw [168, 16] (fun a _ wr => ∃ k : Nat, k ≤ 8 ∧ a = .int .i64 k ∧ Blk wr gv 192 (wcells vf) ∧ Blk wr gh tH (hcells (fillTo 8 (fun i => st.getD i 0 ^^^ (vf.getD i 0 ^^^ vf.getD (i + 8) 0)) (fun i => st.getD i 0) k) blk fill before written) ∧ Only [gh] w wr) (fun a _ _ => 8 - (intOf a).toNat)
                case atStart =>
                  refine ⟨0, by omega, rfl, hV, ?_, hO.mono (by simp)⟩
                  rw [fillTo_zero, range_getD hst.1]
                  exact hH9
                case round =>
                  clear hV hH9 hO
                  obtain ⟨k, hk, rfl, hV, hH9, hO⟩ := hrel
                  by_cases hlt : k < 8
                  · obtain ⟨sv, Hs⟩ : ∃ n, Hid (n = st.getD k 0) := ⟨_, rfl⟩
                    obtain ⟨v1, Hv1⟩ : ∃ n, Hid (n = vf.getD k 0) := ⟨_, rfl⟩
                    obtain ⟨v2, Hv2⟩ : ∃ n, Hid (n = vf.getD (k + 8) 0) := ⟨_, rfl⟩
                    have ls : sv < 4294967296 := by rw [Hs.out]; exact hst.getD _
                    have lv1 : v1 < 4294967296 := by rw [Hv1.out]; exact hvw.getD _
                    have lv2 : v2 < 4294967296 := by rw [Hv2.out]; exact hvw.getD _
                    obtain ⟨z, Hz⟩ : ∃ n, Hid (n = v1 ^^^ v2) := ⟨_, rfl⟩
                    obtain ⟨z', Hz'⟩ : ∃ n, Hid (n = sv ^^^ z) := ⟨_, rfl⟩
                    have xz : bits .xor .u32 (v1 : Int) (v2 : Int) = (z : Int) := by rw [Hz.out]; exact u32_xor_nat _ _ lv1 lv2
                    have xz' : bits .xor .u32 (sv : Int) (z : Int) = (z' : Int) := by rw [Hz'.out]; exact u32_xor_nat _ _ ls (by rw [Hz.out]; exact Bl.xor_lt _ _ lv1 lv2)
                    have cs : wr.cell? ⟨gh, 1 + k, none⟩ = some (.int .u32 (sv : Int)) := hH9.cellv (by
                      rw [hcells_st (by simp) hlt, List.getD_eq_getElem?_getD, fillTo_get hlt, if_neg (by omega), Hs.out]; rfl)
                    have c1 : wr.cell? ⟨gv, k, none⟩ = some (.int .u32 (v1 : Int)) := hV.cellv (wcells_get (by rw [Hv1.out]; exact wget hvw (by omega)))
                    have c2 : wr.cell? ⟨gv, k + 8, none⟩ = some (.int .u32 (v2 : Int)) := hV.cellv (wcells_get (by rw [Hv2.out]; exact wget hvw (by omega)))
                    have fz := hH9.frozen (1 + k)
                    have i1 : (k : Int) < 16 := by omega
                    have i2 : (k : Int) + 8 < 16 := by omega
                    have i3 : 0 ≤ (k : Int) + 8 := by omega
                    have i4 : (k : Int) < 8 := by omega
                    have w1 : IntKind.i64.wrap ((k : Int) + 8) = (k : Int) + 8 := IntWalk.i64_in _ (by omega)
                    have t1 : ((k : Int) + 8).toNat = k + 8 := by omega
                    go_wp2
                    go_still_tail 18, (by kernel_rfl)
                    go_wp2
                    go_roundw
                    case rel =>
                      refine ⟨k + 1, by omega, by go_num, (hV.far (p := ⟨gh, 1 + k, none⟩) (by simp; omega) _).drew, ?_, (hO.setCell (p := ⟨gh, 1 + k, none⟩) (.inl (by simp)) _).drew⟩
                      have e : (z' : Int) = ((st.getD k 0 ^^^ (vf.getD k 0 ^^^ vf.getD (k + 8) 0) : Nat) : Int) := by rw [Hz'.out, Hz.out, Hs.out, Hv1.out, Hv2.out]
                      rw [e, ← fillTo_set hlt, ← hcells_set (by simp) hlt]
                      exact (hH9.set (1 + k) _).drew
                    case measure => simp [intOf]; omega
                  · obtain rfl : k = 8 := by omega
                    rw [fillTo_all, ← Hcomp.out] at hH9
                    go_wp2
                    go_end0
                    exact ⟨rfl, hH9, hO⟩
end Go.Proofs.YtchbgfgboogniaaDoor
namespace Go.Proofs.YtchbgfgboogniaaDoor
namespace Bl
/-- The first state with a key of n bytes. -/
def st0 (n : Nat) : List Nat := iv.set 0 (1779033703 ^^^ (16842784 + n * 256))
theorem st0_words {n : Nat} (h : n ≤ 32) : Words 8 (st0 n) := iv_words.set 0 (xor_lt _ _ (by decide) (by omega))
/-- The state after q blocks of the message M, none of them the last. -/
def stq (n : Nat) (M : List UInt8) : Nat → List Nat
  | 0 => st0 n
  | q + 1 => comp (stq n M q) (M.drop (64 * q)) (64 * (q + 1)) false
theorem stq_words {n : Nat} {M : List UInt8} (h : n ≤ 32) : ∀ q, Words 8 (stq n M q)
  | 0 => st0_words h
  | q + 1 => comp_words (stq_words h q)
theorem mws_congr {a b : List UInt8} (h : ∀ j, j < 64 → a.getD j 0 = b.getD j 0) : mws a = mws b := by
  unfold mws
  apply List.map_congr_left
  intro i hi
  have hi := List.mem_range.1 hi
  unfold mw
  rw [h (4 * i) (by omega), h (4 * i + 1) (by omega), h (4 * i + 2) (by omega), h (4 * i + 3) (by omega)]
theorem comp_congr {a b : List UInt8} (h : ∀ j, j < 64 → a.getD j 0 = b.getD j 0) (st : List Nat) (t : Nat) (last : Bool) : comp st a t last = comp st b t last := by
  unfold comp
  rw [mws_congr h]
theorem getD_append_left {α : Type} {a b : List α} {j : Nat} {d : α} (h : j < a.length) : (a ++ b).getD j d = a.getD j d := by
  simp [List.getElem?_append_left h]
theorem stq_append {n : Nat} {M x : List UInt8} : ∀ {q : Nat}, 64 * q ≤ M.length → stq n (M ++ x) q = stq n M q
  | 0, _ => rfl
  | q + 1, h => by
    simp only [stq]
    rw [stq_append (q := q) (by omega)]
    refine comp_congr (fun j hj => ?_) _ _ _
    rw [List.drop_append_of_le_length (by omega)]
    exact getD_append_left (by rw [List.length_drop]; omega)
/-- Eight words as 32 bytes, the least significant one first. -/
def leb (ws : List Nat) : List UInt8 := (List.range 32).map fun i => UInt8.ofNat (ws.getD (i / 4) 0 / 2 ^ (8 * (i % 4)))
@[simp] theorem leb_length (ws : List Nat) : (leb ws).length = 32 := by simp [leb]
/-- The hash of a message with a key of n bytes (the key's block is the message's first). -/
def hashM (n : Nat) (M : List UInt8) : List UInt8 := leb (comp (stq n M ((M.length - 1) / 64)) (M.drop (64 * ((M.length - 1) / 64))) M.length true)
@[simp] theorem hashM_length (n : Nat) (M : List UInt8) : (hashM n M).length = 32 := by simp [hashM]
/-- A key's block. -/
def kblock (key : List UInt8) : List UInt8 := if key.length = 0 then [] else key ++ List.replicate (64 - key.length) 0
def hash (key b : List UInt8) : List UInt8 := hashM key.length (kblock key ++ b)
@[simp] theorem hash_length (key b : List UInt8) : (hash key b).length = 32 := by simp [hash]
end Bl
end Go.Proofs.YtchbgfgboogniaaDoor
namespace Go.Proofs.YtchbgfgboogniaaDoor
open Go.RowKit
/-- A slice that reads as bytes: its address counts only where there is a byte. -/
def RB (w : World) (A : Option Addr) (bs : List UInt8) : Prop :=
  0 < bs.length → ∃ g o, A = some ⟨g, o, none⟩ ∧ g < w.heap.size ∧ ∀ j, j < bs.length → w.cell? ⟨g, o + j, none⟩ = some (.int .u8 (bs.getD j 0).toNat)
theorem RB.keep {S : List Nat} {w w' : World} {A : Option Addr} {bs : List UInt8} (h : RB w A bs) (ho : Only S w w') (hn : ∀ p, A = some p → p.block ∉ S) : RB w' A bs := by
  intro h0
  obtain ⟨g, o, rfl, hg, hc⟩ := h h0
  exact ⟨g, o, rfl, Nat.lt_of_lt_of_le hg ho.size, fun j hj => (ho.cell (p := ⟨g, o + j, none⟩) hg (hn ⟨g, o, none⟩ rfl)).trans (hc j hj)⟩
theorem RB.keep0 {w w' : World} {A : Option Addr} {bs : List UInt8} (h : RB w A bs) (ho : Only [] w w') : RB w' A bs := h.keep ho (by simp)
theorem RB.nil {w : World} {A : Option Addr} : RB w A [] := fun h => absurd h (by simp)

def z64 : List UInt8 := List.replicate 64 0
theorem u8size : (Tryd.prog.info? 5).map (·.size) = some 1 := by kernel_rfl
theorem splice_hcells {st : List Nat} {blk xs : List UInt8} {f : Nat} {fill before written : Int} (hs : st.length = 8) (_hb : blk.length = 64) (hf : f + xs.length ≤ 64) :
    splice (hcells st blk fill before written) (9 + f) (cellsOf xs) = hcells st (splice blk f xs) fill before written := by
  have e : 9 + f = (8 + f) + 1 := by omega
  have e2 : 8 + f + 1 + xs.length = (8 + (f + xs.length)) + 1 := by omega
  simp only [splice, hcells, cellsOf_length, e, e2, List.take_succ_cons, List.drop_succ_cons, List.cons_append]
  congr 1
  rw [List.take_append, List.drop_append, List.take_of_length_le (by simp [hs]), List.drop_eq_nil_of_le (by simp [hs])]
  simp only [wcells_length, hs, Nat.add_sub_cancel_left, List.nil_append, List.append_assoc]
  congr 1
  rw [List.take_append_of_le_length (by simp [_hb]; omega), List.drop_append_of_le_length (by simp [_hb]; omega)]
  simp [cellsOf, List.map_append, List.map_take, List.map_drop]
theorem splice_length {α : Type} {l xs : List α} {f : Nat} (h : f + xs.length ≤ l.length) : (splice l f xs).length = l.length := length_splice l f xs h
theorem hcells_fill {st : List Nat} {blk : List UInt8} {fill before written f' : Int} (hs : st.length = 8) (hb : blk.length = 64) :
    (hcells st blk fill before written).set 73 (.int .i64 f') = hcells st blk f' before written := by
  have e : 73 = 72 + 1 := rfl
  rw [e]
  simp only [hcells, List.set_cons_succ]
  rw [List.set_append_right _ _ (by simp [hs]), List.set_append_right _ _ (by simp [hs, hb])]
  simp [hs, hb]
theorem hcells_before {st : List Nat} {blk : List UInt8} {fill before written f' : Int} (hs : st.length = 8) (hb : blk.length = 64) :
    (hcells st blk fill before written).set 74 (.int .u64 f') = hcells st blk fill f' written := by
  have e : 74 = 73 + 1 := rfl
  rw [e]
  simp only [hcells, List.set_cons_succ]
  rw [List.set_append_right _ _ (by simp [hs]), List.set_append_right _ _ (by simp [hs, hb])]
  simp [hs, hb]
theorem hcells_written {st : List Nat} {blk : List UInt8} {fill before written f' : Int} (hs : st.length = 8) (hb : blk.length = 64) :
    (hcells st blk fill before written).set 75 (.int .i64 f') = hcells st blk fill before f' := by
  have e : 75 = 74 + 1 := rfl
  rw [e]
  simp only [hcells, List.set_cons_succ]
  rw [List.set_append_right _ _ (by simp [hs]), List.set_append_right _ _ (by simp [hs, hb])]
  simp [hs, hb]

/-- A computation in memory: the message so far is M, of which q blocks are compressed and fill bytes lie in the block. -/
def HSx (w : World) (gh nk : Nat) (M : List UInt8) (written fill q : Nat) : Prop :=
  ∃ blk, Blk w gh 186 (hcells (Bl.stq nk M q) blk (fill : Int) ((64 * q : Nat) : Int) (written : Int)) ∧ blk.length = 64 ∧ M.length = 64 * q + fill ∧ fill ≤ 64 ∧ blk.take fill = M.drop (64 * q)
def HS (w : World) (gh nk : Nat) (M : List UInt8) (written : Nat) : Prop := ∃ fill q, HSx w gh nk M written fill q ∧ (M ≠ [] → 0 < fill)

theorem kpad_length {key : List UInt8} (hk : key.length ≤ 32) : (key ++ List.replicate (64 - key.length) (0 : UInt8)).length = 64 := by simp; omega
theorem splice_key {key : List UInt8} {st : List Nat} {f b wt : Int} (hs : st.length = 8) (hk : key.length ≤ 32) : splice (hcells st z64 f b wt) 9 (cellsOf key) = hcells st (key ++ List.replicate (64 - key.length) 0) f b wt := by
  have e := splice_hcells (st := st) (blk := z64) (xs := key) (f := 0) (fill := f) (before := b) (written := wt) hs rfl (by omega)
  rw [Nat.add_zero] at e
  rw [e, splice, z64]
  simp only [List.take_zero, List.nil_append, Nat.zero_add, List.drop_replicate]

set_option maxHeartbeats 2000000 in
set_option maxRecDepth 100000 in
theorem start_any (w : World) (A : Option Addr) (c : Nat) (key : List UInt8) (hk : key.length ≤ 32) (_hc : key.length ≤ c) (hr : RB w A key) (hgl : Gl w) :
    Calls Tryd.prog 127 #[.slice A key.length c] w fun e w' => e = .returned (.pointer (some ⟨w.heap.size, 0, none⟩)) ∧ HS w' w.heap.size key.length (Bl.kblock key) 0 ∧ Only [] w w' := by
  have hini : ∀ j, j < ([Value.int .u32 1779033703, Value.int .u32 3144134277, Value.int .u32 1013904242, Value.int .u32 2773480762, Value.int .u32 1359893119, Value.int .u32 2600822924, Value.int .u32 528734635, Value.int .u32 1541459225]).length → w.cell? ⟨0, 0 + j, none⟩ = ([Value.int .u32 1779033703, Value.int .u32 3144134277, Value.int .u32 1013904242, Value.int .u32 2773480762, Value.int .u32 1359893119, Value.int .u32 2600822924, Value.int .u32 528734635, Value.int .u32 1541459225])[j]? := by
    intro j hj
    have hj' : j < 8 := hj
    rw [Nat.zero_add, hgl.ini j hj']
    have : j < Bl.iv.length := hj'
    show _ = (wcells Bl.iv)[j]?
    simp [wcells, this]
  have Hini := Lib.hid hini
  clear hini
  go_enter Tryd.func127, Tryd.ntmps127
  go_wp2_with (first | (refine wpl_load_at rfl 183 _ rfl 0 0 rfl [Value.int .u32 1779033703, Value.int .u32 3144134277, Value.int .u32 1013904242, Value.int .u32 2773480762, Value.int .u32 1359893119, Value.int .u32 2600822924, Value.int .u32 528734635, Value.int .u32 1541459225] _ Tryd.underlying183 rfl arr8size Hini.out ?_) | (refine wpl_build rfl 186 _ rfl (.agg (hcells Bl.iv z64 0 0 0).toArray) ?hb ?_; case hb => kernel_rfl))
  clear Hini
  have hB0 := Blk.new w 186 (hcells Bl.iv z64 0 0 0)
  have hO0 := (Only.refl [] w).alloc (.cells (hcells Bl.iv z64 0 0 0).toArray 186)
  revert hB0 hO0
  generalize World.alloc _ _ = W1
  intro hB0 hO0
  have cs : W1.cell? ⟨w.heap.size, 1, none⟩ = some (.int .u32 (1779033703 : Int)) := hB0.cellv (hcells_st (i := 0) rfl (by decide))
  have fz := hB0.frozen 1
  obtain ⟨z, Hz⟩ : ∃ n, Hid (n = 1779033703 ^^^ (16842784 + key.length * 256)) := ⟨_, rfl⟩
  have xz : bits .xor .u32 1779033703 (16842784 + 256 * (key.length : Int)) = (z : Int) := by
    have := u32_xor_nat 1779033703 (16842784 + key.length * 256) (by decide) (by omega)
    rw [Hz.out, ← this]
    congr 1
    simp only [Int.natCast_add, Int.natCast_mul]
    omega
  have hB1 : Blk ((W1.setCell ⟨w.heap.size, 1, none⟩ (.int .u32 (z : Int))).drew) w.heap.size 186 (hcells (Bl.st0 key.length) z64 0 0 0) := by
    have e : Bl.st0 key.length = Bl.iv.set 0 z := by rw [Hz.out]; rfl
    rw [e, ← hcells_set (i := 0) rfl (by decide)]
    exact (hB0.set 1 _).drew
  have hO1 := (hO0.setCell (p := ⟨w.heap.size, 1, none⟩) (.inr (Nat.le_refl _)) (.int .u32 (z : Int))).drew
  have hs0 : (Bl.st0 key.length).length = 8 := rfl
  by_cases h0 : 0 < key.length
  · have h0' : ((key.length : Int) == 0) = false := beq_eq_false_iff_ne.2 (by omega)
    go_still_tail 14, (by kernel_rfl)
    go_upto_region 4 with (fail)
    clear cs fz xz
    revert hB1 hO1
    generalize World.drew _ = W2
    intro hB1 hO1
    obtain ⟨g, o, rfl, hg, hcl⟩ := hr h0
    have hcl2 : ∀ j v, (cellsOf key)[j]? = some v → W2.cell? ((⟨g, o, none⟩ : Addr).add j) = some v := by
      intro j v hv
      have hj : j < key.length := by simpa using (List.getElem?_eq_some_iff.1 hv).1
      rw [Addr.add_mid, hO1.cell (p := ⟨g, o + j, none⟩) hg (by simp), hcl j hj, ← hv, cellsOf_getD hj]
    have Hcl := Lib.hid hcl2
    clear hcl hcl2
    have hm : Nat.min key.length 64 = key.length := Nat.min_eq_left (by omega)
    go_wp2_with (refine wpl_copy rfl (.tmp 27) (.tmp 28) _ _ rfl 5 Tryd.underlying23 u8size _ _ _ _ _ _ rfl rfl w.heap.size 9 _ _ hB1 (cellsOf key) (by rw [cellsOf_length]; exact hm.symm) (fun _ => ⟨rfl, _, rfl, Hcl.out⟩) (by rw [hcells_length hs0 rfl, cellsOf_length]; omega) cellsOf_one ?_; intro W3 hB3 hO3; rw [splice_key hs0 hk] at hB3; have fz := hB3.frozen 73; have c73 : W3.cell? ⟨w.heap.size, 73, none⟩ = some (.int .i64 0) := hB3.cellv (hcells_tail hs0 (kpad_length hk) 0))
    go_ret
    refine ⟨rfl, ⟨64, 0, ⟨_, ?_, kpad_length hk, ?_, Nat.le_refl _, ?_⟩, fun _ => by decide⟩, ?_⟩
    · have := hB3.set 73 (.int .i64 64)
      rw [hcells_fill hs0 (kpad_length hk)] at this
      exact this
    · have : key.length ≠ 0 := by omega
      simp [Bl.kblock, this]; omega
    · have : key.length ≠ 0 := by omega
      rw [List.take_of_length_le (by rw [kpad_length hk]; exact Nat.le_refl _)]
      simp [Bl.kblock, this]
    · exact (hO1.trans hO3 (by simp)).setCell (p := ⟨w.heap.size, 73, none⟩) (.inr (Nat.le_refl _)) _
  · have h0' : key.length ≤ 0 := by omega
    go_still_tail 14, (by kernel_rfl)
    go_wp2
    go_ret
    have hz : Bl.kblock key = [] := by unfold Bl.kblock; rw [if_pos (by omega)]
    rw [hz]
    exact ⟨rfl, ⟨0, 0, ⟨z64, hB1, rfl, rfl, by decide, rfl⟩, fun h => absurd rfl h⟩, hO1⟩
end Go.Proofs.YtchbgfgboogniaaDoor
namespace Go.Proofs.YtchbgfgboogniaaDoor
open Go.RowKit
theorem comp_at (w : World) (gh gb ob : Nat) (tH : TypeId) (st : List Nat) (blk bs : List UInt8) (fill before written ti : Int) (t : Nat) (hti : ti = (t : Int)) (last : Bool) (hst : Bl.Words 8 st) (hblk : blk.length = 64)
    (hH : Blk w gh tH (hcells st blk fill before written)) (hgl : Gl w) (hg2 : 2 ≤ gh) (ht : t < 18446744073709551616)
    (hcell : ∀ j, j < 64 → w.cell? ⟨gb, ob + j, none⟩ = some (.int .u8 (bs.getD j 0).toNat)) (hgb : gb < w.heap.size) :
    Calls Tryd.prog 137 #[.pointer (some ⟨gh, 0, none⟩), .slice (some ⟨gb, ob, none⟩) 64 64, .int .u64 ti, .bool last] w fun e w' =>
      e = .returned (.tuple #[]) ∧ Blk w' gh tH (hcells (Bl.comp st bs t last) blk fill before written) ∧ Only [gh] w w' := by
  subst hti
  exact comp_any w gh gb ob tH st blk bs fill before written t last hst hblk hH hgl hg2 ht hcell hgb

def lenV : Value → Nat | .slice _ n _ => n | _ => 0
theorem Gl.drew {w : World} (h : Gl w) : Gl w.drew := ⟨h.ini, h.tab, h.sz⟩

/-- What the outer loop knows before its k-th round. -/
def AbsRel (w : World) (gh nk : Nat) (M part : List UInt8) (written k : Nat) (wr : World) : Prop :=
  (k = 0 → HS wr gh nk M written ∧ wr = w) ∧ (k = 1 → HS wr gh nk (M ++ part) (written + part.length) ∧ Only [gh] w wr)

/-- The inner loop's. -/
def InRel (w : World) (gh nk : Nat) (M part : List UInt8) (written c ga oa k : Nat) (p : Value) (wr : World) : Prop :=
  k ≤ part.length ∧ (∃ A, p = .slice A (part.length - k) (c - k) ∧ (k < part.length → A = some ⟨ga, oa + k, none⟩)) ∧
  (∃ fill q, HSx wr gh nk (M ++ part.take k) written fill q ∧ (fill = 0 → M ++ part.take k ≠ [] → k < part.length)) ∧ Only [gh] w wr

theorem abs_copy {w0 W3 : World} {gh nk q fill k m d n c ga oa wn : Nat} {M part blk xs : List UInt8} (hB3 : Blk W3 gh 186 (hcells (Bl.stq nk (M ++ part.take k) q) (splice blk fill xs) (fill : Int) ((64 * q : Nat) : Int) (wn : Int)))
    (hO : Only [gh] w0 W3) (hst : (Bl.stq nk (M ++ part.take k) q).length = 8) (hl : blk.length = 64) (hM : (M ++ part.take k).length = 64 * q + fill) (ht : blk.take fill = (M ++ part.take k).drop (64 * q))
    (hm : part.length - k = m) (hd : c - k = d) (hxs : xs = (part.drop k).take n) (hxl : xs.length = n) (hn1 : n ≤ m) (hn2 : n ≤ 64 - fill) (hn0 : 0 < n) (hmd : m ≤ d) (hc : part.length ≤ c) (hk : k ≤ part.length) (hf : fill < 64) :
    InRel w0 gh nk M part wn c ga oa (k + n) (.slice (if d = n then some ⟨ga, oa + k, none⟩ else some ⟨ga, oa + k + n, none⟩) (m - n) (d - n)) (W3.setCell ⟨gh, 73, none⟩ (.int .i64 ((fill : Int) + (n : Int)))) := by
  have hl3 : (splice blk fill xs).length = 64 := by rw [splice_length (by rw [hl]; omega), hl]
  refine ⟨by omega, ⟨_, by rw [← hm, ← hd, Nat.sub_sub, Nat.sub_sub], fun h => ?_⟩, ⟨fill + n, q, ⟨splice blk fill xs, ?_, hl3, ?_, by omega, ?_⟩, fun h => by omega⟩, hO.setCell (p := ⟨gh, 73, none⟩) (.inl (by simp)) _⟩
  · rw [if_neg (by omega), Nat.add_assoc]
  all_goals rw [List.take_add (l := part), ← List.append_assoc, ← hxs]
  · rw [Bl.stq_append (by rw [hM]; omega)]
    have := hB3.set 73 (.int .i64 ((fill : Int) + (n : Int)))
    rw [hcells_fill hst hl3] at this
    have e : ((fill + n : Nat) : Int) = (fill : Int) + (n : Int) := by omega
    rw [e]
    exact this
  · rw [List.length_append, hM, hxl]; omega
  · rw [List.drop_append_of_le_length (by rw [hM]; omega), ← ht]
    unfold splice
    rw [← List.append_assoc, List.take_append_of_le_length (by simp [hl, hxl]; omega), List.take_of_length_le (by simp [hl, hxl]; omega)]

set_option maxHeartbeats 4000000 in
set_option maxRecDepth 100000 in
theorem absorb_any (w : World) (gh nk : Nat) (M part : List UInt8) (written gp c : Nat) (A : Option Addr) (hS : HS w gh nk M written) (_hgp : gp ≠ gh) (hgps : gp < w.heap.size)
    (hcp : w.cell? ⟨gp, 0, none⟩ = some (.slice A part.length c)) (hc : part.length ≤ c) (hr : RB w A part) (hA : 0 < part.length → ∀ p, A = some p → p.block ≠ gh) (hnk : nk ≤ 32)
    (hw1 : written + part.length ≤ 4611686018427387904) (hw2 : M.length + part.length ≤ 4611686018427387904) (hgl : Gl w) (hg2 : 2 ≤ gh) :
    Calls Tryd.prog 128 #[.pointer (some ⟨gh, 0, none⟩), .slice (some ⟨gp, 0, none⟩) 1 1] w fun e w' =>
      e = .returned (.tuple #[]) ∧ HS w' gh nk (M ++ part) (written + part.length) ∧ Only [gh] w w' := by
  obtain ⟨ga, oa, hga⟩ : ∃ ga oa, 0 < part.length → A = some ⟨ga, oa, none⟩ ∧ ga < w.heap.size ∧ ga ≠ gh ∧ ∀ j, j < part.length → w.cell? ⟨ga, oa + j, none⟩ = some (.int .u8 (part.getD j 0).toNat) := by
    by_cases h0 : 0 < part.length
    · obtain ⟨g, o, rfl, h1, h2⟩ := hr h0
      exact ⟨g, o, fun _ => ⟨rfl, h1, hA h0 _ rfl, h2⟩⟩
    · exact ⟨0, 0, fun h => absurd h h0⟩
  have Hga := Lib.hid hga
  have HA := Lib.hid hA
  clear hga hA hr
  go_enter Tryd.func128, Tryd.ntmps128
  go_wp2
  go_loopw [9, 5, 6] (fun a _ _ wr => ∃ k : Nat, k ≤ 1 ∧ a = .int .i64 k ∧ AbsRel w gh nk M part written k wr) (fun a _ _ _ => 1 - (intOf a).toNat)
  case atStart => exact ⟨0, by omega, rfl, fun _ => ⟨hS, rfl⟩, fun h => by cases h⟩
  case round =>
    obtain ⟨k, hk, rfl, hrel⟩ := hrel
    by_cases hlt : k < 1
    · obtain rfl : k = 0 := by omega
      obtain ⟨hS', rfl⟩ := hrel.1 rfl
      clear hrel hk hlt hS
      rw [show ((0 : Nat) : Int) = 0 from rfl]
      obtain ⟨fill0, q0, ⟨blk0, hB0, hl0, hM0, hf0, ht0⟩, hz0⟩ := hS'
      have hst := Bl.stq_words (n := nk) (M := M) hnk q0
      have c75 : wr.cell? ⟨gh, 75, none⟩ = some (.int .i64 (written : Int)) := hB0.cellv (hcells_tail hst.1 hl0 2)
      have f75 := hB0.frozen 75
      go_wp2
      have hB1 := hB0.set 75 (.int .i64 ((written + part.length : Nat) : Int))
      rw [hcells_written hst.1 hl0] at hB1
      have hO1 := (Only.refl [gh] wr).setCell (p := ⟨gh, 75, none⟩) (.inl (by simp)) (.int .i64 ((written + part.length : Nat) : Int))
      have eN : ((written + part.length : Nat) : Int) = (written : Int) + part.length := by omega
      rw [eN] at hB1 hO1
      clear c75 f75
      revert hB1 hO1
      generalize World.setCell _ _ _ = W1
      intro hB1 hO1
      rw [← eN] at hB1
      clear eN
      obtain ⟨w0, rfl⟩ : ∃ w0 : World, w0 = wr := ⟨_, rfl⟩
      go_loopw [5, 6] (fun p _ wr => ∃ k : Nat, InRel w0 gh nk M part (written + part.length) c ga oa k p wr) (fun p _ _ => lenV p)
      case atStart =>
        refine ⟨0, by omega, ⟨A, rfl, fun h => (Hga.out h).1⟩, ⟨fill0, q0, ⟨blk0, ?_, hl0, ?_, hf0, ?_⟩, fun h h' => ?_⟩, hO1⟩
        · simpa using hB1
        · simpa using hM0
        · simpa using ht0
        · exact absurd h (by have := hz0 (by simpa using h'); omega)
      case round =>
        clear hB1 hO1 hB0
        obtain ⟨k, hk, ⟨A', rfl, hA'⟩, ⟨fill, q, ⟨blk, hB, hl, hM, hf, ht⟩, hz⟩, hO⟩ := hrel
        obtain ⟨m, hm⟩ : ∃ m, part.length - k = m := ⟨_, rfl⟩
        obtain ⟨d, hd⟩ : ∃ d, c - k = d := ⟨_, rfl⟩
        rw [hm, hd]
        have hmd : m ≤ d := by omega
        by_cases hlt : k < part.length
        · obtain ⟨rfl, hgas, hgah, hcell⟩ := Hga.out (by omega)
          obtain rfl := hA' hlt
          have hM' : (M ++ part.take k).length = 64 * q + fill := hM
          have hMle : (M ++ part.take k).length ≤ 4611686018427387904 := by simp; omega
          have hst := Bl.stq_words (n := nk) (M := M ++ part.take k) hnk q
          have c73 : wr.cell? ⟨gh, 73, none⟩ = some (.int .i64 (fill : Int)) := hB.cellv (hcells_tail hst.1 hl 0)
          have hm0 : 0 < m := by omega
          have Hm := Lib.hid hm
          have Hd := Lib.hid hd
          have Hc := Lib.hid hcell
          have HM := Lib.hid hM'
          have Ht := Lib.hid ht
          have Hl := Lib.hid hl
          have hq : 64 * q + fill ≤ 4611686018427387904 := by omega
          clear hm hd hcell hM hM' ht hl hA' hMle
          go_upto_if 29 with (fail)
          go_cut [] (fun wx => ∃ fill q, HSx wx gh nk (M ++ part.take k) (written + part.length) fill q ∧ fill < 64 ∧ Only [gh] w0 wx)
          case first =>
            by_cases h64 : fill = 64
            · have hb64 : ((fill : Int) == 64) = true := beq_iff_eq.2 (by omega)
              obtain ⟨t, Htq⟩ : ∃ t, Hid (t = 64 * q) := ⟨_, rfl⟩
              have htl : t + 64 ≤ 4611686018427387904 := by rw [Htq.out]; omega
              rw [← Htq.out] at hB
              have c74 : wr.cell? ⟨gh, 74, none⟩ = some (.int .u64 (t : Int)) := hB.cellv (hcells_tail hst.1 Hl.out 1)
              have f74 := hB.frozen 74
              go_wp2
              have hB2 := hB.set 74 (.int .u64 ((t : Int) + 64))
              rw [hcells_before hst.1 Hl.out] at hB2
              have hO2 := hO.setCell (p := ⟨gh, 74, none⟩) (.inl (by simp)) (.int .u64 ((t : Int) + 64))
              clear c74 f74 c73
              revert hB2 hO2
              generalize World.setCell _ _ _ = W2
              intro hB2 hO2
              have c74 : W2.cell? ⟨gh, 74, none⟩ = some (.int .u64 ((t : Int) + 64)) := hB2.cellv (hcells_tail hst.1 Hl.out 1)
              go_still_tail 9, (by kernel_rfl)
              go_wp2_with (go_at_call 137; refine (comp_at _ gh gh 9 _ _ blk blk _ _ _ _ (t + 64) (by omega) false hst Hl.out hB2.drew (hgl.keep hO2 (by simp; omega) (by simp; omega)).drew hg2 (by omega) (fun j hj => hB2.cellv (hcells_blk hst.1 Hl.out hj)) hB2.lt).mono ?_; rintro e W3 ⟨rfl, hB3, hO3⟩; have f73 := hB3.frozen 73; have c73 : W3.cell? ⟨gh, 73, none⟩ = some (.int .i64 (fill : Int)) := hB3.cellv (hcells_tail (Bl.comp_words hst).1 Hl.out 0))
              go_meet
              have hB4 := hB3.set 73 (.int .i64 ((0 : Nat) : Int))
              rw [hcells_fill (Bl.comp_words hst).1 Hl.out] at hB4
              refine ⟨0, q + 1, ⟨blk, ?_, Hl.out, ?_, by omega, ?_⟩, by omega, (hO2.trans' (Only.undrew (w := W2) hO3)).setCell (p := ⟨gh, 73, none⟩) (.inl (by simp)) _⟩
              · have e1 : Bl.stq nk (M ++ part.take k) (q + 1) = Bl.comp (Bl.stq nk (M ++ part.take k) q) blk (t + 64) false := by
                  simp only [Bl.stq]
                  have : blk = (M ++ part.take k).drop (64 * q) := by rw [← Ht.out, h64, List.take_of_length_le (by rw [Hl.out]; exact Nat.le_refl _)]
                  rw [← this, Htq.out]
                  congr 1
                have e2 : ((64 * (q + 1) : Nat) : Int) = (t : Int) + 64 := by rw [Htq.out]; omega
                rw [e1, e2]
                exact hB4
              · rw [HM.out, h64]; omega
              · rw [List.take_zero, List.drop_eq_nil_of_le (by rw [HM.out]; omega)]
            · have hb64 : ((fill : Int) == 64) = false := beq_eq_false_iff_ne.2 (by omega)
              go_wp2
              go_meet
              exact ⟨fill, q, ⟨blk, hB, Hl.out, HM.out, hf, Ht.out⟩, by omega, hO⟩
          case rest =>
            clear hB hf hst c73 hq hO HM Ht Hl hz hcp hgps HA
            obtain ⟨fill, q, ⟨blk, hB, hl, hM, hf, ht⟩, hf64, hO⟩ := hcut
            have hst := Bl.stq_words (n := nk) (M := M ++ part.take k) hnk q
            have c73 : wc.cell? ⟨gh, 73, none⟩ = some (.int .i64 (fill : Int)) := hB.cellv (hcells_tail hst.1 hl 0)
            have HM := Lib.hid hM
            have Ht := Lib.hid ht
            have Hl := Lib.hid hl
            have hle : (M ++ part.take k).length ≤ 4611686018427387904 := by simp; omega
            have hq : 64 * q + fill ≤ 4611686018427387904 := by rw [hM] at hle; exact hle
            clear hle
            clear hM ht hl
            by_cases hdir : fill = 0 ∧ 64 < m
            · obtain ⟨h0, hm64⟩ := hdir
              have hb0 : ((fill : Int) == 0) = true := beq_iff_eq.2 (by omega)
              have hm64' : (64 : Int) < (m : Int) := by omega
              have hd64 : ¬ d = 64 := by omega
              obtain ⟨t, Htq⟩ : ∃ t, Hid (t = 64 * q) := ⟨_, rfl⟩
              have htl : t + 64 ≤ 4611686018427387904 + 64 := by rw [Htq.out]; omega
              rw [← Htq.out] at hB
              have c74 : wc.cell? ⟨gh, 74, none⟩ = some (.int .u64 (t : Int)) := hB.cellv (hcells_tail hst.1 Hl.out 1)
              have f74 := hB.frozen 74
              go_wp2
              have hB2 := hB.set 74 (.int .u64 ((t : Int) + 64))
              rw [hcells_before hst.1 Hl.out] at hB2
              have hO2 := hO.setCell (p := ⟨gh, 74, none⟩) (.inl (by simp)) (.int .u64 ((t : Int) + 64))
              clear c74 f74 c73
              revert hB2 hO2
              generalize World.setCell _ _ _ = W2
              intro hB2 hO2
              have c74 : W2.cell? ⟨gh, 74, none⟩ = some (.int .u64 ((t : Int) + 64)) := hB2.cellv (hcells_tail hst.1 Hl.out 1)
              have hd64' : (64 : Int) ≤ (d : Int) := by omega
              have hcb : ∀ j, j < 64 → W2.cell? ⟨ga, oa + k + j, none⟩ = some (.int .u8 (((part.drop k).take 64).getD j 0).toNat) := by
                intro j hj
                have hkj : k + j < part.length := by have := Hm.out; omega
                rw [Nat.add_assoc, hO2.cell (p := ⟨ga, oa + (k + j), none⟩) hgas (by simpa using hgah), Hc.out (k + j) hkj]
                simp [hj]
              have Hcb := Lib.hid hcb
              clear hcb
              go_still_tail 7, (by kernel_rfl)
              go_wp2_with (go_at_call 137; refine (comp_at _ gh ga (oa + k) _ _ blk ((part.drop k).take 64) _ _ _ _ (t + 64) (by omega) false hst Hl.out hB2.drew (hgl.keep hO2 (by simp; omega) (by simp; omega)).drew hg2 (by omega) Hcb.out (Nat.lt_of_lt_of_le hgas hO2.size)).mono ?_; rintro e W3 ⟨rfl, hB3, hO3⟩)
              go_roundw
              case rel =>
                have hm' := Hm.out
                have hd' := Hd.out
                refine ⟨k + 64, by omega, ⟨_, by rw [← hm', ← hd', Nat.sub_sub, Nat.sub_sub], fun _ => by rw [Nat.add_assoc]⟩, ⟨0, q + 1, ⟨blk, ?_, Hl.out, ?_, by omega, ?_⟩, fun _ _ => by omega⟩, hO2.trans' (Only.undrew (w := W2) hO3)⟩
                all_goals rw [List.take_add, ← List.append_assoc]
                · have e1 : Bl.stq nk (M ++ part.take k ++ (part.drop k).take 64) (q + 1) = Bl.comp (Bl.stq nk (M ++ part.take k) q) ((part.drop k).take 64) (t + 64) false := by
                    simp only [Bl.stq]
                    have hnil : (M ++ part.take k).drop (64 * q) = [] := List.drop_eq_nil_of_le (by rw [HM.out]; omega)
                    rw [Bl.stq_append (by rw [HM.out]; omega), List.drop_append_of_le_length (by rw [HM.out]; omega), hnil, List.nil_append, Htq.out]
                    congr 1
                  have e2 : ((64 * (q + 1) : Nat) : Int) = (t : Int) + 64 := by rw [Htq.out]; omega
                  have e3 : ((0 : Nat) : Int) = (fill : Int) := by omega
                  rw [e1, e2, e3]
                  exact hB3
                · rw [List.length_append, HM.out, List.length_take, List.length_drop]; omega
                · rw [List.take_zero, List.drop_eq_nil_of_le]
                  rw [List.length_append, HM.out, List.length_take, List.length_drop]; omega
              case measure => simp only [lenV]; omega
            · obtain ⟨n, hn⟩ : ∃ n, Nat.min m (64 - fill) = n := ⟨_, rfl⟩
              have hn1 : n ≤ m := by rw [← hn]; exact Nat.min_le_left _ _
              have hn2 : n ≤ 64 - fill := by rw [← hn]; exact Nat.min_le_right _ _
              have hn0 : 0 < n := by rw [← hn]; exact Nat.lt_min.2 ⟨hm0, by omega⟩
              obtain ⟨xs, Hxs⟩ : ∃ xs, Hid (xs = (part.drop k).take n) := ⟨_, rfl⟩
              have hxl : xs.length = n := by rw [Hxs.out, List.length_take, List.length_drop]; have := Hm.out; omega
              have Hn := Lib.hid hn
              have f73 := hB.frozen 73
              have hcx : ∀ j v, (cellsOf xs)[j]? = some v → wc.cell? ((⟨ga, oa + k, none⟩ : Addr).add j) = some v := by
                intro j v hv
                have hj : j < n := by rw [← hxl]; simpa using (List.getElem?_eq_some_iff.1 hv).1
                have hkj : k + j < part.length := by have := Hm.out; omega
                rw [Addr.add_mid, Nat.add_assoc, hO.cell (p := ⟨ga, oa + (k + j), none⟩) hgas (by simpa using hgah), Hc.out (k + j) hkj, ← hv, cellsOf_getD (by omega), Hxs.out]
                simp [hj]
              have Hcx := Lib.hid hcx
              have hlen : (hcells (Bl.stq nk (M ++ part.take k) q) blk (fill : Int) ((64 * q : Nat) : Int) ((written + part.length : Nat) : Int)).length = 76 := hcells_length hst.1 Hl.out
              have Hlen := Lib.hid hlen
              have hfI : (fill : Int) ≤ 64 := by omega
              have hfne : ¬ 64 = fill := by omega
              clear hn hcx hlen
              rcases (show (((fill : Int) == 0) = true ∧ (m : Int) ≤ 64) ∨ ((fill : Int) == 0) = false by
                by_cases h0 : fill = 0
                · exact .inl ⟨beq_iff_eq.2 (by omega), by omega⟩
                · exact .inr (beq_eq_false_iff_ne.2 (by omega))) with ⟨hb0, hm64⟩ | hb0
              all_goals
                go_wp2
                go_still_tail 9, (by kernel_rfl)
                refine wpl_copy rfl (.tmp 84) (.tmp 85) _ _ rfl 5 Tryd.underlying23 u8size _ _ _ _ _ _ rfl rfl gh (9 + fill) _ _ hB.drew (cellsOf xs) (by rw [cellsOf_length, hxl]; exact Hn.out.symm) (fun _ => ⟨rfl, _, rfl, Hcx.out⟩) (by rw [Hlen.out, cellsOf_length, hxl]; omega) cellsOf_one ?_
                intro W3 hB3 hO3
                rw [splice_hcells hst.1 Hl.out (by omega)] at hB3
                have hl3 : (splice blk fill xs).length = 64 := by rw [splice_length (by rw [Hl.out]; omega), Hl.out]
                rw [cellsOf_length, hxl]
                have c73' : W3.cell? ⟨gh, 73, none⟩ = some (.int .i64 (fill : Int)) := hB3.cellv (hcells_tail hst.1 hl3 0)
                have f73' := hB3.frozen 73
                have Hl3 := Lib.hid hl3
                have Hxl := Lib.hid hxl
                clear hl3 hxl
                go_wp2
                go_roundw
                case rel =>
                  exact ⟨k + n, abs_copy hB3 (hO.trans' (Only.undrew (w := wc) hO3)) hst.1 Hl.out HM.out Ht.out Hm.out Hd.out Hxs.out Hxl.out hn1 hn2 hn0 hmd hc hk hf64⟩
                case measure => simp only [lenV]; omega
        · go_wp2
          obtain rfl : k = part.length := by omega
          refine ⟨⟨1, by omega, rfl, ⟨(fun h => by cases h), fun _ => ⟨⟨fill, q, ?_, fun h' => ?_⟩, hO⟩⟩⟩, by decide⟩
          · rw [List.take_length] at hB hM ht
            exact ⟨blk, hB, hl, hM, hf, ht⟩
          · rw [List.take_length] at hz
            rcases Nat.eq_zero_or_pos fill with h0 | h0
            · exact absurd (hz h0 h') (Nat.lt_irrefl _)
            · exact h0
    · obtain rfl : k = 1 := by omega
      obtain ⟨hS', hO'⟩ := hrel.2 rfl
      go_wp2
      go_end0
      exact ⟨rfl, hS', hO'⟩
end Go.Proofs.YtchbgfgboogniaaDoor
namespace Go.Proofs.YtchbgfgboogniaaDoor
open Go.RowKit
theorem u8info : (Tryd.prog.info? 5).map (fun i => (i.zero, i.size, i.bytes)) = some (some (.int .u8 0), 1, 1) := by kernel_rfl
theorem arr32size : (Tryd.prog.info? 104).map (·.size) = some 32 := by kernel_rfl

theorem leb_byte {s : List Nat} {k j : Nat} (hj : j < 4) : ((s.getD k 0 : Nat) : Int) / 2 ^ (8 * j) % 256 = (((UInt8.ofNat (s.getD ((4 * k + j) / 4) 0 / 2 ^ (8 * ((4 * k + j) % 4)))).toNat : Nat) : Int) := by
  have e1 : (4 * k + j) / 4 = k := by omega
  have e2 : (4 * k + j) % 4 = j := by omega
  rw [e1, e2, UInt8.toNat_ofNat', Int.natCast_emod, Int.natCast_ediv, Int.natCast_pow]
  simp
theorem hashM_eq {n q fill : Nat} {M blk b2 : List UInt8} (hM : M.length = 64 * q + fill) (hf : fill ≤ 64) (hz : M ≠ [] → 0 < fill) (ht : blk.take fill = M.drop (64 * q)) (_hl : blk.length = 64)
    (hb : b2 = blk.take fill ++ List.replicate (64 - fill) (0 : UInt8)) : Bl.hashM n M = Bl.leb (Bl.comp (Bl.stq n M q) b2 (64 * q + fill) true) := by
  have e1 : (M.length - 1) / 64 = q := by
    rcases Nat.eq_zero_or_pos fill with h0 | h0
    · have h1 : M.length = 0 := by
        rcases Nat.eq_zero_or_pos M.length with h | h
        · exact h
        · have := hz (fun e => by rw [e] at h; exact absurd h (by simp)); omega
      omega
    · omega
  have e2 : Bl.comp (Bl.stq n M q) b2 (64 * q + fill) true = Bl.comp (Bl.stq n M q) (M.drop (64 * q)) (64 * q + fill) true := by
    refine Bl.comp_congr (fun j _ => ?_) _ _ _
    rw [hb, ← ht]
    by_cases hjf : j < (blk.take fill).length
    · exact Bl.getD_append_left hjf
    · rw [List.getD_eq_getElem?_getD, List.getElem?_append_right (by omega), List.getElem?_replicate, List.getD_eq_getElem?_getD, List.getElem?_eq_none (by omega)]
      split <;> rfl
  rw [e2]
  unfold Bl.hashM
  rw [e1, hM]

set_option maxHeartbeats 1000000 in
set_option maxRecDepth 100000 in
theorem finish_any (w : World) (gh nk : Nat) (M : List UInt8) (written : Nat) (hS : HS w gh nk M written) (hnk : nk ≤ 32) (hw2 : M.length ≤ 4611686018427387904) (hgl : Gl w) (hg2 : 2 ≤ gh) :
    Calls Tryd.prog 129 #[.pointer (some ⟨gh, 0, none⟩)] w fun e w' => e = .returned (.agg (cellsOf (Bl.hashM nk M)).toArray) ∧ Only [gh] w w' := by
  obtain ⟨fill, q, ⟨blk, hB, hl, hM, hf, ht⟩, hz⟩ := hS
  have hst := Bl.stq_words (n := nk) (M := M) hnk q
  obtain ⟨i0, hi0, hz0, hz1, hz2⟩ := info_parts u8info
  go_enter Tryd.func129, Tryd.ntmps129
  go_wp2
  have hB1 := hB.alloc (.cells (List.replicate 32 (Value.int .u8 0)).toArray 104)
  have hR1 := Blk.new w 104 (List.replicate 32 (Value.int .u8 0))
  have hO1 := (Only.refl [gh] w).alloc (.cells (List.replicate 32 (Value.int .u8 0)).toArray 104)
  have hgw := hB.lt
  revert hB1 hR1 hO1
  simp only [List.replicate_succ, List.replicate_zero]
  generalize World.alloc _ _ = W1
  intro hB1 hR1 hO1
  have c73 : W1.cell? ⟨gh, 73, none⟩ = some (.int .i64 (fill : Int)) := hB1.cellv (hcells_tail hst.1 hl 0)
  have hfI : (fill : Int) ≤ 64 := by omega
  have HM := Lib.hid hM
  have Ht := Lib.hid ht
  have Hl := Lib.hid hl
  have hq : 64 * q + fill ≤ 4611686018427387904 := by omega
  have hlen : (hcells (Bl.stq nk M q) blk (fill : Int) ((64 * q : Nat) : Int) (written : Int)).length = 76 := hcells_length hst.1 hl
  have Hlen := Lib.hid hlen
  clear hM ht hl hlen hB
  have hOr := Only.refl [gh] w
  go_still_tail 8, (by kernel_rfl)
  refine wpl_clear rfl (.tmp 14) _ rfl 5 Tryd.underlying23 i0 hi0 (.int .u8 0) hz0 rfl rfl _ (64 - fill) _ rfl gh (9 + fill) _ _ hB1.drew (fun h => by rw [if_neg (by omega)]) (by rw [Hlen.out]; omega) ?_
  intro W2 hB2 hO2
  generalize (if 64 = fill then (⟨gh, 9, none⟩ : Addr) else ⟨gh, 9 + fill, none⟩) = A14
  have e2 : (hcells (Bl.stq nk M q) blk (fill : Int) ((64 * q : Nat) : Int) (written : Int)).take (9 + fill) ++ (List.replicate (64 - fill) (Value.int .u8 0) ++ (hcells (Bl.stq nk M q) blk (fill : Int) ((64 * q : Nat) : Int) (written : Int)).drop (9 + fill + (64 - fill))) = hcells (Bl.stq nk M q) (blk.take fill ++ List.replicate (64 - fill) 0) (fill : Int) ((64 * q : Nat) : Int) (written : Int) := by
    have := splice_hcells (st := Bl.stq nk M q) (blk := blk) (xs := List.replicate (64 - fill) 0) (f := fill) (fill := fill) (before := ((64 * q : Nat) : Int)) (written := written) hst.1 Hl.out (by simp; omega)
    simp only [splice, cellsOf, List.map_replicate, List.length_replicate] at this
    refine this.trans ?_
    congr 2
    rw [List.drop_eq_nil_of_le (by rw [Hl.out]; omega), List.append_nil]
  rw [e2] at hB2
  clear e2
  have hb2 : (blk.take fill ++ List.replicate (64 - fill) (0 : UInt8)).length = 64 := by have := Hl.out; simp; omega
  obtain ⟨b2, Hb2⟩ : ∃ b, Hid (b = blk.take fill ++ List.replicate (64 - fill) (0 : UInt8)) := ⟨_, rfl⟩
  rw [← Hb2.out] at hB2 hb2
  have Hbl := Lib.hid hb2
  clear hb2 c73
  have hR2 := hR1.keep (Only.undrew (w := W1) hO2) (by simp; omega)
  have hO3 := hO1.trans' (Only.undrew (w := W1) hO2)
  clear hO2 hO1 hR1 hB1 hOr
  obtain ⟨t, Htq⟩ : ∃ t, Hid (t = 64 * q) := ⟨_, rfl⟩
  rw [← Htq.out] at hB2
  have htl : t + fill ≤ 4611686018427387904 := by rw [Htq.out]; exact hq
  have c73 : W2.cell? ⟨gh, 73, none⟩ = some (.int .i64 (fill : Int)) := hB2.cellv (hcells_tail hst.1 Hbl.out 0)
  have c74 : W2.cell? ⟨gh, 74, none⟩ = some (.int .u64 (t : Int)) := hB2.cellv (hcells_tail hst.1 Hbl.out 1)
  go_wp2
  go_still_tail 15, (by kernel_rfl)
  go_wp2_with fail
  refine (comp_at _ gh gh 9 _ _ b2 b2 _ _ _ _ (t + fill) ?hti true hst Hbl.out hB2.drew (hgl.keep hO3 (by simp; omega) (by simp; omega)).drew hg2 (by omega) (fun j hj => hB2.cellv (hcells_blk hst.1 Hbl.out hj)) hB2.lt).mono ?_
  case hti => omega
  rintro e W3 ⟨rfl, hB3, hO4⟩
  have hR3 := hR2.keep (Only.undrew (w := W2) hO4) (by simp; omega)
  have hO5 := hO3.trans' (Only.undrew (w := W2) hO4)
  have hS3 := hO5.size
  have hst3 := Bl.comp_words (bs := b2) (t := t + fill) (last := true) hst
  have hcq : Bl.hashM nk M = Bl.leb (Bl.comp (Bl.stq nk M q) b2 (t + fill) true) := by
    rw [Htq.out]
    exact hashM_eq HM.out hf hz Ht.out Hl.out Hb2.out
  have Hcq := Lib.hid hcq
  clear hcq c73 c74 hB2 hO4 hO3 hR2
  obtain ⟨st3, Hst3⟩ : ∃ s, Hid (s = Bl.comp (Bl.stq nk M q) b2 (t + fill) true) := ⟨_, rfl⟩
  rw [← Hst3.out] at hB3 hst3
  have hl8 : (Tryd.prog.info? 183).map (·.size) = some (wcells st3).length := by rw [wcells_length, hst3.1]; exact arr8size
  have Hl8 := Lib.hid hl8
  clear hl8
  go_upto_region 4 with (fail)
  have hB4 := hB3.alloc (.cells (List.replicate 32 (Value.int .u8 0)).toArray 104)
  have hR4 := hR3.alloc (.cells (List.replicate 32 (Value.int .u8 0)).toArray 104)
  have hU4 := Blk.new W3 104 (List.replicate 32 (Value.int .u8 0))
  have hO6 := hO5.alloc (.cells (List.replicate 32 (Value.int .u8 0)).toArray 104)
  have hgs : w.heap.size < W3.heap.size := hR3.lt
  revert hB4 hR4 hU4 hO6
  simp only [List.replicate_succ, List.replicate_zero]
  generalize World.alloc _ _ = W4
  generalize W3.heap.size = gs at hgs ⊢
  intro hB4 hR4 hU4 hO6
  clear hB3 hR3 hO5 hS3
  have hload : ∀ j, j < (wcells st3).length → W4.cell? ⟨gh, 1 + j, none⟩ = (wcells st3)[j]? := by
    intro j hj
    have hj' : j < 8 := by simpa [hst3.1] using hj
    rw [hB4.cell, hcells_st hst3.1 hj', wcells_get (wget hst3 hj')]
  have Hload := Lib.hid hload
  clear hload
  go_wp2_with (refine wpl_load_at rfl 183 _ rfl gh 1 rfl (wcells st3) _ Tryd.underlying183 rfl Hl8.out Hload.out ?_)
  clear Hload Hl8
  obtain ⟨sc, Hsc⟩ : ∃ c, Hid (c = (wcells st3).toArray) := ⟨_, rfl⟩
  rw [← Hsc.out]
  have hU5 : Blk W4 gs 104 (fillTo 32 (fun i => Value.int .u8 ((UInt8.ofNat (st3.getD (i / 4) 0 / 2 ^ (8 * (i % 4)))).toNat : Int)) (fun _ => .int .u8 0) (4 * 0)) := by
    have : (fillTo 32 (fun i => Value.int .u8 ((UInt8.ofNat (st3.getD (i / 4) 0 / 2 ^ (8 * (i % 4)))).toNat : Int)) (fun _ => .int .u8 0) (4 * 0)) = List.replicate 32 (Value.int .u8 0) := by
      simp [fillTo, List.range, List.range.loop, List.replicate]
    rw [this]; exact hU4
  clear hU4
  go_loopw [35, 4, 5, 6, 39] (fun a _ _ _ _ wr => ∃ k : Nat, k ≤ 8 ∧ a = .int .i64 k ∧ Blk wr gs 104 (fillTo 32 (fun i => Value.int .u8 ((UInt8.ofNat (st3.getD (i / 4) 0 / 2 ^ (8 * (i % 4)))).toNat : Int)) (fun _ => .int .u8 0) (4 * k)) ∧ Blk wr w.heap.size 104 (List.replicate 32 (Value.int .u8 0)) ∧ Only [gh] w wr) (fun a _ _ _ _ _ => 8 - (intOf a).toNat)
  case atStart => exact ⟨0, by omega, rfl, hU5, hR4, hO6⟩
  case round =>
    clear hU5 hR4 hO6 hB4
    obtain ⟨k, hk, rfl, hU, hR, hO⟩ := hrel
    by_cases hlt : k < 8
    · obtain ⟨sv, Hs⟩ : ∃ n, Hid (n = st3.getD k 0) := ⟨_, rfl⟩
      have ls : sv < 4294967296 := by rw [Hs.out]; exact hst3.getD _
      have hidx : ∀ w, (Instr.index 183 (.agg sc) (.int .i64 (k : Int))).run Tryd.prog w = .ok (.int .u32 (sv : Nat)) w := by
        rw [Hsc.out, Hs.out]
        exact run_index_row Tryd.underlying183 Tryd.underlying178 rfl u32size hlt (wcells_get (wget hst3 hlt))
      go_wp2
      obtain ⟨wo, rfl⟩ : ∃ wo : World, wo = wr := ⟨_, rfl⟩
      go_loopw [39, 6] (fun a _ wr => ∃ j : Nat, j ≤ 4 ∧ a = .int .i64 j ∧ Blk wr gs 104 (fillTo 32 (fun i => Value.int .u8 ((UInt8.ofNat (st3.getD (i / 4) 0 / 2 ^ (8 * (i % 4)))).toNat : Int)) (fun _ => .int .u8 0) (4 * k + j)) ∧ Blk wr w.heap.size 104 (List.replicate 32 (Value.int .u8 0)) ∧ Only [gh] w wr) (fun a _ _ => 4 - (intOf a).toNat)
      case atStart => exact ⟨0, by omega, rfl, hU, hR, hO⟩
      case round =>
        clear hU hR hO hidx
        obtain ⟨j, hj, rfl, hU, hR, hO⟩ := hrel
        by_cases hjlt : j < 4
        · have cu : wr.cell? ⟨gs, 4 * k + j, none⟩ = some (.int .u8 0) := hU.cellv (by rw [fillTo_get (by omega), if_neg (by omega)])
          have fu := hU.frozen (4 * k + j)
          go_wp2
          go_roundw
          case rel =>
            refine ⟨j + 1, by omega, by go_num, ?_, hR.far (p := ⟨gs, 4 * k + j, none⟩) (by simp; omega) _, hO.setCell (p := ⟨gs, 4 * k + j, none⟩) (.inr (by simp; omega)) _⟩
            rw [Hs.out, leb_byte (s := st3) hjlt, ← Nat.add_assoc, ← fillTo_set (by omega)]
            exact hU.set (4 * k + j) _
          case measure => simp [intOf]; omega
        · obtain rfl : j = 4 := by omega
          go_wp2
          go_roundw
          case rel => exact ⟨k + 1, by omega, by go_num, hU, hR, hO⟩
          case measure => simp [intOf]; omega
    · obtain rfl : k = 8 := by omega
      have eL : fillTo 32 (fun i => Value.int .u8 ((UInt8.ofNat (st3.getD (i / 4) 0 / 2 ^ (8 * (i % 4)))).toNat : Int)) (fun _ => .int .u8 0) (4 * 8) = cellsOf (Bl.hashM nk M) := by
        rw [Hcq.out, ← Hst3.out, show 4 * 8 = 32 from rfl, fillTo_all]
        simp [Bl.leb, cellsOf]
      rw [eL] at hU
      have hl32 : (cellsOf (Bl.hashM nk M)).length = 32 := by simp
      have hs32 : (Tryd.prog.info? 104).map (·.size) = some (cellsOf (Bl.hashM nk M)).length := by rw [hl32]; exact arr32size
      have Hs32 := Lib.hid hs32
      have Hl32 := Lib.hid hl32
      clear eL hl32 hs32
      go_wp2_with (first | (refine wpl_load_at rfl 104 _ rfl gs 0 rfl (cellsOf (Bl.hashM nk M)) _ Tryd.underlying104 rfl Hs32.out (fun j _ => by rw [Nat.zero_add]; exact hU.cell j) ?_) | (refine wpl_store_all rfl 104 _ _ rfl w.heap.size (cellsOf (Bl.hashM nk M)) rfl rfl 104 (List.replicate 32 (Value.int .u8 0)) hR (by rw [Hl32.out]; rfl) Hs32.out cellsOf_one ?_; intro W9 hR9 hO9))
      have hO10 := hO.trans hO9 (by simp)
      exact bodyPost_ret (results_cell_row rfl _ _ w.heap.size 104 (cellsOf (Bl.hashM nk M)).toArray (0, 0) _ rfl hR9 Tryd.underlying104 rfl (by simpa using Hs32.out)) rfl ⟨rfl, hO10⟩
end Go.Proofs.YtchbgfgboogniaaDoor
namespace Go.Proofs.YtchbgfgboogniaaDoor
open Go.RowKit
theorem HS.lt {w : World} {gh nk wt : Nat} {M : List UInt8} (h : HS w gh nk M wt) : gh < w.heap.size := by obtain ⟨_, _, ⟨_, hb, _⟩, _⟩ := h; exact hb.lt
theorem HS.keep {S : List Nat} {w w' : World} {gh nk wt : Nat} {M : List UInt8} (h : HS w gh nk M wt) (ho : Only S w w') (hn : gh ∉ S) : HS w' gh nk M wt := by
  obtain ⟨f, q, ⟨b, hb, r⟩, hz⟩ := h
  exact ⟨f, q, ⟨b, hb.keep ho hn, r⟩, hz⟩
theorem HS.made {w : World} {gh nk wt : Nat} {M : List UInt8} (h : HS w gh nk M wt) : w.cell? ⟨gh, 0, none⟩ = some (.bool true) := by
  obtain ⟨f, q, ⟨b, hb, r⟩, hz⟩ := h
  exact hb.cellv rfl
theorem HS.written {w : World} {gh nk wt : Nat} {M : List UInt8} (h : HS w gh nk M wt) (hn : nk ≤ 32) : w.cell? ⟨gh, 75, none⟩ = some (.int .i64 (wt : Int)) := by
  obtain ⟨f, q, ⟨b, hb, hl, r⟩, hz⟩ := h
  exact hb.cellv (hcells_tail (Bl.stq_words hn q).1 hl 2)

theorem RB.low {w : World} {A : Option Addr} {bs : List UInt8} (h : RB w A bs) {g : Nat} (hg : w.heap.size ≤ g) : 0 < bs.length → ∀ p, A = some p → p.block ≠ g := by
  intro h0 p hp
  obtain ⟨g', o, h1, h2, _⟩ := h h0
  rw [h1] at hp
  injection hp with hp
  subst hp
  simp
  omega

set_option maxHeartbeats 1000000 in
set_option maxRecDepth 100000 in
theorem hashOf_any (w : World) (A : Option Addr) (c : Nat) (key : List UInt8) (hk : key.length ≤ 32) (hc : key.length ≤ c) (hr : RB w A key) (hgl : Gl w)
    (gp : Nat) (B : Option Addr) (d : Nat) (b : List UInt8) (hgp : gp < w.heap.size) (hcp : w.cell? ⟨gp, 0, none⟩ = some (.slice B b.length d)) (hd : b.length ≤ d) (hrb : RB w B b) (hbl : b.length ≤ 2305843009213693952) :
    Calls Tryd.prog 106 #[.slice A key.length c, .slice (some ⟨gp, 0, none⟩) 1 1] w fun e w' => e = .returned (.agg (cellsOf (Bl.hash key b)).toArray) ∧ Only [] w w' := by
  have Hcp := Lib.hid hcp
  clear hcp
  have hkb : (Bl.kblock key).length ≤ 64 := by unfold Bl.kblock; split <;> simp; omega
  have hl32 : (cellsOf (Bl.hash key b)).length = 32 := by simp
  have hs32 : (Tryd.prog.info? 104).map (·.size) = some (cellsOf (Bl.hash key b)).length := by rw [hl32]; exact arr32size
  have Hs32 := Lib.hid hs32
  have Hl32 := Lib.hid hl32
  clear hl32 hs32
  go_enter Tryd.func106, Tryd.ntmps106
  go_upto_region 1 with (fail)
  have hR1 := Blk.new w 104 (List.replicate 32 (Value.int .u8 0))
  have hO1 := (Only.refl [] w).alloc (.cells (List.replicate 32 (Value.int .u8 0)).toArray 104)
  have hs1 : (w.alloc (.cells (List.replicate 32 (Value.int .u8 0)).toArray 104)).heap.size = w.heap.size + 1 := by simp
  revert hR1 hO1 hs1
  simp only [List.replicate_succ, List.replicate_zero]
  generalize World.alloc _ _ = W1
  intro hR1 hO1 hs1
  have hs1' : w.heap.size < W1.heap.size := by omega
  clear hs1
  have hsz := hgl.sz
  go_wp2_with (first
    | (go_at_call 127; refine (start_any W1 A c key hk hc (hr.keep0 hO1) (hgl.keep hO1 (by simp) (by simp))).mono ?_; rintro e W2 ⟨rfl, hS2, hO2⟩; have hO2' := hO1.trans' hO2; have hR2 := hR1.keep hO2 (by simp); have hl2 := hS2.lt; clear hO1 hR1 hO2)
    | (go_at_call 128; refine (absorb_any W2 W1.heap.size key.length (Bl.kblock key) b 0 gp d B hS2 (by omega) (by omega) ((hO2'.cell (p := ⟨gp, 0, none⟩) hgp (by simp)).trans Hcp.out) hd (hrb.keep0 hO2') (hrb.low (by omega)) hk (by omega) (by omega) (hgl.keep hO2' (by simp) (by simp)) (by omega)).mono ?_; rintro e W3 ⟨rfl, hS3, hO3⟩; have hO3' := hO2'.trans hO3 (by simp; omega); have hR3 := hR2.keep hO3 (by simp; omega); clear hS2 hO2' hR2 hO3)
    | (go_at_call 129; refine (finish_any W3 W1.heap.size key.length (Bl.kblock key ++ b) _ hS3 hk (by simp; omega) (hgl.keep hO3' (by simp) (by simp)) (by omega)).mono ?_; rintro e W4 ⟨rfl, hO4⟩; have hO4' := hO3'.trans hO4 (by simp; omega); have hR4 := hR3.keep hO4 (by simp; omega); clear hS3 hO3' hR3 hO4)
    | (refine wpl_store_all rfl 104 _ _ rfl w.heap.size (cellsOf (Bl.hash key b)) rfl rfl 104 _ hR4 (by rw [Hl32.out]; rfl) Hs32.out cellsOf_one ?_; intro W5 hR5 hO5))
  exact bodyPost_ret (results_cell_row rfl _ _ w.heap.size 104 (cellsOf (Bl.hash key b)).toArray (0, 0) _ rfl hR5 Tryd.underlying104 rfl (by simpa using Hs32.out)) rfl ⟨rfl, hO4'.trans hO5 (by simp)⟩

/-- The world behind 'T{x}' as the one part of a call. -/
theorem part_new (w : World) (t : TypeId) (v : Value) : (w.alloc (.cells #[v] t)).cell? ⟨w.heap.size, 0, none⟩ = some v := (Blk.new w t [v]).cellv rfl

end Go.Proofs.YtchbgfgboogniaaDoor
namespace Go.Proofs.YtchbgfgboogniaaDoor
open Go.RowKit
theorem results_row_tmp {P : Program} {fn : Func} {p u : Tmp} {ty : TypeId} (h : fn.results = #[.cell p ty, .tmp u]) (tmps : Array Value) (w : World) (g : Nat) (t : TypeId) (cs : List Value) (d : TypeDesc)
    (hp : tmps.getD p undef = .pointer (some ⟨g, 0, none⟩)) (hg : Blk w g t cs)
    (hu : P.underlying ty = some d) (hd : (match d with | .struct _ | .array _ _ => true | _ => false) = true) (hi : (P.info? ty).map (·.size) = some cs.length) :
    (results fn tmps).run P w = .ok (.tuple #[.agg cs.toArray, tmps.getD u undef]) w := by
  have hp' : tmps[p]?.getD undef = .pointer (some ⟨g, 0, none⟩) := by simpa using hp
  simp [results, h, hp', asAddr, run_loadVar_row w g t ty cs.toArray (0, 0) d hg hu hd (by simpa using hi)]

set_option maxRecDepth 100000 in
set_option maxHeartbeats 4000000 in
theorem keyed_any (w : World) (A : Option Addr) (c : Nat) (key : List UInt8) (hk1 : 1 ≤ key.length) (hk : key.length ≤ 32) (hc : key.length ≤ c) (hr : RB w A key)
    (B : Option Addr) (d : Nat) (b : List UInt8) (hd : b.length ≤ d) (hrb : RB w B b) (hbl : b.length ≤ 2305843009213693952) (hgl : Gl w) :
    Calls Tryd.prog 59 #[.slice A key.length c, .slice B b.length d] w fun e w' => e = .returned (.tuple #[.agg (cellsOf (Bl.hash key b)).toArray, .int .i64 0]) ∧ Only [] w w' := by
  have hl32 : (cellsOf (Bl.hash key b)).length = 32 := by simp
  have hs32 : (Tryd.prog.info? 104).map (·.size) = some (cellsOf (Bl.hash key b)).length := by rw [hl32]; exact arr32size
  have Hs32 := Lib.hid hs32
  have Hl32 := Lib.hid hl32
  clear hl32 hs32
  go_enter Tryd.func59, Tryd.ntmps59
  go_upto_region 1 with (fail)
  have hR1 := Blk.new w 104 (List.replicate 32 (Value.int .u8 0))
  have hO1 := (Only.refl [] w).alloc (.cells (List.replicate 32 (Value.int .u8 0)).toArray 104)
  have hs1 : (w.alloc (.cells (List.replicate 32 (Value.int .u8 0)).toArray 104)).heap.size = w.heap.size + 1 := by simp
  revert hR1 hO1 hs1
  simp only [List.replicate_succ, List.replicate_zero]
  generalize World.alloc _ _ = W1
  intro hR1 hO1 hs1
  have hs1' : w.heap.size < W1.heap.size := by omega
  clear hs1
  go_wp2_with fail
  have hO2 := hO1.alloc (.cells #[.slice B b.length d] 23)
  refine (hashOf_any _ A c key hk hc (hr.keep0 hO2) (hgl.keep hO2 (by simp) (by simp)) W1.heap.size B d b (by simp) (part_new _ _ _) hd (hrb.keep0 hO2) hbl).mono ?_
  rintro e W2 ⟨rfl, hO3⟩
  have hR2 := (hR1.alloc (.cells #[.slice B b.length d] 23)).keep hO3 (by simp)
  have hO4 := hO2.trans' hO3
  go_wp2_with (refine wpl_store_all rfl 104 _ _ rfl w.heap.size (cellsOf (Bl.hash key b)) rfl rfl 104 _ hR2 (by rw [Hl32.out]; rfl) Hs32.out cellsOf_one ?_; intro W5 hR5 hO5)
  exact bodyPost_ret (results_row_tmp rfl _ _ w.heap.size 104 (cellsOf (Bl.hash key b)) _ rfl hR5 Tryd.underlying104 rfl Hs32.out) rfl ⟨rfl, hO4.trans hO5 (by simp)⟩

end Go.Proofs.YtchbgfgboogniaaDoor
