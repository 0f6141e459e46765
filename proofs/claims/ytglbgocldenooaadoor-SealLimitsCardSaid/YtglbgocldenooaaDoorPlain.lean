/-
  BLAKE2s in plain Lean, over natural numbers: words, the function G, a round, the compression of a block, the hash of a string with a key. No program in sight.
-/
import Derived.Laws.BitsAllLaws
namespace Go.Proofs.YtglbgocldenooaaDoor
namespace Bl
def add32 (a b : Nat) : Nat := (a + b) % 4294967296
def ror (x n : Nat) : Nat := x / 2 ^ n ||| x * 2 ^ (32 - n) % 4294967296
theorem add32_lt (a b : Nat) : add32 a b < 4294967296 := by unfold add32; omega
theorem ror_lt (x n : Nat) (h : x < 4294967296) : ror x n < 4294967296 := by
  unfold ror
  have h1 : x / 2 ^ n < 2 ^ 32 := Nat.lt_of_le_of_lt (Nat.div_le_self _ _) h
  have h2 : x * 2 ^ (32 - n) % 4294967296 < 2 ^ 32 := by omega
  exact Nat.or_lt_two_pow h1 h2
theorem xor_lt (a b : Nat) (h : a < 4294967296) (k : b < 4294967296) : a ^^^ b < 4294967296 := Nat.xor_lt_two_pow (n := 32) h k
theorem add32_assoc (a b c : Nat) : add32 (add32 a b) c = add32 a (add32 b c) := by unfold add32; omega
theorem add_cast (a b : Nat) : ((a : Int) + b) % 4294967296 = ((add32 a b : Nat) : Int) := by simp [add32]

/-- The four words after G. -/
def ga (a b x : Nat) : Nat := add32 a (add32 b x)
structure Four where
  a : Nat
  b : Nat
  c : Nat
  d : Nat
/-- The first half of G, with the rotations r and s. -/
def half (r s : Nat) (q : Four) (x : Nat) : Four :=
  let a := add32 q.a (add32 q.b x)
  let d := ror (q.d ^^^ a) r
  let c := add32 q.c d
  let b := ror (q.b ^^^ c) s
  ⟨a, b, c, d⟩
def gmix (q : Four) (x y : Nat) : Four := half 8 7 (half 16 12 q x) y
def Four.ok (q : Four) : Prop := q.a < 4294967296 ∧ q.b < 4294967296 ∧ q.c < 4294967296 ∧ q.d < 4294967296
theorem half_ok {r s : Nat} {q : Four} {x : Nat} (h : q.ok) : (half r s q x).ok := by
  obtain ⟨h1, h2, h3, h4⟩ := h
  have ha := add32_lt q.a (add32 q.b x)
  have hd := ror_lt _ r (xor_lt _ _ h4 ha)
  have hc := add32_lt q.c (ror (q.d ^^^ add32 q.a (add32 q.b x)) r)
  exact ⟨ha, ror_lt _ s (xor_lt _ _ h2 hc), hc, hd⟩
theorem gmix_ok {q : Four} {x y : Nat} (h : q.ok) : (gmix q x y).ok := half_ok (half_ok h)

/-- bits at u32, as the walks come to them -/
theorem or_rot (x p q : Nat) (hx : x < 4294967296) : bits .or .u32 ((x : Int) * p % 4294967296) ((x : Int) / q) = ((x / q ||| x * p % 4294967296 : Nat) : Int) := by
  have h1 : x / q < 4294967296 := Nat.lt_of_le_of_lt (Nat.div_le_self _ _) hx
  have h2 : x * p % 4294967296 < 4294967296 := by omega
  have := u32_or_nat (x * p % 4294967296) (x / q) h2 h1
  rw [Nat.or_comm] at this
  rw [← this]
  simp

/-- The sixteen words after G at four places. -/
def mixw (ws : List Nat) (a b c d x y : Nat) : List Nat :=
  let q := Bl.gmix ⟨ws.getD a 0, ws.getD b 0, ws.getD c 0, ws.getD d 0⟩ x y
  (((ws.set a q.a).set b q.b).set c q.c).set d q.d
def iv : List Nat := [1779033703, 3144134277, 1013904242, 2773480762, 1359893119, 2600822924, 528734635, 1541459225]
def tab : List (List Nat) := [[0, 1, 2, 3, 4, 5, 6, 7, 8, 9, 10, 11, 12, 13, 14, 15], [14, 10, 4, 8, 9, 15, 13, 6, 1, 12, 0, 2, 11, 7, 5, 3], [11, 8, 12, 0, 5, 2, 15, 13, 10, 14, 3, 6, 7, 1, 9, 4], [7, 9, 3, 1, 13, 12, 11, 14, 2, 6, 5, 10, 4, 0, 15, 8], [9, 0, 5, 7, 2, 4, 10, 15, 14, 1, 11, 12, 6, 8, 3, 13], [2, 12, 6, 10, 0, 11, 8, 3, 4, 13, 7, 5, 15, 14, 1, 9], [12, 5, 1, 15, 14, 13, 4, 10, 0, 7, 6, 3, 9, 2, 8, 11], [13, 11, 7, 14, 12, 1, 3, 9, 5, 0, 15, 4, 8, 6, 2, 10], [6, 15, 14, 9, 11, 3, 0, 8, 12, 2, 13, 7, 1, 4, 10, 5], [10, 2, 8, 4, 7, 6, 1, 5, 15, 11, 9, 14, 3, 12, 13, 0]]
def ivf (i : Nat) : Nat := iv.getD i 0
theorem ivf_all : (List.range 8).map ivf = iv := by decide
/-- n words. -/
def Words (n : Nat) (ws : List Nat) : Prop := ws.length = n ∧ ∀ x ∈ ws, x < 4294967296
theorem Words.getD {n : Nat} {ws : List Nat} (h : Words n ws) (i : Nat) : ws.getD i 0 < 4294967296 := by
  by_cases hi : i < ws.length
  · simp [hi]; exact h.2 _ (List.getElem_mem hi)
  · simp [hi]
theorem Words.set {n : Nat} {ws : List Nat} (h : Words n ws) (i : Nat) {v : Nat} (hv : v < 4294967296) : Words n (ws.set i v) :=
  ⟨by simp [h.1], fun x hx => (List.mem_or_eq_of_mem_set hx).elim (h.2 x) (fun e => e ▸ hv)⟩
theorem mixw_words {n : Nat} {ws : List Nat} (h : Words n ws) (a b c d x y : Nat) : Words n (mixw ws a b c d x y) := by
  have hq : (gmix ⟨ws.getD a 0, ws.getD b 0, ws.getD c 0, ws.getD d 0⟩ x y).ok := gmix_ok ⟨h.getD a, h.getD b, h.getD c, h.getD d⟩
  exact (((h.set a hq.1).set b hq.2.1).set c hq.2.2.1).set d hq.2.2.2
def mword (b0 b1 b2 b3 : Nat) : Nat := ((b0 ||| b1 * 256) ||| b2 * 65536) ||| b3 * 16777216
theorem mword_lt {b0 b1 b2 b3 : Nat} (h0 : b0 < 256) (h1 : b1 < 256) (h2 : b2 < 256) (h3 : b3 < 256) : mword b0 b1 b2 b3 < 4294967296 := by
  unfold mword
  exact Nat.or_lt_two_pow (n := 32) (Nat.or_lt_two_pow (Nat.or_lt_two_pow (by omega) (by omega)) (by omega)) (by omega)
theorem mword_cast {b0 b1 b2 b3 : Nat} (h0 : b0 < 256) (h1 : b1 < 256) (h2 : b2 < 256) (h3 : b3 < 256) :
    bits .or .u32 (bits .or .u32 (bits .or .u32 (b0 : Int) ((b1 : Int) * 256)) ((b2 : Int) * 65536)) ((b3 : Int) * 16777216) = ((mword b0 b1 b2 b3 : Nat) : Int) := by
  have e1 := u32_or_nat b0 (b1 * 256) (by omega) (by omega)
  have l1 : b0 ||| b1 * 256 < 4294967296 := Nat.or_lt_two_pow (n := 32) (by omega) (by omega)
  have e2 := u32_or_nat (b0 ||| b1 * 256) (b2 * 65536) l1 (by omega)
  have l2 : (b0 ||| b1 * 256) ||| b2 * 65536 < 4294967296 := Nat.or_lt_two_pow (n := 32) l1 (by omega)
  have e3 := u32_or_nat ((b0 ||| b1 * 256) ||| b2 * 65536) (b3 * 16777216) l2 (by omega)
  simp only [Int.natCast_mul, Int.cast_ofNat_Int] at e1 e2 e3
  rw [e1, e2, e3]
  rfl
/-- Word i of a block. -/
def mw (bs : List UInt8) (i : Nat) : Nat := mword (bs.getD (4 * i) 0).toNat (bs.getD (4 * i + 1) 0).toNat (bs.getD (4 * i + 2) 0).toNat (bs.getD (4 * i + 3) 0).toNat
def mws (bs : List UInt8) : List Nat := (List.range 16).map (mw bs)
theorem mw_lt (bs : List UInt8) (i : Nat) : mw bs i < 4294967296 := mword_lt (UInt8.toNat_lt _) (UInt8.toNat_lt _) (UInt8.toNat_lt _) (UInt8.toNat_lt _)
theorem mws_words (bs : List UInt8) : Words 16 (mws bs) := ⟨by simp [mws], fun x hx => by obtain ⟨i, _, rfl⟩ := List.mem_map.1 hx; exact mw_lt _ _⟩
/-- A round with the row's words of m. -/
def round (m row v : List Nat) : List Nat :=
  let x := fun i => m.getD (row.getD i 0) 0
  let v1 := mixw v 0 4 8 12 (x 0) (x 1)
  let v2 := mixw v1 1 5 9 13 (x 2) (x 3)
  let v3 := mixw v2 2 6 10 14 (x 4) (x 5)
  let v4 := mixw v3 3 7 11 15 (x 6) (x 7)
  let v5 := mixw v4 0 5 10 15 (x 8) (x 9)
  let v6 := mixw v5 1 6 11 12 (x 10) (x 11)
  let v7 := mixw v6 2 7 8 13 (x 12) (x 13)
  let v8 := mixw v7 3 4 9 14 (x 14) (x 15)
  v8
def rounds (m : List Nat) : Nat → List Nat → List Nat
  | 0, v => v
  | k + 1, v => round m (tab.getD k []) (rounds m k v)
theorem round_words {m row v : List Nat} (h : Words 16 v) : Words 16 (round m row v) := by
  unfold round
  exact mixw_words (mixw_words (mixw_words (mixw_words (mixw_words (mixw_words (mixw_words (mixw_words h _ _ _ _ _ _) _ _ _ _ _ _) _ _ _ _ _ _) _ _ _ _ _ _) _ _ _ _ _ _) _ _ _ _ _ _) _ _ _ _ _ _) _ _ _ _ _ _
theorem rounds_words {m v : List Nat} (h : Words 16 v) : ∀ k, Words 16 (rounds m k v)
  | 0 => h
  | k + 1 => round_words (rounds_words h k)
theorem iv_words : Words 8 iv := ⟨by decide, by decide⟩
theorem tab_len (r : Nat) (h : r < 10) : (tab.getD r []).length = 16 := (by decide : ∀ r : Fin 10, (tab.getD r.val []).length = 16) ⟨r, h⟩
theorem tab_lt (r : Nat) (h : r < 10) (j : Nat) : (tab.getD r []).getD j 0 < 16 := by
  by_cases hj : j < 16
  · exact (by decide : ∀ r : Fin 10, ∀ j : Fin 16, (tab.getD r.val []).getD j.val 0 < 16) ⟨r, h⟩ ⟨j, hj⟩
  · rw [List.getD_eq_getElem?_getD, List.getElem?_eq_none (by rw [tab_len r h]; omega)]; decide
/-- The sixteen words before the rounds. -/
def vinit (st : List Nat) (t : Nat) (last : Bool) : List Nat :=
  let v := st ++ iv
  let v1 := v.set 12 (1359893119 ^^^ t % 4294967296)
  let v2 := v1.set 13 (2600822924 ^^^ t / 4294967296 % 4294967296)
  if last then v2.set 14 (528734635 ^^^ 4294967295) else v2
theorem vinit_words {st : List Nat} {t : Nat} {last : Bool} (h : Words 8 st) : Words 16 (vinit st t last) := by
  have h0 : Words 16 (st ++ iv) := ⟨by simp [h.1, iv_words.1], fun x hx => (List.mem_append.1 hx).elim (h.2 x) (iv_words.2 x)⟩
  have h1 := h0.set 12 (xor_lt 1359893119 (t % 4294967296) (by decide) (by omega))
  have h2 := h1.set 13 (xor_lt 2600822924 (t / 4294967296 % 4294967296) (by decide) (by omega))
  unfold vinit
  cases last
  · exact h2
  · exact h2.set 14 (by decide)
/-- The state after a block. -/
def comp (st : List Nat) (bs : List UInt8) (t : Nat) (last : Bool) : List Nat :=
  let v := rounds (mws bs) 10 (vinit st t last)
  (List.range 8).map fun i => st.getD i 0 ^^^ (v.getD i 0 ^^^ v.getD (i + 8) 0)
theorem comp_words {st : List Nat} {bs : List UInt8} {t : Nat} {last : Bool} (h : Words 8 st) : Words 8 (comp st bs t last) := by
  have hv := rounds_words (m := mws bs) (vinit_words (t := t) (last := last) h) 10
  refine ⟨by simp [comp], fun x hx => ?_⟩
  obtain ⟨i, _, rfl⟩ := List.mem_map.1 hx
  exact xor_lt _ _ (h.getD i) (xor_lt _ _ (hv.getD i) (hv.getD _))
end Bl
end Go.Proofs.YtglbgocldenooaaDoor
