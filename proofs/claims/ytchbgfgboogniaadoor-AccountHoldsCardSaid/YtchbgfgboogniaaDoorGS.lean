/-
  WHAT STANDS IN MEMORY THROUGHOUT: the tables of package blake.
  WALKING CODE BY WHAT IS KNOWN OF ITS SLOTS, over any program. A slot's content is known by a predicate that stays true while only new blocks and the walker's own blocks change; the walker's own variables in memory are boxes. No world is written out.
  WALKING CODE BY WHAT IS KNOWN: the code's forms, regions, reads, effects, calls by contracts. Over any program.
  WALKING CODE BY WHAT IS KNOWN: the single operations. Over any program.
  WALKING CODE BY WHAT IS KNOWN: stores, structs that are put together, a function's results. Over any program.
  WALKING CODE BY WHAT IS KNOWN: strings, arrays of one's own, slices of one element. Over any program.
  WALKING CODE BY WHAT IS KNOWN: slices of structs. Over any program.
  WALKING CODE BY WHAT IS KNOWN: arrays that a callee returns as its own, words and their bits, parts of slices. Over any program.
-/
import Derived.Test.YtchbgfgboogniaaDoorGD
import Derived.Test.YtchbgfgboogniaaDoorGC
import Derived.Test.YtchbgfgboogniaaDoorGB
import Derived.Deep.LoopGhost
import Derived.WalkSpells
import Derived.Lib.Strings
import Derived.Lib.IndexBytes
namespace Go.Proofs.YtchbgfgboogniaaDoor
open Go.RowKit
namespace Sx
/-- What stands throughout, in the blocks F. -/
structure Glob where
  R : World → Prop
  F : List Nat
  lt : ∀ {w : World}, R w → ∀ g ∈ F, g < w.heap.size
  keep : ∀ {S : List Nat} {w w' : World}, R w → Only S w w' → (∀ g ∈ F, g ∉ S) → R w'
def glob : Glob := ⟨Gl, [0, 1],
  fun h g hg => Nat.lt_of_lt_of_le (show g < 2 by
    simp only [List.mem_cons, List.not_mem_nil, or_false] at hg
    rcases hg with rfl | rfl <;> decide) h.sz,
  fun h ho hn => h.keep ho (hn _ (by simp)) (hn _ (by simp))⟩
end Sx
end Go.Proofs.YtchbgfgboogniaaDoor
namespace Go.Proofs.YtchbgfgboogniaaDoor
open Go.RowKit
namespace Sx
/-- What is known of a value, apart from the blocks L. -/
structure D where
  R : List Nat → World → Value → Prop
  keep : ∀ {L S : List Nat} {w w' : World} {v : Value}, R L w v → Only S w w' → (∀ x ∈ S, x ∈ L) → R L w' v
  less : ∀ {L L' : List Nat} {w : World} {v : Value}, R L w v → (∀ x ∈ L', x ∈ L ∨ w.heap.size ≤ x) → R L' w v

/-- This very value. -/
def isD (x : Value) : D := ⟨fun _ _ v => v = x, fun h _ _ => h, fun h _ => h⟩
/-- A list of values, each known. -/
def All (L : List Nat) (w : World) : List D → List Value → Prop
  | [], [] => True
  | d :: ds, c :: cs => d.R L w c ∧ All L w ds cs
  | _, _ => False
theorem All.keep {L S : List Nat} {w w' : World} (ho : Only S w w') (hS : ∀ x ∈ S, x ∈ L) : ∀ {ds : List D} {cs : List Value}, All L w ds cs → All L w' ds cs
  | [], [], _ => trivial
  | d :: _, _ :: _, h => ⟨d.keep h.1 ho hS, All.keep ho hS h.2⟩
theorem All.less {L L' : List Nat} {w : World} (hS : ∀ x ∈ L', x ∈ L ∨ w.heap.size ≤ x) : ∀ {ds : List D} {cs : List Value}, All L w ds cs → All L' w ds cs
  | [], [], _ => trivial
  | d :: _, _ :: _, h => ⟨d.less h.1 hS, All.less hS h.2⟩
theorem All.length {L : List Nat} {w : World} : ∀ {ds : List D} {cs : List Value}, All L w ds cs → cs.length = ds.length
  | [], [], _ => rfl
  | _ :: _, _ :: _, h => by simp [All.length h.2]
theorem All.at {L : List Nat} {w : World} : ∀ {ds : List D} {cs : List Value} {i : Nat} {d : D}, All L w ds cs → ds[i]? = some d → ∃ c, cs[i]? = some c ∧ d.R L w c
  | [], [], i, d, _, h => by simp at h
  | d' :: _, c :: _, 0, d, h, he => ⟨c, by simp, by simp at he; subst he; exact h.1⟩
  | _ :: _, _ :: _, i + 1, d, h, he => by
    obtain ⟨c, h1, h2⟩ := All.at (i := i) h.2 (by simpa using he)
    exact ⟨c, by simpa using h1, h2⟩
theorem All.set {L : List Nat} {w : World} : ∀ {ds : List D} {cs : List Value} {i : Nat} {d : D} {c : Value}, All L w ds cs → d.R L w c → All L w (ds.set i d) (cs.set i c)
  | [], [], i, d, c, h, _ => by simp; exact h
  | _ :: _, _ :: _, 0, d, c, h, hd => ⟨hd, h.2⟩
  | _ :: _, _ :: _, i + 1, d, c, h, hd => ⟨h.1, All.set h.2 hd⟩
theorem All.drop {L : List Nat} {w : World} : ∀ {ds : List D} {cs : List Value} (n : Nat), All L w ds cs → All L w (ds.drop n) (cs.drop n)
  | _, _, 0, h => h
  | [], [], _ + 1, _ => trivial
  | _ :: _, _ :: _, n + 1, h => All.drop n h.2
theorem All.take {L : List Nat} {w : World} : ∀ {ds : List D} {cs : List Value} (n : Nat), All L w ds cs → All L w (ds.take n) (cs.take n)
  | [], [], n, _ => by simp; trivial
  | _ :: _, _ :: _, 0, _ => trivial
  | _ :: _, _ :: _, n + 1, h => ⟨h.1, All.take n h.2⟩
theorem All.append {L : List Nat} {w : World} : ∀ {ds : List D} {cs : List Value} {es : List D} {fs : List Value}, All L w ds cs → All L w es fs → All L w (ds ++ es) (cs ++ fs)
  | [], [], _, _, _, h => h
  | _ :: _, _ :: _, _, _, h, k => ⟨h.1, All.append h.2 k⟩
theorem All.one {L : List Nat} {w : World} {d : D} {v : Value} (h : d.R L w v) : All L w [d] [v] := ⟨h, trivial⟩

/-- A struct by value; a tuple. -/
def aggD (ds : List D) : D := ⟨fun L w v => ∃ cs : List Value, v = .agg cs.toArray ∧ All L w ds cs,
  fun ⟨cs, h, k⟩ ho hS => ⟨cs, h, k.keep ho hS⟩, fun ⟨cs, h, k⟩ hS => ⟨cs, h, k.less hS⟩⟩
def tupD (ds : List D) : D := ⟨fun L w v => ∃ cs : List Value, v = .tuple cs.toArray ∧ All L w ds cs,
  fun ⟨cs, h, k⟩ ho hS => ⟨cs, h, k.keep ho hS⟩, fun ⟨cs, h, k⟩ hS => ⟨cs, h, k.less hS⟩⟩
/-- A slice that reads as these values, one cell each. -/
def slD (xs : List Value) : D := ⟨fun L w v => ∃ A c, v = .slice A xs.length c ∧ xs.length ≤ c ∧ RV w A xs ∧ (0 < xs.length → ∀ p, A = some p → p.block ∉ L),
  fun ⟨A, c, h, hc, hr, ha⟩ ho hS => ⟨A, c, h, hc, fun h0 => (hr.keep ho (fun p hp hm => ha h0 p hp (hS _ hm))) h0, ha⟩,
  fun ⟨A, c, h, hc, hr, ha⟩ hS => ⟨A, c, h, hc, hr, fun h0 p hp hm => by
    obtain ⟨g', o', e, hlt, _⟩ := hr h0
    rw [e] at hp
    injection hp with hp
    subst hp
    rcases hS _ hm with h' | h'
    · exact ha h0 _ e h'
    · simp only at h'; omega⟩⟩
/-- The address of a cell that reads as x. -/
def ptD (x : Value) : D := ⟨fun L w v => ∃ g o, v = .pointer (some ⟨g, o, none⟩) ∧ g < w.heap.size ∧ w.cell? ⟨g, o, none⟩ = some x ∧ g ∉ L,
  fun ⟨g, o, h, hl, hc, ha⟩ ho hS => ⟨g, o, h, Nat.lt_of_lt_of_le hl ho.size, (ho.cell (p := ⟨g, o, none⟩) hl (fun hm => ha (hS _ hm))).trans hc, ha⟩,
  fun ⟨g, o, h, hl, hc, ha⟩ hS => ⟨g, o, h, hl, hc, fun hm => by
    rcases hS _ hm with h' | h'
    · exact ha h'
    · omega⟩⟩
/-- One knowledge follows from another. -/
def Le (d d' : D) : Prop := ∀ L w v, d.R L w v → d'.R L w v
theorem Le.refl (d : D) : Le d d := fun _ _ _ h => h
theorem Le.trans {a b c : D} (h : Le a b) (k : Le b c) : Le a c := fun _ _ _ x => k _ _ _ (h _ _ _ x)
def LeAll : List D → List D → Prop
  | [], [] => True
  | d :: ds, e :: es => Le d e ∧ LeAll ds es
  | _, _ => False
theorem LeAll.all {L : List Nat} {w : World} : ∀ {ds es : List D} {cs : List Value}, LeAll ds es → All L w ds cs → All L w es cs
  | [], [], [], _, _ => trivial
  | _ :: _, _ :: _, _ :: _, h, k => ⟨h.1 _ _ _ k.1, LeAll.all h.2 k.2⟩
theorem LeAll.refl : ∀ (ds : List D), LeAll ds ds
  | [] => trivial
  | d :: ds => ⟨Le.refl d, LeAll.refl ds⟩
theorem Le.agg {ds es : List D} (h : LeAll ds es) : Le (aggD ds) (aggD es) := fun _ _ _ ⟨cs, hv, k⟩ => ⟨cs, hv, h.all k⟩
theorem Le.tup {ds es : List D} (h : LeAll ds es) : Le (tupD ds) (tupD es) := fun _ _ _ ⟨cs, hv, k⟩ => ⟨cs, hv, h.all k⟩
theorem Le.nil_sl : Le (isD (.slice none 0 0)) (slD []) := fun _ _ _ h => ⟨none, 0, h, Nat.le_refl _, RV.nil, fun h0 => absurd h0 (by simp)⟩
theorem Le.is {x y : Value} (h : x = y) : Le (isD x) (isD y) := fun _ _ _ k => k.trans h

/-- Looking a slot up. -/
def lk : List (Nat × D) → Nat → Option D
  | [], _ => none
  | p :: r, i => match Nat.beq i p.1 with | true => some p.2 | false => lk r i
theorem lk_cons (k : Nat) (d : D) (r : List (Nat × D)) (i : Nat) : lk ((k, d) :: r) i = if i = k then some d else lk r i := by
  by_cases h : i = k
  · subst h
    rw [if_pos rfl]
    have : Nat.beq i i = true := Nat.beq_refl i
    simp [lk, this]
  · rw [if_neg h]
    have : Nat.beq i k = false := by
      cases hb : Nat.beq i k
      · rfl
      · exact absurd (Nat.eq_of_beq_eq_true hb) h
    simp [lk, this]
/-- What is fixed while a function is walked: its number of slots, the callers' own blocks, the world at its start. -/
structure Cx where
  nt : Nat
  base : List Nat
  w0 : World
  /-- blocks of the caller's that may be changed -/
  lent : List Nat := []
  /-- calls that are deferred -/
  df : List Deferred := []
/-- What is known of several blocks together: a thing. -/
structure Res where
  R : List Nat → List Nat → World → Prop
  lt : ∀ {L F : List Nat} {w : World}, R L F w → ∀ g ∈ F, g < w.heap.size
  keep : ∀ {L F S : List Nat} {w w' : World}, R L F w → Only S w w' → (∀ x ∈ S, x ∈ L) → (∀ x ∈ S, x ∉ F) → R L F w'
  less : ∀ {L L' F : List Nat} {w : World}, R L F w → (∀ x ∈ L', x ∈ L ∨ w.heap.size ≤ x) → R L' F w
/-- A block of cells, or a thing with its blocks. -/
inductive Box
  | c (g : Nat) (ds : List D)
  | r (F : List Nat) (R : Res)
def Box.fp : Box → List Nat
  | .c g _ => [g]
  | .r F _ => F
def Box.R (L : List Nat) (w : World) : Box → Prop
  | .c g ds => ∃ t cs, Blk w g t cs ∧ All L w ds cs
  | .r F R => R.R L F w
theorem Box.lt {L : List Nat} {w : World} {b : Box} (h : b.R L w) : ∀ g ∈ b.fp, g < w.heap.size := by
  cases b with
  | c g ds => intro x hx; obtain ⟨t, cs, hb, _⟩ := h; rw [List.mem_singleton.1 hx]; exact hb.lt
  | r F R => exact R.lt h
theorem Box.keep {L S : List Nat} {w w' : World} {b : Box} (h : b.R L w) (ho : Only S w w') (hS : ∀ x ∈ S, x ∈ L) (hn : ∀ x ∈ S, x ∉ b.fp) : b.R L w' := by
  cases b with
  | c g ds =>
    obtain ⟨t, cs, hb, ha⟩ := h
    exact ⟨t, cs, hb.keep ho (fun hm => hn g hm (List.mem_singleton.2 rfl)), ha.keep ho hS⟩
  | r F R => exact R.keep h ho hS hn
theorem Box.less {L L' : List Nat} {w : World} {b : Box} (h : b.R L w) (hL : ∀ x ∈ L', x ∈ L ∨ w.heap.size ≤ x) : b.R L' w := by
  cases b with
  | c g ds =>
    obtain ⟨t, cs, hb, ha⟩ := h
    exact ⟨t, cs, hb, ha.less hL⟩
  | r F R => exact R.less h hL
def fps (bs : List Box) : List Nat := bs.flatMap Box.fp
theorem fps_cons (b : Box) (bs : List Box) : fps (b :: bs) = b.fp ++ fps bs := rfl
theorem fps_append (xs bs : List Box) : fps (xs ++ bs) = fps xs ++ fps bs := by simp [fps]
theorem mem_fps {g : Nat} {bs : List Box} : g ∈ fps bs ↔ ∃ b ∈ bs, g ∈ b.fp := by simp [fps]
/-- What is known: of slots, of boxes. -/
structure St where
  tm : Nat → Option D
  bx : List Box
def St.L (Γ : Cx) (σ : St) : List Nat := fps σ.bx ++ Γ.base
structure Holds (Γ : Cx) (σ : St) (a : Act) (w : World) : Prop where
  df : a.defers = Γ.df
  sz : a.tmps.size = Γ.nt
  tm : ∀ i d, σ.tm i = some d → d.R (σ.L Γ) w (a.tmps.getD i undef)
  bx : ∀ b ∈ σ.bx, b.R (σ.L Γ) w
  nd : (fps σ.bx).Nodup
  nw : ∀ g ∈ fps σ.bx, Γ.w0.heap.size ≤ g ∨ g ∈ Γ.lent
  on : Only Γ.lent Γ.w0 w
  bs : ∀ g ∈ Γ.base, g < Γ.w0.heap.size
  dj : (∀ g ∈ Γ.lent, g ∉ Γ.base) ∧ glob.R Γ.w0 ∧ ∀ g ∈ Γ.lent, g ∉ glob.F

section
variable {Γ : Cx} {σ σ' : St} {a : Act} {w w' : World}
theorem Holds.lt (h : Holds Γ σ a w) : ∀ g ∈ σ.L Γ, g < w.heap.size := by
  intro g hg
  rcases List.mem_append.1 hg with hg | hg
  · obtain ⟨b, hb, hgb⟩ := mem_fps.1 hg
    exact Box.lt (h.bx b hb) g hgb
  · exact Nat.lt_of_lt_of_le (h.bs g hg) h.on.size
/-- What stands throughout. -/
theorem Holds.gl (h : Holds Γ σ a w) : glob.R w := glob.keep h.dj.2.1 h.on (fun g hg hm => h.dj.2.2 g hm hg)
theorem Holds.off (h : Holds Γ σ a w) : ∀ g ∈ fps σ.bx, g ∉ glob.F := fun g hg hm => by
  rcases h.nw g hg with h' | h'
  · have := glob.lt h.dj.2.1 g hm
    omega
  · exact h.dj.2.2 g h' hm
/-- Boxes are exchanged. -/
theorem Holds.swap (h : Holds Γ σ a w) {bx' : List Box} {S : List Nat} (ho : Only S w w') (hS : ∀ x ∈ S, x ∈ fps σ.bx)
    (hbx : ∀ b ∈ bx', (b ∈ σ.bx ∧ ∀ x ∈ S, x ∉ b.fp) ∨ b.R (fps bx' ++ Γ.base) w') (hids : ∀ g ∈ fps bx', g ∈ fps σ.bx ∨ w.heap.size ≤ g) (hnd : (fps bx').Nodup) : Holds Γ ⟨σ.tm, bx'⟩ a w' := by
  have hL1 : ∀ x ∈ σ.L Γ ++ (fps bx' ++ Γ.base), x ∈ σ.L Γ ∨ w.heap.size ≤ x := by
    intro x hx
    rcases List.mem_append.1 hx with hx | hx
    · exact .inl hx
    · rcases List.mem_append.1 hx with hx | hx
      · rcases hids x hx with h' | h'
        · exact .inl (List.mem_append_left _ h')
        · exact .inr h'
      · exact .inl (List.mem_append_right _ hx)
  have hS1 : ∀ x ∈ S, x ∈ σ.L Γ ++ (fps bx' ++ Γ.base) := fun x hx => List.mem_append_left _ (List.mem_append_left _ (hS x hx))
  have hL2 : ∀ x ∈ fps bx' ++ Γ.base, x ∈ σ.L Γ ++ (fps bx' ++ Γ.base) ∨ w'.heap.size ≤ x := fun x hx => .inl (List.mem_append_right _ hx)
  refine ⟨h.df, h.sz, fun i d hi => d.less (d.keep (d.less (h.tm i d hi) hL1) ho hS1) hL2, fun b hb => ?_, hnd, fun g hg => ?_, h.on.trans ho (fun x hx hlt => ?_), h.bs, h.dj⟩
  · rcases hbx b hb with ⟨h1, h2⟩ | h1
    · exact Box.less (Box.keep (Box.less (h.bx b h1) hL1) ho hS1 h2) hL2
    · exact h1
  · rcases hids g hg with h' | h'
    · exact h.nw g h'
    · exact .inl (Nat.le_trans h.on.size h')
  · rcases h.nw x (hS x hx) with h' | h'
    · omega
    · exact h'
/-- Nothing but new blocks. -/
theorem Holds.keep (h : Holds Γ σ a w) (ho : Only [] w w') : Holds Γ σ a w' :=
  h.swap ho (by simp) (fun b hb => .inl ⟨hb, by simp⟩) (fun g hg => .inl hg) h.nd
theorem Holds.drew (h : Holds Γ σ a w) : Holds Γ σ a w.drew := h.keep (Only.refl [] w).drew
def toBox (p : Nat × List D) : Box := .c p.1 p.2
def St.of (l : List (Nat × D)) (bx : List (Nat × List D)) : St := ⟨lk l, bx.map toBox⟩
def St.ob (l : List (Nat × D)) (bx : List Box) : St := ⟨lk l, bx⟩
def St.put (σ : St) (i : Nat) (d : D) : St := ⟨fun j => cond (Nat.beq j i) (some d) (σ.tm j), σ.bx⟩
theorem put_tm (σ : St) (i : Nat) (d : D) (j : Nat) : (σ.put i d).tm j = if j = i then some d else σ.tm j := by
  by_cases h : j = i
  · subst h
    have : Nat.beq j j = true := Nat.beq_refl j
    simp [St.put, this]
  · rw [if_neg h]
    have : Nat.beq j i = false := by
      cases hb : Nat.beq j i
      · rfl
      · exact absurd (Nat.eq_of_beq_eq_true hb) h
    simp [St.put, this]
def St.puto (σ : St) (i : Option Tmp) (d : D) : St := match i with | some i => σ.put i d | none => σ
@[simp] theorem L_put (Γ : Cx) (σ : St) (i : Nat) (d : D) : (σ.put i d).L Γ = σ.L Γ := rfl
@[simp] theorem L_puto (Γ : Cx) (σ : St) (i : Option Tmp) (d : D) : (σ.puto i d).L Γ = σ.L Γ := by cases i <;> rfl
theorem put_get {a : Act} {i j : Nat} {v : Value} (hi : i < a.tmps.size) : (a.put (some i) v).tmps.getD j undef = if j = i then v else a.tmps.getD j undef := by
  simp only [Act.put, Array.getD_eq_getD_getElem?, Array.getElem?_setIfInBounds]
  by_cases h : i = j
  · subst h; simp [hi]
  · have : ¬ j = i := fun e => h e.symm
    simp [h, this]
/-- A slot is written. -/
theorem Holds.put (h : Holds Γ σ a w) {i : Nat} (hi : i < Γ.nt) {d : D} {v : Value} (hd : d.R (σ.L Γ) w v) : Holds Γ (σ.put i d) (a.put (some i) v) w := by
  have hs : i < a.tmps.size := by rw [h.sz]; exact hi
  refine ⟨by simpa [Act.put] using h.df, by simpa [Act.put] using h.sz, fun j e hj => ?_, h.bx, h.nd, h.nw, h.on, h.bs, h.dj⟩
  rw [put_get hs]
  rw [put_tm] at hj
  by_cases hji : j = i
  · subst hji
    simp at hj
    subst hj
    simpa using hd
  · rw [if_neg hji] at hj
    rw [if_neg hji]
    exact h.tm j e hj
theorem Holds.puto (h : Holds Γ σ a w) {i : Option Tmp} (hi : ∀ k, i = some k → k < Γ.nt) {d : D} {v : Value} (hd : d.R (σ.L Γ) w v) : Holds Γ (σ.puto i d) (a.put i v) w := by
  cases i with
  | none => simpa [St.puto, Act.put] using h
  | some k => exact h.put (hi k rfl) hd
/-- A box more. -/
theorem Holds.more (h : Holds Γ σ a w) (ho : Only [] w w') {b : Box} (hb : b.R (b.fp ++ σ.L Γ) w') (hnew : ∀ g ∈ b.fp, w.heap.size ≤ g) (hnd : b.fp.Nodup) : Holds Γ ⟨σ.tm, σ.bx ++ [b]⟩ a w' := by
  have hfp : fps (σ.bx ++ [b]) = fps σ.bx ++ b.fp := by rw [fps_append]; simp [fps]
  refine h.swap ho (by simp) (fun c hc => ?_) (fun g hg => ?_) ?_
  · rcases List.mem_append.1 hc with hc | hc
    · exact .inl ⟨hc, by simp⟩
    · rw [List.mem_singleton.1 hc]
      refine .inr (Box.less hb (fun x hx => .inl ?_))
      rw [hfp] at hx
      simp only [List.mem_append, St.L] at hx ⊢
      rcases hx with (hx | hx) | hx
      · exact .inr (.inl hx)
      · exact .inl hx
      · exact .inr (.inr hx)
  · rw [hfp] at hg
    rcases List.mem_append.1 hg with hg | hg
    · exact .inl hg
    · exact .inr (hnew g hg)
  · rw [hfp]
    refine List.nodup_append.2 ⟨h.nd, hnd, fun x hx y hy e => ?_⟩
    have h1 := h.lt x (List.mem_append_left _ hx)
    have h2 := hnew y hy
    omega
/-- A box is made. -/
def St.mk' (σ : St) (g : Nat) (ds : List D) : St := ⟨σ.tm, σ.bx ++ [.c g ds]⟩
theorem Holds.box (h : Holds Γ σ a w) {t : TypeId} {ds : List D} {cs : List Value} (hd : All (σ.L Γ) w ds cs) : Holds Γ (σ.mk' w.heap.size ds) a (w.alloc (.cells cs.toArray t)) := by
  have ho : Only [] w (w.alloc (.cells cs.toArray t)) := (Only.refl [] w).alloc _
  refine h.more ho (b := .c w.heap.size ds) ⟨t, cs, Blk.new w t cs, (hd.less (fun x hx => ?_)).keep ho (by simp)⟩ (fun g hg => by rw [List.mem_singleton.1 hg]; exact Nat.le_refl _) (by simp [Box.fp])
  rcases List.mem_append.1 hx with hx | hx
  · exact .inr (by rw [List.mem_singleton.1 hx]; exact Nat.le_refl _)
  · exact .inl hx
def newC (b : Box) (es : List D) : Box := match b with | .c g _ => .c g es | .r F R => .r F R
def setBx : List Box → Nat → List D → List Box
  | [], _, _ => []
  | b :: bs, 0, es => newC b es :: bs
  | b :: bs, j + 1, es => b :: setBx bs j es
theorem newC_fp (b : Box) (es : List D) : (newC b es).fp = b.fp := by cases b <;> rfl
theorem setBx_ids : ∀ (bs : List Box) (j : Nat) (es : List D), fps (setBx bs j es) = fps bs
  | [], _, _ => rfl
  | b :: bs, 0, es => by simp only [setBx, fps_cons, newC_fp]
  | b :: bs, j + 1, es => by simp only [setBx, fps_cons, setBx_ids bs j es]
theorem setBx_mem : ∀ (bs : List Box) (j : Nat) (es : List D) (g : Nat) (ds : List D) (_ : bs[j]? = some (.c g ds)) (_ : (fps bs).Nodup) (x : Box), x ∈ setBx bs j es → x = .c g es ∨ (g ∉ x.fp ∧ x ∈ bs)
  | [], _, _, _, _, h, _, _, _ => by simp at h
  | b :: bs, 0, es, g, ds, h, hn, x, hm => by
    simp only [List.getElem?_cons_zero, Option.some.injEq] at h
    subst h
    rw [fps_cons] at hn
    rcases List.mem_cons.1 hm with hm | hm
    · exact .inl hm
    · refine .inr ⟨fun e => ?_, List.mem_cons_of_mem _ hm⟩
      exact (List.nodup_append.1 hn).2.2 g (by simp [Box.fp]) g (mem_fps.2 ⟨x, hm, e⟩) rfl
  | b :: bs, j + 1, es, g, ds, h, hn, x, hm => by
    simp only [List.getElem?_cons_succ] at h
    rw [fps_cons] at hn
    rcases List.mem_cons.1 hm with hm | hm
    · subst hm
      refine .inr ⟨fun e => ?_, List.mem_cons_self⟩
      exact (List.nodup_append.1 hn).2.2 g e g (mem_fps.2 ⟨_, List.mem_of_getElem? h, by simp [Box.fp]⟩) rfl
    · rcases setBx_mem bs j es g ds h (List.nodup_append.1 hn).2.1 x hm with h' | ⟨h1, h2⟩
      · exact .inl h'
      · exact .inr ⟨h1, List.mem_cons_of_mem _ h2⟩
def St.set (σ : St) (j : Nat) (es : List D) : St := ⟨σ.tm, setBx σ.bx j es⟩
@[simp] theorem L_set (Γ : Cx) (σ : St) (j : Nat) (es : List D) : (σ.set j es).L Γ = σ.L Γ := by simp [St.L, St.set, setBx_ids]
/-- A box is written, what it holds being known in the later world. -/
theorem Holds.set' (h : Holds Γ σ a w) {j g : Nat} {ds es : List D} (hj : σ.bx[j]? = some (.c g ds)) {t : TypeId} {cs : List Value} (hb : Blk w' g t cs) (ho : Only [g] w w') (hd : All (σ.L Γ) w' es cs) : Holds Γ (σ.set j es) a w' := by
  have hmem := List.mem_of_getElem? hj
  have hg : g ∈ fps σ.bx := mem_fps.2 ⟨_, hmem, by simp [Box.fp]⟩
  refine h.swap ho (fun x hx => by rw [List.mem_singleton.1 hx]; exact hg) (fun b hb' => ?_) (fun x hx => .inl (by rw [setBx_ids] at hx; exact hx)) (by rw [setBx_ids]; exact h.nd)
  rcases setBx_mem σ.bx j es g ds hj h.nd b hb' with rfl | ⟨h1, h2⟩
  · refine .inr ⟨t, cs, hb, ?_⟩
    rw [setBx_ids]
    exact hd
  · exact .inl ⟨h2, fun x hx => by rw [List.mem_singleton.1 hx]; exact h1⟩
theorem Holds.set (h : Holds Γ σ a w) {j g : Nat} {ds es : List D} (hj : σ.bx[j]? = some (.c g ds)) {t : TypeId} {cs : List Value} (hb : Blk w' g t cs) (ho : Only [g] w w') (hd : All (σ.L Γ) w es cs) : Holds Γ (σ.set j es) a w' :=
  h.set' hj hb ho (hd.keep ho (fun x hx => by rw [List.mem_singleton.1 hx]; exact List.mem_append_left _ (mem_fps.2 ⟨_, List.mem_of_getElem? hj, by simp [Box.fp]⟩)))
/-- One thing's knowledge follows from another's. -/
def LeR (r r' : Res) : Prop := ∀ L F w, r.R L F w → r'.R L F w
theorem LeR.refl (r : Res) : LeR r r := fun _ _ _ h => h
/-- Less is known: slot by slot; the boxes js of the old ones, in this order. -/
def SubBx (bs : List Box) : List Nat → List Box → Prop
  | [], [] => True
  | j :: js, .c g' ds' :: bs' => (∃ ds, bs[j]? = some (.c g' ds) ∧ LeAll ds ds') ∧ SubBx bs js bs'
  | j :: js, .r F R :: bs' => (∃ R', bs[j]? = some (.r F R') ∧ LeR R' R) ∧ SubBx bs js bs'
  | _, _ => False
def SubTm (σ : St) : List (Nat × D) → Prop
  | [] => True
  | (i, d') :: r => (∃ d, σ.tm i = some d ∧ Le d d') ∧ SubTm σ r
structure Sub (σ σ' : St) : Prop where
  tm : ∃ l, σ'.tm = lk l ∧ SubTm σ l
  bx : ∃ js : List Nat, js.Nodup ∧ SubBx σ.bx js σ'.bx
theorem SubTm.spec {σ : St} : ∀ {l : List (Nat × D)}, SubTm σ l → ∀ i d', lk l i = some d' → ∃ d, σ.tm i = some d ∧ Le d d'
  | [], _, i, d', h => by simp [lk] at h
  | (k, e) :: r, h, i, d', hi => by
    simp only [lk_cons] at hi
    by_cases hik : i = k
    · subst hik; simp at hi; subst hi; exact h.1
    · rw [if_neg hik] at hi
      exact SubTm.spec h.2 i d' hi
/-- A box is a weaker one of an old one. -/
def LeB (b b' : Box) : Prop := b.fp = b'.fp ∧ ∀ L w, b.R L w → b'.R L w
theorem SubBx.mem {bs : List Box} : ∀ {js : List Nat} {bs' : List Box}, SubBx bs js bs' → ∀ b' ∈ bs', ∃ j b, j ∈ js ∧ bs[j]? = some b ∧ LeB b b'
  | [], [], _, _, h => by simp at h
  | j :: js, .c g ds' :: bs', h, b', hm => by
    rcases List.mem_cons.1 hm with hm | hm
    · subst hm
      obtain ⟨ds, h1, h2⟩ := h.1
      exact ⟨j, _, by simp, h1, rfl, fun L w ⟨t, cs, hb, ha⟩ => ⟨t, cs, hb, h2.all ha⟩⟩
    · obtain ⟨i, b, h1, h2, h3⟩ := SubBx.mem h.2 b' hm
      exact ⟨i, b, List.mem_cons_of_mem _ h1, h2, h3⟩
  | j :: js, .r F R :: bs', h, b', hm => by
    rcases List.mem_cons.1 hm with hm | hm
    · subst hm
      obtain ⟨R', h1, h2⟩ := h.1
      exact ⟨j, _, by simp, h1, rfl, fun L w hR => h2 _ _ _ hR⟩
    · obtain ⟨i, b, h1, h2, h3⟩ := SubBx.mem h.2 b' hm
      exact ⟨i, b, List.mem_cons_of_mem _ h1, h2, h3⟩
theorem fps_at : ∀ {bs : List Box} {i j : Nat} {b c : Box} {g : Nat}, (fps bs).Nodup → bs[i]? = some b → bs[j]? = some c → g ∈ b.fp → g ∈ c.fp → i = j
  | [], i, _, _, _, _, _, h, _, _, _ => by simp at h
  | x :: bs, 0, 0, _, _, _, _, _, _, _, _ => rfl
  | x :: bs, 0, j + 1, b, c, g, hn, hi, hj, h1, h2 => by
    simp at hi hj
    subst hi
    rw [fps_cons] at hn
    exact absurd rfl ((List.nodup_append.1 hn).2.2 g h1 g (mem_fps.2 ⟨c, List.mem_of_getElem? hj, h2⟩))
  | x :: bs, i + 1, 0, b, c, g, hn, hi, hj, h1, h2 => by
    simp at hi hj
    subst hj
    rw [fps_cons] at hn
    exact absurd rfl ((List.nodup_append.1 hn).2.2 g h2 g (mem_fps.2 ⟨b, List.mem_of_getElem? hi, h1⟩))
  | x :: bs, i + 1, j + 1, b, c, g, hn, hi, hj, h1, h2 => by
    simp at hi hj
    rw [fps_cons] at hn
    rw [fps_at (List.nodup_append.1 hn).2.1 hi hj h1 h2]
theorem fp_nodup : ∀ {bs : List Box} {b : Box}, (fps bs).Nodup → b ∈ bs → b.fp.Nodup
  | x :: bs, b, hn, hm => by
    rw [fps_cons] at hn
    rcases List.mem_cons.1 hm with rfl | hm
    · exact (List.nodup_append.1 hn).1
    · exact fp_nodup (List.nodup_append.1 hn).2.1 hm
theorem SubBx.tail {bs : List Box} {j : Nat} {js : List Nat} {b : Box} {bs' : List Box} (h : SubBx bs (j :: js) (b :: bs')) : SubBx bs js bs' := by cases b <;> exact h.2
theorem SubBx.head {bs : List Box} {j : Nat} {js : List Nat} {b : Box} {bs' : List Box} (h : SubBx bs (j :: js) (b :: bs')) : ∃ c, bs[j]? = some c ∧ c.fp = b.fp := by
  cases b with
  | c g ds => obtain ⟨ds, h1, _⟩ := h.1; exact ⟨_, h1, rfl⟩
  | r F R => obtain ⟨R', h1, _⟩ := h.1; exact ⟨_, h1, rfl⟩
theorem SubBx.nodup {bs : List Box} (hn : (fps bs).Nodup) : ∀ {js : List Nat} {bs' : List Box}, js.Nodup → SubBx bs js bs' → (fps bs').Nodup
  | [], [], _, _ => by simp [fps]
  | [], .c _ _ :: _, _, h => h.elim
  | [], .r _ _ :: _, _, h => h.elim
  | _ :: _, [], _, h => h.elim
  | j :: js, b :: bs', hj, h => by
    simp only [List.nodup_cons] at hj
    rw [fps_cons]
    obtain ⟨c, h1, h2⟩ := h.head
    refine List.nodup_append.2 ⟨by rw [← h2]; exact fp_nodup hn (List.mem_of_getElem? h1), SubBx.nodup hn hj.2 h.tail, fun x hx y hy e => ?_⟩
    subst e
    obtain ⟨b', hb', hxb⟩ := mem_fps.1 hy
    obtain ⟨i, b2, h3, h4, h5⟩ := SubBx.mem h.tail b' hb'
    have := fps_at hn h1 h4 (by rw [h2]; exact hx) (by rw [h5.1]; exact hxb)
    subst this
    exact hj.1 h3
theorem Holds.sub (h : Holds Γ σ a w) (hs : Sub σ σ') : Holds Γ σ' a w := by
  obtain ⟨js, hj, hb⟩ := hs.bx
  have hmem := fun b' hm => SubBx.mem hb b' hm
  have hid : ∀ g ∈ fps σ'.bx, g ∈ fps σ.bx := by
    intro g hg
    obtain ⟨b', h1, h2⟩ := mem_fps.1 hg
    obtain ⟨j, b, _, h3, h4⟩ := hmem b' h1
    exact mem_fps.2 ⟨b, List.mem_of_getElem? h3, by rw [h4.1]; exact h2⟩
  have hL : ∀ x ∈ σ'.L Γ, x ∈ σ.L Γ ∨ w.heap.size ≤ x := by
    intro x hx
    rcases List.mem_append.1 hx with hx | hx
    · exact .inl (List.mem_append_left _ (hid x hx))
    · exact .inl (List.mem_append_right _ hx)
  refine ⟨h.df, h.sz, fun i d' hi => ?_, fun b' hb' => ?_, SubBx.nodup h.nd hj hb, fun g hg => h.nw g (hid g hg), h.on, h.bs, h.dj⟩
  · obtain ⟨l, hl, hs'⟩ := hs.tm
    rw [hl] at hi
    obtain ⟨d, h1, h2⟩ := hs'.spec i d' hi
    exact h2 _ _ _ (d.less (h.tm i d h1) hL)
  · obtain ⟨j, b, _, h1, h2⟩ := hmem b' hb'
    exact h2.2 _ _ (Box.less (h.bx b (List.mem_of_getElem? h1)) hL)
end
end Sx
end Go.Proofs.YtchbgfgboogniaaDoor
namespace Go.Proofs.YtchbgfgboogniaaDoor
open Go.RowKit
namespace Sx
def St.ev (σ : St) : Operand → Option D
  | .tmp t => σ.tm t
  | .const v => some (isD v)
  | .global g => some (isD (.pointer (some ⟨g, 0, none⟩)))
  | .func f => some (isD (.func (.func f) #[] #[]))
def St.evs (σ : St) : List Operand → Option (List D)
  | [] => some []
  | x :: xs => match σ.ev x, σ.evs xs with | some d, some ds => some (d :: ds) | _, _ => none
def dstOk (nt : Nat) (k : Nat) : Bool := Nat.blt k nt

section
variable {P : Program} {Γ : Cx} {σ σ' : St} {S : List Nat}
theorem ev_spec {a : Act} {w : World} {x : Operand} {d : D} (h : Holds Γ σ a w) (he : σ.ev x = some d) : d.R (σ.L Γ) w (a.eval x) := by
  cases x with
  | tmp t => exact h.tm t d he
  | const v => simp only [St.ev, Option.some.injEq] at he; subst he; rfl
  | global g => simp only [St.ev, Option.some.injEq] at he; subst he; rfl
  | func f => simp only [St.ev, Option.some.injEq] at he; subst he; rfl
theorem evs_spec {a : Act} {w : World} (h : Holds Γ σ a w) : ∀ {xs : List Operand} {ds : List D}, σ.evs xs = some ds → All (σ.L Γ) w ds (xs.map a.eval)
  | [], ds, he => by simp only [St.evs, Option.some.injEq] at he; subst he; trivial
  | x :: xs, ds, he => by
    simp only [St.evs] at he
    cases h1 : σ.ev x with
    | none => rw [h1] at he; cases he
    | some d =>
      cases h2 : σ.evs xs with
      | none => rw [h1, h2] at he; cases he
      | some es =>
        rw [h1, h2] at he
        simp only [Option.some.injEq] at he
        subst he
        exact ⟨ev_spec h h1, evs_spec h h2⟩

/-- A read: the value is known, and it is the same in every world in which new blocks and those of S alone differ. -/
def Rd (P : Program) (Γ : Cx) (S : List Nat) (o : Oper) (σ : St) (d : D) : Prop :=
  ∀ a w, Holds Γ σ a w → ∃ v, d.R (σ.L Γ) w v ∧ ∀ w', Only S w w' → (execOp a.eval o).run P w' = .ok (.value v) w'
/-- An effect. -/
def Ef (P : Program) (Γ : Cx) (S : List Nat) (o : Oper) (σ : St) (T : St → Prop) : Prop :=
  ∀ a w, Holds Γ σ a w → ∀ (K : Act → World → Prop) (Q : Exit → Act → World → Prop), (∀ σ' a' w', T σ' → Holds Γ σ' a' w' → Only S w w' → K a' w') → o.wp P a w K Q

def SWl (P : Program) (Γ : Cx) (ops : Array Oper) (Q : Exit → Act → World → Prop) (l : List Oper) (σ : St) : Prop := ∀ a w, Holds Γ σ a w → wpList P ops Q l a w
def SWz (P : Program) (Γ : Cx) (l : List Oper) (Q : Exit → Act → World → Prop) (S : List Nat) (t : Reg.Tz) (σ : St) : Prop := ∀ a w, Holds Γ σ a w → Reg.wpG P l Q t S a w
def SW (P : Program) (Γ : Cx) (σ : St) (c : Code) (Q : Exit → Act → World → Prop) : Prop := ∀ a w, Holds Γ σ a w → c.wp P Q a w
def SN (Γ : Cx) (Q : Exit → Act → World → Prop) (σ : St) : Prop := ∀ a w, Holds Γ σ a w → Q .normal a w

variable {ops : Array Oper} {l rest : List Oper} {Q : Exit → Act → World → Prop} {tz uz : Reg.Tz} {dst : Option Tmp} {k : Nat} {op : Op} {ty : TypeId} {pos : String} {af : Array Edge} {gd : Option (Nat × Bool)} {d : D}
theorem wanted_of {o : Oper} {a : Act} {w : World} {j t : Nat} {b want : Bool} (h : Holds Γ σ a w) (hg : o.guard = some (j, want)) (hj : (ops[j]?).bind (·.dst) = some t) (ht : σ.tm t = some (isD (.bool b))) (hn : dstOk Γ.nt t = true) :
    Region.wanted o (yielded ops a.tmps) = (b == want) := by
  have h1 : a.tmps.getD t undef = .bool b := h.tm t _ ht
  have h2 : t < a.tmps.size := by rw [h.sz]; simpa [dstOk] using hn
  have h3 : a.tmps[t]? = some (.bool b) := by
    rw [Array.getD_eq_getD_getElem?, Array.getElem?_eq_getElem h2] at h1
    rw [Array.getElem?_eq_getElem h2]
    simpa using h1
  simp only [Region.wanted, hg, yielded, hj, Option.bind_some, h3]
  cases b <;> cases want <;> rfl

theorem wanted_undef {o : Oper} {a : Act} {w : World} {j t : Nat} {want : Bool} (h : Holds Γ σ a w) (hg : o.guard = some (j, want)) (hj : (ops[j]?).bind (·.dst) = some t) (ht : σ.tm t = some (isD undef)) (hn : dstOk Γ.nt t = true) :
    Region.wanted o (yielded ops a.tmps) = false := by
  have h1 : a.tmps.getD t undef = undef := h.tm t _ ht
  have h2 : t < a.tmps.size := by rw [h.sz]; simpa [dstOk] using hn
  have h3 : a.tmps[t]? = some undef := by
    rw [Array.getD_eq_getD_getElem?, Array.getElem?_eq_getElem h2] at h1
    rw [Array.getElem?_eq_getElem h2]
    simpa using h1
  simp only [Region.wanted, hg, yielded, hj, Option.bind_some, h3, undef]
  rfl

/-! Plain regions. -/
theorem SWl.nil (h : SN Γ Q σ) : SWl P Γ ops Q [] σ := fun a w hh => h a w hh
theorem SWl.rd (hd : dstOk Γ.nt k = true) (h : Rd P Γ [] ⟨some k, op, ty, pos, af, none⟩ σ d) (hk : SWl P Γ ops Q rest (σ.put k d)) : SWl P Γ ops Q (⟨some k, op, ty, pos, af, none⟩ :: rest) σ := by
  intro a w hh
  obtain ⟨v, h1, h2⟩ := h a w hh
  refine wpList_plain rfl fun K hK => ?_
  unfold Oper.wp
  rw [h2 w (Only.refl _ _)]
  exact hK _ _ (hk _ _ (hh.put (by simpa [dstOk] using hd) h1))
theorem SWl.rdg {j t : Nat} {b c : Bool} (hj : (ops[j]?).bind (·.dst) = some t) (ht : σ.tm t = some (isD (.bool c))) (hc : c = b) (hn : dstOk Γ.nt t = true)
    (hd : dstOk Γ.nt k = true) (h : Rd P Γ [] ⟨some k, op, ty, pos, af, some (j, b)⟩ σ d) (hk : SWl P Γ ops Q rest (σ.put k d)) : SWl P Γ ops Q (⟨some k, op, ty, pos, af, some (j, b)⟩ :: rest) σ := by
  intro a w hh
  obtain ⟨v, h1, h2⟩ := h a w hh
  refine wpList_step fun K hK => ?_
  rw [wanted_of (ops := ops) hh rfl hj ht hn, if_pos (by simp [hc])]
  unfold Oper.wp
  rw [h2 w (Only.refl _ _)]
  exact hK _ _ (hk _ _ (hh.put (by simpa [dstOk] using hd) h1))
theorem SWl.off {j t : Nat} {b c : Bool} (hj : (ops[j]?).bind (·.dst) = some t) (ht : σ.tm t = some (isD (.bool c))) (hc : c = !b) (hn : dstOk Γ.nt t = true)
    (hd : dstOk Γ.nt k = true) (hk : SWl P Γ ops Q rest (σ.put k (isD undef))) : SWl P Γ ops Q (⟨some k, op, ty, pos, af, some (j, b)⟩ :: rest) σ := by
  intro a w hh
  refine wpList_step fun K hK => ?_
  rw [wanted_of (ops := ops) hh rfl hj ht hn, if_neg (by subst hc; cases b <;> simp)]
  exact hK _ _ (hk _ _ (hh.put (by simpa [dstOk] using hd) rfl))
theorem SWl.offu {j t : Nat} {b : Bool} (hj : (ops[j]?).bind (·.dst) = some t) (ht : σ.tm t = some (isD undef)) (hn : dstOk Γ.nt t = true)
    (hd : dstOk Γ.nt k = true) (hk : SWl P Γ ops Q rest (σ.put k (isD undef))) : SWl P Γ ops Q (⟨some k, op, ty, pos, af, some (j, b)⟩ :: rest) σ := by
  intro a w hh
  refine wpList_step fun K hK => ?_
  rw [wanted_undef (ops := ops) hh rfl hj ht hn, if_neg (by simp)]
  exact hK _ _ (hk _ _ (hh.put (by simpa [dstOk] using hd) rfl))
theorem SWl.ef {T : St → Prop} (h : Ef P Γ S ⟨dst, op, ty, pos, af, none⟩ σ T) (hk : ∀ σ', T σ' → SWl P Γ ops Q rest σ') : SWl P Γ ops Q (⟨dst, op, ty, pos, af, none⟩ :: rest) σ := by
  intro a w hh
  refine wpList_plain rfl fun K hK => ?_
  exact h a w hh K Q fun σ' a' w' hT hh' _ => hK _ _ (hk σ' hT a' w' hh')
theorem SWl.efg {T : St → Prop} {j t : Nat} {b c : Bool} (hj : (ops[j]?).bind (·.dst) = some t) (ht : σ.tm t = some (isD (.bool c))) (hc : c = b) (hn : dstOk Γ.nt t = true)
    (h : Ef P Γ S ⟨dst, op, ty, pos, af, some (j, b)⟩ σ T) (hk : ∀ σ', T σ' → SWl P Γ ops Q rest σ') : SWl P Γ ops Q (⟨dst, op, ty, pos, af, some (j, b)⟩ :: rest) σ := by
  intro a w hh
  refine wpList_step fun K hK => ?_
  rw [wanted_of (ops := ops) hh rfl hj ht hn, if_pos (by simp [hc])]
  exact h a w hh K Q fun σ' a' w' hT hh' _ => hK _ _ (hk σ' hT a' w' hh')

theorem SWl.split (t : Nat) {c : Bool} (_ht : σ.tm t = some (isD (.bool c))) (h1 : c = true → SWl P Γ ops Q l σ) (h2 : c = false → SWl P Γ ops Q l σ) : SWl P Γ ops Q l σ := by
  cases h : c
  · exact h2 h
  · exact h1 h
theorem SWz.split (t : Nat) {c : Bool} (_ht : σ.tm t = some (isD (.bool c))) (h1 : c = true → SWz P Γ l Q S tz σ) (h2 : c = false → SWz P Γ l Q S tz σ) : SWz P Γ l Q S tz σ := by
  cases h : c
  · exact h2 h
  · exact h1 h
/-! Regions that draw their order. -/
theorem SWz.nil (h : SN Γ Q σ) : SWz P Γ l Q S .fin σ := fun a w hh => h a w hh
theorem SWz.no : SWz P Γ l Q S .no σ := fun _ _ _ => trivial
theorem yields {o : Oper} {a : Act} {w : World} {v : Value} (hw : Region.wanted o (yielded ops a.tmps) = true) (h2 : ∀ w', Only S w w' → (execOp a.eval o).run P w' = .ok (.value v) w') : Reg.YieldsX P ops S w o v a :=
  fun w' ho => .inl ⟨hw, .inl (h2 w' ho)⟩
theorem SWz.rd {i : Nat} (ho : l[i]? = some ⟨some k, op, ty, pos, af, none⟩) (hd : dstOk Γ.nt k = true) (h : Rd P Γ S ⟨some k, op, ty, pos, af, none⟩ σ d) (hk : SWz P Γ l Q S tz (σ.put k d)) : SWz P Γ l Q S (.r i tz) σ := by
  intro a w hh
  obtain ⟨v, h1, h2⟩ := h a w hh
  have e : l.getD i default = ⟨some k, op, ty, pos, af, none⟩ := by rw [List.getD_eq_getElem?_getD, ho]; rfl
  unfold Reg.wpG
  rw [e]
  exact ⟨v, yields rfl h2, hk _ _ (hh.put (by simpa [dstOk] using hd) h1)⟩
theorem SWz.rdg {i j t : Nat} {b c : Bool} (ho : l[i]? = some ⟨some k, op, ty, pos, af, some (j, b)⟩) (hj : (l[j]?).bind (·.dst) = some t) (ht : σ.tm t = some (isD (.bool c))) (hc : c = b) (hn : dstOk Γ.nt t = true)
    (hd : dstOk Γ.nt k = true) (h : Rd P Γ S ⟨some k, op, ty, pos, af, some (j, b)⟩ σ d) (hk : SWz P Γ l Q S tz (σ.put k d)) : SWz P Γ l Q S (.r i tz) σ := by
  intro a w hh
  obtain ⟨v, h1, h2⟩ := h a w hh
  have e : l.getD i default = ⟨some k, op, ty, pos, af, some (j, b)⟩ := by rw [List.getD_eq_getElem?_getD, ho]; rfl
  unfold Reg.wpG
  rw [e]
  exact ⟨v, yields (by rw [wanted_of (ops := l.toArray) hh rfl (by simpa using hj) ht hn]; simp [hc]) h2, hk _ _ (hh.put (by simpa [dstOk] using hd) h1)⟩
theorem SWz.rq {i : Nat} (ho : l[i]? = some ⟨some k, op, ty, pos, af, none⟩) (hd : dstOk Γ.nt k = true) (h : Rd P Γ [] ⟨some k, op, ty, pos, af, none⟩ σ d) (hk : SWz P Γ l Q S tz (σ.put k d)) : SWz P Γ l Q S (.q i tz) σ := by
  intro a w hh
  obtain ⟨v, h1, h2⟩ := h a w hh
  have e : l.getD i default = ⟨some k, op, ty, pos, af, none⟩ := by rw [List.getD_eq_getElem?_getD, ho]; rfl
  unfold Reg.wpG
  rw [e]
  exact ⟨v, yields rfl h2, hk _ _ (hh.put (by simpa [dstOk] using hd) h1)⟩
theorem SWz.off {i j t : Nat} {b c : Bool} (ho : l[i]? = some ⟨some k, op, ty, pos, af, some (j, b)⟩) (hj : (l[j]?).bind (·.dst) = some t) (ht : σ.tm t = some (isD (.bool c))) (hc : c = !b) (hn : dstOk Γ.nt t = true)
    (hd : dstOk Γ.nt k = true) (hk : SWz P Γ l Q S tz (σ.put k (isD undef))) : SWz P Γ l Q S (.r i tz) σ := by
  intro a w hh
  have e : l.getD i default = ⟨some k, op, ty, pos, af, some (j, b)⟩ := by rw [List.getD_eq_getElem?_getD, ho]; rfl
  unfold Reg.wpG
  rw [e]
  exact ⟨undef, fun w' _ => .inr ⟨by rw [wanted_of (ops := l.toArray) hh rfl (by simpa using hj) ht hn]; subst hc; cases b <;> simp, rfl⟩, hk _ _ (hh.put (by simpa [dstOk] using hd) rfl)⟩
theorem SWz.offu {i j t : Nat} {b : Bool} (ho : l[i]? = some ⟨some k, op, ty, pos, af, some (j, b)⟩) (hj : (l[j]?).bind (·.dst) = some t) (ht : σ.tm t = some (isD undef)) (hn : dstOk Γ.nt t = true)
    (hd : dstOk Γ.nt k = true) (hk : SWz P Γ l Q S tz (σ.put k (isD undef))) : SWz P Γ l Q S (.r i tz) σ := by
  intro a w hh
  have e : l.getD i default = ⟨some k, op, ty, pos, af, some (j, b)⟩ := by rw [List.getD_eq_getElem?_getD, ho]; rfl
  unfold Reg.wpG
  rw [e]
  exact ⟨undef, fun w' _ => .inr ⟨wanted_undef (ops := l.toArray) hh rfl (by simpa using hj) ht hn, rfl⟩, hk _ _ (hh.put (by simpa [dstOk] using hd) rfl)⟩
theorem SWz.efn {T : St → Prop} {i : Nat} (ho : l[i]? = some ⟨dst, op, ty, pos, af, none⟩) (h : Ef P Γ [] ⟨dst, op, ty, pos, af, none⟩ σ T) (hk : ∀ σ', T σ' → SWz P Γ l Q S tz σ') (hu : SWz P Γ l Q S uz σ) : SWz P Γ l Q S (.n i tz uz) σ := by
  intro a w hh
  have e : l.getD i default = ⟨dst, op, ty, pos, af, none⟩ := by rw [List.getD_eq_getElem?_getD, ho]; rfl
  unfold Reg.wpG
  rw [e]
  refine ⟨wpList_plain rfl fun K hK => ?_, hu a w hh⟩
  exact h a w hh K _ fun σ' a' w' hT hh' hO => hK _ _ ⟨S, Reg.Gr.refl S _, hO, hk σ' hT a' w' hh'⟩
theorem SWz.efng {T : St → Prop} {i j t : Nat} {b c : Bool} (ho : l[i]? = some ⟨dst, op, ty, pos, af, some (j, b)⟩) (hj : (l[j]?).bind (·.dst) = some t) (ht : σ.tm t = some (isD (.bool c))) (hc : c = b) (hn : dstOk Γ.nt t = true)
    (h : Ef P Γ [] ⟨dst, op, ty, pos, af, some (j, b)⟩ σ T) (hk : ∀ σ', T σ' → SWz P Γ l Q S tz σ') (hu : SWz P Γ l Q S uz σ) : SWz P Γ l Q S (.n i tz uz) σ := by
  intro a w hh
  have e : l.getD i default = ⟨dst, op, ty, pos, af, some (j, b)⟩ := by rw [List.getD_eq_getElem?_getD, ho]; rfl
  unfold Reg.wpG
  rw [e]
  refine ⟨wpList_step fun K hK => ?_, hu a w hh⟩
  rw [wanted_of (ops := l.toArray) hh rfl (by simpa using hj) ht hn, if_pos (by simp [hc])]
  exact h a w hh K _ fun σ' a' w' hT hh' hO => hK _ _ ⟨S, Reg.Gr.refl S _, hO, hk σ' hT a' w' hh'⟩
theorem SWz.efe {T : St → Prop} {i : Nat} (ho : l[i]? = some ⟨dst, op, ty, pos, af, none⟩) (h : Ef P Γ S ⟨dst, op, ty, pos, af, none⟩ σ T) (hk : ∀ σ', T σ' → SWz P Γ l Q S tz σ') (hu : SWz P Γ l Q S uz σ) : SWz P Γ l Q S (.e i tz uz) σ := by
  intro a w hh
  have e : l.getD i default = ⟨dst, op, ty, pos, af, none⟩ := by rw [List.getD_eq_getElem?_getD, ho]; rfl
  unfold Reg.wpG
  rw [e]
  refine ⟨wpList_plain rfl fun K hK => ?_, hu a w hh⟩
  exact h a w hh K _ fun σ' a' w' hT hh' hO => hK _ _ ⟨S, Reg.Gr.refl S _, hO, hk σ' hT a' w' hh'⟩
theorem SWz.efeg {T : St → Prop} {i j t : Nat} {b c : Bool} (ho : l[i]? = some ⟨dst, op, ty, pos, af, some (j, b)⟩) (hj : (l[j]?).bind (·.dst) = some t) (ht : σ.tm t = some (isD (.bool c))) (hc : c = b) (hn : dstOk Γ.nt t = true)
    (h : Ef P Γ S ⟨dst, op, ty, pos, af, some (j, b)⟩ σ T) (hk : ∀ σ', T σ' → SWz P Γ l Q S tz σ') (hu : SWz P Γ l Q S uz σ) : SWz P Γ l Q S (.e i tz uz) σ := by
  intro a w hh
  have e : l.getD i default = ⟨dst, op, ty, pos, af, some (j, b)⟩ := by rw [List.getD_eq_getElem?_getD, ho]; rfl
  unfold Reg.wpG
  rw [e]
  refine ⟨wpList_step fun K hK => ?_, hu a w hh⟩
  rw [wanted_of (ops := l.toArray) hh rfl (by simpa using hj) ht hn, if_pos (by simp [hc])]
  exact h a w hh K _ fun σ' a' w' hT hh' hO => hK _ _ ⟨S, Reg.Gr.refl S _, hO, hk σ' hT a' w' hh'⟩

/-- A box is made that the region writes to. -/
def EfB (P : Program) (Γ : Cx) (o : Oper) (σ : St) (T : Nat → St → Prop) : Prop :=
  ∀ a w, Holds Γ σ a w → ∀ (K : Act → World → Prop) (Q : Exit → Act → World → Prop), (∀ g σ' a' w', w.heap.size ≤ g → T g σ' → Holds Γ σ' a' w' → Only [] w w' → K a' w') → o.wp P a w K Q
theorem SWz.efb {T : Nat → St → Prop} {i : Nat} (ho : l[i]? = some ⟨dst, op, ty, pos, af, none⟩) (h : EfB P Γ ⟨dst, op, ty, pos, af, none⟩ σ T) (hk : ∀ g σ', T g σ' → SWz P Γ l Q (S ++ [g]) tz σ') (hu : SWz P Γ l Q S uz σ) : SWz P Γ l Q S (.n i tz uz) σ := by
  intro a w hh
  have e : l.getD i default = ⟨dst, op, ty, pos, af, none⟩ := by rw [List.getD_eq_getElem?_getD, ho]; rfl
  unfold Reg.wpG
  rw [e]
  refine ⟨wpList_plain rfl fun K hK => ?_, hu a w hh⟩
  exact h a w hh K _ fun g σ' a' w' hg hT hh' hO => hK _ _ ⟨S ++ [g], fun x hx => by
    rcases List.mem_append.1 hx with hx | hx
    · exact .inl hx
    · simp at hx; subst hx; exact .inr hg, hO, hk g σ' hT a' w' hh'⟩

/-! Code. -/
theorem SN.then {c : Code} (h : SW P Γ σ c Q) : SN Γ (Exit.then (fun a w => c.wp P Q a w) Q) σ := fun a w hh => h a w hh
theorem SN.block {n : Nat} (h : SN Γ Q σ) : SN Γ (Exit.inBlock n Q) σ := fun a w hh => h a w hh
theorem SN.exit {n : Nat} (h : SN Γ Q σ) : ∀ a w, Holds Γ σ a w → Exit.inBlock n Q (.exit n) a w := fun a w hh => by simp only [Exit.inBlock, if_true]; exact h a w hh
theorem SW.seq {x y : Code} (h : SW P Γ σ x (Exit.then (fun a w => y.wp P Q a w) Q)) : SW P Γ σ (.seq x y) Q := fun a w hh => wp_seq (h a w hh)
theorem SW.skip (h : SN Γ Q σ) : SW P Γ σ .skip Q := fun a w hh => wp_skip (h a w hh)
theorem SW.region {id : Nat} (h : SWl P Γ l.toArray Q l σ) : SW P Γ σ (.region id l.toArray false) Q := fun a w hh => wp_region_lit (h a w hh)
theorem SW.draw {id : Nat} (S : List Nat) (t : Reg.Tz) (hm : P.follows .mixedOrders = true) (hok : Reg.okZL l t = true)
    (hQ : ∀ (d : Option Tmp) (v : Value) (c : List PanicEntry) (a : Act) (w : World), Q (.panic c) (a.put d v) w → Q (.panic c) a w) (h : SWz P Γ l Q S t σ) : SW P Γ σ (.region id l.toArray true) Q :=
  fun a w hh => Reg.wpGL S t hm hok hQ (h a w.drew hh.drew)
theorem SW.cond {c : Operand} {x y : Code} {b : Bool} (hc : σ.ev c = some (isD (.bool b))) (ht : b = true → SW P Γ σ x Q) (hf : b = false → SW P Γ σ y Q) : SW P Γ σ (.cond c x y) Q := by
  intro a w hh
  have h1 : a.eval c = .bool b := ev_spec hh hc
  exact wp_cond_split h1 (fun h => ht h a w hh) (fun h => hf h a w hh)
theorem SW.condT {c : Operand} {x y : Code} {b : Bool} (hc : σ.ev c = some (isD (.bool b))) (hb : b = true) (ht : SW P Γ σ x Q) : SW P Γ σ (.cond c x y) Q := SW.cond hc (fun _ => ht) (fun h => by rw [hb] at h; cases h)
theorem SW.condF {c : Operand} {x y : Code} {b : Bool} (hc : σ.ev c = some (isD (.bool b))) (hb : b = false) (hf : SW P Γ σ y Q) : SW P Γ σ (.cond c x y) Q := SW.cond hc (fun h => by rw [hb] at h; cases h) (fun _ => hf)
theorem SW.no {c : Operand} {x y : Code} (hc : σ.ev c = some (isD (.bool false))) (hf : SW P Γ σ y Q) : SW P Γ σ (.cond c x y) Q := SW.cond hc (fun h => by cases h) (fun _ => hf)
theorem SW.block {n : Nat} {c : Code} (h : SW P Γ σ c (Exit.inBlock n Q)) : SW P Γ σ (.block n c) Q := fun a w hh => wp_block (h a w hh)
theorem SW.exit {n : Nat} (h : ∀ a w, Holds Γ σ a w → Q (.exit n) a w) : SW P Γ σ (.exit n) Q := fun a w hh => wp_exit (h a w hh)
/-- A block is left. -/
def SE (Γ : Cx) (n : Nat) (Q : Exit → Act → World → Prop) (σ : St) : Prop := ∀ a w, Holds Γ σ a w → Q (.exit n) a w
theorem SW.exit' {n : Nat} (h : SE Γ n Q σ) : SW P Γ σ (.exit n) Q := fun a w hh => wp_exit (h a w hh)
theorem SE.then {n : Nat} {K : Act → World → Prop} (h : SE Γ n Q σ) : SE Γ n (Exit.then K Q) σ := h
theorem SE.skip {n m : Nat} (hne : n ≠ m) (h : SE Γ n Q σ) : SE Γ n (Exit.inBlock m Q) σ := fun a w hh => by simp only [Exit.inBlock, if_neg hne]; exact h a w hh
theorem SE.here {n : Nat} (h : SN Γ Q σ) : SE Γ n (Exit.inBlock n Q) σ := fun a w hh => by simp only [Exit.inBlock, if_true]; exact h a w hh
theorem SW.sub {c : Code} (hs : Sub σ σ') (h : SW P Γ σ' c Q) : SW P Γ σ c Q := fun a w hh => h a w (hh.sub hs)
theorem SN.sub (hs : Sub σ σ') (h : SN Γ Q σ') : SN Γ Q σ := fun a w hh => h a w (hh.sub hs)
/-- Ways that meet again. -/
theorem SW.meet {c : Code} (T : St → Prop) (h : SW P Γ σ c (Exit.then (fun a w => ∃ σ', T σ' ∧ Holds Γ σ' a w) Q)) (hk : ∀ σ', T σ' → SN Γ Q σ') : SW P Γ σ c Q := by
  intro a w hh
  refine wp_mono (h a w hh) ?_
  intro e a' w' hq
  cases e with
  | normal => obtain ⟨σ', hT, h'⟩ := hq; exact hk σ' hT a' w' h'
  | _ => exact hq
theorem SN.meet {T : St → Prop} {σ' : St} (hT : T σ') (hs : Sub σ σ') : SN Γ (Exit.then (fun a w => ∃ σ', T σ' ∧ Holds Γ σ' a w) Q) σ := fun _ _ hh => ⟨σ', hT, hh.sub hs⟩
/-- A loop: τ i is what is known at a round's head. -/
theorem SW.loop {ι : Type} (τ : ι → St) (μ : ι → Nat) (i₀ : ι) {c : Code} (h₀ : Sub σ (τ i₀)) (round : ∀ i, ∀ K : Act → World → Prop, (∀ j, μ j < μ i → ∀ a w, Holds Γ (τ j) a w → K a w) → SW P Γ (τ i) c (Exit.then K Q)) : SW P Γ σ (.loop c) Q := by
  intro a w hh
  refine wp_loop_ghost (fun n a w => ∃ i, μ i = n ∧ Holds Γ (τ i) a w) (μ i₀) ⟨i₀, rfl, hh.sub h₀⟩ ?_
  rintro n a' w' ⟨i, rfl, hi⟩
  exact round i _ (fun j hlt a w hj => ⟨μ j, hlt, j, rfl, hj⟩) a' w' hi

/-! Contracts. -/
def enters (P : Program) (f : FuncId) : Prop := ∀ args w, (callFunc f args).run P w = .ok (.enter f args) w
structure Con (P : Program) (f : FuncId) (ds : List D) (d : D) : Prop where
  en : enters P f
  go : ∀ (L : List Nat) (w : World) (vs : List Value), (∀ g ∈ L, g < w.heap.size) → glob.R w → All L w ds vs → Calls P f vs.toArray w fun e w' => ∃ v, e = .returned v ∧ d.R L w' v ∧ Only [] w w'
theorem enters_of {f : FuncId} {fn : Func} (hf : P.funcs[f]? = some fn) (hn : (fn.name == "runtime.NumGoroutine") = false) (hb : fn.body.isNone = false) : enters P f := by
  intro args w
  have h1 : ¬ fn.name = "runtime.NumGoroutine" := by simpa using hn
  have h2 : ¬ fn.body = none := by intro h; rw [h] at hb; cases hb
  simp [callFunc, hf, h1, h2]
def inits (k : Nat) : List D → List (Nat × D)
  | [] => []
  | d :: ds => (k, d) :: inits (k + 1) ds
theorem inits_spec {L : List Nat} {w : World} : ∀ {ds : List D} {vs : List Value} {k : Nat} {pre post : List Value}, All L w ds vs → pre.length = k → ∀ i d, lk (inits k ds) i = some d → d.R L w ((pre ++ vs ++ post).toArray.getD i undef)
  | [], [], _, _, _, _, _, i, d, h => by simp [inits, lk] at h
  | d' :: ds, v :: vs, k, pre, post, h, hk, i, d, hi => by
    simp only [inits, lk_cons] at hi
    by_cases hik : i = k
    · subst hik
      simp at hi
      subst hi
      have e : (pre ++ v :: vs ++ post).toArray.getD i undef = v := by
        rw [Array.getD_eq_getD_getElem?, List.getElem?_toArray, List.append_assoc, List.getElem?_append_right (by omega)]
        simp [hk]
      rw [e]
      exact h.1
    · rw [if_neg hik] at hi
      have := inits_spec (k := k + 1) (pre := pre ++ [v]) (post := post) h.2 (by simp [hk]) i d hi
      simpa [List.append_assoc] using this
/-- A function is walked. -/
theorem con_of {f : FuncId} {fn : Func} {c : Code} {ds : List D} {d : D} (hf : P.funcs[f]? = some fn) (hn : (fn.name == "runtime.NumGoroutine") = false) (hb : fn.body = some c) (hlen : Nat.ble ds.length fn.ntmps = true)
    (h : ∀ (base : List Nat) (w0 : World), SW P ⟨fn.ntmps, base, w0, [], []⟩ (St.of (inits 0 ds) []) c (bodyPost P fn fun e w' => ∃ v, e = .returned v ∧ d.R base w' v ∧ Only [] w0 w')) : Con P f ds d := by
  refine ⟨enters_of hf hn (by rw [hb]; rfl), fun L w vs hL hG ha => ?_⟩
  refine calls_of_wp hf hb (h L w _ _ ?_)
  have hl := ha.length
  have hle : ds.length ≤ fn.ntmps := by simpa using hlen
  refine ⟨rfl, by simp [hl]; omega, fun i e hi => ?_, fun b hb => by simp [St.of] at hb, by simp [St.of, fps], by simp [St.of, fps], Only.refl _ _, hL, by simp, hG, by simp⟩
  have := inits_spec (pre := []) (post := List.replicate (fn.ntmps - vs.length) undef) ha rfl i e hi
  have e1 : vs.toArray ++ Array.replicate (fn.ntmps - vs.toArray.size) undef = ([] ++ vs ++ List.replicate (fn.ntmps - vs.length) undef).toArray := by
    apply Array.ext'
    simp
  rw [e1]
  simpa [St.L, St.of, fps] using this
/-- What a function's end gives. -/
def Rs (P : Program) (Γ : Cx) (fn : Func) (σ : St) (d : D) : Prop := ∀ a w, Holds Γ σ a w → ∃ v, (results fn a.tmps).run P w = .ok v w ∧ d.R (σ.L Γ) w v
theorem SW.ret {fn : Func} {d : D} {nt : Nat} {base : List Nat} {w0 : World} (hQ : ∀ a w, bodyPost P fn (fun e w' => ∃ v, e = .returned v ∧ d.R base w' v ∧ Only [] w0 w') .ret a w → Q .ret a w) (h : Rs P ⟨nt, base, w0, [], []⟩ fn σ d) : SW P ⟨nt, base, w0, [], []⟩ σ .ret Q := by
  intro a w hh
  refine wp_ret (hQ a w ?_)
  obtain ⟨v, h1, h2⟩ := h a w hh
  exact bodyPost_ret h1 hh.df ⟨v, rfl, d.less h2 (fun x hx => .inl (List.mem_append_right _ hx)), hh.on⟩
theorem SN.ret {fn : Func} {d : D} {nt : Nat} {base : List Nat} {w0 : World} (h : Rs P ⟨nt, base, w0, [], []⟩ fn σ d) : SN ⟨nt, base, w0, [], []⟩ (bodyPost P fn (fun e w' => ∃ v, e = .returned v ∧ d.R base w' v ∧ Only [] w0 w')) σ := by
  intro a w hh
  obtain ⟨v, h1, h2⟩ := h a w hh
  exact bodyPost_end h1 hh.df ⟨v, rfl, d.less h2 (fun x hx => .inl (List.mem_append_right _ hx)), hh.on⟩
/-- A function to which boxes are lent: it gives boxes back, with them new ones. -/
structure ConR (P : Program) (f : FuncId) (pre : List Box) (ad : List D) {ι : Type} (post : ι → List Box) (d : ι → D) : Prop where
  en : enters P f
  go : ∀ (L : List Nat) (w : World) (vs : List Value), (∀ x ∈ L, x < w.heap.size) → glob.R w → (∀ g ∈ fps pre, g ∉ glob.F) → (∀ g ∈ fps pre, g ∉ L) → (fps pre).Nodup → (∀ b ∈ pre, b.R (fps pre ++ L) w) → All (fps pre ++ L) w ad vs →
    Calls P f vs.toArray w fun e w' => ∃ i v, e = .returned v ∧ (d i).R (fps (post i) ++ L) w' v ∧ (∀ b ∈ post i, b.R (fps (post i) ++ L) w') ∧ (fps (post i)).Nodup ∧ (∀ g ∈ fps (post i), g ∈ fps pre ∨ w.heap.size ≤ g) ∧ Only (fps pre) w w'
theorem con_ofR {f : FuncId} {fn : Func} {c : Code} {pre : List Box} {ad : List D} {ι : Type} {post : ι → List Box} {d : ι → D} (hf : P.funcs[f]? = some fn) (hn : (fn.name == "runtime.NumGoroutine") = false) (hb : fn.body = some c) (hlen : Nat.ble ad.length fn.ntmps = true)
    (h : ∀ (base : List Nat) (w0 : World), SW P ⟨fn.ntmps, base, w0, fps pre, []⟩ (St.ob (inits 0 ad) pre) c (bodyPost P fn fun e w' => ∃ i v, e = .returned v ∧ (d i).R (fps (post i) ++ base) w' v ∧ (∀ b ∈ post i, b.R (fps (post i) ++ base) w') ∧ (fps (post i)).Nodup ∧ (∀ g ∈ fps (post i), g ∈ fps pre ∨ w0.heap.size ≤ g) ∧ Only (fps pre) w0 w')) : ConR P f pre ad post d := by
  refine ⟨enters_of hf hn (by rw [hb]; rfl), fun L w vs hL hG hgF hg hnd hbk ha => ?_⟩
  refine calls_of_wp hf hb (h L w _ _ ?_)
  have hl := ha.length
  have hle : ad.length ≤ fn.ntmps := by simpa using hlen
  refine ⟨rfl, by simp [hl]; omega, fun i e hi => ?_, hbk, hnd, fun g hg => .inr hg, Only.refl _ _, hL, hg, hG, hgF⟩
  have := inits_spec (pre := []) (post := List.replicate (fn.ntmps - vs.length) undef) ha rfl i e hi
  have e1 : vs.toArray ++ Array.replicate (fn.ntmps - vs.toArray.size) undef = ([] ++ vs ++ List.replicate (fn.ntmps - vs.length) undef).toArray := by
    apply Array.ext'
    simp
  rw [e1]
  exact this
theorem retR {fn : Func} {nt : Nat} {base : List Nat} {w0 : World} {pre : List Box} {ι : Type} {post : ι → List Box} {d : ι → D} (i : ι) (js : List Nat)
    (h : Rs P ⟨nt, base, w0, fps pre, []⟩ fn σ (d i)) (hjs : js.Nodup) (hb : SubBx σ.bx js (post i)) {a : Act} {w : World} (hh : Holds ⟨nt, base, w0, fps pre, []⟩ σ a w) :
    ∃ v, (results fn a.tmps).run P w = .ok v w ∧ ∃ i v', Ending.returned v = .returned v' ∧ (d i).R (fps (post i) ++ base) w v' ∧ (∀ b ∈ post i, b.R (fps (post i) ++ base) w) ∧ (fps (post i)).Nodup ∧ (∀ g ∈ fps (post i), g ∈ fps pre ∨ w0.heap.size ≤ g) ∧ Only (fps pre) w0 w := by
  obtain ⟨v, h1, h2⟩ := h a w hh
  have hid : ∀ g ∈ fps (post i), g ∈ fps σ.bx := by
    intro g hg
    obtain ⟨b', h3, h4⟩ := mem_fps.1 hg
    obtain ⟨j, b, _, h5, h6⟩ := SubBx.mem hb b' h3
    exact mem_fps.2 ⟨b, List.mem_of_getElem? h5, by rw [h6.1]; exact h4⟩
  have hL : ∀ x ∈ fps (post i) ++ base, x ∈ σ.L ⟨nt, base, w0, fps pre, []⟩ ∨ w.heap.size ≤ x := fun x hx => by
    rcases List.mem_append.1 hx with hx | hx
    · exact .inl (List.mem_append_left _ (hid x hx))
    · exact .inl (List.mem_append_right _ hx)
  refine ⟨v, h1, i, v, rfl, (d i).less h2 hL, fun b' hb' => ?_, SubBx.nodup hh.nd hjs hb, fun g hg => ?_, hh.on⟩
  · obtain ⟨j, b, _, h5, h6⟩ := SubBx.mem hb b' hb'
    exact h6.2 _ _ (Box.less (hh.bx b (List.mem_of_getElem? h5)) hL)
  · rcases hh.nw g (hid g hg) with h' | h'
    · exact .inr h'
    · exact .inl h'
theorem SW.retR {fn : Func} {nt : Nat} {base : List Nat} {w0 : World} {pre : List Box} {ι : Type} {post : ι → List Box} {d : ι → D} (i : ι) (js : List Nat)
    (hQ : ∀ a w, bodyPost P fn (fun e w' => ∃ i v, e = .returned v ∧ (d i).R (fps (post i) ++ base) w' v ∧ (∀ b ∈ post i, b.R (fps (post i) ++ base) w') ∧ (fps (post i)).Nodup ∧ (∀ g ∈ fps (post i), g ∈ fps pre ∨ w0.heap.size ≤ g) ∧ Only (fps pre) w0 w') .ret a w → Q .ret a w)
    (h : Rs P ⟨nt, base, w0, fps pre, []⟩ fn σ (d i)) (hjs : js.Nodup) (hb : SubBx σ.bx js (post i)) : SW P ⟨nt, base, w0, fps pre, []⟩ σ .ret Q := by
  intro a w hh
  refine wp_ret (hQ a w ?_)
  obtain ⟨v, h1, h2⟩ := Sx.retR i js h hjs hb hh
  exact bodyPost_ret h1 hh.df h2
theorem SN.retR {fn : Func} {nt : Nat} {base : List Nat} {w0 : World} {pre : List Box} {ι : Type} {post : ι → List Box} {d : ι → D} (i : ι) (js : List Nat)
    (h : Rs P ⟨nt, base, w0, fps pre, []⟩ fn σ (d i)) (hjs : js.Nodup) (hb : SubBx σ.bx js (post i)) :
    SN ⟨nt, base, w0, fps pre, []⟩ (bodyPost P fn (fun e w' => ∃ i v, e = .returned v ∧ (d i).R (fps (post i) ++ base) w' v ∧ (∀ b ∈ post i, b.R (fps (post i) ++ base) w') ∧ (fps (post i)).Nodup ∧ (∀ g ∈ fps (post i), g ∈ fps pre ∨ w0.heap.size ≤ g) ∧ Only (fps pre) w0 w')) σ := by
  intro a w hh
  obtain ⟨v, h1, h2⟩ := Sx.retR i js h hjs hb hh
  exact bodyPost_end h1 hh.df h2
theorem Con.mono {f : FuncId} {ds es : List D} {d e : D} (h : Con P f ds d) (h1 : LeAll es ds) (h2 : Le d e) : Con P f es e :=
  ⟨h.en, fun L w vs hL hG ha => (h.go L w vs hL hG (h1.all ha)).mono fun _ _ ⟨v, hv, hd, ho⟩ => ⟨v, hv, h2 _ _ _ hd, ho⟩⟩
end
end Sx
end Go.Proofs.YtchbgfgboogniaaDoor
namespace Go.Proofs.YtchbgfgboogniaaDoor
open Go.RowKit
namespace Sx
def fldO (P : Program) (T k : Nat) : Option Nat :=
  match P.underlying T with
  | some (.struct fs) => match fs[k]? with
    | some f => match (P.info? f.type).map (·.size) with
      | some (_ + 1) => some f.offset
      | _ => none
    | none => none
  | _ => none
/-- A type whose values are one cell. -/
def plainT (P : Program) (T : Nat) : Bool := match P.underlying T with | some d => !d.isRow | none => false
/-- A struct or an array of n cells. -/
def rowT (P : Program) (T n : Nat) : Bool := match P.underlying T with | some d => d.isRow && ((P.info? T).map (·.size) == some n) | none => false
/-- Box j is none of S. -/
def Ap (σ : St) (j : Nat) (S : List Nat) : Prop := ∀ s ∈ S, ∃ i b, σ.bx[i]? = some b ∧ s ∈ b.fp ∧ i ≠ j
theorem ap_nil {σ : St} {j : Nat} : Ap σ j [] := fun s h => by simp at h
theorem ap_cons {σ : St} {j g : Nat} {ds : List D} {S : List Nat} (i : Nat) (h : σ.bx[i]? = some (.c g ds)) (hij : i ≠ j) (k : Ap σ j S) : Ap σ j (g :: S) := fun s hs => by
  rcases List.mem_cons.1 hs with rfl | hs
  · exact ⟨i, _, h, List.mem_singleton.2 rfl, hij⟩
  · exact k s hs
theorem ap_app {σ : St} {j : Nat} {F : List Nat} {R : Res} {S : List Nat} (i : Nat) (h : σ.bx[i]? = some (.r F R)) (hij : i ≠ j) (k : Ap σ j S) : Ap σ j (F ++ S) := fun s hs => by
  rcases List.mem_append.1 hs with hs | hs
  · exact ⟨i, _, h, hs, hij⟩
  · exact k s hs

section
variable {P : Program} {Γ : Cx} {σ : St} {S : List Nat} {dst : Option Tmp} {ty : TypeId} {pos : String} {af : Array Edge} {gd : Option (Nat × Bool)} {d : D}
theorem Ap.spec {σ : St} {j : Nat} {b : Box} (hn : (fps σ.bx).Nodup) (hj : σ.bx[j]? = some b) {S : List Nat} (h : Ap σ j S) : ∀ s ∈ S, s ∉ b.fp := fun s hs hm => by
  obtain ⟨i, c, hi, hc, hij⟩ := h s hs
  exact hij (fps_at hn hi hj hc hm)

theorem Rd.move {x : Operand} (hx : σ.ev x = some d) : Rd P Γ S ⟨dst, .move x, ty, pos, af, gd⟩ σ d := fun a w hh => ⟨a.eval x, ev_spec hh hx, fun _ _ => rfl⟩
theorem Rd.assign {x : Operand} (hx : σ.ev x = some d) : Rd P Γ S ⟨dst, .assign x, ty, pos, af, gd⟩ σ d := fun a w hh => ⟨a.eval x, ev_spec hh hx, fun _ _ => rfl⟩
theorem Rd.le {o : Oper} {d' : D} (h : Rd P Γ S o σ d) (hl : Le d d') : Rd P Γ S o σ d' := fun a w hh => by
  obtain ⟨v, h1, h2⟩ := h a w hh
  exact ⟨v, hl _ _ _ h1, h2⟩
theorem Rd.extract {x : Operand} {k : Nat} {ds : List D} (hx : σ.ev x = some (tupD ds)) (hk : ds[k]? = some d) : Rd P Γ S ⟨dst, .extract x k, ty, pos, af, gd⟩ σ d := by
  intro a w hh
  obtain ⟨cs, hv, ha⟩ := ev_spec hh hx
  obtain ⟨c, h1, h2⟩ := ha.at hk
  refine ⟨c, h2, fun w' _ => ?_⟩
  simp [execOp, hv, Instr.extract, h1]
theorem Rd.fieldAddr {x : Operand} {T k n g o : Nat} (hx : σ.ev x = some (isD (.pointer (some ⟨g, o, none⟩)))) (hf : fldO P T k = some n) : Rd P Γ S ⟨dst, .fieldAddr T x k, ty, pos, af, gd⟩ σ (isD (.pointer (some ⟨g, o + n, none⟩))) := by
  intro a w hh
  have hv : a.eval x = .pointer (some ⟨g, o, none⟩) := ev_spec hh hx
  refine ⟨_, rfl, fun w' _ => ?_⟩
  unfold fldO at hf
  split at hf
  · rename_i fs hu
    split at hf
    · rename_i f hk
      split at hf
      · rename_i sz hs
        simp only [Option.some.injEq] at hf
        subst hf
        obtain ⟨i, hi, hsz⟩ := Option.map_eq_some_iff.1 hs
        simp [execOp, hv, Instr.fieldAt, run_underlying hu, hk, Instr.sureAddr, fieldPlace, sizeOf, typeInfo, hi, hsz, Addr.add]
      · cases hf
    · cases hf
  · cases hf
theorem Holds.boxAt {a : Act} {w : World} (hh : Holds Γ σ a w) {j g : Nat} {ds : List D} (hj : σ.bx[j]? = some (.c g ds)) : ∃ t cs, Blk w g t cs ∧ All (σ.L Γ) w ds cs := hh.bx (.c g ds) (List.mem_of_getElem? hj)
theorem run_load_plain {T : Nat} {p : Addr} {v : Value} {w : World} (hT : plainT P T = true) (hc : w.cell? p = some v) : (Instr.loadAt T (.pointer (some p))).run P w = .ok v w := by
  unfold plainT at hT
  split at hT
  · rename_i d hu
    have hag : (isAgg T).run P w = .ok false w := by
      cases d <;> simp [TypeDesc.isRow] at hT <;> simp [isAgg, run_underlying hu]
    simp [Instr.loadAt, Instr.sureAddr, loadVar, hag, hc]
  · cases hT
/-- A cell of a box. -/
theorem Rd.loadB {x : Operand} {T g o : Nat} (j : Nat) {ds : List D} (hx : σ.ev x = some (isD (.pointer (some ⟨g, o, none⟩)))) (hj : σ.bx[j]? = some (.c g ds)) (hd : ds[o]? = some d) (hT : plainT P T = true) (hS : Ap σ j S) : Rd P Γ S ⟨dst, .load T x, ty, pos, af, gd⟩ σ d := by
  intro a w hh
  have hv : a.eval x = .pointer (some ⟨g, o, none⟩) := ev_spec hh hx
  obtain ⟨t, cs, hb, ha⟩ := hh.boxAt hj
  obtain ⟨c, h1, h2⟩ := ha.at hd
  refine ⟨c, h2, fun w' ho => ?_⟩
  have h3 := run_load_plain (P := P) hT ((hb.keep ho (fun hm => hS.spec hh.nd hj _ hm (List.mem_singleton.2 rfl))).cellv h1)
  simp [execOp, hv, h3]
/-- A struct in a box, or a part of one. -/
theorem Rd.loadA {x : Operand} {T g o : Nat} (j n : Nat) {ds : List D} (hx : σ.ev x = some (isD (.pointer (some ⟨g, o, none⟩)))) (hj : σ.bx[j]? = some (.c g ds)) (hT : rowT P T n = true) (hn : ((ds.drop o).take n).length = n) (hS : Ap σ j S) : Rd P Γ S ⟨dst, .load T x, ty, pos, af, gd⟩ σ (aggD ((ds.drop o).take n)) := by
  intro a w hh
  have hv : a.eval x = .pointer (some ⟨g, o, none⟩) := ev_spec hh hx
  obtain ⟨t, cs, hb, ha⟩ := hh.boxAt hj
  refine ⟨.agg ((cs.drop o).take n).toArray, ⟨_, rfl, (ha.drop o).take n⟩, fun w' ho => ?_⟩
  have hb' := hb.keep ho (fun hm => hS.spec hh.nd hj _ hm (List.mem_singleton.2 rfl))
  unfold rowT at hT
  split at hT
  · rename_i d hu
    simp only [Bool.and_eq_true, beq_iff_eq] at hT
    have hl : ((cs.drop o).take n).length = n := by rw [← ((ha.drop o).take n).length] at hn; exact hn
    have h3 := run_loadAt_mid (P := P) w' g o T ((cs.drop o).take n) d (fun i v hv' => by
      rw [hb'.cell]
      have hi : i < n := by have := (List.getElem?_eq_some_iff.1 hv').1; omega
      rw [List.getElem?_take_of_lt hi, List.getElem?_drop] at hv'
      exact hv') hu hT.1 (by rw [hl]; exact hT.2)
    simp [execOp, hv, h3]
  · cases hT
/-- A cell of memory that nobody writes. -/
theorem Rd.loadP {x : Operand} {T : Nat} {v : Value} (hx : σ.ev x = some (ptD v)) (hT : plainT P T = true) (hS : ∀ s ∈ S, s ∈ σ.L Γ) : Rd P Γ S ⟨dst, .load T x, ty, pos, af, gd⟩ σ (isD v) := by
  intro a w hh
  obtain ⟨g, o, hv, hl, hc, hn⟩ := ev_spec hh hx
  refine ⟨v, rfl, fun w' ho => ?_⟩
  have h3 := run_load_plain (P := P) hT ((ho.cell (p := ⟨g, o, none⟩) hl (fun hm => hn (hS _ hm))).trans hc)
  simp [execOp, hv, h3]
def sliceT (P : Program) (T e : Nat) : Bool := match P.underlying T with | some (.slice e') => e' == e | _ => false
def stringT (P : Program) (T : Nat) : Bool := match P.underlying T with | some .string => true | _ => false
theorem sliceT_spec {T e : Nat} (h : sliceT P T e = true) : P.underlying T = some (.slice e) := by
  unfold sliceT at h
  split at h
  · rename_i e' hu; rw [hu]; simp at h; rw [h]
  · cases h
theorem stringT_spec {T : Nat} (h : stringT P T = true) : P.underlying T = some .string := by
  unfold stringT at h
  split at h
  · rename_i hu; exact hu
  · cases h
theorem Rd.len {x : Operand} {T e : Nat} {xs : List Value} (hx : σ.ev x = some (slD xs)) (hT : sliceT P T e = true) : Rd P Γ S ⟨dst, .call { callee := .builtin .len, args := #[x], argTypes := #[T] }, ty, pos, af, gd⟩ σ (isD (.int .i64 (xs.length : Int))) := by
  intro a w hh
  obtain ⟨A, c, hv, _⟩ := ev_spec hh hx
  refine ⟨_, rfl, fun w' _ => ?_⟩
  simp [execOp, resolve, invoke, builtin, hv, Builtin.len_, run_underlying (sliceT_spec hT), goInt]
theorem Rd.lens {x : Operand} {T : Nat} {s : ByteArray} (hx : σ.ev x = some (isD (.string s))) (hT : stringT P T = true) : Rd P Γ S ⟨dst, .call { callee := .builtin .len, args := #[x], argTypes := #[T] }, ty, pos, af, gd⟩ σ (isD (.int .i64 (s.size : Int))) := by
  intro a w hh
  have hv : a.eval x = .string s := ev_spec hh hx
  refine ⟨_, rfl, fun w' _ => ?_⟩
  simp [execOp, resolve, invoke, builtin, hv, Builtin.len_, run_underlying (stringT_spec hT), goInt]
/-- x[i] of a slice that reads as xs: the element's address. -/
theorem Rd.idx {x y : Operand} {T e : Nat} {xs : List Value} {i : Int} {v : Value} {kd : IntKind} (hx : σ.ev x = some (slD xs)) (hy : σ.ev y = some (isD (.int kd i))) (hT : sliceT P T e = true) (hs : (P.info? e).map (·.size) = some 1) (h0 : 0 ≤ i) (hv : xs[i.toNat]? = some v) :
    Rd P Γ S ⟨dst, .indexAddr T x y, ty, pos, af, gd⟩ σ (ptD v) := by
  intro a w hh
  obtain ⟨A, c, hxv, hc, hr, hn⟩ := ev_spec hh hx
  have hyv : a.eval y = .int kd i := ev_spec hh hy
  have hlt : i.toNat < xs.length := (List.getElem?_eq_some_iff.1 hv).1
  obtain ⟨g, o, rfl, hg, hcell⟩ := hr (by omega)
  refine ⟨.pointer (some ⟨g, o + i.toNat, none⟩), ⟨g, o + i.toNat, rfl, hg, (hcell _ hlt).trans hv, hn (by omega) _ rfl⟩, fun w' _ => ?_⟩
  obtain ⟨inf, hi, hsz⟩ := Option.map_eq_some_iff.1 hs
  have hb : 0 ≤ i ∧ i < (xs.length : Int) := ⟨h0, by omega⟩
  simp [execOp, hxv, hyv, Instr.indexAt, asIntOf, run_underlying (sliceT_spec hT), sizeOf, typeInfo, hi, hsz, Addr.add, hb]

theorem Rd.pickY {c x y : Operand} {b : Bool} (hc : σ.ev c = some (isD (.bool b))) (hb : b = true) (hx : σ.ev x = some d) : Rd P Γ S ⟨dst, .pick c x y, ty, pos, af, gd⟩ σ d := by
  intro a w hh
  have hv : a.eval c = .bool b := ev_spec hh hc
  exact ⟨a.eval x, ev_spec hh hx, fun w' _ => by simp [execOp, hv, hb, asBool]⟩
theorem Rd.pickN {c x y : Operand} {b : Bool} (hc : σ.ev c = some (isD (.bool b))) (hb : b = false) (hy : σ.ev y = some d) : Rd P Γ S ⟨dst, .pick c x y, ty, pos, af, gd⟩ σ d := by
  intro a w hh
  have hv : a.eval c = .bool b := ev_spec hh hc
  exact ⟨a.eval y, ev_spec hh hy, fun w' _ => by simp [execOp, hv, hb, asBool]⟩
/-! Operations on values alone. -/
theorem Rd.bin {x y : Operand} {op : BinOp} {xT yT : TypeId} {u v r : Value} (hx : σ.ev x = some (isD u)) (hy : σ.ev y = some (isD v)) (h : ∀ w, ((do eqGuard op xT x y u v; binOp op xT u v) : Sem Value).run P w = .ok r w) :
    Rd P Γ S ⟨dst, .binOp op xT x y yT, ty, pos, af, gd⟩ σ (isD r) := by
  intro a w hh
  have hxv : a.eval x = u := ev_spec hh hx
  have hyv : a.eval y = v := ev_spec hh hy
  refine ⟨r, rfl, fun w' _ => ?_⟩
  have h' := h w'
  simp only [execOp, hxv, hyv]
  rw [Sem.run_bind, h']
  rfl
theorem Rd.lss {x y : Operand} {xT yT : TypeId} {kd : IntKind} {p q : Int} (hx : σ.ev x = some (isD (.int kd p))) (hy : σ.ev y = some (isD (.int kd q))) : Rd P Γ S ⟨dst, .binOp .lss xT x y yT, ty, pos, af, gd⟩ σ (isD (.bool (decide (p < q)))) := Rd.bin hx hy fun _ => by simp [eqGuard, binOp, Op.intCmp]
theorem Rd.leq {x y : Operand} {xT yT : TypeId} {kd : IntKind} {p q : Int} (hx : σ.ev x = some (isD (.int kd p))) (hy : σ.ev y = some (isD (.int kd q))) : Rd P Γ S ⟨dst, .binOp .leq xT x y yT, ty, pos, af, gd⟩ σ (isD (.bool (decide (p ≤ q)))) := Rd.bin hx hy fun _ => by simp [eqGuard, binOp, Op.intCmp]
theorem Rd.gtr {x y : Operand} {xT yT : TypeId} {kd : IntKind} {p q : Int} (hx : σ.ev x = some (isD (.int kd p))) (hy : σ.ev y = some (isD (.int kd q))) : Rd P Γ S ⟨dst, .binOp .gtr xT x y yT, ty, pos, af, gd⟩ σ (isD (.bool (decide (q < p)))) := Rd.bin hx hy fun _ => by simp [eqGuard, binOp, Op.intCmp]
theorem Rd.geq {x y : Operand} {xT yT : TypeId} {kd : IntKind} {p q : Int} (hx : σ.ev x = some (isD (.int kd p))) (hy : σ.ev y = some (isD (.int kd q))) : Rd P Γ S ⟨dst, .binOp .geq xT x y yT, ty, pos, af, gd⟩ σ (isD (.bool (decide (q ≤ p)))) := Rd.bin hx hy fun _ => by simp [eqGuard, binOp, Op.intCmp]
theorem Rd.eqi {x y : Operand} {xT yT : TypeId} {kd : IntKind} {p q : Int} (hx : σ.ev x = some (isD (.int kd p))) (hy : σ.ev y = some (isD (.int kd q))) : Rd P Γ S ⟨dst, .binOp .eql xT x y yT, ty, pos, af, gd⟩ σ (isD (.bool (decide (p = q)))) := Rd.bin hx hy fun _ => by simp [eqGuard, binOp, Op.intCmp, BEq.beq]
theorem Rd.nei {x y : Operand} {xT yT : TypeId} {kd : IntKind} {p q : Int} (hx : σ.ev x = some (isD (.int kd p))) (hy : σ.ev y = some (isD (.int kd q))) : Rd P Γ S ⟨dst, .binOp .neq xT x y yT, ty, pos, af, gd⟩ σ (isD (.bool (!decide (p = q)))) := Rd.bin hx hy fun _ => by simp [eqGuard, binOp, Op.intCmp, bne, BEq.beq]
theorem str_eq (p q : List UInt8) : ((ByteArray.mk p.toArray).toList == (ByteArray.mk q.toArray).toList) = decide (p = q) := by
  have e : ∀ l : List UInt8, (ByteArray.mk l.toArray).toList = l := fun l => by simp [ByteArray.toList_eq]
  rw [e, e]
  by_cases h : p = q <;> simp [h]
theorem Rd.eqs {x y : Operand} {xT yT : TypeId} {p q : List UInt8} (hx : σ.ev x = some (isD (.string ⟨p.toArray⟩))) (hy : σ.ev y = some (isD (.string ⟨q.toArray⟩))) : Rd P Γ S ⟨dst, .binOp .eql xT x y yT, ty, pos, af, gd⟩ σ (isD (.bool (decide (p = q)))) := Rd.bin hx hy fun _ => by simp only [eqGuard, binOp, Op.stringOp, str_eq]; rfl
theorem Rd.nes {x y : Operand} {xT yT : TypeId} {p q : List UInt8} (hx : σ.ev x = some (isD (.string ⟨p.toArray⟩))) (hy : σ.ev y = some (isD (.string ⟨q.toArray⟩))) : Rd P Γ S ⟨dst, .binOp .neq xT x y yT, ty, pos, af, gd⟩ σ (isD (.bool (!decide (p = q)))) := Rd.bin hx hy fun _ => by simp only [eqGuard, binOp, Op.stringOp, str_eq]; rfl
theorem wrap_in {z : Int} (h1 : -9223372036854775808 ≤ z) (h2 : z ≤ 9223372036854775807) : IntKind.i64.wrap z = z := by
  simp [IntKind.wrap, IntKind.signed, IntKind.bits]
  omega
theorem Rd.add {x y : Operand} {xT yT : TypeId} {p q : Int} (hx : σ.ev x = some (isD (.int .i64 p))) (hy : σ.ev y = some (isD (.int .i64 q))) (h : -9223372036854775808 ≤ p + q ∧ p + q ≤ 9223372036854775807) : Rd P Γ S ⟨dst, .binOp .add xT x y yT, ty, pos, af, gd⟩ σ (isD (.int .i64 (p + q))) := Rd.bin hx hy fun _ => by simp [eqGuard, binOp, Op.intArith, wrap_in h.1 h.2]
theorem Rd.subi {x y : Operand} {xT yT : TypeId} {p q : Int} (hx : σ.ev x = some (isD (.int .i64 p))) (hy : σ.ev y = some (isD (.int .i64 q))) (h : -9223372036854775808 ≤ p - q ∧ p - q ≤ 9223372036854775807) : Rd P Γ S ⟨dst, .binOp .sub xT x y yT, ty, pos, af, gd⟩ σ (isD (.int .i64 (p - q))) := Rd.bin hx hy fun _ => by simp [eqGuard, binOp, Op.intArith, wrap_in h.1 h.2]
theorem Rd.mul {x y : Operand} {xT yT : TypeId} {p q : Int} (hx : σ.ev x = some (isD (.int .i64 p))) (hy : σ.ev y = some (isD (.int .i64 q))) (h : -9223372036854775808 ≤ p * q ∧ p * q ≤ 9223372036854775807) : Rd P Γ S ⟨dst, .binOp .mul xT x y yT, ty, pos, af, gd⟩ σ (isD (.int .i64 (p * q))) := Rd.bin hx hy fun _ => by simp [eqGuard, binOp, Op.intArith, wrap_in h.1 h.2]
theorem Rd.not {x : Operand} {xT : TypeId} {p : Bool} (hx : σ.ev x = some (isD (.bool p))) : Rd P Γ S ⟨dst, .unOp .not xT x, ty, pos, af, gd⟩ σ (isD (.bool (!p))) := by
  intro a w hh
  have hv : a.eval x = .bool p := ev_spec hh hx
  exact ⟨_, rfl, fun w' _ => by simp [execOp, hv, Op.unary]⟩
def intT (P : Program) (T : Nat) (k : IntKind) : Bool := match P.underlying T with | some (.int k') => k' == k | _ => false
theorem intT_spec {T : Nat} {k : IntKind} (h : intT P T k = true) : P.underlying T = some (.int k) := by
  unfold intT at h
  split at h
  · rename_i e' hu; rw [hu]; simp at h; rw [h]
  · cases h
/-- An integer's conversion. -/
theorem Rd.cvi {x : Operand} {sT dT : TypeId} {kd ks : IntKind} {p : Int} (kb : IntKind) (hx : σ.ev x = some (isD (.int ks p))) (hs : intT P sT kb = true) (hd : intT P dT kd = true) : Rd P Γ S ⟨dst, .convert sT dT x, ty, pos, af, gd⟩ σ (isD (.int kd (kd.wrap p))) := by
  intro a w hh
  have hv : a.eval x = .int ks p := ev_spec hh hx
  refine ⟨_, rfl, fun w' _ => ?_⟩
  simp [execOp, hv, convert, run_underlying (intT_spec hs), run_underlying (intT_spec hd), Conv.intToInt]
/-- string(b). -/
theorem Rd.str {x : Operand} {sT dT e : TypeId} {bs : List UInt8} (hx : σ.ev x = some (slD (cellsOf bs))) (hs : sliceT P sT e = true) (he : intT P e .u8 = true) (hd : stringT P dT = true) (hS : ∀ s ∈ S, s ∈ σ.L Γ) : Rd P Γ S ⟨dst, .convert sT dT x, ty, pos, af, gd⟩ σ (isD (.string ⟨bs.toArray⟩)) := by
  intro a w hh
  obtain ⟨A, c, hv, hc, hr, hn⟩ := ev_spec hh hx
  refine ⟨_, rfl, fun w' ho => ?_⟩
  have hr' : RV w' A (cellsOf bs) := fun h0 => hr.keep ho (fun p hp hm => hn h0 p hp (hS _ hm)) h0
  have h3 := run_str (P := P) (c := c) (sliceT_spec hs) (intT_spec he) (stringT_spec hd) (cellsOf_length bs) hr'
  simp only [execOp, hv, Sem.run_bind, h3]
  rfl

/-! Effects. -/
/-- The cells of a value. -/
theorem agg_cells {cs : List Value} : (Value.agg cs.toArray).cells = cs.toArray := rfl
theorem Ef.boxA {x : Operand} {T : Nat} {ds : List D} {k : Nat} (hx : σ.ev x = some (aggD ds)) (hk : dstOk Γ.nt k = true) : Ef P Γ S ⟨some k, .box T x, ty, pos, af, gd⟩ σ (fun σ' => ∃ g, σ' = (σ.mk' g ds).put k (isD (.pointer (some ⟨g, 0, none⟩)))) := by
  intro a w hh K Q hK
  obtain ⟨cs, hv, ha⟩ := ev_spec hh hx
  have h1 := (hh.box (t := T) ha).put (i := k) (by simpa [dstOk] using hk) (d := isD (.pointer (some ⟨w.heap.size, 0, none⟩))) (v := .pointer (some ⟨w.heap.size, 0, none⟩)) rfl
  have e : (execOp a.eval ⟨some k, .box T x, ty, pos, af, gd⟩).run P w = .ok (.value (.pointer (some ⟨w.heap.size, 0, none⟩))) (w.alloc (.cells cs.toArray T)) := by
    simp [execOp, hv, Instr.box, newVar, newRow, agg_cells]
  unfold Oper.wp
  rw [e]
  exact hK _ _ _ ⟨_, rfl⟩ h1 ((Only.refl S w).alloc _)
theorem Ef.boxV {x : Operand} {T : Nat} {d : D} {k : Nat} (hx : σ.ev x = some d) (hc : ∀ L w v, d.R L w v → v.cells = #[v]) (hk : dstOk Γ.nt k = true) : Ef P Γ S ⟨some k, .box T x, ty, pos, af, gd⟩ σ (fun σ' => ∃ g, σ' = (σ.mk' g [d]).put k (isD (.pointer (some ⟨g, 0, none⟩)))) := by
  intro a w hh K Q hK
  have hv := ev_spec hh hx
  have h1 := (hh.box (t := T) (All.one hv)).put (i := k) (by simpa [dstOk] using hk) (d := isD (.pointer (some ⟨w.heap.size, 0, none⟩))) (v := .pointer (some ⟨w.heap.size, 0, none⟩)) rfl
  have e : (execOp a.eval ⟨some k, .box T x, ty, pos, af, gd⟩).run P w = .ok (.value (.pointer (some ⟨w.heap.size, 0, none⟩))) (w.alloc (.cells [a.eval x].toArray T)) := by
    simp [execOp, Instr.box, newVar, newRow, hc _ _ _ hv]
  unfold Oper.wp
  rw [e]
  exact hK _ _ _ ⟨_, rfl⟩ h1 ((Only.refl S w).alloc _)
theorem all_is {L : List Nat} {w : World} : ∀ (zs : List Value), All L w (zs.map isD) zs
  | [] => trivial
  | _ :: zs => ⟨rfl, all_is zs⟩
def zerosT (P : Program) (T : Nat) : Option (List Value) := ((P.info? T).bind (·.zero)).map (·.cells.toList)
theorem Ef.alloc {T : Nat} {zs : List Value} {k : Nat} (hz : zerosT P T = some zs) (hk : dstOk Γ.nt k = true) : Ef P Γ S ⟨some k, .alloc T, ty, pos, af, gd⟩ σ (fun σ' => ∃ g, σ' = (σ.mk' g (zs.map isD)).put k (isD (.pointer (some ⟨g, 0, none⟩)))) := by
  intro a w hh K Q hK
  obtain ⟨z, h1, h2⟩ := Option.map_eq_some_iff.1 hz
  obtain ⟨i, hi, hzi⟩ := Option.bind_eq_some_iff.1 h1
  have h3 := (hh.box (t := T) (all_is zs)).put (i := k) (by simpa [dstOk] using hk) (d := isD (.pointer (some ⟨w.heap.size, 0, none⟩))) (v := .pointer (some ⟨w.heap.size, 0, none⟩)) rfl
  have hc : z.cells = zs.toArray := by rw [← h2]
  have e : (execOp a.eval ⟨some k, .alloc T, ty, pos, af, gd⟩).run P w = .ok (.value (.pointer (some ⟨w.heap.size, 0, none⟩))) (w.alloc (.cells zs.toArray T)) := by
    simp [execOp, Instr.alloc, zeroValue, typeInfo, hi, hzi, newVar, newRow, hc]
  unfold Oper.wp
  rw [e]
  exact hK _ _ _ ⟨_, rfl⟩ h3 ((Only.refl S w).alloc _)
theorem EfB.alloc {T : Nat} {zs : List Value} {k : Nat} (hz : zerosT P T = some zs) (hk : dstOk Γ.nt k = true) : EfB P Γ ⟨some k, .alloc T, ty, pos, af, gd⟩ σ (fun g σ' => σ' = (σ.mk' g (zs.map isD)).put k (isD (.pointer (some ⟨g, 0, none⟩)))) := by
  intro a w hh K Q hK
  obtain ⟨z, h1, h2⟩ := Option.map_eq_some_iff.1 hz
  obtain ⟨i, hi, hzi⟩ := Option.bind_eq_some_iff.1 h1
  have h3 := (hh.box (t := T) (all_is zs)).put (i := k) (by simpa [dstOk] using hk) (d := isD (.pointer (some ⟨w.heap.size, 0, none⟩))) (v := .pointer (some ⟨w.heap.size, 0, none⟩)) rfl
  have hc : z.cells = zs.toArray := by rw [← h2]
  have e : (execOp a.eval ⟨some k, .alloc T, ty, pos, af, gd⟩).run P w = .ok (.value (.pointer (some ⟨w.heap.size, 0, none⟩))) (w.alloc (.cells zs.toArray T)) := by
    simp [execOp, Instr.alloc, zeroValue, typeInfo, hi, hzi, newVar, newRow, hc]
  unfold Oper.wp
  rw [e]
  exact hK _ _ _ _ (Nat.le_refl _) rfl h3 ((Only.refl [] w).alloc _)
/-- A call by its contract. -/
theorem Ef.call {f : FuncId} {args : Array Operand} {aT : Array TypeId} {ds es : List D} {d : D} {k : Nat} (hcon : Con P f ds d) (he : σ.evs args.toList = some es) (hl : LeAll es ds) (hk : dstOk Γ.nt k = true) :
    Ef P Γ S ⟨some k, .call { callee := .value (.func f), args := args, argTypes := aT }, ty, pos, af, gd⟩ σ (fun σ' => σ' = σ.put k d) := by
  intro a w hh K Q hK
  have hall := hl.all (evs_spec hh he)
  have e : (execOp a.eval ⟨some k, .call { callee := .value (.func f), args := args, argTypes := aT }, ty, pos, af, gd⟩).run P w = .ok (.enter f (args.toList.map a.eval).toArray) w := by
    have h := hcon.en (args.toList.map a.eval).toArray w
    have e1 : (args.map a.eval) = (args.toList.map a.eval).toArray := by apply Array.ext'; simp
    simp only [execOp, resolve, Deferred.ofValue, Act.eval, e1, Sem.run_bind, Sem.run_pure, Result.andThen_ok, invoke, Array.append_empty, Array.empty_append]
    exact h
  unfold Oper.wp
  rw [e]
  simp only [Oper.upon]
  refine (hcon.go (σ.L Γ) w _ hh.lt hh.gl hall).mono ?_
  rintro r w' ⟨v, rfl, hd, ho⟩
  exact hK _ _ _ rfl ((hh.keep ho).put (by simpa [dstOk] using hk) hd) (ho.mono (by simp))
end
end Sx
end Go.Proofs.YtchbgfgboogniaaDoor
namespace Go.Proofs.YtchbgfgboogniaaDoor
open Go.RowKit
namespace Sx
/-- Values of one cell. -/
class One (d : D) : Prop where
  h : ∀ L w v, d.R L w v → v.oneCell' = true
instance (k : IntKind) (n : Int) : One (isD (.int k n)) := ⟨fun _ _ _ h => by cases h; rfl⟩
instance (b : Bool) : One (isD (.bool b)) := ⟨fun _ _ _ h => by cases h; rfl⟩
instance (s : ByteArray) : One (isD (.string s)) := ⟨fun _ _ _ h => by cases h; rfl⟩
instance (a : Option Addr) (n c : Nat) : One (isD (.slice a n c)) := ⟨fun _ _ _ h => by cases h; rfl⟩
instance (a : Option Addr) : One (isD (.pointer a)) := ⟨fun _ _ _ h => by cases h; rfl⟩
instance (xs : List Value) : One (slD xs) := ⟨fun _ _ _ h => by obtain ⟨A, c, rfl, _⟩ := h; rfl⟩
instance (x : Value) : One (ptD x) := ⟨fun _ _ _ h => by obtain ⟨A, c, rfl, _⟩ := h; rfl⟩
class Ones (ds : List D) : Prop where
  m : ∀ d ∈ ds, ∀ L w v, d.R L w v → v.oneCell' = true
instance : Ones [] := ⟨fun d hd => by simp at hd⟩
instance (d : D) (ds : List D) [o : One d] [os : Ones ds] : Ones (d :: ds) := ⟨fun e he => by
  rcases List.mem_cons.1 he with rfl | he
  · exact o.h
  · exact os.m e he⟩
instance (ds : List D) (n : Nat) [os : Ones ds] : Ones (ds.take n) := ⟨fun d hd => os.m d (List.mem_of_mem_take hd)⟩
instance (ds : List D) (n : Nat) [os : Ones ds] : Ones (ds.drop n) := ⟨fun d hd => os.m d (List.mem_of_mem_drop hd)⟩
instance (ds es : List D) [os : Ones ds] [ps : Ones es] : Ones (ds ++ es) := ⟨fun d hd => by
  rcases List.mem_append.1 hd with h | h
  · exact os.m d h
  · exact ps.m d h⟩
theorem Ones.h {ds : List D} [os : Ones ds] : ∀ L w cs, All L w ds cs → ∀ v ∈ cs, v.oneCell' = true := by
  have key : ∀ (es : List D), (∀ d ∈ es, d ∈ ds) → ∀ L w cs, All L w es cs → ∀ v ∈ cs, v.oneCell' = true := by
    intro es
    induction es with
    | nil => intro _ L w cs h v hv; cases cs with | nil => simp at hv | cons => exact h.elim
    | cons d es ih =>
      intro hm L w cs h v hv
      cases cs with
      | nil => exact h.elim
      | cons c cs =>
        rcases List.mem_cons.1 hv with rfl | hv
        · exact os.m d (hm d (by simp)) _ _ _ h.1
        · exact ih (fun e he => hm e (List.mem_cons_of_mem _ he)) _ _ _ h.2 v hv
  exact key ds (fun _ h => h)
theorem one_cells {v : Value} (h : v.oneCell' = true) : v.cells = #[v] := by cases v <;> first | rfl | (simp [Value.oneCell'] at h)
def sizeT (P : Program) (T n : Nat) : Bool := (P.info? T).map (·.size) == some n
/-- The boxes' contents behind a store of es at offset o. -/
def spliceD (ds : List D) (o : Nat) (es : List D) : List D := ds.take o ++ (es ++ ds.drop (o + es.length))

section
variable {P : Program} {Γ : Cx} {σ : St} {S : List Nat} {dst : Option Tmp} {ty : TypeId} {pos : String} {af : Array Edge} {gd : Option (Nat × Bool)} {d : D}
/-- A struct stored into a box, or a part of one. -/
theorem Ef.storeA {x y : Operand} {T g o : Nat} (j : Nat) {ds es : List D} [Ones es] (hx : σ.ev x = some (isD (.pointer (some ⟨g, o, none⟩)))) (hy : σ.ev y = some (aggD es)) (hj : σ.bx[j]? = some (.c g ds)) (hT : sizeT P T es.length = true) (hfit : Nat.ble (o + es.length) ds.length = true) (hS : g ∈ S) :
    Ef P Γ S ⟨none, .store T x y, ty, pos, af, gd⟩ σ (fun σ' => σ' = σ.set j (spliceD ds o es)) := by
  intro a w hh K Q hK
  have hxv : a.eval x = .pointer (some ⟨g, o, none⟩) := ev_spec hh hx
  obtain ⟨es', hyv, hae⟩ := ev_spec hh hy
  obtain ⟨t, cs, hb, ha⟩ := hh.boxAt hj
  have h1 := ha.length
  have h2 := hae.length
  have h3 : o + es.length ≤ ds.length := by simpa using hfit
  obtain ⟨h4, h5⟩ := blk_setCells es' o cs w hb (by omega)
  have hth : w.there g o es'.toArray.size := fun i hi => by
    have hi' : i < es'.length := by simpa using hi
    refine ⟨?_, hb.frozen _⟩
    rw [hb.cell, List.getElem?_eq_getElem (by omega)]
    rfl
  have hsz : (P.info? T).map (·.size) = some es'.toArray.size := by
    unfold sizeT at hT
    rw [beq_iff_eq] at hT
    rw [hT]
    simp [h2]
  have e : (execOp a.eval ⟨none, .store T x y, ty, pos, af, gd⟩).run P w = .ok .skip (w.setCells g o es') := by
    have h6 := run_storeAt_mid (P := P) w g o T es'.toArray hth hsz (by
      rw [Array.all_eq_true_iff_forall_mem]
      exact fun v hv => Ones.h (ds := es) _ _ _ hae v (by simpa using hv))
    simp [execOp, hxv, hyv, h6]
  unfold Oper.wp
  rw [e]
  have hall : All (σ.L Γ) w (spliceD ds o es) (cs.take o ++ (es' ++ cs.drop (o + es'.length))) := by
    unfold spliceD
    rw [h2]
    exact (ha.take o).append (hae.append (ha.drop _))
  exact hK _ _ _ rfl (hh.set hj h4 h5 hall) (h5.mono (by intro z hz _; simp at hz; subst hz; exact hS))
/-- A cell of a box is stored to. -/
theorem Ef.storeV {x y : Operand} {T g o : Nat} (j : Nat) {ds : List D} [One d] (hx : σ.ev x = some (isD (.pointer (some ⟨g, o, none⟩)))) (hy : σ.ev y = some d) (hj : σ.bx[j]? = some (.c g ds)) (hT : sizeT P T 1 = true) (hfit : Nat.blt o ds.length = true) (hS : g ∈ S) :
    Ef P Γ S ⟨none, .store T x y, ty, pos, af, gd⟩ σ (fun σ' => σ' = σ.set j (ds.set o d)) := by
  intro a w hh K Q hK
  have hxv : a.eval x = .pointer (some ⟨g, o, none⟩) := ev_spec hh hx
  have hyd := ev_spec hh hy
  have h1c := One.h (d := d) _ _ _ hyd
  obtain ⟨t, cs, hb, ha⟩ := hh.boxAt hj
  have h1 := ha.length
  have h3 : o < ds.length := by simpa using hfit
  have hc : w.cell? ⟨g, o, none⟩ = some cs[o] := by rw [hb.cell, List.getElem?_eq_getElem (by omega)]
  obtain ⟨i, hi, hs⟩ := Option.map_eq_some_iff.1 (show (P.info? T).map (·.size) = some 1 by unfold sizeT at hT; rw [beq_iff_eq] at hT; exact hT)
  have e : (execOp a.eval ⟨none, .store T x y, ty, pos, af, gd⟩).run P w = .ok .skip (w.setCell ⟨g, o, none⟩ (a.eval y)) := by
    simp [execOp, hxv, Instr.storeAt, Instr.sureAddr, storeVar, sizeOf, typeInfo, hi, hs, one_cells h1c, storeCells, run_store _ _ _ _ _ h1c, Addr.add, hc, hb.frozen]
  unfold Oper.wp
  rw [e]
  have ho : Only [g] w (w.setCell ⟨g, o, none⟩ (a.eval y)) := (Only.refl [g] w).setCell (p := ⟨g, o, none⟩) (.inl (by simp)) _
  exact hK _ _ _ rfl (hh.set hj (hb.set o _) ho (ha.set hyd)) (ho.mono (by intro z hz _; simp at hz; subst hz; exact hS))

theorem zip_parts (f : Operand → Value) : ∀ (parts : List (Nat × Operand)), parts.map (fun x => (x.1, f x.2)) = (parts.map (·.1)).zip ((parts.map (·.2)).map f)
  | [] => rfl
  | (i, x) :: ps => by simp only [List.map_cons, List.zip_cons_cons, zip_parts f ps]
/-- T{..}. -/
def Bld (P : Program) (T : Nat) (idx : List Nat) (es out : List D) : Prop := ∀ L w vs, All L w es vs → ∃ cs, All L w out cs ∧ ∀ w', (Instr.build T (idx.zip vs).toArray).run P w' = .ok (.agg cs.toArray) w'
theorem Rd.build {parts : List (Nat × Operand)} {T : Nat} {idx : List Nat} {es out : List D} (hi : parts.map (·.1) = idx) (he : σ.evs (parts.map (·.2)) = some es) (hb : Bld P T idx es out) : Rd P Γ S ⟨dst, .build T parts.toArray, ty, pos, af, gd⟩ σ (aggD out) := by
  intro a w hh
  obtain ⟨cs, h1, h2⟩ := hb _ _ _ (evs_spec hh he)
  refine ⟨.agg cs.toArray, ⟨cs, rfl, h1⟩, fun w' _ => ?_⟩
  have e : (parts.toArray.map fun (i, x) => (i, a.eval x)) = (idx.zip ((parts.map (·.2)).map a.eval)).toArray := by
    rw [← hi]
    apply Array.ext'
    simp only [Array.toList_map]
    exact zip_parts a.eval parts
  have h3 := h2 w'
  simp only [execOp]
  rw [e, Sem.run_bind, h3]
  rfl
/-- []T{..} of values of one cell, all known. -/
theorem Ef.lit {parts : List (Nat × Operand)} {T e n k : Nat} {xs : List Value} (he : σ.evs (parts.map (·.2)) = some (xs.map isD)) (hk : dstOk Γ.nt k = true)
    (hrun : ∀ w : World, (Instr.buildSlice T n ((parts.map (·.1)).zip xs).toArray).run P w = .ok (.slice (some ⟨w.heap.size, 0, none⟩) xs.length xs.length) (w.alloc (.cells xs.toArray e))) :
    Ef P Γ S ⟨some k, .buildSlice T n parts.toArray, ty, pos, af, gd⟩ σ (fun σ' => σ' = σ.put k (slD xs)) := by
  intro a w hh K Q hK
  have hall := evs_spec hh he
  have hvs : ∀ {zs : List Value} {cs : List Value}, All (σ.L Γ) w (zs.map isD) cs → cs = zs := by
    intro zs
    induction zs with
    | nil => intro cs h; cases cs with | nil => rfl | cons => exact h.elim
    | cons z zs ih => intro cs h; cases cs with | nil => exact h.elim | cons c cs => rw [ih h.2, show c = z from h.1]
  have hv := hvs hall
  have e1 : (parts.toArray.map fun (i, x) => (i, a.eval x)) = ((parts.map (·.1)).zip xs).toArray := by
    rw [← hv]
    apply Array.ext'
    simp only [Array.toList_map]
    exact zip_parts a.eval parts
  have e2 : (execOp a.eval ⟨some k, .buildSlice T n parts.toArray, ty, pos, af, gd⟩).run P w = .ok (.value (.slice (some ⟨w.heap.size, 0, none⟩) xs.length xs.length)) (w.alloc (.cells xs.toArray e)) := by
    simp only [execOp]
    rw [e1, Sem.run_bind, hrun w]
    rfl
  unfold Oper.wp
  rw [e2]
  have ho : Only [] w (w.alloc (.cells xs.toArray e)) := (Only.refl [] w).alloc _
  refine hK _ _ _ rfl ((hh.keep ho).put (by simpa [dstOk] using hk) ⟨_, _, rfl, Nat.le_refl _, RV.new rfl, fun _ p hp hm => ?_⟩) ((Only.refl S w).alloc _)
  injection hp with hp
  subst hp
  have := hh.lt _ hm
  simp at this

/-! Results. -/
def ResV (σ : St) (P : Program) : ResultVar → D → Prop
  | .tmp t, d => σ.tm t = some d
  | .cell p T, d => ∃ (j g : Nat) (ds : List D), σ.tm p = some (isD (.pointer (some ⟨g, 0, none⟩))) ∧ σ.bx[j]? = some (.c g ds) ∧ ((rowT P T ds.length = true ∧ d = aggD ds) ∨ (plainT P T = true ∧ ds[0]? = some d))
theorem ResV.tmp {t : Nat} (h : σ.tm t = some d) : ResV σ P (.tmp t) d := h
theorem ResV.cellA {p T : Nat} (j : Nat) {g : Nat} {ds : List D} (h1 : σ.tm p = some (isD (.pointer (some ⟨g, 0, none⟩)))) (h2 : σ.bx[j]? = some (.c g ds)) (h3 : rowT P T ds.length = true) : ResV σ P (.cell p T) (aggD ds) := ⟨j, g, ds, h1, h2, .inl ⟨h3, rfl⟩⟩
theorem ResV.cellV {p T : Nat} (j : Nat) {g : Nat} {ds : List D} (h1 : σ.tm p = some (isD (.pointer (some ⟨g, 0, none⟩)))) (h2 : σ.bx[j]? = some (.c g ds)) (h3 : plainT P T = true) (h4 : ds[0]? = some d) : ResV σ P (.cell p T) d := ⟨j, g, ds, h1, h2, .inr ⟨h3, h4⟩⟩
def loadR (tmps : Array Value) : ResultVar → Sem Value
  | .tmp t => pure (tmps.getD t undef)
  | .cell a t => do loadVar t (← asAddr (tmps.getD a undef))
theorem run_loadR {r : ResultVar} {a : Act} {w : World} (hh : Holds Γ σ a w) (h : ResV σ P r d) : ∃ v, (loadR a.tmps r).run P w = .ok v w ∧ d.R (σ.L Γ) w v := by
  cases r with
  | tmp t => exact ⟨_, rfl, hh.tm t d h⟩
  | cell p T =>
    obtain ⟨j, g, ds, hp, hj, h⟩ := h
    have hpv : a.tmps.getD p undef = .pointer (some ⟨g, 0, none⟩) := hh.tm _ _ hp
    obtain ⟨t, cs, hb, ha⟩ := hh.boxAt hj
    rcases h with ⟨hT, rfl⟩ | ⟨hT, hd⟩
    · refine ⟨.agg cs.toArray, ?_, ⟨cs, rfl, ha⟩⟩
      unfold rowT at hT
      split at hT
      · rename_i d hu
        simp only [Bool.and_eq_true, beq_iff_eq] at hT
        have h3 := run_loadVar_mid (P := P) w g 0 T cs d (fun i v hv' => by rw [Nat.zero_add, hb.cell]; exact hv') hu hT.1 (by rw [ha.length]; exact hT.2)
        simp only [loadR, hpv, asAddr, Sem.run_bind, Sem.run_pure, Result.andThen_ok, h3]
      · cases hT
    · obtain ⟨c, h1, h2⟩ := ha.at hd
      refine ⟨c, ?_, h2⟩
      have h3 := run_load_plain (P := P) hT (hb.cellv h1)
      simp only [Instr.loadAt, Instr.sureAddr, Sem.run_bind, Sem.run_pure, Result.andThen_ok] at h3
      simp only [loadR, hpv, asAddr, Sem.run_bind, Sem.run_pure, Result.andThen_ok, h3]
theorem Rs.one {fn : Func} {r : ResultVar} (h : fn.results = #[r]) (h1 : ResV σ P r d) : Rs P Γ fn σ d := by
  intro a w hh
  obtain ⟨v, hv, hd⟩ := run_loadR hh h1
  refine ⟨v, ?_, hd⟩
  have e : results fn a.tmps = (do let x ← loadR a.tmps r; pure x) := by cases r <;> simp [results, h, loadR]
  simp [e, hv]
theorem Rs.two {fn : Func} {r s : ResultVar} {d e : D} (h : fn.results = #[r, s]) (h1 : ResV σ P r d) (h2 : ResV σ P s e) : Rs P Γ fn σ (tupD [d, e]) := by
  intro a w hh
  obtain ⟨v, hv, hd⟩ := run_loadR hh h1
  obtain ⟨u, hu, he⟩ := run_loadR hh h2
  refine ⟨.tuple #[v, u], ?_, [v, u], rfl, hd, he, trivial⟩
  have e : results fn a.tmps = (do let x ← loadR a.tmps r; let y ← loadR a.tmps s; pure (.tuple #[x, y])) := by cases r <;> cases s <;> simp [results, h, loadR]
  simp [e, hv, hu]
theorem Rs.le {fn : Func} {d' : D} (h : Rs P Γ fn σ d) (hl : Le d d') : Rs P Γ fn σ d' := fun a w hh => by
  obtain ⟨v, h1, h2⟩ := h a w hh
  exact ⟨v, h1, hl _ _ _ h2⟩
end
end Sx
end Go.Proofs.YtchbgfgboogniaaDoor
namespace Go.Proofs.YtchbgfgboogniaaDoor
open Go.RowKit
namespace Sx
section
variable {P : Program} {Γ : Cx} {σ : St} {S : List Nat} {dst : Option Tmp} {ty : TypeId} {pos : String} {af : Array Edge} {gd : Option (Nat × Bool)} {d : D}
/-! Numbers. -/
theorem Rd.quoN {x y : Operand} {xT yT : TypeId} {p q : Int} (hx : σ.ev x = some (isD (.int .i64 p))) (hy : σ.ev y = some (isD (.int .i64 q))) (h : 0 ≤ p ∧ p ≤ 9223372036854775807 ∧ 0 < q) : Rd P Γ S ⟨dst, .binOp .quo xT x y yT, ty, pos, af, gd⟩ σ (isD (.int .i64 (p / q))) := Rd.bin hx hy fun _ => by
  have h1 : ¬ q = 0 := by omega
  have h2 : p.tdiv q = p / q := Int.tdiv_eq_ediv_of_nonneg h.1
  have h3 : 0 ≤ p / q := Int.ediv_nonneg h.1 (by omega)
  have h4 : p / q ≤ p := Int.ediv_le_self _ h.1
  have h5 : IntKind.i64.wrap (p / q) = p / q := wrap_in (by omega) (by omega)
  simp [eqGuard, binOp, Op.intDiv, h1, h2, h5]
theorem Rd.addW {x y : Operand} {xT yT : TypeId} {k : IntKind} {p q r : Int} (hx : σ.ev x = some (isD (.int k p))) (hy : σ.ev y = some (isD (.int k q))) (h : k.wrap (p + q) = r) : Rd P Γ S ⟨dst, .binOp .add xT x y yT, ty, pos, af, gd⟩ σ (isD (.int k r)) := Rd.bin hx hy fun _ => by simp [eqGuard, binOp, Op.intArith, h]
/-- An integer's conversion, its value given. -/
theorem Rd.cvW {x : Operand} {sT dT : TypeId} {kd ks : IntKind} {p r : Int} (kb : IntKind) (hx : σ.ev x = some (isD (.int ks p))) (hs : intT P sT kb = true) (hd : intT P dT kd = true) (h : kd.wrap p = r) : Rd P Γ S ⟨dst, .convert sT dT x, ty, pos, af, gd⟩ σ (isD (.int kd r)) := by
  subst h
  exact Rd.cvi kb hx hs hd
/-! Strings. -/
theorem str_get (b : List UInt8) (i : Nat) : (ByteArray.mk b.toArray)[i]? = b[i]? := by
  by_cases h : i < b.length
  · have h' : i < (ByteArray.mk b.toArray).size := by simpa [ByteArray.size] using h
    rw [List.getElem?_eq_getElem h]
    simp only [getElem?_pos (ByteArray.mk b.toArray) i h']
    rfl
  · rw [List.getElem?_eq_none (by omega)]
    have h' : ¬ i < (ByteArray.mk b.toArray).size := by simpa [ByteArray.size] using h
    simp only [getElem?_neg (ByteArray.mk b.toArray) i h']
theorem Rd.sidx {x y : Operand} {T : TypeId} {b : List UInt8} {i : Int} {c : UInt8} {kd : IntKind} (hx : σ.ev x = some (isD (.string ⟨b.toArray⟩))) (hy : σ.ev y = some (isD (.int kd i))) (hT : stringT P T = true) (h0 : 0 ≤ i) (hv : b[i.toNat]? = some c) :
    Rd P Γ S ⟨dst, .index T x y, ty, pos, af, gd⟩ σ (isD (.int .u8 (c.toNat : Int))) := by
  intro a w hh
  have hxv : a.eval x = .string ⟨b.toArray⟩ := ev_spec hh hx
  have hyv : a.eval y = .int kd i := ev_spec hh hy
  refine ⟨_, rfl, fun w' _ => ?_⟩
  simp only [execOp, hxv, hyv, Instr.index, asIntOf, Sem.run_bind, Sem.run_pure, Result.andThen_ok, run_underlying (stringT_spec hT), if_pos h0, str_get, hv]
theorem str_size (b : List UInt8) : (ByteArray.mk b.toArray).size = b.length := by simp [ByteArray.size]
theorem Rd.lenb {x : Operand} {T : Nat} {b : List UInt8} (hx : σ.ev x = some (isD (.string ⟨b.toArray⟩))) (hT : stringT P T = true) : Rd P Γ S ⟨dst, .call { callee := .builtin .len, args := #[x], argTypes := #[T] }, ty, pos, af, gd⟩ σ (isD (.int .i64 (b.length : Int))) := by
  have h := Rd.lens (P := P) (Γ := Γ) (S := S) (dst := dst) (ty := ty) (pos := pos) (af := af) (gd := gd) hx hT
  rw [str_size] at h
  exact h

/-! Slices and arrays. -/
/-- []T{x}, an element one cell. -/
def elemT (P : Program) (e : Nat) : Bool := match P.info? e with | some i => (i.size == 1) && (match i.zero with | some z => z.cells.size == 1 | none => false) | none => false
theorem elemT_spec {e : Nat} (h : elemT P e = true) : ∃ i z, P.info? e = some i ∧ i.size = 1 ∧ i.zero = some z ∧ z.cells.size = 1 := by
  unfold elemT at h
  split at h
  · rename_i i hi
    simp only [Bool.and_eq_true, beq_iff_eq] at h
    obtain ⟨h1, h2⟩ := h
    split at h2
    · rename_i z hz
      exact ⟨i, z, hi, h1, hz, by simpa using h2⟩
    · cases h2
  · cases h
theorem Ef.lit1 {x : Operand} {T e k : Nat} {v : Value} (he : σ.ev x = some (isD v)) (hv : v.oneCell' = true) (hT : sliceT P T e = true) (hE : elemT P e = true) (hk : dstOk Γ.nt k = true) :
    Ef P Γ S ⟨some k, .buildSlice T 1 #[(0, x)], ty, pos, af, gd⟩ σ (fun σ' => σ' = σ.put k (slD [v])) := by
  refine Ef.lit (parts := [(0, x)]) (xs := [v]) (e := e) (by simp [St.evs, he]) hk fun w => ?_
  obtain ⟨i, z, h1, h2, h3, h4⟩ := elemT_spec hE
  have hc := one_cells hv
  simp [Instr.buildSlice, run_underlying (sliceT_spec hT), sizeOf, typeInfo, h1, h2, zeroValue, h3, Instr.fill, hc, newRow]
  have hr : Array.range 1 = #[0] := rfl
  simp [hr]
/-- make([]T, n): an array of one's own. -/
theorem Ef.make {x y : Operand} {T e k n : Nat} {z : Value} {li ci : Int} (bytes : Nat) (hx : σ.ev x = some (isD (.int .i64 li))) (hy : σ.ev y = some (isD (.int .i64 ci))) (hT : sliceT P T e = true)
    (hinfo : (P.info? e).map (fun i => (i.zero, i.size, i.bytes)) = some (some z, 1, bytes)) (hzc : z.cells = #[z]) (hl : li = (n : Int)) (hc : ci = (n : Int)) (hn : n ≤ 1099511627776) (hb : bytes ≤ 128) (hk : dstOk Γ.nt k = true) :
    Ef P Γ S ⟨some k, .makeSlice T x y, ty, pos, af, gd⟩ σ (fun σ' => ∃ g, σ' = (σ.mk' g ((List.replicate n z).map isD)).put k (isD (.slice (some ⟨g, 0, none⟩) n n))) := by
  intro a w hh K Q hK
  have hxv : a.eval x = .int .i64 li := ev_spec hh hx
  have hyv : a.eval y = .int .i64 ci := ev_spec hh hy
  cases hI : P.info? e with
  | none => rw [hI] at hinfo; cases hinfo
  | some i =>
    rw [hI] at hinfo
    injection hinfo with hinfo
    injection hinfo with h1 h2
    injection h2 with h2 h3
    have hbc := Nat.mul_le_mul hb hn
    have hbI : (i.bytes : Int) * (n : Int) ≤ 281474976710656 := by
      rw [h3]
      have h4 : ((bytes * n : Nat) : Int) ≤ 281474976710656 := by omega
      rw [Int.natCast_mul] at h4
      exact h4
    have hrun := run_make (P := P) w T e i z (sliceT_spec hT) hI h1 .i64 .i64 (n : Int) (n : Int) (by omega) (by omega) hbI (by omega)
    have hcs : madeCells z.cells ((n : Int).toNat * i.size) = (List.replicate n z).toArray := by
      rw [Int.toNat_natCast, h2, Nat.mul_one, hzc, ← madeCells_one]
    rw [hcs] at hrun
    have h5 := (hh.box (t := e) (all_is (List.replicate n z))).put (i := k) (by simpa [dstOk] using hk) (d := isD (.slice (some ⟨w.heap.size, 0, none⟩) n n)) (v := .slice (some ⟨w.heap.size, 0, none⟩) n n) rfl
    unfold Oper.wp execOp
    simp only [hxv, hyv, hl, hc, Sem.run_bind, hrun, Result.andThen_ok, Sem.run_pure, Int.toNat_natCast]
    exact hK _ _ _ ⟨_, rfl⟩ h5 ((Only.refl S w).alloc _)
/-- x[i] of a slice whose place is known. -/
theorem Rd.idxE {x y : Operand} {T e g o n c : Nat} {i : Int} {kd : IntKind} (hx : σ.ev x = some (isD (.slice (some ⟨g, o, none⟩) n c))) (hy : σ.ev y = some (isD (.int kd i))) (hT : sliceT P T e = true) (hs : (P.info? e).map (·.size) = some 1) (h0 : 0 ≤ i) (hi : i < (n : Int)) :
    Rd P Γ S ⟨dst, .indexAddr T x y, ty, pos, af, gd⟩ σ (isD (.pointer (some ⟨g, o + i.toNat, none⟩))) := by
  intro a w hh
  have hxv : a.eval x = .slice (some ⟨g, o, none⟩) n c := ev_spec hh hx
  have hyv : a.eval y = .int kd i := ev_spec hh hy
  refine ⟨_, rfl, fun w' _ => ?_⟩
  obtain ⟨inf, hi', hsz⟩ := Option.map_eq_some_iff.1 hs
  simp [execOp, hxv, hyv, Instr.indexAt, asIntOf, run_underlying (sliceT_spec hT), sizeOf, typeInfo, hi', hsz, Addr.add, h0, hi]
theorem Ef.storeE {x y : Operand} {T g o : Nat} (j : Nat) {ds : List D} [One d] (hx : σ.ev x = some (isD (.pointer (some ⟨g, o, none⟩)))) (hy : σ.ev y = some d) (hj : σ.bx[j]? = some (.c g ds)) (hT : sizeT P T 1 = true) (hfit : o < ds.length) (hS : g ∈ S) :
    Ef P Γ S ⟨none, .store T x y, ty, pos, af, gd⟩ σ (fun σ' => σ' = σ.set j (ds.set o d)) := Ef.storeV j hx hy hj hT (by simpa using hfit) hS
theorem Rd.lenE {x : Operand} {T e n c : Nat} {A : Option Addr} (hx : σ.ev x = some (isD (.slice A n c))) (hT : sliceT P T e = true) : Rd P Γ S ⟨dst, .call { callee := .builtin .len, args := #[x], argTypes := #[T] }, ty, pos, af, gd⟩ σ (isD (.int .i64 (n : Int))) := by
  intro a w hh
  have hv : a.eval x = .slice A n c := ev_spec hh hx
  refine ⟨_, rfl, fun w' _ => ?_⟩
  simp [execOp, resolve, invoke, builtin, hv, Builtin.len_, run_underlying (sliceT_spec hT), goInt]

theorem fps_erase : ∀ {bs : List Box} {j : Nat} {b : Box}, bs[j]? = some b → (fps bs).Nodup → (fps (bs.eraseIdx j)).Nodup ∧ (∀ x ∈ fps (bs.eraseIdx j), x ∈ fps bs) ∧ (∀ x ∈ b.fp, x ∉ fps (bs.eraseIdx j))
  | [], _, _, h, _ => by simp at h
  | c :: bs, 0, b, h, hn => by
    simp at h
    subst h
    rw [fps_cons] at hn
    have h2 := List.nodup_append.1 hn
    exact ⟨h2.2.1, fun x hx => List.mem_append_right _ hx, fun x hx hm => h2.2.2 x hx x hm rfl⟩
  | c :: bs, j + 1, b, h, hn => by
    simp at h
    rw [fps_cons] at hn
    have h2 := List.nodup_append.1 hn
    obtain ⟨k1, k2, k3⟩ := fps_erase h h2.2.1
    rw [List.eraseIdx_cons_succ, fps_cons]
    refine ⟨List.nodup_append.2 ⟨h2.1, k1, fun x hx y hy e => h2.2.2 x hx y (k2 y hy) e⟩, fun x hx => ?_, fun x hx hm => ?_⟩
    · rcases List.mem_append.1 hx with hx | hx
      · exact List.mem_append_left _ hx
      · exact List.mem_append_right _ (k2 x hx)
    · rcases List.mem_append.1 hm with hm | hm
      · exact h2.2.2 x hm x (mem_fps.2 ⟨b, List.mem_of_getElem? h, hx⟩) rfl
      · exact k3 x hx hm
theorem all_isD {L : List Nat} {w : World} : ∀ {zs cs : List Value}, All L w (zs.map isD) cs → cs = zs
  | [], [], _ => rfl
  | [], _ :: _, h => h.elim
  | _ :: _, [], h => h.elim
  | z :: zs, c :: cs, h => by rw [all_isD h.2, show c = z from h.1]
/-- An array of one's own becomes data. -/
theorem Holds.freeze {a : Act} {w : World} (h : Holds Γ σ a w) {i j g c : Nat} {xs : List Value} (hi : σ.tm i = some (isD (.slice (some ⟨g, 0, none⟩) xs.length c))) (hc : xs.length ≤ c) (hj : σ.bx[j]? = some (.c g (xs.map isD))) : Holds Γ ⟨fun k => cond (Nat.beq k i) (some (slD xs)) (σ.tm k), σ.bx.eraseIdx j⟩ a w := by
  obtain ⟨k1, k2, k3⟩ := fps_erase hj h.nd
  have h1 : Holds Γ ⟨σ.tm, σ.bx.eraseIdx j⟩ a w := h.swap (Only.refl [] w) (by simp) (fun b hb => .inl ⟨List.mem_of_mem_eraseIdx hb, by simp⟩) (fun x hx => .inl (k2 x hx)) k1
  have hg : g ∈ fps σ.bx := mem_fps.2 ⟨_, List.mem_of_getElem? hj, List.mem_singleton.2 rfl⟩
  obtain ⟨t, cs, hb, ha⟩ := h.boxAt hj
  have hcs := all_isD ha
  subst hcs
  refine ⟨h1.df, h1.sz, fun k d hk => ?_, h1.bx, h1.nd, h1.nw, h1.on, h1.bs, h1.dj⟩
  have hk : (σ.put i (slD cs)).tm k = some d := hk
  rw [put_tm] at hk
  by_cases hki : k = i
  · subst hki
    simp at hk
    subst hk
    have hv : a.tmps.getD k undef = .slice (some ⟨g, 0, none⟩) cs.length c := h.tm k _ hi
    refine ⟨some ⟨g, 0, none⟩, c, hv, hc, hb.rv, fun _ p hp hm => ?_⟩
    injection hp with hp
    subst hp
    rcases List.mem_append.1 hm with hm | hm
    · exact k3 g (List.mem_singleton.2 rfl) hm
    · have h2 := h.bs g hm
      rcases h.nw g hg with h3 | h3
      · omega
      · exact h.dj.1 g h3 hm
  · rw [if_neg hki] at hk
    exact h1.tm k d hk
theorem SWl.freeze {ops : Array Oper} {l : List Oper} {Q : Exit → Act → World → Prop} (i j : Nat) {g c n : Nat} {ds : List D} (xs : List Value) (hi : σ.tm i = some (isD (.slice (some ⟨g, 0, none⟩) n c))) (hj : σ.bx[j]? = some (.c g ds)) (hn : n = xs.length) (hc : n ≤ c) (hds : ds = xs.map isD) (h : SWl P Γ ops Q l ⟨fun k => cond (Nat.beq k i) (some (slD xs)) (σ.tm k), σ.bx.eraseIdx j⟩) : SWl P Γ ops Q l σ :=
  fun a w hh => by subst hn hds; exact h a w (hh.freeze hi hc hj)
theorem SWl.sub {ops : Array Oper} {l : List Oper} {Q : Exit → Act → World → Prop} {σ' : St} (hs : Sub σ σ') (h : SWl P Γ ops Q l σ') : SWl P Γ ops Q l σ := fun a w hh => h a w (hh.sub hs)
/-- What is known of one slot, said in other words. -/
theorem Holds.weak {a : Act} {w : World} (h : Holds Γ σ a w) {i : Nat} {d' : D} (hi : σ.tm i = some d) (hl : Le d d') : Holds Γ (σ.put i d') a w := by
  refine ⟨h.df, h.sz, fun k e hk => ?_, h.bx, h.nd, h.nw, h.on, h.bs, h.dj⟩
  rw [put_tm] at hk
  by_cases hki : k = i
  · subst hki
    simp at hk
    subst hk
    exact hl _ _ _ (h.tm k d hi)
  · rw [if_neg hki] at hk
    exact h.tm k e hk
theorem SWl.weak {ops : Array Oper} {l : List Oper} {Q : Exit → Act → World → Prop} (i : Nat) {d' : D} (hi : σ.tm i = some d) (hl : Le d d') (h : SWl P Γ ops Q l (σ.put i d')) : SWl P Γ ops Q l σ := fun a w hh => h a w (hh.weak hi hl)
theorem SW.weak {c : Code} {Q : Exit → Act → World → Prop} (i : Nat) {d' : D} (hi : σ.tm i = some d) (hl : Le d d') (h : SW P Γ (σ.put i d') c Q) : SW P Γ σ c Q := fun a w hh => h a w (hh.weak hi hl)
theorem SWz.weak {l : List Oper} {Q : Exit → Act → World → Prop} {tz : Reg.Tz} (i : Nat) {d' : D} (hi : σ.tm i = some d) (hl : Le d d') (h : SWz P Γ l Q S tz (σ.put i d')) : SWz P Γ l Q S tz σ := fun a w hh => h a w (hh.weak hi hl)
end
end Sx
end Go.Proofs.YtchbgfgboogniaaDoor
namespace Go.Proofs.YtchbgfgboogniaaDoor
open Go.RowKit
namespace Sx
/-- Cells from a place on, in memory that nobody writes. -/
def At (L : List Nat) (w : World) (A : Option Addr) (ds : List D) : Prop :=
  0 < ds.length → ∃ g o, A = some ⟨g, o, none⟩ ∧ g < w.heap.size ∧ g ∉ L ∧ ∃ cs, All L w ds cs ∧ ∀ j, j < cs.length → w.cell? ⟨g, o + j, none⟩ = cs[j]?
theorem At.keep {L S : List Nat} {w w' : World} {A : Option Addr} {ds : List D} (h : At L w A ds) (ho : Only S w w') (hS : ∀ x ∈ S, x ∈ L) : At L w' A ds := fun h0 => by
  obtain ⟨g, o, e, hg, hn, cs, ha, hc⟩ := h h0
  exact ⟨g, o, e, Nat.lt_of_lt_of_le hg ho.size, hn, cs, ha.keep ho hS, fun j hj => (ho.cell (p := ⟨g, o + j, none⟩) hg (fun hm => hn (hS _ hm))).trans (hc j hj)⟩
theorem At.less {L L' : List Nat} {w : World} {A : Option Addr} {ds : List D} (h : At L w A ds) (hS : ∀ x ∈ L', x ∈ L ∨ w.heap.size ≤ x) : At L' w A ds := fun h0 => by
  obtain ⟨g, o, e, hg, hn, cs, ha, hc⟩ := h h0
  refine ⟨g, o, e, hg, fun hm => ?_, cs, ha.less hS, hc⟩
  rcases hS _ hm with h' | h'
  · exact hn h'
  · omega
/-- A slice of n elements with these cells. -/
def rwD (n : Nat) (ds : List D) : D := ⟨fun L w v => ∃ A c, v = .slice A n c ∧ n ≤ c ∧ At L w A ds,
  fun ⟨A, c, h, hc, ha⟩ ho hS => ⟨A, c, h, hc, ha.keep ho hS⟩, fun ⟨A, c, h, hc, ha⟩ hS => ⟨A, c, h, hc, ha.less hS⟩⟩
/-- The address of these cells. -/
def paD (ds : List D) : D := ⟨fun L w v => ∃ p, v = .pointer (some p) ∧ At L w (some p) ds,
  fun ⟨p, h, ha⟩ ho hS => ⟨p, h, ha.keep ho hS⟩, fun ⟨p, h, ha⟩ hS => ⟨p, h, ha.less hS⟩⟩
instance (n : Nat) (ds : List D) : One (rwD n ds) := ⟨fun _ _ _ h => by obtain ⟨A, c, rfl, _⟩ := h; rfl⟩
instance (ds : List D) : One (paD ds) := ⟨fun _ _ _ h => by obtain ⟨A, rfl, _⟩ := h; rfl⟩

section
variable {P : Program} {Γ : Cx} {σ : St} {S : List Nat} {dst : Option Tmp} {ty : TypeId} {pos : String} {af : Array Edge} {gd : Option (Nat × Bool)} {d : D}
theorem Rd.lenR {x : Operand} {T e n : Nat} {ds : List D} (hx : σ.ev x = some (rwD n ds)) (hT : sliceT P T e = true) : Rd P Γ S ⟨dst, .call { callee := .builtin .len, args := #[x], argTypes := #[T] }, ty, pos, af, gd⟩ σ (isD (.int .i64 (n : Int))) := by
  intro a w hh
  obtain ⟨A, c, hv, _⟩ := ev_spec hh hx
  refine ⟨_, rfl, fun w' _ => ?_⟩
  simp [execOp, resolve, invoke, builtin, hv, Builtin.len_, run_underlying (sliceT_spec hT), goInt]
theorem At.drop {L : List Nat} {w : World} {g o : Nat} {ds : List D} (k : Nat) (h : At L w (some ⟨g, o, none⟩) ds) : At L w (some ⟨g, o + k, none⟩) (ds.drop k) := fun h0 => by
  rw [List.length_drop] at h0
  obtain ⟨g', o', e, hg, hn, cs, ha, hc⟩ := h (by omega)
  injection e with e
  injection e with e1 e2
  subst e1 e2
  refine ⟨g, o + k, rfl, hg, hn, cs.drop k, ha.drop k, fun j hj => ?_⟩
  rw [List.length_drop] at hj
  rw [List.getElem?_drop, ← hc (k + j) (by omega), Nat.add_assoc]
/-- x[i] of a slice of structs: the element's address. -/
theorem Rd.idxR {x y : Operand} {T e n : Nat} {ds : List D} {i : Int} {kd : IntKind} (sz : Nat) (hx : σ.ev x = some (rwD n ds)) (hy : σ.ev y = some (isD (.int kd i))) (hT : sliceT P T e = true) (hs : (P.info? e).map (·.size) = some sz) (h0 : 0 ≤ i) (hi : i < (n : Int)) (hl : i.toNat * sz < ds.length) :
    Rd P Γ S ⟨dst, .indexAddr T x y, ty, pos, af, gd⟩ σ (paD (ds.drop (i.toNat * sz))) := by
  intro a w hh
  obtain ⟨A, c, hxv, hc, ha⟩ := ev_spec hh hx
  have hyv : a.eval y = .int kd i := ev_spec hh hy
  obtain ⟨g, o, rfl, hg, hn, cs, h1, h2⟩ := ha (by omega)
  refine ⟨.pointer (some ⟨g, o + i.toNat * sz, none⟩), ⟨_, rfl, At.drop _ ha⟩, fun w' _ => ?_⟩
  obtain ⟨inf, hi', hsz⟩ := Option.map_eq_some_iff.1 hs
  simp [execOp, hxv, hyv, Instr.indexAt, asIntOf, run_underlying (sliceT_spec hT), sizeOf, typeInfo, hi', hsz, Addr.add, h0, hi]
theorem Rd.fieldR {x : Operand} {T k n : Nat} {ds : List D} (hx : σ.ev x = some (paD ds)) (hf : fldO P T k = some n) (hl : n < ds.length) : Rd P Γ S ⟨dst, .fieldAddr T x k, ty, pos, af, gd⟩ σ (paD (ds.drop n)) := by
  intro a w hh
  obtain ⟨p, hv, ha⟩ := ev_spec hh hx
  obtain ⟨g, o, e, hg, hn, cs, h1, h2⟩ := ha (by omega)
  injection e with e
  subst e
  refine ⟨.pointer (some ⟨g, o + n, none⟩), ⟨_, rfl, At.drop _ ha⟩, fun w' _ => ?_⟩
  unfold fldO at hf
  split at hf
  · rename_i fs hu
    split at hf
    · rename_i f hk
      split at hf
      · rename_i sz hs
        simp only [Option.some.injEq] at hf
        subst hf
        obtain ⟨i, hi, hsz⟩ := Option.map_eq_some_iff.1 hs
        simp [execOp, hv, Instr.fieldAt, run_underlying hu, hk, Instr.sureAddr, fieldPlace, sizeOf, typeInfo, hi, hsz, Addr.add]
      · cases hf
    · cases hf
  · cases hf
theorem Rd.loadR {x : Operand} {T : Nat} {ds : List D} (hx : σ.ev x = some (paD ds)) (hd : ds[0]? = some d) (hT : plainT P T = true) (hS : ∀ s ∈ S, s ∈ σ.L Γ) : Rd P Γ S ⟨dst, .load T x, ty, pos, af, gd⟩ σ d := by
  intro a w hh
  obtain ⟨p, hv, ha⟩ := ev_spec hh hx
  have h0 : 0 < ds.length := (List.getElem?_eq_some_iff.1 hd).1
  obtain ⟨g, o, e, hg, hn, cs, h1, h2⟩ := ha h0
  injection e with e
  subst e
  obtain ⟨c, hc1, hc2⟩ := h1.at hd
  refine ⟨c, hc2, fun w' ho => ?_⟩
  have h4 : w.cell? ⟨g, o, none⟩ = some c := by have := h2 0 (by rw [h1.length]; exact h0); rw [Nat.add_zero] at this; rw [this, hc1]
  have h3 := run_load_plain (P := P) hT ((ho.cell (p := ⟨g, o, none⟩) hg (fun hm => hn (hS _ hm))).trans h4)
  simp [execOp, hv, h3]
theorem Rd.loadRA {x : Operand} {T : Nat} (n : Nat) {ds : List D} (hx : σ.ev x = some (paD ds)) (hT : rowT P T n = true) (h0 : 0 < n) (hn : n ≤ ds.length) (hS : ∀ s ∈ S, s ∈ σ.L Γ) : Rd P Γ S ⟨dst, .load T x, ty, pos, af, gd⟩ σ (aggD (ds.take n)) := by
  intro a w hh
  obtain ⟨p, hv, ha⟩ := ev_spec hh hx
  obtain ⟨g, o, e, hg, hgn, cs, h1, h2⟩ := ha (by omega)
  injection e with e
  subst e
  have hl := h1.length
  refine ⟨.agg (cs.take n).toArray, ⟨_, rfl, h1.take n⟩, fun w' ho => ?_⟩
  unfold rowT at hT
  split at hT
  · rename_i d hu
    simp only [Bool.and_eq_true, beq_iff_eq] at hT
    have hlen : (cs.take n).length = n := by rw [List.length_take]; omega
    have h3 := run_loadAt_mid (P := P) w' g o T (cs.take n) d (fun i v hv' => by
      have hi : i < n := by have := (List.getElem?_eq_some_iff.1 hv').1; omega
      rw [List.getElem?_take_of_lt hi] at hv'
      rw [ho.cell (p := ⟨g, o + i, none⟩) hg (fun hm => hgn (hS _ hm)), h2 i (by omega)]
      exact hv') hu hT.1 (by rw [hlen]; exact hT.2)
    simp [execOp, hv, h3]
  · cases hT
/-- []T{..}, T a struct. -/
def Bls (P : Program) (T n : Nat) (idx : List Nat) (es out : List D) : Prop := ∃ e, ∀ L w vs, All L w es vs → ∃ cs, All L w out cs ∧ ∀ w' : World, (Instr.buildSlice T n (idx.zip vs).toArray).run P w' = .ok (.slice (some ⟨w'.heap.size, 0, none⟩) n n) (w'.alloc (.cells cs.toArray e))
theorem Ef.litR {parts : List (Nat × Operand)} {T n k : Nat} {idx : List Nat} {es out : List D} (hi : parts.map (·.1) = idx) (he : σ.evs (parts.map (·.2)) = some es) (hb : Bls P T n idx es out) (hk : dstOk Γ.nt k = true) :
    Ef P Γ S ⟨some k, .buildSlice T n parts.toArray, ty, pos, af, gd⟩ σ (fun σ' => σ' = σ.put k (rwD n out)) := by
  intro a w hh K Q hK
  obtain ⟨e, hb⟩ := hb
  obtain ⟨cs, h1, h2⟩ := hb _ _ _ (evs_spec hh he)
  have e1 : (parts.toArray.map fun (i, x) => (i, a.eval x)) = (idx.zip ((parts.map (·.2)).map a.eval)).toArray := by
    rw [← hi]
    apply Array.ext'
    simp only [Array.toList_map]
    exact zip_parts a.eval parts
  have e2 : (execOp a.eval ⟨some k, .buildSlice T n parts.toArray, ty, pos, af, gd⟩).run P w = .ok (.value (.slice (some ⟨w.heap.size, 0, none⟩) n n)) (w.alloc (.cells cs.toArray e)) := by
    simp only [execOp]
    rw [e1, Sem.run_bind, h2 w]
    rfl
  unfold Oper.wp
  rw [e2]
  have ho : Only [] w (w.alloc (.cells cs.toArray e)) := (Only.refl [] w).alloc _
  refine hK _ _ _ rfl ((hh.keep ho).put (by simpa [dstOk] using hk) ⟨_, _, rfl, Nat.le_refl _, fun h0 => ⟨_, 0, rfl, by simp, fun hm => ?_, cs, h1.keep ho (by simp), fun j hj => ?_⟩⟩) ((Only.refl S w).alloc _)
  · have := hh.lt _ hm
    omega
  · rw [Nat.zero_add]
    exact (Blk.new w e cs).cell j
end
end Sx
end Go.Proofs.YtchbgfgboogniaaDoor
namespace Go.Proofs.YtchbgfgboogniaaDoor
open Go.RowKit
namespace Sx
section
variable {P : Program} {Γ : Cx} {σ : St} {S : List Nat} {dst : Option Tmp} {ty : TypeId} {pos : String} {af : Array Edge} {gd : Option (Nat × Bool)} {d : D}
/-! Words. -/
theorem Rd.shlW {x y : Operand} {xT yT : TypeId} {k ky : IntKind} {p r : Int} {s : Nat} (hx : σ.ev x = some (isD (.int k p))) (hy : σ.ev y = some (isD (.int ky (s : Int)))) (h : k.wrap (p * 2 ^ (min s k.bits)) = r) : Rd P Γ S ⟨dst, .binOp .shl xT x y yT, ty, pos, af, gd⟩ σ (isD (.int k r)) := Rd.bin hx hy fun _ => by
  have h0 : ¬ ((s : Int) < 0) := by omega
  simp [eqGuard, binOp, Op.shift, h0, h]
theorem Rd.shrW {x y : Operand} {xT yT : TypeId} {k ky : IntKind} {p r : Int} {s : Nat} (hx : σ.ev x = some (isD (.int k p))) (hy : σ.ev y = some (isD (.int ky (s : Int)))) (h : p / 2 ^ (min s k.bits) = r) : Rd P Γ S ⟨dst, .binOp .shr xT x y yT, ty, pos, af, gd⟩ σ (isD (.int k r)) := Rd.bin hx hy fun _ => by
  have h0 : ¬ ((s : Int) < 0) := by omega
  have h1 : p.fdiv (2 ^ (min s k.bits)) = r := by rw [Int.fdiv_eq_ediv_of_nonneg _ (by exact Int.le_of_lt (Int.pow_pos (by decide)))]; exact h
  simp [eqGuard, binOp, Op.shift, h0, h1]
theorem Rd.orW {x y : Operand} {xT yT : TypeId} {k : IntKind} {p q r : Int} (hx : σ.ev x = some (isD (.int k p))) (hy : σ.ev y = some (isD (.int k q))) (h : bits .or k p q = r) : Rd P Γ S ⟨dst, .binOp .or xT x y yT, ty, pos, af, gd⟩ σ (isD (.int k r)) := Rd.bin hx hy fun _ => by
  subst h
  simp [eqGuard, binOp, go_sem]
theorem Rd.andW {x y : Operand} {xT yT : TypeId} {k : IntKind} {p q r : Int} (hx : σ.ev x = some (isD (.int k p))) (hy : σ.ev y = some (isD (.int k q))) (h : bits .and k p q = r) : Rd P Γ S ⟨dst, .binOp .and xT x y yT, ty, pos, af, gd⟩ σ (isD (.int k r)) := Rd.bin hx hy fun _ => by
  subst h
  simp [eqGuard, binOp, go_sem]
theorem wrap_u64 {z : Int} (h1 : 0 ≤ z) (h2 : z < 18446744073709551616) : IntKind.u64.wrap z = z := by
  simp [IntKind.wrap, IntKind.signed, IntKind.bits]
  omega
/-! Parts of slices. -/
end
end Sx
end Go.Proofs.YtchbgfgboogniaaDoor
