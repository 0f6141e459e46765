/-
  LEDGERS IN PLAIN LEAN: roots, inclusion paths, consistency paths, what accepts them. No program in sight.
  LEDGERS IN PLAIN LEAN: the complete subtrees whose roots are kept. No program in sight.
-/
import Derived.Test.YtonjpfpdpfonnaaDoorGA
namespace Go.Proofs.YtonjpfpdpfonnaaDoor
namespace Led
/-- The greatest power of two below n. -/
def bl (n : Nat) : Nat := 2 ^ Nat.log2 (n - 1)
theorem bl_spec {n : Nat} (h : 2 ≤ n) : 0 < bl n ∧ bl n < n ∧ n ≤ 2 * bl n := by
  unfold bl
  have h1 : 2 ^ Nat.log2 (n - 1) ≤ n - 1 := Nat.log2_self_le (by omega)
  have h2 : n - 1 < 2 ^ (Nat.log2 (n - 1) + 1) := Nat.lt_log2_self
  rw [Nat.pow_succ] at h2
  exact ⟨Nat.pow_pos (by decide), by omega, by omega⟩
/-- Two powers of two, each the greatest below n. -/
theorem bl_uniq {n i : Nat} (h1 : 2 ^ i < n) (h2 : n ≤ 2 * 2 ^ i) : bl n = 2 ^ i := by
  unfold bl
  have : Nat.log2 (n - 1) = i := by
    have h3 : (n - 1) ≠ 0 := by have : 0 < 2 ^ i := Nat.pow_pos (by decide); omega
    rw [Nat.log2_eq_iff h3]
    rw [Nat.pow_succ]
    omega
  rw [this]
structure Ent where
  kind : Int
  bytes : List UInt8
abbrev Dig := List UInt8
/-- An entry that may be appended. -/
def Ent.ok (e : Ent) : Prop := 0 ≤ e.kind ∧ e.kind ≤ 255 ∧ e.bytes.length ≤ 65536
section
variable (H : List UInt8 → Dig)
def leaf (e : Ent) : Dig := H (0 :: UInt8.ofNat e.kind.toNat :: e.bytes)
def join (a b : Dig) : Dig := H (1 :: (a ++ b))
def rootF : Nat → List Ent → Dig
  | 0, _ => H []
  | n + 1, l => match l with
    | [] => H []
    | [e] => leaf H e
    | l => join H (rootF n (l.take (bl l.length))) (rootF n (l.drop (bl l.length)))
def root (l : List Ent) : Dig := rootF H l.length l
theorem rootF_more : ∀ (n m : Nat) (l : List Ent), l.length ≤ n → l.length ≤ m → rootF H n l = rootF H m l := by
  intro n
  induction n with
  | zero =>
    intro m l h _
    have : l = [] := List.eq_nil_of_length_eq_zero (by omega)
    subst this
    cases m <;> rfl
  | succ n ih =>
    intro m l h hm
    match l, m with
    | [], 0 => rfl
    | [], m + 1 => rfl
    | e :: l, 0 => simp at hm
    | [e], m + 1 => rfl
    | e :: f :: l, m + 1 =>
      have hb := bl_spec (n := (e :: f :: l).length) (by simp)
      have h1 : ((e :: f :: l).take (bl (e :: f :: l).length)).length = bl (e :: f :: l).length := by rw [List.length_take]; omega
      have h2 : ((e :: f :: l).drop (bl (e :: f :: l).length)).length = (e :: f :: l).length - bl (e :: f :: l).length := List.length_drop
      simp only [rootF]
      rw [ih m _ (by omega) (by omega), ih m _ (by omega) (by omega)]
theorem root_nil : root H [] = H [] := rfl
theorem rootF_step (n : Nat) : ∀ {l : List Ent}, 2 ≤ l.length → rootF H (n + 1) l = join H (rootF H n (l.take (bl l.length))) (rootF H n (l.drop (bl l.length)))
  | e :: f :: l, _ => rfl
  | [], h => by simp at h
  | [_], h => by simp at h
theorem root_step {l : List Ent} (h : 2 ≤ l.length) : root H l = join H (root H (l.take (bl l.length))) (root H (l.drop (bl l.length))) := by
  have hb := bl_spec h
  have h1 : (l.take (bl l.length)).length = bl l.length := by rw [List.length_take]; omega
  have h2 : (l.drop (bl l.length)).length = l.length - bl l.length := List.length_drop
  obtain ⟨n, hn⟩ : ∃ n, l.length = n + 1 := ⟨l.length - 1, by omega⟩
  have e1 : root H l = rootF H (n + 1) l := by unfold root; rw [hn]
  rw [e1, rootF_step H n h]
  unfold root
  rw [rootF_more H n (l.take (bl l.length)).length _ (by omega) (Nat.le_refl _), rootF_more H n (l.drop (bl l.length)).length _ (by omega) (Nat.le_refl _)]
/-- The inclusion path of entry i, its lowest digest first. -/
def inclF : Nat → List Ent → Nat → List Dig
  | 0, _, _ => []
  | n + 1, l, i => if l.length ≤ 1 then [] else if i < bl l.length then inclF n (l.take (bl l.length)) i ++ [root H (l.drop (bl l.length))] else inclF n (l.drop (bl l.length)) (i - bl l.length) ++ [root H (l.take (bl l.length))]
def incl (l : List Ent) (i : Nat) : List Dig := inclF H l.length l i
theorem inclF_more : ∀ (n m : Nat) (l : List Ent) (i : Nat), l.length ≤ n → l.length ≤ m → inclF H n l i = inclF H m l i := by
  intro n
  induction n with
  | zero =>
    intro m l i h _
    cases m with
    | zero => rfl
    | succ m => simp only [inclF]; rw [if_pos (by omega)]
  | succ n ih =>
    intro m l i h hm
    cases m with
    | zero => simp only [inclF]; rw [if_pos (by omega)]
    | succ m =>
      simp only [inclF]
      by_cases h1 : l.length ≤ 1
      · rw [if_pos h1, if_pos h1]
      · rw [if_neg h1, if_neg h1]
        have hb := bl_spec (n := l.length) (by omega)
        have h2 : (l.take (bl l.length)).length = bl l.length := by rw [List.length_take]; omega
        have h3 : (l.drop (bl l.length)).length = l.length - bl l.length := List.length_drop
        rw [ih m _ i (by omega) (by omega), ih m _ (i - bl l.length) (by omega) (by omega)]
theorem incl_one {l : List Ent} (i : Nat) (h : l.length ≤ 1) : incl H l i = [] := by
  unfold incl
  match l, h with
  | [], _ => rfl
  | [e], _ => rfl
theorem incl_step {l : List Ent} (i : Nat) (h : 2 ≤ l.length) : incl H l i = if i < bl l.length then incl H (l.take (bl l.length)) i ++ [root H (l.drop (bl l.length))] else incl H (l.drop (bl l.length)) (i - bl l.length) ++ [root H (l.take (bl l.length))] := by
  have hb := bl_spec h
  have h2 : (l.take (bl l.length)).length = bl l.length := by rw [List.length_take]; omega
  have h3 : (l.drop (bl l.length)).length = l.length - bl l.length := List.length_drop
  obtain ⟨n, hn⟩ : ∃ n, l.length = n + 1 := ⟨l.length - 1, by omega⟩
  have e1 : incl H l i = inclF H (n + 1) l i := by unfold incl; rw [hn]
  rw [e1]
  simp only [inclF]
  rw [if_neg (by omega)]
  unfold incl
  rw [inclF_more H n _ _ i (by omega) (Nat.le_refl _), inclF_more H n (l.drop (bl l.length)).length _ (i - bl l.length) (by omega) (Nat.le_refl _)]
/-- What a path says the root is: the digest, whether the path is just long enough. Paths are looked at from their ends. -/
def verF : Nat → Nat → Nat → Dig → List Dig → Option Dig
  | 0, _, _, _, _ => none
  | f + 1, i, n, d, p => if n = 1 then (if p = [] then some d else none) else
    match p.getLast? with
    | none => none
    | some last => if i < bl n then (verF f i (bl n) d p.dropLast).map (fun x => join H x last) else (verF f (i - bl n) (n - bl n) d p.dropLast).map (fun x => join H last x)
def ver (i n : Nat) (d : Dig) (p : List Dig) : Option Dig := verF H n i n d p
theorem verF_more : ∀ (f g i n : Nat) (d : Dig) (p : List Dig), 0 < n → n ≤ f → n ≤ g → verF H f i n d p = verF H g i n d p := by
  intro f
  induction f with
  | zero => intro g i n d p h0 h _; omega
  | succ f ih =>
    intro g i n d p h0 h hg
    cases g with
    | zero => omega
    | succ g =>
      simp only [verF]
      by_cases h1 : n = 1
      · rw [if_pos h1, if_pos h1]
      · rw [if_neg h1, if_neg h1]
        have hb := bl_spec (n := n) (by omega)
        rw [ih g i (bl n) d p.dropLast (by omega) (by omega) (by omega), ih g (i - bl n) (n - bl n) d p.dropLast (by omega) (by omega) (by omega)]
theorem ver_one (i : Nat) (d : Dig) (p : List Dig) : ver H i 1 d p = if p = [] then some d else none := by simp [ver, verF]
theorem ver_step {n : Nat} (i : Nat) (d : Dig) (p : List Dig) (h : 2 ≤ n) : ver H i n d p = match p.getLast? with
    | none => none
    | some last => if i < bl n then (ver H i (bl n) d p.dropLast).map (fun x => join H x last) else (ver H (i - bl n) (n - bl n) d p.dropLast).map (fun x => join H last x) := by
  obtain ⟨m, rfl⟩ : ∃ m, n = m + 1 := ⟨n - 1, by omega⟩
  have hb := bl_spec h
  unfold ver
  simp only [verF]
  rw [if_neg (by omega), verF_more H m (bl (m + 1)) i (bl (m + 1)) d _ (by omega) (by omega) (Nat.le_refl _), verF_more H m (m + 1 - bl (m + 1)) (i - bl (m + 1)) (m + 1 - bl (m + 1)) d _ (by omega) (by omega) (Nat.le_refl _)]
/-- The consistency path of the first m entries (at least one); outer: their root is known. -/
def consF : Nat → List Ent → Nat → Bool → List Dig
  | 0, _, _, _ => []
  | n + 1, l, m, outer => if m = l.length then (if outer = true then [] else [root H l]) else if m ≤ bl l.length then consF n (l.take (bl l.length)) m outer ++ [root H (l.drop (bl l.length))] else consF n (l.drop (bl l.length)) (m - bl l.length) false ++ [root H (l.take (bl l.length))]
def cons (l : List Ent) (m : Nat) (outer : Bool) : List Dig := consF H l.length l m outer
theorem consF_more : ∀ (n k : Nat) (l : List Ent) (m : Nat) (o : Bool), 0 < m → m ≤ l.length → l.length ≤ n → l.length ≤ k → consF H n l m o = consF H k l m o := by
  intro n
  induction n with
  | zero => intro k l m o h0 h1 h2 _; omega
  | succ n ih =>
    intro k l m o h0 hml h hk
    cases k with
    | zero => omega
    | succ k =>
      simp only [consF]
      by_cases h1 : m = l.length
      · rw [if_pos h1, if_pos h1]
      · rw [if_neg h1, if_neg h1]
        have hb := bl_spec (n := l.length) (by omega)
        have h2 : (l.take (bl l.length)).length = bl l.length := by rw [List.length_take]; omega
        have h3 : (l.drop (bl l.length)).length = l.length - bl l.length := List.length_drop
        by_cases h4 : m ≤ bl l.length
        · rw [if_pos h4, if_pos h4, ih k _ m o h0 (by omega) (by omega) (by omega)]
        · rw [if_neg h4, if_neg h4, ih k _ (m - bl l.length) false (by omega) (by omega) (by omega) (by omega)]
theorem cons_all {l : List Ent} (o : Bool) (h : 0 < l.length) : cons H l l.length o = if o = true then [] else [root H l] := by
  unfold cons
  obtain ⟨n, hn⟩ : ∃ n, l.length = n + 1 := ⟨l.length - 1, by omega⟩
  rw [hn]
  simp only [consF]
  rw [if_pos hn.symm]
theorem cons_step {l : List Ent} {m : Nat} (o : Bool) (h0 : 0 < m) (h : m < l.length) : cons H l m o = if m ≤ bl l.length then cons H (l.take (bl l.length)) m o ++ [root H (l.drop (bl l.length))] else cons H (l.drop (bl l.length)) (m - bl l.length) false ++ [root H (l.take (bl l.length))] := by
  have hb := bl_spec (n := l.length) (by omega)
  have h2 : (l.take (bl l.length)).length = bl l.length := by rw [List.length_take]; omega
  have h3 : (l.drop (bl l.length)).length = l.length - bl l.length := List.length_drop
  obtain ⟨n, hn⟩ : ∃ n, l.length = n + 1 := ⟨l.length - 1, by omega⟩
  have e1 : cons H l m o = consF H (n + 1) l m o := by unfold cons; rw [hn]
  rw [e1]
  simp only [consF]
  rw [if_neg (by omega)]
  by_cases h4 : m ≤ bl l.length
  · rw [if_pos h4, if_pos h4]
    unfold cons
    rw [consF_more H n _ _ m o h0 (by omega) (by omega) (Nat.le_refl _)]
  · rw [if_neg h4, if_neg h4]
    unfold cons
    rw [consF_more H n _ _ (m - bl l.length) false (by omega) (by omega) (by omega) (Nat.le_refl _)]
/-- What a consistency path says both roots are. -/
def conF : Nat → Nat → Nat → Bool → Dig → List Dig → Option (Dig × Dig)
  | 0, _, _, _, _, _ => none
  | f + 1, m, n, outer, old, p => if m = n ∧ outer = true then (if p = [] then some (old, old) else none) else
    match p.getLast? with
    | none => none
    | some last => if m = n then (if p.dropLast = [] then some (last, last) else none)
      else if m ≤ bl n then (conF f m (bl n) outer old p.dropLast).map (fun x => (x.1, join H x.2 last)) else (conF f (m - bl n) (n - bl n) false old p.dropLast).map (fun x => (join H last x.1, join H last x.2))
def con (m n : Nat) (outer : Bool) (old : Dig) (p : List Dig) : Option (Dig × Dig) := conF H n m n outer old p
theorem conF_more : ∀ (f g m n : Nat) (o : Bool) (d : Dig) (p : List Dig), 0 < m → m ≤ n → n ≤ f → n ≤ g → conF H f m n o d p = conF H g m n o d p := by
  intro f
  induction f with
  | zero => intro g m n o d p h0 h1 h2 _; omega
  | succ f ih =>
    intro g m n o d p h0 hm h hg
    cases g with
    | zero => omega
    | succ g =>
      simp only [conF]
      by_cases h1 : m = n
      · simp only [h1, true_and, if_true]
      · have hb := bl_spec (n := n) (by omega)
        simp only [h1, false_and, if_false]
        by_cases h4 : m ≤ bl n
        · simp only [if_pos h4]
          rw [ih g m (bl n) o d p.dropLast h0 h4 (by omega) (by omega)]
        · simp only [if_neg h4]
          rw [ih g (m - bl n) (n - bl n) false d p.dropLast (by omega) (by omega) (by omega) (by omega)]
theorem con_eq {n : Nat} (o : Bool) (d : Dig) (p : List Dig) (h : 0 < n) : con H n n o d p = if o = true then (if p = [] then some (d, d) else none) else match p.getLast? with
    | none => none
    | some last => if p.dropLast = [] then some (last, last) else none := by
  obtain ⟨m, rfl⟩ : ∃ m, n = m + 1 := ⟨n - 1, by omega⟩
  unfold con
  simp only [conF, true_and, if_true]
theorem con_step {m n : Nat} (o : Bool) (d : Dig) (p : List Dig) (h0 : 0 < m) (h : m < n) : con H m n o d p = match p.getLast? with
    | none => none
    | some last => if m ≤ bl n then (con H m (bl n) o d p.dropLast).map (fun x => (x.1, join H x.2 last)) else (con H (m - bl n) (n - bl n) false d p.dropLast).map (fun x => (join H last x.1, join H last x.2)) := by
  obtain ⟨k, rfl⟩ : ∃ k, n = k + 1 := ⟨n - 1, by omega⟩
  have hb := bl_spec (n := k + 1) (by omega)
  have h1 : ¬ m = k + 1 := by omega
  unfold con
  simp only [conF, h1, false_and, if_false]
  by_cases h4 : m ≤ bl (k + 1)
  · simp only [if_pos h4]
    rw [conF_more H k (bl (k + 1)) m (bl (k + 1)) o d p.dropLast h0 h4 (by omega) (Nat.le_refl _)]
  · simp only [if_neg h4]
    rw [conF_more H k (k + 1 - bl (k + 1)) (m - bl (k + 1)) (k + 1 - bl (k + 1)) false d p.dropLast (by omega) (by omega) (by omega) (Nat.le_refl _)]
end
end Led
end Go.Proofs.YtonjpfpdpfonnaaDoor
namespace Go.Proofs.YtonjpfpdpfonnaaDoor
namespace Led
/-- The subtrees that the entry j of the row of subtrees of size s completes, from size s on. -/
def up (s j : Nat) : List (Nat × Nat) := (s, j) :: (if h : j % 2 = 1 then up (2 * s) (j / 2) else [])
termination_by j
decreasing_by omega
theorem up_even {s j : Nat} (h : ¬ j % 2 = 1) : up s j = [(s, j)] := by rw [up, dif_neg h]
theorem up_odd {s j : Nat} (h : j % 2 = 1) : up s j = (s, j) :: up (2 * s) (j / 2) := by rw [up, dif_pos h]
/-- All complete subtrees of n entries, in the order in which they were completed. -/
def keys : Nat → List (Nat × Nat)
  | 0 => []
  | n + 1 => keys n ++ up 1 n
theorem mem_up : ∀ (j s : Nat) (p : Nat × Nat), p ∈ up s j → (p.2 + 1) * p.1 = (j + 1) * s ∧ s ≤ p.1 ∧ ∃ k, p.1 = 2 ^ k * s := by
  intro j
  induction j using Nat.strongRecOn with
  | ind j ih =>
    intro s p hp
    by_cases h : j % 2 = 1
    · rw [up_odd h] at hp
      rcases List.mem_cons.1 hp with rfl | hp
      · exact ⟨rfl, Nat.le_refl _, 0, by simp⟩
      · obtain ⟨h1, h2, k, h3⟩ := ih (j / 2) (by omega) (2 * s) p hp
        refine ⟨?_, by omega, k + 1, ?_⟩
        · rw [h1, ← Nat.mul_assoc, show (j / 2 + 1) * 2 = j + 1 by omega]
        · rw [h3, Nat.pow_succ, Nat.mul_assoc]
    · rw [up_even h] at hp
      rw [List.mem_singleton.1 hp]
      exact ⟨rfl, Nat.le_refl _, 0, by simp⟩
theorem up_mem : ∀ (k j s : Nat), 2 ^ k ∣ j + 1 → (2 ^ k * s, j / 2 ^ k) ∈ up s j := by
  intro k
  induction k with
  | zero => intro j s _; rw [up]; simp
  | succ k ih =>
    intro j s h
    have hj : j % 2 = 1 := by
      have : 2 ∣ j + 1 := Nat.dvd_trans (by rw [Nat.pow_succ]; exact Nat.dvd_mul_left _ _) h
      omega
    have h2 : 2 ^ k ∣ j / 2 + 1 := by
      have e : j + 1 = 2 * (j / 2 + 1) := by omega
      rw [e, Nat.pow_succ, Nat.mul_comm (2 ^ k)] at h
      exact Nat.dvd_of_mul_dvd_mul_left (by decide) h
    have := ih (j / 2) (2 * s) h2
    rw [up_odd hj]
    refine List.mem_cons_of_mem _ ?_
    rw [Nat.div_div_eq_div_mul, ← Nat.mul_assoc] at this
    rw [Nat.pow_succ, Nat.mul_comm (2 ^ k) 2]
    rw [Nat.mul_comm 2 (2 ^ k)]
    rwa [Nat.mul_comm 2 (2 ^ k)] at this
theorem mem_keys {n : Nat} {p : Nat × Nat} (h : p ∈ keys n) : (p.2 + 1) * p.1 ≤ n ∧ ∃ k, p.1 = 2 ^ k := by
  induction n with
  | zero => simp [keys] at h
  | succ n ih =>
    rcases List.mem_append.1 h with h | h
    · obtain ⟨h1, h2⟩ := ih h
      exact ⟨by omega, h2⟩
    · obtain ⟨h1, _, k, h2⟩ := mem_up n 1 p h
      exact ⟨by omega, k, by simpa using h2⟩
theorem keys_mem {k j n : Nat} (h : (j + 1) * 2 ^ k ≤ n) : (2 ^ k, j) ∈ keys n := by
  induction n with
  | zero =>
    have : 0 < (j + 1) * 2 ^ k := Nat.mul_pos (by omega) (Nat.pow_pos (by decide))
    omega
  | succ n ih =>
    by_cases hn : (j + 1) * 2 ^ k ≤ n
    · exact List.mem_append_left _ (ih hn)
    · have e : n + 1 = (j + 1) * 2 ^ k := by omega
      refine List.mem_append_right _ ?_
      have h1 := up_mem k n 1 (by rw [e]; exact Nat.dvd_mul_left _ _)
      have h2 : n / 2 ^ k = j := by
        have hp : 0 < 2 ^ k := Nat.pow_pos (by decide)
        have e2 : (j + 1) * 2 ^ k = j * 2 ^ k + 2 ^ k := by rw [Nat.add_mul, Nat.one_mul]
        refine (Nat.div_eq_iff hp).2 ⟨?_, ?_⟩ <;> omega
      rw [h2, Nat.mul_one] at h1
      exact h1
theorem keys_one {i n : Nat} (h : i < n) : (1, i) ∈ keys n := keys_mem (k := 0) (by rw [Nat.pow_zero, Nat.mul_one]; exact h)
/-- Behind keys n ++ the first ones of up 1 n, the next one is new. -/
theorem up_new {s j n : Nat} {old : List (Nat × Nat)} (hs : ∀ p ∈ old, (p.2 + 1) * p.1 ≤ n ∨ p.1 < s) (hj : (j + 1) * s = n + 1) : (s, j) ∉ old := fun h => by
  rcases hs _ h with h' | h'
  · have : (j + 1) * s ≤ n := h'
    omega
  · exact Nat.lt_irrefl _ h'
section
variable (H : List UInt8 → Dig)
/-- The root of a subtree. -/
def val (l : List Ent) (p : Nat × Nat) : Dig := root H ((l.drop (p.2 * p.1)).take p.1)
/-- The root of a part. -/
def spn (l : List Ent) (low n : Nat) : Dig := root H ((l.drop low).take n)
theorem val_app {l : List Ent} {p : Nat × Nat} (h : (p.2 + 1) * p.1 ≤ l.length) (e : Ent) : val H (l ++ [e]) p = val H l p := by
  unfold val
  have e2 : (p.2 + 1) * p.1 = p.2 * p.1 + p.1 := by rw [Nat.add_mul, Nat.one_mul]
  rw [List.drop_append_of_le_length (by omega), List.take_append_of_le_length (by rw [List.length_drop]; omega)]
theorem val_keys (l : List Ent) (e : Ent) : (keys l.length).map (val H (l ++ [e])) = (keys l.length).map (val H l) := by
  refine List.map_congr_left fun p hp => val_app H (mem_keys hp).1 e
theorem val_one {l : List Ent} {e : Ent} : val H (l ++ [e]) (1, l.length) = leaf H e := by
  unfold val
  simp only [Nat.mul_one]
  rw [List.drop_left]
  rfl
theorem spn_val {l : List Ent} {low n : Nat} (h : low % n = 0) : val H l (n, low / n) = spn H l low n := by
  unfold val spn
  simp only
  rw [Nat.div_mul_cancel (Nat.dvd_of_mod_eq_zero h)]
theorem spn_step {l : List Ent} {low n : Nat} (h : 2 ≤ n) (hl : low + n ≤ l.length) : spn H l low n = join H (spn H l low (bl n)) (spn H l (low + bl n) (n - bl n)) := by
  have hb := bl_spec h
  have hlen : ((l.drop low).take n).length = n := by rw [List.length_take, List.length_drop]; omega
  unfold spn
  rw [root_step H (by omega), hlen]
  congr 1
  · rw [List.take_take, Nat.min_eq_left (by omega)]
  · rw [List.drop_take, List.drop_drop]
theorem bl_pow {k : Nat} : bl (2 * 2 ^ k) = 2 ^ k := bl_uniq (by have : 0 < 2 ^ k := Nat.pow_pos (by decide); omega) (Nat.le_refl _)
/-- The root of a subtree out of those of its halves. -/
theorem val_join {l : List Ent} {k j : Nat} (hj : j % 2 = 1) (h : (j + 1) * 2 ^ k ≤ l.length) : val H l (2 * 2 ^ k, j / 2) = join H (val H l (2 ^ k, j - 1)) (val H l (2 ^ k, j)) := by
  have hp : 0 < 2 ^ k := Nat.pow_pos (by decide)
  have e1 : j / 2 * (2 * 2 ^ k) = (j - 1) * 2 ^ k := by rw [← Nat.mul_assoc]; congr 1; omega
  have e2 : (j - 1) * 2 ^ k + 2 ^ k = j * 2 ^ k := by
    have : (j - 1 + 1) * 2 ^ k = j * 2 ^ k := by congr 1; omega
    rw [← this, Nat.add_mul, Nat.one_mul]
  have e3 : (j + 1) * 2 ^ k = j * 2 ^ k + 2 ^ k := by rw [Nat.add_mul, Nat.one_mul]
  have h1 := spn_step H (l := l) (low := (j - 1) * 2 ^ k) (n := 2 * 2 ^ k) (by omega) (by omega)
  rw [bl_pow, e2, show 2 * 2 ^ k - 2 ^ k = 2 ^ k by omega] at h1
  unfold val
  simp only
  rw [e1]
  exact h1
end
end Led
end Go.Proofs.YtonjpfpdpfonnaaDoor
