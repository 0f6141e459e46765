/-
  A REGION THAT DRAWS ITS ORDER, walked once in the order of the text: operations that leave the world alone (still), bare moves (free), and operations that may change it (effects), each effect waiting for all still operations before it and waited for by all behind it. Over any program.
-/
import Derived.Still
import Derived.Tactics
import Derived.Deep.RegionHeld3
namespace Go.Proofs.Ytddfphneidcibaa

namespace Ord
variable {P : Program} {ops : Array Oper} {Q : Exit → Act → World → Prop}

/-- Bit i of M[j]: operation j waits, directly or through others, for i. -/
def okMasks (ops : Array Oper) (M : Array Nat) : Bool :=
  (List.range ops.size).all fun j => (List.range ops.size).all fun i => !(M.getD j 0).testBit i ||
    ((ops[j]?).map fun o => o.after.any fun e => Region.binds .any e && decide (e.on < j) && (e.on == i || (M.getD e.on 0).testBit i)).getD false

def Closed (ops : Array Oper) (listed : Array Bool) : Prop :=
  ∀ j oj, ops[j]? = some oj → listed.getD j false = true → ∀ e ∈ oj.after, Region.binds .any e = true → listed.getD e.on false = true

theorem anc_listed {M : Array Nat} (hM : okMasks ops M = true) {listed : Array Bool} (hc : Closed ops listed) : ∀ (j : Nat) (i : Nat) (oj : Oper), ops[j]? = some oj → i < ops.size →
    (∀ e ∈ oj.after, Region.binds .any e = true → listed.getD e.on false = true) → (M.getD j 0).testBit i = true → listed.getD i false = true := by
  intro j
  induction j using Nat.strongRecOn with
  | _ j ih =>
    intro i oj hj hi hall hb
    have hjl : j < ops.size := (Array.getElem?_eq_some_iff.1 hj).1
    have h1 := List.all_eq_true.1 (List.all_eq_true.1 hM j (List.mem_range.2 hjl)) i (List.mem_range.2 hi)
    simp only [hb, Bool.not_true, Bool.false_or, hj, Option.map_some, Option.getD_some] at h1
    obtain ⟨e, he, h2⟩ := Array.any_eq_true'.1 h1
    simp only [Bool.and_eq_true, Bool.or_eq_true, decide_eq_true_eq, beq_iff_eq] at h2
    obtain ⟨⟨h3, h4⟩, h5⟩ := h2
    have hl := hall e he h3
    rcases h5 with h5 | h5
    · rw [← h5]; exact hl
    · have : e.on < ops.size := by omega
      have he' : ops[e.on]? = some ops[e.on] := Array.getElem?_eq_getElem this
      exact ih e.on h4 i _ he' hi (hc e.on _ he' hl) h5

/-- Whatever order is picked: E: the effects; the others leave the world alone. -/
def wpAnyT (P : Program) (ops : Array Oper) (Q : Exit → Act → World → Prop) (E : Nat → Bool) : Nat → Array Bool → Act → World → Prop
  | 0, listed, a, w => Region.ready .any ops listed = [] ∧ Q .normal a w
  | fuel + 1, listed, a, w =>
    (Region.ready .any ops listed = [] → Q .normal a w) ∧
    ∀ i ∈ Region.ready .any ops listed, (E i = true → wpOp P ops Q i (wpAnyT P ops Q E fuel (listed.setIfInBounds i true)) a w) ∧
      (E i = false → stOp P ops w i (fun a' => wpAnyT P ops Q E fuel (listed.setIfInBounds i true) a' w) a)

variable {E : Nat → Bool}
theorem wpAny_of_T : ∀ (fuel : Nat) (listed : Array Bool) (a : Act) (w : World), wpAnyT P ops Q E fuel listed a w → wpAny P .any ops Q fuel listed a w
  | 0, _, _, _, h => h
  | fuel + 1, _, _, _, h => ⟨h.1, fun i hi => by
      cases hE : E i
      · exact wpOp_of_stOp (fun a' h' => wpAny_of_T fuel _ a' _ h') ((h.2 i hi).2 hE)
      · exact wpOp_mono (fun a' w' h' => wpAny_of_T fuel _ a' w' h') ((h.2 i hi).1 hE)⟩

theorem hnot_of {i j : Nat} {oj : Oper} {listed : Array Bool} (hr : listed.getD i true = false) (hall : ∀ e ∈ oj.after, Region.binds .any e = true → listed.getD e.on false = true) (_hj : ops[j]? = some oj) :
    ∀ e ∈ oj.after, Region.binds .any e = true → e.on ≠ i := fun e he hb heq => by
  have h1 := hall e he hb
  rw [heq] at h1
  rcases Nat.lt_or_ge i listed.size with h' | h'
  · simp [h'] at hr h1; rw [hr] at h1; cases h1
  · simp [Array.getElem?_eq_none h'] at h1

theorem free_next {i j : Nat} {oi : Oper} {listed : Array Bool} (hfree : ∀ k ok, ops[k]? = some ok → k ≠ i → listed.getD k true = false → (∀ e ∈ ok.after, Region.binds .any e = true → e.on ≠ i) → oi.apart ops ok = true) (hjun : listed.getD j true = false) :
    ∀ k ok, ops[k]? = some ok → k ≠ i → (listed.setIfInBounds j true).getD k true = false → (∀ e ∈ ok.after, Region.binds .any e = true → e.on ≠ i) → oi.apart ops ok = true := fun k ok hk hki hun hno => by
  refine hfree k ok hk hki ?_ hno
  by_cases hjk : j = k
  · subst hjk; exact hjun
  · rw [getD_set_ne true hjk] at hun; exact hun

theorem closed_set {listed : Array Bool} (hc : Closed ops listed) {i : Nat} {oi : Oper} (hi : ops[i]? = some oi) (hall : ∀ e ∈ oi.after, Region.binds .any e = true → listed.getD e.on false = true) : Closed ops (listed.setIfInBounds i true) := by
  intro j oj hj hl e he hb
  by_cases hij : i = j
  · subst hij
    have : oj = oi := Option.some.inj (hj.symm.trans hi)
    subst this
    exact getD_set_true (hall e he hb)
  · rw [getD_set_ne false hij] at hl
    exact getD_set_true (hc j oj hj hl e he hb)

/-- A still operation may be taken first, if every effect that has not come up waits for it. -/
theorem take_still {i : Nat} {oi : Oper} {v : Value} (hi : ops[i]? = some oi) (hEi : E i = false) (hsel : ∀ (j : Nat) (o : Oper) cs b, ops[j]? = some o → o.op ≠ .select cs b) {M : Array Nat} (hM : okMasks ops M = true) :
    ∀ (fuel : Nat) (listed : Array Bool) (a : Act) (w : World), Closed ops listed →
      (∀ j oj, ops[j]? = some oj → j ≠ i → listed.getD j true = false → (∀ e ∈ oj.after, Region.binds .any e = true → e.on ≠ i) → oi.apart ops oj = true) →
      (∀ j, j < ops.size → E j = true → listed.getD j true = false → (M.getD j 0).testBit i = true) →
      i ∈ Region.ready .any ops listed → YieldsAt P ops w oi v a →
      wpAnyT P ops Q E fuel (listed.setIfInBounds i true) (a.put oi.dst v) w → wpAnyT P ops Q E (fuel + 1) listed a w := by
  intro fuel
  induction fuel with
  | zero =>
    intro listed a w _ _ _ hr hy H
    refine ⟨fun h => (by rw [h] at hr; cases hr), fun j hj => ?_⟩
    by_cases hji : j = i
    · subst hji; exact ⟨fun h => (by rw [hEi] at h; cases h), fun _ => hy.stOp hi H⟩
    · have := ready_mono hj hji
      rw [H.1] at this
      cases this
  | succ fuel ih =>
    intro listed a w hc hfree hE hr hy H
    refine ⟨fun h => (by rw [h] at hr; cases hr), fun j hj => ?_⟩
    by_cases hji : j = i
    · subst hji; exact ⟨fun h => (by rw [hEi] at h; cases h), fun _ => hy.stOp hi H⟩
    · obtain ⟨hjun, oj, hoj, hall⟩ := mem_ready.1 hj
      have hun := (mem_ready.1 hr).1
      have hil : i < ops.size := (Array.getElem?_eq_some_iff.1 hi).1
      have hjl : j < ops.size := (Array.getElem?_eq_some_iff.1 hoj).1
      refine ⟨fun hEj => ?_, fun hEj => ?_⟩
      · have h1 := anc_listed hM hc j i oj hoj hil hall (hE j hjl hEj hjun)
        rcases Nat.lt_or_ge i listed.size with h' | h'
        · simp [h'] at hun h1; rw [hun] at h1; cases h1
        · simp [Array.getElem?_eq_none h'] at h1
      · have h1 := (H.2 j (ready_mono hj hji)).2 hEj
        have hnot := hnot_of hun hall hoj
        have h2 := stOp_put hoj (hfree j oj hoj hji hjun hnot) (fun cs b => hsel i oi cs b hi) (fun cs b => hsel j oj cs b hoj) hy h1
        refine stOp_mono (fun a' h3 => ih (listed.setIfInBounds j true) a' w (closed_set hc hoj hall) (free_next hfree hjun) (fun k hk hEk hunk => ?_) (ready_mono hr (Ne.symm hji)) h3.1 ?_) h2
        · refine hE k hk hEk ?_
          by_cases hjk : j = k
          · subst hjk; exact hjun
          · rw [getD_set_ne true hjk] at hunk; exact hunk
        · rw [Array.setIfInBounds_comm _ _ hji]
          exact h3.2

theorem Yields.at {o : Oper} {v : Value} {a : Act} (h : Yields P ops o v a) (w : World) : YieldsAt P ops w o v a := h.imp (fun ⟨hw, hv⟩ => ⟨hw, .inl (hv w)⟩) id
theorem stOp_putA {j : Nat} {w : World} {oi oj : Oper} {v : Value} (hj : ops[j]? = some oj) (hap : oi.apart ops oj = true)
    (hsi : ∀ cs b, oi.op ≠ .select cs b) (hsj : ∀ cs b, oj.op ≠ .select cs b) {K : Act → Prop} {a : Act}
    (hy : Yields P ops oi v a) (h : stOp P ops w j K (a.put oi.dst v)) :
    stOp P ops w j (fun a' => Yields P ops oi v a' ∧ K (a'.put oi.dst v)) a := by
  obtain ⟨h1, h2, h3⟩ := Oper.apart_spec hap
  have keep : ∀ (a : Act), Yields P ops oi v a → ∀ u, Yields P ops oi v (a.put oj.dst u) := fun a hy u =>
    hy.of_same (execOp_put oi hsi a oj.dst u h3) (wanted_put oi a oj.dst u h3)
  unfold stOp at *
  simp only [hj] at *
  rw [wanted_put oj a oi.dst v h1] at h
  split
  · rename_i hw
    simp only [hw, if_true] at h
    unfold Oper.still at *
    rw [execOp_put oj hsj a oi.dst v h1] at h
    generalize (execOp a.eval oj).run P w = r at *
    cases r with
    | ok n w' =>
      cases n <;> simp only [Oper.stillUpon] at h ⊢
      case value u => exact ⟨h.1, keep a hy u, by rw [← Act.put_comm a v u h2]; exact h.2⟩
      case skip => exact ⟨h.1, keep a hy _, by rw [← Act.put_comm a v undef h2]; exact h.2⟩
      case enter f args => obtain ⟨hw', u, hc, hn⟩ := h; exact ⟨hw', u, hc, keep a hy u, by rw [← Act.put_comm a v u h2]; exact hn⟩
    | halt x w' => simp only [Oper.stillUpon] at h
  · rename_i hw
    simp only [hw] at h
    exact ⟨keep a hy _, by rw [← Act.put_comm a v undef h2]; exact h⟩

/-- A bare move may be taken first. -/
theorem take_move {i : Nat} {oi : Oper} {v : Value} (hi : ops[i]? = some oi) (hEi : E i = false) (hsel : ∀ (j : Nat) (o : Oper) cs b, ops[j]? = some o → o.op ≠ .select cs b)
    (hQ : ∀ c a w, Q (.panic c) (a.put oi.dst v) w → Q (.panic c) a w) :
    ∀ (fuel : Nat) (listed : Array Bool) (a : Act) (w : World),
      (∀ j oj, ops[j]? = some oj → j ≠ i → listed.getD j true = false → (∀ e ∈ oj.after, Region.binds .any e = true → e.on ≠ i) → oi.apart ops oj = true) →
      i ∈ Region.ready .any ops listed → Yields P ops oi v a →
      wpAnyT P ops Q E fuel (listed.setIfInBounds i true) (a.put oi.dst v) w → wpAnyT P ops Q E (fuel + 1) listed a w := by
  intro fuel
  induction fuel with
  | zero =>
    intro listed a w _ hr hy H
    refine ⟨fun h => (by rw [h] at hr; cases hr), fun j hj => ?_⟩
    by_cases hji : j = i
    · subst hji; exact ⟨fun h => (by rw [hEi] at h; cases h), fun _ => (Yields.at hy w).stOp hi H⟩
    · have := ready_mono hj hji
      rw [H.1] at this
      cases this
  | succ fuel ih =>
    intro listed a w hfree hr hy H
    refine ⟨fun h => (by rw [h] at hr; cases hr), fun j hj => ?_⟩
    by_cases hji : j = i
    · subst hji; exact ⟨fun h => (by rw [hEi] at h; cases h), fun _ => (Yields.at hy w).stOp hi H⟩
    · obtain ⟨hjun, oj, hoj, hall⟩ := mem_ready.1 hj
      have hun := (mem_ready.1 hr).1
      have hnot := hnot_of hun hall hoj
      have h1 := H.2 j (ready_mono hj hji)
      refine ⟨fun hEj => ?_, fun hEj => ?_⟩
      · have h2 := wpOp_put hoj (hfree j oj hoj hji hjun hnot) (fun cs b => hsel i oi cs b hi) (fun cs b => hsel j oj cs b hoj) hQ hy (h1.1 hEj)
        refine wpOp_mono (fun a' w' h3 => ih (listed.setIfInBounds j true) a' w' (free_next hfree hjun) (ready_mono hr (Ne.symm hji)) h3.1 ?_) h2
        rw [Array.setIfInBounds_comm _ _ hji]
        exact h3.2
      · have h2 := stOp_putA hoj (hfree j oj hoj hji hjun hnot) (fun cs b => hsel i oi cs b hi) (fun cs b => hsel j oj cs b hoj) hy (h1.2 hEj)
        refine stOp_mono (fun a' h3 => ih (listed.setIfInBounds j true) a' w (free_next hfree hjun) (ready_mono hr (Ne.symm hji)) h3.1 ?_) h2
        rw [Array.setIfInBounds_comm _ _ hji]
        exact h3.2

/-- A bare move? -/
def isMove (o : Oper) : Bool := match o.op with | .move _ | .assign _ => true | _ => false
theorem yields_move {o : Oper} {a : Act} (h : isMove o = true) : ∃ v, Yields P ops o v a := by
  by_cases hw : Region.wanted o (yielded ops a.tmps) = true
  · unfold isMove at h
    split at h
    · rename_i x hx; exact ⟨a.eval x, .inl ⟨hw, fun w => by simp [execOp, hx]⟩⟩
    · rename_i x hx; exact ⟨a.eval x, .inl ⟨hw, fun w => by simp [execOp, hx]⟩⟩
    · cases h
  · exact ⟨undef, .inr ⟨by simpa using hw, rfl⟩⟩
theorem yat_eq {o : Oper} {a : Act} {w : World} {v u : Value} (h : YieldsAt P ops w o v a) (hu : Yields P ops o u a) : v = u := by
  rcases hu with ⟨hw, hv⟩ | ⟨hw, rfl⟩
  · have hv := hv w
    rcases h with ⟨_, h1 | ⟨h1, _⟩ | ⟨f, args, h1, _⟩⟩ | ⟨hw', _⟩
    · rw [hv] at h1; injection h1 with h1; injection h1 with h1; exact h1.symm
    · rw [hv] at h1; injection h1 with h1; cases h1
    · rw [hv] at h1; injection h1 with h1; cases h1
    · rw [hw] at hw'; cases hw'
  · rcases h with ⟨hw', _⟩ | ⟨_, rfl⟩
    · rw [hw] at hw'; cases hw'
    · rfl

/-- The walk in the order of the text, from operation k on; E: the effects. -/
def wpLex (P : Program) (ops : Array Oper) (Q : Exit → Act → World → Prop) (E : Nat → Bool) : List Oper → Nat → Act → World → Prop
  | [], _, a, w => Q .normal a w
  | _ :: rest, k, a, w => (E k = true → wpOp P ops Q k (wpLex P ops Q E rest (k + 1)) a w) ∧ (E k = false → stOp P ops w k (fun a' => wpLex P ops Q E rest (k + 1) a' w) a)

def stepOk (ops : Array Oper) (M : Array Nat) (E : Nat → Bool) (listed : Array Bool) (i : Nat) : Bool :=
  if E i then Region.ready .any ops listed == [i]
  else (Region.ready .any ops listed).contains i && Region.free .any ops listed i &&
    (((ops[i]?).map isMove).getD false || (List.range ops.size).all fun j => !E j || listed.getD j true || (M.getD j 0).testBit i)
def lexOk (ops : Array Oper) (M : Array Nat) (E : Nat → Bool) : Nat → Nat → Array Bool → Bool
  | 0, _, listed => Region.ready .any ops listed == []
  | n + 1, k, listed => stepOk ops M E listed k && lexOk ops M E n (k + 1) (listed.setIfInBounds k true)

theorem wpAnyT_lex (hsel : Region.noSelect ops = true) {M : Array Nat} (hM : okMasks ops M = true) (hQ : ∀ (d : Option Tmp) (v : Value) (c : List PanicEntry) (a : Act) (w : World), Q (.panic c) (a.put d v) w → Q (.panic c) a w) :
    ∀ (l : List Oper) (k : Nat) (listed : Array Bool) (a : Act) (w : World), (∀ j, l[j]? = ops[k + j]?) → Closed ops listed → lexOk ops M E l.length k listed = true →
      wpLex P ops Q E l k a w → wpAnyT P ops Q E l.length listed a w
  | [], k, listed, a, w, _, _, hok, h => ⟨by simpa [lexOk] using hok, h⟩
  | o :: l, k, listed, a, w, hl, hc, hok, h => by
    simp only [List.length_cons, lexOk, Bool.and_eq_true] at hok
    obtain ⟨h1, h2⟩ := hok
    have hk : ops[k]? = some o := by simpa using (hl 0).symm
    have hkl : k < ops.size := (Array.getElem?_eq_some_iff.1 hk).1
    have hl' : ∀ j, l[j]? = ops[k + 1 + j]? := fun j => by have := hl (j + 1); simpa [Nat.add_assoc, Nat.add_comm 1 j] using this
    unfold stepOk at h1
    cases hE : E k
    · rw [hE] at h1
      simp only [Bool.false_eq_true, if_false, Bool.and_eq_true] at h1
      obtain ⟨⟨hr, hf⟩, hkind⟩ := h1
      have hr' : k ∈ Region.ready .any ops listed := by simpa using hr
      obtain ⟨_, oj, hoj, hall⟩ := mem_ready.1 hr'
      obtain rfl : oj = o := Option.some.inj (hoj.symm.trans hk)
      obtain ⟨v, hy, hn⟩ := yieldsAt_of_stOp hk (h.2 hE)
      have ih := wpAnyT_lex hsel hM hQ l (k + 1) (listed.setIfInBounds k true) (a.put oj.dst v) w hl' (closed_set hc hk hall) h2 hn
      simp only [hk, Option.map_some, Option.getD_some, Bool.or_eq_true] at hkind
      rcases hkind with hmv | hall2
      · obtain ⟨u, hu⟩ := yields_move (P := P) (ops := ops) (a := a) hmv
        obtain rfl := yat_eq hy hu
        exact take_move hk hE (Region.noSelect_spec hsel) (fun c a w => hQ oj.dst v c a w) l.length listed a w (Region.free_spec hk hf) hr' hu ih
      · refine take_still hk hE (Region.noSelect_spec hsel) hM l.length listed a w hc (Region.free_spec hk hf) (fun j hj hEj hun => ?_) hr' hy ih
        have h3 := List.all_eq_true.1 hall2 j (List.mem_range.2 hj)
        simpa [hEj, hun] using h3
    · rw [hE] at h1
      simp only [if_true, beq_iff_eq] at h1
      have hr' : k ∈ Region.ready .any ops listed := by rw [h1]; simp
      obtain ⟨_, oj, hoj, hall⟩ := mem_ready.1 hr'
      refine ⟨fun h0 => (by rw [h1] at h0; cases h0), fun i hi => ?_⟩
      rw [h1] at hi
      obtain rfl : i = k := by simpa using hi
      refine ⟨fun _ => ?_, fun h0 => (by rw [hE] at h0; cases h0)⟩
      exact wpOp_mono (fun a' w' h' => wpAnyT_lex hsel hM hQ l (i + 1) _ a' w' hl' (closed_set hc hoj hall) h2 h') (h.1 hE)

theorem closed_none (n : Nat) : Closed ops (Array.replicate n false) := by
  intro j oj _ hl
  rcases Nat.lt_or_ge j n with h | h
  · simp [h] at hl
  · simp [h] at hl

theorem lex_still {w : World} {rest : List Oper} : ∀ (ss : List Oper) (k : Nat) (a : Act), (∀ j, (ss ++ rest)[j]? = ops[k + j]?) → (∀ j, k ≤ j → j < k + ss.length → E j = false) →
    wpStill P ops w (fun a' => wpLex P ops Q E rest (k + ss.length) a' w) ss a → wpLex P ops Q E (ss ++ rest) k a w
  | [], _, _, _, _, h => h
  | o :: ss, k, a, hl, hE, h => by
    have hk : ops[k]? = some o := by simpa using (hl 0).symm
    have hEk := hE k (Nat.le_refl _) (by simp)
    refine ⟨fun h0 => (by rw [hEk] at h0; cases h0), fun _ => ?_⟩
    have hl' : ∀ j, (ss ++ rest)[j]? = ops[k + 1 + j]? := fun j => by have := hl (j + 1); simpa [Nat.add_assoc, Nat.add_comm 1 j] using this
    have hE' : ∀ j, k + 1 ≤ j → j < k + 1 + ss.length → E j = false := fun j h1 h2 => hE j (by omega) (by simp; omega)
    have e : k + 1 + ss.length = k + (o :: ss).length := by simp; omega
    have ih := fun a' => lex_still (w := w) (rest := rest) ss (k + 1) a' hl' hE'
    rw [e] at ih
    unfold stOp
    simp only [hk]
    unfold wpStill at h
    split
    · rename_i hw; rw [if_pos hw] at h; exact Oper.still_mono ih h
    · rename_i hw; rw [if_neg hw] at h; exact ih _ h

theorem lex_effects {rest : List Oper} : ∀ (es : List Oper) (k : Nat) (a : Act) (w : World), (∀ j, (es ++ rest)[j]? = ops[k + j]?) → (∀ j, k ≤ j → j < k + es.length → E j = true) →
    wpList P ops (Exit.then (wpLex P ops Q E rest (k + es.length)) Q) es a w → wpLex P ops Q E (es ++ rest) k a w
  | [], _, _, _, _, _, h => h
  | o :: es, k, a, w, hl, hE, h => by
    have hk : ops[k]? = some o := by simpa using (hl 0).symm
    have hEk := hE k (Nat.le_refl _) (by simp)
    refine ⟨fun _ => ?_, fun h0 => (by rw [hEk] at h0; cases h0)⟩
    have hl' : ∀ j, (es ++ rest)[j]? = ops[k + 1 + j]? := fun j => by have := hl (j + 1); simpa [Nat.add_assoc, Nat.add_comm 1 j] using this
    have hE' : ∀ j, k + 1 ≤ j → j < k + 1 + es.length → E j = true := fun j h1 h2 => hE j (by omega) (by simp; omega)
    have e : k + 1 + es.length = k + (o :: es).length := by simp; omega
    have ih := fun a' w' => lex_effects (rest := rest) es (k + 1) a' w' hl' hE'
    rw [e] at ih
    unfold wpOp
    simp only [hk]
    unfold wpList at h
    split
    · rename_i hw
      rw [if_pos hw] at h
      rcases h with h | ⟨h1, a0, w0, h2⟩
      · refine .inl ?_
        have h3 := Oper.wp_mono (P := P) (K' := wpLex P ops Q E (es ++ rest) (k + 1)) ih h
        unfold Oper.wp at h3 ⊢
        generalize (execOp a.eval o).run P w = r at *
        cases r with
        | ok n w' =>
          cases n <;> simp only [Oper.upon] at h3 ⊢ <;> first | exact h3 | exact Calls.mono h3 (fun e w'' he => by cases e <;> exact he)
        | halt x w' => cases x <;> simp only [Oper.upon] at h3 ⊢ <;> exact h3
      · exact .inr ⟨h1, a0, w0, h2⟩
    · rename_i hw; rw [if_neg hw] at h; exact ih _ _ h

theorem wpStill_mono {w : World} {Q1 Q2 : Act → Prop} (hq : ∀ a, Q1 a → Q2 a) : ∀ (l : List Oper) (a : Act), wpStill P ops w Q1 l a → wpStill P ops w Q2 l a
  | [], a, h => hq a h
  | o :: l, a, h => by
    unfold wpStill at *
    split
    · rename_i hw; rw [if_pos hw] at h; exact Oper.still_mono (wpStill_mono hq l) h
    · rename_i hw; rw [if_neg hw] at h; exact wpStill_mono hq l _ h

/-- THE LAW: n still operations, then effects to the end. -/
def tailOk (l : List Oper) (n : Nat) : Bool :=
  let ops := l.toArray
  let M := Region.before ops
  Region.noSelect ops && okMasks ops M && decide (n ≤ l.length) && lexOk ops M (fun i => decide (n ≤ i)) l.length 0 (Array.replicate l.length false)
theorem wp_tail {id : Nat} {l : List Oper} (n : Nat) {a : Act} {w : World} (hm : P.follows .mixedOrders = true) (hok : tailOk l n = true)
    (hQ : ∀ (d : Option Tmp) (v : Value) (c : List PanicEntry) (a : Act) (w : World), Q (.panic c) (a.put d v) w → Q (.panic c) a w)
    (h : wpStill P l.toArray w.drew (fun a' => wpList P l.toArray Q (l.drop n) a' w.drew) (l.take n) a) : (Code.region id l.toArray true).wp P Q a w := by
  simp only [tailOk, Bool.and_eq_true, decide_eq_true_eq] at hok
  obtain ⟨⟨⟨h1, h2⟩, h3⟩, h4⟩ := hok
  refine wp_region_any hm (wpAny_of_T (E := fun i => decide (n ≤ i)) _ _ _ _ ?_)
  have hlex : wpLex P l.toArray Q (fun i => decide (n ≤ i)) l 0 a w.drew := by
    have h5 := lex_still (P := P) (ops := l.toArray) (Q := Q) (E := fun i => decide (n ≤ i)) (w := w.drew) (rest := l.drop n) (l.take n) 0 a (fun j => by simp [List.take_append_drop]) (fun j _ hj => by simp at hj ⊢; omega)
    rw [List.take_append_drop] at h5
    refine h5 (wpStill_mono (fun a' h6 => ?_) _ _ h)
    have h7 := lex_effects (P := P) (ops := l.toArray) (Q := Q) (E := fun i => decide (n ≤ i)) (rest := []) (l.drop n) n a' w.drew (fun j => by simp) (fun j hj _ => by simpa using hj)
    rw [List.append_nil] at h7
    have e : 0 + (l.take n).length = n := by simp; omega
    rw [e]
    refine h7 ?_
    have e2 : (Exit.then (wpLex P l.toArray Q (fun i => decide (n ≤ i)) [] (n + (l.drop n).length)) Q) = Q := by
      funext x y z; cases x <;> rfl
    rw [e2]
    exact h6
  have := wpAnyT_lex (P := P) (ops := l.toArray) (E := fun i => decide (n ≤ i)) h1 h2 hQ l 0 (Array.replicate l.length false) a w.drew (fun j => by simp) (closed_none _) h4 hlex
  simpa using this
end Ord
end Go.Proofs.Ytddfphneidcibaa
