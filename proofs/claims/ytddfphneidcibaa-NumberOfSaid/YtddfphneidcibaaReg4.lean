/-
  A DRAWING REGION WITH QUIET READS: reads behind which every effect waits are shown in the world as it is; the other reads in every world in which only S and new blocks differ; effects in order.
-/
import Derived.Test.YtddfphneidcibaaReg2
namespace Go.Proofs.Ytddfphneidcibaa
open Go.RowKit
namespace Reg
variable {P : Program} {ops : Array Oper} {Q : Exit → Act → World → Prop} {E : Nat → Bool} {S : List Nat}

theorem YieldsAt.keepQ {w : World} {oi oj : Oper} {v : Value} (hap : oi.apart ops oj = true) (hsi : ∀ cs b, oi.op ≠ .select cs b) (a : Act) (u : Value) (h : YieldsAt P ops w oi v a) : YieldsAt P ops w oi v (a.put oj.dst u) := by
  obtain ⟨_, _, h3⟩ := Oper.apart_spec hap
  exact h.of_same (execOp_put oi hsi a oj.dst u h3) (wanted_put oi a oj.dst u h3)

theorem takeQ {i : Nat} {oi : Oper} {v : Value} (hi : ops[i]? = some oi) (hEi : E i = false) (hsel : ∀ (j : Nat) (o : Oper) cs b, ops[j]? = some o → o.op ≠ .select cs b) :
    ∀ (fuel : Nat) (listed : Array Bool) (a : Act) (w : World),
      (∀ j oj, ops[j]? = some oj → j ≠ i → listed.getD j true = false → (∀ e ∈ oj.after, Region.binds .any e = true → e.on ≠ i) → oi.apart ops oj = true) →
      (∀ j oj, ops[j]? = some oj → E j = true → listed.getD j true = false → ∃ e ∈ oj.after, Region.binds .any e = true ∧ e.on = i) →
      i ∈ Region.ready .any ops listed → YieldsAt P ops w oi v a →
      wpAnyX P ops Q E S fuel (listed.setIfInBounds i true) (a.put oi.dst v) w → wpAnyX P ops Q E S (fuel + 1) listed a w := by
  intro fuel
  induction fuel with
  | zero =>
    intro listed a w _ _ hr hy H
    refine ⟨fun h => (by rw [h] at hr; cases hr), fun j hj => ?_⟩
    by_cases hji : j = i
    · subst hji; exact ⟨fun h => (by rw [hEi] at h; cases h), fun _ => hy.stOp hi H⟩
    · have := ready_mono hj hji
      rw [H.1] at this
      cases this
  | succ fuel ih =>
    intro listed a w hfree hblk hr hy H
    refine ⟨fun h => (by rw [h] at hr; cases hr), fun j hj => ?_⟩
    by_cases hji : j = i
    · subst hji; exact ⟨fun h => (by rw [hEi] at h; cases h), fun _ => hy.stOp hi H⟩
    · obtain ⟨hjun, oj, hoj, hall⟩ := mem_ready.1 hj
      have hun := (mem_ready.1 hr).1
      have hnot := Ord.hnot_of hun hall hoj
      have h1 := H.2 j (ready_mono hj hji)
      have hap := hfree j oj hoj hji hjun hnot
      refine ⟨fun hEj => ?_, fun hEj => ?_⟩
      · obtain ⟨e, he, hb, ho⟩ := hblk j oj hoj hEj hjun
        exact absurd ho (hnot e he hb)
      · have h2 := stOp_putG (Y := fun a => YieldsAt P ops w oi v a) hoj hap (fun cs b => hsel j oj cs b hoj) (fun a u h => YieldsAt.keepQ hap (fun cs b => hsel i oi cs b hi) a u h) hy (h1.2 hEj)
        refine stOp_mono (fun a' h3 => ih (listed.setIfInBounds j true) a' w (Ord.free_next hfree hjun) (fun k ok hk hEk hlk => hblk k ok hk hEk (by
          by_cases hjk : j = k
          · subst hjk; exact hjun
          · rw [getD_set_ne true hjk] at hlk; exact hlk)) (ready_mono hr (Ne.symm hji)) h3.1 ?_) h2
        rw [Array.setIfInBounds_comm _ _ hji]
        exact h3.2

inductive Sq where
  | r (i : Nat)
  | q (i : Nat)
  | e (i : Nat)
def effQ : List Sq → Nat → Bool
  | [], _ => false
  | .r _ :: ss, i => effQ ss i
  | .q _ :: ss, i => effQ ss i
  | .e j :: ss, i => (j == i) || effQ ss i
def pickQ (l : List Oper) : List Sq → List (Nat × Oper)
  | [] => []
  | .r i :: ns => (0, l.getD i default) :: pickQ l ns
  | .q i :: ns => (1, l.getD i default) :: pickQ l ns
  | .e i :: ns => (2, l.getD i default) :: pickQ l ns
def wpQ (P : Program) (ops : Array Oper) (Q : Exit → Act → World → Prop) (S : List Nat) : List (Nat × Oper) → Act → World → Prop
  | [], a, w => wpList P ops Q [] a w
  | (0, o) :: rest, a, w => ∃ v, YieldsX P ops S w o v a ∧ wpQ P ops Q S rest (a.put o.dst v) w
  | (1, o) :: rest, a, w => ∃ v, YieldsAt P ops w o v a ∧ wpQ P ops Q S rest (a.put o.dst v) w
  | (_ + 2, o) :: rest, a, w => wpList P ops (Exit.then (Nx S w (wpQ P ops Q S rest)) Q) [o] a w

/-- Does every effect that is not listed wait for i? -/
def waits (ops : Array Oper) (E : Nat → Bool) (listed : Array Bool) (i : Nat) : Bool :=
  (List.range ops.size).all fun j => !(E j) || listed.getD j true || ((ops.getD j default).after.any fun e => Region.binds .any e && (e.on == i))
theorem waits_spec {listed : Array Bool} {i : Nat} (h : waits ops E listed i = true) (j : Nat) (oj : Oper) (hj : ops[j]? = some oj) (hE : E j = true) (hl : listed.getD j true = false) : ∃ e ∈ oj.after, Region.binds .any e = true ∧ e.on = i := by
  have hlt : j < ops.size := by
    rcases Nat.lt_or_ge j ops.size with h' | h'
    · exact h'
    · rw [Array.getElem?_eq_none h'] at hj; cases hj
  have h1 := List.all_eq_true.1 h j (List.mem_range.2 hlt)
  have hd : ops.getD j default = oj := by simp [Array.getD, hlt] at hj ⊢; exact hj
  rw [hE, hl, hd] at h1
  simp only [Bool.not_true, Bool.false_or, Array.any_eq_true] at h1
  obtain ⟨k, hk, h2⟩ := h1
  simp only [Bool.and_eq_true, beq_iff_eq] at h2
  exact ⟨oj.after[k], Array.getElem_mem hk, h2.1, h2.2⟩

def qOk (ops : Array Oper) (E : Nat → Bool) : List Sq → Array Bool → Bool
  | [], listed => Region.ready .any ops listed == []
  | .r i :: ss, listed => decide (i < ops.size) && (E i == false) && (Region.ready .any ops listed).contains i && Region.free .any ops listed i && qOk ops E ss (listed.setIfInBounds i true)
  | .q i :: ss, listed => decide (i < ops.size) && (E i == false) && (Region.ready .any ops listed).contains i && Region.free .any ops listed i && waits ops E listed i && qOk ops E ss (listed.setIfInBounds i true)
  | .e i :: ss, listed => decide (i < ops.size) && (E i == true) && (Region.ready .any ops listed == [i]) && qOk ops E ss (listed.setIfInBounds i true)

theorem effStepQ {l : List Oper} (hl : ops = l.toArray) {i : Nat} (hi : i < ops.size) {K K' : Act → World → Prop} {a : Act} {w : World} (hK : ∀ a' w', K a' w' → K' a' w')
    (h' : wpList P ops (Exit.then (Nx S w K) Q) [l.getD i default] a w) : wpOp P ops Q i (Nx S w K') a w := by
  have hgi : ops[i]? = some (l.getD i default) := by
    subst hl
    have : i < l.length := by simpa using hi
    simp [List.getD, this]
  have ih : ∀ a' w', Nx S w K a' w' → Nx S w K' a' w' := fun a' w' h' => ⟨h'.1, hK a' w' h'.2⟩
  unfold wpOp
  simp only [hgi]
  unfold wpList at h'
  split
  · rename_i hw
    rw [if_pos hw] at h'
    rcases h' with h' | ⟨h1, a0, w0, h3⟩
    · refine .inl ?_
      have h3 := Oper.wp_mono (P := P) (K' := Nx S w K') (fun a' w' h4 => ih a' w' h4) h'
      unfold Oper.wp at h3 ⊢
      generalize (execOp a.eval (l.getD i default)).run P w = r at *
      cases r with
      | ok n w' =>
        cases n <;> simp only [Oper.upon] at h3 ⊢ <;> first | exact h3 | exact Calls.mono h3 (fun e w'' he => by cases e <;> exact he)
      | halt x w' => cases x <;> simp only [Oper.upon] at h3 ⊢ <;> exact h3
    · exact .inr ⟨h1, a0, w0, h3⟩
  · rename_i hw; rw [if_neg hw] at h'; exact ih _ _ h'

theorem wpAnyX_q {l : List Oper} (hl : ops = l.toArray) (hsel : Region.noSelect ops = true) (hQ : ∀ (d : Option Tmp) (v : Value) (c : List PanicEntry) (a : Act) (w : World), Q (.panic c) (a.put d v) w → Q (.panic c) a w) :
    ∀ (ss : List Sq) (listed : Array Bool) (a : Act) (w : World), qOk ops E ss listed = true → wpQ P ops Q S (pickQ l ss) a w → wpAnyX P ops Q E S ss.length listed a w
  | [], listed, a, w, hok, h => ⟨by simpa [qOk] using hok, h⟩
  | .r i :: ss, listed, a, w, hok, h => by
    simp only [qOk, Bool.and_eq_true, beq_iff_eq, decide_eq_true_eq] at hok
    obtain ⟨⟨⟨⟨hi, hE⟩, hr⟩, hf⟩, h2⟩ := hok
    obtain ⟨v, hy, hn⟩ := h
    have hgi : ops[i]? = some (l.getD i default) := by
      subst hl
      have : i < l.length := by simpa using hi
      simp [List.getD, this]
    exact take hgi hE (Region.noSelect_spec hsel) (fun c a w => hQ _ v c a w) ss.length listed a w (Region.free_spec hgi hf) (by simpa using hr) hy (wpAnyX_q hl hsel hQ ss _ _ w h2 hn)
  | .q i :: ss, listed, a, w, hok, h => by
    simp only [qOk, Bool.and_eq_true, beq_iff_eq, decide_eq_true_eq] at hok
    obtain ⟨⟨⟨⟨⟨hi, hE⟩, hr⟩, hf⟩, hw⟩, h2⟩ := hok
    obtain ⟨v, hy, hn⟩ := h
    have hgi : ops[i]? = some (l.getD i default) := by
      subst hl
      have : i < l.length := by simpa using hi
      simp [List.getD, this]
    exact takeQ hgi hE (Region.noSelect_spec hsel) ss.length listed a w (Region.free_spec hgi hf) (waits_spec hw) (by simpa using hr) hy (wpAnyX_q hl hsel hQ ss _ _ w h2 hn)
  | .e i :: ss, listed, a, w, hok, h => by
    simp only [qOk, Bool.and_eq_true, beq_iff_eq, decide_eq_true_eq] at hok
    obtain ⟨⟨⟨hi, hE⟩, hr⟩, h2⟩ := hok
    refine ⟨fun h0 => (by rw [hr] at h0; cases h0), fun j hj => ?_⟩
    rw [hr] at hj
    obtain rfl : j = i := by simpa using hj
    refine ⟨fun _ => ?_, fun h0 => (by rw [hE] at h0; cases h0)⟩
    exact effStepQ hl hi (fun a' w' h' => wpAnyX_q hl hsel hQ ss _ a' w' h2 h') h

def okQ (l : List Oper) (ss : List Sq) : Bool := Region.noSelect l.toArray && decide (ss.length = l.length) && qOk l.toArray (effQ ss) ss (Array.replicate l.length false)
/-- THE LAW. -/
theorem wpQL {id : Nat} {l : List Oper} (S : List Nat) (ss : List Sq) {a : Act} {w : World} (hm : P.follows .mixedOrders = true) (hok : okQ l ss = true)
    (hQ : ∀ (d : Option Tmp) (v : Value) (c : List PanicEntry) (a : Act) (w : World), Q (.panic c) (a.put d v) w → Q (.panic c) a w)
    (h : wpQ P l.toArray Q S (pickQ l ss) a w.drew) : (Code.region id l.toArray true).wp P Q a w := by
  simp only [okQ, Bool.and_eq_true, decide_eq_true_eq] at hok
  obtain ⟨⟨h1, h2⟩, h3⟩ := hok
  refine wp_region_any hm (wpAny_of_X (E := effQ ss) (S := S) _ _ _ _ ?_)
  have := wpAnyX_q (P := P) (Q := Q) (S := S) rfl h1 hQ ss (Array.replicate l.length false) a w.drew h3 h
  rw [h2] at this
  simpa using this

theorem readX {a : Act} {w : World} {o : Oper} {rest : List (Nat × Oper)} (v : Value)
    (h : ∀ (t : { w' : World // Only S w w' }) (K : Value → Prop), (∀ u, u = v → K u) → if Region.wanted o (yielded ops a.tmps) = true then stillV P o a (extS S w t) K else K undef)
    (b : Act) (ha : ∀ K : Act → Prop, (∀ u, u = b → K u) → K (a.put o.dst v)) (hn : wpQ P ops Q S rest b w) : wpQ P ops Q S ((0, o) :: rest) a w := by
  refine ⟨v, fun w' hw => ?_, ha (fun x => wpQ P ops Q S rest x w) (fun u hu => by rw [hu]; exact hn)⟩
  have h1 := h ⟨w', hw⟩ (fun u => u = v) (fun _ h => h)
  split at h1
  · rename_i hwt
    unfold stillV at h1
    simp only [extS] at h1
    generalize hr : (execOp a.eval o).run P w' = r at h1
    cases r with
    | ok n w'' =>
      cases n <;> simp only [stillVUpon] at h1
      case value u => obtain ⟨rfl, rfl⟩ := h1; exact .inl ⟨hwt, .inl hr⟩
      case skip => obtain ⟨rfl, rfl⟩ := h1; exact .inl ⟨hwt, .inr (.inl ⟨hr, rfl⟩)⟩
      case enter f args => obtain ⟨rfl, u, hc, rfl⟩ := h1; exact .inl ⟨hwt, .inr (.inr ⟨f, args, hr, hc⟩)⟩
    | halt x w'' => simp only [stillVUpon] at h1
  · rename_i hwt
    exact .inr ⟨by simpa using hwt, h1.symm⟩
theorem readQ {a : Act} {w : World} {o : Oper} {rest : List (Nat × Oper)} (v : Value)
    (h : ∀ K : Value → Prop, (∀ u, u = v → K u) → if Region.wanted o (yielded ops a.tmps) = true then stillV P o a w K else K undef)
    (b : Act) (ha : ∀ K : Act → Prop, (∀ u, u = b → K u) → K (a.put o.dst v)) (hn : wpQ P ops Q S rest b w) : wpQ P ops Q S ((1, o) :: rest) a w := by
  refine ⟨v, ?_, ha (fun x => wpQ P ops Q S rest x w) (fun u hu => by rw [hu]; exact hn)⟩
  have h1 := h (fun u => u = v) (fun _ h => h)
  split at h1
  · rename_i hwt
    unfold stillV at h1
    generalize hr : (execOp a.eval o).run P w = r at h1
    cases r with
    | ok n w'' =>
      cases n <;> simp only [stillVUpon] at h1
      case value u => obtain ⟨rfl, rfl⟩ := h1; exact .inl ⟨hwt, .inl hr⟩
      case skip => obtain ⟨rfl, rfl⟩ := h1; exact .inl ⟨hwt, .inr (.inl ⟨hr, rfl⟩)⟩
      case enter f args => obtain ⟨rfl, u, hc, rfl⟩ := h1; exact .inl ⟨hwt, .inr (.inr ⟨f, args, hr, hc⟩)⟩
    | halt x w'' => simp only [stillVUpon] at h1
  · rename_i hwt
    exact .inr ⟨by simpa using hwt, h1.symm⟩
theorem effQL {a : Act} {w : World} {o : Oper} {rest : List (Nat × Oper)} (h : wpList P ops (Exit.then (Nx S w (wpQ P ops Q S rest)) Q) [o] a w) : wpQ P ops Q S ((2, o) :: rest) a w := h
theorem finQ {a : Act} {w : World} (h : wpList P ops Q [] a w) : wpQ P ops Q S [] a w := h
end Reg
end Go.Proofs.Ytddfphneidcibaa
