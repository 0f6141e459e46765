/-
  A DRAWING REGION WITH QUIET READS AND TWO KINDS OF EFFECTS: effects that only make new blocks, and effects that may change the blocks S; a quiet read is one for which every effect of the second kind waits.
-/
import Derived.Test.YtddfphneidcibaaReg2
namespace Go.Proofs.Ytddfphneidcibaa
open Go.RowKit
namespace Reg
variable {P : Program} {ops : Array Oper} {Q : Exit → Act → World → Prop} {E : Nat → Nat} {S : List Nat}

/-- What an effect of a kind may change. -/
def Sl (S : List Nat) : Nat → List Nat
  | 2 => S
  | _ => []
theorem Sl_le (S : List Nat) (k : Nat) {w w' : World} (h : Only (Sl S k) w w') : Only S w w' := by
  unfold Sl at h
  split at h
  · exact h
  · exact h.mono (by simp)

def wpAnyY (P : Program) (ops : Array Oper) (Q : Exit → Act → World → Prop) (E : Nat → Nat) (S : List Nat) : Nat → Array Bool → Act → World → Prop
  | 0, listed, a, w => Region.ready .any ops listed = [] ∧ Q .normal a w
  | fuel + 1, listed, a, w =>
    (Region.ready .any ops listed = [] → Q .normal a w) ∧
    ∀ i ∈ Region.ready .any ops listed, (E i ≠ 0 → wpOp P ops Q i (Nx (Sl S (E i)) w (wpAnyY P ops Q E S fuel (listed.setIfInBounds i true))) a w) ∧
      (E i = 0 → stOp P ops w i (fun a' => wpAnyY P ops Q E S fuel (listed.setIfInBounds i true) a' w) a)

theorem wpAny_of_Y : ∀ (fuel : Nat) (listed : Array Bool) (a : Act) (w : World), wpAnyY P ops Q E S fuel listed a w → wpAny P .any ops Q fuel listed a w
  | 0, _, _, _, h => h
  | fuel + 1, _, _, _, h => ⟨h.1, fun i hi => by
      by_cases hE : E i = 0
      · exact wpOp_of_stOp (fun a' h' => wpAny_of_Y fuel _ a' _ h') ((h.2 i hi).2 hE)
      · exact wpOp_mono (fun a' w' h' => wpAny_of_Y fuel _ a' w' h'.2) ((h.2 i hi).1 hE)⟩

/-- A read that yields its value in every world in which only T and new blocks differ may be taken first, if every effect that may change more waits for it. -/
theorem takeY {T : List Nat} {i : Nat} {oi : Oper} {v : Value} (hi : ops[i]? = some oi) (hEi : E i = 0) (hsel : ∀ (j : Nat) (o : Oper) cs b, ops[j]? = some o → o.op ≠ .select cs b)
    (hQ : ∀ c a w, Q (.panic c) (a.put oi.dst v) w → Q (.panic c) a w) :
    ∀ (fuel : Nat) (listed : Array Bool) (a : Act) (w : World),
      (∀ j oj, ops[j]? = some oj → j ≠ i → listed.getD j true = false → (∀ e ∈ oj.after, Region.binds .any e = true → e.on ≠ i) → oi.apart ops oj = true) →
      (∀ j oj, ops[j]? = some oj → E j ≠ 0 → listed.getD j true = false → (∃ e ∈ oj.after, Region.binds .any e = true ∧ e.on = i) ∨ (∀ w w', Only (Sl S (E j)) w w' → Only T w w')) →
      i ∈ Region.ready .any ops listed → YieldsX P ops T w oi v a →
      wpAnyY P ops Q E S fuel (listed.setIfInBounds i true) (a.put oi.dst v) w → wpAnyY P ops Q E S (fuel + 1) listed a w := by
  intro fuel
  induction fuel with
  | zero =>
    intro listed a w _ _ hr hy H
    refine ⟨fun h => (by rw [h] at hr; cases hr), fun j hj => ?_⟩
    by_cases hji : j = i
    · subst hji; exact ⟨fun h => absurd hEi h, fun _ => (hy w (Only.refl _ _)).stOp hi H⟩
    · have := ready_mono hj hji
      rw [H.1] at this
      cases this
  | succ fuel ih =>
    intro listed a w hfree hblk hr hy H
    refine ⟨fun h => (by rw [h] at hr; cases hr), fun j hj => ?_⟩
    by_cases hji : j = i
    · subst hji; exact ⟨fun h => absurd hEi h, fun _ => (hy w (Only.refl _ _)).stOp hi H⟩
    · obtain ⟨hjun, oj, hoj, hall⟩ := mem_ready.1 hj
      have hun := (mem_ready.1 hr).1
      have hnot := Ord.hnot_of hun hall hoj
      have h1 := H.2 j (ready_mono hj hji)
      have hap := hfree j oj hoj hji hjun hnot
      have hblk' : ∀ k ok, ops[k]? = some ok → E k ≠ 0 → (listed.setIfInBounds j true).getD k true = false → (∃ e ∈ ok.after, Region.binds .any e = true ∧ e.on = i) ∨ (∀ w w', Only (Sl S (E k)) w w' → Only T w w') := fun k ok hk hEk hlk => hblk k ok hk hEk (by
        by_cases hjk : j = k
        · subst hjk; exact hjun
        · rw [getD_set_ne true hjk] at hlk; exact hlk)
      refine ⟨fun hEj => ?_, fun hEj => ?_⟩
      · rcases hblk j oj hoj hEj hjun with ⟨e, he, hb, ho⟩ | hT
        · exact absurd ho (hnot e he hb)
        · have h2 := wpOp_putG (Y := fun a => YieldsX P ops T w oi v a) hoj hap (fun cs b => hsel j oj cs b hoj) hQ (fun a u h => h.keep hap (fun cs b => hsel i oi cs b hi) a u) (fun a d h w' hw => (h w' hw).of_same rfl rfl) hy (h1.1 hEj)
          refine wpOp_mono (fun a' w' h3 => ?_) h2
          obtain ⟨h4, h5, h6⟩ := h3
          refine ⟨h5, ih (listed.setIfInBounds j true) a' w' (Ord.free_next hfree hjun) hblk' (ready_mono hr (Ne.symm hji)) (fun w'' hw => h4 w'' ((hT _ _ h5).trans' hw)) ?_⟩
          rw [Array.setIfInBounds_comm _ _ hji]
          exact h6
      · have h2 := stOp_putG (Y := fun a => YieldsX P ops T w oi v a) hoj hap (fun cs b => hsel j oj cs b hoj) (fun a u h => h.keep hap (fun cs b => hsel i oi cs b hi) a u) hy (h1.2 hEj)
        refine stOp_mono (fun a' h3 => ih (listed.setIfInBounds j true) a' w (Ord.free_next hfree hjun) hblk' (ready_mono hr (Ne.symm hji)) h3.1 ?_) h2
        rw [Array.setIfInBounds_comm _ _ hji]
        exact h3.2

/-- A step: a read, a quiet read, an effect that makes new blocks only, an effect that may change S. -/
inductive Sy where
  | r (i : Nat)
  | q (i : Nat)
  | n (i : Nat)
  | e (i : Nat)
def effY : List Sy → Nat → Nat
  | [], _ => 0
  | .r _ :: ss, i => effY ss i
  | .q _ :: ss, i => effY ss i
  | .n j :: ss, i => if j == i then 1 else effY ss i
  | .e j :: ss, i => if j == i then 2 else effY ss i
def pickY (l : List Oper) : List Sy → List (Nat × Oper)
  | [] => []
  | .r i :: ns => (0, l.getD i default) :: pickY l ns
  | .q i :: ns => (1, l.getD i default) :: pickY l ns
  | .n i :: ns => (2, l.getD i default) :: pickY l ns
  | .e i :: ns => (3, l.getD i default) :: pickY l ns
def wpY (P : Program) (ops : Array Oper) (Q : Exit → Act → World → Prop) (S : List Nat) : List (Nat × Oper) → Act → World → Prop
  | [], a, w => wpList P ops Q [] a w
  | (0, o) :: rest, a, w => ∃ v, YieldsX P ops S w o v a ∧ wpY P ops Q S rest (a.put o.dst v) w
  | (1, o) :: rest, a, w => ∃ v, YieldsX P ops [] w o v a ∧ wpY P ops Q S rest (a.put o.dst v) w
  | (2, o) :: rest, a, w => wpList P ops (Exit.then (Nx [] w (wpY P ops Q S rest)) Q) [o] a w
  | (_ + 3, o) :: rest, a, w => wpList P ops (Exit.then (Nx S w (wpY P ops Q S rest)) Q) [o] a w

def waitsY (ops : Array Oper) (E : Nat → Nat) (listed : Array Bool) (i : Nat) : Bool :=
  (List.range ops.size).all fun j => !(E j == 2) || listed.getD j true || ((ops.getD j default).after.any fun e => Region.binds .any e && (e.on == i))
theorem waitsY_spec {listed : Array Bool} {i : Nat} (h : waitsY ops E listed i = true) (j : Nat) (oj : Oper) (hj : ops[j]? = some oj) (_hE : E j ≠ 0) (hl : listed.getD j true = false) : (∃ e ∈ oj.after, Region.binds .any e = true ∧ e.on = i) ∨ (∀ w w', Only (Sl S (E j)) w w' → Only [] w w') := by
  by_cases hE2 : E j = 2
  · left
    have hlt : j < ops.size := by
      rcases Nat.lt_or_ge j ops.size with h' | h'
      · exact h'
      · rw [Array.getElem?_eq_none h'] at hj; cases hj
    have h1 := List.all_eq_true.1 h j (List.mem_range.2 hlt)
    have hd : ops.getD j default = oj := by simp [Array.getD, hlt] at hj ⊢; exact hj
    rw [hE2, hl, hd] at h1
    simp only [beq_self_eq_true, Bool.not_true, Bool.false_or, Array.any_eq_true] at h1
    obtain ⟨k, hk, h2⟩ := h1
    simp only [Bool.and_eq_true, beq_iff_eq] at h2
    exact ⟨oj.after[k], Array.getElem_mem hk, h2.1, h2.2⟩
  · right
    intro w w' h'
    unfold Sl at h'
    split at h'
    · rename_i h2; exact absurd h2 hE2
    · exact h'

def yOk (ops : Array Oper) (E : Nat → Nat) : List Sy → Array Bool → Bool
  | [], listed => Region.ready .any ops listed == []
  | .r i :: ss, listed => decide (i < ops.size) && (E i == 0) && (Region.ready .any ops listed).contains i && Region.free .any ops listed i && yOk ops E ss (listed.setIfInBounds i true)
  | .q i :: ss, listed => decide (i < ops.size) && (E i == 0) && (Region.ready .any ops listed).contains i && Region.free .any ops listed i && waitsY ops E listed i && yOk ops E ss (listed.setIfInBounds i true)
  | .n i :: ss, listed => decide (i < ops.size) && (E i == 1) && (Region.ready .any ops listed == [i]) && yOk ops E ss (listed.setIfInBounds i true)
  | .e i :: ss, listed => decide (i < ops.size) && (E i == 2) && (Region.ready .any ops listed == [i]) && yOk ops E ss (listed.setIfInBounds i true)

theorem effStepY {l : List Oper} (hl : ops = l.toArray) {i : Nat} (hi : i < ops.size) {K K' : Act → World → Prop} {a : Act} {w : World} (hK : ∀ a' w', K a' w' → K' a' w')
    (h' : wpList P ops (Exit.then (Nx S w K) Q) [l.getD i default] a w) : wpOp P ops Q i (Nx S w K') a w := by
  have hgi : ops[i]? = some (l.getD i default) := by
    subst hl
    have : i < l.length := by simpa using hi
    simp [List.getD, this]
  have ih : ∀ a' w', Nx S w K a' w' → Nx S w K' a' w' := fun a' w' h' => ⟨h'.1, hK a' w' h'.2⟩
  unfold wpOp
  simp only [hgi]
  unfold wpList at h'
  split
  · rename_i hw
    rw [if_pos hw] at h'
    rcases h' with h' | ⟨h1, a0, w0, h3⟩
    · refine .inl ?_
      have h3 := Oper.wp_mono (P := P) (K' := Nx S w K') (fun a' w' h4 => ih a' w' h4) h'
      unfold Oper.wp at h3 ⊢
      generalize (execOp a.eval (l.getD i default)).run P w = r at *
      cases r with
      | ok n w' =>
        cases n <;> simp only [Oper.upon] at h3 ⊢ <;> first | exact h3 | exact Calls.mono h3 (fun e w'' he => by cases e <;> exact he)
      | halt x w' => cases x <;> simp only [Oper.upon] at h3 ⊢ <;> exact h3
    · exact .inr ⟨h1, a0, w0, h3⟩
  · rename_i hw; rw [if_neg hw] at h'; exact ih _ _ h'

theorem wpAnyY_q {l : List Oper} (hl : ops = l.toArray) (hsel : Region.noSelect ops = true) (hQ : ∀ (d : Option Tmp) (v : Value) (c : List PanicEntry) (a : Act) (w : World), Q (.panic c) (a.put d v) w → Q (.panic c) a w) :
    ∀ (ss : List Sy) (listed : Array Bool) (a : Act) (w : World), yOk ops E ss listed = true → wpY P ops Q S (pickY l ss) a w → wpAnyY P ops Q E S ss.length listed a w
  | [], listed, a, w, hok, h => ⟨by simpa [yOk] using hok, h⟩
  | .r i :: ss, listed, a, w, hok, h => by
    simp only [yOk, Bool.and_eq_true, beq_iff_eq, decide_eq_true_eq] at hok
    obtain ⟨⟨⟨⟨hi, hE⟩, hr⟩, hf⟩, h2⟩ := hok
    obtain ⟨v, hy, hn⟩ := h
    have hgi : ops[i]? = some (l.getD i default) := by
      subst hl
      have : i < l.length := by simpa using hi
      simp [List.getD, this]
    exact takeY hgi hE (Region.noSelect_spec hsel) (fun c a w => hQ _ v c a w) ss.length listed a w (Region.free_spec hgi hf) (fun _ _ _ _ _ => .inr fun _ _ h => Sl_le S _ h) (by simpa using hr) hy (wpAnyY_q hl hsel hQ ss _ _ w h2 hn)
  | .q i :: ss, listed, a, w, hok, h => by
    simp only [yOk, Bool.and_eq_true, beq_iff_eq, decide_eq_true_eq] at hok
    obtain ⟨⟨⟨⟨⟨hi, hE⟩, hr⟩, hf⟩, hw⟩, h2⟩ := hok
    obtain ⟨v, hy, hn⟩ := h
    have hgi : ops[i]? = some (l.getD i default) := by
      subst hl
      have : i < l.length := by simpa using hi
      simp [List.getD, this]
    exact takeY hgi hE (Region.noSelect_spec hsel) (fun c a w => hQ _ v c a w) ss.length listed a w (Region.free_spec hgi hf) (waitsY_spec hw) (by simpa using hr) hy (wpAnyY_q hl hsel hQ ss _ _ w h2 hn)
  | .n i :: ss, listed, a, w, hok, h => by
    simp only [yOk, Bool.and_eq_true, beq_iff_eq, decide_eq_true_eq] at hok
    obtain ⟨⟨⟨hi, hE⟩, hr⟩, h2⟩ := hok
    refine ⟨fun h0 => (by rw [hr] at h0; cases h0), fun j hj => ?_⟩
    rw [hr] at hj
    obtain rfl : j = i := by simpa using hj
    refine ⟨fun _ => ?_, fun h0 => (by rw [hE] at h0; cases h0)⟩
    rw [hE]
    exact effStepY hl hi (fun a' w' h' => wpAnyY_q hl hsel hQ ss _ a' w' h2 h') h
  | .e i :: ss, listed, a, w, hok, h => by
    simp only [yOk, Bool.and_eq_true, beq_iff_eq, decide_eq_true_eq] at hok
    obtain ⟨⟨⟨hi, hE⟩, hr⟩, h2⟩ := hok
    refine ⟨fun h0 => (by rw [hr] at h0; cases h0), fun j hj => ?_⟩
    rw [hr] at hj
    obtain rfl : j = i := by simpa using hj
    refine ⟨fun _ => ?_, fun h0 => (by rw [hE] at h0; cases h0)⟩
    rw [hE]
    exact effStepY hl hi (fun a' w' h' => wpAnyY_q hl hsel hQ ss _ a' w' h2 h') h

def okY (l : List Oper) (ss : List Sy) : Bool := Region.noSelect l.toArray && decide (ss.length = l.length) && yOk l.toArray (effY ss) ss (Array.replicate l.length false)
/-- THE LAW. -/
theorem wpYL {id : Nat} {l : List Oper} (S : List Nat) (ss : List Sy) {a : Act} {w : World} (hm : P.follows .mixedOrders = true) (hok : okY l ss = true)
    (hQ : ∀ (d : Option Tmp) (v : Value) (c : List PanicEntry) (a : Act) (w : World), Q (.panic c) (a.put d v) w → Q (.panic c) a w)
    (h : wpY P l.toArray Q S (pickY l ss) a w.drew) : (Code.region id l.toArray true).wp P Q a w := by
  simp only [okY, Bool.and_eq_true, decide_eq_true_eq] at hok
  obtain ⟨⟨h1, h2⟩, h3⟩ := hok
  refine wp_region_any hm (wpAny_of_Y (E := effY ss) (S := S) _ _ _ _ ?_)
  have := wpAnyY_q (P := P) (Q := Q) (S := S) rfl h1 hQ ss (Array.replicate l.length false) a w.drew h3 h
  rw [h2] at this
  simpa using this

theorem readYr {a : Act} {w : World} {o : Oper} {rest : List (Nat × Oper)} (v : Value)
    (h : ∀ (t : { w' : World // Only S w w' }) (K : Value → Prop), (∀ u, u = v → K u) → if Region.wanted o (yielded ops a.tmps) = true then stillV P o a (extS S w t) K else K undef)
    (b : Act) (ha : ∀ K : Act → Prop, (∀ u, u = b → K u) → K (a.put o.dst v)) (hn : wpY P ops Q S rest b w) : wpY P ops Q S ((0, o) :: rest) a w := by
  refine ⟨v, fun w' hw => ?_, ha (fun x => wpY P ops Q S rest x w) (fun u hu => by rw [hu]; exact hn)⟩
  have h1 := h ⟨w', hw⟩ (fun u => u = v) (fun _ h => h)
  split at h1
  · rename_i hwt
    unfold stillV at h1
    simp only [extS] at h1
    generalize hr : (execOp a.eval o).run P w' = r at h1
    cases r with
    | ok n w'' =>
      cases n <;> simp only [stillVUpon] at h1
      case value u => obtain ⟨rfl, rfl⟩ := h1; exact .inl ⟨hwt, .inl hr⟩
      case skip => obtain ⟨rfl, rfl⟩ := h1; exact .inl ⟨hwt, .inr (.inl ⟨hr, rfl⟩)⟩
      case enter f args => obtain ⟨rfl, u, hc, rfl⟩ := h1; exact .inl ⟨hwt, .inr (.inr ⟨f, args, hr, hc⟩)⟩
    | halt x w'' => simp only [stillVUpon] at h1
  · rename_i hwt
    exact .inr ⟨by simpa using hwt, h1.symm⟩
theorem readYq {a : Act} {w : World} {o : Oper} {rest : List (Nat × Oper)} (v : Value)
    (h : ∀ (t : { w' : World // Only [] w w' }) (K : Value → Prop), (∀ u, u = v → K u) → if Region.wanted o (yielded ops a.tmps) = true then stillV P o a (extS [] w t) K else K undef)
    (b : Act) (ha : ∀ K : Act → Prop, (∀ u, u = b → K u) → K (a.put o.dst v)) (hn : wpY P ops Q S rest b w) : wpY P ops Q S ((1, o) :: rest) a w := by
  refine ⟨v, fun w' hw => ?_, ha (fun x => wpY P ops Q S rest x w) (fun u hu => by rw [hu]; exact hn)⟩
  have h1 := h ⟨w', hw⟩ (fun u => u = v) (fun _ h => h)
  split at h1
  · rename_i hwt
    unfold stillV at h1
    simp only [extS] at h1
    generalize hr : (execOp a.eval o).run P w' = r at h1
    cases r with
    | ok n w'' =>
      cases n <;> simp only [stillVUpon] at h1
      case value u => obtain ⟨rfl, rfl⟩ := h1; exact .inl ⟨hwt, .inl hr⟩
      case skip => obtain ⟨rfl, rfl⟩ := h1; exact .inl ⟨hwt, .inr (.inl ⟨hr, rfl⟩)⟩
      case enter f args => obtain ⟨rfl, u, hc, rfl⟩ := h1; exact .inl ⟨hwt, .inr (.inr ⟨f, args, hr, hc⟩)⟩
    | halt x w'' => simp only [stillVUpon] at h1
  · rename_i hwt
    exact .inr ⟨by simpa using hwt, h1.symm⟩
theorem effYn {a : Act} {w : World} {o : Oper} {rest : List (Nat × Oper)} (h : wpList P ops (Exit.then (Nx [] w (wpY P ops Q S rest)) Q) [o] a w) : wpY P ops Q S ((2, o) :: rest) a w := h
theorem effYe {a : Act} {w : World} {o : Oper} {rest : List (Nat × Oper)} (h : wpList P ops (Exit.then (Nx S w (wpY P ops Q S rest)) Q) [o] a w) : wpY P ops Q S ((3, o) :: rest) a w := h
theorem finY {a : Act} {w : World} (h : wpList P ops Q [] a w) : wpY P ops Q S [] a w := h
end Reg
end Go.Proofs.Ytddfphneidcibaa
