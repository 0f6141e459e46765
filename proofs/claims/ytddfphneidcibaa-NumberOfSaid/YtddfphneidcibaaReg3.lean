/-
  A DRAWING REGION IN WHICH TWO EFFECTS MAY BE TAKEN IN EITHER ORDER: the walk is a tree.
-/
import Derived.Test.YtddfphneidcibaaReg2
namespace Go.Proofs.Ytddfphneidcibaa
open Go.RowKit
namespace Reg
variable {P : Program} {ops : Array Oper} {Q : Exit → Act → World → Prop} {E : Nat → Bool} {S : List Nat}

inductive Tr where
  | fin
  | r (i : Nat) (t : Tr)
  | e (i : Nat) (t : Tr)
  | two (i : Nat) (s : Tr) (j : Nat) (t : Tr)

def Tr.len : Tr → Nat
  | .fin => 0
  | .r _ t => t.len + 1
  | .e _ t => t.len + 1
  | .two _ s _ _ => s.len + 1
def Tr.effs : Tr → Nat → Bool
  | .fin, _ => false
  | .r _ t, k => t.effs k
  | .e i t, k => (i == k) || t.effs k
  | .two i s j t, k => (i == k) || (j == k) || s.effs k || t.effs k

/-- The walk's steps, with their operations. -/
inductive Wk where
  | fin
  | r (o : Oper) (t : Wk)
  | e (o : Oper) (t : Wk)
  | two (o : Oper) (s : Wk) (p : Oper) (t : Wk)
def pickT (l : List Oper) : Tr → Wk
  | .fin => .fin
  | .r i t => .r (l.getD i default) (pickT l t)
  | .e i t => .e (l.getD i default) (pickT l t)
  | .two i s j t => .two (l.getD i default) (pickT l s) (l.getD j default) (pickT l t)

def wpTr (P : Program) (ops : Array Oper) (Q : Exit → Act → World → Prop) (S : List Nat) : Wk → Act → World → Prop
  | .fin, a, w => wpList P ops Q [] a w
  | .r o t, a, w => ∃ v, YieldsX P ops S w o v a ∧ wpTr P ops Q S t (a.put o.dst v) w
  | .e o t, a, w => wpList P ops (Exit.then (Nx S w (wpTr P ops Q S t)) Q) [o] a w
  | .two o s p t, a, w => wpList P ops (Exit.then (Nx S w (wpTr P ops Q S s)) Q) [o] a w ∧ wpList P ops (Exit.then (Nx S w (wpTr P ops Q S t)) Q) [p] a w

def trOk (ops : Array Oper) (E : Nat → Bool) : Tr → Array Bool → Bool
  | .fin, listed => Region.ready .any ops listed == []
  | .r i t, listed => decide (i < ops.size) && (E i == false) && (Region.ready .any ops listed).contains i && Region.free .any ops listed i && trOk ops E t (listed.setIfInBounds i true)
  | .e i t, listed => decide (i < ops.size) && (E i == true) && (Region.ready .any ops listed == [i]) && trOk ops E t (listed.setIfInBounds i true)
  | .two i s j t, listed => decide (i < ops.size) && decide (j < ops.size) && (E i == true) && (E j == true) && (Region.ready .any ops listed == [i, j]) && (s.len == t.len) && trOk ops E s (listed.setIfInBounds i true) && trOk ops E t (listed.setIfInBounds j true)

theorem effStep {l : List Oper} (hl : ops = l.toArray) {i : Nat} (hi : i < ops.size) {K K' : Act → World → Prop} {a : Act} {w : World} (hK : ∀ a' w', K a' w' → K' a' w')
    (h' : wpList P ops (Exit.then (Nx S w K) Q) [l.getD i default] a w) : wpOp P ops Q i (Nx S w K') a w := by
  have hgi : ops[i]? = some (l.getD i default) := by
    subst hl
    have : i < l.length := by simpa using hi
    simp [List.getD, this]
  have ih : ∀ a' w', Nx S w K a' w' → Nx S w K' a' w' := fun a' w' h' => ⟨h'.1, hK a' w' h'.2⟩
  unfold wpOp
  simp only [hgi]
  unfold wpList at h'
  split
  · rename_i hw
    rw [if_pos hw] at h'
    rcases h' with h' | ⟨h1, a0, w0, h3⟩
    · refine .inl ?_
      have h3 := Oper.wp_mono (P := P) (K' := Nx S w K') (fun a' w' h4 => ih a' w' h4) h'
      unfold Oper.wp at h3 ⊢
      generalize (execOp a.eval (l.getD i default)).run P w = r at *
      cases r with
      | ok n w' =>
        cases n <;> simp only [Oper.upon] at h3 ⊢ <;> first | exact h3 | exact Calls.mono h3 (fun e w'' he => by cases e <;> exact he)
      | halt x w' => cases x <;> simp only [Oper.upon] at h3 ⊢ <;> exact h3
    · exact .inr ⟨h1, a0, w0, h3⟩
  · rename_i hw; rw [if_neg hw] at h'; exact ih _ _ h'

theorem wpAnyX_tr {l : List Oper} (hl : ops = l.toArray) (hsel : Region.noSelect ops = true) (hQ : ∀ (d : Option Tmp) (v : Value) (c : List PanicEntry) (a : Act) (w : World), Q (.panic c) (a.put d v) w → Q (.panic c) a w) :
    ∀ (t : Tr) (listed : Array Bool) (a : Act) (w : World), trOk ops E t listed = true → wpTr P ops Q S (pickT l t) a w → wpAnyX P ops Q E S t.len listed a w
  | .fin, listed, a, w, hok, h => ⟨by simpa [trOk] using hok, h⟩
  | .r i t, listed, a, w, hok, h => by
    simp only [trOk, Bool.and_eq_true, beq_iff_eq, decide_eq_true_eq] at hok
    obtain ⟨⟨⟨⟨hi, hE⟩, hr⟩, hf⟩, h2⟩ := hok
    obtain ⟨v, hy, hn⟩ := h
    have hgi : ops[i]? = some (l.getD i default) := by
      subst hl
      have : i < l.length := by simpa using hi
      simp [List.getD, this]
    have ih := wpAnyX_tr hl hsel hQ t (listed.setIfInBounds i true) _ w h2 hn
    exact take hgi hE (Region.noSelect_spec hsel) (fun c a w => hQ _ v c a w) t.len listed a w (Region.free_spec hgi hf) (by simpa using hr) hy ih
  | .e i t, listed, a, w, hok, h => by
    simp only [trOk, Bool.and_eq_true, beq_iff_eq, decide_eq_true_eq] at hok
    obtain ⟨⟨⟨hi, hE⟩, hr⟩, h2⟩ := hok
    refine ⟨fun h0 => (by rw [hr] at h0; cases h0), fun j hj => ?_⟩
    rw [hr] at hj
    obtain rfl : j = i := by simpa using hj
    refine ⟨fun _ => ?_, fun h0 => (by rw [hE] at h0; cases h0)⟩
    exact effStep hl hi (fun a' w' h' => wpAnyX_tr hl hsel hQ t _ a' w' h2 h') h
  | .two i s j t, listed, a, w, hok, h => by
    simp only [trOk, Bool.and_eq_true, beq_iff_eq, decide_eq_true_eq] at hok
    obtain ⟨⟨⟨⟨⟨⟨⟨hi, hj⟩, hEi⟩, hEj⟩, hr⟩, hlen⟩, h2⟩, h3⟩ := hok
    refine ⟨fun h0 => (by rw [hr] at h0; cases h0), fun k hk => ?_⟩
    rw [hr] at hk
    have hk' : k = i ∨ k = j := by simpa using hk
    rcases hk' with rfl | rfl
    · refine ⟨fun _ => ?_, fun h0 => (by rw [hEi] at h0; cases h0)⟩
      exact effStep hl hi (fun a' w' h' => wpAnyX_tr hl hsel hQ s _ a' w' h2 h') h.1
    · refine ⟨fun _ => ?_, fun h0 => (by rw [hEj] at h0; cases h0)⟩
      have e : Tr.len (.two i s k t) = t.len + 1 := by simp [Tr.len, hlen]
      refine effStep hl hj (fun a' w' h' => ?_) h.2
      have := wpAnyX_tr hl hsel hQ t _ a' w' h3 h'
      rw [← hlen] at this
      exact this

def okT (l : List Oper) (t : Tr) : Bool := Region.noSelect l.toArray && decide (t.len = l.length) && trOk l.toArray t.effs t (Array.replicate l.length false)

/-- THE LAW. -/
theorem wpT {id : Nat} {l : List Oper} (S : List Nat) (t : Tr) {a : Act} {w : World} (hm : P.follows .mixedOrders = true) (hok : okT l t = true)
    (hQ : ∀ (d : Option Tmp) (v : Value) (c : List PanicEntry) (a : Act) (w : World), Q (.panic c) (a.put d v) w → Q (.panic c) a w)
    (h : wpTr P l.toArray Q S (pickT l t) a w.drew) : (Code.region id l.toArray true).wp P Q a w := by
  simp only [okT, Bool.and_eq_true, decide_eq_true_eq] at hok
  obtain ⟨⟨h1, h2⟩, h3⟩ := hok
  refine wp_region_any hm (wpAny_of_X (E := t.effs) (S := S) _ _ _ _ ?_)
  have := wpAnyX_tr (P := P) (Q := Q) (S := S) rfl h1 hQ t (Array.replicate l.length false) a w.drew h3 h
  rw [h2] at this
  simpa using this

theorem readT {a : Act} {w : World} {o : Oper} {rest : Wk} (v : Value)
    (h : ∀ (t : { w' : World // Only S w w' }) (K : Value → Prop), (∀ u, u = v → K u) → if Region.wanted o (yielded ops a.tmps) = true then stillV P o a (extS S w t) K else K undef)
    (b : Act) (ha : ∀ K : Act → Prop, (∀ u, u = b → K u) → K (a.put o.dst v)) (hn : wpTr P ops Q S rest b w) : wpTr P ops Q S (.r o rest) a w := by
  refine ⟨v, fun w' hw => ?_, ha (fun x => wpTr P ops Q S rest x w) (fun u hu => by rw [hu]; exact hn)⟩
  have h1 := h ⟨w', hw⟩ (fun u => u = v) (fun _ h => h)
  split at h1
  · rename_i hwt
    unfold stillV at h1
    simp only [extS] at h1
    generalize hr : (execOp a.eval o).run P w' = r at h1
    cases r with
    | ok n w'' =>
      cases n <;> simp only [stillVUpon] at h1
      case value u => obtain ⟨rfl, rfl⟩ := h1; exact .inl ⟨hwt, .inl hr⟩
      case skip => obtain ⟨rfl, rfl⟩ := h1; exact .inl ⟨hwt, .inr (.inl ⟨hr, rfl⟩)⟩
      case enter f args => obtain ⟨rfl, u, hc, rfl⟩ := h1; exact .inl ⟨hwt, .inr (.inr ⟨f, args, hr, hc⟩)⟩
    | halt x w'' => simp only [stillVUpon] at h1
  · rename_i hwt
    exact .inr ⟨by simpa using hwt, h1.symm⟩
theorem effT {a : Act} {w : World} {o : Oper} {rest : Wk} (h : wpList P ops (Exit.then (Nx S w (wpTr P ops Q S rest)) Q) [o] a w) : wpTr P ops Q S (.e o rest) a w := h
theorem twoT {a : Act} {w : World} {o p : Oper} {s t : Wk} (h1 : wpList P ops (Exit.then (Nx S w (wpTr P ops Q S s)) Q) [o] a w) (h2 : wpList P ops (Exit.then (Nx S w (wpTr P ops Q S t)) Q) [p] a w) : wpTr P ops Q S (.two o s p t) a w := ⟨h1, h2⟩
theorem finT {a : Act} {w : World} (h : wpList P ops Q [] a w) : wpTr P ops Q S .fin a w := h
end Reg
end Go.Proofs.Ytddfphneidcibaa
