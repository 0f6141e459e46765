/-
  A REGION THAT DRAWS ITS ORDER, walked once in one order: reads, each shown for every world in which only new blocks and the blocks of S differ, and effects, each of which changes only these. Over any program.
-/
import Derived.Test.YtddfphneidcibaaOrd
import Derived.Test.YtddfphneidcibaaMem
import Derived.StillTactics
namespace Go.Proofs.Ytddfphneidcibaa
open Go.RowKit

namespace Reg
variable {P : Program} {ops : Array Oper} {Q : Exit → Act → World → Prop} {E : Nat → Bool} {S : List Nat}

/-- The worlds that a read may see. -/
def extS (S : List Nat) (w : World) (t : { w' : World // Only S w w' }) : World := t.1
@[go_sem] theorem extS_cell (S : List Nat) (w : World) (t : { w' : World // Only S w w' }) (p : Addr) (h : p.block < w.heap.size) (hn : p.block ∉ S) : (extS S w t).cell? p = w.cell? p := t.2.cell h hn

@[go_sem] theorem extS_drew (S : List Nat) (w : World) (t : { w' : World // Only S w.drew w' }) (p : Addr) (h : p.block < w.heap.size) (hn : p.block ∉ S) : (extS S w.drew t).cell? p = w.cell? p := t.2.cell (w := w.drew) h hn

def YieldsX (P : Program) (ops : Array Oper) (S : List Nat) (w : World) (o : Oper) (v : Value) (a : Act) : Prop := ∀ w', Only S w w' → YieldsAt P ops w' o v a

theorem wpOp_putG {Y : Act → Prop} {j : Nat} {oi oj : Oper} {v : Value} (hj : ops[j]? = some oj) (hap : oi.apart ops oj = true) (hsj : ∀ cs b, oj.op ≠ .select cs b)
    (hQ : ∀ c a w, Q (.panic c) (a.put oi.dst v) w → Q (.panic c) a w) (keep : ∀ a u, Y a → Y (a.put oj.dst u)) (keepD : ∀ a d, Y a → Y { a with defers := d :: a.defers })
    {K : Act → World → Prop} {a : Act} {w : World} (hy : Y a) (h : wpOp P ops Q j K (a.put oi.dst v) w) :
    wpOp P ops Q j (fun a' w' => Y a' ∧ K (a'.put oi.dst v) w') a w := by
  obtain ⟨h1, h2, h3⟩ := Oper.apart_spec hap
  unfold wpOp at *
  simp only [hj] at *
  rw [wanted_put oj a oi.dst v h1] at h
  split
  · rename_i hw
    simp only [hw, if_true] at h
    rcases h with h | ⟨hasks, hlets⟩
    case inr => exact .inr ⟨by unfold Oper.asks at *; rw [execOp_put oj hsj a oi.dst v h1] at hasks; exact hasks, hlets⟩
    refine .inl ?_
    unfold Oper.wp at *
    rw [execOp_put oj hsj a oi.dst v h1] at h
    generalize (execOp a.eval oj).run P w = r at *
    cases r with
    | ok n w' =>
      cases n <;> simp only [Oper.upon] at h ⊢
      case value u => exact ⟨keep a u hy, by rw [← Act.put_comm a v u h2]; exact h⟩
      case skip => exact ⟨keep a _ hy, by rw [← Act.put_comm a v undef h2]; exact h⟩
      case defer d =>
        refine ⟨keep _ _ (keepD a d hy), ?_⟩
        rw [← Act.put_comm _ v undef h2, ← Act.put_defers]
        exact h
      case enter f args =>
        refine Calls.mono h fun e w'' he => ?_
        cases e with
        | returned u => exact ⟨keep a u hy, by rw [← Act.put_comm a v u h2]; exact he⟩
        | panicked c => exact hQ _ _ _ he
        | outgrown => exact he
      case row row args => exact Rows.mono h fun u w'' he => ⟨keep a u hy, by rw [← Act.put_comm a v u h2]; exact he⟩
    | halt x w' =>
      cases x <;> simp only [Oper.upon] at h ⊢
      case panic u => exact hQ _ _ _ h
  · rename_i hw
    simp only [hw] at h
    exact ⟨keep a _ hy, by rw [← Act.put_comm a v undef h2]; exact h⟩

theorem stOp_putG {Y : Act → Prop} {j : Nat} {w : World} {oi oj : Oper} {v : Value} (hj : ops[j]? = some oj) (hap : oi.apart ops oj = true) (hsj : ∀ cs b, oj.op ≠ .select cs b) (keep : ∀ a u, Y a → Y (a.put oj.dst u))
    {K : Act → Prop} {a : Act} (hy : Y a) (h : stOp P ops w j K (a.put oi.dst v)) : stOp P ops w j (fun a' => Y a' ∧ K (a'.put oi.dst v)) a := by
  obtain ⟨h1, h2, h3⟩ := Oper.apart_spec hap
  unfold stOp at *
  simp only [hj] at *
  rw [wanted_put oj a oi.dst v h1] at h
  split
  · rename_i hw
    simp only [hw, if_true] at h
    unfold Oper.still at *
    rw [execOp_put oj hsj a oi.dst v h1] at h
    generalize (execOp a.eval oj).run P w = r at *
    cases r with
    | ok n w' =>
      cases n <;> simp only [Oper.stillUpon] at h ⊢
      case value u => exact ⟨h.1, keep a u hy, by rw [← Act.put_comm a v u h2]; exact h.2⟩
      case skip => exact ⟨h.1, keep a _ hy, by rw [← Act.put_comm a v undef h2]; exact h.2⟩
      case enter f args => obtain ⟨hw', u, hc, hn⟩ := h; exact ⟨hw', u, hc, keep a u hy, by rw [← Act.put_comm a v u h2]; exact hn⟩
    | halt x w' => simp only [Oper.stillUpon] at h
  · rename_i hw
    simp only [hw] at h
    exact ⟨keep a _ hy, by rw [← Act.put_comm a v undef h2]; exact h⟩

def Nx (S : List Nat) (w : World) (K : Act → World → Prop) (a' : Act) (w' : World) : Prop := Only S w w' ∧ K a' w'

def wpAnyX (P : Program) (ops : Array Oper) (Q : Exit → Act → World → Prop) (E : Nat → Bool) (S : List Nat) : Nat → Array Bool → Act → World → Prop
  | 0, listed, a, w => Region.ready .any ops listed = [] ∧ Q .normal a w
  | fuel + 1, listed, a, w =>
    (Region.ready .any ops listed = [] → Q .normal a w) ∧
    ∀ i ∈ Region.ready .any ops listed, (E i = true → wpOp P ops Q i (Nx S w (wpAnyX P ops Q E S fuel (listed.setIfInBounds i true))) a w) ∧
      (E i = false → stOp P ops w i (fun a' => wpAnyX P ops Q E S fuel (listed.setIfInBounds i true) a' w) a)

theorem wpAny_of_X : ∀ (fuel : Nat) (listed : Array Bool) (a : Act) (w : World), wpAnyX P ops Q E S fuel listed a w → wpAny P .any ops Q fuel listed a w
  | 0, _, _, _, h => h
  | fuel + 1, _, _, _, h => ⟨h.1, fun i hi => by
      cases hE : E i
      · exact wpOp_of_stOp (fun a' h' => wpAny_of_X fuel _ a' _ h') ((h.2 i hi).2 hE)
      · exact wpOp_mono (fun a' w' h' => wpAny_of_X fuel _ a' w' h'.2) ((h.2 i hi).1 hE)⟩

theorem YieldsX.keep {w : World} {oi oj : Oper} {v : Value} (hap : oi.apart ops oj = true) (hsi : ∀ cs b, oi.op ≠ .select cs b) (a : Act) (u : Value) (h : YieldsX P ops S w oi v a) : YieldsX P ops S w oi v (a.put oj.dst u) := by
  obtain ⟨_, _, h3⟩ := Oper.apart_spec hap
  exact fun w' hw => (h w' hw).of_same (execOp_put oi hsi a oj.dst u h3) (wanted_put oi a oj.dst u h3)

/-- A read that yields its value in every world to come may be taken first. -/
theorem take {i : Nat} {oi : Oper} {v : Value} (hi : ops[i]? = some oi) (hEi : E i = false) (hsel : ∀ (j : Nat) (o : Oper) cs b, ops[j]? = some o → o.op ≠ .select cs b)
    (hQ : ∀ c a w, Q (.panic c) (a.put oi.dst v) w → Q (.panic c) a w) :
    ∀ (fuel : Nat) (listed : Array Bool) (a : Act) (w : World),
      (∀ j oj, ops[j]? = some oj → j ≠ i → listed.getD j true = false → (∀ e ∈ oj.after, Region.binds .any e = true → e.on ≠ i) → oi.apart ops oj = true) →
      i ∈ Region.ready .any ops listed → YieldsX P ops S w oi v a →
      wpAnyX P ops Q E S fuel (listed.setIfInBounds i true) (a.put oi.dst v) w → wpAnyX P ops Q E S (fuel + 1) listed a w := by
  intro fuel
  induction fuel with
  | zero =>
    intro listed a w _ hr hy H
    refine ⟨fun h => (by rw [h] at hr; cases hr), fun j hj => ?_⟩
    by_cases hji : j = i
    · subst hji; exact ⟨fun h => (by rw [hEi] at h; cases h), fun _ => (hy w (Only.refl _ _)).stOp hi H⟩
    · have := ready_mono hj hji
      rw [H.1] at this
      cases this
  | succ fuel ih =>
    intro listed a w hfree hr hy H
    refine ⟨fun h => (by rw [h] at hr; cases hr), fun j hj => ?_⟩
    by_cases hji : j = i
    · subst hji; exact ⟨fun h => (by rw [hEi] at h; cases h), fun _ => (hy w (Only.refl _ _)).stOp hi H⟩
    · obtain ⟨hjun, oj, hoj, hall⟩ := mem_ready.1 hj
      have hun := (mem_ready.1 hr).1
      have hnot := Ord.hnot_of hun hall hoj
      have h1 := H.2 j (ready_mono hj hji)
      have hap := hfree j oj hoj hji hjun hnot
      refine ⟨fun hEj => ?_, fun hEj => ?_⟩
      · have h2 := wpOp_putG (Y := fun a => YieldsX P ops S w oi v a) hoj hap (fun cs b => hsel j oj cs b hoj) hQ (fun a u h => h.keep hap (fun cs b => hsel i oi cs b hi) a u) (fun a d h w' hw => (h w' hw).of_same rfl rfl) hy (h1.1 hEj)
        refine wpOp_mono (fun a' w' h3 => ?_) h2
        obtain ⟨h4, h5, h6⟩ := h3
        refine ⟨h5, ih (listed.setIfInBounds j true) a' w' (Ord.free_next hfree hjun) (ready_mono hr (Ne.symm hji)) (fun w'' hw => h4 w'' (h5.trans' hw)) ?_⟩
        rw [Array.setIfInBounds_comm _ _ hji]
        exact h6
      · have h2 := stOp_putG (Y := fun a => YieldsX P ops S w oi v a) hoj hap (fun cs b => hsel j oj cs b hoj) (fun a u h => h.keep hap (fun cs b => hsel i oi cs b hi) a u) hy (h1.2 hEj)
        refine stOp_mono (fun a' h3 => ih (listed.setIfInBounds j true) a' w (Ord.free_next hfree hjun) (ready_mono hr (Ne.symm hji)) h3.1 ?_) h2
        rw [Array.setIfInBounds_comm _ _ hji]
        exact h3.2

/-- A step of the walk: a read, or an effect. -/
inductive Stp where
  | r (i : Nat)
  | e (i : Nat)
def Stp.at : Stp → Nat
  | .r i => i
  | .e i => i
def Stp.eff : Stp → Bool
  | .r _ => false
  | .e _ => true

def pick (l : List Oper) : List Stp → List (Bool × Oper)
  | [] => []
  | .r i :: ns => (false, l.getD i default) :: pick l ns
  | .e i :: ns => (true, l.getD i default) :: pick l ns

def wpOrd (P : Program) (ops : Array Oper) (Q : Exit → Act → World → Prop) (S : List Nat) : List (Bool × Oper) → Act → World → Prop
  | [], a, w => wpList P ops Q [] a w
  | (true, o) :: rest, a, w => wpList P ops (Exit.then (Nx S w (wpOrd P ops Q S rest)) Q) [o] a w
  | (false, o) :: rest, a, w => ∃ v, YieldsX P ops S w o v a ∧ wpOrd P ops Q S rest (a.put o.dst v) w

def stepOk (ops : Array Oper) (E : Nat → Bool) (listed : Array Bool) (s : Stp) : Bool :=
  decide (s.at < ops.size) && (E s.at == s.eff) && (if s.eff then Region.ready .any ops listed == [s.at] else (Region.ready .any ops listed).contains s.at && Region.free .any ops listed s.at)
def ordOk (ops : Array Oper) (E : Nat → Bool) : List Stp → Array Bool → Bool
  | [], listed => Region.ready .any ops listed == []
  | s :: ss, listed => stepOk ops E listed s && ordOk ops E ss (listed.setIfInBounds s.at true)

theorem wpAnyX_ord {l : List Oper} (hl : ops = l.toArray) (hsel : Region.noSelect ops = true) (hQ : ∀ (d : Option Tmp) (v : Value) (c : List PanicEntry) (a : Act) (w : World), Q (.panic c) (a.put d v) w → Q (.panic c) a w) :
    ∀ (ss : List Stp) (listed : Array Bool) (a : Act) (w : World), ordOk ops E ss listed = true → wpOrd P ops Q S (pick l ss) a w → wpAnyX P ops Q E S ss.length listed a w
  | [], listed, a, w, hok, h => ⟨by simpa [ordOk] using hok, h⟩
  | .r i :: ss, listed, a, w, hok, h => by
    simp only [ordOk, stepOk, Stp.at, Stp.eff, Bool.and_eq_true, beq_iff_eq, Bool.false_eq_true, if_false] at hok
    obtain ⟨⟨⟨hi, hE⟩, hr, hf⟩, h2⟩ := hok
    obtain ⟨v, hy, hn⟩ := h
    have hgi : ops[i]? = some (l.getD i default) := by
      subst hl
      have : i < l.length := by simpa using hi
      simp [List.getD, this]
    have ih := wpAnyX_ord hl hsel hQ ss (listed.setIfInBounds i true) _ w h2 hn
    exact take hgi hE (Region.noSelect_spec hsel) (fun c a w => hQ _ v c a w) ss.length listed a w (Region.free_spec hgi hf) (by simpa using hr) hy ih
  | .e i :: ss, listed, a, w, hok, h => by
    simp only [ordOk, stepOk, Stp.at, Stp.eff, Bool.and_eq_true, beq_iff_eq, if_true] at hok
    obtain ⟨⟨⟨hi, hE⟩, hr⟩, h2⟩ := hok
    have hgi : ops[i]? = some (l.getD i default) := by
      subst hl
      have : i < l.length := by simpa using hi
      simp [List.getD, this]
    refine ⟨fun h0 => (by rw [hr] at h0; cases h0), fun j hj => ?_⟩
    rw [hr] at hj
    obtain rfl : j = i := by simpa using hj
    refine ⟨fun _ => ?_, fun h0 => (by rw [hE] at h0; cases h0)⟩
    have ih : ∀ a' w', Nx S w (wpOrd P ops Q S (pick l ss)) a' w' → Nx S w (wpAnyX P ops Q E S ss.length (listed.setIfInBounds j true)) a' w' := fun a' w' h' => ⟨h'.1, wpAnyX_ord hl hsel hQ ss _ a' w' h2 h'.2⟩
    have h' : wpList P ops (Exit.then (Nx S w (wpOrd P ops Q S (pick l ss))) Q) [l.getD j default] a w := h
    unfold wpOp
    simp only [hgi]
    unfold wpList at h'
    split
    · rename_i hw
      rw [if_pos hw] at h'
      rcases h' with h' | ⟨h1, a0, w0, h3⟩
      · refine .inl ?_
        have h3 := Oper.wp_mono (P := P) (K' := Nx S w (wpAnyX P ops Q E S ss.length (listed.setIfInBounds j true))) (fun a' w' h4 => ih a' w' h4) h'
        unfold Oper.wp at h3 ⊢
        generalize (execOp a.eval (l.getD j default)).run P w = r at *
        cases r with
        | ok n w' =>
          cases n <;> simp only [Oper.upon] at h3 ⊢ <;> first | exact h3 | exact Calls.mono h3 (fun e w'' he => by cases e <;> exact he)
        | halt x w' => cases x <;> simp only [Oper.upon] at h3 ⊢ <;> exact h3
      · exact .inr ⟨h1, a0, w0, h3⟩
    · rename_i hw; rw [if_neg hw] at h'; exact ih _ _ h'

def effs : List Stp → Nat → Bool
  | [], _ => false
  | .r _ :: ss, i => effs ss i
  | .e j :: ss, i => (j == i) || effs ss i
/-- May the region be walked in this order? -/
def ok (l : List Oper) (ss : List Stp) : Bool := Region.noSelect l.toArray && decide (ss.length = l.length) && ordOk l.toArray (effs ss) ss (Array.replicate l.length false)

/-- THE LAW. -/
theorem wp {id : Nat} {l : List Oper} (S : List Nat) (ss : List Stp) {a : Act} {w : World} (hm : P.follows .mixedOrders = true) (hok : ok l ss = true)
    (hQ : ∀ (d : Option Tmp) (v : Value) (c : List PanicEntry) (a : Act) (w : World), Q (.panic c) (a.put d v) w → Q (.panic c) a w)
    (h : wpOrd P l.toArray Q S (pick l ss) a w.drew) : (Code.region id l.toArray true).wp P Q a w := by
  simp only [ok, Bool.and_eq_true, decide_eq_true_eq] at hok
  obtain ⟨⟨h1, h2⟩, h3⟩ := hok
  refine wp_region_any hm (wpAny_of_X (E := effs ss) (S := S) _ _ _ _ ?_)
  have := wpAnyX_ord (P := P) (Q := Q) (S := S) rfl h1 hQ ss (Array.replicate l.length false) a w.drew h3 h
  rw [h2] at this
  simpa using this

def stillVUpon (P : Program) (w : World) (K : Value → Prop) : Result Next → Prop
  | .ok (.value v) w' => w' = w ∧ K v
  | .ok .skip w' => w' = w ∧ K undef
  | .ok (.enter f args) w' => w' = w ∧ ∃ v, Calls P f args w (fun e w'' => e = .returned v ∧ w'' = w) ∧ K v
  | _ => False
def stillV (P : Program) (o : Oper) (a : Act) (w : World) (K : Value → Prop) : Prop := stillVUpon P w K ((execOp a.eval o).run P w)
attribute [go_sem] stillV stillVUpon

theorem read {a : Act} {w : World} {o : Oper} {rest : List (Bool × Oper)} (v : Value)
    (h : ∀ (t : { w' : World // Only S w w' }) (K : Value → Prop), (∀ u, u = v → K u) → if Region.wanted o (yielded ops a.tmps) = true then stillV P o a (extS S w t) K else K undef)
    (b : Act) (ha : ∀ K : Act → Prop, (∀ u, u = b → K u) → K (a.put o.dst v)) (hn : wpOrd P ops Q S rest b w) : wpOrd P ops Q S ((false, o) :: rest) a w := by
  refine ⟨v, fun w' hw => ?_, ha (fun x => wpOrd P ops Q S rest x w) (fun u hu => by rw [hu]; exact hn)⟩
  have h1 := h ⟨w', hw⟩ (fun u => u = v) (fun _ h => h)
  split at h1
  · rename_i hwt
    unfold stillV at h1
    simp only [extS] at h1
    generalize hr : (execOp a.eval o).run P w' = r at h1
    cases r with
    | ok n w'' =>
      cases n <;> simp only [stillVUpon] at h1
      case value u => obtain ⟨rfl, rfl⟩ := h1; exact .inl ⟨hwt, .inl hr⟩
      case skip => obtain ⟨rfl, rfl⟩ := h1; exact .inl ⟨hwt, .inr (.inl ⟨hr, rfl⟩)⟩
      case enter f args => obtain ⟨rfl, u, hc, rfl⟩ := h1; exact .inl ⟨hwt, .inr (.inr ⟨f, args, hr, hc⟩)⟩
    | halt x w'' => simp only [stillVUpon] at h1
  · rename_i hwt
    exact .inr ⟨by simpa using hwt, h1.symm⟩
theorem eff {a : Act} {w : World} {o : Oper} {rest : List (Bool × Oper)} (h : wpList P ops (Exit.then (Nx S w (wpOrd P ops Q S rest)) Q) [o] a w) : wpOrd P ops Q S ((true, o) :: rest) a w := h
theorem fin {a : Act} {w : World} (h : wpList P ops Q [] a w) : wpOrd P ops Q S [] a w := h
theorem done {a : Act} {w w' : World} {K : Act → World → Prop} (ho : Only S w w') (h : K a w') : wpList P ops (Exit.then (Nx S w K) Q) [] a w' := ⟨ho, h⟩
end Reg
end Go.Proofs.Ytddfphneidcibaa
