/-
  A REGION THAT DRAWS ITS ORDER, walked once in the order of the text: operations that leave the world alone (still), bare moves (free), and operations that may change it (effects), each effect waiting for all still operations before it and waited for by all behind it. Over any program.
  A REGION THAT DRAWS ITS ORDER, walked once in one order: reads, each shown for every world in which only new blocks and the blocks of S differ, and effects, each of which changes only these. Over any program.
  MORE STEPS of the walk of a drawing region: reads whose value a law of their own gives; whole arrays.
  A DRAWING REGION IN WHICH TWO EFFECTS MAY BE TAKEN IN EITHER ORDER: the walk is a tree.
  A DRAWING REGION WITH QUIET READS AND TWO KINDS OF EFFECTS: effects that only make new blocks, and effects that may change the blocks S; a quiet read is one for which every effect of the second kind waits.
  A DRAWING REGION IN WHICH SEVERAL EFFECTS MAY BE TAKEN IN ANY ORDER: the walk is a tree; quiet reads and two kinds of effects as in Reg5.
  A DRAWING REGION IN WHICH SEVERAL EFFECTS MAY BE TAKEN IN ANY ORDER: the walk is a tree; the blocks that effects may change grow with the blocks that are made.
-/
import Derived.Still
import Derived.Tactics
import Derived.Deep.RegionHeld3
import Derived.Test.YtchbgfgboogniaaDoorGA
import Derived.StillTactics
import Derived.Deep.MidRow
namespace Go.Proofs.YtchbgfgboogniaaDoor
namespace Ord
variable {P : Program} {ops : Array Oper} {Q : Exit → Act → World → Prop}
variable {E : Nat → Bool}
theorem hnot_of {i j : Nat} {oj : Oper} {listed : Array Bool} (hr : listed.getD i true = false) (hall : ∀ e ∈ oj.after, Region.binds .any e = true → listed.getD e.on false = true) (_hj : ops[j]? = some oj) :
    ∀ e ∈ oj.after, Region.binds .any e = true → e.on ≠ i := fun e he hb heq => by
  have h1 := hall e he hb
  rw [heq] at h1
  rcases Nat.lt_or_ge i listed.size with h' | h'
  · simp [h'] at hr h1; rw [hr] at h1; cases h1
  · simp [Array.getElem?_eq_none h'] at h1

theorem free_next {i j : Nat} {oi : Oper} {listed : Array Bool} (hfree : ∀ k ok, ops[k]? = some ok → k ≠ i → listed.getD k true = false → (∀ e ∈ ok.after, Region.binds .any e = true → e.on ≠ i) → oi.apart ops ok = true) (hjun : listed.getD j true = false) :
    ∀ k ok, ops[k]? = some ok → k ≠ i → (listed.setIfInBounds j true).getD k true = false → (∀ e ∈ ok.after, Region.binds .any e = true → e.on ≠ i) → oi.apart ops ok = true := fun k ok hk hki hun hno => by
  refine hfree k ok hk hki ?_ hno
  by_cases hjk : j = k
  · subst hjk; exact hjun
  · rw [getD_set_ne true hjk] at hun; exact hun

theorem Yields.at {o : Oper} {v : Value} {a : Act} (h : Yields P ops o v a) (w : World) : YieldsAt P ops w o v a := h.imp (fun ⟨hw, hv⟩ => ⟨hw, .inl (hv w)⟩) id
/-- A bare move? -/
def isMove (o : Oper) : Bool := match o.op with | .move _ | .assign _ => true | _ => false
def stepOk (ops : Array Oper) (M : Array Nat) (E : Nat → Bool) (listed : Array Bool) (i : Nat) : Bool :=
  if E i then Region.ready .any ops listed == [i]
  else (Region.ready .any ops listed).contains i && Region.free .any ops listed i &&
    (((ops[i]?).map isMove).getD false || (List.range ops.size).all fun j => !E j || listed.getD j true || (M.getD j 0).testBit i)
end Ord
end Go.Proofs.YtchbgfgboogniaaDoor
namespace Go.Proofs.YtchbgfgboogniaaDoor
open Go.RowKit
namespace Reg
variable {P : Program} {ops : Array Oper} {Q : Exit → Act → World → Prop} {E : Nat → Bool} {S : List Nat}
/-- The worlds that a read may see. -/
def extS (S : List Nat) (w : World) (t : { w' : World // Only S w w' }) : World := t.1
@[go_sem] theorem extS_cell (S : List Nat) (w : World) (t : { w' : World // Only S w w' }) (p : Addr) (h : p.block < w.heap.size) (hn : p.block ∉ S) : (extS S w t).cell? p = w.cell? p := t.2.cell h hn

@[go_sem] theorem extS_drew (S : List Nat) (w : World) (t : { w' : World // Only S w.drew w' }) (p : Addr) (h : p.block < w.heap.size) (hn : p.block ∉ S) : (extS S w.drew t).cell? p = w.cell? p := t.2.cell (w := w.drew) h hn

def YieldsX (P : Program) (ops : Array Oper) (S : List Nat) (w : World) (o : Oper) (v : Value) (a : Act) : Prop := ∀ w', Only S w w' → YieldsAt P ops w' o v a

theorem wpOp_putG {Y : Act → Prop} {j : Nat} {oi oj : Oper} {v : Value} (hj : ops[j]? = some oj) (hap : oi.apart ops oj = true) (hsj : ∀ cs b, oj.op ≠ .select cs b)
    (hQ : ∀ c a w, Q (.panic c) (a.put oi.dst v) w → Q (.panic c) a w) (keep : ∀ a u, Y a → Y (a.put oj.dst u)) (keepD : ∀ a d, Y a → Y { a with defers := d :: a.defers })
    {K : Act → World → Prop} {a : Act} {w : World} (hy : Y a) (h : wpOp P ops Q j K (a.put oi.dst v) w) :
    wpOp P ops Q j (fun a' w' => Y a' ∧ K (a'.put oi.dst v) w') a w := by
  obtain ⟨h1, h2, h3⟩ := Oper.apart_spec hap
  unfold wpOp at *
  simp only [hj] at *
  rw [wanted_put oj a oi.dst v h1] at h
  split
  · rename_i hw
    simp only [hw, if_true] at h
    rcases h with h | ⟨hasks, hlets⟩
    case inr => exact .inr ⟨by unfold Oper.asks at *; rw [execOp_put oj hsj a oi.dst v h1] at hasks; exact hasks, hlets⟩
    refine .inl ?_
    unfold Oper.wp at *
    rw [execOp_put oj hsj a oi.dst v h1] at h
    generalize (execOp a.eval oj).run P w = r at *
    cases r with
    | ok n w' =>
      cases n <;> simp only [Oper.upon] at h ⊢
      case value u => exact ⟨keep a u hy, by rw [← Act.put_comm a v u h2]; exact h⟩
      case skip => exact ⟨keep a _ hy, by rw [← Act.put_comm a v undef h2]; exact h⟩
      case defer d =>
        refine ⟨keep _ _ (keepD a d hy), ?_⟩
        rw [← Act.put_comm _ v undef h2, ← Act.put_defers]
        exact h
      case enter f args =>
        refine Calls.mono h fun e w'' he => ?_
        cases e with
        | returned u => exact ⟨keep a u hy, by rw [← Act.put_comm a v u h2]; exact he⟩
        | panicked c => exact hQ _ _ _ he
        | outgrown => exact he
      case row row args => exact Rows.mono h fun u w'' he => ⟨keep a u hy, by rw [← Act.put_comm a v u h2]; exact he⟩
    | halt x w' =>
      cases x <;> simp only [Oper.upon] at h ⊢
      case panic u => exact hQ _ _ _ h
  · rename_i hw
    simp only [hw] at h
    exact ⟨keep a _ hy, by rw [← Act.put_comm a v undef h2]; exact h⟩

theorem stOp_putG {Y : Act → Prop} {j : Nat} {w : World} {oi oj : Oper} {v : Value} (hj : ops[j]? = some oj) (hap : oi.apart ops oj = true) (hsj : ∀ cs b, oj.op ≠ .select cs b) (keep : ∀ a u, Y a → Y (a.put oj.dst u))
    {K : Act → Prop} {a : Act} (hy : Y a) (h : stOp P ops w j K (a.put oi.dst v)) : stOp P ops w j (fun a' => Y a' ∧ K (a'.put oi.dst v)) a := by
  obtain ⟨h1, h2, h3⟩ := Oper.apart_spec hap
  unfold stOp at *
  simp only [hj] at *
  rw [wanted_put oj a oi.dst v h1] at h
  split
  · rename_i hw
    simp only [hw, if_true] at h
    unfold Oper.still at *
    rw [execOp_put oj hsj a oi.dst v h1] at h
    generalize (execOp a.eval oj).run P w = r at *
    cases r with
    | ok n w' =>
      cases n <;> simp only [Oper.stillUpon] at h ⊢
      case value u => exact ⟨h.1, keep a u hy, by rw [← Act.put_comm a v u h2]; exact h.2⟩
      case skip => exact ⟨h.1, keep a _ hy, by rw [← Act.put_comm a v undef h2]; exact h.2⟩
      case enter f args => obtain ⟨hw', u, hc, hn⟩ := h; exact ⟨hw', u, hc, keep a u hy, by rw [← Act.put_comm a v u h2]; exact hn⟩
    | halt x w' => simp only [Oper.stillUpon] at h
  · rename_i hw
    simp only [hw] at h
    exact ⟨keep a _ hy, by rw [← Act.put_comm a v undef h2]; exact h⟩

def Nx (S : List Nat) (w : World) (K : Act → World → Prop) (a' : Act) (w' : World) : Prop := Only S w w' ∧ K a' w'

def wpAnyX (P : Program) (ops : Array Oper) (Q : Exit → Act → World → Prop) (E : Nat → Bool) (S : List Nat) : Nat → Array Bool → Act → World → Prop
  | 0, listed, a, w => Region.ready .any ops listed = [] ∧ Q .normal a w
  | fuel + 1, listed, a, w =>
    (Region.ready .any ops listed = [] → Q .normal a w) ∧
    ∀ i ∈ Region.ready .any ops listed, (E i = true → wpOp P ops Q i (Nx S w (wpAnyX P ops Q E S fuel (listed.setIfInBounds i true))) a w) ∧
      (E i = false → stOp P ops w i (fun a' => wpAnyX P ops Q E S fuel (listed.setIfInBounds i true) a' w) a)

theorem wpAny_of_X : ∀ (fuel : Nat) (listed : Array Bool) (a : Act) (w : World), wpAnyX P ops Q E S fuel listed a w → wpAny P .any ops Q fuel listed a w
  | 0, _, _, _, h => h
  | fuel + 1, _, _, _, h => ⟨h.1, fun i hi => by
      cases hE : E i
      · exact wpOp_of_stOp (fun a' h' => wpAny_of_X fuel _ a' _ h') ((h.2 i hi).2 hE)
      · exact wpOp_mono (fun a' w' h' => wpAny_of_X fuel _ a' w' h'.2) ((h.2 i hi).1 hE)⟩

theorem YieldsX.keep {w : World} {oi oj : Oper} {v : Value} (hap : oi.apart ops oj = true) (hsi : ∀ cs b, oi.op ≠ .select cs b) (a : Act) (u : Value) (h : YieldsX P ops S w oi v a) : YieldsX P ops S w oi v (a.put oj.dst u) := by
  obtain ⟨_, _, h3⟩ := Oper.apart_spec hap
  exact fun w' hw => (h w' hw).of_same (execOp_put oi hsi a oj.dst u h3) (wanted_put oi a oj.dst u h3)

/-- A read that yields its value in every world to come may be taken first. -/
theorem take {i : Nat} {oi : Oper} {v : Value} (hi : ops[i]? = some oi) (hEi : E i = false) (hsel : ∀ (j : Nat) (o : Oper) cs b, ops[j]? = some o → o.op ≠ .select cs b)
    (hQ : ∀ c a w, Q (.panic c) (a.put oi.dst v) w → Q (.panic c) a w) :
    ∀ (fuel : Nat) (listed : Array Bool) (a : Act) (w : World),
      (∀ j oj, ops[j]? = some oj → j ≠ i → listed.getD j true = false → (∀ e ∈ oj.after, Region.binds .any e = true → e.on ≠ i) → oi.apart ops oj = true) →
      i ∈ Region.ready .any ops listed → YieldsX P ops S w oi v a →
      wpAnyX P ops Q E S fuel (listed.setIfInBounds i true) (a.put oi.dst v) w → wpAnyX P ops Q E S (fuel + 1) listed a w := by
  intro fuel
  induction fuel with
  | zero =>
    intro listed a w _ hr hy H
    refine ⟨fun h => (by rw [h] at hr; cases hr), fun j hj => ?_⟩
    by_cases hji : j = i
    · subst hji; exact ⟨fun h => (by rw [hEi] at h; cases h), fun _ => (hy w (Only.refl _ _)).stOp hi H⟩
    · have := ready_mono hj hji
      rw [H.1] at this
      cases this
  | succ fuel ih =>
    intro listed a w hfree hr hy H
    refine ⟨fun h => (by rw [h] at hr; cases hr), fun j hj => ?_⟩
    by_cases hji : j = i
    · subst hji; exact ⟨fun h => (by rw [hEi] at h; cases h), fun _ => (hy w (Only.refl _ _)).stOp hi H⟩
    · obtain ⟨hjun, oj, hoj, hall⟩ := mem_ready.1 hj
      have hun := (mem_ready.1 hr).1
      have hnot := Ord.hnot_of hun hall hoj
      have h1 := H.2 j (ready_mono hj hji)
      have hap := hfree j oj hoj hji hjun hnot
      refine ⟨fun hEj => ?_, fun hEj => ?_⟩
      · have h2 := wpOp_putG (Y := fun a => YieldsX P ops S w oi v a) hoj hap (fun cs b => hsel j oj cs b hoj) hQ (fun a u h => h.keep hap (fun cs b => hsel i oi cs b hi) a u) (fun a d h w' hw => (h w' hw).of_same rfl rfl) hy (h1.1 hEj)
        refine wpOp_mono (fun a' w' h3 => ?_) h2
        obtain ⟨h4, h5, h6⟩ := h3
        refine ⟨h5, ih (listed.setIfInBounds j true) a' w' (Ord.free_next hfree hjun) (ready_mono hr (Ne.symm hji)) (fun w'' hw => h4 w'' (h5.trans' hw)) ?_⟩
        rw [Array.setIfInBounds_comm _ _ hji]
        exact h6
      · have h2 := stOp_putG (Y := fun a => YieldsX P ops S w oi v a) hoj hap (fun cs b => hsel j oj cs b hoj) (fun a u h => h.keep hap (fun cs b => hsel i oi cs b hi) a u) hy (h1.2 hEj)
        refine stOp_mono (fun a' h3 => ih (listed.setIfInBounds j true) a' w (Ord.free_next hfree hjun) (ready_mono hr (Ne.symm hji)) h3.1 ?_) h2
        rw [Array.setIfInBounds_comm _ _ hji]
        exact h3.2

/-- A step of the walk: a read, or an effect. -/
inductive Stp where
  | r (i : Nat)
  | e (i : Nat)
def Stp.at : Stp → Nat
  | .r i => i
  | .e i => i
def Stp.eff : Stp → Bool
  | .r _ => false
  | .e _ => true

def pick (l : List Oper) : List Stp → List (Bool × Oper)
  | [] => []
  | .r i :: ns => (false, l.getD i default) :: pick l ns
  | .e i :: ns => (true, l.getD i default) :: pick l ns

def wpOrd (P : Program) (ops : Array Oper) (Q : Exit → Act → World → Prop) (S : List Nat) : List (Bool × Oper) → Act → World → Prop
  | [], a, w => wpList P ops Q [] a w
  | (true, o) :: rest, a, w => wpList P ops (Exit.then (Nx S w (wpOrd P ops Q S rest)) Q) [o] a w
  | (false, o) :: rest, a, w => ∃ v, YieldsX P ops S w o v a ∧ wpOrd P ops Q S rest (a.put o.dst v) w

def stepOk (ops : Array Oper) (E : Nat → Bool) (listed : Array Bool) (s : Stp) : Bool :=
  decide (s.at < ops.size) && (E s.at == s.eff) && (if s.eff then Region.ready .any ops listed == [s.at] else (Region.ready .any ops listed).contains s.at && Region.free .any ops listed s.at)
def ordOk (ops : Array Oper) (E : Nat → Bool) : List Stp → Array Bool → Bool
  | [], listed => Region.ready .any ops listed == []
  | s :: ss, listed => stepOk ops E listed s && ordOk ops E ss (listed.setIfInBounds s.at true)

theorem wpAnyX_ord {l : List Oper} (hl : ops = l.toArray) (hsel : Region.noSelect ops = true) (hQ : ∀ (d : Option Tmp) (v : Value) (c : List PanicEntry) (a : Act) (w : World), Q (.panic c) (a.put d v) w → Q (.panic c) a w) :
    ∀ (ss : List Stp) (listed : Array Bool) (a : Act) (w : World), ordOk ops E ss listed = true → wpOrd P ops Q S (pick l ss) a w → wpAnyX P ops Q E S ss.length listed a w
  | [], listed, a, w, hok, h => ⟨by simpa [ordOk] using hok, h⟩
  | .r i :: ss, listed, a, w, hok, h => by
    simp only [ordOk, stepOk, Stp.at, Stp.eff, Bool.and_eq_true, beq_iff_eq, Bool.false_eq_true, if_false] at hok
    obtain ⟨⟨⟨hi, hE⟩, hr, hf⟩, h2⟩ := hok
    obtain ⟨v, hy, hn⟩ := h
    have hgi : ops[i]? = some (l.getD i default) := by
      subst hl
      have : i < l.length := by simpa using hi
      simp [List.getD, this]
    have ih := wpAnyX_ord hl hsel hQ ss (listed.setIfInBounds i true) _ w h2 hn
    exact take hgi hE (Region.noSelect_spec hsel) (fun c a w => hQ _ v c a w) ss.length listed a w (Region.free_spec hgi hf) (by simpa using hr) hy ih
  | .e i :: ss, listed, a, w, hok, h => by
    simp only [ordOk, stepOk, Stp.at, Stp.eff, Bool.and_eq_true, beq_iff_eq, if_true] at hok
    obtain ⟨⟨⟨hi, hE⟩, hr⟩, h2⟩ := hok
    have hgi : ops[i]? = some (l.getD i default) := by
      subst hl
      have : i < l.length := by simpa using hi
      simp [List.getD, this]
    refine ⟨fun h0 => (by rw [hr] at h0; cases h0), fun j hj => ?_⟩
    rw [hr] at hj
    obtain rfl : j = i := by simpa using hj
    refine ⟨fun _ => ?_, fun h0 => (by rw [hE] at h0; cases h0)⟩
    have ih : ∀ a' w', Nx S w (wpOrd P ops Q S (pick l ss)) a' w' → Nx S w (wpAnyX P ops Q E S ss.length (listed.setIfInBounds j true)) a' w' := fun a' w' h' => ⟨h'.1, wpAnyX_ord hl hsel hQ ss _ a' w' h2 h'.2⟩
    have h' : wpList P ops (Exit.then (Nx S w (wpOrd P ops Q S (pick l ss))) Q) [l.getD j default] a w := h
    unfold wpOp
    simp only [hgi]
    unfold wpList at h'
    split
    · rename_i hw
      rw [if_pos hw] at h'
      rcases h' with h' | ⟨h1, a0, w0, h3⟩
      · refine .inl ?_
        have h3 := Oper.wp_mono (P := P) (K' := Nx S w (wpAnyX P ops Q E S ss.length (listed.setIfInBounds j true))) (fun a' w' h4 => ih a' w' h4) h'
        unfold Oper.wp at h3 ⊢
        generalize (execOp a.eval (l.getD j default)).run P w = r at *
        cases r with
        | ok n w' =>
          cases n <;> simp only [Oper.upon] at h3 ⊢ <;> first | exact h3 | exact Calls.mono h3 (fun e w'' he => by cases e <;> exact he)
        | halt x w' => cases x <;> simp only [Oper.upon] at h3 ⊢ <;> exact h3
      · exact .inr ⟨h1, a0, w0, h3⟩
    · rename_i hw; rw [if_neg hw] at h'; exact ih _ _ h'

def effs : List Stp → Nat → Bool
  | [], _ => false
  | .r _ :: ss, i => effs ss i
  | .e j :: ss, i => (j == i) || effs ss i
/-- May the region be walked in this order? -/
def ok (l : List Oper) (ss : List Stp) : Bool := Region.noSelect l.toArray && decide (ss.length = l.length) && ordOk l.toArray (effs ss) ss (Array.replicate l.length false)

/-- THE LAW. -/
theorem wp {id : Nat} {l : List Oper} (S : List Nat) (ss : List Stp) {a : Act} {w : World} (hm : P.follows .mixedOrders = true) (hok : ok l ss = true)
    (hQ : ∀ (d : Option Tmp) (v : Value) (c : List PanicEntry) (a : Act) (w : World), Q (.panic c) (a.put d v) w → Q (.panic c) a w)
    (h : wpOrd P l.toArray Q S (pick l ss) a w.drew) : (Code.region id l.toArray true).wp P Q a w := by
  simp only [ok, Bool.and_eq_true, decide_eq_true_eq] at hok
  obtain ⟨⟨h1, h2⟩, h3⟩ := hok
  refine wp_region_any hm (wpAny_of_X (E := effs ss) (S := S) _ _ _ _ ?_)
  have := wpAnyX_ord (P := P) (Q := Q) (S := S) rfl h1 hQ ss (Array.replicate l.length false) a w.drew h3 h
  rw [h2] at this
  simpa using this

def stillVUpon (P : Program) (w : World) (K : Value → Prop) : Result Next → Prop
  | .ok (.value v) w' => w' = w ∧ K v
  | .ok .skip w' => w' = w ∧ K undef
  | .ok (.enter f args) w' => w' = w ∧ ∃ v, Calls P f args w (fun e w'' => e = .returned v ∧ w'' = w) ∧ K v
  | _ => False
def stillV (P : Program) (o : Oper) (a : Act) (w : World) (K : Value → Prop) : Prop := stillVUpon P w K ((execOp a.eval o).run P w)
attribute [go_sem] stillV stillVUpon
theorem read {a : Act} {w : World} {o : Oper} {rest : List (Bool × Oper)} (v : Value)
    (h : ∀ (t : { w' : World // Only S w w' }) (K : Value → Prop), (∀ u, u = v → K u) → if Region.wanted o (yielded ops a.tmps) = true then stillV P o a (extS S w t) K else K undef)
    (b : Act) (ha : ∀ K : Act → Prop, (∀ u, u = b → K u) → K (a.put o.dst v)) (hn : wpOrd P ops Q S rest b w) : wpOrd P ops Q S ((false, o) :: rest) a w := by
  refine ⟨v, fun w' hw => ?_, ha (fun x => wpOrd P ops Q S rest x w) (fun u hu => by rw [hu]; exact hn)⟩
  have h1 := h ⟨w', hw⟩ (fun u => u = v) (fun _ h => h)
  split at h1
  · rename_i hwt
    unfold stillV at h1
    simp only [extS] at h1
    generalize hr : (execOp a.eval o).run P w' = r at h1
    cases r with
    | ok n w'' =>
      cases n <;> simp only [stillVUpon] at h1
      case value u => obtain ⟨rfl, rfl⟩ := h1; exact .inl ⟨hwt, .inl hr⟩
      case skip => obtain ⟨rfl, rfl⟩ := h1; exact .inl ⟨hwt, .inr (.inl ⟨hr, rfl⟩)⟩
      case enter f args => obtain ⟨rfl, u, hc, rfl⟩ := h1; exact .inl ⟨hwt, .inr (.inr ⟨f, args, hr, hc⟩)⟩
    | halt x w'' => simp only [stillVUpon] at h1
  · rename_i hwt
    exact .inr ⟨by simpa using hwt, h1.symm⟩
theorem eff {a : Act} {w : World} {o : Oper} {rest : List (Bool × Oper)} (h : wpList P ops (Exit.then (Nx S w (wpOrd P ops Q S rest)) Q) [o] a w) : wpOrd P ops Q S ((true, o) :: rest) a w := h
theorem fin {a : Act} {w : World} (h : wpList P ops Q [] a w) : wpOrd P ops Q S [] a w := h
theorem done {a : Act} {w w' : World} {K : Act → World → Prop} (ho : Only S w w') (h : K a w') : wpList P ops (Exit.then (Nx S w K) Q) [] a w' := ⟨ho, h⟩
end Reg
end Go.Proofs.YtchbgfgboogniaaDoor
namespace Go.Proofs.YtchbgfgboogniaaDoor
open Go.RowKit
namespace Reg
variable {P : Program} {ops : Array Oper} {Q : Exit → Act → World → Prop} {S : List Nat}
/-- A read whose value is known by a law of its own. -/
theorem readY {a : Act} {w : World} {o : Oper} {rest : List (Bool × Oper)} {v : Value} (hy : YieldsIf P ops (fun w' => Only S w w') o v a)
    (b : Act) (ha : ∀ K : Act → Prop, (∀ u, u = b → K u) → K (a.put o.dst v)) (hn : wpOrd P ops Q S rest b w) : wpOrd P ops Q S ((false, o) :: rest) a w :=
  ⟨v, fun _ hw => hy.imp (fun ⟨h1, h2⟩ => ⟨h1, .inl (h2 _ hw)⟩) id, ha (fun x => wpOrd P ops Q S rest x w) (fun u hu => by rw [hu]; exact hn)⟩
/-- A whole array (or struct) read out of a block of its own. -/
theorem load {a : Act} {w : World} {o : Oper} {rest : List (Bool × Oper)} (ty : TypeId) (x : Operand) (g : Nat) (cs : List Value) {t : TypeId} (hB : Blk w g t cs) (hg : g ∉ S) (hw : Region.wanted o (yielded ops a.tmps) = true) (ho : o.op = .load ty x)
    (hx : a.eval x = .pointer (some ⟨g, 0, none⟩)) {d : TypeDesc} (hu : P.underlying ty = some d) (hd : d.isRow = true) (hi : (P.info? ty).map (·.size) = some cs.length)
    (b : Act) (ha : ∀ K : Act → Prop, (∀ u, u = b → K u) → K (a.put o.dst (.agg cs.toArray))) (hn : wpOrd P ops Q S rest b w) : wpOrd P ops Q S ((false, o) :: rest) a w :=
  readY (yieldsIf_load_mid hw ty x ho g 0 hx cs d (fun w' hw' => fun j v hv => by rw [Nat.zero_add]; exact ((hB.keep hw' hg).cell j).trans hv) hu hd hi) b ha hn
end Reg
end Go.Proofs.YtchbgfgboogniaaDoor
namespace Go.Proofs.YtchbgfgboogniaaDoor
open Go.RowKit
namespace Reg
variable {P : Program} {ops : Array Oper} {Q : Exit → Act → World → Prop} {E : Nat → Bool} {S : List Nat}
inductive Tr where
  | fin
  | r (i : Nat) (t : Tr)
  | e (i : Nat) (t : Tr)
  | two (i : Nat) (s : Tr) (j : Nat) (t : Tr)

def Tr.len : Tr → Nat
  | .fin => 0
  | .r _ t => t.len + 1
  | .e _ t => t.len + 1
  | .two _ s _ _ => s.len + 1
def Tr.effs : Tr → Nat → Bool
  | .fin, _ => false
  | .r _ t, k => t.effs k
  | .e i t, k => (i == k) || t.effs k
  | .two i s j t, k => (i == k) || (j == k) || s.effs k || t.effs k

end Reg
end Go.Proofs.YtchbgfgboogniaaDoor
namespace Go.Proofs.YtchbgfgboogniaaDoor
open Go.RowKit
namespace Reg
variable {P : Program} {ops : Array Oper} {Q : Exit → Act → World → Prop} {E : Nat → Nat} {S : List Nat}
/-- What an effect of a kind may change. -/
def Sl (S : List Nat) : Nat → List Nat
  | 2 => S
  | _ => []
theorem Sl_le (S : List Nat) (k : Nat) {w w' : World} (h : Only (Sl S k) w w') : Only S w w' := by
  unfold Sl at h
  split at h
  · exact h
  · exact h.mono (by simp)

/-- A step: a read, a quiet read, an effect that makes new blocks only, an effect that may change S. -/
inductive Sy where
  | r (i : Nat)
  | q (i : Nat)
  | n (i : Nat)
  | e (i : Nat)
def pickY (l : List Oper) : List Sy → List (Nat × Oper)
  | [] => []
  | .r i :: ns => (0, l.getD i default) :: pickY l ns
  | .q i :: ns => (1, l.getD i default) :: pickY l ns
  | .n i :: ns => (2, l.getD i default) :: pickY l ns
  | .e i :: ns => (3, l.getD i default) :: pickY l ns
def waitsY (ops : Array Oper) (E : Nat → Nat) (listed : Array Bool) (i : Nat) : Bool :=
  (List.range ops.size).all fun j => !(E j == 2) || listed.getD j true || ((ops.getD j default).after.any fun e => Region.binds .any e && (e.on == i))
end Reg
end Go.Proofs.YtchbgfgboogniaaDoor
namespace Go.Proofs.YtchbgfgboogniaaDoor
open Go.RowKit
namespace Reg
variable {P : Program} {ops : Array Oper} {Q : Exit → Act → World → Prop} {E : Nat → Nat} {S : List Nat}
/-- A walk: at a choice the effects that are ready, each with the walk behind it. -/
inductive Tz where
  | fin
  | r (i : Nat) (t : Tz)
  | q (i : Nat) (t : Tz)
  | no
  | n (i : Nat) (t : Tz) (u : Tz)
  | e (i : Nat) (t : Tz) (u : Tz)
def Tz.len : Tz → Nat
  | .fin => 0
  | .no => 0
  | .r _ t => t.len + 1
  | .q _ t => t.len + 1
  | .n _ t _ => t.len + 1
  | .e _ t _ => t.len + 1
def Tz.eff : Tz → Nat → Nat
  | .fin, _ => 0
  | .no, _ => 0
  | .r _ t, k => t.eff k
  | .q _ t, k => t.eff k
  | .n i t u, k => if i == k then 1 else Nat.max (t.eff k) (u.eff k)
  | .e i t u, k => if i == k then 2 else Nat.max (t.eff k) (u.eff k)
def Tz.heads : Tz → List Nat
  | .n i _ u => i :: u.heads
  | .e i _ u => i :: u.heads
  | _ => []
def okZ (ops : Array Oper) (E : Nat → Nat) : Bool → Tz → Array Bool → Bool
  | true, .fin, listed => Region.ready .any ops listed == []
  | true, .r i t, listed => decide (i < ops.size) && (E i == 0) && (Region.ready .any ops listed).contains i && Region.free .any ops listed i && okZ ops E true t (listed.setIfInBounds i true)
  | true, .q i t, listed => decide (i < ops.size) && (E i == 0) && (Region.ready .any ops listed).contains i && Region.free .any ops listed i && waitsY ops E listed i && okZ ops E true t (listed.setIfInBounds i true)
  | top, .n i t u, listed => decide (i < ops.size) && (E i == 1) && (!top || (Region.ready .any ops listed == i :: u.heads)) && okZ ops E true t (listed.setIfInBounds i true) && (u.heads == [] || u.len == t.len + 1) && okZ ops E false u listed
  | top, .e i t u, listed => decide (i < ops.size) && (E i == 2) && (!top || (Region.ready .any ops listed == i :: u.heads)) && okZ ops E true t (listed.setIfInBounds i true) && (u.heads == [] || u.len == t.len + 1) && okZ ops E false u listed
  | false, .no, _ => true
  | _, _, _ => false
def okZL (l : List Oper) (t : Tz) : Bool := Region.noSelect l.toArray && decide (t.len = l.length) && okZ l.toArray t.eff true t (Array.replicate l.length false)
end Reg
end Go.Proofs.YtchbgfgboogniaaDoor
namespace Go.Proofs.YtchbgfgboogniaaDoor
open Go.RowKit
namespace Reg
variable {P : Program} {ops : Array Oper} {Q : Exit → Act → World → Prop} {E : Nat → Nat}
/-- More blocks, the new ones among them made since. -/
def Gr (S S' : List Nat) (w : World) : Prop := ∀ x ∈ S', x ∈ S ∨ w.heap.size ≤ x
theorem Gr.refl (S : List Nat) (w : World) : Gr S S w := fun _ h => .inl h
def Nz (S T : List Nat) (w : World) (K : List Nat → Act → World → Prop) (a' : Act) (w' : World) : Prop := ∃ S', Gr S S' w ∧ Only T w w' ∧ K S' a' w'
def wpAnyZ (P : Program) (ops : Array Oper) (Q : Exit → Act → World → Prop) (E : Nat → Nat) : Nat → Array Bool → List Nat → Act → World → Prop
  | 0, listed, _, a, w => Region.ready .any ops listed = [] ∧ Q .normal a w
  | fuel + 1, listed, S, a, w =>
    (Region.ready .any ops listed = [] → Q .normal a w) ∧
    ∀ i ∈ Region.ready .any ops listed, (E i ≠ 0 → wpOp P ops Q i (Nz S (Sl S (E i)) w (wpAnyZ P ops Q E fuel (listed.setIfInBounds i true))) a w) ∧
      (E i = 0 → stOp P ops w i (fun a' => wpAnyZ P ops Q E fuel (listed.setIfInBounds i true) S a' w) a)
theorem wpAny_of_Z : ∀ (fuel : Nat) (listed : Array Bool) (S : List Nat) (a : Act) (w : World), wpAnyZ P ops Q E fuel listed S a w → wpAny P .any ops Q fuel listed a w
  | 0, _, _, _, _, h => h
  | fuel + 1, _, _, _, _, h => ⟨h.1, fun i hi => by
      by_cases hE : E i = 0
      · exact wpOp_of_stOp (fun a' h' => wpAny_of_Z fuel _ _ a' _ h') ((h.2 i hi).2 hE)
      · exact wpOp_mono (fun a' w' ⟨S', _, _, h'⟩ => wpAny_of_Z fuel _ S' a' w' h') ((h.2 i hi).1 hE)⟩
def Tb (b : Bool) (S : List Nat) : List Nat := if b then S else []
theorem Tb_grow {b : Bool} {S S' : List Nat} {w : World} (h : Gr S S' w) : ∀ x ∈ Tb b S', x < w.heap.size → x ∈ Tb b S := by
  intro x hx hlt
  cases b
  · simp [Tb] at hx
  · simp only [Tb, if_true] at hx ⊢
    rcases h x hx with h | h
    · exact h
    · omega
theorem takeZ {b : Bool} {i : Nat} {oi : Oper} {v : Value} (hi : ops[i]? = some oi) (hEi : E i = 0) (hsel : ∀ (j : Nat) (o : Oper) cs b, ops[j]? = some o → o.op ≠ .select cs b)
    (hQ : ∀ c a w, Q (.panic c) (a.put oi.dst v) w → Q (.panic c) a w) :
    ∀ (fuel : Nat) (listed : Array Bool) (S : List Nat) (a : Act) (w : World),
      (∀ j oj, ops[j]? = some oj → j ≠ i → listed.getD j true = false → (∀ e ∈ oj.after, Region.binds .any e = true → e.on ≠ i) → oi.apart ops oj = true) →
      (∀ j oj, ops[j]? = some oj → E j ≠ 0 → listed.getD j true = false → (∃ e ∈ oj.after, Region.binds .any e = true ∧ e.on = i) ∨ (∀ S w w', Only (Sl S (E j)) w w' → Only (Tb b S) w w')) →
      i ∈ Region.ready .any ops listed → YieldsX P ops (Tb b S) w oi v a →
      wpAnyZ P ops Q E fuel (listed.setIfInBounds i true) S (a.put oi.dst v) w → wpAnyZ P ops Q E (fuel + 1) listed S a w := by
  intro fuel
  induction fuel with
  | zero =>
    intro listed S a w _ _ hr hy H
    refine ⟨fun h => (by rw [h] at hr; cases hr), fun j hj => ?_⟩
    by_cases hji : j = i
    · subst hji; exact ⟨fun h => absurd hEi h, fun _ => (hy w (Only.refl _ _)).stOp hi H⟩
    · have := ready_mono hj hji
      rw [H.1] at this
      cases this
  | succ fuel ih =>
    intro listed S a w hfree hblk hr hy H
    refine ⟨fun h => (by rw [h] at hr; cases hr), fun j hj => ?_⟩
    by_cases hji : j = i
    · subst hji; exact ⟨fun h => absurd hEi h, fun _ => (hy w (Only.refl _ _)).stOp hi H⟩
    · obtain ⟨hjun, oj, hoj, hall⟩ := mem_ready.1 hj
      have hun := (mem_ready.1 hr).1
      have hnot := Ord.hnot_of hun hall hoj
      have h1 := H.2 j (ready_mono hj hji)
      have hap := hfree j oj hoj hji hjun hnot
      have hblk' : ∀ k ok, ops[k]? = some ok → E k ≠ 0 → (listed.setIfInBounds j true).getD k true = false → (∃ e ∈ ok.after, Region.binds .any e = true ∧ e.on = i) ∨ (∀ S w w', Only (Sl S (E k)) w w' → Only (Tb b S) w w') := fun k ok hk hEk hlk => hblk k ok hk hEk (by
        by_cases hjk : j = k
        · subst hjk; exact hjun
        · rw [getD_set_ne true hjk] at hlk; exact hlk)
      refine ⟨fun hEj => ?_, fun hEj => ?_⟩
      · rcases hblk j oj hoj hEj hjun with ⟨e, he, hb, ho⟩ | hT
        · exact absurd ho (hnot e he hb)
        · have h2 := wpOp_putG (Y := fun a => YieldsX P ops (Tb b S) w oi v a) hoj hap (fun cs b => hsel j oj cs b hoj) hQ (fun a u h => h.keep hap (fun cs b => hsel i oi cs b hi) a u) (fun a d h w' hw => (h w' hw).of_same rfl rfl) hy (h1.1 hEj)
          refine wpOp_mono (fun a' w' h3 => ?_) h2
          obtain ⟨h4, S', h5, h6, h7⟩ := h3
          refine ⟨S', h5, h6, ih (listed.setIfInBounds j true) S' a' w' (Ord.free_next hfree hjun) hblk' (ready_mono hr (Ne.symm hji)) (fun w'' hw => h4 w'' ((hT _ _ _ h6).trans hw (Tb_grow h5))) ?_⟩
          rw [Array.setIfInBounds_comm _ _ hji]
          exact h7
      · have h2 := stOp_putG (Y := fun a => YieldsX P ops (Tb b S) w oi v a) hoj hap (fun cs b => hsel j oj cs b hoj) (fun a u h => h.keep hap (fun cs b => hsel i oi cs b hi) a u) hy (h1.2 hEj)
        refine stOp_mono (fun a' h3 => ih (listed.setIfInBounds j true) S a' w (Ord.free_next hfree hjun) hblk' (ready_mono hr (Ne.symm hji)) h3.1 ?_) h2
        rw [Array.setIfInBounds_comm _ _ hji]
        exact h3.2

def wpG (P : Program) (l : List Oper) (Q : Exit → Act → World → Prop) : Tz → List Nat → Act → World → Prop
  | .fin, _, a, w => wpList P l.toArray Q [] a w
  | .no, _, _, _ => True
  | .r i t, S, a, w => ∃ v, YieldsX P l.toArray S w (l.getD i default) v a ∧ wpG P l Q t S (a.put (l.getD i default).dst v) w
  | .q i t, S, a, w => ∃ v, YieldsX P l.toArray [] w (l.getD i default) v a ∧ wpG P l Q t S (a.put (l.getD i default).dst v) w
  | .n i t u, S, a, w => wpList P l.toArray (Exit.then (Nz S [] w (wpG P l Q t)) Q) [l.getD i default] a w ∧ wpG P l Q u S a w
  | .e i t u, S, a, w => wpList P l.toArray (Exit.then (Nz S S w (wpG P l Q t)) Q) [l.getD i default] a w ∧ wpG P l Q u S a w

theorem effStepZ {l : List Oper} {S T : List Nat} (hl : ops = l.toArray) {i : Nat} (hi : i < ops.size) {K K' : List Nat → Act → World → Prop} {a : Act} {w : World} (hK : ∀ S' a' w', K S' a' w' → K' S' a' w')
    (h' : wpList P ops (Exit.then (Nz S T w K) Q) [l.getD i default] a w) : wpOp P ops Q i (Nz S T w K') a w := by
  have hgi : ops[i]? = some (l.getD i default) := by
    subst hl
    have : i < l.length := by simpa using hi
    simp [List.getD, this]
  have ih : ∀ a' w', Nz S T w K a' w' → Nz S T w K' a' w' := fun a' w' ⟨S', h1, h2, h3⟩ => ⟨S', h1, h2, hK S' a' w' h3⟩
  unfold wpOp
  simp only [hgi]
  unfold wpList at h'
  split
  · rename_i hw
    rw [if_pos hw] at h'
    rcases h' with h' | ⟨h1, a0, w0, h3⟩
    · refine .inl ?_
      have h3 := Oper.wp_mono (P := P) (K' := Nz S T w K') (fun a' w' h4 => ih a' w' h4) h'
      unfold Oper.wp at h3 ⊢
      generalize (execOp a.eval (l.getD i default)).run P w = r at *
      cases r with
      | ok n w' =>
        cases n <;> simp only [Oper.upon] at h3 ⊢ <;> first | exact h3 | exact Calls.mono h3 (fun e w'' he => by cases e <;> exact he)
      | halt x w' => cases x <;> simp only [Oper.upon] at h3 ⊢ <;> exact h3
    · exact .inr ⟨h1, a0, w0, h3⟩
  · rename_i hw; rw [if_neg hw] at h'; exact ih _ _ h'
theorem waitsY_spec' {listed : Array Bool} {i : Nat} (h : waitsY ops E listed i = true) (j : Nat) (oj : Oper) (hj : ops[j]? = some oj) (hE : E j ≠ 0) (hl : listed.getD j true = false) : (∃ e ∈ oj.after, Region.binds .any e = true ∧ e.on = i) ∨ (∀ S w w', Only (Sl S (E j)) w w' → Only (Tb false S) w w') := by
  by_cases hE2 : E j = 2
  · left
    have hlt : j < ops.size := by
      rcases Nat.lt_or_ge j ops.size with h' | h'
      · exact h'
      · rw [Array.getElem?_eq_none h'] at hj; cases hj
    have h1 := List.all_eq_true.1 h j (List.mem_range.2 hlt)
    have hd : ops.getD j default = oj := by simp [Array.getD, hlt] at hj ⊢; exact hj
    rw [hE2, hl, hd] at h1
    simp only [beq_self_eq_true, Bool.not_true, Bool.false_or, Array.any_eq_true] at h1
    obtain ⟨k, hk, h2⟩ := h1
    simp only [Bool.and_eq_true, beq_iff_eq] at h2
    exact ⟨oj.after[k], Array.getElem_mem hk, h2.1, h2.2⟩
  · right
    intro S w w' h'
    unfold Sl at h'
    split at h'
    · rename_i h2; exact absurd h2 hE2
    · exact h'
theorem wpAnyZ_g {l : List Oper} (hl : ops = l.toArray) (hsel : Region.noSelect ops = true) (hQ : ∀ (d : Option Tmp) (v : Value) (c : List PanicEntry) (a : Act) (w : World), Q (.panic c) (a.put d v) w → Q (.panic c) a w) :
    ∀ (t : Tz), (∀ (listed : Array Bool) (S : List Nat) (a : Act) (w : World), okZ ops E true t listed = true → wpG P l Q t S a w → wpAnyZ P ops Q E t.len listed S a w) ∧
      (∀ (listed : Array Bool) (S : List Nat) (a : Act) (w : World) (n : Nat), okZ ops E false t listed = true → (t.heads = [] ∨ t.len = n + 1) → wpG P l Q t S a w → ∀ k ∈ t.heads, E k ≠ 0 ∧ wpOp P ops Q k (Nz S (Sl S (E k)) w (wpAnyZ P ops Q E n (listed.setIfInBounds k true))) a w)
  | .fin => ⟨fun listed S a w hok h => ⟨by simpa [okZ] using hok, by subst hl; exact h⟩, fun _ _ _ _ _ hok _ _ => by simp [okZ] at hok⟩
  | .no => ⟨fun _ _ _ _ hok _ => by simp [okZ] at hok, fun _ _ _ _ _ _ _ _ k hk => by simp [Tz.heads] at hk⟩
  | .r i t => ⟨fun listed S a w hok h => by
      simp only [okZ, Bool.and_eq_true, beq_iff_eq, decide_eq_true_eq] at hok
      obtain ⟨⟨⟨⟨hi, hE⟩, hr⟩, hf⟩, h2⟩ := hok
      obtain ⟨v, hy, hn⟩ := h
      have hgi : ops[i]? = some (l.getD i default) := by
        subst hl
        have : i < l.length := by simpa using hi
        simp [List.getD, this]
      rw [← hl] at hy
      exact takeZ (b := true) hgi hE (Region.noSelect_spec hsel) (fun c a w => hQ _ v c a w) t.len listed S a w (Region.free_spec hgi hf) (fun _ _ _ _ _ => .inr fun S _ _ h => Sl_le S _ h) (by simpa using hr) hy ((wpAnyZ_g hl hsel hQ t).1 _ S _ w h2 hn),
    fun _ _ _ _ _ hok _ _ => by simp [okZ] at hok⟩
  | .q i t => ⟨fun listed S a w hok h => by
      simp only [okZ, Bool.and_eq_true, beq_iff_eq, decide_eq_true_eq] at hok
      obtain ⟨⟨⟨⟨⟨hi, hE⟩, hr⟩, hf⟩, hw⟩, h2⟩ := hok
      obtain ⟨v, hy, hn⟩ := h
      have hgi : ops[i]? = some (l.getD i default) := by
        subst hl
        have : i < l.length := by simpa using hi
        simp [List.getD, this]
      rw [← hl] at hy
      exact takeZ (b := false) hgi hE (Region.noSelect_spec hsel) (fun c a w => hQ _ v c a w) t.len listed S a w (Region.free_spec hgi hf) (fun j oj hj hE' hlj => (waitsY_spec' hw j oj hj hE' hlj)) (by simpa using hr) hy ((wpAnyZ_g hl hsel hQ t).1 _ S _ w h2 hn),
    fun _ _ _ _ _ hok _ _ => by simp [okZ] at hok⟩
  | .n i t u => by
    have main : ∀ (listed : Array Bool) (S : List Nat) (a : Act) (w : World) (top : Bool), okZ ops E top (.n i t u) listed = true → wpG P l Q (.n i t u) S a w → ∀ k ∈ i :: u.heads, E k ≠ 0 ∧ wpOp P ops Q k (Nz S (Sl S (E k)) w (wpAnyZ P ops Q E t.len (listed.setIfInBounds k true))) a w := by
      intro listed S a w top hok h k hk
      have hok' : (decide (i < ops.size) && (E i == 1) && (!top || (Region.ready .any ops listed == i :: u.heads)) && okZ ops E true t (listed.setIfInBounds i true) && (u.heads == [] || u.len == t.len + 1) && okZ ops E false u listed) = true := by cases top <;> exact hok
      simp only [Bool.and_eq_true, beq_iff_eq, decide_eq_true_eq] at hok'
      obtain ⟨⟨⟨⟨⟨hi, hE⟩, _⟩, h2⟩, h3⟩, h4⟩ := hok'
      rcases List.mem_cons.1 hk with rfl | hk
      · refine ⟨by rw [hE]; decide, ?_⟩
        rw [hE]
        have h1 := h.1
        rw [← hl] at h1
        exact effStepZ hl hi (fun S' a' w' h' => (wpAnyZ_g hl hsel hQ t).1 _ S' a' w' h2 h') h1
      · refine (wpAnyZ_g hl hsel hQ u).2 listed S a w t.len h4 ?_ h.2 k hk
        simpa using h3
    refine ⟨fun listed S a w hok h => ?_, fun listed S a w n hok hlen h k hk => ?_⟩
    · have hr : Region.ready .any ops listed = i :: u.heads := by
        simp only [okZ, Bool.and_eq_true, beq_iff_eq, decide_eq_true_eq, Bool.not_true, Bool.false_or] at hok
        exact hok.1.1.1.2
      refine ⟨fun h0 => (by rw [hr] at h0; cases h0), fun j hj => ?_⟩
      rw [hr] at hj
      obtain ⟨hE, hw⟩ := main listed S a w true hok h j hj
      exact ⟨fun _ => hw, fun h0 => absurd h0 hE⟩
    · have hn : t.len = n := by
        rcases hlen with h0 | h0
        · simp [Tz.heads] at h0
        · simp [Tz.len] at h0; exact h0
      subst hn
      exact main listed S a w false hok h k hk
  | .e i t u => by
    have main : ∀ (listed : Array Bool) (S : List Nat) (a : Act) (w : World) (top : Bool), okZ ops E top (.e i t u) listed = true → wpG P l Q (.e i t u) S a w → ∀ k ∈ i :: u.heads, E k ≠ 0 ∧ wpOp P ops Q k (Nz S (Sl S (E k)) w (wpAnyZ P ops Q E t.len (listed.setIfInBounds k true))) a w := by
      intro listed S a w top hok h k hk
      have hok' : (decide (i < ops.size) && (E i == 2) && (!top || (Region.ready .any ops listed == i :: u.heads)) && okZ ops E true t (listed.setIfInBounds i true) && (u.heads == [] || u.len == t.len + 1) && okZ ops E false u listed) = true := by cases top <;> exact hok
      simp only [Bool.and_eq_true, beq_iff_eq, decide_eq_true_eq] at hok'
      obtain ⟨⟨⟨⟨⟨hi, hE⟩, _⟩, h2⟩, h3⟩, h4⟩ := hok'
      rcases List.mem_cons.1 hk with rfl | hk
      · refine ⟨by rw [hE]; decide, ?_⟩
        rw [hE]
        have h1 := h.1
        rw [← hl] at h1
        exact effStepZ hl hi (fun S' a' w' h' => (wpAnyZ_g hl hsel hQ t).1 _ S' a' w' h2 h') h1
      · refine (wpAnyZ_g hl hsel hQ u).2 listed S a w t.len h4 ?_ h.2 k hk
        simpa using h3
    refine ⟨fun listed S a w hok h => ?_, fun listed S a w n hok hlen h k hk => ?_⟩
    · have hr : Region.ready .any ops listed = i :: u.heads := by
        simp only [okZ, Bool.and_eq_true, beq_iff_eq, decide_eq_true_eq, Bool.not_true, Bool.false_or] at hok
        exact hok.1.1.1.2
      refine ⟨fun h0 => (by rw [hr] at h0; cases h0), fun j hj => ?_⟩
      rw [hr] at hj
      obtain ⟨hE, hw⟩ := main listed S a w true hok h j hj
      exact ⟨fun _ => hw, fun h0 => absurd h0 hE⟩
    · have hn : t.len = n := by
        rcases hlen with h0 | h0
        · simp [Tz.heads] at h0
        · simp [Tz.len] at h0; exact h0
      subst hn
      exact main listed S a w false hok h k hk

/-- THE LAW. -/
theorem wpGL {id : Nat} {l : List Oper} (S : List Nat) (t : Tz) {a : Act} {w : World} (hm : P.follows .mixedOrders = true) (hok : okZL l t = true)
    (hQ : ∀ (d : Option Tmp) (v : Value) (c : List PanicEntry) (a : Act) (w : World), Q (.panic c) (a.put d v) w → Q (.panic c) a w)
    (h : wpG P l Q t S a w.drew) : (Code.region id l.toArray true).wp P Q a w := by
  simp only [okZL, Bool.and_eq_true, decide_eq_true_eq] at hok
  obtain ⟨⟨h1, h2⟩, h3⟩ := hok
  refine wp_region_any hm (wpAny_of_Z (E := t.eff) _ _ S _ _ ?_)
  have := (wpAnyZ_g (P := P) (Q := Q) (E := t.eff) (ops := l.toArray) rfl h1 hQ t).1 (Array.replicate l.length false) S a w.drew h3 h
  rw [h2] at this
  simpa using this
end Reg
end Go.Proofs.YtchbgfgboogniaaDoor
