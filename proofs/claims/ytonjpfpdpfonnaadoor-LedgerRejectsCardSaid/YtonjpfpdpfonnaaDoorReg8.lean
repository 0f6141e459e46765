/-
  A DRAWING REGION, with quiet reads for which the effects wait through others.
-/
import Derived.Test.YtonjpfpdpfonnaaDoorSyY
namespace Go.Proofs.YtonjpfpdpfonnaaDoor
open Go.RowKit
namespace Reg
variable {P : Program} {ops : Array Oper} {Q : Exit → Act → World → Prop} {E : Nat → Nat}
/-- j waits for i, through others that are not yet listed. -/
def reach (ops : Array Oper) (listed : Array Bool) (i : Nat) : Nat → Nat → Bool
  | 0, _ => false
  | n + 1, j => !(listed.getD j true) && ((ops.getD j default).after.any fun e => Region.binds .any e && (e.on == i || reach ops listed i n e.on))
def waitsT (ops : Array Oper) (E : Nat → Nat) (listed : Array Bool) (i : Nat) : Bool :=
  (List.range ops.size).all fun j => !(E j == 2) || listed.getD j true || reach ops listed i ops.size j
theorem reach_un {listed : Array Bool} {i n j : Nat} (h : reach ops listed i n j = true) : listed.getD j true = false := by
  cases n with
  | zero => cases h
  | succ n =>
    simp only [reach, Bool.and_eq_true, Bool.not_eq_true'] at h
    exact h.1
theorem reach_step {listed : Array Bool} {i : Nat} (j : Nat) (h : ∃ n, reach ops listed i n j = true) (oj : Oper) (hj : ops[j]? = some oj) : ∃ e ∈ oj.after, Region.binds .any e = true ∧ (e.on = i ∨ ∃ n, reach ops listed i n e.on = true) := by
  obtain ⟨n, h⟩ := h
  cases n with
  | zero => cases h
  | succ n =>
    have hlt : j < ops.size := by
      rcases Nat.lt_or_ge j ops.size with h' | h'
      · exact h'
      · rw [Array.getElem?_eq_none h'] at hj; cases hj
    have hd : ops.getD j default = oj := by simp [Array.getD, hlt] at hj ⊢; exact hj
    simp only [reach, hd, Bool.and_eq_true, Array.any_eq_true] at h
    obtain ⟨-, k, hk, h1, h2⟩ := h
    refine ⟨oj.after[k], Array.getElem_mem hk, h1, ?_⟩
    simp only [Bool.or_eq_true, beq_iff_eq] at h2
    rcases h2 with h2 | h2
    · exact .inl h2
    · exact .inr ⟨n, h2⟩
theorem waitsT_spec {listed : Array Bool} {i : Nat} (h : waitsT ops E listed i = true) (j : Nat) (oj : Oper) (hj : ops[j]? = some oj) (hE : E j ≠ 0) (hl : listed.getD j true = false) : (∃ n, reach ops listed i n j = true) ∨ (∀ S w w', Only (Sl S (E j)) w w' → Only (Tb false S) w w') := by
  by_cases hE2 : E j = 2
  · left
    have hlt : j < ops.size := by
      rcases Nat.lt_or_ge j ops.size with h' | h'
      · exact h'
      · rw [Array.getElem?_eq_none h'] at hj; cases hj
    have h1 := List.all_eq_true.1 h j (List.mem_range.2 hlt)
    rw [hE2, hl] at h1
    simp only [beq_self_eq_true, Bool.not_true, Bool.false_or] at h1
    exact ⟨_, h1⟩
  · right
    intro S w w' h'
    unfold Sl at h'
    split at h'
    · rename_i h2; exact absurd h2 hE2
    · exact h'
def okV (ops : Array Oper) (E : Nat → Nat) : Bool → Tz → Array Bool → Bool
  | true, .fin, listed => Region.ready .any ops listed == []
  | true, .r i t, listed => decide (i < ops.size) && (E i == 0) && (Region.ready .any ops listed).contains i && Region.free .any ops listed i && okV ops E true t (listed.setIfInBounds i true)
  | true, .q i t, listed => decide (i < ops.size) && (E i == 0) && (Region.ready .any ops listed).contains i && Region.free .any ops listed i && waitsT ops E listed i && okV ops E true t (listed.setIfInBounds i true)
  | top, .n i t u, listed => decide (i < ops.size) && (E i == 1) && (!top || (Region.ready .any ops listed == i :: u.heads)) && okV ops E true t (listed.setIfInBounds i true) && (u.heads == [] || u.len == t.len + 1) && okV ops E false u listed
  | top, .e i t u, listed => decide (i < ops.size) && (E i == 2) && (!top || (Region.ready .any ops listed == i :: u.heads)) && okV ops E true t (listed.setIfInBounds i true) && (u.heads == [] || u.len == t.len + 1) && okV ops E false u listed
  | false, .no, _ => true
  | _, _, _ => false
def okVL (l : List Oper) (t : Tz) : Bool := Region.noSelect l.toArray && decide (t.len = l.length) && okV l.toArray t.eff true t (Array.replicate l.length false)
theorem takeT {W : Nat → Prop} {i : Nat} {oi : Oper} {v : Value} (hi : ops[i]? = some oi) (hEi : E i = 0) (hsel : ∀ (j : Nat) (o : Oper) cs b, ops[j]? = some o → o.op ≠ .select cs b)
    (hQ : ∀ c a w, Q (.panic c) (a.put oi.dst v) w → Q (.panic c) a w)
    (hWs : ∀ j, W j → ∀ oj, ops[j]? = some oj → ∃ e ∈ oj.after, Region.binds .any e = true ∧ (e.on = i ∨ W e.on)) :
    ∀ (fuel : Nat) (listed : Array Bool) (S : List Nat) (a : Act) (w : World),
      (∀ j oj, ops[j]? = some oj → j ≠ i → listed.getD j true = false → (∀ e ∈ oj.after, Region.binds .any e = true → e.on ≠ i) → oi.apart ops oj = true) →
      (∀ j oj, ops[j]? = some oj → E j ≠ 0 → listed.getD j true = false → W j ∨ (∀ S w w', Only (Sl S (E j)) w w' → Only (Tb false S) w w')) →
      (∀ j, W j → listed.getD j true = false) → i ∈ Region.ready .any ops listed → YieldsX P ops (Tb false S) w oi v a →
      wpAnyZ P ops Q E fuel (listed.setIfInBounds i true) S (a.put oi.dst v) w → wpAnyZ P ops Q E (fuel + 1) listed S a w := by
  intro fuel
  induction fuel with
  | zero =>
    intro listed S a w _ _ _ hr hy H
    refine ⟨fun h => (by rw [h] at hr; cases hr), fun j hj => ?_⟩
    by_cases hji : j = i
    · subst hji; exact ⟨fun h => absurd hEi h, fun _ => (hy w (Only.refl _ _)).stOp hi H⟩
    · have := ready_mono hj hji
      rw [H.1] at this
      cases this
  | succ fuel ih =>
    intro listed S a w hfree hblk hWl hr hy H
    refine ⟨fun h => (by rw [h] at hr; cases hr), fun j hj => ?_⟩
    by_cases hji : j = i
    · subst hji; exact ⟨fun h => absurd hEi h, fun _ => (hy w (Only.refl _ _)).stOp hi H⟩
    · obtain ⟨hjun, oj, hoj, hall⟩ := mem_ready.1 hj
      have hun := (mem_ready.1 hr).1
      have hnot := Ord.hnot_of hun hall hoj
      have h1 := H.2 j (ready_mono hj hji)
      have hap := hfree j oj hoj hji hjun hnot
      have hnW : ¬ W j := fun hw => by
        obtain ⟨e, he, hb, ho⟩ := hWs j hw oj hoj
        rcases ho with ho | ho
        · exact hnot e he hb ho
        · exact Ord.hnot_of (hWl e.on ho) hall hoj e he hb rfl
      have hWl' : ∀ k, W k → (listed.setIfInBounds j true).getD k true = false := fun k hk => by
        have hjk : ¬ j = k := fun e => by subst e; exact hnW hk
        rw [getD_set_ne true hjk]
        exact hWl k hk
      have hblk' : ∀ k ok, ops[k]? = some ok → E k ≠ 0 → (listed.setIfInBounds j true).getD k true = false → W k ∨ (∀ S w w', Only (Sl S (E k)) w w' → Only (Tb false S) w w') := fun k ok hk hEk hlk => hblk k ok hk hEk (by
        by_cases hjk : j = k
        · subst hjk; exact hjun
        · rw [getD_set_ne true hjk] at hlk; exact hlk)
      refine ⟨fun hEj => ?_, fun hEj => ?_⟩
      · rcases hblk j oj hoj hEj hjun with hw | hT
        · exact absurd hw hnW
        · have h2 := wpOp_putG (Y := fun a => YieldsX P ops (Tb false S) w oi v a) hoj hap (fun cs b => hsel j oj cs b hoj) hQ (fun a u h => h.keep hap (fun cs b => hsel i oi cs b hi) a u) (fun a d h w' hw => (h w' hw).of_same rfl rfl) hy (h1.1 hEj)
          refine wpOp_mono (fun a' w' h3 => ?_) h2
          obtain ⟨h4, S', h5, h6, h7⟩ := h3
          refine ⟨S', h5, h6, ih (listed.setIfInBounds j true) S' a' w' (Ord.free_next hfree hjun) hblk' hWl' (ready_mono hr (Ne.symm hji)) (fun w'' hw => h4 w'' ((hT _ _ _ h6).trans hw (Tb_grow h5))) ?_⟩
          rw [Array.setIfInBounds_comm _ _ hji]
          exact h7
      · have h2 := stOp_putG (Y := fun a => YieldsX P ops (Tb false S) w oi v a) hoj hap (fun cs b => hsel j oj cs b hoj) (fun a u h => h.keep hap (fun cs b => hsel i oi cs b hi) a u) hy (h1.2 hEj)
        refine stOp_mono (fun a' h3 => ih (listed.setIfInBounds j true) S a' w (Ord.free_next hfree hjun) hblk' hWl' (ready_mono hr (Ne.symm hji)) h3.1 ?_) h2
        rw [Array.setIfInBounds_comm _ _ hji]
        exact h3.2

theorem wpAnyZ_t {l : List Oper} (hl : ops = l.toArray) (hsel : Region.noSelect ops = true) (hQ : ∀ (d : Option Tmp) (v : Value) (c : List PanicEntry) (a : Act) (w : World), Q (.panic c) (a.put d v) w → Q (.panic c) a w) :
    ∀ (t : Tz), (∀ (listed : Array Bool) (S : List Nat) (a : Act) (w : World), okV ops E true t listed = true → wpG P l Q t S a w → wpAnyZ P ops Q E t.len listed S a w) ∧
      (∀ (listed : Array Bool) (S : List Nat) (a : Act) (w : World) (n : Nat), okV ops E false t listed = true → (t.heads = [] ∨ t.len = n + 1) → wpG P l Q t S a w → ∀ k ∈ t.heads, E k ≠ 0 ∧ wpOp P ops Q k (Nz S (Sl S (E k)) w (wpAnyZ P ops Q E n (listed.setIfInBounds k true))) a w)
  | .fin => ⟨fun listed S a w hok h => ⟨by simpa [okV] using hok, by subst hl; exact h⟩, fun _ _ _ _ _ hok _ _ => by simp [okV] at hok⟩
  | .no => ⟨fun _ _ _ _ hok _ => by simp [okV] at hok, fun _ _ _ _ _ _ _ _ k hk => by simp [Tz.heads] at hk⟩
  | .r i t => ⟨fun listed S a w hok h => by
      simp only [okV, Bool.and_eq_true, beq_iff_eq, decide_eq_true_eq] at hok
      obtain ⟨⟨⟨⟨hi, hE⟩, hr⟩, hf⟩, h2⟩ := hok
      obtain ⟨v, hy, hn⟩ := h
      have hgi : ops[i]? = some (l.getD i default) := by
        subst hl
        have : i < l.length := by simpa using hi
        simp [List.getD, this]
      rw [← hl] at hy
      exact takeZ (b := true) hgi hE (Region.noSelect_spec hsel) (fun c a w => hQ _ v c a w) t.len listed S a w (Region.free_spec hgi hf) (fun _ _ _ _ _ => .inr fun S _ _ h => Sl_le S _ h) (by simpa using hr) hy ((wpAnyZ_t hl hsel hQ t).1 _ S _ w h2 hn),
    fun _ _ _ _ _ hok _ _ => by simp [okV] at hok⟩
  | .q i t => ⟨fun listed S a w hok h => by
      simp only [okV, Bool.and_eq_true, beq_iff_eq, decide_eq_true_eq] at hok
      obtain ⟨⟨⟨⟨⟨hi, hE⟩, hr⟩, hf⟩, hw⟩, h2⟩ := hok
      obtain ⟨v, hy, hn⟩ := h
      have hgi : ops[i]? = some (l.getD i default) := by
        subst hl
        have : i < l.length := by simpa using hi
        simp [List.getD, this]
      rw [← hl] at hy
      exact takeT (W := fun j => ∃ n, reach ops listed i n j = true) hgi hE (Region.noSelect_spec hsel) (fun c a w => hQ _ v c a w) reach_step t.len listed S a w (Region.free_spec hgi hf) (fun j oj hj hE' hlj => waitsT_spec hw j oj hj hE' hlj) (fun j ⟨n, hn⟩ => reach_un hn) (by simpa using hr) hy ((wpAnyZ_t hl hsel hQ t).1 _ S _ w h2 hn),
    fun _ _ _ _ _ hok _ _ => by simp [okV] at hok⟩
  | .n i t u => by
    have main : ∀ (listed : Array Bool) (S : List Nat) (a : Act) (w : World) (top : Bool), okV ops E top (.n i t u) listed = true → wpG P l Q (.n i t u) S a w → ∀ k ∈ i :: u.heads, E k ≠ 0 ∧ wpOp P ops Q k (Nz S (Sl S (E k)) w (wpAnyZ P ops Q E t.len (listed.setIfInBounds k true))) a w := by
      intro listed S a w top hok h k hk
      have hok' : (decide (i < ops.size) && (E i == 1) && (!top || (Region.ready .any ops listed == i :: u.heads)) && okV ops E true t (listed.setIfInBounds i true) && (u.heads == [] || u.len == t.len + 1) && okV ops E false u listed) = true := by cases top <;> exact hok
      simp only [Bool.and_eq_true, beq_iff_eq, decide_eq_true_eq] at hok'
      obtain ⟨⟨⟨⟨⟨hi, hE⟩, _⟩, h2⟩, h3⟩, h4⟩ := hok'
      rcases List.mem_cons.1 hk with rfl | hk
      · refine ⟨by rw [hE]; decide, ?_⟩
        rw [hE]
        have h1 := h.1
        rw [← hl] at h1
        exact effStepZ hl hi (fun S' a' w' h' => (wpAnyZ_t hl hsel hQ t).1 _ S' a' w' h2 h') h1
      · refine (wpAnyZ_t hl hsel hQ u).2 listed S a w t.len h4 ?_ h.2 k hk
        simpa using h3
    refine ⟨fun listed S a w hok h => ?_, fun listed S a w n hok hlen h k hk => ?_⟩
    · have hr : Region.ready .any ops listed = i :: u.heads := by
        simp only [okV, Bool.and_eq_true, beq_iff_eq, decide_eq_true_eq, Bool.not_true, Bool.false_or] at hok
        exact hok.1.1.1.2
      refine ⟨fun h0 => (by rw [hr] at h0; cases h0), fun j hj => ?_⟩
      rw [hr] at hj
      obtain ⟨hE, hw⟩ := main listed S a w true hok h j hj
      exact ⟨fun _ => hw, fun h0 => absurd h0 hE⟩
    · have hn : t.len = n := by
        rcases hlen with h0 | h0
        · simp [Tz.heads] at h0
        · simp [Tz.len] at h0; exact h0
      subst hn
      exact main listed S a w false hok h k hk
  | .e i t u => by
    have main : ∀ (listed : Array Bool) (S : List Nat) (a : Act) (w : World) (top : Bool), okV ops E top (.e i t u) listed = true → wpG P l Q (.e i t u) S a w → ∀ k ∈ i :: u.heads, E k ≠ 0 ∧ wpOp P ops Q k (Nz S (Sl S (E k)) w (wpAnyZ P ops Q E t.len (listed.setIfInBounds k true))) a w := by
      intro listed S a w top hok h k hk
      have hok' : (decide (i < ops.size) && (E i == 2) && (!top || (Region.ready .any ops listed == i :: u.heads)) && okV ops E true t (listed.setIfInBounds i true) && (u.heads == [] || u.len == t.len + 1) && okV ops E false u listed) = true := by cases top <;> exact hok
      simp only [Bool.and_eq_true, beq_iff_eq, decide_eq_true_eq] at hok'
      obtain ⟨⟨⟨⟨⟨hi, hE⟩, _⟩, h2⟩, h3⟩, h4⟩ := hok'
      rcases List.mem_cons.1 hk with rfl | hk
      · refine ⟨by rw [hE]; decide, ?_⟩
        rw [hE]
        have h1 := h.1
        rw [← hl] at h1
        exact effStepZ hl hi (fun S' a' w' h' => (wpAnyZ_t hl hsel hQ t).1 _ S' a' w' h2 h') h1
      · refine (wpAnyZ_t hl hsel hQ u).2 listed S a w t.len h4 ?_ h.2 k hk
        simpa using h3
    refine ⟨fun listed S a w hok h => ?_, fun listed S a w n hok hlen h k hk => ?_⟩
    · have hr : Region.ready .any ops listed = i :: u.heads := by
        simp only [okV, Bool.and_eq_true, beq_iff_eq, decide_eq_true_eq, Bool.not_true, Bool.false_or] at hok
        exact hok.1.1.1.2
      refine ⟨fun h0 => (by rw [hr] at h0; cases h0), fun j hj => ?_⟩
      rw [hr] at hj
      obtain ⟨hE, hw⟩ := main listed S a w true hok h j hj
      exact ⟨fun _ => hw, fun h0 => absurd h0 hE⟩
    · have hn : t.len = n := by
        rcases hlen with h0 | h0
        · simp [Tz.heads] at h0
        · simp [Tz.len] at h0; exact h0
      subst hn
      exact main listed S a w false hok h k hk

/-- THE LAW. -/
theorem wpTL {id : Nat} {l : List Oper} (S : List Nat) (t : Tz) {a : Act} {w : World} (hm : P.follows .mixedOrders = true) (hok : okVL l t = true)
    (hQ : ∀ (d : Option Tmp) (v : Value) (c : List PanicEntry) (a : Act) (w : World), Q (.panic c) (a.put d v) w → Q (.panic c) a w)
    (h : wpG P l Q t S a w.drew) : (Code.region id l.toArray true).wp P Q a w := by
  simp only [okVL, Bool.and_eq_true, decide_eq_true_eq] at hok
  obtain ⟨⟨h1, h2⟩, h3⟩ := hok
  refine wp_region_any hm (wpAny_of_Z (E := t.eff) _ _ S _ _ ?_)
  have := (wpAnyZ_t (P := P) (Q := Q) (E := t.eff) (ops := l.toArray) rfl h1 hQ t).1 (Array.replicate l.length false) S a w.drew h3 h
  rw [h2] at this
  simpa using this
end Reg
namespace Sx
theorem SW.drawT {P : Program} {Γ : Cx} {σ : St} {Q : Exit → Act → World → Prop} {l : List Oper} {id : Nat} (S : List Nat) (t : Reg.Tz) (hm : P.follows .mixedOrders = true) (hok : Reg.okVL l t = true)
    (hQ : ∀ (d : Option Tmp) (v : Value) (c : List PanicEntry) (a : Act) (w : World), Q (.panic c) (a.put d v) w → Q (.panic c) a w) (h : SWz P Γ l Q S t σ) : SW P Γ σ (.region id l.toArray true) Q :=
  fun a w hh => Reg.wpTL S t hm hok hQ (h a w.drew hh.drew)
end Sx
end Go.Proofs.YtonjpfpdpfonnaaDoor
