/-
  A RANGE OVER A FUNCTION, in the words of Sy: code in a round's frame; iterators by contract; the statement; a function's end behind it. Over any program.
  A RANGE OVER A FUNCTION: the statement by what is known, and a function's end behind it. Over any program.
-/
import Derived.Test.YtonjpfpdpfonnaaDoorGU
import Derived.RangeFuncOwn
import Derived.Sort.LoopGhostIn
import Derived.OrdersIn
namespace Go.Proofs.YtonjpfpdpfonnaaDoor
open Go.RowKit
namespace Reg
/-- What wpGL shows, before the region. -/
theorem wpGany {P : Program} {Q : Exit → Act → World → Prop} {l : List Oper} (S : List Nat) (t : Tz) {a : Act} {w : World} (hok : okZL l t = true)
    (hQ : ∀ (d : Option Tmp) (v : Value) (c : List PanicEntry) (a : Act) (w : World), Q (.panic c) (a.put d v) w → Q (.panic c) a w)
    (h : wpG P l Q t S a w) : Go.wpAny P .any l.toArray Q l.toArray.size (Array.replicate l.toArray.size false) a w := by
  simp only [okZL, Bool.and_eq_true, decide_eq_true_eq] at hok
  obtain ⟨⟨h1, h2⟩, h3⟩ := hok
  refine wpAny_of_Z (E := t.eff) _ _ S _ _ ?_
  have := (wpAnyZ_g (P := P) (Q := Q) (E := t.eff) (ops := l.toArray) rfl h1 hQ t).1 (Array.replicate l.length false) S a w h3 h
  rw [h2] at this
  simpa using this
end Reg
namespace Sx
section
variable {P : Program} {Γ : Cx} {σ σ' : St} {Q : Exit → Act → World → Prop} {r : Nat} {l : List Oper} {a : Act} {w : World}
/-! Code in a round's frame. -/
abbrev Rf (r : Nat) : Fence := Fence.wide.inRound r
def isDf (o : Oper) : Bool := match o.op with | .defer _ => true | _ => false
def noDf (l : List Oper) : Bool := l.all fun o => !isDf o
theorem noDf_spec (h : noDf l = true) {o : Oper} (ho : o ∈ l) : ∀ c, o.op ≠ .defer c := fun c e => by
  have h1 := List.all_eq_true.1 h o ho
  simp [isDf, e] at h1
theorem wide_depth (e : Fence.wide.depth.isSome = true) : 1 ≤ 0 := Bool.noConfusion (show false = true from e)
theorem upon_in {o : Oper} {K : Act → World → Prop} : ∀ {x : Result Next}, o.upon P a K Q x → o.uponIn Fence.wide 0 P a K Q x
  | .ok (.value _) _, h => h
  | .ok .skip _, h => h
  | .ok (.defer _) _, h => h
  | .ok (.enter f args) w', h => ⟨wide_depth, callsIn_wide.2 (Calls.mono h fun e w'' he => by cases e <;> exact he)⟩
  | .ok (.row row args) w', h => ⟨wide_depth, fun c cs _ => let ⟨v, w'', q, s⟩ := h c cs; ⟨v, w'', q, stepsIn_wide.2 s⟩⟩
  | .halt (.panic _) _, h => h
  | .ok n w', h => by cases n <;> first | exact h | exact h.elim | exact ⟨wide_depth, callsIn_wide.2 (Calls.mono h fun e w'' he => by cases e <;> exact he)⟩ | exact ⟨wide_depth, fun c cs _ => let ⟨v, w'', q, s⟩ := h c cs; ⟨v, w'', q, stepsIn_wide.2 s⟩⟩
  | .halt n w', h => by cases n <;> first | exact h | exact h.elim
theorem oper_in {o : Oper} {K : Act → World → Prop} (hd : ∀ c, o.op ≠ .defer c) (h : o.wp P a w K Q) : o.wpIn (Rf r) 0 P a w K Q := by
  refine ⟨fun _ _ => trivial, ?_⟩
  rw [Oper.semAt_eq _ _ _ hd]
  exact upon_in h
theorem oper_wide {o : Oper} {K : Act → World → Prop} (h : o.wp P a w K Q) : o.wpIn Fence.wide 0 P a w K Q := ⟨fun _ _ => trivial, upon_in h⟩
theorem op_in {i : Nat} {K K' : Act → World → Prop} (hnd : noDf l = true) (hQ : ¬ LetsOut Q) (hK : ∀ a w, K a w → K' a w) (h : wpOp P l.toArray Q i K a w) : wpOpIn (Rf r) 0 P l.toArray Q i K' a w := by
  unfold wpOp at h
  unfold wpOpIn
  cases ho : l.toArray[i]? with
  | none => simp only [ho] at h ⊢; exact hK _ _ h
  | some o =>
    simp only [ho] at h ⊢
    have hm : o ∈ l := List.mem_of_getElem? (i := i) (by simpa using ho)
    split
    · rename_i hw
      rw [if_pos hw] at h
      rcases h with h | ⟨_, h⟩
      · exact Oper.wpIn_mono hK (oper_in (noDf_spec hnd hm) h)
      · exact absurd h hQ
    · rename_i hw
      rw [if_neg hw] at h
      exact ⟨fun _ _ => trivial, hK _ _ h⟩
theorem ops_in (hnd : noDf l = true) (hQ : ¬ LetsOut Q) : ∀ (is : List Nat) (a : Act) (w : World), wpOps P l.toArray Q is a w → wpOpsIn (Rf r) 0 P l.toArray Q is a w
  | [], _, _, h => h
  | i :: is, a, w, h => by
    rw [wpOpsIn_cons]
    rw [wpOps_cons] at h
    exact op_in hnd hQ (fun a w h => ops_in hnd hQ is a w h) h
theorem any_in (hnd : noDf l = true) (hQ : ¬ LetsOut Q) : ∀ (n : Nat) (listed : Array Bool) (a : Act) (w : World), wpAny P .any l.toArray Q n listed a w → wpAnyIn (Rf r) 0 P .any l.toArray Q n listed a w
  | 0, _, _, _, h => h
  | n + 1, listed, a, w, h => ⟨h.1, fun i hi => op_in hnd hQ (fun a w h => any_in hnd hQ n _ a w h) (h.2 i hi)⟩
def SWr (P : Program) (r : Nat) (Γ : Cx) (σ : St) (c : Code) (Q : Exit → Act → World → Prop) : Prop := ∀ a w, Holds Γ σ a w → c.wpIn (Rf r) 0 P Q a w
theorem SWr.seq {x y : Code} (h : SWr P r Γ σ x (Exit.then (fun a w => y.wpIn (Rf r) 0 P Q a w) Q)) : SWr P r Γ σ (.seq x y) Q := fun a w hh => wpIn_seq (h a w hh)
theorem SWr.skip (h : SN Γ Q σ) : SWr P r Γ σ .skip Q := fun a w hh => wpIn_skip (h a w hh)
theorem SWr.region {id : Nat} (hnd : noDf l = true) (hQ : ∀ a w, Q .outgrown a w → False) (h : SWl P Γ l.toArray Q l σ) : SWr P r Γ σ (.region id l.toArray false) Q := fun a w hh => by
  refine wpIn_region (ops_in hnd (fun ⟨a, w, h⟩ => hQ a w h) _ a w ?_)
  have h1 := h a w hh
  have h2 := wpOps_eq_wpList (P := P) (Q := Q) (ops := l.toArray) l 0 (by simp)
  rw [List.range_eq_range', List.size_toArray, h2]
  exact h1
theorem SWr.draw {id : Nat} (S : List Nat) (t : Reg.Tz) (hnd : noDf l = true) (hQo : ∀ a w, Q .outgrown a w → False) (hm : P.follows .mixedOrders = true) (hok : Reg.okZL l t = true)
    (hQ : ∀ (d : Option Tmp) (v : Value) (c : List PanicEntry) (a : Act) (w : World), Q (.panic c) (a.put d v) w → Q (.panic c) a w) (h : SWz P Γ l Q S t σ) : SWr P r Γ σ (.region id l.toArray true) Q := fun a w hh =>
  wpIn_region_any hm (any_in hnd (fun ⟨a, w, h⟩ => hQo a w h) _ _ _ _ (Reg.wpGany S t hok hQ (h a w.drew hh.drew)))
theorem SWr.cond {c : Operand} {x y : Code} {b : Bool} (hc : σ.ev c = some (isD (.bool b))) (ht : b = true → SWr P r Γ σ x Q) (hf : b = false → SWr P r Γ σ y Q) : SWr P r Γ σ (.cond c x y) Q := fun a w hh =>
  wpIn_cond_split (show a.eval c = .bool b from ev_spec hh hc) (fun h => ht h a w hh) (fun h => hf h a w hh)
theorem SWr.condT {c : Operand} {x y : Code} {b : Bool} (hc : σ.ev c = some (isD (.bool b))) (hb : b = true) (ht : SWr P r Γ σ x Q) : SWr P r Γ σ (.cond c x y) Q := SWr.cond hc (fun _ => ht) (fun h => by rw [hb] at h; cases h)
theorem SWr.condF {c : Operand} {x y : Code} {b : Bool} (hc : σ.ev c = some (isD (.bool b))) (hb : b = false) (hf : SWr P r Γ σ y Q) : SWr P r Γ σ (.cond c x y) Q := SWr.cond hc (fun h => by rw [hb] at h; cases h) (fun _ => hf)
theorem SWr.block {n : Nat} {c : Code} (h : SWr P r Γ σ c (Exit.inBlock n Q)) : SWr P r Γ σ (.block n c) Q := fun a w hh => wpIn_block (h a w hh)
theorem SWr.exit' {n : Nat} (h : SE Γ n Q σ) : SWr P r Γ σ (.exit n) Q := fun a w hh => wpIn_exit (h a w hh)
theorem SWr.ret (h : ∀ a w, Holds Γ σ a w → Q .ret a w) : SWr P r Γ σ .ret Q := fun a w hh => wpIn_ret (h a w hh)
theorem SWr.sub {c : Code} (hs : Sub σ σ') (h : SWr P r Γ σ' c Q) : SWr P r Γ σ c Q := fun a w hh => h a w (hh.sub hs)
theorem SWr.meet {c : Code} (T : St → Prop) (h : SWr P r Γ σ c (Exit.then (fun a w => ∃ σ', T σ' ∧ Holds Γ σ' a w) Q)) (hk : ∀ σ', T σ' → SN Γ Q σ') : SWr P r Γ σ c Q := by
  intro a w hh
  refine wpIn_mono (h a w hh) ?_
  intro e a' w' hq
  cases e with
  | normal => obtain ⟨σ', hT, h'⟩ := hq; exact hk σ' hT a' w' h'
  | _ => exact hq
theorem SWr.loop {ι : Type} (τ : ι → St) (μ : ι → Nat) (i₀ : ι) {c : Code} (h₀ : Sub σ (τ i₀)) (round : ∀ i, ∀ K : Act → World → Prop, (∀ j, μ j < μ i → ∀ a w, Holds Γ (τ j) a w → K a w) → SWr P r Γ (τ i) c (Exit.then K Q)) : SWr P r Γ σ (.loop c) Q := by
  intro a w hh
  refine wpIn_loop_ghost (fun n a w => ∃ i, μ i = n ∧ Holds Γ (τ i) a w) (μ i₀) ⟨i₀, rfl, hh.sub h₀⟩ ?_
  rintro n a' w' ⟨i, rfl, hi⟩
  exact round i _ (fun j hlt a w hj => ⟨μ j, hlt, j, rfl, hj⟩) a' w' hi
/-- The function is left within a round: through all that stands around. -/
def SR (Γ : Cx) (Q : Exit → Act → World → Prop) (σ : St) : Prop := ∀ a w, Holds Γ σ a w → Q .ret a w
theorem SR.then {K : Act → World → Prop} (h : SR Γ Q σ) : SR Γ (Exit.then K Q) σ := h
theorem SR.block {n : Nat} (h : SR Γ Q σ) : SR Γ (Exit.inBlock n Q) σ := h
/-! Iterators. -/
/-- A call of yield. -/
def Yields (P : Program) (y : Nat) (vs : List Value) (w : World) (R : Bool → World → Prop) : Prop :=
  ∃ fn tm ag bd, (Instr.yield y vs.toArray).run P w = .ok (.round y fn tm ag bd) w ∧ RoundIn Fence.wide 0 P y fn tm ag bd w fun e w' => ∃ b, e = .returned (.bool b) ∧ R b w'
structure ConY (P : Program) (y : Nat) (pre : List Box) (ad : List D) {ι : Type} (post : ι → List Box) (b : ι → Bool) : Prop where
  go : ∀ (L : List Nat) (w : World) (vs : List Value), (∀ x ∈ L, x < w.heap.size) → glob.R w → (∀ g ∈ fps pre, g ∉ glob.F) → (∀ g ∈ fps pre, g ∉ L) → (fps pre).Nodup → (∀ x ∈ pre, x.R (fps pre ++ L) w) → All (fps pre ++ L) w ad vs →
    Yields P y vs w fun u w' => ∃ i, u = b i ∧ (∀ x ∈ post i, x.R (fps (post i) ++ L) w') ∧ (fps (post i)).Nodup ∧ (∀ g ∈ fps (post i), g ∈ fps pre ∨ w.heap.size ≤ g) ∧ Only (fps pre) w w'
/-- A function value. -/
def fnD (f : FuncId) (ds : List D) : D := ⟨fun L w v => ∃ cs : List Value, v = .func (.func f) #[] cs.toArray ∧ All L w ds cs,
  fun ⟨cs, h, k⟩ ho hS => ⟨cs, h, k.keep ho hS⟩, fun ⟨cs, h, k⟩ hS => ⟨cs, h, k.less hS⟩⟩
instance (f : FuncId) (ds : List D) : One (fnD f ds) := ⟨fun _ _ _ h => by obtain ⟨cs, rfl, _⟩ := h; rfl⟩
/-! The lists of operations in which yield is called. -/
def wpListI (P : Program) (ops : Array Oper) (Q : Exit → Act → World → Prop) : List Oper → Act → World → Prop
  | [], a, w => Q .normal a w
  | o :: rest, a, w => if Region.wanted o (yielded ops a.tmps) then o.wpIn Fence.wide 0 P a w (wpListI P ops Q rest) Q else wpListI P ops Q rest (a.put o.dst undef) w
def SWk (P : Program) (Γ : Cx) (ops : Array Oper) (Q : Exit → Act → World → Prop) (l : List Oper) (σ : St) : Prop := ∀ a w, Holds Γ σ a w → wpListI P ops Q l a w
section
variable {ops : Array Oper} {op : Op} {dst : Option Tmp} {ty : TypeId} {pos : String} {af : Array Edge} {rest : List Oper} {k : Nat} {d : D}
theorem SWk.nil (h : SN Γ Q σ) : SWk P Γ ops Q [] σ := fun a w hh => h a w hh
theorem SWk.rd (hd : dstOk Γ.nt k = true) (h : Rd P Γ [] ⟨some k, op, ty, pos, af, none⟩ σ d) (hk : SWk P Γ ops Q rest (σ.put k d)) : SWk P Γ ops Q (⟨some k, op, ty, pos, af, none⟩ :: rest) σ := fun a w hh => by
  obtain ⟨v, h1, h2⟩ := h a w hh
  unfold wpListI
  rw [if_pos (show Region.wanted _ _ = true from rfl)]
  refine oper_wide ?_
  unfold Oper.wp
  rw [h2 w (Only.refl _ _)]
  exact hk _ _ (hh.put (by simpa [dstOk] using hd) h1)
theorem SWk.ef {S : List Nat} {T : St → Prop} (h : Ef P Γ S ⟨dst, op, ty, pos, af, none⟩ σ T) (hk : ∀ σ', T σ' → SWk P Γ ops Q rest σ') : SWk P Γ ops Q (⟨dst, op, ty, pos, af, none⟩ :: rest) σ := fun a w hh => by
  unfold wpListI
  rw [if_pos (show Region.wanted _ _ = true from rfl)]
  exact oper_wide (h a w hh _ _ fun σ' a' w' hT hh' _ => hk σ' hT a' w' hh')
theorem SWk.sub (hs : Sub σ σ') (h : SWk P Γ ops Q rest σ') : SWk P Γ ops Q rest σ := fun a w hh => h a w (hh.sub hs)
/-- yield(..) -/
theorem SWk.yield {x : Operand} {y : Nat} {args : Array Operand} {aT : Array TypeId} {pre : List Box} {ad es : List D} {ι : Type} {post : ι → List Box} {b : ι → Bool} (js : List Nat) (hcon : ConY P y pre ad post b) (hx : σ.ev x = some (isD (.func (.yield y) #[] #[]))) (he : σ.evs args.toList = some es) (hl : LeAll es ad) (hjs : js.Nodup) (hs : SubBx σ.bx js pre) (hk : dstOk Γ.nt k = true)
    (hn : ∀ i, SWk P Γ ops Q rest ((σ.give js (post i)).put k (isD (.bool (b i))))) : SWk P Γ ops Q (⟨some k, .call { callee := .value x, args := args, argTypes := aT }, ty, pos, af, none⟩ :: rest) σ := fun a w hh => by
  unfold wpListI
  rw [if_pos (show Region.wanted _ _ = true from rfl)]
  have hall := hl.all (evs_spec hh he)
  have hxv : a.eval x = .func (.yield y) #[] #[] := ev_spec hh hx
  have hL1 : ∀ x ∈ fps pre ++ (σ.L Γ).filter (· ∉ fps pre), x ∈ σ.L Γ ∨ w.heap.size ≤ x := fun x hx => by
    rcases List.mem_append.1 hx with hx | hx
    · exact .inl (List.mem_append_left _ (hs.fps hx))
    · exact .inl (List.mem_filter.1 hx).1
  obtain ⟨fn, tm, ag, bd, hy, hr⟩ := hcon.go ((σ.L Γ).filter (· ∉ fps pre)) w _ (fun x hx => hh.lt x (List.mem_filter.1 hx).1) hh.gl (fun g hg => hh.off g (hs.fps hg)) (fun g hg hm => by have := (List.mem_filter.1 hm).2; simp at this; exact this hg) (SubBx.nodup hh.nd hjs hs) (fun b' hb' => by
    obtain ⟨j, c, _, h5, h6⟩ := SubBx.mem hs b' hb'
    exact h6.2 _ _ (Box.less (hh.bx c (List.mem_of_getElem? h5)) hL1)) (hall.less hL1)
  refine ⟨fun _ _ => trivial, ?_⟩
  have e1 : args.map a.eval = (args.toList.map a.eval).toArray := by apply Array.ext'; simp
  have e : (execOp a.eval ⟨some k, .call { callee := .value x, args := args, argTypes := aT }, ty, pos, af, none⟩).run P w = .ok (.round y fn tm ag bd) w := by
    simp only [execOp, resolve, hxv, Deferred.ofValue, Sem.run_bind, Sem.run_pure, Result.andThen_ok, invoke, Array.empty_append]
    rw [e1]
    simpa using hy
  rw [show Fence.wide.round = none from rfl, Oper.semAt_none, e, Oper.uponIn_round]
  refine ⟨wide_depth, hr.mono ?_⟩
  rintro e w' ⟨u, rfl, i, rfl, hR, hnd, hnw, ho⟩
  exact hn i _ _ ((hh.give hs ho hR hnd hnw).1.put (by simpa [dstOk] using hk) rfl)
end
end
end Sx
end Go.Proofs.YtonjpfpdpfonnaaDoor
namespace Go.Proofs.YtonjpfpdpfonnaaDoor
open Go.RowKit
namespace Sx
section
variable {P : Program} {Γ : Cx} {σ σ' : St} {Q : Exit → Act → World → Prop} {a : Act} {w w' : World}
theorem only_put {y : Nat} {o : Obj} : Only [y] w (w.putObj y o) := only_setObj
theorem Holds.apart (h : Holds Γ σ a w) {g : Nat} (hg : g ∈ fps σ.bx) : g ∉ Γ.base := fun hb => by
  rcases h.nw g hg with h' | h'
  · have := h.bs g hb; omega
  · exact h.dj.1 g h' hb
/-- The block for a loop's deferred calls. -/
def dfR : Res where
  R _ F w := ∃ dk, F = [dk] ∧ w.heap[dk]? = some (.deferred (some []))
  lt := fun ⟨dk, h, k⟩ g hg => by subst h; rw [List.mem_singleton.1 hg]; exact (Array.getElem?_eq_some_iff.1 k).1
  keep := fun ⟨dk, h, k⟩ ho _ hn => ⟨dk, h, by subst h; exact (ho.block dk (Array.getElem?_eq_some_iff.1 k).1 (fun hm => hn dk hm (by simp))).trans k⟩
  less := fun h _ => h
/-- A mark more among the deferred calls. -/
def Cx.mk' (Γ : Cx) (dk : Nat) : Cx := { Γ with df := { target := .collected dk, args := #[] } :: Γ.df }
/-! A function's end. -/
def RM (P : Program) (fn : Func) (R : Ending → World → Prop) (Γ : Cx) (σ : St) : Prop := ∀ a w, Holds Γ σ a w → LeavesInM Fence.wide 0 P fn a.tmps R a.defers .returning w
theorem RM.mark {fn : Func} {R : Ending → World → Prop} {dk : Nat} (j : Nat) (hj : σ.bx[j]? = some (.r [dk] dfR)) (h : RM P fn R Γ ⟨σ.tm, dropAt σ.bx 0 [j] ++ []⟩) : RM P fn R (Γ.mk' dk) σ := fun a w hh => by
  obtain ⟨q, hq, hdk⟩ := hh.resAt hj
  injection hq with hq _
  subst hq
  have hd : a.defers = { target := .collected dk, args := #[] } :: Γ.df := hh.df
  rw [hd]
  have hsub : SubBx σ.bx [j] [.r [dk] dfR] := ⟨⟨_, hj, LeR.refl _⟩, trivial⟩
  have hg := (hh.give (w' := w.putObj dk (.deferred none)) hsub (by simpa [fps, Box.fp] using only_put) (post := []) (by simp) (by simp [fps]) (by simp [fps])).1
  exact ⟨by simp, .inl ⟨dk, _, rfl, run_takeDeferred hdk, h { a with defers := Γ.df } _ ⟨rfl, hg.sz, hg.tm, hg.bx, hg.nd, hg.nw, hg.on, hg.bs, hg.dj⟩⟩⟩
theorem RM.fin {fn : Func} {d : D} {nt : Nat} {base : List Nat} {w0 : World} (h : Rs P ⟨nt, base, w0, [], []⟩ fn σ d) : RM P fn (fun e w' => ∃ v, e = .returned v ∧ d.R base w' v ∧ Only [] w0 w') ⟨nt, base, w0, [], []⟩ σ := fun a w hh => by
  obtain ⟨v, h1, h2⟩ := h a w hh
  rw [show a.defers = [] from hh.df]
  exact ⟨v, h1, v, rfl, d.less h2 (fun x hx => .inl (List.mem_append_right _ hx)), hh.on⟩
end
end Sx
end Go.Proofs.YtonjpfpdpfonnaaDoor
