/-
  CALLS THAT PANIC, deferred calls, recover, in the words of Sy. Over any program.
-/
import Derived.Test.YtonjpfpdpfonnaaDoorGU
import Derived.Recover
namespace Go.Proofs.YtonjpfpdpfonnaaDoor
open Go.RowKit
namespace Sx
section
variable {P : Program} {Γ : Cx} {σ σ' : St} {Q : Exit → Act → World → Prop} {a : Act} {w : World} {ops : Array Oper} {rest : List Oper} {S : List Nat} {dst : Option Tmp} {ty : TypeId} {pos : String} {af : Array Edge} {gd : Option (Nat × Bool)}
/-- The code is left by a panic. -/
def SP (Γ : Cx) (ch : List PanicEntry) (Q : Exit → Act → World → Prop) (σ : St) : Prop := ∀ a w, Holds Γ σ a w → Q (.panic ch) a w
theorem SP.then {ch : List PanicEntry} {K : Act → World → Prop} (h : SP Γ ch Q σ) : SP Γ ch (Exit.then K Q) σ := h
theorem SP.block {ch : List PanicEntry} {n : Nat} (h : SP Γ ch Q σ) : SP Γ ch (Exit.inBlock n Q) σ := h
abbrev pan (v : Value) : List PanicEntry := [{ v := v, recovered := false }]
/-- A function that panics. -/
structure ConP (P : Program) (f : FuncId) (ds : List D) (ch : List PanicEntry) : Prop where
  en : enters P f
  go : ∀ (L : List Nat) (w : World) (vs : List Value), (∀ g ∈ L, g < w.heap.size) → glob.R w → All L w ds vs → Calls P f vs.toArray w fun e w' => e = .panicked ch ∧ Only [] w w'
theorem SP.fn {fn : Func} {ch : List PanicEntry} {nt : Nat} {base : List Nat} {w0 : World} : SP ⟨nt, base, w0, [], []⟩ ch (bodyPost P fn fun e w' => e = .panicked ch ∧ Only [] w0 w') σ := fun a w hh => ⟨hh.df, rfl, hh.on⟩
theorem ConP.mono {f : FuncId} {ds es : List D} {ch : List PanicEntry} (h : ConP P f ds ch) (h1 : LeAll es ds) : ConP P f es ch := ⟨h.en, fun L w vs hL hG ha => h.go L w vs hL hG (h1.all ha)⟩
/-- panic(x) -/
theorem SWl.panic {x : Operand} {T : TypeId} {v : Value} (hx : σ.ev x = some (isD (.iface T v))) (h : SP Γ (pan (.iface T v)) Q σ) : SWl P Γ ops Q (⟨dst, .panic x, ty, pos, af, none⟩ :: rest) σ := fun a w hh => by
  have hv : a.eval x = .iface T v := ev_spec hh hx
  refine wpList_plain rfl fun K hK => ?_
  have e : (execOp a.eval ⟨dst, .panic x, ty, pos, af, none⟩).run P w = .halt (.panic (.iface T v)) w := by
    simp only [execOp, hv, Instr.panic, Sem.run_bind, run_goPanic]
    rfl
  unfold Oper.wp
  rw [e]
  exact h a w hh
/-! Deferred calls. -/
/-- defer f() -/
theorem SWl.defer {x : Operand} {aT : Array TypeId} {f : FuncId} {cap : List Value} (hx : σ.ev x = some (isD (.func (.func f) #[] cap.toArray)))
    (h : SWl P { Γ with df := { target := .fn (.func f) cap.toArray, args := #[] } :: Γ.df } ops Q rest σ) : SWl P Γ ops Q (⟨none, .defer { callee := .value x, args := #[], argTypes := aT }, ty, pos, af, none⟩ :: rest) σ := fun a w hh => by
  have hv : a.eval x = .func (.func f) #[] cap.toArray := ev_spec hh hx
  refine wpList_plain rfl fun K hK => ?_
  have e : (execOp a.eval ⟨none, .defer { callee := .value x, args := #[], argTypes := aT }, ty, pos, af, none⟩).run P w = .ok (.defer { target := .fn (.func f) cap.toArray, args := #[] }) w := by
    simp [execOp, resolve, hv, Deferred.ofValue, Sem.run_bind, Sem.run_pure, Result.andThen_ok]
  unfold Oper.wp
  rw [e]
  simp only [Oper.upon]
  refine hK _ _ (h _ w ⟨?_, hh.sz, hh.tm, hh.bx, hh.nd, hh.nw, hh.on, hh.bs, hh.dj⟩)
  show _ :: a.defers = _ :: Γ.df
  rw [hh.df]
/-- A function that is called by defer, to which boxes are lent: u is how the caller leaves. -/
structure ConD (P : Program) (f : FuncId) (pre : List Box) (ad : List D) (u u' : FrameMode) (post : List Box) : Prop where
  en : enters P f
  go : ∀ (L : List Nat) (w : World) (vs : List Value), (∀ x ∈ L, x < w.heap.size) → glob.R w → (∀ g ∈ fps pre, g ∉ glob.F) → (∀ g ∈ fps pre, g ∉ L) → (fps pre).Nodup → (∀ b ∈ pre, b.R (fps pre ++ L) w) → All (fps pre ++ L) w ad vs →
    CallsD P f vs.toArray u w fun e v w' => (∃ r, e = .returned r) ∧ v = u' ∧ (∀ b ∈ post, b.R (fps post ++ L) w') ∧ (fps post).Nodup ∧ (∀ g ∈ fps post, g ∈ fps pre ∨ w.heap.size ≤ g) ∧ Only (fps pre) w w'
/-- A function's end, deferred calls and all. -/
def RL (P : Program) (fn : Func) (R : Ending → World → Prop) (u : FrameMode) (Γ : Cx) (σ : St) : Prop := ∀ a w, Holds Γ σ a w → Leaves P fn a.tmps R a.defers u w
theorem RL.defer {fn : Func} {R : Ending → World → Prop} {u u' : FrameMode} {f : FuncId} {cap : List Value} {pre post : List Box} {nt : Nat} {base lent : List Nat} {w0 : World} {df : List Deferred} (js : List Nat) (hu : u ≠ .run) (hcon : ConD P f pre (cap.map isD) u u' post) (hjs : js.Nodup) (hs : SubBx σ.bx js pre)
    (h : RL P fn R (settle u') ⟨nt, base, w0, lent, df⟩ (σ.give js post)) : RL P fn R u ⟨nt, base, w0, lent, { target := .fn (.func f) cap.toArray, args := #[] } :: df⟩ σ := fun a w hh => by
  have hd : a.defers = { target := .fn (.func f) cap.toArray, args := #[] } :: df := hh.df
  rw [hd]
  have hL1 : ∀ x ∈ fps pre ++ (σ.L ⟨nt, base, w0, lent, { target := .fn (.func f) cap.toArray, args := #[] } :: df⟩).filter (· ∉ fps pre), x ∈ σ.L ⟨nt, base, w0, lent, { target := .fn (.func f) cap.toArray, args := #[] } :: df⟩ ∨ w.heap.size ≤ x := fun x hx => by
    rcases List.mem_append.1 hx with hx | hx
    · exact .inl (List.mem_append_left _ (hs.fps hx))
    · exact .inl (List.mem_filter.1 hx).1
  refine leaves_cons (f := f) (args := cap.toArray) hu (by simpa [invoke] using hcon.en _ w) ((hcon.go ((σ.L ⟨nt, base, w0, lent, { target := .fn (.func f) cap.toArray, args := #[] } :: df⟩).filter (· ∉ fps pre)) w cap (fun x hx => hh.lt x (List.mem_filter.1 hx).1) hh.gl (fun g hg => hh.off g (hs.fps hg)) (fun g hg hm => by have := (List.mem_filter.1 hm).2; simp at this; exact this hg) (SubBx.nodup hh.nd hjs hs) (fun b' hb' => ?_) ?_).mono ?_)
  · obtain ⟨j, c, _, h5, h6⟩ := SubBx.mem hs b' hb'
    exact h6.2 _ _ (Box.less (hh.bx c (List.mem_of_getElem? h5)) hL1)
  · exact all_is cap
  · rintro e v w' ⟨⟨r, rfl⟩, rfl, hR, hnd, hnw, ho⟩
    have hg := (hh.give hs ho hR hnd hnw).1
    exact h { a with defers := df } w' ⟨rfl, hg.sz, hg.tm, hg.bx, hg.nd, hg.nw, hg.on, hg.bs, hg.dj⟩
theorem RL.fin {fn : Func} {pre : List Box} {ι : Type} {post : ι → List Box} {d : ι → D} {nt : Nat} {base : List Nat} {w0 : World} (i : ι) (js : List Nat) (h : Rs P ⟨nt, base, w0, fps pre, []⟩ fn σ (d i)) (hjs : js.Nodup) (hb : SubBx σ.bx js (post i)) :
    RL P fn (fun e w' => ∃ i v, e = .returned v ∧ (d i).R (fps (post i) ++ base) w' v ∧ (∀ b ∈ post i, b.R (fps (post i) ++ base) w') ∧ (fps (post i)).Nodup ∧ (∀ g ∈ fps (post i), g ∈ fps pre ∨ w0.heap.size ≤ g) ∧ Only (fps pre) w0 w') .returning ⟨nt, base, w0, fps pre, []⟩ σ := fun a w hh => by
  rw [show a.defers = [] from hh.df]
  exact Sx.retR i js h hjs hb hh
end
end Sx
end Go.Proofs.YtonjpfpdpfonnaaDoor
