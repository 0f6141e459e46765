/-
  CALLS THAT PANIC, deferred calls, recover, in the words of Sy. Over any program.
  SLICES OF DIGESTS, pairs of digests; the array that a slice of bytes holds.
  PAIRS OF DIGESTS, compared.
  CALLS that read boxes of one's own and return things that are new and flat.
  SLICES OF SLICES of which one element's block is still one's own.
  A SLICE THAT GROWS WHILE ITS OLD VIEW IS KEPT: append onto a slice of one's own whose earlier elements someone else sees too.
-/
import Derived.Test.YtchbgfgboogniaaDoorGU
import Derived.Recover
import Derived.Stop.BytesEq
import Derived.LoopN
namespace Go.Proofs.YtchbgfgboogniaaDoor
open Go.RowKit
namespace Sx
section
variable {P : Program} {Γ : Cx} {σ σ' : St} {Q : Exit → Act → World → Prop} {a : Act} {w : World} {ops : Array Oper} {rest : List Oper} {S : List Nat} {dst : Option Tmp} {ty : TypeId} {pos : String} {af : Array Edge} {gd : Option (Nat × Bool)}
/-- The code is left by a panic. -/
def SP (Γ : Cx) (ch : List PanicEntry) (Q : Exit → Act → World → Prop) (σ : St) : Prop := ∀ a w, Holds Γ σ a w → Q (.panic ch) a w
theorem SP.then {ch : List PanicEntry} {K : Act → World → Prop} (h : SP Γ ch Q σ) : SP Γ ch (Exit.then K Q) σ := h
theorem SP.block {ch : List PanicEntry} {n : Nat} (h : SP Γ ch Q σ) : SP Γ ch (Exit.inBlock n Q) σ := h
abbrev pan (v : Value) : List PanicEntry := [{ v := v, recovered := false }]
/-- A function that panics. -/
structure ConP (P : Program) (f : FuncId) (ds : List D) (ch : List PanicEntry) : Prop where
  en : enters P f
  go : ∀ (L : List Nat) (w : World) (vs : List Value), (∀ g ∈ L, g < w.heap.size) → glob.R w → All L w ds vs → Calls P f vs.toArray w fun e w' => e = .panicked ch ∧ Only [] w w'
theorem SP.fn {fn : Func} {ch : List PanicEntry} {nt : Nat} {base : List Nat} {w0 : World} : SP ⟨nt, base, w0, [], []⟩ ch (bodyPost P fn fun e w' => e = .panicked ch ∧ Only [] w0 w') σ := fun a w hh => ⟨hh.df, rfl, hh.on⟩
theorem ConP.mono {f : FuncId} {ds es : List D} {ch : List PanicEntry} (h : ConP P f ds ch) (h1 : LeAll es ds) : ConP P f es ch := ⟨h.en, fun L w vs hL hG ha => h.go L w vs hL hG (h1.all ha)⟩
/-- panic(x) -/
theorem SWl.panic {x : Operand} {T : TypeId} {v : Value} (hx : σ.ev x = some (isD (.iface T v))) (h : SP Γ (pan (.iface T v)) Q σ) : SWl P Γ ops Q (⟨dst, .panic x, ty, pos, af, none⟩ :: rest) σ := fun a w hh => by
  have hv : a.eval x = .iface T v := ev_spec hh hx
  refine wpList_plain rfl fun K hK => ?_
  have e : (execOp a.eval ⟨dst, .panic x, ty, pos, af, none⟩).run P w = .halt (.panic (.iface T v)) w := by
    simp only [execOp, hv, Instr.panic, Sem.run_bind, run_goPanic]
    rfl
  unfold Oper.wp
  rw [e]
  exact h a w hh
def plainU (P : Program) (T : TypeId) : Bool := match P.underlying T with | some (.interface _) | none => false | _ => true
theorem plainU_spec {T : TypeId} (h : plainU P T = true) : ∃ q, P.underlying T = some q ∧ ∀ m, q ≠ .interface m := by
  unfold plainU at h
  split at h
  · cases h
  · cases h
  · rename_i u h1 h2
    cases hu : P.underlying T with
    | none => exact absurd hu h2
    | some q => exact ⟨q, rfl, fun m e => h1 m (by rw [hu, e])⟩
theorem Rd.makeI {x : Operand} {T : TypeId} {v : Value} {dx : D} (hx : σ.ev x = some dx) (hl : Le dx (isD v)) (hT : plainU P T = true) : Rd P Γ S ⟨dst, .makeInterface T x, ty, pos, af, gd⟩ σ (isD (.iface T v)) := fun a w hh => by
  have hv : a.eval x = v := hl _ _ _ (ev_spec hh hx)
  refine ⟨_, rfl, fun w' _ => ?_⟩
  obtain ⟨q, hu, hq⟩ := plainU_spec hT
  simp only [execOp, Instr.makeInterface, hv, Sem.run_bind, run_underlying hu, Result.andThen_ok]
  cases q <;> first | rfl | exact (hq _ rfl).elim
theorem Rd.assertY {x : Operand} {xT T : TypeId} {v : Value} (hx : σ.ev x = some (isD (.iface T v))) (hT : plainU P T = true) : Rd P Γ S ⟨dst, .typeAssert x xT T true, ty, pos, af, gd⟩ σ (tupD [isD v, boolD true]) := fun a w hh => by
  have hv : a.eval x = .iface T v := ev_spec hh hx
  refine ⟨.tuple #[v, .bool true], ⟨[v, .bool true], rfl, rfl, rfl, trivial⟩, fun w' _ => ?_⟩
  obtain ⟨q, hu, hq⟩ := plainU_spec hT
  simp only [execOp, Instr.typeAssert, hv, Sem.run_bind, run_underlying hu, Result.andThen_ok]
  cases q <;> first | exact (hq _ rfl).elim | simp
/-! Deferred calls. -/
/-- defer f() -/
theorem SWl.defer {x : Operand} {aT : Array TypeId} {f : FuncId} {cap : List Value} (hx : σ.ev x = some (isD (.func (.func f) #[] cap.toArray)))
    (h : SWl P { Γ with df := { target := .fn (.func f) cap.toArray, args := #[] } :: Γ.df } ops Q rest σ) : SWl P Γ ops Q (⟨none, .defer { callee := .value x, args := #[], argTypes := aT }, ty, pos, af, none⟩ :: rest) σ := fun a w hh => by
  have hv : a.eval x = .func (.func f) #[] cap.toArray := ev_spec hh hx
  refine wpList_plain rfl fun K hK => ?_
  have e : (execOp a.eval ⟨none, .defer { callee := .value x, args := #[], argTypes := aT }, ty, pos, af, none⟩).run P w = .ok (.defer { target := .fn (.func f) cap.toArray, args := #[] }) w := by
    simp [execOp, resolve, hv, Deferred.ofValue, Sem.run_bind, Sem.run_pure, Result.andThen_ok]
  unfold Oper.wp
  rw [e]
  simp only [Oper.upon]
  refine hK _ _ (h _ w ⟨?_, hh.sz, hh.tm, hh.bx, hh.nd, hh.nw, hh.on, hh.bs, hh.dj⟩)
  show _ :: a.defers = _ :: Γ.df
  rw [hh.df]
/-- A function that is called by defer, to which boxes are lent: u is how the caller leaves. -/
structure ConD (P : Program) (f : FuncId) (pre : List Box) (ad : List D) (u u' : FrameMode) (post : List Box) : Prop where
  en : enters P f
  go : ∀ (L : List Nat) (w : World) (vs : List Value), (∀ x ∈ L, x < w.heap.size) → glob.R w → (∀ g ∈ fps pre, g ∉ glob.F) → (∀ g ∈ fps pre, g ∉ L) → (fps pre).Nodup → (∀ b ∈ pre, b.R (fps pre ++ L) w) → All (fps pre ++ L) w ad vs →
    CallsD P f vs.toArray u w fun e v w' => (∃ r, e = .returned r) ∧ v = u' ∧ (∀ b ∈ post, b.R (fps post ++ L) w') ∧ (fps post).Nodup ∧ (∀ g ∈ fps post, g ∈ fps pre ∨ w.heap.size ≤ g) ∧ Only (fps pre) w w'
/-- A function's end, deferred calls and all. -/
def RL (P : Program) (fn : Func) (R : Ending → World → Prop) (u : FrameMode) (Γ : Cx) (σ : St) : Prop := ∀ a w, Holds Γ σ a w → Leaves P fn a.tmps R a.defers u w
theorem RL.defer {fn : Func} {R : Ending → World → Prop} {u u' : FrameMode} {f : FuncId} {cap : List Value} {pre post : List Box} {nt : Nat} {base lent : List Nat} {w0 : World} {df : List Deferred} (js : List Nat) (hu : u ≠ .run) (hcon : ConD P f pre (cap.map isD) u u' post) (hjs : js.Nodup) (hs : SubBx σ.bx js pre)
    (h : RL P fn R (settle u') ⟨nt, base, w0, lent, df⟩ (σ.give js post)) : RL P fn R u ⟨nt, base, w0, lent, { target := .fn (.func f) cap.toArray, args := #[] } :: df⟩ σ := fun a w hh => by
  have hd : a.defers = { target := .fn (.func f) cap.toArray, args := #[] } :: df := hh.df
  rw [hd]
  have hL1 : ∀ x ∈ fps pre ++ (σ.L ⟨nt, base, w0, lent, { target := .fn (.func f) cap.toArray, args := #[] } :: df⟩).filter (· ∉ fps pre), x ∈ σ.L ⟨nt, base, w0, lent, { target := .fn (.func f) cap.toArray, args := #[] } :: df⟩ ∨ w.heap.size ≤ x := fun x hx => by
    rcases List.mem_append.1 hx with hx | hx
    · exact .inl (List.mem_append_left _ (hs.fps hx))
    · exact .inl (List.mem_filter.1 hx).1
  refine leaves_cons (f := f) (args := cap.toArray) hu (by simpa [invoke] using hcon.en _ w) ((hcon.go ((σ.L ⟨nt, base, w0, lent, { target := .fn (.func f) cap.toArray, args := #[] } :: df⟩).filter (· ∉ fps pre)) w cap (fun x hx => hh.lt x (List.mem_filter.1 hx).1) hh.gl (fun g hg => hh.off g (hs.fps hg)) (fun g hg hm => by have := (List.mem_filter.1 hm).2; simp at this; exact this hg) (SubBx.nodup hh.nd hjs hs) (fun b' hb' => ?_) ?_).mono ?_)
  · obtain ⟨j, c, _, h5, h6⟩ := SubBx.mem hs b' hb'
    exact h6.2 _ _ (Box.less (hh.bx c (List.mem_of_getElem? h5)) hL1)
  · exact all_is cap
  · rintro e v w' ⟨⟨r, rfl⟩, rfl, hR, hnd, hnw, ho⟩
    have hg := (hh.give hs ho hR hnd hnw).1
    exact h { a with defers := df } w' ⟨rfl, hg.sz, hg.tm, hg.bx, hg.nd, hg.nw, hg.on, hg.bs, hg.dj⟩
theorem RL.fin {fn : Func} {pre : List Box} {ι : Type} {post : ι → List Box} {d : ι → D} {nt : Nat} {base : List Nat} {w0 : World} (i : ι) (js : List Nat) (h : Rs P ⟨nt, base, w0, fps pre, []⟩ fn σ (d i)) (hjs : js.Nodup) (hb : SubBx σ.bx js (post i)) :
    RL P fn (fun e w' => ∃ i v, e = .returned v ∧ (d i).R (fps (post i) ++ base) w' v ∧ (∀ b ∈ post i, b.R (fps (post i) ++ base) w') ∧ (fps (post i)).Nodup ∧ (∀ g ∈ fps (post i), g ∈ fps pre ∨ w0.heap.size ≤ g) ∧ Only (fps pre) w0 w') .returning ⟨nt, base, w0, fps pre, []⟩ σ := fun a w hh => by
  rw [show a.defers = [] from hh.df]
  exact Sx.retR i js h hjs hb hh
theorem SW.retL {fn : Func} {R : Ending → World → Prop} (hQ : ∀ a w, bodyPostD P fn R .ret a w → Q .ret a w) (h : RL P fn R .returning Γ σ) : SW P Γ σ .ret Q := fun a w hh => wp_ret (hQ a w (h a w hh))
theorem SN.retL {fn : Func} {R : Ending → World → Prop} (h : RL P fn R .returning Γ σ) : SN Γ (bodyPostD P fn R) σ := fun a w hh => h a w hh
theorem SP.retL {fn : Func} {R : Ending → World → Prop} {ch : List PanicEntry} (h : RL P fn R (.panicking ch) Γ σ) : SP Γ ch (bodyPostD P fn R) σ := fun a w hh => h a w hh
theorem con_ofRD {f : FuncId} {fn : Func} {c : Code} {pre : List Box} {ad : List D} {ι : Type} {post : ι → List Box} {d : ι → D} (hf : P.funcs[f]? = some fn) (hn : (fn.name == "runtime.NumGoroutine") = false) (hb : fn.body = some c) (hlen : Nat.ble ad.length fn.ntmps = true)
    (h : ∀ (base : List Nat) (w0 : World), SW P ⟨fn.ntmps, base, w0, fps pre, []⟩ (St.ob (inits 0 ad) pre) c (bodyPostD P fn fun e w' => ∃ i v, e = .returned v ∧ (d i).R (fps (post i) ++ base) w' v ∧ (∀ b ∈ post i, b.R (fps (post i) ++ base) w') ∧ (fps (post i)).Nodup ∧ (∀ g ∈ fps (post i), g ∈ fps pre ∨ w0.heap.size ≤ g) ∧ Only (fps pre) w0 w')) : ConR P f pre ad post d := by
  refine ⟨enters_of hf hn (by rw [hb]; rfl), fun L w vs hL hG hgF hg hnd hbk ha => ?_⟩
  refine calls_of_wp_defers hf hb (h L w _ _ ?_)
  have hl := ha.length
  have hle : ad.length ≤ fn.ntmps := by simpa using hlen
  refine ⟨rfl, by simp [hl]; omega, fun i e hi => ?_, hbk, hnd, fun g hg => .inr hg, Only.refl _ _, hL, hg, hG, hgF⟩
  have := inits_spec (pre := []) (post := List.replicate (fn.ntmps - vs.length) undef) ha rfl i e hi
  have e1 : vs.toArray ++ Array.replicate (fn.ntmps - vs.toArray.size) undef = ([] ++ vs ++ List.replicate (fn.ntmps - vs.length) undef).toArray := by
    apply Array.ext'
    simp
  rw [e1]
  exact this
/-- recover() first, then plain code. -/
theorem con_ofD {f : FuncId} {fn : Func} {c : Code} {id : Nat} {k1 k2 : Tmp} {t1 t2 : TypeId} {p1 p2 : String} {a1 a2 : Array Edge} {aT : Array TypeId} {pre post : List Box} {ad : List D} {u u' : FrameMode} {rv : Value} (hf : P.funcs[f]? = some fn) (hn : (fn.name == "runtime.NumGoroutine") = false)
    (hb : fn.body = some (.seq (.region id #[⟨some k1, .call { callee := .builtin .recover, args := #[], argTypes := aT }, t1, p1, a1, none⟩, ⟨some k2, .assign (.tmp k1), t2, p2, a2, none⟩] false) c)) (hlen : Nat.ble ad.length fn.ntmps = true) (h1 : Nat.blt k1 fn.ntmps = true) (h2 : Nat.blt k2 fn.ntmps = true)
    (hu : (∃ v older, u = .panicking ({ v := v, recovered := false, goexit := false } :: older) ∧ rv = v ∧ u' = .panicking ({ v := v, recovered := true } :: older)) ∨ (u = .returning ∧ rv = .nilIface ∧ u' = .returning))
    (h : ∀ (base : List Nat) (w0 : World), SW P ⟨fn.ntmps, base, w0, fps pre, []⟩ (((St.ob (inits 0 ad) pre).put k1 (isD rv)).put k2 (isD rv)) c (bodyPost P fn fun e w' => (∃ r, e = .returned r) ∧ (∀ b ∈ post, b.R (fps post ++ base) w') ∧ (fps post).Nodup ∧ (∀ g ∈ fps post, g ∈ fps pre ∨ w0.heap.size ≤ g) ∧ Only (fps pre) w0 w')) : ConD P f pre ad u u' post := by
  refine ⟨enters_of hf hn (by rw [hb]; rfl), fun L w vs hL hG hgF hg hnd hbk ha => ?_⟩
  refine callsD_of_wpS hf hb fun c₀ cs hc => ?_
  have hl := ha.length
  have hle : ad.length ≤ fn.ntmps := by simpa using hlen
  have hh : Holds ⟨fn.ntmps, L, w, fps pre, []⟩ (St.ob (inits 0 ad) pre) { tmps := vs.toArray ++ Array.replicate (fn.ntmps - vs.toArray.size) undef, defers := [] } w := by
    refine ⟨rfl, by simp [hl]; omega, fun i e hi => ?_, hbk, hnd, fun g hg => .inr hg, Only.refl _ _, hL, hg, hG, hgF⟩
    have := inits_spec (pre := []) (post := List.replicate (fn.ntmps - vs.length) undef) ha rfl i e hi
    have e1 : vs.toArray ++ Array.replicate (fn.ntmps - vs.toArray.size) undef = ([] ++ vs ++ List.replicate (fn.ntmps - vs.length) undef).toArray := by
      apply Array.ext'
      simp
    rw [e1]
    exact this
  have hk1 : k1 < fn.ntmps := by simpa using h1
  have hk2 : k2 < fn.ntmps := by simpa using h2
  generalize ha0 : ({ tmps := vs.toArray ++ Array.replicate (fn.ntmps - vs.toArray.size) undef, defers := [] } : Act) = a0 at hh
  have hrec : ∀ v', (v' = rv) → Holds ⟨fn.ntmps, L, w, fps pre, []⟩ (((St.ob (inits 0 ad) pre).put k1 (isD rv)).put k2 (isD rv)) ((a0.put (some k1) v').put (some k2) v') w := fun v' e => by
    subst e
    exact (hh.put hk1 (d := isD v') rfl).put hk2 rfl
  have hev : ∀ v', (a0.put (some k1) v').eval (.tmp k1) = v' := fun v' => by
    show ((a0.put (some k1) v').tmps.getD k1 undef) = v'
    rw [put_get (by rw [hh.sz]; exact hk1)]
    simp
  refine wpS_seq (wpS_region ?_)
  have hlist : List.range (#[(⟨some k1, .call { callee := .builtin .recover, args := #[], argTypes := aT }, t1, p1, a1, none⟩ : Oper), ⟨some k2, .assign (.tmp k1), t2, p2, a2, none⟩] : Array Oper).size = [0, 1] := rfl
  rw [hlist]
  have e0 : (execOp a0.eval ⟨some k1, .call { callee := .builtin .recover, args := #[], argTypes := aT }, t1, p1, a1, none⟩).run P w = .ok .recover w := by
    simp [execOp, go_sem]
  have e1 : ∀ v', (execOp (a0.put (some k1) v').eval ⟨some k2, .assign (.tmp k1), t2, p2, a2, none⟩).run P w = .ok (.value v') w := fun v' => by
    simp only [execOp, hev]
    rfl
  have fin : ∀ cs', cs' = { c₀ with mode := u' } :: cs → wpOpsS P #[(⟨some k1, .call { callee := .builtin .recover, args := #[], argTypes := aT }, t1, p1, a1, none⟩ : Oper), ⟨some k2, .assign (.tmp k1), t2, p2, a2, none⟩] (Exit.thenS (c.wpS P (bodyPostS P fn c₀ cs fun e v w' => (∃ r, e = .returned r) ∧ v = u' ∧ (∀ b ∈ post, b.R (fps post ++ L) w') ∧ (fps post).Nodup ∧ (∀ g ∈ fps post, g ∈ fps pre ∨ w.heap.size ≤ g) ∧ Only (fps pre) w w')) (bodyPostS P fn c₀ cs fun e v w' => (∃ r, e = .returned r) ∧ v = u' ∧ (∀ b ∈ post, b.R (fps post ++ L) w') ∧ (fps post).Nodup ∧ (∀ g ∈ fps post, g ∈ fps pre ∨ w.heap.size ≤ g) ∧ Only (fps pre) w w')) [1] (a0.put (some k1) rv) cs' w := by
    intro cs' hcs
    subst hcs
    simp only [wpOpsS]
    simp only [List.getElem?_toArray, List.getElem?_cons_succ, List.getElem?_cons_zero, Region.wanted, if_true]
    rw [e1 rv]
    simp only [Oper.upon]
    refine wpS_of_wp (wp_mono (h L w _ _ (hrec rv rfl)) ?_)
    intro e a w' hq
    cases e with
    | normal => obtain ⟨hd, v, hr, k1, k2, k3, k4, k5⟩ := hq; exact ⟨hd, u', rfl, v, hr, k1, rfl, k2, k3, k4, k5⟩
    | ret => obtain ⟨hd, v, hr, k1, k2, k3, k4, k5⟩ := hq; exact ⟨hd, u', rfl, v, hr, k1, rfl, k2, k3, k4, k5⟩
    | panic ch => obtain ⟨hd, ⟨r, hr⟩, _⟩ := hq; cases hr
    | outgrown => obtain ⟨⟨r, hr⟩, _⟩ := hq; cases hr
    | _ => exact hq.elim
  unfold wpOpsS
  simp only [List.getElem?_toArray, List.getElem?_cons_zero, Region.wanted, if_true]
  rw [e0]
  simp only
  rcases hu with ⟨v, older, rfl, rfl, rfl⟩ | ⟨rfl, rfl, rfl⟩
  · have hr : recoverD (c₀ :: cs) = some (rv, { c₀ with mode := .panicking ({ v := rv, recovered := true } :: older) } :: cs) := by simp [recoverD, hc]
    rw [hr]
    exact fin _ rfl
  · have hr : recoverD (c₀ :: cs) = none := by simp [recoverD, hc]
    rw [hr]
    exact fin _ (by rw [← hc])
end
end Sx
end Go.Proofs.YtchbgfgboogniaaDoor
namespace Go.Proofs.YtchbgfgboogniaaDoor
open Go.RowKit
namespace Sx
/-- A digest, as an element. -/
abbrev Dg : Type := {d : List UInt8 // d.length = 32}
def encG (d : Dg) : List D := (cellsOf d.1).map isD
instance : Row encG 32 := ⟨fun x => by unfold encG; rw [List.length_map, cellsOf_length, x.2], fun x => by unfold encG; infer_instance, by decide⟩
section
variable {P : Program} {Γ : Cx} {σ : St} {S : List Nat} {dst : Option Tmp} {ty : TypeId} {pos : String} {af : Array Edge} {gd : Option (Nat × Bool)} {d : D}
theorem Rd.more {op : Oper} {d d' : D} (h : Rd P Γ S op σ d) (hl : Le d d') : Rd P Γ S op σ d' := fun a w hh => by
  obtain ⟨v, hv, hr⟩ := h a w hh
  exact ⟨v, hl _ _ _ hv, hr⟩
end
end Sx
end Go.Proofs.YtchbgfgboogniaaDoor
namespace Go.Proofs.YtchbgfgboogniaaDoor
open Go.RowKit
namespace Sx
section
variable {P : Program} {Γ : Cx} {σ : St} {S : List Nat} {dst : Option Tmp} {ty : TypeId} {pos : String} {af : Array Edge} {gd : Option (Nat × Bool)} {d : D}
end
end Sx
end Go.Proofs.YtchbgfgboogniaaDoor
namespace Go.Proofs.YtchbgfgboogniaaDoor
open Go.RowKit
namespace Sx
/-- What holds whatever is own. -/
class Flat (d : D) : Prop where
  h : ∀ L L' w v, d.R L w v → d.R L' w v
instance (v : Value) : Flat (isD v) := ⟨fun _ _ _ _ h => h⟩
class Flats (ds : List D) : Prop where
  h : ∀ L L' w vs, All L w ds vs → All L' w ds vs
instance : Flats [] := ⟨fun _ _ _ vs h => by cases vs with | nil => trivial | cons => exact h.elim⟩
instance (d : D) (ds : List D) [hd : Flat d] [hs : Flats ds] : Flats (d :: ds) := ⟨fun L L' w vs h => by
  cases vs with
  | nil => exact h.elim
  | cons v vs => exact ⟨hd.h _ _ _ _ h.1, hs.h _ _ _ _ h.2⟩⟩
instance (ds : List D) [hs : Flats ds] : Flat (tupD ds) := ⟨fun L L' w v ⟨cs, hv, ha⟩ => ⟨cs, hv, hs.h _ _ _ _ ha⟩⟩
theorem flats_cells (b : List UInt8) : Flats (b.flatMap encB) := ⟨fun L L' w vs h => by
  induction b generalizing vs with
  | nil => cases vs with | nil => trivial | cons => exact h.elim
  | cons x b ih =>
    cases vs with
    | nil => exact h.elim
    | cons v vs => exact ⟨h.1, ih vs h.2⟩⟩
class FlatBx (b : Box) : Prop where
  h : ∀ L L' w, b.R L w → b.R L' w
instance (F : List Nat) (e c : Nat) (A : Option Addr) (b : List UInt8) : FlatBx (.r F (vecT e 1 encB A c b)) := ⟨fun L L' w ⟨xs, ha, h⟩ => ⟨xs, (flats_cells b).h _ _ _ _ ha, h⟩⟩
section
variable {P : Program} {Γ : Cx} {σ : St} {S : List Nat} {dst : Option Tmp} {ty : TypeId} {pos : String} {af : Array Edge} {gd : Option (Nat × Bool)} {d : D} {a : Act} {w : World}
end
end Sx
end Go.Proofs.YtchbgfgboogniaaDoor
namespace Go.Proofs.YtchbgfgboogniaaDoor
open Go.RowKit
namespace Sx
/-- An element: bytes that are known, or just this slice. -/
inductive El
  | k (b : List UInt8)
  | x (A : Option Addr) (n c : Nat)
def encX : El → List D
  | .k b => [bD b]
  | .x A n c => [isD (.slice A n c)]
instance : Row encX 1 := ⟨fun e => by cases e <;> rfl, fun e => by cases e <;> (unfold encX; infer_instance), by decide⟩
section
variable {P : Program} {Γ : Cx} {σ : St} {Q : Exit → Act → World → Prop} {a : Act} {w : World}
end
end Sx
end Go.Proofs.YtchbgfgboogniaaDoor
namespace Go.Proofs.YtchbgfgboogniaaDoor
open Go.RowKit
namespace Sx
section
variable {P : Program} (w : World)
end
section
variable {P : Program} {Γ : Cx} {σ : St} {S : List Nat} {dst : Option Tmp} {ty : TypeId} {pos : String} {af : Array Edge} {gd : Option (Nat × Bool)} {Q : Exit → Act → World → Prop} {a : Act} {w : World}
/-- A closure over one variable of one's own is let go of. -/
theorem Holds.freezeF (h : Holds Γ σ a w) {j k g : Nat} {f : FuncId} {ds : List D} (hj : σ.bx[j]? = some (.c g ds)) (hk : σ.tm k = some (isD (.func (.func f) #[] #[.pointer (some ⟨g, 0, none⟩)]))) : Holds Γ ((⟨σ.tm, dropAt σ.bx 0 [j]⟩ : St).put k (fnD f [paD ds])) a w := by
  refine (h.drop [j]).learn ?_
  have hv : a.tmps.getD k undef = .func (.func f) #[] #[.pointer (some ⟨g, 0, none⟩)] := h.tm k _ hk
  rw [hv]
  obtain ⟨t, cs, hb, ha⟩ := h.bx (.c g ds) (List.mem_of_getElem? hj)
  exact ⟨[.pointer (some ⟨g, 0, none⟩)], rfl, ⟨⟨g, 0, none⟩, rfl, fun _ => ⟨g, 0, rfl, hb.lt, apart_drop h hj (by simp [Box.fp]), cs, ha.less (fun x hx => .inl (by
    rcases List.mem_append.1 hx with hx | hx
    · exact List.mem_append_left _ (dropAt_fps hx)
    · exact List.mem_append_right _ hx)), fun q hq => by rw [Nat.zero_add]; exact hb.cell q⟩⟩, trivial⟩
theorem SW.freezeF {c : Code} (j k : Nat) {g : Nat} {f : FuncId} {ds : List D} (hj : σ.bx[j]? = some (.c g ds)) (hk : σ.tm k = some (isD (.func (.func f) #[] #[.pointer (some ⟨g, 0, none⟩)]))) (h : SW P Γ ((⟨σ.tm, dropAt σ.bx 0 [j]⟩ : St).put k (fnD f [paD ds])) c Q) : SW P Γ σ c Q := fun a w hh => h a w (hh.freezeF hj hk)
/-- A loop whose rounds are walked one by one. -/
theorem SW.rounds (n : Nat) {c : Code} (h : SW P Γ σ c (Exit.then (Code.rounds P c Q n) Q)) : SW P Γ σ (.loop c) Q := fun a w hh => wp_loop_rounds (n + 1) (h a w hh)
theorem SN.round {n : Nat} {c : Code} (h : SW P Γ σ c (Exit.then (Code.rounds P c Q n) Q)) : SN Γ (Exit.then (Code.rounds P c Q (n + 1)) Q) σ := fun a w hh => h a w hh
end
end Sx
end Go.Proofs.YtchbgfgboogniaaDoor
