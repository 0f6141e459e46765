/-
  CALLS that read boxes of one's own and return things that are new and flat.
-/
import Derived.Test.YtonjpfpdpfonnaaDoorSyV
namespace Go.Proofs.YtonjpfpdpfonnaaDoor
open Go.RowKit
namespace Sx
/-- What holds whatever is own. -/
class Flat (d : D) : Prop where
  h : ∀ L L' w v, d.R L w v → d.R L' w v
instance (v : Value) : Flat (isD v) := ⟨fun _ _ _ _ h => h⟩
class Flats (ds : List D) : Prop where
  h : ∀ L L' w vs, All L w ds vs → All L' w ds vs
instance : Flats [] := ⟨fun _ _ _ vs h => by cases vs with | nil => trivial | cons => exact h.elim⟩
instance (d : D) (ds : List D) [hd : Flat d] [hs : Flats ds] : Flats (d :: ds) := ⟨fun L L' w vs h => by
  cases vs with
  | nil => exact h.elim
  | cons v vs => exact ⟨hd.h _ _ _ _ h.1, hs.h _ _ _ _ h.2⟩⟩
instance (ds : List D) [hs : Flats ds] : Flat (tupD ds) := ⟨fun L L' w v ⟨cs, hv, ha⟩ => ⟨cs, hv, hs.h _ _ _ _ ha⟩⟩
theorem flats_cells (b : List UInt8) : Flats (b.flatMap encB) := ⟨fun L L' w vs h => by
  induction b generalizing vs with
  | nil => cases vs with | nil => trivial | cons => exact h.elim
  | cons x b ih =>
    cases vs with
    | nil => exact h.elim
    | cons v vs => exact ⟨h.1, ih vs h.2⟩⟩
class FlatBx (b : Box) : Prop where
  h : ∀ L L' w, b.R L w → b.R L' w
instance (F : List Nat) (e c : Nat) (A : Option Addr) (b : List UInt8) : FlatBx (.r F (vecT e 1 encB A c b)) := ⟨fun L L' w ⟨xs, ha, h⟩ => ⟨xs, (flats_cells b).h _ _ _ _ ha, h⟩⟩
section
variable {P : Program} {Γ : Cx} {σ : St} {S : List Nat} {dst : Option Tmp} {ty : TypeId} {pos : String} {af : Array Edge} {gd : Option (Nat × Bool)} {d : D} {a : Act} {w : World}
theorem upon_RS {f : FuncId} {vs : List Value} {ad es : List D} {ι : Type} {post : ι → List Box} {d : ι → D} (hcon : ConR P f [] ad post d) (hd : ∀ i, Flat (d i)) (hb : ∀ i, ∀ b ∈ post i, FlatBx b) (hh : Holds Γ σ a w) {js : List Nat} (hs : SeesAll Γ σ js es ad) (hall : All (σ.L Γ) w es vs) :
    Calls P f vs.toArray w fun e w' => ∃ i v, e = .returned v ∧ Holds Γ (σ.give [] (post i)) a w' ∧ (d i).R ((σ.give [] (post i)).L Γ) w' v ∧ Only [] w w' := by
  classical
  have ho : Off Γ σ js ((σ.L Γ).filter (fun x => decide (∀ j ∈ js, ∀ b, σ.bx[j]? = some b → x ∉ b.fp))) := ⟨fun x hx => (List.mem_filter.1 hx).1, fun j hj b hb x hx hm => by
    have := (List.mem_filter.1 hm).2
    simp only [decide_eq_true_eq] at this
    exact this j hj b hb hx⟩
  refine (hcon.go _ w vs (fun g hg => hh.lt g (ho.1 g hg)) hh.gl (by simp [fps]) (by simp [fps]) (by simp [fps]) (by simp) ?_).mono ?_
  · simpa [fps] using hs.all hh ho hall
  · rintro r w' ⟨i, v, rfl, hdv, hR, hnd, hnw, hO⟩
    obtain ⟨h1, h2⟩ := hh.give (js := []) (pre := []) (by trivial) hO (fun b hbm => (hb i b hbm).h _ _ _ (hR b hbm)) hnd hnw
    exact ⟨i, v, rfl, h1, (hd i).h _ _ _ _ hdv, hO⟩
theorem Ef.callRS {f : FuncId} {args : Array Operand} {aT : Array TypeId} {ad es : List D} {ι : Type} {post : ι → List Box} {d : ι → D} {k : Nat} (js : List Nat) (hcon : ConR P f [] ad post d) (hd : ∀ i, Flat (d i)) (hb : ∀ i, ∀ b ∈ post i, FlatBx b) (he : σ.evs args.toList = some es) (hs : SeesAll Γ σ js es ad) (hk : dstOk Γ.nt k = true) :
    Ef P Γ S ⟨some k, .call { callee := .value (.func f), args := args, argTypes := aT }, ty, pos, af, gd⟩ σ (fun σ' => ∃ i, σ' = (σ.give [] (post i)).put k (d i)) := by
  intro a w hh K Q hK
  have hall := evs_spec hh he
  unfold Oper.wp
  rw [run_callV (cap := []) hcon.en (show a.eval (.func f) = .func (.func f) #[] ([] : List Value).toArray from rfl), List.append_nil]
  simp only [Oper.upon]
  refine (upon_RS hcon hd hb hh hs hall).mono ?_
  rintro r w' ⟨i, v, rfl, h1, h2, ho⟩
  exact hK _ _ _ ⟨i, rfl⟩ (h1.put (by simpa [dstOk] using hk) h2) (ho.mono (by simp))
end
end Sx
end Go.Proofs.YtonjpfpdpfonnaaDoor
