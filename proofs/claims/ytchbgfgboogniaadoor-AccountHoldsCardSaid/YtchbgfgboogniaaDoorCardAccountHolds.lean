/-
  THE CARD of the law AccountHolds: whatever the input, the law returns true and leaves its arguments as they were.
-/
import Derived.Test.YtchbgfgboogniaaDoorGE
import Derived.Test.YtchbgfgboogniaaDoorGateA0
import Derived.Test.YtchbgfgboogniaaDoorA26
namespace Go.Proofs.YtchbgfgboogniaaDoor.accountHolds
open Go.ChangeShapes Go.WideShapes Go.ChangeAt Go.RowKit
theorem own : ownKnob Tryd.prog.godebug = none := by kernel_rfl

set_option maxRecDepth 100000 in
theorem contract (H : Type) (enc : TypeId × Value → H) (W : World) (base : Nat) (args : Array Value) (ds gs : List (DataW H)) (before : List MemPlace)
    (hval : ∀ (j : Nat) t v, Tryd.f3.params[j]? = some t → args[j]? = some v → Value.okWide Tryd.prog W .any base t v)
    (hW : DataW.Whole enc Tryd.prog Tryd.f3.params.toList Rows.accountHoldsSpec.vars false W args.toList ds gs before) (hL : laidMetH Tryd.prog Rows.accountHoldsRow.laid W) :
    Calls Tryd.prog 3 args W fun e W' => ∃ v, e = .returned v ∧ Rows.accountHoldsSpec.post enc Tryd.prog Tryd.f3 false true false false W args v W' := by
  have hgl := gl_of_laid hL
  have hW' := hW
  obtain ⟨p, q, hA0, hV, -, -, -⟩ := hW
  have hA : DataW.TrodAll enc Tryd.prog W 0 (fun _ => true) true Tryd.f3.params.toList args.toList ds p := hA0
  obtain ⟨hgs, -⟩ := trodVars_none hV
  rw [Tryd.params3] at hA hval
  obtain ⟨v0, vs0, d0, ds0, p0, q0, hargs0, hds0, -, h0, r0⟩ := trodAll_cons hA
  obtain ⟨v1, vs1, d1, ds1, p1, q1, hargs1, hds1, -, h1, r1⟩ := trodAll_cons r0
  obtain ⟨v2, vs2, d2, ds2, p2, q2, hargs2, hds2, -, h2, r2⟩ := trodAll_cons r1
  obtain ⟨hvs, hdse, -⟩ := trodAll_nil r2
  have hargs : args = #[v0, v1, v2] := by
    cases args
    simp_all
  have hds : ds = [d0, d1, d2] := by simp_all
  subst hargs hds hgs
  obtain ⟨l0, ho0, k0⟩ := Sx.top_slice Sx.came_accs Tryd.underlying22 (hval 0 22 v0 rfl rfl) h0
  obtain ⟨l1, ho1, k1⟩ := Sx.top_slice (Sx.came_bytes Tryd.underlying23 Tryd.underlying5 (by kernel_rfl)) Tryd.underlying23 (hval 1 23 v1 rfl rfl) h1
  obtain ⟨l2, ho2, k2⟩ := Sx.top_slice (Sx.came_bytes Tryd.underlying23 Tryd.underlying5 (by kernel_rfl)) Tryd.underlying23 (hval 2 23 v2 rfl rfl) h2
  have walk := (Sx.accountHolds_con l0 l1 l2 (Nat.le_trans ho0.1 (by decide))).con.go [] W [v0, v1, v2] (by simp) hgl ⟨k0, k1, k2, trivial⟩
  refine walk.mono fun e W' ⟨v, he, hd, hO⟩ => ⟨v, he, ?_⟩
  obtain rfl : v = .bool true := hd
  exact post_kept (by kernel_rfl) (by rw [Tryd.params3]; decide +kernel) (tb := 4) (by kernel_rfl) Tryd.underlying4 rfl hW' rfl rfl rfl hO.below

set_option maxRecDepth 100000 in
theorem laid_met (os : Os) : laidMet Tryd.prog Rows.accountHoldsRow.laid ((laidWorld os).forCall (fun _ _ => 0) ⟨#[], #[.slice none 0 0, .slice none 0 0, .slice none 0 0], []⟩).memory :=
  laidMet_of_run' 8 (by kernel_rfl) (by kernel_rfl)
set_option maxRecDepth 100000 in
theorem reads (os : Os) {H : Type} (enc : TypeId × Value → H) : ∃ places, DataW.whole enc Tryd.prog ((laidWorld os).forCall (fun _ _ => 0) ⟨#[], #[.slice none 0 0, .slice none 0 0, .slice none 0 0], []⟩).memory Tryd.f3.params.toList Rows.accountHoldsSpec.vars false (#[.slice none 0 0, .slice none 0 0, .slice none 0 0] : Array Value).toList 8 = some ([.nil, .nil, .nil], [], places) :=
  ⟨[], by kernel_rfl⟩

set_option maxRecDepth 100000 in
theorem lifted (os : Os) (started : os.Started) (H : Type) (enc : TypeId × Value → H) (F : Stop.Interp) :
    ReturnsInHanded {} Tryd.checked os 3 .any ((OpenSpec.ofChange Rows.accountHoldsSpec).preRow enc Tryd.prog Tryd.f3 Rows.accountHoldsRow.domain false Rows.accountHoldsRow.laid) (((OpenSpec.ofChange Rows.accountHoldsSpec).at F).post enc Tryd.prog Tryd.f3 false true false false) := by
  obtain ⟨places, hx⟩ := reads os enc
  refine returnsInHanded_of_row (C := Tryd.checked) (s := OpenSpec.ofChange Rows.accountHoldsSpec) own started (by kernel_rfl) Tryd.func3
    (witness_row_at (enc := enc) (C := Tryd.checked) false (laidWorld os) #[.slice none 0 0, .slice none 0 0, .slice none 0 0] rfl (by kernel_rfl) (by kernel_rfl) (by kernel_rfl)
      (OpenSpec.preRow_of_cond 8 hx (by kernel_rfl) (fun k hk => by cases hk) (by kernel_rfl) (laid_met os))) ?_
  intro W base args ds gs before hval hW _ _ _ hL _ _
  exact contract H enc W base args ds gs before hval hW hL

theorem said : Rows.AccountHoldsSaid :=
  OpenClaim.holds_of_cond 3 Tryd.f3 rfl rfl rfl rfl rfl rfl rfl ⟨rfl, rfl, rfl, rfl, rfl⟩ rfl rfl rfl rfl rfl (by kernel_rfl) Tryd.func3 (by kernel_rfl)
    (of_decide_eq_true (by kernel_rfl)) (by unfold Func.isWrapper; first | (rw [if_pos (by decide +kernel)]; kernel_rfl) | (rw [if_neg (by decide +kernel)]; exact ⟨rfl, rfl⟩))
    (fun os started H enc _ F => by rw [OpenClaim.pre_eq_preRow]; exact lifted os started H enc F)

theorem plain (f : FuncId) (fn : Func) (hf : Tryd.pinned.checked.prog.funcNamed "bandplan/bandplanlaw41.AccountHolds" = some f) (hfn : Tryd.pinned.checked.prog.funcs[f]? = some fn) :
    true = Tryd.pinned.checked.prog.looks [] ∧ ∀ (j : Nat) t, fn.params[j]? = some t → Tryd.pinned.checked.prog.wantsStandIn t = false := by
  obtain rfl : f = 3 := Option.some.inj ((show Tryd.prog.funcNamed "bandplan/bandplanlaw41.AccountHolds" = some 3 by kernel_rfl).symm.trans hf) |>.symm
  obtain rfl : fn = Tryd.f3 := (Option.some.inj (Tryd.func3.symm.trans hfn)).symm
  refine ⟨by kernel_rfl, fun j t ht => ?_⟩
  have hall : ∀ t ∈ Tryd.f3.params.toList, Tryd.prog.wantsStandIn t = false := by
    rw [Tryd.params3]
    decide +kernel
  exact hall t (by simpa using Array.mem_of_getElem? ht)

theorem card : Rows.AccountHoldsCardSaid :=
  Claim7.holds_tied_plain_at .later [] _ _ _ _ said (fun _ h => by cases h) (by kernel_rfl) (fun _ h => by cases h) accountHolds_row_tie rfl ⟨rfl, rfl⟩ (by kernel_rfl) rfl plain (by kernel_rfl)
end Go.Proofs.YtchbgfgboogniaaDoor.accountHolds
