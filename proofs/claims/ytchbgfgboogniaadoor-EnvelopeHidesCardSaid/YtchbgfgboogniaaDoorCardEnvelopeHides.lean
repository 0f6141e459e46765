/-
  THE CARD of the law EnvelopeHides: whatever the input, the law returns true and leaves its arguments as they were.
-/
import Derived.Test.YtchbgfgboogniaaDoorGE
import Derived.Test.YtchbgfgboogniaaDoorGateV
import Derived.Test.YtchbgfgboogniaaDoorE8e
namespace Go.Proofs.YtchbgfgboogniaaDoor.envelopeHides
open Go.ChangeShapes Go.WideShapes Go.ChangeAt Go.RowKit
theorem own : ownKnob Tryd.prog.godebug = none := by kernel_rfl

set_option maxRecDepth 100000 in
theorem contract (H : Type) (enc : TypeId × Value → H) (W : World) (base : Nat) (args : Array Value) (ds gs : List (DataW H)) (before : List MemPlace)
    (hval : ∀ (j : Nat) t v, Tryd.f9.params[j]? = some t → args[j]? = some v → Value.okWide Tryd.prog W .any base t v)
    (hW : DataW.Whole enc Tryd.prog Tryd.f9.params.toList Rows.envelopeHidesSpec.vars false W args.toList ds gs before) (hL : laidMetH Tryd.prog Rows.envelopeHidesRow.laid W) :
    Calls Tryd.prog 9 args W fun e W' => ∃ v, e = .returned v ∧ Rows.envelopeHidesSpec.post enc Tryd.prog Tryd.f9 false true false false W args v W' := by
  have hgl := gl_of_laid hL
  have hW' := hW
  obtain ⟨p, q, hA0, hV, -, -, -⟩ := hW
  have hA : DataW.TrodAll enc Tryd.prog W 0 (fun _ => true) true Tryd.f9.params.toList args.toList ds p := hA0
  obtain ⟨hgs, -⟩ := trodVars_none hV
  rw [Tryd.params9] at hA hval
  obtain ⟨v0, vs0, d0, ds0, p0, q0, hargs0, hds0, -, h0, r0⟩ := trodAll_cons hA
  obtain ⟨v1, vs1, d1, ds1, p1, q1, hargs1, hds1, -, h1, r1⟩ := trodAll_cons r0
  obtain ⟨v2, vs2, d2, ds2, p2, q2, hargs2, hds2, -, h2, r2⟩ := trodAll_cons r1
  obtain ⟨v3, vs3, d3, ds3, p3, q3, hargs3, hds3, -, h3, r3⟩ := trodAll_cons r2
  obtain ⟨v4, vs4, d4, ds4, p4, q4, hargs4, hds4, -, h4, r4⟩ := trodAll_cons r3
  obtain ⟨v5, vs5, d5, ds5, p5, q5, hargs5, hds5, -, h5, r5⟩ := trodAll_cons r4
  obtain ⟨v6, vs6, d6, ds6, p6, q6, hargs6, hds6, -, h6, r6⟩ := trodAll_cons r5
  obtain ⟨v7, vs7, d7, ds7, p7, q7, hargs7, hds7, -, h7, r7⟩ := trodAll_cons r6
  obtain ⟨hvs, hdse, -⟩ := trodAll_nil r7
  have hargs : args = #[v0, v1, v2, v3, v4, v5, v6, v7] := by
    cases args
    simp_all
  have hds : ds = [d0, d1, d2, d3, d4, d5, d6, d7] := by simp_all
  subst hargs hds hgs
  obtain ⟨l0, k0⟩ := Sx.top_bool Tryd.underlying4 (hval 0 4 v0 rfl rfl) h0
  obtain ⟨l1, ho1, k1⟩ := Sx.top_int Tryd.underlying3 (hval 1 3 v1 rfl rfl) h1
  obtain ⟨l2, ho2, k2⟩ := Sx.top_int Tryd.underlying3 (hval 2 3 v2 rfl rfl) h2
  obtain ⟨l3, k3⟩ := Sx.top_u8 Tryd.underlying5 (hval 3 5 v3 rfl rfl) h3
  obtain ⟨l4, k4⟩ := Sx.top_u8 Tryd.underlying5 (hval 4 5 v4 rfl rfl) h4
  obtain ⟨l5, ho5, k5⟩ := Sx.top_slice (Sx.came_bytes Tryd.underlying23 Tryd.underlying5 (by kernel_rfl)) Tryd.underlying23 (hval 5 23 v5 rfl rfl) h5
  obtain ⟨l6, ho6, k6⟩ := Sx.top_slice (Sx.came_bytes Tryd.underlying23 Tryd.underlying5 (by kernel_rfl)) Tryd.underlying23 (hval 6 23 v6 rfl rfl) h6
  obtain ⟨l7, ho7, k7⟩ := Sx.top_slice (Sx.came_bytes Tryd.underlying23 Tryd.underlying5 (by kernel_rfl)) Tryd.underlying23 (hval 7 23 v7 rfl rfl) h7
  have walk := (Sx.envelopeHides_con l0 l1 l2 l3 l4 l5 l6 l7).con.go [] W [v0, v1, v2, v3, v4, v5, v6, v7] (by simp) hgl ⟨k0, k1, k2, k3, k4, k5, k6, k7, trivial⟩
  refine walk.mono fun e W' ⟨v, he, hd, hO⟩ => ⟨v, he, ?_⟩
  obtain rfl : v = .bool true := hd
  exact post_kept (by kernel_rfl) (by rw [Tryd.params9]; decide +kernel) (tb := 4) (by kernel_rfl) Tryd.underlying4 rfl hW' rfl rfl rfl hO.below

set_option maxRecDepth 100000 in
theorem laid_met (os : Os) : laidMet Tryd.prog Rows.envelopeHidesRow.laid ((laidWorld os).forCall (fun _ _ => 0) ⟨#[], #[.bool false, .int .i64 0, .int .i64 0, .int .u8 0, .int .u8 0, .slice none 0 0, .slice none 0 0, .slice none 0 0], []⟩).memory :=
  laidMet_of_run' 8 (by kernel_rfl) (by kernel_rfl)
set_option maxRecDepth 100000 in
theorem reads (os : Os) {H : Type} (enc : TypeId × Value → H) : ∃ places, DataW.whole enc Tryd.prog ((laidWorld os).forCall (fun _ _ => 0) ⟨#[], #[.bool false, .int .i64 0, .int .i64 0, .int .u8 0, .int .u8 0, .slice none 0 0, .slice none 0 0, .slice none 0 0], []⟩).memory Tryd.f9.params.toList Rows.envelopeHidesSpec.vars false (#[.bool false, .int .i64 0, .int .i64 0, .int .u8 0, .int .u8 0, .slice none 0 0, .slice none 0 0, .slice none 0 0] : Array Value).toList 8 = some ([.lit (.bool false), .lit (.int .i64 0), .lit (.int .i64 0), .lit (.int .u8 0), .lit (.int .u8 0), .nil, .nil, .nil], [], places) :=
  ⟨[], by kernel_rfl⟩

set_option maxRecDepth 100000 in
theorem lifted (os : Os) (started : os.Started) (H : Type) (enc : TypeId × Value → H) (F : Stop.Interp) :
    ReturnsInHanded {} Tryd.checked os 9 .any ((OpenSpec.ofChange Rows.envelopeHidesSpec).preRow enc Tryd.prog Tryd.f9 Rows.envelopeHidesRow.domain false Rows.envelopeHidesRow.laid) (((OpenSpec.ofChange Rows.envelopeHidesSpec).at F).post enc Tryd.prog Tryd.f9 false true false false) := by
  obtain ⟨places, hx⟩ := reads os enc
  refine returnsInHanded_of_row (C := Tryd.checked) (s := OpenSpec.ofChange Rows.envelopeHidesSpec) own started (by kernel_rfl) Tryd.func9
    (witness_row_at (enc := enc) (C := Tryd.checked) false (laidWorld os) #[.bool false, .int .i64 0, .int .i64 0, .int .u8 0, .int .u8 0, .slice none 0 0, .slice none 0 0, .slice none 0 0] rfl (by kernel_rfl) (by kernel_rfl) (by kernel_rfl)
      (OpenSpec.preRow_of_cond 8 hx (by kernel_rfl) (fun k hk => by cases hk) (by kernel_rfl) (laid_met os))) ?_
  intro W base args ds gs before hval hW _ _ _ hL _ _
  exact contract H enc W base args ds gs before hval hW hL

theorem said : Rows.EnvelopeHidesSaid :=
  OpenClaim.holds_of_cond 9 Tryd.f9 rfl rfl rfl rfl rfl rfl rfl ⟨rfl, rfl, rfl, rfl, rfl⟩ rfl rfl rfl rfl rfl (by kernel_rfl) Tryd.func9 (by kernel_rfl)
    (of_decide_eq_true (by kernel_rfl)) (by unfold Func.isWrapper; first | (rw [if_pos (by decide +kernel)]; kernel_rfl) | (rw [if_neg (by decide +kernel)]; exact ⟨rfl, rfl⟩))
    (fun os started H enc _ F => by rw [OpenClaim.pre_eq_preRow]; exact lifted os started H enc F)

theorem plain (f : FuncId) (fn : Func) (hf : Tryd.pinned.checked.prog.funcNamed "bandplan/bandplanlaw42.EnvelopeHides" = some f) (hfn : Tryd.pinned.checked.prog.funcs[f]? = some fn) :
    true = Tryd.pinned.checked.prog.looks [] ∧ ∀ (j : Nat) t, fn.params[j]? = some t → Tryd.pinned.checked.prog.wantsStandIn t = false := by
  obtain rfl : f = 9 := Option.some.inj ((show Tryd.prog.funcNamed "bandplan/bandplanlaw42.EnvelopeHides" = some 9 by kernel_rfl).symm.trans hf) |>.symm
  obtain rfl : fn = Tryd.f9 := (Option.some.inj (Tryd.func9.symm.trans hfn)).symm
  refine ⟨by kernel_rfl, fun j t ht => ?_⟩
  have hall : ∀ t ∈ Tryd.f9.params.toList, Tryd.prog.wantsStandIn t = false := by
    rw [Tryd.params9]
    decide +kernel
  exact hall t (by simpa using Array.mem_of_getElem? ht)

theorem card : Rows.EnvelopeHidesCardSaid :=
  Claim7.holds_tied_plain_at .later [] _ _ _ _ said (fun _ h => by cases h) (by kernel_rfl) (fun _ h => by cases h) envelopeHides_row_tie rfl ⟨rfl, rfl⟩ (by kernel_rfl) rfl plain (by kernel_rfl)
end Go.Proofs.YtchbgfgboogniaaDoor.envelopeHides
