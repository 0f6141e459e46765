/-
  THE CARD of the law SealAgain.
-/
import Derived.Test.YtglbgocldenooaaDoorWit
import Derived.Test.YtglbgocldenooaaDoorGate2
import Derived.Test.YtglbgocldenooaaDoorGate3
import Derived.Test.YtglbgocldenooaaDoorLawSealA2
namespace Go.Proofs.YtglbgocldenooaaDoor.sealAgain
open Go.ChangeShapes Go.WideShapes Go.ChangeAt Go.RowKit

theorem own : ownKnob Tryd.prog.godebug = none := by kernel_rfl

theorem contract (H : Type) (enc : TypeId × Value → H) (W : World) (base : Nat) (args : Array Value) (ds gs : List (DataW H)) (before : List MemPlace)
    (hval : ∀ (j : Nat) t v, Tryd.f14.params[j]? = some t → args[j]? = some v → Value.okWide Tryd.prog W .any base t v)
    (hW : DataW.Whole enc Tryd.prog Tryd.f14.params.toList Rows.sealAgainSpec.vars false W args.toList ds gs before) (hL : laidMetH Tryd.prog Rows.sealAgainRow.laid W) :
    Calls Tryd.prog 14 args W fun e W' => ∃ v, e = .returned v ∧ Rows.sealAgainSpec.post enc Tryd.prog Tryd.f14 false true false false W args v W' := by
  have hgl := gl_of_laid hL
  have hW' := hW
  obtain ⟨p, q, hA0, hV, -, -, -⟩ := hW
  have hA : DataW.TrodAll enc Tryd.prog W 0 (fun _ => true) true Tryd.f14.params.toList args.toList ds p := hA0
  obtain ⟨hgs, -⟩ := trodVars_none hV
  rw [Tryd.params14] at hA hval
  obtain ⟨v0, vs0, d0, ds0, p0, q0, hargs0, hds0, -, h0, r0⟩ := trodAll_cons hA
  obtain ⟨v1, vs1, d1, ds1, p1, q1, hargs1, hds1, -, h1, r1⟩ := trodAll_cons r0
  obtain ⟨v2, vs2, d2, ds2, p2, q2, hargs2, hds2, -, h2, r2⟩ := trodAll_cons r1
  obtain ⟨v3, vs3, d3, ds3, p3, q3, hargs3, hds3, -, h3, r3⟩ := trodAll_cons r2
  obtain ⟨hvs, hdse, -⟩ := trodAll_nil r3
  have hargs : args = #[v0, v1, v2, v3] := by
    cases args
    simp_all
  have hds : ds = [d0, d1, d2, d3] := by simp_all
  subst hargs hds hgs
  obtain ⟨A0, n0, c0, b0, rfl, hn0, hc0, hm0, hr0⟩ := open_bytes Tryd.underlying22 Tryd.underlying5 (by kernel_rfl) (hval 0 22 v0 rfl rfl) h0
  obtain ⟨A1, n1, c1, b1, rfl, hn1, hc1, hm1, hr1⟩ := open_bytes Tryd.underlying22 Tryd.underlying5 (by kernel_rfl) (hval 1 22 v1 rfl rfl) h1
  obtain ⟨A2, n2, c2, b2, rfl, hn2, hc2, hm2, hr2⟩ := open_bytes Tryd.underlying22 Tryd.underlying5 (by kernel_rfl) (hval 2 22 v2 rfl rfl) h2
  obtain ⟨A3, n3, c3, b3, rfl, hn3, hc3, hm3, hr3⟩ := open_bytes Tryd.underlying22 Tryd.underlying5 (by kernel_rfl) (hval 3 22 v3 rfl rfl) h3
  have walk : Calls Tryd.prog 14 _ W fun e w' => e = .returned (.bool true) ∧ Only [] W w' := sealAgain_any W A0 A1 A2 A3 n0 n1 n2 n3 c0 c1 c2 c3 b0 b1 b2 b3 hn0 hn1 hn2 hn3 (Nat.le_trans hc0 hm0) (Nat.le_trans hc1 hm1) hc2 hc3 hr0.rv hr1.rv hr2.rv hr3.rv hgl
  refine walk.mono fun e W' ⟨he, hO⟩ => ⟨_, he, ?_⟩
  exact post_kept (by kernel_rfl) (by rw [Tryd.params14]; decide +kernel) (tb := 4) (by kernel_rfl) Tryd.underlying4 rfl hW' rfl rfl rfl hO.below

theorem laid_met (os : Os) : laidMet Tryd.prog Rows.sealAgainRow.laid ((laidWorld os).forCall (fun _ _ => 0) ⟨#[], #[.slice none 0 0, .slice none 0 0, .slice none 0 0, .slice none 0 0], []⟩).memory :=
  laidMet_of_run' 8 (by kernel_rfl) (by kernel_rfl)
theorem reads (os : Os) {H : Type} (enc : TypeId × Value → H) : ∃ places, DataW.whole enc Tryd.prog ((laidWorld os).forCall (fun _ _ => 0) ⟨#[], #[.slice none 0 0, .slice none 0 0, .slice none 0 0, .slice none 0 0], []⟩).memory Tryd.f14.params.toList Rows.sealAgainSpec.vars false (#[.slice none 0 0, .slice none 0 0, .slice none 0 0, .slice none 0 0] : Array Value).toList 8 = some ([.nil, .nil, .nil, .nil], [], places) :=
  ⟨[], by kernel_rfl⟩

set_option maxRecDepth 100000 in
theorem lifted (os : Os) (started : os.Started) (H : Type) (enc : TypeId × Value → H) (F : Stop.Interp) :
    ReturnsInHanded {} Tryd.checked os 14 .any ((OpenSpec.ofChange Rows.sealAgainSpec).preRow enc Tryd.prog Tryd.f14 Rows.sealAgainRow.domain false Rows.sealAgainRow.laid) (((OpenSpec.ofChange Rows.sealAgainSpec).at F).post enc Tryd.prog Tryd.f14 false true false false) := by
  obtain ⟨places, hx⟩ := reads os enc
  refine returnsInHanded_of_row (C := Tryd.checked) (s := OpenSpec.ofChange Rows.sealAgainSpec) own started (by kernel_rfl) Tryd.func14
    (witness_row_at (enc := enc) (C := Tryd.checked) false (laidWorld os) #[.slice none 0 0, .slice none 0 0, .slice none 0 0, .slice none 0 0] rfl (by kernel_rfl) (by kernel_rfl) (by kernel_rfl)
      (OpenSpec.preRow_of_cond 8 hx (by kernel_rfl) (fun k hk => by cases hk) (by kernel_rfl) (laid_met os))) ?_
  intro W base args ds gs before hval hW _ _ _ hL _ _
  exact contract H enc W base args ds gs before hval hW hL

theorem said : Rows.SealAgainSaid :=
  OpenClaim.holds_of_cond 14 Tryd.f14 rfl rfl rfl rfl rfl rfl rfl ⟨rfl, rfl, rfl, rfl, rfl⟩ rfl rfl rfl rfl rfl (by kernel_rfl) Tryd.func14 (by kernel_rfl)
    (of_decide_eq_true (by kernel_rfl)) (by unfold Func.isWrapper; first | (rw [if_pos (by decide +kernel)]; kernel_rfl) | (rw [if_neg (by decide +kernel)]; exact ⟨rfl, rfl⟩))
    (fun os started H enc _ F => by rw [OpenClaim.pre_eq_preRow]; exact lifted os started H enc F)

theorem plain (f : FuncId) (fn : Func) (hf : Tryd.pinned.checked.prog.funcNamed "bandplan/bandplanlaw05.SealAgain" = some f) (hfn : Tryd.pinned.checked.prog.funcs[f]? = some fn) :
    false = Tryd.pinned.checked.prog.looks [] ∧ ∀ (j : Nat) t, fn.params[j]? = some t → Tryd.pinned.checked.prog.wantsStandIn t = false := by
  obtain rfl : f = 14 := Option.some.inj ((show Tryd.prog.funcNamed "bandplan/bandplanlaw05.SealAgain" = some 14 by kernel_rfl).symm.trans hf) |>.symm
  obtain rfl : fn = Tryd.f14 := (Option.some.inj (Tryd.func14.symm.trans hfn)).symm
  refine ⟨by kernel_rfl, fun j t ht => ?_⟩
  have hall : ∀ t ∈ Tryd.f14.params.toList, Tryd.prog.wantsStandIn t = false := by
    rw [Tryd.params14]
    decide +kernel
  exact hall t (by simpa using Array.mem_of_getElem? ht)

theorem card : Rows.SealAgainCardSaid :=
  Claim7.holds_tied_plain_at .later [] _ _ _ _ said (fun _ h => by cases h) (by kernel_rfl) (fun _ h => by cases h) sealAgain_row_tie rfl ⟨rfl, rfl⟩ (by kernel_rfl) rfl plain (by kernel_rfl)
end Go.Proofs.YtglbgocldenooaaDoor.sealAgain
