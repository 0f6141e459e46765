/- THE CARD of the law RoundsOver: whatever the input, the law returns true and leaves its arguments as they were. -/
import Derived.Test.YtgokpcnabgacnaaGreatDoorGZBQ
set_option maxHeartbeats 8000000
set_option maxRecDepth 100000
namespace Go.Proofs.YtgokpcnabgacnaaGreatDoor.roundsOver
open Go.ChangeShapes Go.WideShapes Go.ChangeAt Go.RowKit
theorem own:ownKnob Tryz.prog.godebug=none:=by kernel_rfl
theorem contract (H:Type) (enc:TypeId × Value→H) (W:World) (base:Nat) (args:Array Value) (ds gs:List (DataW H)) (before:List MemPlace)
  (hval:∀ (j:Nat) t v,Tryz.f4.params[j]? =some t→args[j]? =some v→Value.okWide Tryz.prog W .any base t v)
  (hW:DataW.Whole enc Tryz.prog Tryz.f4.params.toList Rows.roundsOverSpec.vars false W args.toList ds gs before) (hL:laidMetH Tryz.prog Rows.roundsOverRow.laid W):
  Calls Tryz.prog 4 args W fun e W'=>∃ v,e= .returned v∧Rows.roundsOverSpec.post enc Tryz.prog Tryz.f4 false true false false W args v W':=by
 have hgl:=zg6 hL;have hW':=hW;obtain ⟨p,q,hA0,hV,-,-,-⟩:=hW;have hA:DataW.TrodAll enc Tryz.prog W 0 (fun _=>true) true Tryz.f4.params.toList args.toList ds p:=hA0;obtain ⟨hgs,-⟩:=trodVars_none hV;rw [Tryz.params4] at hA hval;obtain ⟨v0,vs0,d0,ds0,p0,q0,hargs0,hds0,-,h0,r0⟩:=trodAll_cons hA;obtain ⟨v1,vs1,d1,ds1,p1,q1,hargs1,hds1,-,h1,r1⟩:=trodAll_cons r0;obtain ⟨v2,vs2,d2,ds2,p2,q2,hargs2,hds2,-,h2,r2⟩:=trodAll_cons r1;obtain ⟨hvs,hdse,-⟩:=trodAll_nil r2
 have hargs:args= #[v0,v1,v2]:=by
  cases args
  simp_all
 have hds:ds=[d0,d1,d2]:=by simp_all
 subst hargs hds hgs;obtain ⟨l0,ho0,k0⟩:=Sx.top_slice Sx.came_acs Tryz.underlying52 (hval 0 52 v0 rfl rfl) h0;obtain ⟨l1,ho1,k1⟩:=Sx.top_int Tryz.underlying3 (hval 1 3 v1 rfl rfl) h1;obtain ⟨l2,ho2,k2⟩:=Sx.top_int Tryz.underlying3 (hval 2 3 v2 rfl rfl) h2;have walk:=(Sx.roundsOver_con l0 l1 l2<|Nat.le_trans ho0.1 d9).con.go [] W [v0,v1,v2] s9 hgl ⟨k0,k1,k2,trivial⟩;refine walk.mono fun e W' ⟨v,he,hd,hO⟩=>⟨v,he,?_⟩;obtain rfl:v= .bool true:=hd;exact post_kept k9 (by rw [Tryz.params4];decide +kernel) (tb:=4) k9 Tryz.underlying4 V hW' V V V hO.below
theorem laid_met (os:Os):laidMet Tryz.prog Rows.roundsOverRow.laid ((zaW os).forCall (fun _ _=>0) ⟨#[],#[.slice none 0 0,.int .i64 0,.int .i64 0],[]⟩).memory:=
 laidMet_of_run' 8 k9 k9
theorem reads (os:Os) {H:Type} (enc:TypeId × Value→H):∃ places,DataW.whole enc Tryz.prog ((zaW os).forCall (fun _ _=>0) ⟨#[],#[.slice none 0 0,.int .i64 0,.int .i64 0],[]⟩).memory Tryz.f4.params.toList Rows.roundsOverSpec.vars false (#[.slice none 0 0,.int .i64 0,.int .i64 0]:Array Value).toList 8=some ([.nil,.lit<|.int .i64 0,.lit<|.int .i64 0],[],places):=
 ⟨[],by kernel_rfl⟩
theorem lifted (os:Os) (started:os.Started) (H:Type) (enc:TypeId × Value→H) (F:Stop.Interp):
  ReturnsInHanded {} Tryz.checked os 4 .any ((OpenSpec.ofChange Rows.roundsOverSpec).preRow enc Tryz.prog Tryz.f4 Rows.roundsOverRow.domain false Rows.roundsOverRow.laid) (((OpenSpec.ofChange Rows.roundsOverSpec).at F).post enc Tryz.prog Tryz.f4 false true false false):=by
 obtain ⟨places,hx⟩:=reads os enc
 refine returnsInHanded_of_row (C:=Tryz.checked) (s:=OpenSpec.ofChange Rows.roundsOverSpec) own started k9 Tryz.func4
  (witness_row_at (enc:=enc) (C:=Tryz.checked) false (zaW os) #[.slice none 0 0,.int .i64 0,.int .i64 0] rfl k9 k9 k9
   (OpenSpec.preRow_of_cond 8 hx k9 (fun k hk=>by cases hk) k9<|laid_met os)) ?_
 intro W base args ds gs before hval hW _ _ _ hL _ _;exact contract H enc W base args ds gs before hval hW hL
theorem said:Rows.RoundsOverSaid:=
 OpenClaim.holds_of_cond 4 Tryz.f4 rfl rfl rfl rfl rfl rfl rfl ⟨rfl,rfl,rfl,rfl,rfl⟩ rfl rfl rfl rfl rfl k9 Tryz.func4 k9
  (oT k9) (by unfold Func.isWrapper;first | (rw [if_pos (by decide +kernel)];kernel_rfl) | (rw [if_neg (by decide +kernel)];exact ⟨rfl,rfl⟩))
  (fun os started H enc _ F=>by rw [OpenClaim.pre_eq_preRow];exact lifted os started H enc F)
theorem plain (f : FuncId) (fn : Func) (hf : Tryz.pinned.checked.prog.funcNamed "bandplan/bandplanlaw44.RoundsOver" = some f) (hfn : Tryz.pinned.checked.prog.funcs[f]? = some fn) :
  true=Tryz.pinned.checked.prog.looks []∧∀ (j:Nat) t,fn.params[j]? =some t→Tryz.pinned.checked.prog.wantsStandIn t=false:=by
 obtain rfl : f = 4 := Option.some.inj ((show Tryz.prog.funcNamed "bandplan/bandplanlaw44.RoundsOver" = some 4 by kernel_rfl).symm.trans hf) |>.symm;obtain rfl:fn=Tryz.f4:=(Option.some.inj<|Tryz.func4.symm.trans hfn).symm;refine ⟨by kernel_rfl,fun j t ht=> ?_⟩
 have hall:∀ t∈Tryz.f4.params.toList,Tryz.prog.wantsStandIn t=false:=by
  rw [Tryz.params4];decide +kernel
 exact hall t (by simpa using Array.mem_of_getElem? ht)
theorem card:Rows.RoundsOverCardSaid:=
 Claim7.holds_tied_plain_at .later [] _ _ _ _ said (fun _ h=>by cases h) k9 (fun _ h=>by cases h) roundsOver_row_tie rfl ⟨rfl,rfl⟩ k9 rfl plain k9
end Go.Proofs.YtgokpcnabgacnaaGreatDoor.roundsOver
