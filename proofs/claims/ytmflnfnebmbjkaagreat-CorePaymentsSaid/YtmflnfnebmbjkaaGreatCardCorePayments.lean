/- THE CARD of the law CorePayments: whatever the input, the law returns true and leaves its arguments as they were. -/
import Derived.Test.YtmflnfnebmbjkaaGreatGZBH
set_option maxHeartbeats 8000000
set_option maxRecDepth 100000
namespace Go.Proofs.YtmflnfnebmbjkaaGreat.corePayments
open Go.ChangeShapes Go.WideShapes Go.ChangeAt Go.RowKit
theorem own:ownKnob Tryz.prog.godebug=none:=by kernel_rfl
theorem zbb (H:Type) (enc:TypeId × Value→H) (W:World) (base:Nat) (args:Array Value) (ds gs:List (DataW H)) (before:List MemPlace)
  (hval:∀ (j:Nat) t v,Tryz.f7.params[j]? =some t→args[j]? =some v→Value.okWide Tryz.prog W .any base t v)
  (hW:DataW.Whole enc Tryz.prog Tryz.f7.params.toList Rows.corePaymentsSpec.vars false W args.toList ds gs before):
  Calls Tryz.prog 7 args W fun e W'=>∃ v,e= .returned v∧Rows.corePaymentsSpec.post enc Tryz.prog Tryz.f7 false true false false W args v W':=by
 have hW':=hW;obtain ⟨p,q,hA0,hV,-,-,-⟩:=hW;have hA:DataW.TrodAll enc Tryz.prog W 0 (fun _=>true) true Tryz.f7.params.toList args.toList ds p:=hA0;obtain ⟨hgs,-⟩:=trodVars_none hV;rw [Tryz.params7] at hA hval;obtain ⟨v0,vs0,d0,ds0,p0,q0,hargs0,hds0,-,h0,r0⟩:=trodAll_cons hA;obtain ⟨v1,vs1,d1,ds1,p1,q1,hargs1,hds1,-,h1,r1⟩:=trodAll_cons r0;obtain ⟨v2,vs2,d2,ds2,p2,q2,hargs2,hds2,-,h2,r2⟩:=trodAll_cons r1;obtain ⟨hvs,hdse,-⟩:=trodAll_nil r2
 have hargs:args= #[v0,v1,v2]:=by
  cases args
  simp_all
 have hds:ds=[d0,d1,d2]:=by simp_all
 subst hargs hds hgs;obtain ⟨l0,ho0,k0⟩:=Sx.top_int Tryz.underlying3 (hval 0 3 v0 rfl rfl) h0;obtain ⟨l1,ho1,k1⟩:=Sx.top_slice Sx.came_claims Tryz.underlying22 (hval 1 22 v1 rfl rfl) h1;obtain ⟨l2,ho2,k2⟩:=Sx.top_slice Sx.came_wishes Tryz.underlying23 (hval 2 23 v2 rfl rfl) h2;have walk:=(Sx.corePayments_con l0 l1 l2).con.go [] W [v0,v1,v2] s9 trivial ⟨k0,k1,k2,trivial⟩;refine walk.mono fun e W' ⟨v,he,hd,hO⟩=>⟨v,he,?_⟩;obtain rfl:v= .bool true:=hd;exact post_kept k9 (by rw [Tryz.params7];decide +kernel) (tb:=4) k9 Tryz.underlying4 I hW' I I I hO.below
theorem laid_met (os:Os):laidMet Tryz.prog Rows.corePaymentsRow.laid ((World.holding Tryz.prog os ⟨#[],#[],[]⟩).forCall (fun _ _=>0) ⟨#[],#[.int .i64 0,.slice none 0 0,.slice none 0 0],[]⟩).memory:=
 laidMet_of_run' 8 k9 k9
theorem reads (os:Os) {H:Type} (enc:TypeId × Value→H):∃ places,DataW.whole enc Tryz.prog ((World.holding Tryz.prog os ⟨#[],#[],[]⟩).forCall (fun _ _=>0) ⟨#[],#[.int .i64 0,.slice none 0 0,.slice none 0 0],[]⟩).memory Tryz.f7.params.toList Rows.corePaymentsSpec.vars false (#[.int .i64 0,.slice none 0 0,.slice none 0 0]:Array Value).toList 8=some ([.lit<|.int .i64 0,.nil,.nil],[],places):=
 ⟨[],by kernel_rfl⟩
theorem lifted (os:Os) (started:os.Started) (H:Type) (enc:TypeId × Value→H) (F:Stop.Interp):
  ReturnsInHanded {} Tryz.checked os 7 .any ((OpenSpec.ofChange Rows.corePaymentsSpec).preRow enc Tryz.prog Tryz.f7 Rows.corePaymentsRow.domain false Rows.corePaymentsRow.laid) (((OpenSpec.ofChange Rows.corePaymentsSpec).at F).post enc Tryz.prog Tryz.f7 false true false false):=by
 obtain ⟨places,hx⟩:=reads os enc
 refine returnsInHanded_of_row (C:=Tryz.checked) (s:=OpenSpec.ofChange Rows.corePaymentsSpec) own started k9 Tryz.func7
  (witness_row_at (enc:=enc) (C:=Tryz.checked) false (World.holding Tryz.prog os ⟨#[],#[],[]⟩) #[.int .i64 0,.slice none 0 0,.slice none 0 0] rfl k9 k9 k9
   (OpenSpec.preRow_of_cond 8 hx k9 (fun k hk=>by cases hk) k9<|laid_met os)) ?_
 intro W base args ds gs before hval hW _ _ _ _ _ _;exact zbb H enc W base args ds gs before hval hW
theorem said:Rows.CorePaymentsSaid:=
 OpenClaim.holds_of_cond 7 Tryz.f7 rfl rfl rfl rfl rfl rfl rfl ⟨rfl,rfl,rfl,rfl,rfl⟩ rfl rfl rfl rfl rfl k9 Tryz.func7 k9
  (oT k9) (by unfold Func.isWrapper;first | (rw [if_pos (by decide +kernel)];kernel_rfl) | (rw [if_neg (by decide +kernel)];exact ⟨rfl,rfl⟩))
  (fun os started H enc _ F=>by rw [OpenClaim.pre_eq_preRow];exact lifted os started H enc F)
end Go.Proofs.YtmflnfnebmbjkaaGreat.corePayments
