/- THE CARD of the law TopPays: whatever the input, the law returns true and leaves its arguments as they were. -/
import Derived.Test.YtfoafihodanmhaaGreatDoorGZBL
set_option maxHeartbeats 8000000
set_option maxRecDepth 100000
namespace Go.Proofs.YtfoafihodanmhaaGreatDoor.topPays
open Go.ChangeShapes Go.WideShapes Go.ChangeAt Go.RowKit
theorem own:ownKnob Tryz.prog.godebug=none:=by kernel_rfl
theorem zec (H:Type) (enc:TypeId × Value→H) (W:World) (base:Nat) (args:Array Value) (ds gs:List (DataW H)) (before:List MemPlace)
  (hval:∀ (j:Nat) t v,Tryz.f3.params[j]? =some t→args[j]? =some v→Value.okWide Tryz.prog W .any base t v)
  (hW:DataW.Whole enc Tryz.prog Tryz.f3.params.toList Rows.topPaysSpec.vars false W args.toList ds gs before) (hL:laidMetH Tryz.prog Rows.topPaysRow.laid W):
  Calls Tryz.prog 3 args W fun e W'=>∃ v,e= .returned v∧Rows.topPaysSpec.post enc Tryz.prog Tryz.f3 false true false false W args v W':=by
 have hgl:=zeX hL;have hW':=hW;obtain ⟨p,q,hA0,hV,-,-,-⟩:=hW;have hA:DataW.TrodAll enc Tryz.prog W 0 (fun _=>true) true Tryz.f3.params.toList args.toList ds p:=hA0;obtain ⟨hgs,-⟩:=trodVars_none hV;rw [Tryz.params3] at hA hval;obtain ⟨v0,vs0,d0,ds0,p0,q0,hargs0,hds0,-,h0,r0⟩:=trodAll_cons hA;obtain ⟨v1,vs1,d1,ds1,p1,q1,hargs1,hds1,-,h1,r1⟩:=trodAll_cons r0;obtain ⟨v2,vs2,d2,ds2,p2,q2,hargs2,hds2,-,h2,r2⟩:=trodAll_cons r1;obtain ⟨hvs,hdse,-⟩:=trodAll_nil r2
 have hargs:args= #[v0,v1,v2]:=by
  cases args
  simp_all
 have hds:ds=[d0,d1,d2]:=by simp_all
 subst hargs hds hgs;obtain ⟨l0,ho0,k0⟩:=Sx.top_struct Sx.came_setup Tryz.underlying41 (hval 0 41 v0 rfl rfl) h0;obtain ⟨l1,ho1,k1⟩:=Sx.top_slice Sx.came_bidLs Tryz.underlying42 (hval 1 42 v1 rfl rfl) h1;obtain ⟨l2,ho2,k2⟩:=Sx.top_slice Sx.came_wishes Tryz.underlying43 (hval 2 43 v2 rfl rfl) h2;have walk:=(Sx.topPays_con l0 l1 l2 (Nat.le_trans ho0 d9) (fun is h=>(ho1.2 is h).2)).con.go [] W [v0,v1,v2] s9 hgl ⟨k0,k1,k2,trivial⟩;refine walk.mono fun e W' ⟨v,he,hd,hO⟩=>⟨v,he,?_⟩;obtain rfl:v= .bool true:=hd;exact post_kept k9 (by rw [Tryz.params3];decide +kernel) (tb:=4) k9 Tryz.underlying4 I hW' I I I hO.below
theorem laid_met (os:Os):laidMet Tryz.prog Rows.topPaysRow.laid ((Wv os).forCall (fun _ _=>0) ⟨#[],#[.agg #[.slice none 0 0,.slice none 0 0,.slice none 0 0,.slice none 0 0,.slice none 0 0,.slice none 0 0,.int .i64 0,.int .i64 0,.int .i64 0,.int .i64 0,.slice none 0 0,.slice none 0 0,.int .i64 0,.slice none 0 0,.int .i64 0,.int .i64 0,.slice none 0 0,.int .i64 0,.int .i64 0],.slice none 0 0,.slice none 0 0],[]⟩).memory:=
 laidMet_of_run' 8 k9 k9
theorem reads (os:Os) {H:Type} (enc:TypeId × Value→H):∃ places,DataW.whole enc Tryz.prog ((Wv os).forCall (fun _ _=>0) ⟨#[],#[.agg #[.slice none 0 0,.slice none 0 0,.slice none 0 0,.slice none 0 0,.slice none 0 0,.slice none 0 0,.int .i64 0,.int .i64 0,.int .i64 0,.int .i64 0,.slice none 0 0,.slice none 0 0,.int .i64 0,.slice none 0 0,.int .i64 0,.int .i64 0,.slice none 0 0,.int .i64 0,.int .i64 0],.slice none 0 0,.slice none 0 0],[]⟩).memory Tryz.f3.params.toList Rows.topPaysSpec.vars false (#[.agg #[.slice none 0 0,.slice none 0 0,.slice none 0 0,.slice none 0 0,.slice none 0 0,.slice none 0 0,.int .i64 0,.int .i64 0,.int .i64 0,.int .i64 0,.slice none 0 0,.slice none 0 0,.int .i64 0,.slice none 0 0,.int .i64 0,.int .i64 0,.slice none 0 0,.int .i64 0,.int .i64 0],.slice none 0 0,.slice none 0 0]:Array Value).toList 8=some ([.agg [.nil,.agg [.nil,.nil,.nil],.nil,.nil,.agg [.lit<|.int .i64 0],.lit<|.int .i64 0,.lit<|.int .i64 0,.lit<|.int .i64 0,.nil,.nil,.lit<|.int .i64 0,.nil,.agg [.lit<|.int .i64 0,.lit<|.int .i64 0],.nil,.agg [.lit<|.int .i64 0,.lit<|.int .i64 0]],.nil,.nil],[],places):=
 ⟨[],by kernel_rfl⟩
theorem lifted (os:Os) (started:os.Started) (H:Type) (enc:TypeId × Value→H) (F:Stop.Interp):
  ReturnsInHanded {} Tryz.checked os 3 .any ((OpenSpec.ofChange Rows.topPaysSpec).preRow enc Tryz.prog Tryz.f3 Rows.topPaysRow.domain false Rows.topPaysRow.laid) (((OpenSpec.ofChange Rows.topPaysSpec).at F).post enc Tryz.prog Tryz.f3 false true false false):=by
 obtain ⟨places,hx⟩:=reads os enc
 refine returnsInHanded_of_row (C:=Tryz.checked) (s:=OpenSpec.ofChange Rows.topPaysSpec) own started k9 Tryz.func3
  (witness_row_at (enc:=enc) (C:=Tryz.checked) false (Wv os) #[.agg #[.slice none 0 0,.slice none 0 0,.slice none 0 0,.slice none 0 0,.slice none 0 0,.slice none 0 0,.int .i64 0,.int .i64 0,.int .i64 0,.int .i64 0,.slice none 0 0,.slice none 0 0,.int .i64 0,.slice none 0 0,.int .i64 0,.int .i64 0,.slice none 0 0,.int .i64 0,.int .i64 0],.slice none 0 0,.slice none 0 0] rfl k9 k9 k9
   (OpenSpec.preRow_of_cond 8 hx k9 (fun k hk=>by cases hk) k9<|laid_met os)) ?_
 intro W base args ds gs before hval hW _ _ _ hL _ _;exact zec H enc W base args ds gs before hval hW hL
theorem said:Rows.TopPaysSaid:=
 OpenClaim.holds_of_cond 3 Tryz.f3 rfl rfl rfl rfl rfl rfl rfl ⟨rfl,rfl,rfl,rfl,rfl⟩ rfl rfl rfl rfl rfl k9 Tryz.func3 k9
  (oT k9) (by unfold Func.isWrapper;first | (rw [if_pos (by decide +kernel)];kernel_rfl) | (rw [if_neg (by decide +kernel)];exact ⟨rfl,rfl⟩))
  (fun os started H enc _ F=>by rw [OpenClaim.pre_eq_preRow];exact lifted os started H enc F)
theorem zal (f : FuncId) (fn : Func) (hf : Tryz.pinned.checked.prog.funcNamed "bandplan/bandplantop.TopPays" = some f) (hfn : Tryz.pinned.checked.prog.funcs[f]? = some fn) :
  false=Tryz.pinned.checked.prog.looks []∧∀ (j:Nat) t,fn.params[j]? =some t→Tryz.pinned.checked.prog.wantsStandIn t=false:=by
 obtain rfl : f = 3 := Option.some.inj ((show Tryz.prog.funcNamed "bandplan/bandplantop.TopPays" = some 3 by kernel_rfl).symm.trans hf) |>.symm;obtain rfl:fn=Tryz.f3:=(Option.some.inj<|Tryz.func3.symm.trans hfn).symm;refine ⟨by kernel_rfl,fun j t ht=> ?_⟩
 have hall:∀ t∈Tryz.f3.params.toList,Tryz.prog.wantsStandIn t=false:=by
  rw [Tryz.params3];decide +kernel
 exact hall t (by simpa using Array.mem_of_getElem? ht)
theorem card:Rows.TopPaysCardSaid:=
 Claim7.holds_tied_plain_at .later [] _ _ _ _ said (fun _ h=>by cases h) k9 (fun _ h=>by cases h) topPays_row_tie rfl ⟨rfl,rfl⟩ k9 rfl zal k9
end Go.Proofs.YtfoafihodanmhaaGreatDoor.topPays
