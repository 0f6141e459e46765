/-
  LEDGERS: LedgerAppends.
-/
import Derived.Test.YtonjpfpdpfonnaaDoorL42
namespace Go.Proofs.YtonjpfpdpfonnaaDoor
open Go.RowKit
namespace Sx
theorem Rd.eqFnI {P : Program} {Γ : Cx} {σ : St} {S : List Nat} {dst : Option Tmp} {ty : TypeId} {pos : String} {af : Array Edge} {gd : Option (Nat × Bool)} {x y : Operand} {T yT : Nat} {f : Fn} {p q : Array Value} (hx : σ.ev x = some (isD (.func f p q))) (hy : σ.ev y = some (isD .nilFunc)) (hT : funcT P T = true) : Rd P Γ S ⟨dst, .binOp .eql T x y yT, ty, pos, af, gd⟩ σ (isD (.bool false)) := fun a w hh => by
  have hxv : a.eval x = .func f p q := ev_spec hh hx
  have hyv : a.eval y = .nilFunc := ev_spec hh hy
  refine ⟨_, rfl, fun w' _ => ?_⟩
  simp [execOp, hxv, hyv, eqGuard, binOp, run_equal_func hT]
def Led.atE (es : List Led.Ent) (i : Int) : Led.Ent := if 0 ≤ i then (es[i.toNat]?).getD ⟨0, []⟩ else ⟨0, []⟩
def Led.atC (es : List Led.Ent) (i : Int) : Int := if 0 ≤ i ∧ i < es.length then 0 else 3
theorem Led.at_no {es : List Led.Ent} {i : Int} (h : i < 0 ∨ (es.length : Int) ≤ i) : Led.atE es i = ⟨0, []⟩ ∧ Led.atC es i = 3 := by
  unfold Led.atE Led.atC
  constructor
  · split
    · rw [List.getElem?_eq_none (by omega)]; rfl
    · rfl
  · rw [if_neg (by omega)]
theorem Led.at_yes {es : List Led.Ent} {i : Nat} {e : Led.Ent} (h : es[i]? = some e) : Led.atE es i = e ∧ Led.atC es i = 0 := by
  have hl := (List.getElem?_eq_some_iff.1 h).1
  unfold Led.atE Led.atC
  rw [if_pos (by omega), if_pos (by omega), Int.toNat_natCast, h]
  exact ⟨rfl, rfl⟩
theorem con_at_any (es : List Led.Ent) (hb : ∀ e ∈ es, e.bytes.length ≤ 1000000) (i : Int) : ConN Tryd.prog 20 [ledD es, iD i] (tupD [aggD [iD (Led.atE es i).kind, bD (Led.atE es i).bytes], iD (Led.atC es i)]) := by
  by_cases h : i < 0 ∨ (es.length : Int) ≤ i
  · rw [(Led.at_no h).1, (Led.at_no h).2]
    exact con_at_no es i h
  · obtain ⟨n, rfl⟩ := Int.eq_ofNat_of_zero_le (show 0 ≤ i by omega)
    obtain ⟨e, he⟩ : ∃ e, es[n]? = some e := ⟨_, List.getElem?_eq_getElem (by omega)⟩
    rw [(Led.at_yes he).1, (Led.at_yes he).2]
    exact con_at es n e he (hb e (List.mem_of_getElem? he))
/-- No panic comes out. -/
def noP (Q : Exit → Act → World → Prop) : Exit → Act → World → Prop
  | .panic _, _, _ => False
  | e, a, w => Q e a w
theorem con_ofNMp {P : Program} {f : FuncId} {fn : Func} {c : Code} {ds : List D} {d : D} (hf : P.funcs[f]? = some fn) (hn : (fn.name == "runtime.NumGoroutine") = false) (hb : fn.body = some c) (hlen : Nat.ble ds.length fn.ntmps = true)
    (h : ∀ (base : List Nat) (w0 : World), SW P ⟨fn.ntmps, base, w0, [], []⟩ (St.of (inits 0 ds) []) c (noP (bodyPostM Fence.wide 0 P fn fun e w' => ∃ v, e = .returned v ∧ (nwD w0.heap.size d).R base w' v ∧ Only [] w0 w'))) : ConN P f ds d :=
  con_ofNM hf hn hb hlen fun base w0 a w hh => Code.wp_mono (fun e a w hq => by cases e <;> first | exact hq | exact hq.elim) (h base w0 a w hh)
set_option maxHeartbeats 4000000 in
set_option maxRecDepth 100000 in
theorem ledgerAppends_con (l : List Led.Ent) (z many : Int) (hl : l.length ≤ 9223372036854775807) : ConN Tryd.prog 4 [lsD encE l, iD z, iD many] (boolD true) := by
  refine con_ofNMp Tryd.func4 (by kernel_rfl) rfl (by kernel_rfl) fun base w0 => ?_
  refine SW.seq ?_
  refine SW.region ?_
  refine SWl.ef (S := []) (Ef.boxV rfl (fun _ _ _ h => one_cells (One.h _ _ _ h)) rfl) ?_
  rintro _ ⟨g5, rfl⟩
  refine SWl.ef (S := []) (Ef.alloc (zs := [.bool false]) (by kernel_rfl) rfl) ?_
  rintro _ ⟨g6, rfl⟩
  refine SWl.nil ?_
  refine SN.then ?_
  refine SW.seq ?_
  refine SW.seq ?_
  refine SW.region ?_
  refine SWl.rd rfl (Rd.move rfl) ?_
  refine SWl.ef (S := []) (Ef.callN [] (con_few l 30 hl) rfl ⟨(sees_le (Le.refl _)), (sees_le (Le.refl _)), trivial⟩ rfl) ?_
  rintro _ rfl
  refine SWl.rd rfl (Rd.not rfl) ?_
  refine SWl.nil ?_
  refine SN.then ?_
  refine SW.cond rfl (fun hb20 => ?_) (fun hb20 => ?_)
  · skip
    refine SW.seq ?_
    refine SW.region ?_
    refine SWl.ef (S := []) (Ef.callN [] (con_known43) rfl trivial rfl) ?_
    rintro _ rfl
    refine SWl.ef (S := [_]) (Ef.storeV 1 rfl rfl rfl (by kernel_rfl) rfl (List.mem_singleton.2 rfl)) ?_
    rintro _ rfl
    refine SWl.nil ?_
    refine SN.then ?_
    refine SW.retM (fn := Tryd.f4) (fun _ _ h => h) ?_
    refine RM.fin ?_
    refine Rs.le (Rs.one rfl (ResV.cellV 1 rfl rfl (by kernel_rfl) rfl)) ?_
    exact le_bool_n (by rfl)
  · have hq := of_decide_eq_true (show decide ((∀ e ∈ l, e.bytes.length ≤ 200) ∧ l.length ≤ 30) = true from by simpa using hb20)
    refine SW.skip ?_
    refine SN.then ?_
    refine SW.seq ?_
    refine SW.region ?_
    refine SWl.rd rfl (Rd.move rfl) ?_
    refine SWl.ef (S := []) (Ef.callR [] (con_made l (by omega) (fun e he => by have := hq.1 e he; omega)) rfl ⟨Le.refl _, trivial⟩ (by decide) trivial (fun _ h => h) rfl) ?_
    rintro _ ⟨⟨ga, sa⟩, rfl⟩
    refine SWl.rd rfl (Rd.move rfl) ?_
    refine SWl.rd rfl (Rd.extract rfl rfl) ?_
    refine SWl.rd rfl (Rd.extract rfl rfl) ?_
    refine SWl.rd rfl (Rd.extract rfl rfl) ?_
    refine SWl.ef (S := []) (Ef.alloc (zs := [.slice none 0 0]) (by kernel_rfl) rfl) ?_
    rintro _ ⟨g8, rfl⟩
    refine SWl.rd rfl (Rd.assign rfl) ?_
    refine SWl.ef (S := [_]) (Ef.storeV 5 rfl rfl rfl (by kernel_rfl) rfl (List.mem_singleton.2 rfl)) ?_
    rintro _ rfl
    refine SWl.rd rfl (Rd.assign rfl) ?_
    refine SWl.nil ?_
    refine SN.then ?_
    refine SW.seq ?_
    refine SW.seq ?_
    refine SW.region ?_
    refine SWl.rd rfl (Rd.move rfl) ?_
    refine SWl.rd rfl (Rd.not rfl) ?_
    refine SWl.nil ?_
    refine SN.then ?_
    refine SW.condF rfl (rfl) ?_
    refine SW.skip ?_
    refine SN.then ?_
    refine SW.seq ?_
    obtain ⟨f0, hf0⟩ : ∃ f, f = Led.fits l := ⟨_, rfl⟩
    have hfl : f0.length ≤ 30 := by rw [hf0]; exact Nat.le_trans (fits_len l) hq.2
    have hfb : ∀ e ∈ f0, e.bytes.length ≤ 1000000 := fun e he => by rw [hf0] at he; have := (fits_fit e he).2.2; omega
    refine SW.sub (σ' := St.ob [(1, iD z), (5, isD (.pointer (some ⟨g5, 0, none⟩))), (6, isD (.pointer (some ⟨g6, 0, none⟩))), (7, isD (.pointer (some ⟨ga, 0, none⟩))), (8, isD (.pointer (some ⟨g8, 0, none⟩)))] [.c g5 [iD many], .c g6 [boolD false], .c g8 [lsD encE f0], .c ga [isD (.slice sa.A (f0).length sa.c), isD (.map sa.M)], ledE sa (f0), ledM sa (f0)]) (⟨⟨_, rfl, ⟨⟨_, rfl, Le.refl _⟩, ⟨⟨_, rfl, Le.refl _⟩, ⟨⟨_, rfl, Le.refl _⟩, ⟨⟨_, rfl, Le.refl _⟩, ⟨⟨_, rfl, Le.refl _⟩, trivial⟩⟩⟩⟩⟩⟩, [0, 1, 5, 2, 3, 4], by decide, ⟨⟨_, rfl, LeAll.refl _⟩, ⟨⟨_, rfl, LeAll.refl _⟩, ⟨⟨_, rfl, ⟨(by rw [hf0]; exact Le.refl _), trivial⟩⟩, ⟨⟨_, rfl, ⟨Le.is (by rw [hf0]), Le.refl _, trivial⟩⟩, ⟨⟨_, rfl, leVec (by rw [hf0]) (by rw [hf0])⟩, ⟨⟨_, rfl, leMap (by rw [hf0]) (by rw [hf0])⟩, trivial⟩⟩⟩⟩⟩⟩⟩) ?_
    refine SW.region ?_
    refine SWl.rd rfl (Rd.move rfl) ?_
    refine SWl.rd rfl (Rd.move rfl) ?_
    refine SWl.ef (S := []) (Ef.callN [3, 4, 5] (con_at_any f0 hfb z) rfl ⟨(sees_box 3 rfl (by decide) ⟨(sees_vec 4 rfl (by decide)), (sees_map 5 rfl (by decide)), trivial⟩), (sees_le (Le.refl _)), trivial⟩ rfl) ?_
    rintro _ rfl
    refine SWl.rd rfl (Rd.move rfl) ?_
    refine SWl.rd rfl (Rd.extract rfl rfl) ?_
    refine SWl.rd rfl (Rd.extract rfl rfl) ?_
    refine SWl.ef (S := []) (Ef.alloc (zs := [.int .i64 0, .slice none 0 0]) (by kernel_rfl) rfl) ?_
    rintro _ ⟨g10, rfl⟩
    refine SWl.ef (S := [_]) (Ef.storeA 6 rfl rfl rfl (by kernel_rfl) rfl (List.mem_singleton.2 rfl)) ?_
    rintro _ rfl
    refine SWl.rd rfl (Rd.assign rfl) ?_
    refine SWl.nil ?_
    refine SN.then ?_
    refine SW.seq ?_
    refine SW.meet (fun σ => σ = St.ob [(5, isD (.pointer (some ⟨g5, 0, none⟩))), (6, isD (.pointer (some ⟨g6, 0, none⟩))), (7, isD (.pointer (some ⟨ga, 0, none⟩))), (8, isD (.pointer (some ⟨g8, 0, none⟩)))] [.c g5 [iD many], .c g6 [boolD false], .c g8 [lsD encE f0], .c ga [isD (.slice sa.A (f0).length sa.c), isD (.map sa.M)], ledE sa (f0), ledM sa (f0)]) ?_ ?_
    · skip
      refine SW.seq ?_
      refine SW.region ?_
      refine SWl.rd rfl (Rd.move rfl) ?_
      refine SWl.rd rfl (Rd.lss rfl rfl) ?_
      refine SWl.rd rfl (Rd.move rfl) ?_
      refine SWl.split 38 rfl (fun hb38 => ?_) (fun hb38 => ?_)
      · skip
        refine SWl.off rfl rfl (hb38) rfl rfl ?_
        refine SWl.off rfl rfl (hb38) rfl rfl ?_
        refine SWl.off rfl rfl (hb38) rfl rfl ?_
        refine SWl.off rfl rfl (hb38) rfl rfl ?_
        refine SWl.rd rfl (Rd.pickY rfl (hb38) rfl) ?_
        refine SWl.nil ?_
        refine SN.then ?_
        refine SW.condT rfl (rfl) ?_
        refine SW.seq ?_
        have hno : z < 0 ∨ (f0.length : Int) ≤ z := by first | (have := of_decide_eq_true hb38; omega) | (have := of_decide_eq_true hb43; omega)
        refine SW.region ?_
        refine SWl.rd rfl (Rd.move rfl) ?_
        refine SWl.rd rfl (Rd.nei rfl rfl) ?_
        refine SWl.rd rfl (Rd.move rfl) ?_
        refine SWl.rdg rfl rfl (by rw [(Led.at_no hno).2]; rfl) rfl rfl (Rd.loadA 6 2 rfl rfl (by kernel_rfl) rfl ap_nil) ?_
        refine SWl.rdg rfl rfl (by rw [(Led.at_no hno).2]; rfl) rfl rfl (Rd.build rfl rfl bldE0) ?_
        refine SWl.efg (S := []) rfl rfl (by rw [(Led.at_no hno).2]; rfl) rfl (Ef.callN [] (con_same43 _ 0 _ []) rfl ⟨(sees_agg ⟨(sees_le (Le.refl _)), (sees_le (Le.refl _)), trivial⟩), (sees_le (Le.agg ⟨Le.refl _, Le.nil_sl, trivial⟩)), trivial⟩ rfl) ?_
        rintro _ rfl
        refine SWl.rdg rfl rfl (by rw [(Led.at_no hno).2]; rfl) rfl rfl (Rd.not rfl) ?_
        refine SWl.rd rfl (Rd.pickN rfl (by rw [(Led.at_no hno).2]; rfl) rfl) ?_
        refine SWl.nil ?_
        refine SN.then ?_
        refine SW.condF rfl (by rw [(Led.at_no hno).1]; rfl) ?_
        refine SW.skip ?_
        exact SN.meet rfl (⟨⟨_, rfl, ⟨⟨_, rfl, Le.refl _⟩, ⟨⟨_, rfl, Le.refl _⟩, ⟨⟨_, rfl, Le.refl _⟩, ⟨⟨_, rfl, Le.refl _⟩, trivial⟩⟩⟩⟩⟩, [0, 1, 2, 3, 4, 5], by decide, ⟨⟨_, rfl, LeAll.refl _⟩, ⟨⟨_, rfl, LeAll.refl _⟩, ⟨⟨_, rfl, LeAll.refl _⟩, ⟨⟨_, rfl, LeAll.refl _⟩, ⟨⟨_, rfl, LeR.refl _⟩, ⟨⟨_, rfl, LeR.refl _⟩, trivial⟩⟩⟩⟩⟩⟩⟩)
      · skip
        refine SWl.rdg rfl rfl (hb38) rfl rfl (Rd.move rfl) ?_
        refine SWl.rdg rfl rfl (hb38) rfl rfl (Rd.loadB 2 rfl rfl rfl (by kernel_rfl) ap_nil) ?_
        refine SWl.rdg rfl rfl (hb38) rfl rfl (Rd.lenR (e := 44) rfl (by kernel_rfl)) ?_
        refine SWl.rdg rfl rfl (hb38) rfl rfl (Rd.geq rfl rfl) ?_
        refine SWl.rd rfl (Rd.pickN rfl (hb38) rfl) ?_
        refine SWl.nil ?_
        refine SN.then ?_
        refine SW.cond rfl (fun hb43 => ?_) (fun hb43 => ?_)
        · skip
          refine SW.seq ?_
          have hno : z < 0 ∨ (f0.length : Int) ≤ z := by first | (have := of_decide_eq_true hb38; omega) | (have := of_decide_eq_true hb43; omega)
          refine SW.region ?_
          refine SWl.rd rfl (Rd.move rfl) ?_
          refine SWl.rd rfl (Rd.nei rfl rfl) ?_
          refine SWl.rd rfl (Rd.move rfl) ?_
          refine SWl.rdg rfl rfl (by rw [(Led.at_no hno).2]; rfl) rfl rfl (Rd.loadA 6 2 rfl rfl (by kernel_rfl) rfl ap_nil) ?_
          refine SWl.rdg rfl rfl (by rw [(Led.at_no hno).2]; rfl) rfl rfl (Rd.build rfl rfl bldE0) ?_
          refine SWl.efg (S := []) rfl rfl (by rw [(Led.at_no hno).2]; rfl) rfl (Ef.callN [] (con_same43 _ 0 _ []) rfl ⟨(sees_agg ⟨(sees_le (Le.refl _)), (sees_le (Le.refl _)), trivial⟩), (sees_le (Le.agg ⟨Le.refl _, Le.nil_sl, trivial⟩)), trivial⟩ rfl) ?_
          rintro _ rfl
          refine SWl.rdg rfl rfl (by rw [(Led.at_no hno).2]; rfl) rfl rfl (Rd.not rfl) ?_
          refine SWl.rd rfl (Rd.pickN rfl (by rw [(Led.at_no hno).2]; rfl) rfl) ?_
          refine SWl.nil ?_
          refine SN.then ?_
          refine SW.condF rfl (by rw [(Led.at_no hno).1]; rfl) ?_
          refine SW.skip ?_
          exact SN.meet rfl (⟨⟨_, rfl, ⟨⟨_, rfl, Le.refl _⟩, ⟨⟨_, rfl, Le.refl _⟩, ⟨⟨_, rfl, Le.refl _⟩, ⟨⟨_, rfl, Le.refl _⟩, trivial⟩⟩⟩⟩⟩, [0, 1, 2, 3, 4, 5], by decide, ⟨⟨_, rfl, LeAll.refl _⟩, ⟨⟨_, rfl, LeAll.refl _⟩, ⟨⟨_, rfl, LeAll.refl _⟩, ⟨⟨_, rfl, LeAll.refl _⟩, ⟨⟨_, rfl, LeR.refl _⟩, ⟨⟨_, rfl, LeR.refl _⟩, trivial⟩⟩⟩⟩⟩⟩⟩)
        · skip
          refine SW.seq ?_
          have hz : 0 ≤ z ∧ z < (f0.length : Int) := by have h1 := of_decide_eq_false hb38; have h2 := of_decide_eq_false hb43; omega
          obtain ⟨q, rfl⟩ := Int.eq_ofNat_of_zero_le hz.1
          obtain ⟨e, he⟩ : ∃ e, f0[q]? = some e := ⟨_, List.getElem?_eq_getElem (by omega)⟩
          refine SW.draw [] (.r 0 (.r 1 (.r 2 (.r 3 (.r 4 (.r 5 (.r 6 (.r 7 (.n 8 (.r 9 (.r 10 .fin)) .no))))))))) (by kernel_rfl) (by kernel_rfl) (fun d _ _ _ _ h => by cases d <;> exact h) ?_
          refine SWz.rd (i := 0) rfl rfl (Rd.move rfl) ?_
          refine SWz.rd (i := 1) rfl rfl (Rd.nei rfl rfl) ?_
          refine SWz.rd (i := 2) rfl rfl (Rd.move rfl) ?_
          refine SWz.rdg (i := 3) rfl rfl rfl (by rw [(Led.at_yes he).2]; rfl) rfl rfl (Rd.loadA 6 2 rfl rfl (by kernel_rfl) rfl ap_nil) ?_
          refine SWz.rdg (i := 4) rfl rfl rfl (by rw [(Led.at_yes he).2]; rfl) rfl rfl (Rd.loadB 2 rfl rfl rfl (by kernel_rfl) ap_nil) ?_
          refine SWz.rdg (i := 5) rfl rfl rfl (by rw [(Led.at_yes he).2]; rfl) rfl rfl (Rd.move rfl) ?_
          refine SWz.rdg (i := 6) rfl rfl rfl (by rw [(Led.at_yes he).2]; rfl) rfl rfl (Rd.idxL (e := 44) 2 rfl rfl (by kernel_rfl) (by kernel_rfl) (by omega) (by simpa using he)) ?_
          refine SWz.rdg (i := 7) rfl rfl rfl (by rw [(Led.at_yes he).2]; rfl) rfl rfl (Rd.loadRA 2 rfl (by kernel_rfl) (by decide) (show 2 ≤ 2 by decide) (by simp)) ?_
          refine SWz.efng (i := 8) rfl rfl rfl (by rw [(Led.at_yes he).2]; rfl) rfl (Ef.callN [] (con_same43 _ _ _ _) rfl ⟨(sees_agg ⟨(sees_le (Le.refl _)), (sees_le (Le.refl _)), trivial⟩), (sees_agg ⟨(sees_le (Le.refl _)), (sees_le (Le.refl _)), trivial⟩), trivial⟩ rfl) ?_ SWz.no
          rintro _ rfl
          refine SWz.rdg (i := 9) rfl rfl rfl (by rw [(Led.at_yes he).2]; rfl) rfl rfl (Rd.not rfl) ?_
          refine SWz.rd (i := 10) rfl rfl (Rd.pickN rfl (by rw [(Led.at_yes he).2]; rfl) rfl) ?_
          refine SWz.nil ?_
          refine SN.then ?_
          refine SW.condF rfl (by rw [(Led.at_yes he).1]; simp) ?_
          refine SW.skip ?_
          exact SN.meet rfl (⟨⟨_, rfl, ⟨⟨_, rfl, Le.refl _⟩, ⟨⟨_, rfl, Le.refl _⟩, ⟨⟨_, rfl, Le.refl _⟩, ⟨⟨_, rfl, Le.refl _⟩, trivial⟩⟩⟩⟩⟩, [0, 1, 2, 3, 4, 5], by decide, ⟨⟨_, rfl, LeAll.refl _⟩, ⟨⟨_, rfl, LeAll.refl _⟩, ⟨⟨_, rfl, LeAll.refl _⟩, ⟨⟨_, rfl, LeAll.refl _⟩, ⟨⟨_, rfl, LeR.refl _⟩, ⟨⟨_, rfl, LeR.refl _⟩, trivial⟩⟩⟩⟩⟩⟩⟩)
    · rintro _ rfl
      refine SN.then ?_
      refine SW.seq ?_
      refine SW.region ?_
      refine SWl.rd rfl (Rd.move rfl) ?_
      refine SWl.ef (Ef.callR [3, 4, 5] (con_entriesO ga sa.A sa.c sa.F sa.G sa.M f0) rfl ⟨Le.refl _, trivial⟩ (by decide) ⟨⟨_, rfl, LeAll.refl _⟩, ⟨⟨_, rfl, LeR.refl _⟩, ⟨⟨_, rfl, LeR.refl _⟩, trivial⟩⟩⟩ (fun _ h => h) rfl) ?_
      rintro _ ⟨gq, rfl⟩
      refine SWl.rd rfl (Rd.assign rfl) ?_
      refine SWl.nil ?_
      refine SN.then ?_
      refine SW.seq ?_
      refine SW.seq ?_
      refine SW.region ?_
      refine SWl.rd rfl (Rd.move rfl) ?_
      refine SWl.rd rfl (Rd.eqFnI rfl rfl (by kernel_rfl)) ?_
      refine SWl.nil ?_
      refine SN.then ?_
      refine SW.condF rfl (rfl) ?_
      refine SW.skip ?_
      refine SN.then ?_
      refine SW.seq ?_
      refine SW.vecN 5 1 encB ?_
      refine SW.region ?_
      refine SWl.rd rfl (Rd.move rfl) ?_
      refine SWl.rd rfl (Rd.build rfl rfl bldE1) ?_
      refine SWl.ef (Ef.callR [3, 4, 5, 7] (con_appendO ga sa f0 9 [] none 0 [] _ isView_vec ⟨by decide, by decide, by simp⟩ (by omega)) rfl ⟨Le.refl _, Le.refl _, trivial⟩ (by decide) ⟨⟨_, rfl, LeAll.refl _⟩, ⟨⟨_, rfl, LeR.refl _⟩, ⟨⟨_, rfl, LeR.refl _⟩, ⟨⟨_, rfl, LeR.refl _⟩, trivial⟩⟩⟩⟩ (fun _ h => h) rfl) ?_
      rintro _ ⟨⟨tA, tc, tM⟩, rfl⟩
      refine SWl.nil ?_
      refine SN.then ?_
      refine SW.seq ?_
      refine SW.seq ?_
      refine SW.freezeO 3 0 5 rfl rfl rfl (Nat.le_refl _) ?_
      refine SW.freezeF 3 12 rfl rfl ?_
      refine SW.sub (σ' := St.ob [(5, isD (.pointer (some ⟨g5, 0, none⟩))), (6, isD (.pointer (some ⟨g6, 0, none⟩))), (7, isD (.pointer (some ⟨ga, 0, none⟩))), (8, isD (.pointer (some ⟨g8, 0, none⟩))), (12, fnD 48 [paD [lsD encE f0]])] [.c g5 [iD many], .c g6 [boolD false], .c g8 [lsD encE f0], .c ga [isD (.slice tA (f0.length + 1) tc), isD (.map tM)]]) (⟨⟨_, rfl, ⟨⟨_, rfl, Le.refl _⟩, ⟨⟨_, rfl, Le.refl _⟩, ⟨⟨_, rfl, Le.refl _⟩, ⟨⟨_, rfl, Le.refl _⟩, ⟨⟨_, rfl, Le.refl _⟩, trivial⟩⟩⟩⟩⟩⟩, [0, 1, 2, 3], by decide, ⟨⟨_, rfl, LeAll.refl _⟩, ⟨⟨_, rfl, LeAll.refl _⟩, ⟨⟨_, rfl, LeAll.refl _⟩, ⟨⟨_, rfl, ⟨Le.is (by simp), Le.refl _, trivial⟩⟩, trivial⟩⟩⟩⟩⟩) ?_
      refine SW.region ?_
      refine SWl.ef (S := []) (Ef.alloc (zs := [.int .i64 0]) (by kernel_rfl) rfl) ?_
      rintro _ ⟨g13, rfl⟩
      refine SWl.ef (S := [_]) (Ef.storeV 4 rfl rfl rfl (by kernel_rfl) rfl (List.mem_singleton.2 rfl)) ?_
      rintro _ rfl
      refine SWl.nil ?_
      refine SN.then ?_
      refine SW.block ?_
      refine SW.rounds 2 ?_
      refine SW.seq ?_
      refine SW.seq ?_
      refine SW.region ?_
      refine SWl.rd rfl (Rd.loadB 4 rfl rfl rfl (by kernel_rfl) ap_nil) ?_
      refine SWl.rd rfl (Rd.lss rfl rfl) ?_
      refine SWl.nil ?_
      refine SN.then ?_
      refine SW.condT rfl (by decide) ?_
      refine SW.skip ?_
      refine SN.then ?_
      refine SW.seq ?_
      refine SW.block ?_
      refine SW.seq ?_
      refine SW.sub (σ' := St.ob [(5, isD (.pointer (some ⟨g5, 0, none⟩))), (6, isD (.pointer (some ⟨g6, 0, none⟩))), (7, isD (.pointer (some ⟨ga, 0, none⟩))), (8, isD (.pointer (some ⟨g8, 0, none⟩))), (12, fnD 48 [paD [lsD encE f0]]), (13, isD (.pointer (some ⟨g13, 0, none⟩)))] [.c g5 [iD many], .c g6 [boolD false], .c g8 [lsD encE f0], .c ga [isD (.slice tA (f0.length + 1) tc), isD (.map tM)], .c g13 [iD 0]]) (⟨⟨_, rfl, ⟨⟨_, rfl, Le.refl _⟩, ⟨⟨_, rfl, Le.refl _⟩, ⟨⟨_, rfl, Le.refl _⟩, ⟨⟨_, rfl, Le.refl _⟩, ⟨⟨_, rfl, Le.refl _⟩, ⟨⟨_, rfl, Le.refl _⟩, trivial⟩⟩⟩⟩⟩⟩⟩, [0, 1, 2, 3, 4], by decide, ⟨⟨_, rfl, LeAll.refl _⟩, ⟨⟨_, rfl, LeAll.refl _⟩, ⟨⟨_, rfl, LeAll.refl _⟩, ⟨⟨_, rfl, LeAll.refl _⟩, ⟨⟨_, rfl, LeAll.refl _⟩, trivial⟩⟩⟩⟩⟩⟩) ?_
      refine SW.region ?_
      refine SWl.ef (S := []) (Ef.alloc (zs := [.int .i64 0]) (by kernel_rfl) rfl) ?_
      rintro _ ⟨g14, rfl⟩
      refine SWl.ef (S := [_]) (Ef.storeV 5 rfl rfl rfl (by kernel_rfl) rfl (List.mem_singleton.2 rfl)) ?_
      rintro _ rfl
      refine SWl.nil ?_
      refine SN.then ?_
      refine SW.seq ?_
      refine SW.seq ?_
      refine SW.sub (σ' := St.ob [(5, isD (.pointer (some ⟨g5, 0, none⟩))), (6, isD (.pointer (some ⟨g6, 0, none⟩))), (7, isD (.pointer (some ⟨ga, 0, none⟩))), (8, isD (.pointer (some ⟨g8, 0, none⟩))), (12, fnD 48 [paD [lsD encE f0]]), (13, isD (.pointer (some ⟨g13, 0, none⟩))), (14, isD (.pointer (some ⟨g14, 0, none⟩)))] [.c g5 [iD many], .c g6 [boolD false], .c g8 [lsD encE f0], .c ga [isD (.slice tA (f0.length + 1) tc), isD (.map tM)], .c g13 [iD 0], .c g14 [iD (0)]]) (⟨⟨_, rfl, ⟨⟨_, rfl, Le.refl _⟩, ⟨⟨_, rfl, Le.refl _⟩, ⟨⟨_, rfl, Le.refl _⟩, ⟨⟨_, rfl, Le.refl _⟩, ⟨⟨_, rfl, Le.refl _⟩, ⟨⟨_, rfl, Le.refl _⟩, ⟨⟨_, rfl, Le.refl _⟩, trivial⟩⟩⟩⟩⟩⟩⟩⟩, [0, 1, 2, 3, 4, 5], by decide, ⟨⟨_, rfl, LeAll.refl _⟩, ⟨⟨_, rfl, LeAll.refl _⟩, ⟨⟨_, rfl, LeAll.refl _⟩, ⟨⟨_, rfl, LeAll.refl _⟩, ⟨⟨_, rfl, LeAll.refl _⟩, ⟨⟨_, rfl, LeAll.refl _⟩, trivial⟩⟩⟩⟩⟩⟩⟩) ?_
      refine SW.region ?_
      refine SWl.rd rfl (Rd.move rfl) ?_
      refine SWl.nil ?_
      refine SN.then ?_
      refine SW.block ?_
      refine SW.rangeF (gf := 48) (ps := [75, 76]) (ib := ibE) (dd := ddE) (items := (itemsE f0)) (fun i bx => (0 < i → (i : Int) < many) ∧ bx = [.c g5 [iD many], .c g6 [boolD false], .c g8 [lsD encE f0], .c ga [isD (.slice tA (f0.length + 1) tc), isD (.map tM)], .c g13 [iD 0], .c g14 [iD ((i : Int))]]) (fun o i bx => match o with | none => False | some n => n = 2 ∧ i < f0.length ∧ (0 < i → (i : Int) < many) ∧ many ≤ (i : Int) + 1 ∧ bx = [.c g5 [iD many], .c g6 [boolD false], .c g8 [lsD encE f0], .c ga [isD (.slice tA (f0.length + 1) tc), isD (.map tM)], .c g13 [iD 0], .c g14 [iD ((i : Int) + 1)]]) (fun i x k σ => ∃ g16, (0 < i → (i : Int) < many) ∧ σ = St.ob [(5, isD (.pointer (some ⟨g5, 0, none⟩))), (6, isD (.pointer (some ⟨g6, 0, none⟩))), (8, isD (.pointer (some ⟨g8, 0, none⟩))), (13, isD (.pointer (some ⟨g13, 0, none⟩))), (14, isD (.pointer (some ⟨g14, 0, none⟩))), (15, iD (x.1 : Int)), (16, isD (.pointer (some ⟨g16, 0, none⟩)))] [.c g5 [iD many], .c g6 [boolD false], .c g8 [lsD encE f0], .c ga [isD (.slice tA (f0.length + 1) tc), isD (.map tM)], .c g13 [iD 0], .c g14 [iD ((i : Int))], .r k.F (vecT 5 1 encB k.A k.c x.2.bytes), .c g16 [iD x.2.kind, isD (.slice k.A x.2.bytes.length k.c)]]) entries_en (con_entries_seq f0 (by omega) hfb) rfl (⟨fun h => absurd h (Nat.lt_irrefl 0), rfl⟩) (by kernel_rfl) (fun _ _ => rfl) ?_ ?_ ?_ ?_ ?_
      · rintro i x k hx bx ⟨hm, rfl⟩ y base w0
        refine SWr.seq ?_
        refine SWr.region (by kernel_rfl) (fun _ _ h => h) ?_
        refine SWl.rd rfl (Rd.assign rfl) ?_
        refine SWl.nil ?_
        refine SN.thenr ?_
        refine SWr.region (by kernel_rfl) (fun _ _ h => h) ?_
        refine SWl.ef (S := []) (Ef.alloc (zs := [.int .i64 0, .slice none 0 0]) (by kernel_rfl) rfl) ?_
        rintro _ ⟨g16, rfl⟩
        refine SWl.ef (S := [_]) (Ef.storeA 7 rfl rfl rfl (by kernel_rfl) rfl (List.mem_singleton.2 rfl)) ?_
        rintro _ rfl
        refine SWl.nil ?_
        exact SN.rnd (σ' := St.ob [(5, isD (.pointer (some ⟨g5, 0, none⟩))), (6, isD (.pointer (some ⟨g6, 0, none⟩))), (8, isD (.pointer (some ⟨g8, 0, none⟩))), (13, isD (.pointer (some ⟨g13, 0, none⟩))), (14, isD (.pointer (some ⟨g14, 0, none⟩))), (15, iD (x.1 : Int)), (16, isD (.pointer (some ⟨g16, 0, none⟩)))] [.c g5 [iD many], .c g6 [boolD false], .c g8 [lsD encE f0], .c ga [isD (.slice tA (f0.length + 1) tc), isD (.map tM)], .c g13 [iD 0], .c g14 [iD ((i : Int))], .r k.F (vecT 5 1 encB k.A k.c x.2.bytes), .c g16 [iD x.2.kind, isD (.slice k.A x.2.bytes.length k.c)]]) ⟨g16, hm, rfl⟩ (⟨⟨_, rfl, ⟨⟨_, rfl, Le.refl _⟩, ⟨⟨_, rfl, Le.refl _⟩, ⟨⟨_, rfl, Le.refl _⟩, ⟨⟨_, rfl, Le.refl _⟩, ⟨⟨_, rfl, Le.refl _⟩, ⟨⟨_, rfl, Le.refl _⟩, ⟨⟨_, rfl, Le.refl _⟩, trivial⟩⟩⟩⟩⟩⟩⟩⟩, [0, 1, 2, 3, 4, 5, 6, 7], by decide, ⟨⟨_, rfl, LeAll.refl _⟩, ⟨⟨_, rfl, LeAll.refl _⟩, ⟨⟨_, rfl, LeAll.refl _⟩, ⟨⟨_, rfl, LeAll.refl _⟩, ⟨⟨_, rfl, LeAll.refl _⟩, ⟨⟨_, rfl, LeAll.refl _⟩, ⟨⟨_, rfl, LeR.refl _⟩, ⟨⟨_, rfl, LeAll.refl _⟩, trivial⟩⟩⟩⟩⟩⟩⟩⟩⟩)
      · rintro i x k hx _ ⟨g16, hm, rfl⟩ y base w0
        obtain ⟨hx1, hx2⟩ := itemsE_inv (j := x.1) (e := x.2) hx
        have hlt := (List.getElem?_eq_some_iff.1 hx2).1
        have hxb := hfb x.2 (List.mem_of_getElem? hx2)
        refine SWr.block ?_
        refine SWr.seq ?_
        refine SWr.seq ?_
        refine SWr.draw [] (.r 0 (.r 1 (.r 2 (.r 3 (.r 4 (.r 5 (.r 6 (.r 7 (.r 8 (.r 9 (.r 10 (.r 11 (.r 12 (.r 13 (.r 14 (.n 15 (.r 16 (.r 17 .fin)) .no)))))))))))))))) (by kernel_rfl) (fun _ _ h => h) (by kernel_rfl) (by kernel_rfl) (fun d _ _ _ _ h => by cases d <;> exact h) ?_
        refine SWz.rd (i := 0) rfl rfl (Rd.move rfl) ?_
        refine SWz.rd (i := 1) rfl rfl (Rd.loadB 5 rfl rfl rfl (by kernel_rfl) ap_nil) ?_
        refine SWz.rd (i := 2) rfl rfl (Rd.nei rfl rfl) ?_
        refine SWz.rd (i := 3) rfl rfl (Rd.move rfl) ?_
        refine SWz.rdg (i := 4) rfl rfl rfl (by simp [hx1]) rfl rfl (Rd.loadB 5 rfl rfl rfl (by kernel_rfl) ap_nil) ?_
        refine SWz.rdg (i := 5) rfl rfl rfl (by simp [hx1]) rfl rfl (Rd.loadB 2 rfl rfl rfl (by kernel_rfl) ap_nil) ?_
        refine SWz.rdg (i := 6) rfl rfl rfl (by simp [hx1]) rfl rfl (Rd.lenR (e := 44) rfl (by kernel_rfl)) ?_
        refine SWz.rdg (i := 7) rfl rfl rfl (by simp [hx1]) rfl rfl (Rd.geq rfl rfl) ?_
        refine SWz.rd (i := 8) rfl rfl (Rd.pickN rfl (by simp [hx1]) rfl) ?_
        refine SWz.rd (i := 9) rfl rfl (Rd.move rfl) ?_
        refine SWz.rdg (i := 10) rfl rfl rfl (by simp; omega) rfl rfl (Rd.loadA 7 2 rfl rfl (by kernel_rfl) rfl ap_nil) ?_
        refine SWz.rdg (i := 11) rfl rfl rfl (by simp; omega) rfl rfl (Rd.loadB 2 rfl rfl rfl (by kernel_rfl) ap_nil) ?_
        refine SWz.rdg (i := 12) rfl rfl rfl (by simp; omega) rfl rfl (Rd.loadB 5 rfl rfl rfl (by kernel_rfl) ap_nil) ?_
        refine SWz.rdg (i := 13) rfl rfl rfl (by simp; omega) rfl rfl (Rd.idxL (e := 44) 2 rfl rfl (by kernel_rfl) (by kernel_rfl) (by omega) (by simpa using hx2)) ?_
        refine SWz.rdg (i := 14) rfl rfl rfl (by simp; omega) rfl rfl (Rd.loadRA 2 rfl (by kernel_rfl) (by decide) (show 2 ≤ 2 by decide) (by simp)) ?_
        refine SWz.efng (i := 15) rfl rfl rfl (by simp; omega) rfl (Ef.callN [6] (con_same43 x.2.kind x.2.kind x.2.bytes x.2.bytes) rfl ⟨(sees_agg ⟨(sees_le (Le.refl _)), (sees_vecB 6 rfl (by decide)), trivial⟩), (sees_agg ⟨(sees_le (Le.refl _)), (sees_le (Le.refl _)), trivial⟩), trivial⟩ rfl) ?_ SWz.no
        rintro _ rfl
        refine SWz.rdg (i := 16) rfl rfl rfl (by simp; omega) rfl rfl (Rd.not rfl) ?_
        refine SWz.rd (i := 17) rfl rfl (Rd.pickN rfl (by simp; omega) rfl) ?_
        refine SWz.nil ?_
        refine SN.thenr ?_
        refine SWr.condF rfl (by simp) ?_
        refine SWr.skip ?_
        refine SN.thenr ?_
        refine SWr.seq ?_
        refine SWr.region (by kernel_rfl) (fun _ _ h => h) ?_
        refine SWl.rd rfl (Rd.loadB 5 rfl rfl rfl (by kernel_rfl) ap_nil) ?_
        refine SWl.rd rfl (Rd.add rfl rfl ⟨by omega, by omega⟩) ?_
        refine SWl.ef (S := [_]) (Ef.storeV 5 rfl rfl rfl (by kernel_rfl) rfl (List.mem_singleton.2 rfl)) ?_
        rintro _ rfl
        refine SWl.nil ?_
        refine SN.thenr ?_
        refine SWr.seq ?_
        refine SWr.seq ?_
        refine SWr.region (by kernel_rfl) (fun _ _ h => h) ?_
        refine SWl.rd rfl (Rd.assign rfl) ?_
        refine SWl.nil ?_
        refine SN.thenr ?_
        refine SWr.block ?_
        refine SWr.loop (ι := {s : Nat × List UInt8 // s.1 ≤ s.2.length ∧ s.2.length = x.2.bytes.length}) (fun s => St.ob [(5, isD (.pointer (some ⟨g5, 0, none⟩))), (6, isD (.pointer (some ⟨g6, 0, none⟩))), (8, isD (.pointer (some ⟨g8, 0, none⟩))), (13, isD (.pointer (some ⟨g13, 0, none⟩))), (14, isD (.pointer (some ⟨g14, 0, none⟩))), (16, isD (.pointer (some ⟨g16, 0, none⟩))), (17, iD (s.1.1 : Int))] [.c g5 [iD many], .c g6 [boolD false], .c g8 [lsD encE f0], .c ga [isD (.slice tA (f0.length + 1) tc), isD (.map tM)], .c g13 [iD 0], .c g14 [iD ((i : Int) + 1)], .c g16 [iD x.2.kind, isD (.slice k.A s.1.2.length k.c)], .r k.F (vecT 5 1 encB k.A k.c s.1.2)]) (fun s => x.2.bytes.length - s.1.1) (⟨(0, x.2.bytes), Nat.zero_le _, rfl⟩) ?_ ?_
        · exact ⟨⟨_, rfl, ⟨⟨_, rfl, Le.refl _⟩, ⟨⟨_, rfl, Le.refl _⟩, ⟨⟨_, rfl, Le.refl _⟩, ⟨⟨_, rfl, Le.refl _⟩, ⟨⟨_, rfl, Le.refl _⟩, ⟨⟨_, rfl, Le.refl _⟩, ⟨⟨_, rfl, Le.refl _⟩, trivial⟩⟩⟩⟩⟩⟩⟩⟩, [0, 1, 2, 3, 4, 5, 7, 6], by decide, ⟨⟨_, rfl, LeAll.refl _⟩, ⟨⟨_, rfl, LeAll.refl _⟩, ⟨⟨_, rfl, LeAll.refl _⟩, ⟨⟨_, rfl, LeAll.refl _⟩, ⟨⟨_, rfl, LeAll.refl _⟩, ⟨⟨_, rfl, LeAll.refl _⟩, ⟨⟨_, rfl, LeAll.refl _⟩, ⟨⟨_, rfl, LeR.refl _⟩, trivial⟩⟩⟩⟩⟩⟩⟩⟩⟩
        · rintro ⟨⟨n, bs⟩, hn⟩ K1 hK1
          dsimp only at hn ⊢
          refine SWr.seq ?_
          refine SWr.seq ?_
          refine SWr.region (by kernel_rfl) (fun _ _ h => h) ?_
          refine SWl.rd rfl (Rd.move rfl) ?_
          refine SWl.rd rfl (Rd.fieldAddr (n := 1) rfl (by kernel_rfl)) ?_
          refine SWl.rd rfl (Rd.loadB 6 rfl rfl rfl (by kernel_rfl) ap_nil) ?_
          refine SWl.rd rfl (Rd.lenE (e := 5) rfl (by kernel_rfl)) ?_
          refine SWl.rd rfl (Rd.lss rfl rfl) ?_
          refine SWl.nil ?_
          refine SN.thenr ?_
          refine SWr.cond rfl (fun hb101 => ?_) (fun hb101 => ?_)
          · have hb101 := of_decide_eq_true hb101
            refine SWr.skip ?_
            refine SN.thenr ?_
            refine SWr.seq ?_
            refine SWr.block ?_
            obtain ⟨b, hb⟩ : ∃ b, bs[n]? = some b := ⟨_, List.getElem?_eq_getElem (by omega)⟩
            refine SWr.region (by kernel_rfl) (fun _ _ h => h) ?_
            refine SWl.rd rfl (Rd.fieldAddr (n := 1) rfl (by kernel_rfl)) ?_
            refine SWl.rd rfl (Rd.loadB 6 rfl rfl rfl (by kernel_rfl) ap_nil) ?_
            refine SWl.rd rfl (Rd.move rfl) ?_
            refine SWl.rd rfl (Rd.idxT 7 1 rfl rfl rfl (by kernel_rfl) (by kernel_rfl) (by omega) (by simp; omega)) ?_
            refine SWl.rd rfl (Rd.loadT1 7 rfl rfl (by kernel_rfl) hb rfl ap_nil) ?_
            refine SWl.rd rfl (Rd.addB (b := 1) rfl rfl) ?_
            refine SWl.rd rfl (Rd.idxT 7 1 rfl rfl rfl (by kernel_rfl) (by kernel_rfl) (by omega) (by simp; omega)) ?_
            refine SWl.ef (S := _) (Ef.storeT1 (v := b + 1) 7 rfl rfl rfl rfl (by kernel_rfl) (by simp; omega) (fun _ h => h)) ?_
            rintro _ rfl
            refine SWl.nil ?_
            refine SN.block ?_
            refine SN.thenr ?_
            refine SWr.region (by kernel_rfl) (fun _ _ h => h) ?_
            refine SWl.rd rfl (Rd.move rfl) ?_
            refine SWl.rd rfl (Rd.add rfl rfl ⟨by omega, by omega⟩) ?_
            refine SWl.rd rfl (Rd.assign rfl) ?_
            refine SWl.nil ?_
            exact fun a w hh => hK1 (⟨(n + 1, bs.set n (b + 1)), by simp only [List.length_set]; omega, by simp only [List.length_set]; omega⟩) (by simp only; omega) a w (hh.sub (⟨⟨_, rfl, ⟨⟨_, rfl, Le.refl _⟩, ⟨⟨_, rfl, Le.refl _⟩, ⟨⟨_, rfl, Le.refl _⟩, ⟨⟨_, rfl, Le.refl _⟩, ⟨⟨_, rfl, Le.refl _⟩, ⟨⟨_, rfl, Le.refl _⟩, ⟨⟨_, rfl, Le.refl _⟩, trivial⟩⟩⟩⟩⟩⟩⟩⟩, [0, 1, 2, 3, 4, 5, 6, 7], by decide, ⟨⟨_, rfl, LeAll.refl _⟩, ⟨⟨_, rfl, LeAll.refl _⟩, ⟨⟨_, rfl, LeAll.refl _⟩, ⟨⟨_, rfl, LeAll.refl _⟩, ⟨⟨_, rfl, LeAll.refl _⟩, ⟨⟨_, rfl, LeAll.refl _⟩, ⟨⟨_, rfl, ⟨Le.refl _, Le.is (by simp), trivial⟩⟩, ⟨⟨_, rfl, leVec (by simp) (by simp)⟩, trivial⟩⟩⟩⟩⟩⟩⟩⟩⟩))
          · skip
            refine SWr.exit' ?_
            repeat (first | refine SE.then ?_ | refine SE.skip (by decide) ?_)
            refine SE.here ?_
            refine SN.thenr ?_
            refine SWr.seq ?_
            refine SWr.region (by kernel_rfl) (fun _ _ h => h) ?_
            refine SWl.rd rfl (Rd.loadB 4 rfl rfl rfl (by kernel_rfl) ap_nil) ?_
            refine SWl.rd rfl (Rd.eqi rfl rfl) ?_
            refine SWl.rd rfl (Rd.move rfl) ?_
            refine SWl.rdg rfl rfl (by decide) rfl rfl (Rd.loadB 5 rfl rfl rfl (by kernel_rfl) ap_nil) ?_
            refine SWl.rdg rfl rfl (by decide) rfl rfl (Rd.loadB 0 rfl rfl rfl (by kernel_rfl) ap_nil) ?_
            refine SWl.rdg rfl rfl (by decide) rfl rfl (Rd.geq rfl rfl) ?_
            refine SWl.rd rfl (Rd.pickY rfl (by decide) rfl) ?_
            refine SWl.nil ?_
            refine SN.thenr ?_
            refine SWr.cond rfl (fun hb117 => ?_) (fun hb117 => ?_)
            · have hM := of_decide_eq_true hb117
              refine SWr.exit' ?_
              repeat (first | refine SE.then ?_ | refine SE.skip (by decide) ?_)
              exact SE.rnd (σ' := St.ob [] [.c g5 [iD many], .c g6 [boolD false], .c g8 [lsD encE f0], .c ga [isD (.slice tA (f0.length + 1) tc), isD (.map tM)], .c g13 [iD 0], .c g14 [iD ((i : Int) + 1)]]) ⟨rfl, hlt, hm, by omega, rfl⟩ (⟨⟨_, rfl, trivial⟩, [0, 1, 2, 3, 4, 5], by decide, ⟨⟨_, rfl, LeAll.refl _⟩, ⟨⟨_, rfl, LeAll.refl _⟩, ⟨⟨_, rfl, LeAll.refl _⟩, ⟨⟨_, rfl, LeAll.refl _⟩, ⟨⟨_, rfl, LeAll.refl _⟩, ⟨⟨_, rfl, LeAll.refl _⟩, trivial⟩⟩⟩⟩⟩⟩⟩)
            · have hM := of_decide_eq_false hb117
              refine SWr.skip ?_
              refine SN.block ?_
              exact SN.rnd (σ' := St.ob [] [.c g5 [iD many], .c g6 [boolD false], .c g8 [lsD encE f0], .c ga [isD (.slice tA (f0.length + 1) tc), isD (.map tM)], .c g13 [iD 0], .c g14 [iD (((i + 1 : Nat) : Int))]]) ⟨fun _ => by omega, rfl⟩ (⟨⟨_, rfl, trivial⟩, [0, 1, 2, 3, 4, 5], by decide, ⟨⟨_, rfl, LeAll.refl _⟩, ⟨⟨_, rfl, LeAll.refl _⟩, ⟨⟨_, rfl, LeAll.refl _⟩, ⟨⟨_, rfl, LeAll.refl _⟩, ⟨⟨_, rfl, LeAll.refl _⟩, ⟨⟨_, rfl, ⟨Le.is (by simp), trivial⟩⟩, trivial⟩⟩⟩⟩⟩⟩⟩)
      · rintro dk0 bx ⟨hm, rfl⟩
        rw [itemsE_len] at hm
        refine SN.block ?_
        refine SN.then ?_
        refine SW.seq ?_
        refine SW.region ?_
        refine SWl.rd rfl (Rd.loadB 4 rfl rfl rfl (by kernel_rfl) ap_nil) ?_
        refine SWl.rd rfl (Rd.eqi rfl rfl) ?_
        refine SWl.rd rfl (Rd.move rfl) ?_
        refine SWl.rdg rfl rfl (by decide) rfl rfl (Rd.loadB 5 rfl rfl rfl (by kernel_rfl) ap_nil) ?_
        refine SWl.rdg rfl rfl (by decide) rfl rfl (Rd.loadB 2 rfl rfl rfl (by kernel_rfl) ap_nil) ?_
        refine SWl.rdg rfl rfl (by decide) rfl rfl (Rd.lenR (e := 44) rfl (by kernel_rfl)) ?_
        refine SWl.rdg rfl rfl (by decide) rfl rfl (Rd.loadB 0 rfl rfl rfl (by kernel_rfl) ap_nil) ?_
        refine SWl.rdg rfl rfl (by decide) rfl rfl (Rd.maxI rfl rfl) ?_
        refine SWl.rdg rfl rfl (by decide) rfl rfl (Rd.minI rfl rfl) ?_
        refine SWl.rdg rfl rfl (by decide) rfl rfl (Rd.nei rfl rfl) ?_
        refine SWl.rd rfl (Rd.pickY rfl (by decide) rfl) ?_
        refine SWl.rd rfl (Rd.move rfl) ?_
        refine SWl.rdg rfl rfl (by first | (simp [itemsE_len]; omega) | simp [itemsE_len]) rfl rfl (Rd.loadB 4 rfl rfl rfl (by kernel_rfl) ap_nil) ?_
        refine SWl.rdg rfl rfl (by first | (simp [itemsE_len]; omega) | simp [itemsE_len]) rfl rfl (Rd.eqi rfl rfl) ?_
        refine SWl.rdg rfl rfl (by first | (simp [itemsE_len]; omega) | simp [itemsE_len]) rfl rfl (Rd.move rfl) ?_
        refine SWl.off rfl rfl (by decide) rfl rfl ?_
        refine SWl.off rfl rfl (by decide) rfl rfl ?_
        refine SWl.off rfl rfl (by decide) rfl rfl ?_
        refine SWl.off rfl rfl (by decide) rfl rfl ?_
        refine SWl.rdg rfl rfl (by first | (simp [itemsE_len]; omega) | simp [itemsE_len]) rfl rfl (Rd.pickN rfl (by decide) rfl) ?_
        refine SWl.rd rfl (Rd.pickN rfl (by first | (simp [itemsE_len]; omega) | simp [itemsE_len]) rfl) ?_
        refine SWl.nil ?_
        refine SN.then ?_
        refine SW.condF rfl (rfl) ?_
        refine SW.skip ?_
        refine SN.block ?_
        refine SN.then ?_
        refine SW.seq ?_
        refine SW.seq ?_
        refine SW.region ?_
        refine SWl.rd rfl (Rd.loadB 4 rfl rfl rfl (by kernel_rfl) ap_nil) ?_
        refine SWl.nil ?_
        refine SN.then ?_
        refine SW.sub (σ' := St.ob [(5, isD (.pointer (some ⟨g5, 0, none⟩))), (6, isD (.pointer (some ⟨g6, 0, none⟩))), (7, isD (.pointer (some ⟨ga, 0, none⟩))), (8, isD (.pointer (some ⟨g8, 0, none⟩))), (12, fnD 48 [paD [lsD encE f0]]), (139, iD 0)] [.c g5 [iD many], .c g6 [boolD false], .c g8 [lsD encE f0], .c ga [isD (.slice tA (f0.length + 1) tc), isD (.map tM)], .r [dk0] dfR]) (⟨⟨_, rfl, ⟨⟨_, rfl, Le.refl _⟩, ⟨⟨_, rfl, Le.refl _⟩, ⟨⟨_, rfl, Le.refl _⟩, ⟨⟨_, rfl, Le.refl _⟩, ⟨⟨_, rfl, Le.refl _⟩, ⟨⟨_, rfl, Le.refl _⟩, trivial⟩⟩⟩⟩⟩⟩⟩, [0, 1, 2, 3, 6], by decide, ⟨⟨_, rfl, LeAll.refl _⟩, ⟨⟨_, rfl, LeAll.refl _⟩, ⟨⟨_, rfl, LeAll.refl _⟩, ⟨⟨_, rfl, LeAll.refl _⟩, ⟨⟨_, rfl, LeR.refl _⟩, trivial⟩⟩⟩⟩⟩⟩) ?_
        refine SW.region ?_
        refine SWl.ef (S := []) (Ef.alloc (zs := [.int .i64 0]) (by kernel_rfl) rfl) ?_
        rintro _ ⟨g13, rfl⟩
        refine SWl.ef (S := [_]) (Ef.storeV 5 rfl rfl rfl (by kernel_rfl) rfl (List.mem_singleton.2 rfl)) ?_
        rintro _ rfl
        refine SWl.nil ?_
        refine SN.then ?_
        refine SW.region ?_
        refine SWl.rd rfl (Rd.loadB 5 rfl rfl rfl (by kernel_rfl) ap_nil) ?_
        refine SWl.rd rfl (Rd.add rfl rfl ⟨by decide, by decide⟩) ?_
        refine SWl.ef (S := [_]) (Ef.storeV 5 rfl rfl rfl (by kernel_rfl) rfl (List.mem_singleton.2 rfl)) ?_
        rintro _ rfl
        refine SWl.nil ?_
        refine SN.round ?_
        refine SW.seq ?_
        refine SW.seq ?_
        refine SW.region ?_
        refine SWl.rd rfl (Rd.loadB 5 rfl rfl rfl (by kernel_rfl) ap_nil) ?_
        refine SWl.rd rfl (Rd.lss rfl rfl) ?_
        refine SWl.nil ?_
        refine SN.then ?_
        refine SW.condT rfl (by decide) ?_
        refine SW.skip ?_
        refine SN.then ?_
        refine SW.seq ?_
        refine SW.block ?_
        refine SW.seq ?_
        refine SW.sub (σ' := St.ob [(5, isD (.pointer (some ⟨g5, 0, none⟩))), (6, isD (.pointer (some ⟨g6, 0, none⟩))), (7, isD (.pointer (some ⟨ga, 0, none⟩))), (8, isD (.pointer (some ⟨g8, 0, none⟩))), (12, fnD 48 [paD [lsD encE f0]]), (13, isD (.pointer (some ⟨g13, 0, none⟩)))] [.c g5 [iD many], .c g6 [boolD false], .c g8 [lsD encE f0], .c ga [isD (.slice tA (f0.length + 1) tc), isD (.map tM)], .c g13 [iD 1], .r [dk0] dfR]) (⟨⟨_, rfl, ⟨⟨_, rfl, Le.refl _⟩, ⟨⟨_, rfl, Le.refl _⟩, ⟨⟨_, rfl, Le.refl _⟩, ⟨⟨_, rfl, Le.refl _⟩, ⟨⟨_, rfl, Le.refl _⟩, ⟨⟨_, rfl, Le.refl _⟩, trivial⟩⟩⟩⟩⟩⟩⟩, [0, 1, 2, 3, 5, 4], by decide, ⟨⟨_, rfl, LeAll.refl _⟩, ⟨⟨_, rfl, LeAll.refl _⟩, ⟨⟨_, rfl, LeAll.refl _⟩, ⟨⟨_, rfl, LeAll.refl _⟩, ⟨⟨_, rfl, LeAll.refl _⟩, ⟨⟨_, rfl, LeR.refl _⟩, trivial⟩⟩⟩⟩⟩⟩⟩) ?_
        refine SW.region ?_
        refine SWl.ef (S := []) (Ef.alloc (zs := [.int .i64 0]) (by kernel_rfl) rfl) ?_
        rintro _ ⟨g14, rfl⟩
        refine SWl.ef (S := [_]) (Ef.storeV 6 rfl rfl rfl (by kernel_rfl) rfl (List.mem_singleton.2 rfl)) ?_
        rintro _ rfl
        refine SWl.nil ?_
        refine SN.then ?_
        refine SW.seq ?_
        refine SW.seq ?_
        refine SW.sub (σ' := St.ob [(5, isD (.pointer (some ⟨g5, 0, none⟩))), (6, isD (.pointer (some ⟨g6, 0, none⟩))), (7, isD (.pointer (some ⟨ga, 0, none⟩))), (8, isD (.pointer (some ⟨g8, 0, none⟩))), (12, fnD 48 [paD [lsD encE f0]]), (13, isD (.pointer (some ⟨g13, 0, none⟩))), (14, isD (.pointer (some ⟨g14, 0, none⟩)))] [.c g5 [iD many], .c g6 [boolD false], .c g8 [lsD encE f0], .c ga [isD (.slice tA (f0.length + 1) tc), isD (.map tM)], .c g13 [iD 1], .c g14 [iD (0)], .r [dk0] dfR]) (⟨⟨_, rfl, ⟨⟨_, rfl, Le.refl _⟩, ⟨⟨_, rfl, Le.refl _⟩, ⟨⟨_, rfl, Le.refl _⟩, ⟨⟨_, rfl, Le.refl _⟩, ⟨⟨_, rfl, Le.refl _⟩, ⟨⟨_, rfl, Le.refl _⟩, ⟨⟨_, rfl, Le.refl _⟩, trivial⟩⟩⟩⟩⟩⟩⟩⟩, [0, 1, 2, 3, 4, 6, 5], by decide, ⟨⟨_, rfl, LeAll.refl _⟩, ⟨⟨_, rfl, LeAll.refl _⟩, ⟨⟨_, rfl, LeAll.refl _⟩, ⟨⟨_, rfl, LeAll.refl _⟩, ⟨⟨_, rfl, LeAll.refl _⟩, ⟨⟨_, rfl, LeAll.refl _⟩, ⟨⟨_, rfl, LeR.refl _⟩, trivial⟩⟩⟩⟩⟩⟩⟩⟩) ?_
        refine SW.region ?_
        refine SWl.rd rfl (Rd.move rfl) ?_
        refine SWl.nil ?_
        refine SN.then ?_
        refine SW.block ?_
        refine SW.rangeF (gf := 48) (ps := [75, 76]) (ib := ibE) (dd := ddE) (items := (itemsE f0)) (fun i bx => bx = [.c g5 [iD many], .c g6 [boolD false], .c g8 [lsD encE f0], .c ga [isD (.slice tA (f0.length + 1) tc), isD (.map tM)], .c g13 [iD 1], .c g14 [iD ((i : Int))], .r [dk0] dfR]) (fun o i bx => match o with | none => False | some n => False) (fun i x k σ => ∃ g16, σ = St.ob [(5, isD (.pointer (some ⟨g5, 0, none⟩))), (6, isD (.pointer (some ⟨g6, 0, none⟩))), (8, isD (.pointer (some ⟨g8, 0, none⟩))), (13, isD (.pointer (some ⟨g13, 0, none⟩))), (14, isD (.pointer (some ⟨g14, 0, none⟩))), (15, iD (x.1 : Int)), (16, isD (.pointer (some ⟨g16, 0, none⟩)))] [.c g5 [iD many], .c g6 [boolD false], .c g8 [lsD encE f0], .c ga [isD (.slice tA (f0.length + 1) tc), isD (.map tM)], .c g13 [iD 1], .c g14 [iD ((i : Int))], .r [dk0] dfR, .r k.F (vecT 5 1 encB k.A k.c x.2.bytes), .c g16 [iD x.2.kind, isD (.slice k.A x.2.bytes.length k.c)]]) entries_en (con_entries_seq f0 (by omega) hfb) rfl (rfl) (by kernel_rfl) (fun _ _ => rfl) ?_ ?_ ?_ ?_ ?_
        · rintro i x k hx bx rfl y base w0
          refine SWr.seq ?_
          refine SWr.region (by kernel_rfl) (fun _ _ h => h) ?_
          refine SWl.rd rfl (Rd.assign rfl) ?_
          refine SWl.nil ?_
          refine SN.thenr ?_
          refine SWr.region (by kernel_rfl) (fun _ _ h => h) ?_
          refine SWl.ef (S := []) (Ef.alloc (zs := [.int .i64 0, .slice none 0 0]) (by kernel_rfl) rfl) ?_
          rintro _ ⟨g16, rfl⟩
          refine SWl.ef (S := [_]) (Ef.storeA 8 rfl rfl rfl (by kernel_rfl) rfl (List.mem_singleton.2 rfl)) ?_
          rintro _ rfl
          refine SWl.nil ?_
          exact SN.rnd (σ' := St.ob [(5, isD (.pointer (some ⟨g5, 0, none⟩))), (6, isD (.pointer (some ⟨g6, 0, none⟩))), (8, isD (.pointer (some ⟨g8, 0, none⟩))), (13, isD (.pointer (some ⟨g13, 0, none⟩))), (14, isD (.pointer (some ⟨g14, 0, none⟩))), (15, iD (x.1 : Int)), (16, isD (.pointer (some ⟨g16, 0, none⟩)))] [.c g5 [iD many], .c g6 [boolD false], .c g8 [lsD encE f0], .c ga [isD (.slice tA (f0.length + 1) tc), isD (.map tM)], .c g13 [iD 1], .c g14 [iD ((i : Int))], .r [dk0] dfR, .r k.F (vecT 5 1 encB k.A k.c x.2.bytes), .c g16 [iD x.2.kind, isD (.slice k.A x.2.bytes.length k.c)]]) ⟨g16, rfl⟩ (⟨⟨_, rfl, ⟨⟨_, rfl, Le.refl _⟩, ⟨⟨_, rfl, Le.refl _⟩, ⟨⟨_, rfl, Le.refl _⟩, ⟨⟨_, rfl, Le.refl _⟩, ⟨⟨_, rfl, Le.refl _⟩, ⟨⟨_, rfl, Le.refl _⟩, ⟨⟨_, rfl, Le.refl _⟩, trivial⟩⟩⟩⟩⟩⟩⟩⟩, [0, 1, 2, 3, 4, 5, 6, 7, 8], by decide, ⟨⟨_, rfl, LeAll.refl _⟩, ⟨⟨_, rfl, LeAll.refl _⟩, ⟨⟨_, rfl, LeAll.refl _⟩, ⟨⟨_, rfl, LeAll.refl _⟩, ⟨⟨_, rfl, LeAll.refl _⟩, ⟨⟨_, rfl, LeAll.refl _⟩, ⟨⟨_, rfl, LeR.refl _⟩, ⟨⟨_, rfl, LeR.refl _⟩, ⟨⟨_, rfl, LeAll.refl _⟩, trivial⟩⟩⟩⟩⟩⟩⟩⟩⟩⟩)
        · rintro i x k hx _ ⟨g16, rfl⟩ y base w0
          obtain ⟨hx1, hx2⟩ := itemsE_inv (j := x.1) (e := x.2) hx
          have hlt := (List.getElem?_eq_some_iff.1 hx2).1
          have hxb := hfb x.2 (List.mem_of_getElem? hx2)
          refine SWr.block ?_
          refine SWr.seq ?_
          refine SWr.seq ?_
          refine SWr.draw [] (.r 0 (.r 1 (.r 2 (.r 3 (.r 4 (.r 5 (.r 6 (.r 7 (.r 8 (.r 9 (.r 10 (.r 11 (.r 12 (.r 13 (.r 14 (.n 15 (.r 16 (.r 17 .fin)) .no)))))))))))))))) (by kernel_rfl) (fun _ _ h => h) (by kernel_rfl) (by kernel_rfl) (fun d _ _ _ _ h => by cases d <;> exact h) ?_
          refine SWz.rd (i := 0) rfl rfl (Rd.move rfl) ?_
          refine SWz.rd (i := 1) rfl rfl (Rd.loadB 5 rfl rfl rfl (by kernel_rfl) ap_nil) ?_
          refine SWz.rd (i := 2) rfl rfl (Rd.nei rfl rfl) ?_
          refine SWz.rd (i := 3) rfl rfl (Rd.move rfl) ?_
          refine SWz.rdg (i := 4) rfl rfl rfl (by simp [hx1]) rfl rfl (Rd.loadB 5 rfl rfl rfl (by kernel_rfl) ap_nil) ?_
          refine SWz.rdg (i := 5) rfl rfl rfl (by simp [hx1]) rfl rfl (Rd.loadB 2 rfl rfl rfl (by kernel_rfl) ap_nil) ?_
          refine SWz.rdg (i := 6) rfl rfl rfl (by simp [hx1]) rfl rfl (Rd.lenR (e := 44) rfl (by kernel_rfl)) ?_
          refine SWz.rdg (i := 7) rfl rfl rfl (by simp [hx1]) rfl rfl (Rd.geq rfl rfl) ?_
          refine SWz.rd (i := 8) rfl rfl (Rd.pickN rfl (by simp [hx1]) rfl) ?_
          refine SWz.rd (i := 9) rfl rfl (Rd.move rfl) ?_
          refine SWz.rdg (i := 10) rfl rfl rfl (by simp; omega) rfl rfl (Rd.loadA 8 2 rfl rfl (by kernel_rfl) rfl ap_nil) ?_
          refine SWz.rdg (i := 11) rfl rfl rfl (by simp; omega) rfl rfl (Rd.loadB 2 rfl rfl rfl (by kernel_rfl) ap_nil) ?_
          refine SWz.rdg (i := 12) rfl rfl rfl (by simp; omega) rfl rfl (Rd.loadB 5 rfl rfl rfl (by kernel_rfl) ap_nil) ?_
          refine SWz.rdg (i := 13) rfl rfl rfl (by simp; omega) rfl rfl (Rd.idxL (e := 44) 2 rfl rfl (by kernel_rfl) (by kernel_rfl) (by omega) (by simpa using hx2)) ?_
          refine SWz.rdg (i := 14) rfl rfl rfl (by simp; omega) rfl rfl (Rd.loadRA 2 rfl (by kernel_rfl) (by decide) (show 2 ≤ 2 by decide) (by simp)) ?_
          refine SWz.efng (i := 15) rfl rfl rfl (by simp; omega) rfl (Ef.callN [7] (con_same43 x.2.kind x.2.kind x.2.bytes x.2.bytes) rfl ⟨(sees_agg ⟨(sees_le (Le.refl _)), (sees_vecB 7 rfl (by decide)), trivial⟩), (sees_agg ⟨(sees_le (Le.refl _)), (sees_le (Le.refl _)), trivial⟩), trivial⟩ rfl) ?_ SWz.no
          rintro _ rfl
          refine SWz.rdg (i := 16) rfl rfl rfl (by simp; omega) rfl rfl (Rd.not rfl) ?_
          refine SWz.rd (i := 17) rfl rfl (Rd.pickN rfl (by simp; omega) rfl) ?_
          refine SWz.nil ?_
          refine SN.thenr ?_
          refine SWr.condF rfl (by simp) ?_
          refine SWr.skip ?_
          refine SN.thenr ?_
          refine SWr.seq ?_
          refine SWr.region (by kernel_rfl) (fun _ _ h => h) ?_
          refine SWl.rd rfl (Rd.loadB 5 rfl rfl rfl (by kernel_rfl) ap_nil) ?_
          refine SWl.rd rfl (Rd.add rfl rfl ⟨by omega, by omega⟩) ?_
          refine SWl.ef (S := [_]) (Ef.storeV 5 rfl rfl rfl (by kernel_rfl) rfl (List.mem_singleton.2 rfl)) ?_
          rintro _ rfl
          refine SWl.nil ?_
          refine SN.thenr ?_
          refine SWr.seq ?_
          refine SWr.seq ?_
          refine SWr.region (by kernel_rfl) (fun _ _ h => h) ?_
          refine SWl.rd rfl (Rd.assign rfl) ?_
          refine SWl.nil ?_
          refine SN.thenr ?_
          refine SWr.block ?_
          refine SWr.loop (ι := {s : Nat × List UInt8 // s.1 ≤ s.2.length ∧ s.2.length = x.2.bytes.length}) (fun s => St.ob [(5, isD (.pointer (some ⟨g5, 0, none⟩))), (6, isD (.pointer (some ⟨g6, 0, none⟩))), (8, isD (.pointer (some ⟨g8, 0, none⟩))), (13, isD (.pointer (some ⟨g13, 0, none⟩))), (14, isD (.pointer (some ⟨g14, 0, none⟩))), (16, isD (.pointer (some ⟨g16, 0, none⟩))), (17, iD (s.1.1 : Int))] [.c g5 [iD many], .c g6 [boolD false], .c g8 [lsD encE f0], .c ga [isD (.slice tA (f0.length + 1) tc), isD (.map tM)], .c g13 [iD 1], .c g14 [iD ((i : Int) + 1)], .r [dk0] dfR, .c g16 [iD x.2.kind, isD (.slice k.A s.1.2.length k.c)], .r k.F (vecT 5 1 encB k.A k.c s.1.2)]) (fun s => x.2.bytes.length - s.1.1) (⟨(0, x.2.bytes), Nat.zero_le _, rfl⟩) ?_ ?_
          · exact ⟨⟨_, rfl, ⟨⟨_, rfl, Le.refl _⟩, ⟨⟨_, rfl, Le.refl _⟩, ⟨⟨_, rfl, Le.refl _⟩, ⟨⟨_, rfl, Le.refl _⟩, ⟨⟨_, rfl, Le.refl _⟩, ⟨⟨_, rfl, Le.refl _⟩, ⟨⟨_, rfl, Le.refl _⟩, trivial⟩⟩⟩⟩⟩⟩⟩⟩, [0, 1, 2, 3, 4, 5, 6, 8, 7], by decide, ⟨⟨_, rfl, LeAll.refl _⟩, ⟨⟨_, rfl, LeAll.refl _⟩, ⟨⟨_, rfl, LeAll.refl _⟩, ⟨⟨_, rfl, LeAll.refl _⟩, ⟨⟨_, rfl, LeAll.refl _⟩, ⟨⟨_, rfl, LeAll.refl _⟩, ⟨⟨_, rfl, LeR.refl _⟩, ⟨⟨_, rfl, LeAll.refl _⟩, ⟨⟨_, rfl, LeR.refl _⟩, trivial⟩⟩⟩⟩⟩⟩⟩⟩⟩⟩
          · rintro ⟨⟨n, bs⟩, hn⟩ K1 hK1
            dsimp only at hn ⊢
            refine SWr.seq ?_
            refine SWr.seq ?_
            refine SWr.region (by kernel_rfl) (fun _ _ h => h) ?_
            refine SWl.rd rfl (Rd.move rfl) ?_
            refine SWl.rd rfl (Rd.fieldAddr (n := 1) rfl (by kernel_rfl)) ?_
            refine SWl.rd rfl (Rd.loadB 7 rfl rfl rfl (by kernel_rfl) ap_nil) ?_
            refine SWl.rd rfl (Rd.lenE (e := 5) rfl (by kernel_rfl)) ?_
            refine SWl.rd rfl (Rd.lss rfl rfl) ?_
            refine SWl.nil ?_
            refine SN.thenr ?_
            refine SWr.cond rfl (fun hb101 => ?_) (fun hb101 => ?_)
            · have hb101 := of_decide_eq_true hb101
              refine SWr.skip ?_
              refine SN.thenr ?_
              refine SWr.seq ?_
              refine SWr.block ?_
              obtain ⟨b, hb⟩ : ∃ b, bs[n]? = some b := ⟨_, List.getElem?_eq_getElem (by omega)⟩
              refine SWr.region (by kernel_rfl) (fun _ _ h => h) ?_
              refine SWl.rd rfl (Rd.fieldAddr (n := 1) rfl (by kernel_rfl)) ?_
              refine SWl.rd rfl (Rd.loadB 7 rfl rfl rfl (by kernel_rfl) ap_nil) ?_
              refine SWl.rd rfl (Rd.move rfl) ?_
              refine SWl.rd rfl (Rd.idxT 8 1 rfl rfl rfl (by kernel_rfl) (by kernel_rfl) (by omega) (by simp; omega)) ?_
              refine SWl.rd rfl (Rd.loadT1 8 rfl rfl (by kernel_rfl) hb rfl ap_nil) ?_
              refine SWl.rd rfl (Rd.addB (b := 1) rfl rfl) ?_
              refine SWl.rd rfl (Rd.idxT 8 1 rfl rfl rfl (by kernel_rfl) (by kernel_rfl) (by omega) (by simp; omega)) ?_
              refine SWl.ef (S := _) (Ef.storeT1 (v := b + 1) 8 rfl rfl rfl rfl (by kernel_rfl) (by simp; omega) (fun _ h => h)) ?_
              rintro _ rfl
              refine SWl.nil ?_
              refine SN.block ?_
              refine SN.thenr ?_
              refine SWr.region (by kernel_rfl) (fun _ _ h => h) ?_
              refine SWl.rd rfl (Rd.move rfl) ?_
              refine SWl.rd rfl (Rd.add rfl rfl ⟨by omega, by omega⟩) ?_
              refine SWl.rd rfl (Rd.assign rfl) ?_
              refine SWl.nil ?_
              exact fun a w hh => hK1 (⟨(n + 1, bs.set n (b + 1)), by simp only [List.length_set]; omega, by simp only [List.length_set]; omega⟩) (by simp only; omega) a w (hh.sub (⟨⟨_, rfl, ⟨⟨_, rfl, Le.refl _⟩, ⟨⟨_, rfl, Le.refl _⟩, ⟨⟨_, rfl, Le.refl _⟩, ⟨⟨_, rfl, Le.refl _⟩, ⟨⟨_, rfl, Le.refl _⟩, ⟨⟨_, rfl, Le.refl _⟩, ⟨⟨_, rfl, Le.refl _⟩, trivial⟩⟩⟩⟩⟩⟩⟩⟩, [0, 1, 2, 3, 4, 5, 6, 7, 8], by decide, ⟨⟨_, rfl, LeAll.refl _⟩, ⟨⟨_, rfl, LeAll.refl _⟩, ⟨⟨_, rfl, LeAll.refl _⟩, ⟨⟨_, rfl, LeAll.refl _⟩, ⟨⟨_, rfl, LeAll.refl _⟩, ⟨⟨_, rfl, LeAll.refl _⟩, ⟨⟨_, rfl, LeR.refl _⟩, ⟨⟨_, rfl, ⟨Le.refl _, Le.is (by simp), trivial⟩⟩, ⟨⟨_, rfl, leVec (by simp) (by simp)⟩, trivial⟩⟩⟩⟩⟩⟩⟩⟩⟩⟩))
            · skip
              refine SWr.exit' ?_
              repeat (first | refine SE.then ?_ | refine SE.skip (by decide) ?_)
              refine SE.here ?_
              refine SN.thenr ?_
              refine SWr.seq ?_
              refine SWr.region (by kernel_rfl) (fun _ _ h => h) ?_
              refine SWl.rd rfl (Rd.loadB 4 rfl rfl rfl (by kernel_rfl) ap_nil) ?_
              refine SWl.rd rfl (Rd.eqi rfl rfl) ?_
              refine SWl.rd rfl (Rd.move rfl) ?_
              refine SWl.off rfl rfl (by decide) rfl rfl ?_
              refine SWl.off rfl rfl (by decide) rfl rfl ?_
              refine SWl.off rfl rfl (by decide) rfl rfl ?_
              refine SWl.rd rfl (Rd.pickN rfl (by decide) rfl) ?_
              refine SWl.nil ?_
              refine SN.thenr ?_
              refine SWr.condF rfl (rfl) ?_
              refine SWr.skip ?_
              refine SN.block ?_
              exact SN.rnd (σ' := St.ob [] [.c g5 [iD many], .c g6 [boolD false], .c g8 [lsD encE f0], .c ga [isD (.slice tA (f0.length + 1) tc), isD (.map tM)], .c g13 [iD 1], .c g14 [iD (((i + 1 : Nat) : Int))], .r [dk0] dfR]) rfl (⟨⟨_, rfl, trivial⟩, [0, 1, 2, 3, 4, 5, 6], by decide, ⟨⟨_, rfl, LeAll.refl _⟩, ⟨⟨_, rfl, LeAll.refl _⟩, ⟨⟨_, rfl, LeAll.refl _⟩, ⟨⟨_, rfl, LeAll.refl _⟩, ⟨⟨_, rfl, LeAll.refl _⟩, ⟨⟨_, rfl, ⟨Le.is (by simp), trivial⟩⟩, ⟨⟨_, rfl, LeR.refl _⟩, trivial⟩⟩⟩⟩⟩⟩⟩⟩)
        · rintro dk1 bx rfl
          refine SN.block ?_
          refine SN.then ?_
          refine SW.seq ?_
          refine SW.region ?_
          refine SWl.rd rfl (Rd.loadB 4 rfl rfl rfl (by kernel_rfl) ap_nil) ?_
          refine SWl.rd rfl (Rd.eqi rfl rfl) ?_
          refine SWl.rd rfl (Rd.move rfl) ?_
          refine SWl.off rfl rfl (by decide) rfl rfl ?_
          refine SWl.off rfl rfl (by decide) rfl rfl ?_
          refine SWl.off rfl rfl (by decide) rfl rfl ?_
          refine SWl.off rfl rfl (by decide) rfl rfl ?_
          refine SWl.off rfl rfl (by decide) rfl rfl ?_
          refine SWl.off rfl rfl (by decide) rfl rfl ?_
          refine SWl.off rfl rfl (by decide) rfl rfl ?_
          refine SWl.rd rfl (Rd.pickN rfl (by decide) rfl) ?_
          refine SWl.rd rfl (Rd.move rfl) ?_
          refine SWl.rdg rfl rfl (rfl) rfl rfl (Rd.loadB 4 rfl rfl rfl (by kernel_rfl) ap_nil) ?_
          refine SWl.rdg rfl rfl (rfl) rfl rfl (Rd.eqi rfl rfl) ?_
          refine SWl.rdg rfl rfl (rfl) rfl rfl (Rd.move rfl) ?_
          refine SWl.rdg rfl rfl (by decide) rfl rfl (Rd.loadB 5 rfl rfl rfl (by kernel_rfl) ap_nil) ?_
          refine SWl.rdg rfl rfl (by decide) rfl rfl (Rd.loadB 2 rfl rfl rfl (by kernel_rfl) ap_nil) ?_
          refine SWl.rdg rfl rfl (by decide) rfl rfl (Rd.lenR (e := 44) rfl (by kernel_rfl)) ?_
          refine SWl.rdg rfl rfl (by decide) rfl rfl (Rd.nei rfl rfl) ?_
          refine SWl.rdg rfl rfl (rfl) rfl rfl (Rd.pickY rfl (by decide) rfl) ?_
          refine SWl.rd rfl (Rd.pickN rfl (rfl) rfl) ?_
          refine SWl.nil ?_
          refine SN.then ?_
          refine SW.condF rfl (by simp [itemsE_len]) ?_
          refine SW.skip ?_
          refine SN.block ?_
          refine SN.then ?_
          refine SW.seq ?_
          refine SW.seq ?_
          refine SW.region ?_
          refine SWl.rd rfl (Rd.loadB 4 rfl rfl rfl (by kernel_rfl) ap_nil) ?_
          refine SWl.nil ?_
          refine SN.then ?_
          refine SW.sub (σ' := St.ob [(5, isD (.pointer (some ⟨g5, 0, none⟩))), (6, isD (.pointer (some ⟨g6, 0, none⟩))), (7, isD (.pointer (some ⟨ga, 0, none⟩))), (8, isD (.pointer (some ⟨g8, 0, none⟩))), (12, fnD 48 [paD [lsD encE f0]]), (139, iD 1)] [.c g5 [iD many], .c g6 [boolD false], .c g8 [lsD encE f0], .c ga [isD (.slice tA (f0.length + 1) tc), isD (.map tM)], .r [dk0] dfR, .r [dk1] dfR]) (⟨⟨_, rfl, ⟨⟨_, rfl, Le.refl _⟩, ⟨⟨_, rfl, Le.refl _⟩, ⟨⟨_, rfl, Le.refl _⟩, ⟨⟨_, rfl, Le.refl _⟩, ⟨⟨_, rfl, Le.refl _⟩, ⟨⟨_, rfl, Le.refl _⟩, trivial⟩⟩⟩⟩⟩⟩⟩, [0, 1, 2, 3, 6, 7], by decide, ⟨⟨_, rfl, LeAll.refl _⟩, ⟨⟨_, rfl, LeAll.refl _⟩, ⟨⟨_, rfl, LeAll.refl _⟩, ⟨⟨_, rfl, LeAll.refl _⟩, ⟨⟨_, rfl, LeR.refl _⟩, ⟨⟨_, rfl, LeR.refl _⟩, trivial⟩⟩⟩⟩⟩⟩⟩) ?_
          refine SW.region ?_
          refine SWl.ef (S := []) (Ef.alloc (zs := [.int .i64 0]) (by kernel_rfl) rfl) ?_
          rintro _ ⟨g13, rfl⟩
          refine SWl.ef (S := [_]) (Ef.storeV 6 rfl rfl rfl (by kernel_rfl) rfl (List.mem_singleton.2 rfl)) ?_
          rintro _ rfl
          refine SWl.nil ?_
          refine SN.then ?_
          refine SW.region ?_
          refine SWl.rd rfl (Rd.loadB 6 rfl rfl rfl (by kernel_rfl) ap_nil) ?_
          refine SWl.rd rfl (Rd.add rfl rfl ⟨by decide, by decide⟩) ?_
          refine SWl.ef (S := [_]) (Ef.storeV 6 rfl rfl rfl (by kernel_rfl) rfl (List.mem_singleton.2 rfl)) ?_
          rintro _ rfl
          refine SWl.nil ?_
          refine SN.round ?_
          refine SW.seq ?_
          refine SW.seq ?_
          refine SW.region ?_
          refine SWl.rd rfl (Rd.loadB 6 rfl rfl rfl (by kernel_rfl) ap_nil) ?_
          refine SWl.rd rfl (Rd.lss rfl rfl) ?_
          refine SWl.nil ?_
          refine SN.then ?_
          refine SW.condF rfl (by decide) ?_
          refine SW.exit' ?_
          repeat (first | refine SE.then ?_ | refine SE.skip (by decide) ?_)
          refine SE.here ?_
          refine SN.then ?_
          refine SW.seq ?_
          refine SW.sub (σ' := St.ob [(6, isD (.pointer (some ⟨g6, 0, none⟩))), (7, isD (.pointer (some ⟨ga, 0, none⟩))), (8, isD (.pointer (some ⟨g8, 0, none⟩)))] [.c g6 [boolD false], .c g8 [lsD encE f0], .c ga [isD (.slice tA (f0.length + 1) tc), isD (.map tM)], .r [dk0] dfR, .r [dk1] dfR]) (⟨⟨_, rfl, ⟨⟨_, rfl, Le.refl _⟩, ⟨⟨_, rfl, Le.refl _⟩, ⟨⟨_, rfl, Le.refl _⟩, trivial⟩⟩⟩⟩, [1, 2, 3, 4, 5], by decide, ⟨⟨_, rfl, LeAll.refl _⟩, ⟨⟨_, rfl, LeAll.refl _⟩, ⟨⟨_, rfl, LeAll.refl _⟩, ⟨⟨_, rfl, LeR.refl _⟩, ⟨⟨_, rfl, LeR.refl _⟩, trivial⟩⟩⟩⟩⟩⟩) ?_
          refine SW.draw (g6 :: []) (.r 0 (.r 2 (.r 3 (.r 4 (.n 1 (.r 5 (.r 6 (.n 7 (.r 8 (.e 9 .fin .no)) .no))) .no))))) (by kernel_rfl) (by kernel_rfl) (fun d _ _ _ _ h => by cases d <;> exact h) ?_
          refine SWz.rd (i := 0) rfl rfl (Rd.move rfl) ?_
          refine SWz.rd (i := 2) rfl rfl (Rd.loadB 1 rfl rfl rfl (by kernel_rfl) (ap_cons 0 rfl (by decide) ap_nil)) ?_
          refine SWz.rd (i := 3) rfl rfl (Rd.lenR (e := 44) rfl (by kernel_rfl)) ?_
          refine SWz.rd (i := 4) rfl rfl (Rd.add rfl rfl ⟨by omega, by omega⟩) ?_
          refine SWz.efn (i := 1) rfl (Ef.callN [2] (con_lenS tA (f0.length + 1) tc tM) rfl ⟨(sees_box 2 rfl (by decide) ⟨(sees_le (Le.refl _)), (sees_le (Le.refl _)), trivial⟩), trivial⟩ rfl) ?_ SWz.no
          rintro _ rfl
          refine SWz.rd (i := 5) rfl rfl (Rd.eqi rfl rfl) ?_
          refine SWz.rd (i := 6) rfl rfl (Rd.move rfl) ?_
          refine SWz.efng (i := 7) rfl rfl rfl (by simp) rfl (Ef.callN [] (con_known43) rfl trivial rfl) ?_ SWz.no
          rintro _ rfl
          refine SWz.rd (i := 8) rfl rfl (Rd.pickY rfl (by simp) rfl) ?_
          refine SWz.efe (i := 9) rfl (Ef.storeV 0 rfl rfl rfl (by kernel_rfl) rfl (List.mem_cons_self)) ?_ SWz.no
          rintro _ rfl
          refine SWz.nil ?_
          refine SN.then ?_
          refine SW.retM (fn := Tryd.f4) (fun _ _ h => h) ?_
          refine RM.mark 4 rfl ?_
          refine RM.mark 3 rfl ?_
          refine RM.fin ?_
          refine Rs.le (Rs.one rfl (ResV.cellV 0 rfl rfl (by kernel_rfl) rfl)) ?_
          exact le_bool_n (by rfl)
        · rintro _ _ _ _ hX; exact hX.elim
        · rintro _ _ _ hX; exact hX.elim
      · rintro dk0 nq i bx ⟨rfl, hlt, hm, hM, rfl⟩
        repeat (first | refine SE.then ?_ | refine SE.skip (by decide) ?_)
        refine SE.here ?_
        refine SN.then ?_
        refine SW.seq ?_
        refine SW.region ?_
        refine SWl.rd rfl (Rd.loadB 4 rfl rfl rfl (by kernel_rfl) ap_nil) ?_
        refine SWl.rd rfl (Rd.eqi rfl rfl) ?_
        refine SWl.rd rfl (Rd.move rfl) ?_
        refine SWl.rdg rfl rfl (by decide) rfl rfl (Rd.loadB 5 rfl rfl rfl (by kernel_rfl) ap_nil) ?_
        refine SWl.rdg rfl rfl (by decide) rfl rfl (Rd.loadB 2 rfl rfl rfl (by kernel_rfl) ap_nil) ?_
        refine SWl.rdg rfl rfl (by decide) rfl rfl (Rd.lenR (e := 44) rfl (by kernel_rfl)) ?_
        refine SWl.rdg rfl rfl (by decide) rfl rfl (Rd.loadB 0 rfl rfl rfl (by kernel_rfl) ap_nil) ?_
        refine SWl.rdg rfl rfl (by decide) rfl rfl (Rd.maxI rfl rfl) ?_
        refine SWl.rdg rfl rfl (by decide) rfl rfl (Rd.minI rfl rfl) ?_
        refine SWl.rdg rfl rfl (by decide) rfl rfl (Rd.nei rfl rfl) ?_
        refine SWl.rd rfl (Rd.pickY rfl (by decide) rfl) ?_
        refine SWl.rd rfl (Rd.move rfl) ?_
        refine SWl.rdg rfl rfl (by first | (simp [itemsE_len]; omega) | simp [itemsE_len]) rfl rfl (Rd.loadB 4 rfl rfl rfl (by kernel_rfl) ap_nil) ?_
        refine SWl.rdg rfl rfl (by first | (simp [itemsE_len]; omega) | simp [itemsE_len]) rfl rfl (Rd.eqi rfl rfl) ?_
        refine SWl.rdg rfl rfl (by first | (simp [itemsE_len]; omega) | simp [itemsE_len]) rfl rfl (Rd.move rfl) ?_
        refine SWl.off rfl rfl (by decide) rfl rfl ?_
        refine SWl.off rfl rfl (by decide) rfl rfl ?_
        refine SWl.off rfl rfl (by decide) rfl rfl ?_
        refine SWl.off rfl rfl (by decide) rfl rfl ?_
        refine SWl.rdg rfl rfl (by first | (simp [itemsE_len]; omega) | simp [itemsE_len]) rfl rfl (Rd.pickN rfl (by decide) rfl) ?_
        refine SWl.rd rfl (Rd.pickN rfl (by first | (simp [itemsE_len]; omega) | simp [itemsE_len]) rfl) ?_
        refine SWl.nil ?_
        refine SN.then ?_
        refine SW.condF rfl (rfl) ?_
        refine SW.skip ?_
        refine SN.block ?_
        refine SN.then ?_
        refine SW.seq ?_
        refine SW.seq ?_
        refine SW.region ?_
        refine SWl.rd rfl (Rd.loadB 4 rfl rfl rfl (by kernel_rfl) ap_nil) ?_
        refine SWl.nil ?_
        refine SN.then ?_
        refine SW.sub (σ' := St.ob [(5, isD (.pointer (some ⟨g5, 0, none⟩))), (6, isD (.pointer (some ⟨g6, 0, none⟩))), (7, isD (.pointer (some ⟨ga, 0, none⟩))), (8, isD (.pointer (some ⟨g8, 0, none⟩))), (12, fnD 48 [paD [lsD encE f0]]), (139, iD 0)] [.c g5 [iD many], .c g6 [boolD false], .c g8 [lsD encE f0], .c ga [isD (.slice tA (f0.length + 1) tc), isD (.map tM)], .r [dk0] dfR]) (⟨⟨_, rfl, ⟨⟨_, rfl, Le.refl _⟩, ⟨⟨_, rfl, Le.refl _⟩, ⟨⟨_, rfl, Le.refl _⟩, ⟨⟨_, rfl, Le.refl _⟩, ⟨⟨_, rfl, Le.refl _⟩, ⟨⟨_, rfl, Le.refl _⟩, trivial⟩⟩⟩⟩⟩⟩⟩, [0, 1, 2, 3, 6], by decide, ⟨⟨_, rfl, LeAll.refl _⟩, ⟨⟨_, rfl, LeAll.refl _⟩, ⟨⟨_, rfl, LeAll.refl _⟩, ⟨⟨_, rfl, LeAll.refl _⟩, ⟨⟨_, rfl, LeR.refl _⟩, trivial⟩⟩⟩⟩⟩⟩) ?_
        refine SW.region ?_
        refine SWl.ef (S := []) (Ef.alloc (zs := [.int .i64 0]) (by kernel_rfl) rfl) ?_
        rintro _ ⟨g13, rfl⟩
        refine SWl.ef (S := [_]) (Ef.storeV 5 rfl rfl rfl (by kernel_rfl) rfl (List.mem_singleton.2 rfl)) ?_
        rintro _ rfl
        refine SWl.nil ?_
        refine SN.then ?_
        refine SW.region ?_
        refine SWl.rd rfl (Rd.loadB 5 rfl rfl rfl (by kernel_rfl) ap_nil) ?_
        refine SWl.rd rfl (Rd.add rfl rfl ⟨by decide, by decide⟩) ?_
        refine SWl.ef (S := [_]) (Ef.storeV 5 rfl rfl rfl (by kernel_rfl) rfl (List.mem_singleton.2 rfl)) ?_
        rintro _ rfl
        refine SWl.nil ?_
        refine SN.round ?_
        refine SW.seq ?_
        refine SW.seq ?_
        refine SW.region ?_
        refine SWl.rd rfl (Rd.loadB 5 rfl rfl rfl (by kernel_rfl) ap_nil) ?_
        refine SWl.rd rfl (Rd.lss rfl rfl) ?_
        refine SWl.nil ?_
        refine SN.then ?_
        refine SW.condT rfl (by decide) ?_
        refine SW.skip ?_
        refine SN.then ?_
        refine SW.seq ?_
        refine SW.block ?_
        refine SW.seq ?_
        refine SW.sub (σ' := St.ob [(5, isD (.pointer (some ⟨g5, 0, none⟩))), (6, isD (.pointer (some ⟨g6, 0, none⟩))), (7, isD (.pointer (some ⟨ga, 0, none⟩))), (8, isD (.pointer (some ⟨g8, 0, none⟩))), (12, fnD 48 [paD [lsD encE f0]]), (13, isD (.pointer (some ⟨g13, 0, none⟩)))] [.c g5 [iD many], .c g6 [boolD false], .c g8 [lsD encE f0], .c ga [isD (.slice tA (f0.length + 1) tc), isD (.map tM)], .c g13 [iD 1], .r [dk0] dfR]) (⟨⟨_, rfl, ⟨⟨_, rfl, Le.refl _⟩, ⟨⟨_, rfl, Le.refl _⟩, ⟨⟨_, rfl, Le.refl _⟩, ⟨⟨_, rfl, Le.refl _⟩, ⟨⟨_, rfl, Le.refl _⟩, ⟨⟨_, rfl, Le.refl _⟩, trivial⟩⟩⟩⟩⟩⟩⟩, [0, 1, 2, 3, 5, 4], by decide, ⟨⟨_, rfl, LeAll.refl _⟩, ⟨⟨_, rfl, LeAll.refl _⟩, ⟨⟨_, rfl, LeAll.refl _⟩, ⟨⟨_, rfl, LeAll.refl _⟩, ⟨⟨_, rfl, LeAll.refl _⟩, ⟨⟨_, rfl, LeR.refl _⟩, trivial⟩⟩⟩⟩⟩⟩⟩) ?_
        refine SW.region ?_
        refine SWl.ef (S := []) (Ef.alloc (zs := [.int .i64 0]) (by kernel_rfl) rfl) ?_
        rintro _ ⟨g14, rfl⟩
        refine SWl.ef (S := [_]) (Ef.storeV 6 rfl rfl rfl (by kernel_rfl) rfl (List.mem_singleton.2 rfl)) ?_
        rintro _ rfl
        refine SWl.nil ?_
        refine SN.then ?_
        refine SW.seq ?_
        refine SW.seq ?_
        refine SW.sub (σ' := St.ob [(5, isD (.pointer (some ⟨g5, 0, none⟩))), (6, isD (.pointer (some ⟨g6, 0, none⟩))), (7, isD (.pointer (some ⟨ga, 0, none⟩))), (8, isD (.pointer (some ⟨g8, 0, none⟩))), (12, fnD 48 [paD [lsD encE f0]]), (13, isD (.pointer (some ⟨g13, 0, none⟩))), (14, isD (.pointer (some ⟨g14, 0, none⟩)))] [.c g5 [iD many], .c g6 [boolD false], .c g8 [lsD encE f0], .c ga [isD (.slice tA (f0.length + 1) tc), isD (.map tM)], .c g13 [iD 1], .c g14 [iD (0)], .r [dk0] dfR]) (⟨⟨_, rfl, ⟨⟨_, rfl, Le.refl _⟩, ⟨⟨_, rfl, Le.refl _⟩, ⟨⟨_, rfl, Le.refl _⟩, ⟨⟨_, rfl, Le.refl _⟩, ⟨⟨_, rfl, Le.refl _⟩, ⟨⟨_, rfl, Le.refl _⟩, ⟨⟨_, rfl, Le.refl _⟩, trivial⟩⟩⟩⟩⟩⟩⟩⟩, [0, 1, 2, 3, 4, 6, 5], by decide, ⟨⟨_, rfl, LeAll.refl _⟩, ⟨⟨_, rfl, LeAll.refl _⟩, ⟨⟨_, rfl, LeAll.refl _⟩, ⟨⟨_, rfl, LeAll.refl _⟩, ⟨⟨_, rfl, LeAll.refl _⟩, ⟨⟨_, rfl, LeAll.refl _⟩, ⟨⟨_, rfl, LeR.refl _⟩, trivial⟩⟩⟩⟩⟩⟩⟩⟩) ?_
        refine SW.region ?_
        refine SWl.rd rfl (Rd.move rfl) ?_
        refine SWl.nil ?_
        refine SN.then ?_
        refine SW.block ?_
        refine SW.rangeF (gf := 48) (ps := [75, 76]) (ib := ibE) (dd := ddE) (items := (itemsE f0)) (fun i bx => bx = [.c g5 [iD many], .c g6 [boolD false], .c g8 [lsD encE f0], .c ga [isD (.slice tA (f0.length + 1) tc), isD (.map tM)], .c g13 [iD 1], .c g14 [iD ((i : Int))], .r [dk0] dfR]) (fun o i bx => match o with | none => False | some n => False) (fun i x k σ => ∃ g16, σ = St.ob [(5, isD (.pointer (some ⟨g5, 0, none⟩))), (6, isD (.pointer (some ⟨g6, 0, none⟩))), (8, isD (.pointer (some ⟨g8, 0, none⟩))), (13, isD (.pointer (some ⟨g13, 0, none⟩))), (14, isD (.pointer (some ⟨g14, 0, none⟩))), (15, iD (x.1 : Int)), (16, isD (.pointer (some ⟨g16, 0, none⟩)))] [.c g5 [iD many], .c g6 [boolD false], .c g8 [lsD encE f0], .c ga [isD (.slice tA (f0.length + 1) tc), isD (.map tM)], .c g13 [iD 1], .c g14 [iD ((i : Int))], .r [dk0] dfR, .r k.F (vecT 5 1 encB k.A k.c x.2.bytes), .c g16 [iD x.2.kind, isD (.slice k.A x.2.bytes.length k.c)]]) entries_en (con_entries_seq f0 (by omega) hfb) rfl (rfl) (by kernel_rfl) (fun _ _ => rfl) ?_ ?_ ?_ ?_ ?_
        · rintro i x k hx bx rfl y base w0
          refine SWr.seq ?_
          refine SWr.region (by kernel_rfl) (fun _ _ h => h) ?_
          refine SWl.rd rfl (Rd.assign rfl) ?_
          refine SWl.nil ?_
          refine SN.thenr ?_
          refine SWr.region (by kernel_rfl) (fun _ _ h => h) ?_
          refine SWl.ef (S := []) (Ef.alloc (zs := [.int .i64 0, .slice none 0 0]) (by kernel_rfl) rfl) ?_
          rintro _ ⟨g16, rfl⟩
          refine SWl.ef (S := [_]) (Ef.storeA 8 rfl rfl rfl (by kernel_rfl) rfl (List.mem_singleton.2 rfl)) ?_
          rintro _ rfl
          refine SWl.nil ?_
          exact SN.rnd (σ' := St.ob [(5, isD (.pointer (some ⟨g5, 0, none⟩))), (6, isD (.pointer (some ⟨g6, 0, none⟩))), (8, isD (.pointer (some ⟨g8, 0, none⟩))), (13, isD (.pointer (some ⟨g13, 0, none⟩))), (14, isD (.pointer (some ⟨g14, 0, none⟩))), (15, iD (x.1 : Int)), (16, isD (.pointer (some ⟨g16, 0, none⟩)))] [.c g5 [iD many], .c g6 [boolD false], .c g8 [lsD encE f0], .c ga [isD (.slice tA (f0.length + 1) tc), isD (.map tM)], .c g13 [iD 1], .c g14 [iD ((i : Int))], .r [dk0] dfR, .r k.F (vecT 5 1 encB k.A k.c x.2.bytes), .c g16 [iD x.2.kind, isD (.slice k.A x.2.bytes.length k.c)]]) ⟨g16, rfl⟩ (⟨⟨_, rfl, ⟨⟨_, rfl, Le.refl _⟩, ⟨⟨_, rfl, Le.refl _⟩, ⟨⟨_, rfl, Le.refl _⟩, ⟨⟨_, rfl, Le.refl _⟩, ⟨⟨_, rfl, Le.refl _⟩, ⟨⟨_, rfl, Le.refl _⟩, ⟨⟨_, rfl, Le.refl _⟩, trivial⟩⟩⟩⟩⟩⟩⟩⟩, [0, 1, 2, 3, 4, 5, 6, 7, 8], by decide, ⟨⟨_, rfl, LeAll.refl _⟩, ⟨⟨_, rfl, LeAll.refl _⟩, ⟨⟨_, rfl, LeAll.refl _⟩, ⟨⟨_, rfl, LeAll.refl _⟩, ⟨⟨_, rfl, LeAll.refl _⟩, ⟨⟨_, rfl, LeAll.refl _⟩, ⟨⟨_, rfl, LeR.refl _⟩, ⟨⟨_, rfl, LeR.refl _⟩, ⟨⟨_, rfl, LeAll.refl _⟩, trivial⟩⟩⟩⟩⟩⟩⟩⟩⟩⟩)
        · rintro i x k hx _ ⟨g16, rfl⟩ y base w0
          obtain ⟨hx1, hx2⟩ := itemsE_inv (j := x.1) (e := x.2) hx
          have hlt := (List.getElem?_eq_some_iff.1 hx2).1
          have hxb := hfb x.2 (List.mem_of_getElem? hx2)
          refine SWr.block ?_
          refine SWr.seq ?_
          refine SWr.seq ?_
          refine SWr.draw [] (.r 0 (.r 1 (.r 2 (.r 3 (.r 4 (.r 5 (.r 6 (.r 7 (.r 8 (.r 9 (.r 10 (.r 11 (.r 12 (.r 13 (.r 14 (.n 15 (.r 16 (.r 17 .fin)) .no)))))))))))))))) (by kernel_rfl) (fun _ _ h => h) (by kernel_rfl) (by kernel_rfl) (fun d _ _ _ _ h => by cases d <;> exact h) ?_
          refine SWz.rd (i := 0) rfl rfl (Rd.move rfl) ?_
          refine SWz.rd (i := 1) rfl rfl (Rd.loadB 5 rfl rfl rfl (by kernel_rfl) ap_nil) ?_
          refine SWz.rd (i := 2) rfl rfl (Rd.nei rfl rfl) ?_
          refine SWz.rd (i := 3) rfl rfl (Rd.move rfl) ?_
          refine SWz.rdg (i := 4) rfl rfl rfl (by simp [hx1]) rfl rfl (Rd.loadB 5 rfl rfl rfl (by kernel_rfl) ap_nil) ?_
          refine SWz.rdg (i := 5) rfl rfl rfl (by simp [hx1]) rfl rfl (Rd.loadB 2 rfl rfl rfl (by kernel_rfl) ap_nil) ?_
          refine SWz.rdg (i := 6) rfl rfl rfl (by simp [hx1]) rfl rfl (Rd.lenR (e := 44) rfl (by kernel_rfl)) ?_
          refine SWz.rdg (i := 7) rfl rfl rfl (by simp [hx1]) rfl rfl (Rd.geq rfl rfl) ?_
          refine SWz.rd (i := 8) rfl rfl (Rd.pickN rfl (by simp [hx1]) rfl) ?_
          refine SWz.rd (i := 9) rfl rfl (Rd.move rfl) ?_
          refine SWz.rdg (i := 10) rfl rfl rfl (by simp; omega) rfl rfl (Rd.loadA 8 2 rfl rfl (by kernel_rfl) rfl ap_nil) ?_
          refine SWz.rdg (i := 11) rfl rfl rfl (by simp; omega) rfl rfl (Rd.loadB 2 rfl rfl rfl (by kernel_rfl) ap_nil) ?_
          refine SWz.rdg (i := 12) rfl rfl rfl (by simp; omega) rfl rfl (Rd.loadB 5 rfl rfl rfl (by kernel_rfl) ap_nil) ?_
          refine SWz.rdg (i := 13) rfl rfl rfl (by simp; omega) rfl rfl (Rd.idxL (e := 44) 2 rfl rfl (by kernel_rfl) (by kernel_rfl) (by omega) (by simpa using hx2)) ?_
          refine SWz.rdg (i := 14) rfl rfl rfl (by simp; omega) rfl rfl (Rd.loadRA 2 rfl (by kernel_rfl) (by decide) (show 2 ≤ 2 by decide) (by simp)) ?_
          refine SWz.efng (i := 15) rfl rfl rfl (by simp; omega) rfl (Ef.callN [7] (con_same43 x.2.kind x.2.kind x.2.bytes x.2.bytes) rfl ⟨(sees_agg ⟨(sees_le (Le.refl _)), (sees_vecB 7 rfl (by decide)), trivial⟩), (sees_agg ⟨(sees_le (Le.refl _)), (sees_le (Le.refl _)), trivial⟩), trivial⟩ rfl) ?_ SWz.no
          rintro _ rfl
          refine SWz.rdg (i := 16) rfl rfl rfl (by simp; omega) rfl rfl (Rd.not rfl) ?_
          refine SWz.rd (i := 17) rfl rfl (Rd.pickN rfl (by simp; omega) rfl) ?_
          refine SWz.nil ?_
          refine SN.thenr ?_
          refine SWr.condF rfl (by simp) ?_
          refine SWr.skip ?_
          refine SN.thenr ?_
          refine SWr.seq ?_
          refine SWr.region (by kernel_rfl) (fun _ _ h => h) ?_
          refine SWl.rd rfl (Rd.loadB 5 rfl rfl rfl (by kernel_rfl) ap_nil) ?_
          refine SWl.rd rfl (Rd.add rfl rfl ⟨by omega, by omega⟩) ?_
          refine SWl.ef (S := [_]) (Ef.storeV 5 rfl rfl rfl (by kernel_rfl) rfl (List.mem_singleton.2 rfl)) ?_
          rintro _ rfl
          refine SWl.nil ?_
          refine SN.thenr ?_
          refine SWr.seq ?_
          refine SWr.seq ?_
          refine SWr.region (by kernel_rfl) (fun _ _ h => h) ?_
          refine SWl.rd rfl (Rd.assign rfl) ?_
          refine SWl.nil ?_
          refine SN.thenr ?_
          refine SWr.block ?_
          refine SWr.loop (ι := {s : Nat × List UInt8 // s.1 ≤ s.2.length ∧ s.2.length = x.2.bytes.length}) (fun s => St.ob [(5, isD (.pointer (some ⟨g5, 0, none⟩))), (6, isD (.pointer (some ⟨g6, 0, none⟩))), (8, isD (.pointer (some ⟨g8, 0, none⟩))), (13, isD (.pointer (some ⟨g13, 0, none⟩))), (14, isD (.pointer (some ⟨g14, 0, none⟩))), (16, isD (.pointer (some ⟨g16, 0, none⟩))), (17, iD (s.1.1 : Int))] [.c g5 [iD many], .c g6 [boolD false], .c g8 [lsD encE f0], .c ga [isD (.slice tA (f0.length + 1) tc), isD (.map tM)], .c g13 [iD 1], .c g14 [iD ((i : Int) + 1)], .r [dk0] dfR, .c g16 [iD x.2.kind, isD (.slice k.A s.1.2.length k.c)], .r k.F (vecT 5 1 encB k.A k.c s.1.2)]) (fun s => x.2.bytes.length - s.1.1) (⟨(0, x.2.bytes), Nat.zero_le _, rfl⟩) ?_ ?_
          · exact ⟨⟨_, rfl, ⟨⟨_, rfl, Le.refl _⟩, ⟨⟨_, rfl, Le.refl _⟩, ⟨⟨_, rfl, Le.refl _⟩, ⟨⟨_, rfl, Le.refl _⟩, ⟨⟨_, rfl, Le.refl _⟩, ⟨⟨_, rfl, Le.refl _⟩, ⟨⟨_, rfl, Le.refl _⟩, trivial⟩⟩⟩⟩⟩⟩⟩⟩, [0, 1, 2, 3, 4, 5, 6, 8, 7], by decide, ⟨⟨_, rfl, LeAll.refl _⟩, ⟨⟨_, rfl, LeAll.refl _⟩, ⟨⟨_, rfl, LeAll.refl _⟩, ⟨⟨_, rfl, LeAll.refl _⟩, ⟨⟨_, rfl, LeAll.refl _⟩, ⟨⟨_, rfl, LeAll.refl _⟩, ⟨⟨_, rfl, LeR.refl _⟩, ⟨⟨_, rfl, LeAll.refl _⟩, ⟨⟨_, rfl, LeR.refl _⟩, trivial⟩⟩⟩⟩⟩⟩⟩⟩⟩⟩
          · rintro ⟨⟨n, bs⟩, hn⟩ K1 hK1
            dsimp only at hn ⊢
            refine SWr.seq ?_
            refine SWr.seq ?_
            refine SWr.region (by kernel_rfl) (fun _ _ h => h) ?_
            refine SWl.rd rfl (Rd.move rfl) ?_
            refine SWl.rd rfl (Rd.fieldAddr (n := 1) rfl (by kernel_rfl)) ?_
            refine SWl.rd rfl (Rd.loadB 7 rfl rfl rfl (by kernel_rfl) ap_nil) ?_
            refine SWl.rd rfl (Rd.lenE (e := 5) rfl (by kernel_rfl)) ?_
            refine SWl.rd rfl (Rd.lss rfl rfl) ?_
            refine SWl.nil ?_
            refine SN.thenr ?_
            refine SWr.cond rfl (fun hb101 => ?_) (fun hb101 => ?_)
            · have hb101 := of_decide_eq_true hb101
              refine SWr.skip ?_
              refine SN.thenr ?_
              refine SWr.seq ?_
              refine SWr.block ?_
              obtain ⟨b, hb⟩ : ∃ b, bs[n]? = some b := ⟨_, List.getElem?_eq_getElem (by omega)⟩
              refine SWr.region (by kernel_rfl) (fun _ _ h => h) ?_
              refine SWl.rd rfl (Rd.fieldAddr (n := 1) rfl (by kernel_rfl)) ?_
              refine SWl.rd rfl (Rd.loadB 7 rfl rfl rfl (by kernel_rfl) ap_nil) ?_
              refine SWl.rd rfl (Rd.move rfl) ?_
              refine SWl.rd rfl (Rd.idxT 8 1 rfl rfl rfl (by kernel_rfl) (by kernel_rfl) (by omega) (by simp; omega)) ?_
              refine SWl.rd rfl (Rd.loadT1 8 rfl rfl (by kernel_rfl) hb rfl ap_nil) ?_
              refine SWl.rd rfl (Rd.addB (b := 1) rfl rfl) ?_
              refine SWl.rd rfl (Rd.idxT 8 1 rfl rfl rfl (by kernel_rfl) (by kernel_rfl) (by omega) (by simp; omega)) ?_
              refine SWl.ef (S := _) (Ef.storeT1 (v := b + 1) 8 rfl rfl rfl rfl (by kernel_rfl) (by simp; omega) (fun _ h => h)) ?_
              rintro _ rfl
              refine SWl.nil ?_
              refine SN.block ?_
              refine SN.thenr ?_
              refine SWr.region (by kernel_rfl) (fun _ _ h => h) ?_
              refine SWl.rd rfl (Rd.move rfl) ?_
              refine SWl.rd rfl (Rd.add rfl rfl ⟨by omega, by omega⟩) ?_
              refine SWl.rd rfl (Rd.assign rfl) ?_
              refine SWl.nil ?_
              exact fun a w hh => hK1 (⟨(n + 1, bs.set n (b + 1)), by simp only [List.length_set]; omega, by simp only [List.length_set]; omega⟩) (by simp only; omega) a w (hh.sub (⟨⟨_, rfl, ⟨⟨_, rfl, Le.refl _⟩, ⟨⟨_, rfl, Le.refl _⟩, ⟨⟨_, rfl, Le.refl _⟩, ⟨⟨_, rfl, Le.refl _⟩, ⟨⟨_, rfl, Le.refl _⟩, ⟨⟨_, rfl, Le.refl _⟩, ⟨⟨_, rfl, Le.refl _⟩, trivial⟩⟩⟩⟩⟩⟩⟩⟩, [0, 1, 2, 3, 4, 5, 6, 7, 8], by decide, ⟨⟨_, rfl, LeAll.refl _⟩, ⟨⟨_, rfl, LeAll.refl _⟩, ⟨⟨_, rfl, LeAll.refl _⟩, ⟨⟨_, rfl, LeAll.refl _⟩, ⟨⟨_, rfl, LeAll.refl _⟩, ⟨⟨_, rfl, LeAll.refl _⟩, ⟨⟨_, rfl, LeR.refl _⟩, ⟨⟨_, rfl, ⟨Le.refl _, Le.is (by simp), trivial⟩⟩, ⟨⟨_, rfl, leVec (by simp) (by simp)⟩, trivial⟩⟩⟩⟩⟩⟩⟩⟩⟩⟩))
            · skip
              refine SWr.exit' ?_
              repeat (first | refine SE.then ?_ | refine SE.skip (by decide) ?_)
              refine SE.here ?_
              refine SN.thenr ?_
              refine SWr.seq ?_
              refine SWr.region (by kernel_rfl) (fun _ _ h => h) ?_
              refine SWl.rd rfl (Rd.loadB 4 rfl rfl rfl (by kernel_rfl) ap_nil) ?_
              refine SWl.rd rfl (Rd.eqi rfl rfl) ?_
              refine SWl.rd rfl (Rd.move rfl) ?_
              refine SWl.off rfl rfl (by decide) rfl rfl ?_
              refine SWl.off rfl rfl (by decide) rfl rfl ?_
              refine SWl.off rfl rfl (by decide) rfl rfl ?_
              refine SWl.rd rfl (Rd.pickN rfl (by decide) rfl) ?_
              refine SWl.nil ?_
              refine SN.thenr ?_
              refine SWr.condF rfl (rfl) ?_
              refine SWr.skip ?_
              refine SN.block ?_
              exact SN.rnd (σ' := St.ob [] [.c g5 [iD many], .c g6 [boolD false], .c g8 [lsD encE f0], .c ga [isD (.slice tA (f0.length + 1) tc), isD (.map tM)], .c g13 [iD 1], .c g14 [iD (((i + 1 : Nat) : Int))], .r [dk0] dfR]) rfl (⟨⟨_, rfl, trivial⟩, [0, 1, 2, 3, 4, 5, 6], by decide, ⟨⟨_, rfl, LeAll.refl _⟩, ⟨⟨_, rfl, LeAll.refl _⟩, ⟨⟨_, rfl, LeAll.refl _⟩, ⟨⟨_, rfl, LeAll.refl _⟩, ⟨⟨_, rfl, LeAll.refl _⟩, ⟨⟨_, rfl, ⟨Le.is (by simp), trivial⟩⟩, ⟨⟨_, rfl, LeR.refl _⟩, trivial⟩⟩⟩⟩⟩⟩⟩⟩)
        · rintro dk2 bx rfl
          refine SN.block ?_
          refine SN.then ?_
          refine SW.seq ?_
          refine SW.region ?_
          refine SWl.rd rfl (Rd.loadB 4 rfl rfl rfl (by kernel_rfl) ap_nil) ?_
          refine SWl.rd rfl (Rd.eqi rfl rfl) ?_
          refine SWl.rd rfl (Rd.move rfl) ?_
          refine SWl.off rfl rfl (by decide) rfl rfl ?_
          refine SWl.off rfl rfl (by decide) rfl rfl ?_
          refine SWl.off rfl rfl (by decide) rfl rfl ?_
          refine SWl.off rfl rfl (by decide) rfl rfl ?_
          refine SWl.off rfl rfl (by decide) rfl rfl ?_
          refine SWl.off rfl rfl (by decide) rfl rfl ?_
          refine SWl.off rfl rfl (by decide) rfl rfl ?_
          refine SWl.rd rfl (Rd.pickN rfl (by decide) rfl) ?_
          refine SWl.rd rfl (Rd.move rfl) ?_
          refine SWl.rdg rfl rfl (rfl) rfl rfl (Rd.loadB 4 rfl rfl rfl (by kernel_rfl) ap_nil) ?_
          refine SWl.rdg rfl rfl (rfl) rfl rfl (Rd.eqi rfl rfl) ?_
          refine SWl.rdg rfl rfl (rfl) rfl rfl (Rd.move rfl) ?_
          refine SWl.rdg rfl rfl (by decide) rfl rfl (Rd.loadB 5 rfl rfl rfl (by kernel_rfl) ap_nil) ?_
          refine SWl.rdg rfl rfl (by decide) rfl rfl (Rd.loadB 2 rfl rfl rfl (by kernel_rfl) ap_nil) ?_
          refine SWl.rdg rfl rfl (by decide) rfl rfl (Rd.lenR (e := 44) rfl (by kernel_rfl)) ?_
          refine SWl.rdg rfl rfl (by decide) rfl rfl (Rd.nei rfl rfl) ?_
          refine SWl.rdg rfl rfl (rfl) rfl rfl (Rd.pickY rfl (by decide) rfl) ?_
          refine SWl.rd rfl (Rd.pickN rfl (rfl) rfl) ?_
          refine SWl.nil ?_
          refine SN.then ?_
          refine SW.condF rfl (by simp [itemsE_len]) ?_
          refine SW.skip ?_
          refine SN.block ?_
          refine SN.then ?_
          refine SW.seq ?_
          refine SW.seq ?_
          refine SW.region ?_
          refine SWl.rd rfl (Rd.loadB 4 rfl rfl rfl (by kernel_rfl) ap_nil) ?_
          refine SWl.nil ?_
          refine SN.then ?_
          refine SW.sub (σ' := St.ob [(5, isD (.pointer (some ⟨g5, 0, none⟩))), (6, isD (.pointer (some ⟨g6, 0, none⟩))), (7, isD (.pointer (some ⟨ga, 0, none⟩))), (8, isD (.pointer (some ⟨g8, 0, none⟩))), (12, fnD 48 [paD [lsD encE f0]]), (139, iD 1)] [.c g5 [iD many], .c g6 [boolD false], .c g8 [lsD encE f0], .c ga [isD (.slice tA (f0.length + 1) tc), isD (.map tM)], .r [dk0] dfR, .r [dk2] dfR]) (⟨⟨_, rfl, ⟨⟨_, rfl, Le.refl _⟩, ⟨⟨_, rfl, Le.refl _⟩, ⟨⟨_, rfl, Le.refl _⟩, ⟨⟨_, rfl, Le.refl _⟩, ⟨⟨_, rfl, Le.refl _⟩, ⟨⟨_, rfl, Le.refl _⟩, trivial⟩⟩⟩⟩⟩⟩⟩, [0, 1, 2, 3, 6, 7], by decide, ⟨⟨_, rfl, LeAll.refl _⟩, ⟨⟨_, rfl, LeAll.refl _⟩, ⟨⟨_, rfl, LeAll.refl _⟩, ⟨⟨_, rfl, LeAll.refl _⟩, ⟨⟨_, rfl, LeR.refl _⟩, ⟨⟨_, rfl, LeR.refl _⟩, trivial⟩⟩⟩⟩⟩⟩⟩) ?_
          refine SW.region ?_
          refine SWl.ef (S := []) (Ef.alloc (zs := [.int .i64 0]) (by kernel_rfl) rfl) ?_
          rintro _ ⟨g13, rfl⟩
          refine SWl.ef (S := [_]) (Ef.storeV 6 rfl rfl rfl (by kernel_rfl) rfl (List.mem_singleton.2 rfl)) ?_
          rintro _ rfl
          refine SWl.nil ?_
          refine SN.then ?_
          refine SW.region ?_
          refine SWl.rd rfl (Rd.loadB 6 rfl rfl rfl (by kernel_rfl) ap_nil) ?_
          refine SWl.rd rfl (Rd.add rfl rfl ⟨by decide, by decide⟩) ?_
          refine SWl.ef (S := [_]) (Ef.storeV 6 rfl rfl rfl (by kernel_rfl) rfl (List.mem_singleton.2 rfl)) ?_
          rintro _ rfl
          refine SWl.nil ?_
          refine SN.round ?_
          refine SW.seq ?_
          refine SW.seq ?_
          refine SW.region ?_
          refine SWl.rd rfl (Rd.loadB 6 rfl rfl rfl (by kernel_rfl) ap_nil) ?_
          refine SWl.rd rfl (Rd.lss rfl rfl) ?_
          refine SWl.nil ?_
          refine SN.then ?_
          refine SW.condF rfl (by decide) ?_
          refine SW.exit' ?_
          repeat (first | refine SE.then ?_ | refine SE.skip (by decide) ?_)
          refine SE.here ?_
          refine SN.then ?_
          refine SW.seq ?_
          refine SW.sub (σ' := St.ob [(6, isD (.pointer (some ⟨g6, 0, none⟩))), (7, isD (.pointer (some ⟨ga, 0, none⟩))), (8, isD (.pointer (some ⟨g8, 0, none⟩)))] [.c g6 [boolD false], .c g8 [lsD encE f0], .c ga [isD (.slice tA (f0.length + 1) tc), isD (.map tM)], .r [dk0] dfR, .r [dk2] dfR]) (⟨⟨_, rfl, ⟨⟨_, rfl, Le.refl _⟩, ⟨⟨_, rfl, Le.refl _⟩, ⟨⟨_, rfl, Le.refl _⟩, trivial⟩⟩⟩⟩, [1, 2, 3, 4, 5], by decide, ⟨⟨_, rfl, LeAll.refl _⟩, ⟨⟨_, rfl, LeAll.refl _⟩, ⟨⟨_, rfl, LeAll.refl _⟩, ⟨⟨_, rfl, LeR.refl _⟩, ⟨⟨_, rfl, LeR.refl _⟩, trivial⟩⟩⟩⟩⟩⟩) ?_
          refine SW.draw (g6 :: []) (.r 0 (.r 2 (.r 3 (.r 4 (.n 1 (.r 5 (.r 6 (.n 7 (.r 8 (.e 9 .fin .no)) .no))) .no))))) (by kernel_rfl) (by kernel_rfl) (fun d _ _ _ _ h => by cases d <;> exact h) ?_
          refine SWz.rd (i := 0) rfl rfl (Rd.move rfl) ?_
          refine SWz.rd (i := 2) rfl rfl (Rd.loadB 1 rfl rfl rfl (by kernel_rfl) (ap_cons 0 rfl (by decide) ap_nil)) ?_
          refine SWz.rd (i := 3) rfl rfl (Rd.lenR (e := 44) rfl (by kernel_rfl)) ?_
          refine SWz.rd (i := 4) rfl rfl (Rd.add rfl rfl ⟨by omega, by omega⟩) ?_
          refine SWz.efn (i := 1) rfl (Ef.callN [2] (con_lenS tA (f0.length + 1) tc tM) rfl ⟨(sees_box 2 rfl (by decide) ⟨(sees_le (Le.refl _)), (sees_le (Le.refl _)), trivial⟩), trivial⟩ rfl) ?_ SWz.no
          rintro _ rfl
          refine SWz.rd (i := 5) rfl rfl (Rd.eqi rfl rfl) ?_
          refine SWz.rd (i := 6) rfl rfl (Rd.move rfl) ?_
          refine SWz.efng (i := 7) rfl rfl rfl (by simp) rfl (Ef.callN [] (con_known43) rfl trivial rfl) ?_ SWz.no
          rintro _ rfl
          refine SWz.rd (i := 8) rfl rfl (Rd.pickY rfl (by simp) rfl) ?_
          refine SWz.efe (i := 9) rfl (Ef.storeV 0 rfl rfl rfl (by kernel_rfl) rfl (List.mem_cons_self)) ?_ SWz.no
          rintro _ rfl
          refine SWz.nil ?_
          refine SN.then ?_
          refine SW.retM (fn := Tryd.f4) (fun _ _ h => h) ?_
          refine RM.mark 4 rfl ?_
          refine RM.mark 3 rfl ?_
          refine RM.fin ?_
          refine Rs.le (Rs.one rfl (ResV.cellV 0 rfl rfl (by kernel_rfl) rfl)) ?_
          exact le_bool_n (by rfl)
        · rintro _ _ _ _ hX; exact hX.elim
        · rintro _ _ _ hX; exact hX.elim
      · rintro _ _ _ hX; exact hX.elim
end Sx
end Go.Proofs.YtonjpfpdpfonnaaDoor
