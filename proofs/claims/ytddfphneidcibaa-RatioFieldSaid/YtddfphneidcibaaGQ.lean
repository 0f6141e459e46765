/-
  WALKING CODE BY WHAT IS KNOWN: functions as values, parts of arrays by value, labels. Over any program.
  WHAT IS KNOWN OF RATIOS; the walks of ratio's Valid, Make, Of, Zero, From and of the reference's Valid, Reduce, Of, Same.
  THE WALKS of ratio's Sign, Neg, Floor, Ceil, Text and of the reference's Negative, Text.
-/
import Derived.Test.YtddfphneidcibaaGP
import Derived.Scope
import Derived.Test.YtddfphneidcibaaLawRing1
namespace Go.Proofs.Ytddfphneidcibaa
open Go.RowKit
namespace Sx
instance (f : Fn) (a b : Array Value) : One (isD (.func f a b)) := ⟨fun _ _ _ h => by cases h; rfl⟩
instance : Ones (List.map isD []) := ⟨fun d hd => by simp at hd⟩
instance (v : Value) (vs : List Value) [o : One (isD v)] [os : Ones (List.map isD vs)] : Ones (List.map isD (v :: vs)) := ⟨fun d hd => by
  rcases List.mem_cons.1 (show d ∈ isD v :: List.map isD vs from hd) with rfl | hd
  · exact o.h
  · exact os.m d hd⟩
instance (ds es : List D) (o : Nat) [os : Ones ds] [ps : Ones es] : Ones (spliceD ds o es) := by unfold spliceD; infer_instance
instance : One (isD .nilFunc) := ⟨fun _ _ _ h => by cases h; rfl⟩
section
variable {P : Program} {Γ : Cx} {σ : St} {S : List Nat} {dst : Option Tmp} {ty : TypeId} {pos : String} {af : Array Edge} {gd : Option (Nat × Bool)} {d : D} {Q : Exit → Act → World → Prop}
theorem SW.label {n : Nat} (h : SN Γ Q σ) : SW P Γ σ (.label n) Q := fun a w hh => wp_label (h a w hh)
theorem SW.scope {c : Code} (h : SW P Γ σ c (Exit.noGoto Q)) : SW P Γ σ (.scope c) Q := fun a w hh => wp_scope_straight (h a w hh)
theorem SN.scope (h : SN Γ Q σ) : SN Γ (Exit.noGoto Q) σ := h
theorem SE.scope {n : Nat} (h : SE Γ n Q σ) : SE Γ n (Exit.noGoto Q) σ := h
theorem all_cap {L : List Nat} {w : World} : ∀ {es : List D} {vs : List Value} (cap : List Value), All L w es vs → All L w (es ++ cap.map isD) (vs ++ cap)
  | _, _, cap, h => h.append (all_is cap)
/-- A function made of another one and of what it holds. -/
theorem Rd.makeFunc {fn : Fn} {cp : Array Operand} (cs : List Value) (hc : σ.evs cp.toList = some (cs.map isD)) : Rd P Γ S ⟨dst, .makeFunc fn #[] cp, ty, pos, af, gd⟩ σ (isD (.func fn #[] cs.toArray)) := by
  intro a w hh
  have hall := evs_spec hh hc
  have key : ∀ {zs cs : List Value}, All (σ.L Γ) w (zs.map isD) cs → cs = zs := by
    intro zs
    induction zs with
    | nil => intro cs h; cases cs with | nil => rfl | cons => exact h.elim
    | cons z zs ih => intro cs h; cases cs with | nil => exact h.elim | cons c cs => rw [ih h.2, show c = z from h.1]
  have e : cp.map a.eval = cs.toArray := by
    apply Array.ext'
    simpa using key hall
  exact ⟨_, rfl, fun w' _ => by simp [execOp, Instr.makeFunc, e]⟩
theorem run_callV {a : Act} {w : World} {x : Operand} {f : FuncId} {args : Array Operand} {aT : Array TypeId} {cap : List Value} (hen : enters P f) (hx : a.eval x = .func (.func f) #[] cap.toArray) :
    (execOp a.eval ⟨dst, .call { callee := .value x, args := args, argTypes := aT }, ty, pos, af, gd⟩).run P w = .ok (.enter f (args.toList.map a.eval ++ cap).toArray) w := by
  have h := hen (args.toList.map a.eval ++ cap).toArray w
  have e1 : (args.map a.eval) ++ cap.toArray = (args.toList.map a.eval ++ cap).toArray := by apply Array.ext'; simp
  simp only [execOp, resolve, hx, Deferred.ofValue, Sem.run_bind, Sem.run_pure, Result.andThen_ok, invoke, Array.empty_append]
  rw [e1]
  exact h
/-- A call of a function value. -/
theorem Ef.callV {x : Operand} {f : FuncId} {args : Array Operand} {aT : Array TypeId} {cap : List Value} {ds es : List D} {d : D} {k : Nat} (hcon : Con P f ds d) (hx : σ.ev x = some (isD (.func (.func f) #[] cap.toArray))) (he : σ.evs args.toList = some es) (hl : LeAll (es ++ cap.map isD) ds) (hk : dstOk Γ.nt k = true) :
    Ef P Γ S ⟨some k, .call { callee := .value x, args := args, argTypes := aT }, ty, pos, af, gd⟩ σ (fun σ' => σ' = σ.put k d) := by
  intro a w hh K Q hK
  have hall := hl.all (all_cap cap (evs_spec hh he))
  unfold Oper.wp
  rw [run_callV hcon.en (show a.eval x = _ from ev_spec hh hx)]
  simp only [Oper.upon]
  refine (hcon.go (σ.L Γ) w _ hh.lt hall).mono ?_
  rintro r w' ⟨v, rfl, hd, ho⟩
  exact hK _ _ _ rfl ((hh.keep ho).put (by simpa [dstOk] using hk) hd) (ho.mono (by simp))
/-- One that may change box j. -/
theorem Ef.callVB {x : Operand} {f : FuncId} {args : Array Operand} {aT : Array TypeId} {cap : List Value} {g : Nat} {bs es ad ad' : List D} {d : D} {k : Nat} (j : Nat) (hcon : ConB P f g bs es ad d) (hx : σ.ev x = some (isD (.func (.func f) #[] cap.toArray))) (he : σ.evs args.toList = some ad') (hl : LeAll (ad' ++ cap.map isD) ad) (hj : σ.bx[j]? = some (g, bs)) (hS : g ∈ S) (hk : dstOk Γ.nt k = true) :
    Ef P Γ S ⟨some k, .call { callee := .value x, args := args, argTypes := aT }, ty, pos, af, gd⟩ σ (fun σ' => σ' = (σ.set j es).put k d) := by
  intro a w hh K Q hK
  have hall := hl.all (all_cap cap (evs_spec hh he))
  unfold Oper.wp
  rw [run_callV hcon.en (show a.eval x = _ from ev_spec hh hx)]
  simp only [Oper.upon]
  have hgm : g ∈ σ.bx.map (·.1) := List.mem_map.2 ⟨_, List.mem_of_getElem? hj, rfl⟩
  have hL1 : ∀ x ∈ g :: (σ.L Γ).filter (· ≠ g), x ∈ σ.L Γ ∨ w.heap.size ≤ x := fun x hx => by
    rcases List.mem_cons.1 hx with rfl | hx
    · exact .inl (List.mem_append_left _ hgm)
    · exact .inl (List.mem_filter.1 hx).1
  obtain ⟨t, cs, hb, ha⟩ := hh.bx g bs (List.mem_of_getElem? hj)
  refine (hcon.go ((σ.L Γ).filter (· ≠ g)) w _ (fun x hx => hh.lt x (List.mem_filter.1 hx).1) (by simp) ⟨t, cs, hb, ha.less hL1⟩ (hall.less hL1)).mono ?_
  rintro r w' ⟨v, rfl, hd, ⟨t', cs', hb', ha'⟩, ho⟩
  have hL2 : ∀ x ∈ σ.L Γ, x ∈ g :: (σ.L Γ).filter (· ≠ g) ∨ w'.heap.size ≤ x := fun x hx => by
    by_cases hxg : x = g
    · exact .inl (by rw [hxg]; exact List.mem_cons_self)
    · exact .inl (List.mem_cons_of_mem _ (List.mem_filter.2 ⟨hx, by simpa using hxg⟩))
  refine hK _ _ _ rfl ((hh.set' hj hb' ho (ha'.less hL2)).put (by simpa [dstOk] using hk) ?_) (ho.mono (by intro z hz _; simp at hz; subst hz; exact hS))
  rw [L_set]
  exact d.less hd hL2
def arrT (P : Program) (T e n : Nat) : Bool := match P.underlying T with | some (.array n' e') => n' == n && e' == e | _ => false
theorem arrT_spec {T e n : Nat} (h : arrT P T e n = true) : P.underlying T = some (.array n e) := by
  unfold arrT at h
  split at h
  · rename_i n' e' hu
    rw [hu]
    simp at h
    rw [h.1, h.2]
  · cases h
/-- x[i] of an array by value, its elements structs or arrays. -/
theorem Rd.indexA {x y : Operand} {T e n : Nat} {ds : List D} {i : Int} {kd : IntKind} (sz : Nat) (hx : σ.ev x = some (aggD ds)) (hy : σ.ev y = some (isD (.int kd i))) (hT : arrT P T e n = true) (he : rowT P e sz = true) (h0 : 0 ≤ i) (hi : i < (n : Int)) :
    Rd P Γ S ⟨dst, .index T x y, ty, pos, af, gd⟩ σ (aggD ((ds.drop (i.toNat * sz)).take sz)) := by
  intro a w hh
  obtain ⟨cs, hxv, ha⟩ := ev_spec hh hx
  have hyv : a.eval y = .int kd i := ev_spec hh hy
  refine ⟨.agg ((cs.drop (i.toNat * sz)).take sz).toArray, ⟨_, rfl, (ha.drop _).take _⟩, fun w' _ => ?_⟩
  unfold rowT at he
  split at he
  · rename_i dd hu
    simp only [Bool.and_eq_true, beq_iff_eq] at he
    obtain ⟨inf, h1, h2⟩ := Option.map_eq_some_iff.1 he.2
    have hag : (isAgg e).run P w' = .ok true w' := by
      cases dd <;> simp [TypeDesc.isRow] at he <;> simp [isAgg, run_underlying hu]
    have ex : cs.toArray.extract (i.toNat * sz) (i.toNat * sz + sz) = ((cs.drop (i.toNat * sz)).take sz).toArray := by
      apply Array.ext'
      simp
    simp only [execOp, hxv, hyv, Instr.index, asIntOf, run_underlying (arrT_spec hT), Sem.run_bind, Sem.run_pure, Result.andThen_ok, if_pos (And.intro h0 hi), sizeOf, typeInfo, part, hag, if_true]
    simp [h1, h2, ex, hag]
  · cases he
end
end Sx
end Go.Proofs.Ytddfphneidcibaa
namespace Go.Proofs.Ytddfphneidcibaa
open Go.RowKit
open Nm (W32)
namespace Sx
/-- Ratios: two integers; what came in. -/
abbrev ratC (n d : Int) : List D := [isD (.bool (decide (n < 0))), bytD n.natAbs, isD (.bool (decide (d < 0))), bytD d.natAbs]
abbrev ratD (n d : Int) : D := aggD (ratC n d)
abbrev rratC (s : Bool) (b : List Nat) (t : Bool) (c : List Nat) : List D := [isD (.bool s), rawD b, isD (.bool t), rawD c]
abbrev rratD (s : Bool) (b : List Nat) (t : Bool) (c : List Nat) : D := aggD (rratC s b t c)
theorem le_rat {n d n' d' : Int} (h : n = n') (k : d = d') : Le (ratD n d) (ratD n' d') := by subst h k; exact Le.refl _
theorem leC_rat0 : LeAll [isD (.bool false), isD (.slice none 0 0), isD (.bool false), isD (.slice none 0 0)] (ratC 0 0) := by
  have h : Le (isD (.slice none 0 0)) (bytD (0 : Int).natAbs) := by
    have : (Nm.dg 256 (0 : Int).natAbs).reverse = [] := by rw [show (0 : Int).natAbs = 0 from rfl, Nm.dg_zero]; rfl
    unfold bytD
    rw [this]
    exact Le.nil_sl
  exact ⟨Le.refl _, h, Le.refl _, h, trivial⟩
theorem le_rat0 : Le (aggD [isD (.bool false), isD (.slice none 0 0), isD (.bool false), isD (.slice none 0 0)]) (ratD 0 0) := Le.agg leC_rat0
theorem bldR0 : Bld Try.prog 54 [] [] [isD (.bool false), isD (.slice none 0 0), isD (.bool false), isD (.slice none 0 0)] := fun L w vs h => by
  obtain rfl := all0 h
  exact ⟨[.bool false, .slice none 0 0, .bool false, .slice none 0 0], ⟨rfl, rfl, rfl, rfl, trivial⟩, fun w' => by kernel_rfl⟩
theorem bldR2 {d e f g : D} : Bld Try.prog 54 [0, 1] [aggD [d, e], aggD [f, g]] [d, e, f, g] := fun L w vs h => by
  obtain ⟨u, v, rfl, hu, hv⟩ := all2 h
  obtain ⟨a, b, rfl, h1, h2⟩ := agg2 hu
  obtain ⟨a', b', rfl, h3, h4⟩ := agg2 hv
  exact ⟨[a, b, a', b'], ⟨h1, h2, h3, h4, trivial⟩, fun w' => by kernel_rfl⟩
/-- Which Ratios are valid. -/
def okB (n d : Int) : Bool := decide (0 < d) && decide (Nat.gcd n.natAbs d.natAbs = 1)
def toZ (s : Bool) (b : List Nat) : Int := sgn s (valL b.reverse)
def rvld (s : Bool) (b : List Nat) (t : Bool) (c : List Nat) : Bool := vld s b && (vld t c && okB (toZ s b) (toZ t c))
structure Good (n d : Int) : Prop where
  hn : n.natAbs < big512
  hd : d.natAbs < big512
  pos : 0 < d
  g : Nat.gcd n.natAbs d.natAbs = 1
theorem valL_dg : ∀ (n X : Nat), X ≤ n → valL (Nm.dg 256 X) = X
  | 0, X, h => by
    obtain rfl : X = 0 := by omega
    rw [Nm.dg_zero]; rfl
  | n + 1, X, h => by
    by_cases h0 : X = 0
    · subst h0; rw [Nm.dg_zero]; rfl
    · rw [Nm.dg_pos (by decide) h0]
      simp only [valL]
      rw [valL_dg n (X / 256) (by omega)]
      omega
theorem toZ_int (n : Int) : toZ (decide (n < 0)) (Nm.dg 256 n.natAbs).reverse = n := by
  unfold toZ
  rw [List.reverse_reverse, valL_dg _ _ (Nat.le_refl _)]
  unfold sgn
  by_cases h : n < 0
  · rw [decide_eq_true h, if_pos rfl]; omega
  · rw [decide_eq_false h, if_neg (by decide)]; omega
theorem rvld_int {n d : Int} (hn : n.natAbs < big512) (hd : d.natAbs < big512) : rvld (decide (n < 0)) (Nm.dg 256 n.natAbs).reverse (decide (d < 0)) (Nm.dg 256 d.natAbs).reverse = okB n d := by
  unfold rvld
  rw [vld_int hn, vld_int hd, toZ_int, toZ_int]
  rfl
theorem Good.ok {n d : Int} (h : Good n d) : okB n d = true := by unfold okB; rw [decide_eq_true h.pos, decide_eq_true h.g]; rfl
theorem Good.rv {n d : Int} (h : Good n d) : rvld (decide (n < 0)) (Nm.dg 256 n.natAbs).reverse (decide (d < 0)) (Nm.dg 256 d.natAbs).reverse = true := by rw [rvld_int h.hn h.hd, h.ok]
theorem Good.d0 {n d : Int} (h : Good n d) : d ≠ 0 := by have := h.pos; omega
theorem rvld_out {s t : Bool} {b c : List Nat} (hb : ∀ d ∈ b, d < 256) (hc : ∀ d ∈ c, d < 256) (hv : rvld s b t c = true) : ∃ n d : Int, Good n d ∧ s = decide (n < 0) ∧ b = (Nm.dg 256 n.natAbs).reverse ∧ t = decide (d < 0) ∧ c = (Nm.dg 256 d.natAbs).reverse := by
  unfold rvld at hv
  simp only [Bool.and_eq_true] at hv
  obtain ⟨h1, h2, h3⟩ := hv
  obtain ⟨n, hn, rfl, rfl⟩ := vld_out hb h1
  obtain ⟨d, hd, rfl, rfl⟩ := vld_out hc h2
  rw [toZ_int, toZ_int] at h3
  unfold okB at h3
  simp only [Bool.and_eq_true, decide_eq_true_eq] at h3
  exact ⟨n, d, ⟨hn, hd, h3.1, h3.2⟩, rfl, rfl, rfl, rfl⟩
/-- Bytes that came in. -/
structure Byt (b c : List Nat) : Prop where
  l : ∀ d ∈ b, d < 256
  r : ∀ d ∈ c, d < 256
theorem cmpZ_eq0 {x y : Int} : cmpZ x y = 0 ↔ x = y := by
  unfold cmpZ
  by_cases h : x < y
  · rw [if_pos h]; omega
  · rw [if_neg h]
    by_cases h2 : x = y
    · rw [if_pos h2]; simp [h2]
    · rw [if_neg h2]; simp [h2]
theorem sign_le {d : Int} (h : ¬ 0 < d) : d.sign ≤ 0 := by
  rcases Int.lt_or_eq_of_le (Int.not_lt.1 h) with h | h
  · rw [Int.sign_eq_neg_one_of_neg h]; decide
  · rw [h]; decide
theorem sign_pos {d : Int} (h : 0 < d) : d.sign = 1 := Int.sign_eq_one_of_pos h
set_option maxHeartbeats 4000000 in
set_option maxRecDepth 100000 in
theorem rv_1 {s t : Bool} {b c : List Nat} (h : vld t c = false) : Con Try.prog 75 [rratD s b t c] (boolD false) := by
  refine con_of Try.func75 (by kernel_rfl) rfl (by kernel_rfl) fun base w0 => ?_
  refine SW.seq ?_
  refine SW.region ?_
  refine SWl.ef (S := []) (Ef.boxA rfl rfl) ?_
  rintro _ ⟨g1, rfl⟩
  refine SWl.rd rfl (Rd.assign rfl) ?_
  refine SWl.nil ?_
  refine SN.then ?_
  refine SW.seq ?_
  refine SW.seq ?_
  refine SW.region ?_
  refine SWl.rd rfl (Rd.fieldAddr (n := 2) rfl (by kernel_rfl)) ?_
  refine SWl.rd rfl (Rd.loadA 0 2 rfl rfl (by kernel_rfl) rfl trivial) ?_
  refine SWl.ef (S := []) (Ef.call (con_signB h) rfl ⟨Le.refl _, trivial⟩ rfl) ?_
  rintro _ rfl
  refine SWl.rd rfl (Rd.leq rfl rfl) ?_
  refine SWl.nil ?_
  refine SN.then ?_
  refine SW.condT rfl (by decide) ?_
  refine SW.seq ?_
  refine SW.region ?_
  refine SWl.rd rfl (Rd.assign rfl) ?_
  refine SWl.nil ?_
  refine SN.then ?_
  refine SW.ret (fn := Try.f75) (fun _ _ h => h) (Rs.one rfl (ResV.tmp rfl))
set_option maxHeartbeats 4000000 in
set_option maxRecDepth 100000 in
theorem rv_2 {s : Bool} {b : List Nat} {d : Int} (hd : d.natAbs < big512) (h : ¬ 0 < d) : Con Try.prog 75 [aggD (rintC s b ++ intC d)] (boolD false) := by
  refine con_of Try.func75 (by kernel_rfl) rfl (by kernel_rfl) fun base w0 => ?_
  refine SW.seq ?_
  refine SW.region ?_
  refine SWl.ef (S := []) (Ef.boxA rfl rfl) ?_
  rintro _ ⟨g1, rfl⟩
  refine SWl.rd rfl (Rd.assign rfl) ?_
  refine SWl.nil ?_
  refine SN.then ?_
  refine SW.seq ?_
  refine SW.seq ?_
  refine SW.region ?_
  refine SWl.rd rfl (Rd.fieldAddr (n := 2) rfl (by kernel_rfl)) ?_
  refine SWl.rd rfl (Rd.loadA 0 2 rfl rfl (by kernel_rfl) rfl trivial) ?_
  refine SWl.ef (S := []) (Ef.call (con_sign hd) rfl ⟨Le.refl _, trivial⟩ rfl) ?_
  rintro _ rfl
  refine SWl.rd rfl (Rd.leq rfl rfl) ?_
  refine SWl.nil ?_
  refine SN.then ?_
  refine SW.condT rfl (decide_eq_true (sign_le h)) ?_
  refine SW.seq ?_
  refine SW.region ?_
  refine SWl.rd rfl (Rd.assign rfl) ?_
  refine SWl.nil ?_
  refine SN.then ?_
  refine SW.ret (fn := Try.f75) (fun _ _ h => h) (Rs.one rfl (ResV.tmp rfl))
set_option maxHeartbeats 4000000 in
set_option maxRecDepth 100000 in
theorem rv_3 {s : Bool} {b : List Nat} {d : Int} (hv : vld s b = false) (hd : d.natAbs < big512) (h : 0 < d) : Con Try.prog 75 [aggD (rintC s b ++ intC d)] (boolD false) := by
  refine con_of Try.func75 (by kernel_rfl) rfl (by kernel_rfl) fun base w0 => ?_
  refine SW.seq ?_
  refine SW.region ?_
  refine SWl.ef (S := []) (Ef.boxA rfl rfl) ?_
  rintro _ ⟨g1, rfl⟩
  refine SWl.rd rfl (Rd.assign rfl) ?_
  refine SWl.nil ?_
  refine SN.then ?_
  refine SW.seq ?_
  refine SW.seq ?_
  refine SW.region ?_
  refine SWl.rd rfl (Rd.fieldAddr (n := 2) rfl (by kernel_rfl)) ?_
  refine SWl.rd rfl (Rd.loadA 0 2 rfl rfl (by kernel_rfl) rfl trivial) ?_
  refine SWl.ef (S := []) (Ef.call (con_signOf hd (sign_pos h)) rfl ⟨Le.refl _, trivial⟩ rfl) ?_
  rintro _ rfl
  refine SWl.rd rfl (Rd.leq rfl rfl) ?_
  refine SWl.nil ?_
  refine SN.then ?_
  refine SW.condF rfl (by decide) ?_
  refine SW.skip ?_
  refine SN.then ?_
  refine SW.seq ?_
  refine SW.region ?_
  refine SWl.rd rfl (Rd.fieldAddr (n := 0) rfl (by kernel_rfl)) ?_
  refine SWl.rd rfl (Rd.loadA 0 2 rfl rfl (by kernel_rfl) rfl trivial) ?_
  refine SWl.rd rfl (Rd.fieldAddr (n := 2) rfl (by kernel_rfl)) ?_
  refine SWl.rd rfl (Rd.loadA 0 2 rfl rfl (by kernel_rfl) rfl trivial) ?_
  refine SWl.ef (S := []) (Ef.call (con_gcdB (by rw [hv, Bool.false_and])) rfl ⟨Le.refl _, Le.refl _, trivial⟩ rfl) ?_
  rintro _ rfl
  refine SWl.rd rfl (Rd.move rfl) ?_
  refine SWl.rd rfl (Rd.extract rfl rfl) ?_
  refine SWl.rd rfl (Rd.extract rfl rfl) ?_
  refine SWl.ef (S := []) (Ef.alloc (zs := [.bool false, .slice none 0 0]) (by kernel_rfl) rfl) ?_
  rintro _ ⟨g3, rfl⟩
  refine SWl.ef (S := [_]) (Ef.storeA 1 rfl rfl rfl (by kernel_rfl) rfl (List.mem_singleton.2 rfl)) ?_
  rintro _ rfl
  refine SWl.rd rfl (Rd.assign rfl) ?_
  refine SWl.nil ?_
  refine SN.then ?_
  refine SW.seq ?_
  refine SW.draw [] (.r 0 (.r 1 (.r 2 (.r 3 (.n 4 (.n 5 (.r 6 (.r 7 (.r 8 .fin))) .no) .no))))) (by kernel_rfl) (by kernel_rfl) (fun d _ _ _ _ h => by cases d <;> exact h) ?_
  refine SWz.rd (i := 0) rfl rfl (Rd.move rfl) ?_
  refine SWz.rd (i := 1) rfl rfl (Rd.eqi rfl rfl) ?_
  refine SWz.rd (i := 2) rfl rfl (Rd.move rfl) ?_
  refine SWz.off (i := 3) rfl rfl rfl (by decide) rfl rfl ?_
  refine SWz.offn (i := 4) rfl rfl rfl (by decide) rfl rfl ?_ SWz.no
  refine SWz.offn (i := 5) rfl rfl rfl (by decide) rfl rfl ?_ SWz.no
  refine SWz.off (i := 6) rfl rfl rfl (by decide) rfl rfl ?_
  refine SWz.rd (i := 7) rfl rfl (Rd.pickN rfl (by decide) rfl) ?_
  refine SWz.rd (i := 8) rfl rfl (Rd.assign rfl) ?_
  refine SWz.nil ?_
  refine SN.then ?_
  refine SW.ret (fn := Try.f75) (fun _ _ h => h) (Rs.one rfl (ResV.tmp rfl))
set_option maxHeartbeats 4000000 in
set_option maxRecDepth 100000 in
theorem rv_4 {n d : Int} (hn : n.natAbs < big512) (hd : d.natAbs < big512) (h : 0 < d) : Con Try.prog 75 [ratD n d] (boolD (decide (Nat.gcd n.natAbs d.natAbs = 1))) := by
  have hg : (gcdZ n d).natAbs < big512 := Nat.lt_of_le_of_lt (gcd_le (by omega)) hd
  refine con_of Try.func75 (by kernel_rfl) rfl (by kernel_rfl) fun base w0 => ?_
  refine SW.seq ?_
  refine SW.region ?_
  refine SWl.ef (S := []) (Ef.boxA rfl rfl) ?_
  rintro _ ⟨g1, rfl⟩
  refine SWl.rd rfl (Rd.assign rfl) ?_
  refine SWl.nil ?_
  refine SN.then ?_
  refine SW.seq ?_
  refine SW.seq ?_
  refine SW.region ?_
  refine SWl.rd rfl (Rd.fieldAddr (n := 2) rfl (by kernel_rfl)) ?_
  refine SWl.rd rfl (Rd.loadA 0 2 rfl rfl (by kernel_rfl) rfl trivial) ?_
  refine SWl.ef (S := []) (Ef.call (con_signOf hd (sign_pos h)) rfl ⟨Le.refl _, trivial⟩ rfl) ?_
  rintro _ rfl
  refine SWl.rd rfl (Rd.leq rfl rfl) ?_
  refine SWl.nil ?_
  refine SN.then ?_
  refine SW.condF rfl (by decide) ?_
  refine SW.skip ?_
  refine SN.then ?_
  refine SW.seq ?_
  refine SW.region ?_
  refine SWl.rd rfl (Rd.fieldAddr (n := 0) rfl (by kernel_rfl)) ?_
  refine SWl.rd rfl (Rd.loadA 0 2 rfl rfl (by kernel_rfl) rfl trivial) ?_
  refine SWl.rd rfl (Rd.fieldAddr (n := 2) rfl (by kernel_rfl)) ?_
  refine SWl.rd rfl (Rd.loadA 0 2 rfl rfl (by kernel_rfl) rfl trivial) ?_
  refine SWl.ef (S := []) (Ef.call (con_gcd hn hd) rfl ⟨Le.refl _, Le.refl _, trivial⟩ rfl) ?_
  rintro _ rfl
  refine SWl.rd rfl (Rd.move rfl) ?_
  refine SWl.rd rfl (Rd.extract rfl rfl) ?_
  refine SWl.rd rfl (Rd.extract rfl rfl) ?_
  refine SWl.ef (S := []) (Ef.alloc (zs := [.bool false, .slice none 0 0]) (by kernel_rfl) rfl) ?_
  rintro _ ⟨g3, rfl⟩
  refine SWl.ef (S := [_]) (Ef.storeA 1 rfl rfl rfl (by kernel_rfl) rfl (List.mem_singleton.2 rfl)) ?_
  rintro _ rfl
  refine SWl.rd rfl (Rd.assign rfl) ?_
  refine SWl.nil ?_
  refine SN.then ?_
  refine SW.seq ?_
  refine SW.draw [] (.r 0 (.r 1 (.r 2 (.r 3 (.n 4 (.n 5 (.r 6 (.r 7 (.r 8 .fin))) .no) .no))))) (by kernel_rfl) (by kernel_rfl) (fun d _ _ _ _ h => by cases d <;> exact h) ?_
  refine SWz.rd (i := 0) rfl rfl (Rd.move rfl) ?_
  refine SWz.rd (i := 1) rfl rfl (Rd.eqi rfl rfl) ?_
  refine SWz.rd (i := 2) rfl rfl (Rd.move rfl) ?_
  refine SWz.rdg (i := 3) rfl rfl rfl (by decide) rfl rfl (Rd.loadA 1 2 rfl rfl (by kernel_rfl) rfl trivial) ?_
  refine SWz.efng (i := 4) rfl rfl rfl (by decide) rfl (Ef.call (con_of_ (by decide) (by decide)) rfl ⟨Le.refl _, trivial⟩ rfl) ?_ SWz.no
  rintro _ rfl
  refine SWz.efng (i := 5) rfl rfl rfl (by decide) rfl (Ef.call (con_compare hg one512) rfl ⟨Le.refl _, Le.refl _, trivial⟩ rfl) ?_ SWz.no
  rintro _ rfl
  refine SWz.rdg (i := 6) rfl rfl rfl (by decide) rfl rfl (Rd.eqi rfl rfl) ?_
  refine SWz.rd (i := 7) rfl rfl (Rd.pickY rfl (by decide) rfl) ?_
  refine SWz.rd (i := 8) rfl rfl (Rd.assign rfl) ?_
  refine SWz.nil ?_
  refine SN.then ?_
  refine SW.ret (fn := Try.f75) (fun _ _ h => h) (Rs.le (Rs.one rfl (ResV.tmp rfl)) ?_)
  exact le_v (congrArg Value.bool (decide_eq_decide.2 (cmpZ_eq0.trans (by unfold gcdZ; omega))))
theorem con_rvalid {s t : Bool} {b c : List Nat} (hB : Byt b c) : Con Try.prog 75 [rratD s b t c] (boolD (rvld s b t c)) := by
  cases h2 : vld t c
  · have e : rvld s b t c = false := by unfold rvld; rw [h2, Bool.false_and, Bool.and_false]
    rw [e]
    exact rv_1 h2
  · obtain ⟨d, hd, rfl, rfl⟩ := vld_out hB.r h2
    by_cases hp : 0 < d
    · cases h1 : vld s b
      · have e : rvld s b (decide (d < 0)) (Nm.dg 256 d.natAbs).reverse = false := by unfold rvld; rw [h1, Bool.false_and]
        rw [e]
        exact rv_3 h1 hd hp
      · obtain ⟨n, hn, rfl, rfl⟩ := vld_out hB.l h1
        rw [rvld_int hn hd]
        have h := rv_4 hn hd hp
        have e : okB n d = decide (Nat.gcd n.natAbs d.natAbs = 1) := by unfold okB; rw [decide_eq_true hp, Bool.true_and]
        rw [e]
        exact h
    · have e : rvld s b (decide (d < 0)) (Nm.dg 256 d.natAbs).reverse = false := by
        unfold rvld okB
        rw [toZ_int, decide_eq_false hp, Bool.false_and, Bool.and_false, Bool.and_false]
      rw [e]
      exact rv_2 hd hp
theorem con_rvalT {n d : Int} (h : Good n d) : Con Try.prog 75 [ratD n d] (boolD true) :=
  (rv_4 h.hn h.hd h.pos).mono ⟨Le.refl _, trivial⟩ (Le.is (by rw [decide_eq_true h.g]))
theorem con_rvalF {s t : Bool} {b c : List Nat} (hB : Byt b c) (h : rvld s b t c = false) : Con Try.prog 75 [rratD s b t c] (boolD false) :=
  (con_rvalid hB).mono ⟨Le.refl _, trivial⟩ (Le.is (by rw [h]))
set_option maxHeartbeats 4000000 in
set_option maxRecDepth 100000 in
theorem rvR_1 {s t : Bool} {b c : List Nat} (h : vld s b = false) : Con Try.prog 59 [rratD s b t c] (boolD false) := by
  refine con_of Try.func59 (by kernel_rfl) rfl (by kernel_rfl) fun base w0 => ?_
  refine SW.seq ?_
  refine SW.region ?_
  refine SWl.ef (S := []) (Ef.boxA rfl rfl) ?_
  rintro _ ⟨g1, rfl⟩
  refine SWl.rd rfl (Rd.assign rfl) ?_
  refine SWl.nil ?_
  refine SN.then ?_
  refine SW.seq ?_
  refine SW.region ?_
  refine SWl.rd rfl (Rd.fieldAddr (n := 0) rfl (by kernel_rfl)) ?_
  refine SWl.rd rfl (Rd.loadA 0 2 rfl rfl (by kernel_rfl) rfl trivial) ?_
  refine SWl.ef (S := []) (Ef.call (con_validRF h) rfl ⟨Le.refl _, trivial⟩ rfl) ?_
  rintro _ rfl
  refine SWl.rd rfl (Rd.move rfl) ?_
  refine SWl.off rfl rfl (rfl) rfl rfl ?_
  refine SWl.off rfl rfl (rfl) rfl rfl ?_
  refine SWl.off rfl rfl (rfl) rfl rfl ?_
  refine SWl.rd rfl (Rd.pickN rfl (rfl) rfl) ?_
  refine SWl.rd rfl (Rd.move rfl) ?_
  refine SWl.off rfl rfl (rfl) rfl rfl ?_
  refine SWl.off rfl rfl (rfl) rfl rfl ?_
  refine SWl.off rfl rfl (rfl) rfl rfl ?_
  refine SWl.off rfl rfl (rfl) rfl rfl ?_
  refine SWl.rd rfl (Rd.pickN rfl (rfl) rfl) ?_
  refine SWl.rd rfl (Rd.move rfl) ?_
  refine SWl.off rfl rfl (rfl) rfl rfl ?_
  refine SWl.off rfl rfl (rfl) rfl rfl ?_
  refine SWl.off rfl rfl (rfl) rfl rfl ?_
  refine SWl.off rfl rfl (rfl) rfl rfl ?_
  refine SWl.off rfl rfl (rfl) rfl rfl ?_
  refine SWl.off rfl rfl (rfl) rfl rfl ?_
  refine SWl.off rfl rfl (rfl) rfl rfl ?_
  refine SWl.rd rfl (Rd.pickN rfl (rfl) rfl) ?_
  refine SWl.rd rfl (Rd.move rfl) ?_
  refine SWl.off rfl rfl (rfl) rfl rfl ?_
  refine SWl.off rfl rfl (rfl) rfl rfl ?_
  refine SWl.off rfl rfl (rfl) rfl rfl ?_
  refine SWl.off rfl rfl (rfl) rfl rfl ?_
  refine SWl.off rfl rfl (rfl) rfl rfl ?_
  refine SWl.rd rfl (Rd.pickN rfl (rfl) rfl) ?_
  refine SWl.rd rfl (Rd.assign rfl) ?_
  refine SWl.nil ?_
  refine SN.then ?_
  refine SW.ret (fn := Try.f59) (fun _ _ h => h) (Rs.one rfl (ResV.tmp rfl))
set_option maxHeartbeats 4000000 in
set_option maxRecDepth 100000 in
theorem rvR_2 {s t : Bool} {b c : List Nat} (h1 : vld s b = true) (h : vld t c = false) : Con Try.prog 59 [rratD s b t c] (boolD false) := by
  refine con_of Try.func59 (by kernel_rfl) rfl (by kernel_rfl) fun base w0 => ?_
  refine SW.seq ?_
  refine SW.region ?_
  refine SWl.ef (S := []) (Ef.boxA rfl rfl) ?_
  rintro _ ⟨g1, rfl⟩
  refine SWl.rd rfl (Rd.assign rfl) ?_
  refine SWl.nil ?_
  refine SN.then ?_
  refine SW.seq ?_
  refine SW.region ?_
  refine SWl.rd rfl (Rd.fieldAddr (n := 0) rfl (by kernel_rfl)) ?_
  refine SWl.rd rfl (Rd.loadA 0 2 rfl rfl (by kernel_rfl) rfl trivial) ?_
  refine SWl.ef (S := []) (Ef.call (con_validR _ _) rfl ⟨Le.refl _, trivial⟩ rfl) ?_
  rintro _ rfl
  refine SWl.rd rfl (Rd.move rfl) ?_
  refine SWl.rdg rfl rfl (h1) rfl rfl (Rd.fieldAddr (n := 2) rfl (by kernel_rfl)) ?_
  refine SWl.rdg rfl rfl (h1) rfl rfl (Rd.loadA 0 2 rfl rfl (by kernel_rfl) rfl trivial) ?_
  refine SWl.efg (S := []) rfl rfl (h1) rfl (Ef.call (con_validRF h) rfl ⟨Le.refl _, trivial⟩ rfl) ?_
  rintro _ rfl
  refine SWl.rd rfl (Rd.pickY rfl (h1) rfl) ?_
  refine SWl.rd rfl (Rd.move rfl) ?_
  refine SWl.off rfl rfl (rfl) rfl rfl ?_
  refine SWl.off rfl rfl (rfl) rfl rfl ?_
  refine SWl.off rfl rfl (rfl) rfl rfl ?_
  refine SWl.off rfl rfl (rfl) rfl rfl ?_
  refine SWl.rd rfl (Rd.pickN rfl (rfl) rfl) ?_
  refine SWl.rd rfl (Rd.move rfl) ?_
  refine SWl.off rfl rfl (rfl) rfl rfl ?_
  refine SWl.off rfl rfl (rfl) rfl rfl ?_
  refine SWl.off rfl rfl (rfl) rfl rfl ?_
  refine SWl.off rfl rfl (rfl) rfl rfl ?_
  refine SWl.off rfl rfl (rfl) rfl rfl ?_
  refine SWl.off rfl rfl (rfl) rfl rfl ?_
  refine SWl.off rfl rfl (rfl) rfl rfl ?_
  refine SWl.rd rfl (Rd.pickN rfl (rfl) rfl) ?_
  refine SWl.rd rfl (Rd.move rfl) ?_
  refine SWl.off rfl rfl (rfl) rfl rfl ?_
  refine SWl.off rfl rfl (rfl) rfl rfl ?_
  refine SWl.off rfl rfl (rfl) rfl rfl ?_
  refine SWl.off rfl rfl (rfl) rfl rfl ?_
  refine SWl.off rfl rfl (rfl) rfl rfl ?_
  refine SWl.rd rfl (Rd.pickN rfl (rfl) rfl) ?_
  refine SWl.rd rfl (Rd.assign rfl) ?_
  refine SWl.nil ?_
  refine SN.then ?_
  refine SW.ret (fn := Try.f59) (fun _ _ h => h) (Rs.one rfl (ResV.tmp rfl))
set_option maxHeartbeats 4000000 in
set_option maxRecDepth 100000 in
theorem rvR_3 {n d : Int} (hn : n.natAbs < big512) (hd : d.natAbs < big512) (h : d < 0) : Con Try.prog 59 [ratD n d] (boolD false) := by
  refine con_of Try.func59 (by kernel_rfl) rfl (by kernel_rfl) fun base w0 => ?_
  refine SW.seq ?_
  refine SW.region ?_
  refine SWl.ef (S := []) (Ef.boxA rfl rfl) ?_
  rintro _ ⟨g1, rfl⟩
  refine SWl.rd rfl (Rd.assign rfl) ?_
  refine SWl.nil ?_
  refine SN.then ?_
  refine SW.seq ?_
  refine SW.region ?_
  refine SWl.rd rfl (Rd.fieldAddr (n := 0) rfl (by kernel_rfl)) ?_
  refine SWl.rd rfl (Rd.loadA 0 2 rfl rfl (by kernel_rfl) rfl trivial) ?_
  refine SWl.ef (S := []) (Ef.call (con_validRT (by assumption)) rfl ⟨Le.refl _, trivial⟩ rfl) ?_
  rintro _ rfl
  refine SWl.rd rfl (Rd.move rfl) ?_
  refine SWl.rdg rfl rfl (rfl) rfl rfl (Rd.fieldAddr (n := 2) rfl (by kernel_rfl)) ?_
  refine SWl.rdg rfl rfl (rfl) rfl rfl (Rd.loadA 0 2 rfl rfl (by kernel_rfl) rfl trivial) ?_
  refine SWl.efg (S := []) rfl rfl (rfl) rfl (Ef.call (con_validRT (by assumption)) rfl ⟨Le.refl _, trivial⟩ rfl) ?_
  rintro _ rfl
  refine SWl.rd rfl (Rd.pickY rfl (rfl) rfl) ?_
  refine SWl.rd rfl (Rd.move rfl) ?_
  refine SWl.rdg rfl rfl (rfl) rfl rfl (Rd.fieldAddr (n := 2) rfl (by kernel_rfl)) ?_
  refine SWl.rdg rfl rfl (rfl) rfl rfl (Rd.fieldAddr (n := 0) rfl (by kernel_rfl)) ?_
  refine SWl.rdg rfl rfl (rfl) rfl rfl (Rd.loadB 0 rfl rfl rfl (by kernel_rfl) trivial) ?_
  refine SWl.rdg rfl rfl (rfl) rfl rfl (Rd.not rfl) ?_
  refine SWl.rd rfl (Rd.pickY rfl (rfl) rfl) ?_
  refine SWl.rd rfl (Rd.move rfl) ?_
  refine SWl.off rfl rfl (by simp [h]) rfl rfl ?_
  refine SWl.off rfl rfl (by simp [h]) rfl rfl ?_
  refine SWl.off rfl rfl (by simp [h]) rfl rfl ?_
  refine SWl.off rfl rfl (by simp [h]) rfl rfl ?_
  refine SWl.off rfl rfl (by simp [h]) rfl rfl ?_
  refine SWl.off rfl rfl (by simp [h]) rfl rfl ?_
  refine SWl.off rfl rfl (by simp [h]) rfl rfl ?_
  refine SWl.rd rfl (Rd.pickN rfl (by simp [h]) rfl) ?_
  refine SWl.rd rfl (Rd.move rfl) ?_
  refine SWl.off rfl rfl (rfl) rfl rfl ?_
  refine SWl.off rfl rfl (rfl) rfl rfl ?_
  refine SWl.off rfl rfl (rfl) rfl rfl ?_
  refine SWl.off rfl rfl (rfl) rfl rfl ?_
  refine SWl.off rfl rfl (rfl) rfl rfl ?_
  refine SWl.rd rfl (Rd.pickN rfl (rfl) rfl) ?_
  refine SWl.rd rfl (Rd.assign rfl) ?_
  refine SWl.nil ?_
  refine SN.then ?_
  refine SW.ret (fn := Try.f59) (fun _ _ h => h) (Rs.one rfl (ResV.tmp rfl))
set_option maxHeartbeats 4000000 in
set_option maxRecDepth 100000 in
theorem rvR_4 {n d : Int} (hn : n.natAbs < big512) (hd : d.natAbs < big512) (h : ¬ d < 0) : Con Try.prog 59 [ratD n d] (boolD (okB n d)) := by
  refine con_of Try.func59 (by kernel_rfl) rfl (by kernel_rfl) fun base w0 => ?_
  refine SW.seq ?_
  refine SW.region ?_
  refine SWl.ef (S := []) (Ef.boxA rfl rfl) ?_
  rintro _ ⟨g1, rfl⟩
  refine SWl.rd rfl (Rd.assign rfl) ?_
  refine SWl.nil ?_
  refine SN.then ?_
  refine SW.seq ?_
  refine SW.region ?_
  refine SWl.rd rfl (Rd.fieldAddr (n := 0) rfl (by kernel_rfl)) ?_
  refine SWl.rd rfl (Rd.loadA 0 2 rfl rfl (by kernel_rfl) rfl trivial) ?_
  refine SWl.ef (S := []) (Ef.call (con_validRT (by assumption)) rfl ⟨Le.refl _, trivial⟩ rfl) ?_
  rintro _ rfl
  refine SWl.rd rfl (Rd.move rfl) ?_
  refine SWl.rdg rfl rfl (rfl) rfl rfl (Rd.fieldAddr (n := 2) rfl (by kernel_rfl)) ?_
  refine SWl.rdg rfl rfl (rfl) rfl rfl (Rd.loadA 0 2 rfl rfl (by kernel_rfl) rfl trivial) ?_
  refine SWl.efg (S := []) rfl rfl (rfl) rfl (Ef.call (con_validRT (by assumption)) rfl ⟨Le.refl _, trivial⟩ rfl) ?_
  rintro _ rfl
  refine SWl.rd rfl (Rd.pickY rfl (rfl) rfl) ?_
  refine SWl.rd rfl (Rd.move rfl) ?_
  refine SWl.rdg rfl rfl (rfl) rfl rfl (Rd.fieldAddr (n := 2) rfl (by kernel_rfl)) ?_
  refine SWl.rdg rfl rfl (rfl) rfl rfl (Rd.fieldAddr (n := 0) rfl (by kernel_rfl)) ?_
  refine SWl.rdg rfl rfl (rfl) rfl rfl (Rd.loadB 0 rfl rfl rfl (by kernel_rfl) trivial) ?_
  refine SWl.rdg rfl rfl (rfl) rfl rfl (Rd.not rfl) ?_
  refine SWl.rd rfl (Rd.pickY rfl (rfl) rfl) ?_
  refine SWl.rd rfl (Rd.move rfl) ?_
  refine SWl.rdg rfl rfl (by simp [h]) rfl rfl (Rd.fieldAddr (n := 0) rfl (by kernel_rfl)) ?_
  refine SWl.rdg rfl rfl (by simp [h]) rfl rfl (Rd.loadA 0 2 rfl rfl (by kernel_rfl) rfl trivial) ?_
  refine SWl.rdg rfl rfl (by simp [h]) rfl rfl (Rd.fieldAddr (n := 2) rfl (by kernel_rfl)) ?_
  refine SWl.rdg rfl rfl (by simp [h]) rfl rfl (Rd.loadA 0 2 rfl rfl (by kernel_rfl) rfl trivial) ?_
  refine SWl.efg (S := []) rfl rfl (by simp [h]) rfl (Ef.call (con_commonR (b2_512 hn) (b2_512 hd)) rfl ⟨Le.refl _, Le.refl _, trivial⟩ rfl) ?_
  rintro _ rfl
  refine SWl.efg (S := []) rfl rfl (by simp [h]) rfl (Ef.call (con_ofR (by decide) (by decide)) rfl ⟨Le.refl _, trivial⟩ rfl) ?_
  rintro _ rfl
  refine SWl.efg (S := []) rfl rfl (by simp [h]) rfl (Ef.call (con_same) rfl ⟨Le.refl _, Le.refl _, trivial⟩ rfl) ?_
  rintro _ rfl
  refine SWl.rd rfl (Rd.pickY rfl (by simp [h]) rfl) ?_
  refine SWl.rd rfl (Rd.move rfl) ?_
  refine SWl.split 26 rfl (fun hb26 => ?_) (fun hb26 => ?_)
  · skip
    refine SWl.rdg rfl rfl (hb26) rfl rfl (Rd.fieldAddr (n := 2) rfl (by kernel_rfl)) ?_
    refine SWl.rdg rfl rfl (hb26) rfl rfl (Rd.fieldAddr (n := 1) rfl (by kernel_rfl)) ?_
    refine SWl.rdg rfl rfl (hb26) rfl rfl (Rd.loadB 0 rfl rfl rfl (by kernel_rfl) trivial) ?_
    refine SWl.rdg rfl rfl (hb26) rfl rfl (Rd.len (e := 5) rfl (by kernel_rfl)) ?_
    refine SWl.rdg rfl rfl (hb26) rfl rfl (Rd.gtr rfl rfl) ?_
    refine SWl.rd rfl (Rd.pickY rfl (hb26) rfl) ?_
    refine SWl.rd rfl (Rd.assign rfl) ?_
    refine SWl.nil ?_
    refine SN.then ?_
    refine SW.ret (fn := Try.f59) (fun _ _ h => h) (Rs.le (Rs.one rfl (ResV.tmp rfl)) ?_)
    have h1 : Nat.gcd n.natAbs d.natAbs = 1 := by have := of_decide_eq_true hb26; unfold gcdZ at this; omega
    refine le_v (congrArg Value.bool ?_)
    unfold okB
    rw [decide_eq_true h1, Bool.and_true]
    exact decide_eq_decide.2 (by have := byt_len0 (x := d); omega)
  · skip
    refine SWl.off rfl rfl (hb26) rfl rfl ?_
    refine SWl.off rfl rfl (hb26) rfl rfl ?_
    refine SWl.off rfl rfl (hb26) rfl rfl ?_
    refine SWl.off rfl rfl (hb26) rfl rfl ?_
    refine SWl.off rfl rfl (hb26) rfl rfl ?_
    refine SWl.rd rfl (Rd.pickN rfl (hb26) rfl) ?_
    refine SWl.rd rfl (Rd.assign rfl) ?_
    refine SWl.nil ?_
    refine SN.then ?_
    refine SW.ret (fn := Try.f59) (fun _ _ h => h) (Rs.le (Rs.one rfl (ResV.tmp rfl)) ?_)
    have h1 : ¬ Nat.gcd n.natAbs d.natAbs = 1 := fun e => of_decide_eq_false hb26 (by unfold gcdZ; omega)
    refine le_v (congrArg Value.bool ?_)
    unfold okB
    rw [decide_eq_false h1, Bool.and_false]
theorem con_rvalidR {s t : Bool} {b c : List Nat} (hB : Byt b c) : Con Try.prog 59 [rratD s b t c] (boolD (rvld s b t c)) := by
  cases h1 : vld s b
  · have e : rvld s b t c = false := by unfold rvld; rw [h1, Bool.false_and]
    rw [e]
    exact rvR_1 h1
  · cases h2 : vld t c
    · have e : rvld s b t c = false := by unfold rvld; rw [h2, Bool.false_and, Bool.and_false]
      rw [e]
      exact rvR_2 h1 h2
    · obtain ⟨n, hn, rfl, rfl⟩ := vld_out hB.l h1
      obtain ⟨d, hd, rfl, rfl⟩ := vld_out hB.r h2
      rw [rvld_int hn hd]
      by_cases hp : d < 0
      · have e : okB n d = false := by unfold okB; rw [decide_eq_false (by omega), Bool.false_and]
        rw [e]
        exact rvR_3 hn hd hp
      · exact rvR_4 hn hd hp
theorem con_rvalRT {n d : Int} (h : Good n d) : Con Try.prog 59 [ratD n d] (boolD true) :=
  (rvR_4 h.hn h.hd (by have := h.pos; omega)).mono ⟨Le.refl _, trivial⟩ (Le.is (by rw [h.ok]))
theorem con_rvalRF {s t : Bool} {b c : List Nat} (hB : Byt b c) (h : rvld s b t c = false) : Con Try.prog 59 [rratD s b t c] (boolD false) :=
  (con_rvalidR hB).mono ⟨Le.refl _, trivial⟩ (Le.is (by rw [h]))
/-- Lowest terms. -/
def gz (n d : Int) : Int := if d < 0 then -gcdZ n d else gcdZ n d
def rn (n d : Int) : Int := dq n (gz n d)
def rd (n d : Int) : Int := dq d (gz n d)
theorem gz_abs (n d : Int) : (gz n d).natAbs = Nat.gcd n.natAbs d.natAbs := by
  unfold gz
  split
  · rw [Int.natAbs_neg, gcd_abs]
  · rw [gcd_abs]
theorem gz_ne (n : Int) {d : Int} (h : d ≠ 0) : gz n d ≠ 0 := fun e => by
  have h1 := gz_abs n d
  have h2 : 0 < Nat.gcd n.natAbs d.natAbs := Nat.gcd_pos_of_pos_right _ (by omega)
  rw [e] at h1
  simp at h1
  omega
theorem gz_le {n d : Int} (h : d ≠ 0) : (gz n d).natAbs ≤ d.natAbs := by rw [gz_abs]; exact Nat.gcd_le_right _ (by omega)
theorem con_validF {s : Bool} {b : List Nat} (h : vld s b = false) : Con Try.prog 40 [rintD s b] (boolD false) := (con_validB _ _).mono ⟨Le.refl _, trivial⟩ (Le.is (by rw [h]))
theorem sign_eq0 {x : Int} : x.sign = 0 ↔ x = 0 := Int.sign_eq_zero_iff_zero
theorem dq_one (x : Int) : dq x 1 = x := by
  have h1 := dq_dr (y := 1) x (by decide)
  have h2 := dr_abs (x := x) (y := 1) (by decide)
  have h3 : dr x 1 = 0 := by
    have : (1 : Int).natAbs = 1 := rfl
    omega
  omega
theorem Good.gz1 {n d : Int} (h : Good n d) : gz n d = 1 := by
  have h1 := h.pos
  unfold gz gcdZ
  rw [if_neg (by omega), h.g]
  rfl
theorem Good.rn {n d : Int} (h : Good n d) : rn n d = n := by unfold Sx.rn; rw [h.gz1, dq_one]
theorem Good.rd {n d : Int} (h : Good n d) : rd n d = d := by unfold Sx.rd; rw [h.gz1, dq_one]
theorem Good.one {n : Int} (hn : n.natAbs < big512) : Good n 1 := ⟨hn, one512, by decide, by simp⟩
theorem Good.neg {n d : Int} (h : Good n d) : Good (-n) d := ⟨by rw [Int.natAbs_neg]; exact h.hn, h.hd, h.pos, by rw [Int.natAbs_neg]; exact h.g⟩
theorem rn_abs {n d : Int} (hd : d ≠ 0) : (rn n d).natAbs ≤ n.natAbs := dq_abs (gz_ne n hd)
theorem rd_abs {n d : Int} (hd : d ≠ 0) : (rd n d).natAbs ≤ d.natAbs := dq_abs (gz_ne n hd)
set_option maxHeartbeats 4000000 in
set_option maxRecDepth 100000 in
theorem make_1 {s t : Bool} {b c : List Nat} (h : vld s b = false) : Con Try.prog 50 [rintD s b, rintD t c] (tupD [ratD 0 0, errD 2]) := by
  refine con_of Try.func50 (by kernel_rfl) rfl (by kernel_rfl) fun base w0 => ?_
  refine SW.seq ?_
  refine SW.region ?_
  refine SWl.ef (S := []) (Ef.boxA rfl rfl) ?_
  rintro _ ⟨g2, rfl⟩
  refine SWl.ef (S := []) (Ef.boxA rfl rfl) ?_
  rintro _ ⟨g3, rfl⟩
  refine SWl.ef (S := []) (Ef.alloc (zs := [.bool false, .slice none 0 0, .bool false, .slice none 0 0]) (by kernel_rfl) rfl) ?_
  rintro _ ⟨g4, rfl⟩
  refine SWl.rd rfl (Rd.assign rfl) ?_
  refine SWl.nil ?_
  refine SN.then ?_
  refine SW.seq ?_
  refine SW.seq ?_
  refine SW.region ?_
  refine SWl.rd rfl (Rd.loadA 0 2 rfl rfl (by kernel_rfl) rfl trivial) ?_
  refine SWl.ef (S := []) (Ef.call (con_validF h) rfl ⟨Le.refl _, trivial⟩ rfl) ?_
  rintro _ rfl
  refine SWl.rd rfl (Rd.not rfl) ?_
  refine SWl.rd rfl (Rd.move rfl) ?_
  refine SWl.off rfl rfl (rfl) rfl rfl ?_
  refine SWl.off rfl rfl (rfl) rfl rfl ?_
  refine SWl.off rfl rfl (rfl) rfl rfl ?_
  refine SWl.rd rfl (Rd.pickY rfl (rfl) rfl) ?_
  refine SWl.nil ?_
  refine SN.then ?_
  refine SW.condT rfl (rfl) ?_
  refine SW.seq ?_
  refine SW.region ?_
  refine SWl.rd rfl (Rd.build rfl rfl bldR0) ?_
  refine SWl.ef (S := [_]) (Ef.storeA 2 rfl rfl rfl (by kernel_rfl) rfl (List.mem_singleton.2 rfl)) ?_
  rintro _ rfl
  refine SWl.rd rfl (Rd.assign rfl) ?_
  refine SWl.nil ?_
  refine SN.then ?_
  refine SW.ret (fn := Try.f50) (fun _ _ h => h) (Rs.le (Rs.two rfl (ResV.cellA 2 rfl rfl (by kernel_rfl)) (ResV.tmp rfl)) ?_)
  exact Le.tup ⟨le_rat0, Le.refl _, trivial⟩
set_option maxHeartbeats 4000000 in
set_option maxRecDepth 100000 in
theorem make_2 {n : Int} {t : Bool} {c : List Nat} (hn : n.natAbs < big512) (h : vld t c = false) : Con Try.prog 50 [intD n, rintD t c] (tupD [ratD 0 0, errD 2]) := by
  refine con_of Try.func50 (by kernel_rfl) rfl (by kernel_rfl) fun base w0 => ?_
  refine SW.seq ?_
  refine SW.region ?_
  refine SWl.ef (S := []) (Ef.boxA rfl rfl) ?_
  rintro _ ⟨g2, rfl⟩
  refine SWl.ef (S := []) (Ef.boxA rfl rfl) ?_
  rintro _ ⟨g3, rfl⟩
  refine SWl.ef (S := []) (Ef.alloc (zs := [.bool false, .slice none 0 0, .bool false, .slice none 0 0]) (by kernel_rfl) rfl) ?_
  rintro _ ⟨g4, rfl⟩
  refine SWl.rd rfl (Rd.assign rfl) ?_
  refine SWl.nil ?_
  refine SN.then ?_
  refine SW.seq ?_
  refine SW.seq ?_
  refine SW.region ?_
  refine SWl.rd rfl (Rd.loadA 0 2 rfl rfl (by kernel_rfl) rfl trivial) ?_
  refine SWl.ef (S := []) (Ef.call (con_valid hn) rfl ⟨Le.refl _, trivial⟩ rfl) ?_
  rintro _ rfl
  refine SWl.rd rfl (Rd.not rfl) ?_
  refine SWl.rd rfl (Rd.move rfl) ?_
  refine SWl.rdg rfl rfl (rfl) rfl rfl (Rd.loadA 1 2 rfl rfl (by kernel_rfl) rfl trivial) ?_
  refine SWl.efg (S := []) rfl rfl (rfl) rfl (Ef.call (con_signB h) rfl ⟨Le.refl _, trivial⟩ rfl) ?_
  rintro _ rfl
  refine SWl.rdg rfl rfl (rfl) rfl rfl (Rd.eqi rfl rfl) ?_
  refine SWl.rd rfl (Rd.pickN rfl (rfl) rfl) ?_
  refine SWl.nil ?_
  refine SN.then ?_
  refine SW.condT rfl (by decide) ?_
  refine SW.seq ?_
  refine SW.region ?_
  refine SWl.rd rfl (Rd.build rfl rfl bldR0) ?_
  refine SWl.ef (S := [_]) (Ef.storeA 2 rfl rfl rfl (by kernel_rfl) rfl (List.mem_singleton.2 rfl)) ?_
  rintro _ rfl
  refine SWl.rd rfl (Rd.assign rfl) ?_
  refine SWl.nil ?_
  refine SN.then ?_
  refine SW.ret (fn := Try.f50) (fun _ _ h => h) (Rs.le (Rs.two rfl (ResV.cellA 2 rfl rfl (by kernel_rfl)) (ResV.tmp rfl)) ?_)
  exact Le.tup ⟨le_rat0, Le.refl _, trivial⟩
set_option maxHeartbeats 4000000 in
set_option maxRecDepth 100000 in
theorem make_3 {n d : Int} (hn : n.natAbs < big512) (h : d = 0) : Con Try.prog 50 [intD n, intD d] (tupD [ratD 0 0, errD 2]) := by
  have hd : d.natAbs < big512 := by subst h; exact Nat.lt_trans (by decide) one512
  refine con_of Try.func50 (by kernel_rfl) rfl (by kernel_rfl) fun base w0 => ?_
  refine SW.seq ?_
  refine SW.region ?_
  refine SWl.ef (S := []) (Ef.boxA rfl rfl) ?_
  rintro _ ⟨g2, rfl⟩
  refine SWl.ef (S := []) (Ef.boxA rfl rfl) ?_
  rintro _ ⟨g3, rfl⟩
  refine SWl.ef (S := []) (Ef.alloc (zs := [.bool false, .slice none 0 0, .bool false, .slice none 0 0]) (by kernel_rfl) rfl) ?_
  rintro _ ⟨g4, rfl⟩
  refine SWl.rd rfl (Rd.assign rfl) ?_
  refine SWl.nil ?_
  refine SN.then ?_
  refine SW.seq ?_
  refine SW.seq ?_
  refine SW.region ?_
  refine SWl.rd rfl (Rd.loadA 0 2 rfl rfl (by kernel_rfl) rfl trivial) ?_
  refine SWl.ef (S := []) (Ef.call (con_valid hn) rfl ⟨Le.refl _, trivial⟩ rfl) ?_
  rintro _ rfl
  refine SWl.rd rfl (Rd.not rfl) ?_
  refine SWl.rd rfl (Rd.move rfl) ?_
  refine SWl.rdg rfl rfl (rfl) rfl rfl (Rd.loadA 1 2 rfl rfl (by kernel_rfl) rfl trivial) ?_
  refine SWl.efg (S := []) rfl rfl (rfl) rfl (Ef.call (con_signOf hd (show d.sign = 0 by rw [h]; rfl)) rfl ⟨Le.refl _, trivial⟩ rfl) ?_
  rintro _ rfl
  refine SWl.rdg rfl rfl (rfl) rfl rfl (Rd.eqi rfl rfl) ?_
  refine SWl.rd rfl (Rd.pickN rfl (rfl) rfl) ?_
  refine SWl.nil ?_
  refine SN.then ?_
  refine SW.condT rfl (by decide) ?_
  refine SW.seq ?_
  refine SW.region ?_
  refine SWl.rd rfl (Rd.build rfl rfl bldR0) ?_
  refine SWl.ef (S := [_]) (Ef.storeA 2 rfl rfl rfl (by kernel_rfl) rfl (List.mem_singleton.2 rfl)) ?_
  rintro _ rfl
  refine SWl.rd rfl (Rd.assign rfl) ?_
  refine SWl.nil ?_
  refine SN.then ?_
  refine SW.ret (fn := Try.f50) (fun _ _ h => h) (Rs.le (Rs.two rfl (ResV.cellA 2 rfl rfl (by kernel_rfl)) (ResV.tmp rfl)) ?_)
  exact Le.tup ⟨le_rat0, Le.refl _, trivial⟩
set_option maxHeartbeats 4000000 in
set_option maxRecDepth 100000 in
theorem con_make {n d : Int} (hn : n.natAbs < big512) (hd : d.natAbs < big512) (h0 : d ≠ 0) : Con Try.prog 50 [intD n, intD d] (tupD [ratD (rn n d) (rd n d), errD 0]) := by
  have hg : (gcdZ n d).natAbs < big512 := Nat.lt_of_le_of_lt (gcd_le h0) hd
  have hz0 := gz_ne n h0
  have hz5 : (gz n d).natAbs < big512 := Nat.lt_of_le_of_lt (gz_le h0) hd
  refine con_of Try.func50 (by kernel_rfl) rfl (by kernel_rfl) fun base w0 => ?_
  refine SW.seq ?_
  refine SW.region ?_
  refine SWl.ef (S := []) (Ef.boxA rfl rfl) ?_
  rintro _ ⟨g2, rfl⟩
  refine SWl.ef (S := []) (Ef.boxA rfl rfl) ?_
  rintro _ ⟨g3, rfl⟩
  refine SWl.ef (S := []) (Ef.alloc (zs := [.bool false, .slice none 0 0, .bool false, .slice none 0 0]) (by kernel_rfl) rfl) ?_
  rintro _ ⟨g4, rfl⟩
  refine SWl.rd rfl (Rd.assign rfl) ?_
  refine SWl.nil ?_
  refine SN.then ?_
  refine SW.seq ?_
  refine SW.seq ?_
  refine SW.region ?_
  refine SWl.rd rfl (Rd.loadA 0 2 rfl rfl (by kernel_rfl) rfl trivial) ?_
  refine SWl.ef (S := []) (Ef.call (con_valid hn) rfl ⟨Le.refl _, trivial⟩ rfl) ?_
  rintro _ rfl
  refine SWl.rd rfl (Rd.not rfl) ?_
  refine SWl.rd rfl (Rd.move rfl) ?_
  refine SWl.rdg rfl rfl (rfl) rfl rfl (Rd.loadA 1 2 rfl rfl (by kernel_rfl) rfl trivial) ?_
  refine SWl.efg (S := []) rfl rfl (rfl) rfl (Ef.call (con_sign hd) rfl ⟨Le.refl _, trivial⟩ rfl) ?_
  rintro _ rfl
  refine SWl.rdg rfl rfl (rfl) rfl rfl (Rd.eqi rfl rfl) ?_
  refine SWl.rd rfl (Rd.pickN rfl (rfl) rfl) ?_
  refine SWl.nil ?_
  refine SN.then ?_
  refine SW.condF rfl (decide_eq_false (fun h => h0 (sign_eq0.1 h))) ?_
  refine SW.skip ?_
  refine SN.then ?_
  refine SW.seq ?_
  refine SW.region ?_
  refine SWl.rd rfl (Rd.loadA 0 2 rfl rfl (by kernel_rfl) rfl trivial) ?_
  refine SWl.rd rfl (Rd.loadA 1 2 rfl rfl (by kernel_rfl) rfl trivial) ?_
  refine SWl.ef (S := []) (Ef.call (con_gcd hn hd) rfl ⟨Le.refl _, Le.refl _, trivial⟩ rfl) ?_
  rintro _ rfl
  refine SWl.rd rfl (Rd.move rfl) ?_
  refine SWl.rd rfl (Rd.extract rfl rfl) ?_
  refine SWl.rd rfl (Rd.extract rfl rfl) ?_
  refine SWl.ef (S := []) (Ef.alloc (zs := [.bool false, .slice none 0 0]) (by kernel_rfl) rfl) ?_
  rintro _ ⟨g6, rfl⟩
  refine SWl.ef (S := [_]) (Ef.storeA 3 rfl rfl rfl (by kernel_rfl) rfl (List.mem_singleton.2 rfl)) ?_
  rintro _ rfl
  refine SWl.rd rfl (Rd.assign rfl) ?_
  refine SWl.nil ?_
  refine SN.then ?_
  refine SW.seq ?_
  refine SW.seq ?_
  refine SW.region ?_
  refine SWl.rd rfl (Rd.move rfl) ?_
  refine SWl.rd rfl (Rd.eqi rfl rfl) ?_
  refine SWl.rd rfl (Rd.move rfl) ?_
  refine SWl.rdg rfl rfl (by decide) rfl rfl (Rd.loadA 1 2 rfl rfl (by kernel_rfl) rfl trivial) ?_
  refine SWl.efg (S := []) rfl rfl (by decide) rfl (Ef.call (con_sign hd) rfl ⟨Le.refl _, trivial⟩ rfl) ?_
  rintro _ rfl
  refine SWl.rdg rfl rfl (by decide) rfl rfl (Rd.lss rfl rfl) ?_
  refine SWl.rd rfl (Rd.pickY rfl (by decide) rfl) ?_
  refine SWl.nil ?_
  refine SN.then ?_
  refine SW.cond rfl (fun hb33 => ?_) (fun hb33 => ?_)
  · have hneg : d < 0 := Int.sign_neg_iff.1 (of_decide_eq_true hb33); have hz : -gcdZ n d = gz n d := (by unfold gz; rw [if_pos hneg])
    refine SW.region ?_
    refine SWl.rd rfl (Rd.loadA 3 2 rfl rfl (by kernel_rfl) rfl trivial) ?_
    refine SWl.ef (S := []) (Ef.call (con_neg hg) rfl ⟨Le.refl _, trivial⟩ rfl) ?_
    rintro _ rfl
    refine SWl.rd rfl (Rd.move rfl) ?_
    refine SWl.rd rfl (Rd.extract rfl rfl) ?_
    refine SWl.rd rfl (Rd.extract rfl rfl) ?_
    refine SWl.ef (S := [_]) (Ef.storeA 3 rfl rfl rfl (by kernel_rfl) rfl (List.mem_singleton.2 rfl)) ?_
    rintro _ rfl
    refine SWl.rd rfl (Rd.assign rfl) ?_
    refine SWl.nil ?_
    refine SN.then ?_
    refine SW.seq ?_
    refine SW.seq ?_
    refine SW.sub (σ' := St.of [(2, isD (.pointer (some ⟨g2, 0, none⟩))), (3, isD (.pointer (some ⟨g3, 0, none⟩))), (4, isD (.pointer (some ⟨g4, 0, none⟩))), (6, isD (.pointer (some ⟨g6, 0, none⟩))), (7, errD 0)] [(g2, intC (n)), (g3, intC (d)), (g4, [isD (.bool false), isD (.slice none 0 0), isD (.bool false), isD (.slice none 0 0)]), (g6, intC (gz n d))]) (⟨⟨_, rfl, ⟨⟨_, rfl, Le.refl _⟩, ⟨⟨_, rfl, Le.refl _⟩, ⟨⟨_, rfl, Le.refl _⟩, ⟨⟨_, rfl, Le.refl _⟩, ⟨⟨_, rfl, Le.refl _⟩, trivial⟩⟩⟩⟩⟩⟩, [0, 1, 2, 3], by decide, ⟨⟨_, rfl, LeAll.refl _⟩, ⟨⟨_, rfl, LeAll.refl _⟩, ⟨⟨_, rfl, LeAll.refl _⟩, ⟨⟨_, rfl, leC_int hz⟩, trivial⟩⟩⟩⟩⟩) ?_
    refine SW.region ?_
    refine SWl.rd rfl (Rd.move rfl) ?_
    refine SWl.rd rfl (Rd.nei rfl rfl) ?_
    refine SWl.nil ?_
    refine SN.then ?_
    refine SW.condF rfl (by decide) ?_
    refine SW.skip ?_
    refine SN.then ?_
    refine SW.seq ?_
    refine SW.region ?_
    refine SWl.rd rfl (Rd.loadA 0 2 rfl rfl (by kernel_rfl) rfl trivial) ?_
    refine SWl.rd rfl (Rd.loadA 3 2 rfl rfl (by kernel_rfl) rfl trivial) ?_
    refine SWl.ef (S := []) (Ef.call (con_divMod hn hz5 hz0) rfl ⟨Le.refl _, Le.refl _, trivial⟩ rfl) ?_
    rintro _ rfl
    refine SWl.rd rfl (Rd.move rfl) ?_
    refine SWl.rd rfl (Rd.extract rfl rfl) ?_
    refine SWl.rd rfl (Rd.extract rfl rfl) ?_
    refine SWl.rd rfl (Rd.extract rfl rfl) ?_
    refine SWl.ef (S := []) (Ef.alloc (zs := [.bool false, .slice none 0 0]) (by kernel_rfl) rfl) ?_
    rintro _ ⟨g8, rfl⟩
    refine SWl.ef (S := []) (Ef.alloc (zs := [.bool false, .slice none 0 0]) (by kernel_rfl) rfl) ?_
    rintro _ ⟨g9, rfl⟩
    refine SWl.ef (S := [_]) (Ef.storeA 4 rfl rfl rfl (by kernel_rfl) rfl (List.mem_singleton.2 rfl)) ?_
    rintro _ rfl
    refine SWl.ef (S := [_]) (Ef.storeA 5 rfl rfl rfl (by kernel_rfl) rfl (List.mem_singleton.2 rfl)) ?_
    rintro _ rfl
    refine SWl.rd rfl (Rd.assign rfl) ?_
    refine SWl.nil ?_
    refine SN.then ?_
    refine SW.seq ?_
    refine SW.seq ?_
    refine SW.sub (σ' := St.of [(3, isD (.pointer (some ⟨g3, 0, none⟩))), (4, isD (.pointer (some ⟨g4, 0, none⟩))), (6, isD (.pointer (some ⟨g6, 0, none⟩))), (8, isD (.pointer (some ⟨g8, 0, none⟩))), (7, errD 0)] [(g3, intC (d)), (g4, [isD (.bool false), isD (.slice none 0 0), isD (.bool false), isD (.slice none 0 0)]), (g6, intC (gz n d)), (g8, intC (rn n d))]) (⟨⟨_, rfl, ⟨⟨_, rfl, Le.refl _⟩, ⟨⟨_, rfl, Le.refl _⟩, ⟨⟨_, rfl, Le.refl _⟩, ⟨⟨_, rfl, Le.refl _⟩, ⟨⟨_, rfl, Le.refl _⟩, trivial⟩⟩⟩⟩⟩⟩, [1, 2, 3, 4], by decide, ⟨⟨_, rfl, LeAll.refl _⟩, ⟨⟨_, rfl, LeAll.refl _⟩, ⟨⟨_, rfl, LeAll.refl _⟩, ⟨⟨_, rfl, LeAll.refl _⟩, trivial⟩⟩⟩⟩⟩) ?_
    refine SW.region ?_
    refine SWl.rd rfl (Rd.move rfl) ?_
    refine SWl.rd rfl (Rd.nei rfl rfl) ?_
    refine SWl.nil ?_
    refine SN.then ?_
    refine SW.condF rfl (by decide) ?_
    refine SW.skip ?_
    refine SN.then ?_
    refine SW.seq ?_
    refine SW.region ?_
    refine SWl.rd rfl (Rd.loadA 0 2 rfl rfl (by kernel_rfl) rfl trivial) ?_
    refine SWl.rd rfl (Rd.loadA 2 2 rfl rfl (by kernel_rfl) rfl trivial) ?_
    refine SWl.ef (S := []) (Ef.call (con_divMod hd hz5 hz0) rfl ⟨Le.refl _, Le.refl _, trivial⟩ rfl) ?_
    rintro _ rfl
    refine SWl.rd rfl (Rd.move rfl) ?_
    refine SWl.rd rfl (Rd.extract rfl rfl) ?_
    refine SWl.rd rfl (Rd.extract rfl rfl) ?_
    refine SWl.rd rfl (Rd.extract rfl rfl) ?_
    refine SWl.ef (S := []) (Ef.alloc (zs := [.bool false, .slice none 0 0]) (by kernel_rfl) rfl) ?_
    rintro _ ⟨g10, rfl⟩
    refine SWl.ef (S := []) (Ef.alloc (zs := [.bool false, .slice none 0 0]) (by kernel_rfl) rfl) ?_
    rintro _ ⟨g11, rfl⟩
    refine SWl.ef (S := [_]) (Ef.storeA 4 rfl rfl rfl (by kernel_rfl) rfl (List.mem_singleton.2 rfl)) ?_
    rintro _ rfl
    refine SWl.ef (S := [_]) (Ef.storeA 5 rfl rfl rfl (by kernel_rfl) rfl (List.mem_singleton.2 rfl)) ?_
    rintro _ rfl
    refine SWl.rd rfl (Rd.assign rfl) ?_
    refine SWl.nil ?_
    refine SN.then ?_
    refine SW.seq ?_
    refine SW.seq ?_
    refine SW.region ?_
    refine SWl.rd rfl (Rd.move rfl) ?_
    refine SWl.rd rfl (Rd.nei rfl rfl) ?_
    refine SWl.nil ?_
    refine SN.then ?_
    refine SW.condF rfl (by decide) ?_
    refine SW.skip ?_
    refine SN.then ?_
    refine SW.seq ?_
    refine SW.region ?_
    refine SWl.rd rfl (Rd.loadA 3 2 rfl rfl (by kernel_rfl) rfl trivial) ?_
    refine SWl.rd rfl (Rd.loadA 4 2 rfl rfl (by kernel_rfl) rfl trivial) ?_
    refine SWl.rd rfl (Rd.build rfl rfl bldR2) ?_
    refine SWl.ef (S := [_]) (Ef.storeA 1 rfl rfl rfl (by kernel_rfl) rfl (List.mem_singleton.2 rfl)) ?_
    rintro _ rfl
    refine SWl.rd rfl (Rd.assign rfl) ?_
    refine SWl.nil ?_
    refine SN.then ?_
    refine SW.ret (fn := Try.f50) (fun _ _ h => h) (Rs.two rfl (ResV.cellA 1 rfl rfl (by kernel_rfl)) (ResV.tmp rfl))
  · have hz : gcdZ n d = gz n d := (by unfold gz; rw [if_neg (fun hneg => of_decide_eq_false hb33 (Int.sign_neg_iff.2 hneg))])
    refine SW.skip ?_
    refine SN.then ?_
    refine SW.seq ?_
    refine SW.seq ?_
    refine SW.sub (σ' := St.of [(2, isD (.pointer (some ⟨g2, 0, none⟩))), (3, isD (.pointer (some ⟨g3, 0, none⟩))), (4, isD (.pointer (some ⟨g4, 0, none⟩))), (6, isD (.pointer (some ⟨g6, 0, none⟩))), (7, errD 0)] [(g2, intC (n)), (g3, intC (d)), (g4, [isD (.bool false), isD (.slice none 0 0), isD (.bool false), isD (.slice none 0 0)]), (g6, intC (gz n d))]) (⟨⟨_, rfl, ⟨⟨_, rfl, Le.refl _⟩, ⟨⟨_, rfl, Le.refl _⟩, ⟨⟨_, rfl, Le.refl _⟩, ⟨⟨_, rfl, Le.refl _⟩, ⟨⟨_, rfl, Le.refl _⟩, trivial⟩⟩⟩⟩⟩⟩, [0, 1, 2, 3], by decide, ⟨⟨_, rfl, LeAll.refl _⟩, ⟨⟨_, rfl, LeAll.refl _⟩, ⟨⟨_, rfl, LeAll.refl _⟩, ⟨⟨_, rfl, leC_int hz⟩, trivial⟩⟩⟩⟩⟩) ?_
    refine SW.region ?_
    refine SWl.rd rfl (Rd.move rfl) ?_
    refine SWl.rd rfl (Rd.nei rfl rfl) ?_
    refine SWl.nil ?_
    refine SN.then ?_
    refine SW.condF rfl (by decide) ?_
    refine SW.skip ?_
    refine SN.then ?_
    refine SW.seq ?_
    refine SW.region ?_
    refine SWl.rd rfl (Rd.loadA 0 2 rfl rfl (by kernel_rfl) rfl trivial) ?_
    refine SWl.rd rfl (Rd.loadA 3 2 rfl rfl (by kernel_rfl) rfl trivial) ?_
    refine SWl.ef (S := []) (Ef.call (con_divMod hn hz5 hz0) rfl ⟨Le.refl _, Le.refl _, trivial⟩ rfl) ?_
    rintro _ rfl
    refine SWl.rd rfl (Rd.move rfl) ?_
    refine SWl.rd rfl (Rd.extract rfl rfl) ?_
    refine SWl.rd rfl (Rd.extract rfl rfl) ?_
    refine SWl.rd rfl (Rd.extract rfl rfl) ?_
    refine SWl.ef (S := []) (Ef.alloc (zs := [.bool false, .slice none 0 0]) (by kernel_rfl) rfl) ?_
    rintro _ ⟨g8, rfl⟩
    refine SWl.ef (S := []) (Ef.alloc (zs := [.bool false, .slice none 0 0]) (by kernel_rfl) rfl) ?_
    rintro _ ⟨g9, rfl⟩
    refine SWl.ef (S := [_]) (Ef.storeA 4 rfl rfl rfl (by kernel_rfl) rfl (List.mem_singleton.2 rfl)) ?_
    rintro _ rfl
    refine SWl.ef (S := [_]) (Ef.storeA 5 rfl rfl rfl (by kernel_rfl) rfl (List.mem_singleton.2 rfl)) ?_
    rintro _ rfl
    refine SWl.rd rfl (Rd.assign rfl) ?_
    refine SWl.nil ?_
    refine SN.then ?_
    refine SW.seq ?_
    refine SW.seq ?_
    refine SW.sub (σ' := St.of [(3, isD (.pointer (some ⟨g3, 0, none⟩))), (4, isD (.pointer (some ⟨g4, 0, none⟩))), (6, isD (.pointer (some ⟨g6, 0, none⟩))), (8, isD (.pointer (some ⟨g8, 0, none⟩))), (7, errD 0)] [(g3, intC (d)), (g4, [isD (.bool false), isD (.slice none 0 0), isD (.bool false), isD (.slice none 0 0)]), (g6, intC (gz n d)), (g8, intC (rn n d))]) (⟨⟨_, rfl, ⟨⟨_, rfl, Le.refl _⟩, ⟨⟨_, rfl, Le.refl _⟩, ⟨⟨_, rfl, Le.refl _⟩, ⟨⟨_, rfl, Le.refl _⟩, ⟨⟨_, rfl, Le.refl _⟩, trivial⟩⟩⟩⟩⟩⟩, [1, 2, 3, 4], by decide, ⟨⟨_, rfl, LeAll.refl _⟩, ⟨⟨_, rfl, LeAll.refl _⟩, ⟨⟨_, rfl, LeAll.refl _⟩, ⟨⟨_, rfl, LeAll.refl _⟩, trivial⟩⟩⟩⟩⟩) ?_
    refine SW.region ?_
    refine SWl.rd rfl (Rd.move rfl) ?_
    refine SWl.rd rfl (Rd.nei rfl rfl) ?_
    refine SWl.nil ?_
    refine SN.then ?_
    refine SW.condF rfl (by decide) ?_
    refine SW.skip ?_
    refine SN.then ?_
    refine SW.seq ?_
    refine SW.region ?_
    refine SWl.rd rfl (Rd.loadA 0 2 rfl rfl (by kernel_rfl) rfl trivial) ?_
    refine SWl.rd rfl (Rd.loadA 2 2 rfl rfl (by kernel_rfl) rfl trivial) ?_
    refine SWl.ef (S := []) (Ef.call (con_divMod hd hz5 hz0) rfl ⟨Le.refl _, Le.refl _, trivial⟩ rfl) ?_
    rintro _ rfl
    refine SWl.rd rfl (Rd.move rfl) ?_
    refine SWl.rd rfl (Rd.extract rfl rfl) ?_
    refine SWl.rd rfl (Rd.extract rfl rfl) ?_
    refine SWl.rd rfl (Rd.extract rfl rfl) ?_
    refine SWl.ef (S := []) (Ef.alloc (zs := [.bool false, .slice none 0 0]) (by kernel_rfl) rfl) ?_
    rintro _ ⟨g10, rfl⟩
    refine SWl.ef (S := []) (Ef.alloc (zs := [.bool false, .slice none 0 0]) (by kernel_rfl) rfl) ?_
    rintro _ ⟨g11, rfl⟩
    refine SWl.ef (S := [_]) (Ef.storeA 4 rfl rfl rfl (by kernel_rfl) rfl (List.mem_singleton.2 rfl)) ?_
    rintro _ rfl
    refine SWl.ef (S := [_]) (Ef.storeA 5 rfl rfl rfl (by kernel_rfl) rfl (List.mem_singleton.2 rfl)) ?_
    rintro _ rfl
    refine SWl.rd rfl (Rd.assign rfl) ?_
    refine SWl.nil ?_
    refine SN.then ?_
    refine SW.seq ?_
    refine SW.seq ?_
    refine SW.region ?_
    refine SWl.rd rfl (Rd.move rfl) ?_
    refine SWl.rd rfl (Rd.nei rfl rfl) ?_
    refine SWl.nil ?_
    refine SN.then ?_
    refine SW.condF rfl (by decide) ?_
    refine SW.skip ?_
    refine SN.then ?_
    refine SW.seq ?_
    refine SW.region ?_
    refine SWl.rd rfl (Rd.loadA 3 2 rfl rfl (by kernel_rfl) rfl trivial) ?_
    refine SWl.rd rfl (Rd.loadA 4 2 rfl rfl (by kernel_rfl) rfl trivial) ?_
    refine SWl.rd rfl (Rd.build rfl rfl bldR2) ?_
    refine SWl.ef (S := [_]) (Ef.storeA 1 rfl rfl rfl (by kernel_rfl) rfl (List.mem_singleton.2 rfl)) ?_
    rintro _ rfl
    refine SWl.rd rfl (Rd.assign rfl) ?_
    refine SWl.nil ?_
    refine SN.then ?_
    refine SW.ret (fn := Try.f50) (fun _ _ h => h) (Rs.two rfl (ResV.cellA 1 rfl rfl (by kernel_rfl)) (ResV.tmp rfl))
set_option maxHeartbeats 4000000 in
set_option maxRecDepth 100000 in
theorem con_reduceR {n d : Int} (hn : n.natAbs < big512) (hd : d.natAbs < big512) (h0 : d ≠ 0) : Con Try.prog 55 [intD n, intD d] (ratD (rn n d) (rd n d)) := by
  have hg : (gcdZ n d).natAbs < big512 := Nat.lt_of_le_of_lt (gcd_le h0) hd
  have hz0 := gz_ne n h0
  have hz5 : (gz n d).natAbs < b2 := b2_512 (Nat.lt_of_le_of_lt (gz_le h0) hd)
  have hn2 := b2_512 hn
  have hd2 := b2_512 hd
  refine con_of Try.func55 (by kernel_rfl) rfl (by kernel_rfl) fun base w0 => ?_
  refine SW.seq ?_
  refine SW.region ?_
  refine SWl.ef (S := []) (Ef.boxA rfl rfl) ?_
  rintro _ ⟨g2, rfl⟩
  refine SWl.ef (S := []) (Ef.boxA rfl rfl) ?_
  rintro _ ⟨g3, rfl⟩
  refine SWl.ef (S := []) (Ef.alloc (zs := [.bool false, .slice none 0 0, .bool false, .slice none 0 0]) (by kernel_rfl) rfl) ?_
  rintro _ ⟨g4, rfl⟩
  refine SWl.nil ?_
  refine SN.then ?_
  refine SW.seq ?_
  refine SW.region ?_
  refine SWl.rd rfl (Rd.loadA 0 2 rfl rfl (by kernel_rfl) rfl trivial) ?_
  refine SWl.rd rfl (Rd.loadA 1 2 rfl rfl (by kernel_rfl) rfl trivial) ?_
  refine SWl.ef (S := []) (Ef.call (con_commonR hn2 hd2) rfl ⟨Le.refl _, Le.refl _, trivial⟩ rfl) ?_
  rintro _ rfl
  refine SWl.ef (S := []) (Ef.alloc (zs := [.bool false, .slice none 0 0]) (by kernel_rfl) rfl) ?_
  rintro _ ⟨g5, rfl⟩
  refine SWl.ef (S := [_]) (Ef.storeA 3 rfl rfl rfl (by kernel_rfl) rfl (List.mem_singleton.2 rfl)) ?_
  rintro _ rfl
  refine SWl.nil ?_
  refine SN.then ?_
  refine SW.seq ?_
  refine SW.seq ?_
  refine SW.region ?_
  refine SWl.rd rfl (Rd.fieldAddr (n := 0) rfl (by kernel_rfl)) ?_
  refine SWl.rd rfl (Rd.loadB 1 rfl rfl rfl (by kernel_rfl) trivial) ?_
  refine SWl.nil ?_
  refine SN.then ?_
  refine SW.cond rfl (fun hb14 => ?_) (fun hb14 => ?_)
  · have hz : -gcdZ n d = gz n d := (by unfold gz; rw [if_pos (of_decide_eq_true hb14)])
    refine SW.region ?_
    refine SWl.rd rfl (Rd.loadA 3 2 rfl rfl (by kernel_rfl) rfl trivial) ?_
    refine SWl.ef (S := []) (Ef.call (con_negR (b4_512 hg)) rfl ⟨Le.refl _, trivial⟩ rfl) ?_
    rintro _ rfl
    refine SWl.ef (S := [_]) (Ef.storeA 3 rfl rfl rfl (by kernel_rfl) rfl (List.mem_singleton.2 rfl)) ?_
    rintro _ rfl
    refine SWl.nil ?_
    refine SN.then ?_
    refine SW.seq ?_
    refine SW.sub (σ' := St.of [(2, isD (.pointer (some ⟨g2, 0, none⟩))), (3, isD (.pointer (some ⟨g3, 0, none⟩))), (4, isD (.pointer (some ⟨g4, 0, none⟩))), (5, isD (.pointer (some ⟨g5, 0, none⟩)))] [(g2, intC (n)), (g3, intC (d)), (g4, [isD (.bool false), isD (.slice none 0 0), isD (.bool false), isD (.slice none 0 0)]), (g5, intC (gz n d))]) (⟨⟨_, rfl, ⟨⟨_, rfl, Le.refl _⟩, ⟨⟨_, rfl, Le.refl _⟩, ⟨⟨_, rfl, Le.refl _⟩, ⟨⟨_, rfl, Le.refl _⟩, trivial⟩⟩⟩⟩⟩, [0, 1, 2, 3], by decide, ⟨⟨_, rfl, LeAll.refl _⟩, ⟨⟨_, rfl, LeAll.refl _⟩, ⟨⟨_, rfl, LeAll.refl _⟩, ⟨⟨_, rfl, leC_int hz⟩, trivial⟩⟩⟩⟩⟩) ?_
    refine SW.region ?_
    refine SWl.rd rfl (Rd.loadA 0 2 rfl rfl (by kernel_rfl) rfl trivial) ?_
    refine SWl.rd rfl (Rd.loadA 3 2 rfl rfl (by kernel_rfl) rfl trivial) ?_
    refine SWl.ef (S := []) (Ef.call (con_divideR hn2 hz5 hz0) rfl ⟨Le.refl _, Le.refl _, trivial⟩ rfl) ?_
    rintro _ rfl
    refine SWl.rd rfl (Rd.move rfl) ?_
    refine SWl.rd rfl (Rd.extract rfl rfl) ?_
    refine SWl.rd rfl (Rd.extract rfl rfl) ?_
    refine SWl.ef (S := []) (Ef.alloc (zs := [.bool false, .slice none 0 0]) (by kernel_rfl) rfl) ?_
    rintro _ ⟨g6, rfl⟩
    refine SWl.ef (S := []) (Ef.alloc (zs := [.bool false, .slice none 0 0]) (by kernel_rfl) rfl) ?_
    rintro _ ⟨g7, rfl⟩
    refine SWl.ef (S := [_]) (Ef.storeA 4 rfl rfl rfl (by kernel_rfl) rfl (List.mem_singleton.2 rfl)) ?_
    rintro _ rfl
    refine SWl.ef (S := [_]) (Ef.storeA 5 rfl rfl rfl (by kernel_rfl) rfl (List.mem_singleton.2 rfl)) ?_
    rintro _ rfl
    refine SWl.nil ?_
    refine SN.then ?_
    refine SW.seq ?_
    refine SW.region ?_
    refine SWl.rd rfl (Rd.loadA 1 2 rfl rfl (by kernel_rfl) rfl trivial) ?_
    refine SWl.rd rfl (Rd.loadA 3 2 rfl rfl (by kernel_rfl) rfl trivial) ?_
    refine SWl.ef (S := []) (Ef.call (con_divideR hd2 hz5 hz0) rfl ⟨Le.refl _, Le.refl _, trivial⟩ rfl) ?_
    rintro _ rfl
    refine SWl.rd rfl (Rd.move rfl) ?_
    refine SWl.rd rfl (Rd.extract rfl rfl) ?_
    refine SWl.rd rfl (Rd.extract rfl rfl) ?_
    refine SWl.ef (S := []) (Ef.alloc (zs := [.bool false, .slice none 0 0]) (by kernel_rfl) rfl) ?_
    rintro _ ⟨g8, rfl⟩
    refine SWl.ef (S := []) (Ef.alloc (zs := [.bool false, .slice none 0 0]) (by kernel_rfl) rfl) ?_
    rintro _ ⟨g9, rfl⟩
    refine SWl.ef (S := [_]) (Ef.storeA 6 rfl rfl rfl (by kernel_rfl) rfl (List.mem_singleton.2 rfl)) ?_
    rintro _ rfl
    refine SWl.ef (S := [_]) (Ef.storeA 7 rfl rfl rfl (by kernel_rfl) rfl (List.mem_singleton.2 rfl)) ?_
    rintro _ rfl
    refine SWl.nil ?_
    refine SN.then ?_
    refine SW.seq ?_
    refine SW.region ?_
    refine SWl.rd rfl (Rd.loadA 4 2 rfl rfl (by kernel_rfl) rfl trivial) ?_
    refine SWl.rd rfl (Rd.loadA 6 2 rfl rfl (by kernel_rfl) rfl trivial) ?_
    refine SWl.rd rfl (Rd.build rfl rfl bldR2) ?_
    refine SWl.ef (S := [_]) (Ef.storeA 2 rfl rfl rfl (by kernel_rfl) rfl (List.mem_singleton.2 rfl)) ?_
    rintro _ rfl
    refine SWl.nil ?_
    refine SN.then ?_
    refine SW.ret (fn := Try.f55) (fun _ _ h => h) (Rs.one rfl (ResV.cellA 2 rfl rfl (by kernel_rfl)))
  · have hz : gcdZ n d = gz n d := (by unfold gz; rw [if_neg (of_decide_eq_false hb14)])
    refine SW.skip ?_
    refine SN.then ?_
    refine SW.seq ?_
    refine SW.sub (σ' := St.of [(2, isD (.pointer (some ⟨g2, 0, none⟩))), (3, isD (.pointer (some ⟨g3, 0, none⟩))), (4, isD (.pointer (some ⟨g4, 0, none⟩))), (5, isD (.pointer (some ⟨g5, 0, none⟩)))] [(g2, intC (n)), (g3, intC (d)), (g4, [isD (.bool false), isD (.slice none 0 0), isD (.bool false), isD (.slice none 0 0)]), (g5, intC (gz n d))]) (⟨⟨_, rfl, ⟨⟨_, rfl, Le.refl _⟩, ⟨⟨_, rfl, Le.refl _⟩, ⟨⟨_, rfl, Le.refl _⟩, ⟨⟨_, rfl, Le.refl _⟩, trivial⟩⟩⟩⟩⟩, [0, 1, 2, 3], by decide, ⟨⟨_, rfl, LeAll.refl _⟩, ⟨⟨_, rfl, LeAll.refl _⟩, ⟨⟨_, rfl, LeAll.refl _⟩, ⟨⟨_, rfl, leC_int hz⟩, trivial⟩⟩⟩⟩⟩) ?_
    refine SW.region ?_
    refine SWl.rd rfl (Rd.loadA 0 2 rfl rfl (by kernel_rfl) rfl trivial) ?_
    refine SWl.rd rfl (Rd.loadA 3 2 rfl rfl (by kernel_rfl) rfl trivial) ?_
    refine SWl.ef (S := []) (Ef.call (con_divideR hn2 hz5 hz0) rfl ⟨Le.refl _, Le.refl _, trivial⟩ rfl) ?_
    rintro _ rfl
    refine SWl.rd rfl (Rd.move rfl) ?_
    refine SWl.rd rfl (Rd.extract rfl rfl) ?_
    refine SWl.rd rfl (Rd.extract rfl rfl) ?_
    refine SWl.ef (S := []) (Ef.alloc (zs := [.bool false, .slice none 0 0]) (by kernel_rfl) rfl) ?_
    rintro _ ⟨g6, rfl⟩
    refine SWl.ef (S := []) (Ef.alloc (zs := [.bool false, .slice none 0 0]) (by kernel_rfl) rfl) ?_
    rintro _ ⟨g7, rfl⟩
    refine SWl.ef (S := [_]) (Ef.storeA 4 rfl rfl rfl (by kernel_rfl) rfl (List.mem_singleton.2 rfl)) ?_
    rintro _ rfl
    refine SWl.ef (S := [_]) (Ef.storeA 5 rfl rfl rfl (by kernel_rfl) rfl (List.mem_singleton.2 rfl)) ?_
    rintro _ rfl
    refine SWl.nil ?_
    refine SN.then ?_
    refine SW.seq ?_
    refine SW.region ?_
    refine SWl.rd rfl (Rd.loadA 1 2 rfl rfl (by kernel_rfl) rfl trivial) ?_
    refine SWl.rd rfl (Rd.loadA 3 2 rfl rfl (by kernel_rfl) rfl trivial) ?_
    refine SWl.ef (S := []) (Ef.call (con_divideR hd2 hz5 hz0) rfl ⟨Le.refl _, Le.refl _, trivial⟩ rfl) ?_
    rintro _ rfl
    refine SWl.rd rfl (Rd.move rfl) ?_
    refine SWl.rd rfl (Rd.extract rfl rfl) ?_
    refine SWl.rd rfl (Rd.extract rfl rfl) ?_
    refine SWl.ef (S := []) (Ef.alloc (zs := [.bool false, .slice none 0 0]) (by kernel_rfl) rfl) ?_
    rintro _ ⟨g8, rfl⟩
    refine SWl.ef (S := []) (Ef.alloc (zs := [.bool false, .slice none 0 0]) (by kernel_rfl) rfl) ?_
    rintro _ ⟨g9, rfl⟩
    refine SWl.ef (S := [_]) (Ef.storeA 6 rfl rfl rfl (by kernel_rfl) rfl (List.mem_singleton.2 rfl)) ?_
    rintro _ rfl
    refine SWl.ef (S := [_]) (Ef.storeA 7 rfl rfl rfl (by kernel_rfl) rfl (List.mem_singleton.2 rfl)) ?_
    rintro _ rfl
    refine SWl.nil ?_
    refine SN.then ?_
    refine SW.seq ?_
    refine SW.region ?_
    refine SWl.rd rfl (Rd.loadA 4 2 rfl rfl (by kernel_rfl) rfl trivial) ?_
    refine SWl.rd rfl (Rd.loadA 6 2 rfl rfl (by kernel_rfl) rfl trivial) ?_
    refine SWl.rd rfl (Rd.build rfl rfl bldR2) ?_
    refine SWl.ef (S := [_]) (Ef.storeA 2 rfl rfl rfl (by kernel_rfl) rfl (List.mem_singleton.2 rfl)) ?_
    rintro _ rfl
    refine SWl.nil ?_
    refine SN.then ?_
    refine SW.ret (fn := Try.f55) (fun _ _ h => h) (Rs.one rfl (ResV.cellA 2 rfl rfl (by kernel_rfl)))
set_option maxHeartbeats 4000000 in
set_option maxRecDepth 100000 in
theorem con_same2T {n d n2 d2 : Int} (h1 : n = n2) (h2 : d = d2) : Con Try.prog 81 [ratD n d, ratD n2 d2] (boolD true) := by
  refine con_of Try.func81 (by kernel_rfl) rfl (by kernel_rfl) fun base w0 => ?_
  refine SW.seq ?_
  refine SW.region ?_
  refine SWl.ef (S := []) (Ef.boxA rfl rfl) ?_
  rintro _ ⟨g2, rfl⟩
  refine SWl.ef (S := []) (Ef.boxA rfl rfl) ?_
  rintro _ ⟨g3, rfl⟩
  refine SWl.rd rfl (Rd.assign rfl) ?_
  refine SWl.nil ?_
  refine SN.then ?_
  refine SW.seq ?_
  refine SW.region ?_
  refine SWl.rd rfl (Rd.fieldAddr (n := 0) rfl (by kernel_rfl)) ?_
  refine SWl.rd rfl (Rd.loadA 0 2 rfl rfl (by kernel_rfl) rfl trivial) ?_
  refine SWl.rd rfl (Rd.fieldAddr (n := 0) rfl (by kernel_rfl)) ?_
  refine SWl.rd rfl (Rd.loadA 1 2 rfl rfl (by kernel_rfl) rfl trivial) ?_
  refine SWl.ef (S := []) (Ef.call (con_sameT (by first | rfl | assumption)) rfl ⟨Le.refl _, Le.refl _, trivial⟩ rfl) ?_
  rintro _ rfl
  refine SWl.rd rfl (Rd.move rfl) ?_
  refine SWl.rdg rfl rfl (rfl) rfl rfl (Rd.fieldAddr (n := 2) rfl (by kernel_rfl)) ?_
  refine SWl.rdg rfl rfl (rfl) rfl rfl (Rd.loadA 0 2 rfl rfl (by kernel_rfl) rfl trivial) ?_
  refine SWl.rdg rfl rfl (rfl) rfl rfl (Rd.fieldAddr (n := 2) rfl (by kernel_rfl)) ?_
  refine SWl.rdg rfl rfl (rfl) rfl rfl (Rd.loadA 1 2 rfl rfl (by kernel_rfl) rfl trivial) ?_
  refine SWl.efg (S := []) rfl rfl (rfl) rfl (Ef.call (con_sameT (by first | rfl | assumption)) rfl ⟨Le.refl _, Le.refl _, trivial⟩ rfl) ?_
  rintro _ rfl
  refine SWl.rd rfl (Rd.pickY rfl (rfl) rfl) ?_
  refine SWl.rd rfl (Rd.assign rfl) ?_
  refine SWl.nil ?_
  refine SN.then ?_
  refine SW.ret (fn := Try.f81) (fun _ _ h => h) (Rs.one rfl (ResV.tmp rfl))
set_option maxHeartbeats 4000000 in
set_option maxRecDepth 100000 in
theorem con_same2L {n d n2 d2 e f : Int} (h1 : n = n2) (h2 : d = d2) (he : e = f) : Con Try.prog 54 [ratD n d, errD e, ratD n2 d2, errD f] (boolD true) := by
  refine con_of Try.func54 (by kernel_rfl) rfl (by kernel_rfl) fun base w0 => ?_
  refine SW.seq ?_
  refine SW.region ?_
  refine SWl.ef (S := []) (Ef.boxA rfl rfl) ?_
  rintro _ ⟨g4, rfl⟩
  refine SWl.ef (S := []) (Ef.boxA rfl rfl) ?_
  rintro _ ⟨g6, rfl⟩
  refine SWl.rd rfl (Rd.assign rfl) ?_
  refine SWl.nil ?_
  refine SN.then ?_
  refine SW.seq ?_
  refine SW.region ?_
  refine SWl.rd rfl (Rd.move rfl) ?_
  refine SWl.rd rfl (Rd.move rfl) ?_
  refine SWl.rd rfl (Rd.eqi rfl rfl) ?_
  refine SWl.rd rfl (Rd.move rfl) ?_
  refine SWl.rdg rfl rfl (decide_eq_true he) rfl rfl (Rd.loadA 0 4 rfl rfl (by kernel_rfl) rfl trivial) ?_
  refine SWl.rdg rfl rfl (decide_eq_true he) rfl rfl (Rd.loadA 1 4 rfl rfl (by kernel_rfl) rfl trivial) ?_
  refine SWl.efg (S := []) rfl rfl (decide_eq_true he) rfl (Ef.call (con_same2T (by first | rfl | assumption) (by first | rfl | assumption)) rfl ⟨Le.refl _, Le.refl _, trivial⟩ rfl) ?_
  rintro _ rfl
  refine SWl.rd rfl (Rd.pickY rfl (decide_eq_true he) rfl) ?_
  refine SWl.rd rfl (Rd.assign rfl) ?_
  refine SWl.nil ?_
  refine SN.then ?_
  refine SW.ret (fn := Try.f54) (fun _ _ h => h) (Rs.one rfl (ResV.tmp rfl))
set_option maxHeartbeats 4000000 in
set_option maxRecDepth 100000 in
theorem con_refused {e f : Int} (he : e = f) : Con Try.prog 53 [ratD 0 0, errD e, errD f] (boolD true) := by
  refine con_of Try.func53 (by kernel_rfl) rfl (by kernel_rfl) fun base w0 => ?_
  refine SW.seq ?_
  refine SW.region ?_
  refine SWl.ef (S := []) (Ef.boxA rfl rfl) ?_
  rintro _ ⟨g3, rfl⟩
  refine SWl.rd rfl (Rd.assign rfl) ?_
  refine SWl.nil ?_
  refine SN.then ?_
  refine SW.seq ?_
  refine SW.region ?_
  refine SWl.rd rfl (Rd.loadA 0 4 rfl rfl (by kernel_rfl) rfl trivial) ?_
  refine SWl.rd rfl (Rd.move rfl) ?_
  refine SWl.rd rfl (Rd.build rfl rfl bldR0) ?_
  refine SWl.rd rfl (Rd.move rfl) ?_
  refine SWl.ef (S := []) (Ef.call (con_same2L rfl rfl he) rfl ⟨Le.refl _, Le.refl _, le_rat0, Le.refl _, trivial⟩ rfl) ?_
  rintro _ rfl
  refine SWl.rd rfl (Rd.assign rfl) ?_
  refine SWl.nil ?_
  refine SN.then ?_
  refine SW.ret (fn := Try.f53) (fun _ _ h => h) (Rs.one rfl (ResV.tmp rfl))
theorem i64_512 {n : Int} (h1 : -9223372036854775808 ≤ n) (h2 : n ≤ 9223372036854775807) : n.natAbs < big512 := by
  have h : n.natAbs < 256 ^ 9 := by omega
  exact Nat.lt_of_lt_of_le h (by unfold big512; exact Nat.pow_le_pow_right (by decide) (by decide))
set_option maxHeartbeats 4000000 in
set_option maxRecDepth 100000 in
theorem con_ofQ {n d : Int} (h1 : -9223372036854775808 ≤ n) (h2 : n ≤ 9223372036854775807) (h3 : -9223372036854775808 ≤ d) (h4 : d ≤ 9223372036854775807) (h0 : d ≠ 0) : Con Try.prog 52 [errD n, errD d] (tupD [ratD (rn n d) (rd n d), errD 0]) := by
  have hn := i64_512 h1 h2
  have hd := i64_512 h3 h4
  refine con_of Try.func52 (by kernel_rfl) rfl (by kernel_rfl) fun base w0 => ?_
  refine SW.seq ?_
  refine SW.region ?_
  refine SWl.ef (S := []) (Ef.alloc (zs := [.bool false, .slice none 0 0, .bool false, .slice none 0 0]) (by kernel_rfl) rfl) ?_
  rintro _ ⟨g4, rfl⟩
  refine SWl.rd rfl (Rd.assign rfl) ?_
  refine SWl.nil ?_
  refine SN.then ?_
  refine SW.seq ?_
  refine SW.region ?_
  refine SWl.rd rfl (Rd.move rfl) ?_
  refine SWl.ef (S := []) (Ef.call (con_of_ h1 h2) rfl ⟨Le.refl _, trivial⟩ rfl) ?_
  rintro _ rfl
  refine SWl.rd rfl (Rd.move rfl) ?_
  refine SWl.ef (S := []) (Ef.call (con_of_ h3 h4) rfl ⟨Le.refl _, trivial⟩ rfl) ?_
  rintro _ rfl
  refine SWl.ef (S := []) (Ef.call (con_make hn hd h0) rfl ⟨Le.refl _, Le.refl _, trivial⟩ rfl) ?_
  rintro _ rfl
  refine SWl.rd rfl (Rd.extract rfl rfl) ?_
  refine SWl.rd rfl (Rd.extract rfl rfl) ?_
  refine SWl.ef (S := [_]) (Ef.storeA 0 rfl rfl rfl (by kernel_rfl) rfl (List.mem_singleton.2 rfl)) ?_
  rintro _ rfl
  refine SWl.rd rfl (Rd.assign rfl) ?_
  refine SWl.nil ?_
  refine SN.then ?_
  refine SW.ret (fn := Try.f52) (fun _ _ h => h) (Rs.two rfl (ResV.cellA 0 rfl rfl (by kernel_rfl)) (ResV.tmp rfl))
set_option maxHeartbeats 4000000 in
set_option maxRecDepth 100000 in
theorem con_ofQ0 {n : Int} (h1 : -9223372036854775808 ≤ n) (h2 : n ≤ 9223372036854775807) : Con Try.prog 52 [errD n, errD 0] (tupD [ratD 0 0, errD 2]) := by
  have hn := i64_512 h1 h2
  refine con_of Try.func52 (by kernel_rfl) rfl (by kernel_rfl) fun base w0 => ?_
  refine SW.seq ?_
  refine SW.region ?_
  refine SWl.ef (S := []) (Ef.alloc (zs := [.bool false, .slice none 0 0, .bool false, .slice none 0 0]) (by kernel_rfl) rfl) ?_
  rintro _ ⟨g4, rfl⟩
  refine SWl.rd rfl (Rd.assign rfl) ?_
  refine SWl.nil ?_
  refine SN.then ?_
  refine SW.seq ?_
  refine SW.region ?_
  refine SWl.rd rfl (Rd.move rfl) ?_
  refine SWl.ef (S := []) (Ef.call (con_of_ h1 h2) rfl ⟨Le.refl _, trivial⟩ rfl) ?_
  rintro _ rfl
  refine SWl.rd rfl (Rd.move rfl) ?_
  refine SWl.ef (S := []) (Ef.call (con_of_ (by decide) (by decide)) rfl ⟨Le.refl _, trivial⟩ rfl) ?_
  rintro _ rfl
  refine SWl.ef (S := []) (Ef.call (make_3 hn rfl) rfl ⟨Le.refl _, Le.refl _, trivial⟩ rfl) ?_
  rintro _ rfl
  refine SWl.rd rfl (Rd.extract rfl rfl) ?_
  refine SWl.rd rfl (Rd.extract rfl rfl) ?_
  refine SWl.ef (S := [_]) (Ef.storeA 0 rfl rfl rfl (by kernel_rfl) rfl (List.mem_singleton.2 rfl)) ?_
  rintro _ rfl
  refine SWl.rd rfl (Rd.assign rfl) ?_
  refine SWl.nil ?_
  refine SN.then ?_
  refine SW.ret (fn := Try.f52) (fun _ _ h => h) (Rs.two rfl (ResV.cellA 0 rfl rfl (by kernel_rfl)) (ResV.tmp rfl))
set_option maxHeartbeats 4000000 in
set_option maxRecDepth 100000 in
theorem con_ofQR {n d : Int} (h1 : -9223372036854775808 ≤ n) (h2 : n ≤ 9223372036854775807) (h3 : -9223372036854775808 ≤ d) (h4 : d ≤ 9223372036854775807) (h0 : d ≠ 0) : Con Try.prog 56 [errD n, errD d] (ratD (rn n d) (rd n d)) := by
  have hn := i64_512 h1 h2
  have hd := i64_512 h3 h4
  refine con_of Try.func56 (by kernel_rfl) rfl (by kernel_rfl) fun base w0 => ?_
  refine SW.seq ?_
  refine SW.region ?_
  refine SWl.ef (S := []) (Ef.alloc (zs := [.bool false, .slice none 0 0, .bool false, .slice none 0 0]) (by kernel_rfl) rfl) ?_
  rintro _ ⟨g4, rfl⟩
  refine SWl.nil ?_
  refine SN.then ?_
  refine SW.seq ?_
  refine SW.region ?_
  refine SWl.rd rfl (Rd.move rfl) ?_
  refine SWl.ef (S := []) (Ef.call (con_ofR h1 h2) rfl ⟨Le.refl _, trivial⟩ rfl) ?_
  rintro _ rfl
  refine SWl.rd rfl (Rd.move rfl) ?_
  refine SWl.ef (S := []) (Ef.call (con_ofR h3 h4) rfl ⟨Le.refl _, trivial⟩ rfl) ?_
  rintro _ rfl
  refine SWl.ef (S := []) (Ef.call (con_reduceR hn hd h0) rfl ⟨Le.refl _, Le.refl _, trivial⟩ rfl) ?_
  rintro _ rfl
  refine SWl.ef (S := [_]) (Ef.storeA 0 rfl rfl rfl (by kernel_rfl) rfl (List.mem_singleton.2 rfl)) ?_
  rintro _ rfl
  refine SWl.nil ?_
  refine SN.then ?_
  refine SW.ret (fn := Try.f56) (fun _ _ h => h) (Rs.one rfl (ResV.cellA 0 rfl rfl (by kernel_rfl)))
set_option maxHeartbeats 4000000 in
set_option maxRecDepth 100000 in
theorem con_zero  : Con Try.prog 57 [] (ratD 0 1) := by
  refine con_of Try.func57 (by kernel_rfl) rfl (by kernel_rfl) fun base w0 => ?_
  refine SW.seq ?_
  refine SW.region ?_
  refine SWl.ef (S := []) (Ef.alloc (zs := [.bool false, .slice none 0 0, .bool false, .slice none 0 0]) (by kernel_rfl) rfl) ?_
  rintro _ ⟨g0, rfl⟩
  refine SWl.nil ?_
  refine SN.then ?_
  refine SW.seq ?_
  refine SW.region ?_
  refine SWl.ef (S := []) (Ef.call (con_of_ (by decide) (by decide)) rfl ⟨Le.refl _, trivial⟩ rfl) ?_
  rintro _ rfl
  refine SWl.ef (S := []) (Ef.call (con_of_ (by decide) (by decide)) rfl ⟨Le.refl _, trivial⟩ rfl) ?_
  rintro _ rfl
  refine SWl.rd rfl (Rd.build rfl rfl bldR2) ?_
  refine SWl.ef (S := [_]) (Ef.storeA 0 rfl rfl rfl (by kernel_rfl) rfl (List.mem_singleton.2 rfl)) ?_
  rintro _ rfl
  refine SWl.nil ?_
  refine SN.then ?_
  refine SW.ret (fn := Try.f57) (fun _ _ h => h) (Rs.one rfl (ResV.cellA 0 rfl rfl (by kernel_rfl)))
set_option maxHeartbeats 4000000 in
set_option maxRecDepth 100000 in
theorem con_from {n : Int} (hn : n.natAbs < big512) : Con Try.prog 51 [intD n] (tupD [ratD n 1, errD 0]) := by
  have hG := Good.one hn
  refine con_of Try.func51 (by kernel_rfl) rfl (by kernel_rfl) fun base w0 => ?_
  refine SW.seq ?_
  refine SW.region ?_
  refine SWl.ef (S := []) (Ef.boxA rfl rfl) ?_
  rintro _ ⟨g1, rfl⟩
  refine SWl.ef (S := []) (Ef.alloc (zs := [.bool false, .slice none 0 0, .bool false, .slice none 0 0]) (by kernel_rfl) rfl) ?_
  rintro _ ⟨g2, rfl⟩
  refine SWl.rd rfl (Rd.assign rfl) ?_
  refine SWl.nil ?_
  refine SN.then ?_
  refine SW.seq ?_
  refine SW.draw [g2] (.r 0 (.n 1 (.n 2 (.r 3 (.r 4 (.e 5 (.r 6 .fin) .no))) .no) .no)) (by kernel_rfl) (by kernel_rfl) (fun d _ _ _ _ h => by cases d <;> exact h) ?_
  refine SWz.rd (i := 0) rfl rfl (Rd.loadA 0 2 rfl rfl (by kernel_rfl) rfl ⟨⟨1, _, rfl, by decide⟩, trivial⟩) ?_
  refine SWz.efn (i := 1) rfl (Ef.call (con_of_ (by decide) (by decide)) rfl ⟨Le.refl _, trivial⟩ rfl) ?_ SWz.no
  rintro _ rfl
  refine SWz.efn (i := 2) rfl (Ef.call (con_make hn one512 (by decide)) rfl ⟨Le.refl _, Le.refl _, trivial⟩ rfl) ?_ SWz.no
  rintro _ rfl
  refine SWz.rd (i := 3) rfl rfl (Rd.extract rfl rfl) ?_
  refine SWz.rd (i := 4) rfl rfl (Rd.extract rfl rfl) ?_
  refine SWz.efe (i := 5) rfl (Ef.storeA 1 rfl rfl rfl (by kernel_rfl) rfl (List.mem_of_getElem? (i := 0) rfl)) ?_ SWz.no
  rintro _ rfl
  refine SWz.rd (i := 6) rfl rfl (Rd.assign rfl) ?_
  refine SWz.nil ?_
  refine SN.then ?_
  refine SW.ret (fn := Try.f51) (fun _ _ h => h) (Rs.le (Rs.two rfl (ResV.cellA 1 rfl rfl (by kernel_rfl)) (ResV.tmp rfl)) ?_)
  exact Le.tup ⟨le_rat hG.rn hG.rd, Le.refl _, trivial⟩
set_option maxHeartbeats 4000000 in
set_option maxRecDepth 100000 in
theorem con_fromB {s : Bool} {b : List Nat} (h : vld s b = false) : Con Try.prog 51 [rintD s b] (tupD [ratD 0 0, errD 2]) := by
  refine con_of Try.func51 (by kernel_rfl) rfl (by kernel_rfl) fun base w0 => ?_
  refine SW.seq ?_
  refine SW.region ?_
  refine SWl.ef (S := []) (Ef.boxA rfl rfl) ?_
  rintro _ ⟨g1, rfl⟩
  refine SWl.ef (S := []) (Ef.alloc (zs := [.bool false, .slice none 0 0, .bool false, .slice none 0 0]) (by kernel_rfl) rfl) ?_
  rintro _ ⟨g2, rfl⟩
  refine SWl.rd rfl (Rd.assign rfl) ?_
  refine SWl.nil ?_
  refine SN.then ?_
  refine SW.seq ?_
  refine SW.draw [g2] (.r 0 (.n 1 (.n 2 (.r 3 (.r 4 (.e 5 (.r 6 .fin) .no))) .no) .no)) (by kernel_rfl) (by kernel_rfl) (fun d _ _ _ _ h => by cases d <;> exact h) ?_
  refine SWz.rd (i := 0) rfl rfl (Rd.loadA 0 2 rfl rfl (by kernel_rfl) rfl ⟨⟨1, _, rfl, by decide⟩, trivial⟩) ?_
  refine SWz.efn (i := 1) rfl (Ef.call (con_of_ (by decide) (by decide)) rfl ⟨Le.refl _, trivial⟩ rfl) ?_ SWz.no
  rintro _ rfl
  refine SWz.efn (i := 2) rfl (Ef.call (make_1 h) rfl ⟨Le.refl _, Le.refl _, trivial⟩ rfl) ?_ SWz.no
  rintro _ rfl
  refine SWz.rd (i := 3) rfl rfl (Rd.extract rfl rfl) ?_
  refine SWz.rd (i := 4) rfl rfl (Rd.extract rfl rfl) ?_
  refine SWz.efe (i := 5) rfl (Ef.storeA 1 rfl rfl rfl (by kernel_rfl) rfl (List.mem_of_getElem? (i := 0) rfl)) ?_ SWz.no
  rintro _ rfl
  refine SWz.rd (i := 6) rfl rfl (Rd.assign rfl) ?_
  refine SWz.nil ?_
  refine SN.then ?_
  refine SW.ret (fn := Try.f51) (fun _ _ h => h) (Rs.two rfl (ResV.cellA 1 rfl rfl (by kernel_rfl)) (ResV.tmp rfl))
end Sx
end Go.Proofs.Ytddfphneidcibaa
namespace Go.Proofs.Ytddfphneidcibaa
open Go.RowKit
open Nm (W32)
namespace Sx
/-- Rounded up. -/
def ceilZ (n d : Int) : Int := if dr n d = 0 then dq n d else dq n d + 1
theorem ceil_abs {n d : Int} (hd : 0 < d) (h : dr n d ≠ 0) : (dq n d + 1).natAbs ≤ n.natAbs := by
  have h1 := dq_dr (y := d) n (by omega)
  have h2 := dr_abs (x := n) (y := d) (by omega)
  have h3 : 0 < dr n d := by
    unfold dr sgn at *
    rw [decide_eq_false (show ¬ d < 0 by omega)] at *
    simp only [Bool.false_eq_true, if_false] at *
    omega
  generalize dq n d = q at *
  generalize dr n d = r at *
  rcases Int.lt_or_le q 0 with hq | hq
  · have e : (q + 1) * d ≤ (q + 1) * 1 := Int.mul_le_mul_of_nonpos_left (by omega) (by omega)
    rw [Int.add_mul, Int.one_mul] at e
    omega
  · have e : q * 1 ≤ q * d := Int.mul_le_mul_of_nonneg_left (by omega) hq
    omega
set_option maxHeartbeats 4000000 in
set_option maxRecDepth 100000 in
theorem con_signQ {n d : Int} (hG : Good n d) : Con Try.prog 76 [ratD n d] (errD n.sign) := by
  refine con_of Try.func76 (by kernel_rfl) rfl (by kernel_rfl) fun base w0 => ?_
  refine SW.seq ?_
  refine SW.region ?_
  refine SWl.ef (S := []) (Ef.boxA rfl rfl) ?_
  rintro _ ⟨g1, rfl⟩
  refine SWl.rd rfl (Rd.assign rfl) ?_
  refine SWl.nil ?_
  refine SN.then ?_
  refine SW.seq ?_
  refine SW.seq ?_
  refine SW.region ?_
  refine SWl.rd rfl (Rd.loadA 0 4 rfl rfl (by kernel_rfl) rfl trivial) ?_
  refine SWl.ef (S := []) (Ef.call (con_rvalT hG) rfl ⟨Le.refl _, trivial⟩ rfl) ?_
  rintro _ rfl
  refine SWl.rd rfl (Rd.not rfl) ?_
  refine SWl.nil ?_
  refine SN.then ?_
  refine SW.condF rfl (rfl) ?_
  refine SW.skip ?_
  refine SN.then ?_
  refine SW.seq ?_
  refine SW.region ?_
  refine SWl.rd rfl (Rd.fieldAddr (n := 0) rfl (by kernel_rfl)) ?_
  refine SWl.rd rfl (Rd.loadA 0 2 rfl rfl (by kernel_rfl) rfl trivial) ?_
  refine SWl.ef (S := []) (Ef.call (con_sign hG.hn) rfl ⟨Le.refl _, trivial⟩ rfl) ?_
  rintro _ rfl
  refine SWl.rd rfl (Rd.assign rfl) ?_
  refine SWl.nil ?_
  refine SN.then ?_
  refine SW.ret (fn := Try.f76) (fun _ _ h => h) (Rs.one rfl (ResV.tmp rfl))
set_option maxHeartbeats 4000000 in
set_option maxRecDepth 100000 in
theorem con_signQB {s t : Bool} {b c : List Nat} (hB : Byt b c) (h : rvld s b t c = false) : Con Try.prog 76 [rratD s b t c] (errD 0) := by
  refine con_of Try.func76 (by kernel_rfl) rfl (by kernel_rfl) fun base w0 => ?_
  refine SW.seq ?_
  refine SW.region ?_
  refine SWl.ef (S := []) (Ef.boxA rfl rfl) ?_
  rintro _ ⟨g1, rfl⟩
  refine SWl.rd rfl (Rd.assign rfl) ?_
  refine SWl.nil ?_
  refine SN.then ?_
  refine SW.seq ?_
  refine SW.seq ?_
  refine SW.region ?_
  refine SWl.rd rfl (Rd.loadA 0 4 rfl rfl (by kernel_rfl) rfl trivial) ?_
  refine SWl.ef (S := []) (Ef.call (con_rvalF hB h) rfl ⟨Le.refl _, trivial⟩ rfl) ?_
  rintro _ rfl
  refine SWl.rd rfl (Rd.not rfl) ?_
  refine SWl.nil ?_
  refine SN.then ?_
  refine SW.condT rfl (rfl) ?_
  refine SW.seq ?_
  refine SW.region ?_
  refine SWl.rd rfl (Rd.assign rfl) ?_
  refine SWl.nil ?_
  refine SN.then ?_
  refine SW.ret (fn := Try.f76) (fun _ _ h => h) (Rs.one rfl (ResV.tmp rfl))
set_option maxHeartbeats 4000000 in
set_option maxRecDepth 100000 in
theorem con_negQ {n d : Int} (hG : Good n d) : Con Try.prog 72 [ratD n d] (tupD [ratD (-n) d, errD 0]) := by
  refine con_of Try.func72 (by kernel_rfl) rfl (by kernel_rfl) fun base w0 => ?_
  refine SW.seq ?_
  refine SW.region ?_
  refine SWl.ef (S := []) (Ef.boxA rfl rfl) ?_
  rintro _ ⟨g1, rfl⟩
  refine SWl.ef (S := []) (Ef.alloc (zs := [.bool false, .slice none 0 0, .bool false, .slice none 0 0]) (by kernel_rfl) rfl) ?_
  rintro _ ⟨g2, rfl⟩
  refine SWl.rd rfl (Rd.assign rfl) ?_
  refine SWl.nil ?_
  refine SN.then ?_
  refine SW.seq ?_
  refine SW.seq ?_
  refine SW.region ?_
  refine SWl.rd rfl (Rd.loadA 0 4 rfl rfl (by kernel_rfl) rfl trivial) ?_
  refine SWl.ef (S := []) (Ef.call (con_rvalT hG) rfl ⟨Le.refl _, trivial⟩ rfl) ?_
  rintro _ rfl
  refine SWl.rd rfl (Rd.not rfl) ?_
  refine SWl.nil ?_
  refine SN.then ?_
  refine SW.condF rfl (rfl) ?_
  refine SW.skip ?_
  refine SN.then ?_
  refine SW.seq ?_
  refine SW.region ?_
  refine SWl.rd rfl (Rd.fieldAddr (n := 0) rfl (by kernel_rfl)) ?_
  refine SWl.rd rfl (Rd.loadA 0 2 rfl rfl (by kernel_rfl) rfl trivial) ?_
  refine SWl.ef (S := []) (Ef.call (con_neg hG.hn) rfl ⟨Le.refl _, trivial⟩ rfl) ?_
  rintro _ rfl
  refine SWl.rd rfl (Rd.move rfl) ?_
  refine SWl.rd rfl (Rd.extract rfl rfl) ?_
  refine SWl.rd rfl (Rd.extract rfl rfl) ?_
  refine SWl.ef (S := []) (Ef.alloc (zs := [.bool false, .slice none 0 0]) (by kernel_rfl) rfl) ?_
  rintro _ ⟨g4, rfl⟩
  refine SWl.ef (S := [_]) (Ef.storeA 2 rfl rfl rfl (by kernel_rfl) rfl (List.mem_singleton.2 rfl)) ?_
  rintro _ rfl
  refine SWl.rd rfl (Rd.assign rfl) ?_
  refine SWl.nil ?_
  refine SN.then ?_
  refine SW.seq ?_
  refine SW.seq ?_
  refine SW.region ?_
  refine SWl.rd rfl (Rd.move rfl) ?_
  refine SWl.rd rfl (Rd.nei rfl rfl) ?_
  refine SWl.nil ?_
  refine SN.then ?_
  refine SW.condF rfl (by decide) ?_
  refine SW.skip ?_
  refine SN.then ?_
  refine SW.seq ?_
  refine SW.region ?_
  refine SWl.rd rfl (Rd.loadA 2 2 rfl rfl (by kernel_rfl) rfl trivial) ?_
  refine SWl.rd rfl (Rd.fieldAddr (n := 2) rfl (by kernel_rfl)) ?_
  refine SWl.rd rfl (Rd.loadA 0 2 rfl rfl (by kernel_rfl) rfl trivial) ?_
  refine SWl.ef (S := []) (Ef.call (con_make hG.neg.hn hG.hd hG.d0) rfl ⟨Le.refl _, Le.refl _, trivial⟩ rfl) ?_
  rintro _ rfl
  refine SWl.rd rfl (Rd.extract rfl rfl) ?_
  refine SWl.rd rfl (Rd.extract rfl rfl) ?_
  refine SWl.ef (S := [_]) (Ef.storeA 1 rfl rfl rfl (by kernel_rfl) rfl (List.mem_singleton.2 rfl)) ?_
  rintro _ rfl
  refine SWl.rd rfl (Rd.assign rfl) ?_
  refine SWl.nil ?_
  refine SN.then ?_
  refine SW.ret (fn := Try.f72) (fun _ _ h => h) (Rs.le (Rs.two rfl (ResV.cellA 1 rfl rfl (by kernel_rfl)) (ResV.tmp rfl)) ?_)
  exact Le.tup ⟨le_rat hG.neg.rn hG.neg.rd, Le.refl _, trivial⟩
set_option maxHeartbeats 4000000 in
set_option maxRecDepth 100000 in
theorem con_negQB {s t : Bool} {b c : List Nat} (hB : Byt b c) (h : rvld s b t c = false) : Con Try.prog 72 [rratD s b t c] (tupD [ratD 0 0, errD 2]) := by
  refine con_of Try.func72 (by kernel_rfl) rfl (by kernel_rfl) fun base w0 => ?_
  refine SW.seq ?_
  refine SW.region ?_
  refine SWl.ef (S := []) (Ef.boxA rfl rfl) ?_
  rintro _ ⟨g1, rfl⟩
  refine SWl.ef (S := []) (Ef.alloc (zs := [.bool false, .slice none 0 0, .bool false, .slice none 0 0]) (by kernel_rfl) rfl) ?_
  rintro _ ⟨g2, rfl⟩
  refine SWl.rd rfl (Rd.assign rfl) ?_
  refine SWl.nil ?_
  refine SN.then ?_
  refine SW.seq ?_
  refine SW.seq ?_
  refine SW.region ?_
  refine SWl.rd rfl (Rd.loadA 0 4 rfl rfl (by kernel_rfl) rfl trivial) ?_
  refine SWl.ef (S := []) (Ef.call (con_rvalF hB h) rfl ⟨Le.refl _, trivial⟩ rfl) ?_
  rintro _ rfl
  refine SWl.rd rfl (Rd.not rfl) ?_
  refine SWl.nil ?_
  refine SN.then ?_
  refine SW.condT rfl (rfl) ?_
  refine SW.seq ?_
  refine SW.region ?_
  refine SWl.rd rfl (Rd.build rfl rfl bldR0) ?_
  refine SWl.ef (S := [_]) (Ef.storeA 1 rfl rfl rfl (by kernel_rfl) rfl (List.mem_singleton.2 rfl)) ?_
  rintro _ rfl
  refine SWl.rd rfl (Rd.assign rfl) ?_
  refine SWl.nil ?_
  refine SN.then ?_
  refine SW.ret (fn := Try.f72) (fun _ _ h => h) (Rs.le (Rs.two rfl (ResV.cellA 1 rfl rfl (by kernel_rfl)) (ResV.tmp rfl)) ?_)
  exact Le.tup ⟨le_rat0, Le.refl _, trivial⟩
set_option maxHeartbeats 4000000 in
set_option maxRecDepth 100000 in
theorem con_floor {n d : Int} (hG : Good n d) : Con Try.prog 73 [ratD n d] (tupD [intD (dq n d), errD 0]) := by
  refine con_of Try.func73 (by kernel_rfl) rfl (by kernel_rfl) fun base w0 => ?_
  refine SW.seq ?_
  refine SW.region ?_
  refine SWl.ef (S := []) (Ef.boxA rfl rfl) ?_
  rintro _ ⟨g1, rfl⟩
  refine SWl.ef (S := []) (Ef.alloc (zs := [.bool false, .slice none 0 0]) (by kernel_rfl) rfl) ?_
  rintro _ ⟨g2, rfl⟩
  refine SWl.rd rfl (Rd.assign rfl) ?_
  refine SWl.nil ?_
  refine SN.then ?_
  refine SW.seq ?_
  refine SW.seq ?_
  refine SW.region ?_
  refine SWl.rd rfl (Rd.loadA 0 4 rfl rfl (by kernel_rfl) rfl trivial) ?_
  refine SWl.ef (S := []) (Ef.call (con_rvalT hG) rfl ⟨Le.refl _, trivial⟩ rfl) ?_
  rintro _ rfl
  refine SWl.rd rfl (Rd.not rfl) ?_
  refine SWl.nil ?_
  refine SN.then ?_
  refine SW.condF rfl (rfl) ?_
  refine SW.skip ?_
  refine SN.then ?_
  refine SW.seq ?_
  refine SW.region ?_
  refine SWl.rd rfl (Rd.fieldAddr (n := 0) rfl (by kernel_rfl)) ?_
  refine SWl.rd rfl (Rd.loadA 0 2 rfl rfl (by kernel_rfl) rfl trivial) ?_
  refine SWl.rd rfl (Rd.fieldAddr (n := 2) rfl (by kernel_rfl)) ?_
  refine SWl.rd rfl (Rd.loadA 0 2 rfl rfl (by kernel_rfl) rfl trivial) ?_
  refine SWl.ef (S := []) (Ef.call (con_divMod hG.hn hG.hd hG.d0) rfl ⟨Le.refl _, Le.refl _, trivial⟩ rfl) ?_
  rintro _ rfl
  refine SWl.rd rfl (Rd.move rfl) ?_
  refine SWl.rd rfl (Rd.extract rfl rfl) ?_
  refine SWl.rd rfl (Rd.extract rfl rfl) ?_
  refine SWl.rd rfl (Rd.extract rfl rfl) ?_
  refine SWl.ef (S := []) (Ef.alloc (zs := [.bool false, .slice none 0 0]) (by kernel_rfl) rfl) ?_
  rintro _ ⟨g4, rfl⟩
  refine SWl.ef (S := []) (Ef.alloc (zs := [.bool false, .slice none 0 0]) (by kernel_rfl) rfl) ?_
  rintro _ ⟨g5, rfl⟩
  refine SWl.ef (S := [_]) (Ef.storeA 2 rfl rfl rfl (by kernel_rfl) rfl (List.mem_singleton.2 rfl)) ?_
  rintro _ rfl
  refine SWl.ef (S := [_]) (Ef.storeA 3 rfl rfl rfl (by kernel_rfl) rfl (List.mem_singleton.2 rfl)) ?_
  rintro _ rfl
  refine SWl.rd rfl (Rd.assign rfl) ?_
  refine SWl.nil ?_
  refine SN.then ?_
  refine SW.seq ?_
  refine SW.region ?_
  refine SWl.rd rfl (Rd.loadA 2 2 rfl rfl (by kernel_rfl) rfl trivial) ?_
  refine SWl.rd rfl (Rd.move rfl) ?_
  refine SWl.ef (S := [_]) (Ef.storeA 1 rfl rfl rfl (by kernel_rfl) rfl (List.mem_singleton.2 rfl)) ?_
  rintro _ rfl
  refine SWl.rd rfl (Rd.assign rfl) ?_
  refine SWl.nil ?_
  refine SN.then ?_
  refine SW.ret (fn := Try.f73) (fun _ _ h => h) (Rs.two rfl (ResV.cellA 1 rfl rfl (by kernel_rfl)) (ResV.tmp rfl))
set_option maxHeartbeats 4000000 in
set_option maxRecDepth 100000 in
theorem con_floorB {s t : Bool} {b c : List Nat} (hB : Byt b c) (h : rvld s b t c = false) : Con Try.prog 73 [rratD s b t c] (tupD [intD 0, errD 2]) := by
  refine con_of Try.func73 (by kernel_rfl) rfl (by kernel_rfl) fun base w0 => ?_
  refine SW.seq ?_
  refine SW.region ?_
  refine SWl.ef (S := []) (Ef.boxA rfl rfl) ?_
  rintro _ ⟨g1, rfl⟩
  refine SWl.ef (S := []) (Ef.alloc (zs := [.bool false, .slice none 0 0]) (by kernel_rfl) rfl) ?_
  rintro _ ⟨g2, rfl⟩
  refine SWl.rd rfl (Rd.assign rfl) ?_
  refine SWl.nil ?_
  refine SN.then ?_
  refine SW.seq ?_
  refine SW.seq ?_
  refine SW.region ?_
  refine SWl.rd rfl (Rd.loadA 0 4 rfl rfl (by kernel_rfl) rfl trivial) ?_
  refine SWl.ef (S := []) (Ef.call (con_rvalF hB h) rfl ⟨Le.refl _, trivial⟩ rfl) ?_
  rintro _ rfl
  refine SWl.rd rfl (Rd.not rfl) ?_
  refine SWl.nil ?_
  refine SN.then ?_
  refine SW.condT rfl (rfl) ?_
  refine SW.seq ?_
  refine SW.region ?_
  refine SWl.rd rfl (Rd.build rfl rfl bldI0) ?_
  refine SWl.ef (S := [_]) (Ef.storeA 1 rfl rfl rfl (by kernel_rfl) rfl (List.mem_singleton.2 rfl)) ?_
  rintro _ rfl
  refine SWl.rd rfl (Rd.assign rfl) ?_
  refine SWl.nil ?_
  refine SN.then ?_
  refine SW.ret (fn := Try.f73) (fun _ _ h => h) (Rs.le (Rs.two rfl (ResV.cellA 1 rfl rfl (by kernel_rfl)) (ResV.tmp rfl)) ?_)
  exact Le.tup ⟨le_int0, Le.refl _, trivial⟩
set_option maxHeartbeats 4000000 in
set_option maxRecDepth 100000 in
theorem con_ceil {n d : Int} (hG : Good n d) : Con Try.prog 74 [ratD n d] (tupD [intD (ceilZ n d), errD 0]) := by
  have hr5 := Nat.lt_trans (dr_abs (x := n) hG.d0) hG.hd
  have hq5 := Nat.lt_of_le_of_lt (dq_abs (x := n) hG.d0) hG.hn
  refine con_of Try.func74 (by kernel_rfl) rfl (by kernel_rfl) fun base w0 => ?_
  refine SW.seq ?_
  refine SW.region ?_
  refine SWl.ef (S := []) (Ef.boxA rfl rfl) ?_
  rintro _ ⟨g1, rfl⟩
  refine SWl.ef (S := []) (Ef.alloc (zs := [.bool false, .slice none 0 0]) (by kernel_rfl) rfl) ?_
  rintro _ ⟨g2, rfl⟩
  refine SWl.rd rfl (Rd.assign rfl) ?_
  refine SWl.nil ?_
  refine SN.then ?_
  refine SW.seq ?_
  refine SW.seq ?_
  refine SW.region ?_
  refine SWl.rd rfl (Rd.loadA 0 4 rfl rfl (by kernel_rfl) rfl trivial) ?_
  refine SWl.ef (S := []) (Ef.call (con_rvalT hG) rfl ⟨Le.refl _, trivial⟩ rfl) ?_
  rintro _ rfl
  refine SWl.rd rfl (Rd.not rfl) ?_
  refine SWl.nil ?_
  refine SN.then ?_
  refine SW.condF rfl (rfl) ?_
  refine SW.skip ?_
  refine SN.then ?_
  refine SW.seq ?_
  refine SW.region ?_
  refine SWl.rd rfl (Rd.fieldAddr (n := 0) rfl (by kernel_rfl)) ?_
  refine SWl.rd rfl (Rd.loadA 0 2 rfl rfl (by kernel_rfl) rfl trivial) ?_
  refine SWl.rd rfl (Rd.fieldAddr (n := 2) rfl (by kernel_rfl)) ?_
  refine SWl.rd rfl (Rd.loadA 0 2 rfl rfl (by kernel_rfl) rfl trivial) ?_
  refine SWl.ef (S := []) (Ef.call (con_divMod hG.hn hG.hd hG.d0) rfl ⟨Le.refl _, Le.refl _, trivial⟩ rfl) ?_
  rintro _ rfl
  refine SWl.rd rfl (Rd.move rfl) ?_
  refine SWl.rd rfl (Rd.extract rfl rfl) ?_
  refine SWl.rd rfl (Rd.extract rfl rfl) ?_
  refine SWl.rd rfl (Rd.extract rfl rfl) ?_
  refine SWl.ef (S := []) (Ef.alloc (zs := [.bool false, .slice none 0 0]) (by kernel_rfl) rfl) ?_
  rintro _ ⟨g4, rfl⟩
  refine SWl.ef (S := []) (Ef.alloc (zs := [.bool false, .slice none 0 0]) (by kernel_rfl) rfl) ?_
  rintro _ ⟨g5, rfl⟩
  refine SWl.ef (S := [_]) (Ef.storeA 2 rfl rfl rfl (by kernel_rfl) rfl (List.mem_singleton.2 rfl)) ?_
  rintro _ rfl
  refine SWl.ef (S := [_]) (Ef.storeA 3 rfl rfl rfl (by kernel_rfl) rfl (List.mem_singleton.2 rfl)) ?_
  rintro _ rfl
  refine SWl.rd rfl (Rd.assign rfl) ?_
  refine SWl.nil ?_
  refine SN.then ?_
  refine SW.seq ?_
  refine SW.seq ?_
  refine SW.region ?_
  refine SWl.rd rfl (Rd.move rfl) ?_
  refine SWl.rd rfl (Rd.nei rfl rfl) ?_
  refine SWl.rd rfl (Rd.move rfl) ?_
  refine SWl.rdg rfl rfl (by decide) rfl rfl (Rd.loadA 3 2 rfl rfl (by kernel_rfl) rfl trivial) ?_
  refine SWl.efg (S := []) rfl rfl (by decide) rfl (Ef.call (con_sign hr5) rfl ⟨Le.refl _, trivial⟩ rfl) ?_
  rintro _ rfl
  refine SWl.rdg rfl rfl (by decide) rfl rfl (Rd.eqi rfl rfl) ?_
  refine SWl.rd rfl (Rd.pickN rfl (by decide) rfl) ?_
  refine SWl.nil ?_
  refine SN.then ?_
  refine SW.cond rfl (fun hb26 => ?_) (fun hb26 => ?_)
  · have he : dr n d = 0 := sign_eq0.1 (of_decide_eq_true hb26)
    refine SW.seq ?_
    refine SW.region ?_
    refine SWl.rd rfl (Rd.loadA 2 2 rfl rfl (by kernel_rfl) rfl trivial) ?_
    refine SWl.rd rfl (Rd.move rfl) ?_
    refine SWl.ef (S := [_]) (Ef.storeA 1 rfl rfl rfl (by kernel_rfl) rfl (List.mem_singleton.2 rfl)) ?_
    rintro _ rfl
    refine SWl.rd rfl (Rd.assign rfl) ?_
    refine SWl.nil ?_
    refine SN.then ?_
    refine SW.ret (fn := Try.f74) (fun _ _ h => h) (Rs.le (Rs.two rfl (ResV.cellA 1 rfl rfl (by kernel_rfl)) (ResV.tmp rfl)) ?_)
    exact Le.tup ⟨le_int (by unfold ceilZ; rw [if_pos he]), Le.refl _, trivial⟩
  · have hne : dr n d ≠ 0 := fun e => of_decide_eq_false hb26 (by rw [e]; rfl)
    refine SW.skip ?_
    refine SN.then ?_
    refine SW.seq ?_
    refine SW.draw [g2] (.r 0 (.n 1 (.n 2 (.r 3 (.r 4 (.e 5 (.r 6 .fin) .no))) .no) .no)) (by kernel_rfl) (by kernel_rfl) (fun d _ _ _ _ h => by cases d <;> exact h) ?_
    refine SWz.rd (i := 0) rfl rfl (Rd.loadA 2 2 rfl rfl (by kernel_rfl) rfl ⟨⟨1, _, rfl, by decide⟩, trivial⟩) ?_
    refine SWz.efn (i := 1) rfl (Ef.call (con_of_ (by decide) (by decide)) rfl ⟨Le.refl _, trivial⟩ rfl) ?_ SWz.no
    rintro _ rfl
    refine SWz.efn (i := 2) rfl (Ef.call (con_addE hq5 one512 (Nat.lt_of_le_of_lt (ceil_abs hG.pos hne) hG.hn)) rfl ⟨Le.refl _, Le.refl _, trivial⟩ rfl) ?_ SWz.no
    rintro _ rfl
    refine SWz.rd (i := 3) rfl rfl (Rd.extract rfl rfl) ?_
    refine SWz.rd (i := 4) rfl rfl (Rd.extract rfl rfl) ?_
    refine SWz.efe (i := 5) rfl (Ef.storeA 1 rfl rfl rfl (by kernel_rfl) rfl (List.mem_of_getElem? (i := 0) rfl)) ?_ SWz.no
    rintro _ rfl
    refine SWz.rd (i := 6) rfl rfl (Rd.assign rfl) ?_
    refine SWz.nil ?_
    refine SN.then ?_
    refine SW.ret (fn := Try.f74) (fun _ _ h => h) (Rs.le (Rs.two rfl (ResV.cellA 1 rfl rfl (by kernel_rfl)) (ResV.tmp rfl)) ?_)
    exact Le.tup ⟨le_int (by unfold ceilZ; rw [if_neg hne]), Le.refl _, trivial⟩
set_option maxHeartbeats 4000000 in
set_option maxRecDepth 100000 in
theorem con_ceilB {s t : Bool} {b c : List Nat} (hB : Byt b c) (h : rvld s b t c = false) : Con Try.prog 74 [rratD s b t c] (tupD [intD 0, errD 2]) := by
  refine con_of Try.func74 (by kernel_rfl) rfl (by kernel_rfl) fun base w0 => ?_
  refine SW.seq ?_
  refine SW.region ?_
  refine SWl.ef (S := []) (Ef.boxA rfl rfl) ?_
  rintro _ ⟨g1, rfl⟩
  refine SWl.ef (S := []) (Ef.alloc (zs := [.bool false, .slice none 0 0]) (by kernel_rfl) rfl) ?_
  rintro _ ⟨g2, rfl⟩
  refine SWl.rd rfl (Rd.assign rfl) ?_
  refine SWl.nil ?_
  refine SN.then ?_
  refine SW.seq ?_
  refine SW.seq ?_
  refine SW.region ?_
  refine SWl.rd rfl (Rd.loadA 0 4 rfl rfl (by kernel_rfl) rfl trivial) ?_
  refine SWl.ef (S := []) (Ef.call (con_rvalF hB h) rfl ⟨Le.refl _, trivial⟩ rfl) ?_
  rintro _ rfl
  refine SWl.rd rfl (Rd.not rfl) ?_
  refine SWl.nil ?_
  refine SN.then ?_
  refine SW.condT rfl (rfl) ?_
  refine SW.seq ?_
  refine SW.region ?_
  refine SWl.rd rfl (Rd.build rfl rfl bldI0) ?_
  refine SWl.ef (S := [_]) (Ef.storeA 1 rfl rfl rfl (by kernel_rfl) rfl (List.mem_singleton.2 rfl)) ?_
  rintro _ rfl
  refine SWl.rd rfl (Rd.assign rfl) ?_
  refine SWl.nil ?_
  refine SN.then ?_
  refine SW.ret (fn := Try.f74) (fun _ _ h => h) (Rs.le (Rs.two rfl (ResV.cellA 1 rfl rfl (by kernel_rfl)) (ResV.tmp rfl)) ?_)
  exact Le.tup ⟨le_int0, Le.refl _, trivial⟩
theorem cmpZ_sign (n : Int) : cmpZ n 0 = n.sign := by
  unfold cmpZ
  by_cases h : n < 0
  · rw [if_pos h, Int.sign_eq_neg_one_of_neg h]
  · rw [if_neg h]
    by_cases h2 : n = 0
    · rw [if_pos h2, h2]; rfl
    · rw [if_neg h2, Int.sign_eq_one_of_pos (by omega)]
def rtxt (n d : Int) : List UInt8 := if d = 1 then txt n else txt n ++ [47] ++ txt d
set_option maxHeartbeats 4000000 in
set_option maxRecDepth 100000 in
theorem con_textQ {n d : Int} (hG : Good n d) : Con Try.prog 62 [ratD n d] (strD (rtxt n d)) := by
  have hl1 := txt_len n; have hl2 := txt_len d; have hl3 := absT_len hG.hn; have hl4 := absT_len hG.hd; have hl5 : (txt n).length ≤ 156 := (by rw [hl1]; split <;> omega); have hl6 : (txt d).length ≤ 156 := (by rw [hl2]; split <;> omega)
  refine con_of Try.func62 (by kernel_rfl) rfl (by kernel_rfl) fun base w0 => ?_
  refine SW.seq ?_
  refine SW.region ?_
  refine SWl.ef (S := []) (Ef.boxA rfl rfl) ?_
  rintro _ ⟨g1, rfl⟩
  refine SWl.rd rfl (Rd.assign rfl) ?_
  refine SWl.nil ?_
  refine SN.then ?_
  refine SW.seq ?_
  refine SW.seq ?_
  refine SW.region ?_
  refine SWl.rd rfl (Rd.loadA 0 4 rfl rfl (by kernel_rfl) rfl trivial) ?_
  refine SWl.ef (S := []) (Ef.call (con_rvalT hG) rfl ⟨Le.refl _, trivial⟩ rfl) ?_
  rintro _ rfl
  refine SWl.rd rfl (Rd.not rfl) ?_
  refine SWl.nil ?_
  refine SN.then ?_
  refine SW.condF rfl (rfl) ?_
  refine SW.skip ?_
  refine SN.then ?_
  refine SW.seq ?_
  refine SW.seq ?_
  refine SW.draw [] (.r 0 (.r 1 (.n 2 (.n 3 (.r 4 .fin) .no) .no))) (by kernel_rfl) (by kernel_rfl) (fun d _ _ _ _ h => by cases d <;> exact h) ?_
  refine SWz.rd (i := 0) rfl rfl (Rd.fieldAddr (n := 2) rfl (by kernel_rfl)) ?_
  refine SWz.rd (i := 1) rfl rfl (Rd.loadA 0 2 rfl rfl (by kernel_rfl) rfl trivial) ?_
  refine SWz.efn (i := 2) rfl (Ef.call (con_of_ (by decide) (by decide)) rfl ⟨Le.refl _, trivial⟩ rfl) ?_ SWz.no
  rintro _ rfl
  refine SWz.efn (i := 3) rfl (Ef.call (con_compare hG.hd one512) rfl ⟨Le.refl _, Le.refl _, trivial⟩ rfl) ?_ SWz.no
  rintro _ rfl
  refine SWz.rd (i := 4) rfl rfl (Rd.eqi rfl rfl) ?_
  refine SWz.nil ?_
  refine SN.then ?_
  refine SW.cond rfl (fun hb10 => ?_) (fun hb10 => ?_)
  · have h1 : d = 1 := cmpZ_eq0.1 (of_decide_eq_true hb10)
    refine SW.seq ?_
    refine SW.region ?_
    refine SWl.rd rfl (Rd.fieldAddr (n := 0) rfl (by kernel_rfl)) ?_
    refine SWl.rd rfl (Rd.loadA 0 2 rfl rfl (by kernel_rfl) rfl trivial) ?_
    refine SWl.ef (S := []) (Ef.call (con_text hG.hn) rfl ⟨Le.refl _, trivial⟩ rfl) ?_
    rintro _ rfl
    refine SWl.rd rfl (Rd.assign rfl) ?_
    refine SWl.nil ?_
    refine SN.then ?_
    refine SW.ret (fn := Try.f62) (fun _ _ h => h) (Rs.le (Rs.one rfl (ResV.tmp rfl)) ?_)
    exact le_v (by unfold rtxt; rw [if_pos h1])
  · have h1 : ¬ d = 1 := fun e => of_decide_eq_false hb10 (cmpZ_eq0.2 e)
    refine SW.skip ?_
    refine SN.then ?_
    refine SW.seq ?_
    refine SW.draw [] (.r 0 (.r 1 (.r 4 (.r 5 (.n 2 (.r 3 (.n 6 (.r 7 (.r 8 .fin)) .no)) .no))))) (by kernel_rfl) (by kernel_rfl) (fun d _ _ _ _ h => by cases d <;> exact h) ?_
    refine SWz.rd (i := 0) rfl rfl (Rd.fieldAddr (n := 0) rfl (by kernel_rfl)) ?_
    refine SWz.rd (i := 1) rfl rfl (Rd.loadA 0 2 rfl rfl (by kernel_rfl) rfl trivial) ?_
    refine SWz.rd (i := 4) rfl rfl (Rd.fieldAddr (n := 2) rfl (by kernel_rfl)) ?_
    refine SWz.rd (i := 5) rfl rfl (Rd.loadA 0 2 rfl rfl (by kernel_rfl) rfl trivial) ?_
    refine SWz.efn (i := 2) rfl (Ef.call (con_text hG.hn) rfl ⟨Le.refl _, trivial⟩ rfl) ?_ SWz.no
    rintro _ rfl
    refine SWz.rd (i := 3) rfl rfl (Rd.sadd rfl rfl (by simp; omega)) ?_
    refine SWz.efn (i := 6) rfl (Ef.call (con_text hG.hd) rfl ⟨Le.refl _, trivial⟩ rfl) ?_ SWz.no
    rintro _ rfl
    refine SWz.rd (i := 7) rfl rfl (Rd.sadd rfl rfl (by simp; omega)) ?_
    refine SWz.rd (i := 8) rfl rfl (Rd.assign rfl) ?_
    refine SWz.nil ?_
    refine SN.then ?_
    refine SW.ret (fn := Try.f62) (fun _ _ h => h) (Rs.le (Rs.one rfl (ResV.tmp rfl)) ?_)
    exact le_v (by unfold rtxt; rw [if_neg h1])
set_option maxHeartbeats 4000000 in
set_option maxRecDepth 100000 in
theorem con_textQB {s t : Bool} {b c : List Nat} (hB : Byt b c) (h : rvld s b t c = false) : Con Try.prog 62 [rratD s b t c] (strD []) := by
  refine con_of Try.func62 (by kernel_rfl) rfl (by kernel_rfl) fun base w0 => ?_
  refine SW.seq ?_
  refine SW.region ?_
  refine SWl.ef (S := []) (Ef.boxA rfl rfl) ?_
  rintro _ ⟨g1, rfl⟩
  refine SWl.rd rfl (Rd.assign rfl) ?_
  refine SWl.nil ?_
  refine SN.then ?_
  refine SW.seq ?_
  refine SW.seq ?_
  refine SW.region ?_
  refine SWl.rd rfl (Rd.loadA 0 4 rfl rfl (by kernel_rfl) rfl trivial) ?_
  refine SWl.ef (S := []) (Ef.call (con_rvalF hB h) rfl ⟨Le.refl _, trivial⟩ rfl) ?_
  rintro _ rfl
  refine SWl.rd rfl (Rd.not rfl) ?_
  refine SWl.nil ?_
  refine SN.then ?_
  refine SW.condT rfl (rfl) ?_
  refine SW.seq ?_
  refine SW.region ?_
  refine SWl.rd rfl (Rd.assign rfl) ?_
  refine SWl.nil ?_
  refine SN.then ?_
  refine SW.ret (fn := Try.f62) (fun _ _ h => h) (Rs.one rfl (ResV.tmp rfl))
set_option maxHeartbeats 4000000 in
set_option maxRecDepth 100000 in
theorem con_textQR {n d : Int} (hG : Good n d) : Con Try.prog 60 [ratD n d] (strD (rtxt n d)) := by
  have hl1 := txt_len n; have hl2 := txt_len d; have hl3 := absT_len hG.hn; have hl4 := absT_len hG.hd; have hl5 : (txt n).length ≤ 156 := (by rw [hl1]; split <;> omega); have hl6 : (txt d).length ≤ 156 := (by rw [hl2]; split <;> omega)
  refine con_of Try.func60 (by kernel_rfl) rfl (by kernel_rfl) fun base w0 => ?_
  refine SW.seq ?_
  refine SW.region ?_
  refine SWl.ef (S := []) (Ef.boxA rfl rfl) ?_
  rintro _ ⟨g1, rfl⟩
  refine SWl.rd rfl (Rd.assign rfl) ?_
  refine SWl.nil ?_
  refine SN.then ?_
  refine SW.seq ?_
  refine SW.seq ?_
  refine SW.draw [] (.r 0 (.r 1 (.n 2 (.n 3 .fin .no) .no))) (by kernel_rfl) (by kernel_rfl) (fun d _ _ _ _ h => by cases d <;> exact h) ?_
  refine SWz.rd (i := 0) rfl rfl (Rd.fieldAddr (n := 2) rfl (by kernel_rfl)) ?_
  refine SWz.rd (i := 1) rfl rfl (Rd.loadA 0 2 rfl rfl (by kernel_rfl) rfl trivial) ?_
  refine SWz.efn (i := 2) rfl (Ef.call (con_ofR (by decide) (by decide)) rfl ⟨Le.refl _, trivial⟩ rfl) ?_ SWz.no
  rintro _ rfl
  refine SWz.efn (i := 3) rfl (Ef.call (con_same) rfl ⟨Le.refl _, Le.refl _, trivial⟩ rfl) ?_ SWz.no
  rintro _ rfl
  refine SWz.nil ?_
  refine SN.then ?_
  refine SW.cond rfl (fun hb6 => ?_) (fun hb6 => ?_)
  · have h1 : d = 1 := of_decide_eq_true hb6
    refine SW.seq ?_
    refine SW.region ?_
    refine SWl.rd rfl (Rd.fieldAddr (n := 0) rfl (by kernel_rfl)) ?_
    refine SWl.rd rfl (Rd.loadA 0 2 rfl rfl (by kernel_rfl) rfl trivial) ?_
    refine SWl.ef (S := []) (Ef.call (con_textR (b4_512 hG.hn)) rfl ⟨Le.refl _, trivial⟩ rfl) ?_
    rintro _ rfl
    refine SWl.rd rfl (Rd.assign rfl) ?_
    refine SWl.nil ?_
    refine SN.then ?_
    refine SW.ret (fn := Try.f60) (fun _ _ h => h) (Rs.le (Rs.one rfl (ResV.tmp rfl)) ?_)
    exact le_v (by unfold rtxt; rw [if_pos h1])
  · have h1 : ¬ d = 1 := of_decide_eq_false hb6
    refine SW.skip ?_
    refine SN.then ?_
    refine SW.seq ?_
    refine SW.draw [] (.r 0 (.r 1 (.r 4 (.r 5 (.n 2 (.r 3 (.n 6 (.r 7 (.r 8 .fin)) .no)) .no))))) (by kernel_rfl) (by kernel_rfl) (fun d _ _ _ _ h => by cases d <;> exact h) ?_
    refine SWz.rd (i := 0) rfl rfl (Rd.fieldAddr (n := 0) rfl (by kernel_rfl)) ?_
    refine SWz.rd (i := 1) rfl rfl (Rd.loadA 0 2 rfl rfl (by kernel_rfl) rfl trivial) ?_
    refine SWz.rd (i := 4) rfl rfl (Rd.fieldAddr (n := 2) rfl (by kernel_rfl)) ?_
    refine SWz.rd (i := 5) rfl rfl (Rd.loadA 0 2 rfl rfl (by kernel_rfl) rfl trivial) ?_
    refine SWz.efn (i := 2) rfl (Ef.call (con_textR (b4_512 hG.hn)) rfl ⟨Le.refl _, trivial⟩ rfl) ?_ SWz.no
    rintro _ rfl
    refine SWz.rd (i := 3) rfl rfl (Rd.sadd rfl rfl (by simp; omega)) ?_
    refine SWz.efn (i := 6) rfl (Ef.call (con_textR (b4_512 hG.hd)) rfl ⟨Le.refl _, trivial⟩ rfl) ?_ SWz.no
    rintro _ rfl
    refine SWz.rd (i := 7) rfl rfl (Rd.sadd rfl rfl (by simp; omega)) ?_
    refine SWz.rd (i := 8) rfl rfl (Rd.assign rfl) ?_
    refine SWz.nil ?_
    refine SN.then ?_
    refine SW.ret (fn := Try.f60) (fun _ _ h => h) (Rs.le (Rs.one rfl (ResV.tmp rfl)) ?_)
    exact le_v (by unfold rtxt; rw [if_neg h1])
set_option maxHeartbeats 4000000 in
set_option maxRecDepth 100000 in
theorem con_negQR {n d : Int} (hG : Good n d) : Con Try.prog 69 [ratD n d] (ratD (-n) d) := by
  refine con_of Try.func69 (by kernel_rfl) rfl (by kernel_rfl) fun base w0 => ?_
  refine SW.seq ?_
  refine SW.region ?_
  refine SWl.ef (S := []) (Ef.boxA rfl rfl) ?_
  rintro _ ⟨g1, rfl⟩
  refine SWl.ef (S := []) (Ef.alloc (zs := [.bool false, .slice none 0 0, .bool false, .slice none 0 0]) (by kernel_rfl) rfl) ?_
  rintro _ ⟨g2, rfl⟩
  refine SWl.nil ?_
  refine SN.then ?_
  refine SW.seq ?_
  refine SW.draw [g2] (.r 0 (.r 1 (.r 3 (.r 4 (.n 2 (.r 5 (.e 6 .fin .no)) .no))))) (by kernel_rfl) (by kernel_rfl) (fun d _ _ _ _ h => by cases d <;> exact h) ?_
  refine SWz.rd (i := 0) rfl rfl (Rd.fieldAddr (n := 0) rfl (by kernel_rfl)) ?_
  refine SWz.rd (i := 1) rfl rfl (Rd.loadA 0 2 rfl rfl (by kernel_rfl) rfl ⟨⟨1, _, rfl, by decide⟩, trivial⟩) ?_
  refine SWz.rd (i := 3) rfl rfl (Rd.fieldAddr (n := 2) rfl (by kernel_rfl)) ?_
  refine SWz.rd (i := 4) rfl rfl (Rd.loadA 0 2 rfl rfl (by kernel_rfl) rfl ⟨⟨1, _, rfl, by decide⟩, trivial⟩) ?_
  refine SWz.efn (i := 2) rfl (Ef.call (con_negR (b4_512 hG.hn)) rfl ⟨Le.refl _, trivial⟩ rfl) ?_ SWz.no
  rintro _ rfl
  refine SWz.rd (i := 5) rfl rfl (Rd.build rfl rfl bldR2) ?_
  refine SWz.efe (i := 6) rfl (Ef.storeA 1 rfl rfl rfl (by kernel_rfl) rfl (List.mem_of_getElem? (i := 0) rfl)) ?_ SWz.no
  rintro _ rfl
  refine SWz.nil ?_
  refine SN.then ?_
  refine SW.ret (fn := Try.f69) (fun _ _ h => h) (Rs.one rfl (ResV.cellA 1 rfl rfl (by kernel_rfl)))
end Sx
end Go.Proofs.Ytddfphneidcibaa
