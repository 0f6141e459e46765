/-
  WALKING CODE BY WHAT IS KNOWN: guarded effects that are not wanted, in regions that draw their order. Over any program.
  WALKING CODE BY WHAT IS KNOWN: functions as values, parts of arrays by value, labels. Over any program.
  WALKING CODE BY WHAT IS KNOWN: calls that are lent boxes and things; things opened and shut. Over any program.
  WALKING CODE BY WHAT IS KNOWN: maps. Over any program.
  WALKING CODE BY WHAT IS KNOWN: slices that grow (a slice of one's own, with room behind it). Over any program.
  WALKING CODE BY WHAT IS KNOWN: keys of maps (strings; structs, by an equality that is known). Over any program.
  WALKING CODE BY WHAT IS KNOWN: words for bytes, digests.
-/
import Derived.Test.YtchbgfgboogniaaDoorGS
import Derived.Scope
import Derived.Laws.StructEq
import Derived.Laws.Cover3
import Derived.WideKeyRuns
import Derived.MapKept
namespace Go.Proofs.YtchbgfgboogniaaDoor
open Go.RowKit
namespace Sx
section
variable {P : Program} {Γ : Cx} {σ σ' : St} {S : List Nat} {l : List Oper} {Q : Exit → Act → World → Prop} {tz uz : Reg.Tz} {k : Nat} {op : Op} {ty : TypeId} {pos : String} {af : Array Edge}
end
end Sx
end Go.Proofs.YtchbgfgboogniaaDoor
namespace Go.Proofs.YtchbgfgboogniaaDoor
open Go.RowKit
namespace Sx
instance (f : Fn) (a b : Array Value) : One (isD (.func f a b)) := ⟨fun _ _ _ h => by cases h; rfl⟩
instance : Ones (List.map isD []) := ⟨fun d hd => by simp at hd⟩
instance (v : Value) (vs : List Value) [o : One (isD v)] [os : Ones (List.map isD vs)] : Ones (List.map isD (v :: vs)) := ⟨fun d hd => by
  rcases List.mem_cons.1 (show d ∈ isD v :: List.map isD vs from hd) with rfl | hd
  · exact o.h
  · exact os.m d hd⟩
instance (ds es : List D) (o : Nat) [os : Ones ds] [ps : Ones es] : Ones (spliceD ds o es) := by unfold spliceD; infer_instance
instance : One (isD .nilFunc) := ⟨fun _ _ _ h => by cases h; rfl⟩
section
variable {P : Program} {Γ : Cx} {σ : St} {S : List Nat} {dst : Option Tmp} {ty : TypeId} {pos : String} {af : Array Edge} {gd : Option (Nat × Bool)} {d : D} {Q : Exit → Act → World → Prop}
theorem all_cap {L : List Nat} {w : World} : ∀ {es : List D} {vs : List Value} (cap : List Value), All L w es vs → All L w (es ++ cap.map isD) (vs ++ cap)
  | _, _, cap, h => h.append (all_is cap)
/-- A function made of another one and of what it holds. -/
theorem Rd.makeFunc {fn : Fn} {cp : Array Operand} (cs : List Value) (hc : σ.evs cp.toList = some (cs.map isD)) : Rd P Γ S ⟨dst, .makeFunc fn #[] cp, ty, pos, af, gd⟩ σ (isD (.func fn #[] cs.toArray)) := by
  intro a w hh
  have hall := evs_spec hh hc
  have key : ∀ {zs cs : List Value}, All (σ.L Γ) w (zs.map isD) cs → cs = zs := by
    intro zs
    induction zs with
    | nil => intro cs h; cases cs with | nil => rfl | cons => exact h.elim
    | cons z zs ih => intro cs h; cases cs with | nil => exact h.elim | cons c cs => rw [ih h.2, show c = z from h.1]
  have e : cp.map a.eval = cs.toArray := by
    apply Array.ext'
    simpa using key hall
  exact ⟨_, rfl, fun w' _ => by simp [execOp, Instr.makeFunc, e]⟩
theorem run_callV {a : Act} {w : World} {x : Operand} {f : FuncId} {args : Array Operand} {aT : Array TypeId} {cap : List Value} (hen : enters P f) (hx : a.eval x = .func (.func f) #[] cap.toArray) :
    (execOp a.eval ⟨dst, .call { callee := .value x, args := args, argTypes := aT }, ty, pos, af, gd⟩).run P w = .ok (.enter f (args.toList.map a.eval ++ cap).toArray) w := by
  have h := hen (args.toList.map a.eval ++ cap).toArray w
  have e1 : (args.map a.eval) ++ cap.toArray = (args.toList.map a.eval ++ cap).toArray := by apply Array.ext'; simp
  simp only [execOp, resolve, hx, Deferred.ofValue, Sem.run_bind, Sem.run_pure, Result.andThen_ok, invoke, Array.empty_append]
  rw [e1]
  exact h
def arrT (P : Program) (T e n : Nat) : Bool := match P.underlying T with | some (.array n' e') => n' == n && e' == e | _ => false
theorem arrT_spec {T e n : Nat} (h : arrT P T e n = true) : P.underlying T = some (.array n e) := by
  unfold arrT at h
  split at h
  · rename_i n' e' hu
    rw [hu]
    simp at h
    rw [h.1, h.2]
  · cases h
end
end Sx
end Go.Proofs.YtchbgfgboogniaaDoor
namespace Go.Proofs.YtchbgfgboogniaaDoor
open Go.RowKit
namespace Sx
/-- The boxes but those at the places js. -/
def isIn (k : Nat) : List Nat → Bool
  | [] => false
  | j :: js => cond (Nat.beq k j) true (isIn k js)
def dropAt : List Box → Nat → List Nat → List Box
  | [], _, _ => []
  | b :: bs, k, js => cond (isIn k js) (dropAt bs (k + 1) js) (b :: dropAt bs (k + 1) js)
theorem isIn_spec {k : Nat} : ∀ {js : List Nat}, isIn k js = true ↔ k ∈ js
  | [] => by simp [isIn]
  | j :: js => by
    have h := isIn_spec (k := k) (js := js)
    cases hb : Nat.beq k j
    · have : k ≠ j := fun e => by subst e; rw [Nat.beq_refl] at hb; cases hb
      simp [isIn, hb, h, this]
    · have : k = j := Nat.eq_of_beq_eq_true hb
      simp [isIn, hb, this]
theorem dropAt_mem : ∀ {bs : List Box} {k : Nat} {js : List Nat} {b : Box}, b ∈ dropAt bs k js → ∃ i, bs[i]? = some b ∧ k + i ∉ js
  | [], _, _, _, h => by simp [dropAt] at h
  | c :: bs, k, js, b, h => by
    cases hk : isIn k js
    · have hn : k ∉ js := fun e => by rw [isIn_spec.2 e] at hk; cases hk
      simp only [dropAt, hk, cond_false] at h
      rcases List.mem_cons.1 h with rfl | h
      · exact ⟨0, rfl, hn⟩
      · obtain ⟨i, h1, h2⟩ := dropAt_mem h
        exact ⟨i + 1, by simpa using h1, by rw [show k + (i + 1) = k + 1 + i by omega]; exact h2⟩
    · simp only [dropAt, hk, cond_true] at h
      obtain ⟨i, h1, h2⟩ := dropAt_mem h
      exact ⟨i + 1, by simpa using h1, by rw [show k + (i + 1) = k + 1 + i by omega]; exact h2⟩
theorem dropAt_nodup : ∀ {bs : List Box} {k : Nat} {js : List Nat}, (fps bs).Nodup → (fps (dropAt bs k js)).Nodup
  | [], _, _, _ => by simp [dropAt, fps]
  | c :: bs, k, js, h => by
    rw [fps_cons] at h
    have h2 := List.nodup_append.1 h
    have ih := dropAt_nodup (k := k + 1) (js := js) h2.2.1
    cases hk : isIn k js
    · simp only [dropAt, hk, cond_false, fps_cons]
      refine List.nodup_append.2 ⟨h2.1, ih, fun x hx y hy e => ?_⟩
      obtain ⟨b, hb, hyb⟩ := mem_fps.1 hy
      obtain ⟨i, h3, _⟩ := dropAt_mem hb
      exact h2.2.2 x hx y (mem_fps.2 ⟨b, List.mem_of_getElem? h3, hyb⟩) e
    · simp only [dropAt, hk, cond_true]
      exact ih
theorem dropAt_fps {bs : List Box} {js : List Nat} {x : Nat} (h : x ∈ fps (dropAt bs 0 js)) : x ∈ fps bs := by
  obtain ⟨b, hb, hx⟩ := mem_fps.1 h
  obtain ⟨i, h3, _⟩ := dropAt_mem hb
  exact mem_fps.2 ⟨b, List.mem_of_getElem? h3, hx⟩
theorem dropAt_apart {bs : List Box} {js : List Nat} {pre : List Box} (hn : (fps bs).Nodup) (hs : SubBx bs js pre) {x : Nat} (h : x ∈ fps (dropAt bs 0 js)) : x ∉ fps pre := fun hp => by
  obtain ⟨b, hb, hx⟩ := mem_fps.1 h
  obtain ⟨i, h3, h4⟩ := dropAt_mem hb
  obtain ⟨b', hb', hx'⟩ := mem_fps.1 hp
  obtain ⟨j, c, hj, h5, h6⟩ := SubBx.mem hs b' hb'
  have := fps_at hn h3 h5 hx (by rw [h6.1]; exact hx')
  subst this
  rw [Nat.zero_add] at h4
  exact h4 hj
/-- What a state is behind boxes js have become others. -/
def St.give (σ : St) (js : List Nat) (bs : List Box) : St := ⟨σ.tm, dropAt σ.bx 0 js ++ bs⟩
section
variable {P : Program} {Γ : Cx} {σ : St} {S : List Nat} {dst : Option Tmp} {ty : TypeId} {pos : String} {af : Array Edge} {gd : Option (Nat × Bool)} {d : D} {Q : Exit → Act → World → Prop}
theorem SubBx.fps {bs : List Box} {js : List Nat} {pre : List Box} (hs : SubBx bs js pre) {x : Nat} (h : x ∈ fps pre) : x ∈ fps bs := by
  obtain ⟨b', hb', hx'⟩ := mem_fps.1 h
  obtain ⟨j, c, _, h5, h6⟩ := SubBx.mem hs b' hb'
  exact mem_fps.2 ⟨c, List.mem_of_getElem? h5, by rw [h6.1]; exact hx'⟩
/-- Boxes js become others, in a step that changes their blocks alone. -/
theorem Holds.give {a : Act} {w w' : World} (h : Holds Γ σ a w) {js : List Nat} {pre post : List Box} (hs : SubBx σ.bx js pre) (ho : Only (fps pre) w w')
    (hR : ∀ b ∈ post, b.R (fps post ++ (σ.L Γ).filter (· ∉ fps pre)) w') (hnd : (fps post).Nodup) (hnw : ∀ g ∈ fps post, g ∈ fps pre ∨ w.heap.size ≤ g) :
    Holds Γ (σ.give js post) a w' ∧ ∀ x ∈ (σ.give js post).L Γ, x ∈ fps post ++ (σ.L Γ).filter (· ∉ fps pre) ∨ w'.heap.size ≤ x := by
  have hL : ∀ x ∈ (σ.give js post).L Γ, x ∈ fps post ++ (σ.L Γ).filter (· ∉ fps pre) ∨ w'.heap.size ≤ x := by
    intro x hx
    simp only [St.give, St.L, fps_append, List.mem_append] at hx
    rcases hx with (hx | hx) | hx
    · exact .inl (List.mem_append_right _ (List.mem_filter.2 ⟨List.mem_append_left _ (dropAt_fps hx), by simpa using dropAt_apart h.nd hs hx⟩))
    · exact .inl (List.mem_append_left _ hx)
    · refine .inl (List.mem_append_right _ (List.mem_filter.2 ⟨List.mem_append_right _ hx, ?_⟩))
      simp only [decide_eq_true_eq]
      intro hp
      have h1 := h.bs x hx
      rcases h.nw x (hs.fps hp) with h2 | h2
      · omega
      · exact h.dj.1 x h2 hx
  refine ⟨h.swap ho (fun x hx => hs.fps hx) (fun b hb => ?_) (fun g hg => ?_) ?_, hL⟩
  · rcases List.mem_append.1 hb with hb | hb
    · obtain ⟨i, h1, _⟩ := dropAt_mem hb
      exact .inl ⟨List.mem_of_getElem? h1, fun x hx hm => dropAt_apart h.nd hs (mem_fps.2 ⟨b, hb, hm⟩) hx⟩
    · exact .inr (Box.less (hR b hb) hL)
  · rw [fps_append] at hg
    rcases List.mem_append.1 hg with hg | hg
    · exact .inl (dropAt_fps hg)
    · rcases hnw g hg with h1 | h1
      · exact .inl (hs.fps h1)
      · exact .inr h1
  · rw [fps_append]
    refine List.nodup_append.2 ⟨dropAt_nodup h.nd, hnd, fun x hx y hy e => ?_⟩
    subst e
    rcases hnw x hy with h1 | h1
    · exact dropAt_apart h.nd hs hx h1
    · have := h.lt x (List.mem_append_left _ (dropAt_fps hx))
      omega
theorem upon_R {f : FuncId} {vs : List Value} {pre : List Box} {ad : List D} {ι : Type} {post : ι → List Box} {d : ι → D} {a : Act} {w : World} (hcon : ConR P f pre ad post d) (hh : Holds Γ σ a w) {js : List Nat} (hjs : js.Nodup) (hs : SubBx σ.bx js pre) (hall : All (σ.L Γ) w ad vs) :
    Calls P f vs.toArray w fun e w' => ∃ i v, e = .returned v ∧ Holds Γ (σ.give js (post i)) a w' ∧ (d i).R ((σ.give js (post i)).L Γ) w' v ∧ Only (fps pre) w w' := by
  have hL1 : ∀ x ∈ fps pre ++ (σ.L Γ).filter (· ∉ fps pre), x ∈ σ.L Γ ∨ w.heap.size ≤ x := fun x hx => by
    rcases List.mem_append.1 hx with hx | hx
    · exact .inl (List.mem_append_left _ (hs.fps hx))
    · exact .inl (List.mem_filter.1 hx).1
  refine (hcon.go ((σ.L Γ).filter (· ∉ fps pre)) w vs (fun x hx => hh.lt x (List.mem_filter.1 hx).1) hh.gl (fun g hg => hh.off g (hs.fps hg)) (fun g hg hm => by have := (List.mem_filter.1 hm).2; simp at this; exact this hg) (SubBx.nodup hh.nd hjs hs) (fun b' hb' => ?_) (hall.less hL1)).mono ?_
  · obtain ⟨j, c, _, h5, h6⟩ := SubBx.mem hs b' hb'
    exact h6.2 _ _ (Box.less (hh.bx c (List.mem_of_getElem? h5)) hL1)
  · rintro r w' ⟨i, v, rfl, hd, hR, hnd, hnw, ho⟩
    obtain ⟨h1, h2⟩ := hh.give hs ho hR hnd hnw
    exact ⟨i, v, rfl, h1, (d i).less hd h2, ho⟩
/-- A call that is lent boxes. -/
theorem Ef.callR {f : FuncId} {args : Array Operand} {aT : Array TypeId} {pre : List Box} {ad es : List D} {ι : Type} {post : ι → List Box} {d : ι → D} {k : Nat} (js : List Nat) (hcon : ConR P f pre ad post d) (he : σ.evs args.toList = some es) (hl : LeAll es ad) (hjs : js.Nodup) (hs : SubBx σ.bx js pre) (hS : ∀ g ∈ fps pre, g ∈ S) (hk : dstOk Γ.nt k = true) :
    Ef P Γ S ⟨some k, .call { callee := .value (.func f), args := args, argTypes := aT }, ty, pos, af, gd⟩ σ (fun σ' => ∃ i, σ' = (σ.give js (post i)).put k (d i)) := by
  intro a w hh K Q hK
  have hall := hl.all (evs_spec hh he)
  unfold Oper.wp
  rw [run_callV (cap := []) hcon.en (show a.eval (.func f) = .func (.func f) #[] ([] : List Value).toArray from rfl), List.append_nil]
  simp only [Oper.upon]
  refine (upon_R hcon hh hjs hs hall).mono ?_
  rintro r w' ⟨i, v, rfl, h1, h2, ho⟩
  exact hK _ _ _ ⟨i, rfl⟩ (h1.put (by simpa [dstOk] using hk) h2) (ho.mono (fun x hx _ => hS x hx))
/-- The same of a function value. -/
theorem Ef.callVR {x : Operand} {f : FuncId} {args : Array Operand} {aT : Array TypeId} {cap : List Value} {pre : List Box} {ad es : List D} {ι : Type} {post : ι → List Box} {d : ι → D} {k : Nat} (js : List Nat) (hcon : ConR P f pre ad post d) (hx : σ.ev x = some (isD (.func (.func f) #[] cap.toArray))) (he : σ.evs args.toList = some es) (hl : LeAll (es ++ cap.map isD) ad) (hjs : js.Nodup) (hs : SubBx σ.bx js pre) (hS : ∀ g ∈ fps pre, g ∈ S) (hk : dstOk Γ.nt k = true) :
    Ef P Γ S ⟨some k, .call { callee := .value x, args := args, argTypes := aT }, ty, pos, af, gd⟩ σ (fun σ' => ∃ i, σ' = (σ.give js (post i)).put k (d i)) := by
  intro a w hh K Q hK
  have hall := hl.all (all_cap cap (evs_spec hh he))
  unfold Oper.wp
  rw [run_callV hcon.en (show a.eval x = _ from ev_spec hh hx)]
  simp only [Oper.upon]
  refine (upon_R hcon hh hjs hs hall).mono ?_
  rintro r w' ⟨i, v, rfl, h1, h2, ho⟩
  exact hK _ _ _ ⟨i, rfl⟩ (h1.put (by simpa [dstOk] using hk) h2) (ho.mono (fun x hx _ => hS x hx))
/-! Things opened and shut: boxes js are seen as others, in the same world. -/
end
end Sx
end Go.Proofs.YtchbgfgboogniaaDoor
namespace Go.Proofs.YtchbgfgboogniaaDoor
open Go.RowKit
namespace Sx
/-- When a map's entries were laid: ahead of now, each at a time of its own. -/
def Bn (es : Array MapEntry) (ck : Nat) : Prop := (∀ x ∈ es.toList, x.born < ck) ∧ (es.toList.map (·.born)).Nodup
theorem bn_nil (ck : Nat) : Bn #[] ck := ⟨by simp, by simp⟩
theorem bn_push {es : Array MapEntry} {ck : Nat} {e : MapEntry} (h : Bn es ck) (he : e.born = ck) : Bn (es.push e) (ck + 1) := by
  refine ⟨fun x hx => ?_, ?_⟩
  · simp only [Array.toList_push, List.mem_append, List.mem_singleton] at hx
    rcases hx with hx | rfl
    · exact Nat.lt_succ_of_lt (h.1 x hx)
    · omega
  · simp only [Array.toList_push, List.map_append, List.map_cons, List.map_nil]
    refine List.nodup_append.2 ⟨h.2, by simp, fun a ha b hb => ?_⟩
    obtain ⟨x, hx, rfl⟩ := List.mem_map.1 ha
    have := h.1 x hx
    rw [List.mem_singleton.1 hb]
    omega
/-- Where a map's entries are: nowhere (nil), or in a block. -/
def MapAt (w : World) (M : Option Nat) (es : Array MapEntry) (F : List Nat) : Prop := (M = none ∧ es = #[] ∧ F = []) ∨ ∃ g ck, M = some g ∧ w.heap[g]? = some (.map es ck) ∧ F = [g] ∧ Bn es ck
theorem MapAt.lt {w : World} {M : Option Nat} {es : Array MapEntry} {F : List Nat} (h : MapAt w M es F) : ∀ g ∈ F, g < w.heap.size := by
  rcases h with ⟨_, _, hF⟩ | ⟨g, ck, _, hh, hF, _⟩
  · subst hF; simp
  · subst hF
    intro x hx
    rw [List.mem_singleton.1 hx]
    exact (Array.getElem?_eq_some_iff.1 hh).1
theorem MapAt.keep {w w' : World} {S : List Nat} {M : Option Nat} {es : Array MapEntry} {F : List Nat} (h : MapAt w M es F) (ho : Only S w w') (hn : ∀ x ∈ S, x ∉ F) : MapAt w' M es F := by
  rcases h with h | ⟨g, ck, hM, hh, hF, hbn⟩
  · exact .inl h
  · subst hF
    exact .inr ⟨g, ck, hM, (ho.block g (Array.getElem?_eq_some_iff.1 hh).1 (fun hm => hn g hm (List.mem_singleton.2 rfl))).trans hh, rfl, hbn⟩
/-- A map with these keys, in this order, and what is known of its values. -/
def mapR (M : Option Nat) {κ : Type} (enc : κ → Value) (ks : List κ) (ds : List D) : Res where
  R L F w := ∃ es, MapAt w M es F ∧ es.toList.map (·.key) = ks.map enc ∧ All L w ds (es.toList.map (·.val))
  lt := fun ⟨es, hm, _⟩ => hm.lt
  keep := fun ⟨es, hm, hk, ha⟩ ho hS hn => ⟨es, hm.keep ho hn, hk, ha.keep ho hS⟩
  less := fun ⟨es, hm, hk, ha⟩ hL => ⟨es, hm, hk, ha.less hL⟩
/-- A key can be looked for among these. -/
structure KeyOk (P : Program) (kt : TypeId) {κ : Type} [DecidableEq κ] (enc : κ → Value) (k : κ) (ks : List κ) : Prop where
  chk : ∀ e w, (Instr.checkKey e 10000 kt (enc k)).run P w = .ok () w
  find : ∀ (w : World) (es : List MapEntry), es.map (·.key) = ks.map enc → (Instr.findKey kt (enc k) es).run P w = .ok ((ks.idxOf? k).bind fun i => (es[i]?).map fun e => (i, e.val)) w
  bits : Instr.sameBits 10000 (enc k) (enc k) = true
def mapT (P : Program) (T k e : Nat) : Bool := match P.underlying T with | some (.map k' e') => k' == k && e' == e | _ => false
theorem mapT_spec {P : Program} {T k e : Nat} (h : mapT P T k e = true) : P.underlying T = some (.map k e) := by
  unfold mapT at h
  split at h
  · rename_i k' e' hu
    rw [hu]
    simp at h
    rw [h.1, h.2]
  · cases h
theorem le_agg_is {vs : List Value} : Le (aggD (vs.map isD)) (isD (.agg vs.toArray)) := fun _ _ _ ⟨cs, hv, ha⟩ => by
  rw [all_isD ha] at hv
  exact hv
theorem le_is_agg {vs : List Value} : Le (isD (.agg vs.toArray)) (aggD (vs.map isD)) := fun _ _ _ h => ⟨vs, h, all_is vs⟩
section
variable {κ : Type} {enc : κ → Value} {P : Program} {Γ : Cx} {σ : St} {S : List Nat} {dst : Option Tmp} {ty : TypeId} {pos : String} {af : Array Edge} {gd : Option (Nat × Bool)} {d : D}
theorem Holds.resAt {a : Act} {w : World} (hh : Holds Γ σ a w) {j : Nat} {F : List Nat} {R : Res} (hj : σ.bx[j]? = some (.r F R)) : R.R (σ.L Γ) F w := hh.bx (.r F R) (List.mem_of_getElem? hj)
/-- A nil map is there for nothing. -/
theorem map_nil (enc : κ → Value) {a : Act} {w : World} (h : Holds Γ σ a w) : Holds Γ ⟨σ.tm, σ.bx ++ [.r [] (mapR none enc [] [])]⟩ a w :=
  h.more (Only.refl [] w) (b := .r [] (mapR none enc [] [])) ⟨#[], .inl ⟨rfl, rfl, rfl⟩, rfl, trivial⟩ (by simp [Box.fp]) (by simp [Box.fp])
theorem Ef.makeMap {T k : Nat} (hk : dstOk Γ.nt k = true) : Ef P Γ S ⟨some k, .makeMap T none, ty, pos, af, gd⟩ σ (fun σ' => ∃ g, σ' = (⟨σ.tm, σ.bx ++ [.r [g] (mapR (some g) enc [] [])]⟩ : St).put k (isD (.map (some g)))) := by
  intro a w hh K Q hK
  have ho : Only [] w (w.alloc (.map #[] 0)) := (Only.refl [] w).alloc _
  have h1 := hh.more ho (b := .r [w.heap.size] (mapR (some w.heap.size) enc [] [])) ⟨#[], .inr ⟨w.heap.size, 0, rfl, heap_alloc_new w _, rfl, bn_nil 0⟩, rfl, trivial⟩ (fun g hg => by rw [List.mem_singleton.1 hg]; exact Nat.le_refl _) (by simp [Box.fp])
  have e : (execOp a.eval ⟨some k, .makeMap T none, ty, pos, af, gd⟩).run P w = .ok (.value (.map (some w.heap.size))) (w.alloc (.map #[] 0)) := by
    have e0 : (newObj (.map #[] 0)).run P w = .ok w.heap.size (w.alloc (.map #[] 0)) := rfl
    simp [execOp, Instr.makeMap, e0]
  unfold Oper.wp
  rw [e]
  exact hK _ _ _ ⟨_, rfl⟩ (h1.put (by simpa [dstOk] using hk) rfl) ((Only.refl S w).alloc _)
variable [DecidableEq κ]
theorem run_lookup {T kt et : Nat} {M : Option Nat} {F : List Nat} {es : Array MapEntry} {k : κ} {ks : List κ} {w : World} (hT : mapT P T kt et = true) (hm : MapAt w M es F) (hk : es.toList.map (·.key) = ks.map enc) (hok : KeyOk P kt enc k ks) (ok : Bool) {i : Nat} (hi : ks.idxOf? k = some i) {e : MapEntry} (he : es.toList[i]? = some e) :
    (Instr.lookup T (.map M) (enc k) ok).run P w = .ok (if ok then .tuple #[e.val, .bool true] else e.val) w := by
  rcases hm with ⟨rfl, rfl, _⟩ | ⟨g, ck, rfl, hg, _⟩
  · simp at he
  · have h1 : (getObj g).run P w = .ok (.map es ck) w := by simp [getObj, Sem.run, hg]
    have h2 := hok.find w es.toList hk
    rw [hi] at h2
    simp only [Option.bind_some, he, Option.map_some] at h2
    simp [Instr.lookup, run_underlying (mapT_spec hT), h1, hok.chk, h2]
theorem run_lookup_no {T kt et : Nat} {M : Option Nat} {F : List Nat} {es : Array MapEntry} {k : κ} {z : Value} {ks : List κ} {w : World} (hT : mapT P T kt et = true) (hz : (P.info? et).bind (·.zero) = some z) (hm : MapAt w M es F) (hk : es.toList.map (·.key) = ks.map enc) (hok : KeyOk P kt enc k ks) (ok : Bool) (hi : ks.idxOf? k = none) :
    (Instr.lookup T (.map M) (enc k) ok).run P w = .ok (if ok then .tuple #[z, .bool false] else z) w := by
  obtain ⟨inf, h3, h4⟩ := Option.bind_eq_some_iff.1 hz
  have h2 := hok.find w es.toList hk
  rw [hi] at h2
  simp only [Option.bind_none] at h2
  rcases hm with ⟨rfl, rfl, _⟩ | ⟨g, ck, rfl, hg, _⟩
  · simp at h2
    simp [Instr.lookup, run_underlying (mapT_spec hT), hok.chk, h2, zeroValue, typeInfo, h3, h4]
  · have h1 : (getObj g).run P w = .ok (.map es ck) w := by simp [getObj, Sem.run, hg]
    simp [Instr.lookup, run_underlying (mapT_spec hT), h1, hok.chk, h2, zeroValue, typeInfo, h3, h4]
theorem only_setObj {w : World} {g : Nat} {o : Obj} : Only [g] w { w with heap := w.heap.setIfInBounds g o } := by
  refine ⟨rfl, rfl, rfl, by simp, fun k hk hn => ?_⟩
  have : ¬ g = k := fun e => hn (by rw [e]; exact List.mem_singleton.2 rfl)
  simp [Array.getElem?_setIfInBounds, this]
theorem all_snoc {L : List Nat} {w : World} {ds : List D} {cs : List Value} {d : D} {v : Value} (h : All L w ds cs) (hd : d.R L w v) : All L w (ds ++ [d]) (cs ++ [v]) := h.append (All.one hd)
theorem run_setObj_map' {w : World} {g ck : Nat} {es : Array MapEntry} (o : Obj) (hg : w.heap[g]? = some (.map es ck)) : (setObj g o).run P w = .ok () { w with heap := w.heap.setIfInBounds g o } := by
  simp [setObj, Sem.run, hg]
/-- m == nil. -/
theorem Rd.eqM {x y : Operand} {T kt et yT : Nat} {m : Option Nat} (hx : σ.ev x = some (isD (.map m))) (hy : σ.ev y = some (isD (.map none))) (hT : mapT P T kt et = true) : Rd P Γ S ⟨dst, .binOp .eql T x y yT, ty, pos, af, gd⟩ σ (isD (.bool m.isNone)) := Rd.bin hx hy fun w => by
  simp [eqGuard, binOp, run_equal_map_nil w T kt et m (mapT_spec hT)]
end
end Sx
end Go.Proofs.YtchbgfgboogniaaDoor
namespace Go.Proofs.YtchbgfgboogniaaDoor
open Go.RowKit
namespace Sx
/-- A slice of one's own: n elements of sz cells each, known; nil or with a block of its own. -/
def vecR (e sz : Nat) (A : Option Addr) (n c : Nat) (ds : List D) : Res where
  R L F w := ∃ xs, All L w ds xs ∧ w.ownsRow 0 e sz (.slice A n c) n xs ∧ F = (Value.slice A n c).ownBlock.toList
  lt := fun ⟨xs, ha, ho, hF⟩ x hx => by
    subst hF
    rcases ho.2 with ⟨h, _⟩ | ⟨g, cap, cur, h, _, hh, _⟩
    · injection h with h1 h2 h3; subst h1; simp [Value.ownBlock] at hx
    · injection h with h1 h2 h3; subst h1
      simp [Value.ownBlock] at hx
      rw [hx]
      exact (Array.getElem?_eq_some_iff.1 hh).1
  keep := fun ⟨xs, ha, ho, hF⟩ hO hS hn => by
    refine ⟨xs, ha.keep hO hS, ⟨ho.1, ?_⟩, hF⟩
    rcases ho.2 with h | ⟨g, cap, cur, h, h2, hh, h3⟩
    · exact .inl h
    · refine .inr ⟨g, cap, cur, h, h2, (hO.block g (Array.getElem?_eq_some_iff.1 hh).1 (fun hm => hn g hm ?_)).trans hh, h3⟩
      injection h with h1
      rw [hF, h1]
      simp [Value.ownBlock]
  less := fun ⟨xs, ha, ho, hF⟩ hL => ⟨xs, ha.less hL, ho, hF⟩
theorem le_sl_rw {xs : List Value} : Le (slD xs) (rwD xs.length (xs.map isD)) := fun L w v ⟨A, c, hv, hc, hr, ha⟩ => ⟨A, c, hv, hc, fun h0 => by
  rw [List.length_map] at h0
  obtain ⟨g, o, e, hg, hcell⟩ := hr h0
  exact ⟨g, o, e, hg, ha h0 _ e, xs, all_is xs, hcell⟩⟩
theorem le_rw_sl {xs : List Value} : Le (rwD xs.length (xs.map isD)) (slD xs) := fun L w v ⟨A, c, hv, hc, ha⟩ => ⟨A, c, hv, hc, fun h0 => by
  obtain ⟨g, o, e, hg, hn, cs, h1, h2⟩ := ha (by rw [List.length_map]; exact h0)
  rw [all_isD h1] at h2
  exact ⟨g, o, e, hg, h2⟩, fun h0 p hp => by
  obtain ⟨g, o, e, hg, hn, _⟩ := ha (by rw [List.length_map]; exact h0)
  rw [e] at hp
  injection hp with hp
  subst hp
  exact hn⟩
section
variable {P : Program} {Γ : Cx} {σ : St} {S : List Nat} {dst : Option Tmp} {ty : TypeId} {pos : String} {af : Array Edge} {gd : Option (Nat × Bool)} {d : D} {Q : Exit → Act → World → Prop}
/-- var s []T. -/
theorem vec_nil (e sz : Nat) {a : Act} {w : World} (h : Holds Γ σ a w) : Holds Γ ⟨σ.tm, σ.bx ++ [.r [] (vecR e sz none 0 0 [])]⟩ a w :=
  h.more (Only.refl [] w) (b := .r [] (vecR e sz none 0 0 [])) ⟨[], trivial, ⟨by simp, .inl ⟨rfl, rfl⟩⟩, rfl⟩ (by simp [Box.fp]) (by simp [Box.fp])
theorem SW.vec {c : Code} (e sz : Nat) (h : SW P Γ ⟨σ.tm, σ.bx ++ [.r [] (vecR e sz none 0 0 [])]⟩ c Q) : SW P Γ σ c Q := fun a w hh => h a w (vec_nil e sz hh)
theorem SWl.vec {ops : Array Oper} {l : List Oper} (e sz : Nat) (h : SWl P Γ ops Q l ⟨σ.tm, σ.bx ++ [.r [] (vecR e sz none 0 0 [])]⟩) : SWl P Γ ops Q l σ := fun a w hh => h a w (vec_nil e sz hh)
def elT (P : Program) (e sz bytes : Nat) : Bool := match P.info? e with | some i => (i.size == sz) && ((i.bytes == bytes) && (match i.zero with | some z => z.cells.size == sz | none => false)) | none => false
theorem elT_spec {e sz bytes : Nat} (h : elT P e sz bytes = true) : ∃ i z, P.info? e = some i ∧ i.size = sz ∧ i.bytes = bytes ∧ i.zero = some z ∧ z.cells.size = sz := by
  unfold elT at h
  split at h
  · rename_i i hi
    simp only [Bool.and_eq_true, beq_iff_eq] at h
    obtain ⟨h1, h3, h2⟩ := h
    split at h2
    · rename_i z hz
      exact ⟨i, z, hi, h1, h3, hz, by simpa using h2⟩
    · cases h2
  · cases h
/-- make([]T, 0, c). -/
theorem Ef.makeV {x y : Operand} {T e k c : Nat} {ci : Int} (sz bytes : Nat) (hx : σ.ev x = some (isD (.int .i64 0))) (hy : σ.ev y = some (isD (.int .i64 ci))) (hT : sliceT P T e = true) (hE : elT P e sz bytes = true) (hc : ci = (c : Int)) (hn : c ≤ 1099511627776) (hb : bytes ≤ 128) (hk : dstOk Γ.nt k = true) :
    Ef P Γ S ⟨some k, .makeSlice T x y, ty, pos, af, gd⟩ σ (fun σ' => ∃ g, σ' = (⟨σ.tm, σ.bx ++ [.r [g] (vecR e sz (some ⟨g, 0, none⟩) 0 c [])]⟩ : St).put k (isD (.slice (some ⟨g, 0, none⟩) 0 c))) := by
  intro a w hh K Q hK
  have hxv : a.eval x = .int .i64 0 := ev_spec hh hx
  have hyv : a.eval y = .int .i64 ci := ev_spec hh hy
  obtain ⟨i, z, hI, h1, h2, h3, h4⟩ := elT_spec hE
  have hbc := Nat.mul_le_mul hb hn
  have hbI : (i.bytes : Int) * (c : Int) ≤ 281474976710656 := by
    rw [h2]
    have h5 : ((bytes * c : Nat) : Int) ≤ 281474976710656 := by omega
    rw [Int.natCast_mul] at h5
    exact h5
  have hrun := run_make (P := P) w T e i z (sliceT_spec hT) hI h3 .i64 .i64 (0 : Int) (c : Int) (by omega) (by omega) hbI (by omega)
  have h5 := hh.more ((Only.refl [] w).alloc (.cells (madeCells z.cells ((c : Int).toNat * i.size)) e)) (b := .r [w.heap.size] (vecR e sz (some ⟨w.heap.size, 0, none⟩) 0 c [])) ⟨[], trivial, ⟨by simp, .inr ⟨w.heap.size, c, _, rfl, Nat.zero_le _, heap_alloc_new w _, Nat.zero_le _, by simp only [maxLen]; omega, ?_, by simp⟩⟩, rfl⟩ (fun g hg => by rw [List.mem_singleton.1 hg]; exact Nat.le_refl _) (by simp [Box.fp])
  · unfold Oper.wp execOp
    simp only [hxv, hyv, hc, Sem.run_bind, hrun, Result.andThen_ok, Sem.run_pure, Int.toNat_natCast, Int.toNat_zero]
    exact hK _ _ _ ⟨_, rfl⟩ (h5.put (by simpa [dstOk] using hk) rfl) ((Only.refl S w).alloc _)
  · rw [Int.toNat_natCast, h1]
    simp [madeCells, h4]
end
end Sx
end Go.Proofs.YtchbgfgboogniaaDoor
namespace Go.Proofs.YtchbgfgboogniaaDoor
open Go.RowKit
namespace Sx
theorem find_asking {P : Program} {kt : TypeId} {κ : Type} [DecidableEq κ] {enc : κ → Value} (heq : ∀ a b w, (Op.equal kt (enc a) (enc b)).run P w = .ok (decide (a = b)) w) (w : World) (k : κ) : ∀ (ks : List κ) (es : List MapEntry) (o : Nat), es.map (·.key) = ks.map enc →
    (Instr.findAsking kt (enc k) es o).run P w = .ok ((ks.idxOf? k).bind fun i => (es[i]?).map fun e => (o + i, e.val)) w
  | [], [], o, _ => rfl
  | [], _ :: _, _, h => by simp at h
  | _ :: _, [], _, h => by simp at h
  | a :: ks, e :: es, o, h => by
    simp only [List.map_cons, List.cons.injEq] at h
    simp only [Instr.findAsking]
    rw [h.1, Sem.run_bind, heq k a w]
    by_cases hka : k = a
    · subst hka
      simp [List.idxOf?_cons]
    · have hb : (a == k) = false := by simp; exact fun e => hka e.symm
      rw [decide_eq_false hka]
      simp only [Result.andThen_ok, Bool.false_eq_true, if_false]
      rw [find_asking heq w k ks es (o + 1) h.2]
      simp only [List.idxOf?_cons, hb]
      cases hx : ks.idxOf? k with
      | none => simp [hx]
      | some i => simp [hx, Nat.add_assoc, Nat.add_comm 1]
theorem keyOk_wide {P : Program} {kt : TypeId} {κ : Type} [DecidableEq κ] {enc : κ → Value} (hwide : (match P.underlying kt with | some (.array _ _) | some (.struct _) => true | _ => false) = true) (heq : ∀ a b w, (Op.equal kt (enc a) (enc b)).run P w = .ok (decide (a = b)) w)
    (hchk : ∀ k e w, (Instr.checkKey e 10000 kt (enc k)).run P w = .ok () w) (hbits : ∀ k, Instr.sameBits 10000 (enc k) (enc k) = true) (k : κ) (ks : List κ) : KeyOk P kt enc k ks :=
  ⟨hchk k, fun w es h => by
    rw [run_findKey_eq w hwide, find_asking heq w k ks es 0 h]
    simp, hbits k⟩
def encS (b : List UInt8) : Value := .string ⟨b.toArray⟩
theorem str_beq (k a : List UInt8) : ((ByteArray.mk k.toArray) == (ByteArray.mk a.toArray)) = decide (k = a) := by
  have e : ((ByteArray.mk k.toArray) == (ByteArray.mk a.toArray)) = (k.toArray == a.toArray) := rfl
  rw [e]
  by_cases h : k = a
  · subst h; simp
  · rw [decide_eq_false h, beq_eq_false_iff_ne]
    intro e
    exact h (by simpa using congrArg Array.toList e)
theorem find_now {κ : Type} [DecidableEq κ] (f : κ → List UInt8) (hf : ∀ a b, f a = f b → a = b) : ∀ (k : κ) (ks : List κ) (es : List MapEntry) (o : Nat), es.map (·.key) = ks.map (fun x => encS (f x)) →
    Instr.findNow .string (encS (f k)) es o = some ((ks.idxOf? k).bind fun i => (es[i]?).map fun e => (o + i, e.val))
  | _, [], [], o, _ => rfl
  | _, [], _ :: _, _, h => by simp at h
  | _, _ :: _, [], _, h => by simp at h
  | k, a :: ks, e :: es, o, h => by
    simp only [List.map_cons, List.cons.injEq] at h
    have hs : Instr.sameNow .string (encS (f k)) e.key = some (decide (k = a)) := by
      rw [h.1]
      show some ((ByteArray.mk (f k).toArray) == (ByteArray.mk (f a).toArray)) = _
      rw [str_beq]
      congr 1
      exact decide_eq_decide.2 ⟨hf k a, fun e => by rw [e]⟩
    simp only [Instr.findNow, hs]
    by_cases hka : k = a
    · subst hka
      simp [List.idxOf?_cons]
    · have hb : (a == k) = false := by simp; exact fun e => hka e.symm
      rw [decide_eq_false hka]
      simp only
      rw [find_now f hf k ks es (o + 1) h.2]
      simp only [List.idxOf?_cons, hb]
      cases hx : ks.idxOf? k with
      | none => simp [hx]
      | some i => simp [hx, Nat.add_assoc, Nat.add_comm 1]
theorem keyOk_str {P : Program} {kt : TypeId} (hT : stringT P kt = true) (k : List UInt8) (ks : List (List UInt8)) : KeyOk P kt encS k ks :=
  ⟨fun e w => MapKept.run_checkKey (n := 9999) (stringT_spec hT) (show MapKept.IsKey .string (encS k) from trivial) e, fun w es h => by
    have h1 := MapKept.run_findKey (P := P) (w := w) (stringT_spec hT) (find_now (fun x : List UInt8 => x) (fun _ _ e => e) k ks es 0 h)
    rw [h1]
    simp, by
    show ((ByteArray.mk k.toArray) == (ByteArray.mk k.toArray)) = true
    rw [str_beq]
    simp⟩
end Sx
end Go.Proofs.YtchbgfgboogniaaDoor
namespace Go.Proofs.YtchbgfgboogniaaDoor
open Go.RowKit
namespace Sx
abbrev bD (b : List UInt8) : D := slD (cellsOf b)
abbrev gD (d : List UInt8) : D := isD (.agg (cellsOf d).toArray)
abbrev iD (n : Int) : D := isD (.int .i64 n)
abbrev boolD (b : Bool) : D := isD (.bool b)
abbrev strD (b : List UInt8) : D := isD (.string ⟨b.toArray⟩)
section
variable {L : List Nat} {w : World}
theorem all1 {d : D} {vs : List Value} (h : All L w [d] vs) : ∃ u, vs = [u] ∧ d.R L w u := by
  cases vs with
  | nil => exact h.elim
  | cons u vs => cases vs with | nil => exact ⟨u, rfl, h.1⟩ | cons => exact h.2.elim
theorem all2 {d e : D} {vs : List Value} (h : All L w [d, e] vs) : ∃ u v, vs = [u, v] ∧ d.R L w u ∧ e.R L w v := by
  cases vs with
  | nil => exact h.elim
  | cons u vs => obtain ⟨v, rfl, hv⟩ := all1 h.2; exact ⟨u, v, rfl, h.1, hv⟩
theorem all0 {vs : List Value} (h : All L w [] vs) : vs = [] := by
  cases vs with
  | nil => rfl
  | cons => exact h.elim
theorem b_out {b : List UInt8} {v : Value} (h : (bD b).R L w v) : ∃ A c, v = .slice A b.length c ∧ b.length ≤ c ∧ RV w A (cellsOf b) := by
  obtain ⟨A, c, hv, hc, hr, _⟩ := h
  rw [cellsOf_length] at hv hc
  exact ⟨A, c, hv, hc, hr⟩
end
end Sx
end Go.Proofs.YtchbgfgboogniaaDoor
