/-
  Slices of what is known, cut. Over any program.
  Interfaces and nil. Over any program.
  CALLS THAT PANIC and are lent boxes, in the words of Sy. Over any program.
  append(b, s...) WITH A STRING s, in the words of Sy. Over any program.
  METHOD VALUES in the words of Sy: a function that holds its first arguments. Over any program.
-/
import Derived.Test.YtchbgfgboogniaaDoorGU
import Derived.Test.YtchbgfgboogniaaDoorGV
import Derived.Test.YtchbgfgboogniaaDoorGT
import Derived.Lib.AppendStr
namespace Go.Proofs.YtchbgfgboogniaaDoor
open Go.RowKit
namespace Sx
section
variable {P : Program} {Γ : Cx} {σ : St} {S : List Nat} {dst : Option Tmp} {ty : TypeId} {pos : String} {af : Array Edge} {gd : Option (Nat × Bool)} {d d' : D}
theorem at_sl {L : List Nat} {w : World} {A : Option Addr} {lo c sz : Nat} {ds : List D} (ha : At L w A ds) (h : lo * sz < ds.length → c ≠ lo) : At L w (if c = lo then A else A.map (·.add (lo * sz))) (ds.drop (lo * sz)) := by
  intro h0
  rw [List.length_drop] at h0
  rw [if_neg (h (by omega))]
  obtain ⟨g, o, rfl, _⟩ := ha (by omega)
  have e3 : (some (⟨g, o, none⟩ : Addr)).map (·.add (lo * sz)) = some ⟨g, o + lo * sz, none⟩ := by simp [Addr.add_mid]
  rw [e3]
  exact At.drop (lo * sz) ha (by rw [List.length_drop]; omega)
/-- s[lo:hi] -/
theorem Rd.slD2 {x y z : Operand} {T e lo hi : Nat} {α : Type} {enc : α → List D} {l : List α} {ky kz : IntKind} {dx : D} (sz : Nat) [Row enc sz] (hx : σ.ev x = some dx) (hl : Le dx (lsD enc l)) (hy : σ.ev y = some (isD (.int ky (lo : Int)))) (hz : σ.ev z = some (isD (.int kz (hi : Int)))) (hT : sliceT P T e = true) (hs : (P.info? e).map (·.size) = some sz) (h1 : lo ≤ hi) (h2 : hi ≤ l.length) :
    Rd P Γ S ⟨dst, .slice T x (some y) (some z) none, ty, pos, af, gd⟩ σ (lsD enc ((l.take hi).drop lo)) := by
  intro a w hh
  obtain ⟨A, c, hxv, hc, ha⟩ := hl _ _ _ (ev_spec hh hx)
  have hyv : a.eval y = .int ky (lo : Int) := ev_spec hh hy
  have hzv : a.eval z = .int kz (hi : Int) := ev_spec hh hz
  obtain ⟨inf, hi', hsz⟩ := Option.map_eq_some_iff.1 hs
  have e1 : hi ≤ c := by omega
  have hrun : ∀ w', (execOp a.eval ⟨dst, .slice T x (some y) (some z) none, ty, pos, af, gd⟩).run P w' = .ok (.value (.slice (if c = lo then A else A.map (·.add (lo * sz))) (hi - lo) (c - lo))) w' := fun w' => by
    simp [execOp, hxv, hyv, hzv, Instr.sliceAt, Instr.slice, Instr.sliceBounds, Instr.sliceBound, asIntOf, run_underlying (sliceT_spec hT), sizeOf, typeInfo, hi', hsz, e1, h1]
  have hln : ((l.take hi).drop lo).length = hi - lo := by rw [List.length_drop, List.length_take]; omega
  refine ⟨_, ⟨_, _, by rw [hln], by rw [hln]; omega, ?_⟩, fun w' _ => hrun w'⟩
  rw [flat_dropk (sz := sz), flat_take (sz := sz)]
  refine at_sl (ha.take _) (fun h0 e => ?_)
  rw [List.length_take] at h0
  have : lo < hi := Nat.lt_of_mul_lt_mul_right (a := sz) (by omega)
  omega
end
end Sx
end Go.Proofs.YtchbgfgboogniaaDoor
namespace Go.Proofs.YtchbgfgboogniaaDoor
open Go.RowKit
namespace Sx
section
variable {P : Program} {Γ : Cx} {σ : St} {S : List Nat} {dst : Option Tmp} {ty : TypeId} {pos : String} {af : Array Edge} {gd : Option (Nat × Bool)}
def ifaceT (P : Program) (T : Nat) : Bool := match P.underlying T with | some (.interface _) => true | _ => false
theorem run_eqIn_iface (n : Nat) {T U : Nat} {v : Value} {w : World} (hT : ifaceT P T = true) : (Op.equalIn (n + 1) T (.iface U v) .nilIface).run P w = .ok false w := by
  unfold ifaceT at hT
  split at hT
  · rename_i m hu
    simp [Op.equalIn, run_underlying hu]
  · cases hT
theorem run_eqIn_nilI (n : Nat) {T : Nat} {w : World} (hT : ifaceT P T = true) : (Op.equalIn (n + 1) T .nilIface .nilIface).run P w = .ok true w := by
  unfold ifaceT at hT
  split at hT
  · rename_i m hu
    simp [Op.equalIn, run_underlying hu]
  · cases hT
theorem Rd.eqI {x : Operand} {T U yT : Nat} {v : Value} (hx : σ.ev x = some (isD (.iface U v))) (hT : ifaceT P T = true) : Rd P Γ S ⟨dst, .binOp .eql T x (.const .nilIface) yT, ty, pos, af, gd⟩ σ (isD (.bool false)) := Rd.bin hx (y := .const .nilIface) (v := .nilIface) rfl fun w => by
  have h : (Op.equal T (.iface U v) .nilIface).run P w = .ok false w := run_eqIn_iface 9999 hT
  simp [eqGuard, binOp, h]
theorem Rd.eqI0 {x : Operand} {T yT : Nat} (hx : σ.ev x = some (isD .nilIface)) (hT : ifaceT P T = true) : Rd P Γ S ⟨dst, .binOp .eql T x (.const .nilIface) yT, ty, pos, af, gd⟩ σ (isD (.bool true)) := Rd.bin hx (y := .const .nilIface) (v := .nilIface) rfl fun w => by
  have h : (Op.equal T .nilIface .nilIface).run P w = .ok true w := run_eqIn_nilI 9999 hT
  simp [eqGuard, binOp, h]
end
end Sx
end Go.Proofs.YtchbgfgboogniaaDoor
namespace Go.Proofs.YtchbgfgboogniaaDoor
open Go.RowKit
namespace Sx
section
variable {P : Program} {Γ : Cx} {σ σ' : St} {Q : Exit → Act → World → Prop} {a : Act} {w : World} {ops : Array Oper} {rest : List Oper} {S : List Nat} {dst : Option Tmp} {ty : TypeId} {pos : String} {af : Array Edge} {gd : Option (Nat × Bool)}
/-- A function that panics, to which boxes are lent. -/
structure ConPR (P : Program) (f : FuncId) (pre : List Box) (ad : List D) {ι : Type} (post : ι → List Box) (ch : List PanicEntry) : Prop where
  en : enters P f
  go : ∀ (L : List Nat) (w : World) (vs : List Value), (∀ x ∈ L, x < w.heap.size) → glob.R w → (∀ g ∈ fps pre, g ∉ glob.F) → (∀ g ∈ fps pre, g ∉ L) → (fps pre).Nodup → (∀ b ∈ pre, b.R (fps pre ++ L) w) → All (fps pre ++ L) w ad vs →
    Calls P f vs.toArray w fun e w' => ∃ i, e = .panicked ch ∧ (∀ b ∈ post i, b.R (fps (post i) ++ L) w') ∧ (fps (post i)).Nodup ∧ (∀ g ∈ fps (post i), g ∈ fps pre ∨ w.heap.size ≤ g) ∧ Only (fps pre) w w'
theorem con_ofPR {f : FuncId} {fn : Func} {c : Code} {pre : List Box} {ad : List D} {ι : Type} {post : ι → List Box} {ch : List PanicEntry} (hf : P.funcs[f]? = some fn) (hn : (fn.name == "runtime.NumGoroutine") = false) (hb : fn.body = some c) (hlen : Nat.ble ad.length fn.ntmps = true)
    (h : ∀ (base : List Nat) (w0 : World), SW P ⟨fn.ntmps, base, w0, fps pre, []⟩ (St.ob (inits 0 ad) pre) c (bodyPost P fn fun e w' => ∃ i, e = .panicked ch ∧ (∀ b ∈ post i, b.R (fps (post i) ++ base) w') ∧ (fps (post i)).Nodup ∧ (∀ g ∈ fps (post i), g ∈ fps pre ∨ w0.heap.size ≤ g) ∧ Only (fps pre) w0 w')) : ConPR P f pre ad post ch := by
  refine ⟨enters_of hf hn (by rw [hb]; rfl), fun L w vs hL hG hgF hg hnd hbk ha => ?_⟩
  refine calls_of_wp hf hb (h L w _ _ ?_)
  have hl := ha.length
  have hle : ad.length ≤ fn.ntmps := by simpa using hlen
  refine ⟨rfl, by simp [hl]; omega, fun i e hi => ?_, hbk, hnd, fun g hg => .inr hg, Only.refl _ _, hL, hg, hG, hgF⟩
  have := inits_spec (pre := []) (post := List.replicate (fn.ntmps - vs.length) undef) ha rfl i e hi
  have e1 : vs.toArray ++ Array.replicate (fn.ntmps - vs.toArray.size) undef = ([] ++ vs ++ List.replicate (fn.ntmps - vs.length) undef).toArray := by
    apply Array.ext'
    simp
  rw [e1]
  exact this
theorem SP.fnR {fn : Func} {ch : List PanicEntry} {nt : Nat} {base : List Nat} {w0 : World} {pre : List Box} {ι : Type} {post : ι → List Box} (i : ι) (js : List Nat) (hjs : js.Nodup) (hb : SubBx σ.bx js (post i)) :
    SP ⟨nt, base, w0, fps pre, []⟩ ch (bodyPost P fn fun e w' => ∃ i, e = .panicked ch ∧ (∀ b ∈ post i, b.R (fps (post i) ++ base) w') ∧ (fps (post i)).Nodup ∧ (∀ g ∈ fps (post i), g ∈ fps pre ∨ w0.heap.size ≤ g) ∧ Only (fps pre) w0 w') σ := fun a w hh => by
  have hid : ∀ g ∈ fps (post i), g ∈ fps σ.bx := by
    intro g hg
    obtain ⟨b', h3, h4⟩ := mem_fps.1 hg
    obtain ⟨j, b, _, h5, h6⟩ := SubBx.mem hb b' h3
    exact mem_fps.2 ⟨b, List.mem_of_getElem? h5, by rw [h6.1]; exact h4⟩
  have hL : ∀ x ∈ fps (post i) ++ base, x ∈ σ.L ⟨nt, base, w0, fps pre, []⟩ ∨ w.heap.size ≤ x := fun x hx => by
    rcases List.mem_append.1 hx with hx | hx
    · exact .inl (List.mem_append_left _ (hid x hx))
    · exact .inl (List.mem_append_right _ hx)
  refine ⟨hh.df, i, rfl, fun b' hb' => ?_, SubBx.nodup hh.nd hjs hb, fun g hg => ?_, hh.on⟩
  · obtain ⟨j, b, _, h5, h6⟩ := SubBx.mem hb b' hb'
    exact h6.2 _ _ (Box.less (hh.bx b (List.mem_of_getElem? h5)) hL)
  · rcases hh.nw g (hid g hg) with h' | h'
    · exact .inr h'
    · exact .inl h'
theorem upon_PR {f : FuncId} {vs : List Value} {pre : List Box} {ad : List D} {ι : Type} {post : ι → List Box} {ch : List PanicEntry} {a : Act} {w : World} (hcon : ConPR P f pre ad post ch) (hh : Holds Γ σ a w) {js : List Nat} (hjs : js.Nodup) (hs : SubBx σ.bx js pre) (hall : All (σ.L Γ) w ad vs) :
    Calls P f vs.toArray w fun e w' => ∃ i, e = .panicked ch ∧ Holds Γ (σ.give js (post i)) a w' := by
  have hL1 : ∀ x ∈ fps pre ++ (σ.L Γ).filter (· ∉ fps pre), x ∈ σ.L Γ ∨ w.heap.size ≤ x := fun x hx => by
    rcases List.mem_append.1 hx with hx | hx
    · exact .inl (List.mem_append_left _ (hs.fps hx))
    · exact .inl (List.mem_filter.1 hx).1
  refine (hcon.go ((σ.L Γ).filter (· ∉ fps pre)) w vs (fun x hx => hh.lt x (List.mem_filter.1 hx).1) hh.gl (fun g hg => hh.off g (hs.fps hg)) (fun g hg hm => by have := (List.mem_filter.1 hm).2; simp at this; exact this hg) (SubBx.nodup hh.nd hjs hs) (fun b' hb' => ?_) (hall.less hL1)).mono ?_
  · obtain ⟨j, c, _, h5, h6⟩ := SubBx.mem hs b' hb'
    exact h6.2 _ _ (Box.less (hh.bx c (List.mem_of_getElem? h5)) hL1)
  · rintro r w' ⟨i, rfl, hR, hnd, hnw, ho⟩
    exact ⟨i, rfl, (hh.give hs ho hR hnd hnw).1⟩
/-- A call that panics and is lent boxes. -/
theorem SWl.callPR {f : FuncId} {args : Array Operand} {aT : Array TypeId} {pre : List Box} {ad es : List D} {ι : Type} {post : ι → List Box} {ch : List PanicEntry} (js : List Nat) (hcon : ConPR P f pre ad post ch) (he : σ.evs args.toList = some es) (hl : LeAll es ad) (hjs : js.Nodup) (hs : SubBx σ.bx js pre) (h : ∀ i, SP Γ ch Q (σ.give js (post i))) :
    SWl P Γ ops Q (⟨dst, .call { callee := .value (.func f), args := args, argTypes := aT }, ty, pos, af, none⟩ :: rest) σ := fun a w hh => by
  have hall := hl.all (evs_spec hh he)
  refine wpList_plain rfl fun K hK => ?_
  unfold Oper.wp
  rw [run_callV (cap := []) hcon.en (show a.eval (.func f) = .func (.func f) #[] ([] : List Value).toArray from rfl), List.append_nil]
  simp only [Oper.upon]
  refine (upon_PR hcon hh hjs hs hall).mono ?_
  rintro r w' ⟨i, rfl, h1⟩
  exact h i a w' h1
theorem SWl.callPRV {x : Operand} {f : FuncId} {args : Array Operand} {aT : Array TypeId} {cap : List Value} {pre : List Box} {ad es : List D} {ι : Type} {post : ι → List Box} {ch : List PanicEntry} (js : List Nat) (hcon : ConPR P f pre ad post ch) (hx : σ.ev x = some (isD (.func (.func f) #[] cap.toArray))) (he : σ.evs args.toList = some es) (hl : LeAll (es ++ cap.map isD) ad) (hjs : js.Nodup) (hs : SubBx σ.bx js pre) (h : ∀ i, SP Γ ch Q (σ.give js (post i))) :
    SWl P Γ ops Q (⟨dst, .call { callee := .value x, args := args, argTypes := aT }, ty, pos, af, none⟩ :: rest) σ := fun a w hh => by
  have hall := hl.all (all_cap cap (evs_spec hh he))
  refine wpList_plain rfl fun K hK => ?_
  unfold Oper.wp
  rw [run_callV hcon.en (show a.eval x = _ from ev_spec hh hx)]
  simp only [Oper.upon]
  refine (upon_PR hcon hh hjs hs hall).mono ?_
  rintro r w' ⟨i, rfl, h1⟩
  exact h i a w' h1
/-- In a drawing region. -/
theorem SWz.callPR {l : List Oper} {i0 : Nat} {tz uz : Reg.Tz} {f : FuncId} {args : Array Operand} {aT : Array TypeId} {pre : List Box} {ad es : List D} {ι : Type} {post : ι → List Box} {ch : List PanicEntry} (ho : l[i0]? = some ⟨dst, .call { callee := .value (.func f), args := args, argTypes := aT }, ty, pos, af, none⟩) (js : List Nat) (hcon : ConPR P f pre ad post ch) (he : σ.evs args.toList = some es) (hl : LeAll es ad) (hjs : js.Nodup) (hs : SubBx σ.bx js pre) (h : ∀ i, SP Γ ch Q (σ.give js (post i))) (hu : SWz P Γ l Q S uz σ) : SWz P Γ l Q S (.e i0 tz uz) σ := by
  intro a w hh
  have e : l.getD i0 default = ⟨dst, .call { callee := .value (.func f), args := args, argTypes := aT }, ty, pos, af, none⟩ := by rw [List.getD_eq_getElem?_getD, ho]; rfl
  have hall := hl.all (evs_spec hh he)
  unfold Reg.wpG
  rw [e]
  refine ⟨wpList_plain rfl fun K hK => ?_, hu a w hh⟩
  unfold Oper.wp
  rw [run_callV (cap := []) hcon.en (show a.eval (.func f) = .func (.func f) #[] ([] : List Value).toArray from rfl), List.append_nil]
  simp only [Oper.upon]
  refine (upon_PR hcon hh hjs hs hall).mono ?_
  rintro r w' ⟨i, rfl, h1⟩
  exact h i a w' h1
/-- A read taken as an effect that changes nothing. -/
theorem Ef.ofRd {k : Nat} {op : Op} {d : D} (h : Rd P Γ [] ⟨some k, op, ty, pos, af, gd⟩ σ d) (hk : dstOk Γ.nt k = true) : Ef P Γ S ⟨some k, op, ty, pos, af, gd⟩ σ (fun σ' => σ' = σ.put k d) := by
  intro a w hh K Q hK
  obtain ⟨v, h1, h2⟩ := h a w hh
  have h3 := h2 w (Only.refl _ _)
  unfold Oper.wp
  rw [h3]
  exact hK _ _ _ rfl (hh.put (by simpa [dstOk] using hk) h1) (Only.refl _ _)
theorem SN.retDf {fn : Func} {nt : Nat} {base : List Nat} {w0 : World} {pre post : List Box} (js : List Nat) (h : Rs P ⟨nt, base, w0, fps pre, []⟩ fn σ (isD (.tuple #[]))) (hjs : js.Nodup) (hb : SubBx σ.bx js post) :
    SN ⟨nt, base, w0, fps pre, []⟩ (bodyPost P fn (fun e w' => (∃ r, e = .returned r) ∧ (∀ b ∈ post, b.R (fps post ++ base) w') ∧ (fps post).Nodup ∧ (∀ g ∈ fps post, g ∈ fps pre ∨ w0.heap.size ≤ g) ∧ Only (fps pre) w0 w')) σ := by
  intro a w hh
  obtain ⟨v, h1, i, v', h2, h3, h4⟩ := Sx.retR (post := fun _ : Unit => post) (d := fun _ => isD (.tuple #[])) () js h hjs hb hh
  exact bodyPost_end h1 hh.df ⟨⟨v, rfl⟩, h4⟩
theorem SW.retDf {fn : Func} {nt : Nat} {base : List Nat} {w0 : World} {pre post : List Box} (hQ : ∀ a w, bodyPost P fn (fun e w' => (∃ r, e = .returned r) ∧ (∀ b ∈ post, b.R (fps post ++ base) w') ∧ (fps post).Nodup ∧ (∀ g ∈ fps post, g ∈ fps pre ∨ w0.heap.size ≤ g) ∧ Only (fps pre) w0 w') .ret a w → Q .ret a w) (js : List Nat) (h : Rs P ⟨nt, base, w0, fps pre, []⟩ fn σ (isD (.tuple #[]))) (hjs : js.Nodup) (hb : SubBx σ.bx js post) : SW P ⟨nt, base, w0, fps pre, []⟩ σ .ret Q := by
  intro a w hh
  refine wp_ret (hQ a w ?_)
  obtain ⟨v, h1, i, v', h2, h3, h4⟩ := Sx.retR (post := fun _ : Unit => post) (d := fun _ => isD (.tuple #[])) () js h hjs hb hh
  exact bodyPost_ret h1 hh.df ⟨⟨v, rfl⟩, h4⟩
end
end Sx
end Go.Proofs.YtchbgfgboogniaaDoor
namespace Go.Proofs.YtchbgfgboogniaaDoor
open Go.RowKit
namespace Sx
section
variable {P : Program} {Γ : Cx} {σ : St} {S : List Nat} {ty : TypeId} {pos : String} {af : Array Edge} {gd : Option (Nat × Bool)}
theorem str_cells (s : List UInt8) : Go.Lib.strCells ⟨s.toArray⟩ = cellsOf s := by simp [Go.Lib.strCells, cellsOf, B8]
theorem run_append_str (w : World) (t u ty e : TypeId) (i : TypeInfo) (ht : P.underlying t = some (.slice e)) (hu : P.underlying u = some .string) (hi : P.info? e = some i) (hz : i.zero = some (.int .u8 0))
    (hsize : i.size = 1) (hby : i.bytes = 1) (v : Value) (n : Nat) (xs : List Value) (hown : w.ownsRow 0 e 1 v n xs) (s : ByteArray) (hl : n + s.size ≤ 1099511627776) :
    ∃ v' w', (Builtin.append_ #[t, u] ty #[v, .string s]).run P w = .ok v' w' ∧ w'.ownsRow 0 e 1 v' (n + s.size) (xs ++ Go.Lib.strCells s) ∧ w.grownBy w' v.ownBlock ∧ (v'.ownBlock = v.ownBlock ∨ v'.ownBlock = some w.heap.size) := by
  obtain ⟨v', w', hr, h2, h3, h4⟩ := Go.Lib.run_append_own_string (P := P) w 0 t u ty e i ht hu hi hz hsize hby v n xs hown s (by unfold maxLen; omega) (by omega) (Nat.zero_le _)
  refine ⟨v', w', hr, h2, h3, ?_⟩
  have hxl : xs.length = n := by simpa using hown.1
  rcases hown.2 with ⟨rfl, rfl⟩ | ⟨g, cap, cur, rfl, hbg, hg, hnc, hcm, hcs, htake⟩
  · by_cases hm : s.size = 0
    · exact .inl (by rw [h4.2 ⟨rfl, hm⟩])
    · have hr' := run_append_nil_string (P := P) w t u ty e i (.int .u8 0) ht hu hi hz s (by omega) (by omega) (by rw [hby]; omega)
      rw [hr'] at hr
      injection hr with e1 e2
      exact .inr (by rw [← e1]; rfl)
  · by_cases hroom : n + s.size ≤ cap
    · have hcs' : cur.size = cap := by simpa using hcs
      have hr' := Go.Lib.run_append_room_string (P := P) w t u ty e i ht hu hi hsize g n cap cur hg s hroom (by omega)
      rw [hr'] at hr
      injection hr with e1 e2
      exact .inl (by rw [← e1]; rfl)
    · have hr' := Go.Lib.run_append_grow_string (P := P) w t u ty e i (.int .u8 0) ht hu hi hz ⟨g, 0, none⟩ n cap xs (by rw [hsize]; simpa using hxl) (hown.cells (g := g) rfl) s (by omega) (by omega) (by rw [hby]; exact growslice_fits (by omega) (by omega))
      rw [hr'] at hr
      injection hr with e1 e2
      exact .inr (by rw [← e1]; rfl)
theorem Ef.appStr {x y : Operand} {T u e k c : Nat} {A : Option Addr} {F : List Nat} {b s : List UInt8} (j : Nat) (hx : σ.ev x = some (isD (.slice A b.length c))) (hj : σ.bx[j]? = some (.r F (vecT e 1 encB A c b))) (hy : σ.ev y = some (strD s)) (hT : sliceT P T e = true) (hU : stringT P u = true) (hE : elT P e 1 1 = true)
    (hz0 : (P.info? e).map (·.zero) = some (some (.int .u8 0))) (hlen : b.length + s.length ≤ 1099511627776) (hS : ∀ g ∈ F, g ∈ S) (hk : dstOk Γ.nt k = true) :
    Ef P Γ S ⟨some k, .call { callee := .builtin .append, args := #[x, y], argTypes := #[T, u] }, ty, pos, af, gd⟩ σ (fun σ' => ∃ A' F' c', σ' = (σ.give [j] [.r F' (vecT e 1 encB A' c' (b ++ s))]).put k (isD (.slice A' (b ++ s).length c'))) := by
  intro a w hh K Q hK
  have hxv : a.eval x = .slice A b.length c := ev_spec hh hx
  have hyv : a.eval y = .string ⟨s.toArray⟩ := ev_spec hh hy
  obtain ⟨i, z, hI, h1, h2, h3, h4⟩ := elT_spec hE
  rw [hI] at hz0
  obtain rfl : z = .int .u8 0 := by
    have : i.zero = some (.int .u8 0) := by simpa using hz0
    rw [this] at h3
    injection h3 with h3
    exact h3.symm
  obtain ⟨xs, ha, hown, hF⟩ := hh.resAt hj
  have hsz : (⟨s.toArray⟩ : ByteArray).size = s.length := by simp [ByteArray.size]
  obtain ⟨v', w', hrun, ho2, hgr, hblk⟩ := run_append_str (P := P) w T u ty e i (sliceT_spec hT) (stringT_spec hU) hI h3 h1 h2 _ _ xs hown ⟨s.toArray⟩ (by rw [hsz]; omega)
  rw [hsz, str_cells] at ho2
  have hOn : Only F w w' := by rw [hF]; exact Only.of_grown hgr
  have hFL : ∀ x ∈ F, x ∈ σ.L Γ := fun x hx => List.mem_append_left _ (mem_fps.2 ⟨_, List.mem_of_getElem? hj, hx⟩)
  have hsub : SubBx σ.bx [j] [.r F (vecT e 1 encB A c b)] := ⟨⟨_, hj, LeR.refl _⟩, trivial⟩
  have hfp : fps [Box.r F (vecT e 1 encB A c b)] = F := by simp [fps, Box.fp]
  obtain ⟨A', c', rfl⟩ : ∃ A' c', v' = .slice A' (b.length + s.length) c' := by
    rcases ho2.2 with ⟨h5, h6⟩ | ⟨g, cap, cur, h5, _⟩
    · exact ⟨none, 0, by rw [h5]; congr 1; omega⟩
    · exact ⟨_, _, h5⟩
  have hF' : ∀ g ∈ (Value.slice A' (b.length + s.length) c').ownBlock.toList, g ∈ F ∨ w.heap.size ≤ g := fun g hg => by
    rcases hblk with h | h
    · left; rw [hF, ← h]; exact hg
    · right; rw [h] at hg; simp at hg; omega
  have hnd : ((Value.slice A' (b.length + s.length) c').ownBlock.toList).Nodup := by
    cases (Value.slice A' (b.length + s.length) c').ownBlock <;> simp
  have hall : All ((Value.slice A' (b.length + s.length) c').ownBlock.toList ++ (σ.L Γ).filter (· ∉ F)) w' ((b ++ s).flatMap encB) (xs ++ cellsOf s) := by
    have h5 : All (σ.L Γ ++ ((Value.slice A' (b.length + s.length) c').ownBlock.toList ++ (σ.L Γ).filter (· ∉ F))) w' ((b ++ s).flatMap encB) (xs ++ cellsOf s) := by
      rw [List.flatMap_append, flat_encB s]
      refine ((ha.append (all_is (cellsOf s))).less (fun x hx => ?_)).keep hOn (fun x hx => List.mem_append_left _ (hFL x hx))
      rcases List.mem_append.1 hx with hx | hx
      · exact .inl hx
      · rcases List.mem_append.1 hx with hx | hx
        · rcases hF' x hx with h | h
          · exact .inl (hFL x h)
          · exact .inr h
        · exact .inl (List.mem_filter.1 hx).1
    exact h5.less (fun x hx => .inl (List.mem_append_right _ hx))
  obtain ⟨h6, h7⟩ := hh.give (post := [.r (Value.slice A' (b.length + s.length) c').ownBlock.toList (vecR e 1 A' (b.length + s.length) c' ((b ++ s).flatMap encB))]) hsub (by rw [hfp]; exact hOn) (fun bx hb => by
    rw [List.mem_singleton.1 hb]
    refine ⟨xs ++ cellsOf s, ?_, ho2, rfl⟩
    rw [hfp]
    simpa [fps, Box.fp] using hall) (by simpa [fps, Box.fp] using hnd) (fun x hx => by
    rw [hfp]
    exact hF' x (by simpa [fps, Box.fp] using hx))
  have e2 : (execOp a.eval ⟨some k, .call { callee := .builtin .append, args := #[x, y], argTypes := #[T, u] }, ty, pos, af, gd⟩).run P w = .ok (.value (.slice A' (b.length + s.length) c')) w' := by
    simp only [execOp, resolve, invoke, builtin, Sem.run_bind, Sem.run_pure, Result.andThen_ok, List.map_toArray, List.map_cons, List.map_nil, hxv, hyv, hrun]
  unfold Oper.wp
  rw [e2]
  refine hK _ _ _ ⟨A', (Value.slice A' (b.length + s.length) c').ownBlock.toList, c', ?_⟩ (h6.put (by simpa [dstOk] using hk) (d := isD (.slice A' (b.length + s.length) c')) rfl) (hOn.mono (fun x hx _ => hS x hx))
  unfold vecT
  rw [List.length_append]
end
end Sx
end Go.Proofs.YtchbgfgboogniaaDoor
namespace Go.Proofs.YtchbgfgboogniaaDoor
open Go.RowKit
namespace Sx
section
variable {P : Program} {Γ : Cx} {σ : St} {S : List Nat} {dst : Option Tmp} {ty : TypeId} {pos : String} {af : Array Edge} {gd : Option (Nat × Bool)}
theorem Rd.makeFuncB {fn : Fn} {bp : Array Operand} (cs : List Value) (hc : σ.evs bp.toList = some (cs.map isD)) : Rd P Γ S ⟨dst, .makeFunc fn bp #[], ty, pos, af, gd⟩ σ (isD (.func fn cs.toArray #[])) := by
  intro a w hh
  have hall := evs_spec hh hc
  have key : ∀ {zs cs : List Value}, All (σ.L Γ) w (zs.map isD) cs → cs = zs := by
    intro zs
    induction zs with
    | nil => intro cs h; cases cs with | nil => rfl | cons => exact h.elim
    | cons z zs ih => intro cs h; cases cs with | nil => exact h.elim | cons c cs => rw [ih h.2, show c = z from h.1]
  have e : bp.map a.eval = cs.toArray := by
    apply Array.ext'
    simpa using key hall
  exact ⟨_, rfl, fun w' _ => by simp [execOp, Instr.makeFunc, e]⟩
theorem run_callB {a : Act} {w : World} {x : Operand} {f : FuncId} {args : Array Operand} {aT : Array TypeId} {bd : List Value} (hen : enters P f) (hx : a.eval x = .func (.func f) bd.toArray #[]) :
    (execOp a.eval ⟨dst, .call { callee := .value x, args := args, argTypes := aT }, ty, pos, af, gd⟩).run P w = .ok (.enter f (bd ++ args.toList.map a.eval).toArray) w := by
  have h := hen (bd ++ args.toList.map a.eval).toArray w
  have e1 : bd.toArray ++ (args.map a.eval) = (bd ++ args.toList.map a.eval).toArray := by apply Array.ext'; simp
  simp only [execOp, resolve, hx, Deferred.ofValue, Sem.run_bind, Sem.run_pure, Result.andThen_ok, invoke, Array.append_empty]
  rw [e1]
  exact h
theorem all_bd {L : List Nat} {w : World} {es : List D} {vs : List Value} (bd : List Value) (h : All L w es vs) : All L w (bd.map isD ++ es) (bd ++ vs) := (all_is bd).append h
/-- A call of a method value that is lent boxes. -/
theorem Ef.callBR {x : Operand} {f : FuncId} {args : Array Operand} {aT : Array TypeId} {bd : List Value} {pre : List Box} {ad es : List D} {ι : Type} {post : ι → List Box} {d : ι → D} {k : Nat} (js : List Nat) (hcon : ConR P f pre ad post d) (hx : σ.ev x = some (isD (.func (.func f) bd.toArray #[]))) (he : σ.evs args.toList = some es) (hl : LeAll (bd.map isD ++ es) ad) (hjs : js.Nodup) (hs : SubBx σ.bx js pre) (hS : ∀ g ∈ fps pre, g ∈ S) (hk : dstOk Γ.nt k = true) :
    Ef P Γ S ⟨some k, .call { callee := .value x, args := args, argTypes := aT }, ty, pos, af, gd⟩ σ (fun σ' => ∃ i, σ' = (σ.give js (post i)).put k (d i)) := by
  intro a w hh K Q hK
  have hall := hl.all (all_bd bd (evs_spec hh he))
  unfold Oper.wp
  rw [run_callB hcon.en (show a.eval x = _ from ev_spec hh hx)]
  simp only [Oper.upon]
  refine (upon_R hcon hh hjs hs hall).mono ?_
  rintro r w' ⟨i, v, rfl, h1, h2, ho⟩
  exact hK _ _ _ ⟨i, rfl⟩ (h1.put (by simpa [dstOk] using hk) h2) (ho.mono (fun x hx _ => hS x hx))
end
end Sx
end Go.Proofs.YtchbgfgboogniaaDoor
