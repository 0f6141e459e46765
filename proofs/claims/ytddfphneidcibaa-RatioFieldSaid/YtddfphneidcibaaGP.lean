/-
  WALKING CODE BY WHAT IS KNOWN: arrays that a callee returns as its own, words and their bits, parts of slices. Over any program.
  WALKING CODE BY WHAT IS KNOWN: guarded effects that are not wanted, in regions that draw their order. Over any program.
-/
import Derived.Test.YtddfphneidcibaaGS
namespace Go.Proofs.Ytddfphneidcibaa
open Go.RowKit
namespace Sx
section
variable {P : Program} {Γ : Cx} {σ : St} {S : List Nat} {dst : Option Tmp} {ty : TypeId} {pos : String} {af : Array Edge} {gd : Option (Nat × Bool)} {d : D}
/-- A function that returns an array of its own. -/
structure ConO (P : Program) (f : FuncId) (as : List D) (n : Nat) (es : List D) : Prop where
  en : enters P f
  go : ∀ (L : List Nat) (w : World) (vs : List Value), (∀ x ∈ L, x < w.heap.size) → All L w as vs →
    Calls P f vs.toArray w fun e w' => ∃ g, e = .returned (.slice (some ⟨g, 0, none⟩) n n) ∧ w.heap.size ≤ g ∧ (∃ t cs, Blk w' g t cs ∧ All (g :: L) w' es cs) ∧ Only [] w w'
theorem Holds.boxO {a : Act} {w w' : World} (h : Holds Γ σ a w) {g : Nat} {t : TypeId} {es : List D} {cs : List Value} (ho : Only [] w w') (hg : w.heap.size ≤ g) (hb : Blk w' g t cs) (hd : All (g :: σ.L Γ) w' es cs) : Holds Γ (σ.mk' g es) a w' := by
  have hL : ∀ x ∈ (σ.mk' g es).L Γ, x ∈ σ.L Γ ∨ w.heap.size ≤ x := by
    intro x hx
    simp only [St.L, St.mk', List.map_append, List.map_cons, List.map_nil, List.append_assoc, List.mem_append, List.mem_singleton] at hx ⊢
    rcases hx with hx | hx | hx
    · exact .inl (.inl hx)
    · exact .inr (by omega)
    · exact .inl (.inr hx)
  have hL2 : ∀ x ∈ (σ.mk' g es).L Γ, x ∈ g :: σ.L Γ ∨ w'.heap.size ≤ x := by
    intro x hx
    simp only [St.L, St.mk', List.map_append, List.map_cons, List.map_nil, List.append_assoc, List.mem_append, List.mem_singleton, List.mem_cons] at hx ⊢
    rcases hx with hx | (hx | hx) | hx
    · exact .inl (.inr (.inl hx))
    · exact .inl (.inl hx)
    · simp at hx
    · exact .inl (.inr (.inr hx))
  refine ⟨h.df, h.sz, fun i d hi => d.keep (d.less (h.tm i d hi) hL) ho (by simp), fun x xs hx => ?_, ?_, ?_, h.on.trans ho (by simp), h.bs, h.dj⟩
  · rcases List.mem_append.1 hx with hx | hx
    · obtain ⟨t', cs', hb', ha⟩ := h.bx x xs hx
      exact ⟨t', cs', hb'.keep ho (by simp), (ha.less hL).keep ho (by simp)⟩
    · simp only [List.mem_singleton, Prod.mk.injEq] at hx
      obtain ⟨rfl, rfl⟩ := hx
      exact ⟨t, cs, hb, hd.less hL2⟩
  · simp only [St.mk', List.map_append, List.map_cons, List.map_nil]
    refine List.nodup_append.2 ⟨h.nd, by simp, fun x hx y hy e => ?_⟩
    simp at hy
    have := h.lt x (List.mem_append_left _ hx)
    omega
  · intro x hx
    simp only [St.mk', List.map_append, List.map_cons, List.map_nil, List.mem_append, List.mem_singleton] at hx
    rcases hx with hx | rfl
    · exact h.nw x hx
    · exact .inl (Nat.le_trans h.on.size hg)
theorem Ef.callO {f : FuncId} {args : Array Operand} {aT : Array TypeId} {as as' es : List D} {n k : Nat} (hcon : ConO P f as n es) (he : σ.evs args.toList = some as') (hl : LeAll as' as) (hk : dstOk Γ.nt k = true) :
    Ef P Γ S ⟨some k, .call { callee := .value (.func f), args := args, argTypes := aT }, ty, pos, af, gd⟩ σ (fun σ' => ∃ g, σ' = (σ.mk' g es).put k (isD (.slice (some ⟨g, 0, none⟩) n n))) := by
  intro a w hh K Q hK
  have hall := hl.all (evs_spec hh he)
  have e : (execOp a.eval ⟨some k, .call { callee := .value (.func f), args := args, argTypes := aT }, ty, pos, af, gd⟩).run P w = .ok (.enter f (args.toList.map a.eval).toArray) w := by
    have h := hcon.en (args.toList.map a.eval).toArray w
    have e1 : (args.map a.eval) = (args.toList.map a.eval).toArray := by apply Array.ext'; simp
    simp only [execOp, resolve, Deferred.ofValue, Act.eval, e1, Sem.run_bind, Sem.run_pure, Result.andThen_ok, invoke, Array.append_empty, Array.empty_append]
    exact h
  unfold Oper.wp
  rw [e]
  simp only [Oper.upon]
  refine (hcon.go (σ.L Γ) w _ hh.lt hall).mono ?_
  rintro r w' ⟨g, rfl, hg, ⟨t, cs, hb, ha⟩, ho⟩
  exact hK _ _ _ ⟨g, rfl⟩ ((hh.boxO ho hg hb ha).put (by simpa [dstOk] using hk) rfl) (ho.mono (by simp))
theorem con_ofO {f : FuncId} {fn : Func} {c : Code} {as es : List D} {n : Nat} (hf : P.funcs[f]? = some fn) (hn : (fn.name == "runtime.NumGoroutine") = false) (hb : fn.body = some c) (hlen : Nat.ble as.length fn.ntmps = true)
    (h : ∀ (base : List Nat) (w0 : World), SW P ⟨fn.ntmps, base, w0, []⟩ (St.of (inits 0 as) []) c (bodyPost P fn fun e w' => ∃ g, e = .returned (.slice (some ⟨g, 0, none⟩) n n) ∧ w0.heap.size ≤ g ∧ (∃ t cs, Blk w' g t cs ∧ All (g :: base) w' es cs) ∧ Only [] w0 w')) : ConO P f as n es := by
  refine ⟨enters_of hf hn (by rw [hb]; rfl), fun L w vs hL ha => ?_⟩
  refine calls_of_wp hf hb (h L w _ _ ?_)
  have hl := ha.length
  have hle : as.length ≤ fn.ntmps := by simpa using hlen
  refine ⟨rfl, by simp [hl]; omega, fun i e hi => ?_, fun g es hg => by simp [St.of] at hg, by simp [St.of], by simp [St.of], Only.refl _ _, hL, by simp⟩
  have := inits_spec (pre := []) (post := List.replicate (fn.ntmps - vs.length) undef) ha rfl i e hi
  have e1 : vs.toArray ++ Array.replicate (fn.ntmps - vs.toArray.size) undef = ([] ++ vs ++ List.replicate (fn.ntmps - vs.length) undef).toArray := by
    apply Array.ext'
    simp
  rw [e1]
  simpa [St.L, St.of] using this
theorem SW.retO {fn : Func} {Q : Exit → Act → World → Prop} {nt n t g : Nat} {base : List Nat} {w0 : World} {xs es : List D} (hQ : ∀ a w, bodyPost P fn (fun e w' => ∃ g, e = .returned (.slice (some ⟨g, 0, none⟩) n n) ∧ w0.heap.size ≤ g ∧ (∃ t cs, Blk w' g t cs ∧ All (g :: base) w' es cs) ∧ Only [] w0 w') .ret a w → Q .ret a w)
    (j : Nat) (hr : fn.results = #[.tmp t]) (ht : σ.tm t = some (isD (.slice (some ⟨g, 0, none⟩) n n))) (hj : σ.bx[j]? = some (g, xs)) (hl : LeAll xs es) : SW P ⟨nt, base, w0, []⟩ σ .ret Q := by
  intro a w hh
  refine wp_ret (hQ a w ?_)
  have hv : a.tmps.getD t undef = .slice (some ⟨g, 0, none⟩) n n := hh.tm _ _ ht
  obtain ⟨t', cs, hb, ha⟩ := hh.bx g xs (List.mem_of_getElem? hj)
  have hg : g ∈ σ.bx.map (·.1) := List.mem_map.2 ⟨_, List.mem_of_getElem? hj, rfl⟩
  have hL : ∀ x ∈ g :: base, x ∈ σ.L ⟨nt, base, w0, []⟩ ∨ w.heap.size ≤ x := fun x hx => by
    rcases List.mem_cons.1 hx with rfl | hx
    · exact .inl (List.mem_append_left _ hg)
    · exact .inl (List.mem_append_right _ hx)
  have hgw : w0.heap.size ≤ g := by
    rcases hh.nw g hg with h' | h'
    · exact h'
    · simp at h'
  exact bodyPost_ret (results_tmp hr a.tmps P w) hh.df ⟨g, by rw [hv], hgw, ⟨t', cs, hb, hl.all (ha.less hL)⟩, hh.on⟩

/-! Words. -/
theorem Rd.shlW {x y : Operand} {xT yT : TypeId} {k ky : IntKind} {p r : Int} {s : Nat} (hx : σ.ev x = some (isD (.int k p))) (hy : σ.ev y = some (isD (.int ky (s : Int)))) (h : k.wrap (p * 2 ^ (min s k.bits)) = r) : Rd P Γ S ⟨dst, .binOp .shl xT x y yT, ty, pos, af, gd⟩ σ (isD (.int k r)) := Rd.bin hx hy fun _ => by
  have h0 : ¬ ((s : Int) < 0) := by omega
  simp [eqGuard, binOp, Op.shift, h0, h]
theorem Rd.shrW {x y : Operand} {xT yT : TypeId} {k ky : IntKind} {p r : Int} {s : Nat} (hx : σ.ev x = some (isD (.int k p))) (hy : σ.ev y = some (isD (.int ky (s : Int)))) (h : p / 2 ^ (min s k.bits) = r) : Rd P Γ S ⟨dst, .binOp .shr xT x y yT, ty, pos, af, gd⟩ σ (isD (.int k r)) := Rd.bin hx hy fun _ => by
  have h0 : ¬ ((s : Int) < 0) := by omega
  have h1 : p.fdiv (2 ^ (min s k.bits)) = r := by rw [Int.fdiv_eq_ediv_of_nonneg _ (by exact Int.le_of_lt (Int.pow_pos (by decide)))]; exact h
  simp [eqGuard, binOp, Op.shift, h0, h1]
theorem Rd.orW {x y : Operand} {xT yT : TypeId} {k : IntKind} {p q r : Int} (hx : σ.ev x = some (isD (.int k p))) (hy : σ.ev y = some (isD (.int k q))) (h : bits .or k p q = r) : Rd P Γ S ⟨dst, .binOp .or xT x y yT, ty, pos, af, gd⟩ σ (isD (.int k r)) := Rd.bin hx hy fun _ => by
  subst h
  simp [eqGuard, binOp, go_sem]
theorem Rd.andW {x y : Operand} {xT yT : TypeId} {k : IntKind} {p q r : Int} (hx : σ.ev x = some (isD (.int k p))) (hy : σ.ev y = some (isD (.int k q))) (h : bits .and k p q = r) : Rd P Γ S ⟨dst, .binOp .and xT x y yT, ty, pos, af, gd⟩ σ (isD (.int k r)) := Rd.bin hx hy fun _ => by
  subst h
  simp [eqGuard, binOp, go_sem]
theorem Rd.mulW {x y : Operand} {xT yT : TypeId} {k : IntKind} {p q r : Int} (hx : σ.ev x = some (isD (.int k p))) (hy : σ.ev y = some (isD (.int k q))) (h : k.wrap (p * q) = r) : Rd P Γ S ⟨dst, .binOp .mul xT x y yT, ty, pos, af, gd⟩ σ (isD (.int k r)) := Rd.bin hx hy fun _ => by simp [eqGuard, binOp, Op.intArith, h]
theorem Rd.quoW {x y : Operand} {xT yT : TypeId} {k : IntKind} {p q r : Int} (hx : σ.ev x = some (isD (.int k p))) (hy : σ.ev y = some (isD (.int k q))) (h0 : q ≠ 0) (h : k.wrap (p.tdiv q) = r) : Rd P Γ S ⟨dst, .binOp .quo xT x y yT, ty, pos, af, gd⟩ σ (isD (.int k r)) := Rd.bin hx hy fun _ => by simp [eqGuard, binOp, Op.intDiv, h0, h]
theorem Rd.remW {x y : Operand} {xT yT : TypeId} {k : IntKind} {p q r : Int} (hx : σ.ev x = some (isD (.int k p))) (hy : σ.ev y = some (isD (.int k q))) (h0 : q ≠ 0) (h : p.tmod q = r) : Rd P Γ S ⟨dst, .binOp .rem xT x y yT, ty, pos, af, gd⟩ σ (isD (.int k r)) := Rd.bin hx hy fun _ => by simp [eqGuard, binOp, Op.intDiv, h0, h]
theorem wrap_u64 {z : Int} (h1 : 0 ≤ z) (h2 : z < 18446744073709551616) : IntKind.u64.wrap z = z := by
  simp [IntKind.wrap, IntKind.signed, IntKind.bits]
  omega
theorem wrap_u32 (z : Int) : IntKind.u32.wrap z = z % 4294967296 := by
  simp [IntKind.wrap, IntKind.signed, IntKind.bits]
theorem wrap_u64m (z : Int) : IntKind.u64.wrap z = z % 18446744073709551616 := by
  simp [IntKind.wrap, IntKind.signed, IntKind.bits]

/-! Parts of slices. -/
/-- s[lo:hi] of a slice whose place is known. -/
theorem Rd.slE {x y z : Operand} {T e g o n c lo hi : Nat} {ky kz : IntKind} (hx : σ.ev x = some (isD (.slice (some ⟨g, o, none⟩) n c))) (hy : σ.ev y = some (isD (.int ky (lo : Int)))) (hz : σ.ev z = some (isD (.int kz (hi : Int)))) (hT : sliceT P T e = true) (hs : (P.info? e).map (·.size) = some 1) (h1 : lo ≤ hi) (h2 : hi ≤ c) (h3 : lo < c) :
    Rd P Γ S ⟨dst, .slice T x (some y) (some z) none, ty, pos, af, gd⟩ σ (isD (.slice (some ⟨g, o + lo, none⟩) (hi - lo) (c - lo))) := by
  intro a w hh
  have hxv : a.eval x = .slice (some ⟨g, o, none⟩) n c := ev_spec hh hx
  have hyv : a.eval y = .int ky (lo : Int) := ev_spec hh hy
  have hzv : a.eval z = .int kz (hi : Int) := ev_spec hh hz
  refine ⟨_, rfl, fun w' _ => ?_⟩
  obtain ⟨inf, hi', hsz⟩ := Option.map_eq_some_iff.1 hs
  have e3 : ¬ c = lo := by omega
  simp [execOp, hxv, hyv, hzv, Instr.sliceAt, Instr.slice, Instr.sliceBounds, Instr.sliceBound, asIntOf, run_underlying (sliceT_spec hT), sizeOf, typeInfo, hi', hsz, Addr.add, h1, h2, e3]
/-- s[:hi] of data. -/
theorem Rd.shS {x z : Operand} {T e hi : Nat} {xs : List Value} {kz : IntKind} (hx : σ.ev x = some (slD xs)) (hz : σ.ev z = some (isD (.int kz (hi : Int)))) (hT : sliceT P T e = true) (hs : (P.info? e).map (·.size) = some 1) (h2 : hi ≤ xs.length) :
    Rd P Γ S ⟨dst, .slice T x none (some z) none, ty, pos, af, gd⟩ σ (slD (xs.take hi)) := by
  intro a w hh
  obtain ⟨A, c, hxv, hc, hr, ha⟩ := ev_spec hh hx
  have hzv : a.eval z = .int kz (hi : Int) := ev_spec hh hz
  have hl : (xs.take hi).length = hi := by rw [List.length_take]; omega
  obtain ⟨inf, hi', hsz⟩ := Option.map_eq_some_iff.1 hs
  have e1 : hi ≤ c := by omega
  refine ⟨.slice A hi c, ⟨A, c, by rw [hl], by rw [hl]; omega, hr.take hi, fun h0 => ha (by rw [hl] at h0; omega)⟩, fun w' _ => ?_⟩
  cases A with
  | none => simp [execOp, hxv, hzv, Instr.sliceAt, Instr.slice, Instr.sliceBounds, Instr.sliceBound, asIntOf, run_underlying (sliceT_spec hT), sizeOf, typeInfo, hi', hsz, e1]
  | some p =>
    obtain ⟨b, o, sp⟩ := p
    simp [execOp, hxv, hzv, Instr.sliceAt, Instr.slice, Instr.sliceBounds, Instr.sliceBound, asIntOf, run_underlying (sliceT_spec hT), sizeOf, typeInfo, hi', hsz, e1, Addr.add]
end
end Sx
end Go.Proofs.Ytddfphneidcibaa
namespace Go.Proofs.Ytddfphneidcibaa
open Go.RowKit
namespace Sx
section
variable {P : Program} {Γ : Cx} {σ σ' : St} {S : List Nat} {l : List Oper} {Q : Exit → Act → World → Prop} {tz uz : Reg.Tz} {k : Nat} {op : Op} {ty : TypeId} {pos : String} {af : Array Edge}
theorem SWz.offn {i j t : Nat} {b c : Bool} (ho : l[i]? = some ⟨some k, op, ty, pos, af, some (j, b)⟩) (hj : (l[j]?).bind (·.dst) = some t) (ht : σ.tm t = some (isD (.bool c))) (hc : c = !b) (hn : dstOk Γ.nt t = true)
    (hd : dstOk Γ.nt k = true) (hk : SWz P Γ l Q S tz (σ.put k (isD undef))) (hu : SWz P Γ l Q S uz σ) : SWz P Γ l Q S (.n i tz uz) σ := by
  intro a w hh
  have e : l.getD i default = ⟨some k, op, ty, pos, af, some (j, b)⟩ := by rw [List.getD_eq_getElem?_getD, ho]; rfl
  unfold Reg.wpG
  rw [e]
  refine ⟨wpList_step fun K hK => ?_, hu a w hh⟩
  rw [wanted_of (ops := l.toArray) hh rfl (by simpa using hj) ht hn, if_neg (by subst hc; cases b <;> simp)]
  exact hK _ _ ⟨S, Reg.Gr.refl S _, Only.refl _ _, hk _ _ (hh.put (by simpa [dstOk] using hd) rfl)⟩
end
end Sx
end Go.Proofs.Ytddfphneidcibaa
