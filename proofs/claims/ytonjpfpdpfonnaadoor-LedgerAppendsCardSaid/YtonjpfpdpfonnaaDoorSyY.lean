/-
  A SLICE THAT GROWS WHILE ITS OLD VIEW IS KEPT: append onto a slice of one's own whose earlier elements someone else sees too.
-/
import Derived.Test.YtonjpfpdpfonnaaDoorSyX
import Derived.Test.YtonjpfpdpfonnaaDoorGV
import Derived.LoopN
namespace Go.Proofs.YtonjpfpdpfonnaaDoor
open Go.RowKit
namespace Sx
section
variable {P : Program} (w : World)
theorem run_append_old (t ty e : TypeId) (i : TypeInfo) (z : Value) (size bytes : Nat) (ht : P.underlying t = some (.slice e)) (hi : P.info? e = some i) (hz : i.zero = some z)
    (hsize : i.size = size) (hby : i.bytes = bytes) (A : Option Addr) (n c : Nat) (xs : List Value) (hown : w.ownsRow 0 e size (.slice A n c) n xs)
    (a : Addr) (m cy : Nat) (news : List Value) (hl : news.length = m * size) (hnews : ∀ j u, news[j]? = some u → w.cell? (a.add j) = some u) (h1 : ∀ u ∈ news, u.oneCell' = true)
    (hm : 0 < m) (h63 : n + m ≤ maxLen) (hbytes : (n + m) * bytes ≤ 140737488355328) :
    ∃ A' c' w', (Builtin.append_ #[t, t] ty #[.slice A n c, .slice (some a) m cy]).run P w = .ok (.slice A' (n + m) c') w' ∧ w'.ownsRow 0 e size (.slice A n c) n xs ∧ w.grownBy w' (Value.slice A n c).ownBlock := by
  subst hsize
  subst hby
  have hsmall : n + m ≤ 9223372036854775807 := by simp only [maxLen] at h63; omega
  have grown : ∀ (cs : Array Value) (row : Option Nat), w.grownBy (w.drew.alloc (.cells cs e)) row := fun cs row => ⟨rfl, rfl, rfl, by simp, fun k hk _ => heap_alloc_old w.drew _ hk⟩
  rcases hown.2 with ⟨hv, hn⟩ | ⟨g, cap, cur, hv, hbg, hg, hnc, hcm, hcs, htake⟩
  · injection hv with e1 e2 e3
    subst e1 e3 hn
    have hr := run_append_nil (P := P) w t ty e i z ht hi hz a m cy news hl hnews hm (by omega) (by have hb := hbytes; simp only [Nat.zero_add] at hb; omega)
    exact ⟨_, _, _, by rw [hr, Nat.zero_add], hown.kept (grown _ none) (.inl rfl), grown _ _⟩
  · injection hv with e1 e2 e3
    subst e1 e3
    by_cases hroom : n + m ≤ c
    · have hfit : n * i.size + news.length ≤ cur.size := by rw [hl, hcs, ← Nat.add_mul]; exact Nat.mul_le_mul_right _ hroom
      have hr := run_append_room (P := P) w t ty e i ht hi g n c cur hg a m cy news hl hnews h1 hroom hfit
      refine ⟨_, _, _, hr, ⟨hown.1, .inr ⟨g, c, _, rfl, hbg, setRow_heap w g cur _ e _ hg, hnc, hcm, ?_, ?_⟩⟩, ⟨rfl, rfl, rfl, by simp, fun k _ hk => setRow_other w g k _ (fun e => hk (by simp [Value.ownBlock, e]))⟩⟩
      · simp only [List.size_toArray, List.length_append, List.length_take, List.length_drop, Array.length_toList]
        omega
      · rw [htake, List.append_assoc]
        simp only
        rw [List.take_append_of_le_length (by rw [hown.1]; exact Nat.le_refl _), List.take_of_length_le (by rw [hown.1]; exact Nat.le_refl _)]
    · have holds : ∀ j u, xs[j]? = some u → w.cell? ((⟨g, 0, none⟩ : Addr).add j) = some u := hown.cells (g := g) rfl
      have hr := run_append_grow (P := P) w t ty e i z ht hi hz ⟨g, 0, none⟩ n c xs hown.1 holds a m cy news hl hnews (by omega) (by omega) (growslice_fits (by omega) hbytes)
      exact ⟨_, _, _, hr, hown.kept (grown _ none) (.inr (by simp [Value.ownBlock])), grown _ _⟩
end
section
variable {P : Program} {Γ : Cx} {σ : St} {S : List Nat} {dst : Option Tmp} {ty : TypeId} {pos : String} {af : Array Edge} {gd : Option (Nat × Bool)} {Q : Exit → Act → World → Prop} {a : Act} {w : World}
/-- The old slice is as it was; of the new one no more is said than its length. -/
theorem Ef.appOld {x y : Operand} {T e k c : Nat} {A : Option Addr} {F : List Nat} {α : Type} {enc : α → List D} {l l' : List α} (j sz bytes : Nat) [Row enc sz] (hx : σ.ev x = some (isD (.slice A l.length c))) (hj : σ.bx[j]? = some (.r F (vecT e sz enc A c l))) (hsrc : SrcT Γ σ y enc l') (hT : sliceT P T e = true) (hE : elT P e sz bytes = true) (h0 : 0 < l'.length) (hlen : l.length + l'.length ≤ 1099511627776) (hb : bytes ≤ 128) (hS : ∀ g ∈ F, g ∈ S) (hk : dstOk Γ.nt k = true) :
    Ef P Γ S ⟨some k, .call { callee := .builtin .append, args := #[x, y], argTypes := #[T, T] }, ty, pos, af, gd⟩ σ (fun σ' => ∃ A' c', σ' = (σ.give [j] [.r F (vecT e sz enc A c l)]).put k (isD (.slice A' (l.length + l'.length) c'))) := by
  intro a w hh K Q hK
  have hsz : 0 < sz := Row.pos (enc := enc)
  have hm : (l'.flatMap enc).length = l'.length * sz := flat_len (enc := enc) (sz := sz) _
  have hxv : a.eval x = .slice A l.length c := ev_spec hh hx
  obtain ⟨B, cy, hyv, hcy, hat⟩ := hsrc a w hh
  obtain ⟨i, z, hI, h1, h2, h3, h4⟩ := elT_spec hE
  obtain ⟨xs, ha, hown, hF⟩ := hh.resAt hj
  have hpos : 0 < (l'.flatMap enc).length := by rw [hm]; exact Nat.mul_pos h0 hsz
  obtain ⟨gb, ob, rfl, cs, hcs, hcell⟩ := hat hpos
  have hlc := hcs.length
  obtain ⟨A', c', w', hrun, ho2, hgr⟩ := run_append_old (P := P) w T ty e i z sz bytes (sliceT_spec hT) hI h3 h1 h2 A l.length c xs hown ⟨gb, ob, none⟩ l'.length cy cs (by rw [hlc, hm]) (fun q u hq => by
    have hq1 := (List.getElem?_eq_some_iff.1 hq).1
    rw [Addr.add_mid, hcell q hq1]
    exact hq) (fun u hu => Ones.h (ds := l'.flatMap enc) _ _ _ hcs u hu) h0 (by simp only [maxLen]; omega) (by have := Nat.mul_le_mul hlen hb; omega)
  have hOn : Only F w w' := by rw [hF]; exact Only.of_grown hgr
  have hFL : ∀ x ∈ F, x ∈ σ.L Γ := fun x hx => List.mem_append_left _ (mem_fps.2 ⟨_, List.mem_of_getElem? hj, hx⟩)
  have hsub : SubBx σ.bx [j] [.r F (vecT e sz enc A c l)] := ⟨⟨_, hj, LeR.refl _⟩, trivial⟩
  have hfp : fps [Box.r F (vecT e sz enc A c l)] = F := by simp [fps, Box.fp]
  have hall : All (F ++ (σ.L Γ).filter (· ∉ F)) w' (l.flatMap enc) xs := (ha.keep hOn hFL).less (fun x hx => .inl (by
    rcases List.mem_append.1 hx with hx | hx
    · exact hFL x hx
    · exact (List.mem_filter.1 hx).1))
  obtain ⟨h6, h7⟩ := hh.give (post := [.r F (vecT e sz enc A c l)]) hsub (by rw [hfp]; exact hOn) (fun b hb => by
    rw [List.mem_singleton.1 hb]
    refine ⟨xs, ?_, ho2, hF⟩
    rw [hfp]
    exact hall) (by rw [hfp]; exact fp_nodup hh.nd (List.mem_of_getElem? hj)) (fun g hg => .inl hg)
  have e2 : (execOp a.eval ⟨some k, .call { callee := .builtin .append, args := #[x, y], argTypes := #[T, T] }, ty, pos, af, gd⟩).run P w = .ok (.value (.slice A' (l.length + l'.length) c')) w' := by
    simp only [execOp, resolve, invoke, builtin, Sem.run_bind, Sem.run_pure, Result.andThen_ok, List.map_toArray, List.map_cons, List.map_nil, hxv, hyv, hrun]
  unfold Oper.wp
  rw [e2]
  exact hK _ _ _ ⟨A', c', rfl⟩ (h6.put (by simpa [dstOk] using hk) rfl) (hOn.mono (fun x hx _ => hS x hx))
/-- A slice of one's own is let go of: a cell holds it, with less room perhaps. -/
theorem Holds.freezeO (h : Holds Γ σ a w) {j j2 o g e sz c c2 : Nat} {A : Option Addr} {F : List Nat} {α : Type} {enc : α → List D} {l : List α} {ds : List D} (hv : σ.bx[j2]? = some (.r F (vecT e sz enc A c l)))
    (hj : (dropAt σ.bx 0 [j2])[j]? = some (.c g ds)) (hd : ds[o]? = some (isD (.slice A l.length c2))) (hc2 : l.length ≤ c2) : Holds Γ ⟨σ.tm, (dropAt σ.bx 0 [j2]).set j (.c g (ds.set o (lsD enc l)))⟩ a w := by
  have h1 := h.drop [j2]
  obtain ⟨hc, hat⟩ := own_at (h.resAt hv) (L' := St.L Γ ⟨σ.tm, dropAt σ.bx 0 [j2]⟩) (fun x hx => .inl (by
    rcases List.mem_append.1 hx with hx | hx
    · exact List.mem_append_left _ (dropAt_fps hx)
    · exact List.mem_append_right _ hx)) (fun g hg => apart_drop h hv hg)
  refine h1.rebox hj rfl ?_
  obtain ⟨t, cs, hbk, ha⟩ := h1.boxAt hj
  refine ⟨t, cs, hbk, ?_⟩
  obtain ⟨v, h3, h4⟩ := ha.at hd
  have h6 := ha.set (i := o) (d := lsD enc l) (c := v) (by
    rw [show v = .slice A l.length c2 from h4]
    exact ⟨A, c2, rfl, hc2, hat⟩)
  have e7 : cs.set o v = cs := by
    obtain ⟨h7, h8⟩ := List.getElem?_eq_some_iff.1 h3
    rw [← h8]
    exact List.set_getElem_self h7
  rwa [e7] at h6
theorem SW.freezeO {cd : Code} (j o j2 : Nat) {g e sz c c2 : Nat} {A : Option Addr} {F : List Nat} {α : Type} {enc : α → List D} {l : List α} {ds : List D} (hv : σ.bx[j2]? = some (.r F (vecT e sz enc A c l)))
    (hj : (dropAt σ.bx 0 [j2])[j]? = some (.c g ds)) (hd : ds[o]? = some (isD (.slice A l.length c2))) (hc2 : l.length ≤ c2) (h : SW P Γ ⟨σ.tm, (dropAt σ.bx 0 [j2]).set j (.c g (ds.set o (lsD enc l)))⟩ cd Q) : SW P Γ σ cd Q := fun a w hh => h a w (hh.freezeO hv hj hd hc2)
/-- s[:hi:max] of a slice of one's own, all of it. -/
theorem Rd.sl3 {x y z : Operand} {T e c : Nat} {A : Option Addr} {F : List Nat} {α : Type} {enc : α → List D} {l : List α} (j sz : Nat) (hx : σ.ev x = some (isD (.slice A l.length c))) (hj : σ.bx[j]? = some (.r F (vecT e sz enc A c l))) (hy : σ.ev y = some (isD (.int .i64 (l.length : Int)))) (hz : σ.ev z = some (isD (.int .i64 (l.length : Int)))) (hT : sliceT P T e = true) (hs : (P.info? e).map (·.size) = some sz) :
    Rd P Γ S ⟨dst, .slice T x none (some y) (some z), ty, pos, af, gd⟩ σ (isD (.slice A l.length l.length)) := by
  intro a w hh
  have hxv : a.eval x = .slice A l.length c := ev_spec hh hx
  have hyv : a.eval y = .int .i64 (l.length : Int) := ev_spec hh hy
  have hzv : a.eval z = .int .i64 (l.length : Int) := ev_spec hh hz
  obtain ⟨inf, hi', hsz⟩ := Option.map_eq_some_iff.1 hs
  obtain ⟨xs, ha, hown, hF⟩ := hh.resAt hj
  refine ⟨_, rfl, fun w' _ => ?_⟩
  rcases hown.2 with ⟨hv, hn⟩ | ⟨g, cap, cur, hv, hbg, hg, hnc, hcm, hcs, htake⟩
  · injection hv with e1 e2 e3
    subst e1 e3
    rw [hn] at hxv hyv hzv ⊢
    simp [execOp, hxv, hyv, hzv, Instr.sliceAt, Instr.slice, Instr.sliceBounds, Instr.sliceBound, asIntOf, run_underlying (sliceT_spec hT), sizeOf, typeInfo, hi', hsz]
  · injection hv with e1 e2 e3
    subst e1 e3
    simp [execOp, hxv, hyv, hzv, Instr.sliceAt, Instr.slice, Instr.sliceBounds, Instr.sliceBound, asIntOf, run_underlying (sliceT_spec hT), sizeOf, typeInfo, hi', hsz, Addr.add, hnc]
/-- A closure over one variable of one's own is let go of. -/
theorem Holds.freezeF (h : Holds Γ σ a w) {j k g : Nat} {f : FuncId} {ds : List D} (hj : σ.bx[j]? = some (.c g ds)) (hk : σ.tm k = some (isD (.func (.func f) #[] #[.pointer (some ⟨g, 0, none⟩)]))) : Holds Γ ((⟨σ.tm, dropAt σ.bx 0 [j]⟩ : St).put k (fnD f [paD ds])) a w := by
  refine (h.drop [j]).learn ?_
  have hv : a.tmps.getD k undef = .func (.func f) #[] #[.pointer (some ⟨g, 0, none⟩)] := h.tm k _ hk
  rw [hv]
  obtain ⟨t, cs, hb, ha⟩ := h.bx (.c g ds) (List.mem_of_getElem? hj)
  exact ⟨[.pointer (some ⟨g, 0, none⟩)], rfl, ⟨⟨g, 0, none⟩, rfl, fun _ => ⟨g, 0, rfl, hb.lt, apart_drop h hj (by simp [Box.fp]), cs, ha.less (fun x hx => .inl (by
    rcases List.mem_append.1 hx with hx | hx
    · exact List.mem_append_left _ (dropAt_fps hx)
    · exact List.mem_append_right _ hx)), fun q hq => by rw [Nat.zero_add]; exact hb.cell q⟩⟩, trivial⟩
theorem SW.freezeF {c : Code} (j k : Nat) {g : Nat} {f : FuncId} {ds : List D} (hj : σ.bx[j]? = some (.c g ds)) (hk : σ.tm k = some (isD (.func (.func f) #[] #[.pointer (some ⟨g, 0, none⟩)]))) (h : SW P Γ ((⟨σ.tm, dropAt σ.bx 0 [j]⟩ : St).put k (fnD f [paD ds])) c Q) : SW P Γ σ c Q := fun a w hh => h a w (hh.freezeF hj hk)
/-- A loop whose rounds are walked one by one. -/
theorem SW.rounds (n : Nat) {c : Code} (h : SW P Γ σ c (Exit.then (Code.rounds P c Q n) Q)) : SW P Γ σ (.loop c) Q := fun a w hh => wp_loop_rounds (n + 1) (h a w hh)
theorem SN.round {n : Nat} {c : Code} (h : SW P Γ σ c (Exit.then (Code.rounds P c Q n) Q)) : SN Γ (Exit.then (Code.rounds P c Q (n + 1)) Q) σ := fun a w hh => h a w hh
theorem Rd.maxI {x y : Operand} {ts : Array TypeId} {k : IntKind} {p q : Int} (hx : σ.ev x = some (isD (.int k p))) (hy : σ.ev y = some (isD (.int k q))) : Rd P Γ S ⟨dst, .call { callee := .builtin .max, args := #[x, y], argTypes := ts }, ty, pos, af, gd⟩ σ (isD (.int k (max p q))) := by
  intro a w hh
  have hxv : a.eval x = .int k p := ev_spec hh hx
  have hyv : a.eval y = .int k q := ev_spec hh hy
  refine ⟨_, rfl, fun w' _ => ?_⟩
  have e : max p q = if q > p then q else p := by split <;> omega
  rw [e]
  simp [execOp, resolve, invoke, builtin, hxv, hyv, Builtin.max_, Builtin.max2]
theorem Rd.minI {x y : Operand} {ts : Array TypeId} {k : IntKind} {p q : Int} (hx : σ.ev x = some (isD (.int k p))) (hy : σ.ev y = some (isD (.int k q))) : Rd P Γ S ⟨dst, .call { callee := .builtin .min, args := #[x, y], argTypes := ts }, ty, pos, af, gd⟩ σ (isD (.int k (min p q))) := by
  intro a w hh
  have hxv : a.eval x = .int k p := ev_spec hh hx
  have hyv : a.eval y = .int k q := ev_spec hh hy
  refine ⟨_, rfl, fun w' _ => ?_⟩
  have e : min p q = if q < p then q else p := by split <;> omega
  rw [e]
  simp [execOp, resolve, invoke, builtin, hxv, hyv, Builtin.min_, Builtin.min2]
end
end Sx
end Go.Proofs.YtonjpfpdpfonnaaDoor
