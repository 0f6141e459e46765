/-
  MAPS OF WHICH NO MORE IS KNOWN THAN WHICH KEYS THEY HAVE: looking up, adding, deleting. Over any program.
  ACCOUNTS, in plain Lean: names in order, books.
  slices.BinarySearch, Insert and Delete at strings, by what is known (the shelf's contracts).
  ACCOUNTS: what maps hold of them.
-/
import Derived.Test.YtgcnpnbgjejkaaaGV
import Derived.Shelf.Spec.SlicesInsertGrow
import Derived.Shelf.Spec.SearchS
import Derived.Shelf.Slices.Cells
namespace Go.Proofs.Ytgcnpnbgjejkaaa
open Go.RowKit
namespace Sx
/-- A map with these keys, in whatever order. -/
def mapQ (M : Option Nat) {κ : Type} (enc : κ → Value) (K : List κ) (f : κ → D) : Res where
  R L F w := ∃ ks : List κ, ks.Nodup ∧ (∀ k, k ∈ ks ↔ k ∈ K) ∧ (mapF M enc ks f).R L F w
  lt := fun ⟨_, _, _, h⟩ => (mapF M enc _ f).lt h
  keep := fun ⟨ks, h1, h2, h⟩ ho hS hn => ⟨ks, h1, h2, (mapF M enc ks f).keep h ho hS hn⟩
  less := fun ⟨ks, h1, h2, h⟩ hL => ⟨ks, h1, h2, (mapF M enc ks f).less h hL⟩
theorem leAll_map {κ : Type} {f f' : κ → D} : ∀ {ks : List κ}, (∀ k ∈ ks, Le (f k) (f' k)) → LeAll (ks.map f) (ks.map f')
  | [], _ => trivial
  | k :: _, h => ⟨h k List.mem_cons_self, leAll_map fun x hx => h x (List.mem_cons_of_mem _ hx)⟩
theorem leMapQ {M : Option Nat} {κ : Type} {enc : κ → Value} {K K' : List κ} {f f' : κ → D} (hK : ∀ k, k ∈ K ↔ k ∈ K') (hf : ∀ k ∈ K, Le (f k) (f' k)) : LeR (mapQ M enc K f) (mapQ M enc K' f') := fun L F w ⟨ks, h1, h2, h3⟩ =>
  ⟨ks, h1, fun k => (h2 k).trans (hK k), LeR.map (leAll_map fun k hk => hf k ((h2 k).1 hk)) _ _ _ h3⟩
/-- The same map, known. -/
def mqD {κ : Type} (enc : κ → Value) (K : List κ) (f : κ → D) : D where
  R L w v := ∃ ks : List κ, ks.Nodup ∧ (∀ k, k ∈ ks ↔ k ∈ K) ∧ (mpD enc ks f).R L w v
  keep := fun ⟨ks, h1, h2, h⟩ ho hS => ⟨ks, h1, h2, (mpD enc ks f).keep h ho hS⟩
  less := fun ⟨ks, h1, h2, h⟩ hL => ⟨ks, h1, h2, (mpD enc ks f).less h hL⟩
instance {κ : Type} (enc : κ → Value) (K : List κ) (f : κ → D) : One (mqD enc K f) := ⟨fun _ _ _ ⟨ks, _, _, h⟩ => One.h (d := mpD enc ks f) _ _ _ h⟩
section
variable {κ : Type} {enc : κ → Value} {P : Program} {Γ : Cx} {σ : St} {S : List Nat} {dst : Option Tmp} {ty : TypeId} {pos : String} {af : Array Edge} {gd : Option (Nat × Bool)} {d : D} {Q : Exit → Act → World → Prop}
theorem mapQ_nil (enc : κ → Value) (f : κ → D) {a : Act} {w : World} (h : Holds Γ σ a w) : Holds Γ ⟨σ.tm, σ.bx ++ [.r [] (mapQ none enc [] f)]⟩ a w :=
  h.more (Only.refl [] w) (b := .r [] (mapQ none enc [] f)) ⟨[], List.nodup_nil, fun _ => Iff.rfl, #[], .inl ⟨rfl, rfl, rfl⟩, rfl, trivial⟩ (by simp [Box.fp]) (by simp [Box.fp])
theorem SW.mapQN {c : Code} (enc : κ → Value) (f : κ → D) (h : SW P Γ ⟨σ.tm, σ.bx ++ [.r [] (mapQ none enc [] f)]⟩ c Q) : SW P Γ σ c Q := fun a w hh => h a w (mapQ_nil enc f hh)
theorem SWl.mapQN {ops : Array Oper} {l : List Oper} (enc : κ → Value) (f : κ → D) (h : SWl P Γ ops Q l ⟨σ.tm, σ.bx ++ [.r [] (mapQ none enc [] f)]⟩) : SWl P Γ ops Q l σ := fun a w hh => h a w (mapQ_nil enc f hh)
theorem sees_mapQ {js : List Nat} {M : Option Nat} {K : List κ} {f : κ → D} {F : List Nat} (j : Nat) (hj : σ.bx[j]? = some (.r F (mapQ M enc K f))) (hm : j ∈ js) : Sees Γ σ js (isD (.map M)) (mqD enc K f) := fun a w v L' hh ho hd => by
  obtain ⟨ks, h1, h2, es, h3, h4, h5⟩ := hh.resAt hj
  exact ⟨ks, h1, h2, M, es, F, hd, h3, fun g hg => ho.2 j hm _ hj g hg, h4, h5.less (fun x hx => .inl (ho.1 x hx))⟩
theorem Ef.makeMapQ {T k : Nat} (f : κ → D) (hk : dstOk Γ.nt k = true) : Ef P Γ S ⟨some k, .makeMap T none, ty, pos, af, gd⟩ σ (fun σ' => ∃ g, σ' = (⟨σ.tm, σ.bx ++ [.r [g] (mapQ (some g) enc [] f)]⟩ : St).put k (isD (.map (some g)))) := by
  intro a w hh K Q hK
  have ho : Only [] w (w.alloc (.map #[] 0)) := (Only.refl [] w).alloc _
  have h1 := hh.more ho (b := .r [w.heap.size] (mapQ (some w.heap.size) enc [] f)) ⟨[], List.nodup_nil, fun _ => Iff.rfl, #[], .inr ⟨w.heap.size, 0, rfl, heap_alloc_new w _, rfl⟩, rfl, trivial⟩ (fun g hg => by rw [List.mem_singleton.1 hg]; exact Nat.le_refl _) (by simp [Box.fp])
  have e : (execOp a.eval ⟨some k, .makeMap T none, ty, pos, af, gd⟩).run P w = .ok (.value (.map (some w.heap.size))) (w.alloc (.map #[] 0)) := by
    have e0 : (newObj (.map #[] 0)).run P w = .ok w.heap.size (w.alloc (.map #[] 0)) := rfl
    simp [execOp, Instr.makeMap, e0]
  unfold Oper.wp
  rw [e]
  exact hK _ _ _ ⟨_, rfl⟩ (h1.put (by simpa [dstOk] using hk) rfl) ((Only.refl S w).alloc _)
variable [DecidableEq κ]
/-- m[k], found. -/
theorem Rd.lookQ {x y : Operand} {T kt et : Nat} {M : Option Nat} {F : List Nat} {k : κ} {K : List κ} {f : κ → D} {dk : D} {ok : Bool} (j : Nat) (hx : σ.ev x = some (isD (.map M))) (hj : σ.bx[j]? = some (.r F (mapQ M enc K f))) (hy : σ.ev y = some dk) (hk : Le dk (isD (enc k))) (hT : mapT P T kt et = true) (hok : ∀ ks, KeyOk P kt enc k ks) (hm : k ∈ K) (hS : Ap σ j S) :
    Rd P Γ S ⟨dst, .lookup T x y ok, ty, pos, af, gd⟩ σ (cond ok (tupD [f k, isD (.bool true)]) (f k)) := by
  intro a w hh
  have hxv : a.eval x = .map M := ev_spec hh hx
  have hyv : a.eval y = enc k := hk _ _ _ (ev_spec hh hy)
  obtain ⟨ks, _, hK, es, hma, hks, ha⟩ := hh.resAt hj
  obtain ⟨i, h1, h2⟩ := idx_mem ((hK k).2 hm)
  obtain ⟨v, h3, h4⟩ := ha.at (show (ks.map f)[i]? = some (f k) by rw [List.getElem?_map, h2]; rfl)
  obtain ⟨e, he, rfl⟩ : ∃ e, es.toList[i]? = some e ∧ e.val = v := by
    rw [List.getElem?_map] at h3
    obtain ⟨e, h5, h6⟩ := Option.map_eq_some_iff.1 h3
    exact ⟨e, h5, h6⟩
  refine ⟨if ok then .tuple #[e.val, .bool true] else e.val, ?_, fun w' ho => ?_⟩
  · cases ok
    · exact h4
    · exact ⟨[_, _], rfl, h4, rfl, trivial⟩
  · simp only [execOp, hxv, hyv, Sem.run_bind, run_lookup hT (hma.keep ho (hS.spec hh.nd hj)) hks (hok ks) ok h1 he, Result.andThen_ok, Sem.run_pure]
/-- m[k], not found. -/
theorem Rd.lookQN {x y : Operand} {T kt et : Nat} {M : Option Nat} {F : List Nat} {k : κ} {z : Value} {K : List κ} {f : κ → D} {dk : D} {ok : Bool} (j : Nat) (hx : σ.ev x = some (isD (.map M))) (hj : σ.bx[j]? = some (.r F (mapQ M enc K f))) (hy : σ.ev y = some dk) (hk : Le dk (isD (enc k))) (hT : mapT P T kt et = true) (hz : (P.info? et).bind (·.zero) = some z) (hok : ∀ ks, KeyOk P kt enc k ks) (hm : k ∉ K) (hS : Ap σ j S) :
    Rd P Γ S ⟨dst, .lookup T x y ok, ty, pos, af, gd⟩ σ (cond ok (tupD [isD z, isD (.bool false)]) (isD z)) := by
  intro a w hh
  have hxv : a.eval x = .map M := ev_spec hh hx
  have hyv : a.eval y = enc k := hk _ _ _ (ev_spec hh hy)
  obtain ⟨ks, _, hK, es, hma, hks, ha⟩ := hh.resAt hj
  refine ⟨if ok then .tuple #[z, .bool false] else z, ?_, fun w' ho => ?_⟩
  · cases ok
    · rfl
    · exact ⟨[_, _], rfl, rfl, rfl, trivial⟩
  · simp only [execOp, hxv, hyv, Sem.run_bind, run_lookup_no hT hz (hma.keep ho (hS.spec hh.nd hj)) hks (hok ks) ok (idx_none (fun h => hm ((hK k).1 h))), Result.andThen_ok, Sem.run_pure]
theorem Rd.lookMQ {x y : Operand} {T kt et : Nat} {k : κ} {K : List κ} {f : κ → D} {dk : D} {ok : Bool} (hx : σ.ev x = some (mqD enc K f)) (hy : σ.ev y = some dk) (hk : Le dk (isD (enc k))) (hT : mapT P T kt et = true) (hok : ∀ ks, KeyOk P kt enc k ks) (hm : k ∈ K) (hS : ∀ s ∈ S, s ∈ σ.L Γ) :
    Rd P Γ S ⟨dst, .lookup T x y ok, ty, pos, af, gd⟩ σ (cond ok (tupD [f k, isD (.bool true)]) (f k)) := by
  intro a w hh
  obtain ⟨ks, _, hK, M, es, F, hxv, hma, hF, hks, ha⟩ := ev_spec hh hx
  have hyv : a.eval y = enc k := hk _ _ _ (ev_spec hh hy)
  obtain ⟨i, h1, h2⟩ := idx_mem ((hK k).2 hm)
  obtain ⟨v, h3, h4⟩ := ha.at (show (ks.map f)[i]? = some (f k) by rw [List.getElem?_map, h2]; rfl)
  obtain ⟨e, he, rfl⟩ : ∃ e, es.toList[i]? = some e ∧ e.val = v := by
    rw [List.getElem?_map] at h3
    obtain ⟨e, h5, h6⟩ := Option.map_eq_some_iff.1 h3
    exact ⟨e, h5, h6⟩
  refine ⟨if ok then .tuple #[e.val, .bool true] else e.val, ?_, fun w' ho => ?_⟩
  · cases ok
    · exact h4
    · exact ⟨[_, _], rfl, h4, rfl, trivial⟩
  · simp only [execOp, hxv, hyv, Sem.run_bind, run_lookup hT (hma.keep ho (fun x hx hf => hF x hf (hS x hx))) hks (hok ks) ok h1 he, Result.andThen_ok, Sem.run_pure]
theorem Rd.lookMQN {x y : Operand} {T kt et : Nat} {k : κ} {z : Value} {K : List κ} {f : κ → D} {dk : D} {ok : Bool} (hx : σ.ev x = some (mqD enc K f)) (hy : σ.ev y = some dk) (hk : Le dk (isD (enc k))) (hT : mapT P T kt et = true) (hz : (P.info? et).bind (·.zero) = some z) (hok : ∀ ks, KeyOk P kt enc k ks) (hm : k ∉ K) (hS : ∀ s ∈ S, s ∈ σ.L Γ) :
    Rd P Γ S ⟨dst, .lookup T x y ok, ty, pos, af, gd⟩ σ (cond ok (tupD [isD z, isD (.bool false)]) (isD z)) := by
  intro a w hh
  obtain ⟨ks, _, hK, M, es, F, hxv, hma, hF, hks, ha⟩ := ev_spec hh hx
  have hyv : a.eval y = enc k := hk _ _ _ (ev_spec hh hy)
  refine ⟨if ok then .tuple #[z, .bool false] else z, ?_, fun w' ho => ?_⟩
  · cases ok
    · rfl
    · exact ⟨[_, _], rfl, rfl, rfl, trivial⟩
  · simp only [execOp, hxv, hyv, Sem.run_bind, run_lookup_no hT hz (hma.keep ho (fun x hx hf => hF x hf (hS x hx))) hks (hok ks) ok (idx_none (fun h => hm ((hK k).1 h))), Result.andThen_ok, Sem.run_pure]
/-- m[k] = v, a new key. -/
theorem Ef.mapNewQ {x y z : Operand} {T kt et g : Nat} {F : List Nat} {k : κ} {K : List κ} {f : κ → D} {dk dv : D} (j : Nat) (hx : σ.ev x = some (isD (.map (some g)))) (hj : σ.bx[j]? = some (.r F (mapQ (some g) enc K f))) (hy : σ.ev y = some dk) (hk : Le dk (isD (enc k))) (hz : σ.ev z = some dv) (hv : Le dv (f k)) (hT : mapT P T kt et = true) (hok : ∀ ks, KeyOk P kt enc k ks) (hm : k ∉ K) (hS : ∀ g ∈ F, g ∈ S) :
    Ef P Γ S ⟨none, .mapUpdate T x y z, ty, pos, af, gd⟩ σ (fun σ' => σ' = σ.give [j] [.r F (mapQ (some g) enc (k :: K) f)]) := by
  intro a w hh KK Q hK
  have hxv : a.eval x = .map (some g) := ev_spec hh hx
  have hyv : a.eval y = enc k := hk _ _ _ (ev_spec hh hy)
  have hzv : (f k).R (σ.L Γ) w (a.eval z) := hv _ _ _ (ev_spec hh hz)
  obtain ⟨ks, hnd, hKs, es, hma, hks, ha⟩ := hh.resAt hj
  have hkn : k ∉ ks := fun h => hm ((hKs k).1 h)
  rcases hma with ⟨h0, _⟩ | ⟨g', ck, hg', hg, hF⟩
  · cases h0
  · injection hg' with hg'
    subst hg' hF
    have h1 : (getObj g).run P w = .ok (.map es ck) w := by simp [getObj, Sem.run, hg]
    have h2 := (hok ks).find w es.toList hks
    rw [idx_none hkn] at h2
    simp only [Option.bind_none] at h2
    have e : (execOp a.eval ⟨none, .mapUpdate T x y z, ty, pos, af, gd⟩).run P w = .ok .skip { w with heap := w.heap.setIfInBounds g (.map (es.push { key := enc k, val := a.eval z, born := ck }) (ck + 1)) } := by
      simp [execOp, hxv, hyv, Instr.mapUpdate, run_underlying (mapT_spec hT), h1, (hok ks).chk, h2, run_setObj_map' _ hg]
    unfold Oper.wp
    rw [e]
    have ho : Only [g] w { w with heap := w.heap.setIfInBounds g (.map (es.push { key := enc k, val := a.eval z, born := ck }) (ck + 1)) } := only_setObj
    have hlt := (Array.getElem?_eq_some_iff.1 hg).1
    have hsub : SubBx σ.bx [j] [.r [g] (mapQ (some g) enc K f)] := ⟨⟨_, hj, LeR.refl _⟩, trivial⟩
    have hfp : fps [Box.r [g] (mapQ (some g) enc K f)] = [g] := rfl
    obtain ⟨h3, _⟩ := hh.give (post := [.r [g] (mapQ (some g) enc (k :: K) f)]) hsub (by rw [hfp]; exact ho) (fun b hb => by
      rw [List.mem_singleton.1 hb]
      refine ⟨ks ++ [k], ?_, ?_, es.push { key := enc k, val := a.eval z, born := ck }, .inr ⟨g, ck + 1, rfl, by simp [Array.getElem?_setIfInBounds, hlt], rfl⟩, by simp [hks], ?_⟩
      · exact List.nodup_append.2 ⟨hnd, by simp, fun x hx y hy e => by rw [List.mem_singleton.1 hy] at e; exact hkn (e ▸ hx)⟩
      · intro q
        rw [List.mem_append, List.mem_singleton, List.mem_cons, hKs q]
        exact Or.comm
      have hL : ∀ n x, x ∈ fps [Box.r [g] (mapQ (some g) enc (k :: K) f)] ++ (σ.L Γ).filter (· ∉ fps [Box.r [g] (mapQ (some g) enc K f)]) → x ∈ σ.L Γ ∨ n ≤ x := fun n x hx => by
        rcases List.mem_append.1 hx with hx | hx
        · exact .inl (List.mem_append_left _ (mem_fps.2 ⟨_, List.mem_of_getElem? hj, hx⟩))
        · exact .inl (List.mem_filter.1 hx).1
      have h4 := ((all_snoc ha hzv).keep ho (fun x hx => by rw [List.mem_singleton.1 hx]; exact List.mem_append_left _ (mem_fps.2 ⟨_, List.mem_of_getElem? hj, List.mem_singleton.2 rfl⟩)))
      have e5 : (es.push { key := enc k, val := a.eval z, born := ck }).toList.map (·.val) = es.toList.map (·.val) ++ [a.eval z] := by simp
      have e6 : (ks ++ [k]).map f = ks.map f ++ [f k] := by simp
      rw [e5, e6]
      exact h4.less (hL _)) (by simp [fps, Box.fp]) (fun g' hg' => .inl hg')
    exact hK _ _ _ rfl h3 (ho.mono (fun x hx _ => hS x hx))
omit [DecidableEq κ] in
theorem eraseIdx_map' {α β : Type} (g : α → β) : ∀ (l : List α) (i : Nat), (l.eraseIdx i).map g = (l.map g).eraseIdx i
  | [], _ => by simp
  | _ :: _, 0 => by simp
  | a :: l, i + 1 => by simp [eraseIdx_map' g l i]
omit [DecidableEq κ] in
theorem all_erase {L : List Nat} {w : World} : ∀ {ds : List D} {cs : List Value} (i : Nat), All L w ds cs → All L w (ds.eraseIdx i) (cs.eraseIdx i)
  | [], [], _, _ => by simp [All]
  | _ :: _, [], _, h => h.elim
  | [], _ :: _, _, h => h.elim
  | d :: ds, c :: cs, 0, h => h.2
  | d :: ds, c :: cs, i + 1, h => ⟨h.1, all_erase i h.2⟩
omit [DecidableEq κ] in
theorem mem_eraseIdx_nodup : ∀ {ks : List κ} {i : Nat} {k : κ}, ks.Nodup → ks[i]? = some k → ∀ q, q ∈ ks.eraseIdx i ↔ q ∈ ks ∧ q ≠ k
  | [], i, k, _, h, q => by simp at h
  | a :: ks, 0, k, hn, h, q => by
    have e : a = k := by simpa using h
    subst e
    have h1 := (List.nodup_cons.1 hn).1
    simp only [List.eraseIdx_cons_zero, List.mem_cons]
    constructor
    · intro hq; exact ⟨.inr hq, fun e => h1 (e ▸ hq)⟩
    · rintro ⟨hq | hq, hne⟩
      · exact absurd hq hne
      · exact hq
  | a :: ks, i + 1, k, hn, h, q => by
    have h1 := List.nodup_cons.1 hn
    have h2 : ks[i]? = some k := by simpa using h
    have ih := mem_eraseIdx_nodup h1.2 h2 q
    have hak : a ≠ k := fun e => h1.1 (e ▸ List.mem_of_getElem? h2)
    simp only [List.eraseIdx_cons_succ, List.mem_cons, ih]
    constructor
    · rintro (rfl | ⟨hq, hne⟩)
      · exact ⟨.inl rfl, hak⟩
      · exact ⟨.inr hq, hne⟩
    · rintro ⟨rfl | hq, hne⟩
      · exact .inl rfl
      · exact .inr ⟨hq, hne⟩
omit [DecidableEq κ] in
theorem nodup_eraseIdx' : ∀ {ks : List κ} (i : Nat), ks.Nodup → (ks.eraseIdx i).Nodup := fun i h => h.sublist (List.eraseIdx_sublist _ i)
/-- delete(m, k). -/
theorem Ef.mapDelQ {x y : Operand} {T Tk kt et g : Nat} {F : List Nat} {k : κ} {K : List κ} {f : κ → D} {dk : D} (j : Nat) (hx : σ.ev x = some (isD (.map (some g)))) (hj : σ.bx[j]? = some (.r F (mapQ (some g) enc K f))) (hy : σ.ev y = some dk) (hk : Le dk (isD (enc k))) (hT : mapT P T kt et = true) (hok : ∀ ks, KeyOk P kt enc k ks) (hd : ∀ i, dst = some i → dstOk Γ.nt i = true) (hS : ∀ g ∈ F, g ∈ S) :
    Ef P Γ S ⟨dst, .call { callee := .builtin .delete, args := #[x, y], argTypes := #[T, Tk] }, ty, pos, af, gd⟩ σ (fun σ' => σ' = (σ.give [j] [.r F (mapQ (some g) enc (K.filter (· ≠ k)) f)]).puto dst (isD (.tuple #[]))) := by
  intro a w hh KK Q hK
  have hxv : a.eval x = .map (some g) := ev_spec hh hx
  have hyv : a.eval y = enc k := hk _ _ _ (ev_spec hh hy)
  obtain ⟨ks, hnd, hKs, es, hma, hks, ha⟩ := hh.resAt hj
  rcases hma with ⟨h0, _⟩ | ⟨g', ck, hg', hg, hF⟩
  · cases h0
  · injection hg' with hg'
    subst hg' hF
    have h1 : (getObj g).run P w = .ok (.map es ck) w := by simp [getObj, Sem.run, hg]
    have h2 := (hok ks).find w es.toList hks
    have hlt := (Array.getElem?_eq_some_iff.1 hg).1
    have hsub : SubBx σ.bx [j] [.r [g] (mapQ (some g) enc K f)] := ⟨⟨_, hj, LeR.refl _⟩, trivial⟩
    have hfp : fps [Box.r [g] (mapQ (some g) enc K f)] = [g] := rfl
    -- what is left
    obtain ⟨es', hrun, ks', hnd', hK', hks', ha'⟩ : ∃ es' : Array MapEntry, (execOp a.eval ⟨dst, .call { callee := .builtin .delete, args := #[x, y], argTypes := #[T, Tk] }, ty, pos, af, gd⟩).run P w = .ok (.value (.tuple #[])) { w with heap := w.heap.setIfInBounds g (.map es' ck) } ∧ ∃ ks' : List κ, ks'.Nodup ∧ (∀ q, q ∈ ks' ↔ q ∈ K.filter (· ≠ k)) ∧ es'.toList.map (fun e : MapEntry => e.key) = ks'.map enc ∧ All (σ.L Γ) w (ks'.map f) (es'.toList.map (fun e : MapEntry => e.val)) := by
      by_cases hm : k ∈ ks
      · obtain ⟨i, h3, h4⟩ := idx_mem hm
        rw [h3] at h2
        have hil : i < es.toList.length := by
          have := congrArg List.length hks
          rw [List.length_map, List.length_map] at this
          have h5 := (List.getElem?_eq_some_iff.1 h4).1
          omega
        simp only [Option.bind_some, List.getElem?_eq_getElem hil, Option.map_some] at h2
        have e7 : (es.eraseIdxIfInBounds i).toList = es.toList.eraseIdx i := by
          have hi2 : i < es.size := by simpa using hil
          simp [Array.eraseIdxIfInBounds, hi2]
        refine ⟨es.eraseIdxIfInBounds i, ?_, ks.eraseIdx i, nodup_eraseIdx' i hnd, fun q => ?_, ?_, ?_⟩
        · simp [execOp, resolve, invoke, builtin, Builtin.delete_, hxv, hyv, run_underlying (mapT_spec hT), h1, (hok ks).chk, h2, run_setObj_map' _ hg]
        · rw [mem_eraseIdx_nodup hnd h4 q, List.mem_filter, hKs q]
          simp
        · rw [e7, eraseIdx_map', hks, ← eraseIdx_map']
        · rw [e7, eraseIdx_map', eraseIdx_map']
          exact all_erase i ha
      · rw [idx_none hm] at h2
        simp only [Option.bind_none] at h2
        refine ⟨es, ?_, ks, hnd, fun q => ?_, hks, ha⟩
        · simp [execOp, resolve, invoke, builtin, Builtin.delete_, hxv, hyv, run_underlying (mapT_spec hT), h1, (hok ks).chk, h2, run_setObj_map' _ hg]
        · rw [List.mem_filter, hKs q]
          constructor
          · intro hq; exact ⟨hq, by simp; exact fun e => hm ((hKs k).2 (e ▸ hq))⟩
          · exact fun hq => hq.1
    unfold Oper.wp
    rw [hrun]
    have ho : Only [g] w { w with heap := w.heap.setIfInBounds g (.map es' ck) } := only_setObj
    obtain ⟨h3, _⟩ := hh.give (post := [.r [g] (mapQ (some g) enc (K.filter (· ≠ k)) f)]) hsub (by rw [hfp]; exact ho) (fun b hb => by
      rw [List.mem_singleton.1 hb]
      refine ⟨ks', hnd', hK', es', .inr ⟨g, ck, rfl, by simp [Array.getElem?_setIfInBounds, hlt], rfl⟩, hks', ?_⟩
      have hL : ∀ n x, x ∈ fps [Box.r [g] (mapQ (some g) enc (K.filter (· ≠ k)) f)] ++ (σ.L Γ).filter (· ∉ fps [Box.r [g] (mapQ (some g) enc K f)]) → x ∈ σ.L Γ ∨ n ≤ x := fun n x hx => by
        rcases List.mem_append.1 hx with hx | hx
        · exact .inl (List.mem_append_left _ (mem_fps.2 ⟨_, List.mem_of_getElem? hj, hx⟩))
        · exact .inl (List.mem_filter.1 hx).1
      have h4 := ha'.keep ho (fun x hx => by rw [List.mem_singleton.1 hx]; exact List.mem_append_left _ (mem_fps.2 ⟨_, List.mem_of_getElem? hj, List.mem_singleton.2 rfl⟩))
      exact h4.less (hL _)) (by simp [fps, Box.fp]) (fun g' hg' => .inl hg')
    exact hK _ _ _ rfl (h3.puto (fun i hi => by simpa [dstOk] using hd i hi) rfl) (ho.mono (fun x hx _ => hS x hx))
end
/-! Strings compared. -/
section
variable {P : Program} {Γ : Cx} {σ : St} {S : List Nat} {dst : Option Tmp} {ty : TypeId} {pos : String} {af : Array Edge} {gd : Option (Nat × Bool)}
theorem ba_toList (l : List UInt8) : (ByteArray.mk l.toArray).toList = l := by simp [ByteArray.toList_eq]
theorem Rd.lts {x y : Operand} {xT yT : TypeId} {p q : List UInt8} (hx : σ.ev x = some (isD (.string ⟨p.toArray⟩))) (hy : σ.ev y = some (isD (.string ⟨q.toArray⟩))) : Rd P Γ S ⟨dst, .binOp .lss xT x y yT, ty, pos, af, gd⟩ σ (isD (.bool (Op.bytesLess p q))) := Rd.bin hx hy fun _ => by simp only [eqGuard, binOp, Op.stringOp, ba_toList]; rfl
theorem Rd.les {x y : Operand} {xT yT : TypeId} {p q : List UInt8} (hx : σ.ev x = some (isD (.string ⟨p.toArray⟩))) (hy : σ.ev y = some (isD (.string ⟨q.toArray⟩))) : Rd P Γ S ⟨dst, .binOp .leq xT x y yT, ty, pos, af, gd⟩ σ (isD (.bool (Op.bytesLess p q || decide (p = q)))) := Rd.bin hx hy fun _ => by
  have e : (p == q) = decide (p = q) := by by_cases h : p = q <;> simp [h]
  simp only [eqGuard, binOp, Op.stringOp, ba_toList, e]; rfl
end
/-! A slice that fills its block. -/
def bkD (e : Nat) (xs : List Value) : D where
  R L w v := ∃ g, v = .slice (some ⟨g, 0, none⟩) xs.length xs.length ∧ g ∉ L ∧ Blk w g e xs
  keep := fun ⟨g, hv, hg, hb⟩ ho hS => ⟨g, hv, hg, hb.keep ho (fun hm => hg (hS _ hm))⟩
  less := fun ⟨g, hv, hg, hb⟩ hL => ⟨g, hv, fun hx => by
    rcases hL g hx with h | h
    · exact hg h
    · have := hb.lt; omega, hb⟩
instance (e : Nat) (xs : List Value) : One (bkD e xs) := ⟨fun _ _ _ ⟨_, h, _⟩ => by rw [h]; rfl⟩
section
variable {P : Program} {Γ : Cx} {σ : St} {S : List Nat} {dst : Option Tmp} {ty : TypeId} {pos : String} {af : Array Edge} {gd : Option (Nat × Bool)}
theorem Ef.litB {parts : List (Nat × Operand)} {T e n k : Nat} {idx : List Nat} {es : List D} (xs : List Value) (hi : parts.map (·.1) = idx) (he : σ.evs (parts.map (·.2)) = some es)
    (hrun : ∀ L w vs, All L w es vs → ∀ w' : World, (Instr.buildSlice T n (idx.zip vs).toArray).run P w' = .ok (.slice (some ⟨w'.heap.size, 0, none⟩) xs.length xs.length) (w'.alloc (.cells xs.toArray e))) (hk : dstOk Γ.nt k = true) :
    Ef P Γ S ⟨some k, .buildSlice T n parts.toArray, ty, pos, af, gd⟩ σ (fun σ' => σ' = σ.put k (bkD e xs)) := by
  intro a w hh K Q hK
  have h2 := hrun _ _ _ (evs_spec hh he)
  have e1 : (parts.toArray.map fun (i, x) => (i, a.eval x)) = (idx.zip ((parts.map (·.2)).map a.eval)).toArray := by
    rw [← hi]
    apply Array.ext'
    simp only [Array.toList_map]
    exact zip_parts a.eval parts
  have e2 : (execOp a.eval ⟨some k, .buildSlice T n parts.toArray, ty, pos, af, gd⟩).run P w = .ok (.value (.slice (some ⟨w.heap.size, 0, none⟩) xs.length xs.length)) (w.alloc (.cells xs.toArray e)) := by
    simp only [execOp]
    rw [e1, Sem.run_bind, h2 w]
    rfl
  unfold Oper.wp
  rw [e2]
  have ho : Only [] w (w.alloc (.cells xs.toArray e)) := (Only.refl [] w).alloc _
  refine hK _ _ _ rfl ((hh.keep ho).put (by simpa [dstOk] using hk) ⟨w.heap.size, rfl, fun hm => ?_, Blk.new w e xs⟩) ((Only.refl S w).alloc _)
  have := hh.lt _ hm
  omega
end
/-! append(nil, ..): a slice of one's own, made in a region. -/
section
variable {P : Program} {Γ : Cx} {σ : St} {S : List Nat} {dst : Option Tmp} {ty : TypeId} {pos : String} {af : Array Edge} {gd : Option (Nat × Bool)}
theorem EfL.appN {x y : Operand} {T e k : Nat} {α : Type} {enc : α → List D} {l' : List α} (sz bytes : Nat) [Row enc sz] (hx : σ.ev x = some (isD (.slice none 0 0))) (hsrc : SrcT Γ σ y enc l') (hT : sliceT P T e = true) (hE : elT P e sz bytes = true) (hlen : l'.length ≤ 1099511627776) (hb : bytes ≤ 128) (hk : dstOk Γ.nt k = true) :
    EfL P Γ ⟨some k, .call { callee := .builtin .append, args := #[x, y], argTypes := #[T, T] }, ty, pos, af, gd⟩ σ (fun G σ' => ∃ F' A' c', G = fps [.r F' (vecT e sz enc A' c' l')] ∧ σ' = (⟨σ.tm, σ.bx ++ [.r F' (vecT e sz enc A' c' l')]⟩ : St).put k (isD (.slice A' l'.length c'))) := by
  intro a w hh K Q hK
  have hsz : 0 < sz := Row.pos (enc := enc)
  have hm : (l'.flatMap enc).length = l'.length * sz := flat_len (enc := enc) (sz := sz) _
  have hxv : a.eval x = .slice none 0 0 := ev_spec hh hx
  obtain ⟨B, cy, hyv, hcy, hat⟩ := hsrc a w hh
  obtain ⟨i, z, hI, h1, h2, h3, h4⟩ := elT_spec hE
  rcases Nat.eq_zero_or_pos l'.length with h0 | h0
  · have e0 := List.length_eq_zero_iff.1 h0
    subst e0
    have e2 : (execOp a.eval ⟨some k, .call { callee := .builtin .append, args := #[x, y], argTypes := #[T, T] }, ty, pos, af, gd⟩).run P w = .ok (.value (.slice none 0 0)) w := by
      rw [List.length_nil] at hyv
      cases B with
      | none => simp [execOp, resolve, invoke, builtin, hxv, hyv, Builtin.append_, run_underlying (sliceT_spec hT), sizeOf, typeInfo, hI, Builtin.lenOf, Builtin.firstCells, storeCells]
      | some p => simp [execOp, resolve, invoke, builtin, hxv, hyv, Builtin.append_, run_underlying (sliceT_spec hT), sizeOf, typeInfo, hI, Builtin.lenOf, Builtin.firstCells, storeCells, loadCells, loadCellsFrom]
    unfold Oper.wp
    rw [e2]
    have h5 : Holds Γ ⟨σ.tm, σ.bx ++ [.r [] (vecT e sz enc none 0 [])]⟩ a w := vec_nil e sz hh
    exact hK _ _ _ _ (fun x hx => by simp [fps, Box.fp] at hx) ⟨[], none, 0, rfl, rfl⟩ (h5.put (by simpa [dstOk] using hk) rfl) (Only.refl _ _)
  · have hpos : 0 < (l'.flatMap enc).length := by rw [hm]; exact Nat.mul_pos h0 hsz
    obtain ⟨gb, ob, rfl, cs, hcs, hcell⟩ := hat hpos
    have hlc := hcs.length
    obtain ⟨v', w', hrun, ho2, hgr, hnil, hblk⟩ := run_append_own_at (P := P) w 0 T ty e i z sz bytes (sliceT_spec hT) hI h3 h1 h2 h4 hsz _ 0 [] (World.ownsRow_nil w 0 e sz) ⟨gb, ob, none⟩ l'.length cy cs (by rw [hlc, hm]) (fun q u hq => by
      have hq1 := (List.getElem?_eq_some_iff.1 hq).1
      rw [Addr.add_mid, hcell q hq1]
      exact hq) (fun u hu => Ones.h (ds := l'.flatMap enc) _ _ _ hcs u hu) (by simp only [maxLen]; omega) (by have := Nat.mul_le_mul hlen hb; simp only [Nat.zero_add]; omega) (Nat.zero_le _)
    have hOn : Only [] w w' := Only.of_grown hgr
    rcases ho2.2 with ⟨hv, hz⟩ | ⟨g, cap, cur, rfl, hg0, hg, hnc, hcm, hcs2, htk⟩
    · omega
    · have hgw : g = w.heap.size := by
        rcases hblk with hb' | hb'
        · simp [Value.ownBlock] at hb'
        · simpa [Value.ownBlock] using hb'
      rw [Nat.zero_add, List.nil_append] at ho2
      rw [Nat.zero_add] at hrun
      have h6 : Holds Γ ⟨σ.tm, σ.bx ++ [.r [g] (vecT e sz enc (some ⟨g, 0, none⟩) cap l')]⟩ a w' := hh.more hOn (b := .r [g] (vecT e sz enc (some ⟨g, 0, none⟩) cap l')) ⟨cs, (hcs.less (fun x hx => by
          rcases List.mem_append.1 hx with hx | hx
          · simp only [Box.fp, List.mem_singleton] at hx
            exact .inr (by omega)
          · exact .inl hx)).keep hOn (by simp), ho2, rfl⟩ (fun x hx => by simp only [Box.fp, List.mem_singleton] at hx; omega) (by simp [Box.fp])
      have e2 : (execOp a.eval ⟨some k, .call { callee := .builtin .append, args := #[x, y], argTypes := #[T, T] }, ty, pos, af, gd⟩).run P w = .ok (.value (.slice (some ⟨g, 0, none⟩) l'.length cap)) w' := by
        simp only [execOp, resolve, invoke, builtin, Sem.run_bind, Sem.run_pure, Result.andThen_ok, List.map_toArray, List.map_cons, List.map_nil, hxv, hyv, hrun]
      unfold Oper.wp
      rw [e2]
      exact hK _ _ _ _ (fun x hx => by simp [fps, Box.fp] at hx; omega) ⟨[g], _, cap, rfl, rfl⟩ (h6.put (by simpa [dstOk] using hk) rfl) hOn
end
end Sx
end Go.Proofs.Ytgcnpnbgjejkaaa
namespace Go.Proofs.Ytgcnpnbgjejkaaa
open Go.RowKit
namespace Acc
abbrev lt (x y : List UInt8) : Bool := Op.bytesLess x y
theorem lt_irr : ∀ x : List UInt8, lt x x = false
  | [] => rfl
  | a :: x => by simp only [lt, Op.bytesLess, beq_self_eq_true, Bool.true_and]; rw [show Op.bytesLess x x = false from lt_irr x]; simp [UInt8.lt_irrefl]
theorem lt_trans : ∀ {x y z : List UInt8}, lt x y = true → lt y z = true → lt x z = true
  | _, [], _, h, _ => by simp [lt, Op.bytesLess] at h
  | _, _ :: _, [], _, h => by simp [lt, Op.bytesLess] at h
  | [], _ :: _, _ :: _, _, _ => rfl
  | a :: x, b :: y, c :: z, h, k => by
    simp only [lt, Op.bytesLess, Bool.or_eq_true, decide_eq_true_eq, Bool.and_eq_true, beq_iff_eq] at h k ⊢
    rcases h with h | ⟨rfl, h⟩
    · rcases k with k | ⟨rfl, k⟩
      · exact .inl (UInt8.lt_trans h k)
      · exact .inl h
    · rcases k with k | ⟨rfl, k⟩
      · exact .inl k
      · exact .inr ⟨rfl, lt_trans h k⟩
theorem lt_tri : ∀ (x y : List UInt8), lt x y = true ∨ x = y ∨ lt y x = true
  | [], [] => .inr (.inl rfl)
  | [], _ :: _ => .inl rfl
  | _ :: _, [] => .inr (.inr rfl)
  | a :: x, b :: y => by
    simp only [lt, Op.bytesLess, Bool.or_eq_true, decide_eq_true_eq, Bool.and_eq_true, beq_iff_eq]
    rcases UInt8.lt_or_lt_of_ne (a := a) (b := b) |> fun f => (Classical.em (a = b)).imp id f with rfl | h | h
    · rcases lt_tri x y with h | h | h
      · exact .inl (.inr ⟨rfl, h⟩)
      · exact .inr (.inl (by rw [h]))
      · exact .inr (.inr (.inr ⟨rfl, h⟩))
    · exact .inl (.inl h)
    · exact .inr (.inr (.inl h))
theorem lt_asym {x y : List UInt8} (h : lt x y = true) : lt y x = false := by
  cases hb : lt y x
  · rfl
  · have := lt_trans h hb
    rw [lt_irr] at this
    cases this
theorem lt_ne {x y : List UInt8} (h : lt x y = true) : x ≠ y := fun e => by subst e; rw [lt_irr] at h; cases h
/-- An account. -/
structure T where
  name : List UInt8
  role : Int
  key : List UInt8
  dep : Int
  num : Int
def chr (c : UInt8) : Prop := (97 ≤ c.toNat ∧ c.toNat ≤ 122) ∨ (48 ≤ c.toNat ∧ c.toNat ≤ 57) ∨ c.toNat = 45
instance (c : UInt8) : Decidable (chr c) := by unfold chr; infer_instance
def isName (s : List UInt8) : Prop := (∀ c ∈ s, chr c) ∧ 1 ≤ s.length ∧ s.length ≤ 32
instance (s : List UInt8) : Decidable (isName s) := by unfold isName; infer_instance
def nums (r : Int) : Int := if r = 1 then 512 else if r = 2 then 32 else if r = 3 then 1 else 0
def okN (nm : List UInt8) (role : Int) (kl : Nat) (dep num : Int) : Prop := isName nm ∧ kl = 32 ∧ 0 ≤ dep ∧ dep ≤ 1125899906842624 ∧ 0 ≤ num ∧ num < nums role
instance (nm : List UInt8) (role : Int) (kl : Nat) (dep num : Int) : Decidable (okN nm role kl dep num) := by unfold okN; infer_instance
def ok (a : T) : Prop := okN a.name a.role a.key.length a.dep a.num
theorem okN_iff {nm : List UInt8} {role : Int} {kl : Nat} {dep num : Int} (h1 : isName nm) (h2 : kl = 32) (h3 : ¬ dep < 0) (h4 : ¬ 1125899906842624 < dep) (h5 : ¬ num < 0) : okN nm role kl dep num ↔ num < nums role := by
  unfold okN
  exact ⟨fun h => h.2.2.2.2.2, fun h => ⟨h1, h2, by omega, by omega, by omega, h⟩⟩
instance (a : T) : Decidable (ok a) := by unfold ok; infer_instance
/-- Two accounts that may not stand beside each other. -/
def clash (a x : T) : Prop := x.name = a.name ∨ (x.role = a.role ∧ x.num = a.num ∧ a.role ≠ 3)
instance (a x : T) : Decidable (clash a x) := by unfold clash; infer_instance
/-- A book: its accounts in the order of their names. -/
def inOrder (l : List T) : Prop := l.Pairwise fun a b => lt a.name b.name = true
structure Fine (l : List T) : Prop where
  srt : inOrder l
  oks : ∀ a ∈ l, ok a
  uni : l.Pairwise fun a b => ¬ (b.role = a.role ∧ b.num = a.num ∧ a.role ≠ 3)
  len : l.length ≤ 256
def pos (l : List T) (n : List UInt8) : Nat := (l.takeWhile fun x => lt x.name n).length
def ins (l : List T) (a : T) : List T := l.takeWhile (fun x => lt x.name a.name) ++ a :: l.dropWhile (fun x => lt x.name a.name)
def add (l : List T) (a : T) : List T × Int :=
  if ok a then if ∃ x ∈ l, clash a x then (l, 11) else if 256 ≤ l.length then (l, 7) else (ins l a, 0) else (l, 2)
def find (l : List T) (n : List UInt8) : Option T := l.find? fun x => decide (x.name = n)
def remove (l : List T) (n : List UInt8) : List T × Int := if ∃ x ∈ l, x.name = n then (l.filter fun x => decide (x.name ≠ n), 0) else (l, 9)
theorem ins_eq (l : List T) (a : T) : ins l a = l.take (pos l a.name) ++ a :: l.drop (pos l a.name) := by
  unfold ins pos
  have h : l.takeWhile (fun x => lt x.name a.name) ++ l.dropWhile (fun x => lt x.name a.name) = l := List.takeWhile_append_dropWhile
  generalize l.takeWhile (fun x => lt x.name a.name) = p at *
  generalize l.dropWhile (fun x => lt x.name a.name) = q at *
  subst h
  simp
theorem mem_ins {l : List T} {a x : T} : x ∈ ins l a ↔ x = a ∨ x ∈ l := by
  rw [ins_eq, List.mem_append, List.mem_cons]
  conv => rhs; rw [← List.take_append_drop (pos l a.name) l, List.mem_append]
  constructor
  · rintro (h | h | h)
    · exact .inr (.inl h)
    · exact .inl h
    · exact .inr (.inr h)
  · rintro (h | h | h)
    · exact .inr (.inl h)
    · exact .inl h
    · exact .inr (.inr h)
theorem ins_len (l : List T) (a : T) : (ins l a).length = l.length + 1 := by
  have h : (l.takeWhile (fun x => lt x.name a.name) ++ l.dropWhile (fun x => lt x.name a.name)).length = l.length := by rw [List.takeWhile_append_dropWhile]
  unfold ins
  simp only [List.length_append, List.length_cons] at h ⊢
  omega
theorem perm_ins (l : List T) (a : T) : (ins l a).Perm (a :: l) := by
  have h : l.takeWhile (fun x => lt x.name a.name) ++ l.dropWhile (fun x => lt x.name a.name) = l := List.takeWhile_append_dropWhile
  unfold ins
  refine (List.perm_middle).trans ?_
  rw [h]
theorem order_ins : ∀ {l : List T} {a : T}, inOrder l → (∀ x ∈ l, x.name ≠ a.name) → inOrder (ins l a)
  | [], a, _, _ => by simp [ins, inOrder]
  | x :: l, a, h, hn => by
    have h1 := List.pairwise_cons.1 h
    cases hb : lt x.name a.name
    · have hax : lt a.name x.name = true := by
        rcases lt_tri x.name a.name with h2 | h2 | h2
        · rw [hb] at h2; cases h2
        · exact absurd h2 (hn x List.mem_cons_self)
        · exact h2
      have e : ins (x :: l) a = a :: x :: l := by simp [ins, hb]
      rw [e]
      refine List.pairwise_cons.2 ⟨fun y hy => ?_, h⟩
      rcases List.mem_cons.1 hy with rfl | hy
      · exact hax
      · exact lt_trans hax (h1.1 y hy)
    · have e : ins (x :: l) a = x :: ins l a := by simp [ins, hb]
      rw [e]
      refine List.pairwise_cons.2 ⟨fun y hy => ?_, order_ins h1.2 fun y hy => hn y (List.mem_cons_of_mem _ hy)⟩
      rcases mem_ins.1 hy with rfl | hy
      · exact hb
      · exact h1.1 y hy
theorem Fine.nil : Fine [] := ⟨List.Pairwise.nil, fun _ h => by simp at h, List.Pairwise.nil, by simp⟩
theorem Fine.ins {l : List T} {a : T} (h : Fine l) (ha : ok a) (hc : ¬ ∃ x ∈ l, clash a x) (hl : l.length < 256) : Fine (ins l a) := by
  refine ⟨order_ins h.srt fun x hx e => hc ⟨x, hx, .inl e⟩, fun x hx => ?_, ?_, by rw [ins_len]; omega⟩
  · rcases mem_ins.1 hx with rfl | hx
    · exact ha
    · exact h.oks x hx
  · refine List.Pairwise.perm (l := a :: l) ?_ (perm_ins l a).symm (fun {x y} hxy hyx => hxy ⟨hyx.1.symm, hyx.2.1.symm, by rw [hyx.1]; exact hyx.2.2⟩)
    refine List.pairwise_cons.2 ⟨fun x hx hcl => hc ⟨x, hx, .inr hcl⟩, h.uni⟩
theorem Fine.add {l : List T} (h : Fine l) (a : T) : Fine (add l a).1 := by
  unfold Acc.add
  split
  · split
    · exact h
    · split
      · exact h
      · exact h.ins (by assumption) (by assumption) (by omega)
  · exact h
theorem Fine.remove {l : List T} (h : Fine l) (n : List UInt8) : Fine (remove l n).1 := by
  unfold Acc.remove
  split
  · exact ⟨h.srt.sublist (List.filter_sublist), fun a ha => h.oks a (List.mem_filter.1 ha).1, h.uni.sublist (List.filter_sublist), Nat.le_trans (List.length_filter_le _ _) h.len⟩
  · exact h
theorem pos_le : ∀ (l : List T) (n : List UInt8), pos l n ≤ l.length
  | [], _ => Nat.le_refl _
  | x :: l, n => by
    have ih := pos_le l n
    unfold pos at ih ⊢
    rw [List.takeWhile_cons]
    split
    · simp only [List.length_cons]; omega
    · simp
theorem pos_cons_t {x : T} {l : List T} {n : List UInt8} (h : lt x.name n = true) : pos (x :: l) n = pos l n + 1 := by unfold pos; rw [List.takeWhile_cons, if_pos h]; rfl
theorem pos_cons_f {x : T} {l : List T} {n : List UInt8} (h : lt x.name n = false) : pos (x :: l) n = 0 := by unfold pos; rw [List.takeWhile_cons, if_neg (by simp [h])]; rfl
theorem pos_lt : ∀ {l : List T} {n : List UInt8} {t : Nat}, t < pos l n → lt ((l.map T.name)[t]?.getD n) n = true
  | [], _, _, h => absurd h (Nat.not_lt_zero _)
  | x :: l, n, t, h => by
    cases hb : lt x.name n
    · rw [pos_cons_f hb] at h; exact absurd h (Nat.not_lt_zero _)
    · rw [pos_cons_t hb] at h
      cases t with
      | zero => simpa using hb
      | succ t => simpa using pos_lt (l := l) (n := n) (t := t) (by omega)
theorem pos_ge : ∀ {l : List T} {n : List UInt8} {t : Nat}, inOrder l → pos l n ≤ t → lt ((l.map T.name)[t]?.getD n) n = false
  | [], n, _, _, _ => by simpa using lt_irr n
  | x :: l, n, t, h, ht => by
    have h1 := List.pairwise_cons.1 h
    cases hb : lt x.name n
    · cases t with
      | zero => simpa using hb
      | succ t =>
        simp only [List.map_cons, List.getElem?_cons_succ]
        cases hy : (l.map T.name)[t]? with
        | none => exact lt_irr n
        | some y =>
          obtain ⟨z, hz, rfl⟩ := List.mem_map.1 (List.mem_of_getElem? hy)
          cases hb2 : lt z.name n
          · exact hb2
          · have := lt_trans (h1.1 z hz) hb2
            rw [hb] at this
            cases this
    · rw [pos_cons_t hb] at ht
      cases t with
      | zero => omega
      | succ t => simpa using pos_ge (l := l) (n := n) (t := t) h1.2 (by omega)
theorem pos_found : ∀ {l : List T} {n : List UInt8}, inOrder l → ((pos l n < l.length ∧ (l.map T.name)[pos l n]?.getD n = n) ↔ ∃ x ∈ l, x.name = n)
  | [], n, _ => by simp
  | x :: l, n, h => by
    have h1 := List.pairwise_cons.1 h
    cases hb : lt x.name n
    · rw [pos_cons_f hb]
      simp only [List.map_cons, List.getElem?_cons_zero, Option.getD_some, List.length_cons]
      constructor
      · rintro ⟨_, e⟩; exact ⟨x, List.mem_cons_self, e⟩
      · rintro ⟨y, hy, e⟩
        refine ⟨by omega, ?_⟩
        rcases List.mem_cons.1 hy with rfl | hy
        · exact e
        · have := h1.1 y hy
          rw [e, hb] at this
          cases this
    · rw [pos_cons_t hb]
      simp only [List.map_cons, List.getElem?_cons_succ, List.length_cons]
      have ih := pos_found (l := l) (n := n) h1.2
      constructor
      · rintro ⟨h2, e⟩
        obtain ⟨y, hy, e⟩ := ih.1 ⟨by omega, e⟩
        exact ⟨y, List.mem_cons_of_mem _ hy, e⟩
      · rintro ⟨y, hy, e⟩
        rcases List.mem_cons.1 hy with rfl | hy
        · exact absurd e (lt_ne hb)
        · have := ih.2 ⟨y, hy, e⟩
          exact ⟨by omega, this.2⟩
end Acc
end Go.Proofs.Ytgcnpnbgjejkaaa
namespace Go.Proofs.Ytgcnpnbgjejkaaa
open Go.RowKit
namespace Sx
theorem flat_encT : ∀ (l : List (List UInt8)), l.flatMap encT = (l.map encS).map isD
  | [] => rfl
  | s :: l => by rw [List.flatMap_cons, flat_encT l]; rfl
theorem encS_one (l : List (List UInt8)) : ∀ v ∈ l.map encS, v.oneCell' = true := fun v hv => by
  obtain ⟨s, _, rfl⟩ := List.mem_map.1 hv
  rfl
/-- A slice of strings of one's own, in the memory's words. -/
theorem vecS_out {e c : Nat} {A : Option Addr} {l : List (List UInt8)} {L F : List Nat} {w : World} (h : (vecT e 1 encT A c l).R L F w) : (A = none ∧ c = 0 ∧ l = [] ∧ F = []) ∨ ∃ g cur, A = some ⟨g, 0, none⟩ ∧ F = [g] ∧ Blk w g e cur ∧ l.length ≤ c ∧ c ≤ maxLen ∧ cur.length = c ∧ cur.take l.length = l.map encS := by
  obtain ⟨xs, ha, ho, hF⟩ := h
  rw [flat_encT] at ha
  have hx := all_isD ha
  subst hx
  rcases ho.2 with ⟨hv, hn⟩ | ⟨g, cap, cur, hv, _, hh, hnc, hcm, hcs, htk⟩
  · injection hv with e1 e2 e3
    subst e1 e3
    exact .inl ⟨rfl, rfl, List.length_eq_zero_iff.1 hn, by rw [hF]; rfl⟩
  · injection hv with e1 e2 e3
    subst e1 e3
    refine .inr ⟨g, cur.toList, rfl, by rw [hF]; rfl, ?_, hnc, hcm, by simp [hcs], by simpa using htk⟩
    unfold Blk
    rw [Array.toArray_toList]
    exact hh
theorem vecS_in {e c g : Nat} {l : List (List UInt8)} {L : List Nat} {w : World} {cur : List Value} (hb : Blk w g e cur) (hn : l.length ≤ c) (hm : c ≤ maxLen) (hl : cur.length = c) (ht : cur.take l.length = l.map encS) : (vecT e 1 encT (some ⟨g, 0, none⟩) c l).R L [g] w := by
  refine ⟨l.map encS, ?_, ⟨by simp, .inr ⟨g, c, cur.toArray, rfl, Nat.zero_le _, hb, hn, hm, by simp [hl], by simpa using ht⟩⟩, rfl⟩
  rw [flat_encT]
  exact all_is _
theorem blk_cells {w : World} {g : Nat} {t : TypeId} {cur : List Value} {l : List (List UInt8)} (h : Blk w g t cur) (ht : cur.take l.length = l.map encS) (j : Nat) (v : Value) (hv : (l.map encS)[j]? = some v) : w.cell? ⟨g, 0 + j, none⟩ = some v := by
  rw [Nat.zero_add, h.cell]
  rw [← ht, List.getElem?_take] at hv
  split at hv
  · exact hv
  · cases hv
theorem blk_shape {w : World} {g : Nat} {t : TypeId} {cur : List Value} (h : Blk w g t cur) : w.shape? g = some (t, cur.length) := by
  unfold Blk at h
  simp [World.shape?, h]
/-- Where the first element that is not below a name stands. -/
theorem bs_pos {l : List Acc.T} {n : List UInt8} (h : Acc.inOrder l) : Lib.bsGo (fun t => Op.bytesLess ((l.map Acc.T.name)[t]?.getD n) n) l.length 0 l.length = Acc.pos l n := by
  refine Lib.bsGo_spec _ _ (fun t ht => ?_) (fun t ht => ?_) _ _ _ (by omega) (Nat.zero_le _) ?_
  · exact Acc.pos_lt ht
  · exact Acc.pos_ge h ht
  · exact Acc.pos_le l n
section
variable {P : Program} {ρ : Shelf.Ren}
theorem ba_eq (p q : List UInt8) : (ByteArray.mk p.toArray = ByteArray.mk q.toArray) ↔ p = q := by
  constructor
  · intro h
    have h1 := congrArg (fun b : ByteArray => b.data.toList) h
    simpa using h1
  · intro h; rw [h]
theorem con_search (L : Lays2.n26 P ρ) (l : List Acc.T) (n : List UInt8) (h : Acc.inOrder l) (hl : l.length ≤ 1000000) : ConN P (ρ.f 26) [lsD encT (l.map Acc.T.name), strD n] (tupD [iD (Acc.pos l n), boolD (decide (∃ x ∈ l, x.name = n))]) := by
  refine ⟨enters_of L.f26 (by kernel_rfl) rfl, fun LL w vs hL hG ha => ?_⟩
  match vs, ha with
  | [v1, v2], ha =>
    obtain ⟨A, c, rfl, hc, hat⟩ := ha.1
    obtain rfl : v2 = .string ⟨n.toArray⟩ := ha.2.1
    rw [flat_encT] at hat
    rw [List.length_map] at hc
    have fin : ∀ (b : Bool), b = decide (∃ x ∈ l, x.name = n) → ∀ w', Only [] w w' → ∃ v, Ending.returned (.tuple #[.int .i64 ((Acc.pos l n : Nat) : Int), .bool b]) = .returned v ∧ (nwD w.heap.size (tupD [iD (Acc.pos l n), boolD (decide (∃ x ∈ l, x.name = n))])).R LL w' v ∧ Only [] w w' := fun b hb w' ho => by
      subst hb
      have hl : LeAll [iD ((Acc.pos l n : Nat) : Int), boolD (decide (∃ x ∈ l, x.name = n))] ([iD ((Acc.pos l n : Nat) : Int), boolD (decide (∃ x ∈ l, x.name = n))].map (nwD w.heap.size)) := ⟨le_nw_is, le_nw_is, trivial⟩
      have ht : (tupD [iD ((Acc.pos l n : Nat) : Int), boolD (decide (∃ x ∈ l, x.name = n))]).R LL w' (.tuple #[.int .i64 ((Acc.pos l n : Nat) : Int), .bool (decide (∃ x ∈ l, x.name = n))]) := ⟨[_, _], rfl, rfl, rfl, trivial⟩
      exact ⟨_, rfl, le_nw_tup hl _ _ _ ht, ho⟩
    rcases Nat.eq_zero_or_pos l.length with h0 | h0
    · have e0 := List.length_eq_zero_iff.1 h0
      subst e0
      refine (Any2.slices_BinarySearch_string_empty L A c ⟨n.toArray⟩ w).mono ?_
      rintro e w' ⟨rfl, rfl⟩
      exact fin false (by simp) _ (Only.refl [] _)
    · obtain ⟨g, o, rfl, hg, hgn, cs, hcs, hcell⟩ := hat (by simpa using h0)
      have hx := all_isD hcs
      subst hx
      have hpos := bs_pos (n := n) h
      have hcc : ∀ j, j < l.length → w.cell? ⟨g, o + j, none⟩ = some (.string ⟨((l.map Acc.T.name)[j]?.getD n).toArray⟩) := fun j hj => by
        rw [hcell j (by simpa using hj)]
        simp [encS, hj]
      have hcon := Any2.slices_BinarySearch_string L g o l.length c (fun j => ⟨((l.map Acc.T.name)[j]?.getD n).toArray⟩) ⟨n.toArray⟩ w (by omega) hcc
      simp only [ba_toList, hpos] at hcon
      rw [List.length_map]
      refine hcon.mono ?_
      rintro e w' ⟨rfl, q, rfl⟩
      refine fin _ ?_ _ ((Only.refl [] w).drewN q)
      rw [decide_eq_decide]
      rw [ba_eq]
      exact Acc.pos_found h
/-- A slice of one's own, as it came back. -/
structure Ust where
  A : Option Addr
  c : Nat
  F : List Nat
theorem con_insert (L : Lays2.n22 P ρ) (l : List (List UInt8)) (s : Ust) (x : List UInt8) (i : Nat) (hi : i ≤ l.length) (hl : l.length ≤ 1000000) : ConR P (ρ.f 22) [.r s.F (vecT (ρ.t 9) 1 encT s.A s.c l)] [isD (.slice s.A l.length s.c), iD i, bkD (ρ.t 9) [encS x]] (fun t : Ust => [.r t.F (vecT (ρ.t 9) 1 encT t.A t.c (l.take i ++ x :: l.drop i))]) (fun t => isD (.slice t.A (l.length + 1) t.c)) := by
  refine ⟨enters_of L.f22 (by kernel_rfl) rfl, fun LL w vs hL hG hgF hgL hnd hbk ha => ?_⟩
  match vs, ha with
  | [v1, v2, v3], ha =>
    obtain rfl : v1 = .slice s.A l.length s.c := ha.1
    obtain rfl : v2 = .int .i64 (i : Int) := ha.2.1
    obtain ⟨vb, rfl, hvb, hbx⟩ := ha.2.2.1
    obtain ⟨A, c, F⟩ := s
    simp only at *
    have hv := hbk (.r F _) List.mem_cons_self
    have hfp : fps [Box.r F (vecT (ρ.t 9) 1 encT A c l)] = F := by simp [fps, Box.fp]
    rw [hfp] at hnd hv hvb ⊢
    have hll : (l.take i ++ x :: l.drop i).length = l.length + 1 := by simp; omega
    have hlm : (l.take i ++ x :: l.drop i).map encS = (l.map encS).take i ++ ([encS x] ++ (l.map encS).drop i) := by simp
    have fin : ∀ {w' : World} {g' c' : Nat} {cur' : List Value}, Blk w' g' (ρ.t 9) cur' → l.length + 1 ≤ c' → c' ≤ maxLen → cur'.length = c' → cur'.take (l.length + 1) = (l.map encS).take i ++ ([encS x] ++ (l.map encS).drop i) → (g' ∈ F ∨ w.heap.size ≤ g') → Only (F) w w' →
        ∃ (t : Ust) (v : Value), Ending.returned (.slice (some ⟨g', 0, none⟩) (l.length + 1) c') = .returned v ∧ (isD (.slice t.A (l.length + 1) t.c)).R (fps [Box.r t.F (vecT (ρ.t 9) 1 encT t.A t.c (l.take i ++ x :: l.drop i))] ++ LL) w' v ∧ (∀ b ∈ [Box.r t.F (vecT (ρ.t 9) 1 encT t.A t.c (l.take i ++ x :: l.drop i))], b.R (fps [Box.r t.F (vecT (ρ.t 9) 1 encT t.A t.c (l.take i ++ x :: l.drop i))] ++ LL) w') ∧ (fps [Box.r t.F (vecT (ρ.t 9) 1 encT t.A t.c (l.take i ++ x :: l.drop i))]).Nodup ∧ (∀ g ∈ fps [Box.r t.F (vecT (ρ.t 9) 1 encT t.A t.c (l.take i ++ x :: l.drop i))], g ∈ F ∨ w.heap.size ≤ g) ∧ Only (F) w w' := by
      intro w' g' c' cur' hb h1 h2 h3 h4 hg ho
      refine ⟨⟨some ⟨g', 0, none⟩, c', [g']⟩, _, rfl, rfl, fun b hb' => ?_, by simp [fps, Box.fp], fun y hy => ?_, ho⟩
      · rw [List.mem_singleton.1 hb']
        exact vecS_in hb (by rw [hll]; exact h1) h2 h3 (by rw [hll, hlm]; exact h4)
      · have : y = g' := by simpa [fps, Box.fp] using hy
        rw [this]
        exact hg
    have hvs : ∀ j v, [encS x][j]? = some v → w.cell? ⟨vb, 0 + j, none⟩ = some v := fun j v hv => blk_cells (l := [x]) hbx rfl j v hv
    have h1v : ∀ v ∈ [encS x], v.oneCell' = true := encS_one [x]
    have h1c := encS_one l
    by_cases hin : i = l.length
    · subst hin
      have et : (l.map encS).take l.length ++ ([encS x] ++ (l.map encS).drop l.length) = l.map encS ++ [encS x] := by
        rw [List.take_of_length_le (by simp), List.drop_of_length_le (by simp)]; simp
      by_cases hroom : l.length + 1 ≤ c
      · rcases vecS_out hv with ⟨_, h0, _, _⟩ | ⟨g, cur, rfl, rfl, hb, hnc, hcm, hlc, htk⟩
        · omega
        refine (Any2.slices_Insert_string_end_room L g 0 l.length c vb 0 1 1 [encS x] w (by decide) hroom (by simp only [maxLen] at hcm; omega) rfl (fun j hj => ?_) (fun j hj => hb.frozen _) hvs h1v).mono ?_
        · rw [hb.cell, List.getElem?_eq_getElem (by omega)]; rfl
        rintro e w' ⟨rfl, rfl⟩
        rw [Nat.zero_add]
        obtain ⟨h5, h6⟩ := blk_setCells [encS x] l.length cur w hb (by simp; omega)
        refine fin h5 hroom hcm (by simp; omega) ?_ (.inl (by simp)) (h6.mono (fun y hy _ => by rw [List.mem_singleton.1 hy]; simp))
        rw [et, htk, ← List.append_assoc, List.take_append_of_le_length (by simp), List.take_of_length_le (by simp)]
      · have hnc : l.length ≤ c := by
          rcases vecS_out hv with ⟨_, h0, h1, _⟩ | ⟨g, cur, _, _, hb, hnc, _⟩
          · rw [h1]; exact Nat.zero_le _
          · exact hnc
        refine (Any2.slices_Insert_string_end_grow L A l.length c vb 0 1 1 (l.map encS) [encS x] w (by decide) hnc (by omega) (by omega) (by simp) rfl ?_ ?_ hvs h1v).mono ?_
        · intro hA
          rcases vecS_out hv with ⟨_, _, h1, _⟩ | ⟨g, cur, h1, _⟩
          · rw [h1]; rfl
          · rw [hA] at h1; cases h1
        · intro a ha' j v hj
          rcases vecS_out hv with ⟨h1, _⟩ | ⟨g, cur, h1, _, hb, hnc, hcm, hlc, htk⟩
          · rw [h1] at ha'; cases ha'
          · rw [h1] at ha'
            injection ha' with ha'
            subst ha'
            rw [Addr.add_mid]
            exact blk_cells hb htk j v hj
        rintro e w' ⟨rfl, rfl⟩
        have hge := grownCap_ge w (l.length + 1) c (ρ.t 9)
        have hcm := grownCap_le_maxLen w (l.length + 1) c (ρ.t 9) (by simp only [maxLen]; omega)
        generalize grownCap w (l.length + 1) c (ρ.t 9) = C at hge hcm ⊢
        generalize hZ : Builtin.zeroCells (Value.string ⟨#[]⟩).cells (C - (l.length + 1)) = Z
        have hZl : Z.size = C - (l.length + 1) := by rw [← hZ, size_zeroCells]; simp [Value.cells]
        have hnew := Blk.new w.drew (ρ.t 9) (l.map encS ++ [encS x] ++ Z.toList)
        have eA : (l.map encS ++ [encS x] ++ Z.toList).toArray = (l.map encS ++ [encS x]).toArray ++ Z := by apply Array.ext'; simp
        rw [eA] at hnew
        refine fin hnew hge hcm (by simp [hZl]; omega) ?_ (.inr (Nat.le_refl _)) (((Only.refl _ w).drew).alloc _)
        rw [et, List.take_append_of_le_length (by simp), List.take_of_length_le (by simp)]
    · rcases vecS_out hv with ⟨_, _, h0, _⟩ | ⟨g, cur, rfl, rfl, hb, hnc, hcm, hlc, htk⟩
      · rw [h0] at hi hin; simp at hi hin; omega
      have hcs : ∀ j v, (l.map encS)[j]? = some v → w.cell? ⟨g, 0 + j, none⟩ = some v := fun j v hj => blk_cells hb htk j v hj
      have hgv : vb ≠ g := fun e => by
        exact hvb (by rw [e]; simp)
      by_cases hroom : l.length + 1 ≤ c
      · refine (Any2.slices_Insert_string_shift L g 0 l.length c i vb 0 1 1 (l.map encS) [encS x] w (by omega) (by decide) hroom (by simp only [maxLen] at hcm; omega) hgv (by simp) rfl hcs (fun j hj => ?_) (fun j hj => hb.frozen _) hvs h1c h1v (ρ.t 9) (ρ.t 9) 1 cur.length (blk_shape hbx) (blk_shape hb) (by omega) (hbx.frozen _) (hbx.frozen _)).mono ?_
        · rw [Nat.zero_add, hb.cell, List.getElem?_eq_getElem (by omega)]; rfl
        rintro e w' ⟨rfl, rfl⟩
        rw [Nat.zero_add, Nat.zero_add]
        obtain ⟨h5, h6⟩ := blk_setCells ((l.map encS).drop i) (i + 1) cur w.drew hb.drew (by simp; omega)
        obtain ⟨h7, h8⟩ := blk_setCells [encS x] i _ _ h5 (by simp; omega)
        refine fin h7 hroom hcm (by simp; omega) ?_ (.inl (by simp)) ((((Only.refl _ w).drew).trans' (h6.mono (fun y hy _ => by rw [List.mem_singleton.1 hy]; simp))).trans' (h8.mono (fun y hy _ => by rw [List.mem_singleton.1 hy]; simp)))
        have e1 : cur.take i = (l.map encS).take i := by rw [← htk, List.take_take, Nat.min_eq_left (by omega)]
        have e2 : (cur.take (i + 1) ++ ((l.map encS).drop i ++ cur.drop (i + 1 + ((l.map encS).drop i).length))).take i = (l.map encS).take i := by
          rw [List.take_append_of_le_length (by simp; omega), List.take_take, Nat.min_eq_left (by omega), e1]
        have e3 : (cur.take (i + 1) ++ ((l.map encS).drop i ++ cur.drop (i + 1 + ((l.map encS).drop i).length))).drop (i + 1) = (l.map encS).drop i ++ cur.drop (i + 1 + ((l.map encS).drop i).length) := by
          rw [List.drop_append_of_le_length (by simp; omega), List.drop_of_length_le (by simp; omega), List.nil_append]
        simp only [List.length_singleton]
        rw [e2, e3, ← List.append_assoc, ← List.append_assoc, List.take_append_of_le_length (by simp; omega), List.take_of_length_le (by simp; omega), List.append_assoc]
      · refine (Any2.slices_Insert_string_grow L g 0 l.length c i vb 0 1 1 (l.map encS) [encS x] w (by omega) (by decide) hnc (by omega) (by omega) (by simp) rfl hcs hvs h1c h1v).mono ?_
        rintro e w' ⟨rfl, rfl⟩
        have hge := grownCap_ge w (l.length + 1) c (ρ.t 9)
        have hcm2 := grownCap_le_maxLen w (l.length + 1) c (ρ.t 9) (by simp only [maxLen]; omega)
        generalize grownCap w (l.length + 1) c (ρ.t 9) = C at hge hcm2 ⊢
        generalize hZ : Builtin.zeroCells (Value.string ⟨#[]⟩).cells (C - (l.length + 1)) = Z
        generalize hY : Builtin.zeroCells (Value.string ⟨#[]⟩).cells (l.length + 1 - i) = Y
        have hZl : Z.size = C - (l.length + 1) := by rw [← hZ, size_zeroCells]; simp [Value.cells]
        have hYl : Y.size = l.length + 1 - i := by rw [← hY, size_zeroCells]; simp [Value.cells]
        obtain ⟨ROW, hR⟩ : ∃ ROW : List Value, ROW = (l.map encS).take i ++ Y.toList ++ Z.toList := ⟨_, rfl⟩
        have eA : ((l.map encS).take i).toArray ++ Y ++ Z = ROW.toArray := by rw [hR]; apply Array.ext'; simp
        rw [eA]
        have hRl : ROW.length = C := by rw [hR]; simp [hZl, hYl]; omega
        have hnew := Blk.new w (ρ.t 9) ROW
        have hnew2 : Blk (w.alloc (.cells ROW.toArray (ρ.t 9))).drew w.heap.size (ρ.t 9) ROW := hnew.drew
        obtain ⟨h5, h6⟩ := blk_setCells [encS x] i ROW _ hnew2 (by simp; omega)
        obtain ⟨h7, h8⟩ := blk_setCells ((l.map encS).drop i) (i + 1) _ _ h5.drew (by simp; omega)
        have hO : Only [w.heap.size] w (w.alloc (.cells ROW.toArray (ρ.t 9))).drew := (((Only.refl _ w).alloc _).drew)
        have hO2 := (hO.trans' h6).drew.trans' h8
        refine fin h7 hge hcm2 (by simp; omega) ?_ (.inr (Nat.le_refl _)) (hO2.mono (fun y hy hlt => by rw [List.mem_singleton.1 hy] at hlt; omega))
        have e1 : ROW.take i = (l.map encS).take i := by
          rw [hR, List.append_assoc, List.take_append_of_le_length (by simp; omega), List.take_of_length_le (by simp; omega)]
        simp only [List.length_singleton]
        have e2 : (ROW.take i ++ ([encS x] ++ ROW.drop (i + 1))).take (i + 1) = (l.map encS).take i ++ [encS x] := by
          rw [e1, ← List.append_assoc, List.take_append_of_le_length (by simp; omega), List.take_of_length_le (by simp; omega)]
        rw [e2, ← List.append_assoc, List.take_append_of_le_length (by simp; omega), List.take_of_length_le (by simp; omega), List.append_assoc]
theorem con_delete (L : Lays2.n24 P ρ) (l : List (List UInt8)) (A : Option Addr) (c : Nat) (F : List Nat) (i : Nat) (hi : i < l.length) (hl : l.length ≤ 1000000) : ConR P (ρ.f 24) [.r F (vecT (ρ.t 9) 1 encT A c l)] [isD (.slice A l.length c), iD i, iD ((i : Int) + 1)] (fun _ : Unit => [.r F (vecT (ρ.t 9) 1 encT A c (l.eraseIdx i))]) (fun _ => isD (.slice A (l.eraseIdx i).length c)) := by
  refine ⟨enters_of L.f24 (by kernel_rfl) rfl, fun LL w vs hL hG hgF hgL hnd hbk ha => ?_⟩
  match vs, ha with
  | [v1, v2, v3], ha =>
    obtain rfl : v1 = .slice A l.length c := ha.1
    obtain rfl : v2 = .int .i64 (i : Int) := ha.2.1
    obtain rfl : v3 = .int .i64 ((i : Int) + 1) := ha.2.2.1
    have hv := hbk (.r F _) List.mem_cons_self
    rcases vecS_out hv with ⟨_, _, h0, _⟩ | ⟨g, cur, rfl, rfl, hb, hnc, hcm, hlc, htk⟩
    · rw [h0] at hi; cases hi
    have hcc : ∀ j, j < l.length → w.cell? ⟨g, 0 + j, none⟩ = some (.string ⟨(l[j]?.getD []).toArray⟩) := fun j hj => by
      rw [blk_cells hb htk j (encS l[j]) (by simp [hj])]
      simp [encS, hj]
    have e0 : Lib.strsOf (fun j => (⟨(l[j]?.getD []).toArray⟩ : ByteArray)) l.length = l := by
      unfold Lib.strsOf
      refine List.ext_getElem (by simp) fun k h1 h2 => ?_
      simp [h2]
    have hcon := Any.slices_Delete_string_cells L g 0 l.length c i (i + 1) (fun j => ⟨(l[j]?.getD []).toArray⟩) w hnc (by simp only [maxLen] at hcm; omega) (by omega) (by omega) hcc (fun j _ => hb.frozen _)
    rw [e0] at hcon
    have e1 : l.take i ++ l.drop (i + 1) = l.eraseIdx i := List.eraseIdx_eq_take_drop_succ l i |>.symm
    have e2 : l.length - (i + 1 - i) = (l.eraseIdx i).length := by rw [List.length_eraseIdx]; simp [hi]
    have e3 : (l.eraseIdx i).length = l.length - 1 := by rw [List.length_eraseIdx]; simp [hi]
    rw [e1, e2] at hcon
    have e4 : (((i + 1 : Nat) : Int)) = (i : Int) + 1 := by omega
    rw [e4] at hcon
    refine hcon.mono ?_
    rintro e w' ⟨rfl, q, rfl⟩
    have hlen : ((l.eraseIdx i ++ List.replicate (i + 1 - i) []).map encStr).length = l.length := by simp [e3]; omega
    obtain ⟨h5, h6⟩ := blk_setCells ((l.eraseIdx i ++ List.replicate (i + 1 - i) []).map encStr) 0 cur (w.drewN q) (hb.drewN q) (by rw [hlen]; omega)
    have ho : Only [g] w ((w.drewN q).setCells g 0 ((l.eraseIdx i ++ List.replicate (i + 1 - i) []).map encStr)) := ((Only.refl [g] w).drewN q).trans' h6
    refine ⟨(), _, rfl, rfl, fun b hb' => ?_, by simp [fps, Box.fp], fun y hy => .inl (by simpa [fps, Box.fp] using hy), by simpa [fps, Box.fp] using ho⟩
    rw [List.mem_singleton.1 hb']
    refine vecS_in h5 (by omega) hcm ?_ ?_
    · simp only [List.take_zero, List.nil_append, List.length_append, hlen, List.length_drop]; omega
    · rw [List.take_zero, List.nil_append, List.map_append, List.append_assoc, List.take_append_of_le_length (by simp), List.take_of_length_le (by simp)]
      rfl
end
end Sx
end Go.Proofs.Ytgcnpnbgjejkaaa
namespace Go.Proofs.Ytgcnpnbgjejkaaa
open Go.RowKit
namespace Acc
theorem mem_names {l : List T} {n : List UInt8} : n ∈ l.map T.name ↔ ∃ x ∈ l, x.name = n := List.mem_map
theorem find_some {l : List T} {n : List UInt8} {x : T} (h : find l n = some x) : x ∈ l ∧ x.name = n := by
  unfold find at h
  exact ⟨List.mem_of_find?_eq_some h, by simpa using List.find?_some h⟩
theorem find_none {l : List T} {n : List UInt8} : find l n = none ↔ ¬ ∃ x ∈ l, x.name = n := by
  unfold find
  rw [List.find?_eq_none]
  simp
theorem names_uni {l : List T} (h : inOrder l) {x y : T} (hx : x ∈ l) (hy : y ∈ l) (e : x.name = y.name) : x = y := by
  induction l with
  | nil => cases hx
  | cons a l ih =>
    have h1 := List.pairwise_cons.1 h
    rcases List.mem_cons.1 hx with e1 | hx1 <;> rcases List.mem_cons.1 hy with e2 | hy1
    · rw [e1, e2]
    · exact absurd e (by rw [e1]; exact lt_ne (h1.1 y hy1))
    · exact absurd e.symm (by rw [e2]; exact lt_ne (h1.1 x hx1))
    · exact ih h1.2 hx1 hy1
theorem find_mem {l : List T} (h : inOrder l) {x : T} (hx : x ∈ l) : find l x.name = some x := by
  cases hf : find l x.name with
  | none => exact absurd ⟨x, hx, rfl⟩ (find_none.1 hf)
  | some y =>
    obtain ⟨h1, h2⟩ := find_some hf
    rw [names_uni h h1 hx h2]
/-- Seats that are taken. -/
def seats (l : List T) : List (Int × Int) := (l.filter fun x => decide (x.role ≠ 3)).map fun x => (x.role, x.num)
theorem mem_seats {l : List T} {p : Int × Int} : p ∈ seats l ↔ ∃ x ∈ l, x.role ≠ 3 ∧ (x.role, x.num) = p := by
  unfold seats
  rw [List.mem_map]
  constructor
  · rintro ⟨x, hx, e⟩
    have := List.mem_filter.1 hx
    exact ⟨x, this.1, by simpa using this.2, e⟩
  · rintro ⟨x, hx, h3, e⟩
    exact ⟨x, List.mem_filter.2 ⟨hx, by simpa using h3⟩, e⟩
def seat (l : List T) (p : Int × Int) : Option T := l.find? fun x => decide (x.role ≠ 3 ∧ (x.role, x.num) = p)
theorem seat_some {l : List T} {p : Int × Int} {x : T} (h : seat l p = some x) : x ∈ l ∧ x.role ≠ 3 ∧ (x.role, x.num) = p := by
  unfold seat at h
  exact ⟨List.mem_of_find?_eq_some h, by simpa using List.find?_some h⟩
theorem seat_none {l : List T} {p : Int × Int} : seat l p = none ↔ p ∉ seats l := by
  unfold seat
  rw [List.find?_eq_none, mem_seats]
  simp only [decide_eq_true_eq, not_exists, not_and]
theorem seats_uni {l : List T} (h : l.Pairwise fun a b => ¬ (b.role = a.role ∧ b.num = a.num ∧ a.role ≠ 3)) {x y : T} (hx : x ∈ l) (hy : y ∈ l) (h3 : x.role ≠ 3) (er : x.role = y.role) (en : x.num = y.num) : x = y := by
  induction l with
  | nil => cases hx
  | cons a l ih =>
    have h1 := List.pairwise_cons.1 h
    rcases List.mem_cons.1 hx with e1 | hx1 <;> rcases List.mem_cons.1 hy with e2 | hy1
    · rw [e1, e2]
    · subst e1; exact absurd ⟨er.symm, en.symm, h3⟩ (h1.1 y hy1)
    · subst e2; exact absurd ⟨er, en, by rw [← er]; exact h3⟩ (h1.1 x hx1)
    · exact ih h1.2 hx1 hy1
theorem seat_mem {l : List T} (h : Fine l) {x : T} (hx : x ∈ l) (h3 : x.role ≠ 3) : seat l (x.role, x.num) = some x := by
  cases hf : seat l (x.role, x.num) with
  | none => exact absurd (mem_seats.2 ⟨x, hx, h3, rfl⟩) (seat_none.1 hf)
  | some y =>
    obtain ⟨h1, h2, e⟩ := seat_some hf
    injection e with e1 e2
    rw [seats_uni h.uni h1 hx h2 e1 e2]
theorem names_ins (l : List T) (a : T) : (ins l a).map T.name = (l.map T.name).take (pos l a.name) ++ a.name :: (l.map T.name).drop (pos l a.name) := by
  rw [ins_eq, List.map_append, List.map_cons, List.map_take, List.map_drop]
theorem mem_names_ins {l : List T} {a : T} {k : List UInt8} : k ∈ a.name :: l.map T.name ↔ k ∈ (ins l a).map T.name := by
  rw [List.mem_cons, mem_names, mem_names]
  constructor
  · rintro (rfl | ⟨x, hx, e⟩)
    · exact ⟨a, mem_ins.2 (.inl rfl), rfl⟩
    · exact ⟨x, mem_ins.2 (.inr hx), e⟩
  · rintro ⟨x, hx, e⟩
    rcases mem_ins.1 hx with rfl | hx
    · exact .inl e.symm
    · exact .inr ⟨x, hx, e⟩
theorem mem_seats_ins {l : List T} {a : T} (h3 : a.role ≠ 3) {p : Int × Int} : p ∈ (a.role, a.num) :: seats l ↔ p ∈ seats (ins l a) := by
  rw [List.mem_cons, mem_seats, mem_seats]
  constructor
  · rintro (rfl | ⟨x, hx, h, e⟩)
    · exact ⟨a, mem_ins.2 (.inl rfl), h3, rfl⟩
    · exact ⟨x, mem_ins.2 (.inr hx), h, e⟩
  · rintro ⟨x, hx, h, e⟩
    rcases mem_ins.1 hx with rfl | hx
    · exact .inl e.symm
    · exact .inr ⟨x, hx, h, e⟩
theorem mem_seats_ins3 {l : List T} {a : T} (h3 : a.role = 3) {p : Int × Int} : p ∈ seats l ↔ p ∈ seats (ins l a) := by
  rw [mem_seats, mem_seats]
  constructor
  · rintro ⟨x, hx, h, e⟩
    exact ⟨x, mem_ins.2 (.inr hx), h, e⟩
  · rintro ⟨x, hx, h, e⟩
    rcases mem_ins.1 hx with rfl | hx
    · exact absurd h3 h
    · exact ⟨x, hx, h, e⟩
theorem find_ins {l : List T} {a : T} (h : inOrder (ins l a)) : find (ins l a) a.name = some a := find_mem h (mem_ins.2 (.inl rfl))
theorem find_ins' {l : List T} {a : T} (hs : inOrder l) (h : inOrder (ins l a)) {k : List UInt8} (hk : k ∈ l.map T.name) : find (ins l a) k = find l k := by
  obtain ⟨x, hx, rfl⟩ := mem_names.1 hk
  rw [find_mem h (mem_ins.2 (.inr hx)), find_mem hs hx]
theorem seat_ins' {l : List T} {a : T} (hs : Fine l) (h : Fine (ins l a)) {p : Int × Int} (hp : p ∈ seats l) : seat (ins l a) p = seat l p := by
  obtain ⟨x, hx, h3, rfl⟩ := mem_seats.1 hp
  rw [seat_mem h (mem_ins.2 (.inr hx)) h3, seat_mem hs hx h3]
/-! Removing. -/
def del (l : List T) (n : List UInt8) : List T := l.filter fun x => decide (x.name ≠ n)
theorem mem_del {l : List T} {n : List UInt8} {x : T} : x ∈ del l n ↔ x ∈ l ∧ x.name ≠ n := by unfold del; rw [List.mem_filter]; simp
theorem Fine.del {l : List T} (h : Fine l) (n : List UInt8) : Fine (del l n) :=
  ⟨h.srt.sublist (List.filter_sublist), fun a ha => h.oks a (List.mem_filter.1 ha).1, h.uni.sublist (List.filter_sublist), Nat.le_trans (List.length_filter_le _ _) h.len⟩
theorem del_eq : ∀ {l : List T} {n : List UInt8}, inOrder l → (∃ x ∈ l, x.name = n) → del l n = l.eraseIdx (pos l n)
  | [], n, _, h => by obtain ⟨_, h, _⟩ := h; cases h
  | x :: l, n, h, hn => by
    have h1 := List.pairwise_cons.1 h
    cases hb : lt x.name n
    · rw [pos_cons_f hb, List.eraseIdx_cons_zero]
      obtain ⟨y, hy, e⟩ := hn
      have hx : x.name = n := by
        rcases List.mem_cons.1 hy with rfl | hy
        · exact e
        · have := h1.1 y hy; rw [e, hb] at this; cases this
      unfold del
      rw [List.filter_cons_of_neg (by simp [hx])]
      refine List.filter_eq_self.2 fun z hz => ?_
      have := h1.1 z hz
      simp only [decide_eq_true_eq]
      intro e2
      rw [e2, hx, lt_irr] at this
      cases this
    · rw [pos_cons_t hb, List.eraseIdx_cons_succ]
      have hne := lt_ne hb
      obtain ⟨y, hy, e⟩ := hn
      have hy' : ∃ x ∈ l, x.name = n := by
        rcases List.mem_cons.1 hy with rfl | hy
        · exact absurd e hne
        · exact ⟨y, hy, e⟩
      rw [← del_eq h1.2 hy']
      unfold del
      rw [List.filter_cons_of_pos (by simpa using hne)]
theorem names_del {l : List T} {n : List UInt8} (h : inOrder l) (hn : ∃ x ∈ l, x.name = n) : (del l n).map T.name = (l.map T.name).eraseIdx (pos l n) := by
  rw [del_eq h hn]
  generalize pos l n = i
  clear h hn
  induction l generalizing i with
  | nil => simp
  | cons a l ih => cases i with
    | zero => rfl
    | succ i => simpa using ih i
theorem mem_names_del {l : List T} {n k : List UInt8} : k ∈ (l.map T.name).filter (· ≠ n) ↔ k ∈ (del l n).map T.name := by
  rw [List.mem_filter, mem_names, mem_names]
  constructor
  · rintro ⟨⟨x, hx, rfl⟩, h⟩
    exact ⟨x, mem_del.2 ⟨hx, by simpa using h⟩, rfl⟩
  · rintro ⟨x, hx, rfl⟩
    have := mem_del.1 hx
    exact ⟨⟨x, this.1, rfl⟩, by simpa using this.2⟩
theorem mem_seats_del {l : List T} (hf : Fine l) {a : T} (ha : a ∈ l) {p : Int × Int} : p ∈ (seats l).filter (· ≠ (a.role, a.num)) ↔ p ∈ seats (del l a.name) := by
  rw [List.mem_filter, mem_seats, mem_seats]
  constructor
  · rintro ⟨⟨x, hx, h3, rfl⟩, h⟩
    refine ⟨x, mem_del.2 ⟨hx, fun e => ?_⟩, h3, rfl⟩
    rw [names_uni hf.srt hx ha e] at h
    simp at h
  · rintro ⟨x, hx, h3, rfl⟩
    have h1 := mem_del.1 hx
    refine ⟨⟨x, h1.1, h3, rfl⟩, ?_⟩
    simp only [decide_eq_true_eq]
    intro e
    injection e with e1 e2
    exact h1.2 (by rw [seats_uni hf.uni h1.1 ha h3 e1 e2])
theorem find_del {l : List T} (hf : Fine l) {n k : List UInt8} (hk : k ∈ (del l n).map T.name) : find (del l n) k = find l k := by
  obtain ⟨x, hx, rfl⟩ := mem_names.1 hk
  rw [find_mem (hf.del n).srt hx, find_mem hf.srt (mem_del.1 hx).1]
theorem seat_del {l : List T} (hf : Fine l) {n : List UInt8} {p : Int × Int} (hp : p ∈ seats (del l n)) : seat (del l n) p = seat l p := by
  obtain ⟨x, hx, h3, rfl⟩ := mem_seats.1 hp
  rw [seat_mem (hf.del n) hx h3, seat_mem hf (mem_del.1 hx).1 h3]
theorem remove_eq (l : List T) (n : List UInt8) : remove l n = if ∃ x ∈ l, x.name = n then (del l n, 0) else (l, 9) := rfl
end Acc
namespace Sx
def encA (a : Acc.T) : List D := [strD a.name, iD a.role, bD a.key, iD a.dep, iD a.num]
instance : Row encA 5 := ⟨fun _ => rfl, fun _ => by unfold encA; infer_instance, by decide⟩
def acD (l : List Acc.T) (k : List UInt8) : D := aggD (encA ((Acc.find l k).getD ⟨[], 0, [], 0, 0⟩))
def encSt (p : Int × Int) : Value := .agg #[.int .i64 p.1, .int .i64 p.2]
def seD (l : List Acc.T) (p : Int × Int) : D := strD (((Acc.seat l p).map Acc.T.name).getD [])
end Sx
end Go.Proofs.Ytgcnpnbgjejkaaa
