/-
  FROM A ROW's WORDS TO THE WALKS' WORDS: arguments, tables, the end's world.
  A WORLD FOR THE WITNESS: the settled one, the tables holding what their initialisers lay.
-/
import Derived.Test.YtchbgfgboogniaaDoorCards
import Derived.Test.YtchbgfgboogniaaDoorTie
import Derived.ProofKit
import Derived.OpenShut
import Derived.ChangeSlices
import Derived.Deep.DeepHandedRow
import Derived.Lib.LaidTab
import Derived.Test.YtchbgfgboogniaaDoorGD
namespace Go.Proofs.YtchbgfgboogniaaDoor
open Go.ChangeShapes Go.WideShapes Go.ChangeAt Go.RowKit
section
variable {H : Type} {enc : TypeId × Value → H} {P : Program}
theorem trodAll_stays (hl : laidOutB P = true) {W W' : World} (hb : Below W.heap.size W W') : ∀ {ts : List TypeId} {vs : List Value} {ds : List (DataW H)} {ps : List MemPlace},
    (∀ t ∈ ts, P.readableRec t = true ∧ t < P.types.size) → DataW.TrodAll enc P W 0 (fun _ => true) true ts vs ds ps → (∀ x ∈ ps, x.block < W.heap.size) →
    DataW.TrodAll enc P W' 0 (fun b => decide (b < W.heap.size)) true ts vs ds ps
  | [], [], [], _, _, h, _ => h
  | _ :: _, _ :: _, _ :: _, _, hT, ⟨p, q, h1, h2, e⟩, hs =>
    ⟨p, q, Below.trod hl (hT _ (List.mem_cons.2 (Or.inl rfl))).1 (hT _ (List.mem_cons.2 (Or.inl rfl))).2 h1 hb (fun x hx => hs x (by rw [e]; exact List.mem_append_left _ hx)),
      trodAll_stays hl hb (fun t ht => hT t (List.mem_cons.2 (Or.inr ht))) h2 (fun x hx => hs x (by rw [e]; exact List.mem_append_right _ hx)), e⟩

/-- true, the arguments as they were. -/
theorem post_kept {f : Func} {s : ChangeSpec} {W W' : World} {args : Array Value} {ds gs : List (DataW H)} {before : List MemPlace} {tb : TypeId}
    (hl : laidOutB P = true) (hts : ∀ t ∈ f.params.toList, P.readableRec t = true ∧ t < P.types.size) (hrt : f.resultTypes = #[tb]) (hb4 : P.underlying tb = some .bool) (hv : s.vars = [])
    (hW : DataW.Whole enc P f.params.toList s.vars false W args.toList ds gs before)
    (h1 : (s.fn H (ds ++ gs)).results = [.lit (.bool true)]) (h2 : (s.fn H (ds ++ gs)).args = ds) (h3 : (s.fn H (ds ++ gs)).vars = []) (hb : Below W.heap.size W W') :
    s.post enc P f false true false false W args (.bool true) W' := by
  have hW' := hW
  have hlt := hW.lt
  obtain ⟨p, q, hA, hV, rfl, hfz, hnd⟩ := hW
  refine ⟨ds, gs, _, [], p, [], hW', ?_, ?_, ?_, hb.frame _, fun h => by cases h⟩
  · rw [hrt, h1]
    exact trodAll_cons_mk (shut_bool hb4 _) trodAll_mk0
  · rw [h2]
    exact trodAll_stays hl hb hts hA (fun x hx => hlt x (List.mem_append_left _ hx))
  · rw [h3, hv]
    rfl

theorem cell_lt {w : World} {a : Addr} {v : Value} (h : w.cell? a = some v) : a.block < w.heap.size := by
  by_cases hl : a.block < w.heap.size
  · exact hl
  · have : w.heap[a.block]? = none := by simp; omega
    simp [World.cell?, this] at h

/-- an array of arrays of integers, read as a row lists it -/
theorem rows_of_tab {w : World} {base : Nat} {sp : Nat → Bool} {held : Bool} {fuel : Nat} {t t' e : TypeId} {n m : Nat} {k : IntKind} {cs : List Value} {rows : List (List Int)} {p : List MemPlace}
    (ht : P.underlying t = some (.array n t')) (ht' : P.underlying t' = some (.array m e)) (he : P.underlying e = some (.int k)) (hce : P.cellsOf e = 1) (hct : P.cellsOf t' = m)
    (h : DataW.trod enc P w base sp held fuel t cs = some (.agg (rows.map (Lib.tabData k)), p)) (r j : Nat) (hr : r < n) (hj : j < m) : cs[r * m + j]? = ((rows.getD r []).map (Value.int k))[j]? := by
  cases fuel with
  | zero => simp [DataW.trod] at h
  | succ fuel =>
    simp only [DataW.trod, ht, hct] at h
    split at h
    · obtain ⟨xs, hm, hx⟩ := Option.map_eq_some_iff.1 h
      have hxs : xs.map (·.1) = rows.map (Lib.tabData k) := by
        have := congrArg Prod.fst hx
        simpa using this
      obtain ⟨b, hb, hf⟩ := Lib.mapM_at hm r r (by simp [hr])
      have h2 : (xs.map (·.1))[r]? = some b.1 := by simp [hb]
      rw [hxs] at h2
      simp only [List.getElem?_map, Option.map_eq_some_iff] at h2
      obtain ⟨zs, hz, e1⟩ := h2
      have hf' : DataW.trod enc P w base sp held fuel t' ((cs.drop (r * m)).take m) = some (Lib.tabData k zs, b.2) := by rw [hf, e1]
      have h3 := Lib.cells_of_tab ht' he hce hct hf'
      have h4 := congrArg (·[j]?) h3
      simp only [List.getElem?_take, hj, if_true, List.getElem?_drop] at h4
      rw [h4]
      simp [List.getD, hz]
    · cases h
end
theorem gl_of_laid {W : World} (h : laidMetH Tryd.prog [("bandplan/blake.order", Rows.laid_bandplan_blake_order), ("bandplan/blake.initial", Rows.laid_bandplan_blake_initial)] W) : Gl W := by
  obtain ⟨ps, ⟨g, t, cs, fuel, p, q, hg, ht, hvar, hd, ⟨g2, t2, cs2, fuel2, p2, q2, hg2, ht2, hvar2, hd2, -, -⟩, -⟩, -⟩ := h
  obtain rfl : 1 = g := Option.some.inj ((show Tryd.prog.globalNamed "bandplan/blake.order" = some 1 by kernel_rfl).symm.trans hg)
  obtain rfl : 0 = g2 := Option.some.inj ((show Tryd.prog.globalNamed "bandplan/blake.initial" = some 0 by kernel_rfl).symm.trans hg2)
  obtain rfl : 194 = t := Option.some.inj ((show (Tryd.prog.globals[1]?).map (·.type) = some 194 by kernel_rfl).symm.trans ht)
  obtain rfl : 183 = t2 := Option.some.inj ((show (Tryd.prog.globals[0]?).map (·.type) = some 183 by kernel_rfl).symm.trans ht2)
  have e1 := fun r j hr hj => rows_of_tab (rows := Bl.tab.map fun zs => zs.map fun (n : Nat) => (n : Int)) (k := .u8) Tryd.underlying194 Tryd.underlying193 Tryd.underlying5 (by kernel_rfl) (by kernel_rfl) hd r j hr hj
  have e2 := Lib.cells_of_tab (zs := Bl.iv.map fun (n : Nat) => (n : Int)) (k := .u32) Tryd.underlying183 Tryd.underlying178 (by kernel_rfl) (by kernel_rfl) hd2
  have c1 := World.var?_cell hg hvar
  have c2 := World.var?_cell hg2 hvar2
  have f1 : ∀ j, j < 8 → W.cell? ⟨0, j, none⟩ = some (.int .u32 (Bl.iv.getD j 0 : Nat)) := by
    intro j hj
    rw [c2, ← Array.getElem?_toList, e2]
    have hl : j < Bl.iv.length := hj
    simp [List.getD, hl]
  have f2 : ∀ r j, r < 10 → j < 16 → W.cell? ⟨1, 16 * r + j, none⟩ = some (.int .u8 ((Bl.tab.getD r []).getD j 0 : Nat)) := by
    intro r j hr hj
    rw [c1, ← Array.getElem?_toList, Nat.mul_comm 16 r, e1 r j hr hj]
    have hl : r < Bl.tab.length := hr
    have hl2 : j < (Bl.tab[r]).length := by
      have h16 : ∀ x ∈ Bl.tab, x.length = 16 := by decide
      rw [h16 _ (List.getElem_mem hl)]
      exact hj
    simp [List.getD, hl, hl2]
  have l1 := cell_lt (f1 0 (by decide))
  have l2 := cell_lt (f2 0 0 (by decide) (by decide))
  refine ⟨f1, f2, ?_⟩
  have l3 : 0 < W.heap.size := l1
  have l4 : 1 < W.heap.size := l2
  omega
end Go.Proofs.YtchbgfgboogniaaDoor
namespace Go.Proofs.YtchbgfgboogniaaDoor
def relay (cs : Array Value) : Obj → Obj
  | .cells _ t frozen => .cells cs t frozen
  | o => o
noncomputable def laidWorld (os : Os) : World :=
  { World.holding Tryd.prog os ⟨#[], #[], []⟩ with heap := ((World.holding Tryd.prog os ⟨#[], #[], []⟩).heap.modify 1 (relay #[.int .u8 0, .int .u8 1, .int .u8 2, .int .u8 3, .int .u8 4, .int .u8 5, .int .u8 6, .int .u8 7, .int .u8 8, .int .u8 9, .int .u8 10, .int .u8 11, .int .u8 12, .int .u8 13, .int .u8 14, .int .u8 15, .int .u8 14, .int .u8 10, .int .u8 4, .int .u8 8, .int .u8 9, .int .u8 15, .int .u8 13, .int .u8 6, .int .u8 1, .int .u8 12, .int .u8 0, .int .u8 2, .int .u8 11, .int .u8 7, .int .u8 5, .int .u8 3, .int .u8 11, .int .u8 8, .int .u8 12, .int .u8 0, .int .u8 5, .int .u8 2, .int .u8 15, .int .u8 13, .int .u8 10, .int .u8 14, .int .u8 3, .int .u8 6, .int .u8 7, .int .u8 1, .int .u8 9, .int .u8 4, .int .u8 7, .int .u8 9, .int .u8 3, .int .u8 1, .int .u8 13, .int .u8 12, .int .u8 11, .int .u8 14, .int .u8 2, .int .u8 6, .int .u8 5, .int .u8 10, .int .u8 4, .int .u8 0, .int .u8 15, .int .u8 8, .int .u8 9, .int .u8 0, .int .u8 5, .int .u8 7, .int .u8 2, .int .u8 4, .int .u8 10, .int .u8 15, .int .u8 14, .int .u8 1, .int .u8 11, .int .u8 12, .int .u8 6, .int .u8 8, .int .u8 3, .int .u8 13, .int .u8 2, .int .u8 12, .int .u8 6, .int .u8 10, .int .u8 0, .int .u8 11, .int .u8 8, .int .u8 3, .int .u8 4, .int .u8 13, .int .u8 7, .int .u8 5, .int .u8 15, .int .u8 14, .int .u8 1, .int .u8 9, .int .u8 12, .int .u8 5, .int .u8 1, .int .u8 15, .int .u8 14, .int .u8 13, .int .u8 4, .int .u8 10, .int .u8 0, .int .u8 7, .int .u8 6, .int .u8 3, .int .u8 9, .int .u8 2, .int .u8 8, .int .u8 11, .int .u8 13, .int .u8 11, .int .u8 7, .int .u8 14, .int .u8 12, .int .u8 1, .int .u8 3, .int .u8 9, .int .u8 5, .int .u8 0, .int .u8 15, .int .u8 4, .int .u8 8, .int .u8 6, .int .u8 2, .int .u8 10, .int .u8 6, .int .u8 15, .int .u8 14, .int .u8 9, .int .u8 11, .int .u8 3, .int .u8 0, .int .u8 8, .int .u8 12, .int .u8 2, .int .u8 13, .int .u8 7, .int .u8 1, .int .u8 4, .int .u8 10, .int .u8 5, .int .u8 10, .int .u8 2, .int .u8 8, .int .u8 4, .int .u8 7, .int .u8 6, .int .u8 1, .int .u8 5, .int .u8 15, .int .u8 11, .int .u8 9, .int .u8 14, .int .u8 3, .int .u8 12, .int .u8 13, .int .u8 0])).modify 0 (relay #[.int .u32 1779033703, .int .u32 3144134277, .int .u32 1013904242, .int .u32 2773480762, .int .u32 1359893119, .int .u32 2600822924, .int .u32 528734635, .int .u32 1541459225]) }
end Go.Proofs.YtchbgfgboogniaaDoor
