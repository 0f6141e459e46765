/-
  LEDGERS: clones of one's own, the iterator.
-/
import Derived.Test.YtonjpfpdpfonnaaDoorL14
import Derived.Test.YtonjpfpdpfonnaaDoorGV
namespace Go.Proofs.YtonjpfpdpfonnaaDoor
open Go.RowKit
namespace Sx
section
variable {P : Program} {Γ : Cx} {σ : St} {Q : Exit → Act → World → Prop} {a : Act} {w : World}
def funcT (P : Program) (T : Nat) : Bool := match P.underlying T with | some (.func _ _ _) => true | _ => false
theorem run_equalIn_func (d : Nat) {T : Nat} {f : Fn} {x y : Array Value} {w : World} (hT : funcT P T = true) : (Op.equalIn (d + 1) T (.func f x y) .nilFunc).run P w = .ok false w := by
  unfold funcT at hT
  split at hT
  · rename_i q r z hu
    simp [Op.equalIn, run_underlying hu]
  · cases hT
theorem run_equal_func {T : Nat} {f : Fn} {x y : Array Value} {w : World} (hT : funcT P T = true) : (Op.equal T (.func f x y) .nilFunc).run P w = .ok false w := run_equalIn_func 9999 hT
end
def itemsE (l : List Led.Ent) : List (Nat × Led.Ent) := l.mapIdx fun i e => (i, e)
theorem itemsE_len (l : List Led.Ent) : (itemsE l).length = l.length := by simp [itemsE]
theorem itemsE_get {l : List Led.Ent} {i : Nat} {e : Led.Ent} (h : l[i]? = some e) : (itemsE l)[i]? = some (i, e) := by simp [itemsE, List.getElem?_mapIdx, h]
theorem itemsE_inv {l : List Led.Ent} {i j : Nat} {e : Led.Ent} (h : (itemsE l)[i]? = some (j, e)) : j = i ∧ l[i]? = some e := by
  simp only [itemsE, List.getElem?_mapIdx, Option.map_eq_some_iff, Prod.mk.injEq] at h
  obtain ⟨x, h1, h2, h3⟩ := h
  subst h3
  exact ⟨h2.symm, h1⟩
def ibE (x : Nat × Led.Ent) (k : Vst) : List Box := [.r k.F (vecT 5 1 encB k.A k.c x.2.bytes)]
def ddE (x : Nat × Led.Ent) (k : Vst) : List D := [iD x.1, aggD [iD x.2.kind, isD (.slice k.A x.2.bytes.length k.c)]]
set_option maxHeartbeats 4000000 in
set_option maxRecDepth 100000 in
theorem con_cloneBO (b : List UInt8) (hb : b.length ≤ 1000000) : ConR Tryd.prog 37 [] [bD b] (fun t : Vst => [.r t.F (vecT 5 1 encB t.A t.c b)]) (fun t : Vst => isD (.slice t.A b.length t.c)) := by
  refine con_ofR Tryd.func37 (by kernel_rfl) rfl (by kernel_rfl) fun base w0 => ?_
  refine SW.seq ?_
  refine SW.lookB 0 rfl fun A c => ?_
  refine SW.region ?_
  refine SWl.rd rfl (Rd.assign rfl) ?_
  refine SWl.nil ?_
  refine SN.then ?_
  refine SW.seq ?_
  refine SW.seq ?_
  refine SW.region ?_
  refine SWl.rd rfl (Rd.move rfl) ?_
  refine SWl.rd rfl (Rd.eqN (e := 5) rfl rfl (by kernel_rfl)) ?_
  refine SWl.nil ?_
  refine SN.then ?_
  refine SW.cond rfl (fun hb4 => ?_) (fun hb4 => ?_)
  · refine SW.viewN 0 rfl hb4 fun hnil => ?_
    refine SW.seq ?_
    refine SW.vecN 5 1 encB ?_
    refine SW.region ?_
    refine SWl.rd rfl (Rd.assign rfl) ?_
    refine SWl.nil ?_
    refine SN.then ?_
    refine SW.retR (fn := Tryd.f37) (⟨none, 0, []⟩) [1] (fun _ _ h => h) (Rs.le (Rs.one rfl (ResV.tmp rfl)) ?_) (by decide) ⟨⟨_, rfl, leVec (by rw [hnil]) (by rw [hnil])⟩, trivial⟩
    exact Le.is (by rw [hnil]; rfl)
  · skip
    refine SW.skip ?_
    refine SN.then ?_
    refine SW.seq ?_
    refine SW.region ?_
    refine SWl.ef (S := []) (Ef.lit0 (e := 5) encB 1 1 (by kernel_rfl) (by kernel_rfl) rfl) ?_
    rintro _ ⟨g5, rfl⟩
    refine SWl.rd rfl (Rd.move rfl) ?_
    refine SWl.ef (Ef.appT 1 1 1 rfl rfl (SrcT.view 0 rfl rfl) (by kernel_rfl) (by kernel_rfl) (by simp <;> omega) (by decide) (fun _ h => h) rfl) ?_
    rintro _ ⟨A7, F7, c7, rfl⟩
    refine SWl.rd rfl (Rd.assign rfl) ?_
    refine SWl.nil ?_
    refine SN.then ?_
    refine SW.retR (fn := Tryd.f37) (⟨A7, c7, F7⟩) [1] (fun _ _ h => h) (Rs.le (Rs.one rfl (ResV.tmp rfl)) ?_) (by decide) ⟨⟨_, rfl, LeR.refl _⟩, trivial⟩
    exact Le.refl _
set_option maxHeartbeats 4000000 in
set_option maxRecDepth 100000 in
theorem con_cloneO (k : Int) (b : List UInt8) (hb : b.length ≤ 1000000) : ConR Tryd.prog 47 [] [aggD [iD k, bD b]] (fun t : Vst => [.r t.F (vecT 5 1 encB t.A t.c b)]) (fun t : Vst => aggD [iD k, isD (.slice t.A b.length t.c)]) := by
  refine con_ofR Tryd.func47 (by kernel_rfl) rfl (by kernel_rfl) fun base w0 => ?_
  refine SW.seq ?_
  refine SW.region ?_
  refine SWl.ef (S := []) (Ef.boxA rfl rfl) ?_
  rintro _ ⟨g1, rfl⟩
  refine SWl.ef (S := []) (Ef.alloc (zs := [.int .i64 0, .slice none 0 0]) (by kernel_rfl) rfl) ?_
  rintro _ ⟨g2, rfl⟩
  refine SWl.nil ?_
  refine SN.then ?_
  refine SW.seq ?_
  refine SW.draw (g2 :: []) (.r 0 (.r 1 (.r 2 (.r 3 (.n 4 (.r 5 (.e 6 .fin .no)) .no))))) (by kernel_rfl) (by kernel_rfl) (fun d _ _ _ _ h => by cases d <;> exact h) ?_
  refine SWz.rd (i := 0) rfl rfl (Rd.fieldAddr (n := 0) rfl (by kernel_rfl)) ?_
  refine SWz.rd (i := 1) rfl rfl (Rd.loadB 0 rfl rfl rfl (by kernel_rfl) (ap_cons 1 rfl (by decide) ap_nil)) ?_
  refine SWz.rd (i := 2) rfl rfl (Rd.fieldAddr (n := 1) rfl (by kernel_rfl)) ?_
  refine SWz.rd (i := 3) rfl rfl (Rd.loadB 0 rfl rfl rfl (by kernel_rfl) (ap_cons 1 rfl (by decide) ap_nil)) ?_
  refine SWz.efl (i := 4) rfl (EfL.callR (con_cloneBO b hb) rfl ⟨Le.refl _, trivial⟩ rfl) ?_ SWz.no
  rintro _ _ ⟨s7, rfl, rfl⟩
  refine SWz.rd (i := 5) rfl rfl (Rd.build rfl rfl bldE2) ?_
  refine SWz.efe (i := 6) rfl (Ef.storeA 1 rfl rfl rfl (by kernel_rfl) rfl (List.mem_append_left _ (List.mem_cons_self))) ?_ SWz.no
  rintro _ rfl
  refine SWz.nil ?_
  refine SN.then ?_
  refine SW.retR (fn := Tryd.f47) (s7) [2] (fun _ _ h => h) (Rs.one rfl (ResV.cellA 1 rfl rfl (by kernel_rfl))) (by decide) ⟨⟨_, rfl, LeR.refl _⟩, trivial⟩
set_option maxHeartbeats 4000000 in
set_option maxRecDepth 100000 in
theorem con_entries_it (l : List Led.Ent) (hl : l.length ≤ 1000000) (hb : ∀ e ∈ l, e.bytes.length ≤ 1000000) (J Jx : Nat → Res) (y : Nat) (hy : ∀ (i : Nat) (x : Nat × Led.Ent) (k : Vst) (F : List Nat), (itemsE l)[i]? = some x → ConY Tryd.prog y (.r F (J i) :: ibE x k) (ddE x k) (fun t : List Nat × Bool => [.r t.1 (if t.2 = true then J (i + 1) else Jx (i + 1))]) (fun t => t.2)) (F : List Nat) : ConR Tryd.prog 48 [.r F (J 0)] [isD (.func (.yield y) #[] #[]), paD [lsD encE l]] (fun t : List Nat × Option Nat => [.r t.1 (match t.2 with | none => J (itemsE l).length | some i => Jx (i + 1))]) (fun t : List Nat × Option Nat => isD (.tuple #[])) := by
  refine con_ofR Tryd.func48 (by kernel_rfl) rfl (by kernel_rfl) fun base w0 => ?_
  refine SW.seq ?_
  refine SW.region ?_
  refine SWl.rd rfl (Rd.loadR rfl rfl (by kernel_rfl) (by simp)) ?_
  refine SWl.rd rfl (Rd.lenR (e := 44) rfl (by kernel_rfl)) ?_
  refine SWl.rd rfl (Rd.move rfl) ?_
  refine SWl.nil ?_
  refine SN.then ?_
  refine SW.block ?_
  refine SW.loop (ι := {p : Nat × List Nat // p.1 ≤ l.length}) (fun p => St.ob [(0, isD (.func (.yield y) #[] #[])), (5, lsD encE l), (6, iD (l.length : Int)), (7, iD (p.1.1 : Int))] [.r p.1.2 (J p.1.1)]) (fun p => l.length - p.1.1) (⟨(0, F), by simp⟩) ?_ ?_
  · exact ⟨⟨_, rfl, ⟨⟨_, rfl, Le.refl _⟩, ⟨⟨_, rfl, Le.refl _⟩, ⟨⟨_, rfl, Le.refl _⟩, ⟨⟨_, rfl, Le.refl _⟩, trivial⟩⟩⟩⟩⟩, [0], by decide, ⟨⟨_, rfl, LeR.refl _⟩, trivial⟩⟩
  · rintro ⟨⟨i, G⟩, hi⟩ K0 hK0
    dsimp only at hi ⊢
    refine SW.seq ?_
    refine SW.region ?_
    refine SWl.rd rfl (Rd.lss rfl rfl) ?_
    refine SWl.nil ?_
    refine SN.then ?_
    refine SW.seq ?_
    refine SW.cond rfl (fun hb8 => ?_) (fun hb8 => ?_)
    · have hb8 := of_decide_eq_true hb8
      refine SW.skip ?_
      refine SN.then ?_
      refine SW.seq ?_
      refine SW.block ?_
      refine SW.seq ?_
      refine SW.region ?_
      refine SWl.rd rfl (Rd.move rfl) ?_
      obtain ⟨e, he⟩ : ∃ e, l[i]? = some e := ⟨_, List.getElem?_eq_getElem (by omega)⟩
      refine SWl.rd rfl (Rd.idxL (e := 44) 2 rfl rfl (by kernel_rfl) (by kernel_rfl) (by omega) (by simpa using he)) ?_
      refine SWl.rd rfl (Rd.loadRA 2 rfl (by kernel_rfl) (by decide) (show 2 ≤ 2 by decide) (by simp)) ?_
      refine SWl.ef (S := []) (Ef.alloc (zs := [.int .i64 0, .slice none 0 0]) (by kernel_rfl) rfl) ?_
      rintro _ ⟨g4, rfl⟩
      refine SWl.rd rfl (Rd.assign rfl) ?_
      refine SWl.ef (S := [_]) (Ef.storeA 1 rfl rfl rfl (by kernel_rfl) rfl (List.mem_singleton.2 rfl)) ?_
      rintro _ rfl
      refine SWl.nil ?_
      refine SN.then ?_
      refine SW.seq ?_
      refine SW.regionK ?_
      refine SWk.rd rfl (Rd.move rfl) ?_
      refine SWk.rd rfl (Rd.move rfl) ?_
      refine SWk.rd rfl (Rd.loadA 1 2 rfl rfl (by kernel_rfl) rfl ap_nil) ?_
      refine SWk.ef (S := []) (Ef.callR [] (con_cloneO e.kind e.bytes (hb e (List.mem_of_getElem? he))) rfl ⟨Le.refl _, trivial⟩ (by decide) trivial (fun _ h => h) rfl) ?_
      rintro _ ⟨s15, rfl⟩
      refine SWk.yield [0, 2] (hy i (i, e) s15 G (itemsE_get he)) rfl rfl ⟨Le.refl _, Le.refl _, trivial⟩ (by decide) ⟨⟨_, rfl, LeR.refl _⟩, ⟨⟨_, rfl, LeR.refl _⟩, trivial⟩⟩ rfl ?_
      rintro ⟨G2, b⟩
      refine SWk.rd rfl (Rd.not rfl) ?_
      refine SWk.nil ?_
      refine SN.then ?_
      refine SW.cond rfl (fun hb17 => ?_) (fun hb17 => ?_)
      · obtain rfl : b = false := by simpa using hb17
        refine SW.retR (fn := Tryd.f48) (((G2, some i) : List Nat × Option Nat)) [1] (fun _ _ h => h) (Rs.none rfl) (by decide) ⟨⟨_, rfl, LeR.refl _⟩, trivial⟩
      · obtain rfl : b = true := by simpa using hb17
        refine SW.skip ?_
        refine SN.block ?_
        refine SN.then ?_
        refine SW.region ?_
        refine SWl.rd rfl (Rd.add rfl rfl ⟨by omega, by omega⟩) ?_
        refine SWl.rd rfl (Rd.move rfl) ?_
        refine SWl.nil ?_
        exact fun a w hh => hK0 (⟨(i + 1, G2), by simp only; omega⟩) (by simp only; omega) a w (hh.sub (⟨⟨_, rfl, ⟨⟨_, rfl, Le.refl _⟩, ⟨⟨_, rfl, Le.refl _⟩, ⟨⟨_, rfl, Le.refl _⟩, ⟨⟨_, rfl, Le.refl _⟩, trivial⟩⟩⟩⟩⟩, [1], by decide, ⟨⟨_, rfl, LeR.refl _⟩, trivial⟩⟩))
    · have hb8 := of_decide_eq_false hb8
      refine SW.exit' ?_
      repeat (first | refine SE.then ?_ | refine SE.skip (by decide) ?_)
      refine SE.here ?_
      refine SN.retR (fn := Tryd.f48) (((G, none) : List Nat × Option Nat)) [0] (Rs.none rfl) (by decide) ⟨⟨_, rfl, (by rw [itemsE_len, show l.length = i by omega]; exact LeR.refl _)⟩, trivial⟩
theorem con_entries_seq (l : List Led.Ent) (hl : l.length ≤ 1000000) (hb : ∀ e ∈ l, e.bytes.length ≤ 1000000) : Seq Tryd.prog 48 [paD [lsD encE l]] ibE ddE (itemsE l) := fun J Jx y hy F => con_entries_it l hl hb J Jx y hy F
theorem entries_en : enters Tryd.prog 48 := enters_of Tryd.func48 (by kernel_rfl) rfl
end Sx
end Go.Proofs.YtonjpfpdpfonnaaDoor
