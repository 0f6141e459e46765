/-
  LEDGERS: Copy of a ledger of one's own.
-/
import Derived.Test.YtonjpfpdpfonnaaDoorL33
namespace Go.Proofs.YtonjpfpdpfonnaaDoor
open Go.RowKit
namespace Sx
section
variable {P : Program} {Γ : Cx} {σ : St} {Q : Exit → Act → World → Prop}
theorem SW.vecNil {c : Code} {α : Type} {enc : α → List D} {sz : Nat} [Row enc sz] {e cp : Nat} {A : Option Addr} {F : List Nat} {l : List α} (j : Nat) (hj : σ.bx[j]? = some (.r F (vecT e sz enc A cp l))) (hA : A.isNone = true) (h : l = [] → SW P Γ σ c Q) : SW P Γ σ c Q := fun a w hh => by
  refine h ?_ a w hh
  obtain ⟨h1, h2⟩ := own_at (hh.resAt hj) (L' := []) (fun x hx => by cases hx) (fun g hg hx => by cases hx)
  cases l with
  | nil => rfl
  | cons x l =>
    obtain ⟨g, o, e, _⟩ := h2 (by rw [flat_len (enc := enc) (sz := sz)]; exact Nat.mul_pos (by simp) (Row.pos (enc := enc)))
    rw [e] at hA
    cases hA
end
theorem con_mapsCloneL {κ : Type} (enc : κ → Value) (ks : List κ) (f : κ → D) (M : Option Nat) (G : List Nat) : ConR Tryd.prog 54 [.r G (mapF M enc ks f)] [isD (.map M)] (fun t : Option Nat × List Nat => [.r G (mapF M enc ks f), .r t.2 (mapF t.1 enc ks f)]) (fun t => isD (.map t.1)) := by
  refine ⟨enters_of Tryd.func54 (by kernel_rfl) rfl, fun L w vs hL hG hgl hoff hnd hbx ha => ?_⟩
  match vs, ha with
  | [v], ha =>
    obtain rfl : v = .map M := ha.1
    obtain ⟨es, hm, hk, hv⟩ := hbx _ (List.mem_singleton.2 rfl)
    have hm0 := hm
    have fp1 : fps [Box.r G (mapF M enc ks f)] = G := by simp [fps, Box.fp]
    rw [fp1] at hv hnd hoff
    rcases hm with ⟨rfl, rfl, rfl⟩ | ⟨g, ck, rfl, hh, rfl⟩
    · refine (maps_clone_none w).mono fun e w' ⟨he, hw⟩ => ?_
      subst hw
      refine ⟨(none, []), .map none, he, rfl, fun b hb => ?_, by simp [fps, Box.fp], fun g hg => by simp [fps, Box.fp] at hg, Only.refl _ _⟩
      have hb' : b = Box.r [] (mapF none enc ks f) := by simpa using hb
      rw [hb']
      exact ⟨#[], .inl ⟨rfl, rfl, rfl⟩, hk, by simpa [fps, Box.fp] using hv⟩
    · refine (maps_clone_some g es ck w hh).mono fun e w' ⟨he, hw⟩ => ?_
      subst hw
      have hg : g < w.heap.size := (Array.getElem?_eq_some_iff.1 hh).1
      have ho : Only [] w (w.alloc (.map es ck)) := (Only.refl [] w).alloc _
      have fp2 : fps [Box.r [g] (mapF (some g) enc ks f), Box.r [w.heap.size] (mapF (some w.heap.size) enc ks f)] = [g, w.heap.size] := by simp [fps, Box.fp]
      have h1 : All ([g, w.heap.size] ++ L) w (ks.map f) (es.toList.map fun e : MapEntry => e.val) := by
        refine hv.less fun x hx => ?_
        simp at hx
        rcases hx with h | h | h
        · exact .inl (by simp [h])
        · exact .inr (by omega)
        · exact .inl (by simp [h])
      have h2 := h1.keep ho (fun x hx => by cases hx)
      refine ⟨(some w.heap.size, [w.heap.size]), .map (some w.heap.size), he, rfl, fun b hb => ?_, by rw [fp2]; simp; omega, fun x hx => ?_, ho.mono (by simp)⟩
      · rw [fp2]
        simp at hb
        rcases hb with rfl | rfl
        · exact ⟨es, .inr ⟨g, ck, rfl, by rw [(MapKept.heap_alloc w _).2 g hg]; exact hh, rfl⟩, hk, h2⟩
        · exact ⟨es, .inr ⟨w.heap.size, ck, rfl, (MapKept.heap_alloc w _).1, rfl⟩, hk, h2⟩
      · rw [fp2] at hx
        rw [fp1]
        simp at hx
        rcases hx with h | h
        · exact .inl (by simp [h])
        · exact .inr (by omega)
set_option maxHeartbeats 4000000 in
set_option maxRecDepth 100000 in
theorem con_cloneEL (l : List Led.Ent) (hl : l.length ≤ 1000000) (s : Vst) : ConR Tryd.prog 53 [.r s.F (vecT 44 2 encE s.A s.c (l))] [isD (.slice s.A l.length s.c)] (fun t : Vst => [.r s.F (vecT 44 2 encE s.A s.c (l)), .r t.F (vecT 44 2 encE t.A t.c (l))]) (fun t : Vst => isD (.slice t.A l.length t.c)) := by
  refine con_ofR Tryd.func53 (by kernel_rfl) rfl (by kernel_rfl) fun base w0 => ?_
  refine SW.seq ?_
  refine SW.region ?_
  refine SWl.rd rfl (Rd.assign rfl) ?_
  refine SWl.nil ?_
  refine SN.then ?_
  refine SW.seq ?_
  refine SW.seq ?_
  refine SW.region ?_
  refine SWl.rd rfl (Rd.move rfl) ?_
  refine SWl.rd rfl (Rd.eqN (e := 44) rfl rfl (by kernel_rfl)) ?_
  refine SWl.nil ?_
  refine SN.then ?_
  refine SW.cond rfl (fun hb4 => ?_) (fun hb4 => ?_)
  · refine SW.vecNil 0 rfl hb4 fun hz => ?_
    refine SW.seq ?_
    refine SW.vecN 44 2 encE ?_
    refine SW.region ?_
    refine SWl.rd rfl (Rd.assign rfl) ?_
    refine SWl.nil ?_
    refine SN.then ?_
    refine SW.retR (fn := Tryd.f53) (⟨none, 0, []⟩) [0, 1] (fun _ _ h => h) (Rs.le (Rs.one rfl (ResV.tmp rfl)) ?_) (by decide) ⟨⟨_, rfl, LeR.refl _⟩, ⟨⟨_, rfl, leVec (by rw [hz]) (by rw [hz])⟩, trivial⟩⟩
    exact Le.is (by rw [hz]; rfl)
  · skip
    refine SW.skip ?_
    refine SN.then ?_
    refine SW.seq ?_
    refine SW.region ?_
    refine SWl.ef (S := []) (Ef.lit0 (e := 44) encE 2 32 (by kernel_rfl) (by kernel_rfl) rfl) ?_
    rintro _ ⟨g5, rfl⟩
    refine SWl.rd rfl (Rd.move rfl) ?_
    refine SWl.ef (Ef.appT 1 2 32 rfl rfl (SrcT.vec 0 rfl rfl) (by kernel_rfl) (by kernel_rfl) (by simp <;> omega) (by decide) (fun _ h => h) rfl) ?_
    rintro _ ⟨A7, F7, c7, rfl⟩
    refine SWl.rd rfl (Rd.assign rfl) ?_
    refine SWl.nil ?_
    refine SN.then ?_
    refine SW.retR (fn := Tryd.f53) (⟨A7, c7, F7⟩) [0, 1] (fun _ _ h => h) (Rs.le (Rs.one rfl (ResV.tmp rfl)) ?_) (by decide) ⟨⟨_, rfl, LeR.refl _⟩, ⟨⟨_, rfl, LeR.refl _⟩, trivial⟩⟩
    exact Le.refl _
set_option maxHeartbeats 4000000 in
set_option maxRecDepth 100000 in
theorem con_copyL (gl : Nat) (s : Lst) (es : List Led.Ent) (hl : es.length ≤ 1000000) : ConR Tryd.prog 29 [.c gl [isD (.slice s.A (es).length s.c), isD (.map s.M)], ledE s (es), ledM s (es)] [isD (.pointer (some ⟨gl, 0, none⟩))] (fun t : Nat × Lst => [.c gl [isD (.slice s.A (es).length s.c), isD (.map s.M)], ledE s (es), ledM s (es), .c t.1 [isD (.slice t.2.A (es).length t.2.c), isD (.map t.2.M)], ledE t.2 (es), ledM t.2 (es)]) (fun t : Nat × Lst => isD (.pointer (some ⟨t.1, 0, none⟩))) := by
  refine con_ofR Tryd.func29 (by kernel_rfl) rfl (by kernel_rfl) fun base w0 => ?_
  refine SW.seq ?_
  refine SW.region ?_
  refine SWl.rd rfl (Rd.assign rfl) ?_
  refine SWl.nil ?_
  refine SN.then ?_
  refine SW.seq ?_
  refine SW.seq ?_
  refine SW.region ?_
  refine SWl.rd rfl (Rd.move rfl) ?_
  refine SWl.rd rfl (Rd.eqP rfl rfl (by kernel_rfl)) ?_
  refine SWl.nil ?_
  refine SN.then ?_
  refine SW.condF rfl (rfl) ?_
  refine SW.skip ?_
  refine SN.then ?_
  refine SW.seq ?_
  refine SW.draw (s.F ++ (s.G ++ [])) (.r 0 (.r 1 (.r 2 (.r 3 (.r 5 (.r 6 (.r 7 (.r 8 (.e 4 (.e 9 (.r 10 (.n 11 (.r 12 .fin) .no)) .no) .no))))))))) (by kernel_rfl) (by kernel_rfl) (fun d _ _ _ _ h => by cases d <;> exact h) ?_
  refine SWz.rd (i := 0) rfl rfl (Rd.move rfl) ?_
  refine SWz.rd (i := 1) rfl rfl (Rd.nilCheck rfl) ?_
  refine SWz.rd (i := 2) rfl rfl (Rd.fieldAddr (n := 0) rfl (by kernel_rfl)) ?_
  refine SWz.rd (i := 3) rfl rfl (Rd.loadB 0 rfl rfl rfl (by kernel_rfl) (ap_app 1 rfl (by decide) (ap_app 2 rfl (by decide) ap_nil))) ?_
  refine SWz.rd (i := 5) rfl rfl (Rd.move rfl) ?_
  refine SWz.rd (i := 6) rfl rfl (Rd.nilCheck rfl) ?_
  refine SWz.rd (i := 7) rfl rfl (Rd.fieldAddr (n := 1) rfl (by kernel_rfl)) ?_
  refine SWz.rd (i := 8) rfl rfl (Rd.loadB 0 rfl rfl rfl (by kernel_rfl) (ap_app 1 rfl (by decide) (ap_app 2 rfl (by decide) ap_nil))) ?_
  refine SWz.efe (i := 4) rfl (Ef.callR [1] (con_cloneEL es hl ⟨s.A, s.c, s.F⟩) rfl ⟨Le.refl _, trivial⟩ (by decide) ⟨⟨_, rfl, LeR.refl _⟩, trivial⟩ (fin_r (fun _ h => List.mem_append_left _ h) fin_nil) rfl) ?_ SWz.no
  rintro _ ⟨s9, rfl⟩
  refine SWz.efe (i := 9) rfl (Ef.callR [1] (con_mapsCloneL encN (Led.keys es.length) (mkeys es) s.M s.G) rfl ⟨Le.refl _, trivial⟩ (by decide) ⟨⟨_, rfl, LeR.refl _⟩, trivial⟩ (fin_r (fun _ h => List.mem_append_right _ (List.mem_append_left _ h)) fin_nil) rfl) ?_ SWz.no
  rintro _ ⟨s14, rfl⟩
  refine SWz.rd (i := 10) rfl rfl (Rd.build rfl rfl bldL2) ?_
  refine SWz.efn (i := 11) rfl (Ef.boxA rfl rfl) ?_ SWz.no
  rintro _ ⟨g16, rfl⟩
  refine SWz.rd (i := 12) rfl rfl (Rd.assign rfl) ?_
  refine SWz.nil ?_
  refine SN.then ?_
  refine SW.retR (fn := Tryd.f29) (((g16, ⟨s9.A, s9.c, s9.F, s14.1, s14.2⟩) : Nat × Lst)) [0, 1, 3, 5, 2, 4] (fun _ _ h => h) (Rs.one rfl (ResV.tmp rfl)) (by decide) ⟨⟨_, rfl, LeAll.refl _⟩, ⟨⟨_, rfl, LeR.refl _⟩, ⟨⟨_, rfl, LeR.refl _⟩, ⟨⟨_, rfl, LeAll.refl _⟩, ⟨⟨_, rfl, LeR.refl _⟩, ⟨⟨_, rfl, LeR.refl _⟩, trivial⟩⟩⟩⟩⟩⟩
end Sx
end Go.Proofs.YtonjpfpdpfonnaaDoor
