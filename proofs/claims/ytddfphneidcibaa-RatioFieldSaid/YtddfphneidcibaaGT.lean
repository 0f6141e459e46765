/-
  THE WALKS of ratio's calculate, Add, Sub, Mul, Quo.
  THE WALKS of the reference's Limited, Add, Mul, Quo of Ratios.
-/
import Derived.Test.YtddfphneidcibaaGQ
namespace Go.Proofs.Ytddfphneidcibaa
open Go.RowKit
open Nm (W32)
namespace Sx
/-- A step of a calculation behind a failure. -/
def apE (f e : Int) : Int := if f = 0 then e else f
def apZ (f z : Int) : Int := if f = 0 then z else 0
theorem apE_yes {f e : Int} (h : f = 0) : apE f e = e := if_pos h
theorem apE_no {f e : Int} (h : ¬ f = 0) : apE f e = f := if_neg h
theorem apZ_yes {f e : Int} (h : f = 0) : apZ f e = e := if_pos h
theorem apZ_no {f e : Int} (h : ¬ f = 0) : apZ f e = 0 := if_neg h
theorem apE_eq0 {f e : Int} (h : apE f e = 0) : f = 0 ∧ e = 0 := by
  by_cases hf : f = 0
  · rw [apE_yes hf] at h; exact ⟨hf, h⟩
  · rw [apE_no hf] at h; exact absurd h hf
theorem lim_lt (z : Int) : (limZ z).natAbs < big512 := by
  by_cases h : z.natAbs < big512
  · rw [(lim_ok h).1]; exact h
  · rw [(lim_no h).1]; exact Nat.lt_trans (by decide) one512
theorem apZ_lt {f z : Int} (h : z.natAbs < big512) : (apZ f z).natAbs < big512 := by
  unfold apZ
  split
  · exact h
  · exact Nat.lt_trans (by decide) one512
theorem limE_0 {z : Int} (h : limE z = 0) : z.natAbs < big512 := Classical.byContradiction fun hn => by rw [(lim_no hn).2] at h; cases h
theorem limE_7 {z : Int} (h : limE z ≠ 0) : limE z = 7 ∧ ¬ z.natAbs < big512 := by
  by_cases hz : z.natAbs < big512
  · exact absurd (lim_ok hz).2 h
  · exact ⟨(lim_no hz).2, hz⟩
/-- A calculation all of whose steps must fit. -/
def fits (l : List Int) : Bool := l.all fun z => decide (z.natAbs < big512)
def qN (l : List Int) (n d : Int) : Int := if fits l = true then rn n d else 0
def qD (l : List Int) (n d : Int) : Int := if fits l = true then rd n d else 0
def qE (l : List Int) : Int := if fits l = true then 0 else 7
theorem fits_mem {l : List Int} {z : Int} (hf : fits l = true) (h : z ∈ l) : z.natAbs < big512 := by
  have := List.all_eq_true.1 hf z h
  simpa using this
theorem fits_two {n d : Int} (h : apE (apE 0 (limE n)) (limE d) = 0) : fits [n, d] = true ∧ apZ 0 (limZ n) = n ∧ apZ (apE 0 (limE n)) (limZ d) = d := by
  obtain ⟨h1, h2⟩ := apE_eq0 h
  have h3 := (apE_eq0 h1).2
  have f1 := limE_0 h3
  have f2 := limE_0 h2
  refine ⟨by simp [fits, f1, f2], by rw [apZ_yes rfl, (lim_ok f1).1], by rw [apZ_yes h1, (lim_ok f2).1]⟩
theorem full_two {n d : Int} (h : ¬ apE (apE 0 (limE n)) (limE d) = 0) : fits [n, d] = false ∧ apE (apE 0 (limE n)) (limE d) = 7 := by
  by_cases h1 : limE n = 0
  · rw [apE_yes (rfl : (0 : Int) = 0), apE_yes h1] at *
    have := limE_7 h
    exact ⟨by simp [fits, this.2], this.1⟩
  · rw [apE_yes (rfl : (0 : Int) = 0), apE_no h1] at *
    have := limE_7 h1
    exact ⟨by simp [fits, this.2], this.1⟩
section
variable {x y d : Int} {jn : Int → Int → Int}
abbrev f2 (x y : Int) : Int := apE (apE 0 (limE x)) (limE y)
abbrev f3 (jn : Int → Int → Int) (x y : Int) : Int := apE (f2 x y) (limE (jn (apZ 0 (limZ x)) (apZ (apE 0 (limE x)) (limZ y))))
abbrev f4 (jn : Int → Int → Int) (x y d : Int) : Int := apE (f3 jn x y) (limE d)
theorem fits_four (h : f4 jn x y d = 0) : fits [x, y, jn x y, d] = true ∧ apZ (f2 x y) (limZ (jn (apZ 0 (limZ x)) (apZ (apE 0 (limE x)) (limZ y)))) = jn x y ∧ apZ (f3 jn x y) (limZ d) = d := by
  obtain ⟨h1, h2⟩ := apE_eq0 h
  obtain ⟨h3, h4⟩ := apE_eq0 h1
  obtain ⟨f1, e1, e2⟩ := fits_two h3
  rw [e1, e2] at h4
  have f4 := limE_0 h4
  have f5 := limE_0 h2
  refine ⟨?_, ?_, by rw [apZ_yes h1, (lim_ok f5).1]⟩
  · simp [fits] at f1 ⊢
    exact ⟨f1.1, f1.2, f4, f5⟩
  · rw [apZ_yes h3, e1, e2, (lim_ok f4).1]
theorem full_four (h : ¬ f4 jn x y d = 0) : fits [x, y, jn x y, d] = false ∧ f4 jn x y d = 7 := by
  by_cases h1 : f2 x y = 0
  · obtain ⟨f1, e1, e2⟩ := fits_two h1
    have e3 : f3 jn x y = limE (jn x y) := by unfold f3; rw [apE_yes h1, e1, e2]
    have e4 : f4 jn x y d = apE (limE (jn x y)) (limE d) := by unfold f4; rw [e3]
    rw [e4] at h ⊢
    by_cases h2 : limE (jn x y) = 0
    · rw [apE_yes h2] at h ⊢
      have := limE_7 h
      exact ⟨by simp [fits, this.2], this.1⟩
    · rw [apE_no h2] at h ⊢
      have := limE_7 h2
      exact ⟨by simp [fits, this.2], this.1⟩
  · obtain ⟨f1, e1⟩ := full_two h1
    have h2 : f3 jn x y = 7 := by unfold f3; rw [apE_no h1]; exact e1
    unfold f4
    rw [apE_no (by rw [h2]; decide), h2]
    refine ⟨?_, rfl⟩
    simp [fits] at f1 ⊢
    intro hx hy
    exact absurd (f1 hx) (by omega)
theorem calc_four {F1 F2 F3 F4 Z1 Z2 Z3 Z4 : Int} (hF1 : apE 0 (limE x) = F1) (hZ1 : apZ 0 (limZ x) = Z1) (hF2 : apE F1 (limE y) = F2) (hZ2 : apZ F1 (limZ y) = Z2) (hF3 : apE F2 (limE (jn Z1 Z2)) = F3) (hZ3 : apZ F2 (limZ (jn Z1 Z2)) = Z3) (hF4 : apE F3 (limE d) = F4) (hZ4 : apZ F3 (limZ d) = Z4) :
    (F4 = 0 → fits [x, y, jn x y, d] = true ∧ Z3 = jn x y ∧ Z4 = d) ∧ (¬ F4 = 0 → fits [x, y, jn x y, d] = false ∧ F4 = 7) := by
  subst hF1 hZ1 hF2 hZ2 hF3 hZ3 hF4 hZ4
  exact ⟨fits_four, full_four⟩
theorem calc_two {n d F1 F2 Z1 Z2 : Int} (hF1 : apE 0 (limE n) = F1) (hZ1 : apZ 0 (limZ n) = Z1) (hF2 : apE F1 (limE d) = F2) (hZ2 : apZ F1 (limZ d) = Z2) :
    (F2 = 0 → fits [n, d] = true ∧ Z1 = n ∧ Z2 = d) ∧ (¬ F2 = 0 → fits [n, d] = false ∧ F2 = 7) := by
  subst hF1 hZ1 hF2 hZ2
  exact ⟨fits_two, full_two⟩
end
theorem Good.mul0 {a b c e : Int} (h : Good a b) (k : Good c e) : b * e ≠ 0 := Int.mul_ne_zero h.d0 k.d0
set_option maxHeartbeats 4000000 in
set_option maxRecDepth 100000 in
theorem con_apply {g : Nat} {F : FuncId} {x y z e f E Z : Int} (hE : apE f e = E) (hZ : apZ f z = Z) (hop : f = 0 → Con Try.prog F [intD x, intD y] (tupD [intD z, errD e])) : ConB Try.prog 120 g ([errD f]) ([errD E]) [isD (.func (.func F) #[] #[]), intD x, intD y, isD (.pointer (some ⟨g, 0, none⟩))] (intD Z) := by
  refine con_ofB Try.func120 (by kernel_rfl) rfl (by kernel_rfl) fun base w0 => ?_
  refine SW.seq ?_
  refine SW.region ?_
  refine SWl.ef (S := []) (Ef.boxA rfl rfl) ?_
  rintro _ ⟨g5, rfl⟩
  refine SWl.ef (S := []) (Ef.boxA rfl rfl) ?_
  rintro _ ⟨g6, rfl⟩
  refine SWl.ef (S := []) (Ef.alloc (zs := [.bool false, .slice none 0 0]) (by kernel_rfl) rfl) ?_
  rintro _ ⟨g7, rfl⟩
  refine SWl.nil ?_
  refine SN.then ?_
  refine SW.seq ?_
  refine SW.seq ?_
  refine SW.region ?_
  refine SWl.rd rfl (Rd.loadB 0 rfl rfl rfl (by kernel_rfl) trivial) ?_
  refine SWl.rd rfl (Rd.nei rfl rfl) ?_
  refine SWl.nil ?_
  refine SN.then ?_
  refine SW.cond rfl (fun hb10 => ?_) (fun hb10 => ?_)
  · have hf : ¬ f = 0 := by simpa using hb10
    refine SW.seq ?_
    refine SW.region ?_
    refine SWl.rd rfl (Rd.build rfl rfl bldI0) ?_
    refine SWl.ef (S := [_]) (Ef.storeA 3 rfl rfl rfl (by kernel_rfl) rfl (List.mem_singleton.2 rfl)) ?_
    rintro _ rfl
    refine SWl.nil ?_
    refine SN.then ?_
    refine SW.retB (fn := Try.f120) (fun _ _ h => h) (Rs.le (Rs.one rfl (ResV.cellA 3 rfl rfl (by kernel_rfl))) ?_) rfl ?_
    · exact le_int0.trans (le_int ((apZ_no hf).symm.trans hZ))
    · exact ⟨le_err ((apE_no hf).symm.trans hE), trivial⟩
  · have hf : f = 0 := by simpa using hb10
    refine SW.skip ?_
    refine SN.then ?_
    refine SW.seq ?_
    refine SW.region ?_
    refine SWl.ef (S := []) (Ef.alloc (zs := [.bool false, .slice none 0 0]) (by kernel_rfl) rfl) ?_
    rintro _ ⟨g8, rfl⟩
    refine SWl.nil ?_
    refine SN.then ?_
    refine SW.seq ?_
    refine SW.region ?_
    refine SWl.rd rfl (Rd.move rfl) ?_
    refine SWl.rd rfl (Rd.loadA 1 2 rfl rfl (by kernel_rfl) rfl trivial) ?_
    refine SWl.rd rfl (Rd.loadA 2 2 rfl rfl (by kernel_rfl) rfl trivial) ?_
    refine SWl.ef (S := []) (Ef.callV (cap := []) (hop hf) rfl rfl ⟨Le.refl _, Le.refl _, trivial⟩ rfl) ?_
    rintro _ rfl
    refine SWl.rd rfl (Rd.move rfl) ?_
    refine SWl.rd rfl (Rd.extract rfl rfl) ?_
    refine SWl.rd rfl (Rd.extract rfl rfl) ?_
    refine SWl.ef (S := [_]) (Ef.storeA 4 rfl rfl rfl (by kernel_rfl) rfl (List.mem_singleton.2 rfl)) ?_
    rintro _ rfl
    refine SWl.ef (S := [_]) (Ef.storeV 0 rfl rfl rfl (by kernel_rfl) rfl (List.mem_singleton.2 rfl)) ?_
    rintro _ rfl
    refine SWl.nil ?_
    refine SN.then ?_
    refine SW.seq ?_
    refine SW.region ?_
    refine SWl.rd rfl (Rd.loadA 4 2 rfl rfl (by kernel_rfl) rfl trivial) ?_
    refine SWl.ef (S := [_]) (Ef.storeA 3 rfl rfl rfl (by kernel_rfl) rfl (List.mem_singleton.2 rfl)) ?_
    rintro _ rfl
    refine SWl.nil ?_
    refine SN.then ?_
    refine SW.retB (fn := Try.f120) (fun _ _ h => h) (Rs.le (Rs.one rfl (ResV.cellA 3 rfl rfl (by kernel_rfl))) ?_) rfl ?_
    · exact le_int ((apZ_yes hf).symm.trans hZ)
    · exact ⟨le_err ((apE_yes hf).symm.trans hE), trivial⟩
abbrev mulF : Value := .func (.func 46) #[] #[]
abbrev addF : Value := .func (.func 44) #[] #[]
abbrev subF : Value := .func (.func 45) #[] #[]
theorem bldU1 {a b : Nat} : Bld Try.prog 111 [0, 1] [isD (.func (.func a) #[] #[]), isD (.func (.func b) #[] #[])] [isD (.func (.func a) #[] #[]), isD (.func (.func b) #[] #[])] := fun L w vs h => by
  obtain ⟨u, v, rfl, rfl, rfl⟩ := all2 h
  exact ⟨[_, _], ⟨rfl, rfl, trivial⟩, fun w' => by kernel_rfl⟩
theorem bldU2 {a : Nat} : Bld Try.prog 111 [0, 1] [isD (.func (.func a) #[] #[]), isD .nilFunc] [isD (.func (.func a) #[] #[]), isD .nilFunc] := fun L w vs h => by
  obtain ⟨u, v, rfl, rfl, rfl⟩ := all2 h
  exact ⟨[_, _], ⟨rfl, rfl, trivial⟩, fun w' => by kernel_rfl⟩
theorem bldU3 {d e f g i j : D} : Bld Try.prog 112 [0, 1, 2] [aggD [d, e], aggD [f, g], aggD [i, j]] [d, e, f, g, i, j] := fun L w vs h => by
  obtain ⟨u, v, z, rfl, hu, hv, hz⟩ := all3 h
  obtain ⟨a, b, rfl, h1, h2⟩ := agg2 hu
  obtain ⟨a', b', rfl, h3, h4⟩ := agg2 hv
  obtain ⟨a2, b2, rfl, h5, h6⟩ := agg2 hz
  exact ⟨[a, b, a', b', a2, b2], ⟨h1, h2, h3, h4, h5, h6, trivial⟩, fun w' => by kernel_rfl⟩
set_option maxHeartbeats 4000000 in
set_option maxRecDepth 100000 in
theorem con_rules  : Con Try.prog 106 [] (aggD [isD mulF, isD addF, isD mulF, isD subF, isD mulF, isD .nilFunc]) := by
  refine con_of Try.func106 (by kernel_rfl) rfl (by kernel_rfl) fun base w0 => ?_
  refine SW.seq ?_
  refine SW.region ?_
  refine SWl.ef (S := []) (Ef.alloc (zs := [.nilFunc, .nilFunc, .nilFunc, .nilFunc, .nilFunc, .nilFunc]) (by kernel_rfl) rfl) ?_
  rintro _ ⟨g0, rfl⟩
  refine SWl.nil ?_
  refine SN.then ?_
  refine SW.seq ?_
  refine SW.region ?_
  refine SWl.rd rfl (Rd.build rfl rfl (by first | exact bldU1 | exact bldU2)) ?_
  refine SWl.rd rfl (Rd.build rfl rfl (by first | exact bldU1 | exact bldU2)) ?_
  refine SWl.rd rfl (Rd.build rfl rfl (by first | exact bldU1 | exact bldU2)) ?_
  refine SWl.rd rfl (Rd.build rfl rfl bldU3) ?_
  refine SWl.ef (S := [_]) (Ef.storeA 0 rfl rfl rfl (by kernel_rfl) rfl (List.mem_singleton.2 rfl)) ?_
  rintro _ rfl
  refine SWl.nil ?_
  refine SN.then ?_
  refine SW.ret (fn := Try.f106) (fun _ _ h => h) (Rs.one rfl (ResV.cellA 0 rfl rfl (by kernel_rfl)))
set_option maxHeartbeats 4000000 in
set_option maxRecDepth 100000 in
theorem con_calc1 {a b c e : Int} (ha : a.natAbs < big512) (hb : b.natAbs < big512) (hc : c.natAbs < big512) (he : e.natAbs < big512) (h0 : b * e ≠ 0) : Con Try.prog 107 [ratD a b, ratD c e, isD mulF, isD .nilFunc] (tupD [ratD (qN [a * c, b * e] (a * c) (b * e)) (qD [a * c, b * e] (a * c) (b * e)), errD (qE [a * c, b * e])]) := by
  obtain ⟨F1, hF1⟩ : ∃ u, apE 0 (limE (a * c)) = u := ⟨_, rfl⟩
  obtain ⟨Z1, hZ1⟩ : ∃ u, apZ 0 (limZ (a * c)) = u := ⟨_, rfl⟩
  obtain ⟨F2, hF2⟩ : ∃ u, apE F1 (limE (b * e)) = u := ⟨_, rfl⟩
  obtain ⟨Z2, hZ2⟩ : ∃ u, apZ F1 (limZ (b * e)) = u := ⟨_, rfl⟩
  have hc2 := calc_two hF1 hZ1 hF2 hZ2
  refine con_of Try.func107 (by kernel_rfl) rfl (by kernel_rfl) fun base w0 => ?_
  refine SW.seq ?_
  refine SW.region ?_
  refine SWl.ef (S := []) (Ef.boxA rfl rfl) ?_
  rintro _ ⟨g4, rfl⟩
  refine SWl.ef (S := []) (Ef.boxA rfl rfl) ?_
  rintro _ ⟨g5, rfl⟩
  refine SWl.ef (S := []) (Ef.alloc (zs := [.bool false, .slice none 0 0, .bool false, .slice none 0 0]) (by kernel_rfl) rfl) ?_
  rintro _ ⟨g8, rfl⟩
  refine SWl.rd rfl (Rd.assign rfl) ?_
  refine SWl.nil ?_
  refine SN.then ?_
  refine SW.seq ?_
  refine SW.region ?_
  refine SWl.ef (S := []) (Ef.alloc (zs := [.int .i64 0]) (by kernel_rfl) rfl) ?_
  rintro _ ⟨g10, rfl⟩
  refine SWl.ef (S := [_]) (Ef.storeV 3 rfl rfl rfl (by kernel_rfl) rfl (List.mem_singleton.2 rfl)) ?_
  rintro _ rfl
  refine SWl.nil ?_
  refine SN.then ?_
  refine SW.seq ?_
  refine SW.region ?_
  refine SWl.rd rfl (Rd.makeFunc [.pointer (some ⟨g10, 0, none⟩)] rfl) ?_
  refine SWl.rd rfl (Rd.assign rfl) ?_
  refine SWl.nil ?_
  refine SN.then ?_
  refine SW.seq ?_
  refine SW.region ?_
  refine SWl.ef (S := []) (Ef.alloc (zs := [.bool false, .slice none 0 0]) (by kernel_rfl) rfl) ?_
  rintro _ ⟨g12, rfl⟩
  refine SWl.nil ?_
  refine SN.then ?_
  refine SW.seq ?_
  refine SW.seq ?_
  refine SW.region ?_
  refine SWl.rd rfl (Rd.move rfl) ?_
  refine SWl.rd rfl (Rd.bin rfl rfl (r := .bool true) (fun w => by kernel_rfl)) ?_
  refine SWl.nil ?_
  refine SN.then ?_
  refine SW.condT rfl (rfl) ?_
  refine SW.region ?_
  refine SWl.rd rfl (Rd.move rfl) ?_
  refine SWl.rd rfl (Rd.move rfl) ?_
  refine SWl.rd rfl (Rd.fieldAddr (n := 0) rfl (by kernel_rfl)) ?_
  refine SWl.rd rfl (Rd.loadA 0 2 rfl rfl (by kernel_rfl) rfl trivial) ?_
  refine SWl.rd rfl (Rd.fieldAddr (n := 0) rfl (by kernel_rfl)) ?_
  refine SWl.rd rfl (Rd.loadA 1 2 rfl rfl (by kernel_rfl) rfl trivial) ?_
  refine SWl.ef (S := [_]) (Ef.callVB (cap := [.pointer (some ⟨g10, 0, none⟩)]) 3 (con_apply hF1 hZ1 (fun _ => con_mul ha hc)) rfl rfl ⟨Le.refl _, Le.refl _, Le.refl _, Le.refl _, trivial⟩ rfl (List.mem_singleton.2 rfl) rfl) ?_
  rintro _ rfl
  refine SWl.ef (S := [_]) (Ef.storeA 4 rfl rfl rfl (by kernel_rfl) rfl (List.mem_singleton.2 rfl)) ?_
  rintro _ rfl
  refine SWl.nil ?_
  refine SN.then ?_
  refine SW.seq ?_
  refine SW.sub (σ' := St.of [(4, isD (.pointer (some ⟨g4, 0, none⟩))), (5, isD (.pointer (some ⟨g5, 0, none⟩))), (8, isD (.pointer (some ⟨g8, 0, none⟩))), (10, isD (.pointer (some ⟨g10, 0, none⟩))), (12, isD (.pointer (some ⟨g12, 0, none⟩))), (2, isD mulF), (11, isD (.func (.func 120) #[] #[.pointer (some ⟨g10, 0, none⟩)]))] [(g4, ratC (a) (b)), (g5, ratC (c) (e)), (g8, [isD (.bool false), isD (.slice none 0 0), isD (.bool false), isD (.slice none 0 0)]), (g10, [errD F1]), (g12, intC (Z1))]) (⟨⟨_, rfl, ⟨⟨_, rfl, Le.refl _⟩, ⟨⟨_, rfl, Le.refl _⟩, ⟨⟨_, rfl, Le.refl _⟩, ⟨⟨_, rfl, Le.refl _⟩, ⟨⟨_, rfl, Le.refl _⟩, ⟨⟨_, rfl, Le.refl _⟩, ⟨⟨_, rfl, Le.refl _⟩, trivial⟩⟩⟩⟩⟩⟩⟩⟩, [0, 1, 2, 3, 4], by decide, ⟨⟨_, rfl, LeAll.refl _⟩, ⟨⟨_, rfl, LeAll.refl _⟩, ⟨⟨_, rfl, LeAll.refl _⟩, ⟨⟨_, rfl, LeAll.refl _⟩, ⟨⟨_, rfl, LeAll.refl _⟩, trivial⟩⟩⟩⟩⟩⟩) ?_
  refine SW.region ?_
  refine SWl.rd rfl (Rd.move rfl) ?_
  refine SWl.rd rfl (Rd.move rfl) ?_
  refine SWl.rd rfl (Rd.fieldAddr (n := 2) rfl (by kernel_rfl)) ?_
  refine SWl.rd rfl (Rd.loadA 0 2 rfl rfl (by kernel_rfl) rfl trivial) ?_
  refine SWl.rd rfl (Rd.fieldAddr (n := 2) rfl (by kernel_rfl)) ?_
  refine SWl.rd rfl (Rd.loadA 1 2 rfl rfl (by kernel_rfl) rfl trivial) ?_
  refine SWl.ef (S := [_]) (Ef.callVB (cap := [.pointer (some ⟨g10, 0, none⟩)]) 3 (con_apply hF2 hZ2 (fun _ => con_mul hb he)) rfl rfl ⟨Le.refl _, Le.refl _, Le.refl _, Le.refl _, trivial⟩ rfl (List.mem_singleton.2 rfl) rfl) ?_
  rintro _ rfl
  refine SWl.ef (S := []) (Ef.alloc (zs := [.bool false, .slice none 0 0]) (by kernel_rfl) rfl) ?_
  rintro _ ⟨g15, rfl⟩
  refine SWl.ef (S := [_]) (Ef.storeA 5 rfl rfl rfl (by kernel_rfl) rfl (List.mem_singleton.2 rfl)) ?_
  rintro _ rfl
  refine SWl.nil ?_
  refine SN.then ?_
  refine SW.seq ?_
  refine SW.seq ?_
  refine SW.region ?_
  refine SWl.rd rfl (Rd.loadB 3 rfl rfl rfl (by kernel_rfl) trivial) ?_
  refine SWl.rd rfl (Rd.nei rfl rfl) ?_
  refine SWl.nil ?_
  refine SN.then ?_
  refine SW.cond rfl (fun hb53 => ?_) (fun hb53 => ?_)
  · obtain ⟨h1, h2⟩ := hc2.2 (by simpa using hb53)
    refine SW.seq ?_
    refine SW.draw [g8] (.r 0 (.r 1 (.e 2 (.r 3 .fin) .no))) (by kernel_rfl) (by kernel_rfl) (fun d _ _ _ _ h => by cases d <;> exact h) ?_
    refine SWz.rd (i := 0) rfl rfl (Rd.build rfl rfl bldR0) ?_
    refine SWz.rd (i := 1) rfl rfl (Rd.loadB 3 rfl rfl rfl (by kernel_rfl) ⟨⟨2, _, rfl, by decide⟩, trivial⟩) ?_
    refine SWz.efe (i := 2) rfl (Ef.storeA 2 rfl rfl rfl (by kernel_rfl) rfl (List.mem_of_getElem? (i := 0) rfl)) ?_ SWz.no
    rintro _ rfl
    refine SWz.rd (i := 3) rfl rfl (Rd.assign rfl) ?_
    refine SWz.nil ?_
    refine SN.then ?_
    refine SW.ret (fn := Try.f107) (fun _ _ h => h) (Rs.le (Rs.two rfl (ResV.cellA 2 rfl rfl (by kernel_rfl)) (ResV.tmp rfl)) ?_)
    exact Le.tup ⟨le_rat0.trans (le_rat (by unfold qN; rw [h1]; rfl) (by unfold qD; rw [h1]; rfl)), le_err (h2.trans (by unfold qE; rw [h1]; rfl)), trivial⟩
  · obtain ⟨h1, h2, h3⟩ := hc2.1 (by simpa using hb53)
    refine SW.skip ?_
    refine SN.then ?_
    refine SW.seq ?_
    refine SW.region ?_
    refine SWl.rd rfl (Rd.loadA 4 2 rfl rfl (by kernel_rfl) rfl trivial) ?_
    refine SWl.rd rfl (Rd.loadA 5 2 rfl rfl (by kernel_rfl) rfl trivial) ?_
    refine SWl.ef (S := []) (Ef.call (con_make (fits_mem h1 (by simp)) (fits_mem h1 (by simp)) h0) rfl ⟨le_int h2, le_int h3, trivial⟩ rfl) ?_
    rintro _ rfl
    refine SWl.rd rfl (Rd.extract rfl rfl) ?_
    refine SWl.rd rfl (Rd.extract rfl rfl) ?_
    refine SWl.ef (S := [_]) (Ef.storeA 2 rfl rfl rfl (by kernel_rfl) rfl (List.mem_singleton.2 rfl)) ?_
    rintro _ rfl
    refine SWl.rd rfl (Rd.assign rfl) ?_
    refine SWl.nil ?_
    refine SN.then ?_
    refine SW.ret (fn := Try.f107) (fun _ _ h => h) (Rs.le (Rs.two rfl (ResV.cellA 2 rfl rfl (by kernel_rfl)) (ResV.tmp rfl)) ?_)
    exact Le.tup ⟨le_rat (by unfold qN; rw [if_pos h1]) (by unfold qD; rw [if_pos h1]), le_err (by unfold qE; rw [if_pos h1]), trivial⟩
set_option maxHeartbeats 4000000 in
set_option maxRecDepth 100000 in
theorem con_calc2 {J : FuncId} {jn : Int → Int → Int} (hJ : ∀ p q : Int, p.natAbs < big512 → q.natAbs < big512 → Con Try.prog J [intD p, intD q] (tupD [intD (limZ (jn p q)), errD (limE (jn p q))])) {a b c e : Int} (ha : a.natAbs < big512) (hb : b.natAbs < big512) (hc : c.natAbs < big512) (he : e.natAbs < big512) (h0 : b * e ≠ 0) : Con Try.prog 107 [ratD a b, ratD c e, isD mulF, isD (.func (.func J) #[] #[])] (tupD [ratD (qN [a * e, c * b, jn (a * e) (c * b), b * e] (jn (a * e) (c * b)) (b * e)) (qD [a * e, c * b, jn (a * e) (c * b), b * e] (jn (a * e) (c * b)) (b * e)), errD (qE [a * e, c * b, jn (a * e) (c * b), b * e])]) := by
  obtain ⟨F1, hF1⟩ : ∃ u, apE 0 (limE (a * e)) = u := ⟨_, rfl⟩
  obtain ⟨Z1, hZ1⟩ : ∃ u, apZ 0 (limZ (a * e)) = u := ⟨_, rfl⟩
  obtain ⟨F2, hF2⟩ : ∃ u, apE F1 (limE (c * b)) = u := ⟨_, rfl⟩
  obtain ⟨Z2, hZ2⟩ : ∃ u, apZ F1 (limZ (c * b)) = u := ⟨_, rfl⟩
  obtain ⟨F3, hF3⟩ : ∃ u, apE F2 (limE (jn Z1 Z2)) = u := ⟨_, rfl⟩
  obtain ⟨Z3, hZ3⟩ : ∃ u, apZ F2 (limZ (jn Z1 Z2)) = u := ⟨_, rfl⟩
  obtain ⟨F4, hF4⟩ : ∃ u, apE F3 (limE (b * e)) = u := ⟨_, rfl⟩
  obtain ⟨Z4, hZ4⟩ : ∃ u, apZ F3 (limZ (b * e)) = u := ⟨_, rfl⟩
  have hc4 := calc_four hF1 hZ1 hF2 hZ2 hF3 hZ3 hF4 hZ4
  have hz1 : Z1.natAbs < big512 := by rw [← hZ1]; exact apZ_lt (lim_lt _)
  have hz2 : Z2.natAbs < big512 := by rw [← hZ2]; exact apZ_lt (lim_lt _)
  refine con_of Try.func107 (by kernel_rfl) rfl (by kernel_rfl) fun base w0 => ?_
  refine SW.seq ?_
  refine SW.region ?_
  refine SWl.ef (S := []) (Ef.boxA rfl rfl) ?_
  rintro _ ⟨g4, rfl⟩
  refine SWl.ef (S := []) (Ef.boxA rfl rfl) ?_
  rintro _ ⟨g5, rfl⟩
  refine SWl.ef (S := []) (Ef.alloc (zs := [.bool false, .slice none 0 0, .bool false, .slice none 0 0]) (by kernel_rfl) rfl) ?_
  rintro _ ⟨g8, rfl⟩
  refine SWl.rd rfl (Rd.assign rfl) ?_
  refine SWl.nil ?_
  refine SN.then ?_
  refine SW.seq ?_
  refine SW.region ?_
  refine SWl.ef (S := []) (Ef.alloc (zs := [.int .i64 0]) (by kernel_rfl) rfl) ?_
  rintro _ ⟨g10, rfl⟩
  refine SWl.ef (S := [_]) (Ef.storeV 3 rfl rfl rfl (by kernel_rfl) rfl (List.mem_singleton.2 rfl)) ?_
  rintro _ rfl
  refine SWl.nil ?_
  refine SN.then ?_
  refine SW.seq ?_
  refine SW.region ?_
  refine SWl.rd rfl (Rd.makeFunc [.pointer (some ⟨g10, 0, none⟩)] rfl) ?_
  refine SWl.rd rfl (Rd.assign rfl) ?_
  refine SWl.nil ?_
  refine SN.then ?_
  refine SW.seq ?_
  refine SW.region ?_
  refine SWl.ef (S := []) (Ef.alloc (zs := [.bool false, .slice none 0 0]) (by kernel_rfl) rfl) ?_
  rintro _ ⟨g12, rfl⟩
  refine SWl.nil ?_
  refine SN.then ?_
  refine SW.seq ?_
  refine SW.seq ?_
  refine SW.region ?_
  refine SWl.rd rfl (Rd.move rfl) ?_
  refine SWl.rd rfl (Rd.bin rfl rfl (r := .bool false) (fun w => by kernel_rfl)) ?_
  refine SWl.nil ?_
  refine SN.then ?_
  refine SW.condF rfl (rfl) ?_
  refine SW.seq ?_
  refine SW.region ?_
  refine SWl.rd rfl (Rd.move rfl) ?_
  refine SWl.rd rfl (Rd.move rfl) ?_
  refine SWl.rd rfl (Rd.fieldAddr (n := 0) rfl (by kernel_rfl)) ?_
  refine SWl.rd rfl (Rd.loadA 0 2 rfl rfl (by kernel_rfl) rfl trivial) ?_
  refine SWl.rd rfl (Rd.fieldAddr (n := 2) rfl (by kernel_rfl)) ?_
  refine SWl.rd rfl (Rd.loadA 1 2 rfl rfl (by kernel_rfl) rfl trivial) ?_
  refine SWl.ef (S := [_]) (Ef.callVB (cap := [.pointer (some ⟨g10, 0, none⟩)]) 3 (con_apply hF1 hZ1 (fun _ => con_mul ha he)) rfl rfl ⟨Le.refl _, Le.refl _, Le.refl _, Le.refl _, trivial⟩ rfl (List.mem_singleton.2 rfl) rfl) ?_
  rintro _ rfl
  refine SWl.ef (S := []) (Ef.alloc (zs := [.bool false, .slice none 0 0]) (by kernel_rfl) rfl) ?_
  rintro _ ⟨g13, rfl⟩
  refine SWl.ef (S := [_]) (Ef.storeA 5 rfl rfl rfl (by kernel_rfl) rfl (List.mem_singleton.2 rfl)) ?_
  rintro _ rfl
  refine SWl.nil ?_
  refine SN.then ?_
  refine SW.seq ?_
  refine SW.sub (σ' := St.of [(4, isD (.pointer (some ⟨g4, 0, none⟩))), (5, isD (.pointer (some ⟨g5, 0, none⟩))), (8, isD (.pointer (some ⟨g8, 0, none⟩))), (10, isD (.pointer (some ⟨g10, 0, none⟩))), (12, isD (.pointer (some ⟨g12, 0, none⟩))), (13, isD (.pointer (some ⟨g13, 0, none⟩))), (2, isD mulF), (11, isD (.func (.func 120) #[] #[.pointer (some ⟨g10, 0, none⟩)])), (3, isD (.func (.func J) #[] #[]))] [(g4, ratC (a) (b)), (g5, ratC (c) (e)), (g8, [isD (.bool false), isD (.slice none 0 0), isD (.bool false), isD (.slice none 0 0)]), (g10, [errD F1]), (g12, [isD (.bool false), isD (.slice none 0 0)]), (g13, intC (Z1))]) (⟨⟨_, rfl, ⟨⟨_, rfl, Le.refl _⟩, ⟨⟨_, rfl, Le.refl _⟩, ⟨⟨_, rfl, Le.refl _⟩, ⟨⟨_, rfl, Le.refl _⟩, ⟨⟨_, rfl, Le.refl _⟩, ⟨⟨_, rfl, Le.refl _⟩, ⟨⟨_, rfl, Le.refl _⟩, ⟨⟨_, rfl, Le.refl _⟩, ⟨⟨_, rfl, Le.refl _⟩, trivial⟩⟩⟩⟩⟩⟩⟩⟩⟩⟩, [0, 1, 2, 3, 4, 5], by decide, ⟨⟨_, rfl, LeAll.refl _⟩, ⟨⟨_, rfl, LeAll.refl _⟩, ⟨⟨_, rfl, LeAll.refl _⟩, ⟨⟨_, rfl, LeAll.refl _⟩, ⟨⟨_, rfl, LeAll.refl _⟩, ⟨⟨_, rfl, LeAll.refl _⟩, trivial⟩⟩⟩⟩⟩⟩⟩) ?_
  refine SW.region ?_
  refine SWl.rd rfl (Rd.move rfl) ?_
  refine SWl.rd rfl (Rd.move rfl) ?_
  refine SWl.rd rfl (Rd.fieldAddr (n := 0) rfl (by kernel_rfl)) ?_
  refine SWl.rd rfl (Rd.loadA 1 2 rfl rfl (by kernel_rfl) rfl trivial) ?_
  refine SWl.rd rfl (Rd.fieldAddr (n := 2) rfl (by kernel_rfl)) ?_
  refine SWl.rd rfl (Rd.loadA 0 2 rfl rfl (by kernel_rfl) rfl trivial) ?_
  refine SWl.ef (S := [_]) (Ef.callVB (cap := [.pointer (some ⟨g10, 0, none⟩)]) 3 (con_apply hF2 hZ2 (fun _ => con_mul hc hb)) rfl rfl ⟨Le.refl _, Le.refl _, Le.refl _, Le.refl _, trivial⟩ rfl (List.mem_singleton.2 rfl) rfl) ?_
  rintro _ rfl
  refine SWl.ef (S := []) (Ef.alloc (zs := [.bool false, .slice none 0 0]) (by kernel_rfl) rfl) ?_
  rintro _ ⟨g14, rfl⟩
  refine SWl.ef (S := [_]) (Ef.storeA 6 rfl rfl rfl (by kernel_rfl) rfl (List.mem_singleton.2 rfl)) ?_
  rintro _ rfl
  refine SWl.nil ?_
  refine SN.then ?_
  refine SW.sub (σ' := St.of [(4, isD (.pointer (some ⟨g4, 0, none⟩))), (5, isD (.pointer (some ⟨g5, 0, none⟩))), (8, isD (.pointer (some ⟨g8, 0, none⟩))), (10, isD (.pointer (some ⟨g10, 0, none⟩))), (12, isD (.pointer (some ⟨g12, 0, none⟩))), (13, isD (.pointer (some ⟨g13, 0, none⟩))), (14, isD (.pointer (some ⟨g14, 0, none⟩))), (2, isD mulF), (11, isD (.func (.func 120) #[] #[.pointer (some ⟨g10, 0, none⟩)])), (3, isD (.func (.func J) #[] #[]))] [(g4, ratC (a) (b)), (g5, ratC (c) (e)), (g8, [isD (.bool false), isD (.slice none 0 0), isD (.bool false), isD (.slice none 0 0)]), (g10, [errD F2]), (g12, [isD (.bool false), isD (.slice none 0 0)]), (g13, intC (Z1)), (g14, intC (Z2))]) (⟨⟨_, rfl, ⟨⟨_, rfl, Le.refl _⟩, ⟨⟨_, rfl, Le.refl _⟩, ⟨⟨_, rfl, Le.refl _⟩, ⟨⟨_, rfl, Le.refl _⟩, ⟨⟨_, rfl, Le.refl _⟩, ⟨⟨_, rfl, Le.refl _⟩, ⟨⟨_, rfl, Le.refl _⟩, ⟨⟨_, rfl, Le.refl _⟩, ⟨⟨_, rfl, Le.refl _⟩, ⟨⟨_, rfl, Le.refl _⟩, trivial⟩⟩⟩⟩⟩⟩⟩⟩⟩⟩⟩, [0, 1, 2, 3, 4, 5, 6], by decide, ⟨⟨_, rfl, LeAll.refl _⟩, ⟨⟨_, rfl, LeAll.refl _⟩, ⟨⟨_, rfl, LeAll.refl _⟩, ⟨⟨_, rfl, LeAll.refl _⟩, ⟨⟨_, rfl, LeAll.refl _⟩, ⟨⟨_, rfl, LeAll.refl _⟩, ⟨⟨_, rfl, LeAll.refl _⟩, trivial⟩⟩⟩⟩⟩⟩⟩⟩) ?_
  refine SW.region ?_
  refine SWl.rd rfl (Rd.move rfl) ?_
  refine SWl.rd rfl (Rd.move rfl) ?_
  refine SWl.rd rfl (Rd.loadA 5 2 rfl rfl (by kernel_rfl) rfl trivial) ?_
  refine SWl.rd rfl (Rd.loadA 6 2 rfl rfl (by kernel_rfl) rfl trivial) ?_
  refine SWl.ef (S := [_]) (Ef.callVB (cap := [.pointer (some ⟨g10, 0, none⟩)]) 3 (con_apply hF3 hZ3 (fun _ => hJ _ _ hz1 hz2)) rfl rfl ⟨Le.refl _, Le.refl _, Le.refl _, Le.refl _, trivial⟩ rfl (List.mem_singleton.2 rfl) rfl) ?_
  rintro _ rfl
  refine SWl.ef (S := [_]) (Ef.storeA 4 rfl rfl rfl (by kernel_rfl) rfl (List.mem_singleton.2 rfl)) ?_
  rintro _ rfl
  refine SWl.nil ?_
  refine SN.then ?_
  refine SW.seq ?_
  refine SW.sub (σ' := St.of [(4, isD (.pointer (some ⟨g4, 0, none⟩))), (5, isD (.pointer (some ⟨g5, 0, none⟩))), (8, isD (.pointer (some ⟨g8, 0, none⟩))), (10, isD (.pointer (some ⟨g10, 0, none⟩))), (12, isD (.pointer (some ⟨g12, 0, none⟩))), (2, isD mulF), (11, isD (.func (.func 120) #[] #[.pointer (some ⟨g10, 0, none⟩)]))] [(g4, ratC (a) (b)), (g5, ratC (c) (e)), (g8, [isD (.bool false), isD (.slice none 0 0), isD (.bool false), isD (.slice none 0 0)]), (g10, [errD F3]), (g12, intC (Z3))]) (⟨⟨_, rfl, ⟨⟨_, rfl, Le.refl _⟩, ⟨⟨_, rfl, Le.refl _⟩, ⟨⟨_, rfl, Le.refl _⟩, ⟨⟨_, rfl, Le.refl _⟩, ⟨⟨_, rfl, Le.refl _⟩, ⟨⟨_, rfl, Le.refl _⟩, ⟨⟨_, rfl, Le.refl _⟩, trivial⟩⟩⟩⟩⟩⟩⟩⟩, [0, 1, 2, 3, 4], by decide, ⟨⟨_, rfl, LeAll.refl _⟩, ⟨⟨_, rfl, LeAll.refl _⟩, ⟨⟨_, rfl, LeAll.refl _⟩, ⟨⟨_, rfl, LeAll.refl _⟩, ⟨⟨_, rfl, LeAll.refl _⟩, trivial⟩⟩⟩⟩⟩⟩) ?_
  refine SW.region ?_
  refine SWl.rd rfl (Rd.move rfl) ?_
  refine SWl.rd rfl (Rd.move rfl) ?_
  refine SWl.rd rfl (Rd.fieldAddr (n := 2) rfl (by kernel_rfl)) ?_
  refine SWl.rd rfl (Rd.loadA 0 2 rfl rfl (by kernel_rfl) rfl trivial) ?_
  refine SWl.rd rfl (Rd.fieldAddr (n := 2) rfl (by kernel_rfl)) ?_
  refine SWl.rd rfl (Rd.loadA 1 2 rfl rfl (by kernel_rfl) rfl trivial) ?_
  refine SWl.ef (S := [_]) (Ef.callVB (cap := [.pointer (some ⟨g10, 0, none⟩)]) 3 (con_apply hF4 hZ4 (fun _ => con_mul hb he)) rfl rfl ⟨Le.refl _, Le.refl _, Le.refl _, Le.refl _, trivial⟩ rfl (List.mem_singleton.2 rfl) rfl) ?_
  rintro _ rfl
  refine SWl.ef (S := []) (Ef.alloc (zs := [.bool false, .slice none 0 0]) (by kernel_rfl) rfl) ?_
  rintro _ ⟨g15, rfl⟩
  refine SWl.ef (S := [_]) (Ef.storeA 5 rfl rfl rfl (by kernel_rfl) rfl (List.mem_singleton.2 rfl)) ?_
  rintro _ rfl
  refine SWl.nil ?_
  refine SN.then ?_
  refine SW.seq ?_
  refine SW.seq ?_
  refine SW.region ?_
  refine SWl.rd rfl (Rd.loadB 3 rfl rfl rfl (by kernel_rfl) trivial) ?_
  refine SWl.rd rfl (Rd.nei rfl rfl) ?_
  refine SWl.nil ?_
  refine SN.then ?_
  refine SW.cond rfl (fun hb53 => ?_) (fun hb53 => ?_)
  · obtain ⟨h1, h2⟩ := hc4.2 (by simpa using hb53)
    refine SW.seq ?_
    refine SW.draw [g8] (.r 0 (.r 1 (.e 2 (.r 3 .fin) .no))) (by kernel_rfl) (by kernel_rfl) (fun d _ _ _ _ h => by cases d <;> exact h) ?_
    refine SWz.rd (i := 0) rfl rfl (Rd.build rfl rfl bldR0) ?_
    refine SWz.rd (i := 1) rfl rfl (Rd.loadB 3 rfl rfl rfl (by kernel_rfl) ⟨⟨2, _, rfl, by decide⟩, trivial⟩) ?_
    refine SWz.efe (i := 2) rfl (Ef.storeA 2 rfl rfl rfl (by kernel_rfl) rfl (List.mem_of_getElem? (i := 0) rfl)) ?_ SWz.no
    rintro _ rfl
    refine SWz.rd (i := 3) rfl rfl (Rd.assign rfl) ?_
    refine SWz.nil ?_
    refine SN.then ?_
    refine SW.ret (fn := Try.f107) (fun _ _ h => h) (Rs.le (Rs.two rfl (ResV.cellA 2 rfl rfl (by kernel_rfl)) (ResV.tmp rfl)) ?_)
    exact Le.tup ⟨le_rat0.trans (le_rat (by unfold qN; rw [h1]; rfl) (by unfold qD; rw [h1]; rfl)), le_err (h2.trans (by unfold qE; rw [h1]; rfl)), trivial⟩
  · obtain ⟨h1, h2, h3⟩ := hc4.1 (by simpa using hb53)
    refine SW.skip ?_
    refine SN.then ?_
    refine SW.seq ?_
    refine SW.region ?_
    refine SWl.rd rfl (Rd.loadA 4 2 rfl rfl (by kernel_rfl) rfl trivial) ?_
    refine SWl.rd rfl (Rd.loadA 5 2 rfl rfl (by kernel_rfl) rfl trivial) ?_
    refine SWl.ef (S := []) (Ef.call (con_make (fits_mem h1 (by simp)) (fits_mem h1 (by simp)) h0) rfl ⟨le_int h2, le_int h3, trivial⟩ rfl) ?_
    rintro _ rfl
    refine SWl.rd rfl (Rd.extract rfl rfl) ?_
    refine SWl.rd rfl (Rd.extract rfl rfl) ?_
    refine SWl.ef (S := [_]) (Ef.storeA 2 rfl rfl rfl (by kernel_rfl) rfl (List.mem_singleton.2 rfl)) ?_
    rintro _ rfl
    refine SWl.rd rfl (Rd.assign rfl) ?_
    refine SWl.nil ?_
    refine SN.then ?_
    refine SW.ret (fn := Try.f107) (fun _ _ h => h) (Rs.le (Rs.two rfl (ResV.cellA 2 rfl rfl (by kernel_rfl)) (ResV.tmp rfl)) ?_)
    exact Le.tup ⟨le_rat (by unfold qN; rw [if_pos h1]) (by unfold qD; rw [if_pos h1]), le_err (by unfold qE; rw [if_pos h1]), trivial⟩
set_option maxHeartbeats 4000000 in
set_option maxRecDepth 100000 in
theorem con_addQ {a b c e : Int} (hG : Good a b) (hH : Good c e) : Con Try.prog 64 [ratD a b, ratD c e] (tupD [ratD (qN [a * e, c * b, a * e + c * b, b * e] (a * e + c * b) (b * e)) (qD [a * e, c * b, a * e + c * b, b * e] (a * e + c * b) (b * e)), errD (qE [a * e, c * b, a * e + c * b, b * e])]) := by
  refine con_of Try.func64 (by kernel_rfl) rfl (by kernel_rfl) fun base w0 => ?_
  refine SW.seq ?_
  refine SW.region ?_
  refine SWl.ef (S := []) (Ef.boxA rfl rfl) ?_
  rintro _ ⟨g2, rfl⟩
  refine SWl.ef (S := []) (Ef.boxA rfl rfl) ?_
  rintro _ ⟨g3, rfl⟩
  refine SWl.ef (S := []) (Ef.alloc (zs := [.bool false, .slice none 0 0, .bool false, .slice none 0 0]) (by kernel_rfl) rfl) ?_
  rintro _ ⟨g4, rfl⟩
  refine SWl.rd rfl (Rd.assign rfl) ?_
  refine SWl.nil ?_
  refine SN.then ?_
  refine SW.seq ?_
  refine SW.seq ?_
  refine SW.region ?_
  refine SWl.rd rfl (Rd.loadA 0 4 rfl rfl (by kernel_rfl) rfl trivial) ?_
  refine SWl.ef (S := []) (Ef.call (con_rvalT (by assumption)) rfl ⟨Le.refl _, trivial⟩ rfl) ?_
  rintro _ rfl
  refine SWl.rd rfl (Rd.not rfl) ?_
  refine SWl.rd rfl (Rd.move rfl) ?_
  refine SWl.rdg rfl rfl (rfl) rfl rfl (Rd.loadA 1 4 rfl rfl (by kernel_rfl) rfl trivial) ?_
  refine SWl.efg (S := []) rfl rfl (rfl) rfl (Ef.call (con_rvalT (by assumption)) rfl ⟨Le.refl _, trivial⟩ rfl) ?_
  rintro _ rfl
  refine SWl.rdg rfl rfl (rfl) rfl rfl (Rd.not rfl) ?_
  refine SWl.rd rfl (Rd.pickN rfl (rfl) rfl) ?_
  refine SWl.nil ?_
  refine SN.then ?_
  refine SW.condF rfl (rfl) ?_
  refine SW.skip ?_
  refine SN.then ?_
  refine SW.seq ?_
  refine SW.region ?_
  refine SWl.ef (S := []) (Ef.call (con_rules) rfl trivial rfl) ?_
  rintro _ rfl
  refine SWl.rd rfl (Rd.indexA (e := 111) (n := 3) 2 rfl rfl (by kernel_rfl) (by kernel_rfl) (by decide) (by decide)) ?_
  refine SWl.ef (S := []) (Ef.alloc (zs := [.nilFunc, .nilFunc]) (by kernel_rfl) rfl) ?_
  rintro _ ⟨g6, rfl⟩
  refine SWl.ef (S := [_]) (Ef.storeA 3 rfl rfl rfl (by kernel_rfl) rfl (List.mem_singleton.2 rfl)) ?_
  rintro _ rfl
  refine SWl.nil ?_
  refine SN.then ?_
  refine SW.seq ?_
  refine SW.region ?_
  refine SWl.rd rfl (Rd.loadA 0 4 rfl rfl (by kernel_rfl) rfl trivial) ?_
  refine SWl.rd rfl (Rd.loadA 1 4 rfl rfl (by kernel_rfl) rfl trivial) ?_
  refine SWl.rd rfl (Rd.fieldAddr (n := 0) rfl (by kernel_rfl)) ?_
  refine SWl.rd rfl (Rd.loadB 3 rfl rfl rfl (by kernel_rfl) trivial) ?_
  refine SWl.rd rfl (Rd.fieldAddr (n := 1) rfl (by kernel_rfl)) ?_
  refine SWl.rd rfl (Rd.loadB 3 rfl rfl rfl (by kernel_rfl) trivial) ?_
  refine SWl.ef (S := []) (Ef.call (con_calc2 (jn := fun p q => p + q) (fun p q hp hq => con_add hp hq) hG.hn hG.hd hH.hn hH.hd (hG.mul0 hH)) rfl ⟨Le.refl _, Le.refl _, Le.refl _, Le.refl _, trivial⟩ rfl) ?_
  rintro _ rfl
  refine SWl.rd rfl (Rd.extract rfl rfl) ?_
  refine SWl.rd rfl (Rd.extract rfl rfl) ?_
  refine SWl.ef (S := [_]) (Ef.storeA 2 rfl rfl rfl (by kernel_rfl) rfl (List.mem_singleton.2 rfl)) ?_
  rintro _ rfl
  refine SWl.rd rfl (Rd.assign rfl) ?_
  refine SWl.nil ?_
  refine SN.then ?_
  refine SW.ret (fn := Try.f64) (fun _ _ h => h) (Rs.two rfl (ResV.cellA 2 rfl rfl (by kernel_rfl)) (ResV.tmp rfl))
set_option maxHeartbeats 4000000 in
set_option maxRecDepth 100000 in
theorem con_subQ {a b c e : Int} (hG : Good a b) (hH : Good c e) : Con Try.prog 65 [ratD a b, ratD c e] (tupD [ratD (qN [a * e, c * b, a * e - c * b, b * e] (a * e - c * b) (b * e)) (qD [a * e, c * b, a * e - c * b, b * e] (a * e - c * b) (b * e)), errD (qE [a * e, c * b, a * e - c * b, b * e])]) := by
  refine con_of Try.func65 (by kernel_rfl) rfl (by kernel_rfl) fun base w0 => ?_
  refine SW.seq ?_
  refine SW.region ?_
  refine SWl.ef (S := []) (Ef.boxA rfl rfl) ?_
  rintro _ ⟨g2, rfl⟩
  refine SWl.ef (S := []) (Ef.boxA rfl rfl) ?_
  rintro _ ⟨g3, rfl⟩
  refine SWl.ef (S := []) (Ef.alloc (zs := [.bool false, .slice none 0 0, .bool false, .slice none 0 0]) (by kernel_rfl) rfl) ?_
  rintro _ ⟨g4, rfl⟩
  refine SWl.rd rfl (Rd.assign rfl) ?_
  refine SWl.nil ?_
  refine SN.then ?_
  refine SW.seq ?_
  refine SW.seq ?_
  refine SW.region ?_
  refine SWl.rd rfl (Rd.loadA 0 4 rfl rfl (by kernel_rfl) rfl trivial) ?_
  refine SWl.ef (S := []) (Ef.call (con_rvalT (by assumption)) rfl ⟨Le.refl _, trivial⟩ rfl) ?_
  rintro _ rfl
  refine SWl.rd rfl (Rd.not rfl) ?_
  refine SWl.rd rfl (Rd.move rfl) ?_
  refine SWl.rdg rfl rfl (rfl) rfl rfl (Rd.loadA 1 4 rfl rfl (by kernel_rfl) rfl trivial) ?_
  refine SWl.efg (S := []) rfl rfl (rfl) rfl (Ef.call (con_rvalT (by assumption)) rfl ⟨Le.refl _, trivial⟩ rfl) ?_
  rintro _ rfl
  refine SWl.rdg rfl rfl (rfl) rfl rfl (Rd.not rfl) ?_
  refine SWl.rd rfl (Rd.pickN rfl (rfl) rfl) ?_
  refine SWl.nil ?_
  refine SN.then ?_
  refine SW.condF rfl (rfl) ?_
  refine SW.skip ?_
  refine SN.then ?_
  refine SW.seq ?_
  refine SW.region ?_
  refine SWl.ef (S := []) (Ef.call (con_rules) rfl trivial rfl) ?_
  rintro _ rfl
  refine SWl.rd rfl (Rd.indexA (e := 111) (n := 3) 2 rfl rfl (by kernel_rfl) (by kernel_rfl) (by decide) (by decide)) ?_
  refine SWl.ef (S := []) (Ef.alloc (zs := [.nilFunc, .nilFunc]) (by kernel_rfl) rfl) ?_
  rintro _ ⟨g6, rfl⟩
  refine SWl.ef (S := [_]) (Ef.storeA 3 rfl rfl rfl (by kernel_rfl) rfl (List.mem_singleton.2 rfl)) ?_
  rintro _ rfl
  refine SWl.nil ?_
  refine SN.then ?_
  refine SW.seq ?_
  refine SW.region ?_
  refine SWl.rd rfl (Rd.loadA 0 4 rfl rfl (by kernel_rfl) rfl trivial) ?_
  refine SWl.rd rfl (Rd.loadA 1 4 rfl rfl (by kernel_rfl) rfl trivial) ?_
  refine SWl.rd rfl (Rd.fieldAddr (n := 0) rfl (by kernel_rfl)) ?_
  refine SWl.rd rfl (Rd.loadB 3 rfl rfl rfl (by kernel_rfl) trivial) ?_
  refine SWl.rd rfl (Rd.fieldAddr (n := 1) rfl (by kernel_rfl)) ?_
  refine SWl.rd rfl (Rd.loadB 3 rfl rfl rfl (by kernel_rfl) trivial) ?_
  refine SWl.ef (S := []) (Ef.call (con_calc2 (jn := fun p q => p - q) (fun p q hp hq => con_sub hp hq) hG.hn hG.hd hH.hn hH.hd (hG.mul0 hH)) rfl ⟨Le.refl _, Le.refl _, Le.refl _, Le.refl _, trivial⟩ rfl) ?_
  rintro _ rfl
  refine SWl.rd rfl (Rd.extract rfl rfl) ?_
  refine SWl.rd rfl (Rd.extract rfl rfl) ?_
  refine SWl.ef (S := [_]) (Ef.storeA 2 rfl rfl rfl (by kernel_rfl) rfl (List.mem_singleton.2 rfl)) ?_
  rintro _ rfl
  refine SWl.rd rfl (Rd.assign rfl) ?_
  refine SWl.nil ?_
  refine SN.then ?_
  refine SW.ret (fn := Try.f65) (fun _ _ h => h) (Rs.two rfl (ResV.cellA 2 rfl rfl (by kernel_rfl)) (ResV.tmp rfl))
set_option maxHeartbeats 4000000 in
set_option maxRecDepth 100000 in
theorem con_mulQ {a b c e : Int} (hG : Good a b) (hH : Good c e) : Con Try.prog 66 [ratD a b, ratD c e] (tupD [ratD (qN [a * c, b * e] (a * c) (b * e)) (qD [a * c, b * e] (a * c) (b * e)), errD (qE [a * c, b * e])]) := by
  refine con_of Try.func66 (by kernel_rfl) rfl (by kernel_rfl) fun base w0 => ?_
  refine SW.seq ?_
  refine SW.region ?_
  refine SWl.ef (S := []) (Ef.boxA rfl rfl) ?_
  rintro _ ⟨g2, rfl⟩
  refine SWl.ef (S := []) (Ef.boxA rfl rfl) ?_
  rintro _ ⟨g3, rfl⟩
  refine SWl.ef (S := []) (Ef.alloc (zs := [.bool false, .slice none 0 0, .bool false, .slice none 0 0]) (by kernel_rfl) rfl) ?_
  rintro _ ⟨g4, rfl⟩
  refine SWl.rd rfl (Rd.assign rfl) ?_
  refine SWl.nil ?_
  refine SN.then ?_
  refine SW.seq ?_
  refine SW.seq ?_
  refine SW.region ?_
  refine SWl.rd rfl (Rd.loadA 0 4 rfl rfl (by kernel_rfl) rfl trivial) ?_
  refine SWl.ef (S := []) (Ef.call (con_rvalT (by assumption)) rfl ⟨Le.refl _, trivial⟩ rfl) ?_
  rintro _ rfl
  refine SWl.rd rfl (Rd.not rfl) ?_
  refine SWl.rd rfl (Rd.move rfl) ?_
  refine SWl.rdg rfl rfl (rfl) rfl rfl (Rd.loadA 1 4 rfl rfl (by kernel_rfl) rfl trivial) ?_
  refine SWl.efg (S := []) rfl rfl (rfl) rfl (Ef.call (con_rvalT (by assumption)) rfl ⟨Le.refl _, trivial⟩ rfl) ?_
  rintro _ rfl
  refine SWl.rdg rfl rfl (rfl) rfl rfl (Rd.not rfl) ?_
  refine SWl.rd rfl (Rd.pickN rfl (rfl) rfl) ?_
  refine SWl.nil ?_
  refine SN.then ?_
  refine SW.condF rfl (rfl) ?_
  refine SW.skip ?_
  refine SN.then ?_
  refine SW.seq ?_
  refine SW.region ?_
  refine SWl.ef (S := []) (Ef.call (con_rules) rfl trivial rfl) ?_
  rintro _ rfl
  refine SWl.rd rfl (Rd.indexA (e := 111) (n := 3) 2 rfl rfl (by kernel_rfl) (by kernel_rfl) (by decide) (by decide)) ?_
  refine SWl.ef (S := []) (Ef.alloc (zs := [.nilFunc, .nilFunc]) (by kernel_rfl) rfl) ?_
  rintro _ ⟨g6, rfl⟩
  refine SWl.ef (S := [_]) (Ef.storeA 3 rfl rfl rfl (by kernel_rfl) rfl (List.mem_singleton.2 rfl)) ?_
  rintro _ rfl
  refine SWl.nil ?_
  refine SN.then ?_
  refine SW.seq ?_
  refine SW.region ?_
  refine SWl.rd rfl (Rd.loadA 0 4 rfl rfl (by kernel_rfl) rfl trivial) ?_
  refine SWl.rd rfl (Rd.loadA 1 4 rfl rfl (by kernel_rfl) rfl trivial) ?_
  refine SWl.rd rfl (Rd.fieldAddr (n := 0) rfl (by kernel_rfl)) ?_
  refine SWl.rd rfl (Rd.loadB 3 rfl rfl rfl (by kernel_rfl) trivial) ?_
  refine SWl.rd rfl (Rd.fieldAddr (n := 1) rfl (by kernel_rfl)) ?_
  refine SWl.rd rfl (Rd.loadB 3 rfl rfl rfl (by kernel_rfl) trivial) ?_
  refine SWl.ef (S := []) (Ef.call (con_calc1 hG.hn hG.hd hH.hn hH.hd (hG.mul0 hH)) rfl ⟨Le.refl _, Le.refl _, Le.refl _, Le.refl _, trivial⟩ rfl) ?_
  rintro _ rfl
  refine SWl.rd rfl (Rd.extract rfl rfl) ?_
  refine SWl.rd rfl (Rd.extract rfl rfl) ?_
  refine SWl.ef (S := [_]) (Ef.storeA 2 rfl rfl rfl (by kernel_rfl) rfl (List.mem_singleton.2 rfl)) ?_
  rintro _ rfl
  refine SWl.rd rfl (Rd.assign rfl) ?_
  refine SWl.nil ?_
  refine SN.then ?_
  refine SW.ret (fn := Try.f66) (fun _ _ h => h) (Rs.two rfl (ResV.cellA 2 rfl rfl (by kernel_rfl)) (ResV.tmp rfl))
set_option maxHeartbeats 4000000 in
set_option maxRecDepth 100000 in
theorem con_quoQ {a b c e : Int} (hG : Good a b) (hH : Good c e) (hc0 : c ≠ 0) : Con Try.prog 67 [ratD a b, ratD c e] (tupD [ratD (qN [a * e, b * c] (a * e) (b * c)) (qD [a * e, b * c] (a * e) (b * c)), errD (qE [a * e, b * c])]) := by
  refine con_of Try.func67 (by kernel_rfl) rfl (by kernel_rfl) fun base w0 => ?_
  refine SW.seq ?_
  refine SW.region ?_
  refine SWl.ef (S := []) (Ef.boxA rfl rfl) ?_
  rintro _ ⟨g2, rfl⟩
  refine SWl.ef (S := []) (Ef.boxA rfl rfl) ?_
  rintro _ ⟨g3, rfl⟩
  refine SWl.ef (S := []) (Ef.alloc (zs := [.bool false, .slice none 0 0, .bool false, .slice none 0 0]) (by kernel_rfl) rfl) ?_
  rintro _ ⟨g4, rfl⟩
  refine SWl.rd rfl (Rd.assign rfl) ?_
  refine SWl.nil ?_
  refine SN.then ?_
  refine SW.seq ?_
  refine SW.seq ?_
  refine SW.region ?_
  refine SWl.rd rfl (Rd.loadA 0 4 rfl rfl (by kernel_rfl) rfl trivial) ?_
  refine SWl.ef (S := []) (Ef.call (con_rvalT (by assumption)) rfl ⟨Le.refl _, trivial⟩ rfl) ?_
  rintro _ rfl
  refine SWl.rd rfl (Rd.not rfl) ?_
  refine SWl.rd rfl (Rd.move rfl) ?_
  refine SWl.rdg rfl rfl (rfl) rfl rfl (Rd.loadA 1 4 rfl rfl (by kernel_rfl) rfl trivial) ?_
  refine SWl.efg (S := []) rfl rfl (rfl) rfl (Ef.call (con_rvalT (by assumption)) rfl ⟨Le.refl _, trivial⟩ rfl) ?_
  rintro _ rfl
  refine SWl.rdg rfl rfl (rfl) rfl rfl (Rd.not rfl) ?_
  refine SWl.rd rfl (Rd.pickN rfl (rfl) rfl) ?_
  refine SWl.rd rfl (Rd.move rfl) ?_
  refine SWl.rdg rfl rfl (rfl) rfl rfl (Rd.fieldAddr (n := 0) rfl (by kernel_rfl)) ?_
  refine SWl.rdg rfl rfl (rfl) rfl rfl (Rd.loadA 1 2 rfl rfl (by kernel_rfl) rfl trivial) ?_
  refine SWl.efg (S := []) rfl rfl (rfl) rfl (Ef.call (con_sign hH.hn) rfl ⟨Le.refl _, trivial⟩ rfl) ?_
  rintro _ rfl
  refine SWl.rdg rfl rfl (rfl) rfl rfl (Rd.eqi rfl rfl) ?_
  refine SWl.rd rfl (Rd.pickN rfl (rfl) rfl) ?_
  refine SWl.nil ?_
  refine SN.then ?_
  refine SW.condF rfl (decide_eq_false (fun h => hc0 (sign_eq0.1 h))) ?_
  refine SW.skip ?_
  refine SN.then ?_
  refine SW.seq ?_
  refine SW.region ?_
  refine SWl.ef (S := []) (Ef.call (con_rules) rfl trivial rfl) ?_
  rintro _ rfl
  refine SWl.rd rfl (Rd.indexA (e := 111) (n := 3) 2 rfl rfl (by kernel_rfl) (by kernel_rfl) (by decide) (by decide)) ?_
  refine SWl.ef (S := []) (Ef.alloc (zs := [.nilFunc, .nilFunc]) (by kernel_rfl) rfl) ?_
  rintro _ ⟨g6, rfl⟩
  refine SWl.ef (S := [_]) (Ef.storeA 3 rfl rfl rfl (by kernel_rfl) rfl (List.mem_singleton.2 rfl)) ?_
  rintro _ rfl
  refine SWl.nil ?_
  refine SN.then ?_
  refine SW.seq ?_
  refine SW.region ?_
  refine SWl.rd rfl (Rd.loadA 0 4 rfl rfl (by kernel_rfl) rfl trivial) ?_
  refine SWl.rd rfl (Rd.fieldAddr (n := 2) rfl (by kernel_rfl)) ?_
  refine SWl.rd rfl (Rd.loadA 1 2 rfl rfl (by kernel_rfl) rfl trivial) ?_
  refine SWl.rd rfl (Rd.fieldAddr (n := 0) rfl (by kernel_rfl)) ?_
  refine SWl.rd rfl (Rd.loadA 1 2 rfl rfl (by kernel_rfl) rfl trivial) ?_
  refine SWl.rd rfl (Rd.build rfl rfl bldR2) ?_
  refine SWl.rd rfl (Rd.fieldAddr (n := 0) rfl (by kernel_rfl)) ?_
  refine SWl.rd rfl (Rd.loadB 3 rfl rfl rfl (by kernel_rfl) trivial) ?_
  refine SWl.rd rfl (Rd.fieldAddr (n := 1) rfl (by kernel_rfl)) ?_
  refine SWl.rd rfl (Rd.loadB 3 rfl rfl rfl (by kernel_rfl) trivial) ?_
  refine SWl.ef (S := []) (Ef.call (con_calc1 hG.hn hG.hd hH.hd hH.hn (Int.mul_ne_zero hG.d0 hc0)) rfl ⟨Le.refl _, Le.refl _, Le.refl _, Le.refl _, trivial⟩ rfl) ?_
  rintro _ rfl
  refine SWl.rd rfl (Rd.extract rfl rfl) ?_
  refine SWl.rd rfl (Rd.extract rfl rfl) ?_
  refine SWl.ef (S := [_]) (Ef.storeA 2 rfl rfl rfl (by kernel_rfl) rfl (List.mem_singleton.2 rfl)) ?_
  rintro _ rfl
  refine SWl.rd rfl (Rd.assign rfl) ?_
  refine SWl.nil ?_
  refine SN.then ?_
  refine SW.ret (fn := Try.f67) (fun _ _ h => h) (Rs.two rfl (ResV.cellA 2 rfl rfl (by kernel_rfl)) (ResV.tmp rfl))
set_option maxHeartbeats 4000000 in
set_option maxRecDepth 100000 in
theorem con_quoQ0 {a b e : Int} (hG : Good a b) (hH : Good 0 e) : Con Try.prog 67 [ratD a b, ratD 0 e] (tupD [ratD 0 0, errD 2]) := by
  refine con_of Try.func67 (by kernel_rfl) rfl (by kernel_rfl) fun base w0 => ?_
  refine SW.seq ?_
  refine SW.region ?_
  refine SWl.ef (S := []) (Ef.boxA rfl rfl) ?_
  rintro _ ⟨g2, rfl⟩
  refine SWl.ef (S := []) (Ef.boxA rfl rfl) ?_
  rintro _ ⟨g3, rfl⟩
  refine SWl.ef (S := []) (Ef.alloc (zs := [.bool false, .slice none 0 0, .bool false, .slice none 0 0]) (by kernel_rfl) rfl) ?_
  rintro _ ⟨g4, rfl⟩
  refine SWl.rd rfl (Rd.assign rfl) ?_
  refine SWl.nil ?_
  refine SN.then ?_
  refine SW.seq ?_
  refine SW.seq ?_
  refine SW.region ?_
  refine SWl.rd rfl (Rd.loadA 0 4 rfl rfl (by kernel_rfl) rfl trivial) ?_
  refine SWl.ef (S := []) (Ef.call (con_rvalT (by assumption)) rfl ⟨Le.refl _, trivial⟩ rfl) ?_
  rintro _ rfl
  refine SWl.rd rfl (Rd.not rfl) ?_
  refine SWl.rd rfl (Rd.move rfl) ?_
  refine SWl.rdg rfl rfl (rfl) rfl rfl (Rd.loadA 1 4 rfl rfl (by kernel_rfl) rfl trivial) ?_
  refine SWl.efg (S := []) rfl rfl (rfl) rfl (Ef.call (con_rvalT (by assumption)) rfl ⟨Le.refl _, trivial⟩ rfl) ?_
  rintro _ rfl
  refine SWl.rdg rfl rfl (rfl) rfl rfl (Rd.not rfl) ?_
  refine SWl.rd rfl (Rd.pickN rfl (rfl) rfl) ?_
  refine SWl.rd rfl (Rd.move rfl) ?_
  refine SWl.rdg rfl rfl (rfl) rfl rfl (Rd.fieldAddr (n := 0) rfl (by kernel_rfl)) ?_
  refine SWl.rdg rfl rfl (rfl) rfl rfl (Rd.loadA 1 2 rfl rfl (by kernel_rfl) rfl trivial) ?_
  refine SWl.efg (S := []) rfl rfl (rfl) rfl (Ef.call (con_signOf (r := 0) hH.hn rfl) rfl ⟨Le.refl _, trivial⟩ rfl) ?_
  rintro _ rfl
  refine SWl.rdg rfl rfl (rfl) rfl rfl (Rd.eqi rfl rfl) ?_
  refine SWl.rd rfl (Rd.pickN rfl (rfl) rfl) ?_
  refine SWl.nil ?_
  refine SN.then ?_
  refine SW.condT rfl (by decide) ?_
  refine SW.seq ?_
  refine SW.region ?_
  refine SWl.rd rfl (Rd.build rfl rfl bldR0) ?_
  refine SWl.ef (S := [_]) (Ef.storeA 2 rfl rfl rfl (by kernel_rfl) rfl (List.mem_singleton.2 rfl)) ?_
  rintro _ rfl
  refine SWl.rd rfl (Rd.assign rfl) ?_
  refine SWl.nil ?_
  refine SN.then ?_
  refine SW.ret (fn := Try.f67) (fun _ _ h => h) (Rs.le (Rs.two rfl (ResV.cellA 2 rfl rfl (by kernel_rfl)) (ResV.tmp rfl)) ?_)
  exact Le.tup ⟨le_rat0, Le.refl _, trivial⟩
set_option maxHeartbeats 4000000 in
set_option maxRecDepth 100000 in
theorem con_addQB {s t u v : Bool} {b c p q : List Nat} (hB : Byt b c) (hC : Byt p q) (h : (rvld s b t c && rvld u p v q) = false) : Con Try.prog 64 [rratD s b t c, rratD u p v q] (tupD [ratD 0 0, errD 2]) := by
  refine con_of Try.func64 (by kernel_rfl) rfl (by kernel_rfl) fun base w0 => ?_
  refine SW.seq ?_
  refine SW.region ?_
  refine SWl.ef (S := []) (Ef.boxA rfl rfl) ?_
  rintro _ ⟨g2, rfl⟩
  refine SWl.ef (S := []) (Ef.boxA rfl rfl) ?_
  rintro _ ⟨g3, rfl⟩
  refine SWl.ef (S := []) (Ef.alloc (zs := [.bool false, .slice none 0 0, .bool false, .slice none 0 0]) (by kernel_rfl) rfl) ?_
  rintro _ ⟨g4, rfl⟩
  refine SWl.rd rfl (Rd.assign rfl) ?_
  refine SWl.nil ?_
  refine SN.then ?_
  refine SW.seq ?_
  refine SW.seq ?_
  refine SW.region ?_
  refine SWl.rd rfl (Rd.loadA 0 4 rfl rfl (by kernel_rfl) rfl trivial) ?_
  refine SWl.ef (S := []) (Ef.call (con_rvalid hB) rfl ⟨Le.refl _, trivial⟩ rfl) ?_
  rintro _ rfl
  refine SWl.rd rfl (Rd.not rfl) ?_
  refine SWl.rd rfl (Rd.move rfl) ?_
  refine SWl.split 10 rfl (fun hb10 => ?_) (fun hb10 => ?_)
  · skip
    refine SWl.off rfl rfl (hb10) rfl rfl ?_
    refine SWl.off rfl rfl (hb10) rfl rfl ?_
    refine SWl.off rfl rfl (hb10) rfl rfl ?_
    refine SWl.rd rfl (Rd.pickY rfl (hb10) rfl) ?_
    refine SWl.nil ?_
    refine SN.then ?_
    refine SW.condT rfl (rfl) ?_
    refine SW.seq ?_
    refine SW.region ?_
    refine SWl.rd rfl (Rd.build rfl rfl bldR0) ?_
    refine SWl.ef (S := [_]) (Ef.storeA 2 rfl rfl rfl (by kernel_rfl) rfl (List.mem_singleton.2 rfl)) ?_
    rintro _ rfl
    refine SWl.rd rfl (Rd.assign rfl) ?_
    refine SWl.nil ?_
    refine SN.then ?_
    refine SW.ret (fn := Try.f64) (fun _ _ h => h) (Rs.le (Rs.two rfl (ResV.cellA 2 rfl rfl (by kernel_rfl)) (ResV.tmp rfl)) ?_)
    exact Le.tup ⟨le_rat0, Le.refl _, trivial⟩
  · skip
    refine SWl.rdg rfl rfl (hb10) rfl rfl (Rd.loadA 1 4 rfl rfl (by kernel_rfl) rfl trivial) ?_
    refine SWl.efg (S := []) rfl rfl (hb10) rfl (Ef.call (con_rvalid hC) rfl ⟨Le.refl _, trivial⟩ rfl) ?_
    rintro _ rfl
    refine SWl.rdg rfl rfl (hb10) rfl rfl (Rd.not rfl) ?_
    refine SWl.rd rfl (Rd.pickN rfl (hb10) rfl) ?_
    refine SWl.nil ?_
    refine SN.then ?_
    refine SW.cond rfl (fun hb14 => ?_) (fun hb14 => ?_)
    · skip
      refine SW.seq ?_
      refine SW.region ?_
      refine SWl.rd rfl (Rd.build rfl rfl bldR0) ?_
      refine SWl.ef (S := [_]) (Ef.storeA 2 rfl rfl rfl (by kernel_rfl) rfl (List.mem_singleton.2 rfl)) ?_
      rintro _ rfl
      refine SWl.rd rfl (Rd.assign rfl) ?_
      refine SWl.nil ?_
      refine SN.then ?_
      refine SW.ret (fn := Try.f64) (fun _ _ h => h) (Rs.le (Rs.two rfl (ResV.cellA 2 rfl rfl (by kernel_rfl)) (ResV.tmp rfl)) ?_)
      exact Le.tup ⟨le_rat0, Le.refl _, trivial⟩
    · exact absurd h (by simp_all)
set_option maxHeartbeats 4000000 in
set_option maxRecDepth 100000 in
theorem con_subQB {s t u v : Bool} {b c p q : List Nat} (hB : Byt b c) (hC : Byt p q) (h : (rvld s b t c && rvld u p v q) = false) : Con Try.prog 65 [rratD s b t c, rratD u p v q] (tupD [ratD 0 0, errD 2]) := by
  refine con_of Try.func65 (by kernel_rfl) rfl (by kernel_rfl) fun base w0 => ?_
  refine SW.seq ?_
  refine SW.region ?_
  refine SWl.ef (S := []) (Ef.boxA rfl rfl) ?_
  rintro _ ⟨g2, rfl⟩
  refine SWl.ef (S := []) (Ef.boxA rfl rfl) ?_
  rintro _ ⟨g3, rfl⟩
  refine SWl.ef (S := []) (Ef.alloc (zs := [.bool false, .slice none 0 0, .bool false, .slice none 0 0]) (by kernel_rfl) rfl) ?_
  rintro _ ⟨g4, rfl⟩
  refine SWl.rd rfl (Rd.assign rfl) ?_
  refine SWl.nil ?_
  refine SN.then ?_
  refine SW.seq ?_
  refine SW.seq ?_
  refine SW.region ?_
  refine SWl.rd rfl (Rd.loadA 0 4 rfl rfl (by kernel_rfl) rfl trivial) ?_
  refine SWl.ef (S := []) (Ef.call (con_rvalid hB) rfl ⟨Le.refl _, trivial⟩ rfl) ?_
  rintro _ rfl
  refine SWl.rd rfl (Rd.not rfl) ?_
  refine SWl.rd rfl (Rd.move rfl) ?_
  refine SWl.split 10 rfl (fun hb10 => ?_) (fun hb10 => ?_)
  · skip
    refine SWl.off rfl rfl (hb10) rfl rfl ?_
    refine SWl.off rfl rfl (hb10) rfl rfl ?_
    refine SWl.off rfl rfl (hb10) rfl rfl ?_
    refine SWl.rd rfl (Rd.pickY rfl (hb10) rfl) ?_
    refine SWl.nil ?_
    refine SN.then ?_
    refine SW.condT rfl (rfl) ?_
    refine SW.seq ?_
    refine SW.region ?_
    refine SWl.rd rfl (Rd.build rfl rfl bldR0) ?_
    refine SWl.ef (S := [_]) (Ef.storeA 2 rfl rfl rfl (by kernel_rfl) rfl (List.mem_singleton.2 rfl)) ?_
    rintro _ rfl
    refine SWl.rd rfl (Rd.assign rfl) ?_
    refine SWl.nil ?_
    refine SN.then ?_
    refine SW.ret (fn := Try.f65) (fun _ _ h => h) (Rs.le (Rs.two rfl (ResV.cellA 2 rfl rfl (by kernel_rfl)) (ResV.tmp rfl)) ?_)
    exact Le.tup ⟨le_rat0, Le.refl _, trivial⟩
  · skip
    refine SWl.rdg rfl rfl (hb10) rfl rfl (Rd.loadA 1 4 rfl rfl (by kernel_rfl) rfl trivial) ?_
    refine SWl.efg (S := []) rfl rfl (hb10) rfl (Ef.call (con_rvalid hC) rfl ⟨Le.refl _, trivial⟩ rfl) ?_
    rintro _ rfl
    refine SWl.rdg rfl rfl (hb10) rfl rfl (Rd.not rfl) ?_
    refine SWl.rd rfl (Rd.pickN rfl (hb10) rfl) ?_
    refine SWl.nil ?_
    refine SN.then ?_
    refine SW.cond rfl (fun hb14 => ?_) (fun hb14 => ?_)
    · skip
      refine SW.seq ?_
      refine SW.region ?_
      refine SWl.rd rfl (Rd.build rfl rfl bldR0) ?_
      refine SWl.ef (S := [_]) (Ef.storeA 2 rfl rfl rfl (by kernel_rfl) rfl (List.mem_singleton.2 rfl)) ?_
      rintro _ rfl
      refine SWl.rd rfl (Rd.assign rfl) ?_
      refine SWl.nil ?_
      refine SN.then ?_
      refine SW.ret (fn := Try.f65) (fun _ _ h => h) (Rs.le (Rs.two rfl (ResV.cellA 2 rfl rfl (by kernel_rfl)) (ResV.tmp rfl)) ?_)
      exact Le.tup ⟨le_rat0, Le.refl _, trivial⟩
    · exact absurd h (by simp_all)
set_option maxHeartbeats 4000000 in
set_option maxRecDepth 100000 in
theorem con_mulQB {s t u v : Bool} {b c p q : List Nat} (hB : Byt b c) (hC : Byt p q) (h : (rvld s b t c && rvld u p v q) = false) : Con Try.prog 66 [rratD s b t c, rratD u p v q] (tupD [ratD 0 0, errD 2]) := by
  refine con_of Try.func66 (by kernel_rfl) rfl (by kernel_rfl) fun base w0 => ?_
  refine SW.seq ?_
  refine SW.region ?_
  refine SWl.ef (S := []) (Ef.boxA rfl rfl) ?_
  rintro _ ⟨g2, rfl⟩
  refine SWl.ef (S := []) (Ef.boxA rfl rfl) ?_
  rintro _ ⟨g3, rfl⟩
  refine SWl.ef (S := []) (Ef.alloc (zs := [.bool false, .slice none 0 0, .bool false, .slice none 0 0]) (by kernel_rfl) rfl) ?_
  rintro _ ⟨g4, rfl⟩
  refine SWl.rd rfl (Rd.assign rfl) ?_
  refine SWl.nil ?_
  refine SN.then ?_
  refine SW.seq ?_
  refine SW.seq ?_
  refine SW.region ?_
  refine SWl.rd rfl (Rd.loadA 0 4 rfl rfl (by kernel_rfl) rfl trivial) ?_
  refine SWl.ef (S := []) (Ef.call (con_rvalid hB) rfl ⟨Le.refl _, trivial⟩ rfl) ?_
  rintro _ rfl
  refine SWl.rd rfl (Rd.not rfl) ?_
  refine SWl.rd rfl (Rd.move rfl) ?_
  refine SWl.split 10 rfl (fun hb10 => ?_) (fun hb10 => ?_)
  · skip
    refine SWl.off rfl rfl (hb10) rfl rfl ?_
    refine SWl.off rfl rfl (hb10) rfl rfl ?_
    refine SWl.off rfl rfl (hb10) rfl rfl ?_
    refine SWl.rd rfl (Rd.pickY rfl (hb10) rfl) ?_
    refine SWl.nil ?_
    refine SN.then ?_
    refine SW.condT rfl (rfl) ?_
    refine SW.seq ?_
    refine SW.region ?_
    refine SWl.rd rfl (Rd.build rfl rfl bldR0) ?_
    refine SWl.ef (S := [_]) (Ef.storeA 2 rfl rfl rfl (by kernel_rfl) rfl (List.mem_singleton.2 rfl)) ?_
    rintro _ rfl
    refine SWl.rd rfl (Rd.assign rfl) ?_
    refine SWl.nil ?_
    refine SN.then ?_
    refine SW.ret (fn := Try.f66) (fun _ _ h => h) (Rs.le (Rs.two rfl (ResV.cellA 2 rfl rfl (by kernel_rfl)) (ResV.tmp rfl)) ?_)
    exact Le.tup ⟨le_rat0, Le.refl _, trivial⟩
  · skip
    refine SWl.rdg rfl rfl (hb10) rfl rfl (Rd.loadA 1 4 rfl rfl (by kernel_rfl) rfl trivial) ?_
    refine SWl.efg (S := []) rfl rfl (hb10) rfl (Ef.call (con_rvalid hC) rfl ⟨Le.refl _, trivial⟩ rfl) ?_
    rintro _ rfl
    refine SWl.rdg rfl rfl (hb10) rfl rfl (Rd.not rfl) ?_
    refine SWl.rd rfl (Rd.pickN rfl (hb10) rfl) ?_
    refine SWl.nil ?_
    refine SN.then ?_
    refine SW.cond rfl (fun hb14 => ?_) (fun hb14 => ?_)
    · skip
      refine SW.seq ?_
      refine SW.region ?_
      refine SWl.rd rfl (Rd.build rfl rfl bldR0) ?_
      refine SWl.ef (S := [_]) (Ef.storeA 2 rfl rfl rfl (by kernel_rfl) rfl (List.mem_singleton.2 rfl)) ?_
      rintro _ rfl
      refine SWl.rd rfl (Rd.assign rfl) ?_
      refine SWl.nil ?_
      refine SN.then ?_
      refine SW.ret (fn := Try.f66) (fun _ _ h => h) (Rs.le (Rs.two rfl (ResV.cellA 2 rfl rfl (by kernel_rfl)) (ResV.tmp rfl)) ?_)
      exact Le.tup ⟨le_rat0, Le.refl _, trivial⟩
    · exact absurd h (by simp_all)
set_option maxHeartbeats 4000000 in
set_option maxRecDepth 100000 in
theorem con_quoQB {s t u v : Bool} {b c p q : List Nat} (hB : Byt b c) (hC : Byt p q) (h : (rvld s b t c && rvld u p v q) = false) : Con Try.prog 67 [rratD s b t c, rratD u p v q] (tupD [ratD 0 0, errD 2]) := by
  refine con_of Try.func67 (by kernel_rfl) rfl (by kernel_rfl) fun base w0 => ?_
  refine SW.seq ?_
  refine SW.region ?_
  refine SWl.ef (S := []) (Ef.boxA rfl rfl) ?_
  rintro _ ⟨g2, rfl⟩
  refine SWl.ef (S := []) (Ef.boxA rfl rfl) ?_
  rintro _ ⟨g3, rfl⟩
  refine SWl.ef (S := []) (Ef.alloc (zs := [.bool false, .slice none 0 0, .bool false, .slice none 0 0]) (by kernel_rfl) rfl) ?_
  rintro _ ⟨g4, rfl⟩
  refine SWl.rd rfl (Rd.assign rfl) ?_
  refine SWl.nil ?_
  refine SN.then ?_
  refine SW.seq ?_
  refine SW.seq ?_
  refine SW.region ?_
  refine SWl.rd rfl (Rd.loadA 0 4 rfl rfl (by kernel_rfl) rfl trivial) ?_
  refine SWl.ef (S := []) (Ef.call (con_rvalid hB) rfl ⟨Le.refl _, trivial⟩ rfl) ?_
  rintro _ rfl
  refine SWl.rd rfl (Rd.not rfl) ?_
  refine SWl.rd rfl (Rd.move rfl) ?_
  refine SWl.split 10 rfl (fun hb10 => ?_) (fun hb10 => ?_)
  · skip
    refine SWl.off rfl rfl (hb10) rfl rfl ?_
    refine SWl.off rfl rfl (hb10) rfl rfl ?_
    refine SWl.off rfl rfl (hb10) rfl rfl ?_
    refine SWl.rd rfl (Rd.pickY rfl (hb10) rfl) ?_
    refine SWl.rd rfl (Rd.move rfl) ?_
    refine SWl.off rfl rfl (rfl) rfl rfl ?_
    refine SWl.off rfl rfl (rfl) rfl rfl ?_
    refine SWl.off rfl rfl (rfl) rfl rfl ?_
    refine SWl.off rfl rfl (rfl) rfl rfl ?_
    refine SWl.rd rfl (Rd.pickY rfl (rfl) rfl) ?_
    refine SWl.nil ?_
    refine SN.then ?_
    refine SW.condT rfl (rfl) ?_
    refine SW.seq ?_
    refine SW.region ?_
    refine SWl.rd rfl (Rd.build rfl rfl bldR0) ?_
    refine SWl.ef (S := [_]) (Ef.storeA 2 rfl rfl rfl (by kernel_rfl) rfl (List.mem_singleton.2 rfl)) ?_
    rintro _ rfl
    refine SWl.rd rfl (Rd.assign rfl) ?_
    refine SWl.nil ?_
    refine SN.then ?_
    refine SW.ret (fn := Try.f67) (fun _ _ h => h) (Rs.le (Rs.two rfl (ResV.cellA 2 rfl rfl (by kernel_rfl)) (ResV.tmp rfl)) ?_)
    exact Le.tup ⟨le_rat0, Le.refl _, trivial⟩
  · skip
    refine SWl.rdg rfl rfl (hb10) rfl rfl (Rd.loadA 1 4 rfl rfl (by kernel_rfl) rfl trivial) ?_
    refine SWl.efg (S := []) rfl rfl (hb10) rfl (Ef.call (con_rvalid hC) rfl ⟨Le.refl _, trivial⟩ rfl) ?_
    rintro _ rfl
    refine SWl.rdg rfl rfl (hb10) rfl rfl (Rd.not rfl) ?_
    refine SWl.rd rfl (Rd.pickN rfl (hb10) rfl) ?_
    refine SWl.rd rfl (Rd.move rfl) ?_
    refine SWl.split 15 rfl (fun hb15 => ?_) (fun hb15 => ?_)
    · skip
      refine SWl.off rfl rfl (hb15) rfl rfl ?_
      refine SWl.off rfl rfl (hb15) rfl rfl ?_
      refine SWl.off rfl rfl (hb15) rfl rfl ?_
      refine SWl.off rfl rfl (hb15) rfl rfl ?_
      refine SWl.rd rfl (Rd.pickY rfl (hb15) rfl) ?_
      refine SWl.nil ?_
      refine SN.then ?_
      refine SW.condT rfl (rfl) ?_
      refine SW.seq ?_
      refine SW.region ?_
      refine SWl.rd rfl (Rd.build rfl rfl bldR0) ?_
      refine SWl.ef (S := [_]) (Ef.storeA 2 rfl rfl rfl (by kernel_rfl) rfl (List.mem_singleton.2 rfl)) ?_
      rintro _ rfl
      refine SWl.rd rfl (Rd.assign rfl) ?_
      refine SWl.nil ?_
      refine SN.then ?_
      refine SW.ret (fn := Try.f67) (fun _ _ h => h) (Rs.le (Rs.two rfl (ResV.cellA 2 rfl rfl (by kernel_rfl)) (ResV.tmp rfl)) ?_)
      exact Le.tup ⟨le_rat0, Le.refl _, trivial⟩
    · exact absurd h (by simp_all)
end Sx
end Go.Proofs.Ytddfphneidcibaa
namespace Go.Proofs.Ytddfphneidcibaa
open Go.RowKit
open Nm (W32)
namespace Sx
/-- Integers in a row. -/
def rowZ (z : Int) : Bool × List Nat := (decide (z < 0), (Nm.dg 256 z.natAbs).reverse)
abbrev rowsZ (l : List Int) : List D := rowsC (l.map rowZ)
theorem rowsZ_len (l : List Int) : (rowsZ l).length = l.length * 2 := by rw [rowsC_len, List.length_map]
theorem rowsZ_drop (l : List Int) {k : Nat} {z : Int} (h : l[k]? = some z) : (rowsZ l).drop (k * 2) = isD (.bool (decide (z < 0))) :: bytD z.natAbs :: rowsZ (l.drop (k + 1)) := by
  have hk : k < l.length := (List.getElem?_eq_some_iff.1 h).1
  have hg : l[k] = z := (List.getElem?_eq_some_iff.1 h).2
  unfold rowsZ
  rw [rowsC_drop _ k (by rw [List.length_map]; exact hk), List.getElem_map, hg, List.map_drop]
  rfl
theorem fits_no {l : List Int} {k : Nat} {z : Int} (h : l[k]? = some z) (hz : ¬ z.natAbs < big512) : fits l = false := by
  unfold fits
  rw [List.all_eq_false]
  exact ⟨z, List.mem_of_getElem? h, by simpa using hz⟩
theorem fits_next {l : List Int} {k : Nat} {z : Int} (h : l[k]? = some z) (hf : fits (l.take k) = true) (hz : z.natAbs < big512) : fits (l.take (k + 1)) = true := by
  have hk : k < l.length := (List.getElem?_eq_some_iff.1 h).1
  have hg : l[k] = z := (List.getElem?_eq_some_iff.1 h).2
  unfold fits at *
  rw [List.take_succ_eq_append_getElem hk, List.all_append, hf, hg]
  simp [hz]
theorem blsI4 {d e f g i j k m : D} : Bls Try.prog 87 4 [0, 1, 2, 3] [aggD [d, e], aggD [f, g], aggD [i, j], aggD [k, m]] [d, e, f, g, i, j, k, m] := ⟨24, fun L w vs h => by
  cases vs with
  | nil => exact h.elim
  | cons u vs =>
    obtain ⟨v, z, y, rfl, hv, hz, hy⟩ := all3 h.2
    obtain ⟨a, b, rfl, h1, h2⟩ := agg2 h.1
    obtain ⟨a', b', rfl, h3, h4⟩ := agg2 hv
    obtain ⟨a2, b2, rfl, h5, h6⟩ := agg2 hz
    obtain ⟨a3, b3, rfl, h7, h8⟩ := agg2 hy
    exact ⟨[a, b, a', b', a2, b2, a3, b3], ⟨h1, h2, h3, h4, h5, h6, h7, h8, trivial⟩, fun w' => by kernel_rfl⟩⟩
theorem mul_b2 {x y : Int} (hx : x.natAbs < big512) (hy : y.natAbs < big512) : (x * y).natAbs < b2 := by rw [Int.natAbs_mul]; exact b2_mul hx hy
set_option maxHeartbeats 4000000 in
set_option maxRecDepth 100000 in
theorem con_limQ {pre l : List Int} {n d : Int} (hl : l = pre ++ [n, d]) (hp : pre.length ≤ 1000) (h0 : d ≠ 0) : Con Try.prog 108 [rwD l.length (rowsZ l)] (tupD [ratD (qN l (n) (d)) (qD l (n) (d)), errD (qE l)]) := by
  have hlen : l.length = pre.length + 2 := by rw [hl]; simp
  have hN : l[pre.length]? = some n := by rw [hl]; simp
  have hD : l[pre.length + 1]? = some d := by rw [hl, List.getElem?_append_right (by omega)]; simp
  have hrl := rowsZ_len l
  refine con_of Try.func108 (by kernel_rfl) rfl (by kernel_rfl) fun base w0 => ?_
  refine SW.seq ?_
  refine SW.region ?_
  refine SWl.ef (S := []) (Ef.alloc (zs := [.bool false, .slice none 0 0, .bool false, .slice none 0 0]) (by kernel_rfl) rfl) ?_
  rintro _ ⟨g2, rfl⟩
  refine SWl.rd rfl (Rd.assign rfl) ?_
  refine SWl.nil ?_
  refine SN.then ?_
  refine SW.seq ?_
  refine SW.seq ?_
  refine SW.region ?_
  refine SWl.rd rfl (Rd.assign rfl) ?_
  refine SWl.nil ?_
  refine SN.then ?_
  refine SW.block ?_
  refine SW.loop (ι := {k : Nat // k ≤ l.length ∧ fits (l.take k) = true}) (fun ⟨k, hk, hk2⟩ => St.of [(2, isD (.pointer (some ⟨g2, 0, none⟩))), (0, rwD l.length (rowsZ l)), (3, errD 0), (4, errD (k : Int))] [(g2, [isD (.bool false), isD (.slice none 0 0), isD (.bool false), isD (.slice none 0 0)])]) (fun ⟨k, hk, hk2⟩ => l.length - k) (⟨0, Nat.zero_le _, by simp [fits]⟩) ?_ ?_
  · exact ⟨⟨_, rfl, ⟨⟨_, rfl, Le.refl _⟩, ⟨⟨_, rfl, Le.refl _⟩, ⟨⟨_, rfl, Le.refl _⟩, ⟨⟨_, rfl, Le.refl _⟩, trivial⟩⟩⟩⟩⟩, [0], by decide, ⟨⟨_, rfl, LeAll.refl _⟩, trivial⟩⟩
  · rintro ⟨k, hk, hk2⟩ K0 hK0
    refine SW.seq ?_
    refine SW.seq ?_
    refine SW.region ?_
    refine SWl.rd rfl (Rd.move rfl) ?_
    refine SWl.rd rfl (Rd.move rfl) ?_
    refine SWl.rd rfl (Rd.lenR (e := 24) rfl (by kernel_rfl)) ?_
    refine SWl.rd rfl (Rd.lss rfl rfl) ?_
    refine SWl.nil ?_
    refine SN.then ?_
    refine SW.cond rfl (fun hb8 => ?_) (fun hb8 => ?_)
    · have hltI := of_decide_eq_true hb8; obtain ⟨z, hz⟩ : ∃ z, l[k]? = some z := ⟨l[k]'(by have := of_decide_eq_true hb8; omega), List.getElem?_eq_getElem _⟩
      refine SW.skip ?_
      refine SN.then ?_
      refine SW.seq ?_
      refine SW.block ?_
      refine SW.seq ?_
      refine SW.region ?_
      refine SWl.rd rfl (Rd.move rfl) ?_
      refine SWl.rd rfl (Rd.move rfl) ?_
      refine SWl.rd rfl (Rd.idxR (e := 24) 2 rfl rfl (by kernel_rfl) (by kernel_rfl) (by omega) (by omega) (by rw [hrl]; omega)) ?_
      refine SWl.weak 13 rfl (le_pa (rowsZ_drop l hz)) ?_
      refine SWl.rd rfl (Rd.fieldR (n := 1) rfl (by kernel_rfl) (by simp)) ?_
      refine SWl.rd rfl (Rd.loadR rfl rfl (by kernel_rfl) (by simp)) ?_
      refine SWl.rd rfl (Rd.len (e := 5) rfl (by kernel_rfl)) ?_
      refine SWl.rd rfl (Rd.gtr rfl rfl) ?_
      refine SWl.nil ?_
      refine SN.then ?_
      refine SW.cond rfl (fun hb17 => ?_) (fun hb17 => ?_)
      · have hff := fits_no hz (fun hlt => by have := (lim_len hb17).2; rw [(lim_ok hlt).2] at this; cases this)
        refine SW.seq ?_
        refine SW.region ?_
        refine SWl.rd rfl (Rd.build rfl rfl bldR0) ?_
        refine SWl.ef (S := [_]) (Ef.storeA 0 rfl rfl rfl (by kernel_rfl) rfl (List.mem_singleton.2 rfl)) ?_
        rintro _ rfl
        refine SWl.rd rfl (Rd.assign rfl) ?_
        refine SWl.nil ?_
        refine SN.then ?_
        refine SW.ret (fn := Try.f108) (fun _ _ h => h) (Rs.le (Rs.two rfl (ResV.cellA 0 rfl rfl (by kernel_rfl)) (ResV.tmp rfl)) ?_)
        exact Le.tup ⟨le_rat0.trans (le_rat (by unfold qN; rw [hff]; rfl) (by unfold qD; rw [hff]; rfl)), le_err (by unfold qE; rw [hff]; rfl), trivial⟩
      · have hz5 := lim_len' hb17
        refine SW.skip ?_
        refine SN.block ?_
        refine SN.then ?_
        refine SW.region ?_
        refine SWl.rd rfl (Rd.move rfl) ?_
        refine SWl.rd rfl (Rd.add rfl rfl ⟨by omega, by omega⟩) ?_
        refine SWl.rd rfl (Rd.assign rfl) ?_
        refine SWl.nil ?_
        exact fun a w hh => hK0 (⟨k + 1, (List.getElem?_eq_some_iff.1 hz).1, fits_next hz hk2 hz5⟩) (by show l.length - (k + 1) < l.length - k; have := (List.getElem?_eq_some_iff.1 hz).1; omega) a w (hh.sub (⟨⟨_, rfl, ⟨⟨_, rfl, Le.refl _⟩, ⟨⟨_, rfl, Le.refl _⟩, ⟨⟨_, rfl, Le.refl _⟩, ⟨⟨_, rfl, le_err (by omega)⟩, trivial⟩⟩⟩⟩⟩, [0], by decide, ⟨⟨_, rfl, LeAll.refl _⟩, trivial⟩⟩))
    · have hf : fits l = true := (by have := of_decide_eq_false hb8; rw [List.take_of_length_le (by omega)] at hk2; exact hk2); have hn5 := fits_mem hf (List.mem_of_getElem? hN); have hd5 := fits_mem hf (List.mem_of_getElem? hD)
      refine SW.exit' ?_
      repeat (first | refine SE.then ?_ | refine SE.skip (by decide) ?_)
      refine SE.here ?_
      refine SN.then ?_
      refine SW.seq ?_
      refine SW.draw [g2] (.r 0 (.r 1 (.r 2 (.r 3 (.r 4 (.r 5 (.r 6 (.r 7 (.r 8 (.r 9 (.r 10 (.r 11 (.n 12 (.e 13 (.r 14 .fin) .no) .no))))))))))))) (by kernel_rfl) (by kernel_rfl) (fun d _ _ _ _ h => by cases d <;> exact h) ?_
      refine SWz.rd (i := 0) rfl rfl (Rd.move rfl) ?_
      refine SWz.rd (i := 1) rfl rfl (Rd.move rfl) ?_
      refine SWz.rd (i := 2) rfl rfl (Rd.lenR (e := 24) rfl (by kernel_rfl)) ?_
      refine SWz.rd (i := 3) rfl rfl (Rd.subi rfl rfl ⟨by omega, by omega⟩) ?_
      refine SWz.rd (i := 4) rfl rfl (Rd.idxR (e := 24) 2 rfl rfl (by kernel_rfl) (by kernel_rfl) (by omega) (by omega) (by rw [hrl]; omega)) ?_
      refine SWz.weak 23 rfl (le_pa (es := isD (.bool (decide (n < 0))) :: bytD n.natAbs :: rowsZ (l.drop (pre.length + 1))) (by rw [show ((l.length : Int) - 2).toNat = pre.length by omega]; exact rowsZ_drop l hN)) ?_
      refine SWz.rd (i := 5) rfl rfl (Rd.loadRA 2 rfl (by kernel_rfl) (by decide) (by simp) (ins_cons (j := 0) rfl ins_nil)) ?_
      refine SWz.rd (i := 6) rfl rfl (Rd.move rfl) ?_
      refine SWz.rd (i := 7) rfl rfl (Rd.move rfl) ?_
      refine SWz.rd (i := 8) rfl rfl (Rd.lenR (e := 24) rfl (by kernel_rfl)) ?_
      refine SWz.rd (i := 9) rfl rfl (Rd.subi rfl rfl ⟨by omega, by omega⟩) ?_
      refine SWz.rd (i := 10) rfl rfl (Rd.idxR (e := 24) 2 rfl rfl (by kernel_rfl) (by kernel_rfl) (by omega) (by omega) (by rw [hrl]; omega)) ?_
      refine SWz.weak 29 rfl (le_pa (es := isD (.bool (decide (d < 0))) :: bytD d.natAbs :: rowsZ (l.drop (pre.length + 2))) (by rw [show ((l.length : Int) - 1).toNat = pre.length + 1 by omega]; exact rowsZ_drop l hD)) ?_
      refine SWz.rd (i := 11) rfl rfl (Rd.loadRA 2 rfl (by kernel_rfl) (by decide) (by simp) (ins_cons (j := 0) rfl ins_nil)) ?_
      refine SWz.efn (i := 12) rfl (Ef.call (con_reduceR hn5 hd5 h0) rfl ⟨Le.refl _, Le.refl _, trivial⟩ rfl) ?_ SWz.no
      rintro _ rfl
      refine SWz.efe (i := 13) rfl (Ef.storeA 0 rfl rfl rfl (by kernel_rfl) rfl (List.mem_of_getElem? (i := 0) rfl)) ?_ SWz.no
      rintro _ rfl
      refine SWz.rd (i := 14) rfl rfl (Rd.assign rfl) ?_
      refine SWz.nil ?_
      refine SN.then ?_
      refine SW.ret (fn := Try.f108) (fun _ _ h => h) (Rs.le (Rs.two rfl (ResV.cellA 0 rfl rfl (by kernel_rfl)) (ResV.tmp rfl)) ?_)
      exact Le.tup ⟨le_rat (by unfold qN; rw [if_pos hf]) (by unfold qD; rw [if_pos hf]), le_err (by unfold qE; rw [if_pos hf]), trivial⟩
set_option maxHeartbeats 4000000 in
set_option maxRecDepth 100000 in
theorem con_addQR {a b c e : Int} (hG : Good a b) (hH : Good c e) : Con Try.prog 68 [ratD a b, ratD c e] (tupD [ratD (qN [a * e, c * b, a * e + c * b, b * e] (a * e + c * b) (b * e)) (qD [a * e, c * b, a * e + c * b, b * e] (a * e + c * b) (b * e)), errD (qE [a * e, c * b, a * e + c * b, b * e])]) := by
  have ha4 := b4_512 hG.hn
  have hb4 := b4_512 hG.hd
  have hc4 := b4_512 hH.hn
  have he4 := b4_512 hH.hd
  refine con_of Try.func68 (by kernel_rfl) rfl (by kernel_rfl) fun base w0 => ?_
  refine SW.seq ?_
  refine SW.region ?_
  refine SWl.ef (S := []) (Ef.boxA rfl rfl) ?_
  rintro _ ⟨g2, rfl⟩
  refine SWl.ef (S := []) (Ef.boxA rfl rfl) ?_
  rintro _ ⟨g3, rfl⟩
  refine SWl.ef (S := []) (Ef.alloc (zs := [.bool false, .slice none 0 0, .bool false, .slice none 0 0]) (by kernel_rfl) rfl) ?_
  rintro _ ⟨g4, rfl⟩
  refine SWl.rd rfl (Rd.assign rfl) ?_
  refine SWl.nil ?_
  refine SN.then ?_
  refine SW.seq ?_
  refine SW.meet (fun σ => ∃ g6 g7, σ = St.of [(2, isD (.pointer (some ⟨g2, 0, none⟩))), (3, isD (.pointer (some ⟨g3, 0, none⟩))), (4, isD (.pointer (some ⟨g4, 0, none⟩))), (6, isD (.pointer (some ⟨g6, 0, none⟩))), (7, isD (.pointer (some ⟨g7, 0, none⟩)))] [(g2, ratC (a) (b)), (g3, ratC (c) (e)), (g4, [isD (.bool false), isD (.slice none 0 0), isD (.bool false), isD (.slice none 0 0)]), (g6, intC (a * e)), (g7, intC (c * b))]) ?_ ?_
  · refine SW.draw [] (.r 0 (.r 1 (.r 2 (.r 3 (.r 5 (.r 6 (.r 7 (.r 8 (.n 4 (.n 9 (.n 10 (.n 11 (.e 12 (.e 13 .fin .no) .no) .no) (.n 11 (.n 10 (.e 12 (.e 13 .fin .no) .no) .no) .no)) (.n 10 (.n 9 (.n 11 (.e 12 (.e 13 .fin .no) .no) .no) (.n 11 (.n 9 (.e 12 (.e 13 .fin .no) .no) .no) .no)) (.n 11 (.n 9 (.n 10 (.e 12 (.e 13 .fin .no) .no) .no) (.n 10 (.n 9 (.e 12 (.e 13 .fin .no) .no) .no) .no)) .no))) (.n 10 (.n 4 (.n 9 (.n 11 (.e 12 (.e 13 .fin .no) .no) .no) (.n 11 (.n 9 (.e 12 (.e 13 .fin .no) .no) .no) .no)) (.n 11 (.n 4 (.n 9 (.e 12 (.e 13 .fin .no) .no) .no) .no) .no)) (.n 11 (.n 4 (.n 9 (.n 10 (.e 12 (.e 13 .fin .no) .no) .no) (.n 10 (.n 9 (.e 12 (.e 13 .fin .no) .no) .no) .no)) (.n 10 (.n 4 (.n 9 (.e 12 (.e 13 .fin .no) .no) .no) .no) .no)) .no))))))))))) (by kernel_rfl) (by kernel_rfl) (fun d _ _ _ _ h => by cases d <;> exact h) ?_
    refine SWz.rd (i := 0) rfl rfl (Rd.fieldAddr (n := 0) rfl (by kernel_rfl)) ?_
    refine SWz.rd (i := 1) rfl rfl (Rd.loadA 0 2 rfl rfl (by kernel_rfl) rfl trivial) ?_
    refine SWz.rd (i := 2) rfl rfl (Rd.fieldAddr (n := 2) rfl (by kernel_rfl)) ?_
    refine SWz.rd (i := 3) rfl rfl (Rd.loadA 1 2 rfl rfl (by kernel_rfl) rfl trivial) ?_
    refine SWz.rd (i := 5) rfl rfl (Rd.fieldAddr (n := 0) rfl (by kernel_rfl)) ?_
    refine SWz.rd (i := 6) rfl rfl (Rd.loadA 1 2 rfl rfl (by kernel_rfl) rfl trivial) ?_
    refine SWz.rd (i := 7) rfl rfl (Rd.fieldAddr (n := 2) rfl (by kernel_rfl)) ?_
    refine SWz.rd (i := 8) rfl rfl (Rd.loadA 0 2 rfl rfl (by kernel_rfl) rfl trivial) ?_
    refine SWz.efn (i := 4) rfl (Ef.call (con_productR (by assumption) (by assumption)) rfl ⟨Le.refl _, Le.refl _, trivial⟩ rfl) ?_ ?_
    · rintro _ rfl
      refine SWz.efn (i := 9) rfl (Ef.call (con_productR (by assumption) (by assumption)) rfl ⟨Le.refl _, Le.refl _, trivial⟩ rfl) ?_ ?_
      · rintro _ rfl
        refine SWz.efb (i := 10) rfl (EfB.alloc (zs := [.bool false, .slice none 0 0]) (by kernel_rfl) rfl) ?_ ?_
        · rintro g6 _ rfl
          refine SWz.efb (i := 11) rfl (EfB.alloc (zs := [.bool false, .slice none 0 0]) (by kernel_rfl) rfl) ?_ SWz.no
          rintro g7 _ rfl
          refine SWz.efe (i := 12) rfl (Ef.storeA 3 rfl rfl rfl (by kernel_rfl) rfl (List.mem_of_getElem? (i := 0) rfl)) ?_ SWz.no
          rintro _ rfl
          refine SWz.efe (i := 13) rfl (Ef.storeA 4 rfl rfl rfl (by kernel_rfl) rfl (List.mem_of_getElem? (i := 1) rfl)) ?_ SWz.no
          rintro _ rfl
          refine SWz.nil ?_
          exact SN.meet ⟨g6, g7, rfl⟩ (⟨⟨_, rfl, ⟨⟨_, rfl, Le.refl _⟩, ⟨⟨_, rfl, Le.refl _⟩, ⟨⟨_, rfl, Le.refl _⟩, ⟨⟨_, rfl, Le.refl _⟩, ⟨⟨_, rfl, Le.refl _⟩, trivial⟩⟩⟩⟩⟩⟩, [0, 1, 2, 3, 4], by decide, ⟨⟨_, rfl, LeAll.refl _⟩, ⟨⟨_, rfl, LeAll.refl _⟩, ⟨⟨_, rfl, LeAll.refl _⟩, ⟨⟨_, rfl, LeAll.refl _⟩, ⟨⟨_, rfl, LeAll.refl _⟩, trivial⟩⟩⟩⟩⟩⟩)
        refine SWz.efb (i := 11) rfl (EfB.alloc (zs := [.bool false, .slice none 0 0]) (by kernel_rfl) rfl) ?_ SWz.no
        rintro g7 _ rfl
        refine SWz.efb (i := 10) rfl (EfB.alloc (zs := [.bool false, .slice none 0 0]) (by kernel_rfl) rfl) ?_ SWz.no
        rintro g6 _ rfl
        refine SWz.efe (i := 12) rfl (Ef.storeA 4 rfl rfl rfl (by kernel_rfl) rfl (List.mem_of_getElem? (i := 1) rfl)) ?_ SWz.no
        rintro _ rfl
        refine SWz.efe (i := 13) rfl (Ef.storeA 3 rfl rfl rfl (by kernel_rfl) rfl (List.mem_of_getElem? (i := 0) rfl)) ?_ SWz.no
        rintro _ rfl
        refine SWz.nil ?_
        exact SN.meet ⟨g6, g7, rfl⟩ (⟨⟨_, rfl, ⟨⟨_, rfl, Le.refl _⟩, ⟨⟨_, rfl, Le.refl _⟩, ⟨⟨_, rfl, Le.refl _⟩, ⟨⟨_, rfl, Le.refl _⟩, ⟨⟨_, rfl, Le.refl _⟩, trivial⟩⟩⟩⟩⟩⟩, [0, 1, 2, 4, 3], by decide, ⟨⟨_, rfl, LeAll.refl _⟩, ⟨⟨_, rfl, LeAll.refl _⟩, ⟨⟨_, rfl, LeAll.refl _⟩, ⟨⟨_, rfl, LeAll.refl _⟩, ⟨⟨_, rfl, LeAll.refl _⟩, trivial⟩⟩⟩⟩⟩⟩)
      refine SWz.efb (i := 10) rfl (EfB.alloc (zs := [.bool false, .slice none 0 0]) (by kernel_rfl) rfl) ?_ ?_
      · rintro g6 _ rfl
        refine SWz.efn (i := 9) rfl (Ef.call (con_productR (by assumption) (by assumption)) rfl ⟨Le.refl _, Le.refl _, trivial⟩ rfl) ?_ ?_
        · rintro _ rfl
          refine SWz.efb (i := 11) rfl (EfB.alloc (zs := [.bool false, .slice none 0 0]) (by kernel_rfl) rfl) ?_ SWz.no
          rintro g7 _ rfl
          refine SWz.efe (i := 12) rfl (Ef.storeA 3 rfl rfl rfl (by kernel_rfl) rfl (List.mem_of_getElem? (i := 0) rfl)) ?_ SWz.no
          rintro _ rfl
          refine SWz.efe (i := 13) rfl (Ef.storeA 4 rfl rfl rfl (by kernel_rfl) rfl (List.mem_of_getElem? (i := 1) rfl)) ?_ SWz.no
          rintro _ rfl
          refine SWz.nil ?_
          exact SN.meet ⟨g6, g7, rfl⟩ (⟨⟨_, rfl, ⟨⟨_, rfl, Le.refl _⟩, ⟨⟨_, rfl, Le.refl _⟩, ⟨⟨_, rfl, Le.refl _⟩, ⟨⟨_, rfl, Le.refl _⟩, ⟨⟨_, rfl, Le.refl _⟩, trivial⟩⟩⟩⟩⟩⟩, [0, 1, 2, 3, 4], by decide, ⟨⟨_, rfl, LeAll.refl _⟩, ⟨⟨_, rfl, LeAll.refl _⟩, ⟨⟨_, rfl, LeAll.refl _⟩, ⟨⟨_, rfl, LeAll.refl _⟩, ⟨⟨_, rfl, LeAll.refl _⟩, trivial⟩⟩⟩⟩⟩⟩)
        refine SWz.efb (i := 11) rfl (EfB.alloc (zs := [.bool false, .slice none 0 0]) (by kernel_rfl) rfl) ?_ SWz.no
        rintro g7 _ rfl
        refine SWz.efn (i := 9) rfl (Ef.call (con_productR (by assumption) (by assumption)) rfl ⟨Le.refl _, Le.refl _, trivial⟩ rfl) ?_ SWz.no
        rintro _ rfl
        refine SWz.efe (i := 12) rfl (Ef.storeA 3 rfl rfl rfl (by kernel_rfl) rfl (List.mem_of_getElem? (i := 0) rfl)) ?_ SWz.no
        rintro _ rfl
        refine SWz.efe (i := 13) rfl (Ef.storeA 4 rfl rfl rfl (by kernel_rfl) rfl (List.mem_of_getElem? (i := 1) rfl)) ?_ SWz.no
        rintro _ rfl
        refine SWz.nil ?_
        exact SN.meet ⟨g6, g7, rfl⟩ (⟨⟨_, rfl, ⟨⟨_, rfl, Le.refl _⟩, ⟨⟨_, rfl, Le.refl _⟩, ⟨⟨_, rfl, Le.refl _⟩, ⟨⟨_, rfl, Le.refl _⟩, ⟨⟨_, rfl, Le.refl _⟩, trivial⟩⟩⟩⟩⟩⟩, [0, 1, 2, 3, 4], by decide, ⟨⟨_, rfl, LeAll.refl _⟩, ⟨⟨_, rfl, LeAll.refl _⟩, ⟨⟨_, rfl, LeAll.refl _⟩, ⟨⟨_, rfl, LeAll.refl _⟩, ⟨⟨_, rfl, LeAll.refl _⟩, trivial⟩⟩⟩⟩⟩⟩)
      refine SWz.efb (i := 11) rfl (EfB.alloc (zs := [.bool false, .slice none 0 0]) (by kernel_rfl) rfl) ?_ SWz.no
      rintro g7 _ rfl
      refine SWz.efn (i := 9) rfl (Ef.call (con_productR (by assumption) (by assumption)) rfl ⟨Le.refl _, Le.refl _, trivial⟩ rfl) ?_ ?_
      · rintro _ rfl
        refine SWz.efb (i := 10) rfl (EfB.alloc (zs := [.bool false, .slice none 0 0]) (by kernel_rfl) rfl) ?_ SWz.no
        rintro g6 _ rfl
        refine SWz.efe (i := 12) rfl (Ef.storeA 4 rfl rfl rfl (by kernel_rfl) rfl (List.mem_of_getElem? (i := 1) rfl)) ?_ SWz.no
        rintro _ rfl
        refine SWz.efe (i := 13) rfl (Ef.storeA 3 rfl rfl rfl (by kernel_rfl) rfl (List.mem_of_getElem? (i := 0) rfl)) ?_ SWz.no
        rintro _ rfl
        refine SWz.nil ?_
        exact SN.meet ⟨g6, g7, rfl⟩ (⟨⟨_, rfl, ⟨⟨_, rfl, Le.refl _⟩, ⟨⟨_, rfl, Le.refl _⟩, ⟨⟨_, rfl, Le.refl _⟩, ⟨⟨_, rfl, Le.refl _⟩, ⟨⟨_, rfl, Le.refl _⟩, trivial⟩⟩⟩⟩⟩⟩, [0, 1, 2, 4, 3], by decide, ⟨⟨_, rfl, LeAll.refl _⟩, ⟨⟨_, rfl, LeAll.refl _⟩, ⟨⟨_, rfl, LeAll.refl _⟩, ⟨⟨_, rfl, LeAll.refl _⟩, ⟨⟨_, rfl, LeAll.refl _⟩, trivial⟩⟩⟩⟩⟩⟩)
      refine SWz.efb (i := 10) rfl (EfB.alloc (zs := [.bool false, .slice none 0 0]) (by kernel_rfl) rfl) ?_ SWz.no
      rintro g6 _ rfl
      refine SWz.efn (i := 9) rfl (Ef.call (con_productR (by assumption) (by assumption)) rfl ⟨Le.refl _, Le.refl _, trivial⟩ rfl) ?_ SWz.no
      rintro _ rfl
      refine SWz.efe (i := 12) rfl (Ef.storeA 4 rfl rfl rfl (by kernel_rfl) rfl (List.mem_of_getElem? (i := 1) rfl)) ?_ SWz.no
      rintro _ rfl
      refine SWz.efe (i := 13) rfl (Ef.storeA 3 rfl rfl rfl (by kernel_rfl) rfl (List.mem_of_getElem? (i := 0) rfl)) ?_ SWz.no
      rintro _ rfl
      refine SWz.nil ?_
      exact SN.meet ⟨g6, g7, rfl⟩ (⟨⟨_, rfl, ⟨⟨_, rfl, Le.refl _⟩, ⟨⟨_, rfl, Le.refl _⟩, ⟨⟨_, rfl, Le.refl _⟩, ⟨⟨_, rfl, Le.refl _⟩, ⟨⟨_, rfl, Le.refl _⟩, trivial⟩⟩⟩⟩⟩⟩, [0, 1, 2, 4, 3], by decide, ⟨⟨_, rfl, LeAll.refl _⟩, ⟨⟨_, rfl, LeAll.refl _⟩, ⟨⟨_, rfl, LeAll.refl _⟩, ⟨⟨_, rfl, LeAll.refl _⟩, ⟨⟨_, rfl, LeAll.refl _⟩, trivial⟩⟩⟩⟩⟩⟩)
    refine SWz.efb (i := 10) rfl (EfB.alloc (zs := [.bool false, .slice none 0 0]) (by kernel_rfl) rfl) ?_ ?_
    · rintro g6 _ rfl
      refine SWz.efn (i := 4) rfl (Ef.call (con_productR (by assumption) (by assumption)) rfl ⟨Le.refl _, Le.refl _, trivial⟩ rfl) ?_ ?_
      · rintro _ rfl
        refine SWz.efn (i := 9) rfl (Ef.call (con_productR (by assumption) (by assumption)) rfl ⟨Le.refl _, Le.refl _, trivial⟩ rfl) ?_ ?_
        · rintro _ rfl
          refine SWz.efb (i := 11) rfl (EfB.alloc (zs := [.bool false, .slice none 0 0]) (by kernel_rfl) rfl) ?_ SWz.no
          rintro g7 _ rfl
          refine SWz.efe (i := 12) rfl (Ef.storeA 3 rfl rfl rfl (by kernel_rfl) rfl (List.mem_of_getElem? (i := 0) rfl)) ?_ SWz.no
          rintro _ rfl
          refine SWz.efe (i := 13) rfl (Ef.storeA 4 rfl rfl rfl (by kernel_rfl) rfl (List.mem_of_getElem? (i := 1) rfl)) ?_ SWz.no
          rintro _ rfl
          refine SWz.nil ?_
          exact SN.meet ⟨g6, g7, rfl⟩ (⟨⟨_, rfl, ⟨⟨_, rfl, Le.refl _⟩, ⟨⟨_, rfl, Le.refl _⟩, ⟨⟨_, rfl, Le.refl _⟩, ⟨⟨_, rfl, Le.refl _⟩, ⟨⟨_, rfl, Le.refl _⟩, trivial⟩⟩⟩⟩⟩⟩, [0, 1, 2, 3, 4], by decide, ⟨⟨_, rfl, LeAll.refl _⟩, ⟨⟨_, rfl, LeAll.refl _⟩, ⟨⟨_, rfl, LeAll.refl _⟩, ⟨⟨_, rfl, LeAll.refl _⟩, ⟨⟨_, rfl, LeAll.refl _⟩, trivial⟩⟩⟩⟩⟩⟩)
        refine SWz.efb (i := 11) rfl (EfB.alloc (zs := [.bool false, .slice none 0 0]) (by kernel_rfl) rfl) ?_ SWz.no
        rintro g7 _ rfl
        refine SWz.efn (i := 9) rfl (Ef.call (con_productR (by assumption) (by assumption)) rfl ⟨Le.refl _, Le.refl _, trivial⟩ rfl) ?_ SWz.no
        rintro _ rfl
        refine SWz.efe (i := 12) rfl (Ef.storeA 3 rfl rfl rfl (by kernel_rfl) rfl (List.mem_of_getElem? (i := 0) rfl)) ?_ SWz.no
        rintro _ rfl
        refine SWz.efe (i := 13) rfl (Ef.storeA 4 rfl rfl rfl (by kernel_rfl) rfl (List.mem_of_getElem? (i := 1) rfl)) ?_ SWz.no
        rintro _ rfl
        refine SWz.nil ?_
        exact SN.meet ⟨g6, g7, rfl⟩ (⟨⟨_, rfl, ⟨⟨_, rfl, Le.refl _⟩, ⟨⟨_, rfl, Le.refl _⟩, ⟨⟨_, rfl, Le.refl _⟩, ⟨⟨_, rfl, Le.refl _⟩, ⟨⟨_, rfl, Le.refl _⟩, trivial⟩⟩⟩⟩⟩⟩, [0, 1, 2, 3, 4], by decide, ⟨⟨_, rfl, LeAll.refl _⟩, ⟨⟨_, rfl, LeAll.refl _⟩, ⟨⟨_, rfl, LeAll.refl _⟩, ⟨⟨_, rfl, LeAll.refl _⟩, ⟨⟨_, rfl, LeAll.refl _⟩, trivial⟩⟩⟩⟩⟩⟩)
      refine SWz.efb (i := 11) rfl (EfB.alloc (zs := [.bool false, .slice none 0 0]) (by kernel_rfl) rfl) ?_ SWz.no
      rintro g7 _ rfl
      refine SWz.efn (i := 4) rfl (Ef.call (con_productR (by assumption) (by assumption)) rfl ⟨Le.refl _, Le.refl _, trivial⟩ rfl) ?_ SWz.no
      rintro _ rfl
      refine SWz.efn (i := 9) rfl (Ef.call (con_productR (by assumption) (by assumption)) rfl ⟨Le.refl _, Le.refl _, trivial⟩ rfl) ?_ SWz.no
      rintro _ rfl
      refine SWz.efe (i := 12) rfl (Ef.storeA 3 rfl rfl rfl (by kernel_rfl) rfl (List.mem_of_getElem? (i := 0) rfl)) ?_ SWz.no
      rintro _ rfl
      refine SWz.efe (i := 13) rfl (Ef.storeA 4 rfl rfl rfl (by kernel_rfl) rfl (List.mem_of_getElem? (i := 1) rfl)) ?_ SWz.no
      rintro _ rfl
      refine SWz.nil ?_
      exact SN.meet ⟨g6, g7, rfl⟩ (⟨⟨_, rfl, ⟨⟨_, rfl, Le.refl _⟩, ⟨⟨_, rfl, Le.refl _⟩, ⟨⟨_, rfl, Le.refl _⟩, ⟨⟨_, rfl, Le.refl _⟩, ⟨⟨_, rfl, Le.refl _⟩, trivial⟩⟩⟩⟩⟩⟩, [0, 1, 2, 3, 4], by decide, ⟨⟨_, rfl, LeAll.refl _⟩, ⟨⟨_, rfl, LeAll.refl _⟩, ⟨⟨_, rfl, LeAll.refl _⟩, ⟨⟨_, rfl, LeAll.refl _⟩, ⟨⟨_, rfl, LeAll.refl _⟩, trivial⟩⟩⟩⟩⟩⟩)
    refine SWz.efb (i := 11) rfl (EfB.alloc (zs := [.bool false, .slice none 0 0]) (by kernel_rfl) rfl) ?_ SWz.no
    rintro g7 _ rfl
    refine SWz.efn (i := 4) rfl (Ef.call (con_productR (by assumption) (by assumption)) rfl ⟨Le.refl _, Le.refl _, trivial⟩ rfl) ?_ ?_
    · rintro _ rfl
      refine SWz.efn (i := 9) rfl (Ef.call (con_productR (by assumption) (by assumption)) rfl ⟨Le.refl _, Le.refl _, trivial⟩ rfl) ?_ ?_
      · rintro _ rfl
        refine SWz.efb (i := 10) rfl (EfB.alloc (zs := [.bool false, .slice none 0 0]) (by kernel_rfl) rfl) ?_ SWz.no
        rintro g6 _ rfl
        refine SWz.efe (i := 12) rfl (Ef.storeA 4 rfl rfl rfl (by kernel_rfl) rfl (List.mem_of_getElem? (i := 1) rfl)) ?_ SWz.no
        rintro _ rfl
        refine SWz.efe (i := 13) rfl (Ef.storeA 3 rfl rfl rfl (by kernel_rfl) rfl (List.mem_of_getElem? (i := 0) rfl)) ?_ SWz.no
        rintro _ rfl
        refine SWz.nil ?_
        exact SN.meet ⟨g6, g7, rfl⟩ (⟨⟨_, rfl, ⟨⟨_, rfl, Le.refl _⟩, ⟨⟨_, rfl, Le.refl _⟩, ⟨⟨_, rfl, Le.refl _⟩, ⟨⟨_, rfl, Le.refl _⟩, ⟨⟨_, rfl, Le.refl _⟩, trivial⟩⟩⟩⟩⟩⟩, [0, 1, 2, 4, 3], by decide, ⟨⟨_, rfl, LeAll.refl _⟩, ⟨⟨_, rfl, LeAll.refl _⟩, ⟨⟨_, rfl, LeAll.refl _⟩, ⟨⟨_, rfl, LeAll.refl _⟩, ⟨⟨_, rfl, LeAll.refl _⟩, trivial⟩⟩⟩⟩⟩⟩)
      refine SWz.efb (i := 10) rfl (EfB.alloc (zs := [.bool false, .slice none 0 0]) (by kernel_rfl) rfl) ?_ SWz.no
      rintro g6 _ rfl
      refine SWz.efn (i := 9) rfl (Ef.call (con_productR (by assumption) (by assumption)) rfl ⟨Le.refl _, Le.refl _, trivial⟩ rfl) ?_ SWz.no
      rintro _ rfl
      refine SWz.efe (i := 12) rfl (Ef.storeA 4 rfl rfl rfl (by kernel_rfl) rfl (List.mem_of_getElem? (i := 1) rfl)) ?_ SWz.no
      rintro _ rfl
      refine SWz.efe (i := 13) rfl (Ef.storeA 3 rfl rfl rfl (by kernel_rfl) rfl (List.mem_of_getElem? (i := 0) rfl)) ?_ SWz.no
      rintro _ rfl
      refine SWz.nil ?_
      exact SN.meet ⟨g6, g7, rfl⟩ (⟨⟨_, rfl, ⟨⟨_, rfl, Le.refl _⟩, ⟨⟨_, rfl, Le.refl _⟩, ⟨⟨_, rfl, Le.refl _⟩, ⟨⟨_, rfl, Le.refl _⟩, ⟨⟨_, rfl, Le.refl _⟩, trivial⟩⟩⟩⟩⟩⟩, [0, 1, 2, 4, 3], by decide, ⟨⟨_, rfl, LeAll.refl _⟩, ⟨⟨_, rfl, LeAll.refl _⟩, ⟨⟨_, rfl, LeAll.refl _⟩, ⟨⟨_, rfl, LeAll.refl _⟩, ⟨⟨_, rfl, LeAll.refl _⟩, trivial⟩⟩⟩⟩⟩⟩)
    refine SWz.efb (i := 10) rfl (EfB.alloc (zs := [.bool false, .slice none 0 0]) (by kernel_rfl) rfl) ?_ SWz.no
    rintro g6 _ rfl
    refine SWz.efn (i := 4) rfl (Ef.call (con_productR (by assumption) (by assumption)) rfl ⟨Le.refl _, Le.refl _, trivial⟩ rfl) ?_ SWz.no
    rintro _ rfl
    refine SWz.efn (i := 9) rfl (Ef.call (con_productR (by assumption) (by assumption)) rfl ⟨Le.refl _, Le.refl _, trivial⟩ rfl) ?_ SWz.no
    rintro _ rfl
    refine SWz.efe (i := 12) rfl (Ef.storeA 4 rfl rfl rfl (by kernel_rfl) rfl (List.mem_of_getElem? (i := 1) rfl)) ?_ SWz.no
    rintro _ rfl
    refine SWz.efe (i := 13) rfl (Ef.storeA 3 rfl rfl rfl (by kernel_rfl) rfl (List.mem_of_getElem? (i := 0) rfl)) ?_ SWz.no
    rintro _ rfl
    refine SWz.nil ?_
    exact SN.meet ⟨g6, g7, rfl⟩ (⟨⟨_, rfl, ⟨⟨_, rfl, Le.refl _⟩, ⟨⟨_, rfl, Le.refl _⟩, ⟨⟨_, rfl, Le.refl _⟩, ⟨⟨_, rfl, Le.refl _⟩, ⟨⟨_, rfl, Le.refl _⟩, trivial⟩⟩⟩⟩⟩⟩, [0, 1, 2, 4, 3], by decide, ⟨⟨_, rfl, LeAll.refl _⟩, ⟨⟨_, rfl, LeAll.refl _⟩, ⟨⟨_, rfl, LeAll.refl _⟩, ⟨⟨_, rfl, LeAll.refl _⟩, ⟨⟨_, rfl, LeAll.refl _⟩, trivial⟩⟩⟩⟩⟩⟩)
  · rintro _ ⟨g6, g7, rfl⟩
    refine SN.then ?_
    refine SW.seq ?_
    refine SW.draw [g4] (.r 0 (.r 1 (.r 2 (.r 3 (.r 5 (.r 6 (.r 7 (.r 8 (.n 4 (.n 9 (.n 10 (.n 11 (.r 12 (.r 13 (.e 14 (.r 15 .fin) .no))) .no) .no) .no) .no))))))))) (by kernel_rfl) (by kernel_rfl) (fun d _ _ _ _ h => by cases d <;> exact h) ?_
    refine SWz.rd (i := 0) rfl rfl (Rd.loadA 3 2 rfl rfl (by kernel_rfl) rfl ⟨⟨2, _, rfl, by decide⟩, trivial⟩) ?_
    refine SWz.rd (i := 1) rfl rfl (Rd.loadA 4 2 rfl rfl (by kernel_rfl) rfl ⟨⟨2, _, rfl, by decide⟩, trivial⟩) ?_
    refine SWz.rd (i := 2) rfl rfl (Rd.loadA 3 2 rfl rfl (by kernel_rfl) rfl ⟨⟨2, _, rfl, by decide⟩, trivial⟩) ?_
    refine SWz.rd (i := 3) rfl rfl (Rd.loadA 4 2 rfl rfl (by kernel_rfl) rfl ⟨⟨2, _, rfl, by decide⟩, trivial⟩) ?_
    refine SWz.rd (i := 5) rfl rfl (Rd.fieldAddr (n := 2) rfl (by kernel_rfl)) ?_
    refine SWz.rd (i := 6) rfl rfl (Rd.loadA 0 2 rfl rfl (by kernel_rfl) rfl ⟨⟨2, _, rfl, by decide⟩, trivial⟩) ?_
    refine SWz.rd (i := 7) rfl rfl (Rd.fieldAddr (n := 2) rfl (by kernel_rfl)) ?_
    refine SWz.rd (i := 8) rfl rfl (Rd.loadA 1 2 rfl rfl (by kernel_rfl) rfl ⟨⟨2, _, rfl, by decide⟩, trivial⟩) ?_
    refine SWz.efn (i := 4) rfl (Ef.call (con_sumR (mul_b2 hG.hn hH.hd) (mul_b2 hH.hn hG.hd)) rfl ⟨Le.refl _, Le.refl _, trivial⟩ rfl) ?_ SWz.no
    rintro _ rfl
    refine SWz.efn (i := 9) rfl (Ef.call (con_productR (by assumption) (by assumption)) rfl ⟨Le.refl _, Le.refl _, trivial⟩ rfl) ?_ SWz.no
    rintro _ rfl
    refine SWz.efn (i := 10) rfl (Ef.litR rfl rfl blsI4 rfl) ?_ SWz.no
    rintro _ rfl
    refine SWz.efn (i := 11) rfl (Ef.call (con_limQ (pre := [a * e, c * b]) rfl (by simp) (hG.mul0 hH)) rfl ⟨Le.refl _, trivial⟩ rfl) ?_ SWz.no
    rintro _ rfl
    refine SWz.rd (i := 12) rfl rfl (Rd.extract rfl rfl) ?_
    refine SWz.rd (i := 13) rfl rfl (Rd.extract rfl rfl) ?_
    refine SWz.efe (i := 14) rfl (Ef.storeA 2 rfl rfl rfl (by kernel_rfl) rfl (List.mem_of_getElem? (i := 0) rfl)) ?_ SWz.no
    rintro _ rfl
    refine SWz.rd (i := 15) rfl rfl (Rd.assign rfl) ?_
    refine SWz.nil ?_
    refine SN.then ?_
    refine SW.ret (fn := Try.f68) (fun _ _ h => h) (Rs.two rfl (ResV.cellA 2 rfl rfl (by kernel_rfl)) (ResV.tmp rfl))
set_option maxHeartbeats 4000000 in
set_option maxRecDepth 100000 in
theorem con_mulQR {a b c e : Int} (hG : Good a b) (hH : Good c e) : Con Try.prog 70 [ratD a b, ratD c e] (tupD [ratD (qN [a * c, b * e] (a * c) (b * e)) (qD [a * c, b * e] (a * c) (b * e)), errD (qE [a * c, b * e])]) := by
  have ha4 := b4_512 hG.hn
  have hb4 := b4_512 hG.hd
  have hc4 := b4_512 hH.hn
  have he4 := b4_512 hH.hd
  refine con_of Try.func70 (by kernel_rfl) rfl (by kernel_rfl) fun base w0 => ?_
  refine SW.seq ?_
  refine SW.region ?_
  refine SWl.ef (S := []) (Ef.boxA rfl rfl) ?_
  rintro _ ⟨g2, rfl⟩
  refine SWl.ef (S := []) (Ef.boxA rfl rfl) ?_
  rintro _ ⟨g3, rfl⟩
  refine SWl.ef (S := []) (Ef.alloc (zs := [.bool false, .slice none 0 0, .bool false, .slice none 0 0]) (by kernel_rfl) rfl) ?_
  rintro _ ⟨g4, rfl⟩
  refine SWl.rd rfl (Rd.assign rfl) ?_
  refine SWl.nil ?_
  refine SN.then ?_
  refine SW.seq ?_
  refine SW.draw [g4] (.r 0 (.r 1 (.r 2 (.r 3 (.r 5 (.r 6 (.r 7 (.r 8 (.n 4 (.n 9 (.n 10 (.n 11 (.r 12 (.r 13 (.e 14 (.r 15 .fin) .no))) .no) .no) .no) .no))))))))) (by kernel_rfl) (by kernel_rfl) (fun d _ _ _ _ h => by cases d <;> exact h) ?_
  refine SWz.rd (i := 0) rfl rfl (Rd.fieldAddr (n := 0) rfl (by kernel_rfl)) ?_
  refine SWz.rd (i := 1) rfl rfl (Rd.loadA 0 2 rfl rfl (by kernel_rfl) rfl ⟨⟨2, _, rfl, by decide⟩, trivial⟩) ?_
  refine SWz.rd (i := 2) rfl rfl (Rd.fieldAddr (n := 0) rfl (by kernel_rfl)) ?_
  refine SWz.rd (i := 3) rfl rfl (Rd.loadA 1 2 rfl rfl (by kernel_rfl) rfl ⟨⟨2, _, rfl, by decide⟩, trivial⟩) ?_
  refine SWz.rd (i := 5) rfl rfl (Rd.fieldAddr (n := 2) rfl (by kernel_rfl)) ?_
  refine SWz.rd (i := 6) rfl rfl (Rd.loadA 0 2 rfl rfl (by kernel_rfl) rfl ⟨⟨2, _, rfl, by decide⟩, trivial⟩) ?_
  refine SWz.rd (i := 7) rfl rfl (Rd.fieldAddr (n := 2) rfl (by kernel_rfl)) ?_
  refine SWz.rd (i := 8) rfl rfl (Rd.loadA 1 2 rfl rfl (by kernel_rfl) rfl ⟨⟨2, _, rfl, by decide⟩, trivial⟩) ?_
  refine SWz.efn (i := 4) rfl (Ef.call (con_productR (by assumption) (by assumption)) rfl ⟨Le.refl _, Le.refl _, trivial⟩ rfl) ?_ SWz.no
  rintro _ rfl
  refine SWz.efn (i := 9) rfl (Ef.call (con_productR (by assumption) (by assumption)) rfl ⟨Le.refl _, Le.refl _, trivial⟩ rfl) ?_ SWz.no
  rintro _ rfl
  refine SWz.efn (i := 10) rfl (Ef.litR rfl rfl blsI2 rfl) ?_ SWz.no
  rintro _ rfl
  refine SWz.efn (i := 11) rfl (Ef.call (con_limQ (pre := []) rfl (by simp) (hG.mul0 hH)) rfl ⟨Le.refl _, trivial⟩ rfl) ?_ SWz.no
  rintro _ rfl
  refine SWz.rd (i := 12) rfl rfl (Rd.extract rfl rfl) ?_
  refine SWz.rd (i := 13) rfl rfl (Rd.extract rfl rfl) ?_
  refine SWz.efe (i := 14) rfl (Ef.storeA 2 rfl rfl rfl (by kernel_rfl) rfl (List.mem_of_getElem? (i := 0) rfl)) ?_ SWz.no
  rintro _ rfl
  refine SWz.rd (i := 15) rfl rfl (Rd.assign rfl) ?_
  refine SWz.nil ?_
  refine SN.then ?_
  refine SW.ret (fn := Try.f70) (fun _ _ h => h) (Rs.two rfl (ResV.cellA 2 rfl rfl (by kernel_rfl)) (ResV.tmp rfl))
set_option maxHeartbeats 4000000 in
set_option maxRecDepth 100000 in
theorem con_quoQR {a b c e : Int} (hG : Good a b) (hH : Good c e) (hc0 : c ≠ 0) : Con Try.prog 71 [ratD a b, ratD c e] (tupD [ratD (qN [a * e, b * c] (a * e) (b * c)) (qD [a * e, b * c] (a * e) (b * c)), errD (qE [a * e, b * c])]) := by
  have ha4 := b4_512 hG.hn
  have hb4 := b4_512 hG.hd
  have hc4 := b4_512 hH.hn
  have he4 := b4_512 hH.hd
  refine con_of Try.func71 (by kernel_rfl) rfl (by kernel_rfl) fun base w0 => ?_
  refine SW.seq ?_
  refine SW.region ?_
  refine SWl.ef (S := []) (Ef.boxA rfl rfl) ?_
  rintro _ ⟨g2, rfl⟩
  refine SWl.ef (S := []) (Ef.boxA rfl rfl) ?_
  rintro _ ⟨g3, rfl⟩
  refine SWl.ef (S := []) (Ef.alloc (zs := [.bool false, .slice none 0 0, .bool false, .slice none 0 0]) (by kernel_rfl) rfl) ?_
  rintro _ ⟨g4, rfl⟩
  refine SWl.rd rfl (Rd.assign rfl) ?_
  refine SWl.nil ?_
  refine SN.then ?_
  refine SW.seq ?_
  refine SW.draw [g4] (.r 0 (.r 1 (.r 2 (.r 3 (.r 5 (.r 6 (.r 7 (.r 8 (.n 4 (.n 9 (.n 10 (.n 11 (.r 12 (.r 13 (.e 14 (.r 15 .fin) .no))) .no) .no) .no) .no))))))))) (by kernel_rfl) (by kernel_rfl) (fun d _ _ _ _ h => by cases d <;> exact h) ?_
  refine SWz.rd (i := 0) rfl rfl (Rd.fieldAddr (n := 0) rfl (by kernel_rfl)) ?_
  refine SWz.rd (i := 1) rfl rfl (Rd.loadA 0 2 rfl rfl (by kernel_rfl) rfl ⟨⟨2, _, rfl, by decide⟩, trivial⟩) ?_
  refine SWz.rd (i := 2) rfl rfl (Rd.fieldAddr (n := 2) rfl (by kernel_rfl)) ?_
  refine SWz.rd (i := 3) rfl rfl (Rd.loadA 1 2 rfl rfl (by kernel_rfl) rfl ⟨⟨2, _, rfl, by decide⟩, trivial⟩) ?_
  refine SWz.rd (i := 5) rfl rfl (Rd.fieldAddr (n := 2) rfl (by kernel_rfl)) ?_
  refine SWz.rd (i := 6) rfl rfl (Rd.loadA 0 2 rfl rfl (by kernel_rfl) rfl ⟨⟨2, _, rfl, by decide⟩, trivial⟩) ?_
  refine SWz.rd (i := 7) rfl rfl (Rd.fieldAddr (n := 0) rfl (by kernel_rfl)) ?_
  refine SWz.rd (i := 8) rfl rfl (Rd.loadA 1 2 rfl rfl (by kernel_rfl) rfl ⟨⟨2, _, rfl, by decide⟩, trivial⟩) ?_
  refine SWz.efn (i := 4) rfl (Ef.call (con_productR (by assumption) (by assumption)) rfl ⟨Le.refl _, Le.refl _, trivial⟩ rfl) ?_ SWz.no
  rintro _ rfl
  refine SWz.efn (i := 9) rfl (Ef.call (con_productR (by assumption) (by assumption)) rfl ⟨Le.refl _, Le.refl _, trivial⟩ rfl) ?_ SWz.no
  rintro _ rfl
  refine SWz.efn (i := 10) rfl (Ef.litR rfl rfl blsI2 rfl) ?_ SWz.no
  rintro _ rfl
  refine SWz.efn (i := 11) rfl (Ef.call (con_limQ (pre := []) rfl (by simp) (Int.mul_ne_zero hG.d0 hc0)) rfl ⟨Le.refl _, trivial⟩ rfl) ?_ SWz.no
  rintro _ rfl
  refine SWz.rd (i := 12) rfl rfl (Rd.extract rfl rfl) ?_
  refine SWz.rd (i := 13) rfl rfl (Rd.extract rfl rfl) ?_
  refine SWz.efe (i := 14) rfl (Ef.storeA 2 rfl rfl rfl (by kernel_rfl) rfl (List.mem_of_getElem? (i := 0) rfl)) ?_ SWz.no
  rintro _ rfl
  refine SWz.rd (i := 15) rfl rfl (Rd.assign rfl) ?_
  refine SWz.nil ?_
  refine SN.then ?_
  refine SW.ret (fn := Try.f71) (fun _ _ h => h) (Rs.two rfl (ResV.cellA 2 rfl rfl (by kernel_rfl)) (ResV.tmp rfl))
end Sx
end Go.Proofs.Ytddfphneidcibaa
