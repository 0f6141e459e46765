/-
  THE LAW RatioField.
-/
import Derived.Test.YtddfphneidcibaaLawRValid1
namespace Go.Proofs.Ytddfphneidcibaa
open Go.RowKit
open Nm (W32)
namespace Sx
/-- Small numbers. -/
def Sm (k : Nat) (x : Int) : Prop := x.natAbs < 2 ^ k
theorem Sm.mul {i j : Nat} {x y : Int} (h : Sm i x) (k : Sm j y) : Sm (i + j) (x * y) := by
  unfold Sm at *
  rw [Int.natAbs_mul, Nat.pow_add]
  exact Nat.mul_lt_mul'' h k
theorem Sm.mono {i j : Nat} {x : Int} (h : Sm i x) (hij : i ≤ j) : Sm j x := Nat.lt_of_lt_of_le h (Nat.pow_le_pow_right (by decide) hij)
theorem Sm.add {i : Nat} {x y : Int} (h : Sm i x) (k : Sm i y) : Sm (i + 1) (x + y) := by
  unfold Sm at *
  rw [Nat.pow_succ]
  omega
theorem Sm.sub {i : Nat} {x y : Int} (h : Sm i x) (k : Sm i y) : Sm (i + 1) (x - y) := by
  unfold Sm at *
  rw [Nat.pow_succ]
  omega
theorem Sm.b {i : Nat} {x : Int} (h : Sm i x) (hi : i ≤ 250) : x.natAbs < big512 := by
  have h1 : x.natAbs < 2 ^ 250 := h.mono hi
  exact Nat.lt_trans h1 (by unfold big512; decide +kernel)
theorem Sm.le {i : Nat} {x y : Int} (h : Sm i x) (hy : y.natAbs ≤ x.natAbs) : Sm i y := Nat.lt_of_le_of_lt hy h
/-- A ratio of small numbers. -/
structure Gs (i j : Nat) (n d : Int) : Prop where
  g : Good n d
  n : Sm i n
  d : Sm j d
section
variable {a b c e : Int} {i j k m : Nat}
theorem red_gs {P Q : Int} (hP : Sm i P) (hQ : Sm j Q) (hi : i ≤ 250) (hj : j ≤ 250) (h0 : Q ≠ 0) : Gs i j (rn P Q) (rd P Q) := ⟨(red_good (hP.b hi) (hQ.b hj) h0).1, hP.le (rn_abs h0), hQ.le (rd_abs h0)⟩
theorem q_ok {l : List Int} (h : fits l = true) (n d : Int) : qN l n d = rn n d ∧ qD l n d = rd n d ∧ qE l = 0 := ⟨if_pos h, if_pos h, if_pos h⟩
theorem fits4 {x y z w : Int} (h1 : x.natAbs < big512) (h2 : y.natAbs < big512) (h3 : z.natAbs < big512) (h4 : w.natAbs < big512) : fits [x, y, z, w] = true := by simp [fits, h1, h2, h3, h4]
theorem fits2 {x y : Int} (h1 : x.natAbs < big512) (h2 : y.natAbs < big512) : fits [x, y] = true := by simp [fits, h1, h2]
theorem con_addS (hG : Gs i j a b) (hH : Gs k m c e) (hi : i + m ≤ 200) (hk : k + j ≤ 200) (hj : j + m ≤ 200) : Con Try.prog 64 [ratD a b, ratD c e] (tupD [ratD (rn (a * e + c * b) (b * e)) (rd (a * e + c * b) (b * e)), errD 0]) := by
  have h1 := hG.n.mul hH.d
  have h2 := hH.n.mul hG.d
  have h3 := (h1.mono (j := 200) hi).add (h2.mono hk)
  have hf := fits4 (h1.b (by omega)) (h2.b (by omega)) (h3.b (by omega)) ((hG.d.mul hH.d).b (by omega))
  obtain ⟨e1, e2, e3⟩ := q_ok hf (a * e + c * b) (b * e)
  exact con_rE (con_addQ hG.g hH.g) e1 e2 e3
theorem con_subS (hG : Gs i j a b) (hH : Gs k m c e) (hi : i + m ≤ 200) (hk : k + j ≤ 200) (hj : j + m ≤ 200) : Con Try.prog 65 [ratD a b, ratD c e] (tupD [ratD (rn (a * e - c * b) (b * e)) (rd (a * e - c * b) (b * e)), errD 0]) := by
  have h1 := hG.n.mul hH.d
  have h2 := hH.n.mul hG.d
  have h3 := (h1.mono (j := 200) hi).sub (h2.mono hk)
  have hf := fits4 (h1.b (by omega)) (h2.b (by omega)) (h3.b (by omega)) ((hG.d.mul hH.d).b (by omega))
  obtain ⟨e1, e2, e3⟩ := q_ok hf (a * e - c * b) (b * e)
  exact con_rE (con_subQ hG.g hH.g) e1 e2 e3
theorem con_mulS (hG : Gs i j a b) (hH : Gs k m c e) (hi : i + k ≤ 200) (hj : j + m ≤ 200) : Con Try.prog 66 [ratD a b, ratD c e] (tupD [ratD (rn (a * c) (b * e)) (rd (a * c) (b * e)), errD 0]) := by
  have hf := fits2 ((hG.n.mul hH.n).b (by omega)) ((hG.d.mul hH.d).b (by omega))
  obtain ⟨e1, e2, e3⟩ := q_ok hf (a * c) (b * e)
  exact con_rE (con_mulQ hG.g hH.g) e1 e2 e3
theorem con_quoS (hG : Gs i j a b) (hH : Gs k m c e) (hi : i + m ≤ 200) (hj : j + k ≤ 200) (hc : c ≠ 0) : Con Try.prog 67 [ratD a b, ratD c e] (tupD [ratD (rn (a * e) (b * c)) (rd (a * e) (b * c)), errD 0]) := by
  have hf := fits2 ((hG.n.mul hH.d).b (by omega)) ((hG.d.mul hH.n).b (by omega))
  obtain ⟨e1, e2, e3⟩ := q_ok hf (a * e) (b * c)
  exact con_rE (con_quoQ hG.g hH.g hc) e1 e2 e3
theorem gs_add (hG : Gs i j a b) (hH : Gs k m c e) (hi : i + m ≤ 200) (hk : k + j ≤ 200) (hj : j + m ≤ 200) (l : Nat) (hl : i + m ≤ l) (hl2 : k + j ≤ l) (hl3 : l < 250) : Gs (l + 1) (j + m) (rn (a * e + c * b) (b * e)) (rd (a * e + c * b) (b * e)) :=
  red_gs (((hG.n.mul hH.d).mono hl).add ((hH.n.mul hG.d).mono hl2)) (hG.d.mul hH.d) (by omega) (by omega) (hG.g.mul0 hH.g)
theorem gs_mul (hG : Gs i j a b) (hH : Gs k m c e) (hi : i + k ≤ 200) (hj : j + m ≤ 200) : Gs (i + k) (j + m) (rn (a * c) (b * e)) (rd (a * c) (b * e)) :=
  red_gs (hG.n.mul hH.n) (hG.d.mul hH.d) (by omega) (by omega) (hG.g.mul0 hH.g)
end
theorem red_eq {P Q a b : Int} (hP : P.natAbs < big512) (hQ : Q.natAbs < big512) (h0 : Q ≠ 0) (hG : Good a b) (h : P * b = a * Q) : rn P Q = a ∧ rd P Q = b := by
  obtain ⟨hR, hr⟩ := red_good hP hQ h0
  refine hR.uniq hG ?_
  have : rn P Q * b * Q = a * rd P Q * Q := by grind
  exact Int.eq_of_mul_eq_mul_right h0 this
theorem red_eq2 {P Q P' Q' : Int} (hP : P.natAbs < big512) (hQ : Q.natAbs < big512) (h0 : Q ≠ 0) (hP' : P'.natAbs < big512) (hQ' : Q'.natAbs < big512) (h0' : Q' ≠ 0) (h : P * Q' = P' * Q) : rn P Q = rn P' Q' ∧ rd P Q = rd P' Q' := by
  obtain ⟨hR, hr⟩ := red_good hP' hQ' h0'
  refine red_eq hP hQ h0 hR ?_
  have : P * rd P' Q' * Q' = rn P' Q' * Q * Q' := by grind
  exact Int.eq_of_mul_eq_mul_right h0' this
theorem red_sign {P Q : Int} (hP : P.natAbs < big512) (hQ : Q.natAbs < big512) (h0 : 0 < Q) : (rn P Q).sign = P.sign := by
  obtain ⟨hR, hr⟩ := red_good hP hQ (by omega)
  have h1 : (rn P Q * Q).sign = (rn P Q).sign := by rw [Int.sign_mul, Int.sign_eq_one_of_pos h0, Int.mul_one]
  have h2 : (P * rd P Q).sign = P.sign := by rw [Int.sign_mul, Int.sign_eq_one_of_pos hR.pos, Int.mul_one]
  rw [← h1, ← h2, hr]
/-- A row that the law looks at. -/
def okF (r : Row4) : Bool := decide (r.1.2.length ≤ 5) && (decide (r.2.2.length ≤ 5) && rvld r.1.1 r.1.2 r.2.1 r.2.2)
theorem okF_out {s t : Bool} {b c : List Nat} (hB : Byt b c) (h : okF ((s, b), (t, c)) = true) : ∃ n d : Int, Gs 40 40 n d ∧ s = decide (n < 0) ∧ b = (Nm.dg 256 n.natAbs).reverse ∧ t = decide (d < 0) ∧ c = (Nm.dg 256 d.natAbs).reverse := by
  unfold okF at h
  simp only [Bool.and_eq_true, decide_eq_true_eq] at h
  obtain ⟨h1, h2, h3⟩ := h
  obtain ⟨n, d, hG, rfl, rfl, rfl, rfl⟩ := rvld_out hB.l hB.r h3
  rw [List.length_reverse, Nm.dg_length] at h1 h2
  have e : (2 : Nat) ^ 40 = 256 ^ 5 := by decide
  exact ⟨n, d, ⟨hG, by unfold Sm; rw [e]; exact (Nm.len_le (B := 256) (by decide) 5 _).1 h1, by unfold Sm; rw [e]; exact (Nm.len_le (B := 256) (by decide) 5 _).1 h2⟩, rfl, rfl, rfl, rfl⟩
theorem okF_next {rows : List Row4} {k : Nat} (h : k < rows.length) (hk : (rows.take k).all okF = true) (hb : okF rows[k] = true) : (rows.take (k + 1)).all okF = true := by
  rw [List.take_succ_eq_append_getElem h, List.all_append, hk]
  simp [hb]
theorem okF_yes {r : Row4} (h1 : decide (5 < ((cN .u8 r.1.2).length : Int)) = false) (h2 : decide (5 < ((cN .u8 r.2.2).length : Int)) = false) (h3 : (!rvld r.1.1 r.1.2 r.2.1 r.2.2) = false) : okF r = true := by
  unfold okF
  simp at h1 h2 h3 ⊢
  exact ⟨by omega, by omega, h3⟩
theorem ones_rowsR : ∀ rows : List Row4, Ones (rowsR rows)
  | [] => inferInstanceAs (Ones [])
  | r :: rs => by
    have := ones_rowsR rs
    exact inferInstanceAs (Ones (isD (.bool r.1.1) :: rawD r.1.2 :: isD (.bool r.2.1) :: rawD r.2.2 :: rowsR rs))
instance (rows : List Row4) : Ones (rowsR rows) := ones_rowsR rows
set_option maxHeartbeats 4000000 in
set_option maxRecDepth 100000 in
theorem rfield_all {s0 t0 s1 t1 s2 t2 : Bool} {b0 c0 b1 c1 b2 c2 : List Nat} (hB0 : Byt b0 c0) (hB1 : Byt b1 c1) (hB2 : Byt b2 c2) : Con Try.prog 17 [rratD s0 b0 t0 c0, rratD s1 b1 t1 c1, rratD s2 b2 t2 c2] (boolD true) := by
  have hByt : ∀ r ∈ ([((s0, b0), (t0, c0)), ((s1, b1), (t1, c1)), ((s2, b2), (t2, c2))] : List Row4), Byt r.1.2 r.2.2 := by simp; exact ⟨hB0, hB1, hB2⟩
  refine con_of Try.func17 (by kernel_rfl) rfl (by kernel_rfl) fun base w0 => ?_
  refine SW.seq ?_
  refine SW.region ?_
  refine SWl.ef (S := []) (Ef.boxA rfl rfl) ?_
  rintro _ ⟨g3, rfl⟩
  refine SWl.ef (S := []) (Ef.boxA rfl rfl) ?_
  rintro _ ⟨g4, rfl⟩
  refine SWl.ef (S := []) (Ef.boxA rfl rfl) ?_
  rintro _ ⟨g5, rfl⟩
  refine SWl.rd rfl (Rd.assign rfl) ?_
  refine SWl.nil ?_
  refine SN.then ?_
  refine SW.seq ?_
  refine SW.seq ?_
  refine SW.region ?_
  refine SWl.rd rfl (Rd.assign rfl) ?_
  refine SWl.nil ?_
  refine SN.then ?_
  refine SW.block ?_
  refine SW.loop (ι := {k : Nat // k ≤ 3 ∧ (([((s0, b0), (t0, c0)), ((s1, b1), (t1, c1)), ((s2, b2), (t2, c2))] : List Row4).take k).all okF = true}) (fun ⟨k, hk, hk2⟩ => St.of [(3, isD (.pointer (some ⟨g3, 0, none⟩))), (4, isD (.pointer (some ⟨g4, 0, none⟩))), (5, isD (.pointer (some ⟨g5, 0, none⟩))), (7, errD (k : Int))] [(g3, rratC s0 b0 t0 c0), (g4, rratC s1 b1 t1 c1), (g5, rratC s2 b2 t2 c2)]) (fun ⟨k, hk, hk2⟩ => 3 - k) (⟨0, by decide, rfl⟩) ?_ ?_
  · exact ⟨⟨_, rfl, ⟨⟨_, rfl, Le.refl _⟩, ⟨⟨_, rfl, Le.refl _⟩, ⟨⟨_, rfl, Le.refl _⟩, ⟨⟨_, rfl, Le.refl _⟩, trivial⟩⟩⟩⟩⟩, [0, 1, 2], by decide, ⟨⟨_, rfl, LeAll.refl _⟩, ⟨⟨_, rfl, LeAll.refl _⟩, ⟨⟨_, rfl, LeAll.refl _⟩, trivial⟩⟩⟩⟩
  · rintro ⟨k, hk, hk2⟩ K0 hK0
    refine SW.seq ?_
    refine SW.seq ?_
    refine SW.region ?_
    refine SWl.rd rfl (Rd.move rfl) ?_
    refine SWl.rd rfl (Rd.lss rfl rfl) ?_
    refine SWl.nil ?_
    refine SN.then ?_
    refine SW.cond rfl (fun hb32 => ?_) (fun hb32 => ?_)
    · have hlt : k < ([((s0, b0), (t0, c0)), ((s1, b1), (t1, c1)), ((s2, b2), (t2, c2))] : List Row4).length := (by have := of_decide_eq_true hb32; show k < 3; omega); have hlt3 : k < 3 := hlt
      refine SW.skip ?_
      refine SN.then ?_
      refine SW.seq ?_
      refine SW.block ?_
      refine SW.seq ?_
      refine SW.region ?_
      refine SWl.rd rfl (Rd.loadA 0 4 rfl rfl (by kernel_rfl) rfl trivial) ?_
      refine SWl.rd rfl (Rd.loadA 1 4 rfl rfl (by kernel_rfl) rfl trivial) ?_
      refine SWl.rd rfl (Rd.loadA 2 4 rfl rfl (by kernel_rfl) rfl trivial) ?_
      refine SWl.ef (S := []) (Ef.litR rfl rfl blsR3 rfl) ?_
      rintro _ rfl
      refine SWl.weak 38 rfl (Le.refl (rwD 3 (rowsR [((s0, b0), (t0, c0)), ((s1, b1), (t1, c1)), ((s2, b2), (t2, c2))]))) ?_
      refine SWl.rd rfl (Rd.move rfl) ?_
      refine SWl.rd rfl (Rd.idxR (e := 54) 4 rfl rfl (by kernel_rfl) (by kernel_rfl) (by omega) (by omega) (by rw [rowsR_len]; simp; omega)) ?_
      refine SWl.weak 40 rfl (le_pa (rowsR_drop [((s0, b0), (t0, c0)), ((s1, b1), (t1, c1)), ((s2, b2), (t2, c2))] k hlt)) ?_
      refine SWl.rd rfl (Rd.loadRA 4 rfl (by kernel_rfl) (by decide) (by simp) (by simp)) ?_
      refine SWl.ef (S := []) (Ef.alloc (zs := [.bool false, .slice none 0 0, .bool false, .slice none 0 0]) (by kernel_rfl) rfl) ?_
      rintro _ ⟨g8, rfl⟩
      refine SWl.ef (S := [_]) (Ef.storeA 3 rfl rfl rfl (by kernel_rfl) rfl (List.mem_singleton.2 rfl)) ?_
      rintro _ rfl
      refine SWl.nil ?_
      refine SN.then ?_
      refine SW.seq ?_
      refine SW.region ?_
      refine SWl.rd rfl (Rd.fieldAddr (n := 0) rfl (by kernel_rfl)) ?_
      refine SWl.rd rfl (Rd.fieldAddr (n := 1) rfl (by kernel_rfl)) ?_
      refine SWl.rd rfl (Rd.loadB 3 rfl rfl rfl (by kernel_rfl) trivial) ?_
      refine SWl.rd rfl (Rd.len (e := 5) rfl (by kernel_rfl)) ?_
      refine SWl.rd rfl (Rd.gtr rfl rfl) ?_
      refine SWl.rd rfl (Rd.move rfl) ?_
      refine SWl.split 47 rfl (fun hb47 => ?_) (fun hb47 => ?_)
      · skip
        refine SWl.off rfl rfl (hb47) rfl rfl ?_
        refine SWl.off rfl rfl (hb47) rfl rfl ?_
        refine SWl.off rfl rfl (hb47) rfl rfl ?_
        refine SWl.off rfl rfl (hb47) rfl rfl ?_
        refine SWl.off rfl rfl (hb47) rfl rfl ?_
        refine SWl.rd rfl (Rd.pickY rfl (hb47) rfl) ?_
        refine SWl.rd rfl (Rd.move rfl) ?_
        refine SWl.off rfl rfl (rfl) rfl rfl ?_
        refine SWl.off rfl rfl (rfl) rfl rfl ?_
        refine SWl.off rfl rfl (rfl) rfl rfl ?_
        refine SWl.rd rfl (Rd.pickY rfl (rfl) rfl) ?_
        refine SWl.nil ?_
        refine SN.then ?_
        refine SW.condT rfl (rfl) ?_
        refine SW.seq ?_
        refine SW.region ?_
        refine SWl.ef (S := []) (Ef.call (con_known2) rfl trivial rfl) ?_
        rintro _ rfl
        refine SWl.rd rfl (Rd.assign rfl) ?_
        refine SWl.nil ?_
        refine SN.then ?_
        refine SW.ret (fn := Try.f17) (fun _ _ h => h) (Rs.one rfl (ResV.tmp rfl))
      · skip
        refine SWl.rdg rfl rfl (hb47) rfl rfl (Rd.fieldAddr (n := 2) rfl (by kernel_rfl)) ?_
        refine SWl.rdg rfl rfl (hb47) rfl rfl (Rd.fieldAddr (n := 1) rfl (by kernel_rfl)) ?_
        refine SWl.rdg rfl rfl (hb47) rfl rfl (Rd.loadB 3 rfl rfl rfl (by kernel_rfl) trivial) ?_
        refine SWl.rdg rfl rfl (hb47) rfl rfl (Rd.len (e := 5) rfl (by kernel_rfl)) ?_
        refine SWl.rdg rfl rfl (hb47) rfl rfl (Rd.gtr rfl rfl) ?_
        refine SWl.rd rfl (Rd.pickN rfl (hb47) rfl) ?_
        refine SWl.rd rfl (Rd.move rfl) ?_
        refine SWl.split 54 rfl (fun hb54 => ?_) (fun hb54 => ?_)
        · skip
          refine SWl.off rfl rfl (hb54) rfl rfl ?_
          refine SWl.off rfl rfl (hb54) rfl rfl ?_
          refine SWl.off rfl rfl (hb54) rfl rfl ?_
          refine SWl.rd rfl (Rd.pickY rfl (hb54) rfl) ?_
          refine SWl.nil ?_
          refine SN.then ?_
          refine SW.condT rfl (rfl) ?_
          refine SW.seq ?_
          refine SW.region ?_
          refine SWl.ef (S := []) (Ef.call (con_known2) rfl trivial rfl) ?_
          rintro _ rfl
          refine SWl.rd rfl (Rd.assign rfl) ?_
          refine SWl.nil ?_
          refine SN.then ?_
          refine SW.ret (fn := Try.f17) (fun _ _ h => h) (Rs.one rfl (ResV.tmp rfl))
        · skip
          refine SWl.rdg rfl rfl (hb54) rfl rfl (Rd.loadA 3 4 rfl rfl (by kernel_rfl) rfl trivial) ?_
          refine SWl.efg (S := []) rfl rfl (hb54) rfl (Ef.call (con_rvalidR (hByt _ (List.getElem_mem hlt))) rfl ⟨Le.refl _, trivial⟩ rfl) ?_
          rintro _ rfl
          refine SWl.rdg rfl rfl (hb54) rfl rfl (Rd.not rfl) ?_
          refine SWl.rd rfl (Rd.pickN rfl (hb54) rfl) ?_
          refine SWl.nil ?_
          refine SN.then ?_
          refine SW.cond rfl (fun hb58 => ?_) (fun hb58 => ?_)
          · skip
            refine SW.seq ?_
            refine SW.region ?_
            refine SWl.ef (S := []) (Ef.call (con_known2) rfl trivial rfl) ?_
            rintro _ rfl
            refine SWl.rd rfl (Rd.assign rfl) ?_
            refine SWl.nil ?_
            refine SN.then ?_
            refine SW.ret (fn := Try.f17) (fun _ _ h => h) (Rs.one rfl (ResV.tmp rfl))
          · skip
            refine SW.skip ?_
            refine SN.block ?_
            refine SN.then ?_
            refine SW.region ?_
            refine SWl.rd rfl (Rd.move rfl) ?_
            refine SWl.rd rfl (Rd.add rfl rfl ⟨by omega, by omega⟩) ?_
            refine SWl.rd rfl (Rd.assign rfl) ?_
            refine SWl.nil ?_
            exact fun a w hh => hK0 (⟨k + 1, hlt, okF_next (rows := [((s0, b0), (t0, c0)), ((s1, b1), (t1, c1)), ((s2, b2), (t2, c2))]) hlt hk2 (okF_yes hb47 hb54 hb58)⟩) (by show 3 - (k + 1) < 3 - k; omega) a w (hh.sub (⟨⟨_, rfl, ⟨⟨_, rfl, Le.refl _⟩, ⟨⟨_, rfl, Le.refl _⟩, ⟨⟨_, rfl, Le.refl _⟩, ⟨⟨_, rfl, le_err (by omega)⟩, trivial⟩⟩⟩⟩⟩, [0, 1, 2], by decide, ⟨⟨_, rfl, LeAll.refl _⟩, ⟨⟨_, rfl, LeAll.refl _⟩, ⟨⟨_, rfl, LeAll.refl _⟩, trivial⟩⟩⟩⟩))
    · obtain rfl : k = 3 := (by have := of_decide_eq_false hb32; omega); obtain ⟨q0, q1, q2⟩ : okF ((s0, b0), (t0, c0)) = true ∧ okF ((s1, b1), (t1, c1)) = true ∧ okF ((s2, b2), (t2, c2)) = true := (by simp at hk2; exact hk2); obtain ⟨a, b, hA, rfl, rfl, rfl, rfl⟩ := okF_out hB0 q0; obtain ⟨c, e, hC, rfl, rfl, rfl, rfl⟩ := okF_out hB1 q1; obtain ⟨f, g, hF, rfl, rfl, rfl, rfl⟩ := okF_out hB2 q2; obtain ⟨S1, hS1⟩ : ∃ u, rn (a * e + c * b) (b * e) = u := ⟨_, rfl⟩; obtain ⟨S2, hS2⟩ : ∃ u, rd (a * e + c * b) (b * e) = u := ⟨_, rfl⟩; obtain ⟨U1, hU1⟩ : ∃ u, rn (S1 * e - c * S2) (S2 * e) = u := ⟨_, rfl⟩; obtain ⟨U2, hU2⟩ : ∃ u, rd (S1 * e - c * S2) (S2 * e) = u := ⟨_, rfl⟩; obtain ⟨Pp1, hPp1⟩ : ∃ u, rn (a * c) (b * e) = u := ⟨_, rfl⟩; obtain ⟨Pp2, hPp2⟩ : ∃ u, rd (a * c) (b * e) = u := ⟨_, rfl⟩; obtain ⟨Vv1, hVv1⟩ : ∃ u, rn (f * S1) (g * S2) = u := ⟨_, rfl⟩; obtain ⟨Vv2, hVv2⟩ : ∃ u, rd (f * S1) (g * S2) = u := ⟨_, rfl⟩; obtain ⟨W1, hW1⟩ : ∃ u, rn (f * a) (g * b) = u := ⟨_, rfl⟩; obtain ⟨W2, hW2⟩ : ∃ u, rd (f * a) (g * b) = u := ⟨_, rfl⟩; obtain ⟨X1, hX1⟩ : ∃ u, rn (f * c) (g * e) = u := ⟨_, rfl⟩; obtain ⟨X2, hX2⟩ : ∃ u, rd (f * c) (g * e) = u := ⟨_, rfl⟩; obtain ⟨Y1, hY1⟩ : ∃ u, rn (W1 * X2 + X1 * W2) (W2 * X2) = u := ⟨_, rfl⟩; obtain ⟨Y2, hY2⟩ : ∃ u, rd (W1 * X2 + X1 * W2) (W2 * X2) = u := ⟨_, rfl⟩; obtain ⟨Dd1, hDd1⟩ : ∃ u, rn (a * e - c * b) (b * e) = u := ⟨_, rfl⟩; obtain ⟨Dd2, hDd2⟩ : ∃ u, rd (a * e - c * b) (b * e) = u := ⟨_, rfl⟩; have gS : Gs 81 80 S1 S2 := (by rw [← hS1, ← hS2]; exact gs_add hA hC (by decide) (by decide) (by decide) 80 (by decide) (by decide) (by decide)); have gP : Gs 80 80 Pp1 Pp2 := (by rw [← hPp1, ← hPp2]; exact gs_mul hA hC (by decide) (by decide)); have gW : Gs 80 80 W1 W2 := (by rw [← hW1, ← hW2]; exact gs_mul hF hA (by decide) (by decide)); have gX : Gs 80 80 X1 X2 := (by rw [← hX1, ← hX2]; exact gs_mul hF hC (by decide) (by decide)); have eS : S1 * (b * e) = (a * e + c * b) * S2 := (by rw [← hS1, ← hS2]; exact (red_good ((((hA.n.mul hC.d).add (hC.n.mul hA.d))).b (by decide)) ((hA.d.mul hC.d).b (by decide)) (hA.g.mul0 hC.g)).2); have eP : Pp1 * (b * e) = (a * c) * Pp2 := (by rw [← hPp1, ← hPp2]; exact (red_good ((hA.n.mul hC.n).b (by decide)) ((hA.d.mul hC.d).b (by decide)) (hA.g.mul0 hC.g)).2); have eW : W1 * (g * b) = (f * a) * W2 := (by rw [← hW1, ← hW2]; exact (red_good ((hF.n.mul hA.n).b (by decide)) ((hF.d.mul hA.d).b (by decide)) (hF.g.mul0 hA.g)).2); have eX : X1 * (g * e) = (f * c) * X2 := (by rw [← hX1, ← hX2]; exact (red_good ((hF.n.mul hC.n).b (by decide)) ((hF.d.mul hC.d).b (by decide)) (hF.g.mul0 hC.g)).2); have n1 : Sm 122 (S1 * e - c * S2) := ((gS.n.mul hC.d).mono (by decide)).sub ((hC.n.mul gS.d).mono (by decide)); obtain ⟨u1, u2⟩ := red_eq (n1.b (by decide)) ((gS.d.mul hC.d).b (by decide)) (gS.g.mul0 hC.g) hA.g (show (S1 * e - c * S2) * b = a * (S2 * e) by grind); rw [hU1] at u1; rw [hU2] at u2; have n2 : Sm 161 (W1 * X2 + X1 * W2) := (gW.n.mul gX.d).add (gX.n.mul gW.d); have hbe : b * e ≠ 0 := hA.g.mul0 hC.g; obtain ⟨v1, v2⟩ := red_eq2 ((hF.n.mul gS.n).b (by decide)) ((hF.d.mul gS.d).b (by decide)) (hF.g.mul0 gS.g) (n2.b (by decide)) ((gW.d.mul gX.d).b (by decide)) (gW.g.mul0 gX.g) (Int.eq_of_mul_eq_mul_right hbe (show (f * S1) * (W2 * X2) * (b * e) = (W1 * X2 + X1 * W2) * (g * S2) * (b * e) by grind)); rw [hVv1, hY1] at v1; rw [hVv2, hY2] at v2; have hsg : Dd1.sign = cmpQ a b c e := (by rw [← hDd1, red_sign (((hA.n.mul hC.d).sub (hC.n.mul hA.d)).b (by decide)) ((hA.d.mul hC.d).b (by decide)) (Int.mul_pos hA.g.pos hC.g.pos)]; unfold cmpQ; rw [cmpZ_sub]); have gD : Good Dd1 Dd2 := (by rw [← hDd1, ← hDd2]; exact (red_good (((hA.n.mul hC.d).sub (hC.n.mul hA.d)).b (by decide)) ((hA.d.mul hC.d).b (by decide)) (hA.g.mul0 hC.g)).1); have t1 : rn (c * b + a * e) (e * b) = S1 := (by rw [Int.add_comm, Int.mul_comm e b]; exact hS1); have t2 : rd (c * b + a * e) (e * b) = S2 := (by rw [Int.add_comm, Int.mul_comm e b]; exact hS2); have t3 : rn (c * a) (e * b) = Pp1 := (by rw [Int.mul_comm c a, Int.mul_comm e b]; exact hPp1); have t4 : rd (c * a) (e * b) = Pp2 := (by rw [Int.mul_comm c a, Int.mul_comm e b]; exact hPp2)
      refine SW.exit' ?_
      repeat (first | refine SE.then ?_ | refine SE.skip (by decide) ?_)
      refine SE.here ?_
      refine SN.then ?_
      refine SW.seq ?_
      refine SW.sub (σ' := St.of [(3, isD (.pointer (some ⟨g3, 0, none⟩))), (4, isD (.pointer (some ⟨g4, 0, none⟩))), (5, isD (.pointer (some ⟨g5, 0, none⟩)))] [(g3, ratC (a) (b)), (g4, ratC (c) (e)), (g5, ratC (f) (g))]) (⟨⟨_, rfl, ⟨⟨_, rfl, Le.refl _⟩, ⟨⟨_, rfl, Le.refl _⟩, ⟨⟨_, rfl, Le.refl _⟩, trivial⟩⟩⟩⟩, [0, 1, 2], by decide, ⟨⟨_, rfl, LeAll.refl _⟩, ⟨⟨_, rfl, LeAll.refl _⟩, ⟨⟨_, rfl, LeAll.refl _⟩, trivial⟩⟩⟩⟩) ?_
      refine SW.region ?_
      refine SWl.rd rfl (Rd.loadA 0 4 rfl rfl (by kernel_rfl) rfl trivial) ?_
      refine SWl.rd rfl (Rd.loadA 1 4 rfl rfl (by kernel_rfl) rfl trivial) ?_
      refine SWl.ef (S := []) (Ef.call (con_rE (con_addS hA hC (by decide) (by decide) (by decide)) hS1 hS2 rfl) rfl ⟨Le.refl _, Le.refl _, trivial⟩ rfl) ?_
      rintro _ rfl
      refine SWl.rd rfl (Rd.move rfl) ?_
      refine SWl.rd rfl (Rd.extract rfl rfl) ?_
      refine SWl.rd rfl (Rd.extract rfl rfl) ?_
      refine SWl.ef (S := []) (Ef.alloc (zs := [.bool false, .slice none 0 0, .bool false, .slice none 0 0]) (by kernel_rfl) rfl) ?_
      rintro _ ⟨g9, rfl⟩
      refine SWl.ef (S := [_]) (Ef.storeA 3 rfl rfl rfl (by kernel_rfl) rfl (List.mem_singleton.2 rfl)) ?_
      rintro _ rfl
      refine SWl.rd rfl (Rd.assign rfl) ?_
      refine SWl.nil ?_
      refine SN.then ?_
      refine SW.seq ?_
      refine SW.region ?_
      refine SWl.rd rfl (Rd.loadA 1 4 rfl rfl (by kernel_rfl) rfl trivial) ?_
      refine SWl.rd rfl (Rd.loadA 0 4 rfl rfl (by kernel_rfl) rfl trivial) ?_
      refine SWl.ef (S := []) (Ef.call (con_rE (con_addS hC hA (by decide) (by decide) (by decide)) t1 t2 rfl) rfl ⟨Le.refl _, Le.refl _, trivial⟩ rfl) ?_
      rintro _ rfl
      refine SWl.rd rfl (Rd.move rfl) ?_
      refine SWl.rd rfl (Rd.extract rfl rfl) ?_
      refine SWl.rd rfl (Rd.extract rfl rfl) ?_
      refine SWl.ef (S := []) (Ef.alloc (zs := [.bool false, .slice none 0 0, .bool false, .slice none 0 0]) (by kernel_rfl) rfl) ?_
      rintro _ ⟨g11, rfl⟩
      refine SWl.ef (S := [_]) (Ef.storeA 4 rfl rfl rfl (by kernel_rfl) rfl (List.mem_singleton.2 rfl)) ?_
      rintro _ rfl
      refine SWl.rd rfl (Rd.assign rfl) ?_
      refine SWl.nil ?_
      refine SN.then ?_
      refine SW.seq ?_
      refine SW.region ?_
      refine SWl.rd rfl (Rd.loadA 3 4 rfl rfl (by kernel_rfl) rfl trivial) ?_
      refine SWl.rd rfl (Rd.loadA 1 4 rfl rfl (by kernel_rfl) rfl trivial) ?_
      refine SWl.ef (S := []) (Ef.call (con_rE (con_subS gS hC (by decide) (by decide) (by decide)) hU1 hU2 rfl) rfl ⟨Le.refl _, Le.refl _, trivial⟩ rfl) ?_
      rintro _ rfl
      refine SWl.rd rfl (Rd.move rfl) ?_
      refine SWl.rd rfl (Rd.extract rfl rfl) ?_
      refine SWl.rd rfl (Rd.extract rfl rfl) ?_
      refine SWl.ef (S := []) (Ef.alloc (zs := [.bool false, .slice none 0 0, .bool false, .slice none 0 0]) (by kernel_rfl) rfl) ?_
      rintro _ ⟨g13, rfl⟩
      refine SWl.ef (S := [_]) (Ef.storeA 5 rfl rfl rfl (by kernel_rfl) rfl (List.mem_singleton.2 rfl)) ?_
      rintro _ rfl
      refine SWl.rd rfl (Rd.assign rfl) ?_
      refine SWl.nil ?_
      refine SN.then ?_
      refine SW.seq ?_
      refine SW.sub (σ' := St.of [(3, isD (.pointer (some ⟨g3, 0, none⟩))), (4, isD (.pointer (some ⟨g4, 0, none⟩))), (5, isD (.pointer (some ⟨g5, 0, none⟩))), (9, isD (.pointer (some ⟨g9, 0, none⟩))), (11, isD (.pointer (some ⟨g11, 0, none⟩))), (13, isD (.pointer (some ⟨g13, 0, none⟩))), (10, errD (0)), (12, errD (0)), (14, errD (0))] [(g3, ratC (a) (b)), (g4, ratC (c) (e)), (g5, ratC (f) (g)), (g9, ratC (S1) (S2)), (g11, ratC (S1) (S2)), (g13, ratC (U1) (U2))]) (⟨⟨_, rfl, ⟨⟨_, rfl, Le.refl _⟩, ⟨⟨_, rfl, Le.refl _⟩, ⟨⟨_, rfl, Le.refl _⟩, ⟨⟨_, rfl, Le.refl _⟩, ⟨⟨_, rfl, Le.refl _⟩, ⟨⟨_, rfl, Le.refl _⟩, ⟨⟨_, rfl, Le.refl _⟩, ⟨⟨_, rfl, Le.refl _⟩, ⟨⟨_, rfl, Le.refl _⟩, trivial⟩⟩⟩⟩⟩⟩⟩⟩⟩⟩, [0, 1, 2, 3, 4, 5], by decide, ⟨⟨_, rfl, LeAll.refl _⟩, ⟨⟨_, rfl, LeAll.refl _⟩, ⟨⟨_, rfl, LeAll.refl _⟩, ⟨⟨_, rfl, LeAll.refl _⟩, ⟨⟨_, rfl, LeAll.refl _⟩, ⟨⟨_, rfl, LeAll.refl _⟩, trivial⟩⟩⟩⟩⟩⟩⟩) ?_
      refine SW.region ?_
      refine SWl.rd rfl (Rd.loadA 0 4 rfl rfl (by kernel_rfl) rfl trivial) ?_
      refine SWl.rd rfl (Rd.loadA 1 4 rfl rfl (by kernel_rfl) rfl trivial) ?_
      refine SWl.ef (S := []) (Ef.call (con_rE (con_mulS hA hC (by decide) (by decide)) hPp1 hPp2 rfl) rfl ⟨Le.refl _, Le.refl _, trivial⟩ rfl) ?_
      rintro _ rfl
      refine SWl.rd rfl (Rd.move rfl) ?_
      refine SWl.rd rfl (Rd.extract rfl rfl) ?_
      refine SWl.rd rfl (Rd.extract rfl rfl) ?_
      refine SWl.ef (S := []) (Ef.alloc (zs := [.bool false, .slice none 0 0, .bool false, .slice none 0 0]) (by kernel_rfl) rfl) ?_
      rintro _ ⟨g15, rfl⟩
      refine SWl.ef (S := [_]) (Ef.storeA 6 rfl rfl rfl (by kernel_rfl) rfl (List.mem_singleton.2 rfl)) ?_
      rintro _ rfl
      refine SWl.rd rfl (Rd.assign rfl) ?_
      refine SWl.nil ?_
      refine SN.then ?_
      refine SW.seq ?_
      refine SW.region ?_
      refine SWl.rd rfl (Rd.loadA 1 4 rfl rfl (by kernel_rfl) rfl trivial) ?_
      refine SWl.rd rfl (Rd.loadA 0 4 rfl rfl (by kernel_rfl) rfl trivial) ?_
      refine SWl.ef (S := []) (Ef.call (con_rE (con_mulS hC hA (by decide) (by decide)) t3 t4 rfl) rfl ⟨Le.refl _, Le.refl _, trivial⟩ rfl) ?_
      rintro _ rfl
      refine SWl.rd rfl (Rd.move rfl) ?_
      refine SWl.rd rfl (Rd.extract rfl rfl) ?_
      refine SWl.rd rfl (Rd.extract rfl rfl) ?_
      refine SWl.ef (S := []) (Ef.alloc (zs := [.bool false, .slice none 0 0, .bool false, .slice none 0 0]) (by kernel_rfl) rfl) ?_
      rintro _ ⟨g17, rfl⟩
      refine SWl.ef (S := [_]) (Ef.storeA 7 rfl rfl rfl (by kernel_rfl) rfl (List.mem_singleton.2 rfl)) ?_
      rintro _ rfl
      refine SWl.rd rfl (Rd.assign rfl) ?_
      refine SWl.nil ?_
      refine SN.then ?_
      refine SW.seq ?_
      refine SW.seq ?_
      refine SW.sub (σ' := St.of [(3, isD (.pointer (some ⟨g3, 0, none⟩))), (4, isD (.pointer (some ⟨g4, 0, none⟩))), (5, isD (.pointer (some ⟨g5, 0, none⟩))), (9, isD (.pointer (some ⟨g9, 0, none⟩))), (11, isD (.pointer (some ⟨g11, 0, none⟩))), (13, isD (.pointer (some ⟨g13, 0, none⟩))), (15, isD (.pointer (some ⟨g15, 0, none⟩))), (17, isD (.pointer (some ⟨g17, 0, none⟩))), (10, errD (0)), (12, errD (0)), (14, errD (0)), (16, errD (0)), (18, errD (0))] [(g3, ratC (a) (b)), (g4, ratC (c) (e)), (g5, ratC (f) (g)), (g9, ratC (S1) (S2)), (g11, ratC (S1) (S2)), (g13, ratC (U1) (U2)), (g15, ratC (Pp1) (Pp2)), (g17, ratC (Pp1) (Pp2))]) (⟨⟨_, rfl, ⟨⟨_, rfl, Le.refl _⟩, ⟨⟨_, rfl, Le.refl _⟩, ⟨⟨_, rfl, Le.refl _⟩, ⟨⟨_, rfl, Le.refl _⟩, ⟨⟨_, rfl, Le.refl _⟩, ⟨⟨_, rfl, Le.refl _⟩, ⟨⟨_, rfl, Le.refl _⟩, ⟨⟨_, rfl, Le.refl _⟩, ⟨⟨_, rfl, Le.refl _⟩, ⟨⟨_, rfl, Le.refl _⟩, ⟨⟨_, rfl, Le.refl _⟩, ⟨⟨_, rfl, Le.refl _⟩, ⟨⟨_, rfl, Le.refl _⟩, trivial⟩⟩⟩⟩⟩⟩⟩⟩⟩⟩⟩⟩⟩⟩, [0, 1, 2, 3, 4, 5, 6, 7], by decide, ⟨⟨_, rfl, LeAll.refl _⟩, ⟨⟨_, rfl, LeAll.refl _⟩, ⟨⟨_, rfl, LeAll.refl _⟩, ⟨⟨_, rfl, LeAll.refl _⟩, ⟨⟨_, rfl, LeAll.refl _⟩, ⟨⟨_, rfl, LeAll.refl _⟩, ⟨⟨_, rfl, LeAll.refl _⟩, ⟨⟨_, rfl, LeAll.refl _⟩, trivial⟩⟩⟩⟩⟩⟩⟩⟩⟩) ?_
      refine SW.region ?_
      refine SWl.rd rfl (Rd.move rfl) ?_
      refine SWl.rd rfl (Rd.nei rfl rfl) ?_
      refine SWl.rd rfl (Rd.move rfl) ?_
      refine SWl.rdg rfl rfl (by decide) rfl rfl (Rd.move rfl) ?_
      refine SWl.rdg rfl rfl (by decide) rfl rfl (Rd.nei rfl rfl) ?_
      refine SWl.rd rfl (Rd.pickN rfl (by decide) rfl) ?_
      refine SWl.rd rfl (Rd.move rfl) ?_
      refine SWl.rdg rfl rfl (by decide) rfl rfl (Rd.move rfl) ?_
      refine SWl.rdg rfl rfl (by decide) rfl rfl (Rd.nei rfl rfl) ?_
      refine SWl.rd rfl (Rd.pickN rfl (by decide) rfl) ?_
      refine SWl.rd rfl (Rd.move rfl) ?_
      refine SWl.rdg rfl rfl (by decide) rfl rfl (Rd.move rfl) ?_
      refine SWl.rdg rfl rfl (by decide) rfl rfl (Rd.nei rfl rfl) ?_
      refine SWl.rd rfl (Rd.pickN rfl (by decide) rfl) ?_
      refine SWl.rd rfl (Rd.move rfl) ?_
      refine SWl.rdg rfl rfl (by decide) rfl rfl (Rd.move rfl) ?_
      refine SWl.rdg rfl rfl (by decide) rfl rfl (Rd.nei rfl rfl) ?_
      refine SWl.rd rfl (Rd.pickN rfl (by decide) rfl) ?_
      refine SWl.rd rfl (Rd.move rfl) ?_
      refine SWl.rdg rfl rfl (by decide) rfl rfl (Rd.loadA 3 4 rfl rfl (by kernel_rfl) rfl trivial) ?_
      refine SWl.efg (S := []) rfl rfl (by decide) rfl (Ef.call (con_rvalT gS.g) rfl ⟨Le.refl _, trivial⟩ rfl) ?_
      rintro _ rfl
      refine SWl.rdg rfl rfl (by decide) rfl rfl (Rd.not rfl) ?_
      refine SWl.rd rfl (Rd.pickN rfl (by decide) rfl) ?_
      refine SWl.rd rfl (Rd.move rfl) ?_
      refine SWl.rdg rfl rfl (rfl) rfl rfl (Rd.loadA 6 4 rfl rfl (by kernel_rfl) rfl trivial) ?_
      refine SWl.efg (S := []) rfl rfl (rfl) rfl (Ef.call (con_rvalT gP.g) rfl ⟨Le.refl _, trivial⟩ rfl) ?_
      rintro _ rfl
      refine SWl.rdg rfl rfl (rfl) rfl rfl (Rd.not rfl) ?_
      refine SWl.rd rfl (Rd.pickN rfl (rfl) rfl) ?_
      refine SWl.rd rfl (Rd.move rfl) ?_
      refine SWl.rdg rfl rfl (rfl) rfl rfl (Rd.loadA 3 4 rfl rfl (by kernel_rfl) rfl trivial) ?_
      refine SWl.rdg rfl rfl (rfl) rfl rfl (Rd.loadA 4 4 rfl rfl (by kernel_rfl) rfl trivial) ?_
      refine SWl.efg (S := []) rfl rfl (rfl) rfl (Ef.call (con_same2T rfl rfl) rfl ⟨Le.refl _, Le.refl _, trivial⟩ rfl) ?_
      rintro _ rfl
      refine SWl.rdg rfl rfl (rfl) rfl rfl (Rd.not rfl) ?_
      refine SWl.rd rfl (Rd.pickN rfl (rfl) rfl) ?_
      refine SWl.rd rfl (Rd.move rfl) ?_
      refine SWl.rdg rfl rfl (rfl) rfl rfl (Rd.loadA 5 4 rfl rfl (by kernel_rfl) rfl trivial) ?_
      refine SWl.rdg rfl rfl (rfl) rfl rfl (Rd.loadA 0 4 rfl rfl (by kernel_rfl) rfl trivial) ?_
      refine SWl.efg (S := []) rfl rfl (rfl) rfl (Ef.call (con_same2T u1 u2) rfl ⟨Le.refl _, Le.refl _, trivial⟩ rfl) ?_
      rintro _ rfl
      refine SWl.rdg rfl rfl (rfl) rfl rfl (Rd.not rfl) ?_
      refine SWl.rd rfl (Rd.pickN rfl (rfl) rfl) ?_
      refine SWl.rd rfl (Rd.move rfl) ?_
      refine SWl.rdg rfl rfl (rfl) rfl rfl (Rd.loadA 6 4 rfl rfl (by kernel_rfl) rfl trivial) ?_
      refine SWl.rdg rfl rfl (rfl) rfl rfl (Rd.loadA 7 4 rfl rfl (by kernel_rfl) rfl trivial) ?_
      refine SWl.efg (S := []) rfl rfl (rfl) rfl (Ef.call (con_same2T rfl rfl) rfl ⟨Le.refl _, Le.refl _, trivial⟩ rfl) ?_
      rintro _ rfl
      refine SWl.rdg rfl rfl (rfl) rfl rfl (Rd.not rfl) ?_
      refine SWl.rd rfl (Rd.pickN rfl (rfl) rfl) ?_
      refine SWl.nil ?_
      refine SN.then ?_
      refine SW.condF rfl (rfl) ?_
      refine SW.skip ?_
      refine SN.then ?_
      refine SW.seq ?_
      refine SW.sub (σ' := St.of [(3, isD (.pointer (some ⟨g3, 0, none⟩))), (4, isD (.pointer (some ⟨g4, 0, none⟩))), (5, isD (.pointer (some ⟨g5, 0, none⟩))), (9, isD (.pointer (some ⟨g9, 0, none⟩))), (15, isD (.pointer (some ⟨g15, 0, none⟩)))] [(g3, ratC (a) (b)), (g4, ratC (c) (e)), (g5, ratC (f) (g)), (g9, ratC (S1) (S2)), (g15, ratC (Pp1) (Pp2))]) (⟨⟨_, rfl, ⟨⟨_, rfl, Le.refl _⟩, ⟨⟨_, rfl, Le.refl _⟩, ⟨⟨_, rfl, Le.refl _⟩, ⟨⟨_, rfl, Le.refl _⟩, ⟨⟨_, rfl, Le.refl _⟩, trivial⟩⟩⟩⟩⟩⟩, [0, 1, 2, 3, 6], by decide, ⟨⟨_, rfl, LeAll.refl _⟩, ⟨⟨_, rfl, LeAll.refl _⟩, ⟨⟨_, rfl, LeAll.refl _⟩, ⟨⟨_, rfl, LeAll.refl _⟩, ⟨⟨_, rfl, LeAll.refl _⟩, trivial⟩⟩⟩⟩⟩⟩) ?_
      refine SW.region ?_
      refine SWl.rd rfl (Rd.loadA 2 4 rfl rfl (by kernel_rfl) rfl trivial) ?_
      refine SWl.rd rfl (Rd.loadA 3 4 rfl rfl (by kernel_rfl) rfl trivial) ?_
      refine SWl.ef (S := []) (Ef.call (con_rE (con_mulS hF gS (by decide) (by decide)) hVv1 hVv2 rfl) rfl ⟨Le.refl _, Le.refl _, trivial⟩ rfl) ?_
      rintro _ rfl
      refine SWl.rd rfl (Rd.move rfl) ?_
      refine SWl.rd rfl (Rd.extract rfl rfl) ?_
      refine SWl.rd rfl (Rd.extract rfl rfl) ?_
      refine SWl.ef (S := []) (Ef.alloc (zs := [.bool false, .slice none 0 0, .bool false, .slice none 0 0]) (by kernel_rfl) rfl) ?_
      rintro _ ⟨g19, rfl⟩
      refine SWl.ef (S := [_]) (Ef.storeA 5 rfl rfl rfl (by kernel_rfl) rfl (List.mem_singleton.2 rfl)) ?_
      rintro _ rfl
      refine SWl.rd rfl (Rd.assign rfl) ?_
      refine SWl.nil ?_
      refine SN.then ?_
      refine SW.seq ?_
      refine SW.region ?_
      refine SWl.rd rfl (Rd.loadA 2 4 rfl rfl (by kernel_rfl) rfl trivial) ?_
      refine SWl.rd rfl (Rd.loadA 0 4 rfl rfl (by kernel_rfl) rfl trivial) ?_
      refine SWl.ef (S := []) (Ef.call (con_rE (con_mulS hF hA (by decide) (by decide)) hW1 hW2 rfl) rfl ⟨Le.refl _, Le.refl _, trivial⟩ rfl) ?_
      rintro _ rfl
      refine SWl.rd rfl (Rd.move rfl) ?_
      refine SWl.rd rfl (Rd.extract rfl rfl) ?_
      refine SWl.rd rfl (Rd.extract rfl rfl) ?_
      refine SWl.ef (S := []) (Ef.alloc (zs := [.bool false, .slice none 0 0, .bool false, .slice none 0 0]) (by kernel_rfl) rfl) ?_
      rintro _ ⟨g21, rfl⟩
      refine SWl.ef (S := [_]) (Ef.storeA 6 rfl rfl rfl (by kernel_rfl) rfl (List.mem_singleton.2 rfl)) ?_
      rintro _ rfl
      refine SWl.rd rfl (Rd.assign rfl) ?_
      refine SWl.nil ?_
      refine SN.then ?_
      refine SW.seq ?_
      refine SW.region ?_
      refine SWl.rd rfl (Rd.loadA 2 4 rfl rfl (by kernel_rfl) rfl trivial) ?_
      refine SWl.rd rfl (Rd.loadA 1 4 rfl rfl (by kernel_rfl) rfl trivial) ?_
      refine SWl.ef (S := []) (Ef.call (con_rE (con_mulS hF hC (by decide) (by decide)) hX1 hX2 rfl) rfl ⟨Le.refl _, Le.refl _, trivial⟩ rfl) ?_
      rintro _ rfl
      refine SWl.rd rfl (Rd.move rfl) ?_
      refine SWl.rd rfl (Rd.extract rfl rfl) ?_
      refine SWl.rd rfl (Rd.extract rfl rfl) ?_
      refine SWl.ef (S := []) (Ef.alloc (zs := [.bool false, .slice none 0 0, .bool false, .slice none 0 0]) (by kernel_rfl) rfl) ?_
      rintro _ ⟨g23, rfl⟩
      refine SWl.ef (S := [_]) (Ef.storeA 7 rfl rfl rfl (by kernel_rfl) rfl (List.mem_singleton.2 rfl)) ?_
      rintro _ rfl
      refine SWl.rd rfl (Rd.assign rfl) ?_
      refine SWl.nil ?_
      refine SN.then ?_
      refine SW.seq ?_
      refine SW.sub (σ' := St.of [(3, isD (.pointer (some ⟨g3, 0, none⟩))), (4, isD (.pointer (some ⟨g4, 0, none⟩))), (15, isD (.pointer (some ⟨g15, 0, none⟩))), (19, isD (.pointer (some ⟨g19, 0, none⟩))), (21, isD (.pointer (some ⟨g21, 0, none⟩))), (23, isD (.pointer (some ⟨g23, 0, none⟩))), (20, errD (0)), (22, errD (0)), (24, errD (0))] [(g3, ratC (a) (b)), (g4, ratC (c) (e)), (g15, ratC (Pp1) (Pp2)), (g19, ratC (Vv1) (Vv2)), (g21, ratC (W1) (W2)), (g23, ratC (X1) (X2))]) (⟨⟨_, rfl, ⟨⟨_, rfl, Le.refl _⟩, ⟨⟨_, rfl, Le.refl _⟩, ⟨⟨_, rfl, Le.refl _⟩, ⟨⟨_, rfl, Le.refl _⟩, ⟨⟨_, rfl, Le.refl _⟩, ⟨⟨_, rfl, Le.refl _⟩, ⟨⟨_, rfl, Le.refl _⟩, ⟨⟨_, rfl, Le.refl _⟩, ⟨⟨_, rfl, Le.refl _⟩, trivial⟩⟩⟩⟩⟩⟩⟩⟩⟩⟩, [0, 1, 4, 5, 6, 7], by decide, ⟨⟨_, rfl, LeAll.refl _⟩, ⟨⟨_, rfl, LeAll.refl _⟩, ⟨⟨_, rfl, LeAll.refl _⟩, ⟨⟨_, rfl, LeAll.refl _⟩, ⟨⟨_, rfl, LeAll.refl _⟩, ⟨⟨_, rfl, LeAll.refl _⟩, trivial⟩⟩⟩⟩⟩⟩⟩) ?_
      refine SW.region ?_
      refine SWl.rd rfl (Rd.loadA 4 4 rfl rfl (by kernel_rfl) rfl trivial) ?_
      refine SWl.rd rfl (Rd.loadA 5 4 rfl rfl (by kernel_rfl) rfl trivial) ?_
      refine SWl.ef (S := []) (Ef.call (con_rE (con_addS gW gX (by decide) (by decide) (by decide)) hY1 hY2 rfl) rfl ⟨Le.refl _, Le.refl _, trivial⟩ rfl) ?_
      rintro _ rfl
      refine SWl.rd rfl (Rd.move rfl) ?_
      refine SWl.rd rfl (Rd.extract rfl rfl) ?_
      refine SWl.rd rfl (Rd.extract rfl rfl) ?_
      refine SWl.ef (S := []) (Ef.alloc (zs := [.bool false, .slice none 0 0, .bool false, .slice none 0 0]) (by kernel_rfl) rfl) ?_
      rintro _ ⟨g25, rfl⟩
      refine SWl.ef (S := [_]) (Ef.storeA 6 rfl rfl rfl (by kernel_rfl) rfl (List.mem_singleton.2 rfl)) ?_
      rintro _ rfl
      refine SWl.rd rfl (Rd.assign rfl) ?_
      refine SWl.nil ?_
      refine SN.then ?_
      refine SW.seq ?_
      refine SW.region ?_
      refine SWl.rd rfl (Rd.loadA 0 4 rfl rfl (by kernel_rfl) rfl trivial) ?_
      refine SWl.rd rfl (Rd.loadA 1 4 rfl rfl (by kernel_rfl) rfl trivial) ?_
      refine SWl.ef (S := []) (Ef.call (con_rE (con_subS hA hC (by decide) (by decide) (by decide)) hDd1 hDd2 rfl) rfl ⟨Le.refl _, Le.refl _, trivial⟩ rfl) ?_
      rintro _ rfl
      refine SWl.rd rfl (Rd.move rfl) ?_
      refine SWl.rd rfl (Rd.extract rfl rfl) ?_
      refine SWl.rd rfl (Rd.extract rfl rfl) ?_
      refine SWl.ef (S := []) (Ef.alloc (zs := [.bool false, .slice none 0 0, .bool false, .slice none 0 0]) (by kernel_rfl) rfl) ?_
      rintro _ ⟨g27, rfl⟩
      refine SWl.ef (S := [_]) (Ef.storeA 7 rfl rfl rfl (by kernel_rfl) rfl (List.mem_singleton.2 rfl)) ?_
      rintro _ rfl
      refine SWl.rd rfl (Rd.assign rfl) ?_
      refine SWl.nil ?_
      refine SN.then ?_
      refine SW.seq ?_
      refine SW.seq ?_
      refine SW.sub (σ' := St.of [(3, isD (.pointer (some ⟨g3, 0, none⟩))), (4, isD (.pointer (some ⟨g4, 0, none⟩))), (15, isD (.pointer (some ⟨g15, 0, none⟩))), (19, isD (.pointer (some ⟨g19, 0, none⟩))), (25, isD (.pointer (some ⟨g25, 0, none⟩))), (27, isD (.pointer (some ⟨g27, 0, none⟩))), (20, errD (0)), (22, errD (0)), (24, errD (0)), (26, errD (0)), (28, errD (0))] [(g3, ratC (a) (b)), (g4, ratC (c) (e)), (g15, ratC (Pp1) (Pp2)), (g19, ratC (Vv1) (Vv2)), (g25, ratC (Y1) (Y2)), (g27, ratC (Dd1) (Dd2))]) (⟨⟨_, rfl, ⟨⟨_, rfl, Le.refl _⟩, ⟨⟨_, rfl, Le.refl _⟩, ⟨⟨_, rfl, Le.refl _⟩, ⟨⟨_, rfl, Le.refl _⟩, ⟨⟨_, rfl, Le.refl _⟩, ⟨⟨_, rfl, Le.refl _⟩, ⟨⟨_, rfl, Le.refl _⟩, ⟨⟨_, rfl, Le.refl _⟩, ⟨⟨_, rfl, Le.refl _⟩, ⟨⟨_, rfl, Le.refl _⟩, ⟨⟨_, rfl, Le.refl _⟩, trivial⟩⟩⟩⟩⟩⟩⟩⟩⟩⟩⟩⟩, [0, 1, 2, 3, 6, 7], by decide, ⟨⟨_, rfl, LeAll.refl _⟩, ⟨⟨_, rfl, LeAll.refl _⟩, ⟨⟨_, rfl, LeAll.refl _⟩, ⟨⟨_, rfl, LeAll.refl _⟩, ⟨⟨_, rfl, LeAll.refl _⟩, ⟨⟨_, rfl, LeAll.refl _⟩, trivial⟩⟩⟩⟩⟩⟩⟩) ?_
      refine SW.draw [] (.r 0 (.r 1 (.r 2 (.r 3 (.r 4 (.r 5 (.r 6 (.r 7 (.r 8 (.r 9 (.r 10 (.r 11 (.r 12 (.r 13 (.r 14 (.r 15 (.r 16 (.r 17 (.r 18 (.r 19 (.r 20 (.n 21 (.r 22 (.r 23 (.r 24 (.r 25 (.r 27 (.r 28 (.n 26 (.n 29 (.r 30 (.r 31 .fin)) .no) .no))))))) .no)))))))))))))))))))))) (by kernel_rfl) (by kernel_rfl) (fun d _ _ _ _ h => by cases d <;> exact h) ?_
      refine SWz.rd (i := 0) rfl rfl (Rd.move rfl) ?_
      refine SWz.rd (i := 1) rfl rfl (Rd.nei rfl rfl) ?_
      refine SWz.rd (i := 2) rfl rfl (Rd.move rfl) ?_
      refine SWz.rdg (i := 3) rfl rfl rfl (by decide) rfl rfl (Rd.move rfl) ?_
      refine SWz.rdg (i := 4) rfl rfl rfl (by decide) rfl rfl (Rd.nei rfl rfl) ?_
      refine SWz.rd (i := 5) rfl rfl (Rd.pickN rfl (by decide) rfl) ?_
      refine SWz.rd (i := 6) rfl rfl (Rd.move rfl) ?_
      refine SWz.rdg (i := 7) rfl rfl rfl (by decide) rfl rfl (Rd.move rfl) ?_
      refine SWz.rdg (i := 8) rfl rfl rfl (by decide) rfl rfl (Rd.nei rfl rfl) ?_
      refine SWz.rd (i := 9) rfl rfl (Rd.pickN rfl (by decide) rfl) ?_
      refine SWz.rd (i := 10) rfl rfl (Rd.move rfl) ?_
      refine SWz.rdg (i := 11) rfl rfl rfl (by decide) rfl rfl (Rd.move rfl) ?_
      refine SWz.rdg (i := 12) rfl rfl rfl (by decide) rfl rfl (Rd.nei rfl rfl) ?_
      refine SWz.rd (i := 13) rfl rfl (Rd.pickN rfl (by decide) rfl) ?_
      refine SWz.rd (i := 14) rfl rfl (Rd.move rfl) ?_
      refine SWz.rdg (i := 15) rfl rfl rfl (by decide) rfl rfl (Rd.move rfl) ?_
      refine SWz.rdg (i := 16) rfl rfl rfl (by decide) rfl rfl (Rd.nei rfl rfl) ?_
      refine SWz.rd (i := 17) rfl rfl (Rd.pickN rfl (by decide) rfl) ?_
      refine SWz.rd (i := 18) rfl rfl (Rd.move rfl) ?_
      refine SWz.rdg (i := 19) rfl rfl rfl (by decide) rfl rfl (Rd.loadA 3 4 rfl rfl (by kernel_rfl) rfl trivial) ?_
      refine SWz.rdg (i := 20) rfl rfl rfl (by decide) rfl rfl (Rd.loadA 4 4 rfl rfl (by kernel_rfl) rfl trivial) ?_
      refine SWz.efng (i := 21) rfl rfl rfl (by decide) rfl (Ef.call (con_same2T v1 v2) rfl ⟨Le.refl _, Le.refl _, trivial⟩ rfl) ?_ SWz.no
      rintro _ rfl
      refine SWz.rdg (i := 22) rfl rfl rfl (by decide) rfl rfl (Rd.not rfl) ?_
      refine SWz.rd (i := 23) rfl rfl (Rd.pickN rfl (by decide) rfl) ?_
      refine SWz.rd (i := 24) rfl rfl (Rd.move rfl) ?_
      refine SWz.rdg (i := 25) rfl rfl rfl (rfl) rfl rfl (Rd.loadA 5 4 rfl rfl (by kernel_rfl) rfl trivial) ?_
      refine SWz.rdg (i := 27) rfl rfl rfl (rfl) rfl rfl (Rd.loadA 0 4 rfl rfl (by kernel_rfl) rfl trivial) ?_
      refine SWz.rdg (i := 28) rfl rfl rfl (rfl) rfl rfl (Rd.loadA 1 4 rfl rfl (by kernel_rfl) rfl trivial) ?_
      refine SWz.efng (i := 26) rfl rfl rfl (rfl) rfl (Ef.call (con_eE (con_signQ gD) hsg) rfl ⟨Le.refl _, trivial⟩ rfl) ?_ SWz.no
      rintro _ rfl
      refine SWz.efng (i := 29) rfl rfl rfl (rfl) rfl (Ef.call (con_cmpQ hA.g hC.g) rfl ⟨Le.refl _, Le.refl _, trivial⟩ rfl) ?_ SWz.no
      rintro _ rfl
      refine SWz.rdg (i := 30) rfl rfl rfl (rfl) rfl rfl (Rd.nei rfl rfl) ?_
      refine SWz.rd (i := 31) rfl rfl (Rd.pickN rfl (rfl) rfl) ?_
      refine SWz.nil ?_
      refine SN.then ?_
      refine SW.condF rfl (by rw [decide_eq_true rfl]; rfl) ?_
      refine SW.skip ?_
      refine SN.then ?_
      refine SW.seq ?_
      refine SW.seq ?_
      refine SW.sub (σ' := St.of [(3, isD (.pointer (some ⟨g3, 0, none⟩))), (4, isD (.pointer (some ⟨g4, 0, none⟩))), (15, isD (.pointer (some ⟨g15, 0, none⟩)))] [(g3, ratC (a) (b)), (g4, ratC (c) (e)), (g15, ratC (Pp1) (Pp2))]) (⟨⟨_, rfl, ⟨⟨_, rfl, Le.refl _⟩, ⟨⟨_, rfl, Le.refl _⟩, ⟨⟨_, rfl, Le.refl _⟩, trivial⟩⟩⟩⟩, [0, 1, 2], by decide, ⟨⟨_, rfl, LeAll.refl _⟩, ⟨⟨_, rfl, LeAll.refl _⟩, ⟨⟨_, rfl, LeAll.refl _⟩, trivial⟩⟩⟩⟩) ?_
      refine SW.region ?_
      refine SWl.rd rfl (Rd.loadA 1 4 rfl rfl (by kernel_rfl) rfl trivial) ?_
      refine SWl.ef (S := []) (Ef.call (con_signQ hC.g) rfl ⟨Le.refl _, trivial⟩ rfl) ?_
      rintro _ rfl
      refine SWl.rd rfl (Rd.eqi rfl rfl) ?_
      refine SWl.nil ?_
      refine SN.then ?_
      refine SW.cond rfl (fun hb200 => ?_) (fun hb200 => ?_)
      · skip
        refine SW.seq ?_
        refine SW.region ?_
        refine SWl.ef (S := []) (Ef.call (con_known2) rfl trivial rfl) ?_
        rintro _ rfl
        refine SWl.rd rfl (Rd.assign rfl) ?_
        refine SWl.nil ?_
        refine SN.then ?_
        refine SW.ret (fn := Try.f17) (fun _ _ h => h) (Rs.one rfl (ResV.tmp rfl))
      · have hc0 : c ≠ 0 := (fun h => of_decide_eq_false hb200 (by rw [h]; rfl)); obtain ⟨z1, z2⟩ := red_eq ((gP.n.mul hC.d).b (by decide)) ((gP.d.mul hC.n).b (by decide)) (Int.mul_ne_zero gP.g.d0 hc0) hA.g (show (Pp1 * e) * b = a * (Pp2 * c) by grind)
        refine SW.skip ?_
        refine SN.then ?_
        refine SW.seq ?_
        refine SW.region ?_
        refine SWl.rd rfl (Rd.loadA 2 4 rfl rfl (by kernel_rfl) rfl trivial) ?_
        refine SWl.rd rfl (Rd.loadA 1 4 rfl rfl (by kernel_rfl) rfl trivial) ?_
        refine SWl.ef (S := []) (Ef.call (con_rE (con_quoS gP hC (by decide) (by decide) hc0) z1 z2 rfl) rfl ⟨Le.refl _, Le.refl _, trivial⟩ rfl) ?_
        rintro _ rfl
        refine SWl.rd rfl (Rd.move rfl) ?_
        refine SWl.rd rfl (Rd.extract rfl rfl) ?_
        refine SWl.rd rfl (Rd.extract rfl rfl) ?_
        refine SWl.ef (S := []) (Ef.alloc (zs := [.bool false, .slice none 0 0, .bool false, .slice none 0 0]) (by kernel_rfl) rfl) ?_
        rintro _ ⟨g29, rfl⟩
        refine SWl.ef (S := [_]) (Ef.storeA 3 rfl rfl rfl (by kernel_rfl) rfl (List.mem_singleton.2 rfl)) ?_
        rintro _ rfl
        refine SWl.rd rfl (Rd.assign rfl) ?_
        refine SWl.nil ?_
        refine SN.then ?_
        refine SW.seq ?_
        refine SW.region ?_
        refine SWl.rd rfl (Rd.move rfl) ?_
        refine SWl.rd rfl (Rd.eqi rfl rfl) ?_
        refine SWl.rd rfl (Rd.move rfl) ?_
        refine SWl.rdg rfl rfl (by decide) rfl rfl (Rd.loadA 3 4 rfl rfl (by kernel_rfl) rfl trivial) ?_
        refine SWl.rdg rfl rfl (by decide) rfl rfl (Rd.loadA 0 4 rfl rfl (by kernel_rfl) rfl trivial) ?_
        refine SWl.efg (S := []) rfl rfl (by decide) rfl (Ef.call (con_same2T rfl rfl) rfl ⟨Le.refl _, Le.refl _, trivial⟩ rfl) ?_
        rintro _ rfl
        refine SWl.rd rfl (Rd.pickY rfl (by decide) rfl) ?_
        refine SWl.rd rfl (Rd.move rfl) ?_
        refine SWl.efg (S := []) rfl rfl (rfl) rfl (Ef.call (con_known2) rfl trivial rfl) ?_
        rintro _ rfl
        refine SWl.rd rfl (Rd.pickY rfl (rfl) rfl) ?_
        refine SWl.rd rfl (Rd.assign rfl) ?_
        refine SWl.nil ?_
        refine SN.then ?_
        refine SW.ret (fn := Try.f17) (fun _ _ h => h) (Rs.one rfl (ResV.tmp rfl))
theorem ratioField_con (s0 : Bool) (b0 : List Nat) (t0 : Bool) (c0 : List Nat) (hB0 : Byt b0 c0) (s1 : Bool) (b1 : List Nat) (t1 : Bool) (c1 : List Nat) (hB1 : Byt b1 c1) (s2 : Bool) (b2 : List Nat) (t2 : Bool) (c2 : List Nat) (hB2 : Byt b2 c2) : Con Try.prog 17 [rratD s0 b0 t0 c0, rratD s1 b1 t1 c1, rratD s2 b2 t2 c2] (boolD true) := rfield_all hB0 hB1 hB2
end Sx
end Go.Proofs.Ytddfphneidcibaa
