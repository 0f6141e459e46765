/-
  THE WALKS of ratio's Compare, Min, Max and of the reference's Compare.
  THE WALKS of strings.Cut at a slash and of ratio's Parse.
  THE WALKS of the reference's Read of a Ratio and of the laws' big.
-/
import Derived.Test.YtddfphneidcibaaGT
import Derived.Test.YtddfphneidcibaaGN
import Derived.Lib.Bytealg
namespace Go.Proofs.Ytddfphneidcibaa
open Go.RowKit
open Nm (W32)
namespace Sx
theorem cmpZ_sub (x y : Int) : cmpZ x y = (x - y).sign := by
  unfold cmpZ
  by_cases h : x < y
  · rw [if_pos h, Int.sign_eq_neg_one_of_neg (by omega)]
  · rw [if_neg h]
    by_cases h2 : x = y
    · rw [if_pos h2, h2, Int.sub_self]; rfl
    · rw [if_neg h2, Int.sign_eq_one_of_pos (by omega)]
theorem cmpZ_bd (x y : Int) : -1 ≤ cmpZ x y ∧ cmpZ x y ≤ 1 := by
  unfold cmpZ
  split
  · omega
  · split <;> omega
theorem dr_bd {n d : Int} (hd : 0 < d) : 0 ≤ dr n d ∧ dr n d < d := by
  have h2 := dr_abs (x := n) (y := d) (by omega)
  have h3 : 0 ≤ dr n d := by
    unfold dr sgn
    rw [decide_eq_false (show ¬ d < 0 by omega)]
    simp only [Bool.false_eq_true, if_false]
    omega
  omega
/-- Comparing two fractions. -/
def cmpQ (n d m e : Int) : Int := cmpZ (n * e) (m * d)
theorem cmpQ_sub {n d m e : Int} (hd : 0 < d) (he : 0 < e) : cmpQ n d m e = ((dq n d - dq m e) * (d * e) + (dr n d * e - dr m e * d)).sign := by
  unfold cmpQ
  rw [cmpZ_sub]
  congr 1
  have h1 := dq_dr (y := d) n (by omega)
  have h2 := dq_dr (y := e) m (by omega)
  have e1 : n * e = dq n d * (d * e) + dr n d * e := by
    rw [← Int.mul_assoc, ← Int.add_mul, h1]
  have e2 : m * d = dq m e * (d * e) + dr m e * d := by
    rw [Int.mul_comm d e, ← Int.mul_assoc, ← Int.add_mul, h2]
  rw [Int.sub_mul]
  omega
theorem cmpQ_ne {n d m e : Int} (hd : 0 < d) (he : 0 < e) (h : ¬ dq n d = dq m e) : cmpQ n d m e = cmpZ (dq n d) (dq m e) := by
  have hr := dr_bd (n := n) hd
  have hs := dr_bd (n := m) he
  rw [cmpQ_sub hd he]
  generalize dq n d = p at *
  generalize dq m e = q at *
  generalize dr n d = r at *
  generalize dr m e = s at *
  have hde : 0 < d * e := Int.mul_pos hd he
  have h1 : 0 ≤ r * e := Int.mul_nonneg hr.1 (by omega)
  have h2 : 0 ≤ s * d := Int.mul_nonneg hs.1 (by omega)
  have h3 : r * e < d * e := Int.mul_lt_mul_of_pos_right hr.2 he
  have h4 : s * d < d * e := by rw [Int.mul_comm d e]; exact Int.mul_lt_mul_of_pos_right hs.2 hd
  unfold cmpZ
  by_cases hlt : p < q
  · rw [if_pos hlt]
    have h5 : (p - q) * (d * e) ≤ (-1) * (d * e) := Int.mul_le_mul_of_nonneg_right (by omega) (by omega)
    exact Int.sign_eq_neg_one_of_neg (by omega)
  · rw [if_neg hlt, if_neg h]
    have h5 : 1 * (d * e) ≤ (p - q) * (d * e) := Int.mul_le_mul_of_nonneg_right (by omega) (by omega)
    exact Int.sign_eq_one_of_pos (by omega)
theorem cmpQ_eq {n d m e : Int} (hd : 0 < d) (he : 0 < e) (h : dq n d = dq m e) : cmpQ n d m e = (dr n d * e - dr m e * d).sign := by
  rw [cmpQ_sub hd he, h, Int.sub_self, Int.zero_mul, Int.zero_add]
/-- What is kept while two fractions are compared. -/
structure CmpI (C n d m e o : Int) : Prop where
  n5 : n.natAbs < big512
  d5 : d.natAbs < big512
  m5 : m.natAbs < big512
  e5 : e.natAbs < big512
  dp : 0 < d
  ep : 0 < e
  o1 : o = 1 ∨ o = -1
  eq : o * cmpQ n d m e = C
theorem CmpI.a {C n d m e o : Int} (h : CmpI C n d m e o) (hne : ¬ dq n d = dq m e) : o * cmpZ (dq n d) (dq m e) = C := by
  rw [← cmpQ_ne h.dp h.ep hne]; exact h.eq
theorem CmpI.b {C n d m e o : Int} (h : CmpI C n d m e o) (he : dq n d = dq m e) (hr : dr n d = 0) (hs : dr m e = 0) : (0 : Int) = C := by
  rw [← h.eq, cmpQ_eq h.dp h.ep he, hr, hs]
  simp
theorem CmpI.c {C n d m e o : Int} (h : CmpI C n d m e o) (he : dq n d = dq m e) (hr : dr n d = 0) (hs : ¬ dr m e = 0) : -o = C := by
  have h1 := dr_bd (n := m) h.ep
  rw [← h.eq, cmpQ_eq h.dp h.ep he, hr, Int.zero_mul, Int.zero_sub, Int.sign_eq_neg_one_of_neg (by have := Int.mul_pos (show 0 < dr m e by omega) h.dp; omega)]
  omega
theorem CmpI.d_ {C n d m e o : Int} (h : CmpI C n d m e o) (he : dq n d = dq m e) (hr : ¬ dr n d = 0) (hs : dr m e = 0) : o = C := by
  have h1 := dr_bd (n := n) h.dp
  rw [← h.eq, cmpQ_eq h.dp h.ep he, hs, Int.zero_mul, Int.sub_zero, Int.sign_eq_one_of_pos (Int.mul_pos (by omega) h.ep)]
  omega
theorem CmpI.next {C n d m e o : Int} (h : CmpI C n d m e o) (he : dq n d = dq m e) (hr : ¬ dr n d = 0) (hs : ¬ dr m e = 0) : CmpI C d (dr n d) e (dr m e) (-o) := by
  have h1 := dr_bd (n := n) h.dp
  have h2 := dr_bd (n := m) h.ep
  have b1 := dr_abs (x := n) (y := d) (by have := h.dp; omega)
  have b2 := dr_abs (x := m) (y := e) (by have := h.ep; omega)
  refine ⟨h.d5, Nat.lt_trans b1 h.d5, h.e5, Nat.lt_trans b2 h.e5, by omega, by omega, by have := h.o1; omega, ?_⟩
  rw [← h.eq, cmpQ_eq h.dp h.ep he]
  unfold cmpQ
  rw [cmpZ_sub, show dr n d * e - dr m e * d = -(d * dr m e - e * dr n d) by rw [Int.mul_comm d, Int.mul_comm e]; omega, Int.sign_neg]
  rw [Int.neg_mul, Int.mul_neg]
theorem CmpI.start {a b c e : Int} (hG : Good a b) (hH : Good c e) : CmpI (cmpQ a b c e) a b c e 1 := ⟨hG.hn, hG.hd, hH.hn, hH.hd, hG.pos, hH.pos, .inl rfl, Int.one_mul _⟩
set_option maxHeartbeats 4000000 in
set_option maxRecDepth 100000 in
theorem con_cmpQ {a b c e : Int} (hG : Good a b) (hH : Good c e) : Con Try.prog 79 [ratD a b, ratD c e] (errD (cmpQ a b c e)) := by
  refine con_of Try.func79 (by kernel_rfl) rfl (by kernel_rfl) fun base w0 => ?_
  refine SW.seq ?_
  refine SW.region ?_
  refine SWl.ef (S := []) (Ef.boxA rfl rfl) ?_
  rintro _ ⟨g2, rfl⟩
  refine SWl.ef (S := []) (Ef.boxA rfl rfl) ?_
  rintro _ ⟨g3, rfl⟩
  refine SWl.rd rfl (Rd.assign rfl) ?_
  refine SWl.nil ?_
  refine SN.then ?_
  refine SW.scope ?_
  refine SW.seq ?_
  refine SW.seq ?_
  refine SW.region ?_
  refine SWl.rd rfl (Rd.loadA 0 4 rfl rfl (by kernel_rfl) rfl trivial) ?_
  refine SWl.ef (S := []) (Ef.call (con_rvalT (by assumption)) rfl ⟨Le.refl _, trivial⟩ rfl) ?_
  rintro _ rfl
  refine SWl.rd rfl (Rd.not rfl) ?_
  refine SWl.rd rfl (Rd.move rfl) ?_
  refine SWl.rdg rfl rfl (rfl) rfl rfl (Rd.loadA 1 4 rfl rfl (by kernel_rfl) rfl trivial) ?_
  refine SWl.efg (S := []) rfl rfl (rfl) rfl (Ef.call (con_rvalT (by assumption)) rfl ⟨Le.refl _, trivial⟩ rfl) ?_
  rintro _ rfl
  refine SWl.rdg rfl rfl (rfl) rfl rfl (Rd.not rfl) ?_
  refine SWl.rd rfl (Rd.pickN rfl (rfl) rfl) ?_
  refine SWl.nil ?_
  refine SN.then ?_
  refine SW.condF rfl (rfl) ?_
  refine SW.skip ?_
  refine SN.then ?_
  refine SW.seq ?_
  refine SW.region ?_
  refine SWl.rd rfl (Rd.assign rfl) ?_
  refine SWl.nil ?_
  refine SN.then ?_
  refine SW.seq ?_
  refine SW.label ?_
  refine SN.then ?_
  refine SW.seq ?_
  refine SW.block ?_
  refine SW.loop (ι := {p : (Int × Int) × (Int × Int) × Int // CmpI (cmpQ a b c e) p.1.1 p.1.2 p.2.1.1 p.2.1.2 p.2.2}) (fun ⟨⟨⟨n, d⟩, ⟨m, f⟩, o⟩, hI⟩ => St.of [(2, isD (.pointer (some ⟨g2, 0, none⟩))), (3, isD (.pointer (some ⟨g3, 0, none⟩))), (5, errD o)] [(g2, ratC (n) (d)), (g3, ratC (m) (f))]) (fun ⟨⟨⟨n, d⟩, ⟨m, f⟩, o⟩, hI⟩ => d.natAbs) (⟨((a, b), (c, e), 1), CmpI.start hG hH⟩) ?_ ?_
  · exact ⟨⟨_, rfl, ⟨⟨_, rfl, Le.refl _⟩, ⟨⟨_, rfl, Le.refl _⟩, ⟨⟨_, rfl, Le.refl _⟩, trivial⟩⟩⟩⟩, [0, 1], by decide, ⟨⟨_, rfl, LeAll.refl _⟩, ⟨⟨_, rfl, LeAll.refl _⟩, trivial⟩⟩⟩
  · rintro ⟨⟨⟨n, d⟩, ⟨m, f⟩, o⟩, hI⟩ K0 hK0
    simp only at hI
    have hd0 : d ≠ 0 := by have := hI.dp; omega
    have he0 : f ≠ 0 := by have := hI.ep; omega
    have hp5 := Nat.lt_of_le_of_lt (dq_abs (x := n) hd0) hI.n5
    have hq5 := Nat.lt_of_le_of_lt (dq_abs (x := m) he0) hI.m5
    have hrl := dr_abs (x := n) hd0
    have hr5 := Nat.lt_trans hrl hI.d5
    have hs5 := Nat.lt_trans (dr_abs (x := m) he0) hI.e5
    have hcb := cmpZ_bd (dq n d) (dq m f)
    refine SW.block ?_
    refine SW.seq ?_
    refine SW.region ?_
    refine SWl.rd rfl (Rd.fieldAddr (n := 0) rfl (by kernel_rfl)) ?_
    refine SWl.rd rfl (Rd.loadA 0 2 rfl rfl (by kernel_rfl) rfl trivial) ?_
    refine SWl.rd rfl (Rd.fieldAddr (n := 2) rfl (by kernel_rfl)) ?_
    refine SWl.rd rfl (Rd.loadA 0 2 rfl rfl (by kernel_rfl) rfl trivial) ?_
    refine SWl.ef (S := []) (Ef.call (con_divMod hI.n5 hI.d5 hd0) rfl ⟨Le.refl _, Le.refl _, trivial⟩ rfl) ?_
    rintro _ rfl
    refine SWl.rd rfl (Rd.move rfl) ?_
    refine SWl.rd rfl (Rd.extract rfl rfl) ?_
    refine SWl.rd rfl (Rd.extract rfl rfl) ?_
    refine SWl.rd rfl (Rd.extract rfl rfl) ?_
    refine SWl.ef (S := []) (Ef.alloc (zs := [.bool false, .slice none 0 0]) (by kernel_rfl) rfl) ?_
    rintro _ ⟨g6, rfl⟩
    refine SWl.ef (S := []) (Ef.alloc (zs := [.bool false, .slice none 0 0]) (by kernel_rfl) rfl) ?_
    rintro _ ⟨g7, rfl⟩
    refine SWl.ef (S := [_]) (Ef.storeA 2 rfl rfl rfl (by kernel_rfl) rfl (List.mem_singleton.2 rfl)) ?_
    rintro _ rfl
    refine SWl.ef (S := [_]) (Ef.storeA 3 rfl rfl rfl (by kernel_rfl) rfl (List.mem_singleton.2 rfl)) ?_
    rintro _ rfl
    refine SWl.rd rfl (Rd.assign rfl) ?_
    refine SWl.nil ?_
    refine SN.then ?_
    refine SW.seq ?_
    refine SW.region ?_
    refine SWl.rd rfl (Rd.fieldAddr (n := 0) rfl (by kernel_rfl)) ?_
    refine SWl.rd rfl (Rd.loadA 1 2 rfl rfl (by kernel_rfl) rfl trivial) ?_
    refine SWl.rd rfl (Rd.fieldAddr (n := 2) rfl (by kernel_rfl)) ?_
    refine SWl.rd rfl (Rd.loadA 1 2 rfl rfl (by kernel_rfl) rfl trivial) ?_
    refine SWl.ef (S := []) (Ef.call (con_divMod hI.m5 hI.e5 he0) rfl ⟨Le.refl _, Le.refl _, trivial⟩ rfl) ?_
    rintro _ rfl
    refine SWl.rd rfl (Rd.move rfl) ?_
    refine SWl.rd rfl (Rd.extract rfl rfl) ?_
    refine SWl.rd rfl (Rd.extract rfl rfl) ?_
    refine SWl.rd rfl (Rd.extract rfl rfl) ?_
    refine SWl.ef (S := []) (Ef.alloc (zs := [.bool false, .slice none 0 0]) (by kernel_rfl) rfl) ?_
    rintro _ ⟨g9, rfl⟩
    refine SWl.ef (S := []) (Ef.alloc (zs := [.bool false, .slice none 0 0]) (by kernel_rfl) rfl) ?_
    rintro _ ⟨g10, rfl⟩
    refine SWl.ef (S := [_]) (Ef.storeA 4 rfl rfl rfl (by kernel_rfl) rfl (List.mem_singleton.2 rfl)) ?_
    rintro _ rfl
    refine SWl.ef (S := [_]) (Ef.storeA 5 rfl rfl rfl (by kernel_rfl) rfl (List.mem_singleton.2 rfl)) ?_
    rintro _ rfl
    refine SWl.rd rfl (Rd.assign rfl) ?_
    refine SWl.nil ?_
    refine SN.then ?_
    refine SW.seq ?_
    refine SW.sub (σ' := St.of [(2, isD (.pointer (some ⟨g2, 0, none⟩))), (3, isD (.pointer (some ⟨g3, 0, none⟩))), (6, isD (.pointer (some ⟨g6, 0, none⟩))), (7, isD (.pointer (some ⟨g7, 0, none⟩))), (9, isD (.pointer (some ⟨g9, 0, none⟩))), (10, isD (.pointer (some ⟨g10, 0, none⟩))), (5, errD o)] [(g2, ratC (n) (d)), (g3, ratC (m) (f)), (g6, intC (dq n d)), (g7, intC (dr n d)), (g9, intC (dq m f)), (g10, intC (dr m f))]) (⟨⟨_, rfl, ⟨⟨_, rfl, Le.refl _⟩, ⟨⟨_, rfl, Le.refl _⟩, ⟨⟨_, rfl, Le.refl _⟩, ⟨⟨_, rfl, Le.refl _⟩, ⟨⟨_, rfl, Le.refl _⟩, ⟨⟨_, rfl, Le.refl _⟩, ⟨⟨_, rfl, Le.refl _⟩, trivial⟩⟩⟩⟩⟩⟩⟩⟩, [0, 1, 2, 3, 4, 5], by decide, ⟨⟨_, rfl, LeAll.refl _⟩, ⟨⟨_, rfl, LeAll.refl _⟩, ⟨⟨_, rfl, LeAll.refl _⟩, ⟨⟨_, rfl, LeAll.refl _⟩, ⟨⟨_, rfl, LeAll.refl _⟩, ⟨⟨_, rfl, LeAll.refl _⟩, trivial⟩⟩⟩⟩⟩⟩⟩) ?_
    refine SW.region ?_
    refine SWl.rd rfl (Rd.loadA 2 2 rfl rfl (by kernel_rfl) rfl trivial) ?_
    refine SWl.rd rfl (Rd.loadA 4 2 rfl rfl (by kernel_rfl) rfl trivial) ?_
    refine SWl.ef (S := []) (Ef.call (con_compare hp5 hq5) rfl ⟨Le.refl _, Le.refl _, trivial⟩ rfl) ?_
    rintro _ rfl
    refine SWl.rd rfl (Rd.assign rfl) ?_
    refine SWl.nil ?_
    refine SN.then ?_
    refine SW.seq ?_
    refine SW.draw [] (.r 0 (.r 2 (.n 1 (.n 3 (.r 4 (.r 5 .fin)) .no) .no))) (by kernel_rfl) (by kernel_rfl) (fun d _ _ _ _ h => by cases d <;> exact h) ?_
    refine SWz.rd (i := 0) rfl rfl (Rd.loadA 3 2 rfl rfl (by kernel_rfl) rfl trivial) ?_
    refine SWz.rd (i := 2) rfl rfl (Rd.loadA 5 2 rfl rfl (by kernel_rfl) rfl trivial) ?_
    refine SWz.efn (i := 1) rfl (Ef.call (con_sign hr5) rfl ⟨Le.refl _, trivial⟩ rfl) ?_ SWz.no
    rintro _ rfl
    refine SWz.efn (i := 3) rfl (Ef.call (con_sign hs5) rfl ⟨Le.refl _, trivial⟩ rfl) ?_ SWz.no
    rintro _ rfl
    refine SWz.rd (i := 4) rfl rfl (Rd.assign rfl) ?_
    refine SWz.rd (i := 5) rfl rfl (Rd.assign rfl) ?_
    refine SWz.nil ?_
    refine SN.then ?_
    refine SW.seq ?_
    refine SW.block ?_
    refine SW.seq ?_
    refine SW.region ?_
    refine SWl.rd rfl (Rd.move rfl) ?_
    refine SWl.rd rfl (Rd.nei rfl rfl) ?_
    refine SWl.rd rfl (Rd.assign rfl) ?_
    refine SWl.nil ?_
    refine SN.then ?_
    refine SW.cond rfl (fun hb48 => ?_) (fun hb48 => ?_)
    · have hne : ¬ dq n d = dq m f := (fun e => by rw [cmpZ_eq0.2 e] at hb48; exact absurd hb48 (by decide))
      refine SW.seq ?_
      refine SW.region ?_
      refine SWl.rd rfl (Rd.move rfl) ?_
      refine SWl.rd rfl (Rd.move rfl) ?_
      refine SWl.rd rfl (Rd.mul rfl rfl ⟨by rcases hI.o1 with rfl | rfl <;> omega, by rcases hI.o1 with rfl | rfl <;> omega⟩) ?_
      refine SWl.rd rfl (Rd.assign rfl) ?_
      refine SWl.nil ?_
      refine SN.then ?_
      refine SW.ret (fn := Try.f79) (fun _ _ h => h) (Rs.le (Rs.one rfl (ResV.tmp rfl)) ?_)
      exact le_err (hI.a hne)
    · have heq : dq n d = dq m f := cmpZ_eq0.1 (by simpa using hb48)
      refine SW.seq ?_
      refine SW.region ?_
      refine SWl.rd rfl (Rd.move rfl) ?_
      refine SWl.rd rfl (Rd.eqi rfl rfl) ?_
      refine SWl.rd rfl (Rd.move rfl) ?_
      refine SWl.split 57 rfl (fun hb57 => ?_) (fun hb57 => ?_)
      · have hr0 : dr n d = 0 := sign_eq0.1 (of_decide_eq_true hb57)
        refine SWl.rdg rfl rfl (hb57) rfl rfl (Rd.move rfl) ?_
        refine SWl.rdg rfl rfl (hb57) rfl rfl (Rd.eqi rfl rfl) ?_
        refine SWl.rd rfl (Rd.pickY rfl (hb57) rfl) ?_
        refine SWl.rd rfl (Rd.assign rfl) ?_
        refine SWl.nil ?_
        refine SN.then ?_
        refine SW.cond rfl (fun hb54 => ?_) (fun hb54 => ?_)
        · have hs0 : dr m f = 0 := sign_eq0.1 (of_decide_eq_true hb54)
          refine SW.exit' ?_
          repeat (first | refine SE.then ?_ | refine SE.skip (by decide) ?_ | refine SE.scope ?_)
          refine SE.here ?_
          refine SN.then ?_
          refine SW.seq ?_
          refine SW.region ?_
          refine SWl.rd rfl (Rd.assign rfl) ?_
          refine SWl.nil ?_
          refine SN.then ?_
          refine SW.ret (fn := Try.f79) (fun _ _ h => h) (Rs.le (Rs.one rfl (ResV.tmp rfl)) ?_)
          exact le_err (hI.b heq hr0 hs0)
        · have hs0 : ¬ dr m f = 0 := (fun e => of_decide_eq_false hb54 (by rw [e]; rfl))
          refine SW.seq ?_
          refine SW.region ?_
          refine SWl.rd rfl (Rd.move rfl) ?_
          refine SWl.rd rfl (Rd.eqi rfl rfl) ?_
          refine SWl.rd rfl (Rd.assign rfl) ?_
          refine SWl.nil ?_
          refine SN.then ?_
          refine SW.condT rfl (hb57) ?_
          refine SW.seq ?_
          refine SW.region ?_
          refine SWl.rd rfl (Rd.move rfl) ?_
          refine SWl.rd rfl (Rd.neg rfl ⟨by rcases hI.o1 with rfl | rfl <;> omega, by rcases hI.o1 with rfl | rfl <;> omega⟩) ?_
          refine SWl.rd rfl (Rd.assign rfl) ?_
          refine SWl.nil ?_
          refine SN.then ?_
          refine SW.ret (fn := Try.f79) (fun _ _ h => h) (Rs.le (Rs.one rfl (ResV.tmp rfl)) ?_)
          exact le_err (hI.c heq hr0 hs0)
      · have hr0 : ¬ dr n d = 0 := (fun e => of_decide_eq_false hb57 (by rw [e]; rfl))
        refine SWl.off rfl rfl (hb57) rfl rfl ?_
        refine SWl.off rfl rfl (hb57) rfl rfl ?_
        refine SWl.rd rfl (Rd.pickN rfl (hb57) rfl) ?_
        refine SWl.rd rfl (Rd.assign rfl) ?_
        refine SWl.nil ?_
        refine SN.then ?_
        refine SW.condF rfl (rfl) ?_
        refine SW.seq ?_
        refine SW.region ?_
        refine SWl.rd rfl (Rd.move rfl) ?_
        refine SWl.rd rfl (Rd.eqi rfl rfl) ?_
        refine SWl.rd rfl (Rd.assign rfl) ?_
        refine SWl.nil ?_
        refine SN.then ?_
        refine SW.condF rfl (hb57) ?_
        refine SW.seq ?_
        refine SW.region ?_
        refine SWl.rd rfl (Rd.move rfl) ?_
        refine SWl.rd rfl (Rd.eqi rfl rfl) ?_
        refine SWl.rd rfl (Rd.assign rfl) ?_
        refine SWl.nil ?_
        refine SN.then ?_
        refine SW.cond rfl (fun hb66 => ?_) (fun hb66 => ?_)
        · have hs0 : dr m f = 0 := sign_eq0.1 (of_decide_eq_true hb66)
          refine SW.seq ?_
          refine SW.region ?_
          refine SWl.rd rfl (Rd.move rfl) ?_
          refine SWl.rd rfl (Rd.assign rfl) ?_
          refine SWl.nil ?_
          refine SN.then ?_
          refine SW.ret (fn := Try.f79) (fun _ _ h => h) (Rs.le (Rs.one rfl (ResV.tmp rfl)) ?_)
          exact le_err (hI.d_ heq hr0 hs0)
        · have hs0 : ¬ dr m f = 0 := (fun e => of_decide_eq_false hb66 (by rw [e]; rfl))
          refine SW.skip ?_
          refine SN.block ?_
          refine SN.then ?_
          refine SW.seq ?_
          refine SW.region ?_
          refine SWl.rd rfl (Rd.fieldAddr (n := 2) rfl (by kernel_rfl)) ?_
          refine SWl.rd rfl (Rd.loadA 0 2 rfl rfl (by kernel_rfl) rfl trivial) ?_
          refine SWl.rd rfl (Rd.loadA 3 2 rfl rfl (by kernel_rfl) rfl trivial) ?_
          refine SWl.rd rfl (Rd.build rfl rfl bldR2) ?_
          refine SWl.ef (S := [_]) (Ef.storeA 0 rfl rfl rfl (by kernel_rfl) rfl (List.mem_singleton.2 rfl)) ?_
          rintro _ rfl
          refine SWl.nil ?_
          refine SN.then ?_
          refine SW.seq ?_
          refine SW.region ?_
          refine SWl.rd rfl (Rd.fieldAddr (n := 2) rfl (by kernel_rfl)) ?_
          refine SWl.rd rfl (Rd.loadA 1 2 rfl rfl (by kernel_rfl) rfl trivial) ?_
          refine SWl.rd rfl (Rd.loadA 5 2 rfl rfl (by kernel_rfl) rfl trivial) ?_
          refine SWl.rd rfl (Rd.build rfl rfl bldR2) ?_
          refine SWl.ef (S := [_]) (Ef.storeA 1 rfl rfl rfl (by kernel_rfl) rfl (List.mem_singleton.2 rfl)) ?_
          rintro _ rfl
          refine SWl.nil ?_
          refine SN.then ?_
          refine SW.region ?_
          refine SWl.rd rfl (Rd.move rfl) ?_
          refine SWl.rd rfl (Rd.neg rfl ⟨by rcases hI.o1 with rfl | rfl <;> omega, by rcases hI.o1 with rfl | rfl <;> omega⟩) ?_
          refine SWl.rd rfl (Rd.assign rfl) ?_
          refine SWl.nil ?_
          refine SN.block ?_
          exact fun a w hh => hK0 (⟨((d, dr n d), (f, dr m f), -o), hI.next heq hr0 hs0⟩) (hrl) a w (hh.sub (⟨⟨_, rfl, ⟨⟨_, rfl, Le.refl _⟩, ⟨⟨_, rfl, Le.refl _⟩, ⟨⟨_, rfl, Le.refl _⟩, trivial⟩⟩⟩⟩, [0, 1], by decide, ⟨⟨_, rfl, LeAll.refl _⟩, ⟨⟨_, rfl, LeAll.refl _⟩, trivial⟩⟩⟩))
set_option maxHeartbeats 4000000 in
set_option maxRecDepth 100000 in
theorem con_cmpQB {s t u v : Bool} {b c p q : List Nat} (hB : Byt b c) (hC : Byt p q) (h : (rvld s b t c && rvld u p v q) = false) : Con Try.prog 79 [rratD s b t c, rratD u p v q] (errD 0) := by
  refine con_of Try.func79 (by kernel_rfl) rfl (by kernel_rfl) fun base w0 => ?_
  refine SW.seq ?_
  refine SW.region ?_
  refine SWl.ef (S := []) (Ef.boxA rfl rfl) ?_
  rintro _ ⟨g2, rfl⟩
  refine SWl.ef (S := []) (Ef.boxA rfl rfl) ?_
  rintro _ ⟨g3, rfl⟩
  refine SWl.rd rfl (Rd.assign rfl) ?_
  refine SWl.nil ?_
  refine SN.then ?_
  refine SW.scope ?_
  refine SW.seq ?_
  refine SW.seq ?_
  refine SW.region ?_
  refine SWl.rd rfl (Rd.loadA 0 4 rfl rfl (by kernel_rfl) rfl trivial) ?_
  refine SWl.ef (S := []) (Ef.call (con_rvalid hB) rfl ⟨Le.refl _, trivial⟩ rfl) ?_
  rintro _ rfl
  refine SWl.rd rfl (Rd.not rfl) ?_
  refine SWl.rd rfl (Rd.move rfl) ?_
  refine SWl.split 18 rfl (fun hb18 => ?_) (fun hb18 => ?_)
  · skip
    refine SWl.off rfl rfl (hb18) rfl rfl ?_
    refine SWl.off rfl rfl (hb18) rfl rfl ?_
    refine SWl.off rfl rfl (hb18) rfl rfl ?_
    refine SWl.rd rfl (Rd.pickY rfl (hb18) rfl) ?_
    refine SWl.nil ?_
    refine SN.then ?_
    refine SW.condT rfl (rfl) ?_
    refine SW.seq ?_
    refine SW.region ?_
    refine SWl.rd rfl (Rd.assign rfl) ?_
    refine SWl.nil ?_
    refine SN.then ?_
    refine SW.ret (fn := Try.f79) (fun _ _ h => h) (Rs.one rfl (ResV.tmp rfl))
  · skip
    refine SWl.rdg rfl rfl (hb18) rfl rfl (Rd.loadA 1 4 rfl rfl (by kernel_rfl) rfl trivial) ?_
    refine SWl.efg (S := []) rfl rfl (hb18) rfl (Ef.call (con_rvalid hC) rfl ⟨Le.refl _, trivial⟩ rfl) ?_
    rintro _ rfl
    refine SWl.rdg rfl rfl (hb18) rfl rfl (Rd.not rfl) ?_
    refine SWl.rd rfl (Rd.pickN rfl (hb18) rfl) ?_
    refine SWl.nil ?_
    refine SN.then ?_
    refine SW.cond rfl (fun hb22 => ?_) (fun hb22 => ?_)
    · skip
      refine SW.seq ?_
      refine SW.region ?_
      refine SWl.rd rfl (Rd.assign rfl) ?_
      refine SWl.nil ?_
      refine SN.then ?_
      refine SW.ret (fn := Try.f79) (fun _ _ h => h) (Rs.one rfl (ResV.tmp rfl))
    · exact absurd h (by simp_all)
set_option maxHeartbeats 4000000 in
set_option maxRecDepth 100000 in
theorem con_cmpQR {a b c e : Int} (hG : Good a b) (hH : Good c e) : Con Try.prog 80 [ratD a b, ratD c e] (errD (cmpQ a b c e)) := by
  have ha4 := b4_512 hG.hn
  have hb4 := b4_512 hG.hd
  have hc4 := b4_512 hH.hn
  have he4 := b4_512 hH.hd
  have h1 := b24 (mul_b2 hG.hn hH.hd)
  have h2 := b24 (mul_b2 hH.hn hG.hd)
  refine con_of Try.func80 (by kernel_rfl) rfl (by kernel_rfl) fun base w0 => ?_
  refine SW.seq ?_
  refine SW.region ?_
  refine SWl.ef (S := []) (Ef.boxA rfl rfl) ?_
  rintro _ ⟨g2, rfl⟩
  refine SWl.ef (S := []) (Ef.boxA rfl rfl) ?_
  rintro _ ⟨g3, rfl⟩
  refine SWl.rd rfl (Rd.assign rfl) ?_
  refine SWl.nil ?_
  refine SN.then ?_
  refine SW.seq ?_
  refine SW.draw [] (.r 0 (.r 1 (.r 2 (.r 3 (.r 5 (.r 6 (.r 7 (.r 8 (.n 4 (.n 9 (.n 10 (.r 11 .fin) .no) .no) .no))))))))) (by kernel_rfl) (by kernel_rfl) (fun d _ _ _ _ h => by cases d <;> exact h) ?_
  refine SWz.rd (i := 0) rfl rfl (Rd.fieldAddr (n := 0) rfl (by kernel_rfl)) ?_
  refine SWz.rd (i := 1) rfl rfl (Rd.loadA 0 2 rfl rfl (by kernel_rfl) rfl trivial) ?_
  refine SWz.rd (i := 2) rfl rfl (Rd.fieldAddr (n := 2) rfl (by kernel_rfl)) ?_
  refine SWz.rd (i := 3) rfl rfl (Rd.loadA 1 2 rfl rfl (by kernel_rfl) rfl trivial) ?_
  refine SWz.rd (i := 5) rfl rfl (Rd.fieldAddr (n := 0) rfl (by kernel_rfl)) ?_
  refine SWz.rd (i := 6) rfl rfl (Rd.loadA 1 2 rfl rfl (by kernel_rfl) rfl trivial) ?_
  refine SWz.rd (i := 7) rfl rfl (Rd.fieldAddr (n := 2) rfl (by kernel_rfl)) ?_
  refine SWz.rd (i := 8) rfl rfl (Rd.loadA 0 2 rfl rfl (by kernel_rfl) rfl trivial) ?_
  refine SWz.efn (i := 4) rfl (Ef.call (con_productR (by assumption) (by assumption)) rfl ⟨Le.refl _, Le.refl _, trivial⟩ rfl) ?_ SWz.no
  rintro _ rfl
  refine SWz.efn (i := 9) rfl (Ef.call (con_productR (by assumption) (by assumption)) rfl ⟨Le.refl _, Le.refl _, trivial⟩ rfl) ?_ SWz.no
  rintro _ rfl
  refine SWz.efn (i := 10) rfl (Ef.call (con_compareR h1 h2) rfl ⟨Le.refl _, Le.refl _, trivial⟩ rfl) ?_ SWz.no
  rintro _ rfl
  refine SWz.rd (i := 11) rfl rfl (Rd.assign rfl) ?_
  refine SWz.nil ?_
  refine SN.then ?_
  refine SW.ret (fn := Try.f80) (fun _ _ h => h) (Rs.one rfl (ResV.tmp rfl))
set_option maxHeartbeats 4000000 in
set_option maxRecDepth 100000 in
theorem con_minQ {a b c e : Int} (hG : Good a b) (hH : Good c e) : Con Try.prog 77 [ratD a b, ratD c e] (tupD [ratD (if cmpQ a b c e ≤ 0 then a else c) (if cmpQ a b c e ≤ 0 then b else e), errD 0]) := by
  refine con_of Try.func77 (by kernel_rfl) rfl (by kernel_rfl) fun base w0 => ?_
  refine SW.seq ?_
  refine SW.region ?_
  refine SWl.ef (S := []) (Ef.boxA rfl rfl) ?_
  rintro _ ⟨g2, rfl⟩
  refine SWl.ef (S := []) (Ef.boxA rfl rfl) ?_
  rintro _ ⟨g3, rfl⟩
  refine SWl.ef (S := []) (Ef.alloc (zs := [.bool false, .slice none 0 0, .bool false, .slice none 0 0]) (by kernel_rfl) rfl) ?_
  rintro _ ⟨g4, rfl⟩
  refine SWl.rd rfl (Rd.assign rfl) ?_
  refine SWl.nil ?_
  refine SN.then ?_
  refine SW.seq ?_
  refine SW.seq ?_
  refine SW.region ?_
  refine SWl.rd rfl (Rd.loadA 0 4 rfl rfl (by kernel_rfl) rfl trivial) ?_
  refine SWl.ef (S := []) (Ef.call (con_rvalT (by assumption)) rfl ⟨Le.refl _, trivial⟩ rfl) ?_
  rintro _ rfl
  refine SWl.rd rfl (Rd.not rfl) ?_
  refine SWl.rd rfl (Rd.move rfl) ?_
  refine SWl.rdg rfl rfl (rfl) rfl rfl (Rd.loadA 1 4 rfl rfl (by kernel_rfl) rfl trivial) ?_
  refine SWl.efg (S := []) rfl rfl (rfl) rfl (Ef.call (con_rvalT (by assumption)) rfl ⟨Le.refl _, trivial⟩ rfl) ?_
  rintro _ rfl
  refine SWl.rdg rfl rfl (rfl) rfl rfl (Rd.not rfl) ?_
  refine SWl.rd rfl (Rd.pickN rfl (rfl) rfl) ?_
  refine SWl.nil ?_
  refine SN.then ?_
  refine SW.condF rfl (rfl) ?_
  refine SW.skip ?_
  refine SN.then ?_
  refine SW.seq ?_
  refine SW.seq ?_
  refine SW.region ?_
  refine SWl.rd rfl (Rd.loadA 0 4 rfl rfl (by kernel_rfl) rfl trivial) ?_
  refine SWl.rd rfl (Rd.loadA 1 4 rfl rfl (by kernel_rfl) rfl trivial) ?_
  refine SWl.ef (S := []) (Ef.call (con_cmpQ hG hH) rfl ⟨Le.refl _, Le.refl _, trivial⟩ rfl) ?_
  rintro _ rfl
  refine SWl.rd rfl (Rd.leq rfl rfl) ?_
  refine SWl.nil ?_
  refine SN.then ?_
  refine SW.cond rfl (fun hb18 => ?_) (fun hb18 => ?_)
  · have hc := of_decide_eq_true hb18
    refine SW.seq ?_
    refine SW.region ?_
    refine SWl.rd rfl (Rd.fieldAddr (n := 0) rfl (by kernel_rfl)) ?_
    refine SWl.rd rfl (Rd.loadA 0 2 rfl rfl (by kernel_rfl) rfl trivial) ?_
    refine SWl.rd rfl (Rd.fieldAddr (n := 2) rfl (by kernel_rfl)) ?_
    refine SWl.rd rfl (Rd.loadA 0 2 rfl rfl (by kernel_rfl) rfl trivial) ?_
    refine SWl.ef (S := []) (Ef.call (con_make hG.hn hG.hd hG.d0) rfl ⟨Le.refl _, Le.refl _, trivial⟩ rfl) ?_
    rintro _ rfl
    refine SWl.rd rfl (Rd.extract rfl rfl) ?_
    refine SWl.rd rfl (Rd.extract rfl rfl) ?_
    refine SWl.ef (S := [_]) (Ef.storeA 2 rfl rfl rfl (by kernel_rfl) rfl (List.mem_singleton.2 rfl)) ?_
    rintro _ rfl
    refine SWl.rd rfl (Rd.assign rfl) ?_
    refine SWl.nil ?_
    refine SN.then ?_
    refine SW.ret (fn := Try.f77) (fun _ _ h => h) (Rs.le (Rs.two rfl (ResV.cellA 2 rfl rfl (by kernel_rfl)) (ResV.tmp rfl)) ?_)
    exact Le.tup ⟨le_rat (by rw [if_pos hc]; exact hG.rn) (by rw [if_pos hc]; exact hG.rd), Le.refl _, trivial⟩
  · have hc := of_decide_eq_false hb18
    refine SW.skip ?_
    refine SN.then ?_
    refine SW.seq ?_
    refine SW.region ?_
    refine SWl.rd rfl (Rd.fieldAddr (n := 0) rfl (by kernel_rfl)) ?_
    refine SWl.rd rfl (Rd.loadA 1 2 rfl rfl (by kernel_rfl) rfl trivial) ?_
    refine SWl.rd rfl (Rd.fieldAddr (n := 2) rfl (by kernel_rfl)) ?_
    refine SWl.rd rfl (Rd.loadA 1 2 rfl rfl (by kernel_rfl) rfl trivial) ?_
    refine SWl.ef (S := []) (Ef.call (con_make hH.hn hH.hd hH.d0) rfl ⟨Le.refl _, Le.refl _, trivial⟩ rfl) ?_
    rintro _ rfl
    refine SWl.rd rfl (Rd.extract rfl rfl) ?_
    refine SWl.rd rfl (Rd.extract rfl rfl) ?_
    refine SWl.ef (S := [_]) (Ef.storeA 2 rfl rfl rfl (by kernel_rfl) rfl (List.mem_singleton.2 rfl)) ?_
    rintro _ rfl
    refine SWl.rd rfl (Rd.assign rfl) ?_
    refine SWl.nil ?_
    refine SN.then ?_
    refine SW.ret (fn := Try.f77) (fun _ _ h => h) (Rs.le (Rs.two rfl (ResV.cellA 2 rfl rfl (by kernel_rfl)) (ResV.tmp rfl)) ?_)
    exact Le.tup ⟨le_rat (by rw [if_neg hc]; exact hH.rn) (by rw [if_neg hc]; exact hH.rd), Le.refl _, trivial⟩
set_option maxHeartbeats 4000000 in
set_option maxRecDepth 100000 in
theorem con_minQB {s t u v : Bool} {b c p q : List Nat} (hB : Byt b c) (hC : Byt p q) (h : (rvld s b t c && rvld u p v q) = false) : Con Try.prog 77 [rratD s b t c, rratD u p v q] (tupD [ratD 0 0, errD 2]) := by
  refine con_of Try.func77 (by kernel_rfl) rfl (by kernel_rfl) fun base w0 => ?_
  refine SW.seq ?_
  refine SW.region ?_
  refine SWl.ef (S := []) (Ef.boxA rfl rfl) ?_
  rintro _ ⟨g2, rfl⟩
  refine SWl.ef (S := []) (Ef.boxA rfl rfl) ?_
  rintro _ ⟨g3, rfl⟩
  refine SWl.ef (S := []) (Ef.alloc (zs := [.bool false, .slice none 0 0, .bool false, .slice none 0 0]) (by kernel_rfl) rfl) ?_
  rintro _ ⟨g4, rfl⟩
  refine SWl.rd rfl (Rd.assign rfl) ?_
  refine SWl.nil ?_
  refine SN.then ?_
  refine SW.seq ?_
  refine SW.seq ?_
  refine SW.region ?_
  refine SWl.rd rfl (Rd.loadA 0 4 rfl rfl (by kernel_rfl) rfl trivial) ?_
  refine SWl.ef (S := []) (Ef.call (con_rvalid hB) rfl ⟨Le.refl _, trivial⟩ rfl) ?_
  rintro _ rfl
  refine SWl.rd rfl (Rd.not rfl) ?_
  refine SWl.rd rfl (Rd.move rfl) ?_
  refine SWl.split 9 rfl (fun hb9 => ?_) (fun hb9 => ?_)
  · skip
    refine SWl.off rfl rfl (hb9) rfl rfl ?_
    refine SWl.off rfl rfl (hb9) rfl rfl ?_
    refine SWl.off rfl rfl (hb9) rfl rfl ?_
    refine SWl.rd rfl (Rd.pickY rfl (hb9) rfl) ?_
    refine SWl.nil ?_
    refine SN.then ?_
    refine SW.condT rfl (rfl) ?_
    refine SW.seq ?_
    refine SW.region ?_
    refine SWl.rd rfl (Rd.build rfl rfl bldR0) ?_
    refine SWl.ef (S := [_]) (Ef.storeA 2 rfl rfl rfl (by kernel_rfl) rfl (List.mem_singleton.2 rfl)) ?_
    rintro _ rfl
    refine SWl.rd rfl (Rd.assign rfl) ?_
    refine SWl.nil ?_
    refine SN.then ?_
    refine SW.ret (fn := Try.f77) (fun _ _ h => h) (Rs.le (Rs.two rfl (ResV.cellA 2 rfl rfl (by kernel_rfl)) (ResV.tmp rfl)) ?_)
    exact Le.tup ⟨le_rat0, Le.refl _, trivial⟩
  · skip
    refine SWl.rdg rfl rfl (hb9) rfl rfl (Rd.loadA 1 4 rfl rfl (by kernel_rfl) rfl trivial) ?_
    refine SWl.efg (S := []) rfl rfl (hb9) rfl (Ef.call (con_rvalid hC) rfl ⟨Le.refl _, trivial⟩ rfl) ?_
    rintro _ rfl
    refine SWl.rdg rfl rfl (hb9) rfl rfl (Rd.not rfl) ?_
    refine SWl.rd rfl (Rd.pickN rfl (hb9) rfl) ?_
    refine SWl.nil ?_
    refine SN.then ?_
    refine SW.cond rfl (fun hb13 => ?_) (fun hb13 => ?_)
    · skip
      refine SW.seq ?_
      refine SW.region ?_
      refine SWl.rd rfl (Rd.build rfl rfl bldR0) ?_
      refine SWl.ef (S := [_]) (Ef.storeA 2 rfl rfl rfl (by kernel_rfl) rfl (List.mem_singleton.2 rfl)) ?_
      rintro _ rfl
      refine SWl.rd rfl (Rd.assign rfl) ?_
      refine SWl.nil ?_
      refine SN.then ?_
      refine SW.ret (fn := Try.f77) (fun _ _ h => h) (Rs.le (Rs.two rfl (ResV.cellA 2 rfl rfl (by kernel_rfl)) (ResV.tmp rfl)) ?_)
      exact Le.tup ⟨le_rat0, Le.refl _, trivial⟩
    · exact absurd h (by simp_all)
set_option maxHeartbeats 4000000 in
set_option maxRecDepth 100000 in
theorem con_maxQ {a b c e : Int} (hG : Good a b) (hH : Good c e) : Con Try.prog 78 [ratD a b, ratD c e] (tupD [ratD (if 0 ≤ cmpQ a b c e then a else c) (if 0 ≤ cmpQ a b c e then b else e), errD 0]) := by
  refine con_of Try.func78 (by kernel_rfl) rfl (by kernel_rfl) fun base w0 => ?_
  refine SW.seq ?_
  refine SW.region ?_
  refine SWl.ef (S := []) (Ef.boxA rfl rfl) ?_
  rintro _ ⟨g2, rfl⟩
  refine SWl.ef (S := []) (Ef.boxA rfl rfl) ?_
  rintro _ ⟨g3, rfl⟩
  refine SWl.ef (S := []) (Ef.alloc (zs := [.bool false, .slice none 0 0, .bool false, .slice none 0 0]) (by kernel_rfl) rfl) ?_
  rintro _ ⟨g4, rfl⟩
  refine SWl.rd rfl (Rd.assign rfl) ?_
  refine SWl.nil ?_
  refine SN.then ?_
  refine SW.seq ?_
  refine SW.seq ?_
  refine SW.region ?_
  refine SWl.rd rfl (Rd.loadA 0 4 rfl rfl (by kernel_rfl) rfl trivial) ?_
  refine SWl.ef (S := []) (Ef.call (con_rvalT (by assumption)) rfl ⟨Le.refl _, trivial⟩ rfl) ?_
  rintro _ rfl
  refine SWl.rd rfl (Rd.not rfl) ?_
  refine SWl.rd rfl (Rd.move rfl) ?_
  refine SWl.rdg rfl rfl (rfl) rfl rfl (Rd.loadA 1 4 rfl rfl (by kernel_rfl) rfl trivial) ?_
  refine SWl.efg (S := []) rfl rfl (rfl) rfl (Ef.call (con_rvalT (by assumption)) rfl ⟨Le.refl _, trivial⟩ rfl) ?_
  rintro _ rfl
  refine SWl.rdg rfl rfl (rfl) rfl rfl (Rd.not rfl) ?_
  refine SWl.rd rfl (Rd.pickN rfl (rfl) rfl) ?_
  refine SWl.nil ?_
  refine SN.then ?_
  refine SW.condF rfl (rfl) ?_
  refine SW.skip ?_
  refine SN.then ?_
  refine SW.seq ?_
  refine SW.seq ?_
  refine SW.region ?_
  refine SWl.rd rfl (Rd.loadA 0 4 rfl rfl (by kernel_rfl) rfl trivial) ?_
  refine SWl.rd rfl (Rd.loadA 1 4 rfl rfl (by kernel_rfl) rfl trivial) ?_
  refine SWl.ef (S := []) (Ef.call (con_cmpQ hG hH) rfl ⟨Le.refl _, Le.refl _, trivial⟩ rfl) ?_
  rintro _ rfl
  refine SWl.rd rfl (Rd.geq rfl rfl) ?_
  refine SWl.nil ?_
  refine SN.then ?_
  refine SW.cond rfl (fun hb18 => ?_) (fun hb18 => ?_)
  · have hc := of_decide_eq_true hb18
    refine SW.seq ?_
    refine SW.region ?_
    refine SWl.rd rfl (Rd.fieldAddr (n := 0) rfl (by kernel_rfl)) ?_
    refine SWl.rd rfl (Rd.loadA 0 2 rfl rfl (by kernel_rfl) rfl trivial) ?_
    refine SWl.rd rfl (Rd.fieldAddr (n := 2) rfl (by kernel_rfl)) ?_
    refine SWl.rd rfl (Rd.loadA 0 2 rfl rfl (by kernel_rfl) rfl trivial) ?_
    refine SWl.ef (S := []) (Ef.call (con_make hG.hn hG.hd hG.d0) rfl ⟨Le.refl _, Le.refl _, trivial⟩ rfl) ?_
    rintro _ rfl
    refine SWl.rd rfl (Rd.extract rfl rfl) ?_
    refine SWl.rd rfl (Rd.extract rfl rfl) ?_
    refine SWl.ef (S := [_]) (Ef.storeA 2 rfl rfl rfl (by kernel_rfl) rfl (List.mem_singleton.2 rfl)) ?_
    rintro _ rfl
    refine SWl.rd rfl (Rd.assign rfl) ?_
    refine SWl.nil ?_
    refine SN.then ?_
    refine SW.ret (fn := Try.f78) (fun _ _ h => h) (Rs.le (Rs.two rfl (ResV.cellA 2 rfl rfl (by kernel_rfl)) (ResV.tmp rfl)) ?_)
    exact Le.tup ⟨le_rat (by rw [if_pos hc]; exact hG.rn) (by rw [if_pos hc]; exact hG.rd), Le.refl _, trivial⟩
  · have hc := of_decide_eq_false hb18
    refine SW.skip ?_
    refine SN.then ?_
    refine SW.seq ?_
    refine SW.region ?_
    refine SWl.rd rfl (Rd.fieldAddr (n := 0) rfl (by kernel_rfl)) ?_
    refine SWl.rd rfl (Rd.loadA 1 2 rfl rfl (by kernel_rfl) rfl trivial) ?_
    refine SWl.rd rfl (Rd.fieldAddr (n := 2) rfl (by kernel_rfl)) ?_
    refine SWl.rd rfl (Rd.loadA 1 2 rfl rfl (by kernel_rfl) rfl trivial) ?_
    refine SWl.ef (S := []) (Ef.call (con_make hH.hn hH.hd hH.d0) rfl ⟨Le.refl _, Le.refl _, trivial⟩ rfl) ?_
    rintro _ rfl
    refine SWl.rd rfl (Rd.extract rfl rfl) ?_
    refine SWl.rd rfl (Rd.extract rfl rfl) ?_
    refine SWl.ef (S := [_]) (Ef.storeA 2 rfl rfl rfl (by kernel_rfl) rfl (List.mem_singleton.2 rfl)) ?_
    rintro _ rfl
    refine SWl.rd rfl (Rd.assign rfl) ?_
    refine SWl.nil ?_
    refine SN.then ?_
    refine SW.ret (fn := Try.f78) (fun _ _ h => h) (Rs.le (Rs.two rfl (ResV.cellA 2 rfl rfl (by kernel_rfl)) (ResV.tmp rfl)) ?_)
    exact Le.tup ⟨le_rat (by rw [if_neg hc]; exact hH.rn) (by rw [if_neg hc]; exact hH.rd), Le.refl _, trivial⟩
set_option maxHeartbeats 4000000 in
set_option maxRecDepth 100000 in
theorem con_maxQB {s t u v : Bool} {b c p q : List Nat} (hB : Byt b c) (hC : Byt p q) (h : (rvld s b t c && rvld u p v q) = false) : Con Try.prog 78 [rratD s b t c, rratD u p v q] (tupD [ratD 0 0, errD 2]) := by
  refine con_of Try.func78 (by kernel_rfl) rfl (by kernel_rfl) fun base w0 => ?_
  refine SW.seq ?_
  refine SW.region ?_
  refine SWl.ef (S := []) (Ef.boxA rfl rfl) ?_
  rintro _ ⟨g2, rfl⟩
  refine SWl.ef (S := []) (Ef.boxA rfl rfl) ?_
  rintro _ ⟨g3, rfl⟩
  refine SWl.ef (S := []) (Ef.alloc (zs := [.bool false, .slice none 0 0, .bool false, .slice none 0 0]) (by kernel_rfl) rfl) ?_
  rintro _ ⟨g4, rfl⟩
  refine SWl.rd rfl (Rd.assign rfl) ?_
  refine SWl.nil ?_
  refine SN.then ?_
  refine SW.seq ?_
  refine SW.seq ?_
  refine SW.region ?_
  refine SWl.rd rfl (Rd.loadA 0 4 rfl rfl (by kernel_rfl) rfl trivial) ?_
  refine SWl.ef (S := []) (Ef.call (con_rvalid hB) rfl ⟨Le.refl _, trivial⟩ rfl) ?_
  rintro _ rfl
  refine SWl.rd rfl (Rd.not rfl) ?_
  refine SWl.rd rfl (Rd.move rfl) ?_
  refine SWl.split 9 rfl (fun hb9 => ?_) (fun hb9 => ?_)
  · skip
    refine SWl.off rfl rfl (hb9) rfl rfl ?_
    refine SWl.off rfl rfl (hb9) rfl rfl ?_
    refine SWl.off rfl rfl (hb9) rfl rfl ?_
    refine SWl.rd rfl (Rd.pickY rfl (hb9) rfl) ?_
    refine SWl.nil ?_
    refine SN.then ?_
    refine SW.condT rfl (rfl) ?_
    refine SW.seq ?_
    refine SW.region ?_
    refine SWl.rd rfl (Rd.build rfl rfl bldR0) ?_
    refine SWl.ef (S := [_]) (Ef.storeA 2 rfl rfl rfl (by kernel_rfl) rfl (List.mem_singleton.2 rfl)) ?_
    rintro _ rfl
    refine SWl.rd rfl (Rd.assign rfl) ?_
    refine SWl.nil ?_
    refine SN.then ?_
    refine SW.ret (fn := Try.f78) (fun _ _ h => h) (Rs.le (Rs.two rfl (ResV.cellA 2 rfl rfl (by kernel_rfl)) (ResV.tmp rfl)) ?_)
    exact Le.tup ⟨le_rat0, Le.refl _, trivial⟩
  · skip
    refine SWl.rdg rfl rfl (hb9) rfl rfl (Rd.loadA 1 4 rfl rfl (by kernel_rfl) rfl trivial) ?_
    refine SWl.efg (S := []) rfl rfl (hb9) rfl (Ef.call (con_rvalid hC) rfl ⟨Le.refl _, trivial⟩ rfl) ?_
    rintro _ rfl
    refine SWl.rdg rfl rfl (hb9) rfl rfl (Rd.not rfl) ?_
    refine SWl.rd rfl (Rd.pickN rfl (hb9) rfl) ?_
    refine SWl.nil ?_
    refine SN.then ?_
    refine SW.cond rfl (fun hb13 => ?_) (fun hb13 => ?_)
    · skip
      refine SW.seq ?_
      refine SW.region ?_
      refine SWl.rd rfl (Rd.build rfl rfl bldR0) ?_
      refine SWl.ef (S := [_]) (Ef.storeA 2 rfl rfl rfl (by kernel_rfl) rfl (List.mem_singleton.2 rfl)) ?_
      rintro _ rfl
      refine SWl.rd rfl (Rd.assign rfl) ?_
      refine SWl.nil ?_
      refine SN.then ?_
      refine SW.ret (fn := Try.f78) (fun _ _ h => h) (Rs.le (Rs.two rfl (ResV.cellA 2 rfl rfl (by kernel_rfl)) (ResV.tmp rfl)) ?_)
      exact Le.tup ⟨le_rat0, Le.refl _, trivial⟩
    · exact absurd h (by simp_all)
/-- The lowest terms are unique. -/
theorem cop_le {a b c e : Int} (hg : Nat.gcd a.natAbs b.natAbs = 1) (he : 0 < e) (h : a * e = c * b) : b.natAbs ≤ e.natAbs := by
  refine Nat.le_of_dvd (by omega) ?_
  have h1 : b.natAbs ∣ a.natAbs * e.natAbs := ⟨c.natAbs, by rw [← Int.natAbs_mul, h, Int.natAbs_mul, Nat.mul_comm]⟩
  exact Nat.Coprime.dvd_of_dvd_mul_left (by rw [Nat.Coprime, Nat.gcd_comm]; exact hg) h1
theorem Good.uniq {a b c e : Int} (hG : Good a b) (hH : Good c e) (h : a * e = c * b) : a = c ∧ b = e := by
  have h1 := cop_le hG.g hH.pos h
  have h2 := cop_le hH.g hG.pos h.symm
  have p1 := hG.pos
  have p2 := hH.pos
  have hbe : b = e := by omega
  subst hbe
  exact ⟨Int.eq_of_mul_eq_mul_right (by omega) h, rfl⟩
theorem dq_exact {x y : Int} (hy : y ≠ 0) (h : x.natAbs % y.natAbs = 0) : dq x y * y = x := by
  have h1 := dq_dr x hy
  rw [dr_dvd h] at h1
  omega
theorem red_good {n d : Int} (hn : n.natAbs < big512) (hd : d.natAbs < big512) (h0 : d ≠ 0) : Good (rn n d) (rd n d) ∧ rn n d * d = n * rd n d := by
  have hz := gz_ne n h0
  have e1 : rn n d * gz n d = n := dq_exact hz (by rw [gz_abs]; exact Nat.mod_eq_zero_of_dvd (Nat.gcd_dvd_left _ _))
  have e2 : rd n d * gz n d = d := dq_exact hz (by rw [gz_abs]; exact Nat.mod_eq_zero_of_dvd (Nat.gcd_dvd_right _ _))
  have hG : 0 < Nat.gcd n.natAbs d.natAbs := Nat.gcd_pos_of_pos_right _ (by omega)
  refine ⟨⟨Nat.lt_of_le_of_lt (rn_abs h0) hn, Nat.lt_of_le_of_lt (rd_abs h0) hd, ?_, ?_⟩, ?_⟩
  · have hgpos : (0 < d → 0 < gz n d) ∧ (d < 0 → gz n d < 0) := by
      unfold gz gcdZ
      constructor
      · intro h; rw [if_neg (by omega)]; omega
      · intro h; rw [if_pos h]; omega
    rcases Int.lt_or_gt_of_ne h0 with h | h
    · have hg := hgpos.2 h
      rcases Int.lt_or_le 0 (rd n d) with hr | hr
      · exact hr
      · have := Int.mul_nonneg_of_nonpos_of_nonpos hr (Int.le_of_lt hg)
        omega
    · have hg := hgpos.1 h
      rcases Int.lt_or_le 0 (rd n d) with hr | hr
      · exact hr
      · have := Int.mul_le_mul_of_nonneg_right hr (Int.le_of_lt hg)
        omega
  · have h1 : n.natAbs = (rn n d).natAbs * Nat.gcd n.natAbs d.natAbs := by rw [← gz_abs, ← Int.natAbs_mul, e1]
    have h2 : d.natAbs = (rd n d).natAbs * Nat.gcd n.natAbs d.natAbs := by rw [← gz_abs, ← Int.natAbs_mul, e2]
    have h3 : Nat.gcd n.natAbs d.natAbs = Nat.gcd ((rn n d).natAbs * Nat.gcd n.natAbs d.natAbs) ((rd n d).natAbs * Nat.gcd n.natAbs d.natAbs) := by rw [← h1, ← h2]
    rw [Nat.gcd_mul_right] at h3
    have h4 : 1 * Nat.gcd n.natAbs d.natAbs = Nat.gcd (rn n d).natAbs (rd n d).natAbs * Nat.gcd n.natAbs d.natAbs := by rw [Nat.one_mul]; exact h3
    exact (Nat.eq_of_mul_eq_mul_right hG h4).symm
  · have : rn n d * d = rn n d * (rd n d * gz n d) := by rw [e2]
    rw [this, ← Int.mul_assoc, Int.mul_right_comm, e1]
end Sx
end Go.Proofs.Ytddfphneidcibaa
namespace Go.Proofs.Ytddfphneidcibaa
open Go.RowKit
open Nm (W32)
namespace Sx
theorem Rd.ext {P : Program} {Γ : Cx} {σ : St} {S : List Nat} {dst : Option Tmp} {ty : TypeId} {pos : String} {af : Array Edge} {gd : Option (Nat × Bool)} {f : FuncId} {args : Array Operand} {aT : Array TypeId} {r : Value} (vs : List Value) (he : σ.evs args.toList = some (vs.map isD)) (hrun : ∀ w, (callFunc f vs.toArray).run P w = .ok (.value r) w) :
    Rd P Γ S ⟨dst, .call { callee := .value (.func f), args := args, argTypes := aT }, ty, pos, af, gd⟩ σ (isD r) := by
  intro a w hh
  have hall := evs_spec hh he
  have key : ∀ {zs cs : List Value}, All (σ.L Γ) w (zs.map isD) cs → cs = zs := by
    intro zs
    induction zs with
    | nil => intro cs h; cases cs with | nil => rfl | cons => exact h.elim
    | cons z zs ih => intro cs h; cases cs with | nil => exact h.elim | cons c cs => rw [ih h.2, show c = z from h.1]
  have e : args.map a.eval = vs.toArray := by
    apply Array.ext'
    simpa using key hall
  refine ⟨r, rfl, fun w' _ => ?_⟩
  simp only [execOp, resolve, Deferred.ofValue, Act.eval, e, Sem.run_bind, Sem.run_pure, Result.andThen_ok, invoke, Array.append_empty, Array.empty_append]
  exact hrun w'
theorem ext_ib (b : List UInt8) (c : Int) (w : World) : (callFunc 126 [Value.string ⟨b.toArray⟩, .int .u8 c].toArray).run Try.prog w = .ok (.value (.int .i64 (Lib.indexByte b c.toNat.toUInt8))) w := by
  rw [run_callFunc_extern Try.func126 (by kernel_rfl) (by kernel_rfl) (by kernel_rfl) (e := Extern.BytealgIndexByte.indexByte) (by kernel_rfl), Lib.run_indexByteString]
  rfl
theorem le_str {a b : List UInt8} (h : a = b) : Le (strD a) (strD b) := by subst h; exact Le.refl _
theorem ib_no : ∀ (b : List UInt8), 47 ∉ b → Lib.indexByte b 47 = -1
  | [], _ => rfl
  | c :: b, h => by
    have h1 : ¬ c = 47 := fun e => h (by rw [e]; simp)
    have h2 := ib_no b (fun e => h (List.mem_cons_of_mem _ e))
    simp [Lib.indexByte, h1, h2]
theorem ib_yes : ∀ (t u : List UInt8), 47 ∉ t → Lib.indexByte (t ++ 47 :: u) 47 = t.length
  | [], u, _ => by simp [Lib.indexByte]
  | c :: t, u, h => by
    have h1 : ¬ c = 47 := fun e => h (by rw [e]; simp)
    have h2 := ib_yes t u (fun e => h (List.mem_cons_of_mem _ e))
    have h3 : ¬ (t.length : Int) = -1 := by omega
    simp [Lib.indexByte, h1, h2, h3]
set_option maxHeartbeats 4000000 in
set_option maxRecDepth 100000 in
theorem con_idxByte {b : List UInt8} {c : Int} : Con Try.prog 122 [strD b, isD (.int .u8 c)] (errD (Lib.indexByte b c.toNat.toUInt8)) := by
  refine con_of Try.func122 (by kernel_rfl) rfl (by kernel_rfl) fun base w0 => ?_
  refine SW.seq ?_
  refine SW.region ?_
  refine SWl.rd rfl (Rd.assign rfl) ?_
  refine SWl.nil ?_
  refine SN.then ?_
  refine SW.seq ?_
  refine SW.region ?_
  refine SWl.rd rfl (Rd.move rfl) ?_
  refine SWl.rd rfl (Rd.move rfl) ?_
  refine SWl.rd rfl (Rd.ext [.string ⟨b.toArray⟩, .int .u8 c] rfl (ext_ib b c)) ?_
  refine SWl.rd rfl (Rd.assign rfl) ?_
  refine SWl.nil ?_
  refine SN.then ?_
  refine SW.ret (fn := Try.f122) (fun _ _ h => h) (Rs.one rfl (ResV.tmp rfl))
set_option maxHeartbeats 4000000 in
set_option maxRecDepth 100000 in
theorem con_idx47 {b : List UInt8} : Con Try.prog 121 [strD b, strD [47]] (errD (Lib.indexByte b 47)) := by
  refine con_of Try.func121 (by kernel_rfl) rfl (by kernel_rfl) fun base w0 => ?_
  refine SW.seq ?_
  refine SW.region ?_
  refine SWl.rd rfl (Rd.assign rfl) ?_
  refine SWl.nil ?_
  refine SN.then ?_
  refine SW.seq ?_
  refine SW.region ?_
  refine SWl.rd rfl (Rd.move rfl) ?_
  refine SWl.rd rfl (Rd.lenb rfl (by kernel_rfl)) ?_
  refine SWl.rd rfl (Rd.assign rfl) ?_
  refine SWl.nil ?_
  refine SN.then ?_
  refine SW.seq ?_
  refine SW.block ?_
  refine SW.seq ?_
  refine SW.region ?_
  refine SWl.rd rfl (Rd.move rfl) ?_
  refine SWl.rd rfl (Rd.eqi rfl rfl) ?_
  refine SWl.rd rfl (Rd.move rfl) ?_
  refine SWl.rdg rfl rfl (by decide) rfl rfl (Rd.move rfl) ?_
  refine SWl.rdg rfl rfl (by decide) rfl rfl (Rd.move rfl) ?_
  refine SWl.rdg rfl rfl (by decide) rfl rfl (Rd.eqs (p := [47]) (q := b) rfl rfl) ?_
  refine SWl.rd rfl (Rd.pickN rfl (by decide) rfl) ?_
  refine SWl.rd rfl (Rd.assign rfl) ?_
  refine SWl.nil ?_
  refine SN.then ?_
  refine SW.cond rfl (fun hb16 => ?_) (fun hb16 => ?_)
  · have h1 : b = [47] := (of_decide_eq_true hb16).symm
    refine SW.seq ?_
    refine SW.region ?_
    refine SWl.rd rfl (Rd.assign rfl) ?_
    refine SWl.nil ?_
    refine SN.then ?_
    refine SW.ret (fn := Try.f121) (fun _ _ h => h) (Rs.le (Rs.one rfl (ResV.tmp rfl)) ?_)
    exact le_err (by rw [h1]; decide)
  · skip
    refine SW.seq ?_
    refine SW.region ?_
    refine SWl.rd rfl (Rd.move rfl) ?_
    refine SWl.rd rfl (Rd.eqi rfl rfl) ?_
    refine SWl.rd rfl (Rd.assign rfl) ?_
    refine SWl.nil ?_
    refine SN.then ?_
    refine SW.condT rfl (by decide) ?_
    refine SW.seq ?_
    refine SW.region ?_
    refine SWl.rd rfl (Rd.move rfl) ?_
    refine SWl.rd rfl (Rd.move rfl) ?_
    refine SWl.rd rfl (Rd.sidx rfl rfl (by kernel_rfl) (by decide) rfl) ?_
    refine SWl.ef (S := []) (Ef.call (con_idxByte) rfl ⟨Le.refl _, Le.refl _, trivial⟩ rfl) ?_
    rintro _ rfl
    refine SWl.rd rfl (Rd.assign rfl) ?_
    refine SWl.nil ?_
    refine SN.then ?_
    refine SW.ret (fn := Try.f121) (fun _ _ h => h) (Rs.le (Rs.one rfl (ResV.tmp rfl)) ?_)
    exact Le.refl _
set_option maxHeartbeats 4000000 in
set_option maxRecDepth 100000 in
theorem con_cutY1 {t u : List UInt8} (h : 47 ∉ t) (hl : t.length ≤ 100000) : Con Try.prog 118 [strD (t ++ 47 :: u), strD [47]] (tupD [strD t, strD u, boolD true]) := by
  refine con_of Try.func118 (by kernel_rfl) rfl (by kernel_rfl) fun base w0 => ?_
  refine SW.seq ?_
  refine SW.region ?_
  refine SWl.rd rfl (Rd.assign rfl) ?_
  refine SWl.rd rfl (Rd.assign rfl) ?_
  refine SWl.rd rfl (Rd.assign rfl) ?_
  refine SWl.nil ?_
  refine SN.then ?_
  refine SW.seq ?_
  refine SW.seq ?_
  refine SW.region ?_
  refine SWl.rd rfl (Rd.move rfl) ?_
  refine SWl.rd rfl (Rd.move rfl) ?_
  refine SWl.ef (S := []) (Ef.call (con_idx47) rfl ⟨Le.refl _, Le.refl _, trivial⟩ rfl) ?_
  rintro _ rfl
  refine SWl.rd rfl (Rd.le (Rd.assign rfl) (le_err (b := (t.length : Int)) (ib_yes t u h))) ?_
  refine SWl.nil ?_
  refine SN.then ?_
  refine SW.seq ?_
  refine SW.region ?_
  refine SWl.rd rfl (Rd.move rfl) ?_
  refine SWl.rd rfl (Rd.geq rfl rfl) ?_
  refine SWl.nil ?_
  refine SN.then ?_
  refine SW.condT rfl (decide_eq_true (by omega)) ?_
  refine SW.seq ?_
  refine SW.draw [] (.r 0 (.r 1 (.r 2 (.r 3 (.r 4 (.r 5 (.r 6 (.r 7 (.r 8 (.r 9 (.r 10 (.r 11 .fin)))))))))))) (by kernel_rfl) (by kernel_rfl) (fun d _ _ _ _ h => by cases d <;> exact h) ?_
  refine SWz.rd (i := 0) rfl rfl (Rd.move rfl) ?_
  refine SWz.rd (i := 1) rfl rfl (Rd.move rfl) ?_
  refine SWz.rd (i := 2) rfl rfl (Rd.le (Rd.sshi rfl rfl (by kernel_rfl) (by omega) (by simp; omega)) (le_str (b := t) (by simp))) ?_
  refine SWz.rd (i := 3) rfl rfl (Rd.move rfl) ?_
  refine SWz.rd (i := 4) rfl rfl (Rd.move rfl) ?_
  refine SWz.rd (i := 5) rfl rfl (Rd.move rfl) ?_
  refine SWz.rd (i := 6) rfl rfl (Rd.lenb rfl (by kernel_rfl)) ?_
  refine SWz.rd (i := 7) rfl rfl (Rd.le (Rd.add rfl rfl ⟨by simp; omega, by simp; omega⟩) (le_err (b := ((t.length + 1 : Nat) : Int)) (by show (t.length : Int) + (([47] : List UInt8).length : Int) = _; simp))) ?_
  refine SWz.rd (i := 8) rfl rfl (Rd.le (Rd.sslo rfl rfl (by kernel_rfl) (by omega) (by simp; omega)) (le_str (b := u) (by rw [Int.toNat_natCast, show t ++ 47 :: u = (t ++ [47]) ++ u by simp, List.drop_append_of_le_length (by simp)]; simp))) ?_
  refine SWz.rd (i := 9) rfl rfl (Rd.assign rfl) ?_
  refine SWz.rd (i := 10) rfl rfl (Rd.assign rfl) ?_
  refine SWz.rd (i := 11) rfl rfl (Rd.assign rfl) ?_
  refine SWz.nil ?_
  refine SN.then ?_
  refine SW.ret (fn := Try.f118) (fun _ _ h => h) (Rs.three rfl (ResV.tmp rfl) (ResV.tmp rfl) (ResV.tmp rfl))
set_option maxHeartbeats 4000000 in
set_option maxRecDepth 100000 in
theorem con_cutN1 {b : List UInt8} (h : 47 ∉ b) : Con Try.prog 118 [strD b, strD [47]] (tupD [strD b, strD [], boolD false]) := by
  refine con_of Try.func118 (by kernel_rfl) rfl (by kernel_rfl) fun base w0 => ?_
  refine SW.seq ?_
  refine SW.region ?_
  refine SWl.rd rfl (Rd.assign rfl) ?_
  refine SWl.rd rfl (Rd.assign rfl) ?_
  refine SWl.rd rfl (Rd.assign rfl) ?_
  refine SWl.nil ?_
  refine SN.then ?_
  refine SW.seq ?_
  refine SW.seq ?_
  refine SW.region ?_
  refine SWl.rd rfl (Rd.move rfl) ?_
  refine SWl.rd rfl (Rd.move rfl) ?_
  refine SWl.ef (S := []) (Ef.call (con_idx47) rfl ⟨Le.refl _, Le.refl _, trivial⟩ rfl) ?_
  rintro _ rfl
  refine SWl.rd rfl (Rd.le (Rd.assign rfl) (le_err (b := -1) (ib_no b h))) ?_
  refine SWl.nil ?_
  refine SN.then ?_
  refine SW.seq ?_
  refine SW.region ?_
  refine SWl.rd rfl (Rd.move rfl) ?_
  refine SWl.rd rfl (Rd.geq rfl rfl) ?_
  refine SWl.nil ?_
  refine SN.then ?_
  refine SW.condF rfl (by decide) ?_
  refine SW.skip ?_
  refine SN.then ?_
  refine SW.seq ?_
  refine SW.region ?_
  refine SWl.rd rfl (Rd.move rfl) ?_
  refine SWl.rd rfl (Rd.assign rfl) ?_
  refine SWl.rd rfl (Rd.assign rfl) ?_
  refine SWl.rd rfl (Rd.assign rfl) ?_
  refine SWl.nil ?_
  refine SN.then ?_
  refine SW.ret (fn := Try.f118) (fun _ _ h => h) (Rs.three rfl (ResV.tmp rfl) (ResV.tmp rfl) (ResV.tmp rfl))
set_option maxHeartbeats 4000000 in
set_option maxRecDepth 100000 in
theorem con_cutY {t u : List UInt8} (h : 47 ∉ t) (hl : t.length ≤ 100000) : Con Try.prog 104 [strD (t ++ 47 :: u), strD [47]] (tupD [strD t, strD u, boolD true]) := by
  refine con_of Try.func104 (by kernel_rfl) rfl (by kernel_rfl) fun base w0 => ?_
  refine SW.seq ?_
  refine SW.region ?_
  refine SWl.rd rfl (Rd.assign rfl) ?_
  refine SWl.rd rfl (Rd.assign rfl) ?_
  refine SWl.rd rfl (Rd.assign rfl) ?_
  refine SWl.nil ?_
  refine SN.then ?_
  refine SW.seq ?_
  refine SW.region ?_
  refine SWl.rd rfl (Rd.move rfl) ?_
  refine SWl.rd rfl (Rd.move rfl) ?_
  refine SWl.ef (S := []) (Ef.call (con_cutY1 h hl) rfl ⟨Le.refl _, Le.refl _, trivial⟩ rfl) ?_
  rintro _ rfl
  refine SWl.rd rfl (Rd.extract rfl rfl) ?_
  refine SWl.rd rfl (Rd.extract rfl rfl) ?_
  refine SWl.rd rfl (Rd.extract rfl rfl) ?_
  refine SWl.rd rfl (Rd.assign rfl) ?_
  refine SWl.rd rfl (Rd.assign rfl) ?_
  refine SWl.rd rfl (Rd.assign rfl) ?_
  refine SWl.nil ?_
  refine SN.then ?_
  refine SW.ret (fn := Try.f104) (fun _ _ h => h) (Rs.three rfl (ResV.tmp rfl) (ResV.tmp rfl) (ResV.tmp rfl))
set_option maxHeartbeats 4000000 in
set_option maxRecDepth 100000 in
theorem con_cutN {b : List UInt8} (h : 47 ∉ b) : Con Try.prog 104 [strD b, strD [47]] (tupD [strD b, strD [], boolD false]) := by
  refine con_of Try.func104 (by kernel_rfl) rfl (by kernel_rfl) fun base w0 => ?_
  refine SW.seq ?_
  refine SW.region ?_
  refine SWl.rd rfl (Rd.assign rfl) ?_
  refine SWl.rd rfl (Rd.assign rfl) ?_
  refine SWl.rd rfl (Rd.assign rfl) ?_
  refine SWl.nil ?_
  refine SN.then ?_
  refine SW.seq ?_
  refine SW.region ?_
  refine SWl.rd rfl (Rd.move rfl) ?_
  refine SWl.rd rfl (Rd.move rfl) ?_
  refine SWl.ef (S := []) (Ef.call (con_cutN1 h) rfl ⟨Le.refl _, Le.refl _, trivial⟩ rfl) ?_
  rintro _ rfl
  refine SWl.rd rfl (Rd.extract rfl rfl) ?_
  refine SWl.rd rfl (Rd.extract rfl rfl) ?_
  refine SWl.rd rfl (Rd.extract rfl rfl) ?_
  refine SWl.rd rfl (Rd.assign rfl) ?_
  refine SWl.rd rfl (Rd.assign rfl) ?_
  refine SWl.rd rfl (Rd.assign rfl) ?_
  refine SWl.nil ?_
  refine SN.then ?_
  refine SW.ret (fn := Try.f104) (fun _ _ h => h) (Rs.three rfl (ResV.tmp rfl) (ResV.tmp rfl) (ResV.tmp rfl))
theorem con_hasMinus (u : List UInt8) : Con Try.prog 105 [strD u, strD [45]] (boolD (decide (u.head? = some 45))) := by
  refine ⟨enters_of Try.func105 (by kernel_rfl) rfl, fun L w vs hL ha => ?_⟩
  obtain ⟨x, y, rfl, rfl, rfl⟩ := all2 ha
  refine (strings_HasPrefix ⟨u.toArray⟩ ⟨#[45]⟩ w).mono ?_
  rintro r w' ⟨rfl, rfl⟩
  refine ⟨_, rfl, ?_, Only.refl _ _⟩
  show Value.bool _ = .bool _
  congr 1
  cases u with
  | nil => rfl
  | cons c u =>
    by_cases h : c = 45
    · subst h; simp [Lib.hasPrefix]
    · have h' : ¬ (45 : UInt8) = c := fun e => h e.symm
      simp [Lib.hasPrefix, List.isPrefixOf, h, h']
/-- What Form says; what Parse gives. -/
def formB : List UInt8 → Bool
  | 45 :: ds => goodB ds true
  | ds => goodB ds false
theorem form_cut {b ds : List UInt8} {neg : Bool} (hc : Cut b ds neg) : formB b = goodB ds neg := by
  rcases hc with ⟨rfl, rfl⟩ | ⟨rfl, rfl, h⟩
  · rfl
  · unfold formB
    split
    · rename_i t
      exact absurd rfl (h t)
    · rfl
def pZ (b : List UInt8) : Int := if formB b = true then limZ (readZ b) else 0
def pE (b : List UInt8) : Int := if formB b = true then limE (readZ b) else 6
theorem con_formA {b : List UInt8} (hb : b.length ≤ 400) : Con Try.prog 32 [strD b] (boolD (formB b)) := by
  obtain ⟨ds, neg, hc⟩ := cut_of b
  rw [form_cut hc]
  exact con_formR hc (by omega)
theorem form_read {b : List UInt8} (h : formB b = true) : (∀ c ∈ b, c = 45 ∨ (48 ≤ c.toNat ∧ c.toNat ≤ 57)) ∧ b ≠ [] := by
  obtain ⟨ds, neg, hc⟩ := cut_of b
  rw [form_cut hc] at h
  obtain ⟨hd, hn⟩ := goodB_out h
  have := cut_form hc hd hn
  exact ⟨this.1, this.2.2⟩
theorem con_readA {b : List UInt8} (hb : b.length ≤ 400) (h : formB b = true) : Con Try.prog 34 [strD b] (intD (readZ b)) := con_readR hb (form_read h).1 (form_read h).2
theorem read_b2 {b : List UInt8} (hb : b.length ≤ 400) (h : formB b = true) : (readZ b).natAbs < b2 := by
  unfold readZ
  rw [sgn_abs]
  have := rdV_b2 hb (form_read h).1 b.length
  rw [List.take_length] at this
  exact this
theorem con_parseA {b : List UInt8} (hb : b.length ≤ 400) : Con Try.prog 29 [strD b] (tupD [intD (pZ b), errD (pE b)]) := by
  obtain ⟨ds, neg, hc⟩ := cut_of b
  have hf := form_cut hc
  unfold pZ pE
  cases h : goodB ds neg
  · rw [hf, h]
    exact con_parseBad hc (by omega) (goodB_no h)
  · rw [hf, h, if_pos rfl, if_pos rfl]
    obtain ⟨hd, hn⟩ := goodB_out h
    rw [(cut_form hc hd hn).2.1]
    by_cases hl : ds.length ≤ 155
    · exact con_parseGood hc (by omega) hd hn hl
    · obtain ⟨e1, e2⟩ := long_lim (neg := neg) hd (by omega)
      rw [e1, e2]
      exact con_parseLong hc (by omega) hd (by omega)
theorem pE_6 {b : List UInt8} (h : pE b = 6) : formB b = false := by
  cases hf : formB b
  · rfl
  · unfold pE at h
    rw [if_pos hf] at h
    by_cases hz : limE (readZ b) = 0
    · rw [hz] at h; cases h
    · rw [(limE_7 hz).1] at h; cases h
theorem pE_n {b : List UInt8} (h : ¬ pE b = 6) : formB b = true ∧ pE b = limE (readZ b) ∧ pZ b = limZ (readZ b) := by
  have hf : formB b = true := by
    cases hf : formB b
    · exact absurd (by unfold pE; rw [hf]; rfl) h
    · rfl
  exact ⟨hf, if_pos hf, if_pos hf⟩
theorem pE_bad {b : List UInt8} (h : formB b = false) : pE b = 6 := by unfold pE; rw [h]; rfl
theorem pE_good {b : List UInt8} (h : formB b = true) : pE b = limE (readZ b) ∧ pZ b = limZ (readZ b) := ⟨if_pos h, if_pos h⟩
theorem pZ_lt (b : List UInt8) : (pZ b).natAbs < big512 := by
  unfold pZ
  split
  · exact lim_lt _
  · exact Nat.lt_trans (by decide) one512
theorem foldl_ge : ∀ (t : List UInt8) (a : Nat), a ≤ t.foldl (fun a c => a * 10 + (c.toNat - 48)) a
  | [], a => Nat.le_refl a
  | c :: t, a => Nat.le_trans (by omega) (foldl_ge t (a * 10 + (c.toNat - 48)))
theorem decV_ge10 {c e : UInt8} {t : List UInt8} (h : 49 ≤ c.toNat) : 10 ≤ decV (c :: e :: t) := by
  unfold decV
  simp only [List.foldl_cons]
  exact Nat.le_trans (by omega) (foldl_ge t _)
/-- Small denominators. -/
theorem read_small {u : List UInt8} (h : formB u = true) (hm : ¬ u.head? = some 45) (hs : readZ u ≤ 1) : u = [48] ∨ u = [49] := by
  obtain ⟨ds, neg, hc⟩ := cut_of u
  rw [form_cut hc] at h
  obtain ⟨hd, hn⟩ := goodB_out h
  rw [(cut_form hc hd hn).2.1] at hs
  rcases hc with ⟨rfl, rfl⟩ | ⟨rfl, rfl, -⟩
  · simp at hm
  · have hs' : decV u ≤ 1 := by unfold sgn at hs; simp at hs; omega
    have hdig := isDec_dig hd
    cases u with
    | nil => simp [isDec] at hd
    | cons c t =>
      have hc := hdig c (by simp)
      cases t with
      | nil =>
        have h1 : decV [c] = c.toNat - 48 := by simp [decV]
        have h2 : c.toNat = 48 ∨ c.toNat = 49 := by omega
        rcases h2 with h2 | h2
        · left; rw [show c = 48 from UInt8.toNat_inj.1 h2]
        · right; rw [show c = 49 from UInt8.toNat_inj.1 h2]
      | cons e t =>
        exfalso
        have hne : c.toNat ≠ 48 := by
          intro h48
          have := isDec_lead (b := c :: e :: t) (by simpa using h48) (by simp)
          rw [this] at hd
          cases hd
        have h1 := decV_ge10 (c := c) (t := t) (e := e) (by omega)
        omega
theorem cmpZ_le {x : Int} (h : cmpZ x 1 ≤ 0) : x ≤ 1 := by
  unfold cmpZ at h
  split at h
  · omega
  · split at h <;> omega
theorem cmpZ_gt {x : Int} (h : ¬ cmpZ x 1 ≤ 0) : 1 < x := by
  unfold cmpZ at h
  split at h
  · omega
  · split at h <;> omega
theorem read_48 : readZ [48] = 0 := by decide
theorem read_49 : readZ [49] = 1 := by decide
/-- What comes of two parts. -/
def bad6 (t u : List UInt8) : Bool := !formB t || (!formB u || (decide (u.head? = some 45) || (decide (u = [48]) || decide (u = [49]))))
def sOk (t u : List UInt8) : Bool := !bad6 t u && (fits [readZ t, readZ u] && decide (Nat.gcd (readZ t).natAbs (readZ u).natAbs = 1))
def sN (t u : List UInt8) : Int := if sOk t u = true then readZ t else 0
def sD (t u : List UInt8) : Int := if sOk t u = true then readZ u else 0
def sE (t u : List UInt8) : Int := if bad6 t u = true then 6 else if fits [readZ t, readZ u] = true then (if Nat.gcd (readZ t).natAbs (readZ u).natAbs = 1 then 0 else 6) else 7
theorem s_bad {t u : List UInt8} (h : bad6 t u = true) : (0 : Int) = sN t u ∧ (0 : Int) = sD t u ∧ (6 : Int) = sE t u := by
  unfold sN sD sE sOk
  rw [h]
  exact ⟨rfl, rfl, rfl⟩
theorem s_full {t u : List UInt8} (h : bad6 t u = false) (h2 : fits [readZ t, readZ u] = false) : (0 : Int) = sN t u ∧ (0 : Int) = sD t u ∧ (7 : Int) = sE t u := by
  unfold sN sD sE sOk
  rw [h, h2]
  exact ⟨rfl, rfl, rfl⟩
theorem s_gcd {t u : List UInt8} (h : bad6 t u = false) (h2 : fits [readZ t, readZ u] = true) (h3 : ¬ Nat.gcd (readZ t).natAbs (readZ u).natAbs = 1) : (0 : Int) = sN t u ∧ (0 : Int) = sD t u ∧ (6 : Int) = sE t u := by
  unfold sN sD sE sOk
  rw [h, h2, decide_eq_false h3]
  simp [h3]
theorem s_ok {t u : List UInt8} (h : bad6 t u = false) (h2 : fits [readZ t, readZ u] = true) (h3 : Nat.gcd (readZ t).natAbs (readZ u).natAbs = 1) : readZ t = sN t u ∧ readZ u = sD t u ∧ (0 : Int) = sE t u := by
  unfold sN sD sE sOk
  rw [h, h2, decide_eq_true h3]
  simp [h3]
theorem bad_f1 {t u : List UInt8} (h : formB t = false) : bad6 t u = true := by unfold bad6; rw [h]; rfl
theorem bad_f2 {t u : List UInt8} (h : formB u = false) : bad6 t u = true := by unfold bad6; rw [h]; simp
theorem bad_m {t u : List UInt8} (h : u.head? = some 45) : bad6 t u = true := by unfold bad6; rw [decide_eq_true h]; simp
theorem bad_0 {t u : List UInt8} (h : u = [48] ∨ u = [49]) : bad6 t u = true := by
  unfold bad6
  rcases h with h | h <;> simp [h]
theorem bad_no {t u : List UInt8} (h1 : formB t = true) (h2 : formB u = true) (h3 : ¬ u.head? = some 45) (h4 : ¬ u = [48]) (h5 : ¬ u = [49]) : bad6 t u = false := by
  unfold bad6
  rw [h1, h2, decide_eq_false h3, decide_eq_false h4, decide_eq_false h5]
  rfl
/-- What comes of one part. -/
def oN (b : List UInt8) : Int := if pE b = 0 then pZ b else 0
def oD (b : List UInt8) : Int := if pE b = 0 then 1 else 0
theorem o_no {b : List UInt8} (h : ¬ pE b = 0) : (0 : Int) = oN b ∧ (0 : Int) = oD b := by unfold oN oD; rw [if_neg h, if_neg h]; exact ⟨rfl, rfl⟩
theorem o_ok {b : List UInt8} (h : pE b = 0) : pZ b = oN b ∧ (1 : Int) = oD b := by unfold oN oD; rw [if_pos h, if_pos h]; exact ⟨rfl, rfl⟩
theorem split_at {t u : List UInt8} {k : Nat} (hk : k < t.length) : (t ++ 47 :: u)[k]? = t[k]? := List.getElem?_append_left hk
set_option maxHeartbeats 4000000 in
set_option maxRecDepth 100000 in
theorem con_parseN {b : List UInt8} (h : 47 ∉ b) (hb : b.length ≤ 400) : Con Try.prog 61 [strD b] (tupD [ratD (oN b) (oD b), errD (pE b)]) := by
  refine con_of Try.func61 (by kernel_rfl) rfl (by kernel_rfl) fun base w0 => ?_
  refine SW.seq ?_
  refine SW.region ?_
  refine SWl.ef (S := []) (Ef.alloc (zs := [.bool false, .slice none 0 0, .bool false, .slice none 0 0]) (by kernel_rfl) rfl) ?_
  rintro _ ⟨g2, rfl⟩
  refine SWl.rd rfl (Rd.assign rfl) ?_
  refine SWl.nil ?_
  refine SN.then ?_
  refine SW.seq ?_
  refine SW.region ?_
  refine SWl.rd rfl (Rd.move rfl) ?_
  refine SWl.ef (S := []) (Ef.call (con_cutN h) rfl ⟨Le.refl _, Le.refl _, trivial⟩ rfl) ?_
  rintro _ rfl
  refine SWl.rd rfl (Rd.move rfl) ?_
  refine SWl.rd rfl (Rd.extract rfl rfl) ?_
  refine SWl.rd rfl (Rd.extract rfl rfl) ?_
  refine SWl.rd rfl (Rd.extract rfl rfl) ?_
  refine SWl.rd rfl (Rd.assign rfl) ?_
  refine SWl.rd rfl (Rd.assign rfl) ?_
  refine SWl.rd rfl (Rd.assign rfl) ?_
  refine SWl.nil ?_
  refine SN.then ?_
  refine SW.seq ?_
  refine SW.region ?_
  refine SWl.rd rfl (Rd.move rfl) ?_
  refine SWl.ef (S := []) (Ef.call (con_parseA hb) rfl ⟨Le.refl _, trivial⟩ rfl) ?_
  rintro _ rfl
  refine SWl.rd rfl (Rd.move rfl) ?_
  refine SWl.rd rfl (Rd.extract rfl rfl) ?_
  refine SWl.rd rfl (Rd.extract rfl rfl) ?_
  refine SWl.ef (S := []) (Ef.alloc (zs := [.bool false, .slice none 0 0]) (by kernel_rfl) rfl) ?_
  rintro _ ⟨g7, rfl⟩
  refine SWl.ef (S := [_]) (Ef.storeA 1 rfl rfl rfl (by kernel_rfl) rfl (List.mem_singleton.2 rfl)) ?_
  rintro _ rfl
  refine SWl.rd rfl (Rd.assign rfl) ?_
  refine SWl.nil ?_
  refine SN.then ?_
  refine SW.seq ?_
  refine SW.seq ?_
  refine SW.region ?_
  refine SWl.rd rfl (Rd.move rfl) ?_
  refine SWl.rd rfl (Rd.not rfl) ?_
  refine SWl.nil ?_
  refine SN.then ?_
  refine SW.condT rfl (rfl) ?_
  refine SW.seq ?_
  refine SW.seq ?_
  refine SW.region ?_
  refine SWl.rd rfl (Rd.move rfl) ?_
  refine SWl.rd rfl (Rd.nei rfl rfl) ?_
  refine SWl.nil ?_
  refine SN.then ?_
  refine SW.cond rfl (fun hb26 => ?_) (fun hb26 => ?_)
  · have h1 : ¬ pE b = 0 := by simpa using hb26
    refine SW.seq ?_
    refine SW.region ?_
    refine SWl.rd rfl (Rd.build rfl rfl bldR0) ?_
    refine SWl.rd rfl (Rd.move rfl) ?_
    refine SWl.ef (S := [_]) (Ef.storeA 0 rfl rfl rfl (by kernel_rfl) rfl (List.mem_singleton.2 rfl)) ?_
    rintro _ rfl
    refine SWl.rd rfl (Rd.assign rfl) ?_
    refine SWl.nil ?_
    refine SN.then ?_
    refine SW.ret (fn := Try.f61) (fun _ _ h => h) (Rs.le (Rs.two rfl (ResV.cellA 0 rfl rfl (by kernel_rfl)) (ResV.tmp rfl)) ?_)
    exact Le.tup ⟨le_rat0.trans (le_rat (o_no h1).1 (o_no h1).2), Le.refl _, trivial⟩
  · have h1 : pE b = 0 := by simpa using hb26
    refine SW.skip ?_
    refine SN.then ?_
    refine SW.seq ?_
    refine SW.region ?_
    refine SWl.rd rfl (Rd.loadA 1 2 rfl rfl (by kernel_rfl) rfl trivial) ?_
    refine SWl.ef (S := []) (Ef.call (con_from (pZ_lt b)) rfl ⟨Le.refl _, trivial⟩ rfl) ?_
    rintro _ rfl
    refine SWl.rd rfl (Rd.extract rfl rfl) ?_
    refine SWl.rd rfl (Rd.extract rfl rfl) ?_
    refine SWl.ef (S := [_]) (Ef.storeA 0 rfl rfl rfl (by kernel_rfl) rfl (List.mem_singleton.2 rfl)) ?_
    rintro _ rfl
    refine SWl.rd rfl (Rd.assign rfl) ?_
    refine SWl.nil ?_
    refine SN.then ?_
    refine SW.ret (fn := Try.f61) (fun _ _ h => h) (Rs.le (Rs.two rfl (ResV.cellA 0 rfl rfl (by kernel_rfl)) (ResV.tmp rfl)) ?_)
    exact Le.tup ⟨le_rat (o_ok h1).1 (o_ok h1).2, le_err h1.symm, trivial⟩
set_option maxHeartbeats 4000000 in
set_option maxRecDepth 100000 in
theorem con_parseY {t u : List UInt8} (h : 47 ∉ t) (ht : t.length ≤ 400) (hu : u.length ≤ 400) : Con Try.prog 61 [strD (t ++ 47 :: u)] (tupD [ratD (sN t u) (sD t u), errD (sE t u)]) := by
  refine con_of Try.func61 (by kernel_rfl) rfl (by kernel_rfl) fun base w0 => ?_
  refine SW.seq ?_
  refine SW.region ?_
  refine SWl.ef (S := []) (Ef.alloc (zs := [.bool false, .slice none 0 0, .bool false, .slice none 0 0]) (by kernel_rfl) rfl) ?_
  rintro _ ⟨g2, rfl⟩
  refine SWl.rd rfl (Rd.assign rfl) ?_
  refine SWl.nil ?_
  refine SN.then ?_
  refine SW.seq ?_
  refine SW.region ?_
  refine SWl.rd rfl (Rd.move rfl) ?_
  refine SWl.ef (S := []) (Ef.call (con_cutY h (by omega)) rfl ⟨Le.refl _, Le.refl _, trivial⟩ rfl) ?_
  rintro _ rfl
  refine SWl.rd rfl (Rd.move rfl) ?_
  refine SWl.rd rfl (Rd.extract rfl rfl) ?_
  refine SWl.rd rfl (Rd.extract rfl rfl) ?_
  refine SWl.rd rfl (Rd.extract rfl rfl) ?_
  refine SWl.rd rfl (Rd.assign rfl) ?_
  refine SWl.rd rfl (Rd.assign rfl) ?_
  refine SWl.rd rfl (Rd.assign rfl) ?_
  refine SWl.nil ?_
  refine SN.then ?_
  refine SW.seq ?_
  refine SW.region ?_
  refine SWl.rd rfl (Rd.move rfl) ?_
  refine SWl.ef (S := []) (Ef.call (con_parseA ht) rfl ⟨Le.refl _, trivial⟩ rfl) ?_
  rintro _ rfl
  refine SWl.rd rfl (Rd.move rfl) ?_
  refine SWl.rd rfl (Rd.extract rfl rfl) ?_
  refine SWl.rd rfl (Rd.extract rfl rfl) ?_
  refine SWl.ef (S := []) (Ef.alloc (zs := [.bool false, .slice none 0 0]) (by kernel_rfl) rfl) ?_
  rintro _ ⟨g7, rfl⟩
  refine SWl.ef (S := [_]) (Ef.storeA 1 rfl rfl rfl (by kernel_rfl) rfl (List.mem_singleton.2 rfl)) ?_
  rintro _ rfl
  refine SWl.rd rfl (Rd.assign rfl) ?_
  refine SWl.nil ?_
  refine SN.then ?_
  refine SW.seq ?_
  refine SW.seq ?_
  refine SW.region ?_
  refine SWl.rd rfl (Rd.move rfl) ?_
  refine SWl.rd rfl (Rd.not rfl) ?_
  refine SWl.nil ?_
  refine SN.then ?_
  refine SW.condF rfl (rfl) ?_
  refine SW.skip ?_
  refine SN.then ?_
  refine SW.seq ?_
  refine SW.region ?_
  refine SWl.rd rfl (Rd.move rfl) ?_
  refine SWl.ef (S := []) (Ef.call (con_parseA hu) rfl ⟨Le.refl _, trivial⟩ rfl) ?_
  rintro _ rfl
  refine SWl.rd rfl (Rd.move rfl) ?_
  refine SWl.rd rfl (Rd.extract rfl rfl) ?_
  refine SWl.rd rfl (Rd.extract rfl rfl) ?_
  refine SWl.ef (S := []) (Ef.alloc (zs := [.bool false, .slice none 0 0]) (by kernel_rfl) rfl) ?_
  rintro _ ⟨g9, rfl⟩
  refine SWl.ef (S := [_]) (Ef.storeA 2 rfl rfl rfl (by kernel_rfl) rfl (List.mem_singleton.2 rfl)) ?_
  rintro _ rfl
  refine SWl.rd rfl (Rd.assign rfl) ?_
  refine SWl.nil ?_
  refine SN.then ?_
  refine SW.seq ?_
  refine SW.block ?_
  refine SW.seq ?_
  refine SW.region ?_
  refine SWl.rd rfl (Rd.move rfl) ?_
  refine SWl.rd rfl (Rd.eqi rfl rfl) ?_
  refine SWl.rd rfl (Rd.move rfl) ?_
  refine SWl.split 41 rfl (fun hb41 => ?_) (fun hb41 => ?_)
  · have f1 := bad_f1 (u := u) (pE_6 (of_decide_eq_true hb41))
    refine SWl.off rfl rfl (hb41) rfl rfl ?_
    refine SWl.off rfl rfl (hb41) rfl rfl ?_
    refine SWl.rd rfl (Rd.pickY rfl (hb41) rfl) ?_
    refine SWl.rd rfl (Rd.assign rfl) ?_
    refine SWl.nil ?_
    refine SN.then ?_
    refine SW.condT rfl (rfl) ?_
    refine SW.seq ?_
    refine SW.region ?_
    refine SWl.rd rfl (Rd.build rfl rfl bldR0) ?_
    refine SWl.ef (S := [_]) (Ef.storeA 0 rfl rfl rfl (by kernel_rfl) rfl (List.mem_singleton.2 rfl)) ?_
    rintro _ rfl
    refine SWl.rd rfl (Rd.assign rfl) ?_
    refine SWl.nil ?_
    refine SN.then ?_
    refine SW.ret (fn := Try.f61) (fun _ _ h => h) (Rs.le (Rs.two rfl (ResV.cellA 0 rfl rfl (by kernel_rfl)) (ResV.tmp rfl)) ?_)
    obtain ⟨e1, e2, e3⟩ := s_bad f1
    exact Le.tup ⟨le_rat0.trans (le_rat e1 e2), le_err e3, trivial⟩
  · obtain ⟨f1, a1, a2⟩ := pE_n (of_decide_eq_false hb41)
    refine SWl.rdg rfl rfl (hb41) rfl rfl (Rd.move rfl) ?_
    refine SWl.rdg rfl rfl (hb41) rfl rfl (Rd.eqi rfl rfl) ?_
    refine SWl.rd rfl (Rd.pickN rfl (hb41) rfl) ?_
    refine SWl.rd rfl (Rd.assign rfl) ?_
    refine SWl.nil ?_
    refine SN.then ?_
    refine SW.cond rfl (fun hb38 => ?_) (fun hb38 => ?_)
    · have f1 := bad_f2 (t := t) (pE_6 (of_decide_eq_true hb38))
      refine SW.seq ?_
      refine SW.region ?_
      refine SWl.rd rfl (Rd.build rfl rfl bldR0) ?_
      refine SWl.ef (S := [_]) (Ef.storeA 0 rfl rfl rfl (by kernel_rfl) rfl (List.mem_singleton.2 rfl)) ?_
      rintro _ rfl
      refine SWl.rd rfl (Rd.assign rfl) ?_
      refine SWl.nil ?_
      refine SN.then ?_
      refine SW.ret (fn := Try.f61) (fun _ _ h => h) (Rs.le (Rs.two rfl (ResV.cellA 0 rfl rfl (by kernel_rfl)) (ResV.tmp rfl)) ?_)
      obtain ⟨e1, e2, e3⟩ := s_bad f1
      exact Le.tup ⟨le_rat0.trans (le_rat e1 e2), le_err e3, trivial⟩
    · obtain ⟨f2, a3, a4⟩ := pE_n (of_decide_eq_false hb38)
      refine SW.seq ?_
      refine SW.region ?_
      refine SWl.rd rfl (Rd.move rfl) ?_
      refine SWl.ef (S := []) (Ef.call (con_hasMinus u) rfl ⟨Le.refl _, Le.refl _, trivial⟩ rfl) ?_
      rintro _ rfl
      refine SWl.rd rfl (Rd.assign rfl) ?_
      refine SWl.nil ?_
      refine SN.then ?_
      refine SW.cond rfl (fun hb46 => ?_) (fun hb46 => ?_)
      · have f1 := bad_m (t := t) (of_decide_eq_true hb46)
        refine SW.seq ?_
        refine SW.region ?_
        refine SWl.rd rfl (Rd.build rfl rfl bldR0) ?_
        refine SWl.ef (S := [_]) (Ef.storeA 0 rfl rfl rfl (by kernel_rfl) rfl (List.mem_singleton.2 rfl)) ?_
        rintro _ rfl
        refine SWl.rd rfl (Rd.assign rfl) ?_
        refine SWl.nil ?_
        refine SN.then ?_
        refine SW.ret (fn := Try.f61) (fun _ _ h => h) (Rs.le (Rs.two rfl (ResV.cellA 0 rfl rfl (by kernel_rfl)) (ResV.tmp rfl)) ?_)
        obtain ⟨e1, e2, e3⟩ := s_bad f1
        exact Le.tup ⟨le_rat0.trans (le_rat e1 e2), le_err e3, trivial⟩
      · have f3 := of_decide_eq_false hb46
        refine SW.seq ?_
        refine SW.draw [] (.r 0 (.r 1 (.r 2 (.r 3 (.n 4 (.n 5 (.r 6 (.r 7 (.r 8 .fin))) .no) .no))))) (by kernel_rfl) (by kernel_rfl) (fun d _ _ _ _ h => by cases d <;> exact h) ?_
        refine SWz.rd (i := 0) rfl rfl (Rd.move rfl) ?_
        refine SWz.rd (i := 1) rfl rfl (Rd.eqi rfl rfl) ?_
        refine SWz.rd (i := 2) rfl rfl (Rd.move rfl) ?_
        refine SWz.split 53 rfl (fun hb53 => ?_) (fun hb53 => ?_)
        · have hz := limE_0 (a3.symm.trans (of_decide_eq_true hb53)); have hzu : pZ u = readZ u := a4.trans (lim_ok hz).1
          refine SWz.rdg (i := 3) rfl rfl rfl (hb53) rfl rfl (Rd.loadA 2 2 rfl rfl (by kernel_rfl) rfl trivial) ?_
          refine SWz.efng (i := 4) rfl rfl rfl (hb53) rfl (Ef.call (con_of_ (by decide) (by decide)) rfl ⟨Le.refl _, trivial⟩ rfl) ?_ SWz.no
          rintro _ rfl
          refine SWz.efng (i := 5) rfl rfl rfl (hb53) rfl (Ef.call (con_compare (pZ_lt u) one512) rfl ⟨Le.refl _, Le.refl _, trivial⟩ rfl) ?_ SWz.no
          rintro _ rfl
          refine SWz.rdg (i := 6) rfl rfl rfl (hb53) rfl rfl (Rd.leq rfl rfl) ?_
          refine SWz.rd (i := 7) rfl rfl (Rd.pickY rfl (hb53) rfl) ?_
          refine SWz.rd (i := 8) rfl rfl (Rd.assign rfl) ?_
          refine SWz.nil ?_
          refine SN.then ?_
          refine SW.cond rfl (fun hb50 => ?_) (fun hb50 => ?_)
          · have f1 := bad_0 (t := t) (read_small f2 f3 (by have := cmpZ_le (of_decide_eq_true hb50); rw [hzu] at this; exact this))
            refine SW.seq ?_
            refine SW.region ?_
            refine SWl.rd rfl (Rd.build rfl rfl bldR0) ?_
            refine SWl.ef (S := [_]) (Ef.storeA 0 rfl rfl rfl (by kernel_rfl) rfl (List.mem_singleton.2 rfl)) ?_
            rintro _ rfl
            refine SWl.rd rfl (Rd.assign rfl) ?_
            refine SWl.nil ?_
            refine SN.then ?_
            refine SW.ret (fn := Try.f61) (fun _ _ h => h) (Rs.le (Rs.two rfl (ResV.cellA 0 rfl rfl (by kernel_rfl)) (ResV.tmp rfl)) ?_)
            obtain ⟨e1, e2, e3⟩ := s_bad f1
            exact Le.tup ⟨le_rat0.trans (le_rat e1 e2), le_err e3, trivial⟩
          · have hgt : 1 < readZ u := (by have := cmpZ_gt (of_decide_eq_false hb50); rw [hzu] at this; exact this); have f6 : bad6 t u = false := bad_no f1 f2 f3 (fun e => by rw [e, read_48] at hgt; omega) (fun e => by rw [e, read_49] at hgt; omega); have hpos : 0 < pZ u := (by rw [hzu]; omega)
            refine SW.seq ?_
            refine SW.region ?_
            refine SWl.rd rfl (Rd.move rfl) ?_
            refine SWl.rd rfl (Rd.nei rfl rfl) ?_
            refine SWl.rd rfl (Rd.assign rfl) ?_
            refine SWl.nil ?_
            refine SN.then ?_
            refine SW.cond rfl (fun hb60 => ?_) (fun hb60 => ?_)
            · have hz1 : ¬ limE (readZ t) = 0 := (by rw [← a1]; simpa using hb60); have f8 : fits [readZ t, readZ u] = false := (by have := (limE_7 hz1).2; simp [fits, this])
              refine SW.seq ?_
              refine SW.region ?_
              refine SWl.rd rfl (Rd.build rfl rfl bldR0) ?_
              refine SWl.rd rfl (Rd.move rfl) ?_
              refine SWl.ef (S := [_]) (Ef.storeA 0 rfl rfl rfl (by kernel_rfl) rfl (List.mem_singleton.2 rfl)) ?_
              rintro _ rfl
              refine SWl.rd rfl (Rd.assign rfl) ?_
              refine SWl.nil ?_
              refine SN.then ?_
              refine SW.ret (fn := Try.f61) (fun _ _ h => h) (Rs.le (Rs.two rfl (ResV.cellA 0 rfl rfl (by kernel_rfl)) (ResV.tmp rfl)) ?_)
              obtain ⟨e1, e2, e3⟩ := s_full f6 f8
              exact Le.tup ⟨le_rat0.trans (le_rat e1 e2), le_err (by rw [a1, (limE_7 hz1).1]; exact e3), trivial⟩
            · have hz1 := limE_0 (a1.symm.trans (by simpa using hb60)); have hzt : pZ t = readZ t := a2.trans (lim_ok hz1).1
              refine SW.seq ?_
              refine SW.region ?_
              refine SWl.rd rfl (Rd.move rfl) ?_
              refine SWl.rd rfl (Rd.nei rfl rfl) ?_
              refine SWl.rd rfl (Rd.assign rfl) ?_
              refine SWl.nil ?_
              refine SN.then ?_
              refine SW.condF rfl (by rw [a3, (lim_ok hz).2]; rfl) ?_
              refine SW.skip ?_
              refine SN.block ?_
              refine SN.then ?_
              refine SW.seq ?_
              refine SW.region ?_
              refine SWl.rd rfl (Rd.loadA 1 2 rfl rfl (by kernel_rfl) rfl trivial) ?_
              refine SWl.rd rfl (Rd.loadA 2 2 rfl rfl (by kernel_rfl) rfl trivial) ?_
              refine SWl.rd rfl (Rd.build rfl rfl bldR2) ?_
              refine SWl.ef (S := []) (Ef.alloc (zs := [.bool false, .slice none 0 0, .bool false, .slice none 0 0]) (by kernel_rfl) rfl) ?_
              rintro _ ⟨g11, rfl⟩
              refine SWl.ef (S := [_]) (Ef.storeA 3 rfl rfl rfl (by kernel_rfl) rfl (List.mem_singleton.2 rfl)) ?_
              rintro _ rfl
              refine SWl.nil ?_
              refine SN.then ?_
              refine SW.seq ?_
              refine SW.seq ?_
              refine SW.region ?_
              refine SWl.rd rfl (Rd.loadA 3 4 rfl rfl (by kernel_rfl) rfl trivial) ?_
              refine SWl.ef (S := []) (Ef.call (rv_4 (pZ_lt t) (pZ_lt u) hpos) rfl ⟨Le.refl _, trivial⟩ rfl) ?_
              rintro _ rfl
              refine SWl.rd rfl (Rd.not rfl) ?_
              refine SWl.nil ?_
              refine SN.then ?_
              refine SW.cond rfl (fun hb75 => ?_) (fun hb75 => ?_)
              · have hg : ¬ Nat.gcd (readZ t).natAbs (readZ u).natAbs = 1 := (by rw [← hzt, ← hzu]; simpa using hb75)
                refine SW.seq ?_
                refine SW.region ?_
                refine SWl.rd rfl (Rd.build rfl rfl bldR0) ?_
                refine SWl.ef (S := [_]) (Ef.storeA 0 rfl rfl rfl (by kernel_rfl) rfl (List.mem_singleton.2 rfl)) ?_
                rintro _ rfl
                refine SWl.rd rfl (Rd.assign rfl) ?_
                refine SWl.nil ?_
                refine SN.then ?_
                refine SW.ret (fn := Try.f61) (fun _ _ h => h) (Rs.le (Rs.two rfl (ResV.cellA 0 rfl rfl (by kernel_rfl)) (ResV.tmp rfl)) ?_)
                obtain ⟨e1, e2, e3⟩ := s_gcd f6 (by have h7 := hz1; have h8 := hz; simp [fits, h7, h8]) hg
                exact Le.tup ⟨le_rat0.trans (le_rat e1 e2), le_err e3, trivial⟩
              · have hg : Nat.gcd (readZ t).natAbs (readZ u).natAbs = 1 := (by rw [← hzt, ← hzu]; simpa using hb75)
                refine SW.skip ?_
                refine SN.then ?_
                refine SW.seq ?_
                refine SW.region ?_
                refine SWl.rd rfl (Rd.loadA 3 4 rfl rfl (by kernel_rfl) rfl trivial) ?_
                refine SWl.ef (S := [_]) (Ef.storeA 0 rfl rfl rfl (by kernel_rfl) rfl (List.mem_singleton.2 rfl)) ?_
                rintro _ rfl
                refine SWl.rd rfl (Rd.assign rfl) ?_
                refine SWl.nil ?_
                refine SN.then ?_
                refine SW.ret (fn := Try.f61) (fun _ _ h => h) (Rs.le (Rs.two rfl (ResV.cellA 0 rfl rfl (by kernel_rfl)) (ResV.tmp rfl)) ?_)
                obtain ⟨e1, e2, e3⟩ := s_ok f6 (by have h7 := hz1; have h8 := hz; simp [fits, h7, h8]) hg
                exact Le.tup ⟨le_rat (hzt.trans e1) (hzu.trans e2), le_err e3, trivial⟩
        · have hz : ¬ limE (readZ u) = 0 := (fun e => of_decide_eq_false hb53 (a3.trans e)); have f6 : bad6 t u = false := bad_no f1 f2 f3 (fun e => hz (by rw [e]; decide +kernel)) (fun e => hz (by rw [e]; decide +kernel)); have f7 : fits [readZ t, readZ u] = false := (by have := (limE_7 hz).2; simp [fits, this])
          refine SWz.off (i := 3) rfl rfl rfl (hb53) rfl rfl ?_
          refine SWz.offn (i := 4) rfl rfl rfl (hb53) rfl rfl ?_ SWz.no
          refine SWz.offn (i := 5) rfl rfl rfl (hb53) rfl rfl ?_ SWz.no
          refine SWz.off (i := 6) rfl rfl rfl (hb53) rfl rfl ?_
          refine SWz.rd (i := 7) rfl rfl (Rd.pickN rfl (hb53) rfl) ?_
          refine SWz.rd (i := 8) rfl rfl (Rd.assign rfl) ?_
          refine SWz.nil ?_
          refine SN.then ?_
          refine SW.condF rfl (rfl) ?_
          refine SW.seq ?_
          refine SW.region ?_
          refine SWl.rd rfl (Rd.move rfl) ?_
          refine SWl.rd rfl (Rd.nei rfl rfl) ?_
          refine SWl.rd rfl (Rd.assign rfl) ?_
          refine SWl.nil ?_
          refine SN.then ?_
          refine SW.cond rfl (fun hb60 => ?_) (fun hb60 => ?_)
          · have hz1 : ¬ limE (readZ t) = 0 := (by rw [← a1]; simpa using hb60); have f8 : fits [readZ t, readZ u] = false := (by have := (limE_7 hz1).2; simp [fits, this])
            refine SW.seq ?_
            refine SW.region ?_
            refine SWl.rd rfl (Rd.build rfl rfl bldR0) ?_
            refine SWl.rd rfl (Rd.move rfl) ?_
            refine SWl.ef (S := [_]) (Ef.storeA 0 rfl rfl rfl (by kernel_rfl) rfl (List.mem_singleton.2 rfl)) ?_
            rintro _ rfl
            refine SWl.rd rfl (Rd.assign rfl) ?_
            refine SWl.nil ?_
            refine SN.then ?_
            refine SW.ret (fn := Try.f61) (fun _ _ h => h) (Rs.le (Rs.two rfl (ResV.cellA 0 rfl rfl (by kernel_rfl)) (ResV.tmp rfl)) ?_)
            obtain ⟨e1, e2, e3⟩ := s_full f6 f7
            exact Le.tup ⟨le_rat0.trans (le_rat e1 e2), le_err (by rw [a1, (limE_7 hz1).1]; exact e3), trivial⟩
          · have hz1 := limE_0 (a1.symm.trans (by simpa using hb60)); have hzt : pZ t = readZ t := a2.trans (lim_ok hz1).1
            refine SW.seq ?_
            refine SW.region ?_
            refine SWl.rd rfl (Rd.move rfl) ?_
            refine SWl.rd rfl (Rd.nei rfl rfl) ?_
            refine SWl.rd rfl (Rd.assign rfl) ?_
            refine SWl.nil ?_
            refine SN.then ?_
            refine SW.condT rfl (by rw [a3, (limE_7 hz).1]; rfl) ?_
            refine SW.seq ?_
            refine SW.region ?_
            refine SWl.rd rfl (Rd.build rfl rfl bldR0) ?_
            refine SWl.rd rfl (Rd.move rfl) ?_
            refine SWl.ef (S := [_]) (Ef.storeA 0 rfl rfl rfl (by kernel_rfl) rfl (List.mem_singleton.2 rfl)) ?_
            rintro _ rfl
            refine SWl.rd rfl (Rd.assign rfl) ?_
            refine SWl.nil ?_
            refine SN.then ?_
            refine SW.ret (fn := Try.f61) (fun _ _ h => h) (Rs.le (Rs.two rfl (ResV.cellA 0 rfl rfl (by kernel_rfl)) (ResV.tmp rfl)) ?_)
            obtain ⟨e1, e2, e3⟩ := s_full f6 f7
            exact Le.tup ⟨le_rat0.trans (le_rat e1 e2), le_err (by rw [a3, (limE_7 hz).1]; exact e3), trivial⟩
end Sx
end Go.Proofs.Ytddfphneidcibaa
namespace Go.Proofs.Ytddfphneidcibaa
open Go.RowKit
open Nm (W32)
namespace Sx
theorem at_split {t u : List UInt8} : (t ++ 47 :: u)[t.length]? = some 47 := by rw [List.getElem?_append_right (Nat.le_refl _)]; simp
theorem at_split1 {t u : List UInt8} {c : UInt8} {r : List UInt8} (h : u = c :: r) : (t ++ 47 :: u)[t.length + 1]? = some c := by rw [List.getElem?_append_right (by omega)]; simp [h]
theorem take_split (t u : List UInt8) : (t ++ 47 :: u).take t.length = t := by simp
theorem drop_split (t u : List UInt8) : (t ++ 47 :: u).drop (t.length + 1) = u := by rw [show t ++ 47 :: u = (t ++ [47]) ++ u by simp, List.drop_append_of_le_length (by simp)]; simp
set_option maxHeartbeats 4000000 in
set_option maxRecDepth 100000 in
theorem con_readN {b : List UInt8} (h : 47 ∉ b) (hb : b.length ≤ 400) : Con Try.prog 63 [strD b] (tupD [ratD (oN b) (oD b), errD (pE b)]) := by
  refine con_of Try.func63 (by kernel_rfl) rfl (by kernel_rfl) fun base w0 => ?_
  refine SW.seq ?_
  refine SW.region ?_
  refine SWl.ef (S := []) (Ef.alloc (zs := [.bool false, .slice none 0 0, .bool false, .slice none 0 0]) (by kernel_rfl) rfl) ?_
  rintro _ ⟨g2, rfl⟩
  refine SWl.rd rfl (Rd.assign rfl) ?_
  refine SWl.nil ?_
  refine SN.then ?_
  refine SW.seq ?_
  refine SW.region ?_
  refine SWl.rd rfl (Rd.assign rfl) ?_
  refine SWl.nil ?_
  refine SN.then ?_
  refine SW.seq ?_
  refine SW.seq ?_
  refine SW.region ?_
  refine SWl.rd rfl (Rd.assign rfl) ?_
  refine SWl.nil ?_
  refine SN.then ?_
  refine SW.block ?_
  refine SW.loop (ι := {k : Nat // k ≤ b.length}) (fun ⟨k, hk⟩ => St.of [(2, isD (.pointer (some ⟨g2, 0, none⟩))), (0, strD b), (3, errD 0), (4, errD (-1)), (5, errD (k : Int))] [(g2, [isD (.bool false), isD (.slice none 0 0), isD (.bool false), isD (.slice none 0 0)])]) (fun ⟨k, hk⟩ => b.length - k) (⟨0, Nat.zero_le _⟩) ?_ ?_
  · exact ⟨⟨_, rfl, ⟨⟨_, rfl, Le.refl _⟩, ⟨⟨_, rfl, Le.refl _⟩, ⟨⟨_, rfl, Le.refl _⟩, ⟨⟨_, rfl, Le.refl _⟩, ⟨⟨_, rfl, Le.refl _⟩, trivial⟩⟩⟩⟩⟩⟩, [0], by decide, ⟨⟨_, rfl, LeAll.refl _⟩, trivial⟩⟩
  · rintro ⟨k, hk⟩ K0 hK0
    refine SW.seq ?_
    refine SW.seq ?_
    refine SW.region ?_
    refine SWl.rd rfl (Rd.move rfl) ?_
    refine SWl.rd rfl (Rd.move rfl) ?_
    refine SWl.rd rfl (Rd.lenb rfl (by kernel_rfl)) ?_
    refine SWl.rd rfl (Rd.lss rfl rfl) ?_
    refine SWl.nil ?_
    refine SN.then ?_
    refine SW.cond rfl (fun hb13 => ?_) (fun hb13 => ?_)
    · obtain ⟨c, hc⟩ := at_k (ds := b) (k := k) (by have := of_decide_eq_true hb13; omega)
      refine SW.skip ?_
      refine SN.then ?_
      refine SW.seq ?_
      refine SW.block ?_
      refine SW.seq ?_
      refine SW.region ?_
      refine SWl.rd rfl (Rd.move rfl) ?_
      refine SWl.rd rfl (Rd.move rfl) ?_
      refine SWl.rd rfl (Rd.sidx rfl rfl (by kernel_rfl) (by omega) (by rw [Int.toNat_natCast]; exact hc)) ?_
      refine SWl.rd rfl (Rd.eqi rfl rfl) ?_
      refine SWl.nil ?_
      refine SN.then ?_
      refine SW.condF rfl (decide_eq_false (fun e => h (by rw [← (UInt8.toNat_inj.1 (Int.ofNat_inj.1 e) : c = 47)]; exact List.mem_of_getElem? hc))) ?_
      refine SW.skip ?_
      refine SN.block ?_
      refine SN.then ?_
      refine SW.region ?_
      refine SWl.rd rfl (Rd.move rfl) ?_
      refine SWl.rd rfl (Rd.add rfl rfl ⟨by omega, by omega⟩) ?_
      refine SWl.rd rfl (Rd.assign rfl) ?_
      refine SWl.nil ?_
      exact fun a w hh => hK0 (⟨k + 1, (List.getElem?_eq_some_iff.1 hc).1⟩) (by show b.length - (k + 1) < b.length - k; have := (List.getElem?_eq_some_iff.1 hc).1; omega) a w (hh.sub (⟨⟨_, rfl, ⟨⟨_, rfl, Le.refl _⟩, ⟨⟨_, rfl, Le.refl _⟩, ⟨⟨_, rfl, Le.refl _⟩, ⟨⟨_, rfl, Le.refl _⟩, ⟨⟨_, rfl, le_err (by omega)⟩, trivial⟩⟩⟩⟩⟩⟩, [0], by decide, ⟨⟨_, rfl, LeAll.refl _⟩, trivial⟩⟩))
    · skip
      refine SW.exit' ?_
      repeat (first | refine SE.then ?_ | refine SE.skip (by decide) ?_)
      refine SE.here ?_
      refine SN.then ?_
      refine SW.seq ?_
      refine SW.seq ?_
      refine SW.region ?_
      refine SWl.rd rfl (Rd.move rfl) ?_
      refine SWl.rd rfl (Rd.lss rfl rfl) ?_
      refine SWl.nil ?_
      refine SN.then ?_
      refine SW.condT rfl (by decide) ?_
      refine SW.seq ?_
      refine SW.seq ?_
      refine SW.region ?_
      refine SWl.rd rfl (Rd.move rfl) ?_
      refine SWl.ef (S := []) (Ef.call (con_formA hb) rfl ⟨Le.refl _, trivial⟩ rfl) ?_
      rintro _ rfl
      refine SWl.rd rfl (Rd.not rfl) ?_
      refine SWl.nil ?_
      refine SN.then ?_
      refine SW.cond rfl (fun hb25 => ?_) (fun hb25 => ?_)
      · have hf : formB b = false := by simpa using hb25
        refine SW.seq ?_
        refine SW.region ?_
        refine SWl.rd rfl (Rd.build rfl rfl bldR0) ?_
        refine SWl.ef (S := [_]) (Ef.storeA 0 rfl rfl rfl (by kernel_rfl) rfl (List.mem_singleton.2 rfl)) ?_
        rintro _ rfl
        refine SWl.rd rfl (Rd.assign rfl) ?_
        refine SWl.nil ?_
        refine SN.then ?_
        refine SW.ret (fn := Try.f63) (fun _ _ h => h) (Rs.le (Rs.two rfl (ResV.cellA 0 rfl rfl (by kernel_rfl)) (ResV.tmp rfl)) ?_)
        exact Le.tup ⟨le_rat0.trans (le_rat (o_no (by rw [pE_bad hf]; decide)).1 (o_no (by rw [pE_bad hf]; decide)).2), le_err (pE_bad hf).symm, trivial⟩
      · have hf : formB b = true := (by simpa using hb25); obtain ⟨p1, p2⟩ := pE_good hf
        refine SW.skip ?_
        refine SN.then ?_
        refine SW.seq ?_
        refine SW.region ?_
        refine SWl.rd rfl (Rd.move rfl) ?_
        refine SWl.ef (S := []) (Ef.call (con_readA hb hf) rfl ⟨Le.refl _, trivial⟩ rfl) ?_
        rintro _ rfl
        refine SWl.ef (S := []) (Ef.call (con_limitedR _) rfl ⟨Le.refl _, trivial⟩ rfl) ?_
        rintro _ rfl
        refine SWl.rd rfl (Rd.move rfl) ?_
        refine SWl.rd rfl (Rd.extract rfl rfl) ?_
        refine SWl.rd rfl (Rd.extract rfl rfl) ?_
        refine SWl.ef (S := []) (Ef.alloc (zs := [.bool false, .slice none 0 0]) (by kernel_rfl) rfl) ?_
        rintro _ ⟨g6, rfl⟩
        refine SWl.ef (S := [_]) (Ef.storeA 1 rfl rfl rfl (by kernel_rfl) rfl (List.mem_singleton.2 rfl)) ?_
        rintro _ rfl
        refine SWl.rd rfl (Rd.assign rfl) ?_
        refine SWl.nil ?_
        refine SN.then ?_
        refine SW.seq ?_
        refine SW.seq ?_
        refine SW.region ?_
        refine SWl.rd rfl (Rd.move rfl) ?_
        refine SWl.rd rfl (Rd.nei rfl rfl) ?_
        refine SWl.nil ?_
        refine SN.then ?_
        refine SW.cond rfl (fun hb34 => ?_) (fun hb34 => ?_)
        · have h1 : ¬ limE (readZ b) = 0 := by simpa using hb34
          refine SW.seq ?_
          refine SW.region ?_
          refine SWl.rd rfl (Rd.build rfl rfl bldR0) ?_
          refine SWl.rd rfl (Rd.move rfl) ?_
          refine SWl.ef (S := [_]) (Ef.storeA 0 rfl rfl rfl (by kernel_rfl) rfl (List.mem_singleton.2 rfl)) ?_
          rintro _ rfl
          refine SWl.rd rfl (Rd.assign rfl) ?_
          refine SWl.nil ?_
          refine SN.then ?_
          refine SW.ret (fn := Try.f63) (fun _ _ h => h) (Rs.le (Rs.two rfl (ResV.cellA 0 rfl rfl (by kernel_rfl)) (ResV.tmp rfl)) ?_)
          exact Le.tup ⟨le_rat0.trans (le_rat (o_no (by rw [p1]; exact h1)).1 (o_no (by rw [p1]; exact h1)).2), le_err p1.symm, trivial⟩
        · have h1 : limE (readZ b) = 0 := by simpa using hb34
          refine SW.skip ?_
          refine SN.then ?_
          refine SW.seq ?_
          refine SW.draw [g2] (.r 0 (.n 1 (.r 2 (.e 3 (.r 4 .fin) .no)) .no)) (by kernel_rfl) (by kernel_rfl) (fun d _ _ _ _ h => by cases d <;> exact h) ?_
          refine SWz.rd (i := 0) rfl rfl (Rd.loadA 1 2 rfl rfl (by kernel_rfl) rfl ⟨⟨0, _, rfl, by decide⟩, trivial⟩) ?_
          refine SWz.efn (i := 1) rfl (Ef.call (con_ofR (by decide) (by decide)) rfl ⟨Le.refl _, trivial⟩ rfl) ?_ SWz.no
          rintro _ rfl
          refine SWz.rd (i := 2) rfl rfl (Rd.build rfl rfl bldR2) ?_
          refine SWz.efe (i := 3) rfl (Ef.storeA 0 rfl rfl rfl (by kernel_rfl) rfl (List.mem_of_getElem? (i := 0) rfl)) ?_ SWz.no
          rintro _ rfl
          refine SWz.rd (i := 4) rfl rfl (Rd.assign rfl) ?_
          refine SWz.nil ?_
          refine SN.then ?_
          refine SW.ret (fn := Try.f63) (fun _ _ h => h) (Rs.le (Rs.two rfl (ResV.cellA 0 rfl rfl (by kernel_rfl)) (ResV.tmp rfl)) ?_)
          exact Le.tup ⟨le_rat (p2.symm.trans (o_ok (p1.trans h1)).1) (o_ok (p1.trans h1)).2, le_err (p1.trans h1).symm, trivial⟩
set_option maxHeartbeats 4000000 in
set_option maxRecDepth 100000 in
theorem con_readY {t u : List UInt8} (h : 47 ∉ t) (ht : t.length ≤ 400) (hu : u.length ≤ 400) : Con Try.prog 63 [strD (t ++ 47 :: u)] (tupD [ratD (sN t u) (sD t u), errD (sE t u)]) := by
  refine con_of Try.func63 (by kernel_rfl) rfl (by kernel_rfl) fun base w0 => ?_
  refine SW.seq ?_
  refine SW.region ?_
  refine SWl.ef (S := []) (Ef.alloc (zs := [.bool false, .slice none 0 0, .bool false, .slice none 0 0]) (by kernel_rfl) rfl) ?_
  rintro _ ⟨g2, rfl⟩
  refine SWl.rd rfl (Rd.assign rfl) ?_
  refine SWl.nil ?_
  refine SN.then ?_
  refine SW.seq ?_
  refine SW.region ?_
  refine SWl.rd rfl (Rd.assign rfl) ?_
  refine SWl.nil ?_
  refine SN.then ?_
  refine SW.seq ?_
  refine SW.seq ?_
  refine SW.region ?_
  refine SWl.rd rfl (Rd.assign rfl) ?_
  refine SWl.nil ?_
  refine SN.then ?_
  refine SW.block ?_
  refine SW.loop (ι := {k : Nat // k ≤ t.length}) (fun ⟨k, hk⟩ => St.of [(2, isD (.pointer (some ⟨g2, 0, none⟩))), (0, strD (t ++ 47 :: u)), (3, errD 0), (4, errD (-1)), (5, errD (k : Int))] [(g2, [isD (.bool false), isD (.slice none 0 0), isD (.bool false), isD (.slice none 0 0)])]) (fun ⟨k, hk⟩ => t.length - k) (⟨0, Nat.zero_le _⟩) ?_ ?_
  · exact ⟨⟨_, rfl, ⟨⟨_, rfl, Le.refl _⟩, ⟨⟨_, rfl, Le.refl _⟩, ⟨⟨_, rfl, Le.refl _⟩, ⟨⟨_, rfl, Le.refl _⟩, ⟨⟨_, rfl, Le.refl _⟩, trivial⟩⟩⟩⟩⟩⟩, [0], by decide, ⟨⟨_, rfl, LeAll.refl _⟩, trivial⟩⟩
  · rintro ⟨k, hk⟩ K0 hK0
    obtain ⟨c, hc⟩ : ∃ c, (t ++ 47 :: u)[k]? = some c := at_k (by simp; omega)
    refine SW.seq ?_
    refine SW.seq ?_
    refine SW.region ?_
    refine SWl.rd rfl (Rd.move rfl) ?_
    refine SWl.rd rfl (Rd.move rfl) ?_
    refine SWl.rd rfl (Rd.lenb rfl (by kernel_rfl)) ?_
    refine SWl.rd rfl (Rd.lss rfl rfl) ?_
    refine SWl.nil ?_
    refine SN.then ?_
    refine SW.condT rfl (decide_eq_true (by simp; omega)) ?_
    refine SW.skip ?_
    refine SN.then ?_
    refine SW.seq ?_
    refine SW.block ?_
    refine SW.seq ?_
    refine SW.region ?_
    refine SWl.rd rfl (Rd.move rfl) ?_
    refine SWl.rd rfl (Rd.move rfl) ?_
    refine SWl.rd rfl (Rd.sidx rfl rfl (by kernel_rfl) (by omega) (by rw [Int.toNat_natCast]; exact hc)) ?_
    refine SWl.rd rfl (Rd.eqi rfl rfl) ?_
    refine SWl.nil ?_
    refine SN.then ?_
    refine SW.cond rfl (fun hb19 => ?_) (fun hb19 => ?_)
    · obtain rfl : k = t.length := Classical.byContradiction (fun hne => h (by have h9 := hc; rw [split_at (by omega), (UInt8.toNat_inj.1 (Int.ofNat_inj.1 (of_decide_eq_true hb19)) : c = 47)] at h9; exact List.mem_of_getElem? h9))
      refine SW.seq ?_
      refine SW.region ?_
      refine SWl.rd rfl (Rd.move rfl) ?_
      refine SWl.rd rfl (Rd.assign rfl) ?_
      refine SWl.nil ?_
      refine SN.then ?_
      refine SW.exit' ?_
      repeat (first | refine SE.then ?_ | refine SE.skip (by decide) ?_)
      refine SE.here ?_
      refine SN.then ?_
      refine SW.seq ?_
      refine SW.seq ?_
      refine SW.sub (σ' := St.of [(2, isD (.pointer (some ⟨g2, 0, none⟩))), (0, strD (t ++ 47 :: u)), (4, errD (t.length : Int))] [(g2, [isD (.bool false), isD (.slice none 0 0), isD (.bool false), isD (.slice none 0 0)])]) (⟨⟨_, rfl, ⟨⟨_, rfl, Le.refl _⟩, ⟨⟨_, rfl, Le.refl _⟩, ⟨⟨_, rfl, Le.refl _⟩, trivial⟩⟩⟩⟩, [0], by decide, ⟨⟨_, rfl, LeAll.refl _⟩, trivial⟩⟩) ?_
      refine SW.region ?_
      refine SWl.rd rfl (Rd.move rfl) ?_
      refine SWl.rd rfl (Rd.lss rfl rfl) ?_
      refine SWl.nil ?_
      refine SN.then ?_
      refine SW.condF rfl (decide_eq_false (by omega)) ?_
      refine SW.skip ?_
      refine SN.then ?_
      refine SW.seq ?_
      refine SW.seq ?_
      refine SW.region ?_
      refine SWl.rd rfl (Rd.move rfl) ?_
      refine SWl.rd rfl (Rd.move rfl) ?_
      refine SWl.rd rfl (Rd.le (Rd.sshi rfl rfl (by kernel_rfl) (by omega) (by simp; omega)) (le_str (b := t) (by rw [Int.toNat_natCast]; exact take_split t u))) ?_
      refine SWl.ef (S := []) (Ef.call (con_formA ht) rfl ⟨Le.refl _, trivial⟩ rfl) ?_
      rintro _ rfl
      refine SWl.rd rfl (Rd.not rfl) ?_
      refine SWl.rd rfl (Rd.move rfl) ?_
      refine SWl.split 45 rfl (fun hb45 => ?_) (fun hb45 => ?_)
      · have f1 := bad_f1 (u := u) (by simpa using hb45)
        refine SWl.off rfl rfl (hb45) rfl rfl ?_
        refine SWl.off rfl rfl (hb45) rfl rfl ?_
        refine SWl.off rfl rfl (hb45) rfl rfl ?_
        refine SWl.off rfl rfl (hb45) rfl rfl ?_
        refine SWl.off rfl rfl (hb45) rfl rfl ?_
        refine SWl.off rfl rfl (hb45) rfl rfl ?_
        refine SWl.rd rfl (Rd.pickY rfl (hb45) rfl) ?_
        refine SWl.rd rfl (Rd.move rfl) ?_
        refine SWl.off rfl rfl (rfl) rfl rfl ?_
        refine SWl.off rfl rfl (rfl) rfl rfl ?_
        refine SWl.off rfl rfl (rfl) rfl rfl ?_
        refine SWl.off rfl rfl (rfl) rfl rfl ?_
        refine SWl.off rfl rfl (rfl) rfl rfl ?_
        refine SWl.rd rfl (Rd.pickY rfl (rfl) rfl) ?_
        refine SWl.rd rfl (Rd.move rfl) ?_
        refine SWl.off rfl rfl (rfl) rfl rfl ?_
        refine SWl.off rfl rfl (rfl) rfl rfl ?_
        refine SWl.off rfl rfl (rfl) rfl rfl ?_
        refine SWl.off rfl rfl (rfl) rfl rfl ?_
        refine SWl.off rfl rfl (rfl) rfl rfl ?_
        refine SWl.rd rfl (Rd.pickY rfl (rfl) rfl) ?_
        refine SWl.rd rfl (Rd.move rfl) ?_
        refine SWl.off rfl rfl (rfl) rfl rfl ?_
        refine SWl.off rfl rfl (rfl) rfl rfl ?_
        refine SWl.off rfl rfl (rfl) rfl rfl ?_
        refine SWl.off rfl rfl (rfl) rfl rfl ?_
        refine SWl.off rfl rfl (rfl) rfl rfl ?_
        refine SWl.rd rfl (Rd.pickY rfl (rfl) rfl) ?_
        refine SWl.nil ?_
        refine SN.then ?_
        refine SW.condT rfl (rfl) ?_
        refine SW.seq ?_
        refine SW.region ?_
        refine SWl.rd rfl (Rd.build rfl rfl bldR0) ?_
        refine SWl.ef (S := [_]) (Ef.storeA 0 rfl rfl rfl (by kernel_rfl) rfl (List.mem_singleton.2 rfl)) ?_
        rintro _ rfl
        refine SWl.rd rfl (Rd.assign rfl) ?_
        refine SWl.nil ?_
        refine SN.then ?_
        refine SW.ret (fn := Try.f63) (fun _ _ h => h) (Rs.le (Rs.two rfl (ResV.cellA 0 rfl rfl (by kernel_rfl)) (ResV.tmp rfl)) ?_)
        obtain ⟨e1, e2, e3⟩ := s_bad f1
        exact Le.tup ⟨le_rat0.trans (le_rat e1 e2), le_err e3, trivial⟩
      · have f1 : formB t = true := by simpa using hb45
        refine SWl.rdg rfl rfl (hb45) rfl rfl (Rd.move rfl) ?_
        refine SWl.rdg rfl rfl (hb45) rfl rfl (Rd.move rfl) ?_
        refine SWl.rdg rfl rfl (hb45) rfl rfl (Rd.le (Rd.add rfl rfl ⟨by omega, by omega⟩) (le_err (b := ((t.length + 1 : Nat) : Int)) (by omega))) ?_
        refine SWl.rdg rfl rfl (hb45) rfl rfl (Rd.le (Rd.sslo rfl rfl (by kernel_rfl) (by omega) (by simp; omega)) (le_str (b := u) (by rw [Int.toNat_natCast]; exact drop_split t u))) ?_
        refine SWl.efg (S := []) rfl rfl (hb45) rfl (Ef.call (con_formA hu) rfl ⟨Le.refl _, trivial⟩ rfl) ?_
        rintro _ rfl
        refine SWl.rdg rfl rfl (hb45) rfl rfl (Rd.not rfl) ?_
        refine SWl.rd rfl (Rd.pickN rfl (hb45) rfl) ?_
        refine SWl.rd rfl (Rd.move rfl) ?_
        refine SWl.split 53 rfl (fun hb53 => ?_) (fun hb53 => ?_)
        · have f1 := bad_f2 (t := t) (u := u) (by simpa using hb53)
          refine SWl.off rfl rfl (hb53) rfl rfl ?_
          refine SWl.off rfl rfl (hb53) rfl rfl ?_
          refine SWl.off rfl rfl (hb53) rfl rfl ?_
          refine SWl.off rfl rfl (hb53) rfl rfl ?_
          refine SWl.off rfl rfl (hb53) rfl rfl ?_
          refine SWl.rd rfl (Rd.pickY rfl (hb53) rfl) ?_
          refine SWl.rd rfl (Rd.move rfl) ?_
          refine SWl.off rfl rfl (rfl) rfl rfl ?_
          refine SWl.off rfl rfl (rfl) rfl rfl ?_
          refine SWl.off rfl rfl (rfl) rfl rfl ?_
          refine SWl.off rfl rfl (rfl) rfl rfl ?_
          refine SWl.off rfl rfl (rfl) rfl rfl ?_
          refine SWl.rd rfl (Rd.pickY rfl (rfl) rfl) ?_
          refine SWl.rd rfl (Rd.move rfl) ?_
          refine SWl.off rfl rfl (rfl) rfl rfl ?_
          refine SWl.off rfl rfl (rfl) rfl rfl ?_
          refine SWl.off rfl rfl (rfl) rfl rfl ?_
          refine SWl.off rfl rfl (rfl) rfl rfl ?_
          refine SWl.off rfl rfl (rfl) rfl rfl ?_
          refine SWl.rd rfl (Rd.pickY rfl (rfl) rfl) ?_
          refine SWl.nil ?_
          refine SN.then ?_
          refine SW.condT rfl (rfl) ?_
          refine SW.seq ?_
          refine SW.region ?_
          refine SWl.rd rfl (Rd.build rfl rfl bldR0) ?_
          refine SWl.ef (S := [_]) (Ef.storeA 0 rfl rfl rfl (by kernel_rfl) rfl (List.mem_singleton.2 rfl)) ?_
          rintro _ rfl
          refine SWl.rd rfl (Rd.assign rfl) ?_
          refine SWl.nil ?_
          refine SN.then ?_
          refine SW.ret (fn := Try.f63) (fun _ _ h => h) (Rs.le (Rs.two rfl (ResV.cellA 0 rfl rfl (by kernel_rfl)) (ResV.tmp rfl)) ?_)
          obtain ⟨e1, e2, e3⟩ := s_bad f1
          exact Le.tup ⟨le_rat0.trans (le_rat e1 e2), le_err e3, trivial⟩
        · have f2 : formB u = true := (by simpa using hb53); obtain ⟨c0, u0, hu0⟩ := List.exists_cons_of_ne_nil (form_read f2).2
          refine SWl.rdg rfl rfl (hb53) rfl rfl (Rd.move rfl) ?_
          refine SWl.rdg rfl rfl (hb53) rfl rfl (Rd.move rfl) ?_
          refine SWl.rdg rfl rfl (hb53) rfl rfl (Rd.le (Rd.add rfl rfl ⟨by omega, by omega⟩) (le_err (b := ((t.length + 1 : Nat) : Int)) (by omega))) ?_
          refine SWl.rdg rfl rfl (hb53) rfl rfl (Rd.sidx rfl rfl (by kernel_rfl) (by omega) (by rw [Int.toNat_natCast]; exact at_split1 hu0)) ?_
          refine SWl.rdg rfl rfl (hb53) rfl rfl (Rd.eqi rfl rfl) ?_
          refine SWl.rd rfl (Rd.pickN rfl (hb53) rfl) ?_
          refine SWl.rd rfl (Rd.move rfl) ?_
          refine SWl.split 60 rfl (fun hb60 => ?_) (fun hb60 => ?_)
          · have f1 := bad_m (t := t) (u := u) (by rw [hu0, (UInt8.toNat_inj.1 (Int.ofNat_inj.1 (of_decide_eq_true hb60)) : c0 = 45)]; rfl)
            refine SWl.off rfl rfl (hb60) rfl rfl ?_
            refine SWl.off rfl rfl (hb60) rfl rfl ?_
            refine SWl.off rfl rfl (hb60) rfl rfl ?_
            refine SWl.off rfl rfl (hb60) rfl rfl ?_
            refine SWl.off rfl rfl (hb60) rfl rfl ?_
            refine SWl.rd rfl (Rd.pickY rfl (hb60) rfl) ?_
            refine SWl.rd rfl (Rd.move rfl) ?_
            refine SWl.off rfl rfl (rfl) rfl rfl ?_
            refine SWl.off rfl rfl (rfl) rfl rfl ?_
            refine SWl.off rfl rfl (rfl) rfl rfl ?_
            refine SWl.off rfl rfl (rfl) rfl rfl ?_
            refine SWl.off rfl rfl (rfl) rfl rfl ?_
            refine SWl.rd rfl (Rd.pickY rfl (rfl) rfl) ?_
            refine SWl.nil ?_
            refine SN.then ?_
            refine SW.condT rfl (rfl) ?_
            refine SW.seq ?_
            refine SW.region ?_
            refine SWl.rd rfl (Rd.build rfl rfl bldR0) ?_
            refine SWl.ef (S := [_]) (Ef.storeA 0 rfl rfl rfl (by kernel_rfl) rfl (List.mem_singleton.2 rfl)) ?_
            rintro _ rfl
            refine SWl.rd rfl (Rd.assign rfl) ?_
            refine SWl.nil ?_
            refine SN.then ?_
            refine SW.ret (fn := Try.f63) (fun _ _ h => h) (Rs.le (Rs.two rfl (ResV.cellA 0 rfl rfl (by kernel_rfl)) (ResV.tmp rfl)) ?_)
            obtain ⟨e1, e2, e3⟩ := s_bad f1
            exact Le.tup ⟨le_rat0.trans (le_rat e1 e2), le_err e3, trivial⟩
          · have f3 : ¬ u.head? = some 45 := (fun e => of_decide_eq_false hb60 (by rw [hu0] at e; simp at e; rw [e]; rfl))
            refine SWl.rdg rfl rfl (hb60) rfl rfl (Rd.move rfl) ?_
            refine SWl.rdg rfl rfl (hb60) rfl rfl (Rd.move rfl) ?_
            refine SWl.rdg rfl rfl (hb60) rfl rfl (Rd.le (Rd.add rfl rfl ⟨by omega, by omega⟩) (le_err (b := ((t.length + 1 : Nat) : Int)) (by omega))) ?_
            refine SWl.rdg rfl rfl (hb60) rfl rfl (Rd.le (Rd.sslo rfl rfl (by kernel_rfl) (by omega) (by simp; omega)) (le_str (b := u) (by rw [Int.toNat_natCast]; exact drop_split t u))) ?_
            refine SWl.rdg rfl rfl (hb60) rfl rfl (Rd.eqs (p := u) (q := [48]) rfl rfl) ?_
            refine SWl.rd rfl (Rd.pickN rfl (hb60) rfl) ?_
            refine SWl.rd rfl (Rd.move rfl) ?_
            refine SWl.split 67 rfl (fun hb67 => ?_) (fun hb67 => ?_)
            · have f1 := bad_0 (t := t) (.inl (of_decide_eq_true hb67))
              refine SWl.off rfl rfl (hb67) rfl rfl ?_
              refine SWl.off rfl rfl (hb67) rfl rfl ?_
              refine SWl.off rfl rfl (hb67) rfl rfl ?_
              refine SWl.off rfl rfl (hb67) rfl rfl ?_
              refine SWl.off rfl rfl (hb67) rfl rfl ?_
              refine SWl.rd rfl (Rd.pickY rfl (hb67) rfl) ?_
              refine SWl.nil ?_
              refine SN.then ?_
              refine SW.condT rfl (rfl) ?_
              refine SW.seq ?_
              refine SW.region ?_
              refine SWl.rd rfl (Rd.build rfl rfl bldR0) ?_
              refine SWl.ef (S := [_]) (Ef.storeA 0 rfl rfl rfl (by kernel_rfl) rfl (List.mem_singleton.2 rfl)) ?_
              rintro _ rfl
              refine SWl.rd rfl (Rd.assign rfl) ?_
              refine SWl.nil ?_
              refine SN.then ?_
              refine SW.ret (fn := Try.f63) (fun _ _ h => h) (Rs.le (Rs.two rfl (ResV.cellA 0 rfl rfl (by kernel_rfl)) (ResV.tmp rfl)) ?_)
              obtain ⟨e1, e2, e3⟩ := s_bad f1
              exact Le.tup ⟨le_rat0.trans (le_rat e1 e2), le_err e3, trivial⟩
            · have f4 := of_decide_eq_false hb67
              refine SWl.rdg rfl rfl (hb67) rfl rfl (Rd.move rfl) ?_
              refine SWl.rdg rfl rfl (hb67) rfl rfl (Rd.move rfl) ?_
              refine SWl.rdg rfl rfl (hb67) rfl rfl (Rd.le (Rd.add rfl rfl ⟨by omega, by omega⟩) (le_err (b := ((t.length + 1 : Nat) : Int)) (by omega))) ?_
              refine SWl.rdg rfl rfl (hb67) rfl rfl (Rd.le (Rd.sslo rfl rfl (by kernel_rfl) (by omega) (by simp; omega)) (le_str (b := u) (by rw [Int.toNat_natCast]; exact drop_split t u))) ?_
              refine SWl.rdg rfl rfl (hb67) rfl rfl (Rd.eqs (p := u) (q := [49]) rfl rfl) ?_
              refine SWl.rd rfl (Rd.pickN rfl (hb67) rfl) ?_
              refine SWl.nil ?_
              refine SN.then ?_
              refine SW.cond rfl (fun hb73 => ?_) (fun hb73 => ?_)
              · have f1 := bad_0 (t := t) (.inr (of_decide_eq_true hb73))
                refine SW.seq ?_
                refine SW.region ?_
                refine SWl.rd rfl (Rd.build rfl rfl bldR0) ?_
                refine SWl.ef (S := [_]) (Ef.storeA 0 rfl rfl rfl (by kernel_rfl) rfl (List.mem_singleton.2 rfl)) ?_
                rintro _ rfl
                refine SWl.rd rfl (Rd.assign rfl) ?_
                refine SWl.nil ?_
                refine SN.then ?_
                refine SW.ret (fn := Try.f63) (fun _ _ h => h) (Rs.le (Rs.two rfl (ResV.cellA 0 rfl rfl (by kernel_rfl)) (ResV.tmp rfl)) ?_)
                obtain ⟨e1, e2, e3⟩ := s_bad f1
                exact Le.tup ⟨le_rat0.trans (le_rat e1 e2), le_err e3, trivial⟩
              · have f6 := bad_no f1 f2 f3 f4 (of_decide_eq_false hb73)
                refine SW.skip ?_
                refine SN.then ?_
                refine SW.seq ?_
                refine SW.sub (σ' := St.of [(2, isD (.pointer (some ⟨g2, 0, none⟩))), (0, strD (t ++ 47 :: u)), (4, errD (t.length : Int))] [(g2, [isD (.bool false), isD (.slice none 0 0), isD (.bool false), isD (.slice none 0 0)])]) (⟨⟨_, rfl, ⟨⟨_, rfl, Le.refl _⟩, ⟨⟨_, rfl, Le.refl _⟩, ⟨⟨_, rfl, Le.refl _⟩, trivial⟩⟩⟩⟩, [0], by decide, ⟨⟨_, rfl, LeAll.refl _⟩, trivial⟩⟩) ?_
                refine SW.meet (fun σ => ∃ g8 g9, σ = St.of [(2, isD (.pointer (some ⟨g2, 0, none⟩))), (8, isD (.pointer (some ⟨g8, 0, none⟩))), (9, isD (.pointer (some ⟨g9, 0, none⟩)))] [(g2, [isD (.bool false), isD (.slice none 0 0), isD (.bool false), isD (.slice none 0 0)]), (g8, intC (readZ t)), (g9, intC (readZ u))]) ?_ ?_
                · refine SW.draw [] (.r 0 (.r 1 (.r 2 (.r 4 (.r 5 (.r 6 (.r 7 (.n 3 (.n 8 (.n 9 (.n 10 (.e 11 (.e 12 .fin .no) .no) .no) (.n 10 (.n 9 (.e 11 (.e 12 .fin .no) .no) .no) .no)) (.n 9 (.n 8 (.n 10 (.e 11 (.e 12 .fin .no) .no) .no) (.n 10 (.n 8 (.e 11 (.e 12 .fin .no) .no) .no) .no)) (.n 10 (.n 8 (.n 9 (.e 11 (.e 12 .fin .no) .no) .no) (.n 9 (.n 8 (.e 11 (.e 12 .fin .no) .no) .no) .no)) .no))) (.n 9 (.n 3 (.n 8 (.n 10 (.e 11 (.e 12 .fin .no) .no) .no) (.n 10 (.n 8 (.e 11 (.e 12 .fin .no) .no) .no) .no)) (.n 10 (.n 3 (.n 8 (.e 11 (.e 12 .fin .no) .no) .no) .no) .no)) (.n 10 (.n 3 (.n 8 (.n 9 (.e 11 (.e 12 .fin .no) .no) .no) (.n 9 (.n 8 (.e 11 (.e 12 .fin .no) .no) .no) .no)) (.n 9 (.n 3 (.n 8 (.e 11 (.e 12 .fin .no) .no) .no) .no) .no)) .no)))))))))) (by kernel_rfl) (by kernel_rfl) (fun d _ _ _ _ h => by cases d <;> exact h) ?_
                  refine SWz.rd (i := 0) rfl rfl (Rd.move rfl) ?_
                  refine SWz.rd (i := 1) rfl rfl (Rd.move rfl) ?_
                  refine SWz.rd (i := 2) rfl rfl (Rd.le (Rd.sshi rfl rfl (by kernel_rfl) (by omega) (by simp; omega)) (le_str (b := t) (by rw [Int.toNat_natCast]; exact take_split t u))) ?_
                  refine SWz.rd (i := 4) rfl rfl (Rd.move rfl) ?_
                  refine SWz.rd (i := 5) rfl rfl (Rd.move rfl) ?_
                  refine SWz.rd (i := 6) rfl rfl (Rd.le (Rd.add rfl rfl ⟨by omega, by omega⟩) (le_err (b := ((t.length + 1 : Nat) : Int)) (by omega))) ?_
                  refine SWz.rd (i := 7) rfl rfl (Rd.le (Rd.sslo rfl rfl (by kernel_rfl) (by omega) (by simp; omega)) (le_str (b := u) (by rw [Int.toNat_natCast]; exact drop_split t u))) ?_
                  refine SWz.efn (i := 3) rfl (Ef.call (con_readA ht f1) rfl ⟨Le.refl _, trivial⟩ rfl) ?_ ?_
                  · rintro _ rfl
                    refine SWz.efn (i := 8) rfl (Ef.call (con_readA hu f2) rfl ⟨Le.refl _, trivial⟩ rfl) ?_ ?_
                    · rintro _ rfl
                      refine SWz.efb (i := 9) rfl (EfB.alloc (zs := [.bool false, .slice none 0 0]) (by kernel_rfl) rfl) ?_ ?_
                      · rintro g8 _ rfl
                        refine SWz.efb (i := 10) rfl (EfB.alloc (zs := [.bool false, .slice none 0 0]) (by kernel_rfl) rfl) ?_ SWz.no
                        rintro g9 _ rfl
                        refine SWz.efe (i := 11) rfl (Ef.storeA 1 rfl rfl rfl (by kernel_rfl) rfl (List.mem_of_getElem? (i := 0) rfl)) ?_ SWz.no
                        rintro _ rfl
                        refine SWz.efe (i := 12) rfl (Ef.storeA 2 rfl rfl rfl (by kernel_rfl) rfl (List.mem_of_getElem? (i := 1) rfl)) ?_ SWz.no
                        rintro _ rfl
                        refine SWz.nil ?_
                        exact SN.meet ⟨g8, g9, rfl⟩ (⟨⟨_, rfl, ⟨⟨_, rfl, Le.refl _⟩, ⟨⟨_, rfl, Le.refl _⟩, ⟨⟨_, rfl, Le.refl _⟩, trivial⟩⟩⟩⟩, [0, 1, 2], by decide, ⟨⟨_, rfl, LeAll.refl _⟩, ⟨⟨_, rfl, LeAll.refl _⟩, ⟨⟨_, rfl, LeAll.refl _⟩, trivial⟩⟩⟩⟩)
                      refine SWz.efb (i := 10) rfl (EfB.alloc (zs := [.bool false, .slice none 0 0]) (by kernel_rfl) rfl) ?_ SWz.no
                      rintro g9 _ rfl
                      refine SWz.efb (i := 9) rfl (EfB.alloc (zs := [.bool false, .slice none 0 0]) (by kernel_rfl) rfl) ?_ SWz.no
                      rintro g8 _ rfl
                      refine SWz.efe (i := 11) rfl (Ef.storeA 2 rfl rfl rfl (by kernel_rfl) rfl (List.mem_of_getElem? (i := 1) rfl)) ?_ SWz.no
                      rintro _ rfl
                      refine SWz.efe (i := 12) rfl (Ef.storeA 1 rfl rfl rfl (by kernel_rfl) rfl (List.mem_of_getElem? (i := 0) rfl)) ?_ SWz.no
                      rintro _ rfl
                      refine SWz.nil ?_
                      exact SN.meet ⟨g8, g9, rfl⟩ (⟨⟨_, rfl, ⟨⟨_, rfl, Le.refl _⟩, ⟨⟨_, rfl, Le.refl _⟩, ⟨⟨_, rfl, Le.refl _⟩, trivial⟩⟩⟩⟩, [0, 2, 1], by decide, ⟨⟨_, rfl, LeAll.refl _⟩, ⟨⟨_, rfl, LeAll.refl _⟩, ⟨⟨_, rfl, LeAll.refl _⟩, trivial⟩⟩⟩⟩)
                    refine SWz.efb (i := 9) rfl (EfB.alloc (zs := [.bool false, .slice none 0 0]) (by kernel_rfl) rfl) ?_ ?_
                    · rintro g8 _ rfl
                      refine SWz.efn (i := 8) rfl (Ef.call (con_readA hu f2) rfl ⟨Le.refl _, trivial⟩ rfl) ?_ ?_
                      · rintro _ rfl
                        refine SWz.efb (i := 10) rfl (EfB.alloc (zs := [.bool false, .slice none 0 0]) (by kernel_rfl) rfl) ?_ SWz.no
                        rintro g9 _ rfl
                        refine SWz.efe (i := 11) rfl (Ef.storeA 1 rfl rfl rfl (by kernel_rfl) rfl (List.mem_of_getElem? (i := 0) rfl)) ?_ SWz.no
                        rintro _ rfl
                        refine SWz.efe (i := 12) rfl (Ef.storeA 2 rfl rfl rfl (by kernel_rfl) rfl (List.mem_of_getElem? (i := 1) rfl)) ?_ SWz.no
                        rintro _ rfl
                        refine SWz.nil ?_
                        exact SN.meet ⟨g8, g9, rfl⟩ (⟨⟨_, rfl, ⟨⟨_, rfl, Le.refl _⟩, ⟨⟨_, rfl, Le.refl _⟩, ⟨⟨_, rfl, Le.refl _⟩, trivial⟩⟩⟩⟩, [0, 1, 2], by decide, ⟨⟨_, rfl, LeAll.refl _⟩, ⟨⟨_, rfl, LeAll.refl _⟩, ⟨⟨_, rfl, LeAll.refl _⟩, trivial⟩⟩⟩⟩)
                      refine SWz.efb (i := 10) rfl (EfB.alloc (zs := [.bool false, .slice none 0 0]) (by kernel_rfl) rfl) ?_ SWz.no
                      rintro g9 _ rfl
                      refine SWz.efn (i := 8) rfl (Ef.call (con_readA hu f2) rfl ⟨Le.refl _, trivial⟩ rfl) ?_ SWz.no
                      rintro _ rfl
                      refine SWz.efe (i := 11) rfl (Ef.storeA 1 rfl rfl rfl (by kernel_rfl) rfl (List.mem_of_getElem? (i := 0) rfl)) ?_ SWz.no
                      rintro _ rfl
                      refine SWz.efe (i := 12) rfl (Ef.storeA 2 rfl rfl rfl (by kernel_rfl) rfl (List.mem_of_getElem? (i := 1) rfl)) ?_ SWz.no
                      rintro _ rfl
                      refine SWz.nil ?_
                      exact SN.meet ⟨g8, g9, rfl⟩ (⟨⟨_, rfl, ⟨⟨_, rfl, Le.refl _⟩, ⟨⟨_, rfl, Le.refl _⟩, ⟨⟨_, rfl, Le.refl _⟩, trivial⟩⟩⟩⟩, [0, 1, 2], by decide, ⟨⟨_, rfl, LeAll.refl _⟩, ⟨⟨_, rfl, LeAll.refl _⟩, ⟨⟨_, rfl, LeAll.refl _⟩, trivial⟩⟩⟩⟩)
                    refine SWz.efb (i := 10) rfl (EfB.alloc (zs := [.bool false, .slice none 0 0]) (by kernel_rfl) rfl) ?_ SWz.no
                    rintro g9 _ rfl
                    refine SWz.efn (i := 8) rfl (Ef.call (con_readA hu f2) rfl ⟨Le.refl _, trivial⟩ rfl) ?_ ?_
                    · rintro _ rfl
                      refine SWz.efb (i := 9) rfl (EfB.alloc (zs := [.bool false, .slice none 0 0]) (by kernel_rfl) rfl) ?_ SWz.no
                      rintro g8 _ rfl
                      refine SWz.efe (i := 11) rfl (Ef.storeA 2 rfl rfl rfl (by kernel_rfl) rfl (List.mem_of_getElem? (i := 1) rfl)) ?_ SWz.no
                      rintro _ rfl
                      refine SWz.efe (i := 12) rfl (Ef.storeA 1 rfl rfl rfl (by kernel_rfl) rfl (List.mem_of_getElem? (i := 0) rfl)) ?_ SWz.no
                      rintro _ rfl
                      refine SWz.nil ?_
                      exact SN.meet ⟨g8, g9, rfl⟩ (⟨⟨_, rfl, ⟨⟨_, rfl, Le.refl _⟩, ⟨⟨_, rfl, Le.refl _⟩, ⟨⟨_, rfl, Le.refl _⟩, trivial⟩⟩⟩⟩, [0, 2, 1], by decide, ⟨⟨_, rfl, LeAll.refl _⟩, ⟨⟨_, rfl, LeAll.refl _⟩, ⟨⟨_, rfl, LeAll.refl _⟩, trivial⟩⟩⟩⟩)
                    refine SWz.efb (i := 9) rfl (EfB.alloc (zs := [.bool false, .slice none 0 0]) (by kernel_rfl) rfl) ?_ SWz.no
                    rintro g8 _ rfl
                    refine SWz.efn (i := 8) rfl (Ef.call (con_readA hu f2) rfl ⟨Le.refl _, trivial⟩ rfl) ?_ SWz.no
                    rintro _ rfl
                    refine SWz.efe (i := 11) rfl (Ef.storeA 2 rfl rfl rfl (by kernel_rfl) rfl (List.mem_of_getElem? (i := 1) rfl)) ?_ SWz.no
                    rintro _ rfl
                    refine SWz.efe (i := 12) rfl (Ef.storeA 1 rfl rfl rfl (by kernel_rfl) rfl (List.mem_of_getElem? (i := 0) rfl)) ?_ SWz.no
                    rintro _ rfl
                    refine SWz.nil ?_
                    exact SN.meet ⟨g8, g9, rfl⟩ (⟨⟨_, rfl, ⟨⟨_, rfl, Le.refl _⟩, ⟨⟨_, rfl, Le.refl _⟩, ⟨⟨_, rfl, Le.refl _⟩, trivial⟩⟩⟩⟩, [0, 2, 1], by decide, ⟨⟨_, rfl, LeAll.refl _⟩, ⟨⟨_, rfl, LeAll.refl _⟩, ⟨⟨_, rfl, LeAll.refl _⟩, trivial⟩⟩⟩⟩)
                  refine SWz.efb (i := 9) rfl (EfB.alloc (zs := [.bool false, .slice none 0 0]) (by kernel_rfl) rfl) ?_ ?_
                  · rintro g8 _ rfl
                    refine SWz.efn (i := 3) rfl (Ef.call (con_readA ht f1) rfl ⟨Le.refl _, trivial⟩ rfl) ?_ ?_
                    · rintro _ rfl
                      refine SWz.efn (i := 8) rfl (Ef.call (con_readA hu f2) rfl ⟨Le.refl _, trivial⟩ rfl) ?_ ?_
                      · rintro _ rfl
                        refine SWz.efb (i := 10) rfl (EfB.alloc (zs := [.bool false, .slice none 0 0]) (by kernel_rfl) rfl) ?_ SWz.no
                        rintro g9 _ rfl
                        refine SWz.efe (i := 11) rfl (Ef.storeA 1 rfl rfl rfl (by kernel_rfl) rfl (List.mem_of_getElem? (i := 0) rfl)) ?_ SWz.no
                        rintro _ rfl
                        refine SWz.efe (i := 12) rfl (Ef.storeA 2 rfl rfl rfl (by kernel_rfl) rfl (List.mem_of_getElem? (i := 1) rfl)) ?_ SWz.no
                        rintro _ rfl
                        refine SWz.nil ?_
                        exact SN.meet ⟨g8, g9, rfl⟩ (⟨⟨_, rfl, ⟨⟨_, rfl, Le.refl _⟩, ⟨⟨_, rfl, Le.refl _⟩, ⟨⟨_, rfl, Le.refl _⟩, trivial⟩⟩⟩⟩, [0, 1, 2], by decide, ⟨⟨_, rfl, LeAll.refl _⟩, ⟨⟨_, rfl, LeAll.refl _⟩, ⟨⟨_, rfl, LeAll.refl _⟩, trivial⟩⟩⟩⟩)
                      refine SWz.efb (i := 10) rfl (EfB.alloc (zs := [.bool false, .slice none 0 0]) (by kernel_rfl) rfl) ?_ SWz.no
                      rintro g9 _ rfl
                      refine SWz.efn (i := 8) rfl (Ef.call (con_readA hu f2) rfl ⟨Le.refl _, trivial⟩ rfl) ?_ SWz.no
                      rintro _ rfl
                      refine SWz.efe (i := 11) rfl (Ef.storeA 1 rfl rfl rfl (by kernel_rfl) rfl (List.mem_of_getElem? (i := 0) rfl)) ?_ SWz.no
                      rintro _ rfl
                      refine SWz.efe (i := 12) rfl (Ef.storeA 2 rfl rfl rfl (by kernel_rfl) rfl (List.mem_of_getElem? (i := 1) rfl)) ?_ SWz.no
                      rintro _ rfl
                      refine SWz.nil ?_
                      exact SN.meet ⟨g8, g9, rfl⟩ (⟨⟨_, rfl, ⟨⟨_, rfl, Le.refl _⟩, ⟨⟨_, rfl, Le.refl _⟩, ⟨⟨_, rfl, Le.refl _⟩, trivial⟩⟩⟩⟩, [0, 1, 2], by decide, ⟨⟨_, rfl, LeAll.refl _⟩, ⟨⟨_, rfl, LeAll.refl _⟩, ⟨⟨_, rfl, LeAll.refl _⟩, trivial⟩⟩⟩⟩)
                    refine SWz.efb (i := 10) rfl (EfB.alloc (zs := [.bool false, .slice none 0 0]) (by kernel_rfl) rfl) ?_ SWz.no
                    rintro g9 _ rfl
                    refine SWz.efn (i := 3) rfl (Ef.call (con_readA ht f1) rfl ⟨Le.refl _, trivial⟩ rfl) ?_ SWz.no
                    rintro _ rfl
                    refine SWz.efn (i := 8) rfl (Ef.call (con_readA hu f2) rfl ⟨Le.refl _, trivial⟩ rfl) ?_ SWz.no
                    rintro _ rfl
                    refine SWz.efe (i := 11) rfl (Ef.storeA 1 rfl rfl rfl (by kernel_rfl) rfl (List.mem_of_getElem? (i := 0) rfl)) ?_ SWz.no
                    rintro _ rfl
                    refine SWz.efe (i := 12) rfl (Ef.storeA 2 rfl rfl rfl (by kernel_rfl) rfl (List.mem_of_getElem? (i := 1) rfl)) ?_ SWz.no
                    rintro _ rfl
                    refine SWz.nil ?_
                    exact SN.meet ⟨g8, g9, rfl⟩ (⟨⟨_, rfl, ⟨⟨_, rfl, Le.refl _⟩, ⟨⟨_, rfl, Le.refl _⟩, ⟨⟨_, rfl, Le.refl _⟩, trivial⟩⟩⟩⟩, [0, 1, 2], by decide, ⟨⟨_, rfl, LeAll.refl _⟩, ⟨⟨_, rfl, LeAll.refl _⟩, ⟨⟨_, rfl, LeAll.refl _⟩, trivial⟩⟩⟩⟩)
                  refine SWz.efb (i := 10) rfl (EfB.alloc (zs := [.bool false, .slice none 0 0]) (by kernel_rfl) rfl) ?_ SWz.no
                  rintro g9 _ rfl
                  refine SWz.efn (i := 3) rfl (Ef.call (con_readA ht f1) rfl ⟨Le.refl _, trivial⟩ rfl) ?_ ?_
                  · rintro _ rfl
                    refine SWz.efn (i := 8) rfl (Ef.call (con_readA hu f2) rfl ⟨Le.refl _, trivial⟩ rfl) ?_ ?_
                    · rintro _ rfl
                      refine SWz.efb (i := 9) rfl (EfB.alloc (zs := [.bool false, .slice none 0 0]) (by kernel_rfl) rfl) ?_ SWz.no
                      rintro g8 _ rfl
                      refine SWz.efe (i := 11) rfl (Ef.storeA 2 rfl rfl rfl (by kernel_rfl) rfl (List.mem_of_getElem? (i := 1) rfl)) ?_ SWz.no
                      rintro _ rfl
                      refine SWz.efe (i := 12) rfl (Ef.storeA 1 rfl rfl rfl (by kernel_rfl) rfl (List.mem_of_getElem? (i := 0) rfl)) ?_ SWz.no
                      rintro _ rfl
                      refine SWz.nil ?_
                      exact SN.meet ⟨g8, g9, rfl⟩ (⟨⟨_, rfl, ⟨⟨_, rfl, Le.refl _⟩, ⟨⟨_, rfl, Le.refl _⟩, ⟨⟨_, rfl, Le.refl _⟩, trivial⟩⟩⟩⟩, [0, 2, 1], by decide, ⟨⟨_, rfl, LeAll.refl _⟩, ⟨⟨_, rfl, LeAll.refl _⟩, ⟨⟨_, rfl, LeAll.refl _⟩, trivial⟩⟩⟩⟩)
                    refine SWz.efb (i := 9) rfl (EfB.alloc (zs := [.bool false, .slice none 0 0]) (by kernel_rfl) rfl) ?_ SWz.no
                    rintro g8 _ rfl
                    refine SWz.efn (i := 8) rfl (Ef.call (con_readA hu f2) rfl ⟨Le.refl _, trivial⟩ rfl) ?_ SWz.no
                    rintro _ rfl
                    refine SWz.efe (i := 11) rfl (Ef.storeA 2 rfl rfl rfl (by kernel_rfl) rfl (List.mem_of_getElem? (i := 1) rfl)) ?_ SWz.no
                    rintro _ rfl
                    refine SWz.efe (i := 12) rfl (Ef.storeA 1 rfl rfl rfl (by kernel_rfl) rfl (List.mem_of_getElem? (i := 0) rfl)) ?_ SWz.no
                    rintro _ rfl
                    refine SWz.nil ?_
                    exact SN.meet ⟨g8, g9, rfl⟩ (⟨⟨_, rfl, ⟨⟨_, rfl, Le.refl _⟩, ⟨⟨_, rfl, Le.refl _⟩, ⟨⟨_, rfl, Le.refl _⟩, trivial⟩⟩⟩⟩, [0, 2, 1], by decide, ⟨⟨_, rfl, LeAll.refl _⟩, ⟨⟨_, rfl, LeAll.refl _⟩, ⟨⟨_, rfl, LeAll.refl _⟩, trivial⟩⟩⟩⟩)
                  refine SWz.efb (i := 9) rfl (EfB.alloc (zs := [.bool false, .slice none 0 0]) (by kernel_rfl) rfl) ?_ SWz.no
                  rintro g8 _ rfl
                  refine SWz.efn (i := 3) rfl (Ef.call (con_readA ht f1) rfl ⟨Le.refl _, trivial⟩ rfl) ?_ SWz.no
                  rintro _ rfl
                  refine SWz.efn (i := 8) rfl (Ef.call (con_readA hu f2) rfl ⟨Le.refl _, trivial⟩ rfl) ?_ SWz.no
                  rintro _ rfl
                  refine SWz.efe (i := 11) rfl (Ef.storeA 2 rfl rfl rfl (by kernel_rfl) rfl (List.mem_of_getElem? (i := 1) rfl)) ?_ SWz.no
                  rintro _ rfl
                  refine SWz.efe (i := 12) rfl (Ef.storeA 1 rfl rfl rfl (by kernel_rfl) rfl (List.mem_of_getElem? (i := 0) rfl)) ?_ SWz.no
                  rintro _ rfl
                  refine SWz.nil ?_
                  exact SN.meet ⟨g8, g9, rfl⟩ (⟨⟨_, rfl, ⟨⟨_, rfl, Le.refl _⟩, ⟨⟨_, rfl, Le.refl _⟩, ⟨⟨_, rfl, Le.refl _⟩, trivial⟩⟩⟩⟩, [0, 2, 1], by decide, ⟨⟨_, rfl, LeAll.refl _⟩, ⟨⟨_, rfl, LeAll.refl _⟩, ⟨⟨_, rfl, LeAll.refl _⟩, trivial⟩⟩⟩⟩)
                · rintro _ ⟨g8, g9, rfl⟩
                  refine SN.then ?_
                  refine SW.seq ?_
                  refine SW.seq ?_
                  refine SW.region ?_
                  refine SWl.rd rfl (Rd.fieldAddr (n := 1) rfl (by kernel_rfl)) ?_
                  refine SWl.rd rfl (Rd.loadB 1 rfl rfl rfl (by kernel_rfl) trivial) ?_
                  refine SWl.rd rfl (Rd.len (e := 5) rfl (by kernel_rfl)) ?_
                  refine SWl.rd rfl (Rd.gtr rfl rfl) ?_
                  refine SWl.rd rfl (Rd.move rfl) ?_
                  refine SWl.split 88 rfl (fun hb88 => ?_) (fun hb88 => ?_)
                  · have f8 : fits [readZ t, readZ u] = false := (by have := (limE_7 (z := readZ t) (by rw [(lim_len hb88).2]; decide)).2; simp [fits, this])
                    refine SWl.off rfl rfl (hb88) rfl rfl ?_
                    refine SWl.off rfl rfl (hb88) rfl rfl ?_
                    refine SWl.off rfl rfl (hb88) rfl rfl ?_
                    refine SWl.off rfl rfl (hb88) rfl rfl ?_
                    refine SWl.rd rfl (Rd.pickY rfl (hb88) rfl) ?_
                    refine SWl.nil ?_
                    refine SN.then ?_
                    refine SW.condT rfl (rfl) ?_
                    refine SW.seq ?_
                    refine SW.region ?_
                    refine SWl.rd rfl (Rd.build rfl rfl bldR0) ?_
                    refine SWl.ef (S := [_]) (Ef.storeA 0 rfl rfl rfl (by kernel_rfl) rfl (List.mem_singleton.2 rfl)) ?_
                    rintro _ rfl
                    refine SWl.rd rfl (Rd.assign rfl) ?_
                    refine SWl.nil ?_
                    refine SN.then ?_
                    refine SW.ret (fn := Try.f63) (fun _ _ h => h) (Rs.le (Rs.two rfl (ResV.cellA 0 rfl rfl (by kernel_rfl)) (ResV.tmp rfl)) ?_)
                    obtain ⟨e1, e2, e3⟩ := s_full f6 f8
                    exact Le.tup ⟨le_rat0.trans (le_rat e1 e2), le_err e3, trivial⟩
                  · have hz1 := lim_len' hb88
                    refine SWl.rdg rfl rfl (hb88) rfl rfl (Rd.fieldAddr (n := 1) rfl (by kernel_rfl)) ?_
                    refine SWl.rdg rfl rfl (hb88) rfl rfl (Rd.loadB 2 rfl rfl rfl (by kernel_rfl) trivial) ?_
                    refine SWl.rdg rfl rfl (hb88) rfl rfl (Rd.len (e := 5) rfl (by kernel_rfl)) ?_
                    refine SWl.rdg rfl rfl (hb88) rfl rfl (Rd.gtr rfl rfl) ?_
                    refine SWl.rd rfl (Rd.pickN rfl (hb88) rfl) ?_
                    refine SWl.nil ?_
                    refine SN.then ?_
                    refine SW.cond rfl (fun hb93 => ?_) (fun hb93 => ?_)
                    · have f8 : fits [readZ t, readZ u] = false := (by have := (limE_7 (z := readZ u) (by rw [(lim_len hb93).2]; decide)).2; simp [fits, this])
                      refine SW.seq ?_
                      refine SW.region ?_
                      refine SWl.rd rfl (Rd.build rfl rfl bldR0) ?_
                      refine SWl.ef (S := [_]) (Ef.storeA 0 rfl rfl rfl (by kernel_rfl) rfl (List.mem_singleton.2 rfl)) ?_
                      rintro _ rfl
                      refine SWl.rd rfl (Rd.assign rfl) ?_
                      refine SWl.nil ?_
                      refine SN.then ?_
                      refine SW.ret (fn := Try.f63) (fun _ _ h => h) (Rs.le (Rs.two rfl (ResV.cellA 0 rfl rfl (by kernel_rfl)) (ResV.tmp rfl)) ?_)
                      obtain ⟨e1, e2, e3⟩ := s_full f6 f8
                      exact Le.tup ⟨le_rat0.trans (le_rat e1 e2), le_err e3, trivial⟩
                    · have hz2 := lim_len' hb93; have f7 : fits [readZ t, readZ u] = true := (by simp [fits, hz1, hz2])
                      refine SW.skip ?_
                      refine SN.then ?_
                      refine SW.seq ?_
                      refine SW.seq ?_
                      refine SW.region ?_
                      refine SWl.rd rfl (Rd.loadA 1 2 rfl rfl (by kernel_rfl) rfl trivial) ?_
                      refine SWl.rd rfl (Rd.loadA 2 2 rfl rfl (by kernel_rfl) rfl trivial) ?_
                      refine SWl.ef (S := []) (Ef.call (con_commonR (read_b2 ht f1) (read_b2 hu f2)) rfl ⟨Le.refl _, Le.refl _, trivial⟩ rfl) ?_
                      rintro _ rfl
                      refine SWl.ef (S := []) (Ef.call (con_ofR (by decide) (by decide)) rfl ⟨Le.refl _, trivial⟩ rfl) ?_
                      rintro _ rfl
                      refine SWl.ef (S := []) (Ef.call (con_same) rfl ⟨Le.refl _, Le.refl _, trivial⟩ rfl) ?_
                      rintro _ rfl
                      refine SWl.rd rfl (Rd.not rfl) ?_
                      refine SWl.nil ?_
                      refine SN.then ?_
                      refine SW.cond rfl (fun hb100 => ?_) (fun hb100 => ?_)
                      · have hg : ¬ Nat.gcd (readZ t).natAbs (readZ u).natAbs = 1 := (by unfold gcdZ at hb100; simp at hb100; omega)
                        refine SW.seq ?_
                        refine SW.region ?_
                        refine SWl.rd rfl (Rd.build rfl rfl bldR0) ?_
                        refine SWl.ef (S := [_]) (Ef.storeA 0 rfl rfl rfl (by kernel_rfl) rfl (List.mem_singleton.2 rfl)) ?_
                        rintro _ rfl
                        refine SWl.rd rfl (Rd.assign rfl) ?_
                        refine SWl.nil ?_
                        refine SN.then ?_
                        refine SW.ret (fn := Try.f63) (fun _ _ h => h) (Rs.le (Rs.two rfl (ResV.cellA 0 rfl rfl (by kernel_rfl)) (ResV.tmp rfl)) ?_)
                        obtain ⟨e1, e2, e3⟩ := s_gcd f6 f7 hg
                        exact Le.tup ⟨le_rat0.trans (le_rat e1 e2), le_err e3, trivial⟩
                      · have hg : Nat.gcd (readZ t).natAbs (readZ u).natAbs = 1 := (by unfold gcdZ at hb100; simp at hb100; omega)
                        refine SW.skip ?_
                        refine SN.then ?_
                        refine SW.seq ?_
                        refine SW.region ?_
                        refine SWl.rd rfl (Rd.loadA 1 2 rfl rfl (by kernel_rfl) rfl trivial) ?_
                        refine SWl.rd rfl (Rd.loadA 2 2 rfl rfl (by kernel_rfl) rfl trivial) ?_
                        refine SWl.rd rfl (Rd.build rfl rfl bldR2) ?_
                        refine SWl.ef (S := [_]) (Ef.storeA 0 rfl rfl rfl (by kernel_rfl) rfl (List.mem_singleton.2 rfl)) ?_
                        rintro _ rfl
                        refine SWl.rd rfl (Rd.assign rfl) ?_
                        refine SWl.nil ?_
                        refine SN.then ?_
                        refine SW.ret (fn := Try.f63) (fun _ _ h => h) (Rs.le (Rs.two rfl (ResV.cellA 0 rfl rfl (by kernel_rfl)) (ResV.tmp rfl)) ?_)
                        obtain ⟨e1, e2, e3⟩ := s_ok f6 f7 hg
                        exact Le.tup ⟨le_rat e1 e2, le_err e3, trivial⟩
    · have hlt : k < t.length := Nat.lt_of_le_of_ne hk (fun e => by rw [e, at_split] at hc; injection hc with hc; exact of_decide_eq_false hb19 (by rw [← hc]; rfl))
      refine SW.skip ?_
      refine SN.block ?_
      refine SN.then ?_
      refine SW.region ?_
      refine SWl.rd rfl (Rd.move rfl) ?_
      refine SWl.rd rfl (Rd.add rfl rfl ⟨by omega, by omega⟩) ?_
      refine SWl.rd rfl (Rd.assign rfl) ?_
      refine SWl.nil ?_
      exact fun a w hh => hK0 (⟨k + 1, hlt⟩) (by show t.length - (k + 1) < t.length - k; omega) a w (hh.sub (⟨⟨_, rfl, ⟨⟨_, rfl, Le.refl _⟩, ⟨⟨_, rfl, Le.refl _⟩, ⟨⟨_, rfl, Le.refl _⟩, ⟨⟨_, rfl, Le.refl _⟩, ⟨⟨_, rfl, le_err (by omega)⟩, trivial⟩⟩⟩⟩⟩⟩, [0], by decide, ⟨⟨_, rfl, LeAll.refl _⟩, trivial⟩⟩))
/-- Ratios in a row. -/
abbrev Row4 : Type := (Bool × List Nat) × (Bool × List Nat)
def rowsR : List Row4 → List D
  | [] => []
  | r :: rs => isD (.bool r.1.1) :: rawD r.1.2 :: isD (.bool r.2.1) :: rawD r.2.2 :: rowsR rs
theorem rowsR_len : ∀ rows, (rowsR rows).length = rows.length * 4
  | [] => rfl
  | r :: rs => by simp [rowsR, rowsR_len rs]; omega
theorem rowsR_drop : ∀ (rows : List Row4) (k : Nat) (h : k < rows.length), (rowsR rows).drop (k * 4) = isD (.bool rows[k].1.1) :: rawD rows[k].1.2 :: isD (.bool rows[k].2.1) :: rawD rows[k].2.2 :: rowsR (rows.drop (k + 1))
  | r :: rs, 0, _ => rfl
  | r :: rs, k + 1, h => by
    have := rowsR_drop rs k (by simpa using h)
    rw [show (k + 1) * 4 = k * 4 + 4 by omega]
    simpa [rowsR] using this
def lng (r : Row4) : Bool := decide (70 < r.1.2.length) || decide (70 < r.2.2.length)
def anyR (rows : List Row4) : Bool := rows.any lng
theorem anyR_yes {rows : List Row4} {k : Nat} (h : k < rows.length) (hb : lng rows[k] = true) : Value.bool true = .bool (anyR rows) := by
  have : anyR rows = true := by
    unfold anyR
    rw [List.any_eq_true]
    exact ⟨rows[k], List.getElem_mem h, hb⟩
  rw [this]
theorem anyR_no {rows : List Row4} {k : Nat} (hk : (rows.take k).all (fun r => !lng r) = true) (h : ¬ (k : Int) < (rows.length : Int)) : Value.bool false = .bool (anyR rows) := by
  rw [List.take_of_length_le (by omega)] at hk
  have : anyR rows = false := by
    unfold anyR
    rw [List.any_eq_false]
    intro r hr
    have := List.all_eq_true.1 hk r hr
    simpa using this
  rw [this]
theorem allR_next {rows : List Row4} {k : Nat} (h : k < rows.length) (hk : (rows.take k).all (fun r => !lng r) = true) (hb : lng rows[k] = false) : (rows.take (k + 1)).all (fun r => !lng r) = true := by
  rw [List.take_succ_eq_append_getElem h, List.all_append, hk]
  simp [hb]
theorem lng_1 {r : Row4} (h : decide (70 < ((cN .u8 r.1.2).length : Int)) = true) : lng r = true := by
  unfold lng
  simp at h ⊢
  omega
theorem lng_2 {r : Row4} (h : decide (70 < ((cN .u8 r.2.2).length : Int)) = true) : lng r = true := by
  unfold lng
  simp at h ⊢
  omega
theorem lng_no {r : Row4} (h1 : decide (70 < ((cN .u8 r.1.2).length : Int)) = false) (h2 : decide (70 < ((cN .u8 r.2.2).length : Int)) = false) : lng r = false := by
  unfold lng
  simp at h1 h2 ⊢
  omega
theorem blsR1 {d e f g : D} : Bls Try.prog 76 1 [0] [aggD [d, e, f, g]] [d, e, f, g] := ⟨54, fun L w vs h => by
  obtain ⟨u, rfl, cs, rfl, hu⟩ := all1 h
  obtain ⟨a, rfl⟩ : ∃ a : List Value, cs = a := ⟨cs, rfl⟩
  cases cs with
  | nil => exact hu.elim
  | cons a cs =>
    obtain ⟨b, c, e, rfl, h2, h3, h4⟩ := all3 hu.2
    exact ⟨[a, b, c, e], ⟨hu.1, h2, h3, h4, trivial⟩, fun w' => by kernel_rfl⟩⟩
theorem agg4 {L : List Nat} {w : World} {d e f g : D} {v : Value} (h : (aggD [d, e, f, g]).R L w v) : ∃ a b c i, v = .agg #[a, b, c, i] ∧ d.R L w a ∧ e.R L w b ∧ f.R L w c ∧ g.R L w i := by
  obtain ⟨cs, rfl, h⟩ := h
  cases cs with
  | nil => exact h.elim
  | cons a cs =>
    obtain ⟨b, c, e, rfl, h2, h3, h4⟩ := all3 h.2
    exact ⟨a, b, c, e, rfl, h.1, h2, h3, h4⟩
theorem blsR2 {d e f g i j k m : D} : Bls Try.prog 76 2 [0, 1] [aggD [d, e, f, g], aggD [i, j, k, m]] [d, e, f, g, i, j, k, m] := ⟨54, fun L w vs h => by
  obtain ⟨u, v, rfl, hu, hv⟩ := all2 h
  obtain ⟨a, b, c, x, rfl, h1, h2, h3, h4⟩ := agg4 hu
  obtain ⟨a', b', c', x', rfl, k1, k2, k3, k4⟩ := agg4 hv
  exact ⟨[a, b, c, x, a', b', c', x'], ⟨h1, h2, h3, h4, k1, k2, k3, k4, trivial⟩, fun w' => by kernel_rfl⟩⟩
theorem blsR3 {d e f g i j k m n o p q : D} : Bls Try.prog 76 3 [0, 1, 2] [aggD [d, e, f, g], aggD [i, j, k, m], aggD [n, o, p, q]] [d, e, f, g, i, j, k, m, n, o, p, q] := ⟨54, fun L w vs h => by
  obtain ⟨u, v, z, rfl, hu, hv, hz⟩ := all3 h
  obtain ⟨a, b, c, x, rfl, h1, h2, h3, h4⟩ := agg4 hu
  obtain ⟨a', b', c', x', rfl, k1, k2, k3, k4⟩ := agg4 hv
  obtain ⟨a2, b2, c2, x2, rfl, l1, l2, l3, l4⟩ := agg4 hz
  exact ⟨[a, b, c, x, a', b', c', x', a2, b2, c2, x2], ⟨h1, h2, h3, h4, k1, k2, k3, k4, l1, l2, l3, l4, trivial⟩, fun w' => by kernel_rfl⟩⟩
set_option maxHeartbeats 4000000 in
set_option maxRecDepth 100000 in
theorem con_bigQ (rows : List Row4) (hr : rows.length ≤ 1000) : Con Try.prog 58 [rwD rows.length (rowsR rows)] (boolD (anyR rows)) := by
  refine con_of Try.func58 (by kernel_rfl) rfl (by kernel_rfl) fun base w0 => ?_
  refine SW.seq ?_
  refine SW.region ?_
  refine SWl.rd rfl (Rd.assign rfl) ?_
  refine SWl.nil ?_
  refine SN.then ?_
  refine SW.seq ?_
  refine SW.seq ?_
  refine SW.region ?_
  refine SWl.rd rfl (Rd.assign rfl) ?_
  refine SWl.nil ?_
  refine SN.then ?_
  refine SW.block ?_
  refine SW.loop (ι := {k : Nat // k ≤ rows.length ∧ (rows.take k).all (fun r => !lng r) = true}) (fun ⟨k, hk⟩ => St.of [(0, rwD rows.length (rowsR rows)), (3, errD (k : Int))] []) (fun ⟨k, hk⟩ => rows.length - k) (⟨0, Nat.zero_le _, by simp⟩) ?_ ?_
  · exact ⟨⟨_, rfl, ⟨⟨_, rfl, Le.refl _⟩, ⟨⟨_, rfl, Le.refl _⟩, trivial⟩⟩⟩, [], by decide, trivial⟩
  · rintro ⟨k, hk⟩ K0 hK0
    refine SW.seq ?_
    refine SW.seq ?_
    refine SW.region ?_
    refine SWl.rd rfl (Rd.move rfl) ?_
    refine SWl.rd rfl (Rd.move rfl) ?_
    refine SWl.rd rfl (Rd.lenR (e := 54) rfl (by kernel_rfl)) ?_
    refine SWl.rd rfl (Rd.lss rfl rfl) ?_
    refine SWl.nil ?_
    refine SN.then ?_
    refine SW.cond rfl (fun hb7 => ?_) (fun hb7 => ?_)
    · have hltI : (k : Int) < (rows.length : Int) := of_decide_eq_true hb7; have hlt : k < rows.length := by omega
      refine SW.skip ?_
      refine SN.then ?_
      refine SW.seq ?_
      refine SW.block ?_
      refine SW.seq ?_
      refine SW.region ?_
      refine SWl.rd rfl (Rd.move rfl) ?_
      refine SWl.rd rfl (Rd.move rfl) ?_
      refine SWl.rd rfl (Rd.idxR (e := 54) 4 rfl rfl (by kernel_rfl) (by kernel_rfl) (by omega) (by assumption) (by rw [rowsR_len]; omega)) ?_
      refine SWl.weak 12 rfl (le_pa (rowsR_drop rows k hlt)) ?_
      refine SWl.rd rfl (Rd.fieldR (n := 0) rfl (by kernel_rfl) (by simp)) ?_
      refine SWl.rd rfl (Rd.fieldR (n := 1) rfl (by kernel_rfl) (by simp)) ?_
      refine SWl.rd rfl (Rd.loadR rfl rfl (by kernel_rfl) (by simp)) ?_
      refine SWl.rd rfl (Rd.len (e := 5) rfl (by kernel_rfl)) ?_
      refine SWl.rd rfl (Rd.gtr rfl rfl) ?_
      refine SWl.rd rfl (Rd.move rfl) ?_
      refine SWl.split 18 rfl (fun hb18 => ?_) (fun hb18 => ?_)
      · skip
        refine SWl.off rfl rfl (hb18) rfl rfl ?_
        refine SWl.off rfl rfl (hb18) rfl rfl ?_
        refine SWl.off rfl rfl (hb18) rfl rfl ?_
        refine SWl.off rfl rfl (hb18) rfl rfl ?_
        refine SWl.off rfl rfl (hb18) rfl rfl ?_
        refine SWl.off rfl rfl (hb18) rfl rfl ?_
        refine SWl.off rfl rfl (hb18) rfl rfl ?_
        refine SWl.off rfl rfl (hb18) rfl rfl ?_
        refine SWl.rd rfl (Rd.pickY rfl (hb18) rfl) ?_
        refine SWl.nil ?_
        refine SN.then ?_
        refine SW.condT rfl (rfl) ?_
        refine SW.seq ?_
        refine SW.region ?_
        refine SWl.rd rfl (Rd.assign rfl) ?_
        refine SWl.nil ?_
        refine SN.then ?_
        refine SW.ret (fn := Try.f58) (fun _ _ h => h) (Rs.le (Rs.one rfl (ResV.tmp rfl)) ?_)
        exact Le.is (anyR_yes hlt (lng_1 hb18))
      · skip
        refine SWl.rdg rfl rfl (hb18) rfl rfl (Rd.move rfl) ?_
        refine SWl.rdg rfl rfl (hb18) rfl rfl (Rd.move rfl) ?_
        refine SWl.rdg rfl rfl (hb18) rfl rfl (Rd.idxR (e := 54) 4 rfl rfl (by kernel_rfl) (by kernel_rfl) (by omega) (by assumption) (by rw [rowsR_len]; omega)) ?_
        refine SWl.weak 21 rfl (le_pa (rowsR_drop rows k hlt)) ?_
        refine SWl.rdg rfl rfl (hb18) rfl rfl (Rd.fieldR (n := 2) rfl (by kernel_rfl) (by simp)) ?_
        refine SWl.rdg rfl rfl (hb18) rfl rfl (Rd.fieldR (n := 1) rfl (by kernel_rfl) (by simp)) ?_
        refine SWl.rdg rfl rfl (hb18) rfl rfl (Rd.loadR rfl rfl (by kernel_rfl) (by simp)) ?_
        refine SWl.rdg rfl rfl (hb18) rfl rfl (Rd.len (e := 5) rfl (by kernel_rfl)) ?_
        refine SWl.rdg rfl rfl (hb18) rfl rfl (Rd.gtr rfl rfl) ?_
        refine SWl.rd rfl (Rd.pickN rfl (hb18) rfl) ?_
        refine SWl.nil ?_
        refine SN.then ?_
        refine SW.cond rfl (fun hb27 => ?_) (fun hb27 => ?_)
        · skip
          refine SW.seq ?_
          refine SW.region ?_
          refine SWl.rd rfl (Rd.assign rfl) ?_
          refine SWl.nil ?_
          refine SN.then ?_
          refine SW.ret (fn := Try.f58) (fun _ _ h => h) (Rs.le (Rs.one rfl (ResV.tmp rfl)) ?_)
          exact Le.is (anyR_yes hlt (lng_2 hb27))
        · skip
          refine SW.skip ?_
          refine SN.block ?_
          refine SN.then ?_
          refine SW.region ?_
          refine SWl.rd rfl (Rd.move rfl) ?_
          refine SWl.rd rfl (Rd.add rfl rfl ⟨by omega, by omega⟩) ?_
          refine SWl.rd rfl (Rd.assign rfl) ?_
          refine SWl.nil ?_
          exact fun a w hh => hK0 (⟨k + 1, by omega, allR_next hlt hk.2 (lng_no hb18 hb27)⟩) (by show rows.length - (k + 1) < rows.length - k; omega) a w (hh.sub (⟨⟨_, rfl, ⟨⟨_, rfl, Le.refl _⟩, ⟨⟨_, rfl, le_err (by omega)⟩, trivial⟩⟩⟩, [], by decide, trivial⟩))
    · have hge : ¬ (k : Int) < (rows.length : Int) := of_decide_eq_false hb7
      refine SW.exit' ?_
      repeat (first | refine SE.then ?_ | refine SE.skip (by decide) ?_)
      refine SE.here ?_
      refine SN.then ?_
      refine SW.seq ?_
      refine SW.region ?_
      refine SWl.rd rfl (Rd.assign rfl) ?_
      refine SWl.nil ?_
      refine SN.then ?_
      refine SW.ret (fn := Try.f58) (fun _ _ h => h) (Rs.le (Rs.one rfl (ResV.tmp rfl)) ?_)
      exact Le.is (anyR_no hk.2 hge)
end Sx
end Go.Proofs.Ytddfphneidcibaa
