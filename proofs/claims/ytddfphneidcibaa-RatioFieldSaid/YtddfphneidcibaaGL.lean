/-
  THE WALKS of the laws' big and of calls with Ints that are not valid.
  THE WALKS of the reference's Limited, of the laws' same and of further calls with Ints that are not valid.
-/
import Derived.Test.YtddfphneidcibaaGK
import Derived.Test.YtddfphneidcibaaGS
namespace Go.Proofs.Ytddfphneidcibaa
open Go.RowKit
open Nm (W32)
namespace Sx
/-- The zero Int; an Int's parts; slices of Ints. -/
theorem bldI0 : Bld Try.prog 24 [] [] [isD (.bool false), isD (.slice none 0 0)] := fun L w vs h => by
  obtain rfl := all0 h
  exact ⟨[.bool false, .slice none 0 0], ⟨rfl, rfl, trivial⟩, fun w' => by kernel_rfl⟩
theorem agg2 {L : List Nat} {w : World} {d e : D} {v : Value} (h : (aggD [d, e]).R L w v) : ∃ a b, v = .agg #[a, b] ∧ d.R L w a ∧ e.R L w b := by
  obtain ⟨cs, rfl, h⟩ := h
  obtain ⟨a, b, rfl, h1, h2⟩ := all2 h
  exact ⟨a, b, rfl, h1, h2⟩
theorem blsI2 {d e f g : D} : Bls Try.prog 87 2 [0, 1] [aggD [d, e], aggD [f, g]] [d, e, f, g] := ⟨24, fun L w vs h => by
  obtain ⟨u, v, rfl, hu, hv⟩ := all2 h
  obtain ⟨a, b, rfl, h1, h2⟩ := agg2 hu
  obtain ⟨a', b', rfl, h3, h4⟩ := agg2 hv
  exact ⟨[a, b, a', b'], ⟨h1, h2, h3, h4, trivial⟩, fun w' => by kernel_rfl⟩⟩
def rowsC : List (Bool × List Nat) → List D
  | [] => []
  | r :: rs => isD (.bool r.1) :: rawD r.2 :: rowsC rs
theorem rowsC_len : ∀ rows, (rowsC rows).length = rows.length * 2
  | [] => rfl
  | r :: rs => by simp [rowsC, rowsC_len rs]; omega
theorem rowsC_drop : ∀ (rows : List (Bool × List Nat)) (k : Nat) (h : k < rows.length), (rowsC rows).drop (k * 2) = isD (.bool rows[k].1) :: rawD rows[k].2 :: rowsC (rows.drop (k + 1))
  | r :: rs, 0, _ => rfl
  | r :: rs, k + 1, h => by
    have := rowsC_drop rs k (by simpa using h)
    rw [show (k + 1) * 2 = k * 2 + 2 by omega]
    simpa [rowsC] using this
theorem le_pa {ds es : List D} (h : ds = es) : Le (paD ds) (paD es) := by subst h; exact Le.refl _
set_option maxHeartbeats 4000000 in
set_option maxRecDepth 100000 in
theorem con_gcdB {s t : Bool} {b c : List Nat} (h : (vld s b && vld t c) = false) : Con Try.prog 36 [rintD s b, rintD t c] (tupD [intD 0, errD 2]) := by
  refine con_of Try.func36 (by kernel_rfl) rfl (by kernel_rfl) fun base w0 => ?_
  refine SW.seq ?_
  refine SW.region ?_
  refine SWl.ef (S := []) (Ef.boxA rfl rfl) ?_
  rintro _ ⟨g2, rfl⟩
  refine SWl.ef (S := []) (Ef.boxA rfl rfl) ?_
  rintro _ ⟨g3, rfl⟩
  refine SWl.ef (S := []) (Ef.alloc (zs := [.bool false, .slice none 0 0]) (by kernel_rfl) rfl) ?_
  rintro _ ⟨g4, rfl⟩
  refine SWl.rd rfl (Rd.assign rfl) ?_
  refine SWl.nil ?_
  refine SN.then ?_
  refine SW.seq ?_
  refine SW.seq ?_
  refine SW.region ?_
  refine SWl.rd rfl (Rd.loadA 0 2 rfl rfl (by kernel_rfl) rfl trivial) ?_
  refine SWl.ef (S := []) (Ef.call (con_validB _ _) rfl ⟨Le.refl _, trivial⟩ rfl) ?_
  rintro _ rfl
  refine SWl.rd rfl (Rd.not rfl) ?_
  refine SWl.rd rfl (Rd.move rfl) ?_
  refine SWl.split 13 rfl (fun hb13 => ?_) (fun hb13 => ?_)
  · skip
    refine SWl.off rfl rfl (hb13) rfl rfl ?_
    refine SWl.off rfl rfl (hb13) rfl rfl ?_
    refine SWl.off rfl rfl (hb13) rfl rfl ?_
    refine SWl.rd rfl (Rd.pickY rfl (hb13) rfl) ?_
    refine SWl.nil ?_
    refine SN.then ?_
    refine SW.condT rfl (rfl) ?_
    refine SW.seq ?_
    refine SW.region ?_
    refine SWl.rd rfl (Rd.build rfl rfl bldI0) ?_
    refine SWl.ef (S := [_]) (Ef.storeA 2 rfl rfl rfl (by kernel_rfl) rfl (List.mem_singleton.2 rfl)) ?_
    rintro _ rfl
    refine SWl.rd rfl (Rd.assign rfl) ?_
    refine SWl.nil ?_
    refine SN.then ?_
    refine SW.ret (fn := Try.f36) (fun _ _ h => h) (Rs.le (Rs.two rfl (ResV.cellA 2 rfl rfl (by kernel_rfl)) (ResV.tmp rfl)) ?_)
    exact Le.tup ⟨le_int0, Le.refl _, trivial⟩
  · skip
    refine SWl.rdg rfl rfl (hb13) rfl rfl (Rd.loadA 1 2 rfl rfl (by kernel_rfl) rfl trivial) ?_
    refine SWl.efg (S := []) rfl rfl (hb13) rfl (Ef.call (con_validB _ _) rfl ⟨Le.refl _, trivial⟩ rfl) ?_
    rintro _ rfl
    refine SWl.rdg rfl rfl (hb13) rfl rfl (Rd.not rfl) ?_
    refine SWl.rd rfl (Rd.pickN rfl (hb13) rfl) ?_
    refine SWl.nil ?_
    refine SN.then ?_
    refine SW.cond rfl (fun hb17 => ?_) (fun hb17 => ?_)
    · skip
      refine SW.seq ?_
      refine SW.region ?_
      refine SWl.rd rfl (Rd.build rfl rfl bldI0) ?_
      refine SWl.ef (S := [_]) (Ef.storeA 2 rfl rfl rfl (by kernel_rfl) rfl (List.mem_singleton.2 rfl)) ?_
      rintro _ rfl
      refine SWl.rd rfl (Rd.assign rfl) ?_
      refine SWl.nil ?_
      refine SN.then ?_
      refine SW.ret (fn := Try.f36) (fun _ _ h => h) (Rs.le (Rs.two rfl (ResV.cellA 2 rfl rfl (by kernel_rfl)) (ResV.tmp rfl)) ?_)
      exact Le.tup ⟨le_int0, Le.refl _, trivial⟩
    · exact absurd h (by simp_all)
end Sx
end Go.Proofs.Ytddfphneidcibaa
namespace Go.Proofs.Ytddfphneidcibaa
open Go.RowKit
open Nm (W32)
namespace Sx
theorem lim_len {x : Int} (h : decide (64 < ((cN .u8 (Nm.dg 256 x.natAbs).reverse).length : Int)) = true) : limZ x = 0 ∧ limE x = 7 := by
  refine lim_no fun hlt => ?_
  have h1 := (Nm.len_le (B := 256) (by decide) 64 x.natAbs).2 hlt
  simp [Nm.dg_length] at h
  omega
theorem lim_len' {x : Int} (h : decide (64 < ((cN .u8 (Nm.dg 256 x.natAbs).reverse).length : Int)) = false) : x.natAbs < big512 := by
  refine (Nm.len_le (B := 256) (by decide) 64 x.natAbs).1 ?_
  simp [Nm.dg_length] at h
  omega
theorem bytes_len {x : Int} {k : Nat} (h : x.natAbs < 256 ^ k) : (Nm.dg 256 x.natAbs).reverse.length ≤ k := by
  rw [List.length_reverse, Nm.dg_length]
  exact (Nm.len_le (B := 256) (by decide) k x.natAbs).2 h
theorem vld_int {x : Int} (hx : x.natAbs < big512) : vld (decide (x < 0)) (Nm.dg 256 x.natAbs).reverse = true := by
  have hl := bytes_len (x := x) (k := 64) hx
  unfold vld
  by_cases h0 : x = 0
  · subst h0
    rw [show (0 : Int).natAbs = 0 from rfl, Nm.dg_zero]
    rfl
  · have hne : x.natAbs ≠ 0 := by omega
    have hlen : ((Nm.dg 256 x.natAbs).reverse).length = Nm.len 256 x.natAbs := by rw [List.length_reverse, Nm.dg_length]
    have hpos : 0 < Nm.len 256 x.natAbs := by
      rcases Nat.eq_zero_or_pos (Nm.len 256 x.natAbs) with h | h
      · exact absurd ((Nm.len_eq_zero (B := 256) (by decide)).1 h) hne
      · exact h
    rw [if_neg (by omega)]
    have htop : ((Nm.dg 256 x.natAbs).reverse).getD 0 0 ≠ 0 := by
      obtain ⟨k, hk⟩ : ∃ k, Nm.len 256 x.natAbs = k + 1 := ⟨Nm.len 256 x.natAbs - 1, by omega⟩
      rw [rev_getD (i := k) (r := 0) (by rw [Nm.dg_length]; omega), Nm.dg_getD (by decide)]
      intro h
      have h1 := Nm.top_zero (B := 256) (X := x.natAbs) (k := k) (by decide) (by rw [← hk]; exact Nm.lt_pow_len (by decide) _) h
      have h2 := (Nm.len_le (B := 256) (by decide) k _).2 h1
      omega
    rw [decide_eq_true hl, decide_eq_true htop]
    rfl
theorem con_validRT {x : Int} (hx : x.natAbs < big512) : Con Try.prog 25 [intD x] (boolD true) := (con_validR _ _).mono ⟨Le.refl _, trivial⟩ (Le.is (by rw [vld_int hx]))
theorem con_validRF {s : Bool} {b : List Nat} (h : vld s b = false) : Con Try.prog 25 [rintD s b] (boolD false) := (con_validR _ _).mono ⟨Le.refl _, trivial⟩ (Le.is (by rw [h]))
theorem le_v {p q : Value} (h : p = q) : Le (isD p) (isD q) := Le.is h
theorem leC_int {x y : Int} (h : x = y) : LeAll (intC x) (intC y) := by subst h; exact LeAll.refl _
set_option maxHeartbeats 4000000 in
set_option maxRecDepth 100000 in
theorem con_limitedR (x : Int) : Con Try.prog 33 [intD x] (tupD [intD (limZ x), errD (limE x)]) := by
  refine con_of Try.func33 (by kernel_rfl) rfl (by kernel_rfl) fun base w0 => ?_
  refine SW.seq ?_
  refine SW.region ?_
  refine SWl.ef (S := []) (Ef.boxA rfl rfl) ?_
  rintro _ ⟨g1, rfl⟩
  refine SWl.ef (S := []) (Ef.alloc (zs := [.bool false, .slice none 0 0]) (by kernel_rfl) rfl) ?_
  rintro _ ⟨g2, rfl⟩
  refine SWl.rd rfl (Rd.assign rfl) ?_
  refine SWl.nil ?_
  refine SN.then ?_
  refine SW.seq ?_
  refine SW.seq ?_
  refine SW.region ?_
  refine SWl.rd rfl (Rd.fieldAddr (n := 1) rfl (by kernel_rfl)) ?_
  refine SWl.rd rfl (Rd.loadB 0 rfl rfl rfl (by kernel_rfl) trivial) ?_
  refine SWl.rd rfl (Rd.len (e := 5) rfl (by kernel_rfl)) ?_
  refine SWl.rd rfl (Rd.gtr rfl rfl) ?_
  refine SWl.nil ?_
  refine SN.then ?_
  refine SW.cond rfl (fun hb7 => ?_) (fun hb7 => ?_)
  · obtain ⟨e1, e2⟩ := lim_len hb7
    refine SW.seq ?_
    refine SW.region ?_
    refine SWl.rd rfl (Rd.build rfl rfl bldI0) ?_
    refine SWl.ef (S := [_]) (Ef.storeA 1 rfl rfl rfl (by kernel_rfl) rfl (List.mem_singleton.2 rfl)) ?_
    rintro _ rfl
    refine SWl.rd rfl (Rd.assign rfl) ?_
    refine SWl.nil ?_
    refine SN.then ?_
    refine SW.ret (fn := Try.f33) (fun _ _ h => h) (Rs.le (Rs.two rfl (ResV.cellA 1 rfl rfl (by kernel_rfl)) (ResV.tmp rfl)) ?_)
    rw [e1, e2]
    exact Le.tup ⟨le_int0, Le.refl _, trivial⟩
  · obtain ⟨e1, e2⟩ := lim_ok (lim_len' hb7)
    refine SW.skip ?_
    refine SN.then ?_
    refine SW.seq ?_
    refine SW.region ?_
    refine SWl.rd rfl (Rd.loadA 0 2 rfl rfl (by kernel_rfl) rfl trivial) ?_
    refine SWl.ef (S := [_]) (Ef.storeA 1 rfl rfl rfl (by kernel_rfl) rfl (List.mem_singleton.2 rfl)) ?_
    rintro _ rfl
    refine SWl.rd rfl (Rd.assign rfl) ?_
    refine SWl.nil ?_
    refine SN.then ?_
    refine SW.ret (fn := Try.f33) (fun _ _ h => h) (Rs.le (Rs.two rfl (ResV.cellA 1 rfl rfl (by kernel_rfl)) (ResV.tmp rfl)) ?_)
    rw [e1, e2]
    exact Le.refl _
set_option maxHeartbeats 4000000 in
set_option maxRecDepth 100000 in
theorem con_signB {s : Bool} {b : List Nat} (h : vld s b = false) : Con Try.prog 41 [rintD s b] (errD 0) := by
  refine con_of Try.func41 (by kernel_rfl) rfl (by kernel_rfl) fun base w0 => ?_
  refine SW.seq ?_
  refine SW.region ?_
  refine SWl.ef (S := []) (Ef.boxA rfl rfl) ?_
  rintro _ ⟨g1, rfl⟩
  refine SWl.rd rfl (Rd.assign rfl) ?_
  refine SWl.nil ?_
  refine SN.then ?_
  refine SW.seq ?_
  refine SW.block ?_
  refine SW.seq ?_
  refine SW.region ?_
  refine SWl.rd rfl (Rd.loadA 0 2 rfl rfl (by kernel_rfl) rfl trivial) ?_
  refine SWl.ef (S := []) (Ef.call (con_validB _ _) rfl ⟨Le.refl _, trivial⟩ rfl) ?_
  rintro _ rfl
  refine SWl.rd rfl (Rd.not rfl) ?_
  refine SWl.rd rfl (Rd.move rfl) ?_
  refine SWl.off rfl rfl (by simp [h]) rfl rfl ?_
  refine SWl.off rfl rfl (by simp [h]) rfl rfl ?_
  refine SWl.off rfl rfl (by simp [h]) rfl rfl ?_
  refine SWl.off rfl rfl (by simp [h]) rfl rfl ?_
  refine SWl.rd rfl (Rd.pickY rfl (by simp [h]) rfl) ?_
  refine SWl.rd rfl (Rd.assign rfl) ?_
  refine SWl.nil ?_
  refine SN.then ?_
  refine SW.condT rfl (rfl) ?_
  refine SW.seq ?_
  refine SW.region ?_
  refine SWl.rd rfl (Rd.assign rfl) ?_
  refine SWl.nil ?_
  refine SN.then ?_
  refine SW.ret (fn := Try.f41) (fun _ _ h => h) (Rs.le (Rs.one rfl (ResV.tmp rfl)) ?_)
  exact Le.refl _
end Sx
end Go.Proofs.Ytddfphneidcibaa
