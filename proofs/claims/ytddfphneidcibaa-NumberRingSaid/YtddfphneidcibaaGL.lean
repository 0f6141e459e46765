/-
  THE WALKS of the laws' big and of calls with Ints that are not valid.
  THE WALKS of the reference's Limited, of the laws' same and of further calls with Ints that are not valid.
-/
import Derived.Test.YtddfphneidcibaaGK
import Derived.Test.YtddfphneidcibaaGS
namespace Go.Proofs.Ytddfphneidcibaa
open Go.RowKit
open Nm (W32)
namespace Sx
/-- The zero Int; an Int's parts; slices of Ints. -/
theorem bldI0 : Bld Try.prog 24 [] [] [isD (.bool false), isD (.slice none 0 0)] := fun L w vs h => by
  obtain rfl := all0 h
  exact ⟨[.bool false, .slice none 0 0], ⟨rfl, rfl, trivial⟩, fun w' => by kernel_rfl⟩
theorem bldI1 {xs : List Value} : Bld Try.prog 24 [1] [slD xs] [isD (.bool false), slD xs] := fun L w vs h => by
  obtain ⟨u, rfl, hu⟩ := all1 h
  have hu' := hu
  obtain ⟨A, c, rfl, -⟩ := hu
  exact ⟨[.bool false, .slice A xs.length c], ⟨rfl, hu', trivial⟩, fun w' => by kernel_rfl⟩
theorem agg2 {L : List Nat} {w : World} {d e : D} {v : Value} (h : (aggD [d, e]).R L w v) : ∃ a b, v = .agg #[a, b] ∧ d.R L w a ∧ e.R L w b := by
  obtain ⟨cs, rfl, h⟩ := h
  obtain ⟨a, b, rfl, h1, h2⟩ := all2 h
  exact ⟨a, b, rfl, h1, h2⟩
theorem blsI1 {d e : D} : Bls Try.prog 87 1 [0] [aggD [d, e]] [d, e] := ⟨24, fun L w vs h => by
  obtain ⟨u, rfl, hu⟩ := all1 h
  obtain ⟨a, b, rfl, h1, h2⟩ := agg2 hu
  exact ⟨[a, b], ⟨h1, h2, trivial⟩, fun w' => by kernel_rfl⟩⟩
theorem blsI2 {d e f g : D} : Bls Try.prog 87 2 [0, 1] [aggD [d, e], aggD [f, g]] [d, e, f, g] := ⟨24, fun L w vs h => by
  obtain ⟨u, v, rfl, hu, hv⟩ := all2 h
  obtain ⟨a, b, rfl, h1, h2⟩ := agg2 hu
  obtain ⟨a', b', rfl, h3, h4⟩ := agg2 hv
  exact ⟨[a, b, a', b'], ⟨h1, h2, h3, h4, trivial⟩, fun w' => by kernel_rfl⟩⟩
def rowsC : List (Bool × List Nat) → List D
  | [] => []
  | r :: rs => isD (.bool r.1) :: rawD r.2 :: rowsC rs
theorem rowsC_len : ∀ rows, (rowsC rows).length = rows.length * 2
  | [] => rfl
  | r :: rs => by simp [rowsC, rowsC_len rs]; omega
theorem rowsC_drop : ∀ (rows : List (Bool × List Nat)) (k : Nat) (h : k < rows.length), (rowsC rows).drop (k * 2) = isD (.bool rows[k].1) :: rawD rows[k].2 :: rowsC (rows.drop (k + 1))
  | r :: rs, 0, _ => rfl
  | r :: rs, k + 1, h => by
    have := rowsC_drop rs k (by simpa using h)
    rw [show (k + 1) * 2 = k * 2 + 2 by omega]
    simpa [rowsC] using this
theorem le_pa {ds es : List D} (h : ds = es) : Le (paD ds) (paD es) := by subst h; exact Le.refl _
def anyB (rows : List (Bool × List Nat)) : Bool := rows.any fun r => decide (80 < r.2.length)
theorem anyB_yes {rows : List (Bool × List Nat)} {k : Nat} (h : k < rows.length) (hb : decide (80 < ((cN .u8 rows[k].2).length : Int)) = true) : Value.bool true = .bool (anyB rows) := by
  have : anyB rows = true := by
    unfold anyB
    rw [List.any_eq_true]
    refine ⟨rows[k], List.getElem_mem h, ?_⟩
    simp at hb ⊢
    omega
  rw [this]
theorem anyB_no {rows : List (Bool × List Nat)} {k : Nat} (hk : (rows.take k).all (fun r => decide (r.2.length ≤ 80)) = true) (h : ¬ (k : Int) < (rows.length : Int)) : Value.bool false = .bool (anyB rows) := by
  rw [List.take_of_length_le (by omega)] at hk
  have : anyB rows = false := by
    unfold anyB
    rw [List.any_eq_false]
    intro r hr
    have := List.all_eq_true.1 hk r hr
    simp at this ⊢
    exact this
  rw [this]
theorem all_next {rows : List (Bool × List Nat)} {k : Nat} (h : k < rows.length) (hk : (rows.take k).all (fun r => decide (r.2.length ≤ 80)) = true) (hb : decide (80 < ((cN .u8 rows[k].2).length : Int)) = false) : (rows.take (k + 1)).all (fun r => decide (r.2.length ≤ 80)) = true := by
  rw [List.take_succ_eq_append_getElem h, List.all_append, hk]
  simp at hb ⊢
  omega
set_option maxHeartbeats 4000000 in
set_option maxRecDepth 100000 in
theorem con_big (rows : List (Bool × List Nat)) (hr : rows.length ≤ 1000) : Con Try.prog 23 [rwD rows.length (rowsC rows)] (boolD (anyB rows)) := by
  refine con_of Try.func23 (by kernel_rfl) rfl (by kernel_rfl) fun base w0 => ?_
  refine SW.seq ?_
  refine SW.region ?_
  refine SWl.rd rfl (Rd.assign rfl) ?_
  refine SWl.nil ?_
  refine SN.then ?_
  refine SW.seq ?_
  refine SW.seq ?_
  refine SW.region ?_
  refine SWl.rd rfl (Rd.assign rfl) ?_
  refine SWl.nil ?_
  refine SN.then ?_
  refine SW.block ?_
  refine SW.loop (ι := {k : Nat // k ≤ rows.length ∧ (rows.take k).all (fun r => decide (r.2.length ≤ 80)) = true}) (fun ⟨k, hk⟩ => St.of [(0, rwD rows.length (rowsC rows)), (3, errD (k : Int))] []) (fun ⟨k, hk⟩ => rows.length - k) (⟨0, Nat.zero_le _, by simp⟩) ?_ ?_
  · exact ⟨⟨_, rfl, ⟨⟨_, rfl, Le.refl _⟩, ⟨⟨_, rfl, Le.refl _⟩, trivial⟩⟩⟩, [], by decide, trivial⟩
  · rintro ⟨k, hk⟩ K0 hK0
    refine SW.seq ?_
    refine SW.seq ?_
    refine SW.region ?_
    refine SWl.rd rfl (Rd.move rfl) ?_
    refine SWl.rd rfl (Rd.move rfl) ?_
    refine SWl.rd rfl (Rd.lenR (e := 24) rfl (by kernel_rfl)) ?_
    refine SWl.rd rfl (Rd.lss rfl rfl) ?_
    refine SWl.nil ?_
    refine SN.then ?_
    refine SW.cond rfl (fun hb7 => ?_) (fun hb7 => ?_)
    · have hltI : (k : Int) < (rows.length : Int) := of_decide_eq_true hb7; have hlt : k < rows.length := by omega
      refine SW.skip ?_
      refine SN.then ?_
      refine SW.seq ?_
      refine SW.block ?_
      refine SW.seq ?_
      refine SW.region ?_
      refine SWl.rd rfl (Rd.move rfl) ?_
      refine SWl.rd rfl (Rd.move rfl) ?_
      refine SWl.rd rfl (Rd.idxR (e := 24) 2 rfl rfl (by kernel_rfl) (by kernel_rfl) (by omega) (by assumption) (by rw [rowsC_len]; omega)) ?_
      refine SWl.weak 12 rfl (le_pa (rowsC_drop rows k hlt)) ?_
      refine SWl.rd rfl (Rd.fieldR (n := 1) rfl (by kernel_rfl) (by simp)) ?_
      refine SWl.rd rfl (Rd.loadR rfl rfl (by kernel_rfl) (by simp)) ?_
      refine SWl.rd rfl (Rd.len (e := 5) rfl (by kernel_rfl)) ?_
      refine SWl.rd rfl (Rd.gtr rfl rfl) ?_
      refine SWl.nil ?_
      refine SN.then ?_
      refine SW.cond rfl (fun hb16 => ?_) (fun hb16 => ?_)
      · skip
        refine SW.seq ?_
        refine SW.region ?_
        refine SWl.rd rfl (Rd.assign rfl) ?_
        refine SWl.nil ?_
        refine SN.then ?_
        refine SW.ret (fn := Try.f23) (fun _ _ h => h) (Rs.le (Rs.one rfl (ResV.tmp rfl)) ?_)
        exact Le.is (anyB_yes hlt hb16)
      · skip
        refine SW.skip ?_
        refine SN.block ?_
        refine SN.then ?_
        refine SW.region ?_
        refine SWl.rd rfl (Rd.move rfl) ?_
        refine SWl.rd rfl (Rd.add rfl rfl ⟨by omega, by omega⟩) ?_
        refine SWl.rd rfl (Rd.assign rfl) ?_
        refine SWl.nil ?_
        exact fun a w hh => hK0 (⟨k + 1, by omega, all_next hlt hk.2 hb16⟩) (by show rows.length - (k + 1) < rows.length - k; omega) a w (hh.sub (⟨⟨_, rfl, ⟨⟨_, rfl, Le.refl _⟩, ⟨⟨_, rfl, le_err (by omega)⟩, trivial⟩⟩⟩, [], by decide, trivial⟩))
    · have hge : ¬ (k : Int) < (rows.length : Int) := of_decide_eq_false hb7
      refine SW.exit' ?_
      repeat (first | refine SE.then ?_ | refine SE.skip (by decide) ?_)
      refine SE.here ?_
      refine SN.then ?_
      refine SW.seq ?_
      refine SW.region ?_
      refine SWl.rd rfl (Rd.assign rfl) ?_
      refine SWl.nil ?_
      refine SN.then ?_
      refine SW.ret (fn := Try.f23) (fun _ _ h => h) (Rs.le (Rs.one rfl (ResV.tmp rfl)) ?_)
      exact Le.is (anyB_no hk.2 hge)
set_option maxHeartbeats 4000000 in
set_option maxRecDepth 100000 in
theorem con_addB {s t : Bool} {b c : List Nat} (h : (vld s b && vld t c) = false) : Con Try.prog 44 [rintD s b, rintD t c] (tupD [intD 0, errD 2]) := by
  refine con_of Try.func44 (by kernel_rfl) rfl (by kernel_rfl) fun base w0 => ?_
  refine SW.seq ?_
  refine SW.region ?_
  refine SWl.ef (S := []) (Ef.boxA rfl rfl) ?_
  rintro _ ⟨g2, rfl⟩
  refine SWl.ef (S := []) (Ef.boxA rfl rfl) ?_
  rintro _ ⟨g3, rfl⟩
  refine SWl.ef (S := []) (Ef.alloc (zs := [.bool false, .slice none 0 0]) (by kernel_rfl) rfl) ?_
  rintro _ ⟨g4, rfl⟩
  refine SWl.rd rfl (Rd.assign rfl) ?_
  refine SWl.nil ?_
  refine SN.then ?_
  refine SW.seq ?_
  refine SW.seq ?_
  refine SW.region ?_
  refine SWl.rd rfl (Rd.loadA 0 2 rfl rfl (by kernel_rfl) rfl trivial) ?_
  refine SWl.ef (S := []) (Ef.call (con_validB _ _) rfl ⟨Le.refl _, trivial⟩ rfl) ?_
  rintro _ rfl
  refine SWl.rd rfl (Rd.not rfl) ?_
  refine SWl.rd rfl (Rd.move rfl) ?_
  refine SWl.split 9 rfl (fun hb9 => ?_) (fun hb9 => ?_)
  · skip
    refine SWl.off rfl rfl (hb9) rfl rfl ?_
    refine SWl.off rfl rfl (hb9) rfl rfl ?_
    refine SWl.off rfl rfl (hb9) rfl rfl ?_
    refine SWl.rd rfl (Rd.pickY rfl (hb9) rfl) ?_
    refine SWl.nil ?_
    refine SN.then ?_
    refine SW.condT rfl (rfl) ?_
    refine SW.seq ?_
    refine SW.region ?_
    refine SWl.rd rfl (Rd.build rfl rfl bldI0) ?_
    refine SWl.ef (S := [_]) (Ef.storeA 2 rfl rfl rfl (by kernel_rfl) rfl (List.mem_singleton.2 rfl)) ?_
    rintro _ rfl
    refine SWl.rd rfl (Rd.assign rfl) ?_
    refine SWl.nil ?_
    refine SN.then ?_
    refine SW.ret (fn := Try.f44) (fun _ _ h => h) (Rs.le (Rs.two rfl (ResV.cellA 2 rfl rfl (by kernel_rfl)) (ResV.tmp rfl)) ?_)
    exact Le.tup ⟨le_int0, Le.refl _, trivial⟩
  · skip
    refine SWl.rdg rfl rfl (hb9) rfl rfl (Rd.loadA 1 2 rfl rfl (by kernel_rfl) rfl trivial) ?_
    refine SWl.efg (S := []) rfl rfl (hb9) rfl (Ef.call (con_validB _ _) rfl ⟨Le.refl _, trivial⟩ rfl) ?_
    rintro _ rfl
    refine SWl.rdg rfl rfl (hb9) rfl rfl (Rd.not rfl) ?_
    refine SWl.rd rfl (Rd.pickN rfl (hb9) rfl) ?_
    refine SWl.nil ?_
    refine SN.then ?_
    refine SW.cond rfl (fun hb13 => ?_) (fun hb13 => ?_)
    · skip
      refine SW.seq ?_
      refine SW.region ?_
      refine SWl.rd rfl (Rd.build rfl rfl bldI0) ?_
      refine SWl.ef (S := [_]) (Ef.storeA 2 rfl rfl rfl (by kernel_rfl) rfl (List.mem_singleton.2 rfl)) ?_
      rintro _ rfl
      refine SWl.rd rfl (Rd.assign rfl) ?_
      refine SWl.nil ?_
      refine SN.then ?_
      refine SW.ret (fn := Try.f44) (fun _ _ h => h) (Rs.le (Rs.two rfl (ResV.cellA 2 rfl rfl (by kernel_rfl)) (ResV.tmp rfl)) ?_)
      exact Le.tup ⟨le_int0, Le.refl _, trivial⟩
    · exact absurd h (by simp_all)
set_option maxHeartbeats 4000000 in
set_option maxRecDepth 100000 in
theorem con_subB {s t : Bool} {b c : List Nat} (h : (vld s b && vld t c) = false) : Con Try.prog 45 [rintD s b, rintD t c] (tupD [intD 0, errD 2]) := by
  refine con_of Try.func45 (by kernel_rfl) rfl (by kernel_rfl) fun base w0 => ?_
  refine SW.seq ?_
  refine SW.region ?_
  refine SWl.ef (S := []) (Ef.boxA rfl rfl) ?_
  rintro _ ⟨g2, rfl⟩
  refine SWl.ef (S := []) (Ef.boxA rfl rfl) ?_
  rintro _ ⟨g3, rfl⟩
  refine SWl.ef (S := []) (Ef.alloc (zs := [.bool false, .slice none 0 0]) (by kernel_rfl) rfl) ?_
  rintro _ ⟨g4, rfl⟩
  refine SWl.rd rfl (Rd.assign rfl) ?_
  refine SWl.nil ?_
  refine SN.then ?_
  refine SW.seq ?_
  refine SW.seq ?_
  refine SW.region ?_
  refine SWl.rd rfl (Rd.loadA 0 2 rfl rfl (by kernel_rfl) rfl trivial) ?_
  refine SWl.ef (S := []) (Ef.call (con_validB _ _) rfl ⟨Le.refl _, trivial⟩ rfl) ?_
  rintro _ rfl
  refine SWl.rd rfl (Rd.not rfl) ?_
  refine SWl.rd rfl (Rd.move rfl) ?_
  refine SWl.split 9 rfl (fun hb9 => ?_) (fun hb9 => ?_)
  · skip
    refine SWl.off rfl rfl (hb9) rfl rfl ?_
    refine SWl.off rfl rfl (hb9) rfl rfl ?_
    refine SWl.off rfl rfl (hb9) rfl rfl ?_
    refine SWl.rd rfl (Rd.pickY rfl (hb9) rfl) ?_
    refine SWl.nil ?_
    refine SN.then ?_
    refine SW.condT rfl (rfl) ?_
    refine SW.seq ?_
    refine SW.region ?_
    refine SWl.rd rfl (Rd.build rfl rfl bldI0) ?_
    refine SWl.ef (S := [_]) (Ef.storeA 2 rfl rfl rfl (by kernel_rfl) rfl (List.mem_singleton.2 rfl)) ?_
    rintro _ rfl
    refine SWl.rd rfl (Rd.assign rfl) ?_
    refine SWl.nil ?_
    refine SN.then ?_
    refine SW.ret (fn := Try.f45) (fun _ _ h => h) (Rs.le (Rs.two rfl (ResV.cellA 2 rfl rfl (by kernel_rfl)) (ResV.tmp rfl)) ?_)
    exact Le.tup ⟨le_int0, Le.refl _, trivial⟩
  · skip
    refine SWl.rdg rfl rfl (hb9) rfl rfl (Rd.loadA 1 2 rfl rfl (by kernel_rfl) rfl trivial) ?_
    refine SWl.efg (S := []) rfl rfl (hb9) rfl (Ef.call (con_validB _ _) rfl ⟨Le.refl _, trivial⟩ rfl) ?_
    rintro _ rfl
    refine SWl.rdg rfl rfl (hb9) rfl rfl (Rd.not rfl) ?_
    refine SWl.rd rfl (Rd.pickN rfl (hb9) rfl) ?_
    refine SWl.nil ?_
    refine SN.then ?_
    refine SW.cond rfl (fun hb13 => ?_) (fun hb13 => ?_)
    · skip
      refine SW.seq ?_
      refine SW.region ?_
      refine SWl.rd rfl (Rd.build rfl rfl bldI0) ?_
      refine SWl.ef (S := [_]) (Ef.storeA 2 rfl rfl rfl (by kernel_rfl) rfl (List.mem_singleton.2 rfl)) ?_
      rintro _ rfl
      refine SWl.rd rfl (Rd.assign rfl) ?_
      refine SWl.nil ?_
      refine SN.then ?_
      refine SW.ret (fn := Try.f45) (fun _ _ h => h) (Rs.le (Rs.two rfl (ResV.cellA 2 rfl rfl (by kernel_rfl)) (ResV.tmp rfl)) ?_)
      exact Le.tup ⟨le_int0, Le.refl _, trivial⟩
    · exact absurd h (by simp_all)
set_option maxHeartbeats 4000000 in
set_option maxRecDepth 100000 in
theorem con_mulB {s t : Bool} {b c : List Nat} (h : (vld s b && vld t c) = false) : Con Try.prog 46 [rintD s b, rintD t c] (tupD [intD 0, errD 2]) := by
  refine con_of Try.func46 (by kernel_rfl) rfl (by kernel_rfl) fun base w0 => ?_
  refine SW.seq ?_
  refine SW.region ?_
  refine SWl.ef (S := []) (Ef.boxA rfl rfl) ?_
  rintro _ ⟨g2, rfl⟩
  refine SWl.ef (S := []) (Ef.boxA rfl rfl) ?_
  rintro _ ⟨g3, rfl⟩
  refine SWl.ef (S := []) (Ef.alloc (zs := [.bool false, .slice none 0 0]) (by kernel_rfl) rfl) ?_
  rintro _ ⟨g4, rfl⟩
  refine SWl.rd rfl (Rd.assign rfl) ?_
  refine SWl.nil ?_
  refine SN.then ?_
  refine SW.seq ?_
  refine SW.seq ?_
  refine SW.region ?_
  refine SWl.rd rfl (Rd.loadA 0 2 rfl rfl (by kernel_rfl) rfl trivial) ?_
  refine SWl.ef (S := []) (Ef.call (con_validB _ _) rfl ⟨Le.refl _, trivial⟩ rfl) ?_
  rintro _ rfl
  refine SWl.rd rfl (Rd.not rfl) ?_
  refine SWl.rd rfl (Rd.move rfl) ?_
  refine SWl.split 9 rfl (fun hb9 => ?_) (fun hb9 => ?_)
  · skip
    refine SWl.off rfl rfl (hb9) rfl rfl ?_
    refine SWl.off rfl rfl (hb9) rfl rfl ?_
    refine SWl.off rfl rfl (hb9) rfl rfl ?_
    refine SWl.rd rfl (Rd.pickY rfl (hb9) rfl) ?_
    refine SWl.nil ?_
    refine SN.then ?_
    refine SW.condT rfl (rfl) ?_
    refine SW.seq ?_
    refine SW.region ?_
    refine SWl.rd rfl (Rd.build rfl rfl bldI0) ?_
    refine SWl.ef (S := [_]) (Ef.storeA 2 rfl rfl rfl (by kernel_rfl) rfl (List.mem_singleton.2 rfl)) ?_
    rintro _ rfl
    refine SWl.rd rfl (Rd.assign rfl) ?_
    refine SWl.nil ?_
    refine SN.then ?_
    refine SW.ret (fn := Try.f46) (fun _ _ h => h) (Rs.le (Rs.two rfl (ResV.cellA 2 rfl rfl (by kernel_rfl)) (ResV.tmp rfl)) ?_)
    exact Le.tup ⟨le_int0, Le.refl _, trivial⟩
  · skip
    refine SWl.rdg rfl rfl (hb9) rfl rfl (Rd.loadA 1 2 rfl rfl (by kernel_rfl) rfl trivial) ?_
    refine SWl.efg (S := []) rfl rfl (hb9) rfl (Ef.call (con_validB _ _) rfl ⟨Le.refl _, trivial⟩ rfl) ?_
    rintro _ rfl
    refine SWl.rdg rfl rfl (hb9) rfl rfl (Rd.not rfl) ?_
    refine SWl.rd rfl (Rd.pickN rfl (hb9) rfl) ?_
    refine SWl.nil ?_
    refine SN.then ?_
    refine SW.cond rfl (fun hb13 => ?_) (fun hb13 => ?_)
    · skip
      refine SW.seq ?_
      refine SW.region ?_
      refine SWl.rd rfl (Rd.build rfl rfl bldI0) ?_
      refine SWl.ef (S := [_]) (Ef.storeA 2 rfl rfl rfl (by kernel_rfl) rfl (List.mem_singleton.2 rfl)) ?_
      rintro _ rfl
      refine SWl.rd rfl (Rd.assign rfl) ?_
      refine SWl.nil ?_
      refine SN.then ?_
      refine SW.ret (fn := Try.f46) (fun _ _ h => h) (Rs.le (Rs.two rfl (ResV.cellA 2 rfl rfl (by kernel_rfl)) (ResV.tmp rfl)) ?_)
      exact Le.tup ⟨le_int0, Le.refl _, trivial⟩
    · exact absurd h (by simp_all)
set_option maxHeartbeats 4000000 in
set_option maxRecDepth 100000 in
theorem con_gcdB {s t : Bool} {b c : List Nat} (h : (vld s b && vld t c) = false) : Con Try.prog 36 [rintD s b, rintD t c] (tupD [intD 0, errD 2]) := by
  refine con_of Try.func36 (by kernel_rfl) rfl (by kernel_rfl) fun base w0 => ?_
  refine SW.seq ?_
  refine SW.region ?_
  refine SWl.ef (S := []) (Ef.boxA rfl rfl) ?_
  rintro _ ⟨g2, rfl⟩
  refine SWl.ef (S := []) (Ef.boxA rfl rfl) ?_
  rintro _ ⟨g3, rfl⟩
  refine SWl.ef (S := []) (Ef.alloc (zs := [.bool false, .slice none 0 0]) (by kernel_rfl) rfl) ?_
  rintro _ ⟨g4, rfl⟩
  refine SWl.rd rfl (Rd.assign rfl) ?_
  refine SWl.nil ?_
  refine SN.then ?_
  refine SW.seq ?_
  refine SW.seq ?_
  refine SW.region ?_
  refine SWl.rd rfl (Rd.loadA 0 2 rfl rfl (by kernel_rfl) rfl trivial) ?_
  refine SWl.ef (S := []) (Ef.call (con_validB _ _) rfl ⟨Le.refl _, trivial⟩ rfl) ?_
  rintro _ rfl
  refine SWl.rd rfl (Rd.not rfl) ?_
  refine SWl.rd rfl (Rd.move rfl) ?_
  refine SWl.split 13 rfl (fun hb13 => ?_) (fun hb13 => ?_)
  · skip
    refine SWl.off rfl rfl (hb13) rfl rfl ?_
    refine SWl.off rfl rfl (hb13) rfl rfl ?_
    refine SWl.off rfl rfl (hb13) rfl rfl ?_
    refine SWl.rd rfl (Rd.pickY rfl (hb13) rfl) ?_
    refine SWl.nil ?_
    refine SN.then ?_
    refine SW.condT rfl (rfl) ?_
    refine SW.seq ?_
    refine SW.region ?_
    refine SWl.rd rfl (Rd.build rfl rfl bldI0) ?_
    refine SWl.ef (S := [_]) (Ef.storeA 2 rfl rfl rfl (by kernel_rfl) rfl (List.mem_singleton.2 rfl)) ?_
    rintro _ rfl
    refine SWl.rd rfl (Rd.assign rfl) ?_
    refine SWl.nil ?_
    refine SN.then ?_
    refine SW.ret (fn := Try.f36) (fun _ _ h => h) (Rs.le (Rs.two rfl (ResV.cellA 2 rfl rfl (by kernel_rfl)) (ResV.tmp rfl)) ?_)
    exact Le.tup ⟨le_int0, Le.refl _, trivial⟩
  · skip
    refine SWl.rdg rfl rfl (hb13) rfl rfl (Rd.loadA 1 2 rfl rfl (by kernel_rfl) rfl trivial) ?_
    refine SWl.efg (S := []) rfl rfl (hb13) rfl (Ef.call (con_validB _ _) rfl ⟨Le.refl _, trivial⟩ rfl) ?_
    rintro _ rfl
    refine SWl.rdg rfl rfl (hb13) rfl rfl (Rd.not rfl) ?_
    refine SWl.rd rfl (Rd.pickN rfl (hb13) rfl) ?_
    refine SWl.nil ?_
    refine SN.then ?_
    refine SW.cond rfl (fun hb17 => ?_) (fun hb17 => ?_)
    · skip
      refine SW.seq ?_
      refine SW.region ?_
      refine SWl.rd rfl (Rd.build rfl rfl bldI0) ?_
      refine SWl.ef (S := [_]) (Ef.storeA 2 rfl rfl rfl (by kernel_rfl) rfl (List.mem_singleton.2 rfl)) ?_
      rintro _ rfl
      refine SWl.rd rfl (Rd.assign rfl) ?_
      refine SWl.nil ?_
      refine SN.then ?_
      refine SW.ret (fn := Try.f36) (fun _ _ h => h) (Rs.le (Rs.two rfl (ResV.cellA 2 rfl rfl (by kernel_rfl)) (ResV.tmp rfl)) ?_)
      exact Le.tup ⟨le_int0, Le.refl _, trivial⟩
    · exact absurd h (by simp_all)
end Sx
end Go.Proofs.Ytddfphneidcibaa
namespace Go.Proofs.Ytddfphneidcibaa
open Go.RowKit
open Nm (W32)
namespace Sx
theorem lim_len {x : Int} (h : decide (64 < ((cN .u8 (Nm.dg 256 x.natAbs).reverse).length : Int)) = true) : limZ x = 0 ∧ limE x = 7 := by
  refine lim_no fun hlt => ?_
  have h1 := (Nm.len_le (B := 256) (by decide) 64 x.natAbs).2 hlt
  simp [Nm.dg_length] at h
  omega
theorem lim_len' {x : Int} (h : decide (64 < ((cN .u8 (Nm.dg 256 x.natAbs).reverse).length : Int)) = false) : x.natAbs < big512 := by
  refine (Nm.len_le (B := 256) (by decide) 64 x.natAbs).1 ?_
  simp [Nm.dg_length] at h
  omega
theorem bytes_len {x : Int} {k : Nat} (h : x.natAbs < 256 ^ k) : (Nm.dg 256 x.natAbs).reverse.length ≤ k := by
  rw [List.length_reverse, Nm.dg_length]
  exact (Nm.len_le (B := 256) (by decide) k x.natAbs).2 h
theorem vld_int {x : Int} (hx : x.natAbs < big512) : vld (decide (x < 0)) (Nm.dg 256 x.natAbs).reverse = true := by
  have hl := bytes_len (x := x) (k := 64) hx
  unfold vld
  by_cases h0 : x = 0
  · subst h0
    rw [show (0 : Int).natAbs = 0 from rfl, Nm.dg_zero]
    rfl
  · have hne : x.natAbs ≠ 0 := by omega
    have hlen : ((Nm.dg 256 x.natAbs).reverse).length = Nm.len 256 x.natAbs := by rw [List.length_reverse, Nm.dg_length]
    have hpos : 0 < Nm.len 256 x.natAbs := by
      rcases Nat.eq_zero_or_pos (Nm.len 256 x.natAbs) with h | h
      · exact absurd ((Nm.len_eq_zero (B := 256) (by decide)).1 h) hne
      · exact h
    rw [if_neg (by omega)]
    have htop : ((Nm.dg 256 x.natAbs).reverse).getD 0 0 ≠ 0 := by
      obtain ⟨k, hk⟩ : ∃ k, Nm.len 256 x.natAbs = k + 1 := ⟨Nm.len 256 x.natAbs - 1, by omega⟩
      rw [rev_getD (i := k) (r := 0) (by rw [Nm.dg_length]; omega), Nm.dg_getD (by decide)]
      intro h
      have h1 := Nm.top_zero (B := 256) (X := x.natAbs) (k := k) (by decide) (by rw [← hk]; exact Nm.lt_pow_len (by decide) _) h
      have h2 := (Nm.len_le (B := 256) (by decide) k _).2 h1
      omega
    rw [decide_eq_true hl, decide_eq_true htop]
    rfl
theorem con_validRT {x : Int} (hx : x.natAbs < big512) : Con Try.prog 25 [intD x] (boolD true) := (con_validR _ _).mono ⟨Le.refl _, trivial⟩ (Le.is (by rw [vld_int hx]))
theorem con_validRF {s : Bool} {b : List Nat} (h : vld s b = false) : Con Try.prog 25 [rintD s b] (boolD false) := (con_validR _ _).mono ⟨Le.refl _, trivial⟩ (Le.is (by rw [h]))
theorem any1_int {x : Int} (hx : x.natAbs < big512) : anyB [(decide (x < 0), (Nm.dg 256 x.natAbs).reverse)] = false := by
  have := bytes_len (x := x) (k := 64) hx
  simp only [anyB, List.any_cons, List.any_nil, Bool.or_false, decide_eq_false_iff_not]
  omega
theorem any2_int {x y : Int} (hx : x.natAbs < big512) (hy : y.natAbs < big512) : anyB [(decide (x < 0), (Nm.dg 256 x.natAbs).reverse), (decide (y < 0), (Nm.dg 256 y.natAbs).reverse)] = false := by
  have := bytes_len (x := x) (k := 64) hx
  have := bytes_len (x := y) (k := 64) hy
  simp only [anyB, List.any_cons, List.any_nil, Bool.or_false, Bool.or_eq_false_iff, decide_eq_false_iff_not]
  omega
theorem bldI2 {s : Bool} {xs : List Value} : Bld Try.prog 24 [0, 1] [isD (.bool s), slD xs] [isD (.bool s), slD xs] := fun L w vs h => by
  obtain ⟨u, v, rfl, rfl, hu⟩ := all2 h
  have hu' := hu
  obtain ⟨A, c, rfl, -⟩ := hu
  exact ⟨[.bool s, .slice A xs.length c], ⟨rfl, hu', trivial⟩, fun w' => by kernel_rfl⟩
theorem le_v {p q : Value} (h : p = q) : Le (isD p) (isD q) := Le.is h
theorem leC_int {x y : Int} (h : x = y) : LeAll (intC x) (intC y) := by subst h; exact LeAll.refl _
/-- A law's end. -/
theorem con_law {f : FuncId} {ds es : List D} (h : Con Try.prog f ds (boolD true)) (hl : LeAll es ds) : Con Try.prog f es (boolD true) := h.mono hl (Le.refl _)
set_option maxHeartbeats 4000000 in
set_option maxRecDepth 100000 in
theorem con_limitedR (x : Int) : Con Try.prog 33 [intD x] (tupD [intD (limZ x), errD (limE x)]) := by
  refine con_of Try.func33 (by kernel_rfl) rfl (by kernel_rfl) fun base w0 => ?_
  refine SW.seq ?_
  refine SW.region ?_
  refine SWl.ef (S := []) (Ef.boxA rfl rfl) ?_
  rintro _ ⟨g1, rfl⟩
  refine SWl.ef (S := []) (Ef.alloc (zs := [.bool false, .slice none 0 0]) (by kernel_rfl) rfl) ?_
  rintro _ ⟨g2, rfl⟩
  refine SWl.rd rfl (Rd.assign rfl) ?_
  refine SWl.nil ?_
  refine SN.then ?_
  refine SW.seq ?_
  refine SW.seq ?_
  refine SW.region ?_
  refine SWl.rd rfl (Rd.fieldAddr (n := 1) rfl (by kernel_rfl)) ?_
  refine SWl.rd rfl (Rd.loadB 0 rfl rfl rfl (by kernel_rfl) trivial) ?_
  refine SWl.rd rfl (Rd.len (e := 5) rfl (by kernel_rfl)) ?_
  refine SWl.rd rfl (Rd.gtr rfl rfl) ?_
  refine SWl.nil ?_
  refine SN.then ?_
  refine SW.cond rfl (fun hb7 => ?_) (fun hb7 => ?_)
  · obtain ⟨e1, e2⟩ := lim_len hb7
    refine SW.seq ?_
    refine SW.region ?_
    refine SWl.rd rfl (Rd.build rfl rfl bldI0) ?_
    refine SWl.ef (S := [_]) (Ef.storeA 1 rfl rfl rfl (by kernel_rfl) rfl (List.mem_singleton.2 rfl)) ?_
    rintro _ rfl
    refine SWl.rd rfl (Rd.assign rfl) ?_
    refine SWl.nil ?_
    refine SN.then ?_
    refine SW.ret (fn := Try.f33) (fun _ _ h => h) (Rs.le (Rs.two rfl (ResV.cellA 1 rfl rfl (by kernel_rfl)) (ResV.tmp rfl)) ?_)
    rw [e1, e2]
    exact Le.tup ⟨le_int0, Le.refl _, trivial⟩
  · obtain ⟨e1, e2⟩ := lim_ok (lim_len' hb7)
    refine SW.skip ?_
    refine SN.then ?_
    refine SW.seq ?_
    refine SW.region ?_
    refine SWl.rd rfl (Rd.loadA 0 2 rfl rfl (by kernel_rfl) rfl trivial) ?_
    refine SWl.ef (S := [_]) (Ef.storeA 1 rfl rfl rfl (by kernel_rfl) rfl (List.mem_singleton.2 rfl)) ?_
    rintro _ rfl
    refine SWl.rd rfl (Rd.assign rfl) ?_
    refine SWl.nil ?_
    refine SN.then ?_
    refine SW.ret (fn := Try.f33) (fun _ _ h => h) (Rs.le (Rs.two rfl (ResV.cellA 1 rfl rfl (by kernel_rfl)) (ResV.tmp rfl)) ?_)
    rw [e1, e2]
    exact Le.refl _
set_option maxHeartbeats 4000000 in
set_option maxRecDepth 100000 in
theorem con_sameL {x y e f : Int} (hx : x = y) (he : e = f) : Con Try.prog 26 [intD x, errD e, intD y, errD f] (boolD true) := by
  refine con_of Try.func26 (by kernel_rfl) rfl (by kernel_rfl) fun base w0 => ?_
  refine SW.seq ?_
  refine SW.region ?_
  refine SWl.ef (S := []) (Ef.boxA rfl rfl) ?_
  rintro _ ⟨g4, rfl⟩
  refine SWl.ef (S := []) (Ef.boxA rfl rfl) ?_
  rintro _ ⟨g6, rfl⟩
  refine SWl.rd rfl (Rd.assign rfl) ?_
  refine SWl.nil ?_
  refine SN.then ?_
  refine SW.seq ?_
  refine SW.region ?_
  refine SWl.rd rfl (Rd.move rfl) ?_
  refine SWl.rd rfl (Rd.move rfl) ?_
  refine SWl.rd rfl (Rd.eqi rfl rfl) ?_
  refine SWl.rd rfl (Rd.move rfl) ?_
  refine SWl.rdg rfl rfl (decide_eq_true he) rfl rfl (Rd.loadA 0 2 rfl rfl (by kernel_rfl) rfl trivial) ?_
  refine SWl.rdg rfl rfl (decide_eq_true he) rfl rfl (Rd.loadA 1 2 rfl rfl (by kernel_rfl) rfl trivial) ?_
  refine SWl.efg (S := []) rfl rfl (decide_eq_true he) rfl (Ef.call (con_same) rfl ⟨Le.refl _, Le.refl _, trivial⟩ rfl) ?_
  rintro _ rfl
  refine SWl.rd rfl (Rd.pickY rfl (decide_eq_true he) rfl) ?_
  refine SWl.rd rfl (Rd.assign rfl) ?_
  refine SWl.nil ?_
  refine SN.then ?_
  refine SW.ret (fn := Try.f26) (fun _ _ h => h) (Rs.le (Rs.one rfl (ResV.tmp rfl)) ?_)
  exact le_v (by rw [decide_eq_true hx])
set_option maxHeartbeats 4000000 in
set_option maxRecDepth 100000 in
theorem con_negB {s : Bool} {b : List Nat} (h : vld s b = false) : Con Try.prog 39 [rintD s b] (tupD [intD 0, errD 2]) := by
  refine con_of Try.func39 (by kernel_rfl) rfl (by kernel_rfl) fun base w0 => ?_
  refine SW.seq ?_
  refine SW.region ?_
  refine SWl.ef (S := []) (Ef.boxA rfl rfl) ?_
  rintro _ ⟨g1, rfl⟩
  refine SWl.ef (S := []) (Ef.alloc (zs := [.bool false, .slice none 0 0]) (by kernel_rfl) rfl) ?_
  rintro _ ⟨g2, rfl⟩
  refine SWl.rd rfl (Rd.assign rfl) ?_
  refine SWl.nil ?_
  refine SN.then ?_
  refine SW.seq ?_
  refine SW.seq ?_
  refine SW.region ?_
  refine SWl.rd rfl (Rd.loadA 0 2 rfl rfl (by kernel_rfl) rfl trivial) ?_
  refine SWl.ef (S := []) (Ef.call (con_validB _ _) rfl ⟨Le.refl _, trivial⟩ rfl) ?_
  rintro _ rfl
  refine SWl.rd rfl (Rd.not rfl) ?_
  refine SWl.nil ?_
  refine SN.then ?_
  refine SW.condT rfl (by simp [h]) ?_
  refine SW.seq ?_
  refine SW.region ?_
  refine SWl.rd rfl (Rd.build rfl rfl bldI0) ?_
  refine SWl.ef (S := [_]) (Ef.storeA 1 rfl rfl rfl (by kernel_rfl) rfl (List.mem_singleton.2 rfl)) ?_
  rintro _ rfl
  refine SWl.rd rfl (Rd.assign rfl) ?_
  refine SWl.nil ?_
  refine SN.then ?_
  refine SW.ret (fn := Try.f39) (fun _ _ h => h) (Rs.le (Rs.two rfl (ResV.cellA 1 rfl rfl (by kernel_rfl)) (ResV.tmp rfl)) ?_)
  exact Le.tup ⟨le_int0, Le.refl _, trivial⟩
set_option maxHeartbeats 4000000 in
set_option maxRecDepth 100000 in
theorem con_textB {s : Bool} {b : List Nat} (h : vld s b = false) : Con Try.prog 30 [rintD s b] (strD []) := by
  refine con_of Try.func30 (by kernel_rfl) rfl (by kernel_rfl) fun base w0 => ?_
  refine SW.seq ?_
  refine SW.region ?_
  refine SWl.ef (S := []) (Ef.boxA rfl rfl) ?_
  rintro _ ⟨g1, rfl⟩
  refine SWl.rd rfl (Rd.assign rfl) ?_
  refine SWl.nil ?_
  refine SN.then ?_
  refine SW.seq ?_
  refine SW.seq ?_
  refine SW.region ?_
  refine SWl.rd rfl (Rd.loadA 0 2 rfl rfl (by kernel_rfl) rfl trivial) ?_
  refine SWl.ef (S := []) (Ef.call (con_validB _ _) rfl ⟨Le.refl _, trivial⟩ rfl) ?_
  rintro _ rfl
  refine SWl.rd rfl (Rd.not rfl) ?_
  refine SWl.nil ?_
  refine SN.then ?_
  refine SW.condT rfl (by simp [h]) ?_
  refine SW.seq ?_
  refine SW.region ?_
  refine SWl.rd rfl (Rd.assign rfl) ?_
  refine SWl.nil ?_
  refine SN.then ?_
  refine SW.ret (fn := Try.f30) (fun _ _ h => h) (Rs.le (Rs.one rfl (ResV.tmp rfl)) ?_)
  exact Le.refl _
set_option maxHeartbeats 4000000 in
set_option maxRecDepth 100000 in
theorem con_digits10B {s : Bool} {b : List Nat} (h : vld s b = false) : Con Try.prog 31 [rintD s b] (errD 0) := by
  refine con_of Try.func31 (by kernel_rfl) rfl (by kernel_rfl) fun base w0 => ?_
  refine SW.seq ?_
  refine SW.region ?_
  refine SWl.ef (S := []) (Ef.boxA rfl rfl) ?_
  rintro _ ⟨g1, rfl⟩
  refine SWl.rd rfl (Rd.assign rfl) ?_
  refine SWl.nil ?_
  refine SN.then ?_
  refine SW.seq ?_
  refine SW.seq ?_
  refine SW.region ?_
  refine SWl.rd rfl (Rd.loadA 0 2 rfl rfl (by kernel_rfl) rfl trivial) ?_
  refine SWl.ef (S := []) (Ef.call (con_validB _ _) rfl ⟨Le.refl _, trivial⟩ rfl) ?_
  rintro _ rfl
  refine SWl.rd rfl (Rd.not rfl) ?_
  refine SWl.nil ?_
  refine SN.then ?_
  refine SW.condT rfl (by simp [h]) ?_
  refine SW.seq ?_
  refine SW.region ?_
  refine SWl.rd rfl (Rd.assign rfl) ?_
  refine SWl.nil ?_
  refine SN.then ?_
  refine SW.ret (fn := Try.f31) (fun _ _ h => h) (Rs.le (Rs.one rfl (ResV.tmp rfl)) ?_)
  exact Le.refl _
set_option maxHeartbeats 4000000 in
set_option maxRecDepth 100000 in
theorem con_signB {s : Bool} {b : List Nat} (h : vld s b = false) : Con Try.prog 41 [rintD s b] (errD 0) := by
  refine con_of Try.func41 (by kernel_rfl) rfl (by kernel_rfl) fun base w0 => ?_
  refine SW.seq ?_
  refine SW.region ?_
  refine SWl.ef (S := []) (Ef.boxA rfl rfl) ?_
  rintro _ ⟨g1, rfl⟩
  refine SWl.rd rfl (Rd.assign rfl) ?_
  refine SWl.nil ?_
  refine SN.then ?_
  refine SW.seq ?_
  refine SW.block ?_
  refine SW.seq ?_
  refine SW.region ?_
  refine SWl.rd rfl (Rd.loadA 0 2 rfl rfl (by kernel_rfl) rfl trivial) ?_
  refine SWl.ef (S := []) (Ef.call (con_validB _ _) rfl ⟨Le.refl _, trivial⟩ rfl) ?_
  rintro _ rfl
  refine SWl.rd rfl (Rd.not rfl) ?_
  refine SWl.rd rfl (Rd.move rfl) ?_
  refine SWl.off rfl rfl (by simp [h]) rfl rfl ?_
  refine SWl.off rfl rfl (by simp [h]) rfl rfl ?_
  refine SWl.off rfl rfl (by simp [h]) rfl rfl ?_
  refine SWl.off rfl rfl (by simp [h]) rfl rfl ?_
  refine SWl.rd rfl (Rd.pickY rfl (by simp [h]) rfl) ?_
  refine SWl.rd rfl (Rd.assign rfl) ?_
  refine SWl.nil ?_
  refine SN.then ?_
  refine SW.condT rfl (rfl) ?_
  refine SW.seq ?_
  refine SW.region ?_
  refine SWl.rd rfl (Rd.assign rfl) ?_
  refine SWl.nil ?_
  refine SN.then ?_
  refine SW.ret (fn := Try.f41) (fun _ _ h => h) (Rs.le (Rs.one rfl (ResV.tmp rfl)) ?_)
  exact Le.refl _
set_option maxHeartbeats 4000000 in
set_option maxRecDepth 100000 in
theorem con_compareB {s t : Bool} {b c : List Nat} (h : (vld s b && vld t c) = false) : Con Try.prog 47 [rintD s b, rintD t c] (errD 0) := by
  refine con_of Try.func47 (by kernel_rfl) rfl (by kernel_rfl) fun base w0 => ?_
  refine SW.seq ?_
  refine SW.region ?_
  refine SWl.ef (S := []) (Ef.boxA rfl rfl) ?_
  rintro _ ⟨g2, rfl⟩
  refine SWl.ef (S := []) (Ef.boxA rfl rfl) ?_
  rintro _ ⟨g3, rfl⟩
  refine SWl.rd rfl (Rd.assign rfl) ?_
  refine SWl.nil ?_
  refine SN.then ?_
  refine SW.seq ?_
  refine SW.seq ?_
  refine SW.region ?_
  refine SWl.rd rfl (Rd.loadA 0 2 rfl rfl (by kernel_rfl) rfl trivial) ?_
  refine SWl.ef (S := []) (Ef.call (con_validB _ _) rfl ⟨Le.refl _, trivial⟩ rfl) ?_
  rintro _ rfl
  refine SWl.rd rfl (Rd.not rfl) ?_
  refine SWl.rd rfl (Rd.move rfl) ?_
  refine SWl.split 9 rfl (fun hb9 => ?_) (fun hb9 => ?_)
  · skip
    refine SWl.off rfl rfl (hb9) rfl rfl ?_
    refine SWl.off rfl rfl (hb9) rfl rfl ?_
    refine SWl.off rfl rfl (hb9) rfl rfl ?_
    refine SWl.rd rfl (Rd.pickY rfl (hb9) rfl) ?_
    refine SWl.nil ?_
    refine SN.then ?_
    refine SW.condT rfl (rfl) ?_
    refine SW.seq ?_
    refine SW.region ?_
    refine SWl.rd rfl (Rd.assign rfl) ?_
    refine SWl.nil ?_
    refine SN.then ?_
    refine SW.ret (fn := Try.f47) (fun _ _ h => h) (Rs.le (Rs.one rfl (ResV.tmp rfl)) ?_)
    exact Le.refl _
  · skip
    refine SWl.rdg rfl rfl (hb9) rfl rfl (Rd.loadA 1 2 rfl rfl (by kernel_rfl) rfl trivial) ?_
    refine SWl.efg (S := []) rfl rfl (hb9) rfl (Ef.call (con_validB _ _) rfl ⟨Le.refl _, trivial⟩ rfl) ?_
    rintro _ rfl
    refine SWl.rdg rfl rfl (hb9) rfl rfl (Rd.not rfl) ?_
    refine SWl.rd rfl (Rd.pickN rfl (hb9) rfl) ?_
    refine SWl.nil ?_
    refine SN.then ?_
    refine SW.cond rfl (fun hb13 => ?_) (fun hb13 => ?_)
    · skip
      refine SW.seq ?_
      refine SW.region ?_
      refine SWl.rd rfl (Rd.assign rfl) ?_
      refine SWl.nil ?_
      refine SN.then ?_
      refine SW.ret (fn := Try.f47) (fun _ _ h => h) (Rs.le (Rs.one rfl (ResV.tmp rfl)) ?_)
      exact Le.refl _
    · exact absurd h (by simp_all)
set_option maxHeartbeats 4000000 in
set_option maxRecDepth 100000 in
theorem con_divModB {s t : Bool} {b c : List Nat} (h : (vld s b && vld t c) = false) : Con Try.prog 35 [rintD s b, rintD t c] (tupD [intD 0, intD 0, errD 2]) := by
  refine con_of Try.func35 (by kernel_rfl) rfl (by kernel_rfl) fun base w0 => ?_
  refine SW.seq ?_
  refine SW.region ?_
  refine SWl.ef (S := []) (Ef.boxA rfl rfl) ?_
  rintro _ ⟨g2, rfl⟩
  refine SWl.ef (S := []) (Ef.boxA rfl rfl) ?_
  rintro _ ⟨g3, rfl⟩
  refine SWl.ef (S := []) (Ef.alloc (zs := [.bool false, .slice none 0 0]) (by kernel_rfl) rfl) ?_
  rintro _ ⟨g4, rfl⟩
  refine SWl.ef (S := []) (Ef.alloc (zs := [.bool false, .slice none 0 0]) (by kernel_rfl) rfl) ?_
  rintro _ ⟨g5, rfl⟩
  refine SWl.rd rfl (Rd.assign rfl) ?_
  refine SWl.nil ?_
  refine SN.then ?_
  refine SW.seq ?_
  refine SW.seq ?_
  refine SW.region ?_
  refine SWl.rd rfl (Rd.loadA 0 2 rfl rfl (by kernel_rfl) rfl trivial) ?_
  refine SWl.ef (S := []) (Ef.call (con_validB _ _) rfl ⟨Le.refl _, trivial⟩ rfl) ?_
  rintro _ rfl
  refine SWl.rd rfl (Rd.not rfl) ?_
  refine SWl.rd rfl (Rd.move rfl) ?_
  refine SWl.split 16 rfl (fun hb16 => ?_) (fun hb16 => ?_)
  · skip
    refine SWl.off rfl rfl (hb16) rfl rfl ?_
    refine SWl.off rfl rfl (hb16) rfl rfl ?_
    refine SWl.off rfl rfl (hb16) rfl rfl ?_
    refine SWl.rd rfl (Rd.pickY rfl (hb16) rfl) ?_
    refine SWl.rd rfl (Rd.move rfl) ?_
    refine SWl.off rfl rfl (rfl) rfl rfl ?_
    refine SWl.off rfl rfl (rfl) rfl rfl ?_
    refine SWl.off rfl rfl (rfl) rfl rfl ?_
    refine SWl.off rfl rfl (rfl) rfl rfl ?_
    refine SWl.rd rfl (Rd.pickY rfl (rfl) rfl) ?_
    refine SWl.nil ?_
    refine SN.then ?_
    refine SW.condT rfl (rfl) ?_
    refine SW.seq ?_
    refine SW.region ?_
    refine SWl.rd rfl (Rd.build rfl rfl bldI0) ?_
    refine SWl.rd rfl (Rd.build rfl rfl bldI0) ?_
    refine SWl.ef (S := [_]) (Ef.storeA 2 rfl rfl rfl (by kernel_rfl) rfl (List.mem_singleton.2 rfl)) ?_
    rintro _ rfl
    refine SWl.ef (S := [_]) (Ef.storeA 3 rfl rfl rfl (by kernel_rfl) rfl (List.mem_singleton.2 rfl)) ?_
    rintro _ rfl
    refine SWl.rd rfl (Rd.assign rfl) ?_
    refine SWl.nil ?_
    refine SN.then ?_
    refine SW.ret (fn := Try.f35) (fun _ _ h => h) (Rs.le (Rs.three rfl (ResV.cellA 2 rfl rfl (by kernel_rfl)) (ResV.cellA 3 rfl rfl (by kernel_rfl)) (ResV.tmp rfl)) ?_)
    exact Le.tup ⟨le_int0, le_int0, Le.refl _, trivial⟩
  · skip
    refine SWl.rdg rfl rfl (hb16) rfl rfl (Rd.loadA 1 2 rfl rfl (by kernel_rfl) rfl trivial) ?_
    refine SWl.efg (S := []) rfl rfl (hb16) rfl (Ef.call (con_validB _ _) rfl ⟨Le.refl _, trivial⟩ rfl) ?_
    rintro _ rfl
    refine SWl.rdg rfl rfl (hb16) rfl rfl (Rd.not rfl) ?_
    refine SWl.rd rfl (Rd.pickN rfl (hb16) rfl) ?_
    refine SWl.rd rfl (Rd.move rfl) ?_
    refine SWl.split 21 rfl (fun hb21 => ?_) (fun hb21 => ?_)
    · skip
      refine SWl.off rfl rfl (hb21) rfl rfl ?_
      refine SWl.off rfl rfl (hb21) rfl rfl ?_
      refine SWl.off rfl rfl (hb21) rfl rfl ?_
      refine SWl.off rfl rfl (hb21) rfl rfl ?_
      refine SWl.rd rfl (Rd.pickY rfl (hb21) rfl) ?_
      refine SWl.nil ?_
      refine SN.then ?_
      refine SW.condT rfl (rfl) ?_
      refine SW.seq ?_
      refine SW.region ?_
      refine SWl.rd rfl (Rd.build rfl rfl bldI0) ?_
      refine SWl.rd rfl (Rd.build rfl rfl bldI0) ?_
      refine SWl.ef (S := [_]) (Ef.storeA 2 rfl rfl rfl (by kernel_rfl) rfl (List.mem_singleton.2 rfl)) ?_
      rintro _ rfl
      refine SWl.ef (S := [_]) (Ef.storeA 3 rfl rfl rfl (by kernel_rfl) rfl (List.mem_singleton.2 rfl)) ?_
      rintro _ rfl
      refine SWl.rd rfl (Rd.assign rfl) ?_
      refine SWl.nil ?_
      refine SN.then ?_
      refine SW.ret (fn := Try.f35) (fun _ _ h => h) (Rs.le (Rs.three rfl (ResV.cellA 2 rfl rfl (by kernel_rfl)) (ResV.cellA 3 rfl rfl (by kernel_rfl)) (ResV.tmp rfl)) ?_)
      exact Le.tup ⟨le_int0, le_int0, Le.refl _, trivial⟩
    · exact absurd h (by simp_all)
set_option maxHeartbeats 4000000 in
set_option maxRecDepth 100000 in
theorem con_powerB {s : Bool} {b : List Nat} {m : Int} (h : vld s b = false) : Con Try.prog 24 [rintD s b, errD m] (tupD [intD 0, errD 2]) := by
  refine con_of Try.func24 (by kernel_rfl) rfl (by kernel_rfl) fun base w0 => ?_
  refine SW.seq ?_
  refine SW.region ?_
  refine SWl.ef (S := []) (Ef.boxA rfl rfl) ?_
  rintro _ ⟨g2, rfl⟩
  refine SWl.ef (S := []) (Ef.alloc (zs := [.bool false, .slice none 0 0]) (by kernel_rfl) rfl) ?_
  rintro _ ⟨g4, rfl⟩
  refine SWl.rd rfl (Rd.assign rfl) ?_
  refine SWl.nil ?_
  refine SN.then ?_
  refine SW.seq ?_
  refine SW.seq ?_
  refine SW.region ?_
  refine SWl.rd rfl (Rd.loadA 0 2 rfl rfl (by kernel_rfl) rfl trivial) ?_
  refine SWl.ef (S := []) (Ef.call (con_validB _ _) rfl ⟨Le.refl _, trivial⟩ rfl) ?_
  rintro _ rfl
  refine SWl.rd rfl (Rd.not rfl) ?_
  refine SWl.rd rfl (Rd.move rfl) ?_
  refine SWl.off rfl rfl (by simp [h]) rfl rfl ?_
  refine SWl.off rfl rfl (by simp [h]) rfl rfl ?_
  refine SWl.rd rfl (Rd.pickY rfl (by simp [h]) rfl) ?_
  refine SWl.nil ?_
  refine SN.then ?_
  refine SW.condT rfl (rfl) ?_
  refine SW.seq ?_
  refine SW.region ?_
  refine SWl.rd rfl (Rd.build rfl rfl bldI0) ?_
  refine SWl.ef (S := [_]) (Ef.storeA 1 rfl rfl rfl (by kernel_rfl) rfl (List.mem_singleton.2 rfl)) ?_
  rintro _ rfl
  refine SWl.rd rfl (Rd.assign rfl) ?_
  refine SWl.nil ?_
  refine SN.then ?_
  refine SW.ret (fn := Try.f24) (fun _ _ h => h) (Rs.le (Rs.two rfl (ResV.cellA 1 rfl rfl (by kernel_rfl)) (ResV.tmp rfl)) ?_)
  exact Le.tup ⟨le_int0, Le.refl _, trivial⟩
end Sx
end Go.Proofs.Ytddfphneidcibaa
