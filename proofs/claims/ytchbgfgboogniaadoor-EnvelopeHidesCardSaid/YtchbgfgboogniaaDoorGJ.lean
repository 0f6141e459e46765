/-
  ENVELOPES: the small functions, Commit, what is signed.
  ENVELOPES: authentic, Check, Open, Size, Encode, Equal.
  ENVELOPES: Decode, Seal; a nil book.
  ENVELOPES: the reference.
-/
import Derived.Test.YtchbgfgboogniaaDoorGH
import Derived.Test.YtchbgfgboogniaaDoorGU
import Derived.Test.YtchbgfgboogniaaDoorGR
import Derived.Test.YtchbgfgboogniaaDoorGQ
import Derived.Test.YtchbgfgboogniaaDoorGP
import Derived.Test.YtchbgfgboogniaaDoorGM
namespace Go.Proofs.YtchbgfgboogniaaDoor
open Go.RowKit
namespace Sx
def firstE (l : List Int) : Int := (l.find? fun x => decide (x ≠ 0)).getD 0
theorem firstE_zero {l : List Int} : firstE (0 :: l) = firstE l := by simp [firstE]
theorem firstE_cons {x : Int} {l : List Int} (h : x ≠ 0) : firstE (x :: l) = x := by simp [firstE, h]
theorem firstE_at {l : List Int} {i : Nat} {x : Int} (h : ∀ y ∈ l.take i, y = 0) (hx : l[i]? = some x) (h0 : x ≠ 0) : firstE l = x := by
  have hd : l = l.take i ++ x :: l.drop (i + 1) := by
    rw [← (List.getElem?_eq_some_iff.1 hx).2, ← List.drop_eq_getElem_cons (List.getElem?_eq_some_iff.1 hx).1, List.take_append_drop]
  unfold firstE
  rw [hd, List.find?_append, List.find?_eq_none.2 (fun y hy => by simp [h y hy])]
  simp [h0]
theorem firstE_all {l : List Int} (h : ∀ y ∈ l, y = 0) : firstE l = 0 := by
  unfold firstE
  rw [List.find?_eq_none.2 (fun y hy => by simp [h y hy])]
  rfl
abbrev unE (ok : Bool) (e : Int) : Int := bif ok then 0 else e
theorem blsI2 (a b : Int) : Bls Tryd.prog 153 2 [0, 1] [iD a, iD b] ([a, b].flatMap encI) := ⟨34, fun L w vs hv => by
  obtain ⟨u, v, rfl, rfl, rfl⟩ := all2 hv
  exact ⟨[.int .i64 a, .int .i64 b], ⟨rfl, rfl, trivial⟩, fun w' => by kernel_rfl⟩⟩
theorem blsI3 (a b c : Int) : Bls Tryd.prog 153 3 [0, 1, 2] [iD a, iD b, iD c] ([a, b, c].flatMap encI) := ⟨34, fun L w vs hv => by
  obtain ⟨u, v, z, rfl, rfl, rfl, rfl⟩ := all3 hv
  exact ⟨[.int .i64 a, .int .i64 b, .int .i64 c], ⟨rfl, rfl, rfl, trivial⟩, fun w' => by kernel_rfl⟩⟩
theorem all6 {L : List Nat} {w : World} {a b c d e f : D} {vs : List Value} (h : All L w [a, b, c, d, e, f] vs) : ∃ u v z x y t, vs = [u, v, z, x, y, t] ∧ a.R L w u ∧ b.R L w v ∧ c.R L w z ∧ d.R L w x ∧ e.R L w y ∧ f.R L w t := by
  match vs, h with
  | [u, v, z, x, y, t], ⟨h1, h2, h3, h4, h5, h6, _⟩ => exact ⟨u, v, z, x, y, t, rfl, h1, h2, h3, h4, h5, h6⟩
theorem blsI6 (a b c d e f : Int) : Bls Tryd.prog 153 6 [0, 1, 2, 3, 4, 5] [iD a, iD b, iD c, iD d, iD e, iD f] ([a, b, c, d, e, f].flatMap encI) := ⟨34, fun L w vs hv => by
  obtain ⟨u, v, z, x, y, t, rfl, rfl, rfl, rfl, rfl, rfl, rfl⟩ := all6 hv
  exact ⟨[.int .i64 a, .int .i64 b, .int .i64 c, .int .i64 d, .int .i64 e, .int .i64 f], ⟨rfl, rfl, rfl, rfl, rfl, rfl, trivial⟩, fun w' => by kernel_rfl⟩⟩
theorem bldA3s {n : List UInt8} {r : Int} {A : Option Addr} {k c : Nat} : Bld Tryd.prog 33 [0, 1, 2] [strD n, iD r, isD (.slice A k c)] [strD n, iD r, isD (.slice A k c), iD 0, iD 0] := fun L w vs hv => by
  obtain ⟨u, v, z, rfl, rfl, rfl, rfl⟩ := all3 hv
  exact ⟨[.string _, .int .i64 r, .slice A k c, .int .i64 0, .int .i64 0], ⟨rfl, rfl, rfl, rfl, rfl, trivial⟩, fun w' => by kernel_rfl⟩
theorem bldEn0 : Bld Tryd.prog 44 [] [] [strD [], iD 0, iD 0, isD (.slice none 0 0), isD (.slice none 0 0)] := fun L w vs h => by
  obtain rfl := all0 h
  exact ⟨[.string ⟨#[]⟩, .int .i64 0, .int .i64 0, .slice none 0 0, .slice none 0 0], ⟨rfl, rfl, rfl, rfl, rfl, trivial⟩, fun w' => by kernel_rfl⟩
theorem bldEn4 {n : List UInt8} {r s : Int} {b : List UInt8} : Bld Tryd.prog 44 [0, 1, 2, 3] [strD n, iD r, iD s, bD b] [strD n, iD r, iD s, bD b, isD (.slice none 0 0)] := fun L w vs hv => by
  match vs, hv with
  | [x, y, z, u], ⟨hx, hy, hz, h3, _⟩ =>
    cases hx; cases hy; cases hz
    have h3' := h3
    obtain ⟨A, cp, rfl, -⟩ := h3
    exact ⟨[.string _, .int .i64 r, .int .i64 s, .slice A _ cp, .slice none 0 0], ⟨rfl, rfl, rfl, h3', rfl, trivial⟩, fun w' => by kernel_rfl⟩
theorem Env.eq_iff {a b : Env.T} : a = b ↔ a.acc = b.acc ∧ a.rnd = b.rnd ∧ a.ser = b.ser ∧ a.box = b.box ∧ a.tag = b.tag := by
  constructor
  · rintro rfl; exact ⟨rfl, rfl, rfl, rfl, rfl⟩
  · obtain ⟨_, _, _, _, _⟩ := a; obtain ⟨_, _, _, _, _⟩ := b; rintro ⟨h1, h2, h3, h4, h5⟩; simp only at *; subst h1 h2 h3 h4 h5; rfl
instance : DecidableEq Env.T := fun a b => decidable_of_iff _ Env.eq_iff.symm
set_option maxHeartbeats 4000000 in
set_option maxRecDepth 100000 in
theorem con_within (x lo hi : Int) : ConN Tryd.prog 71 [iD x, iD lo, iD hi] (boolD (decide (lo ≤ x ∧ x ≤ hi))) := by
  refine con_ofN Tryd.func71 (by kernel_rfl) rfl (by kernel_rfl) fun base w0 => ?_
  refine SW.seq ?_
  refine SW.region ?_
  refine SWl.rd rfl (Rd.assign rfl) ?_
  refine SWl.nil ?_
  refine SN.then ?_
  refine SW.seq ?_
  refine SW.region ?_
  refine SWl.rd rfl (Rd.move rfl) ?_
  refine SWl.rd rfl (Rd.move rfl) ?_
  refine SWl.rd rfl (Rd.leq rfl rfl) ?_
  refine SWl.rd rfl (Rd.move rfl) ?_
  refine SWl.split 10 rfl (fun hb10 => ?_) (fun hb10 => ?_)
  · have h10 := of_decide_eq_true hb10
    refine SWl.rdg rfl rfl (hb10) rfl rfl (Rd.move rfl) ?_
    refine SWl.rdg rfl rfl (hb10) rfl rfl (Rd.move rfl) ?_
    refine SWl.rdg rfl rfl (hb10) rfl rfl (Rd.leq rfl rfl) ?_
    refine SWl.rd rfl (Rd.pickY rfl (hb10) rfl) ?_
    refine SWl.rd rfl (Rd.assign rfl) ?_
    refine SWl.nil ?_
    refine SN.then ?_
    refine SW.ret (fn := Tryd.f71) (fun _ _ h => h) (Rs.le (Rs.one rfl (ResV.tmp rfl)) ?_)
    exact le_bool_n (by rw [decide_eq_decide]; exact ⟨fun h => ⟨h10, h⟩, fun h => h.2⟩)
  · have h10 := of_decide_eq_false hb10
    refine SWl.off rfl rfl (hb10) rfl rfl ?_
    refine SWl.off rfl rfl (hb10) rfl rfl ?_
    refine SWl.off rfl rfl (hb10) rfl rfl ?_
    refine SWl.rd rfl (Rd.pickN rfl (hb10) rfl) ?_
    refine SWl.rd rfl (Rd.assign rfl) ?_
    refine SWl.nil ?_
    refine SN.then ?_
    refine SW.ret (fn := Tryd.f71) (fun _ _ h => h) (Rs.le (Rs.one rfl (ResV.tmp rfl)) ?_)
    exact le_bool_n (by symm; apply decide_eq_false; intro h; exact h10 h.1)
set_option maxHeartbeats 4000000 in
set_option maxRecDepth 100000 in
theorem con_first (l : List Int) (hl : l.length ≤ 100) : ConN Tryd.prog 62 [lsD encI l] (iD (firstE l)) := by
  refine con_ofN Tryd.func62 (by kernel_rfl) rfl (by kernel_rfl) fun base w0 => ?_
  refine SW.seq ?_
  refine SW.region ?_
  refine SWl.rd rfl (Rd.assign rfl) ?_
  refine SWl.nil ?_
  refine SN.then ?_
  refine SW.seq ?_
  refine SW.seq ?_
  refine SW.region ?_
  refine SWl.rd rfl (Rd.move rfl) ?_
  refine SWl.rd rfl (Rd.lenR (e := 34) rfl (by kernel_rfl)) ?_
  refine SWl.rd rfl (Rd.move rfl) ?_
  refine SWl.nil ?_
  refine SN.then ?_
  refine SW.block ?_
  refine SW.loop (ι := {i : Nat // i ≤ l.length ∧ ∀ y ∈ l.take i, y = 0}) (fun i => St.ob [(5, lsD encI l), (6, iD (l.length : Int)), (7, iD (i.1 : Int))] []) (fun i => l.length - i.1) (⟨0, by simp⟩) ?_ ?_
  · exact ⟨⟨_, rfl, ⟨⟨_, rfl, Le.refl _⟩, ⟨⟨_, rfl, Le.refl _⟩, ⟨⟨_, rfl, Le.refl _⟩, trivial⟩⟩⟩⟩, [], by decide, trivial⟩
  · rintro ⟨i, hi, ha⟩ K0 hK0
    dsimp only at hi ha ⊢
    refine SW.seq ?_
    refine SW.region ?_
    refine SWl.rd rfl (Rd.lss rfl rfl) ?_
    refine SWl.nil ?_
    refine SN.then ?_
    refine SW.seq ?_
    refine SW.cond rfl (fun hb8 => ?_) (fun hb8 => ?_)
    · have hb8 := of_decide_eq_true hb8
      refine SW.skip ?_
      refine SN.then ?_
      refine SW.seq ?_
      refine SW.block ?_
      refine SW.seq ?_
      obtain ⟨x, hx⟩ : ∃ x, l[i]? = some x := ⟨_, List.getElem?_eq_getElem (by omega)⟩
      refine SW.region ?_
      refine SWl.rd rfl (Rd.idxL (e := 34) 1 rfl rfl (by kernel_rfl) (by kernel_rfl) (by omega) (by simpa using hx)) ?_
      refine SWl.rd rfl (Rd.loadR rfl rfl (by kernel_rfl) (by simp)) ?_
      refine SWl.rd rfl (Rd.assign rfl) ?_
      refine SWl.nil ?_
      refine SN.then ?_
      refine SW.seq ?_
      refine SW.region ?_
      refine SWl.rd rfl (Rd.move rfl) ?_
      refine SWl.rd rfl (Rd.nei rfl rfl) ?_
      refine SWl.nil ?_
      refine SN.then ?_
      refine SW.cond rfl (fun hb12 => ?_) (fun hb12 => ?_)
      · skip
        refine SW.seq ?_
        refine SW.region ?_
        refine SWl.rd rfl (Rd.move rfl) ?_
        refine SWl.rd rfl (Rd.assign rfl) ?_
        refine SWl.nil ?_
        refine SN.then ?_
        refine SW.ret (fn := Tryd.f62) (fun _ _ h => h) (Rs.le (Rs.one rfl (ResV.tmp rfl)) ?_)
        exact Le.trans (Le.is (by rw [firstE_at ha hx (by simpa using hb12)])) le_nw_is
      · skip
        refine SW.skip ?_
        refine SN.block ?_
        refine SN.then ?_
        refine SW.region ?_
        refine SWl.rd rfl (Rd.add rfl rfl ⟨by omega, by omega⟩) ?_
        refine SWl.rd rfl (Rd.move rfl) ?_
        refine SWl.nil ?_
        exact fun a w hh => hK0 (⟨i + 1, by omega, fun y hy => by rw [take_snoc hx] at hy; rcases List.mem_append.1 hy with hy | hy; exact ha y hy; rw [List.mem_singleton.1 hy]; simpa using hb12⟩) (by dsimp only; omega) a w (hh.sub (⟨⟨_, rfl, ⟨⟨_, rfl, Le.refl _⟩, ⟨⟨_, rfl, Le.refl _⟩, ⟨⟨_, rfl, Le.is (by simp)⟩, trivial⟩⟩⟩⟩, [], by decide, trivial⟩))
    · have hb8 := of_decide_eq_false hb8
      refine SW.exit' ?_
      repeat (first | refine SE.then ?_ | refine SE.skip (by decide) ?_)
      refine SE.here ?_
      refine SN.then ?_
      refine SW.seq ?_
      refine SW.region ?_
      refine SWl.rd rfl (Rd.assign rfl) ?_
      refine SWl.nil ?_
      refine SN.then ?_
      refine SW.ret (fn := Tryd.f62) (fun _ _ h => h) (Rs.le (Rs.one rfl (ResV.tmp rfl)) ?_)
      exact Le.trans (Le.is (by rw [firstE_all (fun y hy => ha y (by rw [List.take_of_length_le (by omega)]; exact hy))])) le_nw_is
set_option maxHeartbeats 4000000 in
set_option maxRecDepth 100000 in
theorem con_unlessE (ok : Bool) (e : Int) : ConN Tryd.prog 63 [boolD ok, iD e] (iD (unE ok e)) := by
  refine con_ofN Tryd.func63 (by kernel_rfl) rfl (by kernel_rfl) fun base w0 => ?_
  refine SW.seq ?_
  refine SW.region ?_
  refine SWl.rd rfl (Rd.assign rfl) ?_
  refine SWl.nil ?_
  refine SN.then ?_
  refine SW.seq ?_
  refine SW.seq ?_
  refine SW.region ?_
  refine SWl.rd rfl (Rd.move rfl) ?_
  refine SWl.nil ?_
  refine SN.then ?_
  refine SW.cond rfl (fun hb5 => ?_) (fun hb5 => ?_)
  · subst hb5
    refine SW.seq ?_
    refine SW.region ?_
    refine SWl.rd rfl (Rd.assign rfl) ?_
    refine SWl.nil ?_
    refine SN.then ?_
    refine SW.ret (fn := Tryd.f63) (fun _ _ h => h) (Rs.le (Rs.one rfl (ResV.tmp rfl)) ?_)
    exact le_nw_is
  · subst hb5
    refine SW.skip ?_
    refine SN.then ?_
    refine SW.seq ?_
    refine SW.region ?_
    refine SWl.rd rfl (Rd.move rfl) ?_
    refine SWl.rd rfl (Rd.assign rfl) ?_
    refine SWl.nil ?_
    refine SN.then ?_
    refine SW.ret (fn := Tryd.f63) (fun _ _ h => h) (Rs.le (Rs.one rfl (ResV.tmp rfl)) ?_)
    exact le_nw_is
set_option maxHeartbeats 4000000 in
set_option maxRecDepth 100000 in
theorem con_namedE (nm : List UInt8) : ConN Tryd.prog 75 [strD nm] (boolD (decide (Acc.isName nm))) := by
  refine con_ofN Tryd.func75 (by kernel_rfl) rfl (by kernel_rfl) fun base w0 => ?_
  refine SW.seq ?_
  refine SW.region ?_
  refine SWl.rd rfl (Rd.assign rfl) ?_
  refine SWl.nil ?_
  refine SN.then ?_
  refine SW.seq ?_
  refine SW.region ?_
  refine SWl.rd rfl (Rd.move rfl) ?_
  refine SWl.ef (S := []) (Ef.make (e := 5) (z := .int .u8 0) (n := 32) 1 rfl rfl (by kernel_rfl) (by kernel_rfl) rfl rfl rfl (by decide) (by decide) rfl) ?_
  rintro _ ⟨g4, rfl⟩
  refine SWl.rd rfl (Rd.build rfl rfl (bldA3s (n := nm) (r := 3))) ?_
  refine SWl.ef (S := []) (Ef.callN [] (con_validA nm 3 32 0 0) rfl ⟨(sees_le (Le.agg ⟨Le.refl _, Le.refl _, le_is_len, Le.refl _, Le.refl _, trivial⟩)), trivial⟩ rfl) ?_
  rintro _ rfl
  refine SWl.rd rfl (Rd.assign rfl) ?_
  refine SWl.nil ?_
  refine SN.then ?_
  refine SW.ret (fn := Tryd.f75) (fun _ _ h => h) (Rs.le (Rs.one rfl (ResV.tmp rfl)) ?_)
  exact le_bool_n (by rw [decide_eq_decide]; unfold Acc.okN; exact ⟨fun h => h.1, fun h => ⟨h, rfl, by decide, by decide, by decide, by decide⟩⟩)
set_option maxHeartbeats 4000000 in
set_option maxRecDepth 100000 in
theorem con_validE (nm : List UInt8) (rnd ser : Int) (bl tl : Nat) : ConN Tryd.prog 27 [aggD [strD nm, iD rnd, iD ser, lenD bl, lenD tl]] (boolD (decide (Env.okV nm rnd ser bl tl))) := by
  refine con_ofN Tryd.func27 (by kernel_rfl) rfl (by kernel_rfl) fun base w0 => ?_
  refine SW.seq ?_
  refine SW.region ?_
  refine SWl.ef (S := []) (Ef.boxA rfl rfl) ?_
  rintro _ ⟨g1, rfl⟩
  refine SWl.rd rfl (Rd.assign rfl) ?_
  refine SWl.nil ?_
  refine SN.then ?_
  refine SW.seq ?_
  refine SW.region ?_
  refine SWl.rd rfl (Rd.fieldAddr (n := 0) rfl (by kernel_rfl)) ?_
  refine SWl.rd rfl (Rd.loadB 0 rfl rfl rfl (by kernel_rfl) ap_nil) ?_
  refine SWl.ef (S := []) (Ef.callN [] (con_namedE nm) rfl ⟨(sees_le (Le.refl _)), trivial⟩ rfl) ?_
  rintro _ rfl
  refine SWl.rd rfl (Rd.move rfl) ?_
  refine SWl.split 6 rfl (fun hb6 => ?_) (fun hb6 => ?_)
  · have h6 := of_decide_eq_true hb6
    refine SWl.rdg rfl rfl (hb6) rfl rfl (Rd.fieldAddr (n := 1) rfl (by kernel_rfl)) ?_
    refine SWl.rdg rfl rfl (hb6) rfl rfl (Rd.loadB 0 rfl rfl rfl (by kernel_rfl) ap_nil) ?_
    refine SWl.efg (S := []) rfl rfl (hb6) rfl (Ef.callN [] (con_within rnd 0 1048576) rfl ⟨(sees_le (Le.refl _)), (sees_le (Le.refl _)), (sees_le (Le.refl _)), trivial⟩ rfl) ?_
    rintro _ rfl
    refine SWl.rd rfl (Rd.pickY rfl (hb6) rfl) ?_
    refine SWl.rd rfl (Rd.move rfl) ?_
    refine SWl.split 11 rfl (fun hb11 => ?_) (fun hb11 => ?_)
    · have h11 := of_decide_eq_true hb11
      refine SWl.rdg rfl rfl (hb11) rfl rfl (Rd.fieldAddr (n := 2) rfl (by kernel_rfl)) ?_
      refine SWl.rdg rfl rfl (hb11) rfl rfl (Rd.loadB 0 rfl rfl rfl (by kernel_rfl) ap_nil) ?_
      refine SWl.efg (S := []) rfl rfl (hb11) rfl (Ef.callN [] (con_within ser 0 1073741824) rfl ⟨(sees_le (Le.refl _)), (sees_le (Le.refl _)), (sees_le (Le.refl _)), trivial⟩ rfl) ?_
      rintro _ rfl
      refine SWl.rd rfl (Rd.pickY rfl (hb11) rfl) ?_
      refine SWl.rd rfl (Rd.move rfl) ?_
      refine SWl.split 16 rfl (fun hb16 => ?_) (fun hb16 => ?_)
      · have h16 := of_decide_eq_true hb16
        refine SWl.rdg rfl rfl (hb16) rfl rfl (Rd.fieldAddr (n := 3) rfl (by kernel_rfl)) ?_
        refine SWl.rdg rfl rfl (hb16) rfl rfl (Rd.loadB 0 rfl rfl rfl (by kernel_rfl) ap_nil) ?_
        refine SWl.rdg rfl rfl (hb16) rfl rfl (Rd.lenN (e := 5) rfl (by kernel_rfl)) ?_
        refine SWl.efg (S := []) rfl rfl (hb16) rfl (Ef.callN [] (con_within (bl : Int) 32 4128) rfl ⟨(sees_le (Le.refl _)), (sees_le (Le.refl _)), (sees_le (Le.refl _)), trivial⟩ rfl) ?_
        rintro _ rfl
        refine SWl.rd rfl (Rd.pickY rfl (hb16) rfl) ?_
        refine SWl.rd rfl (Rd.move rfl) ?_
        refine SWl.split 22 rfl (fun hb22 => ?_) (fun hb22 => ?_)
        · have h22 := of_decide_eq_true hb22
          refine SWl.rdg rfl rfl (hb22) rfl rfl (Rd.fieldAddr (n := 4) rfl (by kernel_rfl)) ?_
          refine SWl.rdg rfl rfl (hb22) rfl rfl (Rd.loadB 0 rfl rfl rfl (by kernel_rfl) ap_nil) ?_
          refine SWl.rdg rfl rfl (hb22) rfl rfl (Rd.lenN (e := 5) rfl (by kernel_rfl)) ?_
          refine SWl.rdg rfl rfl (hb22) rfl rfl (Rd.eqi rfl rfl) ?_
          refine SWl.rd rfl (Rd.pickY rfl (hb22) rfl) ?_
          refine SWl.rd rfl (Rd.assign rfl) ?_
          refine SWl.nil ?_
          refine SN.then ?_
          refine SW.ret (fn := Tryd.f27) (fun _ _ h => h) (Rs.le (Rs.one rfl (ResV.tmp rfl)) ?_)
          exact le_bool_n (by rw [decide_eq_decide]; exact ⟨fun h => ⟨h6, h11, h16, ⟨by omega, by omega⟩, by omega⟩, fun h => by have := h.2.2.2.2; omega⟩)
        · have h22 := of_decide_eq_false hb22
          refine SWl.off rfl rfl (hb22) rfl rfl ?_
          refine SWl.off rfl rfl (hb22) rfl rfl ?_
          refine SWl.off rfl rfl (hb22) rfl rfl ?_
          refine SWl.off rfl rfl (hb22) rfl rfl ?_
          refine SWl.rd rfl (Rd.pickN rfl (hb22) rfl) ?_
          refine SWl.rd rfl (Rd.assign rfl) ?_
          refine SWl.nil ?_
          refine SN.then ?_
          refine SW.ret (fn := Tryd.f27) (fun _ _ h => h) (Rs.le (Rs.one rfl (ResV.tmp rfl)) ?_)
          exact le_bool_n (by symm; apply decide_eq_false; intro h; exact h22 ⟨by have := h.2.2.2.1; omega, by have := h.2.2.2.1; omega⟩)
      · have h16 := of_decide_eq_false hb16
        refine SWl.off rfl rfl (hb16) rfl rfl ?_
        refine SWl.off rfl rfl (hb16) rfl rfl ?_
        refine SWl.off rfl rfl (hb16) rfl rfl ?_
        refine SWl.off rfl rfl (hb16) rfl rfl ?_
        refine SWl.rd rfl (Rd.pickN rfl (hb16) rfl) ?_
        refine SWl.rd rfl (Rd.move rfl) ?_
        refine SWl.off rfl rfl (rfl) rfl rfl ?_
        refine SWl.off rfl rfl (rfl) rfl rfl ?_
        refine SWl.off rfl rfl (rfl) rfl rfl ?_
        refine SWl.off rfl rfl (rfl) rfl rfl ?_
        refine SWl.rd rfl (Rd.pickN rfl (rfl) rfl) ?_
        refine SWl.rd rfl (Rd.assign rfl) ?_
        refine SWl.nil ?_
        refine SN.then ?_
        refine SW.ret (fn := Tryd.f27) (fun _ _ h => h) (Rs.le (Rs.one rfl (ResV.tmp rfl)) ?_)
        exact le_bool_n (by symm; apply decide_eq_false; intro h; exact h16 h.2.2.1)
    · have h11 := of_decide_eq_false hb11
      refine SWl.off rfl rfl (hb11) rfl rfl ?_
      refine SWl.off rfl rfl (hb11) rfl rfl ?_
      refine SWl.off rfl rfl (hb11) rfl rfl ?_
      refine SWl.rd rfl (Rd.pickN rfl (hb11) rfl) ?_
      refine SWl.rd rfl (Rd.move rfl) ?_
      refine SWl.off rfl rfl (rfl) rfl rfl ?_
      refine SWl.off rfl rfl (rfl) rfl rfl ?_
      refine SWl.off rfl rfl (rfl) rfl rfl ?_
      refine SWl.off rfl rfl (rfl) rfl rfl ?_
      refine SWl.rd rfl (Rd.pickN rfl (rfl) rfl) ?_
      refine SWl.rd rfl (Rd.move rfl) ?_
      refine SWl.off rfl rfl (rfl) rfl rfl ?_
      refine SWl.off rfl rfl (rfl) rfl rfl ?_
      refine SWl.off rfl rfl (rfl) rfl rfl ?_
      refine SWl.off rfl rfl (rfl) rfl rfl ?_
      refine SWl.rd rfl (Rd.pickN rfl (rfl) rfl) ?_
      refine SWl.rd rfl (Rd.assign rfl) ?_
      refine SWl.nil ?_
      refine SN.then ?_
      refine SW.ret (fn := Tryd.f27) (fun _ _ h => h) (Rs.le (Rs.one rfl (ResV.tmp rfl)) ?_)
      exact le_bool_n (by symm; apply decide_eq_false; intro h; exact h11 h.2.1)
  · have h6 := of_decide_eq_false hb6
    refine SWl.off rfl rfl (hb6) rfl rfl ?_
    refine SWl.off rfl rfl (hb6) rfl rfl ?_
    refine SWl.off rfl rfl (hb6) rfl rfl ?_
    refine SWl.rd rfl (Rd.pickN rfl (hb6) rfl) ?_
    refine SWl.rd rfl (Rd.move rfl) ?_
    refine SWl.off rfl rfl (rfl) rfl rfl ?_
    refine SWl.off rfl rfl (rfl) rfl rfl ?_
    refine SWl.off rfl rfl (rfl) rfl rfl ?_
    refine SWl.rd rfl (Rd.pickN rfl (rfl) rfl) ?_
    refine SWl.rd rfl (Rd.move rfl) ?_
    refine SWl.off rfl rfl (rfl) rfl rfl ?_
    refine SWl.off rfl rfl (rfl) rfl rfl ?_
    refine SWl.off rfl rfl (rfl) rfl rfl ?_
    refine SWl.off rfl rfl (rfl) rfl rfl ?_
    refine SWl.rd rfl (Rd.pickN rfl (rfl) rfl) ?_
    refine SWl.rd rfl (Rd.move rfl) ?_
    refine SWl.off rfl rfl (rfl) rfl rfl ?_
    refine SWl.off rfl rfl (rfl) rfl rfl ?_
    refine SWl.off rfl rfl (rfl) rfl rfl ?_
    refine SWl.off rfl rfl (rfl) rfl rfl ?_
    refine SWl.rd rfl (Rd.pickN rfl (rfl) rfl) ?_
    refine SWl.rd rfl (Rd.assign rfl) ?_
    refine SWl.nil ?_
    refine SN.then ?_
    refine SW.ret (fn := Tryd.f27) (fun _ _ h => h) (Rs.le (Rs.one rfl (ResV.tmp rfl)) ?_)
    exact le_bool_n (by symm; apply decide_eq_false; intro h; exact h6 h.1)
set_option maxHeartbeats 4000000 in
set_option maxRecDepth 100000 in
theorem con_writeE (gw : Nat) (t : Ust) (o : List UInt8) (e : Env.T) (h1 : e.acc.length ≤ 1000) (h2 : 0 ≤ e.rnd ∧ e.rnd ≤ 1048576) (h3 : 0 ≤ e.ser ∧ e.ser ≤ 1073741824) (h4 : e.box.length ≤ 10000) (ho : o.length ≤ 10000) : ConR Tryd.prog 83 [.c gw [iD 0, isD (.slice t.A (o).length t.c)], .r t.F (vecT 5 1 encB t.A t.c (o))] [isD (.pointer (some ⟨gw, 0, none⟩)), aggD [strD e.acc, iD e.rnd, iD e.ser, bD e.box, bD e.tag]] (fun s : Ust => [.c gw [iD 0, isD (.slice s.A (o ++ Env.sgnT e).length s.c)], .r s.F (vecT 5 1 encB s.A s.c (o ++ Env.sgnT e))]) (fun s : Ust => isD (.tuple #[])) := by
  have a1 := strE_len (b := e.acc) (by omega)
  have a2 := strE_len (b := e.box) (by omega)
  have a3 := grp_ten (n := e.rnd.toNat) (by omega)
  have a4 := grp_ten (n := e.ser.toNat) (by omega)
  refine con_ofR Tryd.func83 (by kernel_rfl) rfl (by kernel_rfl) fun base w0 => ?_
  refine SW.seq ?_
  refine SW.region ?_
  refine SWl.ef (S := []) (Ef.boxA rfl rfl) ?_
  rintro _ ⟨g3, rfl⟩
  refine SWl.nil ?_
  refine SN.then ?_
  refine SW.seq ?_
  refine SW.region ?_
  refine SWl.rd rfl (Rd.move rfl) ?_
  refine SWl.rd rfl (Rd.makeFuncB [.pointer (some ⟨gw, 0, none⟩)] rfl) ?_
  refine SWl.rd rfl (Rd.move rfl) ?_
  refine SWl.rd rfl (Rd.makeFuncB [.pointer (some ⟨gw, 0, none⟩)] rfl) ?_
  refine SWl.rd rfl (Rd.move rfl) ?_
  refine SWl.rd rfl (Rd.makeFuncB [.pointer (some ⟨gw, 0, none⟩)] rfl) ?_
  refine SWl.rd rfl (Rd.assign rfl) ?_
  refine SWl.rd rfl (Rd.assign rfl) ?_
  refine SWl.rd rfl (Rd.assign rfl) ?_
  refine SWl.nil ?_
  refine SN.then ?_
  refine SW.seq ?_
  refine SW.region ?_
  refine SWl.rd rfl (Rd.move rfl) ?_
  refine SWl.rd rfl (Rd.fieldAddr (n := 0) rfl (by kernel_rfl)) ?_
  refine SWl.rd rfl (Rd.loadB 2 rfl rfl rfl (by kernel_rfl) ap_nil) ?_
  refine SWl.ef (Ef.callBR (bd := [.pointer (some ⟨gw, 0, none⟩)]) [0, 1] (con_wString gw t (o) e.acc (by first | omega | (simp only [List.length_append] at *; omega))) rfl rfl ⟨Le.refl _, Le.refl _, trivial⟩ (by decide) ⟨⟨_, rfl, LeAll.refl _⟩, ⟨⟨_, rfl, LeR.refl _⟩, trivial⟩⟩ (fun _ h => h) rfl) ?_
  rintro _ ⟨s16, rfl⟩
  refine SWl.nil ?_
  refine SN.then ?_
  refine SW.seq ?_
  refine SW.region ?_
  refine SWl.rd rfl (Rd.move rfl) ?_
  refine SWl.rd rfl (Rd.fieldAddr (n := 1) rfl (by kernel_rfl)) ?_
  refine SWl.rd rfl (Rd.loadB 0 rfl rfl rfl (by kernel_rfl) ap_nil) ?_
  refine SWl.ef (Ef.callBR (bd := [.pointer (some ⟨gw, 0, none⟩)]) [1, 2] (con_wUint gw s16 (o ++ strE e.acc) e.rnd.toNat (by omega) (by first | omega | (simp only [List.length_append] at *; omega))) rfl rfl ⟨Le.refl _, Le.is (by rw [Int.toNat_of_nonneg h2.1]), trivial⟩ (by decide) ⟨⟨_, rfl, LeAll.refl _⟩, ⟨⟨_, rfl, LeR.refl _⟩, trivial⟩⟩ (fun _ h => h) rfl) ?_
  rintro _ ⟨s20, rfl⟩
  refine SWl.nil ?_
  refine SN.then ?_
  refine SW.seq ?_
  refine SW.region ?_
  refine SWl.rd rfl (Rd.move rfl) ?_
  refine SWl.rd rfl (Rd.fieldAddr (n := 2) rfl (by kernel_rfl)) ?_
  refine SWl.rd rfl (Rd.loadB 0 rfl rfl rfl (by kernel_rfl) ap_nil) ?_
  refine SWl.ef (Ef.callBR (bd := [.pointer (some ⟨gw, 0, none⟩)]) [1, 2] (con_wUint gw s20 (o ++ strE e.acc ++ grp e.rnd.toNat) e.ser.toNat (by omega) (by first | omega | (simp only [List.length_append] at *; omega))) rfl rfl ⟨Le.refl _, Le.is (by rw [Int.toNat_of_nonneg h3.1]), trivial⟩ (by decide) ⟨⟨_, rfl, LeAll.refl _⟩, ⟨⟨_, rfl, LeR.refl _⟩, trivial⟩⟩ (fun _ h => h) rfl) ?_
  rintro _ ⟨s24, rfl⟩
  refine SWl.nil ?_
  refine SN.then ?_
  refine SW.region ?_
  refine SWl.rd rfl (Rd.move rfl) ?_
  refine SWl.rd rfl (Rd.fieldAddr (n := 3) rfl (by kernel_rfl)) ?_
  refine SWl.rd rfl (Rd.loadB 0 rfl rfl rfl (by kernel_rfl) ap_nil) ?_
  refine SWl.ef (Ef.callBR (bd := [.pointer (some ⟨gw, 0, none⟩)]) [1, 2] (con_wBytes gw s24 (o ++ strE e.acc ++ grp e.rnd.toNat ++ grp e.ser.toNat) e.box (by first | omega | (simp only [List.length_append] at *; omega))) rfl rfl ⟨Le.refl _, Le.refl _, trivial⟩ (by decide) ⟨⟨_, rfl, LeAll.refl _⟩, ⟨⟨_, rfl, LeR.refl _⟩, trivial⟩⟩ (fun _ h => h) rfl) ?_
  rintro _ ⟨s28, rfl⟩
  refine SWl.nil ?_
  refine SN.retR (fn := Tryd.f83) (s28) [1, 2] (Rs.none rfl) (by decide) ⟨⟨_, rfl, ⟨Le.refl _, Le.is (by rw [(show o ++ strE e.acc ++ grp e.rnd.toNat ++ grp e.ser.toNat ++ strE e.box = o ++ Env.sgnT e from by simp [Env.sgnT, Env.sgn, List.append_assoc])]), trivial⟩⟩, ⟨⟨_, rfl, leVec (by rw [(show o ++ strE e.acc ++ grp e.rnd.toNat ++ grp e.ser.toNat ++ strE e.box = o ++ Env.sgnT e from by simp [Env.sgnT, Env.sgn, List.append_assoc])]) (by rw [(show o ++ strE e.acc ++ grp e.rnd.toNat ++ grp e.ser.toNat ++ strE e.box = o ++ Env.sgnT e from by simp [Env.sgnT, Env.sgn, List.append_assoc])])⟩, trivial⟩⟩
set_option maxHeartbeats 4000000 in
set_option maxRecDepth 100000 in
theorem con_signedE (e : Env.T) (h1 : e.acc.length ≤ 1000) (h2 : 0 ≤ e.rnd ∧ e.rnd ≤ 1048576) (h3 : 0 ≤ e.ser ∧ e.ser ≤ 1073741824) (h4 : e.box.length ≤ 10000) : Con Tryd.prog 73 [aggD [strD e.acc, iD e.rnd, iD e.ser, bD e.box, bD e.tag]] (tupD [bD (Env.sgnT e), iD 0]) := by
  refine con_of Tryd.func73 (by kernel_rfl) rfl (by kernel_rfl) fun base w0 => ?_
  refine SW.seq ?_
  refine SW.region ?_
  refine SWl.ef (S := []) (Ef.boxA rfl rfl) ?_
  rintro _ ⟨g1, rfl⟩
  refine SWl.rd rfl (Rd.assign rfl) ?_
  refine SWl.rd rfl (Rd.assign rfl) ?_
  refine SWl.nil ?_
  refine SN.then ?_
  refine SW.seq ?_
  refine SW.region ?_
  refine SWl.ef (S := []) (Ef.alloc (zs := [.int .i64 0, .slice none 0 0]) (by kernel_rfl) rfl) ?_
  rintro _ ⟨g4, rfl⟩
  refine SWl.nil ?_
  refine SN.then ?_
  refine SW.seq ?_
  refine SW.vecN 5 1 encB ?_
  refine SW.sub (σ' := St.ob [(1, isD (.pointer (some ⟨g1, 0, none⟩))), (4, isD (.pointer (some ⟨g4, 0, none⟩)))] [.c g1 [strD e.acc, iD e.rnd, iD e.ser, bD e.box, bD e.tag], .c g4 [iD 0, isD (.slice (⟨none, 0, []⟩ : Ust).A (([] : List UInt8)).length (⟨none, 0, []⟩ : Ust).c)], .r (⟨none, 0, []⟩ : Ust).F (vecT 5 1 encB (⟨none, 0, []⟩ : Ust).A (⟨none, 0, []⟩ : Ust).c (([] : List UInt8)))]) (⟨⟨_, rfl, ⟨⟨_, rfl, Le.refl _⟩, ⟨⟨_, rfl, Le.refl _⟩, trivial⟩⟩⟩, [0, 1, 2], by decide, ⟨⟨_, rfl, LeAll.refl _⟩, ⟨⟨_, rfl, LeAll.refl _⟩, ⟨⟨_, rfl, LeR.refl _⟩, trivial⟩⟩⟩⟩) ?_
  refine SW.region ?_
  refine SWl.rd rfl (Rd.loadA 0 5 rfl rfl (by kernel_rfl) rfl ap_nil) ?_
  refine SWl.ef (Ef.callR [1, 2] (con_writeE g4 (⟨none, 0, []⟩ : Ust) [] e h1 h2 h3 h4 (by decide)) rfl ⟨Le.refl _, Le.refl _, trivial⟩ (by decide) ⟨⟨_, rfl, LeAll.refl _⟩, ⟨⟨_, rfl, LeR.refl _⟩, trivial⟩⟩ (fun _ h => h) rfl) ?_
  rintro _ ⟨s6, rfl⟩
  refine SWl.nil ?_
  refine SN.then ?_
  refine SW.seq ?_
  refine SW.region ?_
  refine SWl.ef (Ef.callR [1, 2] (con_wEnd g4 s6 ([] ++ Env.sgnT e) (by have := Env.sgn_len (nm := e.acc) (box := e.box) (by omega) (by omega) h2.2 h3.2; show (Env.sgn _ _ _ _).length ≤ _; omega)) rfl ⟨Le.refl _, trivial⟩ (by decide) ⟨⟨_, rfl, LeAll.refl _⟩, ⟨⟨_, rfl, LeR.refl _⟩, trivial⟩⟩ (fun _ h => h) rfl) ?_
  rintro _ ⟨⟨⟩, rfl⟩
  refine SWl.rd rfl (Rd.extract rfl rfl) ?_
  refine SWl.rd rfl (Rd.extract rfl rfl) ?_
  refine SWl.rd rfl (Rd.assign rfl) ?_
  refine SWl.rd rfl (Rd.assign rfl) ?_
  refine SWl.nil ?_
  refine SN.then ?_
  refine SW.ret (fn := Tryd.f73) (fun _ _ h => h) (Rs.le (Rs.two rfl (ResV.tmp rfl) (ResV.tmp rfl)) ?_)
  exact Le.refl _
set_option maxHeartbeats 4000000 in
set_option maxRecDepth 100000 in
theorem con_deriveE (key nm : List UInt8) (hk : key.length = 32) (hn : nm.length ≤ 32) : Con Tryd.prog 65 [bD key, strD nm] (tupD [bD (Env.keyB key nm), iD 0]) := by
  refine con_of Tryd.func65 (by kernel_rfl) rfl (by kernel_rfl) fun base w0 => ?_
  refine SW.seq ?_
  refine SW.region ?_
  refine SWl.rd rfl (Rd.assign rfl) ?_
  refine SWl.rd rfl (Rd.assign rfl) ?_
  refine SWl.nil ?_
  refine SN.then ?_
  refine SW.seq ?_
  refine SW.region ?_
  refine SWl.rd rfl (Rd.move rfl) ?_
  refine SWl.rd rfl (Rd.move rfl) ?_
  refine SWl.rd rfl (Rd.sadd rfl rfl (by simp; omega)) ?_
  refine SWl.ef (S := []) (Ef.call (con_derive key _ hk (by simp) (by simp; omega)) rfl ⟨Le.refl _, Le.refl _, trivial⟩ rfl) ?_
  rintro _ rfl
  refine SWl.rd rfl (Rd.extract rfl rfl) ?_
  refine SWl.rd rfl (Rd.extract rfl rfl) ?_
  refine SWl.rd rfl (Rd.assign rfl) ?_
  refine SWl.rd rfl (Rd.assign rfl) ?_
  refine SWl.nil ?_
  refine SN.then ?_
  refine SW.ret (fn := Tryd.f65) (fun _ _ h => h) (Rs.le (Rs.two rfl (ResV.tmp rfl) (ResV.tmp rfl)) ?_)
  exact Le.refl _
end Sx
end Go.Proofs.YtchbgfgboogniaaDoor
namespace Go.Proofs.YtchbgfgboogniaaDoor
open Go.RowKit
namespace Sx
abbrev okD (e : Env.T) : Bool := decide (Env.okV e.acc e.rnd e.ser e.box.length e.tag.length)
theorem okD_t {e : Env.T} (h : Env.ok e) : okD e = true := decide_eq_true h
theorem okD_f {e : Env.T} (h : ¬ Env.ok e) : okD e = false := decide_eq_false h
theorem firstE_u {l : List Int} {e : Int} : firstE (unE true e :: l) = firstE l := firstE_zero
theorem firstE_f {l : List Int} {e : Int} (h : e ≠ 0) : firstE (unE false e :: l) = e := firstE_cons h
theorem pre2_ok {e : Env.T} (h : Env.ok e) (m : Int) : firstE [unE true 1, unE (okD e) m] = 0 := by rw [okD_t h, firstE_u, firstE_u]; rfl
theorem pre2_no {e : Env.T} (h : ¬ Env.ok e) {m : Int} (hm : m ≠ 0) : firstE [unE true 1, unE (okD e) m] = m := by rw [okD_f h, firstE_u, firstE_f hm]
theorem pre3_ok {e : Env.T} {key : List UInt8} (h : key.length = 32 ∧ Env.ok e) : firstE [unE true 1, unE (decide (((cellsOf key).length : Int) = 32)) 2, unE (okD e) 2] = 0 := by
  rw [okD_t h.2, decide_eq_true (show ((cellsOf key).length : Int) = 32 by rw [cellsOf_length]; omega), firstE_u, firstE_u, firstE_u]; rfl
theorem pre3_no {e : Env.T} {key : List UInt8} (h : ¬ (key.length = 32 ∧ Env.ok e)) : firstE [unE true 1, unE (decide (((cellsOf key).length : Int) = 32)) 2, unE (okD e) 2] = 2 := by
  by_cases h1 : key.length = 32
  · rw [okD_f (fun h2 => h ⟨h1, h2⟩), decide_eq_true (show ((cellsOf key).length : Int) = 32 by rw [cellsOf_length]; omega), firstE_u, firstE_u, firstE_f (by decide)]
  · rw [decide_eq_false (show ¬ ((cellsOf key).length : Int) = 32 by rw [cellsOf_length]; omega), firstE_u, firstE_f (by decide)]
theorem op_no {l : List Acc.T} {e : Env.T} {key : List UInt8} (h : ¬ (key.length = 32 ∧ Env.ok e)) : Env.opE l e key = 2 ∧ Env.opB l e key = [] := by
  have he : Env.opE l e key = 2 := by
    unfold Env.opE
    by_cases h1 : key.length = 32
    · rw [if_pos h1]
      have : Env.autE l e = 2 := by unfold Env.autE; rw [if_neg (fun h2 => h ⟨h1, h2⟩)]
      rw [this]; rfl
    · rw [if_neg h1]
  exact ⟨he, by unfold Env.opB; rw [if_neg (by rw [he]; decide)]⟩
theorem op_aut {l : List Acc.T} {e : Env.T} {key : List UInt8} (h : key.length = 32 ∧ Env.ok e) (ha : Acc.verE l e.acc (Env.sgnT e) e.tag ≠ 0) : Env.opE l e key = Acc.verE l e.acc (Env.sgnT e) e.tag ∧ Env.opB l e key = [] := by
  have h2 : Env.autE l e = Acc.verE l e.acc (Env.sgnT e) e.tag := by unfold Env.autE; rw [if_pos h.2]
  have he : Env.opE l e key = Acc.verE l e.acc (Env.sgnT e) e.tag := by unfold Env.opE; rw [if_pos h.1, h2, if_pos ha]
  exact ⟨he, by unfold Env.opB; rw [if_neg (by rw [he]; exact ha)]⟩
theorem op_bad {l : List Acc.T} {e : Env.T} {key : List UInt8} (h : key.length = 32 ∧ Env.ok e) (ha : ¬ Acc.verE l e.acc (Env.sgnT e) e.tag ≠ 0) (hb : (Sl.openB (Env.keyB key e.acc) e.box).2 ≠ 0) : Env.opE l e key = 10 ∧ Env.opB l e key = [] := by
  have h2 : Env.autE l e = Acc.verE l e.acc (Env.sgnT e) e.tag := by unfold Env.autE; rw [if_pos h.2]
  have he : Env.opE l e key = 10 := by unfold Env.opE; rw [if_pos h.1, h2, if_neg ha, if_pos hb]
  exact ⟨he, by unfold Env.opB; rw [if_neg (by rw [he]; decide)]⟩
theorem op_ok {l : List Acc.T} {e : Env.T} {key : List UInt8} (h : key.length = 32 ∧ Env.ok e) (ha : ¬ Acc.verE l e.acc (Env.sgnT e) e.tag ≠ 0) (hb : ¬ (Sl.openB (Env.keyB key e.acc) e.box).2 ≠ 0) : Env.opE l e key = 0 ∧ Env.opB l e key = (Sl.openB (Env.keyB key e.acc) e.box).1 := by
  have h2 : Env.autE l e = Acc.verE l e.acc (Env.sgnT e) e.tag := by unfold Env.autE; rw [if_pos h.2]
  have he : Env.opE l e key = 0 := by unfold Env.opE; rw [if_pos h.1, h2, if_neg ha, if_neg hb]
  exact ⟨he, by unfold Env.opB; rw [if_pos he]⟩
theorem decE_first (p : List UInt8) : firstE [endE (Env.rd ⟨p, 0⟩).2, unE (okD (Env.rd ⟨p, 0⟩).1) 6] = Env.decE p := by
  unfold Env.decE
  by_cases h : endE (Env.rd ⟨p, 0⟩).2 = 0
  · rw [h, firstE_zero, if_neg (by simp)]
    by_cases h2 : Env.ok (Env.rd ⟨p, 0⟩).1
    · rw [okD_t h2, firstE_u, if_pos h2]; rfl
    · rw [okD_f h2, firstE_f (by decide), if_neg h2]
  · rw [firstE_cons h, if_pos h]
theorem pre6 (rnd ser : Int) (key nonce bid : List UInt8) : firstE [unE true 1, unE (decide (0 ≤ rnd ∧ rnd ≤ 1048576)) 2, unE (decide (0 ≤ ser ∧ ser ≤ 1073741824)) 2, unE (decide (((cellsOf key).length : Int) = 32)) 2, unE (decide (((cellsOf nonce).length : Int) = 16)) 2, unE (decide (0 ≤ ((cellsOf bid).length : Int) ∧ ((cellsOf bid).length : Int) ≤ 4096)) 5] = Env.preE rnd ser key.length nonce.length bid.length := by
  simp only [cellsOf_length]
  unfold Env.preE
  rw [firstE_u]
  by_cases h1 : 0 ≤ rnd ∧ rnd ≤ 1048576
  · rw [decide_eq_true h1, firstE_u]
    by_cases h2 : 0 ≤ ser ∧ ser ≤ 1073741824
    · rw [decide_eq_true h2, firstE_u]
      by_cases h3 : key.length = 32
      · rw [decide_eq_true (show (key.length : Int) = 32 by omega), firstE_u]
        by_cases h4 : nonce.length = 16
        · rw [decide_eq_true (show (nonce.length : Int) = 16 by omega), firstE_u, if_pos ⟨h1, h2, h3, h4⟩]
          by_cases h5 : 4096 < bid.length
          · rw [decide_eq_false (show ¬ (0 ≤ (bid.length : Int) ∧ (bid.length : Int) ≤ 4096) by omega), firstE_f (by decide), if_pos h5]
          · rw [decide_eq_true (show 0 ≤ (bid.length : Int) ∧ (bid.length : Int) ≤ 4096 by omega), firstE_u, if_neg h5]; rfl
        · rw [decide_eq_false (show ¬ (nonce.length : Int) = 16 by omega), firstE_f (by decide), if_neg (fun h => h4 h.2.2.2)]
      · rw [decide_eq_false (show ¬ (key.length : Int) = 32 by omega), firstE_f (by decide), if_neg (fun h => h3 h.2.2.1)]
    · rw [decide_eq_false h2, firstE_f (by decide), if_neg (fun h => h2 h.2.1)]
  · rw [decide_eq_false h1, firstE_f (by decide), if_neg (fun h => h1 h.1)]
section
variable {l : List Acc.T} {nm : List UInt8} {rnd ser : Int} {key nonce bid : List UInt8}
theorem sl_pre (h : Env.preE rnd ser key.length nonce.length bid.length ≠ 0) : Env.slE l nm rnd ser key.length nonce.length bid.length = Env.preE rnd ser key.length nonce.length bid.length ∧ Env.slT l nm rnd ser key nonce bid = Env.zero := by
  have he : Env.slE l nm rnd ser key.length nonce.length bid.length = Env.preE rnd ser key.length nonce.length bid.length := by unfold Env.slE; rw [if_pos h]
  exact ⟨he, by unfold Env.slT; rw [if_neg (by rw [he]; exact h)]⟩
theorem sl_none (h : Env.preE rnd ser key.length nonce.length bid.length = 0) (hx : Acc.find l nm = none) : Env.slE l nm rnd ser key.length nonce.length bid.length = 9 ∧ Env.slT l nm rnd ser key nonce bid = Env.zero := by
  have he : Env.slE l nm rnd ser key.length nonce.length bid.length = 9 := by unfold Env.slE; rw [if_neg (by simp [h]), if_pos hx]
  exact ⟨he, by unfold Env.slT; rw [if_neg (by rw [he]; decide)]⟩
theorem sl_ok {x : Acc.T} (h : Env.preE rnd ser key.length nonce.length bid.length = 0) (hx : Acc.find l nm = some x) : Env.slE l nm rnd ser key.length nonce.length bid.length = 0 ∧ Env.slT l nm rnd ser key nonce bid = Env.mk l nm rnd ser key nonce bid := by
  have he : Env.slE l nm rnd ser key.length nonce.length bid.length = 0 := by unfold Env.slE; rw [if_neg (by simp [h]), hx, if_neg (by simp)]
  exact ⟨he, by unfold Env.slT; rw [if_pos he]⟩
theorem sl_len {x : Acc.T} (hf : Acc.Fine l) (h : Env.preE rnd ser key.length nonce.length bid.length = 0) (hx : Acc.find l nm = some x) : nm.length ≤ 32 ∧ (Env.boxB key nm nonce bid).length = bid.length + 32 ∧ (Env.sgn nm rnd ser (Env.boxB key nm nonce bid)).length ≤ 4300 := by
  obtain ⟨p1, p2, p3, p4, p5⟩ := Env.pre_ok h
  obtain ⟨m1, m2⟩ := Acc.find_some hx
  have h1 : nm.length ≤ 32 := by rw [← m2]; exact (hf.oks x m1).1.2.2
  have h2 := Env.box_len key nm bid p4
  have h3 := Env.sgn_len (nm := nm) (box := Env.boxB key nm nonce bid) (by omega) (by omega) p1.2 p2.2
  exact ⟨h1, h2, by omega⟩
end
theorem le_enz : LeAll [strD [], iD 0, iD 0, isD (.slice none 0 0), isD (.slice none 0 0)] (encEn Env.zero) := ⟨Le.refl _, Le.refl _, Le.refl _, Le.nil_sl, Le.nil_sl, trivial⟩
set_option maxHeartbeats 4000000 in
set_option maxRecDepth 100000 in
theorem con_authE (gb : Nat) (s : Bst) (l : List Acc.T) (e : Env.T) (hf : Acc.Fine l) (h : Env.ok e) : ConR Tryd.prog 64 [.c gb [isD (.map (s.M.map Prod.fst)), isD (.slice s.n.A (Acc.nm l).length s.n.c), isD (.map (s.M.map Prod.snd))], .r s.n.F (vecT 9 1 encT s.n.A s.n.c (Acc.nm l)), .r s.F1 (mapQ (s.M.map Prod.fst) encS (Acc.nm l) (acD l)), .r s.F2 (mapQ (s.M.map Prod.snd) encSt (Acc.seats l) (seD l))] [isD (.pointer (some ⟨gb, 0, none⟩)), aggD [strD e.acc, iD e.rnd, iD e.ser, bD e.box, bD e.tag]] (fun _ : Unit => [.c gb [isD (.map (s.M.map Prod.fst)), isD (.slice s.n.A (Acc.nm l).length s.n.c), isD (.map (s.M.map Prod.snd))], .r s.n.F (vecT 9 1 encT s.n.A s.n.c (Acc.nm l)), .r s.F1 (mapQ (s.M.map Prod.fst) encS (Acc.nm l) (acD l)), .r s.F2 (mapQ (s.M.map Prod.snd) encSt (Acc.seats l) (seD l))]) (fun _ : Unit => iD (Acc.verE l e.acc (Env.sgnT e) e.tag)) := by
  obtain ⟨k1, k2, k3, k4, k5, k6, k7, k8⟩ := Env.ok_len h
  refine con_ofR Tryd.func64 (by kernel_rfl) rfl (by kernel_rfl) fun base w0 => ?_
  refine SW.seq ?_
  refine SW.region ?_
  refine SWl.ef (S := []) (Ef.boxA rfl rfl) ?_
  rintro _ ⟨g3, rfl⟩
  refine SWl.rd rfl (Rd.assign rfl) ?_
  refine SWl.nil ?_
  refine SN.then ?_
  refine SW.seq ?_
  refine SW.region ?_
  refine SWl.rd rfl (Rd.loadA 4 5 rfl rfl (by kernel_rfl) rfl ap_nil) ?_
  refine SWl.ef (S := []) (Ef.call (con_signedE e (by omega) ⟨k2, k3⟩ ⟨k4, k5⟩ (by omega)) rfl ⟨Le.refl _, trivial⟩ rfl) ?_
  rintro _ rfl
  refine SWl.rd rfl (Rd.move rfl) ?_
  refine SWl.rd rfl (Rd.extract rfl rfl) ?_
  refine SWl.rd rfl (Rd.extract rfl rfl) ?_
  refine SWl.rd rfl (Rd.assign rfl) ?_
  refine SWl.rd rfl (Rd.assign rfl) ?_
  refine SWl.nil ?_
  refine SN.then ?_
  refine SW.seq ?_
  refine SW.seq ?_
  refine SW.region ?_
  refine SWl.rd rfl (Rd.move rfl) ?_
  refine SWl.rd rfl (Rd.nei rfl rfl) ?_
  refine SWl.nil ?_
  refine SN.then ?_
  refine SW.condF rfl (by decide) ?_
  refine SW.skip ?_
  refine SN.then ?_
  refine SW.seq ?_
  refine SW.region ?_
  refine SWl.rd rfl (Rd.move rfl) ?_
  refine SWl.rd rfl (Rd.fieldAddr (n := 0) rfl (by kernel_rfl)) ?_
  refine SWl.rd rfl (Rd.loadB 4 rfl rfl rfl (by kernel_rfl) ap_nil) ?_
  refine SWl.rd rfl (Rd.move rfl) ?_
  refine SWl.rd rfl (Rd.fieldAddr (n := 4) rfl (by kernel_rfl)) ?_
  refine SWl.rd rfl (Rd.loadB 4 rfl rfl rfl (by kernel_rfl) ap_nil) ?_
  refine SWl.ef (Ef.callR [0, 1, 2, 3] (con_verify gb s l e.acc (Env.sgnT e) e.tag hf (by have := Env.sgnT_len h; omega)) rfl ⟨Le.refl _, Le.refl _, Le.refl _, Le.refl _, trivial⟩ (by decide) ⟨⟨_, rfl, LeAll.refl _⟩, ⟨⟨_, rfl, LeR.refl _⟩, ⟨⟨_, rfl, LeR.refl _⟩, ⟨⟨_, rfl, LeR.refl _⟩, trivial⟩⟩⟩⟩ (fun _ h => h) rfl) ?_
  rintro _ ⟨⟨⟩, rfl⟩
  refine SWl.rd rfl (Rd.assign rfl) ?_
  refine SWl.nil ?_
  refine SN.then ?_
  refine SW.retR (fn := Tryd.f64) (()) [1, 2, 3, 4] (fun _ _ h => h) (Rs.one rfl (ResV.tmp rfl)) (by decide) ⟨⟨_, rfl, LeAll.refl _⟩, ⟨⟨_, rfl, LeR.refl _⟩, ⟨⟨_, rfl, LeR.refl _⟩, ⟨⟨_, rfl, LeR.refl _⟩, trivial⟩⟩⟩⟩
set_option maxHeartbeats 4000000 in
set_option maxRecDepth 100000 in
theorem con_checkE (gb : Nat) (s : Bst) (l : List Acc.T) (e : Env.T) (hf : Acc.Fine l)  : ConR Tryd.prog 21 [.c gb [isD (.map (s.M.map Prod.fst)), isD (.slice s.n.A (Acc.nm l).length s.n.c), isD (.map (s.M.map Prod.snd))], .r s.n.F (vecT 9 1 encT s.n.A s.n.c (Acc.nm l)), .r s.F1 (mapQ (s.M.map Prod.fst) encS (Acc.nm l) (acD l)), .r s.F2 (mapQ (s.M.map Prod.snd) encSt (Acc.seats l) (seD l))] [isD (.pointer (some ⟨gb, 0, none⟩)), aggD [strD e.acc, iD e.rnd, iD e.ser, bD e.box, bD e.tag]] (fun _ : Unit => [.c gb [isD (.map (s.M.map Prod.fst)), isD (.slice s.n.A (Acc.nm l).length s.n.c), isD (.map (s.M.map Prod.snd))], .r s.n.F (vecT 9 1 encT s.n.A s.n.c (Acc.nm l)), .r s.F1 (mapQ (s.M.map Prod.fst) encS (Acc.nm l) (acD l)), .r s.F2 (mapQ (s.M.map Prod.snd) encSt (Acc.seats l) (seD l))]) (fun _ : Unit => iD (Env.autE l e)) := by
  refine con_ofR Tryd.func21 (by kernel_rfl) rfl (by kernel_rfl) fun base w0 => ?_
  refine SW.seq ?_
  refine SW.region ?_
  refine SWl.ef (S := []) (Ef.boxA rfl rfl) ?_
  rintro _ ⟨g3, rfl⟩
  refine SWl.rd rfl (Rd.assign rfl) ?_
  refine SWl.nil ?_
  refine SN.then ?_
  refine SW.seq ?_
  refine SW.seq ?_
  refine SW.draw [] (.r 0 (.r 1 (.r 3 (.n 2 (.n 4 (.n 5 (.n 6 (.n 7 (.r 8 .fin) .no) .no) .no) .no) .no)))) (by kernel_rfl) (by kernel_rfl) (fun d _ _ _ _ h => by cases d <;> exact h) ?_
  refine SWz.rd (i := 0) rfl rfl (Rd.move rfl) ?_
  refine SWz.rd (i := 1) rfl rfl (Rd.neP rfl rfl (by kernel_rfl)) ?_
  refine SWz.rd (i := 3) rfl rfl (Rd.loadA 4 5 rfl rfl (by kernel_rfl) rfl ap_nil) ?_
  refine SWz.efn (i := 2) rfl (Ef.callN [] (con_unlessE true 1) rfl ⟨(sees_le (Le.refl _)), (sees_le (Le.refl _)), trivial⟩ rfl) ?_ SWz.no
  rintro _ rfl
  refine SWz.efn (i := 4) rfl (Ef.callN [] (con_validE e.acc e.rnd e.ser e.box.length e.tag.length) rfl ⟨(sees_le (Le.agg ⟨Le.refl _, Le.refl _, Le.refl _, le_b_len, le_b_len, trivial⟩)), trivial⟩ rfl) ?_ SWz.no
  rintro _ rfl
  refine SWz.efn (i := 5) rfl (Ef.callN [] (con_unlessE (okD e) 2) rfl ⟨(sees_le (Le.refl _)), (sees_le (Le.refl _)), trivial⟩ rfl) ?_ SWz.no
  rintro _ rfl
  refine SWz.efn (i := 6) rfl (Ef.litR rfl rfl (blsI2 (unE true 1) (unE (okD e) 2)) rfl) ?_ SWz.no
  rintro _ rfl
  refine SWz.efn (i := 7) rfl (Ef.callN [] (con_first [unE true 1, unE (okD e) 2] (by simp)) rfl ⟨(sees_le (Le.refl _)), trivial⟩ rfl) ?_ SWz.no
  rintro _ rfl
  refine SWz.rd (i := 8) rfl rfl (Rd.assign rfl) ?_
  refine SWz.nil ?_
  refine SN.then ?_
  refine SW.seq ?_
  by_cases hok : Env.ok e
  · skip
    refine SW.sub (σ' := St.ob [(0, isD (.pointer (some ⟨gb, 0, none⟩))), (3, isD (.pointer (some ⟨g3, 0, none⟩))), (5, iD 0)] [.c gb [isD (.map (s.M.map Prod.fst)), isD (.slice s.n.A (Acc.nm l).length s.n.c), isD (.map (s.M.map Prod.snd))], .r s.n.F (vecT 9 1 encT s.n.A s.n.c (Acc.nm l)), .r s.F1 (mapQ (s.M.map Prod.fst) encS (Acc.nm l) (acD l)), .r s.F2 (mapQ (s.M.map Prod.snd) encSt (Acc.seats l) (seD l)), .c g3 [strD e.acc, iD e.rnd, iD e.ser, bD e.box, bD e.tag]]) (⟨⟨_, rfl, ⟨⟨_, rfl, Le.refl _⟩, ⟨⟨_, rfl, Le.refl _⟩, ⟨⟨_, rfl, Le.is (by rw [pre2_ok hok])⟩, trivial⟩⟩⟩⟩, [0, 1, 2, 3, 4], by decide, ⟨⟨_, rfl, LeAll.refl _⟩, ⟨⟨_, rfl, LeR.refl _⟩, ⟨⟨_, rfl, LeR.refl _⟩, ⟨⟨_, rfl, LeR.refl _⟩, ⟨⟨_, rfl, LeAll.refl _⟩, trivial⟩⟩⟩⟩⟩⟩) ?_
    refine SW.region ?_
    refine SWl.rd rfl (Rd.move rfl) ?_
    refine SWl.rd rfl (Rd.nei rfl rfl) ?_
    refine SWl.nil ?_
    refine SN.then ?_
    refine SW.condF rfl (by decide) ?_
    refine SW.skip ?_
    refine SN.then ?_
    refine SW.seq ?_
    refine SW.region ?_
    refine SWl.rd rfl (Rd.move rfl) ?_
    refine SWl.rd rfl (Rd.loadA 4 5 rfl rfl (by kernel_rfl) rfl ap_nil) ?_
    refine SWl.ef (Ef.callR [0, 1, 2, 3] (con_authE gb s l e hf hok) rfl ⟨Le.refl _, Le.refl _, trivial⟩ (by decide) ⟨⟨_, rfl, LeAll.refl _⟩, ⟨⟨_, rfl, LeR.refl _⟩, ⟨⟨_, rfl, LeR.refl _⟩, ⟨⟨_, rfl, LeR.refl _⟩, trivial⟩⟩⟩⟩ (fun _ h => h) rfl) ?_
    rintro _ ⟨⟨⟩, rfl⟩
    refine SWl.rd rfl (Rd.assign rfl) ?_
    refine SWl.nil ?_
    refine SN.then ?_
    refine SW.retR (fn := Tryd.f21) (()) [1, 2, 3, 4] (fun _ _ h => h) (Rs.le (Rs.one rfl (ResV.tmp rfl)) ?_) (by decide) ⟨⟨_, rfl, LeAll.refl _⟩, ⟨⟨_, rfl, LeR.refl _⟩, ⟨⟨_, rfl, LeR.refl _⟩, ⟨⟨_, rfl, LeR.refl _⟩, trivial⟩⟩⟩⟩
    exact Le.is (by unfold Env.autE; rw [if_pos hok])
  · skip
    refine SW.sub (σ' := St.ob [(0, isD (.pointer (some ⟨gb, 0, none⟩))), (3, isD (.pointer (some ⟨g3, 0, none⟩))), (5, iD 2)] [.c gb [isD (.map (s.M.map Prod.fst)), isD (.slice s.n.A (Acc.nm l).length s.n.c), isD (.map (s.M.map Prod.snd))], .r s.n.F (vecT 9 1 encT s.n.A s.n.c (Acc.nm l)), .r s.F1 (mapQ (s.M.map Prod.fst) encS (Acc.nm l) (acD l)), .r s.F2 (mapQ (s.M.map Prod.snd) encSt (Acc.seats l) (seD l)), .c g3 [strD e.acc, iD e.rnd, iD e.ser, bD e.box, bD e.tag]]) (⟨⟨_, rfl, ⟨⟨_, rfl, Le.refl _⟩, ⟨⟨_, rfl, Le.refl _⟩, ⟨⟨_, rfl, Le.is (by rw [pre2_no hok (by decide)])⟩, trivial⟩⟩⟩⟩, [0, 1, 2, 3, 4], by decide, ⟨⟨_, rfl, LeAll.refl _⟩, ⟨⟨_, rfl, LeR.refl _⟩, ⟨⟨_, rfl, LeR.refl _⟩, ⟨⟨_, rfl, LeR.refl _⟩, ⟨⟨_, rfl, LeAll.refl _⟩, trivial⟩⟩⟩⟩⟩⟩) ?_
    refine SW.region ?_
    refine SWl.rd rfl (Rd.move rfl) ?_
    refine SWl.rd rfl (Rd.nei rfl rfl) ?_
    refine SWl.nil ?_
    refine SN.then ?_
    refine SW.condT rfl (by decide) ?_
    refine SW.seq ?_
    refine SW.region ?_
    refine SWl.rd rfl (Rd.move rfl) ?_
    refine SWl.rd rfl (Rd.assign rfl) ?_
    refine SWl.nil ?_
    refine SN.then ?_
    refine SW.retR (fn := Tryd.f21) (()) [0, 1, 2, 3] (fun _ _ h => h) (Rs.le (Rs.one rfl (ResV.tmp rfl)) ?_) (by decide) ⟨⟨_, rfl, LeAll.refl _⟩, ⟨⟨_, rfl, LeR.refl _⟩, ⟨⟨_, rfl, LeR.refl _⟩, ⟨⟨_, rfl, LeR.refl _⟩, trivial⟩⟩⟩⟩
    exact Le.is (by unfold Env.autE; rw [if_neg hok])
set_option maxHeartbeats 4000000 in
set_option maxRecDepth 100000 in
theorem con_openE (gb : Nat) (s : Bst) (l : List Acc.T) (e : Env.T) (hf : Acc.Fine l) (key : List UInt8) : ConR Tryd.prog 19 [.c gb [isD (.map (s.M.map Prod.fst)), isD (.slice s.n.A (Acc.nm l).length s.n.c), isD (.map (s.M.map Prod.snd))], .r s.n.F (vecT 9 1 encT s.n.A s.n.c (Acc.nm l)), .r s.F1 (mapQ (s.M.map Prod.fst) encS (Acc.nm l) (acD l)), .r s.F2 (mapQ (s.M.map Prod.snd) encSt (Acc.seats l) (seD l))] [isD (.pointer (some ⟨gb, 0, none⟩)), aggD [strD e.acc, iD e.rnd, iD e.ser, bD e.box, bD e.tag], bD key] (fun _ : Unit => [.c gb [isD (.map (s.M.map Prod.fst)), isD (.slice s.n.A (Acc.nm l).length s.n.c), isD (.map (s.M.map Prod.snd))], .r s.n.F (vecT 9 1 encT s.n.A s.n.c (Acc.nm l)), .r s.F1 (mapQ (s.M.map Prod.fst) encS (Acc.nm l) (acD l)), .r s.F2 (mapQ (s.M.map Prod.snd) encSt (Acc.seats l) (seD l))]) (fun _ : Unit => tupD [bD (Env.opB l e key), iD (Env.opE l e key)]) := by
  refine con_ofR Tryd.func19 (by kernel_rfl) rfl (by kernel_rfl) fun base w0 => ?_
  refine SW.seq ?_
  refine SW.region ?_
  refine SWl.ef (S := []) (Ef.boxA rfl rfl) ?_
  rintro _ ⟨g4, rfl⟩
  refine SWl.rd rfl (Rd.assign rfl) ?_
  refine SWl.rd rfl (Rd.assign rfl) ?_
  refine SWl.nil ?_
  refine SN.then ?_
  refine SW.seq ?_
  refine SW.draw [] (.r 0 (.r 1 (.r 3 (.r 4 (.r 5 (.r 7 (.n 2 (.n 6 (.n 8 (.n 9 (.n 10 (.n 11 (.r 12 .fin) .no) .no) .no) .no) .no) .no))))))) (by kernel_rfl) (by kernel_rfl) (fun d _ _ _ _ h => by cases d <;> exact h) ?_
  refine SWz.rd (i := 0) rfl rfl (Rd.move rfl) ?_
  refine SWz.rd (i := 1) rfl rfl (Rd.neP rfl rfl (by kernel_rfl)) ?_
  refine SWz.rd (i := 3) rfl rfl (Rd.move rfl) ?_
  refine SWz.rd (i := 4) rfl rfl (Rd.len (e := 5) rfl (by kernel_rfl)) ?_
  refine SWz.rd (i := 5) rfl rfl (Rd.eqi rfl rfl) ?_
  refine SWz.rd (i := 7) rfl rfl (Rd.loadA 4 5 rfl rfl (by kernel_rfl) rfl ap_nil) ?_
  refine SWz.efn (i := 2) rfl (Ef.callN [] (con_unlessE true 1) rfl ⟨(sees_le (Le.refl _)), (sees_le (Le.refl _)), trivial⟩ rfl) ?_ SWz.no
  rintro _ rfl
  refine SWz.efn (i := 6) rfl (Ef.callN [] (con_unlessE (decide (((cellsOf key).length : Int) = 32)) 2) rfl ⟨(sees_le (Le.refl _)), (sees_le (Le.refl _)), trivial⟩ rfl) ?_ SWz.no
  rintro _ rfl
  refine SWz.efn (i := 8) rfl (Ef.callN [] (con_validE e.acc e.rnd e.ser e.box.length e.tag.length) rfl ⟨(sees_le (Le.agg ⟨Le.refl _, Le.refl _, Le.refl _, le_b_len, le_b_len, trivial⟩)), trivial⟩ rfl) ?_ SWz.no
  rintro _ rfl
  refine SWz.efn (i := 9) rfl (Ef.callN [] (con_unlessE (okD e) 2) rfl ⟨(sees_le (Le.refl _)), (sees_le (Le.refl _)), trivial⟩ rfl) ?_ SWz.no
  rintro _ rfl
  refine SWz.efn (i := 10) rfl (Ef.litR rfl rfl (blsI3 (unE true 1) (unE (decide (((cellsOf key).length : Int) = 32)) 2) (unE (okD e) 2)) rfl) ?_ SWz.no
  rintro _ rfl
  refine SWz.efn (i := 11) rfl (Ef.callN [] (con_first [unE true 1, unE (decide (((cellsOf key).length : Int) = 32)) 2, unE (okD e) 2] (by simp)) rfl ⟨(sees_le (Le.refl _)), trivial⟩ rfl) ?_ SWz.no
  rintro _ rfl
  refine SWz.rd (i := 12) rfl rfl (Rd.assign rfl) ?_
  refine SWz.nil ?_
  refine SN.then ?_
  refine SW.seq ?_
  refine SW.seq ?_
  by_cases hok : key.length = 32 ∧ Env.ok e
  · skip
    refine SW.sub (σ' := St.ob [(0, isD (.pointer (some ⟨gb, 0, none⟩))), (2, bD key), (4, isD (.pointer (some ⟨g4, 0, none⟩))), (8, iD 0)] [.c gb [isD (.map (s.M.map Prod.fst)), isD (.slice s.n.A (Acc.nm l).length s.n.c), isD (.map (s.M.map Prod.snd))], .r s.n.F (vecT 9 1 encT s.n.A s.n.c (Acc.nm l)), .r s.F1 (mapQ (s.M.map Prod.fst) encS (Acc.nm l) (acD l)), .r s.F2 (mapQ (s.M.map Prod.snd) encSt (Acc.seats l) (seD l)), .c g4 [strD e.acc, iD e.rnd, iD e.ser, bD e.box, bD e.tag]]) (⟨⟨_, rfl, ⟨⟨_, rfl, Le.refl _⟩, ⟨⟨_, rfl, Le.refl _⟩, ⟨⟨_, rfl, Le.refl _⟩, ⟨⟨_, rfl, Le.is (by rw [pre3_ok hok])⟩, trivial⟩⟩⟩⟩⟩, [0, 1, 2, 3, 4], by decide, ⟨⟨_, rfl, LeAll.refl _⟩, ⟨⟨_, rfl, LeR.refl _⟩, ⟨⟨_, rfl, LeR.refl _⟩, ⟨⟨_, rfl, LeR.refl _⟩, ⟨⟨_, rfl, LeAll.refl _⟩, trivial⟩⟩⟩⟩⟩⟩) ?_
    refine SW.region ?_
    refine SWl.rd rfl (Rd.move rfl) ?_
    refine SWl.rd rfl (Rd.nei rfl rfl) ?_
    refine SWl.nil ?_
    refine SN.then ?_
    refine SW.condF rfl (by decide) ?_
    refine SW.skip ?_
    refine SN.then ?_
    refine SW.seq ?_
    refine SW.seq ?_
    refine SW.region ?_
    refine SWl.rd rfl (Rd.move rfl) ?_
    refine SWl.rd rfl (Rd.loadA 4 5 rfl rfl (by kernel_rfl) rfl ap_nil) ?_
    refine SWl.ef (Ef.callR [0, 1, 2, 3] (con_authE gb s l e hf hok.2) rfl ⟨Le.refl _, Le.refl _, trivial⟩ (by decide) ⟨⟨_, rfl, LeAll.refl _⟩, ⟨⟨_, rfl, LeR.refl _⟩, ⟨⟨_, rfl, LeR.refl _⟩, ⟨⟨_, rfl, LeR.refl _⟩, trivial⟩⟩⟩⟩ (fun _ h => h) rfl) ?_
    rintro _ ⟨⟨⟩, rfl⟩
    refine SWl.rd rfl (Rd.assign rfl) ?_
    refine SWl.nil ?_
    refine SN.then ?_
    refine SW.seq ?_
    refine SW.region ?_
    refine SWl.rd rfl (Rd.move rfl) ?_
    refine SWl.rd rfl (Rd.nei rfl rfl) ?_
    refine SWl.nil ?_
    refine SN.then ?_
    refine SW.cond rfl (fun hb30 => ?_) (fun hb30 => ?_)
    · have h30 : Acc.verE l e.acc (Env.sgnT e) e.tag ≠ 0 := by simpa using hb30
      refine SW.seq ?_
      refine SW.region ?_
      refine SWl.rd rfl (Rd.move rfl) ?_
      refine SWl.rd rfl (Rd.assign rfl) ?_
      refine SWl.rd rfl (Rd.assign rfl) ?_
      refine SWl.nil ?_
      refine SN.then ?_
      refine SW.retR (fn := Tryd.f19) (()) [1, 2, 3, 4] (fun _ _ h => h) (Rs.le (Rs.two rfl (ResV.tmp rfl) (ResV.tmp rfl)) ?_) (by decide) ⟨⟨_, rfl, LeAll.refl _⟩, ⟨⟨_, rfl, LeR.refl _⟩, ⟨⟨_, rfl, LeR.refl _⟩, ⟨⟨_, rfl, LeR.refl _⟩, trivial⟩⟩⟩⟩
      exact Le.tup ⟨by rw [(op_aut (l := l) hok h30).2]; exact Le.nil_sl, Le.is (by rw [(op_aut (l := l) hok h30).1]), trivial⟩
    · have h30 : ¬ Acc.verE l e.acc (Env.sgnT e) e.tag ≠ 0 := by simpa using hb30
      refine SW.skip ?_
      refine SN.then ?_
      refine SW.seq ?_
      refine SW.region ?_
      refine SWl.rd rfl (Rd.move rfl) ?_
      refine SWl.rd rfl (Rd.fieldAddr (n := 0) rfl (by kernel_rfl)) ?_
      refine SWl.rd rfl (Rd.loadB 0 rfl rfl rfl (by kernel_rfl) ap_nil) ?_
      refine SWl.ef (S := []) (Ef.call (con_deriveE key e.acc hok.1 (Env.ok_len hok.2).1) rfl ⟨Le.refl _, Le.refl _, trivial⟩ rfl) ?_
      rintro _ rfl
      refine SWl.rd rfl (Rd.move rfl) ?_
      refine SWl.rd rfl (Rd.extract rfl rfl) ?_
      refine SWl.rd rfl (Rd.extract rfl rfl) ?_
      refine SWl.rd rfl (Rd.assign rfl) ?_
      refine SWl.rd rfl (Rd.assign rfl) ?_
      refine SWl.nil ?_
      refine SN.then ?_
      refine SW.seq ?_
      refine SW.seq ?_
      refine SW.region ?_
      refine SWl.rd rfl (Rd.move rfl) ?_
      refine SWl.rd rfl (Rd.nei rfl rfl) ?_
      refine SWl.nil ?_
      refine SN.then ?_
      refine SW.condF rfl (by decide) ?_
      refine SW.skip ?_
      refine SN.then ?_
      refine SW.seq ?_
      refine SW.region ?_
      refine SWl.rd rfl (Rd.move rfl) ?_
      refine SWl.rd rfl (Rd.fieldAddr (n := 3) rfl (by kernel_rfl)) ?_
      refine SWl.rd rfl (Rd.loadB 0 rfl rfl rfl (by kernel_rfl) ap_nil) ?_
      refine SWl.ef (S := []) (Ef.call (con_openB (Env.keyB key e.acc) e.box (by simp [Env.keyB])) rfl ⟨Le.refl _, Le.refl _, trivial⟩ rfl) ?_
      rintro _ rfl
      refine SWl.rd rfl (Rd.move rfl) ?_
      refine SWl.rd rfl (Rd.extract rfl rfl) ?_
      refine SWl.rd rfl (Rd.extract rfl rfl) ?_
      refine SWl.rd rfl (Rd.assign rfl) ?_
      refine SWl.rd rfl (Rd.assign rfl) ?_
      refine SWl.nil ?_
      refine SN.then ?_
      refine SW.seq ?_
      refine SW.seq ?_
      refine SW.region ?_
      refine SWl.rd rfl (Rd.move rfl) ?_
      refine SWl.rd rfl (Rd.nei rfl rfl) ?_
      refine SWl.nil ?_
      refine SN.then ?_
      refine SW.cond rfl (fun hb50 => ?_) (fun hb50 => ?_)
      · have h50 : (Sl.openB (Env.keyB key e.acc) e.box).2 ≠ 0 := by simpa using hb50
        refine SW.seq ?_
        refine SW.region ?_
        refine SWl.rd rfl (Rd.assign rfl) ?_
        refine SWl.rd rfl (Rd.assign rfl) ?_
        refine SWl.nil ?_
        refine SN.then ?_
        refine SW.retR (fn := Tryd.f19) (()) [1, 2, 3, 4] (fun _ _ h => h) (Rs.le (Rs.two rfl (ResV.tmp rfl) (ResV.tmp rfl)) ?_) (by decide) ⟨⟨_, rfl, LeAll.refl _⟩, ⟨⟨_, rfl, LeR.refl _⟩, ⟨⟨_, rfl, LeR.refl _⟩, ⟨⟨_, rfl, LeR.refl _⟩, trivial⟩⟩⟩⟩
        exact Le.tup ⟨by rw [(op_bad (l := l) hok h30 h50).2]; exact Le.nil_sl, Le.is (by rw [(op_bad (l := l) hok h30 h50).1]), trivial⟩
      · have h50 : ¬ (Sl.openB (Env.keyB key e.acc) e.box).2 ≠ 0 := by simpa using hb50
        refine SW.skip ?_
        refine SN.then ?_
        refine SW.seq ?_
        refine SW.region ?_
        refine SWl.rd rfl (Rd.move rfl) ?_
        refine SWl.rd rfl (Rd.assign rfl) ?_
        refine SWl.rd rfl (Rd.assign rfl) ?_
        refine SWl.nil ?_
        refine SN.then ?_
        refine SW.retR (fn := Tryd.f19) (()) [1, 2, 3, 4] (fun _ _ h => h) (Rs.le (Rs.two rfl (ResV.tmp rfl) (ResV.tmp rfl)) ?_) (by decide) ⟨⟨_, rfl, LeAll.refl _⟩, ⟨⟨_, rfl, LeR.refl _⟩, ⟨⟨_, rfl, LeR.refl _⟩, ⟨⟨_, rfl, LeR.refl _⟩, trivial⟩⟩⟩⟩
        exact Le.tup ⟨by rw [(op_ok (l := l) hok h30 h50).2]; exact Le.refl _, Le.is (by rw [(op_ok (l := l) hok h30 h50).1]), trivial⟩
  · skip
    refine SW.sub (σ' := St.ob [(0, isD (.pointer (some ⟨gb, 0, none⟩))), (2, bD key), (4, isD (.pointer (some ⟨g4, 0, none⟩))), (8, iD 2)] [.c gb [isD (.map (s.M.map Prod.fst)), isD (.slice s.n.A (Acc.nm l).length s.n.c), isD (.map (s.M.map Prod.snd))], .r s.n.F (vecT 9 1 encT s.n.A s.n.c (Acc.nm l)), .r s.F1 (mapQ (s.M.map Prod.fst) encS (Acc.nm l) (acD l)), .r s.F2 (mapQ (s.M.map Prod.snd) encSt (Acc.seats l) (seD l)), .c g4 [strD e.acc, iD e.rnd, iD e.ser, bD e.box, bD e.tag]]) (⟨⟨_, rfl, ⟨⟨_, rfl, Le.refl _⟩, ⟨⟨_, rfl, Le.refl _⟩, ⟨⟨_, rfl, Le.refl _⟩, ⟨⟨_, rfl, Le.is (by rw [pre3_no hok])⟩, trivial⟩⟩⟩⟩⟩, [0, 1, 2, 3, 4], by decide, ⟨⟨_, rfl, LeAll.refl _⟩, ⟨⟨_, rfl, LeR.refl _⟩, ⟨⟨_, rfl, LeR.refl _⟩, ⟨⟨_, rfl, LeR.refl _⟩, ⟨⟨_, rfl, LeAll.refl _⟩, trivial⟩⟩⟩⟩⟩⟩) ?_
    refine SW.region ?_
    refine SWl.rd rfl (Rd.move rfl) ?_
    refine SWl.rd rfl (Rd.nei rfl rfl) ?_
    refine SWl.nil ?_
    refine SN.then ?_
    refine SW.condT rfl (by decide) ?_
    refine SW.seq ?_
    refine SW.region ?_
    refine SWl.rd rfl (Rd.move rfl) ?_
    refine SWl.rd rfl (Rd.assign rfl) ?_
    refine SWl.rd rfl (Rd.assign rfl) ?_
    refine SWl.nil ?_
    refine SN.then ?_
    refine SW.retR (fn := Tryd.f19) (()) [0, 1, 2, 3] (fun _ _ h => h) (Rs.le (Rs.two rfl (ResV.tmp rfl) (ResV.tmp rfl)) ?_) (by decide) ⟨⟨_, rfl, LeAll.refl _⟩, ⟨⟨_, rfl, LeR.refl _⟩, ⟨⟨_, rfl, LeR.refl _⟩, ⟨⟨_, rfl, LeR.refl _⟩, trivial⟩⟩⟩⟩
    exact Le.tup ⟨by rw [(op_no (l := l) hok).2]; exact Le.nil_sl, Le.is (by rw [(op_no (l := l) hok).1]), trivial⟩
set_option maxHeartbeats 4000000 in
set_option maxRecDepth 100000 in
theorem con_sizeE (e : Env.T) : ConN Tryd.prog 28 [aggD [strD e.acc, iD e.rnd, iD e.ser, bD e.box, bD e.tag]] (iD (Env.sz e)) := by
  refine con_ofN Tryd.func28 (by kernel_rfl) rfl (by kernel_rfl) fun base w0 => ?_
  refine SW.seq ?_
  refine SW.region ?_
  refine SWl.ef (S := []) (Ef.boxA rfl rfl) ?_
  rintro _ ⟨g1, rfl⟩
  refine SWl.rd rfl (Rd.assign rfl) ?_
  refine SWl.nil ?_
  refine SN.then ?_
  refine SW.seq ?_
  refine SW.seq ?_
  refine SW.region ?_
  refine SWl.rd rfl (Rd.loadA 0 5 rfl rfl (by kernel_rfl) rfl ap_nil) ?_
  refine SWl.ef (S := []) (Ef.callN [] (con_validE e.acc e.rnd e.ser e.box.length e.tag.length) rfl ⟨(sees_le (Le.agg ⟨Le.refl _, Le.refl _, Le.refl _, le_b_len, le_b_len, trivial⟩)), trivial⟩ rfl) ?_
  rintro _ rfl
  refine SWl.rd rfl (Rd.not rfl) ?_
  refine SWl.nil ?_
  refine SN.then ?_
  refine SW.cond rfl (fun hb5 => ?_) (fun hb5 => ?_)
  · have h5 : ¬ Env.ok e := by (intro h; rw [show decide (Env.okV e.acc e.rnd e.ser e.box.length e.tag.length) = true from okD_t h] at hb5; cases hb5)
    refine SW.seq ?_
    refine SW.region ?_
    refine SWl.rd rfl (Rd.assign rfl) ?_
    refine SWl.nil ?_
    refine SN.then ?_
    refine SW.ret (fn := Tryd.f28) (fun _ _ h => h) (Rs.le (Rs.one rfl (ResV.tmp rfl)) ?_)
    exact Le.trans (Le.is (by unfold Env.sz; rw [if_neg h5])) le_nw_is
  · have h5 : Env.ok e := by (by_cases h : Env.ok e; exact h; rw [show decide (Env.okV e.acc e.rnd e.ser e.box.length e.tag.length) = false from okD_f h] at hb5; cases hb5)
    refine SW.skip ?_
    refine SN.then ?_
    refine SW.seq ?_
    refine SW.region ?_
    refine SWl.rd rfl (Rd.fieldAddr (n := 3) rfl (by kernel_rfl)) ?_
    refine SWl.rd rfl (Rd.loadB 0 rfl rfl rfl (by kernel_rfl) ap_nil) ?_
    refine SWl.rd rfl (Rd.len (e := 5) rfl (by kernel_rfl)) ?_
    refine SWl.rd rfl (Rd.subi rfl rfl ⟨by omega, by have := (Env.ok_len h5).2.2.2.2.2; rw [cellsOf_length]; omega⟩) ?_
    refine SWl.rd rfl (Rd.assign rfl) ?_
    refine SWl.nil ?_
    refine SN.then ?_
    refine SW.ret (fn := Tryd.f28) (fun _ _ h => h) (Rs.le (Rs.one rfl (ResV.tmp rfl)) ?_)
    exact Le.trans (Le.is (by unfold Env.sz; rw [if_pos h5, cellsOf_length])) le_nw_is
set_option maxHeartbeats 4000000 in
set_option maxRecDepth 100000 in
theorem con_encodeE (e : Env.T) : Con Tryd.prog 35 [aggD [strD e.acc, iD e.rnd, iD e.ser, bD e.box, bD e.tag]] (tupD [bD (Env.encQ e), iD (Env.encE e)]) := by
  refine con_of Tryd.func35 (by kernel_rfl) rfl (by kernel_rfl) fun base w0 => ?_
  refine SW.seq ?_
  refine SW.region ?_
  refine SWl.ef (S := []) (Ef.boxA rfl rfl) ?_
  rintro _ ⟨g1, rfl⟩
  refine SWl.rd rfl (Rd.assign rfl) ?_
  refine SWl.rd rfl (Rd.assign rfl) ?_
  refine SWl.nil ?_
  refine SN.then ?_
  refine SW.seq ?_
  refine SW.seq ?_
  refine SW.region ?_
  refine SWl.rd rfl (Rd.loadA 0 5 rfl rfl (by kernel_rfl) rfl ap_nil) ?_
  refine SWl.ef (S := []) (Ef.callN [] (con_validE e.acc e.rnd e.ser e.box.length e.tag.length) rfl ⟨(sees_le (Le.agg ⟨Le.refl _, Le.refl _, Le.refl _, le_b_len, le_b_len, trivial⟩)), trivial⟩ rfl) ?_
  rintro _ rfl
  refine SWl.rd rfl (Rd.not rfl) ?_
  refine SWl.nil ?_
  refine SN.then ?_
  refine SW.cond rfl (fun hb7 => ?_) (fun hb7 => ?_)
  · have h7 : ¬ Env.ok e := by (intro h; rw [show decide (Env.okV e.acc e.rnd e.ser e.box.length e.tag.length) = true from okD_t h] at hb7; cases hb7)
    refine SW.seq ?_
    refine SW.region ?_
    refine SWl.rd rfl (Rd.assign rfl) ?_
    refine SWl.rd rfl (Rd.assign rfl) ?_
    refine SWl.nil ?_
    refine SN.then ?_
    refine SW.ret (fn := Tryd.f35) (fun _ _ h => h) (Rs.le (Rs.two rfl (ResV.tmp rfl) (ResV.tmp rfl)) ?_)
    exact Le.tup ⟨by rw [Env.encQ, if_neg h7]; exact Le.nil_sl, Le.is (by rw [Env.encE, if_neg h7]), trivial⟩
  · have h7 : Env.ok e := by (by_cases h : Env.ok e; exact h; rw [show decide (Env.okV e.acc e.rnd e.ser e.box.length e.tag.length) = false from okD_f h] at hb7; cases hb7)
    refine SW.skip ?_
    refine SN.then ?_
    refine SW.seq ?_
    refine SW.region ?_
    refine SWl.ef (S := []) (Ef.alloc (zs := [.int .i64 0, .slice none 0 0]) (by kernel_rfl) rfl) ?_
    rintro _ ⟨g4, rfl⟩
    refine SWl.nil ?_
    refine SN.then ?_
    refine SW.seq ?_
    refine SW.vecN 5 1 encB ?_
    obtain ⟨k1, k2, k3, k4, k5, k6, k7, k8⟩ := Env.ok_len h7
    have hsl := Env.sgnT_len h7
    refine SW.sub (σ' := St.ob [(1, isD (.pointer (some ⟨g1, 0, none⟩))), (4, isD (.pointer (some ⟨g4, 0, none⟩)))] [.c g1 [strD e.acc, iD e.rnd, iD e.ser, bD e.box, bD e.tag], .c g4 [iD 0, isD (.slice (⟨none, 0, []⟩ : Ust).A (([] : List UInt8)).length (⟨none, 0, []⟩ : Ust).c)], .r (⟨none, 0, []⟩ : Ust).F (vecT 5 1 encB (⟨none, 0, []⟩ : Ust).A (⟨none, 0, []⟩ : Ust).c (([] : List UInt8)))]) (⟨⟨_, rfl, ⟨⟨_, rfl, Le.refl _⟩, ⟨⟨_, rfl, Le.refl _⟩, trivial⟩⟩⟩, [0, 1, 2], by decide, ⟨⟨_, rfl, LeAll.refl _⟩, ⟨⟨_, rfl, LeAll.refl _⟩, ⟨⟨_, rfl, LeR.refl _⟩, trivial⟩⟩⟩⟩) ?_
    refine SW.region ?_
    refine SWl.rd rfl (Rd.loadA 0 5 rfl rfl (by kernel_rfl) rfl ap_nil) ?_
    refine SWl.ef (Ef.callR [1, 2] (con_writeE g4 (⟨none, 0, []⟩ : Ust) [] e (by omega) ⟨k2, k3⟩ ⟨k4, k5⟩ (by omega) (by decide)) rfl ⟨Le.refl _, Le.refl _, trivial⟩ (by decide) ⟨⟨_, rfl, LeAll.refl _⟩, ⟨⟨_, rfl, LeR.refl _⟩, trivial⟩⟩ (fun _ h => h) rfl) ?_
    rintro _ ⟨s9, rfl⟩
    refine SWl.nil ?_
    refine SN.then ?_
    refine SW.seq ?_
    refine SW.region ?_
    refine SWl.rd rfl (Rd.fieldAddr (n := 4) rfl (by kernel_rfl)) ?_
    refine SWl.rd rfl (Rd.loadB 0 rfl rfl rfl (by kernel_rfl) ap_nil) ?_
    refine SWl.ef (Ef.callR [1, 2] (con_wBytes g4 s9 ([] ++ Env.sgnT e) e.tag (by simp only [List.nil_append]; omega)) rfl ⟨Le.refl _, Le.refl _, trivial⟩ (by decide) ⟨⟨_, rfl, LeAll.refl _⟩, ⟨⟨_, rfl, LeR.refl _⟩, trivial⟩⟩ (fun _ h => h) rfl) ?_
    rintro _ ⟨s12, rfl⟩
    refine SWl.nil ?_
    refine SN.then ?_
    refine SW.seq ?_
    refine SW.region ?_
    refine SWl.ef (Ef.callR [1, 2] (con_wEnd g4 s12 ([] ++ Env.sgnT e ++ strE e.tag) (by have := strE_len (b := e.tag) (by omega); simp only [List.nil_append, List.length_append]; omega)) rfl ⟨Le.refl _, trivial⟩ (by decide) ⟨⟨_, rfl, LeAll.refl _⟩, ⟨⟨_, rfl, LeR.refl _⟩, trivial⟩⟩ (fun _ h => h) rfl) ?_
    rintro _ ⟨⟨⟩, rfl⟩
    refine SWl.rd rfl (Rd.extract rfl rfl) ?_
    refine SWl.rd rfl (Rd.extract rfl rfl) ?_
    refine SWl.rd rfl (Rd.assign rfl) ?_
    refine SWl.rd rfl (Rd.assign rfl) ?_
    refine SWl.nil ?_
    refine SN.then ?_
    refine SW.ret (fn := Tryd.f35) (fun _ _ h => h) (Rs.le (Rs.two rfl (ResV.tmp rfl) (ResV.tmp rfl)) ?_)
    exact Le.tup ⟨by rw [Env.encQ, if_pos h7]; exact Le.refl _, Le.is (by rw [Env.encE, if_pos h7]), trivial⟩
end Sx
end Go.Proofs.YtchbgfgboogniaaDoor
namespace Go.Proofs.YtchbgfgboogniaaDoor
open Go.RowKit
namespace Sx
set_option maxHeartbeats 4000000 in
set_option maxRecDepth 100000 in
theorem con_decodeE (p : List UInt8) (hp : p.length ≤ 1000000) : Con Tryd.prog 33 [bD p] (tupD [aggD (encEn (Env.dec p)), iD (Env.decE p)]) := by
  refine con_of Tryd.func33 (by kernel_rfl) rfl (by kernel_rfl) fun base w0 => ?_
  refine SW.seq ?_
  refine SW.region ?_
  refine SWl.ef (S := []) (Ef.alloc (zs := [.string ⟨#[]⟩, .int .i64 0, .int .i64 0, .slice none 0 0, .slice none 0 0]) (by kernel_rfl) rfl) ?_
  rintro _ ⟨g2, rfl⟩
  refine SWl.rd rfl (Rd.assign rfl) ?_
  refine SWl.nil ?_
  refine SN.then ?_
  refine SW.seq ?_
  refine SW.region ?_
  refine SWl.rd rfl (Rd.move rfl) ?_
  refine SWl.ef (S := []) (Ef.callR [] (con_read p hp) rfl ⟨Le.refl _, trivial⟩ (by decide) trivial (fun _ h => h) rfl) ?_
  rintro _ ⟨g6, rfl⟩
  refine SWl.rd rfl (Rd.assign rfl) ?_
  refine SWl.nil ?_
  refine SN.then ?_
  refine SW.seq ?_
  refine SW.region ?_
  refine SWl.ef (S := []) (Ef.alloc (zs := [.string ⟨#[]⟩, .int .i64 0, .int .i64 0, .slice none 0 0, .slice none 0 0]) (by kernel_rfl) rfl) ?_
  rintro _ ⟨g5, rfl⟩
  refine SWl.nil ?_
  refine SN.then ?_
  refine SW.seq ?_
  refine SW.region ?_
  refine SWl.rd rfl (Rd.move rfl) ?_
  refine SWl.ef (Ef.callR [1] (con_rString g6 p hp 32 (by decide) (0, 0) ⟨p, 0⟩ (RRel.start p)) rfl ⟨Le.refl _, Le.refl _, trivial⟩ (by decide) ⟨⟨_, rfl, LeAll.refl _⟩, trivial⟩ (fun _ h => h) rfl) ?_
  rintro _ ⟨s10, rfl⟩
  refine SWl.rd rfl (Rd.fieldAddr (n := 0) rfl (by kernel_rfl)) ?_
  refine SWl.ef (S := [_]) (Ef.storeV 1 rfl rfl rfl (by kernel_rfl) rfl (List.mem_singleton.2 rfl)) ?_
  rintro _ rfl
  refine SWl.nil ?_
  refine SN.then ?_
  refine SW.seq ?_
  refine SW.sub (σ' := St.ob [(2, isD (.pointer (some ⟨g2, 0, none⟩))), (4, isD (.pointer (some ⟨g6, 0, none⟩))), (5, isD (.pointer (some ⟨g5, 0, none⟩)))] [.c g6 [iD s10.1.1, boolD true, bD p, iD ((s10.1.2 : Nat) : Int)], .c g2 [strD [], iD 0, iD 0, isD (.slice none 0 0), isD (.slice none 0 0)], .c g5 [strD (stP 32 ⟨p, 0⟩).1, iD 0, iD 0, isD (.slice none 0 0), isD (.slice none 0 0)]]) (⟨⟨_, rfl, ⟨⟨_, rfl, Le.refl _⟩, ⟨⟨_, rfl, Le.refl _⟩, ⟨⟨_, rfl, Le.refl _⟩, trivial⟩⟩⟩⟩, [2, 0, 1], by decide, ⟨⟨_, rfl, LeAll.refl _⟩, ⟨⟨_, rfl, LeAll.refl _⟩, ⟨⟨_, rfl, LeAll.refl _⟩, trivial⟩⟩⟩⟩) ?_
  refine SW.region ?_
  refine SWl.rd rfl (Rd.move rfl) ?_
  refine SWl.ef (Ef.callR [0] (con_rUint g6 p hp s10.1 (stP 32 ⟨p, 0⟩).2 s10.2) rfl ⟨Le.refl _, trivial⟩ (by decide) ⟨⟨_, rfl, LeAll.refl _⟩, trivial⟩ (fun _ h => h) rfl) ?_
  rintro _ ⟨s13, rfl⟩
  refine SWl.rd rfl (Rd.fieldAddr (n := 1) rfl (by kernel_rfl)) ?_
  refine SWl.ef (S := [_]) (Ef.storeV 1 rfl rfl rfl (by kernel_rfl) rfl (List.mem_singleton.2 rfl)) ?_
  rintro _ rfl
  refine SWl.nil ?_
  refine SN.then ?_
  refine SW.seq ?_
  refine SW.sub (σ' := St.ob [(2, isD (.pointer (some ⟨g2, 0, none⟩))), (4, isD (.pointer (some ⟨g6, 0, none⟩))), (5, isD (.pointer (some ⟨g5, 0, none⟩)))] [.c g6 [iD s13.1.1, boolD true, bD p, iD ((s13.1.2 : Nat) : Int)], .c g2 [strD [], iD 0, iD 0, isD (.slice none 0 0), isD (.slice none 0 0)], .c g5 [strD (stP 32 ⟨p, 0⟩).1, iD (stU (stP 32 ⟨p, 0⟩).2).1, iD 0, isD (.slice none 0 0), isD (.slice none 0 0)]]) (⟨⟨_, rfl, ⟨⟨_, rfl, Le.refl _⟩, ⟨⟨_, rfl, Le.refl _⟩, ⟨⟨_, rfl, Le.refl _⟩, trivial⟩⟩⟩⟩, [2, 0, 1], by decide, ⟨⟨_, rfl, LeAll.refl _⟩, ⟨⟨_, rfl, LeAll.refl _⟩, ⟨⟨_, rfl, LeAll.refl _⟩, trivial⟩⟩⟩⟩) ?_
  refine SW.region ?_
  refine SWl.rd rfl (Rd.move rfl) ?_
  refine SWl.ef (Ef.callR [0] (con_rUint g6 p hp s13.1 (stU (stP 32 ⟨p, 0⟩).2).2 s13.2) rfl ⟨Le.refl _, trivial⟩ (by decide) ⟨⟨_, rfl, LeAll.refl _⟩, trivial⟩ (fun _ h => h) rfl) ?_
  rintro _ ⟨s16, rfl⟩
  refine SWl.rd rfl (Rd.fieldAddr (n := 2) rfl (by kernel_rfl)) ?_
  refine SWl.ef (S := [_]) (Ef.storeV 1 rfl rfl rfl (by kernel_rfl) rfl (List.mem_singleton.2 rfl)) ?_
  rintro _ rfl
  refine SWl.nil ?_
  refine SN.then ?_
  refine SW.seq ?_
  refine SW.sub (σ' := St.ob [(2, isD (.pointer (some ⟨g2, 0, none⟩))), (4, isD (.pointer (some ⟨g6, 0, none⟩))), (5, isD (.pointer (some ⟨g5, 0, none⟩)))] [.c g6 [iD s16.1.1, boolD true, bD p, iD ((s16.1.2 : Nat) : Int)], .c g2 [strD [], iD 0, iD 0, isD (.slice none 0 0), isD (.slice none 0 0)], .c g5 [strD (stP 32 ⟨p, 0⟩).1, iD (stU (stP 32 ⟨p, 0⟩).2).1, iD (stU (stU (stP 32 ⟨p, 0⟩).2).2).1, isD (.slice none 0 0), isD (.slice none 0 0)]]) (⟨⟨_, rfl, ⟨⟨_, rfl, Le.refl _⟩, ⟨⟨_, rfl, Le.refl _⟩, ⟨⟨_, rfl, Le.refl _⟩, trivial⟩⟩⟩⟩, [2, 0, 1], by decide, ⟨⟨_, rfl, LeAll.refl _⟩, ⟨⟨_, rfl, LeAll.refl _⟩, ⟨⟨_, rfl, LeAll.refl _⟩, trivial⟩⟩⟩⟩) ?_
  refine SW.region ?_
  refine SWl.rd rfl (Rd.move rfl) ?_
  refine SWl.ef (Ef.callR [0] (con_rBytes g6 p hp 4128 (by decide) s16.1 (stU (stU (stP 32 ⟨p, 0⟩).2).2).2 s16.2) rfl ⟨Le.refl _, Le.refl _, trivial⟩ (by decide) ⟨⟨_, rfl, LeAll.refl _⟩, trivial⟩ (fun _ h => h) rfl) ?_
  rintro _ ⟨s19, rfl⟩
  refine SWl.rd rfl (Rd.fieldAddr (n := 3) rfl (by kernel_rfl)) ?_
  refine SWl.ef (S := [_]) (Ef.storeV 1 rfl rfl rfl (by kernel_rfl) rfl (List.mem_singleton.2 rfl)) ?_
  rintro _ rfl
  refine SWl.nil ?_
  refine SN.then ?_
  refine SW.seq ?_
  refine SW.sub (σ' := St.ob [(2, isD (.pointer (some ⟨g2, 0, none⟩))), (4, isD (.pointer (some ⟨g6, 0, none⟩))), (5, isD (.pointer (some ⟨g5, 0, none⟩)))] [.c g6 [iD s19.1.1, boolD true, bD p, iD ((s19.1.2 : Nat) : Int)], .c g2 [strD [], iD 0, iD 0, isD (.slice none 0 0), isD (.slice none 0 0)], .c g5 [strD (stP 32 ⟨p, 0⟩).1, iD (stU (stP 32 ⟨p, 0⟩).2).1, iD (stU (stU (stP 32 ⟨p, 0⟩).2).2).1, bD (stP 4128 (stU (stU (stP 32 ⟨p, 0⟩).2).2).2).1, isD (.slice none 0 0)]]) (⟨⟨_, rfl, ⟨⟨_, rfl, Le.refl _⟩, ⟨⟨_, rfl, Le.refl _⟩, ⟨⟨_, rfl, Le.refl _⟩, trivial⟩⟩⟩⟩, [2, 0, 1], by decide, ⟨⟨_, rfl, LeAll.refl _⟩, ⟨⟨_, rfl, LeAll.refl _⟩, ⟨⟨_, rfl, LeAll.refl _⟩, trivial⟩⟩⟩⟩) ?_
  refine SW.region ?_
  refine SWl.rd rfl (Rd.move rfl) ?_
  refine SWl.ef (Ef.callR [0] (con_rBytes g6 p hp 32 (by decide) s19.1 (stP 4128 (stU (stU (stP 32 ⟨p, 0⟩).2).2).2).2 s19.2) rfl ⟨Le.refl _, Le.refl _, trivial⟩ (by decide) ⟨⟨_, rfl, LeAll.refl _⟩, trivial⟩ (fun _ h => h) rfl) ?_
  rintro _ ⟨s22, rfl⟩
  refine SWl.rd rfl (Rd.fieldAddr (n := 4) rfl (by kernel_rfl)) ?_
  refine SWl.ef (S := [_]) (Ef.storeV 1 rfl rfl rfl (by kernel_rfl) rfl (List.mem_singleton.2 rfl)) ?_
  rintro _ rfl
  refine SWl.nil ?_
  refine SN.then ?_
  refine SW.seq ?_
  refine SW.seq ?_
  obtain ⟨x, hx⟩ : ∃ x, x = (Env.rd ⟨p, 0⟩).1 := ⟨_, rfl⟩
  obtain ⟨q, hq⟩ : ∃ q, q = (Env.rd ⟨p, 0⟩).2 := ⟨_, rfl⟩
  obtain ⟨s2, hs2⟩ : ∃ s2 : Int × Nat, s2 = s22.1 := ⟨_, rfl⟩
  have hr : RRel p s2 q := by rw [hs2, hq]; exact s22.2
  refine SW.sub (σ' := St.ob [(2, isD (.pointer (some ⟨g2, 0, none⟩))), (4, isD (.pointer (some ⟨g6, 0, none⟩))), (5, isD (.pointer (some ⟨g5, 0, none⟩)))] [.c g6 [iD s2.1, boolD true, bD p, iD ((s2.2 : Nat) : Int)], .c g2 [strD [], iD 0, iD 0, isD (.slice none 0 0), isD (.slice none 0 0)], .c g5 [strD x.acc, iD x.rnd, iD x.ser, bD x.box, bD x.tag]]) (⟨⟨_, rfl, ⟨⟨_, rfl, Le.refl _⟩, ⟨⟨_, rfl, Le.refl _⟩, ⟨⟨_, rfl, Le.refl _⟩, trivial⟩⟩⟩⟩, [2, 0, 1], by decide, ⟨⟨_, rfl, (by rw [hs2]; exact LeAll.refl _)⟩, ⟨⟨_, rfl, LeAll.refl _⟩, ⟨⟨_, rfl, (by rw [hx]; exact LeAll.refl _)⟩, trivial⟩⟩⟩⟩) ?_
  refine SW.draw [] (.r 0 (.r 2 (.n 1 (.n 3 (.n 4 (.n 5 (.n 6 (.r 7 .fin) .no) .no) .no) .no) .no))) (by kernel_rfl) (by kernel_rfl) (fun d _ _ _ _ h => by cases d <;> exact h) ?_
  refine SWz.rd (i := 0) rfl rfl (Rd.move rfl) ?_
  refine SWz.rd (i := 2) rfl rfl (Rd.loadA 2 5 rfl rfl (by kernel_rfl) rfl ap_nil) ?_
  refine SWz.efn (i := 1) rfl (Ef.callN [0] (con_rEnd p s2 q hr) rfl ⟨(sees_box 0 rfl (by decide) ⟨(sees_le (Le.refl _)), (sees_le (Le.refl _)), (sees_le (Le.refl _)), (sees_le (Le.refl _)), trivial⟩), trivial⟩ rfl) ?_ SWz.no
  rintro _ rfl
  refine SWz.efn (i := 3) rfl (Ef.callN [] (con_validE x.acc x.rnd x.ser x.box.length x.tag.length) rfl ⟨(sees_le (Le.agg ⟨Le.refl _, Le.refl _, Le.refl _, le_b_len, le_b_len, trivial⟩)), trivial⟩ rfl) ?_ SWz.no
  rintro _ rfl
  refine SWz.efn (i := 4) rfl (Ef.callN [] (con_unlessE (okD x) 6) rfl ⟨(sees_le (Le.refl _)), (sees_le (Le.refl _)), trivial⟩ rfl) ?_ SWz.no
  rintro _ rfl
  refine SWz.efn (i := 5) rfl (Ef.litR rfl rfl (blsI2 (endE q) (unE (okD x) 6)) rfl) ?_ SWz.no
  rintro _ rfl
  refine SWz.efn (i := 6) rfl (Ef.callN [] (con_first [endE q, unE (okD x) 6] (by simp)) rfl ⟨(sees_le (Le.refl _)), trivial⟩ rfl) ?_ SWz.no
  rintro _ rfl
  refine SWz.rd (i := 7) rfl rfl (Rd.assign rfl) ?_
  refine SWz.nil ?_
  refine SN.then ?_
  refine SW.seq ?_
  refine SW.sub (σ' := St.ob [(2, isD (.pointer (some ⟨g2, 0, none⟩))), (5, isD (.pointer (some ⟨g5, 0, none⟩))), (6, iD (Env.decE p))] [.c g2 [strD [], iD 0, iD 0, isD (.slice none 0 0), isD (.slice none 0 0)], .c g5 [strD x.acc, iD x.rnd, iD x.ser, bD x.box, bD x.tag]]) (⟨⟨_, rfl, ⟨⟨_, rfl, Le.refl _⟩, ⟨⟨_, rfl, Le.refl _⟩, ⟨⟨_, rfl, Le.is (by rw [hx, hq, decE_first])⟩, trivial⟩⟩⟩⟩, [1, 2], by decide, ⟨⟨_, rfl, LeAll.refl _⟩, ⟨⟨_, rfl, LeAll.refl _⟩, trivial⟩⟩⟩) ?_
  refine SW.region ?_
  refine SWl.rd rfl (Rd.move rfl) ?_
  refine SWl.rd rfl (Rd.nei rfl rfl) ?_
  refine SWl.nil ?_
  refine SN.then ?_
  refine SW.cond rfl (fun hb32 => ?_) (fun hb32 => ?_)
  · have h32 : Env.decE p ≠ 0 := by simpa using hb32
    refine SW.seq ?_
    refine SW.region ?_
    refine SWl.rd rfl (Rd.build rfl rfl bldEn0) ?_
    refine SWl.rd rfl (Rd.move rfl) ?_
    refine SWl.ef (S := [_]) (Ef.storeA 0 rfl rfl rfl (by kernel_rfl) rfl (List.mem_singleton.2 rfl)) ?_
    rintro _ rfl
    refine SWl.rd rfl (Rd.assign rfl) ?_
    refine SWl.nil ?_
    refine SN.then ?_
    refine SW.ret (fn := Tryd.f33) (fun _ _ h => h) (Rs.le (Rs.two rfl (ResV.cellA 0 rfl rfl (by kernel_rfl)) (ResV.tmp rfl)) ?_)
    exact Le.tup ⟨by rw [Env.dec, if_neg h32]; exact Le.agg le_enz, Le.refl _, trivial⟩
  · have h32 : Env.decE p = 0 := by simpa using hb32
    refine SW.skip ?_
    refine SN.then ?_
    refine SW.seq ?_
    refine SW.region ?_
    refine SWl.rd rfl (Rd.loadA 1 5 rfl rfl (by kernel_rfl) rfl ap_nil) ?_
    refine SWl.ef (S := [_]) (Ef.storeA 0 rfl rfl rfl (by kernel_rfl) rfl (List.mem_singleton.2 rfl)) ?_
    rintro _ rfl
    refine SWl.rd rfl (Rd.assign rfl) ?_
    refine SWl.nil ?_
    refine SN.then ?_
    refine SW.ret (fn := Tryd.f33) (fun _ _ h => h) (Rs.le (Rs.two rfl (ResV.cellA 0 rfl rfl (by kernel_rfl)) (ResV.tmp rfl)) ?_)
    exact Le.tup ⟨by rw [Env.dec, if_pos h32, ← hx]; exact Le.refl _, Le.is (by rw [h32]), trivial⟩
set_option maxHeartbeats 4000000 in
set_option maxRecDepth 100000 in
theorem con_sealE (gb : Nat) (s : Bst) (l : List Acc.T) (nm : List UInt8) (rnd ser : Int) (key nonce bid : List UInt8) (hf : Acc.Fine l) : ConR Tryd.prog 23 [.c gb [isD (.map (s.M.map Prod.fst)), isD (.slice s.n.A (Acc.nm l).length s.n.c), isD (.map (s.M.map Prod.snd))], .r s.n.F (vecT 9 1 encT s.n.A s.n.c (Acc.nm l)), .r s.F1 (mapQ (s.M.map Prod.fst) encS (Acc.nm l) (acD l)), .r s.F2 (mapQ (s.M.map Prod.snd) encSt (Acc.seats l) (seD l))] [isD (.pointer (some ⟨gb, 0, none⟩)), strD nm, iD rnd, iD ser, bD key, bD nonce, bD bid] (fun _ : Unit => [.c gb [isD (.map (s.M.map Prod.fst)), isD (.slice s.n.A (Acc.nm l).length s.n.c), isD (.map (s.M.map Prod.snd))], .r s.n.F (vecT 9 1 encT s.n.A s.n.c (Acc.nm l)), .r s.F1 (mapQ (s.M.map Prod.fst) encS (Acc.nm l) (acD l)), .r s.F2 (mapQ (s.M.map Prod.snd) encSt (Acc.seats l) (seD l))]) (fun _ : Unit => tupD [aggD (encEn (Env.slT l nm rnd ser key nonce bid)), iD (Env.slE l nm rnd ser key.length nonce.length bid.length)]) := by
  refine con_ofR Tryd.func23 (by kernel_rfl) rfl (by kernel_rfl) fun base w0 => ?_
  refine SW.seq ?_
  refine SW.region ?_
  refine SWl.ef (S := []) (Ef.alloc (zs := [.string ⟨#[]⟩, .int .i64 0, .int .i64 0, .slice none 0 0, .slice none 0 0]) (by kernel_rfl) rfl) ?_
  rintro _ ⟨g14, rfl⟩
  refine SWl.rd rfl (Rd.assign rfl) ?_
  refine SWl.nil ?_
  refine SN.then ?_
  refine SW.seq ?_
  refine SW.region ?_
  refine SWl.rd rfl (Rd.move rfl) ?_
  refine SWl.rd rfl (Rd.neP rfl rfl (by kernel_rfl)) ?_
  refine SWl.ef (S := []) (Ef.callN [] (con_unlessE true 1) rfl ⟨(sees_le (Le.refl _)), (sees_le (Le.refl _)), trivial⟩ rfl) ?_
  rintro _ rfl
  refine SWl.rd rfl (Rd.move rfl) ?_
  refine SWl.ef (S := []) (Ef.callN [] (con_within rnd 0 1048576) rfl ⟨(sees_le (Le.refl _)), (sees_le (Le.refl _)), (sees_le (Le.refl _)), trivial⟩ rfl) ?_
  rintro _ rfl
  refine SWl.ef (S := []) (Ef.callN [] (con_unlessE _ 2) rfl ⟨(sees_le (Le.refl _)), (sees_le (Le.refl _)), trivial⟩ rfl) ?_
  rintro _ rfl
  refine SWl.rd rfl (Rd.move rfl) ?_
  refine SWl.ef (S := []) (Ef.callN [] (con_within ser 0 1073741824) rfl ⟨(sees_le (Le.refl _)), (sees_le (Le.refl _)), (sees_le (Le.refl _)), trivial⟩ rfl) ?_
  rintro _ rfl
  refine SWl.ef (S := []) (Ef.callN [] (con_unlessE _ 2) rfl ⟨(sees_le (Le.refl _)), (sees_le (Le.refl _)), trivial⟩ rfl) ?_
  rintro _ rfl
  refine SWl.rd rfl (Rd.move rfl) ?_
  refine SWl.rd rfl (Rd.len (e := 5) rfl (by kernel_rfl)) ?_
  refine SWl.rd rfl (Rd.eqi rfl rfl) ?_
  refine SWl.ef (S := []) (Ef.callN [] (con_unlessE _ 2) rfl ⟨(sees_le (Le.refl _)), (sees_le (Le.refl _)), trivial⟩ rfl) ?_
  rintro _ rfl
  refine SWl.rd rfl (Rd.move rfl) ?_
  refine SWl.rd rfl (Rd.len (e := 5) rfl (by kernel_rfl)) ?_
  refine SWl.rd rfl (Rd.eqi rfl rfl) ?_
  refine SWl.ef (S := []) (Ef.callN [] (con_unlessE _ 2) rfl ⟨(sees_le (Le.refl _)), (sees_le (Le.refl _)), trivial⟩ rfl) ?_
  rintro _ rfl
  refine SWl.rd rfl (Rd.move rfl) ?_
  refine SWl.rd rfl (Rd.len (e := 5) rfl (by kernel_rfl)) ?_
  refine SWl.ef (S := []) (Ef.callN [] (con_within ((cellsOf bid).length : Int) 0 4096) rfl ⟨(sees_le (Le.refl _)), (sees_le (Le.refl _)), (sees_le (Le.refl _)), trivial⟩ rfl) ?_
  rintro _ rfl
  refine SWl.ef (S := []) (Ef.callN [] (con_unlessE _ 5) rfl ⟨(sees_le (Le.refl _)), (sees_le (Le.refl _)), trivial⟩ rfl) ?_
  rintro _ rfl
  refine SWl.ef (S := []) (Ef.litR rfl rfl (blsI6 (unE true 1) (unE (decide (0 ≤ rnd ∧ rnd ≤ 1048576)) 2) (unE (decide (0 ≤ ser ∧ ser ≤ 1073741824)) 2) (unE (decide (((cellsOf key).length : Int) = 32)) 2) (unE (decide (((cellsOf nonce).length : Int) = 16)) 2) (unE (decide (0 ≤ ((cellsOf bid).length : Int) ∧ ((cellsOf bid).length : Int) ≤ 4096)) 5)) rfl) ?_
  rintro _ rfl
  refine SWl.ef (S := []) (Ef.callN [] (con_first [unE true 1, unE (decide (0 ≤ rnd ∧ rnd ≤ 1048576)) 2, unE (decide (0 ≤ ser ∧ ser ≤ 1073741824)) 2, unE (decide (((cellsOf key).length : Int) = 32)) 2, unE (decide (((cellsOf nonce).length : Int) = 16)) 2, unE (decide (0 ≤ ((cellsOf bid).length : Int) ∧ ((cellsOf bid).length : Int) ≤ 4096)) 5] (by simp)) rfl ⟨(sees_le (Le.refl _)), trivial⟩ rfl) ?_
  rintro _ rfl
  refine SWl.rd rfl (Rd.assign rfl) ?_
  refine SWl.nil ?_
  refine SN.then ?_
  refine SW.seq ?_
  refine SW.seq ?_
  refine SW.sub (σ' := St.ob [(0, isD (.pointer (some ⟨gb, 0, none⟩))), (1, strD nm), (2, iD rnd), (3, iD ser), (4, bD key), (5, bD nonce), (6, bD bid), (14, isD (.pointer (some ⟨g14, 0, none⟩))), (16, iD (Env.preE rnd ser key.length nonce.length bid.length))] [.c gb [isD (.map (s.M.map Prod.fst)), isD (.slice s.n.A (Acc.nm l).length s.n.c), isD (.map (s.M.map Prod.snd))], .r s.n.F (vecT 9 1 encT s.n.A s.n.c (Acc.nm l)), .r s.F1 (mapQ (s.M.map Prod.fst) encS (Acc.nm l) (acD l)), .r s.F2 (mapQ (s.M.map Prod.snd) encSt (Acc.seats l) (seD l)), .c g14 [strD [], iD 0, iD 0, isD (.slice none 0 0), isD (.slice none 0 0)]]) (⟨⟨_, rfl, ⟨⟨_, rfl, Le.refl _⟩, ⟨⟨_, rfl, Le.refl _⟩, ⟨⟨_, rfl, Le.refl _⟩, ⟨⟨_, rfl, Le.refl _⟩, ⟨⟨_, rfl, Le.refl _⟩, ⟨⟨_, rfl, Le.refl _⟩, ⟨⟨_, rfl, Le.refl _⟩, ⟨⟨_, rfl, Le.refl _⟩, ⟨⟨_, rfl, Le.is (by rw [pre6])⟩, trivial⟩⟩⟩⟩⟩⟩⟩⟩⟩⟩, [0, 1, 2, 3, 4], by decide, ⟨⟨_, rfl, LeAll.refl _⟩, ⟨⟨_, rfl, LeR.refl _⟩, ⟨⟨_, rfl, LeR.refl _⟩, ⟨⟨_, rfl, LeR.refl _⟩, ⟨⟨_, rfl, LeAll.refl _⟩, trivial⟩⟩⟩⟩⟩⟩) ?_
  refine SW.region ?_
  refine SWl.rd rfl (Rd.move rfl) ?_
  refine SWl.rd rfl (Rd.nei rfl rfl) ?_
  refine SWl.nil ?_
  refine SN.then ?_
  refine SW.cond rfl (fun hb45 => ?_) (fun hb45 => ?_)
  · have h45 : (Env.preE rnd ser key.length nonce.length bid.length) ≠ 0 := by simpa using hb45
    refine SW.seq ?_
    refine SW.region ?_
    refine SWl.rd rfl (Rd.build rfl rfl bldEn0) ?_
    refine SWl.rd rfl (Rd.move rfl) ?_
    refine SWl.ef (S := [_]) (Ef.storeA 4 rfl rfl rfl (by kernel_rfl) rfl (List.mem_singleton.2 rfl)) ?_
    rintro _ rfl
    refine SWl.rd rfl (Rd.assign rfl) ?_
    refine SWl.nil ?_
    refine SN.then ?_
    refine SW.retR (fn := Tryd.f23) (()) [0, 1, 2, 3] (fun _ _ h => h) (Rs.le (Rs.two rfl (ResV.cellA 4 rfl rfl (by kernel_rfl)) (ResV.tmp rfl)) ?_) (by decide) ⟨⟨_, rfl, LeAll.refl _⟩, ⟨⟨_, rfl, LeR.refl _⟩, ⟨⟨_, rfl, LeR.refl _⟩, ⟨⟨_, rfl, LeR.refl _⟩, trivial⟩⟩⟩⟩
    exact Le.tup ⟨by rw [(sl_pre h45).2]; exact Le.agg le_enz, Le.is (by rw [(sl_pre h45).1]), trivial⟩
  · have h45 : (Env.preE rnd ser key.length nonce.length bid.length) = 0 := (by simpa using hb45); obtain ⟨p1, p2, p3, p4, p5⟩ := Env.pre_ok h45
    refine SW.skip ?_
    refine SN.then ?_
    refine SW.seq ?_
    refine SW.seq ?_
    refine SW.region ?_
    refine SWl.rd rfl (Rd.move rfl) ?_
    refine SWl.rd rfl (Rd.move rfl) ?_
    refine SWl.ef (S := []) (Ef.callN [0, 2, 1, 3] (con_get l nm hf) rfl ⟨(sees_box 0 rfl (by decide) ⟨(sees_mapQ 2 rfl (by decide)), (sees_vec 1 rfl (by decide)), (sees_mapQ 3 rfl (by decide)), trivial⟩), (sees_le (Le.refl _)), trivial⟩ rfl) ?_
    rintro _ rfl
    refine SWl.rd rfl (Rd.move rfl) ?_
    refine SWl.rd rfl (Rd.extract rfl rfl) ?_
    refine SWl.rd rfl (Rd.extract rfl rfl) ?_
    refine SWl.rd rfl (Rd.assign rfl) ?_
    refine SWl.nil ?_
    refine SN.then ?_
    refine SW.seq ?_
    rcases hx : Acc.find l nm with _ | x
    · have hg := Acc.get_no hx
      refine SW.sub (σ' := St.ob [(0, isD (.pointer (some ⟨gb, 0, none⟩))), (1, strD nm), (2, iD rnd), (3, iD ser), (4, bD key), (5, bD nonce), (6, bD bid), (14, isD (.pointer (some ⟨g14, 0, none⟩))), (16, iD 9)] [.c gb [isD (.map (s.M.map Prod.fst)), isD (.slice s.n.A (Acc.nm l).length s.n.c), isD (.map (s.M.map Prod.snd))], .r s.n.F (vecT 9 1 encT s.n.A s.n.c (Acc.nm l)), .r s.F1 (mapQ (s.M.map Prod.fst) encS (Acc.nm l) (acD l)), .r s.F2 (mapQ (s.M.map Prod.snd) encSt (Acc.seats l) (seD l)), .c g14 [strD [], iD 0, iD 0, isD (.slice none 0 0), isD (.slice none 0 0)]]) (⟨⟨_, rfl, ⟨⟨_, rfl, Le.refl _⟩, ⟨⟨_, rfl, Le.refl _⟩, ⟨⟨_, rfl, Le.refl _⟩, ⟨⟨_, rfl, Le.refl _⟩, ⟨⟨_, rfl, Le.refl _⟩, ⟨⟨_, rfl, Le.refl _⟩, ⟨⟨_, rfl, Le.refl _⟩, ⟨⟨_, rfl, Le.refl _⟩, ⟨⟨_, rfl, Le.is (by rw [hg.2])⟩, trivial⟩⟩⟩⟩⟩⟩⟩⟩⟩⟩, [0, 1, 2, 3, 4], by decide, ⟨⟨_, rfl, LeAll.refl _⟩, ⟨⟨_, rfl, LeR.refl _⟩, ⟨⟨_, rfl, LeR.refl _⟩, ⟨⟨_, rfl, LeR.refl _⟩, ⟨⟨_, rfl, LeAll.refl _⟩, trivial⟩⟩⟩⟩⟩⟩) ?_
      refine SW.region ?_
      refine SWl.rd rfl (Rd.move rfl) ?_
      refine SWl.rd rfl (Rd.nei rfl rfl) ?_
      refine SWl.nil ?_
      refine SN.then ?_
      refine SW.condT rfl (by decide) ?_
      refine SW.seq ?_
      refine SW.region ?_
      refine SWl.rd rfl (Rd.build rfl rfl bldEn0) ?_
      refine SWl.rd rfl (Rd.move rfl) ?_
      refine SWl.ef (S := [_]) (Ef.storeA 4 rfl rfl rfl (by kernel_rfl) rfl (List.mem_singleton.2 rfl)) ?_
      rintro _ rfl
      refine SWl.rd rfl (Rd.assign rfl) ?_
      refine SWl.nil ?_
      refine SN.then ?_
      refine SW.retR (fn := Tryd.f23) (()) [0, 1, 2, 3] (fun _ _ h => h) (Rs.le (Rs.two rfl (ResV.cellA 4 rfl rfl (by kernel_rfl)) (ResV.tmp rfl)) ?_) (by decide) ⟨⟨_, rfl, LeAll.refl _⟩, ⟨⟨_, rfl, LeR.refl _⟩, ⟨⟨_, rfl, LeR.refl _⟩, ⟨⟨_, rfl, LeR.refl _⟩, trivial⟩⟩⟩⟩
      exact Le.tup ⟨by rw [(sl_none h45 hx).2]; exact Le.agg le_enz, Le.is (by rw [(sl_none h45 hx).1]), trivial⟩
    · have hg := Acc.get_yes hx; obtain ⟨z1, z2, z3⟩ := sl_len hf h45 hx; obtain ⟨t1, t2⟩ := Acc.tag_yes hx (q := (Env.sgn nm rnd ser (Env.boxB key nm nonce bid))) (by omega)
      refine SW.sub (σ' := St.ob [(0, isD (.pointer (some ⟨gb, 0, none⟩))), (1, strD nm), (2, iD rnd), (3, iD ser), (4, bD key), (5, bD nonce), (6, bD bid), (14, isD (.pointer (some ⟨g14, 0, none⟩))), (16, iD 0)] [.c gb [isD (.map (s.M.map Prod.fst)), isD (.slice s.n.A (Acc.nm l).length s.n.c), isD (.map (s.M.map Prod.snd))], .r s.n.F (vecT 9 1 encT s.n.A s.n.c (Acc.nm l)), .r s.F1 (mapQ (s.M.map Prod.fst) encS (Acc.nm l) (acD l)), .r s.F2 (mapQ (s.M.map Prod.snd) encSt (Acc.seats l) (seD l)), .c g14 [strD [], iD 0, iD 0, isD (.slice none 0 0), isD (.slice none 0 0)]]) (⟨⟨_, rfl, ⟨⟨_, rfl, Le.refl _⟩, ⟨⟨_, rfl, Le.refl _⟩, ⟨⟨_, rfl, Le.refl _⟩, ⟨⟨_, rfl, Le.refl _⟩, ⟨⟨_, rfl, Le.refl _⟩, ⟨⟨_, rfl, Le.refl _⟩, ⟨⟨_, rfl, Le.refl _⟩, ⟨⟨_, rfl, Le.refl _⟩, ⟨⟨_, rfl, Le.is (by rw [hg.2])⟩, trivial⟩⟩⟩⟩⟩⟩⟩⟩⟩⟩, [0, 1, 2, 3, 4], by decide, ⟨⟨_, rfl, LeAll.refl _⟩, ⟨⟨_, rfl, LeR.refl _⟩, ⟨⟨_, rfl, LeR.refl _⟩, ⟨⟨_, rfl, LeR.refl _⟩, ⟨⟨_, rfl, LeAll.refl _⟩, trivial⟩⟩⟩⟩⟩⟩) ?_
      refine SW.region ?_
      refine SWl.rd rfl (Rd.move rfl) ?_
      refine SWl.rd rfl (Rd.nei rfl rfl) ?_
      refine SWl.nil ?_
      refine SN.then ?_
      refine SW.condF rfl (by decide) ?_
      refine SW.skip ?_
      refine SN.then ?_
      refine SW.seq ?_
      refine SW.region ?_
      refine SWl.rd rfl (Rd.move rfl) ?_
      refine SWl.rd rfl (Rd.move rfl) ?_
      refine SWl.ef (S := []) (Ef.call (con_deriveE key nm p3 z1) rfl ⟨Le.refl _, Le.refl _, trivial⟩ rfl) ?_
      rintro _ rfl
      refine SWl.rd rfl (Rd.move rfl) ?_
      refine SWl.rd rfl (Rd.extract rfl rfl) ?_
      refine SWl.rd rfl (Rd.extract rfl rfl) ?_
      refine SWl.rd rfl (Rd.assign rfl) ?_
      refine SWl.rd rfl (Rd.assign rfl) ?_
      refine SWl.nil ?_
      refine SN.then ?_
      refine SW.seq ?_
      refine SW.seq ?_
      refine SW.region ?_
      refine SWl.rd rfl (Rd.move rfl) ?_
      refine SWl.rd rfl (Rd.nei rfl rfl) ?_
      refine SWl.nil ?_
      refine SN.then ?_
      refine SW.condF rfl (by decide) ?_
      refine SW.skip ?_
      refine SN.then ?_
      refine SW.seq ?_
      refine SW.sub (σ' := St.ob [(0, isD (.pointer (some ⟨gb, 0, none⟩))), (1, strD nm), (2, iD rnd), (3, iD ser), (4, bD key), (5, bD nonce), (6, bD bid), (14, isD (.pointer (some ⟨g14, 0, none⟩))), (17, bD (Env.keyB key nm))] [.c gb [isD (.map (s.M.map Prod.fst)), isD (.slice s.n.A (Acc.nm l).length s.n.c), isD (.map (s.M.map Prod.snd))], .r s.n.F (vecT 9 1 encT s.n.A s.n.c (Acc.nm l)), .r s.F1 (mapQ (s.M.map Prod.fst) encS (Acc.nm l) (acD l)), .r s.F2 (mapQ (s.M.map Prod.snd) encSt (Acc.seats l) (seD l)), .c g14 [strD [], iD 0, iD 0, isD (.slice none 0 0), isD (.slice none 0 0)]]) (⟨⟨_, rfl, ⟨⟨_, rfl, Le.refl _⟩, ⟨⟨_, rfl, Le.refl _⟩, ⟨⟨_, rfl, Le.refl _⟩, ⟨⟨_, rfl, Le.refl _⟩, ⟨⟨_, rfl, Le.refl _⟩, ⟨⟨_, rfl, Le.refl _⟩, ⟨⟨_, rfl, Le.refl _⟩, ⟨⟨_, rfl, Le.refl _⟩, ⟨⟨_, rfl, Le.refl _⟩, trivial⟩⟩⟩⟩⟩⟩⟩⟩⟩⟩, [0, 1, 2, 3, 4], by decide, ⟨⟨_, rfl, LeAll.refl _⟩, ⟨⟨_, rfl, LeR.refl _⟩, ⟨⟨_, rfl, LeR.refl _⟩, ⟨⟨_, rfl, LeR.refl _⟩, ⟨⟨_, rfl, LeAll.refl _⟩, trivial⟩⟩⟩⟩⟩⟩) ?_
      refine SW.region ?_
      refine SWl.rd rfl (Rd.move rfl) ?_
      refine SWl.rd rfl (Rd.move rfl) ?_
      refine SWl.rd rfl (Rd.move rfl) ?_
      refine SWl.ef (S := []) (Ef.call (con_sealB (Env.keyB key nm) nonce bid (by simp [Env.keyB]) p4 (by omega)) rfl ⟨Le.refl _, Le.refl _, Le.refl _, trivial⟩ rfl) ?_
      rintro _ rfl
      refine SWl.rd rfl (Rd.move rfl) ?_
      refine SWl.rd rfl (Rd.extract rfl rfl) ?_
      refine SWl.rd rfl (Rd.extract rfl rfl) ?_
      refine SWl.rd rfl (Rd.assign rfl) ?_
      refine SWl.rd rfl (Rd.assign rfl) ?_
      refine SWl.nil ?_
      refine SN.then ?_
      refine SW.seq ?_
      refine SW.seq ?_
      refine SW.region ?_
      refine SWl.rd rfl (Rd.move rfl) ?_
      refine SWl.rd rfl (Rd.nei rfl rfl) ?_
      refine SWl.nil ?_
      refine SN.then ?_
      refine SW.condF rfl (by decide) ?_
      refine SW.skip ?_
      refine SN.then ?_
      refine SW.seq ?_
      refine SW.sub (σ' := St.ob [(0, isD (.pointer (some ⟨gb, 0, none⟩))), (1, strD nm), (2, iD rnd), (3, iD ser), (14, isD (.pointer (some ⟨g14, 0, none⟩))), (18, bD (Env.boxB key nm nonce bid))] [.c gb [isD (.map (s.M.map Prod.fst)), isD (.slice s.n.A (Acc.nm l).length s.n.c), isD (.map (s.M.map Prod.snd))], .r s.n.F (vecT 9 1 encT s.n.A s.n.c (Acc.nm l)), .r s.F1 (mapQ (s.M.map Prod.fst) encS (Acc.nm l) (acD l)), .r s.F2 (mapQ (s.M.map Prod.snd) encSt (Acc.seats l) (seD l)), .c g14 [strD [], iD 0, iD 0, isD (.slice none 0 0), isD (.slice none 0 0)]]) (⟨⟨_, rfl, ⟨⟨_, rfl, Le.refl _⟩, ⟨⟨_, rfl, Le.refl _⟩, ⟨⟨_, rfl, Le.refl _⟩, ⟨⟨_, rfl, Le.refl _⟩, ⟨⟨_, rfl, Le.refl _⟩, ⟨⟨_, rfl, Le.refl _⟩, trivial⟩⟩⟩⟩⟩⟩⟩, [0, 1, 2, 3, 4], by decide, ⟨⟨_, rfl, LeAll.refl _⟩, ⟨⟨_, rfl, LeR.refl _⟩, ⟨⟨_, rfl, LeR.refl _⟩, ⟨⟨_, rfl, LeR.refl _⟩, ⟨⟨_, rfl, LeAll.refl _⟩, trivial⟩⟩⟩⟩⟩⟩) ?_
      refine SW.region ?_
      refine SWl.rd rfl (Rd.move rfl) ?_
      refine SWl.rd rfl (Rd.move rfl) ?_
      refine SWl.rd rfl (Rd.move rfl) ?_
      refine SWl.rd rfl (Rd.move rfl) ?_
      refine SWl.rd rfl (Rd.build rfl rfl bldEn4) ?_
      refine SWl.ef (S := []) (Ef.alloc (zs := [.string ⟨#[]⟩, .int .i64 0, .int .i64 0, .slice none 0 0, .slice none 0 0]) (by kernel_rfl) rfl) ?_
      rintro _ ⟨g19, rfl⟩
      refine SWl.ef (S := [_]) (Ef.storeA 5 rfl rfl rfl (by kernel_rfl) rfl (List.mem_singleton.2 rfl)) ?_
      rintro _ rfl
      refine SWl.nil ?_
      refine SN.then ?_
      refine SW.seq ?_
      refine SW.sub (σ' := St.ob [(0, isD (.pointer (some ⟨gb, 0, none⟩))), (1, strD nm), (2, iD rnd), (3, iD ser), (14, isD (.pointer (some ⟨g14, 0, none⟩))), (19, isD (.pointer (some ⟨g19, 0, none⟩)))] [.c gb [isD (.map (s.M.map Prod.fst)), isD (.slice s.n.A (Acc.nm l).length s.n.c), isD (.map (s.M.map Prod.snd))], .r s.n.F (vecT 9 1 encT s.n.A s.n.c (Acc.nm l)), .r s.F1 (mapQ (s.M.map Prod.fst) encS (Acc.nm l) (acD l)), .r s.F2 (mapQ (s.M.map Prod.snd) encSt (Acc.seats l) (seD l)), .c g14 [strD [], iD 0, iD 0, isD (.slice none 0 0), isD (.slice none 0 0)], .c g19 [strD nm, iD rnd, iD ser, bD (Env.boxB key nm nonce bid), isD (.slice none 0 0)]]) (⟨⟨_, rfl, ⟨⟨_, rfl, Le.refl _⟩, ⟨⟨_, rfl, Le.refl _⟩, ⟨⟨_, rfl, Le.refl _⟩, ⟨⟨_, rfl, Le.refl _⟩, ⟨⟨_, rfl, Le.refl _⟩, ⟨⟨_, rfl, Le.refl _⟩, trivial⟩⟩⟩⟩⟩⟩⟩, [0, 1, 2, 3, 4, 5], by decide, ⟨⟨_, rfl, LeAll.refl _⟩, ⟨⟨_, rfl, LeR.refl _⟩, ⟨⟨_, rfl, LeR.refl _⟩, ⟨⟨_, rfl, LeR.refl _⟩, ⟨⟨_, rfl, LeAll.refl _⟩, ⟨⟨_, rfl, LeAll.refl _⟩, trivial⟩⟩⟩⟩⟩⟩⟩) ?_
      refine SW.region ?_
      refine SWl.rd rfl (Rd.loadA 5 5 rfl rfl (by kernel_rfl) rfl ap_nil) ?_
      refine SWl.ef (S := []) (Ef.call (con_signedE ⟨nm, rnd, ser, (Env.boxB key nm nonce bid), []⟩ (by show nm.length ≤ 1000; omega) p1 p2 (by show (Env.boxB key nm nonce bid).length ≤ 10000; omega)) rfl ⟨Le.agg ⟨Le.refl _, Le.refl _, Le.refl _, Le.refl _, Le.nil_sl, trivial⟩, trivial⟩ rfl) ?_
      rintro _ rfl
      refine SWl.rd rfl (Rd.move rfl) ?_
      refine SWl.rd rfl (Rd.extract rfl rfl) ?_
      refine SWl.rd rfl (Rd.extract rfl rfl) ?_
      refine SWl.rd rfl (Rd.assign rfl) ?_
      refine SWl.rd rfl (Rd.assign rfl) ?_
      refine SWl.nil ?_
      refine SN.then ?_
      refine SW.seq ?_
      refine SW.seq ?_
      refine SW.region ?_
      refine SWl.rd rfl (Rd.move rfl) ?_
      refine SWl.rd rfl (Rd.nei rfl rfl) ?_
      refine SWl.nil ?_
      refine SN.then ?_
      refine SW.condF rfl (by decide) ?_
      refine SW.skip ?_
      refine SN.then ?_
      refine SW.seq ?_
      refine SW.seq ?_
      refine SW.sub (σ' := St.ob [(0, isD (.pointer (some ⟨gb, 0, none⟩))), (1, strD nm), (2, iD rnd), (3, iD ser), (14, isD (.pointer (some ⟨g14, 0, none⟩))), (19, isD (.pointer (some ⟨g19, 0, none⟩))), (20, bD (Env.sgn nm rnd ser (Env.boxB key nm nonce bid)))] [.c gb [isD (.map (s.M.map Prod.fst)), isD (.slice s.n.A (Acc.nm l).length s.n.c), isD (.map (s.M.map Prod.snd))], .r s.n.F (vecT 9 1 encT s.n.A s.n.c (Acc.nm l)), .r s.F1 (mapQ (s.M.map Prod.fst) encS (Acc.nm l) (acD l)), .r s.F2 (mapQ (s.M.map Prod.snd) encSt (Acc.seats l) (seD l)), .c g14 [strD [], iD 0, iD 0, isD (.slice none 0 0), isD (.slice none 0 0)], .c g19 [strD nm, iD rnd, iD ser, bD (Env.boxB key nm nonce bid), isD (.slice none 0 0)]]) (⟨⟨_, rfl, ⟨⟨_, rfl, Le.refl _⟩, ⟨⟨_, rfl, Le.refl _⟩, ⟨⟨_, rfl, Le.refl _⟩, ⟨⟨_, rfl, Le.refl _⟩, ⟨⟨_, rfl, Le.refl _⟩, ⟨⟨_, rfl, Le.refl _⟩, ⟨⟨_, rfl, Le.refl _⟩, trivial⟩⟩⟩⟩⟩⟩⟩⟩, [0, 1, 2, 3, 4, 5], by decide, ⟨⟨_, rfl, LeAll.refl _⟩, ⟨⟨_, rfl, LeR.refl _⟩, ⟨⟨_, rfl, LeR.refl _⟩, ⟨⟨_, rfl, LeR.refl _⟩, ⟨⟨_, rfl, LeAll.refl _⟩, ⟨⟨_, rfl, LeAll.refl _⟩, trivial⟩⟩⟩⟩⟩⟩⟩) ?_
      refine SW.region ?_
      refine SWl.rd rfl (Rd.move rfl) ?_
      refine SWl.rd rfl (Rd.move rfl) ?_
      refine SWl.rd rfl (Rd.move rfl) ?_
      refine SWl.ef (Ef.callR [0, 1, 2, 3] (con_tag gb s l nm (Env.sgn nm rnd ser (Env.boxB key nm nonce bid)) hf (by omega)) rfl ⟨Le.refl _, Le.refl _, Le.refl _, trivial⟩ (by decide) ⟨⟨_, rfl, LeAll.refl _⟩, ⟨⟨_, rfl, LeR.refl _⟩, ⟨⟨_, rfl, LeR.refl _⟩, ⟨⟨_, rfl, LeR.refl _⟩, trivial⟩⟩⟩⟩ (fun _ h => h) rfl) ?_
      rintro _ ⟨⟨⟩, rfl⟩
      refine SWl.rd rfl (Rd.move rfl) ?_
      refine SWl.rd rfl (Rd.extract rfl rfl) ?_
      refine SWl.rd rfl (Rd.extract rfl rfl) ?_
      refine SWl.rd rfl (Rd.fieldAddr (n := 4) rfl (by kernel_rfl)) ?_
      refine SWl.ef (S := [_]) (Ef.storeV 1 rfl rfl rfl (by kernel_rfl) rfl (List.mem_singleton.2 rfl)) ?_
      rintro _ rfl
      refine SWl.rd rfl (Rd.assign rfl) ?_
      refine SWl.nil ?_
      refine SN.then ?_
      refine SW.seq ?_
      refine SW.sub (σ' := St.ob [(0, isD (.pointer (some ⟨gb, 0, none⟩))), (14, isD (.pointer (some ⟨g14, 0, none⟩))), (19, isD (.pointer (some ⟨g19, 0, none⟩))), (16, iD 0)] [.c gb [isD (.map (s.M.map Prod.fst)), isD (.slice s.n.A (Acc.nm l).length s.n.c), isD (.map (s.M.map Prod.snd))], .r s.n.F (vecT 9 1 encT s.n.A s.n.c (Acc.nm l)), .r s.F1 (mapQ (s.M.map Prod.fst) encS (Acc.nm l) (acD l)), .r s.F2 (mapQ (s.M.map Prod.snd) encSt (Acc.seats l) (seD l)), .c g14 [strD [], iD 0, iD 0, isD (.slice none 0 0), isD (.slice none 0 0)], .c g19 [strD nm, iD rnd, iD ser, bD (Env.boxB key nm nonce bid), bD (Acc.tagT l nm (Env.sgn nm rnd ser (Env.boxB key nm nonce bid)))]]) (⟨⟨_, rfl, ⟨⟨_, rfl, Le.refl _⟩, ⟨⟨_, rfl, Le.refl _⟩, ⟨⟨_, rfl, Le.refl _⟩, ⟨⟨_, rfl, Le.is (by rw [t2])⟩, trivial⟩⟩⟩⟩⟩, [2, 3, 4, 5, 0, 1], by decide, ⟨⟨_, rfl, LeAll.refl _⟩, ⟨⟨_, rfl, LeR.refl _⟩, ⟨⟨_, rfl, LeR.refl _⟩, ⟨⟨_, rfl, LeR.refl _⟩, ⟨⟨_, rfl, LeAll.refl _⟩, ⟨⟨_, rfl, LeAll.refl _⟩, trivial⟩⟩⟩⟩⟩⟩⟩) ?_
      refine SW.region ?_
      refine SWl.rd rfl (Rd.move rfl) ?_
      refine SWl.rd rfl (Rd.nei rfl rfl) ?_
      refine SWl.nil ?_
      refine SN.then ?_
      refine SW.condF rfl (by decide) ?_
      refine SW.skip ?_
      refine SN.then ?_
      refine SW.seq ?_
      refine SW.region ?_
      refine SWl.rd rfl (Rd.loadA 5 5 rfl rfl (by kernel_rfl) rfl ap_nil) ?_
      refine SWl.ef (S := [_]) (Ef.storeA 4 rfl rfl rfl (by kernel_rfl) rfl (List.mem_singleton.2 rfl)) ?_
      rintro _ rfl
      refine SWl.rd rfl (Rd.assign rfl) ?_
      refine SWl.nil ?_
      refine SN.then ?_
      refine SW.retR (fn := Tryd.f23) (()) [0, 1, 2, 3] (fun _ _ h => h) (Rs.le (Rs.two rfl (ResV.cellA 4 rfl rfl (by kernel_rfl)) (ResV.tmp rfl)) ?_) (by decide) ⟨⟨_, rfl, LeAll.refl _⟩, ⟨⟨_, rfl, LeR.refl _⟩, ⟨⟨_, rfl, LeR.refl _⟩, ⟨⟨_, rfl, LeR.refl _⟩, trivial⟩⟩⟩⟩
      exact Le.tup ⟨by rw [(sl_ok h45 hx).2]; exact Le.refl _, Le.is (by rw [(sl_ok h45 hx).1]), trivial⟩
end Sx
end Go.Proofs.YtchbgfgboogniaaDoor
namespace Go.Proofs.YtchbgfgboogniaaDoor
open Go.RowKit
namespace Sx
theorem nat_w2 {n : Int} (h0 : 0 ≤ n) (h : n ≤ 9223372036854775807) : IntKind.u64.wrap n = ((n.toNat : Nat) : Int) := by rw [wrap_u64 h0 (by omega), Int.toNat_of_nonneg h0]
section
variable {l : List Acc.T} {nm : List UInt8} {rnd ser : Int} {key nonce bid : List UInt8} {e : Env.T}
end
theorem dec_end {p : List UInt8} (h : endE (Env.rd ⟨p, 0⟩).2 ≠ 0) : Env.decE p = endE (Env.rd ⟨p, 0⟩).2 ∧ Env.dec p = Env.zero := by
  have he : Env.decE p = endE (Env.rd ⟨p, 0⟩).2 := by unfold Env.decE; rw [if_pos h]
  exact ⟨he, by unfold Env.dec; rw [if_neg (by rw [he]; exact h)]⟩
theorem dec_bad {p : List UInt8} (h : ¬ endE (Env.rd ⟨p, 0⟩).2 ≠ 0) (h2 : ¬ Env.ok (Env.rd ⟨p, 0⟩).1) : Env.decE p = 6 ∧ Env.dec p = Env.zero := by
  have he : Env.decE p = 6 := by unfold Env.decE; rw [if_neg h, if_neg h2]
  exact ⟨he, by unfold Env.dec; rw [if_neg (by rw [he]; decide)]⟩
theorem dec_good2 {p : List UInt8} (h : ¬ endE (Env.rd ⟨p, 0⟩).2 ≠ 0) (h2 : Env.ok (Env.rd ⟨p, 0⟩).1) : Env.decE p = 0 ∧ Env.dec p = (Env.rd ⟨p, 0⟩).1 := by
  have he : Env.decE p = 0 := by unfold Env.decE; rw [if_neg h, if_pos h2]
  exact ⟨he, by unfold Env.dec; rw [if_pos he]⟩
theorem rd_acc (p : List UInt8) : (Env.rd ⟨p, 0⟩).1.acc.length ≤ 32 := by have := stP_le (lim := 32) (by decide) ⟨p, 0⟩; show (stP 32 ⟨p, 0⟩).1.length ≤ 32; omega
set_option maxHeartbeats 4000000 in
set_option maxRecDepth 100000 in
theorem con_validR42 (nm : List UInt8) (rnd ser : Int) (bl tl : Nat) (hs : nm.length ≤ 1000000) : ConN Tryd.prog 26 [aggD [strD nm, iD rnd, iD ser, lenD bl, lenD tl]] (boolD (decide (Env.okV nm rnd ser bl tl))) := by
  refine con_ofN Tryd.func26 (by kernel_rfl) rfl (by kernel_rfl) fun base w0 => ?_
  refine SW.seq ?_
  refine SW.region ?_
  refine SWl.ef (S := []) (Ef.boxA rfl rfl) ?_
  rintro _ ⟨g1, rfl⟩
  refine SWl.rd rfl (Rd.assign rfl) ?_
  refine SWl.nil ?_
  refine SN.then ?_
  refine SW.seq ?_
  refine SW.region ?_
  refine SWl.rd rfl (Rd.fieldAddr (n := 0) rfl (by kernel_rfl)) ?_
  refine SWl.rd rfl (Rd.loadB 0 rfl rfl rfl (by kernel_rfl) ap_nil) ?_
  refine SWl.ef (S := []) (Ef.callN [] (con_NameR nm hs) rfl ⟨(sees_le (Le.refl _)), trivial⟩ rfl) ?_
  rintro _ rfl
  refine SWl.rd rfl (Rd.move rfl) ?_
  refine SWl.split 6 rfl (fun hb6 => ?_) (fun hb6 => ?_)
  · have h6 := of_decide_eq_true hb6
    refine SWl.rdg rfl rfl (hb6) rfl rfl (Rd.fieldAddr (n := 1) rfl (by kernel_rfl)) ?_
    refine SWl.rdg rfl rfl (hb6) rfl rfl (Rd.loadB 0 rfl rfl rfl (by kernel_rfl) ap_nil) ?_
    refine SWl.rdg rfl rfl (hb6) rfl rfl (Rd.geq rfl rfl) ?_
    refine SWl.rd rfl (Rd.pickY rfl (hb6) rfl) ?_
    refine SWl.rd rfl (Rd.move rfl) ?_
    refine SWl.split 11 rfl (fun hb11 => ?_) (fun hb11 => ?_)
    · have h11 := of_decide_eq_true hb11
      refine SWl.rdg rfl rfl (hb11) rfl rfl (Rd.fieldAddr (n := 1) rfl (by kernel_rfl)) ?_
      refine SWl.rdg rfl rfl (hb11) rfl rfl (Rd.loadB 0 rfl rfl rfl (by kernel_rfl) ap_nil) ?_
      refine SWl.rdg rfl rfl (hb11) rfl rfl (Rd.leq rfl rfl) ?_
      refine SWl.rd rfl (Rd.pickY rfl (hb11) rfl) ?_
      refine SWl.rd rfl (Rd.move rfl) ?_
      refine SWl.split 16 rfl (fun hb16 => ?_) (fun hb16 => ?_)
      · have h16 := of_decide_eq_true hb16
        refine SWl.rdg rfl rfl (hb16) rfl rfl (Rd.fieldAddr (n := 2) rfl (by kernel_rfl)) ?_
        refine SWl.rdg rfl rfl (hb16) rfl rfl (Rd.loadB 0 rfl rfl rfl (by kernel_rfl) ap_nil) ?_
        refine SWl.rdg rfl rfl (hb16) rfl rfl (Rd.geq rfl rfl) ?_
        refine SWl.rd rfl (Rd.pickY rfl (hb16) rfl) ?_
        refine SWl.rd rfl (Rd.move rfl) ?_
        refine SWl.split 21 rfl (fun hb21 => ?_) (fun hb21 => ?_)
        · have h21 := of_decide_eq_true hb21
          refine SWl.rdg rfl rfl (hb21) rfl rfl (Rd.fieldAddr (n := 2) rfl (by kernel_rfl)) ?_
          refine SWl.rdg rfl rfl (hb21) rfl rfl (Rd.loadB 0 rfl rfl rfl (by kernel_rfl) ap_nil) ?_
          refine SWl.rdg rfl rfl (hb21) rfl rfl (Rd.leq rfl rfl) ?_
          refine SWl.rd rfl (Rd.pickY rfl (hb21) rfl) ?_
          refine SWl.rd rfl (Rd.move rfl) ?_
          refine SWl.split 26 rfl (fun hb26 => ?_) (fun hb26 => ?_)
          · have h26 := of_decide_eq_true hb26
            refine SWl.rdg rfl rfl (hb26) rfl rfl (Rd.fieldAddr (n := 3) rfl (by kernel_rfl)) ?_
            refine SWl.rdg rfl rfl (hb26) rfl rfl (Rd.loadB 0 rfl rfl rfl (by kernel_rfl) ap_nil) ?_
            refine SWl.rdg rfl rfl (hb26) rfl rfl (Rd.lenN (e := 5) rfl (by kernel_rfl)) ?_
            refine SWl.rdg rfl rfl (hb26) rfl rfl (Rd.geq rfl rfl) ?_
            refine SWl.rd rfl (Rd.pickY rfl (hb26) rfl) ?_
            refine SWl.rd rfl (Rd.move rfl) ?_
            refine SWl.split 32 rfl (fun hb32 => ?_) (fun hb32 => ?_)
            · have h32 := of_decide_eq_true hb32
              refine SWl.rdg rfl rfl (hb32) rfl rfl (Rd.fieldAddr (n := 3) rfl (by kernel_rfl)) ?_
              refine SWl.rdg rfl rfl (hb32) rfl rfl (Rd.loadB 0 rfl rfl rfl (by kernel_rfl) ap_nil) ?_
              refine SWl.rdg rfl rfl (hb32) rfl rfl (Rd.lenN (e := 5) rfl (by kernel_rfl)) ?_
              refine SWl.rdg rfl rfl (hb32) rfl rfl (Rd.leq rfl rfl) ?_
              refine SWl.rd rfl (Rd.pickY rfl (hb32) rfl) ?_
              refine SWl.rd rfl (Rd.move rfl) ?_
              refine SWl.split 38 rfl (fun hb38 => ?_) (fun hb38 => ?_)
              · have h38 := of_decide_eq_true hb38
                refine SWl.rdg rfl rfl (hb38) rfl rfl (Rd.fieldAddr (n := 4) rfl (by kernel_rfl)) ?_
                refine SWl.rdg rfl rfl (hb38) rfl rfl (Rd.loadB 0 rfl rfl rfl (by kernel_rfl) ap_nil) ?_
                refine SWl.rdg rfl rfl (hb38) rfl rfl (Rd.lenN (e := 5) rfl (by kernel_rfl)) ?_
                refine SWl.rdg rfl rfl (hb38) rfl rfl (Rd.eqi rfl rfl) ?_
                refine SWl.rd rfl (Rd.pickY rfl (hb38) rfl) ?_
                refine SWl.rd rfl (Rd.assign rfl) ?_
                refine SWl.nil ?_
                refine SN.then ?_
                refine SW.ret (fn := Tryd.f26) (fun _ _ h => h) (Rs.le (Rs.one rfl (ResV.tmp rfl)) ?_)
                exact le_bool_n (by rw [decide_eq_decide]; exact ⟨fun h => ⟨h6, ⟨h11, h16⟩, ⟨h21, h26⟩, ⟨by omega, by omega⟩, by omega⟩, fun h => by have := h.2.2.2.2; omega⟩)
              · have h38 := of_decide_eq_false hb38
                refine SWl.off rfl rfl (hb38) rfl rfl ?_
                refine SWl.off rfl rfl (hb38) rfl rfl ?_
                refine SWl.off rfl rfl (hb38) rfl rfl ?_
                refine SWl.off rfl rfl (hb38) rfl rfl ?_
                refine SWl.rd rfl (Rd.pickN rfl (hb38) rfl) ?_
                refine SWl.rd rfl (Rd.assign rfl) ?_
                refine SWl.nil ?_
                refine SN.then ?_
                refine SW.ret (fn := Tryd.f26) (fun _ _ h => h) (Rs.le (Rs.one rfl (ResV.tmp rfl)) ?_)
                exact le_bool_n (by symm; apply decide_eq_false; intro h; exact h38 (by have := h.2.2.2.1.2; omega))
            · have h32 := of_decide_eq_false hb32
              refine SWl.off rfl rfl (hb32) rfl rfl ?_
              refine SWl.off rfl rfl (hb32) rfl rfl ?_
              refine SWl.off rfl rfl (hb32) rfl rfl ?_
              refine SWl.off rfl rfl (hb32) rfl rfl ?_
              refine SWl.rd rfl (Rd.pickN rfl (hb32) rfl) ?_
              refine SWl.rd rfl (Rd.move rfl) ?_
              refine SWl.off rfl rfl (rfl) rfl rfl ?_
              refine SWl.off rfl rfl (rfl) rfl rfl ?_
              refine SWl.off rfl rfl (rfl) rfl rfl ?_
              refine SWl.off rfl rfl (rfl) rfl rfl ?_
              refine SWl.rd rfl (Rd.pickN rfl (rfl) rfl) ?_
              refine SWl.rd rfl (Rd.assign rfl) ?_
              refine SWl.nil ?_
              refine SN.then ?_
              refine SW.ret (fn := Tryd.f26) (fun _ _ h => h) (Rs.le (Rs.one rfl (ResV.tmp rfl)) ?_)
              exact le_bool_n (by symm; apply decide_eq_false; intro h; exact h32 (by have := h.2.2.2.1.1; omega))
          · have h26 := of_decide_eq_false hb26
            refine SWl.off rfl rfl (hb26) rfl rfl ?_
            refine SWl.off rfl rfl (hb26) rfl rfl ?_
            refine SWl.off rfl rfl (hb26) rfl rfl ?_
            refine SWl.off rfl rfl (hb26) rfl rfl ?_
            refine SWl.rd rfl (Rd.pickN rfl (hb26) rfl) ?_
            refine SWl.rd rfl (Rd.move rfl) ?_
            refine SWl.off rfl rfl (rfl) rfl rfl ?_
            refine SWl.off rfl rfl (rfl) rfl rfl ?_
            refine SWl.off rfl rfl (rfl) rfl rfl ?_
            refine SWl.off rfl rfl (rfl) rfl rfl ?_
            refine SWl.rd rfl (Rd.pickN rfl (rfl) rfl) ?_
            refine SWl.rd rfl (Rd.move rfl) ?_
            refine SWl.off rfl rfl (rfl) rfl rfl ?_
            refine SWl.off rfl rfl (rfl) rfl rfl ?_
            refine SWl.off rfl rfl (rfl) rfl rfl ?_
            refine SWl.off rfl rfl (rfl) rfl rfl ?_
            refine SWl.rd rfl (Rd.pickN rfl (rfl) rfl) ?_
            refine SWl.rd rfl (Rd.assign rfl) ?_
            refine SWl.nil ?_
            refine SN.then ?_
            refine SW.ret (fn := Tryd.f26) (fun _ _ h => h) (Rs.le (Rs.one rfl (ResV.tmp rfl)) ?_)
            exact le_bool_n (by symm; apply decide_eq_false; intro h; exact h26 h.2.2.1.2)
        · have h21 := of_decide_eq_false hb21
          refine SWl.off rfl rfl (hb21) rfl rfl ?_
          refine SWl.off rfl rfl (hb21) rfl rfl ?_
          refine SWl.off rfl rfl (hb21) rfl rfl ?_
          refine SWl.rd rfl (Rd.pickN rfl (hb21) rfl) ?_
          refine SWl.rd rfl (Rd.move rfl) ?_
          refine SWl.off rfl rfl (rfl) rfl rfl ?_
          refine SWl.off rfl rfl (rfl) rfl rfl ?_
          refine SWl.off rfl rfl (rfl) rfl rfl ?_
          refine SWl.off rfl rfl (rfl) rfl rfl ?_
          refine SWl.rd rfl (Rd.pickN rfl (rfl) rfl) ?_
          refine SWl.rd rfl (Rd.move rfl) ?_
          refine SWl.off rfl rfl (rfl) rfl rfl ?_
          refine SWl.off rfl rfl (rfl) rfl rfl ?_
          refine SWl.off rfl rfl (rfl) rfl rfl ?_
          refine SWl.off rfl rfl (rfl) rfl rfl ?_
          refine SWl.rd rfl (Rd.pickN rfl (rfl) rfl) ?_
          refine SWl.rd rfl (Rd.move rfl) ?_
          refine SWl.off rfl rfl (rfl) rfl rfl ?_
          refine SWl.off rfl rfl (rfl) rfl rfl ?_
          refine SWl.off rfl rfl (rfl) rfl rfl ?_
          refine SWl.off rfl rfl (rfl) rfl rfl ?_
          refine SWl.rd rfl (Rd.pickN rfl (rfl) rfl) ?_
          refine SWl.rd rfl (Rd.assign rfl) ?_
          refine SWl.nil ?_
          refine SN.then ?_
          refine SW.ret (fn := Tryd.f26) (fun _ _ h => h) (Rs.le (Rs.one rfl (ResV.tmp rfl)) ?_)
          exact le_bool_n (by symm; apply decide_eq_false; intro h; exact h21 h.2.2.1.1)
      · have h16 := of_decide_eq_false hb16
        refine SWl.off rfl rfl (hb16) rfl rfl ?_
        refine SWl.off rfl rfl (hb16) rfl rfl ?_
        refine SWl.off rfl rfl (hb16) rfl rfl ?_
        refine SWl.rd rfl (Rd.pickN rfl (hb16) rfl) ?_
        refine SWl.rd rfl (Rd.move rfl) ?_
        refine SWl.off rfl rfl (rfl) rfl rfl ?_
        refine SWl.off rfl rfl (rfl) rfl rfl ?_
        refine SWl.off rfl rfl (rfl) rfl rfl ?_
        refine SWl.rd rfl (Rd.pickN rfl (rfl) rfl) ?_
        refine SWl.rd rfl (Rd.move rfl) ?_
        refine SWl.off rfl rfl (rfl) rfl rfl ?_
        refine SWl.off rfl rfl (rfl) rfl rfl ?_
        refine SWl.off rfl rfl (rfl) rfl rfl ?_
        refine SWl.off rfl rfl (rfl) rfl rfl ?_
        refine SWl.rd rfl (Rd.pickN rfl (rfl) rfl) ?_
        refine SWl.rd rfl (Rd.move rfl) ?_
        refine SWl.off rfl rfl (rfl) rfl rfl ?_
        refine SWl.off rfl rfl (rfl) rfl rfl ?_
        refine SWl.off rfl rfl (rfl) rfl rfl ?_
        refine SWl.off rfl rfl (rfl) rfl rfl ?_
        refine SWl.rd rfl (Rd.pickN rfl (rfl) rfl) ?_
        refine SWl.rd rfl (Rd.move rfl) ?_
        refine SWl.off rfl rfl (rfl) rfl rfl ?_
        refine SWl.off rfl rfl (rfl) rfl rfl ?_
        refine SWl.off rfl rfl (rfl) rfl rfl ?_
        refine SWl.off rfl rfl (rfl) rfl rfl ?_
        refine SWl.rd rfl (Rd.pickN rfl (rfl) rfl) ?_
        refine SWl.rd rfl (Rd.assign rfl) ?_
        refine SWl.nil ?_
        refine SN.then ?_
        refine SW.ret (fn := Tryd.f26) (fun _ _ h => h) (Rs.le (Rs.one rfl (ResV.tmp rfl)) ?_)
        exact le_bool_n (by symm; apply decide_eq_false; intro h; exact h16 h.2.1.2)
    · have h11 := of_decide_eq_false hb11
      refine SWl.off rfl rfl (hb11) rfl rfl ?_
      refine SWl.off rfl rfl (hb11) rfl rfl ?_
      refine SWl.off rfl rfl (hb11) rfl rfl ?_
      refine SWl.rd rfl (Rd.pickN rfl (hb11) rfl) ?_
      refine SWl.rd rfl (Rd.move rfl) ?_
      refine SWl.off rfl rfl (rfl) rfl rfl ?_
      refine SWl.off rfl rfl (rfl) rfl rfl ?_
      refine SWl.off rfl rfl (rfl) rfl rfl ?_
      refine SWl.rd rfl (Rd.pickN rfl (rfl) rfl) ?_
      refine SWl.rd rfl (Rd.move rfl) ?_
      refine SWl.off rfl rfl (rfl) rfl rfl ?_
      refine SWl.off rfl rfl (rfl) rfl rfl ?_
      refine SWl.off rfl rfl (rfl) rfl rfl ?_
      refine SWl.rd rfl (Rd.pickN rfl (rfl) rfl) ?_
      refine SWl.rd rfl (Rd.move rfl) ?_
      refine SWl.off rfl rfl (rfl) rfl rfl ?_
      refine SWl.off rfl rfl (rfl) rfl rfl ?_
      refine SWl.off rfl rfl (rfl) rfl rfl ?_
      refine SWl.off rfl rfl (rfl) rfl rfl ?_
      refine SWl.rd rfl (Rd.pickN rfl (rfl) rfl) ?_
      refine SWl.rd rfl (Rd.move rfl) ?_
      refine SWl.off rfl rfl (rfl) rfl rfl ?_
      refine SWl.off rfl rfl (rfl) rfl rfl ?_
      refine SWl.off rfl rfl (rfl) rfl rfl ?_
      refine SWl.off rfl rfl (rfl) rfl rfl ?_
      refine SWl.rd rfl (Rd.pickN rfl (rfl) rfl) ?_
      refine SWl.rd rfl (Rd.move rfl) ?_
      refine SWl.off rfl rfl (rfl) rfl rfl ?_
      refine SWl.off rfl rfl (rfl) rfl rfl ?_
      refine SWl.off rfl rfl (rfl) rfl rfl ?_
      refine SWl.off rfl rfl (rfl) rfl rfl ?_
      refine SWl.rd rfl (Rd.pickN rfl (rfl) rfl) ?_
      refine SWl.rd rfl (Rd.assign rfl) ?_
      refine SWl.nil ?_
      refine SN.then ?_
      refine SW.ret (fn := Tryd.f26) (fun _ _ h => h) (Rs.le (Rs.one rfl (ResV.tmp rfl)) ?_)
      exact le_bool_n (by symm; apply decide_eq_false; intro h; exact h11 h.2.1.1)
  · have h6 := of_decide_eq_false hb6
    refine SWl.off rfl rfl (hb6) rfl rfl ?_
    refine SWl.off rfl rfl (hb6) rfl rfl ?_
    refine SWl.off rfl rfl (hb6) rfl rfl ?_
    refine SWl.rd rfl (Rd.pickN rfl (hb6) rfl) ?_
    refine SWl.rd rfl (Rd.move rfl) ?_
    refine SWl.off rfl rfl (rfl) rfl rfl ?_
    refine SWl.off rfl rfl (rfl) rfl rfl ?_
    refine SWl.off rfl rfl (rfl) rfl rfl ?_
    refine SWl.rd rfl (Rd.pickN rfl (rfl) rfl) ?_
    refine SWl.rd rfl (Rd.move rfl) ?_
    refine SWl.off rfl rfl (rfl) rfl rfl ?_
    refine SWl.off rfl rfl (rfl) rfl rfl ?_
    refine SWl.off rfl rfl (rfl) rfl rfl ?_
    refine SWl.rd rfl (Rd.pickN rfl (rfl) rfl) ?_
    refine SWl.rd rfl (Rd.move rfl) ?_
    refine SWl.off rfl rfl (rfl) rfl rfl ?_
    refine SWl.off rfl rfl (rfl) rfl rfl ?_
    refine SWl.off rfl rfl (rfl) rfl rfl ?_
    refine SWl.rd rfl (Rd.pickN rfl (rfl) rfl) ?_
    refine SWl.rd rfl (Rd.move rfl) ?_
    refine SWl.off rfl rfl (rfl) rfl rfl ?_
    refine SWl.off rfl rfl (rfl) rfl rfl ?_
    refine SWl.off rfl rfl (rfl) rfl rfl ?_
    refine SWl.off rfl rfl (rfl) rfl rfl ?_
    refine SWl.rd rfl (Rd.pickN rfl (rfl) rfl) ?_
    refine SWl.rd rfl (Rd.move rfl) ?_
    refine SWl.off rfl rfl (rfl) rfl rfl ?_
    refine SWl.off rfl rfl (rfl) rfl rfl ?_
    refine SWl.off rfl rfl (rfl) rfl rfl ?_
    refine SWl.off rfl rfl (rfl) rfl rfl ?_
    refine SWl.rd rfl (Rd.pickN rfl (rfl) rfl) ?_
    refine SWl.rd rfl (Rd.move rfl) ?_
    refine SWl.off rfl rfl (rfl) rfl rfl ?_
    refine SWl.off rfl rfl (rfl) rfl rfl ?_
    refine SWl.off rfl rfl (rfl) rfl rfl ?_
    refine SWl.off rfl rfl (rfl) rfl rfl ?_
    refine SWl.rd rfl (Rd.pickN rfl (rfl) rfl) ?_
    refine SWl.rd rfl (Rd.assign rfl) ?_
    refine SWl.nil ?_
    refine SN.then ?_
    refine SW.ret (fn := Tryd.f26) (fun _ _ h => h) (Rs.le (Rs.one rfl (ResV.tmp rfl)) ?_)
    exact le_bool_n (by symm; apply decide_eq_false; intro h; exact h6 h.1)
set_option maxHeartbeats 4000000 in
set_option maxRecDepth 100000 in
theorem con_signedR (e : Env.T) (h1 : e.acc.length ≤ 1000) (h2 : 0 ≤ e.rnd ∧ e.rnd ≤ 1048576) (h3 : 0 ≤ e.ser ∧ e.ser ≤ 1073741824) (h4 : e.box.length ≤ 10000) : ConR Tryd.prog 70 [] [aggD [strD e.acc, iD e.rnd, iD e.ser, bD e.box, bD e.tag]] (fun t : Ust => [.r t.F (vecT 5 1 encB t.A t.c (Env.sgnT e))]) (fun t : Ust => isD (.slice t.A (Env.sgnT e).length t.c)) := by
  have a1 := strE_len (b := e.acc) (by omega)
  have a2 := strE_len (b := e.box) (by omega)
  have a3 := grp_ten (n := e.rnd.toNat) (by omega)
  have a4 := grp_ten (n := e.ser.toNat) (by omega)
  refine con_ofR Tryd.func70 (by kernel_rfl) rfl (by kernel_rfl) fun base w0 => ?_
  refine SW.seq ?_
  refine SW.region ?_
  refine SWl.ef (S := []) (Ef.boxA rfl rfl) ?_
  rintro _ ⟨g1, rfl⟩
  refine SWl.rd rfl (Rd.assign rfl) ?_
  refine SWl.nil ?_
  refine SN.then ?_
  refine SW.seq ?_
  refine SW.region ?_
  refine SWl.rd rfl (Rd.fieldAddr (n := 0) rfl (by kernel_rfl)) ?_
  refine SWl.rd rfl (Rd.loadB 0 rfl rfl rfl (by kernel_rfl) ap_nil) ?_
  refine SWl.ef (S := []) (Ef.bytes (e := 5) rfl (by kernel_rfl) (by kernel_rfl) (by kernel_rfl) rfl) ?_
  rintro _ rfl
  refine SWl.ef (S := []) (Ef.callR [] (con_strR e.acc (by omega)) rfl ⟨le_nw, trivial⟩ (by decide) trivial (fun _ h => h) rfl) ?_
  rintro _ ⟨s7, rfl⟩
  refine SWl.rd rfl (Rd.assign rfl) ?_
  refine SWl.nil ?_
  refine SN.then ?_
  refine SW.seq ?_
  refine SW.sub (σ' := St.ob [(1, isD (.pointer (some ⟨g1, 0, none⟩))), (3, isD (.slice s7.A (strE e.acc).length s7.c))] [.c g1 [strD e.acc, iD e.rnd, iD e.ser, bD e.box, bD e.tag], .r s7.F (vecT 5 1 encB s7.A s7.c (strE e.acc))]) (⟨⟨_, rfl, ⟨⟨_, rfl, Le.refl _⟩, ⟨⟨_, rfl, Le.refl _⟩, trivial⟩⟩⟩, [0, 1], by decide, ⟨⟨_, rfl, LeAll.refl _⟩, ⟨⟨_, rfl, LeR.refl _⟩, trivial⟩⟩⟩) ?_
  refine SW.region ?_
  refine SWl.rd rfl (Rd.move rfl) ?_
  refine SWl.rd rfl (Rd.fieldAddr (n := 1) rfl (by kernel_rfl)) ?_
  refine SWl.rd rfl (Rd.loadB 0 rfl rfl rfl (by kernel_rfl) ap_nil) ?_
  refine SWl.rd rfl (Rd.cvW (r := ((e.rnd.toNat : Nat) : Int)) .i64 rfl (by kernel_rfl) (by kernel_rfl) (nat_w2 h2.1 (by omega))) ?_
  refine SWl.ef (S := []) (Ef.callR [] (con_grpR e.rnd.toNat (by omega)) rfl ⟨Le.refl _, trivial⟩ (by decide) trivial (fun _ h => h) rfl) ?_
  rintro _ ⟨s12, rfl⟩
  refine SWl.ef (Ef.appT 1 1 1 rfl rfl (SrcT.vec 2 rfl rfl) (by kernel_rfl) (by kernel_rfl) (by first | omega | (simp only [List.length_append] at *; omega)) (by decide) (fun _ h => h) rfl) ?_
  rintro _ ⟨A13, F13, c13, rfl⟩
  refine SWl.rd rfl (Rd.assign rfl) ?_
  refine SWl.nil ?_
  refine SN.then ?_
  refine SW.seq ?_
  refine SW.sub (σ' := St.ob [(1, isD (.pointer (some ⟨g1, 0, none⟩))), (3, isD (.slice (⟨A13, c13, F13⟩ : Ust).A (strE e.acc ++ grp e.rnd.toNat).length (⟨A13, c13, F13⟩ : Ust).c))] [.c g1 [strD e.acc, iD e.rnd, iD e.ser, bD e.box, bD e.tag], .r (⟨A13, c13, F13⟩ : Ust).F (vecT 5 1 encB (⟨A13, c13, F13⟩ : Ust).A (⟨A13, c13, F13⟩ : Ust).c (strE e.acc ++ grp e.rnd.toNat))]) (⟨⟨_, rfl, ⟨⟨_, rfl, Le.refl _⟩, ⟨⟨_, rfl, Le.refl _⟩, trivial⟩⟩⟩, [0, 2], by decide, ⟨⟨_, rfl, LeAll.refl _⟩, ⟨⟨_, rfl, LeR.refl _⟩, trivial⟩⟩⟩) ?_
  refine SW.region ?_
  refine SWl.rd rfl (Rd.move rfl) ?_
  refine SWl.rd rfl (Rd.fieldAddr (n := 2) rfl (by kernel_rfl)) ?_
  refine SWl.rd rfl (Rd.loadB 0 rfl rfl rfl (by kernel_rfl) ap_nil) ?_
  refine SWl.rd rfl (Rd.cvW (r := ((e.ser.toNat : Nat) : Int)) .i64 rfl (by kernel_rfl) (by kernel_rfl) (nat_w2 h3.1 (by omega))) ?_
  refine SWl.ef (S := []) (Ef.callR [] (con_grpR e.ser.toNat (by omega)) rfl ⟨Le.refl _, trivial⟩ (by decide) trivial (fun _ h => h) rfl) ?_
  rintro _ ⟨s18, rfl⟩
  refine SWl.ef (Ef.appT 1 1 1 rfl rfl (SrcT.vec 2 rfl rfl) (by kernel_rfl) (by kernel_rfl) (by first | omega | (simp only [List.length_append] at *; omega)) (by decide) (fun _ h => h) rfl) ?_
  rintro _ ⟨A19, F19, c19, rfl⟩
  refine SWl.rd rfl (Rd.assign rfl) ?_
  refine SWl.nil ?_
  refine SN.then ?_
  refine SW.seq ?_
  refine SW.sub (σ' := St.ob [(1, isD (.pointer (some ⟨g1, 0, none⟩))), (3, isD (.slice (⟨A19, c19, F19⟩ : Ust).A (strE e.acc ++ grp e.rnd.toNat ++ grp e.ser.toNat).length (⟨A19, c19, F19⟩ : Ust).c))] [.c g1 [strD e.acc, iD e.rnd, iD e.ser, bD e.box, bD e.tag], .r (⟨A19, c19, F19⟩ : Ust).F (vecT 5 1 encB (⟨A19, c19, F19⟩ : Ust).A (⟨A19, c19, F19⟩ : Ust).c (strE e.acc ++ grp e.rnd.toNat ++ grp e.ser.toNat))]) (⟨⟨_, rfl, ⟨⟨_, rfl, Le.refl _⟩, ⟨⟨_, rfl, Le.refl _⟩, trivial⟩⟩⟩, [0, 2], by decide, ⟨⟨_, rfl, LeAll.refl _⟩, ⟨⟨_, rfl, LeR.refl _⟩, trivial⟩⟩⟩) ?_
  refine SW.region ?_
  refine SWl.rd rfl (Rd.move rfl) ?_
  refine SWl.rd rfl (Rd.fieldAddr (n := 3) rfl (by kernel_rfl)) ?_
  refine SWl.rd rfl (Rd.loadB 0 rfl rfl rfl (by kernel_rfl) ap_nil) ?_
  refine SWl.ef (S := []) (Ef.callR [] (con_strR e.box (by omega)) rfl ⟨Le.refl _, trivial⟩ (by decide) trivial (fun _ h => h) rfl) ?_
  rintro _ ⟨s23, rfl⟩
  refine SWl.ef (Ef.appT 1 1 1 rfl rfl (SrcT.vec 2 rfl rfl) (by kernel_rfl) (by kernel_rfl) (by first | omega | (simp only [List.length_append] at *; omega)) (by decide) (fun _ h => h) rfl) ?_
  rintro _ ⟨A24, F24, c24, rfl⟩
  refine SWl.rd rfl (Rd.assign rfl) ?_
  refine SWl.nil ?_
  refine SN.then ?_
  refine SW.retR (fn := Tryd.f70) ((⟨A24, c24, F24⟩ : Ust)) [2] (fun _ _ h => h) (Rs.le (Rs.one rfl (ResV.tmp rfl)) ?_) (by decide) ⟨⟨_, rfl, LeR.refl _⟩, trivial⟩
  exact Le.refl _
set_option maxHeartbeats 4000000 in
set_option maxRecDepth 100000 in
theorem con_encodeER (e : Env.T) (h : Env.ok e) : Con Tryd.prog 36 [aggD [strD e.acc, iD e.rnd, iD e.ser, bD e.box, bD e.tag]] (bD (Env.enc e)) := by
  obtain ⟨k1, k2, k3, k4, k5, k6, k7, k8⟩ := Env.ok_len h
  have hsl := Env.sgnT_len h
  have a2 := strE_len (b := e.tag) (by omega)
  refine con_of Tryd.func36 (by kernel_rfl) rfl (by kernel_rfl) fun base w0 => ?_
  refine SW.seq ?_
  refine SW.region ?_
  refine SWl.ef (S := []) (Ef.boxA rfl rfl) ?_
  rintro _ ⟨g1, rfl⟩
  refine SWl.rd rfl (Rd.assign rfl) ?_
  refine SWl.nil ?_
  refine SN.then ?_
  refine SW.seq ?_
  refine SW.draw [] (.r 0 (.r 2 (.r 3 (.n 1 (.n 4 (.e 5 (.r 6 .fin) .no) .no) .no)))) (by kernel_rfl) (by kernel_rfl) (fun d _ _ _ _ h => by cases d <;> exact h) ?_
  refine SWz.rd (i := 0) rfl rfl (Rd.loadA 0 5 rfl rfl (by kernel_rfl) rfl ap_nil) ?_
  refine SWz.rd (i := 2) rfl rfl (Rd.fieldAddr (n := 4) rfl (by kernel_rfl)) ?_
  refine SWz.rd (i := 3) rfl rfl (Rd.loadB 0 rfl rfl rfl (by kernel_rfl) ap_nil) ?_
  refine SWz.efl (i := 1) rfl (EfL.callR (con_signedR e (by omega) ⟨k2, k3⟩ ⟨k4, k5⟩ (by omega)) rfl ⟨Le.refl _, trivial⟩ rfl) ?_ SWz.no
  rintro _ _ ⟨s4, rfl, rfl⟩
  refine SWz.efl (i := 4) rfl (EfL.callR (con_strR e.tag (by omega)) rfl ⟨Le.refl _, trivial⟩ rfl) ?_ SWz.no
  rintro _ _ ⟨s7, rfl, rfl⟩
  refine SWz.efe (i := 5) rfl (Ef.appT 1 1 1 rfl rfl (SrcT.vec 2 rfl rfl) (by kernel_rfl) (by kernel_rfl) (by first | omega | (simp only [List.length_append] at *; omega)) (by decide) (fun _ h => List.mem_append_left _ (List.mem_append_right _ (List.mem_append_left _ h))) rfl) ?_ SWz.no
  rintro _ ⟨A8, F8, c8, rfl⟩
  refine SWz.rd (i := 6) rfl rfl (Rd.assign rfl) ?_
  refine SWz.nil ?_
  refine SN.then ?_
  refine SW.freezeT 2 2 rfl rfl (le_ls_b _) ?_
  refine SW.ret (fn := Tryd.f36) (fun _ _ h => h) (Rs.le (Rs.one rfl (ResV.tmp rfl)) ?_)
  exact Le.refl _
set_option maxHeartbeats 4000000 in
set_option maxRecDepth 100000 in
theorem con_sameE (a b : Env.T) : ConN Tryd.prog 24 [aggD [strD a.acc, iD a.rnd, iD a.ser, bD a.box, bD a.tag], aggD [strD b.acc, iD b.rnd, iD b.ser, bD b.box, bD b.tag]] (boolD (decide (a = b))) := by
  refine con_ofN Tryd.func24 (by kernel_rfl) rfl (by kernel_rfl) fun base w0 => ?_
  refine SW.seq ?_
  refine SW.region ?_
  refine SWl.ef (S := []) (Ef.boxA rfl rfl) ?_
  rintro _ ⟨g2, rfl⟩
  refine SWl.ef (S := []) (Ef.boxA rfl rfl) ?_
  rintro _ ⟨g3, rfl⟩
  refine SWl.rd rfl (Rd.assign rfl) ?_
  refine SWl.nil ?_
  refine SN.then ?_
  refine SW.seq ?_
  refine SW.region ?_
  refine SWl.rd rfl (Rd.fieldAddr (n := 0) rfl (by kernel_rfl)) ?_
  refine SWl.rd rfl (Rd.loadB 0 rfl rfl rfl (by kernel_rfl) ap_nil) ?_
  refine SWl.rd rfl (Rd.fieldAddr (n := 0) rfl (by kernel_rfl)) ?_
  refine SWl.rd rfl (Rd.loadB 1 rfl rfl rfl (by kernel_rfl) ap_nil) ?_
  refine SWl.rd rfl (Rd.eqs (p := a.acc) (q := b.acc) rfl rfl) ?_
  refine SWl.rd rfl (Rd.move rfl) ?_
  refine SWl.split 10 rfl (fun hb10 => ?_) (fun hb10 => ?_)
  · have h10 := of_decide_eq_true hb10
    refine SWl.rdg rfl rfl (hb10) rfl rfl (Rd.fieldAddr (n := 1) rfl (by kernel_rfl)) ?_
    refine SWl.rdg rfl rfl (hb10) rfl rfl (Rd.loadB 0 rfl rfl rfl (by kernel_rfl) ap_nil) ?_
    refine SWl.rdg rfl rfl (hb10) rfl rfl (Rd.fieldAddr (n := 1) rfl (by kernel_rfl)) ?_
    refine SWl.rdg rfl rfl (hb10) rfl rfl (Rd.loadB 1 rfl rfl rfl (by kernel_rfl) ap_nil) ?_
    refine SWl.rdg rfl rfl (hb10) rfl rfl (Rd.eqi rfl rfl) ?_
    refine SWl.rd rfl (Rd.pickY rfl (hb10) rfl) ?_
    refine SWl.rd rfl (Rd.move rfl) ?_
    refine SWl.split 17 rfl (fun hb17 => ?_) (fun hb17 => ?_)
    · have h17 := of_decide_eq_true hb17
      refine SWl.rdg rfl rfl (hb17) rfl rfl (Rd.fieldAddr (n := 2) rfl (by kernel_rfl)) ?_
      refine SWl.rdg rfl rfl (hb17) rfl rfl (Rd.loadB 0 rfl rfl rfl (by kernel_rfl) ap_nil) ?_
      refine SWl.rdg rfl rfl (hb17) rfl rfl (Rd.fieldAddr (n := 2) rfl (by kernel_rfl)) ?_
      refine SWl.rdg rfl rfl (hb17) rfl rfl (Rd.loadB 1 rfl rfl rfl (by kernel_rfl) ap_nil) ?_
      refine SWl.rdg rfl rfl (hb17) rfl rfl (Rd.eqi rfl rfl) ?_
      refine SWl.rd rfl (Rd.pickY rfl (hb17) rfl) ?_
      refine SWl.rd rfl (Rd.move rfl) ?_
      refine SWl.split 24 rfl (fun hb24 => ?_) (fun hb24 => ?_)
      · have h24 := of_decide_eq_true hb24
        refine SWl.rdg rfl rfl (hb24) rfl rfl (Rd.fieldAddr (n := 3) rfl (by kernel_rfl)) ?_
        refine SWl.rdg rfl rfl (hb24) rfl rfl (Rd.loadB 0 rfl rfl rfl (by kernel_rfl) ap_nil) ?_
        refine SWl.rdg rfl rfl (hb24) rfl rfl (Rd.str (e := 5) rfl (by kernel_rfl) (by kernel_rfl) (by kernel_rfl) (by simp)) ?_
        refine SWl.rdg rfl rfl (hb24) rfl rfl (Rd.fieldAddr (n := 3) rfl (by kernel_rfl)) ?_
        refine SWl.rdg rfl rfl (hb24) rfl rfl (Rd.loadB 1 rfl rfl rfl (by kernel_rfl) ap_nil) ?_
        refine SWl.rdg rfl rfl (hb24) rfl rfl (Rd.str (e := 5) rfl (by kernel_rfl) (by kernel_rfl) (by kernel_rfl) (by simp)) ?_
        refine SWl.rdg rfl rfl (hb24) rfl rfl (Rd.eqs (p := a.box) (q := b.box) rfl rfl) ?_
        refine SWl.rd rfl (Rd.pickY rfl (hb24) rfl) ?_
        refine SWl.rd rfl (Rd.move rfl) ?_
        refine SWl.split 33 rfl (fun hb33 => ?_) (fun hb33 => ?_)
        · have h33 := of_decide_eq_true hb33
          refine SWl.rdg rfl rfl (hb33) rfl rfl (Rd.fieldAddr (n := 4) rfl (by kernel_rfl)) ?_
          refine SWl.rdg rfl rfl (hb33) rfl rfl (Rd.loadB 0 rfl rfl rfl (by kernel_rfl) ap_nil) ?_
          refine SWl.rdg rfl rfl (hb33) rfl rfl (Rd.str (e := 5) rfl (by kernel_rfl) (by kernel_rfl) (by kernel_rfl) (by simp)) ?_
          refine SWl.rdg rfl rfl (hb33) rfl rfl (Rd.fieldAddr (n := 4) rfl (by kernel_rfl)) ?_
          refine SWl.rdg rfl rfl (hb33) rfl rfl (Rd.loadB 1 rfl rfl rfl (by kernel_rfl) ap_nil) ?_
          refine SWl.rdg rfl rfl (hb33) rfl rfl (Rd.str (e := 5) rfl (by kernel_rfl) (by kernel_rfl) (by kernel_rfl) (by simp)) ?_
          refine SWl.rdg rfl rfl (hb33) rfl rfl (Rd.eqs (p := a.tag) (q := b.tag) rfl rfl) ?_
          refine SWl.rd rfl (Rd.pickY rfl (hb33) rfl) ?_
          refine SWl.rd rfl (Rd.assign rfl) ?_
          refine SWl.nil ?_
          refine SN.then ?_
          refine SW.ret (fn := Tryd.f24) (fun _ _ h => h) (Rs.le (Rs.one rfl (ResV.tmp rfl)) ?_)
          exact le_bool_n (by rw [decide_eq_decide, Env.eq_iff]; exact ⟨fun h => ⟨h10, h17, h24, h33, h⟩, fun h => h.2.2.2.2⟩)
        · have h33 := of_decide_eq_false hb33
          refine SWl.off rfl rfl (hb33) rfl rfl ?_
          refine SWl.off rfl rfl (hb33) rfl rfl ?_
          refine SWl.off rfl rfl (hb33) rfl rfl ?_
          refine SWl.off rfl rfl (hb33) rfl rfl ?_
          refine SWl.off rfl rfl (hb33) rfl rfl ?_
          refine SWl.off rfl rfl (hb33) rfl rfl ?_
          refine SWl.off rfl rfl (hb33) rfl rfl ?_
          refine SWl.rd rfl (Rd.pickN rfl (hb33) rfl) ?_
          refine SWl.rd rfl (Rd.assign rfl) ?_
          refine SWl.nil ?_
          refine SN.then ?_
          refine SW.ret (fn := Tryd.f24) (fun _ _ h => h) (Rs.le (Rs.one rfl (ResV.tmp rfl)) ?_)
          exact le_bool_n (by symm; apply decide_eq_false; rw [Env.eq_iff]; intro h; exact h33 h.2.2.2.1)
      · have h24 := of_decide_eq_false hb24
        refine SWl.off rfl rfl (hb24) rfl rfl ?_
        refine SWl.off rfl rfl (hb24) rfl rfl ?_
        refine SWl.off rfl rfl (hb24) rfl rfl ?_
        refine SWl.off rfl rfl (hb24) rfl rfl ?_
        refine SWl.off rfl rfl (hb24) rfl rfl ?_
        refine SWl.off rfl rfl (hb24) rfl rfl ?_
        refine SWl.off rfl rfl (hb24) rfl rfl ?_
        refine SWl.rd rfl (Rd.pickN rfl (hb24) rfl) ?_
        refine SWl.rd rfl (Rd.move rfl) ?_
        refine SWl.off rfl rfl (rfl) rfl rfl ?_
        refine SWl.off rfl rfl (rfl) rfl rfl ?_
        refine SWl.off rfl rfl (rfl) rfl rfl ?_
        refine SWl.off rfl rfl (rfl) rfl rfl ?_
        refine SWl.off rfl rfl (rfl) rfl rfl ?_
        refine SWl.off rfl rfl (rfl) rfl rfl ?_
        refine SWl.off rfl rfl (rfl) rfl rfl ?_
        refine SWl.rd rfl (Rd.pickN rfl (rfl) rfl) ?_
        refine SWl.rd rfl (Rd.assign rfl) ?_
        refine SWl.nil ?_
        refine SN.then ?_
        refine SW.ret (fn := Tryd.f24) (fun _ _ h => h) (Rs.le (Rs.one rfl (ResV.tmp rfl)) ?_)
        exact le_bool_n (by symm; apply decide_eq_false; rw [Env.eq_iff]; intro h; exact h24 h.2.2.1)
    · have h17 := of_decide_eq_false hb17
      refine SWl.off rfl rfl (hb17) rfl rfl ?_
      refine SWl.off rfl rfl (hb17) rfl rfl ?_
      refine SWl.off rfl rfl (hb17) rfl rfl ?_
      refine SWl.off rfl rfl (hb17) rfl rfl ?_
      refine SWl.off rfl rfl (hb17) rfl rfl ?_
      refine SWl.rd rfl (Rd.pickN rfl (hb17) rfl) ?_
      refine SWl.rd rfl (Rd.move rfl) ?_
      refine SWl.off rfl rfl (rfl) rfl rfl ?_
      refine SWl.off rfl rfl (rfl) rfl rfl ?_
      refine SWl.off rfl rfl (rfl) rfl rfl ?_
      refine SWl.off rfl rfl (rfl) rfl rfl ?_
      refine SWl.off rfl rfl (rfl) rfl rfl ?_
      refine SWl.off rfl rfl (rfl) rfl rfl ?_
      refine SWl.off rfl rfl (rfl) rfl rfl ?_
      refine SWl.rd rfl (Rd.pickN rfl (rfl) rfl) ?_
      refine SWl.rd rfl (Rd.move rfl) ?_
      refine SWl.off rfl rfl (rfl) rfl rfl ?_
      refine SWl.off rfl rfl (rfl) rfl rfl ?_
      refine SWl.off rfl rfl (rfl) rfl rfl ?_
      refine SWl.off rfl rfl (rfl) rfl rfl ?_
      refine SWl.off rfl rfl (rfl) rfl rfl ?_
      refine SWl.off rfl rfl (rfl) rfl rfl ?_
      refine SWl.off rfl rfl (rfl) rfl rfl ?_
      refine SWl.rd rfl (Rd.pickN rfl (rfl) rfl) ?_
      refine SWl.rd rfl (Rd.assign rfl) ?_
      refine SWl.nil ?_
      refine SN.then ?_
      refine SW.ret (fn := Tryd.f24) (fun _ _ h => h) (Rs.le (Rs.one rfl (ResV.tmp rfl)) ?_)
      exact le_bool_n (by symm; apply decide_eq_false; rw [Env.eq_iff]; intro h; exact h17 h.2.1)
  · have h10 := of_decide_eq_false hb10
    refine SWl.off rfl rfl (hb10) rfl rfl ?_
    refine SWl.off rfl rfl (hb10) rfl rfl ?_
    refine SWl.off rfl rfl (hb10) rfl rfl ?_
    refine SWl.off rfl rfl (hb10) rfl rfl ?_
    refine SWl.off rfl rfl (hb10) rfl rfl ?_
    refine SWl.rd rfl (Rd.pickN rfl (hb10) rfl) ?_
    refine SWl.rd rfl (Rd.move rfl) ?_
    refine SWl.off rfl rfl (rfl) rfl rfl ?_
    refine SWl.off rfl rfl (rfl) rfl rfl ?_
    refine SWl.off rfl rfl (rfl) rfl rfl ?_
    refine SWl.off rfl rfl (rfl) rfl rfl ?_
    refine SWl.off rfl rfl (rfl) rfl rfl ?_
    refine SWl.rd rfl (Rd.pickN rfl (rfl) rfl) ?_
    refine SWl.rd rfl (Rd.move rfl) ?_
    refine SWl.off rfl rfl (rfl) rfl rfl ?_
    refine SWl.off rfl rfl (rfl) rfl rfl ?_
    refine SWl.off rfl rfl (rfl) rfl rfl ?_
    refine SWl.off rfl rfl (rfl) rfl rfl ?_
    refine SWl.off rfl rfl (rfl) rfl rfl ?_
    refine SWl.off rfl rfl (rfl) rfl rfl ?_
    refine SWl.off rfl rfl (rfl) rfl rfl ?_
    refine SWl.rd rfl (Rd.pickN rfl (rfl) rfl) ?_
    refine SWl.rd rfl (Rd.move rfl) ?_
    refine SWl.off rfl rfl (rfl) rfl rfl ?_
    refine SWl.off rfl rfl (rfl) rfl rfl ?_
    refine SWl.off rfl rfl (rfl) rfl rfl ?_
    refine SWl.off rfl rfl (rfl) rfl rfl ?_
    refine SWl.off rfl rfl (rfl) rfl rfl ?_
    refine SWl.off rfl rfl (rfl) rfl rfl ?_
    refine SWl.off rfl rfl (rfl) rfl rfl ?_
    refine SWl.rd rfl (Rd.pickN rfl (rfl) rfl) ?_
    refine SWl.rd rfl (Rd.assign rfl) ?_
    refine SWl.nil ?_
    refine SN.then ?_
    refine SW.ret (fn := Tryd.f24) (fun _ _ h => h) (Rs.le (Rs.one rfl (ResV.tmp rfl)) ?_)
    exact le_bool_n (by symm; apply decide_eq_false; rw [Env.eq_iff]; intro h; exact h10 h.1)
end Sx
end Go.Proofs.YtchbgfgboogniaaDoor
