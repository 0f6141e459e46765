/-
  THE WALK of the laws' known of chapter 02.
  FROM A ROW's WORDS TO WHAT IS KNOWN OF SLOTS: arguments that are Ratios.
-/
import Derived.Test.YtddfphneidcibaaGU
import Derived.Test.YtddfphneidcibaaGateS
namespace Go.Proofs.Ytddfphneidcibaa
open Go.RowKit
open Nm (W32)
namespace Sx
section
variable {n d N D : Int}
theorem con_ofE (h1 : -9223372036854775808 ≤ n) (h2 : n ≤ 9223372036854775807) (h3 : -9223372036854775808 ≤ d) (h4 : d ≤ 9223372036854775807) (h0 : d ≠ 0) (hN : rn n d = N) (hD : rd n d = D) : Con Try.prog 52 [errD n, errD d] (tupD [ratD N D, errD 0]) := by
  subst hN hD
  exact con_ofQ h1 h2 h3 h4 h0
theorem con_ofRE (h1 : -9223372036854775808 ≤ n) (h2 : n ≤ 9223372036854775807) (h3 : -9223372036854775808 ≤ d) (h4 : d ≤ 9223372036854775807) (h0 : d ≠ 0) (hN : rn n d = N) (hD : rd n d = D) : Con Try.prog 56 [errD n, errD d] (ratD N D) := by
  subst hN hD
  exact con_ofQR h1 h2 h3 h4 h0
theorem con_rE {f : FuncId} {ds : List Sx.D} {a b e A B E : Int} (h : Con Try.prog f ds (tupD [ratD a b, errD e])) (hA : a = A) (hB : b = B) (hE : e = E) : Con Try.prog f ds (tupD [ratD A B, errD E]) := by subst hA hB hE; exact h
theorem con_iE {f : FuncId} {ds : List Sx.D} {a e A E : Int} (h : Con Try.prog f ds (tupD [intD a, errD e])) (hA : a = A) (hE : e = E) : Con Try.prog f ds (tupD [intD A, errD E]) := by subst hA hE; exact h
theorem con_eE {f : FuncId} {ds : List Sx.D} {a A : Int} (h : Con Try.prog f ds (errD a)) (hA : a = A) : Con Try.prog f ds (errD A) := by subst hA; exact h
theorem con_sE {f : FuncId} {ds : List Sx.D} {a A : List UInt8} (h : Con Try.prog f ds (strD a)) (hA : a = A) : Con Try.prog f ds (strD A) := by subst hA; exact h
end
theorem small512 {n : Int} (h : n.natAbs < 1000) : n.natAbs < big512 := Nat.lt_trans h (by unfold big512; decide +kernel)
theorem good_of {n d : Int} (hn : n.natAbs < 1000) (hd : d.natAbs < 1000) (hp : 0 < d) (hg : Nat.gcd n.natAbs d.natAbs = 1) : Good n d := ⟨small512 hn, small512 hd, hp, hg⟩
theorem ds10_1 {X : Nat} (h0 : X ≠ 0) (h : X < 10) : ds10 X = [UInt8.ofNat (48 + X)] := by
  rw [ds10_step h0, Nat.div_eq_of_lt h, ds10_zero, Nat.mod_eq_of_lt h]
  rfl
theorem rtxt_known : rtxt (-3) 4 = [45, 51, 47, 52] := by
  unfold rtxt
  rw [if_neg (by decide), txt_of, txt_of, if_pos (by decide), if_neg (by decide), if_neg (by decide), if_neg (by decide), show (-3 : Int).natAbs = 3 from rfl, show (4 : Int).natAbs = 4 from rfl, ds10_1 (by decide) (by decide), ds10_1 (by decide) (by decide)]
  decide
set_option maxHeartbeats 4000000 in
set_option maxRecDepth 100000 in
theorem con_known2  : Con Try.prog 49 [] (boolD true) := by
  refine con_of Try.func49 (by kernel_rfl) rfl (by kernel_rfl) fun base w0 => ?_
  refine SW.seq ?_
  refine SW.region ?_
  refine SWl.rd rfl (Rd.assign rfl) ?_
  refine SWl.nil ?_
  refine SN.then ?_
  refine SW.seq ?_
  refine SW.region ?_
  refine SWl.ef (S := []) (Ef.call (con_ofE (n := 6) (d := -4) (N := -3) (D := 2) (by decide) (by decide) (by decide) (by decide) (by decide) (by decide +kernel) (by decide +kernel)) rfl ⟨Le.refl _, Le.refl _, trivial⟩ rfl) ?_
  rintro _ rfl
  refine SWl.rd rfl (Rd.move rfl) ?_
  refine SWl.rd rfl (Rd.extract rfl rfl) ?_
  refine SWl.rd rfl (Rd.extract rfl rfl) ?_
  refine SWl.ef (S := []) (Ef.alloc (zs := [.bool false, .slice none 0 0, .bool false, .slice none 0 0]) (by kernel_rfl) rfl) ?_
  rintro _ ⟨g1, rfl⟩
  refine SWl.ef (S := [_]) (Ef.storeA 0 rfl rfl rfl (by kernel_rfl) rfl (List.mem_singleton.2 rfl)) ?_
  rintro _ rfl
  refine SWl.rd rfl (Rd.assign rfl) ?_
  refine SWl.nil ?_
  refine SN.then ?_
  refine SW.seq ?_
  refine SW.region ?_
  refine SWl.ef (S := []) (Ef.call (con_ofE (n := 0) (d := -5) (N := 0) (D := 1) (by decide) (by decide) (by decide) (by decide) (by decide) (by decide +kernel) (by decide +kernel)) rfl ⟨Le.refl _, Le.refl _, trivial⟩ rfl) ?_
  rintro _ rfl
  refine SWl.rd rfl (Rd.move rfl) ?_
  refine SWl.rd rfl (Rd.extract rfl rfl) ?_
  refine SWl.rd rfl (Rd.extract rfl rfl) ?_
  refine SWl.ef (S := []) (Ef.alloc (zs := [.bool false, .slice none 0 0, .bool false, .slice none 0 0]) (by kernel_rfl) rfl) ?_
  rintro _ ⟨g3, rfl⟩
  refine SWl.ef (S := [_]) (Ef.storeA 1 rfl rfl rfl (by kernel_rfl) rfl (List.mem_singleton.2 rfl)) ?_
  rintro _ rfl
  refine SWl.rd rfl (Rd.assign rfl) ?_
  refine SWl.nil ?_
  refine SN.then ?_
  refine SW.seq ?_
  refine SW.region ?_
  refine SWl.ef (S := []) (Ef.call (con_ofQ0 (n := 1) (by decide) (by decide)) rfl ⟨Le.refl _, Le.refl _, trivial⟩ rfl) ?_
  rintro _ rfl
  refine SWl.rd rfl (Rd.move rfl) ?_
  refine SWl.rd rfl (Rd.extract rfl rfl) ?_
  refine SWl.rd rfl (Rd.extract rfl rfl) ?_
  refine SWl.ef (S := []) (Ef.alloc (zs := [.bool false, .slice none 0 0, .bool false, .slice none 0 0]) (by kernel_rfl) rfl) ?_
  rintro _ ⟨g5, rfl⟩
  refine SWl.ef (S := [_]) (Ef.storeA 2 rfl rfl rfl (by kernel_rfl) rfl (List.mem_singleton.2 rfl)) ?_
  rintro _ rfl
  refine SWl.rd rfl (Rd.assign rfl) ?_
  refine SWl.nil ?_
  refine SN.then ?_
  refine SW.seq ?_
  refine SW.sub (σ' := St.of [(1, isD (.pointer (some ⟨g1, 0, none⟩))), (3, isD (.pointer (some ⟨g3, 0, none⟩))), (5, isD (.pointer (some ⟨g5, 0, none⟩))), (2, errD 0), (4, errD 0), (6, errD 2)] [(g1, ratC (-3) (2)), (g3, ratC (0) (1)), (g5, ratC (0) (0))]) (⟨⟨_, rfl, ⟨⟨_, rfl, Le.refl _⟩, ⟨⟨_, rfl, Le.refl _⟩, ⟨⟨_, rfl, Le.refl _⟩, ⟨⟨_, rfl, Le.refl _⟩, ⟨⟨_, rfl, Le.refl _⟩, ⟨⟨_, rfl, Le.refl _⟩, trivial⟩⟩⟩⟩⟩⟩⟩, [0, 1, 2], by decide, ⟨⟨_, rfl, LeAll.refl _⟩, ⟨⟨_, rfl, LeAll.refl _⟩, ⟨⟨_, rfl, LeAll.refl _⟩, trivial⟩⟩⟩⟩) ?_
  refine SW.region ?_
  refine SWl.ef (S := []) (Ef.call (con_ofRE (n := 1) (d := 2) (N := 1) (D := 2) (by decide) (by decide) (by decide) (by decide) (by decide) (by decide +kernel) (by decide +kernel)) rfl ⟨Le.refl _, Le.refl _, trivial⟩ rfl) ?_
  rintro _ rfl
  refine SWl.ef (S := []) (Ef.call (con_ofRE (n := 1) (d := 3) (N := 1) (D := 3) (by decide) (by decide) (by decide) (by decide) (by decide) (by decide +kernel) (by decide +kernel)) rfl ⟨Le.refl _, Le.refl _, trivial⟩ rfl) ?_
  rintro _ rfl
  refine SWl.ef (S := []) (Ef.call (con_rE (A := 5) (B := 6) (E := 0) (con_addQ (good_of (n := 1) (d := 2) (by decide) (by decide) (by decide) (by decide)) (good_of (n := 1) (d := 3) (by decide) (by decide) (by decide) (by decide))) (by decide +kernel) (by decide +kernel) (by decide +kernel)) rfl ⟨Le.refl _, Le.refl _, trivial⟩ rfl) ?_
  rintro _ rfl
  refine SWl.rd rfl (Rd.move rfl) ?_
  refine SWl.rd rfl (Rd.extract rfl rfl) ?_
  refine SWl.rd rfl (Rd.extract rfl rfl) ?_
  refine SWl.ef (S := []) (Ef.alloc (zs := [.bool false, .slice none 0 0, .bool false, .slice none 0 0]) (by kernel_rfl) rfl) ?_
  rintro _ ⟨g7, rfl⟩
  refine SWl.ef (S := [_]) (Ef.storeA 3 rfl rfl rfl (by kernel_rfl) rfl (List.mem_singleton.2 rfl)) ?_
  rintro _ rfl
  refine SWl.rd rfl (Rd.assign rfl) ?_
  refine SWl.nil ?_
  refine SN.then ?_
  refine SW.seq ?_
  refine SW.region ?_
  refine SWl.ef (S := []) (Ef.call (con_ofRE (n := 1) (d := 2) (N := 1) (D := 2) (by decide) (by decide) (by decide) (by decide) (by decide) (by decide +kernel) (by decide +kernel)) rfl ⟨Le.refl _, Le.refl _, trivial⟩ rfl) ?_
  rintro _ rfl
  refine SWl.ef (S := []) (Ef.call (con_ofRE (n := -1) (d := 4) (N := -1) (D := 4) (by decide) (by decide) (by decide) (by decide) (by decide) (by decide +kernel) (by decide +kernel)) rfl ⟨Le.refl _, Le.refl _, trivial⟩ rfl) ?_
  rintro _ rfl
  refine SWl.ef (S := []) (Ef.call (con_rE (A := -2) (B := 1) (E := 0) (con_quoQ (good_of (n := 1) (d := 2) (by decide) (by decide) (by decide) (by decide)) (good_of (n := -1) (d := 4) (by decide) (by decide) (by decide) (by decide)) (by decide)) (by decide +kernel) (by decide +kernel) (by decide +kernel)) rfl ⟨Le.refl _, Le.refl _, trivial⟩ rfl) ?_
  rintro _ rfl
  refine SWl.rd rfl (Rd.move rfl) ?_
  refine SWl.rd rfl (Rd.extract rfl rfl) ?_
  refine SWl.rd rfl (Rd.extract rfl rfl) ?_
  refine SWl.ef (S := []) (Ef.alloc (zs := [.bool false, .slice none 0 0, .bool false, .slice none 0 0]) (by kernel_rfl) rfl) ?_
  rintro _ ⟨g9, rfl⟩
  refine SWl.ef (S := [_]) (Ef.storeA 4 rfl rfl rfl (by kernel_rfl) rfl (List.mem_singleton.2 rfl)) ?_
  rintro _ rfl
  refine SWl.rd rfl (Rd.assign rfl) ?_
  refine SWl.nil ?_
  refine SN.then ?_
  refine SW.seq ?_
  refine SW.region ?_
  refine SWl.ef (S := []) (Ef.call (con_ofRE (n := 1) (d := 1) (N := 1) (D := 1) (by decide) (by decide) (by decide) (by decide) (by decide) (by decide +kernel) (by decide +kernel)) rfl ⟨Le.refl _, Le.refl _, trivial⟩ rfl) ?_
  rintro _ rfl
  refine SWl.ef (S := []) (Ef.call (con_zero) rfl trivial rfl) ?_
  rintro _ rfl
  refine SWl.ef (S := []) (Ef.call (con_quoQ0 (good_of (n := 1) (d := 1) (by decide) (by decide) (by decide) (by decide)) (good_of (n := 0) (d := 1) (by decide) (by decide) (by decide) (by decide))) rfl ⟨Le.refl _, Le.refl _, trivial⟩ rfl) ?_
  rintro _ rfl
  refine SWl.rd rfl (Rd.move rfl) ?_
  refine SWl.rd rfl (Rd.extract rfl rfl) ?_
  refine SWl.rd rfl (Rd.extract rfl rfl) ?_
  refine SWl.ef (S := []) (Ef.alloc (zs := [.bool false, .slice none 0 0, .bool false, .slice none 0 0]) (by kernel_rfl) rfl) ?_
  rintro _ ⟨g11, rfl⟩
  refine SWl.ef (S := [_]) (Ef.storeA 5 rfl rfl rfl (by kernel_rfl) rfl (List.mem_singleton.2 rfl)) ?_
  rintro _ rfl
  refine SWl.rd rfl (Rd.assign rfl) ?_
  refine SWl.nil ?_
  refine SN.then ?_
  refine SW.seq ?_
  refine SW.seq ?_
  refine SW.sub (σ' := St.of [(1, isD (.pointer (some ⟨g1, 0, none⟩))), (3, isD (.pointer (some ⟨g3, 0, none⟩))), (5, isD (.pointer (some ⟨g5, 0, none⟩))), (7, isD (.pointer (some ⟨g7, 0, none⟩))), (9, isD (.pointer (some ⟨g9, 0, none⟩))), (11, isD (.pointer (some ⟨g11, 0, none⟩))), (2, errD 0), (4, errD 0), (6, errD 2), (8, errD 0), (10, errD 0), (12, errD 2)] [(g1, ratC (-3) (2)), (g3, ratC (0) (1)), (g5, ratC (0) (0)), (g7, ratC (5) (6)), (g9, ratC (-2) (1)), (g11, ratC (0) (0))]) (⟨⟨_, rfl, ⟨⟨_, rfl, Le.refl _⟩, ⟨⟨_, rfl, Le.refl _⟩, ⟨⟨_, rfl, Le.refl _⟩, ⟨⟨_, rfl, Le.refl _⟩, ⟨⟨_, rfl, Le.refl _⟩, ⟨⟨_, rfl, Le.refl _⟩, ⟨⟨_, rfl, Le.refl _⟩, ⟨⟨_, rfl, Le.refl _⟩, ⟨⟨_, rfl, Le.refl _⟩, ⟨⟨_, rfl, Le.refl _⟩, ⟨⟨_, rfl, Le.refl _⟩, ⟨⟨_, rfl, Le.refl _⟩, trivial⟩⟩⟩⟩⟩⟩⟩⟩⟩⟩⟩⟩⟩, [0, 1, 2, 3, 4, 5], by decide, ⟨⟨_, rfl, LeAll.refl _⟩, ⟨⟨_, rfl, LeAll.refl _⟩, ⟨⟨_, rfl, LeAll.refl _⟩, ⟨⟨_, rfl, LeAll.refl _⟩, ⟨⟨_, rfl, LeAll.refl _⟩, ⟨⟨_, rfl, LeAll.refl _⟩, trivial⟩⟩⟩⟩⟩⟩⟩) ?_
  refine SW.draw [] (.r 0 (.r 1 (.n 2 (.n 3 (.r 4 (.r 5 (.r 6 (.r 7 (.n 8 (.n 9 (.r 10 (.r 11 (.r 12 (.r 13 (.r 14 (.n 15 (.r 16 (.r 17 (.r 18 (.r 19 (.r 20 (.n 21 (.n 22 (.r 23 (.r 24 (.r 25 (.r 26 (.r 27 (.n 28 (.n 29 (.r 30 (.r 31 (.r 32 (.r 33 (.r 34 (.n 35 (.r 36 (.r 37 .fin)) .no)))))) .no) .no)))))) .no) .no)))))) .no)))))) .no) .no))))) .no) .no))) (by kernel_rfl) (by kernel_rfl) (fun d _ _ _ _ h => by cases d <;> exact h) ?_
  refine SWz.rd (i := 0) rfl rfl (Rd.loadA 0 4 rfl rfl (by kernel_rfl) rfl trivial) ?_
  refine SWz.rd (i := 1) rfl rfl (Rd.move rfl) ?_
  refine SWz.efn (i := 2) rfl (Ef.call (con_ofRE (n := -3) (d := 2) (N := -3) (D := 2) (by decide) (by decide) (by decide) (by decide) (by decide) (by decide +kernel) (by decide +kernel)) rfl ⟨Le.refl _, Le.refl _, trivial⟩ rfl) ?_ SWz.no
  rintro _ rfl
  refine SWz.efn (i := 3) rfl (Ef.call (con_same2L (by first | rfl | assumption) (by first | rfl | assumption) (by first | rfl | assumption)) rfl ⟨Le.refl _, Le.refl _, Le.refl _, Le.refl _, trivial⟩ rfl) ?_ SWz.no
  rintro _ rfl
  refine SWz.rd (i := 4) rfl rfl (Rd.not rfl) ?_
  refine SWz.rd (i := 5) rfl rfl (Rd.move rfl) ?_
  refine SWz.rdg (i := 6) rfl rfl rfl (rfl) rfl rfl (Rd.loadA 1 4 rfl rfl (by kernel_rfl) rfl trivial) ?_
  refine SWz.rdg (i := 7) rfl rfl rfl (rfl) rfl rfl (Rd.move rfl) ?_
  refine SWz.efng (i := 8) rfl rfl rfl (rfl) rfl (Ef.call (con_ofRE (n := 0) (d := 1) (N := 0) (D := 1) (by decide) (by decide) (by decide) (by decide) (by decide) (by decide +kernel) (by decide +kernel)) rfl ⟨Le.refl _, Le.refl _, trivial⟩ rfl) ?_ SWz.no
  rintro _ rfl
  refine SWz.efng (i := 9) rfl rfl rfl (rfl) rfl (Ef.call (con_same2L (by first | rfl | assumption) (by first | rfl | assumption) (by first | rfl | assumption)) rfl ⟨Le.refl _, Le.refl _, Le.refl _, Le.refl _, trivial⟩ rfl) ?_ SWz.no
  rintro _ rfl
  refine SWz.rdg (i := 10) rfl rfl rfl (rfl) rfl rfl (Rd.not rfl) ?_
  refine SWz.rd (i := 11) rfl rfl (Rd.pickN rfl (rfl) rfl) ?_
  refine SWz.rd (i := 12) rfl rfl (Rd.move rfl) ?_
  refine SWz.rdg (i := 13) rfl rfl rfl (rfl) rfl rfl (Rd.loadA 2 4 rfl rfl (by kernel_rfl) rfl trivial) ?_
  refine SWz.rdg (i := 14) rfl rfl rfl (rfl) rfl rfl (Rd.move rfl) ?_
  refine SWz.efng (i := 15) rfl rfl rfl (rfl) rfl (Ef.call (con_refused (by first | rfl | assumption)) rfl ⟨Le.refl _, Le.refl _, Le.refl _, trivial⟩ rfl) ?_ SWz.no
  rintro _ rfl
  refine SWz.rdg (i := 16) rfl rfl rfl (rfl) rfl rfl (Rd.not rfl) ?_
  refine SWz.rd (i := 17) rfl rfl (Rd.pickN rfl (rfl) rfl) ?_
  refine SWz.rd (i := 18) rfl rfl (Rd.move rfl) ?_
  refine SWz.rdg (i := 19) rfl rfl rfl (rfl) rfl rfl (Rd.loadA 3 4 rfl rfl (by kernel_rfl) rfl trivial) ?_
  refine SWz.rdg (i := 20) rfl rfl rfl (rfl) rfl rfl (Rd.move rfl) ?_
  refine SWz.efng (i := 21) rfl rfl rfl (rfl) rfl (Ef.call (con_ofRE (n := 5) (d := 6) (N := 5) (D := 6) (by decide) (by decide) (by decide) (by decide) (by decide) (by decide +kernel) (by decide +kernel)) rfl ⟨Le.refl _, Le.refl _, trivial⟩ rfl) ?_ SWz.no
  rintro _ rfl
  refine SWz.efng (i := 22) rfl rfl rfl (rfl) rfl (Ef.call (con_same2L (by first | rfl | assumption) (by first | rfl | assumption) (by first | rfl | assumption)) rfl ⟨Le.refl _, Le.refl _, Le.refl _, Le.refl _, trivial⟩ rfl) ?_ SWz.no
  rintro _ rfl
  refine SWz.rdg (i := 23) rfl rfl rfl (rfl) rfl rfl (Rd.not rfl) ?_
  refine SWz.rd (i := 24) rfl rfl (Rd.pickN rfl (rfl) rfl) ?_
  refine SWz.rd (i := 25) rfl rfl (Rd.move rfl) ?_
  refine SWz.rdg (i := 26) rfl rfl rfl (rfl) rfl rfl (Rd.loadA 4 4 rfl rfl (by kernel_rfl) rfl trivial) ?_
  refine SWz.rdg (i := 27) rfl rfl rfl (rfl) rfl rfl (Rd.move rfl) ?_
  refine SWz.efng (i := 28) rfl rfl rfl (rfl) rfl (Ef.call (con_ofRE (n := -2) (d := 1) (N := -2) (D := 1) (by decide) (by decide) (by decide) (by decide) (by decide) (by decide +kernel) (by decide +kernel)) rfl ⟨Le.refl _, Le.refl _, trivial⟩ rfl) ?_ SWz.no
  rintro _ rfl
  refine SWz.efng (i := 29) rfl rfl rfl (rfl) rfl (Ef.call (con_same2L (by first | rfl | assumption) (by first | rfl | assumption) (by first | rfl | assumption)) rfl ⟨Le.refl _, Le.refl _, Le.refl _, Le.refl _, trivial⟩ rfl) ?_ SWz.no
  rintro _ rfl
  refine SWz.rdg (i := 30) rfl rfl rfl (rfl) rfl rfl (Rd.not rfl) ?_
  refine SWz.rd (i := 31) rfl rfl (Rd.pickN rfl (rfl) rfl) ?_
  refine SWz.rd (i := 32) rfl rfl (Rd.move rfl) ?_
  refine SWz.rdg (i := 33) rfl rfl rfl (rfl) rfl rfl (Rd.loadA 5 4 rfl rfl (by kernel_rfl) rfl trivial) ?_
  refine SWz.rdg (i := 34) rfl rfl rfl (rfl) rfl rfl (Rd.move rfl) ?_
  refine SWz.efng (i := 35) rfl rfl rfl (rfl) rfl (Ef.call (con_refused (by first | rfl | assumption)) rfl ⟨Le.refl _, Le.refl _, Le.refl _, trivial⟩ rfl) ?_ SWz.no
  rintro _ rfl
  refine SWz.rdg (i := 36) rfl rfl rfl (rfl) rfl rfl (Rd.not rfl) ?_
  refine SWz.rd (i := 37) rfl rfl (Rd.pickN rfl (rfl) rfl) ?_
  refine SWz.nil ?_
  refine SN.then ?_
  refine SW.condF rfl (rfl) ?_
  refine SW.skip ?_
  refine SN.then ?_
  refine SW.seq ?_
  refine SW.region ?_
  refine SWl.ef (S := []) (Ef.call (con_ofRE (n := -3) (d := 2) (N := -3) (D := 2) (by decide) (by decide) (by decide) (by decide) (by decide) (by decide +kernel) (by decide +kernel)) rfl ⟨Le.refl _, Le.refl _, trivial⟩ rfl) ?_
  rintro _ rfl
  refine SWl.ef (S := []) (Ef.call (con_iE (A := -2) (E := 0) (con_floor (good_of (n := -3) (d := 2) (by decide) (by decide) (by decide) (by decide))) (by decide +kernel) rfl) rfl ⟨Le.refl _, trivial⟩ rfl) ?_
  rintro _ rfl
  refine SWl.rd rfl (Rd.move rfl) ?_
  refine SWl.rd rfl (Rd.extract rfl rfl) ?_
  refine SWl.rd rfl (Rd.extract rfl rfl) ?_
  refine SWl.ef (S := []) (Ef.alloc (zs := [.bool false, .slice none 0 0]) (by kernel_rfl) rfl) ?_
  rintro _ ⟨g13, rfl⟩
  refine SWl.ef (S := [_]) (Ef.storeA 6 rfl rfl rfl (by kernel_rfl) rfl (List.mem_singleton.2 rfl)) ?_
  rintro _ rfl
  refine SWl.rd rfl (Rd.assign rfl) ?_
  refine SWl.nil ?_
  refine SN.then ?_
  refine SW.seq ?_
  refine SW.region ?_
  refine SWl.ef (S := []) (Ef.call (con_ofRE (n := -3) (d := 2) (N := -3) (D := 2) (by decide) (by decide) (by decide) (by decide) (by decide) (by decide +kernel) (by decide +kernel)) rfl ⟨Le.refl _, Le.refl _, trivial⟩ rfl) ?_
  rintro _ rfl
  refine SWl.ef (S := []) (Ef.call (con_iE (A := -1) (E := 0) (con_ceil (good_of (n := -3) (d := 2) (by decide) (by decide) (by decide) (by decide))) (by decide +kernel) rfl) rfl ⟨Le.refl _, trivial⟩ rfl) ?_
  rintro _ rfl
  refine SWl.rd rfl (Rd.move rfl) ?_
  refine SWl.rd rfl (Rd.extract rfl rfl) ?_
  refine SWl.rd rfl (Rd.extract rfl rfl) ?_
  refine SWl.ef (S := []) (Ef.alloc (zs := [.bool false, .slice none 0 0]) (by kernel_rfl) rfl) ?_
  rintro _ ⟨g15, rfl⟩
  refine SWl.ef (S := [_]) (Ef.storeA 7 rfl rfl rfl (by kernel_rfl) rfl (List.mem_singleton.2 rfl)) ?_
  rintro _ rfl
  refine SWl.rd rfl (Rd.assign rfl) ?_
  refine SWl.nil ?_
  refine SN.then ?_
  refine SW.seq ?_
  refine SW.region ?_
  refine SWl.ef (S := []) (Ef.call (con_rE (A := 0) (B := 0) (E := 6) (con_parseY (t := [50]) (u := [52]) (by decide) (by decide) (by decide)) (by decide +kernel) (by decide +kernel) (by decide +kernel)) rfl ⟨Le.refl _, trivial⟩ rfl) ?_
  rintro _ rfl
  refine SWl.rd rfl (Rd.move rfl) ?_
  refine SWl.rd rfl (Rd.extract rfl rfl) ?_
  refine SWl.rd rfl (Rd.extract rfl rfl) ?_
  refine SWl.ef (S := []) (Ef.alloc (zs := [.bool false, .slice none 0 0, .bool false, .slice none 0 0]) (by kernel_rfl) rfl) ?_
  rintro _ ⟨g17, rfl⟩
  refine SWl.ef (S := [_]) (Ef.storeA 8 rfl rfl rfl (by kernel_rfl) rfl (List.mem_singleton.2 rfl)) ?_
  rintro _ rfl
  refine SWl.rd rfl (Rd.assign rfl) ?_
  refine SWl.nil ?_
  refine SN.then ?_
  refine SW.seq ?_
  refine SW.region ?_
  refine SWl.ef (S := []) (Ef.call (con_rE (A := 0) (B := 0) (E := 6) (con_parseY (t := [51]) (u := [49]) (by decide) (by decide) (by decide)) (by decide +kernel) (by decide +kernel) (by decide +kernel)) rfl ⟨Le.refl _, trivial⟩ rfl) ?_
  rintro _ rfl
  refine SWl.rd rfl (Rd.move rfl) ?_
  refine SWl.rd rfl (Rd.extract rfl rfl) ?_
  refine SWl.rd rfl (Rd.extract rfl rfl) ?_
  refine SWl.ef (S := []) (Ef.alloc (zs := [.bool false, .slice none 0 0, .bool false, .slice none 0 0]) (by kernel_rfl) rfl) ?_
  rintro _ ⟨g19, rfl⟩
  refine SWl.ef (S := [_]) (Ef.storeA 9 rfl rfl rfl (by kernel_rfl) rfl (List.mem_singleton.2 rfl)) ?_
  rintro _ rfl
  refine SWl.rd rfl (Rd.assign rfl) ?_
  refine SWl.nil ?_
  refine SN.then ?_
  refine SW.seq ?_
  refine SW.region ?_
  refine SWl.ef (S := []) (Ef.call (con_rE (A := -3) (B := 4) (E := 0) (con_parseY (t := [45, 51]) (u := [52]) (by decide) (by decide) (by decide)) (by decide +kernel) (by decide +kernel) (by decide +kernel)) rfl ⟨Le.refl _, trivial⟩ rfl) ?_
  rintro _ rfl
  refine SWl.rd rfl (Rd.move rfl) ?_
  refine SWl.rd rfl (Rd.extract rfl rfl) ?_
  refine SWl.rd rfl (Rd.extract rfl rfl) ?_
  refine SWl.ef (S := []) (Ef.alloc (zs := [.bool false, .slice none 0 0, .bool false, .slice none 0 0]) (by kernel_rfl) rfl) ?_
  rintro _ ⟨g21, rfl⟩
  refine SWl.ef (S := [_]) (Ef.storeA 10 rfl rfl rfl (by kernel_rfl) rfl (List.mem_singleton.2 rfl)) ?_
  rintro _ rfl
  refine SWl.rd rfl (Rd.assign rfl) ?_
  refine SWl.nil ?_
  refine SN.then ?_
  refine SW.seq ?_
  refine SW.sub (σ' := St.of [(13, isD (.pointer (some ⟨g13, 0, none⟩))), (15, isD (.pointer (some ⟨g15, 0, none⟩))), (17, isD (.pointer (some ⟨g17, 0, none⟩))), (19, isD (.pointer (some ⟨g19, 0, none⟩))), (21, isD (.pointer (some ⟨g21, 0, none⟩))), (14, errD 0), (16, errD 0), (18, errD 6), (20, errD 6), (22, errD 0)] [(g13, intC (-2)), (g15, intC (-1)), (g17, ratC (0) (0)), (g19, ratC (0) (0)), (g21, ratC (-3) (4))]) (⟨⟨_, rfl, ⟨⟨_, rfl, Le.refl _⟩, ⟨⟨_, rfl, Le.refl _⟩, ⟨⟨_, rfl, Le.refl _⟩, ⟨⟨_, rfl, Le.refl _⟩, ⟨⟨_, rfl, Le.refl _⟩, ⟨⟨_, rfl, Le.refl _⟩, ⟨⟨_, rfl, Le.refl _⟩, ⟨⟨_, rfl, Le.refl _⟩, ⟨⟨_, rfl, Le.refl _⟩, ⟨⟨_, rfl, Le.refl _⟩, trivial⟩⟩⟩⟩⟩⟩⟩⟩⟩⟩⟩, [6, 7, 8, 9, 10], by decide, ⟨⟨_, rfl, LeAll.refl _⟩, ⟨⟨_, rfl, LeAll.refl _⟩, ⟨⟨_, rfl, LeAll.refl _⟩, ⟨⟨_, rfl, LeAll.refl _⟩, ⟨⟨_, rfl, LeAll.refl _⟩, trivial⟩⟩⟩⟩⟩⟩) ?_
  refine SW.draw [] (.r 0 (.r 1 (.r 2 (.r 3 (.r 4 (.r 5 (.r 6 (.r 7 (.n 8 (.n 9 (.r 10 (.r 11 (.r 12 (.n 13 (.n 14 (.r 15 (.r 16 (.r 17 (.r 18 (.n 19 (.r 20 (.r 21 (.r 22 (.r 23 (.n 24 (.r 25 (.r 26 (.r 27 (.r 28 (.n 29 (.n 30 (.r 31 (.r 32 (.n 33 (.n 34 (.r 35 (.r 36 (.r 37 (.n 38 (.n 39 (.n 40 (.r 41 (.r 42 (.r 43 .fin))) .no) .no) .no)))) .no) .no))) .no) .no))))) .no))))) .no))))) .no) .no)))) .no) .no))))))))) (by kernel_rfl) (by kernel_rfl) (fun d _ _ _ _ h => by cases d <;> exact h) ?_
  refine SWz.rd (i := 0) rfl rfl (Rd.move rfl) ?_
  refine SWz.rd (i := 1) rfl rfl (Rd.eqi rfl rfl) ?_
  refine SWz.rd (i := 2) rfl rfl (Rd.move rfl) ?_
  refine SWz.rdg (i := 3) rfl rfl rfl (by decide) rfl rfl (Rd.move rfl) ?_
  refine SWz.rdg (i := 4) rfl rfl rfl (by decide) rfl rfl (Rd.eqi rfl rfl) ?_
  refine SWz.rd (i := 5) rfl rfl (Rd.pickY rfl (by decide) rfl) ?_
  refine SWz.rd (i := 6) rfl rfl (Rd.move rfl) ?_
  refine SWz.rdg (i := 7) rfl rfl rfl (by decide) rfl rfl (Rd.loadA 0 2 rfl rfl (by kernel_rfl) rfl trivial) ?_
  refine SWz.efng (i := 8) rfl rfl rfl (by decide) rfl (Ef.call (con_ofR (by decide) (by decide)) rfl ⟨Le.refl _, trivial⟩ rfl) ?_ SWz.no
  rintro _ rfl
  refine SWz.efng (i := 9) rfl rfl rfl (by decide) rfl (Ef.call (con_sameT rfl) rfl ⟨Le.refl _, Le.refl _, trivial⟩ rfl) ?_ SWz.no
  rintro _ rfl
  refine SWz.rd (i := 10) rfl rfl (Rd.pickY rfl (by decide) rfl) ?_
  refine SWz.rd (i := 11) rfl rfl (Rd.move rfl) ?_
  refine SWz.rdg (i := 12) rfl rfl rfl (rfl) rfl rfl (Rd.loadA 1 2 rfl rfl (by kernel_rfl) rfl trivial) ?_
  refine SWz.efng (i := 13) rfl rfl rfl (rfl) rfl (Ef.call (con_ofR (by decide) (by decide)) rfl ⟨Le.refl _, trivial⟩ rfl) ?_ SWz.no
  rintro _ rfl
  refine SWz.efng (i := 14) rfl rfl rfl (rfl) rfl (Ef.call (con_sameT rfl) rfl ⟨Le.refl _, Le.refl _, trivial⟩ rfl) ?_ SWz.no
  rintro _ rfl
  refine SWz.rd (i := 15) rfl rfl (Rd.pickY rfl (rfl) rfl) ?_
  refine SWz.rd (i := 16) rfl rfl (Rd.move rfl) ?_
  refine SWz.rdg (i := 17) rfl rfl rfl (rfl) rfl rfl (Rd.loadA 2 4 rfl rfl (by kernel_rfl) rfl trivial) ?_
  refine SWz.rdg (i := 18) rfl rfl rfl (rfl) rfl rfl (Rd.move rfl) ?_
  refine SWz.efng (i := 19) rfl rfl rfl (rfl) rfl (Ef.call (con_refused (by first | rfl | assumption)) rfl ⟨Le.refl _, Le.refl _, Le.refl _, trivial⟩ rfl) ?_ SWz.no
  rintro _ rfl
  refine SWz.rd (i := 20) rfl rfl (Rd.pickY rfl (rfl) rfl) ?_
  refine SWz.rd (i := 21) rfl rfl (Rd.move rfl) ?_
  refine SWz.rdg (i := 22) rfl rfl rfl (rfl) rfl rfl (Rd.loadA 3 4 rfl rfl (by kernel_rfl) rfl trivial) ?_
  refine SWz.rdg (i := 23) rfl rfl rfl (rfl) rfl rfl (Rd.move rfl) ?_
  refine SWz.efng (i := 24) rfl rfl rfl (rfl) rfl (Ef.call (con_refused (by first | rfl | assumption)) rfl ⟨Le.refl _, Le.refl _, Le.refl _, trivial⟩ rfl) ?_ SWz.no
  rintro _ rfl
  refine SWz.rd (i := 25) rfl rfl (Rd.pickY rfl (rfl) rfl) ?_
  refine SWz.rd (i := 26) rfl rfl (Rd.move rfl) ?_
  refine SWz.rdg (i := 27) rfl rfl rfl (rfl) rfl rfl (Rd.loadA 4 4 rfl rfl (by kernel_rfl) rfl trivial) ?_
  refine SWz.rdg (i := 28) rfl rfl rfl (rfl) rfl rfl (Rd.move rfl) ?_
  refine SWz.efng (i := 29) rfl rfl rfl (rfl) rfl (Ef.call (con_ofRE (n := -3) (d := 4) (N := -3) (D := 4) (by decide) (by decide) (by decide) (by decide) (by decide) (by decide +kernel) (by decide +kernel)) rfl ⟨Le.refl _, Le.refl _, trivial⟩ rfl) ?_ SWz.no
  rintro _ rfl
  refine SWz.efng (i := 30) rfl rfl rfl (rfl) rfl (Ef.call (con_same2L (by first | rfl | assumption) (by first | rfl | assumption) (by first | rfl | assumption)) rfl ⟨Le.refl _, Le.refl _, Le.refl _, Le.refl _, trivial⟩ rfl) ?_ SWz.no
  rintro _ rfl
  refine SWz.rd (i := 31) rfl rfl (Rd.pickY rfl (rfl) rfl) ?_
  refine SWz.rd (i := 32) rfl rfl (Rd.move rfl) ?_
  refine SWz.efng (i := 33) rfl rfl rfl (rfl) rfl (Ef.call (con_ofRE (n := -3) (d := 4) (N := -3) (D := 4) (by decide) (by decide) (by decide) (by decide) (by decide) (by decide +kernel) (by decide +kernel)) rfl ⟨Le.refl _, Le.refl _, trivial⟩ rfl) ?_ SWz.no
  rintro _ rfl
  refine SWz.efng (i := 34) rfl rfl rfl (rfl) rfl (Ef.call (con_sE (con_textQ (good_of (n := -3) (d := 4) (by decide) (by decide) (by decide) (by decide))) rtxt_known) rfl ⟨Le.refl _, trivial⟩ rfl) ?_ SWz.no
  rintro _ rfl
  refine SWz.rdg (i := 35) rfl rfl rfl (rfl) rfl rfl (Rd.eqs  rfl rfl) ?_
  refine SWz.rd (i := 36) rfl rfl (Rd.pickY rfl (rfl) rfl) ?_
  refine SWz.rd (i := 37) rfl rfl (Rd.move rfl) ?_
  refine SWz.efng (i := 38) rfl rfl rfl (by decide) rfl (Ef.call (con_ofRE (n := -1) (d := 2) (N := -1) (D := 2) (by decide) (by decide) (by decide) (by decide) (by decide) (by decide +kernel) (by decide +kernel)) rfl ⟨Le.refl _, Le.refl _, trivial⟩ rfl) ?_ SWz.no
  rintro _ rfl
  refine SWz.efng (i := 39) rfl rfl rfl (by decide) rfl (Ef.call (con_ofRE (n := -1) (d := 3) (N := -1) (D := 3) (by decide) (by decide) (by decide) (by decide) (by decide) (by decide +kernel) (by decide +kernel)) rfl ⟨Le.refl _, Le.refl _, trivial⟩ rfl) ?_ SWz.no
  rintro _ rfl
  refine SWz.efng (i := 40) rfl rfl rfl (by decide) rfl (Ef.call (con_eE (A := -1) (con_cmpQ (good_of (n := -1) (d := 2) (by decide) (by decide) (by decide) (by decide)) (good_of (n := -1) (d := 3) (by decide) (by decide) (by decide) (by decide))) (by decide +kernel)) rfl ⟨Le.refl _, Le.refl _, trivial⟩ rfl) ?_ SWz.no
  rintro _ rfl
  refine SWz.rdg (i := 41) rfl rfl rfl (by decide) rfl rfl (Rd.eqi rfl rfl) ?_
  refine SWz.rd (i := 42) rfl rfl (Rd.pickY rfl (by decide) rfl) ?_
  refine SWz.rd (i := 43) rfl rfl (Rd.assign rfl) ?_
  refine SWz.nil ?_
  refine SN.then ?_
  refine SW.ret (fn := Try.f49) (fun _ _ h => h) (Rs.one rfl (ResV.tmp rfl))
end Sx
end Go.Proofs.Ytddfphneidcibaa
namespace Go.Proofs.Ytddfphneidcibaa
open Go.RowKit
open Nm (W32)
namespace Sx
section
open Go.ChangeShapes Go.WideShapes Go.ChangeAt
variable {H : Type} {enc : TypeId × Value → H}
set_option maxRecDepth 100000 in
/-- An Int among a struct's cells. -/
theorem trod_Int {W : World} {c0 c1 : Value} {n : Nat} {y : DataW H × List MemPlace} (h : DataW.trod enc Try.prog W 0 (fun _ => true) true n 24 [c0, c1] = some y) : ∃ (s : Bool) (b : List Nat), (∀ d ∈ b, d < 256) ∧ c0 = .bool s ∧ (rawD b).R [] W c1 := by
  obtain ⟨y0, y1, m, -, -, h0, h1⟩ := Go.ChangeShapes.trod_struct2 Try.underlying24 h
  have h0' : DataW.trod enc Try.prog W 0 (fun _ => true) true m 4 [c0] = some y0 := h0
  have h1' : DataW.trod enc Try.prog W 0 (fun _ => true) true m 22 [c1] = some y1 := h1
  obtain ⟨s, e0, -⟩ := DataW.trod_bool Try.underlying4 h0'
  obtain rfl : c0 = .bool s := by simpa using e0
  obtain ⟨b, hb, -, hr⟩ := raw_of Try.underlying22 Try.underlying5 (by kernel_rfl) h1'
  exact ⟨s, b, hb, rfl, hr⟩
set_option maxRecDepth 100000 in
/-- A Ratio that came in. -/
theorem open_Ratio {W : World} {v : Value} {d : DataW H} {p : List MemPlace} {base : Nat} (hv : Value.okWide Try.prog W .any base 54 v) (h : DataW.Trod enc Try.prog W 0 (fun _ => true) true 54 v d p) :
    ∃ (s : Bool) (b : List Nat) (t : Bool) (c : List Nat), Byt b c ∧ (rratD s b t c).R [] W v := by
  obtain ⟨cs, rfl, hsz⟩ := okWide_struct Try.underlying54 hv
  obtain ⟨c0, c1, c2, c3, rfl⟩ := Joins.array4 (hsz.trans (show _ = 4 by kernel_rfl))
  obtain ⟨fuel, hf⟩ := h
  obtain ⟨y0, y1, n, -, -, h0, h1⟩ := Go.ChangeShapes.trod_struct2 Try.underlying54 hf
  have h0' : DataW.trod enc Try.prog W 0 (fun _ => true) true n 24 [c0, c1] = some y0 := h0
  have h1' : DataW.trod enc Try.prog W 0 (fun _ => true) true n 24 [c2, c3] = some y1 := h1
  obtain ⟨s, b, hb, rfl, k0⟩ := trod_Int h0'
  obtain ⟨t, c, hc, rfl, k1⟩ := trod_Int h1'
  exact ⟨s, b, t, c, ⟨hb, hc⟩, [_, _, _, _], rfl, rfl, k0, rfl, k1, trivial⟩
end
end Sx
end Go.Proofs.Ytddfphneidcibaa
