/-
  THE LAW RatioReads.
-/
import Derived.Test.YtddfphneidcibaaLawRTexts1
namespace Go.Proofs.Ytddfphneidcibaa
open Go.RowKit
open Nm (W32)
namespace Sx
set_option maxHeartbeats 4000000 in
set_option maxRecDepth 100000 in
theorem rreads_far {b : List UInt8} (h : 400 < b.length) : Con Try.prog 13 [strD b] (boolD true) := by
  refine con_of Try.func13 (by kernel_rfl) rfl (by kernel_rfl) fun base w0 => ?_
  refine SW.seq ?_
  refine SW.region ?_
  refine SWl.rd rfl (Rd.assign rfl) ?_
  refine SWl.nil ?_
  refine SN.then ?_
  refine SW.seq ?_
  refine SW.seq ?_
  refine SW.region ?_
  refine SWl.rd rfl (Rd.move rfl) ?_
  refine SWl.rd rfl (Rd.lenb rfl (by kernel_rfl)) ?_
  refine SWl.rd rfl (Rd.gtr rfl rfl) ?_
  refine SWl.nil ?_
  refine SN.then ?_
  refine SW.condT rfl (decide_eq_true (by omega)) ?_
  refine SW.seq ?_
  refine SW.region ?_
  refine SWl.ef (S := []) (Ef.call (con_known2) rfl trivial rfl) ?_
  rintro _ rfl
  refine SWl.rd rfl (Rd.assign rfl) ?_
  refine SWl.nil ?_
  refine SN.then ?_
  refine SW.ret (fn := Try.f13) (fun _ _ h => h) (Rs.one rfl (ResV.tmp rfl))
set_option maxHeartbeats 4000000 in
set_option maxRecDepth 100000 in
theorem rreads_no {b : List UInt8} (hb : b.length ≤ 400) (h : 47 ∉ b) : Con Try.prog 13 [strD b] (boolD true) := by
  refine con_of Try.func13 (by kernel_rfl) rfl (by kernel_rfl) fun base w0 => ?_
  refine SW.seq ?_
  refine SW.region ?_
  refine SWl.rd rfl (Rd.assign rfl) ?_
  refine SWl.nil ?_
  refine SN.then ?_
  refine SW.seq ?_
  refine SW.seq ?_
  refine SW.region ?_
  refine SWl.rd rfl (Rd.move rfl) ?_
  refine SWl.rd rfl (Rd.lenb rfl (by kernel_rfl)) ?_
  refine SWl.rd rfl (Rd.gtr rfl rfl) ?_
  refine SWl.nil ?_
  refine SN.then ?_
  refine SW.condF rfl (decide_eq_false (by omega)) ?_
  refine SW.skip ?_
  refine SN.then ?_
  refine SW.seq ?_
  refine SW.region ?_
  refine SWl.rd rfl (Rd.move rfl) ?_
  refine SWl.ef (S := []) (Ef.call (con_parseN h hb) rfl ⟨Le.refl _, trivial⟩ rfl) ?_
  rintro _ rfl
  refine SWl.rd rfl (Rd.move rfl) ?_
  refine SWl.rd rfl (Rd.extract rfl rfl) ?_
  refine SWl.rd rfl (Rd.extract rfl rfl) ?_
  refine SWl.ef (S := []) (Ef.alloc (zs := [.bool false, .slice none 0 0, .bool false, .slice none 0 0]) (by kernel_rfl) rfl) ?_
  rintro _ ⟨g3, rfl⟩
  refine SWl.ef (S := [_]) (Ef.storeA 0 rfl rfl rfl (by kernel_rfl) rfl (List.mem_singleton.2 rfl)) ?_
  rintro _ rfl
  refine SWl.rd rfl (Rd.assign rfl) ?_
  refine SWl.nil ?_
  refine SN.then ?_
  refine SW.seq ?_
  refine SW.region ?_
  refine SWl.rd rfl (Rd.move rfl) ?_
  refine SWl.ef (S := []) (Ef.call (con_readN h hb) rfl ⟨Le.refl _, trivial⟩ rfl) ?_
  rintro _ rfl
  refine SWl.rd rfl (Rd.move rfl) ?_
  refine SWl.rd rfl (Rd.extract rfl rfl) ?_
  refine SWl.rd rfl (Rd.extract rfl rfl) ?_
  refine SWl.ef (S := []) (Ef.alloc (zs := [.bool false, .slice none 0 0, .bool false, .slice none 0 0]) (by kernel_rfl) rfl) ?_
  rintro _ ⟨g5, rfl⟩
  refine SWl.ef (S := [_]) (Ef.storeA 1 rfl rfl rfl (by kernel_rfl) rfl (List.mem_singleton.2 rfl)) ?_
  rintro _ rfl
  refine SWl.rd rfl (Rd.assign rfl) ?_
  refine SWl.nil ?_
  refine SN.then ?_
  refine SW.seq ?_
  refine SW.region ?_
  refine SWl.rd rfl (Rd.loadA 0 4 rfl rfl (by kernel_rfl) rfl trivial) ?_
  refine SWl.rd rfl (Rd.move rfl) ?_
  refine SWl.rd rfl (Rd.loadA 1 4 rfl rfl (by kernel_rfl) rfl trivial) ?_
  refine SWl.rd rfl (Rd.move rfl) ?_
  refine SWl.ef (S := []) (Ef.call (con_same2L (by first | rfl | assumption) (by first | rfl | assumption) (by first | rfl | assumption)) rfl ⟨Le.refl _, Le.refl _, Le.refl _, Le.refl _, trivial⟩ rfl) ?_
  rintro _ rfl
  refine SWl.rd rfl (Rd.move rfl) ?_
  refine SWl.efg (S := []) rfl rfl (rfl) rfl (Ef.call (con_known2) rfl trivial rfl) ?_
  rintro _ rfl
  refine SWl.rd rfl (Rd.pickY rfl (rfl) rfl) ?_
  refine SWl.rd rfl (Rd.assign rfl) ?_
  refine SWl.nil ?_
  refine SN.then ?_
  refine SW.ret (fn := Try.f13) (fun _ _ h => h) (Rs.one rfl (ResV.tmp rfl))
set_option maxHeartbeats 4000000 in
set_option maxRecDepth 100000 in
theorem rreads_yes {t u : List UInt8} (hb : (t ++ 47 :: u).length ≤ 400) (h : 47 ∉ t) : Con Try.prog 13 [strD (t ++ 47 :: u)] (boolD true) := by
  have hl : t.length + (u.length + 1) ≤ 400 := by simpa using hb
  refine con_of Try.func13 (by kernel_rfl) rfl (by kernel_rfl) fun base w0 => ?_
  refine SW.seq ?_
  refine SW.region ?_
  refine SWl.rd rfl (Rd.assign rfl) ?_
  refine SWl.nil ?_
  refine SN.then ?_
  refine SW.seq ?_
  refine SW.seq ?_
  refine SW.region ?_
  refine SWl.rd rfl (Rd.move rfl) ?_
  refine SWl.rd rfl (Rd.lenb rfl (by kernel_rfl)) ?_
  refine SWl.rd rfl (Rd.gtr rfl rfl) ?_
  refine SWl.nil ?_
  refine SN.then ?_
  refine SW.condF rfl (decide_eq_false (by omega)) ?_
  refine SW.skip ?_
  refine SN.then ?_
  refine SW.seq ?_
  refine SW.region ?_
  refine SWl.rd rfl (Rd.move rfl) ?_
  refine SWl.ef (S := []) (Ef.call (con_parseY h (by omega) (by omega)) rfl ⟨Le.refl _, trivial⟩ rfl) ?_
  rintro _ rfl
  refine SWl.rd rfl (Rd.move rfl) ?_
  refine SWl.rd rfl (Rd.extract rfl rfl) ?_
  refine SWl.rd rfl (Rd.extract rfl rfl) ?_
  refine SWl.ef (S := []) (Ef.alloc (zs := [.bool false, .slice none 0 0, .bool false, .slice none 0 0]) (by kernel_rfl) rfl) ?_
  rintro _ ⟨g3, rfl⟩
  refine SWl.ef (S := [_]) (Ef.storeA 0 rfl rfl rfl (by kernel_rfl) rfl (List.mem_singleton.2 rfl)) ?_
  rintro _ rfl
  refine SWl.rd rfl (Rd.assign rfl) ?_
  refine SWl.nil ?_
  refine SN.then ?_
  refine SW.seq ?_
  refine SW.region ?_
  refine SWl.rd rfl (Rd.move rfl) ?_
  refine SWl.ef (S := []) (Ef.call (con_readY h (by omega) (by omega)) rfl ⟨Le.refl _, trivial⟩ rfl) ?_
  rintro _ rfl
  refine SWl.rd rfl (Rd.move rfl) ?_
  refine SWl.rd rfl (Rd.extract rfl rfl) ?_
  refine SWl.rd rfl (Rd.extract rfl rfl) ?_
  refine SWl.ef (S := []) (Ef.alloc (zs := [.bool false, .slice none 0 0, .bool false, .slice none 0 0]) (by kernel_rfl) rfl) ?_
  rintro _ ⟨g5, rfl⟩
  refine SWl.ef (S := [_]) (Ef.storeA 1 rfl rfl rfl (by kernel_rfl) rfl (List.mem_singleton.2 rfl)) ?_
  rintro _ rfl
  refine SWl.rd rfl (Rd.assign rfl) ?_
  refine SWl.nil ?_
  refine SN.then ?_
  refine SW.seq ?_
  refine SW.region ?_
  refine SWl.rd rfl (Rd.loadA 0 4 rfl rfl (by kernel_rfl) rfl trivial) ?_
  refine SWl.rd rfl (Rd.move rfl) ?_
  refine SWl.rd rfl (Rd.loadA 1 4 rfl rfl (by kernel_rfl) rfl trivial) ?_
  refine SWl.rd rfl (Rd.move rfl) ?_
  refine SWl.ef (S := []) (Ef.call (con_same2L (by first | rfl | assumption) (by first | rfl | assumption) (by first | rfl | assumption)) rfl ⟨Le.refl _, Le.refl _, Le.refl _, Le.refl _, trivial⟩ rfl) ?_
  rintro _ rfl
  refine SWl.rd rfl (Rd.move rfl) ?_
  refine SWl.efg (S := []) rfl rfl (rfl) rfl (Ef.call (con_known2) rfl trivial rfl) ?_
  rintro _ rfl
  refine SWl.rd rfl (Rd.pickY rfl (rfl) rfl) ?_
  refine SWl.rd rfl (Rd.assign rfl) ?_
  refine SWl.nil ?_
  refine SN.then ?_
  refine SW.ret (fn := Try.f13) (fun _ _ h => h) (Rs.one rfl (ResV.tmp rfl))
theorem ratioReads_con (b : List UInt8) : Con Try.prog 13 [strD b] (boolD true) := by
  by_cases hb : b.length ≤ 400
  · by_cases h : 47 ∈ b
    · obtain ⟨t, u, rfl, ht⟩ := List.eq_append_cons_of_mem h
      exact rreads_yes hb ht
    · exact rreads_no hb h
  · exact rreads_far (by omega)
end Sx
end Go.Proofs.Ytddfphneidcibaa
