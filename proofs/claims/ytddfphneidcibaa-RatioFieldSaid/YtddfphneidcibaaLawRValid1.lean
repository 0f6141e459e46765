/-
  THE LAW RatioValid.
-/
import Derived.Test.YtddfphneidcibaaGV
namespace Go.Proofs.Ytddfphneidcibaa
open Go.RowKit
open Nm (W32)
namespace Sx
abbrev row4 (n d : Int) : Row4 := ((decide (n < 0), (Nm.dg 256 n.natAbs).reverse), (decide (d < 0), (Nm.dg 256 d.natAbs).reverse))
theorem lng_int {n d : Int} (h : Good n d) : lng (row4 n d) = false := by
  have h1 := bytes_len (x := n) (k := 64) h.hn
  have h2 := bytes_len (x := d) (k := 64) h.hd
  unfold lng
  simp only
  rw [decide_eq_false (by omega), decide_eq_false (by omega)]
  rfl
theorem anyR1 {n d : Int} (h : Good n d) : anyR [row4 n d] = false := by unfold anyR; simp [lng_int h]
theorem anyR2 {n d m e : Int} (h : Good n d) (k : Good m e) : anyR [row4 n d, row4 m e] = false := by unfold anyR; simp [lng_int h, lng_int k]
theorem lenI {x : Int} {k : Nat} (h : x.natAbs < 256 ^ k) : ((cN .u8 (Nm.dg 256 x.natAbs).reverse).length : Int) ≤ k := by
  have := bytes_len (x := x) (k := k) h
  rw [cN_length]
  omega
set_option maxHeartbeats 4000000 in
set_option maxRecDepth 100000 in
theorem rvalid_big {s t : Bool} {b c : List Nat} (h : anyR [((s, b), (t, c))] = true) : Con Try.prog 15 [rratD s b t c] (boolD true) := by
  refine con_of Try.func15 (by kernel_rfl) rfl (by kernel_rfl) fun base w0 => ?_
  refine SW.seq ?_
  refine SW.region ?_
  refine SWl.ef (S := []) (Ef.boxA rfl rfl) ?_
  rintro _ ⟨g1, rfl⟩
  refine SWl.rd rfl (Rd.assign rfl) ?_
  refine SWl.nil ?_
  refine SN.then ?_
  refine SW.seq ?_
  refine SW.seq ?_
  refine SW.region ?_
  refine SWl.rd rfl (Rd.loadA 0 4 rfl rfl (by kernel_rfl) rfl trivial) ?_
  refine SWl.ef (S := []) (Ef.litR rfl rfl blsR1 rfl) ?_
  rintro _ rfl
  refine SWl.ef (S := []) (Ef.call (con_bigQ [((s, b), (t, c))] (by simp)) rfl ⟨Le.refl _, trivial⟩ rfl) ?_
  rintro _ rfl
  refine SWl.nil ?_
  refine SN.then ?_
  refine SW.condT rfl (h) ?_
  refine SW.seq ?_
  refine SW.region ?_
  refine SWl.ef (S := []) (Ef.call (con_known2) rfl trivial rfl) ?_
  rintro _ rfl
  refine SWl.rd rfl (Rd.assign rfl) ?_
  refine SWl.nil ?_
  refine SN.then ?_
  refine SW.ret (fn := Try.f15) (fun _ _ h => h) (Rs.one rfl (ResV.tmp rfl))
set_option maxHeartbeats 4000000 in
set_option maxRecDepth 100000 in
theorem rvalid_bad {s t : Bool} {b c : List Nat} (h : anyR [((s, b), (t, c))] = false) (hB : Byt b c) (hv : rvld s b t c = false) : Con Try.prog 15 [rratD s b t c] (boolD true) := by
  refine con_of Try.func15 (by kernel_rfl) rfl (by kernel_rfl) fun base w0 => ?_
  refine SW.seq ?_
  refine SW.region ?_
  refine SWl.ef (S := []) (Ef.boxA rfl rfl) ?_
  rintro _ ⟨g1, rfl⟩
  refine SWl.rd rfl (Rd.assign rfl) ?_
  refine SWl.nil ?_
  refine SN.then ?_
  refine SW.seq ?_
  refine SW.seq ?_
  refine SW.region ?_
  refine SWl.rd rfl (Rd.loadA 0 4 rfl rfl (by kernel_rfl) rfl trivial) ?_
  refine SWl.ef (S := []) (Ef.litR rfl rfl blsR1 rfl) ?_
  rintro _ rfl
  refine SWl.ef (S := []) (Ef.call (con_bigQ [((s, b), (t, c))] (by simp)) rfl ⟨Le.refl _, trivial⟩ rfl) ?_
  rintro _ rfl
  refine SWl.nil ?_
  refine SN.then ?_
  refine SW.condF rfl (h) ?_
  refine SW.skip ?_
  refine SN.then ?_
  refine SW.seq ?_
  refine SW.region ?_
  refine SWl.rd rfl (Rd.loadA 0 4 rfl rfl (by kernel_rfl) rfl trivial) ?_
  refine SWl.ef (S := []) (Ef.call (con_negQB hB hv) rfl ⟨Le.refl _, trivial⟩ rfl) ?_
  rintro _ rfl
  refine SWl.rd rfl (Rd.move rfl) ?_
  refine SWl.rd rfl (Rd.extract rfl rfl) ?_
  refine SWl.rd rfl (Rd.extract rfl rfl) ?_
  refine SWl.ef (S := []) (Ef.alloc (zs := [.bool false, .slice none 0 0, .bool false, .slice none 0 0]) (by kernel_rfl) rfl) ?_
  rintro _ ⟨g3, rfl⟩
  refine SWl.ef (S := [_]) (Ef.storeA 1 rfl rfl rfl (by kernel_rfl) rfl (List.mem_singleton.2 rfl)) ?_
  rintro _ rfl
  refine SWl.rd rfl (Rd.assign rfl) ?_
  refine SWl.nil ?_
  refine SN.then ?_
  refine SW.seq ?_
  refine SW.region ?_
  refine SWl.rd rfl (Rd.loadA 0 4 rfl rfl (by kernel_rfl) rfl trivial) ?_
  refine SWl.ef (S := []) (Ef.call (con_floorB hB hv) rfl ⟨Le.refl _, trivial⟩ rfl) ?_
  rintro _ rfl
  refine SWl.rd rfl (Rd.move rfl) ?_
  refine SWl.rd rfl (Rd.extract rfl rfl) ?_
  refine SWl.rd rfl (Rd.extract rfl rfl) ?_
  refine SWl.ef (S := []) (Ef.alloc (zs := [.bool false, .slice none 0 0]) (by kernel_rfl) rfl) ?_
  rintro _ ⟨g5, rfl⟩
  refine SWl.ef (S := [_]) (Ef.storeA 2 rfl rfl rfl (by kernel_rfl) rfl (List.mem_singleton.2 rfl)) ?_
  rintro _ rfl
  refine SWl.rd rfl (Rd.assign rfl) ?_
  refine SWl.nil ?_
  refine SN.then ?_
  refine SW.seq ?_
  refine SW.region ?_
  refine SWl.rd rfl (Rd.loadA 0 4 rfl rfl (by kernel_rfl) rfl trivial) ?_
  refine SWl.ef (S := []) (Ef.call (con_ceilB hB hv) rfl ⟨Le.refl _, trivial⟩ rfl) ?_
  rintro _ rfl
  refine SWl.rd rfl (Rd.move rfl) ?_
  refine SWl.rd rfl (Rd.extract rfl rfl) ?_
  refine SWl.rd rfl (Rd.extract rfl rfl) ?_
  refine SWl.ef (S := []) (Ef.alloc (zs := [.bool false, .slice none 0 0]) (by kernel_rfl) rfl) ?_
  rintro _ ⟨g7, rfl⟩
  refine SWl.ef (S := [_]) (Ef.storeA 3 rfl rfl rfl (by kernel_rfl) rfl (List.mem_singleton.2 rfl)) ?_
  rintro _ rfl
  refine SWl.rd rfl (Rd.assign rfl) ?_
  refine SWl.nil ?_
  refine SN.then ?_
  refine SW.seq ?_
  refine SW.sub (σ' := St.of [(1, isD (.pointer (some ⟨g1, 0, none⟩))), (3, isD (.pointer (some ⟨g3, 0, none⟩))), (5, isD (.pointer (some ⟨g5, 0, none⟩))), (7, isD (.pointer (some ⟨g7, 0, none⟩))), (4, errD (2)), (6, errD (2)), (8, errD (2))] [(g1, rratC s b t c), (g3, ratC (0) (0)), (g5, intC (0)), (g7, intC (0))]) (⟨⟨_, rfl, ⟨⟨_, rfl, Le.refl _⟩, ⟨⟨_, rfl, Le.refl _⟩, ⟨⟨_, rfl, Le.refl _⟩, ⟨⟨_, rfl, Le.refl _⟩, ⟨⟨_, rfl, Le.refl _⟩, ⟨⟨_, rfl, Le.refl _⟩, ⟨⟨_, rfl, Le.refl _⟩, trivial⟩⟩⟩⟩⟩⟩⟩⟩, [0, 1, 2, 3], by decide, ⟨⟨_, rfl, LeAll.refl _⟩, ⟨⟨_, rfl, LeAll.refl _⟩, ⟨⟨_, rfl, LeAll.refl _⟩, ⟨⟨_, rfl, LeAll.refl _⟩, trivial⟩⟩⟩⟩⟩) ?_
  refine SW.region ?_
  refine SWl.rd rfl (Rd.build rfl rfl bldI0) ?_
  refine SWl.ef (S := []) (Ef.alloc (zs := [.bool false, .slice none 0 0]) (by kernel_rfl) rfl) ?_
  rintro _ ⟨g9, rfl⟩
  refine SWl.ef (S := [_]) (Ef.storeA 4 rfl rfl rfl (by kernel_rfl) rfl (List.mem_singleton.2 rfl)) ?_
  rintro _ rfl
  refine SWl.nil ?_
  refine SN.then ?_
  refine SW.seq ?_
  refine SW.seq ?_
  refine SW.region ?_
  refine SWl.rd rfl (Rd.loadA 0 4 rfl rfl (by kernel_rfl) rfl trivial) ?_
  refine SWl.ef (S := []) (Ef.call (con_rvalRF hB hv) rfl ⟨Le.refl _, trivial⟩ rfl) ?_
  rintro _ rfl
  refine SWl.rd rfl (Rd.not rfl) ?_
  refine SWl.nil ?_
  refine SN.then ?_
  refine SW.condT rfl (rfl) ?_
  refine SW.seq ?_
  refine SW.region ?_
  refine SWl.rd rfl (Rd.loadA 0 4 rfl rfl (by kernel_rfl) rfl trivial) ?_
  refine SWl.ef (S := []) (Ef.call (con_rvalF hB hv) rfl ⟨Le.refl _, trivial⟩ rfl) ?_
  rintro _ rfl
  refine SWl.rd rfl (Rd.not rfl) ?_
  refine SWl.rd rfl (Rd.move rfl) ?_
  refine SWl.rdg rfl rfl (rfl) rfl rfl (Rd.loadA 0 4 rfl rfl (by kernel_rfl) rfl trivial) ?_
  refine SWl.efg (S := []) rfl rfl (rfl) rfl (Ef.call (con_signQB hB hv) rfl ⟨Le.refl _, trivial⟩ rfl) ?_
  rintro _ rfl
  refine SWl.rdg rfl rfl (rfl) rfl rfl (Rd.eqi rfl rfl) ?_
  refine SWl.rd rfl (Rd.pickY rfl (rfl) rfl) ?_
  refine SWl.rd rfl (Rd.move rfl) ?_
  refine SWl.rdg rfl rfl (by decide) rfl rfl (Rd.loadA 0 4 rfl rfl (by kernel_rfl) rfl trivial) ?_
  refine SWl.efg (S := []) rfl rfl (by decide) rfl (Ef.call (con_textQB hB hv) rfl ⟨Le.refl _, trivial⟩ rfl) ?_
  rintro _ rfl
  refine SWl.rdg rfl rfl (by decide) rfl rfl (Rd.eqs  rfl rfl) ?_
  refine SWl.rd rfl (Rd.pickY rfl (by decide) rfl) ?_
  refine SWl.rd rfl (Rd.move rfl) ?_
  refine SWl.rdg rfl rfl (by decide) rfl rfl (Rd.loadA 1 4 rfl rfl (by kernel_rfl) rfl trivial) ?_
  refine SWl.rdg rfl rfl (by decide) rfl rfl (Rd.move rfl) ?_
  refine SWl.efg (S := []) rfl rfl (by decide) rfl (Ef.call (con_refused (by first | rfl | assumption)) rfl ⟨Le.refl _, Le.refl _, Le.refl _, trivial⟩ rfl) ?_
  rintro _ rfl
  refine SWl.rd rfl (Rd.pickY rfl (by decide) rfl) ?_
  refine SWl.rd rfl (Rd.move rfl) ?_
  refine SWl.rdg rfl rfl (rfl) rfl rfl (Rd.loadA 2 2 rfl rfl (by kernel_rfl) rfl trivial) ?_
  refine SWl.rdg rfl rfl (rfl) rfl rfl (Rd.loadA 4 2 rfl rfl (by kernel_rfl) rfl trivial) ?_
  refine SWl.efg (S := []) rfl rfl (rfl) rfl (Ef.call (con_sameT rfl) rfl ⟨Le.refl _, le_int0, trivial⟩ rfl) ?_
  rintro _ rfl
  refine SWl.rd rfl (Rd.pickY rfl (rfl) rfl) ?_
  refine SWl.rd rfl (Rd.move rfl) ?_
  refine SWl.rdg rfl rfl (rfl) rfl rfl (Rd.move rfl) ?_
  refine SWl.rdg rfl rfl (rfl) rfl rfl (Rd.eqi rfl rfl) ?_
  refine SWl.rd rfl (Rd.pickY rfl (rfl) rfl) ?_
  refine SWl.rd rfl (Rd.move rfl) ?_
  refine SWl.rdg rfl rfl (by decide) rfl rfl (Rd.loadA 3 2 rfl rfl (by kernel_rfl) rfl trivial) ?_
  refine SWl.rdg rfl rfl (by decide) rfl rfl (Rd.loadA 4 2 rfl rfl (by kernel_rfl) rfl trivial) ?_
  refine SWl.efg (S := []) rfl rfl (by decide) rfl (Ef.call (con_sameT rfl) rfl ⟨Le.refl _, le_int0, trivial⟩ rfl) ?_
  rintro _ rfl
  refine SWl.rd rfl (Rd.pickY rfl (by decide) rfl) ?_
  refine SWl.rd rfl (Rd.move rfl) ?_
  refine SWl.rdg rfl rfl (rfl) rfl rfl (Rd.move rfl) ?_
  refine SWl.rdg rfl rfl (rfl) rfl rfl (Rd.eqi rfl rfl) ?_
  refine SWl.rd rfl (Rd.pickY rfl (rfl) rfl) ?_
  refine SWl.rd rfl (Rd.move rfl) ?_
  refine SWl.efg (S := []) rfl rfl (by decide) rfl (Ef.call (con_known2) rfl trivial rfl) ?_
  rintro _ rfl
  refine SWl.rd rfl (Rd.pickY rfl (by decide) rfl) ?_
  refine SWl.rd rfl (Rd.assign rfl) ?_
  refine SWl.nil ?_
  refine SN.then ?_
  refine SW.ret (fn := Try.f15) (fun _ _ h => h) (Rs.one rfl (ResV.tmp rfl))
set_option maxHeartbeats 4000000 in
set_option maxRecDepth 100000 in
theorem rvalid_good {n d : Int} (hG : Good n d) : Con Try.prog 15 [ratD n d] (boolD true) := by
  have hn4 := b4_512 hG.hn
  have h04 : (0 : Int).natAbs < b4 := b4_512 (Nat.lt_trans (by decide) one512)
  have hq2 : (dq n d).natAbs < b2 := b2_512 (Nat.lt_of_le_of_lt (dq_abs hG.d0) hG.hn)
  refine con_of Try.func15 (by kernel_rfl) rfl (by kernel_rfl) fun base w0 => ?_
  refine SW.seq ?_
  refine SW.region ?_
  refine SWl.ef (S := []) (Ef.boxA rfl rfl) ?_
  rintro _ ⟨g1, rfl⟩
  refine SWl.rd rfl (Rd.assign rfl) ?_
  refine SWl.nil ?_
  refine SN.then ?_
  refine SW.seq ?_
  refine SW.seq ?_
  refine SW.region ?_
  refine SWl.rd rfl (Rd.loadA 0 4 rfl rfl (by kernel_rfl) rfl trivial) ?_
  refine SWl.ef (S := []) (Ef.litR rfl rfl blsR1 rfl) ?_
  rintro _ rfl
  refine SWl.ef (S := []) (Ef.call (con_bigQ [row4 n d] (by simp)) rfl ⟨Le.refl _, trivial⟩ rfl) ?_
  rintro _ rfl
  refine SWl.nil ?_
  refine SN.then ?_
  refine SW.condF rfl (anyR1 hG) ?_
  refine SW.skip ?_
  refine SN.then ?_
  refine SW.seq ?_
  refine SW.region ?_
  refine SWl.rd rfl (Rd.loadA 0 4 rfl rfl (by kernel_rfl) rfl trivial) ?_
  refine SWl.ef (S := []) (Ef.call (con_negQ hG) rfl ⟨Le.refl _, trivial⟩ rfl) ?_
  rintro _ rfl
  refine SWl.rd rfl (Rd.move rfl) ?_
  refine SWl.rd rfl (Rd.extract rfl rfl) ?_
  refine SWl.rd rfl (Rd.extract rfl rfl) ?_
  refine SWl.ef (S := []) (Ef.alloc (zs := [.bool false, .slice none 0 0, .bool false, .slice none 0 0]) (by kernel_rfl) rfl) ?_
  rintro _ ⟨g3, rfl⟩
  refine SWl.ef (S := [_]) (Ef.storeA 1 rfl rfl rfl (by kernel_rfl) rfl (List.mem_singleton.2 rfl)) ?_
  rintro _ rfl
  refine SWl.rd rfl (Rd.assign rfl) ?_
  refine SWl.nil ?_
  refine SN.then ?_
  refine SW.seq ?_
  refine SW.region ?_
  refine SWl.rd rfl (Rd.loadA 0 4 rfl rfl (by kernel_rfl) rfl trivial) ?_
  refine SWl.ef (S := []) (Ef.call (con_floor hG) rfl ⟨Le.refl _, trivial⟩ rfl) ?_
  rintro _ rfl
  refine SWl.rd rfl (Rd.move rfl) ?_
  refine SWl.rd rfl (Rd.extract rfl rfl) ?_
  refine SWl.rd rfl (Rd.extract rfl rfl) ?_
  refine SWl.ef (S := []) (Ef.alloc (zs := [.bool false, .slice none 0 0]) (by kernel_rfl) rfl) ?_
  rintro _ ⟨g5, rfl⟩
  refine SWl.ef (S := [_]) (Ef.storeA 2 rfl rfl rfl (by kernel_rfl) rfl (List.mem_singleton.2 rfl)) ?_
  rintro _ rfl
  refine SWl.rd rfl (Rd.assign rfl) ?_
  refine SWl.nil ?_
  refine SN.then ?_
  refine SW.seq ?_
  refine SW.region ?_
  refine SWl.rd rfl (Rd.loadA 0 4 rfl rfl (by kernel_rfl) rfl trivial) ?_
  refine SWl.ef (S := []) (Ef.call (con_ceil hG) rfl ⟨Le.refl _, trivial⟩ rfl) ?_
  rintro _ rfl
  refine SWl.rd rfl (Rd.move rfl) ?_
  refine SWl.rd rfl (Rd.extract rfl rfl) ?_
  refine SWl.rd rfl (Rd.extract rfl rfl) ?_
  refine SWl.ef (S := []) (Ef.alloc (zs := [.bool false, .slice none 0 0]) (by kernel_rfl) rfl) ?_
  rintro _ ⟨g7, rfl⟩
  refine SWl.ef (S := [_]) (Ef.storeA 3 rfl rfl rfl (by kernel_rfl) rfl (List.mem_singleton.2 rfl)) ?_
  rintro _ rfl
  refine SWl.rd rfl (Rd.assign rfl) ?_
  refine SWl.nil ?_
  refine SN.then ?_
  refine SW.seq ?_
  refine SW.sub (σ' := St.of [(1, isD (.pointer (some ⟨g1, 0, none⟩))), (3, isD (.pointer (some ⟨g3, 0, none⟩))), (5, isD (.pointer (some ⟨g5, 0, none⟩))), (7, isD (.pointer (some ⟨g7, 0, none⟩))), (4, errD (0)), (6, errD (0)), (8, errD (0))] [(g1, ratC (n) (d)), (g3, ratC (-n) (d)), (g5, intC (dq n d)), (g7, intC (ceilZ n d))]) (⟨⟨_, rfl, ⟨⟨_, rfl, Le.refl _⟩, ⟨⟨_, rfl, Le.refl _⟩, ⟨⟨_, rfl, Le.refl _⟩, ⟨⟨_, rfl, Le.refl _⟩, ⟨⟨_, rfl, Le.refl _⟩, ⟨⟨_, rfl, Le.refl _⟩, ⟨⟨_, rfl, Le.refl _⟩, trivial⟩⟩⟩⟩⟩⟩⟩⟩, [0, 1, 2, 3], by decide, ⟨⟨_, rfl, LeAll.refl _⟩, ⟨⟨_, rfl, LeAll.refl _⟩, ⟨⟨_, rfl, LeAll.refl _⟩, ⟨⟨_, rfl, LeAll.refl _⟩, trivial⟩⟩⟩⟩⟩) ?_
  refine SW.region ?_
  refine SWl.rd rfl (Rd.build rfl rfl bldI0) ?_
  refine SWl.ef (S := []) (Ef.alloc (zs := [.bool false, .slice none 0 0]) (by kernel_rfl) rfl) ?_
  rintro _ ⟨g9, rfl⟩
  refine SWl.ef (S := [_]) (Ef.storeA 4 rfl rfl rfl (by kernel_rfl) rfl (List.mem_singleton.2 rfl)) ?_
  rintro _ rfl
  refine SWl.nil ?_
  refine SN.then ?_
  refine SW.seq ?_
  refine SW.seq ?_
  refine SW.region ?_
  refine SWl.rd rfl (Rd.loadA 0 4 rfl rfl (by kernel_rfl) rfl trivial) ?_
  refine SWl.ef (S := []) (Ef.call (con_rvalRT hG) rfl ⟨Le.refl _, trivial⟩ rfl) ?_
  rintro _ rfl
  refine SWl.rd rfl (Rd.not rfl) ?_
  refine SWl.nil ?_
  refine SN.then ?_
  refine SW.condF rfl (rfl) ?_
  refine SW.skip ?_
  refine SN.then ?_
  refine SW.seq ?_
  refine SW.region ?_
  refine SWl.rd rfl (Rd.fieldAddr (n := 0) rfl (by kernel_rfl)) ?_
  refine SWl.rd rfl (Rd.loadA 0 2 rfl rfl (by kernel_rfl) rfl trivial) ?_
  refine SWl.rd rfl (Rd.fieldAddr (n := 2) rfl (by kernel_rfl)) ?_
  refine SWl.rd rfl (Rd.loadA 0 2 rfl rfl (by kernel_rfl) rfl trivial) ?_
  refine SWl.ef (S := []) (Ef.call (con_divideR (b2_512 hG.hn) (b2_512 hG.hd) hG.d0) rfl ⟨Le.refl _, Le.refl _, trivial⟩ rfl) ?_
  rintro _ rfl
  refine SWl.rd rfl (Rd.move rfl) ?_
  refine SWl.rd rfl (Rd.extract rfl rfl) ?_
  refine SWl.rd rfl (Rd.extract rfl rfl) ?_
  refine SWl.ef (S := []) (Ef.alloc (zs := [.bool false, .slice none 0 0]) (by kernel_rfl) rfl) ?_
  rintro _ ⟨g10, rfl⟩
  refine SWl.ef (S := []) (Ef.alloc (zs := [.bool false, .slice none 0 0]) (by kernel_rfl) rfl) ?_
  rintro _ ⟨g11, rfl⟩
  refine SWl.ef (S := [_]) (Ef.storeA 5 rfl rfl rfl (by kernel_rfl) rfl (List.mem_singleton.2 rfl)) ?_
  rintro _ rfl
  refine SWl.ef (S := [_]) (Ef.storeA 6 rfl rfl rfl (by kernel_rfl) rfl (List.mem_singleton.2 rfl)) ?_
  rintro _ rfl
  refine SWl.nil ?_
  refine SN.then ?_
  refine SW.seq ?_
  refine SW.region ?_
  refine SWl.rd rfl (Rd.loadA 5 2 rfl rfl (by kernel_rfl) rfl trivial) ?_
  refine SWl.ef (S := []) (Ef.alloc (zs := [.bool false, .slice none 0 0]) (by kernel_rfl) rfl) ?_
  rintro _ ⟨g12, rfl⟩
  refine SWl.ef (S := [_]) (Ef.storeA 7 rfl rfl rfl (by kernel_rfl) rfl (List.mem_singleton.2 rfl)) ?_
  rintro _ rfl
  refine SWl.nil ?_
  refine SN.then ?_
  refine SW.seq ?_
  refine SW.seq ?_
  refine SW.sub (σ' := St.of [(1, isD (.pointer (some ⟨g1, 0, none⟩))), (3, isD (.pointer (some ⟨g3, 0, none⟩))), (5, isD (.pointer (some ⟨g5, 0, none⟩))), (7, isD (.pointer (some ⟨g7, 0, none⟩))), (9, isD (.pointer (some ⟨g9, 0, none⟩))), (10, isD (.pointer (some ⟨g10, 0, none⟩))), (11, isD (.pointer (some ⟨g11, 0, none⟩))), (12, isD (.pointer (some ⟨g12, 0, none⟩))), (4, errD (0)), (6, errD (0)), (8, errD (0))] [(g1, ratC (n) (d)), (g3, ratC (-n) (d)), (g5, intC (dq n d)), (g7, intC (ceilZ n d)), (g9, [isD (.bool false), isD (.slice none 0 0)]), (g10, intC (dq n d)), (g11, intC (dr n d)), (g12, intC (dq n d))]) (⟨⟨_, rfl, ⟨⟨_, rfl, Le.refl _⟩, ⟨⟨_, rfl, Le.refl _⟩, ⟨⟨_, rfl, Le.refl _⟩, ⟨⟨_, rfl, Le.refl _⟩, ⟨⟨_, rfl, Le.refl _⟩, ⟨⟨_, rfl, Le.refl _⟩, ⟨⟨_, rfl, Le.refl _⟩, ⟨⟨_, rfl, Le.refl _⟩, ⟨⟨_, rfl, Le.refl _⟩, ⟨⟨_, rfl, Le.refl _⟩, ⟨⟨_, rfl, Le.refl _⟩, trivial⟩⟩⟩⟩⟩⟩⟩⟩⟩⟩⟩⟩, [0, 1, 2, 3, 4, 5, 6, 7], by decide, ⟨⟨_, rfl, LeAll.refl _⟩, ⟨⟨_, rfl, LeAll.refl _⟩, ⟨⟨_, rfl, LeAll.refl _⟩, ⟨⟨_, rfl, LeAll.refl _⟩, ⟨⟨_, rfl, LeAll.refl _⟩, ⟨⟨_, rfl, LeAll.refl _⟩, ⟨⟨_, rfl, LeAll.refl _⟩, ⟨⟨_, rfl, LeAll.refl _⟩, trivial⟩⟩⟩⟩⟩⟩⟩⟩⟩) ?_
  refine SW.region ?_
  refine SWl.rd rfl (Rd.fieldAddr (n := 1) rfl (by kernel_rfl)) ?_
  refine SWl.rd rfl (Rd.loadB 6 rfl rfl rfl (by kernel_rfl) trivial) ?_
  refine SWl.rd rfl (Rd.len (e := 5) rfl (by kernel_rfl)) ?_
  refine SWl.rd rfl (Rd.gtr rfl rfl) ?_
  refine SWl.nil ?_
  refine SN.then ?_
  refine SW.cond rfl (fun hb87 => ?_) (fun hb87 => ?_)
  · have hce : dq n d + 1 = ceilZ n d := (by unfold ceilZ; rw [if_neg]; intro e; have := byt_len0.2 e; have := of_decide_eq_true hb87; omega)
    refine SW.draw [g12] (.r 0 (.n 1 (.n 2 (.e 3 .fin .no) .no) .no)) (by kernel_rfl) (by kernel_rfl) (fun d _ _ _ _ h => by cases d <;> exact h) ?_
    refine SWz.rd (i := 0) rfl rfl (Rd.loadA 5 2 rfl rfl (by kernel_rfl) rfl ⟨⟨7, _, rfl, by decide⟩, trivial⟩) ?_
    refine SWz.efn (i := 1) rfl (Ef.call (con_ofR (by decide) (by decide)) rfl ⟨Le.refl _, trivial⟩ rfl) ?_ SWz.no
    rintro _ rfl
    refine SWz.efn (i := 2) rfl (Ef.call (con_sumR hq2 (b2_512 one512)) rfl ⟨Le.refl _, Le.refl _, trivial⟩ rfl) ?_ SWz.no
    rintro _ rfl
    refine SWz.efe (i := 3) rfl (Ef.storeA 7 rfl rfl rfl (by kernel_rfl) rfl (List.mem_of_getElem? (i := 0) rfl)) ?_ SWz.no
    rintro _ rfl
    refine SWz.nil ?_
    refine SN.then ?_
    refine SW.seq ?_
    refine SW.sub (σ' := St.of [(1, isD (.pointer (some ⟨g1, 0, none⟩))), (3, isD (.pointer (some ⟨g3, 0, none⟩))), (5, isD (.pointer (some ⟨g5, 0, none⟩))), (7, isD (.pointer (some ⟨g7, 0, none⟩))), (9, isD (.pointer (some ⟨g9, 0, none⟩))), (10, isD (.pointer (some ⟨g10, 0, none⟩))), (12, isD (.pointer (some ⟨g12, 0, none⟩))), (4, errD (0)), (6, errD (0)), (8, errD (0))] [(g1, ratC (n) (d)), (g3, ratC (-n) (d)), (g5, intC (dq n d)), (g7, intC (ceilZ n d)), (g9, [isD (.bool false), isD (.slice none 0 0)]), (g10, intC (dq n d)), (g12, intC (ceilZ n d))]) (⟨⟨_, rfl, ⟨⟨_, rfl, Le.refl _⟩, ⟨⟨_, rfl, Le.refl _⟩, ⟨⟨_, rfl, Le.refl _⟩, ⟨⟨_, rfl, Le.refl _⟩, ⟨⟨_, rfl, Le.refl _⟩, ⟨⟨_, rfl, Le.refl _⟩, ⟨⟨_, rfl, Le.refl _⟩, ⟨⟨_, rfl, Le.refl _⟩, ⟨⟨_, rfl, Le.refl _⟩, ⟨⟨_, rfl, Le.refl _⟩, trivial⟩⟩⟩⟩⟩⟩⟩⟩⟩⟩⟩, [0, 1, 2, 3, 4, 5, 7], by decide, ⟨⟨_, rfl, LeAll.refl _⟩, ⟨⟨_, rfl, LeAll.refl _⟩, ⟨⟨_, rfl, LeAll.refl _⟩, ⟨⟨_, rfl, LeAll.refl _⟩, ⟨⟨_, rfl, LeAll.refl _⟩, ⟨⟨_, rfl, LeAll.refl _⟩, ⟨⟨_, rfl, leC_int hce⟩, trivial⟩⟩⟩⟩⟩⟩⟩⟩) ?_
    refine SW.draw [] (.r 0 (.n 1 (.r 2 (.r 3 (.r 5 (.r 6 (.r 7 (.n 4 (.n 8 (.r 9 (.r 10 (.r 11 (.r 12 (.r 13 (.r 14 (.n 15 (.n 16 (.r 17 (.r 18 (.r 19 (.r 20 (.r 21 (.r 22 (.r 23 (.r 24 (.r 25 (.r 26 (.r 27 (.r 28 (.n 29 (.r 30 (.r 31 (.r 32 (.r 33 (.n 34 (.r 35 (.r 36 (.n 37 (.r 38 (.r 39 .fin)) .no))) .no))))) .no))))))))))))) .no) .no))))))) .no) .no)))))) .no)) (by kernel_rfl) (by kernel_rfl) (fun d _ _ _ _ h => by cases d <;> exact h) ?_
    refine SWz.rd (i := 0) rfl rfl (Rd.loadA 0 4 rfl rfl (by kernel_rfl) rfl trivial) ?_
    refine SWz.efn (i := 1) rfl (Ef.call (con_rvalT hG) rfl ⟨Le.refl _, trivial⟩ rfl) ?_ SWz.no
    rintro _ rfl
    refine SWz.rd (i := 2) rfl rfl (Rd.move rfl) ?_
    refine SWz.rdg (i := 3) rfl rfl rfl (rfl) rfl rfl (Rd.loadA 0 4 rfl rfl (by kernel_rfl) rfl trivial) ?_
    refine SWz.rdg (i := 5) rfl rfl rfl (rfl) rfl rfl (Rd.fieldAddr (n := 0) rfl (by kernel_rfl)) ?_
    refine SWz.rdg (i := 6) rfl rfl rfl (rfl) rfl rfl (Rd.loadA 0 2 rfl rfl (by kernel_rfl) rfl trivial) ?_
    refine SWz.rdg (i := 7) rfl rfl rfl (rfl) rfl rfl (Rd.loadA 4 2 rfl rfl (by kernel_rfl) rfl trivial) ?_
    refine SWz.efng (i := 4) rfl rfl rfl (rfl) rfl (Ef.call (con_signQ hG) rfl ⟨Le.refl _, trivial⟩ rfl) ?_ SWz.no
    rintro _ rfl
    refine SWz.efng (i := 8) rfl rfl rfl (rfl) rfl (Ef.call (con_compareR hn4 h04) rfl ⟨Le.refl _, le_int0, trivial⟩ rfl) ?_ SWz.no
    rintro _ rfl
    refine SWz.rdg (i := 9) rfl rfl rfl (rfl) rfl rfl (Rd.eqi rfl rfl) ?_
    refine SWz.rd (i := 10) rfl rfl (Rd.pickY rfl (rfl) rfl) ?_
    refine SWz.rd (i := 11) rfl rfl (Rd.move rfl) ?_
    refine SWz.rdg (i := 12) rfl rfl rfl (decide_eq_true (cmpZ_sign n).symm) rfl rfl (Rd.loadA 1 4 rfl rfl (by kernel_rfl) rfl trivial) ?_
    refine SWz.rdg (i := 13) rfl rfl rfl (decide_eq_true (cmpZ_sign n).symm) rfl rfl (Rd.move rfl) ?_
    refine SWz.rdg (i := 14) rfl rfl rfl (decide_eq_true (cmpZ_sign n).symm) rfl rfl (Rd.loadA 0 4 rfl rfl (by kernel_rfl) rfl trivial) ?_
    refine SWz.efng (i := 15) rfl rfl rfl (decide_eq_true (cmpZ_sign n).symm) rfl (Ef.call (con_negQR hG) rfl ⟨Le.refl _, trivial⟩ rfl) ?_ SWz.no
    rintro _ rfl
    refine SWz.efng (i := 16) rfl rfl rfl (decide_eq_true (cmpZ_sign n).symm) rfl (Ef.call (con_same2L (by first | rfl | assumption) (by first | rfl | assumption) (by first | rfl | assumption)) rfl ⟨Le.refl _, Le.refl _, Le.refl _, Le.refl _, trivial⟩ rfl) ?_ SWz.no
    rintro _ rfl
    refine SWz.rd (i := 17) rfl rfl (Rd.pickY rfl (decide_eq_true (cmpZ_sign n).symm) rfl) ?_
    refine SWz.rd (i := 18) rfl rfl (Rd.move rfl) ?_
    refine SWz.rdg (i := 19) rfl rfl rfl (rfl) rfl rfl (Rd.move rfl) ?_
    refine SWz.rdg (i := 20) rfl rfl rfl (rfl) rfl rfl (Rd.eqi rfl rfl) ?_
    refine SWz.rd (i := 21) rfl rfl (Rd.pickY rfl (rfl) rfl) ?_
    refine SWz.rd (i := 22) rfl rfl (Rd.move rfl) ?_
    refine SWz.rdg (i := 23) rfl rfl rfl (by decide) rfl rfl (Rd.move rfl) ?_
    refine SWz.rdg (i := 24) rfl rfl rfl (by decide) rfl rfl (Rd.eqi rfl rfl) ?_
    refine SWz.rd (i := 25) rfl rfl (Rd.pickY rfl (by decide) rfl) ?_
    refine SWz.rd (i := 26) rfl rfl (Rd.move rfl) ?_
    refine SWz.rdg (i := 27) rfl rfl rfl (by decide) rfl rfl (Rd.loadA 2 2 rfl rfl (by kernel_rfl) rfl trivial) ?_
    refine SWz.rdg (i := 28) rfl rfl rfl (by decide) rfl rfl (Rd.loadA 5 2 rfl rfl (by kernel_rfl) rfl trivial) ?_
    refine SWz.efng (i := 29) rfl rfl rfl (by decide) rfl (Ef.call (con_sameT (by first | rfl | assumption)) rfl ⟨Le.refl _, Le.refl _, trivial⟩ rfl) ?_ SWz.no
    rintro _ rfl
    refine SWz.rd (i := 30) rfl rfl (Rd.pickY rfl (by decide) rfl) ?_
    refine SWz.rd (i := 31) rfl rfl (Rd.move rfl) ?_
    refine SWz.rdg (i := 32) rfl rfl rfl (rfl) rfl rfl (Rd.loadA 3 2 rfl rfl (by kernel_rfl) rfl trivial) ?_
    refine SWz.rdg (i := 33) rfl rfl rfl (rfl) rfl rfl (Rd.loadA 6 2 rfl rfl (by kernel_rfl) rfl trivial) ?_
    refine SWz.efng (i := 34) rfl rfl rfl (rfl) rfl (Ef.call (con_sameT (by first | rfl | assumption)) rfl ⟨Le.refl _, Le.refl _, trivial⟩ rfl) ?_ SWz.no
    rintro _ rfl
    refine SWz.rd (i := 35) rfl rfl (Rd.pickY rfl (rfl) rfl) ?_
    refine SWz.rd (i := 36) rfl rfl (Rd.move rfl) ?_
    refine SWz.efng (i := 37) rfl rfl rfl (rfl) rfl (Ef.call (con_known2) rfl trivial rfl) ?_ SWz.no
    rintro _ rfl
    refine SWz.rd (i := 38) rfl rfl (Rd.pickY rfl (rfl) rfl) ?_
    refine SWz.rd (i := 39) rfl rfl (Rd.assign rfl) ?_
    refine SWz.nil ?_
    refine SN.then ?_
    refine SW.ret (fn := Try.f15) (fun _ _ h => h) (Rs.one rfl (ResV.tmp rfl))
  · have hce : dq n d = ceilZ n d := (by unfold ceilZ; rw [if_pos]; have := of_decide_eq_false hb87; exact byt_len0.1 (by omega))
    refine SW.skip ?_
    refine SN.then ?_
    refine SW.seq ?_
    refine SW.sub (σ' := St.of [(1, isD (.pointer (some ⟨g1, 0, none⟩))), (3, isD (.pointer (some ⟨g3, 0, none⟩))), (5, isD (.pointer (some ⟨g5, 0, none⟩))), (7, isD (.pointer (some ⟨g7, 0, none⟩))), (9, isD (.pointer (some ⟨g9, 0, none⟩))), (10, isD (.pointer (some ⟨g10, 0, none⟩))), (12, isD (.pointer (some ⟨g12, 0, none⟩))), (4, errD (0)), (6, errD (0)), (8, errD (0))] [(g1, ratC (n) (d)), (g3, ratC (-n) (d)), (g5, intC (dq n d)), (g7, intC (ceilZ n d)), (g9, [isD (.bool false), isD (.slice none 0 0)]), (g10, intC (dq n d)), (g12, intC (ceilZ n d))]) (⟨⟨_, rfl, ⟨⟨_, rfl, Le.refl _⟩, ⟨⟨_, rfl, Le.refl _⟩, ⟨⟨_, rfl, Le.refl _⟩, ⟨⟨_, rfl, Le.refl _⟩, ⟨⟨_, rfl, Le.refl _⟩, ⟨⟨_, rfl, Le.refl _⟩, ⟨⟨_, rfl, Le.refl _⟩, ⟨⟨_, rfl, Le.refl _⟩, ⟨⟨_, rfl, Le.refl _⟩, ⟨⟨_, rfl, Le.refl _⟩, trivial⟩⟩⟩⟩⟩⟩⟩⟩⟩⟩⟩, [0, 1, 2, 3, 4, 5, 7], by decide, ⟨⟨_, rfl, LeAll.refl _⟩, ⟨⟨_, rfl, LeAll.refl _⟩, ⟨⟨_, rfl, LeAll.refl _⟩, ⟨⟨_, rfl, LeAll.refl _⟩, ⟨⟨_, rfl, LeAll.refl _⟩, ⟨⟨_, rfl, LeAll.refl _⟩, ⟨⟨_, rfl, leC_int hce⟩, trivial⟩⟩⟩⟩⟩⟩⟩⟩) ?_
    refine SW.draw [] (.r 0 (.n 1 (.r 2 (.r 3 (.r 5 (.r 6 (.r 7 (.n 4 (.n 8 (.r 9 (.r 10 (.r 11 (.r 12 (.r 13 (.r 14 (.n 15 (.n 16 (.r 17 (.r 18 (.r 19 (.r 20 (.r 21 (.r 22 (.r 23 (.r 24 (.r 25 (.r 26 (.r 27 (.r 28 (.n 29 (.r 30 (.r 31 (.r 32 (.r 33 (.n 34 (.r 35 (.r 36 (.n 37 (.r 38 (.r 39 .fin)) .no))) .no))))) .no))))))))))))) .no) .no))))))) .no) .no)))))) .no)) (by kernel_rfl) (by kernel_rfl) (fun d _ _ _ _ h => by cases d <;> exact h) ?_
    refine SWz.rd (i := 0) rfl rfl (Rd.loadA 0 4 rfl rfl (by kernel_rfl) rfl trivial) ?_
    refine SWz.efn (i := 1) rfl (Ef.call (con_rvalT hG) rfl ⟨Le.refl _, trivial⟩ rfl) ?_ SWz.no
    rintro _ rfl
    refine SWz.rd (i := 2) rfl rfl (Rd.move rfl) ?_
    refine SWz.rdg (i := 3) rfl rfl rfl (rfl) rfl rfl (Rd.loadA 0 4 rfl rfl (by kernel_rfl) rfl trivial) ?_
    refine SWz.rdg (i := 5) rfl rfl rfl (rfl) rfl rfl (Rd.fieldAddr (n := 0) rfl (by kernel_rfl)) ?_
    refine SWz.rdg (i := 6) rfl rfl rfl (rfl) rfl rfl (Rd.loadA 0 2 rfl rfl (by kernel_rfl) rfl trivial) ?_
    refine SWz.rdg (i := 7) rfl rfl rfl (rfl) rfl rfl (Rd.loadA 4 2 rfl rfl (by kernel_rfl) rfl trivial) ?_
    refine SWz.efng (i := 4) rfl rfl rfl (rfl) rfl (Ef.call (con_signQ hG) rfl ⟨Le.refl _, trivial⟩ rfl) ?_ SWz.no
    rintro _ rfl
    refine SWz.efng (i := 8) rfl rfl rfl (rfl) rfl (Ef.call (con_compareR hn4 h04) rfl ⟨Le.refl _, le_int0, trivial⟩ rfl) ?_ SWz.no
    rintro _ rfl
    refine SWz.rdg (i := 9) rfl rfl rfl (rfl) rfl rfl (Rd.eqi rfl rfl) ?_
    refine SWz.rd (i := 10) rfl rfl (Rd.pickY rfl (rfl) rfl) ?_
    refine SWz.rd (i := 11) rfl rfl (Rd.move rfl) ?_
    refine SWz.rdg (i := 12) rfl rfl rfl (decide_eq_true (cmpZ_sign n).symm) rfl rfl (Rd.loadA 1 4 rfl rfl (by kernel_rfl) rfl trivial) ?_
    refine SWz.rdg (i := 13) rfl rfl rfl (decide_eq_true (cmpZ_sign n).symm) rfl rfl (Rd.move rfl) ?_
    refine SWz.rdg (i := 14) rfl rfl rfl (decide_eq_true (cmpZ_sign n).symm) rfl rfl (Rd.loadA 0 4 rfl rfl (by kernel_rfl) rfl trivial) ?_
    refine SWz.efng (i := 15) rfl rfl rfl (decide_eq_true (cmpZ_sign n).symm) rfl (Ef.call (con_negQR hG) rfl ⟨Le.refl _, trivial⟩ rfl) ?_ SWz.no
    rintro _ rfl
    refine SWz.efng (i := 16) rfl rfl rfl (decide_eq_true (cmpZ_sign n).symm) rfl (Ef.call (con_same2L (by first | rfl | assumption) (by first | rfl | assumption) (by first | rfl | assumption)) rfl ⟨Le.refl _, Le.refl _, Le.refl _, Le.refl _, trivial⟩ rfl) ?_ SWz.no
    rintro _ rfl
    refine SWz.rd (i := 17) rfl rfl (Rd.pickY rfl (decide_eq_true (cmpZ_sign n).symm) rfl) ?_
    refine SWz.rd (i := 18) rfl rfl (Rd.move rfl) ?_
    refine SWz.rdg (i := 19) rfl rfl rfl (rfl) rfl rfl (Rd.move rfl) ?_
    refine SWz.rdg (i := 20) rfl rfl rfl (rfl) rfl rfl (Rd.eqi rfl rfl) ?_
    refine SWz.rd (i := 21) rfl rfl (Rd.pickY rfl (rfl) rfl) ?_
    refine SWz.rd (i := 22) rfl rfl (Rd.move rfl) ?_
    refine SWz.rdg (i := 23) rfl rfl rfl (by decide) rfl rfl (Rd.move rfl) ?_
    refine SWz.rdg (i := 24) rfl rfl rfl (by decide) rfl rfl (Rd.eqi rfl rfl) ?_
    refine SWz.rd (i := 25) rfl rfl (Rd.pickY rfl (by decide) rfl) ?_
    refine SWz.rd (i := 26) rfl rfl (Rd.move rfl) ?_
    refine SWz.rdg (i := 27) rfl rfl rfl (by decide) rfl rfl (Rd.loadA 2 2 rfl rfl (by kernel_rfl) rfl trivial) ?_
    refine SWz.rdg (i := 28) rfl rfl rfl (by decide) rfl rfl (Rd.loadA 5 2 rfl rfl (by kernel_rfl) rfl trivial) ?_
    refine SWz.efng (i := 29) rfl rfl rfl (by decide) rfl (Ef.call (con_sameT (by first | rfl | assumption)) rfl ⟨Le.refl _, Le.refl _, trivial⟩ rfl) ?_ SWz.no
    rintro _ rfl
    refine SWz.rd (i := 30) rfl rfl (Rd.pickY rfl (by decide) rfl) ?_
    refine SWz.rd (i := 31) rfl rfl (Rd.move rfl) ?_
    refine SWz.rdg (i := 32) rfl rfl rfl (rfl) rfl rfl (Rd.loadA 3 2 rfl rfl (by kernel_rfl) rfl trivial) ?_
    refine SWz.rdg (i := 33) rfl rfl rfl (rfl) rfl rfl (Rd.loadA 6 2 rfl rfl (by kernel_rfl) rfl trivial) ?_
    refine SWz.efng (i := 34) rfl rfl rfl (rfl) rfl (Ef.call (con_sameT (by first | rfl | assumption)) rfl ⟨Le.refl _, Le.refl _, trivial⟩ rfl) ?_ SWz.no
    rintro _ rfl
    refine SWz.rd (i := 35) rfl rfl (Rd.pickY rfl (rfl) rfl) ?_
    refine SWz.rd (i := 36) rfl rfl (Rd.move rfl) ?_
    refine SWz.efng (i := 37) rfl rfl rfl (rfl) rfl (Ef.call (con_known2) rfl trivial rfl) ?_ SWz.no
    rintro _ rfl
    refine SWz.rd (i := 38) rfl rfl (Rd.pickY rfl (rfl) rfl) ?_
    refine SWz.rd (i := 39) rfl rfl (Rd.assign rfl) ?_
    refine SWz.nil ?_
    refine SN.then ?_
    refine SW.ret (fn := Try.f15) (fun _ _ h => h) (Rs.one rfl (ResV.tmp rfl))
theorem ratioValid_con (s : Bool) (b : List Nat) (t : Bool) (c : List Nat) (hB : Byt b c) : Con Try.prog 15 [rratD s b t c] (boolD true) := by
  cases h : anyR [((s, b), (t, c))]
  · cases hv : rvld s b t c
    · exact rvalid_bad h hB hv
    · obtain ⟨n, d, hG, rfl, rfl, rfl, rfl⟩ := rvld_out hB.l hB.r hv
      exact rvalid_good hG
  · exact rvalid_big h
end Sx
end Go.Proofs.Ytddfphneidcibaa
