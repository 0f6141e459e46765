/-
  LEDGERS: nothing there.
-/
import Derived.Test.YtonjpfpdpfonnaaDoorL15
namespace Go.Proofs.YtonjpfpdpfonnaaDoor
open Go.RowKit
namespace Sx
set_option maxHeartbeats 4000000 in
set_option maxRecDepth 100000 in
theorem con_append_nil (k : Int) (b : List UInt8) : ConN Tryd.prog 23 [isD (.pointer none), aggD [iD k, bD b]] (tupD [iD 0, iD 1]) := by
  refine con_ofN Tryd.func23 (by kernel_rfl) rfl (by kernel_rfl) fun base w0 => ?_
  refine SW.seq ?_
  refine SW.region ?_
  refine SWl.ef (S := []) (Ef.boxA rfl rfl) ?_
  rintro _ ⟨g3, rfl⟩
  refine SWl.rd rfl (Rd.assign rfl) ?_
  refine SWl.rd rfl (Rd.assign rfl) ?_
  refine SWl.nil ?_
  refine SN.then ?_
  refine SW.seq ?_
  refine SW.seq ?_
  refine SW.region ?_
  refine SWl.rd rfl (Rd.move rfl) ?_
  refine SWl.rd rfl (Rd.eqP rfl rfl (by kernel_rfl)) ?_
  refine SWl.nil ?_
  refine SN.then ?_
  refine SW.condT rfl (rfl) ?_
  refine SW.seq ?_
  refine SW.region ?_
  refine SWl.rd rfl (Rd.assign rfl) ?_
  refine SWl.rd rfl (Rd.assign rfl) ?_
  refine SWl.nil ?_
  refine SN.then ?_
  refine SW.ret (fn := Tryd.f23) (fun _ _ h => h) (Rs.le (Rs.two rfl (ResV.tmp rfl) (ResV.tmp rfl)) ?_)
  exact (le_nw_tup ⟨le_nw_is, le_nw_is, trivial⟩)
set_option maxHeartbeats 4000000 in
set_option maxRecDepth 100000 in
theorem con_at_nil (i : Int) : ConN Tryd.prog 20 [isD (.pointer none), iD i] (tupD [aggD [iD 0, bD []], iD 1]) := by
  refine con_ofN Tryd.func20 (by kernel_rfl) rfl (by kernel_rfl) fun base w0 => ?_
  refine SW.seq ?_
  refine SW.region ?_
  refine SWl.ef (S := []) (Ef.alloc (zs := [.int .i64 0, .slice none 0 0]) (by kernel_rfl) rfl) ?_
  rintro _ ⟨g4, rfl⟩
  refine SWl.rd rfl (Rd.assign rfl) ?_
  refine SWl.nil ?_
  refine SN.then ?_
  refine SW.seq ?_
  refine SW.seq ?_
  refine SW.region ?_
  refine SWl.rd rfl (Rd.move rfl) ?_
  refine SWl.rd rfl (Rd.eqP rfl rfl (by kernel_rfl)) ?_
  refine SWl.nil ?_
  refine SN.then ?_
  refine SW.condT rfl (rfl) ?_
  refine SW.seq ?_
  refine SW.region ?_
  refine SWl.rd rfl (Rd.build rfl rfl bldE0) ?_
  refine SWl.ef (S := [_]) (Ef.storeA 0 rfl rfl rfl (by kernel_rfl) rfl (List.mem_singleton.2 rfl)) ?_
  rintro _ rfl
  refine SWl.rd rfl (Rd.assign rfl) ?_
  refine SWl.nil ?_
  refine SN.then ?_
  refine SW.ret (fn := Tryd.f20) (fun _ _ h => h) (Rs.le (Rs.two rfl (ResV.cellA 0 rfl rfl (by kernel_rfl)) (ResV.tmp rfl)) ?_)
  exact le_nw_tup ⟨le_nw_agg ⟨le_nw_is, Le.trans (le_nw_is (x := .slice none 0 0)) (le_nw_mono (Nat.le_refl _) Le.nil_sl), trivial⟩, le_nw_is, trivial⟩
set_option maxHeartbeats 4000000 in
set_option maxRecDepth 100000 in
theorem con_root_nil (n : Int) : ConN Tryd.prog 13 [isD (.pointer none), iD n] (tupD [bD [], iD 1]) := by
  refine con_ofN Tryd.func13 (by kernel_rfl) rfl (by kernel_rfl) fun base w0 => ?_
  refine SW.seq ?_
  refine SW.region ?_
  refine SWl.rd rfl (Rd.assign rfl) ?_
  refine SWl.rd rfl (Rd.assign rfl) ?_
  refine SWl.nil ?_
  refine SN.then ?_
  refine SW.seq ?_
  refine SW.seq ?_
  refine SW.region ?_
  refine SWl.rd rfl (Rd.move rfl) ?_
  refine SWl.rd rfl (Rd.eqP rfl rfl (by kernel_rfl)) ?_
  refine SWl.nil ?_
  refine SN.then ?_
  refine SW.condT rfl (rfl) ?_
  refine SW.seq ?_
  refine SW.region ?_
  refine SWl.rd rfl (Rd.assign rfl) ?_
  refine SWl.rd rfl (Rd.assign rfl) ?_
  refine SWl.nil ?_
  refine SN.then ?_
  refine SW.ret (fn := Tryd.f13) (fun _ _ h => h) (Rs.le (Rs.two rfl (ResV.tmp rfl) (ResV.tmp rfl)) ?_)
  exact le_nw_tup ⟨Le.trans (le_nw_is (x := .slice none 0 0)) (le_nw_mono (Nat.le_refl _) Le.nil_sl), le_nw_is, trivial⟩
set_option maxHeartbeats 4000000 in
set_option maxRecDepth 100000 in
theorem con_inclusion_nil (i n : Int) : ConN Tryd.prog 14 [isD (.pointer none), iD i, iD n] (tupD [aggD [lsD encL []], iD 1]) := by
  refine con_ofN Tryd.func14 (by kernel_rfl) rfl (by kernel_rfl) fun base w0 => ?_
  refine SW.seq ?_
  refine SW.region ?_
  refine SWl.ef (S := []) (Ef.boxV rfl (fun _ _ _ h => one_cells (One.h _ _ _ h)) rfl) ?_
  rintro _ ⟨g3, rfl⟩
  refine SWl.ef (S := []) (Ef.alloc (zs := [.slice none 0 0]) (by kernel_rfl) rfl) ?_
  rintro _ ⟨g6, rfl⟩
  refine SWl.rd rfl (Rd.assign rfl) ?_
  refine SWl.nil ?_
  refine SN.then ?_
  refine SW.seq ?_
  refine SW.seq ?_
  refine SW.region ?_
  refine SWl.rd rfl (Rd.loadB 0 rfl rfl rfl (by kernel_rfl) ap_nil) ?_
  refine SWl.rd rfl (Rd.eqP rfl rfl (by kernel_rfl)) ?_
  refine SWl.nil ?_
  refine SN.then ?_
  refine SW.condT rfl (rfl) ?_
  refine SW.seq ?_
  refine SW.region ?_
  refine SWl.rd rfl (Rd.build rfl rfl bldP0) ?_
  refine SWl.ef (S := [_]) (Ef.storeA 1 rfl rfl rfl (by kernel_rfl) rfl (List.mem_singleton.2 rfl)) ?_
  rintro _ rfl
  refine SWl.rd rfl (Rd.assign rfl) ?_
  refine SWl.nil ?_
  refine SN.then ?_
  refine SW.ret (fn := Tryd.f14) (fun _ _ h => h) (Rs.le (Rs.two rfl (ResV.cellA 1 rfl rfl (by kernel_rfl)) (ResV.tmp rfl)) ?_)
  exact le_nw_tup ⟨le_nw_agg ⟨Le.trans (le_nw_is (x := .slice none 0 0)) (le_nw_mono (Nat.le_refl _) le_nil_ls), trivial⟩, le_nw_is, trivial⟩
set_option maxHeartbeats 4000000 in
set_option maxRecDepth 100000 in
theorem con_consistency_nil (i n : Int) : ConN Tryd.prog 15 [isD (.pointer none), iD i, iD n] (tupD [aggD [lsD encL []], iD 1]) := by
  refine con_ofN Tryd.func15 (by kernel_rfl) rfl (by kernel_rfl) fun base w0 => ?_
  refine SW.seq ?_
  refine SW.region ?_
  refine SWl.ef (S := []) (Ef.boxV rfl (fun _ _ _ h => one_cells (One.h _ _ _ h)) rfl) ?_
  rintro _ ⟨g3, rfl⟩
  refine SWl.ef (S := []) (Ef.alloc (zs := [.slice none 0 0]) (by kernel_rfl) rfl) ?_
  rintro _ ⟨g6, rfl⟩
  refine SWl.rd rfl (Rd.assign rfl) ?_
  refine SWl.nil ?_
  refine SN.then ?_
  refine SW.seq ?_
  refine SW.seq ?_
  refine SW.region ?_
  refine SWl.rd rfl (Rd.loadB 0 rfl rfl rfl (by kernel_rfl) ap_nil) ?_
  refine SWl.rd rfl (Rd.eqP rfl rfl (by kernel_rfl)) ?_
  refine SWl.nil ?_
  refine SN.then ?_
  refine SW.condT rfl (rfl) ?_
  refine SW.seq ?_
  refine SW.region ?_
  refine SWl.rd rfl (Rd.build rfl rfl bldP0) ?_
  refine SWl.ef (S := [_]) (Ef.storeA 1 rfl rfl rfl (by kernel_rfl) rfl (List.mem_singleton.2 rfl)) ?_
  rintro _ rfl
  refine SWl.rd rfl (Rd.assign rfl) ?_
  refine SWl.nil ?_
  refine SN.then ?_
  refine SW.ret (fn := Tryd.f15) (fun _ _ h => h) (Rs.le (Rs.two rfl (ResV.cellA 1 rfl rfl (by kernel_rfl)) (ResV.tmp rfl)) ?_)
  exact le_nw_tup ⟨le_nw_agg ⟨Le.trans (le_nw_is (x := .slice none 0 0)) (le_nw_mono (Nat.le_refl _) le_nil_ls), trivial⟩, le_nw_is, trivial⟩
set_option maxHeartbeats 4000000 in
set_option maxRecDepth 100000 in
theorem con_len_nil  : ConN Tryd.prog 24 [isD (.pointer none)] (iD 0) := by
  refine con_ofN Tryd.func24 (by kernel_rfl) rfl (by kernel_rfl) fun base w0 => ?_
  refine SW.seq ?_
  refine SW.region ?_
  refine SWl.rd rfl (Rd.assign rfl) ?_
  refine SWl.nil ?_
  refine SN.then ?_
  refine SW.seq ?_
  refine SW.seq ?_
  refine SW.region ?_
  refine SWl.rd rfl (Rd.move rfl) ?_
  refine SWl.rd rfl (Rd.eqP rfl rfl (by kernel_rfl)) ?_
  refine SWl.nil ?_
  refine SN.then ?_
  refine SW.condT rfl (rfl) ?_
  refine SW.seq ?_
  refine SW.region ?_
  refine SWl.rd rfl (Rd.assign rfl) ?_
  refine SWl.nil ?_
  refine SN.then ?_
  refine SW.ret (fn := Tryd.f24) (fun _ _ h => h) (Rs.le (Rs.one rfl (ResV.tmp rfl)) ?_)
  exact le_nw_is
set_option maxHeartbeats 4000000 in
set_option maxRecDepth 100000 in
theorem con_encode_nil  : ConN Tryd.prog 27 [isD (.pointer none)] (bD []) := by
  refine con_ofN Tryd.func27 (by kernel_rfl) rfl (by kernel_rfl) fun base w0 => ?_
  refine SW.seq ?_
  refine SW.region ?_
  refine SWl.rd rfl (Rd.assign rfl) ?_
  refine SWl.nil ?_
  refine SN.then ?_
  refine SW.seq ?_
  refine SW.seq ?_
  refine SW.region ?_
  refine SWl.rd rfl (Rd.move rfl) ?_
  refine SWl.rd rfl (Rd.eqP rfl rfl (by kernel_rfl)) ?_
  refine SWl.nil ?_
  refine SN.then ?_
  refine SW.condT rfl (rfl) ?_
  refine SW.seq ?_
  refine SW.region ?_
  refine SWl.rd rfl (Rd.assign rfl) ?_
  refine SWl.nil ?_
  refine SN.then ?_
  refine SW.ret (fn := Tryd.f27) (fun _ _ h => h) (Rs.le (Rs.one rfl (ResV.tmp rfl)) ?_)
  exact Le.trans (le_nw_is (x := .slice none 0 0)) (le_nw_mono (Nat.le_refl _) Le.nil_sl)
set_option maxHeartbeats 4000000 in
set_option maxRecDepth 100000 in
theorem con_copy_nil  : ConN Tryd.prog 29 [isD (.pointer none)] (isD (.pointer none)) := by
  refine con_ofN Tryd.func29 (by kernel_rfl) rfl (by kernel_rfl) fun base w0 => ?_
  refine SW.seq ?_
  refine SW.region ?_
  refine SWl.rd rfl (Rd.assign rfl) ?_
  refine SWl.nil ?_
  refine SN.then ?_
  refine SW.seq ?_
  refine SW.seq ?_
  refine SW.region ?_
  refine SWl.rd rfl (Rd.move rfl) ?_
  refine SWl.rd rfl (Rd.eqP rfl rfl (by kernel_rfl)) ?_
  refine SWl.nil ?_
  refine SN.then ?_
  refine SW.condT rfl (rfl) ?_
  refine SW.seq ?_
  refine SW.region ?_
  refine SWl.rd rfl (Rd.assign rfl) ?_
  refine SWl.nil ?_
  refine SN.then ?_
  refine SW.ret (fn := Tryd.f29) (fun _ _ h => h) (Rs.le (Rs.one rfl (ResV.tmp rfl)) ?_)
  exact le_nw_is
set_option maxHeartbeats 4000000 in
set_option maxRecDepth 100000 in
theorem con_entries_nil  : ConN Tryd.prog 22 [isD (.pointer none)] (fnD 48 [paD [lsD encE []]]) := by
  refine con_ofN Tryd.func22 (by kernel_rfl) rfl (by kernel_rfl) fun base w0 => ?_
  refine SW.seq ?_
  refine SW.region ?_
  refine SWl.rd rfl (Rd.assign rfl) ?_
  refine SWl.nil ?_
  refine SN.then ?_
  refine SW.seq ?_
  refine SW.region ?_
  refine SWl.ef (S := []) (Ef.alloc (zs := [.slice none 0 0]) (by kernel_rfl) rfl) ?_
  rintro _ ⟨g3, rfl⟩
  refine SWl.nil ?_
  refine SN.then ?_
  refine SW.seq ?_
  refine SW.seq ?_
  refine SW.region ?_
  refine SWl.rd rfl (Rd.move rfl) ?_
  refine SWl.rd rfl (Rd.neP rfl rfl (by kernel_rfl)) ?_
  refine SWl.nil ?_
  refine SN.then ?_
  refine SW.condF rfl (rfl) ?_
  refine SW.skip ?_
  refine SN.then ?_
  refine SW.seq ?_
  refine SW.region ?_
  refine SWl.rd rfl (Rd.makeFunc [.pointer (some ⟨g3, 0, none⟩)] rfl) ?_
  refine SWl.rd rfl (Rd.assign rfl) ?_
  refine SWl.nil ?_
  refine SN.then ?_
  refine SW.freezeFN (es := [lsD encE []]) 0 2 rfl rfl rfl ⟨Le.trans (le_nw_is (x := .slice none 0 0)) (le_nw_mono (Nat.le_refl _) le_nil_ls), trivial⟩ ?_
  refine SW.ret (fn := Tryd.f22) (fun _ _ h => h) (Rs.le (Rs.one rfl (ResV.tmp rfl)) ?_)
  exact Le.refl _
set_option maxHeartbeats 4000000 in
set_option maxRecDepth 100000 in
theorem ledgerNone_con (k i n : Int) (b : List UInt8) : ConN Tryd.prog 7 [aggD [iD k, bD b], iD i, iD n] (boolD true) := by
  refine con_ofNM Tryd.func7 (by kernel_rfl) rfl (by kernel_rfl) fun base w0 => ?_
  refine SW.seq ?_
  refine SW.region ?_
  refine SWl.ef (S := []) (Ef.boxA rfl rfl) ?_
  rintro _ ⟨g3, rfl⟩
  refine SWl.ef (S := []) (Ef.alloc (zs := [.bool false]) (by kernel_rfl) rfl) ?_
  rintro _ ⟨g6, rfl⟩
  refine SWl.nil ?_
  refine SN.then ?_
  refine SW.seq ?_
  refine SW.seq ?_
  refine SW.region ?_
  refine SWl.rd rfl (Rd.fieldAddr (n := 1) rfl (by kernel_rfl)) ?_
  refine SWl.rd rfl (Rd.loadB 0 rfl rfl rfl (by kernel_rfl) ap_nil) ?_
  refine SWl.rd rfl (Rd.len (e := 5) rfl (by kernel_rfl)) ?_
  refine SWl.rd rfl (Rd.gtr rfl rfl) ?_
  refine SWl.nil ?_
  refine SN.then ?_
  refine SW.cond rfl (fun hb22 => ?_) (fun hb22 => ?_)
  · skip
    refine SW.seq ?_
    refine SW.region ?_
    refine SWl.ef (S := []) (Ef.callN [] (con_known43) rfl trivial rfl) ?_
    rintro _ rfl
    refine SWl.ef (S := [_]) (Ef.storeV 1 rfl rfl rfl (by kernel_rfl) rfl (List.mem_singleton.2 rfl)) ?_
    rintro _ rfl
    refine SWl.nil ?_
    refine SN.then ?_
    refine SW.retM (fn := Tryd.f7) (fun _ _ h => h) ?_
    refine RM.fin ?_
    refine Rs.le (Rs.one rfl (ResV.cellV 1 rfl rfl (by kernel_rfl) rfl)) ?_
    exact le_bool_n rfl
  · skip
    refine SW.skip ?_
    refine SN.then ?_
    refine SW.seq ?_
    refine SW.region ?_
    refine SWl.rd rfl (Rd.assign rfl) ?_
    refine SWl.nil ?_
    refine SN.then ?_
    refine SW.seq ?_
    refine SW.region ?_
    refine SWl.rd rfl (Rd.move rfl) ?_
    refine SWl.rd rfl (Rd.loadA 0 2 rfl rfl (by kernel_rfl) rfl ap_nil) ?_
    refine SWl.ef (S := []) (Ef.callN [] (con_append_nil k b) rfl ⟨(sees_le (Le.refl _)), (sees_agg ⟨(sees_le (Le.refl _)), (sees_le (Le.refl _)), trivial⟩), trivial⟩ rfl) ?_
    rintro _ rfl
    refine SWl.rd rfl (Rd.move rfl) ?_
    refine SWl.rd rfl (Rd.extract rfl rfl) ?_
    refine SWl.rd rfl (Rd.extract rfl rfl) ?_
    refine SWl.rd rfl (Rd.assign rfl) ?_
    refine SWl.rd rfl (Rd.assign rfl) ?_
    refine SWl.nil ?_
    refine SN.then ?_
    refine SW.seq ?_
    refine SW.region ?_
    refine SWl.rd rfl (Rd.move rfl) ?_
    refine SWl.rd rfl (Rd.move rfl) ?_
    refine SWl.ef (S := []) (Ef.callN [] (con_at_nil i) rfl ⟨(sees_le (Le.refl _)), (sees_le (Le.refl _)), trivial⟩ rfl) ?_
    rintro _ rfl
    refine SWl.rd rfl (Rd.move rfl) ?_
    refine SWl.rd rfl (Rd.extract rfl rfl) ?_
    refine SWl.rd rfl (Rd.extract rfl rfl) ?_
    refine SWl.ef (S := []) (Ef.alloc (zs := [.int .i64 0, .slice none 0 0]) (by kernel_rfl) rfl) ?_
    rintro _ ⟨g10, rfl⟩
    refine SWl.ef (S := [_]) (Ef.storeA 2 rfl rfl rfl (by kernel_rfl) rfl (List.mem_singleton.2 rfl)) ?_
    rintro _ rfl
    refine SWl.rd rfl (Rd.assign rfl) ?_
    refine SWl.nil ?_
    refine SN.then ?_
    refine SW.seq ?_
    refine SW.region ?_
    refine SWl.rd rfl (Rd.move rfl) ?_
    refine SWl.rd rfl (Rd.move rfl) ?_
    refine SWl.ef (S := []) (Ef.callN [] (con_root_nil n) rfl ⟨(sees_le (Le.refl _)), (sees_le (Le.refl _)), trivial⟩ rfl) ?_
    rintro _ rfl
    refine SWl.rd rfl (Rd.move rfl) ?_
    refine SWl.rd rfl (Rd.extract rfl rfl) ?_
    refine SWl.rd rfl (Rd.extract rfl rfl) ?_
    refine SWl.rd rfl (Rd.assign rfl) ?_
    refine SWl.rd rfl (Rd.assign rfl) ?_
    refine SWl.nil ?_
    refine SN.then ?_
    refine SW.seq ?_
    refine SW.region ?_
    refine SWl.rd rfl (Rd.move rfl) ?_
    refine SWl.rd rfl (Rd.move rfl) ?_
    refine SWl.rd rfl (Rd.move rfl) ?_
    refine SWl.ef (S := []) (Ef.callN [] (con_inclusion_nil i n) rfl ⟨(sees_le (Le.refl _)), (sees_le (Le.refl _)), (sees_le (Le.refl _)), trivial⟩ rfl) ?_
    rintro _ rfl
    refine SWl.rd rfl (Rd.move rfl) ?_
    refine SWl.rd rfl (Rd.extract rfl rfl) ?_
    refine SWl.rd rfl (Rd.extract rfl rfl) ?_
    refine SWl.ef (S := []) (Ef.alloc (zs := [.slice none 0 0]) (by kernel_rfl) rfl) ?_
    rintro _ ⟨g14, rfl⟩
    refine SWl.ef (S := [_]) (Ef.storeA 3 rfl rfl rfl (by kernel_rfl) rfl (List.mem_singleton.2 rfl)) ?_
    rintro _ rfl
    refine SWl.rd rfl (Rd.assign rfl) ?_
    refine SWl.nil ?_
    refine SN.then ?_
    refine SW.seq ?_
    refine SW.region ?_
    refine SWl.rd rfl (Rd.move rfl) ?_
    refine SWl.rd rfl (Rd.move rfl) ?_
    refine SWl.rd rfl (Rd.move rfl) ?_
    refine SWl.ef (S := []) (Ef.callN [] (con_consistency_nil i n) rfl ⟨(sees_le (Le.refl _)), (sees_le (Le.refl _)), (sees_le (Le.refl _)), trivial⟩ rfl) ?_
    rintro _ rfl
    refine SWl.rd rfl (Rd.move rfl) ?_
    refine SWl.rd rfl (Rd.extract rfl rfl) ?_
    refine SWl.rd rfl (Rd.extract rfl rfl) ?_
    refine SWl.ef (S := []) (Ef.alloc (zs := [.slice none 0 0]) (by kernel_rfl) rfl) ?_
    rintro _ ⟨g16, rfl⟩
    refine SWl.ef (S := [_]) (Ef.storeA 4 rfl rfl rfl (by kernel_rfl) rfl (List.mem_singleton.2 rfl)) ?_
    rintro _ rfl
    refine SWl.rd rfl (Rd.assign rfl) ?_
    refine SWl.nil ?_
    refine SN.then ?_
    refine SW.seq ?_
    refine SW.region ?_
    refine SWl.rd rfl (Rd.move rfl) ?_
    refine SWl.ef (S := []) (Ef.callN [] (con_entries_nil) rfl ⟨(sees_le (Le.refl _)), trivial⟩ rfl) ?_
    rintro _ rfl
    refine SWl.rd rfl (Rd.assign rfl) ?_
    refine SWl.nil ?_
    refine SN.then ?_
    refine SW.seq ?_
    refine SW.seq ?_
    refine SW.sub (σ' := St.ob [(7, isD (.pointer none)), (9, iD 1), (11, iD 1), (12, bD []), (13, iD 1), (15, iD 1), (17, iD 1), (6, isD (.pointer (some ⟨g6, 0, none⟩))), (18, fnD 48 [paD [lsD encE []]])] [.c g6 [boolD false]]) (⟨⟨_, rfl, ⟨⟨_, rfl, Le.refl _⟩, ⟨⟨_, rfl, Le.refl _⟩, ⟨⟨_, rfl, Le.refl _⟩, ⟨⟨_, rfl, Le.refl _⟩, ⟨⟨_, rfl, Le.refl _⟩, ⟨⟨_, rfl, Le.refl _⟩, ⟨⟨_, rfl, Le.refl _⟩, ⟨⟨_, rfl, Le.refl _⟩, ⟨⟨_, rfl, Le.refl _⟩, trivial⟩⟩⟩⟩⟩⟩⟩⟩⟩⟩, [1], by decide, ⟨⟨_, rfl, LeAll.refl _⟩, trivial⟩⟩) ?_
    refine SW.region ?_
    refine SWl.rd rfl (Rd.move rfl) ?_
    refine SWl.rd rfl (Rd.eqFn rfl rfl (by kernel_rfl)) ?_
    refine SWl.nil ?_
    refine SN.then ?_
    refine SW.condF rfl (rfl) ?_
    refine SW.skip ?_
    refine SN.then ?_
    refine SW.seq ?_
    refine SW.seq ?_
    refine SW.region ?_
    refine SWl.rd rfl (Rd.move rfl) ?_
    refine SWl.nil ?_
    refine SN.then ?_
    refine SW.block ?_
    refine SW.rangeF (gf := 48) (ps := [61, 62]) (ib := ibE) (dd := ddE) (items := (itemsE [])) (fun i bx => bx = [.c g6 [boolD false]]) (fun o i bx => match o with | none => False | some n => False) (fun i x k σ => σ = St.ob [] []) entries_en (con_entries_seq [] (by simp) (by simp)) rfl (rfl) (by kernel_rfl) (fun _ _ => rfl) ?_ ?_ ?_ ?_ ?_
    · rintro i x k hx; simp [itemsE] at hx
    · rintro i x k hx; simp [itemsE] at hx
    · rintro dk0 bx rfl
      refine SN.block ?_
      refine SN.then ?_
      refine SW.seq ?_
      refine SW.sub (σ' := St.ob [(7, isD (.pointer none)), (9, iD 1), (11, iD 1), (12, bD []), (13, iD 1), (15, iD 1), (17, iD 1), (6, isD (.pointer (some ⟨g6, 0, none⟩)))] [.c g6 [boolD false], .r [dk0] dfR]) (⟨⟨_, rfl, ⟨⟨_, rfl, Le.refl _⟩, ⟨⟨_, rfl, Le.refl _⟩, ⟨⟨_, rfl, Le.refl _⟩, ⟨⟨_, rfl, Le.refl _⟩, ⟨⟨_, rfl, Le.refl _⟩, ⟨⟨_, rfl, Le.refl _⟩, ⟨⟨_, rfl, Le.refl _⟩, ⟨⟨_, rfl, Le.refl _⟩, trivial⟩⟩⟩⟩⟩⟩⟩⟩⟩, [0, 1], by decide, ⟨⟨_, rfl, LeAll.refl _⟩, ⟨⟨_, rfl, LeR.refl _⟩, trivial⟩⟩⟩) ?_
      refine SW.region ?_
      refine SWl.rd rfl (Rd.move rfl) ?_
      refine SWl.rd rfl (Rd.eqi rfl rfl) ?_
      refine SWl.rd rfl (Rd.move rfl) ?_
      refine SWl.rdg rfl rfl (by rfl) rfl rfl (Rd.move rfl) ?_
      refine SWl.rdg rfl rfl (by rfl) rfl rfl (Rd.eqi rfl rfl) ?_
      refine SWl.rd rfl (Rd.pickY rfl (by rfl) rfl) ?_
      refine SWl.rd rfl (Rd.move rfl) ?_
      refine SWl.rdg rfl rfl (by rfl) rfl rfl (Rd.move rfl) ?_
      refine SWl.rdg rfl rfl (by rfl) rfl rfl (Rd.eqi rfl rfl) ?_
      refine SWl.rd rfl (Rd.pickY rfl (by rfl) rfl) ?_
      refine SWl.rd rfl (Rd.move rfl) ?_
      refine SWl.rdg rfl rfl (by rfl) rfl rfl (Rd.move rfl) ?_
      refine SWl.rdg rfl rfl (by rfl) rfl rfl (Rd.eqi rfl rfl) ?_
      refine SWl.rd rfl (Rd.pickY rfl (by rfl) rfl) ?_
      refine SWl.rd rfl (Rd.move rfl) ?_
      refine SWl.rdg rfl rfl (by rfl) rfl rfl (Rd.move rfl) ?_
      refine SWl.rdg rfl rfl (by rfl) rfl rfl (Rd.eqi rfl rfl) ?_
      refine SWl.rd rfl (Rd.pickY rfl (by rfl) rfl) ?_
      refine SWl.rd rfl (Rd.move rfl) ?_
      refine SWl.rdg rfl rfl (by rfl) rfl rfl (Rd.move rfl) ?_
      refine SWl.rdg rfl rfl (by rfl) rfl rfl (Rd.len (e := 5) rfl (by kernel_rfl)) ?_
      refine SWl.rdg rfl rfl (by rfl) rfl rfl (Rd.eqi rfl rfl) ?_
      refine SWl.rd rfl (Rd.pickY rfl (by rfl) rfl) ?_
      refine SWl.rd rfl (Rd.move rfl) ?_
      refine SWl.rdg rfl rfl (by rfl) rfl rfl (Rd.move rfl) ?_
      refine SWl.efg (S := []) rfl rfl (by rfl) rfl (Ef.callN [] (con_len_nil) rfl ⟨(sees_le (Le.refl _)), trivial⟩ rfl) ?_
      rintro _ rfl
      refine SWl.rdg rfl rfl (by rfl) rfl rfl (Rd.eqi rfl rfl) ?_
      refine SWl.rd rfl (Rd.pickY rfl (by rfl) rfl) ?_
      refine SWl.rd rfl (Rd.move rfl) ?_
      refine SWl.rdg rfl rfl (by rfl) rfl rfl (Rd.move rfl) ?_
      refine SWl.efg (S := []) rfl rfl (by rfl) rfl (Ef.callN [] (con_encode_nil) rfl ⟨(sees_le (Le.refl _)), trivial⟩ rfl) ?_
      rintro _ rfl
      refine SWl.rdg rfl rfl (by rfl) rfl rfl (Rd.len (e := 5) rfl (by kernel_rfl)) ?_
      refine SWl.rdg rfl rfl (by rfl) rfl rfl (Rd.eqi rfl rfl) ?_
      refine SWl.rd rfl (Rd.pickY rfl (by rfl) rfl) ?_
      refine SWl.rd rfl (Rd.move rfl) ?_
      refine SWl.rdg rfl rfl (by rfl) rfl rfl (Rd.move rfl) ?_
      refine SWl.efg (S := []) rfl rfl (by rfl) rfl (Ef.callN [] (con_copy_nil) rfl ⟨(sees_le (Le.refl _)), trivial⟩ rfl) ?_
      rintro _ rfl
      refine SWl.rdg rfl rfl (by rfl) rfl rfl (Rd.eqP rfl rfl (by kernel_rfl)) ?_
      refine SWl.rd rfl (Rd.pickY rfl (by rfl) rfl) ?_
      refine SWl.rd rfl (Rd.move rfl) ?_
      refine SWl.efg (S := []) rfl rfl (rfl) rfl (Ef.callN [] (con_known43) rfl trivial rfl) ?_
      rintro _ rfl
      refine SWl.rd rfl (Rd.pickY rfl (rfl) rfl) ?_
      refine SWl.ef (S := [_]) (Ef.storeV 0 rfl rfl rfl (by kernel_rfl) rfl (List.mem_singleton.2 rfl)) ?_
      rintro _ rfl
      refine SWl.nil ?_
      refine SN.then ?_
      refine SW.retM (fn := Tryd.f7) (fun _ _ h => h) ?_
      refine RM.mark 1 rfl ?_
      refine RM.fin ?_
      refine Rs.le (Rs.one rfl (ResV.cellV 0 rfl rfl (by kernel_rfl) rfl)) ?_
      exact le_bool_n rfl
    · rintro _ _ _ _ hX; exact hX.elim
    · rintro _ _ _ hX; exact hX.elim
end Sx
end Go.Proofs.YtonjpfpdpfonnaaDoor
