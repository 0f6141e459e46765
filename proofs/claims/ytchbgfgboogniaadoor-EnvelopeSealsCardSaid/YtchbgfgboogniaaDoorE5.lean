/-
  ENVELOPES: the reference's Seal, Decode.
-/
import Derived.Test.YtchbgfgboogniaaDoorGJ
namespace Go.Proofs.YtchbgfgboogniaaDoor
open Go.RowKit
namespace Sx
set_option maxHeartbeats 4000000 in
set_option maxRecDepth 100000 in
theorem con_sealER (l : List Acc.T) (nm : List UInt8) (rnd ser : Int) (key nonce bid : List UInt8) (hf : Acc.Fine l) (hb : bid.length ≤ 1000000) : Con Tryd.prog 32 [aggD [lsD encA l], strD nm, iD rnd, iD ser, bD key, bD nonce, bD bid] (tupD [aggD (encEn (Env.slT l nm rnd ser key nonce bid)), iD (Env.slE l nm rnd ser key.length nonce.length bid.length)]) := by
  refine con_of Tryd.func32 (by kernel_rfl) rfl (by kernel_rfl) fun base w0 => ?_
  refine SW.seq ?_
  refine SW.region ?_
  refine SWl.ef (S := []) (Ef.boxA rfl rfl) ?_
  rintro _ ⟨g7, rfl⟩
  refine SWl.ef (S := []) (Ef.alloc (zs := [.string ⟨#[]⟩, .int .i64 0, .int .i64 0, .slice none 0 0, .slice none 0 0]) (by kernel_rfl) rfl) ?_
  rintro _ ⟨g14, rfl⟩
  refine SWl.rd rfl (Rd.assign rfl) ?_
  refine SWl.nil ?_
  refine SN.then ?_
  refine SW.seq ?_
  refine SW.seq ?_
  refine SW.region ?_
  refine SWl.rd rfl (Rd.move rfl) ?_
  refine SWl.rd rfl (Rd.lss rfl rfl) ?_
  refine SWl.rd rfl (Rd.move rfl) ?_
  refine SWl.split 21 rfl (fun hb21 => ?_) (fun hb21 => ?_)
  · have h21 := of_decide_eq_true hb21
    refine SWl.off rfl rfl (hb21) rfl rfl ?_
    refine SWl.off rfl rfl (hb21) rfl rfl ?_
    refine SWl.rd rfl (Rd.pickY rfl (hb21) rfl) ?_
    refine SWl.rd rfl (Rd.move rfl) ?_
    refine SWl.off rfl rfl (rfl) rfl rfl ?_
    refine SWl.off rfl rfl (rfl) rfl rfl ?_
    refine SWl.rd rfl (Rd.pickY rfl (rfl) rfl) ?_
    refine SWl.rd rfl (Rd.move rfl) ?_
    refine SWl.off rfl rfl (rfl) rfl rfl ?_
    refine SWl.off rfl rfl (rfl) rfl rfl ?_
    refine SWl.rd rfl (Rd.pickY rfl (rfl) rfl) ?_
    refine SWl.rd rfl (Rd.move rfl) ?_
    refine SWl.off rfl rfl (rfl) rfl rfl ?_
    refine SWl.off rfl rfl (rfl) rfl rfl ?_
    refine SWl.off rfl rfl (rfl) rfl rfl ?_
    refine SWl.rd rfl (Rd.pickY rfl (rfl) rfl) ?_
    refine SWl.rd rfl (Rd.move rfl) ?_
    refine SWl.off rfl rfl (rfl) rfl rfl ?_
    refine SWl.off rfl rfl (rfl) rfl rfl ?_
    refine SWl.off rfl rfl (rfl) rfl rfl ?_
    refine SWl.rd rfl (Rd.pickY rfl (rfl) rfl) ?_
    refine SWl.nil ?_
    refine SN.then ?_
    refine SW.condT rfl (rfl) ?_
    refine SW.seq ?_
    refine SW.region ?_
    refine SWl.rd rfl (Rd.build rfl rfl bldEn0) ?_
    refine SWl.ef (S := [_]) (Ef.storeA 1 rfl rfl rfl (by kernel_rfl) rfl (List.mem_singleton.2 rfl)) ?_
    rintro _ rfl
    refine SWl.rd rfl (Rd.assign rfl) ?_
    refine SWl.nil ?_
    refine SN.then ?_
    refine SW.ret (fn := Tryd.f32) (fun _ _ h => h) (Rs.le (Rs.two rfl (ResV.cellA 1 rfl rfl (by kernel_rfl)) (ResV.tmp rfl)) ?_)
    exact Le.tup ⟨by rw [(sl_arg (l := l) (nm := nm) (bid := bid) (by omega)).2]; exact Le.agg le_enz, Le.is (by rw [(sl_arg (by omega)).1]), trivial⟩
  · have h21 := of_decide_eq_false hb21
    refine SWl.rdg rfl rfl (hb21) rfl rfl (Rd.move rfl) ?_
    refine SWl.rdg rfl rfl (hb21) rfl rfl (Rd.gtr rfl rfl) ?_
    refine SWl.rd rfl (Rd.pickN rfl (hb21) rfl) ?_
    refine SWl.rd rfl (Rd.move rfl) ?_
    refine SWl.split 25 rfl (fun hb25 => ?_) (fun hb25 => ?_)
    · have h25 := of_decide_eq_true hb25
      refine SWl.off rfl rfl (hb25) rfl rfl ?_
      refine SWl.off rfl rfl (hb25) rfl rfl ?_
      refine SWl.rd rfl (Rd.pickY rfl (hb25) rfl) ?_
      refine SWl.rd rfl (Rd.move rfl) ?_
      refine SWl.off rfl rfl (rfl) rfl rfl ?_
      refine SWl.off rfl rfl (rfl) rfl rfl ?_
      refine SWl.rd rfl (Rd.pickY rfl (rfl) rfl) ?_
      refine SWl.rd rfl (Rd.move rfl) ?_
      refine SWl.off rfl rfl (rfl) rfl rfl ?_
      refine SWl.off rfl rfl (rfl) rfl rfl ?_
      refine SWl.off rfl rfl (rfl) rfl rfl ?_
      refine SWl.rd rfl (Rd.pickY rfl (rfl) rfl) ?_
      refine SWl.rd rfl (Rd.move rfl) ?_
      refine SWl.off rfl rfl (rfl) rfl rfl ?_
      refine SWl.off rfl rfl (rfl) rfl rfl ?_
      refine SWl.off rfl rfl (rfl) rfl rfl ?_
      refine SWl.rd rfl (Rd.pickY rfl (rfl) rfl) ?_
      refine SWl.nil ?_
      refine SN.then ?_
      refine SW.condT rfl (rfl) ?_
      refine SW.seq ?_
      refine SW.region ?_
      refine SWl.rd rfl (Rd.build rfl rfl bldEn0) ?_
      refine SWl.ef (S := [_]) (Ef.storeA 1 rfl rfl rfl (by kernel_rfl) rfl (List.mem_singleton.2 rfl)) ?_
      rintro _ rfl
      refine SWl.rd rfl (Rd.assign rfl) ?_
      refine SWl.nil ?_
      refine SN.then ?_
      refine SW.ret (fn := Tryd.f32) (fun _ _ h => h) (Rs.le (Rs.two rfl (ResV.cellA 1 rfl rfl (by kernel_rfl)) (ResV.tmp rfl)) ?_)
      exact Le.tup ⟨by rw [(sl_arg (l := l) (nm := nm) (bid := bid) (by omega)).2]; exact Le.agg le_enz, Le.is (by rw [(sl_arg (by omega)).1]), trivial⟩
    · have h25 := of_decide_eq_false hb25
      refine SWl.rdg rfl rfl (hb25) rfl rfl (Rd.move rfl) ?_
      refine SWl.rdg rfl rfl (hb25) rfl rfl (Rd.lss rfl rfl) ?_
      refine SWl.rd rfl (Rd.pickN rfl (hb25) rfl) ?_
      refine SWl.rd rfl (Rd.move rfl) ?_
      refine SWl.split 29 rfl (fun hb29 => ?_) (fun hb29 => ?_)
      · have h29 := of_decide_eq_true hb29
        refine SWl.off rfl rfl (hb29) rfl rfl ?_
        refine SWl.off rfl rfl (hb29) rfl rfl ?_
        refine SWl.rd rfl (Rd.pickY rfl (hb29) rfl) ?_
        refine SWl.rd rfl (Rd.move rfl) ?_
        refine SWl.off rfl rfl (rfl) rfl rfl ?_
        refine SWl.off rfl rfl (rfl) rfl rfl ?_
        refine SWl.off rfl rfl (rfl) rfl rfl ?_
        refine SWl.rd rfl (Rd.pickY rfl (rfl) rfl) ?_
        refine SWl.rd rfl (Rd.move rfl) ?_
        refine SWl.off rfl rfl (rfl) rfl rfl ?_
        refine SWl.off rfl rfl (rfl) rfl rfl ?_
        refine SWl.off rfl rfl (rfl) rfl rfl ?_
        refine SWl.rd rfl (Rd.pickY rfl (rfl) rfl) ?_
        refine SWl.nil ?_
        refine SN.then ?_
        refine SW.condT rfl (rfl) ?_
        refine SW.seq ?_
        refine SW.region ?_
        refine SWl.rd rfl (Rd.build rfl rfl bldEn0) ?_
        refine SWl.ef (S := [_]) (Ef.storeA 1 rfl rfl rfl (by kernel_rfl) rfl (List.mem_singleton.2 rfl)) ?_
        rintro _ rfl
        refine SWl.rd rfl (Rd.assign rfl) ?_
        refine SWl.nil ?_
        refine SN.then ?_
        refine SW.ret (fn := Tryd.f32) (fun _ _ h => h) (Rs.le (Rs.two rfl (ResV.cellA 1 rfl rfl (by kernel_rfl)) (ResV.tmp rfl)) ?_)
        exact Le.tup ⟨by rw [(sl_arg (l := l) (nm := nm) (bid := bid) (by omega)).2]; exact Le.agg le_enz, Le.is (by rw [(sl_arg (by omega)).1]), trivial⟩
      · have h29 := of_decide_eq_false hb29
        refine SWl.rdg rfl rfl (hb29) rfl rfl (Rd.move rfl) ?_
        refine SWl.rdg rfl rfl (hb29) rfl rfl (Rd.gtr rfl rfl) ?_
        refine SWl.rd rfl (Rd.pickN rfl (hb29) rfl) ?_
        refine SWl.rd rfl (Rd.move rfl) ?_
        refine SWl.split 33 rfl (fun hb33 => ?_) (fun hb33 => ?_)
        · have h33 := of_decide_eq_true hb33
          refine SWl.off rfl rfl (hb33) rfl rfl ?_
          refine SWl.off rfl rfl (hb33) rfl rfl ?_
          refine SWl.off rfl rfl (hb33) rfl rfl ?_
          refine SWl.rd rfl (Rd.pickY rfl (hb33) rfl) ?_
          refine SWl.rd rfl (Rd.move rfl) ?_
          refine SWl.off rfl rfl (rfl) rfl rfl ?_
          refine SWl.off rfl rfl (rfl) rfl rfl ?_
          refine SWl.off rfl rfl (rfl) rfl rfl ?_
          refine SWl.rd rfl (Rd.pickY rfl (rfl) rfl) ?_
          refine SWl.nil ?_
          refine SN.then ?_
          refine SW.condT rfl (rfl) ?_
          refine SW.seq ?_
          refine SW.region ?_
          refine SWl.rd rfl (Rd.build rfl rfl bldEn0) ?_
          refine SWl.ef (S := [_]) (Ef.storeA 1 rfl rfl rfl (by kernel_rfl) rfl (List.mem_singleton.2 rfl)) ?_
          rintro _ rfl
          refine SWl.rd rfl (Rd.assign rfl) ?_
          refine SWl.nil ?_
          refine SN.then ?_
          refine SW.ret (fn := Tryd.f32) (fun _ _ h => h) (Rs.le (Rs.two rfl (ResV.cellA 1 rfl rfl (by kernel_rfl)) (ResV.tmp rfl)) ?_)
          exact Le.tup ⟨by rw [(sl_arg (l := l) (nm := nm) (bid := bid) (by omega)).2]; exact Le.agg le_enz, Le.is (by rw [(sl_arg (by omega)).1]), trivial⟩
        · have h33 := of_decide_eq_false hb33
          refine SWl.rdg rfl rfl (hb33) rfl rfl (Rd.move rfl) ?_
          refine SWl.rdg rfl rfl (hb33) rfl rfl (Rd.len (e := 5) rfl (by kernel_rfl)) ?_
          refine SWl.rdg rfl rfl (hb33) rfl rfl (Rd.nei rfl rfl) ?_
          refine SWl.rd rfl (Rd.pickN rfl (hb33) rfl) ?_
          refine SWl.rd rfl (Rd.move rfl) ?_
          refine SWl.split 38 rfl (fun hb38 => ?_) (fun hb38 => ?_)
          · have h38 : ¬ key.length = 32 := by (simp at hb38; omega)
            refine SWl.off rfl rfl (hb38) rfl rfl ?_
            refine SWl.off rfl rfl (hb38) rfl rfl ?_
            refine SWl.off rfl rfl (hb38) rfl rfl ?_
            refine SWl.rd rfl (Rd.pickY rfl (hb38) rfl) ?_
            refine SWl.nil ?_
            refine SN.then ?_
            refine SW.condT rfl (rfl) ?_
            refine SW.seq ?_
            refine SW.region ?_
            refine SWl.rd rfl (Rd.build rfl rfl bldEn0) ?_
            refine SWl.ef (S := [_]) (Ef.storeA 1 rfl rfl rfl (by kernel_rfl) rfl (List.mem_singleton.2 rfl)) ?_
            rintro _ rfl
            refine SWl.rd rfl (Rd.assign rfl) ?_
            refine SWl.nil ?_
            refine SN.then ?_
            refine SW.ret (fn := Tryd.f32) (fun _ _ h => h) (Rs.le (Rs.two rfl (ResV.cellA 1 rfl rfl (by kernel_rfl)) (ResV.tmp rfl)) ?_)
            exact Le.tup ⟨by rw [(sl_arg (l := l) (nm := nm) (bid := bid) (by omega)).2]; exact Le.agg le_enz, Le.is (by rw [(sl_arg (by omega)).1]), trivial⟩
          · have h38 : key.length = 32 := by (simp at hb38; omega)
            refine SWl.rdg rfl rfl (hb38) rfl rfl (Rd.move rfl) ?_
            refine SWl.rdg rfl rfl (hb38) rfl rfl (Rd.len (e := 5) rfl (by kernel_rfl)) ?_
            refine SWl.rdg rfl rfl (hb38) rfl rfl (Rd.nei rfl rfl) ?_
            refine SWl.rd rfl (Rd.pickN rfl (hb38) rfl) ?_
            refine SWl.nil ?_
            refine SN.then ?_
            refine SW.cond rfl (fun hb42 => ?_) (fun hb42 => ?_)
            · have h42 : ¬ nonce.length = 16 := by (simp at hb42; omega)
              refine SW.seq ?_
              refine SW.region ?_
              refine SWl.rd rfl (Rd.build rfl rfl bldEn0) ?_
              refine SWl.ef (S := [_]) (Ef.storeA 1 rfl rfl rfl (by kernel_rfl) rfl (List.mem_singleton.2 rfl)) ?_
              rintro _ rfl
              refine SWl.rd rfl (Rd.assign rfl) ?_
              refine SWl.nil ?_
              refine SN.then ?_
              refine SW.ret (fn := Tryd.f32) (fun _ _ h => h) (Rs.le (Rs.two rfl (ResV.cellA 1 rfl rfl (by kernel_rfl)) (ResV.tmp rfl)) ?_)
              exact Le.tup ⟨by rw [(sl_arg (l := l) (nm := nm) (bid := bid) (by omega)).2]; exact Le.agg le_enz, Le.is (by rw [(sl_arg (by omega)).1]), trivial⟩
            · have h42 : nonce.length = 16 := by (simp at hb42; omega)
              refine SW.skip ?_
              refine SN.then ?_
              refine SW.seq ?_
              refine SW.seq ?_
              have hp : (0 ≤ rnd ∧ rnd ≤ 1048576) ∧ (0 ≤ ser ∧ ser ≤ 1073741824) ∧ key.length = 32 ∧ nonce.length = 16 := by omega
              refine SW.sub (σ' := St.ob [(1, strD nm), (2, iD rnd), (3, iD ser), (4, bD key), (5, bD nonce), (6, bD bid), (7, isD (.pointer (some ⟨g7, 0, none⟩))), (14, isD (.pointer (some ⟨g14, 0, none⟩)))] [.c g7 [lsD encA l], .c g14 [strD [], iD 0, iD 0, isD (.slice none 0 0), isD (.slice none 0 0)]]) (⟨⟨_, rfl, ⟨⟨_, rfl, Le.refl _⟩, ⟨⟨_, rfl, Le.refl _⟩, ⟨⟨_, rfl, Le.refl _⟩, ⟨⟨_, rfl, Le.refl _⟩, ⟨⟨_, rfl, Le.refl _⟩, ⟨⟨_, rfl, Le.refl _⟩, ⟨⟨_, rfl, Le.refl _⟩, ⟨⟨_, rfl, Le.refl _⟩, trivial⟩⟩⟩⟩⟩⟩⟩⟩⟩, [0, 1], by decide, ⟨⟨_, rfl, LeAll.refl _⟩, ⟨⟨_, rfl, LeAll.refl _⟩, trivial⟩⟩⟩) ?_
              refine SW.region ?_
              refine SWl.rd rfl (Rd.move rfl) ?_
              refine SWl.rd rfl (Rd.len (e := 5) rfl (by kernel_rfl)) ?_
              refine SWl.rd rfl (Rd.gtr rfl rfl) ?_
              refine SWl.nil ?_
              refine SN.then ?_
              refine SW.cond rfl (fun hb46 => ?_) (fun hb46 => ?_)
              · have h46 : 4096 < bid.length := by (have h := of_decide_eq_true hb46; rw [cellsOf_length] at h; omega)
                refine SW.seq ?_
                refine SW.region ?_
                refine SWl.rd rfl (Rd.build rfl rfl bldEn0) ?_
                refine SWl.ef (S := [_]) (Ef.storeA 1 rfl rfl rfl (by kernel_rfl) rfl (List.mem_singleton.2 rfl)) ?_
                rintro _ rfl
                refine SWl.rd rfl (Rd.assign rfl) ?_
                refine SWl.nil ?_
                refine SN.then ?_
                refine SW.ret (fn := Tryd.f32) (fun _ _ h => h) (Rs.le (Rs.two rfl (ResV.cellA 1 rfl rfl (by kernel_rfl)) (ResV.tmp rfl)) ?_)
                exact Le.tup ⟨by rw [(sl_long hp h46).2]; exact Le.agg le_enz, Le.is (by rw [(sl_long hp h46).1]), trivial⟩
              · have h46 : ¬ 4096 < bid.length := (by have h := of_decide_eq_false hb46; rw [cellsOf_length] at h; omega); have hpe : Env.preE rnd ser key.length nonce.length bid.length = 0 := Env.pre_of hp.1 hp.2.1 hp.2.2.1 hp.2.2.2 (by omega)
                refine SW.skip ?_
                refine SN.then ?_
                refine SW.seq ?_
                refine SW.seq ?_
                rcases Acc.at_cases l nm with ⟨he, hx⟩ | ⟨i, x, he, hi, hx⟩
                · skip
                  refine SW.sub (σ' := St.ob [(1, strD nm), (2, iD rnd), (3, iD ser), (4, bD key), (5, bD nonce), (6, bD bid), (7, isD (.pointer (some ⟨g7, 0, none⟩))), (14, isD (.pointer (some ⟨g14, 0, none⟩)))] [.c g7 [lsD encA l], .c g14 [strD [], iD 0, iD 0, isD (.slice none 0 0), isD (.slice none 0 0)]]) (⟨⟨_, rfl, ⟨⟨_, rfl, Le.refl _⟩, ⟨⟨_, rfl, Le.refl _⟩, ⟨⟨_, rfl, Le.refl _⟩, ⟨⟨_, rfl, Le.refl _⟩, ⟨⟨_, rfl, Le.refl _⟩, ⟨⟨_, rfl, Le.refl _⟩, ⟨⟨_, rfl, Le.refl _⟩, ⟨⟨_, rfl, Le.refl _⟩, trivial⟩⟩⟩⟩⟩⟩⟩⟩⟩, [0, 1], by decide, ⟨⟨_, rfl, LeAll.refl _⟩, ⟨⟨_, rfl, LeAll.refl _⟩, trivial⟩⟩⟩) ?_
                  refine SW.region ?_
                  refine SWl.rd rfl (Rd.loadA 0 1 rfl rfl (by kernel_rfl) rfl ap_nil) ?_
                  refine SWl.rd rfl (Rd.move rfl) ?_
                  refine SWl.ef (S := []) (Ef.callN [] (con_AtR l nm (by have := hf.len; omega)) rfl ⟨(sees_agg ⟨(sees_le (Le.refl _)), trivial⟩), (sees_le (Le.refl _)), trivial⟩ rfl) ?_
                  rintro _ rfl
                  refine SWl.rd rfl (Rd.lss rfl rfl) ?_
                  refine SWl.nil ?_
                  refine SN.then ?_
                  refine SW.condT rfl (by rw [he]; decide) ?_
                  refine SW.seq ?_
                  refine SW.region ?_
                  refine SWl.rd rfl (Rd.build rfl rfl bldEn0) ?_
                  refine SWl.ef (S := [_]) (Ef.storeA 1 rfl rfl rfl (by kernel_rfl) rfl (List.mem_singleton.2 rfl)) ?_
                  rintro _ rfl
                  refine SWl.rd rfl (Rd.assign rfl) ?_
                  refine SWl.nil ?_
                  refine SN.then ?_
                  refine SW.ret (fn := Tryd.f32) (fun _ _ h => h) (Rs.le (Rs.two rfl (ResV.cellA 1 rfl rfl (by kernel_rfl)) (ResV.tmp rfl)) ?_)
                  exact Le.tup ⟨by rw [(sl_none hpe hx).2]; exact Le.agg le_enz, Le.is (by rw [(sl_none hpe hx).1]), trivial⟩
                · obtain ⟨z1, z2, z3⟩ := sl_len (rnd := rnd) (ser := ser) (key := key) (nonce := nonce) (bid := bid) hf hpe hx; obtain ⟨t1, t2⟩ := Acc.tag_yes hx (q := (Env.sgn nm rnd ser (Env.boxB key nm nonce bid))) (by omega)
                  refine SW.sub (σ' := St.ob [(1, strD nm), (2, iD rnd), (3, iD ser), (4, bD key), (5, bD nonce), (6, bD bid), (7, isD (.pointer (some ⟨g7, 0, none⟩))), (14, isD (.pointer (some ⟨g14, 0, none⟩)))] [.c g7 [lsD encA l], .c g14 [strD [], iD 0, iD 0, isD (.slice none 0 0), isD (.slice none 0 0)]]) (⟨⟨_, rfl, ⟨⟨_, rfl, Le.refl _⟩, ⟨⟨_, rfl, Le.refl _⟩, ⟨⟨_, rfl, Le.refl _⟩, ⟨⟨_, rfl, Le.refl _⟩, ⟨⟨_, rfl, Le.refl _⟩, ⟨⟨_, rfl, Le.refl _⟩, ⟨⟨_, rfl, Le.refl _⟩, ⟨⟨_, rfl, Le.refl _⟩, trivial⟩⟩⟩⟩⟩⟩⟩⟩⟩, [0, 1], by decide, ⟨⟨_, rfl, LeAll.refl _⟩, ⟨⟨_, rfl, LeAll.refl _⟩, trivial⟩⟩⟩) ?_
                  refine SW.region ?_
                  refine SWl.rd rfl (Rd.loadA 0 1 rfl rfl (by kernel_rfl) rfl ap_nil) ?_
                  refine SWl.rd rfl (Rd.move rfl) ?_
                  refine SWl.ef (S := []) (Ef.callN [] (con_AtR l nm (by have := hf.len; omega)) rfl ⟨(sees_agg ⟨(sees_le (Le.refl _)), trivial⟩), (sees_le (Le.refl _)), trivial⟩ rfl) ?_
                  rintro _ rfl
                  refine SWl.rd rfl (Rd.lss rfl rfl) ?_
                  refine SWl.nil ?_
                  refine SN.then ?_
                  refine SW.condF rfl (by rw [he]; simp) ?_
                  refine SW.skip ?_
                  refine SN.then ?_
                  refine SW.seq ?_
                  refine SW.region ?_
                  refine SWl.rd rfl (Rd.move rfl) ?_
                  refine SWl.rd rfl (Rd.move rfl) ?_
                  refine SWl.rd rfl (Rd.move rfl) ?_
                  refine SWl.rd rfl (Rd.move rfl) ?_
                  refine SWl.rd rfl (Rd.move rfl) ?_
                  refine SWl.rd rfl (Rd.move rfl) ?_
                  refine SWl.rd rfl (Rd.move rfl) ?_
                  refine SWl.ef (S := []) (Ef.call (con_sealedR nm key nonce bid z1 (by omega) (by omega) (by omega)) rfl ⟨Le.refl _, Le.refl _, Le.refl _, Le.refl _, trivial⟩ rfl) ?_
                  rintro _ rfl
                  refine SWl.rd rfl (Rd.build rfl rfl bldEn4) ?_
                  refine SWl.ef (S := []) (Ef.alloc (zs := [.string ⟨#[]⟩, .int .i64 0, .int .i64 0, .slice none 0 0, .slice none 0 0]) (by kernel_rfl) rfl) ?_
                  rintro _ ⟨g16, rfl⟩
                  refine SWl.ef (S := [_]) (Ef.storeA 2 rfl rfl rfl (by kernel_rfl) rfl (List.mem_singleton.2 rfl)) ?_
                  rintro _ rfl
                  refine SWl.nil ?_
                  refine SN.then ?_
                  refine SW.seq ?_
                  refine SW.sub (σ' := St.ob [(1, strD nm), (2, iD rnd), (3, iD ser), (7, isD (.pointer (some ⟨g7, 0, none⟩))), (14, isD (.pointer (some ⟨g14, 0, none⟩))), (16, isD (.pointer (some ⟨g16, 0, none⟩)))] [.c g7 [lsD encA l], .c g14 [strD [], iD 0, iD 0, isD (.slice none 0 0), isD (.slice none 0 0)], .c g16 [strD nm, iD rnd, iD ser, bD (Env.boxB key nm nonce bid), isD (.slice none 0 0)]]) (⟨⟨_, rfl, ⟨⟨_, rfl, Le.refl _⟩, ⟨⟨_, rfl, Le.refl _⟩, ⟨⟨_, rfl, Le.refl _⟩, ⟨⟨_, rfl, Le.refl _⟩, ⟨⟨_, rfl, Le.refl _⟩, ⟨⟨_, rfl, Le.refl _⟩, trivial⟩⟩⟩⟩⟩⟩⟩, [0, 1, 2], by decide, ⟨⟨_, rfl, LeAll.refl _⟩, ⟨⟨_, rfl, LeAll.refl _⟩, ⟨⟨_, rfl, LeAll.refl _⟩, trivial⟩⟩⟩⟩) ?_
                  refine SW.draw [] (.r 0 (.r 1 (.r 2 (.n 3 (.n 4 (.r 5 (.r 6 (.r 7 (.r 8 (.r 9 .fin))))) .no) .no)))) (by kernel_rfl) (by kernel_rfl) (fun d _ _ _ _ h => by cases d <;> exact h) ?_
                  refine SWz.rd (i := 0) rfl rfl (Rd.loadA 0 1 rfl rfl (by kernel_rfl) rfl ap_nil) ?_
                  refine SWz.rd (i := 1) rfl rfl (Rd.move rfl) ?_
                  refine SWz.rd (i := 2) rfl rfl (Rd.loadA 2 5 rfl rfl (by kernel_rfl) rfl ap_nil) ?_
                  refine SWz.efl (i := 3) rfl (EfL.callR (con_signedR (⟨nm, rnd, ser, (Env.boxB key nm nonce bid), []⟩ : Env.T) (by show nm.length ≤ 1000; omega) hp.1 hp.2.1 (by show (Env.boxB key nm nonce bid).length ≤ 10000; omega)) rfl ⟨Le.agg ⟨Le.refl _, Le.refl _, Le.refl _, Le.refl _, Le.nil_sl, trivial⟩, trivial⟩ rfl) ?_ SWz.no
                  rintro _ _ ⟨s66, rfl, rfl⟩
                  refine SWz.efn (i := 4) rfl (Ef.callN [3] (con_tagR l nm (Env.sgn nm rnd ser (Env.boxB key nm nonce bid)) hf (by omega)) rfl ⟨(sees_agg ⟨(sees_le (Le.refl _)), trivial⟩), (sees_le (Le.refl _)), (sees_vecB 3 rfl (by decide)), trivial⟩ rfl) ?_ SWz.no
                  rintro _ rfl
                  refine SWz.rd (i := 5) rfl rfl (Rd.move rfl) ?_
                  refine SWz.rd (i := 6) rfl rfl (Rd.extract rfl rfl) ?_
                  refine SWz.rd (i := 7) rfl rfl (Rd.extract rfl rfl) ?_
                  refine SWz.rd (i := 8) rfl rfl (Rd.assign rfl) ?_
                  refine SWz.rd (i := 9) rfl rfl (Rd.assign rfl) ?_
                  refine SWz.nil ?_
                  refine SN.then ?_
                  refine SW.seq ?_
                  refine SW.sub (σ' := St.ob [(1, strD nm), (2, iD rnd), (3, iD ser), (7, isD (.pointer (some ⟨g7, 0, none⟩))), (14, isD (.pointer (some ⟨g14, 0, none⟩))), (16, isD (.pointer (some ⟨g16, 0, none⟩))), (17, strD (Acc.tagT l nm (Env.sgn nm rnd ser (Env.boxB key nm nonce bid))))] [.c g7 [lsD encA l], .c g14 [strD [], iD 0, iD 0, isD (.slice none 0 0), isD (.slice none 0 0)], .c g16 [strD nm, iD rnd, iD ser, bD (Env.boxB key nm nonce bid), isD (.slice none 0 0)]]) (⟨⟨_, rfl, ⟨⟨_, rfl, Le.refl _⟩, ⟨⟨_, rfl, Le.refl _⟩, ⟨⟨_, rfl, Le.refl _⟩, ⟨⟨_, rfl, Le.refl _⟩, ⟨⟨_, rfl, Le.refl _⟩, ⟨⟨_, rfl, Le.refl _⟩, ⟨⟨_, rfl, Le.refl _⟩, trivial⟩⟩⟩⟩⟩⟩⟩⟩, [0, 1, 2], by decide, ⟨⟨_, rfl, LeAll.refl _⟩, ⟨⟨_, rfl, LeAll.refl _⟩, ⟨⟨_, rfl, LeAll.refl _⟩, trivial⟩⟩⟩⟩) ?_
                  refine SW.region ?_
                  refine SWl.rd rfl (Rd.move rfl) ?_
                  refine SWl.ef (S := []) (Ef.bytes (e := 5) rfl (by kernel_rfl) (by kernel_rfl) (by kernel_rfl) rfl) ?_
                  rintro _ rfl
                  refine SWl.rd rfl (Rd.fieldAddr (n := 4) rfl (by kernel_rfl)) ?_
                  refine SWl.ef (S := [_]) (Ef.storeV 2 rfl rfl rfl (by kernel_rfl) rfl (List.mem_singleton.2 rfl)) ?_
                  rintro _ rfl
                  refine SWl.nil ?_
                  refine SN.then ?_
                  refine SW.seq ?_
                  refine SW.sub (σ' := St.ob [(14, isD (.pointer (some ⟨g14, 0, none⟩))), (16, isD (.pointer (some ⟨g16, 0, none⟩)))] [.c g14 [strD [], iD 0, iD 0, isD (.slice none 0 0), isD (.slice none 0 0)], .c g16 [strD nm, iD rnd, iD ser, bD (Env.boxB key nm nonce bid), bD (Acc.tagT l nm (Env.sgn nm rnd ser (Env.boxB key nm nonce bid)))]]) (⟨⟨_, rfl, ⟨⟨_, rfl, Le.refl _⟩, ⟨⟨_, rfl, Le.refl _⟩, trivial⟩⟩⟩, [1, 2], by decide, ⟨⟨_, rfl, LeAll.refl _⟩, ⟨⟨_, rfl, ⟨Le.refl _, Le.refl _, Le.refl _, Le.refl _, le_nw, trivial⟩⟩, trivial⟩⟩⟩) ?_
                  refine SW.region ?_
                  refine SWl.rd rfl (Rd.loadA 1 5 rfl rfl (by kernel_rfl) rfl ap_nil) ?_
                  refine SWl.ef (S := [_]) (Ef.storeA 0 rfl rfl rfl (by kernel_rfl) rfl (List.mem_singleton.2 rfl)) ?_
                  rintro _ rfl
                  refine SWl.rd rfl (Rd.assign rfl) ?_
                  refine SWl.nil ?_
                  refine SN.then ?_
                  refine SW.ret (fn := Tryd.f32) (fun _ _ h => h) (Rs.le (Rs.two rfl (ResV.cellA 0 rfl rfl (by kernel_rfl)) (ResV.tmp rfl)) ?_)
                  exact Le.tup ⟨by rw [(sl_ok hpe hx).2]; exact Le.refl _, Le.is (by rw [(sl_ok hpe hx).1]), trivial⟩
end Sx
end Go.Proofs.YtchbgfgboogniaaDoor
