/-
  LEDGERS: Include.
-/
import Derived.Test.YtonjpfpdpfonnaaDoorL27
namespace Go.Proofs.YtonjpfpdpfonnaaDoor
open Go.RowKit
namespace Sx
set_option maxHeartbeats 4000000 in
set_option maxRecDepth 100000 in
theorem con_include_bad (root : List UInt8) (n i : Int) (e : Led.Ent) (p : List (List UInt8)) (hp : p.length ≤ 1000000) (h : ∃ d ∈ p, d.length ≠ 32) : ConN Tryd.prog 31 [bD root, iD n, iD i, aggD [iD e.kind, bD e.bytes], aggD [lsD encL p]] (iD (incOut root n i e p)) := by
  refine con_ofN Tryd.func31 (by kernel_rfl) rfl (by kernel_rfl) fun base w0 => ?_
  refine SW.seq ?_
  refine SW.region ?_
  refine SWl.ef (S := []) (Ef.boxA rfl rfl) ?_
  rintro _ ⟨g8, rfl⟩
  refine SWl.ef (S := []) (Ef.boxA rfl rfl) ?_
  rintro _ ⟨g9, rfl⟩
  refine SWl.rd rfl (Rd.assign rfl) ?_
  refine SWl.nil ?_
  refine SN.then ?_
  refine SW.seq ?_
  refine SW.region ?_
  refine SWl.rd rfl (Rd.loadA 1 1 rfl rfl (by kernel_rfl) rfl ap_nil) ?_
  refine SWl.ef (S := []) (Ef.call (con_digests p hp none h) rfl ⟨Le.refl _, trivial⟩ rfl) ?_
  rintro _ rfl
  refine SWl.rd rfl (Rd.move rfl) ?_
  refine SWl.rd rfl (Rd.extract rfl rfl) ?_
  refine SWl.rd rfl (Rd.extract rfl rfl) ?_
  refine SWl.rd rfl (Rd.assign rfl) ?_
  refine SWl.rd rfl (Rd.assign rfl) ?_
  refine SWl.nil ?_
  refine SN.then ?_
  refine SW.seq ?_
  refine SW.seq ?_
  refine SW.region ?_
  refine SWl.rd rfl (Rd.move rfl) ?_
  refine SWl.rd rfl (Rd.not rfl) ?_
  refine SWl.rd rfl (Rd.move rfl) ?_
  refine SWl.off rfl rfl (by rfl) rfl rfl ?_
  refine SWl.off rfl rfl (by rfl) rfl rfl ?_
  refine SWl.off rfl rfl (by rfl) rfl rfl ?_
  refine SWl.rd rfl (Rd.pickY rfl (by rfl) rfl) ?_
  refine SWl.rd rfl (Rd.move rfl) ?_
  refine SWl.off rfl rfl (rfl) rfl rfl ?_
  refine SWl.off rfl rfl (rfl) rfl rfl ?_
  refine SWl.rd rfl (Rd.pickY rfl (rfl) rfl) ?_
  refine SWl.rd rfl (Rd.move rfl) ?_
  refine SWl.off rfl rfl (rfl) rfl rfl ?_
  refine SWl.off rfl rfl (rfl) rfl rfl ?_
  refine SWl.rd rfl (Rd.pickY rfl (rfl) rfl) ?_
  refine SWl.rd rfl (Rd.move rfl) ?_
  refine SWl.off rfl rfl (rfl) rfl rfl ?_
  refine SWl.off rfl rfl (rfl) rfl rfl ?_
  refine SWl.rd rfl (Rd.pickY rfl (rfl) rfl) ?_
  refine SWl.rd rfl (Rd.move rfl) ?_
  refine SWl.off rfl rfl (rfl) rfl rfl ?_
  refine SWl.off rfl rfl (rfl) rfl rfl ?_
  refine SWl.off rfl rfl (rfl) rfl rfl ?_
  refine SWl.rd rfl (Rd.pickY rfl (rfl) rfl) ?_
  refine SWl.rd rfl (Rd.move rfl) ?_
  refine SWl.off rfl rfl (rfl) rfl rfl ?_
  refine SWl.off rfl rfl (rfl) rfl rfl ?_
  refine SWl.off rfl rfl (rfl) rfl rfl ?_
  refine SWl.rd rfl (Rd.pickY rfl (rfl) rfl) ?_
  refine SWl.nil ?_
  refine SN.then ?_
  refine SW.condT rfl (rfl) ?_
  refine SW.seq ?_
  refine SW.region ?_
  refine SWl.rd rfl (Rd.assign rfl) ?_
  refine SWl.nil ?_
  refine SN.then ?_
  refine SW.ret (fn := Tryd.f31) (fun _ _ h => h) (Rs.le (Rs.one rfl (ResV.tmp rfl)) ?_)
  exact Le.trans (Le.is (by rw [incOut_bad (fun g => by obtain ⟨d, hd, hh⟩ := h; exact hh (g.2.2.2.2.2.2 d hd))])) le_nw_is
set_option maxHeartbeats 4000000 in
set_option maxRecDepth 100000 in
theorem con_include_ok (root : List UInt8) (n i : Int) (e : Led.Ent) (p : List (List UInt8)) (hp : p.length ≤ 1000000) (q : List Dg) (hpq : q.map (·.1) = p) : ConN Tryd.prog 31 [bD root, iD n, iD i, aggD [iD e.kind, bD e.bytes], aggD [lsD encL p]] (iD (incOut root n i e p)) := by
  refine con_ofN Tryd.func31 (by kernel_rfl) rfl (by kernel_rfl) fun base w0 => ?_
  refine SW.seq ?_
  refine SW.region ?_
  refine SWl.ef (S := []) (Ef.boxA rfl rfl) ?_
  rintro _ ⟨g8, rfl⟩
  refine SWl.ef (S := []) (Ef.boxA rfl rfl) ?_
  rintro _ ⟨g9, rfl⟩
  refine SWl.rd rfl (Rd.assign rfl) ?_
  refine SWl.nil ?_
  refine SN.then ?_
  refine SW.seq ?_
  refine SW.region ?_
  refine SWl.rd rfl (Rd.loadA 1 1 rfl rfl (by kernel_rfl) rfl ap_nil) ?_
  refine SWl.ef (S := []) (Ef.call (con_digests p hp (some q) hpq) rfl ⟨Le.refl _, trivial⟩ rfl) ?_
  rintro _ rfl
  refine SWl.rd rfl (Rd.move rfl) ?_
  refine SWl.rd rfl (Rd.extract rfl rfl) ?_
  refine SWl.rd rfl (Rd.extract rfl rfl) ?_
  refine SWl.rd rfl (Rd.assign rfl) ?_
  refine SWl.rd rfl (Rd.assign rfl) ?_
  refine SWl.nil ?_
  refine SN.then ?_
  refine SW.seq ?_
  refine SW.seq ?_
  refine SW.region ?_
  refine SWl.rd rfl (Rd.move rfl) ?_
  refine SWl.rd rfl (Rd.not rfl) ?_
  refine SWl.rd rfl (Rd.move rfl) ?_
  refine SWl.rdg rfl rfl (by rfl) rfl rfl (Rd.loadA 0 2 rfl rfl (by kernel_rfl) rfl ap_nil) ?_
  refine SWl.efg (S := []) rfl rfl (by rfl) rfl (Ef.callN [] (con_valid e.kind e.bytes.length) rfl ⟨(sees_le (Le.agg ⟨Le.refl _, le_b_len, trivial⟩)), trivial⟩ rfl) ?_
  rintro _ rfl
  refine SWl.rdg rfl rfl (by rfl) rfl rfl (Rd.not rfl) ?_
  refine SWl.rd rfl (Rd.pickN rfl (by rfl) rfl) ?_
  refine SWl.rd rfl (Rd.move rfl) ?_
  refine SWl.split 27 rfl (fun hb27 => ?_) (fun hb27 => ?_)
  · have hg : ¬ incGood root n i e p := fun g => by have g := g.1; unfold Led.Ent.fit at g; simp [g] at hb27
    refine SWl.off rfl rfl (hb27) rfl rfl ?_
    refine SWl.off rfl rfl (hb27) rfl rfl ?_
    refine SWl.rd rfl (Rd.pickY rfl (hb27) rfl) ?_
    refine SWl.rd rfl (Rd.move rfl) ?_
    refine SWl.off rfl rfl (rfl) rfl rfl ?_
    refine SWl.off rfl rfl (rfl) rfl rfl ?_
    refine SWl.rd rfl (Rd.pickY rfl (rfl) rfl) ?_
    refine SWl.rd rfl (Rd.move rfl) ?_
    refine SWl.off rfl rfl (rfl) rfl rfl ?_
    refine SWl.off rfl rfl (rfl) rfl rfl ?_
    refine SWl.rd rfl (Rd.pickY rfl (rfl) rfl) ?_
    refine SWl.rd rfl (Rd.move rfl) ?_
    refine SWl.off rfl rfl (rfl) rfl rfl ?_
    refine SWl.off rfl rfl (rfl) rfl rfl ?_
    refine SWl.off rfl rfl (rfl) rfl rfl ?_
    refine SWl.rd rfl (Rd.pickY rfl (rfl) rfl) ?_
    refine SWl.rd rfl (Rd.move rfl) ?_
    refine SWl.off rfl rfl (rfl) rfl rfl ?_
    refine SWl.off rfl rfl (rfl) rfl rfl ?_
    refine SWl.off rfl rfl (rfl) rfl rfl ?_
    refine SWl.rd rfl (Rd.pickY rfl (rfl) rfl) ?_
    refine SWl.nil ?_
    refine SN.then ?_
    refine SW.condT rfl (rfl) ?_
    refine SW.seq ?_
    refine SW.region ?_
    refine SWl.rd rfl (Rd.assign rfl) ?_
    refine SWl.nil ?_
    refine SN.then ?_
    refine SW.ret (fn := Tryd.f31) (fun _ _ h => h) (Rs.le (Rs.one rfl (ResV.tmp rfl)) ?_)
    exact Le.trans (Le.is (by rw [incOut_bad hg])) le_nw_is
  · have g1 : Led.Ent.fit e := by simp at hb27; exact hb27
    refine SWl.rdg rfl rfl (hb27) rfl rfl (Rd.move rfl) ?_
    refine SWl.rdg rfl rfl (hb27) rfl rfl (Rd.lss rfl rfl) ?_
    refine SWl.rd rfl (Rd.pickN rfl (hb27) rfl) ?_
    refine SWl.rd rfl (Rd.move rfl) ?_
    refine SWl.split 31 rfl (fun hb31 => ?_) (fun hb31 => ?_)
    · have hg : ¬ incGood root n i e p := fun g => by have hb := of_decide_eq_true hb31; obtain ⟨g1, g2, g3, g4, g5, g6, g7⟩ := g; omega
      refine SWl.off rfl rfl (hb31) rfl rfl ?_
      refine SWl.off rfl rfl (hb31) rfl rfl ?_
      refine SWl.rd rfl (Rd.pickY rfl (hb31) rfl) ?_
      refine SWl.rd rfl (Rd.move rfl) ?_
      refine SWl.off rfl rfl (rfl) rfl rfl ?_
      refine SWl.off rfl rfl (rfl) rfl rfl ?_
      refine SWl.rd rfl (Rd.pickY rfl (rfl) rfl) ?_
      refine SWl.rd rfl (Rd.move rfl) ?_
      refine SWl.off rfl rfl (rfl) rfl rfl ?_
      refine SWl.off rfl rfl (rfl) rfl rfl ?_
      refine SWl.off rfl rfl (rfl) rfl rfl ?_
      refine SWl.rd rfl (Rd.pickY rfl (rfl) rfl) ?_
      refine SWl.rd rfl (Rd.move rfl) ?_
      refine SWl.off rfl rfl (rfl) rfl rfl ?_
      refine SWl.off rfl rfl (rfl) rfl rfl ?_
      refine SWl.off rfl rfl (rfl) rfl rfl ?_
      refine SWl.rd rfl (Rd.pickY rfl (rfl) rfl) ?_
      refine SWl.nil ?_
      refine SN.then ?_
      refine SW.condT rfl (rfl) ?_
      refine SW.seq ?_
      refine SW.region ?_
      refine SWl.rd rfl (Rd.assign rfl) ?_
      refine SWl.nil ?_
      refine SN.then ?_
      refine SW.ret (fn := Tryd.f31) (fun _ _ h => h) (Rs.le (Rs.one rfl (ResV.tmp rfl)) ?_)
      exact Le.trans (Le.is (by rw [incOut_bad hg])) le_nw_is
    · have g2 := of_decide_eq_false hb31
      refine SWl.rdg rfl rfl (hb31) rfl rfl (Rd.move rfl) ?_
      refine SWl.rdg rfl rfl (hb31) rfl rfl (Rd.gtr rfl rfl) ?_
      refine SWl.rd rfl (Rd.pickN rfl (hb31) rfl) ?_
      refine SWl.rd rfl (Rd.move rfl) ?_
      refine SWl.split 35 rfl (fun hb35 => ?_) (fun hb35 => ?_)
      · have hg : ¬ incGood root n i e p := fun g => by have hb := of_decide_eq_true hb35; obtain ⟨g1, g2, g3, g4, g5, g6, g7⟩ := g; omega
        refine SWl.off rfl rfl (hb35) rfl rfl ?_
        refine SWl.off rfl rfl (hb35) rfl rfl ?_
        refine SWl.rd rfl (Rd.pickY rfl (hb35) rfl) ?_
        refine SWl.rd rfl (Rd.move rfl) ?_
        refine SWl.off rfl rfl (rfl) rfl rfl ?_
        refine SWl.off rfl rfl (rfl) rfl rfl ?_
        refine SWl.off rfl rfl (rfl) rfl rfl ?_
        refine SWl.rd rfl (Rd.pickY rfl (rfl) rfl) ?_
        refine SWl.rd rfl (Rd.move rfl) ?_
        refine SWl.off rfl rfl (rfl) rfl rfl ?_
        refine SWl.off rfl rfl (rfl) rfl rfl ?_
        refine SWl.off rfl rfl (rfl) rfl rfl ?_
        refine SWl.rd rfl (Rd.pickY rfl (rfl) rfl) ?_
        refine SWl.nil ?_
        refine SN.then ?_
        refine SW.condT rfl (rfl) ?_
        refine SW.seq ?_
        refine SW.region ?_
        refine SWl.rd rfl (Rd.assign rfl) ?_
        refine SWl.nil ?_
        refine SN.then ?_
        refine SW.ret (fn := Tryd.f31) (fun _ _ h => h) (Rs.le (Rs.one rfl (ResV.tmp rfl)) ?_)
        exact Le.trans (Le.is (by rw [incOut_bad hg])) le_nw_is
      · have g3 := of_decide_eq_false hb35
        refine SWl.rdg rfl rfl (hb35) rfl rfl (Rd.move rfl) ?_
        refine SWl.rdg rfl rfl (hb35) rfl rfl (Rd.lss rfl rfl) ?_
        refine SWl.rd rfl (Rd.pickN rfl (hb35) rfl) ?_
        refine SWl.rd rfl (Rd.move rfl) ?_
        refine SWl.split 39 rfl (fun hb39 => ?_) (fun hb39 => ?_)
        · have hg : ¬ incGood root n i e p := fun g => by have hb := of_decide_eq_true hb39; obtain ⟨g1, g2, g3, g4, g5, g6, g7⟩ := g; omega
          refine SWl.off rfl rfl (hb39) rfl rfl ?_
          refine SWl.off rfl rfl (hb39) rfl rfl ?_
          refine SWl.off rfl rfl (hb39) rfl rfl ?_
          refine SWl.rd rfl (Rd.pickY rfl (hb39) rfl) ?_
          refine SWl.rd rfl (Rd.move rfl) ?_
          refine SWl.off rfl rfl (rfl) rfl rfl ?_
          refine SWl.off rfl rfl (rfl) rfl rfl ?_
          refine SWl.off rfl rfl (rfl) rfl rfl ?_
          refine SWl.rd rfl (Rd.pickY rfl (rfl) rfl) ?_
          refine SWl.nil ?_
          refine SN.then ?_
          refine SW.condT rfl (rfl) ?_
          refine SW.seq ?_
          refine SW.region ?_
          refine SWl.rd rfl (Rd.assign rfl) ?_
          refine SWl.nil ?_
          refine SN.then ?_
          refine SW.ret (fn := Tryd.f31) (fun _ _ h => h) (Rs.le (Rs.one rfl (ResV.tmp rfl)) ?_)
          exact Le.trans (Le.is (by rw [incOut_bad hg])) le_nw_is
        · have g4 := of_decide_eq_false hb39
          refine SWl.rdg rfl rfl (hb39) rfl rfl (Rd.move rfl) ?_
          refine SWl.rdg rfl rfl (hb39) rfl rfl (Rd.move rfl) ?_
          refine SWl.rdg rfl rfl (hb39) rfl rfl (Rd.geq rfl rfl) ?_
          refine SWl.rd rfl (Rd.pickN rfl (hb39) rfl) ?_
          refine SWl.rd rfl (Rd.move rfl) ?_
          refine SWl.split 44 rfl (fun hb44 => ?_) (fun hb44 => ?_)
          · have hg : ¬ incGood root n i e p := fun g => by have hb := of_decide_eq_true hb44; obtain ⟨g1, g2, g3, g4, g5, g6, g7⟩ := g; omega
            refine SWl.off rfl rfl (hb44) rfl rfl ?_
            refine SWl.off rfl rfl (hb44) rfl rfl ?_
            refine SWl.off rfl rfl (hb44) rfl rfl ?_
            refine SWl.rd rfl (Rd.pickY rfl (hb44) rfl) ?_
            refine SWl.nil ?_
            refine SN.then ?_
            refine SW.condT rfl (rfl) ?_
            refine SW.seq ?_
            refine SW.region ?_
            refine SWl.rd rfl (Rd.assign rfl) ?_
            refine SWl.nil ?_
            refine SN.then ?_
            refine SW.ret (fn := Tryd.f31) (fun _ _ h => h) (Rs.le (Rs.one rfl (ResV.tmp rfl)) ?_)
            exact Le.trans (Le.is (by rw [incOut_bad hg])) le_nw_is
          · have g5 := of_decide_eq_false hb44
            refine SWl.rdg rfl rfl (hb44) rfl rfl (Rd.move rfl) ?_
            refine SWl.rdg rfl rfl (hb44) rfl rfl (Rd.len (e := 5) rfl (by kernel_rfl)) ?_
            refine SWl.rdg rfl rfl (hb44) rfl rfl (Rd.nei rfl rfl) ?_
            refine SWl.rd rfl (Rd.pickN rfl (hb44) rfl) ?_
            refine SWl.nil ?_
            refine SN.then ?_
            refine SW.cond rfl (fun hb48 => ?_) (fun hb48 => ?_)
            · have hg : ¬ incGood root n i e p := fun g => by have g := g.2.2.2.2.2.1; simp [g] at hb48
              refine SW.seq ?_
              refine SW.region ?_
              refine SWl.rd rfl (Rd.assign rfl) ?_
              refine SWl.nil ?_
              refine SN.then ?_
              refine SW.ret (fn := Tryd.f31) (fun _ _ h => h) (Rs.le (Rs.one rfl (ResV.tmp rfl)) ?_)
              exact Le.trans (Le.is (by rw [incOut_bad hg])) le_nw_is
            · have g6 : root.length = 32 := by simp at hb48; omega
              refine SW.skip ?_
              refine SN.then ?_
              refine SW.seq ?_
              refine SW.region ?_
              refine SWl.ef (S := []) (Ef.alloc (zs := [.nilFunc]) (by kernel_rfl) rfl) ?_
              rintro _ ⟨g13, rfl⟩
              refine SWl.nil ?_
              refine SN.then ?_
              refine SW.seq ?_
              refine SW.region ?_
              refine SWl.rd rfl (Rd.makeFunc [.pointer (some ⟨g8, 0, none⟩), .pointer (some ⟨g13, 0, none⟩)] rfl) ?_
              refine SWl.ef (S := [_]) (Ef.storeV 2 rfl rfl rfl (by kernel_rfl) rfl (List.mem_singleton.2 rfl)) ?_
              rintro _ rfl
              refine SWl.nil ?_
              refine SN.then ?_
              refine SW.seq ?_
              refine SW.region ?_
              have g7 : ∀ d ∈ p, d.length = 32 := fun d hd => by rw [← hpq] at hd; obtain ⟨y, hy, rfl⟩ := List.mem_map.1 hd; exact y.2
              have hql : q.length ≤ 1000000 := by rw [← hpq, List.length_map] at hp; exact hp
              have hg : incGood root n i e p := ⟨g1, by omega, by omega, by omega, by omega, g6, g7⟩
              obtain ⟨n, rfl⟩ : ∃ m : Nat, n = m := ⟨n.toNat, by omega⟩
              obtain ⟨i, rfl⟩ : ∃ m : Nat, i = m := ⟨i.toNat, by omega⟩
              refine SWl.rd rfl (Rd.loadB 2 rfl rfl rfl (by kernel_rfl) ap_nil) ?_
              refine SWl.rd rfl (Rd.move rfl) ?_
              refine SWl.rd rfl (Rd.move rfl) ?_
              refine SWl.rd rfl (Rd.move rfl) ?_
              refine SWl.ef (Ef.callVR (cap := [.pointer (some ⟨g8, 0, none⟩), .pointer (some ⟨g13, 0, none⟩)]) [2, 0] (con_ver g13 g8 e g1 n i q (by omega) (by omega) hql) rfl rfl ⟨Le.refl _, Le.refl _, Le.refl _, Le.refl _, Le.refl _, trivial⟩ (by decide) ⟨⟨_, rfl, LeAll.refl _⟩, ⟨⟨_, rfl, LeAll.refl _⟩, trivial⟩⟩ (fun _ h => h) rfl) ?_
              rintro _ ⟨⟨t55, ht55⟩, rfl⟩
              have hl55 : t55.1.length = 32 := ht55.2
              refine SWl.rd rfl (Rd.move rfl) ?_
              refine SWl.rd rfl (Rd.extract rfl rfl) ?_
              refine SWl.rd rfl (Rd.extract rfl rfl) ?_
              refine SWl.ef (S := []) (Ef.alloc (zs := cellsOf (List.replicate 32 0)) (by kernel_rfl) rfl) ?_
              rintro _ ⟨g14, rfl⟩
              refine SWl.ef (S := [_]) (Ef.storeG 3 32 rfl rfl rfl (by kernel_rfl) (by first | assumption | (simp; done) | (simp; omega)) (by first | assumption | (simp; done) | (simp; omega)) (List.mem_singleton.2 rfl)) ?_
              rintro _ rfl
              refine SWl.rd rfl (Rd.assign rfl) ?_
              refine SWl.nil ?_
              refine SN.then ?_
              refine SW.seq ?_
              refine SW.seq ?_
              refine SW.draw [] (.r 0 (.r 1 (.r 2 (.r 3 (.r 4 (.r 5 (.r 6 (.r 7 (.r 8 .fin))))))))) (by kernel_rfl) (by kernel_rfl) (fun d _ _ _ _ h => by cases d <;> exact h) ?_
              refine SWz.rd (i := 0) rfl rfl (Rd.move rfl) ?_
              refine SWz.rd (i := 1) rfl rfl (Rd.not rfl) ?_
              refine SWz.rd (i := 2) rfl rfl (Rd.move rfl) ?_
              refine SWz.split 60 rfl (fun hb60 => ?_) (fun hb60 => ?_)
              · have hz : t55.2 = false := by simpa using hb60
                refine SWz.off (i := 3) rfl rfl rfl (hb60) rfl rfl ?_
                refine SWz.off (i := 4) rfl rfl rfl (hb60) rfl rfl ?_
                refine SWz.off (i := 5) rfl rfl rfl (hb60) rfl rfl ?_
                refine SWz.off (i := 6) rfl rfl rfl (hb60) rfl rfl ?_
                refine SWz.off (i := 7) rfl rfl rfl (hb60) rfl rfl ?_
                refine SWz.rd (i := 8) rfl rfl (Rd.pickY rfl (hb60) rfl) ?_
                refine SWz.nil ?_
                refine SN.then ?_
                refine SW.condT rfl (rfl) ?_
                refine SW.seq ?_
                refine SW.region ?_
                refine SWl.rd rfl (Rd.assign rfl) ?_
                refine SWl.nil ?_
                refine SN.then ?_
                refine SW.ret (fn := Tryd.f31) (fun _ _ h => h) (Rs.le (Rs.one rfl (ResV.tmp rfl)) ?_)
                exact Le.trans (Le.is (by rw [incOut_no hg (by rw [Int.toNat_natCast, Int.toNat_natCast, ← hpq, ht55.1]; simp [hz])])) le_nw_is
              · have hz : t55.2 = true := by simpa using hb60
                refine SWz.rdg (i := 3) rfl rfl rfl (hb60) rfl rfl (Rd.loadG 3 32 rfl rfl (by kernel_rfl) (by first | assumption | (simp; done) | (simp; omega)) ap_nil) ?_
                refine SWz.rdg (i := 4) rfl rfl rfl (hb60) rfl rfl (Rd.move rfl) ?_
                refine SWz.rdg (i := 5) rfl rfl rfl (hb60) rfl rfl (Rd.toArr (e := 5) 32 rfl (by kernel_rfl) (by decide) (by omega)) ?_
                refine SWz.rdg (i := 6) rfl rfl rfl (hb60) rfl rfl (Rd.loadPG 32 rfl (by kernel_rfl) (by decide) g6 (by simp)) ?_
                refine SWz.rdg (i := 7) rfl rfl rfl (hb60) rfl rfl (Rd.neG (e := 5) (n := 32) rfl rfl (by kernel_rfl) (by kernel_rfl) (by kernel_rfl) (by kernel_rfl) ht55.2 g6) ?_
                refine SWz.rd (i := 8) rfl rfl (Rd.pickN rfl (hb60) rfl) ?_
                refine SWz.nil ?_
                refine SN.then ?_
                refine SW.cond rfl (fun hb66 => ?_) (fun hb66 => ?_)
                · have hs : ¬ t55.1 = root := by simpa using hb66
                  refine SW.seq ?_
                  refine SW.region ?_
                  refine SWl.rd rfl (Rd.assign rfl) ?_
                  refine SWl.nil ?_
                  refine SN.then ?_
                  refine SW.ret (fn := Tryd.f31) (fun _ _ h => h) (Rs.le (Rs.one rfl (ResV.tmp rfl)) ?_)
                  exact Le.trans (Le.is (by rw [incOut_no hg (by rw [Int.toNat_natCast, Int.toNat_natCast, ← hpq, ht55.1]; rw [if_pos hz]; simpa using hs)])) le_nw_is
                · have hs : t55.1 = root := by simpa using hb66
                  refine SW.skip ?_
                  refine SN.then ?_
                  refine SW.seq ?_
                  refine SW.region ?_
                  refine SWl.rd rfl (Rd.assign rfl) ?_
                  refine SWl.nil ?_
                  refine SN.then ?_
                  refine SW.ret (fn := Tryd.f31) (fun _ _ h => h) (Rs.le (Rs.one rfl (ResV.tmp rfl)) ?_)
                  exact Le.trans (Le.is (by rw [incOut_yes hg (by rw [Int.toNat_natCast, Int.toNat_natCast, ← hpq, ht55.1, if_pos hz, hs])])) le_nw_is
theorem dg_of {p : List (List UInt8)} (h : ∀ d ∈ p, d.length = 32) : ∃ q : List Dg, q.map (·.1) = p := by
  induction p with
  | nil => exact ⟨[], rfl⟩
  | cons x p ih =>
    obtain ⟨q, hq⟩ := ih (fun d hd => h d (List.mem_cons_of_mem _ hd))
    exact ⟨⟨x, h x (by simp)⟩ :: q, by simp [hq]⟩
theorem con_include (root : List UInt8) (n i : Int) (e : Led.Ent) (p : List (List UInt8)) (hp : p.length ≤ 1000000) : ConN Tryd.prog 31 [bD root, iD n, iD i, aggD [iD e.kind, bD e.bytes], aggD [lsD encL p]] (iD (incOut root n i e p)) := by
  by_cases h : ∀ d ∈ p, d.length = 32
  · obtain ⟨q, hq⟩ := dg_of h
    exact con_include_ok root n i e p hp q hq
  · exact con_include_bad root n i e p hp (by simpa using h)
end Sx
end Go.Proofs.YtonjpfpdpfonnaaDoor
