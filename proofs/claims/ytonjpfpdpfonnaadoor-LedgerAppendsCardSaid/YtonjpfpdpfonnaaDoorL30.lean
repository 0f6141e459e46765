/-
  LEDGERS: Consistent.
-/
import Derived.Test.YtonjpfpdpfonnaaDoorL29
namespace Go.Proofs.YtonjpfpdpfonnaaDoor
open Go.RowKit
namespace Sx
theorem dg_nil {q : List Dg} {p : List (List UInt8)} (h : q.map (·.1) = p) : p = [] ↔ q = [] := by subst h; cases q <;> simp
set_option maxHeartbeats 4000000 in
set_option maxRecDepth 100000 in
theorem con_consistent_bad (old : List UInt8) (m : Int) (new : List UInt8) (n : Int) (p : List (List UInt8)) (hp : p.length ≤ 1000000) (h : ∃ d ∈ p, d.length ≠ 32) : ConN Tryd.prog 33 [bD old, iD m, bD new, iD n, aggD [lsD encL p]] (iD (conOut old m new n p)) := by
  refine con_ofN Tryd.func33 (by kernel_rfl) rfl (by kernel_rfl) fun base w0 => ?_
  refine SW.seq ?_
  refine SW.region ?_
  refine SWl.ef (S := []) (Ef.boxA rfl rfl) ?_
  rintro _ ⟨g9, rfl⟩
  refine SWl.rd rfl (Rd.assign rfl) ?_
  refine SWl.nil ?_
  refine SN.then ?_
  refine SW.seq ?_
  refine SW.region ?_
  refine SWl.rd rfl (Rd.loadA 0 1 rfl rfl (by kernel_rfl) rfl ap_nil) ?_
  refine SWl.ef (S := []) (Ef.call (con_digests p hp none h) rfl ⟨Le.refl _, trivial⟩ rfl) ?_
  rintro _ rfl
  refine SWl.rd rfl (Rd.move rfl) ?_
  refine SWl.rd rfl (Rd.extract rfl rfl) ?_
  refine SWl.rd rfl (Rd.extract rfl rfl) ?_
  refine SWl.rd rfl (Rd.assign rfl) ?_
  refine SWl.rd rfl (Rd.assign rfl) ?_
  refine SWl.nil ?_
  refine SN.then ?_
  refine SW.seq ?_
  refine SW.seq ?_
  refine SW.region ?_
  refine SWl.rd rfl (Rd.move rfl) ?_
  refine SWl.rd rfl (Rd.not rfl) ?_
  refine SWl.rd rfl (Rd.move rfl) ?_
  refine SWl.off rfl rfl (by rfl) rfl rfl ?_
  refine SWl.off rfl rfl (by rfl) rfl rfl ?_
  refine SWl.rd rfl (Rd.pickY rfl (by rfl) rfl) ?_
  refine SWl.rd rfl (Rd.move rfl) ?_
  refine SWl.off rfl rfl (rfl) rfl rfl ?_
  refine SWl.off rfl rfl (rfl) rfl rfl ?_
  refine SWl.rd rfl (Rd.pickY rfl (rfl) rfl) ?_
  refine SWl.rd rfl (Rd.move rfl) ?_
  refine SWl.off rfl rfl (rfl) rfl rfl ?_
  refine SWl.off rfl rfl (rfl) rfl rfl ?_
  refine SWl.rd rfl (Rd.pickY rfl (rfl) rfl) ?_
  refine SWl.rd rfl (Rd.move rfl) ?_
  refine SWl.off rfl rfl (rfl) rfl rfl ?_
  refine SWl.off rfl rfl (rfl) rfl rfl ?_
  refine SWl.off rfl rfl (rfl) rfl rfl ?_
  refine SWl.rd rfl (Rd.pickY rfl (rfl) rfl) ?_
  refine SWl.rd rfl (Rd.move rfl) ?_
  refine SWl.off rfl rfl (rfl) rfl rfl ?_
  refine SWl.off rfl rfl (rfl) rfl rfl ?_
  refine SWl.off rfl rfl (rfl) rfl rfl ?_
  refine SWl.rd rfl (Rd.pickY rfl (rfl) rfl) ?_
  refine SWl.rd rfl (Rd.move rfl) ?_
  refine SWl.off rfl rfl (rfl) rfl rfl ?_
  refine SWl.off rfl rfl (rfl) rfl rfl ?_
  refine SWl.off rfl rfl (rfl) rfl rfl ?_
  refine SWl.rd rfl (Rd.pickY rfl (rfl) rfl) ?_
  refine SWl.nil ?_
  refine SN.then ?_
  refine SW.condT rfl (rfl) ?_
  refine SW.seq ?_
  refine SW.region ?_
  refine SWl.rd rfl (Rd.assign rfl) ?_
  refine SWl.nil ?_
  refine SN.then ?_
  refine SW.ret (fn := Tryd.f33) (fun _ _ h => h) (Rs.le (Rs.one rfl (ResV.tmp rfl)) ?_)
  exact Le.trans (Le.is (by rw [conOut_bad (fun g => by obtain ⟨d, hd, hh⟩ := h; exact hh (g.2.2.2.2.2 d hd))])) le_nw_is
set_option maxHeartbeats 4000000 in
set_option maxRecDepth 100000 in
theorem con_consistent_ok (old : List UInt8) (m : Int) (new : List UInt8) (n : Int) (p : List (List UInt8)) (hp : p.length ≤ 1000000) (q : List Dg) (hpq : q.map (·.1) = p) : ConN Tryd.prog 33 [bD old, iD m, bD new, iD n, aggD [lsD encL p]] (iD (conOut old m new n p)) := by
  refine con_ofN Tryd.func33 (by kernel_rfl) rfl (by kernel_rfl) fun base w0 => ?_
  refine SW.seq ?_
  refine SW.region ?_
  refine SWl.ef (S := []) (Ef.boxA rfl rfl) ?_
  rintro _ ⟨g9, rfl⟩
  refine SWl.rd rfl (Rd.assign rfl) ?_
  refine SWl.nil ?_
  refine SN.then ?_
  refine SW.seq ?_
  refine SW.region ?_
  refine SWl.rd rfl (Rd.loadA 0 1 rfl rfl (by kernel_rfl) rfl ap_nil) ?_
  refine SWl.ef (S := []) (Ef.call (con_digests p hp (some q) hpq) rfl ⟨Le.refl _, trivial⟩ rfl) ?_
  rintro _ rfl
  refine SWl.rd rfl (Rd.move rfl) ?_
  refine SWl.rd rfl (Rd.extract rfl rfl) ?_
  refine SWl.rd rfl (Rd.extract rfl rfl) ?_
  refine SWl.rd rfl (Rd.assign rfl) ?_
  refine SWl.rd rfl (Rd.assign rfl) ?_
  refine SWl.nil ?_
  refine SN.then ?_
  refine SW.seq ?_
  refine SW.seq ?_
  refine SW.region ?_
  refine SWl.rd rfl (Rd.move rfl) ?_
  refine SWl.rd rfl (Rd.not rfl) ?_
  refine SWl.rd rfl (Rd.move rfl) ?_
  refine SWl.rdg rfl rfl (by rfl) rfl rfl (Rd.move rfl) ?_
  refine SWl.rdg rfl rfl (by rfl) rfl rfl (Rd.lss rfl rfl) ?_
  refine SWl.rd rfl (Rd.pickN rfl (by rfl) rfl) ?_
  refine SWl.rd rfl (Rd.move rfl) ?_
  refine SWl.split 28 rfl (fun hb28 => ?_) (fun hb28 => ?_)
  · have hg : ¬ conGood old m new n p := fun g => by have hb := of_decide_eq_true hb28; obtain ⟨g1, g2, g3, g4, g5, g6⟩ := g; omega
    refine SWl.off rfl rfl (hb28) rfl rfl ?_
    refine SWl.off rfl rfl (hb28) rfl rfl ?_
    refine SWl.rd rfl (Rd.pickY rfl (hb28) rfl) ?_
    refine SWl.rd rfl (Rd.move rfl) ?_
    refine SWl.off rfl rfl (rfl) rfl rfl ?_
    refine SWl.off rfl rfl (rfl) rfl rfl ?_
    refine SWl.rd rfl (Rd.pickY rfl (rfl) rfl) ?_
    refine SWl.rd rfl (Rd.move rfl) ?_
    refine SWl.off rfl rfl (rfl) rfl rfl ?_
    refine SWl.off rfl rfl (rfl) rfl rfl ?_
    refine SWl.off rfl rfl (rfl) rfl rfl ?_
    refine SWl.rd rfl (Rd.pickY rfl (rfl) rfl) ?_
    refine SWl.rd rfl (Rd.move rfl) ?_
    refine SWl.off rfl rfl (rfl) rfl rfl ?_
    refine SWl.off rfl rfl (rfl) rfl rfl ?_
    refine SWl.off rfl rfl (rfl) rfl rfl ?_
    refine SWl.rd rfl (Rd.pickY rfl (rfl) rfl) ?_
    refine SWl.rd rfl (Rd.move rfl) ?_
    refine SWl.off rfl rfl (rfl) rfl rfl ?_
    refine SWl.off rfl rfl (rfl) rfl rfl ?_
    refine SWl.off rfl rfl (rfl) rfl rfl ?_
    refine SWl.rd rfl (Rd.pickY rfl (rfl) rfl) ?_
    refine SWl.nil ?_
    refine SN.then ?_
    refine SW.condT rfl (rfl) ?_
    refine SW.seq ?_
    refine SW.region ?_
    refine SWl.rd rfl (Rd.assign rfl) ?_
    refine SWl.nil ?_
    refine SN.then ?_
    refine SW.ret (fn := Tryd.f33) (fun _ _ h => h) (Rs.le (Rs.one rfl (ResV.tmp rfl)) ?_)
    exact Le.trans (Le.is (by rw [conOut_bad hg])) le_nw_is
  · have g2 := of_decide_eq_false hb28
    refine SWl.rdg rfl rfl (hb28) rfl rfl (Rd.move rfl) ?_
    refine SWl.rdg rfl rfl (hb28) rfl rfl (Rd.gtr rfl rfl) ?_
    refine SWl.rd rfl (Rd.pickN rfl (hb28) rfl) ?_
    refine SWl.rd rfl (Rd.move rfl) ?_
    refine SWl.split 32 rfl (fun hb32 => ?_) (fun hb32 => ?_)
    · have hg : ¬ conGood old m new n p := fun g => by have hb := of_decide_eq_true hb32; obtain ⟨g1, g2, g3, g4, g5, g6⟩ := g; omega
      refine SWl.off rfl rfl (hb32) rfl rfl ?_
      refine SWl.off rfl rfl (hb32) rfl rfl ?_
      refine SWl.rd rfl (Rd.pickY rfl (hb32) rfl) ?_
      refine SWl.rd rfl (Rd.move rfl) ?_
      refine SWl.off rfl rfl (rfl) rfl rfl ?_
      refine SWl.off rfl rfl (rfl) rfl rfl ?_
      refine SWl.off rfl rfl (rfl) rfl rfl ?_
      refine SWl.rd rfl (Rd.pickY rfl (rfl) rfl) ?_
      refine SWl.rd rfl (Rd.move rfl) ?_
      refine SWl.off rfl rfl (rfl) rfl rfl ?_
      refine SWl.off rfl rfl (rfl) rfl rfl ?_
      refine SWl.off rfl rfl (rfl) rfl rfl ?_
      refine SWl.rd rfl (Rd.pickY rfl (rfl) rfl) ?_
      refine SWl.rd rfl (Rd.move rfl) ?_
      refine SWl.off rfl rfl (rfl) rfl rfl ?_
      refine SWl.off rfl rfl (rfl) rfl rfl ?_
      refine SWl.off rfl rfl (rfl) rfl rfl ?_
      refine SWl.rd rfl (Rd.pickY rfl (rfl) rfl) ?_
      refine SWl.nil ?_
      refine SN.then ?_
      refine SW.condT rfl (rfl) ?_
      refine SW.seq ?_
      refine SW.region ?_
      refine SWl.rd rfl (Rd.assign rfl) ?_
      refine SWl.nil ?_
      refine SN.then ?_
      refine SW.ret (fn := Tryd.f33) (fun _ _ h => h) (Rs.le (Rs.one rfl (ResV.tmp rfl)) ?_)
      exact Le.trans (Le.is (by rw [conOut_bad hg])) le_nw_is
    · have g3 := of_decide_eq_false hb32
      refine SWl.rdg rfl rfl (hb32) rfl rfl (Rd.move rfl) ?_
      refine SWl.rdg rfl rfl (hb32) rfl rfl (Rd.lss rfl rfl) ?_
      refine SWl.rd rfl (Rd.pickN rfl (hb32) rfl) ?_
      refine SWl.rd rfl (Rd.move rfl) ?_
      refine SWl.split 36 rfl (fun hb36 => ?_) (fun hb36 => ?_)
      · have hg : ¬ conGood old m new n p := fun g => by have hb := of_decide_eq_true hb36; obtain ⟨g1, g2, g3, g4, g5, g6⟩ := g; omega
        refine SWl.off rfl rfl (hb36) rfl rfl ?_
        refine SWl.off rfl rfl (hb36) rfl rfl ?_
        refine SWl.off rfl rfl (hb36) rfl rfl ?_
        refine SWl.rd rfl (Rd.pickY rfl (hb36) rfl) ?_
        refine SWl.rd rfl (Rd.move rfl) ?_
        refine SWl.off rfl rfl (rfl) rfl rfl ?_
        refine SWl.off rfl rfl (rfl) rfl rfl ?_
        refine SWl.off rfl rfl (rfl) rfl rfl ?_
        refine SWl.rd rfl (Rd.pickY rfl (rfl) rfl) ?_
        refine SWl.rd rfl (Rd.move rfl) ?_
        refine SWl.off rfl rfl (rfl) rfl rfl ?_
        refine SWl.off rfl rfl (rfl) rfl rfl ?_
        refine SWl.off rfl rfl (rfl) rfl rfl ?_
        refine SWl.rd rfl (Rd.pickY rfl (rfl) rfl) ?_
        refine SWl.nil ?_
        refine SN.then ?_
        refine SW.condT rfl (rfl) ?_
        refine SW.seq ?_
        refine SW.region ?_
        refine SWl.rd rfl (Rd.assign rfl) ?_
        refine SWl.nil ?_
        refine SN.then ?_
        refine SW.ret (fn := Tryd.f33) (fun _ _ h => h) (Rs.le (Rs.one rfl (ResV.tmp rfl)) ?_)
        exact Le.trans (Le.is (by rw [conOut_bad hg])) le_nw_is
      · have g1 := of_decide_eq_false hb36
        refine SWl.rdg rfl rfl (hb36) rfl rfl (Rd.move rfl) ?_
        refine SWl.rdg rfl rfl (hb36) rfl rfl (Rd.move rfl) ?_
        refine SWl.rdg rfl rfl (hb36) rfl rfl (Rd.gtr rfl rfl) ?_
        refine SWl.rd rfl (Rd.pickN rfl (hb36) rfl) ?_
        refine SWl.rd rfl (Rd.move rfl) ?_
        refine SWl.split 41 rfl (fun hb41 => ?_) (fun hb41 => ?_)
        · have hg : ¬ conGood old m new n p := fun g => by have hb := of_decide_eq_true hb41; obtain ⟨g1, g2, g3, g4, g5, g6⟩ := g; omega
          refine SWl.off rfl rfl (hb41) rfl rfl ?_
          refine SWl.off rfl rfl (hb41) rfl rfl ?_
          refine SWl.off rfl rfl (hb41) rfl rfl ?_
          refine SWl.rd rfl (Rd.pickY rfl (hb41) rfl) ?_
          refine SWl.rd rfl (Rd.move rfl) ?_
          refine SWl.off rfl rfl (rfl) rfl rfl ?_
          refine SWl.off rfl rfl (rfl) rfl rfl ?_
          refine SWl.off rfl rfl (rfl) rfl rfl ?_
          refine SWl.rd rfl (Rd.pickY rfl (rfl) rfl) ?_
          refine SWl.nil ?_
          refine SN.then ?_
          refine SW.condT rfl (rfl) ?_
          refine SW.seq ?_
          refine SW.region ?_
          refine SWl.rd rfl (Rd.assign rfl) ?_
          refine SWl.nil ?_
          refine SN.then ?_
          refine SW.ret (fn := Tryd.f33) (fun _ _ h => h) (Rs.le (Rs.one rfl (ResV.tmp rfl)) ?_)
          exact Le.trans (Le.is (by rw [conOut_bad hg])) le_nw_is
        · have g0 := of_decide_eq_false hb41
          refine SWl.rdg rfl rfl (hb41) rfl rfl (Rd.move rfl) ?_
          refine SWl.rdg rfl rfl (hb41) rfl rfl (Rd.len (e := 5) rfl (by kernel_rfl)) ?_
          refine SWl.rdg rfl rfl (hb41) rfl rfl (Rd.nei rfl rfl) ?_
          refine SWl.rd rfl (Rd.pickN rfl (hb41) rfl) ?_
          refine SWl.rd rfl (Rd.move rfl) ?_
          refine SWl.split 46 rfl (fun hb46 => ?_) (fun hb46 => ?_)
          · have hg : ¬ conGood old m new n p := fun g => by have g := g.2.2.2.1; simp [g] at hb46
            refine SWl.off rfl rfl (hb46) rfl rfl ?_
            refine SWl.off rfl rfl (hb46) rfl rfl ?_
            refine SWl.off rfl rfl (hb46) rfl rfl ?_
            refine SWl.rd rfl (Rd.pickY rfl (hb46) rfl) ?_
            refine SWl.nil ?_
            refine SN.then ?_
            refine SW.condT rfl (rfl) ?_
            refine SW.seq ?_
            refine SW.region ?_
            refine SWl.rd rfl (Rd.assign rfl) ?_
            refine SWl.nil ?_
            refine SN.then ?_
            refine SW.ret (fn := Tryd.f33) (fun _ _ h => h) (Rs.le (Rs.one rfl (ResV.tmp rfl)) ?_)
            exact Le.trans (Le.is (by rw [conOut_bad hg])) le_nw_is
          · have g4 : old.length = 32 := by simp at hb46; omega
            refine SWl.rdg rfl rfl (hb46) rfl rfl (Rd.move rfl) ?_
            refine SWl.rdg rfl rfl (hb46) rfl rfl (Rd.len (e := 5) rfl (by kernel_rfl)) ?_
            refine SWl.rdg rfl rfl (hb46) rfl rfl (Rd.nei rfl rfl) ?_
            refine SWl.rd rfl (Rd.pickN rfl (hb46) rfl) ?_
            refine SWl.nil ?_
            refine SN.then ?_
            refine SW.cond rfl (fun hb50 => ?_) (fun hb50 => ?_)
            · have hg : ¬ conGood old m new n p := fun g => by have g := g.2.2.2.2.1; simp [g] at hb50
              refine SW.seq ?_
              refine SW.region ?_
              refine SWl.rd rfl (Rd.assign rfl) ?_
              refine SWl.nil ?_
              refine SN.then ?_
              refine SW.ret (fn := Tryd.f33) (fun _ _ h => h) (Rs.le (Rs.one rfl (ResV.tmp rfl)) ?_)
              exact Le.trans (Le.is (by rw [conOut_bad hg])) le_nw_is
            · have g5 : new.length = 32 := by simp at hb50; omega
              refine SW.skip ?_
              refine SN.then ?_
              refine SW.seq ?_
              refine SW.draw [] (.r 0 (.r 1 (.r 2 (.r 3 (.r 4 (.r 5 (.r 6 (.n 7 (.e 8 .fin .no) .no)))))))) (by kernel_rfl) (by kernel_rfl) (fun d _ _ _ _ h => by cases d <;> exact h) ?_
              have g6 : ∀ d ∈ p, d.length = 32 := fun d hd => by rw [← hpq] at hd; obtain ⟨y, hy, rfl⟩ := List.mem_map.1 hd; exact y.2
              have hql : q.length ≤ 1000000 := by rw [← hpq, List.length_map] at hp; exact hp
              have hg : conGood old m new n p := ⟨by omega, by omega, by omega, g4, g5, g6⟩
              refine SWz.rd (i := 0) rfl rfl (Rd.move rfl) ?_
              refine SWz.rd (i := 1) rfl rfl (Rd.toArr (e := 5) 32 rfl (by kernel_rfl) (by decide) (by omega)) ?_
              refine SWz.rd (i := 2) rfl rfl (Rd.loadPG 32 rfl (by kernel_rfl) (by decide) g4 (by simp)) ?_
              refine SWz.rd (i := 3) rfl rfl (Rd.move rfl) ?_
              refine SWz.rd (i := 4) rfl rfl (Rd.toArr (e := 5) 32 rfl (by kernel_rfl) (by decide) (by omega)) ?_
              refine SWz.rd (i := 5) rfl rfl (Rd.loadPG 32 rfl (by kernel_rfl) (by decide) g5 (by simp)) ?_
              refine SWz.rd (i := 6) rfl rfl (Rd.more (Rd.build rfl rfl (bldPr g4 g5)) (le_agg_g _)) ?_
              refine SWz.efb (i := 7) rfl (EfB.alloc (zs := cellsOf (List.replicate 32 0 ++ List.replicate 32 0)) (by kernel_rfl) rfl) ?_ SWz.no
              rintro g13 _ rfl
              refine SWz.efe (i := 8) rfl (Ef.storeG 1 64 rfl rfl rfl (by kernel_rfl) (by first | assumption | (simp; done) | (simp; omega)) (by first | assumption | (simp; done) | (simp; omega)) (List.mem_append_right _ (List.mem_cons_self))) ?_ SWz.no
              rintro _ rfl
              refine SWz.nil ?_
              refine SN.then ?_
              refine SW.seq ?_
              refine SW.seq ?_
              refine SW.region ?_
              refine SWl.rd rfl (Rd.move rfl) ?_
              refine SWl.rd rfl (Rd.eqi rfl rfl) ?_
              refine SWl.nil ?_
              refine SN.then ?_
              refine SW.cond rfl (fun hb59 => ?_) (fun hb59 => ?_)
              · have hm0 := of_decide_eq_true hb59
                refine SW.seq ?_
                refine SW.region ?_
                refine SWl.ef (S := []) (Ef.alloc (zs := [.slice none 0 0, .map none]) (by kernel_rfl) rfl) ?_
                rintro _ ⟨g14, rfl⟩
                refine SWl.nil ?_
                refine SN.then ?_
                refine SW.seq ?_
                refine SW.seq ?_
                refine SW.vecN 44 2 encE ?_
                refine SW.mapN encN ?_
                obtain ⟨es0, hes0⟩ : ∃ es : List Led.Ent, es = [] := ⟨_, rfl⟩
                refine SW.sub (σ' := St.ob [(11, lsD encG q), (13, isD (.pointer (some ⟨g13, 0, none⟩))), (14, isD (.pointer (some ⟨g14, 0, none⟩)))] [.c g13 ((cellsOf (old ++ new)).map isD), .c g14 [isD (.slice (⟨none, 0, [], none, []⟩ : Lst).A (es0).length (⟨none, 0, [], none, []⟩ : Lst).c), isD (.map (⟨none, 0, [], none, []⟩ : Lst).M)], ledE (⟨none, 0, [], none, []⟩ : Lst) (es0), ledM (⟨none, 0, [], none, []⟩ : Lst) (es0)]) (⟨⟨_, rfl, ⟨⟨_, rfl, Le.refl _⟩, ⟨⟨_, rfl, Le.refl _⟩, ⟨⟨_, rfl, Le.refl _⟩, trivial⟩⟩⟩⟩, [1, 2, 3, 4], by decide, ⟨⟨_, rfl, LeAll.refl _⟩, ⟨⟨_, rfl, (by rw [hes0]; exact LeAll.refl _)⟩, ⟨⟨_, rfl, (by rw [hes0]; exact LeR.refl _)⟩, ⟨⟨_, rfl, (by rw [hes0]; exact LeR.refl _)⟩, trivial⟩⟩⟩⟩⟩) ?_
                refine SW.draw [] (.r 0 (.r 1 (.r 2 (.r 3 (.r 4 (.r 5 (.n 6 (.r 7 (.r 8 .fin)) .no))))))) (by kernel_rfl) (by kernel_rfl) (fun d _ _ _ _ h => by cases d <;> exact h) ?_
                refine SWz.rd (i := 0) rfl rfl (Rd.move rfl) ?_
                refine SWz.rd (i := 1) rfl rfl (Rd.lenR (e := 79) rfl (by kernel_rfl)) ?_
                refine SWz.rd (i := 2) rfl rfl (Rd.nei rfl rfl) ?_
                refine SWz.rd (i := 3) rfl rfl (Rd.move rfl) ?_
                refine SWz.split 63 rfl (fun hb63 => ?_) (fun hb63 => ?_)
                · have hr : ¬ p = [] := fun e => by rw [(dg_nil hpq).1 e] at hb63; simp at hb63
                  refine SWz.off (i := 4) rfl rfl rfl (hb63) rfl rfl ?_
                  refine SWz.off (i := 5) rfl rfl rfl (hb63) rfl rfl ?_
                  refine SWz.offn (i := 6) rfl rfl rfl (hb63) rfl rfl ?_ SWz.no
                  refine SWz.off (i := 7) rfl rfl rfl (hb63) rfl rfl ?_
                  refine SWz.rd (i := 8) rfl rfl (Rd.pickY rfl (hb63) rfl) ?_
                  refine SWz.nil ?_
                  refine SN.then ?_
                  refine SW.condT rfl (rfl) ?_
                  refine SW.seq ?_
                  refine SW.region ?_
                  refine SWl.rd rfl (Rd.assign rfl) ?_
                  refine SWl.nil ?_
                  refine SN.then ?_
                  refine SW.ret (fn := Tryd.f33) (fun _ _ h => h) (Rs.le (Rs.one rfl (ResV.tmp rfl)) ?_)
                  exact Le.trans (Le.is (by rw [conOut_0no hg hm0 (fun h => hr h.1)])) le_nw_is
                · have hr : p = [] := (dg_nil hpq).2 (by simpa using hb63)
                  refine SWz.rdg (i := 4) rfl rfl rfl (hb63) rfl rfl (Rd.fieldAddr (n := 0) rfl (by kernel_rfl)) ?_
                  refine SWz.rdg (i := 5) rfl rfl rfl (hb63) rfl rfl (Rd.load1 0 32 rfl rfl (by kernel_rfl) (by first | assumption | (simp; done) | (simp; omega)) ap_nil) ?_
                  refine SWz.efng (i := 6) rfl rfl rfl (hb63) rfl (Ef.callN [1, 2, 3] (con_span es0 (by simp [hes0]) 0 0 (by simp)) rfl ⟨(sees_box 1 rfl (by decide) ⟨(sees_vec 2 rfl (by decide)), (sees_map 3 rfl (by decide)), trivial⟩), (sees_le (Le.refl _)), (sees_le (Le.refl _)), trivial⟩ rfl) ?_ SWz.no
                  rintro _ rfl
                  refine SWz.rdg (i := 7) rfl rfl rfl (hb63) rfl rfl (Rd.neG (e := 5) (n := 32) rfl rfl (by kernel_rfl) (by kernel_rfl) (by kernel_rfl) (by kernel_rfl) g4 (by simp [Led.spn])) ?_
                  refine SWz.rd (i := 8) rfl rfl (Rd.pickN rfl (hb63) rfl) ?_
                  refine SWz.nil ?_
                  refine SN.then ?_
                  refine SW.cond rfl (fun hb68 => ?_) (fun hb68 => ?_)
                  · have hs : ¬ old = HH [] := by simpa [hes0, Led.spn, Led.root_nil] using hb68
                    refine SW.seq ?_
                    refine SW.region ?_
                    refine SWl.rd rfl (Rd.assign rfl) ?_
                    refine SWl.nil ?_
                    refine SN.then ?_
                    refine SW.ret (fn := Tryd.f33) (fun _ _ h => h) (Rs.le (Rs.one rfl (ResV.tmp rfl)) ?_)
                    exact Le.trans (Le.is (by rw [conOut_0no hg hm0 (fun h => hs h.2)])) le_nw_is
                  · have hs : old = HH [] := by simpa [hes0, Led.spn, Led.root_nil] using hb68
                    refine SW.skip ?_
                    refine SN.then ?_
                    refine SW.seq ?_
                    refine SW.region ?_
                    refine SWl.rd rfl (Rd.assign rfl) ?_
                    refine SWl.nil ?_
                    refine SN.then ?_
                    refine SW.ret (fn := Tryd.f33) (fun _ _ h => h) (Rs.le (Rs.one rfl (ResV.tmp rfl)) ?_)
                    exact Le.trans (Le.is (by rw [conOut_0yes hg hm0 hr hs])) le_nw_is
              · have hm0 := of_decide_eq_false hb59
                refine SW.skip ?_
                refine SN.then ?_
                refine SW.seq ?_
                refine SW.region ?_
                refine SWl.ef (S := []) (Ef.alloc (zs := [.nilFunc]) (by kernel_rfl) rfl) ?_
                rintro _ ⟨g15, rfl⟩
                refine SWl.nil ?_
                refine SN.then ?_
                refine SW.seq ?_
                refine SW.region ?_
                refine SWl.rd rfl (Rd.makeFunc [.pointer (some ⟨g13, 0, none⟩), .pointer (some ⟨g15, 0, none⟩)] rfl) ?_
                refine SWl.ef (S := [_]) (Ef.storeV 2 rfl rfl rfl (by kernel_rfl) rfl (List.mem_singleton.2 rfl)) ?_
                rintro _ rfl
                refine SWl.nil ?_
                refine SN.then ?_
                refine SW.seq ?_
                refine SW.region ?_
                obtain ⟨n, rfl⟩ : ∃ k : Nat, n = k := ⟨n.toNat, by omega⟩
                obtain ⟨m, rfl⟩ : ∃ k : Nat, m = k := ⟨m.toNat, by omega⟩
                refine SWl.rd rfl (Rd.loadB 2 rfl rfl rfl (by kernel_rfl) ap_nil) ?_
                refine SWl.rd rfl (Rd.move rfl) ?_
                refine SWl.rd rfl (Rd.move rfl) ?_
                refine SWl.rd rfl (Rd.move rfl) ?_
                refine SWl.ef (Ef.callVR (cap := [.pointer (some ⟨g13, 0, none⟩), .pointer (some ⟨g15, 0, none⟩)]) [2, 1] (con_cv g15 g13 old new g4 g5 n m false q (by omega) (by omega) (by omega) hql) rfl rfl ⟨Le.refl _, Le.refl _, Le.refl _, Le.refl _, Le.refl _, Le.refl _, trivial⟩ (by decide) ⟨⟨_, rfl, LeAll.refl _⟩, ⟨⟨_, rfl, LeAll.refl _⟩, trivial⟩⟩ (fun _ h => h) rfl) ?_
                rintro _ ⟨⟨t75, ht75⟩, rfl⟩
                have h75 : Led.con HH m n true old (q.map (·.1)) = if t75.2 = true then some t75.1 else none := ht75.1
                have hl75 : t75.1.1.length = 32 := ht75.2.1
                have hm75 : t75.1.2.length = 32 := ht75.2.2
                refine SWl.rd rfl (Rd.move rfl) ?_
                refine SWl.rd rfl (Rd.extract rfl rfl) ?_
                refine SWl.rd rfl (Rd.extract rfl rfl) ?_
                refine SWl.ef (S := []) (Ef.alloc (zs := cellsOf (List.replicate 32 0 ++ List.replicate 32 0)) (by kernel_rfl) rfl) ?_
                rintro _ ⟨g16, rfl⟩
                refine SWl.ef (S := [_]) (Ef.storeG 3 64 rfl rfl rfl (by kernel_rfl) (by first | assumption | (simp; done) | (simp; omega)) (by first | assumption | (simp; done) | (simp; omega)) (List.mem_singleton.2 rfl)) ?_
                rintro _ rfl
                refine SWl.rd rfl (Rd.assign rfl) ?_
                refine SWl.nil ?_
                refine SN.then ?_
                refine SW.seq ?_
                refine SW.seq ?_
                refine SW.region ?_
                refine SWl.rd rfl (Rd.move rfl) ?_
                refine SWl.rd rfl (Rd.not rfl) ?_
                refine SWl.rd rfl (Rd.move rfl) ?_
                refine SWl.split 80 rfl (fun hb80 => ?_) (fun hb80 => ?_)
                · have hz : t75.2 = false := by simpa using hb80
                  refine SWl.off rfl rfl (hb80) rfl rfl ?_
                  refine SWl.off rfl rfl (hb80) rfl rfl ?_
                  refine SWl.off rfl rfl (hb80) rfl rfl ?_
                  refine SWl.rd rfl (Rd.pickY rfl (hb80) rfl) ?_
                  refine SWl.nil ?_
                  refine SN.then ?_
                  refine SW.condT rfl (rfl) ?_
                  refine SW.seq ?_
                  refine SW.region ?_
                  refine SWl.rd rfl (Rd.assign rfl) ?_
                  refine SWl.nil ?_
                  refine SN.then ?_
                  refine SW.ret (fn := Tryd.f33) (fun _ _ h => h) (Rs.le (Rs.one rfl (ResV.tmp rfl)) ?_)
                  exact Le.trans (Le.is (by rw [conOut_no hg hm0 (by rw [Int.toNat_natCast, Int.toNat_natCast, ← hpq, h75]; simp [hz])])) le_nw_is
                · have hz : t75.2 = true := by simpa using hb80
                  refine SWl.rdg rfl rfl (hb80) rfl rfl (Rd.loadG 3 64 rfl rfl (by kernel_rfl) (by first | assumption | (simp; done) | (simp; omega)) ap_nil) ?_
                  refine SWl.rdg rfl rfl (hb80) rfl rfl (Rd.loadG 2 64 rfl rfl (by kernel_rfl) (by first | assumption | (simp; done) | (simp; omega)) ap_nil) ?_
                  refine SWl.rdg rfl rfl (hb80) rfl rfl (Rd.neP2 (e := 79) (u := 5) rfl rfl (by kernel_rfl) (by kernel_rfl) (by kernel_rfl) (by kernel_rfl) (by kernel_rfl) (by kernel_rfl) (by kernel_rfl) (by kernel_rfl) hl75 hm75 g4 g5) ?_
                  refine SWl.rd rfl (Rd.pickN rfl (hb80) rfl) ?_
                  refine SWl.nil ?_
                  refine SN.then ?_
                  refine SW.cond rfl (fun hb84 => ?_) (fun hb84 => ?_)
                  · have hs : ¬ (t75.1.1 = old ∧ t75.1.2 = new) := fun hs => by simp [hs.1, hs.2] at hb84
                    refine SW.seq ?_
                    refine SW.region ?_
                    refine SWl.rd rfl (Rd.assign rfl) ?_
                    refine SWl.nil ?_
                    refine SN.then ?_
                    refine SW.ret (fn := Tryd.f33) (fun _ _ h => h) (Rs.le (Rs.one rfl (ResV.tmp rfl)) ?_)
                    exact Le.trans (Le.is (by rw [conOut_no hg hm0 (by rw [Int.toNat_natCast, Int.toNat_natCast, ← hpq, h75]; rw [if_pos hz]; intro h; injection h with h; exact hs (by rw [h]; exact ⟨rfl, rfl⟩))])) le_nw_is
                  · have hs : t75.1.1 = old ∧ t75.1.2 = new := by simpa using hb84
                    refine SW.skip ?_
                    refine SN.then ?_
                    refine SW.seq ?_
                    refine SW.region ?_
                    refine SWl.rd rfl (Rd.assign rfl) ?_
                    refine SWl.nil ?_
                    refine SN.then ?_
                    refine SW.ret (fn := Tryd.f33) (fun _ _ h => h) (Rs.le (Rs.one rfl (ResV.tmp rfl)) ?_)
                    exact Le.trans (Le.is (by rw [conOut_yes hg hm0 (by rw [Int.toNat_natCast, Int.toNat_natCast, ← hpq, h75, if_pos hz, ← hs.1, ← hs.2])])) le_nw_is
theorem con_consistent (old : List UInt8) (m : Int) (new : List UInt8) (n : Int) (p : List (List UInt8)) (hp : p.length ≤ 1000000) : ConN Tryd.prog 33 [bD old, iD m, bD new, iD n, aggD [lsD encL p]] (iD (conOut old m new n p)) := by
  by_cases h : ∀ d ∈ p, d.length = 32
  · obtain ⟨q, hq⟩ := dg_of h
    exact con_consistent_ok old m new n p hp q hq
  · exact con_consistent_bad old m new n p hp (by simpa using h)
end Sx
end Go.Proofs.YtonjpfpdpfonnaaDoor
