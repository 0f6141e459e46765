/-
  LEDGERS: the reference, Consistent.
-/
import Derived.Test.YtonjpfpdpfonnaaDoorL24
namespace Go.Proofs.YtonjpfpdpfonnaaDoor
open Go.RowKit
namespace Sx
set_option maxHeartbeats 4000000 in
set_option maxRecDepth 100000 in
theorem con_consistentR (old : List UInt8) (m : Int) (new : List UInt8) (n : Int) (p : List (List UInt8)) (hp : p.length ≤ 1000000) : ConN Tryd.prog 34 [bD old, iD m, bD new, iD n, lsD encL p] (iD (conOut old m new n p)) := by
  refine con_ofN Tryd.func34 (by kernel_rfl) rfl (by kernel_rfl) fun base w0 => ?_
  refine SW.seq ?_
  refine SW.region ?_
  refine SWl.rd rfl (Rd.assign rfl) ?_
  refine SWl.nil ?_
  refine SN.then ?_
  refine SW.seq ?_
  refine SW.seq ?_
  refine SW.region ?_
  refine SWl.rd rfl (Rd.move rfl) ?_
  refine SWl.rd rfl (Rd.lss rfl rfl) ?_
  refine SWl.rd rfl (Rd.move rfl) ?_
  refine SWl.split 17 rfl (fun hb17 => ?_) (fun hb17 => ?_)
  · have hg : ¬ conGood old m new n p := fun g => by have hb := of_decide_eq_true hb17; obtain ⟨g1, g2, g3, g4, g5, g6⟩ := g; omega
    refine SWl.off rfl rfl (hb17) rfl rfl ?_
    refine SWl.off rfl rfl (hb17) rfl rfl ?_
    refine SWl.off rfl rfl (hb17) rfl rfl ?_
    refine SWl.rd rfl (Rd.pickY rfl (hb17) rfl) ?_
    refine SWl.rd rfl (Rd.move rfl) ?_
    refine SWl.off rfl rfl (rfl) rfl rfl ?_
    refine SWl.off rfl rfl (rfl) rfl rfl ?_
    refine SWl.rd rfl (Rd.pickY rfl (rfl) rfl) ?_
    refine SWl.rd rfl (Rd.move rfl) ?_
    refine SWl.off rfl rfl (rfl) rfl rfl ?_
    refine SWl.off rfl rfl (rfl) rfl rfl ?_
    refine SWl.off rfl rfl (rfl) rfl rfl ?_
    refine SWl.rd rfl (Rd.pickY rfl (rfl) rfl) ?_
    refine SWl.rd rfl (Rd.move rfl) ?_
    refine SWl.off rfl rfl (rfl) rfl rfl ?_
    refine SWl.off rfl rfl (rfl) rfl rfl ?_
    refine SWl.off rfl rfl (rfl) rfl rfl ?_
    refine SWl.rd rfl (Rd.pickY rfl (rfl) rfl) ?_
    refine SWl.rd rfl (Rd.move rfl) ?_
    refine SWl.off rfl rfl (rfl) rfl rfl ?_
    refine SWl.off rfl rfl (rfl) rfl rfl ?_
    refine SWl.off rfl rfl (rfl) rfl rfl ?_
    refine SWl.rd rfl (Rd.pickY rfl (rfl) rfl) ?_
    refine SWl.nil ?_
    refine SN.then ?_
    refine SW.condT rfl (rfl) ?_
    refine SW.seq ?_
    refine SW.region ?_
    refine SWl.rd rfl (Rd.assign rfl) ?_
    refine SWl.nil ?_
    refine SN.then ?_
    refine SW.ret (fn := Tryd.f34) (fun _ _ h => h) (Rs.le (Rs.one rfl (ResV.tmp rfl)) ?_)
    exact Le.trans (Le.is (by rw [conOut_bad hg])) le_nw_is
  · have g1 := of_decide_eq_false hb17
    refine SWl.rdg rfl rfl (hb17) rfl rfl (Rd.move rfl) ?_
    refine SWl.rdg rfl rfl (hb17) rfl rfl (Rd.move rfl) ?_
    refine SWl.rdg rfl rfl (hb17) rfl rfl (Rd.lss rfl rfl) ?_
    refine SWl.rd rfl (Rd.pickN rfl (hb17) rfl) ?_
    refine SWl.rd rfl (Rd.move rfl) ?_
    refine SWl.split 22 rfl (fun hb22 => ?_) (fun hb22 => ?_)
    · have hg : ¬ conGood old m new n p := fun g => by have hb := of_decide_eq_true hb22; obtain ⟨g1, g2, g3, g4, g5, g6⟩ := g; omega
      refine SWl.off rfl rfl (hb22) rfl rfl ?_
      refine SWl.off rfl rfl (hb22) rfl rfl ?_
      refine SWl.rd rfl (Rd.pickY rfl (hb22) rfl) ?_
      refine SWl.rd rfl (Rd.move rfl) ?_
      refine SWl.off rfl rfl (rfl) rfl rfl ?_
      refine SWl.off rfl rfl (rfl) rfl rfl ?_
      refine SWl.off rfl rfl (rfl) rfl rfl ?_
      refine SWl.rd rfl (Rd.pickY rfl (rfl) rfl) ?_
      refine SWl.rd rfl (Rd.move rfl) ?_
      refine SWl.off rfl rfl (rfl) rfl rfl ?_
      refine SWl.off rfl rfl (rfl) rfl rfl ?_
      refine SWl.off rfl rfl (rfl) rfl rfl ?_
      refine SWl.rd rfl (Rd.pickY rfl (rfl) rfl) ?_
      refine SWl.rd rfl (Rd.move rfl) ?_
      refine SWl.off rfl rfl (rfl) rfl rfl ?_
      refine SWl.off rfl rfl (rfl) rfl rfl ?_
      refine SWl.off rfl rfl (rfl) rfl rfl ?_
      refine SWl.rd rfl (Rd.pickY rfl (rfl) rfl) ?_
      refine SWl.nil ?_
      refine SN.then ?_
      refine SW.condT rfl (rfl) ?_
      refine SW.seq ?_
      refine SW.region ?_
      refine SWl.rd rfl (Rd.assign rfl) ?_
      refine SWl.nil ?_
      refine SN.then ?_
      refine SW.ret (fn := Tryd.f34) (fun _ _ h => h) (Rs.le (Rs.one rfl (ResV.tmp rfl)) ?_)
      exact Le.trans (Le.is (by rw [conOut_bad hg])) le_nw_is
    · have g2 := of_decide_eq_false hb22
      refine SWl.rdg rfl rfl (hb22) rfl rfl (Rd.move rfl) ?_
      refine SWl.rdg rfl rfl (hb22) rfl rfl (Rd.gtr rfl rfl) ?_
      refine SWl.rd rfl (Rd.pickN rfl (hb22) rfl) ?_
      refine SWl.rd rfl (Rd.move rfl) ?_
      refine SWl.split 26 rfl (fun hb26 => ?_) (fun hb26 => ?_)
      · have hg : ¬ conGood old m new n p := fun g => by have hb := of_decide_eq_true hb26; obtain ⟨g1, g2, g3, g4, g5, g6⟩ := g; omega
        refine SWl.off rfl rfl (hb26) rfl rfl ?_
        refine SWl.off rfl rfl (hb26) rfl rfl ?_
        refine SWl.off rfl rfl (hb26) rfl rfl ?_
        refine SWl.rd rfl (Rd.pickY rfl (hb26) rfl) ?_
        refine SWl.rd rfl (Rd.move rfl) ?_
        refine SWl.off rfl rfl (rfl) rfl rfl ?_
        refine SWl.off rfl rfl (rfl) rfl rfl ?_
        refine SWl.off rfl rfl (rfl) rfl rfl ?_
        refine SWl.rd rfl (Rd.pickY rfl (rfl) rfl) ?_
        refine SWl.rd rfl (Rd.move rfl) ?_
        refine SWl.off rfl rfl (rfl) rfl rfl ?_
        refine SWl.off rfl rfl (rfl) rfl rfl ?_
        refine SWl.off rfl rfl (rfl) rfl rfl ?_
        refine SWl.rd rfl (Rd.pickY rfl (rfl) rfl) ?_
        refine SWl.nil ?_
        refine SN.then ?_
        refine SW.condT rfl (rfl) ?_
        refine SW.seq ?_
        refine SW.region ?_
        refine SWl.rd rfl (Rd.assign rfl) ?_
        refine SWl.nil ?_
        refine SN.then ?_
        refine SW.ret (fn := Tryd.f34) (fun _ _ h => h) (Rs.le (Rs.one rfl (ResV.tmp rfl)) ?_)
        exact Le.trans (Le.is (by rw [conOut_bad hg])) le_nw_is
      · have g3 := of_decide_eq_false hb26
        refine SWl.rdg rfl rfl (hb26) rfl rfl (Rd.move rfl) ?_
        refine SWl.rdg rfl rfl (hb26) rfl rfl (Rd.len (e := 5) rfl (by kernel_rfl)) ?_
        refine SWl.rdg rfl rfl (hb26) rfl rfl (Rd.nei rfl rfl) ?_
        refine SWl.rd rfl (Rd.pickN rfl (hb26) rfl) ?_
        refine SWl.rd rfl (Rd.move rfl) ?_
        refine SWl.split 31 rfl (fun hb31 => ?_) (fun hb31 => ?_)
        · have hg : ¬ conGood old m new n p := fun g => by have g := g.2.2.2.1; simp [g] at hb31
          refine SWl.off rfl rfl (hb31) rfl rfl ?_
          refine SWl.off rfl rfl (hb31) rfl rfl ?_
          refine SWl.off rfl rfl (hb31) rfl rfl ?_
          refine SWl.rd rfl (Rd.pickY rfl (hb31) rfl) ?_
          refine SWl.rd rfl (Rd.move rfl) ?_
          refine SWl.off rfl rfl (rfl) rfl rfl ?_
          refine SWl.off rfl rfl (rfl) rfl rfl ?_
          refine SWl.off rfl rfl (rfl) rfl rfl ?_
          refine SWl.rd rfl (Rd.pickY rfl (rfl) rfl) ?_
          refine SWl.nil ?_
          refine SN.then ?_
          refine SW.condT rfl (rfl) ?_
          refine SW.seq ?_
          refine SW.region ?_
          refine SWl.rd rfl (Rd.assign rfl) ?_
          refine SWl.nil ?_
          refine SN.then ?_
          refine SW.ret (fn := Tryd.f34) (fun _ _ h => h) (Rs.le (Rs.one rfl (ResV.tmp rfl)) ?_)
          exact Le.trans (Le.is (by rw [conOut_bad hg])) le_nw_is
        · have g4 : old.length = 32 := by simp at hb31; omega
          refine SWl.rdg rfl rfl (hb31) rfl rfl (Rd.move rfl) ?_
          refine SWl.rdg rfl rfl (hb31) rfl rfl (Rd.len (e := 5) rfl (by kernel_rfl)) ?_
          refine SWl.rdg rfl rfl (hb31) rfl rfl (Rd.nei rfl rfl) ?_
          refine SWl.rd rfl (Rd.pickN rfl (hb31) rfl) ?_
          refine SWl.rd rfl (Rd.move rfl) ?_
          refine SWl.split 36 rfl (fun hb36 => ?_) (fun hb36 => ?_)
          · have hg : ¬ conGood old m new n p := fun g => by have g := g.2.2.2.2.1; simp [g] at hb36
            refine SWl.off rfl rfl (hb36) rfl rfl ?_
            refine SWl.off rfl rfl (hb36) rfl rfl ?_
            refine SWl.off rfl rfl (hb36) rfl rfl ?_
            refine SWl.rd rfl (Rd.pickY rfl (hb36) rfl) ?_
            refine SWl.nil ?_
            refine SN.then ?_
            refine SW.condT rfl (rfl) ?_
            refine SW.seq ?_
            refine SW.region ?_
            refine SWl.rd rfl (Rd.assign rfl) ?_
            refine SWl.nil ?_
            refine SN.then ?_
            refine SW.ret (fn := Tryd.f34) (fun _ _ h => h) (Rs.le (Rs.one rfl (ResV.tmp rfl)) ?_)
            exact Le.trans (Le.is (by rw [conOut_bad hg])) le_nw_is
          · have g5 : new.length = 32 := by simp at hb36; omega
            refine SWl.rdg rfl rfl (hb36) rfl rfl (Rd.move rfl) ?_
            refine SWl.efg (S := []) rfl rfl (hb36) rfl (Ef.callN [] (con_digestsR _ (by first | assumption | omega)) rfl ⟨(sees_le (Le.refl _)), trivial⟩ rfl) ?_
            rintro _ rfl
            refine SWl.rdg rfl rfl (hb36) rfl rfl (Rd.not rfl) ?_
            refine SWl.rd rfl (Rd.pickN rfl (hb36) rfl) ?_
            refine SWl.nil ?_
            refine SN.then ?_
            refine SW.cond rfl (fun hb40 => ?_) (fun hb40 => ?_)
            · have hg : ¬ conGood old m new n p := fun g => by have g := g.2.2.2.2.2; simp at hb40; obtain ⟨d, hd, h⟩ := hb40; exact h (g d hd)
              refine SW.seq ?_
              refine SW.region ?_
              refine SWl.rd rfl (Rd.assign rfl) ?_
              refine SWl.nil ?_
              refine SN.then ?_
              refine SW.ret (fn := Tryd.f34) (fun _ _ h => h) (Rs.le (Rs.one rfl (ResV.tmp rfl)) ?_)
              exact Le.trans (Le.is (by rw [conOut_bad hg])) le_nw_is
            · have g6 : ∀ d ∈ p, d.length = 32 := by simp at hb40; exact hb40
              refine SW.skip ?_
              refine SN.then ?_
              refine SW.seq ?_
              refine SW.seq ?_
              refine SW.region ?_
              have hg : conGood old m new n p := ⟨by omega, by omega, by omega, g4, g5, g6⟩
              refine SWl.rd rfl (Rd.move rfl) ?_
              refine SWl.rd rfl (Rd.eqi rfl rfl) ?_
              refine SWl.nil ?_
              refine SN.then ?_
              refine SW.cond rfl (fun hb42 => ?_) (fun hb42 => ?_)
              · have hm0 := of_decide_eq_true hb42
                refine SW.seq ?_
                refine SW.seq ?_
                refine SW.draw [] (.r 0 (.r 1 (.r 2 (.r 3 (.r 4 (.r 5 (.n 6 (.r 7 (.r 8 .fin)) .no))))))) (by kernel_rfl) (by kernel_rfl) (fun d _ _ _ _ h => by cases d <;> exact h) ?_
                refine SWz.rd (i := 0) rfl rfl (Rd.move rfl) ?_
                refine SWz.rd (i := 1) rfl rfl (Rd.lenR (e := 28) rfl (by kernel_rfl)) ?_
                refine SWz.rd (i := 2) rfl rfl (Rd.gtr rfl rfl) ?_
                refine SWz.rd (i := 3) rfl rfl (Rd.move rfl) ?_
                refine SWz.split 46 rfl (fun hb46 => ?_) (fun hb46 => ?_)
                · have hr : ¬ p = [] := by rintro rfl; simp at hb46
                  refine SWz.off (i := 4) rfl rfl rfl (hb46) rfl rfl ?_
                  refine SWz.off (i := 5) rfl rfl rfl (hb46) rfl rfl ?_
                  refine SWz.offn (i := 6) rfl rfl rfl (hb46) rfl rfl ?_ SWz.no
                  refine SWz.off (i := 7) rfl rfl rfl (hb46) rfl rfl ?_
                  refine SWz.rd (i := 8) rfl rfl (Rd.pickY rfl (hb46) rfl) ?_
                  refine SWz.nil ?_
                  refine SN.then ?_
                  refine SW.condT rfl (rfl) ?_
                  refine SW.seq ?_
                  refine SW.region ?_
                  refine SWl.rd rfl (Rd.assign rfl) ?_
                  refine SWl.nil ?_
                  refine SN.then ?_
                  refine SW.ret (fn := Tryd.f34) (fun _ _ h => h) (Rs.le (Rs.one rfl (ResV.tmp rfl)) ?_)
                  exact Le.trans (Le.is (by rw [conOut_0no hg hm0 (fun h => hr h.1)])) le_nw_is
                · have hr : p = [] := by simpa using hb46
                  refine SWz.rdg (i := 4) rfl rfl rfl (hb46) rfl rfl (Rd.move rfl) ?_
                  refine SWz.rdg (i := 5) rfl rfl rfl (hb46) rfl rfl (Rd.str (e := 5) rfl (by kernel_rfl) (by kernel_rfl) (by kernel_rfl) (by simp)) ?_
                  refine SWz.efng (i := 6) rfl rfl rfl (hb46) rfl (Ef.callN [] (con_sum43 [] (by simp)) rfl ⟨(sees_le Le.nil_sl), trivial⟩ rfl) ?_ SWz.no
                  rintro _ rfl
                  refine SWz.rdg (i := 7) rfl rfl rfl (hb46) rfl rfl (Rd.nes (p := old) (q := HH []) rfl rfl) ?_
                  refine SWz.rd (i := 8) rfl rfl (Rd.pickN rfl (hb46) rfl) ?_
                  refine SWz.nil ?_
                  refine SN.then ?_
                  refine SW.cond rfl (fun hb51 => ?_) (fun hb51 => ?_)
                  · have hs : ¬ old = HH [] := by simpa using hb51
                    refine SW.seq ?_
                    refine SW.region ?_
                    refine SWl.rd rfl (Rd.assign rfl) ?_
                    refine SWl.nil ?_
                    refine SN.then ?_
                    refine SW.ret (fn := Tryd.f34) (fun _ _ h => h) (Rs.le (Rs.one rfl (ResV.tmp rfl)) ?_)
                    exact Le.trans (Le.is (by rw [conOut_0no hg hm0 (fun h => hs h.2)])) le_nw_is
                  · have hs : old = HH [] := by simpa using hb51
                    refine SW.skip ?_
                    refine SN.then ?_
                    refine SW.seq ?_
                    refine SW.region ?_
                    refine SWl.rd rfl (Rd.assign rfl) ?_
                    refine SWl.nil ?_
                    refine SN.then ?_
                    refine SW.ret (fn := Tryd.f34) (fun _ _ h => h) (Rs.le (Rs.one rfl (ResV.tmp rfl)) ?_)
                    exact Le.trans (Le.is (by rw [conOut_0yes hg hm0 hr hs])) le_nw_is
              · have hm0 := of_decide_eq_false hb42
                refine SW.skip ?_
                refine SN.then ?_
                refine SW.seq ?_
                refine SW.region ?_
                obtain ⟨n, rfl⟩ : ∃ k : Nat, n = k := ⟨n.toNat, by omega⟩
                obtain ⟨m, rfl⟩ : ∃ k : Nat, m = k := ⟨m.toNat, by omega⟩
                refine SWl.rd rfl (Rd.move rfl) ?_
                refine SWl.rd rfl (Rd.move rfl) ?_
                refine SWl.rd rfl (Rd.move rfl) ?_
                refine SWl.rd rfl (Rd.str (e := 5) rfl (by kernel_rfl) (by kernel_rfl) (by kernel_rfl) (by simp)) ?_
                refine SWl.rd rfl (Rd.move rfl) ?_
                refine SWl.ef (S := []) (Ef.callR [] (con_conR n m true old p (by omega) (by omega) (by omega) (by omega) hp g6) rfl ⟨Le.refl _, Le.refl _, Le.refl _, Le.refl _, Le.refl _, trivial⟩ (by decide) trivial (fun _ h => h) rfl) ?_
                rintro _ ⟨⟨t58, ht58⟩, rfl⟩
                refine SWl.rd rfl (Rd.move rfl) ?_
                refine SWl.rd rfl (Rd.extract rfl rfl) ?_
                refine SWl.rd rfl (Rd.extract rfl rfl) ?_
                refine SWl.rd rfl (Rd.extract rfl rfl) ?_
                refine SWl.rd rfl (Rd.extract rfl rfl) ?_
                refine SWl.rd rfl (Rd.assign rfl) ?_
                refine SWl.rd rfl (Rd.assign rfl) ?_
                refine SWl.rd rfl (Rd.assign rfl) ?_
                refine SWl.rd rfl (Rd.assign rfl) ?_
                refine SWl.nil ?_
                refine SN.then ?_
                refine SW.seq ?_
                refine SW.seq ?_
                refine SW.region ?_
                refine SWl.rd rfl (Rd.move rfl) ?_
                refine SWl.rd rfl (Rd.not rfl) ?_
                refine SWl.rd rfl (Rd.move rfl) ?_
                refine SWl.split 65 rfl (fun hb65 => ?_) (fun hb65 => ?_)
                · have hz : t58.2.2.2 = false := by simpa using hb65
                  refine SWl.off rfl rfl (hb65) rfl rfl ?_
                  refine SWl.off rfl rfl (hb65) rfl rfl ?_
                  refine SWl.off rfl rfl (hb65) rfl rfl ?_
                  refine SWl.rd rfl (Rd.pickY rfl (hb65) rfl) ?_
                  refine SWl.rd rfl (Rd.move rfl) ?_
                  refine SWl.off rfl rfl (rfl) rfl rfl ?_
                  refine SWl.off rfl rfl (rfl) rfl rfl ?_
                  refine SWl.off rfl rfl (rfl) rfl rfl ?_
                  refine SWl.off rfl rfl (rfl) rfl rfl ?_
                  refine SWl.rd rfl (Rd.pickY rfl (rfl) rfl) ?_
                  refine SWl.rd rfl (Rd.move rfl) ?_
                  refine SWl.off rfl rfl (rfl) rfl rfl ?_
                  refine SWl.off rfl rfl (rfl) rfl rfl ?_
                  refine SWl.off rfl rfl (rfl) rfl rfl ?_
                  refine SWl.off rfl rfl (rfl) rfl rfl ?_
                  refine SWl.rd rfl (Rd.pickY rfl (rfl) rfl) ?_
                  refine SWl.nil ?_
                  refine SN.then ?_
                  refine SW.condT rfl (rfl) ?_
                  refine SW.seq ?_
                  refine SW.region ?_
                  refine SWl.rd rfl (Rd.assign rfl) ?_
                  refine SWl.nil ?_
                  refine SN.then ?_
                  refine SW.ret (fn := Tryd.f34) (fun _ _ h => h) (Rs.le (Rs.one rfl (ResV.tmp rfl)) ?_)
                  exact Le.trans (Le.is (by rw [conOut_no hg hm0 (by rw [Int.toNat_natCast, Int.toNat_natCast, ht58.1]; simp [hz])])) le_nw_is
                · have hz : t58.2.2.2 = true := by simpa using hb65
                  refine SWl.rdg rfl rfl (hb65) rfl rfl (Rd.move rfl) ?_
                  refine SWl.rdg rfl rfl (hb65) rfl rfl (Rd.lenR (e := 28) rfl (by kernel_rfl)) ?_
                  refine SWl.rdg rfl rfl (hb65) rfl rfl (Rd.gtr rfl rfl) ?_
                  refine SWl.rd rfl (Rd.pickN rfl (hb65) rfl) ?_
                  refine SWl.rd rfl (Rd.move rfl) ?_
                  refine SWl.split 70 rfl (fun hb70 => ?_) (fun hb70 => ?_)
                  · have hr : t58.2.2.1 ≠ [] := by intro e; rw [e] at hb70; simp at hb70
                    refine SWl.off rfl rfl (hb70) rfl rfl ?_
                    refine SWl.off rfl rfl (hb70) rfl rfl ?_
                    refine SWl.off rfl rfl (hb70) rfl rfl ?_
                    refine SWl.off rfl rfl (hb70) rfl rfl ?_
                    refine SWl.rd rfl (Rd.pickY rfl (hb70) rfl) ?_
                    refine SWl.rd rfl (Rd.move rfl) ?_
                    refine SWl.off rfl rfl (rfl) rfl rfl ?_
                    refine SWl.off rfl rfl (rfl) rfl rfl ?_
                    refine SWl.off rfl rfl (rfl) rfl rfl ?_
                    refine SWl.off rfl rfl (rfl) rfl rfl ?_
                    refine SWl.rd rfl (Rd.pickY rfl (rfl) rfl) ?_
                    refine SWl.nil ?_
                    refine SN.then ?_
                    refine SW.condT rfl (rfl) ?_
                    refine SW.seq ?_
                    refine SW.region ?_
                    refine SWl.rd rfl (Rd.assign rfl) ?_
                    refine SWl.nil ?_
                    refine SN.then ?_
                    refine SW.ret (fn := Tryd.f34) (fun _ _ h => h) (Rs.le (Rs.one rfl (ResV.tmp rfl)) ?_)
                    exact Le.trans (Le.is (by rw [conOut_no hg hm0 (by rw [Int.toNat_natCast, Int.toNat_natCast, ht58.1]; simp [hr])])) le_nw_is
                  · have hr : t58.2.2.1 = [] := by simpa using hb70
                    refine SWl.rdg rfl rfl (hb70) rfl rfl (Rd.move rfl) ?_
                    refine SWl.rdg rfl rfl (hb70) rfl rfl (Rd.move rfl) ?_
                    refine SWl.rdg rfl rfl (hb70) rfl rfl (Rd.str (e := 5) rfl (by kernel_rfl) (by kernel_rfl) (by kernel_rfl) (by simp)) ?_
                    refine SWl.rdg rfl rfl (hb70) rfl rfl (Rd.nes (p := t58.1) (q := old) rfl rfl) ?_
                    refine SWl.rd rfl (Rd.pickN rfl (hb70) rfl) ?_
                    refine SWl.rd rfl (Rd.move rfl) ?_
                    refine SWl.split 76 rfl (fun hb76 => ?_) (fun hb76 => ?_)
                    · have hs : ¬ t58.1 = old := by simpa using hb76
                      refine SWl.off rfl rfl (hb76) rfl rfl ?_
                      refine SWl.off rfl rfl (hb76) rfl rfl ?_
                      refine SWl.off rfl rfl (hb76) rfl rfl ?_
                      refine SWl.off rfl rfl (hb76) rfl rfl ?_
                      refine SWl.rd rfl (Rd.pickY rfl (hb76) rfl) ?_
                      refine SWl.nil ?_
                      refine SN.then ?_
                      refine SW.condT rfl (rfl) ?_
                      refine SW.seq ?_
                      refine SW.region ?_
                      refine SWl.rd rfl (Rd.assign rfl) ?_
                      refine SWl.nil ?_
                      refine SN.then ?_
                      refine SW.ret (fn := Tryd.f34) (fun _ _ h => h) (Rs.le (Rs.one rfl (ResV.tmp rfl)) ?_)
                      exact Le.trans (Le.is (by rw [conOut_no hg hm0 (by rw [Int.toNat_natCast, Int.toNat_natCast, ht58.1]; rw [if_pos ⟨hz, hr⟩]; simp [hs])])) le_nw_is
                    · have hs : t58.1 = old := by simpa using hb76
                      refine SWl.rdg rfl rfl (hb76) rfl rfl (Rd.move rfl) ?_
                      refine SWl.rdg rfl rfl (hb76) rfl rfl (Rd.move rfl) ?_
                      refine SWl.rdg rfl rfl (hb76) rfl rfl (Rd.str (e := 5) rfl (by kernel_rfl) (by kernel_rfl) (by kernel_rfl) (by simp)) ?_
                      refine SWl.rdg rfl rfl (hb76) rfl rfl (Rd.nes (p := t58.2.1) (q := new) rfl rfl) ?_
                      refine SWl.rd rfl (Rd.pickN rfl (hb76) rfl) ?_
                      refine SWl.nil ?_
                      refine SN.then ?_
                      refine SW.cond rfl (fun hb81 => ?_) (fun hb81 => ?_)
                      · have hu : ¬ t58.2.1 = new := by simpa using hb81
                        refine SW.seq ?_
                        refine SW.region ?_
                        refine SWl.rd rfl (Rd.assign rfl) ?_
                        refine SWl.nil ?_
                        refine SN.then ?_
                        refine SW.ret (fn := Tryd.f34) (fun _ _ h => h) (Rs.le (Rs.one rfl (ResV.tmp rfl)) ?_)
                        exact Le.trans (Le.is (by rw [conOut_no hg hm0 (by rw [Int.toNat_natCast, Int.toNat_natCast, ht58.1]; rw [if_pos ⟨hz, hr⟩]; simp [hu])])) le_nw_is
                      · have hu : t58.2.1 = new := by simpa using hb81
                        refine SW.skip ?_
                        refine SN.then ?_
                        refine SW.seq ?_
                        refine SW.region ?_
                        refine SWl.rd rfl (Rd.assign rfl) ?_
                        refine SWl.nil ?_
                        refine SN.then ?_
                        refine SW.ret (fn := Tryd.f34) (fun _ _ h => h) (Rs.le (Rs.one rfl (ResV.tmp rfl)) ?_)
                        exact Le.trans (Le.is (by rw [conOut_yes hg hm0 (by rw [Int.toNat_natCast, Int.toNat_natCast, ht58.1, if_pos ⟨hz, hr⟩, hs, hu])])) le_nw_is
end Sx
end Go.Proofs.YtonjpfpdpfonnaaDoor
