/-
  LEDGERS: LedgerRejects.
-/
import Derived.Test.YtonjpfpdpfonnaaDoorL40
import Derived.Test.YtonjpfpdpfonnaaDoorReg8
namespace Go.Proofs.YtonjpfpdpfonnaaDoor
open Go.RowKit
namespace Sx
theorem path_32 {es : List Led.Ent} {m : Nat} (h : m ≤ es.length) : ∀ d ∈ cpath es m, d.length = 32 := by
  unfold cpath
  split
  · intro d hd; simp at hd
  · exact cons_32 _ es m true (Nat.le_refl _) (by omega) h
theorem path_len {es : List Led.Ent} {m : Nat} (h : m ≤ es.length) : (cpath es m).length ≤ es.length := by
  unfold cpath
  split
  · simp
  · exact cons_le es m true (by omega) h
set_option maxHeartbeats 4000000 in
set_option maxRecDepth 100000 in
theorem ledgerRejects_con (l : List Led.Ent) (i m : UInt8) (k z : Int) (hl : l.length ≤ 9223372036854775807) : ConN Tryd.prog 8 [lsD encE l, isD (B8 i), isD (B8 m), aggD [iD k, iD z]] (boolD true) := by
  refine con_ofN Tryd.func8 (by kernel_rfl) rfl (by kernel_rfl) fun base w0 => ?_
  refine SW.seq ?_
  refine SW.region ?_
  refine SWl.ef (S := []) (Ef.boxA rfl rfl) ?_
  rintro _ ⟨g7, rfl⟩
  refine SWl.rd rfl (Rd.assign rfl) ?_
  refine SWl.nil ?_
  refine SN.then ?_
  refine SW.seq ?_
  refine SW.seq ?_
  refine SW.region ?_
  refine SWl.rd rfl (Rd.move rfl) ?_
  refine SWl.ef (S := []) (Ef.callN [] (con_few l 20 hl) rfl ⟨(sees_le (Le.refl _)), (sees_le (Le.refl _)), trivial⟩ rfl) ?_
  rintro _ rfl
  refine SWl.rd rfl (Rd.not rfl) ?_
  refine SWl.nil ?_
  refine SN.then ?_
  refine SW.cond rfl (fun hb25 => ?_) (fun hb25 => ?_)
  · skip
    refine SW.seq ?_
    refine SW.region ?_
    refine SWl.ef (S := []) (Ef.callN [] (con_known43) rfl trivial rfl) ?_
    rintro _ rfl
    refine SWl.rd rfl (Rd.assign rfl) ?_
    refine SWl.nil ?_
    refine SN.then ?_
    refine SW.ret (fn := Tryd.f8) (fun _ _ h => h) (Rs.le (Rs.one rfl (ResV.tmp rfl)) ?_)
    exact le_bool_n (by rfl)
  · have hq := of_decide_eq_true (show decide ((∀ e ∈ l, e.bytes.length ≤ 200) ∧ l.length ≤ 20) = true from by simpa using hb25)
    refine SW.skip ?_
    refine SN.then ?_
    refine SW.seq ?_
    refine SW.region ?_
    refine SWl.rd rfl (Rd.move rfl) ?_
    refine SWl.ef (S := []) (Ef.callR [] (con_made l (by omega) (fun e he => by have := hq.1 e he; omega)) rfl ⟨Le.refl _, trivial⟩ (by decide) trivial (fun _ h => h) rfl) ?_
    rintro _ ⟨⟨ga, sa⟩, rfl⟩
    refine SWl.rd rfl (Rd.move rfl) ?_
    refine SWl.rd rfl (Rd.extract rfl rfl) ?_
    refine SWl.rd rfl (Rd.extract rfl rfl) ?_
    refine SWl.rd rfl (Rd.extract rfl rfl) ?_
    refine SWl.rd rfl (Rd.assign rfl) ?_
    refine SWl.rd rfl (Rd.assign rfl) ?_
    refine SWl.rd rfl (Rd.assign rfl) ?_
    refine SWl.nil ?_
    refine SN.then ?_
    refine SW.seq ?_
    refine SW.seq ?_
    refine SW.region ?_
    refine SWl.rd rfl (Rd.move rfl) ?_
    refine SWl.rd rfl (Rd.not rfl) ?_
    refine SWl.rd rfl (Rd.move rfl) ?_
    refine SWl.rdg rfl rfl (rfl) rfl rfl (Rd.move rfl) ?_
    refine SWl.rdg rfl rfl (rfl) rfl rfl (Rd.lenR (e := 44) rfl (by kernel_rfl)) ?_
    refine SWl.rdg rfl rfl (rfl) rfl rfl (Rd.eqi rfl rfl) ?_
    refine SWl.rd rfl (Rd.pickN rfl (rfl) rfl) ?_
    refine SWl.nil ?_
    refine SN.then ?_
    refine SW.cond rfl (fun hb39 => ?_) (fun hb39 => ?_)
    · skip
      refine SW.seq ?_
      refine SW.region ?_
      refine SWl.rd rfl (Rd.move rfl) ?_
      refine SWl.rd rfl (Rd.move rfl) ?_
      refine SWl.efg (S := []) rfl rfl (rfl) rfl (Ef.callN [] (con_known43) rfl trivial rfl) ?_
      rintro _ rfl
      refine SWl.rd rfl (Rd.pickY rfl (rfl) rfl) ?_
      refine SWl.rd rfl (Rd.assign rfl) ?_
      refine SWl.nil ?_
      refine SN.then ?_
      refine SW.ret (fn := Tryd.f8) (fun _ _ h => h) (Rs.le (Rs.one rfl (ResV.tmp rfl)) ?_)
      exact le_bool_n (by rfl)
    · have hpos : 0 < (Led.fits l).length := by have := of_decide_eq_false hb39; omega
      refine SW.skip ?_
      refine SN.then ?_
      refine SW.seq ?_
      obtain ⟨f0, hf0⟩ : ∃ f, f = Led.fits l := ⟨_, rfl⟩
      have hfl : f0.length ≤ 20 := by rw [hf0]; exact Nat.le_trans (fits_len l) hq.2
      have hfp : 0 < f0.length := by rw [hf0]; exact hpos
      refine SW.sub (σ' := St.ob [(1, isD (B8 i)), (2, isD (B8 m)), (7, isD (.pointer (some ⟨g7, 0, none⟩))), (9, isD (.pointer (some ⟨ga, 0, none⟩))), (10, lsD encE f0)] [.c g7 [iD k, iD z], .c ga [isD (.slice sa.A (f0).length sa.c), isD (.map sa.M)], ledE sa (f0), ledM sa (f0)]) (⟨⟨_, rfl, ⟨⟨_, rfl, Le.refl _⟩, ⟨⟨_, rfl, Le.refl _⟩, ⟨⟨_, rfl, Le.refl _⟩, ⟨⟨_, rfl, Le.refl _⟩, ⟨⟨_, rfl, (by rw [hf0]; exact Le.refl _)⟩, trivial⟩⟩⟩⟩⟩⟩, [0, 1, 2, 3], by decide, ⟨⟨_, rfl, LeAll.refl _⟩, ⟨⟨_, rfl, ⟨Le.is (by rw [hf0]), Le.refl _, trivial⟩⟩, ⟨⟨_, rfl, leVec (by rw [hf0]) (by rw [hf0])⟩, ⟨⟨_, rfl, leMap (by rw [hf0]) (by rw [hf0])⟩, trivial⟩⟩⟩⟩⟩) ?_
      refine SW.region ?_
      refine SWl.rd rfl (Rd.move rfl) ?_
      refine SWl.rd rfl (Rd.lenR (e := 44) rfl (by kernel_rfl)) ?_
      refine SWl.rd rfl (Rd.assign rfl) ?_
      refine SWl.nil ?_
      refine SN.then ?_
      refine SW.seq ?_
      refine SW.draw [] (.r 0 (.r 1 (.r 2 (.r 3 (.r 4 (.r 5 (.r 6 (.r 7 (.r 8 (.r 9 (.r 10 .fin))))))))))) (by kernel_rfl) (by kernel_rfl) (fun d _ _ _ _ h => by cases d <;> exact h) ?_
      refine SWz.rd (i := 0) rfl rfl (Rd.move rfl) ?_
      refine SWz.rd (i := 1) rfl rfl (Rd.cvW .u8 rfl (by kernel_rfl) (by kernel_rfl) (show IntKind.wrap .i64 (i.toNat : Int) = (i.toNat : Int) from i64_small (by have := i.toNat_lt; omega))) ?_
      refine SWz.rd (i := 2) rfl rfl (Rd.move rfl) ?_
      refine SWz.rd (i := 3) rfl rfl (Rd.mono (Rd.remN rfl rfl ⟨by omega, by omega⟩) (show Le _ (iD ((i.toNat % f0.length : Nat) : Int)) from Le.is (by simp))) ?_
      refine SWz.rd (i := 4) rfl rfl (Rd.move rfl) ?_
      refine SWz.rd (i := 5) rfl rfl (Rd.cvW .u8 rfl (by kernel_rfl) (by kernel_rfl) (show IntKind.wrap .i64 (m.toNat : Int) = (m.toNat : Int) from i64_small (by have := m.toNat_lt; omega))) ?_
      refine SWz.rd (i := 6) rfl rfl (Rd.move rfl) ?_
      refine SWz.rd (i := 7) rfl rfl (Rd.add rfl rfl ⟨by omega, by omega⟩) ?_
      refine SWz.rd (i := 8) rfl rfl (Rd.mono (Rd.remN rfl rfl ⟨by omega, by omega⟩) (show Le _ (iD ((m.toNat % (f0.length + 1) : Nat) : Int)) from Le.is (by simp))) ?_
      refine SWz.rd (i := 9) rfl rfl (Rd.assign rfl) ?_
      refine SWz.rd (i := 10) rfl rfl (Rd.assign rfl) ?_
      refine SWz.nil ?_
      refine SN.then ?_
      refine SW.seq ?_
      obtain ⟨ix, hix⟩ : ∃ a, a = i.toNat % f0.length := ⟨_, rfl⟩
      obtain ⟨fi, hfi⟩ : ∃ a, a = m.toNat % (f0.length + 1) := ⟨_, rfl⟩
      have hixl : ix < f0.length := by rw [hix]; exact Nat.mod_lt _ hfp
      have hfil : fi ≤ f0.length := by have := Nat.mod_lt m.toNat (show 0 < f0.length + 1 by omega); omega
      refine SW.sub (σ' := St.ob [(7, isD (.pointer (some ⟨g7, 0, none⟩))), (9, isD (.pointer (some ⟨ga, 0, none⟩))), (10, lsD encE f0), (12, iD (f0.length : Int)), (13, iD (ix : Int)), (14, iD (fi : Int))] [.c g7 [iD k, iD z], .c ga [isD (.slice sa.A (f0).length sa.c), isD (.map sa.M)], ledE sa (f0), ledM sa (f0)]) (⟨⟨_, rfl, ⟨⟨_, rfl, Le.refl _⟩, ⟨⟨_, rfl, Le.refl _⟩, ⟨⟨_, rfl, Le.refl _⟩, ⟨⟨_, rfl, Le.refl _⟩, ⟨⟨_, rfl, Le.is (by rw [hix])⟩, ⟨⟨_, rfl, Le.is (by rw [hfi])⟩, trivial⟩⟩⟩⟩⟩⟩⟩, [0, 1, 2, 3], by decide, ⟨⟨_, rfl, LeAll.refl _⟩, ⟨⟨_, rfl, LeAll.refl _⟩, ⟨⟨_, rfl, LeR.refl _⟩, ⟨⟨_, rfl, LeR.refl _⟩, trivial⟩⟩⟩⟩⟩) ?_
      refine SW.region ?_
      refine SWl.rd rfl (Rd.move rfl) ?_
      refine SWl.rd rfl (Rd.move rfl) ?_
      refine SWl.ef (S := []) (Ef.callRS [1, 2, 3] (con_rootO f0 (by omega) f0.length (Nat.le_refl _)) (fun _ => inferInstance) (fun _ b hb => by simp at hb; subst hb; infer_instance) rfl ⟨(sees_box 1 rfl (by decide) ⟨(sees_vec 2 rfl (by decide)), (sees_map 3 rfl (by decide)), trivial⟩), (sees_le (Le.refl _)), trivial⟩ rfl) ?_
      rintro _ ⟨s58, rfl⟩
      refine SWl.rd rfl (Rd.move rfl) ?_
      refine SWl.rd rfl (Rd.extract rfl rfl) ?_
      refine SWl.rd rfl (Rd.extract rfl rfl) ?_
      refine SWl.rd rfl (Rd.assign rfl) ?_
      refine SWl.rd rfl (Rd.assign rfl) ?_
      refine SWl.nil ?_
      refine SN.then ?_
      refine SW.seq ?_
      refine SW.region ?_
      refine SWl.rd rfl (Rd.move rfl) ?_
      refine SWl.rd rfl (Rd.move rfl) ?_
      refine SWl.ef (S := []) (Ef.callN [1, 2, 3] (con_root f0 (by omega) fi (by omega)) rfl ⟨(sees_box 1 rfl (by decide) ⟨(sees_vec 2 rfl (by decide)), (sees_map 3 rfl (by decide)), trivial⟩), (sees_le (Le.refl _)), trivial⟩ rfl) ?_
      rintro _ rfl
      refine SWl.rd rfl (Rd.move rfl) ?_
      refine SWl.rd rfl (Rd.extract rfl rfl) ?_
      refine SWl.rd rfl (Rd.extract rfl rfl) ?_
      refine SWl.rd rfl (Rd.assign rfl) ?_
      refine SWl.rd rfl (Rd.assign rfl) ?_
      refine SWl.nil ?_
      refine SN.then ?_
      refine SW.seq ?_
      refine SW.region ?_
      refine SWl.rd rfl (Rd.move rfl) ?_
      refine SWl.rd rfl (Rd.move rfl) ?_
      refine SWl.rd rfl (Rd.move rfl) ?_
      refine SWl.ef (S := []) (Ef.callN [1, 2, 3] (con_inclusion f0 (by omega) ix f0.length (by omega) (Nat.le_refl _)) rfl ⟨(sees_box 1 rfl (by decide) ⟨(sees_vec 2 rfl (by decide)), (sees_map 3 rfl (by decide)), trivial⟩), (sees_le (Le.refl _)), (sees_le (Le.refl _)), trivial⟩ rfl) ?_
      rintro _ rfl
      refine SWl.rd rfl (Rd.move rfl) ?_
      refine SWl.rd rfl (Rd.extract rfl rfl) ?_
      refine SWl.rd rfl (Rd.extract rfl rfl) ?_
      refine SWl.ef (S := []) (Ef.alloc (zs := [.slice none 0 0]) (by kernel_rfl) rfl) ?_
      rintro _ ⟨g19, rfl⟩
      refine SWl.ef (S := [_]) (Ef.storeA 5 rfl rfl rfl (by kernel_rfl) rfl (List.mem_singleton.2 rfl)) ?_
      rintro _ rfl
      refine SWl.rd rfl (Rd.assign rfl) ?_
      refine SWl.nil ?_
      refine SN.then ?_
      refine SW.seq ?_
      refine SW.region ?_
      refine SWl.rd rfl (Rd.move rfl) ?_
      refine SWl.rd rfl (Rd.move rfl) ?_
      refine SWl.rd rfl (Rd.move rfl) ?_
      refine SWl.ef (S := []) (Ef.callN [1, 2, 3] (con_consistency_any f0 (by omega) fi (by omega)) rfl ⟨(sees_box 1 rfl (by decide) ⟨(sees_vec 2 rfl (by decide)), (sees_map 3 rfl (by decide)), trivial⟩), (sees_le (Le.refl _)), (sees_le (Le.refl _)), trivial⟩ rfl) ?_
      rintro _ rfl
      refine SWl.rd rfl (Rd.move rfl) ?_
      refine SWl.rd rfl (Rd.extract rfl rfl) ?_
      refine SWl.rd rfl (Rd.extract rfl rfl) ?_
      refine SWl.ef (S := []) (Ef.alloc (zs := [.slice none 0 0]) (by kernel_rfl) rfl) ?_
      rintro _ ⟨g21, rfl⟩
      refine SWl.ef (S := [_]) (Ef.storeA 6 rfl rfl rfl (by kernel_rfl) rfl (List.mem_singleton.2 rfl)) ?_
      rintro _ rfl
      refine SWl.rd rfl (Rd.assign rfl) ?_
      refine SWl.nil ?_
      refine SN.then ?_
      refine SW.seq ?_
      refine SW.seq ?_
      obtain ⟨p1, hp1⟩ : ∃ p, p = Led.incl HH (f0.take f0.length) ix := ⟨_, rfl⟩
      obtain ⟨p2, hp2⟩ : ∃ p, p = cpath f0 fi := ⟨_, rfl⟩
      have hp1l : p1.length ≤ 20 := by have := incl_le _ (f0.take f0.length) ix (Nat.le_refl _); rw [← hp1] at this; simp at *; omega
      have hp2l : p2.length ≤ 20 := by rw [hp2]; have := path_len hfil; omega
      have hp1b : ∀ b ∈ p1, b.length ≤ 100000 := fun b hb => by rw [hp1] at hb; have := incl_32 _ _ _ (Nat.le_refl _) b hb; omega
      have hp2b : ∀ b ∈ p2, b.length ≤ 100000 := fun b hb => by rw [hp2] at hb; have := path_32 hfil b hb; omega
      obtain ⟨rt, hrt⟩ : ∃ r, r = Led.root HH (f0.take f0.length) := ⟨_, rfl⟩
      have hrl : rt.length = 32 := by rw [hrt]; simp
      obtain ⟨od, hod⟩ : ∃ r, r = Led.root HH (f0.take fi) := ⟨_, rfl⟩
      have hol : od.length = 32 := by rw [hod]; simp
      refine SW.sub (σ' := St.ob [(7, isD (.pointer (some ⟨g7, 0, none⟩))), (9, isD (.pointer (some ⟨ga, 0, none⟩))), (10, lsD encE f0), (12, iD (f0.length : Int)), (13, iD (ix : Int)), (14, iD (fi : Int)), (15, isD (.slice s58.A (rt).length s58.c)), (16, iD 0), (17, bD od), (18, iD 0), (19, isD (.pointer (some ⟨g19, 0, none⟩))), (20, iD 0), (21, isD (.pointer (some ⟨g21, 0, none⟩))), (22, iD 0)] [.c g7 [iD k, iD z], .c ga [isD (.slice sa.A (f0).length sa.c), isD (.map sa.M)], ledE sa (f0), ledM sa (f0), .r s58.F (vecT 5 1 encB s58.A s58.c (rt)), .c g19 [lsD encL p1], .c g21 [lsD encL p2]]) (⟨⟨_, rfl, ⟨⟨_, rfl, Le.refl _⟩, ⟨⟨_, rfl, Le.refl _⟩, ⟨⟨_, rfl, Le.refl _⟩, ⟨⟨_, rfl, Le.refl _⟩, ⟨⟨_, rfl, Le.refl _⟩, ⟨⟨_, rfl, Le.refl _⟩, ⟨⟨_, rfl, Le.is (by rw [hrt])⟩, ⟨⟨_, rfl, Le.refl _⟩, ⟨⟨_, rfl, (by rw [hod]; exact Le.refl _)⟩, ⟨⟨_, rfl, Le.refl _⟩, ⟨⟨_, rfl, Le.refl _⟩, ⟨⟨_, rfl, Le.refl _⟩, ⟨⟨_, rfl, Le.refl _⟩, ⟨⟨_, rfl, Le.refl _⟩, trivial⟩⟩⟩⟩⟩⟩⟩⟩⟩⟩⟩⟩⟩⟩⟩, [0, 1, 2, 3, 4, 5, 6], by decide, ⟨⟨_, rfl, LeAll.refl _⟩, ⟨⟨_, rfl, LeAll.refl _⟩, ⟨⟨_, rfl, LeR.refl _⟩, ⟨⟨_, rfl, LeR.refl _⟩, ⟨⟨_, rfl, leVec (by rw [hrt]) (by rw [hrt])⟩, ⟨⟨_, rfl, ⟨(by rw [hp1]; exact Le.refl _), trivial⟩⟩, ⟨⟨_, rfl, ⟨(by rw [hp2]; exact Le.refl _), trivial⟩⟩, trivial⟩⟩⟩⟩⟩⟩⟩⟩) ?_
      refine SW.region ?_
      refine SWl.rd rfl (Rd.move rfl) ?_
      refine SWl.rd rfl (Rd.nei rfl rfl) ?_
      refine SWl.rd rfl (Rd.move rfl) ?_
      refine SWl.rdg rfl rfl (by rfl) rfl rfl (Rd.move rfl) ?_
      refine SWl.rdg rfl rfl (by rfl) rfl rfl (Rd.nei rfl rfl) ?_
      refine SWl.rd rfl (Rd.pickN rfl (by rfl) rfl) ?_
      refine SWl.rd rfl (Rd.move rfl) ?_
      refine SWl.rdg rfl rfl (by rfl) rfl rfl (Rd.move rfl) ?_
      refine SWl.rdg rfl rfl (by rfl) rfl rfl (Rd.nei rfl rfl) ?_
      refine SWl.rd rfl (Rd.pickN rfl (by rfl) rfl) ?_
      refine SWl.rd rfl (Rd.move rfl) ?_
      refine SWl.rdg rfl rfl (by rfl) rfl rfl (Rd.move rfl) ?_
      refine SWl.rdg rfl rfl (by rfl) rfl rfl (Rd.nei rfl rfl) ?_
      refine SWl.rd rfl (Rd.pickN rfl (by rfl) rfl) ?_
      refine SWl.rd rfl (Rd.move rfl) ?_
      refine SWl.rdg rfl rfl (by rfl) rfl rfl (Rd.move rfl) ?_
      refine SWl.rdg rfl rfl (by rfl) rfl rfl (Rd.lenE (e := 5) rfl (by kernel_rfl)) ?_
      refine SWl.rdg rfl rfl (by rfl) rfl rfl (Rd.nei rfl rfl) ?_
      refine SWl.rd rfl (Rd.pickN rfl (by rfl) rfl) ?_
      refine SWl.rd rfl (Rd.move rfl) ?_
      refine SWl.rdg rfl rfl (by simp [hrl]) rfl rfl (Rd.move rfl) ?_
      refine SWl.rdg rfl rfl (by simp [hrl]) rfl rfl (Rd.len (e := 5) rfl (by kernel_rfl)) ?_
      refine SWl.rdg rfl rfl (by simp [hrl]) rfl rfl (Rd.nei rfl rfl) ?_
      refine SWl.rd rfl (Rd.pickN rfl (by simp [hrl]) rfl) ?_
      refine SWl.nil ?_
      refine SN.then ?_
      refine SW.condF rfl (by simp [hol]) ?_
      refine SW.skip ?_
      refine SN.then ?_
      refine SW.seq ?_
      refine SW.drawT (g19 :: (g21 :: [])) (.q 0 (.r 1 (.q 3 (.r 4 (.n 2 (.n 5 (.e 6 (.e 7 .fin .no) .no) .no) .no))))) (by kernel_rfl) (by kernel_rfl) (fun d _ _ _ _ h => by cases d <;> exact h) ?_
      refine SWz.rq (i := 0) rfl rfl (Rd.loadA 5 1 rfl rfl (by kernel_rfl) rfl ap_nil) ?_
      refine SWz.rd (i := 1) rfl rfl (Rd.loadA 0 2 rfl rfl (by kernel_rfl) rfl (ap_cons 5 rfl (by decide) (ap_cons 6 rfl (by decide) ap_nil))) ?_
      refine SWz.rq (i := 3) rfl rfl (Rd.loadA 6 1 rfl rfl (by kernel_rfl) rfl ap_nil) ?_
      refine SWz.rd (i := 4) rfl rfl (Rd.loadA 0 2 rfl rfl (by kernel_rfl) rfl (ap_cons 5 rfl (by decide) (ap_cons 6 rfl (by decide) ap_nil))) ?_
      refine SWz.efl (i := 2) rfl (EfL.callR (con_changed p1 k z (by omega) hp1b) rfl ⟨Le.refl _, Le.refl _, trivial⟩ rfl) ?_ SWz.no
      rintro _ _ ⟨q1, rfl, rfl⟩
      refine SWz.efl (i := 5) rfl (EfL.callR (con_changed p2 k z (by omega) hp2b) rfl ⟨Le.refl _, Le.refl _, trivial⟩ rfl) ?_ SWz.no
      rintro _ _ ⟨q2, rfl, rfl⟩
      refine SWz.efe (i := 6) rfl (Ef.storeA 5 rfl rfl rfl (by kernel_rfl) rfl (List.mem_cons_self)) ?_ SWz.no
      rintro _ rfl
      refine SWz.efe (i := 7) rfl (Ef.storeA 6 rfl rfl rfl (by kernel_rfl) rfl (List.mem_cons_of_mem _ (List.mem_cons_self))) ?_ SWz.no
      rintro _ rfl
      refine SWz.nil ?_
      refine SN.then ?_
      refine SW.seq ?_
      refine SW.meet (fun σ => ∃ (n : Int) (rt od : List UInt8), True ∧ σ = St.ob [(10, lsD encE f0), (12, iD n), (13, iD (ix : Int)), (14, iD (fi : Int)), (15, bD rt), (17, bD od), (19, isD (.pointer (some ⟨g19, 0, none⟩))), (21, isD (.pointer (some ⟨g21, 0, none⟩)))] [.c g19 [lsD encL q1.1], .c g21 [lsD encL q2.1]]) ?_ ?_
      · refine SW.block ?_
        refine SW.seq ?_
        refine SW.region ?_
        refine SWl.rd rfl (Rd.fieldAddr (n := 0) rfl (by kernel_rfl)) ?_
        refine SWl.rd rfl (Rd.loadB 0 rfl rfl rfl (by kernel_rfl) ap_nil) ?_
        refine SWl.rd rfl (Rd.eqi rfl rfl) ?_
        refine SWl.rd rfl (Rd.assign rfl) ?_
        refine SWl.nil ?_
        refine SN.then ?_
        refine SW.cond rfl (fun hb111 => ?_) (fun hb111 => ?_)
        · skip
          refine SW.region ?_
          refine SWl.rd rfl (Rd.move rfl) ?_
          refine SWl.rd rfl (Rd.add rfl rfl ⟨by omega, by omega⟩) ?_
          refine SWl.rd rfl (Rd.assign rfl) ?_
          refine SWl.nil ?_
          refine SN.block ?_
          refine SN.freezeT 4 15 rfl rfl (le_ls_b _) ?_
          exact SN.meet ⟨(f0.length : Int) + 1, rt, od, trivial, rfl⟩ (⟨⟨_, rfl, ⟨⟨_, rfl, Le.refl _⟩, ⟨⟨_, rfl, Le.refl _⟩, ⟨⟨_, rfl, Le.refl _⟩, ⟨⟨_, rfl, Le.refl _⟩, ⟨⟨_, rfl, Le.refl _⟩, ⟨⟨_, rfl, Le.refl _⟩, ⟨⟨_, rfl, Le.refl _⟩, ⟨⟨_, rfl, Le.refl _⟩, trivial⟩⟩⟩⟩⟩⟩⟩⟩⟩, [4, 5], by decide, ⟨⟨_, rfl, LeAll.refl _⟩, ⟨⟨_, rfl, LeAll.refl _⟩, trivial⟩⟩⟩)
        · skip
          refine SW.seq ?_
          refine SW.region ?_
          refine SWl.rd rfl (Rd.fieldAddr (n := 0) rfl (by kernel_rfl)) ?_
          refine SWl.rd rfl (Rd.loadB 0 rfl rfl rfl (by kernel_rfl) ap_nil) ?_
          refine SWl.rd rfl (Rd.eqi rfl rfl) ?_
          refine SWl.rd rfl (Rd.assign rfl) ?_
          refine SWl.nil ?_
          refine SN.then ?_
          refine SW.cond rfl (fun hb117 => ?_) (fun hb117 => ?_)
          · skip
            refine SW.region ?_
            refine SWl.rd rfl (Rd.move rfl) ?_
            refine SWl.ef (S := []) (Ef.callN [1, 2, 3] (con_root f0 (by omega) 0 (Nat.zero_le _)) rfl ⟨(sees_box 1 rfl (by decide) ⟨(sees_vec 2 rfl (by decide)), (sees_map 3 rfl (by decide)), trivial⟩), (sees_le (Le.refl _)), trivial⟩ rfl) ?_
            rintro _ rfl
            refine SWl.rd rfl (Rd.move rfl) ?_
            refine SWl.rd rfl (Rd.extract rfl rfl) ?_
            refine SWl.rd rfl (Rd.extract rfl rfl) ?_
            refine SWl.rd rfl (Rd.assign rfl) ?_
            refine SWl.nil ?_
            refine SN.block ?_
            refine SN.freezeT 4 15 rfl rfl (le_ls_b _) ?_
            exact SN.meet ⟨(f0.length : Int), rt, Led.root HH (f0.take 0), trivial, rfl⟩ (⟨⟨_, rfl, ⟨⟨_, rfl, Le.refl _⟩, ⟨⟨_, rfl, Le.refl _⟩, ⟨⟨_, rfl, Le.refl _⟩, ⟨⟨_, rfl, Le.refl _⟩, ⟨⟨_, rfl, Le.refl _⟩, ⟨⟨_, rfl, Le.refl _⟩, ⟨⟨_, rfl, Le.refl _⟩, ⟨⟨_, rfl, Le.refl _⟩, trivial⟩⟩⟩⟩⟩⟩⟩⟩⟩, [4, 5], by decide, ⟨⟨_, rfl, LeAll.refl _⟩, ⟨⟨_, rfl, LeAll.refl _⟩, trivial⟩⟩⟩)
          · skip
            refine SW.seq ?_
            refine SW.region ?_
            refine SWl.rd rfl (Rd.fieldAddr (n := 0) rfl (by kernel_rfl)) ?_
            refine SWl.rd rfl (Rd.loadB 0 rfl rfl rfl (by kernel_rfl) ap_nil) ?_
            refine SWl.rd rfl (Rd.lss rfl rfl) ?_
            refine SWl.rd rfl (Rd.move rfl) ?_
            refine SWl.split 130 rfl (fun hb130 => ?_) (fun hb130 => ?_)
            · skip
              refine SWl.off rfl rfl (hb130) rfl rfl ?_
              refine SWl.off rfl rfl (hb130) rfl rfl ?_
              refine SWl.off rfl rfl (hb130) rfl rfl ?_
              refine SWl.rd rfl (Rd.pickY rfl (hb130) rfl) ?_
              refine SWl.rd rfl (Rd.assign rfl) ?_
              refine SWl.nil ?_
              refine SN.then ?_
              refine SW.condT rfl (rfl) ?_
              obtain ⟨j, hj⟩ : ∃ j, j = (IntKind.wrap .u64 z).toNat % 32 := ⟨_, rfl⟩
              have hjl : j < 32 := by rw [hj]; exact Nat.mod_lt _ (by decide)
              obtain ⟨b, hb⟩ : ∃ b, rt[j]? = some b := ⟨_, List.getElem?_eq_getElem (by omega)⟩
              refine SW.region ?_
              refine SWl.rd rfl (Rd.move rfl) ?_
              refine SWl.rd rfl (Rd.fieldAddr (n := 1) rfl (by kernel_rfl)) ?_
              refine SWl.rd rfl (Rd.loadB 0 rfl rfl rfl (by kernel_rfl) ap_nil) ?_
              refine SWl.rd rfl (Rd.cvW .i64 rfl (by kernel_rfl) (by kernel_rfl) (show IntKind.wrap .u64 z = IntKind.wrap .u64 z from rfl)) ?_
              refine SWl.rd rfl (Rd.remW rfl rfl (by decide) (show _ = ((j : Nat) : Int) from by rw [hj]; exact uidx (n := 32))) ?_
              refine SWl.rd rfl (Rd.cvW .u64 rfl (by kernel_rfl) (by kernel_rfl) (show IntKind.wrap .i64 (j : Int) = (j : Int) from i64_small (by omega))) ?_
              refine SWl.rd rfl (Rd.idxT 4 1 rfl rfl rfl (by kernel_rfl) (by kernel_rfl) (by omega) (by simp; omega)) ?_
              refine SWl.rd rfl (Rd.loadT1 4 rfl rfl (by kernel_rfl) hb rfl ap_nil) ?_
              refine SWl.rd rfl (Rd.addB (b := 1) rfl rfl) ?_
              refine SWl.weak 15 rfl (show Le _ (isD (.slice s58.A (rt.set j (b + 1)).length s58.c)) from Le.is (by simp)) ?_
              refine SWl.rd rfl (Rd.idxT 4 1 rfl rfl rfl (by kernel_rfl) (by kernel_rfl) (by omega) (by simp; omega)) ?_
              refine SWl.ef (S := _) (Ef.storeT1 (v := b + 1) 4 rfl rfl rfl rfl (by kernel_rfl) (by simp; omega) (fun _ h => h)) ?_
              rintro _ rfl
              refine SWl.nil ?_
              refine SN.block ?_
              refine SN.freezeT 6 15 rfl rfl (le_ls_b _) ?_
              exact SN.meet ⟨(f0.length : Int), rt.set j (b + 1), od, trivial, rfl⟩ (⟨⟨_, rfl, ⟨⟨_, rfl, Le.refl _⟩, ⟨⟨_, rfl, Le.refl _⟩, ⟨⟨_, rfl, Le.refl _⟩, ⟨⟨_, rfl, Le.refl _⟩, ⟨⟨_, rfl, Le.refl _⟩, ⟨⟨_, rfl, Le.refl _⟩, ⟨⟨_, rfl, Le.refl _⟩, ⟨⟨_, rfl, Le.refl _⟩, trivial⟩⟩⟩⟩⟩⟩⟩⟩⟩, [4, 5], by decide, ⟨⟨_, rfl, LeAll.refl _⟩, ⟨⟨_, rfl, LeAll.refl _⟩, trivial⟩⟩⟩)
            · skip
              refine SWl.rdg rfl rfl (hb130) rfl rfl (Rd.fieldAddr (n := 0) rfl (by kernel_rfl)) ?_
              refine SWl.rdg rfl rfl (hb130) rfl rfl (Rd.loadB 0 rfl rfl rfl (by kernel_rfl) ap_nil) ?_
              refine SWl.rdg rfl rfl (hb130) rfl rfl (Rd.gtr rfl rfl) ?_
              refine SWl.rd rfl (Rd.pickN rfl (hb130) rfl) ?_
              refine SWl.rd rfl (Rd.assign rfl) ?_
              refine SWl.nil ?_
              refine SN.then ?_
              refine SW.cond rfl (fun hb126 => ?_) (fun hb126 => ?_)
              · skip
                obtain ⟨j, hj⟩ : ∃ j, j = (IntKind.wrap .u64 z).toNat % 32 := ⟨_, rfl⟩
                have hjl : j < 32 := by rw [hj]; exact Nat.mod_lt _ (by decide)
                obtain ⟨b, hb⟩ : ∃ b, rt[j]? = some b := ⟨_, List.getElem?_eq_getElem (by omega)⟩
                refine SW.region ?_
                refine SWl.rd rfl (Rd.move rfl) ?_
                refine SWl.rd rfl (Rd.fieldAddr (n := 1) rfl (by kernel_rfl)) ?_
                refine SWl.rd rfl (Rd.loadB 0 rfl rfl rfl (by kernel_rfl) ap_nil) ?_
                refine SWl.rd rfl (Rd.cvW .i64 rfl (by kernel_rfl) (by kernel_rfl) (show IntKind.wrap .u64 z = IntKind.wrap .u64 z from rfl)) ?_
                refine SWl.rd rfl (Rd.remW rfl rfl (by decide) (show _ = ((j : Nat) : Int) from by rw [hj]; exact uidx (n := 32))) ?_
                refine SWl.rd rfl (Rd.cvW .u64 rfl (by kernel_rfl) (by kernel_rfl) (show IntKind.wrap .i64 (j : Int) = (j : Int) from i64_small (by omega))) ?_
                refine SWl.rd rfl (Rd.idxT 4 1 rfl rfl rfl (by kernel_rfl) (by kernel_rfl) (by omega) (by simp; omega)) ?_
                refine SWl.rd rfl (Rd.loadT1 4 rfl rfl (by kernel_rfl) hb rfl ap_nil) ?_
                refine SWl.rd rfl (Rd.addB (b := 1) rfl rfl) ?_
                refine SWl.weak 15 rfl (show Le _ (isD (.slice s58.A (rt.set j (b + 1)).length s58.c)) from Le.is (by simp)) ?_
                refine SWl.rd rfl (Rd.idxT 4 1 rfl rfl rfl (by kernel_rfl) (by kernel_rfl) (by omega) (by simp; omega)) ?_
                refine SWl.ef (S := _) (Ef.storeT1 (v := b + 1) 4 rfl rfl rfl rfl (by kernel_rfl) (by simp; omega) (fun _ h => h)) ?_
                rintro _ rfl
                refine SWl.nil ?_
                refine SN.block ?_
                refine SN.freezeT 6 15 rfl rfl (le_ls_b _) ?_
                exact SN.meet ⟨(f0.length : Int), rt.set j (b + 1), od, trivial, rfl⟩ (⟨⟨_, rfl, ⟨⟨_, rfl, Le.refl _⟩, ⟨⟨_, rfl, Le.refl _⟩, ⟨⟨_, rfl, Le.refl _⟩, ⟨⟨_, rfl, Le.refl _⟩, ⟨⟨_, rfl, Le.refl _⟩, ⟨⟨_, rfl, Le.refl _⟩, ⟨⟨_, rfl, Le.refl _⟩, ⟨⟨_, rfl, Le.refl _⟩, trivial⟩⟩⟩⟩⟩⟩⟩⟩⟩, [4, 5], by decide, ⟨⟨_, rfl, LeAll.refl _⟩, ⟨⟨_, rfl, LeAll.refl _⟩, trivial⟩⟩⟩)
              · skip
                refine SW.skip ?_
                refine SN.block ?_
                refine SN.freezeT 4 15 rfl rfl (le_ls_b _) ?_
                exact SN.meet ⟨(f0.length : Int), rt, od, trivial, rfl⟩ (⟨⟨_, rfl, ⟨⟨_, rfl, Le.refl _⟩, ⟨⟨_, rfl, Le.refl _⟩, ⟨⟨_, rfl, Le.refl _⟩, ⟨⟨_, rfl, Le.refl _⟩, ⟨⟨_, rfl, Le.refl _⟩, ⟨⟨_, rfl, Le.refl _⟩, ⟨⟨_, rfl, Le.refl _⟩, ⟨⟨_, rfl, Le.refl _⟩, trivial⟩⟩⟩⟩⟩⟩⟩⟩⟩, [4, 5], by decide, ⟨⟨_, rfl, LeAll.refl _⟩, ⟨⟨_, rfl, LeAll.refl _⟩, trivial⟩⟩⟩)
      · rintro _ ⟨n, rt, od, -, rfl⟩
        refine SN.then ?_
        refine SW.seq ?_
        obtain ⟨e, he⟩ : ∃ e, f0[ix]? = some e := ⟨_, List.getElem?_eq_getElem hixl⟩
        refine SW.draw [] (.r 0 (.r 1 (.r 2 (.r 3 (.r 4 (.r 5 (.r 6 (.r 7 (.r 9 (.r 10 (.r 11 (.r 12 (.r 13 (.r 14 (.r 15 (.r 16 (.r 17 (.n 8 (.n 18 (.r 19 (.r 20 (.r 21 (.r 22 (.r 23 (.r 24 (.r 25 (.r 27 (.r 28 (.r 29 (.r 30 (.r 31 (.r 32 (.n 26 (.n 33 (.r 34 (.r 35 (.r 36 (.n 37 (.r 38 (.r 39 .fin)) .no)))) .no) .no)))))))))))))) .no) .no)))))))))))))))))) (by kernel_rfl) (by kernel_rfl) (fun d _ _ _ _ h => by cases d <;> exact h) ?_
        refine SWz.rd (i := 0) rfl rfl (Rd.move rfl) ?_
        refine SWz.rd (i := 1) rfl rfl (Rd.move rfl) ?_
        refine SWz.rd (i := 2) rfl rfl (Rd.move rfl) ?_
        refine SWz.rd (i := 3) rfl rfl (Rd.move rfl) ?_
        refine SWz.rd (i := 4) rfl rfl (Rd.move rfl) ?_
        refine SWz.rd (i := 5) rfl rfl (Rd.idxL (e := 44) 2 rfl rfl (by kernel_rfl) (by kernel_rfl) (by omega) (by simpa using he)) ?_
        refine SWz.rd (i := 6) rfl rfl (Rd.loadRA 2 rfl (by kernel_rfl) (by decide) (show 2 ≤ 2 by decide) (by simp)) ?_
        refine SWz.rd (i := 7) rfl rfl (Rd.loadA 0 1 rfl rfl (by kernel_rfl) rfl ap_nil) ?_
        refine SWz.rd (i := 9) rfl rfl (Rd.move rfl) ?_
        refine SWz.rd (i := 10) rfl rfl (Rd.move rfl) ?_
        refine SWz.rd (i := 11) rfl rfl (Rd.move rfl) ?_
        refine SWz.rd (i := 12) rfl rfl (Rd.move rfl) ?_
        refine SWz.rd (i := 13) rfl rfl (Rd.move rfl) ?_
        refine SWz.rd (i := 14) rfl rfl (Rd.idxL (e := 44) 2 rfl rfl (by kernel_rfl) (by kernel_rfl) (by omega) (by simpa using he)) ?_
        refine SWz.rd (i := 15) rfl rfl (Rd.loadRA 2 rfl (by kernel_rfl) (by decide) (show 2 ≤ 2 by decide) (by simp)) ?_
        refine SWz.rd (i := 16) rfl rfl (Rd.fieldAddr (n := 0) rfl (by kernel_rfl)) ?_
        refine SWz.rd (i := 17) rfl rfl (Rd.loadB 0 rfl rfl rfl (by kernel_rfl) ap_nil) ?_
        refine SWz.efn (i := 8) rfl (Ef.callN [] (con_include rt n (ix : Int) e q1.1 (by have := q1.2; omega)) rfl ⟨(sees_le (Le.refl _)), (sees_le (Le.refl _)), (sees_le (Le.refl _)), (sees_agg ⟨(sees_le (Le.refl _)), (sees_le (Le.refl _)), trivial⟩), (sees_agg ⟨(sees_le (Le.refl _)), trivial⟩), trivial⟩ rfl) ?_ SWz.no
        rintro _ rfl
        refine SWz.efn (i := 18) rfl (Ef.callN [] (con_includeR rt n (ix : Int) e q1.1 (by have := q1.2; omega)) rfl ⟨(sees_le (Le.refl _)), (sees_le (Le.refl _)), (sees_le (Le.refl _)), (sees_agg ⟨(sees_le (Le.refl _)), (sees_le (Le.refl _)), trivial⟩), (sees_le (Le.refl _)), trivial⟩ rfl) ?_ SWz.no
        rintro _ rfl
        refine SWz.rd (i := 19) rfl rfl (Rd.eqi rfl rfl) ?_
        refine SWz.rd (i := 20) rfl rfl (Rd.move rfl) ?_
        refine SWz.rdg (i := 21) rfl rfl rfl (by simp) rfl rfl (Rd.move rfl) ?_
        refine SWz.rdg (i := 22) rfl rfl rfl (by simp) rfl rfl (Rd.move rfl) ?_
        refine SWz.rdg (i := 23) rfl rfl rfl (by simp) rfl rfl (Rd.move rfl) ?_
        refine SWz.rdg (i := 24) rfl rfl rfl (by simp) rfl rfl (Rd.move rfl) ?_
        refine SWz.rdg (i := 25) rfl rfl rfl (by simp) rfl rfl (Rd.loadA 1 1 rfl rfl (by kernel_rfl) rfl ap_nil) ?_
        refine SWz.rdg (i := 27) rfl rfl rfl (by simp) rfl rfl (Rd.move rfl) ?_
        refine SWz.rdg (i := 28) rfl rfl rfl (by simp) rfl rfl (Rd.move rfl) ?_
        refine SWz.rdg (i := 29) rfl rfl rfl (by simp) rfl rfl (Rd.move rfl) ?_
        refine SWz.rdg (i := 30) rfl rfl rfl (by simp) rfl rfl (Rd.move rfl) ?_
        refine SWz.rdg (i := 31) rfl rfl rfl (by simp) rfl rfl (Rd.fieldAddr (n := 0) rfl (by kernel_rfl)) ?_
        refine SWz.rdg (i := 32) rfl rfl rfl (by simp) rfl rfl (Rd.loadB 1 rfl rfl rfl (by kernel_rfl) ap_nil) ?_
        refine SWz.efng (i := 26) rfl rfl rfl (by simp) rfl (Ef.callN [] (con_consistent od (fi : Int) rt n q2.1 (by have := q2.2; omega)) rfl ⟨(sees_le (Le.refl _)), (sees_le (Le.refl _)), (sees_le (Le.refl _)), (sees_le (Le.refl _)), (sees_agg ⟨(sees_le (Le.refl _)), trivial⟩), trivial⟩ rfl) ?_ SWz.no
        rintro _ rfl
        refine SWz.efng (i := 33) rfl rfl rfl (by simp) rfl (Ef.callN [] (con_consistentR od (fi : Int) rt n q2.1 (by have := q2.2; omega)) rfl ⟨(sees_le (Le.refl _)), (sees_le (Le.refl _)), (sees_le (Le.refl _)), (sees_le (Le.refl _)), (sees_le (Le.refl _)), trivial⟩ rfl) ?_ SWz.no
        rintro _ rfl
        refine SWz.rdg (i := 34) rfl rfl rfl (by simp) rfl rfl (Rd.eqi rfl rfl) ?_
        refine SWz.rd (i := 35) rfl rfl (Rd.pickY rfl (by simp) rfl) ?_
        refine SWz.rd (i := 36) rfl rfl (Rd.move rfl) ?_
        refine SWz.efng (i := 37) rfl rfl rfl (by simp) rfl (Ef.callN [] (con_known43) rfl trivial rfl) ?_ SWz.no
        rintro _ rfl
        refine SWz.rd (i := 38) rfl rfl (Rd.pickY rfl (by simp) rfl) ?_
        refine SWz.rd (i := 39) rfl rfl (Rd.assign rfl) ?_
        refine SWz.nil ?_
        refine SN.then ?_
        refine SW.ret (fn := Tryd.f8) (fun _ _ h => h) (Rs.le (Rs.one rfl (ResV.tmp rfl)) ?_)
        exact le_bool_n (by rfl)
end Sx
end Go.Proofs.YtonjpfpdpfonnaaDoor
