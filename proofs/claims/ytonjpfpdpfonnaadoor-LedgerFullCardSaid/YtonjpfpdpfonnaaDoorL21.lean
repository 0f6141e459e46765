/-
  LEDGERS: LedgerDecodes, LedgerFull.
-/
import Derived.Test.YtonjpfpdpfonnaaDoorL20
namespace Go.Proofs.YtonjpfpdpfonnaaDoor
open Go.RowKit
namespace Sx
set_option maxHeartbeats 4000000 in
set_option maxRecDepth 100000 in
theorem ledgerDecodes_bad (b : List UInt8) (l : List Led.Ent) (hl : l.length ≤ 9223372036854775807) (k : Int) (hd : Led.decs b = .error k) : ConN Tryd.prog 5 [bD b, lsD encE l] (boolD true) := by
  have hk : k ≠ 0 := by have := decs_code hd; omega
  refine con_ofN Tryd.func5 (by kernel_rfl) rfl (by kernel_rfl) fun base w0 => ?_
  refine SW.seq ?_
  refine SW.region ?_
  refine SWl.rd rfl (Rd.assign rfl) ?_
  refine SWl.nil ?_
  refine SN.then ?_
  refine SW.seq ?_
  refine SW.seq ?_
  refine SW.region ?_
  refine SWl.rd rfl (Rd.move rfl) ?_
  refine SWl.rd rfl (Rd.len (e := 5) rfl (by kernel_rfl)) ?_
  refine SWl.rd rfl (Rd.gtr rfl rfl) ?_
  refine SWl.rd rfl (Rd.move rfl) ?_
  refine SWl.split 15 rfl (fun hb15 => ?_) (fun hb15 => ?_)
  · skip
    refine SWl.off rfl rfl (hb15) rfl rfl ?_
    refine SWl.off rfl rfl (hb15) rfl rfl ?_
    refine SWl.off rfl rfl (hb15) rfl rfl ?_
    refine SWl.rd rfl (Rd.pickY rfl (hb15) rfl) ?_
    refine SWl.nil ?_
    refine SN.then ?_
    refine SW.condT rfl (rfl) ?_
    refine SW.seq ?_
    refine SW.region ?_
    refine SWl.ef (S := []) (Ef.callN [] (con_known43) rfl trivial rfl) ?_
    rintro _ rfl
    refine SWl.rd rfl (Rd.assign rfl) ?_
    refine SWl.nil ?_
    refine SN.then ?_
    refine SW.ret (fn := Tryd.f5) (fun _ _ h => h) (Rs.le (Rs.one rfl (ResV.tmp rfl)) ?_)
    exact le_bool_n (by rfl)
  · have hlen : b.length ≤ 1000 := by have := of_decide_eq_false hb15; simp at this; omega
    refine SWl.rdg rfl rfl (hb15) rfl rfl (Rd.move rfl) ?_
    refine SWl.efg (S := []) rfl rfl (hb15) rfl (Ef.callN [] (con_few l 20 hl) rfl ⟨(sees_le (Le.refl _)), (sees_le (Le.refl _)), trivial⟩ rfl) ?_
    rintro _ rfl
    refine SWl.rdg rfl rfl (hb15) rfl rfl (Rd.not rfl) ?_
    refine SWl.rd rfl (Rd.pickN rfl (hb15) rfl) ?_
    refine SWl.nil ?_
    refine SN.then ?_
    refine SW.cond rfl (fun hb19 => ?_) (fun hb19 => ?_)
    · skip
      refine SW.seq ?_
      refine SW.region ?_
      refine SWl.ef (S := []) (Ef.callN [] (con_known43) rfl trivial rfl) ?_
      rintro _ rfl
      refine SWl.rd rfl (Rd.assign rfl) ?_
      refine SWl.nil ?_
      refine SN.then ?_
      refine SW.ret (fn := Tryd.f5) (fun _ _ h => h) (Rs.le (Rs.one rfl (ResV.tmp rfl)) ?_)
      exact le_bool_n (by rfl)
    · have hq := of_decide_eq_true (show decide ((∀ e ∈ l, e.bytes.length ≤ 200) ∧ l.length ≤ 20) = true from by simpa using hb19)
      refine SW.skip ?_
      refine SN.then ?_
      refine SW.seq ?_
      refine SW.vecN 5 1 encB ?_
      refine SW.region ?_
      refine SWl.rd rfl (Rd.move rfl) ?_
      refine SWl.ef (Ef.appT 0 1 1 rfl rfl (SrcT.b rfl) (by kernel_rfl) (by kernel_rfl) (by simp; omega) (by decide) (fun _ h => h) rfl) ?_
      rintro _ ⟨A23, F23, c23, rfl⟩
      refine SWl.freezeT 0 23 rfl rfl (le_ls_b _) ?_
      refine SWl.ef (S := []) (Ef.callR [] (con_decode b (by omega) (.error k) hd) rfl ⟨Le.refl _, trivial⟩ (by decide) trivial (fun _ h => h) rfl) ?_
      rintro _ ⟨t, rfl⟩
      refine SWl.rd rfl (Rd.move rfl) ?_
      refine SWl.rd rfl (Rd.extract rfl rfl) ?_
      refine SWl.rd rfl (Rd.extract rfl rfl) ?_
      refine SWl.rd rfl (Rd.assign rfl) ?_
      refine SWl.rd rfl (Rd.assign rfl) ?_
      refine SWl.nil ?_
      refine SN.then ?_
      refine SW.seq ?_
      refine SW.region ?_
      refine SWl.rd rfl (Rd.move rfl) ?_
      refine SWl.ef (S := []) (Ef.call (con_decodeR b (by omega) (.error k) hd) rfl ⟨Le.refl _, trivial⟩ rfl) ?_
      rintro _ rfl
      refine SWl.rd rfl (Rd.move rfl) ?_
      refine SWl.rd rfl (Rd.extract rfl rfl) ?_
      refine SWl.rd rfl (Rd.extract rfl rfl) ?_
      refine SWl.rd rfl (Rd.assign rfl) ?_
      refine SWl.rd rfl (Rd.assign rfl) ?_
      refine SWl.nil ?_
      refine SN.then ?_
      refine SW.seq ?_
      refine SW.seq ?_
      refine SW.sub (σ' := St.ob [(0, bD b), (1, lsD encE l), (5, isD (.pointer none)), (6, iD k), (7, lsD encE []), (8, iD k)] []) (⟨⟨_, rfl, ⟨⟨_, rfl, Le.refl _⟩, ⟨⟨_, rfl, Le.refl _⟩, ⟨⟨_, rfl, Le.refl _⟩, ⟨⟨_, rfl, Le.refl _⟩, ⟨⟨_, rfl, Le.refl _⟩, ⟨⟨_, rfl, Le.refl _⟩, trivial⟩⟩⟩⟩⟩⟩⟩, [], by decide, trivial⟩) ?_
      refine SW.region ?_
      refine SWl.rd rfl (Rd.move rfl) ?_
      refine SWl.rd rfl (Rd.nei rfl rfl) ?_
      refine SWl.nil ?_
      refine SN.then ?_
      refine SW.condT rfl (by simp [hk]) ?_
      refine SW.seq ?_
      refine SW.region ?_
      refine SWl.rd rfl (Rd.move rfl) ?_
      refine SWl.rd rfl (Rd.neP rfl rfl (by kernel_rfl)) ?_
      refine SWl.rd rfl (Rd.move rfl) ?_
      refine SWl.rdg rfl rfl (rfl) rfl rfl (Rd.move rfl) ?_
      refine SWl.rdg rfl rfl (rfl) rfl rfl (Rd.move rfl) ?_
      refine SWl.rdg rfl rfl (rfl) rfl rfl (Rd.nei rfl rfl) ?_
      refine SWl.rd rfl (Rd.pickN rfl (rfl) rfl) ?_
      refine SWl.nil ?_
      refine SN.then ?_
      refine SW.condF rfl (by simp) ?_
      refine SW.skip ?_
      refine SN.then ?_
      refine SW.seq ?_
      refine SW.sub (σ' := St.ob [(1, lsD encE l)] []) (⟨⟨_, rfl, ⟨⟨_, rfl, Le.refl _⟩, trivial⟩⟩, [], by decide, trivial⟩) ?_
      refine SW.region ?_
      refine SWl.rd rfl (Rd.move rfl) ?_
      have hfl := fits_len l
      refine SWl.ef (S := []) (Ef.callR [] (con_made l (by omega) (fun e he => by have := hq.1 e he; omega)) rfl ⟨Le.refl _, trivial⟩ (by decide) trivial (fun _ h => h) rfl) ?_
      rintro _ ⟨⟨gy, sy⟩, rfl⟩
      refine SWl.rd rfl (Rd.move rfl) ?_
      refine SWl.rd rfl (Rd.extract rfl rfl) ?_
      refine SWl.rd rfl (Rd.extract rfl rfl) ?_
      refine SWl.rd rfl (Rd.extract rfl rfl) ?_
      refine SWl.rd rfl (Rd.assign rfl) ?_
      refine SWl.rd rfl (Rd.assign rfl) ?_
      refine SWl.rd rfl (Rd.assign rfl) ?_
      refine SWl.nil ?_
      refine SN.then ?_
      refine SW.seq ?_
      refine SW.sub (σ' := St.ob [(9, isD (.pointer (some ⟨gy, 0, none⟩))), (10, lsD encE (Led.fits l)), (11, boolD true)] [.c gy [isD (.slice sy.A ((Led.fits l)).length sy.c), isD (.map sy.M)], ledE sy ((Led.fits l)), ledM sy ((Led.fits l))]) (⟨⟨_, rfl, ⟨⟨_, rfl, Le.refl _⟩, ⟨⟨_, rfl, Le.refl _⟩, ⟨⟨_, rfl, Le.refl _⟩, trivial⟩⟩⟩⟩, [0, 1, 2], by decide, ⟨⟨_, rfl, LeAll.refl _⟩, ⟨⟨_, rfl, LeR.refl _⟩, ⟨⟨_, rfl, LeR.refl _⟩, trivial⟩⟩⟩⟩) ?_
      refine SW.draw [] (.r 0 (.r 1 (.r 2 (.r 5 (.n 3 (.r 4 (.n 6 (.r 7 (.r 8 (.r 9 (.r 10 (.n 11 (.r 12 (.r 13 .fin)) .no))))) .no)) .no))))) (by kernel_rfl) (by kernel_rfl) (fun d _ _ _ _ h => by cases d <;> exact h) ?_
      refine SWz.rd (i := 0) rfl rfl (Rd.move rfl) ?_
      refine SWz.rd (i := 1) rfl rfl (Rd.move rfl) ?_
      refine SWz.rdg (i := 2) rfl rfl rfl (rfl) rfl rfl (Rd.move rfl) ?_
      refine SWz.rdg (i := 5) rfl rfl rfl (rfl) rfl rfl (Rd.move rfl) ?_
      refine SWz.efng (i := 3) rfl rfl rfl (rfl) rfl (Ef.callN [0, 1, 2] (con_encode (Led.fits l) fits_fit (by omega)) rfl ⟨(sees_box 0 rfl (by decide) ⟨(sees_vec 1 rfl (by decide)), (sees_map 2 rfl (by decide)), trivial⟩), trivial⟩ rfl) ?_ SWz.no
      rintro _ rfl
      refine SWz.rdg (i := 4) rfl rfl rfl (rfl) rfl rfl (Rd.str (e := 5) rfl (by kernel_rfl) (by kernel_rfl) (by kernel_rfl) (by simp)) ?_
      refine SWz.efng (i := 6) rfl rfl rfl (rfl) rfl (Ef.callN [] (con_encodeR (Led.fits l) fits_fit (by omega)) rfl ⟨(sees_le (Le.refl _)), trivial⟩ rfl) ?_ SWz.no
      rintro _ rfl
      refine SWz.rdg (i := 7) rfl rfl rfl (rfl) rfl rfl (Rd.str (e := 5) rfl (by kernel_rfl) (by kernel_rfl) (by kernel_rfl) (by simp)) ?_
      refine SWz.rdg (i := 8) rfl rfl rfl (rfl) rfl rfl (Rd.eqs  rfl rfl) ?_
      refine SWz.rd (i := 9) rfl rfl (Rd.pickY rfl (rfl) rfl) ?_
      refine SWz.rd (i := 10) rfl rfl (Rd.move rfl) ?_
      refine SWz.efng (i := 11) rfl rfl rfl (by simp) rfl (Ef.callN [] (con_known43) rfl trivial rfl) ?_ SWz.no
      rintro _ rfl
      refine SWz.rd (i := 12) rfl rfl (Rd.pickY rfl (by simp) rfl) ?_
      refine SWz.rd (i := 13) rfl rfl (Rd.assign rfl) ?_
      refine SWz.nil ?_
      refine SN.then ?_
      refine SW.ret (fn := Tryd.f5) (fun _ _ h => h) (Rs.le (Rs.one rfl (ResV.tmp rfl)) ?_)
      exact le_bool_n (by rfl)
set_option maxHeartbeats 4000000 in
set_option maxRecDepth 100000 in
theorem ledgerDecodes_ok (b : List UInt8) (l : List Led.Ent) (hl : l.length ≤ 9223372036854775807) (es : List Led.Ent) (hd : Led.decs b = .ok es) : ConN Tryd.prog 5 [bD b, lsD encE l] (boolD true) := by
  obtain ⟨hd1, hd2, hd3⟩ := decs_ok hd
  refine con_ofN Tryd.func5 (by kernel_rfl) rfl (by kernel_rfl) fun base w0 => ?_
  refine SW.seq ?_
  refine SW.region ?_
  refine SWl.rd rfl (Rd.assign rfl) ?_
  refine SWl.nil ?_
  refine SN.then ?_
  refine SW.seq ?_
  refine SW.seq ?_
  refine SW.region ?_
  refine SWl.rd rfl (Rd.move rfl) ?_
  refine SWl.rd rfl (Rd.len (e := 5) rfl (by kernel_rfl)) ?_
  refine SWl.rd rfl (Rd.gtr rfl rfl) ?_
  refine SWl.rd rfl (Rd.move rfl) ?_
  refine SWl.split 15 rfl (fun hb15 => ?_) (fun hb15 => ?_)
  · skip
    refine SWl.off rfl rfl (hb15) rfl rfl ?_
    refine SWl.off rfl rfl (hb15) rfl rfl ?_
    refine SWl.off rfl rfl (hb15) rfl rfl ?_
    refine SWl.rd rfl (Rd.pickY rfl (hb15) rfl) ?_
    refine SWl.nil ?_
    refine SN.then ?_
    refine SW.condT rfl (rfl) ?_
    refine SW.seq ?_
    refine SW.region ?_
    refine SWl.ef (S := []) (Ef.callN [] (con_known43) rfl trivial rfl) ?_
    rintro _ rfl
    refine SWl.rd rfl (Rd.assign rfl) ?_
    refine SWl.nil ?_
    refine SN.then ?_
    refine SW.ret (fn := Tryd.f5) (fun _ _ h => h) (Rs.le (Rs.one rfl (ResV.tmp rfl)) ?_)
    exact le_bool_n (by rfl)
  · have hlen : b.length ≤ 1000 := by have := of_decide_eq_false hb15; simp at this; omega
    refine SWl.rdg rfl rfl (hb15) rfl rfl (Rd.move rfl) ?_
    refine SWl.efg (S := []) rfl rfl (hb15) rfl (Ef.callN [] (con_few l 20 hl) rfl ⟨(sees_le (Le.refl _)), (sees_le (Le.refl _)), trivial⟩ rfl) ?_
    rintro _ rfl
    refine SWl.rdg rfl rfl (hb15) rfl rfl (Rd.not rfl) ?_
    refine SWl.rd rfl (Rd.pickN rfl (hb15) rfl) ?_
    refine SWl.nil ?_
    refine SN.then ?_
    refine SW.cond rfl (fun hb19 => ?_) (fun hb19 => ?_)
    · skip
      refine SW.seq ?_
      refine SW.region ?_
      refine SWl.ef (S := []) (Ef.callN [] (con_known43) rfl trivial rfl) ?_
      rintro _ rfl
      refine SWl.rd rfl (Rd.assign rfl) ?_
      refine SWl.nil ?_
      refine SN.then ?_
      refine SW.ret (fn := Tryd.f5) (fun _ _ h => h) (Rs.le (Rs.one rfl (ResV.tmp rfl)) ?_)
      exact le_bool_n (by rfl)
    · have hq := of_decide_eq_true (show decide ((∀ e ∈ l, e.bytes.length ≤ 200) ∧ l.length ≤ 20) = true from by simpa using hb19)
      refine SW.skip ?_
      refine SN.then ?_
      refine SW.seq ?_
      refine SW.vecN 5 1 encB ?_
      refine SW.region ?_
      refine SWl.rd rfl (Rd.move rfl) ?_
      refine SWl.ef (Ef.appT 0 1 1 rfl rfl (SrcT.b rfl) (by kernel_rfl) (by kernel_rfl) (by simp; omega) (by decide) (fun _ h => h) rfl) ?_
      rintro _ ⟨A23, F23, c23, rfl⟩
      refine SWl.freezeT 0 23 rfl rfl (le_ls_b _) ?_
      refine SWl.ef (S := []) (Ef.callR [] (con_decode b (by omega) (.ok es) hd) rfl ⟨Le.refl _, trivial⟩ (by decide) trivial (fun _ h => h) rfl) ?_
      rintro _ ⟨⟨gx, sx⟩, rfl⟩
      refine SWl.rd rfl (Rd.move rfl) ?_
      refine SWl.rd rfl (Rd.extract rfl rfl) ?_
      refine SWl.rd rfl (Rd.extract rfl rfl) ?_
      refine SWl.rd rfl (Rd.assign rfl) ?_
      refine SWl.rd rfl (Rd.assign rfl) ?_
      refine SWl.nil ?_
      refine SN.then ?_
      refine SW.seq ?_
      refine SW.region ?_
      refine SWl.rd rfl (Rd.move rfl) ?_
      refine SWl.ef (S := []) (Ef.call (con_decodeR b (by omega) (.ok es) hd) rfl ⟨Le.refl _, trivial⟩ rfl) ?_
      rintro _ rfl
      refine SWl.rd rfl (Rd.move rfl) ?_
      refine SWl.rd rfl (Rd.extract rfl rfl) ?_
      refine SWl.rd rfl (Rd.extract rfl rfl) ?_
      refine SWl.rd rfl (Rd.assign rfl) ?_
      refine SWl.rd rfl (Rd.assign rfl) ?_
      refine SWl.nil ?_
      refine SN.then ?_
      refine SW.seq ?_
      refine SW.seq ?_
      refine SW.sub (σ' := St.ob [(0, bD b), (1, lsD encE l), (5, isD (.pointer (some ⟨gx, 0, none⟩))), (6, iD 0), (7, lsD encE es), (8, iD 0)] [.c gx [isD (.slice sx.A (es).length sx.c), isD (.map sx.M)], ledE sx (es), ledM sx (es)]) (⟨⟨_, rfl, ⟨⟨_, rfl, Le.refl _⟩, ⟨⟨_, rfl, Le.refl _⟩, ⟨⟨_, rfl, Le.refl _⟩, ⟨⟨_, rfl, Le.refl _⟩, ⟨⟨_, rfl, Le.refl _⟩, ⟨⟨_, rfl, Le.refl _⟩, trivial⟩⟩⟩⟩⟩⟩⟩, [0, 1, 2], by decide, ⟨⟨_, rfl, LeAll.refl _⟩, ⟨⟨_, rfl, LeR.refl _⟩, ⟨⟨_, rfl, LeR.refl _⟩, trivial⟩⟩⟩⟩) ?_
      refine SW.region ?_
      refine SWl.rd rfl (Rd.move rfl) ?_
      refine SWl.rd rfl (Rd.nei rfl rfl) ?_
      refine SWl.nil ?_
      refine SN.then ?_
      refine SW.condF rfl (by rfl) ?_
      refine SW.seq ?_
      refine SW.draw [] (.r 0 (.r 1 (.r 2 (.r 3 (.r 4 (.r 5 (.r 6 (.r 7 (.r 9 (.r 10 (.n 8 (.r 11 (.r 12 (.r 13 (.r 14 (.r 17 (.r 18 (.n 15 (.r 16 (.r 19 (.r 20 .fin))) .no))))))) .no))))))))))) (by kernel_rfl) (by kernel_rfl) (fun d _ _ _ _ h => by cases d <;> exact h) ?_
      refine SWz.rd (i := 0) rfl rfl (Rd.move rfl) ?_
      refine SWz.rd (i := 1) rfl rfl (Rd.eqP rfl rfl (by kernel_rfl)) ?_
      refine SWz.rd (i := 2) rfl rfl (Rd.move rfl) ?_
      refine SWz.rdg (i := 3) rfl rfl rfl (rfl) rfl rfl (Rd.move rfl) ?_
      refine SWz.rdg (i := 4) rfl rfl rfl (rfl) rfl rfl (Rd.nei rfl rfl) ?_
      refine SWz.rd (i := 5) rfl rfl (Rd.pickN rfl (rfl) rfl) ?_
      refine SWz.rd (i := 6) rfl rfl (Rd.move rfl) ?_
      refine SWz.rdg (i := 7) rfl rfl rfl (by simp) rfl rfl (Rd.move rfl) ?_
      refine SWz.rdg (i := 9) rfl rfl rfl (by simp) rfl rfl (Rd.move rfl) ?_
      refine SWz.rdg (i := 10) rfl rfl rfl (by simp) rfl rfl (Rd.lenR (e := 44) rfl (by kernel_rfl)) ?_
      refine SWz.efng (i := 8) rfl rfl rfl (by simp) rfl (Ef.callN [0, 1, 2] (con_len es) rfl ⟨(sees_box 0 rfl (by decide) ⟨(sees_vec 1 rfl (by decide)), (sees_map 2 rfl (by decide)), trivial⟩), trivial⟩ rfl) ?_ SWz.no
      rintro _ rfl
      refine SWz.rdg (i := 11) rfl rfl rfl (by simp) rfl rfl (Rd.nei rfl rfl) ?_
      refine SWz.rd (i := 12) rfl rfl (Rd.pickN rfl (by simp) rfl) ?_
      refine SWz.rd (i := 13) rfl rfl (Rd.move rfl) ?_
      refine SWz.rdg (i := 14) rfl rfl rfl (by simp) rfl rfl (Rd.move rfl) ?_
      refine SWz.rdg (i := 17) rfl rfl rfl (by simp) rfl rfl (Rd.move rfl) ?_
      refine SWz.rdg (i := 18) rfl rfl rfl (by simp) rfl rfl (Rd.str (e := 5) rfl (by kernel_rfl) (by kernel_rfl) (by kernel_rfl) (by simp)) ?_
      refine SWz.efng (i := 15) rfl rfl rfl (by simp) rfl (Ef.callN [0, 1, 2] (con_encode es hd2 (by omega)) rfl ⟨(sees_box 0 rfl (by decide) ⟨(sees_vec 1 rfl (by decide)), (sees_map 2 rfl (by decide)), trivial⟩), trivial⟩ rfl) ?_ SWz.no
      rintro _ rfl
      refine SWz.rdg (i := 16) rfl rfl rfl (by simp) rfl rfl (Rd.str (e := 5) rfl (by kernel_rfl) (by kernel_rfl) (by kernel_rfl) (by simp)) ?_
      refine SWz.rdg (i := 19) rfl rfl rfl (by simp) rfl rfl (Rd.nes  rfl rfl) ?_
      refine SWz.rd (i := 20) rfl rfl (Rd.pickN rfl (by simp) rfl) ?_
      refine SWz.nil ?_
      refine SN.then ?_
      refine SW.condF rfl (by rw [hd3]; simp) ?_
      refine SW.skip ?_
      refine SN.then ?_
      refine SW.seq ?_
      refine SW.sub (σ' := St.ob [(1, lsD encE l)] []) (⟨⟨_, rfl, ⟨⟨_, rfl, Le.refl _⟩, trivial⟩⟩, [], by decide, trivial⟩) ?_
      refine SW.region ?_
      refine SWl.rd rfl (Rd.move rfl) ?_
      have hfl := fits_len l
      refine SWl.ef (S := []) (Ef.callR [] (con_made l (by omega) (fun e he => by have := hq.1 e he; omega)) rfl ⟨Le.refl _, trivial⟩ (by decide) trivial (fun _ h => h) rfl) ?_
      rintro _ ⟨⟨gy, sy⟩, rfl⟩
      refine SWl.rd rfl (Rd.move rfl) ?_
      refine SWl.rd rfl (Rd.extract rfl rfl) ?_
      refine SWl.rd rfl (Rd.extract rfl rfl) ?_
      refine SWl.rd rfl (Rd.extract rfl rfl) ?_
      refine SWl.rd rfl (Rd.assign rfl) ?_
      refine SWl.rd rfl (Rd.assign rfl) ?_
      refine SWl.rd rfl (Rd.assign rfl) ?_
      refine SWl.nil ?_
      refine SN.then ?_
      refine SW.seq ?_
      refine SW.sub (σ' := St.ob [(9, isD (.pointer (some ⟨gy, 0, none⟩))), (10, lsD encE (Led.fits l)), (11, boolD true)] [.c gy [isD (.slice sy.A ((Led.fits l)).length sy.c), isD (.map sy.M)], ledE sy ((Led.fits l)), ledM sy ((Led.fits l))]) (⟨⟨_, rfl, ⟨⟨_, rfl, Le.refl _⟩, ⟨⟨_, rfl, Le.refl _⟩, ⟨⟨_, rfl, Le.refl _⟩, trivial⟩⟩⟩⟩, [0, 1, 2], by decide, ⟨⟨_, rfl, LeAll.refl _⟩, ⟨⟨_, rfl, LeR.refl _⟩, ⟨⟨_, rfl, LeR.refl _⟩, trivial⟩⟩⟩⟩) ?_
      refine SW.draw [] (.r 0 (.r 1 (.r 2 (.r 5 (.n 3 (.r 4 (.n 6 (.r 7 (.r 8 (.r 9 (.r 10 (.n 11 (.r 12 (.r 13 .fin)) .no))))) .no)) .no))))) (by kernel_rfl) (by kernel_rfl) (fun d _ _ _ _ h => by cases d <;> exact h) ?_
      refine SWz.rd (i := 0) rfl rfl (Rd.move rfl) ?_
      refine SWz.rd (i := 1) rfl rfl (Rd.move rfl) ?_
      refine SWz.rdg (i := 2) rfl rfl rfl (rfl) rfl rfl (Rd.move rfl) ?_
      refine SWz.rdg (i := 5) rfl rfl rfl (rfl) rfl rfl (Rd.move rfl) ?_
      refine SWz.efng (i := 3) rfl rfl rfl (rfl) rfl (Ef.callN [0, 1, 2] (con_encode (Led.fits l) fits_fit (by omega)) rfl ⟨(sees_box 0 rfl (by decide) ⟨(sees_vec 1 rfl (by decide)), (sees_map 2 rfl (by decide)), trivial⟩), trivial⟩ rfl) ?_ SWz.no
      rintro _ rfl
      refine SWz.rdg (i := 4) rfl rfl rfl (rfl) rfl rfl (Rd.str (e := 5) rfl (by kernel_rfl) (by kernel_rfl) (by kernel_rfl) (by simp)) ?_
      refine SWz.efng (i := 6) rfl rfl rfl (rfl) rfl (Ef.callN [] (con_encodeR (Led.fits l) fits_fit (by omega)) rfl ⟨(sees_le (Le.refl _)), trivial⟩ rfl) ?_ SWz.no
      rintro _ rfl
      refine SWz.rdg (i := 7) rfl rfl rfl (rfl) rfl rfl (Rd.str (e := 5) rfl (by kernel_rfl) (by kernel_rfl) (by kernel_rfl) (by simp)) ?_
      refine SWz.rdg (i := 8) rfl rfl rfl (rfl) rfl rfl (Rd.eqs  rfl rfl) ?_
      refine SWz.rd (i := 9) rfl rfl (Rd.pickY rfl (rfl) rfl) ?_
      refine SWz.rd (i := 10) rfl rfl (Rd.move rfl) ?_
      refine SWz.efng (i := 11) rfl rfl rfl (by simp) rfl (Ef.callN [] (con_known43) rfl trivial rfl) ?_ SWz.no
      rintro _ rfl
      refine SWz.rd (i := 12) rfl rfl (Rd.pickY rfl (by simp) rfl) ?_
      refine SWz.rd (i := 13) rfl rfl (Rd.assign rfl) ?_
      refine SWz.nil ?_
      refine SN.then ?_
      refine SW.ret (fn := Tryd.f5) (fun _ _ h => h) (Rs.le (Rs.one rfl (ResV.tmp rfl)) ?_)
      exact le_bool_n (by rfl)
theorem ledgerDecodes_con (b : List UInt8) (l : List Led.Ent) (hl : l.length ≤ 9223372036854775807) : ConN Tryd.prog 5 [bD b, lsD encE l] (boolD true) := by
  cases hd : Led.decs b with
  | error k => exact ledgerDecodes_bad b l hl k hd
  | ok es => exact ledgerDecodes_ok b l hl es hd
end Sx
end Go.Proofs.YtonjpfpdpfonnaaDoor
