/-
  ENVELOPES: EnvelopeOpens, EnvelopeNone.
-/
import Derived.Test.YtchbgfgboogniaaDoorE7
namespace Go.Proofs.YtchbgfgboogniaaDoor
open Go.RowKit
namespace Sx
set_option maxHeartbeats 4000000 in
set_option maxRecDepth 100000 in
theorem envelopeOpens_con (e : Env.T) (key : List UInt8) : ConN Tryd.prog 4 [aggD [strD e.acc, iD e.rnd, iD e.ser, bD e.box, bD e.tag], bD key] (boolD true) := by
  refine con_ofN Tryd.func4 (by kernel_rfl) rfl (by kernel_rfl) fun base w0 => ?_
  refine SW.seq ?_
  refine SW.region ?_
  refine SWl.ef (S := []) (Ef.boxA rfl rfl) ?_
  rintro _ ⟨g2, rfl⟩
  refine SWl.rd rfl (Rd.assign rfl) ?_
  refine SWl.nil ?_
  refine SN.then ?_
  refine SW.seq ?_
  refine SW.seq ?_
  refine SW.region ?_
  refine SWl.rd rfl (Rd.loadA 0 5 rfl rfl (by kernel_rfl) rfl ap_nil) ?_
  refine SWl.ef (S := []) (Ef.callN [] (con_short e) rfl ⟨(sees_agg ⟨(sees_le (Le.refl _)), (sees_le (Le.refl _)), (sees_le (Le.refl _)), (sees_le (Le.refl _)), (sees_le (Le.refl _)), trivial⟩), trivial⟩ rfl) ?_
  rintro _ rfl
  refine SWl.rd rfl (Rd.not rfl) ?_
  refine SWl.rd rfl (Rd.move rfl) ?_
  refine SWl.split 14 rfl (fun hb14 => ?_) (fun hb14 => ?_)
  · skip
    refine SWl.off rfl rfl (hb14) rfl rfl ?_
    refine SWl.off rfl rfl (hb14) rfl rfl ?_
    refine SWl.off rfl rfl (hb14) rfl rfl ?_
    refine SWl.rd rfl (Rd.pickY rfl (hb14) rfl) ?_
    refine SWl.nil ?_
    refine SN.then ?_
    refine SW.condT rfl (rfl) ?_
    refine SW.seq ?_
    refine SW.region ?_
    refine SWl.ef (S := []) (Ef.callN [] (con_known42) rfl trivial rfl) ?_
    rintro _ rfl
    refine SWl.rd rfl (Rd.assign rfl) ?_
    refine SWl.nil ?_
    refine SN.then ?_
    refine SW.ret (fn := Tryd.f4) (fun _ _ h => h) (Rs.le (Rs.one rfl (ResV.tmp rfl)) ?_)
    exact le_bool_n rfl
  · have h14 : Env.short e := (by simpa using hb14); have hea : e.acc.length ≤ 1000000 := (by have := h14.1; omega)
    refine SWl.rdg rfl rfl (hb14) rfl rfl (Rd.move rfl) ?_
    refine SWl.rdg rfl rfl (hb14) rfl rfl (Rd.len (e := 5) rfl (by kernel_rfl)) ?_
    refine SWl.rdg rfl rfl (hb14) rfl rfl (Rd.gtr rfl rfl) ?_
    refine SWl.rd rfl (Rd.pickN rfl (hb14) rfl) ?_
    refine SWl.nil ?_
    refine SN.then ?_
    refine SW.cond rfl (fun hb18 => ?_) (fun hb18 => ?_)
    · skip
      refine SW.seq ?_
      refine SW.region ?_
      refine SWl.ef (S := []) (Ef.callN [] (con_known42) rfl trivial rfl) ?_
      rintro _ rfl
      refine SWl.rd rfl (Rd.assign rfl) ?_
      refine SWl.nil ?_
      refine SN.then ?_
      refine SW.ret (fn := Tryd.f4) (fun _ _ h => h) (Rs.le (Rs.one rfl (ResV.tmp rfl)) ?_)
      exact le_bool_n rfl
    · skip
      refine SW.skip ?_
      refine SN.then ?_
      refine SW.seq ?_
      refine SW.sub (σ' := St.ob [(2, isD (.pointer (some ⟨g2, 0, none⟩))), (1, bD key)] [.c g2 [strD e.acc, iD e.rnd, iD e.ser, bD e.box, bD e.tag]]) (⟨⟨_, rfl, ⟨⟨_, rfl, Le.refl _⟩, ⟨⟨_, rfl, Le.refl _⟩, trivial⟩⟩⟩, [0], by decide, ⟨⟨_, rfl, LeAll.refl _⟩, trivial⟩⟩) ?_
      refine SW.region ?_
      refine SWl.ef (S := []) (Ef.callR [] (con_given) rfl trivial (by decide) trivial (fun _ h => h) rfl) ?_
      rintro _ ⟨⟨gb, s⟩, rfl⟩
      refine SWl.rd rfl (Rd.move rfl) ?_
      refine SWl.rd rfl (Rd.extract rfl rfl) ?_
      refine SWl.rd rfl (Rd.extract rfl rfl) ?_
      refine SWl.ef (S := []) (Ef.alloc (zs := [.slice none 0 0]) (by kernel_rfl) rfl) ?_
      rintro _ ⟨g6, rfl⟩
      refine SWl.rd rfl (Rd.assign rfl) ?_
      refine SWl.ef (S := [_]) (Ef.storeA 5 rfl rfl rfl (by kernel_rfl) rfl (List.mem_singleton.2 rfl)) ?_
      rintro _ rfl
      refine SWl.nil ?_
      refine SN.then ?_
      refine SW.seq ?_
      refine SW.sub (σ' := St.ob [(2, isD (.pointer (some ⟨g2, 0, none⟩))), (1, bD key), (5, isD (.pointer (some ⟨gb, 0, none⟩))), (6, isD (.pointer (some ⟨g6, 0, none⟩)))] [.c g2 [strD e.acc, iD e.rnd, iD e.ser, bD e.box, bD e.tag], .c gb [isD (.map (s.M.map Prod.fst)), isD (.slice s.n.A (Acc.nm gL).length s.n.c), isD (.map (s.M.map Prod.snd))], .r s.n.F (vecT 9 1 encT s.n.A s.n.c (Acc.nm gL)), .r s.F1 (mapQ (s.M.map Prod.fst) encS (Acc.nm gL) (acD gL)), .r s.F2 (mapQ (s.M.map Prod.snd) encSt (Acc.seats gL) (seD gL)), .c g6 [lsD encA gL]]) (⟨⟨_, rfl, ⟨⟨_, rfl, Le.refl _⟩, ⟨⟨_, rfl, Le.refl _⟩, ⟨⟨_, rfl, Le.refl _⟩, ⟨⟨_, rfl, Le.refl _⟩, trivial⟩⟩⟩⟩⟩, [0, 1, 2, 3, 4, 5], by decide, ⟨⟨_, rfl, LeAll.refl _⟩, ⟨⟨_, rfl, LeAll.refl _⟩, ⟨⟨_, rfl, LeR.refl _⟩, ⟨⟨_, rfl, LeR.refl _⟩, ⟨⟨_, rfl, LeR.refl _⟩, ⟨⟨_, rfl, LeAll.refl _⟩, trivial⟩⟩⟩⟩⟩⟩⟩) ?_
      refine SW.region ?_
      refine SWl.rd rfl (Rd.move rfl) ?_
      refine SWl.rd rfl (Rd.loadA 0 5 rfl rfl (by kernel_rfl) rfl ap_nil) ?_
      refine SWl.rd rfl (Rd.move rfl) ?_
      refine SWl.ef (Ef.callR [1, 2, 3, 4] (con_openE gb s gL e gFine key) rfl ⟨Le.refl _, Le.refl _, Le.refl _, trivial⟩ (by decide) ⟨⟨_, rfl, LeAll.refl _⟩, ⟨⟨_, rfl, LeR.refl _⟩, ⟨⟨_, rfl, LeR.refl _⟩, ⟨⟨_, rfl, LeR.refl _⟩, trivial⟩⟩⟩⟩ (fun _ h => h) rfl) ?_
      rintro _ ⟨⟨⟩, rfl⟩
      refine SWl.rd rfl (Rd.move rfl) ?_
      refine SWl.rd rfl (Rd.extract rfl rfl) ?_
      refine SWl.rd rfl (Rd.extract rfl rfl) ?_
      refine SWl.rd rfl (Rd.assign rfl) ?_
      refine SWl.rd rfl (Rd.assign rfl) ?_
      refine SWl.nil ?_
      refine SN.then ?_
      refine SW.seq ?_
      refine SW.region ?_
      refine SWl.rd rfl (Rd.loadA 1 1 rfl rfl (by kernel_rfl) rfl ap_nil) ?_
      refine SWl.rd rfl (Rd.loadA 0 5 rfl rfl (by kernel_rfl) rfl ap_nil) ?_
      refine SWl.rd rfl (Rd.move rfl) ?_
      refine SWl.ef (S := []) (Ef.call (con_openER gL e key gFine hea) rfl ⟨Le.refl _, Le.refl _, Le.refl _, trivial⟩ rfl) ?_
      rintro _ rfl
      refine SWl.rd rfl (Rd.move rfl) ?_
      refine SWl.rd rfl (Rd.extract rfl rfl) ?_
      refine SWl.rd rfl (Rd.extract rfl rfl) ?_
      refine SWl.rd rfl (Rd.assign rfl) ?_
      refine SWl.rd rfl (Rd.assign rfl) ?_
      refine SWl.nil ?_
      refine SN.then ?_
      refine SW.seq ?_
      refine SW.draw (gb :: (s.n.F ++ (s.F1 ++ (s.F2 ++ [])))) (.r 0 (.r 1 (.r 3 (.r 4 (.e 2 (.n 5 (.r 6 (.r 7 (.r 8 (.r 9 (.r 10 (.r 11 (.r 12 (.r 13 (.r 14 (.r 15 (.r 16 (.r 17 (.r 18 (.n 19 (.r 20 (.r 21 .fin)) .no)))))))))))))) .no) .no))))) (by kernel_rfl) (by kernel_rfl) (fun d _ _ _ _ h => by cases d <;> exact h) ?_
      refine SWz.rd (i := 0) rfl rfl (Rd.move rfl) ?_
      refine SWz.rd (i := 1) rfl rfl (Rd.loadA 0 5 rfl rfl (by kernel_rfl) rfl (ap_cons 2 rfl (by decide) (ap_app 3 rfl (by decide) (ap_app 4 rfl (by decide) (ap_app 5 rfl (by decide) ap_nil))))) ?_
      refine SWz.rd (i := 3) rfl rfl (Rd.loadA 1 1 rfl rfl (by kernel_rfl) rfl (ap_cons 2 rfl (by decide) (ap_app 3 rfl (by decide) (ap_app 4 rfl (by decide) (ap_app 5 rfl (by decide) ap_nil))))) ?_
      refine SWz.rd (i := 4) rfl rfl (Rd.loadA 0 5 rfl rfl (by kernel_rfl) rfl (ap_cons 2 rfl (by decide) (ap_app 3 rfl (by decide) (ap_app 4 rfl (by decide) (ap_app 5 rfl (by decide) ap_nil))))) ?_
      refine SWz.efe (i := 2) rfl (Ef.callR [2, 3, 4, 5] (con_checkE gb s gL e gFine) rfl ⟨Le.refl _, Le.refl _, trivial⟩ (by decide) ⟨⟨_, rfl, LeAll.refl _⟩, ⟨⟨_, rfl, LeR.refl _⟩, ⟨⟨_, rfl, LeR.refl _⟩, ⟨⟨_, rfl, LeR.refl _⟩, trivial⟩⟩⟩⟩ (fun _ h => h) rfl) ?_ SWz.no
      rintro _ ⟨⟨⟩, rfl⟩
      refine SWz.efn (i := 5) rfl (Ef.callN [] (con_authR gL e gFine hea) rfl ⟨(sees_agg ⟨(sees_le (Le.refl _)), trivial⟩), (sees_agg ⟨(sees_le (Le.refl _)), (sees_le (Le.refl _)), (sees_le (Le.refl _)), (sees_le (Le.refl _)), (sees_le (Le.refl _)), trivial⟩), trivial⟩ rfl) ?_ SWz.no
      rintro _ rfl
      refine SWz.rd (i := 6) rfl rfl (Rd.eqi rfl rfl) ?_
      refine SWz.rd (i := 7) rfl rfl (Rd.move rfl) ?_
      refine SWz.rdg (i := 8) rfl rfl rfl (by simp) rfl rfl (Rd.move rfl) ?_
      refine SWz.rdg (i := 9) rfl rfl rfl (by simp) rfl rfl (Rd.str (e := 5) rfl (by kernel_rfl) (by kernel_rfl) (by kernel_rfl) (ins_cons (j := 2) rfl (ins_app (j := 3) rfl (ins_app (j := 4) rfl (ins_app (j := 5) rfl ins_nil))))) ?_
      refine SWz.rdg (i := 10) rfl rfl rfl (by simp) rfl rfl (Rd.move rfl) ?_
      refine SWz.rdg (i := 11) rfl rfl rfl (by simp) rfl rfl (Rd.eqs (p := Env.opB gL e key) (q := Env.opB gL e key) rfl rfl) ?_
      refine SWz.rd (i := 12) rfl rfl (Rd.pickY rfl (by simp) rfl) ?_
      refine SWz.rd (i := 13) rfl rfl (Rd.move rfl) ?_
      refine SWz.rdg (i := 14) rfl rfl rfl (by simp) rfl rfl (Rd.move rfl) ?_
      refine SWz.rdg (i := 15) rfl rfl rfl (by simp) rfl rfl (Rd.move rfl) ?_
      refine SWz.rdg (i := 16) rfl rfl rfl (by simp) rfl rfl (Rd.eqi rfl rfl) ?_
      refine SWz.rd (i := 17) rfl rfl (Rd.pickY rfl (by simp) rfl) ?_
      refine SWz.rd (i := 18) rfl rfl (Rd.move rfl) ?_
      refine SWz.efng (i := 19) rfl rfl rfl (by simp) rfl (Ef.callN [] (con_known42) rfl trivial rfl) ?_ SWz.no
      rintro _ rfl
      refine SWz.rd (i := 20) rfl rfl (Rd.pickY rfl (by simp) rfl) ?_
      refine SWz.rd (i := 21) rfl rfl (Rd.assign rfl) ?_
      refine SWz.nil ?_
      refine SN.then ?_
      refine SW.ret (fn := Tryd.f4) (fun _ _ h => h) (Rs.le (Rs.one rfl (ResV.tmp rfl)) ?_)
      exact le_bool_n rfl
set_option maxHeartbeats 4000000 in
set_option maxRecDepth 100000 in
theorem envelopeNone_con (e : Env.T) (rnd : Int) : ConN Tryd.prog 5 [aggD [strD e.acc, iD e.rnd, iD e.ser, bD e.box, bD e.tag], iD rnd] (boolD true) := by
  refine con_ofN Tryd.func5 (by kernel_rfl) rfl (by kernel_rfl) fun base w0 => ?_
  refine SW.seq ?_
  refine SW.region ?_
  refine SWl.ef (S := []) (Ef.boxA rfl rfl) ?_
  rintro _ ⟨g2, rfl⟩
  refine SWl.rd rfl (Rd.assign rfl) ?_
  refine SWl.nil ?_
  refine SN.then ?_
  refine SW.seq ?_
  refine SW.seq ?_
  refine SW.region ?_
  refine SWl.rd rfl (Rd.loadA 0 5 rfl rfl (by kernel_rfl) rfl ap_nil) ?_
  refine SWl.ef (S := []) (Ef.callN [] (con_short e) rfl ⟨(sees_agg ⟨(sees_le (Le.refl _)), (sees_le (Le.refl _)), (sees_le (Le.refl _)), (sees_le (Le.refl _)), (sees_le (Le.refl _)), trivial⟩), trivial⟩ rfl) ?_
  rintro _ rfl
  refine SWl.rd rfl (Rd.not rfl) ?_
  refine SWl.nil ?_
  refine SN.then ?_
  refine SW.cond rfl (fun hb11 => ?_) (fun hb11 => ?_)
  · skip
    refine SW.seq ?_
    refine SW.region ?_
    refine SWl.ef (S := []) (Ef.callN [] (con_known42) rfl trivial rfl) ?_
    rintro _ rfl
    refine SWl.rd rfl (Rd.assign rfl) ?_
    refine SWl.nil ?_
    refine SN.then ?_
    refine SW.ret (fn := Tryd.f5) (fun _ _ h => h) (Rs.le (Rs.one rfl (ResV.tmp rfl)) ?_)
    exact le_bool_n rfl
  · skip
    refine SW.skip ?_
    refine SN.then ?_
    refine SW.seq ?_
    refine SW.region ?_
    refine SWl.rd rfl (Rd.fieldAddr (n := 0) rfl (by kernel_rfl)) ?_
    refine SWl.rd rfl (Rd.loadB 0 rfl rfl rfl (by kernel_rfl) ap_nil) ?_
    refine SWl.rd rfl (Rd.move rfl) ?_
    refine SWl.rd rfl (Rd.move rfl) ?_
    refine SWl.ef (S := []) (Ef.call (con_sealE_nil e.acc rnd rnd) rfl ⟨Le.refl _, Le.refl _, Le.refl _, Le.refl _, Le.refl _, Le.refl _, Le.refl _, trivial⟩ rfl) ?_
    rintro _ rfl
    refine SWl.rd rfl (Rd.move rfl) ?_
    refine SWl.rd rfl (Rd.extract rfl rfl) ?_
    refine SWl.rd rfl (Rd.extract rfl rfl) ?_
    refine SWl.ef (S := []) (Ef.alloc (zs := [.string ⟨#[]⟩, .int .i64 0, .int .i64 0, .slice none 0 0, .slice none 0 0]) (by kernel_rfl) rfl) ?_
    rintro _ ⟨g5, rfl⟩
    refine SWl.ef (S := [_]) (Ef.storeA 1 rfl rfl rfl (by kernel_rfl) rfl (List.mem_singleton.2 rfl)) ?_
    rintro _ rfl
    refine SWl.rd rfl (Rd.assign rfl) ?_
    refine SWl.nil ?_
    refine SN.then ?_
    refine SW.seq ?_
    refine SW.region ?_
    refine SWl.rd rfl (Rd.loadA 0 5 rfl rfl (by kernel_rfl) rfl ap_nil) ?_
    refine SWl.ef (S := []) (Ef.call (con_openE_nil e) rfl ⟨Le.refl _, Le.refl _, Le.refl _, trivial⟩ rfl) ?_
    rintro _ rfl
    refine SWl.rd rfl (Rd.move rfl) ?_
    refine SWl.rd rfl (Rd.extract rfl rfl) ?_
    refine SWl.rd rfl (Rd.extract rfl rfl) ?_
    refine SWl.rd rfl (Rd.assign rfl) ?_
    refine SWl.rd rfl (Rd.assign rfl) ?_
    refine SWl.nil ?_
    refine SN.then ?_
    refine SW.seq ?_
    refine SW.region ?_
    refine SWl.rd rfl (Rd.loadA 1 5 rfl rfl (by kernel_rfl) rfl ap_nil) ?_
    refine SWl.rd rfl (Rd.build rfl rfl bldEn0) ?_
    refine SWl.ef (S := []) (Ef.callN [] (con_sameE Env.zero Env.zero) rfl ⟨(sees_agg ⟨(sees_le (Le.refl _)), (sees_le (Le.refl _)), (sees_le (Le.refl _)), (sees_le (Le.refl _)), (sees_le (Le.refl _)), trivial⟩), (sees_le (Le.agg ⟨Le.refl _, Le.refl _, Le.refl _, Le.nil_sl, Le.nil_sl, trivial⟩)), trivial⟩ rfl) ?_
    rintro _ rfl
    refine SWl.rd rfl (Rd.move rfl) ?_
    refine SWl.rdg rfl rfl (by simp) rfl rfl (Rd.move rfl) ?_
    refine SWl.rdg rfl rfl (by simp) rfl rfl (Rd.eqi rfl rfl) ?_
    refine SWl.rd rfl (Rd.pickY rfl (by simp) rfl) ?_
    refine SWl.rd rfl (Rd.move rfl) ?_
    refine SWl.rdg rfl rfl (by simp) rfl rfl (Rd.move rfl) ?_
    refine SWl.rdg rfl rfl (by simp) rfl rfl (Rd.len (e := 5) rfl (by kernel_rfl)) ?_
    refine SWl.rdg rfl rfl (by simp) rfl rfl (Rd.eqi rfl rfl) ?_
    refine SWl.rd rfl (Rd.pickY rfl (by simp) rfl) ?_
    refine SWl.rd rfl (Rd.move rfl) ?_
    refine SWl.rdg rfl rfl (by simp [cellsOf]) rfl rfl (Rd.move rfl) ?_
    refine SWl.rdg rfl rfl (by simp [cellsOf]) rfl rfl (Rd.eqi rfl rfl) ?_
    refine SWl.rd rfl (Rd.pickY rfl (by simp [cellsOf]) rfl) ?_
    refine SWl.rd rfl (Rd.move rfl) ?_
    refine SWl.rdg rfl rfl (by simp) rfl rfl (Rd.loadA 0 5 rfl rfl (by kernel_rfl) rfl ap_nil) ?_
    refine SWl.efg (S := []) rfl rfl (by simp) rfl (Ef.call (con_checkE_nil e) rfl ⟨Le.refl _, Le.refl _, trivial⟩ rfl) ?_
    rintro _ rfl
    refine SWl.rdg rfl rfl (by simp) rfl rfl (Rd.eqi rfl rfl) ?_
    refine SWl.rd rfl (Rd.pickY rfl (by simp) rfl) ?_
    refine SWl.rd rfl (Rd.move rfl) ?_
    refine SWl.efg (S := []) rfl rfl (by simp) rfl (Ef.callN [] (con_known42) rfl trivial rfl) ?_
    rintro _ rfl
    refine SWl.rd rfl (Rd.pickY rfl (by simp) rfl) ?_
    refine SWl.rd rfl (Rd.assign rfl) ?_
    refine SWl.nil ?_
    refine SN.then ?_
    refine SW.ret (fn := Tryd.f5) (fun _ _ h => h) (Rs.le (Rs.one rfl (ResV.tmp rfl)) ?_)
    exact le_bool_n rfl
end Sx
end Go.Proofs.YtchbgfgboogniaaDoor
