/-
  ENVELOPES: the law's known.
-/
import Derived.Test.YtchbgfgboogniaaDoorE6
namespace Go.Proofs.YtchbgfgboogniaaDoor
open Go.RowKit
namespace Sx
theorem sld_sz {l : List Acc.T} {nm : List UInt8} {rnd ser : Int} {key nonce bid : List UInt8} {a : Acc.T} (h : Env.Sld l nm rnd ser key nonce bid a) (hn : nonce.length = 16) : Env.sz (Env.mk l nm rnd ser key nonce bid) = (bid.length : Int) := by
  unfold Env.sz
  rw [if_pos h.ok]
  show ((Env.boxB key nm nonce bid).length : Int) - 32 = _
  rw [Env.box_len _ _ _ hn]
  omega
theorem mk_alike {l : List Acc.T} {nm : List UInt8} {rnd ser : Int} {key nonce p q : List UInt8} {a : Acc.T} (hA : Env.Sld l nm rnd ser key nonce p a) (hB : Env.Sld l nm rnd ser key nonce q a) (hn : nonce.length = 16) (h : p.length = q.length) : (Env.mk l nm rnd ser key nonce p).box.length = (Env.mk l nm rnd ser key nonce q).box.length ∧ (Env.mk l nm rnd ser key nonce p).tag.length = (Env.mk l nm rnd ser key nonce q).tag.length := by
  constructor
  · show (Env.boxB key nm nonce p).length = (Env.boxB key nm nonce q).length
    rw [Env.box_len _ _ _ hn, Env.box_len _ _ _ hn, h]
  · rw [(Env.ok_len hA.ok).2.2.2.2.2.2.2, (Env.ok_len hB.ok).2.2.2.2.2.2.2]
theorem enc_len {e : Env.T} (h : Env.ok e) : (Env.enc e).length ≤ 1000000 := by
  have h1 := Env.sgnT_len h
  have h2 := (Env.ok_len h).2.2.2.2.2.2.2
  have h3 := strE_len (b := e.tag) (by omega)
  unfold Env.enc
  rw [List.length_append]
  omega
instance (e : Env.T) : Ones (encEn e) := by unfold encEn; infer_instance
set_option maxHeartbeats 4000000 in
set_option maxRecDepth 100000 in
theorem con_known42  : ConN Tryd.prog 17 [] (boolD true) := by
  refine con_ofN Tryd.func17 (by kernel_rfl) rfl (by kernel_rfl) fun base w0 => ?_
  refine SW.seq ?_
  refine SW.region ?_
  refine SWl.rd rfl (Rd.assign rfl) ?_
  refine SWl.nil ?_
  refine SN.then ?_
  refine SW.seq ?_
  refine SW.region ?_
  refine SWl.ef (S := []) (Ef.callR [] (con_given) rfl trivial (by decide) trivial (fun _ h => h) rfl) ?_
  rintro _ ⟨⟨gb, s⟩, rfl⟩
  refine SWl.rd rfl (Rd.move rfl) ?_
  refine SWl.rd rfl (Rd.extract rfl rfl) ?_
  refine SWl.rd rfl (Rd.extract rfl rfl) ?_
  refine SWl.ef (S := []) (Ef.alloc (zs := [.slice none 0 0]) (by kernel_rfl) rfl) ?_
  rintro _ ⟨g2, rfl⟩
  refine SWl.rd rfl (Rd.assign rfl) ?_
  refine SWl.ef (S := [_]) (Ef.storeA 4 rfl rfl rfl (by kernel_rfl) rfl (List.mem_singleton.2 rfl)) ?_
  rintro _ rfl
  refine SWl.nil ?_
  refine SN.then ?_
  refine SW.seq ?_
  refine SW.sub (σ' := St.ob [(1, isD (.pointer (some ⟨gb, 0, none⟩)))] [.c gb [isD (.map (s.M.map Prod.fst)), isD (.slice s.n.A (Acc.nm gL).length s.n.c), isD (.map (s.M.map Prod.snd))], .r s.n.F (vecT 9 1 encT s.n.A s.n.c (Acc.nm gL)), .r s.F1 (mapQ (s.M.map Prod.fst) encS (Acc.nm gL) (acD gL)), .r s.F2 (mapQ (s.M.map Prod.snd) encSt (Acc.seats gL) (seD gL))]) (⟨⟨_, rfl, ⟨⟨_, rfl, Le.refl _⟩, trivial⟩⟩, [0, 1, 2, 3], by decide, ⟨⟨_, rfl, LeAll.refl _⟩, ⟨⟨_, rfl, LeR.refl _⟩, ⟨⟨_, rfl, LeR.refl _⟩, ⟨⟨_, rfl, LeR.refl _⟩, trivial⟩⟩⟩⟩⟩) ?_
  refine SW.region ?_
  refine SWl.ef (S := []) (Ef.call (con_row 1 32 (by decide)) rfl ⟨Le.refl _, Le.refl _, trivial⟩ rfl) ?_
  rintro _ rfl
  refine SWl.ef (S := []) (Ef.call (con_row 2 16 (by decide)) rfl ⟨Le.refl _, Le.refl _, trivial⟩ rfl) ?_
  rintro _ rfl
  refine SWl.rd rfl (Rd.assign rfl) ?_
  refine SWl.rd rfl (Rd.assign rfl) ?_
  refine SWl.nil ?_
  refine SN.then ?_
  refine SW.seq ?_
  refine SW.sub (σ' := St.ob [(1, isD (.pointer (some ⟨gb, 0, none⟩))), (3, bD kK1), (4, bD nN2)] [.c gb [isD (.map (s.M.map Prod.fst)), isD (.slice s.n.A (Acc.nm gL).length s.n.c), isD (.map (s.M.map Prod.snd))], .r s.n.F (vecT 9 1 encT s.n.A s.n.c (Acc.nm gL)), .r s.F1 (mapQ (s.M.map Prod.fst) encS (Acc.nm gL) (acD gL)), .r s.F2 (mapQ (s.M.map Prod.snd) encSt (Acc.seats gL) (seD gL))]) (⟨⟨_, rfl, ⟨⟨_, rfl, Le.refl _⟩, ⟨⟨_, rfl, Le.refl _⟩, ⟨⟨_, rfl, Le.refl _⟩, trivial⟩⟩⟩⟩, [0, 1, 2, 3], by decide, ⟨⟨_, rfl, LeAll.refl _⟩, ⟨⟨_, rfl, LeR.refl _⟩, ⟨⟨_, rfl, LeR.refl _⟩, ⟨⟨_, rfl, LeR.refl _⟩, trivial⟩⟩⟩⟩⟩) ?_
  refine SW.region ?_
  refine SWl.rd rfl (Rd.move rfl) ?_
  refine SWl.rd rfl (Rd.move rfl) ?_
  refine SWl.rd rfl (Rd.move rfl) ?_
  refine SWl.ef (S := []) (Ef.litV (e := 5) (b := [104, 101, 108, 108, 111]) rfl rfl rfl (by decide) (fun w => by kernel_rfl) rfl) ?_
  rintro _ ⟨g29, rfl⟩
  refine SWl.ef (Ef.mark (e := 5) 4 rfl rfl (by kernel_rfl) (by kernel_rfl) (by decide) (fun _ h => h) rfl) ?_
  rintro _ rfl
  refine SWl.ef (Ef.callR [0, 1, 2, 3] (con_sealE gb s gL nmA 3 1 kK1 nN2 hello gFine) rfl ⟨Le.refl _, Le.refl _, Le.refl _, Le.refl _, Le.refl _, Le.refl _, Le.refl _, trivial⟩ (by decide) ⟨⟨_, rfl, LeAll.refl _⟩, ⟨⟨_, rfl, LeR.refl _⟩, ⟨⟨_, rfl, LeR.refl _⟩, ⟨⟨_, rfl, LeR.refl _⟩, trivial⟩⟩⟩⟩ (fun _ h => h) rfl) ?_
  rintro _ ⟨⟨⟩, rfl⟩
  refine SWl.rd rfl (Rd.move rfl) ?_
  refine SWl.rd rfl (Rd.extract rfl rfl) ?_
  refine SWl.rd rfl (Rd.extract rfl rfl) ?_
  refine SWl.ef (S := []) (Ef.alloc (zs := [.string ⟨#[]⟩, .int .i64 0, .int .i64 0, .slice none 0 0, .slice none 0 0]) (by kernel_rfl) rfl) ?_
  rintro _ ⟨g5, rfl⟩
  refine SWl.ef (S := [_]) (Ef.storeA 4 rfl rfl rfl (by kernel_rfl) rfl (List.mem_singleton.2 rfl)) ?_
  rintro _ rfl
  refine SWl.rd rfl (Rd.assign rfl) ?_
  refine SWl.nil ?_
  refine SN.then ?_
  refine SW.seq ?_
  refine SW.seq ?_
  refine SW.sub (σ' := St.ob [(1, isD (.pointer (some ⟨gb, 0, none⟩))), (3, bD kK1), (4, bD nN2), (5, isD (.pointer (some ⟨g5, 0, none⟩))), (6, iD 0)] [.c gb [isD (.map (s.M.map Prod.fst)), isD (.slice s.n.A (Acc.nm gL).length s.n.c), isD (.map (s.M.map Prod.snd))], .r s.n.F (vecT 9 1 encT s.n.A s.n.c (Acc.nm gL)), .r s.F1 (mapQ (s.M.map Prod.fst) encS (Acc.nm gL) (acD gL)), .r s.F2 (mapQ (s.M.map Prod.snd) encSt (Acc.seats gL) (seD gL)), .c g5 [strD gE.acc, iD gE.rnd, iD gE.ser, bD gE.box, bD gE.tag]]) (⟨⟨_, rfl, ⟨⟨_, rfl, Le.refl _⟩, ⟨⟨_, rfl, Le.refl _⟩, ⟨⟨_, rfl, Le.refl _⟩, ⟨⟨_, rfl, Le.refl _⟩, ⟨⟨_, rfl, Le.is (by rw [gSlE])⟩, trivial⟩⟩⟩⟩⟩⟩, [0, 1, 2, 3, 4], by decide, ⟨⟨_, rfl, LeAll.refl _⟩, ⟨⟨_, rfl, LeR.refl _⟩, ⟨⟨_, rfl, LeR.refl _⟩, ⟨⟨_, rfl, LeR.refl _⟩, ⟨⟨_, rfl, (by rw [← gSlT]; exact LeAll.refl _)⟩, trivial⟩⟩⟩⟩⟩⟩) ?_
  refine SW.region ?_
  refine SWl.rd rfl (Rd.move rfl) ?_
  refine SWl.rd rfl (Rd.nei rfl rfl) ?_
  refine SWl.rd rfl (Rd.move rfl) ?_
  refine SWl.rdg rfl rfl (by decide) rfl rfl (Rd.fieldAddr (n := 0) rfl (by kernel_rfl)) ?_
  refine SWl.rdg rfl rfl (by decide) rfl rfl (Rd.loadB 4 rfl rfl rfl (by kernel_rfl) ap_nil) ?_
  refine SWl.rdg rfl rfl (by decide) rfl rfl (Rd.nes (p := gE.acc) (q := nmA) rfl rfl) ?_
  refine SWl.rd rfl (Rd.pickN rfl (by decide) rfl) ?_
  refine SWl.rd rfl (Rd.move rfl) ?_
  refine SWl.rdg rfl rfl (by simp [gE, Env.mk]) rfl rfl (Rd.fieldAddr (n := 1) rfl (by kernel_rfl)) ?_
  refine SWl.rdg rfl rfl (by simp [gE, Env.mk]) rfl rfl (Rd.loadB 4 rfl rfl rfl (by kernel_rfl) ap_nil) ?_
  refine SWl.rdg rfl rfl (by simp [gE, Env.mk]) rfl rfl (Rd.nei rfl rfl) ?_
  refine SWl.rd rfl (Rd.pickN rfl (by simp [gE, Env.mk]) rfl) ?_
  refine SWl.rd rfl (Rd.move rfl) ?_
  refine SWl.rdg rfl rfl (by simp [gE, Env.mk]) rfl rfl (Rd.fieldAddr (n := 2) rfl (by kernel_rfl)) ?_
  refine SWl.rdg rfl rfl (by simp [gE, Env.mk]) rfl rfl (Rd.loadB 4 rfl rfl rfl (by kernel_rfl) ap_nil) ?_
  refine SWl.rdg rfl rfl (by simp [gE, Env.mk]) rfl rfl (Rd.nei rfl rfl) ?_
  refine SWl.rd rfl (Rd.pickN rfl (by simp [gE, Env.mk]) rfl) ?_
  refine SWl.rd rfl (Rd.move rfl) ?_
  refine SWl.rdg rfl rfl (by simp [gE, Env.mk]) rfl rfl (Rd.loadA 4 5 rfl rfl (by kernel_rfl) rfl ap_nil) ?_
  refine SWl.efg (S := []) rfl rfl (by simp [gE, Env.mk]) rfl (Ef.callN [] (con_sizeE gE) rfl ⟨(sees_agg ⟨(sees_le (Le.refl _)), (sees_le (Le.refl _)), (sees_le (Le.refl _)), (sees_le (Le.refl _)), (sees_le (Le.refl _)), trivial⟩), trivial⟩ rfl) ?_
  rintro _ rfl
  refine SWl.rdg rfl rfl (by simp [gE, Env.mk]) rfl rfl (Rd.nei rfl rfl) ?_
  refine SWl.rd rfl (Rd.pickN rfl (by simp [gE, Env.mk]) rfl) ?_
  refine SWl.rd rfl (Rd.move rfl) ?_
  refine SWl.rdg rfl rfl (by simp [gSz]) rfl rfl (Rd.move rfl) ?_
  refine SWl.rdg rfl rfl (by simp [gSz]) rfl rfl (Rd.loadA 4 5 rfl rfl (by kernel_rfl) rfl ap_nil) ?_
  refine SWl.efg rfl rfl (by simp [gSz]) rfl (Ef.callR [0, 1, 2, 3] (con_checkE gb s gL gE gFine) rfl ⟨Le.refl _, Le.refl _, trivial⟩ (by decide) ⟨⟨_, rfl, LeAll.refl _⟩, ⟨⟨_, rfl, LeR.refl _⟩, ⟨⟨_, rfl, LeR.refl _⟩, ⟨⟨_, rfl, LeR.refl _⟩, trivial⟩⟩⟩⟩ (fun _ h => h) rfl) ?_
  rintro _ ⟨⟨⟩, rfl⟩
  refine SWl.rdg rfl rfl (by simp [gSz]) rfl rfl (Rd.nei rfl rfl) ?_
  refine SWl.rd rfl (Rd.pickN rfl (by simp [gSz]) rfl) ?_
  refine SWl.nil ?_
  refine SN.then ?_
  refine SW.condF rfl (by simp [gAut]) ?_
  refine SW.skip ?_
  refine SN.then ?_
  refine SW.seq ?_
  refine SW.sub (σ' := St.ob [(1, isD (.pointer (some ⟨gb, 0, none⟩))), (3, bD kK1), (4, bD nN2), (5, isD (.pointer (some ⟨g5, 0, none⟩)))] [.c gb [isD (.map (s.M.map Prod.fst)), isD (.slice s.n.A (Acc.nm gL).length s.n.c), isD (.map (s.M.map Prod.snd))], .r s.n.F (vecT 9 1 encT s.n.A s.n.c (Acc.nm gL)), .r s.F1 (mapQ (s.M.map Prod.fst) encS (Acc.nm gL) (acD gL)), .r s.F2 (mapQ (s.M.map Prod.snd) encSt (Acc.seats gL) (seD gL)), .c g5 [strD gE.acc, iD gE.rnd, iD gE.ser, bD gE.box, bD gE.tag]]) (⟨⟨_, rfl, ⟨⟨_, rfl, Le.refl _⟩, ⟨⟨_, rfl, Le.refl _⟩, ⟨⟨_, rfl, Le.refl _⟩, ⟨⟨_, rfl, Le.refl _⟩, trivial⟩⟩⟩⟩⟩, [1, 2, 3, 4, 0], by decide, ⟨⟨_, rfl, LeAll.refl _⟩, ⟨⟨_, rfl, LeR.refl _⟩, ⟨⟨_, rfl, LeR.refl _⟩, ⟨⟨_, rfl, LeR.refl _⟩, ⟨⟨_, rfl, LeAll.refl _⟩, trivial⟩⟩⟩⟩⟩⟩) ?_
  refine SW.region ?_
  refine SWl.rd rfl (Rd.move rfl) ?_
  refine SWl.rd rfl (Rd.loadA 4 5 rfl rfl (by kernel_rfl) rfl ap_nil) ?_
  refine SWl.rd rfl (Rd.move rfl) ?_
  refine SWl.ef (Ef.callR [0, 1, 2, 3] (con_openE gb s gL gE gFine kK1) rfl ⟨Le.refl _, Le.refl _, Le.refl _, trivial⟩ (by decide) ⟨⟨_, rfl, LeAll.refl _⟩, ⟨⟨_, rfl, LeR.refl _⟩, ⟨⟨_, rfl, LeR.refl _⟩, ⟨⟨_, rfl, LeR.refl _⟩, trivial⟩⟩⟩⟩ (fun _ h => h) rfl) ?_
  rintro _ ⟨⟨⟩, rfl⟩
  refine SWl.rd rfl (Rd.move rfl) ?_
  refine SWl.rd rfl (Rd.extract rfl rfl) ?_
  refine SWl.rd rfl (Rd.extract rfl rfl) ?_
  refine SWl.rd rfl (Rd.assign rfl) ?_
  refine SWl.rd rfl (Rd.assign rfl) ?_
  refine SWl.nil ?_
  refine SN.then ?_
  refine SW.seq ?_
  refine SW.sub (σ' := St.ob [(1, isD (.pointer (some ⟨gb, 0, none⟩))), (3, bD kK1), (4, bD nN2), (5, isD (.pointer (some ⟨g5, 0, none⟩))), (7, bD hello), (8, iD 0)] [.c gb [isD (.map (s.M.map Prod.fst)), isD (.slice s.n.A (Acc.nm gL).length s.n.c), isD (.map (s.M.map Prod.snd))], .r s.n.F (vecT 9 1 encT s.n.A s.n.c (Acc.nm gL)), .r s.F1 (mapQ (s.M.map Prod.fst) encS (Acc.nm gL) (acD gL)), .r s.F2 (mapQ (s.M.map Prod.snd) encSt (Acc.seats gL) (seD gL)), .c g5 [strD gE.acc, iD gE.rnd, iD gE.ser, bD gE.box, bD gE.tag]]) (⟨⟨_, rfl, ⟨⟨_, rfl, Le.refl _⟩, ⟨⟨_, rfl, Le.refl _⟩, ⟨⟨_, rfl, Le.refl _⟩, ⟨⟨_, rfl, Le.refl _⟩, ⟨⟨_, rfl, (by rw [gOp.2]; exact Le.refl _)⟩, ⟨⟨_, rfl, Le.is (by rw [gOp.1])⟩, trivial⟩⟩⟩⟩⟩⟩⟩, [1, 2, 3, 4, 0], by decide, ⟨⟨_, rfl, LeAll.refl _⟩, ⟨⟨_, rfl, LeR.refl _⟩, ⟨⟨_, rfl, LeR.refl _⟩, ⟨⟨_, rfl, LeR.refl _⟩, ⟨⟨_, rfl, LeAll.refl _⟩, trivial⟩⟩⟩⟩⟩⟩) ?_
  refine SW.draw (gb :: (s.n.F ++ (s.F1 ++ (s.F2 ++ [])))) (.r 0 (.r 1 (.n 2 (.e 3 (.r 4 (.r 5 (.r 6 (.r 7 (.r 8 .fin))))) .no) .no))) (by kernel_rfl) (by kernel_rfl) (fun d _ _ _ _ h => by cases d <;> exact h) ?_
  refine SWz.rd (i := 0) rfl rfl (Rd.move rfl) ?_
  refine SWz.rd (i := 1) rfl rfl (Rd.loadA 4 5 rfl rfl (by kernel_rfl) rfl (ap_cons 0 rfl (by decide) (ap_app 1 rfl (by decide) (ap_app 2 rfl (by decide) (ap_app 3 rfl (by decide) ap_nil))))) ?_
  refine SWz.efn (i := 2) rfl (Ef.call (con_row 9 32 (by decide)) rfl ⟨Le.refl _, Le.refl _, trivial⟩ rfl) ?_ SWz.no
  rintro _ rfl
  refine SWz.efe (i := 3) rfl (Ef.callR [0, 1, 2, 3] (con_openE gb s gL gE gFine (List.replicate 32 9)) rfl ⟨Le.refl _, Le.refl _, Le.refl _, trivial⟩ (by decide) ⟨⟨_, rfl, LeAll.refl _⟩, ⟨⟨_, rfl, LeR.refl _⟩, ⟨⟨_, rfl, LeR.refl _⟩, ⟨⟨_, rfl, LeR.refl _⟩, trivial⟩⟩⟩⟩ (fun _ h => h) rfl) ?_ SWz.no
  rintro _ ⟨⟨⟩, rfl⟩
  refine SWz.rd (i := 4) rfl rfl (Rd.move rfl) ?_
  refine SWz.rd (i := 5) rfl rfl (Rd.extract rfl rfl) ?_
  refine SWz.rd (i := 6) rfl rfl (Rd.extract rfl rfl) ?_
  refine SWz.rd (i := 7) rfl rfl (Rd.assign rfl) ?_
  refine SWz.rd (i := 8) rfl rfl (Rd.assign rfl) ?_
  refine SWz.nil ?_
  refine SN.then ?_
  refine SW.seq ?_
  refine SW.sub (σ' := St.ob [(1, isD (.pointer (some ⟨gb, 0, none⟩))), (3, bD kK1), (4, bD nN2), (5, isD (.pointer (some ⟨g5, 0, none⟩))), (7, bD hello), (8, iD 0), (10, iD 10)] [.c gb [isD (.map (s.M.map Prod.fst)), isD (.slice s.n.A (Acc.nm gL).length s.n.c), isD (.map (s.M.map Prod.snd))], .r s.n.F (vecT 9 1 encT s.n.A s.n.c (Acc.nm gL)), .r s.F1 (mapQ (s.M.map Prod.fst) encS (Acc.nm gL) (acD gL)), .r s.F2 (mapQ (s.M.map Prod.snd) encSt (Acc.seats gL) (seD gL)), .c g5 [strD gE.acc, iD gE.rnd, iD gE.ser, bD gE.box, bD gE.tag]]) (⟨⟨_, rfl, ⟨⟨_, rfl, Le.refl _⟩, ⟨⟨_, rfl, Le.refl _⟩, ⟨⟨_, rfl, Le.refl _⟩, ⟨⟨_, rfl, Le.refl _⟩, ⟨⟨_, rfl, Le.refl _⟩, ⟨⟨_, rfl, Le.refl _⟩, ⟨⟨_, rfl, Le.is (by rw [gOpBad])⟩, trivial⟩⟩⟩⟩⟩⟩⟩⟩, [1, 2, 3, 4, 0], by decide, ⟨⟨_, rfl, LeAll.refl _⟩, ⟨⟨_, rfl, LeR.refl _⟩, ⟨⟨_, rfl, LeR.refl _⟩, ⟨⟨_, rfl, LeR.refl _⟩, ⟨⟨_, rfl, LeAll.refl _⟩, trivial⟩⟩⟩⟩⟩⟩) ?_
  refine SW.region ?_
  refine SWl.rd rfl (Rd.move rfl) ?_
  refine SWl.rd rfl (Rd.loadA 4 5 rfl rfl (by kernel_rfl) rfl ap_nil) ?_
  refine SWl.ef (Ef.callR [0, 1, 2, 3] (con_openE gb s gL gE gFine []) rfl ⟨Le.refl _, Le.refl _, Le.nil_sl, trivial⟩ (by decide) ⟨⟨_, rfl, LeAll.refl _⟩, ⟨⟨_, rfl, LeR.refl _⟩, ⟨⟨_, rfl, LeR.refl _⟩, ⟨⟨_, rfl, LeR.refl _⟩, trivial⟩⟩⟩⟩ (fun _ h => h) rfl) ?_
  rintro _ ⟨⟨⟩, rfl⟩
  refine SWl.rd rfl (Rd.move rfl) ?_
  refine SWl.rd rfl (Rd.extract rfl rfl) ?_
  refine SWl.rd rfl (Rd.extract rfl rfl) ?_
  refine SWl.rd rfl (Rd.assign rfl) ?_
  refine SWl.rd rfl (Rd.assign rfl) ?_
  refine SWl.nil ?_
  refine SN.then ?_
  refine SW.seq ?_
  refine SW.sub (σ' := St.ob [(1, isD (.pointer (some ⟨gb, 0, none⟩))), (3, bD kK1), (4, bD nN2), (5, isD (.pointer (some ⟨g5, 0, none⟩))), (7, bD hello), (8, iD 0), (10, iD 10), (12, iD 2)] [.c gb [isD (.map (s.M.map Prod.fst)), isD (.slice s.n.A (Acc.nm gL).length s.n.c), isD (.map (s.M.map Prod.snd))], .r s.n.F (vecT 9 1 encT s.n.A s.n.c (Acc.nm gL)), .r s.F1 (mapQ (s.M.map Prod.fst) encS (Acc.nm gL) (acD gL)), .r s.F2 (mapQ (s.M.map Prod.snd) encSt (Acc.seats gL) (seD gL)), .c g5 [strD gE.acc, iD gE.rnd, iD gE.ser, bD gE.box, bD gE.tag]]) (⟨⟨_, rfl, ⟨⟨_, rfl, Le.refl _⟩, ⟨⟨_, rfl, Le.refl _⟩, ⟨⟨_, rfl, Le.refl _⟩, ⟨⟨_, rfl, Le.refl _⟩, ⟨⟨_, rfl, Le.refl _⟩, ⟨⟨_, rfl, Le.refl _⟩, ⟨⟨_, rfl, Le.refl _⟩, ⟨⟨_, rfl, Le.is (by rw [gOpNil])⟩, trivial⟩⟩⟩⟩⟩⟩⟩⟩⟩, [1, 2, 3, 4, 0], by decide, ⟨⟨_, rfl, LeAll.refl _⟩, ⟨⟨_, rfl, LeR.refl _⟩, ⟨⟨_, rfl, LeR.refl _⟩, ⟨⟨_, rfl, LeR.refl _⟩, ⟨⟨_, rfl, LeAll.refl _⟩, trivial⟩⟩⟩⟩⟩⟩) ?_
  refine SW.region ?_
  refine SWl.rd rfl (Rd.move rfl) ?_
  refine SWl.rd rfl (Rd.move rfl) ?_
  refine SWl.rd rfl (Rd.move rfl) ?_
  refine SWl.ef (Ef.callR [0, 1, 2, 3] (con_sealE gb s gL nmN 3 1 kK1 nN2 [] gFine) rfl ⟨Le.refl _, Le.refl _, Le.refl _, Le.refl _, Le.refl _, Le.refl _, Le.nil_sl, trivial⟩ (by decide) ⟨⟨_, rfl, LeAll.refl _⟩, ⟨⟨_, rfl, LeR.refl _⟩, ⟨⟨_, rfl, LeR.refl _⟩, ⟨⟨_, rfl, LeR.refl _⟩, trivial⟩⟩⟩⟩ (fun _ h => h) rfl) ?_
  rintro _ ⟨⟨⟩, rfl⟩
  refine SWl.rd rfl (Rd.move rfl) ?_
  refine SWl.rd rfl (Rd.extract rfl rfl) ?_
  refine SWl.rd rfl (Rd.extract rfl rfl) ?_
  refine SWl.ef (S := []) (Ef.alloc (zs := [.string ⟨#[]⟩, .int .i64 0, .int .i64 0, .slice none 0 0, .slice none 0 0]) (by kernel_rfl) rfl) ?_
  rintro _ ⟨g13, rfl⟩
  refine SWl.ef (S := [_]) (Ef.storeA 5 rfl rfl rfl (by kernel_rfl) rfl (List.mem_singleton.2 rfl)) ?_
  rintro _ rfl
  refine SWl.rd rfl (Rd.assign rfl) ?_
  refine SWl.nil ?_
  refine SN.then ?_
  refine SW.seq ?_
  refine SW.sub (σ' := St.ob [(1, isD (.pointer (some ⟨gb, 0, none⟩))), (3, bD kK1), (4, bD nN2), (5, isD (.pointer (some ⟨g5, 0, none⟩))), (7, bD hello), (8, iD 0), (10, iD 10), (12, iD 2), (14, iD 9)] [.c gb [isD (.map (s.M.map Prod.fst)), isD (.slice s.n.A (Acc.nm gL).length s.n.c), isD (.map (s.M.map Prod.snd))], .r s.n.F (vecT 9 1 encT s.n.A s.n.c (Acc.nm gL)), .r s.F1 (mapQ (s.M.map Prod.fst) encS (Acc.nm gL) (acD gL)), .r s.F2 (mapQ (s.M.map Prod.snd) encSt (Acc.seats gL) (seD gL)), .c g5 [strD gE.acc, iD gE.rnd, iD gE.ser, bD gE.box, bD gE.tag]]) (⟨⟨_, rfl, ⟨⟨_, rfl, Le.refl _⟩, ⟨⟨_, rfl, Le.refl _⟩, ⟨⟨_, rfl, Le.refl _⟩, ⟨⟨_, rfl, Le.refl _⟩, ⟨⟨_, rfl, Le.refl _⟩, ⟨⟨_, rfl, Le.refl _⟩, ⟨⟨_, rfl, Le.refl _⟩, ⟨⟨_, rfl, Le.refl _⟩, ⟨⟨_, rfl, Le.is (by rw [gSlNone])⟩, trivial⟩⟩⟩⟩⟩⟩⟩⟩⟩⟩, [1, 2, 3, 4, 0], by decide, ⟨⟨_, rfl, LeAll.refl _⟩, ⟨⟨_, rfl, LeR.refl _⟩, ⟨⟨_, rfl, LeR.refl _⟩, ⟨⟨_, rfl, LeR.refl _⟩, ⟨⟨_, rfl, LeAll.refl _⟩, trivial⟩⟩⟩⟩⟩⟩) ?_
  refine SW.region ?_
  refine SWl.rd rfl (Rd.move rfl) ?_
  refine SWl.rd rfl (Rd.move rfl) ?_
  refine SWl.rd rfl (Rd.move rfl) ?_
  refine SWl.ef (S := []) (Ef.call (con_row 0 4097 (by decide)) rfl ⟨Le.refl _, Le.refl _, trivial⟩ rfl) ?_
  rintro _ rfl
  refine SWl.ef (Ef.callR [0, 1, 2, 3] (con_sealE gb s gL nmA 3 1 kK1 nN2 gZ gFine) rfl ⟨Le.refl _, Le.refl _, Le.refl _, Le.refl _, Le.refl _, Le.refl _, Le.refl _, trivial⟩ (by decide) ⟨⟨_, rfl, LeAll.refl _⟩, ⟨⟨_, rfl, LeR.refl _⟩, ⟨⟨_, rfl, LeR.refl _⟩, ⟨⟨_, rfl, LeR.refl _⟩, trivial⟩⟩⟩⟩ (fun _ h => h) rfl) ?_
  rintro _ ⟨⟨⟩, rfl⟩
  refine SWl.rd rfl (Rd.move rfl) ?_
  refine SWl.rd rfl (Rd.extract rfl rfl) ?_
  refine SWl.rd rfl (Rd.extract rfl rfl) ?_
  refine SWl.ef (S := []) (Ef.alloc (zs := [.string ⟨#[]⟩, .int .i64 0, .int .i64 0, .slice none 0 0, .slice none 0 0]) (by kernel_rfl) rfl) ?_
  rintro _ ⟨g15, rfl⟩
  refine SWl.ef (S := [_]) (Ef.storeA 5 rfl rfl rfl (by kernel_rfl) rfl (List.mem_singleton.2 rfl)) ?_
  rintro _ rfl
  refine SWl.rd rfl (Rd.assign rfl) ?_
  refine SWl.nil ?_
  refine SN.then ?_
  refine SW.seq ?_
  refine SW.sub (σ' := St.ob [(1, isD (.pointer (some ⟨gb, 0, none⟩))), (3, bD kK1), (4, bD nN2), (5, isD (.pointer (some ⟨g5, 0, none⟩))), (7, bD hello), (8, iD 0), (10, iD 10), (12, iD 2), (14, iD 9), (16, iD 5)] [.c gb [isD (.map (s.M.map Prod.fst)), isD (.slice s.n.A (Acc.nm gL).length s.n.c), isD (.map (s.M.map Prod.snd))], .r s.n.F (vecT 9 1 encT s.n.A s.n.c (Acc.nm gL)), .r s.F1 (mapQ (s.M.map Prod.fst) encS (Acc.nm gL) (acD gL)), .r s.F2 (mapQ (s.M.map Prod.snd) encSt (Acc.seats gL) (seD gL)), .c g5 [strD gE.acc, iD gE.rnd, iD gE.ser, bD gE.box, bD gE.tag]]) (⟨⟨_, rfl, ⟨⟨_, rfl, Le.refl _⟩, ⟨⟨_, rfl, Le.refl _⟩, ⟨⟨_, rfl, Le.refl _⟩, ⟨⟨_, rfl, Le.refl _⟩, ⟨⟨_, rfl, Le.refl _⟩, ⟨⟨_, rfl, Le.refl _⟩, ⟨⟨_, rfl, Le.refl _⟩, ⟨⟨_, rfl, Le.refl _⟩, ⟨⟨_, rfl, Le.refl _⟩, ⟨⟨_, rfl, Le.is (by rw [gSlLong])⟩, trivial⟩⟩⟩⟩⟩⟩⟩⟩⟩⟩⟩, [1, 2, 3, 4, 0], by decide, ⟨⟨_, rfl, LeAll.refl _⟩, ⟨⟨_, rfl, LeR.refl _⟩, ⟨⟨_, rfl, LeR.refl _⟩, ⟨⟨_, rfl, LeR.refl _⟩, ⟨⟨_, rfl, LeAll.refl _⟩, trivial⟩⟩⟩⟩⟩⟩) ?_
  refine SW.region ?_
  refine SWl.rd rfl (Rd.move rfl) ?_
  refine SWl.rd rfl (Rd.move rfl) ?_
  refine SWl.rd rfl (Rd.move rfl) ?_
  refine SWl.ef (S := []) (Ef.call (con_row 0 4097 (by decide)) rfl ⟨Le.refl _, Le.refl _, trivial⟩ rfl) ?_
  rintro _ rfl
  refine SWl.ef (Ef.callR [0, 1, 2, 3] (con_sealE gb s gL nmN 3 1 kK1 nN2 gZ gFine) rfl ⟨Le.refl _, Le.refl _, Le.refl _, Le.refl _, Le.refl _, Le.refl _, Le.refl _, trivial⟩ (by decide) ⟨⟨_, rfl, LeAll.refl _⟩, ⟨⟨_, rfl, LeR.refl _⟩, ⟨⟨_, rfl, LeR.refl _⟩, ⟨⟨_, rfl, LeR.refl _⟩, trivial⟩⟩⟩⟩ (fun _ h => h) rfl) ?_
  rintro _ ⟨⟨⟩, rfl⟩
  refine SWl.rd rfl (Rd.move rfl) ?_
  refine SWl.rd rfl (Rd.extract rfl rfl) ?_
  refine SWl.rd rfl (Rd.extract rfl rfl) ?_
  refine SWl.ef (S := []) (Ef.alloc (zs := [.string ⟨#[]⟩, .int .i64 0, .int .i64 0, .slice none 0 0, .slice none 0 0]) (by kernel_rfl) rfl) ?_
  rintro _ ⟨g17, rfl⟩
  refine SWl.ef (S := [_]) (Ef.storeA 5 rfl rfl rfl (by kernel_rfl) rfl (List.mem_singleton.2 rfl)) ?_
  rintro _ rfl
  refine SWl.rd rfl (Rd.assign rfl) ?_
  refine SWl.nil ?_
  refine SN.then ?_
  refine SW.seq ?_
  refine SW.sub (σ' := St.ob [(1, isD (.pointer (some ⟨gb, 0, none⟩))), (5, isD (.pointer (some ⟨g5, 0, none⟩))), (7, bD hello), (8, iD 0), (10, iD 10), (12, iD 2), (14, iD 9), (16, iD 5), (18, iD 5)] [.c gb [isD (.map (s.M.map Prod.fst)), isD (.slice s.n.A (Acc.nm gL).length s.n.c), isD (.map (s.M.map Prod.snd))], .r s.n.F (vecT 9 1 encT s.n.A s.n.c (Acc.nm gL)), .r s.F1 (mapQ (s.M.map Prod.fst) encS (Acc.nm gL) (acD gL)), .r s.F2 (mapQ (s.M.map Prod.snd) encSt (Acc.seats gL) (seD gL)), .c g5 [strD gE.acc, iD gE.rnd, iD gE.ser, bD gE.box, bD gE.tag]]) (⟨⟨_, rfl, ⟨⟨_, rfl, Le.refl _⟩, ⟨⟨_, rfl, Le.refl _⟩, ⟨⟨_, rfl, Le.refl _⟩, ⟨⟨_, rfl, Le.refl _⟩, ⟨⟨_, rfl, Le.refl _⟩, ⟨⟨_, rfl, Le.refl _⟩, ⟨⟨_, rfl, Le.refl _⟩, ⟨⟨_, rfl, Le.refl _⟩, ⟨⟨_, rfl, Le.is (by rw [gSlLong])⟩, trivial⟩⟩⟩⟩⟩⟩⟩⟩⟩⟩, [1, 2, 3, 4, 0], by decide, ⟨⟨_, rfl, LeAll.refl _⟩, ⟨⟨_, rfl, LeR.refl _⟩, ⟨⟨_, rfl, LeR.refl _⟩, ⟨⟨_, rfl, LeR.refl _⟩, ⟨⟨_, rfl, LeAll.refl _⟩, trivial⟩⟩⟩⟩⟩⟩) ?_
  refine SW.region ?_
  refine SWl.rd rfl (Rd.fieldAddr (n := 2) rfl (by kernel_rfl)) ?_
  refine SWl.ef (S := [_]) (Ef.storeV 4 rfl rfl rfl (by kernel_rfl) rfl (List.mem_singleton.2 rfl)) ?_
  rintro _ rfl
  refine SWl.nil ?_
  refine SN.then ?_
  refine SW.seq ?_
  refine SW.sub (σ' := St.ob [(1, isD (.pointer (some ⟨gb, 0, none⟩))), (5, isD (.pointer (some ⟨g5, 0, none⟩))), (7, bD hello), (8, iD 0), (10, iD 10), (12, iD 2), (14, iD 9), (16, iD 5), (18, iD 5)] [.c gb [isD (.map (s.M.map Prod.fst)), isD (.slice s.n.A (Acc.nm gL).length s.n.c), isD (.map (s.M.map Prod.snd))], .r s.n.F (vecT 9 1 encT s.n.A s.n.c (Acc.nm gL)), .r s.F1 (mapQ (s.M.map Prod.fst) encS (Acc.nm gL) (acD gL)), .r s.F2 (mapQ (s.M.map Prod.snd) encSt (Acc.seats gL) (seD gL)), .c g5 [strD gF.acc, iD gF.rnd, iD gF.ser, bD gF.box, bD gF.tag]]) (⟨⟨_, rfl, ⟨⟨_, rfl, Le.refl _⟩, ⟨⟨_, rfl, Le.refl _⟩, ⟨⟨_, rfl, Le.refl _⟩, ⟨⟨_, rfl, Le.refl _⟩, ⟨⟨_, rfl, Le.refl _⟩, ⟨⟨_, rfl, Le.refl _⟩, ⟨⟨_, rfl, Le.refl _⟩, ⟨⟨_, rfl, Le.refl _⟩, ⟨⟨_, rfl, Le.refl _⟩, trivial⟩⟩⟩⟩⟩⟩⟩⟩⟩⟩, [0, 1, 2, 3, 4], by decide, ⟨⟨_, rfl, LeAll.refl _⟩, ⟨⟨_, rfl, LeR.refl _⟩, ⟨⟨_, rfl, LeR.refl _⟩, ⟨⟨_, rfl, LeR.refl _⟩, ⟨⟨_, rfl, LeAll.refl _⟩, trivial⟩⟩⟩⟩⟩⟩) ?_
  refine SW.region ?_
  refine SWl.rd rfl (Rd.move rfl) ?_
  refine SWl.rd rfl (Rd.str (e := 5) rfl (by kernel_rfl) (by kernel_rfl) (by kernel_rfl) (by simp)) ?_
  refine SWl.rd rfl (Rd.eqs (p := hello) (q := hello) rfl rfl) ?_
  refine SWl.rd rfl (Rd.move rfl) ?_
  refine SWl.rdg rfl rfl (by decide) rfl rfl (Rd.move rfl) ?_
  refine SWl.rdg rfl rfl (by decide) rfl rfl (Rd.eqi rfl rfl) ?_
  refine SWl.rd rfl (Rd.pickY rfl (by decide) rfl) ?_
  refine SWl.rd rfl (Rd.move rfl) ?_
  refine SWl.rdg rfl rfl (by decide) rfl rfl (Rd.move rfl) ?_
  refine SWl.rdg rfl rfl (by decide) rfl rfl (Rd.eqi rfl rfl) ?_
  refine SWl.rd rfl (Rd.pickY rfl (by decide) rfl) ?_
  refine SWl.rd rfl (Rd.move rfl) ?_
  refine SWl.rdg rfl rfl (by decide) rfl rfl (Rd.move rfl) ?_
  refine SWl.rdg rfl rfl (by decide) rfl rfl (Rd.eqi rfl rfl) ?_
  refine SWl.rd rfl (Rd.pickY rfl (by decide) rfl) ?_
  refine SWl.rd rfl (Rd.move rfl) ?_
  refine SWl.rdg rfl rfl (by decide) rfl rfl (Rd.move rfl) ?_
  refine SWl.rdg rfl rfl (by decide) rfl rfl (Rd.eqi rfl rfl) ?_
  refine SWl.rd rfl (Rd.pickY rfl (by decide) rfl) ?_
  refine SWl.rd rfl (Rd.move rfl) ?_
  refine SWl.rdg rfl rfl (by decide) rfl rfl (Rd.move rfl) ?_
  refine SWl.rdg rfl rfl (by decide) rfl rfl (Rd.eqi rfl rfl) ?_
  refine SWl.rd rfl (Rd.pickY rfl (by decide) rfl) ?_
  refine SWl.rd rfl (Rd.move rfl) ?_
  refine SWl.rdg rfl rfl (by decide) rfl rfl (Rd.move rfl) ?_
  refine SWl.rdg rfl rfl (by decide) rfl rfl (Rd.eqi rfl rfl) ?_
  refine SWl.rd rfl (Rd.pickY rfl (by decide) rfl) ?_
  refine SWl.rd rfl (Rd.move rfl) ?_
  refine SWl.rdg rfl rfl (by decide) rfl rfl (Rd.move rfl) ?_
  refine SWl.rdg rfl rfl (by decide) rfl rfl (Rd.loadA 4 5 rfl rfl (by kernel_rfl) rfl ap_nil) ?_
  refine SWl.efg rfl rfl (by decide) rfl (Ef.callR [0, 1, 2, 3] (con_checkE gb s gL gF gFine) rfl ⟨Le.refl _, Le.refl _, trivial⟩ (by decide) ⟨⟨_, rfl, LeAll.refl _⟩, ⟨⟨_, rfl, LeR.refl _⟩, ⟨⟨_, rfl, LeR.refl _⟩, ⟨⟨_, rfl, LeR.refl _⟩, trivial⟩⟩⟩⟩ (fun _ h => h) rfl) ?_
  rintro _ ⟨⟨⟩, rfl⟩
  refine SWl.rdg rfl rfl (by decide) rfl rfl (Rd.eqi rfl rfl) ?_
  refine SWl.rd rfl (Rd.pickY rfl (by decide) rfl) ?_
  refine SWl.rd rfl (Rd.assign rfl) ?_
  refine SWl.nil ?_
  refine SN.then ?_
  refine SW.ret (fn := Tryd.f17) (fun _ _ h => h) (Rs.le (Rs.one rfl (ResV.tmp rfl)) ?_)
  exact le_bool_n (by rw [gAutF]; rfl)
end Sx
end Go.Proofs.YtchbgfgboogniaaDoor
