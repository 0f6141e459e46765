/-
  ACCOUNTS: tags.
-/
import Derived.Test.YtchbgfgboogniaaDoorGP
import Derived.Test.YtchbgfgboogniaaDoorGR
namespace Go.Proofs.YtchbgfgboogniaaDoor
open Go.RowKit
namespace Sx
/-- The tag of bytes for an account, or the error. -/
def Acc.tagE (l : List Acc.T) (nm q : List UInt8) : Int := match Acc.find l nm with | none => 9 | some _ => if 65536 < q.length then 5 else 0
def Acc.tagT (l : List Acc.T) (nm q : List UInt8) : List UInt8 := match Acc.find l nm with | none => [] | some x => if 65536 < q.length then [] else Bl.hash x.key q
theorem Acc.tag_no {l : List Acc.T} {nm q : List UInt8} (h : Acc.find l nm = none) : Acc.tagT l nm q = [] ∧ Acc.tagE l nm q = 9 := by unfold Acc.tagT Acc.tagE; rw [h]; exact ⟨rfl, rfl⟩
theorem Acc.tag_long {l : List Acc.T} {nm q : List UInt8} {x : Acc.T} (h : Acc.find l nm = some x) (hq : 65536 < q.length) : Acc.tagT l nm q = [] ∧ Acc.tagE l nm q = 5 := by unfold Acc.tagT Acc.tagE; rw [h]; exact ⟨if_pos hq, if_pos hq⟩
theorem Acc.tag_yes {l : List Acc.T} {nm q : List UInt8} {x : Acc.T} (h : Acc.find l nm = some x) (hq : ¬ 65536 < q.length) : Acc.tagT l nm q = Bl.hash x.key q ∧ Acc.tagE l nm q = 0 := by unfold Acc.tagT Acc.tagE; rw [h]; exact ⟨if_neg hq, if_neg hq⟩
def Acc.ver (E : Int) (T tg : List UInt8) : Int := if E ≠ 0 then E else if T = tg then 0 else 10
def Acc.verE (l : List Acc.T) (nm q tg : List UInt8) : Int := Acc.ver (Acc.tagE l nm q) (Acc.tagT l nm q) tg
set_option maxHeartbeats 4000000 in
set_option maxRecDepth 100000 in
theorem con_bytesEq (a b : List UInt8) : ConN Tryd.prog 60 [bD a, bD b] (boolD (decide (a = b))) := by
  refine con_ofN Tryd.func60 (by kernel_rfl) rfl (by kernel_rfl) fun base w0 => ?_
  refine SW.seq ?_
  refine SW.region ?_
  refine SWl.rd rfl (Rd.assign rfl) ?_
  refine SWl.nil ?_
  refine SN.then ?_
  refine SW.seq ?_
  refine SW.region ?_
  refine SWl.rd rfl (Rd.move rfl) ?_
  refine SWl.rd rfl (Rd.str (e := 5) rfl (by kernel_rfl) (by kernel_rfl) (by kernel_rfl) (by simp)) ?_
  refine SWl.rd rfl (Rd.move rfl) ?_
  refine SWl.rd rfl (Rd.str (e := 5) rfl (by kernel_rfl) (by kernel_rfl) (by kernel_rfl) (by simp)) ?_
  refine SWl.rd rfl (Rd.eqs (p := a) (q := b) rfl rfl) ?_
  refine SWl.rd rfl (Rd.assign rfl) ?_
  refine SWl.nil ?_
  refine SN.then ?_
  refine SW.ret (fn := Tryd.f60) (fun _ _ h => h) (Rs.le (Rs.one rfl (ResV.tmp rfl)) ?_)
  exact le_nw_is
set_option maxHeartbeats 4000000 in
set_option maxRecDepth 100000 in
theorem con_tag (gb : Nat) (s : Bst) (l : List Acc.T) (nm q : List UInt8) (hf : Acc.Fine l) (hq : q.length ≤ 1000000) : ConR Tryd.prog 14 [.c gb [isD (.map (s.M.map Prod.fst)), isD (.slice s.n.A (Acc.nm l).length s.n.c), isD (.map (s.M.map Prod.snd))], .r s.n.F (vecT 9 1 encT s.n.A s.n.c (Acc.nm l)), .r s.F1 (mapQ (s.M.map Prod.fst) encS (Acc.nm l) (acD l)), .r s.F2 (mapQ (s.M.map Prod.snd) encSt (Acc.seats l) (seD l))] [isD (.pointer (some ⟨gb, 0, none⟩)), strD nm, bD q] (fun _ : Unit => [.c gb [isD (.map (s.M.map Prod.fst)), isD (.slice s.n.A (Acc.nm l).length s.n.c), isD (.map (s.M.map Prod.snd))], .r s.n.F (vecT 9 1 encT s.n.A s.n.c (Acc.nm l)), .r s.F1 (mapQ (s.M.map Prod.fst) encS (Acc.nm l) (acD l)), .r s.F2 (mapQ (s.M.map Prod.snd) encSt (Acc.seats l) (seD l))]) (fun _ : Unit => tupD [bD (Acc.tagT l nm q), iD (Acc.tagE l nm q)]) := by
  refine con_ofR Tryd.func14 (by kernel_rfl) rfl (by kernel_rfl) fun base w0 => ?_
  refine SW.seq ?_
  refine SW.region ?_
  refine SWl.rd rfl (Rd.assign rfl) ?_
  refine SWl.rd rfl (Rd.assign rfl) ?_
  refine SWl.nil ?_
  refine SN.then ?_
  refine SW.seq ?_
  refine SW.region ?_
  refine SWl.rd rfl (Rd.move rfl) ?_
  refine SWl.rd rfl (Rd.move rfl) ?_
  refine SWl.ef (S := []) (Ef.callN [0, 2, 1, 3] (con_get l nm hf) rfl ⟨(sees_box 0 rfl (by decide) ⟨(sees_mapQ 2 rfl (by decide)), (sees_vec 1 rfl (by decide)), (sees_mapQ 3 rfl (by decide)), trivial⟩), (sees_le (Le.refl _)), trivial⟩ rfl) ?_
  rintro _ rfl
  refine SWl.rd rfl (Rd.move rfl) ?_
  refine SWl.rd rfl (Rd.extract rfl rfl) ?_
  refine SWl.rd rfl (Rd.extract rfl rfl) ?_
  refine SWl.ef (S := []) (Ef.alloc (zs := [.string ⟨#[]⟩, .int .i64 0, .slice none 0 0, .int .i64 0, .int .i64 0]) (by kernel_rfl) rfl) ?_
  rintro _ ⟨g8, rfl⟩
  refine SWl.ef (S := [_]) (Ef.storeA 4 rfl rfl rfl (by kernel_rfl) rfl (List.mem_singleton.2 rfl)) ?_
  rintro _ rfl
  refine SWl.rd rfl (Rd.assign rfl) ?_
  refine SWl.nil ?_
  refine SN.then ?_
  refine SW.seq ?_
  refine SW.seq ?_
  rcases hx : Acc.find l nm with _ | x
  · have hg := Acc.get_no hx
    refine SW.sub (σ' := St.ob [(2, bD q), (8, isD (.pointer (some ⟨g8, 0, none⟩))), (9, iD 9)] [.c gb [isD (.map (s.M.map Prod.fst)), isD (.slice s.n.A (Acc.nm l).length s.n.c), isD (.map (s.M.map Prod.snd))], .r s.n.F (vecT 9 1 encT s.n.A s.n.c (Acc.nm l)), .r s.F1 (mapQ (s.M.map Prod.fst) encS (Acc.nm l) (acD l)), .r s.F2 (mapQ (s.M.map Prod.snd) encSt (Acc.seats l) (seD l)), .c g8 [strD Acc.zero.name, iD Acc.zero.role, bD Acc.zero.key, iD Acc.zero.dep, iD Acc.zero.num]]) (⟨⟨_, rfl, ⟨⟨_, rfl, Le.refl _⟩, ⟨⟨_, rfl, Le.refl _⟩, ⟨⟨_, rfl, Le.is (by rw [hg.2])⟩, trivial⟩⟩⟩⟩, [0, 1, 2, 3, 4], by decide, ⟨⟨_, rfl, LeAll.refl _⟩, ⟨⟨_, rfl, LeR.refl _⟩, ⟨⟨_, rfl, LeR.refl _⟩, ⟨⟨_, rfl, LeR.refl _⟩, ⟨⟨_, rfl, (by rw [hg.1]; exact LeAll.refl _)⟩, trivial⟩⟩⟩⟩⟩⟩) ?_
    refine SW.region ?_
    refine SWl.rd rfl (Rd.move rfl) ?_
    refine SWl.rd rfl (Rd.nei rfl rfl) ?_
    refine SWl.nil ?_
    refine SN.then ?_
    refine SW.condT rfl (by decide) ?_
    refine SW.seq ?_
    refine SW.region ?_
    refine SWl.rd rfl (Rd.move rfl) ?_
    refine SWl.rd rfl (Rd.assign rfl) ?_
    refine SWl.rd rfl (Rd.assign rfl) ?_
    refine SWl.nil ?_
    refine SN.then ?_
    refine SW.retR (fn := Tryd.f14) (()) [0, 1, 2, 3] (fun _ _ h => h) (Rs.le (Rs.two rfl (ResV.tmp rfl) (ResV.tmp rfl)) ?_) (by decide) ⟨⟨_, rfl, LeAll.refl _⟩, ⟨⟨_, rfl, LeR.refl _⟩, ⟨⟨_, rfl, LeR.refl _⟩, ⟨⟨_, rfl, LeR.refl _⟩, trivial⟩⟩⟩⟩
    exact Le.tup ⟨by rw [(Acc.tag_no hx).1]; exact Le.nil_sl, Le.is (by rw [(Acc.tag_no hx).2]), trivial⟩
  · have hg := Acc.get_yes hx; have hkl := (hf.oks x (Acc.find_some hx).1).2.1
    refine SW.sub (σ' := St.ob [(2, bD q), (8, isD (.pointer (some ⟨g8, 0, none⟩))), (9, iD 0)] [.c gb [isD (.map (s.M.map Prod.fst)), isD (.slice s.n.A (Acc.nm l).length s.n.c), isD (.map (s.M.map Prod.snd))], .r s.n.F (vecT 9 1 encT s.n.A s.n.c (Acc.nm l)), .r s.F1 (mapQ (s.M.map Prod.fst) encS (Acc.nm l) (acD l)), .r s.F2 (mapQ (s.M.map Prod.snd) encSt (Acc.seats l) (seD l)), .c g8 [strD x.name, iD x.role, bD x.key, iD x.dep, iD x.num]]) (⟨⟨_, rfl, ⟨⟨_, rfl, Le.refl _⟩, ⟨⟨_, rfl, Le.refl _⟩, ⟨⟨_, rfl, Le.is (by rw [hg.2])⟩, trivial⟩⟩⟩⟩, [0, 1, 2, 3, 4], by decide, ⟨⟨_, rfl, LeAll.refl _⟩, ⟨⟨_, rfl, LeR.refl _⟩, ⟨⟨_, rfl, LeR.refl _⟩, ⟨⟨_, rfl, LeR.refl _⟩, ⟨⟨_, rfl, (by rw [hg.1]; exact LeAll.refl _)⟩, trivial⟩⟩⟩⟩⟩⟩) ?_
    refine SW.region ?_
    refine SWl.rd rfl (Rd.move rfl) ?_
    refine SWl.rd rfl (Rd.nei rfl rfl) ?_
    refine SWl.nil ?_
    refine SN.then ?_
    refine SW.condF rfl (by decide) ?_
    refine SW.skip ?_
    refine SN.then ?_
    refine SW.seq ?_
    refine SW.seq ?_
    refine SW.region ?_
    refine SWl.rd rfl (Rd.move rfl) ?_
    refine SWl.rd rfl (Rd.len (e := 5) rfl (by kernel_rfl)) ?_
    refine SWl.rd rfl (Rd.gtr rfl rfl) ?_
    refine SWl.nil ?_
    refine SN.then ?_
    refine SW.cond rfl (fun hb22 => ?_) (fun hb22 => ?_)
    · have h22 : 65536 < q.length := by have h := of_decide_eq_true hb22; simp at h; omega
      refine SW.seq ?_
      refine SW.region ?_
      refine SWl.rd rfl (Rd.assign rfl) ?_
      refine SWl.rd rfl (Rd.assign rfl) ?_
      refine SWl.nil ?_
      refine SN.then ?_
      refine SW.retR (fn := Tryd.f14) (()) [0, 1, 2, 3] (fun _ _ h => h) (Rs.le (Rs.two rfl (ResV.tmp rfl) (ResV.tmp rfl)) ?_) (by decide) ⟨⟨_, rfl, LeAll.refl _⟩, ⟨⟨_, rfl, LeR.refl _⟩, ⟨⟨_, rfl, LeR.refl _⟩, ⟨⟨_, rfl, LeR.refl _⟩, trivial⟩⟩⟩⟩
      exact Le.tup ⟨by rw [(Acc.tag_long hx h22).1]; exact Le.nil_sl, Le.is (by rw [(Acc.tag_long hx h22).2]), trivial⟩
    · have h22 : ¬ 65536 < q.length := by have h := of_decide_eq_false hb22; simp at h; omega
      refine SW.skip ?_
      refine SN.then ?_
      refine SW.seq ?_
      refine SW.region ?_
      refine SWl.rd rfl (Rd.fieldAddr (n := 2) rfl (by kernel_rfl)) ?_
      refine SWl.rd rfl (Rd.loadB 4 rfl rfl rfl (by kernel_rfl) ap_nil) ?_
      refine SWl.rd rfl (Rd.move rfl) ?_
      refine SWl.ef (S := []) (Ef.call (con_keyed x.key q (by omega) (by omega) (by omega)) rfl ⟨Le.refl _, Le.refl _, trivial⟩ rfl) ?_
      rintro _ rfl
      refine SWl.rd rfl (Rd.move rfl) ?_
      refine SWl.rd rfl (Rd.extract rfl rfl) ?_
      refine SWl.rd rfl (Rd.extract rfl rfl) ?_
      refine SWl.ef (S := []) (Ef.alloc (zs := cellsOf (List.replicate 32 0)) (by kernel_rfl) rfl) ?_
      rintro _ ⟨g10, rfl⟩
      refine SWl.ef (S := [_]) (Ef.storeG 5 32 rfl rfl rfl (by kernel_rfl) (by first | assumption | (simp; done) | (simp; omega)) (by first | assumption | (simp; done) | (simp; omega)) (List.mem_singleton.2 rfl)) ?_
      rintro _ rfl
      refine SWl.rd rfl (Rd.assign rfl) ?_
      refine SWl.nil ?_
      refine SN.then ?_
      refine SW.seq ?_
      refine SW.seq ?_
      refine SW.region ?_
      refine SWl.rd rfl (Rd.move rfl) ?_
      refine SWl.rd rfl (Rd.nei rfl rfl) ?_
      refine SWl.nil ?_
      refine SN.then ?_
      refine SW.condF rfl (by decide) ?_
      refine SW.skip ?_
      refine SN.then ?_
      refine SW.seq ?_
      refine SW.region ?_
      refine SWl.rd rfl (Rd.slArr (e := 5) (n := 32) rfl (by kernel_rfl) (by kernel_rfl)) ?_
      refine SWl.freeze 33 5 (cellsOf (Bl.hash x.key q)) rfl rfl (by first | rfl | (simp; done)) (by decide) rfl ?_
      refine SWl.rd rfl (Rd.assign rfl) ?_
      refine SWl.rd rfl (Rd.assign rfl) ?_
      refine SWl.nil ?_
      refine SN.then ?_
      refine SW.retR (fn := Tryd.f14) (()) [0, 1, 2, 3] (fun _ _ h => h) (Rs.le (Rs.two rfl (ResV.tmp rfl) (ResV.tmp rfl)) ?_) (by decide) ⟨⟨_, rfl, LeAll.refl _⟩, ⟨⟨_, rfl, LeR.refl _⟩, ⟨⟨_, rfl, LeR.refl _⟩, ⟨⟨_, rfl, LeR.refl _⟩, trivial⟩⟩⟩⟩
      exact Le.tup ⟨by rw [(Acc.tag_yes hx h22).1]; exact Le.refl _, Le.is (by rw [(Acc.tag_yes hx h22).2]), trivial⟩
set_option maxHeartbeats 4000000 in
set_option maxRecDepth 100000 in
theorem con_verify (gb : Nat) (s : Bst) (l : List Acc.T) (nm q tg : List UInt8) (hf : Acc.Fine l) (hq : q.length ≤ 1000000) : ConR Tryd.prog 15 [.c gb [isD (.map (s.M.map Prod.fst)), isD (.slice s.n.A (Acc.nm l).length s.n.c), isD (.map (s.M.map Prod.snd))], .r s.n.F (vecT 9 1 encT s.n.A s.n.c (Acc.nm l)), .r s.F1 (mapQ (s.M.map Prod.fst) encS (Acc.nm l) (acD l)), .r s.F2 (mapQ (s.M.map Prod.snd) encSt (Acc.seats l) (seD l))] [isD (.pointer (some ⟨gb, 0, none⟩)), strD nm, bD q, bD tg] (fun _ : Unit => [.c gb [isD (.map (s.M.map Prod.fst)), isD (.slice s.n.A (Acc.nm l).length s.n.c), isD (.map (s.M.map Prod.snd))], .r s.n.F (vecT 9 1 encT s.n.A s.n.c (Acc.nm l)), .r s.F1 (mapQ (s.M.map Prod.fst) encS (Acc.nm l) (acD l)), .r s.F2 (mapQ (s.M.map Prod.snd) encSt (Acc.seats l) (seD l))]) (fun _ : Unit => iD (Acc.verE l nm q tg)) := by
  refine con_ofR Tryd.func15 (by kernel_rfl) rfl (by kernel_rfl) fun base w0 => ?_
  refine SW.seq ?_
  refine SW.region ?_
  refine SWl.rd rfl (Rd.assign rfl) ?_
  refine SWl.nil ?_
  refine SN.then ?_
  refine SW.seq ?_
  refine SW.region ?_
  refine SWl.rd rfl (Rd.move rfl) ?_
  refine SWl.rd rfl (Rd.move rfl) ?_
  refine SWl.rd rfl (Rd.move rfl) ?_
  refine SWl.ef (Ef.callR [0, 1, 2, 3] (con_tag gb s l nm q hf hq) rfl ⟨Le.refl _, Le.refl _, Le.refl _, trivial⟩ (by decide) ⟨⟨_, rfl, LeAll.refl _⟩, ⟨⟨_, rfl, LeR.refl _⟩, ⟨⟨_, rfl, LeR.refl _⟩, ⟨⟨_, rfl, LeR.refl _⟩, trivial⟩⟩⟩⟩ (fun _ h => h) rfl) ?_
  rintro _ ⟨⟨⟩, rfl⟩
  refine SWl.rd rfl (Rd.move rfl) ?_
  refine SWl.rd rfl (Rd.extract rfl rfl) ?_
  refine SWl.rd rfl (Rd.extract rfl rfl) ?_
  refine SWl.rd rfl (Rd.assign rfl) ?_
  refine SWl.rd rfl (Rd.assign rfl) ?_
  refine SWl.nil ?_
  refine SN.then ?_
  refine SW.seq ?_
  refine SW.seq ?_
  refine SW.region ?_
  refine SWl.rd rfl (Rd.move rfl) ?_
  refine SWl.rd rfl (Rd.nei rfl rfl) ?_
  refine SWl.nil ?_
  refine SN.then ?_
  refine SW.cond rfl (fun hb19 => ?_) (fun hb19 => ?_)
  · have h19 : Acc.tagE l nm q ≠ 0 := by simpa using hb19
    refine SW.seq ?_
    refine SW.region ?_
    refine SWl.rd rfl (Rd.move rfl) ?_
    refine SWl.rd rfl (Rd.assign rfl) ?_
    refine SWl.nil ?_
    refine SN.then ?_
    refine SW.retR (fn := Tryd.f15) (()) [0, 1, 2, 3] (fun _ _ h => h) (Rs.le (Rs.one rfl (ResV.tmp rfl)) ?_) (by decide) ⟨⟨_, rfl, LeAll.refl _⟩, ⟨⟨_, rfl, LeR.refl _⟩, ⟨⟨_, rfl, LeR.refl _⟩, ⟨⟨_, rfl, LeR.refl _⟩, trivial⟩⟩⟩⟩
    exact Le.is (by unfold Acc.verE Acc.ver; rw [if_pos h19])
  · have h19 : ¬ Acc.tagE l nm q ≠ 0 := by simpa using hb19
    refine SW.skip ?_
    refine SN.then ?_
    refine SW.seq ?_
    refine SW.seq ?_
    refine SW.region ?_
    refine SWl.rd rfl (Rd.move rfl) ?_
    refine SWl.rd rfl (Rd.move rfl) ?_
    refine SWl.ef (S := []) (Ef.callN [] (con_bytesEq (Acc.tagT l nm q) tg) rfl ⟨(sees_le (Le.refl _)), (sees_le (Le.refl _)), trivial⟩ rfl) ?_
    rintro _ rfl
    refine SWl.rd rfl (Rd.not rfl) ?_
    refine SWl.nil ?_
    refine SN.then ?_
    refine SW.cond rfl (fun hb24 => ?_) (fun hb24 => ?_)
    · have h24 : ¬ Acc.tagT l nm q = tg := by simpa using hb24
      refine SW.seq ?_
      refine SW.region ?_
      refine SWl.rd rfl (Rd.assign rfl) ?_
      refine SWl.nil ?_
      refine SN.then ?_
      refine SW.retR (fn := Tryd.f15) (()) [0, 1, 2, 3] (fun _ _ h => h) (Rs.le (Rs.one rfl (ResV.tmp rfl)) ?_) (by decide) ⟨⟨_, rfl, LeAll.refl _⟩, ⟨⟨_, rfl, LeR.refl _⟩, ⟨⟨_, rfl, LeR.refl _⟩, ⟨⟨_, rfl, LeR.refl _⟩, trivial⟩⟩⟩⟩
      exact Le.is (by unfold Acc.verE Acc.ver; rw [if_neg h19, if_neg h24])
    · have h24 : Acc.tagT l nm q = tg := by simpa using hb24
      refine SW.skip ?_
      refine SN.then ?_
      refine SW.seq ?_
      refine SW.region ?_
      refine SWl.rd rfl (Rd.assign rfl) ?_
      refine SWl.nil ?_
      refine SN.then ?_
      refine SW.retR (fn := Tryd.f15) (()) [0, 1, 2, 3] (fun _ _ h => h) (Rs.le (Rs.one rfl (ResV.tmp rfl)) ?_) (by decide) ⟨⟨_, rfl, LeAll.refl _⟩, ⟨⟨_, rfl, LeR.refl _⟩, ⟨⟨_, rfl, LeR.refl _⟩, ⟨⟨_, rfl, LeR.refl _⟩, trivial⟩⟩⟩⟩
      exact Le.is (by unfold Acc.verE Acc.ver; rw [if_neg h19, if_pos h24])
end Sx
end Go.Proofs.YtchbgfgboogniaaDoor
