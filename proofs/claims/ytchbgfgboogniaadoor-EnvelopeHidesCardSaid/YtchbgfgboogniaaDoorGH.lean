/-
  ACCOUNTS: tags.
  ENVELOPES in plain Lean: valid ones, what is signed, sealing, opening, encodings.
-/
import Derived.Test.YtchbgfgboogniaaDoorGP
import Derived.Test.YtchbgfgboogniaaDoorGR
import Derived.Test.YtchbgfgboogniaaDoorGL
import Derived.Test.YtchbgfgboogniaaDoorGM
import Derived.Test.YtchbgfgboogniaaDoorGI
namespace Go.Proofs.YtchbgfgboogniaaDoor
open Go.RowKit
namespace Sx
/-- The tag of bytes for an account, or the error. -/
def Acc.tagE (l : List Acc.T) (nm q : List UInt8) : Int := match Acc.find l nm with | none => 9 | some _ => if 65536 < q.length then 5 else 0
def Acc.tagT (l : List Acc.T) (nm q : List UInt8) : List UInt8 := match Acc.find l nm with | none => [] | some x => if 65536 < q.length then [] else Bl.hash x.key q
theorem Acc.tag_no {l : List Acc.T} {nm q : List UInt8} (h : Acc.find l nm = none) : Acc.tagT l nm q = [] ∧ Acc.tagE l nm q = 9 := by unfold Acc.tagT Acc.tagE; rw [h]; exact ⟨rfl, rfl⟩
theorem Acc.tag_long {l : List Acc.T} {nm q : List UInt8} {x : Acc.T} (h : Acc.find l nm = some x) (hq : 65536 < q.length) : Acc.tagT l nm q = [] ∧ Acc.tagE l nm q = 5 := by unfold Acc.tagT Acc.tagE; rw [h]; exact ⟨if_pos hq, if_pos hq⟩
theorem Acc.tag_yes {l : List Acc.T} {nm q : List UInt8} {x : Acc.T} (h : Acc.find l nm = some x) (hq : ¬ 65536 < q.length) : Acc.tagT l nm q = Bl.hash x.key q ∧ Acc.tagE l nm q = 0 := by unfold Acc.tagT Acc.tagE; rw [h]; exact ⟨if_neg hq, if_neg hq⟩
def Acc.ver (E : Int) (T tg : List UInt8) : Int := if E ≠ 0 then E else if T = tg then 0 else 10
def Acc.verE (l : List Acc.T) (nm q tg : List UInt8) : Int := Acc.ver (Acc.tagE l nm q) (Acc.tagT l nm q) tg
def Acc.unE (l : List Acc.T) (nm : List UInt8) (p : Int) : Int := if p < 1 then 2 else Acc.getE l nm
set_option maxHeartbeats 4000000 in
set_option maxRecDepth 100000 in
theorem con_bytesEq (a b : List UInt8) : ConN Tryd.prog 60 [bD a, bD b] (boolD (decide (a = b))) := by
  refine con_ofN Tryd.func60 (by kernel_rfl) rfl (by kernel_rfl) fun base w0 => ?_
  refine SW.seq ?_
  refine SW.region ?_
  refine SWl.rd rfl (Rd.assign rfl) ?_
  refine SWl.nil ?_
  refine SN.then ?_
  refine SW.seq ?_
  refine SW.region ?_
  refine SWl.rd rfl (Rd.move rfl) ?_
  refine SWl.rd rfl (Rd.str (e := 5) rfl (by kernel_rfl) (by kernel_rfl) (by kernel_rfl) (by simp)) ?_
  refine SWl.rd rfl (Rd.move rfl) ?_
  refine SWl.rd rfl (Rd.str (e := 5) rfl (by kernel_rfl) (by kernel_rfl) (by kernel_rfl) (by simp)) ?_
  refine SWl.rd rfl (Rd.eqs (p := a) (q := b) rfl rfl) ?_
  refine SWl.rd rfl (Rd.assign rfl) ?_
  refine SWl.nil ?_
  refine SN.then ?_
  refine SW.ret (fn := Tryd.f60) (fun _ _ h => h) (Rs.le (Rs.one rfl (ResV.tmp rfl)) ?_)
  exact le_nw_is
set_option maxHeartbeats 4000000 in
set_option maxRecDepth 100000 in
theorem con_tag (gb : Nat) (s : Bst) (l : List Acc.T) (nm q : List UInt8) (hf : Acc.Fine l) (hq : q.length ≤ 1000000) : ConR Tryd.prog 14 [.c gb [isD (.map (s.M.map Prod.fst)), isD (.slice s.n.A (Acc.nm l).length s.n.c), isD (.map (s.M.map Prod.snd))], .r s.n.F (vecT 9 1 encT s.n.A s.n.c (Acc.nm l)), .r s.F1 (mapQ (s.M.map Prod.fst) encS (Acc.nm l) (acD l)), .r s.F2 (mapQ (s.M.map Prod.snd) encSt (Acc.seats l) (seD l))] [isD (.pointer (some ⟨gb, 0, none⟩)), strD nm, bD q] (fun _ : Unit => [.c gb [isD (.map (s.M.map Prod.fst)), isD (.slice s.n.A (Acc.nm l).length s.n.c), isD (.map (s.M.map Prod.snd))], .r s.n.F (vecT 9 1 encT s.n.A s.n.c (Acc.nm l)), .r s.F1 (mapQ (s.M.map Prod.fst) encS (Acc.nm l) (acD l)), .r s.F2 (mapQ (s.M.map Prod.snd) encSt (Acc.seats l) (seD l))]) (fun _ : Unit => tupD [bD (Acc.tagT l nm q), iD (Acc.tagE l nm q)]) := by
  refine con_ofR Tryd.func14 (by kernel_rfl) rfl (by kernel_rfl) fun base w0 => ?_
  refine SW.seq ?_
  refine SW.region ?_
  refine SWl.rd rfl (Rd.assign rfl) ?_
  refine SWl.rd rfl (Rd.assign rfl) ?_
  refine SWl.nil ?_
  refine SN.then ?_
  refine SW.seq ?_
  refine SW.region ?_
  refine SWl.rd rfl (Rd.move rfl) ?_
  refine SWl.rd rfl (Rd.move rfl) ?_
  refine SWl.ef (S := []) (Ef.callN [0, 2, 1, 3] (con_get l nm hf) rfl ⟨(sees_box 0 rfl (by decide) ⟨(sees_mapQ 2 rfl (by decide)), (sees_vec 1 rfl (by decide)), (sees_mapQ 3 rfl (by decide)), trivial⟩), (sees_le (Le.refl _)), trivial⟩ rfl) ?_
  rintro _ rfl
  refine SWl.rd rfl (Rd.move rfl) ?_
  refine SWl.rd rfl (Rd.extract rfl rfl) ?_
  refine SWl.rd rfl (Rd.extract rfl rfl) ?_
  refine SWl.ef (S := []) (Ef.alloc (zs := [.string ⟨#[]⟩, .int .i64 0, .slice none 0 0, .int .i64 0, .int .i64 0]) (by kernel_rfl) rfl) ?_
  rintro _ ⟨g8, rfl⟩
  refine SWl.ef (S := [_]) (Ef.storeA 4 rfl rfl rfl (by kernel_rfl) rfl (List.mem_singleton.2 rfl)) ?_
  rintro _ rfl
  refine SWl.rd rfl (Rd.assign rfl) ?_
  refine SWl.nil ?_
  refine SN.then ?_
  refine SW.seq ?_
  refine SW.seq ?_
  rcases hx : Acc.find l nm with _ | x
  · have hg := Acc.get_no hx
    refine SW.sub (σ' := St.ob [(2, bD q), (8, isD (.pointer (some ⟨g8, 0, none⟩))), (9, iD 9)] [.c gb [isD (.map (s.M.map Prod.fst)), isD (.slice s.n.A (Acc.nm l).length s.n.c), isD (.map (s.M.map Prod.snd))], .r s.n.F (vecT 9 1 encT s.n.A s.n.c (Acc.nm l)), .r s.F1 (mapQ (s.M.map Prod.fst) encS (Acc.nm l) (acD l)), .r s.F2 (mapQ (s.M.map Prod.snd) encSt (Acc.seats l) (seD l)), .c g8 [strD Acc.zero.name, iD Acc.zero.role, bD Acc.zero.key, iD Acc.zero.dep, iD Acc.zero.num]]) (⟨⟨_, rfl, ⟨⟨_, rfl, Le.refl _⟩, ⟨⟨_, rfl, Le.refl _⟩, ⟨⟨_, rfl, Le.is (by rw [hg.2])⟩, trivial⟩⟩⟩⟩, [0, 1, 2, 3, 4], by decide, ⟨⟨_, rfl, LeAll.refl _⟩, ⟨⟨_, rfl, LeR.refl _⟩, ⟨⟨_, rfl, LeR.refl _⟩, ⟨⟨_, rfl, LeR.refl _⟩, ⟨⟨_, rfl, (by rw [hg.1]; exact LeAll.refl _)⟩, trivial⟩⟩⟩⟩⟩⟩) ?_
    refine SW.region ?_
    refine SWl.rd rfl (Rd.move rfl) ?_
    refine SWl.rd rfl (Rd.nei rfl rfl) ?_
    refine SWl.nil ?_
    refine SN.then ?_
    refine SW.condT rfl (by decide) ?_
    refine SW.seq ?_
    refine SW.region ?_
    refine SWl.rd rfl (Rd.move rfl) ?_
    refine SWl.rd rfl (Rd.assign rfl) ?_
    refine SWl.rd rfl (Rd.assign rfl) ?_
    refine SWl.nil ?_
    refine SN.then ?_
    refine SW.retR (fn := Tryd.f14) (()) [0, 1, 2, 3] (fun _ _ h => h) (Rs.le (Rs.two rfl (ResV.tmp rfl) (ResV.tmp rfl)) ?_) (by decide) ⟨⟨_, rfl, LeAll.refl _⟩, ⟨⟨_, rfl, LeR.refl _⟩, ⟨⟨_, rfl, LeR.refl _⟩, ⟨⟨_, rfl, LeR.refl _⟩, trivial⟩⟩⟩⟩
    exact Le.tup ⟨by rw [(Acc.tag_no hx).1]; exact Le.nil_sl, Le.is (by rw [(Acc.tag_no hx).2]), trivial⟩
  · have hg := Acc.get_yes hx; have hkl := (hf.oks x (Acc.find_some hx).1).2.1
    refine SW.sub (σ' := St.ob [(2, bD q), (8, isD (.pointer (some ⟨g8, 0, none⟩))), (9, iD 0)] [.c gb [isD (.map (s.M.map Prod.fst)), isD (.slice s.n.A (Acc.nm l).length s.n.c), isD (.map (s.M.map Prod.snd))], .r s.n.F (vecT 9 1 encT s.n.A s.n.c (Acc.nm l)), .r s.F1 (mapQ (s.M.map Prod.fst) encS (Acc.nm l) (acD l)), .r s.F2 (mapQ (s.M.map Prod.snd) encSt (Acc.seats l) (seD l)), .c g8 [strD x.name, iD x.role, bD x.key, iD x.dep, iD x.num]]) (⟨⟨_, rfl, ⟨⟨_, rfl, Le.refl _⟩, ⟨⟨_, rfl, Le.refl _⟩, ⟨⟨_, rfl, Le.is (by rw [hg.2])⟩, trivial⟩⟩⟩⟩, [0, 1, 2, 3, 4], by decide, ⟨⟨_, rfl, LeAll.refl _⟩, ⟨⟨_, rfl, LeR.refl _⟩, ⟨⟨_, rfl, LeR.refl _⟩, ⟨⟨_, rfl, LeR.refl _⟩, ⟨⟨_, rfl, (by rw [hg.1]; exact LeAll.refl _)⟩, trivial⟩⟩⟩⟩⟩⟩) ?_
    refine SW.region ?_
    refine SWl.rd rfl (Rd.move rfl) ?_
    refine SWl.rd rfl (Rd.nei rfl rfl) ?_
    refine SWl.nil ?_
    refine SN.then ?_
    refine SW.condF rfl (by decide) ?_
    refine SW.skip ?_
    refine SN.then ?_
    refine SW.seq ?_
    refine SW.seq ?_
    refine SW.region ?_
    refine SWl.rd rfl (Rd.move rfl) ?_
    refine SWl.rd rfl (Rd.len (e := 5) rfl (by kernel_rfl)) ?_
    refine SWl.rd rfl (Rd.gtr rfl rfl) ?_
    refine SWl.nil ?_
    refine SN.then ?_
    refine SW.cond rfl (fun hb22 => ?_) (fun hb22 => ?_)
    · have h22 : 65536 < q.length := by have h := of_decide_eq_true hb22; simp at h; omega
      refine SW.seq ?_
      refine SW.region ?_
      refine SWl.rd rfl (Rd.assign rfl) ?_
      refine SWl.rd rfl (Rd.assign rfl) ?_
      refine SWl.nil ?_
      refine SN.then ?_
      refine SW.retR (fn := Tryd.f14) (()) [0, 1, 2, 3] (fun _ _ h => h) (Rs.le (Rs.two rfl (ResV.tmp rfl) (ResV.tmp rfl)) ?_) (by decide) ⟨⟨_, rfl, LeAll.refl _⟩, ⟨⟨_, rfl, LeR.refl _⟩, ⟨⟨_, rfl, LeR.refl _⟩, ⟨⟨_, rfl, LeR.refl _⟩, trivial⟩⟩⟩⟩
      exact Le.tup ⟨by rw [(Acc.tag_long hx h22).1]; exact Le.nil_sl, Le.is (by rw [(Acc.tag_long hx h22).2]), trivial⟩
    · have h22 : ¬ 65536 < q.length := by have h := of_decide_eq_false hb22; simp at h; omega
      refine SW.skip ?_
      refine SN.then ?_
      refine SW.seq ?_
      refine SW.region ?_
      refine SWl.rd rfl (Rd.fieldAddr (n := 2) rfl (by kernel_rfl)) ?_
      refine SWl.rd rfl (Rd.loadB 4 rfl rfl rfl (by kernel_rfl) ap_nil) ?_
      refine SWl.rd rfl (Rd.move rfl) ?_
      refine SWl.ef (S := []) (Ef.call (con_keyed x.key q (by omega) (by omega) (by omega)) rfl ⟨Le.refl _, Le.refl _, trivial⟩ rfl) ?_
      rintro _ rfl
      refine SWl.rd rfl (Rd.move rfl) ?_
      refine SWl.rd rfl (Rd.extract rfl rfl) ?_
      refine SWl.rd rfl (Rd.extract rfl rfl) ?_
      refine SWl.ef (S := []) (Ef.alloc (zs := cellsOf (List.replicate 32 0)) (by kernel_rfl) rfl) ?_
      rintro _ ⟨g10, rfl⟩
      refine SWl.ef (S := [_]) (Ef.storeG 5 32 rfl rfl rfl (by kernel_rfl) (by first | assumption | (simp; done) | (simp; omega)) (by first | assumption | (simp; done) | (simp; omega)) (List.mem_singleton.2 rfl)) ?_
      rintro _ rfl
      refine SWl.rd rfl (Rd.assign rfl) ?_
      refine SWl.nil ?_
      refine SN.then ?_
      refine SW.seq ?_
      refine SW.seq ?_
      refine SW.region ?_
      refine SWl.rd rfl (Rd.move rfl) ?_
      refine SWl.rd rfl (Rd.nei rfl rfl) ?_
      refine SWl.nil ?_
      refine SN.then ?_
      refine SW.condF rfl (by decide) ?_
      refine SW.skip ?_
      refine SN.then ?_
      refine SW.seq ?_
      refine SW.region ?_
      refine SWl.rd rfl (Rd.slArr (e := 5) (n := 32) rfl (by kernel_rfl) (by kernel_rfl)) ?_
      refine SWl.freeze 33 5 (cellsOf (Bl.hash x.key q)) rfl rfl (by first | rfl | (simp; done)) (by decide) rfl ?_
      refine SWl.rd rfl (Rd.assign rfl) ?_
      refine SWl.rd rfl (Rd.assign rfl) ?_
      refine SWl.nil ?_
      refine SN.then ?_
      refine SW.retR (fn := Tryd.f14) (()) [0, 1, 2, 3] (fun _ _ h => h) (Rs.le (Rs.two rfl (ResV.tmp rfl) (ResV.tmp rfl)) ?_) (by decide) ⟨⟨_, rfl, LeAll.refl _⟩, ⟨⟨_, rfl, LeR.refl _⟩, ⟨⟨_, rfl, LeR.refl _⟩, ⟨⟨_, rfl, LeR.refl _⟩, trivial⟩⟩⟩⟩
      exact Le.tup ⟨by rw [(Acc.tag_yes hx h22).1]; exact Le.refl _, Le.is (by rw [(Acc.tag_yes hx h22).2]), trivial⟩
set_option maxHeartbeats 4000000 in
set_option maxRecDepth 100000 in
theorem con_verify (gb : Nat) (s : Bst) (l : List Acc.T) (nm q tg : List UInt8) (hf : Acc.Fine l) (hq : q.length ≤ 1000000) : ConR Tryd.prog 15 [.c gb [isD (.map (s.M.map Prod.fst)), isD (.slice s.n.A (Acc.nm l).length s.n.c), isD (.map (s.M.map Prod.snd))], .r s.n.F (vecT 9 1 encT s.n.A s.n.c (Acc.nm l)), .r s.F1 (mapQ (s.M.map Prod.fst) encS (Acc.nm l) (acD l)), .r s.F2 (mapQ (s.M.map Prod.snd) encSt (Acc.seats l) (seD l))] [isD (.pointer (some ⟨gb, 0, none⟩)), strD nm, bD q, bD tg] (fun _ : Unit => [.c gb [isD (.map (s.M.map Prod.fst)), isD (.slice s.n.A (Acc.nm l).length s.n.c), isD (.map (s.M.map Prod.snd))], .r s.n.F (vecT 9 1 encT s.n.A s.n.c (Acc.nm l)), .r s.F1 (mapQ (s.M.map Prod.fst) encS (Acc.nm l) (acD l)), .r s.F2 (mapQ (s.M.map Prod.snd) encSt (Acc.seats l) (seD l))]) (fun _ : Unit => iD (Acc.verE l nm q tg)) := by
  refine con_ofR Tryd.func15 (by kernel_rfl) rfl (by kernel_rfl) fun base w0 => ?_
  refine SW.seq ?_
  refine SW.region ?_
  refine SWl.rd rfl (Rd.assign rfl) ?_
  refine SWl.nil ?_
  refine SN.then ?_
  refine SW.seq ?_
  refine SW.region ?_
  refine SWl.rd rfl (Rd.move rfl) ?_
  refine SWl.rd rfl (Rd.move rfl) ?_
  refine SWl.rd rfl (Rd.move rfl) ?_
  refine SWl.ef (Ef.callR [0, 1, 2, 3] (con_tag gb s l nm q hf hq) rfl ⟨Le.refl _, Le.refl _, Le.refl _, trivial⟩ (by decide) ⟨⟨_, rfl, LeAll.refl _⟩, ⟨⟨_, rfl, LeR.refl _⟩, ⟨⟨_, rfl, LeR.refl _⟩, ⟨⟨_, rfl, LeR.refl _⟩, trivial⟩⟩⟩⟩ (fun _ h => h) rfl) ?_
  rintro _ ⟨⟨⟩, rfl⟩
  refine SWl.rd rfl (Rd.move rfl) ?_
  refine SWl.rd rfl (Rd.extract rfl rfl) ?_
  refine SWl.rd rfl (Rd.extract rfl rfl) ?_
  refine SWl.rd rfl (Rd.assign rfl) ?_
  refine SWl.rd rfl (Rd.assign rfl) ?_
  refine SWl.nil ?_
  refine SN.then ?_
  refine SW.seq ?_
  refine SW.seq ?_
  refine SW.region ?_
  refine SWl.rd rfl (Rd.move rfl) ?_
  refine SWl.rd rfl (Rd.nei rfl rfl) ?_
  refine SWl.nil ?_
  refine SN.then ?_
  refine SW.cond rfl (fun hb19 => ?_) (fun hb19 => ?_)
  · have h19 : Acc.tagE l nm q ≠ 0 := by simpa using hb19
    refine SW.seq ?_
    refine SW.region ?_
    refine SWl.rd rfl (Rd.move rfl) ?_
    refine SWl.rd rfl (Rd.assign rfl) ?_
    refine SWl.nil ?_
    refine SN.then ?_
    refine SW.retR (fn := Tryd.f15) (()) [0, 1, 2, 3] (fun _ _ h => h) (Rs.le (Rs.one rfl (ResV.tmp rfl)) ?_) (by decide) ⟨⟨_, rfl, LeAll.refl _⟩, ⟨⟨_, rfl, LeR.refl _⟩, ⟨⟨_, rfl, LeR.refl _⟩, ⟨⟨_, rfl, LeR.refl _⟩, trivial⟩⟩⟩⟩
    exact Le.is (by unfold Acc.verE Acc.ver; rw [if_pos h19])
  · have h19 : ¬ Acc.tagE l nm q ≠ 0 := by simpa using hb19
    refine SW.skip ?_
    refine SN.then ?_
    refine SW.seq ?_
    refine SW.seq ?_
    refine SW.region ?_
    refine SWl.rd rfl (Rd.move rfl) ?_
    refine SWl.rd rfl (Rd.move rfl) ?_
    refine SWl.ef (S := []) (Ef.callN [] (con_bytesEq (Acc.tagT l nm q) tg) rfl ⟨(sees_le (Le.refl _)), (sees_le (Le.refl _)), trivial⟩ rfl) ?_
    rintro _ rfl
    refine SWl.rd rfl (Rd.not rfl) ?_
    refine SWl.nil ?_
    refine SN.then ?_
    refine SW.cond rfl (fun hb24 => ?_) (fun hb24 => ?_)
    · have h24 : ¬ Acc.tagT l nm q = tg := by simpa using hb24
      refine SW.seq ?_
      refine SW.region ?_
      refine SWl.rd rfl (Rd.assign rfl) ?_
      refine SWl.nil ?_
      refine SN.then ?_
      refine SW.retR (fn := Tryd.f15) (()) [0, 1, 2, 3] (fun _ _ h => h) (Rs.le (Rs.one rfl (ResV.tmp rfl)) ?_) (by decide) ⟨⟨_, rfl, LeAll.refl _⟩, ⟨⟨_, rfl, LeR.refl _⟩, ⟨⟨_, rfl, LeR.refl _⟩, ⟨⟨_, rfl, LeR.refl _⟩, trivial⟩⟩⟩⟩
      exact Le.is (by unfold Acc.verE Acc.ver; rw [if_neg h19, if_neg h24])
    · have h24 : Acc.tagT l nm q = tg := by simpa using hb24
      refine SW.skip ?_
      refine SN.then ?_
      refine SW.seq ?_
      refine SW.region ?_
      refine SWl.rd rfl (Rd.assign rfl) ?_
      refine SWl.nil ?_
      refine SN.then ?_
      refine SW.retR (fn := Tryd.f15) (()) [0, 1, 2, 3] (fun _ _ h => h) (Rs.le (Rs.one rfl (ResV.tmp rfl)) ?_) (by decide) ⟨⟨_, rfl, LeAll.refl _⟩, ⟨⟨_, rfl, LeR.refl _⟩, ⟨⟨_, rfl, LeR.refl _⟩, ⟨⟨_, rfl, LeR.refl _⟩, trivial⟩⟩⟩⟩
      exact Le.is (by unfold Acc.verE Acc.ver; rw [if_neg h19, if_pos h24])
end Sx
end Go.Proofs.YtchbgfgboogniaaDoor
namespace Go.Proofs.YtchbgfgboogniaaDoor
open Go.RowKit
open Sx
namespace Env
structure T where
  acc : List UInt8
  rnd : Int
  ser : Int
  box : List UInt8
  tag : List UInt8
def zero : T := ⟨[], 0, 0, [], []⟩
def okV (nm : List UInt8) (rnd ser : Int) (bl tl : Nat) : Prop := Acc.isName nm ∧ (0 ≤ rnd ∧ rnd ≤ 1048576) ∧ (0 ≤ ser ∧ ser ≤ 1073741824) ∧ (32 ≤ bl ∧ bl ≤ 4128) ∧ tl = 32
instance (nm : List UInt8) (rnd ser : Int) (bl tl : Nat) : Decidable (okV nm rnd ser bl tl) := by unfold okV; infer_instance
def ok (e : T) : Prop := okV e.acc e.rnd e.ser e.box.length e.tag.length
instance (e : T) : Decidable (ok e) := by unfold ok; infer_instance
def bidL : List UInt8 := [98, 105, 100, 45]
/-- The signed bytes. -/
def sgn (nm : List UInt8) (rnd ser : Int) (box : List UInt8) : List UInt8 := strE nm ++ grp rnd.toNat ++ grp ser.toNat ++ strE box
def sgnT (e : T) : List UInt8 := sgn e.acc e.rnd e.ser e.box
def enc (e : T) : List UInt8 := sgnT e ++ strE e.tag
theorem sgn_len {nm : List UInt8} {rnd ser : Int} {box : List UInt8} (h1 : nm.length ≤ 10000) (h2 : box.length ≤ 10000) (h3 : rnd ≤ 1048576) (h4 : ser ≤ 1073741824) : (sgn nm rnd ser box).length ≤ nm.length + box.length + 40 := by
  have a1 := strE_len (b := nm) (by omega)
  have a2 := strE_len (b := box) (by omega)
  have a3 := grp_ten (n := rnd.toNat) (by omega)
  have a4 := grp_ten (n := ser.toNat) (by omega)
  unfold sgn
  simp only [List.length_append]
  omega
theorem ok_len {e : T} (h : ok e) : e.acc.length ≤ 32 ∧ 0 ≤ e.rnd ∧ e.rnd ≤ 1048576 ∧ 0 ≤ e.ser ∧ e.ser ≤ 1073741824 ∧ 32 ≤ e.box.length ∧ e.box.length ≤ 4128 ∧ e.tag.length = 32 := by
  obtain ⟨h1, h2, h3, h4, h5⟩ := h
  exact ⟨h1.2.2, h2.1, h2.2, h3.1, h3.2, h4.1, h4.2, h5⟩
theorem sgnT_len {e : T} (h : ok e) : (sgnT e).length ≤ 4200 := by
  obtain ⟨h1, h2, h3, h4, h5, h6, h7, h8⟩ := ok_len h
  have := sgn_len (nm := e.acc) (box := e.box) (by omega) (by omega) h3 h5
  unfold sgnT
  omega
/-! Sealing. -/
def keyB (key nm : List UInt8) : List UInt8 := Bl.hash key (bidL ++ nm)
def boxB (key nm nonce bid : List UInt8) : List UInt8 := Sl.sealB (keyB key nm) nonce bid
def preE (rnd ser : Int) (kl nl bl : Nat) : Int := if (0 ≤ rnd ∧ rnd ≤ 1048576) ∧ (0 ≤ ser ∧ ser ≤ 1073741824) ∧ kl = 32 ∧ nl = 16 then if 4096 < bl then 5 else 0 else 2
def mk (l : List Acc.T) (nm : List UInt8) (rnd ser : Int) (key nonce bid : List UInt8) : T := ⟨nm, rnd, ser, boxB key nm nonce bid, Acc.tagT l nm (sgn nm rnd ser (boxB key nm nonce bid))⟩
def slE (l : List Acc.T) (nm : List UInt8) (rnd ser : Int) (kl nl bl : Nat) : Int := if preE rnd ser kl nl bl ≠ 0 then preE rnd ser kl nl bl else if Acc.find l nm = none then 9 else 0
def slT (l : List Acc.T) (nm : List UInt8) (rnd ser : Int) (key nonce bid : List UInt8) : T := if slE l nm rnd ser key.length nonce.length bid.length = 0 then mk l nm rnd ser key nonce bid else zero
/-! Authentic ones; opening. -/
def autE (l : List Acc.T) (e : T) : Int := if ok e then Acc.verE l e.acc (sgnT e) e.tag else 2
def opE (l : List Acc.T) (e : T) (key : List UInt8) : Int := if key.length = 32 then if autE l e ≠ 0 then autE l e else if (Sl.openB (keyB key e.acc) e.box).2 ≠ 0 then 10 else 0 else 2
def opB (l : List Acc.T) (e : T) (key : List UInt8) : List UInt8 := if opE l e key = 0 then (Sl.openB (keyB key e.acc) e.box).1 else []
def sz (e : T) : Int := if ok e then (e.box.length : Int) - 32 else -1
/-! Decoding. -/
def rd (r : RT) : T × RT :=
  (⟨(stP 32 r).1, (stU (stP 32 r).2).1, (stU (stU (stP 32 r).2).2).1, (stP 4128 (stU (stU (stP 32 r).2).2).2).1, (stP 32 (stP 4128 (stU (stU (stP 32 r).2).2).2).2).1⟩, (stP 32 (stP 4128 (stU (stU (stP 32 r).2).2).2).2).2)
def decE (p : List UInt8) : Int := if endE (rd ⟨p, 0⟩).2 ≠ 0 then endE (rd ⟨p, 0⟩).2 else if ok (rd ⟨p, 0⟩).1 then 0 else 6
def dec (p : List UInt8) : T := if decE p = 0 then (rd ⟨p, 0⟩).1 else zero
def encQ (e : T) : List UInt8 := if ok e then enc e else []
def encE (e : T) : Int := if ok e then 0 else 2
theorem rd_enc {e : T} (h : ok e) : rd ⟨enc e, 0⟩ = (e, ⟨[], 0⟩) := by
  obtain ⟨h1, h2, h3, h4, h5, h6, h7, h8⟩ := ok_len h
  have e1 : enc e = strE e.acc ++ (grp e.rnd.toNat ++ (grp e.ser.toNat ++ (strE e.box ++ (strE e.tag ++ [])))) := by unfold enc sgnT sgn; simp only [List.append_assoc, List.append_nil]
  unfold rd
  rw [e1, stP_strE (by omega) (by omega)]
  simp only
  rw [stU_grp (by omega)]
  simp only
  rw [stU_grp (by omega)]
  simp only
  rw [stP_strE (by omega) (by omega)]
  simp only
  rw [stP_strE (by omega) (by omega)]
  simp only
  rw [show ((e.rnd.toNat : Nat) : Int) = e.rnd by omega, show ((e.ser.toNat : Nat) : Int) = e.ser by omega]
theorem dec_enc {e : T} (h : ok e) : decE (enc e) = 0 ∧ dec (enc e) = e := by
  have hd : decE (enc e) = 0 := by
    unfold decE
    rw [rd_enc h]
    simp [endE, h]
  refine ⟨hd, ?_⟩
  unfold dec
  rw [if_pos hd, rd_enc h]
theorem end_ok {r : RT} (h : endE r = 0) : r.e = 0 ∧ r.p = [] := by
  unfold endE at h
  split at h
  · cases h
  · rename_i hn
    exact ⟨h, Classical.byContradiction fun hp => hn ⟨h, hp⟩⟩
theorem dec_inv {p : List UInt8} (h : decE p = 0) : ok (dec p) ∧ enc (dec p) = p := by
  have h0 := h
  unfold decE at h
  split at h
  · rename_i h1; exact absurd h h1
  · rename_i h1
    split at h
    · rename_i h2
      have h1 : endE (rd ⟨p, 0⟩).2 = 0 := by simpa using h1
      have hd : dec p = (rd ⟨p, 0⟩).1 := by unfold dec; rw [if_pos h0]
      rw [hd]
      refine ⟨h2, ?_⟩
      obtain ⟨e0, ep⟩ := end_ok h1
      clear hd h2 h1 h h0
      unfold rd at e0 ep ⊢
      simp only at e0 ep ⊢
      obtain ⟨e5, p5, -⟩ := stP_inv e0
      obtain ⟨e4, p4, -⟩ := stP_inv e5
      obtain ⟨e3, n3, v3, p3, -⟩ := stU_inv e4
      obtain ⟨e2, n2, v2, p2, -⟩ := stU_inv e3
      obtain ⟨e1, p1, -⟩ := stP_inv e2
      unfold enc sgnT sgn
      simp only
      rw [v3, v2, Int.toNat_natCast, Int.toNat_natCast]
      rw [ep, List.append_nil] at p5
      simp only [List.append_assoc]
      rw [← p5, ← p4, ← p3, ← p2]
      exact p1.symm
    · cases h
/-! What is sealed is opened. -/
theorem box_len (key nm : List UInt8) {nonce : List UInt8} (bid : List UInt8) (hn : nonce.length = 16) : (boxB key nm nonce bid).length = bid.length + 32 := Sl.sealB_length _ _ _ hn
theorem pre_ok {rnd ser : Int} {kl nl bl : Nat} (h : preE rnd ser kl nl bl = 0) : (0 ≤ rnd ∧ rnd ≤ 1048576) ∧ (0 ≤ ser ∧ ser ≤ 1073741824) ∧ kl = 32 ∧ nl = 16 ∧ bl ≤ 4096 := by
  unfold preE at h
  split at h
  · rename_i h1
    split at h
    · cases h
    · exact ⟨h1.1, h1.2.1, h1.2.2.1, h1.2.2.2, by omega⟩
  · cases h
theorem pre_of {rnd ser : Int} {kl nl bl : Nat} (h1 : 0 ≤ rnd ∧ rnd ≤ 1048576) (h2 : 0 ≤ ser ∧ ser ≤ 1073741824) (h3 : kl = 32) (h4 : nl = 16) (h5 : bl ≤ 4096) : preE rnd ser kl nl bl = 0 := by
  unfold preE
  rw [if_pos ⟨h1, h2, h3, h4⟩, if_neg (by omega)]
structure Sld (l : List Acc.T) (nm : List UInt8) (rnd ser : Int) (key nonce bid : List UInt8) (a : Acc.T) : Prop where
  err : slE l nm rnd ser key.length nonce.length bid.length = 0
  eq : slT l nm rnd ser key nonce bid = mk l nm rnd ser key nonce bid
  tag : (mk l nm rnd ser key nonce bid).tag = Bl.hash a.key (sgnT (mk l nm rnd ser key nonce bid))
  ok : ok (mk l nm rnd ser key nonce bid)
  aut : autE l (mk l nm rnd ser key nonce bid) = 0
theorem sld {l : List Acc.T} {nm : List UInt8} {rnd ser : Int} {key nonce bid : List UInt8} {a : Acc.T} (hf : Acc.Fine l) (ha : Acc.find l nm = some a) (h1 : 0 ≤ rnd ∧ rnd ≤ 1048576) (h2 : 0 ≤ ser ∧ ser ≤ 1073741824) (h3 : key.length = 32) (h4 : nonce.length = 16) (h5 : bid.length ≤ 4096) : Sld l nm rnd ser key nonce bid a := by
  obtain ⟨hm, hn⟩ := Acc.find_some ha
  have hok := hf.oks a hm
  have hnm : Acc.isName nm := by rw [← hn]; exact hok.1
  have hbl := box_len key nm bid h4
  have herr : slE l nm rnd ser key.length nonce.length bid.length = 0 := by unfold slE; rw [pre_of h1 h2 h3 h4 h5, if_neg (by simp), ha, if_neg (by simp)]
  have hsl : (sgn nm rnd ser (boxB key nm nonce bid)).length ≤ 65536 := by
    have := sgn_len (nm := nm) (box := boxB key nm nonce bid) (by have := hnm.2.2; omega) (by omega) h1.2 h2.2
    have := hnm.2.2
    omega
  obtain ⟨t1, t2⟩ := Acc.tag_yes ha (q := sgn nm rnd ser (boxB key nm nonce bid)) (by omega)
  have hok2 : ok (mk l nm rnd ser key nonce bid) := ⟨hnm, h1, h2, by show 32 ≤ (boxB key nm nonce bid).length ∧ (boxB key nm nonce bid).length ≤ 4128; omega, by show (Acc.tagT l nm _).length = 32; rw [t1]; simp⟩
  refine ⟨herr, by unfold slT; rw [if_pos herr], t1, hok2, ?_⟩
  unfold autE
  rw [if_pos hok2]
  unfold Acc.verE Acc.ver
  rw [show Acc.tagE l (mk l nm rnd ser key nonce bid).acc (sgnT (mk l nm rnd ser key nonce bid)) = 0 from t2]
  simp only [ne_eq, not_true_eq_false, if_false]
  rw [if_pos (show Acc.tagT l (mk l nm rnd ser key nonce bid).acc (sgnT (mk l nm rnd ser key nonce bid)) = (mk l nm rnd ser key nonce bid).tag from rfl)]
theorem op_sld {l : List Acc.T} {nm : List UInt8} {rnd ser : Int} {key nonce bid : List UInt8} {a : Acc.T} (h : Sld l nm rnd ser key nonce bid a) (h3 : key.length = 32) (h4 : nonce.length = 16) (h5 : bid.length ≤ 4096) : opE l (mk l nm rnd ser key nonce bid) key = 0 ∧ opB l (mk l nm rnd ser key nonce bid) key = bid := by
  have ho : Sl.openB (keyB key (mk l nm rnd ser key nonce bid).acc) (mk l nm rnd ser key nonce bid).box = (bid, 0) := Sl.open_seal _ _ _ h4 (by omega)
  have he : opE l (mk l nm rnd ser key nonce bid) key = 0 := by
    unfold opE
    rw [if_pos h3, h.aut, if_neg (by simp), ho]
    simp
  refine ⟨he, ?_⟩
  unfold opB
  rw [if_pos he, ho]
end Env
namespace Sx
def encEn (e : Env.T) : List D := [strD e.acc, iD e.rnd, iD e.ser, bD e.box, bD e.tag]
instance : Row encEn 5 := ⟨fun _ => rfl, fun _ => by unfold encEn; infer_instance, by decide⟩
end Sx
end Go.Proofs.YtchbgfgboogniaaDoor
