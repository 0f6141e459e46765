/-
  ACCOUNTS: AccountTags.
-/
import Derived.Test.YtgcnpnbgjejkaaaDoorA18
import Derived.Test.YtgcnpnbgjejkaaaDoorGR
namespace Go.Proofs.YtgcnpnbgjejkaaaDoor
open Go.RowKit
namespace Sx
theorem rep_step {h : List UInt8} {i : Nat} (hi : i < h.length) : (h.take i ++ List.replicate (h.length - i) 0).set i h[i] = h.take (i + 1) ++ List.replicate (h.length - (i + 1)) 0 := by
  apply List.ext_getElem?
  intro q
  by_cases hq : q < h.length
  · rw [List.getElem?_set]
    by_cases e : i = q
    · subst e
      rw [if_pos rfl, if_pos (by simp; omega), List.getElem?_append_left (by simp; omega), List.getElem?_take, if_pos (by omega), List.getElem?_eq_getElem hi]
    · rw [if_neg e]
      by_cases h2 : q < i
      · rw [List.getElem?_append_left (by simp; omega), List.getElem?_append_left (by simp; omega), List.getElem?_take, List.getElem?_take, if_pos h2, if_pos (by omega)]
      · rw [List.getElem?_append_right (by simp; omega), List.getElem?_append_right (by simp; omega)]
        rw [List.getElem?_replicate, List.getElem?_replicate, if_pos (by simp; omega), if_pos (by simp; omega)]
  · rw [List.getElem?_eq_none (by simp; omega), List.getElem?_eq_none (by simp; omega)]
/-- The tag of bytes for an account, or the error. -/
def Acc.tagE (l : List Acc.T) (nm q : List UInt8) : Int := match Acc.find l nm with | none => 9 | some _ => if 65536 < q.length then 5 else 0
def Acc.tagT (l : List Acc.T) (nm q : List UInt8) : List UInt8 := match Acc.find l nm with | none => [] | some x => if 65536 < q.length then [] else Bl.hash x.key q
theorem Acc.tag_no {l : List Acc.T} {nm q : List UInt8} (h : Acc.find l nm = none) : Acc.tagT l nm q = [] ∧ Acc.tagE l nm q = 9 := by unfold Acc.tagT Acc.tagE; rw [h]; exact ⟨rfl, rfl⟩
theorem Acc.tag_long {l : List Acc.T} {nm q : List UInt8} {x : Acc.T} (h : Acc.find l nm = some x) (hq : 65536 < q.length) : Acc.tagT l nm q = [] ∧ Acc.tagE l nm q = 5 := by unfold Acc.tagT Acc.tagE; rw [h]; exact ⟨if_pos hq, if_pos hq⟩
theorem Acc.tag_yes {l : List Acc.T} {nm q : List UInt8} {x : Acc.T} (h : Acc.find l nm = some x) (hq : ¬ 65536 < q.length) : Acc.tagT l nm q = Bl.hash x.key q ∧ Acc.tagE l nm q = 0 := by unfold Acc.tagT Acc.tagE; rw [h]; exact ⟨if_neg hq, if_neg hq⟩
def Acc.ver (E : Int) (T tg : List UInt8) : Int := if E ≠ 0 then E else if T = tg then 0 else 10
def Acc.verE (l : List Acc.T) (nm q tg : List UInt8) : Int := Acc.ver (Acc.tagE l nm q) (Acc.tagT l nm q) tg
theorem Acc.ver_cases (E : Int) (T tg : List UInt8) : (E = 0 ∧ T = tg ∧ Acc.ver E T tg = 0) ∨ (E = 0 ∧ T ≠ tg ∧ Acc.ver E T tg = 10) ∨ (E ≠ 0 ∧ Acc.ver E T tg = E) := by
  unfold Acc.ver
  by_cases h : E = 0
  · by_cases h2 : T = tg
    · exact .inl ⟨h, h2, by rw [if_neg (by simp [h]), if_pos h2]⟩
    · exact .inr (.inl ⟨h, h2, by rw [if_neg (by simp [h]), if_neg h2]⟩)
  · exact .inr (.inr ⟨h, by rw [if_pos h]⟩)
def Acc.unN (l : List Acc.T) (nm : List UInt8) (p : Int) : Int := if p < 1 then 0 else (Acc.getA l nm).dep / p
def Acc.unE (l : List Acc.T) (nm : List UInt8) (p : Int) : Int := if p < 1 then 2 else Acc.getE l nm
theorem con_unitsA (l : List Acc.T) (nm : List UInt8) (p : Int) (hf : Acc.Fine l) : ConN Tryd.prog 12 [bookD l, strD nm, iD p] (tupD [iD (Acc.unN l nm p), iD (Acc.unE l nm p)]) := by
  unfold Acc.unN Acc.unE
  by_cases hp : p < 1
  · rw [if_pos hp, if_pos hp]; exact con_units_no l nm p hp
  · rw [if_neg hp, if_neg hp]; exact con_units l nm p hp hf
set_option maxHeartbeats 4000000 in
set_option maxRecDepth 100000 in
theorem con_fixed (h : List UInt8) (hh : h.length = 32) : ConN Tryd.prog 52 [bD h] (gD h) := by
  refine con_ofN Tryd.func52 (by kernel_rfl) rfl (by kernel_rfl) fun base w0 => ?_
  refine SW.seq ?_
  refine SW.region ?_
  refine SWl.ef (S := []) (Ef.alloc (zs := cellsOf (List.replicate 32 0)) (by kernel_rfl) rfl) ?_
  rintro _ ⟨g2, rfl⟩
  refine SWl.nil ?_
  refine SN.then ?_
  refine SW.seq ?_
  refine SW.region ?_
  refine SWl.ef (S := []) (Ef.alloc (zs := cellsOf (List.replicate 32 0)) (by kernel_rfl) rfl) ?_
  rintro _ ⟨g3, rfl⟩
  refine SWl.nil ?_
  refine SN.then ?_
  refine SW.seq ?_
  refine SW.seq ?_
  refine SW.region ?_
  refine SWl.rd rfl (Rd.assign rfl) ?_
  refine SWl.nil ?_
  refine SN.then ?_
  refine SW.block ?_
  refine SW.loop (ι := {i : Nat // i ≤ 32}) (fun i => St.ob [(0, bD h), (2, isD (.pointer (some ⟨g2, 0, none⟩))), (3, isD (.pointer (some ⟨g3, 0, none⟩))), (4, iD (i.1 : Int))] [.c g2 ((cellsOf (List.replicate 32 0)).map isD), .c g3 ((cellsOf (h.take i.1 ++ List.replicate (h.length - i.1) 0)).map isD)]) (fun i => 32 - i.1) (⟨0, by omega⟩) ?_ ?_
  · exact ⟨⟨_, rfl, ⟨⟨_, rfl, Le.refl _⟩, ⟨⟨_, rfl, Le.refl _⟩, ⟨⟨_, rfl, Le.refl _⟩, ⟨⟨_, rfl, Le.refl _⟩, trivial⟩⟩⟩⟩⟩, [0, 1], by decide, ⟨⟨_, rfl, LeAll.refl _⟩, ⟨⟨_, rfl, (by rw [hh]; exact LeAll.refl _)⟩, trivial⟩⟩⟩
  · rintro ⟨i, hi⟩ K0 hK0
    dsimp only
    refine SW.seq ?_
    refine SW.seq ?_
    refine SW.region ?_
    refine SWl.rd rfl (Rd.move rfl) ?_
    refine SWl.rd rfl (Rd.lss rfl rfl) ?_
    refine SWl.nil ?_
    refine SN.then ?_
    refine SW.cond rfl (fun hb6 => ?_) (fun hb6 => ?_)
    · have hb6 := of_decide_eq_true hb6
      refine SW.skip ?_
      refine SN.then ?_
      refine SW.seq ?_
      refine SW.block ?_
      refine SW.region ?_
      refine SWl.rd rfl (Rd.move rfl) ?_
      refine SWl.rd rfl (Rd.move rfl) ?_
      refine SWl.rd rfl (Rd.move rfl) ?_
      refine SWl.rd rfl (Rd.idx (e := 5) rfl rfl (by kernel_rfl) (by kernel_rfl) (by omega) (cellsOf_get (by omega))) ?_
      refine SWl.rd rfl (Rd.loadP rfl (by kernel_rfl) (by simp)) ?_
      refine SWl.rd rfl (Rd.idxA1 (e := 5) (n := 32) rfl rfl (by kernel_rfl) (by kernel_rfl) (by omega) (by omega)) ?_
      refine SWl.ef (S := [_]) (Ef.storeB8 (v := h[i]'(by omega)) 1 rfl rfl rfl (by kernel_rfl) (by simp; omega) (List.mem_singleton.2 rfl)) ?_
      rintro _ rfl
      refine SWl.nil ?_
      refine SN.block ?_
      refine SN.then ?_
      refine SW.region ?_
      refine SWl.rd rfl (Rd.move rfl) ?_
      refine SWl.rd rfl (Rd.add rfl rfl ⟨by omega, by omega⟩) ?_
      refine SWl.rd rfl (Rd.assign rfl) ?_
      refine SWl.nil ?_
      exact fun a w hh => hK0 (⟨i + 1, by omega⟩) (by simp only; omega) a w (hh.sub (⟨⟨_, rfl, ⟨⟨_, rfl, Le.refl _⟩, ⟨⟨_, rfl, Le.refl _⟩, ⟨⟨_, rfl, Le.refl _⟩, ⟨⟨_, rfl, Le.refl _⟩, trivial⟩⟩⟩⟩⟩, [0, 1], by decide, ⟨⟨_, rfl, LeAll.refl _⟩, ⟨⟨_, rfl, (by rw [← rep_step (by omega)]; exact LeAll.refl _)⟩, trivial⟩⟩⟩))
    · have hb6 := of_decide_eq_false hb6
      refine SW.exit' ?_
      repeat (first | refine SE.then ?_ | refine SE.skip (by decide) ?_)
      refine SE.here ?_
      refine SN.then ?_
      refine SW.seq ?_
      refine SW.region ?_
      refine SWl.rd rfl (Rd.loadG 1 32 rfl rfl (by kernel_rfl) (by first | assumption | (simp; done) | (simp; omega)) ap_nil) ?_
      refine SWl.ef (S := [_]) (Ef.storeG 0 32 rfl rfl rfl (by kernel_rfl) (by first | assumption | (simp; done) | (simp; omega)) (by first | assumption | (simp; done) | (simp; omega)) (List.mem_singleton.2 rfl)) ?_
      rintro _ rfl
      refine SWl.nil ?_
      refine SN.then ?_
      refine SW.ret (fn := Tryd.f52) (fun _ _ h => h) (Rs.le (Rs.one rfl (ResV.cellG (n := 32) 0 rfl rfl (by kernel_rfl) (by first | assumption | (simp; done) | (simp; omega)))) ?_)
      have e : i = 32 := by omega
      subst e
      exact Le.trans (le_agg_g _) (Le.trans (Le.is (by rw [hh]; simp [← hh])) le_nw_is)
set_option maxHeartbeats 4000000 in
set_option maxRecDepth 100000 in
theorem con_keyedR (key b : List UInt8) (hk : key.length ≤ 32) (hb : b.length ≤ 1000000) : ConN Tryd.prog 28 [bD key, bD b] (gD (Bl.hash key b)) := by
  refine con_ofN Tryd.func28 (by kernel_rfl) rfl (by kernel_rfl) fun base w0 => ?_
  refine SW.seq ?_
  refine SW.region ?_
  refine SWl.ef (S := []) (Ef.alloc (zs := cellsOf (List.replicate 32 0)) (by kernel_rfl) rfl) ?_
  rintro _ ⟨g4, rfl⟩
  refine SWl.nil ?_
  refine SN.then ?_
  refine SW.seq ?_
  refine SW.region ?_
  refine SWl.rd rfl (Rd.move rfl) ?_
  refine SWl.rd rfl (Rd.move rfl) ?_
  refine SWl.ef (S := []) (Ef.call (con_hashK key b hk (by omega)) rfl ⟨Le.refl _, Le.refl _, trivial⟩ rfl) ?_
  rintro _ rfl
  refine SWl.ef (S := []) (Ef.callN [] (con_fixed _ (by simp)) rfl ⟨(sees_le (Le.refl _)), trivial⟩ rfl) ?_
  rintro _ rfl
  refine SWl.ef (S := [_]) (Ef.storeG 0 32 rfl rfl rfl (by kernel_rfl) (by first | assumption | (simp; done) | (simp; omega)) (by first | assumption | (simp; done) | (simp; omega)) (List.mem_singleton.2 rfl)) ?_
  rintro _ rfl
  refine SWl.nil ?_
  refine SN.then ?_
  refine SW.ret (fn := Tryd.f28) (fun _ _ h => h) (Rs.le (Rs.one rfl (ResV.cellG (n := 32) 0 rfl rfl (by kernel_rfl) (by first | assumption | (simp; done) | (simp; omega)))) ?_)
  exact (Le.trans (le_agg_g _) le_nw_is)
set_option maxHeartbeats 4000000 in
set_option maxRecDepth 100000 in
theorem con_bytesEq (a b : List UInt8) : ConN Tryd.prog 29 [bD a, bD b] (boolD (decide (a = b))) := by
  refine con_ofN Tryd.func29 (by kernel_rfl) rfl (by kernel_rfl) fun base w0 => ?_
  refine SW.seq ?_
  refine SW.region ?_
  refine SWl.rd rfl (Rd.assign rfl) ?_
  refine SWl.nil ?_
  refine SN.then ?_
  refine SW.seq ?_
  refine SW.region ?_
  refine SWl.rd rfl (Rd.move rfl) ?_
  refine SWl.rd rfl (Rd.str (e := 5) rfl (by kernel_rfl) (by kernel_rfl) (by kernel_rfl) (by simp)) ?_
  refine SWl.rd rfl (Rd.move rfl) ?_
  refine SWl.rd rfl (Rd.str (e := 5) rfl (by kernel_rfl) (by kernel_rfl) (by kernel_rfl) (by simp)) ?_
  refine SWl.rd rfl (Rd.eqs (p := a) (q := b) rfl rfl) ?_
  refine SWl.rd rfl (Rd.assign rfl) ?_
  refine SWl.nil ?_
  refine SN.then ?_
  refine SW.ret (fn := Tryd.f29) (fun _ _ h => h) (Rs.le (Rs.one rfl (ResV.tmp rfl)) ?_)
  exact le_nw_is
set_option maxHeartbeats 4000000 in
set_option maxRecDepth 100000 in
theorem con_tag (gb : Nat) (s : Bst) (l : List Acc.T) (nm q : List UInt8) (hf : Acc.Fine l) (hq : q.length ≤ 1000000) : ConR Tryd.prog 9 [.c gb [isD (.map (s.M.map Prod.fst)), isD (.slice s.n.A (Acc.nm l).length s.n.c), isD (.map (s.M.map Prod.snd))], .r s.n.F (vecT 9 1 encT s.n.A s.n.c (Acc.nm l)), .r s.F1 (mapQ (s.M.map Prod.fst) encS (Acc.nm l) (acD l)), .r s.F2 (mapQ (s.M.map Prod.snd) encSt (Acc.seats l) (seD l))] [isD (.pointer (some ⟨gb, 0, none⟩)), strD nm, bD q] (fun _ : Unit => [.c gb [isD (.map (s.M.map Prod.fst)), isD (.slice s.n.A (Acc.nm l).length s.n.c), isD (.map (s.M.map Prod.snd))], .r s.n.F (vecT 9 1 encT s.n.A s.n.c (Acc.nm l)), .r s.F1 (mapQ (s.M.map Prod.fst) encS (Acc.nm l) (acD l)), .r s.F2 (mapQ (s.M.map Prod.snd) encSt (Acc.seats l) (seD l))]) (fun _ : Unit => tupD [bD (Acc.tagT l nm q), iD (Acc.tagE l nm q)]) := by
  refine con_ofR Tryd.func9 (by kernel_rfl) rfl (by kernel_rfl) fun base w0 => ?_
  refine SW.seq ?_
  refine SW.region ?_
  refine SWl.rd rfl (Rd.assign rfl) ?_
  refine SWl.rd rfl (Rd.assign rfl) ?_
  refine SWl.nil ?_
  refine SN.then ?_
  refine SW.seq ?_
  refine SW.region ?_
  refine SWl.rd rfl (Rd.move rfl) ?_
  refine SWl.rd rfl (Rd.move rfl) ?_
  refine SWl.ef (S := []) (Ef.callN [0, 2, 1, 3] (con_get l nm hf) rfl ⟨(sees_box 0 rfl (by decide) ⟨(sees_mapQ 2 rfl (by decide)), (sees_vec 1 rfl (by decide)), (sees_mapQ 3 rfl (by decide)), trivial⟩), (sees_le (Le.refl _)), trivial⟩ rfl) ?_
  rintro _ rfl
  refine SWl.rd rfl (Rd.move rfl) ?_
  refine SWl.rd rfl (Rd.extract rfl rfl) ?_
  refine SWl.rd rfl (Rd.extract rfl rfl) ?_
  refine SWl.ef (S := []) (Ef.alloc (zs := [.string ⟨#[]⟩, .int .i64 0, .slice none 0 0, .int .i64 0, .int .i64 0]) (by kernel_rfl) rfl) ?_
  rintro _ ⟨g8, rfl⟩
  refine SWl.ef (S := [_]) (Ef.storeA 4 rfl rfl rfl (by kernel_rfl) rfl (List.mem_singleton.2 rfl)) ?_
  rintro _ rfl
  refine SWl.rd rfl (Rd.assign rfl) ?_
  refine SWl.nil ?_
  refine SN.then ?_
  refine SW.seq ?_
  refine SW.seq ?_
  rcases hx : Acc.find l nm with _ | x
  · have hg := Acc.get_no hx
    refine SW.sub (σ' := St.ob [(2, bD q), (8, isD (.pointer (some ⟨g8, 0, none⟩))), (9, iD 9)] [.c gb [isD (.map (s.M.map Prod.fst)), isD (.slice s.n.A (Acc.nm l).length s.n.c), isD (.map (s.M.map Prod.snd))], .r s.n.F (vecT 9 1 encT s.n.A s.n.c (Acc.nm l)), .r s.F1 (mapQ (s.M.map Prod.fst) encS (Acc.nm l) (acD l)), .r s.F2 (mapQ (s.M.map Prod.snd) encSt (Acc.seats l) (seD l)), .c g8 [strD Acc.zero.name, iD Acc.zero.role, bD Acc.zero.key, iD Acc.zero.dep, iD Acc.zero.num]]) (⟨⟨_, rfl, ⟨⟨_, rfl, Le.refl _⟩, ⟨⟨_, rfl, Le.refl _⟩, ⟨⟨_, rfl, Le.is (by rw [hg.2])⟩, trivial⟩⟩⟩⟩, [0, 1, 2, 3, 4], by decide, ⟨⟨_, rfl, LeAll.refl _⟩, ⟨⟨_, rfl, LeR.refl _⟩, ⟨⟨_, rfl, LeR.refl _⟩, ⟨⟨_, rfl, LeR.refl _⟩, ⟨⟨_, rfl, (by rw [hg.1]; exact LeAll.refl _)⟩, trivial⟩⟩⟩⟩⟩⟩) ?_
    refine SW.region ?_
    refine SWl.rd rfl (Rd.move rfl) ?_
    refine SWl.rd rfl (Rd.nei rfl rfl) ?_
    refine SWl.nil ?_
    refine SN.then ?_
    refine SW.condT rfl (by decide) ?_
    refine SW.seq ?_
    refine SW.region ?_
    refine SWl.rd rfl (Rd.move rfl) ?_
    refine SWl.rd rfl (Rd.assign rfl) ?_
    refine SWl.rd rfl (Rd.assign rfl) ?_
    refine SWl.nil ?_
    refine SN.then ?_
    refine SW.retR (fn := Tryd.f9) (()) [0, 1, 2, 3] (fun _ _ h => h) (Rs.le (Rs.two rfl (ResV.tmp rfl) (ResV.tmp rfl)) ?_) (by decide) ⟨⟨_, rfl, LeAll.refl _⟩, ⟨⟨_, rfl, LeR.refl _⟩, ⟨⟨_, rfl, LeR.refl _⟩, ⟨⟨_, rfl, LeR.refl _⟩, trivial⟩⟩⟩⟩
    exact Le.tup ⟨by rw [(Acc.tag_no hx).1]; exact Le.nil_sl, Le.is (by rw [(Acc.tag_no hx).2]), trivial⟩
  · have hg := Acc.get_yes hx; have hkl := (hf.oks x (Acc.find_some hx).1).2.1
    refine SW.sub (σ' := St.ob [(2, bD q), (8, isD (.pointer (some ⟨g8, 0, none⟩))), (9, iD 0)] [.c gb [isD (.map (s.M.map Prod.fst)), isD (.slice s.n.A (Acc.nm l).length s.n.c), isD (.map (s.M.map Prod.snd))], .r s.n.F (vecT 9 1 encT s.n.A s.n.c (Acc.nm l)), .r s.F1 (mapQ (s.M.map Prod.fst) encS (Acc.nm l) (acD l)), .r s.F2 (mapQ (s.M.map Prod.snd) encSt (Acc.seats l) (seD l)), .c g8 [strD x.name, iD x.role, bD x.key, iD x.dep, iD x.num]]) (⟨⟨_, rfl, ⟨⟨_, rfl, Le.refl _⟩, ⟨⟨_, rfl, Le.refl _⟩, ⟨⟨_, rfl, Le.is (by rw [hg.2])⟩, trivial⟩⟩⟩⟩, [0, 1, 2, 3, 4], by decide, ⟨⟨_, rfl, LeAll.refl _⟩, ⟨⟨_, rfl, LeR.refl _⟩, ⟨⟨_, rfl, LeR.refl _⟩, ⟨⟨_, rfl, LeR.refl _⟩, ⟨⟨_, rfl, (by rw [hg.1]; exact LeAll.refl _)⟩, trivial⟩⟩⟩⟩⟩⟩) ?_
    refine SW.region ?_
    refine SWl.rd rfl (Rd.move rfl) ?_
    refine SWl.rd rfl (Rd.nei rfl rfl) ?_
    refine SWl.nil ?_
    refine SN.then ?_
    refine SW.condF rfl (by decide) ?_
    refine SW.skip ?_
    refine SN.then ?_
    refine SW.seq ?_
    refine SW.seq ?_
    refine SW.region ?_
    refine SWl.rd rfl (Rd.move rfl) ?_
    refine SWl.rd rfl (Rd.len (e := 5) rfl (by kernel_rfl)) ?_
    refine SWl.rd rfl (Rd.gtr rfl rfl) ?_
    refine SWl.nil ?_
    refine SN.then ?_
    refine SW.cond rfl (fun hb22 => ?_) (fun hb22 => ?_)
    · have h22 : 65536 < q.length := by have h := of_decide_eq_true hb22; simp at h; omega
      refine SW.seq ?_
      refine SW.region ?_
      refine SWl.rd rfl (Rd.assign rfl) ?_
      refine SWl.rd rfl (Rd.assign rfl) ?_
      refine SWl.nil ?_
      refine SN.then ?_
      refine SW.retR (fn := Tryd.f9) (()) [0, 1, 2, 3] (fun _ _ h => h) (Rs.le (Rs.two rfl (ResV.tmp rfl) (ResV.tmp rfl)) ?_) (by decide) ⟨⟨_, rfl, LeAll.refl _⟩, ⟨⟨_, rfl, LeR.refl _⟩, ⟨⟨_, rfl, LeR.refl _⟩, ⟨⟨_, rfl, LeR.refl _⟩, trivial⟩⟩⟩⟩
      exact Le.tup ⟨by rw [(Acc.tag_long hx h22).1]; exact Le.nil_sl, Le.is (by rw [(Acc.tag_long hx h22).2]), trivial⟩
    · have h22 : ¬ 65536 < q.length := by have h := of_decide_eq_false hb22; simp at h; omega
      refine SW.skip ?_
      refine SN.then ?_
      refine SW.seq ?_
      refine SW.region ?_
      refine SWl.rd rfl (Rd.fieldAddr (n := 2) rfl (by kernel_rfl)) ?_
      refine SWl.rd rfl (Rd.loadB 4 rfl rfl rfl (by kernel_rfl) ap_nil) ?_
      refine SWl.rd rfl (Rd.move rfl) ?_
      refine SWl.ef (S := []) (Ef.call (con_keyed x.key q (by omega) (by omega) (by omega)) rfl ⟨Le.refl _, Le.refl _, trivial⟩ rfl) ?_
      rintro _ rfl
      refine SWl.rd rfl (Rd.move rfl) ?_
      refine SWl.rd rfl (Rd.extract rfl rfl) ?_
      refine SWl.rd rfl (Rd.extract rfl rfl) ?_
      refine SWl.ef (S := []) (Ef.alloc (zs := cellsOf (List.replicate 32 0)) (by kernel_rfl) rfl) ?_
      rintro _ ⟨g10, rfl⟩
      refine SWl.ef (S := [_]) (Ef.storeG 5 32 rfl rfl rfl (by kernel_rfl) (by first | assumption | (simp; done) | (simp; omega)) (by first | assumption | (simp; done) | (simp; omega)) (List.mem_singleton.2 rfl)) ?_
      rintro _ rfl
      refine SWl.rd rfl (Rd.assign rfl) ?_
      refine SWl.nil ?_
      refine SN.then ?_
      refine SW.seq ?_
      refine SW.seq ?_
      refine SW.region ?_
      refine SWl.rd rfl (Rd.move rfl) ?_
      refine SWl.rd rfl (Rd.nei rfl rfl) ?_
      refine SWl.nil ?_
      refine SN.then ?_
      refine SW.condF rfl (by decide) ?_
      refine SW.skip ?_
      refine SN.then ?_
      refine SW.seq ?_
      refine SW.region ?_
      refine SWl.rd rfl (Rd.slArr (e := 5) (n := 32) rfl (by kernel_rfl) (by kernel_rfl)) ?_
      refine SWl.freeze 33 5 (cellsOf (Bl.hash x.key q)) rfl rfl (by first | rfl | (simp; done)) (by decide) rfl ?_
      refine SWl.rd rfl (Rd.assign rfl) ?_
      refine SWl.rd rfl (Rd.assign rfl) ?_
      refine SWl.nil ?_
      refine SN.then ?_
      refine SW.retR (fn := Tryd.f9) (()) [0, 1, 2, 3] (fun _ _ h => h) (Rs.le (Rs.two rfl (ResV.tmp rfl) (ResV.tmp rfl)) ?_) (by decide) ⟨⟨_, rfl, LeAll.refl _⟩, ⟨⟨_, rfl, LeR.refl _⟩, ⟨⟨_, rfl, LeR.refl _⟩, ⟨⟨_, rfl, LeR.refl _⟩, trivial⟩⟩⟩⟩
      exact Le.tup ⟨by rw [(Acc.tag_yes hx h22).1]; exact Le.refl _, Le.is (by rw [(Acc.tag_yes hx h22).2]), trivial⟩
set_option maxHeartbeats 4000000 in
set_option maxRecDepth 100000 in
theorem con_tagR (l : List Acc.T) (nm q : List UInt8) (hf : Acc.Fine l) (hq : q.length ≤ 1000000) : ConN Tryd.prog 10 [aggD [lsD encA l], strD nm, bD q] (tupD [strD (Acc.tagT l nm q), iD (Acc.tagE l nm q)]) := by
  refine con_ofN Tryd.func10 (by kernel_rfl) rfl (by kernel_rfl) fun base w0 => ?_
  refine SW.seq ?_
  refine SW.region ?_
  refine SWl.ef (S := []) (Ef.boxA rfl rfl) ?_
  rintro _ ⟨g3, rfl⟩
  refine SWl.rd rfl (Rd.assign rfl) ?_
  refine SWl.rd rfl (Rd.assign rfl) ?_
  refine SWl.nil ?_
  refine SN.then ?_
  refine SW.seq ?_
  refine SW.region ?_
  refine SWl.rd rfl (Rd.loadA 0 1 rfl rfl (by kernel_rfl) rfl ap_nil) ?_
  refine SWl.rd rfl (Rd.move rfl) ?_
  refine SWl.ef (S := []) (Ef.callN [] (con_AtR l nm (by have := hf.len; omega)) rfl ⟨(sees_agg ⟨(sees_le (Le.refl _)), trivial⟩), (sees_le (Le.refl _)), trivial⟩ rfl) ?_
  rintro _ rfl
  refine SWl.rd rfl (Rd.assign rfl) ?_
  refine SWl.nil ?_
  refine SN.then ?_
  refine SW.seq ?_
  refine SW.seq ?_
  rcases Acc.at_cases l nm with ⟨he, hx⟩ | ⟨i, x, he, hi, hx⟩
  · skip
    refine SW.sub (σ' := St.ob [(2, bD q), (3, isD (.pointer (some ⟨g3, 0, none⟩))), (8, iD (-1))] [.c g3 [lsD encA l]]) (⟨⟨_, rfl, ⟨⟨_, rfl, Le.refl _⟩, ⟨⟨_, rfl, Le.refl _⟩, ⟨⟨_, rfl, Le.is (by rw [he])⟩, trivial⟩⟩⟩⟩, [0], by decide, ⟨⟨_, rfl, LeAll.refl _⟩, trivial⟩⟩) ?_
    refine SW.region ?_
    refine SWl.rd rfl (Rd.move rfl) ?_
    refine SWl.rd rfl (Rd.lss rfl rfl) ?_
    refine SWl.nil ?_
    refine SN.then ?_
    refine SW.condT rfl (by decide) ?_
    refine SW.seq ?_
    refine SW.region ?_
    refine SWl.rd rfl (Rd.assign rfl) ?_
    refine SWl.rd rfl (Rd.assign rfl) ?_
    refine SWl.nil ?_
    refine SN.then ?_
    refine SW.ret (fn := Tryd.f10) (fun _ _ h => h) (Rs.le (Rs.two rfl (ResV.tmp rfl) (ResV.tmp rfl)) ?_)
    rw [(Acc.tag_no hx (q := q)).1, (Acc.tag_no hx (q := q)).2]; exact le_nw_tup ⟨le_nw_is, le_nw_is, trivial⟩
  · have hil := (List.getElem?_eq_some_iff.1 hi).1; have hkl := (hf.oks x (Acc.find_some hx).1).2.1
    refine SW.sub (σ' := St.ob [(2, bD q), (3, isD (.pointer (some ⟨g3, 0, none⟩))), (8, iD (i : Int))] [.c g3 [lsD encA l]]) (⟨⟨_, rfl, ⟨⟨_, rfl, Le.refl _⟩, ⟨⟨_, rfl, Le.refl _⟩, ⟨⟨_, rfl, Le.is (by rw [he])⟩, trivial⟩⟩⟩⟩, [0], by decide, ⟨⟨_, rfl, LeAll.refl _⟩, trivial⟩⟩) ?_
    refine SW.region ?_
    refine SWl.rd rfl (Rd.move rfl) ?_
    refine SWl.rd rfl (Rd.lss rfl rfl) ?_
    refine SWl.nil ?_
    refine SN.then ?_
    refine SW.condF rfl (by simp) ?_
    refine SW.skip ?_
    refine SN.then ?_
    refine SW.seq ?_
    refine SW.seq ?_
    refine SW.region ?_
    refine SWl.rd rfl (Rd.move rfl) ?_
    refine SWl.rd rfl (Rd.len (e := 5) rfl (by kernel_rfl)) ?_
    refine SWl.rd rfl (Rd.gtr rfl rfl) ?_
    refine SWl.nil ?_
    refine SN.then ?_
    refine SW.cond rfl (fun hb17 => ?_) (fun hb17 => ?_)
    · have h22 : 65536 < q.length := by have h := of_decide_eq_true hb17; simp at h; omega
      refine SW.seq ?_
      refine SW.region ?_
      refine SWl.rd rfl (Rd.assign rfl) ?_
      refine SWl.rd rfl (Rd.assign rfl) ?_
      refine SWl.nil ?_
      refine SN.then ?_
      refine SW.ret (fn := Tryd.f10) (fun _ _ h => h) (Rs.le (Rs.two rfl (ResV.tmp rfl) (ResV.tmp rfl)) ?_)
      rw [(Acc.tag_long hx h22).1, (Acc.tag_long hx h22).2]; exact le_nw_tup ⟨le_nw_is, le_nw_is, trivial⟩
    · have h22 : ¬ 65536 < q.length := by have h := of_decide_eq_false hb17; simp at h; omega
      refine SW.skip ?_
      refine SN.then ?_
      refine SW.seq ?_
      refine SW.region ?_
      refine SWl.rd rfl (Rd.fieldAddr (n := 0) rfl (by kernel_rfl)) ?_
      refine SWl.rd rfl (Rd.loadB 0 rfl rfl rfl (by kernel_rfl) ap_nil) ?_
      refine SWl.rd rfl (Rd.move rfl) ?_
      refine SWl.rd rfl (Rd.idxL (e := 43) 5 rfl rfl (by kernel_rfl) (by kernel_rfl) (by omega) (by simpa using hi)) ?_
      refine SWl.rd rfl (Rd.fieldR (n := 2) rfl (by kernel_rfl) (show 2 < 5 by decide)) ?_
      refine SWl.rd rfl (Rd.loadR rfl rfl (by kernel_rfl) (by simp)) ?_
      refine SWl.rd rfl (Rd.move rfl) ?_
      refine SWl.ef (S := []) (Ef.callN [] (con_keyedR x.key q (by omega) hq) rfl ⟨(sees_le (Le.refl _)), (sees_le (Le.refl _)), trivial⟩ rfl) ?_
      rintro _ rfl
      refine SWl.ef (S := []) (Ef.alloc (zs := cellsOf (List.replicate 32 0)) (by kernel_rfl) rfl) ?_
      rintro _ ⟨g9, rfl⟩
      refine SWl.ef (S := [_]) (Ef.storeG 1 32 rfl rfl rfl (by kernel_rfl) (by first | assumption | (simp; done) | (simp; omega)) (by first | assumption | (simp; done) | (simp; omega)) (List.mem_singleton.2 rfl)) ?_
      rintro _ rfl
      refine SWl.nil ?_
      refine SN.then ?_
      refine SW.seq ?_
      refine SW.region ?_
      refine SWl.rd rfl (Rd.slArr (e := 5) (n := 32) rfl (by kernel_rfl) (by kernel_rfl)) ?_
      refine SWl.rd rfl (Rd.strBox (e := 5) 1 rfl rfl (by first | assumption | (simp; done) | (simp; omega)) (by kernel_rfl) (by kernel_rfl) (by kernel_rfl) ap_nil) ?_
      refine SWl.rd rfl (Rd.assign rfl) ?_
      refine SWl.rd rfl (Rd.assign rfl) ?_
      refine SWl.nil ?_
      refine SN.then ?_
      refine SW.ret (fn := Tryd.f10) (fun _ _ h => h) (Rs.le (Rs.two rfl (ResV.tmp rfl) (ResV.tmp rfl)) ?_)
      rw [(Acc.tag_yes hx h22).1, (Acc.tag_yes hx h22).2]; exact le_nw_tup ⟨le_nw_is, le_nw_is, trivial⟩
set_option maxHeartbeats 4000000 in
set_option maxRecDepth 100000 in
theorem con_verify (gb : Nat) (s : Bst) (l : List Acc.T) (nm q tg : List UInt8) (hf : Acc.Fine l) (hq : q.length ≤ 1000000) : ConR Tryd.prog 11 [.c gb [isD (.map (s.M.map Prod.fst)), isD (.slice s.n.A (Acc.nm l).length s.n.c), isD (.map (s.M.map Prod.snd))], .r s.n.F (vecT 9 1 encT s.n.A s.n.c (Acc.nm l)), .r s.F1 (mapQ (s.M.map Prod.fst) encS (Acc.nm l) (acD l)), .r s.F2 (mapQ (s.M.map Prod.snd) encSt (Acc.seats l) (seD l))] [isD (.pointer (some ⟨gb, 0, none⟩)), strD nm, bD q, bD tg] (fun _ : Unit => [.c gb [isD (.map (s.M.map Prod.fst)), isD (.slice s.n.A (Acc.nm l).length s.n.c), isD (.map (s.M.map Prod.snd))], .r s.n.F (vecT 9 1 encT s.n.A s.n.c (Acc.nm l)), .r s.F1 (mapQ (s.M.map Prod.fst) encS (Acc.nm l) (acD l)), .r s.F2 (mapQ (s.M.map Prod.snd) encSt (Acc.seats l) (seD l))]) (fun _ : Unit => iD (Acc.verE l nm q tg)) := by
  refine con_ofR Tryd.func11 (by kernel_rfl) rfl (by kernel_rfl) fun base w0 => ?_
  refine SW.seq ?_
  refine SW.region ?_
  refine SWl.rd rfl (Rd.assign rfl) ?_
  refine SWl.nil ?_
  refine SN.then ?_
  refine SW.seq ?_
  refine SW.region ?_
  refine SWl.rd rfl (Rd.move rfl) ?_
  refine SWl.rd rfl (Rd.move rfl) ?_
  refine SWl.rd rfl (Rd.move rfl) ?_
  refine SWl.ef (Ef.callR [0, 1, 2, 3] (con_tag gb s l nm q hf hq) rfl ⟨Le.refl _, Le.refl _, Le.refl _, trivial⟩ (by decide) ⟨⟨_, rfl, LeAll.refl _⟩, ⟨⟨_, rfl, LeR.refl _⟩, ⟨⟨_, rfl, LeR.refl _⟩, ⟨⟨_, rfl, LeR.refl _⟩, trivial⟩⟩⟩⟩ (fun _ h => h) rfl) ?_
  rintro _ ⟨⟨⟩, rfl⟩
  refine SWl.rd rfl (Rd.move rfl) ?_
  refine SWl.rd rfl (Rd.extract rfl rfl) ?_
  refine SWl.rd rfl (Rd.extract rfl rfl) ?_
  refine SWl.rd rfl (Rd.assign rfl) ?_
  refine SWl.rd rfl (Rd.assign rfl) ?_
  refine SWl.nil ?_
  refine SN.then ?_
  refine SW.seq ?_
  refine SW.seq ?_
  refine SW.region ?_
  refine SWl.rd rfl (Rd.move rfl) ?_
  refine SWl.rd rfl (Rd.nei rfl rfl) ?_
  refine SWl.nil ?_
  refine SN.then ?_
  refine SW.cond rfl (fun hb19 => ?_) (fun hb19 => ?_)
  · have h19 : Acc.tagE l nm q ≠ 0 := by simpa using hb19
    refine SW.seq ?_
    refine SW.region ?_
    refine SWl.rd rfl (Rd.move rfl) ?_
    refine SWl.rd rfl (Rd.assign rfl) ?_
    refine SWl.nil ?_
    refine SN.then ?_
    refine SW.retR (fn := Tryd.f11) (()) [0, 1, 2, 3] (fun _ _ h => h) (Rs.le (Rs.one rfl (ResV.tmp rfl)) ?_) (by decide) ⟨⟨_, rfl, LeAll.refl _⟩, ⟨⟨_, rfl, LeR.refl _⟩, ⟨⟨_, rfl, LeR.refl _⟩, ⟨⟨_, rfl, LeR.refl _⟩, trivial⟩⟩⟩⟩
    exact Le.is (by unfold Acc.verE Acc.ver; rw [if_pos h19])
  · have h19 : ¬ Acc.tagE l nm q ≠ 0 := by simpa using hb19
    refine SW.skip ?_
    refine SN.then ?_
    refine SW.seq ?_
    refine SW.seq ?_
    refine SW.region ?_
    refine SWl.rd rfl (Rd.move rfl) ?_
    refine SWl.rd rfl (Rd.move rfl) ?_
    refine SWl.ef (S := []) (Ef.callN [] (con_bytesEq (Acc.tagT l nm q) tg) rfl ⟨(sees_le (Le.refl _)), (sees_le (Le.refl _)), trivial⟩ rfl) ?_
    rintro _ rfl
    refine SWl.rd rfl (Rd.not rfl) ?_
    refine SWl.nil ?_
    refine SN.then ?_
    refine SW.cond rfl (fun hb24 => ?_) (fun hb24 => ?_)
    · have h24 : ¬ Acc.tagT l nm q = tg := by simpa using hb24
      refine SW.seq ?_
      refine SW.region ?_
      refine SWl.rd rfl (Rd.assign rfl) ?_
      refine SWl.nil ?_
      refine SN.then ?_
      refine SW.retR (fn := Tryd.f11) (()) [0, 1, 2, 3] (fun _ _ h => h) (Rs.le (Rs.one rfl (ResV.tmp rfl)) ?_) (by decide) ⟨⟨_, rfl, LeAll.refl _⟩, ⟨⟨_, rfl, LeR.refl _⟩, ⟨⟨_, rfl, LeR.refl _⟩, ⟨⟨_, rfl, LeR.refl _⟩, trivial⟩⟩⟩⟩
      exact Le.is (by unfold Acc.verE Acc.ver; rw [if_neg h19, if_neg h24])
    · have h24 : Acc.tagT l nm q = tg := by simpa using hb24
      refine SW.skip ?_
      refine SN.then ?_
      refine SW.seq ?_
      refine SW.region ?_
      refine SWl.rd rfl (Rd.assign rfl) ?_
      refine SWl.nil ?_
      refine SN.then ?_
      refine SW.retR (fn := Tryd.f11) (()) [0, 1, 2, 3] (fun _ _ h => h) (Rs.le (Rs.one rfl (ResV.tmp rfl)) ?_) (by decide) ⟨⟨_, rfl, LeAll.refl _⟩, ⟨⟨_, rfl, LeR.refl _⟩, ⟨⟨_, rfl, LeR.refl _⟩, ⟨⟨_, rfl, LeR.refl _⟩, trivial⟩⟩⟩⟩
      exact Le.is (by unfold Acc.verE Acc.ver; rw [if_neg h19, if_pos h24])
set_option maxHeartbeats 4000000 in
set_option maxRecDepth 100000 in
theorem accountTags_con (l : List Act.T) (nm p : List UInt8) (z : Int) (tg : List UInt8) (pr : Int) (hl : l.length ≤ 9223372036854775807) : ConN Tryd.prog 3 [lsD encAct l, strD nm, bD p, iD z, bD tg, iD pr] (boolD true) := by
  refine con_ofN Tryd.func3 (by kernel_rfl) rfl (by kernel_rfl) fun base w0 => ?_
  refine SW.seq ?_
  refine SW.region ?_
  refine SWl.rd rfl (Rd.assign rfl) ?_
  refine SWl.nil ?_
  refine SN.then ?_
  refine SW.seq ?_
  refine SW.seq ?_
  refine SW.region ?_
  refine SWl.rd rfl (Rd.move rfl) ?_
  refine SWl.ef (S := []) (Ef.callN [] (con_few41 l 12 hl) rfl ⟨(sees_le (Le.refl _)), (sees_le (Le.refl _)), trivial⟩ rfl) ?_
  rintro _ rfl
  refine SWl.rd rfl (Rd.not rfl) ?_
  refine SWl.rd rfl (Rd.move rfl) ?_
  refine SWl.split 27 rfl (fun hb27 => ?_) (fun hb27 => ?_)
  · skip
    refine SWl.off rfl rfl (hb27) rfl rfl ?_
    refine SWl.off rfl rfl (hb27) rfl rfl ?_
    refine SWl.off rfl rfl (hb27) rfl rfl ?_
    refine SWl.rd rfl (Rd.pickY rfl (hb27) rfl) ?_
    refine SWl.nil ?_
    refine SN.then ?_
    refine SW.condT rfl (rfl) ?_
    refine SW.seq ?_
    refine SW.region ?_
    refine SWl.ef (S := []) (Ef.callN [] (con_known41) rfl trivial rfl) ?_
    rintro _ rfl
    refine SWl.rd rfl (Rd.assign rfl) ?_
    refine SWl.nil ?_
    refine SN.then ?_
    refine SW.ret (fn := Tryd.f3) (fun _ _ h => h) (Rs.le (Rs.one rfl (ResV.tmp rfl)) ?_)
    exact le_bool_n rfl
  · have hq : Act.few l 12 := by simpa using hb27
    refine SWl.rdg rfl rfl (hb27) rfl rfl (Rd.move rfl) ?_
    refine SWl.rdg rfl rfl (hb27) rfl rfl (Rd.len (e := 5) rfl (by kernel_rfl)) ?_
    refine SWl.rdg rfl rfl (hb27) rfl rfl (Rd.gtr rfl rfl) ?_
    refine SWl.rd rfl (Rd.pickN rfl (hb27) rfl) ?_
    refine SWl.nil ?_
    refine SN.then ?_
    refine SW.cond rfl (fun hb31 => ?_) (fun hb31 => ?_)
    · skip
      refine SW.seq ?_
      refine SW.region ?_
      refine SWl.ef (S := []) (Ef.callN [] (con_known41) rfl trivial rfl) ?_
      rintro _ rfl
      refine SWl.rd rfl (Rd.assign rfl) ?_
      refine SWl.nil ?_
      refine SN.then ?_
      refine SW.ret (fn := Tryd.f3) (fun _ _ h => h) (Rs.le (Rs.one rfl (ResV.tmp rfl)) ?_)
      exact le_bool_n rfl
    · have hpl : p.length ≤ 300 := by have h := of_decide_eq_false hb31; simp at h; omega
      refine SW.skip ?_
      refine SN.then ?_
      refine SW.seq ?_
      refine SW.meet (fun σ => ∃ q : List UInt8, q.length ≤ 70000 ∧ σ = St.ob [(0, lsD encAct l), (1, strD nm), (2, bD q), (4, bD tg), (5, iD pr)] []) ?_ ?_
      · skip
        refine SW.seq ?_
        refine SW.region ?_
        refine SWl.rd rfl (Rd.move rfl) ?_
        refine SWl.rd rfl (Rd.geq rfl rfl) ?_
        refine SWl.rd rfl (Rd.move rfl) ?_
        refine SWl.split 35 rfl (fun hb35 => ?_) (fun hb35 => ?_)
        · have h35 := of_decide_eq_true hb35
          refine SWl.rdg rfl rfl (hb35) rfl rfl (Rd.move rfl) ?_
          refine SWl.rdg rfl rfl (hb35) rfl rfl (Rd.leq rfl rfl) ?_
          refine SWl.rd rfl (Rd.pickY rfl (hb35) rfl) ?_
          refine SWl.nil ?_
          refine SN.then ?_
          refine SW.cond rfl (fun hb38 => ?_) (fun hb38 => ?_)
          · have h38 := of_decide_eq_true hb38
            refine SW.region ?_
            refine SWl.rd rfl (Rd.move rfl) ?_
            refine SWl.rd rfl (Rd.add rfl rfl ⟨by omega, by omega⟩) ?_
            refine SWl.ef (S := []) (Ef.make (e := 5) (z := .int .u8 0) (n := (65536 + z).toNat) 1 rfl rfl (by kernel_rfl) (by kernel_rfl) rfl (by omega) (by omega) (by omega) (by decide) rfl) ?_
            rintro _ ⟨g41, rfl⟩
            refine SWl.freeze 41 0 (cellsOf (List.replicate (65536 + z).toNat 0)) rfl rfl (by simp) (Nat.le_refl _) (by simp [cellsOf, B8]) ?_
            refine SWl.rd rfl (Rd.assign rfl) ?_
            refine SWl.nil ?_
            exact SN.meet ⟨List.replicate (65536 + z).toNat 0, by simp; omega, rfl⟩ (⟨⟨_, rfl, ⟨⟨_, rfl, Le.refl _⟩, ⟨⟨_, rfl, Le.refl _⟩, ⟨⟨_, rfl, Le.refl _⟩, ⟨⟨_, rfl, Le.refl _⟩, ⟨⟨_, rfl, Le.refl _⟩, trivial⟩⟩⟩⟩⟩⟩, [], by decide, trivial⟩)
          · skip
            refine SW.skip ?_
            exact SN.meet ⟨p, by omega, rfl⟩ (⟨⟨_, rfl, ⟨⟨_, rfl, Le.refl _⟩, ⟨⟨_, rfl, Le.refl _⟩, ⟨⟨_, rfl, Le.refl _⟩, ⟨⟨_, rfl, Le.refl _⟩, ⟨⟨_, rfl, Le.refl _⟩, trivial⟩⟩⟩⟩⟩⟩, [], by decide, trivial⟩)
        · skip
          refine SWl.off rfl rfl (hb35) rfl rfl ?_
          refine SWl.off rfl rfl (hb35) rfl rfl ?_
          refine SWl.rd rfl (Rd.pickN rfl (hb35) rfl) ?_
          refine SWl.nil ?_
          refine SN.then ?_
          refine SW.condF rfl (rfl) ?_
          refine SW.skip ?_
          exact SN.meet ⟨p, by omega, rfl⟩ (⟨⟨_, rfl, ⟨⟨_, rfl, Le.refl _⟩, ⟨⟨_, rfl, Le.refl _⟩, ⟨⟨_, rfl, Le.refl _⟩, ⟨⟨_, rfl, Le.refl _⟩, ⟨⟨_, rfl, Le.refl _⟩, trivial⟩⟩⟩⟩⟩⟩, [], by decide, trivial⟩)
      · rintro _ ⟨q, hql, rfl⟩
        refine SN.then ?_
        refine SW.seq ?_
        refine SW.region ?_
        refine SWl.rd rfl (Rd.move rfl) ?_
        refine SWl.ef (S := []) (Ef.callR [] (con_played l 12 hl hq) rfl ⟨Le.refl _, trivial⟩ (by decide) trivial (fun _ h => h) rfl) ?_
        rintro _ ⟨⟨gb, s⟩, rfl⟩
        refine SWl.rd rfl (Rd.move rfl) ?_
        refine SWl.rd rfl (Rd.extract rfl rfl) ?_
        refine SWl.rd rfl (Rd.extract rfl rfl) ?_
        refine SWl.rd rfl (Rd.extract rfl rfl) ?_
        refine SWl.ef (S := []) (Ef.alloc (zs := [.slice none 0 0]) (by kernel_rfl) rfl) ?_
        rintro _ ⟨g14, rfl⟩
        refine SWl.rd rfl (Rd.assign rfl) ?_
        refine SWl.ef (S := [_]) (Ef.storeA 4 rfl rfl rfl (by kernel_rfl) rfl (List.mem_singleton.2 rfl)) ?_
        rintro _ rfl
        refine SWl.rd rfl (Rd.assign rfl) ?_
        refine SWl.nil ?_
        refine SN.then ?_
        refine SW.seq ?_
        refine SW.seq ?_
        obtain ⟨R, hR⟩ : ∃ R, R = Act.run l := ⟨_, rfl⟩
        have hf : Acc.Fine R := by rw [hR]; exact Act.fine_run l
        refine SW.sub (σ' := St.ob [(1, strD nm), (2, bD q), (4, bD tg), (5, iD pr), (13, isD (.pointer (some ⟨gb, 0, none⟩))), (14, isD (.pointer (some ⟨g14, 0, none⟩))), (15, boolD true)] [.c gb [isD (.map (s.M.map Prod.fst)), isD (.slice s.n.A (Acc.nm R).length s.n.c), isD (.map (s.M.map Prod.snd))], .r s.n.F (vecT 9 1 encT s.n.A s.n.c (Acc.nm R)), .r s.F1 (mapQ (s.M.map Prod.fst) encS (Acc.nm R) (acD R)), .r s.F2 (mapQ (s.M.map Prod.snd) encSt (Acc.seats R) (seD R)), .c g14 [lsD encA R]]) (⟨⟨_, rfl, ⟨⟨_, rfl, Le.refl _⟩, ⟨⟨_, rfl, Le.refl _⟩, ⟨⟨_, rfl, Le.refl _⟩, ⟨⟨_, rfl, Le.refl _⟩, ⟨⟨_, rfl, Le.refl _⟩, ⟨⟨_, rfl, Le.refl _⟩, ⟨⟨_, rfl, Le.refl _⟩, trivial⟩⟩⟩⟩⟩⟩⟩⟩, [0, 1, 2, 3, 4], by decide, ⟨⟨_, rfl, ⟨Le.refl _, Le.is (by rw [hR]), Le.refl _, trivial⟩⟩, ⟨⟨_, rfl, leVec (by rw [hR]) (by rw [hR])⟩, ⟨⟨_, rfl, (by rw [hR]; exact LeR.refl _)⟩, ⟨⟨_, rfl, (by rw [hR]; exact LeR.refl _)⟩, ⟨⟨_, rfl, ⟨(by rw [hR]; exact Le.refl _), trivial⟩⟩, trivial⟩⟩⟩⟩⟩⟩) ?_
        refine SW.region ?_
        refine SWl.rd rfl (Rd.move rfl) ?_
        refine SWl.rd rfl (Rd.not rfl) ?_
        refine SWl.nil ?_
        refine SN.then ?_
        refine SW.condF rfl (rfl) ?_
        refine SW.skip ?_
        refine SN.then ?_
        refine SW.seq ?_
        refine SW.vecN 5 1 encB ?_
        refine SW.region ?_
        refine SWl.rd rfl (Rd.move rfl) ?_
        refine SWl.rd rfl (Rd.move rfl) ?_
        refine SWl.rd rfl (Rd.move rfl) ?_
        refine SWl.ef (Ef.appT 5 1 1 rfl rfl (SrcT.b rfl) (by kernel_rfl) (by kernel_rfl) (by simp <;> omega) (by decide) (fun _ h => h) rfl) ?_
        rintro _ ⟨A54, F54, c54, rfl⟩
        refine SWl.freezeT 5 54 rfl rfl (le_ls_b _) ?_
        refine SWl.ef (Ef.callR [0, 1, 2, 3] (con_tag gb s R nm q hf (by omega)) rfl ⟨Le.refl _, Le.refl _, Le.refl _, trivial⟩ (by decide) ⟨⟨_, rfl, LeAll.refl _⟩, ⟨⟨_, rfl, LeR.refl _⟩, ⟨⟨_, rfl, LeR.refl _⟩, ⟨⟨_, rfl, LeR.refl _⟩, trivial⟩⟩⟩⟩ (fun _ h => h) rfl) ?_
        rintro _ ⟨⟨⟩, rfl⟩
        refine SWl.rd rfl (Rd.move rfl) ?_
        refine SWl.rd rfl (Rd.extract rfl rfl) ?_
        refine SWl.rd rfl (Rd.extract rfl rfl) ?_
        refine SWl.rd rfl (Rd.assign rfl) ?_
        refine SWl.rd rfl (Rd.assign rfl) ?_
        refine SWl.nil ?_
        refine SN.then ?_
        refine SW.seq ?_
        refine SW.region ?_
        refine SWl.rd rfl (Rd.loadA 0 1 rfl rfl (by kernel_rfl) rfl ap_nil) ?_
        refine SWl.rd rfl (Rd.move rfl) ?_
        refine SWl.rd rfl (Rd.move rfl) ?_
        refine SWl.ef (S := []) (Ef.callN [] (con_tagR R nm q hf (by omega)) rfl ⟨(sees_agg ⟨(sees_le (Le.refl _)), trivial⟩), (sees_le (Le.refl _)), (sees_le (Le.refl _)), trivial⟩ rfl) ?_
        rintro _ rfl
        refine SWl.rd rfl (Rd.move rfl) ?_
        refine SWl.rd rfl (Rd.extract rfl rfl) ?_
        refine SWl.rd rfl (Rd.extract rfl rfl) ?_
        refine SWl.rd rfl (Rd.assign rfl) ?_
        refine SWl.rd rfl (Rd.assign rfl) ?_
        refine SWl.nil ?_
        refine SN.then ?_
        refine SW.seq ?_
        refine SW.seq ?_
        refine SW.region ?_
        refine SWl.rd rfl (Rd.move rfl) ?_
        refine SWl.rd rfl (Rd.str (e := 5) rfl (by kernel_rfl) (by kernel_rfl) (by kernel_rfl) (by simp)) ?_
        refine SWl.rd rfl (Rd.move rfl) ?_
        refine SWl.rd rfl (Rd.nes (p := Acc.tagT R nm q) (q := Acc.tagT R nm q) rfl rfl) ?_
        refine SWl.rd rfl (Rd.move rfl) ?_
        refine SWl.rdg rfl rfl (by simp) rfl rfl (Rd.move rfl) ?_
        refine SWl.rdg rfl rfl (by simp) rfl rfl (Rd.move rfl) ?_
        refine SWl.rdg rfl rfl (by simp) rfl rfl (Rd.nei rfl rfl) ?_
        refine SWl.rd rfl (Rd.pickN rfl (by simp) rfl) ?_
        refine SWl.nil ?_
        refine SN.then ?_
        refine SW.condF rfl (by simp) ?_
        refine SW.skip ?_
        refine SN.then ?_
        refine SW.seq ?_
        obtain ⟨T, hT⟩ : ∃ T, T = Acc.tagT R nm q := ⟨_, rfl⟩
        obtain ⟨E, hE⟩ : ∃ E, E = Acc.tagE R nm q := ⟨_, rfl⟩
        refine SW.sub (σ' := St.ob [(1, strD nm), (2, bD q), (4, bD tg), (5, iD pr), (13, isD (.pointer (some ⟨gb, 0, none⟩))), (14, isD (.pointer (some ⟨g14, 0, none⟩))), (16, bD T), (17, iD E), (18, strD T), (19, iD E)] [.c gb [isD (.map (s.M.map Prod.fst)), isD (.slice s.n.A (Acc.nm R).length s.n.c), isD (.map (s.M.map Prod.snd))], .r s.n.F (vecT 9 1 encT s.n.A s.n.c (Acc.nm R)), .r s.F1 (mapQ (s.M.map Prod.fst) encS (Acc.nm R) (acD R)), .r s.F2 (mapQ (s.M.map Prod.snd) encSt (Acc.seats R) (seD R)), .c g14 [lsD encA R]]) (⟨⟨_, rfl, ⟨⟨_, rfl, Le.refl _⟩, ⟨⟨_, rfl, Le.refl _⟩, ⟨⟨_, rfl, Le.refl _⟩, ⟨⟨_, rfl, Le.refl _⟩, ⟨⟨_, rfl, Le.refl _⟩, ⟨⟨_, rfl, Le.refl _⟩, ⟨⟨_, rfl, (by rw [hT]; exact Le.refl _)⟩, ⟨⟨_, rfl, (by rw [hE]; exact Le.refl _)⟩, ⟨⟨_, rfl, (by rw [hT]; exact Le.refl _)⟩, ⟨⟨_, rfl, (by rw [hE]; exact Le.refl _)⟩, trivial⟩⟩⟩⟩⟩⟩⟩⟩⟩⟩⟩, [1, 2, 3, 4, 0], by decide, ⟨⟨_, rfl, LeAll.refl _⟩, ⟨⟨_, rfl, LeR.refl _⟩, ⟨⟨_, rfl, LeR.refl _⟩, ⟨⟨_, rfl, LeR.refl _⟩, ⟨⟨_, rfl, LeAll.refl _⟩, trivial⟩⟩⟩⟩⟩⟩) ?_
        refine SW.region ?_
        refine SWl.rd rfl (Rd.move rfl) ?_
        refine SWl.rd rfl (Rd.move rfl) ?_
        refine SWl.rd rfl (Rd.move rfl) ?_
        refine SWl.rd rfl (Rd.move rfl) ?_
        refine SWl.ef (Ef.callR [0, 1, 2, 3] (con_verify gb s R nm q tg hf (by omega)) rfl ⟨Le.refl _, Le.refl _, Le.refl _, Le.refl _, trivial⟩ (by decide) ⟨⟨_, rfl, LeAll.refl _⟩, ⟨⟨_, rfl, LeR.refl _⟩, ⟨⟨_, rfl, LeR.refl _⟩, ⟨⟨_, rfl, LeR.refl _⟩, trivial⟩⟩⟩⟩ (fun _ h => h) rfl) ?_
        rintro _ ⟨⟨⟩, rfl⟩
        refine SWl.rd rfl (Rd.assign rfl) ?_
        refine SWl.nil ?_
        refine SN.then ?_
        refine SW.seq ?_
        refine SW.seq ?_
        rcases Acc.ver_cases E T tg with ⟨hz, ht, hw⟩ | ⟨hz, ht, hw⟩ | ⟨hz, hw⟩
        · skip
          refine SW.sub (σ' := St.ob [(1, strD nm), (2, bD q), (4, bD tg), (5, iD pr), (13, isD (.pointer (some ⟨gb, 0, none⟩))), (14, isD (.pointer (some ⟨g14, 0, none⟩))), (16, bD T), (19, iD 0), (20, iD 0), (18, strD T)] [.c gb [isD (.map (s.M.map Prod.fst)), isD (.slice s.n.A (Acc.nm R).length s.n.c), isD (.map (s.M.map Prod.snd))], .r s.n.F (vecT 9 1 encT s.n.A s.n.c (Acc.nm R)), .r s.F1 (mapQ (s.M.map Prod.fst) encS (Acc.nm R) (acD R)), .r s.F2 (mapQ (s.M.map Prod.snd) encSt (Acc.seats R) (seD R)), .c g14 [lsD encA R]]) (⟨⟨_, rfl, ⟨⟨_, rfl, Le.refl _⟩, ⟨⟨_, rfl, Le.refl _⟩, ⟨⟨_, rfl, Le.refl _⟩, ⟨⟨_, rfl, Le.refl _⟩, ⟨⟨_, rfl, Le.refl _⟩, ⟨⟨_, rfl, Le.refl _⟩, ⟨⟨_, rfl, Le.refl _⟩, ⟨⟨_, rfl, Le.is (by rw [hz])⟩, ⟨⟨_, rfl, Le.is (by rw [← hw, hT, hE]; rfl)⟩, ⟨⟨_, rfl, Le.refl _⟩, trivial⟩⟩⟩⟩⟩⟩⟩⟩⟩⟩⟩, [1, 2, 3, 4, 0], by decide, ⟨⟨_, rfl, LeAll.refl _⟩, ⟨⟨_, rfl, LeR.refl _⟩, ⟨⟨_, rfl, LeR.refl _⟩, ⟨⟨_, rfl, LeR.refl _⟩, ⟨⟨_, rfl, LeAll.refl _⟩, trivial⟩⟩⟩⟩⟩⟩) ?_
          refine SW.region ?_
          refine SWl.rd rfl (Rd.move rfl) ?_
          refine SWl.rd rfl (Rd.nei rfl rfl) ?_
          refine SWl.rd rfl (Rd.move rfl) ?_
          refine SWl.off rfl rfl (by decide) rfl rfl ?_
          refine SWl.off rfl rfl (by decide) rfl rfl ?_
          refine SWl.off rfl rfl (by decide) rfl rfl ?_
          refine SWl.rd rfl (Rd.pickN rfl (by decide) rfl) ?_
          refine SWl.rd rfl (Rd.move rfl) ?_
          refine SWl.rdg rfl rfl (rfl) rfl rfl (Rd.move rfl) ?_
          refine SWl.rdg rfl rfl (rfl) rfl rfl (Rd.eqi rfl rfl) ?_
          refine SWl.rdg rfl rfl (rfl) rfl rfl (Rd.move rfl) ?_
          refine SWl.rdg rfl rfl (by decide) rfl rfl (Rd.move rfl) ?_
          refine SWl.rdg rfl rfl (by decide) rfl rfl (Rd.eqi rfl rfl) ?_
          refine SWl.rdg rfl rfl (by decide) rfl rfl (Rd.move rfl) ?_
          refine SWl.rdg rfl rfl (by decide) rfl rfl (Rd.str (e := 5) rfl (by kernel_rfl) (by kernel_rfl) (by kernel_rfl) (by simp)) ?_
          refine SWl.rdg rfl rfl (by decide) rfl rfl (Rd.move rfl) ?_
          refine SWl.rdg rfl rfl (by decide) rfl rfl (Rd.eqs (p := tg) (q := T) rfl rfl) ?_
          refine SWl.rdg rfl rfl (by decide) rfl rfl (Rd.neb (by kernel_rfl) rfl rfl) ?_
          refine SWl.rdg rfl rfl (rfl) rfl rfl (Rd.pickY rfl (by decide) rfl) ?_
          refine SWl.rd rfl (Rd.pickN rfl (rfl) rfl) ?_
          refine SWl.rd rfl (Rd.move rfl) ?_
          refine SWl.rdg rfl rfl (by first | (simp [ht]; done) | (simp [Ne.symm ht]; done)) rfl rfl (Rd.move rfl) ?_
          refine SWl.rdg rfl rfl (by first | (simp [ht]; done) | (simp [Ne.symm ht]; done)) rfl rfl (Rd.eqi rfl rfl) ?_
          refine SWl.rdg rfl rfl (by first | (simp [ht]; done) | (simp [Ne.symm ht]; done)) rfl rfl (Rd.move rfl) ?_
          refine SWl.rdg rfl rfl (by decide) rfl rfl (Rd.move rfl) ?_
          refine SWl.rdg rfl rfl (by decide) rfl rfl (Rd.nei rfl rfl) ?_
          refine SWl.rdg rfl rfl (by first | (simp [ht]; done) | (simp [Ne.symm ht]; done)) rfl rfl (Rd.pickY rfl (by decide) rfl) ?_
          refine SWl.rdg rfl rfl (by first | (simp [ht]; done) | (simp [Ne.symm ht]; done)) rfl rfl (Rd.move rfl) ?_
          refine SWl.off rfl rfl (by decide) rfl rfl ?_
          refine SWl.off rfl rfl (by decide) rfl rfl ?_
          refine SWl.rdg rfl rfl (by first | (simp [ht]; done) | (simp [Ne.symm ht]; done)) rfl rfl (Rd.pickN rfl (by decide) rfl) ?_
          refine SWl.rd rfl (Rd.pickN rfl (by first | (simp [ht]; done) | (simp [Ne.symm ht]; done)) rfl) ?_
          refine SWl.rd rfl (Rd.move rfl) ?_
          refine SWl.rdg rfl rfl (rfl) rfl rfl (Rd.move rfl) ?_
          refine SWl.rdg rfl rfl (rfl) rfl rfl (Rd.eqi rfl rfl) ?_
          refine SWl.rdg rfl rfl (rfl) rfl rfl (Rd.move rfl) ?_
          refine SWl.rdg rfl rfl (by decide) rfl rfl (Rd.move rfl) ?_
          refine SWl.rdg rfl rfl (by decide) rfl rfl (Rd.move rfl) ?_
          refine SWl.rdg rfl rfl (by decide) rfl rfl (Rd.move rfl) ?_
          refine SWl.rdg rfl rfl (by decide) rfl rfl (Rd.move rfl) ?_
          refine SWl.efg rfl rfl (by decide) rfl (Ef.callR [0, 1, 2, 3] (con_verify gb s R nm q T hf (by omega)) rfl ⟨Le.refl _, Le.refl _, Le.refl _, Le.refl _, trivial⟩ (by decide) ⟨⟨_, rfl, LeAll.refl _⟩, ⟨⟨_, rfl, LeR.refl _⟩, ⟨⟨_, rfl, LeR.refl _⟩, ⟨⟨_, rfl, LeR.refl _⟩, trivial⟩⟩⟩⟩ (fun _ h => h) rfl) ?_
          rintro _ ⟨⟨⟩, rfl⟩
          refine SWl.rdg rfl rfl (by decide) rfl rfl (Rd.nei rfl rfl) ?_
          refine SWl.rdg rfl rfl (rfl) rfl rfl (Rd.pickY rfl (by decide) rfl) ?_
          refine SWl.rd rfl (Rd.pickN rfl (rfl) rfl) ?_
          refine SWl.nil ?_
          refine SN.then ?_
          refine SW.condF rfl (by simp [Acc.verE, Acc.ver, ← hT, ← hE, hz]) ?_
          refine SW.skip ?_
          refine SN.then ?_
          refine SW.seq ?_
          refine SW.sub (σ' := St.ob [(1, strD nm), (5, iD pr), (13, isD (.pointer (some ⟨gb, 0, none⟩))), (14, isD (.pointer (some ⟨g14, 0, none⟩)))] [.c gb [isD (.map (s.M.map Prod.fst)), isD (.slice s.n.A (Acc.nm R).length s.n.c), isD (.map (s.M.map Prod.snd))], .r s.n.F (vecT 9 1 encT s.n.A s.n.c (Acc.nm R)), .r s.F1 (mapQ (s.M.map Prod.fst) encS (Acc.nm R) (acD R)), .r s.F2 (mapQ (s.M.map Prod.snd) encSt (Acc.seats R) (seD R)), .c g14 [lsD encA R]]) (⟨⟨_, rfl, ⟨⟨_, rfl, Le.refl _⟩, ⟨⟨_, rfl, Le.refl _⟩, ⟨⟨_, rfl, Le.refl _⟩, ⟨⟨_, rfl, Le.refl _⟩, trivial⟩⟩⟩⟩⟩, [1, 2, 3, 4, 0], by decide, ⟨⟨_, rfl, LeAll.refl _⟩, ⟨⟨_, rfl, LeR.refl _⟩, ⟨⟨_, rfl, LeR.refl _⟩, ⟨⟨_, rfl, LeR.refl _⟩, ⟨⟨_, rfl, LeAll.refl _⟩, trivial⟩⟩⟩⟩⟩⟩) ?_
          refine SW.region ?_
          refine SWl.rd rfl (Rd.move rfl) ?_
          refine SWl.rd rfl (Rd.move rfl) ?_
          refine SWl.rd rfl (Rd.move rfl) ?_
          refine SWl.ef (S := []) (Ef.callN [0, 2, 1, 3] (con_unitsA R nm pr hf) rfl ⟨(sees_box 0 rfl (by decide) ⟨(sees_mapQ 2 rfl (by decide)), (sees_vec 1 rfl (by decide)), (sees_mapQ 3 rfl (by decide)), trivial⟩), (sees_le (Le.refl _)), (sees_le (Le.refl _)), trivial⟩ rfl) ?_
          rintro _ rfl
          refine SWl.rd rfl (Rd.move rfl) ?_
          refine SWl.rd rfl (Rd.extract rfl rfl) ?_
          refine SWl.rd rfl (Rd.extract rfl rfl) ?_
          refine SWl.rd rfl (Rd.assign rfl) ?_
          refine SWl.rd rfl (Rd.assign rfl) ?_
          refine SWl.nil ?_
          refine SN.then ?_
          refine SW.seq ?_
          refine SW.region ?_
          refine SWl.rd rfl (Rd.loadA 4 1 rfl rfl (by kernel_rfl) rfl ap_nil) ?_
          refine SWl.rd rfl (Rd.move rfl) ?_
          refine SWl.ef (S := []) (Ef.callN [] (con_AtR R nm (by have := hf.len; omega)) rfl ⟨(sees_agg ⟨(sees_le (Le.refl _)), trivial⟩), (sees_le (Le.refl _)), trivial⟩ rfl) ?_
          rintro _ rfl
          refine SWl.rd rfl (Rd.assign rfl) ?_
          refine SWl.nil ?_
          refine SN.then ?_
          refine SW.seq ?_
          refine SW.seq ?_
          refine SW.sub (σ' := St.ob [(5, iD pr), (14, isD (.pointer (some ⟨g14, 0, none⟩))), (21, iD (Acc.unN R nm pr)), (22, iD (Acc.unE R nm pr)), (23, iD (Acc.atI R nm))] [.c g14 [lsD encA R]]) (⟨⟨_, rfl, ⟨⟨_, rfl, Le.refl _⟩, ⟨⟨_, rfl, Le.refl _⟩, ⟨⟨_, rfl, Le.refl _⟩, ⟨⟨_, rfl, Le.refl _⟩, ⟨⟨_, rfl, Le.refl _⟩, trivial⟩⟩⟩⟩⟩⟩, [4], by decide, ⟨⟨_, rfl, LeAll.refl _⟩, trivial⟩⟩) ?_
          refine SW.region ?_
          refine SWl.rd rfl (Rd.move rfl) ?_
          refine SWl.rd rfl (Rd.lss rfl rfl) ?_
          refine SWl.nil ?_
          refine SN.then ?_
          refine SW.cond rfl (fun hb134 => ?_) (fun hb134 => ?_)
          · have hp := of_decide_eq_true hb134
            refine SW.seq ?_
            refine SW.region ?_
            refine SWl.rd rfl (Rd.move rfl) ?_
            refine SWl.rd rfl (Rd.eqi rfl rfl) ?_
            refine SWl.rd rfl (Rd.move rfl) ?_
            refine SWl.rdg rfl rfl (by simp [Acc.unN, hp]) rfl rfl (Rd.move rfl) ?_
            refine SWl.rdg rfl rfl (by simp [Acc.unN, hp]) rfl rfl (Rd.eqi rfl rfl) ?_
            refine SWl.rd rfl (Rd.pickY rfl (by simp [Acc.unN, hp]) rfl) ?_
            refine SWl.rd rfl (Rd.move rfl) ?_
            refine SWl.efg (S := []) rfl rfl (by simp [Acc.unE, hp]) rfl (Ef.callN [] (con_known41) rfl trivial rfl) ?_
            rintro _ rfl
            refine SWl.rd rfl (Rd.pickY rfl (by simp [Acc.unE, hp]) rfl) ?_
            refine SWl.rd rfl (Rd.assign rfl) ?_
            refine SWl.nil ?_
            refine SN.then ?_
            refine SW.ret (fn := Tryd.f3) (fun _ _ h => h) (Rs.le (Rs.one rfl (ResV.tmp rfl)) ?_)
            exact le_bool_n rfl
          · have hp := of_decide_eq_false hb134
            refine SW.skip ?_
            refine SN.then ?_
            refine SW.seq ?_
            refine SW.seq ?_
            rcases Acc.at_cases R nm with ⟨he, hx⟩ | ⟨i, x, he, hi, hx⟩
            · have hg := Acc.get_no hx
              refine SW.sub (σ' := St.ob [(5, iD pr), (14, isD (.pointer (some ⟨g14, 0, none⟩))), (21, iD (Acc.unN R nm pr)), (22, iD (Acc.unE R nm pr)), (23, iD (-1))] [.c g14 [lsD encA R]]) (⟨⟨_, rfl, ⟨⟨_, rfl, Le.refl _⟩, ⟨⟨_, rfl, Le.refl _⟩, ⟨⟨_, rfl, Le.refl _⟩, ⟨⟨_, rfl, Le.refl _⟩, ⟨⟨_, rfl, Le.is (by rw [he])⟩, trivial⟩⟩⟩⟩⟩⟩, [0], by decide, ⟨⟨_, rfl, LeAll.refl _⟩, trivial⟩⟩) ?_
              refine SW.region ?_
              refine SWl.rd rfl (Rd.move rfl) ?_
              refine SWl.rd rfl (Rd.lss rfl rfl) ?_
              refine SWl.nil ?_
              refine SN.then ?_
              refine SW.condT rfl (by decide) ?_
              refine SW.seq ?_
              refine SW.region ?_
              refine SWl.rd rfl (Rd.move rfl) ?_
              refine SWl.rd rfl (Rd.eqi rfl rfl) ?_
              refine SWl.rd rfl (Rd.move rfl) ?_
              refine SWl.rdg rfl rfl (by simp [Acc.unN, hp, hg.1, Acc.zero]) rfl rfl (Rd.move rfl) ?_
              refine SWl.rdg rfl rfl (by simp [Acc.unN, hp, hg.1, Acc.zero]) rfl rfl (Rd.eqi rfl rfl) ?_
              refine SWl.rd rfl (Rd.pickY rfl (by simp [Acc.unN, hp, hg.1, Acc.zero]) rfl) ?_
              refine SWl.rd rfl (Rd.move rfl) ?_
              refine SWl.efg (S := []) rfl rfl (by simp [Acc.unE, hp, hg.2]) rfl (Ef.callN [] (con_known41) rfl trivial rfl) ?_
              rintro _ rfl
              refine SWl.rd rfl (Rd.pickY rfl (by simp [Acc.unE, hp, hg.2]) rfl) ?_
              refine SWl.rd rfl (Rd.assign rfl) ?_
              refine SWl.nil ?_
              refine SN.then ?_
              refine SW.ret (fn := Tryd.f3) (fun _ _ h => h) (Rs.le (Rs.one rfl (ResV.tmp rfl)) ?_)
              exact le_bool_n rfl
            · have hg := Acc.get_yes hx; have hil := (List.getElem?_eq_some_iff.1 hi).1; have hok := hf.oks x (Acc.find_some hx).1; have hd1 := hok.2.2.1; have hd2 := hok.2.2.2.1
              refine SW.sub (σ' := St.ob [(5, iD pr), (14, isD (.pointer (some ⟨g14, 0, none⟩))), (21, iD (Acc.unN R nm pr)), (22, iD (Acc.unE R nm pr)), (23, iD (i : Int))] [.c g14 [lsD encA R]]) (⟨⟨_, rfl, ⟨⟨_, rfl, Le.refl _⟩, ⟨⟨_, rfl, Le.refl _⟩, ⟨⟨_, rfl, Le.refl _⟩, ⟨⟨_, rfl, Le.refl _⟩, ⟨⟨_, rfl, Le.is (by rw [he])⟩, trivial⟩⟩⟩⟩⟩⟩, [0], by decide, ⟨⟨_, rfl, LeAll.refl _⟩, trivial⟩⟩) ?_
              refine SW.region ?_
              refine SWl.rd rfl (Rd.move rfl) ?_
              refine SWl.rd rfl (Rd.lss rfl rfl) ?_
              refine SWl.nil ?_
              refine SN.then ?_
              refine SW.condF rfl (by simp) ?_
              refine SW.skip ?_
              refine SN.then ?_
              refine SW.seq ?_
              refine SW.region ?_
              refine SWl.rd rfl (Rd.move rfl) ?_
              refine SWl.rd rfl (Rd.eqi rfl rfl) ?_
              refine SWl.rd rfl (Rd.move rfl) ?_
              refine SWl.rdg rfl rfl (by simp [Acc.unE, hp, hg.2]) rfl rfl (Rd.move rfl) ?_
              refine SWl.rdg rfl rfl (by simp [Acc.unE, hp, hg.2]) rfl rfl (Rd.fieldAddr (n := 0) rfl (by kernel_rfl)) ?_
              refine SWl.rdg rfl rfl (by simp [Acc.unE, hp, hg.2]) rfl rfl (Rd.loadB 0 rfl rfl rfl (by kernel_rfl) ap_nil) ?_
              refine SWl.rdg rfl rfl (by simp [Acc.unE, hp, hg.2]) rfl rfl (Rd.move rfl) ?_
              refine SWl.rdg rfl rfl (by simp [Acc.unE, hp, hg.2]) rfl rfl (Rd.idxL (e := 43) 5 rfl rfl (by kernel_rfl) (by kernel_rfl) (by omega) (by simpa using hi)) ?_
              refine SWl.rdg rfl rfl (by simp [Acc.unE, hp, hg.2]) rfl rfl (Rd.fieldR (n := 3) rfl (by kernel_rfl) (show 3 < 5 by decide)) ?_
              refine SWl.rdg rfl rfl (by simp [Acc.unE, hp, hg.2]) rfl rfl (Rd.loadR rfl rfl (by kernel_rfl) (by simp)) ?_
              refine SWl.rdg rfl rfl (by simp [Acc.unE, hp, hg.2]) rfl rfl (Rd.move rfl) ?_
              refine SWl.rdg rfl rfl (by simp [Acc.unE, hp, hg.2]) rfl rfl (Rd.quoN rfl rfl ⟨by omega, by omega, by omega⟩) ?_
              refine SWl.rdg rfl rfl (by simp [Acc.unE, hp, hg.2]) rfl rfl (Rd.eqi rfl rfl) ?_
              refine SWl.rd rfl (Rd.pickY rfl (by simp [Acc.unE, hp, hg.2]) rfl) ?_
              refine SWl.rd rfl (Rd.move rfl) ?_
              refine SWl.efg (S := []) rfl rfl (by simp [Acc.unN, hp, hg.1]) rfl (Ef.callN [] (con_known41) rfl trivial rfl) ?_
              rintro _ rfl
              refine SWl.rd rfl (Rd.pickY rfl (by simp [Acc.unN, hp, hg.1]) rfl) ?_
              refine SWl.rd rfl (Rd.assign rfl) ?_
              refine SWl.nil ?_
              refine SN.then ?_
              refine SW.ret (fn := Tryd.f3) (fun _ _ h => h) (Rs.le (Rs.one rfl (ResV.tmp rfl)) ?_)
              exact le_bool_n rfl
        · skip
          refine SW.sub (σ' := St.ob [(1, strD nm), (2, bD q), (4, bD tg), (5, iD pr), (13, isD (.pointer (some ⟨gb, 0, none⟩))), (14, isD (.pointer (some ⟨g14, 0, none⟩))), (16, bD T), (19, iD 0), (20, iD 10), (18, strD T)] [.c gb [isD (.map (s.M.map Prod.fst)), isD (.slice s.n.A (Acc.nm R).length s.n.c), isD (.map (s.M.map Prod.snd))], .r s.n.F (vecT 9 1 encT s.n.A s.n.c (Acc.nm R)), .r s.F1 (mapQ (s.M.map Prod.fst) encS (Acc.nm R) (acD R)), .r s.F2 (mapQ (s.M.map Prod.snd) encSt (Acc.seats R) (seD R)), .c g14 [lsD encA R]]) (⟨⟨_, rfl, ⟨⟨_, rfl, Le.refl _⟩, ⟨⟨_, rfl, Le.refl _⟩, ⟨⟨_, rfl, Le.refl _⟩, ⟨⟨_, rfl, Le.refl _⟩, ⟨⟨_, rfl, Le.refl _⟩, ⟨⟨_, rfl, Le.refl _⟩, ⟨⟨_, rfl, Le.refl _⟩, ⟨⟨_, rfl, Le.is (by rw [hz])⟩, ⟨⟨_, rfl, Le.is (by rw [← hw, hT, hE]; rfl)⟩, ⟨⟨_, rfl, Le.refl _⟩, trivial⟩⟩⟩⟩⟩⟩⟩⟩⟩⟩⟩, [1, 2, 3, 4, 0], by decide, ⟨⟨_, rfl, LeAll.refl _⟩, ⟨⟨_, rfl, LeR.refl _⟩, ⟨⟨_, rfl, LeR.refl _⟩, ⟨⟨_, rfl, LeR.refl _⟩, ⟨⟨_, rfl, LeAll.refl _⟩, trivial⟩⟩⟩⟩⟩⟩) ?_
          refine SW.region ?_
          refine SWl.rd rfl (Rd.move rfl) ?_
          refine SWl.rd rfl (Rd.nei rfl rfl) ?_
          refine SWl.rd rfl (Rd.move rfl) ?_
          refine SWl.off rfl rfl (by decide) rfl rfl ?_
          refine SWl.off rfl rfl (by decide) rfl rfl ?_
          refine SWl.off rfl rfl (by decide) rfl rfl ?_
          refine SWl.rd rfl (Rd.pickN rfl (by decide) rfl) ?_
          refine SWl.rd rfl (Rd.move rfl) ?_
          refine SWl.rdg rfl rfl (rfl) rfl rfl (Rd.move rfl) ?_
          refine SWl.rdg rfl rfl (rfl) rfl rfl (Rd.eqi rfl rfl) ?_
          refine SWl.rdg rfl rfl (rfl) rfl rfl (Rd.move rfl) ?_
          refine SWl.rdg rfl rfl (by decide) rfl rfl (Rd.move rfl) ?_
          refine SWl.rdg rfl rfl (by decide) rfl rfl (Rd.eqi rfl rfl) ?_
          refine SWl.rdg rfl rfl (by decide) rfl rfl (Rd.move rfl) ?_
          refine SWl.rdg rfl rfl (by decide) rfl rfl (Rd.str (e := 5) rfl (by kernel_rfl) (by kernel_rfl) (by kernel_rfl) (by simp)) ?_
          refine SWl.rdg rfl rfl (by decide) rfl rfl (Rd.move rfl) ?_
          refine SWl.rdg rfl rfl (by decide) rfl rfl (Rd.eqs (p := tg) (q := T) rfl rfl) ?_
          refine SWl.rdg rfl rfl (by decide) rfl rfl (Rd.neb (by kernel_rfl) rfl rfl) ?_
          refine SWl.rdg rfl rfl (rfl) rfl rfl (Rd.pickY rfl (by decide) rfl) ?_
          refine SWl.rd rfl (Rd.pickN rfl (rfl) rfl) ?_
          refine SWl.rd rfl (Rd.move rfl) ?_
          refine SWl.rdg rfl rfl (by first | (simp [ht]; done) | (simp [Ne.symm ht]; done)) rfl rfl (Rd.move rfl) ?_
          refine SWl.rdg rfl rfl (by first | (simp [ht]; done) | (simp [Ne.symm ht]; done)) rfl rfl (Rd.eqi rfl rfl) ?_
          refine SWl.rdg rfl rfl (by first | (simp [ht]; done) | (simp [Ne.symm ht]; done)) rfl rfl (Rd.move rfl) ?_
          refine SWl.rdg rfl rfl (by decide) rfl rfl (Rd.move rfl) ?_
          refine SWl.rdg rfl rfl (by decide) rfl rfl (Rd.nei rfl rfl) ?_
          refine SWl.rdg rfl rfl (by first | (simp [ht]; done) | (simp [Ne.symm ht]; done)) rfl rfl (Rd.pickY rfl (by decide) rfl) ?_
          refine SWl.rdg rfl rfl (by first | (simp [ht]; done) | (simp [Ne.symm ht]; done)) rfl rfl (Rd.move rfl) ?_
          refine SWl.rdg rfl rfl (by decide) rfl rfl (Rd.move rfl) ?_
          refine SWl.rdg rfl rfl (by decide) rfl rfl (Rd.nei rfl rfl) ?_
          refine SWl.rdg rfl rfl (by first | (simp [ht]; done) | (simp [Ne.symm ht]; done)) rfl rfl (Rd.pickY rfl (by decide) rfl) ?_
          refine SWl.rd rfl (Rd.pickN rfl (by first | (simp [ht]; done) | (simp [Ne.symm ht]; done)) rfl) ?_
          refine SWl.rd rfl (Rd.move rfl) ?_
          refine SWl.rdg rfl rfl (by decide) rfl rfl (Rd.move rfl) ?_
          refine SWl.rdg rfl rfl (by decide) rfl rfl (Rd.eqi rfl rfl) ?_
          refine SWl.rdg rfl rfl (by decide) rfl rfl (Rd.move rfl) ?_
          refine SWl.rdg rfl rfl (by decide) rfl rfl (Rd.move rfl) ?_
          refine SWl.rdg rfl rfl (by decide) rfl rfl (Rd.move rfl) ?_
          refine SWl.rdg rfl rfl (by decide) rfl rfl (Rd.move rfl) ?_
          refine SWl.rdg rfl rfl (by decide) rfl rfl (Rd.move rfl) ?_
          refine SWl.efg rfl rfl (by decide) rfl (Ef.callR [0, 1, 2, 3] (con_verify gb s R nm q T hf (by omega)) rfl ⟨Le.refl _, Le.refl _, Le.refl _, Le.refl _, trivial⟩ (by decide) ⟨⟨_, rfl, LeAll.refl _⟩, ⟨⟨_, rfl, LeR.refl _⟩, ⟨⟨_, rfl, LeR.refl _⟩, ⟨⟨_, rfl, LeR.refl _⟩, trivial⟩⟩⟩⟩ (fun _ h => h) rfl) ?_
          rintro _ ⟨⟨⟩, rfl⟩
          refine SWl.rdg rfl rfl (by decide) rfl rfl (Rd.nei rfl rfl) ?_
          refine SWl.rdg rfl rfl (by decide) rfl rfl (Rd.pickY rfl (by decide) rfl) ?_
          refine SWl.rd rfl (Rd.pickN rfl (by decide) rfl) ?_
          refine SWl.nil ?_
          refine SN.then ?_
          refine SW.condF rfl (by simp [Acc.verE, Acc.ver, ← hT, ← hE, hz]) ?_
          refine SW.skip ?_
          refine SN.then ?_
          refine SW.seq ?_
          refine SW.sub (σ' := St.ob [(1, strD nm), (5, iD pr), (13, isD (.pointer (some ⟨gb, 0, none⟩))), (14, isD (.pointer (some ⟨g14, 0, none⟩)))] [.c gb [isD (.map (s.M.map Prod.fst)), isD (.slice s.n.A (Acc.nm R).length s.n.c), isD (.map (s.M.map Prod.snd))], .r s.n.F (vecT 9 1 encT s.n.A s.n.c (Acc.nm R)), .r s.F1 (mapQ (s.M.map Prod.fst) encS (Acc.nm R) (acD R)), .r s.F2 (mapQ (s.M.map Prod.snd) encSt (Acc.seats R) (seD R)), .c g14 [lsD encA R]]) (⟨⟨_, rfl, ⟨⟨_, rfl, Le.refl _⟩, ⟨⟨_, rfl, Le.refl _⟩, ⟨⟨_, rfl, Le.refl _⟩, ⟨⟨_, rfl, Le.refl _⟩, trivial⟩⟩⟩⟩⟩, [1, 2, 3, 4, 0], by decide, ⟨⟨_, rfl, LeAll.refl _⟩, ⟨⟨_, rfl, LeR.refl _⟩, ⟨⟨_, rfl, LeR.refl _⟩, ⟨⟨_, rfl, LeR.refl _⟩, ⟨⟨_, rfl, LeAll.refl _⟩, trivial⟩⟩⟩⟩⟩⟩) ?_
          refine SW.region ?_
          refine SWl.rd rfl (Rd.move rfl) ?_
          refine SWl.rd rfl (Rd.move rfl) ?_
          refine SWl.rd rfl (Rd.move rfl) ?_
          refine SWl.ef (S := []) (Ef.callN [0, 2, 1, 3] (con_unitsA R nm pr hf) rfl ⟨(sees_box 0 rfl (by decide) ⟨(sees_mapQ 2 rfl (by decide)), (sees_vec 1 rfl (by decide)), (sees_mapQ 3 rfl (by decide)), trivial⟩), (sees_le (Le.refl _)), (sees_le (Le.refl _)), trivial⟩ rfl) ?_
          rintro _ rfl
          refine SWl.rd rfl (Rd.move rfl) ?_
          refine SWl.rd rfl (Rd.extract rfl rfl) ?_
          refine SWl.rd rfl (Rd.extract rfl rfl) ?_
          refine SWl.rd rfl (Rd.assign rfl) ?_
          refine SWl.rd rfl (Rd.assign rfl) ?_
          refine SWl.nil ?_
          refine SN.then ?_
          refine SW.seq ?_
          refine SW.region ?_
          refine SWl.rd rfl (Rd.loadA 4 1 rfl rfl (by kernel_rfl) rfl ap_nil) ?_
          refine SWl.rd rfl (Rd.move rfl) ?_
          refine SWl.ef (S := []) (Ef.callN [] (con_AtR R nm (by have := hf.len; omega)) rfl ⟨(sees_agg ⟨(sees_le (Le.refl _)), trivial⟩), (sees_le (Le.refl _)), trivial⟩ rfl) ?_
          rintro _ rfl
          refine SWl.rd rfl (Rd.assign rfl) ?_
          refine SWl.nil ?_
          refine SN.then ?_
          refine SW.seq ?_
          refine SW.seq ?_
          refine SW.sub (σ' := St.ob [(5, iD pr), (14, isD (.pointer (some ⟨g14, 0, none⟩))), (21, iD (Acc.unN R nm pr)), (22, iD (Acc.unE R nm pr)), (23, iD (Acc.atI R nm))] [.c g14 [lsD encA R]]) (⟨⟨_, rfl, ⟨⟨_, rfl, Le.refl _⟩, ⟨⟨_, rfl, Le.refl _⟩, ⟨⟨_, rfl, Le.refl _⟩, ⟨⟨_, rfl, Le.refl _⟩, ⟨⟨_, rfl, Le.refl _⟩, trivial⟩⟩⟩⟩⟩⟩, [4], by decide, ⟨⟨_, rfl, LeAll.refl _⟩, trivial⟩⟩) ?_
          refine SW.region ?_
          refine SWl.rd rfl (Rd.move rfl) ?_
          refine SWl.rd rfl (Rd.lss rfl rfl) ?_
          refine SWl.nil ?_
          refine SN.then ?_
          refine SW.cond rfl (fun hb134 => ?_) (fun hb134 => ?_)
          · have hp := of_decide_eq_true hb134
            refine SW.seq ?_
            refine SW.region ?_
            refine SWl.rd rfl (Rd.move rfl) ?_
            refine SWl.rd rfl (Rd.eqi rfl rfl) ?_
            refine SWl.rd rfl (Rd.move rfl) ?_
            refine SWl.rdg rfl rfl (by simp [Acc.unN, hp]) rfl rfl (Rd.move rfl) ?_
            refine SWl.rdg rfl rfl (by simp [Acc.unN, hp]) rfl rfl (Rd.eqi rfl rfl) ?_
            refine SWl.rd rfl (Rd.pickY rfl (by simp [Acc.unN, hp]) rfl) ?_
            refine SWl.rd rfl (Rd.move rfl) ?_
            refine SWl.efg (S := []) rfl rfl (by simp [Acc.unE, hp]) rfl (Ef.callN [] (con_known41) rfl trivial rfl) ?_
            rintro _ rfl
            refine SWl.rd rfl (Rd.pickY rfl (by simp [Acc.unE, hp]) rfl) ?_
            refine SWl.rd rfl (Rd.assign rfl) ?_
            refine SWl.nil ?_
            refine SN.then ?_
            refine SW.ret (fn := Tryd.f3) (fun _ _ h => h) (Rs.le (Rs.one rfl (ResV.tmp rfl)) ?_)
            exact le_bool_n rfl
          · have hp := of_decide_eq_false hb134
            refine SW.skip ?_
            refine SN.then ?_
            refine SW.seq ?_
            refine SW.seq ?_
            rcases Acc.at_cases R nm with ⟨he, hx⟩ | ⟨i, x, he, hi, hx⟩
            · have hg := Acc.get_no hx
              refine SW.sub (σ' := St.ob [(5, iD pr), (14, isD (.pointer (some ⟨g14, 0, none⟩))), (21, iD (Acc.unN R nm pr)), (22, iD (Acc.unE R nm pr)), (23, iD (-1))] [.c g14 [lsD encA R]]) (⟨⟨_, rfl, ⟨⟨_, rfl, Le.refl _⟩, ⟨⟨_, rfl, Le.refl _⟩, ⟨⟨_, rfl, Le.refl _⟩, ⟨⟨_, rfl, Le.refl _⟩, ⟨⟨_, rfl, Le.is (by rw [he])⟩, trivial⟩⟩⟩⟩⟩⟩, [0], by decide, ⟨⟨_, rfl, LeAll.refl _⟩, trivial⟩⟩) ?_
              refine SW.region ?_
              refine SWl.rd rfl (Rd.move rfl) ?_
              refine SWl.rd rfl (Rd.lss rfl rfl) ?_
              refine SWl.nil ?_
              refine SN.then ?_
              refine SW.condT rfl (by decide) ?_
              refine SW.seq ?_
              refine SW.region ?_
              refine SWl.rd rfl (Rd.move rfl) ?_
              refine SWl.rd rfl (Rd.eqi rfl rfl) ?_
              refine SWl.rd rfl (Rd.move rfl) ?_
              refine SWl.rdg rfl rfl (by simp [Acc.unN, hp, hg.1, Acc.zero]) rfl rfl (Rd.move rfl) ?_
              refine SWl.rdg rfl rfl (by simp [Acc.unN, hp, hg.1, Acc.zero]) rfl rfl (Rd.eqi rfl rfl) ?_
              refine SWl.rd rfl (Rd.pickY rfl (by simp [Acc.unN, hp, hg.1, Acc.zero]) rfl) ?_
              refine SWl.rd rfl (Rd.move rfl) ?_
              refine SWl.efg (S := []) rfl rfl (by simp [Acc.unE, hp, hg.2]) rfl (Ef.callN [] (con_known41) rfl trivial rfl) ?_
              rintro _ rfl
              refine SWl.rd rfl (Rd.pickY rfl (by simp [Acc.unE, hp, hg.2]) rfl) ?_
              refine SWl.rd rfl (Rd.assign rfl) ?_
              refine SWl.nil ?_
              refine SN.then ?_
              refine SW.ret (fn := Tryd.f3) (fun _ _ h => h) (Rs.le (Rs.one rfl (ResV.tmp rfl)) ?_)
              exact le_bool_n rfl
            · have hg := Acc.get_yes hx; have hil := (List.getElem?_eq_some_iff.1 hi).1; have hok := hf.oks x (Acc.find_some hx).1; have hd1 := hok.2.2.1; have hd2 := hok.2.2.2.1
              refine SW.sub (σ' := St.ob [(5, iD pr), (14, isD (.pointer (some ⟨g14, 0, none⟩))), (21, iD (Acc.unN R nm pr)), (22, iD (Acc.unE R nm pr)), (23, iD (i : Int))] [.c g14 [lsD encA R]]) (⟨⟨_, rfl, ⟨⟨_, rfl, Le.refl _⟩, ⟨⟨_, rfl, Le.refl _⟩, ⟨⟨_, rfl, Le.refl _⟩, ⟨⟨_, rfl, Le.refl _⟩, ⟨⟨_, rfl, Le.is (by rw [he])⟩, trivial⟩⟩⟩⟩⟩⟩, [0], by decide, ⟨⟨_, rfl, LeAll.refl _⟩, trivial⟩⟩) ?_
              refine SW.region ?_
              refine SWl.rd rfl (Rd.move rfl) ?_
              refine SWl.rd rfl (Rd.lss rfl rfl) ?_
              refine SWl.nil ?_
              refine SN.then ?_
              refine SW.condF rfl (by simp) ?_
              refine SW.skip ?_
              refine SN.then ?_
              refine SW.seq ?_
              refine SW.region ?_
              refine SWl.rd rfl (Rd.move rfl) ?_
              refine SWl.rd rfl (Rd.eqi rfl rfl) ?_
              refine SWl.rd rfl (Rd.move rfl) ?_
              refine SWl.rdg rfl rfl (by simp [Acc.unE, hp, hg.2]) rfl rfl (Rd.move rfl) ?_
              refine SWl.rdg rfl rfl (by simp [Acc.unE, hp, hg.2]) rfl rfl (Rd.fieldAddr (n := 0) rfl (by kernel_rfl)) ?_
              refine SWl.rdg rfl rfl (by simp [Acc.unE, hp, hg.2]) rfl rfl (Rd.loadB 0 rfl rfl rfl (by kernel_rfl) ap_nil) ?_
              refine SWl.rdg rfl rfl (by simp [Acc.unE, hp, hg.2]) rfl rfl (Rd.move rfl) ?_
              refine SWl.rdg rfl rfl (by simp [Acc.unE, hp, hg.2]) rfl rfl (Rd.idxL (e := 43) 5 rfl rfl (by kernel_rfl) (by kernel_rfl) (by omega) (by simpa using hi)) ?_
              refine SWl.rdg rfl rfl (by simp [Acc.unE, hp, hg.2]) rfl rfl (Rd.fieldR (n := 3) rfl (by kernel_rfl) (show 3 < 5 by decide)) ?_
              refine SWl.rdg rfl rfl (by simp [Acc.unE, hp, hg.2]) rfl rfl (Rd.loadR rfl rfl (by kernel_rfl) (by simp)) ?_
              refine SWl.rdg rfl rfl (by simp [Acc.unE, hp, hg.2]) rfl rfl (Rd.move rfl) ?_
              refine SWl.rdg rfl rfl (by simp [Acc.unE, hp, hg.2]) rfl rfl (Rd.quoN rfl rfl ⟨by omega, by omega, by omega⟩) ?_
              refine SWl.rdg rfl rfl (by simp [Acc.unE, hp, hg.2]) rfl rfl (Rd.eqi rfl rfl) ?_
              refine SWl.rd rfl (Rd.pickY rfl (by simp [Acc.unE, hp, hg.2]) rfl) ?_
              refine SWl.rd rfl (Rd.move rfl) ?_
              refine SWl.efg (S := []) rfl rfl (by simp [Acc.unN, hp, hg.1]) rfl (Ef.callN [] (con_known41) rfl trivial rfl) ?_
              rintro _ rfl
              refine SWl.rd rfl (Rd.pickY rfl (by simp [Acc.unN, hp, hg.1]) rfl) ?_
              refine SWl.rd rfl (Rd.assign rfl) ?_
              refine SWl.nil ?_
              refine SN.then ?_
              refine SW.ret (fn := Tryd.f3) (fun _ _ h => h) (Rs.le (Rs.one rfl (ResV.tmp rfl)) ?_)
              exact le_bool_n rfl
        · skip
          refine SW.sub (σ' := St.ob [(1, strD nm), (2, bD q), (4, bD tg), (5, iD pr), (13, isD (.pointer (some ⟨gb, 0, none⟩))), (14, isD (.pointer (some ⟨g14, 0, none⟩))), (16, bD T), (19, iD E), (20, iD E), (18, strD T)] [.c gb [isD (.map (s.M.map Prod.fst)), isD (.slice s.n.A (Acc.nm R).length s.n.c), isD (.map (s.M.map Prod.snd))], .r s.n.F (vecT 9 1 encT s.n.A s.n.c (Acc.nm R)), .r s.F1 (mapQ (s.M.map Prod.fst) encS (Acc.nm R) (acD R)), .r s.F2 (mapQ (s.M.map Prod.snd) encSt (Acc.seats R) (seD R)), .c g14 [lsD encA R]]) (⟨⟨_, rfl, ⟨⟨_, rfl, Le.refl _⟩, ⟨⟨_, rfl, Le.refl _⟩, ⟨⟨_, rfl, Le.refl _⟩, ⟨⟨_, rfl, Le.refl _⟩, ⟨⟨_, rfl, Le.refl _⟩, ⟨⟨_, rfl, Le.refl _⟩, ⟨⟨_, rfl, Le.refl _⟩, ⟨⟨_, rfl, Le.is (by rfl)⟩, ⟨⟨_, rfl, Le.is (by rw [← hw, hT, hE]; rfl)⟩, ⟨⟨_, rfl, Le.refl _⟩, trivial⟩⟩⟩⟩⟩⟩⟩⟩⟩⟩⟩, [1, 2, 3, 4, 0], by decide, ⟨⟨_, rfl, LeAll.refl _⟩, ⟨⟨_, rfl, LeR.refl _⟩, ⟨⟨_, rfl, LeR.refl _⟩, ⟨⟨_, rfl, LeR.refl _⟩, ⟨⟨_, rfl, LeAll.refl _⟩, trivial⟩⟩⟩⟩⟩⟩) ?_
          refine SW.region ?_
          refine SWl.rd rfl (Rd.move rfl) ?_
          refine SWl.rd rfl (Rd.nei rfl rfl) ?_
          refine SWl.rd rfl (Rd.move rfl) ?_
          refine SWl.rdg rfl rfl (by simp [hz]) rfl rfl (Rd.move rfl) ?_
          refine SWl.rdg rfl rfl (by simp [hz]) rfl rfl (Rd.move rfl) ?_
          refine SWl.rdg rfl rfl (by simp [hz]) rfl rfl (Rd.nei rfl rfl) ?_
          refine SWl.rd rfl (Rd.pickY rfl (by simp [hz]) rfl) ?_
          refine SWl.rd rfl (Rd.move rfl) ?_
          refine SWl.rdg rfl rfl (by simp) rfl rfl (Rd.move rfl) ?_
          refine SWl.rdg rfl rfl (by simp) rfl rfl (Rd.eqi rfl rfl) ?_
          refine SWl.rdg rfl rfl (by simp) rfl rfl (Rd.move rfl) ?_
          refine SWl.off rfl rfl (by simp [hz]) rfl rfl ?_
          refine SWl.off rfl rfl (by simp [hz]) rfl rfl ?_
          refine SWl.off rfl rfl (by simp [hz]) rfl rfl ?_
          refine SWl.off rfl rfl (by simp [hz]) rfl rfl ?_
          refine SWl.off rfl rfl (by simp [hz]) rfl rfl ?_
          refine SWl.off rfl rfl (by simp [hz]) rfl rfl ?_
          refine SWl.off rfl rfl (by simp [hz]) rfl rfl ?_
          refine SWl.rdg rfl rfl (by simp) rfl rfl (Rd.pickN rfl (by simp [hz]) rfl) ?_
          refine SWl.rd rfl (Rd.pickN rfl (by simp) rfl) ?_
          refine SWl.rd rfl (Rd.move rfl) ?_
          refine SWl.rdg rfl rfl (rfl) rfl rfl (Rd.move rfl) ?_
          refine SWl.rdg rfl rfl (rfl) rfl rfl (Rd.eqi rfl rfl) ?_
          refine SWl.rdg rfl rfl (rfl) rfl rfl (Rd.move rfl) ?_
          refine SWl.off rfl rfl (by simp [hz]) rfl rfl ?_
          refine SWl.off rfl rfl (by simp [hz]) rfl rfl ?_
          refine SWl.rdg rfl rfl (rfl) rfl rfl (Rd.pickN rfl (by simp [hz]) rfl) ?_
          refine SWl.rdg rfl rfl (rfl) rfl rfl (Rd.move rfl) ?_
          refine SWl.off rfl rfl (rfl) rfl rfl ?_
          refine SWl.off rfl rfl (rfl) rfl rfl ?_
          refine SWl.rdg rfl rfl (rfl) rfl rfl (Rd.pickN rfl (rfl) rfl) ?_
          refine SWl.rd rfl (Rd.pickN rfl (rfl) rfl) ?_
          refine SWl.rd rfl (Rd.move rfl) ?_
          refine SWl.rdg rfl rfl (rfl) rfl rfl (Rd.move rfl) ?_
          refine SWl.rdg rfl rfl (rfl) rfl rfl (Rd.eqi rfl rfl) ?_
          refine SWl.rdg rfl rfl (rfl) rfl rfl (Rd.move rfl) ?_
          refine SWl.off rfl rfl (by simp [hz]) rfl rfl ?_
          refine SWl.off rfl rfl (by simp [hz]) rfl rfl ?_
          refine SWl.off rfl rfl (by simp [hz]) rfl rfl ?_
          refine SWl.off rfl rfl (by simp [hz]) rfl rfl ?_
          refine SWl.off rfl rfl (by simp [hz]) rfl rfl ?_
          refine SWl.off rfl rfl (by simp [hz]) rfl rfl ?_
          refine SWl.rdg rfl rfl (rfl) rfl rfl (Rd.pickN rfl (by simp [hz]) rfl) ?_
          refine SWl.rd rfl (Rd.pickN rfl (rfl) rfl) ?_
          refine SWl.nil ?_
          refine SN.then ?_
          refine SW.condF rfl (rfl) ?_
          refine SW.skip ?_
          refine SN.then ?_
          refine SW.seq ?_
          refine SW.sub (σ' := St.ob [(1, strD nm), (5, iD pr), (13, isD (.pointer (some ⟨gb, 0, none⟩))), (14, isD (.pointer (some ⟨g14, 0, none⟩)))] [.c gb [isD (.map (s.M.map Prod.fst)), isD (.slice s.n.A (Acc.nm R).length s.n.c), isD (.map (s.M.map Prod.snd))], .r s.n.F (vecT 9 1 encT s.n.A s.n.c (Acc.nm R)), .r s.F1 (mapQ (s.M.map Prod.fst) encS (Acc.nm R) (acD R)), .r s.F2 (mapQ (s.M.map Prod.snd) encSt (Acc.seats R) (seD R)), .c g14 [lsD encA R]]) (⟨⟨_, rfl, ⟨⟨_, rfl, Le.refl _⟩, ⟨⟨_, rfl, Le.refl _⟩, ⟨⟨_, rfl, Le.refl _⟩, ⟨⟨_, rfl, Le.refl _⟩, trivial⟩⟩⟩⟩⟩, [0, 1, 2, 3, 4], by decide, ⟨⟨_, rfl, LeAll.refl _⟩, ⟨⟨_, rfl, LeR.refl _⟩, ⟨⟨_, rfl, LeR.refl _⟩, ⟨⟨_, rfl, LeR.refl _⟩, ⟨⟨_, rfl, LeAll.refl _⟩, trivial⟩⟩⟩⟩⟩⟩) ?_
          refine SW.region ?_
          refine SWl.rd rfl (Rd.move rfl) ?_
          refine SWl.rd rfl (Rd.move rfl) ?_
          refine SWl.rd rfl (Rd.move rfl) ?_
          refine SWl.ef (S := []) (Ef.callN [0, 2, 1, 3] (con_unitsA R nm pr hf) rfl ⟨(sees_box 0 rfl (by decide) ⟨(sees_mapQ 2 rfl (by decide)), (sees_vec 1 rfl (by decide)), (sees_mapQ 3 rfl (by decide)), trivial⟩), (sees_le (Le.refl _)), (sees_le (Le.refl _)), trivial⟩ rfl) ?_
          rintro _ rfl
          refine SWl.rd rfl (Rd.move rfl) ?_
          refine SWl.rd rfl (Rd.extract rfl rfl) ?_
          refine SWl.rd rfl (Rd.extract rfl rfl) ?_
          refine SWl.rd rfl (Rd.assign rfl) ?_
          refine SWl.rd rfl (Rd.assign rfl) ?_
          refine SWl.nil ?_
          refine SN.then ?_
          refine SW.seq ?_
          refine SW.region ?_
          refine SWl.rd rfl (Rd.loadA 4 1 rfl rfl (by kernel_rfl) rfl ap_nil) ?_
          refine SWl.rd rfl (Rd.move rfl) ?_
          refine SWl.ef (S := []) (Ef.callN [] (con_AtR R nm (by have := hf.len; omega)) rfl ⟨(sees_agg ⟨(sees_le (Le.refl _)), trivial⟩), (sees_le (Le.refl _)), trivial⟩ rfl) ?_
          rintro _ rfl
          refine SWl.rd rfl (Rd.assign rfl) ?_
          refine SWl.nil ?_
          refine SN.then ?_
          refine SW.seq ?_
          refine SW.seq ?_
          refine SW.sub (σ' := St.ob [(5, iD pr), (14, isD (.pointer (some ⟨g14, 0, none⟩))), (21, iD (Acc.unN R nm pr)), (22, iD (Acc.unE R nm pr)), (23, iD (Acc.atI R nm))] [.c g14 [lsD encA R]]) (⟨⟨_, rfl, ⟨⟨_, rfl, Le.refl _⟩, ⟨⟨_, rfl, Le.refl _⟩, ⟨⟨_, rfl, Le.refl _⟩, ⟨⟨_, rfl, Le.refl _⟩, ⟨⟨_, rfl, Le.refl _⟩, trivial⟩⟩⟩⟩⟩⟩, [4], by decide, ⟨⟨_, rfl, LeAll.refl _⟩, trivial⟩⟩) ?_
          refine SW.region ?_
          refine SWl.rd rfl (Rd.move rfl) ?_
          refine SWl.rd rfl (Rd.lss rfl rfl) ?_
          refine SWl.nil ?_
          refine SN.then ?_
          refine SW.cond rfl (fun hb134 => ?_) (fun hb134 => ?_)
          · have hp := of_decide_eq_true hb134
            refine SW.seq ?_
            refine SW.region ?_
            refine SWl.rd rfl (Rd.move rfl) ?_
            refine SWl.rd rfl (Rd.eqi rfl rfl) ?_
            refine SWl.rd rfl (Rd.move rfl) ?_
            refine SWl.rdg rfl rfl (by simp [Acc.unN, hp]) rfl rfl (Rd.move rfl) ?_
            refine SWl.rdg rfl rfl (by simp [Acc.unN, hp]) rfl rfl (Rd.eqi rfl rfl) ?_
            refine SWl.rd rfl (Rd.pickY rfl (by simp [Acc.unN, hp]) rfl) ?_
            refine SWl.rd rfl (Rd.move rfl) ?_
            refine SWl.efg (S := []) rfl rfl (by simp [Acc.unE, hp]) rfl (Ef.callN [] (con_known41) rfl trivial rfl) ?_
            rintro _ rfl
            refine SWl.rd rfl (Rd.pickY rfl (by simp [Acc.unE, hp]) rfl) ?_
            refine SWl.rd rfl (Rd.assign rfl) ?_
            refine SWl.nil ?_
            refine SN.then ?_
            refine SW.ret (fn := Tryd.f3) (fun _ _ h => h) (Rs.le (Rs.one rfl (ResV.tmp rfl)) ?_)
            exact le_bool_n rfl
          · have hp := of_decide_eq_false hb134
            refine SW.skip ?_
            refine SN.then ?_
            refine SW.seq ?_
            refine SW.seq ?_
            rcases Acc.at_cases R nm with ⟨he, hx⟩ | ⟨i, x, he, hi, hx⟩
            · have hg := Acc.get_no hx
              refine SW.sub (σ' := St.ob [(5, iD pr), (14, isD (.pointer (some ⟨g14, 0, none⟩))), (21, iD (Acc.unN R nm pr)), (22, iD (Acc.unE R nm pr)), (23, iD (-1))] [.c g14 [lsD encA R]]) (⟨⟨_, rfl, ⟨⟨_, rfl, Le.refl _⟩, ⟨⟨_, rfl, Le.refl _⟩, ⟨⟨_, rfl, Le.refl _⟩, ⟨⟨_, rfl, Le.refl _⟩, ⟨⟨_, rfl, Le.is (by rw [he])⟩, trivial⟩⟩⟩⟩⟩⟩, [0], by decide, ⟨⟨_, rfl, LeAll.refl _⟩, trivial⟩⟩) ?_
              refine SW.region ?_
              refine SWl.rd rfl (Rd.move rfl) ?_
              refine SWl.rd rfl (Rd.lss rfl rfl) ?_
              refine SWl.nil ?_
              refine SN.then ?_
              refine SW.condT rfl (by decide) ?_
              refine SW.seq ?_
              refine SW.region ?_
              refine SWl.rd rfl (Rd.move rfl) ?_
              refine SWl.rd rfl (Rd.eqi rfl rfl) ?_
              refine SWl.rd rfl (Rd.move rfl) ?_
              refine SWl.rdg rfl rfl (by simp [Acc.unN, hp, hg.1, Acc.zero]) rfl rfl (Rd.move rfl) ?_
              refine SWl.rdg rfl rfl (by simp [Acc.unN, hp, hg.1, Acc.zero]) rfl rfl (Rd.eqi rfl rfl) ?_
              refine SWl.rd rfl (Rd.pickY rfl (by simp [Acc.unN, hp, hg.1, Acc.zero]) rfl) ?_
              refine SWl.rd rfl (Rd.move rfl) ?_
              refine SWl.efg (S := []) rfl rfl (by simp [Acc.unE, hp, hg.2]) rfl (Ef.callN [] (con_known41) rfl trivial rfl) ?_
              rintro _ rfl
              refine SWl.rd rfl (Rd.pickY rfl (by simp [Acc.unE, hp, hg.2]) rfl) ?_
              refine SWl.rd rfl (Rd.assign rfl) ?_
              refine SWl.nil ?_
              refine SN.then ?_
              refine SW.ret (fn := Tryd.f3) (fun _ _ h => h) (Rs.le (Rs.one rfl (ResV.tmp rfl)) ?_)
              exact le_bool_n rfl
            · have hg := Acc.get_yes hx; have hil := (List.getElem?_eq_some_iff.1 hi).1; have hok := hf.oks x (Acc.find_some hx).1; have hd1 := hok.2.2.1; have hd2 := hok.2.2.2.1
              refine SW.sub (σ' := St.ob [(5, iD pr), (14, isD (.pointer (some ⟨g14, 0, none⟩))), (21, iD (Acc.unN R nm pr)), (22, iD (Acc.unE R nm pr)), (23, iD (i : Int))] [.c g14 [lsD encA R]]) (⟨⟨_, rfl, ⟨⟨_, rfl, Le.refl _⟩, ⟨⟨_, rfl, Le.refl _⟩, ⟨⟨_, rfl, Le.refl _⟩, ⟨⟨_, rfl, Le.refl _⟩, ⟨⟨_, rfl, Le.is (by rw [he])⟩, trivial⟩⟩⟩⟩⟩⟩, [0], by decide, ⟨⟨_, rfl, LeAll.refl _⟩, trivial⟩⟩) ?_
              refine SW.region ?_
              refine SWl.rd rfl (Rd.move rfl) ?_
              refine SWl.rd rfl (Rd.lss rfl rfl) ?_
              refine SWl.nil ?_
              refine SN.then ?_
              refine SW.condF rfl (by simp) ?_
              refine SW.skip ?_
              refine SN.then ?_
              refine SW.seq ?_
              refine SW.region ?_
              refine SWl.rd rfl (Rd.move rfl) ?_
              refine SWl.rd rfl (Rd.eqi rfl rfl) ?_
              refine SWl.rd rfl (Rd.move rfl) ?_
              refine SWl.rdg rfl rfl (by simp [Acc.unE, hp, hg.2]) rfl rfl (Rd.move rfl) ?_
              refine SWl.rdg rfl rfl (by simp [Acc.unE, hp, hg.2]) rfl rfl (Rd.fieldAddr (n := 0) rfl (by kernel_rfl)) ?_
              refine SWl.rdg rfl rfl (by simp [Acc.unE, hp, hg.2]) rfl rfl (Rd.loadB 0 rfl rfl rfl (by kernel_rfl) ap_nil) ?_
              refine SWl.rdg rfl rfl (by simp [Acc.unE, hp, hg.2]) rfl rfl (Rd.move rfl) ?_
              refine SWl.rdg rfl rfl (by simp [Acc.unE, hp, hg.2]) rfl rfl (Rd.idxL (e := 43) 5 rfl rfl (by kernel_rfl) (by kernel_rfl) (by omega) (by simpa using hi)) ?_
              refine SWl.rdg rfl rfl (by simp [Acc.unE, hp, hg.2]) rfl rfl (Rd.fieldR (n := 3) rfl (by kernel_rfl) (show 3 < 5 by decide)) ?_
              refine SWl.rdg rfl rfl (by simp [Acc.unE, hp, hg.2]) rfl rfl (Rd.loadR rfl rfl (by kernel_rfl) (by simp)) ?_
              refine SWl.rdg rfl rfl (by simp [Acc.unE, hp, hg.2]) rfl rfl (Rd.move rfl) ?_
              refine SWl.rdg rfl rfl (by simp [Acc.unE, hp, hg.2]) rfl rfl (Rd.quoN rfl rfl ⟨by omega, by omega, by omega⟩) ?_
              refine SWl.rdg rfl rfl (by simp [Acc.unE, hp, hg.2]) rfl rfl (Rd.eqi rfl rfl) ?_
              refine SWl.rd rfl (Rd.pickY rfl (by simp [Acc.unE, hp, hg.2]) rfl) ?_
              refine SWl.rd rfl (Rd.move rfl) ?_
              refine SWl.efg (S := []) rfl rfl (by simp [Acc.unN, hp, hg.1]) rfl (Ef.callN [] (con_known41) rfl trivial rfl) ?_
              rintro _ rfl
              refine SWl.rd rfl (Rd.pickY rfl (by simp [Acc.unN, hp, hg.1]) rfl) ?_
              refine SWl.rd rfl (Rd.assign rfl) ?_
              refine SWl.nil ?_
              refine SN.then ?_
              refine SW.ret (fn := Tryd.f3) (fun _ _ h => h) (Rs.le (Rs.one rfl (ResV.tmp rfl)) ?_)
              exact le_bool_n rfl
end Sx
end Go.Proofs.YtgcnpnbgjejkaaaDoor
