/-
  LEDGERS: the reference, paths read.
-/
import Derived.Test.YtonjpfpdpfonnaaDoorL22
namespace Go.Proofs.YtonjpfpdpfonnaaDoor
open Go.RowKit
namespace Sx
/-- What the reference's include returns. -/
def IncOK (i n : Nat) (d : List UInt8) (p : List (List UInt8)) (t : List UInt8 × List (List UInt8) × Bool) : Prop :=
  (Led.ver HH i n d p = if t.2.2 = true ∧ t.2.1 = [] then some t.1 else none) ∧ t.1.length ≤ 32 ∧ t.2.1.length ≤ p.length
theorem IncOK.one (i : Nat) (d : List UInt8) (p : List (List UInt8)) (hd : d.length ≤ 32) : IncOK i 1 d p (d, p, true) :=
  ⟨by rw [Led.ver_one]; simp, hd, Nat.le_refl _⟩
theorem IncOK.none {i n : Nat} (d : List UInt8) (h : 2 ≤ n) : IncOK i n d [] ([], [], false) :=
  ⟨by rw [Led.ver_step HH i d [] h]; simp, by simp, by simp⟩
theorem getLast_snoc {p : List (List UInt8)} {x : List UInt8} (hx : p[p.length - 1]? = some x) : p.getLast? = some x := by rw [List.getLast?_eq_getElem?]; exact hx
theorem take_pred (p : List (List UInt8)) : p.take (p.length - 1) = p.dropLast := by rw [List.dropLast_eq_take]
theorem IncOK.left {i n : Nat} {d x : List UInt8} {p : List (List UInt8)} {t : List UInt8 × List (List UInt8) × Bool} (h : 2 ≤ n) (hx : p[p.length - 1]? = some x) (hi : i < Led.bl n) (ht : IncOK i (Led.bl n) d (p.take (p.length - 1)) t) : IncOK i n d p (Led.join HH t.1 x, t.2.1, t.2.2) := by
  obtain ⟨h1, h2, h3⟩ := ht
  rw [take_pred] at h1 h3
  refine ⟨?_, by simp, by simp at h3; simp; omega⟩
  rw [Led.ver_step HH i d p h, getLast_snoc hx]
  simp only
  rw [if_pos hi, h1]
  split <;> rfl
theorem IncOK.right {i n : Nat} {d x : List UInt8} {p : List (List UInt8)} {t : List UInt8 × List (List UInt8) × Bool} (h : 2 ≤ n) (hx : p[p.length - 1]? = some x) (hi : ¬ i < Led.bl n) (ht : IncOK (i - Led.bl n) (n - Led.bl n) d (p.take (p.length - 1)) t) : IncOK i n d p (Led.join HH x t.1, t.2.1, t.2.2) := by
  obtain ⟨h1, h2, h3⟩ := ht
  rw [take_pred] at h1 h3
  refine ⟨?_, by simp, by simp at h3; simp; omega⟩
  rw [Led.ver_step HH i d p h, getLast_snoc hx]
  simp only
  rw [if_neg hi, h1]
  split <;> rfl
abbrev IncR (i n : Nat) (d : List UInt8) (p : List (List UInt8)) : Prop :=
  ConR Tryd.prog 60 [] [iD (n : Int), iD (i : Int), strD d, lsD encL p] (fun _ : {t : List UInt8 × List (List UInt8) × Bool // IncOK i n d p t} => []) (fun t => tupD [strD t.1.1, lsD encL t.1.2.1, boolD t.1.2.2])
/-- What Include says. -/
def incGood (root : List UInt8) (n i : Int) (e : Led.Ent) (p : List (List UInt8)) : Prop := Led.Ent.fit e ∧ 1 ≤ n ∧ n ≤ 4096 ∧ 0 ≤ i ∧ i < n ∧ root.length = 32 ∧ ∀ d ∈ p, d.length = 32
open Classical in
noncomputable def incOut (root : List UInt8) (n i : Int) (e : Led.Ent) (p : List (List UInt8)) : Int :=
  if incGood root n i e p then (if Led.ver HH i.toNat n.toNat (Led.leaf HH e) p = some root then 0 else 10) else 2
theorem incOut_bad {root : List UInt8} {n i : Int} {e : Led.Ent} {p : List (List UInt8)} (h : ¬ incGood root n i e p) : incOut root n i e p = 2 := if_neg h
theorem incOut_yes {root : List UInt8} {n i : Int} {e : Led.Ent} {p : List (List UInt8)} (h : incGood root n i e p) (hv : Led.ver HH i.toNat n.toNat (Led.leaf HH e) p = some root) : incOut root n i e p = 0 := by
  unfold incOut; rw [if_pos h, if_pos hv]
theorem incOut_no {root : List UInt8} {n i : Int} {e : Led.Ent} {p : List (List UInt8)} (h : incGood root n i e p) (hv : ¬ Led.ver HH i.toNat n.toNat (Led.leaf HH e) p = some root) : incOut root n i e p = 10 := by
  unfold incOut; rw [if_pos h, if_neg hv]
set_option maxHeartbeats 4000000 in
set_option maxRecDepth 100000 in
theorem con_joinS (a b : List UInt8) (ha : a.length ≤ 1000) (hb : b.length ≤ 1000) : ConN Tryd.prog 46 [strD a, strD b] (strD (Led.join HH a b)) := by
  refine con_ofN Tryd.func46 (by kernel_rfl) rfl (by kernel_rfl) fun base w0 => ?_
  refine SW.seq ?_
  refine SW.region ?_
  refine SWl.rd rfl (Rd.assign rfl) ?_
  refine SWl.nil ?_
  refine SN.then ?_
  refine SW.seq ?_
  refine SW.region ?_
  refine SWl.rd rfl (Rd.move rfl) ?_
  refine SWl.rd rfl (Rd.sadd (p := [1]) rfl rfl (by simp; omega)) ?_
  refine SWl.rd rfl (Rd.move rfl) ?_
  refine SWl.rd rfl (Rd.sadd rfl rfl (by simp; omega)) ?_
  refine SWl.ef (S := []) (Ef.bytes (e := 5) rfl (by kernel_rfl) (by kernel_rfl) (by kernel_rfl) rfl) ?_
  rintro _ rfl
  refine SWl.ef (S := []) (Ef.callN [] (con_sum43 _ (by simp; omega)) rfl ⟨(sees_le le_nw), trivial⟩ rfl) ?_
  rintro _ rfl
  refine SWl.rd rfl (Rd.assign rfl) ?_
  refine SWl.nil ?_
  refine SN.then ?_
  refine SW.ret (fn := Tryd.f46) (fun _ _ h => h) (Rs.le (Rs.one rfl (ResV.tmp rfl)) ?_)
  exact le_nw_is
set_option maxHeartbeats 4000000 in
set_option maxRecDepth 100000 in
theorem con_digestsR (p : List (List UInt8)) (hp : p.length ≤ 1000000) : ConN Tryd.prog 59 [lsD encL p] (boolD (decide (∀ d ∈ p, d.length = 32))) := by
  refine con_ofN Tryd.func59 (by kernel_rfl) rfl (by kernel_rfl) fun base w0 => ?_
  refine SW.seq ?_
  refine SW.region ?_
  refine SWl.rd rfl (Rd.assign rfl) ?_
  refine SWl.nil ?_
  refine SN.then ?_
  refine SW.seq ?_
  refine SW.seq ?_
  refine SW.region ?_
  refine SWl.rd rfl (Rd.assign rfl) ?_
  refine SWl.nil ?_
  refine SN.then ?_
  refine SW.block ?_
  refine SW.loop (ι := {i : Nat // i ≤ p.length ∧ ∀ d ∈ p.take i, d.length = 32}) (fun i => St.ob [(0, lsD encL p), (3, iD (i.1 : Int))] []) (fun i => p.length - i.1) (⟨0, by simp⟩) ?_ ?_
  · exact ⟨⟨_, rfl, ⟨⟨_, rfl, Le.refl _⟩, ⟨⟨_, rfl, Le.refl _⟩, trivial⟩⟩⟩, [], by decide, trivial⟩
  · rintro ⟨i, hi, ht⟩ K0 hK0
    dsimp only
    refine SW.seq ?_
    refine SW.seq ?_
    refine SW.region ?_
    refine SWl.rd rfl (Rd.move rfl) ?_
    refine SWl.rd rfl (Rd.move rfl) ?_
    refine SWl.rd rfl (Rd.lenR (e := 28) rfl (by kernel_rfl)) ?_
    refine SWl.rd rfl (Rd.lss rfl rfl) ?_
    refine SWl.nil ?_
    refine SN.then ?_
    refine SW.cond rfl (fun hb7 => ?_) (fun hb7 => ?_)
    · have hb7 := of_decide_eq_true hb7
      refine SW.skip ?_
      refine SN.then ?_
      refine SW.seq ?_
      refine SW.block ?_
      refine SW.seq ?_
      refine SW.region ?_
      obtain ⟨x, hx⟩ : ∃ x, p[i]? = some x := ⟨_, List.getElem?_eq_getElem (by omega)⟩
      refine SWl.rd rfl (Rd.move rfl) ?_
      refine SWl.rd rfl (Rd.move rfl) ?_
      refine SWl.rd rfl (Rd.idxL (e := 28) 1 rfl rfl (by kernel_rfl) (by kernel_rfl) (by omega) (by simpa using hx)) ?_
      refine SWl.rd rfl (Rd.loadR rfl rfl (by kernel_rfl) (by simp)) ?_
      refine SWl.rd rfl (Rd.len (e := 5) rfl (by kernel_rfl)) ?_
      refine SWl.rd rfl (Rd.nei rfl rfl) ?_
      refine SWl.nil ?_
      refine SN.then ?_
      refine SW.cond rfl (fun hb15 => ?_) (fun hb15 => ?_)
      · skip
        refine SW.seq ?_
        refine SW.region ?_
        refine SWl.rd rfl (Rd.assign rfl) ?_
        refine SWl.nil ?_
        refine SN.then ?_
        refine SW.ret (fn := Tryd.f59) (fun _ _ h => h) (Rs.le (Rs.one rfl (ResV.tmp rfl)) ?_)
        exact le_bool_n (by symm; apply decide_eq_false; intro hh; have := hh x (List.mem_of_getElem? hx); simp [this] at hb15)
      · skip
        refine SW.skip ?_
        refine SN.block ?_
        refine SN.then ?_
        refine SW.region ?_
        refine SWl.rd rfl (Rd.move rfl) ?_
        refine SWl.rd rfl (Rd.add rfl rfl ⟨by omega, by omega⟩) ?_
        refine SWl.rd rfl (Rd.assign rfl) ?_
        refine SWl.nil ?_
        exact fun a w hh => hK0 (⟨i + 1, by omega, fun d hd => by rw [take_snoc hx] at hd; rcases List.mem_append.1 hd with hd | hd; exact ht d hd; rw [List.mem_singleton.1 hd]; simp at hb15; omega⟩) (by simp only; omega) a w (hh.sub (⟨⟨_, rfl, ⟨⟨_, rfl, Le.refl _⟩, ⟨⟨_, rfl, Le.refl _⟩, trivial⟩⟩⟩, [], by decide, trivial⟩))
    · have hb7 := of_decide_eq_false hb7
      refine SW.exit' ?_
      repeat (first | refine SE.then ?_ | refine SE.skip (by decide) ?_)
      refine SE.here ?_
      refine SN.then ?_
      refine SW.seq ?_
      refine SW.region ?_
      refine SWl.rd rfl (Rd.assign rfl) ?_
      refine SWl.nil ?_
      refine SN.then ?_
      refine SW.ret (fn := Tryd.f59) (fun _ _ h => h) (Rs.le (Rs.one rfl (ResV.tmp rfl)) ?_)
      exact le_bool_n (by symm; apply decide_eq_true; intro d hd; exact ht d (by rw [List.take_of_length_le (by omega)]; exact hd))
set_option maxHeartbeats 4000000 in
set_option maxRecDepth 100000 in
theorem con_incR_step (i n : Nat) (d : List UInt8) (p : List (List UInt8)) (h0 : i < n) (hn : n ≤ 4096) (hd : d.length ≤ 32) (hp : p.length ≤ 1000000) (hq : ∀ x ∈ p, x.length = 32) (ih : ∀ (i' n' : Nat) (p' : List (List UInt8)), n' < n → i' < n' → p'.length ≤ 1000000 → (∀ x ∈ p', x.length = 32) → IncR i' n' d p') : ConR Tryd.prog 60 [] [iD (n : Int), iD (i : Int), strD d, lsD encL p] (fun t : {t : List UInt8 × List (List UInt8) × Bool // IncOK i n d p t} => []) (fun t : {t : List UInt8 × List (List UInt8) × Bool // IncOK i n d p t} => tupD [strD t.1.1, lsD encL t.1.2.1, boolD t.1.2.2]) := by
  refine con_ofR Tryd.func60 (by kernel_rfl) rfl (by kernel_rfl) fun base w0 => ?_
  refine SW.seq ?_
  refine SW.region ?_
  refine SWl.rd rfl (Rd.assign rfl) ?_
  refine SWl.rd rfl (Rd.assign rfl) ?_
  refine SWl.rd rfl (Rd.assign rfl) ?_
  refine SWl.nil ?_
  refine SN.then ?_
  refine SW.seq ?_
  refine SW.seq ?_
  refine SW.region ?_
  refine SWl.rd rfl (Rd.move rfl) ?_
  refine SWl.rd rfl (Rd.eqi rfl rfl) ?_
  refine SWl.nil ?_
  refine SN.then ?_
  refine SW.cond rfl (fun hb20 => ?_) (fun hb20 => ?_)
  · have h1 : n = 1 := by have := of_decide_eq_true hb20; omega
    refine SW.seq ?_
    refine SW.region ?_
    refine SWl.rd rfl (Rd.move rfl) ?_
    refine SWl.rd rfl (Rd.move rfl) ?_
    refine SWl.rd rfl (Rd.assign rfl) ?_
    refine SWl.rd rfl (Rd.assign rfl) ?_
    refine SWl.rd rfl (Rd.assign rfl) ?_
    refine SWl.nil ?_
    refine SN.then ?_
    refine SW.retR (fn := Tryd.f60) (⟨(d, p, true), by subst h1; exact IncOK.one i d p hd⟩) [] (fun _ _ h => h) (Rs.le (Rs.three rfl (ResV.tmp rfl) (ResV.tmp rfl) (ResV.tmp rfl)) ?_) (by decide) trivial
    exact Le.refl _
  · have h2 : 2 ≤ n := by have := of_decide_eq_false hb20; omega
    refine SW.skip ?_
    refine SN.then ?_
    refine SW.seq ?_
    refine SW.seq ?_
    refine SW.region ?_
    refine SWl.rd rfl (Rd.move rfl) ?_
    refine SWl.rd rfl (Rd.lenR (e := 28) rfl (by kernel_rfl)) ?_
    refine SWl.rd rfl (Rd.eqi rfl rfl) ?_
    refine SWl.nil ?_
    refine SN.then ?_
    refine SW.cond rfl (fun hb25 => ?_) (fun hb25 => ?_)
    · have hz : p = [] := List.eq_nil_of_length_eq_zero (by have := of_decide_eq_true hb25; omega)
      refine SW.seq ?_
      refine SW.region ?_
      refine SWl.rd rfl (Rd.assign rfl) ?_
      refine SWl.rd rfl (Rd.assign rfl) ?_
      refine SWl.rd rfl (Rd.assign rfl) ?_
      refine SWl.nil ?_
      refine SN.then ?_
      refine SW.retR (fn := Tryd.f60) (⟨([], [], false), by subst hz; exact IncOK.none d h2⟩) [] (fun _ _ h => h) (Rs.le (Rs.three rfl (ResV.tmp rfl) (ResV.tmp rfl) (ResV.tmp rfl)) ?_) (by decide) trivial
      exact Le.tup ⟨Le.refl _, le_nil_ls, Le.refl _, trivial⟩
    · have hz : p.length ≠ 0 := by have := of_decide_eq_false hb25; omega
      refine SW.skip ?_
      refine SN.then ?_
      refine SW.seq ?_
      refine SW.region ?_
      obtain ⟨x, hx⟩ : ∃ x, p[p.length - 1]? = some x := ⟨_, List.getElem?_eq_getElem (by omega)⟩
      have hxl := hq x (List.mem_of_getElem? hx)
      have hq2 : ∀ y ∈ p.take (p.length - 1), y.length = 32 := fun y hy => hq y (List.mem_of_mem_take hy)
      have hbl := Led.bl_spec h2
      refine SWl.rd rfl (Rd.move rfl) ?_
      refine SWl.rd rfl (Rd.move rfl) ?_
      refine SWl.rd rfl (Rd.lenR (e := 28) rfl (by kernel_rfl)) ?_
      refine SWl.rd rfl (Rd.subi rfl rfl ⟨by omega, by omega⟩) ?_
      refine SWl.rd rfl (Rd.idxL (e := 28) 1 rfl rfl (by kernel_rfl) (by kernel_rfl) (by omega) (by simpa using hx)) ?_
      refine SWl.rd rfl (Rd.loadR rfl rfl (by kernel_rfl) (by simp)) ?_
      refine SWl.rd rfl (Rd.str (e := 5) rfl (by kernel_rfl) (by kernel_rfl) (by kernel_rfl) (by simp)) ?_
      refine SWl.rd rfl (Rd.assign rfl) ?_
      refine SWl.nil ?_
      refine SN.then ?_
      refine SW.seq ?_
      refine SW.region ?_
      refine SWl.rd rfl (Rd.move rfl) ?_
      refine SWl.ef (S := []) (Ef.callN [] (con_splitR n h2 (by omega)) rfl ⟨(sees_le (Le.refl _)), trivial⟩ rfl) ?_
      rintro _ rfl
      refine SWl.rd rfl (Rd.assign rfl) ?_
      refine SWl.nil ?_
      refine SN.then ?_
      refine SW.seq ?_
      refine SW.seq ?_
      refine SW.region ?_
      refine SWl.rd rfl (Rd.move rfl) ?_
      refine SWl.rd rfl (Rd.move rfl) ?_
      refine SWl.rd rfl (Rd.lss rfl rfl) ?_
      refine SWl.nil ?_
      refine SN.then ?_
      refine SW.cond rfl (fun hb37 => ?_) (fun hb37 => ?_)
      · have hlt : i < Led.bl n := by have := of_decide_eq_true hb37; omega
        refine SW.seq ?_
        refine SW.region ?_
        refine SWl.rd rfl (Rd.move rfl) ?_
        refine SWl.rd rfl (Rd.move rfl) ?_
        refine SWl.rd rfl (Rd.move rfl) ?_
        refine SWl.rd rfl (Rd.move rfl) ?_
        refine SWl.rd rfl (Rd.move rfl) ?_
        refine SWl.rd rfl (Rd.lenR (e := 28) rfl (by kernel_rfl)) ?_
        refine SWl.rd rfl (Rd.mono (Rd.subi rfl rfl ⟨by omega, by omega⟩) (show Le _ (iD ((p.length - 1 : Nat) : Int)) from Le.is (by congr 1; omega))) ?_
        refine SWl.rd rfl (Rd.shL (e := 28) 1 rfl rfl (by kernel_rfl) (by kernel_rfl) (by omega)) ?_
        refine SWl.ef (S := []) (Ef.callR [] (ih i (Led.bl n) (p.take (p.length - 1)) (by omega) hlt (by simp; omega) hq2) rfl ⟨Le.refl _, Le.refl _, Le.refl _, Le.refl _, trivial⟩ (by decide) trivial (fun _ h => h) rfl) ?_
        rintro _ ⟨⟨t47, ht47⟩, rfl⟩
        refine SWl.rd rfl (Rd.move rfl) ?_
        refine SWl.rd rfl (Rd.extract rfl rfl) ?_
        refine SWl.rd rfl (Rd.extract rfl rfl) ?_
        refine SWl.rd rfl (Rd.extract rfl rfl) ?_
        refine SWl.rd rfl (Rd.assign rfl) ?_
        refine SWl.rd rfl (Rd.assign rfl) ?_
        refine SWl.rd rfl (Rd.assign rfl) ?_
        refine SWl.nil ?_
        refine SN.then ?_
        refine SW.seq ?_
        refine SW.region ?_
        refine SWl.rd rfl (Rd.move rfl) ?_
        refine SWl.rd rfl (Rd.move rfl) ?_
        have hj := ht47.2.1
        refine SWl.ef (S := []) (Ef.callN [] (con_joinS _ _ (by first | omega | (simp <;> omega)) (by first | omega | (simp <;> omega))) rfl ⟨(sees_le (Le.refl _)), (sees_le (Le.refl _)), trivial⟩ rfl) ?_
        rintro _ rfl
        refine SWl.rd rfl (Rd.move rfl) ?_
        refine SWl.rd rfl (Rd.move rfl) ?_
        refine SWl.rd rfl (Rd.assign rfl) ?_
        refine SWl.rd rfl (Rd.assign rfl) ?_
        refine SWl.rd rfl (Rd.assign rfl) ?_
        refine SWl.nil ?_
        refine SN.then ?_
        refine SW.retR (fn := Tryd.f60) (⟨(Led.join HH t47.1 x, t47.2.1, t47.2.2), IncOK.left h2 hx hlt ht47⟩) [] (fun _ _ h => h) (Rs.le (Rs.three rfl (ResV.tmp rfl) (ResV.tmp rfl) (ResV.tmp rfl)) ?_) (by decide) trivial
        exact Le.refl _
      · have hlt : ¬ i < Led.bl n := by have := of_decide_eq_false hb37; omega
        refine SW.skip ?_
        refine SN.then ?_
        refine SW.seq ?_
        refine SW.region ?_
        refine SWl.rd rfl (Rd.move rfl) ?_
        refine SWl.rd rfl (Rd.move rfl) ?_
        refine SWl.rd rfl (Rd.subi rfl rfl ⟨by omega, by omega⟩) ?_
        refine SWl.rd rfl (Rd.move rfl) ?_
        refine SWl.rd rfl (Rd.move rfl) ?_
        refine SWl.rd rfl (Rd.subi rfl rfl ⟨by omega, by omega⟩) ?_
        refine SWl.rd rfl (Rd.move rfl) ?_
        refine SWl.rd rfl (Rd.move rfl) ?_
        refine SWl.rd rfl (Rd.move rfl) ?_
        refine SWl.rd rfl (Rd.lenR (e := 28) rfl (by kernel_rfl)) ?_
        refine SWl.rd rfl (Rd.mono (Rd.subi rfl rfl ⟨by omega, by omega⟩) (show Le _ (iD ((p.length - 1 : Nat) : Int)) from Le.is (by congr 1; omega))) ?_
        refine SWl.rd rfl (Rd.shL (e := 28) 1 rfl rfl (by kernel_rfl) (by kernel_rfl) (by omega)) ?_
        refine SWl.ef (S := []) (Ef.callR [] (ih (i - Led.bl n) (n - Led.bl n) (p.take (p.length - 1)) (by omega) (by omega) (by simp; omega) hq2) rfl ⟨Le.is (by congr 1; omega), Le.is (by congr 1; omega), Le.refl _, Le.refl _, trivial⟩ (by decide) trivial (fun _ h => h) rfl) ?_
        rintro _ ⟨⟨t69, ht69⟩, rfl⟩
        refine SWl.rd rfl (Rd.move rfl) ?_
        refine SWl.rd rfl (Rd.extract rfl rfl) ?_
        refine SWl.rd rfl (Rd.extract rfl rfl) ?_
        refine SWl.rd rfl (Rd.extract rfl rfl) ?_
        refine SWl.rd rfl (Rd.assign rfl) ?_
        refine SWl.rd rfl (Rd.assign rfl) ?_
        refine SWl.rd rfl (Rd.assign rfl) ?_
        refine SWl.nil ?_
        refine SN.then ?_
        refine SW.seq ?_
        refine SW.region ?_
        refine SWl.rd rfl (Rd.move rfl) ?_
        refine SWl.rd rfl (Rd.move rfl) ?_
        have hj := ht69.2.1
        refine SWl.ef (S := []) (Ef.callN [] (con_joinS _ _ (by first | omega | (simp <;> omega)) (by first | omega | (simp <;> omega))) rfl ⟨(sees_le (Le.refl _)), (sees_le (Le.refl _)), trivial⟩ rfl) ?_
        rintro _ rfl
        refine SWl.rd rfl (Rd.move rfl) ?_
        refine SWl.rd rfl (Rd.move rfl) ?_
        refine SWl.rd rfl (Rd.assign rfl) ?_
        refine SWl.rd rfl (Rd.assign rfl) ?_
        refine SWl.rd rfl (Rd.assign rfl) ?_
        refine SWl.nil ?_
        refine SN.then ?_
        refine SW.retR (fn := Tryd.f60) (⟨(Led.join HH x t69.1, t69.2.1, t69.2.2), IncOK.right h2 hx hlt ht69⟩) [] (fun _ _ h => h) (Rs.le (Rs.three rfl (ResV.tmp rfl) (ResV.tmp rfl) (ResV.tmp rfl)) ?_) (by decide) trivial
        exact Le.refl _
theorem con_incR : ∀ (n i : Nat) (d : List UInt8) (p : List (List UInt8)), i < n → n ≤ 4096 → d.length ≤ 32 → p.length ≤ 1000000 → (∀ x ∈ p, x.length = 32) → IncR i n d p := by
  intro n
  induction n using Nat.strongRecOn with
  | ind n ih =>
    intro i d p h0 hn hd hp hq
    exact con_incR_step i n d p h0 hn hd hp hq (fun i' n' p' h h' h2 h3 => ih n' h i' d p' h' (by omega) hd h2 h3)
end Sx
end Go.Proofs.YtonjpfpdpfonnaaDoor
