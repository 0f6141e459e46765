/-
  LEDGERS: the reference, paths read, all of it.
-/
import Derived.Test.YtonjpfpdpfonnaaDoorL23
namespace Go.Proofs.YtonjpfpdpfonnaaDoor
open Go.RowKit
namespace Sx
theorem Rs.four {P : Program} {Γ : Cx} {σ : St} {fn : Func} {r s t q : ResultVar} {d e f k : D} (h : fn.results = #[r, s, t, q]) (h1 : ResV σ P r d) (h2 : ResV σ P s e) (h3 : ResV σ P t f) (h4 : ResV σ P q k) : Rs P Γ fn σ (tupD [d, e, f, k]) := by
  intro a w hh
  obtain ⟨v, hv, hd⟩ := run_loadR hh h1
  obtain ⟨u, hu, he⟩ := run_loadR hh h2
  obtain ⟨z, hz, hf⟩ := run_loadR hh h3
  obtain ⟨y, hy, hk⟩ := run_loadR hh h4
  refine ⟨.tuple #[v, u, z, y], ?_, [v, u, z, y], rfl, hd, he, hf, hk, trivial⟩
  have e : results fn a.tmps = (do let x ← loadR a.tmps r; let y ← loadR a.tmps s; let z ← loadR a.tmps t; let l ← loadR a.tmps q; pure (.tuple #[x, y, z, l])) := by cases r <;> cases s <;> cases t <;> cases q <;> simp [results, h, loadR]
  simp [e, hv, hu, hz, hy]
/-- What the reference's consistent returns. -/
def ConOK (m n : Nat) (o : Bool) (d : List UInt8) (p : List (List UInt8)) (t : List UInt8 × List UInt8 × List (List UInt8) × Bool) : Prop :=
  (Led.con HH m n o d p = if t.2.2.2 = true ∧ t.2.2.1 = [] then some (t.1, t.2.1) else none) ∧ t.1.length ≤ 32 ∧ t.2.1.length ≤ 32 ∧ t.2.2.1.length ≤ p.length
theorem ConOK.same {n : Nat} {o : Bool} (d : List UInt8) (p : List (List UInt8)) (h : 0 < n) (ho : o = true) (hd : d.length ≤ 32) : ConOK n n o d p (d, d, p, true) :=
  ⟨by rw [Led.con_eq HH o d p h, if_pos ho]; simp, hd, hd, Nat.le_refl _⟩
theorem ConOK.none {m n : Nat} {o : Bool} (d : List UInt8) (h0 : 0 < m) (hm : m ≤ n) (h : ¬ (m = n ∧ o = true)) : ConOK m n o d [] ([], [], [], false) := by
  refine ⟨?_, by simp, by simp, by simp⟩
  by_cases h1 : m = n
  · subst h1
    rw [Led.con_eq HH o d [] h0, if_neg (fun e => h ⟨rfl, e⟩)]
    simp
  · rw [Led.con_step HH o d [] h0 (by omega)]
    simp
theorem ConOK.last {n : Nat} {o : Bool} {d x : List UInt8} {p : List (List UInt8)} (h : 0 < n) (ho : ¬ o = true) (hx : p[p.length - 1]? = some x) (hl : x.length = 32) : ConOK n n o d p (x, x, p.take (p.length - 1), true) := by
  refine ⟨?_, by simp [hl], by simp [hl], by simp⟩
  rw [Led.con_eq HH o d p h, if_neg ho, getLast_snoc hx, take_pred]
  simp
theorem ConOK.left {m n : Nat} {o : Bool} {d x : List UInt8} {p : List (List UInt8)} {t : List UInt8 × List UInt8 × List (List UInt8) × Bool} (h0 : 0 < m) (h : m < n) (hx : p[p.length - 1]? = some x) (hi : m ≤ Led.bl n) (ht : ConOK m (Led.bl n) o d (p.take (p.length - 1)) t) : ConOK m n o d p (t.1, Led.join HH t.2.1 x, t.2.2.1, t.2.2.2) := by
  obtain ⟨h1, h2, h3, h4⟩ := ht
  rw [take_pred] at h1 h4
  refine ⟨?_, h2, by simp, by simp at h4; simp; omega⟩
  rw [Led.con_step HH o d p h0 h, getLast_snoc hx]
  simp only
  rw [if_pos hi, h1]
  split <;> rfl
theorem ConOK.right {m n : Nat} {o : Bool} {d x : List UInt8} {p : List (List UInt8)} {t : List UInt8 × List UInt8 × List (List UInt8) × Bool} (h0 : 0 < m) (h : m < n) (hx : p[p.length - 1]? = some x) (hi : ¬ m ≤ Led.bl n) (ht : ConOK (m - Led.bl n) (n - Led.bl n) false d (p.take (p.length - 1)) t) : ConOK m n o d p (Led.join HH x t.1, Led.join HH x t.2.1, t.2.2.1, t.2.2.2) := by
  obtain ⟨h1, h2, h3, h4⟩ := ht
  rw [take_pred] at h1 h4
  refine ⟨?_, by simp, by simp, by simp at h4; simp; omega⟩
  rw [Led.con_step HH o d p h0 h, getLast_snoc hx]
  simp only
  rw [if_neg hi, h1]
  split <;> rfl
abbrev ConRR (m n : Nat) (o : Bool) (d : List UInt8) (p : List (List UInt8)) : Prop :=
  ConR Tryd.prog 62 [] [iD (m : Int), iD (n : Int), boolD o, strD d, lsD encL p] (fun _ : {t : List UInt8 × List UInt8 × List (List UInt8) × Bool // ConOK m n o d p t} => []) (fun t => tupD [strD t.1.1, strD t.1.2.1, lsD encL t.1.2.2.1, boolD t.1.2.2.2])
/-- What Consistent says. -/
def conGood (old : List UInt8) (m : Int) (new : List UInt8) (n : Int) (p : List (List UInt8)) : Prop := 0 ≤ m ∧ m ≤ n ∧ n ≤ 4096 ∧ old.length = 32 ∧ new.length = 32 ∧ ∀ d ∈ p, d.length = 32
open Classical in
noncomputable def conOut (old : List UInt8) (m : Int) (new : List UInt8) (n : Int) (p : List (List UInt8)) : Int :=
  if conGood old m new n p then (if m = 0 then (if p = [] ∧ old = HH [] then 0 else 10) else if Led.con HH m.toNat n.toNat true old p = some (old, new) then 0 else 10) else 2
theorem conOut_bad {old new : List UInt8} {m n : Int} {p : List (List UInt8)} (h : ¬ conGood old m new n p) : conOut old m new n p = 2 := if_neg h
theorem conOut_0yes {old new : List UInt8} {m n : Int} {p : List (List UInt8)} (h : conGood old m new n p) (h0 : m = 0) (hp : p = []) (ho : old = HH []) : conOut old m new n p = 0 := by
  unfold conOut; rw [if_pos h, if_pos h0, if_pos ⟨hp, ho⟩]
theorem conOut_0no {old new : List UInt8} {m n : Int} {p : List (List UInt8)} (h : conGood old m new n p) (h0 : m = 0) (hp : ¬ (p = [] ∧ old = HH [])) : conOut old m new n p = 10 := by
  unfold conOut; rw [if_pos h, if_pos h0, if_neg hp]
theorem conOut_yes {old new : List UInt8} {m n : Int} {p : List (List UInt8)} (h : conGood old m new n p) (h0 : ¬ m = 0) (hv : Led.con HH m.toNat n.toNat true old p = some (old, new)) : conOut old m new n p = 0 := by
  unfold conOut; rw [if_pos h, if_neg h0, if_pos hv]
theorem conOut_no {old new : List UInt8} {m n : Int} {p : List (List UInt8)} (h : conGood old m new n p) (h0 : ¬ m = 0) (hv : ¬ Led.con HH m.toNat n.toNat true old p = some (old, new)) : conOut old m new n p = 10 := by
  unfold conOut; rw [if_pos h, if_neg h0, if_neg hv]
set_option maxHeartbeats 4000000 in
set_option maxRecDepth 100000 in
theorem con_includeR (root : List UInt8) (n i : Int) (e : Led.Ent) (p : List (List UInt8)) (hp : p.length ≤ 1000000) : ConN Tryd.prog 32 [bD root, iD n, iD i, aggD [iD e.kind, bD e.bytes], lsD encL p] (iD (incOut root n i e p)) := by
  refine con_ofN Tryd.func32 (by kernel_rfl) rfl (by kernel_rfl) fun base w0 => ?_
  refine SW.seq ?_
  refine SW.region ?_
  refine SWl.ef (S := []) (Ef.boxA rfl rfl) ?_
  rintro _ ⟨g8, rfl⟩
  refine SWl.rd rfl (Rd.assign rfl) ?_
  refine SWl.nil ?_
  refine SN.then ?_
  refine SW.seq ?_
  refine SW.seq ?_
  refine SW.region ?_
  refine SWl.rd rfl (Rd.loadA 0 2 rfl rfl (by kernel_rfl) rfl ap_nil) ?_
  refine SWl.ef (S := []) (Ef.callN [] (con_validR e.kind e.bytes.length) rfl ⟨(sees_le (Le.agg ⟨Le.refl _, le_b_len, trivial⟩)), trivial⟩ rfl) ?_
  rintro _ rfl
  refine SWl.rd rfl (Rd.not rfl) ?_
  refine SWl.rd rfl (Rd.move rfl) ?_
  refine SWl.split 17 rfl (fun hb17 => ?_) (fun hb17 => ?_)
  · have hg : ¬ incGood root n i e p := fun g => by have g := g.1; unfold Led.Ent.fit at g; simp [g] at hb17
    refine SWl.off rfl rfl (hb17) rfl rfl ?_
    refine SWl.off rfl rfl (hb17) rfl rfl ?_
    refine SWl.rd rfl (Rd.pickY rfl (hb17) rfl) ?_
    refine SWl.rd rfl (Rd.move rfl) ?_
    refine SWl.off rfl rfl (rfl) rfl rfl ?_
    refine SWl.off rfl rfl (rfl) rfl rfl ?_
    refine SWl.rd rfl (Rd.pickY rfl (rfl) rfl) ?_
    refine SWl.rd rfl (Rd.move rfl) ?_
    refine SWl.off rfl rfl (rfl) rfl rfl ?_
    refine SWl.off rfl rfl (rfl) rfl rfl ?_
    refine SWl.rd rfl (Rd.pickY rfl (rfl) rfl) ?_
    refine SWl.rd rfl (Rd.move rfl) ?_
    refine SWl.off rfl rfl (rfl) rfl rfl ?_
    refine SWl.off rfl rfl (rfl) rfl rfl ?_
    refine SWl.off rfl rfl (rfl) rfl rfl ?_
    refine SWl.rd rfl (Rd.pickY rfl (rfl) rfl) ?_
    refine SWl.rd rfl (Rd.move rfl) ?_
    refine SWl.off rfl rfl (rfl) rfl rfl ?_
    refine SWl.off rfl rfl (rfl) rfl rfl ?_
    refine SWl.off rfl rfl (rfl) rfl rfl ?_
    refine SWl.rd rfl (Rd.pickY rfl (rfl) rfl) ?_
    refine SWl.rd rfl (Rd.move rfl) ?_
    refine SWl.off rfl rfl (rfl) rfl rfl ?_
    refine SWl.off rfl rfl (rfl) rfl rfl ?_
    refine SWl.off rfl rfl (rfl) rfl rfl ?_
    refine SWl.rd rfl (Rd.pickY rfl (rfl) rfl) ?_
    refine SWl.nil ?_
    refine SN.then ?_
    refine SW.condT rfl (rfl) ?_
    refine SW.seq ?_
    refine SW.region ?_
    refine SWl.rd rfl (Rd.assign rfl) ?_
    refine SWl.nil ?_
    refine SN.then ?_
    refine SW.ret (fn := Tryd.f32) (fun _ _ h => h) (Rs.le (Rs.one rfl (ResV.tmp rfl)) ?_)
    exact Le.trans (Le.is (by rw [incOut_bad hg])) le_nw_is
  · have g1 : Led.Ent.fit e := by simp at hb17; exact hb17
    refine SWl.rdg rfl rfl (hb17) rfl rfl (Rd.move rfl) ?_
    refine SWl.rdg rfl rfl (hb17) rfl rfl (Rd.lss rfl rfl) ?_
    refine SWl.rd rfl (Rd.pickN rfl (hb17) rfl) ?_
    refine SWl.rd rfl (Rd.move rfl) ?_
    refine SWl.split 21 rfl (fun hb21 => ?_) (fun hb21 => ?_)
    · have hg : ¬ incGood root n i e p := fun g => by have hb := of_decide_eq_true hb21; obtain ⟨g1, g2, g3, g4, g5, g6, g7⟩ := g; omega
      refine SWl.off rfl rfl (hb21) rfl rfl ?_
      refine SWl.off rfl rfl (hb21) rfl rfl ?_
      refine SWl.rd rfl (Rd.pickY rfl (hb21) rfl) ?_
      refine SWl.rd rfl (Rd.move rfl) ?_
      refine SWl.off rfl rfl (rfl) rfl rfl ?_
      refine SWl.off rfl rfl (rfl) rfl rfl ?_
      refine SWl.rd rfl (Rd.pickY rfl (rfl) rfl) ?_
      refine SWl.rd rfl (Rd.move rfl) ?_
      refine SWl.off rfl rfl (rfl) rfl rfl ?_
      refine SWl.off rfl rfl (rfl) rfl rfl ?_
      refine SWl.off rfl rfl (rfl) rfl rfl ?_
      refine SWl.rd rfl (Rd.pickY rfl (rfl) rfl) ?_
      refine SWl.rd rfl (Rd.move rfl) ?_
      refine SWl.off rfl rfl (rfl) rfl rfl ?_
      refine SWl.off rfl rfl (rfl) rfl rfl ?_
      refine SWl.off rfl rfl (rfl) rfl rfl ?_
      refine SWl.rd rfl (Rd.pickY rfl (rfl) rfl) ?_
      refine SWl.rd rfl (Rd.move rfl) ?_
      refine SWl.off rfl rfl (rfl) rfl rfl ?_
      refine SWl.off rfl rfl (rfl) rfl rfl ?_
      refine SWl.off rfl rfl (rfl) rfl rfl ?_
      refine SWl.rd rfl (Rd.pickY rfl (rfl) rfl) ?_
      refine SWl.nil ?_
      refine SN.then ?_
      refine SW.condT rfl (rfl) ?_
      refine SW.seq ?_
      refine SW.region ?_
      refine SWl.rd rfl (Rd.assign rfl) ?_
      refine SWl.nil ?_
      refine SN.then ?_
      refine SW.ret (fn := Tryd.f32) (fun _ _ h => h) (Rs.le (Rs.one rfl (ResV.tmp rfl)) ?_)
      exact Le.trans (Le.is (by rw [incOut_bad hg])) le_nw_is
    · have g2 := of_decide_eq_false hb21
      refine SWl.rdg rfl rfl (hb21) rfl rfl (Rd.move rfl) ?_
      refine SWl.rdg rfl rfl (hb21) rfl rfl (Rd.gtr rfl rfl) ?_
      refine SWl.rd rfl (Rd.pickN rfl (hb21) rfl) ?_
      refine SWl.rd rfl (Rd.move rfl) ?_
      refine SWl.split 25 rfl (fun hb25 => ?_) (fun hb25 => ?_)
      · have hg : ¬ incGood root n i e p := fun g => by have hb := of_decide_eq_true hb25; obtain ⟨g1, g2, g3, g4, g5, g6, g7⟩ := g; omega
        refine SWl.off rfl rfl (hb25) rfl rfl ?_
        refine SWl.off rfl rfl (hb25) rfl rfl ?_
        refine SWl.rd rfl (Rd.pickY rfl (hb25) rfl) ?_
        refine SWl.rd rfl (Rd.move rfl) ?_
        refine SWl.off rfl rfl (rfl) rfl rfl ?_
        refine SWl.off rfl rfl (rfl) rfl rfl ?_
        refine SWl.off rfl rfl (rfl) rfl rfl ?_
        refine SWl.rd rfl (Rd.pickY rfl (rfl) rfl) ?_
        refine SWl.rd rfl (Rd.move rfl) ?_
        refine SWl.off rfl rfl (rfl) rfl rfl ?_
        refine SWl.off rfl rfl (rfl) rfl rfl ?_
        refine SWl.off rfl rfl (rfl) rfl rfl ?_
        refine SWl.rd rfl (Rd.pickY rfl (rfl) rfl) ?_
        refine SWl.rd rfl (Rd.move rfl) ?_
        refine SWl.off rfl rfl (rfl) rfl rfl ?_
        refine SWl.off rfl rfl (rfl) rfl rfl ?_
        refine SWl.off rfl rfl (rfl) rfl rfl ?_
        refine SWl.rd rfl (Rd.pickY rfl (rfl) rfl) ?_
        refine SWl.nil ?_
        refine SN.then ?_
        refine SW.condT rfl (rfl) ?_
        refine SW.seq ?_
        refine SW.region ?_
        refine SWl.rd rfl (Rd.assign rfl) ?_
        refine SWl.nil ?_
        refine SN.then ?_
        refine SW.ret (fn := Tryd.f32) (fun _ _ h => h) (Rs.le (Rs.one rfl (ResV.tmp rfl)) ?_)
        exact Le.trans (Le.is (by rw [incOut_bad hg])) le_nw_is
      · have g3 := of_decide_eq_false hb25
        refine SWl.rdg rfl rfl (hb25) rfl rfl (Rd.move rfl) ?_
        refine SWl.rdg rfl rfl (hb25) rfl rfl (Rd.lss rfl rfl) ?_
        refine SWl.rd rfl (Rd.pickN rfl (hb25) rfl) ?_
        refine SWl.rd rfl (Rd.move rfl) ?_
        refine SWl.split 29 rfl (fun hb29 => ?_) (fun hb29 => ?_)
        · have hg : ¬ incGood root n i e p := fun g => by have hb := of_decide_eq_true hb29; obtain ⟨g1, g2, g3, g4, g5, g6, g7⟩ := g; omega
          refine SWl.off rfl rfl (hb29) rfl rfl ?_
          refine SWl.off rfl rfl (hb29) rfl rfl ?_
          refine SWl.off rfl rfl (hb29) rfl rfl ?_
          refine SWl.rd rfl (Rd.pickY rfl (hb29) rfl) ?_
          refine SWl.rd rfl (Rd.move rfl) ?_
          refine SWl.off rfl rfl (rfl) rfl rfl ?_
          refine SWl.off rfl rfl (rfl) rfl rfl ?_
          refine SWl.off rfl rfl (rfl) rfl rfl ?_
          refine SWl.rd rfl (Rd.pickY rfl (rfl) rfl) ?_
          refine SWl.rd rfl (Rd.move rfl) ?_
          refine SWl.off rfl rfl (rfl) rfl rfl ?_
          refine SWl.off rfl rfl (rfl) rfl rfl ?_
          refine SWl.off rfl rfl (rfl) rfl rfl ?_
          refine SWl.rd rfl (Rd.pickY rfl (rfl) rfl) ?_
          refine SWl.nil ?_
          refine SN.then ?_
          refine SW.condT rfl (rfl) ?_
          refine SW.seq ?_
          refine SW.region ?_
          refine SWl.rd rfl (Rd.assign rfl) ?_
          refine SWl.nil ?_
          refine SN.then ?_
          refine SW.ret (fn := Tryd.f32) (fun _ _ h => h) (Rs.le (Rs.one rfl (ResV.tmp rfl)) ?_)
          exact Le.trans (Le.is (by rw [incOut_bad hg])) le_nw_is
        · have g4 := of_decide_eq_false hb29
          refine SWl.rdg rfl rfl (hb29) rfl rfl (Rd.move rfl) ?_
          refine SWl.rdg rfl rfl (hb29) rfl rfl (Rd.move rfl) ?_
          refine SWl.rdg rfl rfl (hb29) rfl rfl (Rd.geq rfl rfl) ?_
          refine SWl.rd rfl (Rd.pickN rfl (hb29) rfl) ?_
          refine SWl.rd rfl (Rd.move rfl) ?_
          refine SWl.split 34 rfl (fun hb34 => ?_) (fun hb34 => ?_)
          · have hg : ¬ incGood root n i e p := fun g => by have hb := of_decide_eq_true hb34; obtain ⟨g1, g2, g3, g4, g5, g6, g7⟩ := g; omega
            refine SWl.off rfl rfl (hb34) rfl rfl ?_
            refine SWl.off rfl rfl (hb34) rfl rfl ?_
            refine SWl.off rfl rfl (hb34) rfl rfl ?_
            refine SWl.rd rfl (Rd.pickY rfl (hb34) rfl) ?_
            refine SWl.rd rfl (Rd.move rfl) ?_
            refine SWl.off rfl rfl (rfl) rfl rfl ?_
            refine SWl.off rfl rfl (rfl) rfl rfl ?_
            refine SWl.off rfl rfl (rfl) rfl rfl ?_
            refine SWl.rd rfl (Rd.pickY rfl (rfl) rfl) ?_
            refine SWl.nil ?_
            refine SN.then ?_
            refine SW.condT rfl (rfl) ?_
            refine SW.seq ?_
            refine SW.region ?_
            refine SWl.rd rfl (Rd.assign rfl) ?_
            refine SWl.nil ?_
            refine SN.then ?_
            refine SW.ret (fn := Tryd.f32) (fun _ _ h => h) (Rs.le (Rs.one rfl (ResV.tmp rfl)) ?_)
            exact Le.trans (Le.is (by rw [incOut_bad hg])) le_nw_is
          · have g5 := of_decide_eq_false hb34
            refine SWl.rdg rfl rfl (hb34) rfl rfl (Rd.move rfl) ?_
            refine SWl.rdg rfl rfl (hb34) rfl rfl (Rd.len (e := 5) rfl (by kernel_rfl)) ?_
            refine SWl.rdg rfl rfl (hb34) rfl rfl (Rd.nei rfl rfl) ?_
            refine SWl.rd rfl (Rd.pickN rfl (hb34) rfl) ?_
            refine SWl.rd rfl (Rd.move rfl) ?_
            refine SWl.split 39 rfl (fun hb39 => ?_) (fun hb39 => ?_)
            · have hg : ¬ incGood root n i e p := fun g => by have g := g.2.2.2.2.2.1; simp [g] at hb39
              refine SWl.off rfl rfl (hb39) rfl rfl ?_
              refine SWl.off rfl rfl (hb39) rfl rfl ?_
              refine SWl.off rfl rfl (hb39) rfl rfl ?_
              refine SWl.rd rfl (Rd.pickY rfl (hb39) rfl) ?_
              refine SWl.nil ?_
              refine SN.then ?_
              refine SW.condT rfl (rfl) ?_
              refine SW.seq ?_
              refine SW.region ?_
              refine SWl.rd rfl (Rd.assign rfl) ?_
              refine SWl.nil ?_
              refine SN.then ?_
              refine SW.ret (fn := Tryd.f32) (fun _ _ h => h) (Rs.le (Rs.one rfl (ResV.tmp rfl)) ?_)
              exact Le.trans (Le.is (by rw [incOut_bad hg])) le_nw_is
            · have g6 : root.length = 32 := by simp at hb39; omega
              refine SWl.rdg rfl rfl (hb39) rfl rfl (Rd.move rfl) ?_
              refine SWl.efg (S := []) rfl rfl (hb39) rfl (Ef.callN [] (con_digestsR _ (by first | assumption | omega)) rfl ⟨(sees_le (Le.refl _)), trivial⟩ rfl) ?_
              rintro _ rfl
              refine SWl.rdg rfl rfl (hb39) rfl rfl (Rd.not rfl) ?_
              refine SWl.rd rfl (Rd.pickN rfl (hb39) rfl) ?_
              refine SWl.nil ?_
              refine SN.then ?_
              refine SW.cond rfl (fun hb43 => ?_) (fun hb43 => ?_)
              · have hg : ¬ incGood root n i e p := fun g => by have g := g.2.2.2.2.2.2; simp at hb43; obtain ⟨d, hd, h⟩ := hb43; exact h (g d hd)
                refine SW.seq ?_
                refine SW.region ?_
                refine SWl.rd rfl (Rd.assign rfl) ?_
                refine SWl.nil ?_
                refine SN.then ?_
                refine SW.ret (fn := Tryd.f32) (fun _ _ h => h) (Rs.le (Rs.one rfl (ResV.tmp rfl)) ?_)
                exact Le.trans (Le.is (by rw [incOut_bad hg])) le_nw_is
              · have g7 : ∀ d ∈ p, d.length = 32 := by simp at hb43; exact hb43
                refine SW.skip ?_
                refine SN.then ?_
                refine SW.seq ?_
                refine SW.region ?_
                have hg : incGood root n i e p := ⟨g1, by omega, by omega, by omega, by omega, g6, g7⟩
                obtain ⟨n, rfl⟩ : ∃ m : Nat, n = m := ⟨n.toNat, by omega⟩
                obtain ⟨i, rfl⟩ : ∃ m : Nat, i = m := ⟨i.toNat, by omega⟩
                unfold Led.Ent.fit at g1
                refine SWl.rd rfl (Rd.move rfl) ?_
                refine SWl.rd rfl (Rd.move rfl) ?_
                refine SWl.rd rfl (Rd.loadA 0 2 rfl rfl (by kernel_rfl) rfl ap_nil) ?_
                refine SWl.ef (S := []) (Ef.callN [] (con_leafR e.kind e.bytes (by omega) (by omega)) rfl ⟨(sees_agg ⟨(sees_le (Le.refl _)), (sees_le (Le.refl _)), trivial⟩), trivial⟩ rfl) ?_
                rintro _ rfl
                refine SWl.rd rfl (Rd.move rfl) ?_
                refine SWl.ef (S := []) (Ef.callR [] (con_incR n i (Led.leaf HH ⟨e.kind, e.bytes⟩) p (by omega) (by omega) (by simp) hp g7) rfl ⟨Le.refl _, Le.refl _, Le.refl _, Le.refl _, trivial⟩ (by decide) trivial (fun _ h => h) rfl) ?_
                rintro _ ⟨⟨t50, ht50⟩, rfl⟩
                refine SWl.rd rfl (Rd.move rfl) ?_
                refine SWl.rd rfl (Rd.extract rfl rfl) ?_
                refine SWl.rd rfl (Rd.extract rfl rfl) ?_
                refine SWl.rd rfl (Rd.extract rfl rfl) ?_
                refine SWl.rd rfl (Rd.assign rfl) ?_
                refine SWl.rd rfl (Rd.assign rfl) ?_
                refine SWl.rd rfl (Rd.assign rfl) ?_
                refine SWl.nil ?_
                refine SN.then ?_
                refine SW.seq ?_
                refine SW.seq ?_
                refine SW.region ?_
                refine SWl.rd rfl (Rd.move rfl) ?_
                refine SWl.rd rfl (Rd.not rfl) ?_
                refine SWl.rd rfl (Rd.move rfl) ?_
                refine SWl.split 56 rfl (fun hb56 => ?_) (fun hb56 => ?_)
                · have hz : t50.2.2 = false := by simpa using hb56
                  refine SWl.off rfl rfl (hb56) rfl rfl ?_
                  refine SWl.off rfl rfl (hb56) rfl rfl ?_
                  refine SWl.off rfl rfl (hb56) rfl rfl ?_
                  refine SWl.rd rfl (Rd.pickY rfl (hb56) rfl) ?_
                  refine SWl.rd rfl (Rd.move rfl) ?_
                  refine SWl.off rfl rfl (rfl) rfl rfl ?_
                  refine SWl.off rfl rfl (rfl) rfl rfl ?_
                  refine SWl.off rfl rfl (rfl) rfl rfl ?_
                  refine SWl.off rfl rfl (rfl) rfl rfl ?_
                  refine SWl.rd rfl (Rd.pickY rfl (rfl) rfl) ?_
                  refine SWl.nil ?_
                  refine SN.then ?_
                  refine SW.condT rfl (rfl) ?_
                  refine SW.seq ?_
                  refine SW.region ?_
                  refine SWl.rd rfl (Rd.assign rfl) ?_
                  refine SWl.nil ?_
                  refine SN.then ?_
                  refine SW.ret (fn := Tryd.f32) (fun _ _ h => h) (Rs.le (Rs.one rfl (ResV.tmp rfl)) ?_)
                  exact Le.trans (Le.is (by rw [incOut_no hg (by rw [Int.toNat_natCast, Int.toNat_natCast, ht50.1]; simp [hz])])) le_nw_is
                · have hz : t50.2.2 = true := by simpa using hb56
                  refine SWl.rdg rfl rfl (hb56) rfl rfl (Rd.move rfl) ?_
                  refine SWl.rdg rfl rfl (hb56) rfl rfl (Rd.lenR (e := 28) rfl (by kernel_rfl)) ?_
                  refine SWl.rdg rfl rfl (hb56) rfl rfl (Rd.gtr rfl rfl) ?_
                  refine SWl.rd rfl (Rd.pickN rfl (hb56) rfl) ?_
                  refine SWl.rd rfl (Rd.move rfl) ?_
                  refine SWl.split 61 rfl (fun hb61 => ?_) (fun hb61 => ?_)
                  · have hr : t50.2.1 ≠ [] := by intro e; rw [e] at hb61; simp at hb61
                    refine SWl.off rfl rfl (hb61) rfl rfl ?_
                    refine SWl.off rfl rfl (hb61) rfl rfl ?_
                    refine SWl.off rfl rfl (hb61) rfl rfl ?_
                    refine SWl.off rfl rfl (hb61) rfl rfl ?_
                    refine SWl.rd rfl (Rd.pickY rfl (hb61) rfl) ?_
                    refine SWl.nil ?_
                    refine SN.then ?_
                    refine SW.condT rfl (rfl) ?_
                    refine SW.seq ?_
                    refine SW.region ?_
                    refine SWl.rd rfl (Rd.assign rfl) ?_
                    refine SWl.nil ?_
                    refine SN.then ?_
                    refine SW.ret (fn := Tryd.f32) (fun _ _ h => h) (Rs.le (Rs.one rfl (ResV.tmp rfl)) ?_)
                    exact Le.trans (Le.is (by rw [incOut_no hg (by rw [Int.toNat_natCast, Int.toNat_natCast, ht50.1]; simp [hr])])) le_nw_is
                  · have hr : t50.2.1 = [] := by simpa using hb61
                    refine SWl.rdg rfl rfl (hb61) rfl rfl (Rd.move rfl) ?_
                    refine SWl.rdg rfl rfl (hb61) rfl rfl (Rd.move rfl) ?_
                    refine SWl.rdg rfl rfl (hb61) rfl rfl (Rd.str (e := 5) rfl (by kernel_rfl) (by kernel_rfl) (by kernel_rfl) (by simp)) ?_
                    refine SWl.rdg rfl rfl (hb61) rfl rfl (Rd.nes (p := t50.1) (q := root) rfl rfl) ?_
                    refine SWl.rd rfl (Rd.pickN rfl (hb61) rfl) ?_
                    refine SWl.nil ?_
                    refine SN.then ?_
                    refine SW.cond rfl (fun hb66 => ?_) (fun hb66 => ?_)
                    · have hs : ¬ t50.1 = root := by simpa using hb66
                      refine SW.seq ?_
                      refine SW.region ?_
                      refine SWl.rd rfl (Rd.assign rfl) ?_
                      refine SWl.nil ?_
                      refine SN.then ?_
                      refine SW.ret (fn := Tryd.f32) (fun _ _ h => h) (Rs.le (Rs.one rfl (ResV.tmp rfl)) ?_)
                      exact Le.trans (Le.is (by rw [incOut_no hg (by rw [Int.toNat_natCast, Int.toNat_natCast, ht50.1]; rw [if_pos ⟨hz, hr⟩]; simpa using hs)])) le_nw_is
                    · have hs : t50.1 = root := by simpa using hb66
                      refine SW.skip ?_
                      refine SN.then ?_
                      refine SW.seq ?_
                      refine SW.region ?_
                      refine SWl.rd rfl (Rd.assign rfl) ?_
                      refine SWl.nil ?_
                      refine SN.then ?_
                      refine SW.ret (fn := Tryd.f32) (fun _ _ h => h) (Rs.le (Rs.one rfl (ResV.tmp rfl)) ?_)
                      exact Le.trans (Le.is (by rw [incOut_yes hg (by rw [Int.toNat_natCast, Int.toNat_natCast, ht50.1, if_pos ⟨hz, hr⟩, hs])])) le_nw_is
set_option maxHeartbeats 4000000 in
set_option maxRecDepth 100000 in
theorem con_conR_step (m n : Nat) (o : Bool) (d : List UInt8) (p : List (List UInt8)) (h0 : 0 < m) (hm : m ≤ n) (hn : n ≤ 4096) (hd : d.length ≤ 32) (hp : p.length ≤ 1000000) (hq : ∀ x ∈ p, x.length = 32) (ih : ∀ (m' n' : Nat) (o' : Bool) (p' : List (List UInt8)), n' < n → 0 < m' → m' ≤ n' → p'.length ≤ 1000000 → (∀ x ∈ p', x.length = 32) → ConRR m' n' o' d p') : ConR Tryd.prog 62 [] [iD (m : Int), iD (n : Int), boolD o, strD d, lsD encL p] (fun t : {t : List UInt8 × List UInt8 × List (List UInt8) × Bool // ConOK m n o d p t} => []) (fun t : {t : List UInt8 × List UInt8 × List (List UInt8) × Bool // ConOK m n o d p t} => tupD [strD t.1.1, strD t.1.2.1, lsD encL t.1.2.2.1, boolD t.1.2.2.2]) := by
  refine con_ofR Tryd.func62 (by kernel_rfl) rfl (by kernel_rfl) fun base w0 => ?_
  refine SW.seq ?_
  refine SW.region ?_
  refine SWl.rd rfl (Rd.assign rfl) ?_
  refine SWl.rd rfl (Rd.assign rfl) ?_
  refine SWl.rd rfl (Rd.assign rfl) ?_
  refine SWl.rd rfl (Rd.assign rfl) ?_
  refine SWl.nil ?_
  refine SN.then ?_
  refine SW.seq ?_
  refine SW.seq ?_
  refine SW.region ?_
  refine SWl.rd rfl (Rd.move rfl) ?_
  refine SWl.rd rfl (Rd.move rfl) ?_
  refine SWl.rd rfl (Rd.eqi rfl rfl) ?_
  refine SWl.rd rfl (Rd.move rfl) ?_
  refine SWl.split 27 rfl (fun hb27 => ?_) (fun hb27 => ?_)
  · have hmn : m = n := by have := of_decide_eq_true hb27; omega
    refine SWl.rdg rfl rfl (hb27) rfl rfl (Rd.move rfl) ?_
    refine SWl.rd rfl (Rd.pickY rfl (hb27) rfl) ?_
    refine SWl.nil ?_
    refine SN.then ?_
    refine SW.cond rfl (fun hb29 => ?_) (fun hb29 => ?_)
    · skip
      refine SW.seq ?_
      refine SW.region ?_
      refine SWl.rd rfl (Rd.move rfl) ?_
      refine SWl.rd rfl (Rd.move rfl) ?_
      refine SWl.rd rfl (Rd.move rfl) ?_
      refine SWl.rd rfl (Rd.assign rfl) ?_
      refine SWl.rd rfl (Rd.assign rfl) ?_
      refine SWl.rd rfl (Rd.assign rfl) ?_
      refine SWl.rd rfl (Rd.assign rfl) ?_
      refine SWl.nil ?_
      refine SN.then ?_
      refine SW.retR (fn := Tryd.f62) (⟨(d, d, p, true), by subst hmn; exact ConOK.same d p h0 hb29 hd⟩) [] (fun _ _ h => h) (Rs.le (Rs.four rfl (ResV.tmp rfl) (ResV.tmp rfl) (ResV.tmp rfl) (ResV.tmp rfl)) ?_) (by decide) trivial
      exact Le.refl _
    · skip
      refine SW.skip ?_
      refine SN.then ?_
      refine SW.seq ?_
      refine SW.seq ?_
      refine SW.region ?_
      refine SWl.rd rfl (Rd.move rfl) ?_
      refine SWl.rd rfl (Rd.lenR (e := 28) rfl (by kernel_rfl)) ?_
      refine SWl.rd rfl (Rd.eqi rfl rfl) ?_
      refine SWl.nil ?_
      refine SN.then ?_
      refine SW.cond rfl (fun hb35 => ?_) (fun hb35 => ?_)
      · have hz : p = [] := List.eq_nil_of_length_eq_zero (by have := of_decide_eq_true hb35; omega)
        refine SW.seq ?_
        refine SW.region ?_
        refine SWl.rd rfl (Rd.assign rfl) ?_
        refine SWl.rd rfl (Rd.assign rfl) ?_
        refine SWl.rd rfl (Rd.assign rfl) ?_
        refine SWl.rd rfl (Rd.assign rfl) ?_
        refine SWl.nil ?_
        refine SN.then ?_
        refine SW.retR (fn := Tryd.f62) (⟨([], [], [], false), by subst hz; exact ConOK.none d h0 hm (by rintro ⟨e, e2⟩; first | exact hmn e | simp [e2] at hb29)⟩) [] (fun _ _ h => h) (Rs.le (Rs.four rfl (ResV.tmp rfl) (ResV.tmp rfl) (ResV.tmp rfl) (ResV.tmp rfl)) ?_) (by decide) trivial
        exact Le.tup ⟨Le.refl _, Le.refl _, le_nil_ls, Le.refl _, trivial⟩
      · have hz : p.length ≠ 0 := by have := of_decide_eq_false hb35; omega
        refine SW.skip ?_
        refine SN.then ?_
        refine SW.seq ?_
        refine SW.region ?_
        obtain ⟨x, hx⟩ : ∃ x, p[p.length - 1]? = some x := ⟨_, List.getElem?_eq_getElem (by omega)⟩
        have hxl := hq x (List.mem_of_getElem? hx)
        have hq2 : ∀ y ∈ p.take (p.length - 1), y.length = 32 := fun y hy => hq y (List.mem_of_mem_take hy)
        refine SWl.rd rfl (Rd.move rfl) ?_
        refine SWl.rd rfl (Rd.move rfl) ?_
        refine SWl.rd rfl (Rd.lenR (e := 28) rfl (by kernel_rfl)) ?_
        refine SWl.rd rfl (Rd.subi rfl rfl ⟨by omega, by omega⟩) ?_
        refine SWl.rd rfl (Rd.idxL (e := 28) 1 rfl rfl (by kernel_rfl) (by kernel_rfl) (by omega) (by simpa using hx)) ?_
        refine SWl.rd rfl (Rd.loadR rfl rfl (by kernel_rfl) (by simp)) ?_
        refine SWl.rd rfl (Rd.str (e := 5) rfl (by kernel_rfl) (by kernel_rfl) (by kernel_rfl) (by simp)) ?_
        refine SWl.rd rfl (Rd.assign rfl) ?_
        refine SWl.nil ?_
        refine SN.then ?_
        refine SW.seq ?_
        refine SW.region ?_
        refine SWl.rd rfl (Rd.move rfl) ?_
        refine SWl.rd rfl (Rd.move rfl) ?_
        refine SWl.rd rfl (Rd.lenR (e := 28) rfl (by kernel_rfl)) ?_
        refine SWl.rd rfl (Rd.mono (Rd.subi rfl rfl ⟨by omega, by omega⟩) (show Le _ (iD ((p.length - 1 : Nat) : Int)) from Le.is (by congr 1; omega))) ?_
        refine SWl.rd rfl (Rd.shL (e := 28) 1 rfl rfl (by kernel_rfl) (by kernel_rfl) (by omega)) ?_
        refine SWl.rd rfl (Rd.assign rfl) ?_
        refine SWl.nil ?_
        refine SN.then ?_
        refine SW.seq ?_
        refine SW.seq ?_
        refine SW.region ?_
        refine SWl.rd rfl (Rd.move rfl) ?_
        refine SWl.rd rfl (Rd.move rfl) ?_
        refine SWl.rd rfl (Rd.eqi rfl rfl) ?_
        refine SWl.nil ?_
        refine SN.then ?_
        refine SW.cond rfl (fun hb50 => ?_) (fun hb50 => ?_)
        · have hmn2 : m = n := by have := of_decide_eq_true hb50; omega
          refine SW.seq ?_
          refine SW.region ?_
          refine SWl.rd rfl (Rd.move rfl) ?_
          refine SWl.rd rfl (Rd.move rfl) ?_
          refine SWl.rd rfl (Rd.move rfl) ?_
          refine SWl.rd rfl (Rd.assign rfl) ?_
          refine SWl.rd rfl (Rd.assign rfl) ?_
          refine SWl.rd rfl (Rd.assign rfl) ?_
          refine SWl.rd rfl (Rd.assign rfl) ?_
          refine SWl.nil ?_
          refine SN.then ?_
          refine SW.retR (fn := Tryd.f62) (⟨(x, x, p.take (p.length - 1), true), by first | exact absurd hmn2 hmn | (subst hmn2; exact ConOK.last h0 (by simp [hb29]) hx hxl)⟩) [] (fun _ _ h => h) (Rs.le (Rs.four rfl (ResV.tmp rfl) (ResV.tmp rfl) (ResV.tmp rfl) (ResV.tmp rfl)) ?_) (by decide) trivial
          exact Le.refl _
        · have hmn2 : ¬ m = n := by have := of_decide_eq_false hb50; omega
          refine SW.skip ?_
          refine SN.then ?_
          refine SW.seq ?_
          refine SW.region ?_
          have hbl := Led.bl_spec (n := n) (by omega)
          refine SWl.rd rfl (Rd.move rfl) ?_
          refine SWl.ef (S := []) (Ef.callN [] (con_splitR n (by omega) (by omega)) rfl ⟨(sees_le (Le.refl _)), trivial⟩ rfl) ?_
          rintro _ rfl
          refine SWl.rd rfl (Rd.assign rfl) ?_
          refine SWl.nil ?_
          refine SN.then ?_
          refine SW.seq ?_
          refine SW.seq ?_
          refine SW.region ?_
          refine SWl.rd rfl (Rd.move rfl) ?_
          refine SWl.rd rfl (Rd.move rfl) ?_
          refine SWl.rd rfl (Rd.leq rfl rfl) ?_
          refine SWl.nil ?_
          refine SN.then ?_
          refine SW.cond rfl (fun hb58 => ?_) (fun hb58 => ?_)
          · have hlt : m ≤ Led.bl n := by have := of_decide_eq_true hb58; omega
            refine SW.seq ?_
            refine SW.region ?_
            refine SWl.rd rfl (Rd.move rfl) ?_
            refine SWl.rd rfl (Rd.move rfl) ?_
            refine SWl.rd rfl (Rd.move rfl) ?_
            refine SWl.rd rfl (Rd.move rfl) ?_
            refine SWl.rd rfl (Rd.move rfl) ?_
            refine SWl.ef (S := []) (Ef.callR [] (ih m (Led.bl n) o (p.take (p.length - 1)) (by omega) h0 hlt (by simp; omega) hq2) rfl ⟨Le.refl _, Le.refl _, Le.refl _, Le.refl _, Le.refl _, trivial⟩ (by decide) trivial (fun _ h => h) rfl) ?_
            rintro _ ⟨⟨t65, ht65⟩, rfl⟩
            refine SWl.rd rfl (Rd.move rfl) ?_
            refine SWl.rd rfl (Rd.extract rfl rfl) ?_
            refine SWl.rd rfl (Rd.extract rfl rfl) ?_
            refine SWl.rd rfl (Rd.extract rfl rfl) ?_
            refine SWl.rd rfl (Rd.extract rfl rfl) ?_
            refine SWl.rd rfl (Rd.assign rfl) ?_
            refine SWl.rd rfl (Rd.assign rfl) ?_
            refine SWl.rd rfl (Rd.assign rfl) ?_
            refine SWl.rd rfl (Rd.assign rfl) ?_
            refine SWl.nil ?_
            refine SN.then ?_
            refine SW.seq ?_
            refine SW.region ?_
            refine SWl.rd rfl (Rd.move rfl) ?_
            refine SWl.rd rfl (Rd.move rfl) ?_
            refine SWl.rd rfl (Rd.move rfl) ?_
            have hj := ht65.2.1
            have hj2 := ht65.2.2.1
            refine SWl.ef (S := []) (Ef.callN [] (con_joinS _ _ (by first | omega | (simp <;> omega)) (by first | omega | (simp <;> omega))) rfl ⟨(sees_le (Le.refl _)), (sees_le (Le.refl _)), trivial⟩ rfl) ?_
            rintro _ rfl
            refine SWl.rd rfl (Rd.move rfl) ?_
            refine SWl.rd rfl (Rd.move rfl) ?_
            refine SWl.rd rfl (Rd.assign rfl) ?_
            refine SWl.rd rfl (Rd.assign rfl) ?_
            refine SWl.rd rfl (Rd.assign rfl) ?_
            refine SWl.rd rfl (Rd.assign rfl) ?_
            refine SWl.nil ?_
            refine SN.then ?_
            refine SW.retR (fn := Tryd.f62) (⟨(t65.1, Led.join HH t65.2.1 x, t65.2.2.1, t65.2.2.2), ConOK.left h0 (by omega) hx hlt ht65⟩) [] (fun _ _ h => h) (Rs.le (Rs.four rfl (ResV.tmp rfl) (ResV.tmp rfl) (ResV.tmp rfl) (ResV.tmp rfl)) ?_) (by decide) trivial
            exact Le.refl _
          · have hlt : ¬ m ≤ Led.bl n := by have := of_decide_eq_false hb58; omega
            refine SW.skip ?_
            refine SN.then ?_
            refine SW.seq ?_
            refine SW.region ?_
            refine SWl.rd rfl (Rd.move rfl) ?_
            refine SWl.rd rfl (Rd.move rfl) ?_
            refine SWl.rd rfl (Rd.subi rfl rfl ⟨by omega, by omega⟩) ?_
            refine SWl.rd rfl (Rd.move rfl) ?_
            refine SWl.rd rfl (Rd.move rfl) ?_
            refine SWl.rd rfl (Rd.subi rfl rfl ⟨by omega, by omega⟩) ?_
            refine SWl.rd rfl (Rd.move rfl) ?_
            refine SWl.rd rfl (Rd.move rfl) ?_
            refine SWl.ef (S := []) (Ef.callR [] (ih (m - Led.bl n) (n - Led.bl n) false (p.take (p.length - 1)) (by omega) (by omega) (by omega) (by simp; omega) hq2) rfl ⟨Le.is (by congr 1; omega), Le.is (by congr 1; omega), Le.refl _, Le.refl _, Le.refl _, trivial⟩ (by decide) trivial (fun _ h => h) rfl) ?_
            rintro _ ⟨⟨t85, ht85⟩, rfl⟩
            refine SWl.rd rfl (Rd.move rfl) ?_
            refine SWl.rd rfl (Rd.extract rfl rfl) ?_
            refine SWl.rd rfl (Rd.extract rfl rfl) ?_
            refine SWl.rd rfl (Rd.extract rfl rfl) ?_
            refine SWl.rd rfl (Rd.extract rfl rfl) ?_
            refine SWl.rd rfl (Rd.assign rfl) ?_
            refine SWl.rd rfl (Rd.assign rfl) ?_
            refine SWl.rd rfl (Rd.assign rfl) ?_
            refine SWl.rd rfl (Rd.assign rfl) ?_
            refine SWl.nil ?_
            refine SN.then ?_
            refine SW.seq ?_
            refine SW.region ?_
            refine SWl.rd rfl (Rd.move rfl) ?_
            refine SWl.rd rfl (Rd.move rfl) ?_
            have hj := ht85.2.1
            have hj2 := ht85.2.2.1
            refine SWl.ef (S := []) (Ef.callN [] (con_joinS _ _ (by first | omega | (simp <;> omega)) (by first | omega | (simp <;> omega))) rfl ⟨(sees_le (Le.refl _)), (sees_le (Le.refl _)), trivial⟩ rfl) ?_
            rintro _ rfl
            refine SWl.rd rfl (Rd.move rfl) ?_
            refine SWl.rd rfl (Rd.move rfl) ?_
            refine SWl.ef (S := []) (Ef.callN [] (con_joinS _ _ (by first | omega | (simp <;> omega)) (by first | omega | (simp <;> omega))) rfl ⟨(sees_le (Le.refl _)), (sees_le (Le.refl _)), trivial⟩ rfl) ?_
            rintro _ rfl
            refine SWl.rd rfl (Rd.move rfl) ?_
            refine SWl.rd rfl (Rd.move rfl) ?_
            refine SWl.rd rfl (Rd.assign rfl) ?_
            refine SWl.rd rfl (Rd.assign rfl) ?_
            refine SWl.rd rfl (Rd.assign rfl) ?_
            refine SWl.rd rfl (Rd.assign rfl) ?_
            refine SWl.nil ?_
            refine SN.then ?_
            refine SW.retR (fn := Tryd.f62) (⟨(Led.join HH x t85.1, Led.join HH x t85.2.1, t85.2.2.1, t85.2.2.2), ConOK.right h0 (by omega) hx hlt ht85⟩) [] (fun _ _ h => h) (Rs.le (Rs.four rfl (ResV.tmp rfl) (ResV.tmp rfl) (ResV.tmp rfl) (ResV.tmp rfl)) ?_) (by decide) trivial
            exact Le.refl _
  · have hmn : ¬ m = n := by have := of_decide_eq_false hb27; omega
    refine SWl.off rfl rfl (hb27) rfl rfl ?_
    refine SWl.rd rfl (Rd.pickN rfl (hb27) rfl) ?_
    refine SWl.nil ?_
    refine SN.then ?_
    refine SW.condF rfl (rfl) ?_
    refine SW.skip ?_
    refine SN.then ?_
    refine SW.seq ?_
    refine SW.seq ?_
    refine SW.region ?_
    refine SWl.rd rfl (Rd.move rfl) ?_
    refine SWl.rd rfl (Rd.lenR (e := 28) rfl (by kernel_rfl)) ?_
    refine SWl.rd rfl (Rd.eqi rfl rfl) ?_
    refine SWl.nil ?_
    refine SN.then ?_
    refine SW.cond rfl (fun hb35 => ?_) (fun hb35 => ?_)
    · have hz : p = [] := List.eq_nil_of_length_eq_zero (by have := of_decide_eq_true hb35; omega)
      refine SW.seq ?_
      refine SW.region ?_
      refine SWl.rd rfl (Rd.assign rfl) ?_
      refine SWl.rd rfl (Rd.assign rfl) ?_
      refine SWl.rd rfl (Rd.assign rfl) ?_
      refine SWl.rd rfl (Rd.assign rfl) ?_
      refine SWl.nil ?_
      refine SN.then ?_
      refine SW.retR (fn := Tryd.f62) (⟨([], [], [], false), by subst hz; exact ConOK.none d h0 hm (by rintro ⟨e, e2⟩; first | exact hmn e | simp [e2] at hb29)⟩) [] (fun _ _ h => h) (Rs.le (Rs.four rfl (ResV.tmp rfl) (ResV.tmp rfl) (ResV.tmp rfl) (ResV.tmp rfl)) ?_) (by decide) trivial
      exact Le.tup ⟨Le.refl _, Le.refl _, le_nil_ls, Le.refl _, trivial⟩
    · have hz : p.length ≠ 0 := by have := of_decide_eq_false hb35; omega
      refine SW.skip ?_
      refine SN.then ?_
      refine SW.seq ?_
      refine SW.region ?_
      obtain ⟨x, hx⟩ : ∃ x, p[p.length - 1]? = some x := ⟨_, List.getElem?_eq_getElem (by omega)⟩
      have hxl := hq x (List.mem_of_getElem? hx)
      have hq2 : ∀ y ∈ p.take (p.length - 1), y.length = 32 := fun y hy => hq y (List.mem_of_mem_take hy)
      refine SWl.rd rfl (Rd.move rfl) ?_
      refine SWl.rd rfl (Rd.move rfl) ?_
      refine SWl.rd rfl (Rd.lenR (e := 28) rfl (by kernel_rfl)) ?_
      refine SWl.rd rfl (Rd.subi rfl rfl ⟨by omega, by omega⟩) ?_
      refine SWl.rd rfl (Rd.idxL (e := 28) 1 rfl rfl (by kernel_rfl) (by kernel_rfl) (by omega) (by simpa using hx)) ?_
      refine SWl.rd rfl (Rd.loadR rfl rfl (by kernel_rfl) (by simp)) ?_
      refine SWl.rd rfl (Rd.str (e := 5) rfl (by kernel_rfl) (by kernel_rfl) (by kernel_rfl) (by simp)) ?_
      refine SWl.rd rfl (Rd.assign rfl) ?_
      refine SWl.nil ?_
      refine SN.then ?_
      refine SW.seq ?_
      refine SW.region ?_
      refine SWl.rd rfl (Rd.move rfl) ?_
      refine SWl.rd rfl (Rd.move rfl) ?_
      refine SWl.rd rfl (Rd.lenR (e := 28) rfl (by kernel_rfl)) ?_
      refine SWl.rd rfl (Rd.mono (Rd.subi rfl rfl ⟨by omega, by omega⟩) (show Le _ (iD ((p.length - 1 : Nat) : Int)) from Le.is (by congr 1; omega))) ?_
      refine SWl.rd rfl (Rd.shL (e := 28) 1 rfl rfl (by kernel_rfl) (by kernel_rfl) (by omega)) ?_
      refine SWl.rd rfl (Rd.assign rfl) ?_
      refine SWl.nil ?_
      refine SN.then ?_
      refine SW.seq ?_
      refine SW.seq ?_
      refine SW.region ?_
      refine SWl.rd rfl (Rd.move rfl) ?_
      refine SWl.rd rfl (Rd.move rfl) ?_
      refine SWl.rd rfl (Rd.eqi rfl rfl) ?_
      refine SWl.nil ?_
      refine SN.then ?_
      refine SW.cond rfl (fun hb50 => ?_) (fun hb50 => ?_)
      · have hmn2 : m = n := by have := of_decide_eq_true hb50; omega
        refine SW.seq ?_
        refine SW.region ?_
        refine SWl.rd rfl (Rd.move rfl) ?_
        refine SWl.rd rfl (Rd.move rfl) ?_
        refine SWl.rd rfl (Rd.move rfl) ?_
        refine SWl.rd rfl (Rd.assign rfl) ?_
        refine SWl.rd rfl (Rd.assign rfl) ?_
        refine SWl.rd rfl (Rd.assign rfl) ?_
        refine SWl.rd rfl (Rd.assign rfl) ?_
        refine SWl.nil ?_
        refine SN.then ?_
        refine SW.retR (fn := Tryd.f62) (⟨(x, x, p.take (p.length - 1), true), by first | exact absurd hmn2 hmn | (subst hmn2; exact ConOK.last h0 (by simp [hb29]) hx hxl)⟩) [] (fun _ _ h => h) (Rs.le (Rs.four rfl (ResV.tmp rfl) (ResV.tmp rfl) (ResV.tmp rfl) (ResV.tmp rfl)) ?_) (by decide) trivial
        exact Le.refl _
      · have hmn2 : ¬ m = n := by have := of_decide_eq_false hb50; omega
        refine SW.skip ?_
        refine SN.then ?_
        refine SW.seq ?_
        refine SW.region ?_
        have hbl := Led.bl_spec (n := n) (by omega)
        refine SWl.rd rfl (Rd.move rfl) ?_
        refine SWl.ef (S := []) (Ef.callN [] (con_splitR n (by omega) (by omega)) rfl ⟨(sees_le (Le.refl _)), trivial⟩ rfl) ?_
        rintro _ rfl
        refine SWl.rd rfl (Rd.assign rfl) ?_
        refine SWl.nil ?_
        refine SN.then ?_
        refine SW.seq ?_
        refine SW.seq ?_
        refine SW.region ?_
        refine SWl.rd rfl (Rd.move rfl) ?_
        refine SWl.rd rfl (Rd.move rfl) ?_
        refine SWl.rd rfl (Rd.leq rfl rfl) ?_
        refine SWl.nil ?_
        refine SN.then ?_
        refine SW.cond rfl (fun hb58 => ?_) (fun hb58 => ?_)
        · have hlt : m ≤ Led.bl n := by have := of_decide_eq_true hb58; omega
          refine SW.seq ?_
          refine SW.region ?_
          refine SWl.rd rfl (Rd.move rfl) ?_
          refine SWl.rd rfl (Rd.move rfl) ?_
          refine SWl.rd rfl (Rd.move rfl) ?_
          refine SWl.rd rfl (Rd.move rfl) ?_
          refine SWl.rd rfl (Rd.move rfl) ?_
          refine SWl.ef (S := []) (Ef.callR [] (ih m (Led.bl n) o (p.take (p.length - 1)) (by omega) h0 hlt (by simp; omega) hq2) rfl ⟨Le.refl _, Le.refl _, Le.refl _, Le.refl _, Le.refl _, trivial⟩ (by decide) trivial (fun _ h => h) rfl) ?_
          rintro _ ⟨⟨t65, ht65⟩, rfl⟩
          refine SWl.rd rfl (Rd.move rfl) ?_
          refine SWl.rd rfl (Rd.extract rfl rfl) ?_
          refine SWl.rd rfl (Rd.extract rfl rfl) ?_
          refine SWl.rd rfl (Rd.extract rfl rfl) ?_
          refine SWl.rd rfl (Rd.extract rfl rfl) ?_
          refine SWl.rd rfl (Rd.assign rfl) ?_
          refine SWl.rd rfl (Rd.assign rfl) ?_
          refine SWl.rd rfl (Rd.assign rfl) ?_
          refine SWl.rd rfl (Rd.assign rfl) ?_
          refine SWl.nil ?_
          refine SN.then ?_
          refine SW.seq ?_
          refine SW.region ?_
          refine SWl.rd rfl (Rd.move rfl) ?_
          refine SWl.rd rfl (Rd.move rfl) ?_
          refine SWl.rd rfl (Rd.move rfl) ?_
          have hj := ht65.2.1
          have hj2 := ht65.2.2.1
          refine SWl.ef (S := []) (Ef.callN [] (con_joinS _ _ (by first | omega | (simp <;> omega)) (by first | omega | (simp <;> omega))) rfl ⟨(sees_le (Le.refl _)), (sees_le (Le.refl _)), trivial⟩ rfl) ?_
          rintro _ rfl
          refine SWl.rd rfl (Rd.move rfl) ?_
          refine SWl.rd rfl (Rd.move rfl) ?_
          refine SWl.rd rfl (Rd.assign rfl) ?_
          refine SWl.rd rfl (Rd.assign rfl) ?_
          refine SWl.rd rfl (Rd.assign rfl) ?_
          refine SWl.rd rfl (Rd.assign rfl) ?_
          refine SWl.nil ?_
          refine SN.then ?_
          refine SW.retR (fn := Tryd.f62) (⟨(t65.1, Led.join HH t65.2.1 x, t65.2.2.1, t65.2.2.2), ConOK.left h0 (by omega) hx hlt ht65⟩) [] (fun _ _ h => h) (Rs.le (Rs.four rfl (ResV.tmp rfl) (ResV.tmp rfl) (ResV.tmp rfl) (ResV.tmp rfl)) ?_) (by decide) trivial
          exact Le.refl _
        · have hlt : ¬ m ≤ Led.bl n := by have := of_decide_eq_false hb58; omega
          refine SW.skip ?_
          refine SN.then ?_
          refine SW.seq ?_
          refine SW.region ?_
          refine SWl.rd rfl (Rd.move rfl) ?_
          refine SWl.rd rfl (Rd.move rfl) ?_
          refine SWl.rd rfl (Rd.subi rfl rfl ⟨by omega, by omega⟩) ?_
          refine SWl.rd rfl (Rd.move rfl) ?_
          refine SWl.rd rfl (Rd.move rfl) ?_
          refine SWl.rd rfl (Rd.subi rfl rfl ⟨by omega, by omega⟩) ?_
          refine SWl.rd rfl (Rd.move rfl) ?_
          refine SWl.rd rfl (Rd.move rfl) ?_
          refine SWl.ef (S := []) (Ef.callR [] (ih (m - Led.bl n) (n - Led.bl n) false (p.take (p.length - 1)) (by omega) (by omega) (by omega) (by simp; omega) hq2) rfl ⟨Le.is (by congr 1; omega), Le.is (by congr 1; omega), Le.refl _, Le.refl _, Le.refl _, trivial⟩ (by decide) trivial (fun _ h => h) rfl) ?_
          rintro _ ⟨⟨t85, ht85⟩, rfl⟩
          refine SWl.rd rfl (Rd.move rfl) ?_
          refine SWl.rd rfl (Rd.extract rfl rfl) ?_
          refine SWl.rd rfl (Rd.extract rfl rfl) ?_
          refine SWl.rd rfl (Rd.extract rfl rfl) ?_
          refine SWl.rd rfl (Rd.extract rfl rfl) ?_
          refine SWl.rd rfl (Rd.assign rfl) ?_
          refine SWl.rd rfl (Rd.assign rfl) ?_
          refine SWl.rd rfl (Rd.assign rfl) ?_
          refine SWl.rd rfl (Rd.assign rfl) ?_
          refine SWl.nil ?_
          refine SN.then ?_
          refine SW.seq ?_
          refine SW.region ?_
          refine SWl.rd rfl (Rd.move rfl) ?_
          refine SWl.rd rfl (Rd.move rfl) ?_
          have hj := ht85.2.1
          have hj2 := ht85.2.2.1
          refine SWl.ef (S := []) (Ef.callN [] (con_joinS _ _ (by first | omega | (simp <;> omega)) (by first | omega | (simp <;> omega))) rfl ⟨(sees_le (Le.refl _)), (sees_le (Le.refl _)), trivial⟩ rfl) ?_
          rintro _ rfl
          refine SWl.rd rfl (Rd.move rfl) ?_
          refine SWl.rd rfl (Rd.move rfl) ?_
          refine SWl.ef (S := []) (Ef.callN [] (con_joinS _ _ (by first | omega | (simp <;> omega)) (by first | omega | (simp <;> omega))) rfl ⟨(sees_le (Le.refl _)), (sees_le (Le.refl _)), trivial⟩ rfl) ?_
          rintro _ rfl
          refine SWl.rd rfl (Rd.move rfl) ?_
          refine SWl.rd rfl (Rd.move rfl) ?_
          refine SWl.rd rfl (Rd.assign rfl) ?_
          refine SWl.rd rfl (Rd.assign rfl) ?_
          refine SWl.rd rfl (Rd.assign rfl) ?_
          refine SWl.rd rfl (Rd.assign rfl) ?_
          refine SWl.nil ?_
          refine SN.then ?_
          refine SW.retR (fn := Tryd.f62) (⟨(Led.join HH x t85.1, Led.join HH x t85.2.1, t85.2.2.1, t85.2.2.2), ConOK.right h0 (by omega) hx hlt ht85⟩) [] (fun _ _ h => h) (Rs.le (Rs.four rfl (ResV.tmp rfl) (ResV.tmp rfl) (ResV.tmp rfl) (ResV.tmp rfl)) ?_) (by decide) trivial
          exact Le.refl _
theorem con_conR : ∀ (n m : Nat) (o : Bool) (d : List UInt8) (p : List (List UInt8)), 0 < m → m ≤ n → n ≤ 4096 → d.length ≤ 32 → p.length ≤ 1000000 → (∀ x ∈ p, x.length = 32) → ConRR m n o d p := by
  intro n
  induction n using Nat.strongRecOn with
  | ind n ih =>
    intro m o d p h0 hm hn hd hp hq
    exact con_conR_step m n o d p h0 hm hn hd hp hq (fun m' n' o' p' h h' h2 h3 h4 => ih n' h m' o' d p' h' h2 (by omega) hd h3 h4)
end Sx
end Go.Proofs.YtonjpfpdpfonnaaDoor
