/-
  ACCOUNTS: the reference's words.
  ACCOUNTS: the reference's Name, Valid, Same, At, Of.
  ACCOUNTS: the reference's Remove, Add.
-/
import Derived.Test.YtchbgfgboogniaaDoorGZ
namespace Go.Proofs.YtchbgfgboogniaaDoor
open Go.RowKit
namespace Sx
theorem Acc.nums_alt (r : Int) : (if r = 3 then 1 else if r = 2 then 32 else if r = 1 then 512 else 0) = Acc.nums r := by
  unfold Acc.nums
  by_cases h1 : r = 1
  · subst h1; rfl
  · by_cases h2 : r = 2
    · subst h2; rfl
    · by_cases h3 : r = 3
      · subst h3; rfl
      · simp [h1, h2, h3]
theorem Acc.okN_iff' {nm : List UInt8} {role : Int} {kl : Nat} {dep num : Int} (h1 : Acc.isName nm) (h2 : kl = 32) (h3 : 0 ≤ dep) (h4 : dep ≤ 1125899906842624) (h5 : 0 ≤ num) : Acc.okN nm role kl dep num ↔ num < Acc.nums role := Acc.okN_iff h1 h2 (by omega) (by omega) (by omega)
/-- Two accounts are the same. -/
def Acc.eqv (a b : Acc.T) : Prop := a.name = b.name ∧ a.role = b.role ∧ a.key = b.key ∧ a.dep = b.dep ∧ a.num = b.num
instance (a b : Acc.T) : Decidable (Acc.eqv a b) := by unfold Acc.eqv; infer_instance
class IsSl (d : D) : Prop where
  h : ∀ L w v, d.R L w v → ∃ A n c, v = .slice A n c
instance (A : Option Addr) (n c : Nat) : IsSl (isD (.slice A n c)) := ⟨fun _ _ _ h => ⟨A, n, c, h⟩⟩
instance (xs : List Value) : IsSl (slD xs) := ⟨fun _ _ _ ⟨A, c, h, _⟩ => ⟨A, _, c, h⟩⟩
instance (n : Nat) (ds : List D) : IsSl (rwD n ds) := ⟨fun _ _ _ ⟨A, c, h, _⟩ => ⟨A, _, c, h⟩⟩
instance (n : Nat) (d : D) [h : IsSl d] : IsSl (nwD n d) := ⟨fun L w v hv => h.h _ _ _ (le_nw _ _ _ hv)⟩
theorem bldRB {f : D} [hd : IsSl f] : Bld Tryd.prog 47 [0] [f] [f] := fun L w vs hv => by
  obtain ⟨u, rfl, hu⟩ := all1 hv
  obtain ⟨A, n, c, rfl⟩ := hd.h _ _ _ hu
  exact ⟨[.slice A n c], ⟨hu, trivial⟩, fun w' => by kernel_rfl⟩
/-- Where a new account is put while the others are copied. -/
def Acc.out (l : List Acc.T) (a : Acc.T) (i : Nat) : List Acc.T := if Acc.pos l a.name < i then l.take (Acc.pos l a.name) ++ a :: (l.take i).drop (Acc.pos l a.name) else l.take i
theorem Acc.out0 (l : List Acc.T) (a : Acc.T) : Acc.out l a 0 = [] := by unfold Acc.out; rw [if_neg (Nat.not_lt_zero _)]; rfl
theorem Acc.out_len {l : List Acc.T} {a : Acc.T} {i : Nat} (h : i ≤ l.length) : (Acc.out l a i).length ≤ i + 1 := by
  unfold Acc.out
  split
  · simp; omega
  · simp; omega
theorem Acc.out_in {l : List Acc.T} {a : Acc.T} {i : Nat} {x : Acc.T} (hx : l[i]? = some x) (h : i = Acc.pos l a.name) : Acc.out l a (i + 1) = Acc.out l a i ++ [a] ++ [x] := by
  have hi := (List.getElem?_eq_some_iff.1 hx).1
  unfold Acc.out
  rw [if_pos (by omega), if_neg (by omega), ← h, take_snoc hx, List.drop_append_of_le_length (by simp; omega), List.drop_of_length_le (by simp; omega)]
  simp
theorem Acc.out_bef {l : List Acc.T} {a : Acc.T} {i : Nat} {x : Acc.T} (hx : l[i]? = some x) (h : i < Acc.pos l a.name) : Acc.out l a (i + 1) = Acc.out l a i ++ [x] := by
  unfold Acc.out
  rw [if_neg (by omega), if_neg (by omega), take_snoc hx]
theorem Acc.out_aft {l : List Acc.T} {a : Acc.T} {i : Nat} {x : Acc.T} (hx : l[i]? = some x) (h : Acc.pos l a.name < i) : Acc.out l a (i + 1) = Acc.out l a i ++ [x] := by
  have hi := (List.getElem?_eq_some_iff.1 hx).1
  unfold Acc.out
  rw [if_pos (by omega), if_pos h, take_snoc hx, List.drop_append_of_le_length (by simp; omega)]
  simp
theorem Acc.out_end {l : List Acc.T} {a : Acc.T} (h : Acc.pos l a.name < l.length) : Acc.out l a l.length = Acc.ins l a := by
  unfold Acc.out
  rw [if_pos h, List.take_length, Acc.ins_eq]
theorem Acc.out_end' {l : List Acc.T} {a : Acc.T} (h : ¬ Acc.pos l a.name < l.length) : Acc.out l a l.length ++ [a] = Acc.ins l a := by
  have := Acc.pos_le l a.name
  unfold Acc.out
  rw [if_neg h, List.take_length, Acc.ins_eq, List.take_of_length_le (by omega), List.drop_of_length_le (by omega)]
/-- Below it, or not. -/
theorem Acc.pos_step {l : List Acc.T} {a x : Acc.T} {i : Nat} (h : Acc.inOrder l) (hx : l[i]? = some x) (hne : x.name ≠ a.name) (hi : ¬ Acc.pos l a.name < i) : Acc.lt a.name x.name = decide (i = Acc.pos l a.name) := by
  have hil := (List.getElem?_eq_some_iff.1 hx).1
  have hv : (l.map Acc.T.name)[i]?.getD a.name = x.name := by simp [hx]
  by_cases e : i = Acc.pos l a.name
  · rw [decide_eq_true e]
    have h1 := Acc.pos_ge (n := a.name) h (Nat.le_of_eq e.symm)
    rw [hv] at h1
    rcases Acc.lt_tri a.name x.name with h2 | h2 | h2
    · exact h2
    · exact absurd h2.symm hne
    · rw [h1] at h2; cases h2
  · rw [decide_eq_false e]
    have h1 := Acc.pos_lt (l := l) (n := a.name) (t := i) (by omega)
    rw [hv] at h1
    exact Acc.lt_asym h1
end Sx
end Go.Proofs.YtchbgfgboogniaaDoor
namespace Go.Proofs.YtchbgfgboogniaaDoor
open Go.RowKit
namespace Sx
set_option maxHeartbeats 4000000 in
set_option maxRecDepth 100000 in
theorem con_NameR (s : List UInt8) (hs : s.length ≤ 1000000) : ConN Tryd.prog 74 [strD s] (boolD (decide (Acc.isName s))) := by
  refine con_ofN Tryd.func74 (by kernel_rfl) rfl (by kernel_rfl) fun base w0 => ?_
  refine SW.seq ?_
  refine SW.region ?_
  refine SWl.rd rfl (Rd.assign rfl) ?_
  refine SWl.nil ?_
  refine SN.then ?_
  refine SW.seq ?_
  refine SW.seq ?_
  refine SW.region ?_
  refine SWl.rd rfl (Rd.assign rfl) ?_
  refine SWl.nil ?_
  refine SN.then ?_
  refine SW.block ?_
  refine SW.loop (ι := {i : Nat // i ≤ s.length ∧ ∀ c ∈ s.take i, Acc.chr c}) (fun i => St.ob [(0, strD s), (3, iD (i.1 : Int))] []) (fun i => s.length - i.1) (⟨0, Nat.zero_le _, by simp⟩) ?_ ?_
  · exact ⟨⟨_, rfl, ⟨⟨_, rfl, Le.refl _⟩, ⟨⟨_, rfl, Le.refl _⟩, trivial⟩⟩⟩, [], by decide, trivial⟩
  · rintro ⟨i, hi⟩ K0 hK0
    dsimp only at hi ⊢
    refine SW.seq ?_
    refine SW.seq ?_
    refine SW.region ?_
    refine SWl.rd rfl (Rd.move rfl) ?_
    refine SWl.rd rfl (Rd.move rfl) ?_
    refine SWl.rd rfl (Rd.lenb rfl (by kernel_rfl)) ?_
    refine SWl.rd rfl (Rd.lss rfl rfl) ?_
    refine SWl.nil ?_
    refine SN.then ?_
    refine SW.cond rfl (fun hb7 => ?_) (fun hb7 => ?_)
    · have h7 := of_decide_eq_true hb7
      refine SW.skip ?_
      refine SN.then ?_
      refine SW.seq ?_
      refine SW.block ?_
      refine SW.seq ?_
      obtain ⟨c, hc⟩ : ∃ c, s[i]? = some c := ⟨_, List.getElem?_eq_getElem (by omega)⟩
      refine SW.region ?_
      refine SWl.rd rfl (Rd.move rfl) ?_
      refine SWl.rd rfl (Rd.move rfl) ?_
      refine SWl.rd rfl (Rd.sidx rfl rfl (by kernel_rfl) (by omega) (by simpa using hc)) ?_
      refine SWl.rd rfl (Rd.geq rfl rfl) ?_
      refine SWl.rd rfl (Rd.move rfl) ?_
      refine SWl.split 14 rfl (fun hb14 => ?_) (fun hb14 => ?_)
      · have h14 := of_decide_eq_true hb14
        refine SWl.rdg rfl rfl (hb14) rfl rfl (Rd.move rfl) ?_
        refine SWl.rdg rfl rfl (hb14) rfl rfl (Rd.move rfl) ?_
        refine SWl.rdg rfl rfl (hb14) rfl rfl (Rd.sidx rfl rfl (by kernel_rfl) (by omega) (by simpa using hc)) ?_
        refine SWl.rdg rfl rfl (hb14) rfl rfl (Rd.leq rfl rfl) ?_
        refine SWl.rd rfl (Rd.pickY rfl (hb14) rfl) ?_
        refine SWl.rd rfl (Rd.move rfl) ?_
        refine SWl.split 20 rfl (fun hb20 => ?_) (fun hb20 => ?_)
        · have h20 := of_decide_eq_true hb20
          refine SWl.off rfl rfl (hb20) rfl rfl ?_
          refine SWl.off rfl rfl (hb20) rfl rfl ?_
          refine SWl.off rfl rfl (hb20) rfl rfl ?_
          refine SWl.off rfl rfl (hb20) rfl rfl ?_
          refine SWl.off rfl rfl (hb20) rfl rfl ?_
          refine SWl.offu rfl rfl rfl rfl ?_
          refine SWl.offu rfl rfl rfl rfl ?_
          refine SWl.offu rfl rfl rfl rfl ?_
          refine SWl.offu rfl rfl rfl rfl ?_
          refine SWl.off rfl rfl (hb20) rfl rfl ?_
          refine SWl.rd rfl (Rd.pickY rfl (hb20) rfl) ?_
          refine SWl.rd rfl (Rd.move rfl) ?_
          refine SWl.off rfl rfl (rfl) rfl rfl ?_
          refine SWl.off rfl rfl (rfl) rfl rfl ?_
          refine SWl.off rfl rfl (rfl) rfl rfl ?_
          refine SWl.off rfl rfl (rfl) rfl rfl ?_
          refine SWl.rd rfl (Rd.pickY rfl (rfl) rfl) ?_
          refine SWl.rd rfl (Rd.not rfl) ?_
          refine SWl.nil ?_
          refine SN.then ?_
          refine SW.condF rfl (rfl) ?_
          refine SW.skip ?_
          refine SN.block ?_
          refine SN.then ?_
          refine SW.region ?_
          refine SWl.rd rfl (Rd.move rfl) ?_
          refine SWl.rd rfl (Rd.add rfl rfl ⟨by omega, by omega⟩) ?_
          refine SWl.rd rfl (Rd.assign rfl) ?_
          refine SWl.nil ?_
          have hgood : Acc.chr c := by first | (unfold Acc.chr; omega) | ((have h38 := hb38; simp only [Bool.not_eq_false', decide_eq_true_eq] at h38); unfold Acc.chr; omega)
          exact fun a w hh => hK0 (⟨i + 1, by omega, fun d hd => by rw [take_snoc hc] at hd; rcases List.mem_append.1 hd with hd | hd; exact hi.2 d hd; rw [List.mem_singleton.1 hd]; exact hgood⟩) (by dsimp only; omega) a w (hh.sub (⟨⟨_, rfl, ⟨⟨_, rfl, Le.refl _⟩, ⟨⟨_, rfl, Le.is (by simp)⟩, trivial⟩⟩⟩, [], by decide, trivial⟩))
        · have h20 := of_decide_eq_false hb20
          refine SWl.rdg rfl rfl (hb20) rfl rfl (Rd.move rfl) ?_
          refine SWl.rdg rfl rfl (hb20) rfl rfl (Rd.move rfl) ?_
          refine SWl.rdg rfl rfl (hb20) rfl rfl (Rd.sidx rfl rfl (by kernel_rfl) (by omega) (by simpa using hc)) ?_
          refine SWl.rdg rfl rfl (hb20) rfl rfl (Rd.geq rfl rfl) ?_
          refine SWl.rdg rfl rfl (hb20) rfl rfl (Rd.move rfl) ?_
          refine SWl.split 25 rfl (fun hb25 => ?_) (fun hb25 => ?_)
          · have h25 := of_decide_eq_true hb25
            refine SWl.rdg rfl rfl (hb25) rfl rfl (Rd.move rfl) ?_
            refine SWl.rdg rfl rfl (hb25) rfl rfl (Rd.move rfl) ?_
            refine SWl.rdg rfl rfl (hb25) rfl rfl (Rd.sidx rfl rfl (by kernel_rfl) (by omega) (by simpa using hc)) ?_
            refine SWl.rdg rfl rfl (hb25) rfl rfl (Rd.leq rfl rfl) ?_
            refine SWl.rdg rfl rfl (hb20) rfl rfl (Rd.pickY rfl (hb25) rfl) ?_
            refine SWl.rd rfl (Rd.pickN rfl (hb20) rfl) ?_
            refine SWl.rd rfl (Rd.move rfl) ?_
            refine SWl.split 32 rfl (fun hb32 => ?_) (fun hb32 => ?_)
            · have h32 := of_decide_eq_true hb32
              refine SWl.off rfl rfl (hb32) rfl rfl ?_
              refine SWl.off rfl rfl (hb32) rfl rfl ?_
              refine SWl.off rfl rfl (hb32) rfl rfl ?_
              refine SWl.off rfl rfl (hb32) rfl rfl ?_
              refine SWl.rd rfl (Rd.pickY rfl (hb32) rfl) ?_
              refine SWl.rd rfl (Rd.not rfl) ?_
              refine SWl.nil ?_
              refine SN.then ?_
              refine SW.condF rfl (rfl) ?_
              refine SW.skip ?_
              refine SN.block ?_
              refine SN.then ?_
              refine SW.region ?_
              refine SWl.rd rfl (Rd.move rfl) ?_
              refine SWl.rd rfl (Rd.add rfl rfl ⟨by omega, by omega⟩) ?_
              refine SWl.rd rfl (Rd.assign rfl) ?_
              refine SWl.nil ?_
              have hgood : Acc.chr c := by first | (unfold Acc.chr; omega) | ((have h38 := hb38; simp only [Bool.not_eq_false', decide_eq_true_eq] at h38); unfold Acc.chr; omega)
              exact fun a w hh => hK0 (⟨i + 1, by omega, fun d hd => by rw [take_snoc hc] at hd; rcases List.mem_append.1 hd with hd | hd; exact hi.2 d hd; rw [List.mem_singleton.1 hd]; exact hgood⟩) (by dsimp only; omega) a w (hh.sub (⟨⟨_, rfl, ⟨⟨_, rfl, Le.refl _⟩, ⟨⟨_, rfl, Le.is (by simp)⟩, trivial⟩⟩⟩, [], by decide, trivial⟩))
            · have h32 := of_decide_eq_false hb32
              refine SWl.rdg rfl rfl (hb32) rfl rfl (Rd.move rfl) ?_
              refine SWl.rdg rfl rfl (hb32) rfl rfl (Rd.move rfl) ?_
              refine SWl.rdg rfl rfl (hb32) rfl rfl (Rd.sidx rfl rfl (by kernel_rfl) (by omega) (by simpa using hc)) ?_
              refine SWl.rdg rfl rfl (hb32) rfl rfl (Rd.eqi rfl rfl) ?_
              refine SWl.rd rfl (Rd.pickN rfl (hb32) rfl) ?_
              refine SWl.rd rfl (Rd.not rfl) ?_
              refine SWl.nil ?_
              refine SN.then ?_
              refine SW.cond rfl (fun hb38 => ?_) (fun hb38 => ?_)
              · have hbad : ¬ Acc.chr c := by (have h38 := hb38; simp only [Bool.not_eq_true', decide_eq_false_iff_not] at h38); unfold Acc.chr; omega
                refine SW.seq ?_
                refine SW.region ?_
                refine SWl.rd rfl (Rd.assign rfl) ?_
                refine SWl.nil ?_
                refine SN.then ?_
                refine SW.ret (fn := Tryd.f74) (fun _ _ h => h) (Rs.le (Rs.one rfl (ResV.tmp rfl)) ?_)
                first | exact Le.trans (le_decF (fun h => hbad (h.1 c (List.mem_of_getElem? hc)))) le_nw_is | exact Le.trans (le_decF (fun h => by have := h.2.1; omega)) le_nw_is | exact Le.trans (le_decP ⟨fun h => ⟨fun d hd => hi.2 d (by rw [List.take_of_length_le (by omega)]; exact hd), by omega, by omega⟩, fun h => by have := h.2.2; omega⟩) le_nw_is
              · skip
                refine SW.skip ?_
                refine SN.block ?_
                refine SN.then ?_
                refine SW.region ?_
                refine SWl.rd rfl (Rd.move rfl) ?_
                refine SWl.rd rfl (Rd.add rfl rfl ⟨by omega, by omega⟩) ?_
                refine SWl.rd rfl (Rd.assign rfl) ?_
                refine SWl.nil ?_
                have hgood : Acc.chr c := by first | (unfold Acc.chr; omega) | ((have h38 := hb38; simp only [Bool.not_eq_false', decide_eq_true_eq] at h38); unfold Acc.chr; omega)
                exact fun a w hh => hK0 (⟨i + 1, by omega, fun d hd => by rw [take_snoc hc] at hd; rcases List.mem_append.1 hd with hd | hd; exact hi.2 d hd; rw [List.mem_singleton.1 hd]; exact hgood⟩) (by dsimp only; omega) a w (hh.sub (⟨⟨_, rfl, ⟨⟨_, rfl, Le.refl _⟩, ⟨⟨_, rfl, Le.is (by simp)⟩, trivial⟩⟩⟩, [], by decide, trivial⟩))
          · have h25 := of_decide_eq_false hb25
            refine SWl.off rfl rfl (hb25) rfl rfl ?_
            refine SWl.off rfl rfl (hb25) rfl rfl ?_
            refine SWl.off rfl rfl (hb25) rfl rfl ?_
            refine SWl.off rfl rfl (hb25) rfl rfl ?_
            refine SWl.rdg rfl rfl (hb20) rfl rfl (Rd.pickN rfl (hb25) rfl) ?_
            refine SWl.rd rfl (Rd.pickN rfl (hb20) rfl) ?_
            refine SWl.rd rfl (Rd.move rfl) ?_
            refine SWl.rdg rfl rfl (rfl) rfl rfl (Rd.move rfl) ?_
            refine SWl.rdg rfl rfl (rfl) rfl rfl (Rd.move rfl) ?_
            refine SWl.rdg rfl rfl (rfl) rfl rfl (Rd.sidx rfl rfl (by kernel_rfl) (by omega) (by simpa using hc)) ?_
            refine SWl.rdg rfl rfl (rfl) rfl rfl (Rd.eqi rfl rfl) ?_
            refine SWl.rd rfl (Rd.pickN rfl (rfl) rfl) ?_
            refine SWl.rd rfl (Rd.not rfl) ?_
            refine SWl.nil ?_
            refine SN.then ?_
            refine SW.cond rfl (fun hb38 => ?_) (fun hb38 => ?_)
            · have hbad : ¬ Acc.chr c := by (have h38 := hb38; simp only [Bool.not_eq_true', decide_eq_false_iff_not] at h38); unfold Acc.chr; omega
              refine SW.seq ?_
              refine SW.region ?_
              refine SWl.rd rfl (Rd.assign rfl) ?_
              refine SWl.nil ?_
              refine SN.then ?_
              refine SW.ret (fn := Tryd.f74) (fun _ _ h => h) (Rs.le (Rs.one rfl (ResV.tmp rfl)) ?_)
              first | exact Le.trans (le_decF (fun h => hbad (h.1 c (List.mem_of_getElem? hc)))) le_nw_is | exact Le.trans (le_decF (fun h => by have := h.2.1; omega)) le_nw_is | exact Le.trans (le_decP ⟨fun h => ⟨fun d hd => hi.2 d (by rw [List.take_of_length_le (by omega)]; exact hd), by omega, by omega⟩, fun h => by have := h.2.2; omega⟩) le_nw_is
            · skip
              refine SW.skip ?_
              refine SN.block ?_
              refine SN.then ?_
              refine SW.region ?_
              refine SWl.rd rfl (Rd.move rfl) ?_
              refine SWl.rd rfl (Rd.add rfl rfl ⟨by omega, by omega⟩) ?_
              refine SWl.rd rfl (Rd.assign rfl) ?_
              refine SWl.nil ?_
              have hgood : Acc.chr c := by first | (unfold Acc.chr; omega) | ((have h38 := hb38; simp only [Bool.not_eq_false', decide_eq_true_eq] at h38); unfold Acc.chr; omega)
              exact fun a w hh => hK0 (⟨i + 1, by omega, fun d hd => by rw [take_snoc hc] at hd; rcases List.mem_append.1 hd with hd | hd; exact hi.2 d hd; rw [List.mem_singleton.1 hd]; exact hgood⟩) (by dsimp only; omega) a w (hh.sub (⟨⟨_, rfl, ⟨⟨_, rfl, Le.refl _⟩, ⟨⟨_, rfl, Le.is (by simp)⟩, trivial⟩⟩⟩, [], by decide, trivial⟩))
      · have h14 := of_decide_eq_false hb14
        refine SWl.off rfl rfl (hb14) rfl rfl ?_
        refine SWl.off rfl rfl (hb14) rfl rfl ?_
        refine SWl.off rfl rfl (hb14) rfl rfl ?_
        refine SWl.off rfl rfl (hb14) rfl rfl ?_
        refine SWl.rd rfl (Rd.pickN rfl (hb14) rfl) ?_
        refine SWl.rd rfl (Rd.move rfl) ?_
        refine SWl.rdg rfl rfl (rfl) rfl rfl (Rd.move rfl) ?_
        refine SWl.rdg rfl rfl (rfl) rfl rfl (Rd.move rfl) ?_
        refine SWl.rdg rfl rfl (rfl) rfl rfl (Rd.sidx rfl rfl (by kernel_rfl) (by omega) (by simpa using hc)) ?_
        refine SWl.rdg rfl rfl (rfl) rfl rfl (Rd.geq rfl rfl) ?_
        refine SWl.rdg rfl rfl (rfl) rfl rfl (Rd.move rfl) ?_
        refine SWl.split 25 rfl (fun hb25 => ?_) (fun hb25 => ?_)
        · have h25 := of_decide_eq_true hb25
          refine SWl.rdg rfl rfl (hb25) rfl rfl (Rd.move rfl) ?_
          refine SWl.rdg rfl rfl (hb25) rfl rfl (Rd.move rfl) ?_
          refine SWl.rdg rfl rfl (hb25) rfl rfl (Rd.sidx rfl rfl (by kernel_rfl) (by omega) (by simpa using hc)) ?_
          refine SWl.rdg rfl rfl (hb25) rfl rfl (Rd.leq rfl rfl) ?_
          refine SWl.rdg rfl rfl (rfl) rfl rfl (Rd.pickY rfl (hb25) rfl) ?_
          refine SWl.rd rfl (Rd.pickN rfl (rfl) rfl) ?_
          refine SWl.rd rfl (Rd.move rfl) ?_
          refine SWl.split 32 rfl (fun hb32 => ?_) (fun hb32 => ?_)
          · have h32 := of_decide_eq_true hb32
            refine SWl.off rfl rfl (hb32) rfl rfl ?_
            refine SWl.off rfl rfl (hb32) rfl rfl ?_
            refine SWl.off rfl rfl (hb32) rfl rfl ?_
            refine SWl.off rfl rfl (hb32) rfl rfl ?_
            refine SWl.rd rfl (Rd.pickY rfl (hb32) rfl) ?_
            refine SWl.rd rfl (Rd.not rfl) ?_
            refine SWl.nil ?_
            refine SN.then ?_
            refine SW.condF rfl (rfl) ?_
            refine SW.skip ?_
            refine SN.block ?_
            refine SN.then ?_
            refine SW.region ?_
            refine SWl.rd rfl (Rd.move rfl) ?_
            refine SWl.rd rfl (Rd.add rfl rfl ⟨by omega, by omega⟩) ?_
            refine SWl.rd rfl (Rd.assign rfl) ?_
            refine SWl.nil ?_
            have hgood : Acc.chr c := by first | (unfold Acc.chr; omega) | ((have h38 := hb38; simp only [Bool.not_eq_false', decide_eq_true_eq] at h38); unfold Acc.chr; omega)
            exact fun a w hh => hK0 (⟨i + 1, by omega, fun d hd => by rw [take_snoc hc] at hd; rcases List.mem_append.1 hd with hd | hd; exact hi.2 d hd; rw [List.mem_singleton.1 hd]; exact hgood⟩) (by dsimp only; omega) a w (hh.sub (⟨⟨_, rfl, ⟨⟨_, rfl, Le.refl _⟩, ⟨⟨_, rfl, Le.is (by simp)⟩, trivial⟩⟩⟩, [], by decide, trivial⟩))
          · have h32 := of_decide_eq_false hb32
            refine SWl.rdg rfl rfl (hb32) rfl rfl (Rd.move rfl) ?_
            refine SWl.rdg rfl rfl (hb32) rfl rfl (Rd.move rfl) ?_
            refine SWl.rdg rfl rfl (hb32) rfl rfl (Rd.sidx rfl rfl (by kernel_rfl) (by omega) (by simpa using hc)) ?_
            refine SWl.rdg rfl rfl (hb32) rfl rfl (Rd.eqi rfl rfl) ?_
            refine SWl.rd rfl (Rd.pickN rfl (hb32) rfl) ?_
            refine SWl.rd rfl (Rd.not rfl) ?_
            refine SWl.nil ?_
            refine SN.then ?_
            refine SW.cond rfl (fun hb38 => ?_) (fun hb38 => ?_)
            · have hbad : ¬ Acc.chr c := by (have h38 := hb38; simp only [Bool.not_eq_true', decide_eq_false_iff_not] at h38); unfold Acc.chr; omega
              refine SW.seq ?_
              refine SW.region ?_
              refine SWl.rd rfl (Rd.assign rfl) ?_
              refine SWl.nil ?_
              refine SN.then ?_
              refine SW.ret (fn := Tryd.f74) (fun _ _ h => h) (Rs.le (Rs.one rfl (ResV.tmp rfl)) ?_)
              first | exact Le.trans (le_decF (fun h => hbad (h.1 c (List.mem_of_getElem? hc)))) le_nw_is | exact Le.trans (le_decF (fun h => by have := h.2.1; omega)) le_nw_is | exact Le.trans (le_decP ⟨fun h => ⟨fun d hd => hi.2 d (by rw [List.take_of_length_le (by omega)]; exact hd), by omega, by omega⟩, fun h => by have := h.2.2; omega⟩) le_nw_is
            · skip
              refine SW.skip ?_
              refine SN.block ?_
              refine SN.then ?_
              refine SW.region ?_
              refine SWl.rd rfl (Rd.move rfl) ?_
              refine SWl.rd rfl (Rd.add rfl rfl ⟨by omega, by omega⟩) ?_
              refine SWl.rd rfl (Rd.assign rfl) ?_
              refine SWl.nil ?_
              have hgood : Acc.chr c := by first | (unfold Acc.chr; omega) | ((have h38 := hb38; simp only [Bool.not_eq_false', decide_eq_true_eq] at h38); unfold Acc.chr; omega)
              exact fun a w hh => hK0 (⟨i + 1, by omega, fun d hd => by rw [take_snoc hc] at hd; rcases List.mem_append.1 hd with hd | hd; exact hi.2 d hd; rw [List.mem_singleton.1 hd]; exact hgood⟩) (by dsimp only; omega) a w (hh.sub (⟨⟨_, rfl, ⟨⟨_, rfl, Le.refl _⟩, ⟨⟨_, rfl, Le.is (by simp)⟩, trivial⟩⟩⟩, [], by decide, trivial⟩))
        · have h25 := of_decide_eq_false hb25
          refine SWl.off rfl rfl (hb25) rfl rfl ?_
          refine SWl.off rfl rfl (hb25) rfl rfl ?_
          refine SWl.off rfl rfl (hb25) rfl rfl ?_
          refine SWl.off rfl rfl (hb25) rfl rfl ?_
          refine SWl.rdg rfl rfl (rfl) rfl rfl (Rd.pickN rfl (hb25) rfl) ?_
          refine SWl.rd rfl (Rd.pickN rfl (rfl) rfl) ?_
          refine SWl.rd rfl (Rd.move rfl) ?_
          refine SWl.rdg rfl rfl (rfl) rfl rfl (Rd.move rfl) ?_
          refine SWl.rdg rfl rfl (rfl) rfl rfl (Rd.move rfl) ?_
          refine SWl.rdg rfl rfl (rfl) rfl rfl (Rd.sidx rfl rfl (by kernel_rfl) (by omega) (by simpa using hc)) ?_
          refine SWl.rdg rfl rfl (rfl) rfl rfl (Rd.eqi rfl rfl) ?_
          refine SWl.rd rfl (Rd.pickN rfl (rfl) rfl) ?_
          refine SWl.rd rfl (Rd.not rfl) ?_
          refine SWl.nil ?_
          refine SN.then ?_
          refine SW.cond rfl (fun hb38 => ?_) (fun hb38 => ?_)
          · have hbad : ¬ Acc.chr c := by (have h38 := hb38; simp only [Bool.not_eq_true', decide_eq_false_iff_not] at h38); unfold Acc.chr; omega
            refine SW.seq ?_
            refine SW.region ?_
            refine SWl.rd rfl (Rd.assign rfl) ?_
            refine SWl.nil ?_
            refine SN.then ?_
            refine SW.ret (fn := Tryd.f74) (fun _ _ h => h) (Rs.le (Rs.one rfl (ResV.tmp rfl)) ?_)
            first | exact Le.trans (le_decF (fun h => hbad (h.1 c (List.mem_of_getElem? hc)))) le_nw_is | exact Le.trans (le_decF (fun h => by have := h.2.1; omega)) le_nw_is | exact Le.trans (le_decP ⟨fun h => ⟨fun d hd => hi.2 d (by rw [List.take_of_length_le (by omega)]; exact hd), by omega, by omega⟩, fun h => by have := h.2.2; omega⟩) le_nw_is
          · skip
            refine SW.skip ?_
            refine SN.block ?_
            refine SN.then ?_
            refine SW.region ?_
            refine SWl.rd rfl (Rd.move rfl) ?_
            refine SWl.rd rfl (Rd.add rfl rfl ⟨by omega, by omega⟩) ?_
            refine SWl.rd rfl (Rd.assign rfl) ?_
            refine SWl.nil ?_
            have hgood : Acc.chr c := by first | (unfold Acc.chr; omega) | ((have h38 := hb38; simp only [Bool.not_eq_false', decide_eq_true_eq] at h38); unfold Acc.chr; omega)
            exact fun a w hh => hK0 (⟨i + 1, by omega, fun d hd => by rw [take_snoc hc] at hd; rcases List.mem_append.1 hd with hd | hd; exact hi.2 d hd; rw [List.mem_singleton.1 hd]; exact hgood⟩) (by dsimp only; omega) a w (hh.sub (⟨⟨_, rfl, ⟨⟨_, rfl, Le.refl _⟩, ⟨⟨_, rfl, Le.is (by simp)⟩, trivial⟩⟩⟩, [], by decide, trivial⟩))
    · have h7 := of_decide_eq_false hb7
      refine SW.exit' ?_
      repeat (first | refine SE.then ?_ | refine SE.skip (by decide) ?_)
      refine SE.here ?_
      refine SN.then ?_
      refine SW.seq ?_
      refine SW.region ?_
      refine SWl.rd rfl (Rd.move rfl) ?_
      refine SWl.rd rfl (Rd.lenb rfl (by kernel_rfl)) ?_
      refine SWl.rd rfl (Rd.geq rfl rfl) ?_
      refine SWl.rd rfl (Rd.move rfl) ?_
      refine SWl.split 42 rfl (fun hb42 => ?_) (fun hb42 => ?_)
      · have h42 := of_decide_eq_true hb42
        refine SWl.rdg rfl rfl (hb42) rfl rfl (Rd.move rfl) ?_
        refine SWl.rdg rfl rfl (hb42) rfl rfl (Rd.lenb rfl (by kernel_rfl)) ?_
        refine SWl.rdg rfl rfl (hb42) rfl rfl (Rd.leq rfl rfl) ?_
        refine SWl.rd rfl (Rd.pickY rfl (hb42) rfl) ?_
        refine SWl.rd rfl (Rd.assign rfl) ?_
        refine SWl.nil ?_
        refine SN.then ?_
        refine SW.ret (fn := Tryd.f74) (fun _ _ h => h) (Rs.le (Rs.one rfl (ResV.tmp rfl)) ?_)
        first | exact Le.trans (le_decF (fun h => hbad (h.1 c (List.mem_of_getElem? hc)))) le_nw_is | exact Le.trans (le_decF (fun h => by have := h.2.1; omega)) le_nw_is | exact Le.trans (le_decP ⟨fun h => ⟨fun d hd => hi.2 d (by rw [List.take_of_length_le (by omega)]; exact hd), by omega, by omega⟩, fun h => by have := h.2.2; omega⟩) le_nw_is
      · have h42 := of_decide_eq_false hb42
        refine SWl.off rfl rfl (hb42) rfl rfl ?_
        refine SWl.off rfl rfl (hb42) rfl rfl ?_
        refine SWl.off rfl rfl (hb42) rfl rfl ?_
        refine SWl.rd rfl (Rd.pickN rfl (hb42) rfl) ?_
        refine SWl.rd rfl (Rd.assign rfl) ?_
        refine SWl.nil ?_
        refine SN.then ?_
        refine SW.ret (fn := Tryd.f74) (fun _ _ h => h) (Rs.le (Rs.one rfl (ResV.tmp rfl)) ?_)
        first | exact Le.trans (le_decF (fun h => hbad (h.1 c (List.mem_of_getElem? hc)))) le_nw_is | exact Le.trans (le_decF (fun h => by have := h.2.1; omega)) le_nw_is | exact Le.trans (le_decP ⟨fun h => ⟨fun d hd => hi.2 d (by rw [List.take_of_length_le (by omega)]; exact hd), by omega, by omega⟩, fun h => by have := h.2.2; omega⟩) le_nw_is
set_option maxHeartbeats 4000000 in
set_option maxRecDepth 100000 in
theorem con_ValidR (nm : List UInt8) (role : Int) (kl : Nat) (dep num : Int) (hs : nm.length ≤ 1000000) : ConN Tryd.prog 107 [aggD [strD nm, iD role, lenD kl, iD dep, iD num]] (boolD (decide (Acc.okN nm role kl dep num))) := by
  refine con_ofN Tryd.func107 (by kernel_rfl) rfl (by kernel_rfl) fun base w0 => ?_
  refine SW.seq ?_
  refine SW.region ?_
  refine SWl.ef (S := []) (Ef.boxA rfl rfl) ?_
  rintro _ ⟨g1, rfl⟩
  refine SWl.rd rfl (Rd.assign rfl) ?_
  refine SWl.nil ?_
  refine SN.then ?_
  refine SW.seq ?_
  refine SW.region ?_
  refine SWl.rd rfl (Rd.assign rfl) ?_
  refine SWl.nil ?_
  refine SN.then ?_
  refine SW.seq ?_
  refine SW.meet (fun σ => σ = St.ob [(1, isD (.pointer (some ⟨g1, 0, none⟩))), (3, iD (if role = 1 then 512 else 0 : Int))] [.c g1 [strD nm, iD role, lenD kl, iD dep, iD num]]) ?_ ?_
  · skip
    refine SW.seq ?_
    refine SW.region ?_
    refine SWl.rd rfl (Rd.fieldAddr (n := 1) rfl (by kernel_rfl)) ?_
    refine SWl.rd rfl (Rd.loadB 0 rfl rfl rfl (by kernel_rfl) ap_nil) ?_
    refine SWl.rd rfl (Rd.eqi rfl rfl) ?_
    refine SWl.nil ?_
    refine SN.then ?_
    refine SW.cond rfl (fun hb6 => ?_) (fun hb6 => ?_)
    · have hc := of_decide_eq_true hb6
      refine SW.region ?_
      refine SWl.rd rfl (Rd.assign rfl) ?_
      refine SWl.nil ?_
      exact SN.meet rfl (⟨⟨_, rfl, ⟨⟨_, rfl, Le.refl _⟩, ⟨⟨_, rfl, Le.is (by rw [if_pos hc])⟩, trivial⟩⟩⟩, [0], by decide, ⟨⟨_, rfl, LeAll.refl _⟩, trivial⟩⟩)
    · have hc := of_decide_eq_false hb6
      refine SW.skip ?_
      exact SN.meet rfl (⟨⟨_, rfl, ⟨⟨_, rfl, Le.refl _⟩, ⟨⟨_, rfl, Le.is (by rw [if_neg hc])⟩, trivial⟩⟩⟩, [0], by decide, ⟨⟨_, rfl, LeAll.refl _⟩, trivial⟩⟩)
  · rintro _ rfl
    refine SN.then ?_
    refine SW.seq ?_
    refine SW.meet (fun σ => σ = St.ob [(1, isD (.pointer (some ⟨g1, 0, none⟩))), (3, iD (if role = 2 then 32 else (if role = 1 then 512 else 0 : Int) : Int))] [.c g1 [strD nm, iD role, lenD kl, iD dep, iD num]]) ?_ ?_
    · skip
      refine SW.seq ?_
      refine SW.region ?_
      refine SWl.rd rfl (Rd.fieldAddr (n := 1) rfl (by kernel_rfl)) ?_
      refine SWl.rd rfl (Rd.loadB 0 rfl rfl rfl (by kernel_rfl) ap_nil) ?_
      refine SWl.rd rfl (Rd.eqi rfl rfl) ?_
      refine SWl.nil ?_
      refine SN.then ?_
      refine SW.cond rfl (fun hb9 => ?_) (fun hb9 => ?_)
      · have hc := of_decide_eq_true hb9
        refine SW.region ?_
        refine SWl.rd rfl (Rd.assign rfl) ?_
        refine SWl.nil ?_
        exact SN.meet rfl (⟨⟨_, rfl, ⟨⟨_, rfl, Le.refl _⟩, ⟨⟨_, rfl, Le.is (by rw [if_pos hc])⟩, trivial⟩⟩⟩, [0], by decide, ⟨⟨_, rfl, LeAll.refl _⟩, trivial⟩⟩)
      · have hc := of_decide_eq_false hb9
        refine SW.skip ?_
        exact SN.meet rfl (⟨⟨_, rfl, ⟨⟨_, rfl, Le.refl _⟩, ⟨⟨_, rfl, Le.is (by rw [if_neg hc])⟩, trivial⟩⟩⟩, [0], by decide, ⟨⟨_, rfl, LeAll.refl _⟩, trivial⟩⟩)
    · rintro _ rfl
      refine SN.then ?_
      refine SW.seq ?_
      refine SW.meet (fun σ => σ = St.ob [(1, isD (.pointer (some ⟨g1, 0, none⟩))), (3, iD (if role = 3 then 1 else (if role = 2 then 32 else (if role = 1 then 512 else 0 : Int) : Int) : Int))] [.c g1 [strD nm, iD role, lenD kl, iD dep, iD num]]) ?_ ?_
      · skip
        refine SW.seq ?_
        refine SW.region ?_
        refine SWl.rd rfl (Rd.fieldAddr (n := 1) rfl (by kernel_rfl)) ?_
        refine SWl.rd rfl (Rd.loadB 0 rfl rfl rfl (by kernel_rfl) ap_nil) ?_
        refine SWl.rd rfl (Rd.eqi rfl rfl) ?_
        refine SWl.nil ?_
        refine SN.then ?_
        refine SW.cond rfl (fun hb12 => ?_) (fun hb12 => ?_)
        · have hc := of_decide_eq_true hb12
          refine SW.region ?_
          refine SWl.rd rfl (Rd.assign rfl) ?_
          refine SWl.nil ?_
          exact SN.meet rfl (⟨⟨_, rfl, ⟨⟨_, rfl, Le.refl _⟩, ⟨⟨_, rfl, Le.is (by rw [if_pos hc])⟩, trivial⟩⟩⟩, [0], by decide, ⟨⟨_, rfl, LeAll.refl _⟩, trivial⟩⟩)
        · have hc := of_decide_eq_false hb12
          refine SW.skip ?_
          exact SN.meet rfl (⟨⟨_, rfl, ⟨⟨_, rfl, Le.refl _⟩, ⟨⟨_, rfl, Le.is (by rw [if_neg hc])⟩, trivial⟩⟩⟩, [0], by decide, ⟨⟨_, rfl, LeAll.refl _⟩, trivial⟩⟩)
      · rintro _ rfl
        refine SN.then ?_
        refine SW.seq ?_
        refine SW.region ?_
        refine SWl.rd rfl (Rd.fieldAddr (n := 0) rfl (by kernel_rfl)) ?_
        refine SWl.rd rfl (Rd.loadB 0 rfl rfl rfl (by kernel_rfl) ap_nil) ?_
        refine SWl.ef (S := []) (Ef.callN [] (con_NameR nm hs) rfl ⟨(sees_le (Le.refl _)), trivial⟩ rfl) ?_
        rintro _ rfl
        refine SWl.rd rfl (Rd.move rfl) ?_
        refine SWl.split 16 rfl (fun hb16 => ?_) (fun hb16 => ?_)
        · have h16 := of_decide_eq_true hb16
          refine SWl.rdg rfl rfl (hb16) rfl rfl (Rd.fieldAddr (n := 2) rfl (by kernel_rfl)) ?_
          refine SWl.rdg rfl rfl (hb16) rfl rfl (Rd.loadB 0 rfl rfl rfl (by kernel_rfl) ap_nil) ?_
          refine SWl.rdg rfl rfl (hb16) rfl rfl (Rd.lenN (e := 5) rfl (by kernel_rfl)) ?_
          refine SWl.rdg rfl rfl (hb16) rfl rfl (Rd.eqi rfl rfl) ?_
          refine SWl.rd rfl (Rd.pickY rfl (hb16) rfl) ?_
          refine SWl.rd rfl (Rd.move rfl) ?_
          refine SWl.split 22 rfl (fun hb22 => ?_) (fun hb22 => ?_)
          · have h22 : kl = 32 := by have h := of_decide_eq_true hb22; omega
            refine SWl.rdg rfl rfl (hb22) rfl rfl (Rd.fieldAddr (n := 3) rfl (by kernel_rfl)) ?_
            refine SWl.rdg rfl rfl (hb22) rfl rfl (Rd.loadB 0 rfl rfl rfl (by kernel_rfl) ap_nil) ?_
            refine SWl.rdg rfl rfl (hb22) rfl rfl (Rd.geq rfl rfl) ?_
            refine SWl.rd rfl (Rd.pickY rfl (hb22) rfl) ?_
            refine SWl.rd rfl (Rd.move rfl) ?_
            refine SWl.split 27 rfl (fun hb27 => ?_) (fun hb27 => ?_)
            · have h27 := of_decide_eq_true hb27
              refine SWl.rdg rfl rfl (hb27) rfl rfl (Rd.fieldAddr (n := 3) rfl (by kernel_rfl)) ?_
              refine SWl.rdg rfl rfl (hb27) rfl rfl (Rd.loadB 0 rfl rfl rfl (by kernel_rfl) ap_nil) ?_
              refine SWl.rdg rfl rfl (hb27) rfl rfl (Rd.leq rfl rfl) ?_
              refine SWl.rd rfl (Rd.pickY rfl (hb27) rfl) ?_
              refine SWl.rd rfl (Rd.move rfl) ?_
              refine SWl.split 32 rfl (fun hb32 => ?_) (fun hb32 => ?_)
              · have h32 := of_decide_eq_true hb32
                refine SWl.rdg rfl rfl (hb32) rfl rfl (Rd.fieldAddr (n := 4) rfl (by kernel_rfl)) ?_
                refine SWl.rdg rfl rfl (hb32) rfl rfl (Rd.loadB 0 rfl rfl rfl (by kernel_rfl) ap_nil) ?_
                refine SWl.rdg rfl rfl (hb32) rfl rfl (Rd.geq rfl rfl) ?_
                refine SWl.rd rfl (Rd.pickY rfl (hb32) rfl) ?_
                refine SWl.rd rfl (Rd.move rfl) ?_
                refine SWl.split 37 rfl (fun hb37 => ?_) (fun hb37 => ?_)
                · have h37 := of_decide_eq_true hb37
                  refine SWl.rdg rfl rfl (hb37) rfl rfl (Rd.fieldAddr (n := 4) rfl (by kernel_rfl)) ?_
                  refine SWl.rdg rfl rfl (hb37) rfl rfl (Rd.loadB 0 rfl rfl rfl (by kernel_rfl) ap_nil) ?_
                  refine SWl.rdg rfl rfl (hb37) rfl rfl (Rd.move rfl) ?_
                  refine SWl.rdg rfl rfl (hb37) rfl rfl (Rd.lss rfl rfl) ?_
                  refine SWl.rd rfl (Rd.pickY rfl (hb37) rfl) ?_
                  refine SWl.rd rfl (Rd.assign rfl) ?_
                  refine SWl.nil ?_
                  refine SN.then ?_
                  refine SW.ret (fn := Tryd.f107) (fun _ _ h => h) (Rs.le (Rs.one rfl (ResV.tmp rfl)) ?_)
                  first | exact Le.trans (le_decF (fun h => h16 h.1)) le_nw_is | exact Le.trans (le_decF (fun h => h22 h.2.1)) le_nw_is | exact Le.trans (le_decF (fun h => by have h1 := h.2.2.1; have h2 := h.2.2.2.1; have h3 := h.2.2.2.2.1; omega)) le_nw_is | exact Le.trans (le_decP (by rw [Acc.okN_iff' h16 h22 h27 h32 h37, Acc.nums_alt])) le_nw_is
                · have h37 := of_decide_eq_false hb37
                  refine SWl.off rfl rfl (hb37) rfl rfl ?_
                  refine SWl.off rfl rfl (hb37) rfl rfl ?_
                  refine SWl.off rfl rfl (hb37) rfl rfl ?_
                  refine SWl.off rfl rfl (hb37) rfl rfl ?_
                  refine SWl.rd rfl (Rd.pickN rfl (hb37) rfl) ?_
                  refine SWl.rd rfl (Rd.assign rfl) ?_
                  refine SWl.nil ?_
                  refine SN.then ?_
                  refine SW.ret (fn := Tryd.f107) (fun _ _ h => h) (Rs.le (Rs.one rfl (ResV.tmp rfl)) ?_)
                  first | exact Le.trans (le_decF (fun h => h16 h.1)) le_nw_is | exact Le.trans (le_decF (fun h => h22 h.2.1)) le_nw_is | exact Le.trans (le_decF (fun h => by have h1 := h.2.2.1; have h2 := h.2.2.2.1; have h3 := h.2.2.2.2.1; omega)) le_nw_is | exact Le.trans (le_decP (by rw [Acc.okN_iff' h16 h22 h27 h32 h37, Acc.nums_alt])) le_nw_is
              · have h32 := of_decide_eq_false hb32
                refine SWl.off rfl rfl (hb32) rfl rfl ?_
                refine SWl.off rfl rfl (hb32) rfl rfl ?_
                refine SWl.off rfl rfl (hb32) rfl rfl ?_
                refine SWl.rd rfl (Rd.pickN rfl (hb32) rfl) ?_
                refine SWl.rd rfl (Rd.move rfl) ?_
                refine SWl.off rfl rfl (rfl) rfl rfl ?_
                refine SWl.off rfl rfl (rfl) rfl rfl ?_
                refine SWl.off rfl rfl (rfl) rfl rfl ?_
                refine SWl.off rfl rfl (rfl) rfl rfl ?_
                refine SWl.rd rfl (Rd.pickN rfl (rfl) rfl) ?_
                refine SWl.rd rfl (Rd.assign rfl) ?_
                refine SWl.nil ?_
                refine SN.then ?_
                refine SW.ret (fn := Tryd.f107) (fun _ _ h => h) (Rs.le (Rs.one rfl (ResV.tmp rfl)) ?_)
                first | exact Le.trans (le_decF (fun h => h16 h.1)) le_nw_is | exact Le.trans (le_decF (fun h => h22 h.2.1)) le_nw_is | exact Le.trans (le_decF (fun h => by have h1 := h.2.2.1; have h2 := h.2.2.2.1; have h3 := h.2.2.2.2.1; omega)) le_nw_is | exact Le.trans (le_decP (by rw [Acc.okN_iff' h16 h22 h27 h32 h37, Acc.nums_alt])) le_nw_is
            · have h27 := of_decide_eq_false hb27
              refine SWl.off rfl rfl (hb27) rfl rfl ?_
              refine SWl.off rfl rfl (hb27) rfl rfl ?_
              refine SWl.off rfl rfl (hb27) rfl rfl ?_
              refine SWl.rd rfl (Rd.pickN rfl (hb27) rfl) ?_
              refine SWl.rd rfl (Rd.move rfl) ?_
              refine SWl.off rfl rfl (rfl) rfl rfl ?_
              refine SWl.off rfl rfl (rfl) rfl rfl ?_
              refine SWl.off rfl rfl (rfl) rfl rfl ?_
              refine SWl.rd rfl (Rd.pickN rfl (rfl) rfl) ?_
              refine SWl.rd rfl (Rd.move rfl) ?_
              refine SWl.off rfl rfl (rfl) rfl rfl ?_
              refine SWl.off rfl rfl (rfl) rfl rfl ?_
              refine SWl.off rfl rfl (rfl) rfl rfl ?_
              refine SWl.off rfl rfl (rfl) rfl rfl ?_
              refine SWl.rd rfl (Rd.pickN rfl (rfl) rfl) ?_
              refine SWl.rd rfl (Rd.assign rfl) ?_
              refine SWl.nil ?_
              refine SN.then ?_
              refine SW.ret (fn := Tryd.f107) (fun _ _ h => h) (Rs.le (Rs.one rfl (ResV.tmp rfl)) ?_)
              first | exact Le.trans (le_decF (fun h => h16 h.1)) le_nw_is | exact Le.trans (le_decF (fun h => h22 h.2.1)) le_nw_is | exact Le.trans (le_decF (fun h => by have h1 := h.2.2.1; have h2 := h.2.2.2.1; have h3 := h.2.2.2.2.1; omega)) le_nw_is | exact Le.trans (le_decP (by rw [Acc.okN_iff' h16 h22 h27 h32 h37, Acc.nums_alt])) le_nw_is
          · have h22 : ¬ kl = 32 := by have h := of_decide_eq_false hb22; omega
            refine SWl.off rfl rfl (hb22) rfl rfl ?_
            refine SWl.off rfl rfl (hb22) rfl rfl ?_
            refine SWl.off rfl rfl (hb22) rfl rfl ?_
            refine SWl.rd rfl (Rd.pickN rfl (hb22) rfl) ?_
            refine SWl.rd rfl (Rd.move rfl) ?_
            refine SWl.off rfl rfl (rfl) rfl rfl ?_
            refine SWl.off rfl rfl (rfl) rfl rfl ?_
            refine SWl.off rfl rfl (rfl) rfl rfl ?_
            refine SWl.rd rfl (Rd.pickN rfl (rfl) rfl) ?_
            refine SWl.rd rfl (Rd.move rfl) ?_
            refine SWl.off rfl rfl (rfl) rfl rfl ?_
            refine SWl.off rfl rfl (rfl) rfl rfl ?_
            refine SWl.off rfl rfl (rfl) rfl rfl ?_
            refine SWl.rd rfl (Rd.pickN rfl (rfl) rfl) ?_
            refine SWl.rd rfl (Rd.move rfl) ?_
            refine SWl.off rfl rfl (rfl) rfl rfl ?_
            refine SWl.off rfl rfl (rfl) rfl rfl ?_
            refine SWl.off rfl rfl (rfl) rfl rfl ?_
            refine SWl.off rfl rfl (rfl) rfl rfl ?_
            refine SWl.rd rfl (Rd.pickN rfl (rfl) rfl) ?_
            refine SWl.rd rfl (Rd.assign rfl) ?_
            refine SWl.nil ?_
            refine SN.then ?_
            refine SW.ret (fn := Tryd.f107) (fun _ _ h => h) (Rs.le (Rs.one rfl (ResV.tmp rfl)) ?_)
            first | exact Le.trans (le_decF (fun h => h16 h.1)) le_nw_is | exact Le.trans (le_decF (fun h => h22 h.2.1)) le_nw_is | exact Le.trans (le_decF (fun h => by have h1 := h.2.2.1; have h2 := h.2.2.2.1; have h3 := h.2.2.2.2.1; omega)) le_nw_is | exact Le.trans (le_decP (by rw [Acc.okN_iff' h16 h22 h27 h32 h37, Acc.nums_alt])) le_nw_is
        · have h16 := of_decide_eq_false hb16
          refine SWl.off rfl rfl (hb16) rfl rfl ?_
          refine SWl.off rfl rfl (hb16) rfl rfl ?_
          refine SWl.off rfl rfl (hb16) rfl rfl ?_
          refine SWl.off rfl rfl (hb16) rfl rfl ?_
          refine SWl.rd rfl (Rd.pickN rfl (hb16) rfl) ?_
          refine SWl.rd rfl (Rd.move rfl) ?_
          refine SWl.off rfl rfl (rfl) rfl rfl ?_
          refine SWl.off rfl rfl (rfl) rfl rfl ?_
          refine SWl.off rfl rfl (rfl) rfl rfl ?_
          refine SWl.rd rfl (Rd.pickN rfl (rfl) rfl) ?_
          refine SWl.rd rfl (Rd.move rfl) ?_
          refine SWl.off rfl rfl (rfl) rfl rfl ?_
          refine SWl.off rfl rfl (rfl) rfl rfl ?_
          refine SWl.off rfl rfl (rfl) rfl rfl ?_
          refine SWl.rd rfl (Rd.pickN rfl (rfl) rfl) ?_
          refine SWl.rd rfl (Rd.move rfl) ?_
          refine SWl.off rfl rfl (rfl) rfl rfl ?_
          refine SWl.off rfl rfl (rfl) rfl rfl ?_
          refine SWl.off rfl rfl (rfl) rfl rfl ?_
          refine SWl.rd rfl (Rd.pickN rfl (rfl) rfl) ?_
          refine SWl.rd rfl (Rd.move rfl) ?_
          refine SWl.off rfl rfl (rfl) rfl rfl ?_
          refine SWl.off rfl rfl (rfl) rfl rfl ?_
          refine SWl.off rfl rfl (rfl) rfl rfl ?_
          refine SWl.off rfl rfl (rfl) rfl rfl ?_
          refine SWl.rd rfl (Rd.pickN rfl (rfl) rfl) ?_
          refine SWl.rd rfl (Rd.assign rfl) ?_
          refine SWl.nil ?_
          refine SN.then ?_
          refine SW.ret (fn := Tryd.f107) (fun _ _ h => h) (Rs.le (Rs.one rfl (ResV.tmp rfl)) ?_)
          first | exact Le.trans (le_decF (fun h => h16 h.1)) le_nw_is | exact Le.trans (le_decF (fun h => h22 h.2.1)) le_nw_is | exact Le.trans (le_decF (fun h => by have h1 := h.2.2.1; have h2 := h.2.2.2.1; have h3 := h.2.2.2.2.1; omega)) le_nw_is | exact Le.trans (le_decP (by rw [Acc.okN_iff' h16 h22 h27 h32 h37, Acc.nums_alt])) le_nw_is
end Sx
end Go.Proofs.YtchbgfgboogniaaDoor
namespace Go.Proofs.YtchbgfgboogniaaDoor
open Go.RowKit
namespace Sx
set_option maxHeartbeats 4000000 in
set_option maxRecDepth 100000 in
theorem con_AddR (l : List Acc.T) (a : Acc.T) (hf : Acc.Fine l) (hs : a.name.length ≤ 1000000) : ConR Tryd.prog 61 [] [aggD [lsD encA l], aggD [strD a.name, iD a.role, bD a.key, iD a.dep, iD a.num]] (fun _ : Unit => []) (fun _ : Unit => tupD [aggD [lsD encA (Acc.add l a).1], iD (Acc.add l a).2]) := by
  have hll := hf.len
  refine con_ofR Tryd.func61 (by kernel_rfl) rfl (by kernel_rfl) fun base w0 => ?_
  refine SW.seq ?_
  refine SW.region ?_
  refine SWl.ef (S := []) (Ef.boxA rfl rfl) ?_
  rintro _ ⟨g2, rfl⟩
  refine SWl.ef (S := []) (Ef.boxA rfl rfl) ?_
  rintro _ ⟨g3, rfl⟩
  refine SWl.ef (S := []) (Ef.alloc (zs := [.slice none 0 0]) (by kernel_rfl) rfl) ?_
  rintro _ ⟨g4, rfl⟩
  refine SWl.rd rfl (Rd.assign rfl) ?_
  refine SWl.nil ?_
  refine SN.then ?_
  refine SW.seq ?_
  refine SW.seq ?_
  refine SW.region ?_
  refine SWl.rd rfl (Rd.loadA 1 5 rfl rfl (by kernel_rfl) rfl ap_nil) ?_
  refine SWl.ef (S := []) (Ef.callN [] (con_ValidR a.name a.role a.key.length a.dep a.num hs) rfl ⟨(sees_le (Le.agg ⟨Le.refl _, Le.refl _, le_b_len, Le.refl _, Le.refl _, trivial⟩)), trivial⟩ rfl) ?_
  rintro _ rfl
  refine SWl.rd rfl (Rd.not rfl) ?_
  refine SWl.nil ?_
  refine SN.then ?_
  refine SW.cond rfl (fun hb12 => ?_) (fun hb12 => ?_)
  · have h12 : ¬ Acc.ok a := by have h := hb12; simp at h; exact h
    refine SW.seq ?_
    refine SW.region ?_
    refine SWl.rd rfl (Rd.loadA 0 1 rfl rfl (by kernel_rfl) rfl ap_nil) ?_
    refine SWl.ef (S := [_]) (Ef.storeA 2 rfl rfl rfl (by kernel_rfl) rfl (List.mem_singleton.2 rfl)) ?_
    rintro _ rfl
    refine SWl.rd rfl (Rd.assign rfl) ?_
    refine SWl.nil ?_
    refine SN.then ?_
    refine SW.retR (fn := Tryd.f61) (()) [] (fun _ _ h => h) (Rs.le (Rs.two rfl (ResV.cellA 2 rfl rfl (by kernel_rfl)) (ResV.tmp rfl)) ?_) (by decide) trivial
    exact Le.tup ⟨Le.agg ⟨by rw [Acc.add_bad h12]; exact Le.refl _, trivial⟩, Le.is (by rw [Acc.add_bad h12]), trivial⟩
  · have h12 : Acc.ok a := by have h := hb12; simp at h; exact h
    refine SW.skip ?_
    refine SN.then ?_
    refine SW.seq ?_
    refine SW.region ?_
    refine SWl.rd rfl (Rd.assign rfl) ?_
    refine SWl.nil ?_
    refine SN.then ?_
    refine SW.seq ?_
    refine SW.vecN 33 5 encA ?_
    refine SW.region ?_
    refine SWl.rd rfl (Rd.assign rfl) ?_
    refine SWl.nil ?_
    refine SN.then ?_
    refine SW.seq ?_
    refine SW.seq ?_
    refine SW.region ?_
    refine SWl.rd rfl (Rd.assign rfl) ?_
    refine SWl.nil ?_
    refine SN.then ?_
    refine SW.block ?_
    refine SW.loop (ι := {p : Nat × Ust // p.1 ≤ l.length ∧ ∀ y ∈ l.take p.1, ¬ Acc.clash a y}) (fun p => St.ob [(2, isD (.pointer (some ⟨g2, 0, none⟩))), (3, isD (.pointer (some ⟨g3, 0, none⟩))), (4, isD (.pointer (some ⟨g4, 0, none⟩))), (6, isD (.slice p.1.2.A (Acc.out l a p.1.1).length p.1.2.c)), (7, boolD (decide (Acc.pos l a.name < p.1.1))), (8, iD (p.1.1 : Int))] [.c g2 [lsD encA l], .c g3 [strD a.name, iD a.role, bD a.key, iD a.dep, iD a.num], .c g4 [isD (.slice none 0 0)], .r p.1.2.F (vecT 33 5 encA p.1.2.A p.1.2.c (Acc.out l a p.1.1))]) (fun p => l.length - p.1.1) (⟨(0, ⟨none, 0, []⟩), Nat.zero_le _, by simp⟩) ?_ ?_
    · exact ⟨⟨_, rfl, ⟨⟨_, rfl, Le.refl _⟩, ⟨⟨_, rfl, Le.refl _⟩, ⟨⟨_, rfl, Le.refl _⟩, ⟨⟨_, rfl, Le.is (by dsimp only; rw [Acc.out0]; rfl)⟩, ⟨⟨_, rfl, Le.is (by simp)⟩, ⟨⟨_, rfl, Le.refl _⟩, trivial⟩⟩⟩⟩⟩⟩⟩, [0, 1, 2, 3], by decide, ⟨⟨_, rfl, LeAll.refl _⟩, ⟨⟨_, rfl, LeAll.refl _⟩, ⟨⟨_, rfl, LeAll.refl _⟩, ⟨⟨_, rfl, leVec (by dsimp only; rw [Acc.out0]) (by dsimp only; rw [Acc.out0])⟩, trivial⟩⟩⟩⟩⟩
    · rintro ⟨⟨i, t⟩, hi⟩ K0 hK0
      dsimp only at hi ⊢
      have hol := Acc.out_len (a := a) hi.1
      refine SW.seq ?_
      refine SW.seq ?_
      refine SW.region ?_
      refine SWl.rd rfl (Rd.move rfl) ?_
      refine SWl.rd rfl (Rd.fieldAddr (n := 0) rfl (by kernel_rfl)) ?_
      refine SWl.rd rfl (Rd.loadB 0 rfl rfl rfl (by kernel_rfl) ap_nil) ?_
      refine SWl.rd rfl (Rd.lenR (e := 33) rfl (by kernel_rfl)) ?_
      refine SWl.rd rfl (Rd.lss rfl rfl) ?_
      refine SWl.nil ?_
      refine SN.then ?_
      refine SW.cond rfl (fun hb18 => ?_) (fun hb18 => ?_)
      · have hb18 := of_decide_eq_true hb18
        refine SW.skip ?_
        refine SN.then ?_
        refine SW.seq ?_
        refine SW.block ?_
        refine SW.seq ?_
        obtain ⟨x, hx⟩ : ∃ x, l[i]? = some x := ⟨_, List.getElem?_eq_getElem (by omega)⟩
        have hxm := List.mem_of_getElem? hx
        refine SW.region ?_
        refine SWl.rd rfl (Rd.fieldAddr (n := 0) rfl (by kernel_rfl)) ?_
        refine SWl.rd rfl (Rd.loadB 0 rfl rfl rfl (by kernel_rfl) ap_nil) ?_
        refine SWl.rd rfl (Rd.move rfl) ?_
        refine SWl.rd rfl (Rd.idxL (e := 33) 5 rfl rfl (by kernel_rfl) (by kernel_rfl) (by omega) (by simpa using hx)) ?_
        refine SWl.rd rfl (Rd.loadRA 5 rfl (by kernel_rfl) (by decide) (show 5 ≤ 5 by decide) (by simp)) ?_
        refine SWl.ef (S := []) (Ef.alloc (zs := [.string ⟨#[]⟩, .int .i64 0, .slice none 0 0, .int .i64 0, .int .i64 0]) (by kernel_rfl) rfl) ?_
        rintro _ ⟨g9, rfl⟩
        refine SWl.ef (S := [_]) (Ef.storeA 4 rfl rfl rfl (by kernel_rfl) rfl (List.mem_singleton.2 rfl)) ?_
        rintro _ rfl
        refine SWl.nil ?_
        refine SN.then ?_
        refine SW.seq ?_
        refine SW.meet (fun σ => ¬ Acc.clash a x ∧ σ = St.ob [(2, isD (.pointer (some ⟨g2, 0, none⟩))), (3, isD (.pointer (some ⟨g3, 0, none⟩))), (4, isD (.pointer (some ⟨g4, 0, none⟩))), (6, isD (.slice t.A (Acc.out l a i).length t.c)), (7, boolD (decide (Acc.pos l a.name < i))), (8, iD (i : Int)), (9, isD (.pointer (some ⟨g9, 0, none⟩)))] [.c g2 [lsD encA l], .c g3 [strD a.name, iD a.role, bD a.key, iD a.dep, iD a.num], .c g4 [isD (.slice none 0 0)], .r t.F (vecT 33 5 encA t.A t.c (Acc.out l a i)), .c g9 [strD x.name, iD x.role, bD x.key, iD x.dep, iD x.num]]) ?_ ?_
        · skip
          refine SW.seq ?_
          refine SW.region ?_
          refine SWl.rd rfl (Rd.fieldAddr (n := 0) rfl (by kernel_rfl)) ?_
          refine SWl.rd rfl (Rd.loadB 4 rfl rfl rfl (by kernel_rfl) ap_nil) ?_
          refine SWl.rd rfl (Rd.fieldAddr (n := 0) rfl (by kernel_rfl)) ?_
          refine SWl.rd rfl (Rd.loadB 1 rfl rfl rfl (by kernel_rfl) ap_nil) ?_
          refine SWl.rd rfl (Rd.eqs (p := x.name) (q := a.name) rfl rfl) ?_
          refine SWl.rd rfl (Rd.move rfl) ?_
          refine SWl.split 31 rfl (fun hb31 => ?_) (fun hb31 => ?_)
          · have h31 := of_decide_eq_true hb31
            refine SWl.off rfl rfl (hb31) rfl rfl ?_
            refine SWl.off rfl rfl (hb31) rfl rfl ?_
            refine SWl.off rfl rfl (hb31) rfl rfl ?_
            refine SWl.off rfl rfl (hb31) rfl rfl ?_
            refine SWl.off rfl rfl (hb31) rfl rfl ?_
            refine SWl.off rfl rfl (hb31) rfl rfl ?_
            refine SWl.offu rfl rfl rfl rfl ?_
            refine SWl.offu rfl rfl rfl rfl ?_
            refine SWl.offu rfl rfl rfl rfl ?_
            refine SWl.offu rfl rfl rfl rfl ?_
            refine SWl.offu rfl rfl rfl rfl ?_
            refine SWl.off rfl rfl (hb31) rfl rfl ?_
            refine SWl.off rfl rfl (hb31) rfl rfl ?_
            refine SWl.offu rfl rfl rfl rfl ?_
            refine SWl.offu rfl rfl rfl rfl ?_
            refine SWl.offu rfl rfl rfl rfl ?_
            refine SWl.off rfl rfl (hb31) rfl rfl ?_
            refine SWl.rd rfl (Rd.pickY rfl (hb31) rfl) ?_
            refine SWl.nil ?_
            refine SN.then ?_
            refine SW.condT rfl (rfl) ?_
            refine SW.seq ?_
            refine SW.region ?_
            refine SWl.rd rfl (Rd.loadA 0 1 rfl rfl (by kernel_rfl) rfl ap_nil) ?_
            refine SWl.ef (S := [_]) (Ef.storeA 2 rfl rfl rfl (by kernel_rfl) rfl (List.mem_singleton.2 rfl)) ?_
            rintro _ rfl
            refine SWl.rd rfl (Rd.assign rfl) ?_
            refine SWl.nil ?_
            refine SN.then ?_
            refine SW.retR (fn := Tryd.f61) (()) [] (fun _ _ h => h) (Rs.le (Rs.two rfl (ResV.cellA 2 rfl rfl (by kernel_rfl)) (ResV.tmp rfl)) ?_) (by decide) trivial
            exact Le.tup ⟨Le.agg ⟨by rw [Acc.add_busy h12 ⟨x, hxm, .inl h31⟩]; exact Le.refl _, trivial⟩, Le.is (by rw [Acc.add_busy h12 ⟨x, hxm, .inl h31⟩]), trivial⟩
          · have h31 := of_decide_eq_false hb31
            refine SWl.rdg rfl rfl (hb31) rfl rfl (Rd.fieldAddr (n := 1) rfl (by kernel_rfl)) ?_
            refine SWl.rdg rfl rfl (hb31) rfl rfl (Rd.loadB 4 rfl rfl rfl (by kernel_rfl) ap_nil) ?_
            refine SWl.rdg rfl rfl (hb31) rfl rfl (Rd.fieldAddr (n := 1) rfl (by kernel_rfl)) ?_
            refine SWl.rdg rfl rfl (hb31) rfl rfl (Rd.loadB 1 rfl rfl rfl (by kernel_rfl) ap_nil) ?_
            refine SWl.rdg rfl rfl (hb31) rfl rfl (Rd.eqi rfl rfl) ?_
            refine SWl.rdg rfl rfl (hb31) rfl rfl (Rd.move rfl) ?_
            refine SWl.split 37 rfl (fun hb37 => ?_) (fun hb37 => ?_)
            · have h37 := of_decide_eq_true hb37
              refine SWl.rdg rfl rfl (hb37) rfl rfl (Rd.fieldAddr (n := 4) rfl (by kernel_rfl)) ?_
              refine SWl.rdg rfl rfl (hb37) rfl rfl (Rd.loadB 4 rfl rfl rfl (by kernel_rfl) ap_nil) ?_
              refine SWl.rdg rfl rfl (hb37) rfl rfl (Rd.fieldAddr (n := 4) rfl (by kernel_rfl)) ?_
              refine SWl.rdg rfl rfl (hb37) rfl rfl (Rd.loadB 1 rfl rfl rfl (by kernel_rfl) ap_nil) ?_
              refine SWl.rdg rfl rfl (hb37) rfl rfl (Rd.eqi rfl rfl) ?_
              refine SWl.rdg rfl rfl (hb31) rfl rfl (Rd.pickY rfl (hb37) rfl) ?_
              refine SWl.rdg rfl rfl (hb31) rfl rfl (Rd.move rfl) ?_
              refine SWl.split 44 rfl (fun hb44 => ?_) (fun hb44 => ?_)
              · have h44 := of_decide_eq_true hb44
                refine SWl.rdg rfl rfl (hb44) rfl rfl (Rd.fieldAddr (n := 1) rfl (by kernel_rfl)) ?_
                refine SWl.rdg rfl rfl (hb44) rfl rfl (Rd.loadB 1 rfl rfl rfl (by kernel_rfl) ap_nil) ?_
                refine SWl.rdg rfl rfl (hb44) rfl rfl (Rd.nei rfl rfl) ?_
                refine SWl.rdg rfl rfl (hb31) rfl rfl (Rd.pickY rfl (hb44) rfl) ?_
                refine SWl.rd rfl (Rd.pickN rfl (hb31) rfl) ?_
                refine SWl.nil ?_
                refine SN.then ?_
                refine SW.cond rfl (fun hb49 => ?_) (fun hb49 => ?_)
                · have h48 : a.role ≠ 3 := by simpa using hb49
                  refine SW.seq ?_
                  refine SW.region ?_
                  refine SWl.rd rfl (Rd.loadA 0 1 rfl rfl (by kernel_rfl) rfl ap_nil) ?_
                  refine SWl.ef (S := [_]) (Ef.storeA 2 rfl rfl rfl (by kernel_rfl) rfl (List.mem_singleton.2 rfl)) ?_
                  rintro _ rfl
                  refine SWl.rd rfl (Rd.assign rfl) ?_
                  refine SWl.nil ?_
                  refine SN.then ?_
                  refine SW.retR (fn := Tryd.f61) (()) [] (fun _ _ h => h) (Rs.le (Rs.two rfl (ResV.cellA 2 rfl rfl (by kernel_rfl)) (ResV.tmp rfl)) ?_) (by decide) trivial
                  exact Le.tup ⟨Le.agg ⟨by rw [Acc.add_busy h12 ⟨x, hxm, .inr ⟨h37, h44, h48⟩⟩]; exact Le.refl _, trivial⟩, Le.is (by rw [Acc.add_busy h12 ⟨x, hxm, .inr ⟨h37, h44, h48⟩⟩]), trivial⟩
                · have h48 : ¬ a.role ≠ 3 := by simpa using hb49
                  refine SW.skip ?_
                  have hnc : ¬ Acc.clash a x := by (rintro (e | ⟨e1, e2, e3⟩) <;> first | exact h31 e | exact h37 e1 | exact h44 e2 | exact h48 e3)
                  exact SN.meet ⟨hnc, rfl⟩ (⟨⟨_, rfl, ⟨⟨_, rfl, Le.refl _⟩, ⟨⟨_, rfl, Le.refl _⟩, ⟨⟨_, rfl, Le.refl _⟩, ⟨⟨_, rfl, Le.refl _⟩, ⟨⟨_, rfl, Le.refl _⟩, ⟨⟨_, rfl, Le.refl _⟩, ⟨⟨_, rfl, Le.refl _⟩, trivial⟩⟩⟩⟩⟩⟩⟩⟩, [0, 1, 2, 3, 4], by decide, ⟨⟨_, rfl, LeAll.refl _⟩, ⟨⟨_, rfl, LeAll.refl _⟩, ⟨⟨_, rfl, LeAll.refl _⟩, ⟨⟨_, rfl, LeR.refl _⟩, ⟨⟨_, rfl, LeAll.refl _⟩, trivial⟩⟩⟩⟩⟩⟩)
              · have h44 := of_decide_eq_false hb44
                refine SWl.off rfl rfl (hb44) rfl rfl ?_
                refine SWl.off rfl rfl (hb44) rfl rfl ?_
                refine SWl.off rfl rfl (hb44) rfl rfl ?_
                refine SWl.rdg rfl rfl (hb31) rfl rfl (Rd.pickN rfl (hb44) rfl) ?_
                refine SWl.rd rfl (Rd.pickN rfl (hb31) rfl) ?_
                refine SWl.nil ?_
                refine SN.then ?_
                refine SW.condF rfl (rfl) ?_
                refine SW.skip ?_
                have hnc : ¬ Acc.clash a x := by (rintro (e | ⟨e1, e2, e3⟩) <;> first | exact h31 e | exact h37 e1 | exact h44 e2 | exact h48 e3)
                exact SN.meet ⟨hnc, rfl⟩ (⟨⟨_, rfl, ⟨⟨_, rfl, Le.refl _⟩, ⟨⟨_, rfl, Le.refl _⟩, ⟨⟨_, rfl, Le.refl _⟩, ⟨⟨_, rfl, Le.refl _⟩, ⟨⟨_, rfl, Le.refl _⟩, ⟨⟨_, rfl, Le.refl _⟩, ⟨⟨_, rfl, Le.refl _⟩, trivial⟩⟩⟩⟩⟩⟩⟩⟩, [0, 1, 2, 3, 4], by decide, ⟨⟨_, rfl, LeAll.refl _⟩, ⟨⟨_, rfl, LeAll.refl _⟩, ⟨⟨_, rfl, LeAll.refl _⟩, ⟨⟨_, rfl, LeR.refl _⟩, ⟨⟨_, rfl, LeAll.refl _⟩, trivial⟩⟩⟩⟩⟩⟩)
            · have h37 := of_decide_eq_false hb37
              refine SWl.off rfl rfl (hb37) rfl rfl ?_
              refine SWl.off rfl rfl (hb37) rfl rfl ?_
              refine SWl.off rfl rfl (hb37) rfl rfl ?_
              refine SWl.off rfl rfl (hb37) rfl rfl ?_
              refine SWl.off rfl rfl (hb37) rfl rfl ?_
              refine SWl.rdg rfl rfl (hb31) rfl rfl (Rd.pickN rfl (hb37) rfl) ?_
              refine SWl.rdg rfl rfl (hb31) rfl rfl (Rd.move rfl) ?_
              refine SWl.off rfl rfl (rfl) rfl rfl ?_
              refine SWl.off rfl rfl (rfl) rfl rfl ?_
              refine SWl.off rfl rfl (rfl) rfl rfl ?_
              refine SWl.rdg rfl rfl (hb31) rfl rfl (Rd.pickN rfl (rfl) rfl) ?_
              refine SWl.rd rfl (Rd.pickN rfl (hb31) rfl) ?_
              refine SWl.nil ?_
              refine SN.then ?_
              refine SW.condF rfl (rfl) ?_
              refine SW.skip ?_
              have hnc : ¬ Acc.clash a x := by (rintro (e | ⟨e1, e2, e3⟩) <;> first | exact h31 e | exact h37 e1 | exact h44 e2 | exact h48 e3)
              exact SN.meet ⟨hnc, rfl⟩ (⟨⟨_, rfl, ⟨⟨_, rfl, Le.refl _⟩, ⟨⟨_, rfl, Le.refl _⟩, ⟨⟨_, rfl, Le.refl _⟩, ⟨⟨_, rfl, Le.refl _⟩, ⟨⟨_, rfl, Le.refl _⟩, ⟨⟨_, rfl, Le.refl _⟩, ⟨⟨_, rfl, Le.refl _⟩, trivial⟩⟩⟩⟩⟩⟩⟩⟩, [0, 1, 2, 3, 4], by decide, ⟨⟨_, rfl, LeAll.refl _⟩, ⟨⟨_, rfl, LeAll.refl _⟩, ⟨⟨_, rfl, LeAll.refl _⟩, ⟨⟨_, rfl, LeR.refl _⟩, ⟨⟨_, rfl, LeAll.refl _⟩, trivial⟩⟩⟩⟩⟩⟩)
        · rintro _ ⟨hnc, rfl⟩
          refine SN.then ?_
          refine SW.seq ?_
          refine SW.seq ?_
          have hne : x.name ≠ a.name := fun e => hnc (.inl e)
          refine SW.region ?_
          refine SWl.rd rfl (Rd.move rfl) ?_
          refine SWl.rd rfl (Rd.not rfl) ?_
          refine SWl.rd rfl (Rd.move rfl) ?_
          refine SWl.split 53 rfl (fun hb53 => ?_) (fun hb53 => ?_)
          · have h53 : ¬ Acc.pos l a.name < i := by simpa using hb53
            refine SWl.rdg rfl rfl (hb53) rfl rfl (Rd.fieldAddr (n := 0) rfl (by kernel_rfl)) ?_
            refine SWl.rdg rfl rfl (hb53) rfl rfl (Rd.loadB 1 rfl rfl rfl (by kernel_rfl) ap_nil) ?_
            refine SWl.rdg rfl rfl (hb53) rfl rfl (Rd.fieldAddr (n := 0) rfl (by kernel_rfl)) ?_
            refine SWl.rdg rfl rfl (hb53) rfl rfl (Rd.loadB 4 rfl rfl rfl (by kernel_rfl) ap_nil) ?_
            refine SWl.rdg rfl rfl (hb53) rfl rfl (Rd.lts rfl rfl) ?_
            refine SWl.rd rfl (Rd.pickY rfl (hb53) rfl) ?_
            refine SWl.nil ?_
            refine SN.then ?_
            refine SW.cond rfl (fun hb59 => ?_) (fun hb59 => ?_)
            · have h59 : i = Acc.pos l a.name := by have h := Acc.pos_step hf.srt hx hne h53; rw [show Acc.lt a.name x.name = true from hb59] at h; exact of_decide_eq_true h.symm
              refine SW.region ?_
              refine SWl.rd rfl (Rd.move rfl) ?_
              refine SWl.rd rfl (Rd.loadA 1 5 rfl rfl (by kernel_rfl) rfl ap_nil) ?_
              refine SWl.ef (S := []) (Ef.litR rfl rfl (blsA1 a) rfl) ?_
              rintro _ rfl
              refine SWl.ef (Ef.appT 3 5 64 rfl rfl (SrcT.ls (l := [a]) rfl) (by kernel_rfl) (by kernel_rfl) (by simp; omega) (by decide) (fun _ h => h) rfl) ?_
              rintro _ ⟨A63, F63, c63, rfl⟩
              refine SWl.rd rfl (Rd.assign rfl) ?_
              refine SWl.rd rfl (Rd.assign rfl) ?_
              refine SWl.nil ?_
              refine SN.then ?_
              refine SW.region ?_
              refine SWl.rd rfl (Rd.move rfl) ?_
              refine SWl.rd rfl (Rd.loadA 3 5 rfl rfl (by kernel_rfl) rfl ap_nil) ?_
              refine SWl.ef (S := []) (Ef.litR rfl rfl (blsA1 x) rfl) ?_
              rintro _ rfl
              refine SWl.ef (Ef.appT 4 5 64 rfl rfl (SrcT.ls (l := [x]) rfl) (by kernel_rfl) (by kernel_rfl) (by simp; omega) (by decide) (fun _ h => h) rfl) ?_
              rintro _ ⟨A67, F67, c67, rfl⟩
              refine SWl.rd rfl (Rd.assign rfl) ?_
              refine SWl.nil ?_
              refine SN.block ?_
              refine SN.then ?_
              refine SW.region ?_
              refine SWl.rd rfl (Rd.move rfl) ?_
              refine SWl.rd rfl (Rd.add rfl rfl ⟨by omega, by omega⟩) ?_
              refine SWl.rd rfl (Rd.assign rfl) ?_
              refine SWl.nil ?_
              have hO := Acc.out_in (a := a) hx h59; have hP : decide (Acc.pos l a.name < i + 1) = true := by simp; omega
              exact fun a w hh => hK0 (⟨(i + 1, ⟨A67, c67, F67⟩), by dsimp only; omega, fun y hy => by dsimp only at hy; rw [take_snoc hx] at hy; rcases List.mem_append.1 hy with hy | hy; exact hi.2 y hy; rw [List.mem_singleton.1 hy]; exact hnc⟩) (by dsimp only; omega) a w (hh.sub (⟨⟨_, rfl, ⟨⟨_, rfl, Le.refl _⟩, ⟨⟨_, rfl, Le.refl _⟩, ⟨⟨_, rfl, Le.refl _⟩, ⟨⟨_, rfl, Le.is (by dsimp only; rw [hO])⟩, ⟨⟨_, rfl, Le.is (by dsimp only; rw [hP])⟩, ⟨⟨_, rfl, Le.is (by simp)⟩, trivial⟩⟩⟩⟩⟩⟩⟩, [0, 1, 2, 4], by decide, ⟨⟨_, rfl, LeAll.refl _⟩, ⟨⟨_, rfl, LeAll.refl _⟩, ⟨⟨_, rfl, LeAll.refl _⟩, ⟨⟨_, rfl, leVec (by dsimp only; rw [hO]) (by dsimp only; rw [hO])⟩, trivial⟩⟩⟩⟩⟩))
            · have h59 : ¬ i = Acc.pos l a.name := by have h := Acc.pos_step hf.srt hx hne h53; rw [show Acc.lt a.name x.name = false from hb59] at h; exact of_decide_eq_false h.symm
              refine SW.skip ?_
              refine SN.then ?_
              refine SW.region ?_
              refine SWl.rd rfl (Rd.move rfl) ?_
              refine SWl.rd rfl (Rd.loadA 4 5 rfl rfl (by kernel_rfl) rfl ap_nil) ?_
              refine SWl.ef (S := []) (Ef.litR rfl rfl (blsA1 x) rfl) ?_
              rintro _ rfl
              refine SWl.ef (Ef.appT 3 5 64 rfl rfl (SrcT.ls (l := [x]) rfl) (by kernel_rfl) (by kernel_rfl) (by simp; omega) (by decide) (fun _ h => h) rfl) ?_
              rintro _ ⟨A67, F67, c67, rfl⟩
              refine SWl.rd rfl (Rd.assign rfl) ?_
              refine SWl.nil ?_
              refine SN.block ?_
              refine SN.then ?_
              refine SW.region ?_
              refine SWl.rd rfl (Rd.move rfl) ?_
              refine SWl.rd rfl (Rd.add rfl rfl ⟨by omega, by omega⟩) ?_
              refine SWl.rd rfl (Rd.assign rfl) ?_
              refine SWl.nil ?_
              have hO := Acc.out_bef (a := a) hx (by omega); have hP : decide (Acc.pos l a.name < i + 1) = decide (Acc.pos l a.name < i) := by rw [decide_eq_decide]; omega
              exact fun a w hh => hK0 (⟨(i + 1, ⟨A67, c67, F67⟩), by dsimp only; omega, fun y hy => by dsimp only at hy; rw [take_snoc hx] at hy; rcases List.mem_append.1 hy with hy | hy; exact hi.2 y hy; rw [List.mem_singleton.1 hy]; exact hnc⟩) (by dsimp only; omega) a w (hh.sub (⟨⟨_, rfl, ⟨⟨_, rfl, Le.refl _⟩, ⟨⟨_, rfl, Le.refl _⟩, ⟨⟨_, rfl, Le.refl _⟩, ⟨⟨_, rfl, Le.is (by dsimp only; rw [hO])⟩, ⟨⟨_, rfl, Le.is (by dsimp only; rw [hP])⟩, ⟨⟨_, rfl, Le.is (by simp)⟩, trivial⟩⟩⟩⟩⟩⟩⟩, [0, 1, 2, 4], by decide, ⟨⟨_, rfl, LeAll.refl _⟩, ⟨⟨_, rfl, LeAll.refl _⟩, ⟨⟨_, rfl, LeAll.refl _⟩, ⟨⟨_, rfl, leVec (by dsimp only; rw [hO]) (by dsimp only; rw [hO])⟩, trivial⟩⟩⟩⟩⟩))
          · have h53 : Acc.pos l a.name < i := by simpa using hb53
            refine SWl.off rfl rfl (hb53) rfl rfl ?_
            refine SWl.off rfl rfl (hb53) rfl rfl ?_
            refine SWl.off rfl rfl (hb53) rfl rfl ?_
            refine SWl.off rfl rfl (hb53) rfl rfl ?_
            refine SWl.off rfl rfl (hb53) rfl rfl ?_
            refine SWl.rd rfl (Rd.pickN rfl (hb53) rfl) ?_
            refine SWl.nil ?_
            refine SN.then ?_
            refine SW.condF rfl (rfl) ?_
            refine SW.skip ?_
            refine SN.then ?_
            refine SW.region ?_
            refine SWl.rd rfl (Rd.move rfl) ?_
            refine SWl.rd rfl (Rd.loadA 4 5 rfl rfl (by kernel_rfl) rfl ap_nil) ?_
            refine SWl.ef (S := []) (Ef.litR rfl rfl (blsA1 x) rfl) ?_
            rintro _ rfl
            refine SWl.ef (Ef.appT 3 5 64 rfl rfl (SrcT.ls (l := [x]) rfl) (by kernel_rfl) (by kernel_rfl) (by simp; omega) (by decide) (fun _ h => h) rfl) ?_
            rintro _ ⟨A67, F67, c67, rfl⟩
            refine SWl.rd rfl (Rd.assign rfl) ?_
            refine SWl.nil ?_
            refine SN.block ?_
            refine SN.then ?_
            refine SW.region ?_
            refine SWl.rd rfl (Rd.move rfl) ?_
            refine SWl.rd rfl (Rd.add rfl rfl ⟨by omega, by omega⟩) ?_
            refine SWl.rd rfl (Rd.assign rfl) ?_
            refine SWl.nil ?_
            have hO := Acc.out_aft (a := a) hx h53; have hP : decide (Acc.pos l a.name < i + 1) = decide (Acc.pos l a.name < i) := by rw [decide_eq_decide]; omega
            exact fun a w hh => hK0 (⟨(i + 1, ⟨A67, c67, F67⟩), by dsimp only; omega, fun y hy => by dsimp only at hy; rw [take_snoc hx] at hy; rcases List.mem_append.1 hy with hy | hy; exact hi.2 y hy; rw [List.mem_singleton.1 hy]; exact hnc⟩) (by dsimp only; omega) a w (hh.sub (⟨⟨_, rfl, ⟨⟨_, rfl, Le.refl _⟩, ⟨⟨_, rfl, Le.refl _⟩, ⟨⟨_, rfl, Le.refl _⟩, ⟨⟨_, rfl, Le.is (by dsimp only; rw [hO])⟩, ⟨⟨_, rfl, Le.is (by dsimp only; rw [hP])⟩, ⟨⟨_, rfl, Le.is (by simp)⟩, trivial⟩⟩⟩⟩⟩⟩⟩, [0, 1, 2, 4], by decide, ⟨⟨_, rfl, LeAll.refl _⟩, ⟨⟨_, rfl, LeAll.refl _⟩, ⟨⟨_, rfl, LeAll.refl _⟩, ⟨⟨_, rfl, leVec (by dsimp only; rw [hO]) (by dsimp only; rw [hO])⟩, trivial⟩⟩⟩⟩⟩))
      · have hb18 := of_decide_eq_false hb18
        refine SW.exit' ?_
        repeat (first | refine SE.then ?_ | refine SE.skip (by decide) ?_)
        refine SE.here ?_
        refine SN.then ?_
        refine SW.seq ?_
        refine SW.seq ?_
        obtain rfl : i = l.length := by omega
        have hc : ¬ ∃ x ∈ l, Acc.clash a x := fun ⟨x, hx, hcl⟩ => hi.2 x (by rw [List.take_length]; exact hx) hcl
        refine SW.sub (σ' := St.ob [(2, isD (.pointer (some ⟨g2, 0, none⟩))), (3, isD (.pointer (some ⟨g3, 0, none⟩))), (4, isD (.pointer (some ⟨g4, 0, none⟩))), (6, isD (.slice t.A (Acc.out l a l.length).length t.c)), (7, boolD (decide (Acc.pos l a.name < l.length)))] [.c g2 [lsD encA l], .c g3 [strD a.name, iD a.role, bD a.key, iD a.dep, iD a.num], .c g4 [isD (.slice none 0 0)], .r t.F (vecT 33 5 encA t.A t.c (Acc.out l a l.length))]) (⟨⟨_, rfl, ⟨⟨_, rfl, Le.refl _⟩, ⟨⟨_, rfl, Le.refl _⟩, ⟨⟨_, rfl, Le.refl _⟩, ⟨⟨_, rfl, Le.refl _⟩, ⟨⟨_, rfl, Le.refl _⟩, trivial⟩⟩⟩⟩⟩⟩, [0, 1, 2, 3], by decide, ⟨⟨_, rfl, LeAll.refl _⟩, ⟨⟨_, rfl, LeAll.refl _⟩, ⟨⟨_, rfl, LeAll.refl _⟩, ⟨⟨_, rfl, LeR.refl _⟩, trivial⟩⟩⟩⟩⟩) ?_
        refine SW.region ?_
        refine SWl.rd rfl (Rd.move rfl) ?_
        refine SWl.rd rfl (Rd.not rfl) ?_
        refine SWl.nil ?_
        refine SN.then ?_
        refine SW.cond rfl (fun hb69 => ?_) (fun hb69 => ?_)
        · have h69 : ¬ Acc.pos l a.name < l.length := by have h := hb69; simpa using h
          refine SW.region ?_
          refine SWl.rd rfl (Rd.move rfl) ?_
          refine SWl.rd rfl (Rd.loadA 1 5 rfl rfl (by kernel_rfl) rfl ap_nil) ?_
          refine SWl.ef (S := []) (Ef.litR rfl rfl (blsA1 a) rfl) ?_
          rintro _ rfl
          refine SWl.ef (Ef.appT 3 5 64 rfl rfl (SrcT.ls (l := [a]) rfl) (by kernel_rfl) (by kernel_rfl) (by simp; omega) (by decide) (fun _ h => h) rfl) ?_
          rintro _ ⟨A73, F73, c73, rfl⟩
          refine SWl.rd rfl (Rd.assign rfl) ?_
          refine SWl.nil ?_
          refine SN.then ?_
          refine SW.seq ?_
          refine SW.seq ?_
          have hE := Acc.out_end' h69
          have hEL := Acc.ins_len l a
          refine SW.sub (σ' := St.ob [(2, isD (.pointer (some ⟨g2, 0, none⟩))), (4, isD (.pointer (some ⟨g4, 0, none⟩))), (6, isD (.slice (⟨A73, c73, F73⟩ : Ust).A (Acc.ins l a).length (⟨A73, c73, F73⟩ : Ust).c))] [.c g2 [lsD encA l], .c g4 [isD (.slice none 0 0)], .r (⟨A73, c73, F73⟩ : Ust).F (vecT 33 5 encA (⟨A73, c73, F73⟩ : Ust).A (⟨A73, c73, F73⟩ : Ust).c (Acc.ins l a))]) (⟨⟨_, rfl, ⟨⟨_, rfl, Le.refl _⟩, ⟨⟨_, rfl, Le.refl _⟩, ⟨⟨_, rfl, Le.is (by rw [hE])⟩, trivial⟩⟩⟩⟩, [0, 2, 3], by decide, ⟨⟨_, rfl, LeAll.refl _⟩, ⟨⟨_, rfl, LeAll.refl _⟩, ⟨⟨_, rfl, leVec (by rw [hE]) (by rw [hE])⟩, trivial⟩⟩⟩⟩) ?_
          refine SW.region ?_
          refine SWl.rd rfl (Rd.move rfl) ?_
          refine SWl.rd rfl (Rd.lenE (e := 33) rfl (by kernel_rfl)) ?_
          refine SWl.rd rfl (Rd.gtr rfl rfl) ?_
          refine SWl.nil ?_
          refine SN.then ?_
          refine SW.cond rfl (fun hb76 => ?_) (fun hb76 => ?_)
          · have h76 : 256 ≤ l.length := by have h := of_decide_eq_true hb76; rw [hEL] at h; omega
            refine SW.seq ?_
            refine SW.region ?_
            refine SWl.rd rfl (Rd.loadA 0 1 rfl rfl (by kernel_rfl) rfl ap_nil) ?_
            refine SWl.ef (S := [_]) (Ef.storeA 1 rfl rfl rfl (by kernel_rfl) rfl (List.mem_singleton.2 rfl)) ?_
            rintro _ rfl
            refine SWl.rd rfl (Rd.assign rfl) ?_
            refine SWl.nil ?_
            refine SN.then ?_
            refine SW.retR (fn := Tryd.f61) (()) [] (fun _ _ h => h) (Rs.le (Rs.two rfl (ResV.cellA 1 rfl rfl (by kernel_rfl)) (ResV.tmp rfl)) ?_) (by decide) trivial
            exact Le.tup ⟨Le.agg ⟨by rw [Acc.add_full h12 hc h76]; exact Le.refl _, trivial⟩, Le.is (by rw [Acc.add_full h12 hc h76]), trivial⟩
          · have h76 : ¬ 256 ≤ l.length := by have h := of_decide_eq_false hb76; rw [hEL] at h; omega
            refine SW.skip ?_
            refine SN.then ?_
            refine SW.seq ?_
            refine SW.region ?_
            refine SWl.rd rfl (Rd.move rfl) ?_
            refine SWl.rd rfl (Rd.build rfl rfl bldRB) ?_
            refine SWl.ef (S := [_]) (Ef.storeA 1 rfl rfl rfl (by kernel_rfl) rfl (List.mem_singleton.2 rfl)) ?_
            rintro _ rfl
            refine SWl.rd rfl (Rd.assign rfl) ?_
            refine SWl.nil ?_
            refine SN.then ?_
            refine SW.freezeC 1 0 2 rfl rfl rfl ?_
            refine SW.retR (fn := Tryd.f61) (()) [] (fun _ _ h => h) (Rs.le (Rs.two rfl (ResV.cellA 1 rfl rfl (by kernel_rfl)) (ResV.tmp rfl)) ?_) (by decide) trivial
            exact Le.tup ⟨Le.agg ⟨by rw [Acc.add_ok h12 hc h76]; exact Le.refl _, trivial⟩, Le.is (by rw [Acc.add_ok h12 hc h76]), trivial⟩
        · have h69 : Acc.pos l a.name < l.length := by have h := hb69; simpa using h
          refine SW.skip ?_
          refine SN.then ?_
          refine SW.seq ?_
          refine SW.seq ?_
          have hE := Acc.out_end h69
          have hEL := Acc.ins_len l a
          refine SW.sub (σ' := St.ob [(2, isD (.pointer (some ⟨g2, 0, none⟩))), (4, isD (.pointer (some ⟨g4, 0, none⟩))), (6, isD (.slice t.A (Acc.ins l a).length t.c))] [.c g2 [lsD encA l], .c g4 [isD (.slice none 0 0)], .r t.F (vecT 33 5 encA t.A t.c (Acc.ins l a))]) (⟨⟨_, rfl, ⟨⟨_, rfl, Le.refl _⟩, ⟨⟨_, rfl, Le.refl _⟩, ⟨⟨_, rfl, Le.is (by rw [hE])⟩, trivial⟩⟩⟩⟩, [0, 2, 3], by decide, ⟨⟨_, rfl, LeAll.refl _⟩, ⟨⟨_, rfl, LeAll.refl _⟩, ⟨⟨_, rfl, leVec (by rw [hE]) (by rw [hE])⟩, trivial⟩⟩⟩⟩) ?_
          refine SW.region ?_
          refine SWl.rd rfl (Rd.move rfl) ?_
          refine SWl.rd rfl (Rd.lenE (e := 33) rfl (by kernel_rfl)) ?_
          refine SWl.rd rfl (Rd.gtr rfl rfl) ?_
          refine SWl.nil ?_
          refine SN.then ?_
          refine SW.cond rfl (fun hb76 => ?_) (fun hb76 => ?_)
          · have h76 : 256 ≤ l.length := by have h := of_decide_eq_true hb76; rw [hEL] at h; omega
            refine SW.seq ?_
            refine SW.region ?_
            refine SWl.rd rfl (Rd.loadA 0 1 rfl rfl (by kernel_rfl) rfl ap_nil) ?_
            refine SWl.ef (S := [_]) (Ef.storeA 1 rfl rfl rfl (by kernel_rfl) rfl (List.mem_singleton.2 rfl)) ?_
            rintro _ rfl
            refine SWl.rd rfl (Rd.assign rfl) ?_
            refine SWl.nil ?_
            refine SN.then ?_
            refine SW.retR (fn := Tryd.f61) (()) [] (fun _ _ h => h) (Rs.le (Rs.two rfl (ResV.cellA 1 rfl rfl (by kernel_rfl)) (ResV.tmp rfl)) ?_) (by decide) trivial
            exact Le.tup ⟨Le.agg ⟨by rw [Acc.add_full h12 hc h76]; exact Le.refl _, trivial⟩, Le.is (by rw [Acc.add_full h12 hc h76]), trivial⟩
          · have h76 : ¬ 256 ≤ l.length := by have h := of_decide_eq_false hb76; rw [hEL] at h; omega
            refine SW.skip ?_
            refine SN.then ?_
            refine SW.seq ?_
            refine SW.region ?_
            refine SWl.rd rfl (Rd.move rfl) ?_
            refine SWl.rd rfl (Rd.build rfl rfl bldRB) ?_
            refine SWl.ef (S := [_]) (Ef.storeA 1 rfl rfl rfl (by kernel_rfl) rfl (List.mem_singleton.2 rfl)) ?_
            rintro _ rfl
            refine SWl.rd rfl (Rd.assign rfl) ?_
            refine SWl.nil ?_
            refine SN.then ?_
            refine SW.freezeC 1 0 2 rfl rfl rfl ?_
            refine SW.retR (fn := Tryd.f61) (()) [] (fun _ _ h => h) (Rs.le (Rs.two rfl (ResV.cellA 1 rfl rfl (by kernel_rfl)) (ResV.tmp rfl)) ?_) (by decide) trivial
            exact Le.tup ⟨Le.agg ⟨by rw [Acc.add_ok h12 hc h76]; exact Le.refl _, trivial⟩, Le.is (by rw [Acc.add_ok h12 hc h76]), trivial⟩
theorem wrap8 (x : Int) : IntKind.u8.wrap x = x % 256 := by simp [IntKind.wrap, IntKind.signed, IntKind.bits]
theorem leAll_eq {ds es : List D} (h : ds = es) : LeAll ds es := by subst h; exact LeAll.refl _
theorem bldRB0 : Bld Tryd.prog 47 [] [] [isD (.slice none 0 0)] := fun L w vs h => by
  obtain rfl := all0 h
  exact ⟨[.slice none 0 0], ⟨rfl, trivial⟩, fun w' => by kernel_rfl⟩
end Sx
end Go.Proofs.YtchbgfgboogniaaDoor
