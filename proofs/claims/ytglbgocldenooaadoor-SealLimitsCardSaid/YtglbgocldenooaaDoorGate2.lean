/-
  MORE ARGUMENTS out of a row's words: a byte, a slice of slices of bytes, a string.
-/
import Derived.Test.YtglbgocldenooaaDoorGate
import Derived.Test.YtglbgocldenooaaDoorLawParts
import Derived.Deep.Matrix
namespace Go.Proofs.YtglbgocldenooaaDoor
open Go.ChangeShapes Go.WideShapes Go.ChangeAt Go.RowKit
section
variable {H : Type} {enc : TypeId × Value → H} {P : Program}

theorem wf_u8 {n : Int} (h : (Lit.int .u8 n).wf = true) : 0 ≤ n ∧ n < 256 := by
  simp [Lit.wf, IntKind.min, IntKind.max, IntKind.signed, IntKind.bits] at h
  omega
theorem open_u8 {W : World} {t : TypeId} {v : Value} {d : DataW H} {p : List MemPlace} (ht : P.underlying t = some (.int .u8)) {base : Nat} (hv : Value.okWide P W .any base t v) (h : DataW.Trod enc P W 0 (fun _ => true) true t v d p) :
    ∃ b : UInt8, v = .int .u8 (b.toNat : Int) := by
  obtain ⟨n, rfl, -, -, hw⟩ := open_int ht hv h
  have := wf_u8 hw
  refine ⟨UInt8.ofNat n.toNat, ?_⟩
  congr 1
  simp
  omega

/-- an argument of slices of bytes -/
theorem open_bytess {W : World} {t e q : TypeId} {v : Value} {d : DataW H} {p : List MemPlace} (ht : P.underlying t = some (.slice e)) (he : P.underlying e = some (.slice q)) (hq : P.underlying q = some (.int .u8)) (ce : P.cellsOf e = 1) (cq : P.cellsOf q = 1)
    {base : Nat} (hv : Value.okWide P W .any base t v) (h : DataW.Trod enc P W 0 (fun _ => true) true t v d p) :
    ∃ (A : Option Addr) (n c : Nat) (ps : List (List UInt8)), v = .slice A n c ∧ n = ps.length ∧ n ≤ c ∧ c ≤ maxLen ∧ RP W A ps := by
  obtain ⟨A, n, c, rfl⟩ := okWide_slice ht hv
  obtain ⟨fuel, h⟩ := h
  rcases Go.Deep.open_int_rows ht he hq ce cq h with ⟨e1, -⟩ | ⟨a, len, cap, A', L, C, Z, e1, -, h1, h2, -, h3⟩
  · change [Value.slice A n c] = _ at e1
    obtain ⟨rfl, rfl, rfl⟩ : A = none ∧ n = 0 ∧ c = 0 := by simpa using e1
    exact ⟨none, 0, 0, [], rfl, rfl, by omega, by decide, fun i p hp => by simp at hp⟩
  · change [Value.slice A n c] = _ at e1
    obtain ⟨rfl, rfl, rfl⟩ : A = some a ∧ n = len ∧ c = cap := by simpa using e1
    refine ⟨some a, n, c, (List.range n).map fun r => ((Z r).take (L r)).map fun z => UInt8.ofNat z.toNat, rfl, by simp, h1, h2, ?_⟩
    intro i p hp
    have hi : i < n := by have := (List.getElem?_eq_some_iff.1 hp).1; simpa using this
    simp only [List.getElem?_map, List.getElem?_range hi, Option.map_some, Option.some.injEq] at hp
    obtain ⟨hc, hL, hC, hZ, hwf, hnone, hcell⟩ := h3 i (by omega)
    obtain ⟨b, off, spot⟩ := a
    have hspot : spot = none := by simpa [Addr.add] using World.cell?_spot (h3 0 (by omega)).1
    subst hspot
    rw [Addr.add_mid] at hc
    have hpl : p.length = L i := by rw [← hp]; simp [hZ]; omega
    refine ⟨b, off, A' i, C i, rfl, cell_lt hc, by rw [hpl]; exact hc, by rw [hpl]; exact hL, ?_⟩
    intro h0
    have h0' : 0 < L i := by rw [← hpl]; simpa using h0
    cases hA : A' i with
    | none => have := hnone hA; omega
    | some a' =>
      obtain ⟨-, hc2⟩ := hcell a' hA
      obtain ⟨b', off', spot'⟩ := a'
      have hs' : spot' = none := by simpa [Addr.add] using World.cell?_spot (hc2 0 (by omega))
      subst hs'
      have hlt : b' < W.heap.size := by
        have := hc2 0 (by omega)
        rw [Addr.add_mid] at this
        exact cell_lt this
      refine ⟨b', off', rfl, hlt, fun j hj => ?_⟩
      have hj' : j < L i := by rw [← hpl]; simpa using hj
      have hjz : j < (Z i).length := by omega
      have e2 := hc2 j (by omega)
      rw [Addr.add_mid] at e2
      rw [e2, cellsOf_getD (by omega)]
      have hr := wf_u8 (hwf ((Z i)[j]) (List.getElem_mem _))
      have e3 : (p.getD j 0).toNat = ((Z i)[j]).toNat := by
        rw [← hp]
        simp [List.getD, hj', hjz]
        omega
      rw [e3]
      simp [List.getD, hjz]
      omega
end
end Go.Proofs.YtglbgocldenooaaDoor
