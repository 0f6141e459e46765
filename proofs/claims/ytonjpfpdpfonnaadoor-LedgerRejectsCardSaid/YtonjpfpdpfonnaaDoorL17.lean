/-
  LEDGERS: encodings read, in plain terms.
-/
import Derived.Test.YtonjpfpdpfonnaaDoorL16
import Derived.Test.YtonjpfpdpfonnaaDoorSyT
namespace Go.Proofs.YtonjpfpdpfonnaaDoor
open Go.RowKit
namespace Sx
section
variable {P : Program} {Γ : Cx} {σ : St} {S : List Nat} {dst : Option Tmp} {ty : TypeId} {pos : String} {af : Array Edge} {gd : Option (Nat × Bool)} {d d' : D}
theorem Rd.mono {o : Oper} (h : Rd P Γ S o σ d) (hl : Le d d') : Rd P Γ S o σ d' := fun a w hh => by
  obtain ⟨v, h1, h2⟩ := h a w hh
  exact ⟨v, hl _ _ _ h1, h2⟩
end
namespace Led
/-- The number of bytes of an entry. -/
def rd4 (b : List UInt8) : Nat := (b.getD 1 0).toNat * 16777216 + (b.getD 2 0).toNat * 65536 + (b.getD 3 0).toNat * 256 + (b.getD 4 0).toNat
/-- The first entry of an encoding, after c others. -/
def dec1 (b : List UInt8) (c : Nat) : Except Int (Go.Proofs.YtonjpfpdpfonnaaDoor.Led.Ent × List UInt8) :=
  if 4096 ≤ c then .error 7 else if b.length < 5 then .error 4 else if 65536 < rd4 b then .error 6 else if b.length < 5 + rd4 b then .error 4 else .ok (⟨((b.getD 0 0).toNat : Int), (b.take (5 + rd4 b)).drop 5⟩, b.drop (5 + rd4 b))
def decF : Nat → List Go.Proofs.YtonjpfpdpfonnaaDoor.Led.Ent → List UInt8 → Except Int (List Go.Proofs.YtonjpfpdpfonnaaDoor.Led.Ent)
  | 0, es, _ => .ok es
  | n + 1, es, b => if b = [] then .ok es else match dec1 b es.length with
    | .error k => .error k
    | .ok (e, r) => decF n (es ++ [e]) r
def decs (b : List UInt8) : Except Int (List Go.Proofs.YtonjpfpdpfonnaaDoor.Led.Ent) := decF b.length [] b
theorem dec1_full {b : List UInt8} {c : Nat} (h : 4096 ≤ c) : dec1 b c = .error 7 := if_pos h
theorem dec1_short {b : List UInt8} {c : Nat} (h : ¬ 4096 ≤ c) (h2 : b.length < 5) : dec1 b c = .error 4 := by rw [dec1, if_neg h, if_pos h2]
theorem dec1_form {b : List UInt8} {c : Nat} (h : ¬ 4096 ≤ c) (h2 : ¬ b.length < 5) (h3 : 65536 < rd4 b) : dec1 b c = .error 6 := by rw [dec1, if_neg h, if_neg h2, if_pos h3]
theorem dec1_short2 {b : List UInt8} {c : Nat} (h : ¬ 4096 ≤ c) (h2 : ¬ b.length < 5) (h3 : ¬ 65536 < rd4 b) (h4 : b.length < 5 + rd4 b) : dec1 b c = .error 4 := by rw [dec1, if_neg h, if_neg h2, if_neg h3, if_pos h4]
theorem dec1_ok {b : List UInt8} {c : Nat} (h : ¬ 4096 ≤ c) (h2 : ¬ b.length < 5) (h3 : ¬ 65536 < rd4 b) (h4 : ¬ b.length < 5 + rd4 b) : dec1 b c = .ok (⟨((b.getD 0 0).toNat : Int), (b.take (5 + rd4 b)).drop 5⟩, b.drop (5 + rd4 b)) := by rw [dec1, if_neg h, if_neg h2, if_neg h3, if_neg h4]
theorem five : ∀ {b : List UInt8}, ¬ b.length < 5 → ∃ x0 x1 x2 x3 x4 t, b = x0 :: x1 :: x2 :: x3 :: x4 :: t
  | x0 :: x1 :: x2 :: x3 :: x4 :: t, _ => ⟨x0, x1, x2, x3, x4, t, rfl⟩
  | [], h => by simp at h
  | [_], h => by simp at h
  | [_, _], h => by simp at h
  | [_, _, _], h => by simp at h
  | [_, _, _, _], h => by simp at h
theorem enc_rd (x0 x1 x2 x3 x4 : UInt8) (t : List UInt8) (n : Nat) (hr : n = x1.toNat * 16777216 + x2.toNat * 65536 + x3.toNat * 256 + x4.toNat) (hle : n ≤ t.length) : x0 :: x1 :: x2 :: x3 :: x4 :: t = encF ⟨(x0.toNat : Int), t.take n⟩ ++ t.drop n := by
  have b1 := x1.toNat_lt
  have b2 := x2.toNat_lt
  have b3 := x3.toNat_lt
  have b4 := x4.toNat_lt
  have hlen : (t.take n).length = n := by rw [List.length_take]; omega
  have e1 : UInt8.ofNat (n / 16777216) = x1 := by
    apply UInt8.toNat_inj.1; rw [UInt8.toNat_ofNat']; omega
  have e2 : UInt8.ofNat (n / 65536) = x2 := by
    apply UInt8.toNat_inj.1; rw [UInt8.toNat_ofNat']; omega
  have e3 : UInt8.ofNat (n / 256) = x3 := by
    apply UInt8.toNat_inj.1; rw [UInt8.toNat_ofNat']; omega
  have e4 : UInt8.ofNat n = x4 := by
    apply UInt8.toNat_inj.1; rw [UInt8.toNat_ofNat']; omega
  have e0 : UInt8.ofNat ((x0.toNat : Int).toNat) = x0 := by simp
  unfold encF be4
  simp only [hlen, e0, e1, e2, e3, e4, List.cons_append, List.nil_append, List.take_append_drop]
theorem dec1_inv {b r : List UInt8} {c : Nat} {e : Go.Proofs.YtonjpfpdpfonnaaDoor.Led.Ent} (h : dec1 b c = .ok (e, r)) : c < 4096 ∧ ¬ b.length < 5 ∧ rd4 b ≤ 65536 ∧ 5 + rd4 b ≤ b.length ∧ e = ⟨((b.getD 0 0).toNat : Int), (b.take (5 + rd4 b)).drop 5⟩ ∧ r = b.drop (5 + rd4 b) := by
  by_cases h1 : 4096 ≤ c
  · rw [dec1_full h1] at h; cases h
  by_cases h2 : b.length < 5
  · rw [dec1_short h1 h2] at h; cases h
  by_cases h3 : 65536 < rd4 b
  · rw [dec1_form h1 h2 h3] at h; cases h
  by_cases h4 : b.length < 5 + rd4 b
  · rw [dec1_short2 h1 h2 h3 h4] at h; cases h
  rw [dec1_ok h1 h2 h3 h4] at h
  injection h with h
  injection h with h5 h6
  exact ⟨by omega, h2, by omega, by omega, h5.symm, h6.symm⟩
theorem take5 (x0 x1 x2 x3 x4 : UInt8) (t : List UInt8) (n : Nat) : ((x0 :: x1 :: x2 :: x3 :: x4 :: t).take (5 + n)).drop 5 = t.take n := by
  rw [Nat.add_comm 5 n, List.drop_take]
  simp
theorem drop5 (x0 x1 x2 x3 x4 : UInt8) (t : List UInt8) (n : Nat) : (x0 :: x1 :: x2 :: x3 :: x4 :: t).drop (5 + n) = t.drop n := by
  rw [← List.drop_drop]
  simp
theorem dec1_spec {b r : List UInt8} {c : Nat} {e : Go.Proofs.YtonjpfpdpfonnaaDoor.Led.Ent} (h : dec1 b c = .ok (e, r)) : c < 4096 ∧ Led.Ent.fit e ∧ b = encF e ++ r := by
  obtain ⟨h1, h2, h3, h4, h5, h6⟩ := dec1_inv h
  obtain ⟨x0, x1, x2, x3, x4, t, rfl⟩ := five h2
  have hr : rd4 (x0 :: x1 :: x2 :: x3 :: x4 :: t) = x1.toNat * 16777216 + x2.toNat * 65536 + x3.toNat * 256 + x4.toNat := by simp [rd4]
  generalize hn : rd4 (x0 :: x1 :: x2 :: x3 :: x4 :: t) = n at h3 h4 h5 h6 hr
  have ht := take5 x0 x1 x2 x3 x4 t n
  have hd := drop5 x0 x1 x2 x3 x4 t n
  have hle : n ≤ t.length := by simp only [List.length_cons] at h4; omega
  rw [ht] at h5
  rw [hd] at h6
  subst h5 h6
  have b0 := x0.toNat_lt
  refine ⟨h1, ⟨by simp, ?_, ?_⟩, enc_rd x0 x1 x2 x3 x4 t n hr hle⟩
  · show (x0.toNat : Int) ≤ 255
    omega
  · show (t.take n).length ≤ 65536
    rw [List.length_take]; omega
theorem decF_nil (n : Nat) (es : List Go.Proofs.YtonjpfpdpfonnaaDoor.Led.Ent) : decF n es [] = .ok es := by cases n <;> rfl
theorem decF_step {n : Nat} {es : List Go.Proofs.YtonjpfpdpfonnaaDoor.Led.Ent} {b : List UInt8} (h : b ≠ []) : decF (n + 1) es b = match dec1 b es.length with | .error k => .error k | .ok (e, r) => decF n (es ++ [e]) r := by rw [decF, if_neg h]
end Led
end Sx
end Go.Proofs.YtonjpfpdpfonnaaDoor
