/-
  WIRE: numbers and bytes read, in plain terms.
  WIRE: next, group, count, part.
  WIRE: the closures that read.
-/
import Derived.Test.YtchbgfgboogniaaDoorGO
import Derived.Test.YtchbgfgboogniaaDoorGN
namespace Go.Proofs.YtchbgfgboogniaaDoor
open Go.RowKit
namespace Sx
/-! Reading numbers in groups of seven bits, and bytes. -/
theorem or_u64 {a b s : Nat} (ha : a < 2 ^ s) (hc : a + 2 ^ s * b < 18446744073709551616) : bits .or .u64 (a : Int) ((2 ^ s * b : Nat) : Int) = ((a + 2 ^ s * b : Nat) : Int) := by
  have hb : 2 ^ s * b < 18446744073709551616 := by omega
  have hx : a ||| 2 ^ s * b < 2 ^ 64 := Nat.or_lt_two_pow (by omega) (by omega)
  show IntKind.u64.wrap ((BitVec.ofInt 64 (a : Int) ||| BitVec.ofInt 64 ((2 ^ s * b : Nat) : Int)).toNat : Int) = _
  rw [BitVec.toNat_or, ofInt_u64 a (by omega), ofInt_u64 _ hb, wrap_u64 (by omega) (by omega)]
  congr 1
  have := Nat.two_pow_add_eq_or_of_lt ha b
  rw [Nat.or_comm]
  omega
theorem shl_u64 {x s : Nat} (hs : s < 64) (hc : 2 ^ s * x < 18446744073709551616) : IntKind.u64.wrap ((x : Int) * 2 ^ (min s IntKind.u64.bits)) = ((2 ^ s * x : Nat) : Int) := by
  have h1 : min s IntKind.u64.bits = s := Nat.min_eq_left (by simp [IntKind.bits]; omega)
  have e : (x : Int) * 2 ^ s = ((2 ^ s * x : Nat) : Int) := by rw [Nat.mul_comm]; simp
  rw [h1, e, wrap_u64 (by omega) (by omega)]
theorem and127 : ∀ b : Fin 256, bits .and .u8 ((b.val : Nat) : Int) 127 = ((b.val % 128 : Nat) : Int) := by decide +kernel
theorem and127_w {c : UInt8} : bits .and .u8 (c.toNat : Int) 127 = ((c.toNat % 128 : Nat) : Int) := and127 ⟨c.toNat, c.toNat_lt⟩
theorem pow7 {i : Nat} (h : i ≤ 8) : 2 ^ (7 * i) ≤ 72057594037927936 := Nat.le_trans (Nat.pow_le_pow_right (by decide) (show 7 * i ≤ 56 by omega)) (by decide)
theorem pow128 (i : Nat) : 128 ^ i = 2 ^ (7 * i) := by rw [show (128 : Nat) = 2 ^ 7 from rfl, ← Nat.pow_mul]
theorem u8_lt {c : UInt8} : c.toNat < 256 := c.toNat_lt
def rdg : Nat → Bool → List UInt8 → Except Int (Nat × Nat)
  | 0, _, _ => .error 6
  | _ + 1, _, [] => .error 4
  | j + 1, fst, c :: p => if c.toNat < 128 then (if c.toNat = 0 ∧ fst = false then .error 6 else .ok (c.toNat, 1)) else match rdg j false p with
    | .error e => .error e
    | .ok (n, m) => .ok (c.toNat - 128 + 128 * n, m + 1)
theorem rdg_zero (f : Bool) (p : List UInt8) : rdg 0 f p = .error 6 := by cases p <;> rfl
theorem rdg_bd : ∀ {j : Nat} {f : Bool} {p : List UInt8} {n m : Nat}, rdg j f p = .ok (n, m) → n < 128 ^ j ∧ 1 ≤ m ∧ m ≤ p.length
  | 0, f, p, n, m, h => by rw [rdg_zero] at h; cases h
  | j + 1, f, [], n, m, h => by cases h
  | j + 1, f, c :: p, n, m, h => by
    unfold rdg at h
    by_cases hc : c.toNat < 128
    · rw [if_pos hc] at h
      by_cases h0 : c.toNat = 0 ∧ f = false
      · rw [if_pos h0] at h; cases h
      · rw [if_neg h0] at h
        injection h with h
        injection h with h1 h2
        subst h1 h2
        have : 128 ≤ 128 ^ (j + 1) := by rw [Nat.pow_succ]; have := Nat.pow_pos (n := j) (show 0 < 128 by decide); omega
        exact ⟨by omega, Nat.le_refl _, by simp⟩
    · rw [if_neg hc] at h
      rcases hr : rdg j false p with e | ⟨n', m'⟩
      · rw [hr] at h; cases h
      · rw [hr] at h
        injection h with h
        injection h with h1 h2
        obtain ⟨b1, b2, b3⟩ := rdg_bd hr
        have hcl := u8_lt (c := c)
        refine ⟨?_, by omega, by simp; omega⟩
        rw [Nat.pow_succ]
        omega
theorem rdg_err : ∀ {j : Nat} {f : Bool} {p : List UInt8} {e : Int}, rdg j f p = .error e → e = 4 ∨ e = 6
  | 0, f, p, e, h => by rw [rdg_zero] at h; injection h with h; exact .inr h.symm
  | j + 1, f, [], e, h => by injection h with h; exact .inl h.symm
  | j + 1, f, c :: p, e, h => by
    unfold rdg at h
    by_cases hc : c.toNat < 128
    · rw [if_pos hc] at h
      by_cases h0 : c.toNat = 0 ∧ f = false
      · rw [if_pos h0] at h; injection h with h; exact .inr h.symm
      · rw [if_neg h0] at h; cases h
    · rw [if_neg hc] at h
      rcases hr : rdg j false p with e' | ⟨n', m'⟩
      · rw [hr] at h; injection h with h; subst h; exact rdg_err hr
      · rw [hr] at h; cases h
/-- While a number is read. -/
def GInv (b : List UInt8) (k N M i a : Nat) : Prop := i ≤ 9 ∧ a < 128 ^ i ∧ ∃ n m, rdg (9 - i) (decide (i = 0)) (b.drop (k + i)) = .ok (n, m) ∧ a + 128 ^ i * n = N ∧ i + m = M
theorem GInv.start {b : List UInt8} {k N M : Nat} (h : rdg 9 true (b.drop k) = .ok (N, M)) : GInv b k N M 0 0 := ⟨by omega, by decide, N, M, h, by simp, by simp⟩
theorem GInv.step {b : List UInt8} {k N M i a : Nat} (h : GInv b k N M i a) : i < 9 ∧ ∃ c, b[k + i]? = some c ∧
    ((c.toNat < 128 ∧ ¬ (c.toNat = 0 ∧ 0 < i) ∧ a + 128 ^ i * (c.toNat % 128) = N ∧ i + 1 = M) ∨ (¬ c.toNat < 128 ∧ GInv b k N M (i + 1) (a + 128 ^ i * (c.toNat % 128)))) := by
  obtain ⟨hi, ha, n, m, hr, hn, hm⟩ := h
  have hi9 : i < 9 := by
    rcases Nat.lt_or_ge i 9 with h | h
    · exact h
    · rw [show 9 - i = 0 by omega, rdg_zero] at hr; cases hr
  refine ⟨hi9, ?_⟩
  rw [show 9 - i = (8 - i) + 1 by omega] at hr
  rcases hd : b.drop (k + i) with _ | ⟨c, p⟩
  · rw [hd] at hr; cases hr
  have hc : b[k + i]? = some c := by
    have := congrArg (fun l => l[0]?) hd
    simpa using this
  have hp : b.drop (k + (i + 1)) = p := by
    have h2 : (b.drop (k + i)).drop 1 = p := by rw [hd]; rfl
    rw [List.drop_drop] at h2
    exact h2
  refine ⟨c, hc, ?_⟩
  rw [hd] at hr
  unfold rdg at hr
  have hcl := u8_lt (c := c)
  by_cases h8 : c.toNat < 128
  · left
    rw [if_pos h8] at hr
    by_cases h0 : c.toNat = 0 ∧ decide (i = 0) = false
    · rw [if_pos h0] at hr; cases hr
    · rw [if_neg h0] at hr
      injection hr with hr
      injection hr with h1 h2
      subst h1 h2
      rw [Nat.mod_eq_of_lt h8]
      refine ⟨h8, fun h => h0 ⟨h.1, by simp; omega⟩, hn, hm⟩
  · right
    rw [if_neg h8] at hr
    rcases hr2 : rdg (8 - i) false p with e | ⟨n', m'⟩
    · rw [hr2] at hr; cases hr
    · rw [hr2] at hr
      injection hr with hr
      injection hr with h1 h2
      subst h1 h2
      have e1 : c.toNat - 128 = c.toNat % 128 := by omega
      have e2 : 128 ^ (i + 1) = 128 ^ i * 128 := Nat.pow_succ 128 i
      refine ⟨h8, by omega, ?_, n', m', ?_, ?_, by omega⟩
      · have hx : c.toNat % 128 ≤ 127 := by omega
        have := Nat.mul_le_mul_left (128 ^ i) hx
        rw [e2]; omega
      · rw [show 9 - (i + 1) = 8 - i by omega, hp, show decide (i + 1 = 0) = false by simp]
        exact hr2
      · rw [← hn, e1, e2, Nat.mul_add, Nat.mul_assoc]; omega
def GBad (b : List UInt8) (k : Nat) (E : Int) (i : Nat) : Prop := i ≤ 9 ∧ rdg (9 - i) (decide (i = 0)) (b.drop (k + i)) = .error E
theorem GBad.start {b : List UInt8} {k : Nat} {E : Int} (h : rdg 9 true (b.drop k) = .error E) : GBad b k E 0 := ⟨by omega, h⟩
theorem GBad.last {b : List UInt8} {k : Nat} {E : Int} {i : Nat} (h : GBad b k E i) (hi : ¬ i < 9) : E = 6 := by
  obtain ⟨h1, h2⟩ := h
  rw [show 9 - i = 0 by omega, rdg_zero] at h2
  injection h2 with h2
  exact h2.symm
theorem GBad.short {b : List UInt8} {k : Nat} {E : Int} {i : Nat} (h : GBad b k E i) (hi : i < 9) (hs : b.length ≤ k + i) : E = 4 := by
  obtain ⟨h1, h2⟩ := h
  rw [show 9 - i = (8 - i) + 1 by omega, List.drop_eq_nil_of_le hs] at h2
  injection h2 with h2
  exact h2.symm
theorem GBad.step {b : List UInt8} {k : Nat} {E : Int} {i : Nat} {c : UInt8} (h : GBad b k E i) (hi : i < 9) (hc : b[k + i]? = some c) : (c.toNat < 128 ∧ c.toNat = 0 ∧ 0 < i ∧ E = 6) ∨ (¬ c.toNat < 128 ∧ GBad b k E (i + 1)) := by
  obtain ⟨h1, h2⟩ := h
  have hl := (List.getElem?_eq_some_iff.1 hc).1
  have hd : b.drop (k + i) = c :: b.drop (k + (i + 1)) := by
    rw [List.drop_eq_getElem_cons hl, (List.getElem?_eq_some_iff.1 hc).2]; rfl
  rw [show 9 - i = (8 - i) + 1 by omega, hd] at h2
  unfold rdg at h2
  by_cases h8 : c.toNat < 128
  · rw [if_pos h8] at h2
    by_cases h0 : c.toNat = 0 ∧ decide (i = 0) = false
    · rw [if_pos h0] at h2
      injection h2 with h2
      exact .inl ⟨h8, h0.1, by have := h0.2; simp at this; omega, h2.symm⟩
    · rw [if_neg h0] at h2; cases h2
  · rw [if_neg h8] at h2
    refine .inr ⟨h8, by omega, ?_⟩
    rcases hr : rdg (8 - i) false (b.drop (k + (i + 1))) with e | ⟨n', m'⟩
    · rw [hr] at h2
      injection h2 with h2
      subst h2
      rw [show 9 - (i + 1) = 8 - i by omega, show decide (i + 1 = 0) = false by simp]
      exact hr
    · rw [hr] at h2; cases h2
def rdC (lim : Int) (p : List UInt8) : Except Int (Nat × Nat) := match rdg 9 true p with
  | .error e => .error e
  | .ok (n, m) => if lim < (n : Int) then .error 7 else .ok (n, m)
theorem rdC_ok {lim : Int} {p : List UInt8} {n m : Nat} (h : rdC lim p = .ok (n, m)) : rdg 9 true p = .ok (n, m) ∧ (n : Int) ≤ lim := by
  unfold rdC at h
  rcases hr : rdg 9 true p with e | ⟨n', m'⟩
  · rw [hr] at h; cases h
  · rw [hr] at h
    by_cases hl : lim < (n' : Int)
    · simp only [if_pos hl] at h; cases h
    · simp only [if_neg hl] at h
      injection h with h
      injection h with h1 h2
      subst h1 h2
      exact ⟨rfl, by omega⟩
theorem rdC_err {lim : Int} {p : List UInt8} {E : Int} (h : rdC lim p = .error E) : rdg 9 true p = .error E ∨ (∃ n m, rdg 9 true p = .ok (n, m) ∧ lim < (n : Int) ∧ E = 7) := by
  unfold rdC at h
  rcases hr : rdg 9 true p with e | ⟨n', m'⟩
  · rw [hr] at h; injection h with h; subst h; exact .inl rfl
  · rw [hr] at h
    by_cases hl : lim < (n' : Int)
    · simp only [if_pos hl] at h; injection h with h; exact .inr ⟨n', m', rfl, hl, h.symm⟩
    · simp only [if_neg hl] at h; cases h
def rdP (lim : Int) (p : List UInt8) : Except Int (List UInt8 × Nat) := match rdC lim p with
  | .error e => .error e
  | .ok (n, m) => if p.length < m + n then .error 4 else .ok ((p.drop m).take n, m + n)
theorem rdP_ok {lim : Int} {p q : List UInt8} {m : Nat} (h : rdP lim p = .ok (q, m)) : ∃ n k, rdC lim p = .ok (n, k) ∧ k + n ≤ p.length ∧ q = (p.drop k).take n ∧ m = k + n := by
  unfold rdP at h
  rcases hr : rdC lim p with e | ⟨n, k⟩
  · rw [hr] at h; cases h
  · rw [hr] at h
    by_cases hl : p.length < k + n
    · simp only [if_pos hl] at h; cases h
    · simp only [if_neg hl] at h
      injection h with h
      injection h with h1 h2
      exact ⟨n, k, rfl, by omega, h1.symm, h2.symm⟩
theorem rdP_err {lim : Int} {p : List UInt8} {E : Int} (h : rdP lim p = .error E) : rdC lim p = .error E ∨ (∃ n k, rdC lim p = .ok (n, k) ∧ p.length < k + n ∧ E = 4) := by
  unfold rdP at h
  rcases hr : rdC lim p with e | ⟨n, k⟩
  · rw [hr] at h; injection h with h; subst h; exact .inl rfl
  · rw [hr] at h
    by_cases hl : p.length < k + n
    · simp only [if_pos hl] at h; injection h with h; exact .inr ⟨n, k, rfl, hl, h.symm⟩
    · simp only [if_neg hl] at h; cases h
end Sx
end Go.Proofs.YtchbgfgboogniaaDoor
namespace Go.Proofs.YtchbgfgboogniaaDoor
open Go.RowKit
namespace Sx
abbrev errP (e : Int) : List PanicEntry := pan (.iface 34 (.int .i64 e))
theorem i64_w {n : Nat} (h : n < 9223372036854775808) : IntKind.i64.wrap (n : Int) = (n : Int) := by rw [IntKind.wrap_i64]; omega
theorem u63_lt {n : Nat} (h : n < 128 ^ 9) : n < 9223372036854775808 := Nat.lt_of_lt_of_le h (by decide)
theorem part_eq (b : List UInt8) (k m n : Nat) : (b.take (k + m + n)).drop (k + m) = ((b.drop k).drop m).take n := by
  rw [List.drop_drop, List.drop_take]
  congr 1
  omega
set_option maxHeartbeats 4000000 in
set_option maxRecDepth 100000 in
theorem con_next (gr : Nat) (b : List UInt8) (k : Nat) (e : Int) (hb : b.length ≤ 1000000) (c : UInt8) (hc : b[k]? = some c) : ConR Tryd.prog 126 [.c gr [iD e, boolD true, bD b, iD ((k : Nat) : Int)]] [isD (.pointer (some ⟨gr, 0, none⟩))] (fun _ : Unit => [.c gr [iD e, boolD true, bD b, iD ((k + 1 : Nat) : Int)]]) (fun _ : Unit => isD (B8 c)) := by
  have hkl := (List.getElem?_eq_some_iff.1 hc).1
  refine con_ofR Tryd.func126 (by kernel_rfl) rfl (by kernel_rfl) fun base w0 => ?_
  refine SW.seq ?_
  refine SW.region ?_
  refine SWl.rd rfl (Rd.assign rfl) ?_
  refine SWl.nil ?_
  refine SN.then ?_
  refine SW.seq ?_
  refine SW.seq ?_
  refine SW.draw [] (.r 0 (.r 1 (.r 2 (.r 3 (.r 4 (.r 5 (.r 6 (.r 7 (.r 8 (.r 9 .fin)))))))))) (by kernel_rfl) (by kernel_rfl) (fun d _ _ _ _ h => by cases d <;> exact h) ?_
  refine SWz.rd (i := 0) rfl rfl (Rd.move rfl) ?_
  refine SWz.rd (i := 1) rfl rfl (Rd.nilCheck rfl) ?_
  refine SWz.rd (i := 2) rfl rfl (Rd.fieldAddr (n := 3) rfl (by kernel_rfl)) ?_
  refine SWz.rd (i := 3) rfl rfl (Rd.loadB 0 rfl rfl rfl (by kernel_rfl) ap_nil) ?_
  refine SWz.rd (i := 4) rfl rfl (Rd.move rfl) ?_
  refine SWz.rd (i := 5) rfl rfl (Rd.nilCheck rfl) ?_
  refine SWz.rd (i := 6) rfl rfl (Rd.fieldAddr (n := 2) rfl (by kernel_rfl)) ?_
  refine SWz.rd (i := 7) rfl rfl (Rd.loadB 0 rfl rfl rfl (by kernel_rfl) ap_nil) ?_
  refine SWz.rd (i := 8) rfl rfl (Rd.len (e := 5) rfl (by kernel_rfl)) ?_
  refine SWz.rd (i := 9) rfl rfl (Rd.geq rfl rfl) ?_
  refine SWz.nil ?_
  refine SN.then ?_
  refine SW.condF rfl (by apply decide_eq_false; rw [cellsOf_length]; omega) ?_
  refine SW.skip ?_
  refine SN.then ?_
  refine SW.seq ?_
  refine SW.draw [] (.r 0 (.r 1 (.r 2 (.r 3 (.r 4 (.r 5 (.r 6 (.r 7 (.r 8 (.r 9 (.r 10 .fin))))))))))) (by kernel_rfl) (by kernel_rfl) (fun d _ _ _ _ h => by cases d <;> exact h) ?_
  refine SWz.rd (i := 0) rfl rfl (Rd.move rfl) ?_
  refine SWz.rd (i := 1) rfl rfl (Rd.nilCheck rfl) ?_
  refine SWz.rd (i := 2) rfl rfl (Rd.fieldAddr (n := 2) rfl (by kernel_rfl)) ?_
  refine SWz.rd (i := 3) rfl rfl (Rd.loadB 0 rfl rfl rfl (by kernel_rfl) ap_nil) ?_
  refine SWz.rd (i := 4) rfl rfl (Rd.move rfl) ?_
  refine SWz.rd (i := 5) rfl rfl (Rd.nilCheck rfl) ?_
  refine SWz.rd (i := 6) rfl rfl (Rd.fieldAddr (n := 3) rfl (by kernel_rfl)) ?_
  refine SWz.rd (i := 7) rfl rfl (Rd.loadB 0 rfl rfl rfl (by kernel_rfl) ap_nil) ?_
  refine SWz.rd (i := 8) rfl rfl (Rd.idx (e := 5) rfl rfl (by kernel_rfl) (by kernel_rfl) (by omega) (show (cellsOf b)[_]? = some (B8 c) from by simp [cellsOf, hc])) ?_
  refine SWz.rd (i := 9) rfl rfl (Rd.loadP rfl (by kernel_rfl) (by simp)) ?_
  refine SWz.rd (i := 10) rfl rfl (Rd.assign rfl) ?_
  refine SWz.nil ?_
  refine SN.then ?_
  refine SW.seq ?_
  refine SW.region ?_
  refine SWl.rd rfl (Rd.move rfl) ?_
  refine SWl.rd rfl (Rd.nilCheck rfl) ?_
  refine SWl.rd rfl (Rd.fieldAddr (n := 3) rfl (by kernel_rfl)) ?_
  refine SWl.rd rfl (Rd.loadB 0 rfl rfl rfl (by kernel_rfl) ap_nil) ?_
  refine SWl.rd rfl (Rd.add rfl rfl ⟨by omega, by omega⟩) ?_
  refine SWl.rd rfl (Rd.nilCheck rfl) ?_
  refine SWl.rd rfl (Rd.fieldAddr (n := 3) rfl (by kernel_rfl)) ?_
  refine SWl.ef (S := [_]) (Ef.storeV 0 rfl rfl rfl (by kernel_rfl) rfl (List.mem_singleton.2 rfl)) ?_
  rintro _ rfl
  refine SWl.nil ?_
  refine SN.then ?_
  refine SW.seq ?_
  refine SW.region ?_
  refine SWl.rd rfl (Rd.move rfl) ?_
  refine SWl.rd rfl (Rd.assign rfl) ?_
  refine SWl.nil ?_
  refine SN.then ?_
  refine SW.retR (fn := Tryd.f126) (()) [0] (fun _ _ h => h) (Rs.one rfl (ResV.tmp rfl)) (by decide) ⟨⟨_, rfl, ⟨Le.refl _, Le.refl _, Le.refl _, Le.is (by simp), trivial⟩⟩, trivial⟩
set_option maxHeartbeats 4000000 in
set_option maxRecDepth 100000 in
theorem con_next_bad (gr : Nat) (b : List UInt8) (k : Nat) (e : Int) (hb : b.length ≤ 1000000) (h : b.length ≤ k) : ConPR Tryd.prog 126 [.c gr [iD e, boolD true, bD b, iD ((k : Nat) : Int)]] [isD (.pointer (some ⟨gr, 0, none⟩))] (fun _ : Unit => [.c gr [iD e, boolD true, bD b, iD ((k : Nat) : Int)]]) (errP 4) := by
  refine con_ofPR Tryd.func126 (by kernel_rfl) rfl (by kernel_rfl) fun base w0 => ?_
  refine SW.seq ?_
  refine SW.region ?_
  refine SWl.rd rfl (Rd.assign rfl) ?_
  refine SWl.nil ?_
  refine SN.then ?_
  refine SW.seq ?_
  refine SW.seq ?_
  refine SW.draw [] (.r 0 (.r 1 (.r 2 (.r 3 (.r 4 (.r 5 (.r 6 (.r 7 (.r 8 (.r 9 .fin)))))))))) (by kernel_rfl) (by kernel_rfl) (fun d _ _ _ _ h => by cases d <;> exact h) ?_
  refine SWz.rd (i := 0) rfl rfl (Rd.move rfl) ?_
  refine SWz.rd (i := 1) rfl rfl (Rd.nilCheck rfl) ?_
  refine SWz.rd (i := 2) rfl rfl (Rd.fieldAddr (n := 3) rfl (by kernel_rfl)) ?_
  refine SWz.rd (i := 3) rfl rfl (Rd.loadB 0 rfl rfl rfl (by kernel_rfl) ap_nil) ?_
  refine SWz.rd (i := 4) rfl rfl (Rd.move rfl) ?_
  refine SWz.rd (i := 5) rfl rfl (Rd.nilCheck rfl) ?_
  refine SWz.rd (i := 6) rfl rfl (Rd.fieldAddr (n := 2) rfl (by kernel_rfl)) ?_
  refine SWz.rd (i := 7) rfl rfl (Rd.loadB 0 rfl rfl rfl (by kernel_rfl) ap_nil) ?_
  refine SWz.rd (i := 8) rfl rfl (Rd.len (e := 5) rfl (by kernel_rfl)) ?_
  refine SWz.rd (i := 9) rfl rfl (Rd.geq rfl rfl) ?_
  refine SWz.nil ?_
  refine SN.then ?_
  refine SW.condT rfl (by apply decide_eq_true; rw [cellsOf_length]; omega) ?_
  refine SW.region ?_
  refine SWl.rd rfl (Rd.makeI rfl (Le.refl _) (by kernel_rfl)) ?_
  refine SWl.panic rfl ?_
  repeat (first | refine SP.then ?_ | refine SP.block ?_)
  exact SP.fnR (()) [0] (by decide) ⟨⟨_, rfl, LeAll.refl _⟩, trivial⟩
set_option maxHeartbeats 4000000 in
set_option maxRecDepth 100000 in
theorem con_group (gr : Nat) (b : List UInt8) (k : Nat) (e : Int) (hb : b.length ≤ 1000000) (N M : Nat) (h : rdg 9 true (b.drop k) = .ok (N, M)) : ConR Tryd.prog 96 [.c gr [iD e, boolD true, bD b, iD ((k : Nat) : Int)]] [isD (.pointer (some ⟨gr, 0, none⟩)), iD 9] (fun _ : Unit => [.c gr [iD e, boolD true, bD b, iD ((k + M : Nat) : Int)]]) (fun _ : Unit => isD (.int .u64 (N : Int))) := by
  refine con_ofR Tryd.func96 (by kernel_rfl) rfl (by kernel_rfl) fun base w0 => ?_
  refine SW.seq ?_
  refine SW.region ?_
  refine SWl.rd rfl (Rd.assign rfl) ?_
  refine SWl.nil ?_
  refine SN.then ?_
  refine SW.seq ?_
  refine SW.region ?_
  refine SWl.rd rfl (Rd.assign rfl) ?_
  refine SWl.nil ?_
  refine SN.then ?_
  refine SW.seq ?_
  refine SW.seq ?_
  refine SW.region ?_
  refine SWl.rd rfl (Rd.move rfl) ?_
  refine SWl.rd rfl (Rd.move rfl) ?_
  refine SWl.nil ?_
  refine SN.then ?_
  refine SW.block ?_
  refine SW.loop (ι := {p : Nat × Nat // GInv b k N M p.1 p.2}) (fun ⟨(i, z), hI⟩ => St.ob [(0, isD (.pointer (some ⟨gr, 0, none⟩))), (9, iD 9), (10, iD (i : Int)), (5, isD (.int .u64 (z : Int)))] [.c gr [iD e, boolD true, bD b, iD ((k + i : Nat) : Int)]]) (fun ⟨(i, z), hI⟩ => 9 - i) (⟨(0, 0), GInv.start h⟩) ?_ ?_
  · exact ⟨⟨_, rfl, ⟨⟨_, rfl, Le.refl _⟩, ⟨⟨_, rfl, Le.refl _⟩, ⟨⟨_, rfl, Le.refl _⟩, ⟨⟨_, rfl, Le.refl _⟩, trivial⟩⟩⟩⟩⟩, [0], by decide, ⟨⟨_, rfl, LeAll.refl _⟩, trivial⟩⟩
  · rintro ⟨⟨i, z⟩, hI⟩ K0 hK0
    dsimp only at hI ⊢
    obtain ⟨hi9, c, hc, hcs⟩ := hI.step
    have hkl := (List.getElem?_eq_some_iff.1 hc).1
    have hal : z < 2 ^ (7 * i) := by rw [← pow128]; exact hI.2.1
    have hp7 := pow7 (show i ≤ 8 by omega)
    have hx : c.toNat % 128 < 128 := Nat.mod_lt _ (by decide)
    have hmul : 2 ^ (7 * i) * (c.toNat % 128) ≤ 9151314442816847872 := Nat.le_trans (Nat.mul_le_mul_left _ (show c.toNat % 128 ≤ 127 by omega)) (Nat.mul_le_mul_right 127 hp7)
    refine SW.seq ?_
    refine SW.region ?_
    refine SWl.rd rfl (Rd.lss rfl rfl) ?_
    refine SWl.nil ?_
    refine SN.then ?_
    refine SW.seq ?_
    refine SW.condT rfl (by apply decide_eq_true; omega) ?_
    refine SW.skip ?_
    refine SN.then ?_
    refine SW.seq ?_
    refine SW.block ?_
    refine SW.seq ?_
    refine SW.region ?_
    refine SWl.rd rfl (Rd.move rfl) ?_
    refine SWl.rd rfl (Rd.assign rfl) ?_
    refine SWl.nil ?_
    refine SN.then ?_
    refine SW.seq ?_
    refine SW.region ?_
    refine SWl.rd rfl (Rd.move rfl) ?_
    refine SWl.ef (Ef.callR [0] (con_next gr b (k + i) e hb c hc) rfl ⟨Le.refl _, trivial⟩ (by decide) ⟨⟨_, rfl, LeAll.refl _⟩, trivial⟩ (fun _ h => h) rfl) ?_
    rintro _ ⟨⟨⟩, rfl⟩
    refine SWl.rd rfl (Rd.assign rfl) ?_
    refine SWl.nil ?_
    refine SN.then ?_
    refine SW.seq ?_
    rcases hcs with ⟨h8, hn0, hN, hM⟩ | ⟨h8, hg⟩
    · skip
      refine SW.region ?_
      refine SWl.rd rfl (Rd.move rfl) ?_
      refine SWl.rd rfl (Rd.andW (r := ((c.toNat % 128 : Nat) : Int)) rfl rfl and127_w) ?_
      refine SWl.rd rfl (Rd.cvW (r := ((c.toNat % 128 : Nat) : Int)) .u8 rfl (by kernel_rfl) (by kernel_rfl) (wrap_u64 (by omega) (by omega))) ?_
      refine SWl.rd rfl (Rd.assign rfl) ?_
      refine SWl.nil ?_
      refine SN.then ?_
      refine SW.seq ?_
      refine SW.seq ?_
      refine SW.region ?_
      refine SWl.rd rfl (Rd.move rfl) ?_
      refine SWl.rd rfl (Rd.eqi rfl rfl) ?_
      refine SWl.rd rfl (Rd.move rfl) ?_
      refine SWl.off rfl rfl (by apply decide_eq_false; omega) rfl rfl ?_
      refine SWl.off rfl rfl (by apply decide_eq_false; omega) rfl rfl ?_
      refine SWl.rd rfl (Rd.pickN rfl (by apply decide_eq_false; omega) rfl) ?_
      refine SWl.nil ?_
      refine SN.then ?_
      refine SW.condF rfl (rfl) ?_
      refine SW.skip ?_
      refine SN.then ?_
      refine SW.seq ?_
      refine SW.region ?_
      refine SWl.rd rfl (Rd.move rfl) ?_
      refine SWl.rd rfl (Rd.move rfl) ?_
      refine SWl.rd rfl (Rd.move rfl) ?_
      refine SWl.rd rfl (Rd.mono (Rd.mul rfl rfl ⟨by omega, by omega⟩) (show Le _ (iD ((7 * i : Nat) : Int)) from Le.is (by simp))) ?_
      refine SWl.rd rfl (Rd.shlW (s := 7 * i) (r := ((2 ^ (7 * i) * (c.toNat % 128) : Nat) : Int)) rfl rfl (shl_u64 (by omega) (by omega))) ?_
      refine SWl.rd rfl (Rd.orW (r := ((z + 2 ^ (7 * i) * (c.toNat % 128) : Nat) : Int)) rfl rfl (or_u64 hal (by omega))) ?_
      refine SWl.rd rfl (Rd.assign rfl) ?_
      refine SWl.nil ?_
      refine SN.then ?_
      refine SW.seq ?_
      refine SW.region ?_
      refine SWl.rd rfl (Rd.move rfl) ?_
      refine SWl.rd rfl (Rd.lss rfl rfl) ?_
      refine SWl.nil ?_
      refine SN.then ?_
      refine SW.condT rfl (by apply decide_eq_true; omega) ?_
      refine SW.seq ?_
      refine SW.seq ?_
      refine SW.region ?_
      refine SWl.rd rfl (Rd.move rfl) ?_
      refine SWl.rd rfl (Rd.eqi rfl rfl) ?_
      refine SWl.rd rfl (Rd.move rfl) ?_
      refine SWl.split 35 rfl (fun hb35 => ?_) (fun hb35 => ?_)
      · have h35 := of_decide_eq_true hb35
        refine SWl.rdg rfl rfl (hb35) rfl rfl (Rd.move rfl) ?_
        refine SWl.rdg rfl rfl (hb35) rfl rfl (Rd.gtr rfl rfl) ?_
        refine SWl.rd rfl (Rd.pickY rfl (hb35) rfl) ?_
        refine SWl.nil ?_
        refine SN.then ?_
        refine SW.condF rfl (by apply decide_eq_false; intro h; exact hn0 ⟨by omega, by omega⟩) ?_
        refine SW.skip ?_
        refine SN.then ?_
        refine SW.seq ?_
        refine SW.region ?_
        refine SWl.rd rfl (Rd.move rfl) ?_
        refine SWl.rd rfl (Rd.assign rfl) ?_
        refine SWl.nil ?_
        refine SN.then ?_
        refine SW.retR (fn := Tryd.f96) (()) [0] (fun _ _ h => h) (Rs.le (Rs.one rfl (ResV.tmp rfl)) ?_) (by decide) ⟨⟨_, rfl, ⟨Le.refl _, Le.refl _, Le.refl _, Le.is (by rw [← hM]; rfl), trivial⟩⟩, trivial⟩
        exact Le.is (by rw [← hN, pow128])
      · skip
        refine SWl.off rfl rfl (hb35) rfl rfl ?_
        refine SWl.off rfl rfl (hb35) rfl rfl ?_
        refine SWl.rd rfl (Rd.pickN rfl (hb35) rfl) ?_
        refine SWl.nil ?_
        refine SN.then ?_
        refine SW.condF rfl (rfl) ?_
        refine SW.skip ?_
        refine SN.then ?_
        refine SW.seq ?_
        refine SW.region ?_
        refine SWl.rd rfl (Rd.move rfl) ?_
        refine SWl.rd rfl (Rd.assign rfl) ?_
        refine SWl.nil ?_
        refine SN.then ?_
        refine SW.retR (fn := Tryd.f96) (()) [0] (fun _ _ h => h) (Rs.le (Rs.one rfl (ResV.tmp rfl)) ?_) (by decide) ⟨⟨_, rfl, ⟨Le.refl _, Le.refl _, Le.refl _, Le.is (by rw [← hM]; rfl), trivial⟩⟩, trivial⟩
        exact Le.is (by rw [← hN, pow128])
    · skip
      refine SW.region ?_
      refine SWl.rd rfl (Rd.move rfl) ?_
      refine SWl.rd rfl (Rd.andW (r := ((c.toNat % 128 : Nat) : Int)) rfl rfl and127_w) ?_
      refine SWl.rd rfl (Rd.cvW (r := ((c.toNat % 128 : Nat) : Int)) .u8 rfl (by kernel_rfl) (by kernel_rfl) (wrap_u64 (by omega) (by omega))) ?_
      refine SWl.rd rfl (Rd.assign rfl) ?_
      refine SWl.nil ?_
      refine SN.then ?_
      refine SW.seq ?_
      refine SW.seq ?_
      refine SW.region ?_
      refine SWl.rd rfl (Rd.move rfl) ?_
      refine SWl.rd rfl (Rd.eqi rfl rfl) ?_
      refine SWl.rd rfl (Rd.move rfl) ?_
      refine SWl.off rfl rfl (by apply decide_eq_false; omega) rfl rfl ?_
      refine SWl.off rfl rfl (by apply decide_eq_false; omega) rfl rfl ?_
      refine SWl.rd rfl (Rd.pickN rfl (by apply decide_eq_false; omega) rfl) ?_
      refine SWl.nil ?_
      refine SN.then ?_
      refine SW.condF rfl (rfl) ?_
      refine SW.skip ?_
      refine SN.then ?_
      refine SW.seq ?_
      refine SW.region ?_
      refine SWl.rd rfl (Rd.move rfl) ?_
      refine SWl.rd rfl (Rd.move rfl) ?_
      refine SWl.rd rfl (Rd.move rfl) ?_
      refine SWl.rd rfl (Rd.mono (Rd.mul rfl rfl ⟨by omega, by omega⟩) (show Le _ (iD ((7 * i : Nat) : Int)) from Le.is (by simp))) ?_
      refine SWl.rd rfl (Rd.shlW (s := 7 * i) (r := ((2 ^ (7 * i) * (c.toNat % 128) : Nat) : Int)) rfl rfl (shl_u64 (by omega) (by omega))) ?_
      refine SWl.rd rfl (Rd.orW (r := ((z + 2 ^ (7 * i) * (c.toNat % 128) : Nat) : Int)) rfl rfl (or_u64 hal (by omega))) ?_
      refine SWl.rd rfl (Rd.assign rfl) ?_
      refine SWl.nil ?_
      refine SN.then ?_
      refine SW.seq ?_
      refine SW.region ?_
      refine SWl.rd rfl (Rd.move rfl) ?_
      refine SWl.rd rfl (Rd.lss rfl rfl) ?_
      refine SWl.nil ?_
      refine SN.then ?_
      refine SW.condF rfl (by apply decide_eq_false; omega) ?_
      refine SW.skip ?_
      refine SN.block ?_
      refine SN.then ?_
      refine SW.region ?_
      refine SWl.rd rfl (Rd.add rfl rfl ⟨by omega, by omega⟩) ?_
      refine SWl.rd rfl (Rd.move rfl) ?_
      refine SWl.nil ?_
      exact fun a w hh => hK0 (⟨(i + 1, z + 128 ^ i * (c.toNat % 128)), hg⟩) (by dsimp only; omega) a w (hh.sub (⟨⟨_, rfl, ⟨⟨_, rfl, Le.refl _⟩, ⟨⟨_, rfl, Le.refl _⟩, ⟨⟨_, rfl, Le.is (by simp)⟩, ⟨⟨_, rfl, Le.is (by rw [pow128])⟩, trivial⟩⟩⟩⟩⟩, [0], by decide, ⟨⟨_, rfl, LeAll.refl _⟩, trivial⟩⟩))
set_option maxHeartbeats 4000000 in
set_option maxRecDepth 100000 in
theorem con_group_bad (gr : Nat) (b : List UInt8) (k : Nat) (e : Int) (hb : b.length ≤ 1000000) (E : Int) (h : rdg 9 true (b.drop k) = .error E) : ConPR Tryd.prog 96 [.c gr [iD e, boolD true, bD b, iD ((k : Nat) : Int)]] [isD (.pointer (some ⟨gr, 0, none⟩)), iD 9] (fun q : Nat => [.c gr [iD e, boolD true, bD b, iD ((q : Nat) : Int)]]) (errP E) := by
  refine con_ofPR Tryd.func96 (by kernel_rfl) rfl (by kernel_rfl) fun base w0 => ?_
  refine SW.seq ?_
  refine SW.region ?_
  refine SWl.rd rfl (Rd.assign rfl) ?_
  refine SWl.nil ?_
  refine SN.then ?_
  refine SW.seq ?_
  refine SW.region ?_
  refine SWl.rd rfl (Rd.assign rfl) ?_
  refine SWl.nil ?_
  refine SN.then ?_
  refine SW.seq ?_
  refine SW.seq ?_
  refine SW.region ?_
  refine SWl.rd rfl (Rd.move rfl) ?_
  refine SWl.rd rfl (Rd.move rfl) ?_
  refine SWl.nil ?_
  refine SN.then ?_
  refine SW.block ?_
  refine SW.loop (ι := {p : Nat × Int // GBad b k E p.1}) (fun ⟨(i, z), hI⟩ => St.ob [(0, isD (.pointer (some ⟨gr, 0, none⟩))), (9, iD 9), (10, iD (i : Int)), (5, isD (.int .u64 z))] [.c gr [iD e, boolD true, bD b, iD ((k + i : Nat) : Int)]]) (fun ⟨(i, z), hI⟩ => 9 - i) (⟨(0, 0), GBad.start h⟩) ?_ ?_
  · exact ⟨⟨_, rfl, ⟨⟨_, rfl, Le.refl _⟩, ⟨⟨_, rfl, Le.refl _⟩, ⟨⟨_, rfl, Le.refl _⟩, ⟨⟨_, rfl, Le.refl _⟩, trivial⟩⟩⟩⟩⟩, [0], by decide, ⟨⟨_, rfl, LeAll.refl _⟩, trivial⟩⟩
  · rintro ⟨⟨i, z⟩, hI⟩ K0 hK0
    dsimp only at hI ⊢
    have hi9 := hI.1
    refine SW.seq ?_
    refine SW.region ?_
    refine SWl.rd rfl (Rd.lss rfl rfl) ?_
    refine SWl.nil ?_
    refine SN.then ?_
    refine SW.seq ?_
    refine SW.cond rfl (fun hb11 => ?_) (fun hb11 => ?_)
    · have h11 : i < 9 := by have h := of_decide_eq_true hb11; omega
      refine SW.skip ?_
      refine SN.then ?_
      refine SW.seq ?_
      refine SW.block ?_
      refine SW.seq ?_
      refine SW.region ?_
      refine SWl.rd rfl (Rd.move rfl) ?_
      refine SWl.rd rfl (Rd.assign rfl) ?_
      refine SWl.nil ?_
      refine SN.then ?_
      refine SW.seq ?_
      refine SW.region ?_
      refine SWl.rd rfl (Rd.move rfl) ?_
      by_cases hs : b.length ≤ k + i
      · obtain rfl : E = 4 := hI.short h11 hs
        refine SWl.callPR [0] (con_next_bad gr b (k + i) e hb hs) rfl ⟨Le.refl _, trivial⟩ (by decide) ⟨⟨_, rfl, LeAll.refl _⟩, trivial⟩ ?_
        rintro _
        repeat (first | refine SP.then ?_ | refine SP.block ?_)
        exact SP.fnR (_) [0] (by decide) ⟨⟨_, rfl, LeAll.refl _⟩, trivial⟩
      · obtain ⟨c, hc⟩ : ∃ c, b[k + i]? = some c := ⟨_, List.getElem?_eq_getElem (by omega)⟩
        refine SWl.ef (Ef.callR [0] (con_next gr b (k + i) e hb c hc) rfl ⟨Le.refl _, trivial⟩ (by decide) ⟨⟨_, rfl, LeAll.refl _⟩, trivial⟩ (fun _ h => h) rfl) ?_
        rintro _ ⟨⟨⟩, rfl⟩
        refine SWl.rd rfl (Rd.assign rfl) ?_
        refine SWl.nil ?_
        refine SN.then ?_
        refine SW.seq ?_
        rcases hI.step h11 hc with ⟨h8, h0, hi0, hE⟩ | ⟨h8, hg⟩
        · subst hE
          have hx : c.toNat % 128 < 128 := Nat.mod_lt _ (by decide)
          refine SW.region ?_
          refine SWl.rd rfl (Rd.move rfl) ?_
          refine SWl.rd rfl (Rd.andW (r := ((c.toNat % 128 : Nat) : Int)) rfl rfl and127_w) ?_
          refine SWl.rd rfl (Rd.cvW (r := ((c.toNat % 128 : Nat) : Int)) .u8 rfl (by kernel_rfl) (by kernel_rfl) (wrap_u64 (by omega) (by omega))) ?_
          refine SWl.rd rfl (Rd.assign rfl) ?_
          refine SWl.nil ?_
          refine SN.then ?_
          refine SW.seq ?_
          refine SW.seq ?_
          refine SW.region ?_
          refine SWl.rd rfl (Rd.move rfl) ?_
          refine SWl.rd rfl (Rd.eqi rfl rfl) ?_
          refine SWl.rd rfl (Rd.move rfl) ?_
          refine SWl.off rfl rfl (by apply decide_eq_false; omega) rfl rfl ?_
          refine SWl.off rfl rfl (by apply decide_eq_false; omega) rfl rfl ?_
          refine SWl.rd rfl (Rd.pickN rfl (by apply decide_eq_false; omega) rfl) ?_
          refine SWl.nil ?_
          refine SN.then ?_
          refine SW.condF rfl (rfl) ?_
          refine SW.skip ?_
          refine SN.then ?_
          refine SW.seq ?_
          refine SW.region ?_
          refine SWl.rd rfl (Rd.move rfl) ?_
          refine SWl.rd rfl (Rd.move rfl) ?_
          refine SWl.rd rfl (Rd.move rfl) ?_
          refine SWl.rd rfl (Rd.mono (Rd.mul rfl rfl ⟨by omega, by omega⟩) (show Le _ (iD ((7 * i : Nat) : Int)) from Le.is (by simp))) ?_
          refine SWl.rd rfl (Rd.shlW (s := 7 * i) rfl rfl rfl) ?_
          refine SWl.rd rfl (Rd.orW rfl rfl rfl) ?_
          refine SWl.rd rfl (Rd.assign rfl) ?_
          refine SWl.nil ?_
          refine SN.then ?_
          refine SW.seq ?_
          refine SW.region ?_
          refine SWl.rd rfl (Rd.move rfl) ?_
          refine SWl.rd rfl (Rd.lss rfl rfl) ?_
          refine SWl.nil ?_
          refine SN.then ?_
          refine SW.condT rfl (by apply decide_eq_true; omega) ?_
          refine SW.seq ?_
          refine SW.seq ?_
          refine SW.region ?_
          refine SWl.rd rfl (Rd.move rfl) ?_
          refine SWl.rd rfl (Rd.eqi rfl rfl) ?_
          refine SWl.rd rfl (Rd.move rfl) ?_
          refine SWl.rdg rfl rfl (by apply decide_eq_true; omega) rfl rfl (Rd.move rfl) ?_
          refine SWl.rdg rfl rfl (by apply decide_eq_true; omega) rfl rfl (Rd.gtr rfl rfl) ?_
          refine SWl.rd rfl (Rd.pickY rfl (by apply decide_eq_true; omega) rfl) ?_
          refine SWl.nil ?_
          refine SN.then ?_
          refine SW.condT rfl (by apply decide_eq_true; omega) ?_
          refine SW.region ?_
          refine SWl.rd rfl (Rd.makeI rfl (Le.refl _) (by kernel_rfl)) ?_
          refine SWl.panic rfl ?_
          repeat (first | refine SP.then ?_ | refine SP.block ?_)
          exact SP.fnR (_) [0] (by decide) ⟨⟨_, rfl, LeAll.refl _⟩, trivial⟩
        · skip
          have hx : c.toNat % 128 < 128 := Nat.mod_lt _ (by decide)
          refine SW.region ?_
          refine SWl.rd rfl (Rd.move rfl) ?_
          refine SWl.rd rfl (Rd.andW (r := ((c.toNat % 128 : Nat) : Int)) rfl rfl and127_w) ?_
          refine SWl.rd rfl (Rd.cvW (r := ((c.toNat % 128 : Nat) : Int)) .u8 rfl (by kernel_rfl) (by kernel_rfl) (wrap_u64 (by omega) (by omega))) ?_
          refine SWl.rd rfl (Rd.assign rfl) ?_
          refine SWl.nil ?_
          refine SN.then ?_
          refine SW.seq ?_
          refine SW.seq ?_
          refine SW.region ?_
          refine SWl.rd rfl (Rd.move rfl) ?_
          refine SWl.rd rfl (Rd.eqi rfl rfl) ?_
          refine SWl.rd rfl (Rd.move rfl) ?_
          refine SWl.off rfl rfl (by apply decide_eq_false; omega) rfl rfl ?_
          refine SWl.off rfl rfl (by apply decide_eq_false; omega) rfl rfl ?_
          refine SWl.rd rfl (Rd.pickN rfl (by apply decide_eq_false; omega) rfl) ?_
          refine SWl.nil ?_
          refine SN.then ?_
          refine SW.condF rfl (rfl) ?_
          refine SW.skip ?_
          refine SN.then ?_
          refine SW.seq ?_
          refine SW.region ?_
          refine SWl.rd rfl (Rd.move rfl) ?_
          refine SWl.rd rfl (Rd.move rfl) ?_
          refine SWl.rd rfl (Rd.move rfl) ?_
          refine SWl.rd rfl (Rd.mono (Rd.mul rfl rfl ⟨by omega, by omega⟩) (show Le _ (iD ((7 * i : Nat) : Int)) from Le.is (by simp))) ?_
          refine SWl.rd rfl (Rd.shlW (s := 7 * i) rfl rfl rfl) ?_
          refine SWl.rd rfl (Rd.orW rfl rfl rfl) ?_
          refine SWl.rd rfl (Rd.assign rfl) ?_
          refine SWl.nil ?_
          refine SN.then ?_
          refine SW.seq ?_
          refine SW.region ?_
          refine SWl.rd rfl (Rd.move rfl) ?_
          refine SWl.rd rfl (Rd.lss rfl rfl) ?_
          refine SWl.nil ?_
          refine SN.then ?_
          refine SW.condF rfl (by apply decide_eq_false; omega) ?_
          refine SW.skip ?_
          refine SN.block ?_
          refine SN.then ?_
          refine SW.region ?_
          refine SWl.rd rfl (Rd.add rfl rfl ⟨by omega, by omega⟩) ?_
          refine SWl.rd rfl (Rd.move rfl) ?_
          refine SWl.nil ?_
          exact fun a w hh => hK0 (⟨(i + 1, _), hg⟩) (by dsimp only; omega) a w (hh.sub (⟨⟨_, rfl, ⟨⟨_, rfl, Le.refl _⟩, ⟨⟨_, rfl, Le.refl _⟩, ⟨⟨_, rfl, Le.is (by simp)⟩, ⟨⟨_, rfl, Le.refl _⟩, trivial⟩⟩⟩⟩⟩, [0], by decide, ⟨⟨_, rfl, LeAll.refl _⟩, trivial⟩⟩))
    · obtain rfl : E = 6 := hI.last (by have h := of_decide_eq_false hb11; omega)
      refine SW.exit' ?_
      repeat (first | refine SE.then ?_ | refine SE.skip (by decide) ?_)
      refine SE.here ?_
      refine SN.then ?_
      refine SW.region ?_
      refine SWl.rd rfl (Rd.makeI rfl (Le.refl _) (by kernel_rfl)) ?_
      refine SWl.panic rfl ?_
      repeat (first | refine SP.then ?_ | refine SP.block ?_)
      exact SP.fnR (_) [0] (by decide) ⟨⟨_, rfl, LeAll.refl _⟩, trivial⟩
set_option maxHeartbeats 4000000 in
set_option maxRecDepth 100000 in
theorem con_count (gr : Nat) (b : List UInt8) (k : Nat) (e : Int) (hb : b.length ≤ 1000000) (lim : Int) (hl : 0 ≤ lim) (n m : Nat) (h : rdC lim (b.drop k) = .ok (n, m)) : ConR Tryd.prog 91 [.c gr [iD e, boolD true, bD b, iD ((k : Nat) : Int)]] [isD (.pointer (some ⟨gr, 0, none⟩)), iD lim] (fun _ : Unit => [.c gr [iD e, boolD true, bD b, iD ((k + m : Nat) : Int)]]) (fun _ : Unit => iD (n : Int)) := by
  obtain ⟨hr, hnl⟩ := rdC_ok h
  refine con_ofR Tryd.func91 (by kernel_rfl) rfl (by kernel_rfl) fun base w0 => ?_
  refine SW.seq ?_
  refine SW.region ?_
  refine SWl.rd rfl (Rd.assign rfl) ?_
  refine SWl.nil ?_
  refine SN.then ?_
  refine SW.seq ?_
  refine SW.region ?_
  refine SWl.rd rfl (Rd.move rfl) ?_
  refine SWl.ef (Ef.callR [0] (con_group gr b k e hb n m hr) rfl ⟨Le.refl _, Le.refl _, trivial⟩ (by decide) ⟨⟨_, rfl, LeAll.refl _⟩, trivial⟩ (fun _ h => h) rfl) ?_
  rintro _ ⟨⟨⟩, rfl⟩
  refine SWl.rd rfl (Rd.cvW (r := (n : Int)) .u64 rfl (by kernel_rfl) (by kernel_rfl) (i64_w (u63_lt (rdg_bd hr).1))) ?_
  refine SWl.rd rfl (Rd.assign rfl) ?_
  refine SWl.nil ?_
  refine SN.then ?_
  refine SW.seq ?_
  refine SW.seq ?_
  refine SW.region ?_
  refine SWl.rd rfl (Rd.move rfl) ?_
  refine SWl.rd rfl (Rd.lss rfl rfl) ?_
  refine SWl.nil ?_
  refine SN.then ?_
  refine SW.condF rfl (by apply decide_eq_false; omega) ?_
  refine SW.skip ?_
  refine SN.then ?_
  refine SW.seq ?_
  refine SW.seq ?_
  refine SW.region ?_
  refine SWl.rd rfl (Rd.move rfl) ?_
  refine SWl.rd rfl (Rd.move rfl) ?_
  refine SWl.rd rfl (Rd.gtr rfl rfl) ?_
  refine SWl.nil ?_
  refine SN.then ?_
  refine SW.condF rfl (by apply decide_eq_false; omega) ?_
  refine SW.skip ?_
  refine SN.then ?_
  refine SW.seq ?_
  refine SW.region ?_
  refine SWl.rd rfl (Rd.move rfl) ?_
  refine SWl.rd rfl (Rd.assign rfl) ?_
  refine SWl.nil ?_
  refine SN.then ?_
  refine SW.retR (fn := Tryd.f91) (()) [0] (fun _ _ h => h) (Rs.one rfl (ResV.tmp rfl)) (by decide) ⟨⟨_, rfl, LeAll.refl _⟩, trivial⟩
set_option maxHeartbeats 4000000 in
set_option maxRecDepth 100000 in
theorem con_count_g (gr : Nat) (b : List UInt8) (k : Nat) (e : Int) (hb : b.length ≤ 1000000) (lim : Int) (hl : 0 ≤ lim) (E : Int) (hr : rdg 9 true (b.drop k) = .error E) : ConPR Tryd.prog 91 [.c gr [iD e, boolD true, bD b, iD ((k : Nat) : Int)]] [isD (.pointer (some ⟨gr, 0, none⟩)), iD lim] (fun q : Nat => [.c gr [iD e, boolD true, bD b, iD ((q : Nat) : Int)]]) (errP E) := by
  refine con_ofPR Tryd.func91 (by kernel_rfl) rfl (by kernel_rfl) fun base w0 => ?_
  refine SW.seq ?_
  refine SW.region ?_
  refine SWl.rd rfl (Rd.assign rfl) ?_
  refine SWl.nil ?_
  refine SN.then ?_
  refine SW.seq ?_
  refine SW.region ?_
  refine SWl.rd rfl (Rd.move rfl) ?_
  refine SWl.callPR [0] (con_group_bad gr b k e hb E hr) rfl ⟨Le.refl _, Le.refl _, trivial⟩ (by decide) ⟨⟨_, rfl, LeAll.refl _⟩, trivial⟩ ?_
  intro q
  repeat (first | refine SP.then ?_ | refine SP.block ?_)
  exact SP.fnR (q) [0] (by decide) ⟨⟨_, rfl, LeAll.refl _⟩, trivial⟩
set_option maxHeartbeats 4000000 in
set_option maxRecDepth 100000 in
theorem con_count_l (gr : Nat) (b : List UInt8) (k : Nat) (e : Int) (hb : b.length ≤ 1000000) (lim : Int) (hl : 0 ≤ lim) (n m : Nat) (hr : rdg 9 true (b.drop k) = .ok (n, m)) (hlt : lim < (n : Int)) : ConPR Tryd.prog 91 [.c gr [iD e, boolD true, bD b, iD ((k : Nat) : Int)]] [isD (.pointer (some ⟨gr, 0, none⟩)), iD lim] (fun q : Nat => [.c gr [iD e, boolD true, bD b, iD ((q : Nat) : Int)]]) (errP 7) := by
  refine con_ofPR Tryd.func91 (by kernel_rfl) rfl (by kernel_rfl) fun base w0 => ?_
  refine SW.seq ?_
  refine SW.region ?_
  refine SWl.rd rfl (Rd.assign rfl) ?_
  refine SWl.nil ?_
  refine SN.then ?_
  refine SW.seq ?_
  refine SW.region ?_
  refine SWl.rd rfl (Rd.move rfl) ?_
  refine SWl.ef (Ef.callR [0] (con_group gr b k e hb n m hr) rfl ⟨Le.refl _, Le.refl _, trivial⟩ (by decide) ⟨⟨_, rfl, LeAll.refl _⟩, trivial⟩ (fun _ h => h) rfl) ?_
  rintro _ ⟨⟨⟩, rfl⟩
  refine SWl.rd rfl (Rd.cvW (r := (n : Int)) .u64 rfl (by kernel_rfl) (by kernel_rfl) (i64_w (u63_lt (rdg_bd hr).1))) ?_
  refine SWl.rd rfl (Rd.assign rfl) ?_
  refine SWl.nil ?_
  refine SN.then ?_
  refine SW.seq ?_
  refine SW.seq ?_
  refine SW.region ?_
  refine SWl.rd rfl (Rd.move rfl) ?_
  refine SWl.rd rfl (Rd.lss rfl rfl) ?_
  refine SWl.nil ?_
  refine SN.then ?_
  refine SW.condF rfl (by apply decide_eq_false; omega) ?_
  refine SW.skip ?_
  refine SN.then ?_
  refine SW.seq ?_
  refine SW.seq ?_
  refine SW.region ?_
  refine SWl.rd rfl (Rd.move rfl) ?_
  refine SWl.rd rfl (Rd.move rfl) ?_
  refine SWl.rd rfl (Rd.gtr rfl rfl) ?_
  refine SWl.nil ?_
  refine SN.then ?_
  refine SW.condT rfl (by apply decide_eq_true; omega) ?_
  refine SW.region ?_
  refine SWl.rd rfl (Rd.makeI rfl (Le.refl _) (by kernel_rfl)) ?_
  refine SWl.panic rfl ?_
  repeat (first | refine SP.then ?_ | refine SP.block ?_)
  exact SP.fnR (k + m) [0] (by decide) ⟨⟨_, rfl, LeAll.refl _⟩, trivial⟩
theorem con_count_bad (gr : Nat) (b : List UInt8) (k : Nat) (e : Int) (hb : b.length ≤ 1000000) (lim : Int) (hl : 0 ≤ lim) (E : Int) (h : rdC lim (b.drop k) = .error E) : ConPR Tryd.prog 91 [.c gr [iD e, boolD true, bD b, iD ((k : Nat) : Int)]] [isD (.pointer (some ⟨gr, 0, none⟩)), iD lim] (fun q : Nat => [.c gr [iD e, boolD true, bD b, iD ((q : Nat) : Int)]]) (errP E) := by
  rcases rdC_err h with hr | ⟨n, m, hr, hlt, rfl⟩
  · exact con_count_g gr b k e hb lim hl E hr
  · exact con_count_l gr b k e hb lim hl n m hr hlt
set_option maxHeartbeats 4000000 in
set_option maxRecDepth 100000 in
theorem con_part (gr : Nat) (b : List UInt8) (k : Nat) (e : Int) (hb : b.length ≤ 1000000) (lim : Int) (hl : 0 ≤ lim) (q : List UInt8) (M : Nat) (h : rdP lim (b.drop k) = .ok (q, M)) : ConR Tryd.prog 94 [.c gr [iD e, boolD true, bD b, iD ((k : Nat) : Int)]] [isD (.pointer (some ⟨gr, 0, none⟩)), iD lim] (fun _ : Unit => [.c gr [iD e, boolD true, bD b, iD ((k + M : Nat) : Int)]]) (fun _ : Unit => bD q) := by
  obtain ⟨n, m, hr, hml, rfl, rfl⟩ := rdP_ok h
  have hdl : (b.drop k).length = b.length - k := List.length_drop
  have hm1 := (rdg_bd (rdC_ok hr).1).2.1
  refine con_ofR Tryd.func94 (by kernel_rfl) rfl (by kernel_rfl) fun base w0 => ?_
  refine SW.seq ?_
  refine SW.region ?_
  refine SWl.rd rfl (Rd.assign rfl) ?_
  refine SWl.nil ?_
  refine SN.then ?_
  refine SW.seq ?_
  refine SW.region ?_
  refine SWl.rd rfl (Rd.move rfl) ?_
  refine SWl.rd rfl (Rd.move rfl) ?_
  refine SWl.ef (Ef.callR [0] (con_count gr b k e hb lim hl n m hr) rfl ⟨Le.refl _, Le.refl _, trivial⟩ (by decide) ⟨⟨_, rfl, LeAll.refl _⟩, trivial⟩ (fun _ h => h) rfl) ?_
  rintro _ ⟨⟨⟩, rfl⟩
  refine SWl.rd rfl (Rd.assign rfl) ?_
  refine SWl.nil ?_
  refine SN.then ?_
  refine SW.seq ?_
  refine SW.seq ?_
  refine SW.draw [] (.r 0 (.r 1 (.r 2 (.r 3 (.r 4 (.r 5 (.r 6 (.r 7 (.r 8 (.r 9 (.r 10 (.r 11 .fin)))))))))))) (by kernel_rfl) (by kernel_rfl) (fun d _ _ _ _ h => by cases d <;> exact h) ?_
  refine SWz.rd (i := 0) rfl rfl (Rd.move rfl) ?_
  refine SWz.rd (i := 1) rfl rfl (Rd.move rfl) ?_
  refine SWz.rd (i := 2) rfl rfl (Rd.nilCheck rfl) ?_
  refine SWz.rd (i := 3) rfl rfl (Rd.fieldAddr (n := 2) rfl (by kernel_rfl)) ?_
  refine SWz.rd (i := 4) rfl rfl (Rd.loadB 0 rfl rfl rfl (by kernel_rfl) ap_nil) ?_
  refine SWz.rd (i := 5) rfl rfl (Rd.len (e := 5) rfl (by kernel_rfl)) ?_
  refine SWz.rd (i := 6) rfl rfl (Rd.move rfl) ?_
  refine SWz.rd (i := 7) rfl rfl (Rd.nilCheck rfl) ?_
  refine SWz.rd (i := 8) rfl rfl (Rd.fieldAddr (n := 3) rfl (by kernel_rfl)) ?_
  refine SWz.rd (i := 9) rfl rfl (Rd.loadB 0 rfl rfl rfl (by kernel_rfl) ap_nil) ?_
  refine SWz.rd (i := 10) rfl rfl (Rd.subi rfl rfl ⟨by (try rw [cellsOf_length]); omega, by (try rw [cellsOf_length]); omega⟩) ?_
  refine SWz.rd (i := 11) rfl rfl (Rd.gtr rfl rfl) ?_
  refine SWz.nil ?_
  refine SN.then ?_
  refine SW.condF rfl (by apply decide_eq_false; rw [cellsOf_length]; omega) ?_
  refine SW.skip ?_
  refine SN.then ?_
  refine SW.seq ?_
  refine SW.draw [] (.r 0 (.r 1 (.r 2 (.r 3 (.r 4 (.r 5 (.r 6 (.r 7 (.r 8 (.r 9 (.r 10 (.r 11 (.r 12 (.r 13 (.r 14 (.r 15 .fin)))))))))))))))) (by kernel_rfl) (by kernel_rfl) (fun d _ _ _ _ h => by cases d <;> exact h) ?_
  refine SWz.rd (i := 0) rfl rfl (Rd.move rfl) ?_
  refine SWz.rd (i := 1) rfl rfl (Rd.nilCheck rfl) ?_
  refine SWz.rd (i := 2) rfl rfl (Rd.fieldAddr (n := 2) rfl (by kernel_rfl)) ?_
  refine SWz.rd (i := 3) rfl rfl (Rd.loadB 0 rfl rfl rfl (by kernel_rfl) ap_nil) ?_
  refine SWz.rd (i := 4) rfl rfl (Rd.move rfl) ?_
  refine SWz.rd (i := 5) rfl rfl (Rd.nilCheck rfl) ?_
  refine SWz.rd (i := 6) rfl rfl (Rd.fieldAddr (n := 3) rfl (by kernel_rfl)) ?_
  refine SWz.rd (i := 7) rfl rfl (Rd.loadB 0 rfl rfl rfl (by kernel_rfl) ap_nil) ?_
  refine SWz.rd (i := 8) rfl rfl (Rd.move rfl) ?_
  refine SWz.rd (i := 9) rfl rfl (Rd.nilCheck rfl) ?_
  refine SWz.rd (i := 10) rfl rfl (Rd.fieldAddr (n := 3) rfl (by kernel_rfl)) ?_
  refine SWz.rd (i := 11) rfl rfl (Rd.loadB 0 rfl rfl rfl (by kernel_rfl) ap_nil) ?_
  refine SWz.rd (i := 12) rfl rfl (Rd.move rfl) ?_
  refine SWz.rd (i := 13) rfl rfl (Rd.mono (Rd.add rfl rfl ⟨by omega, by omega⟩) (show Le _ (iD ((k + m + n : Nat) : Int)) from Le.is (by simp))) ?_
  refine SWz.rd (i := 14) rfl rfl (Rd.mono (Rd.slD2 (e := 5) (enc := encB) (lo := k + m) (hi := k + m + n) 1 rfl (le_b_ls _) rfl rfl (by kernel_rfl) (by kernel_rfl) (by omega) (by omega)) (le_ls_b _)) ?_
  refine SWz.rd (i := 15) rfl rfl (Rd.assign rfl) ?_
  refine SWz.nil ?_
  refine SN.then ?_
  refine SW.seq ?_
  refine SW.region ?_
  refine SWl.rd rfl (Rd.move rfl) ?_
  refine SWl.rd rfl (Rd.nilCheck rfl) ?_
  refine SWl.rd rfl (Rd.fieldAddr (n := 3) rfl (by kernel_rfl)) ?_
  refine SWl.rd rfl (Rd.loadB 0 rfl rfl rfl (by kernel_rfl) ap_nil) ?_
  refine SWl.rd rfl (Rd.move rfl) ?_
  refine SWl.rd rfl (Rd.mono (Rd.add rfl rfl ⟨by omega, by omega⟩) (show Le _ (iD ((k + m + n : Nat) : Int)) from Le.is (by simp))) ?_
  refine SWl.rd rfl (Rd.nilCheck rfl) ?_
  refine SWl.rd rfl (Rd.fieldAddr (n := 3) rfl (by kernel_rfl)) ?_
  refine SWl.ef (S := [_]) (Ef.storeV 0 rfl rfl rfl (by kernel_rfl) rfl (List.mem_singleton.2 rfl)) ?_
  rintro _ rfl
  refine SWl.nil ?_
  refine SN.then ?_
  refine SW.seq ?_
  refine SW.region ?_
  refine SWl.rd rfl (Rd.move rfl) ?_
  refine SWl.rd rfl (Rd.assign rfl) ?_
  refine SWl.nil ?_
  refine SN.then ?_
  refine SW.retR (fn := Tryd.f94) (()) [0] (fun _ _ h => h) (Rs.le (Rs.one rfl (ResV.tmp rfl)) ?_) (by decide) ⟨⟨_, rfl, ⟨Le.refl _, Le.refl _, Le.refl _, Le.is (by rw [Nat.add_assoc]), trivial⟩⟩, trivial⟩
  rw [part_eq]; exact Le.refl _
set_option maxHeartbeats 4000000 in
set_option maxRecDepth 100000 in
theorem con_part_c (gr : Nat) (b : List UInt8) (k : Nat) (e : Int) (hb : b.length ≤ 1000000) (lim : Int) (hl : 0 ≤ lim) (E : Int) (hr : rdC lim (b.drop k) = .error E) : ConPR Tryd.prog 94 [.c gr [iD e, boolD true, bD b, iD ((k : Nat) : Int)]] [isD (.pointer (some ⟨gr, 0, none⟩)), iD lim] (fun q : Nat => [.c gr [iD e, boolD true, bD b, iD ((q : Nat) : Int)]]) (errP E) := by
  refine con_ofPR Tryd.func94 (by kernel_rfl) rfl (by kernel_rfl) fun base w0 => ?_
  refine SW.seq ?_
  refine SW.region ?_
  refine SWl.rd rfl (Rd.assign rfl) ?_
  refine SWl.nil ?_
  refine SN.then ?_
  refine SW.seq ?_
  refine SW.region ?_
  refine SWl.rd rfl (Rd.move rfl) ?_
  refine SWl.rd rfl (Rd.move rfl) ?_
  refine SWl.callPR [0] (con_count_bad gr b k e hb lim hl E hr) rfl ⟨Le.refl _, Le.refl _, trivial⟩ (by decide) ⟨⟨_, rfl, LeAll.refl _⟩, trivial⟩ ?_
  intro q
  repeat (first | refine SP.then ?_ | refine SP.block ?_)
  exact SP.fnR (q) [0] (by decide) ⟨⟨_, rfl, LeAll.refl _⟩, trivial⟩
set_option maxHeartbeats 4000000 in
set_option maxRecDepth 100000 in
theorem con_part_l (gr : Nat) (b : List UInt8) (k : Nat) (e : Int) (hb : b.length ≤ 1000000) (lim : Int) (hl : 0 ≤ lim) (n m : Nat) (hr : rdC lim (b.drop k) = .ok (n, m)) (hlt : (b.drop k).length < m + n) : ConPR Tryd.prog 94 [.c gr [iD e, boolD true, bD b, iD ((k : Nat) : Int)]] [isD (.pointer (some ⟨gr, 0, none⟩)), iD lim] (fun q : Nat => [.c gr [iD e, boolD true, bD b, iD ((q : Nat) : Int)]]) (errP 4) := by
  have hdl : (b.drop k).length = b.length - k := List.length_drop
  have hm1 := (rdg_bd (rdC_ok hr).1).2
  have hn9 := u63_lt (rdg_bd (rdC_ok hr).1).1
  refine con_ofPR Tryd.func94 (by kernel_rfl) rfl (by kernel_rfl) fun base w0 => ?_
  refine SW.seq ?_
  refine SW.region ?_
  refine SWl.rd rfl (Rd.assign rfl) ?_
  refine SWl.nil ?_
  refine SN.then ?_
  refine SW.seq ?_
  refine SW.region ?_
  refine SWl.rd rfl (Rd.move rfl) ?_
  refine SWl.rd rfl (Rd.move rfl) ?_
  refine SWl.ef (Ef.callR [0] (con_count gr b k e hb lim hl n m hr) rfl ⟨Le.refl _, Le.refl _, trivial⟩ (by decide) ⟨⟨_, rfl, LeAll.refl _⟩, trivial⟩ (fun _ h => h) rfl) ?_
  rintro _ ⟨⟨⟩, rfl⟩
  refine SWl.rd rfl (Rd.assign rfl) ?_
  refine SWl.nil ?_
  refine SN.then ?_
  refine SW.seq ?_
  refine SW.seq ?_
  refine SW.draw [] (.r 0 (.r 1 (.r 2 (.r 3 (.r 4 (.r 5 (.r 6 (.r 7 (.r 8 (.r 9 (.r 10 (.r 11 .fin)))))))))))) (by kernel_rfl) (by kernel_rfl) (fun d _ _ _ _ h => by cases d <;> exact h) ?_
  refine SWz.rd (i := 0) rfl rfl (Rd.move rfl) ?_
  refine SWz.rd (i := 1) rfl rfl (Rd.move rfl) ?_
  refine SWz.rd (i := 2) rfl rfl (Rd.nilCheck rfl) ?_
  refine SWz.rd (i := 3) rfl rfl (Rd.fieldAddr (n := 2) rfl (by kernel_rfl)) ?_
  refine SWz.rd (i := 4) rfl rfl (Rd.loadB 0 rfl rfl rfl (by kernel_rfl) ap_nil) ?_
  refine SWz.rd (i := 5) rfl rfl (Rd.len (e := 5) rfl (by kernel_rfl)) ?_
  refine SWz.rd (i := 6) rfl rfl (Rd.move rfl) ?_
  refine SWz.rd (i := 7) rfl rfl (Rd.nilCheck rfl) ?_
  refine SWz.rd (i := 8) rfl rfl (Rd.fieldAddr (n := 3) rfl (by kernel_rfl)) ?_
  refine SWz.rd (i := 9) rfl rfl (Rd.loadB 0 rfl rfl rfl (by kernel_rfl) ap_nil) ?_
  refine SWz.rd (i := 10) rfl rfl (Rd.subi rfl rfl ⟨by (try rw [cellsOf_length]); omega, by (try rw [cellsOf_length]); omega⟩) ?_
  refine SWz.rd (i := 11) rfl rfl (Rd.gtr rfl rfl) ?_
  refine SWz.nil ?_
  refine SN.then ?_
  refine SW.condT rfl (by apply decide_eq_true; rw [cellsOf_length]; omega) ?_
  refine SW.region ?_
  refine SWl.rd rfl (Rd.makeI rfl (Le.refl _) (by kernel_rfl)) ?_
  refine SWl.panic rfl ?_
  repeat (first | refine SP.then ?_ | refine SP.block ?_)
  exact SP.fnR (k + m) [0] (by decide) ⟨⟨_, rfl, LeAll.refl _⟩, trivial⟩
theorem con_part_bad (gr : Nat) (b : List UInt8) (k : Nat) (e : Int) (hb : b.length ≤ 1000000) (lim : Int) (hl : 0 ≤ lim) (E : Int) (h : rdP lim (b.drop k) = .error E) : ConPR Tryd.prog 94 [.c gr [iD e, boolD true, bD b, iD ((k : Nat) : Int)]] [isD (.pointer (some ⟨gr, 0, none⟩)), iD lim] (fun q : Nat => [.c gr [iD e, boolD true, bD b, iD ((q : Nat) : Int)]]) (errP E) := by
  rcases rdP_err h with hr | ⟨n, m, hr, hlt, rfl⟩
  · exact con_part_c gr b k e hb lim hl E hr
  · exact con_part_l gr b k e hb lim hl n m hr hlt
end Sx
end Go.Proofs.YtchbgfgboogniaaDoor
namespace Go.Proofs.YtchbgfgboogniaaDoor
open Go.RowKit
namespace Sx
/-- What is left to read, and the first error. -/
structure RT where
  p : List UInt8
  e : Int
def RRel (b : List UInt8) (s : Int × Nat) (r : RT) : Prop := s.1 = r.e ∧ s.2 ≤ b.length ∧ (r.e = 0 → r.p = b.drop s.2)
theorem RRel.start (b : List UInt8) : RRel b (0, 0) ⟨b, 0⟩ := ⟨rfl, Nat.zero_le _, fun _ => rfl⟩
theorem RRel.bad {b : List UInt8} {k : Nat} {E : Int} (hk : k ≤ b.length) (hE : E ≠ 0) : RRel b (E, k) ⟨[], E⟩ := ⟨rfl, hk, fun h => absurd h hE⟩
theorem RRel.good {b : List UInt8} {k m : Nat} (hk : k + m ≤ b.length) : RRel b (0, k + m) ⟨(b.drop k).drop m, 0⟩ := ⟨rfl, hk, fun _ => by rw [List.drop_drop]⟩
def stG {α β : Type} (z : β) (f : List UInt8 → Except Int (α × Nat)) (g : α → β) (r : RT) : β × RT := if r.e ≠ 0 then (z, r) else match f r.p with
  | .error e => (z, ⟨[], e⟩)
  | .ok (n, m) => (g n, ⟨r.p.drop m, 0⟩)
theorem stG_skip {α β : Type} {z : β} {f : List UInt8 → Except Int (α × Nat)} {g : α → β} {r : RT} (h : r.e ≠ 0) : stG z f g r = (z, r) := if_pos h
theorem stG_bad {α β : Type} {z : β} {f : List UInt8 → Except Int (α × Nat)} {g : α → β} {r : RT} {E : Int} (h : r.e = 0) (hf : f r.p = .error E) : stG z f g r = (z, ⟨[], E⟩) := by unfold stG; rw [if_neg (by simp [h]), hf]
theorem stG_ok {α β : Type} {z : β} {f : List UInt8 → Except Int (α × Nat)} {g : α → β} {r : RT} {n : α} {m : Nat} (h : r.e = 0) (hf : f r.p = .ok (n, m)) : stG z f g r = (g n, ⟨r.p.drop m, 0⟩) := by unfold stG; rw [if_neg (by simp [h]), hf]
abbrev stU (r : RT) : Int × RT := stG 0 (rdg 9 true) (fun n : Nat => (n : Int)) r
abbrev stC (lim : Int) (r : RT) : Int × RT := stG 0 (rdC lim) (fun n : Nat => (n : Int)) r
abbrev stP (lim : Int) (r : RT) : List UInt8 × RT := stG [] (rdP lim) (fun q : List UInt8 => q) r
theorem rdg_ne {p : List UInt8} {E : Int} (h : rdg 9 true p = .error E) : E ≠ 0 := by rcases rdg_err h with rfl | rfl <;> decide
theorem rdC_ne {lim : Int} {p : List UInt8} {E : Int} (h : rdC lim p = .error E) : E ≠ 0 := by
  rcases rdC_err h with h | ⟨_, _, _, _, rfl⟩
  · exact rdg_ne h
  · decide
theorem rdP_ne {lim : Int} {p : List UInt8} {E : Int} (h : rdP lim p = .error E) : E ≠ 0 := by
  rcases rdP_err h with h | ⟨_, _, _, _, rfl⟩
  · exact rdC_ne h
  · decide
theorem rdg_in {b : List UInt8} {k n m : Nat} (hk : k ≤ b.length) (h : rdg 9 true (b.drop k) = .ok (n, m)) : k + m ≤ b.length := by
  have := (rdg_bd h).2.2
  rw [List.length_drop] at this
  omega
theorem rdP_in {lim : Int} {b q : List UInt8} {k m : Nat} (hk : k ≤ b.length) (h : rdP lim (b.drop k) = .ok (q, m)) : k + m ≤ b.length := by
  obtain ⟨n, j, _, h2, _, rfl⟩ := rdP_ok h
  rw [List.length_drop] at h2
  omega
abbrev RdS (b : List UInt8) (r : RT) : Type := {s : Int × Nat // RRel b s r}
theorem rdP_len {lim : Int} {b q : List UInt8} {k m : Nat} (h : rdP lim (b.drop k) = .ok (q, m)) : q.length ≤ b.length := by
  obtain ⟨n, j, _, _, rfl, _⟩ := rdP_ok h
  rw [List.length_take, List.length_drop, List.length_drop]
  omega
set_option maxHeartbeats 4000000 in
set_option maxRecDepth 100000 in
theorem con_note (gr : Nat) (b : List UInt8) (k : Nat) (E : Int) : ConR Tryd.prog 99 [.c gr [iD 0, boolD true, bD b, iD ((k : Nat) : Int)]] [isD (.pointer (some ⟨gr, 0, none⟩)), iD E] (fun _ : Unit => [.c gr [iD E, boolD true, bD b, iD ((k : Nat) : Int)]]) (fun _ : Unit => isD (.tuple #[])) := by
  refine con_ofR Tryd.func99 (by kernel_rfl) rfl (by kernel_rfl) fun base w0 => ?_
  refine SW.seq ?_
  refine SW.region ?_
  refine SWl.rd rfl (Rd.move rfl) ?_
  refine SWl.rd rfl (Rd.nilCheck rfl) ?_
  refine SWl.rd rfl (Rd.fieldAddr (n := 0) rfl (by kernel_rfl)) ?_
  refine SWl.rd rfl (Rd.loadB 0 rfl rfl rfl (by kernel_rfl) ap_nil) ?_
  refine SWl.rd rfl (Rd.eqi rfl rfl) ?_
  refine SWl.nil ?_
  refine SN.then ?_
  refine SW.condT rfl (by decide) ?_
  refine SW.region ?_
  refine SWl.rd rfl (Rd.move rfl) ?_
  refine SWl.rd rfl (Rd.move rfl) ?_
  refine SWl.rd rfl (Rd.nilCheck rfl) ?_
  refine SWl.rd rfl (Rd.fieldAddr (n := 0) rfl (by kernel_rfl)) ?_
  refine SWl.ef (S := [_]) (Ef.storeV 0 rfl rfl rfl (by kernel_rfl) rfl (List.mem_singleton.2 rfl)) ?_
  rintro _ rfl
  refine SWl.nil ?_
  refine SN.retR (fn := Tryd.f99) (()) [0] (Rs.none rfl) (by decide) ⟨⟨_, rfl, LeAll.refl _⟩, trivial⟩
set_option maxHeartbeats 4000000 in
set_option maxRecDepth 100000 in
theorem con_rvalid (b : List UInt8) (k : Nat) (e : Int) : ConN Tryd.prog 92 [paD [iD e, boolD true, bD b, iD ((k : Nat) : Int)]] (boolD true) := by
  refine con_ofN Tryd.func92 (by kernel_rfl) rfl (by kernel_rfl) fun base w0 => ?_
  refine SW.seq ?_
  refine SW.region ?_
  refine SWl.rd rfl (Rd.assign rfl) ?_
  refine SWl.nil ?_
  refine SN.then ?_
  refine SW.seq ?_
  refine SW.region ?_
  refine SWl.rd rfl (Rd.move rfl) ?_
  refine SWl.rd rfl (Rd.nePA rfl rfl (by kernel_rfl)) ?_
  refine SWl.rd rfl (Rd.move rfl) ?_
  refine SWl.rdg rfl rfl (rfl) rfl rfl (Rd.move rfl) ?_
  refine SWl.rdg rfl rfl (rfl) rfl rfl (Rd.nilCheckP rfl) ?_
  refine SWl.rdg rfl rfl (rfl) rfl rfl (Rd.fieldR (n := 1) rfl (by kernel_rfl) (show 1 < 4 by decide)) ?_
  refine SWl.rdg rfl rfl (rfl) rfl rfl (Rd.loadR rfl rfl (by kernel_rfl) (by simp)) ?_
  refine SWl.rd rfl (Rd.pickY rfl (rfl) rfl) ?_
  refine SWl.rd rfl (Rd.assign rfl) ?_
  refine SWl.nil ?_
  refine SN.then ?_
  refine SW.ret (fn := Tryd.f92) (fun _ _ h => h) (Rs.le (Rs.one rfl (ResV.tmp rfl)) ?_)
  exact le_bool_n rfl
set_option maxHeartbeats 4000000 in
set_option maxRecDepth 100000 in
theorem con_vd_ret (g4 gv : Nat) : ConD Tryd.prog 125 [] [isD (.pointer (some ⟨g4, 0, none⟩)), isD (.pointer (some ⟨gv, 0, none⟩))] (.returning) (.returning) [] := by
  refine con_ofD Tryd.func125 (by kernel_rfl) rfl (by kernel_rfl) (by kernel_rfl) (by kernel_rfl) (.inr ⟨rfl, rfl, rfl⟩) fun base w0 => ?_
  refine SW.seq ?_
  refine SW.seq ?_
  refine SW.region ?_
  refine SWl.rd rfl (Rd.move rfl) ?_
  refine SWl.rd rfl (Rd.eqI0 rfl (by kernel_rfl)) ?_
  refine SWl.nil ?_
  refine SN.then ?_
  refine SW.condT rfl (rfl) ?_
  exact SW.retDf (fun _ _ h => h) [] (Rs.none rfl) (by decide) trivial
set_option maxHeartbeats 4000000 in
set_option maxRecDepth 100000 in
theorem con_vd_pan (g4 gv gr : Nat) (b : List UInt8) (k q : Nat) (E : Int) : ConD Tryd.prog 125 [.c g4 [iD ((k : Nat) : Int)], .c gv [isD (.pointer (some ⟨gr, 0, none⟩))], .c gr [iD 0, boolD true, bD b, iD ((q : Nat) : Int)]] [isD (.pointer (some ⟨g4, 0, none⟩)), isD (.pointer (some ⟨gv, 0, none⟩))] (.panicking (errP E)) (.panicking [{ v := .iface 34 (.int .i64 E), recovered := true }]) [.c g4 [iD ((k : Nat) : Int)], .c gv [isD (.pointer (some ⟨gr, 0, none⟩))], .c gr [iD E, boolD true, bD b, iD ((k : Nat) : Int)]] := by
  refine con_ofD Tryd.func125 (by kernel_rfl) rfl (by kernel_rfl) (by kernel_rfl) (by kernel_rfl) (.inl ⟨.iface 34 (.int .i64 E), [], rfl, rfl, rfl⟩) fun base w0 => ?_
  refine SW.seq ?_
  refine SW.seq ?_
  refine SW.region ?_
  refine SWl.rd rfl (Rd.move rfl) ?_
  refine SWl.rd rfl (Rd.eqI rfl (by kernel_rfl)) ?_
  refine SWl.nil ?_
  refine SN.then ?_
  refine SW.condF rfl (rfl) ?_
  refine SW.skip ?_
  refine SN.then ?_
  refine SW.seq ?_
  refine SW.region ?_
  refine SWl.rd rfl (Rd.loadB 1 rfl rfl rfl (by kernel_rfl) ap_nil) ?_
  refine SWl.rd rfl (Rd.loadB 0 rfl rfl rfl (by kernel_rfl) ap_nil) ?_
  refine SWl.rd rfl (Rd.nilCheck rfl) ?_
  refine SWl.rd rfl (Rd.fieldAddr (n := 3) rfl (by kernel_rfl)) ?_
  refine SWl.ef (S := [_]) (Ef.storeV 2 rfl rfl rfl (by kernel_rfl) rfl (List.mem_singleton.2 rfl)) ?_
  rintro _ rfl
  refine SWl.nil ?_
  refine SN.then ?_
  refine SW.seq ?_
  refine SW.region ?_
  refine SWl.rd rfl (Rd.move rfl) ?_
  refine SWl.rd rfl (Rd.assertY rfl (by kernel_rfl)) ?_
  refine SWl.rd rfl (Rd.move rfl) ?_
  refine SWl.rd rfl (Rd.extract rfl rfl) ?_
  refine SWl.rd rfl (Rd.extract rfl rfl) ?_
  refine SWl.rd rfl (Rd.assign rfl) ?_
  refine SWl.rd rfl (Rd.assign rfl) ?_
  refine SWl.nil ?_
  refine SN.then ?_
  refine SW.seq ?_
  refine SW.region ?_
  refine SWl.rd rfl (Rd.move rfl) ?_
  refine SWl.nil ?_
  refine SN.then ?_
  refine SW.condT rfl (rfl) ?_
  refine SW.region ?_
  refine SWl.rd rfl (Rd.loadB 1 rfl rfl rfl (by kernel_rfl) ap_nil) ?_
  refine SWl.rd rfl (Rd.nilCheck rfl) ?_
  refine SWl.rd rfl (Rd.fieldAddr (n := 0) rfl (by kernel_rfl)) ?_
  refine SWl.rd rfl (Rd.move rfl) ?_
  refine SWl.ef (Ef.callR [2] (con_note gr b k E) rfl ⟨Le.refl _, Le.refl _, trivial⟩ (by decide) ⟨⟨_, rfl, LeAll.refl _⟩, trivial⟩ (fun _ h => h) rfl) ?_
  rintro _ ⟨⟨⟩, rfl⟩
  refine SWl.nil ?_
  exact SN.retDf [0, 1, 2] (Rs.none rfl) (by decide) ⟨⟨_, rfl, LeAll.refl _⟩, ⟨⟨_, rfl, LeAll.refl _⟩, ⟨⟨_, rfl, LeAll.refl _⟩, trivial⟩⟩⟩
set_option maxHeartbeats 4000000 in
set_option maxRecDepth 100000 in
theorem con_clUint (gr gp gn : Nat) (b : List UInt8) (k : Nat) (hb : b.length ≤ 1000000) (n m : Nat) (h : (rdg 9 true) (b.drop k) = .ok (n, m)) : ConR Tryd.prog 95 [.c gr [iD 0, boolD true, bD b, iD ((k : Nat) : Int)], .c gp [isD (.pointer (some ⟨gr, 0, none⟩))], .c gn [iD 0]] [isD (.pointer (some ⟨gp, 0, none⟩)), isD (.pointer (some ⟨gn, 0, none⟩))] (fun _ : Unit => [.c gr [iD 0, boolD true, bD b, iD ((k + m : Nat) : Int)], .c gp [isD (.pointer (some ⟨gr, 0, none⟩))], .c gn [iD (n : Int)]]) (fun _ : Unit => isD (.tuple #[])) := by
  refine con_ofR Tryd.func95 (by kernel_rfl) rfl (by kernel_rfl) fun base w0 => ?_
  refine SW.region ?_
  refine SWl.rd rfl (Rd.loadB 1 rfl rfl rfl (by kernel_rfl) ap_nil) ?_
  refine SWl.ef (Ef.callR [0] (con_group gr b k 0 hb n m h) rfl ⟨Le.refl _, Le.refl _, trivial⟩ (by decide) ⟨⟨_, rfl, LeAll.refl _⟩, trivial⟩ (fun _ h => h) rfl) ?_
  rintro _ ⟨⟨⟩, rfl⟩
  refine SWl.rd rfl (Rd.cvW (r := (n : Int)) .u64 rfl (by kernel_rfl) (by kernel_rfl) (i64_w (u63_lt (rdg_bd h).1))) ?_
  refine SWl.ef (S := [_]) (Ef.storeV 1 rfl rfl rfl (by kernel_rfl) rfl (List.mem_singleton.2 rfl)) ?_
  rintro _ rfl
  refine SWl.nil ?_
  refine SN.retR (fn := Tryd.f95) (()) [2, 0, 1] (Rs.none rfl) (by decide) ⟨⟨_, rfl, LeAll.refl _⟩, ⟨⟨_, rfl, LeAll.refl _⟩, ⟨⟨_, rfl, LeAll.refl _⟩, trivial⟩⟩⟩
set_option maxHeartbeats 4000000 in
set_option maxRecDepth 100000 in
theorem con_clUint_bad (gr gp gn : Nat) (b : List UInt8) (k : Nat) (hb : b.length ≤ 1000000) (E : Int) (h : (rdg 9 true) (b.drop k) = .error E) : ConPR Tryd.prog 95 [.c gr [iD 0, boolD true, bD b, iD ((k : Nat) : Int)], .c gp [isD (.pointer (some ⟨gr, 0, none⟩))], .c gn [iD 0]] [isD (.pointer (some ⟨gp, 0, none⟩)), isD (.pointer (some ⟨gn, 0, none⟩))] (fun q : Nat => [.c gr [iD 0, boolD true, bD b, iD ((q : Nat) : Int)], .c gp [isD (.pointer (some ⟨gr, 0, none⟩))], .c gn [iD 0]]) (errP E) := by
  refine con_ofPR Tryd.func95 (by kernel_rfl) rfl (by kernel_rfl) fun base w0 => ?_
  refine SW.region ?_
  refine SWl.rd rfl (Rd.loadB 1 rfl rfl rfl (by kernel_rfl) ap_nil) ?_
  refine SWl.callPR [0] (con_group_bad gr b k 0 hb E h) rfl ⟨Le.refl _, Le.refl _, trivial⟩ (by decide) ⟨⟨_, rfl, LeAll.refl _⟩, trivial⟩ ?_
  intro q
  repeat (first | refine SP.then ?_ | refine SP.block ?_)
  exact SP.fnR (q) [2, 0, 1] (by decide) ⟨⟨_, rfl, LeAll.refl _⟩, ⟨⟨_, rfl, LeAll.refl _⟩, ⟨⟨_, rfl, LeAll.refl _⟩, trivial⟩⟩⟩
set_option maxHeartbeats 4000000 in
set_option maxRecDepth 100000 in
theorem con_clString (gr gp gl gn : Nat) (b : List UInt8) (k : Nat) (hb : b.length ≤ 1000000) (lim : Int) (hl : 0 ≤ lim) (q : List UInt8) (m : Nat) (h : (rdP lim) (b.drop k) = .ok (q, m)) : ConR Tryd.prog 93 [.c gr [iD 0, boolD true, bD b, iD ((k : Nat) : Int)], .c gp [isD (.pointer (some ⟨gr, 0, none⟩))], .c gl [iD lim], .c gn [strD []]] [isD (.pointer (some ⟨gp, 0, none⟩)), isD (.pointer (some ⟨gl, 0, none⟩)), isD (.pointer (some ⟨gn, 0, none⟩))] (fun _ : Unit => [.c gr [iD 0, boolD true, bD b, iD ((k + m : Nat) : Int)], .c gp [isD (.pointer (some ⟨gr, 0, none⟩))], .c gl [iD lim], .c gn [strD q]]) (fun _ : Unit => isD (.tuple #[])) := by
  refine con_ofR Tryd.func93 (by kernel_rfl) rfl (by kernel_rfl) fun base w0 => ?_
  refine SW.region ?_
  refine SWl.rd rfl (Rd.loadB 1 rfl rfl rfl (by kernel_rfl) ap_nil) ?_
  refine SWl.rd rfl (Rd.loadB 2 rfl rfl rfl (by kernel_rfl) ap_nil) ?_
  refine SWl.ef (Ef.callR [0] (con_part gr b k 0 hb lim hl q m h) rfl ⟨Le.refl _, Le.refl _, trivial⟩ (by decide) ⟨⟨_, rfl, LeAll.refl _⟩, trivial⟩ (fun _ h => h) rfl) ?_
  rintro _ ⟨⟨⟩, rfl⟩
  refine SWl.rd rfl (Rd.str (e := 5) rfl (by kernel_rfl) (by kernel_rfl) (by kernel_rfl) (by simp)) ?_
  refine SWl.ef (S := [_]) (Ef.storeV 2 rfl rfl rfl (by kernel_rfl) rfl (List.mem_singleton.2 rfl)) ?_
  rintro _ rfl
  refine SWl.nil ?_
  refine SN.retR (fn := Tryd.f93) (()) [3, 0, 1, 2] (Rs.none rfl) (by decide) ⟨⟨_, rfl, LeAll.refl _⟩, ⟨⟨_, rfl, LeAll.refl _⟩, ⟨⟨_, rfl, LeAll.refl _⟩, ⟨⟨_, rfl, LeAll.refl _⟩, trivial⟩⟩⟩⟩
set_option maxHeartbeats 4000000 in
set_option maxRecDepth 100000 in
theorem con_clString_bad (gr gp gl gn : Nat) (b : List UInt8) (k : Nat) (hb : b.length ≤ 1000000) (lim : Int) (hl : 0 ≤ lim) (E : Int) (h : (rdP lim) (b.drop k) = .error E) : ConPR Tryd.prog 93 [.c gr [iD 0, boolD true, bD b, iD ((k : Nat) : Int)], .c gp [isD (.pointer (some ⟨gr, 0, none⟩))], .c gl [iD lim], .c gn [strD []]] [isD (.pointer (some ⟨gp, 0, none⟩)), isD (.pointer (some ⟨gl, 0, none⟩)), isD (.pointer (some ⟨gn, 0, none⟩))] (fun q : Nat => [.c gr [iD 0, boolD true, bD b, iD ((q : Nat) : Int)], .c gp [isD (.pointer (some ⟨gr, 0, none⟩))], .c gl [iD lim], .c gn [strD []]]) (errP E) := by
  refine con_ofPR Tryd.func93 (by kernel_rfl) rfl (by kernel_rfl) fun base w0 => ?_
  refine SW.region ?_
  refine SWl.rd rfl (Rd.loadB 1 rfl rfl rfl (by kernel_rfl) ap_nil) ?_
  refine SWl.rd rfl (Rd.loadB 2 rfl rfl rfl (by kernel_rfl) ap_nil) ?_
  refine SWl.callPR [0] (con_part_bad gr b k 0 hb lim hl E h) rfl ⟨Le.refl _, Le.refl _, trivial⟩ (by decide) ⟨⟨_, rfl, LeAll.refl _⟩, trivial⟩ ?_
  intro q
  repeat (first | refine SP.then ?_ | refine SP.block ?_)
  exact SP.fnR (q) [3, 0, 1, 2] (by decide) ⟨⟨_, rfl, LeAll.refl _⟩, ⟨⟨_, rfl, LeAll.refl _⟩, ⟨⟨_, rfl, LeAll.refl _⟩, ⟨⟨_, rfl, LeAll.refl _⟩, trivial⟩⟩⟩⟩
set_option maxHeartbeats 4000000 in
set_option maxRecDepth 100000 in
theorem con_clBytes (gr gp gl gn : Nat) (b : List UInt8) (k : Nat) (hb : b.length ≤ 1000000) (lim : Int) (hl : 0 ≤ lim) (q : List UInt8) (m : Nat) (h : (rdP lim) (b.drop k) = .ok (q, m)) : ConR Tryd.prog 97 [.c gr [iD 0, boolD true, bD b, iD ((k : Nat) : Int)], .c gp [isD (.pointer (some ⟨gr, 0, none⟩))], .c gl [iD lim], .c gn [isD (.slice none 0 0)]] [isD (.pointer (some ⟨gn, 0, none⟩)), isD (.pointer (some ⟨gp, 0, none⟩)), isD (.pointer (some ⟨gl, 0, none⟩))] (fun t : Ust => [.c gr [iD 0, boolD true, bD b, iD ((k + m : Nat) : Int)], .c gp [isD (.pointer (some ⟨gr, 0, none⟩))], .c gl [iD lim], .c gn [isD (.slice t.A (q).length t.c)], .r t.F (vecT 5 1 encB t.A t.c (q))]) (fun t : Ust => isD (.tuple #[])) := by
  refine con_ofR Tryd.func97 (by kernel_rfl) rfl (by kernel_rfl) fun base w0 => ?_
  refine SW.vecN 5 1 encB ?_
  refine SW.meet (fun σ => ∃ t : Ust, σ = St.ob [] [.c gr [iD 0, boolD true, bD b, iD ((k + m : Nat) : Int)], .c gp [isD (.pointer (some ⟨gr, 0, none⟩))], .c gl [iD lim], .c gn [isD (.slice t.A (q).length t.c)], .r t.F (vecT 5 1 encB t.A t.c (q))]) ?_ ?_
  · refine SW.draw (gr :: ([] ++ (gn :: []))) (.r 1 (.r 2 (.n 0 (.e 3 (.e 4 (.e 5 .fin .no) .no) .no) (.e 3 (.n 0 (.e 4 (.e 5 .fin .no) .no) .no) .no)))) (by kernel_rfl) (by kernel_rfl) (fun d _ _ _ _ h => by cases d <;> exact h) ?_
    refine SWz.rd (i := 1) rfl rfl (Rd.loadB 1 rfl rfl rfl (by kernel_rfl) (ap_cons 0 rfl (by decide) (ap_app 4 rfl (by decide) (ap_cons 3 rfl (by decide) ap_nil)))) ?_
    refine SWz.rd (i := 2) rfl rfl (Rd.loadB 2 rfl rfl rfl (by kernel_rfl) (ap_cons 0 rfl (by decide) (ap_app 4 rfl (by decide) (ap_cons 3 rfl (by decide) ap_nil)))) ?_
    refine SWz.efn (i := 0) rfl (Ef.ofRd (Rd.loadB 3 rfl rfl rfl (by kernel_rfl) ap_nil) rfl) ?_ ?_
    · rintro _ rfl
      refine SWz.efe (i := 3) rfl (Ef.callR [0] (con_part gr b k 0 hb lim hl q m h) rfl ⟨Le.refl _, Le.refl _, trivial⟩ (by decide) ⟨⟨_, rfl, LeAll.refl _⟩, trivial⟩ (fin_c (List.mem_cons_self) fin_nil) rfl) ?_ SWz.no
      rintro _ ⟨⟨⟩, rfl⟩
      refine SWz.efe (i := 4) rfl (Ef.appT 3 1 1 rfl rfl (SrcT.b rfl) (by kernel_rfl) (by kernel_rfl) (by have h2 := rdP_len h; simp; omega) (by decide) (fun _ h => List.mem_cons_of_mem _ (List.mem_append_left _ h)) rfl) ?_ SWz.no
      rintro _ ⟨A7, F7, c7, rfl⟩
      refine SWz.efe (i := 5) rfl (Ef.storeV 2 rfl rfl rfl (by kernel_rfl) rfl (List.mem_cons_of_mem _ (List.mem_append_right _ (List.mem_cons_self)))) ?_ SWz.no
      rintro _ rfl
      refine SWz.nil ?_
      exact SN.meet ⟨⟨A7, c7, F7⟩, rfl⟩ (⟨⟨_, rfl, trivial⟩, [3, 0, 1, 2, 4], by decide, ⟨⟨_, rfl, LeAll.refl _⟩, ⟨⟨_, rfl, LeAll.refl _⟩, ⟨⟨_, rfl, LeAll.refl _⟩, ⟨⟨_, rfl, LeAll.refl _⟩, ⟨⟨_, rfl, LeR.refl _⟩, trivial⟩⟩⟩⟩⟩⟩)
    refine SWz.efe (i := 3) rfl (Ef.callR [0] (con_part gr b k 0 hb lim hl q m h) rfl ⟨Le.refl _, Le.refl _, trivial⟩ (by decide) ⟨⟨_, rfl, LeAll.refl _⟩, trivial⟩ (fin_c (List.mem_cons_self) fin_nil) rfl) ?_ SWz.no
    rintro _ ⟨⟨⟩, rfl⟩
    refine SWz.efn (i := 0) rfl (Ef.ofRd (Rd.loadB 2 rfl rfl rfl (by kernel_rfl) ap_nil) rfl) ?_ SWz.no
    rintro _ rfl
    refine SWz.efe (i := 4) rfl (Ef.appT 3 1 1 rfl rfl (SrcT.b rfl) (by kernel_rfl) (by kernel_rfl) (by have h2 := rdP_len h; simp; omega) (by decide) (fun _ h => List.mem_cons_of_mem _ (List.mem_append_left _ h)) rfl) ?_ SWz.no
    rintro _ ⟨A7, F7, c7, rfl⟩
    refine SWz.efe (i := 5) rfl (Ef.storeV 2 rfl rfl rfl (by kernel_rfl) rfl (List.mem_cons_of_mem _ (List.mem_append_right _ (List.mem_cons_self)))) ?_ SWz.no
    rintro _ rfl
    refine SWz.nil ?_
    exact SN.meet ⟨⟨A7, c7, F7⟩, rfl⟩ (⟨⟨_, rfl, trivial⟩, [3, 0, 1, 2, 4], by decide, ⟨⟨_, rfl, LeAll.refl _⟩, ⟨⟨_, rfl, LeAll.refl _⟩, ⟨⟨_, rfl, LeAll.refl _⟩, ⟨⟨_, rfl, LeAll.refl _⟩, ⟨⟨_, rfl, LeR.refl _⟩, trivial⟩⟩⟩⟩⟩⟩)
  · rintro _ ⟨t, rfl⟩
    refine SN.retR (fn := Tryd.f97) (t) [0, 1, 2, 3, 4] (Rs.none rfl) (by decide) ⟨⟨_, rfl, LeAll.refl _⟩, ⟨⟨_, rfl, LeAll.refl _⟩, ⟨⟨_, rfl, LeAll.refl _⟩, ⟨⟨_, rfl, LeAll.refl _⟩, ⟨⟨_, rfl, LeR.refl _⟩, trivial⟩⟩⟩⟩⟩
set_option maxHeartbeats 4000000 in
set_option maxRecDepth 100000 in
theorem con_clBytes_bad (gr gp gl gn : Nat) (b : List UInt8) (k : Nat) (hb : b.length ≤ 1000000) (lim : Int) (hl : 0 ≤ lim) (E : Int) (h : (rdP lim) (b.drop k) = .error E) : ConPR Tryd.prog 97 [.c gr [iD 0, boolD true, bD b, iD ((k : Nat) : Int)], .c gp [isD (.pointer (some ⟨gr, 0, none⟩))], .c gl [iD lim], .c gn [isD (.slice none 0 0)]] [isD (.pointer (some ⟨gn, 0, none⟩)), isD (.pointer (some ⟨gp, 0, none⟩)), isD (.pointer (some ⟨gl, 0, none⟩))] (fun q : Nat => [.c gr [iD 0, boolD true, bD b, iD ((q : Nat) : Int)], .c gp [isD (.pointer (some ⟨gr, 0, none⟩))], .c gl [iD lim], .c gn [isD (.slice none 0 0)]]) (errP E) := by
  refine con_ofPR Tryd.func97 (by kernel_rfl) rfl (by kernel_rfl) fun base w0 => ?_
  refine SW.meet (fun _ => False) ?_ ?_
  · refine SW.draw (gn :: []) (.r 1 (.r 2 (.n 0 (.e 3 (.e 4 (.e 5 .fin .no) .no) .no) (.e 3 (.n 0 (.e 4 (.e 5 .fin .no) .no) .no) .no)))) (by kernel_rfl) (by kernel_rfl) (fun d _ _ _ _ h => by cases d <;> exact h) ?_
    refine SWz.rd (i := 1) rfl rfl (Rd.loadB 1 rfl rfl rfl (by kernel_rfl) (ap_cons 3 rfl (by decide) ap_nil)) ?_
    refine SWz.rd (i := 2) rfl rfl (Rd.loadB 2 rfl rfl rfl (by kernel_rfl) (ap_cons 3 rfl (by decide) ap_nil)) ?_
    refine SWz.efn (i := 0) rfl (Ef.ofRd (Rd.loadB 3 rfl rfl rfl (by kernel_rfl) ap_nil) rfl) ?_ ?_
    · rintro _ rfl
      refine SWz.callPR (i0 := 3) rfl [0] (con_part_bad gr b k 0 hb lim hl E h) rfl (by exact ⟨Le.refl _, Le.refl _, trivial⟩) (by decide) (by exact ⟨⟨_, rfl, LeAll.refl _⟩, trivial⟩) ?_ SWz.no
      intro q
      repeat (first | refine SP.then ?_ | refine SP.block ?_)
      exact SP.fnR (q) [3, 0, 1, 2] (by decide) ⟨⟨_, rfl, LeAll.refl _⟩, ⟨⟨_, rfl, LeAll.refl _⟩, ⟨⟨_, rfl, LeAll.refl _⟩, ⟨⟨_, rfl, LeAll.refl _⟩, trivial⟩⟩⟩⟩
    refine SWz.callPR (i0 := 3) rfl [0] (con_part_bad gr b k 0 hb lim hl E h) rfl (by exact ⟨Le.refl _, Le.refl _, trivial⟩) (by decide) (by exact ⟨⟨_, rfl, LeAll.refl _⟩, trivial⟩) ?_ SWz.no
    intro q
    repeat (first | refine SP.then ?_ | refine SP.block ?_)
    exact SP.fnR (q) [3, 0, 1, 2] (by decide) ⟨⟨_, rfl, LeAll.refl _⟩, ⟨⟨_, rfl, LeAll.refl _⟩, ⟨⟨_, rfl, LeAll.refl _⟩, ⟨⟨_, rfl, LeAll.refl _⟩, trivial⟩⟩⟩⟩
  · rintro _ h; exact h.elim
end Sx
end Go.Proofs.YtchbgfgboogniaaDoor
