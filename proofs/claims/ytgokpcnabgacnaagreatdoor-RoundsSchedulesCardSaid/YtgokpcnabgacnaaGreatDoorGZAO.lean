/- WIRE: the writer. WIRE: numbers and bytes read, in plain terms. CALLS THAT PANIC and are lent boxes, in the words of Sy. Over any program. Slices of wh -/
import Derived.Test.YtgokpcnabgacnaaGreatDoorGZAN
import Derived.Test.YtgokpcnabgacnaaGreatDoorGZAG
import Derived.Test.YtgokpcnabgacnaaGreatDoorGZAE
set_option maxHeartbeats 8000000
set_option maxRecDepth 100000
namespace Go.Proofs.YtgokpcnabgacnaaGreatDoor
open Go.RowKit
namespace Sx
theorem con_wUint (gw : Nat) (t : Ust) (o : List UInt8) (n : Nat) (hn : n ≤ 9223372036854775807) (ho : o.length + 10 ≤ 65536) : ConR Tryz.prog 73 [.c gw [iD 0, isD (.slice t.A (o).length t.c)], .r t.F (yb 5 1 Z2 t.A t.c (o))] [pA gw, iD (n : Int)] (fun s : Ust => [.c gw [iD 0, isD (.slice s.A (o ++ grp n).length s.c)], .r s.F (yb 5 1 Z2 s.A s.c (o ++ grp n))]) (fun s : Ust => isD (.tuple #[])) := by
 refine zY Tryz.func73 k9 rfl k9 fun base w0 => (zh (zh (zb (za rfl (zd rfl) (zk (S := []) (zA [0, 1] (con_ready o) rfl ⟨(yL 0 rfl d9 ⟨(zr (zf _)), (sees_vecB 1 rfl d9), trivial⟩), trivial⟩ rfl) ?_)))))
 rintro _ rfl
 refine za rfl (yU rfl) (zg (zc (zE rfl (rfl) (zu (zc (zh (zh (zb (za rfl (zd rfl) (za rfl (yG rfl rfl) (zg (zc (zE rfl s9 (zu (zc (zb (za rfl (zd rfl) (za rfl (zd rfl) (za rfl (zw rfl) (za rfl (zi (n := 1) rfl k9) (za rfl (zl 0 rfl rfl rfl k9 zp) (za rfl (zd rfl) (za rfl (Rd.cvW (r := (n : Int)) .i64 rfl k9 k9 (u64_w o9 o9)) (zk (zB [1] (con_groups o t.A t.c t.F n o9 o9) rfl ⟨zf _, zf _, trivial⟩ d9 ⟨lR rfl, trivial⟩ (fun _ h => h) rfl) ?_))))))))))))))))))))))))
 rintro _ ⟨sg, rfl⟩
 refine zk (zB [0] (con_keep gw (.slice t.A o.length t.c) sg.A _ sg.c (by have := ZR (n := n) o9; simp only [List.length_append]; omega)) rfl ⟨zf _, zf _, trivial⟩ d9 ⟨la rfl, trivial⟩ (fun _ h => h) rfl) ?_
 rintro _ ⟨⟨⟩, rfl⟩
 refine zg ?_
 refine Zx (fn := Tryz.f73) (sg) [1, 0] (Rs.none rfl) d9 (sX rfl)
theorem con_textS (gw : Nat) (t : Ust) (o : List UInt8) (b : List UInt8) (hb : o.length + b.length + 10 ≤ 65536) : ConR Tryz.prog 200 [.c gw [iD 0, isD (.slice t.A (o).length t.c)], .r t.F (yb 5 1 Z2 t.A t.c (o))] [pA gw, yt b] (fun s : Ust => [.c gw [iD 0, isD (.slice s.A (o ++ strE b).length s.c)], .r s.F (yb 5 1 Z2 s.A s.c (o ++ strE b))]) (fun s : Ust => isD (.tuple #[])) := by
 refine zY Tryz.func200 k9 rfl k9 fun base w0 => (zh (zh (zb (za rfl (zd rfl) (zk (S := []) (zA [0, 1] (con_ready o) rfl ⟨(yL 0 rfl d9 ⟨(zr (zf _)), (sees_vecB 1 rfl d9), trivial⟩), trivial⟩ rfl) ?_)))))
 rintro _ rfl
 refine za rfl (yU rfl) (zg (zc (zE rfl (rfl) (zu (zc (zh (zh (zb (za rfl (zd rfl) (za rfl (Rd.lenb rfl k9) (za rfl (ZZ rfl rfl) (zg (zc (zE rfl (by simp; omega) (zu (zc (zb (za rfl (zd rfl) (za rfl (zd rfl) (za rfl (zw rfl) (za rfl (zi (n := 1) rfl k9) (za rfl (zl 0 rfl rfl rfl k9 zp) (za rfl (zd rfl) (za rfl (Rd.lenb rfl k9) (za rfl (Rd.cvW (r := ((b.length : Nat) : Int)) .i64 rfl k9 k9 (by exact u64_w o9 o9)) (zk (zB [1] (con_groups o t.A t.c t.F b.length o9 o9) rfl ⟨zf _, zf _, trivial⟩ d9 ⟨lR rfl, trivial⟩ (fun _ h => h) rfl) ?_))))))))))))))))))))))))))
 rintro _ ⟨sg, rfl⟩
 refine za rfl (zd rfl) (zk (Ef.appStr (e := 5) 1 rfl rfl rfl k9 k9 k9 k9 (by have := ZR (n := b.length) o9; simp only [List.length_append]; omega) (fun _ h => h) rfl) ?_)
 rintro _ ⟨A24, F24, c24, rfl⟩
 refine zk (zB [0] (con_keep gw (.slice t.A o.length t.c) (⟨A24, c24, F24⟩ : Ust).A _ (⟨A24, c24, F24⟩ : Ust).c (by have := ZR (n := b.length) o9; simp only [List.length_append]; omega)) rfl ⟨zf _, zf _, trivial⟩ d9 ⟨la rfl, trivial⟩ (fun _ h => h) rfl) ?_
 rintro _ ⟨⟨⟩, rfl⟩
 refine zg ?_
 refine Zx (fn := Tryz.f200) (⟨A24, c24, F24⟩) [1, 0] (Rs.none rfl) d9 ⟨⟨_, rfl, ⟨zf _, zC (by rw [strE, List.append_assoc]), trivial⟩⟩, ⟨⟨_, rfl, ZN (by rw [strE, List.append_assoc]) (by rw [strE, List.append_assoc])⟩, trivial⟩⟩
theorem con_textB (gw : Nat) (t : Ust) (o : List UInt8) (b : List UInt8) (hb : o.length + b.length + 10 ≤ 65536) : ConR Tryz.prog 130 [.c gw [iD 0, isD (.slice t.A (o).length t.c)], .r t.F (yb 5 1 Z2 t.A t.c (o))] [pA gw, bD b] (fun s : Ust => [.c gw [iD 0, isD (.slice s.A (o ++ strE b).length s.c)], .r s.F (yb 5 1 Z2 s.A s.c (o ++ strE b))]) (fun s : Ust => isD (.tuple #[])) := by
 refine zY Tryz.func130 k9 rfl k9 fun base w0 => (zh (zh (zb (za rfl (zd rfl) (zk (S := []) (zA [0, 1] (con_ready o) rfl ⟨(yL 0 rfl d9 ⟨(zr (zf _)), (sees_vecB 1 rfl d9), trivial⟩), trivial⟩ rfl) ?_)))))
 rintro _ rfl
 refine za rfl (yU rfl) (zg (zc (zE rfl (rfl) (zu (zc (zh (zh (zb (za rfl (zd rfl) (za rfl (Rd.len (e := 5) rfl k9) (za rfl (ZZ rfl rfl) (zg (zc (zE rfl (by simp; omega) (zu (zc (zb (za rfl (zd rfl) (za rfl (zd rfl) (za rfl (zw rfl) (za rfl (zi (n := 1) rfl k9) (za rfl (zl 0 rfl rfl rfl k9 zp) (za rfl (zd rfl) (za rfl (Rd.len (e := 5) rfl k9) (za rfl (Rd.cvW (r := ((b.length : Nat) : Int)) .i64 rfl k9 k9 (by rw [zv]; exact u64_w o9 o9)) (zk (zB [1] (con_groups o t.A t.c t.F b.length o9 o9) rfl ⟨zf _, zf _, trivial⟩ d9 ⟨lR rfl, trivial⟩ (fun _ h => h) rfl) ?_))))))))))))))))))))))))))
 rintro _ ⟨sg, rfl⟩
 refine za rfl (zd rfl) (zk (Za 1 1 1 rfl rfl (SrcT.b rfl) k9 k9 (by have := ZR (n := b.length) o9; simp only [List.length_append]; omega) d9 (fun _ h => h) rfl) ?_)
 rintro _ ⟨A24, F24, c24, rfl⟩
 refine zk (zB [0] (con_keep gw (.slice t.A o.length t.c) (⟨A24, c24, F24⟩ : Ust).A _ (⟨A24, c24, F24⟩ : Ust).c (by have := ZR (n := b.length) o9; simp only [List.length_append]; omega)) rfl ⟨zf _, zf _, trivial⟩ d9 ⟨la rfl, trivial⟩ (fun _ h => h) rfl) ?_
 rintro _ ⟨⟨⟩, rfl⟩
 refine zg ?_
 refine Zx (fn := Tryz.f130) (⟨A24, c24, F24⟩) [1, 0] (Rs.none rfl) d9 ⟨⟨_, rfl, ⟨zf _, zC (by rw [strE, List.append_assoc]), trivial⟩⟩, ⟨⟨_, rfl, ZN (by rw [strE, List.append_assoc]) (by rw [strE, List.append_assoc])⟩, trivial⟩⟩
theorem con_wString (gw : Nat) (t : Ust) (o : List UInt8) (b : List UInt8) (hb : o.length + b.length + 10 ≤ 65536) : ConR Tryz.prog 166 [.c gw [iD 0, isD (.slice t.A (o).length t.c)], .r t.F (yb 5 1 Z2 t.A t.c (o))] [pA gw, yt b] (fun s : Ust => [.c gw [iD 0, isD (.slice s.A (o ++ strE b).length s.c)], .r s.F (yb 5 1 Z2 s.A s.c (o ++ strE b))]) (fun s : Ust => isD (.tuple #[])) := by
 refine zY Tryz.func166 k9 rfl k9 fun base w0 => (zb (za rfl (zd rfl) (za rfl (zd rfl) (zk (zB [0, 1] (con_textS gw t o b hb) rfl ⟨zf _, zf _, trivial⟩ d9 (sX rfl) (fun _ h => h) rfl) ?_))))
 rintro _ ⟨s6, rfl⟩
 refine zg ?_
 refine Zx (fn := Tryz.f166) (s6) [0, 1] (Rs.none rfl) d9 (sX rfl)
theorem con_wBytes (gw : Nat) (t : Ust) (o : List UInt8) (b : List UInt8) (hb : o.length + b.length + 10 ≤ 65536) : ConR Tryz.prog 74 [.c gw [iD 0, isD (.slice t.A (o).length t.c)], .r t.F (yb 5 1 Z2 t.A t.c (o))] [pA gw, bD b] (fun s : Ust => [.c gw [iD 0, isD (.slice s.A (o ++ strE b).length s.c)], .r s.F (yb 5 1 Z2 s.A s.c (o ++ strE b))]) (fun s : Ust => isD (.tuple #[])) := by
 refine zY Tryz.func74 k9 rfl k9 fun base w0 => (zb (za rfl (zd rfl) (za rfl (zd rfl) (zk (zB [0, 1] (con_textB gw t o b hb) rfl ⟨zf _, zf _, trivial⟩ d9 (sX rfl) (fun _ h => h) rfl) ?_))))
 rintro _ ⟨s6, rfl⟩
 refine zg ?_
 refine Zx (fn := Tryz.f74) (s6) [0, 1] (Rs.none rfl) d9 (sX rfl)
theorem con_wEnd (gw : Nat) (t : Ust) (o : List UInt8) (ho : o.length ≤ 65536) : ConR Tryz.prog 125 [.c gw [iD 0, isD (.slice t.A (o).length t.c)], .r t.F (yb 5 1 Z2 t.A t.c (o))] [pA gw] (fun _ : Unit => [.c gw [iD 0, isD (.slice t.A (o).length t.c)], .r t.F (yb 5 1 Z2 t.A t.c (o))]) (fun _ : Unit => tupD [bD o, iD 0]) := by
 refine zY Tryz.func125 k9 rfl k9 fun base w0 => (zh (zb (za rfl (ze rfl) (za rfl (ze rfl) (zg (zc (zh (zh (zb (za rfl (zd rfl) (za rfl (Z0 rfl rfl k9) (zg (zc (zE rfl (rfl) (zu (zc (zh (zh (zb (za rfl (zd rfl) (za rfl (zw rfl) (za rfl (zi (n := 0) rfl k9) (za rfl (zi (n := 0) rfl k9) (za rfl (zl 0 rfl rfl rfl k9 zp) (za rfl (yd rfl rfl) (zg (zc (zE rfl d9 (zu (zc (zh (SW.vecN 5 1 Z2 (zb (za rfl (zd rfl) (za rfl (zw rfl) (za rfl (zi (n := 1) rfl k9) (za rfl (zl 0 rfl rfl rfl k9 zp) (zk (Za 2 1 1 rfl rfl (SrcT.vec 1 rfl rfl) k9 k9 (by simp <;> omega) d9 (fun _ h => h) rfl) ?_))))))))))))))))))))))))))))))))))))))
 rintro _ ⟨A21, F21, c21, rfl⟩
 refine za rfl (ze rfl) (za rfl (ze rfl) (zg (zc (SW.freezeT 2 2 rfl rfl (le_ls_b _) ?_))))
 refine zS (fn := Tryz.f125) (()) [0, 1] (fun _ _ h => h) (Rs.two rfl (zo rfl) (zo rfl)) d9 (sX rfl)
end Sx
end Go.Proofs.YtgokpcnabgacnaaGreatDoor
namespace Go.Proofs.YtgokpcnabgacnaaGreatDoor
open Go.RowKit
namespace Sx
theorem u8_lt {c : UInt8} : c.toNat < 256 := c.toNat_lt
def rdg : Nat → Bool → List UInt8 → Except Int (Nat × Nat)
 | 0, _, _ => .error 6
 | _ + 1, _, [] => .error 4
 | j + 1, fst, c :: p => if c.toNat < 128 then (if c.toNat = 0 ∧ fst = false then .error 6 else .ok (c.toNat, 1)) else match rdg j false p with
  | .error e => .error e
  | .ok (n, m) => .ok (c.toNat - 128 + 128 * n, m + 1)
theorem rdg_zero (f : Bool) (p : List UInt8) : rdg 0 f p = .error 6 := by cases p <;> rfl
def GInv (b : List UInt8) (k N M i a : Nat) : Prop := i ≤ 9 ∧ a < 128 ^ i ∧ ∃ n m, rdg (9 - i) (decide (i = 0)) (b.drop (k + i)) = .ok (n, m) ∧ a + 128 ^ i * n = N ∧ i + m = M
theorem GInv.start {b : List UInt8} {k N M : Nat} (h : rdg 9 true (b.drop k) = .ok (N, M)) : GInv b k N M 0 0 := ⟨by omega, by decide, N, M, h, by simp, by simp⟩
theorem GInv.step {b : List UInt8} {k N M i a : Nat} (h : GInv b k N M i a) : i < 9 ∧ ∃ c, b[k + i]? = some c ∧
  ((c.toNat < 128 ∧ ¬ (c.toNat = 0 ∧ 0 < i) ∧ a + 128 ^ i * (c.toNat % 128) = N ∧ i + 1 = M) ∨ (¬ c.toNat < 128 ∧ GInv b k N M (i + 1) (a + 128 ^ i * (c.toNat % 128)))) := by
 obtain ⟨hi, ha, n, m, hr, hn, hm⟩ := h
 have hi9 : i < 9 := by
  rcases Nat.lt_or_ge i 9 with h | h
  ·exact h
  ·rw [show 9 - i = 0 by omega, rdg_zero] at hr; cases hr
 refine ⟨hi9, ?_⟩
 rw [show 9 - i = (8 - i) + 1 by omega] at hr
 rcases hd : b.drop (k + i) with _ | ⟨c, p⟩
 ·rw [hd] at hr; cases hr
 have hc : b[k + i]? = some c := by
  have := congrArg (fun l => l[0]?) hd
  simpa using this
 have hp : b.drop (k + (i + 1)) = p := by
  have h2 : (b.drop (k + i)).drop 1 = p := by rw [hd]; rfl
  rw [List.drop_drop] at h2
  exact h2
 refine ⟨c, hc, ?_⟩
 rw [hd] at hr
 unfold rdg at hr
 have hcl := u8_lt (c := c)
 by_cases h8 : c.toNat < 128
 ·left
  rw [if_pos h8] at hr
  by_cases h0 : c.toNat = 0 ∧ decide (i = 0) = false
  ·rw [if_pos h0] at hr; cases hr
  ·rw [if_neg h0] at hr
   injection hr with hr
   injection hr with h1 h2
   subst h1 h2
   rw [Nat.mod_eq_of_lt h8]
   refine ⟨h8, fun h => h0 ⟨h.1, by simp; omega⟩, hn, hm⟩
 ·right
  rw [if_neg h8] at hr
  rcases hr2 : rdg (8 - i) false p with e | ⟨n', m'⟩
  ·rw [hr2] at hr; cases hr
  ·rw [hr2] at hr
   injection hr with hr
   injection hr with h1 h2
   subst h1 h2
   have e1 : c.toNat - 128 = c.toNat % 128 := by omega
   have e2 : 128 ^ (i + 1) = 128 ^ i * 128 := Nat.pow_succ 128 i
   refine ⟨h8, by omega, ?_, n', m', ?_, ?_, by omega⟩
   ·have hx : c.toNat % 128 ≤ 127 := by omega
    have := Nat.mul_le_mul_left (128 ^ i) hx
    rw [e2]; omega
   ·rw [show 9 - (i + 1) = 8 - i by omega, hp, show decide (i + 1 = 0) = false by simp]
    exact hr2
   ·rw [← hn, e1, e2, Nat.mul_add, Nat.mul_assoc]; omega
def GBad (b : List UInt8) (k : Nat) (E : Int) (i : Nat) : Prop := i ≤ 9 ∧ rdg (9 - i) (decide (i = 0)) (b.drop (k + i)) = .error E
theorem GBad.start {b : List UInt8} {k : Nat} {E : Int} (h : rdg 9 true (b.drop k) = .error E) : GBad b k E 0 := ⟨by omega, h⟩
theorem GBad.last {b : List UInt8} {k : Nat} {E : Int} {i : Nat} (h : GBad b k E i) (hi : ¬ i < 9) : E = 6 := by
 obtain ⟨h1, h2⟩ := h
 rw [show 9 - i = 0 by omega, rdg_zero] at h2
 injection h2 with h2
 exact h2.symm
theorem GBad.short {b : List UInt8} {k : Nat} {E : Int} {i : Nat} (h : GBad b k E i) (hi : i < 9) (hs : b.length ≤ k + i) : E = 4 := by
 obtain ⟨h1, h2⟩ := h
 rw [show 9 - i = (8 - i) + 1 by omega, List.drop_eq_nil_of_le hs] at h2
 injection h2 with h2
 exact h2.symm
theorem GBad.step {b : List UInt8} {k : Nat} {E : Int} {i : Nat} {c : UInt8} (h : GBad b k E i) (hi : i < 9) (hc : b[k + i]? = some c) : (c.toNat < 128 ∧ c.toNat = 0 ∧ 0 < i ∧ E = 6) ∨ (¬ c.toNat < 128 ∧ GBad b k E (i + 1)) := by
 obtain ⟨h1, h2⟩ := h
 have hl := (List.getElem?_eq_some_iff.1 hc).1
 have hd : b.drop (k + i) = c :: b.drop (k + (i + 1)) := by
  rw [List.drop_eq_getElem_cons hl, (List.getElem?_eq_some_iff.1 hc).2]; rfl
 rw [show 9 - i = (8 - i) + 1 by omega, hd] at h2
 unfold rdg at h2
 by_cases h8 : c.toNat < 128
 ·rw [if_pos h8] at h2
  by_cases h0 : c.toNat = 0 ∧ decide (i = 0) = false
  ·rw [if_pos h0] at h2
   injection h2 with h2
   exact .inl ⟨h8, h0.1, by have := h0.2; simp at this; omega, h2.symm⟩
  ·rw [if_neg h0] at h2; cases h2
 ·rw [if_neg h8] at h2
  refine .inr ⟨h8, by omega, ?_⟩
  rcases hr : rdg (8 - i) false (b.drop (k + (i + 1))) with e | ⟨n', m'⟩
  ·rw [hr] at h2
   injection h2 with h2
   subst h2
   rw [show 9 - (i + 1) = 8 - i by omega, show decide (i + 1 = 0) = false by simp]
   exact hr
  ·rw [hr] at h2; cases h2
def rdC (lim : Int) (p : List UInt8) : Except Int (Nat × Nat) := match rdg 9 true p with
 | .error e => .error e
 | .ok (n, m) => if lim < (n : Int) then .error 7 else .ok (n, m)
def rdP (lim : Int) (p : List UInt8) : Except Int (List UInt8 × Nat) := match rdC lim p with
 | .error e => .error e
 | .ok (n, m) => if p.length < m + n then .error 4 else .ok ((p.drop m).take n, m + n)
end Sx
end Go.Proofs.YtgokpcnabgacnaaGreatDoor
namespace Go.Proofs.YtgokpcnabgacnaaGreatDoor
open Go.RowKit
namespace Sx
section
variable {P : Program} {Γ : Cx} {σ σ' : St} {Q : Exit → Act → World → Prop} {a : Act} {w : World} {ops : Array Oper} {rest : List Oper} {S : List Nat} {dst : Option Tmp} {ty : TypeId} {pos : String} {af : Array Edge} {gd : Option (Nat × Bool)}
end
end Sx
end Go.Proofs.YtgokpcnabgacnaaGreatDoor
namespace Go.Proofs.YtgokpcnabgacnaaGreatDoor
open Go.RowKit
namespace Sx
section
variable {P : Program} {Γ : Cx} {σ : St} {S : List Nat} {dst : Option Tmp} {ty : TypeId} {pos : String} {af : Array Edge} {gd : Option (Nat × Bool)} {d d' : D}
end
end Sx
end Go.Proofs.YtgokpcnabgacnaaGreatDoor
namespace Go.Proofs.YtgokpcnabgacnaaGreatDoor
open Go.RowKit
namespace Sx
end Sx
end Go.Proofs.YtgokpcnabgacnaaGreatDoor
namespace Go.Proofs.YtgokpcnabgacnaaGreatDoor
open Go.RowKit
namespace Sx
section
variable {P : Program} {Γ : Cx} {σ : St} {S : List Nat} {dst : Option Tmp} {ty : TypeId} {pos : String} {af : Array Edge} {gd : Option (Nat × Bool)}
end
end Sx
end Go.Proofs.YtgokpcnabgacnaaGreatDoor
