/- LEDGERS: made. LEDGERS: the example. LEDGERS: LedgerProves. LEDGERS: clones of one's own, the iterator. LEDGERS: nothing there. LEDGERS: encodings rea -/
import Derived.Test.YtgokpcnabgacnaaGreatDoorGZAS
import Derived.Test.YtgokpcnabgacnaaGreatDoorGZAH
import Derived.Test.YtgokpcnabgacnaaGreatDoorGZAO
import Derived.Test.YtgokpcnabgacnaaGreatDoorGZAG
import Derived.Laws.Externs
import Derived.MapKept
import Derived.WalkKit
set_option maxHeartbeats 8000000
set_option maxRecDepth 100000
namespace Go.Proofs.YtgokpcnabgacnaaGreatDoor
open Go.RowKit
namespace Sx
namespace Led
end Led
end Sx
end Go.Proofs.YtgokpcnabgacnaaGreatDoor
namespace Go.Proofs.YtgokpcnabgacnaaGreatDoor
open Go.RowKit
namespace Sx
section
variable {P : Program} {Γ : Cx} {σ : St} {Q : Exit → Act → World → Prop}
end
end Sx
end Go.Proofs.YtgokpcnabgacnaaGreatDoor
namespace Go.Proofs.YtgokpcnabgacnaaGreatDoor
open Go.RowKit
namespace Sx
end Sx
end Go.Proofs.YtgokpcnabgacnaaGreatDoor
namespace Go.Proofs.YtgokpcnabgacnaaGreatDoor
open Go.RowKit
namespace Sx
section
variable {P : Program} {Γ : Cx} {σ : St} {Q : Exit → Act → World → Prop} {a : Act} {w : World}
end
end Sx
end Go.Proofs.YtgokpcnabgacnaaGreatDoor
namespace Go.Proofs.YtgokpcnabgacnaaGreatDoor
open Go.RowKit
namespace Sx
end Sx
end Go.Proofs.YtgokpcnabgacnaaGreatDoor
namespace Go.Proofs.YtgokpcnabgacnaaGreatDoor
open Go.RowKit
namespace Sx
section
variable {P : Program} {Γ : Cx} {σ : St} {S : List Nat} {d d' : D}
end
namespace Led
def rd4 (b : List UInt8) : Nat := (b.getD 1 0).toNat * 16777216 + (b.getD 2 0).toNat * 65536 + (b.getD 3 0).toNat * 256 + (b.getD 4 0).toNat
def dec1 (b : List UInt8) (c : Nat) : Except Int (Go.Proofs.YtgokpcnabgacnaaGreatDoor.Led.Ent × List UInt8) :=
 if 4096 ≤ c then .error 7 else if b.length < 5 then .error 4 else if 65536 < rd4 b then .error 6 else if b.length < 5 + rd4 b then .error 4 else .ok (⟨((b.getD 0 0).toNat : Int), (b.take (5 + rd4 b)).drop 5⟩, b.drop (5 + rd4 b))
def decF : Nat → List Go.Proofs.YtgokpcnabgacnaaGreatDoor.Led.Ent → List UInt8 → Except Int (List Go.Proofs.YtgokpcnabgacnaaGreatDoor.Led.Ent)
 | 0, es, _ => .ok es
 | n + 1, es, b => if b = [] then .ok es else match dec1 b es.length with
  | .error k => .error k
  | .ok (e, r) => decF n (es ++ [e]) r
def decs (b : List UInt8) : Except Int (List Go.Proofs.YtgokpcnabgacnaaGreatDoor.Led.Ent) := decF b.length [] b
theorem dec1_full {b : List UInt8} {c : Nat} (h : 4096 ≤ c) : dec1 b c = .error 7 := if_pos h
theorem dec1_short {b : List UInt8} {c : Nat} (h : ¬ 4096 ≤ c) (h2 : b.length < 5) : dec1 b c = .error 4 := by rw [dec1, if_neg h, if_pos h2]
theorem dec1_form {b : List UInt8} {c : Nat} (h : ¬ 4096 ≤ c) (h2 : ¬ b.length < 5) (h3 : 65536 < rd4 b) : dec1 b c = .error 6 := by rw [dec1, if_neg h, if_neg h2, if_pos h3]
theorem dec1_short2 {b : List UInt8} {c : Nat} (h : ¬ 4096 ≤ c) (h2 : ¬ b.length < 5) (h3 : ¬ 65536 < rd4 b) (h4 : b.length < 5 + rd4 b) : dec1 b c = .error 4 := by rw [dec1, if_neg h, if_neg h2, if_neg h3, if_pos h4]
theorem dec1_ok {b : List UInt8} {c : Nat} (h : ¬ 4096 ≤ c) (h2 : ¬ b.length < 5) (h3 : ¬ 65536 < rd4 b) (h4 : ¬ b.length < 5 + rd4 b) : dec1 b c = .ok (⟨((b.getD 0 0).toNat : Int), (b.take (5 + rd4 b)).drop 5⟩, b.drop (5 + rd4 b)) := by rw [dec1, if_neg h, if_neg h2, if_neg h3, if_neg h4]
theorem five : ∀ {b : List UInt8}, ¬ b.length < 5 → ∃ x0 x1 x2 x3 x4 t, b = x0 :: x1 :: x2 :: x3 :: x4 :: t
 | x0 :: x1 :: x2 :: x3 :: x4 :: t, _ => ⟨x0, x1, x2, x3, x4, t, rfl⟩
 | [], h => by simp at h
 | [_], h => by simp at h
 | [_, _], h => by simp at h
 | [_, _, _], h => by simp at h
 | [_, _, _, _], h => by simp at h
theorem enc_rd (x0 x1 x2 x3 x4 : UInt8) (t : List UInt8) (n : Nat) (hr : n = x1.toNat * 16777216 + x2.toNat * 65536 + x3.toNat * 256 + x4.toNat) (hle : n ≤ t.length) : x0 :: x1 :: x2 :: x3 :: x4 :: t = encF ⟨(x0.toNat : Int), t.take n⟩ ++ t.drop n := by
 have b1 := x1.toNat_lt
 have b2 := x2.toNat_lt
 have b3 := x3.toNat_lt
 have b4 := x4.toNat_lt
 have hlen : (t.take n).length = n := by rw [List.length_take]; omega
 have e1 : UInt8.ofNat (n / 16777216) = x1 := by
  apply UInt8.toNat_inj.1; rw [UInt8.toNat_ofNat']; omega
 have e2 : UInt8.ofNat (n / 65536) = x2 := by
  apply UInt8.toNat_inj.1; rw [UInt8.toNat_ofNat']; omega
 have e3 : UInt8.ofNat (n / 256) = x3 := by
  apply UInt8.toNat_inj.1; rw [UInt8.toNat_ofNat']; omega
 have e4 : UInt8.ofNat n = x4 := by
  apply UInt8.toNat_inj.1; rw [UInt8.toNat_ofNat']; omega
 have e0 : UInt8.ofNat ((x0.toNat : Int).toNat) = x0 := by simp
 unfold encF be4
 simp only [hlen, e0, e1, e2, e3, e4, List.cons_append, List.nil_append, List.take_append_drop]
theorem dec1_inv {b r : List UInt8} {c : Nat} {e : Go.Proofs.YtgokpcnabgacnaaGreatDoor.Led.Ent} (h : dec1 b c = .ok (e, r)) : c < 4096 ∧ ¬ b.length < 5 ∧ rd4 b ≤ 65536 ∧ 5 + rd4 b ≤ b.length ∧ e = ⟨((b.getD 0 0).toNat : Int), (b.take (5 + rd4 b)).drop 5⟩ ∧ r = b.drop (5 + rd4 b) := by
 by_cases h1 : 4096 ≤ c
 ·rw [dec1_full h1] at h; cases h
 by_cases h2 : b.length < 5
 ·rw [dec1_short h1 h2] at h; cases h
 by_cases h3 : 65536 < rd4 b
 ·rw [dec1_form h1 h2 h3] at h; cases h
 by_cases h4 : b.length < 5 + rd4 b
 ·rw [dec1_short2 h1 h2 h3 h4] at h; cases h
 rw [dec1_ok h1 h2 h3 h4] at h
 injection h with h
 injection h with h5 h6
 exact ⟨by omega, h2, by omega, by omega, h5.symm, h6.symm⟩
theorem take5 (x0 x1 x2 x3 x4 : UInt8) (t : List UInt8) (n : Nat) : ((x0 :: x1 :: x2 :: x3 :: x4 :: t).take (5 + n)).drop 5 = t.take n := by
 rw [Nat.add_comm 5 n, List.drop_take]
 simp
theorem drop5 (x0 x1 x2 x3 x4 : UInt8) (t : List UInt8) (n : Nat) : (x0 :: x1 :: x2 :: x3 :: x4 :: t).drop (5 + n) = t.drop n := by
 rw [← List.drop_drop]
 simp
theorem dec1_spec {b r : List UInt8} {c : Nat} {e : Go.Proofs.YtgokpcnabgacnaaGreatDoor.Led.Ent} (h : dec1 b c = .ok (e, r)) : c < 4096 ∧ Led.Ent.fit e ∧ b = encF e ++ r := by
 obtain ⟨h1, h2, h3, h4, h5, h6⟩ := dec1_inv h
 obtain ⟨x0, x1, x2, x3, x4, t, rfl⟩ := five h2
 have hr : rd4 (x0 :: x1 :: x2 :: x3 :: x4 :: t) = x1.toNat * 16777216 + x2.toNat * 65536 + x3.toNat * 256 + x4.toNat := by simp [rd4]
 generalize hn : rd4 (x0 :: x1 :: x2 :: x3 :: x4 :: t) = n at h3 h4 h5 h6 hr
 have ht := take5 x0 x1 x2 x3 x4 t n
 have hd := drop5 x0 x1 x2 x3 x4 t n
 have hle : n ≤ t.length := by simp only [List.length_cons] at h4; omega
 rw [ht] at h5
 rw [hd] at h6
 subst h5 h6
 have b0 := x0.toNat_lt
 refine ⟨h1, ⟨by simp, ?_, ?_⟩, enc_rd x0 x1 x2 x3 x4 t n hr hle⟩
 ·show (x0.toNat : Int) ≤ 255
  omega
 ·show (t.take n).length ≤ 65536
  rw [List.length_take]; omega
theorem decF_nil (n : Nat) (es : List Go.Proofs.YtgokpcnabgacnaaGreatDoor.Led.Ent) : decF n es [] = .ok es := by cases n <;> rfl
theorem decF_step {n : Nat} {es : List Go.Proofs.YtgokpcnabgacnaaGreatDoor.Led.Ent} {b : List UInt8} (h : b ≠ []) : decF (n + 1) es b = match dec1 b es.length with | .error k => .error k | .ok (e, r) => decF n (es ++ [e]) r := by rw [decF, if_neg h]
end Led
end Sx
end Go.Proofs.YtgokpcnabgacnaaGreatDoor
namespace Go.Proofs.YtgokpcnabgacnaaGreatDoor
open Go.RowKit
namespace Sx
section
variable {P : Program} {Γ : Cx} {σ : St} {S : List Nat} {dst : Option Tmp} {ty : TypeId} {pos : String} {af : Array Edge} {gd : Option (Nat × Bool)} {d d' : D} {Q : Exit → Act → World → Prop} {a : Act} {w : World}
end
end Sx
end Go.Proofs.YtgokpcnabgacnaaGreatDoor
namespace Go.Proofs.YtgokpcnabgacnaaGreatDoor
open Go.RowKit
namespace Sx
theorem decF_err {n : Nat} {es : List Led.Ent} {r : List UInt8} {k : Int} (hne : r ≠ []) (hle : r.length ≤ n) (hd : Led.dec1 r es.length = .error k) : Led.decF n es r = .error k := by
 have : 0 < r.length := List.length_pos_iff.2 hne
 obtain ⟨m, rfl⟩ : ∃ m, n = m + 1 := ⟨n - 1, by omega⟩
 rw [Led.decF_step hne, hd]
theorem dec1_len {r r2 : List UInt8} {c : Nat} {e : Led.Ent} (hd : Led.dec1 r c = .ok (e, r2)) : r2.length + 5 ≤ r.length := by
 have := (Led.dec1_spec hd).2.2
 have h2 := congrArg List.length this
 simp [encF, be4] at h2
 omega
theorem decF_more {n : Nat} {es : List Led.Ent} {r r2 : List UInt8} {e : Led.Ent} (hne : r ≠ []) (hle : r.length ≤ n) (hd : Led.dec1 r es.length = .ok (e, r2)) : ∃ m, Led.decF n es r = Led.decF m (es ++ [e]) r2 ∧ r2.length ≤ m := by
 have h0 : 0 < r.length := List.length_pos_iff.2 hne
 obtain ⟨m, rfl⟩ : ∃ m, n = m + 1 := ⟨n - 1, by omega⟩
 have := dec1_len hd
 exact ⟨m, by rw [Led.decF_step hne, hd], by omega⟩
def DInv (b : List UInt8) (es : List Led.Ent) (r : List UInt8) : Prop := es.length ≤ 4096 ∧ (∀ e ∈ es, Led.Ent.fit e) ∧ b = encAll es ++ r ∧ ∃ n, r.length ≤ n ∧ Led.decs b = Led.decF n es r
theorem DInv.start (b : List UInt8) : DInv b [] b := ⟨by simp, by simp, rfl, b.length, Nat.le_refl _, rfl⟩
theorem DInv.err {b r : List UInt8} {es : List Led.Ent} {k : Int} (h : DInv b es r) (hne : r ≠ []) (hd : Led.dec1 r es.length = .error k) : Led.decs b = .error k := by
 obtain ⟨_, _, _, n, h4, h5⟩ := h
 rw [h5, decF_err hne h4 hd]
theorem DInv.fin {b r : List UInt8} {es : List Led.Ent} (h : DInv b es r) (hr : r = []) : Led.decs b = .ok es := by
 obtain ⟨_, _, _, n, h4, h5⟩ := h
 rw [h5, hr, Led.decF_nil]
theorem DInv.next {b r r2 : List UInt8} {es : List Led.Ent} {e : Led.Ent} (h : DInv b es r) (hne : r ≠ []) (hd : Led.dec1 r es.length = .ok (e, r2)) : DInv b (es ++ [e]) r2 := by
 obtain ⟨h1, h2, h3, n, h4, h5⟩ := h
 obtain ⟨h6, h7, h8⟩ := Led.dec1_spec hd
 obtain ⟨m, h9, h10⟩ := decF_more hne h4 hd
 refine ⟨by simp; omega, fun x hx => ?_, ?_, m, h10, by rw [h5, h9]⟩
 ·rcases List.mem_append.1 hx with hx | hx
  ·exact h2 x hx
  ·rw [List.mem_singleton.1 hx]; exact h7
 ·rw [h3, h8]
  simp [encAll]
theorem DInv.len {b r : List UInt8} {es : List Led.Ent} (h : DInv b es r) : r.length ≤ b.length := by
 rw [h.2.2.1]; simp
end Sx
end Go.Proofs.YtgokpcnabgacnaaGreatDoor
namespace Go.Proofs.YtgokpcnabgacnaaGreatDoor
open Go.RowKit
namespace Sx
end Sx
end Go.Proofs.YtgokpcnabgacnaaGreatDoor
namespace Go.Proofs.YtgokpcnabgacnaaGreatDoor
open Go.RowKit
namespace Sx
end Sx
end Go.Proofs.YtgokpcnabgacnaaGreatDoor
namespace Go.Proofs.YtgokpcnabgacnaaGreatDoor
open Go.RowKit
namespace Sx
end Sx
end Go.Proofs.YtgokpcnabgacnaaGreatDoor
namespace Go.Proofs.YtgokpcnabgacnaaGreatDoor
open Go.RowKit
namespace Sx
def IncOK (i n : Nat) (d : List UInt8) (p : List (List UInt8)) (t : List UInt8 × List (List UInt8) × Bool) : Prop :=
 (Led.ver HH i n d p = if t.2.2 = true ∧ t.2.1 = [] then some t.1 else none) ∧ t.1.length ≤ 32 ∧ t.2.1.length ≤ p.length
theorem IncOK.one (i : Nat) (d : List UInt8) (p : List (List UInt8)) (hd : d.length ≤ 32) : IncOK i 1 d p (d, p, true) :=
 ⟨by rw [Led.ver_one]; simp, hd, Nat.le_refl _⟩
theorem IncOK.none {i n : Nat} (d : List UInt8) (h : 2 ≤ n) : IncOK i n d [] ([], [], false) :=
 ⟨by rw [Led.ver_step HH i d [] h]; simp, by simp, by simp⟩
theorem getLast_snoc {p : List (List UInt8)} {x : List UInt8} (hx : p[p.length - 1]? = some x) : p.getLast? = some x := by rw [List.getLast?_eq_getElem?]; exact hx
theorem take_pred (p : List (List UInt8)) : p.take (p.length - 1) = p.dropLast := by rw [List.dropLast_eq_take]
theorem IncOK.left {i n : Nat} {d x : List UInt8} {p : List (List UInt8)} {t : List UInt8 × List (List UInt8) × Bool} (h : 2 ≤ n) (hx : p[p.length - 1]? = some x) (hi : i < Led.bl n) (ht : IncOK i (Led.bl n) d (p.take (p.length - 1)) t) : IncOK i n d p (Led.join HH t.1 x, t.2.1, t.2.2) := by
 obtain ⟨h1, h2, h3⟩ := ht
 rw [take_pred] at h1 h3
 refine ⟨?_, by simp, by simp at h3; simp; omega⟩
 rw [Led.ver_step HH i d p h, getLast_snoc hx]
 simp only
 rw [if_pos hi, h1]
 split <;> rfl
theorem IncOK.right {i n : Nat} {d x : List UInt8} {p : List (List UInt8)} {t : List UInt8 × List (List UInt8) × Bool} (h : 2 ≤ n) (hx : p[p.length - 1]? = some x) (hi : ¬ i < Led.bl n) (ht : IncOK (i - Led.bl n) (n - Led.bl n) d (p.take (p.length - 1)) t) : IncOK i n d p (Led.join HH x t.1, t.2.1, t.2.2) := by
 obtain ⟨h1, h2, h3⟩ := ht
 rw [take_pred] at h1 h3
 refine ⟨?_, by simp, by simp at h3; simp; omega⟩
 rw [Led.ver_step HH i d p h, getLast_snoc hx]
 simp only
 rw [if_neg hi, h1]
 split <;> rfl
end Sx
end Go.Proofs.YtgokpcnabgacnaaGreatDoor
namespace Go.Proofs.YtgokpcnabgacnaaGreatDoor
open Go.RowKit
namespace Sx
theorem Rs.four {P : Program} {Γ : Cx} {σ : St} {fn : Func} {r s t q : ResultVar} {d e f k : D} (h : fn.results = #[r, s, t, q]) (h1 : ResV σ P r d) (h2 : ResV σ P s e) (h3 : ResV σ P t f) (h4 : ResV σ P q k) : Rs P Γ fn σ (Yq [d, e, f, k]) := by
 intro a w hh
 obtain ⟨v, hv, hd⟩ := Yp hh h1
 obtain ⟨u, hu, he⟩ := Yp hh h2
 obtain ⟨z, hz, hf⟩ := Yp hh h3
 obtain ⟨y, hy, hk⟩ := Yp hh h4
 refine ⟨.tuple #[v, u, z, y], ?_, [v, u, z, y], rfl, hd, he, hf, hk, trivial⟩
 have e : results fn a.tmps = (do let x ← loadR a.tmps r; let y ← loadR a.tmps s; let z ← loadR a.tmps t; let l ← loadR a.tmps q; pure (.tuple #[x, y, z, l])) := by cases r <;> cases s <;> cases t <;> cases q <;> simp [results, h, loadR]
 simp [e, hv, hu, hz, hy]
def ConOK (m n : Nat) (o : Bool) (d : List UInt8) (p : List (List UInt8)) (t : List UInt8 × List UInt8 × List (List UInt8) × Bool) : Prop :=
 (Led.con HH m n o d p = if t.2.2.2 = true ∧ t.2.2.1 = [] then some (t.1, t.2.1) else none) ∧ t.1.length ≤ 32 ∧ t.2.1.length ≤ 32 ∧ t.2.2.1.length ≤ p.length
theorem ConOK.same {n : Nat} {o : Bool} (d : List UInt8) (p : List (List UInt8)) (h : 0 < n) (ho : o = true) (hd : d.length ≤ 32) : ConOK n n o d p (d, d, p, true) :=
 ⟨by rw [Led.con_eq HH o d p h, if_pos ho]; simp, hd, hd, Nat.le_refl _⟩
theorem ConOK.none {m n : Nat} {o : Bool} (d : List UInt8) (h0 : 0 < m) (hm : m ≤ n) (h : ¬ (m = n ∧ o = true)) : ConOK m n o d [] ([], [], [], false) := by
 refine ⟨?_, by simp, by simp, by simp⟩
 by_cases h1 : m = n
 ·subst h1
  rw [Led.con_eq HH o d [] h0, if_neg (fun e => h ⟨rfl, e⟩)]
  simp
 ·rw [Led.con_step HH o d [] h0 o9]
  simp
theorem ConOK.last {n : Nat} {o : Bool} {d x : List UInt8} {p : List (List UInt8)} (h : 0 < n) (ho : ¬ o = true) (hx : p[p.length - 1]? = some x) (hl : x.length = 32) : ConOK n n o d p (x, x, p.take (p.length - 1), true) := by
 refine ⟨?_, by simp [hl], by simp [hl], by simp⟩
 rw [Led.con_eq HH o d p h, if_neg ho, getLast_snoc hx, take_pred]
 simp
theorem ConOK.left {m n : Nat} {o : Bool} {d x : List UInt8} {p : List (List UInt8)} {t : List UInt8 × List UInt8 × List (List UInt8) × Bool} (h0 : 0 < m) (h : m < n) (hx : p[p.length - 1]? = some x) (hi : m ≤ Led.bl n) (ht : ConOK m (Led.bl n) o d (p.take (p.length - 1)) t) : ConOK m n o d p (t.1, Led.join HH t.2.1 x, t.2.2.1, t.2.2.2) := by
 obtain ⟨h1, h2, h3, h4⟩ := ht
 rw [take_pred] at h1 h4
 refine ⟨?_, h2, by simp, by simp at h4; simp; omega⟩
 rw [Led.con_step HH o d p h0 h, getLast_snoc hx]
 simp only
 rw [if_pos hi, h1]
 split <;> rfl
theorem ConOK.right {m n : Nat} {o : Bool} {d x : List UInt8} {p : List (List UInt8)} {t : List UInt8 × List UInt8 × List (List UInt8) × Bool} (h0 : 0 < m) (h : m < n) (hx : p[p.length - 1]? = some x) (hi : ¬ m ≤ Led.bl n) (ht : ConOK (m - Led.bl n) (n - Led.bl n) false d (p.take (p.length - 1)) t) : ConOK m n o d p (Led.join HH x t.1, Led.join HH x t.2.1, t.2.2.1, t.2.2.2) := by
 obtain ⟨h1, h2, h3, h4⟩ := ht
 rw [take_pred] at h1 h4
 refine ⟨?_, by simp, by simp, by simp at h4; simp; omega⟩
 rw [Led.con_step HH o d p h0 h, getLast_snoc hx]
 simp only
 rw [if_neg hi, h1]
 split <;> rfl
end Sx
end Go.Proofs.YtgokpcnabgacnaaGreatDoor
namespace Go.Proofs.YtgokpcnabgacnaaGreatDoor
open Go.RowKit
namespace Sx
end Sx
end Go.Proofs.YtgokpcnabgacnaaGreatDoor
namespace Go.Proofs.YtgokpcnabgacnaaGreatDoor
open Go.RowKit
namespace Sx
end Sx
end Go.Proofs.YtgokpcnabgacnaaGreatDoor
namespace Go.Proofs.YtgokpcnabgacnaaGreatDoor
open Go.RowKit
namespace Sx
def VerOK (i n : Nat) (d : List UInt8) (q : List Dg) (t : List UInt8 × Bool) : Prop := (Led.ver HH i n d (q.map (·.1)) = if t.2 = true then some t.1 else none) ∧ t.1.length = 32
theorem VerOK.one (i : Nat) {d : List UInt8} (q : List Dg) (hd : d.length = 32) : VerOK i 1 d q (d, decide ((q.length : Int) = 0)) :=
 ⟨by rw [Led.ver_one]; cases q <;> simp <;> omega, hd⟩
theorem VerOK.none {i n : Nat} (d : List UInt8) (h : 2 ≤ n) : VerOK i n d [] (List.replicate 32 0, false) :=
 ⟨by rw [Led.ver_step HH i d _ h]; simp, by simp⟩
theorem dg_last {q : List Dg} {x : Dg} (hx : q[q.length - 1]? = some x) : (q.map (·.1)).getLast? = some x.1 := by
 rw [List.getLast?_eq_getElem?, List.length_map, List.getElem?_map, hx]
 rfl
theorem dg_init (q : List Dg) : (q.take (q.length - 1)).map (·.1) = (q.map (·.1)).dropLast := by rw [List.dropLast_eq_take, List.map_take, List.length_map]
theorem VerOK.left {i n : Nat} {d : List UInt8} {x : Dg} {q : List Dg} {t : List UInt8 × Bool} (h : 2 ≤ n) (hx : q[q.length - 1]? = some x) (hi : i < Led.bl n) (ht : VerOK i (Led.bl n) d (q.take (q.length - 1)) t) : VerOK i n d q (Led.join HH t.1 x.1, t.2) := by
 obtain ⟨h1, h2⟩ := ht
 rw [dg_init] at h1
 refine ⟨?_, by simp⟩
 rw [Led.ver_step HH i d _ h, dg_last hx]
 simp only
 rw [if_pos hi, h1]
 split <;> rfl
theorem VerOK.right {i n : Nat} {d : List UInt8} {x : Dg} {q : List Dg} {t : List UInt8 × Bool} (h : 2 ≤ n) (hx : q[q.length - 1]? = some x) (hi : ¬ i < Led.bl n) (ht : VerOK (i - Led.bl n) (n - Led.bl n) d (q.take (q.length - 1)) t) : VerOK i n d q (Led.join HH x.1 t.1, t.2) := by
 obtain ⟨h1, h2⟩ := ht
 rw [dg_init] at h1
 refine ⟨?_, by simp⟩
 rw [Led.ver_step HH i d _ h, dg_last hx]
 simp only
 rw [if_neg hi, h1]
 split <;> rfl
end Sx
end Go.Proofs.YtgokpcnabgacnaaGreatDoor
namespace Go.Proofs.YtgokpcnabgacnaaGreatDoor
open Go.RowKit
namespace Sx
end Sx
end Go.Proofs.YtgokpcnabgacnaaGreatDoor
namespace Go.Proofs.YtgokpcnabgacnaaGreatDoor
open Go.RowKit
namespace Sx
def CvOK (m n : Nat) (o : Bool) (d : List UInt8) (q : List Dg) (t : (List UInt8 × List UInt8) × Bool) : Prop := (Led.con HH m n o d (q.map (·.1)) = if t.2 = true then some t.1 else none) ∧ t.1.1.length = 32 ∧ t.1.2.length = 32
theorem CvOK.same {n : Nat} {o : Bool} {d : List UInt8} (q : List Dg) (h : 0 < n) (ho : o = true) (hd : d.length = 32) : CvOK n n o d q ((d, d), decide ((q.length : Int) = 0)) :=
 ⟨by rw [Led.con_eq HH o d _ h, if_pos ho]; cases q <;> simp <;> omega, hd, hd⟩
theorem CvOK.none {m n : Nat} {o : Bool} (d : List UInt8) (h0 : 0 < m) (hm : m ≤ n) (h : ¬ (m = n ∧ o = true)) : CvOK m n o d [] ((List.replicate 32 0, List.replicate 32 0), false) := by
 refine ⟨?_, by simp, by simp⟩
 by_cases h1 : m = n
 ·subst h1
  rw [Led.con_eq HH o d _ h0, if_neg (fun e => h ⟨rfl, e⟩)]
  simp
 ·rw [Led.con_step HH o d _ h0 o9]
  simp
theorem CvOK.last {n : Nat} {o : Bool} {d : List UInt8} {x : Dg} {q : List Dg} (h : 0 < n) (ho : ¬ o = true) (hx : q[q.length - 1]? = some x) : CvOK n n o d q ((x.1, x.1), decide (((q.take (q.length - 1)).length : Int) = 0)) := by
 refine ⟨?_, x.2, x.2⟩
 rw [Led.con_eq HH o d _ h, if_neg ho, dg_last hx, ← dg_init]
 cases q.take (q.length - 1) <;> simp <;> omega
theorem CvOK.left {m n : Nat} {o : Bool} {d : List UInt8} {x : Dg} {q : List Dg} {t : (List UInt8 × List UInt8) × Bool} (h0 : 0 < m) (h : m < n) (hx : q[q.length - 1]? = some x) (hi : m ≤ Led.bl n) (ht : CvOK m (Led.bl n) o d (q.take (q.length - 1)) t) : CvOK m n o d q ((t.1.1, Led.join HH t.1.2 x.1), t.2) := by
 obtain ⟨h1, h2, h3⟩ := ht
 rw [dg_init] at h1
 refine ⟨?_, h2, by simp⟩
 rw [Led.con_step HH o d _ h0 h, dg_last hx]
 simp only
 rw [if_pos hi, h1]
 split <;> rfl
theorem CvOK.right {m n : Nat} {o : Bool} {d : List UInt8} {x : Dg} {q : List Dg} {t : (List UInt8 × List UInt8) × Bool} (h0 : 0 < m) (h : m < n) (hx : q[q.length - 1]? = some x) (hi : ¬ m ≤ Led.bl n) (ht : CvOK (m - Led.bl n) (n - Led.bl n) false d (q.take (q.length - 1)) t) : CvOK m n o d q ((Led.join HH x.1 t.1.1, Led.join HH x.1 t.1.2), t.2) := by
 obtain ⟨h1, h2, h3⟩ := ht
 rw [dg_init] at h1
 refine ⟨?_, by simp, by simp⟩
 rw [Led.con_step HH o d _ h0 h, dg_last hx]
 simp only
 rw [if_neg hi, h1]
 split <;> rfl
end Sx
end Go.Proofs.YtgokpcnabgacnaaGreatDoor
namespace Go.Proofs.YtgokpcnabgacnaaGreatDoor
open Go.RowKit
namespace Sx
end Sx
end Go.Proofs.YtgokpcnabgacnaaGreatDoor
namespace Go.Proofs.YtgokpcnabgacnaaGreatDoor
open Go.RowKit
namespace Sx
end Sx
end Go.Proofs.YtgokpcnabgacnaaGreatDoor
namespace Go.Proofs.YtgokpcnabgacnaaGreatDoor
open Go.RowKit
namespace Sx
section
variable {P : Program} (w : World)
theorem run_equalIn_mapnil (d : Nat) (t k e : TypeId) (p : Option Nat) (h : P.underlying t = some (.map k e)) : (Op.equalIn (d + 1) t (.map p) (.map none)).run P w = .ok p.isNone w := by
 cases p <;> simp [Op.equalIn, run_underlying h]
theorem run_eql_mapnil (t k e : TypeId) (p : Option Nat) (h : P.underlying t = some (.map k e)) : (binOp .eql t (.map p) (.map none)).run P w = .ok (.bool p.isNone) w := by
 simp only [binOp]
 simp [show Op.equal t (.map p) (.map none) = Op.equalIn (9999 + 1) t (.map p) (.map none) from rfl, run_equalIn_mapnil w 9999 t k e p h]
theorem run_assert_map (t xT k e : TypeId) (v : Value) (h : P.underlying t = some (.map k e)) : (Instr.typeAssert (.iface t v) xT t false).run P w = .ok v w := by
 simp [Instr.typeAssert, run_underlying h, go_sem, Result.andThen]
theorem run_maps_clone {r : Nat} {es : Array MapEntry} {clock : Nat} (t : TypeId) (hb : w.heap[r]? = some (.map es clock)) :
  (Extern.MapsClone.clone #[.iface t (.map (some r))]).run P w = .ok (.iface t (.map (some w.heap.size))) (w.alloc (.map es clock)) := by
 have e : Extern.MapsClone.clone #[.iface t (.map (some r))] = (getObj r >>= fun o => match o with
   | .map entries clock => (newObj (.map entries clock) >>= fun n => pure (.iface t (.map (some n))))
   | _ => stuck "maps.clone: a map expected") := rfl
 rw [e]
 simp [MapKept.run_getObj_map hb, Result.andThen, go_sem]
end
theorem maps_clone_some (b : Nat) (es : Array MapEntry) (clock : Nat) (w : World) (hb : w.heap[b]? = some (.map es clock)) :
  Calls Tryz.prog 156 #[.map (some b)] w fun e w' => e = .returned (.map (some w.heap.size)) ∧ w' = w.alloc (.map es clock) := by
 have hq := fun w => run_eql_mapnil (P := Tryz.prog) w 80 _ _ (some b) Tryz.underlying80
 go_enter Tryz.func156, Tryz.ntmps156
 go_wp2
 rw [run_callFunc_extern Tryz.func158 k9 k9 k9 (e := Extern.MapsClone.clone) k9, run_maps_clone w 80 hb]
 simp only [Result.andThen]
 rw [Oper.upon_value]
 go_wp2
 rw [run_assert_map _ 80 _ _ _ _ Tryz.underlying80]
 simp only [Result.andThen]
 rw [Oper.upon_value]
 go_wp2
 go_ret
 exact ⟨rfl, rfl⟩
theorem maps_clone_none (w : World) :
  Calls Tryz.prog 156 #[.map none] w fun e w' => e = .returned (.map none) ∧ w' = w := by
 have hq := fun w => run_eql_mapnil (P := Tryz.prog) w 80 _ _ none Tryz.underlying80
 go_enter Tryz.func156, Tryz.ntmps156
 go_wp2
 go_ret
 exact ⟨rfl, rfl⟩
end Sx
end Go.Proofs.YtgokpcnabgacnaaGreatDoor
namespace Go.Proofs.YtgokpcnabgacnaaGreatDoor
open Go.RowKit
namespace Sx
section
variable {P : Program} {Γ : Cx} {σ : St} {Q : Exit → Act → World → Prop}
end
theorem bldL2 {A : Option Addr} {n c : Nat} {M : Option Nat} : Bld Tryz.prog 82 [0, 1] [isD (.slice A n c), isD (.map M)] [isD (.slice A n c), isD (.map M)] := fun L w vs hv => by
 obtain ⟨u, v, rfl, rfl, rfl⟩ := all2 hv
 exact ⟨[.slice A n c, .map M], ⟨rfl, rfl, trivial⟩, fun w' => by kernel_rfl⟩
end Sx
end Go.Proofs.YtgokpcnabgacnaaGreatDoor
namespace Go.Proofs.YtgokpcnabgacnaaGreatDoor
open Go.RowKit
namespace Sx
section
variable {P : Program} {Γ : Cx} {σ : St} {Q : Exit → Act → World → Prop}
theorem SW.vecNil {c : Code} {α : Type} {enc : α → List D} {sz : Nat} [Row enc sz] {e cp : Nat} {A : Option Addr} {F : List Nat} {l : List α} (j : Nat) (hj : σ.bx[j]? = some (.r F (yb e sz enc A cp l))) (hA : A.isNone = true) (h : l = [] → SW P Γ σ c Q) : SW P Γ σ c Q := fun a w hh => by
 refine h ?_ a w hh
 obtain ⟨h1, h2⟩ := own_at (hh.resAt hj) (L' := []) (fun x hx => by cases hx) (fun g hg hx => by cases hx)
 cases l with
 | nil => rfl
 | cons x l =>
  obtain ⟨g, o, e, _⟩ := h2 (by rw [flat_len (enc := enc) (sz := sz)]; exact Nat.mul_pos s9 (Row.pos (enc := enc)))
  rw [e] at hA
  cases hA
end
theorem con_mapsCloneL {κ : Type} (enc : κ → Value) (ks : List κ) (f : κ → D) (M : Option Nat) (G : List Nat) : ConR Tryz.prog 156 [.r G (mapF M enc ks f)] [isD (.map M)] (fun t : Option Nat × List Nat => [.r G (mapF M enc ks f), .r t.2 (mapF t.1 enc ks f)]) (fun t => isD (.map t.1)) := by
 refine ⟨enters_of Tryz.func156 k9 rfl, fun L w vs hL hG hgl hoff hnd hbx ha => ?_⟩
 match vs, ha with
 | [v], ha =>
  obtain rfl : v = .map M := ha.1
  obtain ⟨es, hm, hk, hv⟩ := hbx _ (List.mem_singleton.2 rfl)
  have hm0 := hm
  have fp1 : fps [Box.r G (mapF M enc ks f)] = G := by simp [fps, Box.fp]
  rw [fp1] at hv hnd hoff
  rcases hm with ⟨rfl, rfl, rfl⟩ | ⟨g, ck, rfl, hh, rfl, hbn⟩
  ·refine (maps_clone_none w).mono fun e w' ⟨he, hw⟩ => ?_
   subst hw
   refine ⟨(none, []), .map none, he, rfl, fun b hb => ?_, by simp [fps, Box.fp], fun g hg => by simp [fps, Box.fp] at hg, Only.refl _ _⟩
   have hb' : b = Box.r [] (mapF none enc ks f) := by simpa using hb
   rw [hb']
   exact ⟨#[], .inl ⟨rfl, rfl, rfl⟩, hk, by simpa [fps, Box.fp] using hv⟩
  ·refine (maps_clone_some g es ck w hh).mono fun e w' ⟨he, hw⟩ => ?_
   subst hw
   have hg : g < w.heap.size := (Array.getElem?_eq_some_iff.1 hh).1
   have ho : Only [] w (w.alloc (.map es ck)) := (Only.refl [] w).alloc _
   have fp2 : fps [Box.r [g] (mapF (some g) enc ks f), Box.r [w.heap.size] (mapF (some w.heap.size) enc ks f)] = [g, w.heap.size] := by simp [fps, Box.fp]
   have h1 : All ([g, w.heap.size] ++ L) w (ks.map f) (es.toList.map fun e : MapEntry => e.val) := by
    refine hv.less fun x hx => ?_
    simp at hx
    rcases hx with h | h | h
    ·exact .inl (by simp [h])
    ·exact .inr o9
    ·exact .inl (by simp [h])
   have h2 := h1.keep ho (fun x hx => by cases hx)
   refine ⟨(some w.heap.size, [w.heap.size]), .map (some w.heap.size), he, rfl, fun b hb => ?_, by rw [fp2]; simp; omega, fun x hx => ?_, ho.mono s9⟩
   ·rw [fp2]
    simp at hb
    rcases hb with rfl | rfl
    ·exact ⟨es, .inr ⟨g, ck, rfl, by rw [(MapKept.heap_alloc w _).2 g hg]; exact hh, rfl, hbn⟩, hk, h2⟩
    ·exact ⟨es, .inr ⟨w.heap.size, ck, rfl, (MapKept.heap_alloc w _).1, rfl, hbn⟩, hk, h2⟩
   ·rw [fp2] at hx
    rw [fp1]
    simp at hx
    rcases hx with h | h
    ·exact .inl (by simp [h])
    ·exact .inr o9
theorem con_cloneEL (l : List Led.Ent) (hl : l.length ≤ 1000000) (s : Vst) : ConR Tryz.prog 155 [.r s.F (yb 85 2 encE s.A s.c (l))] [isD (.slice s.A l.length s.c)] (fun t : Vst => [.r s.F (yb 85 2 encE s.A s.c (l)), .r t.F (yb 85 2 encE t.A t.c (l))]) (fun t : Vst => isD (.slice t.A l.length t.c)) := by
 refine zY Tryz.func155 k9 rfl k9 fun base w0 => (zh (zb (za rfl (ze rfl) (zg (zc (zh (zh (zb (za rfl (zd rfl) (za rfl (Rd.eqN (e := 85) rfl rfl k9) (zg (zc (zJ rfl (fun hb4 => ?_) (fun hb4 => ?_))))))))))))))
 ·refine SW.vecNil 0 rfl hb4 fun hz => (zh (SW.vecN 85 2 encE (zb (za rfl (ze rfl) (zg (zc (zS (fn := Tryz.f155) (⟨none, 0, []⟩) [0, 1] (fun _ _ h => h) (Rs.le (Rs.one rfl (zo rfl)) ?_) d9 ⟨lR rfl, ⟨⟨_, rfl, ZN (by rw [hz]) (by rw [hz])⟩, trivial⟩⟩)))))))
  exact zC (by rw [hz]; rfl)
 ·skip
  refine zu (zc (zh (zb (zk (S := []) (Ef.lit0 (e := 85) encE 2 32 k9 k9 rfl) ?_))))
  rintro _ ⟨g5, rfl⟩
  refine za rfl (zd rfl) (zk (Za 1 2 32 rfl rfl (SrcT.vec 0 rfl rfl) k9 k9 (by simp <;> omega) d9 (fun _ h => h) rfl) ?_)
  rintro _ ⟨A7, F7, c7, rfl⟩
  refine za rfl (ze rfl) (zg (zc (zS (fn := Tryz.f155) (⟨A7, c7, F7⟩) [0, 1] (fun _ _ h => h) (Rs.le (Rs.one rfl (zo rfl)) ?_) d9 (sX rfl))))
  exact zf _
theorem con_copyL (gl : Nat) (s : Lst) (es : List Led.Ent) (hl : es.length ≤ 1000000) : ConR Tryz.prog 104 [.c gl [isD (.slice s.A (es).length s.c), isD (.map s.M)], ledE s (es), ledM s (es)] [pA gl] (fun t : Nat × Lst => [.c gl [isD (.slice s.A (es).length s.c), isD (.map s.M)], ledE s (es), ledM s (es), .c t.1 [isD (.slice t.2.A (es).length t.2.c), isD (.map t.2.M)], ledE t.2 (es), ledM t.2 (es)]) (fun t : Nat × Lst => pA t.1) := by
 refine zY Tryz.func104 k9 rfl k9 fun base w0 => (zh (zb (za rfl (ze rfl) (zg (zc (zh (zh (zb (za rfl (zd rfl) (za rfl (Z0 rfl rfl k9) (zg (zc (zE rfl (rfl) (zu (zc (zh (yj (s.F ++ (s.G ++ [])) (.r 0 (.r 1 (.r 2 (.r 3 (.r 5 (.r 6 (.r 7 (.r 8 (.e 4 (.e 9 (.r 10 (.n 11 (.r 12 .fin) .no)) .no) .no))))))))) k9 k9 (fun d _ _ _ _ h => by cases d <;> exact h) (zj rfl rfl (zd rfl) (zj rfl rfl (zw rfl) (zj rfl rfl (zi (n := 0) rfl k9) (zj rfl rfl (zl 0 rfl rfl rfl k9 (yl 1 rfl d9 (yl 2 rfl d9 zp))) (zj rfl rfl (zd rfl) (zj rfl rfl (zw rfl) (zj rfl rfl (zi (n := 1) rfl k9) (zj rfl rfl (zl 0 rfl rfl rfl k9 (yl 1 rfl d9 (yl 2 rfl d9 zp))) (zZ rfl (zB [1] (con_cloneEL es hl ⟨s.A, s.c, s.F⟩) rfl ⟨zf _, trivial⟩ d9 ⟨lR rfl, trivial⟩ (fin_r (fun _ h => List.mem_append_left _ h) fin_nil) rfl) ?_ zI))))))))))))))))))))))))))
 rintro _ ⟨s9, rfl⟩
 refine zZ rfl (zB [1] (con_mapsCloneL encN (Led.keys es.length) (mkeys es) s.M s.G) rfl ⟨zf _, trivial⟩ d9 ⟨lR rfl, trivial⟩ (fin_r (fun _ h => List.mem_append_right _ (List.mem_append_left _ h)) fin_nil) rfl) ?_ zI
 rintro _ ⟨s14, rfl⟩
 refine zj rfl rfl (yh rfl rfl bldL2) (yi rfl (yF rfl rfl) ?_ zI)
 rintro _ ⟨g16, rfl⟩
 refine zj rfl rfl (ze rfl) (zV (zc ?_))
 refine zS (fn := Tryz.f104) (((g16, ⟨s9.A, s9.c, s9.F, s14.1, s14.2⟩) : Nat × Lst)) [0, 1, 3, 5, 2, 4] (fun _ _ h => h) (Rs.one rfl (zo rfl)) d9 (sX rfl)
end Sx
end Go.Proofs.YtgokpcnabgacnaaGreatDoor
namespace Go.Proofs.YtgokpcnabgacnaaGreatDoor
open Go.RowKit
namespace Sx
section
variable {P : Program} {Γ : Cx} {σ : St} {Q : Exit → Act → World → Prop}
end
end Sx
end Go.Proofs.YtgokpcnabgacnaaGreatDoor
namespace Go.Proofs.YtgokpcnabgacnaaGreatDoor
open Go.RowKit
namespace Sx
end Sx
end Go.Proofs.YtgokpcnabgacnaaGreatDoor
namespace Go.Proofs.YtgokpcnabgacnaaGreatDoor
open Go.RowKit
namespace Sx
end Sx
end Go.Proofs.YtgokpcnabgacnaaGreatDoor
namespace Go.Proofs.YtgokpcnabgacnaaGreatDoor
open Go.RowKit
namespace Sx
theorem SWz.freeze {P : Program} {Γ : Cx} {σ : St} {S : List Nat} {l : List Oper} {tz : Reg.Tz} {Q : Exit → Act → World → Prop} (i j : Nat) {g c n : Nat} {ds : List D} (xs : List Value) (hi : σ.tm i = some (isD (.slice (some ⟨g, 0, none⟩) n c))) (hj : σ.bx[j]? = some (.c g ds)) (hn : n = xs.length) (hc : n ≤ c) (hds : ds = xs.map isD) (h : SWz P Γ l Q S tz ⟨fun k => cond (Nat.beq k i) (some (slD xs)) (σ.tm k), σ.bx.eraseIdx j⟩) : SWz P Γ l Q S tz σ :=
 fun a w hh => by subst hn hds; exact h a w (hh.freeze hi hc hj)
end Sx
end Go.Proofs.YtgokpcnabgacnaaGreatDoor
