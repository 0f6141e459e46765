/-
  INTS as values: a sign and the bytes of the absolute value. THE WALKS of number's build, Valid, Sign.
-/
import Derived.Test.YtddfphneidcibaaN8
namespace Go.Proofs.Ytddfphneidcibaa
open Go.RowKit
open Nm (W32)

/-- An Int that is the integer z. -/
structure IntS (w : World) (s : Bool) (A : Option Addr) (n c : Nat) (z : Int) : Prop where
  sg : s = decide (z < 0)
  by_ : BytS w A n c z.natAbs
theorem IntS.keep {w w' : World} {s : Bool} {A : Option Addr} {n c : Nat} {z : Int} (h : IntS w s A n c z) (ho : Only [] w w') : IntS w' s A n c z := ⟨h.sg, h.by_.keep ho⟩
theorem IntS.drew {w : World} {s : Bool} {A : Option Addr} {n c : Nat} {z : Int} (h : IntS w s A n c z) : IntS w.drew s A n c z := ⟨h.sg, h.by_.drew⟩
theorem IntS.zero (w : World) (A : Option Addr) (c : Nat) : IntS w false A 0 c 0 := ⟨rfl, BytS.zero w A c⟩

/-- What is returned of z: z, or 0 and the error 7 if it is too large. -/
def big512 : Nat := 256 ^ 64
def limZ (z : Int) : Int := if z.natAbs < big512 then z else 0
def limE (z : Int) : Int := if z.natAbs < big512 then 0 else 7
theorem lim_ok {z : Int} (h : z.natAbs < big512) : limZ z = z ∧ limE z = 0 := by simp [limZ, limE, h]
theorem lim_no {z : Int} (h : ¬ z.natAbs < big512) : limZ z = 0 ∧ limE z = 7 := by simp [limZ, limE, h]
/-- An Int and an error are returned. -/
def RI (w : World) (z er : Int) (e : Ending) (w' : World) : Prop :=
  ∃ s A n c, e = .returned (.tuple #[.agg #[.bool s, .slice A n c], .int .i64 er]) ∧ IntS w' s A n c z ∧ Frs w A ∧ Only [] w w'
/-- The number with a sign. -/
def sgn (neg : Bool) (X : Nat) : Int := if neg then -(X : Int) else (X : Int)
theorem sgn_abs (neg : Bool) (X : Nat) : (sgn neg X).natAbs = X := by unfold sgn; split <;> simp
theorem sgn_neg (neg : Bool) (X : Nat) : decide (sgn neg X < 0) = (neg && decide (0 < X)) := by
  unfold sgn
  cases neg <;> simp <;> omega

/-- A block of two cells. -/
theorem Blk.two {w : World} {g : Nat} {t : TypeId} {a b : Value} (h : Blk w g t [a, b]) : w.cell? ⟨g, 0, none⟩ = some a ∧ w.cell? ⟨g, 1, none⟩ = some b ∧ w.frozen? ⟨g, 0, none⟩ = false ∧ w.frozen? ⟨g, 1, none⟩ = false :=
  ⟨h.cell 0, h.cell 1, h.frozen 0, h.frozen 1⟩
theorem Blk.int0 (w : World) : Blk (w.alloc (.cells #[.bool false, .slice none 0 0] 24)) w.heap.size 24 [.bool false, .slice none 0 0] := Blk.new w _ _

theorem Blk.put2 {w : World} {g : Nat} {t : TypeId} {a b : Value} (h : Blk w g t [a, b]) (u v : Value) : Blk ((w.setCell ⟨g, 0, none⟩ u).setCell ⟨g, 1, none⟩ v) g t [u, v] := (h.set 0 u).set 1 v
theorem only_put2 (w : World) (g : Nat) (u v : Value) : Only [g] w ((w.setCell ⟨g, 0, none⟩ u).setCell ⟨g, 1, none⟩ v) :=
  ((Only.refl [g] w).setCell (p := ⟨g, 0, none⟩) (.inl (by simp)) u).setCell (p := ⟨g, 1, none⟩) (.inl (by simp)) v
theorem isz : (Try.prog.info? 24).map (·.size) = some 2 := by kernel_rfl
theorem results_row_tmp {P : Program} {fn : Func} {p u : Tmp} {ty : TypeId} (h : fn.results = #[.cell p ty, .tmp u]) (tmps : Array Value) (w : World) (g : Nat) (t : TypeId) (cs : List Value) (d : TypeDesc)
    (hp : tmps.getD p undef = .pointer (some ⟨g, 0, none⟩)) (hg : Blk w g t cs)
    (hu : P.underlying ty = some d) (hd : (match d with | .struct _ | .array _ _ => true | _ => false) = true) (hi : (P.info? ty).map (·.size) = some cs.length) :
    (results fn tmps).run P w = .ok (.tuple #[.agg cs.toArray, tmps.getD u undef]) w := by
  have hp' : tmps[p]?.getD undef = .pointer (some ⟨g, 0, none⟩) := by simpa using hp
  simp [results, h, hp', asAddr, run_loadVar_row w g t ty cs.toArray (0, 0) d hg hu hd (by simpa using hi)]
/-- An Int that was put into the result's block. -/
theorem RI.of {w w1 w2 w3 : World} {s : Bool} {A : Option Addr} {n c : Nat} {z er : Int} {g : Nat} {e : Ending} (he : e = .returned (.tuple #[.agg #[.bool s, .slice A n c], .int .i64 er])) (hI : IntS w2 s A n c z) (hF : Frs w1 A) (hg : g < w1.heap.size) (hg0 : w.heap.size ≤ g) (h2 : Only [] w w2) (h3 : Only [g] w2 w3) : RI w z er e w3 :=
  ⟨s, A, n, c, he, ⟨hI.sg, hI.by_.far hF h3 (by simpa using hg)⟩, fun p hp => by have := hF p hp; omega, h2.trans h3 (by intro x hx hlt; simp at hx; omega)⟩

set_option maxHeartbeats 4000000 in
set_option maxRecDepth 100000 in
theorem build_any (w : World) (neg : Bool) (A : Option Addr) (n c X : Nat) (hn : n ≤ 99999) (hA : NatS w A n c X) :
    Calls Try.prog 82 #[.bool neg, .slice A n c] w (RI w (limZ (sgn neg X)) (limE (sgn neg X))) := by
  have hlb : X < big512 ↔ Nm.len 2 X ≤ 512 := by rw [Nm.len_le (by decide), show 2 ^ 512 = big512 from by unfold big512; decide +kernel]
  have hO0 : Only [] w (w.alloc (.cells #[.bool false, .slice none 0 0] 24)) := (Only.refl [] w).alloc _
  by_cases hb : X < big512
  · obtain ⟨e1, e2⟩ := lim_ok (z := sgn neg X) (by rw [sgn_abs]; exact hb)
    rw [e1, e2]
    have hlen := hlb.1 hb
    have hsg := sgn_neg neg X
    have hn0 : (0 < X) ↔ 0 < n := by
      rw [hA.n_eq]
      have := Nm.len_eq_zero (B := W32) (x := X) (by decide)
      omega
    have hs : decide (sgn neg X < 0) = (neg && decide (0 < n)) := by rw [hsg]; simp only [hn0]
    have Hs := Lib.hid hs
    clear hsg hs hn0 e1 e2 hlb
    cases neg
    all_goals
      go_enter Try.func82, Try.ntmps82
      go_wp2_with (first
        | (go_at_call 86
           refine (size_any _ A n c X (by omega) (hA.keep hO0)).mono ?_
           rintro e w' ⟨s, rfl, hs, hs2, rfl⟩
           have hsI : (s : Int) ≤ 512 := by have := hs.out; omega)
        | (go_at_call 109
           refine (digits_any _ A n c X (by omega) (hA.keep hO0)).mono ?_
           rintro e w2 ⟨A2, n2, c2, rfl, hD, hF, hO2⟩
           have hBr := (Blk.int0 w).keep hO2 (by simp)
           obtain ⟨k0, k1, f0, f1⟩ := hBr.two))
    · have hD' : BytS w2 A2 n2 c2 (sgn false X).natAbs := by rw [sgn_abs]; exact hD
      exact bodyPost_ret (results_row_tmp rfl _ _ (w.heap.size) 24 [_, _] _ rfl (hBr.put2 _ _) Try.underlying24 rfl isz) rfl (RI.of rfl ⟨Hs.out.symm, hD'⟩ hF (by simp) (Nat.le_refl _) (hO0.trans' hO2) (only_put2 _ _ _ _))
    · have hD' : BytS w2 A2 n2 c2 (sgn true X).natAbs := by rw [sgn_abs]; exact hD
      exact bodyPost_ret (results_row_tmp rfl _ _ (w.heap.size) 24 [_, _] _ rfl (hBr.put2 _ _) Try.underlying24 rfl isz) rfl (RI.of rfl ⟨by rw [Hs.out]; simp, hD'⟩ hF (by simp) (Nat.le_refl _) (hO0.trans' hO2) (only_put2 _ _ _ _))
  · obtain ⟨e1, e2⟩ := lim_no (z := sgn neg X) (by rw [sgn_abs]; exact hb)
    rw [e1, e2]
    have hlen : 512 < Nm.len 2 X := by rw [hlb] at hb; omega
    clear e1 e2 hlb
    obtain ⟨k0, k1, f0, f1⟩ := (Blk.int0 w).two
    go_enter Try.func82, Try.ntmps82
    go_wp2_with (go_at_call 86
                 refine (size_any _ A n c X (by omega) (hA.keep hO0)).mono ?_
                 rintro e w' ⟨s, rfl, hs, hs2, rfl⟩
                 have hsI : 512 < (s : Int) := by have := hs.out; omega)
    exact bodyPost_ret (results_row_tmp rfl _ _ (w.heap.size) 24 [_, _] _ rfl ((Blk.int0 w)) Try.underlying24 rfl isz) rfl (RI.of rfl (IntS.zero _ _ _) (Frs.none (w.alloc (.cells #[.bool false, .slice none 0 0] 24))) (by simp) (Nat.le_refl _) hO0 (Only.refl _ _))
end Go.Proofs.Ytddfphneidcibaa
