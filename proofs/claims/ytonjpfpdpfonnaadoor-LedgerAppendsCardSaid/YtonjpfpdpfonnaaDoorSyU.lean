/-
  SLICES OF DIGESTS, pairs of digests; the array that a slice of bytes holds.
-/
import Derived.Test.YtonjpfpdpfonnaaDoorSyT
import Derived.Stop.BytesEq
namespace Go.Proofs.YtonjpfpdpfonnaaDoor
open Go.RowKit
namespace Sx
/-- A digest, as an element. -/
abbrev Dg : Type := {d : List UInt8 // d.length = 32}
def encG (d : Dg) : List D := (cellsOf d.1).map isD
instance : Row encG 32 := ⟨fun x => by unfold encG; rw [List.length_map, cellsOf_length, x.2], fun x => by unfold encG; infer_instance, by decide⟩
theorem list32 {b : List UInt8} (h : b.length = 32) : ∃ a0 a1 a2 a3 a4 a5 a6 a7 a8 a9 b0 b1 b2 b3 b4 b5 b6 b7 b8 b9 c0 c1 c2 c3 c4 c5 c6 c7 c8 c9 d0 d1, b = [a0, a1, a2, a3, a4, a5, a6, a7, a8, a9, b0, b1, b2, b3, b4, b5, b6, b7, b8, b9, c0, c1, c2, c3, c4, c5, c6, c7, c8, c9, d0, d1] := by
  match b, h with
  | [a0, a1, a2, a3, a4, a5, a6, a7, a8, a9, b0, b1, b2, b3, b4, b5, b6, b7, b8, b9, c0, c1, c2, c3, c4, c5, c6, c7, c8, c9, d0, d1], _ =>
    exact ⟨a0, a1, a2, a3, a4, a5, a6, a7, a8, a9, b0, b1, b2, b3, b4, b5, b6, b7, b8, b9, c0, c1, c2, c3, c4, c5, c6, c7, c8, c9, d0, d1, rfl⟩
section
variable {P : Program} {Γ : Cx} {σ : St} {S : List Nat} {dst : Option Tmp} {ty : TypeId} {pos : String} {af : Array Edge} {gd : Option (Nat × Bool)} {d : D}
theorem Rd.more {op : Oper} {d d' : D} (h : Rd P Γ S op σ d) (hl : Le d d') : Rd P Γ S op σ d' := fun a w hh => by
  obtain ⟨v, hv, hr⟩ := h a w hh
  exact ⟨v, hl _ _ _ hv, hr⟩
/-- (*[n]byte)(b) -/
theorem Rd.toArr {x : Operand} {T e : Nat} {b : List UInt8} (n : Nat) (hx : σ.ev x = some (bD b)) (hT : arrT P T e n = true) (h0 : 0 < n) (hb : n ≤ b.length) :
    Rd P Γ S ⟨dst, .sliceToArrayPointer T x, ty, pos, af, gd⟩ σ (paD ((cellsOf b).map isD)) := by
  intro a w hh
  obtain ⟨A, c, hxv, hc, ha⟩ := le_b_ls b _ _ _ (ev_spec hh hx)
  rw [flat_encB] at ha
  obtain ⟨g, o, rfl, hk⟩ := ha (by rw [List.length_map, cellsOf_length]; omega)
  refine ⟨.pointer (some ⟨g, o, none⟩), ⟨⟨g, o, none⟩, rfl, fun _ => ⟨g, o, rfl, hk⟩⟩, fun w' _ => ?_⟩
  simp [execOp, hxv, Instr.arrayAt, run_underlying (arrT_spec hT), Nat.not_lt.2 hb]
/-- The digest at the address of n cells. -/
theorem Rd.loadPG {x : Operand} {T : Nat} {b : List UInt8} (n : Nat) (hx : σ.ev x = some (paD ((cellsOf b).map isD))) (hT : rowT P T n = true) (h0 : 0 < n) (hn : b.length = n) (hS : ∀ s ∈ S, s ∈ σ.L Γ) : Rd P Γ S ⟨dst, .load T x, ty, pos, af, gd⟩ σ (gD b) :=
  Rd.more (Rd.loadRA n hx hT h0 (by rw [List.length_map, cellsOf_length]; omega) hS) (by
    rw [List.take_of_length_le (by rw [List.length_map, cellsOf_length]; omega)]
    exact le_agg_g b)
/-- A part of a pair. -/
theorem cells_app (a b : List UInt8) : (cellsOf (a ++ b)).map isD = (cellsOf a).map isD ++ (cellsOf b).map isD := by simp [cellsOf]
theorem Rd.load1 {x : Operand} {T g : Nat} (j n : Nat) {b c : List UInt8} (hx : σ.ev x = some (isD (.pointer (some ⟨g, 0, none⟩)))) (hj : σ.bx[j]? = some (.c g ((cellsOf (b ++ c)).map isD))) (hT : rowT P T n = true) (hb : b.length = n) (hS : Ap σ j S) : Rd P Γ S ⟨dst, .load T x, ty, pos, af, gd⟩ σ (gD b) := by
  have e : (((cellsOf (b ++ c)).map isD).drop 0).take n = (cellsOf b).map isD := by
    rw [List.drop_zero, cells_app, List.take_append_of_le_length (by rw [List.length_map, cellsOf_length]; omega), List.take_of_length_le (by rw [List.length_map, cellsOf_length]; omega)]
  exact Rd.more (Rd.loadA j n hx hj hT (by rw [e, List.length_map, cellsOf_length, hb]) hS) (by rw [e]; exact le_agg_g b)
theorem Rd.load2 {x : Operand} {T g : Nat} (j n : Nat) {b c : List UInt8} (hx : σ.ev x = some (isD (.pointer (some ⟨g, n, none⟩)))) (hj : σ.bx[j]? = some (.c g ((cellsOf (b ++ c)).map isD))) (hT : rowT P T n = true) (hb : b.length = n) (hc : c.length = n) (hS : Ap σ j S) : Rd P Γ S ⟨dst, .load T x, ty, pos, af, gd⟩ σ (gD c) := by
  have e : (((cellsOf (b ++ c)).map isD).drop n).take n = (cellsOf c).map isD := by
    rw [cells_app, List.drop_append_of_le_length (by rw [List.length_map, cellsOf_length]; omega), List.drop_of_length_le (by rw [List.length_map, cellsOf_length]; omega), List.nil_append, List.take_of_length_le (by rw [List.length_map, cellsOf_length]; omega)]
  exact Rd.more (Rd.loadA j n hx hj hT (by rw [e, List.length_map, cellsOf_length, hc]) hS) (by rw [e]; exact le_agg_g c)
/-- a == b, a and b arrays of bytes. -/
theorem run_equal_g {T e n : Nat} (hT : arrT P T e n = true) (he : P.underlying e = some (.int .u8)) (hs : (P.info? e).map (·.size) = some 1) (b c : List UInt8) (hb : b.length = n) (hc : c.length = n) (d : Nat) (w : World) :
    (Op.equalIn (d + 2) T (.agg (cellsOf b).toArray) (.agg (cellsOf c).toArray)).run P w = .ok (b == c) w := by
  obtain ⟨inf, hi', hsz⟩ := Option.map_eq_some_iff.1 hs
  exact run_equalIn_bytes w d T e n (arrT_spec hT) he (fun w => by simp [sizeOf, typeInfo, hi', hsz]) b c hb hc
theorem Rd.neG {x y : Operand} {T yT e n : Nat} {b c : List UInt8} (hx : σ.ev x = some (gD b)) (hy : σ.ev y = some (gD c)) (hT : arrT P T e n = true) (he : P.underlying e = some (.int .u8)) (hs : (P.info? e).map (·.size) = some 1) (hq : P.eqGuardType P.depth T = false) (hb : b.length = n) (hc : c.length = n) :
    Rd P Γ S ⟨dst, .binOp .neq T x y yT, ty, pos, af, gd⟩ σ (boolD (!decide (b = c))) := Rd.bin hx hy fun w => by
  have h : (Op.equalIn Op.maxDepth T (.agg (cellsOf b).toArray) (.agg (cellsOf c).toArray)).run P w = .ok (b == c) w := run_equal_g hT he hs b c hb hc 9998 w
  have e : (b == c) = decide (b = c) := by rw [Bool.eq_iff_iff]; simp
  simp [eqGuard, binOp, Op.equal, hq, h, e, bne]
end
end Sx
end Go.Proofs.YtonjpfpdpfonnaaDoor
