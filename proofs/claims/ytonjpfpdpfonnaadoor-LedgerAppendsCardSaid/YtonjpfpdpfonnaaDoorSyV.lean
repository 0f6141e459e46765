/-
  PAIRS OF DIGESTS, compared.
-/
import Derived.Test.YtonjpfpdpfonnaaDoorSyU
namespace Go.Proofs.YtonjpfpdpfonnaaDoor
open Go.RowKit
namespace Sx
def pairT (P : Program) (T e : Nat) : Bool := match (P.fieldsOf T).toList with
  | [f, g] => f.name != "_" && g.name != "_" && f.type == e && g.type == e && f.offset == 0 && g.offset == 32
  | _ => false
section
variable {P : Program} {Γ : Cx} {σ : St} {S : List Nat} {dst : Option Tmp} {ty : TypeId} {pos : String} {af : Array Edge} {gd : Option (Nat × Bool)} {d : D}
theorem run_part {e o n : Nat} {b : List UInt8} {u : Nat} (he : arrT P e u n = true) (hs : (P.info? e).map (·.size) = some n) (cs : List Value) (hc : (cs.drop o).take n = cellsOf b) (w : World) : (part e cs.toArray o).run P w = .ok (.agg (cellsOf b).toArray) w := by
  obtain ⟨inf, h1, h2⟩ := Option.map_eq_some_iff.1 hs
  have hag : (isAgg e).run P w = .ok true w := by simp [isAgg, run_underlying (arrT_spec he)]
  simp only [part, Sem.run_bind, hag, Result.andThen_ok, if_true, sizeOf, typeInfo]
  simp [h1, h2, hc]
theorem run_equal_pair {T e u : Nat} (hT : P.underlying T = some (.struct (P.fieldsOf T))) (hp : P.stoodInHeld T = false) (hF : pairT P T e = true) (he : arrT P e u 32 = true) (hu : P.underlying u = some (.int .u8)) (hus : (P.info? u).map (·.size) = some 1) (hs : (P.info? e).map (·.size) = some 32)
    (a b a' b' : List UInt8) (ha : a.length = 32) (hb : b.length = 32) (ha' : a'.length = 32) (hb' : b'.length = 32) (k : Nat) (w : World) :
    (Op.equalIn (k + 3) T (.agg (cellsOf (a ++ b)).toArray) (.agg (cellsOf (a' ++ b')).toArray)).run P w = .ok (decide (a = a' ∧ b = b')) w := by
  rw [run_equalIn_struct w (k + 2) _ _ _ hT hp]
  unfold pairT at hF
  split at hF
  · rename_i f g hfg
    rw [hfg]
    simp only [Bool.and_eq_true, bne_iff_ne, ne_eq, beq_iff_eq] at hF
    obtain ⟨⟨⟨⟨⟨h1, h2⟩, h3⟩, h4⟩, h5⟩, h6⟩ := hF
    have c1 : ∀ x y : List UInt8, x.length = 32 → ((cellsOf (x ++ y)).drop 0).take 32 = cellsOf x := fun x y hx => by
      simp [cellsOf]
      rw [List.take_append_of_le_length (by simp [hx]), List.take_of_length_le (by simp [hx])]
    have c2 : ∀ x y : List UInt8, x.length = 32 → y.length = 32 → ((cellsOf (x ++ y)).drop 32).take 32 = cellsOf y := fun x y hx hy => by
      simp [cellsOf]
      rw [List.drop_append_of_le_length (by simp [hx]), List.drop_of_length_le (by simp [hx]), List.nil_append, List.take_of_length_le (by simp [hy])]
    have e1 := run_equal_g (T := e) he hu hus a a' ha ha' k w
    have e2 := run_equal_g (T := e) he hu hus b b' hb hb' k w
    simp only [Op.eqFields, h1, h2, h3, h4, h5, h6, ne_eq, not_false_eq_true, if_true, Sem.run_bind, Result.andThen_ok, run_part he hs _ (c1 a b ha), run_part he hs _ (c1 a' b' ha'), run_part he hs _ (c2 a b ha hb), run_part he hs _ (c2 a' b' ha' hb'), e1, e2]
    have p3 := run_part he hs _ (c2 a b ha hb) w
    have p4 := run_part he hs _ (c2 a' b' ha' hb') w
    by_cases x1 : a = a'
    · subst x1
      simp only [beq_self_eq_true, Bool.not_true, Bool.false_eq_true, if_false, Sem.run_bind, p3, p4, e2, Result.andThen_ok]
      by_cases x2 : b = b' <;> simp [x2]
    · simp [x1]
  · cases hF
theorem Rd.neP2 {x y : Operand} {T yT e u : Nat} {a b a' b' : List UInt8} (hx : σ.ev x = some (gD (a ++ b))) (hy : σ.ev y = some (gD (a' ++ b'))) (hT : P.underlying T = some (.struct (P.fieldsOf T))) (hp : P.stoodInHeld T = false) (hF : pairT P T e = true) (he : arrT P e u 32 = true) (hu : P.underlying u = some (.int .u8)) (hus : (P.info? u).map (·.size) = some 1) (hs : (P.info? e).map (·.size) = some 32) (hq : P.eqGuardType P.depth T = false)
    (ha : a.length = 32) (hb : b.length = 32) (ha' : a'.length = 32) (hb' : b'.length = 32) : Rd P Γ S ⟨dst, .binOp .neq T x y yT, ty, pos, af, gd⟩ σ (boolD (!decide (a = a' ∧ b = b'))) := Rd.bin hx hy fun w => by
  have h : (Op.equalIn Op.maxDepth T (.agg (cellsOf (a ++ b)).toArray) (.agg (cellsOf (a' ++ b')).toArray)).run P w = .ok (decide (a = a' ∧ b = b')) w := run_equal_pair hT hp hF he hu hus hs a b a' b' ha hb ha' hb' 9997 w
  simp [eqGuard, binOp, Op.equal, hq, h, bne]
end
end Sx
end Go.Proofs.YtonjpfpdpfonnaaDoor
