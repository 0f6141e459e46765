/-
  ACCOUNTS: the reference's words.
  ACCOUNTS: the reference's Name, Valid, Same, At, Of.
  ACCOUNTS: the reference's Remove, Add.
-/
import Derived.Test.YtchbgfgboogniaaDoorGZ
namespace Go.Proofs.YtchbgfgboogniaaDoor
open Go.RowKit
namespace Sx
/-- Two accounts are the same. -/
def Acc.eqv (a b : Acc.T) : Prop := a.name = b.name ∧ a.role = b.role ∧ a.key = b.key ∧ a.dep = b.dep ∧ a.num = b.num
instance (a b : Acc.T) : Decidable (Acc.eqv a b) := by unfold Acc.eqv; infer_instance
theorem Acc.eqv_refl (a : Acc.T) : Acc.eqv a a := ⟨rfl, rfl, rfl, rfl, rfl⟩
class IsSl (d : D) : Prop where
  h : ∀ L w v, d.R L w v → ∃ A n c, v = .slice A n c
instance (A : Option Addr) (n c : Nat) : IsSl (isD (.slice A n c)) := ⟨fun _ _ _ h => ⟨A, n, c, h⟩⟩
instance (xs : List Value) : IsSl (slD xs) := ⟨fun _ _ _ ⟨A, c, h, _⟩ => ⟨A, _, c, h⟩⟩
instance (n : Nat) (ds : List D) : IsSl (rwD n ds) := ⟨fun _ _ _ ⟨A, c, h, _⟩ => ⟨A, _, c, h⟩⟩
instance (n : Nat) (d : D) [h : IsSl d] : IsSl (nwD n d) := ⟨fun L w v hv => h.h _ _ _ (le_nw _ _ _ hv)⟩
theorem bldRB {f : D} [hd : IsSl f] : Bld Tryd.prog 47 [0] [f] [f] := fun L w vs hv => by
  obtain ⟨u, rfl, hu⟩ := all1 hv
  obtain ⟨A, n, c, rfl⟩ := hd.h _ _ _ hu
  exact ⟨[.slice A n c], ⟨hu, trivial⟩, fun w' => by kernel_rfl⟩
/-- Where a new account is put while the others are copied. -/
def Acc.out (l : List Acc.T) (a : Acc.T) (i : Nat) : List Acc.T := if Acc.pos l a.name < i then l.take (Acc.pos l a.name) ++ a :: (l.take i).drop (Acc.pos l a.name) else l.take i
end Sx
end Go.Proofs.YtchbgfgboogniaaDoor
namespace Go.Proofs.YtchbgfgboogniaaDoor
open Go.RowKit
namespace Sx
set_option maxHeartbeats 4000000 in
set_option maxRecDepth 100000 in
theorem con_SameR (a b : Acc.T) : ConN Tryd.prog 41 [aggD [strD a.name, iD a.role, bD a.key, iD a.dep, iD a.num], aggD [strD b.name, iD b.role, bD b.key, iD b.dep, iD b.num]] (boolD (decide (Acc.eqv a b))) := by
  refine con_ofN Tryd.func41 (by kernel_rfl) rfl (by kernel_rfl) fun base w0 => ?_
  refine SW.seq ?_
  refine SW.region ?_
  refine SWl.ef (S := []) (Ef.boxA rfl rfl) ?_
  rintro _ ⟨g2, rfl⟩
  refine SWl.ef (S := []) (Ef.boxA rfl rfl) ?_
  rintro _ ⟨g3, rfl⟩
  refine SWl.rd rfl (Rd.assign rfl) ?_
  refine SWl.nil ?_
  refine SN.then ?_
  refine SW.seq ?_
  refine SW.region ?_
  refine SWl.rd rfl (Rd.fieldAddr (n := 0) rfl (by kernel_rfl)) ?_
  refine SWl.rd rfl (Rd.loadB 0 rfl rfl rfl (by kernel_rfl) ap_nil) ?_
  refine SWl.rd rfl (Rd.fieldAddr (n := 0) rfl (by kernel_rfl)) ?_
  refine SWl.rd rfl (Rd.loadB 1 rfl rfl rfl (by kernel_rfl) ap_nil) ?_
  refine SWl.rd rfl (Rd.eqs (p := a.name) (q := b.name) rfl rfl) ?_
  refine SWl.rd rfl (Rd.move rfl) ?_
  refine SWl.split 10 rfl (fun hb10 => ?_) (fun hb10 => ?_)
  · have h10 := of_decide_eq_true hb10
    refine SWl.rdg rfl rfl (hb10) rfl rfl (Rd.fieldAddr (n := 1) rfl (by kernel_rfl)) ?_
    refine SWl.rdg rfl rfl (hb10) rfl rfl (Rd.loadB 0 rfl rfl rfl (by kernel_rfl) ap_nil) ?_
    refine SWl.rdg rfl rfl (hb10) rfl rfl (Rd.fieldAddr (n := 1) rfl (by kernel_rfl)) ?_
    refine SWl.rdg rfl rfl (hb10) rfl rfl (Rd.loadB 1 rfl rfl rfl (by kernel_rfl) ap_nil) ?_
    refine SWl.rdg rfl rfl (hb10) rfl rfl (Rd.eqi rfl rfl) ?_
    refine SWl.rd rfl (Rd.pickY rfl (hb10) rfl) ?_
    refine SWl.rd rfl (Rd.move rfl) ?_
    refine SWl.split 17 rfl (fun hb17 => ?_) (fun hb17 => ?_)
    · have h17 := of_decide_eq_true hb17
      refine SWl.rdg rfl rfl (hb17) rfl rfl (Rd.fieldAddr (n := 2) rfl (by kernel_rfl)) ?_
      refine SWl.rdg rfl rfl (hb17) rfl rfl (Rd.loadB 0 rfl rfl rfl (by kernel_rfl) ap_nil) ?_
      refine SWl.rdg rfl rfl (hb17) rfl rfl (Rd.str (e := 5) rfl (by kernel_rfl) (by kernel_rfl) (by kernel_rfl) (by simp)) ?_
      refine SWl.rdg rfl rfl (hb17) rfl rfl (Rd.fieldAddr (n := 2) rfl (by kernel_rfl)) ?_
      refine SWl.rdg rfl rfl (hb17) rfl rfl (Rd.loadB 1 rfl rfl rfl (by kernel_rfl) ap_nil) ?_
      refine SWl.rdg rfl rfl (hb17) rfl rfl (Rd.str (e := 5) rfl (by kernel_rfl) (by kernel_rfl) (by kernel_rfl) (by simp)) ?_
      refine SWl.rdg rfl rfl (hb17) rfl rfl (Rd.eqs (p := a.key) (q := b.key) rfl rfl) ?_
      refine SWl.rd rfl (Rd.pickY rfl (hb17) rfl) ?_
      refine SWl.rd rfl (Rd.move rfl) ?_
      refine SWl.split 26 rfl (fun hb26 => ?_) (fun hb26 => ?_)
      · have h26 := of_decide_eq_true hb26
        refine SWl.rdg rfl rfl (hb26) rfl rfl (Rd.fieldAddr (n := 3) rfl (by kernel_rfl)) ?_
        refine SWl.rdg rfl rfl (hb26) rfl rfl (Rd.loadB 0 rfl rfl rfl (by kernel_rfl) ap_nil) ?_
        refine SWl.rdg rfl rfl (hb26) rfl rfl (Rd.fieldAddr (n := 3) rfl (by kernel_rfl)) ?_
        refine SWl.rdg rfl rfl (hb26) rfl rfl (Rd.loadB 1 rfl rfl rfl (by kernel_rfl) ap_nil) ?_
        refine SWl.rdg rfl rfl (hb26) rfl rfl (Rd.eqi rfl rfl) ?_
        refine SWl.rd rfl (Rd.pickY rfl (hb26) rfl) ?_
        refine SWl.rd rfl (Rd.move rfl) ?_
        refine SWl.split 33 rfl (fun hb33 => ?_) (fun hb33 => ?_)
        · have h33 := of_decide_eq_true hb33
          refine SWl.rdg rfl rfl (hb33) rfl rfl (Rd.fieldAddr (n := 4) rfl (by kernel_rfl)) ?_
          refine SWl.rdg rfl rfl (hb33) rfl rfl (Rd.loadB 0 rfl rfl rfl (by kernel_rfl) ap_nil) ?_
          refine SWl.rdg rfl rfl (hb33) rfl rfl (Rd.fieldAddr (n := 4) rfl (by kernel_rfl)) ?_
          refine SWl.rdg rfl rfl (hb33) rfl rfl (Rd.loadB 1 rfl rfl rfl (by kernel_rfl) ap_nil) ?_
          refine SWl.rdg rfl rfl (hb33) rfl rfl (Rd.eqi rfl rfl) ?_
          refine SWl.rd rfl (Rd.pickY rfl (hb33) rfl) ?_
          refine SWl.rd rfl (Rd.assign rfl) ?_
          refine SWl.nil ?_
          refine SN.then ?_
          refine SW.ret (fn := Tryd.f41) (fun _ _ h => h) (Rs.le (Rs.one rfl (ResV.tmp rfl)) ?_)
          first | exact Le.trans (le_decF (fun h => h10 h.1)) le_nw_is | exact Le.trans (le_decF (fun h => h17 h.2.1)) le_nw_is | exact Le.trans (le_decF (fun h => h26 h.2.2.1)) le_nw_is | exact Le.trans (le_decF (fun h => h33 h.2.2.2.1)) le_nw_is | exact Le.trans (le_decP ⟨fun h => ⟨h10, h17, h26, h33, h⟩, fun h => h.2.2.2.2⟩) le_nw_is
        · have h33 := of_decide_eq_false hb33
          refine SWl.off rfl rfl (hb33) rfl rfl ?_
          refine SWl.off rfl rfl (hb33) rfl rfl ?_
          refine SWl.off rfl rfl (hb33) rfl rfl ?_
          refine SWl.off rfl rfl (hb33) rfl rfl ?_
          refine SWl.off rfl rfl (hb33) rfl rfl ?_
          refine SWl.rd rfl (Rd.pickN rfl (hb33) rfl) ?_
          refine SWl.rd rfl (Rd.assign rfl) ?_
          refine SWl.nil ?_
          refine SN.then ?_
          refine SW.ret (fn := Tryd.f41) (fun _ _ h => h) (Rs.le (Rs.one rfl (ResV.tmp rfl)) ?_)
          first | exact Le.trans (le_decF (fun h => h10 h.1)) le_nw_is | exact Le.trans (le_decF (fun h => h17 h.2.1)) le_nw_is | exact Le.trans (le_decF (fun h => h26 h.2.2.1)) le_nw_is | exact Le.trans (le_decF (fun h => h33 h.2.2.2.1)) le_nw_is | exact Le.trans (le_decP ⟨fun h => ⟨h10, h17, h26, h33, h⟩, fun h => h.2.2.2.2⟩) le_nw_is
      · have h26 := of_decide_eq_false hb26
        refine SWl.off rfl rfl (hb26) rfl rfl ?_
        refine SWl.off rfl rfl (hb26) rfl rfl ?_
        refine SWl.off rfl rfl (hb26) rfl rfl ?_
        refine SWl.off rfl rfl (hb26) rfl rfl ?_
        refine SWl.off rfl rfl (hb26) rfl rfl ?_
        refine SWl.rd rfl (Rd.pickN rfl (hb26) rfl) ?_
        refine SWl.rd rfl (Rd.move rfl) ?_
        refine SWl.off rfl rfl (rfl) rfl rfl ?_
        refine SWl.off rfl rfl (rfl) rfl rfl ?_
        refine SWl.off rfl rfl (rfl) rfl rfl ?_
        refine SWl.off rfl rfl (rfl) rfl rfl ?_
        refine SWl.off rfl rfl (rfl) rfl rfl ?_
        refine SWl.rd rfl (Rd.pickN rfl (rfl) rfl) ?_
        refine SWl.rd rfl (Rd.assign rfl) ?_
        refine SWl.nil ?_
        refine SN.then ?_
        refine SW.ret (fn := Tryd.f41) (fun _ _ h => h) (Rs.le (Rs.one rfl (ResV.tmp rfl)) ?_)
        first | exact Le.trans (le_decF (fun h => h10 h.1)) le_nw_is | exact Le.trans (le_decF (fun h => h17 h.2.1)) le_nw_is | exact Le.trans (le_decF (fun h => h26 h.2.2.1)) le_nw_is | exact Le.trans (le_decF (fun h => h33 h.2.2.2.1)) le_nw_is | exact Le.trans (le_decP ⟨fun h => ⟨h10, h17, h26, h33, h⟩, fun h => h.2.2.2.2⟩) le_nw_is
    · have h17 := of_decide_eq_false hb17
      refine SWl.off rfl rfl (hb17) rfl rfl ?_
      refine SWl.off rfl rfl (hb17) rfl rfl ?_
      refine SWl.off rfl rfl (hb17) rfl rfl ?_
      refine SWl.off rfl rfl (hb17) rfl rfl ?_
      refine SWl.off rfl rfl (hb17) rfl rfl ?_
      refine SWl.off rfl rfl (hb17) rfl rfl ?_
      refine SWl.off rfl rfl (hb17) rfl rfl ?_
      refine SWl.rd rfl (Rd.pickN rfl (hb17) rfl) ?_
      refine SWl.rd rfl (Rd.move rfl) ?_
      refine SWl.off rfl rfl (rfl) rfl rfl ?_
      refine SWl.off rfl rfl (rfl) rfl rfl ?_
      refine SWl.off rfl rfl (rfl) rfl rfl ?_
      refine SWl.off rfl rfl (rfl) rfl rfl ?_
      refine SWl.off rfl rfl (rfl) rfl rfl ?_
      refine SWl.rd rfl (Rd.pickN rfl (rfl) rfl) ?_
      refine SWl.rd rfl (Rd.move rfl) ?_
      refine SWl.off rfl rfl (rfl) rfl rfl ?_
      refine SWl.off rfl rfl (rfl) rfl rfl ?_
      refine SWl.off rfl rfl (rfl) rfl rfl ?_
      refine SWl.off rfl rfl (rfl) rfl rfl ?_
      refine SWl.off rfl rfl (rfl) rfl rfl ?_
      refine SWl.rd rfl (Rd.pickN rfl (rfl) rfl) ?_
      refine SWl.rd rfl (Rd.assign rfl) ?_
      refine SWl.nil ?_
      refine SN.then ?_
      refine SW.ret (fn := Tryd.f41) (fun _ _ h => h) (Rs.le (Rs.one rfl (ResV.tmp rfl)) ?_)
      first | exact Le.trans (le_decF (fun h => h10 h.1)) le_nw_is | exact Le.trans (le_decF (fun h => h17 h.2.1)) le_nw_is | exact Le.trans (le_decF (fun h => h26 h.2.2.1)) le_nw_is | exact Le.trans (le_decF (fun h => h33 h.2.2.2.1)) le_nw_is | exact Le.trans (le_decP ⟨fun h => ⟨h10, h17, h26, h33, h⟩, fun h => h.2.2.2.2⟩) le_nw_is
  · have h10 := of_decide_eq_false hb10
    refine SWl.off rfl rfl (hb10) rfl rfl ?_
    refine SWl.off rfl rfl (hb10) rfl rfl ?_
    refine SWl.off rfl rfl (hb10) rfl rfl ?_
    refine SWl.off rfl rfl (hb10) rfl rfl ?_
    refine SWl.off rfl rfl (hb10) rfl rfl ?_
    refine SWl.rd rfl (Rd.pickN rfl (hb10) rfl) ?_
    refine SWl.rd rfl (Rd.move rfl) ?_
    refine SWl.off rfl rfl (rfl) rfl rfl ?_
    refine SWl.off rfl rfl (rfl) rfl rfl ?_
    refine SWl.off rfl rfl (rfl) rfl rfl ?_
    refine SWl.off rfl rfl (rfl) rfl rfl ?_
    refine SWl.off rfl rfl (rfl) rfl rfl ?_
    refine SWl.off rfl rfl (rfl) rfl rfl ?_
    refine SWl.off rfl rfl (rfl) rfl rfl ?_
    refine SWl.rd rfl (Rd.pickN rfl (rfl) rfl) ?_
    refine SWl.rd rfl (Rd.move rfl) ?_
    refine SWl.off rfl rfl (rfl) rfl rfl ?_
    refine SWl.off rfl rfl (rfl) rfl rfl ?_
    refine SWl.off rfl rfl (rfl) rfl rfl ?_
    refine SWl.off rfl rfl (rfl) rfl rfl ?_
    refine SWl.off rfl rfl (rfl) rfl rfl ?_
    refine SWl.rd rfl (Rd.pickN rfl (rfl) rfl) ?_
    refine SWl.rd rfl (Rd.move rfl) ?_
    refine SWl.off rfl rfl (rfl) rfl rfl ?_
    refine SWl.off rfl rfl (rfl) rfl rfl ?_
    refine SWl.off rfl rfl (rfl) rfl rfl ?_
    refine SWl.off rfl rfl (rfl) rfl rfl ?_
    refine SWl.off rfl rfl (rfl) rfl rfl ?_
    refine SWl.rd rfl (Rd.pickN rfl (rfl) rfl) ?_
    refine SWl.rd rfl (Rd.assign rfl) ?_
    refine SWl.nil ?_
    refine SN.then ?_
    refine SW.ret (fn := Tryd.f41) (fun _ _ h => h) (Rs.le (Rs.one rfl (ResV.tmp rfl)) ?_)
    first | exact Le.trans (le_decF (fun h => h10 h.1)) le_nw_is | exact Le.trans (le_decF (fun h => h17 h.2.1)) le_nw_is | exact Le.trans (le_decF (fun h => h26 h.2.2.1)) le_nw_is | exact Le.trans (le_decF (fun h => h33 h.2.2.2.1)) le_nw_is | exact Le.trans (le_decP ⟨fun h => ⟨h10, h17, h26, h33, h⟩, fun h => h.2.2.2.2⟩) le_nw_is
end Sx
end Go.Proofs.YtchbgfgboogniaaDoor
namespace Go.Proofs.YtchbgfgboogniaaDoor
open Go.RowKit
namespace Sx
theorem wrap8 (x : Int) : IntKind.u8.wrap x = x % 256 := by simp [IntKind.wrap, IntKind.signed, IntKind.bits]
theorem Rd.addB {P : Program} {Γ : Cx} {σ : St} {S : List Nat} {dst : Option Tmp} {ty : TypeId} {pos : String} {af : Array Edge} {gd : Option (Nat × Bool)} {x y : Operand} {xT yT : TypeId} {a b : UInt8} (hx : σ.ev x = some (isD (B8 a))) (hy : σ.ev y = some (isD (B8 b))) : Rd P Γ S ⟨dst, .binOp .add xT x y yT, ty, pos, af, gd⟩ σ (isD (B8 (a + b))) := Rd.bin hx hy fun _ => by
  have h : IntKind.u8.wrap ((a.toNat : Int) + (b.toNat : Int)) = ((a + b).toNat : Int) := by rw [wrap8, UInt8.toNat_add]; simp
  simp [eqGuard, binOp, B8, go_sem, h]
theorem leAll_eq {ds es : List D} (h : ds = es) : LeAll ds es := by subst h; exact LeAll.refl _
theorem key_step {i : Nat} {b : UInt8} (h : i < 32) : ((cellsOf (List.replicate i b ++ List.replicate (32 - i) 0)).map isD).set i (isD (B8 b)) = (cellsOf (List.replicate (i + 1) b ++ List.replicate (32 - (i + 1)) 0)).map isD := by
  have e : (List.replicate i b ++ List.replicate (32 - i) (0 : UInt8)).set i b = List.replicate (i + 1) b ++ List.replicate (32 - (i + 1)) 0 := by
    rw [show 32 - i = (32 - (i + 1)) + 1 by omega, List.replicate_succ, List.set_append_right _ _ (by simp)]
    simp only [List.length_replicate, Nat.sub_self, List.set_cons_zero]
    rw [List.replicate_succ', List.append_assoc]
    rfl
  rw [← e]
  unfold cellsOf
  rw [List.map_set, List.map_set]

end Sx
end Go.Proofs.YtchbgfgboogniaaDoor
