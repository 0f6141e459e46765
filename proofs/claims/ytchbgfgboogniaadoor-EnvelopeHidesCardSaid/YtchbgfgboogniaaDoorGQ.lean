/-
  ACCOUNTS: the law's key, over.
  ACCOUNTS: what the law's known needs.
-/
import Derived.Test.YtchbgfgboogniaaDoorGP
namespace Go.Proofs.YtchbgfgboogniaaDoor
open Go.RowKit
namespace Sx
end Sx
end Go.Proofs.YtchbgfgboogniaaDoor
namespace Go.Proofs.YtchbgfgboogniaaDoor
open Go.RowKit
namespace Sx
theorem bldA3 {n : List UInt8} {r : Int} {b : List UInt8} : Bld Tryd.prog 33 [0, 1, 2] [strD n, iD r, bD b] [strD n, iD r, bD b, iD 0, iD 0] := fun L w vs hv => by
  match vs, hv with
  | [x, y, z], ⟨hx, hy, h3, _⟩ =>
    cases hx; cases hy
    have h3' := h3
    obtain ⟨A, cp, rfl, -⟩ := h3
    exact ⟨[.string _, .int .i64 r, .slice A _ cp, .int .i64 0, .int .i64 0], ⟨rfl, rfl, h3', rfl, rfl, trivial⟩, fun w' => by kernel_rfl⟩
theorem blsA2 (x y : Acc.T) : Bls Tryd.prog 22 2 [0, 1] [aggD [strD x.name, iD x.role, bD x.key, iD x.dep, iD x.num], aggD [strD y.name, iD y.role, bD y.key, iD y.dep, iD y.num]] ([x, y].flatMap encA) := ⟨33, fun L w vs hv => by
  obtain ⟨u, v, rfl, h1, h2⟩ := all2 hv
  obtain ⟨cs, rfl, hc⟩ := h1
  obtain ⟨ds, rfl, hd⟩ := h2
  match cs, hc, ds, hd with
  | [a, b, c, d, e], hc, [a', b', c', d', e'], hd =>
    obtain ⟨rfl, rfl, h3, rfl, rfl, -⟩ := hc
    obtain ⟨rfl, rfl, k3, rfl, rfl, -⟩ := hd
    have h3' := h3
    have k3' := k3
    obtain ⟨A, cp, rfl, -⟩ := h3
    obtain ⟨A', cp', rfl, -⟩ := k3
    exact ⟨[.string _, .int .i64 _, .slice A _ cp, .int .i64 _, .int .i64 _, .string _, .int .i64 _, .slice A' _ cp', .int .i64 _, .int .i64 _], ⟨rfl, rfl, h3', rfl, rfl, rfl, rfl, k3', rfl, rfl, trivial⟩, fun w' => by kernel_rfl⟩⟩
theorem le_rb0 : LeAll [isD (.slice none 0 0)] [lsD encA []] := ⟨le_nil_ls, trivial⟩
abbrev aW : Acc.T := ⟨[119, 120, 121, 122], 1, List.replicate 32 7, 100, 5⟩
theorem addW : Acc.add [] aW = ([aW], 0) := (Acc.add_ok (by decide +kernel) (by decide +kernel) (by decide)).trans (by rfl)
theorem con_add_to {gb : Nat} {s : Bst} {l l' : List Acc.T} {a : Acc.T} {e : Int} {A : Option Addr} {c : Nat} {F : List Nat} {R : Res} (hR : IsView R (.slice A a.key.length c) (cellsOf a.key)) (hf : Acc.Fine l) (h : Acc.add l a = (l', e)) :
    ConR Tryd.prog 11 [bookC gb s l, bookN s l, bookA s l, bookS s l, .r F R] [isD (.pointer (some ⟨gb, 0, none⟩)), aggD [strD a.name, iD a.role, isD (.slice A a.key.length c), iD a.dep, iD a.num]]
      (fun t : Bst => [bookC gb t l', bookN t l', bookA t l', bookS t l', .r F R]) (fun _ => iD e) := by
  have hc := con_add gb s l a A c F R hR hf
  rw [h] at hc
  exact hc
end Sx
end Go.Proofs.YtchbgfgboogniaaDoor
