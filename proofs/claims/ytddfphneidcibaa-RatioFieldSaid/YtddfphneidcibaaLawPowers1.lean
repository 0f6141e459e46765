/-
  THE LAW NumberPowers.
-/
import Derived.Test.YtddfphneidcibaaLawTexts1
namespace Go.Proofs.Ytddfphneidcibaa
open Go.RowKit
open Nm (W32)
namespace Sx
theorem one512 : (1 : Int).natAbs < big512 := by unfold big512; decide +kernel
theorem byt_len0 {x : Int} : (((cN .u8 (Nm.dg 256 x.natAbs).reverse).length : Int) = 0) ↔ x = 0 := by
  rw [cN_length, List.length_reverse, Nm.dg_length]
  have := Nm.len_eq_zero (B := 256) (x := x.natAbs) (by decide)
  omega
theorem b1 : (1 : Int).natAbs < b4 := b4_512 (by unfold big512; decide +kernel)
end Sx
end Go.Proofs.Ytddfphneidcibaa
