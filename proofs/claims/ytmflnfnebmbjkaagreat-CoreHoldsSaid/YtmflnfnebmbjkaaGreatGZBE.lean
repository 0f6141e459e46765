/- REFERENCE 39: Search, Solve, Best. REFERENCE 40: Few, Has, Winners, Values, Bids. -/
import Derived.Test.YtmflnfnebmbjkaaGreatGZBD
namespace Go.Proofs.YtmflnfnebmbjkaaGreat
open Go.RowKit
namespace Sx
section
end
section
theorem tbl_succ {f:Nat→Int} {i:Nat}:zy f (i + 1)=zy f i ++ [f i]:=by unfold zy;rw [List.range_succ,XG];rfl
noncomputable instance (V bd:Nat→Int) (n:Nat) (p:Nat→Int):Decidable (Co.In V bd n p):=Classical.propDecidable _
noncomputable def inB (V bd:Nat→Int) (n:Nat) (p:Nat→Int):Bool:=decide (Co.In V bd n p)
theorem inB_iff {V bd:Nat→Int} {n:Nat} (h:Co.Mkt n V bd) {t:Int} (ht:0≤t):inB V bd n (Co.rs bd (Co.vcg V bd n) t)=true↔thT V bd n≤t:=by
 unfold inB;rw [decide_eq_true_iff];exact Co.in_iff h (fun _ _=>YK _) (fun _ _=>Z7 _) ht
