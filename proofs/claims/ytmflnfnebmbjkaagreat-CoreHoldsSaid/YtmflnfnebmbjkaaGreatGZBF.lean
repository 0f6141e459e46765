/- REFERENCE 40: Owed, Blocks, Core, Raised, Lowest. REFERENCE 40: VCG, Threshold, Raised. REFERENCE 40: Payments. -/
import Derived.Test.YtmflnfnebmbjkaaGreatGZBE
namespace Go.Proofs.YtmflnfnebmbjkaaGreat
open Go.RowKit
namespace Sx
section
end
section
theorem ox_succ {c i j:Nat} {p:Nat→Int}:Co.ox c i p (j + 1)=Co.ox c i p j + (if Co.bt c j=true∨j=i then 0 else p j):=rfl
theorem blsRt1 {K x:Int}:Bls Tryz.prog 33 1 [0] [Ys<|ZJ K x] ([x].flatMap<|ZJ K):=⟨43,fun L w vs hv=>by
 obtain ⟨u,rfl,cs,rfl,hc⟩:=zbe hv
 match cs,hc with
 | [a,b,c,d],hc=>
  obtain ⟨rfl,hb,rfl,hd,-⟩:=hc;have hb':=hb;have hd':=hd;obtain ⟨B,e,rfl,-⟩:=hb';obtain ⟨C,f,rfl,-⟩:=hd'
  exact ⟨[.bool<|decide (rn x K < 0),.slice B _ e,.bool<|decide (rd x K < 0),.slice C _ f],(show All L w (qKC K x) _ from ⟨I,hb,I,hd,t9⟩),fun w'=>by kernel_rfl⟩⟩
theorem V1 {f:Nat→Int} {i:Nat}:zy f (i + 1)=zy f i ++ [f i]:=tbl_succ
end
section
