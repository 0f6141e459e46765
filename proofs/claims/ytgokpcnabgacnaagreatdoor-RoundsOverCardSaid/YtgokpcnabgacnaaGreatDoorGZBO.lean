/- ROUNDS: Replay. ROUNDS: what a replay comes to. -/
import Derived.Test.YtgokpcnabgacnaaGreatDoorGZBN
namespace Go.Proofs.YtgokpcnabgacnaaGreatDoor
open Go.RowKit
namespace Sx
section
instance:DecidableEq Led.Ent:=fun a b=>decidable_of_iff (a.kind=b.kind∧a.bytes=b.bytes) (by cases a;cases b;simp)
theorem Rnd.sub_no {s:Rnd.S} {e:Env.T} {now:Int} (h:Rnd.subE s e now≠0):Rnd.subS s e now=s:=Jb h
end
section
structure Rnd.Sz (s:Rnd.S):Prop where
 es:s.es.length≤s.en.length
 ws:s.ws.length=2
theorem put_len (es:List Env.T) (e:Env.T):(Rnd.put es e).length≤es.length + 1:=by
 unfold Rnd.put;rw [Jk];have:=List.length_filter_le (fun x=>decide (¬Rnd.same x e)) es;simp only [Xq];omega
theorem Rnd.Sz.sub {s:Rnd.S} (h:Rnd.Sz s) (e:Env.T) (now:Int):Rnd.Sz (Rnd.subS s e now):=by
 unfold Rnd.subS
 split
 ·refine ⟨?_,h.ws⟩;have:=put_len s.es e;have:=h.es;simp only [Jk,Xq];omega
 ·exact h
theorem Rnd.Sz.rev {s:Rnd.S} (h:Rnd.Sz s) (r:Int) (key:LB) (now:Int):Rnd.Sz (Rnd.revS s r key now):=by
 unfold Rnd.revS
 split
 ·refine ⟨?_,h.ws⟩;have:=h.es;simp only [Jk,Xq];omega
 ·exact h
theorem Rnd.Sz.recd {s:Rnd.S} (h:Rnd.Sz s) (k:Int) (p:LB):Rnd.Sz (Rnd.recS s k p):=by
 unfold Rnd.recS
 split
 ·refine ⟨?_,h.ws⟩;have:=h.es;simp only [Jk,Xq];omega
 ·exact h
theorem sz_start:Rnd.Sz (Rnd.start hL Vx):=⟨Js _,rfl⟩
theorem zf6 (z:Int):(Zs z).length≤4:=by
 have h:=zaf z;unfold Zs
 have h3:Yg z=0∨Yg z=1∨Yg z=2:=by omega
 rcases h3 with h | h | h <;> rw [h] <;> decide
theorem sldA_acc (a:Ac) (bid:LB):(qw hL a bid).acc.length≤4:=by
 unfold qw Rnd.sld Env.slT
 split
 ·exact zf6 _
 ·exact JC _
theorem mkE_acc {a:Ac} (h:a.short) (bid:LB):(YO hL a bid).acc.length≤1000000:=by
 have h1:=h.2.1;have h2:=sldA_acc a bid;have h3:=zf6 a.who
 rcases zgg a bid with ⟨_,e⟩ | ⟨_,e⟩ | ⟨_,_,e⟩ | ⟨_,x,t,r,_,_,_,_,e⟩ <;> rw [e]
 ·omega
 ·omega
 ·exact JC _
 ·show (Zs a.who).length≤_;omega
abbrev Rnd.S00:Rnd.S:=Rnd.start hL Vx
