/- ENVELOPES: the reference. -/
import Derived.Test.YtgokpcnabgacnaaGreatDoorGZBC
import Derived.Test.YtgokpcnabgacnaaGreatDoorGZAL
set_option maxHeartbeats 8000000
set_option maxRecDepth 100000
namespace Go.Proofs.YtgokpcnabgacnaaGreatDoor
open Go.RowKit
namespace Sx
section
variable {l : List Acc.T} {nm : List UInt8} {rnd ser : Int} {key nonce bid : List UInt8} {e : Env.T}
end
theorem con_sumR2 (b:LB) (hb:b.length≤1000000):ConN Tryz.prog 140 [bD b] (gD (Bl.hash [] b)):=by
 refine yJ Tryz.func140 k9 V k9 fun base w0=>(zh (zb (zl (S:=[]) (zH (zs:=cellsOf (List.replicate 32 0)) k9 V) ?_)));rintro _ ⟨g2,rfl⟩;refine zf (zc (zh (zb (za V (ze V) (zl (S:=[]) (yg (con_hashR b o9) V ⟨zd _,zd _,t9⟩ V) ?_)))));rintro _ rfl;refine zl (S:=[]) (zz [] (con_fixed _ s9) V ⟨(zq (zd _)),t9⟩ V) ?_;rintro _ rfl
 refine zl (S:=[_]) (Z6 0 32 V V V k9 (by first | assumption | (simp;done) | (simp;omega)) (by first | assumption | (simp;done) | (simp;omega)) (m9 V)) ?_
 rintro _ rfl
 refine zf (zc (zR (fn:=Tryz.f140) (fun _ _ h=>h) (Rs.le (Rs.one V (ResV.cellG (n:=32) 0 V V k9 (by first | assumption | (simp;done) | (simp;omega)))) ?_)))
 exact (Le.trans (le_agg_g _) zv)
theorem con_commitR (key:LB) (hk:key.length≤100000):Con Tryz.prog 81 [bD key] (Yv [yp (Env.comB key),iD (Env.comE key)]):=by
 refine con_of Tryz.func81 k9 V k9 fun base w0=>(zh (zb (za V (zg V) (za V (zg V) (zf (zc (zh (zh (zb (za V (ze V) (za V (Zq (e:=5) V k9) (za V (zX V V) (zf (zc (zI V (fun hb7=> ?_) (fun hb7=> ?_))))))))))))))))
 ·have h7:¬key.length=32:=by (simp at hb7;omega)
  refine zh (zb (za V (zg V) (za V (zg V) (zf (zc (zR (fn:=Tryz.f81) (fun _ _ h=>h) (Rs.le (yN V (zp V) (zp V)) ?_)))))));exact Zc ⟨zE (by rw [Env.comB,if_neg h7]),zE (by rw [Env.comE,if_neg h7]),t9⟩
 ·have h7:key.length=32:=by (simp at hb7;omega)
  refine zu (zc (zh (zb (za V (ze V) (za V (Rd.str (e:=5) V k9 k9 k9 s9) (za V (Rd.sadd V V (by simp;omega)) (zl (S:=[]) (Ef.bytes (e:=5) V k9 k9 k9 V) ?_)))))));rintro _ rfl;refine zl (S:=[]) (zz [] (con_sumR2 _ (by simp;omega)) V ⟨(zq le_nw),t9⟩ V) ?_;rintro _ rfl;refine zl (S:=[]) (zH (zs:=cellsOf (List.replicate 32 0)) k9 V) ?_;rintro _ ⟨g4,rfl⟩
  refine zl (S:=[_]) (Z6 0 32 V V V k9 (by first | assumption | (simp;done) | (simp;omega)) (by first | assumption | (simp;done) | (simp;omega)) (m9 V)) ?_
  rintro _ rfl
  refine zf (zc (zh (zb (za V (Rd.slArr (e:=5) (n:=32) V k9 k9) (za V (Rd.strBox (e:=5) 0 V V (by first | assumption | (simp;done) | (simp;omega)) k9 k9 k9 zn) (za V (zg V) (za V (zg V) (zf (zc (zR (fn:=Tryz.f81) (fun _ _ h=>h) (Rs.le (yN V (zp V) (zp V)) ?_)))))))))))
  exact Zc ⟨zE (by rw [Env.comB,if_pos h7];rfl),zE (by rw [Env.comE,if_pos h7]),t9⟩
end Sx
end Go.Proofs.YtgokpcnabgacnaaGreatDoor
