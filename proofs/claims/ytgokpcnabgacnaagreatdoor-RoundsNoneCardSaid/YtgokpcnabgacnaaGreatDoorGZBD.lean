/- ENVELOPES: the reference. -/
import Derived.Test.YtgokpcnabgacnaaGreatDoorGZBC
import Derived.Test.YtgokpcnabgacnaaGreatDoorGZAL
set_option maxHeartbeats 8000000
set_option maxRecDepth 100000
namespace Go.Proofs.YtgokpcnabgacnaaGreatDoor
open Go.RowKit
namespace Sx
section
variable {l : List Acc.T} {nm : List UInt8} {rnd ser : Int} {key nonce bid : List UInt8} {e : Env.T}
end
theorem con_sumR2 (b : List UInt8) (hb : b.length ≤ 1000000) : ConN Tryz.prog 140 [bD b] (gD (Bl.hash [] b)) := by
 refine yE Tryz.func140 k9 rfl k9 fun base w0 => (zh (zb (zk (S := []) (zQ (zs := cellsOf (List.replicate 32 0)) k9 rfl) ?_)))
 rintro _ ⟨g2, rfl⟩
 refine zg (zc (zh (zb (za rfl (zd rfl) (zk (S := []) (yo (con_hashR b o9) rfl ⟨zf _, zf _, trivial⟩ rfl) ?_)))))
 rintro _ rfl
 refine zk (S := []) (zA [] (con_fixed _ s9) rfl ⟨(zr (zf _)), trivial⟩ rfl) ?_
 rintro _ rfl
 refine zk (S := [_]) (ZT 0 32 rfl rfl rfl k9 (by first | assumption | (simp; done) | (simp; omega)) (by first | assumption | (simp; done) | (simp; omega)) (List.mem_singleton.2 rfl)) ?_
 rintro _ rfl
 refine zg (zc (zH (fn := Tryz.f140) (fun _ _ h => h) (Rs.le (Rs.one rfl (ResV.cellG (n := 32) 0 rfl rfl k9 (by first | assumption | (simp; done) | (simp; omega)))) ?_)))
 exact (Le.trans (le_agg_g _) zt)
theorem con_commitR (key : List UInt8) (hk : key.length ≤ 100000) : Con Tryz.prog 81 [bD key] (Yq [yt (Env.comB key), iD (Env.comE key)]) := by
 refine con_of Tryz.func81 k9 rfl k9 fun base w0 => (zh (zb (za rfl (ze rfl) (za rfl (ze rfl) (zg (zc (zh (zh (zb (za rfl (zd rfl) (za rfl (Rd.len (e := 5) rfl k9) (za rfl (yd rfl rfl) (zg (zc (zJ rfl (fun hb7 => ?_) (fun hb7 => ?_))))))))))))))))
 ·have h7 : ¬ key.length = 32 := by (simp at hb7; omega)
  refine zh (zb (za rfl (ze rfl) (za rfl (ze rfl) (zg (zc (zH (fn := Tryz.f81) (fun _ _ h => h) (Rs.le (Rs.two rfl (zo rfl) (zo rfl)) ?_)))))))
  exact yJ ⟨zC (by rw [Env.comB, if_neg h7]), zC (by rw [Env.comE, if_neg h7]), trivial⟩
 ·have h7 : key.length = 32 := by (simp at hb7; omega)
  refine zu (zc (zh (zb (za rfl (zd rfl) (za rfl (Rd.str (e := 5) rfl k9 k9 k9 s9) (za rfl (Rd.sadd rfl rfl (by simp; omega)) (zk (S := []) (Ef.bytes (e := 5) rfl k9 k9 k9 rfl) ?_)))))))
  rintro _ rfl
  refine zk (S := []) (zA [] (con_sumR2 _ (by simp; omega)) rfl ⟨(zr le_nw), trivial⟩ rfl) ?_
  rintro _ rfl
  refine zk (S := []) (zQ (zs := cellsOf (List.replicate 32 0)) k9 rfl) ?_
  rintro _ ⟨g4, rfl⟩
  refine zk (S := [_]) (ZT 0 32 rfl rfl rfl k9 (by first | assumption | (simp; done) | (simp; omega)) (by first | assumption | (simp; done) | (simp; omega)) (List.mem_singleton.2 rfl)) ?_
  rintro _ rfl
  refine zg (zc (zh (zb (za rfl (Rd.slArr (e := 5) (n := 32) rfl k9 k9) (za rfl (Rd.strBox (e := 5) 0 rfl rfl (by first | assumption | (simp; done) | (simp; omega)) k9 k9 k9 zp) (za rfl (ze rfl) (za rfl (ze rfl) (zg (zc (zH (fn := Tryz.f81) (fun _ _ h => h) (Rs.le (Rs.two rfl (zo rfl) (zo rfl)) ?_)))))))))))
  exact yJ ⟨zC (by rw [Env.comB, if_pos h7]; rfl), zC (by rw [Env.comE, if_pos h7]), trivial⟩
end Sx
end Go.Proofs.YtgokpcnabgacnaaGreatDoor
