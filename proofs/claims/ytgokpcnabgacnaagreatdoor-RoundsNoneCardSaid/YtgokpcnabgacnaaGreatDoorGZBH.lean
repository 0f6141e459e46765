/- ROUNDS: the reference's Follow. ROUNDS: submitted, revealed. ROUNDS: nil and zero rounds. -/
import Derived.Test.YtgokpcnabgacnaaGreatDoorGZBG
set_option maxHeartbeats 8000000
set_option maxRecDepth 100000
namespace Go.Proofs.YtgokpcnabgacnaaGreatDoor
open Go.RowKit
namespace Sx
end Sx
end Go.Proofs.YtgokpcnabgacnaaGreatDoor
namespace Go.Proofs.YtgokpcnabgacnaaGreatDoor
open Go.RowKit
namespace Sx
end Sx
end Go.Proofs.YtgokpcnabgacnaaGreatDoor
namespace Go.Proofs.YtgokpcnabgacnaaGreatDoor
open Go.RowKit
namespace Sx
theorem con_State_n (rv : D) [One rv] (hn : ConN Tryz.prog 55 [rv] (yY true)) (r now : Int) : ConN Tryz.prog 16 [rv, iD r, iD now] (Yq [iD 0, iD 1]) := by
 refine yE Tryz.func16 k9 rfl k9 fun base w0 => (zh (zb (za rfl (ze rfl) (za rfl (ze rfl) (zg (zc (zh (zh (zb (za rfl (zd rfl) (zk (S := []) (zA [] (hn) rfl ⟨(zr (zf _)), trivial⟩ rfl) ?_)))))))))))
 rintro _ rfl
 refine zg (zc (yf rfl (rfl) (zh (zb (za rfl (ze rfl) (za rfl (ze rfl) (zg (zc (zH (fn := Tryz.f16) (fun _ _ h => h) (Rs.le (Rs.two rfl (zo rfl) (zo rfl)) ?_))))))))))
 exact (Yn ⟨zt, zt, trivial⟩)
theorem con_Record_n (rv : D) [One rv] (hn : ConN Tryz.prog 55 [rv] (yY true)) (k : Int) : ConN Tryz.prog 45 [rv, iD k, isD (.slice none 0 0)] (Yq [iD 0, iD 1]) := by
 refine yE Tryz.func45 k9 rfl k9 fun base w0 => (zh (zb (za rfl (ze rfl) (za rfl (ze rfl) (zg (zc (zh (zh (zb (za rfl (zd rfl) (zk (S := []) (zA [] (hn) rfl ⟨(zr (zf _)), trivial⟩ rfl) ?_)))))))))))
 rintro _ rfl
 refine zg (zc (yf rfl (rfl) (zh (zb (za rfl (ze rfl) (za rfl (ze rfl) (zg (zc (zH (fn := Tryz.f45) (fun _ _ h => h) (Rs.le (Rs.two rfl (zo rfl) (zo rfl)) ?_))))))))))
 exact (Yn ⟨zt, zt, trivial⟩)
theorem con_Bids_n (rv : D) [One rv] (hn : ConN Tryz.prog 55 [rv] (yY true)) (r : Int) : ConN Tryz.prog 43 [rv, iD r] (Yq [isD (.slice none 0 0), iD 1]) := by
 refine yE Tryz.func43 k9 rfl k9 fun base w0 => (zh (zb (zk (S := []) (Yo rfl (fun _ _ _ h => ZG (One.h _ _ _ h)) rfl) ?_)))
 rintro _ ⟨g2, rfl⟩
 refine za rfl (ze rfl) (za rfl (ze rfl) (zg (zc (zh (zh (zb (za rfl (zl 0 rfl rfl rfl k9 zp) (zk (S := []) (zA [] (hn) rfl ⟨(zr (zf _)), trivial⟩ rfl) ?_))))))))
 rintro _ rfl
 refine zg (zc (yf rfl (rfl) (zh (zb (za rfl (ze rfl) (za rfl (ze rfl) (zg (zc (zH (fn := Tryz.f43) (fun _ _ h => h) (Rs.le (Rs.two rfl (zo rfl) (zo rfl)) ?_))))))))))
 exact (Yn ⟨zt, zt, trivial⟩)
theorem con_Submit_n (rv : D) [One rv] (hn : ConN Tryz.prog 55 [rv] (yY true)) (now : Int) : ConN Tryz.prog 22 [rv, yX [yt [], iD 0, iD 0, isD (.slice none 0 0), isD (.slice none 0 0)], iD now] (iD 1) := by
 refine yE Tryz.func22 k9 rfl k9 fun base w0 => (zh (zb (zk (S := []) (Yo rfl (fun _ _ _ h => ZG (One.h _ _ _ h)) rfl) ?_)))
 rintro _ ⟨g3, rfl⟩
 refine zk (S := []) (yF rfl rfl) ?_
 rintro _ ⟨g4, rfl⟩
 refine zk (S := []) (Yo rfl (fun _ _ _ h => ZG (One.h _ _ _ h)) rfl) ?_
 rintro _ ⟨g5, rfl⟩
 refine za rfl (ze rfl) (zg (zc (zh (zh (zb (za rfl (zl 0 rfl rfl rfl k9 zp) (zk (S := []) (zA [] (hn) rfl ⟨(zr (zf _)), trivial⟩ rfl) ?_)))))))
 rintro _ rfl
 refine zg (zc (yf rfl (rfl) (zh (zb (za rfl (ze rfl) (zg (zc (zH (fn := Tryz.f22) (fun _ _ h => h) (Rs.le (Rs.one rfl (zo rfl)) ?_)))))))))
 exact zt
theorem con_Reveal_n (rv : D) [One rv] (hn : ConN Tryz.prog 55 [rv] (yY true)) (r now : Int) : ConN Tryz.prog 39 [rv, iD r, isD (.slice none 0 0), iD now] (iD 1) := by
 refine yE Tryz.func39 k9 rfl k9 fun base w0 => (zh (zb (zk (S := []) (Yo rfl (fun _ _ _ h => ZG (One.h _ _ _ h)) rfl) ?_)))
 rintro _ ⟨g4, rfl⟩
 refine zk (S := []) (Yo rfl (fun _ _ _ h => ZG (One.h _ _ _ h)) rfl) ?_
 rintro _ ⟨g5, rfl⟩
 refine zk (S := []) (Yo rfl (fun _ _ _ h => ZG (One.h _ _ _ h)) rfl) ?_
 rintro _ ⟨g6, rfl⟩
 refine zk (S := []) (Yo rfl (fun _ _ _ h => ZG (One.h _ _ _ h)) rfl) ?_
 rintro _ ⟨g7, rfl⟩
 refine za rfl (ze rfl) (zg (zc (zh (zh (zb (za rfl (zl 0 rfl rfl rfl k9 zp) (zk (S := []) (zA [] (hn) rfl ⟨(zr (zf _)), trivial⟩ rfl) ?_)))))))
 rintro _ rfl
 refine zg (zc (yf rfl (rfl) (zh (zb (za rfl (ze rfl) (zg (zc (zH (fn := Tryz.f39) (fun _ _ h => h) (Rs.le (Rs.one rfl (zo rfl)) ?_)))))))))
 exact zt
theorem con_Clock_n (rv : D) [One rv] (hn : ConN Tryz.prog 55 [rv] (yY true))  : ConN Tryz.prog 15 [rv] (iD 0) := by
 refine yE Tryz.func15 k9 rfl k9 fun base w0 => (zh (zb (za rfl (ze rfl) (zg (zc (zh (zh (zb (za rfl (zd rfl) (zk (S := []) (zA [] (hn) rfl ⟨(zr (zf _)), trivial⟩ rfl) ?_))))))))))
 rintro _ rfl
 refine zg (zc (yf rfl (rfl) (zh (zb (za rfl (ze rfl) (zg (zc (zH (fn := Tryz.f15) (fun _ _ h => h) (Rs.le (Rs.one rfl (zo rfl)) ?_)))))))))
 exact zt
theorem con_Len_n (rv : D) [One rv] (hn : ConN Tryz.prog 55 [rv] (yY true))  : ConN Tryz.prog 14 [rv] (iD 0) := by
 refine yE Tryz.func14 k9 rfl k9 fun base w0 => (zh (zb (za rfl (ze rfl) (zg (zc (zh (zh (zb (za rfl (zd rfl) (zk (S := []) (zA [] (hn) rfl ⟨(zr (zf _)), trivial⟩ rfl) ?_))))))))))
 rintro _ rfl
 refine zg (zc (yf rfl (rfl) (zh (zb (za rfl (ze rfl) (zg (zc (zH (fn := Tryz.f14) (fun _ _ h => h) (Rs.le (Rs.one rfl (zo rfl)) ?_)))))))))
 exact zt
theorem con_Ledger_n (rv : D) [One rv] (hn : ConN Tryz.prog 55 [rv] (yY true))  : ConN Tryz.prog 41 [rv] (isD (.pointer none)) := by
 refine yE Tryz.func41 k9 rfl k9 fun base w0 => (zh (zb (za rfl (ze rfl) (zg (zc (zh (zh (zb (za rfl (zd rfl) (zk (S := []) (zA [] (hn) rfl ⟨(zr (zf _)), trivial⟩ rfl) ?_))))))))))
 rintro _ rfl
 refine zg (zc (yf rfl (rfl) (zh (zb (za rfl (ze rfl) (zg (zc (zH (fn := Tryz.f41) (fun _ _ h => h) (Rs.le (Rs.one rfl (zo rfl)) ?_)))))))))
 exact zt
theorem con_Book_n (rv : D) [One rv] (hn : ConN Tryz.prog 55 [rv] (yY true))  : ConN Tryz.prog 29 [rv] (isD (.pointer none)) := by
 refine yE Tryz.func29 k9 rfl k9 fun base w0 => (zh (zb (za rfl (ze rfl) (zg (zc (zh (zh (zb (za rfl (zd rfl) (zk (S := []) (zA [] (hn) rfl ⟨(zr (zf _)), trivial⟩ rfl) ?_))))))))))
 rintro _ rfl
 refine zg (zc (yf rfl (rfl) (zh (zb (za rfl (ze rfl) (zg (zc (zH (fn := Tryz.f29) (fun _ _ h => h) (Rs.le (Rs.one rfl (zo rfl)) ?_)))))))))
 exact zt
theorem con_Copy_n (rv : D) [One rv] (hn : ConN Tryz.prog 55 [rv] (yY true))  : ConN Tryz.prog 46 [rv] (isD (.pointer none)) := by
 refine yE Tryz.func46 k9 rfl k9 fun base w0 => (zh (zb (za rfl (ze rfl) (zg (zc (zh (zh (zb (za rfl (zd rfl) (zk (S := []) (zA [] (hn) rfl ⟨(zr (zf _)), trivial⟩ rfl) ?_))))))))))
 rintro _ rfl
 refine zg (zc (yf rfl (rfl) (zh (zb (za rfl (ze rfl) (zg (zc (zH (fn := Tryz.f46) (fun _ _ h => h) (Rs.le (Rs.one rfl (zo rfl)) ?_)))))))))
 exact zt
theorem con_Envelopes_n (rv : D) [One rv] (hn : ConN Tryz.prog 55 [rv] (yY true)) (r : Int) : ConN Tryz.prog 21 [rv, iD r] (fnD 62 [paD [lsD encEn []]]) := by
 refine yE Tryz.func21 k9 rfl k9 fun base w0 => (zh (zb (za rfl (ze rfl) (zg (zc (zh (zb (zk (S := []) (zQ (zs := [.slice none 0 0]) k9 rfl) ?_))))))))
 rintro _ ⟨g5, rfl⟩
 refine zg (zc (zh (zh (zb (za rfl (zd rfl) (zk (S := []) (zA [] (hn) rfl ⟨(zr (zf _)), trivial⟩ rfl) ?_))))))
 rintro _ rfl
 refine za rfl (yU rfl) (za rfl (zd rfl) (zn rfl rfl (rfl) rfl rfl (zn rfl rfl (rfl) rfl rfl (zn rfl rfl (rfl) rfl rfl (za rfl (zy rfl (rfl) rfl) (zg (zc (zE rfl (rfl) (zu (zc (zh (zb (za rfl (y9 [.pointer (some ⟨g5, 0, none⟩)] rfl) (za rfl (ze rfl) (zg (zc (SW.freezeFN (es := [lsD encEn []]) 0 4 rfl rfl rfl ⟨Le.trans (zt (x := .slice none 0 0)) (le_nw_mono (Nat.le_refl _) le_nil_ls), trivial⟩ (zH (fn := Tryz.f21) (fun _ _ h => h) (Rs.le (Rs.one rfl (zo rfl)) ?_)))))))))))))))))))
 exact zf _
theorem con_replay_n1 (dl : D) [One dl] : ConN Tryz.prog 38 [isD (.pointer none), isD (.slice none 0 0), dl] (Yq [isD (.pointer none), iD 0, iD 1]) := by
 refine yE Tryz.func38 k9 rfl k9 fun base w0 => (zh (zb (za rfl (ze rfl) (za rfl (ze rfl) (za rfl (ze rfl) (zg (zc (SW.scope (zh (zh (zb (za rfl (zd rfl) (za rfl (Z0 rfl rfl k9) (za rfl (zd rfl) (zn rfl rfl (rfl) rfl rfl (zn rfl rfl (rfl) rfl rfl (za rfl (zz rfl (rfl) rfl) (zg (zc (yf rfl (rfl) (zh (zb (za rfl (ze rfl) (za rfl (ze rfl) (za rfl (ze rfl) (zg (zc (zH (fn := Tryz.f38) (fun _ _ h => h) (Rs.le (Rs.three rfl (zo rfl) (zo rfl) (zo rfl)) ?_)))))))))))))))))))))))))))))
 exact (Yn ⟨zt, zt, zt, trivial⟩)
theorem con_replay_n2 (p : Addr) : ConN Tryz.prog 38 [isD (.pointer (some p)), isD (.slice none 0 0), isD (.pointer none)] (Yq [isD (.pointer none), iD 0, iD 1]) := by
 refine yE Tryz.func38 k9 rfl k9 fun base w0 => (zh (zb (za rfl (ze rfl) (za rfl (ze rfl) (za rfl (ze rfl) (zg (zc (SW.scope (zh (zh (zb (za rfl (zd rfl) (za rfl (Z0 rfl rfl k9) (za rfl (zd rfl) (zU 21 rfl (fun hb21 => ?_) (fun hb21 => ?_))))))))))))))))
 ·skip
  refine zn rfl rfl (hb21) rfl rfl (zn rfl rfl (hb21) rfl rfl (za rfl (zz rfl (hb21) rfl) (zg (zc (yf rfl (rfl) (zh (zb (za rfl (ze rfl) (za rfl (ze rfl) (za rfl (ze rfl) (zg (zc (zH (fn := Tryz.f38) (fun _ _ h => h) (Rs.le (Rs.three rfl (zo rfl) (zo rfl) (zo rfl)) ?_))))))))))))))
  exact (Yn ⟨zt, zt, zt, trivial⟩)
 ·skip
  refine zm rfl rfl (hb21) rfl rfl (zd rfl) (zm rfl rfl (hb21) rfl rfl (Z0 rfl rfl k9) (za rfl (zy rfl (hb21) rfl) (zg (zc (yf rfl (rfl) (zh (zb (za rfl (ze rfl) (za rfl (ze rfl) (za rfl (ze rfl) (zg (zc (zH (fn := Tryz.f38) (fun _ _ h => h) (Rs.le (Rs.three rfl (zo rfl) (zo rfl) (zo rfl)) ?_))))))))))))))
  exact (Yn ⟨zt, zt, zt, trivial⟩)
end Sx
end Go.Proofs.YtgokpcnabgacnaaGreatDoor
