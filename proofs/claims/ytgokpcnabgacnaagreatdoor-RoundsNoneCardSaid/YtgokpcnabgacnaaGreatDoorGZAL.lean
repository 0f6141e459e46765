/- ACCOUNTS: the reference's Name, Valid, Same, At, Of. ACCOUNTS: the reference's Remove, Add. -/
import Derived.Test.YtgokpcnabgacnaaGreatDoorGZAK
set_option maxHeartbeats 8000000
set_option maxRecDepth 100000
namespace Go.Proofs.YtgokpcnabgacnaaGreatDoor
open Go.RowKit
namespace Sx
theorem con_NameR (s : List UInt8) (hs : s.length ≤ 1000000) : ConN Tryz.prog 141 [yt s] (yY (decide (Acc.isName s))) := by
 refine yE Tryz.func141 k9 rfl k9 fun base w0 => (zh (zb (za rfl (ze rfl) (zg (zc (zh (zh (zb (za rfl (ze rfl) (zg (zc (zW (Zq (ι := {i : Nat // i ≤ s.length ∧ ∀ c ∈ s.take i, Acc.chr c}) (fun i => zR [(0, yt s), (3, iD (i.1 : Int))] []) (fun i => s.length - i.1) (⟨0, Nat.zero_le _, by simp⟩) ?_ ?_)))))))))))))
 ·exact (sB [] rfl rfl)
 ·rintro ⟨i, hi⟩ K0 hK0
  dsimp only at hi ⊢
  refine zh (zh (zb (za rfl (zd rfl) (za rfl (zd rfl) (za rfl (Rd.lenb rfl k9) (za rfl (yG rfl rfl) (zg (zc (zJ rfl (fun hb7 => ?_) (fun hb7 => ?_))))))))))
  ·have h7 := of_decide_eq_true hb7
   refine zu (zc (zh (zW (zh ?_))))
   obtain ⟨c, hc⟩ : ∃ c, s[i]? = some c := ⟨_, List.getElem?_eq_getElem o9⟩
   refine zb (za rfl (zd rfl) (za rfl (zd rfl) (za rfl (Rd.sidx rfl rfl k9 o9 (by simpa using hc)) (za rfl (ZL rfl rfl) (za rfl (zd rfl) (zU 14 rfl (fun hb14 => ?_) (fun hb14 => ?_)))))))
   ·have h14 := of_decide_eq_true hb14
    refine zm rfl rfl (hb14) rfl rfl (zd rfl) (zm rfl rfl (hb14) rfl rfl (zd rfl) (zm rfl rfl (hb14) rfl rfl (Rd.sidx rfl rfl k9 o9 (by simpa using hc)) (zm rfl rfl (hb14) rfl rfl (Rd.leq rfl rfl) (za rfl (zz rfl (hb14) rfl) (za rfl (zd rfl) (zU 20 rfl (fun hb20 => ?_) (fun hb20 => ?_)))))))
    ·have h20 := of_decide_eq_true hb20
     refine zn rfl rfl (hb20) rfl rfl (zn rfl rfl (hb20) rfl rfl (zn rfl rfl (hb20) rfl rfl (zn rfl rfl (hb20) rfl rfl (zn rfl rfl (hb20) rfl rfl (ZK rfl rfl rfl rfl (ZK rfl rfl rfl rfl (ZK rfl rfl rfl rfl (ZK rfl rfl rfl rfl (zn rfl rfl (hb20) rfl rfl (za rfl (zz rfl (hb20) rfl) (za rfl (zd rfl) (zn rfl rfl (rfl) rfl rfl (zn rfl rfl (rfl) rfl rfl (zn rfl rfl (rfl) rfl rfl (zn rfl rfl (rfl) rfl rfl (za rfl (zz rfl (rfl) rfl) (za rfl (yU rfl) (zg (zc (zE rfl (rfl) (zu (ye (zc (zb (za rfl (zd rfl) (za rfl (yM rfl rfl ⟨by omega, by omega⟩) (za rfl (ze rfl) (zg ?_))))))))))))))))))))))))))))
     have hgood : Acc.chr c := by first | (unfold Acc.chr; omega) | ((have h38 := hb38; simp only [Bool.not_eq_false', decide_eq_true_eq] at h38); unfold Acc.chr; omega)
     exact fun a w hh => hK0 (⟨i + 1, by omega, fun d hd => by rw [yc hc] at hd; rcases List.mem_append.1 hd with hd | hd; exact hi.2 d hd; rw [List.mem_singleton.1 hd]; exact hgood⟩) (by dsimp only; omega) a w (hh.sub (⟨⟨_, rfl, ⟨lq rfl, ⟨⟨_, rfl, zC s9⟩, trivial⟩⟩⟩, [], by decide, trivial⟩))
    ·have h20 := of_decide_eq_false hb20
     refine zm rfl rfl (hb20) rfl rfl (zd rfl) (zm rfl rfl (hb20) rfl rfl (zd rfl) (zm rfl rfl (hb20) rfl rfl (Rd.sidx rfl rfl k9 o9 (by simpa using hc)) (zm rfl rfl (hb20) rfl rfl (ZL rfl rfl) (zm rfl rfl (hb20) rfl rfl (zd rfl) (zU 25 rfl (fun hb25 => ?_) (fun hb25 => ?_))))))
     ·have h25 := of_decide_eq_true hb25
      refine zm rfl rfl (hb25) rfl rfl (zd rfl) (zm rfl rfl (hb25) rfl rfl (zd rfl) (zm rfl rfl (hb25) rfl rfl (Rd.sidx rfl rfl k9 o9 (by simpa using hc)) (zm rfl rfl (hb25) rfl rfl (Rd.leq rfl rfl) (zm rfl rfl (hb20) rfl rfl (zz rfl (hb25) rfl) (za rfl (zy rfl (hb20) rfl) (za rfl (zd rfl) (zU 32 rfl (fun hb32 => ?_) (fun hb32 => ?_))))))))
      ·have h32 := of_decide_eq_true hb32
       refine zn rfl rfl (hb32) rfl rfl (zn rfl rfl (hb32) rfl rfl (zn rfl rfl (hb32) rfl rfl (zn rfl rfl (hb32) rfl rfl (za rfl (zz rfl (hb32) rfl) (za rfl (yU rfl) (zg (zc (zE rfl (rfl) (zu (ye (zc (zb (za rfl (zd rfl) (za rfl (yM rfl rfl ⟨by omega, by omega⟩) (za rfl (ze rfl) (zg ?_))))))))))))))))
       have hgood : Acc.chr c := by first | (unfold Acc.chr; omega) | ((have h38 := hb38; simp only [Bool.not_eq_false', decide_eq_true_eq] at h38); unfold Acc.chr; omega)
       exact fun a w hh => hK0 (⟨i + 1, by omega, fun d hd => by rw [yc hc] at hd; rcases List.mem_append.1 hd with hd | hd; exact hi.2 d hd; rw [List.mem_singleton.1 hd]; exact hgood⟩) (by dsimp only; omega) a w (hh.sub (⟨⟨_, rfl, ⟨lq rfl, ⟨⟨_, rfl, zC s9⟩, trivial⟩⟩⟩, [], by decide, trivial⟩))
      ·have h32 := of_decide_eq_false hb32
       refine zm rfl rfl (hb32) rfl rfl (zd rfl) (zm rfl rfl (hb32) rfl rfl (zd rfl) (zm rfl rfl (hb32) rfl rfl (Rd.sidx rfl rfl k9 o9 (by simpa using hc)) (zm rfl rfl (hb32) rfl rfl (yP rfl rfl) (za rfl (zy rfl (hb32) rfl) (za rfl (yU rfl) (zg (zc (zJ rfl (fun hb38 => ?_) (fun hb38 => ?_)))))))))
       ·have hbad : ¬ Acc.chr c := by (have h38 := hb38; simp only [Bool.not_eq_true', decide_eq_false_iff_not] at h38); unfold Acc.chr; omega
        refine zh (zb (za rfl (ze rfl) (zg (zc (zH (fn := Tryz.f141) (fun _ _ h => h) (Rs.le (Rs.one rfl (zo rfl)) ?_))))))
        first | exact Le.trans (zL (fun h => hbad (h.1 c (List.mem_of_getElem? hc)))) zt | exact Le.trans (zL (fun h => by have := h.2.1; omega)) zt | exact Le.trans (Zp ⟨fun h => ⟨fun d hd => hi.2 d (by rw [List.take_of_length_le o9]; exact hd), by omega, by omega⟩, fun h => by have := h.2.2; omega⟩) zt
       ·skip
        refine zu (ye (zc (zb (za rfl (zd rfl) (za rfl (yM rfl rfl ⟨by omega, by omega⟩) (za rfl (ze rfl) (zg ?_)))))))
        have hgood : Acc.chr c := by first | (unfold Acc.chr; omega) | ((have h38 := hb38; simp only [Bool.not_eq_false', decide_eq_true_eq] at h38); unfold Acc.chr; omega)
        exact fun a w hh => hK0 (⟨i + 1, by omega, fun d hd => by rw [yc hc] at hd; rcases List.mem_append.1 hd with hd | hd; exact hi.2 d hd; rw [List.mem_singleton.1 hd]; exact hgood⟩) (by dsimp only; omega) a w (hh.sub (⟨⟨_, rfl, ⟨lq rfl, ⟨⟨_, rfl, zC s9⟩, trivial⟩⟩⟩, [], by decide, trivial⟩))
     ·have h25 := of_decide_eq_false hb25
      refine zn rfl rfl (hb25) rfl rfl (zn rfl rfl (hb25) rfl rfl (zn rfl rfl (hb25) rfl rfl (zn rfl rfl (hb25) rfl rfl (zm rfl rfl (hb20) rfl rfl (zy rfl (hb25) rfl) (za rfl (zy rfl (hb20) rfl) (za rfl (zd rfl) (zm rfl rfl (rfl) rfl rfl (zd rfl) (zm rfl rfl (rfl) rfl rfl (zd rfl) (zm rfl rfl (rfl) rfl rfl (Rd.sidx rfl rfl k9 o9 (by simpa using hc)) (zm rfl rfl (rfl) rfl rfl (yP rfl rfl) (za rfl (zy rfl (rfl) rfl) (za rfl (yU rfl) (zg (zc (zJ rfl (fun hb38 => ?_) (fun hb38 => ?_))))))))))))))))
      ·have hbad : ¬ Acc.chr c := by (have h38 := hb38; simp only [Bool.not_eq_true', decide_eq_false_iff_not] at h38); unfold Acc.chr; omega
       refine zh (zb (za rfl (ze rfl) (zg (zc (zH (fn := Tryz.f141) (fun _ _ h => h) (Rs.le (Rs.one rfl (zo rfl)) ?_))))))
       first | exact Le.trans (zL (fun h => hbad (h.1 c (List.mem_of_getElem? hc)))) zt | exact Le.trans (zL (fun h => by have := h.2.1; omega)) zt | exact Le.trans (Zp ⟨fun h => ⟨fun d hd => hi.2 d (by rw [List.take_of_length_le o9]; exact hd), by omega, by omega⟩, fun h => by have := h.2.2; omega⟩) zt
      ·skip
       refine zu (ye (zc (zb (za rfl (zd rfl) (za rfl (yM rfl rfl ⟨by omega, by omega⟩) (za rfl (ze rfl) (zg ?_)))))))
       have hgood : Acc.chr c := by first | (unfold Acc.chr; omega) | ((have h38 := hb38; simp only [Bool.not_eq_false', decide_eq_true_eq] at h38); unfold Acc.chr; omega)
       exact fun a w hh => hK0 (⟨i + 1, by omega, fun d hd => by rw [yc hc] at hd; rcases List.mem_append.1 hd with hd | hd; exact hi.2 d hd; rw [List.mem_singleton.1 hd]; exact hgood⟩) (by dsimp only; omega) a w (hh.sub (⟨⟨_, rfl, ⟨lq rfl, ⟨⟨_, rfl, zC s9⟩, trivial⟩⟩⟩, [], by decide, trivial⟩))
   ·have h14 := of_decide_eq_false hb14
    refine zn rfl rfl (hb14) rfl rfl (zn rfl rfl (hb14) rfl rfl (zn rfl rfl (hb14) rfl rfl (zn rfl rfl (hb14) rfl rfl (za rfl (zy rfl (hb14) rfl) (za rfl (zd rfl) (zm rfl rfl (rfl) rfl rfl (zd rfl) (zm rfl rfl (rfl) rfl rfl (zd rfl) (zm rfl rfl (rfl) rfl rfl (Rd.sidx rfl rfl k9 o9 (by simpa using hc)) (zm rfl rfl (rfl) rfl rfl (ZL rfl rfl) (zm rfl rfl (rfl) rfl rfl (zd rfl) (zU 25 rfl (fun hb25 => ?_) (fun hb25 => ?_))))))))))))
    ·have h25 := of_decide_eq_true hb25
     refine zm rfl rfl (hb25) rfl rfl (zd rfl) (zm rfl rfl (hb25) rfl rfl (zd rfl) (zm rfl rfl (hb25) rfl rfl (Rd.sidx rfl rfl k9 o9 (by simpa using hc)) (zm rfl rfl (hb25) rfl rfl (Rd.leq rfl rfl) (zm rfl rfl (rfl) rfl rfl (zz rfl (hb25) rfl) (za rfl (zy rfl (rfl) rfl) (za rfl (zd rfl) (zU 32 rfl (fun hb32 => ?_) (fun hb32 => ?_))))))))
     ·have h32 := of_decide_eq_true hb32
      refine zn rfl rfl (hb32) rfl rfl (zn rfl rfl (hb32) rfl rfl (zn rfl rfl (hb32) rfl rfl (zn rfl rfl (hb32) rfl rfl (za rfl (zz rfl (hb32) rfl) (za rfl (yU rfl) (zg (zc (zE rfl (rfl) (zu (ye (zc (zb (za rfl (zd rfl) (za rfl (yM rfl rfl ⟨by omega, by omega⟩) (za rfl (ze rfl) (zg ?_))))))))))))))))
      have hgood : Acc.chr c := by first | (unfold Acc.chr; omega) | ((have h38 := hb38; simp only [Bool.not_eq_false', decide_eq_true_eq] at h38); unfold Acc.chr; omega)
      exact fun a w hh => hK0 (⟨i + 1, by omega, fun d hd => by rw [yc hc] at hd; rcases List.mem_append.1 hd with hd | hd; exact hi.2 d hd; rw [List.mem_singleton.1 hd]; exact hgood⟩) (by dsimp only; omega) a w (hh.sub (⟨⟨_, rfl, ⟨lq rfl, ⟨⟨_, rfl, zC s9⟩, trivial⟩⟩⟩, [], by decide, trivial⟩))
     ·have h32 := of_decide_eq_false hb32
      refine zm rfl rfl (hb32) rfl rfl (zd rfl) (zm rfl rfl (hb32) rfl rfl (zd rfl) (zm rfl rfl (hb32) rfl rfl (Rd.sidx rfl rfl k9 o9 (by simpa using hc)) (zm rfl rfl (hb32) rfl rfl (yP rfl rfl) (za rfl (zy rfl (hb32) rfl) (za rfl (yU rfl) (zg (zc (zJ rfl (fun hb38 => ?_) (fun hb38 => ?_)))))))))
      ·have hbad : ¬ Acc.chr c := by (have h38 := hb38; simp only [Bool.not_eq_true', decide_eq_false_iff_not] at h38); unfold Acc.chr; omega
       refine zh (zb (za rfl (ze rfl) (zg (zc (zH (fn := Tryz.f141) (fun _ _ h => h) (Rs.le (Rs.one rfl (zo rfl)) ?_))))))
       first | exact Le.trans (zL (fun h => hbad (h.1 c (List.mem_of_getElem? hc)))) zt | exact Le.trans (zL (fun h => by have := h.2.1; omega)) zt | exact Le.trans (Zp ⟨fun h => ⟨fun d hd => hi.2 d (by rw [List.take_of_length_le o9]; exact hd), by omega, by omega⟩, fun h => by have := h.2.2; omega⟩) zt
      ·skip
       refine zu (ye (zc (zb (za rfl (zd rfl) (za rfl (yM rfl rfl ⟨by omega, by omega⟩) (za rfl (ze rfl) (zg ?_)))))))
       have hgood : Acc.chr c := by first | (unfold Acc.chr; omega) | ((have h38 := hb38; simp only [Bool.not_eq_false', decide_eq_true_eq] at h38); unfold Acc.chr; omega)
       exact fun a w hh => hK0 (⟨i + 1, by omega, fun d hd => by rw [yc hc] at hd; rcases List.mem_append.1 hd with hd | hd; exact hi.2 d hd; rw [List.mem_singleton.1 hd]; exact hgood⟩) (by dsimp only; omega) a w (hh.sub (⟨⟨_, rfl, ⟨lq rfl, ⟨⟨_, rfl, zC s9⟩, trivial⟩⟩⟩, [], by decide, trivial⟩))
    ·have h25 := of_decide_eq_false hb25
     refine zn rfl rfl (hb25) rfl rfl (zn rfl rfl (hb25) rfl rfl (zn rfl rfl (hb25) rfl rfl (zn rfl rfl (hb25) rfl rfl (zm rfl rfl (rfl) rfl rfl (zy rfl (hb25) rfl) (za rfl (zy rfl (rfl) rfl) (za rfl (zd rfl) (zm rfl rfl (rfl) rfl rfl (zd rfl) (zm rfl rfl (rfl) rfl rfl (zd rfl) (zm rfl rfl (rfl) rfl rfl (Rd.sidx rfl rfl k9 o9 (by simpa using hc)) (zm rfl rfl (rfl) rfl rfl (yP rfl rfl) (za rfl (zy rfl (rfl) rfl) (za rfl (yU rfl) (zg (zc (zJ rfl (fun hb38 => ?_) (fun hb38 => ?_))))))))))))))))
     ·have hbad : ¬ Acc.chr c := by (have h38 := hb38; simp only [Bool.not_eq_true', decide_eq_false_iff_not] at h38); unfold Acc.chr; omega
      refine zh (zb (za rfl (ze rfl) (zg (zc (zH (fn := Tryz.f141) (fun _ _ h => h) (Rs.le (Rs.one rfl (zo rfl)) ?_))))))
      first | exact Le.trans (zL (fun h => hbad (h.1 c (List.mem_of_getElem? hc)))) zt | exact Le.trans (zL (fun h => by have := h.2.1; omega)) zt | exact Le.trans (Zp ⟨fun h => ⟨fun d hd => hi.2 d (by rw [List.take_of_length_le o9]; exact hd), by omega, by omega⟩, fun h => by have := h.2.2; omega⟩) zt
     ·skip
      refine zu (ye (zc (zb (za rfl (zd rfl) (za rfl (yM rfl rfl ⟨by omega, by omega⟩) (za rfl (ze rfl) (zg ?_)))))))
      have hgood : Acc.chr c := by first | (unfold Acc.chr; omega) | ((have h38 := hb38; simp only [Bool.not_eq_false', decide_eq_true_eq] at h38); unfold Acc.chr; omega)
      exact fun a w hh => hK0 (⟨i + 1, by omega, fun d hd => by rw [yc hc] at hd; rcases List.mem_append.1 hd with hd | hd; exact hi.2 d hd; rw [List.mem_singleton.1 hd]; exact hgood⟩) (by dsimp only; omega) a w (hh.sub (⟨⟨_, rfl, ⟨lq rfl, ⟨⟨_, rfl, zC s9⟩, trivial⟩⟩⟩, [], by decide, trivial⟩))
  ·have h7 := of_decide_eq_false hb7
   refine yW ?_
   repeat (first | refine Zi ?_ | refine Zj d9 ?_)
   refine Zk (zc (zh (zb (za rfl (zd rfl) (za rfl (Rd.lenb rfl k9) (za rfl (ZL rfl rfl) (za rfl (zd rfl) (zU 42 rfl (fun hb42 => ?_) (fun hb42 => ?_)))))))))
   ·have h42 := of_decide_eq_true hb42
    refine zm rfl rfl (hb42) rfl rfl (zd rfl) (zm rfl rfl (hb42) rfl rfl (Rd.lenb rfl k9) (zm rfl rfl (hb42) rfl rfl (Rd.leq rfl rfl) (za rfl (zz rfl (hb42) rfl) (za rfl (ze rfl) (zg (zc (zH (fn := Tryz.f141) (fun _ _ h => h) (Rs.le (Rs.one rfl (zo rfl)) ?_))))))))
    first | exact Le.trans (zL (fun h => hbad (h.1 c (List.mem_of_getElem? hc)))) zt | exact Le.trans (zL (fun h => by have := h.2.1; omega)) zt | exact Le.trans (Zp ⟨fun h => ⟨fun d hd => hi.2 d (by rw [List.take_of_length_le o9]; exact hd), by omega, by omega⟩, fun h => by have := h.2.2; omega⟩) zt
   ·have h42 := of_decide_eq_false hb42
    refine zn rfl rfl (hb42) rfl rfl (zn rfl rfl (hb42) rfl rfl (zn rfl rfl (hb42) rfl rfl (za rfl (zy rfl (hb42) rfl) (za rfl (ze rfl) (zg (zc (zH (fn := Tryz.f141) (fun _ _ h => h) (Rs.le (Rs.one rfl (zo rfl)) ?_))))))))
    first | exact Le.trans (zL (fun h => hbad (h.1 c (List.mem_of_getElem? hc)))) zt | exact Le.trans (zL (fun h => by have := h.2.1; omega)) zt | exact Le.trans (Zp ⟨fun h => ⟨fun d hd => hi.2 d (by rw [List.take_of_length_le o9]; exact hd), by omega, by omega⟩, fun h => by have := h.2.2; omega⟩) zt
theorem con_ValidR (nm : List UInt8) (role : Int) (kl : Nat) (dep num : Int) (hs : nm.length ≤ 1000000) : ConN Tryz.prog 111 [yX [yt nm, iD role, lenD kl, iD dep, iD num]] (yY (decide (Acc.okN nm role kl dep num))) := by
 refine yE Tryz.func111 k9 rfl k9 fun base w0 => (zh (zb (zk (S := []) (yF rfl rfl) ?_)))
 rintro _ ⟨g1, rfl⟩
 refine za rfl (ze rfl) (zg (zc (zh (zb (za rfl (ze rfl) (zg (zc (zh (SW.meet (fun σ => σ = zR [(1, pA g1), (3, iD (if role = 1 then 512 else 0 : Int))] [.c g1 [yt nm, iD role, lenD kl, iD dep, iD num]]) ?_ ?_)))))))))
 ·skip
  refine zh (zb (za rfl (zi (n := 1) rfl k9) (za rfl (zl 0 rfl rfl rfl k9 zp) (za rfl (yP rfl rfl) (zg (zc (zJ rfl (fun hb6 => ?_) (fun hb6 => ?_))))))))
  ·have hc := of_decide_eq_true hb6
   exact zb (za rfl (ze rfl) (zg (yZ rfl (⟨⟨_, rfl, ⟨lq rfl, ⟨⟨_, rfl, zC (by rw [if_pos hc])⟩, trivial⟩⟩⟩, [0], by decide, ⟨la rfl, trivial⟩⟩))))
  ·have hc := of_decide_eq_false hb6
   exact zu (yZ rfl (⟨⟨_, rfl, ⟨lq rfl, ⟨⟨_, rfl, zC (by rw [if_neg hc])⟩, trivial⟩⟩⟩, [0], by decide, ⟨la rfl, trivial⟩⟩))
 ·rintro _ rfl
  refine zc (zh (SW.meet (fun σ => σ = zR [(1, pA g1), (3, iD (if role = 2 then 32 else (if role = 1 then 512 else 0 : Int) : Int))] [.c g1 [yt nm, iD role, lenD kl, iD dep, iD num]]) ?_ ?_))
  ·skip
   refine zh (zb (za rfl (zi (n := 1) rfl k9) (za rfl (zl 0 rfl rfl rfl k9 zp) (za rfl (yP rfl rfl) (zg (zc (zJ rfl (fun hb9 => ?_) (fun hb9 => ?_))))))))
   ·have hc := of_decide_eq_true hb9
    exact zb (za rfl (ze rfl) (zg (yZ rfl (⟨⟨_, rfl, ⟨lq rfl, ⟨⟨_, rfl, zC (by rw [if_pos hc])⟩, trivial⟩⟩⟩, [0], by decide, ⟨la rfl, trivial⟩⟩))))
   ·have hc := of_decide_eq_false hb9
    exact zu (yZ rfl (⟨⟨_, rfl, ⟨lq rfl, ⟨⟨_, rfl, zC (by rw [if_neg hc])⟩, trivial⟩⟩⟩, [0], by decide, ⟨la rfl, trivial⟩⟩))
  ·rintro _ rfl
   refine zc (zh (SW.meet (fun σ => σ = zR [(1, pA g1), (3, iD (if role = 3 then 1 else (if role = 2 then 32 else (if role = 1 then 512 else 0 : Int) : Int) : Int))] [.c g1 [yt nm, iD role, lenD kl, iD dep, iD num]]) ?_ ?_))
   ·skip
    refine zh (zb (za rfl (zi (n := 1) rfl k9) (za rfl (zl 0 rfl rfl rfl k9 zp) (za rfl (yP rfl rfl) (zg (zc (zJ rfl (fun hb12 => ?_) (fun hb12 => ?_))))))))
    ·have hc := of_decide_eq_true hb12
     exact zb (za rfl (ze rfl) (zg (yZ rfl (⟨⟨_, rfl, ⟨lq rfl, ⟨⟨_, rfl, zC (by rw [if_pos hc])⟩, trivial⟩⟩⟩, [0], by decide, ⟨la rfl, trivial⟩⟩))))
    ·have hc := of_decide_eq_false hb12
     exact zu (yZ rfl (⟨⟨_, rfl, ⟨lq rfl, ⟨⟨_, rfl, zC (by rw [if_neg hc])⟩, trivial⟩⟩⟩, [0], by decide, ⟨la rfl, trivial⟩⟩))
   ·rintro _ rfl
    refine zc (zh (zb (za rfl (zi (n := 0) rfl k9) (za rfl (zl 0 rfl rfl rfl k9 zp) (zk (S := []) (zA [] (con_NameR nm hs) rfl ⟨(zr (zf _)), trivial⟩ rfl) ?_)))))
    rintro _ rfl
    refine za rfl (zd rfl) (zU 16 rfl (fun hb16 => ?_) (fun hb16 => ?_))
    ·have h16 := of_decide_eq_true hb16
     refine zm rfl rfl (hb16) rfl rfl (zi (n := 2) rfl k9) (zm rfl rfl (hb16) rfl rfl (zl 0 rfl rfl rfl k9 zp) (zm rfl rfl (hb16) rfl rfl (Rd.lenN (e := 5) rfl k9) (zm rfl rfl (hb16) rfl rfl (yP rfl rfl) (za rfl (zz rfl (hb16) rfl) (za rfl (zd rfl) (zU 22 rfl (fun hb22 => ?_) (fun hb22 => ?_)))))))
     ·have h22 : kl = 32 := by have h := of_decide_eq_true hb22; omega
      refine zm rfl rfl (hb22) rfl rfl (zi (n := 3) rfl k9) (zm rfl rfl (hb22) rfl rfl (zl 0 rfl rfl rfl k9 zp) (zm rfl rfl (hb22) rfl rfl (ZL rfl rfl) (za rfl (zz rfl (hb22) rfl) (za rfl (zd rfl) (zU 27 rfl (fun hb27 => ?_) (fun hb27 => ?_))))))
      ·have h27 := of_decide_eq_true hb27
       refine zm rfl rfl (hb27) rfl rfl (zi (n := 3) rfl k9) (zm rfl rfl (hb27) rfl rfl (zl 0 rfl rfl rfl k9 zp) (zm rfl rfl (hb27) rfl rfl (Rd.leq rfl rfl) (za rfl (zz rfl (hb27) rfl) (za rfl (zd rfl) (zU 32 rfl (fun hb32 => ?_) (fun hb32 => ?_))))))
       ·have h32 := of_decide_eq_true hb32
        refine zm rfl rfl (hb32) rfl rfl (zi (n := 4) rfl k9) (zm rfl rfl (hb32) rfl rfl (zl 0 rfl rfl rfl k9 zp) (zm rfl rfl (hb32) rfl rfl (ZL rfl rfl) (za rfl (zz rfl (hb32) rfl) (za rfl (zd rfl) (zU 37 rfl (fun hb37 => ?_) (fun hb37 => ?_))))))
        ·have h37 := of_decide_eq_true hb37
         refine zm rfl rfl (hb37) rfl rfl (zi (n := 4) rfl k9) (zm rfl rfl (hb37) rfl rfl (zl 0 rfl rfl rfl k9 zp) (zm rfl rfl (hb37) rfl rfl (zd rfl) (zm rfl rfl (hb37) rfl rfl (yG rfl rfl) (za rfl (zz rfl (hb37) rfl) (za rfl (ze rfl) (zg (zc (zH (fn := Tryz.f111) (fun _ _ h => h) (Rs.le (Rs.one rfl (zo rfl)) ?_)))))))))
         first | exact Le.trans (zL (fun h => h16 h.1)) zt | exact Le.trans (zL (fun h => h22 h.2.1)) zt | exact Le.trans (zL (fun h => by have h1 := h.2.2.1; have h2 := h.2.2.2.1; have h3 := h.2.2.2.2.1; omega)) zt | exact Le.trans (Zp (by rw [Yf h16 h22 h27 h32 h37, Yg])) zt
        ·have h37 := of_decide_eq_false hb37
         refine zn rfl rfl (hb37) rfl rfl (zn rfl rfl (hb37) rfl rfl (zn rfl rfl (hb37) rfl rfl (zn rfl rfl (hb37) rfl rfl (za rfl (zy rfl (hb37) rfl) (za rfl (ze rfl) (zg (zc (zH (fn := Tryz.f111) (fun _ _ h => h) (Rs.le (Rs.one rfl (zo rfl)) ?_)))))))))
         first | exact Le.trans (zL (fun h => h16 h.1)) zt | exact Le.trans (zL (fun h => h22 h.2.1)) zt | exact Le.trans (zL (fun h => by have h1 := h.2.2.1; have h2 := h.2.2.2.1; have h3 := h.2.2.2.2.1; omega)) zt | exact Le.trans (Zp (by rw [Yf h16 h22 h27 h32 h37, Yg])) zt
       ·have h32 := of_decide_eq_false hb32
        refine zn rfl rfl (hb32) rfl rfl (zn rfl rfl (hb32) rfl rfl (zn rfl rfl (hb32) rfl rfl (za rfl (zy rfl (hb32) rfl) (za rfl (zd rfl) (zn rfl rfl (rfl) rfl rfl (zn rfl rfl (rfl) rfl rfl (zn rfl rfl (rfl) rfl rfl (zn rfl rfl (rfl) rfl rfl (za rfl (zy rfl (rfl) rfl) (za rfl (ze rfl) (zg (zc (zH (fn := Tryz.f111) (fun _ _ h => h) (Rs.le (Rs.one rfl (zo rfl)) ?_))))))))))))))
        first | exact Le.trans (zL (fun h => h16 h.1)) zt | exact Le.trans (zL (fun h => h22 h.2.1)) zt | exact Le.trans (zL (fun h => by have h1 := h.2.2.1; have h2 := h.2.2.2.1; have h3 := h.2.2.2.2.1; omega)) zt | exact Le.trans (Zp (by rw [Yf h16 h22 h27 h32 h37, Yg])) zt
      ·have h27 := of_decide_eq_false hb27
       refine zn rfl rfl (hb27) rfl rfl (zn rfl rfl (hb27) rfl rfl (zn rfl rfl (hb27) rfl rfl (za rfl (zy rfl (hb27) rfl) (za rfl (zd rfl) (zn rfl rfl (rfl) rfl rfl (zn rfl rfl (rfl) rfl rfl (zn rfl rfl (rfl) rfl rfl (za rfl (zy rfl (rfl) rfl) (za rfl (zd rfl) (zn rfl rfl (rfl) rfl rfl (zn rfl rfl (rfl) rfl rfl (zn rfl rfl (rfl) rfl rfl (zn rfl rfl (rfl) rfl rfl (za rfl (zy rfl (rfl) rfl) (za rfl (ze rfl) (zg (zc (zH (fn := Tryz.f111) (fun _ _ h => h) (Rs.le (Rs.one rfl (zo rfl)) ?_)))))))))))))))))))
       first | exact Le.trans (zL (fun h => h16 h.1)) zt | exact Le.trans (zL (fun h => h22 h.2.1)) zt | exact Le.trans (zL (fun h => by have h1 := h.2.2.1; have h2 := h.2.2.2.1; have h3 := h.2.2.2.2.1; omega)) zt | exact Le.trans (Zp (by rw [Yf h16 h22 h27 h32 h37, Yg])) zt
     ·have h22 : ¬ kl = 32 := by have h := of_decide_eq_false hb22; omega
      refine zn rfl rfl (hb22) rfl rfl (zn rfl rfl (hb22) rfl rfl (zn rfl rfl (hb22) rfl rfl (za rfl (zy rfl (hb22) rfl) (za rfl (zd rfl) (zn rfl rfl (rfl) rfl rfl (zn rfl rfl (rfl) rfl rfl (zn rfl rfl (rfl) rfl rfl (za rfl (zy rfl (rfl) rfl) (za rfl (zd rfl) (zn rfl rfl (rfl) rfl rfl (zn rfl rfl (rfl) rfl rfl (zn rfl rfl (rfl) rfl rfl (za rfl (zy rfl (rfl) rfl) (za rfl (zd rfl) (zn rfl rfl (rfl) rfl rfl (zn rfl rfl (rfl) rfl rfl (zn rfl rfl (rfl) rfl rfl (zn rfl rfl (rfl) rfl rfl (za rfl (zy rfl (rfl) rfl) (za rfl (ze rfl) (zg (zc (zH (fn := Tryz.f111) (fun _ _ h => h) (Rs.le (Rs.one rfl (zo rfl)) ?_))))))))))))))))))))))))
      first | exact Le.trans (zL (fun h => h16 h.1)) zt | exact Le.trans (zL (fun h => h22 h.2.1)) zt | exact Le.trans (zL (fun h => by have h1 := h.2.2.1; have h2 := h.2.2.2.1; have h3 := h.2.2.2.2.1; omega)) zt | exact Le.trans (Zp (by rw [Yf h16 h22 h27 h32 h37, Yg])) zt
    ·have h16 := of_decide_eq_false hb16
     refine zn rfl rfl (hb16) rfl rfl (zn rfl rfl (hb16) rfl rfl (zn rfl rfl (hb16) rfl rfl (zn rfl rfl (hb16) rfl rfl (za rfl (zy rfl (hb16) rfl) (za rfl (zd rfl) (zn rfl rfl (rfl) rfl rfl (zn rfl rfl (rfl) rfl rfl (zn rfl rfl (rfl) rfl rfl (za rfl (zy rfl (rfl) rfl) (za rfl (zd rfl) (zn rfl rfl (rfl) rfl rfl (zn rfl rfl (rfl) rfl rfl (zn rfl rfl (rfl) rfl rfl (za rfl (zy rfl (rfl) rfl) (za rfl (zd rfl) (zn rfl rfl (rfl) rfl rfl (zn rfl rfl (rfl) rfl rfl (zn rfl rfl (rfl) rfl rfl (za rfl (zy rfl (rfl) rfl) (za rfl (zd rfl) (zn rfl rfl (rfl) rfl rfl (zn rfl rfl (rfl) rfl rfl (zn rfl rfl (rfl) rfl rfl (zn rfl rfl (rfl) rfl rfl (za rfl (zy rfl (rfl) rfl) (za rfl (ze rfl) (zg (zc (zH (fn := Tryz.f111) (fun _ _ h => h) (Rs.le (Rs.one rfl (zo rfl)) ?_))))))))))))))))))))))))))))))
     first | exact Le.trans (zL (fun h => h16 h.1)) zt | exact Le.trans (zL (fun h => h22 h.2.1)) zt | exact Le.trans (zL (fun h => by have h1 := h.2.2.1; have h2 := h.2.2.2.1; have h3 := h.2.2.2.2.1; omega)) zt | exact Le.trans (Zp (by rw [Yf h16 h22 h27 h32 h37, Yg])) zt
end Sx
end Go.Proofs.YtgokpcnabgacnaaGreatDoor
namespace Go.Proofs.YtgokpcnabgacnaaGreatDoor
open Go.RowKit
namespace Sx
theorem con_AddR (l : List Acc.T) (a : Acc.T) (hf : Acc.Fine l) (hs : a.name.length ≤ 1000000) : ConR Tryz.prog 50 [] [yX [lsD encA l], yX [yt a.name, iD a.role, bD a.key, iD a.dep, iD a.num]] (fun _ : Unit => []) (fun _ : Unit => Yq [yX [lsD encA (Acc.add l a).1], iD (Acc.add l a).2]) := by
 have hll := hf.len
 refine zY Tryz.func50 k9 rfl k9 fun base w0 => (zh (zb (zk (S := []) (yF rfl rfl) ?_)))
 rintro _ ⟨g2, rfl⟩
 refine zk (S := []) (yF rfl rfl) ?_
 rintro _ ⟨g3, rfl⟩
 refine zk (S := []) (zQ (zs := [.slice none 0 0]) k9 rfl) ?_
 rintro _ ⟨g4, rfl⟩
 refine za rfl (ze rfl) (zg (zc (zh (zh (zb (za rfl (zG 1 5 rfl rfl k9 rfl zp) (zk (S := []) (zA [] (con_ValidR a.name a.role a.key.length a.dep a.num hs) rfl ⟨(zr (Zz ⟨zf _, zf _, le_b_len, zf _, zf _, trivial⟩)), trivial⟩ rfl) ?_)))))))
 rintro _ rfl
 refine za rfl (yU rfl) (zg (zc (zJ rfl (fun hb12 => ?_) (fun hb12 => ?_))))
 ·have h12 : ¬ Acc.ok a := by have h := hb12; simp at h; exact h
  refine zh (zb (za rfl (zG 0 1 rfl rfl k9 rfl zp) (zk (S := [_]) (zF 2 rfl rfl rfl k9 rfl (List.mem_singleton.2 rfl)) ?_)))
  rintro _ rfl
  refine za rfl (ze rfl) (zg (zc (zS (fn := Tryz.f50) (()) [] (fun _ _ h => h) (Rs.le (Rs.two rfl (yB 2 rfl rfl k9) (zo rfl)) ?_) d9 trivial)))
  exact yJ ⟨Zz ⟨by rw [ZU h12]; exact zf _, trivial⟩, zC (by rw [ZU h12]), trivial⟩
 ·have h12 : Acc.ok a := by have h := hb12; simp at h; exact h
  refine zu (zc (zh (zb (za rfl (ze rfl) (zg (zc (zh (SW.vecN 121 5 encA (zb (za rfl (ze rfl) (zg (zc (zh (zh (zb (za rfl (ze rfl) (zg (zc (zW (Zq (ι := {p : Nat × Ust // p.1 ≤ l.length ∧ ∀ y ∈ l.take p.1, ¬ Acc.clash a y}) (fun p => zR [(2, pA g2), (3, pA g3), (4, pA g4), (6, isD (.slice p.1.2.A (Acc.out l a p.1.1).length p.1.2.c)), (7, yY (decide (Acc.pos l a.name < p.1.1))), (8, iD (p.1.1 : Int))] [.c g2 [lsD encA l], .c g3 [yt a.name, iD a.role, bD a.key, iD a.dep, iD a.num], .c g4 [isD (.slice none 0 0)], .r p.1.2.F (yb 121 5 encA p.1.2.A p.1.2.c (Acc.out l a p.1.1))]) (fun p => l.length - p.1.1) (⟨(0, ⟨none, 0, []⟩), Nat.zero_le _, by simp⟩) ?_ ?_))))))))))))))))))))
  ·exact ⟨⟨_, rfl, ⟨lq rfl, ⟨lq rfl, ⟨lq rfl, ⟨⟨_, rfl, zC (by dsimp only; rw [Acc.out0]; rfl)⟩, ⟨⟨_, rfl, zC s9⟩, ⟨lq rfl, trivial⟩⟩⟩⟩⟩⟩⟩, [0, 1, 2, 3], by decide, ⟨la rfl, ⟨la rfl, ⟨la rfl, ⟨⟨_, rfl, ZN (by dsimp only; rw [Acc.out0]) (by dsimp only; rw [Acc.out0])⟩, trivial⟩⟩⟩⟩⟩
  ·rintro ⟨⟨i, t⟩, hi⟩ K0 hK0
   dsimp only at hi ⊢
   have hol := Acc.out_len (a := a) hi.1
   refine zh (zh (zb (za rfl (zd rfl) (za rfl (zi (n := 0) rfl k9) (za rfl (zl 0 rfl rfl rfl k9 zp) (za rfl (yV (e := 121) rfl k9) (za rfl (yG rfl rfl) (zg (zc (zJ rfl (fun hb18 => ?_) (fun hb18 => ?_)))))))))))
   ·have hb18 := of_decide_eq_true hb18
    refine zu (zc (zh (zW (zh ?_))))
    obtain ⟨x, hx⟩ : ∃ x, l[i]? = some x := ⟨_, List.getElem?_eq_getElem o9⟩
    have hxm := List.mem_of_getElem? hx
    refine zb (za rfl (zi (n := 0) rfl k9) (za rfl (zl 0 rfl rfl rfl k9 zp) (za rfl (zd rfl) (za rfl (yK (e := 121) 5 rfl rfl k9 k9 o9 (by simpa using hx)) (za rfl (Rd.loadRA 5 rfl k9 d9 (show 5 ≤ 5 by decide) s9) (zk (S := []) (zQ (zs := [.string ⟨#[]⟩, .int .i64 0, .slice none 0 0, .int .i64 0, .int .i64 0]) k9 rfl) ?_))))))
    rintro _ ⟨g9, rfl⟩
    refine zk (S := [_]) (zF 4 rfl rfl rfl k9 rfl (List.mem_singleton.2 rfl)) ?_
    rintro _ rfl
    refine zg (zc (zh (SW.meet (fun σ => ¬ Acc.clash a x ∧ σ = zR [(2, pA g2), (3, pA g3), (4, pA g4), (6, isD (.slice t.A (Acc.out l a i).length t.c)), (7, yY (decide (Acc.pos l a.name < i))), (8, iD (i : Int)), (9, pA g9)] [.c g2 [lsD encA l], .c g3 [yt a.name, iD a.role, bD a.key, iD a.dep, iD a.num], .c g4 [isD (.slice none 0 0)], .r t.F (yb 121 5 encA t.A t.c (Acc.out l a i)), .c g9 [yt x.name, iD x.role, bD x.key, iD x.dep, iD x.num]]) ?_ ?_)))
    ·skip
     refine zh (zb (za rfl (zi (n := 0) rfl k9) (za rfl (zl 4 rfl rfl rfl k9 zp) (za rfl (zi (n := 0) rfl k9) (za rfl (zl 1 rfl rfl rfl k9 zp) (za rfl (Rd.eqs (p := x.name) (q := a.name) rfl rfl) (za rfl (zd rfl) (zU 31 rfl (fun hb31 => ?_) (fun hb31 => ?_)))))))))
     ·have h31 := of_decide_eq_true hb31
      refine zn rfl rfl (hb31) rfl rfl (zn rfl rfl (hb31) rfl rfl (zn rfl rfl (hb31) rfl rfl (zn rfl rfl (hb31) rfl rfl (zn rfl rfl (hb31) rfl rfl (zn rfl rfl (hb31) rfl rfl (ZK rfl rfl rfl rfl (ZK rfl rfl rfl rfl (ZK rfl rfl rfl rfl (ZK rfl rfl rfl rfl (ZK rfl rfl rfl rfl (zn rfl rfl (hb31) rfl rfl (zn rfl rfl (hb31) rfl rfl (ZK rfl rfl rfl rfl (ZK rfl rfl rfl rfl (ZK rfl rfl rfl rfl (zn rfl rfl (hb31) rfl rfl (za rfl (zz rfl (hb31) rfl) (zg (zc (yf rfl (rfl) (zh (zb (za rfl (zG 0 1 rfl rfl k9 rfl zp) (zk (S := [_]) (zF 2 rfl rfl rfl k9 rfl (List.mem_singleton.2 rfl)) ?_))))))))))))))))))))))))
      rintro _ rfl
      refine za rfl (ze rfl) (zg (zc (zS (fn := Tryz.f50) (()) [] (fun _ _ h => h) (Rs.le (Rs.two rfl (yB 2 rfl rfl k9) (zo rfl)) ?_) d9 trivial)))
      exact yJ ⟨Zz ⟨by rw [yy h12 ⟨x, hxm, .inl h31⟩]; exact zf _, trivial⟩, zC (by rw [yy h12 ⟨x, hxm, .inl h31⟩]), trivial⟩
     ·have h31 := of_decide_eq_false hb31
      refine zm rfl rfl (hb31) rfl rfl (zi (n := 1) rfl k9) (zm rfl rfl (hb31) rfl rfl (zl 4 rfl rfl rfl k9 zp) (zm rfl rfl (hb31) rfl rfl (zi (n := 1) rfl k9) (zm rfl rfl (hb31) rfl rfl (zl 1 rfl rfl rfl k9 zp) (zm rfl rfl (hb31) rfl rfl (yP rfl rfl) (zm rfl rfl (hb31) rfl rfl (zd rfl) (zU 37 rfl (fun hb37 => ?_) (fun hb37 => ?_)))))))
      ·have h37 := of_decide_eq_true hb37
       refine zm rfl rfl (hb37) rfl rfl (zi (n := 4) rfl k9) (zm rfl rfl (hb37) rfl rfl (zl 4 rfl rfl rfl k9 zp) (zm rfl rfl (hb37) rfl rfl (zi (n := 4) rfl k9) (zm rfl rfl (hb37) rfl rfl (zl 1 rfl rfl rfl k9 zp) (zm rfl rfl (hb37) rfl rfl (yP rfl rfl) (zm rfl rfl (hb31) rfl rfl (zz rfl (hb37) rfl) (zm rfl rfl (hb31) rfl rfl (zd rfl) (zU 44 rfl (fun hb44 => ?_) (fun hb44 => ?_))))))))
       ·have h44 := of_decide_eq_true hb44
        refine zm rfl rfl (hb44) rfl rfl (zi (n := 1) rfl k9) (zm rfl rfl (hb44) rfl rfl (zl 1 rfl rfl rfl k9 zp) (zm rfl rfl (hb44) rfl rfl (yd rfl rfl) (zm rfl rfl (hb31) rfl rfl (zz rfl (hb44) rfl) (za rfl (zy rfl (hb31) rfl) (zg (zc (zJ rfl (fun hb49 => ?_) (fun hb49 => ?_))))))))
        ·have h48 : a.role ≠ 3 := by simpa using hb49
         refine zh (zb (za rfl (zG 0 1 rfl rfl k9 rfl zp) (zk (S := [_]) (zF 2 rfl rfl rfl k9 rfl (List.mem_singleton.2 rfl)) ?_)))
         rintro _ rfl
         refine za rfl (ze rfl) (zg (zc (zS (fn := Tryz.f50) (()) [] (fun _ _ h => h) (Rs.le (Rs.two rfl (yB 2 rfl rfl k9) (zo rfl)) ?_) d9 trivial)))
         exact yJ ⟨Zz ⟨by rw [yy h12 ⟨x, hxm, .inr ⟨h37, h44, h48⟩⟩]; exact zf _, trivial⟩, zC (by rw [yy h12 ⟨x, hxm, .inr ⟨h37, h44, h48⟩⟩]), trivial⟩
        ·have h48 : ¬ a.role ≠ 3 := by simpa using hb49
         refine zu ?_
         have hnc : ¬ Acc.clash a x := by (rintro (e | ⟨e1, e2, e3⟩) <;> first | exact h31 e | exact h37 e1 | exact h44 e2 | exact h48 e3)
         exact yZ ⟨hnc, rfl⟩ (sB [0, 1, 2, 3, 4] rfl rfl)
       ·have h44 := of_decide_eq_false hb44
        refine zn rfl rfl (hb44) rfl rfl (zn rfl rfl (hb44) rfl rfl (zn rfl rfl (hb44) rfl rfl (zm rfl rfl (hb31) rfl rfl (zy rfl (hb44) rfl) (za rfl (zy rfl (hb31) rfl) (zg (zc (zE rfl (rfl) (zu ?_))))))))
        have hnc : ¬ Acc.clash a x := by (rintro (e | ⟨e1, e2, e3⟩) <;> first | exact h31 e | exact h37 e1 | exact h44 e2 | exact h48 e3)
        exact yZ ⟨hnc, rfl⟩ (sB [0, 1, 2, 3, 4] rfl rfl)
      ·have h37 := of_decide_eq_false hb37
       refine zn rfl rfl (hb37) rfl rfl (zn rfl rfl (hb37) rfl rfl (zn rfl rfl (hb37) rfl rfl (zn rfl rfl (hb37) rfl rfl (zn rfl rfl (hb37) rfl rfl (zm rfl rfl (hb31) rfl rfl (zy rfl (hb37) rfl) (zm rfl rfl (hb31) rfl rfl (zd rfl) (zn rfl rfl (rfl) rfl rfl (zn rfl rfl (rfl) rfl rfl (zn rfl rfl (rfl) rfl rfl (zm rfl rfl (hb31) rfl rfl (zy rfl (rfl) rfl) (za rfl (zy rfl (hb31) rfl) (zg (zc (zE rfl (rfl) (zu ?_)))))))))))))))
       have hnc : ¬ Acc.clash a x := by (rintro (e | ⟨e1, e2, e3⟩) <;> first | exact h31 e | exact h37 e1 | exact h44 e2 | exact h48 e3)
       exact yZ ⟨hnc, rfl⟩ (sB [0, 1, 2, 3, 4] rfl rfl)
    ·rintro _ ⟨hnc, rfl⟩
     refine zc (zh (zh ?_))
     have hne : x.name ≠ a.name := fun e => hnc (.inl e)
     refine zb (za rfl (zd rfl) (za rfl (yU rfl) (za rfl (zd rfl) (zU 53 rfl (fun hb53 => ?_) (fun hb53 => ?_)))))
     ·have h53 : ¬ Acc.pos l a.name < i := by simpa using hb53
      refine zm rfl rfl (hb53) rfl rfl (zi (n := 0) rfl k9) (zm rfl rfl (hb53) rfl rfl (zl 1 rfl rfl rfl k9 zp) (zm rfl rfl (hb53) rfl rfl (zi (n := 0) rfl k9) (zm rfl rfl (hb53) rfl rfl (zl 4 rfl rfl rfl k9 zp) (zm rfl rfl (hb53) rfl rfl (Rd.lts rfl rfl) (za rfl (zz rfl (hb53) rfl) (zg (zc (zJ rfl (fun hb59 => ?_) (fun hb59 => ?_)))))))))
      ·have h59 : i = Acc.pos l a.name := by have h := Acc.pos_step hf.srt hx hne h53; rw [show Acc.lt a.name x.name = true from hb59] at h; exact of_decide_eq_true h.symm
       refine zb (za rfl (zd rfl) (za rfl (zG 1 5 rfl rfl k9 rfl zp) (zk (S := []) (Zl rfl rfl (blsA1 a) rfl) ?_)))
       rintro _ rfl
       refine zk (Za 3 5 64 rfl rfl (SrcT.ls (l := [a]) rfl) k9 k9 (by simp; omega) d9 (fun _ h => h) rfl) ?_
       rintro _ ⟨A63, F63, c63, rfl⟩
       refine za rfl (ze rfl) (za rfl (ze rfl) (zg (zc (zb (za rfl (zd rfl) (za rfl (zG 3 5 rfl rfl k9 rfl zp) (zk (S := []) (Zl rfl rfl (blsA1 x) rfl) ?_)))))))
       rintro _ rfl
       refine zk (Za 4 5 64 rfl rfl (SrcT.ls (l := [x]) rfl) k9 k9 (by simp; omega) d9 (fun _ h => h) rfl) ?_
       rintro _ ⟨A67, F67, c67, rfl⟩
       refine za rfl (ze rfl) (zg (ye (zc (zb (za rfl (zd rfl) (za rfl (yM rfl rfl ⟨by omega, by omega⟩) (za rfl (ze rfl) (zg ?_))))))))
       have hO := Acc.out_in (a := a) hx h59; have hP : decide (Acc.pos l a.name < i + 1) = true := by simp; omega
       exact fun a w hh => hK0 (⟨(i + 1, ⟨A67, c67, F67⟩), by dsimp only; omega, fun y hy => by dsimp only at hy; rw [yc hx] at hy; rcases List.mem_append.1 hy with hy | hy; exact hi.2 y hy; rw [List.mem_singleton.1 hy]; exact hnc⟩) (by dsimp only; omega) a w (hh.sub (⟨⟨_, rfl, ⟨lq rfl, ⟨lq rfl, ⟨lq rfl, ⟨⟨_, rfl, zC (by dsimp only; rw [hO])⟩, ⟨⟨_, rfl, zC (by dsimp only; rw [hP])⟩, ⟨⟨_, rfl, zC s9⟩, trivial⟩⟩⟩⟩⟩⟩⟩, [0, 1, 2, 4], by decide, ⟨la rfl, ⟨la rfl, ⟨la rfl, ⟨⟨_, rfl, ZN (by dsimp only; rw [hO]) (by dsimp only; rw [hO])⟩, trivial⟩⟩⟩⟩⟩))
      ·have h59 : ¬ i = Acc.pos l a.name := by have h := Acc.pos_step hf.srt hx hne h53; rw [show Acc.lt a.name x.name = false from hb59] at h; exact of_decide_eq_false h.symm
       refine zu (zc (zb (za rfl (zd rfl) (za rfl (zG 4 5 rfl rfl k9 rfl zp) (zk (S := []) (Zl rfl rfl (blsA1 x) rfl) ?_)))))
       rintro _ rfl
       refine zk (Za 3 5 64 rfl rfl (SrcT.ls (l := [x]) rfl) k9 k9 (by simp; omega) d9 (fun _ h => h) rfl) ?_
       rintro _ ⟨A67, F67, c67, rfl⟩
       refine za rfl (ze rfl) (zg (ye (zc (zb (za rfl (zd rfl) (za rfl (yM rfl rfl ⟨by omega, by omega⟩) (za rfl (ze rfl) (zg ?_))))))))
       have hO := Acc.out_bef (a := a) hx o9; have hP : decide (Acc.pos l a.name < i + 1) = decide (Acc.pos l a.name < i) := by rw [decide_eq_decide]; omega
       exact fun a w hh => hK0 (⟨(i + 1, ⟨A67, c67, F67⟩), by dsimp only; omega, fun y hy => by dsimp only at hy; rw [yc hx] at hy; rcases List.mem_append.1 hy with hy | hy; exact hi.2 y hy; rw [List.mem_singleton.1 hy]; exact hnc⟩) (by dsimp only; omega) a w (hh.sub (⟨⟨_, rfl, ⟨lq rfl, ⟨lq rfl, ⟨lq rfl, ⟨⟨_, rfl, zC (by dsimp only; rw [hO])⟩, ⟨⟨_, rfl, zC (by dsimp only; rw [hP])⟩, ⟨⟨_, rfl, zC s9⟩, trivial⟩⟩⟩⟩⟩⟩⟩, [0, 1, 2, 4], by decide, ⟨la rfl, ⟨la rfl, ⟨la rfl, ⟨⟨_, rfl, ZN (by dsimp only; rw [hO]) (by dsimp only; rw [hO])⟩, trivial⟩⟩⟩⟩⟩))
     ·have h53 : Acc.pos l a.name < i := by simpa using hb53
      refine zn rfl rfl (hb53) rfl rfl (zn rfl rfl (hb53) rfl rfl (zn rfl rfl (hb53) rfl rfl (zn rfl rfl (hb53) rfl rfl (zn rfl rfl (hb53) rfl rfl (za rfl (zy rfl (hb53) rfl) (zg (zc (zE rfl (rfl) (zu (zc (zb (za rfl (zd rfl) (za rfl (zG 4 5 rfl rfl k9 rfl zp) (zk (S := []) (Zl rfl rfl (blsA1 x) rfl) ?_))))))))))))))
      rintro _ rfl
      refine zk (Za 3 5 64 rfl rfl (SrcT.ls (l := [x]) rfl) k9 k9 (by simp; omega) d9 (fun _ h => h) rfl) ?_
      rintro _ ⟨A67, F67, c67, rfl⟩
      refine za rfl (ze rfl) (zg (ye (zc (zb (za rfl (zd rfl) (za rfl (yM rfl rfl ⟨by omega, by omega⟩) (za rfl (ze rfl) (zg ?_))))))))
      have hO := Acc.out_aft (a := a) hx h53; have hP : decide (Acc.pos l a.name < i + 1) = decide (Acc.pos l a.name < i) := by rw [decide_eq_decide]; omega
      exact fun a w hh => hK0 (⟨(i + 1, ⟨A67, c67, F67⟩), by dsimp only; omega, fun y hy => by dsimp only at hy; rw [yc hx] at hy; rcases List.mem_append.1 hy with hy | hy; exact hi.2 y hy; rw [List.mem_singleton.1 hy]; exact hnc⟩) (by dsimp only; omega) a w (hh.sub (⟨⟨_, rfl, ⟨lq rfl, ⟨lq rfl, ⟨lq rfl, ⟨⟨_, rfl, zC (by dsimp only; rw [hO])⟩, ⟨⟨_, rfl, zC (by dsimp only; rw [hP])⟩, ⟨⟨_, rfl, zC s9⟩, trivial⟩⟩⟩⟩⟩⟩⟩, [0, 1, 2, 4], by decide, ⟨la rfl, ⟨la rfl, ⟨la rfl, ⟨⟨_, rfl, ZN (by dsimp only; rw [hO]) (by dsimp only; rw [hO])⟩, trivial⟩⟩⟩⟩⟩))
   ·have hb18 := of_decide_eq_false hb18
    refine yW ?_
    repeat (first | refine Zi ?_ | refine Zj d9 ?_)
    refine Zk (zc (zh (zh ?_)))
    obtain rfl : i = l.length := by omega
    have hc : ¬ ∃ x ∈ l, Acc.clash a x := fun ⟨x, hx, hcl⟩ => hi.2 x (by rw [List.take_length]; exact hx) hcl
    refine zO (σ' := zR [(2, pA g2), (3, pA g3), (4, pA g4), (6, isD (.slice t.A (Acc.out l a l.length).length t.c)), (7, yY (decide (Acc.pos l a.name < l.length)))] [.c g2 [lsD encA l], .c g3 [yt a.name, iD a.role, bD a.key, iD a.dep, iD a.num], .c g4 [isD (.slice none 0 0)], .r t.F (yb 121 5 encA t.A t.c (Acc.out l a l.length))]) (sB [0, 1, 2, 3] rfl rfl) (zb (za rfl (zd rfl) (za rfl (yU rfl) (zg (zc (zJ rfl (fun hb69 => ?_) (fun hb69 => ?_)))))))
    ·have h69 : ¬ Acc.pos l a.name < l.length := by have h := hb69; simpa using h
     refine zb (za rfl (zd rfl) (za rfl (zG 1 5 rfl rfl k9 rfl zp) (zk (S := []) (Zl rfl rfl (blsA1 a) rfl) ?_)))
     rintro _ rfl
     refine zk (Za 3 5 64 rfl rfl (SrcT.ls (l := [a]) rfl) k9 k9 (by simp; omega) d9 (fun _ h => h) rfl) ?_
     rintro _ ⟨A73, F73, c73, rfl⟩
     refine za rfl (ze rfl) (zg (zc (zh (zh ?_))))
     have hE := Acc.out_end' h69
     have hEL := Acc.ins_len l a
     refine zO (σ' := zR [(2, pA g2), (4, pA g4), (6, isD (.slice (⟨A73, c73, F73⟩ : Ust).A (Acc.ins l a).length (⟨A73, c73, F73⟩ : Ust).c))] [.c g2 [lsD encA l], .c g4 [isD (.slice none 0 0)], .r (⟨A73, c73, F73⟩ : Ust).F (yb 121 5 encA (⟨A73, c73, F73⟩ : Ust).A (⟨A73, c73, F73⟩ : Ust).c (Acc.ins l a))]) (⟨⟨_, rfl, ⟨lq rfl, ⟨lq rfl, ⟨⟨_, rfl, zC (by rw [hE])⟩, trivial⟩⟩⟩⟩, [0, 2, 3], by decide, ⟨la rfl, ⟨la rfl, ⟨⟨_, rfl, ZN (by rw [hE]) (by rw [hE])⟩, trivial⟩⟩⟩⟩) (zb (za rfl (zd rfl) (za rfl (Rd.lenE (e := 121) rfl k9) (za rfl (Rd.gtr rfl rfl) (zg (zc (zJ rfl (fun hb76 => ?_) (fun hb76 => ?_))))))))
     ·have h76 : 256 ≤ l.length := by have h := of_decide_eq_true hb76; rw [hEL] at h; omega
      refine zh (zb (za rfl (zG 0 1 rfl rfl k9 rfl zp) (zk (S := [_]) (zF 1 rfl rfl rfl k9 rfl (List.mem_singleton.2 rfl)) ?_)))
      rintro _ rfl
      refine za rfl (ze rfl) (zg (zc (zS (fn := Tryz.f50) (()) [] (fun _ _ h => h) (Rs.le (Rs.two rfl (yB 1 rfl rfl k9) (zo rfl)) ?_) d9 trivial)))
      exact yJ ⟨Zz ⟨by rw [Zd h12 hc h76]; exact zf _, trivial⟩, zC (by rw [Zd h12 hc h76]), trivial⟩
     ·have h76 : ¬ 256 ≤ l.length := by have h := of_decide_eq_false hb76; rw [hEL] at h; omega
      refine zu (zc (zh (zb (za rfl (zd rfl) (za rfl (yh rfl rfl bldRB) (zk (S := [_]) (zF 1 rfl rfl rfl k9 rfl (List.mem_singleton.2 rfl)) ?_))))))
      rintro _ rfl
      refine za rfl (ze rfl) (zg (zc (SW.freezeC 1 0 2 rfl rfl rfl (zS (fn := Tryz.f50) (()) [] (fun _ _ h => h) (Rs.le (Rs.two rfl (yB 1 rfl rfl k9) (zo rfl)) ?_) d9 trivial))))
      exact yJ ⟨Zz ⟨by rw [y8 h12 hc h76]; exact zf _, trivial⟩, zC (by rw [y8 h12 hc h76]), trivial⟩
    ·have h69 : Acc.pos l a.name < l.length := by have h := hb69; simpa using h
     refine zu (zc (zh (zh ?_)))
     have hE := Acc.out_end h69
     have hEL := Acc.ins_len l a
     refine zO (σ' := zR [(2, pA g2), (4, pA g4), (6, isD (.slice t.A (Acc.ins l a).length t.c))] [.c g2 [lsD encA l], .c g4 [isD (.slice none 0 0)], .r t.F (yb 121 5 encA t.A t.c (Acc.ins l a))]) (⟨⟨_, rfl, ⟨lq rfl, ⟨lq rfl, ⟨⟨_, rfl, zC (by rw [hE])⟩, trivial⟩⟩⟩⟩, [0, 2, 3], by decide, ⟨la rfl, ⟨la rfl, ⟨⟨_, rfl, ZN (by rw [hE]) (by rw [hE])⟩, trivial⟩⟩⟩⟩) (zb (za rfl (zd rfl) (za rfl (Rd.lenE (e := 121) rfl k9) (za rfl (Rd.gtr rfl rfl) (zg (zc (zJ rfl (fun hb76 => ?_) (fun hb76 => ?_))))))))
     ·have h76 : 256 ≤ l.length := by have h := of_decide_eq_true hb76; rw [hEL] at h; omega
      refine zh (zb (za rfl (zG 0 1 rfl rfl k9 rfl zp) (zk (S := [_]) (zF 1 rfl rfl rfl k9 rfl (List.mem_singleton.2 rfl)) ?_)))
      rintro _ rfl
      refine za rfl (ze rfl) (zg (zc (zS (fn := Tryz.f50) (()) [] (fun _ _ h => h) (Rs.le (Rs.two rfl (yB 1 rfl rfl k9) (zo rfl)) ?_) d9 trivial)))
      exact yJ ⟨Zz ⟨by rw [Zd h12 hc h76]; exact zf _, trivial⟩, zC (by rw [Zd h12 hc h76]), trivial⟩
     ·have h76 : ¬ 256 ≤ l.length := by have h := of_decide_eq_false hb76; rw [hEL] at h; omega
      refine zu (zc (zh (zb (za rfl (zd rfl) (za rfl (yh rfl rfl bldRB) (zk (S := [_]) (zF 1 rfl rfl rfl k9 rfl (List.mem_singleton.2 rfl)) ?_))))))
      rintro _ rfl
      refine za rfl (ze rfl) (zg (zc (SW.freezeC 1 0 2 rfl rfl rfl (zS (fn := Tryz.f50) (()) [] (fun _ _ h => h) (Rs.le (Rs.two rfl (yB 1 rfl rfl k9) (zo rfl)) ?_) d9 trivial))))
      exact yJ ⟨Zz ⟨by rw [y8 h12 hc h76]; exact zf _, trivial⟩, zC (by rw [y8 h12 hc h76]), trivial⟩
theorem wrap8 (x : Int) : IntKind.u8.wrap x = x % 256 := by simp [IntKind.wrap, IntKind.signed, IntKind.bits]
theorem leAll_eq {ds es : List D} (h : ds = es) : LeAll ds es := by subst h; exact yC _
theorem bldRB0 : Bld Tryz.prog 31 [] [] [isD (.slice none 0 0)] := fun L w vs h => by
 obtain rfl := all0 h
 exact ⟨[.slice none 0 0], ⟨rfl, trivial⟩, fun w' => by kernel_rfl⟩
end Sx
end Go.Proofs.YtgokpcnabgacnaaGreatDoor
