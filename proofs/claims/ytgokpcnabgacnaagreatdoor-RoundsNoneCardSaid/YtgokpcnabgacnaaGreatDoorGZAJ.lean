/- ACCOUNTS: named, Valid, copied. ACCOUNTS: books as things. ACCOUNTS: put. ACCOUNTS: put, in one. -/
import Derived.Test.YtgokpcnabgacnaaGreatDoorGZAI
set_option maxHeartbeats 8000000
set_option maxRecDepth 100000
namespace Go.Proofs.YtgokpcnabgacnaaGreatDoor
open Go.RowKit
namespace Sx
theorem con_cloneB (b : List UInt8) (hb : b.length ≤ 1000000) : ConN Tryz.prog 53 [bD b] (bD b) := by
 refine yE Tryz.func53 k9 rfl k9 fun base w0 => (zh (SW.lookB 0 rfl fun A c => (zb (za rfl (ze rfl) (zg (zc (zh (zh (zb (za rfl (zd rfl) (za rfl (Rd.eqN (e := 5) rfl rfl k9) (zg (zc (zJ rfl (fun hb4 => ?_) (fun hb4 => ?_)))))))))))))))
 ·refine SW.viewN 0 rfl hb4 fun hnil => (zh (zb (za rfl (ze rfl) (zg (zc (zH (fn := Tryz.f53) (fun _ _ h => h) (Rs.le (Rs.one rfl (zo rfl)) ?_)))))))
  subst hnil
  exact Le.trans (zt (x := .slice none 0 0)) (le_nw_mono (Nat.le_refl _) Zy)
 ·skip
  refine zu (zc (zh (zb (zk (S := []) (Ef.lit0 (e := 5) Z2 1 1 k9 k9 rfl) ?_))))
  rintro _ ⟨g5, rfl⟩
  refine za rfl (zd rfl) (zk (Za 1 1 1 rfl rfl (SrcT.view 0 rfl rfl) k9 k9 (by simp <;> omega) d9 (fun _ h => h) rfl) ?_)
  rintro _ ⟨A7, F7, c7, rfl⟩
  refine za rfl (ze rfl) (zg (zc (SW.freezeNB 1 2 rfl rfl rfl (zH (fn := Tryz.f53) (fun _ _ h => h) (Rs.le (Rs.one rfl (zo rfl)) ?_)))))
  exact zf _
theorem con_named (s : List UInt8) : ConN Tryz.prog 159 [yt s] (yY (decide (Acc.isName s))) := by
 refine yE Tryz.func159 k9 rfl k9 fun base w0 => (zh (zb (za rfl (ze rfl) (zg (zc (zh (zh (zb (za rfl (zd rfl) (za rfl (Rd.lenb rfl k9) (za rfl (yG rfl rfl) (za rfl (zd rfl) (zU 8 rfl (fun hb8 => ?_) (fun hb8 => ?_))))))))))))))
 ·have h8 := of_decide_eq_true hb8
  refine zn rfl rfl (hb8) rfl rfl (zn rfl rfl (hb8) rfl rfl (zn rfl rfl (hb8) rfl rfl (za rfl (zz rfl (hb8) rfl) (zg (zc (yf rfl (rfl) (zh (zb (za rfl (ze rfl) (zg (zc (zH (fn := Tryz.f159) (fun _ _ h => h) (Rs.le (Rs.one rfl (zo rfl)) ?_)))))))))))))
  first | exact Le.trans (zL (fun h => by have := h.2.1; omega)) zt | exact Le.trans (zL (fun h => by have := h.2.2; omega)) zt | exact Le.trans (zL (fun h => hbad (h.1 c (List.mem_of_getElem? hc)))) zt | exact Le.trans (le_decT ⟨fun d hd => hi.2 d (by rw [List.take_of_length_le o9]; exact hd), by omega, by omega⟩) zt
 ·have h8 := of_decide_eq_false hb8
  refine zm rfl rfl (hb8) rfl rfl (zd rfl) (zm rfl rfl (hb8) rfl rfl (Rd.lenb rfl k9) (zm rfl rfl (hb8) rfl rfl (Rd.gtr rfl rfl) (za rfl (zy rfl (hb8) rfl) (zg (zc (zJ rfl (fun hb12 => ?_) (fun hb12 => ?_)))))))
  ·have h12 := of_decide_eq_true hb12
   refine zh (zb (za rfl (ze rfl) (zg (zc (zH (fn := Tryz.f159) (fun _ _ h => h) (Rs.le (Rs.one rfl (zo rfl)) ?_))))))
   first | exact Le.trans (zL (fun h => by have := h.2.1; omega)) zt | exact Le.trans (zL (fun h => by have := h.2.2; omega)) zt | exact Le.trans (zL (fun h => hbad (h.1 c (List.mem_of_getElem? hc)))) zt | exact Le.trans (le_decT ⟨fun d hd => hi.2 d (by rw [List.take_of_length_le o9]; exact hd), by omega, by omega⟩) zt
  ·have h12 := of_decide_eq_false hb12
   refine zu (zc (zh (zh (zb (za rfl (zd rfl) (za rfl (Rd.lenb rfl k9) (za rfl (zd rfl) (zg (zc (zW (Zq (ι := {i : Nat // i ≤ s.length ∧ ∀ c ∈ s.take i, Acc.chr c}) (fun i => zR [(0, yt s), (14, iD (s.length : Int)), (15, iD (i.1 : Int))] []) (fun i => s.length - i.1) (⟨0, Nat.zero_le _, by simp⟩) ?_ ?_)))))))))))
   ·exact (sB [] rfl rfl)
   ·rintro ⟨i, hi⟩ K0 hK0
    dsimp only at hi ⊢
    refine zh (zb (za rfl (yG rfl rfl) (zg (zc (zh (zJ rfl (fun hb16 => ?_) (fun hb16 => ?_)))))))
    ·have h16 := of_decide_eq_true hb16
     refine zu (zc (zh (zW (zh (zb (za rfl (zd rfl) (za rfl (ze rfl) (zg (zc (zh ?_))))))))))
     obtain ⟨c, hc⟩ : ∃ c, s[i]? = some c := ⟨_, List.getElem?_eq_getElem o9⟩
     refine zb (za rfl (zd rfl) (za rfl (zd rfl) (za rfl (Rd.sidx rfl rfl k9 o9 (by simpa using hc)) (za rfl (ze rfl) (zg (zc (zh (zb (za rfl (zd rfl) (za rfl (yG rfl rfl) (za rfl (zd rfl) (zU 23 rfl (fun hb23 => ?_) (fun hb23 => ?_)))))))))))))
     ·have h23 := of_decide_eq_true hb23
      refine zn rfl rfl (hb23) rfl rfl (zn rfl rfl (hb23) rfl rfl (za rfl (zz rfl (hb23) rfl) (za rfl (zd rfl) (zm rfl rfl (rfl) rfl rfl (zd rfl) (zm rfl rfl (rfl) rfl rfl (yG rfl rfl) (zm rfl rfl (rfl) rfl rfl (zd rfl) (zU 30 rfl (fun hb30 => ?_) (fun hb30 => ?_))))))))
      ·have h30 := of_decide_eq_true hb30
       refine zn rfl rfl (hb30) rfl rfl (zn rfl rfl (hb30) rfl rfl (zm rfl rfl (rfl) rfl rfl (zz rfl (hb30) rfl) (za rfl (zz rfl (rfl) rfl) (za rfl (zd rfl) (zm rfl rfl (rfl) rfl rfl (zd rfl) (zm rfl rfl (rfl) rfl rfl (yd rfl rfl) (za rfl (zz rfl (rfl) rfl) (zg (zc (zJ rfl (fun hb38 => ?_) (fun hb38 => ?_)))))))))))
       ·have hbad : ¬ Acc.chr c := by (have h38 := hb38; simp only [Bool.not_eq_true', decide_eq_false_iff_not] at h38); unfold Acc.chr; omega
        refine zh (zb (za rfl (ze rfl) (zg (zc (zH (fn := Tryz.f159) (fun _ _ h => h) (Rs.le (Rs.one rfl (zo rfl)) ?_))))))
        first | exact Le.trans (zL (fun h => by have := h.2.1; omega)) zt | exact Le.trans (zL (fun h => by have := h.2.2; omega)) zt | exact Le.trans (zL (fun h => hbad (h.1 c (List.mem_of_getElem? hc)))) zt | exact Le.trans (le_decT ⟨fun d hd => hi.2 d (by rw [List.take_of_length_le o9]; exact hd), by omega, by omega⟩) zt
       ·skip
        refine zu (ye (zc (zb (za rfl (yM rfl rfl ⟨by omega, by omega⟩) (za rfl (zd rfl) (zg ?_))))))
        have hgood : Acc.chr c := by first | (unfold Acc.chr; omega) | ((have h38 := hb38; simp only [Bool.not_eq_false', decide_eq_true_eq] at h38); unfold Acc.chr; omega)
        exact fun a w hh => hK0 (⟨i + 1, by omega, fun d hd => by rw [yc hc] at hd; rcases List.mem_append.1 hd with hd | hd; exact hi.2 d hd; rw [List.mem_singleton.1 hd]; exact hgood⟩) (by dsimp only; omega) a w (hh.sub (⟨⟨_, rfl, ⟨lq rfl, ⟨lq rfl, ⟨⟨_, rfl, zC s9⟩, trivial⟩⟩⟩⟩, [], by decide, trivial⟩))
      ·have h30 := of_decide_eq_false hb30
       refine zm rfl rfl (hb30) rfl rfl (zd rfl) (zm rfl rfl (hb30) rfl rfl (Rd.gtr rfl rfl) (zm rfl rfl (rfl) rfl rfl (zy rfl (hb30) rfl) (za rfl (zz rfl (rfl) rfl) (za rfl (zd rfl) (zU 35 rfl (fun hb35 => ?_) (fun hb35 => ?_))))))
       ·have h35 := of_decide_eq_true hb35
        refine zm rfl rfl (hb35) rfl rfl (zd rfl) (zm rfl rfl (hb35) rfl rfl (yd rfl rfl) (za rfl (zz rfl (hb35) rfl) (zg (zc (zJ rfl (fun hb38 => ?_) (fun hb38 => ?_))))))
        ·have hbad : ¬ Acc.chr c := by (have h38 := hb38; simp only [Bool.not_eq_true', decide_eq_false_iff_not] at h38); unfold Acc.chr; omega
         refine zh (zb (za rfl (ze rfl) (zg (zc (zH (fn := Tryz.f159) (fun _ _ h => h) (Rs.le (Rs.one rfl (zo rfl)) ?_))))))
         first | exact Le.trans (zL (fun h => by have := h.2.1; omega)) zt | exact Le.trans (zL (fun h => by have := h.2.2; omega)) zt | exact Le.trans (zL (fun h => hbad (h.1 c (List.mem_of_getElem? hc)))) zt | exact Le.trans (le_decT ⟨fun d hd => hi.2 d (by rw [List.take_of_length_le o9]; exact hd), by omega, by omega⟩) zt
        ·skip
         refine zu (ye (zc (zb (za rfl (yM rfl rfl ⟨by omega, by omega⟩) (za rfl (zd rfl) (zg ?_))))))
         have hgood : Acc.chr c := by first | (unfold Acc.chr; omega) | ((have h38 := hb38; simp only [Bool.not_eq_false', decide_eq_true_eq] at h38); unfold Acc.chr; omega)
         exact fun a w hh => hK0 (⟨i + 1, by omega, fun d hd => by rw [yc hc] at hd; rcases List.mem_append.1 hd with hd | hd; exact hi.2 d hd; rw [List.mem_singleton.1 hd]; exact hgood⟩) (by dsimp only; omega) a w (hh.sub (⟨⟨_, rfl, ⟨lq rfl, ⟨lq rfl, ⟨⟨_, rfl, zC s9⟩, trivial⟩⟩⟩⟩, [], by decide, trivial⟩))
       ·have h35 := of_decide_eq_false hb35
        refine zn rfl rfl (hb35) rfl rfl (zn rfl rfl (hb35) rfl rfl (za rfl (zy rfl (hb35) rfl) (zg (zc (zE rfl (rfl) (zu (ye (zc (zb (za rfl (yM rfl rfl ⟨by omega, by omega⟩) (za rfl (zd rfl) (zg ?_))))))))))))
        have hgood : Acc.chr c := by first | (unfold Acc.chr; omega) | ((have h38 := hb38; simp only [Bool.not_eq_false', decide_eq_true_eq] at h38); unfold Acc.chr; omega)
        exact fun a w hh => hK0 (⟨i + 1, by omega, fun d hd => by rw [yc hc] at hd; rcases List.mem_append.1 hd with hd | hd; exact hi.2 d hd; rw [List.mem_singleton.1 hd]; exact hgood⟩) (by dsimp only; omega) a w (hh.sub (⟨⟨_, rfl, ⟨lq rfl, ⟨lq rfl, ⟨⟨_, rfl, zC s9⟩, trivial⟩⟩⟩⟩, [], by decide, trivial⟩))
     ·have h23 := of_decide_eq_false hb23
      refine zm rfl rfl (hb23) rfl rfl (zd rfl) (zm rfl rfl (hb23) rfl rfl (Rd.gtr rfl rfl) (za rfl (zy rfl (hb23) rfl) (za rfl (zd rfl) (zU 27 rfl (fun hb27 => ?_) (fun hb27 => ?_)))))
      ·have h27 := of_decide_eq_true hb27
       refine zm rfl rfl (hb27) rfl rfl (zd rfl) (zm rfl rfl (hb27) rfl rfl (yG rfl rfl) (zm rfl rfl (hb27) rfl rfl (zd rfl) (zU 30 rfl (fun hb30 => ?_) (fun hb30 => ?_))))
       ·have h30 := of_decide_eq_true hb30
        refine zn rfl rfl (hb30) rfl rfl (zn rfl rfl (hb30) rfl rfl (zm rfl rfl (hb27) rfl rfl (zz rfl (hb30) rfl) (za rfl (zz rfl (hb27) rfl) (za rfl (zd rfl) (zm rfl rfl (rfl) rfl rfl (zd rfl) (zm rfl rfl (rfl) rfl rfl (yd rfl rfl) (za rfl (zz rfl (rfl) rfl) (zg (zc (zJ rfl (fun hb38 => ?_) (fun hb38 => ?_)))))))))))
        ·have hbad : ¬ Acc.chr c := by (have h38 := hb38; simp only [Bool.not_eq_true', decide_eq_false_iff_not] at h38); unfold Acc.chr; omega
         refine zh (zb (za rfl (ze rfl) (zg (zc (zH (fn := Tryz.f159) (fun _ _ h => h) (Rs.le (Rs.one rfl (zo rfl)) ?_))))))
         first | exact Le.trans (zL (fun h => by have := h.2.1; omega)) zt | exact Le.trans (zL (fun h => by have := h.2.2; omega)) zt | exact Le.trans (zL (fun h => hbad (h.1 c (List.mem_of_getElem? hc)))) zt | exact Le.trans (le_decT ⟨fun d hd => hi.2 d (by rw [List.take_of_length_le o9]; exact hd), by omega, by omega⟩) zt
        ·skip
         refine zu (ye (zc (zb (za rfl (yM rfl rfl ⟨by omega, by omega⟩) (za rfl (zd rfl) (zg ?_))))))
         have hgood : Acc.chr c := by first | (unfold Acc.chr; omega) | ((have h38 := hb38; simp only [Bool.not_eq_false', decide_eq_true_eq] at h38); unfold Acc.chr; omega)
         exact fun a w hh => hK0 (⟨i + 1, by omega, fun d hd => by rw [yc hc] at hd; rcases List.mem_append.1 hd with hd | hd; exact hi.2 d hd; rw [List.mem_singleton.1 hd]; exact hgood⟩) (by dsimp only; omega) a w (hh.sub (⟨⟨_, rfl, ⟨lq rfl, ⟨lq rfl, ⟨⟨_, rfl, zC s9⟩, trivial⟩⟩⟩⟩, [], by decide, trivial⟩))
       ·have h30 := of_decide_eq_false hb30
        refine zm rfl rfl (hb30) rfl rfl (zd rfl) (zm rfl rfl (hb30) rfl rfl (Rd.gtr rfl rfl) (zm rfl rfl (hb27) rfl rfl (zy rfl (hb30) rfl) (za rfl (zz rfl (hb27) rfl) (za rfl (zd rfl) (zU 35 rfl (fun hb35 => ?_) (fun hb35 => ?_))))))
        ·have h35 := of_decide_eq_true hb35
         refine zm rfl rfl (hb35) rfl rfl (zd rfl) (zm rfl rfl (hb35) rfl rfl (yd rfl rfl) (za rfl (zz rfl (hb35) rfl) (zg (zc (zJ rfl (fun hb38 => ?_) (fun hb38 => ?_))))))
         ·have hbad : ¬ Acc.chr c := by (have h38 := hb38; simp only [Bool.not_eq_true', decide_eq_false_iff_not] at h38); unfold Acc.chr; omega
          refine zh (zb (za rfl (ze rfl) (zg (zc (zH (fn := Tryz.f159) (fun _ _ h => h) (Rs.le (Rs.one rfl (zo rfl)) ?_))))))
          first | exact Le.trans (zL (fun h => by have := h.2.1; omega)) zt | exact Le.trans (zL (fun h => by have := h.2.2; omega)) zt | exact Le.trans (zL (fun h => hbad (h.1 c (List.mem_of_getElem? hc)))) zt | exact Le.trans (le_decT ⟨fun d hd => hi.2 d (by rw [List.take_of_length_le o9]; exact hd), by omega, by omega⟩) zt
         ·skip
          refine zu (ye (zc (zb (za rfl (yM rfl rfl ⟨by omega, by omega⟩) (za rfl (zd rfl) (zg ?_))))))
          have hgood : Acc.chr c := by first | (unfold Acc.chr; omega) | ((have h38 := hb38; simp only [Bool.not_eq_false', decide_eq_true_eq] at h38); unfold Acc.chr; omega)
          exact fun a w hh => hK0 (⟨i + 1, by omega, fun d hd => by rw [yc hc] at hd; rcases List.mem_append.1 hd with hd | hd; exact hi.2 d hd; rw [List.mem_singleton.1 hd]; exact hgood⟩) (by dsimp only; omega) a w (hh.sub (⟨⟨_, rfl, ⟨lq rfl, ⟨lq rfl, ⟨⟨_, rfl, zC s9⟩, trivial⟩⟩⟩⟩, [], by decide, trivial⟩))
        ·have h35 := of_decide_eq_false hb35
         refine zn rfl rfl (hb35) rfl rfl (zn rfl rfl (hb35) rfl rfl (za rfl (zy rfl (hb35) rfl) (zg (zc (zE rfl (rfl) (zu (ye (zc (zb (za rfl (yM rfl rfl ⟨by omega, by omega⟩) (za rfl (zd rfl) (zg ?_))))))))))))
         have hgood : Acc.chr c := by first | (unfold Acc.chr; omega) | ((have h38 := hb38; simp only [Bool.not_eq_false', decide_eq_true_eq] at h38); unfold Acc.chr; omega)
         exact fun a w hh => hK0 (⟨i + 1, by omega, fun d hd => by rw [yc hc] at hd; rcases List.mem_append.1 hd with hd | hd; exact hi.2 d hd; rw [List.mem_singleton.1 hd]; exact hgood⟩) (by dsimp only; omega) a w (hh.sub (⟨⟨_, rfl, ⟨lq rfl, ⟨lq rfl, ⟨⟨_, rfl, zC s9⟩, trivial⟩⟩⟩⟩, [], by decide, trivial⟩))
      ·have h27 := of_decide_eq_false hb27
       refine zn rfl rfl (hb27) rfl rfl (zn rfl rfl (hb27) rfl rfl (zn rfl rfl (hb27) rfl rfl (ZK rfl rfl rfl rfl (ZK rfl rfl rfl rfl (zn rfl rfl (hb27) rfl rfl (za rfl (zy rfl (hb27) rfl) (za rfl (zd rfl) (zn rfl rfl (rfl) rfl rfl (zn rfl rfl (rfl) rfl rfl (za rfl (zy rfl (rfl) rfl) (zg (zc (zE rfl (rfl) (zu (ye (zc (zb (za rfl (yM rfl rfl ⟨by omega, by omega⟩) (za rfl (zd rfl) (zg ?_))))))))))))))))))))
       have hgood : Acc.chr c := by first | (unfold Acc.chr; omega) | ((have h38 := hb38; simp only [Bool.not_eq_false', decide_eq_true_eq] at h38); unfold Acc.chr; omega)
       exact fun a w hh => hK0 (⟨i + 1, by omega, fun d hd => by rw [yc hc] at hd; rcases List.mem_append.1 hd with hd | hd; exact hi.2 d hd; rw [List.mem_singleton.1 hd]; exact hgood⟩) (by dsimp only; omega) a w (hh.sub (⟨⟨_, rfl, ⟨lq rfl, ⟨lq rfl, ⟨⟨_, rfl, zC s9⟩, trivial⟩⟩⟩⟩, [], by decide, trivial⟩))
    ·have h16 := of_decide_eq_false hb16
     refine yW ?_
     repeat (first | refine Zi ?_ | refine Zj d9 ?_)
     refine Zk (zc (zh (zb (za rfl (ze rfl) (zg (zc (zH (fn := Tryz.f159) (fun _ _ h => h) (Rs.le (Rs.one rfl (zo rfl)) ?_))))))))
     first | exact Le.trans (zL (fun h => by have := h.2.1; omega)) zt | exact Le.trans (zL (fun h => by have := h.2.2; omega)) zt | exact Le.trans (zL (fun h => hbad (h.1 c (List.mem_of_getElem? hc)))) zt | exact Le.trans (le_decT ⟨fun d hd => hi.2 d (by rw [List.take_of_length_le o9]; exact hd), by omega, by omega⟩) zt
theorem con_validA (nm : List UInt8) (role : Int) (kl : Nat) (dep num : Int) : ConN Tryz.prog 108 [yX [yt nm, iD role, lenD kl, iD dep, iD num]] (yY (decide (Acc.okN nm role kl dep num))) := by
 refine yE Tryz.func108 k9 rfl k9 fun base w0 => (zh (zb (zk (S := []) (yF rfl rfl) ?_)))
 rintro _ ⟨g1, rfl⟩
 refine za rfl (ze rfl) (zg (zc (zh (zh (zb (za rfl (zi (n := 0) rfl k9) (za rfl (zl 0 rfl rfl rfl k9 zp) (zk (S := []) (zA [] (con_named nm) rfl ⟨(zr (zf _)), trivial⟩ rfl) ?_))))))))
 rintro _ rfl
 refine za rfl (yU rfl) (za rfl (zd rfl) (zU 7 rfl (fun hb7 => ?_) (fun hb7 => ?_)))
 ·have h7 : ¬ Acc.isName nm := by simpa using hb7
  refine zn rfl rfl (hb7) rfl rfl (zn rfl rfl (hb7) rfl rfl (zn rfl rfl (hb7) rfl rfl (zn rfl rfl (hb7) rfl rfl (za rfl (zz rfl (hb7) rfl) (za rfl (zd rfl) (zn rfl rfl (rfl) rfl rfl (zn rfl rfl (rfl) rfl rfl (zn rfl rfl (rfl) rfl rfl (za rfl (zz rfl (rfl) rfl) (za rfl (zd rfl) (zn rfl rfl (rfl) rfl rfl (zn rfl rfl (rfl) rfl rfl (zn rfl rfl (rfl) rfl rfl (za rfl (zz rfl (rfl) rfl) (za rfl (zd rfl) (zn rfl rfl (rfl) rfl rfl (zn rfl rfl (rfl) rfl rfl (zn rfl rfl (rfl) rfl rfl (za rfl (zz rfl (rfl) rfl) (zg (zc (yf rfl (rfl) (zh (zb (za rfl (ze rfl) (zg (zc (zH (fn := Tryz.f108) (fun _ _ h => h) (Rs.le (Rs.one rfl (zo rfl)) ?_)))))))))))))))))))))))))))))
  first | exact Le.trans (zL (fun h => h7 h.1)) zt | exact Le.trans (zL (fun h => h13 h.2.1)) zt | exact Le.trans (zL (fun h => by have h1 := h.2.2.1; have h2 := h.2.2.2.1; have h3 := h.2.2.2.2.1; omega)) zt | exact Le.trans (Zp (by rw [Acc.okN_iff h7 h13 o9 o9 o9]; simp only [Acc.nums, *]; first | rfl | (simp; done) | (simp; omega) | omega)) zt | exact Le.trans (zL (fun h => by have h1 := h.2.2.2.2.2; have h2 := h.2.2.2.2.1; simp [Acc.nums, h30, h35, h40] at h1; omega)) zt
 ·have h7 : Acc.isName nm := by simpa using hb7
  refine zm rfl rfl (hb7) rfl rfl (zi (n := 2) rfl k9) (zm rfl rfl (hb7) rfl rfl (zl 0 rfl rfl rfl k9 zp) (zm rfl rfl (hb7) rfl rfl (Rd.lenN (e := 5) rfl k9) (zm rfl rfl (hb7) rfl rfl (yd rfl rfl) (za rfl (zy rfl (hb7) rfl) (za rfl (zd rfl) (zU 13 rfl (fun hb13 => ?_) (fun hb13 => ?_)))))))
  ·have h13 : ¬ kl = 32 := by have h := (show (!decide ((kl : Int) = 32)) = true from hb13); simp at h; omega
   refine zn rfl rfl (hb13) rfl rfl (zn rfl rfl (hb13) rfl rfl (zn rfl rfl (hb13) rfl rfl (za rfl (zz rfl (hb13) rfl) (za rfl (zd rfl) (zn rfl rfl (rfl) rfl rfl (zn rfl rfl (rfl) rfl rfl (zn rfl rfl (rfl) rfl rfl (za rfl (zz rfl (rfl) rfl) (za rfl (zd rfl) (zn rfl rfl (rfl) rfl rfl (zn rfl rfl (rfl) rfl rfl (zn rfl rfl (rfl) rfl rfl (za rfl (zz rfl (rfl) rfl) (zg (zc (yf rfl (rfl) (zh (zb (za rfl (ze rfl) (zg (zc (zH (fn := Tryz.f108) (fun _ _ h => h) (Rs.le (Rs.one rfl (zo rfl)) ?_)))))))))))))))))))))))
   first | exact Le.trans (zL (fun h => h7 h.1)) zt | exact Le.trans (zL (fun h => h13 h.2.1)) zt | exact Le.trans (zL (fun h => by have h1 := h.2.2.1; have h2 := h.2.2.2.1; have h3 := h.2.2.2.2.1; omega)) zt | exact Le.trans (Zp (by rw [Acc.okN_iff h7 h13 o9 o9 o9]; simp only [Acc.nums, *]; first | rfl | (simp; done) | (simp; omega) | omega)) zt | exact Le.trans (zL (fun h => by have h1 := h.2.2.2.2.2; have h2 := h.2.2.2.2.1; simp [Acc.nums, h30, h35, h40] at h1; omega)) zt
  ·have h13 : kl = 32 := by have h := (show (!decide ((kl : Int) = 32)) = false from hb13); simp at h; omega
   refine zm rfl rfl (hb13) rfl rfl (zi (n := 3) rfl k9) (zm rfl rfl (hb13) rfl rfl (zl 0 rfl rfl rfl k9 zp) (zm rfl rfl (hb13) rfl rfl (yG rfl rfl) (za rfl (zy rfl (hb13) rfl) (za rfl (zd rfl) (zU 18 rfl (fun hb18 => ?_) (fun hb18 => ?_))))))
   ·have h18 := of_decide_eq_true hb18
    refine zn rfl rfl (hb18) rfl rfl (zn rfl rfl (hb18) rfl rfl (zn rfl rfl (hb18) rfl rfl (za rfl (zz rfl (hb18) rfl) (za rfl (zd rfl) (zn rfl rfl (rfl) rfl rfl (zn rfl rfl (rfl) rfl rfl (zn rfl rfl (rfl) rfl rfl (za rfl (zz rfl (rfl) rfl) (zg (zc (yf rfl (rfl) (zh (zb (za rfl (ze rfl) (zg (zc (zH (fn := Tryz.f108) (fun _ _ h => h) (Rs.le (Rs.one rfl (zo rfl)) ?_))))))))))))))))))
    first | exact Le.trans (zL (fun h => h7 h.1)) zt | exact Le.trans (zL (fun h => h13 h.2.1)) zt | exact Le.trans (zL (fun h => by have h1 := h.2.2.1; have h2 := h.2.2.2.1; have h3 := h.2.2.2.2.1; omega)) zt | exact Le.trans (Zp (by rw [Acc.okN_iff h7 h13 o9 o9 o9]; simp only [Acc.nums, *]; first | rfl | (simp; done) | (simp; omega) | omega)) zt | exact Le.trans (zL (fun h => by have h1 := h.2.2.2.2.2; have h2 := h.2.2.2.2.1; simp [Acc.nums, h30, h35, h40] at h1; omega)) zt
   ·have h18 := of_decide_eq_false hb18
    refine zm rfl rfl (hb18) rfl rfl (zi (n := 3) rfl k9) (zm rfl rfl (hb18) rfl rfl (zl 0 rfl rfl rfl k9 zp) (zm rfl rfl (hb18) rfl rfl (Rd.gtr rfl rfl) (za rfl (zy rfl (hb18) rfl) (za rfl (zd rfl) (zU 23 rfl (fun hb23 => ?_) (fun hb23 => ?_))))))
    ·have h23 := of_decide_eq_true hb23
     refine zn rfl rfl (hb23) rfl rfl (zn rfl rfl (hb23) rfl rfl (zn rfl rfl (hb23) rfl rfl (za rfl (zz rfl (hb23) rfl) (zg (zc (yf rfl (rfl) (zh (zb (za rfl (ze rfl) (zg (zc (zH (fn := Tryz.f108) (fun _ _ h => h) (Rs.le (Rs.one rfl (zo rfl)) ?_)))))))))))))
     first | exact Le.trans (zL (fun h => h7 h.1)) zt | exact Le.trans (zL (fun h => h13 h.2.1)) zt | exact Le.trans (zL (fun h => by have h1 := h.2.2.1; have h2 := h.2.2.2.1; have h3 := h.2.2.2.2.1; omega)) zt | exact Le.trans (Zp (by rw [Acc.okN_iff h7 h13 o9 o9 o9]; simp only [Acc.nums, *]; first | rfl | (simp; done) | (simp; omega) | omega)) zt | exact Le.trans (zL (fun h => by have h1 := h.2.2.2.2.2; have h2 := h.2.2.2.2.1; simp [Acc.nums, h30, h35, h40] at h1; omega)) zt
    ·have h23 := of_decide_eq_false hb23
     refine zm rfl rfl (hb23) rfl rfl (zi (n := 4) rfl k9) (zm rfl rfl (hb23) rfl rfl (zl 0 rfl rfl rfl k9 zp) (zm rfl rfl (hb23) rfl rfl (yG rfl rfl) (za rfl (zy rfl (hb23) rfl) (zg (zc (zJ rfl (fun hb27 => ?_) (fun hb27 => ?_)))))))
     ·have h27 := of_decide_eq_true hb27
      refine zh (zb (za rfl (ze rfl) (zg (zc (zH (fn := Tryz.f108) (fun _ _ h => h) (Rs.le (Rs.one rfl (zo rfl)) ?_))))))
      first | exact Le.trans (zL (fun h => h7 h.1)) zt | exact Le.trans (zL (fun h => h13 h.2.1)) zt | exact Le.trans (zL (fun h => by have h1 := h.2.2.1; have h2 := h.2.2.2.1; have h3 := h.2.2.2.2.1; omega)) zt | exact Le.trans (Zp (by rw [Acc.okN_iff h7 h13 o9 o9 o9]; simp only [Acc.nums, *]; first | rfl | (simp; done) | (simp; omega) | omega)) zt | exact Le.trans (zL (fun h => by have h1 := h.2.2.2.2.2; have h2 := h.2.2.2.2.1; simp [Acc.nums, h30, h35, h40] at h1; omega)) zt
     ·have h27 := of_decide_eq_false hb27
      refine zu (zc (zh (zh (zb (za rfl (zi (n := 1) rfl k9) (za rfl (zl 0 rfl rfl rfl k9 zp) (zg (zc (zW (zh (zb (za rfl (yP rfl rfl) (za rfl (ze rfl) (zg (zc (zJ rfl (fun hb30 => ?_) (fun hb30 => ?_)))))))))))))))))
      ·have h30 := of_decide_eq_true hb30
       refine zh (zb (za rfl (zi (n := 4) rfl k9) (za rfl (zl 0 rfl rfl rfl k9 zp) (za rfl (yG rfl rfl) (za rfl (ze rfl) (zg (zc (zH (fn := Tryz.f108) (fun _ _ h => h) (Rs.le (Rs.one rfl (zo rfl)) ?_)))))))))
       first | exact Le.trans (zL (fun h => h7 h.1)) zt | exact Le.trans (zL (fun h => h13 h.2.1)) zt | exact Le.trans (zL (fun h => by have h1 := h.2.2.1; have h2 := h.2.2.2.1; have h3 := h.2.2.2.2.1; omega)) zt | exact Le.trans (Zp (by rw [Acc.okN_iff h7 h13 o9 o9 o9]; simp only [Acc.nums, *]; first | rfl | (simp; done) | (simp; omega) | omega)) zt | exact Le.trans (zL (fun h => by have h1 := h.2.2.2.2.2; have h2 := h.2.2.2.2.1; simp [Acc.nums, h30, h35, h40] at h1; omega)) zt
      ·have h30 := of_decide_eq_false hb30
       refine zh (zb (za rfl (yP rfl rfl) (za rfl (ze rfl) (zg (zc (zJ rfl (fun hb35 => ?_) (fun hb35 => ?_)))))))
       ·have h35 := of_decide_eq_true hb35
        refine zh (zb (za rfl (zi (n := 4) rfl k9) (za rfl (zl 0 rfl rfl rfl k9 zp) (za rfl (yG rfl rfl) (za rfl (ze rfl) (zg (zc (zH (fn := Tryz.f108) (fun _ _ h => h) (Rs.le (Rs.one rfl (zo rfl)) ?_)))))))))
        first | exact Le.trans (zL (fun h => h7 h.1)) zt | exact Le.trans (zL (fun h => h13 h.2.1)) zt | exact Le.trans (zL (fun h => by have h1 := h.2.2.1; have h2 := h.2.2.2.1; have h3 := h.2.2.2.2.1; omega)) zt | exact Le.trans (Zp (by rw [Acc.okN_iff h7 h13 o9 o9 o9]; simp only [Acc.nums, *]; first | rfl | (simp; done) | (simp; omega) | omega)) zt | exact Le.trans (zL (fun h => by have h1 := h.2.2.2.2.2; have h2 := h.2.2.2.2.1; simp [Acc.nums, h30, h35, h40] at h1; omega)) zt
       ·have h35 := of_decide_eq_false hb35
        refine zh (zb (za rfl (yP rfl rfl) (za rfl (ze rfl) (zg (zc (zJ rfl (fun hb40 => ?_) (fun hb40 => ?_)))))))
        ·have h40 := of_decide_eq_true hb40
         refine zh (zb (za rfl (zi (n := 4) rfl k9) (za rfl (zl 0 rfl rfl rfl k9 zp) (za rfl (yP rfl rfl) (za rfl (ze rfl) (zg (zc (zH (fn := Tryz.f108) (fun _ _ h => h) (Rs.le (Rs.one rfl (zo rfl)) ?_)))))))))
         first | exact Le.trans (zL (fun h => h7 h.1)) zt | exact Le.trans (zL (fun h => h13 h.2.1)) zt | exact Le.trans (zL (fun h => by have h1 := h.2.2.1; have h2 := h.2.2.2.1; have h3 := h.2.2.2.2.1; omega)) zt | exact Le.trans (Zp (by rw [Acc.okN_iff h7 h13 o9 o9 o9]; simp only [Acc.nums, *]; first | rfl | (simp; done) | (simp; omega) | omega)) zt | exact Le.trans (zL (fun h => by have h1 := h.2.2.2.2.2; have h2 := h.2.2.2.2.1; simp [Acc.nums, h30, h35, h40] at h1; omega)) zt
        ·have h40 := of_decide_eq_false hb40
         refine zu (ye (zc (zh (zb (za rfl (ze rfl) (zg (zc (zH (fn := Tryz.f108) (fun _ _ h => h) (Rs.le (Rs.one rfl (zo rfl)) ?_)))))))))
         first | exact Le.trans (zL (fun h => h7 h.1)) zt | exact Le.trans (zL (fun h => h13 h.2.1)) zt | exact Le.trans (zL (fun h => by have h1 := h.2.2.1; have h2 := h.2.2.2.1; have h3 := h.2.2.2.2.1; omega)) zt | exact Le.trans (Zp (by rw [Acc.okN_iff h7 h13 o9 o9 o9]; simp only [Acc.nums, *]; first | rfl | (simp; done) | (simp; omega) | omega)) zt | exact Le.trans (zL (fun h => by have h1 := h.2.2.2.2.2; have h2 := h.2.2.2.2.1; simp [Acc.nums, h30, h35, h40] at h1; omega)) zt
theorem con_copied (nm : List UInt8) (role : Int) (b : List UInt8) (dep num : Int) (hb : b.length ≤ 1000000) : ConN Tryz.prog 160 [yX [yt nm, iD role, bD b, iD dep, iD num]] (yX [yt nm, iD role, bD b, iD dep, iD num]) := by
 refine yE Tryz.func160 k9 rfl k9 fun base w0 => (zh (zb (zk (S := []) (yF rfl rfl) ?_)))
 rintro _ ⟨g1, rfl⟩
 refine zk (S := []) (zQ (zs := [.string ⟨#[]⟩, .int .i64 0, .slice none 0 0, .int .i64 0, .int .i64 0]) k9 rfl) ?_
 rintro _ ⟨g2, rfl⟩
 refine zg (zc (zh (zb (za rfl (zi (n := 2) rfl k9) (za rfl (zl 0 rfl rfl rfl k9 zp) (zk (S := []) (Ef.callNN [] (con_cloneB _ (by first | assumption | (simp <;> omega))) rfl ⟨(zr (zf _)), trivial⟩ rfl) ?_))))))
 rintro _ rfl
 refine za rfl (zi (n := 2) rfl k9) (zk (S := [_]) (yr 0 rfl rfl rfl k9 rfl (List.mem_singleton.2 rfl)) ?_)
 rintro _ rfl
 refine zg (zc (zh (zO (σ' := zR [(1, pA g1), (2, pA g2)] [.c g1 [yt nm, iD role, nwD w0.heap.size (bD b), iD dep, iD num], .c g2 [yt [], iD 0, isD (.slice none 0 0), iD 0, iD 0]]) (sB [0, 1] rfl rfl) (zb (za rfl (zG 0 5 rfl rfl k9 rfl zp) (zk (S := [_]) (zF 1 rfl rfl rfl k9 rfl (List.mem_singleton.2 rfl)) ?_))))))
 rintro _ rfl
 refine zg (zc (zH (fn := Tryz.f160) (fun _ _ h => h) (Rs.le (Rs.one rfl (yB 1 rfl rfl k9)) ?_)))
 exact (le_nw_agg ⟨zt, zt, (zf _), zt, zt, trivial⟩)
end Sx
end Go.Proofs.YtgokpcnabgacnaaGreatDoor
namespace Go.Proofs.YtgokpcnabgacnaaGreatDoor
open Go.RowKit
namespace Sx
structure Bst where
 M : Option (Nat × Nat)
 F1 : List Nat
 F2 : List Nat
 n : Ust
abbrev Acc.nm (l : List Acc.T) : List (List UInt8) := l.map Acc.T.name
def bookC (g : Nat) (s : Bst) (l : List Acc.T) : Box := .c g [isD (.map (s.M.map Prod.fst)), isD (.slice s.n.A (Acc.nm l).length s.n.c), isD (.map (s.M.map Prod.snd))]
def bookN (s : Bst) (l : List Acc.T) : Box := .r s.n.F (yb 9 1 Zb s.n.A s.n.c (Acc.nm l))
def bookA (s : Bst) (l : List Acc.T) : Box := .r s.F1 (zX (s.M.map Prod.fst) yq (Acc.nm l) (acD l))
def bookS (s : Bst) (l : List Acc.T) : Box := .r s.F2 (zX (s.M.map Prod.snd) yn (Acc.seats l) (seD l))
abbrev bookD (l : List Acc.T) : D := paD [mqD yq (Acc.nm l) (acD l), lsD Zb (Acc.nm l), mqD yn (Acc.seats l) (seD l)]
theorem SW.mapQNil {P : Program} {Γ : Cx} {σ : St} {Q : Exit → Act → World → Prop} {c : Code} {κ : Type} {enc : κ → Value} {K : List κ} {f : κ → D} {F : List Nat} (j : Nat) (hj : σ.bx[j]? = some (.r F (zX none enc K f))) (h : K = [] → SW P Γ σ c Q) : SW P Γ σ c Q := fun a w hh => by
 obtain ⟨ks, _, hK, es, hm, hks, _⟩ := hh.resAt hj
 rcases hm with ⟨_, rfl, _⟩ | ⟨g, ck, h0, _⟩
 ·have h1 : ks = [] := by simpa using hks.symm
  subst h1
  exact h (List.eq_nil_iff_forall_not_mem.2 fun k hk => by have := (hK k).2 hk; simp at this) a w hh
 ·cases h0
theorem acD_eq {l l' : List Acc.T} {k : List UInt8} (h : Acc.find l' k = Acc.find l k) : Le (acD l k) (acD l' k) := by unfold acD; rw [h]; exact zf _
theorem seD_eq {l l' : List Acc.T} {p : Int × Int} (h : Acc.seat l' p = Acc.seat l p) : Le (seD l p) (seD l' p) := by unfold seD; rw [h]; exact zf _
theorem acD_mem {l : List Acc.T} {a : Acc.T} (h : Acc.find l a.name = some a) : acD l a.name = yX (encA a) := by unfold acD; rw [h]; rfl
theorem seD_mem {l : List Acc.T} {a : Acc.T} (h : Acc.seat l (a.role, a.num) = some a) : seD l (a.role, a.num) = yt a.name := by unfold seD; rw [h]; rfl
structure Acc.Free (l : List Acc.T) (a : Acc.T) : Prop where
 fine : Acc.Fine l
 fine' : Acc.Fine (Acc.ins l a)
 nm : a.name ∉ Acc.nm l
 st : a.role ≠ 3 → (a.role, a.num) ∉ Acc.seats l
theorem le_seat (r n : Int) : Le (yX [iD r, iD n]) (isD (yn (r, n))) := le_agg_is (vs := [.int .i64 r, .int .i64 n])
end Sx
end Go.Proofs.YtgokpcnabgacnaaGreatDoor
namespace Go.Proofs.YtgokpcnabgacnaaGreatDoor
open Go.RowKit
namespace Sx
theorem con_put0 (gb : Nat) (n : Ust) (F1 F2 : List Nat) (l : List Acc.T) (a : Acc.T) (A : Option Addr) (c : Nat) (F : List Nat) (R : Res) (hR : Z7 R (.slice A a.key.length c) (cellsOf a.key)) (hb : a.key.length ≤ 1000000) (hl : l.length ≤ 100000) (hf : Acc.Free l a) : ConR Tryz.prog 110 [.c gb [isD (.map none), isD (.slice n.A (Acc.nm l).length n.c), isD (.map none)], .r n.F (yb 9 1 Zb n.A n.c (Acc.nm l)), .r F1 (zX none yq (Acc.nm l) (acD l)), .r F2 (zX none yn (Acc.seats l) (seD l)), .r F R] [pA gb, yX [yt a.name, iD a.role, isD (.slice A a.key.length c), iD a.dep, iD a.num]] (fun t : Nat × Nat × Ust × List Nat × List Nat => [.c gb [isD (.map (some t.1)), isD (.slice t.2.2.1.A (Acc.nm (Acc.ins l a)).length t.2.2.1.c), isD (.map (some t.2.1))], .r t.2.2.1.F (yb 9 1 Zb t.2.2.1.A t.2.2.1.c (Acc.nm (Acc.ins l a))), .r t.2.2.2.1 (zX (some t.1) yq (Acc.nm (Acc.ins l a)) (acD (Acc.ins l a))), .r t.2.2.2.2 (zX (some t.2.1) yn (Acc.seats (Acc.ins l a)) (seD (Acc.ins l a))), .r F R]) (fun t : Nat × Nat × Ust × List Nat × List Nat => isD (.tuple #[])) := by
 have hin : Acc.nm (Acc.ins l a) = (Acc.nm l).take (Acc.pos l a.name) ++ a.name :: (Acc.nm l).drop (Acc.pos l a.name) := Acc.names_ins l a
 have hpl := Acc.pos_le l a.name
 have hil : (Acc.nm (Acc.ins l a)).length = (Acc.nm l).length + 1 := by simp [Acc.ins_len]
 refine zY Tryz.func110 k9 rfl k9 fun base w0 => (zh (SW.mapQNil 2 rfl fun h0 => ?_))
 have hl0 : l = [] := by simpa using h0
 have hs0 : Acc.seats l = [] := by rw [hl0]; rfl
 refine zb (zk (S := []) (yF rfl rfl) ?_)
 rintro _ ⟨g3, rfl⟩
 refine zg (zc (zh (zh (zb (za rfl (zd rfl) (za rfl (zw rfl) (za rfl (zi (n := 0) rfl k9) (za rfl (zl 0 rfl rfl rfl k9 zp) (za rfl (Rd.eqM (kt := 9) (et := 121) rfl rfl k9) (zg (zc (yf rfl (rfl) (zb (za rfl (zd rfl) (za rfl (zd rfl) (zk (S := []) (Ef.makeMapQ (enc := yq) (acD (Acc.ins l a)) rfl) ?_))))))))))))))))
 rintro _ ⟨g13, rfl⟩
 refine zk (S := []) (Ef.makeMapQ (enc := yn) (seD (Acc.ins l a)) rfl) ?_
 rintro _ ⟨g14, rfl⟩
 refine za rfl (zw rfl) (za rfl (zi (n := 0) rfl k9) (zk (S := [_]) (yr 0 rfl rfl rfl k9 rfl (List.mem_singleton.2 rfl)) ?_))
 rintro _ rfl
 refine za rfl (zw rfl) (za rfl (zi (n := 2) rfl k9) (zk (S := [_]) (yr 0 rfl rfl rfl k9 rfl (List.mem_singleton.2 rfl)) ?_))
 rintro _ rfl
 refine zg (zc (zh (zO (σ' := zR [(0, pA gb), (3, pA g3)] [.c gb [isD (.map (some g13)), isD (.slice n.A (Acc.nm l).length n.c), isD (.map (some g14))], .r n.F (yb 9 1 Zb n.A n.c (Acc.nm l)), .r [g13] (zX (some g13) yq [] (acD (Acc.ins l a))), .r [g14] (zX (some g14) yn [] (seD (Acc.ins l a))), .c g3 [yt a.name, iD a.role, isD (.slice A a.key.length c), iD a.dep, iD a.num], .r F R]) (sB [0, 1, 6, 7, 5, 4] rfl rfl) (yj ([g13] ++ []) (.r 0 (.r 1 (.r 2 (.r 3 (.r 4 (.r 5 (.r 6 (.n 7 (.e 8 .fin .no) .no)))))))) k9 k9 (fun d _ _ _ _ h => by cases d <;> exact h) (zj rfl rfl (zd rfl) (zj rfl rfl (zw rfl) (zj rfl rfl (zi (n := 0) rfl k9) (zj rfl rfl (zl 0 rfl rfl rfl k9 (yl 2 rfl d9 zp)) (zj rfl rfl (zi (n := 0) rfl k9) (zj rfl rfl (zl 4 rfl rfl rfl k9 (yl 2 rfl d9 zp)) (zj rfl rfl (zG 4 5 rfl rfl k9 rfl (yl 2 rfl d9 zp)) (yi rfl (zA [5] (con_copied a.name a.role a.key a.dep a.num hb) rfl ⟨(sees_agg ⟨(zr (zf _)), (zr (zf _)), (sees_view 5 rfl hR d9), (zr (zf _)), (zr (zf _)), trivial⟩), trivial⟩ rfl) ?_ zI))))))))))))
 rintro _ rfl
 refine zZ rfl (Ef.mapNewQ (kt := 9) (et := 121) 2 rfl rfl rfl (zf _) rfl (by rw [acD_mem (Acc.find_ins hf.fine'.srt)]; exact zf _) k9 (keyNm _) s9 (fun _ h => List.mem_append_left _ h)) ?_ zI
 rintro _ rfl
 refine zV (zc (zh (zO (σ' := zR [(0, pA gb), (3, pA g3)] [.c gb [isD (.map (some g13)), isD (.slice n.A (Acc.nm l).length n.c), isD (.map (some g14))], .r n.F (yb 9 1 Zb n.A n.c (Acc.nm l)), .r [g13] (zX (some g13) yq (a.name :: []) (acD (Acc.ins l a))), .r [g14] (zX (some g14) yn [] (seD (Acc.ins l a))), .c g3 [yt a.name, iD a.role, isD (.slice A a.key.length c), iD a.dep, iD a.num], .r F R]) (sB [0, 1, 5, 2, 3, 4] rfl rfl) (yj [] (.r 0 (.r 1 (.r 2 (.r 3 (.r 4 (.r 5 (.n 6 (.r 7 (.r 8 (.r 9 (.r 10 (.r 11 .fin))))) .no))))))) k9 k9 (fun d _ _ _ _ h => by cases d <;> exact h) (zj rfl rfl (zd rfl) (zj rfl rfl (zw rfl) (zj rfl rfl (zi (n := 1) rfl k9) (zj rfl rfl (zl 0 rfl rfl rfl k9 zp) (zj rfl rfl (zi (n := 0) rfl k9) (zj rfl rfl (zl 4 rfl rfl rfl k9 zp) (yi rfl (zA [1] ((con_search lays26 l a.name hf.fine.srt o9)) rfl ⟨(sees_vec 1 rfl d9), (zr (zf _)), trivial⟩ rfl) ?_ zI)))))))))))
 rintro _ rfl
 refine zj rfl rfl (zd rfl) (zj rfl rfl (zq rfl rfl) (zj rfl rfl (zq rfl rfl) (zj rfl rfl (ze rfl) (zj rfl rfl (ze rfl) (zV (zc (zh (zO (σ' := zR [(0, pA gb), (3, pA g3), (4, iD (Acc.pos l a.name : Int))] [.c gb [isD (.map (some g13)), isD (.slice n.A (Acc.nm l).length n.c), isD (.map (some g14))], .r n.F (yb 9 1 Zb n.A n.c (Acc.nm l)), .r [g13] (zX (some g13) yq (a.name :: []) (acD (Acc.ins l a))), .r [g14] (zX (some g14) yn [] (seD (Acc.ins l a))), .c g3 [yt a.name, iD a.role, isD (.slice A a.key.length c), iD a.dep, iD a.num], .r F R]) (sB [0, 1, 2, 3, 4, 5] rfl rfl) (yj (n.F ++ (gb :: [])) (.r 0 (.r 1 (.r 2 (.r 3 (.q 4 (.r 5 (.r 6 (.r 7 (.n 8 (.e 9 (.r 10 (.r 11 (.e 12 .fin .no))) .no) .no))))))))) k9 k9 (fun d _ _ _ _ h => by cases d <;> exact h) (zj rfl rfl (zd rfl) (zj rfl rfl (zd rfl) (zj rfl rfl (zw rfl) (zj rfl rfl (zi (n := 1) rfl k9) (SWz.rq rfl rfl (zl 0 rfl rfl rfl k9 zp) (zj rfl rfl (zd rfl) (zj rfl rfl (zi (n := 0) rfl k9) (zj rfl rfl (zl 4 rfl rfl rfl k9 (yl 1 rfl d9 (yz 0 rfl d9 zp))) (yi rfl (Ef.litB (e := 9) [yq a.name] rfl rfl (fun L w vs hv => by obtain ⟨u, rfl, rfl⟩ := all1 hv; intro w'; kernel_rfl) rfl) ?_ zI))))))))))))))))))
 rintro _ rfl
 refine zZ rfl (zB [1] ((con_insert lays22 (Acc.nm l) n a.name (Acc.pos l a.name) (by simpa using hpl) (by simpa using (by omega : l.length ≤ 1000000)))) rfl ⟨zf _, zf _, zf _, trivial⟩ d9 ⟨lR rfl, trivial⟩ (fin_r (fun _ h => List.mem_append_left _ h) fin_nil) rfl) ?_ zI
 rintro _ ⟨t46, rfl⟩
 refine zj rfl rfl (zw rfl) (zj rfl rfl (zi (n := 1) rfl k9) (zZ rfl (yr 0 rfl rfl rfl k9 rfl (List.mem_append_right _ (List.mem_cons_self))) ?_ zI))
 rintro _ rfl
 refine zV (zc (zh (zO (σ' := zR [(0, pA gb), (3, pA g3)] [.c gb [isD (.map (some g13)), isD (.slice t46.A (Acc.nm (Acc.ins l a)).length t46.c), isD (.map (some g14))], .r t46.F (yb 9 1 Zb t46.A t46.c (Acc.nm (Acc.ins l a))), .r [g13] (zX (some g13) yq (a.name :: []) (acD (Acc.ins l a))), .r [g14] (zX (some g14) yn [] (seD (Acc.ins l a))), .c g3 [yt a.name, iD a.role, isD (.slice A a.key.length c), iD a.dep, iD a.num], .r F R]) (⟨⟨_, rfl, (sT rfl)⟩, [0, 5, 1, 2, 3, 4], by decide, ⟨⟨_, rfl, ⟨zf _, zC (by rw [hil]), zf _, trivial⟩⟩, ⟨⟨_, rfl, ZN (by rw [hin]) (by rw [hin])⟩, (sX rfl)⟩⟩⟩) (zb (za rfl (zi (n := 1) rfl k9) (za rfl (zl 4 rfl rfl rfl k9 zp) (za rfl (yd rfl rfl) (zg (zc (zJ rfl (fun hb51 => ?_) (fun hb51 => ?_)))))))))))
 ·have h51 : a.role ≠ 3 := by simpa using hb51
  refine yj ([g14] ++ []) (.r 0 (.r 1 (.r 2 (.r 3 (.r 4 (.r 5 (.r 6 (.r 7 (.r 8 (.r 9 (.r 10 (.e 11 .fin .no)))))))))))) k9 k9 (fun d _ _ _ _ h => by cases d <;> exact h) (zj rfl rfl (zd rfl) (zj rfl rfl (zw rfl) (zj rfl rfl (zi (n := 2) rfl k9) (zj rfl rfl (zl 0 rfl rfl rfl k9 (yl 3 rfl d9 zp)) (zj rfl rfl (zi (n := 1) rfl k9) (zj rfl rfl (zl 4 rfl rfl rfl k9 (yl 3 rfl d9 zp)) (zj rfl rfl (zi (n := 4) rfl k9) (zj rfl rfl (zl 4 rfl rfl rfl k9 (yl 3 rfl d9 zp)) (zj rfl rfl (yh rfl rfl bldSt2) (zj rfl rfl (zi (n := 0) rfl k9) (zj rfl rfl (zl 4 rfl rfl rfl k9 (yl 3 rfl d9 zp)) (zZ rfl (Ef.mapNewQ (kt := 158) (et := 9) 3 rfl rfl rfl (le_seat _ _) rfl (by rw [seD_mem (Acc.seat_mem hf.fine' (Acc.mem_ins.2 (.inl rfl)) h51)]; exact zf _) k9 (keySt _) s9 (fun _ h => List.mem_append_left _ h)) ?_ zI))))))))))))
  rintro _ rfl
  refine zV ?_
  refine Zx (fn := Tryz.f110) (⟨g13, g14, t46, [g13], [g14]⟩) [0, 1, 2, 5, 4] (Rs.none rfl) d9 ⟨la rfl, ⟨lR rfl, ⟨⟨_, rfl, leMapQ (fun k => by rw [← Acc.mem_names_ins]; simp [h0]) (fun _ _ => zf _)⟩, ⟨⟨_, rfl, leMapQ (fun k => by rw [← Acc.mem_seats_ins h51]; simp [hs0]) (fun _ _ => zf _)⟩, ⟨lR rfl, trivial⟩⟩⟩⟩⟩
 ·have h51 : a.role = 3 := by simpa using hb51
  refine zu ?_
  refine Zx (fn := Tryz.f110) (⟨g13, g14, t46, [g13], [g14]⟩) [0, 1, 2, 3, 5] (Rs.none rfl) d9 ⟨la rfl, ⟨lR rfl, ⟨⟨_, rfl, leMapQ (fun k => by rw [← Acc.mem_names_ins]; simp [h0]) (fun _ _ => zf _)⟩, ⟨⟨_, rfl, leMapQ (fun k => by rw [← Acc.mem_seats_ins3 h51]; simp [hs0]) (fun _ _ => zf _)⟩, ⟨lR rfl, trivial⟩⟩⟩⟩⟩
theorem con_put1 (gb g1 g2 : Nat) (n : Ust) (F1 F2 : List Nat) (l : List Acc.T) (a : Acc.T) (A : Option Addr) (c : Nat) (F : List Nat) (R : Res) (hR : Z7 R (.slice A a.key.length c) (cellsOf a.key)) (hb : a.key.length ≤ 1000000) (hl : l.length ≤ 100000) (hf : Acc.Free l a) : ConR Tryz.prog 110 [.c gb [isD (.map (some g1)), isD (.slice n.A (Acc.nm l).length n.c), isD (.map (some g2))], .r n.F (yb 9 1 Zb n.A n.c (Acc.nm l)), .r F1 (zX (some g1) yq (Acc.nm l) (acD l)), .r F2 (zX (some g2) yn (Acc.seats l) (seD l)), .r F R] [pA gb, yX [yt a.name, iD a.role, isD (.slice A a.key.length c), iD a.dep, iD a.num]] (fun t : Nat × Nat × Ust × List Nat × List Nat => [.c gb [isD (.map (some t.1)), isD (.slice t.2.2.1.A (Acc.nm (Acc.ins l a)).length t.2.2.1.c), isD (.map (some t.2.1))], .r t.2.2.1.F (yb 9 1 Zb t.2.2.1.A t.2.2.1.c (Acc.nm (Acc.ins l a))), .r t.2.2.2.1 (zX (some t.1) yq (Acc.nm (Acc.ins l a)) (acD (Acc.ins l a))), .r t.2.2.2.2 (zX (some t.2.1) yn (Acc.seats (Acc.ins l a)) (seD (Acc.ins l a))), .r F R]) (fun t : Nat × Nat × Ust × List Nat × List Nat => isD (.tuple #[])) := by
 have hin : Acc.nm (Acc.ins l a) = (Acc.nm l).take (Acc.pos l a.name) ++ a.name :: (Acc.nm l).drop (Acc.pos l a.name) := Acc.names_ins l a
 have hpl := Acc.pos_le l a.name
 have hil : (Acc.nm (Acc.ins l a)).length = (Acc.nm l).length + 1 := by simp [Acc.ins_len]
 refine zY Tryz.func110 k9 rfl k9 fun base w0 => (zh (zb (zk (S := []) (yF rfl rfl) ?_)))
 rintro _ ⟨g3, rfl⟩
 refine zg (zc (zh (zh (zb (za rfl (zd rfl) (za rfl (zw rfl) (za rfl (zi (n := 0) rfl k9) (za rfl (zl 0 rfl rfl rfl k9 zp) (za rfl (Rd.eqM (kt := 9) (et := 121) rfl rfl k9) (zg (zc (zE rfl (rfl) (zu (zc (zh (zO (σ' := zR [(0, pA gb), (3, pA g3)] [.c gb [isD (.map (some g1)), isD (.slice n.A (Acc.nm l).length n.c), isD (.map (some g2))], .r n.F (yb 9 1 Zb n.A n.c (Acc.nm l)), .r F1 (zX (some g1) yq (Acc.nm l) (acD (Acc.ins l a))), .r F2 (zX (some g2) yn (Acc.seats l) (seD (Acc.ins l a))), .c g3 [yt a.name, iD a.role, isD (.slice A a.key.length c), iD a.dep, iD a.num], .r F R]) (⟨⟨_, rfl, (sT rfl)⟩, [0, 1, 2, 3, 5, 4], by decide, ⟨la rfl, ⟨lR rfl, ⟨⟨_, rfl, leMapQ (fun _ => Iff.rfl) (fun k hk => acD_eq (Acc.find_ins' hf.fine.srt hf.fine'.srt hk))⟩, ⟨⟨_, rfl, leMapQ (fun _ => Iff.rfl) (fun k hk => seD_eq (Acc.seat_ins' hf.fine hf.fine' hk))⟩, (sX rfl)⟩⟩⟩⟩⟩) (yj (F1 ++ []) (.r 0 (.r 1 (.r 2 (.r 3 (.r 4 (.r 5 (.r 6 (.n 7 (.e 8 .fin .no) .no)))))))) k9 k9 (fun d _ _ _ _ h => by cases d <;> exact h) (zj rfl rfl (zd rfl) (zj rfl rfl (zw rfl) (zj rfl rfl (zi (n := 0) rfl k9) (zj rfl rfl (zl 0 rfl rfl rfl k9 (yl 2 rfl d9 zp)) (zj rfl rfl (zi (n := 0) rfl k9) (zj rfl rfl (zl 4 rfl rfl rfl k9 (yl 2 rfl d9 zp)) (zj rfl rfl (zG 4 5 rfl rfl k9 rfl (yl 2 rfl d9 zp)) (yi rfl (zA [5] (con_copied a.name a.role a.key a.dep a.num hb) rfl ⟨(sees_agg ⟨(zr (zf _)), (zr (zf _)), (sees_view 5 rfl hR d9), (zr (zf _)), (zr (zf _)), trivial⟩), trivial⟩ rfl) ?_ zI)))))))))))))))))))))))))
 rintro _ rfl
 refine zZ rfl (Ef.mapNewQ (kt := 9) (et := 121) 2 rfl rfl rfl (zf _) rfl (by rw [acD_mem (Acc.find_ins hf.fine'.srt)]; exact zf _) k9 (keyNm _) hf.nm (fun _ h => List.mem_append_left _ h)) ?_ zI
 rintro _ rfl
 refine zV (zc (zh (zO (σ' := zR [(0, pA gb), (3, pA g3)] [.c gb [isD (.map (some g1)), isD (.slice n.A (Acc.nm l).length n.c), isD (.map (some g2))], .r n.F (yb 9 1 Zb n.A n.c (Acc.nm l)), .r F1 (zX (some g1) yq (a.name :: (Acc.nm l)) (acD (Acc.ins l a))), .r F2 (zX (some g2) yn (Acc.seats l) (seD (Acc.ins l a))), .c g3 [yt a.name, iD a.role, isD (.slice A a.key.length c), iD a.dep, iD a.num], .r F R]) (sB [0, 1, 5, 2, 3, 4] rfl rfl) (yj [] (.r 0 (.r 1 (.r 2 (.r 3 (.r 4 (.r 5 (.n 6 (.r 7 (.r 8 (.r 9 (.r 10 (.r 11 .fin))))) .no))))))) k9 k9 (fun d _ _ _ _ h => by cases d <;> exact h) (zj rfl rfl (zd rfl) (zj rfl rfl (zw rfl) (zj rfl rfl (zi (n := 1) rfl k9) (zj rfl rfl (zl 0 rfl rfl rfl k9 zp) (zj rfl rfl (zi (n := 0) rfl k9) (zj rfl rfl (zl 4 rfl rfl rfl k9 zp) (yi rfl (zA [1] ((con_search lays26 l a.name hf.fine.srt o9)) rfl ⟨(sees_vec 1 rfl d9), (zr (zf _)), trivial⟩ rfl) ?_ zI)))))))))))
 rintro _ rfl
 refine zj rfl rfl (zd rfl) (zj rfl rfl (zq rfl rfl) (zj rfl rfl (zq rfl rfl) (zj rfl rfl (ze rfl) (zj rfl rfl (ze rfl) (zV (zc (zh (zO (σ' := zR [(0, pA gb), (3, pA g3), (4, iD (Acc.pos l a.name : Int))] [.c gb [isD (.map (some g1)), isD (.slice n.A (Acc.nm l).length n.c), isD (.map (some g2))], .r n.F (yb 9 1 Zb n.A n.c (Acc.nm l)), .r F1 (zX (some g1) yq (a.name :: (Acc.nm l)) (acD (Acc.ins l a))), .r F2 (zX (some g2) yn (Acc.seats l) (seD (Acc.ins l a))), .c g3 [yt a.name, iD a.role, isD (.slice A a.key.length c), iD a.dep, iD a.num], .r F R]) (sB [0, 1, 2, 3, 4, 5] rfl rfl) (yj (n.F ++ (gb :: [])) (.r 0 (.r 1 (.r 2 (.r 3 (.q 4 (.r 5 (.r 6 (.r 7 (.n 8 (.e 9 (.r 10 (.r 11 (.e 12 .fin .no))) .no) .no))))))))) k9 k9 (fun d _ _ _ _ h => by cases d <;> exact h) (zj rfl rfl (zd rfl) (zj rfl rfl (zd rfl) (zj rfl rfl (zw rfl) (zj rfl rfl (zi (n := 1) rfl k9) (SWz.rq rfl rfl (zl 0 rfl rfl rfl k9 zp) (zj rfl rfl (zd rfl) (zj rfl rfl (zi (n := 0) rfl k9) (zj rfl rfl (zl 4 rfl rfl rfl k9 (yl 1 rfl d9 (yz 0 rfl d9 zp))) (yi rfl (Ef.litB (e := 9) [yq a.name] rfl rfl (fun L w vs hv => by obtain ⟨u, rfl, rfl⟩ := all1 hv; intro w'; kernel_rfl) rfl) ?_ zI))))))))))))))))))
 rintro _ rfl
 refine zZ rfl (zB [1] ((con_insert lays22 (Acc.nm l) n a.name (Acc.pos l a.name) (by simpa using hpl) (by simpa using (by omega : l.length ≤ 1000000)))) rfl ⟨zf _, zf _, zf _, trivial⟩ d9 ⟨lR rfl, trivial⟩ (fin_r (fun _ h => List.mem_append_left _ h) fin_nil) rfl) ?_ zI
 rintro _ ⟨t46, rfl⟩
 refine zj rfl rfl (zw rfl) (zj rfl rfl (zi (n := 1) rfl k9) (zZ rfl (yr 0 rfl rfl rfl k9 rfl (List.mem_append_right _ (List.mem_cons_self))) ?_ zI))
 rintro _ rfl
 refine zV (zc (zh (zO (σ' := zR [(0, pA gb), (3, pA g3)] [.c gb [isD (.map (some g1)), isD (.slice t46.A (Acc.nm (Acc.ins l a)).length t46.c), isD (.map (some g2))], .r t46.F (yb 9 1 Zb t46.A t46.c (Acc.nm (Acc.ins l a))), .r F1 (zX (some g1) yq (a.name :: (Acc.nm l)) (acD (Acc.ins l a))), .r F2 (zX (some g2) yn (Acc.seats l) (seD (Acc.ins l a))), .c g3 [yt a.name, iD a.role, isD (.slice A a.key.length c), iD a.dep, iD a.num], .r F R]) (⟨⟨_, rfl, (sT rfl)⟩, [0, 5, 1, 2, 3, 4], by decide, ⟨⟨_, rfl, ⟨zf _, zC (by rw [hil]), zf _, trivial⟩⟩, ⟨⟨_, rfl, ZN (by rw [hin]) (by rw [hin])⟩, (sX rfl)⟩⟩⟩) (zb (za rfl (zi (n := 1) rfl k9) (za rfl (zl 4 rfl rfl rfl k9 zp) (za rfl (yd rfl rfl) (zg (zc (zJ rfl (fun hb51 => ?_) (fun hb51 => ?_)))))))))))
 ·have h51 : a.role ≠ 3 := by simpa using hb51
  refine yj (F2 ++ []) (.r 0 (.r 1 (.r 2 (.r 3 (.r 4 (.r 5 (.r 6 (.r 7 (.r 8 (.r 9 (.r 10 (.e 11 .fin .no)))))))))))) k9 k9 (fun d _ _ _ _ h => by cases d <;> exact h) (zj rfl rfl (zd rfl) (zj rfl rfl (zw rfl) (zj rfl rfl (zi (n := 2) rfl k9) (zj rfl rfl (zl 0 rfl rfl rfl k9 (yl 3 rfl d9 zp)) (zj rfl rfl (zi (n := 1) rfl k9) (zj rfl rfl (zl 4 rfl rfl rfl k9 (yl 3 rfl d9 zp)) (zj rfl rfl (zi (n := 4) rfl k9) (zj rfl rfl (zl 4 rfl rfl rfl k9 (yl 3 rfl d9 zp)) (zj rfl rfl (yh rfl rfl bldSt2) (zj rfl rfl (zi (n := 0) rfl k9) (zj rfl rfl (zl 4 rfl rfl rfl k9 (yl 3 rfl d9 zp)) (zZ rfl (Ef.mapNewQ (kt := 158) (et := 9) 3 rfl rfl rfl (le_seat _ _) rfl (by rw [seD_mem (Acc.seat_mem hf.fine' (Acc.mem_ins.2 (.inl rfl)) h51)]; exact zf _) k9 (keySt _) (hf.st h51) (fun _ h => List.mem_append_left _ h)) ?_ zI))))))))))))
  rintro _ rfl
  refine zV ?_
  refine Zx (fn := Tryz.f110) (⟨g1, g2, t46, F1, F2⟩) [0, 1, 2, 5, 4] (Rs.none rfl) d9 ⟨la rfl, ⟨lR rfl, ⟨⟨_, rfl, leMapQ (fun k => Acc.mem_names_ins) (fun _ _ => zf _)⟩, ⟨⟨_, rfl, leMapQ (fun k => Acc.mem_seats_ins h51) (fun _ _ => zf _)⟩, ⟨lR rfl, trivial⟩⟩⟩⟩⟩
 ·have h51 : a.role = 3 := by simpa using hb51
  refine zu ?_
  refine Zx (fn := Tryz.f110) (⟨g1, g2, t46, F1, F2⟩) [0, 1, 2, 3, 5] (Rs.none rfl) d9 ⟨la rfl, ⟨lR rfl, ⟨⟨_, rfl, leMapQ (fun k => Acc.mem_names_ins) (fun _ _ => zf _)⟩, ⟨⟨_, rfl, leMapQ (fun k => Acc.mem_seats_ins3 h51) (fun _ _ => zf _)⟩, ⟨lR rfl, trivial⟩⟩⟩⟩⟩
end Sx
end Go.Proofs.YtgokpcnabgacnaaGreatDoor
namespace Go.Proofs.YtgokpcnabgacnaaGreatDoor
open Go.RowKit
namespace Sx
theorem ConR.map {P : Program} {f : FuncId} {pre : List Box} {ad : List D} {ι ι' : Type} {post : ι → List Box} {d : ι → D} {post' : ι' → List Box} {d' : ι' → D} (h : ConR P f pre ad post d) (g : ι → ι') (hp : ∀ i, post i = post' (g i)) (hd : ∀ i, d i = d' (g i)) : ConR P f pre ad post' d' :=
 ⟨h.en, fun L w vs h1 h2 h3 h4 h5 h6 h7 => (h.go L w vs h1 h2 h3 h4 h5 h6 h7).mono fun e w' ⟨i, v, a1, a2, a3, a4, a5, a6⟩ => ⟨g i, v, a1, by rw [← hp, ← hd]; exact a2, by rw [← hp]; exact a3, by rw [← hp]; exact a4, by rw [← hp]; exact a5, a6⟩⟩
theorem con_put (gb : Nat) (s : Bst) (l : List Acc.T) (a : Acc.T) (A : Option Addr) (c : Nat) (F : List Nat) (R : Res) (hR : Z7 R (.slice A a.key.length c) (cellsOf a.key)) (hb : a.key.length ≤ 1000000) (hl : l.length ≤ 100000) (hf : Acc.Free l a) :
  ConR Tryz.prog 110 [bookC gb s l, bookN s l, bookA s l, bookS s l, .r F R] [pA gb, yX [yt a.name, iD a.role, isD (.slice A a.key.length c), iD a.dep, iD a.num]]
   (fun t : Bst => [bookC gb t (Acc.ins l a), bookN t (Acc.ins l a), bookA t (Acc.ins l a), bookS t (Acc.ins l a), .r F R]) (fun _ => isD (.tuple #[])) := by
 obtain ⟨M, F1, F2, n⟩ := s
 match M with
 | none => exact (con_put0 gb n F1 F2 l a A c F R hR hb hl hf).map (fun t => ⟨some (t.1, t.2.1), t.2.2.2.1, t.2.2.2.2, t.2.2.1⟩) (fun _ => rfl) (fun _ => rfl)
 | some (g1, g2) => exact (con_put1 gb g1 g2 n F1 F2 l a A c F R hR hb hl hf).map (fun t => ⟨some (t.1, t.2.1), t.2.2.2.1, t.2.2.2.2, t.2.2.1⟩) (fun _ => rfl) (fun _ => rfl)
theorem Acc.free_of {l : List Acc.T} {a : Acc.T} (hf : Acc.Fine l) (ha : Acc.ok a) (hc : ¬ ∃ x ∈ l, Acc.clash a x) (hl : l.length < 256) : Acc.Free l a :=
 ⟨hf, hf.ins ha hc hl, fun h => by obtain ⟨x, hx, e⟩ := List.mem_map.1 h; exact hc ⟨x, hx, .inl e⟩, fun h3 h => by
  obtain ⟨x, hx, h4, e⟩ := Acc.mem_seats.1 h
  injection e with e1 e2
  exact hc ⟨x, hx, .inr ⟨e1, e2, h3⟩⟩⟩
theorem ZU {l : List Acc.T} {a : Acc.T} (h : ¬ Acc.ok a) : Acc.add l a = (l, 2) := by unfold Acc.add; rw [if_neg h]
theorem yy {l : List Acc.T} {a : Acc.T} (h : Acc.ok a) (hc : ∃ x ∈ l, Acc.clash a x) : Acc.add l a = (l, 11) := by unfold Acc.add; rw [if_pos h, if_pos hc]
theorem Zd {l : List Acc.T} {a : Acc.T} (h : Acc.ok a) (hc : ¬ ∃ x ∈ l, Acc.clash a x) (hl : 256 ≤ l.length) : Acc.add l a = (l, 7) := by unfold Acc.add; rw [if_pos h, if_neg hc, if_pos hl]
theorem y8 {l : List Acc.T} {a : Acc.T} (h : Acc.ok a) (hc : ¬ ∃ x ∈ l, Acc.clash a x) (hl : ¬ 256 ≤ l.length) : Acc.add l a = (Acc.ins l a, 0) := by unfold Acc.add; rw [if_pos h, if_neg hc, if_neg hl]
theorem Yi {l : List Acc.T} {a : Acc.T} (h : a.name ∈ Acc.nm l) : ∃ x ∈ l, Acc.clash a x := by
 obtain ⟨x, hx, e⟩ := List.mem_map.1 h
 exact ⟨x, hx, .inl e⟩
theorem Yh {l : List Acc.T} {a : Acc.T} (h : (a.role, a.num) ∈ Acc.seats l) : ∃ x ∈ l, Acc.clash a x := by
 obtain ⟨x, hx, h3, e⟩ := Acc.mem_seats.1 h
 injection e with e1 e2
 exact ⟨x, hx, .inr ⟨e1, e2, by rw [← e1]; exact h3⟩⟩
theorem yO {l : List Acc.T} {a : Acc.T} (h1 : a.name ∉ Acc.nm l) (h2 : (a.role, a.num) ∉ Acc.seats l) : ¬ ∃ x ∈ l, Acc.clash a x := by
 rintro ⟨x, hx, hc⟩
 rcases hc with hc | ⟨e1, e2, h3⟩
 ·exact h1 (List.mem_map.2 ⟨x, hx, hc⟩)
 ·exact h2 (Acc.mem_seats.2 ⟨x, hx, by rw [e1]; exact h3, by rw [e1, e2]⟩)
def Acc.zero : Acc.T := ⟨[], 0, [], 0, 0⟩
def Acc.getA (l : List Acc.T) (n : List UInt8) : Acc.T := (Acc.find l n).getD Acc.zero
def Acc.getE (l : List Acc.T) (n : List UInt8) : Int := if (Acc.find l n).isSome then 0 else 9
theorem Acc.get_yes {l : List Acc.T} {n : List UInt8} {x : Acc.T} (h : Acc.find l n = some x) : Acc.getA l n = x ∧ Acc.getE l n = 0 := by unfold Acc.getA Acc.getE; rw [h]; exact ⟨rfl, rfl⟩
theorem Acc.get_no {l : List Acc.T} {n : List UInt8} (h : Acc.find l n = none) : Acc.getA l n = Acc.zero ∧ Acc.getE l n = 9 := by unfold Acc.getA Acc.getE; rw [h]; exact ⟨rfl, rfl⟩
def Acc.ofE (l : List Acc.T) (p : Int × Int) : Int := if (Acc.seat l p).isSome then 0 else 9
theorem Acc.nm_in {l : List Acc.T} {n : List UInt8} {x : Acc.T} (h : Acc.find l n = some x) : n ∈ Acc.nm l := List.mem_map.2 ⟨x, Acc.find_some h⟩
theorem Acc.nm_out {l : List Acc.T} {n : List UInt8} (h : Acc.find l n = none) : n ∉ Acc.nm l := fun hm => Acc.find_none.1 h (List.mem_map.1 hm)
theorem tup_ac {l : List Acc.T} {n : List UInt8} {x : Acc.T} (h : Acc.find l n = some x) : Le (Yq [acD l n, isD (.bool true)]) (Yq [yX [yt x.name, iD x.role, bD x.key, iD x.dep, iD x.num], isD (.bool true)]) := by unfold acD; rw [h]; exact zf _
theorem ac_x {l : List Acc.T} {n : List UInt8} {x : Acc.T} (h : Acc.find l n = some x) : Le (acD l n) (yX [yt x.name, iD x.role, bD x.key, iD x.dep, iD x.num]) := by unfold acD; rw [h]; exact zf _
theorem tup_z5 : Le (Yq [isD (.agg #[.string ⟨#[]⟩, .int .i64 0, .slice none 0 0, .int .i64 0, .int .i64 0]), isD (.bool false)]) (Yq [yX [yt [], iD 0, isD (.slice none 0 0), iD 0, iD 0], isD (.bool false)]) := yJ ⟨le_is_agg (vs := [.string ⟨#[]⟩, .int .i64 0, .slice none 0 0, .int .i64 0, .int .i64 0]), zf _, trivial⟩
theorem blsA1 (x : Acc.T) : Bls Tryz.prog 29 1 [0] [yX [yt x.name, iD x.role, bD x.key, iD x.dep, iD x.num]] ([x].flatMap encA) := ⟨121, fun L w vs hv => by
 obtain ⟨u, rfl, cs, rfl, hc⟩ := all1 hv
 match cs, hc with
 | [a, b, c, d, e], hc =>
  obtain ⟨rfl, rfl, h3, rfl, rfl, -⟩ := hc
  have h3' := h3
  obtain ⟨A, cp, rfl, -⟩ := h3
  exact ⟨[.string _, .int .i64 _, .slice A _ cp, .int .i64 _, .int .i64 _], ⟨rfl, rfl, h3', rfl, rfl, trivial⟩, fun w' => by kernel_rfl⟩⟩
theorem nwA5 {n : Nat} {x : Acc.T} : Le (yX [nwD n (yt x.name), nwD n (iD x.role), nwD n (bD x.key), nwD n (iD x.dep), nwD n (iD x.num)]) (nwD n (yX (encA x))) := by
 have h : LeAll [nwD n (yt x.name), nwD n (iD x.role), nwD n (bD x.key), nwD n (iD x.dep), nwD n (iD x.num)] ([yt x.name, iD x.role, bD x.key, iD x.dep, iD x.num].map (nwD n)) := ⟨zf _, zf _, zf _, zf _, zf _, trivial⟩
 exact le_nw_agg h
theorem nwZ5 {n : Nat} : Le (yX [yt [], iD 0, isD (.slice none 0 0), iD 0, iD 0]) (nwD n (yX (encA Acc.zero))) := by
 have h : LeAll [yt [], iD 0, isD (.slice none 0 0), iD 0, iD 0] ([yt [], iD 0, bD [], iD 0, iD 0].map (nwD n)) := ⟨zt, zt, Le.trans (zt (x := .slice none 0 0)) (le_nw_mono (Nat.le_refl _) Zy), zt, zt, trivial⟩
 exact le_nw_agg h
instance (a : Acc.T) : Ones (encA a) := by unfold encA; infer_instance
end Sx
end Go.Proofs.YtgokpcnabgacnaaGreatDoor
