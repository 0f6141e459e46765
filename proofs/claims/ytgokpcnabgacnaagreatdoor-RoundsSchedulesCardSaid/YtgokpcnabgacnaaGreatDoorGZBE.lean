/- ROUNDS: the reference's Valid, At, with. ROUNDS: the reference's Record, Of. -/
import Derived.Test.YtgokpcnabgacnaaGreatDoorGZBB
import Derived.Test.YtgokpcnabgacnaaGreatDoorGZBD
set_option maxHeartbeats 8000000
set_option maxRecDepth 100000
namespace Go.Proofs.YtgokpcnabgacnaaGreatDoor
open Go.RowKit
namespace Sx
def encKy (k : List UInt8) : List D := [bD k]
instance : Row encKy 1 := ⟨fun _ => rfl, fun _ => by unfold encKy; infer_instance, by decide⟩
instance (k : List UInt8) : Ones (encKy k) := by unfold encKy; infer_instance
abbrev rfD (s : Rnd.S) : List D := [lsD Yk s.bk, lsD Zs s.ws, lsD Yj s.es, lsD encKy s.ks, iD s.ck, lsD encE s.en]
theorem okL_bad {l : List Rnd.Win} {i : Nat} {x : Rnd.Win} (hx : l[i]? = some x) (hq : Rnd.okL 0 l ↔ Rnd.okL (Rnd.before l i) (l.drop i)) (h : ¬ Rnd.okW (Rnd.before l i) x) : ¬ Rnd.ok l := fun h2 => h ((Rnd.okL_step hx).1 (hq.1 h2.2)).1
theorem before_pred {l : List Rnd.Win} {i : Nat} {y : Rnd.Win} (h : l[i - 1]? = some y) (h0 : 0 < i) : Rnd.before l i = y.en := by
 obtain ⟨k, rfl⟩ : ∃ k, i = k + 1 := ⟨i - 1, by omega⟩
 exact Rnd.before_succ h
theorem con_Valid44 (l : List Rnd.Win) (hl : l.length ≤ 1000000) : ConN Tryz.prog 54 [lsD Zs l] (yY (decide (Rnd.ok l))) := by
 refine yE Tryz.func54 k9 rfl k9 fun base w0 => (zh (zb (za rfl (ze rfl) (zg (zc (zh (zh (zb (za rfl (ze rfl) (zg (zc (zW (Zq (ι := {i : Nat // i ≤ l.length ∧ 0 ≤ Rnd.before l i ∧ (Rnd.okL 0 l ↔ Rnd.okL (Rnd.before l i) (l.drop i))}) (fun i => zR [(0, lsD Zs l), (3, iD (i.1 : Int))] []) (fun i => l.length - i.1) (⟨0, Nat.zero_le _, Int.le_refl _, Iff.rfl⟩) ?_ ?_)))))))))))))
 ·exact (sB [] rfl rfl)
 ·rintro ⟨i, hi, hq⟩ K0 hK0
  dsimp only at hi hq ⊢
  refine zh (zh (zb (za rfl (zd rfl) (za rfl (zd rfl) (za rfl (yV (e := 26) rfl k9) (za rfl (yG rfl rfl) (zg (zc (zJ rfl (fun hb8 => ?_) (fun hb8 => ?_))))))))))
  ·have h8 : (i : Int) < (l.length : Int) := of_decide_eq_true hb8
   refine zu (zc (zh (zW (zh ?_))))
   obtain ⟨x, hx⟩ : ∃ x, l[i]? = some x := ⟨_, List.getElem?_eq_getElem o9⟩
   refine zb (za rfl (zd rfl) (za rfl (zd rfl) (za rfl (yK (e := 26) 4 rfl rfl k9 k9 o9 (by simpa using hx)) (za rfl (Rd.loadRA 4 rfl k9 d9 (show 4 ≤ 4 by decide) s9) (zk (S := []) (zQ (zs := [.int .i64 0, .int .i64 0, .int .i64 0, .slice none 0 0]) k9 rfl) ?_)))))
   rintro _ ⟨g4, rfl⟩
   refine zk (S := [_]) (zF 0 rfl rfl rfl k9 rfl (List.mem_singleton.2 rfl)) ?_
   rintro _ rfl
   refine zg (zc (zh ?_))
   obtain ⟨y, hy⟩ : ∃ y, 0 < i → l[i - 1]? = some y := (by by_cases h : 0 < i; exact ⟨l[i - 1], fun _ => List.getElem?_eq_getElem o9⟩; exact ⟨x, fun h2 => absurd h2 h⟩)
   have hb0 : i = 0 → Rnd.before l i = 0 := fun h => by rw [h]; rfl
   have hbi : 0 < i → Rnd.before l i = y.en := fun h => before_pred (hy h) h
   refine yj [] (.r 0 (.r 1 (.r 2 (.r 3 (.r 4 (.r 5 (.r 6 (.r 7 (.r 8 (.r 9 (.r 10 (.r 11 (.r 12 (.r 13 (.r 14 (.r 15 (.r 16 (.r 17 (.r 18 (.r 19 (.r 20 (.r 21 (.r 22 (.r 23 (.r 24 (.r 25 (.r 26 (.r 27 (.r 28 (.r 29 (.r 30 (.r 31 (.r 32 (.r 33 (.r 34 (.r 35 (.r 36 (.r 37 (.r 38 (.r 39 (.r 40 (.r 41 (.r 42 .fin))))))))))))))))))))))))))))))))))))))))))) k9 k9 (fun d _ _ _ _ h => by cases d <;> exact h) (zj rfl rfl (zi (n := 0) rfl k9) (zj rfl rfl (zl 0 rfl rfl rfl k9 zp) (zj rfl rfl (yG rfl rfl) (zj rfl rfl (zd rfl) (Z6 18 rfl (fun hb18 => ?_) (fun hb18 => ?_))))))
   ·have h18 : x.st < 0 := of_decide_eq_true hb18
    refine zx rfl rfl rfl (hb18) rfl rfl (zx rfl rfl rfl (hb18) rfl rfl (zx rfl rfl rfl (hb18) rfl rfl (zx rfl rfl rfl (hb18) rfl rfl (zx rfl rfl rfl (hb18) rfl rfl (zj rfl rfl (zz rfl (hb18) rfl) (zj rfl rfl (zd rfl) (zx rfl rfl rfl (rfl) rfl rfl (zx rfl rfl rfl (rfl) rfl rfl (zx rfl rfl rfl (rfl) rfl rfl (zx rfl rfl rfl (rfl) rfl rfl (zx rfl rfl rfl (rfl) rfl rfl (zj rfl rfl (zz rfl (rfl) rfl) (zj rfl rfl (zd rfl) (zx rfl rfl rfl (rfl) rfl rfl (zx rfl rfl rfl (rfl) rfl rfl (zx rfl rfl rfl (rfl) rfl rfl (zj rfl rfl (zz rfl (rfl) rfl) (zj rfl rfl (zd rfl) (zx rfl rfl rfl (rfl) rfl rfl (zx rfl rfl rfl (rfl) rfl rfl (zx rfl rfl rfl (rfl) rfl rfl (zx rfl rfl rfl (rfl) rfl rfl (zj rfl rfl (zz rfl (rfl) rfl) (zj rfl rfl (zd rfl) (zx rfl rfl rfl (rfl) rfl rfl (zx rfl rfl rfl (rfl) rfl rfl (zx rfl rfl rfl (rfl) rfl rfl (ya rfl rfl rfl rfl rfl (ya rfl rfl rfl rfl rfl (ya rfl rfl rfl rfl rfl (ya rfl rfl rfl rfl rfl (ya rfl rfl rfl rfl rfl (ya rfl rfl rfl rfl rfl (ya rfl rfl rfl rfl rfl (ya rfl rfl rfl rfl rfl (ya rfl rfl rfl rfl rfl (zx rfl rfl rfl (rfl) rfl rfl (zj rfl rfl (zz rfl (rfl) rfl) (zV ?_)))))))))))))))))))))))))))))))))))))))
    refine zc (yf rfl (rfl) (zh (zb (za rfl (ze rfl) (zg (zc (zH (fn := Tryz.f54) (fun _ _ h => h) (Rs.le (Rs.one rfl (zo rfl)) ?_))))))))
    exact zP (by symm; apply decide_eq_false; exact okL_bad hx hq.2 (by unfold Rnd.okW; first | omega | (have := hbi o9; omega)))
   ·have h18 : ¬ x.st < 0 := of_decide_eq_false hb18
    refine zN rfl rfl rfl (hb18) rfl rfl (zi (n := 0) rfl k9) (zN rfl rfl rfl (hb18) rfl rfl (zl 0 rfl rfl rfl k9 zp) (zN rfl rfl rfl (hb18) rfl rfl (zi (n := 1) rfl k9) (zN rfl rfl rfl (hb18) rfl rfl (zl 0 rfl rfl rfl k9 zp) (zN rfl rfl rfl (hb18) rfl rfl (ZL rfl rfl) (zj rfl rfl (zy rfl (hb18) rfl) (zj rfl rfl (zd rfl) (Z6 25 rfl (fun hb25 => ?_) (fun hb25 => ?_))))))))
    ·have h25 : x.st ≥ x.en := of_decide_eq_true hb25
     refine zx rfl rfl rfl (hb25) rfl rfl (zx rfl rfl rfl (hb25) rfl rfl (zx rfl rfl rfl (hb25) rfl rfl (zx rfl rfl rfl (hb25) rfl rfl (zx rfl rfl rfl (hb25) rfl rfl (zj rfl rfl (zz rfl (hb25) rfl) (zj rfl rfl (zd rfl) (zx rfl rfl rfl (rfl) rfl rfl (zx rfl rfl rfl (rfl) rfl rfl (zx rfl rfl rfl (rfl) rfl rfl (zj rfl rfl (zz rfl (rfl) rfl) (zj rfl rfl (zd rfl) (zx rfl rfl rfl (rfl) rfl rfl (zx rfl rfl rfl (rfl) rfl rfl (zx rfl rfl rfl (rfl) rfl rfl (zx rfl rfl rfl (rfl) rfl rfl (zj rfl rfl (zz rfl (rfl) rfl) (zj rfl rfl (zd rfl) (zx rfl rfl rfl (rfl) rfl rfl (zx rfl rfl rfl (rfl) rfl rfl (zx rfl rfl rfl (rfl) rfl rfl (ya rfl rfl rfl rfl rfl (ya rfl rfl rfl rfl rfl (ya rfl rfl rfl rfl rfl (ya rfl rfl rfl rfl rfl (ya rfl rfl rfl rfl rfl (ya rfl rfl rfl rfl rfl (ya rfl rfl rfl rfl rfl (ya rfl rfl rfl rfl rfl (ya rfl rfl rfl rfl rfl (zx rfl rfl rfl (rfl) rfl rfl (zj rfl rfl (zz rfl (rfl) rfl) (zV (zc (yf rfl (rfl) (zh (zb (za rfl (ze rfl) (zg (zc ?_)))))))))))))))))))))))))))))))))))))))
     refine zH (fn := Tryz.f54) (fun _ _ h => h) (Rs.le (Rs.one rfl (zo rfl)) ?_)
     exact zP (by symm; apply decide_eq_false; exact okL_bad hx hq.2 (by unfold Rnd.okW; first | omega | (have := hbi o9; omega)))
    ·have h25 : ¬ x.st ≥ x.en := of_decide_eq_false hb25
     refine zN rfl rfl rfl (hb25) rfl rfl (zi (n := 1) rfl k9) (zN rfl rfl rfl (hb25) rfl rfl (zl 0 rfl rfl rfl k9 zp) (zN rfl rfl rfl (hb25) rfl rfl (zi (n := 2) rfl k9) (zN rfl rfl rfl (hb25) rfl rfl (zl 0 rfl rfl rfl k9 zp) (zN rfl rfl rfl (hb25) rfl rfl (ZZ rfl rfl) (zj rfl rfl (zy rfl (hb25) rfl) (zj rfl rfl (zd rfl) (Z6 32 rfl (fun hb32 => ?_) (fun hb32 => ?_))))))))
     ·have h32 : x.en > x.rv := of_decide_eq_true hb32
      refine zx rfl rfl rfl (hb32) rfl rfl (zx rfl rfl rfl (hb32) rfl rfl (zx rfl rfl rfl (hb32) rfl rfl (zj rfl rfl (zz rfl (hb32) rfl) (zj rfl rfl (zd rfl) (zx rfl rfl rfl (rfl) rfl rfl (zx rfl rfl rfl (rfl) rfl rfl (zx rfl rfl rfl (rfl) rfl rfl (zx rfl rfl rfl (rfl) rfl rfl (zj rfl rfl (zz rfl (rfl) rfl) (zj rfl rfl (zd rfl) (zx rfl rfl rfl (rfl) rfl rfl (zx rfl rfl rfl (rfl) rfl rfl (zx rfl rfl rfl (rfl) rfl rfl (ya rfl rfl rfl rfl rfl (ya rfl rfl rfl rfl rfl (ya rfl rfl rfl rfl rfl (ya rfl rfl rfl rfl rfl (ya rfl rfl rfl rfl rfl (ya rfl rfl rfl rfl rfl (ya rfl rfl rfl rfl rfl (ya rfl rfl rfl rfl rfl (ya rfl rfl rfl rfl rfl (zx rfl rfl rfl (rfl) rfl rfl (zj rfl rfl (zz rfl (rfl) rfl) (zV (zc (yf rfl (rfl) (zh (zb (za rfl (ze rfl) (zg (zc (zH (fn := Tryz.f54) (fun _ _ h => h) (Rs.le (Rs.one rfl (zo rfl)) ?_))))))))))))))))))))))))))))))))))
      exact zP (by symm; apply decide_eq_false; exact okL_bad hx hq.2 (by unfold Rnd.okW; first | omega | (have := hbi o9; omega)))
     ·have h32 : ¬ x.en > x.rv := of_decide_eq_false hb32
      refine zN rfl rfl rfl (hb32) rfl rfl (zi (n := 2) rfl k9) (zN rfl rfl rfl (hb32) rfl rfl (zl 0 rfl rfl rfl k9 zp) (zN rfl rfl rfl (hb32) rfl rfl (ZZ rfl rfl) (zj rfl rfl (zy rfl (hb32) rfl) (zj rfl rfl (zd rfl) (Z6 37 rfl (fun hb37 => ?_) (fun hb37 => ?_))))))
      ·have h37 : x.rv > 1099511627776 := of_decide_eq_true hb37
       refine zx rfl rfl rfl (hb37) rfl rfl (zx rfl rfl rfl (hb37) rfl rfl (zx rfl rfl rfl (hb37) rfl rfl (zx rfl rfl rfl (hb37) rfl rfl (zj rfl rfl (zz rfl (hb37) rfl) (zj rfl rfl (zd rfl) (zx rfl rfl rfl (rfl) rfl rfl (zx rfl rfl rfl (rfl) rfl rfl (zx rfl rfl rfl (rfl) rfl rfl (ya rfl rfl rfl rfl rfl (ya rfl rfl rfl rfl rfl (ya rfl rfl rfl rfl rfl (ya rfl rfl rfl rfl rfl (ya rfl rfl rfl rfl rfl (ya rfl rfl rfl rfl rfl (ya rfl rfl rfl rfl rfl (ya rfl rfl rfl rfl rfl (ya rfl rfl rfl rfl rfl (zx rfl rfl rfl (rfl) rfl rfl (zj rfl rfl (zz rfl (rfl) rfl) (zV (zc (yf rfl (rfl) (zh (zb (za rfl (ze rfl) (zg (zc (zH (fn := Tryz.f54) (fun _ _ h => h) (Rs.le (Rs.one rfl (zo rfl)) ?_)))))))))))))))))))))))))))))
       exact zP (by symm; apply decide_eq_false; exact okL_bad hx hq.2 (by unfold Rnd.okW; first | omega | (have := hbi o9; omega)))
      ·have h37 : ¬ x.rv > 1099511627776 := of_decide_eq_false hb37
       refine zN rfl rfl rfl (hb37) rfl rfl (zi (n := 3) rfl k9) (zN rfl rfl rfl (hb37) rfl rfl (zl 0 rfl rfl rfl k9 zp) (zN rfl rfl rfl (hb37) rfl rfl (Rd.len (e := 5) rfl k9) (zN rfl rfl rfl (hb37) rfl rfl (yd rfl rfl) (zj rfl rfl (zy rfl (hb37) rfl) (zj rfl rfl (zd rfl) (Z6 43 rfl (fun hb43 => ?_) (fun hb43 => ?_)))))))
       ·have h43 : ¬ x.cm.length = 32 := by (simp at hb43; omega)
        refine zx rfl rfl rfl (hb43) rfl rfl (zx rfl rfl rfl (hb43) rfl rfl (zx rfl rfl rfl (hb43) rfl rfl (ya rfl rfl rfl rfl rfl (ya rfl rfl rfl rfl rfl (ya rfl rfl rfl rfl rfl (ya rfl rfl rfl rfl rfl (ya rfl rfl rfl rfl rfl (ya rfl rfl rfl rfl rfl (ya rfl rfl rfl rfl rfl (ya rfl rfl rfl rfl rfl (ya rfl rfl rfl rfl rfl (zx rfl rfl rfl (hb43) rfl rfl (zj rfl rfl (zz rfl (hb43) rfl) (zV (zc (yf rfl (rfl) (zh (zb (za rfl (ze rfl) (zg (zc (zH (fn := Tryz.f54) (fun _ _ h => h) (Rs.le (Rs.one rfl (zo rfl)) ?_)))))))))))))))))))))))
        exact zP (by symm; apply decide_eq_false; exact okL_bad hx hq.2 (by unfold Rnd.okW; first | omega | (have := hbi o9; omega)))
       ·have h43 : x.cm.length = 32 := by (simp at hb43; omega)
        refine zN rfl rfl rfl (hb43) rfl rfl (zd rfl) (zN rfl rfl rfl (hb43) rfl rfl (ZZ rfl rfl) (zN rfl rfl rfl (hb43) rfl rfl (zd rfl) (Z6 46 rfl (fun hb46 => ?_) (fun hb46 => ?_))))
        ·have h46 : (i : Int) > 0 := of_decide_eq_true hb46
         refine zN rfl rfl rfl (hb46) rfl rfl (zi (n := 0) rfl k9) (zN rfl rfl rfl (hb46) rfl rfl (zl 0 rfl rfl rfl k9 zp) (zN rfl rfl rfl (hb46) rfl rfl (zd rfl) (zN rfl rfl rfl (hb46) rfl rfl (zd rfl) (zN rfl rfl rfl (hb46) rfl rfl (Rd.mono (Rd.subi rfl rfl ⟨by omega, by omega⟩) (show Le _ (iD ((i - 1 : Nat) : Int)) from zC (by congr 1; omega))) (zN rfl rfl rfl (hb46) rfl rfl (yK (e := 26) 4 rfl rfl k9 k9 o9 (by have h := hy o9; simpa using h)) (zN rfl rfl rfl (hb46) rfl rfl (yv (n := 1) rfl k9 (show 1 < 4 by decide)) (zN rfl rfl rfl (hb46) rfl rfl (ym rfl rfl k9 s9) (zN rfl rfl rfl (hb46) rfl rfl (yG rfl rfl) (zN rfl rfl rfl (hb43) rfl rfl (zz rfl (hb46) rfl) (zj rfl rfl (zy rfl (hb43) rfl) (zV (zc (zJ rfl (fun hb57 => ?_) (fun hb57 => ?_))))))))))))))
         ·have h57 : x.st < y.en := of_decide_eq_true hb57
          refine zh (zb (za rfl (ze rfl) (zg (zc (zH (fn := Tryz.f54) (fun _ _ h => h) (Rs.le (Rs.one rfl (zo rfl)) ?_))))))
          exact zP (by symm; apply decide_eq_false; exact okL_bad hx hq.2 (by unfold Rnd.okW; first | omega | (have := hbi o9; omega)))
         ·have h57 : ¬ x.st < y.en := of_decide_eq_false hb57
          exact zu (ye (zc (zb (za rfl (zd rfl) (za rfl (yM rfl rfl ⟨by omega, by omega⟩) (za rfl (ze rfl) (zg (fun a w hh => hK0 (⟨i + 1, by omega, by rw [Rnd.before_succ hx]; omega, hq.2.trans ((Rnd.okL_step hx).trans ⟨fun h => h.2, fun h => ⟨(by unfold Rnd.okW; first | omega | (have := hbi o9; omega) | (have := hb0 o9; omega)), h⟩⟩)⟩) (by dsimp only; omega) a w (hh.sub (⟨⟨_, rfl, ⟨lq rfl, ⟨⟨_, rfl, zC s9⟩, trivial⟩⟩⟩, [], by decide, trivial⟩))))))))))
        ·have h46 : ¬ (i : Int) > 0 := of_decide_eq_false hb46
         exact zx rfl rfl rfl (hb46) rfl rfl (zx rfl rfl rfl (hb46) rfl rfl (zx rfl rfl rfl (hb46) rfl rfl (zx rfl rfl rfl (hb46) rfl rfl (zx rfl rfl rfl (hb46) rfl rfl (zx rfl rfl rfl (hb46) rfl rfl (zx rfl rfl rfl (hb46) rfl rfl (zx rfl rfl rfl (hb46) rfl rfl (zx rfl rfl rfl (hb46) rfl rfl (zN rfl rfl rfl (hb43) rfl rfl (zy rfl (hb46) rfl) (zj rfl rfl (zy rfl (hb43) rfl) (zV (zc (zE rfl (rfl) (zu (ye (zc (zb (za rfl (zd rfl) (za rfl (yM rfl rfl ⟨by omega, by omega⟩) (za rfl (ze rfl) (zg (fun a w hh => hK0 (⟨i + 1, by omega, by rw [Rnd.before_succ hx]; omega, hq.2.trans ((Rnd.okL_step hx).trans ⟨fun h => h.2, fun h => ⟨(by unfold Rnd.okW; first | omega | (have := hbi o9; omega) | (have := hb0 o9; omega)), h⟩⟩)⟩) (by dsimp only; omega) a w (hh.sub (⟨⟨_, rfl, ⟨lq rfl, ⟨⟨_, rfl, zC s9⟩, trivial⟩⟩⟩, [], by decide, trivial⟩))))))))))))))))))))))))
  ·have h8 : ¬ (i : Int) < (l.length : Int) := of_decide_eq_false hb8
   refine yW ?_
   repeat (first | refine Zi ?_ | refine Zj d9 ?_)
   refine Zk (zc (zh (zb (za rfl (zd rfl) (za rfl (yV (e := 26) rfl k9) (za rfl (ZL rfl rfl) (za rfl (zd rfl) (zU 61 rfl (fun hb61 => ?_) (fun hb61 => ?_)))))))))
   ·have h61 : (l.length : Int) ≥ 1 := of_decide_eq_true hb61
    refine zm rfl rfl (hb61) rfl rfl (zd rfl) (zm rfl rfl (hb61) rfl rfl (yV (e := 26) rfl k9) (zm rfl rfl (hb61) rfl rfl (Rd.leq rfl rfl) (za rfl (zz rfl (hb61) rfl) (za rfl (ze rfl) (zg (zc (zH (fn := Tryz.f54) (fun _ _ h => h) (Rs.le (Rs.one rfl (zo rfl)) ?_))))))))
    have hok : Rnd.okL 0 l := hq.2.2 (by rw [show i = l.length by omega]; exact Rnd.okL_all _ _)
    exact zP (by rw [decide_eq_decide]; exact ⟨fun h => ⟨⟨by omega, by omega⟩, hok⟩, fun h => by have := h.1.2; omega⟩)
   ·have h61 : ¬ (l.length : Int) ≥ 1 := of_decide_eq_false hb61
    refine zn rfl rfl (hb61) rfl rfl (zn rfl rfl (hb61) rfl rfl (zn rfl rfl (hb61) rfl rfl (za rfl (zy rfl (hb61) rfl) (za rfl (ze rfl) (zg (zc (zH (fn := Tryz.f54) (fun _ _ h => h) (Rs.le (Rs.one rfl (zo rfl)) ?_))))))))
    exact zP (by symm; apply decide_eq_false; intro h; have := h.1.1; omega)
theorem con_At44 (s : Rnd.S) (r now : Int) (hg : s.ks.length = s.ws.length) : Con Tryz.prog 17 [yX [lsD Yk s.bk, lsD Zs s.ws, lsD Yj s.es, lsD encKy s.ks, iD s.ck, lsD encE s.en], iD r, iD now] (tupD [iD (Rnd.atS s r now), iD (Rnd.atE s r now)]) := by
 refine con_of Tryz.func17 k9 rfl k9 fun base w0 => (zh (zb (zk (S := []) (yF rfl rfl) ?_)))
 rintro _ ⟨g3, rfl⟩
 refine za rfl (ze rfl) (za rfl (ze rfl) (zg (zc (zh (zh (zb (za rfl (zd rfl) (za rfl (yG rfl rfl) (za rfl (zd rfl) (zU 10 rfl (fun hb10 => ?_) (fun hb10 => ?_)))))))))))
 ·have h10 : now < 0 := of_decide_eq_true hb10
  refine zn rfl rfl (hb10) rfl rfl (zn rfl rfl (hb10) rfl rfl (za rfl (zz rfl (hb10) rfl) (zg (zc (yf rfl (rfl) (zh (zb (za rfl (ze rfl) (za rfl (ze rfl) (zg (zc (zH (fn := Tryz.f17) (fun _ _ h => h) (Rs.le (Rs.two rfl (zo rfl) (zo rfl)) ?_)))))))))))))
  have hE : Rnd.atE s r now = 2 := if_pos (fun h => by have := h.1; have := h.2; omega)
  exact yJ ⟨zC (by rw [Rnd.atS, hE]; rfl), zC (by rw [hE]), trivial⟩
 ·have h10 : ¬ now < 0 := of_decide_eq_false hb10
  refine zm rfl rfl (hb10) rfl rfl (zd rfl) (zm rfl rfl (hb10) rfl rfl (ZZ rfl rfl) (za rfl (zy rfl (hb10) rfl) (zg (zc (zJ rfl (fun hb13 => ?_) (fun hb13 => ?_))))))
  ·have h13 : now > 1099511627776 := of_decide_eq_true hb13
   refine zh (zb (za rfl (ze rfl) (za rfl (ze rfl) (zg (zc (zH (fn := Tryz.f17) (fun _ _ h => h) (Rs.le (Rs.two rfl (zo rfl) (zo rfl)) ?_)))))))
   have hE : Rnd.atE s r now = 2 := if_pos (fun h => by have := h.1; have := h.2; omega)
   exact yJ ⟨zC (by rw [Rnd.atS, hE]; rfl), zC (by rw [hE]), trivial⟩
  ·have h13 : ¬ now > 1099511627776 := of_decide_eq_false hb13
   refine zu (zc (zh (zh (zb (za rfl (zd rfl) (za rfl (yG rfl rfl) (za rfl (zd rfl) (zU 16 rfl (fun hb16 => ?_) (fun hb16 => ?_)))))))))
   ·have h16 : r < 0 := of_decide_eq_true hb16
    refine zn rfl rfl (hb16) rfl rfl (zn rfl rfl (hb16) rfl rfl (zn rfl rfl (hb16) rfl rfl (zn rfl rfl (hb16) rfl rfl (zn rfl rfl (hb16) rfl rfl (za rfl (zz rfl (hb16) rfl) (zg (zc (yf rfl (rfl) (zh (zb (za rfl (ze rfl) (za rfl (ze rfl) (zg (zc (zH (fn := Tryz.f17) (fun _ _ h => h) (Rs.le (Rs.two rfl (zo rfl) (zo rfl)) ?_))))))))))))))))
    have hE : Rnd.atE s r now = 3 := by rw [Rnd.atE, if_neg (not_not_intro ⟨by omega, by omega⟩), if_pos (fun h => by have := h.1; have := h.2; omega)]
    exact yJ ⟨zC (by rw [Rnd.atS, hE]; rfl), zC (by rw [hE]), trivial⟩
   ·have h16 : ¬ r < 0 := of_decide_eq_false hb16
    refine zm rfl rfl (hb16) rfl rfl (zd rfl) (zm rfl rfl (hb16) rfl rfl (zi (n := 1) rfl k9) (zm rfl rfl (hb16) rfl rfl (zl 0 rfl rfl rfl k9 zp) (zm rfl rfl (hb16) rfl rfl (yV (e := 26) rfl k9) (zm rfl rfl (hb16) rfl rfl (ZL rfl rfl) (za rfl (zy rfl (hb16) rfl) (zg (zc (zJ rfl (fun hb22 => ?_) (fun hb22 => ?_)))))))))
    ·have h22 : r ≥ (s.ws.length : Int) := of_decide_eq_true hb22
     refine zh (zb (za rfl (ze rfl) (za rfl (ze rfl) (zg (zc (zH (fn := Tryz.f17) (fun _ _ h => h) (Rs.le (Rs.two rfl (zo rfl) (zo rfl)) ?_)))))))
     have hE : Rnd.atE s r now = 3 := by rw [Rnd.atE, if_neg (not_not_intro ⟨by omega, by omega⟩), if_pos (fun h => by have := h.1; have := h.2; omega)]
     exact yJ ⟨zC (by rw [Rnd.atS, hE]; rfl), zC (by rw [hE]), trivial⟩
    ·have h22 : ¬ r ≥ (s.ws.length : Int) := of_decide_eq_false hb22
     refine zu (zc (zh (zh ?_)))
     have ht : Rnd.time now := ⟨by omega, by omega⟩
     have hh : Rnd.has s r := ⟨by omega, by omega⟩
     obtain ⟨k, hk⟩ : ∃ k, s.ks[r.toNat]? = some k := ⟨_, List.getElem?_eq_getElem o9⟩
     obtain ⟨w, hw⟩ : ∃ w, s.ws[r.toNat]? = some w := ⟨_, List.getElem?_eq_getElem o9⟩
     have hE : Rnd.atE s r now = 0 := by rw [Rnd.atE, if_neg (by simpa using ht), if_neg (by simpa using hh)]
     have hS : Rnd.atS s r now = Rnd.stOf w k now := by rw [Rnd.atS, if_pos hE, Rnd.st, Rnd.winAt_some hw, Rnd.kyAt_some hk]
     refine zb (za rfl (zi (n := 3) rfl k9) (za rfl (zl 0 rfl rfl rfl k9 zp) (za rfl (zd rfl) (za rfl (yK (e := 24) 1 rfl rfl k9 k9 o9 (by simpa using hk)) (za rfl (ym rfl rfl k9 s9) (za rfl (Rd.len (e := 5) rfl k9) (za rfl (ZZ rfl rfl) (zg (zc (zJ rfl (fun hb29 => ?_) (fun hb29 => ?_)))))))))))
     ·have h29 : k ≠ [] := by (intro h; subst h; simp at hb29)
      refine zh (zb (za rfl (ze rfl) (za rfl (ze rfl) (zg (zc (zH (fn := Tryz.f17) (fun _ _ h => h) (Rs.le (Rs.two rfl (zo rfl) (zo rfl)) ?_)))))))
      exact yJ ⟨zC (by rw [hS, Rnd.stOf, if_pos h29]), zC (by rw [hE]), trivial⟩
     ·have h29 : k = [] := by (cases k; rfl; simp at hb29)
      refine zu (zc (zh (zh (zb (za rfl (zd rfl) (za rfl (zi (n := 1) rfl k9) (za rfl (zl 0 rfl rfl rfl k9 zp) (za rfl (zd rfl) (za rfl (yK (e := 26) 4 rfl rfl k9 k9 o9 (by simpa using hw)) (za rfl (yv (n := 0) rfl k9 (show 0 < 4 by decide)) (za rfl (ym rfl rfl k9 s9) (za rfl (yG rfl rfl) (zg (zc (zJ rfl (fun hb37 => ?_) (fun hb37 => ?_))))))))))))))))
      ·have h37 : now < w.st := of_decide_eq_true hb37
       refine zh (zb (za rfl (ze rfl) (za rfl (ze rfl) (zg (zc (zH (fn := Tryz.f17) (fun _ _ h => h) (Rs.le (Rs.two rfl (zo rfl) (zo rfl)) ?_)))))))
       exact yJ ⟨zC (by rw [hS, Rnd.stOf, if_neg (not_not_intro h29), if_pos h37]), zC (by rw [hE]), trivial⟩
      ·have h37 : ¬ now < w.st := of_decide_eq_false hb37
       refine zu (zc (zh (zh (zb (za rfl (zd rfl) (za rfl (zi (n := 1) rfl k9) (za rfl (zl 0 rfl rfl rfl k9 zp) (za rfl (zd rfl) (za rfl (yK (e := 26) 4 rfl rfl k9 k9 o9 (by simpa using hw)) (za rfl (yv (n := 1) rfl k9 (show 1 < 4 by decide)) (za rfl (ym rfl rfl k9 s9) (za rfl (yG rfl rfl) (zg (zc (zJ rfl (fun hb45 => ?_) (fun hb45 => ?_))))))))))))))))
       ·have h45 : now < w.en := of_decide_eq_true hb45
        refine zh (zb (za rfl (ze rfl) (za rfl (ze rfl) (zg (zc (zH (fn := Tryz.f17) (fun _ _ h => h) (Rs.le (Rs.two rfl (zo rfl) (zo rfl)) ?_)))))))
        exact yJ ⟨zC (by rw [hS, Rnd.stOf, if_neg (not_not_intro h29), if_neg h37, if_pos h45]), zC (by rw [hE]), trivial⟩
       ·have h45 : ¬ now < w.en := of_decide_eq_false hb45
        refine zu (zc (zh (zb (za rfl (ze rfl) (za rfl (ze rfl) (zg (zc (zH (fn := Tryz.f17) (fun _ _ h => h) (Rs.le (Rs.two rfl (zo rfl) (zo rfl)) ?_)))))))))
        exact yJ ⟨zC (by rw [hS, Rnd.stOf, if_neg (not_not_intro h29), if_neg h37, if_neg h45]), zC (by rw [hE]), trivial⟩
end Sx
end Go.Proofs.YtgokpcnabgacnaaGreatDoor
namespace Go.Proofs.YtgokpcnabgacnaaGreatDoor
open Go.RowKit
namespace Sx
def Rnd.hit (r : Int) (n : List UInt8) (e : Env.T) : Bool := decide (e.rnd = r ∧ e.acc = n)
def encNo (_ : Unit) : List D := [isD (.slice none 0 0)]
instance : Row encNo 1 := ⟨fun _ => rfl, fun _ => by unfold encNo; infer_instance, by decide⟩
theorem bldRf0 : Bld Tryz.prog 42 [] [] [isD (.slice none 0 0), isD (.slice none 0 0), isD (.slice none 0 0), isD (.slice none 0 0), iD 0, isD (.slice none 0 0)] := fun L w vs h => by
 obtain rfl := all0 h
 exact ⟨[.slice none 0 0, .slice none 0 0, .slice none 0 0, .slice none 0 0, .int .i64 0, .slice none 0 0], ⟨rfl, rfl, rfl, rfl, rfl, rfl, trivial⟩, fun w' => by kernel_rfl⟩
end Sx
end Go.Proofs.YtgokpcnabgacnaaGreatDoor
