/- ROUNDS: the reference's New, Same. ROUNDS: the reference's Bids. ROUNDS: the reference's Reveal. -/
import Derived.Test.YtgokpcnabgacnaaGreatDoorGZBE
set_option maxHeartbeats 8000000
set_option maxRecDepth 100000
namespace Go.Proofs.YtgokpcnabgacnaaGreatDoor
open Go.RowKit
namespace Sx
instance : DecidableEq Rnd.Opn := fun a b => if h : a.acc = b.acc ∧ a.ser = b.ser ∧ a.bid = b.bid ∧ a.bad = b.bad then .isTrue (by cases a; cases b; simp only [Rnd.Opn.mk.injEq]; exact h) else .isFalse fun e => h (by rw [e]; exact ⟨rfl, rfl, rfl, rfl⟩)
theorem At.mono {L : List Nat} {w : World} {A : Option Addr} {ds ds' : List D} (h : At L w A ds) (hl : LeAll ds ds') (hn : ds.length = ds'.length) : At L w A ds' := fun h0 => by
 obtain ⟨g, o, e, hg, hm, cs, ha, hc⟩ := h o9
 exact ⟨g, o, e, hg, hm, cs, hl.all ha, hc⟩
theorem le_rwA {n : Nat} {ds ds' : List D} (hl : LeAll ds ds') (hn : ds.length = ds'.length) : Le (rwD n ds) (rwD n ds') := fun _ _ _ ⟨A, c, h, hc, ha⟩ => ⟨A, c, h, hc, At.mono ha hl hn⟩
theorem noKeys_le : ∀ n : Nat, LeAll ((List.replicate n ()).flatMap encNo) ((List.replicate n ([] : List UInt8)).flatMap encKy)
 | 0 => trivial
 | n + 1 => by
  rw [List.replicate_succ, List.replicate_succ, List.flatMap_cons, List.flatMap_cons]
  exact ⟨le_nil_bD, noKeys_le n⟩
theorem le_noKeys (n : Nat) : Le (lsD encNo (List.replicate n ())) (lsD encKy (List.replicate n [])) := by
 unfold lsD
 rw [List.length_replicate, List.length_replicate]
 refine le_rwA (noKeys_le n) ?_
 simp [List.length_flatMap, encNo, encKy]
theorem bldRf3 {bk : List Acc.T} {ws : List Rnd.Win} {A : Option Addr} {n c : Nat} : Bld Tryz.prog 42 [0, 1, 3] [yX [lsD Yk bk], lsD Zs ws, isD (.slice A n c)] [lsD Yk bk, lsD Zs ws, isD (.slice none 0 0), isD (.slice A n c), iD 0, isD (.slice none 0 0)] := fun L w vs hv => by
 obtain ⟨u, v, z, rfl, hu, hv', rfl⟩ := all3 hv
 obtain ⟨cs, rfl, hc⟩ := hu
 obtain ⟨q, rfl, hq⟩ := all1 hc
 have hq' := hq
 have hv2 := hv'
 obtain ⟨A1, c1, rfl, -⟩ := hq
 obtain ⟨A2, c2, rfl, -⟩ := hv'
 exact ⟨[.slice A1 _ c1, .slice A2 _ c2, .slice none 0 0, .slice A n c, .int .i64 0, .slice none 0 0], ⟨hq', hv2, rfl, rfl, rfl, rfl, trivial⟩, fun w' => by kernel_rfl⟩
def Rnd.newE (ws : List Rnd.Win) : Int := if Rnd.ok ws then 0 else 2
def Rnd.newS (bk : List Acc.T) (ws : List Rnd.Win) : Rnd.S := if Rnd.ok ws then Rnd.start bk ws else ⟨[], [], [], [], 0, []⟩
theorem ext_upto {α : Type} {l m : List α} {i : Nat} (hl : l.length = m.length) (hi : l.length ≤ i) (h : ∀ j, j < i → l[j]? = m[j]?) : l = m := by
 apply List.ext_getElem?
 intro j
 by_cases hj : j < i
 ·exact h j hj
 ·rw [List.getElem?_eq_none o9, List.getElem?_eq_none o9]
theorem con_New44 (bk : List Acc.T) (ws : List Rnd.Win) (hl : ws.length ≤ 1000000) : ConR Tryz.prog 13 [] [yX [lsD Yk bk], lsD Zs ws] (fun _ : Unit => []) (fun _ : Unit => tupD [yX (rfD (Rnd.newS bk ws)), iD (Rnd.newE ws)]) := by
 refine zY Tryz.func13 k9 rfl k9 fun base w0 => (zh (zb (zk (S := []) (yF rfl rfl) ?_)))
 rintro _ ⟨g2, rfl⟩
 refine zk (S := []) (zQ (zs := [.slice none 0 0, .slice none 0 0, .slice none 0 0, .slice none 0 0, .int .i64 0, .slice none 0 0]) k9 rfl) ?_
 rintro _ ⟨g4, rfl⟩
 refine za rfl (ze rfl) (zg (zc (zh (zh (zb (za rfl (zd rfl) (zk (S := []) (zA [] (con_Valid44 ws hl) rfl ⟨(zr (zf _)), trivial⟩ rfl) ?_)))))))
 rintro _ rfl
 refine za rfl (yU rfl) (zg (zc (zJ rfl (fun hb8 => ?_) (fun hb8 => ?_))))
 ·have h8 : ¬ Rnd.ok ws := (by have h : (!decide (Rnd.ok ws)) = true := hb8; simpa using h)
  refine zh (zb (za rfl (yh rfl rfl bldRf0) (zk (S := [_]) (zF 1 rfl rfl rfl k9 rfl (List.mem_singleton.2 rfl)) ?_)))
  rintro _ rfl
  refine za rfl (ze rfl) (zg (zc (zS (fn := Tryz.f13) (()) [] (fun _ _ h => h) (Rs.le (Rs.two rfl (yB 1 rfl rfl k9) (zo rfl)) ?_) d9 trivial)))
  exact yJ ⟨by rw [Rnd.newS, if_neg h8]; exact Zz ⟨ZQ, ZQ, ZQ, ZQ, zf _, ZQ, trivial⟩, zC (by rw [Rnd.newE, if_neg h8]), trivial⟩
 ·have h8 : Rnd.ok ws := (by have h : (!decide (Rnd.ok ws)) = false := hb8; simpa using h)
  refine zu (zc (zh (yj (g4 :: []) (.r 0 (.r 1 (.r 2 (.r 3 (.n 4 (.r 5 (.e 6 (.r 7 .fin) .no)) .no))))) k9 k9 (fun d _ _ _ _ h => by cases d <;> exact h) (zj rfl rfl (zG 0 1 rfl rfl k9 rfl (yz 1 rfl d9 zp)) (zj rfl rfl (zd rfl) (zj rfl rfl (zd rfl) (zj rfl rfl (yV (e := 26) rfl k9) (yi rfl (Ef.makeN (e := 24) (n := ws.length) encNo () 24 rfl rfl k9 k9 rfl rfl rfl rfl o9 d9 rfl) ?_ zI))))))))
  rintro _ ⟨g14, rfl⟩
  refine zj rfl rfl ((yh rfl rfl bldRf3)) (zZ rfl (zF 1 rfl rfl rfl k9 rfl (List.mem_cons_self)) ?_ zI)
  rintro _ rfl
  refine zj rfl rfl (ze rfl) (zV (zc (zO (σ' := zR [(4, pA g4), (5, iD 0)] [.c g4 [lsD Yk bk, lsD Zs ws, isD (.slice none 0 0), isD (.slice (some ⟨g14, 0, none⟩) (List.replicate ws.length ()).length ws.length), iD 0, isD (.slice none 0 0)], .r [g14] (yb 24 1 encNo (some ⟨g14, 0, none⟩) ws.length (List.replicate ws.length ()))]) (⟨⟨_, rfl, (sT rfl)⟩, [1, 2], by decide, ⟨⟨_, rfl, ⟨zf _, zf _, zf _, zC s9, zf _, zf _, trivial⟩⟩, ⟨lR rfl, trivial⟩⟩⟩) (SW.freezeC 0 3 1 rfl rfl rfl (zS (fn := Tryz.f13) (()) [] (fun _ _ h => h) (Rs.le (Rs.two rfl (yB 0 rfl rfl k9) (zo rfl)) ?_) d9 trivial)))))
  exact yJ ⟨by rw [Rnd.newS, if_pos h8]; exact Zz ⟨zf _, zf _, ZQ, le_noKeys _, zf _, ZQ, trivial⟩, zC (by rw [Rnd.newE, if_pos h8]), trivial⟩
theorem con_Same44 (l m : List Rnd.Opn) (hl : l.length ≤ 1000000) : ConN Tryz.prog 44 [lsD encO l, lsD encO m] (yY (decide (l = m))) := by
 refine yE Tryz.func44 k9 rfl k9 fun base w0 => (zh (zb (za rfl (ze rfl) (zg (zc (zh (zh (zb (za rfl (zd rfl) (za rfl (yV (e := 110) rfl k9) (za rfl (zd rfl) (za rfl (yV (e := 110) rfl k9) (za rfl (yd rfl rfl) (zg (zc (zJ rfl (fun hb10 => ?_) (fun hb10 => ?_)))))))))))))))))
 ·have h10 : ¬ l.length = m.length := by (have h := hb10; simp at h; omega)
  refine zh (zb (za rfl (ze rfl) (zg (zc (zH (fn := Tryz.f44) (fun _ _ h => h) (Rs.le (Rs.one rfl (zo rfl)) ?_))))))
  exact zP (by symm; apply decide_eq_false; intro h; exact h10 (by rw [h]))
 ·have h10 : l.length = m.length := by (have h := hb10; simp at h; omega)
  refine zu (zc (zh (zh (zb (za rfl (ze rfl) (zg (zc (zW (Zq (ι := {i : Nat // i ≤ l.length ∧ ∀ j, j < i → l[j]? = m[j]?}) (fun i => zR [(0, lsD encO l), (1, lsD encO m), (5, iD (i.1 : Int))] []) (fun i => l.length - i.1) (⟨0, Nat.zero_le _, fun j hj => absurd hj (Nat.not_lt_zero _)⟩) ?_ ?_)))))))))
  ·exact (sB [] rfl rfl)
  ·rintro ⟨i, hi, hq⟩ K0 hK0
   dsimp only at hi hq ⊢
   refine zh (zh (zb (za rfl (zd rfl) (za rfl (zd rfl) (za rfl (yV (e := 110) rfl k9) (za rfl (yG rfl rfl) (zg (zc (zJ rfl (fun hb14 => ?_) (fun hb14 => ?_))))))))))
   ·have h14 : (i : Int) < (l.length : Int) := of_decide_eq_true hb14
    refine zu (zc (zh (zW (zh ?_))))
    obtain ⟨x, hx⟩ : ∃ x, l[i]? = some x := ⟨_, List.getElem?_eq_getElem o9⟩
    obtain ⟨y, hy⟩ : ∃ y, m[i]? = some y := ⟨_, List.getElem?_eq_getElem o9⟩
    refine yj [] (.r 0 (.r 1 (.r 2 (.r 3 (.r 4 (.r 5 (.r 6 (.r 7 (.r 8 (.r 9 (.r 10 (.r 11 (.r 12 (.r 13 (.r 14 (.r 15 (.r 16 (.r 17 (.r 18 (.r 19 (.r 20 (.r 21 (.r 22 (.r 23 (.r 24 (.r 25 (.r 26 (.r 27 (.r 28 (.r 29 (.r 30 (.r 31 (.r 32 (.r 33 (.r 34 (.r 35 (.r 36 (.r 37 (.r 38 (.r 39 (.r 40 (.r 41 (.r 42 (.r 43 (.r 44 (.r 45 (.r 46 (.r 47 (.r 48 (.r 49 (.r 50 (.r 51 .fin)))))))))))))))))))))))))))))))))))))))))))))))))))) k9 k9 (fun d _ _ _ _ h => by cases d <;> exact h) (zj rfl rfl (zd rfl) (zj rfl rfl (zd rfl) (zj rfl rfl (yK (e := 110) 4 rfl rfl k9 k9 o9 (by simpa using hx)) (zj rfl rfl (yv (n := 0) rfl k9 (show 0 < 4 by decide)) (zj rfl rfl (ym rfl rfl k9 s9) (zj rfl rfl (zd rfl) (zj rfl rfl (zd rfl) (zj rfl rfl (yK (e := 110) 4 rfl rfl k9 k9 o9 (by simpa using hy)) (zj rfl rfl (yv (n := 0) rfl k9 (show 0 < 4 by decide)) (zj rfl rfl (ym rfl rfl k9 s9) (zj rfl rfl (Rd.nes (p := x.acc) (q := y.acc) rfl rfl) (zj rfl rfl (zd rfl) (Z6 28 rfl (fun hb28 => ?_) (fun hb28 => ?_))))))))))))))
    ·have h28 : ¬ x.acc = y.acc := by simpa using hb28
     refine zx rfl rfl rfl (hb28) rfl rfl (zx rfl rfl rfl (hb28) rfl rfl (zx rfl rfl rfl (hb28) rfl rfl (zx rfl rfl rfl (hb28) rfl rfl (zx rfl rfl rfl (hb28) rfl rfl (zx rfl rfl rfl (hb28) rfl rfl (zx rfl rfl rfl (hb28) rfl rfl (zx rfl rfl rfl (hb28) rfl rfl (zx rfl rfl rfl (hb28) rfl rfl (zx rfl rfl rfl (hb28) rfl rfl (zx rfl rfl rfl (hb28) rfl rfl (zj rfl rfl (zz rfl (hb28) rfl) (zj rfl rfl (zd rfl) (zx rfl rfl rfl (rfl) rfl rfl (zx rfl rfl rfl (rfl) rfl rfl (zx rfl rfl rfl (rfl) rfl rfl (zx rfl rfl rfl (rfl) rfl rfl (zx rfl rfl rfl (rfl) rfl rfl (zx rfl rfl rfl (rfl) rfl rfl (zx rfl rfl rfl (rfl) rfl rfl (zx rfl rfl rfl (rfl) rfl rfl (zx rfl rfl rfl (rfl) rfl rfl (zx rfl rfl rfl (rfl) rfl rfl (zx rfl rfl rfl (rfl) rfl rfl (zx rfl rfl rfl (rfl) rfl rfl (zx rfl rfl rfl (rfl) rfl rfl (zj rfl rfl (zz rfl (rfl) rfl) (zj rfl rfl (zd rfl) (zx rfl rfl rfl (rfl) rfl rfl (zx rfl rfl rfl (rfl) rfl rfl (zx rfl rfl rfl (rfl) rfl rfl (zx rfl rfl rfl (rfl) rfl rfl (zx rfl rfl rfl (rfl) rfl rfl (zx rfl rfl rfl (rfl) rfl rfl (zx rfl rfl rfl (rfl) rfl rfl (zx rfl rfl rfl (rfl) rfl rfl (zx rfl rfl rfl (rfl) rfl rfl (zx rfl rfl rfl (rfl) rfl rfl (zx rfl rfl rfl (rfl) rfl rfl (zj rfl rfl (zz rfl (rfl) rfl) ?_)))))))))))))))))))))))))))))))))))))))
     refine zV (zc (yf rfl (rfl) (zh (zb (za rfl (ze rfl) (zg (zc (zH (fn := Tryz.f44) (fun _ _ h => h) (Rs.le (Rs.one rfl (zo rfl)) ?_)))))))))
     exact zP (by symm; apply decide_eq_false; intro h; rw [h, hy] at hx; obtain rfl := Option.some.inj hx; exact h28 rfl)
    ·have h28 : x.acc = y.acc := by simpa using hb28
     refine zN rfl rfl rfl (hb28) rfl rfl (zd rfl) (zN rfl rfl rfl (hb28) rfl rfl (zd rfl) (zN rfl rfl rfl (hb28) rfl rfl (yK (e := 110) 4 rfl rfl k9 k9 o9 (by simpa using hx)) (zN rfl rfl rfl (hb28) rfl rfl (yv (n := 1) rfl k9 (show 1 < 4 by decide)) (zN rfl rfl rfl (hb28) rfl rfl (ym rfl rfl k9 s9) (zN rfl rfl rfl (hb28) rfl rfl (zd rfl) (zN rfl rfl rfl (hb28) rfl rfl (zd rfl) (zN rfl rfl rfl (hb28) rfl rfl (yK (e := 110) 4 rfl rfl k9 k9 o9 (by simpa using hy)) (zN rfl rfl rfl (hb28) rfl rfl (yv (n := 1) rfl k9 (show 1 < 4 by decide)) (zN rfl rfl rfl (hb28) rfl rfl (ym rfl rfl k9 s9) (zN rfl rfl rfl (hb28) rfl rfl (yd rfl rfl) (zj rfl rfl (zy rfl (hb28) rfl) (zj rfl rfl (zd rfl) (Z6 41 rfl (fun hb41 => ?_) (fun hb41 => ?_))))))))))))))
     ·have h41 : ¬ x.ser = y.ser := by simpa using hb41
      refine zx rfl rfl rfl (hb41) rfl rfl (zx rfl rfl rfl (hb41) rfl rfl (zx rfl rfl rfl (hb41) rfl rfl (zx rfl rfl rfl (hb41) rfl rfl (zx rfl rfl rfl (hb41) rfl rfl (zx rfl rfl rfl (hb41) rfl rfl (zx rfl rfl rfl (hb41) rfl rfl (zx rfl rfl rfl (hb41) rfl rfl (zx rfl rfl rfl (hb41) rfl rfl (zx rfl rfl rfl (hb41) rfl rfl (zx rfl rfl rfl (hb41) rfl rfl (zx rfl rfl rfl (hb41) rfl rfl (zx rfl rfl rfl (hb41) rfl rfl (zj rfl rfl (zz rfl (hb41) rfl) (zj rfl rfl (zd rfl) (zx rfl rfl rfl (rfl) rfl rfl (zx rfl rfl rfl (rfl) rfl rfl (zx rfl rfl rfl (rfl) rfl rfl (zx rfl rfl rfl (rfl) rfl rfl (zx rfl rfl rfl (rfl) rfl rfl (zx rfl rfl rfl (rfl) rfl rfl (zx rfl rfl rfl (rfl) rfl rfl (zx rfl rfl rfl (rfl) rfl rfl (zx rfl rfl rfl (rfl) rfl rfl (zx rfl rfl rfl (rfl) rfl rfl (zx rfl rfl rfl (rfl) rfl rfl (zj rfl rfl (zz rfl (rfl) rfl) (zV (zc (yf rfl (rfl) (zh (zb (za rfl (ze rfl) (zg (zc (zH (fn := Tryz.f44) (fun _ _ h => h) (Rs.le (Rs.one rfl (zo rfl)) ?_))))))))))))))))))))))))))))))))))))
      exact zP (by symm; apply decide_eq_false; intro h; rw [h, hy] at hx; obtain rfl := Option.some.inj hx; exact h41 rfl)
     ·have h41 : x.ser = y.ser := by simpa using hb41
      refine zN rfl rfl rfl (hb41) rfl rfl (zd rfl) (zN rfl rfl rfl (hb41) rfl rfl (zd rfl) (zN rfl rfl rfl (hb41) rfl rfl (yK (e := 110) 4 rfl rfl k9 k9 o9 (by simpa using hx)) (zN rfl rfl rfl (hb41) rfl rfl (yv (n := 2) rfl k9 (show 2 < 4 by decide)) (zN rfl rfl rfl (hb41) rfl rfl (ym rfl rfl k9 s9) (zN rfl rfl rfl (hb41) rfl rfl (Rd.str (e := 5) rfl k9 k9 k9 s9) (zN rfl rfl rfl (hb41) rfl rfl (zd rfl) (zN rfl rfl rfl (hb41) rfl rfl (zd rfl) (zN rfl rfl rfl (hb41) rfl rfl (yK (e := 110) 4 rfl rfl k9 k9 o9 (by simpa using hy)) (zN rfl rfl rfl (hb41) rfl rfl (yv (n := 2) rfl k9 (show 2 < 4 by decide)) (zN rfl rfl rfl (hb41) rfl rfl (ym rfl rfl k9 s9) (zN rfl rfl rfl (hb41) rfl rfl (Rd.str (e := 5) rfl k9 k9 k9 s9) (zN rfl rfl rfl (hb41) rfl rfl (Rd.nes (p := x.bid) (q := y.bid) rfl rfl) (zj rfl rfl (zy rfl (hb41) rfl) (zj rfl rfl (zd rfl) (Z6 56 rfl (fun hb56 => ?_) (fun hb56 => ?_))))))))))))))))
      ·have h56 : ¬ x.bid = y.bid := by simpa using hb56
       refine zx rfl rfl rfl (hb56) rfl rfl (zx rfl rfl rfl (hb56) rfl rfl (zx rfl rfl rfl (hb56) rfl rfl (zx rfl rfl rfl (hb56) rfl rfl (zx rfl rfl rfl (hb56) rfl rfl (zx rfl rfl rfl (hb56) rfl rfl (zx rfl rfl rfl (hb56) rfl rfl (zx rfl rfl rfl (hb56) rfl rfl (zx rfl rfl rfl (hb56) rfl rfl (zx rfl rfl rfl (hb56) rfl rfl (zx rfl rfl rfl (hb56) rfl rfl (zj rfl rfl (zz rfl (hb56) rfl) (zV (zc (yf rfl (rfl) (zh (zb (za rfl (ze rfl) (zg (zc (zH (fn := Tryz.f44) (fun _ _ h => h) (Rs.le (Rs.one rfl (zo rfl)) ?_)))))))))))))))))))))
       exact zP (by symm; apply decide_eq_false; intro h; rw [h, hy] at hx; obtain rfl := Option.some.inj hx; exact h56 rfl)
      ·have h56 : x.bid = y.bid := by simpa using hb56
       refine zN rfl rfl rfl (hb56) rfl rfl (zd rfl) (zN rfl rfl rfl (hb56) rfl rfl (zd rfl) (zN rfl rfl rfl (hb56) rfl rfl (yK (e := 110) 4 rfl rfl k9 k9 o9 (by simpa using hx)) (zN rfl rfl rfl (hb56) rfl rfl (yv (n := 3) rfl k9 (show 3 < 4 by decide)) (zN rfl rfl rfl (hb56) rfl rfl (ym rfl rfl k9 s9) (zN rfl rfl rfl (hb56) rfl rfl (zd rfl) (zN rfl rfl rfl (hb56) rfl rfl (zd rfl) (zN rfl rfl rfl (hb56) rfl rfl (yK (e := 110) 4 rfl rfl k9 k9 o9 (by simpa using hy)) (zN rfl rfl rfl (hb56) rfl rfl (yv (n := 3) rfl k9 (show 3 < 4 by decide)) (zN rfl rfl rfl (hb56) rfl rfl (ym rfl rfl k9 s9) (zN rfl rfl rfl (hb56) rfl rfl (Rd.neb k9 rfl rfl) (zj rfl rfl (zy rfl (hb56) rfl) (zV (zc (zJ rfl (fun hb68 => ?_) (fun hb68 => ?_)))))))))))))))
       ·have h68 : ¬ x.bad = y.bad := by simpa using hb68
        refine zh (zb (za rfl (ze rfl) (zg (zc (zH (fn := Tryz.f44) (fun _ _ h => h) (Rs.le (Rs.one rfl (zo rfl)) ?_))))))
        exact zP (by symm; apply decide_eq_false; intro h; rw [h, hy] at hx; obtain rfl := Option.some.inj hx; exact h68 rfl)
       ·have h68 : x.bad = y.bad := by simpa using hb68
        refine zu (ye (zc (zb (za rfl (zd rfl) (za rfl (yM rfl rfl ⟨by omega, by omega⟩) (za rfl (ze rfl) (zg ?_)))))))
        have hxy : x = y := by (cases x; cases y; simp only at h28 h41 h56 h68; simp only [Rnd.Opn.mk.injEq]; exact ⟨h28, h41, h56, h68⟩)
        exact fun a w hh => hK0 (⟨i + 1, by omega, fun j hj => by (rcases Nat.lt_succ_iff_lt_or_eq.1 hj with h | h; exact hq j h; (rw [h, hx, hy, hxy]))⟩) (by dsimp only; omega) a w (hh.sub (⟨⟨_, rfl, ⟨lq rfl, ⟨lq rfl, ⟨⟨_, rfl, zC s9⟩, trivial⟩⟩⟩⟩, [], by decide, trivial⟩))
   ·have h14 : ¬ (i : Int) < (l.length : Int) := of_decide_eq_false hb14
    refine yW ?_
    repeat (first | refine Zi ?_ | refine Zj d9 ?_)
    refine Zk (zc (zh (zb (za rfl (ze rfl) (zg (zc (zH (fn := Tryz.f44) (fun _ _ h => h) (Rs.le (Rs.one rfl (zo rfl)) ?_))))))))
    exact zP (by symm; apply decide_eq_true; exact ext_upto h10 o9 hq)
end Sx
end Go.Proofs.YtgokpcnabgacnaaGreatDoor
namespace Go.Proofs.YtgokpcnabgacnaaGreatDoor
open Go.RowKit
namespace Sx
end Sx
end Go.Proofs.YtgokpcnabgacnaaGreatDoor
namespace Go.Proofs.YtgokpcnabgacnaaGreatDoor
open Go.RowKit
namespace Sx
end Sx
end Go.Proofs.YtgokpcnabgacnaaGreatDoor
