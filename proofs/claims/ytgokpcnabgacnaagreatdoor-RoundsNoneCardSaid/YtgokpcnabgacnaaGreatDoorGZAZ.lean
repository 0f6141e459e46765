/- ROUNDS: Reveal. ROUNDS: Clock, Len, State, Record, Ledger, Book. -/
import Derived.Test.YtgokpcnabgacnaaGreatDoorGZAY
set_option maxHeartbeats 8000000
set_option maxRecDepth 100000
namespace Go.Proofs.YtgokpcnabgacnaaGreatDoor
open Go.RowKit
namespace Sx
theorem kyD_self {ks : List (List UInt8)} {r : Int} {key : List UInt8} (h : r.toNat < ks.length) : kyD (ks.set r.toNat key) r = bD key := by unfold kyD; rw [Rnd.kyAt_set h]
theorem kyD_ne {ks : List (List UInt8)} {r q : Int} {key : List UInt8} (h : r.toNat ≠ q.toNat) : kyD (ks.set r.toNat key) q = kyD ks q := by unfold kyD; rw [Rnd.kyAt_set_ne h]
theorem eq_take {a b : List UInt8} (hl : a.length = b.length) (h : ∀ i, i < a.length → a[i]? = b[i]?) : a = b := List.ext_getElem? fun i => by
 by_cases hi : i < a.length
 ·exact h i hi
 ·rw [List.getElem?_eq_none o9, List.getElem?_eq_none o9]
theorem con_slEq (a b : List UInt8) (hl : a.length ≤ 1000000) : ConN Tryz.prog 102 [bD a, bD b] (yY (decide (a = b))) := by
 refine yE Tryz.func102 k9 rfl k9 fun base w0 => (zh (zb (za rfl (ze rfl) (zg (zc (zh (zh (zb (za rfl (zd rfl) (za rfl (Rd.len (e := 5) rfl k9) (za rfl (zd rfl) (za rfl (Rd.len (e := 5) rfl k9) (za rfl (yd rfl rfl) (zg (zc (zJ rfl (fun hb10 => ?_) (fun hb10 => ?_)))))))))))))))))
 ·have h10 : ¬ a.length = b.length := by (intro h; simp [h] at hb10)
  refine zh (zb (za rfl (ze rfl) (zg (zc (zH (fn := Tryz.f102) (fun _ _ h => h) (Rs.le (Rs.one rfl (zo rfl)) ?_))))))
  exact zP (by symm; apply decide_eq_false; intro h; exact h10 (by rw [h]))
 ·have h10 : a.length = b.length := by (simp at hb10; omega)
  refine zu (zc (zh (zh (zb (za rfl (zd rfl) (za rfl (Rd.len (e := 5) rfl k9) (za rfl (zd rfl) (zg (zc (zW (Zq (ι := {i : Nat // i ≤ a.length ∧ ∀ j, j < i → a[j]? = b[j]?}) (fun i => zR [(0, bD a), (1, bD b), (12, iD ((cellsOf a).length : Int)), (13, iD (i.1 : Int))] []) (fun i => a.length - i.1) (⟨0, Nat.zero_le _, fun j hj => absurd hj (Nat.not_lt_zero _)⟩) ?_ ?_)))))))))))
  ·exact (sB [] rfl rfl)
  ·rintro ⟨i, hi, hq⟩ K0 hK0
   dsimp only at hi hq ⊢
   refine zh (zb (za rfl (yG rfl rfl) (zg (zc (zh (zJ rfl (fun hb14 => ?_) (fun hb14 => ?_)))))))
   ·have h14 : i < a.length := by (have h := of_decide_eq_true hb14; simp at h; omega)
    refine zu (zc (zh (zW (zh (zb (za rfl (zd rfl) (za rfl (ze rfl) (zg (zc (zh ?_))))))))))
    obtain ⟨x, hx⟩ : ∃ x, a[i]? = some x := ⟨_, List.getElem?_eq_getElem o9⟩
    obtain ⟨y, hy⟩ : ∃ x, b[i]? = some x := ⟨_, List.getElem?_eq_getElem o9⟩
    refine yj [] (.r 0 (.r 1 (.r 2 (.r 3 (.r 4 (.r 5 (.r 6 (.r 7 (.r 8 .fin))))))))) k9 k9 (fun d _ _ _ _ h => by cases d <;> exact h) (zj rfl rfl (zd rfl) (zj rfl rfl (zd rfl) (zj rfl rfl (Rd.idx (e := 5) rfl rfl k9 k9 o9 (show (cellsOf a)[_]? = some (B8 x) from by simp [cellsOf, hx])) (zj rfl rfl (Rd.loadP rfl k9 s9) (zj rfl rfl (zd rfl) (zj rfl rfl (zd rfl) (zj rfl rfl (Rd.idx (e := 5) rfl rfl k9 k9 o9 (show (cellsOf b)[_]? = some (B8 y) from by simp [cellsOf, hy])) (zj rfl rfl (Rd.loadP rfl k9 s9) (zj rfl rfl (yd rfl rfl) (zV (zc (zJ rfl (fun hb24 => ?_) (fun hb24 => ?_)))))))))))))
    ·have h24 : ¬ x = y := by (intro h; simp [h] at hb24)
     refine zh (zb (za rfl (ze rfl) (zg (zc (zH (fn := Tryz.f102) (fun _ _ h => h) (Rs.le (Rs.one rfl (zo rfl)) ?_))))))
     exact zP (by symm; apply decide_eq_false; intro h; rw [h, hy] at hx; exact h24 (Option.some.inj hx).symm)
    ·have h24 : x = y := by (have h := hb24; simp at h; exact UInt8.toNat_inj.1 o9)
     exact zu (ye (zc (zb (za rfl (yM rfl rfl ⟨by omega, by omega⟩) (za rfl (zd rfl) (zg (fun a w hh => hK0 (⟨i + 1, by omega, fun j hj => by (rcases Nat.lt_succ_iff_lt_or_eq.1 hj with h | h; exact hq j h; (rw [h, hx, hy, h24]))⟩) (by dsimp only; omega) a w (hh.sub (⟨⟨_, rfl, ⟨lq rfl, ⟨lq rfl, ⟨lq rfl, ⟨⟨_, rfl, zC s9⟩, trivial⟩⟩⟩⟩⟩, [], by decide, trivial⟩)))))))))
   ·have h14 : ¬ i < a.length := by (have h := of_decide_eq_false hb14; simp at h; omega)
    refine yW ?_
    repeat (first | refine Zi ?_ | refine Zj d9 ?_)
    refine Zk (zc (zh (zb (za rfl (ze rfl) (zg (zc (zH (fn := Tryz.f102) (fun _ _ h => h) (Rs.le (Rs.one rfl (zo rfl)) ?_))))))))
    exact zP (by symm; apply decide_eq_true; exact eq_take h10 (fun j hj => hq j o9))
theorem con_rev1 (gr q4 q5 q6 q7 : Nat) (F : List Nat) (s : Rnd.S) (r : Int) (key : List UInt8) (now : Int) (hg : Rnd.Good s) (hh : Rnd.has s r) : ConR Tryz.prog 99 [.c q4 [pA gr], .c q5 [iD r], .c q6 [bD key], .c q7 [iD now], .r F (Zu gr s)] [pA q4, pA q5, pA q7] (fun F' : List Nat => [.c q4 [pA gr], .c q5 [iD r], .c q6 [bD key], .c q7 [iD now], .r F' (Zu gr s)]) (fun F' : List Nat => iD (unE (decide (Rnd.late s r now)) 8)) := by
 obtain ⟨w, hw⟩ : ∃ w, s.ws[r.toNat]? = some w := ⟨_, List.getElem?_eq_getElem (by have := hh.2; have := hh.1; omega)⟩
 have hwa := Rnd.winAt_some hw
 have hr0 := hh.1
 refine zY Tryz.func99 k9 rfl k9 fun base w0 => (zh (zK (ZJ (gr := gr) (s := s)) [4] d9 ⟨lR rfl, trivial⟩ ?_))
 rintro _ ⟨t, rfl⟩
 refine zb (za rfl (ze rfl) (zg (zc (zh (zb (za rfl (zl 0 rfl rfl rfl k9 zp) (za rfl (zl 1 rfl rfl rfl k9 zp) (za rfl (zl 3 rfl rfl rfl k9 zp) (zk (S := []) (zA [4, 9] (con_state _ _ s.ws s.ck _ _ _ s.ks r now w hh.1 hw) rfl ⟨(yL 4 rfl d9 ⟨(zr (zf _)), (zr (zf _)), (zr (zf _)), (zr (zf _)), (zr (zf _)), (yx 9 rfl d9), trivial⟩), (zr (zf _)), (zr (zf _)), trivial⟩ rfl) ?_)))))))))
 rintro _ rfl
 refine za rfl (yP rfl rfl) (za rfl (ze rfl) (zg (zc (zh (yj [] (.r 0 (.r 1 (.r 2 (.r 3 (.r 4 (.r 5 (.r 6 (.r 7 (.r 8 (.r 9 (.r 10 (.r 11 (.r 12 (.r 13 (.n 14 (.e 15 (.r 16 .fin) .no) .no))))))))))))))) k9 k9 (fun d _ _ _ _ h => by cases d <;> exact h) (zj rfl rfl (zl 3 rfl rfl rfl k9 zp) (zj rfl rfl (zl 0 rfl rfl rfl k9 zp) (zj rfl rfl (zw rfl) (zj rfl rfl (zi (n := 1) rfl k9) (zj rfl rfl (zl 4 rfl rfl rfl k9 zp) (zj rfl rfl (zl 1 rfl rfl rfl k9 zp) (zj rfl rfl (yK (e := 26) 4 rfl rfl k9 k9 o9 hw) (zj rfl rfl (yv (n := 2) rfl k9 (show 2 < 4 by decide)) (zj rfl rfl (ym rfl rfl k9 s9) (zj rfl rfl (ZL rfl rfl) (zj rfl rfl (zd rfl) (SWz.split 20 rfl (fun hb20 => ?_) (fun hb20 => ?_))))))))))))))))))
 ·have h20 : now ≥ w.rv := of_decide_eq_true hb20
  refine zN rfl rfl rfl (hb20) rfl rfl (zd rfl) (zN rfl rfl rfl (hb20) rfl rfl (yU rfl) (zj rfl rfl (zz rfl (hb20) rfl) (SWz.efl rfl (EfL.callR (yS (!decide (Rnd.stOf w (Rnd.kyAt s.ks r.toNat) now = 4)) 8) rfl ⟨zf _, zf _, trivial⟩ rfl) ?_ zI)))
  rintro _ _ ⟨⟨ua, ub⟩, rfl, rfl⟩
  refine zZ rfl (yw (cap := [.pointer (some ⟨ua, 0, none⟩), .pointer (some ⟨ub, 0, none⟩)]) [10, 11] (Z8 ua ub (!decide (Rnd.stOf w (Rnd.kyAt s.ks r.toNat) now = 4)) 8) rfl rfl ⟨zf _, zf _, trivial⟩ d9 (sX rfl) (fin_c (List.mem_append_right _ (List.mem_cons_self)) (fin_c (List.mem_append_right _ (List.mem_cons_of_mem _ (List.mem_cons_self))) fin_nil)) rfl) ?_ zI
  rintro _ ⟨⟨⟩, rfl⟩
  refine zj rfl rfl (ze rfl) (zV (zc (zK (Zt (gr := gr) (s := s) t.1 (t.2)) [4, 5, 6, 7, 8, 9] d9 (sX rfl) ?_)))
  rintro _ ⟨Fr, rfl⟩
  refine zS (fn := Tryz.f99) (Fr) [0, 1, 2, 3, 6] (fun _ _ h => h) (Rs.le (Rs.one rfl (zo rfl)) ?_) d9 (sX rfl)
  exact zC (by congr 2; rw [← decide_not, decide_eq_decide, Rnd.late, hwa, Rnd.stOf_4]; exact ⟨fun h => ⟨h20, Classical.not_not.1 h⟩, fun h => not_not_intro h.2⟩)
 ·have h20 : ¬ now ≥ w.rv := of_decide_eq_false hb20
  refine zx rfl rfl rfl (hb20) rfl rfl (zx rfl rfl rfl (hb20) rfl rfl (zj rfl rfl (zy rfl (hb20) rfl) (SWz.efl rfl (EfL.callR (yS (false) 8) rfl ⟨zf _, zf _, trivial⟩ rfl) ?_ zI)))
  rintro _ _ ⟨⟨ua, ub⟩, rfl, rfl⟩
  refine zZ rfl (yw (cap := [.pointer (some ⟨ua, 0, none⟩), .pointer (some ⟨ub, 0, none⟩)]) [10, 11] (Z8 ua ub (false) 8) rfl rfl ⟨zf _, zf _, trivial⟩ d9 (sX rfl) (fin_c (List.mem_append_right _ (List.mem_cons_self)) (fin_c (List.mem_append_right _ (List.mem_cons_of_mem _ (List.mem_cons_self))) fin_nil)) rfl) ?_ zI
  rintro _ ⟨⟨⟩, rfl⟩
  refine zj rfl rfl (ze rfl) (zV (zc (zK (Zt (gr := gr) (s := s) t.1 (t.2)) [4, 5, 6, 7, 8, 9] d9 (sX rfl) ?_)))
  rintro _ ⟨Fr, rfl⟩
  refine zS (fn := Tryz.f99) (Fr) [0, 1, 2, 3, 6] (fun _ _ h => h) (Rs.le (Rs.one rfl (zo rfl)) ?_) d9 (sX rfl)
  exact zC (by congr 2; symm; apply decide_eq_false; intro h; have h1 := h.1; rw [hwa] at h1; exact h20 h1)
theorem con_rev2 (gr q4 q5 q6 q7 : Nat) (F : List Nat) (s : Rnd.S) (r : Int) (key : List UInt8) (now : Int) (hg : Rnd.Good s) (hh : Rnd.has s r) (hk : key.length = 32) : ConR Tryz.prog 100 [.c q4 [pA gr], .c q5 [iD r], .c q6 [bD key], .c q7 [iD now], .r F (Zu gr s)] [pA q6, pA q4, pA q5] (fun F' : List Nat => [.c q4 [pA gr], .c q5 [iD r], .c q6 [bD key], .c q7 [iD now], .r F' (Zu gr s)]) (fun F' : List Nat => iD (unE (decide (Env.comB key = (Rnd.winAt s.ws r.toNat).cm)) 10)) := by
 obtain ⟨w, hw⟩ : ∃ w, s.ws[r.toNat]? = some w := ⟨_, List.getElem?_eq_getElem (by have := hh.2; have := hh.1; omega)⟩
 have hwa := Rnd.winAt_some hw
 have hr0 := hh.1
 have hcl : (Env.comB key).length ≤ 1000000 := by unfold Env.comB; rw [if_pos hk]; unfold Env.comH; simp
 refine zY Tryz.func100 k9 rfl k9 fun base w0 => (zh (zb (za rfl (ze rfl) (zg (zc (zh (zb (za rfl (zl 2 rfl rfl rfl k9 zp) (zk (S := []) (yo (con_commit key o9) rfl ⟨zf _, trivial⟩ rfl) ?_)))))))))
 rintro _ rfl
 refine za rfl (zd rfl) (za rfl (zq rfl rfl) (za rfl (zq rfl rfl) (za rfl (ze rfl) (za rfl (ze rfl) (zg (zc (zh (zh (zb (za rfl (zd rfl) (za rfl (yd rfl rfl) (zg (zc (zE rfl (by simp [Env.comE, hk]) (zu (zc (zh (zK (ZJ (gr := gr) (s := s)) [4] d9 ⟨lR rfl, trivial⟩ ?_))))))))))))))))))
 rintro _ ⟨t, rfl⟩
 refine yj [] (.r 0 (.r 1 (.r 2 (.r 3 (.r 4 (.r 5 (.r 6 (.r 7 (.r 8 (.n 9 (.n 10 (.e 11 (.r 12 .fin) .no) .no) .no)))))))))) k9 k9 (fun d _ _ _ _ h => by cases d <;> exact h) (zj rfl rfl (zd rfl) (zj rfl rfl (zl 0 rfl rfl rfl k9 zp) (zj rfl rfl (zw rfl) (zj rfl rfl (zi (n := 1) rfl k9) (zj rfl rfl (zl 4 rfl rfl rfl k9 zp) (zj rfl rfl (zl 1 rfl rfl rfl k9 zp) (zj rfl rfl (yK (e := 26) 4 rfl rfl k9 k9 o9 hw) (zj rfl rfl (yv (n := 3) rfl k9 (show 3 < 4 by decide)) (zj rfl rfl (ym rfl rfl k9 s9) (yi rfl (zA [] (con_slEq (Env.comB key) w.cm hcl) rfl ⟨(zr (zf _)), (zr (zf _)), trivial⟩ rfl) ?_ zI))))))))))
 rintro _ rfl
 refine SWz.efl rfl (EfL.callR (yS (decide (Env.comB key = w.cm)) 10) rfl ⟨zf _, zf _, trivial⟩ rfl) ?_ zI
 rintro _ _ ⟨⟨ua, ub⟩, rfl, rfl⟩
 refine zZ rfl (yw (cap := [.pointer (some ⟨ua, 0, none⟩), .pointer (some ⟨ub, 0, none⟩)]) [10, 11] (Z8 ua ub (decide (Env.comB key = w.cm)) 10) rfl rfl ⟨zf _, zf _, trivial⟩ d9 (sX rfl) (fin_c (List.mem_append_right _ (List.mem_cons_self)) (fin_c (List.mem_append_right _ (List.mem_cons_of_mem _ (List.mem_cons_self))) fin_nil)) rfl) ?_ zI
 rintro _ ⟨⟨⟩, rfl⟩
 refine zj rfl rfl (ze rfl) (zV (zc (zK (Zt (gr := gr) (s := s) t.1 (t.2)) [4, 5, 6, 7, 8, 9] d9 (sX rfl) ?_)))
 rintro _ ⟨Fr, rfl⟩
 refine zS (fn := Tryz.f100) (Fr) [0, 1, 2, 3, 6] (fun _ _ h => h) (Rs.le (Rs.one rfl (zo rfl)) ?_) d9 (sX rfl)
 exact zC (by rw [hwa])
theorem con_rev3 (gr q4 q5 q6 q7 : Nat) (F : List Nat) (s : Rnd.S) (r : Int) (key : List UInt8) (now : Int) (hg : Rnd.Good s) (hh : Rnd.has s r) (hk : key.length = 32) (ht : Rnd.time now) : ConR Tryz.prog 103 [.c q4 [pA gr], .c q5 [iD r], .c q6 [bD key], .c q7 [iD now], .r F (Zu gr s)] [pA q7, pA q5, pA q6, pA q4] (fun F' : List Nat => [.c q4 [pA gr], .c q5 [iD r], .c q6 [bD key], .c q7 [iD now], .r F' (Zu gr (s.app 2 (Rnd.revP r key now)))]) (fun F' : List Nat => iD (yI s.en 2 (Rnd.revP r key now))) := by
 have hr0 := Rnd.has_le hg hh
 obtain ⟨a1, a2, a3⟩ := Rnd.revP_len hk ht hr0
 have hnl := hg.len
 have htn : now.toNat ≤ 9223372036854775807 := by have := ht.2; omega
 have hts : ((now.toNat : Nat) : Int) = now := Int.toNat_of_nonneg ht.1
 have hrn : r.toNat ≤ 9223372036854775807 := by omega
 have hrs : ((r.toNat : Nat) : Int) = r := Int.toNat_of_nonneg hr0.1
 have ho1 : ([] ++ grp now.toNat).length + 10 ≤ 65536 := by simp only [List.nil_append]; omega
 have ho2 : ([] ++ grp now.toNat ++ grp r.toNat).length + key.length + 10 ≤ 65536 := by simp only [List.nil_append, List.length_append]; omega
 have ho3 : ([] ++ grp now.toNat ++ grp r.toNat ++ strE key).length ≤ 65536 := by simpa [Rnd.revP] using a1
 refine zY Tryz.func103 k9 rfl k9 fun base w0 => (zh (zb (za rfl (ze rfl) (zg (zc (zh (zb (zk (S := []) (zQ (zs := [.int .i64 0, .slice none 0 0]) k9 rfl) ?_))))))))
 rintro _ ⟨g5, rfl⟩
 refine zg (zc (zh (SW.vecN 5 1 Z2 (zO (σ' := zR [(0, pA q7), (1, pA q5), (2, pA q6), (3, pA q4), (5, pA g5)] [.c q4 [pA gr], .c q5 [iD r], .c q6 [bD key], .c q7 [iD now], .r F (Zu gr s), .c g5 [iD 0, isD (.slice (⟨none, 0, []⟩ : Ust).A (([] : List UInt8)).length (⟨none, 0, []⟩ : Ust).c)], .r (⟨none, 0, []⟩ : Ust).F (yb 5 1 Z2 (⟨none, 0, []⟩ : Ust).A (⟨none, 0, []⟩ : Ust).c (([] : List UInt8)))]) (sB [0, 1, 2, 3, 4, 5, 6] rfl rfl) (zb (za rfl (zl 3 rfl rfl rfl k9 zp) (zk (zB [5, 6] (con_wUint g5 (⟨none, 0, []⟩ : Ust) [] now.toNat htn d9) rfl ⟨zf _, zC (by rw [hts]), trivial⟩ d9 (sX rfl) (fun _ h => h) rfl) ?_)))))))
 rintro _ ⟨s7, rfl⟩
 refine zg (zc (zh (zb (za rfl (zl 1 rfl rfl rfl k9 zp) (zk (zB [5, 6] (con_wUint g5 s7 ([] ++ grp now.toNat) r.toNat hrn ho1) rfl ⟨zf _, zC (by rw [hrs]), trivial⟩ d9 (sX rfl) (fun _ h => h) rfl) ?_)))))
 rintro _ ⟨s9, rfl⟩
 refine zg (zc (zh (zb (za rfl (zl 2 rfl rfl rfl k9 zp) (zk (zB [5, 6] (con_wBytes g5 s9 ([] ++ grp now.toNat ++ grp r.toNat) key ho2) rfl ⟨zf _, zf _, trivial⟩ d9 (sX rfl) (fun _ h => h) rfl) ?_)))))
 rintro _ ⟨s11, rfl⟩
 refine zg (zc (zh (zO (σ' := zR [(3, pA q4), (5, pA g5)] [.c q4 [pA gr], .c q5 [iD r], .c q6 [bD key], .c q7 [iD now], .r F (Zu gr s), .c g5 [iD 0, isD (.slice s11.A ([] ++ grp now.toNat ++ grp r.toNat ++ strE key).length s11.c)], .r s11.F (yb 5 1 Z2 s11.A s11.c ([] ++ grp now.toNat ++ grp r.toNat ++ strE key))]) (sB [0, 1, 2, 3, 4, 5, 6] rfl rfl) (zK (ZJ (gr := gr) (s := s)) [4] d9 ⟨lR rfl, trivial⟩ ?_))))
 rintro _ ⟨t, rfl⟩
 refine zb (za rfl (zl 0 rfl rfl rfl k9 zp) (zk (zB [6, 8, 4, 5] (con_rappend gr t.1.gl g5 _ s.ws s.ck _ _ _ _ t.1.Fl s.en (Led.app s.en 2 (Rnd.revP r key now)) 2 (yI s.en 2 (Rnd.revP r key now)) s11 ([] ++ grp now.toNat ++ grp r.toNat ++ strE key) ho3 o9 rfl rfl) rfl ⟨zf _, zf _, zf _, trivial⟩ d9 (sX rfl) (fun _ h => h) rfl) ?_))
 rintro _ ⟨F13, rfl⟩
 refine za rfl (ze rfl) (zg (zc (zK (Zt (gr := gr) (s := (s.app 2 (Rnd.revP r key now))) { t.1 with Fl := F13 } (t.2)) [8, 4, 9, 5, 6, 7] d9 (sX rfl) ?_)))
 rintro _ ⟨Fr, rfl⟩
 refine zS (fn := Tryz.f103) (Fr) [0, 1, 2, 3, 6] (fun _ _ h => h) (Rs.le (Rs.one rfl (zo rfl)) ?_) d9 (sX rfl)
 exact zf _
theorem con_reveal (gr : Nat) (F : List Nat) (s : Rnd.S) (r : Int) (key : List UInt8) (now : Int) (hg : Rnd.Good s) (hkl : key.length ≤ 1000000) : ConR Tryz.prog 39 [.r F (Zu gr s)] [pA gr, iD r, bD key, iD now] (fun F' : List Nat => [.r F' (Zu gr (Rnd.revS s r key now))]) (fun F' : List Nat => iD (Rnd.revE s r key now)) := by
 refine zY Tryz.func39 k9 rfl k9 fun base w0 => (zh (zK (ZJ (gr := gr) (s := s)) [0] d9 ⟨lR rfl, trivial⟩ ?_))
 rintro _ ⟨t, rfl⟩
 refine zb (zk (S := []) (Yo rfl (fun _ _ _ h => ZG (One.h _ _ _ h)) rfl) ?_)
 rintro _ ⟨g4, rfl⟩
 refine zk (S := []) (Yo rfl (fun _ _ _ h => ZG (One.h _ _ _ h)) rfl) ?_
 rintro _ ⟨g5, rfl⟩
 refine zk (S := []) (Yo rfl (fun _ _ _ h => ZG (One.h _ _ _ h)) rfl) ?_
 rintro _ ⟨g6, rfl⟩
 refine zk (S := []) (Yo rfl (fun _ _ _ h => ZG (One.h _ _ _ h)) rfl) ?_
 rintro _ ⟨g7, rfl⟩
 refine za rfl (ze rfl) (zg (zc (zh (zh (zb (za rfl (zl 6 rfl rfl rfl k9 zp) (zk (S := []) (zA [0, 5] (con_none _ _ s.ws s.ck _ _ _ s.ks) rfl ⟨(yL 0 rfl d9 ⟨(zr (zf _)), (zr (zf _)), (zr (zf _)), (zr (zf _)), (zr (zf _)), (yx 5 rfl d9), trivial⟩), trivial⟩ rfl) ?_)))))))
 rintro _ rfl
 refine zg (zc (zE rfl (rfl) (zu (zc (zh (zb (zk (S := []) (zB [] (con_steps) rfl trivial d9 trivial (fun _ h => h) rfl) ?_)))))))
 rintro _ ⟨gc, rfl⟩
 refine za rfl (zd rfl) (za rfl (zq rfl rfl) (za rfl (zq rfl rfl) (za rfl (ze rfl) (za rfl (ze rfl) (zg (zc (zh (SW.meet (fun σ => σ = zR [(4, pA g4), (5, pA g5), (6, pA g6), (7, pA g7), (9, isD (.func (.func 116) #[] #[.pointer (some ⟨gc, 0, none⟩)])), (10, isD (.func (.func 117) #[] #[.pointer (some ⟨gc, 0, none⟩)]))] [.c g4 [pA gr], .c g5 [iD r], .c g6 [bD key], .c g7 [iD now], .c gr [pA t.1.gb, lsD encW s.ws, iD s.ck, pA t.1.gl, isD (.slice t.1.A t.1.Ms.length t.1.c), isD (.map (some t.1.gk))], .r t.1.Fb (bkP t.1.gb s.bk), .r t.1.Fl (ldP t.1.gl s.en), .r t.1.Fv (yb 133 1 encM t.1.A t.1.c t.1.Ms), .r t.1.Fm (rowR (mps s.es t.1.Ms)), .r t.1.Fk (zX (some t.1.gk) encZ (Rnd.rks s.ks) (kyD s.ks)), .c gc [iD (Rnd.v1 key now)]]) ?_ ?_))))))))
 ·skip
  by_cases h1 : key.length = 32
  ·skip
   refine zO (σ' := zR [(4, pA g4), (5, pA g5), (6, pA g6), (7, pA g7), (9, isD (.func (.func 116) #[] #[.pointer (some ⟨gc, 0, none⟩)])), (10, isD (.func (.func 117) #[] #[.pointer (some ⟨gc, 0, none⟩)]))] [.c g4 [pA gr], .c g5 [iD r], .c g6 [bD key], .c g7 [iD now], .c gr [pA t.1.gb, lsD encW s.ws, iD s.ck, pA t.1.gl, isD (.slice t.1.A t.1.Ms.length t.1.c), isD (.map (some t.1.gk))], .r t.1.Fb (bkP t.1.gb s.bk), .r t.1.Fl (ldP t.1.gl s.en), .r t.1.Fv (yb 133 1 encM t.1.A t.1.c t.1.Ms), .r t.1.Fm (rowR (mps s.es t.1.Ms)), .r t.1.Fk (zX (some t.1.gk) encZ (Rnd.rks s.ks) (kyD s.ks)), .c gc [iD (0)]]) (sB [6, 7, 8, 9, 0, 1, 2, 3, 4, 5, 10] rfl rfl) (zb (za rfl (zd rfl) (za rfl (zl 2 rfl rfl rfl k9 zp) (za rfl (Rd.len (e := 5) rfl k9) (za rfl (yP rfl rfl) (za rfl (zd rfl) (zm rfl rfl (by simp [h1]) rfl rfl (zl 3 rfl rfl rfl k9 zp) (yA (S := []) rfl rfl (by simp [h1]) rfl (zA [] (con_validT now) rfl ⟨(zr (zf _)), trivial⟩ rfl) ?_))))))))
   rintro _ rfl
   refine za rfl (zz rfl (by simp [h1]) rfl) (zk (S := []) (zB [] (yS (decide (Rnd.time now)) 2) rfl ⟨zf _, zf _, trivial⟩ d9 trivial (fun _ h => h) rfl) ?_)
   rintro _ ⟨⟨ua, ub⟩, rfl⟩
   refine zk (yw (cap := [.pointer (some ⟨gc, 0, none⟩)]) [10, 11, 12] (con_tryU gc ua ub (0) (decide (Rnd.time now)) 2) rfl rfl ⟨zf _, zf _, trivial⟩ d9 (sX rfl) (fun _ h => h) rfl) ?_
   rintro _ ⟨⟨⟩, rfl⟩
   exact zg (yZ rfl (⟨⟨_, rfl, (sT rfl)⟩, [0, 1, 2, 3, 4, 5, 6, 7, 8, 9, 10], by decide, ⟨la rfl, ⟨la rfl, ⟨la rfl, ⟨la rfl, ⟨la rfl, ⟨lR rfl, ⟨lR rfl, ⟨lR rfl, ⟨lR rfl, ⟨lR rfl, ⟨⟨_, rfl, ⟨zC (by unfold Rnd.v1; rw [if_pos rfl]; simp [h1]), trivial⟩⟩, trivial⟩⟩⟩⟩⟩⟩⟩⟩⟩⟩⟩⟩))
  ·skip
   refine zO (σ' := zR [(4, pA g4), (5, pA g5), (6, pA g6), (7, pA g7), (9, isD (.func (.func 116) #[] #[.pointer (some ⟨gc, 0, none⟩)])), (10, isD (.func (.func 117) #[] #[.pointer (some ⟨gc, 0, none⟩)]))] [.c g4 [pA gr], .c g5 [iD r], .c g6 [bD key], .c g7 [iD now], .c gr [pA t.1.gb, lsD encW s.ws, iD s.ck, pA t.1.gl, isD (.slice t.1.A t.1.Ms.length t.1.c), isD (.map (some t.1.gk))], .r t.1.Fb (bkP t.1.gb s.bk), .r t.1.Fl (ldP t.1.gl s.en), .r t.1.Fv (yb 133 1 encM t.1.A t.1.c t.1.Ms), .r t.1.Fm (rowR (mps s.es t.1.Ms)), .r t.1.Fk (zX (some t.1.gk) encZ (Rnd.rks s.ks) (kyD s.ks)), .c gc [iD (0)]]) (sB [6, 7, 8, 9, 0, 1, 2, 3, 4, 5, 10] rfl rfl) (zb (za rfl (zd rfl) (za rfl (zl 2 rfl rfl rfl k9 zp) (za rfl (Rd.len (e := 5) rfl k9) (za rfl (yP rfl rfl) (za rfl (zd rfl) (zn rfl rfl (by simp; omega) rfl rfl (zn rfl rfl (by simp; omega) rfl rfl (za rfl (zy rfl (by simp; omega) rfl) (zk (S := []) (zB [] (yS (false) 2) rfl ⟨zf _, zf _, trivial⟩ d9 trivial (fun _ h => h) rfl) ?_))))))))))
   rintro _ ⟨⟨ua, ub⟩, rfl⟩
   refine zk (yw (cap := [.pointer (some ⟨gc, 0, none⟩)]) [10, 11, 12] (con_tryU gc ua ub (0) (false) 2) rfl rfl ⟨zf _, zf _, trivial⟩ d9 (sX rfl) (fun _ h => h) rfl) ?_
   rintro _ ⟨⟨⟩, rfl⟩
   exact zg (yZ rfl (⟨⟨_, rfl, (sT rfl)⟩, [0, 1, 2, 3, 4, 5, 6, 7, 8, 9, 10], by decide, ⟨la rfl, ⟨la rfl, ⟨la rfl, ⟨la rfl, ⟨la rfl, ⟨lR rfl, ⟨lR rfl, ⟨lR rfl, ⟨lR rfl, ⟨lR rfl, ⟨⟨_, rfl, ⟨zC (by unfold Rnd.v1; rw [if_pos rfl]; simp [h1]), trivial⟩⟩, trivial⟩⟩⟩⟩⟩⟩⟩⟩⟩⟩⟩⟩))
 ·rintro _ rfl
  refine zc (zh (SW.meet (fun σ => σ = zR [(4, pA g4), (5, pA g5), (6, pA g6), (7, pA g7), (9, isD (.func (.func 116) #[] #[.pointer (some ⟨gc, 0, none⟩)])), (10, isD (.func (.func 117) #[] #[.pointer (some ⟨gc, 0, none⟩)]))] [.c g4 [pA gr], .c g5 [iD r], .c g6 [bD key], .c g7 [iD now], .c gr [pA t.1.gb, lsD encW s.ws, iD s.ck, pA t.1.gl, isD (.slice t.1.A t.1.Ms.length t.1.c), isD (.map (some t.1.gk))], .r t.1.Fb (bkP t.1.gb s.bk), .r t.1.Fl (ldP t.1.gl s.en), .r t.1.Fv (yb 133 1 encM t.1.A t.1.c t.1.Ms), .r t.1.Fm (rowR (mps s.es t.1.Ms)), .r t.1.Fk (zX (some t.1.gk) encZ (Rnd.rks s.ks) (kyD s.ks)), .c gc [iD (Rnd.v2 s r key now)]]) ?_ ?_))
  ·skip
   by_cases h2 : now ≥ s.ck
   ·skip
    refine zO (σ' := zR [(4, pA g4), (5, pA g5), (6, pA g6), (7, pA g7), (9, isD (.func (.func 116) #[] #[.pointer (some ⟨gc, 0, none⟩)])), (10, isD (.func (.func 117) #[] #[.pointer (some ⟨gc, 0, none⟩)]))] [.c g4 [pA gr], .c g5 [iD r], .c g6 [bD key], .c g7 [iD now], .c gr [pA t.1.gb, lsD encW s.ws, iD s.ck, pA t.1.gl, isD (.slice t.1.A t.1.Ms.length t.1.c), isD (.map (some t.1.gk))], .r t.1.Fb (bkP t.1.gb s.bk), .r t.1.Fl (ldP t.1.gl s.en), .r t.1.Fv (yb 133 1 encM t.1.A t.1.c t.1.Ms), .r t.1.Fm (rowR (mps s.es t.1.Ms)), .r t.1.Fk (zX (some t.1.gk) encZ (Rnd.rks s.ks) (kyD s.ks)), .c gc [iD (Rnd.v1 key now)]]) (sB [0, 1, 2, 3, 4, 5, 6, 7, 8, 9, 10] rfl rfl) (yj (gc :: []) (.r 0 (.r 1 (.r 2 (.r 3 (.r 4 (.r 5 (.r 6 (.r 7 (.r 8 (.r 9 (.n 10 (.r 11 (.n 12 (.e 13 .fin .no) .no)) .no))))))))))) k9 k9 (fun d _ _ _ _ h => by cases d <;> exact h) (zj rfl rfl (zd rfl) (zj rfl rfl (zl 3 rfl rfl rfl k9 (yz 10 rfl d9 zp)) (zj rfl rfl (zl 0 rfl rfl rfl k9 (yz 10 rfl d9 zp)) (zj rfl rfl (zw rfl) (zj rfl rfl (zi (n := 2) rfl k9) (zj rfl rfl (zl 4 rfl rfl rfl k9 (yz 10 rfl d9 zp)) (zj rfl rfl (ZL rfl rfl) (zj rfl rfl (zd rfl) (zN rfl rfl rfl (decide_eq_true h2) rfl rfl (zl 0 rfl rfl rfl k9 (yz 10 rfl d9 zp)) (zN rfl rfl rfl (decide_eq_true h2) rfl rfl (zl 1 rfl rfl rfl k9 (yz 10 rfl d9 zp)) (SWz.efng rfl rfl rfl (decide_eq_true h2) rfl (zA [4, 9] (con_has _ _ s.ws s.ck _ _ _ s.ks r) rfl ⟨(yL 4 rfl d9 ⟨(zr (zf _)), (zr (zf _)), (zr (zf _)), (zr (zf _)), (zr (zf _)), (yx 9 rfl d9), trivial⟩), (zr (zf _)), trivial⟩ rfl) ?_ zI))))))))))))
    rintro _ rfl
    refine zj rfl rfl (zz rfl (decide_eq_true h2) rfl) (SWz.efl rfl (EfL.callR (yS (decide (0 ≤ r ∧ r < (s.ws.length : Int))) 3) rfl ⟨zf _, zf _, trivial⟩ rfl) ?_ zI)
    rintro _ _ ⟨⟨ua, ub⟩, rfl, rfl⟩
    refine zZ rfl (yw (cap := [.pointer (some ⟨gc, 0, none⟩)]) [10, 11, 12] (con_tryU gc ua ub (Rnd.v1 key now) (decide (0 ≤ r ∧ r < (s.ws.length : Int))) 3) rfl rfl ⟨zf _, zf _, trivial⟩ d9 (sX rfl) (fin_c (List.mem_append_left _ (List.mem_cons_self)) (fin_c (List.mem_append_right _ (List.mem_cons_self)) (fin_c (List.mem_append_right _ (List.mem_cons_of_mem _ (List.mem_cons_self))) fin_nil))) rfl) ?_ zI
    rintro _ ⟨⟨⟩, rfl⟩
    exact zV (yZ rfl (⟨⟨_, rfl, (sT rfl)⟩, [0, 1, 2, 3, 4, 5, 6, 7, 8, 9, 10], by decide, ⟨la rfl, ⟨la rfl, ⟨la rfl, ⟨la rfl, ⟨la rfl, ⟨lR rfl, ⟨lR rfl, ⟨lR rfl, ⟨lR rfl, ⟨lR rfl, ⟨⟨_, rfl, ⟨zC (by unfold Rnd.v2; rw [show decide (s.ck ≤ now ∧ Rnd.has s r) = decide (0 ≤ r ∧ r < (s.ws.length : Int)) by (rw [decide_eq_decide]; exact ⟨fun h => h.2, fun h => ⟨h2, h⟩⟩)]), trivial⟩⟩, trivial⟩⟩⟩⟩⟩⟩⟩⟩⟩⟩⟩⟩))
   ·skip
    refine zO (σ' := zR [(4, pA g4), (5, pA g5), (6, pA g6), (7, pA g7), (9, isD (.func (.func 116) #[] #[.pointer (some ⟨gc, 0, none⟩)])), (10, isD (.func (.func 117) #[] #[.pointer (some ⟨gc, 0, none⟩)]))] [.c g4 [pA gr], .c g5 [iD r], .c g6 [bD key], .c g7 [iD now], .c gr [pA t.1.gb, lsD encW s.ws, iD s.ck, pA t.1.gl, isD (.slice t.1.A t.1.Ms.length t.1.c), isD (.map (some t.1.gk))], .r t.1.Fb (bkP t.1.gb s.bk), .r t.1.Fl (ldP t.1.gl s.en), .r t.1.Fv (yb 133 1 encM t.1.A t.1.c t.1.Ms), .r t.1.Fm (rowR (mps s.es t.1.Ms)), .r t.1.Fk (zX (some t.1.gk) encZ (Rnd.rks s.ks) (kyD s.ks)), .c gc [iD (Rnd.v1 key now)]]) (sB [0, 1, 2, 3, 4, 5, 6, 7, 8, 9, 10] rfl rfl) (yj (gc :: []) (.r 0 (.r 1 (.r 2 (.r 3 (.r 4 (.r 5 (.r 6 (.r 7 (.r 8 (.r 9 (.n 10 (.r 11 (.n 12 (.e 13 .fin .no) .no)) .no))))))))))) k9 k9 (fun d _ _ _ _ h => by cases d <;> exact h) (zj rfl rfl (zd rfl) (zj rfl rfl (zl 3 rfl rfl rfl k9 (yz 10 rfl d9 zp)) (zj rfl rfl (zl 0 rfl rfl rfl k9 (yz 10 rfl d9 zp)) (zj rfl rfl (zw rfl) (zj rfl rfl (zi (n := 2) rfl k9) (zj rfl rfl (zl 4 rfl rfl rfl k9 (yz 10 rfl d9 zp)) (zj rfl rfl (ZL rfl rfl) (zj rfl rfl (zd rfl) (zx rfl rfl rfl (decide_eq_false h2) rfl rfl (zx rfl rfl rfl (decide_eq_false h2) rfl rfl (SWz.offn rfl rfl rfl (decide_eq_false h2) rfl rfl ?_ zI))))))))))))
    refine zj rfl rfl (zy rfl (decide_eq_false h2) rfl) (SWz.efl rfl (EfL.callR (yS (false) 3) rfl ⟨zf _, zf _, trivial⟩ rfl) ?_ zI)
    rintro _ _ ⟨⟨ua, ub⟩, rfl, rfl⟩
    refine zZ rfl (yw (cap := [.pointer (some ⟨gc, 0, none⟩)]) [10, 11, 12] (con_tryU gc ua ub (Rnd.v1 key now) (false) 3) rfl rfl ⟨zf _, zf _, trivial⟩ d9 (sX rfl) (fin_c (List.mem_append_left _ (List.mem_cons_self)) (fin_c (List.mem_append_right _ (List.mem_cons_self)) (fin_c (List.mem_append_right _ (List.mem_cons_of_mem _ (List.mem_cons_self))) fin_nil))) rfl) ?_ zI
    rintro _ ⟨⟨⟩, rfl⟩
    exact zV (yZ rfl (⟨⟨_, rfl, (sT rfl)⟩, [0, 1, 2, 3, 4, 5, 6, 7, 8, 9, 10], by decide, ⟨la rfl, ⟨la rfl, ⟨la rfl, ⟨la rfl, ⟨la rfl, ⟨lR rfl, ⟨lR rfl, ⟨lR rfl, ⟨lR rfl, ⟨lR rfl, ⟨⟨_, rfl, ⟨zC (by unfold Rnd.v2; rw [show decide (s.ck ≤ now ∧ Rnd.has s r) = false by (apply decide_eq_false; intro h; exact h2 h.1)]), trivial⟩⟩, trivial⟩⟩⟩⟩⟩⟩⟩⟩⟩⟩⟩⟩))
  ·rintro _ rfl
   refine zc (zh (zK (Zt (gr := gr) (s := s) t.1 (t.2)) [4, 5, 6, 7, 8, 9] d9 (sX rfl) ?_))
   rintro _ ⟨Fr, rfl⟩
   refine zO (σ' := zR [(4, pA g4), (5, pA g5), (6, pA g6), (7, pA g7), (9, isD (.func (.func 116) #[] #[.pointer (some ⟨gc, 0, none⟩)])), (10, isD (.func (.func 117) #[] #[.pointer (some ⟨gc, 0, none⟩)]))] [.c g4 [pA gr], .c g5 [iD r], .c g6 [bD key], .c g7 [iD now], .c gc [iD (Rnd.v2 s r key now)], .r Fr (Zu gr s)]) (sB [0, 1, 2, 3, 4, 5] rfl rfl) (zb (za rfl (zd rfl) (za rfl (y9 [.pointer (some ⟨g4, 0, none⟩), .pointer (some ⟨g5, 0, none⟩), .pointer (some ⟨g7, 0, none⟩)] rfl) (zk (yw (cap := [.pointer (some ⟨gc, 0, none⟩)]) [4, 0, 1, 2, 3, 5] (con_try4 99 [.pointer (some ⟨g4, 0, none⟩), .pointer (some ⟨g5, 0, none⟩), .pointer (some ⟨g7, 0, none⟩)] gc g4 g5 g6 g7 _ _ _ _ Fr (Zu gr s) (Zu gr s) (Rnd.v2 s r key now) (unE (decide (Rnd.late s r now)) 8) (fun h => con_rev1 gr g4 g5 g6 g7 Fr s r key now hg (Rnd.v2_0.1 h).2.2) (fun _ => rfl)) rfl rfl ⟨zf _, zf _, trivial⟩ d9 (sX rfl) (fun _ h => h) rfl) ?_))))
   rintro _ ⟨F43, rfl⟩
   refine zg (zc (zh (zO (σ' := zR [(4, pA g4), (5, pA g5), (6, pA g6), (7, pA g7), (9, isD (.func (.func 116) #[] #[.pointer (some ⟨gc, 0, none⟩)])), (10, isD (.func (.func 117) #[] #[.pointer (some ⟨gc, 0, none⟩)]))] [.c g4 [pA gr], .c g5 [iD r], .c g6 [bD key], .c g7 [iD now], .c gc [iD (Rnd.v3 s r key now)], .r F43 (Zu gr s)]) (sB [1, 2, 3, 4, 0, 5] rfl rfl) (zb (za rfl (zd rfl) (za rfl (y9 [.pointer (some ⟨g6, 0, none⟩), .pointer (some ⟨g4, 0, none⟩), .pointer (some ⟨g5, 0, none⟩)] rfl) (zk (yw (cap := [.pointer (some ⟨gc, 0, none⟩)]) [4, 0, 1, 2, 3, 5] (con_try4 100 [.pointer (some ⟨g6, 0, none⟩), .pointer (some ⟨g4, 0, none⟩), .pointer (some ⟨g5, 0, none⟩)] gc g4 g5 g6 g7 _ _ _ _ F43 (Zu gr s) (Zu gr s) (Rnd.v3 s r key now) (unE (decide (Env.comB key = (Rnd.winAt s.ws r.toNat).cm)) 10) (fun h => con_rev2 gr g4 g5 g6 g7 F43 s r key now hg (Rnd.v2_0.1 (Rnd.v3_0.1 h).1).2.2 (Rnd.v1_0.1 (Rnd.v2_0.1 (Rnd.v3_0.1 h).1).1).1) (fun _ => rfl)) rfl rfl ⟨zf _, zf _, trivial⟩ d9 (sX rfl) (fun _ h => h) rfl) ?_)))))))
   rintro _ ⟨F46, rfl⟩
   refine zg (zc (zh (zO (σ' := zR [(4, pA g4), (5, pA g5), (6, pA g6), (7, pA g7), (9, isD (.func (.func 116) #[] #[.pointer (some ⟨gc, 0, none⟩)])), (10, isD (.func (.func 117) #[] #[.pointer (some ⟨gc, 0, none⟩)]))] [.c g4 [pA gr], .c g5 [iD r], .c g6 [bD key], .c g7 [iD now], .c gc [iD (Rnd.v4 s r key now)], .r F46 (Zu gr s)]) (sB [1, 2, 3, 4, 0, 5] rfl rfl) (zb (za rfl (zd rfl) (za rfl (y9 [.pointer (some ⟨g7, 0, none⟩), .pointer (some ⟨g5, 0, none⟩), .pointer (some ⟨g6, 0, none⟩), .pointer (some ⟨g4, 0, none⟩)] rfl) (zk (yw (cap := [.pointer (some ⟨gc, 0, none⟩)]) [4, 0, 1, 2, 3, 5] (con_try4 103 [.pointer (some ⟨g7, 0, none⟩), .pointer (some ⟨g5, 0, none⟩), .pointer (some ⟨g6, 0, none⟩), .pointer (some ⟨g4, 0, none⟩)] gc g4 g5 g6 g7 _ _ _ _ F46 (Zu gr s) (Zu gr (Rnd.q4 s r key now)) (Rnd.v4 s r key now) (yI s.en 2 (Rnd.revP r key now)) (fun h => by rw [show Rnd.q4 s r key now = s.app 2 (Rnd.revP r key now) from if_pos h]; exact con_rev3 gr g4 g5 g6 g7 F46 s r key now hg (Rnd.v4_ok h).2.1.2 (Rnd.v4_ok h).1.1 (Rnd.v4_ok h).1.2) (fun h => by rw [show Rnd.q4 s r key now = s from if_neg h])) rfl rfl ⟨zf _, zf _, trivial⟩ d9 (sX rfl) (fun _ h => h) rfl) ?_)))))))
   rintro _ ⟨F49, rfl⟩
   refine zg (zc (zh (zh (zO (σ' := zR [(4, pA g4), (5, pA g5), (6, pA g6), (7, pA g7), (9, isD (.func (.func 116) #[] #[.pointer (some ⟨gc, 0, none⟩)])), (10, isD (.func (.func 117) #[] #[.pointer (some ⟨gc, 0, none⟩)]))] [.c g4 [pA gr], .c g5 [iD r], .c g6 [bD key], .c g7 [iD now], .c gc [iD (Rnd.v5 s r key now)], .r F49 (Zu gr (Rnd.q4 s r key now))]) (sB [1, 2, 3, 4, 0, 5] rfl rfl) (zb (za rfl (zd rfl) (zk (yw (cap := [.pointer (some ⟨gc, 0, none⟩)]) [4] (con_steps2 gc (Rnd.v5 s r key now)) rfl rfl ⟨zf _, trivial⟩ d9 ⟨la rfl, trivial⟩ (fun _ h => h) rfl) ?_)))))))
   rintro _ ⟨⟨⟩, rfl⟩
   refine za rfl (yd rfl rfl) (zg (zc (zJ rfl (fun hb52 => ?_) (fun hb52 => ?_))))
   ·have h52 : Rnd.v5 s r key now ≠ 0 := by simpa using hb52
    refine zh (zb (za rfl (zd rfl) (zk (yw (cap := [.pointer (some ⟨gc, 0, none⟩)]) [5] (con_steps2 gc (Rnd.v5 s r key now)) rfl rfl ⟨zf _, trivial⟩ d9 ⟨la rfl, trivial⟩ (fun _ h => h) rfl) ?_)))
    rintro _ ⟨⟨⟩, rfl⟩
    refine za rfl (ze rfl) (zg (zc (zS (fn := Tryz.f39) (F49) [4] (fun _ _ h => h) (Rs.le (Rs.one rfl (zo rfl)) ?_) d9 ⟨⟨_, rfl, (by rw [← Rnd.rev_no hg h52]; exact yp _)⟩, trivial⟩)))
    exact zC (by rw [Rnd.revE_v5 hg])
   ·have h52 : Rnd.v5 s r key now = 0 := (by simpa using hb52); obtain ⟨h5, hs5, hsub⟩ := Rnd.rev_yes hg h52; obtain ⟨⟨k1, k2⟩, ⟨k3, k4⟩, k5, k6⟩ := Rnd.v4_ok h5; have hkl2 : r.toNat < s.ks.length := (by have := hg.kl; have := k4.2; have := k4.1; omega)
    refine zu (zc (zh (zO (σ' := zR [(4, pA g4), (5, pA g5), (6, pA g6), (7, pA g7)] [.c g4 [pA gr], .c g5 [iD r], .c g6 [bD key], .c g7 [iD now], .r F49 (Zu gr ({ s with en := s.en ++ [⟨2, Rnd.revP r key now⟩] } : Rnd.S))]) (⟨⟨_, rfl, (sT rfl)⟩, [0, 1, 2, 3, 4], by decide, ⟨la rfl, ⟨la rfl, ⟨la rfl, ⟨la rfl, ⟨⟨_, rfl, (by rw [hs5]; exact yp _)⟩, trivial⟩⟩⟩⟩⟩⟩) (zK (ZJ (gr := gr) (s := ({ s with en := s.en ++ [⟨2, Rnd.revP r key now⟩] } : Rnd.S))) [4] d9 ⟨lR rfl, trivial⟩ ?_))))
    rintro _ ⟨t, rfl⟩
    refine yj (t.1.Fk ++ []) (.r 0 (.r 1 (.r 2 (.r 3 (.r 4 (.r 5 (.n 6 (.e 7 .fin .no) .no))))))) k9 k9 (fun d _ _ _ _ h => by cases d <;> exact h) (zj rfl rfl (zl 0 rfl rfl rfl k9 (yl 9 rfl d9 zp)) (zj rfl rfl (zw rfl) (zj rfl rfl (zi (n := 5) rfl k9) (zj rfl rfl (zl 4 rfl rfl rfl k9 (yl 9 rfl d9 zp)) (zj rfl rfl (zl 1 rfl rfl rfl k9 (yl 9 rfl d9 zp)) (zj rfl rfl (zl 2 rfl rfl rfl k9 (yl 9 rfl d9 zp)) (yi rfl (zA [] (con_cloneB key o9) rfl ⟨(zr (zf _)), trivial⟩ rfl) ?_ zI)))))))
    rintro _ rfl
    refine zZ rfl (Ef.mapSetQ (kt := 3) (et := 24) (K' := (Rnd.rks (s.ks.set r.toNat key))) (f' := (kyD (s.ks.set r.toNat key))) 9 rfl rfl rfl (show Le (iD r) (isD (encZ r)) from zf _) rfl (by rw [kyD_self hkl2]; exact zf _) (fun q => Rnd.rks_set k4.1 hkl2 (by intro h; rw [h] at k1; cases k1) q) (fun q hq hne => by rw [kyD_ne (by have := (Rnd.mem_rks.1 hq).1; have := k4.1; omega)]; exact zf _) k9 (keyZ _) (fun _ h => List.mem_append_left _ h)) ?_ zI
    rintro _ rfl
    refine zV (zc (zh (zO (σ' := zR [(4, pA g4), (5, pA g5), (6, pA g6), (7, pA g7)] [.c g4 [pA gr], .c g5 [iD r], .c g6 [bD key], .c g7 [iD now], .c gr [pA t.1.gb, lsD encW ({ s with en := s.en ++ [⟨2, Rnd.revP r key now⟩] } : Rnd.S).ws, iD ({ s with en := s.en ++ [⟨2, Rnd.revP r key now⟩] } : Rnd.S).ck, pA t.1.gl, isD (.slice t.1.A t.1.Ms.length t.1.c), isD (.map (some t.1.gk))], .r t.1.Fb (bkP t.1.gb ({ s with en := s.en ++ [⟨2, Rnd.revP r key now⟩] } : Rnd.S).bk), .r t.1.Fl (ldP t.1.gl ({ s with en := s.en ++ [⟨2, Rnd.revP r key now⟩] } : Rnd.S).en), .r t.1.Fv (yb 133 1 encM t.1.A t.1.c t.1.Ms), .r t.1.Fm (rowR (mps ({ s with en := s.en ++ [⟨2, Rnd.revP r key now⟩] } : Rnd.S).es t.1.Ms)), .r t.1.Fk (zX (some t.1.gk) encZ (Rnd.rks (s.ks.set r.toNat key)) (kyD (s.ks.set r.toNat key)))]) (sB [0, 1, 2, 3, 4, 5, 6, 7, 8, 9] rfl rfl) (zb (za rfl (zl 0 rfl rfl rfl k9 zp) (za rfl (zl 3 rfl rfl rfl k9 zp) (za rfl (zw rfl) (za rfl (zi (n := 2) rfl k9) (zk (S := [_]) (yr 4 rfl rfl rfl k9 rfl (List.mem_singleton.2 rfl)) ?_)))))))))
    rintro _ rfl
    refine zg (zc (zh (zb (za rfl (ze rfl) (zg (zc (zK (Zt (gr := gr) (s := ({ s with ks := s.ks.set r.toNat key, ck := now, en := s.en ++ [⟨2, Rnd.revP r key now⟩] } : Rnd.S)) { t.1 with Fk := t.1.Fk } (t.2)) [4, 5, 6, 7, 8, 9] d9 (sX rfl) ?_)))))))
    rintro _ ⟨Fr2, rfl⟩
    refine zS (fn := Tryz.f39) (Fr2) [4] (fun _ _ h => h) (Rs.le (Rs.one rfl (zo rfl)) ?_) d9 ⟨⟨_, rfl, (by rw [hsub]; exact yp _)⟩, trivial⟩
    exact zC (by rw [Rnd.revE_v5 hg, h52])
end Sx
end Go.Proofs.YtgokpcnabgacnaaGreatDoor
namespace Go.Proofs.YtgokpcnabgacnaaGreatDoor
open Go.RowKit
namespace Sx
theorem con_clock (gr : Nat) (F : List Nat) (s : Rnd.S)  : ConR Tryz.prog 15 [.r F (Zu gr s)] [pA gr] (fun F' : List Nat => [.r F' (Zu gr s)]) (fun F' : List Nat => iD s.ck) := by
 refine zY Tryz.func15 k9 rfl k9 fun base w0 => (zh (zK (ZJ (gr := gr) (s := s)) [0] d9 ⟨lR rfl, trivial⟩ ?_))
 rintro _ ⟨t, rfl⟩
 refine zb (za rfl (ze rfl) (zg (zc (zh (zh (zb (za rfl (zd rfl) (zk (S := []) (zA [0, 5] (con_none _ _ s.ws s.ck _ _ _ s.ks) rfl ⟨(yL 0 rfl d9 ⟨(zr (zf _)), (zr (zf _)), (zr (zf _)), (zr (zf _)), (zr (zf _)), (yx 5 rfl d9), trivial⟩), trivial⟩ rfl) ?_))))))))
 rintro _ rfl
 refine zg (zc (zE rfl (rfl) (zu (zc (zh (zb (za rfl (zd rfl) (za rfl (zw rfl) (za rfl (zi (n := 2) rfl k9) (za rfl (zl 0 rfl rfl rfl k9 zp) (za rfl (ze rfl) (zg (zc (zK (Zt (gr := gr) (s := s) t.1 (t.2)) [0, 1, 2, 3, 4, 5] d9 (sX rfl) ?_))))))))))))))
 rintro _ ⟨Fr, rfl⟩
 refine zS (fn := Tryz.f15) (Fr) [0] (fun _ _ h => h) (Rs.le (Rs.one rfl (zo rfl)) ?_) d9 ⟨lR rfl, trivial⟩
 exact zf _
theorem con_stateR (gr : Nat) (F : List Nat) (s : Rnd.S) (r now : Int) : ConR Tryz.prog 16 [.r F (Zu gr s)] [pA gr, iD r, iD now] (fun F' : List Nat => [.r F' (Zu gr s)]) (fun F' : List Nat => Yq [iD (Rnd.atS s r now), iD (Rnd.atE s r now)]) := by
 refine zY Tryz.func16 k9 rfl k9 fun base w0 => (zh (zK (ZJ (gr := gr) (s := s)) [0] d9 ⟨lR rfl, trivial⟩ ?_))
 rintro _ ⟨t, rfl⟩
 refine zb (za rfl (ze rfl) (za rfl (ze rfl) (zg (zc (zh (zh (zb (za rfl (zd rfl) (zk (S := []) (zA [0, 5] (con_none _ _ s.ws s.ck _ _ _ s.ks) rfl ⟨(yL 0 rfl d9 ⟨(zr (zf _)), (zr (zf _)), (zr (zf _)), (zr (zf _)), (zr (zf _)), (yx 5 rfl d9), trivial⟩), trivial⟩ rfl) ?_)))))))))
 rintro _ rfl
 refine zg (zc (zE rfl (rfl) (zu (zc (zh (zh (zb (za rfl (zd rfl) (zk (S := []) (zA [] (con_validT now) rfl ⟨(zr (zf _)), trivial⟩ rfl) ?_)))))))))
 rintro _ rfl
 refine za rfl (yU rfl) (zg (zc (zJ rfl (fun hb12 => ?_) (fun hb12 => ?_))))
 ·have h12 : ¬ Rnd.time now := by simpa using hb12
  refine zh (zb (za rfl (ze rfl) (za rfl (ze rfl) (zg (zc (zK (Zt (gr := gr) (s := s) t.1 (t.2)) [0, 1, 2, 3, 4, 5] d9 (sX rfl) ?_))))))
  rintro _ ⟨Fr, rfl⟩
  refine zS (fn := Tryz.f16) (Fr) [0] (fun _ _ h => h) (Rs.le (Rs.two rfl (zo rfl) (zo rfl)) ?_) d9 ⟨lR rfl, trivial⟩
  exact yJ ⟨zC (by rw [Rnd.atS, if_neg]; rw [Rnd.atE, if_pos h12]; decide), zC (by rw [Rnd.atE, if_pos h12]), trivial⟩
 ·have h12 : Rnd.time now := by simpa using hb12
  refine zu (zc (zh (zh (zb (za rfl (zd rfl) (za rfl (zd rfl) (zk (S := []) (zA [0, 5] (con_has _ _ s.ws s.ck _ _ _ s.ks r) rfl ⟨(yL 0 rfl d9 ⟨(zr (zf _)), (zr (zf _)), (zr (zf _)), (zr (zf _)), (zr (zf _)), (yx 5 rfl d9), trivial⟩), (zr (zf _)), trivial⟩ rfl) ?_)))))))
  rintro _ rfl
  refine za rfl (yU rfl) (zg (zc (zJ rfl (fun hb16 => ?_) (fun hb16 => ?_))))
  ·have h16 : ¬ Rnd.has s r := (by have h : (!decide (Rnd.has s r)) = true := hb16; simpa using h)
   refine zh (zb (za rfl (ze rfl) (za rfl (ze rfl) (zg (zc (zK (Zt (gr := gr) (s := s) t.1 (t.2)) [0, 1, 2, 3, 4, 5] d9 (sX rfl) ?_))))))
   rintro _ ⟨Fr, rfl⟩
   refine zS (fn := Tryz.f16) (Fr) [0] (fun _ _ h => h) (Rs.le (Rs.two rfl (zo rfl) (zo rfl)) ?_) d9 ⟨lR rfl, trivial⟩
   exact yJ ⟨zC (by rw [Rnd.atS, if_neg]; rw [Rnd.atE, if_neg (by simpa using h12), if_pos h16]; decide), zC (by rw [Rnd.atE, if_neg (by simpa using h12), if_pos h16]), trivial⟩
  ·have h16 : Rnd.has s r := (by have h : (!decide (Rnd.has s r)) = false := hb16; simpa using h); obtain ⟨w, hw⟩ : ∃ w, s.ws[r.toNat]? = some w := ⟨_, List.getElem?_eq_getElem (by have := h16.2; have := h16.1; omega)⟩
   refine zu (zc (zh (zb (za rfl (zd rfl) (za rfl (zd rfl) (za rfl (zd rfl) (zk (S := []) (zA [0, 5] (con_state _ _ s.ws s.ck _ _ _ s.ks r now w h16.1 hw) rfl ⟨(yL 0 rfl d9 ⟨(zr (zf _)), (zr (zf _)), (zr (zf _)), (zr (zf _)), (zr (zf _)), (yx 5 rfl d9), trivial⟩), (zr (zf _)), (zr (zf _)), trivial⟩ rfl) ?_)))))))
   rintro _ rfl
   refine za rfl (ze rfl) (za rfl (ze rfl) (zg (zc (zK (Zt (gr := gr) (s := s) t.1 (t.2)) [0, 1, 2, 3, 4, 5] d9 (sX rfl) ?_))))
   rintro _ ⟨Fr, rfl⟩
   refine zS (fn := Tryz.f16) (Fr) [0] (fun _ _ h => h) (Rs.le (Rs.two rfl (zo rfl) (zo rfl)) ?_) d9 ⟨lR rfl, trivial⟩
   have ha : Rnd.atE s r now = 0 := by rw [Rnd.atE, if_neg (by simpa using h12), if_neg (by simpa using h16)]
   exact yJ ⟨zC (by rw [Rnd.atS, if_pos ha, Rnd.st, Rnd.winAt_some hw]), zC (by rw [ha]), trivial⟩
theorem con_ledgerR (gr : Nat) (F : List Nat) (s : Rnd.S) (hg : Rnd.Good s) : ConR Tryz.prog 41 [.r F (Zu gr s)] [pA gr] (fun q : List Nat × Nat × List Nat => [.r q.1 (Zu gr s), .r q.2.2 (ldP q.2.1 s.en)]) (fun q : List Nat × Nat × List Nat => pA q.2.1) := by
 have hnl := hg.len
 refine zY Tryz.func41 k9 rfl k9 fun base w0 => (zh (zK (ZJ (gr := gr) (s := s)) [0] d9 ⟨lR rfl, trivial⟩ ?_))
 rintro _ ⟨t, rfl⟩
 refine zb (za rfl (ze rfl) (zg (zc (zh (zh (zb (za rfl (zd rfl) (zk (S := []) (zA [0, 5] (con_none _ _ s.ws s.ck _ _ _ s.ks) rfl ⟨(yL 0 rfl d9 ⟨(zr (zf _)), (zr (zf _)), (zr (zf _)), (zr (zf _)), (zr (zf _)), (yx 5 rfl d9), trivial⟩), trivial⟩ rfl) ?_))))))))
 rintro _ rfl
 refine zg (zc (zE rfl (rfl) (zu (zc (zh (zb (za rfl (zd rfl) (za rfl (zw rfl) (za rfl (zi (n := 3) rfl k9) (za rfl (zl 0 rfl rfl rfl k9 zp) (zk (zB [2] (con_copyLP o9) rfl ⟨zf _, trivial⟩ d9 ⟨lR rfl, trivial⟩ (fun _ h => h) rfl) ?_)))))))))))
 rintro _ ⟨⟨F9, g9, G9⟩, rfl⟩
 refine za rfl (ze rfl) (zg (zc (zK (Zt (gr := gr) (s := s) { t.1 with Fl := F9 } (t.2)) [0, 1, 5, 2, 3, 4] d9 (sX rfl) ?_)))
 rintro _ ⟨Fr, rfl⟩
 refine zS (fn := Tryz.f41) ((Fr, g9, G9)) [1, 0] (fun _ _ h => h) (Rs.le (Rs.one rfl (zo rfl)) ?_) d9 (sX rfl)
 exact zf _
end Sx
end Go.Proofs.YtgokpcnabgacnaaGreatDoor
