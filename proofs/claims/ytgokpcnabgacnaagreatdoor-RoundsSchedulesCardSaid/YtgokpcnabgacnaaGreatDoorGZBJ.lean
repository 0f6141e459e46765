/- ROUNDS: RoundsSchedules. -/
import Derived.Test.YtgokpcnabgacnaaGreatDoorGZBI
set_option maxHeartbeats 8000000
set_option maxRecDepth 100000
namespace Go.Proofs.YtgokpcnabgacnaaGreatDoor
open Go.RowKit
namespace Sx
def manyW (i : Nat) : Rnd.Win := ⟨(i : Int), ((i + 1 : Nat) : Int), ((i + 1 : Nat) : Int), List.replicate 32 0⟩
def manyL (n : Nat) : List Rnd.Win := (List.range n).map manyW
theorem manyL_succ (n : Nat) : manyL (n + 1) = manyL n ++ [manyW n] := by unfold manyL; rw [List.range_succ, List.map_append]; rfl
theorem manyL_len (n : Nat) : (manyL n).length = n := by unfold manyL; simp
theorem blsW1c {a b c : Int} {m : List UInt8} : Bls Tryz.prog 22 1 [0] [yX [iD a, iD b, iD c, bD m]] ([(⟨a, b, c, m⟩ : Rnd.Win)].flatMap Zs) := blsW1 (x := ⟨a, b, c, m⟩)
theorem roundsSchedules_con (l : List Rnd.Win) (many r now : Int) (hll : l.length ≤ 9223372036854775807) : ConN Tryz.prog 3 [lsD Zs l, iD many, iD r, iD now] (yY true) := by
 refine yE Tryz.func3 k9 rfl k9 fun base w0 => (zh (zb (za rfl (ze rfl) (zg (zc (zh (zh (zb (za rfl (zd rfl) (za rfl (yV (e := 26) rfl k9) (za rfl (ZZ rfl rfl) (zg (zc (zJ rfl (fun hb23 => ?_) (fun hb23 => ?_)))))))))))))))
 ·skip
  refine zh (zb (zk (S := []) (zA [] (ZS) rfl trivial rfl) ?_))
  rintro _ rfl
  refine za rfl (ze rfl) (zg (zc (zH (fn := Tryz.f3) (fun _ _ h => h) (Rs.le (Rs.one rfl (zo rfl)) ?_))))
  exact zP rfl
 ·have h23 : l.length ≤ 10 := by (have h := of_decide_eq_false hb23; omega)
  refine zu (zc (zh (zh (zb (za rfl (ze rfl) (zg (zc (zW (Zq (ι := {i : Nat // i ≤ l.length}) (fun i => zR [(0, lsD Zs l), (1, iD many), (2, iD r), (3, iD now), (9, iD (i.1 : Int))] []) (fun i => l.length - i.1) (⟨0, Nat.zero_le _⟩) ?_ ?_)))))))))
  ·exact (sB [] rfl rfl)
  ·rintro ⟨i, hi⟩ K0 hK0
   dsimp only at hi ⊢
   refine zh (zh (zb (za rfl (zd rfl) (za rfl (zd rfl) (za rfl (yV (e := 26) rfl k9) (za rfl (yG rfl rfl) (zg (zc (zJ rfl (fun hb28 => ?_) (fun hb28 => ?_))))))))))
   ·have h28 : (i : Int) < (l.length : Int) := of_decide_eq_true hb28
    refine zu (zc (zh (zW (zh ?_))))
    obtain ⟨x, hx⟩ : ∃ x, l[i]? = some x := ⟨_, List.getElem?_eq_getElem o9⟩
    refine zb (za rfl (zd rfl) (za rfl (zd rfl) (za rfl (yK (e := 26) 4 rfl rfl k9 k9 o9 (by simpa using hx)) (za rfl (yv (n := 3) rfl k9 (show 3 < 4 by decide)) (za rfl (ym rfl rfl k9 s9) (za rfl (Rd.len (e := 5) rfl k9) (za rfl (ZZ rfl rfl) (zg (zc (zJ rfl (fun hb37 => ?_) (fun hb37 => ?_)))))))))))
    ·skip
     refine zh (zb (zk (S := []) (zA [] (ZS) rfl trivial rfl) ?_))
     rintro _ rfl
     refine za rfl (ze rfl) (zg (zc (zH (fn := Tryz.f3) (fun _ _ h => h) (Rs.le (Rs.one rfl (zo rfl)) ?_))))
     exact zP rfl
    ·skip
     exact zu (ye (zc (zb (za rfl (zd rfl) (za rfl (yM rfl rfl ⟨by omega, by omega⟩) (za rfl (ze rfl) (zg (fun a w hh => hK0 (⟨i + 1, by omega⟩) (by dsimp only; omega) a w (hh.sub (⟨⟨_, rfl, ⟨lq rfl, ⟨lq rfl, ⟨lq rfl, ⟨lq rfl, ⟨⟨_, rfl, zC s9⟩, trivial⟩⟩⟩⟩⟩⟩, [], by decide, trivial⟩))))))))))
   ·have h28 : ¬ (i : Int) < (l.length : Int) := of_decide_eq_false hb28
    refine yW ?_
    repeat (first | refine Zi ?_ | refine Zj d9 ?_)
    refine Zk (zc (zh (zh (zO (σ' := zR [(0, lsD Zs l), (1, iD many), (2, iD r), (3, iD now)] []) (sB [] rfl rfl) (zb (za rfl (zd rfl) (za rfl (ZL rfl rfl) (za rfl (zd rfl) (zU 41 rfl (fun hb41 => ?_) (fun hb41 => ?_))))))))))
    ·have h41 : many ≥ 495 := of_decide_eq_true hb41
     refine zm rfl rfl (hb41) rfl rfl (zd rfl) (zm rfl rfl (hb41) rfl rfl (Rd.leq rfl rfl) (za rfl (zz rfl (hb41) rfl) (zg (zc (zJ rfl (fun hb44 => ?_) (fun hb44 => ?_))))))
     ·have h44 : many ≤ 505 := of_decide_eq_true hb44
      refine zh (zb (za rfl (ze rfl) (zg (zc (zh (SW.vecN 26 4 Zs (zb (za rfl (ze rfl) (zg (zc (zW (Zq (ι := {p : Nat × Ust // p.1 ≤ many.toNat}) (fun p => zR [(0, isD (.slice p.1.2.A (manyL p.1.1).length p.1.2.c)), (1, iD many), (2, iD r), (3, iD now), (10, iD (p.1.1 : Int))] [.r p.1.2.F (yb 26 4 Zs p.1.2.A p.1.2.c (manyL p.1.1))]) (fun p => many.toNat - p.1.1) (⟨(0, ⟨none, 0, []⟩), Nat.zero_le _⟩) ?_ ?_))))))))))))
      ·exact (sB [0] rfl rfl)
      ·rintro ⟨⟨k, u⟩, hk⟩ K1 hK1
       dsimp only at hk ⊢
       refine zh (zh (zb (za rfl (zd rfl) (za rfl (zd rfl) (za rfl (yG rfl rfl) (zg (zc (zJ rfl (fun hb47 => ?_) (fun hb47 => ?_)))))))))
       ·have h47 : (k : Int) < many := of_decide_eq_true hb47
        refine zu (zc (zh (zW (zb (za rfl (zd rfl) (za rfl (zd rfl) (za rfl (zd rfl) (za rfl (yM rfl rfl ⟨by omega, by omega⟩) (za rfl (zd rfl) (za rfl (yM rfl rfl ⟨by omega, by omega⟩) (zk (S := []) (yo (Z9 0 32 d9) rfl ⟨zf _, zf _, trivial⟩ rfl) ?_)))))))))))
        rintro _ rfl
        refine za rfl (yh rfl rfl bldW4) (zk (S := []) (Zl rfl rfl blsW1c rfl) ?_)
        rintro _ rfl
        refine zk (Za 0 4 48 rfl rfl (SrcT.ls (l := [(⟨(k : Int), (k : Int) + 1, (k : Int) + 1, List.replicate 32 0⟩ : Rnd.Win)]) rfl) k9 k9 (by rw [manyL_len]; simp; omega) d9 (fun _ h => h) rfl) ?_
        rintro _ ⟨A59, F59, c59, rfl⟩
        exact za rfl (ze rfl) (zg (ye (zc (zb (za rfl (zd rfl) (za rfl (yM rfl rfl ⟨by omega, by omega⟩) (za rfl (ze rfl) (zg (fun a w hh => hK1 (⟨(k + 1, ⟨A59, c59, F59⟩), by dsimp only; omega⟩) (by dsimp only; omega) a w (hh.sub (⟨⟨_, rfl, ⟨⟨_, rfl, zC (by rw [manyL_succ]; simp)⟩, ⟨lq rfl, ⟨lq rfl, ⟨lq rfl, ⟨⟨_, rfl, zC s9⟩, trivial⟩⟩⟩⟩⟩⟩, [0], by decide, ⟨⟨_, rfl, ZN (by rw [manyL_succ]; rfl) (by rw [manyL_succ]; rfl)⟩, trivial⟩⟩)))))))))))
       ·have h47 : ¬ (k : Int) < many := of_decide_eq_false hb47
        refine yW ?_
        repeat (first | refine Zi ?_ | refine Zj d9 ?_)
        refine Zk (zc (zh (SW.freezeT 0 0 rfl rfl (zf _) ?_)))
        obtain ⟨ws, hws⟩ : ∃ ws, ws = manyL k := ⟨_, rfl⟩
        have hwl : ws.length ≤ 1000000 := by rw [hws]; rw [manyL_len]; omega
        refine zO (σ' := zR [(0, lsD Zs ws), (2, iD r), (3, iD now)] []) (⟨⟨_, rfl, ⟨⟨_, rfl, (by rw [hws]; exact zf _)⟩, (sT rfl)⟩⟩, [], by decide, trivial⟩) (zb (zk (S := []) (zB [] (con_given) rfl trivial d9 trivial (fun _ h => h) rfl) ?_))
        rintro _ ⟨⟨g1, s1⟩, rfl⟩
        refine za rfl (zd rfl) (za rfl (zq rfl rfl) (za rfl (zq rfl rfl) (zk (S := []) (zQ (zs := [.slice none 0 0]) k9 rfl) ?_)))
        rintro _ ⟨g12, rfl⟩
        refine za rfl (ze rfl) (zk (S := [_]) (zF 4 rfl rfl rfl k9 rfl (List.mem_singleton.2 rfl)) ?_)
        rintro _ rfl
        refine zg (zc (zh ?_))
        by_cases hok : Rnd.ok ws
        ·skip
         refine zK (bk_in (gb := g1) (l := hL) s1) [0, 1, 2, 3] d9 (sX rfl) ?_
         rintro _ ⟨Fb, rfl⟩
         refine zb (za rfl (zd rfl) (za rfl (zd rfl) (zk (zB [1] (con_new g1 hL Fb ws hFine hok) rfl ⟨zf _, zf _, trivial⟩ d9 ⟨lR rfl, trivial⟩ (fun _ h => h) rfl) ?_)))
         rintro _ ⟨⟨F67, gr, G67⟩, rfl⟩
         refine za rfl (zd rfl) (za rfl (zq rfl rfl) (za rfl (zq rfl rfl) (za rfl (ze rfl) (za rfl (ze rfl) (zg (zc (zh (zO (σ' := zR [(0, lsD Zs ws), (2, iD r), (3, iD now), (12, pA g12), (13, pA gr), (14, iD 0)] [.c g12 [lsD Yk hL], .r G67 (Zu gr (Rnd.start hL ws))]) (sB [0, 2] rfl rfl) (zb (za rfl (zG 0 1 rfl rfl k9 rfl zp) (za rfl (zd rfl) (zk (S := []) (zB [] (con_New44 hL ws hwl) rfl ⟨zf _, zf _, trivial⟩ d9 trivial (fun _ h => h) rfl) ?_))))))))))))
         rintro _ ⟨⟨⟩, rfl⟩
         refine za rfl (zd rfl) (za rfl (zq rfl rfl) (za rfl (zq rfl rfl) (zk (S := []) (zQ (zs := [.slice none 0 0, .slice none 0 0, .slice none 0 0, .slice none 0 0, .int .i64 0, .slice none 0 0]) k9 rfl) ?_)))
         rintro _ ⟨g15, rfl⟩
         refine zk (S := [_]) (zF 2 rfl rfl rfl k9 rfl (List.mem_singleton.2 rfl)) ?_
         rintro _ rfl
         refine za rfl (ze rfl) (zg (zc (zh (zh (zO (σ' := zR [(0, lsD Zs ws), (2, iD r), (3, iD now), (13, pA gr), (14, iD 0), (15, pA g15), (16, iD 0)] [.c g15 [lsD Yk (Rnd.start hL ws).bk, lsD Zs (Rnd.start hL ws).ws, lsD Yj (Rnd.start hL ws).es, lsD encKy (Rnd.start hL ws).ks, iD (Rnd.start hL ws).ck, lsD encE (Rnd.start hL ws).en], .r G67 (Zu gr (Rnd.start hL ws))]) (⟨⟨_, rfl, ⟨lq rfl, ⟨lq rfl, ⟨lq rfl, ⟨lq rfl, ⟨lq rfl, ⟨lq rfl, ⟨⟨_, rfl, zC (by rw [show Rnd.newE ws = 0 from if_pos hok])⟩, trivial⟩⟩⟩⟩⟩⟩⟩⟩, [2, 1], by decide, ⟨⟨_, rfl, (by rw [show Rnd.newS hL ws = Rnd.start hL ws from if_pos hok]; exact yC _)⟩, ⟨lR rfl, trivial⟩⟩⟩) (zb (za rfl (zd rfl) (za rfl (yd rfl rfl) (zg (zc (zE rfl d9 (zu (zc (zh (zh (zb (za rfl (zd rfl) (za rfl (Z0 rfl rfl k9) (za rfl (zd rfl) (zm rfl rfl (rfl) rfl rfl (zd rfl) (zm rfl rfl (rfl) rfl rfl (yd rfl rfl) (za rfl (zy rfl (rfl) rfl) (za rfl (zd rfl) (zm rfl rfl d9 rfl rfl (zd rfl) (yA rfl rfl d9 rfl (zB [1] (con_lenRd gr G67 (Rnd.start hL ws)) rfl ⟨zf _, trivial⟩ d9 ⟨lR rfl, trivial⟩ (fun _ h => h) rfl) ?_)))))))))))))))))))))))))
         rintro _ ⟨F96, rfl⟩
         refine zm rfl rfl d9 rfl rfl (zd rfl) (zm rfl rfl d9 rfl rfl (yV (e := 26) rfl k9) (zm rfl rfl d9 rfl rfl (yd rfl rfl) (za rfl (zy rfl d9 rfl) (za rfl (zd rfl) (zm rfl rfl (by simp [Rnd.start]) rfl rfl (zd rfl) (yA rfl rfl (by simp [Rnd.start]) rfl (zB [1] (con_clock gr F96 (Rnd.start hL ws)) rfl ⟨zf _, trivial⟩ d9 ⟨lR rfl, trivial⟩ (fun _ h => h) rfl) ?_))))))
         rintro _ ⟨F103, rfl⟩
         refine zm rfl rfl (by simp [Rnd.start]) rfl rfl (yd rfl rfl) (za rfl (zy rfl (by simp [Rnd.start]) rfl) (zg (zc (zE rfl (by rfl) (zu (zc (zh (zb (za rfl (zd rfl) (za rfl (zd rfl) (za rfl (zd rfl) (zk (zB [1] (con_stateR gr F103 (Rnd.start hL ws) r now) rfl ⟨zf _, zf _, zf _, trivial⟩ d9 ⟨lR rfl, trivial⟩ (fun _ h => h) rfl) ?_))))))))))))
         rintro _ ⟨F110, rfl⟩
         refine za rfl (zd rfl) (za rfl (zq rfl rfl) (za rfl (zq rfl rfl) (za rfl (ze rfl) (za rfl (ze rfl) (zg (zc (zh (zb (za rfl (zG 0 6 rfl rfl k9 rfl zp) (za rfl (zd rfl) (za rfl (zd rfl) (zk (S := []) (yo (con_At44 (Rnd.start hL ws) r now (by simp [Rnd.start])) rfl ⟨zf _, zf _, zf _, trivial⟩ rfl) ?_))))))))))))
         rintro _ rfl
         refine za rfl (zd rfl) (za rfl (zq rfl rfl) (za rfl (zq rfl rfl) (za rfl (ze rfl) (za rfl (ze rfl) (zg (zc (zh (zb (za rfl (zd rfl) (za rfl (zd rfl) (za rfl (yP rfl rfl) (za rfl (zd rfl) (zm rfl rfl s9 rfl rfl (zd rfl) (zm rfl rfl s9 rfl rfl (zd rfl) (zm rfl rfl s9 rfl rfl (yP rfl rfl) (za rfl (zz rfl s9 rfl) (za rfl (zd rfl) (yA (S := []) rfl rfl s9 rfl (zA [] (ZS) rfl trivial rfl) ?_))))))))))))))))))
         rintro _ rfl
         refine za rfl (zz rfl s9 rfl) (za rfl (ze rfl) (zg (zc (zH (fn := Tryz.f3) (fun _ _ h => h) (Rs.le (Rs.one rfl (zo rfl)) ?_)))))
         exact zP rfl
        ·skip
         refine zK (bk_in (gb := g1) (l := hL) s1) [0, 1, 2, 3] d9 (sX rfl) ?_
         rintro _ ⟨Fb, rfl⟩
         refine zb (za rfl (zd rfl) (za rfl (zd rfl) (zk (S := []) (yo (con_new_bad _ ws hwl hok) rfl ⟨zf _, zf _, trivial⟩ rfl) ?_)))
         rintro _ rfl
         refine za rfl (zd rfl) (za rfl (zq rfl rfl) (za rfl (zq rfl rfl) (za rfl (ze rfl) (za rfl (ze rfl) (zg (zc (zh (zO (σ' := zR [(0, lsD Zs ws), (2, iD r), (3, iD now), (12, pA g12), (13, isD (.pointer none)), (14, iD 2)] [.c g12 [lsD Yk hL]]) (sB [0] rfl rfl) (zb (za rfl (zG 0 1 rfl rfl k9 rfl zp) (za rfl (zd rfl) (zk (S := []) (zB [] (con_New44 hL ws hwl) rfl ⟨zf _, zf _, trivial⟩ d9 trivial (fun _ h => h) rfl) ?_))))))))))))
         rintro _ ⟨⟨⟩, rfl⟩
         refine za rfl (zd rfl) (za rfl (zq rfl rfl) (za rfl (zq rfl rfl) (zk (S := []) (zQ (zs := [.slice none 0 0, .slice none 0 0, .slice none 0 0, .slice none 0 0, .int .i64 0, .slice none 0 0]) k9 rfl) ?_)))
         rintro _ ⟨g15, rfl⟩
         refine zk (S := [_]) (zF 1 rfl rfl rfl k9 rfl (List.mem_singleton.2 rfl)) ?_
         rintro _ rfl
         refine za rfl (ze rfl) (zg (zc (zh (zh (zO (σ' := zR [(13, isD (.pointer none)), (14, iD 2), (16, iD 2)] []) (⟨⟨_, rfl, ⟨lq rfl, ⟨lq rfl, ⟨⟨_, rfl, zC (by rw [show Rnd.newE ws = 2 from if_neg hok])⟩, trivial⟩⟩⟩⟩, [], by decide, trivial⟩) (zb (za rfl (zd rfl) (za rfl (yd rfl rfl) (zg (zc (yf rfl d9 (zh (zb (za rfl (zd rfl) (za rfl (Z0 rfl rfl k9) (za rfl (zd rfl) (zm rfl rfl (rfl) rfl rfl (zd rfl) (zm rfl rfl (rfl) rfl rfl (zd rfl) (zm rfl rfl (rfl) rfl rfl (yP rfl rfl) (za rfl (zz rfl (rfl) rfl) (za rfl (zd rfl) (yA (S := []) rfl rfl d9 rfl (zA [] (ZS) rfl trivial rfl) ?_))))))))))))))))))))))
         rintro _ rfl
         refine za rfl (zz rfl d9 rfl) (za rfl (ze rfl) (zg (zc (zH (fn := Tryz.f3) (fun _ _ h => h) (Rs.le (Rs.one rfl (zo rfl)) ?_)))))
         exact zP rfl
     ·have h44 : ¬ many ≤ 505 := of_decide_eq_false hb44
      refine zu (zc (zh ?_))
      obtain ⟨ws, hws⟩ : ∃ ws, ws = l := ⟨_, rfl⟩
      have hwl : ws.length ≤ 1000000 := by rw [hws]; omega
      refine zO (σ' := zR [(0, lsD Zs ws), (2, iD r), (3, iD now)] []) (⟨⟨_, rfl, ⟨⟨_, rfl, (by rw [hws]; exact zf _)⟩, (sT rfl)⟩⟩, [], by decide, trivial⟩) (zb (zk (S := []) (zB [] (con_given) rfl trivial d9 trivial (fun _ h => h) rfl) ?_))
      rintro _ ⟨⟨g1, s1⟩, rfl⟩
      refine za rfl (zd rfl) (za rfl (zq rfl rfl) (za rfl (zq rfl rfl) (zk (S := []) (zQ (zs := [.slice none 0 0]) k9 rfl) ?_)))
      rintro _ ⟨g12, rfl⟩
      refine za rfl (ze rfl) (zk (S := [_]) (zF 4 rfl rfl rfl k9 rfl (List.mem_singleton.2 rfl)) ?_)
      rintro _ rfl
      refine zg (zc (zh ?_))
      by_cases hok : Rnd.ok ws
      ·skip
       refine zK (bk_in (gb := g1) (l := hL) s1) [0, 1, 2, 3] d9 (sX rfl) ?_
       rintro _ ⟨Fb, rfl⟩
       refine zb (za rfl (zd rfl) (za rfl (zd rfl) (zk (zB [1] (con_new g1 hL Fb ws hFine hok) rfl ⟨zf _, zf _, trivial⟩ d9 ⟨lR rfl, trivial⟩ (fun _ h => h) rfl) ?_)))
       rintro _ ⟨⟨F67, gr, G67⟩, rfl⟩
       refine za rfl (zd rfl) (za rfl (zq rfl rfl) (za rfl (zq rfl rfl) (za rfl (ze rfl) (za rfl (ze rfl) (zg (zc (zh (zO (σ' := zR [(0, lsD Zs ws), (2, iD r), (3, iD now), (12, pA g12), (13, pA gr), (14, iD 0)] [.c g12 [lsD Yk hL], .r G67 (Zu gr (Rnd.start hL ws))]) (sB [0, 2] rfl rfl) (zb (za rfl (zG 0 1 rfl rfl k9 rfl zp) (za rfl (zd rfl) (zk (S := []) (zB [] (con_New44 hL ws hwl) rfl ⟨zf _, zf _, trivial⟩ d9 trivial (fun _ h => h) rfl) ?_))))))))))))
       rintro _ ⟨⟨⟩, rfl⟩
       refine za rfl (zd rfl) (za rfl (zq rfl rfl) (za rfl (zq rfl rfl) (zk (S := []) (zQ (zs := [.slice none 0 0, .slice none 0 0, .slice none 0 0, .slice none 0 0, .int .i64 0, .slice none 0 0]) k9 rfl) ?_)))
       rintro _ ⟨g15, rfl⟩
       refine zk (S := [_]) (zF 2 rfl rfl rfl k9 rfl (List.mem_singleton.2 rfl)) ?_
       rintro _ rfl
       refine za rfl (ze rfl) (zg (zc (zh (zh (zO (σ' := zR [(0, lsD Zs ws), (2, iD r), (3, iD now), (13, pA gr), (14, iD 0), (15, pA g15), (16, iD 0)] [.c g15 [lsD Yk (Rnd.start hL ws).bk, lsD Zs (Rnd.start hL ws).ws, lsD Yj (Rnd.start hL ws).es, lsD encKy (Rnd.start hL ws).ks, iD (Rnd.start hL ws).ck, lsD encE (Rnd.start hL ws).en], .r G67 (Zu gr (Rnd.start hL ws))]) (⟨⟨_, rfl, ⟨lq rfl, ⟨lq rfl, ⟨lq rfl, ⟨lq rfl, ⟨lq rfl, ⟨lq rfl, ⟨⟨_, rfl, zC (by rw [show Rnd.newE ws = 0 from if_pos hok])⟩, trivial⟩⟩⟩⟩⟩⟩⟩⟩, [2, 1], by decide, ⟨⟨_, rfl, (by rw [show Rnd.newS hL ws = Rnd.start hL ws from if_pos hok]; exact yC _)⟩, ⟨lR rfl, trivial⟩⟩⟩) (zb (za rfl (zd rfl) (za rfl (yd rfl rfl) (zg (zc (zE rfl d9 (zu (zc (zh (zh (zb (za rfl (zd rfl) (za rfl (Z0 rfl rfl k9) (za rfl (zd rfl) (zm rfl rfl (rfl) rfl rfl (zd rfl) (zm rfl rfl (rfl) rfl rfl (yd rfl rfl) (za rfl (zy rfl (rfl) rfl) (za rfl (zd rfl) (zm rfl rfl d9 rfl rfl (zd rfl) (yA rfl rfl d9 rfl (zB [1] (con_lenRd gr G67 (Rnd.start hL ws)) rfl ⟨zf _, trivial⟩ d9 ⟨lR rfl, trivial⟩ (fun _ h => h) rfl) ?_)))))))))))))))))))))))))
       rintro _ ⟨F96, rfl⟩
       refine zm rfl rfl d9 rfl rfl (zd rfl) (zm rfl rfl d9 rfl rfl (yV (e := 26) rfl k9) (zm rfl rfl d9 rfl rfl (yd rfl rfl) (za rfl (zy rfl d9 rfl) (za rfl (zd rfl) (zm rfl rfl (by simp [Rnd.start]) rfl rfl (zd rfl) (yA rfl rfl (by simp [Rnd.start]) rfl (zB [1] (con_clock gr F96 (Rnd.start hL ws)) rfl ⟨zf _, trivial⟩ d9 ⟨lR rfl, trivial⟩ (fun _ h => h) rfl) ?_))))))
       rintro _ ⟨F103, rfl⟩
       refine zm rfl rfl (by simp [Rnd.start]) rfl rfl (yd rfl rfl) (za rfl (zy rfl (by simp [Rnd.start]) rfl) (zg (zc (zE rfl (by rfl) (zu (zc (zh (zb (za rfl (zd rfl) (za rfl (zd rfl) (za rfl (zd rfl) (zk (zB [1] (con_stateR gr F103 (Rnd.start hL ws) r now) rfl ⟨zf _, zf _, zf _, trivial⟩ d9 ⟨lR rfl, trivial⟩ (fun _ h => h) rfl) ?_))))))))))))
       rintro _ ⟨F110, rfl⟩
       refine za rfl (zd rfl) (za rfl (zq rfl rfl) (za rfl (zq rfl rfl) (za rfl (ze rfl) (za rfl (ze rfl) (zg (zc (zh (zb (za rfl (zG 0 6 rfl rfl k9 rfl zp) (za rfl (zd rfl) (za rfl (zd rfl) (zk (S := []) (yo (con_At44 (Rnd.start hL ws) r now (by simp [Rnd.start])) rfl ⟨zf _, zf _, zf _, trivial⟩ rfl) ?_))))))))))))
       rintro _ rfl
       refine za rfl (zd rfl) (za rfl (zq rfl rfl) (za rfl (zq rfl rfl) (za rfl (ze rfl) (za rfl (ze rfl) (zg (zc (zh (zb (za rfl (zd rfl) (za rfl (zd rfl) (za rfl (yP rfl rfl) (za rfl (zd rfl) (zm rfl rfl s9 rfl rfl (zd rfl) (zm rfl rfl s9 rfl rfl (zd rfl) (zm rfl rfl s9 rfl rfl (yP rfl rfl) (za rfl (zz rfl s9 rfl) (za rfl (zd rfl) (yA (S := []) rfl rfl s9 rfl (zA [] (ZS) rfl trivial rfl) ?_))))))))))))))))))
       rintro _ rfl
       refine za rfl (zz rfl s9 rfl) (za rfl (ze rfl) (zg (zc (zH (fn := Tryz.f3) (fun _ _ h => h) (Rs.le (Rs.one rfl (zo rfl)) ?_)))))
       exact zP rfl
      ·skip
       refine zK (bk_in (gb := g1) (l := hL) s1) [0, 1, 2, 3] d9 (sX rfl) ?_
       rintro _ ⟨Fb, rfl⟩
       refine zb (za rfl (zd rfl) (za rfl (zd rfl) (zk (S := []) (yo (con_new_bad _ ws hwl hok) rfl ⟨zf _, zf _, trivial⟩ rfl) ?_)))
       rintro _ rfl
       refine za rfl (zd rfl) (za rfl (zq rfl rfl) (za rfl (zq rfl rfl) (za rfl (ze rfl) (za rfl (ze rfl) (zg (zc (zh (zO (σ' := zR [(0, lsD Zs ws), (2, iD r), (3, iD now), (12, pA g12), (13, isD (.pointer none)), (14, iD 2)] [.c g12 [lsD Yk hL]]) (sB [0] rfl rfl) (zb (za rfl (zG 0 1 rfl rfl k9 rfl zp) (za rfl (zd rfl) (zk (S := []) (zB [] (con_New44 hL ws hwl) rfl ⟨zf _, zf _, trivial⟩ d9 trivial (fun _ h => h) rfl) ?_))))))))))))
       rintro _ ⟨⟨⟩, rfl⟩
       refine za rfl (zd rfl) (za rfl (zq rfl rfl) (za rfl (zq rfl rfl) (zk (S := []) (zQ (zs := [.slice none 0 0, .slice none 0 0, .slice none 0 0, .slice none 0 0, .int .i64 0, .slice none 0 0]) k9 rfl) ?_)))
       rintro _ ⟨g15, rfl⟩
       refine zk (S := [_]) (zF 1 rfl rfl rfl k9 rfl (List.mem_singleton.2 rfl)) ?_
       rintro _ rfl
       refine za rfl (ze rfl) (zg (zc (zh (zh (zO (σ' := zR [(13, isD (.pointer none)), (14, iD 2), (16, iD 2)] []) (⟨⟨_, rfl, ⟨lq rfl, ⟨lq rfl, ⟨⟨_, rfl, zC (by rw [show Rnd.newE ws = 2 from if_neg hok])⟩, trivial⟩⟩⟩⟩, [], by decide, trivial⟩) (zb (za rfl (zd rfl) (za rfl (yd rfl rfl) (zg (zc (yf rfl d9 (zh (zb (za rfl (zd rfl) (za rfl (Z0 rfl rfl k9) (za rfl (zd rfl) (zm rfl rfl (rfl) rfl rfl (zd rfl) (zm rfl rfl (rfl) rfl rfl (zd rfl) (zm rfl rfl (rfl) rfl rfl (yP rfl rfl) (za rfl (zz rfl (rfl) rfl) (za rfl (zd rfl) (yA (S := []) rfl rfl d9 rfl (zA [] (ZS) rfl trivial rfl) ?_))))))))))))))))))))))
       rintro _ rfl
       refine za rfl (zz rfl d9 rfl) (za rfl (ze rfl) (zg (zc (zH (fn := Tryz.f3) (fun _ _ h => h) (Rs.le (Rs.one rfl (zo rfl)) ?_)))))
       exact zP rfl
    ·have h41 : ¬ many ≥ 495 := of_decide_eq_false hb41
     refine zn rfl rfl (hb41) rfl rfl (zn rfl rfl (hb41) rfl rfl (za rfl (zy rfl (hb41) rfl) (zg (zc (zE rfl (rfl) (zu (zc (zh ?_))))))))
     obtain ⟨ws, hws⟩ : ∃ ws, ws = l := ⟨_, rfl⟩
     have hwl : ws.length ≤ 1000000 := by rw [hws]; omega
     refine zO (σ' := zR [(0, lsD Zs ws), (2, iD r), (3, iD now)] []) (⟨⟨_, rfl, ⟨⟨_, rfl, (by rw [hws]; exact zf _)⟩, (sT rfl)⟩⟩, [], by decide, trivial⟩) (zb (zk (S := []) (zB [] (con_given) rfl trivial d9 trivial (fun _ h => h) rfl) ?_))
     rintro _ ⟨⟨g1, s1⟩, rfl⟩
     refine za rfl (zd rfl) (za rfl (zq rfl rfl) (za rfl (zq rfl rfl) (zk (S := []) (zQ (zs := [.slice none 0 0]) k9 rfl) ?_)))
     rintro _ ⟨g12, rfl⟩
     refine za rfl (ze rfl) (zk (S := [_]) (zF 4 rfl rfl rfl k9 rfl (List.mem_singleton.2 rfl)) ?_)
     rintro _ rfl
     refine zg (zc (zh ?_))
     by_cases hok : Rnd.ok ws
     ·skip
      refine zK (bk_in (gb := g1) (l := hL) s1) [0, 1, 2, 3] d9 (sX rfl) ?_
      rintro _ ⟨Fb, rfl⟩
      refine zb (za rfl (zd rfl) (za rfl (zd rfl) (zk (zB [1] (con_new g1 hL Fb ws hFine hok) rfl ⟨zf _, zf _, trivial⟩ d9 ⟨lR rfl, trivial⟩ (fun _ h => h) rfl) ?_)))
      rintro _ ⟨⟨F67, gr, G67⟩, rfl⟩
      refine za rfl (zd rfl) (za rfl (zq rfl rfl) (za rfl (zq rfl rfl) (za rfl (ze rfl) (za rfl (ze rfl) (zg (zc (zh (zO (σ' := zR [(0, lsD Zs ws), (2, iD r), (3, iD now), (12, pA g12), (13, pA gr), (14, iD 0)] [.c g12 [lsD Yk hL], .r G67 (Zu gr (Rnd.start hL ws))]) (sB [0, 2] rfl rfl) (zb (za rfl (zG 0 1 rfl rfl k9 rfl zp) (za rfl (zd rfl) (zk (S := []) (zB [] (con_New44 hL ws hwl) rfl ⟨zf _, zf _, trivial⟩ d9 trivial (fun _ h => h) rfl) ?_))))))))))))
      rintro _ ⟨⟨⟩, rfl⟩
      refine za rfl (zd rfl) (za rfl (zq rfl rfl) (za rfl (zq rfl rfl) (zk (S := []) (zQ (zs := [.slice none 0 0, .slice none 0 0, .slice none 0 0, .slice none 0 0, .int .i64 0, .slice none 0 0]) k9 rfl) ?_)))
      rintro _ ⟨g15, rfl⟩
      refine zk (S := [_]) (zF 2 rfl rfl rfl k9 rfl (List.mem_singleton.2 rfl)) ?_
      rintro _ rfl
      refine za rfl (ze rfl) (zg (zc (zh (zh (zO (σ' := zR [(0, lsD Zs ws), (2, iD r), (3, iD now), (13, pA gr), (14, iD 0), (15, pA g15), (16, iD 0)] [.c g15 [lsD Yk (Rnd.start hL ws).bk, lsD Zs (Rnd.start hL ws).ws, lsD Yj (Rnd.start hL ws).es, lsD encKy (Rnd.start hL ws).ks, iD (Rnd.start hL ws).ck, lsD encE (Rnd.start hL ws).en], .r G67 (Zu gr (Rnd.start hL ws))]) (⟨⟨_, rfl, ⟨lq rfl, ⟨lq rfl, ⟨lq rfl, ⟨lq rfl, ⟨lq rfl, ⟨lq rfl, ⟨⟨_, rfl, zC (by rw [show Rnd.newE ws = 0 from if_pos hok])⟩, trivial⟩⟩⟩⟩⟩⟩⟩⟩, [2, 1], by decide, ⟨⟨_, rfl, (by rw [show Rnd.newS hL ws = Rnd.start hL ws from if_pos hok]; exact yC _)⟩, ⟨lR rfl, trivial⟩⟩⟩) (zb (za rfl (zd rfl) (za rfl (yd rfl rfl) (zg (zc (zE rfl d9 (zu (zc (zh (zh (zb (za rfl (zd rfl) (za rfl (Z0 rfl rfl k9) (za rfl (zd rfl) (zm rfl rfl (rfl) rfl rfl (zd rfl) (zm rfl rfl (rfl) rfl rfl (yd rfl rfl) (za rfl (zy rfl (rfl) rfl) (za rfl (zd rfl) (zm rfl rfl d9 rfl rfl (zd rfl) (yA rfl rfl d9 rfl (zB [1] (con_lenRd gr G67 (Rnd.start hL ws)) rfl ⟨zf _, trivial⟩ d9 ⟨lR rfl, trivial⟩ (fun _ h => h) rfl) ?_)))))))))))))))))))))))))
      rintro _ ⟨F96, rfl⟩
      refine zm rfl rfl d9 rfl rfl (zd rfl) (zm rfl rfl d9 rfl rfl (yV (e := 26) rfl k9) (zm rfl rfl d9 rfl rfl (yd rfl rfl) (za rfl (zy rfl d9 rfl) (za rfl (zd rfl) (zm rfl rfl (by simp [Rnd.start]) rfl rfl (zd rfl) (yA rfl rfl (by simp [Rnd.start]) rfl (zB [1] (con_clock gr F96 (Rnd.start hL ws)) rfl ⟨zf _, trivial⟩ d9 ⟨lR rfl, trivial⟩ (fun _ h => h) rfl) ?_))))))
      rintro _ ⟨F103, rfl⟩
      refine zm rfl rfl (by simp [Rnd.start]) rfl rfl (yd rfl rfl) (za rfl (zy rfl (by simp [Rnd.start]) rfl) (zg (zc (zE rfl (by rfl) (zu (zc (zh (zb (za rfl (zd rfl) (za rfl (zd rfl) (za rfl (zd rfl) (zk (zB [1] (con_stateR gr F103 (Rnd.start hL ws) r now) rfl ⟨zf _, zf _, zf _, trivial⟩ d9 ⟨lR rfl, trivial⟩ (fun _ h => h) rfl) ?_))))))))))))
      rintro _ ⟨F110, rfl⟩
      refine za rfl (zd rfl) (za rfl (zq rfl rfl) (za rfl (zq rfl rfl) (za rfl (ze rfl) (za rfl (ze rfl) (zg (zc (zh (zb (za rfl (zG 0 6 rfl rfl k9 rfl zp) (za rfl (zd rfl) (za rfl (zd rfl) (zk (S := []) (yo (con_At44 (Rnd.start hL ws) r now (by simp [Rnd.start])) rfl ⟨zf _, zf _, zf _, trivial⟩ rfl) ?_))))))))))))
      rintro _ rfl
      refine za rfl (zd rfl) (za rfl (zq rfl rfl) (za rfl (zq rfl rfl) (za rfl (ze rfl) (za rfl (ze rfl) (zg (zc (zh (zb (za rfl (zd rfl) (za rfl (zd rfl) (za rfl (yP rfl rfl) (za rfl (zd rfl) (zm rfl rfl s9 rfl rfl (zd rfl) (zm rfl rfl s9 rfl rfl (zd rfl) (zm rfl rfl s9 rfl rfl (yP rfl rfl) (za rfl (zz rfl s9 rfl) (za rfl (zd rfl) (yA (S := []) rfl rfl s9 rfl (zA [] (ZS) rfl trivial rfl) ?_))))))))))))))))))
      rintro _ rfl
      refine za rfl (zz rfl s9 rfl) (za rfl (ze rfl) (zg (zc (zH (fn := Tryz.f3) (fun _ _ h => h) (Rs.le (Rs.one rfl (zo rfl)) ?_)))))
      exact zP rfl
     ·skip
      refine zK (bk_in (gb := g1) (l := hL) s1) [0, 1, 2, 3] d9 (sX rfl) ?_
      rintro _ ⟨Fb, rfl⟩
      refine zb (za rfl (zd rfl) (za rfl (zd rfl) (zk (S := []) (yo (con_new_bad _ ws hwl hok) rfl ⟨zf _, zf _, trivial⟩ rfl) ?_)))
      rintro _ rfl
      refine za rfl (zd rfl) (za rfl (zq rfl rfl) (za rfl (zq rfl rfl) (za rfl (ze rfl) (za rfl (ze rfl) (zg (zc (zh (zO (σ' := zR [(0, lsD Zs ws), (2, iD r), (3, iD now), (12, pA g12), (13, isD (.pointer none)), (14, iD 2)] [.c g12 [lsD Yk hL]]) (sB [0] rfl rfl) (zb (za rfl (zG 0 1 rfl rfl k9 rfl zp) (za rfl (zd rfl) (zk (S := []) (zB [] (con_New44 hL ws hwl) rfl ⟨zf _, zf _, trivial⟩ d9 trivial (fun _ h => h) rfl) ?_))))))))))))
      rintro _ ⟨⟨⟩, rfl⟩
      refine za rfl (zd rfl) (za rfl (zq rfl rfl) (za rfl (zq rfl rfl) (zk (S := []) (zQ (zs := [.slice none 0 0, .slice none 0 0, .slice none 0 0, .slice none 0 0, .int .i64 0, .slice none 0 0]) k9 rfl) ?_)))
      rintro _ ⟨g15, rfl⟩
      refine zk (S := [_]) (zF 1 rfl rfl rfl k9 rfl (List.mem_singleton.2 rfl)) ?_
      rintro _ rfl
      refine za rfl (ze rfl) (zg (zc (zh (zh (zO (σ' := zR [(13, isD (.pointer none)), (14, iD 2), (16, iD 2)] []) (⟨⟨_, rfl, ⟨lq rfl, ⟨lq rfl, ⟨⟨_, rfl, zC (by rw [show Rnd.newE ws = 2 from if_neg hok])⟩, trivial⟩⟩⟩⟩, [], by decide, trivial⟩) (zb (za rfl (zd rfl) (za rfl (yd rfl rfl) (zg (zc (yf rfl d9 (zh (zb (za rfl (zd rfl) (za rfl (Z0 rfl rfl k9) (za rfl (zd rfl) (zm rfl rfl (rfl) rfl rfl (zd rfl) (zm rfl rfl (rfl) rfl rfl (zd rfl) (zm rfl rfl (rfl) rfl rfl (yP rfl rfl) (za rfl (zz rfl (rfl) rfl) (za rfl (zd rfl) (yA (S := []) rfl rfl d9 rfl (zA [] (ZS) rfl trivial rfl) ?_))))))))))))))))))))))
      rintro _ rfl
      refine za rfl (zz rfl d9 rfl) (za rfl (ze rfl) (zg (zc (zH (fn := Tryz.f3) (fun _ _ h => h) (Rs.le (Rs.one rfl (zo rfl)) ?_)))))
      exact zP rfl
end Sx
end Go.Proofs.YtgokpcnabgacnaaGreatDoor
