/- ROUNDS: what the laws are given. ROUNDS: the law's key, schedule, few. ROUNDS: the law's sealed. ROUNDS: the examples of the chapter, in plain terms. -/
import Derived.Test.YtgokpcnabgacnaaGreatDoorGZBH
import Derived.Test.YtgokpcnabgacnaaGreatDoorGZAU
set_option maxHeartbeats 8000000
set_option maxRecDepth 100000
namespace Go.Proofs.YtgokpcnabgacnaaGreatDoor
open Go.RowKit
namespace Sx
theorem row_step {i n : Nat} {b : UInt8} (h : i < n) : ((cellsOf (List.replicate i b ++ List.replicate (n - i) 0)).map isD).set i (isD (B8 b)) = (cellsOf (List.replicate (i + 1) b ++ List.replicate (n - (i + 1)) 0)).map isD := by
 rw [show n - i = (n - (i + 1)) + 1 by omega, List.replicate_succ, List.replicate_succ']
 simp only [cellsOf, List.map_append, List.map_cons, List.map_replicate, List.append_assoc, List.map_nil]
 rw [List.set_append_right _ _ s9]
 simp
theorem bldA4m {n : List UInt8} {r m : Int} {b : List UInt8} : Bld Tryz.prog 121 [0, 1, 2, 4] [yt n, iD r, bD b, iD m] [yt n, iD r, bD b, iD 0, iD m] := fun L w vs hv => by
 match vs, hv with
 | [x, y, z, u], ⟨hx, hy, h3, hu, _⟩ =>
  cases hx; cases hy; cases hu
  have h3' := h3
  obtain ⟨A, cp, rfl, -⟩ := h3
  exact ⟨[.string _, .int .i64 r, .slice A _ cp, .int .i64 0, .int .i64 m], ⟨rfl, rfl, h3', rfl, rfl, trivial⟩, fun w' => by kernel_rfl⟩
abbrev nmA : List UInt8 := [97, 99, 109, 101]
abbrev nmB : List UInt8 := [98, 101, 108, 108]
abbrev nmC : List UInt8 := [107, 45, 116, 118]
abbrev nmL : List (List UInt8) := [nmA, nmB, nmC]
abbrev hA : Acc.T := ⟨nmA, 2, List.replicate 32 8, 0, 0⟩
abbrev hB : Acc.T := ⟨nmB, 2, List.replicate 32 9, 0, 1⟩
abbrev hC : Acc.T := ⟨nmC, 2, List.replicate 32 10, 0, 2⟩
abbrev hL : List Acc.T := [hA, hB, hC]
theorem hAdd1 : Acc.add [] hA = ([hA], 0) := (y8 (by decide +kernel) (by decide +kernel) d9).trans (by rfl)
theorem hAdd2 : Acc.add [hA] hB = ([hA, hB], 0) := (y8 (by decide +kernel) (by decide +kernel) d9).trans (by rfl)
theorem hAdd3 : Acc.add [hA, hB] hC = (hL, 0) := (y8 (by decide +kernel) (by decide +kernel) d9).trans (by rfl)
theorem hFine1 : Acc.Fine [hA] := by have h := Acc.Fine.nil.add hA; rw [hAdd1] at h; exact h
theorem hFine2 : Acc.Fine [hA, hB] := by have h := hFine1.add hB; rw [hAdd2] at h; exact h
theorem hFine : Acc.Fine hL := by have h := hFine2.add hC; rw [hAdd3] at h; exact h
theorem blsT3 {a b c : List UInt8} : Bls Tryz.prog 114 3 [0, 1, 2] [yt a, yt b, yt c] ([a, b, c].flatMap Zb) := ⟨9, fun L w vs hv => by
 obtain ⟨u, v, z, rfl, rfl, rfl, rfl⟩ := all3 hv
 exact ⟨[.string _, .string _, .string _], ⟨rfl, rfl, rfl, trivial⟩, fun w' => by kernel_rfl⟩⟩
theorem con_AddR_to {l l' : List Acc.T} {a : Acc.T} {e : Int} (hf : Acc.Fine l) (h : Acc.add l a = (l', e)) (hs : a.name.length ≤ 1000000) :
  ConR Tryz.prog 50 [] [yX [lsD encA l], yX [yt a.name, iD a.role, bD a.key, iD a.dep, iD a.num]] (fun _ : Unit => []) (fun _ : Unit => Yq [yX [lsD encA l'], iD e]) := by
 have hc := con_AddR l a hf hs
 rw [h] at hc
 exact hc
theorem con_row (b : UInt8) (n : Nat) (hn : n ≤ 1000000) : Con Tryz.prog 10 [isD (B8 b), iD (n : Int)] (bD (List.replicate n b)) := by
 refine con_of Tryz.func10 k9 rfl k9 fun base w0 => (zh (zb (za rfl (ze rfl) (zg (zc (zh (zb (za rfl (zd rfl) (zk (S := []) (Ef.make (e := 5) (z := .int .u8 0) (n := n) 1 rfl rfl k9 k9 rfl rfl rfl o9 d9 rfl) ?_)))))))))
 rintro _ ⟨g8, rfl⟩
 refine za rfl (ze rfl) (zg (zc (zh (zh (zb (za rfl (ze rfl) (zg (zc (zW (Zq (ι := {i : Nat // i ≤ n}) (fun i => zR [(0, isD (B8 b)), (1, iD (n : Int)), (5, isD (.slice (some ⟨g8, 0, none⟩) n n)), (6, iD (i.1 : Int))] [.c g8 ((cellsOf (List.replicate i.1 b ++ List.replicate (n - i.1) 0)).map isD)]) (fun i => n - i.1) (⟨0, Nat.zero_le _⟩) ?_ ?_))))))))))
 ·exact ⟨⟨_, rfl, (sT rfl)⟩, [0], by decide, ⟨⟨_, rfl, leAll_eq (by simp [cellsOf]; exact Or.inr rfl)⟩, trivial⟩⟩
 ·rintro ⟨i, hi⟩ K0 hK0
  dsimp only at hi ⊢
  refine zh (zh (zb (za rfl (zd rfl) (za rfl (zd rfl) (za rfl (yG rfl rfl) (zg (zc (zJ rfl (fun hb11 => ?_) (fun hb11 => ?_)))))))))
  ·have hb11 := of_decide_eq_true hb11
   refine zu (zc (zh (zW (zb (za rfl (zd rfl) (za rfl (zd rfl) (za rfl (zd rfl) (za rfl (Rd.idxE (e := 5) rfl rfl k9 k9 o9 o9) (zk (S := [_]) (Ef.storeE 0 rfl rfl rfl k9 (by simp; omega) (List.mem_singleton.2 rfl)) ?_)))))))))
   rintro _ rfl
   exact zg (ye (zc (zb (za rfl (zd rfl) (za rfl (yM rfl rfl ⟨by omega, by omega⟩) (za rfl (ze rfl) (zg (fun a w hh => hK0 (⟨i + 1, by omega⟩) (by dsimp only; omega) a w (hh.sub (⟨⟨_, rfl, ⟨lq rfl, ⟨lq rfl, ⟨lq rfl, ⟨⟨_, rfl, zC s9⟩, trivial⟩⟩⟩⟩⟩, [0], by decide, ⟨⟨_, rfl, leAll_eq (by rw [show 0 + ((i : Nat) : Int).toNat = i by simp]; exact row_step o9)⟩, trivial⟩⟩))))))))))
  ·obtain rfl : i = n := by have := of_decide_eq_false hb11; omega
   refine yW ?_
   repeat (first | refine Zi ?_ | refine Zj d9 ?_)
   refine Zk (zc (zh (zb (SWl.freeze 5 0 (cellsOf (List.replicate i b)) rfl rfl s9 (Nat.le_refl _) (by rw [Nat.sub_self]; simp) (za rfl (zd rfl) (za rfl (ze rfl) (zg (zc (zH (fn := Tryz.f10) (fun _ _ h => h) (Rs.le (Rs.one rfl (zo rfl)) ?_))))))))))
   exact zf _
theorem con_names  : Con Tryz.prog 48 [] (lsD Zb nmL) := by
 refine con_of Tryz.func48 k9 rfl k9 fun base w0 => (zh (zb (za rfl (ze rfl) (zg (zc (zh (zb (zk (S := []) (Zl rfl rfl blsT3 rfl) ?_))))))))
 rintro _ rfl
 refine za rfl (ze rfl) (zg (zc (zH (fn := Tryz.f48) (fun _ _ h => h) (Rs.le (Rs.one rfl (zo rfl)) ?_))))
 exact zf _
theorem con_commitL (key : List UInt8) (hk : key.length ≤ 100000) : Con Tryz.prog 59 [bD key] (bD (Env.comB key)) := by
 refine con_of Tryz.func59 k9 rfl k9 fun base w0 => (zh (zb (za rfl (ze rfl) (zg (zc (zh (zb (za rfl (zd rfl) (zk (S := []) (yo (con_commitR key hk) rfl ⟨zf _, trivial⟩ rfl) ?_)))))))))
 rintro _ rfl
 refine za rfl (zd rfl) (za rfl (zq rfl rfl) (za rfl (zq rfl rfl) (za rfl (ze rfl) (za rfl (ze rfl) (zg (zc (zh (zb (za rfl (zd rfl) (zk (S := []) (Ef.bytes (e := 5) rfl k9 k9 k9 rfl) ?_))))))))))
 rintro _ rfl
 refine za rfl (ze rfl) (zg (zc (zH (fn := Tryz.f59) (fun _ _ h => h) (Rs.le (Rs.one rfl (zo rfl)) ?_))))
 exact le_nw
theorem con_given  : ConR Tryz.prog 11 [] [] (fun t : Nat × Bst => [.c t.1 [isD (.map (t.2.M.map Prod.fst)), isD (.slice t.2.n.A (Acc.nm hL).length t.2.n.c), isD (.map (t.2.M.map Prod.snd))], .r t.2.n.F (yb 9 1 Zb t.2.n.A t.2.n.c (Acc.nm hL)), .r t.2.F1 (zX (t.2.M.map Prod.fst) yq (Acc.nm hL) (acD hL)), .r t.2.F2 (zX (t.2.M.map Prod.snd) yn (Acc.seats hL) (seD hL))]) (fun t : Nat × Bst => Yq [pA t.1, yX [lsD encA hL]]) := by
 refine zY Tryz.func11 k9 rfl k9 fun base w0 => (zh (zb (za rfl (ze rfl) (zk (S := []) (zQ (zs := [.slice none 0 0]) k9 rfl) ?_))))
 rintro _ ⟨g1, rfl⟩
 refine zg (zc (zh (zb (za rfl (yh rfl rfl bldBk0) (zk (S := []) (yF rfl rfl) ?_)))))
 rintro _ ⟨g7, rfl⟩
 refine za rfl (yh rfl rfl bldRB0) (zk (S := []) (zQ (zs := [.slice none 0 0]) k9 rfl) ?_)
 rintro _ ⟨g3, rfl⟩
 refine za rfl (ze rfl) (zk (S := [_]) (zF 2 rfl rfl rfl k9 rfl (List.mem_singleton.2 rfl)) ?_)
 rintro _ rfl
 refine zg (zc (zh (zh (zb (za rfl (ze rfl) (zg (zc (zW (SW.rounds 3 (zh (zh (SW.vecN 9 1 Zb (SW.mapQN yq (acD []) (SW.mapQN yn (seD []) (zO (σ' := zR [(1, pA g1), (2, pA g7), (3, pA g3), (4, iD 0)] [.c g7 [isD (.map ((⟨none, [], [], ⟨none, 0, []⟩⟩ : Bst).M.map Prod.fst)), isD (.slice (⟨none, [], [], ⟨none, 0, []⟩⟩ : Bst).n.A (Acc.nm ([] : List Acc.T)).length (⟨none, [], [], ⟨none, 0, []⟩⟩ : Bst).n.c), isD (.map ((⟨none, [], [], ⟨none, 0, []⟩⟩ : Bst).M.map Prod.snd))], .r (⟨none, [], [], ⟨none, 0, []⟩⟩ : Bst).n.F (yb 9 1 Zb (⟨none, [], [], ⟨none, 0, []⟩⟩ : Bst).n.A (⟨none, [], [], ⟨none, 0, []⟩⟩ : Bst).n.c (Acc.nm ([] : List Acc.T))), .r (⟨none, [], [], ⟨none, 0, []⟩⟩ : Bst).F1 (zX ((⟨none, [], [], ⟨none, 0, []⟩⟩ : Bst).M.map Prod.fst) yq (Acc.nm ([] : List Acc.T)) (acD ([] : List Acc.T))), .r (⟨none, [], [], ⟨none, 0, []⟩⟩ : Bst).F2 (zX ((⟨none, [], [], ⟨none, 0, []⟩⟩ : Bst).M.map Prod.snd) yn (Acc.seats ([] : List Acc.T)) (seD ([] : List Acc.T))), .c g1 [isD (.slice none 0 0)], .c g3 [lsD encA ([] : List Acc.T)]]) (⟨⟨_, rfl, (sT rfl)⟩, [1, 3, 4, 5, 0, 2], by decide, ⟨la rfl, ⟨lR rfl, ⟨lR rfl, ⟨lR rfl, ⟨la rfl, ⟨⟨_, rfl, le_rb0⟩, trivial⟩⟩⟩⟩⟩⟩⟩) (zb (za rfl (zd rfl) (za rfl (yG rfl rfl) (zg (zc (yf rfl d9 (zu (zc (zh (zW (zh (SW.meet (fun σ => ∃ g5, σ = zR [(1, pA g1), (2, pA g7), (3, pA g3), (4, iD 0), (5, pA g5)] [.c g7 [isD (.map ((⟨none, [], [], ⟨none, 0, []⟩⟩ : Bst).M.map Prod.fst)), isD (.slice (⟨none, [], [], ⟨none, 0, []⟩⟩ : Bst).n.A (Acc.nm ([] : List Acc.T)).length (⟨none, [], [], ⟨none, 0, []⟩⟩ : Bst).n.c), isD (.map ((⟨none, [], [], ⟨none, 0, []⟩⟩ : Bst).M.map Prod.snd))], .r (⟨none, [], [], ⟨none, 0, []⟩⟩ : Bst).n.F (yb 9 1 Zb (⟨none, [], [], ⟨none, 0, []⟩⟩ : Bst).n.A (⟨none, [], [], ⟨none, 0, []⟩⟩ : Bst).n.c (Acc.nm ([] : List Acc.T))), .r (⟨none, [], [], ⟨none, 0, []⟩⟩ : Bst).F1 (zX ((⟨none, [], [], ⟨none, 0, []⟩⟩ : Bst).M.map Prod.fst) yq (Acc.nm ([] : List Acc.T)) (acD ([] : List Acc.T))), .r (⟨none, [], [], ⟨none, 0, []⟩⟩ : Bst).F2 (zX ((⟨none, [], [], ⟨none, 0, []⟩⟩ : Bst).M.map Prod.snd) yn (Acc.seats ([] : List Acc.T)) (seD ([] : List Acc.T))), .c g1 [isD (.slice none 0 0)], .c g3 [lsD encA ([] : List Acc.T)], .c g5 [yt hA.name, iD hA.role, bD hA.key, iD hA.dep, iD hA.num]]) ?_ ?_)))))))))))))))))))))))))))
 ·refine yj [] (.r 1 (.r 4 (.r 5 (.r 6 (.r 8 (.n 0 (.r 2 (.r 3 (.n 7 (.r 9 (.n 10 (.e 11 .fin .no) .no)) (.n 10 (.n 7 (.r 9 (.e 11 .fin .no)) .no) .no)))) (.n 10 (.n 0 (.r 2 (.r 3 (.n 7 (.r 9 (.e 11 .fin .no)) .no))) .no) .no))))))) k9 k9 (fun d _ _ _ _ h => by cases d <;> exact h) (zj rfl rfl (zd rfl) (zj rfl rfl (zd rfl) (zj rfl rfl (yM rfl rfl ⟨by decide, by decide⟩) (zj rfl rfl ((Rd.mono (Rd.cvi .i64 rfl k9 k9) (show Le _ (isD (B8 8)) from zC (by rfl)))) (zj rfl rfl (zd rfl) (yi rfl (yo (con_names) rfl trivial rfl) ?_ ?_))))))
  ·rintro _ rfl
   refine zj rfl rfl (yK (e := 9) 1 rfl rfl k9 k9 d9 rfl) (zj rfl rfl (ym rfl rfl k9 s9) (yi rfl (yo (con_row 8 32 d9) rfl ⟨zf _, zf _, trivial⟩ rfl) ?_ ?_))
   ·rintro _ rfl
    refine zj rfl rfl ((yh rfl rfl (bldA4m (n := nmA) (r := 2) (m := 0)))) (Yb rfl (EfB.alloc (zs := [.string ⟨#[]⟩, .int .i64 0, .slice none 0 0, .int .i64 0, .int .i64 0]) k9 rfl) ?_ zI)
    rintro g5 _ rfl
    refine zZ rfl (zF 6 rfl rfl rfl k9 rfl (List.mem_append_right _ (List.mem_cons_self))) ?_ zI
    rintro _ rfl
    exact zV (yZ ⟨g5, rfl⟩ (sB [0, 1, 2, 3, 4, 5, 6] rfl rfl))
   refine Yb rfl (EfB.alloc (zs := [.string ⟨#[]⟩, .int .i64 0, .slice none 0 0, .int .i64 0, .int .i64 0]) k9 rfl) ?_ zI
   rintro g5 _ rfl
   refine yi rfl (yo (con_row 8 32 d9) rfl ⟨zf _, zf _, trivial⟩ rfl) ?_ zI
   rintro _ rfl
   refine zj rfl rfl ((yh rfl rfl (bldA4m (n := nmA) (r := 2) (m := 0)))) (zZ rfl (zF 6 rfl rfl rfl k9 rfl (List.mem_append_right _ (List.mem_cons_self))) ?_ zI)
   rintro _ rfl
   exact zV (yZ ⟨g5, rfl⟩ (sB [0, 1, 2, 3, 4, 5, 6] rfl rfl))
  refine Yb rfl (EfB.alloc (zs := [.string ⟨#[]⟩, .int .i64 0, .slice none 0 0, .int .i64 0, .int .i64 0]) k9 rfl) ?_ zI
  rintro g5 _ rfl
  refine yi rfl (yo (con_names) rfl trivial rfl) ?_ zI
  rintro _ rfl
  refine zj rfl rfl (yK (e := 9) 1 rfl rfl k9 k9 d9 rfl) (zj rfl rfl (ym rfl rfl k9 (ins_append ins_nil (ins_cons (j := 6) rfl ins_nil))) (yi rfl (yo (con_row 8 32 d9) rfl ⟨zf _, zf _, trivial⟩ rfl) ?_ zI))
  rintro _ rfl
  refine zj rfl rfl ((yh rfl rfl (bldA4m (n := nmA) (r := 2) (m := 0)))) (zZ rfl (zF 6 rfl rfl rfl k9 rfl (List.mem_append_right _ (List.mem_cons_self))) ?_ zI)
  rintro _ rfl
  exact zV (yZ ⟨g5, rfl⟩ (sB [0, 1, 2, 3, 4, 5, 6] rfl rfl))
 ·rintro _ ⟨g5, rfl⟩
  refine zc (zh (zb (za rfl (zd rfl) (za rfl (zG 6 5 rfl rfl k9 rfl zp) (SWl.lookA5 24 rfl fun A24 c24 => (zk (zB [0, 1, 2, 3, 7] (con_add_to (gb := g7) (s := (⟨none, [], [], ⟨none, 0, []⟩⟩ : Bst)) (l := ([] : List Acc.T)) (a := hA) (A := A24) (c := c24) (Yd _ _ _ _ rfl) Acc.Fine.nil hAdd1) rfl ⟨zf _, zf _, trivial⟩ d9 (sX rfl) (fun _ h => h) rfl) ?_))))))
  rintro _ ⟨s0, rfl⟩
  refine zg (zc (zO (σ' := zR [(1, pA g1), (2, pA g7), (3, pA g3), (4, iD 0), (5, pA g5)] [.c g7 [isD (.map (s0.M.map Prod.fst)), isD (.slice s0.n.A (Acc.nm ([hA] : List Acc.T)).length s0.n.c), isD (.map (s0.M.map Prod.snd))], .r s0.n.F (yb 9 1 Zb s0.n.A s0.n.c (Acc.nm ([hA] : List Acc.T))), .r s0.F1 (zX (s0.M.map Prod.fst) yq (Acc.nm ([hA] : List Acc.T)) (acD ([hA] : List Acc.T))), .r s0.F2 (zX (s0.M.map Prod.snd) yn (Acc.seats ([hA] : List Acc.T)) (seD ([hA] : List Acc.T))), .c g1 [isD (.slice none 0 0)], .c g3 [lsD encA ([] : List Acc.T)], .c g5 [yt hA.name, iD hA.role, bD hA.key, iD hA.dep, iD hA.num]]) (sB [3, 4, 5, 6, 0, 1, 2] rfl rfl) (zb (za rfl (zG 5 1 rfl rfl k9 rfl zp) (za rfl (zG 6 5 rfl rfl k9 rfl zp) (zk (S := []) (zB [] (con_AddR_to Acc.Fine.nil hAdd1 s9) rfl ⟨zf _, zf _, trivial⟩ d9 trivial (fun _ h => h) rfl) ?_))))))
  rintro _ ⟨⟨⟩, rfl⟩
  refine za rfl (zd rfl) (za rfl (zq rfl rfl) (za rfl (zq rfl rfl) (zk (S := [_]) (zF 5 rfl rfl rfl k9 rfl (List.mem_singleton.2 rfl)) ?_)))
  rintro _ rfl
  refine zg (ye (zc (zO (σ' := zR [(1, pA g1), (2, pA g7), (3, pA g3), (4, iD 0)] [.c g7 [isD (.map (s0.M.map Prod.fst)), isD (.slice s0.n.A (Acc.nm ([hA] : List Acc.T)).length s0.n.c), isD (.map (s0.M.map Prod.snd))], .r s0.n.F (yb 9 1 Zb s0.n.A s0.n.c (Acc.nm ([hA] : List Acc.T))), .r s0.F1 (zX (s0.M.map Prod.fst) yq (Acc.nm ([hA] : List Acc.T)) (acD ([hA] : List Acc.T))), .r s0.F2 (zX (s0.M.map Prod.snd) yn (Acc.seats ([hA] : List Acc.T)) (seD ([hA] : List Acc.T))), .c g1 [isD (.slice none 0 0)], .c g3 [lsD encA ([hA] : List Acc.T)]]) (sB [0, 1, 2, 3, 4, 5] rfl rfl) (zb (za rfl (zd rfl) (za rfl (yM rfl rfl ⟨by decide, by decide⟩) (za rfl (ze rfl) (zg (SN.round (zh (zh (zO (σ' := zR [(1, pA g1), (2, pA g7), (3, pA g3), (4, iD 1)] [.c g7 [isD (.map (s0.M.map Prod.fst)), isD (.slice s0.n.A (Acc.nm ([hA] : List Acc.T)).length s0.n.c), isD (.map (s0.M.map Prod.snd))], .r s0.n.F (yb 9 1 Zb s0.n.A s0.n.c (Acc.nm ([hA] : List Acc.T))), .r s0.F1 (zX (s0.M.map Prod.fst) yq (Acc.nm ([hA] : List Acc.T)) (acD ([hA] : List Acc.T))), .r s0.F2 (zX (s0.M.map Prod.snd) yn (Acc.seats ([hA] : List Acc.T)) (seD ([hA] : List Acc.T))), .c g1 [isD (.slice none 0 0)], .c g3 [lsD encA ([hA] : List Acc.T)]]) (⟨⟨_, rfl, ⟨lq rfl, ⟨lq rfl, ⟨lq rfl, ⟨⟨_, rfl, zC (by rfl)⟩, trivial⟩⟩⟩⟩⟩, [0, 1, 2, 3, 4, 5], by decide, (sX rfl)⟩) (zb (za rfl (zd rfl) (za rfl (yG rfl rfl) (zg (zc (yf rfl d9 (zu (zc (zh (zW (zh (SW.meet (fun σ => ∃ g5, σ = zR [(1, pA g1), (2, pA g7), (3, pA g3), (4, iD 1), (5, pA g5)] [.c g7 [isD (.map (s0.M.map Prod.fst)), isD (.slice s0.n.A (Acc.nm ([hA] : List Acc.T)).length s0.n.c), isD (.map (s0.M.map Prod.snd))], .r s0.n.F (yb 9 1 Zb s0.n.A s0.n.c (Acc.nm ([hA] : List Acc.T))), .r s0.F1 (zX (s0.M.map Prod.fst) yq (Acc.nm ([hA] : List Acc.T)) (acD ([hA] : List Acc.T))), .r s0.F2 (zX (s0.M.map Prod.snd) yn (Acc.seats ([hA] : List Acc.T)) (seD ([hA] : List Acc.T))), .c g1 [isD (.slice none 0 0)], .c g3 [lsD encA ([hA] : List Acc.T)], .c g5 [yt hB.name, iD hB.role, bD hB.key, iD hB.dep, iD hB.num]]) ?_ ?_))))))))))))))))))))))))
  ·refine yj [] (.r 1 (.r 4 (.r 5 (.r 6 (.r 8 (.n 0 (.r 2 (.r 3 (.n 7 (.r 9 (.n 10 (.e 11 .fin .no) .no)) (.n 10 (.n 7 (.r 9 (.e 11 .fin .no)) .no) .no)))) (.n 10 (.n 0 (.r 2 (.r 3 (.n 7 (.r 9 (.e 11 .fin .no)) .no))) .no) .no))))))) k9 k9 (fun d _ _ _ _ h => by cases d <;> exact h) (zj rfl rfl (zd rfl) (zj rfl rfl (zd rfl) (zj rfl rfl (yM rfl rfl ⟨by decide, by decide⟩) (zj rfl rfl ((Rd.mono (Rd.cvi .i64 rfl k9 k9) (show Le _ (isD (B8 9)) from zC (by rfl)))) (zj rfl rfl (zd rfl) (yi rfl (yo (con_names) rfl trivial rfl) ?_ ?_))))))
   ·rintro _ rfl
    refine zj rfl rfl (yK (e := 9) 1 rfl rfl k9 k9 d9 rfl) (zj rfl rfl (ym rfl rfl k9 s9) (yi rfl (yo (con_row 9 32 d9) rfl ⟨zf _, zf _, trivial⟩ rfl) ?_ ?_))
    ·rintro _ rfl
     refine zj rfl rfl ((yh rfl rfl (bldA4m (n := nmB) (r := 2) (m := 1)))) (Yb rfl (EfB.alloc (zs := [.string ⟨#[]⟩, .int .i64 0, .slice none 0 0, .int .i64 0, .int .i64 0]) k9 rfl) ?_ zI)
     rintro g5 _ rfl
     refine zZ rfl (zF 6 rfl rfl rfl k9 rfl (List.mem_append_right _ (List.mem_cons_self))) ?_ zI
     rintro _ rfl
     exact zV (yZ ⟨g5, rfl⟩ (sB [0, 1, 2, 3, 4, 5, 6] rfl rfl))
    refine Yb rfl (EfB.alloc (zs := [.string ⟨#[]⟩, .int .i64 0, .slice none 0 0, .int .i64 0, .int .i64 0]) k9 rfl) ?_ zI
    rintro g5 _ rfl
    refine yi rfl (yo (con_row 9 32 d9) rfl ⟨zf _, zf _, trivial⟩ rfl) ?_ zI
    rintro _ rfl
    refine zj rfl rfl ((yh rfl rfl (bldA4m (n := nmB) (r := 2) (m := 1)))) (zZ rfl (zF 6 rfl rfl rfl k9 rfl (List.mem_append_right _ (List.mem_cons_self))) ?_ zI)
    rintro _ rfl
    exact zV (yZ ⟨g5, rfl⟩ (sB [0, 1, 2, 3, 4, 5, 6] rfl rfl))
   refine Yb rfl (EfB.alloc (zs := [.string ⟨#[]⟩, .int .i64 0, .slice none 0 0, .int .i64 0, .int .i64 0]) k9 rfl) ?_ zI
   rintro g5 _ rfl
   refine yi rfl (yo (con_names) rfl trivial rfl) ?_ zI
   rintro _ rfl
   refine zj rfl rfl (yK (e := 9) 1 rfl rfl k9 k9 d9 rfl) (zj rfl rfl (ym rfl rfl k9 (ins_append ins_nil (ins_cons (j := 6) rfl ins_nil))) (yi rfl (yo (con_row 9 32 d9) rfl ⟨zf _, zf _, trivial⟩ rfl) ?_ zI))
   rintro _ rfl
   refine zj rfl rfl ((yh rfl rfl (bldA4m (n := nmB) (r := 2) (m := 1)))) (zZ rfl (zF 6 rfl rfl rfl k9 rfl (List.mem_append_right _ (List.mem_cons_self))) ?_ zI)
   rintro _ rfl
   exact zV (yZ ⟨g5, rfl⟩ (sB [0, 1, 2, 3, 4, 5, 6] rfl rfl))
  ·rintro _ ⟨g5, rfl⟩
   refine zc (zh (zb (za rfl (zd rfl) (za rfl (zG 6 5 rfl rfl k9 rfl zp) (SWl.lookA5 24 rfl fun A24 c24 => (zk (zB [0, 1, 2, 3, 7] (con_add_to (gb := g7) (s := s0) (l := ([hA] : List Acc.T)) (a := hB) (A := A24) (c := c24) (Yd _ _ _ _ rfl) hFine1 hAdd2) rfl ⟨zf _, zf _, trivial⟩ d9 (sX rfl) (fun _ h => h) rfl) ?_))))))
   rintro _ ⟨s1, rfl⟩
   refine zg (zc (zO (σ' := zR [(1, pA g1), (2, pA g7), (3, pA g3), (4, iD 1), (5, pA g5)] [.c g7 [isD (.map (s1.M.map Prod.fst)), isD (.slice s1.n.A (Acc.nm ([hA, hB] : List Acc.T)).length s1.n.c), isD (.map (s1.M.map Prod.snd))], .r s1.n.F (yb 9 1 Zb s1.n.A s1.n.c (Acc.nm ([hA, hB] : List Acc.T))), .r s1.F1 (zX (s1.M.map Prod.fst) yq (Acc.nm ([hA, hB] : List Acc.T)) (acD ([hA, hB] : List Acc.T))), .r s1.F2 (zX (s1.M.map Prod.snd) yn (Acc.seats ([hA, hB] : List Acc.T)) (seD ([hA, hB] : List Acc.T))), .c g1 [isD (.slice none 0 0)], .c g3 [lsD encA ([hA] : List Acc.T)], .c g5 [yt hB.name, iD hB.role, bD hB.key, iD hB.dep, iD hB.num]]) (sB [3, 4, 5, 6, 0, 1, 2] rfl rfl) (zb (za rfl (zG 5 1 rfl rfl k9 rfl zp) (za rfl (zG 6 5 rfl rfl k9 rfl zp) (zk (S := []) (zB [] (con_AddR_to hFine1 hAdd2 s9) rfl ⟨zf _, zf _, trivial⟩ d9 trivial (fun _ h => h) rfl) ?_))))))
   rintro _ ⟨⟨⟩, rfl⟩
   refine za rfl (zd rfl) (za rfl (zq rfl rfl) (za rfl (zq rfl rfl) (zk (S := [_]) (zF 5 rfl rfl rfl k9 rfl (List.mem_singleton.2 rfl)) ?_)))
   rintro _ rfl
   refine zg (ye (zc (zO (σ' := zR [(1, pA g1), (2, pA g7), (3, pA g3), (4, iD 1)] [.c g7 [isD (.map (s1.M.map Prod.fst)), isD (.slice s1.n.A (Acc.nm ([hA, hB] : List Acc.T)).length s1.n.c), isD (.map (s1.M.map Prod.snd))], .r s1.n.F (yb 9 1 Zb s1.n.A s1.n.c (Acc.nm ([hA, hB] : List Acc.T))), .r s1.F1 (zX (s1.M.map Prod.fst) yq (Acc.nm ([hA, hB] : List Acc.T)) (acD ([hA, hB] : List Acc.T))), .r s1.F2 (zX (s1.M.map Prod.snd) yn (Acc.seats ([hA, hB] : List Acc.T)) (seD ([hA, hB] : List Acc.T))), .c g1 [isD (.slice none 0 0)], .c g3 [lsD encA ([hA, hB] : List Acc.T)]]) (sB [0, 1, 2, 3, 4, 5] rfl rfl) (zb (za rfl (zd rfl) (za rfl (yM rfl rfl ⟨by decide, by decide⟩) (za rfl (ze rfl) (zg (SN.round (zh (zh (zO (σ' := zR [(1, pA g1), (2, pA g7), (3, pA g3), (4, iD 2)] [.c g7 [isD (.map (s1.M.map Prod.fst)), isD (.slice s1.n.A (Acc.nm ([hA, hB] : List Acc.T)).length s1.n.c), isD (.map (s1.M.map Prod.snd))], .r s1.n.F (yb 9 1 Zb s1.n.A s1.n.c (Acc.nm ([hA, hB] : List Acc.T))), .r s1.F1 (zX (s1.M.map Prod.fst) yq (Acc.nm ([hA, hB] : List Acc.T)) (acD ([hA, hB] : List Acc.T))), .r s1.F2 (zX (s1.M.map Prod.snd) yn (Acc.seats ([hA, hB] : List Acc.T)) (seD ([hA, hB] : List Acc.T))), .c g1 [isD (.slice none 0 0)], .c g3 [lsD encA ([hA, hB] : List Acc.T)]]) (⟨⟨_, rfl, ⟨lq rfl, ⟨lq rfl, ⟨lq rfl, ⟨⟨_, rfl, zC (by rfl)⟩, trivial⟩⟩⟩⟩⟩, [0, 1, 2, 3, 4, 5], by decide, (sX rfl)⟩) (zb (za rfl (zd rfl) (za rfl (yG rfl rfl) (zg (zc (yf rfl d9 (zu (zc (zh (zW (zh (SW.meet (fun σ => ∃ g5, σ = zR [(1, pA g1), (2, pA g7), (3, pA g3), (4, iD 2), (5, pA g5)] [.c g7 [isD (.map (s1.M.map Prod.fst)), isD (.slice s1.n.A (Acc.nm ([hA, hB] : List Acc.T)).length s1.n.c), isD (.map (s1.M.map Prod.snd))], .r s1.n.F (yb 9 1 Zb s1.n.A s1.n.c (Acc.nm ([hA, hB] : List Acc.T))), .r s1.F1 (zX (s1.M.map Prod.fst) yq (Acc.nm ([hA, hB] : List Acc.T)) (acD ([hA, hB] : List Acc.T))), .r s1.F2 (zX (s1.M.map Prod.snd) yn (Acc.seats ([hA, hB] : List Acc.T)) (seD ([hA, hB] : List Acc.T))), .c g1 [isD (.slice none 0 0)], .c g3 [lsD encA ([hA, hB] : List Acc.T)], .c g5 [yt hC.name, iD hC.role, bD hC.key, iD hC.dep, iD hC.num]]) ?_ ?_))))))))))))))))))))))))
   ·refine yj [] (.r 1 (.r 4 (.r 5 (.r 6 (.r 8 (.n 0 (.r 2 (.r 3 (.n 7 (.r 9 (.n 10 (.e 11 .fin .no) .no)) (.n 10 (.n 7 (.r 9 (.e 11 .fin .no)) .no) .no)))) (.n 10 (.n 0 (.r 2 (.r 3 (.n 7 (.r 9 (.e 11 .fin .no)) .no))) .no) .no))))))) k9 k9 (fun d _ _ _ _ h => by cases d <;> exact h) (zj rfl rfl (zd rfl) (zj rfl rfl (zd rfl) (zj rfl rfl (yM rfl rfl ⟨by decide, by decide⟩) (zj rfl rfl ((Rd.mono (Rd.cvi .i64 rfl k9 k9) (show Le _ (isD (B8 10)) from zC (by rfl)))) (zj rfl rfl (zd rfl) (yi rfl (yo (con_names) rfl trivial rfl) ?_ ?_))))))
    ·rintro _ rfl
     refine zj rfl rfl (yK (e := 9) 1 rfl rfl k9 k9 d9 rfl) (zj rfl rfl (ym rfl rfl k9 s9) (yi rfl (yo (con_row 10 32 d9) rfl ⟨zf _, zf _, trivial⟩ rfl) ?_ ?_))
     ·rintro _ rfl
      refine zj rfl rfl ((yh rfl rfl (bldA4m (n := nmC) (r := 2) (m := 2)))) (Yb rfl (EfB.alloc (zs := [.string ⟨#[]⟩, .int .i64 0, .slice none 0 0, .int .i64 0, .int .i64 0]) k9 rfl) ?_ zI)
      rintro g5 _ rfl
      refine zZ rfl (zF 6 rfl rfl rfl k9 rfl (List.mem_append_right _ (List.mem_cons_self))) ?_ zI
      rintro _ rfl
      exact zV (yZ ⟨g5, rfl⟩ (sB [0, 1, 2, 3, 4, 5, 6] rfl rfl))
     refine Yb rfl (EfB.alloc (zs := [.string ⟨#[]⟩, .int .i64 0, .slice none 0 0, .int .i64 0, .int .i64 0]) k9 rfl) ?_ zI
     rintro g5 _ rfl
     refine yi rfl (yo (con_row 10 32 d9) rfl ⟨zf _, zf _, trivial⟩ rfl) ?_ zI
     rintro _ rfl
     refine zj rfl rfl ((yh rfl rfl (bldA4m (n := nmC) (r := 2) (m := 2)))) (zZ rfl (zF 6 rfl rfl rfl k9 rfl (List.mem_append_right _ (List.mem_cons_self))) ?_ zI)
     rintro _ rfl
     exact zV (yZ ⟨g5, rfl⟩ (sB [0, 1, 2, 3, 4, 5, 6] rfl rfl))
    refine Yb rfl (EfB.alloc (zs := [.string ⟨#[]⟩, .int .i64 0, .slice none 0 0, .int .i64 0, .int .i64 0]) k9 rfl) ?_ zI
    rintro g5 _ rfl
    refine yi rfl (yo (con_names) rfl trivial rfl) ?_ zI
    rintro _ rfl
    refine zj rfl rfl (yK (e := 9) 1 rfl rfl k9 k9 d9 rfl) (zj rfl rfl (ym rfl rfl k9 (ins_append ins_nil (ins_cons (j := 6) rfl ins_nil))) (yi rfl (yo (con_row 10 32 d9) rfl ⟨zf _, zf _, trivial⟩ rfl) ?_ zI))
    rintro _ rfl
    refine zj rfl rfl ((yh rfl rfl (bldA4m (n := nmC) (r := 2) (m := 2)))) (zZ rfl (zF 6 rfl rfl rfl k9 rfl (List.mem_append_right _ (List.mem_cons_self))) ?_ zI)
    rintro _ rfl
    exact zV (yZ ⟨g5, rfl⟩ (sB [0, 1, 2, 3, 4, 5, 6] rfl rfl))
   ·rintro _ ⟨g5, rfl⟩
    refine zc (zh (zb (za rfl (zd rfl) (za rfl (zG 6 5 rfl rfl k9 rfl zp) (SWl.lookA5 24 rfl fun A24 c24 => (zk (zB [0, 1, 2, 3, 7] (con_add_to (gb := g7) (s := s1) (l := ([hA, hB] : List Acc.T)) (a := hC) (A := A24) (c := c24) (Yd _ _ _ _ rfl) hFine2 hAdd3) rfl ⟨zf _, zf _, trivial⟩ d9 (sX rfl) (fun _ h => h) rfl) ?_))))))
    rintro _ ⟨s2, rfl⟩
    refine zg (zc (zO (σ' := zR [(1, pA g1), (2, pA g7), (3, pA g3), (4, iD 2), (5, pA g5)] [.c g7 [isD (.map (s2.M.map Prod.fst)), isD (.slice s2.n.A (Acc.nm hL).length s2.n.c), isD (.map (s2.M.map Prod.snd))], .r s2.n.F (yb 9 1 Zb s2.n.A s2.n.c (Acc.nm hL)), .r s2.F1 (zX (s2.M.map Prod.fst) yq (Acc.nm hL) (acD hL)), .r s2.F2 (zX (s2.M.map Prod.snd) yn (Acc.seats hL) (seD hL)), .c g1 [isD (.slice none 0 0)], .c g3 [lsD encA ([hA, hB] : List Acc.T)], .c g5 [yt hC.name, iD hC.role, bD hC.key, iD hC.dep, iD hC.num]]) (sB [3, 4, 5, 6, 0, 1, 2] rfl rfl) (zb (za rfl (zG 5 1 rfl rfl k9 rfl zp) (za rfl (zG 6 5 rfl rfl k9 rfl zp) (zk (S := []) (zB [] (con_AddR_to hFine2 hAdd3 s9) rfl ⟨zf _, zf _, trivial⟩ d9 trivial (fun _ h => h) rfl) ?_))))))
    rintro _ ⟨⟨⟩, rfl⟩
    refine za rfl (zd rfl) (za rfl (zq rfl rfl) (za rfl (zq rfl rfl) (zk (S := [_]) (zF 5 rfl rfl rfl k9 rfl (List.mem_singleton.2 rfl)) ?_)))
    rintro _ rfl
    refine zg (ye (zc (zO (σ' := zR [(1, pA g1), (2, pA g7), (3, pA g3), (4, iD 2)] [.c g7 [isD (.map (s2.M.map Prod.fst)), isD (.slice s2.n.A (Acc.nm hL).length s2.n.c), isD (.map (s2.M.map Prod.snd))], .r s2.n.F (yb 9 1 Zb s2.n.A s2.n.c (Acc.nm hL)), .r s2.F1 (zX (s2.M.map Prod.fst) yq (Acc.nm hL) (acD hL)), .r s2.F2 (zX (s2.M.map Prod.snd) yn (Acc.seats hL) (seD hL)), .c g1 [isD (.slice none 0 0)], .c g3 [lsD encA hL]]) (sB [0, 1, 2, 3, 4, 5] rfl rfl) (zb (za rfl (zd rfl) (za rfl (yM rfl rfl ⟨by decide, by decide⟩) (za rfl (ze rfl) (zg (SN.round (zh (zh (zO (σ' := zR [(1, pA g1), (2, pA g7), (3, pA g3), (4, iD 3)] [.c g7 [isD (.map (s2.M.map Prod.fst)), isD (.slice s2.n.A (Acc.nm hL).length s2.n.c), isD (.map (s2.M.map Prod.snd))], .r s2.n.F (yb 9 1 Zb s2.n.A s2.n.c (Acc.nm hL)), .r s2.F1 (zX (s2.M.map Prod.fst) yq (Acc.nm hL) (acD hL)), .r s2.F2 (zX (s2.M.map Prod.snd) yn (Acc.seats hL) (seD hL)), .c g1 [isD (.slice none 0 0)], .c g3 [lsD encA hL]]) (⟨⟨_, rfl, ⟨lq rfl, ⟨lq rfl, ⟨lq rfl, ⟨⟨_, rfl, zC (by rfl)⟩, trivial⟩⟩⟩⟩⟩, [0, 1, 2, 3, 4, 5], by decide, (sX rfl)⟩) (zb (za rfl (zd rfl) (za rfl (yG rfl rfl) (zg (zc (zE rfl d9 (yW ?_)))))))))))))))))))
    repeat (first | refine Zi ?_ | refine Zj d9 ?_)
    refine Zk (zc (zh (zO (σ' := zR [(1, pA g1), (2, pA g7), (3, pA g3)] [.c g7 [isD (.map (s2.M.map Prod.fst)), isD (.slice s2.n.A (Acc.nm hL).length s2.n.c), isD (.map (s2.M.map Prod.snd))], .r s2.n.F (yb 9 1 Zb s2.n.A s2.n.c (Acc.nm hL)), .r s2.F1 (zX (s2.M.map Prod.fst) yq (Acc.nm hL) (acD hL)), .r s2.F2 (zX (s2.M.map Prod.snd) yn (Acc.seats hL) (seD hL)), .c g1 [isD (.slice none 0 0)], .c g3 [lsD encA hL]]) (sB [0, 1, 2, 3, 4, 5] rfl rfl) (yj (g1 :: []) (.r 0 (.r 1 (.r 2 (.e 3 .fin .no)))) k9 k9 (fun d _ _ _ _ h => by cases d <;> exact h) (zj rfl rfl (zd rfl) (zj rfl rfl (zG 5 1 rfl rfl k9 rfl (yz 4 rfl d9 zp)) (zj rfl rfl (ze rfl) (zZ rfl (zF 4 rfl rfl rfl k9 rfl (List.mem_cons_self)) ?_ zI))))))))
    rintro _ rfl
    refine zV (zc (zS (fn := Tryz.f11) ((g7, s2)) [0, 1, 2, 3] (fun _ _ h => h) (Rs.le (Rs.two rfl (zo rfl) (yB 4 rfl rfl k9)) ?_) d9 (sX rfl)))
    exact zf _
end Sx
end Go.Proofs.YtgokpcnabgacnaaGreatDoor
namespace Go.Proofs.YtgokpcnabgacnaaGreatDoor
open Go.RowKit
namespace Sx
abbrev k1L : List UInt8 := List.replicate 32 1
abbrev k2L : List UInt8 := List.replicate 32 2
def schA : Rnd.Win := ⟨10, 20, 25, Env.comB k1L⟩
def schB : Rnd.Win := ⟨20, 30, 30, Env.comB k2L⟩
def schL : List Rnd.Win := [schA, schB]
theorem bldW4 {a b c : Int} {m : List UInt8} : Bld Tryz.prog 26 [0, 1, 2, 3] [iD a, iD b, iD c, bD m] [iD a, iD b, iD c, bD m] := fun L w vs hv => by
 match vs, hv with
 | [x, y, z, u], ⟨hx, hy, hz, h4, _⟩ =>
  cases hx; cases hy; cases hz
  have h4' := h4
  obtain ⟨A, cp, rfl, -⟩ := h4
  exact ⟨[.int .i64 a, .int .i64 b, .int .i64 c, .slice A _ cp], ⟨rfl, rfl, rfl, h4', trivial⟩, fun w' => by kernel_rfl⟩
theorem blsW2 {x y : Rnd.Win} : Bls Tryz.prog 22 2 [0, 1] [yX [iD x.st, iD x.en, iD x.rv, bD x.cm], yX [iD y.st, iD y.en, iD y.rv, bD y.cm]] ([x, y].flatMap encW) := ⟨26, fun L w vs hv => by
 match vs, hv with
 | [u, v], ⟨hu, hv', _⟩ =>
 obtain ⟨cs, hue, hc⟩ := hu
 obtain ⟨ds, hve, hd⟩ := hv'
 subst hue hve
 match cs, ds, hc, hd with
 | [a, b, c, d], [a', b', c', d'], hc, hd =>
  obtain ⟨rfl, rfl, rfl, h, -⟩ := hc
  obtain ⟨rfl, rfl, rfl, k, -⟩ := hd
  have h' := h
  have k' := k
  obtain ⟨A, cp, rfl, -⟩ := h
  obtain ⟨A2, cp2, rfl, -⟩ := k
  exact ⟨[.int .i64 _, .int .i64 _, .int .i64 _, .slice A _ cp, .int .i64 _, .int .i64 _, .int .i64 _, .slice A2 _ cp2], ⟨rfl, rfl, rfl, h', rfl, rfl, rfl, k', trivial⟩, fun w' => by kernel_rfl⟩⟩
structure Ac where
 what : Int
 who : Int
 rnd : Int
 ser : Int
 key : Int
 now : Int
 bid : List UInt8
 e : Env.T
def encAc (x : Ac) : List D := [iD x.what, iD x.who, iD x.rnd, iD x.ser, iD x.key, iD x.now, bD x.bid, yt x.e.acc, iD x.e.rnd, iD x.e.ser, bD x.e.box, bD x.e.tag]
instance : Row encAc 12 := ⟨fun _ => rfl, fun _ => by unfold encAc; infer_instance, by decide⟩
instance (x : Ac) : Ones (encAc x) := by unfold encAc; infer_instance
def Ac.short (x : Ac) : Prop := x.bid.length ≤ 100 ∧ x.e.acc.length ≤ 100 ∧ x.e.box.length ≤ 300 ∧ x.e.tag.length ≤ 100
def Ac.few (l : List Ac) (m : Int) : Prop := (∀ x ∈ l, x.short) ∧ (l.length : Int) ≤ m
instance (l : List Ac) (m : Int) : Decidable (Ac.few l m) := by unfold Ac.few Ac.short; infer_instance
theorem con_schedule  : Con Tryz.prog 19 [] (lsD encW schL) := by
 refine con_of Tryz.func19 k9 rfl k9 fun base w0 => (zh (zb (za rfl (ze rfl) (zg (zc (zh (zb (zk (S := []) (yo (con_row 1 32 d9) rfl ⟨zf _, zf _, trivial⟩ rfl) ?_))))))))
 rintro _ rfl
 refine zk (S := []) (yo (con_commitL k1L s9) rfl ⟨zf _, trivial⟩ rfl) ?_
 rintro _ rfl
 refine za rfl (yh rfl rfl bldW4) (zk (S := []) (yo (con_row 2 32 d9) rfl ⟨zf _, zf _, trivial⟩ rfl) ?_)
 rintro _ rfl
 refine zk (S := []) (yo (con_commitL k2L s9) rfl ⟨zf _, trivial⟩ rfl) ?_
 rintro _ rfl
 refine za rfl (yh rfl rfl bldW4) (zk (S := []) (Zl rfl rfl (blsW2 (x := schA) (y := schB)) rfl) ?_)
 rintro _ rfl
 refine za rfl (ze rfl) (zg (zc (zH (fn := Tryz.f19) (fun _ _ h => h) (Rs.le (Rs.one rfl (zo rfl)) ?_))))
 exact zf _
end Sx
end Go.Proofs.YtgokpcnabgacnaaGreatDoor
namespace Go.Proofs.YtgokpcnabgacnaaGreatDoor
open Go.RowKit
namespace Sx
def Rnd.b8 (z : Int) : UInt8 := UInt8.ofNat (z % 256).toNat
theorem b8_w (z : Int) : IntKind.u8.wrap z = ((Rnd.b8 z).toNat : Int) := by
 have h0 : 0 ≤ z % 256 := Int.emod_nonneg _ d9
 have h1 : z % 256 < 256 := Int.emod_lt_of_pos _ d9
 have h2 : IntKind.u8.wrap z = z % 256 := by simp [IntKind.wrap, IntKind.signed, IntKind.bits]
 rw [h2]
 unfold Rnd.b8
 have h3 : (UInt8.ofNat (z % 256).toNat).toNat = (z % 256).toNat % 256 := rfl
 rw [h3]
 omega
def Rnd.sld (l : List Acc.T) (nm : List UInt8) (rnd ser : Int) (key bid : List UInt8) : Env.T := Env.slT l nm rnd ser key (List.replicate 16 (Rnd.b8 ser)) bid
theorem con_sealed (gb : Nat) (s : Bst) (l : List Acc.T) (nm : List UInt8) (rnd ser : Int) (key bid : List UInt8) (hf : Acc.Fine l) : ConR Tryz.prog 23 [.c gb [isD (.map (s.M.map Prod.fst)), isD (.slice s.n.A (Acc.nm l).length s.n.c), isD (.map (s.M.map Prod.snd))], .r s.n.F (yb 9 1 Zb s.n.A s.n.c (Acc.nm l)), .r s.F1 (zX (s.M.map Prod.fst) yq (Acc.nm l) (acD l)), .r s.F2 (zX (s.M.map Prod.snd) yn (Acc.seats l) (seD l))] [pA gb, yt nm, iD rnd, iD ser, bD key, bD bid] (fun _ : Unit => [.c gb [isD (.map (s.M.map Prod.fst)), isD (.slice s.n.A (Acc.nm l).length s.n.c), isD (.map (s.M.map Prod.snd))], .r s.n.F (yb 9 1 Zb s.n.A s.n.c (Acc.nm l)), .r s.F1 (zX (s.M.map Prod.fst) yq (Acc.nm l) (acD l)), .r s.F2 (zX (s.M.map Prod.snd) yn (Acc.seats l) (seD l))]) (fun _ : Unit => yX (encEn (Rnd.sld l nm rnd ser key bid))) := by
 refine zY Tryz.func23 k9 rfl k9 fun base w0 => (zh (zb (zk (S := []) (zQ (zs := [.string ⟨#[]⟩, .int .i64 0, .int .i64 0, .slice none 0 0, .slice none 0 0]) k9 rfl) ?_)))
 rintro _ ⟨g12, rfl⟩
 refine zg (zc (zh (zb (za rfl (zd rfl) (za rfl (zd rfl) (za rfl (zd rfl) (za rfl (zd rfl) (za rfl (zd rfl) (za rfl (zd rfl) (za rfl (Rd.cvW (r := ((Rnd.b8 ser).toNat : Int)) .i64 rfl k9 k9 (b8_w ser)) (zk (S := []) (yo (con_row (Rnd.b8 ser) 16 d9) rfl ⟨zf _, zf _, trivial⟩ rfl) ?_)))))))))))
 rintro _ rfl
 refine za rfl (zd rfl) (zk (zB [0, 1, 2, 3] (con_sealE gb s l nm rnd ser key (List.replicate 16 (Rnd.b8 ser)) bid hf) rfl ⟨zf _, zf _, zf _, zf _, zf _, zf _, zf _, trivial⟩ d9 (sX rfl) (fun _ h => h) rfl) ?_)
 rintro _ ⟨⟨⟩, rfl⟩
 refine za rfl (zd rfl) (za rfl (zq rfl rfl) (za rfl (zq rfl rfl) (zk (S := []) (zQ (zs := [.string ⟨#[]⟩, .int .i64 0, .int .i64 0, .slice none 0 0, .slice none 0 0]) k9 rfl) ?_)))
 rintro _ ⟨g13, rfl⟩
 refine zk (S := [_]) (zF 5 rfl rfl rfl k9 rfl (List.mem_singleton.2 rfl)) ?_
 rintro _ rfl
 refine za rfl (ze rfl) (zg (zc (zh ?_)))
 obtain ⟨x, hx⟩ : ∃ x, x = Rnd.sld l nm rnd ser key bid := ⟨_, rfl⟩
 refine zO (σ' := zR [(12, pA g12), (13, pA g13)] [.c gb [isD (.map (s.M.map Prod.fst)), isD (.slice s.n.A (Acc.nm l).length s.n.c), isD (.map (s.M.map Prod.snd))], .r s.n.F (yb 9 1 Zb s.n.A s.n.c (Acc.nm l)), .r s.F1 (zX (s.M.map Prod.fst) yq (Acc.nm l) (acD l)), .r s.F2 (zX (s.M.map Prod.snd) yn (Acc.seats l) (seD l)), .c g12 [yt [], iD 0, iD 0, isD (.slice none 0 0), isD (.slice none 0 0)], .c g13 [yt x.acc, iD x.rnd, iD x.ser, bD x.box, bD x.tag]]) (⟨⟨_, rfl, (sT rfl)⟩, [1, 2, 3, 4, 0, 5], by decide, ⟨la rfl, ⟨lR rfl, ⟨lR rfl, ⟨lR rfl, ⟨la rfl, ⟨⟨_, rfl, (by rw [hx]; exact yC _)⟩, trivial⟩⟩⟩⟩⟩⟩⟩) (zb (za rfl (zG 5 5 rfl rfl k9 rfl zp) (zk (S := [_]) (zF 4 rfl rfl rfl k9 rfl (List.mem_singleton.2 rfl)) ?_)))
 rintro _ rfl
 refine zg (zc (zS (fn := Tryz.f23) (()) [0, 1, 2, 3] (fun _ _ h => h) (Rs.le (Rs.one rfl (yB 4 rfl rfl k9)) ?_) d9 (sX rfl)))
 rw [← hx]; exact zf _
theorem con_kinds (es : List Led.Ent) (ks : List Int) (hl : es.length ≤ 100000) (hb : ∀ e ∈ es, e.bytes.length ≤ 1000000) : ConN Tryz.prog 47 [ledD es, lsD encI ks] (yY (decide ((es.map Led.Ent.kind) = ks))) := by
 refine yE Tryz.func47 k9 rfl k9 fun base w0 => (zh (zb (za rfl (ze rfl) (zg (zc (zh (zh (zb (za rfl (zd rfl) (zk (S := []) (zA [] (con_len es) rfl ⟨(zr (zf _)), trivial⟩ rfl) ?_))))))))))
 rintro _ rfl
 refine za rfl (zd rfl) (za rfl (yV (e := 3) rfl k9) (za rfl (yd rfl rfl) (zg (zc (zJ rfl (fun hb12 => ?_) (fun hb12 => ?_))))))
 ·have h12 : ¬ es.length = ks.length := by (have h := hb12; simp at h; omega)
  refine zh (zb (za rfl (ze rfl) (zg (zc (zH (fn := Tryz.f47) (fun _ _ h => h) (Rs.le (Rs.one rfl (zo rfl)) ?_))))))
  exact zP (by symm; apply decide_eq_false; intro h; exact h12 (by rw [← h, List.length_map]))
 ·have h12 : es.length = ks.length := by (have h := hb12; simp at h; omega)
  refine zu (zc (zh (zh (zb (za rfl (ze rfl) (zg (zc (zW (Zq (ι := {i : Nat // i ≤ ks.length ∧ ∀ j, j < i → (es.map Led.Ent.kind)[j]? = ks[j]?}) (fun i => zR [(0, ledD es), (1, lsD encI ks), (5, iD (i.1 : Int))] []) (fun i => ks.length - i.1) (⟨0, Nat.zero_le _, fun j hj => absurd hj (Nat.not_lt_zero _)⟩) ?_ ?_)))))))))
  ·exact (sB [] rfl rfl)
  ·rintro ⟨i, hi, hq⟩ K0 hK0
   dsimp only at hi hq ⊢
   refine zh (zh (zb (za rfl (zd rfl) (za rfl (zd rfl) (za rfl (yV (e := 3) rfl k9) (za rfl (yG rfl rfl) (zg (zc (zJ rfl (fun hb16 => ?_) (fun hb16 => ?_))))))))))
   ·have h16 : (i : Int) < (ks.length : Int) := of_decide_eq_true hb16
    refine zu (zc (zh (zW (zh ?_))))
    obtain ⟨e, he⟩ : ∃ e, es[i]? = some e := ⟨_, List.getElem?_eq_getElem o9⟩
    obtain ⟨k, hk⟩ : ∃ k, ks[i]? = some k := ⟨_, List.getElem?_eq_getElem o9⟩
    refine zb (za rfl (zd rfl) (za rfl (zd rfl) (zk (S := []) (zA [] (con_at es i e he (hb e (List.mem_of_getElem? he))) rfl ⟨(zr (zf _)), (zr (zf _)), trivial⟩ rfl) ?_)))
    rintro _ rfl
    refine za rfl (zd rfl) (za rfl (zq rfl rfl) (za rfl (zq rfl rfl) (zk (S := []) (zQ (zs := [.int .i64 0, .slice none 0 0]) k9 rfl) ?_)))
    rintro _ ⟨g6, rfl⟩
    refine zk (S := [_]) (zF 0 rfl rfl rfl k9 rfl (List.mem_singleton.2 rfl)) ?_
    rintro _ rfl
    refine za rfl (ze rfl) (zg (zc (zh (yj [] (.r 0 (.r 1 (.r 2 (.r 3 (.r 4 (.r 5 (.r 6 (.r 7 (.r 8 (.r 9 (.r 10 .fin))))))))))) k9 k9 (fun d _ _ _ _ h => by cases d <;> exact h) (zj rfl rfl (zd rfl) (zj rfl rfl (yd rfl rfl) (zj rfl rfl (zd rfl) (zN rfl rfl rfl s9 rfl rfl (zi (n := 0) rfl k9) (zN rfl rfl rfl s9 rfl rfl (zl 0 rfl rfl rfl k9 zp) (zN rfl rfl rfl s9 rfl rfl (zd rfl) (zN rfl rfl rfl s9 rfl rfl (zd rfl) (zN rfl rfl rfl s9 rfl rfl (yK (e := 3) 1 rfl rfl k9 k9 o9 (by simpa using hk)) (zN rfl rfl rfl s9 rfl rfl (ym rfl rfl k9 s9) (zN rfl rfl rfl s9 rfl rfl (yd rfl rfl) (zj rfl rfl (zy rfl s9 rfl) (zV (zc (zJ rfl (fun hb35 => ?_) (fun hb35 => ?_)))))))))))))))))))
    ·have h35 : ¬ e.kind = k := by simpa using hb35
     refine zh (zb (za rfl (ze rfl) (zg (zc (zH (fn := Tryz.f47) (fun _ _ h => h) (Rs.le (Rs.one rfl (zo rfl)) ?_))))))
     exact zP (by symm; apply decide_eq_false; intro h; rw [← h, List.getElem?_map, he] at hk; exact h35 (Option.some.inj hk))
    ·have h35 : e.kind = k := by simpa using hb35
     exact zu (ye (zc (zb (za rfl (zd rfl) (za rfl (yM rfl rfl ⟨by omega, by omega⟩) (za rfl (ze rfl) (zg (fun a w hh => hK0 (⟨i + 1, by omega, fun j hj => by (rcases Nat.lt_succ_iff_lt_or_eq.1 hj with h | h; exact hq j h; (rw [h, List.getElem?_map, he, hk, Option.map_some, h35]))⟩) (by dsimp only; omega) a w (hh.sub (⟨⟨_, rfl, ⟨lq rfl, ⟨lq rfl, ⟨⟨_, rfl, zC s9⟩, trivial⟩⟩⟩⟩, [], by decide, trivial⟩))))))))))
   ·have h16 : ¬ (i : Int) < (ks.length : Int) := of_decide_eq_false hb16
    refine yW ?_
    repeat (first | refine Zi ?_ | refine Zj d9 ?_)
    refine Zk (zc (zh (zb (za rfl (ze rfl) (zg (zc (zH (fn := Tryz.f47) (fun _ _ h => h) (Rs.le (Rs.one rfl (zo rfl)) ?_))))))))
    exact zP (by symm; apply decide_eq_true; exact ext_upto (by rw [List.length_map]; exact h12) (by rw [List.length_map]; omega) hq)
end Sx
end Go.Proofs.YtgokpcnabgacnaaGreatDoor
namespace Go.Proofs.YtgokpcnabgacnaaGreatDoor
open Go.RowKit
namespace Sx
theorem hFind : Acc.find hL nmA = some hA := rfl
structure KE (x : Env.T) (n : Int) (b : List UInt8) : Prop where
 ok : Env.ok x
 aut : Env.autE hL x = 0
 acc : x.acc = nmA
 rnd : x.rnd = 0
 ser : x.ser = n
 op1 : Env.opE hL x k1L = 0
 op2 : Env.opB hL x k1L = b
theorem ke {n : Int} {b : List UInt8} (hn : 0 ≤ n ∧ n ≤ 1073741824) (hb : b.length ≤ 4096) : KE (Rnd.sld hL nmA 0 n k1L b) n b := by
 have h := Env.sld (key := k1L) (nonce := List.replicate 16 (Rnd.b8 n)) (bid := b) hFine hFind (show (0 : Int) ≤ 0 ∧ (0 : Int) ≤ 1048576 by decide) hn s9 s9 hb
 have ho := Env.op_sld h s9 s9 hb
 have he : Rnd.sld hL nmA 0 n k1L b = Env.mk hL nmA 0 n k1L (List.replicate 16 (Rnd.b8 n)) b := h.eq
 rw [he]
 exact ⟨h.ok, h.aut, rfl, rfl, rfl, ho.1, ho.2⟩
theorem comB_len {k : List UInt8} (h : k.length = 32) : (Env.comB k).length = 32 := by
 unfold Env.comB Env.comH
 rw [if_pos h]
 simp
theorem sch_ok : Rnd.ok schL := by
 have h1 : (Env.comB k1L).length = 32 := comB_len s9
 have h2 : (Env.comB k2L).length = 32 := comB_len s9
 exact ⟨⟨by decide, by decide⟩, ⟨by decide, by decide, by decide, by decide, h1⟩, ⟨by decide, by decide, by decide, by decide, h2⟩, trivial⟩
theorem com_ne : Env.comB k2L ≠ Env.comB k1L := by decide +kernel
abbrev kS0 : Rnd.S := Rnd.start hL schL
def kS1 (x : Env.T) : Rnd.S := ⟨hL, schL, [x], [[], []], 10, [⟨1, Rnd.subP x 10⟩]⟩
def kS2 (x y : Env.T) : Rnd.S := ⟨hL, schL, [y], [[], []], 19, [⟨1, Rnd.subP x 10⟩, ⟨1, Rnd.subP y 19⟩]⟩
def kS3 (x y : Env.T) : Rnd.S := ⟨hL, schL, [y], [k1L, []], 25, [⟨1, Rnd.subP x 10⟩, ⟨1, Rnd.subP y 19⟩, ⟨2, Rnd.revP 0 k1L 25⟩]⟩
theorem kGood0 : Rnd.Good kS0 := Rnd.good_start hFine sch_ok
section
variable {x y : Env.T} {b c : List UInt8} (hx : KE x 1 b) (hy : KE y 2 c)
include hx
theorem kSub1 : Rnd.subE kS0 x 9 = 8 := by
 unfold Rnd.subE
 rw [if_neg (not_not_intro ⟨hx.ok, by decide⟩), if_neg (not_not_intro ⟨by decide, by rw [hx.rnd]; decide⟩), hx.rnd, if_pos d9]
theorem kSub2 : Rnd.subE kS0 x 10 = 0 := by
 unfold Rnd.subE
 rw [if_neg (not_not_intro ⟨hx.ok, by decide⟩), if_neg (not_not_intro ⟨by decide, by rw [hx.rnd]; decide⟩), hx.rnd, if_neg d9, if_neg (show ¬ Env.autE kS0.bk x ≠ 0 from not_not_intro hx.aut), if_neg (fun ⟨z, hz, _⟩ => by cases hz), if_neg d9]
theorem kSt1 : Rnd.subS kS0 x 9 = kS0 := if_neg (by rw [kSub1 hx]; decide)
theorem kSt2 : Rnd.subS kS0 x 10 = kS1 x := by rw [Rnd.subS, if_pos (kSub2 hx)]; rfl
theorem kSub3 : Rnd.subE (kS1 x) x 11 = 11 := by
 unfold Rnd.subE
 rw [if_neg (not_not_intro ⟨hx.ok, by decide⟩), if_neg (not_not_intro ⟨by show (10 : Int) ≤ 11; decide, by rw [hx.rnd]; exact (by decide : (0 : Int) ≤ 0 ∧ (0 : Int) < 2)⟩), hx.rnd, if_neg (by show ¬ Rnd.st kS0 _ 11 ≠ 2; decide), if_neg (show ¬ Env.autE (kS1 x).bk x ≠ 0 from not_not_intro hx.aut), if_pos ⟨x, List.mem_singleton.2 rfl, ⟨rfl, rfl⟩, Int.le_refl _⟩]
theorem kSt3 : Rnd.subS (kS1 x) x 11 = kS1 x := if_neg (by rw [kSub3 hx]; decide)
include hy
theorem kSame : Rnd.same x y := ⟨hx.acc.trans hy.acc.symm, hx.rnd.trans hy.rnd.symm⟩
theorem kSub4 : Rnd.subE (kS1 x) y 19 = 0 := by
 unfold Rnd.subE
 rw [if_neg (not_not_intro ⟨hy.ok, by decide⟩), if_neg (not_not_intro ⟨by show (10 : Int) ≤ 19; decide, by rw [hy.rnd]; exact (by decide : (0 : Int) ≤ 0 ∧ (0 : Int) < 2)⟩), hy.rnd, if_neg (by show ¬ Rnd.st kS0 _ 19 ≠ 2; decide), if_neg (show ¬ Env.autE (kS1 x).bk y ≠ 0 from not_not_intro hy.aut), if_neg, if_neg (by show ¬ 4096 ≤ 1; decide)]
 rintro ⟨z, hz, _, h⟩
 rw [List.mem_singleton.1 hz, hx.ser, hy.ser] at h
 omega
theorem kPut : Rnd.put [x] y = [y] := by
 unfold Rnd.put
 rw [List.filter_cons_of_neg (by simpa using kSame hx hy)]
 rfl
theorem kSt4 : Rnd.subS (kS1 x) y 19 = kS2 x y := by
 rw [Rnd.subS, if_pos (kSub4 hx hy)]
 show (⟨hL, schL, Rnd.put [x] y, [[], []], 19, _⟩ : Rnd.S) = _
 rw [kPut hx hy]
 rfl
omit hx in
theorem kSub5 : Rnd.subE (kS2 x y) y 20 = 8 := by
 unfold Rnd.subE
 rw [if_neg (not_not_intro ⟨hy.ok, by decide⟩), if_neg (not_not_intro ⟨by show (19 : Int) ≤ 20; decide, by rw [hy.rnd]; exact (by decide : (0 : Int) ≤ 0 ∧ (0 : Int) < 2)⟩), hy.rnd, if_pos (by show Rnd.st kS0 _ 20 ≠ 2; decide)]
omit hx in
theorem kSt5 : Rnd.subS (kS2 x y) y 20 = kS2 x y := if_neg (by rw [kSub5 hy]; decide)
omit hx hy in
theorem kAt1 : Rnd.atS (kS2 x y) 0 19 = 2 ∧ Rnd.atE (kS2 x y) 0 19 = 0 := ⟨by show Rnd.atS kS0 0 19 = 2; decide, by show Rnd.atE kS0 0 19 = 0; decide⟩
omit hx hy in
theorem kAt2 : Rnd.atS (kS2 x y) 0 20 = 3 ∧ Rnd.atE (kS2 x y) 0 20 = 0 := ⟨by show Rnd.atS kS0 0 20 = 3; decide, by show Rnd.atE kS0 0 20 = 0; decide⟩
omit hx hy in
theorem kBids1 : Zg (kS2 x y) 0 = 8 ∧ Rnd.bidsV (kS2 x y) 0 = [] := by
 have h : Zg (kS2 x y) 0 = 8 := by show Zg kS0 0 = 8; decide
 exact ⟨h, Rnd.bids_no (by rw [h]; decide)⟩
omit hx hy in
theorem kRev1 : Rnd.revE (kS2 x y) 0 k1L 24 = 8 := by
 unfold Rnd.revE
 rw [if_neg (not_not_intro ⟨by simp, by decide⟩), if_neg (not_not_intro ⟨by show (19 : Int) ≤ 24; decide, (by decide : (0 : Int) ≤ 0 ∧ (0 : Int) < 2)⟩), if_pos (fun h => absurd h.1 (by show ¬ (25 : Int) ≤ 24; decide))]
omit hx hy in
theorem kRev2 : Rnd.revE (kS2 x y) 0 k2L 25 = 10 := by
 unfold Rnd.revE
 rw [if_neg (not_not_intro ⟨by simp, by decide⟩), if_neg (not_not_intro ⟨by show (19 : Int) ≤ 25; decide, (by decide : (0 : Int) ≤ 0 ∧ (0 : Int) < 2)⟩), if_neg (not_not_intro ⟨by show (25 : Int) ≤ 25; decide, rfl⟩), if_pos (show Env.comB k2L ≠ (Rnd.winAt (kS2 x y).ws (Int.toNat 0)).cm from com_ne)]
omit hx hy in
theorem kRev3 : Rnd.revE (kS2 x y) 0 k1L 25 = 0 := by
 unfold Rnd.revE
 rw [if_neg (not_not_intro ⟨by simp, by decide⟩), if_neg (not_not_intro ⟨by show (19 : Int) ≤ 25; decide, (by decide : (0 : Int) ≤ 0 ∧ (0 : Int) < 2)⟩), if_neg (not_not_intro ⟨by show (25 : Int) ≤ 25; decide, rfl⟩), if_neg (show ¬ Env.comB k1L ≠ (Rnd.winAt (kS2 x y).ws (Int.toNat 0)).cm from not_not_intro rfl), if_neg (by show ¬ 4096 ≤ 2; decide)]
omit hx hy in
theorem kRv1 : Rnd.revS (kS2 x y) 0 k1L 24 = kS2 x y := if_neg (by rw [kRev1]; decide)
omit hx hy in
theorem kRv2 : Rnd.revS (kS2 x y) 0 k2L 25 = kS2 x y := if_neg (by rw [kRev2]; decide)
omit hx hy in
theorem kRv3 : Rnd.revS (kS2 x y) 0 k1L 25 = kS3 x y := by rw [Rnd.revS, if_pos kRev3]; rfl
omit hx hy in
theorem kRev4 : Rnd.revE (kS3 x y) 0 k1L 26 = 8 := by
 unfold Rnd.revE
 rw [if_neg (not_not_intro ⟨by simp, by decide⟩), if_neg (not_not_intro ⟨by show (25 : Int) ≤ 26; decide, (by decide : (0 : Int) ≤ 0 ∧ (0 : Int) < 2)⟩), if_pos (fun h => absurd h.2 (by show ¬ k1L = []; decide))]
omit hx hy in
theorem kRv4 : Rnd.revS (kS3 x y) 0 k1L 26 = kS3 x y := if_neg (by rw [kRev4]; decide)
omit hx in
theorem kOf2 : Z1 (kS3 x y) 0 = [y] := by
 have h0 : Rnd.has (kS3 x y) 0 := (by decide : (0 : Int) ≤ 0 ∧ (0 : Int) < 2)
 rw [Z1, if_pos h0]
 have g1 : Rnd.getE [y] 0 nmA = some y := by
  unfold Rnd.getE
  rw [List.find?_cons_of_pos (by simp [hy.rnd, hy.acc])]
 have g2 : Rnd.getE [y] 0 nmB = none := by
  unfold Rnd.getE
  rw [List.find?_cons_of_neg (by rw [hy.rnd, hy.acc]; decide)]
  rfl
 have g3 : Rnd.getE [y] 0 nmC = none := by
  unfold Rnd.getE
  rw [List.find?_cons_of_neg (by rw [hy.rnd, hy.acc]; decide)]
  rfl
 show [nmA, nmB, nmC].filterMap (Rnd.getE [y] 0) = [y]
 rw [List.filterMap_cons_some g1, List.filterMap_cons_none g2, List.filterMap_cons_none g3]
 rfl
omit hx in
theorem kBids2 : Zg (kS3 x y) 0 = 0 ∧ Rnd.bidsV (kS3 x y) 0 = [⟨nmA, 2, c, false⟩] := by
 have h : Zg (kS3 x y) 0 = 0 := by
  unfold Zg
  rw [if_neg (show ¬ ¬ Rnd.has (kS3 x y) 0 from not_not_intro (by decide : (0 : Int) ≤ 0 ∧ (0 : Int) < 2)), if_neg (by show ¬ k1L = []; decide)]
 refine ⟨h, ?_⟩
 rw [Rnd.bidsV, if_pos h, yu, kOf2 hy]
 show [Rnd.opn hL k1L y] = _
 unfold Rnd.opn
 rw [hy.acc, hy.ser, hy.op1, hy.op2]
 rfl
omit hx hy in
theorem kKinds : (kS3 x y).en.map Led.Ent.kind = [1, 1, 2] := rfl
end
end Sx
end Go.Proofs.YtgokpcnabgacnaaGreatDoor
