/- ROUNDS: the reference's Follow. ROUNDS: submitted, revealed. ROUNDS: what the laws are given. -/
import Derived.Test.YtgokpcnabgacnaaGreatDoorGZBG
import Derived.Test.YtgokpcnabgacnaaGreatDoorGZAU
set_option maxHeartbeats 8000000
set_option maxRecDepth 100000
namespace Go.Proofs.YtgokpcnabgacnaaGreatDoor
open Go.RowKit
namespace Sx
end Sx
end Go.Proofs.YtgokpcnabgacnaaGreatDoor
namespace Go.Proofs.YtgokpcnabgacnaaGreatDoor
open Go.RowKit
namespace Sx
end Sx
end Go.Proofs.YtgokpcnabgacnaaGreatDoor
namespace Go.Proofs.YtgokpcnabgacnaaGreatDoor
open Go.RowKit
namespace Sx
theorem row_step {i n : Nat} {b : UInt8} (h : i < n) : ((cellsOf (List.replicate i b ++ List.replicate (n - i) 0)).map isD).set i (isD (B8 b)) = (cellsOf (List.replicate (i + 1) b ++ List.replicate (n - (i + 1)) 0)).map isD := by
 rw [show n - i = (n - (i + 1)) + 1 by omega, List.replicate_succ, List.replicate_succ']
 simp only [cellsOf, List.map_append, List.map_cons, List.map_replicate, List.append_assoc, List.map_nil]
 rw [List.set_append_right _ _ s9]
 simp
theorem bldA4m {n : List UInt8} {r m : Int} {b : List UInt8} : Bld Tryz.prog 121 [0, 1, 2, 4] [yt n, iD r, bD b, iD m] [yt n, iD r, bD b, iD 0, iD m] := fun L w vs hv => by
 match vs, hv with
 | [x, y, z, u], ⟨hx, hy, h3, hu, _⟩ =>
  cases hx; cases hy; cases hu
  have h3' := h3
  obtain ⟨A, cp, rfl, -⟩ := h3
  exact ⟨[.string _, .int .i64 r, .slice A _ cp, .int .i64 0, .int .i64 m], ⟨rfl, rfl, h3', rfl, rfl, trivial⟩, fun w' => by kernel_rfl⟩
abbrev nmA : List UInt8 := [97, 99, 109, 101]
abbrev nmB : List UInt8 := [98, 101, 108, 108]
abbrev nmC : List UInt8 := [107, 45, 116, 118]
abbrev nmL : List (List UInt8) := [nmA, nmB, nmC]
abbrev hA : Acc.T := ⟨nmA, 2, List.replicate 32 8, 0, 0⟩
abbrev hB : Acc.T := ⟨nmB, 2, List.replicate 32 9, 0, 1⟩
abbrev hC : Acc.T := ⟨nmC, 2, List.replicate 32 10, 0, 2⟩
abbrev hL : List Acc.T := [hA, hB, hC]
theorem hAdd1 : Acc.add [] hA = ([hA], 0) := (y8 (by decide +kernel) (by decide +kernel) d9).trans (by rfl)
theorem hAdd2 : Acc.add [hA] hB = ([hA, hB], 0) := (y8 (by decide +kernel) (by decide +kernel) d9).trans (by rfl)
theorem hAdd3 : Acc.add [hA, hB] hC = (hL, 0) := (y8 (by decide +kernel) (by decide +kernel) d9).trans (by rfl)
theorem hFine1 : Acc.Fine [hA] := by have h := Acc.Fine.nil.add hA; rw [hAdd1] at h; exact h
theorem hFine2 : Acc.Fine [hA, hB] := by have h := hFine1.add hB; rw [hAdd2] at h; exact h
theorem hFine : Acc.Fine hL := by have h := hFine2.add hC; rw [hAdd3] at h; exact h
theorem blsT3 {a b c : List UInt8} : Bls Tryz.prog 114 3 [0, 1, 2] [yt a, yt b, yt c] ([a, b, c].flatMap Zb) := ⟨9, fun L w vs hv => by
 obtain ⟨u, v, z, rfl, rfl, rfl, rfl⟩ := all3 hv
 exact ⟨[.string _, .string _, .string _], ⟨rfl, rfl, rfl, trivial⟩, fun w' => by kernel_rfl⟩⟩
theorem con_AddR_to {l l' : List Acc.T} {a : Acc.T} {e : Int} (hf : Acc.Fine l) (h : Acc.add l a = (l', e)) (hs : a.name.length ≤ 1000000) :
  ConR Tryz.prog 50 [] [yX [lsD Yk l], yX [yt a.name, iD a.role, bD a.key, iD a.dep, iD a.num]] (fun _ : Unit => []) (fun _ : Unit => tupD [yX [lsD Yk l'], iD e]) := by
 have hc := con_AddR l a hf hs
 rw [h] at hc
 exact hc
theorem Z9 (b : UInt8) (n : Nat) (hn : n ≤ 1000000) : Con Tryz.prog 10 [isD (B8 b), iD (n : Int)] (bD (List.replicate n b)) := by
 refine con_of Tryz.func10 k9 rfl k9 fun base w0 => (zh (zb (za rfl (ze rfl) (zg (zc (zh (zb (za rfl (zd rfl) (zk (S := []) (Ef.make (e := 5) (z := .int .u8 0) (n := n) 1 rfl rfl k9 k9 rfl rfl rfl o9 d9 rfl) ?_)))))))))
 rintro _ ⟨g8, rfl⟩
 refine za rfl (ze rfl) (zg (zc (zh (zh (zb (za rfl (ze rfl) (zg (zc (zW (Zq (ι := {i : Nat // i ≤ n}) (fun i => zR [(0, isD (B8 b)), (1, iD (n : Int)), (5, isD (.slice (some ⟨g8, 0, none⟩) n n)), (6, iD (i.1 : Int))] [.c g8 ((cellsOf (List.replicate i.1 b ++ List.replicate (n - i.1) 0)).map isD)]) (fun i => n - i.1) (⟨0, Nat.zero_le _⟩) ?_ ?_))))))))))
 ·exact ⟨⟨_, rfl, (sT rfl)⟩, [0], by decide, ⟨⟨_, rfl, leAll_eq (by simp [cellsOf]; exact Or.inr rfl)⟩, trivial⟩⟩
 ·rintro ⟨i, hi⟩ K0 hK0
  dsimp only at hi ⊢
  refine zh (zh (zb (za rfl (zd rfl) (za rfl (zd rfl) (za rfl (yG rfl rfl) (zg (zc (zJ rfl (fun hb11 => ?_) (fun hb11 => ?_)))))))))
  ·have hb11 := of_decide_eq_true hb11
   refine zu (zc (zh (zW (zb (za rfl (zd rfl) (za rfl (zd rfl) (za rfl (zd rfl) (za rfl (Rd.idxE (e := 5) rfl rfl k9 k9 o9 o9) (zk (S := [_]) (Ef.storeE 0 rfl rfl rfl k9 (by simp; omega) (List.mem_singleton.2 rfl)) ?_)))))))))
   rintro _ rfl
   exact zg (ye (zc (zb (za rfl (zd rfl) (za rfl (yM rfl rfl ⟨by omega, by omega⟩) (za rfl (ze rfl) (zg (fun a w hh => hK0 (⟨i + 1, by omega⟩) (by dsimp only; omega) a w (hh.sub (⟨⟨_, rfl, ⟨lq rfl, ⟨lq rfl, ⟨lq rfl, ⟨⟨_, rfl, zC s9⟩, trivial⟩⟩⟩⟩⟩, [0], by decide, ⟨⟨_, rfl, leAll_eq (by rw [show 0 + ((i : Nat) : Int).toNat = i by simp]; exact row_step o9)⟩, trivial⟩⟩))))))))))
  ·obtain rfl : i = n := by have := of_decide_eq_false hb11; omega
   refine yW ?_
   repeat (first | refine Zi ?_ | refine Zj d9 ?_)
   refine Zk (zc (zh (zb (SWl.freeze 5 0 (cellsOf (List.replicate i b)) rfl rfl s9 (Nat.le_refl _) (by rw [Nat.sub_self]; simp) (za rfl (zd rfl) (za rfl (ze rfl) (zg (zc (zH (fn := Tryz.f10) (fun _ _ h => h) (Rs.le (Rs.one rfl (zo rfl)) ?_))))))))))
   exact zf _
theorem con_names  : Con Tryz.prog 48 [] (lsD Zb nmL) := by
 refine con_of Tryz.func48 k9 rfl k9 fun base w0 => (zh (zb (za rfl (ze rfl) (zg (zc (zh (zb (zk (S := []) (Zl rfl rfl blsT3 rfl) ?_))))))))
 rintro _ rfl
 refine za rfl (ze rfl) (zg (zc (zH (fn := Tryz.f48) (fun _ _ h => h) (Rs.le (Rs.one rfl (zo rfl)) ?_))))
 exact zf _
theorem con_commitL (key : List UInt8) (hk : key.length ≤ 100000) : Con Tryz.prog 59 [bD key] (bD (Env.comB key)) := by
 refine con_of Tryz.func59 k9 rfl k9 fun base w0 => (zh (zb (za rfl (ze rfl) (zg (zc (zh (zb (za rfl (zd rfl) (zk (S := []) (yo (con_commitR key hk) rfl ⟨zf _, trivial⟩ rfl) ?_)))))))))
 rintro _ rfl
 refine za rfl (zd rfl) (za rfl (zq rfl rfl) (za rfl (zq rfl rfl) (za rfl (ze rfl) (za rfl (ze rfl) (zg (zc (zh (zb (za rfl (zd rfl) (zk (S := []) (Ef.bytes (e := 5) rfl k9 k9 k9 rfl) ?_))))))))))
 rintro _ rfl
 refine za rfl (ze rfl) (zg (zc (zH (fn := Tryz.f59) (fun _ _ h => h) (Rs.le (Rs.one rfl (zo rfl)) ?_))))
 exact le_nw
theorem con_given  : ConR Tryz.prog 11 [] [] (fun t : Nat × Bst => [.c t.1 [isD (.map (t.2.M.map Prod.fst)), isD (.slice t.2.n.A (Acc.nm hL).length t.2.n.c), isD (.map (t.2.M.map Prod.snd))], .r t.2.n.F (yb 9 1 Zb t.2.n.A t.2.n.c (Acc.nm hL)), .r t.2.F1 (zX (t.2.M.map Prod.fst) yq (Acc.nm hL) (acD hL)), .r t.2.F2 (zX (t.2.M.map Prod.snd) yn (Acc.seats hL) (seD hL))]) (fun t : Nat × Bst => tupD [pA t.1, yX [lsD Yk hL]]) := by
 refine zY Tryz.func11 k9 rfl k9 fun base w0 => (zh (zb (za rfl (ze rfl) (zk (S := []) (zQ (zs := [.slice none 0 0]) k9 rfl) ?_))))
 rintro _ ⟨g1, rfl⟩
 refine zg (zc (zh (zb (za rfl (yh rfl rfl bldBk0) (zk (S := []) (yF rfl rfl) ?_)))))
 rintro _ ⟨g7, rfl⟩
 refine za rfl (yh rfl rfl bldRB0) (zk (S := []) (zQ (zs := [.slice none 0 0]) k9 rfl) ?_)
 rintro _ ⟨g3, rfl⟩
 refine za rfl (ze rfl) (zk (S := [_]) (zF 2 rfl rfl rfl k9 rfl (List.mem_singleton.2 rfl)) ?_)
 rintro _ rfl
 refine zg (zc (zh (zh (zb (za rfl (ze rfl) (zg (zc (zW (SW.rounds 3 (zh (zh (SW.vecN 9 1 Zb (SW.mapQN yq (acD []) (SW.mapQN yn (seD []) (zO (σ' := zR [(1, pA g1), (2, pA g7), (3, pA g3), (4, iD 0)] [.c g7 [isD (.map ((⟨none, [], [], ⟨none, 0, []⟩⟩ : Bst).M.map Prod.fst)), isD (.slice (⟨none, [], [], ⟨none, 0, []⟩⟩ : Bst).n.A (Acc.nm ([] : List Acc.T)).length (⟨none, [], [], ⟨none, 0, []⟩⟩ : Bst).n.c), isD (.map ((⟨none, [], [], ⟨none, 0, []⟩⟩ : Bst).M.map Prod.snd))], .r (⟨none, [], [], ⟨none, 0, []⟩⟩ : Bst).n.F (yb 9 1 Zb (⟨none, [], [], ⟨none, 0, []⟩⟩ : Bst).n.A (⟨none, [], [], ⟨none, 0, []⟩⟩ : Bst).n.c (Acc.nm ([] : List Acc.T))), .r (⟨none, [], [], ⟨none, 0, []⟩⟩ : Bst).F1 (zX ((⟨none, [], [], ⟨none, 0, []⟩⟩ : Bst).M.map Prod.fst) yq (Acc.nm ([] : List Acc.T)) (acD ([] : List Acc.T))), .r (⟨none, [], [], ⟨none, 0, []⟩⟩ : Bst).F2 (zX ((⟨none, [], [], ⟨none, 0, []⟩⟩ : Bst).M.map Prod.snd) yn (Acc.seats ([] : List Acc.T)) (seD ([] : List Acc.T))), .c g1 [isD (.slice none 0 0)], .c g3 [lsD Yk ([] : List Acc.T)]]) (⟨⟨_, rfl, (sT rfl)⟩, [1, 3, 4, 5, 0, 2], by decide, ⟨la rfl, ⟨lR rfl, ⟨lR rfl, ⟨lR rfl, ⟨la rfl, ⟨⟨_, rfl, le_rb0⟩, trivial⟩⟩⟩⟩⟩⟩⟩) (zb (za rfl (zd rfl) (za rfl (yG rfl rfl) (zg (zc (yf rfl d9 (zu (zc (zh (zW (zh (SW.meet (fun σ => ∃ g5, σ = zR [(1, pA g1), (2, pA g7), (3, pA g3), (4, iD 0), (5, pA g5)] [.c g7 [isD (.map ((⟨none, [], [], ⟨none, 0, []⟩⟩ : Bst).M.map Prod.fst)), isD (.slice (⟨none, [], [], ⟨none, 0, []⟩⟩ : Bst).n.A (Acc.nm ([] : List Acc.T)).length (⟨none, [], [], ⟨none, 0, []⟩⟩ : Bst).n.c), isD (.map ((⟨none, [], [], ⟨none, 0, []⟩⟩ : Bst).M.map Prod.snd))], .r (⟨none, [], [], ⟨none, 0, []⟩⟩ : Bst).n.F (yb 9 1 Zb (⟨none, [], [], ⟨none, 0, []⟩⟩ : Bst).n.A (⟨none, [], [], ⟨none, 0, []⟩⟩ : Bst).n.c (Acc.nm ([] : List Acc.T))), .r (⟨none, [], [], ⟨none, 0, []⟩⟩ : Bst).F1 (zX ((⟨none, [], [], ⟨none, 0, []⟩⟩ : Bst).M.map Prod.fst) yq (Acc.nm ([] : List Acc.T)) (acD ([] : List Acc.T))), .r (⟨none, [], [], ⟨none, 0, []⟩⟩ : Bst).F2 (zX ((⟨none, [], [], ⟨none, 0, []⟩⟩ : Bst).M.map Prod.snd) yn (Acc.seats ([] : List Acc.T)) (seD ([] : List Acc.T))), .c g1 [isD (.slice none 0 0)], .c g3 [lsD Yk ([] : List Acc.T)], .c g5 [yt hA.name, iD hA.role, bD hA.key, iD hA.dep, iD hA.num]]) ?_ ?_)))))))))))))))))))))))))))
 ·refine yj [] (.r 1 (.r 4 (.r 5 (.r 6 (.r 8 (.n 0 (.r 2 (.r 3 (.n 7 (.r 9 (.n 10 (.e 11 .fin .no) .no)) (.n 10 (.n 7 (.r 9 (.e 11 .fin .no)) .no) .no)))) (.n 10 (.n 0 (.r 2 (.r 3 (.n 7 (.r 9 (.e 11 .fin .no)) .no))) .no) .no))))))) k9 k9 (fun d _ _ _ _ h => by cases d <;> exact h) (zj rfl rfl (zd rfl) (zj rfl rfl (zd rfl) (zj rfl rfl (yM rfl rfl ⟨by decide, by decide⟩) (zj rfl rfl ((Rd.mono (Rd.cvi .i64 rfl k9 k9) (show Le _ (isD (B8 8)) from zC (by rfl)))) (zj rfl rfl (zd rfl) (yi rfl (yo (con_names) rfl trivial rfl) ?_ ?_))))))
  ·rintro _ rfl
   refine zj rfl rfl (yK (e := 9) 1 rfl rfl k9 k9 d9 rfl) (zj rfl rfl (ym rfl rfl k9 s9) (yi rfl (yo (Z9 8 32 d9) rfl ⟨zf _, zf _, trivial⟩ rfl) ?_ ?_))
   ·rintro _ rfl
    refine zj rfl rfl ((yh rfl rfl (bldA4m (n := nmA) (r := 2) (m := 0)))) (Yb rfl (EfB.alloc (zs := [.string ⟨#[]⟩, .int .i64 0, .slice none 0 0, .int .i64 0, .int .i64 0]) k9 rfl) ?_ zI)
    rintro g5 _ rfl
    refine zZ rfl (zF 6 rfl rfl rfl k9 rfl (List.mem_append_right _ (List.mem_cons_self))) ?_ zI
    rintro _ rfl
    exact zV (yZ ⟨g5, rfl⟩ (sB [0, 1, 2, 3, 4, 5, 6] rfl rfl))
   refine Yb rfl (EfB.alloc (zs := [.string ⟨#[]⟩, .int .i64 0, .slice none 0 0, .int .i64 0, .int .i64 0]) k9 rfl) ?_ zI
   rintro g5 _ rfl
   refine yi rfl (yo (Z9 8 32 d9) rfl ⟨zf _, zf _, trivial⟩ rfl) ?_ zI
   rintro _ rfl
   refine zj rfl rfl ((yh rfl rfl (bldA4m (n := nmA) (r := 2) (m := 0)))) (zZ rfl (zF 6 rfl rfl rfl k9 rfl (List.mem_append_right _ (List.mem_cons_self))) ?_ zI)
   rintro _ rfl
   exact zV (yZ ⟨g5, rfl⟩ (sB [0, 1, 2, 3, 4, 5, 6] rfl rfl))
  refine Yb rfl (EfB.alloc (zs := [.string ⟨#[]⟩, .int .i64 0, .slice none 0 0, .int .i64 0, .int .i64 0]) k9 rfl) ?_ zI
  rintro g5 _ rfl
  refine yi rfl (yo (con_names) rfl trivial rfl) ?_ zI
  rintro _ rfl
  refine zj rfl rfl (yK (e := 9) 1 rfl rfl k9 k9 d9 rfl) (zj rfl rfl (ym rfl rfl k9 (ins_append ins_nil (ins_cons (j := 6) rfl ins_nil))) (yi rfl (yo (Z9 8 32 d9) rfl ⟨zf _, zf _, trivial⟩ rfl) ?_ zI))
  rintro _ rfl
  refine zj rfl rfl ((yh rfl rfl (bldA4m (n := nmA) (r := 2) (m := 0)))) (zZ rfl (zF 6 rfl rfl rfl k9 rfl (List.mem_append_right _ (List.mem_cons_self))) ?_ zI)
  rintro _ rfl
  exact zV (yZ ⟨g5, rfl⟩ (sB [0, 1, 2, 3, 4, 5, 6] rfl rfl))
 ·rintro _ ⟨g5, rfl⟩
  refine zc (zh (zb (za rfl (zd rfl) (za rfl (zG 6 5 rfl rfl k9 rfl zp) (SWl.lookA5 24 rfl fun A24 c24 => (zk (zB [0, 1, 2, 3, 7] (con_add_to (gb := g7) (s := (⟨none, [], [], ⟨none, 0, []⟩⟩ : Bst)) (l := ([] : List Acc.T)) (a := hA) (A := A24) (c := c24) (Yd _ _ _ _ rfl) Acc.Fine.nil hAdd1) rfl ⟨zf _, zf _, trivial⟩ d9 (sX rfl) (fun _ h => h) rfl) ?_))))))
  rintro _ ⟨s0, rfl⟩
  refine zg (zc (zO (σ' := zR [(1, pA g1), (2, pA g7), (3, pA g3), (4, iD 0), (5, pA g5)] [.c g7 [isD (.map (s0.M.map Prod.fst)), isD (.slice s0.n.A (Acc.nm ([hA] : List Acc.T)).length s0.n.c), isD (.map (s0.M.map Prod.snd))], .r s0.n.F (yb 9 1 Zb s0.n.A s0.n.c (Acc.nm ([hA] : List Acc.T))), .r s0.F1 (zX (s0.M.map Prod.fst) yq (Acc.nm ([hA] : List Acc.T)) (acD ([hA] : List Acc.T))), .r s0.F2 (zX (s0.M.map Prod.snd) yn (Acc.seats ([hA] : List Acc.T)) (seD ([hA] : List Acc.T))), .c g1 [isD (.slice none 0 0)], .c g3 [lsD Yk ([] : List Acc.T)], .c g5 [yt hA.name, iD hA.role, bD hA.key, iD hA.dep, iD hA.num]]) (sB [3, 4, 5, 6, 0, 1, 2] rfl rfl) (zb (za rfl (zG 5 1 rfl rfl k9 rfl zp) (za rfl (zG 6 5 rfl rfl k9 rfl zp) (zk (S := []) (zB [] (con_AddR_to Acc.Fine.nil hAdd1 s9) rfl ⟨zf _, zf _, trivial⟩ d9 trivial (fun _ h => h) rfl) ?_))))))
  rintro _ ⟨⟨⟩, rfl⟩
  refine za rfl (zd rfl) (za rfl (zq rfl rfl) (za rfl (zq rfl rfl) (zk (S := [_]) (zF 5 rfl rfl rfl k9 rfl (List.mem_singleton.2 rfl)) ?_)))
  rintro _ rfl
  refine zg (ye (zc (zO (σ' := zR [(1, pA g1), (2, pA g7), (3, pA g3), (4, iD 0)] [.c g7 [isD (.map (s0.M.map Prod.fst)), isD (.slice s0.n.A (Acc.nm ([hA] : List Acc.T)).length s0.n.c), isD (.map (s0.M.map Prod.snd))], .r s0.n.F (yb 9 1 Zb s0.n.A s0.n.c (Acc.nm ([hA] : List Acc.T))), .r s0.F1 (zX (s0.M.map Prod.fst) yq (Acc.nm ([hA] : List Acc.T)) (acD ([hA] : List Acc.T))), .r s0.F2 (zX (s0.M.map Prod.snd) yn (Acc.seats ([hA] : List Acc.T)) (seD ([hA] : List Acc.T))), .c g1 [isD (.slice none 0 0)], .c g3 [lsD Yk ([hA] : List Acc.T)]]) (sB [0, 1, 2, 3, 4, 5] rfl rfl) (zb (za rfl (zd rfl) (za rfl (yM rfl rfl ⟨by decide, by decide⟩) (za rfl (ze rfl) (zg (SN.round (zh (zh (zO (σ' := zR [(1, pA g1), (2, pA g7), (3, pA g3), (4, iD 1)] [.c g7 [isD (.map (s0.M.map Prod.fst)), isD (.slice s0.n.A (Acc.nm ([hA] : List Acc.T)).length s0.n.c), isD (.map (s0.M.map Prod.snd))], .r s0.n.F (yb 9 1 Zb s0.n.A s0.n.c (Acc.nm ([hA] : List Acc.T))), .r s0.F1 (zX (s0.M.map Prod.fst) yq (Acc.nm ([hA] : List Acc.T)) (acD ([hA] : List Acc.T))), .r s0.F2 (zX (s0.M.map Prod.snd) yn (Acc.seats ([hA] : List Acc.T)) (seD ([hA] : List Acc.T))), .c g1 [isD (.slice none 0 0)], .c g3 [lsD Yk ([hA] : List Acc.T)]]) (⟨⟨_, rfl, ⟨lq rfl, ⟨lq rfl, ⟨lq rfl, ⟨⟨_, rfl, zC (by rfl)⟩, trivial⟩⟩⟩⟩⟩, [0, 1, 2, 3, 4, 5], by decide, (sX rfl)⟩) (zb (za rfl (zd rfl) (za rfl (yG rfl rfl) (zg (zc (yf rfl d9 (zu (zc (zh (zW (zh (SW.meet (fun σ => ∃ g5, σ = zR [(1, pA g1), (2, pA g7), (3, pA g3), (4, iD 1), (5, pA g5)] [.c g7 [isD (.map (s0.M.map Prod.fst)), isD (.slice s0.n.A (Acc.nm ([hA] : List Acc.T)).length s0.n.c), isD (.map (s0.M.map Prod.snd))], .r s0.n.F (yb 9 1 Zb s0.n.A s0.n.c (Acc.nm ([hA] : List Acc.T))), .r s0.F1 (zX (s0.M.map Prod.fst) yq (Acc.nm ([hA] : List Acc.T)) (acD ([hA] : List Acc.T))), .r s0.F2 (zX (s0.M.map Prod.snd) yn (Acc.seats ([hA] : List Acc.T)) (seD ([hA] : List Acc.T))), .c g1 [isD (.slice none 0 0)], .c g3 [lsD Yk ([hA] : List Acc.T)], .c g5 [yt hB.name, iD hB.role, bD hB.key, iD hB.dep, iD hB.num]]) ?_ ?_))))))))))))))))))))))))
  ·refine yj [] (.r 1 (.r 4 (.r 5 (.r 6 (.r 8 (.n 0 (.r 2 (.r 3 (.n 7 (.r 9 (.n 10 (.e 11 .fin .no) .no)) (.n 10 (.n 7 (.r 9 (.e 11 .fin .no)) .no) .no)))) (.n 10 (.n 0 (.r 2 (.r 3 (.n 7 (.r 9 (.e 11 .fin .no)) .no))) .no) .no))))))) k9 k9 (fun d _ _ _ _ h => by cases d <;> exact h) (zj rfl rfl (zd rfl) (zj rfl rfl (zd rfl) (zj rfl rfl (yM rfl rfl ⟨by decide, by decide⟩) (zj rfl rfl ((Rd.mono (Rd.cvi .i64 rfl k9 k9) (show Le _ (isD (B8 9)) from zC (by rfl)))) (zj rfl rfl (zd rfl) (yi rfl (yo (con_names) rfl trivial rfl) ?_ ?_))))))
   ·rintro _ rfl
    refine zj rfl rfl (yK (e := 9) 1 rfl rfl k9 k9 d9 rfl) (zj rfl rfl (ym rfl rfl k9 s9) (yi rfl (yo (Z9 9 32 d9) rfl ⟨zf _, zf _, trivial⟩ rfl) ?_ ?_))
    ·rintro _ rfl
     refine zj rfl rfl ((yh rfl rfl (bldA4m (n := nmB) (r := 2) (m := 1)))) (Yb rfl (EfB.alloc (zs := [.string ⟨#[]⟩, .int .i64 0, .slice none 0 0, .int .i64 0, .int .i64 0]) k9 rfl) ?_ zI)
     rintro g5 _ rfl
     refine zZ rfl (zF 6 rfl rfl rfl k9 rfl (List.mem_append_right _ (List.mem_cons_self))) ?_ zI
     rintro _ rfl
     exact zV (yZ ⟨g5, rfl⟩ (sB [0, 1, 2, 3, 4, 5, 6] rfl rfl))
    refine Yb rfl (EfB.alloc (zs := [.string ⟨#[]⟩, .int .i64 0, .slice none 0 0, .int .i64 0, .int .i64 0]) k9 rfl) ?_ zI
    rintro g5 _ rfl
    refine yi rfl (yo (Z9 9 32 d9) rfl ⟨zf _, zf _, trivial⟩ rfl) ?_ zI
    rintro _ rfl
    refine zj rfl rfl ((yh rfl rfl (bldA4m (n := nmB) (r := 2) (m := 1)))) (zZ rfl (zF 6 rfl rfl rfl k9 rfl (List.mem_append_right _ (List.mem_cons_self))) ?_ zI)
    rintro _ rfl
    exact zV (yZ ⟨g5, rfl⟩ (sB [0, 1, 2, 3, 4, 5, 6] rfl rfl))
   refine Yb rfl (EfB.alloc (zs := [.string ⟨#[]⟩, .int .i64 0, .slice none 0 0, .int .i64 0, .int .i64 0]) k9 rfl) ?_ zI
   rintro g5 _ rfl
   refine yi rfl (yo (con_names) rfl trivial rfl) ?_ zI
   rintro _ rfl
   refine zj rfl rfl (yK (e := 9) 1 rfl rfl k9 k9 d9 rfl) (zj rfl rfl (ym rfl rfl k9 (ins_append ins_nil (ins_cons (j := 6) rfl ins_nil))) (yi rfl (yo (Z9 9 32 d9) rfl ⟨zf _, zf _, trivial⟩ rfl) ?_ zI))
   rintro _ rfl
   refine zj rfl rfl ((yh rfl rfl (bldA4m (n := nmB) (r := 2) (m := 1)))) (zZ rfl (zF 6 rfl rfl rfl k9 rfl (List.mem_append_right _ (List.mem_cons_self))) ?_ zI)
   rintro _ rfl
   exact zV (yZ ⟨g5, rfl⟩ (sB [0, 1, 2, 3, 4, 5, 6] rfl rfl))
  ·rintro _ ⟨g5, rfl⟩
   refine zc (zh (zb (za rfl (zd rfl) (za rfl (zG 6 5 rfl rfl k9 rfl zp) (SWl.lookA5 24 rfl fun A24 c24 => (zk (zB [0, 1, 2, 3, 7] (con_add_to (gb := g7) (s := s0) (l := ([hA] : List Acc.T)) (a := hB) (A := A24) (c := c24) (Yd _ _ _ _ rfl) hFine1 hAdd2) rfl ⟨zf _, zf _, trivial⟩ d9 (sX rfl) (fun _ h => h) rfl) ?_))))))
   rintro _ ⟨s1, rfl⟩
   refine zg (zc (zO (σ' := zR [(1, pA g1), (2, pA g7), (3, pA g3), (4, iD 1), (5, pA g5)] [.c g7 [isD (.map (s1.M.map Prod.fst)), isD (.slice s1.n.A (Acc.nm ([hA, hB] : List Acc.T)).length s1.n.c), isD (.map (s1.M.map Prod.snd))], .r s1.n.F (yb 9 1 Zb s1.n.A s1.n.c (Acc.nm ([hA, hB] : List Acc.T))), .r s1.F1 (zX (s1.M.map Prod.fst) yq (Acc.nm ([hA, hB] : List Acc.T)) (acD ([hA, hB] : List Acc.T))), .r s1.F2 (zX (s1.M.map Prod.snd) yn (Acc.seats ([hA, hB] : List Acc.T)) (seD ([hA, hB] : List Acc.T))), .c g1 [isD (.slice none 0 0)], .c g3 [lsD Yk ([hA] : List Acc.T)], .c g5 [yt hB.name, iD hB.role, bD hB.key, iD hB.dep, iD hB.num]]) (sB [3, 4, 5, 6, 0, 1, 2] rfl rfl) (zb (za rfl (zG 5 1 rfl rfl k9 rfl zp) (za rfl (zG 6 5 rfl rfl k9 rfl zp) (zk (S := []) (zB [] (con_AddR_to hFine1 hAdd2 s9) rfl ⟨zf _, zf _, trivial⟩ d9 trivial (fun _ h => h) rfl) ?_))))))
   rintro _ ⟨⟨⟩, rfl⟩
   refine za rfl (zd rfl) (za rfl (zq rfl rfl) (za rfl (zq rfl rfl) (zk (S := [_]) (zF 5 rfl rfl rfl k9 rfl (List.mem_singleton.2 rfl)) ?_)))
   rintro _ rfl
   refine zg (ye (zc (zO (σ' := zR [(1, pA g1), (2, pA g7), (3, pA g3), (4, iD 1)] [.c g7 [isD (.map (s1.M.map Prod.fst)), isD (.slice s1.n.A (Acc.nm ([hA, hB] : List Acc.T)).length s1.n.c), isD (.map (s1.M.map Prod.snd))], .r s1.n.F (yb 9 1 Zb s1.n.A s1.n.c (Acc.nm ([hA, hB] : List Acc.T))), .r s1.F1 (zX (s1.M.map Prod.fst) yq (Acc.nm ([hA, hB] : List Acc.T)) (acD ([hA, hB] : List Acc.T))), .r s1.F2 (zX (s1.M.map Prod.snd) yn (Acc.seats ([hA, hB] : List Acc.T)) (seD ([hA, hB] : List Acc.T))), .c g1 [isD (.slice none 0 0)], .c g3 [lsD Yk ([hA, hB] : List Acc.T)]]) (sB [0, 1, 2, 3, 4, 5] rfl rfl) (zb (za rfl (zd rfl) (za rfl (yM rfl rfl ⟨by decide, by decide⟩) (za rfl (ze rfl) (zg (SN.round (zh (zh (zO (σ' := zR [(1, pA g1), (2, pA g7), (3, pA g3), (4, iD 2)] [.c g7 [isD (.map (s1.M.map Prod.fst)), isD (.slice s1.n.A (Acc.nm ([hA, hB] : List Acc.T)).length s1.n.c), isD (.map (s1.M.map Prod.snd))], .r s1.n.F (yb 9 1 Zb s1.n.A s1.n.c (Acc.nm ([hA, hB] : List Acc.T))), .r s1.F1 (zX (s1.M.map Prod.fst) yq (Acc.nm ([hA, hB] : List Acc.T)) (acD ([hA, hB] : List Acc.T))), .r s1.F2 (zX (s1.M.map Prod.snd) yn (Acc.seats ([hA, hB] : List Acc.T)) (seD ([hA, hB] : List Acc.T))), .c g1 [isD (.slice none 0 0)], .c g3 [lsD Yk ([hA, hB] : List Acc.T)]]) (⟨⟨_, rfl, ⟨lq rfl, ⟨lq rfl, ⟨lq rfl, ⟨⟨_, rfl, zC (by rfl)⟩, trivial⟩⟩⟩⟩⟩, [0, 1, 2, 3, 4, 5], by decide, (sX rfl)⟩) (zb (za rfl (zd rfl) (za rfl (yG rfl rfl) (zg (zc (yf rfl d9 (zu (zc (zh (zW (zh (SW.meet (fun σ => ∃ g5, σ = zR [(1, pA g1), (2, pA g7), (3, pA g3), (4, iD 2), (5, pA g5)] [.c g7 [isD (.map (s1.M.map Prod.fst)), isD (.slice s1.n.A (Acc.nm ([hA, hB] : List Acc.T)).length s1.n.c), isD (.map (s1.M.map Prod.snd))], .r s1.n.F (yb 9 1 Zb s1.n.A s1.n.c (Acc.nm ([hA, hB] : List Acc.T))), .r s1.F1 (zX (s1.M.map Prod.fst) yq (Acc.nm ([hA, hB] : List Acc.T)) (acD ([hA, hB] : List Acc.T))), .r s1.F2 (zX (s1.M.map Prod.snd) yn (Acc.seats ([hA, hB] : List Acc.T)) (seD ([hA, hB] : List Acc.T))), .c g1 [isD (.slice none 0 0)], .c g3 [lsD Yk ([hA, hB] : List Acc.T)], .c g5 [yt hC.name, iD hC.role, bD hC.key, iD hC.dep, iD hC.num]]) ?_ ?_))))))))))))))))))))))))
   ·refine yj [] (.r 1 (.r 4 (.r 5 (.r 6 (.r 8 (.n 0 (.r 2 (.r 3 (.n 7 (.r 9 (.n 10 (.e 11 .fin .no) .no)) (.n 10 (.n 7 (.r 9 (.e 11 .fin .no)) .no) .no)))) (.n 10 (.n 0 (.r 2 (.r 3 (.n 7 (.r 9 (.e 11 .fin .no)) .no))) .no) .no))))))) k9 k9 (fun d _ _ _ _ h => by cases d <;> exact h) (zj rfl rfl (zd rfl) (zj rfl rfl (zd rfl) (zj rfl rfl (yM rfl rfl ⟨by decide, by decide⟩) (zj rfl rfl ((Rd.mono (Rd.cvi .i64 rfl k9 k9) (show Le _ (isD (B8 10)) from zC (by rfl)))) (zj rfl rfl (zd rfl) (yi rfl (yo (con_names) rfl trivial rfl) ?_ ?_))))))
    ·rintro _ rfl
     refine zj rfl rfl (yK (e := 9) 1 rfl rfl k9 k9 d9 rfl) (zj rfl rfl (ym rfl rfl k9 s9) (yi rfl (yo (Z9 10 32 d9) rfl ⟨zf _, zf _, trivial⟩ rfl) ?_ ?_))
     ·rintro _ rfl
      refine zj rfl rfl ((yh rfl rfl (bldA4m (n := nmC) (r := 2) (m := 2)))) (Yb rfl (EfB.alloc (zs := [.string ⟨#[]⟩, .int .i64 0, .slice none 0 0, .int .i64 0, .int .i64 0]) k9 rfl) ?_ zI)
      rintro g5 _ rfl
      refine zZ rfl (zF 6 rfl rfl rfl k9 rfl (List.mem_append_right _ (List.mem_cons_self))) ?_ zI
      rintro _ rfl
      exact zV (yZ ⟨g5, rfl⟩ (sB [0, 1, 2, 3, 4, 5, 6] rfl rfl))
     refine Yb rfl (EfB.alloc (zs := [.string ⟨#[]⟩, .int .i64 0, .slice none 0 0, .int .i64 0, .int .i64 0]) k9 rfl) ?_ zI
     rintro g5 _ rfl
     refine yi rfl (yo (Z9 10 32 d9) rfl ⟨zf _, zf _, trivial⟩ rfl) ?_ zI
     rintro _ rfl
     refine zj rfl rfl ((yh rfl rfl (bldA4m (n := nmC) (r := 2) (m := 2)))) (zZ rfl (zF 6 rfl rfl rfl k9 rfl (List.mem_append_right _ (List.mem_cons_self))) ?_ zI)
     rintro _ rfl
     exact zV (yZ ⟨g5, rfl⟩ (sB [0, 1, 2, 3, 4, 5, 6] rfl rfl))
    refine Yb rfl (EfB.alloc (zs := [.string ⟨#[]⟩, .int .i64 0, .slice none 0 0, .int .i64 0, .int .i64 0]) k9 rfl) ?_ zI
    rintro g5 _ rfl
    refine yi rfl (yo (con_names) rfl trivial rfl) ?_ zI
    rintro _ rfl
    refine zj rfl rfl (yK (e := 9) 1 rfl rfl k9 k9 d9 rfl) (zj rfl rfl (ym rfl rfl k9 (ins_append ins_nil (ins_cons (j := 6) rfl ins_nil))) (yi rfl (yo (Z9 10 32 d9) rfl ⟨zf _, zf _, trivial⟩ rfl) ?_ zI))
    rintro _ rfl
    refine zj rfl rfl ((yh rfl rfl (bldA4m (n := nmC) (r := 2) (m := 2)))) (zZ rfl (zF 6 rfl rfl rfl k9 rfl (List.mem_append_right _ (List.mem_cons_self))) ?_ zI)
    rintro _ rfl
    exact zV (yZ ⟨g5, rfl⟩ (sB [0, 1, 2, 3, 4, 5, 6] rfl rfl))
   ·rintro _ ⟨g5, rfl⟩
    refine zc (zh (zb (za rfl (zd rfl) (za rfl (zG 6 5 rfl rfl k9 rfl zp) (SWl.lookA5 24 rfl fun A24 c24 => (zk (zB [0, 1, 2, 3, 7] (con_add_to (gb := g7) (s := s1) (l := ([hA, hB] : List Acc.T)) (a := hC) (A := A24) (c := c24) (Yd _ _ _ _ rfl) hFine2 hAdd3) rfl ⟨zf _, zf _, trivial⟩ d9 (sX rfl) (fun _ h => h) rfl) ?_))))))
    rintro _ ⟨s2, rfl⟩
    refine zg (zc (zO (σ' := zR [(1, pA g1), (2, pA g7), (3, pA g3), (4, iD 2), (5, pA g5)] [.c g7 [isD (.map (s2.M.map Prod.fst)), isD (.slice s2.n.A (Acc.nm hL).length s2.n.c), isD (.map (s2.M.map Prod.snd))], .r s2.n.F (yb 9 1 Zb s2.n.A s2.n.c (Acc.nm hL)), .r s2.F1 (zX (s2.M.map Prod.fst) yq (Acc.nm hL) (acD hL)), .r s2.F2 (zX (s2.M.map Prod.snd) yn (Acc.seats hL) (seD hL)), .c g1 [isD (.slice none 0 0)], .c g3 [lsD Yk ([hA, hB] : List Acc.T)], .c g5 [yt hC.name, iD hC.role, bD hC.key, iD hC.dep, iD hC.num]]) (sB [3, 4, 5, 6, 0, 1, 2] rfl rfl) (zb (za rfl (zG 5 1 rfl rfl k9 rfl zp) (za rfl (zG 6 5 rfl rfl k9 rfl zp) (zk (S := []) (zB [] (con_AddR_to hFine2 hAdd3 s9) rfl ⟨zf _, zf _, trivial⟩ d9 trivial (fun _ h => h) rfl) ?_))))))
    rintro _ ⟨⟨⟩, rfl⟩
    refine za rfl (zd rfl) (za rfl (zq rfl rfl) (za rfl (zq rfl rfl) (zk (S := [_]) (zF 5 rfl rfl rfl k9 rfl (List.mem_singleton.2 rfl)) ?_)))
    rintro _ rfl
    refine zg (ye (zc (zO (σ' := zR [(1, pA g1), (2, pA g7), (3, pA g3), (4, iD 2)] [.c g7 [isD (.map (s2.M.map Prod.fst)), isD (.slice s2.n.A (Acc.nm hL).length s2.n.c), isD (.map (s2.M.map Prod.snd))], .r s2.n.F (yb 9 1 Zb s2.n.A s2.n.c (Acc.nm hL)), .r s2.F1 (zX (s2.M.map Prod.fst) yq (Acc.nm hL) (acD hL)), .r s2.F2 (zX (s2.M.map Prod.snd) yn (Acc.seats hL) (seD hL)), .c g1 [isD (.slice none 0 0)], .c g3 [lsD Yk hL]]) (sB [0, 1, 2, 3, 4, 5] rfl rfl) (zb (za rfl (zd rfl) (za rfl (yM rfl rfl ⟨by decide, by decide⟩) (za rfl (ze rfl) (zg (SN.round (zh (zh (zO (σ' := zR [(1, pA g1), (2, pA g7), (3, pA g3), (4, iD 3)] [.c g7 [isD (.map (s2.M.map Prod.fst)), isD (.slice s2.n.A (Acc.nm hL).length s2.n.c), isD (.map (s2.M.map Prod.snd))], .r s2.n.F (yb 9 1 Zb s2.n.A s2.n.c (Acc.nm hL)), .r s2.F1 (zX (s2.M.map Prod.fst) yq (Acc.nm hL) (acD hL)), .r s2.F2 (zX (s2.M.map Prod.snd) yn (Acc.seats hL) (seD hL)), .c g1 [isD (.slice none 0 0)], .c g3 [lsD Yk hL]]) (⟨⟨_, rfl, ⟨lq rfl, ⟨lq rfl, ⟨lq rfl, ⟨⟨_, rfl, zC (by rfl)⟩, trivial⟩⟩⟩⟩⟩, [0, 1, 2, 3, 4, 5], by decide, (sX rfl)⟩) (zb (za rfl (zd rfl) (za rfl (yG rfl rfl) (zg (zc (zE rfl d9 (yW ?_)))))))))))))))))))
    repeat (first | refine Zi ?_ | refine Zj d9 ?_)
    refine Zk (zc (zh (zO (σ' := zR [(1, pA g1), (2, pA g7), (3, pA g3)] [.c g7 [isD (.map (s2.M.map Prod.fst)), isD (.slice s2.n.A (Acc.nm hL).length s2.n.c), isD (.map (s2.M.map Prod.snd))], .r s2.n.F (yb 9 1 Zb s2.n.A s2.n.c (Acc.nm hL)), .r s2.F1 (zX (s2.M.map Prod.fst) yq (Acc.nm hL) (acD hL)), .r s2.F2 (zX (s2.M.map Prod.snd) yn (Acc.seats hL) (seD hL)), .c g1 [isD (.slice none 0 0)], .c g3 [lsD Yk hL]]) (sB [0, 1, 2, 3, 4, 5] rfl rfl) (yj (g1 :: []) (.r 0 (.r 1 (.r 2 (.e 3 .fin .no)))) k9 k9 (fun d _ _ _ _ h => by cases d <;> exact h) (zj rfl rfl (zd rfl) (zj rfl rfl (zG 5 1 rfl rfl k9 rfl (yz 4 rfl d9 zp)) (zj rfl rfl (ze rfl) (zZ rfl (zF 4 rfl rfl rfl k9 rfl (List.mem_cons_self)) ?_ zI))))))))
    rintro _ rfl
    refine zV (zc (zS (fn := Tryz.f11) ((g7, s2)) [0, 1, 2, 3] (fun _ _ h => h) (Rs.le (Rs.two rfl (zo rfl) (yB 4 rfl rfl k9)) ?_) d9 (sX rfl)))
    exact zf _
end Sx
end Go.Proofs.YtgokpcnabgacnaaGreatDoor
