/- ACCOUNTS: taken, Get, Of, Len, Units. ACCOUNTS: list, Accounts, Add. ACCOUNTS: Remove, Copy, the iterator. ACCOUNTS: the reference's words. -/
import Derived.Test.YtgokpcnabgacnaaGreatDoorGZAJ
set_option maxHeartbeats 8000000
set_option maxRecDepth 100000
namespace Go.Proofs.YtgokpcnabgacnaaGreatDoor
open Go.RowKit
namespace Sx
theorem con_taken (l : List Acc.T) (r n : Int) : ConN Tryz.prog 109 [bookD l, iD r, iD n] (yY (decide ((r, n) ∈ Acc.seats l))) := by
 refine yE Tryz.func109 k9 rfl k9 fun base w0 => (zh (zb (za rfl (ze rfl) (zg (zc (zh ?_))))))
 by_cases hm : (r, n) ∈ Acc.seats l
 ·skip
  refine zb (za rfl (zd rfl) (za rfl (yN rfl) (za rfl (yv (n := 2) rfl k9 (show 2 < 3 by decide)) (za rfl (ym rfl rfl k9 s9) (za rfl (zd rfl) (za rfl (zd rfl) (za rfl (yh rfl rfl bldSt2) (za rfl (Rd.lookMQ (kt := 158) (et := 9) rfl rfl (le_seat _ _) k9 (keySt _) hm s9) (za rfl (zd rfl) (za rfl (zq rfl rfl) (za rfl (zq rfl rfl) (za rfl (ze rfl) (za rfl (ze rfl) (zg (zc (zh (zb (za rfl (zd rfl) (za rfl (ze rfl) (zg (zc (zH (fn := Tryz.f109) (fun _ _ h => h) (Rs.le (Rs.one rfl (zo rfl)) ?_)))))))))))))))))))))))
  first | exact Le.trans (le_decT hm) zt | exact Le.trans (zL hm) zt
 ·skip
  refine zb (za rfl (zd rfl) (za rfl (yN rfl) (za rfl (yv (n := 2) rfl k9 (show 2 < 3 by decide)) (za rfl (ym rfl rfl k9 s9) (za rfl (zd rfl) (za rfl (zd rfl) (za rfl (yh rfl rfl bldSt2) (za rfl (Rd.lookMQN (kt := 158) (et := 9) (z := .string ⟨#[]⟩) rfl rfl (le_seat _ _) k9 k9 (keySt _) hm s9) (za rfl (zd rfl) (za rfl (zq rfl rfl) (za rfl (zq rfl rfl) (za rfl (ze rfl) (za rfl (ze rfl) (zg (zc (zh (zb (za rfl (zd rfl) (za rfl (ze rfl) (zg (zc (zH (fn := Tryz.f109) (fun _ _ h => h) (Rs.le (Rs.one rfl (zo rfl)) ?_)))))))))))))))))))))))
  first | exact Le.trans (le_decT hm) zt | exact Le.trans (zL hm) zt
theorem con_get (l : List Acc.T) (nm : List UInt8) (hf : Acc.Fine l) : ConN Tryz.prog 131 [bookD l, yt nm] (Yq [yX (encA (Acc.getA l nm)), iD (Acc.getE l nm)]) := by
 refine yE Tryz.func131 k9 rfl k9 fun base w0 => (zh (zb (zk (S := []) (zQ (zs := [.string ⟨#[]⟩, .int .i64 0, .slice none 0 0, .int .i64 0, .int .i64 0]) k9 rfl) ?_)))
 rintro _ ⟨g4, rfl⟩
 refine za rfl (ze rfl) (zg (zc (zh (zh (zb (za rfl (zd rfl) (za rfl (Rd.eqPA rfl rfl k9) (zg (zc (zE rfl (rfl) (zu (zc (zh ?_)))))))))))))
 rcases hx : Acc.find l nm with _ | x
 ·skip
  refine zb (za rfl (zd rfl) (za rfl (yN rfl) (za rfl (yv (n := 0) rfl k9 (show 0 < 3 by decide)) (za rfl (ym rfl rfl k9 s9) (za rfl (zd rfl) (za rfl ((Rd.mono (Rd.lookMQN (kt := 9) (et := 121) (z := .agg #[.string ⟨#[]⟩, .int .i64 0, .slice none 0 0, .int .i64 0, .int .i64 0]) (ok := true) rfl rfl (zf _) k9 k9 (keyNm _) (Acc.nm_out hx) s9) tup_z5)) (za rfl (zd rfl) (za rfl (zq rfl rfl) (za rfl (zq rfl rfl) (zk (S := []) (zQ (zs := [.string ⟨#[]⟩, .int .i64 0, .slice none 0 0, .int .i64 0, .int .i64 0]) k9 rfl) ?_))))))))))
  rintro _ ⟨g6, rfl⟩
  refine zk (S := [_]) (zF 1 rfl rfl rfl k9 rfl (List.mem_singleton.2 rfl)) ?_
  rintro _ rfl
  refine za rfl (ze rfl) (zg (zc (zh (zh (zb (za rfl (zd rfl) (za rfl (yU rfl) (zg (zc (yf rfl (rfl) (zh (zb (za rfl (yh rfl rfl bldA0) (zk (S := [_]) (zF 0 rfl rfl rfl k9 rfl (List.mem_singleton.2 rfl)) ?_))))))))))))))
  rintro _ rfl
  refine za rfl (ze rfl) (zg (zc (zH (fn := Tryz.f131) (fun _ _ h => h) (Rs.le (Rs.two rfl (yB 0 rfl rfl k9) (zo rfl)) ?_))))
  first | (rw [(Acc.get_no hx).1, (Acc.get_no hx).2]; exact Yn ⟨nwZ5, zt, trivial⟩) | (rw [(Acc.get_yes hx).1, (Acc.get_yes hx).2]; exact Yn ⟨nwA5, zt, trivial⟩)
 ·have hkl := (hf.oks x (Acc.find_some hx).1).2.1
  refine zb (za rfl (zd rfl) (za rfl (yN rfl) (za rfl (yv (n := 0) rfl k9 (show 0 < 3 by decide)) (za rfl (ym rfl rfl k9 s9) (za rfl (zd rfl) (za rfl ((Rd.mono (Rd.lookMQ (kt := 9) (et := 121) (ok := true) rfl rfl (zf _) k9 (keyNm _) (Acc.nm_in hx) s9) (tup_ac hx))) (za rfl (zd rfl) (za rfl (zq rfl rfl) (za rfl (zq rfl rfl) (zk (S := []) (zQ (zs := [.string ⟨#[]⟩, .int .i64 0, .slice none 0 0, .int .i64 0, .int .i64 0]) k9 rfl) ?_))))))))))
  rintro _ ⟨g6, rfl⟩
  refine zk (S := [_]) (zF 1 rfl rfl rfl k9 rfl (List.mem_singleton.2 rfl)) ?_
  rintro _ rfl
  refine za rfl (ze rfl) (zg (zc (zh (zh (zb (za rfl (zd rfl) (za rfl (yU rfl) (zg (zc (zE rfl (rfl) (zu (zc (zh (zO (σ' := zR [(4, pA g4), (6, pA g6)] [.c g4 [yt [], iD 0, isD (.slice none 0 0), iD 0, iD 0], .c g6 [yt x.name, iD x.role, bD x.key, iD x.dep, iD x.num]]) (sB [0, 1] rfl rfl) (zb (za rfl (zG 1 5 rfl rfl k9 rfl zp) (zk (S := []) (Ef.callNL [] (con_copied x.name x.role x.key x.dep x.num o9) rfl ⟨(sees_agg ⟨(zr (zf _)), (zr (zf _)), (zr (zf _)), (zr (zf _)), (zr (zf _)), trivial⟩), trivial⟩ le_nw_aggD rfl) ?_)))))))))))))))))
  rintro _ rfl
  refine zk (S := [_]) (zF 0 rfl rfl rfl k9 rfl (List.mem_singleton.2 rfl)) ?_
  rintro _ rfl
  refine za rfl (ze rfl) (zg (zc (zH (fn := Tryz.f131) (fun _ _ h => h) (Rs.le (Rs.two rfl (yB 0 rfl rfl k9) (zo rfl)) ?_))))
  first | (rw [(Acc.get_no hx).1, (Acc.get_no hx).2]; exact Yn ⟨nwZ5, zt, trivial⟩) | (rw [(Acc.get_yes hx).1, (Acc.get_yes hx).2]; exact Yn ⟨nwA5, zt, trivial⟩)
end Sx
end Go.Proofs.YtgokpcnabgacnaaGreatDoor
namespace Go.Proofs.YtgokpcnabgacnaaGreatDoor
open Go.RowKit
namespace Sx
theorem con_list (gb : Nat) (s : Bst) (l : List Acc.T) (hf : Acc.Fine l) : ConR Tryz.prog 112 [.c gb [isD (.map (s.M.map Prod.fst)), isD (.slice s.n.A (Acc.nm l).length s.n.c), isD (.map (s.M.map Prod.snd))], .r s.n.F (yb 9 1 Zb s.n.A s.n.c (Acc.nm l)), .r s.F1 (zX (s.M.map Prod.fst) yq (Acc.nm l) (acD l)), .r s.F2 (zX (s.M.map Prod.snd) yn (Acc.seats l) (seD l))] [pA gb] (fun _ : Unit => [.c gb [isD (.map (s.M.map Prod.fst)), isD (.slice s.n.A (Acc.nm l).length s.n.c), isD (.map (s.M.map Prod.snd))], .r s.n.F (yb 9 1 Zb s.n.A s.n.c (Acc.nm l)), .r s.F1 (zX (s.M.map Prod.fst) yq (Acc.nm l) (acD l)), .r s.F2 (zX (s.M.map Prod.snd) yn (Acc.seats l) (seD l))]) (fun _ : Unit => lsD encA l) := by
 refine zY Tryz.func112 k9 rfl k9 fun base w0 => (zh (zb (za rfl (ze rfl) (zg (zc (zh (zh (zb (za rfl (zd rfl) (za rfl (Z0 rfl rfl k9) (zg (zc (zE rfl (rfl) (zu (zc (zh (zb (za rfl (zd rfl) (za rfl (zw rfl) (za rfl (zi (n := 1) rfl k9) (za rfl (zl 0 rfl rfl rfl k9 zp) (za rfl (Rd.lenE (e := 9) rfl k9) (zk (S := []) (Ef.makeT (e := 121) (c := (Acc.nm l).length) encA 5 64 rfl rfl k9 k9 rfl (by have := hf.len; simp; omega) d9 rfl) ?_)))))))))))))))))))))))
 rintro _ ⟨g13, rfl⟩
 refine za rfl (ze rfl) (zg (zc (zh (zh (zb (za rfl (zd rfl) (za rfl (zw rfl) (za rfl (zi (n := 1) rfl k9) (za rfl (zl 0 rfl rfl rfl k9 zp) (za rfl (Rd.lenE (e := 9) rfl k9) (za rfl (zd rfl) (zg (zc (zW (Zq (ι := {p : Nat × Ust // p.1 ≤ l.length}) (fun p => zR [(0, pA gb), (3, isD (.slice p.1.2.A (l.take p.1.1).length p.1.2.c)), (17, isD (.slice s.n.A (Acc.nm l).length s.n.c)), (18, iD (l.length : Int)), (19, iD (p.1.1 : Int))] [.c gb [isD (.map (s.M.map Prod.fst)), isD (.slice s.n.A (Acc.nm l).length s.n.c), isD (.map (s.M.map Prod.snd))], .r s.n.F (yb 9 1 Zb s.n.A s.n.c (Acc.nm l)), .r s.F1 (zX (s.M.map Prod.fst) yq (Acc.nm l) (acD l)), .r s.F2 (zX (s.M.map Prod.snd) yn (Acc.seats l) (seD l)), .r p.1.2.F (yb 121 5 encA p.1.2.A p.1.2.c (l.take p.1.1))]) (fun p => l.length - p.1.1) (⟨(0, ⟨some ⟨g13, 0, none⟩, (Acc.nm l).length, [g13]⟩), Nat.zero_le _⟩) ?_ ?_)))))))))))))))
 ·exact ⟨⟨_, rfl, ⟨lq rfl, ⟨lq rfl, ⟨lq rfl, ⟨⟨_, rfl, zC s9⟩, ⟨lq rfl, trivial⟩⟩⟩⟩⟩⟩, [0, 1, 2, 3, 4], by decide, (sX rfl)⟩
 ·rintro ⟨⟨i, t⟩, hi⟩ K0 hK0
  dsimp only at hi ⊢
  refine zh (zb (za rfl (yG rfl rfl) (zg (zc (zh (zJ rfl (fun hb20 => ?_) (fun hb20 => ?_)))))))
  ·have hb20 := of_decide_eq_true hb20
   refine zu (zc (zh (zW (zh ?_))))
   obtain ⟨x, hx⟩ : ∃ x, l[i]? = some x := ⟨_, List.getElem?_eq_getElem o9⟩
   have hnm : (Acc.nm l)[i]? = some x.name := by simp [hx]
   have hfx := Acc.find_mem hf.srt (List.mem_of_getElem? hx)
   refine zb (za rfl (Rd.idxT 1 1 rfl rfl rfl k9 k9 o9 (by simp; omega)) (za rfl (Rd.loadT1 1 rfl rfl k9 hnm rfl zp) (za rfl (ze rfl) (zg (zc (zb (za rfl (zd rfl) (za rfl (zd rfl) (za rfl (zw rfl) (za rfl (zi (n := 0) rfl k9) (za rfl (zl 0 rfl rfl rfl k9 zp) (za rfl (zd rfl) (za rfl ((Rd.mono (Rd.lookQ (kt := 9) (et := 121) (ok := false) 2 rfl rfl rfl (zf _) k9 (keyNm _) (Acc.nm_in hfx) zp) (ac_x hfx))) (zk (S := []) (Zl rfl rfl (blsA1 x) rfl) ?_))))))))))))))
   rintro _ rfl
   refine zk (Za 4 5 64 rfl rfl (SrcT.ls (l := [x]) rfl) k9 k9 (by have := hf.len; simp; omega) d9 (fun _ h => h) rfl) ?_
   rintro _ ⟨A31, F31, c31, rfl⟩
   exact za rfl (ze rfl) (zg (ye (zc (zb (za rfl (yM rfl rfl ⟨by omega, by have := hf.len; omega⟩) (za rfl (zd rfl) (zg (fun a w hh => hK0 (⟨(i + 1, ⟨A31, c31, F31⟩), by dsimp only; omega⟩) (by dsimp only; omega) a w (hh.sub (⟨⟨_, rfl, ⟨lq rfl, ⟨⟨_, rfl, zC (by rw [yc hx])⟩, (sT rfl)⟩⟩⟩, [0, 1, 2, 3, 4], by decide, ⟨la rfl, ⟨lR rfl, ⟨lR rfl, ⟨lR rfl, ⟨⟨_, rfl, ZN (by rw [yc hx]) (by rw [yc hx])⟩, trivial⟩⟩⟩⟩⟩⟩))))))))))
  ·have hb20 := of_decide_eq_false hb20
   refine yW ?_
   repeat (first | refine Zi ?_ | refine Zj d9 ?_)
   refine Zk (zc (zh (zb (za rfl (zd rfl) (za rfl (ze rfl) (zg (zc (SW.freezeT 4 2 rfl rfl (zf _) (zS (fn := Tryz.f112) (()) [0, 1, 2, 3] (fun _ _ h => h) (Rs.le (Rs.one rfl (zo rfl)) ?_) d9 (sX rfl))))))))))
   rw [List.take_of_length_le o9]; exact zf _
theorem con_add_bad (gb : Nat) (s : Bst) (l : List Acc.T) (a : Acc.T) (A : Option Addr) (c : Nat) (F : List Nat) (R : Res) (hR : Z7 R (.slice A a.key.length c) (cellsOf a.key)) (hf : Acc.Fine l) (h : ¬ Acc.ok a) : ConR Tryz.prog 49 [.c gb [isD (.map (s.M.map Prod.fst)), isD (.slice s.n.A (Acc.nm l).length s.n.c), isD (.map (s.M.map Prod.snd))], .r s.n.F (yb 9 1 Zb s.n.A s.n.c (Acc.nm l)), .r s.F1 (zX (s.M.map Prod.fst) yq (Acc.nm l) (acD l)), .r s.F2 (zX (s.M.map Prod.snd) yn (Acc.seats l) (seD l)), .r F R] [pA gb, yX [yt a.name, iD a.role, isD (.slice A a.key.length c), iD a.dep, iD a.num]] (fun t : Bst => [.c gb [isD (.map (t.M.map Prod.fst)), isD (.slice t.n.A (Acc.nm (Acc.add l a).1).length t.n.c), isD (.map (t.M.map Prod.snd))], .r t.n.F (yb 9 1 Zb t.n.A t.n.c (Acc.nm (Acc.add l a).1)), .r t.F1 (zX (t.M.map Prod.fst) yq (Acc.nm (Acc.add l a).1) (acD (Acc.add l a).1)), .r t.F2 (zX (t.M.map Prod.snd) yn (Acc.seats (Acc.add l a).1) (seD (Acc.add l a).1)), .r F R]) (fun t : Bst => iD (Acc.add l a).2) := by
 refine zY Tryz.func49 k9 rfl k9 fun base w0 => (zh (zb (zk (S := []) (yF rfl rfl) ?_)))
 rintro _ ⟨g3, rfl⟩
 refine za rfl (ze rfl) (zg (zc (zh (zh (zb (za rfl (zd rfl) (za rfl (Z0 rfl rfl k9) (zg (zc (zE rfl (rfl) (zu (zc (zh (zh (zb (za rfl (zG 5 5 rfl rfl k9 rfl zp) (zk (S := []) (zA [] (con_validA a.name a.role a.key.length a.dep a.num) rfl ⟨(zr (Zz ⟨zf _, zf _, le_is_len, zf _, zf _, trivial⟩)), trivial⟩ rfl) ?_)))))))))))))))))
 rintro _ rfl
 refine za rfl (yU rfl) (zg (zc (yf rfl (by rw [decide_eq_false (show ¬ Acc.okN _ _ _ _ _ from h)]; rfl) (zh (zb (za rfl (ze rfl) (zg (zc (zS (fn := Tryz.f49) (s) [0, 1, 2, 3, 4] (fun _ _ h => h) (Rs.le (Rs.one rfl (zo rfl)) ?_) d9 ⟨⟨_, rfl, ⟨zf _, zC (by rw [ZU h]), zf _, trivial⟩⟩, ⟨⟨_, rfl, ZN (by rw [ZU h]) (by rw [ZU h])⟩, ⟨⟨_, rfl, (by rw [ZU h]; exact yp _)⟩, ⟨⟨_, rfl, (by rw [ZU h]; exact yp _)⟩, ⟨lR rfl, trivial⟩⟩⟩⟩⟩)))))))))
 exact zC (by rw [ZU h])
theorem con_add_busyn (gb : Nat) (s : Bst) (l : List Acc.T) (a : Acc.T) (A : Option Addr) (c : Nat) (F : List Nat) (R : Res) (hR : Z7 R (.slice A a.key.length c) (cellsOf a.key)) (hf : Acc.Fine l) (h : Acc.ok a) (hn : a.name ∈ Acc.nm l) : ConR Tryz.prog 49 [.c gb [isD (.map (s.M.map Prod.fst)), isD (.slice s.n.A (Acc.nm l).length s.n.c), isD (.map (s.M.map Prod.snd))], .r s.n.F (yb 9 1 Zb s.n.A s.n.c (Acc.nm l)), .r s.F1 (zX (s.M.map Prod.fst) yq (Acc.nm l) (acD l)), .r s.F2 (zX (s.M.map Prod.snd) yn (Acc.seats l) (seD l)), .r F R] [pA gb, yX [yt a.name, iD a.role, isD (.slice A a.key.length c), iD a.dep, iD a.num]] (fun t : Bst => [.c gb [isD (.map (t.M.map Prod.fst)), isD (.slice t.n.A (Acc.nm (Acc.add l a).1).length t.n.c), isD (.map (t.M.map Prod.snd))], .r t.n.F (yb 9 1 Zb t.n.A t.n.c (Acc.nm (Acc.add l a).1)), .r t.F1 (zX (t.M.map Prod.fst) yq (Acc.nm (Acc.add l a).1) (acD (Acc.add l a).1)), .r t.F2 (zX (t.M.map Prod.snd) yn (Acc.seats (Acc.add l a).1) (seD (Acc.add l a).1)), .r F R]) (fun t : Bst => iD (Acc.add l a).2) := by
 refine zY Tryz.func49 k9 rfl k9 fun base w0 => (zh (zb (zk (S := []) (yF rfl rfl) ?_)))
 rintro _ ⟨g3, rfl⟩
 refine za rfl (ze rfl) (zg (zc (zh (zh (zb (za rfl (zd rfl) (za rfl (Z0 rfl rfl k9) (zg (zc (zE rfl (rfl) (zu (zc (zh (zh (zb (za rfl (zG 5 5 rfl rfl k9 rfl zp) (zk (S := []) (zA [] (con_validA a.name a.role a.key.length a.dep a.num) rfl ⟨(zr (Zz ⟨zf _, zf _, le_is_len, zf _, zf _, trivial⟩)), trivial⟩ rfl) ?_)))))))))))))))))
 rintro _ rfl
 refine za rfl (yU rfl) (zg (zc (zE rfl (by rw [decide_eq_true (show Acc.okN _ _ _ _ _ from h)]; rfl) (zu (zc (zh (zh (yj [] (.r 0 (.r 1 (.r 2 (.r 3 (.r 4 (.r 5 (.r 6 (.r 7 (.r 8 (.r 9 (.n 10 (.e 11 (.r 12 .fin) .no) .no))))))))))) k9 k9 (fun d _ _ _ _ h => by cases d <;> exact h) (zj rfl rfl (zd rfl) (zj rfl rfl (zw rfl) (zj rfl rfl (zi (n := 0) rfl k9) (zj rfl rfl (zl 0 rfl rfl rfl k9 zp) (zj rfl rfl (zi (n := 0) rfl k9) (zj rfl rfl (zl 5 rfl rfl rfl k9 zp) (zj rfl rfl ((Rd.lookQ (kt := 9) (et := 121) (ok := true) 2 rfl rfl rfl (zf _) k9 (keyNm _) hn zp)) (zj rfl rfl (zd rfl) (zj rfl rfl (zq rfl rfl) (zj rfl rfl (zq rfl rfl) (Yb rfl (EfB.alloc (zs := [.string ⟨#[]⟩, .int .i64 0, .slice none 0 0, .int .i64 0, .int .i64 0]) k9 rfl) ?_ zI)))))))))))))))))))
 rintro g5 _ rfl
 refine zZ rfl (zF 6 rfl rfl rfl k9 rfl (List.mem_append_right _ (List.mem_cons_self))) ?_ zI
 rintro _ rfl
 refine zj rfl rfl (ze rfl) (zV (zc (zh (zb (za rfl (zd rfl) (za rfl (zd rfl) (zn rfl rfl (rfl) rfl rfl (zn rfl rfl (rfl) rfl rfl (zn rfl rfl (rfl) rfl rfl (zn rfl rfl (rfl) rfl rfl (zn rfl rfl (rfl) rfl rfl (zn rfl rfl (rfl) rfl rfl (za rfl (zz rfl (rfl) rfl) (zg (zc (yf rfl (rfl) (zh (zb (za rfl (ze rfl) (zg (zc (zS (fn := Tryz.f49) (s) [0, 1, 2, 3, 4] (fun _ _ h => h) (Rs.le (Rs.one rfl (zo rfl)) ?_) d9 ⟨⟨_, rfl, ⟨zf _, zC (by rw [yy h (Yi hn)]), zf _, trivial⟩⟩, ⟨⟨_, rfl, ZN (by rw [yy h (Yi hn)]) (by rw [yy h (Yi hn)])⟩, ⟨⟨_, rfl, (by rw [yy h (Yi hn)]; exact yp _)⟩, ⟨⟨_, rfl, (by rw [yy h (Yi hn)]; exact yp _)⟩, ⟨lR rfl, trivial⟩⟩⟩⟩⟩))))))))))))))))))))))
 exact zC (by rw [yy h (Yi hn)])
theorem con_add_busys (gb : Nat) (s : Bst) (l : List Acc.T) (a : Acc.T) (A : Option Addr) (c : Nat) (F : List Nat) (R : Res) (hR : Z7 R (.slice A a.key.length c) (cellsOf a.key)) (hf : Acc.Fine l) (h : Acc.ok a) (hn : a.name ∉ Acc.nm l) (hs : (a.role, a.num) ∈ Acc.seats l) : ConR Tryz.prog 49 [.c gb [isD (.map (s.M.map Prod.fst)), isD (.slice s.n.A (Acc.nm l).length s.n.c), isD (.map (s.M.map Prod.snd))], .r s.n.F (yb 9 1 Zb s.n.A s.n.c (Acc.nm l)), .r s.F1 (zX (s.M.map Prod.fst) yq (Acc.nm l) (acD l)), .r s.F2 (zX (s.M.map Prod.snd) yn (Acc.seats l) (seD l)), .r F R] [pA gb, yX [yt a.name, iD a.role, isD (.slice A a.key.length c), iD a.dep, iD a.num]] (fun t : Bst => [.c gb [isD (.map (t.M.map Prod.fst)), isD (.slice t.n.A (Acc.nm (Acc.add l a).1).length t.n.c), isD (.map (t.M.map Prod.snd))], .r t.n.F (yb 9 1 Zb t.n.A t.n.c (Acc.nm (Acc.add l a).1)), .r t.F1 (zX (t.M.map Prod.fst) yq (Acc.nm (Acc.add l a).1) (acD (Acc.add l a).1)), .r t.F2 (zX (t.M.map Prod.snd) yn (Acc.seats (Acc.add l a).1) (seD (Acc.add l a).1)), .r F R]) (fun t : Bst => iD (Acc.add l a).2) := by
 refine zY Tryz.func49 k9 rfl k9 fun base w0 => (zh (zb (zk (S := []) (yF rfl rfl) ?_)))
 rintro _ ⟨g3, rfl⟩
 refine za rfl (ze rfl) (zg (zc (zh (zh (zb (za rfl (zd rfl) (za rfl (Z0 rfl rfl k9) (zg (zc (zE rfl (rfl) (zu (zc (zh (zh (zb (za rfl (zG 5 5 rfl rfl k9 rfl zp) (zk (S := []) (zA [] (con_validA a.name a.role a.key.length a.dep a.num) rfl ⟨(zr (Zz ⟨zf _, zf _, le_is_len, zf _, zf _, trivial⟩)), trivial⟩ rfl) ?_)))))))))))))))))
 rintro _ rfl
 refine za rfl (yU rfl) (zg (zc (zE rfl (by rw [decide_eq_true (show Acc.okN _ _ _ _ _ from h)]; rfl) (zu (zc (zh (zh (yj [] (.r 0 (.r 1 (.r 2 (.r 3 (.r 4 (.r 5 (.r 6 (.r 7 (.r 8 (.r 9 (.n 10 (.e 11 (.r 12 .fin) .no) .no))))))))))) k9 k9 (fun d _ _ _ _ h => by cases d <;> exact h) (zj rfl rfl (zd rfl) (zj rfl rfl (zw rfl) (zj rfl rfl (zi (n := 0) rfl k9) (zj rfl rfl (zl 0 rfl rfl rfl k9 zp) (zj rfl rfl (zi (n := 0) rfl k9) (zj rfl rfl (zl 5 rfl rfl rfl k9 zp) (zj rfl rfl ((Rd.mono (Rd.lookQN (kt := 9) (et := 121) (z := .agg #[.string ⟨#[]⟩, .int .i64 0, .slice none 0 0, .int .i64 0, .int .i64 0]) (ok := true) 2 rfl rfl rfl (zf _) k9 k9 (keyNm _) hn zp) tup_z5)) (zj rfl rfl (zd rfl) (zj rfl rfl (zq rfl rfl) (zj rfl rfl (zq rfl rfl) (Yb rfl (EfB.alloc (zs := [.string ⟨#[]⟩, .int .i64 0, .slice none 0 0, .int .i64 0, .int .i64 0]) k9 rfl) ?_ zI)))))))))))))))))))
 rintro g5 _ rfl
 refine zZ rfl (zF 6 rfl rfl rfl k9 rfl (List.mem_append_right _ (List.mem_cons_self))) ?_ zI
 rintro _ rfl
 refine zj rfl rfl (ze rfl) (zV (zc (zh (zb (za rfl (zd rfl) (za rfl (zd rfl) (zm rfl rfl (rfl) rfl rfl (zd rfl) (zm rfl rfl (rfl) rfl rfl (zi (n := 1) rfl k9) (zm rfl rfl (rfl) rfl rfl (zl 5 rfl rfl rfl k9 zp) (zm rfl rfl (rfl) rfl rfl (zi (n := 4) rfl k9) (zm rfl rfl (rfl) rfl rfl (zl 5 rfl rfl rfl k9 zp) (yA (S := []) rfl rfl (rfl) rfl (zA [0, 2, 1, 3] (con_taken l a.role a.num) rfl ⟨(yL 0 rfl d9 ⟨(yx 2 rfl d9), (sees_vec 1 rfl d9), (yx 3 rfl d9), trivial⟩), (zr (zf _)), (zr (zf _)), trivial⟩ rfl) ?_))))))))))))
 rintro _ rfl
 refine za rfl (zy rfl (rfl) rfl) (zg (zc (yf rfl (decide_eq_true hs) (zh (zb (za rfl (ze rfl) (zg (zc (zS (fn := Tryz.f49) (s) [0, 1, 2, 3, 4] (fun _ _ h => h) (Rs.le (Rs.one rfl (zo rfl)) ?_) d9 ⟨⟨_, rfl, ⟨zf _, zC (by rw [yy h (Yh hs)]), zf _, trivial⟩⟩, ⟨⟨_, rfl, ZN (by rw [yy h (Yh hs)]) (by rw [yy h (Yh hs)])⟩, ⟨⟨_, rfl, (by rw [yy h (Yh hs)]; exact yp _)⟩, ⟨⟨_, rfl, (by rw [yy h (Yh hs)]; exact yp _)⟩, ⟨lR rfl, trivial⟩⟩⟩⟩⟩)))))))))
 exact zC (by rw [yy h (Yh hs)])
theorem con_add_full (gb : Nat) (s : Bst) (l : List Acc.T) (a : Acc.T) (A : Option Addr) (c : Nat) (F : List Nat) (R : Res) (hR : Z7 R (.slice A a.key.length c) (cellsOf a.key)) (hf : Acc.Fine l) (h : Acc.ok a) (hn : a.name ∉ Acc.nm l) (hs : (a.role, a.num) ∉ Acc.seats l) (hl : 256 ≤ l.length) : ConR Tryz.prog 49 [.c gb [isD (.map (s.M.map Prod.fst)), isD (.slice s.n.A (Acc.nm l).length s.n.c), isD (.map (s.M.map Prod.snd))], .r s.n.F (yb 9 1 Zb s.n.A s.n.c (Acc.nm l)), .r s.F1 (zX (s.M.map Prod.fst) yq (Acc.nm l) (acD l)), .r s.F2 (zX (s.M.map Prod.snd) yn (Acc.seats l) (seD l)), .r F R] [pA gb, yX [yt a.name, iD a.role, isD (.slice A a.key.length c), iD a.dep, iD a.num]] (fun t : Bst => [.c gb [isD (.map (t.M.map Prod.fst)), isD (.slice t.n.A (Acc.nm (Acc.add l a).1).length t.n.c), isD (.map (t.M.map Prod.snd))], .r t.n.F (yb 9 1 Zb t.n.A t.n.c (Acc.nm (Acc.add l a).1)), .r t.F1 (zX (t.M.map Prod.fst) yq (Acc.nm (Acc.add l a).1) (acD (Acc.add l a).1)), .r t.F2 (zX (t.M.map Prod.snd) yn (Acc.seats (Acc.add l a).1) (seD (Acc.add l a).1)), .r F R]) (fun t : Bst => iD (Acc.add l a).2) := by
 refine zY Tryz.func49 k9 rfl k9 fun base w0 => (zh (zb (zk (S := []) (yF rfl rfl) ?_)))
 rintro _ ⟨g3, rfl⟩
 refine za rfl (ze rfl) (zg (zc (zh (zh (zb (za rfl (zd rfl) (za rfl (Z0 rfl rfl k9) (zg (zc (zE rfl (rfl) (zu (zc (zh (zh (zb (za rfl (zG 5 5 rfl rfl k9 rfl zp) (zk (S := []) (zA [] (con_validA a.name a.role a.key.length a.dep a.num) rfl ⟨(zr (Zz ⟨zf _, zf _, le_is_len, zf _, zf _, trivial⟩)), trivial⟩ rfl) ?_)))))))))))))))))
 rintro _ rfl
 refine za rfl (yU rfl) (zg (zc (zE rfl (by rw [decide_eq_true (show Acc.okN _ _ _ _ _ from h)]; rfl) (zu (zc (zh (zh (yj [] (.r 0 (.r 1 (.r 2 (.r 3 (.r 4 (.r 5 (.r 6 (.r 7 (.r 8 (.r 9 (.n 10 (.e 11 (.r 12 .fin) .no) .no))))))))))) k9 k9 (fun d _ _ _ _ h => by cases d <;> exact h) (zj rfl rfl (zd rfl) (zj rfl rfl (zw rfl) (zj rfl rfl (zi (n := 0) rfl k9) (zj rfl rfl (zl 0 rfl rfl rfl k9 zp) (zj rfl rfl (zi (n := 0) rfl k9) (zj rfl rfl (zl 5 rfl rfl rfl k9 zp) (zj rfl rfl ((Rd.mono (Rd.lookQN (kt := 9) (et := 121) (z := .agg #[.string ⟨#[]⟩, .int .i64 0, .slice none 0 0, .int .i64 0, .int .i64 0]) (ok := true) 2 rfl rfl rfl (zf _) k9 k9 (keyNm _) hn zp) tup_z5)) (zj rfl rfl (zd rfl) (zj rfl rfl (zq rfl rfl) (zj rfl rfl (zq rfl rfl) (Yb rfl (EfB.alloc (zs := [.string ⟨#[]⟩, .int .i64 0, .slice none 0 0, .int .i64 0, .int .i64 0]) k9 rfl) ?_ zI)))))))))))))))))))
 rintro g5 _ rfl
 refine zZ rfl (zF 6 rfl rfl rfl k9 rfl (List.mem_append_right _ (List.mem_cons_self))) ?_ zI
 rintro _ rfl
 refine zj rfl rfl (ze rfl) (zV (zc (zh (zb (za rfl (zd rfl) (za rfl (zd rfl) (zm rfl rfl (rfl) rfl rfl (zd rfl) (zm rfl rfl (rfl) rfl rfl (zi (n := 1) rfl k9) (zm rfl rfl (rfl) rfl rfl (zl 5 rfl rfl rfl k9 zp) (zm rfl rfl (rfl) rfl rfl (zi (n := 4) rfl k9) (zm rfl rfl (rfl) rfl rfl (zl 5 rfl rfl rfl k9 zp) (yA (S := []) rfl rfl (rfl) rfl (zA [0, 2, 1, 3] (con_taken l a.role a.num) rfl ⟨(yL 0 rfl d9 ⟨(yx 2 rfl d9), (sees_vec 1 rfl d9), (yx 3 rfl d9), trivial⟩), (zr (zf _)), (zr (zf _)), trivial⟩ rfl) ?_))))))))))))
 rintro _ rfl
 refine za rfl (zy rfl (rfl) rfl) (zg (zc (zE rfl (decide_eq_false hs) (zu (zc (zh (zh (zb (za rfl (zd rfl) (za rfl (zw rfl) (za rfl (zi (n := 1) rfl k9) (za rfl (zl 0 rfl rfl rfl k9 zp) (za rfl (Rd.lenE (e := 9) rfl k9) (za rfl (ZL rfl rfl) (zg (zc (yf rfl (by simp; omega) (zh (zb (za rfl (ze rfl) (zg (zc (zS (fn := Tryz.f49) (s) [0, 1, 2, 3, 4] (fun _ _ h => h) (Rs.le (Rs.one rfl (zo rfl)) ?_) d9 ⟨⟨_, rfl, ⟨zf _, zC (by rw [Zd h (yO hn hs) hl]), zf _, trivial⟩⟩, ⟨⟨_, rfl, ZN (by rw [Zd h (yO hn hs) hl]) (by rw [Zd h (yO hn hs) hl])⟩, ⟨⟨_, rfl, (by rw [Zd h (yO hn hs) hl]; exact yp _)⟩, ⟨⟨_, rfl, (by rw [Zd h (yO hn hs) hl]; exact yp _)⟩, ⟨lR rfl, trivial⟩⟩⟩⟩⟩)))))))))))))))))))))))
 exact zC (by rw [Zd h (yO hn hs) hl])
theorem con_add_ok (gb : Nat) (s : Bst) (l : List Acc.T) (a : Acc.T) (A : Option Addr) (c : Nat) (F : List Nat) (R : Res) (hR : Z7 R (.slice A a.key.length c) (cellsOf a.key)) (hf : Acc.Fine l) (h : Acc.ok a) (hn : a.name ∉ Acc.nm l) (hs : (a.role, a.num) ∉ Acc.seats l) (hl : ¬ 256 ≤ l.length) : ConR Tryz.prog 49 [.c gb [isD (.map (s.M.map Prod.fst)), isD (.slice s.n.A (Acc.nm l).length s.n.c), isD (.map (s.M.map Prod.snd))], .r s.n.F (yb 9 1 Zb s.n.A s.n.c (Acc.nm l)), .r s.F1 (zX (s.M.map Prod.fst) yq (Acc.nm l) (acD l)), .r s.F2 (zX (s.M.map Prod.snd) yn (Acc.seats l) (seD l)), .r F R] [pA gb, yX [yt a.name, iD a.role, isD (.slice A a.key.length c), iD a.dep, iD a.num]] (fun t : Bst => [.c gb [isD (.map (t.M.map Prod.fst)), isD (.slice t.n.A (Acc.nm (Acc.add l a).1).length t.n.c), isD (.map (t.M.map Prod.snd))], .r t.n.F (yb 9 1 Zb t.n.A t.n.c (Acc.nm (Acc.add l a).1)), .r t.F1 (zX (t.M.map Prod.fst) yq (Acc.nm (Acc.add l a).1) (acD (Acc.add l a).1)), .r t.F2 (zX (t.M.map Prod.snd) yn (Acc.seats (Acc.add l a).1) (seD (Acc.add l a).1)), .r F R]) (fun t : Bst => iD (Acc.add l a).2) := by
 refine zY Tryz.func49 k9 rfl k9 fun base w0 => (zh (zb (zk (S := []) (yF rfl rfl) ?_)))
 rintro _ ⟨g3, rfl⟩
 refine za rfl (ze rfl) (zg (zc (zh (zh (zb (za rfl (zd rfl) (za rfl (Z0 rfl rfl k9) (zg (zc (zE rfl (rfl) (zu (zc (zh (zh (zb (za rfl (zG 5 5 rfl rfl k9 rfl zp) (zk (S := []) (zA [] (con_validA a.name a.role a.key.length a.dep a.num) rfl ⟨(zr (Zz ⟨zf _, zf _, le_is_len, zf _, zf _, trivial⟩)), trivial⟩ rfl) ?_)))))))))))))))))
 rintro _ rfl
 refine za rfl (yU rfl) (zg (zc (zE rfl (by rw [decide_eq_true (show Acc.okN _ _ _ _ _ from h)]; rfl) (zu (zc (zh (zh (yj [] (.r 0 (.r 1 (.r 2 (.r 3 (.r 4 (.r 5 (.r 6 (.r 7 (.r 8 (.r 9 (.n 10 (.e 11 (.r 12 .fin) .no) .no))))))))))) k9 k9 (fun d _ _ _ _ h => by cases d <;> exact h) (zj rfl rfl (zd rfl) (zj rfl rfl (zw rfl) (zj rfl rfl (zi (n := 0) rfl k9) (zj rfl rfl (zl 0 rfl rfl rfl k9 zp) (zj rfl rfl (zi (n := 0) rfl k9) (zj rfl rfl (zl 5 rfl rfl rfl k9 zp) (zj rfl rfl ((Rd.mono (Rd.lookQN (kt := 9) (et := 121) (z := .agg #[.string ⟨#[]⟩, .int .i64 0, .slice none 0 0, .int .i64 0, .int .i64 0]) (ok := true) 2 rfl rfl rfl (zf _) k9 k9 (keyNm _) hn zp) tup_z5)) (zj rfl rfl (zd rfl) (zj rfl rfl (zq rfl rfl) (zj rfl rfl (zq rfl rfl) (Yb rfl (EfB.alloc (zs := [.string ⟨#[]⟩, .int .i64 0, .slice none 0 0, .int .i64 0, .int .i64 0]) k9 rfl) ?_ zI)))))))))))))))))))
 rintro g5 _ rfl
 refine zZ rfl (zF 6 rfl rfl rfl k9 rfl (List.mem_append_right _ (List.mem_cons_self))) ?_ zI
 rintro _ rfl
 refine zj rfl rfl (ze rfl) (zV (zc (zh (zb (za rfl (zd rfl) (za rfl (zd rfl) (zm rfl rfl (rfl) rfl rfl (zd rfl) (zm rfl rfl (rfl) rfl rfl (zi (n := 1) rfl k9) (zm rfl rfl (rfl) rfl rfl (zl 5 rfl rfl rfl k9 zp) (zm rfl rfl (rfl) rfl rfl (zi (n := 4) rfl k9) (zm rfl rfl (rfl) rfl rfl (zl 5 rfl rfl rfl k9 zp) (yA (S := []) rfl rfl (rfl) rfl (zA [0, 2, 1, 3] (con_taken l a.role a.num) rfl ⟨(yL 0 rfl d9 ⟨(yx 2 rfl d9), (sees_vec 1 rfl d9), (yx 3 rfl d9), trivial⟩), (zr (zf _)), (zr (zf _)), trivial⟩ rfl) ?_))))))))))))
 rintro _ rfl
 refine za rfl (zy rfl (rfl) rfl) (zg (zc (zE rfl (decide_eq_false hs) (zu (zc (zh (zh (zb (za rfl (zd rfl) (za rfl (zw rfl) (za rfl (zi (n := 1) rfl k9) (za rfl (zl 0 rfl rfl rfl k9 zp) (za rfl (Rd.lenE (e := 9) rfl k9) (za rfl (ZL rfl rfl) (zg (zc (zE rfl (by simp; omega) (zu (zc (zh (zb (za rfl (zd rfl) (za rfl (zG 5 5 rfl rfl k9 rfl zp) (zk (zB [0, 1, 2, 3, 4] (con_put gb s l a A c F R hR (by have := h.2.1; omega) (by have := hf.len; omega) (Acc.free_of hf h (yO hn hs) o9)) rfl ⟨zf _, zf _, trivial⟩ d9 (sX rfl) (fun _ h => h) rfl) ?_))))))))))))))))))))))))
 rintro _ ⟨s39, rfl⟩
 refine zg (zc (zh (zb (za rfl (ze rfl) (zg (zc (zS (fn := Tryz.f49) (s39) [2, 3, 4, 5, 6] (fun _ _ h => h) (Rs.le (Rs.one rfl (zo rfl)) ?_) d9 ⟨⟨_, rfl, ⟨zf _, zC (by rw [y8 h (yO hn hs) hl]), zf _, trivial⟩⟩, ⟨⟨_, rfl, ZN (by rw [y8 h (yO hn hs) hl]) (by rw [y8 h (yO hn hs) hl])⟩, ⟨⟨_, rfl, (by rw [y8 h (yO hn hs) hl]; exact yp _)⟩, ⟨⟨_, rfl, (by rw [y8 h (yO hn hs) hl]; exact yp _)⟩, ⟨lR rfl, trivial⟩⟩⟩⟩⟩)))))))
 exact zC (by rw [y8 h (yO hn hs) hl])
theorem con_add (gb : Nat) (s : Bst) (l : List Acc.T) (a : Acc.T) (A : Option Addr) (c : Nat) (F : List Nat) (R : Res) (hR : Z7 R (.slice A a.key.length c) (cellsOf a.key)) (hf : Acc.Fine l) :
  ConR Tryz.prog 49 [bookC gb s l, bookN s l, bookA s l, bookS s l, .r F R] [pA gb, yX [yt a.name, iD a.role, isD (.slice A a.key.length c), iD a.dep, iD a.num]]
   (fun t : Bst => [bookC gb t (Acc.add l a).1, bookN t (Acc.add l a).1, bookA t (Acc.add l a).1, bookS t (Acc.add l a).1, .r F R]) (fun _ => iD (Acc.add l a).2) := by
 by_cases h : Acc.ok a
 ·by_cases hn : a.name ∈ Acc.nm l
  ·exact con_add_busyn gb s l a A c F R hR hf h hn
  ·by_cases hs : (a.role, a.num) ∈ Acc.seats l
   ·exact con_add_busys gb s l a A c F R hR hf h hn hs
   ·by_cases hl : 256 ≤ l.length
    ·exact con_add_full gb s l a A c F R hR hf h hn hs hl
    ·exact con_add_ok gb s l a A c F R hR hf h hn hs hl
 ·exact con_add_bad gb s l a A c F R hR hf h
end Sx
end Go.Proofs.YtgokpcnabgacnaaGreatDoor
namespace Go.Proofs.YtgokpcnabgacnaaGreatDoor
open Go.RowKit
namespace Sx
section
variable {P : Program} {Γ : Cx} {σ : St} {Q : Exit → Act → World → Prop} {a : Act} {w : World}
theorem SWl.lookA5 {ops : Array Oper} {lo : List Oper} (k : Nat) {d0 d1 d3 d4 : D} {b : List UInt8} (hk : σ.tm k = some (yX [d0, d1, bD b, d3, d4])) (h : ∀ A cp, SWl P Γ ops Q lo ((⟨σ.tm, σ.bx ++ [.r [] (viewR (.slice A b.length cp) (cellsOf b))]⟩ : St).put k (yX [d0, d1, isD (.slice A b.length cp), d3, d4]))) : SWl P Γ ops Q lo σ := fun a w hh => by
 obtain ⟨cs, hv, ha⟩ := hh.tm k _ hk
 match cs, ha with
 | [u0, u1, v, u3, u4], ha =>
  obtain ⟨h0, h1, ⟨A, c, hvv, hc, hr, hn⟩, h3, h4, -⟩ := ha
  rw [zv] at hvv hc
  refine h A c a w ?_
  have h5 := hh.more (Only.refl [] w) (b := .r [] (viewR (.slice A b.length c) (cellsOf b))) ⟨⟨A, c, by rw [zv], by rw [zv]; exact hc, hr, fun h0 p hp => .inr (hn h0 p hp)⟩, by simp⟩ (by simp [Box.fp]) (by simp [Box.fp])
  have hL : ∀ x ∈ St.L Γ ⟨σ.tm, σ.bx ++ [.r [] (viewR (.slice A b.length c) (cellsOf b))]⟩, x ∈ σ.L Γ ∨ w.heap.size ≤ x := fun x hx => .inl (by simpa [St.L, fps, Box.fp] using hx)
  exact h5.learn ⟨[u0, u1, v, u3, u4], hv, D.less _ h0 hL, D.less _ h1 hL, hvv, D.less _ h3 hL, D.less _ h4 hL, trivial⟩
theorem SWz.lookA5 {l : List Oper} {S : List Nat} {tz : Reg.Tz} (k : Nat) {d0 d1 d3 d4 : D} {b : List UInt8} (hk : σ.tm k = some (yX [d0, d1, bD b, d3, d4])) (h : ∀ A cp, SWz P Γ l Q S tz ((⟨σ.tm, σ.bx ++ [.r [] (viewR (.slice A b.length cp) (cellsOf b))]⟩ : St).put k (yX [d0, d1, isD (.slice A b.length cp), d3, d4]))) : SWz P Γ l Q S tz σ := fun a w hh => by
 obtain ⟨cs, hv, ha⟩ := hh.tm k _ hk
 match cs, ha with
 | [u0, u1, v, u3, u4], ha =>
  obtain ⟨h0, h1, ⟨A, c, hvv, hc, hr, hn⟩, h3, h4, -⟩ := ha
  rw [zv] at hvv hc
  refine h A c a w ?_
  have h5 := hh.more (Only.refl [] w) (b := .r [] (viewR (.slice A b.length c) (cellsOf b))) ⟨⟨A, c, by rw [zv], by rw [zv]; exact hc, hr, fun h0 p hp => .inr (hn h0 p hp)⟩, by simp⟩ (by simp [Box.fp]) (by simp [Box.fp])
  have hL : ∀ x ∈ St.L Γ ⟨σ.tm, σ.bx ++ [.r [] (viewR (.slice A b.length c) (cellsOf b))]⟩, x ∈ σ.L Γ ∨ w.heap.size ≤ x := fun x hx => .inl (by simpa [St.L, fps, Box.fp] using hx)
  exact h5.learn ⟨[u0, u1, v, u3, u4], hv, D.less _ h0 hL, D.less _ h1 hL, hvv, D.less _ h3 hL, D.less _ h4 hL, trivial⟩
end
theorem Acc.take_last {l : List Acc.T} {i : Nat} {x : Acc.T} (h : Acc.inOrder l) (hx : l[i]? = some x) : ∀ y ∈ l.take i, Acc.lt y.name x.name = true := by
 intro y hy
 obtain ⟨j, hj, e⟩ := List.mem_iff_getElem.1 hy
 have hil := (List.getElem?_eq_some_iff.1 hx).1
 have hji : j < i := by simp at hj; omega
 have h1 := List.pairwise_iff_getElem.1 h j i o9 hil hji
 rw [List.getElem_take] at e
 rw [← e, ← (List.getElem?_eq_some_iff.1 hx).2]
 exact h1
theorem fine_take {l : List Acc.T} (h : Acc.Fine l) (i : Nat) : Acc.Fine (l.take i) :=
 ⟨h.srt.sublist (List.take_sublist _ _), fun a ha => h.oks a (List.mem_of_mem_take ha), h.uni.sublist (List.take_sublist _ _), by have := h.len; simp; omega⟩
theorem while_all {α : Type} {p : α → Bool} : ∀ {l : List α}, (∀ x ∈ l, p x = true) → l.takeWhile p = l ∧ l.dropWhile p = []
 | [], _ => ⟨rfl, rfl⟩
 | x :: l, h => by
  obtain ⟨h1, h2⟩ := while_all (l := l) (fun y hy => h y (List.mem_cons_of_mem _ hy))
  have h3 := h x List.mem_cons_self
  exact ⟨by rw [List.takeWhile_cons, if_pos h3, h1], by rw [List.dropWhile_cons, if_pos h3, h2]⟩
theorem Acc.ins_take {l : List Acc.T} {i : Nat} {x : Acc.T} (h : Acc.inOrder l) (hx : l[i]? = some x) : Acc.ins (l.take i) x = l.take (i + 1) := by
 have h1 := Acc.take_last h hx
 have e1 : (l.take i).takeWhile (fun y => Acc.lt y.name x.name) = l.take i := (while_all fun y hy => h1 y hy).1
 have e2 : (l.take i).dropWhile (fun y => Acc.lt y.name x.name) = [] := (while_all fun y hy => h1 y hy).2
 unfold Acc.ins
 rw [e1, e2, yc hx]
theorem Acc.free_take {l : List Acc.T} {i : Nat} {x : Acc.T} (h : Acc.Fine l) (hx : l[i]? = some x) : Acc.Free (l.take i) x := by
 have hil := (List.getElem?_eq_some_iff.1 hx).1
 refine ⟨fine_take h i, by rw [Acc.ins_take h.srt hx]; exact fine_take h _, fun hm => ?_, fun h3 hm => ?_⟩
 ·obtain ⟨y, hy, e⟩ := List.mem_map.1 hm
  exact Acc.lt_ne (Acc.take_last h.srt hx y hy) e
 ·obtain ⟨y, hy, h4, e⟩ := Acc.mem_seats.1 hm
  injection e with e1 e2
  have := Acc.seats_uni h.uni (List.mem_of_mem_take hy) (List.mem_of_getElem? hx) h4 e1 e2
  have h5 := Acc.take_last h.srt hx y hy
  rw [this, Acc.lt_irr] at h5
  cases h5
theorem bldBk0 : Bld Tryz.prog 117 [] [] [isD (.map none), isD (.slice none 0 0), isD (.map none)] := fun L w vs h => by
 obtain rfl := all0 h
 exact ⟨[.map none, .slice none 0 0, .map none], ⟨rfl, rfl, rfl, trivial⟩, fun w' => by kernel_rfl⟩
end Sx
end Go.Proofs.YtgokpcnabgacnaaGreatDoor
namespace Go.Proofs.YtgokpcnabgacnaaGreatDoor
open Go.RowKit
namespace Sx
theorem Yg (r : Int) : (if r = 3 then 1 else if r = 2 then 32 else if r = 1 then 512 else 0) = Acc.nums r := by
 unfold Acc.nums
 by_cases h1 : r = 1
 ·subst h1; rfl
 ·by_cases h2 : r = 2
  ·subst h2; rfl
  ·by_cases h3 : r = 3
   ·subst h3; rfl
   ·simp [h1, h2, h3]
theorem Yf {nm : List UInt8} {role : Int} {kl : Nat} {dep num : Int} (h1 : Acc.isName nm) (h2 : kl = 32) (h3 : 0 ≤ dep) (h4 : dep ≤ 1125899906842624) (h5 : 0 ≤ num) : Acc.okN nm role kl dep num ↔ num < Acc.nums role := Acc.okN_iff h1 h2 o9 o9 o9
def Acc.eqv (a b : Acc.T) : Prop := a.name = b.name ∧ a.role = b.role ∧ a.key = b.key ∧ a.dep = b.dep ∧ a.num = b.num
instance (a b : Acc.T) : Decidable (Acc.eqv a b) := by unfold Acc.eqv; infer_instance
class IsSl (d : D) : Prop where
 h : ∀ L w v, d.R L w v → ∃ A n c, v = .slice A n c
instance (A : Option Addr) (n c : Nat) : IsSl (isD (.slice A n c)) := ⟨fun _ _ _ h => ⟨A, n, c, h⟩⟩
instance (xs : List Value) : IsSl (slD xs) := ⟨fun _ _ _ ⟨A, c, h, _⟩ => ⟨A, _, c, h⟩⟩
instance (n : Nat) (ds : List D) : IsSl (rwD n ds) := ⟨fun _ _ _ ⟨A, c, h, _⟩ => ⟨A, _, c, h⟩⟩
instance (n : Nat) (d : D) [h : IsSl d] : IsSl (nwD n d) := ⟨fun L w v hv => h.h _ _ _ (le_nw _ _ _ hv)⟩
theorem bldRB {f : D} [hd : IsSl f] : Bld Tryz.prog 31 [0] [f] [f] := fun L w vs hv => by
 obtain ⟨u, rfl, hu⟩ := all1 hv
 obtain ⟨A, n, c, rfl⟩ := hd.h _ _ _ hu
 exact ⟨[.slice A n c], ⟨hu, trivial⟩, fun w' => by kernel_rfl⟩
def Acc.out (l : List Acc.T) (a : Acc.T) (i : Nat) : List Acc.T := if Acc.pos l a.name < i then l.take (Acc.pos l a.name) ++ a :: (l.take i).drop (Acc.pos l a.name) else l.take i
theorem Acc.out0 (l : List Acc.T) (a : Acc.T) : Acc.out l a 0 = [] := by unfold Acc.out; rw [if_neg (Nat.not_lt_zero _)]; rfl
theorem Acc.out_len {l : List Acc.T} {a : Acc.T} {i : Nat} (h : i ≤ l.length) : (Acc.out l a i).length ≤ i + 1 := by
 unfold Acc.out
 split
 ·simp; omega
 ·simp; omega
theorem Acc.out_in {l : List Acc.T} {a : Acc.T} {i : Nat} {x : Acc.T} (hx : l[i]? = some x) (h : i = Acc.pos l a.name) : Acc.out l a (i + 1) = Acc.out l a i ++ [a] ++ [x] := by
 have hi := (List.getElem?_eq_some_iff.1 hx).1
 unfold Acc.out
 rw [if_pos o9, if_neg o9, ← h, yc hx, List.drop_append_of_le_length (by simp; omega), List.drop_of_length_le (by simp; omega)]
 simp
theorem Acc.out_bef {l : List Acc.T} {a : Acc.T} {i : Nat} {x : Acc.T} (hx : l[i]? = some x) (h : i < Acc.pos l a.name) : Acc.out l a (i + 1) = Acc.out l a i ++ [x] := by
 unfold Acc.out
 rw [if_neg o9, if_neg o9, yc hx]
theorem Acc.out_aft {l : List Acc.T} {a : Acc.T} {i : Nat} {x : Acc.T} (hx : l[i]? = some x) (h : Acc.pos l a.name < i) : Acc.out l a (i + 1) = Acc.out l a i ++ [x] := by
 have hi := (List.getElem?_eq_some_iff.1 hx).1
 unfold Acc.out
 rw [if_pos o9, if_pos h, yc hx, List.drop_append_of_le_length (by simp; omega)]
 simp
theorem Acc.out_end {l : List Acc.T} {a : Acc.T} (h : Acc.pos l a.name < l.length) : Acc.out l a l.length = Acc.ins l a := by
 unfold Acc.out
 rw [if_pos h, List.take_length, Acc.ins_eq]
theorem Acc.out_end' {l : List Acc.T} {a : Acc.T} (h : ¬ Acc.pos l a.name < l.length) : Acc.out l a l.length ++ [a] = Acc.ins l a := by
 have := Acc.pos_le l a.name
 unfold Acc.out
 rw [if_neg h, List.take_length, Acc.ins_eq, List.take_of_length_le o9, List.drop_of_length_le o9]
theorem Acc.pos_step {l : List Acc.T} {a x : Acc.T} {i : Nat} (h : Acc.inOrder l) (hx : l[i]? = some x) (hne : x.name ≠ a.name) (hi : ¬ Acc.pos l a.name < i) : Acc.lt a.name x.name = decide (i = Acc.pos l a.name) := by
 have hil := (List.getElem?_eq_some_iff.1 hx).1
 have hv : (l.map Acc.T.name)[i]?.getD a.name = x.name := by simp [hx]
 by_cases e : i = Acc.pos l a.name
 ·rw [decide_eq_true e]
  have h1 := Acc.pos_ge (n := a.name) h (Nat.le_of_eq e.symm)
  rw [hv] at h1
  rcases Acc.lt_tri a.name x.name with h2 | h2 | h2
  ·exact h2
  ·exact absurd h2.symm hne
  ·rw [h1] at h2; cases h2
 ·rw [decide_eq_false e]
  have h1 := Acc.pos_lt (l := l) (n := a.name) (t := i) o9
  rw [hv] at h1
  exact Acc.lt_asym h1
end Sx
end Go.Proofs.YtgokpcnabgacnaaGreatDoor
