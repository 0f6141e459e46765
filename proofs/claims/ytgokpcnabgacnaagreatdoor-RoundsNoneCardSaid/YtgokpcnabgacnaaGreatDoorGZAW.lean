/- LEDGERS: what the law changes in place. LEDGERS: Entries, and Append while its iterator is kept. LEDGERS: LedgerAppends. ACCOUNTS: Copy. -/
import Derived.Test.YtgokpcnabgacnaaGreatDoorGZAV
import Derived.Test.YtgokpcnabgacnaaGreatDoorGZAH
import Derived.Test.YtgokpcnabgacnaaGreatDoorGZAK
set_option maxHeartbeats 8000000
set_option maxRecDepth 100000
namespace Go.Proofs.YtgokpcnabgacnaaGreatDoor
open Go.RowKit
namespace Sx
def El.len : El → Nat
 | .k b => b.length
 | .x _ n _ => n
end Sx
end Go.Proofs.YtgokpcnabgacnaaGreatDoor
namespace Go.Proofs.YtgokpcnabgacnaaGreatDoor
open Go.RowKit
namespace Sx
end Sx
end Go.Proofs.YtgokpcnabgacnaaGreatDoor
namespace Go.Proofs.YtgokpcnabgacnaaGreatDoor
open Go.RowKit
namespace Sx
def Led.atE (es : List Led.Ent) (i : Int) : Led.Ent := if 0 ≤ i then (es[i.toNat]?).getD ⟨0, []⟩ else ⟨0, []⟩
end Sx
end Go.Proofs.YtgokpcnabgacnaaGreatDoor
namespace Go.Proofs.YtgokpcnabgacnaaGreatDoor
open Go.RowKit
namespace Sx
theorem con_copyB (gb : Nat) (s : Bst) (l : List Acc.T) (hf : Acc.Fine l) : ConR Tryz.prog 52 [.c gb [isD (.map (s.M.map Prod.fst)), isD (.slice s.n.A (Acc.nm l).length s.n.c), isD (.map (s.M.map Prod.snd))], .r s.n.F (yb 9 1 Zb s.n.A s.n.c (Acc.nm l)), .r s.F1 (zX (s.M.map Prod.fst) yq (Acc.nm l) (acD l)), .r s.F2 (zX (s.M.map Prod.snd) yn (Acc.seats l) (seD l))] [pA gb] (fun t : Nat × Bst => [.c gb [isD (.map (s.M.map Prod.fst)), isD (.slice s.n.A (Acc.nm l).length s.n.c), isD (.map (s.M.map Prod.snd))], .r s.n.F (yb 9 1 Zb s.n.A s.n.c (Acc.nm l)), .r s.F1 (zX (s.M.map Prod.fst) yq (Acc.nm l) (acD l)), .r s.F2 (zX (s.M.map Prod.snd) yn (Acc.seats l) (seD l)), .c t.1 [isD (.map (t.2.M.map Prod.fst)), isD (.slice t.2.n.A (Acc.nm l).length t.2.n.c), isD (.map (t.2.M.map Prod.snd))], .r t.2.n.F (yb 9 1 Zb t.2.n.A t.2.n.c (Acc.nm l)), .r t.2.F1 (zX (t.2.M.map Prod.fst) yq (Acc.nm l) (acD l)), .r t.2.F2 (zX (t.2.M.map Prod.snd) yn (Acc.seats l) (seD l))]) (fun t : Nat × Bst => pA t.1) := by
 refine zY Tryz.func52 k9 rfl k9 fun base w0 => (zh (zb (za rfl (ze rfl) (zg (zc (zh (zh (zb (za rfl (zd rfl) (za rfl (Z0 rfl rfl k9) (zg (zc (zE rfl (rfl) (zu (zc (zh (zb (za rfl (yh rfl rfl bldBk0) (zk (S := []) (yF rfl rfl) ?_)))))))))))))))))))
 rintro _ ⟨g9, rfl⟩
 refine za rfl (ze rfl) (zg (zc (zh (zh (SW.vecN 9 1 Zb (SW.mapQN yq (acD (l.take 0)) (SW.mapQN yn (seD (l.take 0)) (zb (za rfl (zd rfl) (zk (zB [0, 1, 2, 3] (con_list gb s l hf) rfl ⟨zf _, trivial⟩ d9 (sX rfl) (fun _ h => h) rfl) ?_))))))))))
 rintro _ ⟨⟨⟩, rfl⟩
 refine za rfl (yV (e := 121) rfl k9) (za rfl (zd rfl) (zg (zc (zW (Zq (ι := {p : Nat × Bst // p.1 ≤ l.length}) (fun p => zR [(3, pA g9), (11, lsD encA l), (12, iD (l.length : Int)), (13, iD (p.1.1 : Int))] [.c gb [isD (.map (s.M.map Prod.fst)), isD (.slice s.n.A (Acc.nm l).length s.n.c), isD (.map (s.M.map Prod.snd))], .r s.n.F (yb 9 1 Zb s.n.A s.n.c (Acc.nm l)), .r s.F1 (zX (s.M.map Prod.fst) yq (Acc.nm l) (acD l)), .r s.F2 (zX (s.M.map Prod.snd) yn (Acc.seats l) (seD l)), .c g9 [isD (.map (p.1.2.M.map Prod.fst)), isD (.slice p.1.2.n.A (Acc.nm (l.take p.1.1)).length p.1.2.n.c), isD (.map (p.1.2.M.map Prod.snd))], .r p.1.2.n.F (yb 9 1 Zb p.1.2.n.A p.1.2.n.c (Acc.nm (l.take p.1.1))), .r p.1.2.F1 (zX (p.1.2.M.map Prod.fst) yq (Acc.nm (l.take p.1.1)) (acD (l.take p.1.1))), .r p.1.2.F2 (zX (p.1.2.M.map Prod.snd) yn (Acc.seats (l.take p.1.1)) (seD (l.take p.1.1)))]) (fun p => l.length - p.1.1) (⟨(0, ⟨none, [], [], ⟨none, 0, []⟩⟩), Nat.zero_le _⟩) ?_ ?_)))))
 ·exact (sB [4, 5, 6, 7, 0, 1, 2, 3] rfl rfl)
 ·rintro ⟨⟨i, t⟩, hi⟩ K0 hK0
  dsimp only at hi ⊢
  have hll := hf.len
  refine zh (zb (za rfl (yG rfl rfl) (zg (zc (zh (zJ rfl (fun hb14 => ?_) (fun hb14 => ?_)))))))
  ·have hb14 := of_decide_eq_true hb14
   refine zu (zc (zh (zW (zh ?_))))
   obtain ⟨x, hx⟩ : ∃ x, l[i]? = some x := ⟨_, List.getElem?_eq_getElem o9⟩
   have hit := Acc.ins_take hf.srt hx
   have hkl := (hf.oks x (List.mem_of_getElem? hx)).2.1
   refine zb (za rfl (yK (e := 121) 5 rfl rfl k9 k9 o9 (by simpa using hx)) (za rfl (Rd.loadRA 5 rfl k9 d9 (show 5 ≤ 5 by decide) s9) (zk (S := []) (zQ (zs := [.string ⟨#[]⟩, .int .i64 0, .slice none 0 0, .int .i64 0, .int .i64 0]) k9 rfl) ?_)))
   rintro _ ⟨g5, rfl⟩
   refine zk (S := [_]) (zF 8 rfl rfl rfl k9 rfl (List.mem_singleton.2 rfl)) ?_
   rintro _ rfl
   refine zg (zc (zb (za rfl (zd rfl) (za rfl (zG 8 5 rfl rfl k9 rfl zp) (SWl.lookA5 18 rfl fun A18 c18 => (zk (zB [4, 5, 6, 7, 9] (con_put g9 t (l.take i) x A18 c18 [] _ (Yd _ _ _ _ rfl) o9 (by simp; omega) (Acc.free_take hf hx)) rfl ⟨zf _, zf _, trivial⟩ d9 (sX rfl) (fun _ h => h) rfl) ?_))))))
   rintro _ ⟨s19, rfl⟩
   exact zg (ye (zc (zO (σ' := zR [(3, pA g9), (11, lsD encA l), (12, iD (l.length : Int)), (13, iD (i : Int))] [.c gb [isD (.map (s.M.map Prod.fst)), isD (.slice s.n.A (Acc.nm l).length s.n.c), isD (.map (s.M.map Prod.snd))], .r s.n.F (yb 9 1 Zb s.n.A s.n.c (Acc.nm l)), .r s.F1 (zX (s.M.map Prod.fst) yq (Acc.nm l) (acD l)), .r s.F2 (zX (s.M.map Prod.snd) yn (Acc.seats l) (seD l)), .c g9 [isD (.map (s19.M.map Prod.fst)), isD (.slice s19.n.A (Acc.nm (Acc.ins (l.take i) x)).length s19.n.c), isD (.map (s19.M.map Prod.snd))], .r s19.n.F (yb 9 1 Zb s19.n.A s19.n.c (Acc.nm (Acc.ins (l.take i) x))), .r s19.F1 (zX (s19.M.map Prod.fst) yq (Acc.nm (Acc.ins (l.take i) x)) (acD (Acc.ins (l.take i) x))), .r s19.F2 (zX (s19.M.map Prod.snd) yn (Acc.seats (Acc.ins (l.take i) x)) (seD (Acc.ins (l.take i) x)))]) (sB [0, 1, 2, 3, 5, 6, 7, 8] rfl rfl) (zb (za rfl (yM rfl rfl ⟨by omega, by omega⟩) (za rfl (zd rfl) (zg (fun a w hh => hK0 (⟨(i + 1, s19), by dsimp only; omega⟩) (by dsimp only; omega) a w (hh.sub (⟨⟨_, rfl, (sT rfl)⟩, [0, 1, 2, 3, 4, 5, 6, 7], by decide, ⟨la rfl, ⟨lR rfl, ⟨lR rfl, ⟨lR rfl, ⟨⟨_, rfl, ⟨zf _, zC (by rw [hit]), zf _, trivial⟩⟩, ⟨⟨_, rfl, ZN (by rw [hit]) (by rw [hit])⟩, ⟨⟨_, rfl, (by rw [hit]; exact yp _)⟩, ⟨⟨_, rfl, (by rw [hit]; exact yp _)⟩, trivial⟩⟩⟩⟩⟩⟩⟩⟩⟩))))))))))
  ·have hb14 := of_decide_eq_false hb14
   refine yW ?_
   repeat (first | refine Zi ?_ | refine Zj d9 ?_)
   refine Zk (zc (zh (zb (za rfl (zd rfl) (za rfl (ze rfl) (zg (zc ?_)))))))
   refine zS (fn := Tryz.f52) ((g9, t)) [0, 1, 2, 3, 4, 5, 6, 7] (fun _ _ h => h) (Rs.one rfl (zo rfl)) d9 ⟨la rfl, ⟨lR rfl, ⟨lR rfl, ⟨lR rfl, ⟨⟨_, rfl, ⟨zf _, zC (by rw [List.take_of_length_le (show l.length ≤ i by omega)]), zf _, trivial⟩⟩, ⟨⟨_, rfl, ZN (by rw [List.take_of_length_le (show l.length ≤ i by omega)]) (by rw [List.take_of_length_le (show l.length ≤ i by omega)])⟩, ⟨⟨_, rfl, (by rw [List.take_of_length_le (show l.length ≤ i by omega)]; exact yp _)⟩, ⟨⟨_, rfl, (by rw [List.take_of_length_le (show l.length ≤ i by omega)]; exact yp _)⟩, trivial⟩⟩⟩⟩⟩⟩⟩⟩
end Sx
end Go.Proofs.YtgokpcnabgacnaaGreatDoor
