/- ENVELOPES: Decode, Seal; a nil book. ACCOUNTS: books read, in plain terms. -/
import Derived.Test.YtgokpcnabgacnaaGreatDoorGZAU
import Derived.Test.YtgokpcnabgacnaaGreatDoorGZAQ
set_option maxHeartbeats 8000000
set_option maxRecDepth 100000
namespace Go.Proofs.YtgokpcnabgacnaaGreatDoor
open Go.RowKit
namespace Sx
theorem con_sealE (gb : Nat) (s : Bst) (l : List Acc.T) (nm : List UInt8) (rnd ser : Int) (key nonce bid : List UInt8) (hf : Acc.Fine l) : ConR Tryz.prog 76 [.c gb [isD (.map (s.M.map Prod.fst)), isD (.slice s.n.A (Acc.nm l).length s.n.c), isD (.map (s.M.map Prod.snd))], .r s.n.F (yb 9 1 Zb s.n.A s.n.c (Acc.nm l)), .r s.F1 (zX (s.M.map Prod.fst) yq (Acc.nm l) (acD l)), .r s.F2 (zX (s.M.map Prod.snd) yn (Acc.seats l) (seD l))] [pA gb, yt nm, iD rnd, iD ser, bD key, bD nonce, bD bid] (fun _ : Unit => [.c gb [isD (.map (s.M.map Prod.fst)), isD (.slice s.n.A (Acc.nm l).length s.n.c), isD (.map (s.M.map Prod.snd))], .r s.n.F (yb 9 1 Zb s.n.A s.n.c (Acc.nm l)), .r s.F1 (zX (s.M.map Prod.fst) yq (Acc.nm l) (acD l)), .r s.F2 (zX (s.M.map Prod.snd) yn (Acc.seats l) (seD l))]) (fun _ : Unit => tupD [yX (Yj (Env.slT l nm rnd ser key nonce bid)), iD (Env.slE l nm rnd ser key.length nonce.length bid.length)]) := by
 refine zY Tryz.func76 k9 rfl k9 fun base w0 => (zh (zb (zk (S := []) (zQ (zs := [.string ⟨#[]⟩, .int .i64 0, .int .i64 0, .slice none 0 0, .slice none 0 0]) k9 rfl) ?_)))
 rintro _ ⟨g14, rfl⟩
 refine za rfl (ze rfl) (zg (zc (zh (zb (za rfl (zd rfl) (za rfl (Rd.neP rfl rfl k9) (zk (S := []) (zA [] (Ze true 1) rfl ⟨(zr (zf _)), (zr (zf _)), trivial⟩ rfl) ?_)))))))
 rintro _ rfl
 refine za rfl (zd rfl) (zk (S := []) (zA [] (con_within rnd 0 1048576) rfl ⟨(zr (zf _)), (zr (zf _)), (zr (zf _)), trivial⟩ rfl) ?_)
 rintro _ rfl
 refine zk (S := []) (zA [] (Ze _ 2) rfl ⟨(zr (zf _)), (zr (zf _)), trivial⟩ rfl) ?_
 rintro _ rfl
 refine za rfl (zd rfl) (zk (S := []) (zA [] (con_within ser 0 1073741824) rfl ⟨(zr (zf _)), (zr (zf _)), (zr (zf _)), trivial⟩ rfl) ?_)
 rintro _ rfl
 refine zk (S := []) (zA [] (Ze _ 2) rfl ⟨(zr (zf _)), (zr (zf _)), trivial⟩ rfl) ?_
 rintro _ rfl
 refine za rfl (zd rfl) (za rfl (Rd.len (e := 5) rfl k9) (za rfl (yP rfl rfl) (zk (S := []) (zA [] (Ze _ 2) rfl ⟨(zr (zf _)), (zr (zf _)), trivial⟩ rfl) ?_)))
 rintro _ rfl
 refine za rfl (zd rfl) (za rfl (Rd.len (e := 5) rfl k9) (za rfl (yP rfl rfl) (zk (S := []) (zA [] (Ze _ 2) rfl ⟨(zr (zf _)), (zr (zf _)), trivial⟩ rfl) ?_)))
 rintro _ rfl
 refine za rfl (zd rfl) (za rfl (Rd.len (e := 5) rfl k9) (zk (S := []) (zA [] (con_within ((cellsOf bid).length : Int) 0 4096) rfl ⟨(zr (zf _)), (zr (zf _)), (zr (zf _)), trivial⟩ rfl) ?_))
 rintro _ rfl
 refine zk (S := []) (zA [] (Ze _ 5) rfl ⟨(zr (zf _)), (zr (zf _)), trivial⟩ rfl) ?_
 rintro _ rfl
 refine zk (S := []) (Zl rfl rfl (blsI6 (unE true 1) (unE (decide (0 ≤ rnd ∧ rnd ≤ 1048576)) 2) (unE (decide (0 ≤ ser ∧ ser ≤ 1073741824)) 2) (unE (decide (((cellsOf key).length : Int) = 32)) 2) (unE (decide (((cellsOf nonce).length : Int) = 16)) 2) (unE (decide (0 ≤ ((cellsOf bid).length : Int) ∧ ((cellsOf bid).length : Int) ≤ 4096)) 5)) rfl) ?_
 rintro _ rfl
 refine zk (S := []) (zA [] (con_first [unE true 1, unE (decide (0 ≤ rnd ∧ rnd ≤ 1048576)) 2, unE (decide (0 ≤ ser ∧ ser ≤ 1073741824)) 2, unE (decide (((cellsOf key).length : Int) = 32)) 2, unE (decide (((cellsOf nonce).length : Int) = 16)) 2, unE (decide (0 ≤ ((cellsOf bid).length : Int) ∧ ((cellsOf bid).length : Int) ≤ 4096)) 5] s9) rfl ⟨(zr (zf _)), trivial⟩ rfl) ?_
 rintro _ rfl
 refine za rfl (ze rfl) (zg (zc (zh (zh (zO (σ' := zR [(0, pA gb), (1, yt nm), (2, iD rnd), (3, iD ser), (4, bD key), (5, bD nonce), (6, bD bid), (14, pA g14), (16, iD (Env.preE rnd ser key.length nonce.length bid.length))] [.c gb [isD (.map (s.M.map Prod.fst)), isD (.slice s.n.A (Acc.nm l).length s.n.c), isD (.map (s.M.map Prod.snd))], .r s.n.F (yb 9 1 Zb s.n.A s.n.c (Acc.nm l)), .r s.F1 (zX (s.M.map Prod.fst) yq (Acc.nm l) (acD l)), .r s.F2 (zX (s.M.map Prod.snd) yn (Acc.seats l) (seD l)), .c g14 [yt [], iD 0, iD 0, isD (.slice none 0 0), isD (.slice none 0 0)]]) (⟨⟨_, rfl, ⟨lq rfl, ⟨lq rfl, ⟨lq rfl, ⟨lq rfl, ⟨lq rfl, ⟨lq rfl, ⟨lq rfl, ⟨lq rfl, ⟨⟨_, rfl, zC (by rw [pre6])⟩, trivial⟩⟩⟩⟩⟩⟩⟩⟩⟩⟩, [0, 1, 2, 3, 4], by decide, (sX rfl)⟩) (zb (za rfl (zd rfl) (za rfl (yd rfl rfl) (zg (zc (zJ rfl (fun hb45 => ?_) (fun hb45 => ?_))))))))))))
 ·have h45 : (Env.preE rnd ser key.length nonce.length bid.length) ≠ 0 := by simpa using hb45
  refine zh (zb (za rfl (yh rfl rfl bldEn0) (za rfl (zd rfl) (zk (S := [_]) (zF 4 rfl rfl rfl k9 rfl (List.mem_singleton.2 rfl)) ?_))))
  rintro _ rfl
  refine za rfl (ze rfl) (zg (zc (zS (fn := Tryz.f76) (()) [0, 1, 2, 3] (fun _ _ h => h) (Rs.le (Rs.two rfl (yB 4 rfl rfl k9) (zo rfl)) ?_) d9 (sX rfl))))
  exact yJ ⟨by rw [(sl_pre h45).2]; exact Zz le_enz, zC (by rw [(sl_pre h45).1]), trivial⟩
 ·have h45 : (Env.preE rnd ser key.length nonce.length bid.length) = 0 := (by simpa using hb45); obtain ⟨p1, p2, p3, p4, p5⟩ := Env.pre_ok h45
  refine zu (zc (zh (zh (zb (za rfl (zd rfl) (za rfl (zd rfl) (zk (S := []) (zA [0, 2, 1, 3] (con_get l nm hf) rfl ⟨(yL 0 rfl d9 ⟨(yx 2 rfl d9), (sees_vec 1 rfl d9), (yx 3 rfl d9), trivial⟩), (zr (zf _)), trivial⟩ rfl) ?_)))))))
  rintro _ rfl
  refine za rfl (zd rfl) (za rfl (zq rfl rfl) (za rfl (zq rfl rfl) (za rfl (ze rfl) (zg (zc (zh ?_))))))
  rcases hx : Acc.find l nm with _ | x
  ·have hg := Acc.get_no hx
   refine zO (σ' := zR [(0, pA gb), (1, yt nm), (2, iD rnd), (3, iD ser), (4, bD key), (5, bD nonce), (6, bD bid), (14, pA g14), (16, iD 9)] [.c gb [isD (.map (s.M.map Prod.fst)), isD (.slice s.n.A (Acc.nm l).length s.n.c), isD (.map (s.M.map Prod.snd))], .r s.n.F (yb 9 1 Zb s.n.A s.n.c (Acc.nm l)), .r s.F1 (zX (s.M.map Prod.fst) yq (Acc.nm l) (acD l)), .r s.F2 (zX (s.M.map Prod.snd) yn (Acc.seats l) (seD l)), .c g14 [yt [], iD 0, iD 0, isD (.slice none 0 0), isD (.slice none 0 0)]]) (⟨⟨_, rfl, ⟨lq rfl, ⟨lq rfl, ⟨lq rfl, ⟨lq rfl, ⟨lq rfl, ⟨lq rfl, ⟨lq rfl, ⟨lq rfl, ⟨⟨_, rfl, zC (by rw [hg.2])⟩, trivial⟩⟩⟩⟩⟩⟩⟩⟩⟩⟩, [0, 1, 2, 3, 4], by decide, (sX rfl)⟩) (zb (za rfl (zd rfl) (za rfl (yd rfl rfl) (zg (zc (yf rfl d9 (zh (zb (za rfl (yh rfl rfl bldEn0) (za rfl (zd rfl) (zk (S := [_]) (zF 4 rfl rfl rfl k9 rfl (List.mem_singleton.2 rfl)) ?_)))))))))))
   rintro _ rfl
   refine za rfl (ze rfl) (zg (zc (zS (fn := Tryz.f76) (()) [0, 1, 2, 3] (fun _ _ h => h) (Rs.le (Rs.two rfl (yB 4 rfl rfl k9) (zo rfl)) ?_) d9 (sX rfl))))
   exact yJ ⟨by rw [(sl_none h45 hx).2]; exact Zz le_enz, zC (by rw [(sl_none h45 hx).1]), trivial⟩
  ·have hg := Acc.get_yes hx; obtain ⟨z1, z2, z3⟩ := sl_len hf h45 hx; obtain ⟨t1, t2⟩ := Acc.tag_yes hx (q := (Env.sgn nm rnd ser (Env.boxB key nm nonce bid))) o9
   refine zO (σ' := zR [(0, pA gb), (1, yt nm), (2, iD rnd), (3, iD ser), (4, bD key), (5, bD nonce), (6, bD bid), (14, pA g14), (16, iD 0)] [.c gb [isD (.map (s.M.map Prod.fst)), isD (.slice s.n.A (Acc.nm l).length s.n.c), isD (.map (s.M.map Prod.snd))], .r s.n.F (yb 9 1 Zb s.n.A s.n.c (Acc.nm l)), .r s.F1 (zX (s.M.map Prod.fst) yq (Acc.nm l) (acD l)), .r s.F2 (zX (s.M.map Prod.snd) yn (Acc.seats l) (seD l)), .c g14 [yt [], iD 0, iD 0, isD (.slice none 0 0), isD (.slice none 0 0)]]) (⟨⟨_, rfl, ⟨lq rfl, ⟨lq rfl, ⟨lq rfl, ⟨lq rfl, ⟨lq rfl, ⟨lq rfl, ⟨lq rfl, ⟨lq rfl, ⟨⟨_, rfl, zC (by rw [hg.2])⟩, trivial⟩⟩⟩⟩⟩⟩⟩⟩⟩⟩, [0, 1, 2, 3, 4], by decide, (sX rfl)⟩) (zb (za rfl (zd rfl) (za rfl (yd rfl rfl) (zg (zc (zE rfl d9 (zu (zc (zh (zb (za rfl (zd rfl) (za rfl (zd rfl) (zk (S := []) (yo (con_deriveE key nm p3 z1) rfl ⟨zf _, zf _, trivial⟩ rfl) ?_)))))))))))))
   rintro _ rfl
   refine za rfl (zd rfl) (za rfl (zq rfl rfl) (za rfl (zq rfl rfl) (za rfl (ze rfl) (za rfl (ze rfl) (zg (zc (zh (zh (zb (za rfl (zd rfl) (za rfl (yd rfl rfl) (zg (zc (zE rfl d9 (zu (zc (zh (zO (σ' := zR [(0, pA gb), (1, yt nm), (2, iD rnd), (3, iD ser), (4, bD key), (5, bD nonce), (6, bD bid), (14, pA g14), (17, bD (Env.keyB key nm))] [.c gb [isD (.map (s.M.map Prod.fst)), isD (.slice s.n.A (Acc.nm l).length s.n.c), isD (.map (s.M.map Prod.snd))], .r s.n.F (yb 9 1 Zb s.n.A s.n.c (Acc.nm l)), .r s.F1 (zX (s.M.map Prod.fst) yq (Acc.nm l) (acD l)), .r s.F2 (zX (s.M.map Prod.snd) yn (Acc.seats l) (seD l)), .c g14 [yt [], iD 0, iD 0, isD (.slice none 0 0), isD (.slice none 0 0)]]) (sB [0, 1, 2, 3, 4] rfl rfl) (zb (za rfl (zd rfl) (za rfl (zd rfl) (za rfl (zd rfl) (zk (S := []) (yo (con_sealB (Env.keyB key nm) nonce bid (by simp [Env.keyB]) p4 o9) rfl ⟨zf _, zf _, zf _, trivial⟩ rfl) ?_)))))))))))))))))))))))
   rintro _ rfl
   refine za rfl (zd rfl) (za rfl (zq rfl rfl) (za rfl (zq rfl rfl) (za rfl (ze rfl) (za rfl (ze rfl) (zg (zc (zh (zh (zb (za rfl (zd rfl) (za rfl (yd rfl rfl) (zg (zc (zE rfl d9 (zu (zc (zh (zO (σ' := zR [(0, pA gb), (1, yt nm), (2, iD rnd), (3, iD ser), (14, pA g14), (18, bD (Env.boxB key nm nonce bid))] [.c gb [isD (.map (s.M.map Prod.fst)), isD (.slice s.n.A (Acc.nm l).length s.n.c), isD (.map (s.M.map Prod.snd))], .r s.n.F (yb 9 1 Zb s.n.A s.n.c (Acc.nm l)), .r s.F1 (zX (s.M.map Prod.fst) yq (Acc.nm l) (acD l)), .r s.F2 (zX (s.M.map Prod.snd) yn (Acc.seats l) (seD l)), .c g14 [yt [], iD 0, iD 0, isD (.slice none 0 0), isD (.slice none 0 0)]]) (sB [0, 1, 2, 3, 4] rfl rfl) (zb (za rfl (zd rfl) (za rfl (zd rfl) (za rfl (zd rfl) (za rfl (zd rfl) (za rfl (yh rfl rfl bldEn4) (zk (S := []) (zQ (zs := [.string ⟨#[]⟩, .int .i64 0, .int .i64 0, .slice none 0 0, .slice none 0 0]) k9 rfl) ?_)))))))))))))))))))))))))
   rintro _ ⟨g19, rfl⟩
   refine zk (S := [_]) (zF 5 rfl rfl rfl k9 rfl (List.mem_singleton.2 rfl)) ?_
   rintro _ rfl
   refine zg (zc (zh (zO (σ' := zR [(0, pA gb), (1, yt nm), (2, iD rnd), (3, iD ser), (14, pA g14), (19, pA g19)] [.c gb [isD (.map (s.M.map Prod.fst)), isD (.slice s.n.A (Acc.nm l).length s.n.c), isD (.map (s.M.map Prod.snd))], .r s.n.F (yb 9 1 Zb s.n.A s.n.c (Acc.nm l)), .r s.F1 (zX (s.M.map Prod.fst) yq (Acc.nm l) (acD l)), .r s.F2 (zX (s.M.map Prod.snd) yn (Acc.seats l) (seD l)), .c g14 [yt [], iD 0, iD 0, isD (.slice none 0 0), isD (.slice none 0 0)], .c g19 [yt nm, iD rnd, iD ser, bD (Env.boxB key nm nonce bid), isD (.slice none 0 0)]]) (sB [0, 1, 2, 3, 4, 5] rfl rfl) (zb (za rfl (zG 5 5 rfl rfl k9 rfl zp) (zk (S := []) (yo (con_signedE ⟨nm, rnd, ser, (Env.boxB key nm nonce bid), []⟩ (by show nm.length ≤ 1000; omega) p1 p2 (by show (Env.boxB key nm nonce bid).length ≤ 10000; omega)) rfl ⟨Zz ⟨zf _, zf _, zf _, zf _, Zy, trivial⟩, trivial⟩ rfl) ?_))))))
   rintro _ rfl
   refine za rfl (zd rfl) (za rfl (zq rfl rfl) (za rfl (zq rfl rfl) (za rfl (ze rfl) (za rfl (ze rfl) (zg (zc (zh (zh (zb (za rfl (zd rfl) (za rfl (yd rfl rfl) (zg (zc (zE rfl d9 (zu (zc (zh (zh (zO (σ' := zR [(0, pA gb), (1, yt nm), (2, iD rnd), (3, iD ser), (14, pA g14), (19, pA g19), (20, bD (Env.sgn nm rnd ser (Env.boxB key nm nonce bid)))] [.c gb [isD (.map (s.M.map Prod.fst)), isD (.slice s.n.A (Acc.nm l).length s.n.c), isD (.map (s.M.map Prod.snd))], .r s.n.F (yb 9 1 Zb s.n.A s.n.c (Acc.nm l)), .r s.F1 (zX (s.M.map Prod.fst) yq (Acc.nm l) (acD l)), .r s.F2 (zX (s.M.map Prod.snd) yn (Acc.seats l) (seD l)), .c g14 [yt [], iD 0, iD 0, isD (.slice none 0 0), isD (.slice none 0 0)], .c g19 [yt nm, iD rnd, iD ser, bD (Env.boxB key nm nonce bid), isD (.slice none 0 0)]]) (sB [0, 1, 2, 3, 4, 5] rfl rfl) (zb (za rfl (zd rfl) (za rfl (zd rfl) (za rfl (zd rfl) (zk (zB [0, 1, 2, 3] (con_tag gb s l nm (Env.sgn nm rnd ser (Env.boxB key nm nonce bid)) hf o9) rfl ⟨zf _, zf _, zf _, trivial⟩ d9 (sX rfl) (fun _ h => h) rfl) ?_))))))))))))))))))))))))
   rintro _ ⟨⟨⟩, rfl⟩
   refine za rfl (zd rfl) (za rfl (zq rfl rfl) (za rfl (zq rfl rfl) (za rfl (zi (n := 4) rfl k9) (zk (S := [_]) (yr 1 rfl rfl rfl k9 rfl (List.mem_singleton.2 rfl)) ?_))))
   rintro _ rfl
   refine za rfl (ze rfl) (zg (zc (zh (zO (σ' := zR [(0, pA gb), (14, pA g14), (19, pA g19), (16, iD 0)] [.c gb [isD (.map (s.M.map Prod.fst)), isD (.slice s.n.A (Acc.nm l).length s.n.c), isD (.map (s.M.map Prod.snd))], .r s.n.F (yb 9 1 Zb s.n.A s.n.c (Acc.nm l)), .r s.F1 (zX (s.M.map Prod.fst) yq (Acc.nm l) (acD l)), .r s.F2 (zX (s.M.map Prod.snd) yn (Acc.seats l) (seD l)), .c g14 [yt [], iD 0, iD 0, isD (.slice none 0 0), isD (.slice none 0 0)], .c g19 [yt nm, iD rnd, iD ser, bD (Env.boxB key nm nonce bid), bD (ZF l nm (Env.sgn nm rnd ser (Env.boxB key nm nonce bid)))]]) (⟨⟨_, rfl, ⟨lq rfl, ⟨lq rfl, ⟨lq rfl, ⟨⟨_, rfl, zC (by rw [t2])⟩, trivial⟩⟩⟩⟩⟩, [2, 3, 4, 5, 0, 1], by decide, (sX rfl)⟩) (zb (za rfl (zd rfl) (za rfl (yd rfl rfl) (zg (zc (zE rfl d9 (zu (zc (zh (zb (za rfl (zG 5 5 rfl rfl k9 rfl zp) (zk (S := [_]) (zF 4 rfl rfl rfl k9 rfl (List.mem_singleton.2 rfl)) ?_))))))))))))))))
   rintro _ rfl
   refine za rfl (ze rfl) (zg (zc (zS (fn := Tryz.f76) (()) [0, 1, 2, 3] (fun _ _ h => h) (Rs.le (Rs.two rfl (yB 4 rfl rfl k9) (zo rfl)) ?_) d9 (sX rfl))))
   exact yJ ⟨by rw [(sl_ok h45 hx).2]; exact zf _, zC (by rw [(sl_ok h45 hx).1]), trivial⟩
end Sx
end Go.Proofs.YtgokpcnabgacnaaGreatDoor
namespace Go.Proofs.YtgokpcnabgacnaaGreatDoor
open Go.RowKit
namespace Sx
def lastN (l : List Acc.T) : List UInt8 := (l.getLast?.map Acc.T.name).getD []
theorem lastN_get {l : List Acc.T} {y : Acc.T} (h : l[l.length - 1]? = some y) : lastN l = y.name := by unfold lastN; rw [List.getLast?_eq_getElem?, h]; rfl
def les (p q : List UInt8) : Bool := Op.bytesLess p q || decide (p = q)
theorem les_not {p q : List UInt8} : les p q = false ↔ Acc.lt q p = true := by
 unfold les
 constructor
 ·intro h
  simp only [Bool.or_eq_false_iff, decide_eq_false_iff_not] at h
  rcases Acc.lt_tri p q with h1 | h1 | h1
  ·exact absurd h1 (by rw [show Acc.lt p q = false from h.1]; decide)
  ·exact absurd h1 h.2
  ·exact h1
 ·intro h
  simp only [Bool.or_eq_false_iff, decide_eq_false_iff_not]
  exact ⟨Acc.lt_asym h, fun e => Acc.lt_ne h e.symm⟩
def decBad (l : List Acc.T) (a : Acc.T) : Prop := ¬ Acc.ok a ∨ les a.name (lastN l) = true ∨ (a.role, a.num) ∈ Acc.seats l
instance (l : List Acc.T) (a : Acc.T) : Decidable (decBad l a) := by unfold decBad; infer_instance
theorem lt_all {l : List Acc.T} {a : Acc.T} (hf : Acc.Fine l) (h : les a.name (lastN l) = false) : ∀ x ∈ l, Acc.lt x.name a.name = true := by
 intro x hx
 have hl := les_not.1 h
 obtain ⟨i, hi, e⟩ := List.mem_iff_getElem.1 hx
 have hy : l[l.length - 1]? = some l[l.length - 1] := List.getElem?_eq_getElem o9
 rw [lastN_get hy] at hl
 by_cases h1 : i = l.length - 1
 ·subst h1
  rw [← e]
  exact hl
 ·have := List.pairwise_iff_getElem.1 hf.srt i (l.length - 1) hi o9 o9
  rw [← e]
  exact Acc.lt_trans this hl
theorem dec_good {l : List Acc.T} {a : Acc.T} (hf : Acc.Fine l) (h : ¬ decBad l a) (hl : l.length < 256) : Acc.ok a ∧ (¬ ∃ x ∈ l, Acc.clash a x) ∧ Acc.ins l a = l ++ [a] ∧ Acc.add l a = (l ++ [a], 0) := by
 have h1 : Acc.ok a := Classical.byContradiction fun h' => h (.inl h')
 have h2 : les a.name (lastN l) = false := by
  rcases hb : les a.name (lastN l) with _ | _
  ·rfl
  ·exact absurd (.inr (.inl hb)) h
 have h3 : (a.role, a.num) ∉ Acc.seats l := fun h' => h (.inr (.inr h'))
 have hall := lt_all hf h2
 have hc : ¬ ∃ x ∈ l, Acc.clash a x := by
  rintro ⟨x, hx, e | ⟨e1, e2, e3⟩⟩
  ·exact Acc.lt_ne (hall x hx) e
  ·exact h3 (Acc.mem_seats.2 ⟨x, hx, by rw [e1]; exact e3, by rw [e1, e2]⟩)
 have hi : Acc.ins l a = l ++ [a] := by
  obtain ⟨w1, w2⟩ := while_all (p := fun x : Acc.T => Acc.lt x.name a.name) hall
  unfold Acc.ins
  rw [w1, w2]
 exact ⟨h1, hc, hi, by rw [y8 h1 hc o9, hi]⟩
def rdAcc (r : RT) : Acc.T × RT :=
 (⟨(stP 32 r).1, (stU (stP 32 r).2).1, (stP 32 (stU (stP 32 r).2).2).1, (stU (stP 32 (stU (stP 32 r).2).2).2).1, (stU (stU (stP 32 (stU (stP 32 r).2).2).2).2).1⟩, (stU (stU (stP 32 (stU (stP 32 r).2).2).2).2).2)
def decLoop : Nat → List Acc.T → RT → Except Int (List Acc.T × RT)
 | 0, l, r => .ok (l, r)
 | j + 1, l, r => if (rdAcc r).2.e ≠ 0 then .error (rdAcc r).2.e else if decBad l (rdAcc r).1 then .error 6 else decLoop j (l ++ [(rdAcc r).1]) (rdAcc r).2
def decFin : Except Int (List Acc.T × RT) → Except Int (List Acc.T)
 | .error e => .error e
 | .ok (l, r) => if endE r ≠ 0 then .error (endE r) else .ok l
def decB (p : List UInt8) : Except Int (List Acc.T) := decFin (decLoop (stC 256 ⟨p, 0⟩).1.toNat [] (stC 256 ⟨p, 0⟩).2)
theorem stG_len {α β : Type} {z : β} {f : List UInt8 → Except Int (α × Nat)} {g : α → β} (r : RT) : (stG z f g r).2.p.length ≤ r.p.length := by
 unfold stG
 split
 ·exact Nat.le_refl _
 ·split
  ·exact Nat.zero_le _
  ·simp
theorem rdAcc_len (r : RT) : (rdAcc r).2.p.length ≤ r.p.length := Nat.le_trans (stG_len _) (Nat.le_trans (stG_len _) (Nat.le_trans (stG_len _) (Nat.le_trans (stG_len _) (stG_len _))))
structure DI (p : List UInt8) (res : Except Int (List Acc.T)) (n i : Nat) (l : List Acc.T) (r : RT) : Prop where
 fine : Acc.Fine l
 len : l.length = i
 le : i ≤ n
 max : n ≤ 256
 e0 : i < n → r.e = 0
 fin : decFin (decLoop (n - i) l r) = res
 pl : r.p.length ≤ p.length
theorem DI.start {p : List UInt8} {res : Except Int (List Acc.T)} {n : Nat} (hn : (stC 256 ⟨p, 0⟩).1 = n) (h1 : n ≤ 256) (h2 : 0 < n → (stC 256 ⟨p, 0⟩).2.e = 0) (h : decB p = res) : DI p res n 0 [] (stC 256 ⟨p, 0⟩).2 :=
 ⟨Acc.Fine.nil, rfl, Nat.zero_le _, h1, h2, by unfold decB at h; rw [hn] at h; simpa using h, stG_len _⟩
theorem DI.step {p : List UInt8} {res : Except Int (List Acc.T)} {n i : Nat} {l : List Acc.T} {r : RT} (h : DI p res n i l r) (hi : i < n) :
  decFin (if (rdAcc r).2.e ≠ 0 then .error (rdAcc r).2.e else if decBad l (rdAcc r).1 then .error 6 else decLoop (n - (i + 1)) (l ++ [(rdAcc r).1]) (rdAcc r).2) = res := by
 have := h.fin
 rw [show n - i = (n - (i + 1)) + 1 by omega] at this
 exact this
theorem DI.err {p : List UInt8} {res : Except Int (List Acc.T)} {n i : Nat} {l : List Acc.T} {r : RT} (h : DI p res n i l r) (hi : i < n) (he : (rdAcc r).2.e ≠ 0) : res = .error (rdAcc r).2.e := by
 have := h.step hi
 rw [if_pos he] at this
 exact this.symm
theorem DI.bad {p : List UInt8} {res : Except Int (List Acc.T)} {n i : Nat} {l : List Acc.T} {r : RT} (h : DI p res n i l r) (hi : i < n) (he : (rdAcc r).2.e = 0) (hb : decBad l (rdAcc r).1) : res = .error 6 := by
 have := h.step hi
 rw [if_neg (by simp [he]), if_pos hb] at this
 exact this.symm
theorem DI.next {p : List UInt8} {res : Except Int (List Acc.T)} {n i : Nat} {l : List Acc.T} {r : RT} (h : DI p res n i l r) (hi : i < n) (he : (rdAcc r).2.e = 0) (hb : ¬ decBad l (rdAcc r).1) : DI p res n (i + 1) (l ++ [(rdAcc r).1]) (rdAcc r).2 := by
 have h1 := h.step hi
 rw [if_neg (by simp [he]), if_neg hb] at h1
 have hl : l.length < 256 := by have := h.len; have := h.max; omega
 obtain ⟨g1, g2, g3, g4⟩ := dec_good h.fine hb hl
 refine ⟨?_, by rw [List.length_append, h.len]; rfl, by omega, h.max, fun _ => he, h1, Nat.le_trans (rdAcc_len r) h.pl⟩
 rw [← g3]
 exact h.fine.ins g1 g2 hl
theorem DI.last {p : List UInt8} {res : Except Int (List Acc.T)} {n i : Nat} {l : List Acc.T} {r : RT} (h : DI p res n i l r) (hi : ¬ i < n) : res = if endE r ≠ 0 then .error (endE r) else .ok l := by
 have := h.fin
 have hle := h.le
 rw [show n - i = 0 by omega] at this
 exact this.symm
end Sx
end Go.Proofs.YtgokpcnabgacnaaGreatDoor
