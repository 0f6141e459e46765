/- ROUNDS: the law's key, schedule, few. ROUNDS: the law's sealed. ROUNDS: the examples of the chapter, in plain terms. ROUNDS: the law's known. -/
import Derived.Test.YtgokpcnabgacnaaGreatDoorGZBH
set_option maxHeartbeats 8000000
set_option maxRecDepth 100000
namespace Go.Proofs.YtgokpcnabgacnaaGreatDoor
open Go.RowKit
namespace Sx
abbrev k1L : List UInt8 := List.replicate 32 1
abbrev k2L : List UInt8 := List.replicate 32 2
def schA : Rnd.Win := ⟨10, 20, 25, Env.comB k1L⟩
def schB : Rnd.Win := ⟨20, 30, 30, Env.comB k2L⟩
def schL : List Rnd.Win := [schA, schB]
theorem bldW4 {a b c : Int} {m : List UInt8} : Bld Tryz.prog 26 [0, 1, 2, 3] [iD a, iD b, iD c, bD m] [iD a, iD b, iD c, bD m] := fun L w vs hv => by
 match vs, hv with
 | [x, y, z, u], ⟨hx, hy, hz, h4, _⟩ =>
  cases hx; cases hy; cases hz
  have h4' := h4
  obtain ⟨A, cp, rfl, -⟩ := h4
  exact ⟨[.int .i64 a, .int .i64 b, .int .i64 c, .slice A _ cp], ⟨rfl, rfl, rfl, h4', trivial⟩, fun w' => by kernel_rfl⟩
theorem blsW2 {x y : Rnd.Win} : Bls Tryz.prog 22 2 [0, 1] [yX [iD x.st, iD x.en, iD x.rv, bD x.cm], yX [iD y.st, iD y.en, iD y.rv, bD y.cm]] ([x, y].flatMap Zs) := ⟨26, fun L w vs hv => by
 match vs, hv with
 | [u, v], ⟨hu, hv', _⟩ =>
 obtain ⟨cs, hue, hc⟩ := hu
 obtain ⟨ds, hve, hd⟩ := hv'
 subst hue hve
 match cs, ds, hc, hd with
 | [a, b, c, d], [a', b', c', d'], hc, hd =>
  obtain ⟨rfl, rfl, rfl, h, -⟩ := hc
  obtain ⟨rfl, rfl, rfl, k, -⟩ := hd
  have h' := h
  have k' := k
  obtain ⟨A, cp, rfl, -⟩ := h
  obtain ⟨A2, cp2, rfl, -⟩ := k
  exact ⟨[.int .i64 _, .int .i64 _, .int .i64 _, .slice A _ cp, .int .i64 _, .int .i64 _, .int .i64 _, .slice A2 _ cp2], ⟨rfl, rfl, rfl, h', rfl, rfl, rfl, k', trivial⟩, fun w' => by kernel_rfl⟩⟩
structure Ac where
 what : Int
 who : Int
 rnd : Int
 ser : Int
 key : Int
 now : Int
 bid : List UInt8
 e : Env.T
def encAc (x : Ac) : List D := [iD x.what, iD x.who, iD x.rnd, iD x.ser, iD x.key, iD x.now, bD x.bid, yt x.e.acc, iD x.e.rnd, iD x.e.ser, bD x.e.box, bD x.e.tag]
instance : Row encAc 12 := ⟨fun _ => rfl, fun _ => by unfold encAc; infer_instance, by decide⟩
instance (x : Ac) : Ones (encAc x) := by unfold encAc; infer_instance
def Ac.short (x : Ac) : Prop := x.bid.length ≤ 100 ∧ x.e.acc.length ≤ 100 ∧ x.e.box.length ≤ 300 ∧ x.e.tag.length ≤ 100
def Ac.few (l : List Ac) (m : Int) : Prop := (∀ x ∈ l, x.short) ∧ (l.length : Int) ≤ m
instance (l : List Ac) (m : Int) : Decidable (Ac.few l m) := by unfold Ac.few Ac.short; infer_instance
theorem con_schedule  : Con Tryz.prog 19 [] (lsD Zs schL) := by
 refine con_of Tryz.func19 k9 rfl k9 fun base w0 => (zh (zb (za rfl (ze rfl) (zg (zc (zh (zb (zk (S := []) (yo (Z9 1 32 d9) rfl ⟨zf _, zf _, trivial⟩ rfl) ?_))))))))
 rintro _ rfl
 refine zk (S := []) (yo (con_commitL k1L s9) rfl ⟨zf _, trivial⟩ rfl) ?_
 rintro _ rfl
 refine za rfl (yh rfl rfl bldW4) (zk (S := []) (yo (Z9 2 32 d9) rfl ⟨zf _, zf _, trivial⟩ rfl) ?_)
 rintro _ rfl
 refine zk (S := []) (yo (con_commitL k2L s9) rfl ⟨zf _, trivial⟩ rfl) ?_
 rintro _ rfl
 refine za rfl (yh rfl rfl bldW4) (zk (S := []) (Zl rfl rfl (blsW2 (x := schA) (y := schB)) rfl) ?_)
 rintro _ rfl
 refine za rfl (ze rfl) (zg (zc (zH (fn := Tryz.f19) (fun _ _ h => h) (Rs.le (Rs.one rfl (zo rfl)) ?_))))
 exact zf _
end Sx
end Go.Proofs.YtgokpcnabgacnaaGreatDoor
namespace Go.Proofs.YtgokpcnabgacnaaGreatDoor
open Go.RowKit
namespace Sx
def Rnd.b8 (z : Int) : UInt8 := UInt8.ofNat (z % 256).toNat
theorem b8_w (z : Int) : IntKind.u8.wrap z = ((Rnd.b8 z).toNat : Int) := by
 have h0 : 0 ≤ z % 256 := Int.emod_nonneg _ d9
 have h1 : z % 256 < 256 := Int.emod_lt_of_pos _ d9
 have h2 : IntKind.u8.wrap z = z % 256 := by simp [IntKind.wrap, IntKind.signed, IntKind.bits]
 rw [h2]
 unfold Rnd.b8
 have h3 : (UInt8.ofNat (z % 256).toNat).toNat = (z % 256).toNat % 256 := rfl
 rw [h3]
 omega
def Rnd.sld (l : List Acc.T) (nm : List UInt8) (rnd ser : Int) (key bid : List UInt8) : Env.T := Env.slT l nm rnd ser key (List.replicate 16 (Rnd.b8 ser)) bid
theorem con_sealed (gb : Nat) (s : Bst) (l : List Acc.T) (nm : List UInt8) (rnd ser : Int) (key bid : List UInt8) (hf : Acc.Fine l) : ConR Tryz.prog 23 [.c gb [isD (.map (s.M.map Prod.fst)), isD (.slice s.n.A (Acc.nm l).length s.n.c), isD (.map (s.M.map Prod.snd))], .r s.n.F (yb 9 1 Zb s.n.A s.n.c (Acc.nm l)), .r s.F1 (zX (s.M.map Prod.fst) yq (Acc.nm l) (acD l)), .r s.F2 (zX (s.M.map Prod.snd) yn (Acc.seats l) (seD l))] [pA gb, yt nm, iD rnd, iD ser, bD key, bD bid] (fun _ : Unit => [.c gb [isD (.map (s.M.map Prod.fst)), isD (.slice s.n.A (Acc.nm l).length s.n.c), isD (.map (s.M.map Prod.snd))], .r s.n.F (yb 9 1 Zb s.n.A s.n.c (Acc.nm l)), .r s.F1 (zX (s.M.map Prod.fst) yq (Acc.nm l) (acD l)), .r s.F2 (zX (s.M.map Prod.snd) yn (Acc.seats l) (seD l))]) (fun _ : Unit => yX (Yj (Rnd.sld l nm rnd ser key bid))) := by
 refine zY Tryz.func23 k9 rfl k9 fun base w0 => (zh (zb (zk (S := []) (zQ (zs := [.string ⟨#[]⟩, .int .i64 0, .int .i64 0, .slice none 0 0, .slice none 0 0]) k9 rfl) ?_)))
 rintro _ ⟨g12, rfl⟩
 refine zg (zc (zh (zb (za rfl (zd rfl) (za rfl (zd rfl) (za rfl (zd rfl) (za rfl (zd rfl) (za rfl (zd rfl) (za rfl (zd rfl) (za rfl (Rd.cvW (r := ((Rnd.b8 ser).toNat : Int)) .i64 rfl k9 k9 (b8_w ser)) (zk (S := []) (yo (Z9 (Rnd.b8 ser) 16 d9) rfl ⟨zf _, zf _, trivial⟩ rfl) ?_)))))))))))
 rintro _ rfl
 refine za rfl (zd rfl) (zk (zB [0, 1, 2, 3] (con_sealE gb s l nm rnd ser key (List.replicate 16 (Rnd.b8 ser)) bid hf) rfl ⟨zf _, zf _, zf _, zf _, zf _, zf _, zf _, trivial⟩ d9 (sX rfl) (fun _ h => h) rfl) ?_)
 rintro _ ⟨⟨⟩, rfl⟩
 refine za rfl (zd rfl) (za rfl (zq rfl rfl) (za rfl (zq rfl rfl) (zk (S := []) (zQ (zs := [.string ⟨#[]⟩, .int .i64 0, .int .i64 0, .slice none 0 0, .slice none 0 0]) k9 rfl) ?_)))
 rintro _ ⟨g13, rfl⟩
 refine zk (S := [_]) (zF 5 rfl rfl rfl k9 rfl (List.mem_singleton.2 rfl)) ?_
 rintro _ rfl
 refine za rfl (ze rfl) (zg (zc (zh ?_)))
 obtain ⟨x, hx⟩ : ∃ x, x = Rnd.sld l nm rnd ser key bid := ⟨_, rfl⟩
 refine zO (σ' := zR [(12, pA g12), (13, pA g13)] [.c gb [isD (.map (s.M.map Prod.fst)), isD (.slice s.n.A (Acc.nm l).length s.n.c), isD (.map (s.M.map Prod.snd))], .r s.n.F (yb 9 1 Zb s.n.A s.n.c (Acc.nm l)), .r s.F1 (zX (s.M.map Prod.fst) yq (Acc.nm l) (acD l)), .r s.F2 (zX (s.M.map Prod.snd) yn (Acc.seats l) (seD l)), .c g12 [yt [], iD 0, iD 0, isD (.slice none 0 0), isD (.slice none 0 0)], .c g13 [yt x.acc, iD x.rnd, iD x.ser, bD x.box, bD x.tag]]) (⟨⟨_, rfl, (sT rfl)⟩, [1, 2, 3, 4, 0, 5], by decide, ⟨la rfl, ⟨lR rfl, ⟨lR rfl, ⟨lR rfl, ⟨la rfl, ⟨⟨_, rfl, (by rw [hx]; exact yC _)⟩, trivial⟩⟩⟩⟩⟩⟩⟩) (zb (za rfl (zG 5 5 rfl rfl k9 rfl zp) (zk (S := [_]) (zF 4 rfl rfl rfl k9 rfl (List.mem_singleton.2 rfl)) ?_)))
 rintro _ rfl
 refine zg (zc (zS (fn := Tryz.f23) (()) [0, 1, 2, 3] (fun _ _ h => h) (Rs.le (Rs.one rfl (yB 4 rfl rfl k9)) ?_) d9 (sX rfl)))
 rw [← hx]; exact zf _
theorem con_kinds (es : List Led.Ent) (ks : List Int) (hl : es.length ≤ 100000) (hb : ∀ e ∈ es, e.bytes.length ≤ 1000000) : ConN Tryz.prog 47 [ledD es, lsD encI ks] (yY (decide ((es.map Led.Ent.kind) = ks))) := by
 refine yE Tryz.func47 k9 rfl k9 fun base w0 => (zh (zb (za rfl (ze rfl) (zg (zc (zh (zh (zb (za rfl (zd rfl) (zk (S := []) (zA [] (con_len es) rfl ⟨(zr (zf _)), trivial⟩ rfl) ?_))))))))))
 rintro _ rfl
 refine za rfl (zd rfl) (za rfl (yV (e := 3) rfl k9) (za rfl (yd rfl rfl) (zg (zc (zJ rfl (fun hb12 => ?_) (fun hb12 => ?_))))))
 ·have h12 : ¬ es.length = ks.length := by (have h := hb12; simp at h; omega)
  refine zh (zb (za rfl (ze rfl) (zg (zc (zH (fn := Tryz.f47) (fun _ _ h => h) (Rs.le (Rs.one rfl (zo rfl)) ?_))))))
  exact zP (by symm; apply decide_eq_false; intro h; exact h12 (by rw [← h, List.length_map]))
 ·have h12 : es.length = ks.length := by (have h := hb12; simp at h; omega)
  refine zu (zc (zh (zh (zb (za rfl (ze rfl) (zg (zc (zW (Zq (ι := {i : Nat // i ≤ ks.length ∧ ∀ j, j < i → (es.map Led.Ent.kind)[j]? = ks[j]?}) (fun i => zR [(0, ledD es), (1, lsD encI ks), (5, iD (i.1 : Int))] []) (fun i => ks.length - i.1) (⟨0, Nat.zero_le _, fun j hj => absurd hj (Nat.not_lt_zero _)⟩) ?_ ?_)))))))))
  ·exact (sB [] rfl rfl)
  ·rintro ⟨i, hi, hq⟩ K0 hK0
   dsimp only at hi hq ⊢
   refine zh (zh (zb (za rfl (zd rfl) (za rfl (zd rfl) (za rfl (yV (e := 3) rfl k9) (za rfl (yG rfl rfl) (zg (zc (zJ rfl (fun hb16 => ?_) (fun hb16 => ?_))))))))))
   ·have h16 : (i : Int) < (ks.length : Int) := of_decide_eq_true hb16
    refine zu (zc (zh (zW (zh ?_))))
    obtain ⟨e, he⟩ : ∃ e, es[i]? = some e := ⟨_, List.getElem?_eq_getElem o9⟩
    obtain ⟨k, hk⟩ : ∃ k, ks[i]? = some k := ⟨_, List.getElem?_eq_getElem o9⟩
    refine zb (za rfl (zd rfl) (za rfl (zd rfl) (zk (S := []) (zA [] (con_at es i e he (hb e (List.mem_of_getElem? he))) rfl ⟨(zr (zf _)), (zr (zf _)), trivial⟩ rfl) ?_)))
    rintro _ rfl
    refine za rfl (zd rfl) (za rfl (zq rfl rfl) (za rfl (zq rfl rfl) (zk (S := []) (zQ (zs := [.int .i64 0, .slice none 0 0]) k9 rfl) ?_)))
    rintro _ ⟨g6, rfl⟩
    refine zk (S := [_]) (zF 0 rfl rfl rfl k9 rfl (List.mem_singleton.2 rfl)) ?_
    rintro _ rfl
    refine za rfl (ze rfl) (zg (zc (zh (yj [] (.r 0 (.r 1 (.r 2 (.r 3 (.r 4 (.r 5 (.r 6 (.r 7 (.r 8 (.r 9 (.r 10 .fin))))))))))) k9 k9 (fun d _ _ _ _ h => by cases d <;> exact h) (zj rfl rfl (zd rfl) (zj rfl rfl (yd rfl rfl) (zj rfl rfl (zd rfl) (zN rfl rfl rfl s9 rfl rfl (zi (n := 0) rfl k9) (zN rfl rfl rfl s9 rfl rfl (zl 0 rfl rfl rfl k9 zp) (zN rfl rfl rfl s9 rfl rfl (zd rfl) (zN rfl rfl rfl s9 rfl rfl (zd rfl) (zN rfl rfl rfl s9 rfl rfl (yK (e := 3) 1 rfl rfl k9 k9 o9 (by simpa using hk)) (zN rfl rfl rfl s9 rfl rfl (ym rfl rfl k9 s9) (zN rfl rfl rfl s9 rfl rfl (yd rfl rfl) (zj rfl rfl (zy rfl s9 rfl) (zV (zc (zJ rfl (fun hb35 => ?_) (fun hb35 => ?_)))))))))))))))))))
    ·have h35 : ¬ e.kind = k := by simpa using hb35
     refine zh (zb (za rfl (ze rfl) (zg (zc (zH (fn := Tryz.f47) (fun _ _ h => h) (Rs.le (Rs.one rfl (zo rfl)) ?_))))))
     exact zP (by symm; apply decide_eq_false; intro h; rw [← h, List.getElem?_map, he] at hk; exact h35 (Option.some.inj hk))
    ·have h35 : e.kind = k := by simpa using hb35
     exact zu (ye (zc (zb (za rfl (zd rfl) (za rfl (yM rfl rfl ⟨by omega, by omega⟩) (za rfl (ze rfl) (zg (fun a w hh => hK0 (⟨i + 1, by omega, fun j hj => by (rcases Nat.lt_succ_iff_lt_or_eq.1 hj with h | h; exact hq j h; (rw [h, List.getElem?_map, he, hk, Option.map_some, h35]))⟩) (by dsimp only; omega) a w (hh.sub (⟨⟨_, rfl, ⟨lq rfl, ⟨lq rfl, ⟨⟨_, rfl, zC s9⟩, trivial⟩⟩⟩⟩, [], by decide, trivial⟩))))))))))
   ·have h16 : ¬ (i : Int) < (ks.length : Int) := of_decide_eq_false hb16
    refine yW ?_
    repeat (first | refine Zi ?_ | refine Zj d9 ?_)
    refine Zk (zc (zh (zb (za rfl (ze rfl) (zg (zc (zH (fn := Tryz.f47) (fun _ _ h => h) (Rs.le (Rs.one rfl (zo rfl)) ?_))))))))
    exact zP (by symm; apply decide_eq_true; exact ext_upto (by rw [List.length_map]; exact h12) (by rw [List.length_map]; omega) hq)
end Sx
end Go.Proofs.YtgokpcnabgacnaaGreatDoor
namespace Go.Proofs.YtgokpcnabgacnaaGreatDoor
open Go.RowKit
namespace Sx
theorem hFind : Acc.find hL nmA = some hA := rfl
structure KE (x : Env.T) (n : Int) (b : List UInt8) : Prop where
 ok : Env.ok x
 aut : Env.autE hL x = 0
 acc : x.acc = nmA
 rnd : x.rnd = 0
 ser : x.ser = n
 op1 : Env.opE hL x k1L = 0
 op2 : Env.opB hL x k1L = b
theorem ke {n : Int} {b : List UInt8} (hn : 0 ≤ n ∧ n ≤ 1073741824) (hb : b.length ≤ 4096) : KE (Rnd.sld hL nmA 0 n k1L b) n b := by
 have h := Env.sld (key := k1L) (nonce := List.replicate 16 (Rnd.b8 n)) (bid := b) hFine hFind (show (0 : Int) ≤ 0 ∧ (0 : Int) ≤ 1048576 by decide) hn s9 s9 hb
 have ho := Env.op_sld h s9 s9 hb
 have he : Rnd.sld hL nmA 0 n k1L b = Env.mk hL nmA 0 n k1L (List.replicate 16 (Rnd.b8 n)) b := h.eq
 rw [he]
 exact ⟨h.ok, h.aut, rfl, rfl, rfl, ho.1, ho.2⟩
theorem comB_len {k : List UInt8} (h : k.length = 32) : (Env.comB k).length = 32 := by
 unfold Env.comB Env.comH
 rw [if_pos h]
 simp
theorem sch_ok : Rnd.ok schL := by
 have h1 : (Env.comB k1L).length = 32 := comB_len s9
 have h2 : (Env.comB k2L).length = 32 := comB_len s9
 exact ⟨⟨by decide, by decide⟩, ⟨by decide, by decide, by decide, by decide, h1⟩, ⟨by decide, by decide, by decide, by decide, h2⟩, trivial⟩
theorem com_ne : Env.comB k2L ≠ Env.comB k1L := by decide +kernel
abbrev kS0 : Rnd.S := Rnd.start hL schL
def kS1 (x : Env.T) : Rnd.S := ⟨hL, schL, [x], [[], []], 10, [⟨1, Rnd.subP x 10⟩]⟩
def kS2 (x y : Env.T) : Rnd.S := ⟨hL, schL, [y], [[], []], 19, [⟨1, Rnd.subP x 10⟩, ⟨1, Rnd.subP y 19⟩]⟩
def kS3 (x y : Env.T) : Rnd.S := ⟨hL, schL, [y], [k1L, []], 25, [⟨1, Rnd.subP x 10⟩, ⟨1, Rnd.subP y 19⟩, ⟨2, Rnd.revP 0 k1L 25⟩]⟩
theorem kGood0 : Rnd.Good kS0 := Rnd.good_start hFine sch_ok
section
variable {x y : Env.T} {b c : List UInt8} (hx : KE x 1 b) (hy : KE y 2 c)
include hx
theorem kSub1 : Rnd.subE kS0 x 9 = 8 := by
 unfold Rnd.subE
 rw [if_neg (not_not_intro ⟨hx.ok, by decide⟩), if_neg (not_not_intro ⟨by decide, by rw [hx.rnd]; decide⟩), hx.rnd, if_pos d9]
theorem kSub2 : Rnd.subE kS0 x 10 = 0 := by
 unfold Rnd.subE
 rw [if_neg (not_not_intro ⟨hx.ok, by decide⟩), if_neg (not_not_intro ⟨by decide, by rw [hx.rnd]; decide⟩), hx.rnd, if_neg d9, if_neg (show ¬ Env.autE kS0.bk x ≠ 0 from not_not_intro hx.aut), if_neg (fun ⟨z, hz, _⟩ => by cases hz), if_neg d9]
theorem kSt1 : Rnd.subS kS0 x 9 = kS0 := if_neg (by rw [kSub1 hx]; decide)
theorem kSt2 : Rnd.subS kS0 x 10 = kS1 x := by rw [Rnd.subS, if_pos (kSub2 hx)]; rfl
theorem kSub3 : Rnd.subE (kS1 x) x 11 = 11 := by
 unfold Rnd.subE
 rw [if_neg (not_not_intro ⟨hx.ok, by decide⟩), if_neg (not_not_intro ⟨by show (10 : Int) ≤ 11; decide, by rw [hx.rnd]; exact (by decide : (0 : Int) ≤ 0 ∧ (0 : Int) < 2)⟩), hx.rnd, if_neg (by show ¬ Rnd.st kS0 _ 11 ≠ 2; decide), if_neg (show ¬ Env.autE (kS1 x).bk x ≠ 0 from not_not_intro hx.aut), if_pos ⟨x, List.mem_singleton.2 rfl, ⟨rfl, rfl⟩, Int.le_refl _⟩]
theorem kSt3 : Rnd.subS (kS1 x) x 11 = kS1 x := if_neg (by rw [kSub3 hx]; decide)
include hy
theorem kSame : Rnd.same x y := ⟨hx.acc.trans hy.acc.symm, hx.rnd.trans hy.rnd.symm⟩
theorem kSub4 : Rnd.subE (kS1 x) y 19 = 0 := by
 unfold Rnd.subE
 rw [if_neg (not_not_intro ⟨hy.ok, by decide⟩), if_neg (not_not_intro ⟨by show (10 : Int) ≤ 19; decide, by rw [hy.rnd]; exact (by decide : (0 : Int) ≤ 0 ∧ (0 : Int) < 2)⟩), hy.rnd, if_neg (by show ¬ Rnd.st kS0 _ 19 ≠ 2; decide), if_neg (show ¬ Env.autE (kS1 x).bk y ≠ 0 from not_not_intro hy.aut), if_neg, if_neg (by show ¬ 4096 ≤ 1; decide)]
 rintro ⟨z, hz, _, h⟩
 rw [List.mem_singleton.1 hz, hx.ser, hy.ser] at h
 omega
theorem kPut : Rnd.put [x] y = [y] := by
 unfold Rnd.put
 rw [List.filter_cons_of_neg (by simpa using kSame hx hy)]
 rfl
theorem kSt4 : Rnd.subS (kS1 x) y 19 = kS2 x y := by
 rw [Rnd.subS, if_pos (kSub4 hx hy)]
 show (⟨hL, schL, Rnd.put [x] y, [[], []], 19, _⟩ : Rnd.S) = _
 rw [kPut hx hy]
 rfl
omit hx in
theorem kSub5 : Rnd.subE (kS2 x y) y 20 = 8 := by
 unfold Rnd.subE
 rw [if_neg (not_not_intro ⟨hy.ok, by decide⟩), if_neg (not_not_intro ⟨by show (19 : Int) ≤ 20; decide, by rw [hy.rnd]; exact (by decide : (0 : Int) ≤ 0 ∧ (0 : Int) < 2)⟩), hy.rnd, if_pos (by show Rnd.st kS0 _ 20 ≠ 2; decide)]
omit hx in
theorem kSt5 : Rnd.subS (kS2 x y) y 20 = kS2 x y := if_neg (by rw [kSub5 hy]; decide)
omit hx hy in
theorem kAt1 : Rnd.atS (kS2 x y) 0 19 = 2 ∧ Rnd.atE (kS2 x y) 0 19 = 0 := ⟨by show Rnd.atS kS0 0 19 = 2; decide, by show Rnd.atE kS0 0 19 = 0; decide⟩
omit hx hy in
theorem kAt2 : Rnd.atS (kS2 x y) 0 20 = 3 ∧ Rnd.atE (kS2 x y) 0 20 = 0 := ⟨by show Rnd.atS kS0 0 20 = 3; decide, by show Rnd.atE kS0 0 20 = 0; decide⟩
omit hx hy in
theorem kBids1 : Zg (kS2 x y) 0 = 8 ∧ Rnd.bidsV (kS2 x y) 0 = [] := by
 have h : Zg (kS2 x y) 0 = 8 := by show Zg kS0 0 = 8; decide
 exact ⟨h, Rnd.bids_no (by rw [h]; decide)⟩
omit hx hy in
theorem kRev1 : Rnd.revE (kS2 x y) 0 k1L 24 = 8 := by
 unfold Rnd.revE
 rw [if_neg (not_not_intro ⟨by simp, by decide⟩), if_neg (not_not_intro ⟨by show (19 : Int) ≤ 24; decide, (by decide : (0 : Int) ≤ 0 ∧ (0 : Int) < 2)⟩), if_pos (fun h => absurd h.1 (by show ¬ (25 : Int) ≤ 24; decide))]
omit hx hy in
theorem kRev2 : Rnd.revE (kS2 x y) 0 k2L 25 = 10 := by
 unfold Rnd.revE
 rw [if_neg (not_not_intro ⟨by simp, by decide⟩), if_neg (not_not_intro ⟨by show (19 : Int) ≤ 25; decide, (by decide : (0 : Int) ≤ 0 ∧ (0 : Int) < 2)⟩), if_neg (not_not_intro ⟨by show (25 : Int) ≤ 25; decide, rfl⟩), if_pos (show Env.comB k2L ≠ (Rnd.winAt (kS2 x y).ws (Int.toNat 0)).cm from com_ne)]
omit hx hy in
theorem kRev3 : Rnd.revE (kS2 x y) 0 k1L 25 = 0 := by
 unfold Rnd.revE
 rw [if_neg (not_not_intro ⟨by simp, by decide⟩), if_neg (not_not_intro ⟨by show (19 : Int) ≤ 25; decide, (by decide : (0 : Int) ≤ 0 ∧ (0 : Int) < 2)⟩), if_neg (not_not_intro ⟨by show (25 : Int) ≤ 25; decide, rfl⟩), if_neg (show ¬ Env.comB k1L ≠ (Rnd.winAt (kS2 x y).ws (Int.toNat 0)).cm from not_not_intro rfl), if_neg (by show ¬ 4096 ≤ 2; decide)]
omit hx hy in
theorem kRv1 : Rnd.revS (kS2 x y) 0 k1L 24 = kS2 x y := if_neg (by rw [kRev1]; decide)
omit hx hy in
theorem kRv2 : Rnd.revS (kS2 x y) 0 k2L 25 = kS2 x y := if_neg (by rw [kRev2]; decide)
omit hx hy in
theorem kRv3 : Rnd.revS (kS2 x y) 0 k1L 25 = kS3 x y := by rw [Rnd.revS, if_pos kRev3]; rfl
omit hx hy in
theorem kRev4 : Rnd.revE (kS3 x y) 0 k1L 26 = 8 := by
 unfold Rnd.revE
 rw [if_neg (not_not_intro ⟨by simp, by decide⟩), if_neg (not_not_intro ⟨by show (25 : Int) ≤ 26; decide, (by decide : (0 : Int) ≤ 0 ∧ (0 : Int) < 2)⟩), if_pos (fun h => absurd h.2 (by show ¬ k1L = []; decide))]
omit hx hy in
theorem kRv4 : Rnd.revS (kS3 x y) 0 k1L 26 = kS3 x y := if_neg (by rw [kRev4]; decide)
omit hx in
theorem kOf2 : Z1 (kS3 x y) 0 = [y] := by
 have h0 : Rnd.has (kS3 x y) 0 := (by decide : (0 : Int) ≤ 0 ∧ (0 : Int) < 2)
 rw [Z1, if_pos h0]
 have g1 : Rnd.getE [y] 0 nmA = some y := by
  unfold Rnd.getE
  rw [List.find?_cons_of_pos (by simp [hy.rnd, hy.acc])]
 have g2 : Rnd.getE [y] 0 nmB = none := by
  unfold Rnd.getE
  rw [List.find?_cons_of_neg (by rw [hy.rnd, hy.acc]; decide)]
  rfl
 have g3 : Rnd.getE [y] 0 nmC = none := by
  unfold Rnd.getE
  rw [List.find?_cons_of_neg (by rw [hy.rnd, hy.acc]; decide)]
  rfl
 show [nmA, nmB, nmC].filterMap (Rnd.getE [y] 0) = [y]
 rw [List.filterMap_cons_some g1, List.filterMap_cons_none g2, List.filterMap_cons_none g3]
 rfl
omit hx in
theorem kBids2 : Zg (kS3 x y) 0 = 0 ∧ Rnd.bidsV (kS3 x y) 0 = [⟨nmA, 2, c, false⟩] := by
 have h : Zg (kS3 x y) 0 = 0 := by
  unfold Zg
  rw [if_neg (show ¬ ¬ Rnd.has (kS3 x y) 0 from not_not_intro (by decide : (0 : Int) ≤ 0 ∧ (0 : Int) < 2)), if_neg (by show ¬ k1L = []; decide)]
 refine ⟨h, ?_⟩
 rw [Rnd.bidsV, if_pos h, yu, kOf2 hy]
 show [Rnd.opn hL k1L y] = _
 unfold Rnd.opn
 rw [hy.acc, hy.ser, hy.op1, hy.op2]
 rfl
omit hx hy in
theorem kKinds : (kS3 x y).en.map Led.Ent.kind = [1, 1, 2] := rfl
end
end Sx
end Go.Proofs.YtgokpcnabgacnaaGreatDoor
namespace Go.Proofs.YtgokpcnabgacnaaGreatDoor
open Go.RowKit
namespace Sx
theorem con_sealedP {gb : Nat} {l : List Acc.T} {F : List Nat} (nm : List UInt8) (rnd ser : Int) (key bid : List UInt8) (hf : Acc.Fine l) : ConR Tryz.prog 23 [.r F (bkP gb l)] [pA gb, yt nm, iD rnd, iD ser, bD key, bD bid] (fun F' : List Nat => [.r F' (bkP gb l)]) (fun _ => yX (Yj (Rnd.sld l nm rnd ser key bid))) :=
 ConR.bkK fun s => con_sealed gb s l nm rnd ser key bid hf
theorem con_submitT {gr : Nat} {F : List Nat} {s s' : Rnd.S} {e : Env.T} {now E : Int} (hg : Rnd.Good s) (hs : Rnd.subS s e now = s') (hE : Rnd.subE s e now = E) : ConR Tryz.prog 22 [.r F (Zu gr s)] [pA gr, yX [yt e.acc, iD e.rnd, iD e.ser, bD e.box, bD e.tag], iD now] (fun F' : List Nat => [.r F' (Zu gr s')]) (fun _ => iD E) := by
 subst hs hE
 exact con_submit gr F s e now hg
theorem con_revealT {gr : Nat} {F : List Nat} {s s' : Rnd.S} {r : Int} {key : List UInt8} {now E : Int} (hg : Rnd.Good s) (hs : Rnd.revS s r key now = s') (hE : Rnd.revE s r key now = E) (hk : key.length ≤ 1000000) : ConR Tryz.prog 39 [.r F (Zu gr s)] [pA gr, iD r, bD key, iD now] (fun F' : List Nat => [.r F' (Zu gr s')]) (fun _ => iD E) := by
 subst hs hE
 exact con_reveal gr F s r key now hg hk
theorem con_stateT {gr : Nat} {F : List Nat} {s : Rnd.S} {r now S E : Int} (h : Rnd.atS s r now = S ∧ Rnd.atE s r now = E) : ConR Tryz.prog 16 [.r F (Zu gr s)] [pA gr, iD r, iD now] (fun F' : List Nat => [.r F' (Zu gr s)]) (fun _ => tupD [iD S, iD E]) := by
 obtain ⟨rfl, rfl⟩ := h
 exact con_stateR gr F s r now
theorem con_bidsT {gr : Nat} {F : List Nat} {s : Rnd.S} {r E : Int} {l : List Rnd.Opn} (hg : Rnd.Good s) (h : Zg s r = E ∧ Rnd.bidsV s r = l) : ConR Tryz.prog 43 [.r F (Zu gr s)] [pA gr, iD r] (fun F' : List Nat => [.r F' (Zu gr s)]) (fun _ => tupD [lsD encO l, iD E]) := by
 obtain ⟨rfl, rfl⟩ := h
 exact con_bids gr F s r hg
theorem bldOp3 {a b : List UInt8} {n : Int} : Bld Tryz.prog 110 [0, 1, 2] [yt a, iD n, bD b] [yt a, iD n, bD b, isD (.bool false)] := fun L w vs hv => by
 obtain ⟨u, v, z, rfl, rfl, rfl, h⟩ := all3 hv
 have h' := h
 obtain ⟨A, c, rfl, -⟩ := h
 exact ⟨[.string _, .int .i64 n, .slice A _ c, .bool false], ⟨rfl, rfl, h', rfl, trivial⟩, fun w' => by kernel_rfl⟩
theorem kGood1 {x : Env.T} {b : List UInt8} (hx : KE x 1 b) : Rnd.Good (kS1 x) := kSt2 hx ▸ kGood0.sub x 10
theorem kGood2 {x y : Env.T} {b c : List UInt8} (hx : KE x 1 b) (hy : KE y 2 c) : Rnd.Good (kS2 x y) := kSt4 hx hy ▸ (kGood1 hx).sub y 19
theorem kGood3 {x y : Env.T} {b c : List UInt8} (hx : KE x 1 b) (hy : KE y 2 c) : Rnd.Good (kS3 x y) := kRv3 (x := x) (y := y) ▸ (kGood2 hx hy).rev 0 k1L 25
theorem blsJ3 {a b c : Int} : Bls Tryz.prog 112 3 [0, 1, 2] [iD a, iD b, iD c] ([a, b, c].flatMap encI) := ⟨3, fun L w vs hv => by
 obtain ⟨u, v, z, rfl, rfl, rfl, rfl⟩ := all3 hv
 exact ⟨[.int .i64 _, .int .i64 _, .int .i64 _], ⟨rfl, rfl, rfl, trivial⟩, fun w' => by kernel_rfl⟩⟩
theorem ZS  : ConN Tryz.prog 9 [] (yY true) := by
 refine yE Tryz.func9 k9 rfl k9 fun base w0 => (zh (zb (za rfl (ze rfl) (zg (zc (zh (zb (zk (S := []) (zB [] (con_given) rfl trivial d9 trivial (fun _ h => h) rfl) ?_))))))))
 rintro _ ⟨⟨g1, s1⟩, rfl⟩
 refine za rfl (zd rfl) (za rfl (zq rfl rfl) (za rfl (zq rfl rfl) (zk (S := []) (zQ (zs := [.slice none 0 0]) k9 rfl) ?_)))
 rintro _ ⟨g2, rfl⟩
 refine za rfl (ze rfl) (zk (S := [_]) (zF 4 rfl rfl rfl k9 rfl (List.mem_singleton.2 rfl)) ?_)
 rintro _ rfl
 refine zg (zc (zh (zK (bk_in (gb := g1) (l := hL) s1) [0, 1, 2, 3] d9 (sX rfl) ?_)))
 rintro _ ⟨Fb, rfl⟩
 refine zb (za rfl (zd rfl) (zk (S := []) (yo (con_schedule) rfl trivial rfl) ?_))
 rintro _ rfl
 refine zk (zB [1] (con_new g1 hL Fb schL hFine sch_ok) rfl ⟨zf _, zf _, trivial⟩ d9 ⟨lR rfl, trivial⟩ (fun _ h => h) rfl) ?_
 rintro _ ⟨⟨F24, gr, H24⟩, rfl⟩
 refine za rfl (zd rfl) (za rfl (zq rfl rfl) (za rfl (zq rfl rfl) (za rfl (ze rfl) (za rfl (ze rfl) (zg (zc (zh (zh (zb (za rfl (zd rfl) (za rfl (Z0 rfl rfl k9) (za rfl (zd rfl) (zm rfl rfl (rfl) rfl rfl (zd rfl) (zm rfl rfl (rfl) rfl rfl (yd rfl rfl) (za rfl (zy rfl (rfl) rfl) (zg (zc (zE rfl d9 (zu (zc (zh (zb (zk (S := []) (yo (Z9 1 32 d9) rfl ⟨zf _, zf _, trivial⟩ rfl) ?_)))))))))))))))))))))))
 rintro _ rfl
 refine zk (S := []) (yo (Z9 2 32 d9) rfl ⟨zf _, zf _, trivial⟩ rfl) ?_
 rintro _ rfl
 refine za rfl (ze rfl) (za rfl (ze rfl) (zg (zc (zh (zO (σ' := zR [(1, pA g1), (3, pA gr), (5, bD k1L), (6, bD k2L)] [.r F24 (bkP g1 hL), .r H24 (Zu gr kS0)]) (sB [1, 2] rfl rfl) (zb (za rfl (zd rfl) (za rfl (zd rfl) (zk (S := []) (Ef.litV (e := 5) (b := [104, 105]) rfl rfl rfl d9 (fun w => by kernel_rfl) rfl) ?_)))))))))
 rintro _ ⟨g37, rfl⟩
 refine zk (Ef.mark (e := 5) 2 rfl rfl k9 k9 d9 (fun _ h => h) rfl) ?_
 rintro _ rfl
 refine zk (zB [0] (con_sealedP nmA 0 1 k1L [104, 105] hFine) rfl ⟨zf _, zf _, zf _, zf _, zf _, zf _, trivial⟩ d9 ⟨lR rfl, trivial⟩ (fun _ h => h) rfl) ?_
 rintro _ ⟨F39, rfl⟩
 refine za rfl (zd rfl) (za rfl (zd rfl) (zk (S := []) (Ef.litV (e := 5) (b := [104, 111]) rfl rfl rfl d9 (fun w => by kernel_rfl) rfl) ?_))
 rintro _ ⟨g42, rfl⟩
 refine zk (Ef.mark (e := 5) 2 rfl rfl k9 k9 d9 (fun _ h => h) rfl) ?_
 rintro _ rfl
 refine zk (zB [1] (con_sealedP nmA 0 2 k1L [104, 111] hFine) rfl ⟨zf _, zf _, zf _, zf _, zf _, zf _, trivial⟩ d9 ⟨lR rfl, trivial⟩ (fun _ h => h) rfl) ?_
 rintro _ ⟨F44, rfl⟩
 refine zk (S := []) (zQ (zs := [.string ⟨#[]⟩, .int .i64 0, .int .i64 0, .slice none 0 0, .slice none 0 0]) k9 rfl) ?_
 rintro _ ⟨g7, rfl⟩
 refine zk (S := []) (zQ (zs := [.string ⟨#[]⟩, .int .i64 0, .int .i64 0, .slice none 0 0, .slice none 0 0]) k9 rfl) ?_
 rintro _ ⟨g8, rfl⟩
 refine zk (S := [_]) (zF 2 rfl rfl rfl k9 rfl (List.mem_singleton.2 rfl)) ?_
 rintro _ rfl
 refine zk (S := [_]) (zF 3 rfl rfl rfl k9 rfl (List.mem_singleton.2 rfl)) ?_
 rintro _ rfl
 refine zg (zc (zh (zh ?_)))
 obtain ⟨x, hxe⟩ : ∃ x, x = Rnd.sld hL nmA 0 1 k1L [104, 105] := ⟨_, rfl⟩
 obtain ⟨y, hye⟩ : ∃ y, y = Rnd.sld hL nmA 0 2 k1L [104, 111] := ⟨_, rfl⟩
 have hx : KE x 1 [104, 105] := by rw [hxe]; exact ke d9 d9
 have hy : KE y 2 [104, 111] := by rw [hye]; exact ke d9 d9
 refine zO (σ' := zR [(3, pA gr), (5, bD k1L), (6, bD k2L), (7, pA g7), (8, pA g8)] [.r H24 (Zu gr kS0), .c g7 [yt x.acc, iD x.rnd, iD x.ser, bD x.box, bD x.tag], .c g8 [yt y.acc, iD y.rnd, iD y.ser, bD y.box, bD y.tag]]) (⟨⟨_, rfl, (sT rfl)⟩, [0, 2, 3], by decide, ⟨lR rfl, ⟨⟨_, rfl, (by rw [hxe]; exact yC _)⟩, ⟨⟨_, rfl, (by rw [hye]; exact yC _)⟩, trivial⟩⟩⟩⟩) (zb (za rfl (zd rfl) (za rfl (zG 1 5 rfl rfl k9 rfl zp) (zk (zB [0] (con_submitT kGood0 (kSt1 hx) (kSub1 hx)) rfl ⟨zf _, zf _, zf _, trivial⟩ d9 ⟨lR rfl, trivial⟩ (fun _ h => h) rfl) ?_))))
 rintro _ ⟨F47, rfl⟩
 refine za rfl (yd rfl rfl) (za rfl (zd rfl) (zm rfl rfl d9 rfl rfl (zd rfl) (zm rfl rfl d9 rfl rfl (zG 0 5 rfl rfl k9 rfl zp) (yA rfl rfl d9 rfl (zB [2] (con_submitT kGood0 (kSt2 hx) (kSub2 hx)) rfl ⟨zf _, zf _, zf _, trivial⟩ d9 ⟨lR rfl, trivial⟩ (fun _ h => h) rfl) ?_))))
 rintro _ ⟨F52, rfl⟩
 refine zm rfl rfl d9 rfl rfl (yd rfl rfl) (za rfl (zy rfl d9 rfl) (za rfl (zd rfl) (zm rfl rfl d9 rfl rfl (zd rfl) (zm rfl rfl d9 rfl rfl (zG 0 5 rfl rfl k9 rfl zp) (yA rfl rfl d9 rfl (zB [2] (con_submitT (kGood1 hx) (kSt3 hx) (kSub3 hx)) rfl ⟨zf _, zf _, zf _, trivial⟩ d9 ⟨lR rfl, trivial⟩ (fun _ h => h) rfl) ?_)))))
 rintro _ ⟨F58, rfl⟩
 refine zm rfl rfl d9 rfl rfl (yd rfl rfl) (za rfl (zy rfl d9 rfl) (za rfl (zd rfl) (zm rfl rfl d9 rfl rfl (zd rfl) (zm rfl rfl d9 rfl rfl (zG 1 5 rfl rfl k9 rfl zp) (yA rfl rfl d9 rfl (zB [2] (con_submitT (kGood1 hx) (kSt4 hx hy) (kSub4 hx hy)) rfl ⟨zf _, zf _, zf _, trivial⟩ d9 ⟨lR rfl, trivial⟩ (fun _ h => h) rfl) ?_)))))
 rintro _ ⟨F64, rfl⟩
 refine zm rfl rfl d9 rfl rfl (yd rfl rfl) (za rfl (zy rfl d9 rfl) (za rfl (zd rfl) (zm rfl rfl d9 rfl rfl (zd rfl) (zm rfl rfl d9 rfl rfl (zG 1 5 rfl rfl k9 rfl zp) (yA rfl rfl d9 rfl (zB [2] (con_submitT (kGood2 hx hy) (kSt5 hy) (kSub5 hy)) rfl ⟨zf _, zf _, zf _, trivial⟩ d9 ⟨lR rfl, trivial⟩ (fun _ h => h) rfl) ?_)))))
 rintro _ ⟨F70, rfl⟩
 refine zm rfl rfl d9 rfl rfl (yd rfl rfl) (za rfl (zy rfl d9 rfl) (zg (zc (zE rfl d9 (zu (zc (zh (zO (σ' := zR [(3, pA gr), (5, bD k1L), (6, bD k2L)] [.r F70 (Zu gr (kS2 x y))]) (sB [2] rfl rfl) (zb (za rfl (zd rfl) (zk (zB [0] (con_stateT kAt1) rfl ⟨zf _, zf _, zf _, trivial⟩ d9 ⟨lR rfl, trivial⟩ (fun _ h => h) rfl) ?_)))))))))))
 rintro _ ⟨F75, rfl⟩
 refine za rfl (zd rfl) (za rfl (zq rfl rfl) (za rfl (zq rfl rfl) (za rfl (ze rfl) (za rfl (ze rfl) (zg (zc (zh (zb (za rfl (zd rfl) (zk (zB [0] (con_stateT kAt2) rfl ⟨zf _, zf _, zf _, trivial⟩ d9 ⟨lR rfl, trivial⟩ (fun _ h => h) rfl) ?_))))))))))
 rintro _ ⟨F80, rfl⟩
 refine za rfl (zd rfl) (za rfl (zq rfl rfl) (za rfl (zq rfl rfl) (za rfl (ze rfl) (za rfl (ze rfl) (zg (zc (zh (zb (za rfl (zd rfl) (zk (zB [0] (con_bidsT (kGood2 hx hy) kBids1) rfl ⟨zf _, zf _, trivial⟩ d9 ⟨lR rfl, trivial⟩ (fun _ h => h) rfl) ?_))))))))))
 rintro _ ⟨F85, rfl⟩
 refine za rfl (zd rfl) (za rfl (zq rfl rfl) (za rfl (zq rfl rfl) (za rfl (ze rfl) (za rfl (ze rfl) (zg (zc (zh (zh (zO (σ' := zR [(3, pA gr), (5, bD k1L), (6, bD k2L), (9, iD 2), (10, iD 0), (11, iD 3), (12, iD 0), (14, iD 8)] [.r F85 (Zu gr (kS2 x y))]) (sB [0] rfl rfl) (zb (za rfl (zd rfl) (za rfl (yd rfl rfl) (za rfl (zd rfl) (zm rfl rfl d9 rfl rfl (zd rfl) (zm rfl rfl d9 rfl rfl (yd rfl rfl) (za rfl (zy rfl d9 rfl) (za rfl (zd rfl) (zm rfl rfl d9 rfl rfl (zd rfl) (zm rfl rfl d9 rfl rfl (yd rfl rfl) (za rfl (zy rfl d9 rfl) (za rfl (zd rfl) (zm rfl rfl d9 rfl rfl (zd rfl) (zm rfl rfl d9 rfl rfl (yd rfl rfl) (za rfl (zy rfl d9 rfl) (za rfl (zd rfl) (zm rfl rfl d9 rfl rfl (zd rfl) (zm rfl rfl d9 rfl rfl (yd rfl rfl) (za rfl (zy rfl d9 rfl) (zg (zc (zE rfl d9 (zu (zc (zh (zh (zO (σ' := zR [(3, pA gr), (5, bD k1L), (6, bD k2L)] [.r F85 (Zu gr (kS2 x y))]) (sB [0] rfl rfl) (zb (za rfl (zd rfl) (za rfl (zd rfl) ?_)))))))))))))))))))))))))))))))))))))))
 refine zk (zB [0] (con_revealT (kGood2 hx hy) kRv1 kRev1 s9) rfl ⟨zf _, zf _, zf _, zf _, trivial⟩ d9 ⟨lR rfl, trivial⟩ (fun _ h => h) rfl) ?_
 rintro _ ⟨F108, rfl⟩
 refine za rfl (yd rfl rfl) (za rfl (zd rfl) (zm rfl rfl d9 rfl rfl (zd rfl) (zm rfl rfl d9 rfl rfl (zd rfl) (yA rfl rfl d9 rfl (zB [0] (con_revealT (kGood2 hx hy) kRv2 kRev2 s9) rfl ⟨zf _, zf _, zf _, zf _, trivial⟩ d9 ⟨lR rfl, trivial⟩ (fun _ h => h) rfl) ?_))))
 rintro _ ⟨F113, rfl⟩
 refine zm rfl rfl d9 rfl rfl (yd rfl rfl) (za rfl (zy rfl d9 rfl) (za rfl (zd rfl) (zm rfl rfl d9 rfl rfl (zd rfl) (zm rfl rfl d9 rfl rfl (zd rfl) (yA rfl rfl d9 rfl (zB [0] (con_revealT (kGood2 hx hy) kRv3 kRev3 s9) rfl ⟨zf _, zf _, zf _, zf _, trivial⟩ d9 ⟨lR rfl, trivial⟩ (fun _ h => h) rfl) ?_)))))
 rintro _ ⟨F119, rfl⟩
 refine zm rfl rfl d9 rfl rfl (yd rfl rfl) (za rfl (zy rfl d9 rfl) (za rfl (zd rfl) (zm rfl rfl d9 rfl rfl (zd rfl) (zm rfl rfl d9 rfl rfl (zd rfl) (yA rfl rfl d9 rfl (zB [0] (con_revealT (kGood3 hx hy) kRv4 kRev4 s9) rfl ⟨zf _, zf _, zf _, zf _, trivial⟩ d9 ⟨lR rfl, trivial⟩ (fun _ h => h) rfl) ?_)))))
 rintro _ ⟨F125, rfl⟩
 refine zm rfl rfl d9 rfl rfl (yd rfl rfl) (za rfl (zy rfl d9 rfl) (zg (zc (zE rfl d9 (zu (zc (zh (zO (σ' := zR [(3, pA gr)] [.r F125 (Zu gr (kS3 x y))]) (sB [0] rfl rfl) (zb (za rfl (zd rfl) (zk (zB [0] (con_bidsT (kGood3 hx hy) (kBids2 hy)) rfl ⟨zf _, zf _, trivial⟩ d9 ⟨lR rfl, trivial⟩ (fun _ h => h) rfl) ?_)))))))))))
 rintro _ ⟨F130, rfl⟩
 refine za rfl (zd rfl) (za rfl (zq rfl rfl) (za rfl (zq rfl rfl) (za rfl (ze rfl) (za rfl (ze rfl) (zg (zc (zh (zO (σ' := zR [(3, pA gr), (15, lsD encO [(⟨nmA, 2, [104, 111], false⟩ : Rnd.Opn)]), (16, iD 0)] [.r F130 (Zu gr (kS3 x y))]) (sB [0] rfl rfl) (zb (za rfl (zd rfl) (za rfl (yP rfl rfl) (za rfl (zd rfl) (zm rfl rfl d9 rfl rfl (zd rfl) (yA (S := []) rfl rfl d9 rfl (Ef.litV (e := 5) (b := [104, 111]) rfl rfl rfl d9 (fun w => by kernel_rfl) rfl) ?_))))))))))))))
 rintro _ ⟨g137, rfl⟩
 refine yA rfl rfl d9 rfl (Ef.mark (e := 5) 1 rfl rfl k9 k9 d9 (fun _ h => h) rfl) ?_
 rintro _ rfl
 refine zm rfl rfl d9 rfl rfl (yh rfl rfl bldOp3) (yA (S := []) rfl rfl d9 rfl (Zl rfl rfl (blsO1 (⟨nmA, 2, [104, 111], false⟩ : Rnd.Opn)) rfl) ?_)
 rintro _ rfl
 refine yA (S := []) rfl rfl d9 rfl (zA [] (con_Same44 [(⟨nmA, 2, [104, 111], false⟩ : Rnd.Opn)] [(⟨nmA, 2, [104, 111], false⟩ : Rnd.Opn)] d9) rfl ⟨(zr (zf _)), (zr (zf _)), trivial⟩ rfl) ?_
 rintro _ rfl
 refine za rfl (zz rfl d9 rfl) (za rfl (zd rfl) (zm rfl rfl d9 rfl rfl (zd rfl) (yA rfl rfl d9 rfl (zB [0] (con_clock gr F130 (kS3 x y)) rfl ⟨zf _, trivial⟩ d9 ⟨lR rfl, trivial⟩ (fun _ h => h) rfl) ?_)))
 rintro _ ⟨F145, rfl⟩
 refine zm rfl rfl d9 rfl rfl (yP rfl rfl) (za rfl (zz rfl d9 rfl) (za rfl (zd rfl) (zm rfl rfl (rfl) rfl rfl (zd rfl) (yA rfl rfl (rfl) rfl (zB [0] (con_ledgerR gr F145 (kS3 x y) (kGood3 hx hy)) rfl ⟨zf _, trivial⟩ d9 ⟨lR rfl, trivial⟩ (fun _ h => h) rfl) ?_))))
 rintro _ ⟨⟨F150, gL, H150⟩, rfl⟩
 refine SWl.opensP (ld_out (gl := gL) (es := (kS3 x y).en)) [1] d9 ⟨lR rfl, trivial⟩ ?_
 rintro _ ⟨u, rfl⟩
 refine yA (S := []) rfl rfl (rfl) rfl (Zl rfl rfl blsJ3 rfl) ?_
 rintro _ rfl
 refine yA (S := []) rfl rfl (rfl) rfl (zA [1, 2, 3] (con_kinds (kS3 x y).en [1, 1, 2] (by show 3 ≤ 100000; decide) (fun e he => by have := ((kGood3 hx hy).fit e he).2.2; omega)) rfl ⟨(yL 1 rfl d9 ⟨(sees_vec 2 rfl d9), (sees_map 3 rfl d9), trivial⟩), (zr (zf _)), trivial⟩ rfl) ?_
 rintro _ rfl
 refine za rfl (zz rfl (rfl) rfl) (za rfl (ze rfl) (zg (zc (zH (fn := Tryz.f9) (fun _ _ h => h) (Rs.le (Rs.one rfl (zo rfl)) ?_)))))
 exact zP (by rw [kKinds]; rfl)
end Sx
end Go.Proofs.YtgokpcnabgacnaaGreatDoor
