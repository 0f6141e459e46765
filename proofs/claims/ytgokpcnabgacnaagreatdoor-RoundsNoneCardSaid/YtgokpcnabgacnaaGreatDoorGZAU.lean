/- THE WALK of the reference's Open. Sealing and opening as contracts. ACCOUNTS: the law's key, over. ACCOUNTS: what the law's known needs. ENVELOPES: th -/
import Derived.Test.YtgokpcnabgacnaaGreatDoorGZAT
import Derived.Test.YtgokpcnabgacnaaGreatDoorGZAM
import Derived.Test.YtgokpcnabgacnaaGreatDoorGZAL
import Derived.Test.YtgokpcnabgacnaaGreatDoorGZAQ
import Derived.Test.YtgokpcnabgacnaaGreatDoorGZAS
import Derived.Test.YtgokpcnabgacnaaGreatDoorGZAR
set_option maxHeartbeats 8000000
set_option maxRecDepth 100000
namespace Go.Proofs.YtgokpcnabgacnaaGreatDoor
open Go.RowKit
end Go.Proofs.YtgokpcnabgacnaaGreatDoor
namespace Go.Proofs.YtgokpcnabgacnaaGreatDoor
open Go.RowKit
namespace Sx
theorem bD_new {L : List Nat} {w w' : World} {A : Option Addr} {n c : Nat} {b : List UInt8} (hn : n = b.length) (hc : n ≤ c) (hr : RV w' A (cellsOf b)) (hL : ∀ x ∈ L, x < w.heap.size) (ha : ∀ p, A = some p → w.heap.size ≤ p.block) : (bD b).R L w' (.slice A n c) := by
 subst hn
 refine ⟨A, c, by rw [zv], by rw [zv]; exact hc, hr, fun _ p hp hm => ?_⟩
 have h1 := ha p hp
 have h2 := hL _ hm
 omega
theorem own_new {L : List Nat} {w w' : World} {e : TypeId} {A : Option Addr} {n c : Nat} {b : List UInt8} {G : Option Nat} (hn : n = b.length) (hO : OwnS w' e A c (cellsOf b) G) (hN : New w G) (hL : ∀ x ∈ L, x < w.heap.size) : (bD b).R L w' (.slice A n c) := by
 refine bD_new hn (by rw [hn]; simpa using hO.le) hO.reads hL fun p hp => ?_
 rcases hO with ⟨h, _⟩ | ⟨g, r, h1, h2, _⟩
 ·rw [h] at hp; cases hp
 ·rw [h1] at hp
  injection hp with hp
  subst hp
  exact hN g h2
theorem sz_str (b : List UInt8) : (⟨b.toArray⟩ : ByteArray).size = b.length := by show b.toArray.size = _; simp
theorem con_derive (key label : List UInt8) (hk : key.length = 32) (h1 : 1 ≤ label.length) (h2 : label.length ≤ 64) : Con Tryz.prog 167 [bD key, yt label] (Yq [bD (Bl.hash key label), iD 0]) := by
 refine ⟨enters_of Tryz.func167 k9 rfl, fun L w vs hL hG ha => ?_⟩
 obtain ⟨u, v, rfl, hu, rfl⟩ := all2 ha
 obtain ⟨A, c, rfl, hc, hr⟩ := b_out hu
 rw [hk] at hc ⊢
 refine (derive_any w A c key ⟨label.toArray⟩ label hk rfl (by rw [sz_str]; omega) (by rw [sz_str]; omega) hc hr hG).mono ?_
 rintro r w' ⟨g, rfl, hB, hg, ho⟩
 exact ⟨_, rfl, ⟨_, rfl, bD_new s9 (Nat.le_refl _) hB.rv hL (fun p hp => by injection hp with hp; subst hp; exact hg), rfl, trivial⟩, ho⟩
theorem con_sealB (key nonce b : List UInt8) (hk : key.length = 32) (hn : nonce.length = 16) (hb : b.length ≤ 65504) : Con Tryz.prog 133 [bD key, bD nonce, bD b] (Yq [bD (Sl.sealB key nonce b), iD 0]) := by
 refine ⟨enters_of Tryz.func133 k9 rfl, fun L w vs hL hG ha => ?_⟩
 obtain ⟨u, v, x, rfl, hu, hv, hx⟩ := all3 ha
 obtain ⟨A, c, rfl, hc, hr⟩ := b_out hu
 obtain ⟨B, d, rfl, hd, hs⟩ := b_out hv
 obtain ⟨C, f, rfl, hf, ht⟩ := b_out hx
 have hl := Sl.sealB_length key nonce b hn
 rw [hk] at hc ⊢
 rw [hn] at hd ⊢
 refine (sealB_any w A B C c d f key nonce b hk hn o9 hc hd hf hr hs ht hG).mono ?_
 rintro r w' ⟨A', c', G, rfl, hO, hN, ho⟩
 exact ⟨_, rfl, ⟨_, rfl, own_new hl.symm hO hN hL, rfl, trivial⟩, ho⟩
theorem con_openB (key b : List UInt8) (hk : key.length = 32) : Con Tryz.prog 157 [bD key, bD b] (Yq [bD (Sl.openB key b).1, iD ((Sl.openB key b).2 : Int)]) := by
 refine ⟨enters_of Tryz.func157 k9 rfl, fun L w vs hL hG ha => ?_⟩
 obtain ⟨u, v, rfl, hu, hv⟩ := all2 ha
 obtain ⟨A, c, rfl, hc, hr⟩ := b_out hu
 obtain ⟨B, d, rfl, hd, hs⟩ := b_out hv
 rw [hk] at hc ⊢
 refine (open_any w A B c b.length d key b rfl hk hc hd hr hs hG).mono ?_
 rintro r w' ⟨A', c', rfl, h1, h2, h3, ho⟩
 exact ⟨_, rfl, ⟨_, rfl, bD_new rfl h1 h2 hL h3, rfl, trivial⟩, ho⟩
end Sx
end Go.Proofs.YtgokpcnabgacnaaGreatDoor
namespace Go.Proofs.YtgokpcnabgacnaaGreatDoor
open Go.RowKit
namespace Sx
end Sx
end Go.Proofs.YtgokpcnabgacnaaGreatDoor
namespace Go.Proofs.YtgokpcnabgacnaaGreatDoor
open Go.RowKit
namespace Sx
theorem le_rb0 : LeAll [isD (.slice none 0 0)] [lsD encA []] := ⟨le_nil_ls, trivial⟩
theorem con_add_to {gb : Nat} {s : Bst} {l l' : List Acc.T} {a : Acc.T} {e : Int} {A : Option Addr} {c : Nat} {F : List Nat} {R : Res} (hR : Z7 R (.slice A a.key.length c) (cellsOf a.key)) (hf : Acc.Fine l) (h : Acc.add l a = (l', e)) :
  ConR Tryz.prog 49 [bookC gb s l, bookN s l, bookA s l, bookS s l, .r F R] [pA gb, yX [yt a.name, iD a.role, isD (.slice A a.key.length c), iD a.dep, iD a.num]]
   (fun t : Bst => [bookC gb t l', bookN t l', bookA t l', bookS t l', .r F R]) (fun _ => iD e) := by
 have hc := con_add gb s l a A c F R hR hf
 rw [h] at hc
 exact hc
end Sx
end Go.Proofs.YtgokpcnabgacnaaGreatDoor
namespace Go.Proofs.YtgokpcnabgacnaaGreatDoor
open Go.RowKit
namespace Sx
def firstE (l : List Int) : Int := (l.find? fun x => decide (x ≠ 0)).getD 0
theorem firstE_zero {l : List Int} : firstE (0 :: l) = firstE l := by simp [firstE]
theorem firstE_cons {x : Int} {l : List Int} (h : x ≠ 0) : firstE (x :: l) = x := by simp [firstE, h]
theorem firstE_at {l : List Int} {i : Nat} {x : Int} (h : ∀ y ∈ l.take i, y = 0) (hx : l[i]? = some x) (h0 : x ≠ 0) : firstE l = x := by
 have hd : l = l.take i ++ x :: l.drop (i + 1) := by
  rw [← (List.getElem?_eq_some_iff.1 hx).2, ← List.drop_eq_getElem_cons (List.getElem?_eq_some_iff.1 hx).1, List.take_append_drop]
 unfold firstE
 rw [hd, List.find?_append, List.find?_eq_none.2 (fun y hy => by simp [h y hy])]
 simp [h0]
theorem firstE_all {l : List Int} (h : ∀ y ∈ l, y = 0) : firstE l = 0 := by
 unfold firstE
 rw [List.find?_eq_none.2 (fun y hy => by simp [h y hy])]
 rfl
abbrev unE (ok : Bool) (e : Int) : Int := bif ok then 0 else e
theorem blsI2 (a b : Int) : Bls Tryz.prog 244 2 [0, 1] [iD a, iD b] ([a, b].flatMap encI) := ⟨35, fun L w vs hv => by
 obtain ⟨u, v, rfl, rfl, rfl⟩ := all2 hv
 exact ⟨[.int .i64 a, .int .i64 b], ⟨rfl, rfl, trivial⟩, fun w' => by kernel_rfl⟩⟩
theorem blsI3 (a b c : Int) : Bls Tryz.prog 244 3 [0, 1, 2] [iD a, iD b, iD c] ([a, b, c].flatMap encI) := ⟨35, fun L w vs hv => by
 obtain ⟨u, v, z, rfl, rfl, rfl, rfl⟩ := all3 hv
 exact ⟨[.int .i64 a, .int .i64 b, .int .i64 c], ⟨rfl, rfl, rfl, trivial⟩, fun w' => by kernel_rfl⟩⟩
theorem all6 {L : List Nat} {w : World} {a b c d e f : D} {vs : List Value} (h : All L w [a, b, c, d, e, f] vs) : ∃ u v z x y t, vs = [u, v, z, x, y, t] ∧ a.R L w u ∧ b.R L w v ∧ c.R L w z ∧ d.R L w x ∧ e.R L w y ∧ f.R L w t := by
 match vs, h with
 | [u, v, z, x, y, t], ⟨h1, h2, h3, h4, h5, h6, _⟩ => exact ⟨u, v, z, x, y, t, rfl, h1, h2, h3, h4, h5, h6⟩
theorem blsI6 (a b c d e f : Int) : Bls Tryz.prog 244 6 [0, 1, 2, 3, 4, 5] [iD a, iD b, iD c, iD d, iD e, iD f] ([a, b, c, d, e, f].flatMap encI) := ⟨35, fun L w vs hv => by
 obtain ⟨u, v, z, x, y, t, rfl, rfl, rfl, rfl, rfl, rfl, rfl⟩ := all6 hv
 exact ⟨[.int .i64 a, .int .i64 b, .int .i64 c, .int .i64 d, .int .i64 e, .int .i64 f], ⟨rfl, rfl, rfl, rfl, rfl, rfl, trivial⟩, fun w' => by kernel_rfl⟩⟩
theorem bldA3s {n : List UInt8} {r : Int} {A : Option Addr} {k c : Nat} : Bld Tryz.prog 121 [0, 1, 2] [yt n, iD r, isD (.slice A k c)] [yt n, iD r, isD (.slice A k c), iD 0, iD 0] := fun L w vs hv => by
 obtain ⟨u, v, z, rfl, rfl, rfl, rfl⟩ := all3 hv
 exact ⟨[.string _, .int .i64 r, .slice A k c, .int .i64 0, .int .i64 0], ⟨rfl, rfl, rfl, rfl, rfl, trivial⟩, fun w' => by kernel_rfl⟩
theorem bldEn0 : Bld Tryz.prog 58 [] [] [yt [], iD 0, iD 0, isD (.slice none 0 0), isD (.slice none 0 0)] := fun L w vs h => by
 obtain rfl := all0 h
 exact ⟨[.string ⟨#[]⟩, .int .i64 0, .int .i64 0, .slice none 0 0, .slice none 0 0], ⟨rfl, rfl, rfl, rfl, rfl, trivial⟩, fun w' => by kernel_rfl⟩
theorem bldEn4 {n : List UInt8} {r s : Int} {b : List UInt8} : Bld Tryz.prog 58 [0, 1, 2, 3] [yt n, iD r, iD s, bD b] [yt n, iD r, iD s, bD b, isD (.slice none 0 0)] := fun L w vs hv => by
 match vs, hv with
 | [x, y, z, u], ⟨hx, hy, hz, h3, _⟩ =>
  cases hx; cases hy; cases hz
  have h3' := h3
  obtain ⟨A, cp, rfl, -⟩ := h3
  exact ⟨[.string _, .int .i64 r, .int .i64 s, .slice A _ cp, .slice none 0 0], ⟨rfl, rfl, rfl, h3', rfl, trivial⟩, fun w' => by kernel_rfl⟩
theorem Env.eq_iff {a b : Env.T} : a = b ↔ a.acc = b.acc ∧ a.rnd = b.rnd ∧ a.ser = b.ser ∧ a.box = b.box ∧ a.tag = b.tag := by
 constructor
 ·rintro rfl; exact ⟨rfl, rfl, rfl, rfl, rfl⟩
 ·obtain ⟨_, _, _, _, _⟩ := a; obtain ⟨_, _, _, _, _⟩ := b; rintro ⟨h1, h2, h3, h4, h5⟩; simp only at *; subst h1 h2 h3 h4 h5; rfl
instance : DecidableEq Env.T := fun a b => decidable_of_iff _ Env.eq_iff.symm
theorem con_within (x lo hi : Int) : ConN Tryz.prog 120 [iD x, iD lo, iD hi] (yY (decide (lo ≤ x ∧ x ≤ hi))) := by
 refine yE Tryz.func120 k9 rfl k9 fun base w0 => (zh (zb (za rfl (ze rfl) (zg (zc (zh (zb (za rfl (zd rfl) (za rfl (zd rfl) (za rfl (Rd.leq rfl rfl) (za rfl (zd rfl) (zU 10 rfl (fun hb10 => ?_) (fun hb10 => ?_)))))))))))))
 ·have h10 := of_decide_eq_true hb10
  refine zm rfl rfl (hb10) rfl rfl (zd rfl) (zm rfl rfl (hb10) rfl rfl (zd rfl) (zm rfl rfl (hb10) rfl rfl (Rd.leq rfl rfl) (za rfl (zz rfl (hb10) rfl) (za rfl (ze rfl) (zg (zc (zH (fn := Tryz.f120) (fun _ _ h => h) (Rs.le (Rs.one rfl (zo rfl)) ?_))))))))
  exact zP (by rw [decide_eq_decide]; exact ⟨fun h => ⟨h10, h⟩, fun h => h.2⟩)
 ·have h10 := of_decide_eq_false hb10
  refine zn rfl rfl (hb10) rfl rfl (zn rfl rfl (hb10) rfl rfl (zn rfl rfl (hb10) rfl rfl (za rfl (zy rfl (hb10) rfl) (za rfl (ze rfl) (zg (zc (zH (fn := Tryz.f120) (fun _ _ h => h) (Rs.le (Rs.one rfl (zo rfl)) ?_))))))))
  exact zP (by symm; apply decide_eq_false; intro h; exact h10 h.1)
theorem con_first (l : List Int) (hl : l.length ≤ 100) : ConN Tryz.prog 121 [lsD encI l] (iD (firstE l)) := by
 refine yE Tryz.func121 k9 rfl k9 fun base w0 => (zh (zb (za rfl (ze rfl) (zg (zc (zh (zh (zb (za rfl (zd rfl) (za rfl (yV (e := 35) rfl k9) (za rfl (zd rfl) (zg (zc (zW (Zq (ι := {i : Nat // i ≤ l.length ∧ ∀ y ∈ l.take i, y = 0}) (fun i => zR [(5, lsD encI l), (6, iD (l.length : Int)), (7, iD (i.1 : Int))] []) (fun i => l.length - i.1) (⟨0, by simp⟩) ?_ ?_)))))))))))))))
 ·exact (sB [] rfl rfl)
 ·rintro ⟨i, hi, ha⟩ K0 hK0
  dsimp only at hi ha ⊢
  refine zh (zb (za rfl (yG rfl rfl) (zg (zc (zh (zJ rfl (fun hb8 => ?_) (fun hb8 => ?_)))))))
  ·have hb8 := of_decide_eq_true hb8
   refine zu (zc (zh (zW (zh ?_))))
   obtain ⟨x, hx⟩ : ∃ x, l[i]? = some x := ⟨_, List.getElem?_eq_getElem o9⟩
   refine zb (za rfl (yK (e := 35) 1 rfl rfl k9 k9 o9 (by simpa using hx)) (za rfl (ym rfl rfl k9 s9) (za rfl (ze rfl) (zg (zc (zh (zb (za rfl (zd rfl) (za rfl (yd rfl rfl) (zg (zc (zJ rfl (fun hb12 => ?_) (fun hb12 => ?_)))))))))))))
   ·skip
    refine zh (zb (za rfl (zd rfl) (za rfl (ze rfl) (zg (zc (zH (fn := Tryz.f121) (fun _ _ h => h) (Rs.le (Rs.one rfl (zo rfl)) ?_)))))))
    exact Le.trans (zC (by rw [firstE_at ha hx (by simpa using hb12)])) zt
   ·skip
    exact zu (ye (zc (zb (za rfl (yM rfl rfl ⟨by omega, by omega⟩) (za rfl (zd rfl) (zg (fun a w hh => hK0 (⟨i + 1, by omega, fun y hy => by rw [yc hx] at hy; rcases List.mem_append.1 hy with hy | hy; exact ha y hy; rw [List.mem_singleton.1 hy]; simpa using hb12⟩) (by dsimp only; omega) a w (hh.sub (⟨⟨_, rfl, ⟨lq rfl, ⟨lq rfl, ⟨⟨_, rfl, zC s9⟩, trivial⟩⟩⟩⟩, [], by decide, trivial⟩)))))))))
  ·have hb8 := of_decide_eq_false hb8
   refine yW ?_
   repeat (first | refine Zi ?_ | refine Zj d9 ?_)
   refine Zk (zc (zh (zb (za rfl (ze rfl) (zg (zc (zH (fn := Tryz.f121) (fun _ _ h => h) (Rs.le (Rs.one rfl (zo rfl)) ?_))))))))
   exact Le.trans (zC (by rw [firstE_all (fun y hy => ha y (by rw [List.take_of_length_le o9]; exact hy))])) zt
theorem Ze (ok : Bool) (e : Int) : ConN Tryz.prog 122 [yY ok, iD e] (iD (unE ok e)) := by
 refine yE Tryz.func122 k9 rfl k9 fun base w0 => (zh (zb (za rfl (ze rfl) (zg (zc (zh (zh (zb (za rfl (zd rfl) (zg (zc (zJ rfl (fun hb5 => ?_) (fun hb5 => ?_)))))))))))))
 ·subst hb5
  refine zh (zb (za rfl (ze rfl) (zg (zc (zH (fn := Tryz.f122) (fun _ _ h => h) (Rs.le (Rs.one rfl (zo rfl)) ?_))))))
  exact zt
 ·subst hb5
  refine zu (zc (zh (zb (za rfl (zd rfl) (za rfl (ze rfl) (zg (zc (zH (fn := Tryz.f122) (fun _ _ h => h) (Rs.le (Rs.one rfl (zo rfl)) ?_)))))))))
  exact zt
theorem con_namedE (nm : List UInt8) : ConN Tryz.prog 119 [yt nm] (yY (decide (Acc.isName nm))) := by
 refine yE Tryz.func119 k9 rfl k9 fun base w0 => (zh (zb (za rfl (ze rfl) (zg (zc (zh (zb (za rfl (zd rfl) (zk (S := []) (Ef.make (e := 5) (z := .int .u8 0) (n := 32) 1 rfl rfl k9 k9 rfl rfl rfl d9 d9 rfl) ?_)))))))))
 rintro _ ⟨g4, rfl⟩
 refine za rfl (yh rfl rfl (bldA3s (n := nm) (r := 3))) (zk (S := []) (zA [] (con_validA nm 3 32 0 0) rfl ⟨(zr (Zz ⟨zf _, zf _, le_is_len, zf _, zf _, trivial⟩)), trivial⟩ rfl) ?_)
 rintro _ rfl
 refine za rfl (ze rfl) (zg (zc (zH (fn := Tryz.f119) (fun _ _ h => h) (Rs.le (Rs.one rfl (zo rfl)) ?_))))
 exact zP (by rw [decide_eq_decide]; unfold Acc.okN; exact ⟨fun h => h.1, fun h => ⟨h, rfl, by decide, by decide, by decide, by decide⟩⟩)
theorem con_validE (nm : List UInt8) (rnd ser : Int) (bl tl : Nat) : ConN Tryz.prog 66 [yX [yt nm, iD rnd, iD ser, lenD bl, lenD tl]] (yY (decide (Env.okV nm rnd ser bl tl))) := by
 refine yE Tryz.func66 k9 rfl k9 fun base w0 => (zh (zb (zk (S := []) (yF rfl rfl) ?_)))
 rintro _ ⟨g1, rfl⟩
 refine za rfl (ze rfl) (zg (zc (zh (zb (za rfl (zi (n := 0) rfl k9) (za rfl (zl 0 rfl rfl rfl k9 zp) (zk (S := []) (zA [] (con_namedE nm) rfl ⟨(zr (zf _)), trivial⟩ rfl) ?_)))))))
 rintro _ rfl
 refine za rfl (zd rfl) (zU 6 rfl (fun hb6 => ?_) (fun hb6 => ?_))
 ·have h6 := of_decide_eq_true hb6
  refine zm rfl rfl (hb6) rfl rfl (zi (n := 1) rfl k9) (zm rfl rfl (hb6) rfl rfl (zl 0 rfl rfl rfl k9 zp) (yA (S := []) rfl rfl (hb6) rfl (zA [] (con_within rnd 0 1048576) rfl ⟨(zr (zf _)), (zr (zf _)), (zr (zf _)), trivial⟩ rfl) ?_))
  rintro _ rfl
  refine za rfl (zz rfl (hb6) rfl) (za rfl (zd rfl) (zU 11 rfl (fun hb11 => ?_) (fun hb11 => ?_)))
  ·have h11 := of_decide_eq_true hb11
   refine zm rfl rfl (hb11) rfl rfl (zi (n := 2) rfl k9) (zm rfl rfl (hb11) rfl rfl (zl 0 rfl rfl rfl k9 zp) (yA (S := []) rfl rfl (hb11) rfl (zA [] (con_within ser 0 1073741824) rfl ⟨(zr (zf _)), (zr (zf _)), (zr (zf _)), trivial⟩ rfl) ?_))
   rintro _ rfl
   refine za rfl (zz rfl (hb11) rfl) (za rfl (zd rfl) (zU 16 rfl (fun hb16 => ?_) (fun hb16 => ?_)))
   ·have h16 := of_decide_eq_true hb16
    refine zm rfl rfl (hb16) rfl rfl (zi (n := 3) rfl k9) (zm rfl rfl (hb16) rfl rfl (zl 0 rfl rfl rfl k9 zp) (zm rfl rfl (hb16) rfl rfl (Rd.lenN (e := 5) rfl k9) (yA (S := []) rfl rfl (hb16) rfl (zA [] (con_within (bl : Int) 32 4128) rfl ⟨(zr (zf _)), (zr (zf _)), (zr (zf _)), trivial⟩ rfl) ?_)))
    rintro _ rfl
    refine za rfl (zz rfl (hb16) rfl) (za rfl (zd rfl) (zU 22 rfl (fun hb22 => ?_) (fun hb22 => ?_)))
    ·have h22 := of_decide_eq_true hb22
     refine zm rfl rfl (hb22) rfl rfl (zi (n := 4) rfl k9) (zm rfl rfl (hb22) rfl rfl (zl 0 rfl rfl rfl k9 zp) (zm rfl rfl (hb22) rfl rfl (Rd.lenN (e := 5) rfl k9) (zm rfl rfl (hb22) rfl rfl (yP rfl rfl) (za rfl (zz rfl (hb22) rfl) (za rfl (ze rfl) (zg (zc (zH (fn := Tryz.f66) (fun _ _ h => h) (Rs.le (Rs.one rfl (zo rfl)) ?_)))))))))
     exact zP (by rw [decide_eq_decide]; exact ⟨fun h => ⟨h6, h11, h16, ⟨by omega, by omega⟩, by omega⟩, fun h => by have := h.2.2.2.2; omega⟩)
    ·have h22 := of_decide_eq_false hb22
     refine zn rfl rfl (hb22) rfl rfl (zn rfl rfl (hb22) rfl rfl (zn rfl rfl (hb22) rfl rfl (zn rfl rfl (hb22) rfl rfl (za rfl (zy rfl (hb22) rfl) (za rfl (ze rfl) (zg (zc (zH (fn := Tryz.f66) (fun _ _ h => h) (Rs.le (Rs.one rfl (zo rfl)) ?_)))))))))
     exact zP (by symm; apply decide_eq_false; intro h; exact h22 ⟨by have := h.2.2.2.1; omega, by have := h.2.2.2.1; omega⟩)
   ·have h16 := of_decide_eq_false hb16
    refine zn rfl rfl (hb16) rfl rfl (zn rfl rfl (hb16) rfl rfl (zn rfl rfl (hb16) rfl rfl (zn rfl rfl (hb16) rfl rfl (za rfl (zy rfl (hb16) rfl) (za rfl (zd rfl) (zn rfl rfl (rfl) rfl rfl (zn rfl rfl (rfl) rfl rfl (zn rfl rfl (rfl) rfl rfl (zn rfl rfl (rfl) rfl rfl (za rfl (zy rfl (rfl) rfl) (za rfl (ze rfl) (zg (zc (zH (fn := Tryz.f66) (fun _ _ h => h) (Rs.le (Rs.one rfl (zo rfl)) ?_)))))))))))))))
    exact zP (by symm; apply decide_eq_false; intro h; exact h16 h.2.2.1)
  ·have h11 := of_decide_eq_false hb11
   refine zn rfl rfl (hb11) rfl rfl (zn rfl rfl (hb11) rfl rfl (zn rfl rfl (hb11) rfl rfl (za rfl (zy rfl (hb11) rfl) (za rfl (zd rfl) (zn rfl rfl (rfl) rfl rfl (zn rfl rfl (rfl) rfl rfl (zn rfl rfl (rfl) rfl rfl (zn rfl rfl (rfl) rfl rfl (za rfl (zy rfl (rfl) rfl) (za rfl (zd rfl) (zn rfl rfl (rfl) rfl rfl (zn rfl rfl (rfl) rfl rfl (zn rfl rfl (rfl) rfl rfl (zn rfl rfl (rfl) rfl rfl (za rfl (zy rfl (rfl) rfl) (za rfl (ze rfl) (zg (zc (zH (fn := Tryz.f66) (fun _ _ h => h) (Rs.le (Rs.one rfl (zo rfl)) ?_))))))))))))))))))))
   exact zP (by symm; apply decide_eq_false; intro h; exact h11 h.2.1)
 ·have h6 := of_decide_eq_false hb6
  refine zn rfl rfl (hb6) rfl rfl (zn rfl rfl (hb6) rfl rfl (zn rfl rfl (hb6) rfl rfl (za rfl (zy rfl (hb6) rfl) (za rfl (zd rfl) (zn rfl rfl (rfl) rfl rfl (zn rfl rfl (rfl) rfl rfl (zn rfl rfl (rfl) rfl rfl (za rfl (zy rfl (rfl) rfl) (za rfl (zd rfl) (zn rfl rfl (rfl) rfl rfl (zn rfl rfl (rfl) rfl rfl (zn rfl rfl (rfl) rfl rfl (zn rfl rfl (rfl) rfl rfl (za rfl (zy rfl (rfl) rfl) (za rfl (zd rfl) (zn rfl rfl (rfl) rfl rfl (zn rfl rfl (rfl) rfl rfl (zn rfl rfl (rfl) rfl rfl (zn rfl rfl (rfl) rfl rfl (za rfl (zy rfl (rfl) rfl) (za rfl (ze rfl) (zg (zc (zH (fn := Tryz.f66) (fun _ _ h => h) (Rs.le (Rs.one rfl (zo rfl)) ?_)))))))))))))))))))))))))
  exact zP (by symm; apply decide_eq_false; intro h; exact h6 h.1)
theorem con_commit (key : List UInt8) (hk : key.length ≤ 1000000) : Con Tryz.prog 101 [bD key] (Yq [bD (Env.comB key), iD (Env.comE key)]) := by
 refine con_of Tryz.func101 k9 rfl k9 fun base w0 => (zh (zb (za rfl (ze rfl) (za rfl (ze rfl) (zg (zc (zh (zh (zb (za rfl (zd rfl) (za rfl (Rd.len (e := 5) rfl k9) (za rfl (yd rfl rfl) (zg (zc (zJ rfl (fun hb7 => ?_) (fun hb7 => ?_))))))))))))))))
 ·have h7 : ¬ key.length = 32 := by (simp at hb7; omega)
  refine zh (zb (za rfl (ze rfl) (za rfl (ze rfl) (zg (zc (zH (fn := Tryz.f101) (fun _ _ h => h) (Rs.le (Rs.two rfl (zo rfl) (zo rfl)) ?_)))))))
  exact yJ ⟨by rw [Env.comB, if_neg h7]; exact Zy, zC (by rw [Env.comE, if_neg h7]), trivial⟩
 ·have h7 : key.length = 32 := by (simp at hb7; omega)
  refine zu (zc (zh (zb (zk (S := []) (Ef.litV (e := 5) (b := [114, 111, 117, 110, 100, 45]) rfl rfl rfl d9 (fun w => by kernel_rfl) rfl) ?_))))
  rintro _ ⟨g8, rfl⟩
  refine zk (Ef.markK (e := 5) 0 rfl rfl k9 k9 d9 rfl (fun _ h => h) rfl) ?_
  rintro _ rfl
  refine za rfl (zd rfl) (zk (S := []) (Ef.appK (e := 5) rfl rfl d9 o9 k9 k9 (by simp <;> omega) rfl) ?_)
  rintro _ ⟨g11, c11, rfl⟩
  refine SWl.freezeT 0 11 rfl rfl (le_ls_b _) (zk (S := []) (yo (con_sum _ (by simp; omega)) rfl ⟨zf _, trivial⟩ rfl) ?_)
  rintro _ rfl
  refine zk (S := []) (zQ (zs := cellsOf (List.replicate 32 0)) k9 rfl) ?_
  rintro _ ⟨g4, rfl⟩
  refine zk (S := [_]) (ZT 0 32 rfl rfl rfl k9 (by first | assumption | (simp; done) | (simp; omega)) (by first | assumption | (simp; done) | (simp; omega)) (List.mem_singleton.2 rfl)) ?_
  rintro _ rfl
  refine zg (zc (zh (zb (za rfl (Rd.slArr (e := 5) (n := 32) rfl k9 k9) (SWl.freeze 13 0 (cellsOf (Env.comH key)) rfl rfl (by first | rfl | (simp; done)) d9 rfl (za rfl (ze rfl) (za rfl (ze rfl) (zg (zc (zH (fn := Tryz.f101) (fun _ _ h => h) (Rs.le (Rs.two rfl (zo rfl) (zo rfl)) ?_)))))))))))
  exact yJ ⟨by rw [Env.comB, if_pos h7]; exact zf _, zC (by rw [Env.comE, if_pos h7]), trivial⟩
theorem con_writeE (gw : Nat) (t : Ust) (o : List UInt8) (e : Env.T) (h1 : e.acc.length ≤ 1000) (h2 : 0 ≤ e.rnd ∧ e.rnd ≤ 1048576) (h3 : 0 ≤ e.ser ∧ e.ser ≤ 1073741824) (h4 : e.box.length ≤ 10000) (ho : o.length ≤ 10000) : ConR Tryz.prog 124 [.c gw [iD 0, isD (.slice t.A (o).length t.c)], .r t.F (yb 5 1 Z2 t.A t.c (o))] [pA gw, yX [yt e.acc, iD e.rnd, iD e.ser, bD e.box, bD e.tag]] (fun s : Ust => [.c gw [iD 0, isD (.slice s.A (o ++ Env.sgnT e).length s.c)], .r s.F (yb 5 1 Z2 s.A s.c (o ++ Env.sgnT e))]) (fun s : Ust => isD (.tuple #[])) := by
 have a1 := strE_len (b := e.acc) o9
 have a2 := strE_len (b := e.box) o9
 have a3 := ZR (n := e.rnd.toNat) o9
 have a4 := ZR (n := e.ser.toNat) o9
 refine zY Tryz.func124 k9 rfl k9 fun base w0 => (zh (zb (zk (S := []) (yF rfl rfl) ?_)))
 rintro _ ⟨g3, rfl⟩
 refine zg (zc (zh (zb (za rfl (zd rfl) (za rfl (Rd.makeFuncB [.pointer (some ⟨gw, 0, none⟩)] rfl) (za rfl (zd rfl) (za rfl (Rd.makeFuncB [.pointer (some ⟨gw, 0, none⟩)] rfl) (za rfl (zd rfl) (za rfl (Rd.makeFuncB [.pointer (some ⟨gw, 0, none⟩)] rfl) (za rfl (ze rfl) (za rfl (ze rfl) (za rfl (ze rfl) (zg (zc (zh (zb (za rfl (zd rfl) (za rfl (zi (n := 0) rfl k9) (za rfl (zl 2 rfl rfl rfl k9 zp) (zk (Ef.callBR (bd := [.pointer (some ⟨gw, 0, none⟩)]) [0, 1] (con_wString gw t (o) e.acc (by first | omega | (simp only [List.length_append] at *; omega))) rfl rfl ⟨zf _, zf _, trivial⟩ d9 (sX rfl) (fun _ h => h) rfl) ?_))))))))))))))))))))
 rintro _ ⟨s16, rfl⟩
 refine zg (zc (zh (zb (za rfl (zd rfl) (za rfl (zi (n := 1) rfl k9) (za rfl (zl 0 rfl rfl rfl k9 zp) (zk (Ef.callBR (bd := [.pointer (some ⟨gw, 0, none⟩)]) [1, 2] (con_wUint gw s16 (o ++ strE e.acc) e.rnd.toNat o9 (by first | omega | (simp only [List.length_append] at *; omega))) rfl rfl ⟨zf _, zC (by rw [Int.toNat_of_nonneg h2.1]), trivial⟩ d9 (sX rfl) (fun _ h => h) rfl) ?_)))))))
 rintro _ ⟨s20, rfl⟩
 refine zg (zc (zh (zb (za rfl (zd rfl) (za rfl (zi (n := 2) rfl k9) (za rfl (zl 0 rfl rfl rfl k9 zp) (zk (Ef.callBR (bd := [.pointer (some ⟨gw, 0, none⟩)]) [1, 2] (con_wUint gw s20 (o ++ strE e.acc ++ grp e.rnd.toNat) e.ser.toNat o9 (by first | omega | (simp only [List.length_append] at *; omega))) rfl rfl ⟨zf _, zC (by rw [Int.toNat_of_nonneg h3.1]), trivial⟩ d9 (sX rfl) (fun _ h => h) rfl) ?_)))))))
 rintro _ ⟨s24, rfl⟩
 refine zg (zc (zb (za rfl (zd rfl) (za rfl (zi (n := 3) rfl k9) (za rfl (zl 0 rfl rfl rfl k9 zp) (zk (Ef.callBR (bd := [.pointer (some ⟨gw, 0, none⟩)]) [1, 2] (con_wBytes gw s24 (o ++ strE e.acc ++ grp e.rnd.toNat ++ grp e.ser.toNat) e.box (by first | omega | (simp only [List.length_append] at *; omega))) rfl rfl ⟨zf _, zf _, trivial⟩ d9 (sX rfl) (fun _ h => h) rfl) ?_))))))
 rintro _ ⟨s28, rfl⟩
 refine zg ?_
 refine Zx (fn := Tryz.f124) (s28) [1, 2] (Rs.none rfl) d9 ⟨⟨_, rfl, ⟨zf _, zC (by rw [(show o ++ strE e.acc ++ grp e.rnd.toNat ++ grp e.ser.toNat ++ strE e.box = o ++ Env.sgnT e from by simp [Env.sgnT, Env.sgn, List.append_assoc])]), trivial⟩⟩, ⟨⟨_, rfl, ZN (by rw [(show o ++ strE e.acc ++ grp e.rnd.toNat ++ grp e.ser.toNat ++ strE e.box = o ++ Env.sgnT e from by simp [Env.sgnT, Env.sgn, List.append_assoc])]) (by rw [(show o ++ strE e.acc ++ grp e.rnd.toNat ++ grp e.ser.toNat ++ strE e.box = o ++ Env.sgnT e from by simp [Env.sgnT, Env.sgn, List.append_assoc])])⟩, trivial⟩⟩
theorem con_signedE (e : Env.T) (h1 : e.acc.length ≤ 1000) (h2 : 0 ≤ e.rnd ∧ e.rnd ≤ 1048576) (h3 : 0 ≤ e.ser ∧ e.ser ≤ 1073741824) (h4 : e.box.length ≤ 10000) : Con Tryz.prog 134 [yX [yt e.acc, iD e.rnd, iD e.ser, bD e.box, bD e.tag]] (Yq [bD (Env.sgnT e), iD 0]) := by
 refine con_of Tryz.func134 k9 rfl k9 fun base w0 => (zh (zb (zk (S := []) (yF rfl rfl) ?_)))
 rintro _ ⟨g1, rfl⟩
 refine za rfl (ze rfl) (za rfl (ze rfl) (zg (zc (zh (zb (zk (S := []) (zQ (zs := [.int .i64 0, .slice none 0 0]) k9 rfl) ?_))))))
 rintro _ ⟨g4, rfl⟩
 refine zg (zc (zh (SW.vecN 5 1 Z2 (zO (σ' := zR [(1, pA g1), (4, pA g4)] [.c g1 [yt e.acc, iD e.rnd, iD e.ser, bD e.box, bD e.tag], .c g4 [iD 0, isD (.slice (⟨none, 0, []⟩ : Ust).A (([] : List UInt8)).length (⟨none, 0, []⟩ : Ust).c)], .r (⟨none, 0, []⟩ : Ust).F (yb 5 1 Z2 (⟨none, 0, []⟩ : Ust).A (⟨none, 0, []⟩ : Ust).c (([] : List UInt8)))]) (sB [0, 1, 2] rfl rfl) (zb (za rfl (zG 0 5 rfl rfl k9 rfl zp) (zk (zB [1, 2] (con_writeE g4 (⟨none, 0, []⟩ : Ust) [] e h1 h2 h3 h4 d9) rfl ⟨zf _, zf _, trivial⟩ d9 (sX rfl) (fun _ h => h) rfl) ?_)))))))
 rintro _ ⟨s6, rfl⟩
 refine zg (zc (zh (zb (zk (zB [1, 2] (con_wEnd g4 s6 ([] ++ Env.sgnT e) (by have := Env.sgn_len (nm := e.acc) (box := e.box) o9 o9 h2.2 h3.2; show (Env.sgn _ _ _ _).length ≤ _; omega)) rfl ⟨zf _, trivial⟩ d9 (sX rfl) (fun _ h => h) rfl) ?_))))
 rintro _ ⟨⟨⟩, rfl⟩
 refine za rfl (zq rfl rfl) (za rfl (zq rfl rfl) (za rfl (ze rfl) (za rfl (ze rfl) (zg (zc (zH (fn := Tryz.f134) (fun _ _ h => h) (Rs.le (Rs.two rfl (zo rfl) (zo rfl)) ?_)))))))
 exact zf _
theorem con_deriveE (key nm : List UInt8) (hk : key.length = 32) (hn : nm.length ≤ 32) : Con Tryz.prog 132 [bD key, yt nm] (Yq [bD (Env.keyB key nm), iD 0]) := by
 refine con_of Tryz.func132 k9 rfl k9 fun base w0 => (zh (zb (za rfl (ze rfl) (za rfl (ze rfl) (zg (zc (zh (zb (za rfl (zd rfl) (za rfl (zd rfl) (za rfl (Rd.sadd rfl rfl (by simp; omega)) (zk (S := []) (yo (con_derive key _ hk s9 (by simp; omega)) rfl ⟨zf _, zf _, trivial⟩ rfl) ?_))))))))))))
 rintro _ rfl
 refine za rfl (zq rfl rfl) (za rfl (zq rfl rfl) (za rfl (ze rfl) (za rfl (ze rfl) (zg (zc (zH (fn := Tryz.f132) (fun _ _ h => h) (Rs.le (Rs.two rfl (zo rfl) (zo rfl)) ?_)))))))
 exact zf _
end Sx
end Go.Proofs.YtgokpcnabgacnaaGreatDoor
namespace Go.Proofs.YtgokpcnabgacnaaGreatDoor
open Go.RowKit
namespace Sx
abbrev okD (e : Env.T) : Bool := decide (Env.okV e.acc e.rnd e.ser e.box.length e.tag.length)
theorem okD_t {e : Env.T} (h : Env.ok e) : okD e = true := decide_eq_true h
theorem okD_f {e : Env.T} (h : ¬ Env.ok e) : okD e = false := decide_eq_false h
theorem ZC {l : List Int} {e : Int} : firstE (unE true e :: l) = firstE l := firstE_zero
theorem firstE_f {l : List Int} {e : Int} (h : e ≠ 0) : firstE (unE false e :: l) = e := firstE_cons h
theorem pre2_ok {e : Env.T} (h : Env.ok e) (m : Int) : firstE [unE true 1, unE (okD e) m] = 0 := by rw [okD_t h, ZC, ZC]; rfl
theorem pre2_no {e : Env.T} (h : ¬ Env.ok e) {m : Int} (hm : m ≠ 0) : firstE [unE true 1, unE (okD e) m] = m := by rw [okD_f h, ZC, firstE_f hm]
theorem pre3_ok {e : Env.T} {key : List UInt8} (h : key.length = 32 ∧ Env.ok e) : firstE [unE true 1, unE (decide (((cellsOf key).length : Int) = 32)) 2, unE (okD e) 2] = 0 := by
 rw [okD_t h.2, decide_eq_true (show ((cellsOf key).length : Int) = 32 by rw [zv]; omega), ZC, ZC, ZC]; rfl
theorem pre3_no {e : Env.T} {key : List UInt8} (h : ¬ (key.length = 32 ∧ Env.ok e)) : firstE [unE true 1, unE (decide (((cellsOf key).length : Int) = 32)) 2, unE (okD e) 2] = 2 := by
 by_cases h1 : key.length = 32
 ·rw [okD_f (fun h2 => h ⟨h1, h2⟩), decide_eq_true (show ((cellsOf key).length : Int) = 32 by rw [zv]; omega), ZC, ZC, firstE_f d9]
 ·rw [decide_eq_false (show ¬ ((cellsOf key).length : Int) = 32 by rw [zv]; omega), ZC, firstE_f d9]
theorem op_no {l : List Acc.T} {e : Env.T} {key : List UInt8} (h : ¬ (key.length = 32 ∧ Env.ok e)) : Env.opE l e key = 2 ∧ Env.opB l e key = [] := by
 have he : Env.opE l e key = 2 := by
  unfold Env.opE
  by_cases h1 : key.length = 32
  ·rw [if_pos h1]
   have : Env.autE l e = 2 := by unfold Env.autE; rw [if_neg (fun h2 => h ⟨h1, h2⟩)]
   rw [this]; rfl
  ·rw [if_neg h1]
 exact ⟨he, by unfold Env.opB; rw [if_neg (by rw [he]; decide)]⟩
theorem op_aut {l : List Acc.T} {e : Env.T} {key : List UInt8} (h : key.length = 32 ∧ Env.ok e) (ha : Zh l e.acc (Env.sgnT e) e.tag ≠ 0) : Env.opE l e key = Zh l e.acc (Env.sgnT e) e.tag ∧ Env.opB l e key = [] := by
 have h2 : Env.autE l e = Zh l e.acc (Env.sgnT e) e.tag := by unfold Env.autE; rw [if_pos h.2]
 have he : Env.opE l e key = Zh l e.acc (Env.sgnT e) e.tag := by unfold Env.opE; rw [if_pos h.1, h2, if_pos ha]
 exact ⟨he, by unfold Env.opB; rw [if_neg (by rw [he]; exact ha)]⟩
theorem op_bad {l : List Acc.T} {e : Env.T} {key : List UInt8} (h : key.length = 32 ∧ Env.ok e) (ha : ¬ Zh l e.acc (Env.sgnT e) e.tag ≠ 0) (hb : (Sl.openB (Env.keyB key e.acc) e.box).2 ≠ 0) : Env.opE l e key = 10 ∧ Env.opB l e key = [] := by
 have h2 : Env.autE l e = Zh l e.acc (Env.sgnT e) e.tag := by unfold Env.autE; rw [if_pos h.2]
 have he : Env.opE l e key = 10 := by unfold Env.opE; rw [if_pos h.1, h2, if_neg ha, if_pos hb]
 exact ⟨he, by unfold Env.opB; rw [if_neg (by rw [he]; decide)]⟩
theorem op_ok {l : List Acc.T} {e : Env.T} {key : List UInt8} (h : key.length = 32 ∧ Env.ok e) (ha : ¬ Zh l e.acc (Env.sgnT e) e.tag ≠ 0) (hb : ¬ (Sl.openB (Env.keyB key e.acc) e.box).2 ≠ 0) : Env.opE l e key = 0 ∧ Env.opB l e key = (Sl.openB (Env.keyB key e.acc) e.box).1 := by
 have h2 : Env.autE l e = Zh l e.acc (Env.sgnT e) e.tag := by unfold Env.autE; rw [if_pos h.2]
 have he : Env.opE l e key = 0 := by unfold Env.opE; rw [if_pos h.1, h2, if_neg ha, if_neg hb]
 exact ⟨he, by unfold Env.opB; rw [if_pos he]⟩
theorem pre6 (rnd ser : Int) (key nonce bid : List UInt8) : firstE [unE true 1, unE (decide (0 ≤ rnd ∧ rnd ≤ 1048576)) 2, unE (decide (0 ≤ ser ∧ ser ≤ 1073741824)) 2, unE (decide (((cellsOf key).length : Int) = 32)) 2, unE (decide (((cellsOf nonce).length : Int) = 16)) 2, unE (decide (0 ≤ ((cellsOf bid).length : Int) ∧ ((cellsOf bid).length : Int) ≤ 4096)) 5] = Env.preE rnd ser key.length nonce.length bid.length := by
 simp only [zv]
 unfold Env.preE
 rw [ZC]
 by_cases h1 : 0 ≤ rnd ∧ rnd ≤ 1048576
 ·rw [decide_eq_true h1, ZC]
  by_cases h2 : 0 ≤ ser ∧ ser ≤ 1073741824
  ·rw [decide_eq_true h2, ZC]
   by_cases h3 : key.length = 32
   ·rw [decide_eq_true (show (key.length : Int) = 32 by omega), ZC]
    by_cases h4 : nonce.length = 16
    ·rw [decide_eq_true (show (nonce.length : Int) = 16 by omega), ZC, if_pos ⟨h1, h2, h3, h4⟩]
     by_cases h5 : 4096 < bid.length
     ·rw [decide_eq_false (show ¬ (0 ≤ (bid.length : Int) ∧ (bid.length : Int) ≤ 4096) by omega), firstE_f d9, if_pos h5]
     ·rw [decide_eq_true (show 0 ≤ (bid.length : Int) ∧ (bid.length : Int) ≤ 4096 by omega), ZC, if_neg h5]; rfl
    ·rw [decide_eq_false (show ¬ (nonce.length : Int) = 16 by omega), firstE_f d9, if_neg (fun h => h4 h.2.2.2)]
   ·rw [decide_eq_false (show ¬ (key.length : Int) = 32 by omega), firstE_f d9, if_neg (fun h => h3 h.2.2.1)]
  ·rw [decide_eq_false h2, firstE_f d9, if_neg (fun h => h2 h.2.1)]
 ·rw [decide_eq_false h1, firstE_f d9, if_neg (fun h => h1 h.1)]
section
variable {l : List Acc.T} {nm : List UInt8} {rnd ser : Int} {key nonce bid : List UInt8}
theorem sl_pre (h : Env.preE rnd ser key.length nonce.length bid.length ≠ 0) : Env.slE l nm rnd ser key.length nonce.length bid.length = Env.preE rnd ser key.length nonce.length bid.length ∧ Env.slT l nm rnd ser key nonce bid = Env.zero := by
 have he : Env.slE l nm rnd ser key.length nonce.length bid.length = Env.preE rnd ser key.length nonce.length bid.length := by unfold Env.slE; rw [if_pos h]
 exact ⟨he, by unfold Env.slT; rw [if_neg (by rw [he]; exact h)]⟩
theorem sl_none (h : Env.preE rnd ser key.length nonce.length bid.length = 0) (hx : Acc.find l nm = none) : Env.slE l nm rnd ser key.length nonce.length bid.length = 9 ∧ Env.slT l nm rnd ser key nonce bid = Env.zero := by
 have he : Env.slE l nm rnd ser key.length nonce.length bid.length = 9 := by unfold Env.slE; rw [if_neg (by simp [h]), if_pos hx]
 exact ⟨he, by unfold Env.slT; rw [if_neg (by rw [he]; decide)]⟩
theorem sl_ok {x : Acc.T} (h : Env.preE rnd ser key.length nonce.length bid.length = 0) (hx : Acc.find l nm = some x) : Env.slE l nm rnd ser key.length nonce.length bid.length = 0 ∧ Env.slT l nm rnd ser key nonce bid = Env.mk l nm rnd ser key nonce bid := by
 have he : Env.slE l nm rnd ser key.length nonce.length bid.length = 0 := by unfold Env.slE; rw [if_neg (by simp [h]), hx, if_neg s9]
 exact ⟨he, by unfold Env.slT; rw [if_pos he]⟩
theorem sl_len {x : Acc.T} (hf : Acc.Fine l) (h : Env.preE rnd ser key.length nonce.length bid.length = 0) (hx : Acc.find l nm = some x) : nm.length ≤ 32 ∧ (Env.boxB key nm nonce bid).length = bid.length + 32 ∧ (Env.sgn nm rnd ser (Env.boxB key nm nonce bid)).length ≤ 4300 := by
 obtain ⟨p1, p2, p3, p4, p5⟩ := Env.pre_ok h
 obtain ⟨m1, m2⟩ := Acc.find_some hx
 have h1 : nm.length ≤ 32 := by rw [← m2]; exact (hf.oks x m1).1.2.2
 have h2 := Env.box_len key nm bid p4
 have h3 := Env.sgn_len (nm := nm) (box := Env.boxB key nm nonce bid) o9 o9 p1.2 p2.2
 exact ⟨h1, h2, by omega⟩
end
theorem le_enz : LeAll [yt [], iD 0, iD 0, isD (.slice none 0 0), isD (.slice none 0 0)] (encEn Env.zero) := ⟨zf _, zf _, zf _, Zy, Zy, trivial⟩
theorem con_authE (gb : Nat) (s : Bst) (l : List Acc.T) (e : Env.T) (hf : Acc.Fine l) (h : Env.ok e) : ConR Tryz.prog 123 [.c gb [isD (.map (s.M.map Prod.fst)), isD (.slice s.n.A (Acc.nm l).length s.n.c), isD (.map (s.M.map Prod.snd))], .r s.n.F (yb 9 1 Zb s.n.A s.n.c (Acc.nm l)), .r s.F1 (zX (s.M.map Prod.fst) yq (Acc.nm l) (acD l)), .r s.F2 (zX (s.M.map Prod.snd) yn (Acc.seats l) (seD l))] [pA gb, yX [yt e.acc, iD e.rnd, iD e.ser, bD e.box, bD e.tag]] (fun _ : Unit => [.c gb [isD (.map (s.M.map Prod.fst)), isD (.slice s.n.A (Acc.nm l).length s.n.c), isD (.map (s.M.map Prod.snd))], .r s.n.F (yb 9 1 Zb s.n.A s.n.c (Acc.nm l)), .r s.F1 (zX (s.M.map Prod.fst) yq (Acc.nm l) (acD l)), .r s.F2 (zX (s.M.map Prod.snd) yn (Acc.seats l) (seD l))]) (fun _ : Unit => iD (Zh l e.acc (Env.sgnT e) e.tag)) := by
 obtain ⟨k1, k2, k3, k4, k5, k6, k7, k8⟩ := Env.ok_len h
 refine zY Tryz.func123 k9 rfl k9 fun base w0 => (zh (zb (zk (S := []) (yF rfl rfl) ?_)))
 rintro _ ⟨g3, rfl⟩
 refine za rfl (ze rfl) (zg (zc (zh (zb (za rfl (zG 4 5 rfl rfl k9 rfl zp) (zk (S := []) (yo (con_signedE e o9 ⟨k2, k3⟩ ⟨k4, k5⟩ o9) rfl ⟨zf _, trivial⟩ rfl) ?_))))))
 rintro _ rfl
 refine za rfl (zd rfl) (za rfl (zq rfl rfl) (za rfl (zq rfl rfl) (za rfl (ze rfl) (za rfl (ze rfl) (zg (zc (zh (zh (zb (za rfl (zd rfl) (za rfl (yd rfl rfl) (zg (zc (zE rfl d9 (zu (zc (zh (zb (za rfl (zd rfl) (za rfl (zi (n := 0) rfl k9) (za rfl (zl 4 rfl rfl rfl k9 zp) (za rfl (zd rfl) (za rfl (zi (n := 4) rfl k9) (za rfl (zl 4 rfl rfl rfl k9 zp) (zk (zB [0, 1, 2, 3] (con_verify gb s l e.acc (Env.sgnT e) e.tag hf (by have := Env.sgnT_len h; omega)) rfl ⟨zf _, zf _, zf _, zf _, trivial⟩ d9 (sX rfl) (fun _ h => h) rfl) ?_)))))))))))))))))))))))))
 rintro _ ⟨⟨⟩, rfl⟩
 refine za rfl (ze rfl) (zg (zc ?_))
 refine zS (fn := Tryz.f123) (()) [1, 2, 3, 4] (fun _ _ h => h) (Rs.one rfl (zo rfl)) d9 (sX rfl)
theorem con_checkE (gb : Nat) (s : Bst) (l : List Acc.T) (e : Env.T) (hf : Acc.Fine l)  : ConR Tryz.prog 69 [.c gb [isD (.map (s.M.map Prod.fst)), isD (.slice s.n.A (Acc.nm l).length s.n.c), isD (.map (s.M.map Prod.snd))], .r s.n.F (yb 9 1 Zb s.n.A s.n.c (Acc.nm l)), .r s.F1 (zX (s.M.map Prod.fst) yq (Acc.nm l) (acD l)), .r s.F2 (zX (s.M.map Prod.snd) yn (Acc.seats l) (seD l))] [pA gb, yX [yt e.acc, iD e.rnd, iD e.ser, bD e.box, bD e.tag]] (fun _ : Unit => [.c gb [isD (.map (s.M.map Prod.fst)), isD (.slice s.n.A (Acc.nm l).length s.n.c), isD (.map (s.M.map Prod.snd))], .r s.n.F (yb 9 1 Zb s.n.A s.n.c (Acc.nm l)), .r s.F1 (zX (s.M.map Prod.fst) yq (Acc.nm l) (acD l)), .r s.F2 (zX (s.M.map Prod.snd) yn (Acc.seats l) (seD l))]) (fun _ : Unit => iD (Env.autE l e)) := by
 refine zY Tryz.func69 k9 rfl k9 fun base w0 => (zh (zb (zk (S := []) (yF rfl rfl) ?_)))
 rintro _ ⟨g3, rfl⟩
 refine za rfl (ze rfl) (zg (zc (zh (zh (yj [] (.r 0 (.r 1 (.r 3 (.n 2 (.n 4 (.n 5 (.n 6 (.n 7 (.r 8 .fin) .no) .no) .no) .no) .no)))) k9 k9 (fun d _ _ _ _ h => by cases d <;> exact h) (zj rfl rfl (zd rfl) (zj rfl rfl (Rd.neP rfl rfl k9) (zj rfl rfl (zG 4 5 rfl rfl k9 rfl zp) (yi rfl (zA [] (Ze true 1) rfl ⟨(zr (zf _)), (zr (zf _)), trivial⟩ rfl) ?_ zI)))))))))
 rintro _ rfl
 refine yi rfl (zA [] (con_validE e.acc e.rnd e.ser e.box.length e.tag.length) rfl ⟨(zr (Zz ⟨zf _, zf _, zf _, le_b_len, le_b_len, trivial⟩)), trivial⟩ rfl) ?_ zI
 rintro _ rfl
 refine yi rfl (zA [] (Ze (okD e) 2) rfl ⟨(zr (zf _)), (zr (zf _)), trivial⟩ rfl) ?_ zI
 rintro _ rfl
 refine yi rfl (Zl rfl rfl (blsI2 (unE true 1) (unE (okD e) 2)) rfl) ?_ zI
 rintro _ rfl
 refine yi rfl (zA [] (con_first [unE true 1, unE (okD e) 2] s9) rfl ⟨(zr (zf _)), trivial⟩ rfl) ?_ zI
 rintro _ rfl
 refine zj rfl rfl (ze rfl) (zV (zc (zh ?_)))
 by_cases hok : Env.ok e
 ·skip
  refine zO (σ' := zR [(0, pA gb), (3, pA g3), (5, iD 0)] [.c gb [isD (.map (s.M.map Prod.fst)), isD (.slice s.n.A (Acc.nm l).length s.n.c), isD (.map (s.M.map Prod.snd))], .r s.n.F (yb 9 1 Zb s.n.A s.n.c (Acc.nm l)), .r s.F1 (zX (s.M.map Prod.fst) yq (Acc.nm l) (acD l)), .r s.F2 (zX (s.M.map Prod.snd) yn (Acc.seats l) (seD l)), .c g3 [yt e.acc, iD e.rnd, iD e.ser, bD e.box, bD e.tag]]) (⟨⟨_, rfl, ⟨lq rfl, ⟨lq rfl, ⟨⟨_, rfl, zC (by rw [pre2_ok hok])⟩, trivial⟩⟩⟩⟩, [0, 1, 2, 3, 4], by decide, (sX rfl)⟩) (zb (za rfl (zd rfl) (za rfl (yd rfl rfl) (zg (zc (zE rfl d9 (zu (zc (zh (zb (za rfl (zd rfl) (za rfl (zG 4 5 rfl rfl k9 rfl zp) (zk (zB [0, 1, 2, 3] (con_authE gb s l e hf hok) rfl ⟨zf _, zf _, trivial⟩ d9 (sX rfl) (fun _ h => h) rfl) ?_)))))))))))))
  rintro _ ⟨⟨⟩, rfl⟩
  refine za rfl (ze rfl) (zg (zc (zS (fn := Tryz.f69) (()) [1, 2, 3, 4] (fun _ _ h => h) (Rs.le (Rs.one rfl (zo rfl)) ?_) d9 (sX rfl))))
  exact zC (by unfold Env.autE; rw [if_pos hok])
 ·skip
  refine zO (σ' := zR [(0, pA gb), (3, pA g3), (5, iD 2)] [.c gb [isD (.map (s.M.map Prod.fst)), isD (.slice s.n.A (Acc.nm l).length s.n.c), isD (.map (s.M.map Prod.snd))], .r s.n.F (yb 9 1 Zb s.n.A s.n.c (Acc.nm l)), .r s.F1 (zX (s.M.map Prod.fst) yq (Acc.nm l) (acD l)), .r s.F2 (zX (s.M.map Prod.snd) yn (Acc.seats l) (seD l)), .c g3 [yt e.acc, iD e.rnd, iD e.ser, bD e.box, bD e.tag]]) (⟨⟨_, rfl, ⟨lq rfl, ⟨lq rfl, ⟨⟨_, rfl, zC (by rw [pre2_no hok d9])⟩, trivial⟩⟩⟩⟩, [0, 1, 2, 3, 4], by decide, (sX rfl)⟩) (zb (za rfl (zd rfl) (za rfl (yd rfl rfl) (zg (zc (yf rfl d9 (zh (zb (za rfl (zd rfl) (za rfl (ze rfl) (zg (zc (zS (fn := Tryz.f69) (()) [0, 1, 2, 3] (fun _ _ h => h) (Rs.le (Rs.one rfl (zo rfl)) ?_) d9 (sX rfl))))))))))))))
  exact zC (by unfold Env.autE; rw [if_neg hok])
theorem con_openE (gb : Nat) (s : Bst) (l : List Acc.T) (e : Env.T) (hf : Acc.Fine l) (key : List UInt8) : ConR Tryz.prog 105 [.c gb [isD (.map (s.M.map Prod.fst)), isD (.slice s.n.A (Acc.nm l).length s.n.c), isD (.map (s.M.map Prod.snd))], .r s.n.F (yb 9 1 Zb s.n.A s.n.c (Acc.nm l)), .r s.F1 (zX (s.M.map Prod.fst) yq (Acc.nm l) (acD l)), .r s.F2 (zX (s.M.map Prod.snd) yn (Acc.seats l) (seD l))] [pA gb, yX [yt e.acc, iD e.rnd, iD e.ser, bD e.box, bD e.tag], bD key] (fun _ : Unit => [.c gb [isD (.map (s.M.map Prod.fst)), isD (.slice s.n.A (Acc.nm l).length s.n.c), isD (.map (s.M.map Prod.snd))], .r s.n.F (yb 9 1 Zb s.n.A s.n.c (Acc.nm l)), .r s.F1 (zX (s.M.map Prod.fst) yq (Acc.nm l) (acD l)), .r s.F2 (zX (s.M.map Prod.snd) yn (Acc.seats l) (seD l))]) (fun _ : Unit => Yq [bD (Env.opB l e key), iD (Env.opE l e key)]) := by
 refine zY Tryz.func105 k9 rfl k9 fun base w0 => (zh (zb (zk (S := []) (yF rfl rfl) ?_)))
 rintro _ ⟨g4, rfl⟩
 refine za rfl (ze rfl) (za rfl (ze rfl) (zg (zc (zh (yj [] (.r 0 (.r 1 (.r 3 (.r 4 (.r 5 (.r 7 (.n 2 (.n 6 (.n 8 (.n 9 (.n 10 (.n 11 (.r 12 .fin) .no) .no) .no) .no) .no) .no))))))) k9 k9 (fun d _ _ _ _ h => by cases d <;> exact h) (zj rfl rfl (zd rfl) (zj rfl rfl (Rd.neP rfl rfl k9) (zj rfl rfl (zd rfl) (zj rfl rfl (Rd.len (e := 5) rfl k9) (zj rfl rfl (yP rfl rfl) (zj rfl rfl (zG 4 5 rfl rfl k9 rfl zp) (yi rfl (zA [] (Ze true 1) rfl ⟨(zr (zf _)), (zr (zf _)), trivial⟩ rfl) ?_ zI))))))))))))
 rintro _ rfl
 refine yi rfl (zA [] (Ze (decide (((cellsOf key).length : Int) = 32)) 2) rfl ⟨(zr (zf _)), (zr (zf _)), trivial⟩ rfl) ?_ zI
 rintro _ rfl
 refine yi rfl (zA [] (con_validE e.acc e.rnd e.ser e.box.length e.tag.length) rfl ⟨(zr (Zz ⟨zf _, zf _, zf _, le_b_len, le_b_len, trivial⟩)), trivial⟩ rfl) ?_ zI
 rintro _ rfl
 refine yi rfl (zA [] (Ze (okD e) 2) rfl ⟨(zr (zf _)), (zr (zf _)), trivial⟩ rfl) ?_ zI
 rintro _ rfl
 refine yi rfl (Zl rfl rfl (blsI3 (unE true 1) (unE (decide (((cellsOf key).length : Int) = 32)) 2) (unE (okD e) 2)) rfl) ?_ zI
 rintro _ rfl
 refine yi rfl (zA [] (con_first [unE true 1, unE (decide (((cellsOf key).length : Int) = 32)) 2, unE (okD e) 2] s9) rfl ⟨(zr (zf _)), trivial⟩ rfl) ?_ zI
 rintro _ rfl
 refine zj rfl rfl (ze rfl) (zV (zc (zh (zh ?_))))
 by_cases hok : key.length = 32 ∧ Env.ok e
 ·skip
  refine zO (σ' := zR [(0, pA gb), (2, bD key), (4, pA g4), (8, iD 0)] [.c gb [isD (.map (s.M.map Prod.fst)), isD (.slice s.n.A (Acc.nm l).length s.n.c), isD (.map (s.M.map Prod.snd))], .r s.n.F (yb 9 1 Zb s.n.A s.n.c (Acc.nm l)), .r s.F1 (zX (s.M.map Prod.fst) yq (Acc.nm l) (acD l)), .r s.F2 (zX (s.M.map Prod.snd) yn (Acc.seats l) (seD l)), .c g4 [yt e.acc, iD e.rnd, iD e.ser, bD e.box, bD e.tag]]) (⟨⟨_, rfl, ⟨lq rfl, ⟨lq rfl, ⟨lq rfl, ⟨⟨_, rfl, zC (by rw [pre3_ok hok])⟩, trivial⟩⟩⟩⟩⟩, [0, 1, 2, 3, 4], by decide, (sX rfl)⟩) (zb (za rfl (zd rfl) (za rfl (yd rfl rfl) (zg (zc (zE rfl d9 (zu (zc (zh (zh (zb (za rfl (zd rfl) (za rfl (zG 4 5 rfl rfl k9 rfl zp) (zk (zB [0, 1, 2, 3] (con_authE gb s l e hf hok.2) rfl ⟨zf _, zf _, trivial⟩ d9 (sX rfl) (fun _ h => h) rfl) ?_))))))))))))))
  rintro _ ⟨⟨⟩, rfl⟩
  refine za rfl (ze rfl) (zg (zc (zh (zb (za rfl (zd rfl) (za rfl (yd rfl rfl) (zg (zc (zJ rfl (fun hb30 => ?_) (fun hb30 => ?_))))))))))
  ·have h30 : Zh l e.acc (Env.sgnT e) e.tag ≠ 0 := by simpa using hb30
   refine zh (zb (za rfl (zd rfl) (za rfl (ze rfl) (za rfl (ze rfl) (zg (zc (zS (fn := Tryz.f105) (()) [1, 2, 3, 4] (fun _ _ h => h) (Rs.le (Rs.two rfl (zo rfl) (zo rfl)) ?_) d9 (sX rfl))))))))
   exact yJ ⟨by rw [(op_aut (l := l) hok h30).2]; exact Zy, zC (by rw [(op_aut (l := l) hok h30).1]), trivial⟩
  ·have h30 : ¬ Zh l e.acc (Env.sgnT e) e.tag ≠ 0 := by simpa using hb30
   refine zu (zc (zh (zb (za rfl (zd rfl) (za rfl (zi (n := 0) rfl k9) (za rfl (zl 0 rfl rfl rfl k9 zp) (zk (S := []) (yo (con_deriveE key e.acc hok.1 (Env.ok_len hok.2).1) rfl ⟨zf _, zf _, trivial⟩ rfl) ?_)))))))
   rintro _ rfl
   refine za rfl (zd rfl) (za rfl (zq rfl rfl) (za rfl (zq rfl rfl) (za rfl (ze rfl) (za rfl (ze rfl) (zg (zc (zh (zh (zb (za rfl (zd rfl) (za rfl (yd rfl rfl) (zg (zc (zE rfl d9 (zu (zc (zh (zb (za rfl (zd rfl) (za rfl (zi (n := 3) rfl k9) (za rfl (zl 0 rfl rfl rfl k9 zp) (zk (S := []) (yo (con_openB (Env.keyB key e.acc) e.box (by simp [Env.keyB])) rfl ⟨zf _, zf _, trivial⟩ rfl) ?_))))))))))))))))))))))
   rintro _ rfl
   refine za rfl (zd rfl) (za rfl (zq rfl rfl) (za rfl (zq rfl rfl) (za rfl (ze rfl) (za rfl (ze rfl) (zg (zc (zh (zh (zb (za rfl (zd rfl) (za rfl (yd rfl rfl) (zg (zc (zJ rfl (fun hb50 => ?_) (fun hb50 => ?_)))))))))))))))
   ·have h50 : (Sl.openB (Env.keyB key e.acc) e.box).2 ≠ 0 := by simpa using hb50
    refine zh (zb (za rfl (ze rfl) (za rfl (ze rfl) (zg (zc (zS (fn := Tryz.f105) (()) [1, 2, 3, 4] (fun _ _ h => h) (Rs.le (Rs.two rfl (zo rfl) (zo rfl)) ?_) d9 (sX rfl)))))))
    exact yJ ⟨by rw [(op_bad (l := l) hok h30 h50).2]; exact Zy, zC (by rw [(op_bad (l := l) hok h30 h50).1]), trivial⟩
   ·have h50 : ¬ (Sl.openB (Env.keyB key e.acc) e.box).2 ≠ 0 := by simpa using hb50
    refine zu (zc (zh (zb (za rfl (zd rfl) (za rfl (ze rfl) (za rfl (ze rfl) (zg (zc (zS (fn := Tryz.f105) (()) [1, 2, 3, 4] (fun _ _ h => h) (Rs.le (Rs.two rfl (zo rfl) (zo rfl)) ?_) d9 (sX rfl))))))))))
    exact yJ ⟨by rw [(op_ok (l := l) hok h30 h50).2]; exact zf _, zC (by rw [(op_ok (l := l) hok h30 h50).1]), trivial⟩
 ·skip
  refine zO (σ' := zR [(0, pA gb), (2, bD key), (4, pA g4), (8, iD 2)] [.c gb [isD (.map (s.M.map Prod.fst)), isD (.slice s.n.A (Acc.nm l).length s.n.c), isD (.map (s.M.map Prod.snd))], .r s.n.F (yb 9 1 Zb s.n.A s.n.c (Acc.nm l)), .r s.F1 (zX (s.M.map Prod.fst) yq (Acc.nm l) (acD l)), .r s.F2 (zX (s.M.map Prod.snd) yn (Acc.seats l) (seD l)), .c g4 [yt e.acc, iD e.rnd, iD e.ser, bD e.box, bD e.tag]]) (⟨⟨_, rfl, ⟨lq rfl, ⟨lq rfl, ⟨lq rfl, ⟨⟨_, rfl, zC (by rw [pre3_no hok])⟩, trivial⟩⟩⟩⟩⟩, [0, 1, 2, 3, 4], by decide, (sX rfl)⟩) (zb (za rfl (zd rfl) (za rfl (yd rfl rfl) (zg (zc (yf rfl d9 (zh (zb (za rfl (zd rfl) (za rfl (ze rfl) (za rfl (ze rfl) (zg (zc (zS (fn := Tryz.f105) (()) [0, 1, 2, 3] (fun _ _ h => h) (Rs.le (Rs.two rfl (zo rfl) (zo rfl)) ?_) d9 (sX rfl)))))))))))))))
  exact yJ ⟨by rw [(op_no (l := l) hok).2]; exact Zy, zC (by rw [(op_no (l := l) hok).1]), trivial⟩
theorem con_encodeE (e : Env.T) : Con Tryz.prog 72 [yX [yt e.acc, iD e.rnd, iD e.ser, bD e.box, bD e.tag]] (Yq [bD (Env.encQ e), iD (Env.encE e)]) := by
 refine con_of Tryz.func72 k9 rfl k9 fun base w0 => (zh (zb (zk (S := []) (yF rfl rfl) ?_)))
 rintro _ ⟨g1, rfl⟩
 refine za rfl (ze rfl) (za rfl (ze rfl) (zg (zc (zh (zh (zb (za rfl (zG 0 5 rfl rfl k9 rfl zp) (zk (S := []) (zA [] (con_validE e.acc e.rnd e.ser e.box.length e.tag.length) rfl ⟨(zr (Zz ⟨zf _, zf _, zf _, le_b_len, le_b_len, trivial⟩)), trivial⟩ rfl) ?_))))))))
 rintro _ rfl
 refine za rfl (yU rfl) (zg (zc (zJ rfl (fun hb7 => ?_) (fun hb7 => ?_))))
 ·have h7 : ¬ Env.ok e := by (intro h; rw [show decide (Env.okV e.acc e.rnd e.ser e.box.length e.tag.length) = true from okD_t h] at hb7; cases hb7)
  refine zh (zb (za rfl (ze rfl) (za rfl (ze rfl) (zg (zc (zH (fn := Tryz.f72) (fun _ _ h => h) (Rs.le (Rs.two rfl (zo rfl) (zo rfl)) ?_)))))))
  exact yJ ⟨by rw [Env.encQ, if_neg h7]; exact Zy, zC (by rw [Env.encE, if_neg h7]), trivial⟩
 ·have h7 : Env.ok e := by (by_cases h : Env.ok e; exact h; rw [show decide (Env.okV e.acc e.rnd e.ser e.box.length e.tag.length) = false from okD_f h] at hb7; cases hb7)
  refine zu (zc (zh (zb (zk (S := []) (zQ (zs := [.int .i64 0, .slice none 0 0]) k9 rfl) ?_))))
  rintro _ ⟨g4, rfl⟩
  refine zg (zc (zh (SW.vecN 5 1 Z2 ?_)))
  obtain ⟨k1, k2, k3, k4, k5, k6, k7, k8⟩ := Env.ok_len h7
  have hsl := Env.sgnT_len h7
  refine zO (σ' := zR [(1, pA g1), (4, pA g4)] [.c g1 [yt e.acc, iD e.rnd, iD e.ser, bD e.box, bD e.tag], .c g4 [iD 0, isD (.slice (⟨none, 0, []⟩ : Ust).A (([] : List UInt8)).length (⟨none, 0, []⟩ : Ust).c)], .r (⟨none, 0, []⟩ : Ust).F (yb 5 1 Z2 (⟨none, 0, []⟩ : Ust).A (⟨none, 0, []⟩ : Ust).c (([] : List UInt8)))]) (sB [0, 1, 2] rfl rfl) (zb (za rfl (zG 0 5 rfl rfl k9 rfl zp) (zk (zB [1, 2] (con_writeE g4 (⟨none, 0, []⟩ : Ust) [] e o9 ⟨k2, k3⟩ ⟨k4, k5⟩ o9 d9) rfl ⟨zf _, zf _, trivial⟩ d9 (sX rfl) (fun _ h => h) rfl) ?_)))
  rintro _ ⟨s9, rfl⟩
  refine zg (zc (zh (zb (za rfl (zi (n := 4) rfl k9) (za rfl (zl 0 rfl rfl rfl k9 zp) (zk (zB [1, 2] (con_wBytes g4 s9 ([] ++ Env.sgnT e) e.tag (by simp only [List.nil_append]; omega)) rfl ⟨zf _, zf _, trivial⟩ d9 (sX rfl) (fun _ h => h) rfl) ?_))))))
  rintro _ ⟨s12, rfl⟩
  refine zg (zc (zh (zb (zk (zB [1, 2] (con_wEnd g4 s12 ([] ++ Env.sgnT e ++ strE e.tag) (by have := strE_len (b := e.tag) o9; simp only [List.nil_append, List.length_append]; omega)) rfl ⟨zf _, trivial⟩ d9 (sX rfl) (fun _ h => h) rfl) ?_))))
  rintro _ ⟨⟨⟩, rfl⟩
  refine za rfl (zq rfl rfl) (za rfl (zq rfl rfl) (za rfl (ze rfl) (za rfl (ze rfl) (zg (zc (zH (fn := Tryz.f72) (fun _ _ h => h) (Rs.le (Rs.two rfl (zo rfl) (zo rfl)) ?_)))))))
  exact yJ ⟨by rw [Env.encQ, if_pos h7]; exact zf _, zC (by rw [Env.encE, if_pos h7]), trivial⟩
end Sx
end Go.Proofs.YtgokpcnabgacnaaGreatDoor
