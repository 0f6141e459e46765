/- THE WALKS of number's divNat, DivMod, GCD. THE WALKS of the reference's Form. THE WALK of the reference's Read; Parse and Form by what a string is. TH -/
import Derived.Test.YtmflnfnebmbjkaaGreatGZAU
import Derived.Lib.SmallJoins
set_option maxHeartbeats 8000000
set_option maxRecDepth 100000
namespace Go.Proofs.YtmflnfnebmbjkaaGreat
open Go.RowKit
open Nm (W32)
namespace Sx
theorem aw_nil {A : Option Addr} {n : Nat} : Aw [] A n := fun _ _ _ hm => by simp at hm
theorem zaA {w : World} {A : Option Addr} {n c X : Nat} (h : NatS w A n c X) (hX : X < W32 ^ 100) : n ≤ 100 := by rw [h.n_eq]; exact (Nm.len_le (B := W32) d9 100 X).2 hX
theorem Wl {X : Nat} (hX : X < zJ) : Con Tryz.prog 105 [bytD X] (YT X) := by
  refine ⟨enters_of Tryz.func105 k9 rfl, fun L w vs hL _ ha => ?_⟩
  obtain ⟨u, rfl, hu⟩ := W8 ha
  obtain ⟨A, n, c, rfl, h1, -⟩ := byt_out hu
  have hn : n ≤ 64 := by rw [h1.n_eq]; exact (Nm.len_le (B := 256) d9 64 X).2 hX
  refine (VZ w A n c X o9 h1).mono ?_
  rintro r w' ⟨A', n', c', rfl, hN, hO, hf⟩
  exact ⟨_, rfl, VY hN (Zd hf hL), hO⟩
theorem con_build {X : Nat} (neg : Bool) (hX : X < W32 ^ 100) : Con Tryz.prog 103 [yG neg, YT X] (Zu [Zj (Yz (sgn neg X)), yU (ZR (sgn neg X))]) := by
  refine ⟨enters_of Tryz.func103 k9 rfl, fun L w vs hL _ ha => ?_⟩
  obtain ⟨u, v, rfl, rfl, hv⟩ := VL ha
  obtain ⟨A, n, c, rfl, h1, -⟩ := YS hv
  have hn := zaA h1 hX
  refine (yq w neg A n c X o9 h1).mono ?_
  rintro r w' ⟨s', A', n', c', rfl, hI, hF, hO⟩
  exact ⟨_, rfl, ⟨[_, _], rfl, jA hI (Zd hF hL), rfl, trivial⟩, hO⟩
theorem con_cmpLt {X Y : Nat} (hY : Y < W32 ^ 100) (hXY : X < Y) : Con Tryz.prog 109 [YT X, YT Y] (yU (-1)) := by
  refine ⟨enters_of Tryz.func109 k9 rfl, fun L w vs hL _ ha => ?_⟩
  obtain ⟨u, v, rfl, hu, hv⟩ := VL ha
  obtain ⟨A, n, c, rfl, h1, -⟩ := YS hu
  obtain ⟨B, m, d, rfl, h2, -⟩ := YS hv
  have hn := zaA h1 (Nat.lt_trans hXY hY)
  have hm := zaA h2 hY
  refine (Zh w A B n c m d X Y o9 o9 h1 h2).mono ?_
  rintro r w' ⟨z, rfl, hz, hO⟩
  refine ⟨_, rfl, ?_, hO⟩
  have hz' : Cmp X Y z := hz
  show Value.int .i64 z = .int .i64 _
  rcases hz' with ⟨h, e⟩ | ⟨h, e⟩ | ⟨h, e⟩
  · rw [e]
  · omega
  · omega
theorem Wo {X d : Nat} (hX : X < W32 ^ 100) (hd : 0 < d) (hd2 : d < 4294967296) : Con Tryz.prog 130 [YT X, isD (.int .u32 (d : Int))] (Zu [YT (X / d), isD (.int .u32 ((X % d : Nat) : Int))]) := by
  refine ⟨enters_of Tryz.func130 k9 rfl, fun L w vs hL _ ha => ?_⟩
  obtain ⟨u, v, rfl, hu, rfl⟩ := VL ha
  obtain ⟨A, n, c, rfl, h1, -⟩ := YS hu
  have hn := zaA h1 hX
  refine (Wc w A n c X d o9 hd hd2 h1).mono ?_
  rintro r w' ⟨A', n', c', r, rfl, hN, hr, hO, hf⟩
  refine ⟨_, rfl, ⟨[_, _], rfl, VY hN (fun _ p hp hm => ?_), by rw [hr.out]; rfl, trivial⟩, hO⟩
  have := hf p hp
  have := hL _ hm
  omega
theorem zbn {X : Nat} (h : X = 0) : Le (isD (.slice none 0 0)) (YT X) := by
  subst h
  unfold YT
  rw [Nm.dg_zero]
  exact qX
theorem le_nat {X Y : Nat} (h : X = Y) : Le (YT X) (YT Y) := by subst h; exact zc _
theorem le_pad32 {d : Nat} (h2 : d < 4294967296) : Le (slD [.int .u32 (d : Int)]) (slD (cN .u32 (Nm.pad W32 1 d))) := by
  have : Nm.pad W32 1 d = [d] := by simp [Nm.pad, Nat.mod_eq_of_lt (show d < W32 from h2)]
  rw [this]
  exact zc _
theorem zat {X : Nat} : (0 < ((cN .u32 (Nm.dg W32 X)).length : Int)) ↔ X ≠ 0 := by
  rw [ya, Nm.dg_length]
  have := Nm.len_eq_zero (B := W32) (x := X) d9
  omega
theorem natl_len (X : Nat) : (cN .u32 (Nm.dg W32 X)).length = Nm.len W32 X := by rw [ya, Nm.dg_length]
theorem con_divLt {X Y : Nat} (hY : Y < W32 ^ 100) (h : X < Y) : Con Tryz.prog 106 [YT X, YT Y] (Zu [YT (X / Y), YT (X % Y)]) := by
  refine z6 Tryz.func106 k9 rfl k9 fun base w0 => ?_
  refine zi ?_
  refine zk ?_
  refine za rfl (Wy rfl) ?_
  refine za rfl (Wy rfl) ?_
  refine zC ?_
  refine zh ?_
  refine zi ?_
  refine zi ?_
  refine zk ?_
  refine za rfl (zA rfl) ?_
  refine za rfl (zA rfl) ?_
  refine YN (S := []) (zp (con_cmpLt hY h) rfl ⟨zc _, zc _, trivial⟩ rfl) ?_
  rintro _ rfl
  refine za rfl (yb rfl rfl) ?_
  refine zC ?_
  refine zh ?_
  refine yg rfl d9 ?_
  refine zi ?_
  refine zk ?_
  refine za rfl (zA rfl) ?_
  refine za rfl (Wy rfl) ?_
  refine za rfl (Wy rfl) ?_
  refine zC ?_
  refine zh ?_
  refine zF (fn := Tryz.f106) (fun _ _ h => h) (Rs.le (Rs.two rfl (zq rfl) (zq rfl)) ?_)
  exact y7 ⟨zbn (Nat.div_eq_of_lt h), le_nat (Nat.mod_eq_of_lt h).symm, trivial⟩
theorem zbE {X Y : Nat} (hX : X < W32 ^ 100) (h0 : 0 < Y) (hY : Y < 4294967296) (h : Y ≤ X) : Con Tryz.prog 106 [YT X, YT Y] (Zu [YT (X / Y), YT (X % Y)]) := by
  have hl := natl_len Y
  have hl1 : Nm.len W32 Y = 1 := by have h1 := (Nm.len_le (B := W32) d9 1 Y).2 (by simpa using hY); have h2 := Nm.len_eq_zero (B := W32) (x := Y) d9; omega
  have hr : X % Y < 4294967296 := Nat.lt_trans (Nat.mod_lt _ h0) hY
  refine z6 Tryz.func106 k9 rfl k9 fun base w0 => ?_
  refine zi ?_
  refine zk ?_
  refine za rfl (Wy rfl) ?_
  refine za rfl (Wy rfl) ?_
  refine zC ?_
  refine zh ?_
  refine zi ?_
  refine zi ?_
  refine zk ?_
  refine za rfl (zA rfl) ?_
  refine za rfl (zA rfl) ?_
  refine YN (S := []) (zp (Wp hX h) rfl ⟨zc _, zc _, trivial⟩ rfl) ?_
  rintro _ rfl
  refine za rfl (yb rfl rfl) ?_
  refine zC ?_
  refine zh ?_
  refine zH rfl (decide_eq_false (by split <;> omega)) ?_
  refine zv ?_
  refine zh ?_
  refine zi ?_
  refine zi ?_
  refine zk ?_
  refine za rfl (zA rfl) ?_
  refine za rfl (Rd.len (e := 142) rfl k9) ?_
  refine za rfl (yL rfl rfl) ?_
  refine zC ?_
  refine zh ?_
  refine yg rfl (decide_eq_true o9) ?_
  refine zi ?_
  refine zk ?_
  refine za rfl (zA rfl) ?_
  refine za rfl (zA rfl) ?_
  refine za rfl (qc (e := 142) rfl rfl k9 k9 d9 (WO (j := 0) rfl o9)) ?_
  refine za rfl (Rd.le (ZO rfl k9 s9) (V2 (b := (Y : Int)) (by rw [Nat.pow_zero, Nat.div_one, Nat.mod_eq_of_lt (show Y < W32 from hY)]))) ?_
  refine YN (S := []) (zp (Wo hX h0 hY) rfl ⟨zc _, zc _, trivial⟩ rfl) ?_
  rintro _ rfl
  refine za rfl (zA rfl) ?_
  refine za rfl (zg rfl rfl) ?_
  refine za rfl (zg rfl rfl) ?_
  refine za rfl (Wy rfl) ?_
  refine za rfl (Wy rfl) ?_
  refine zC ?_
  refine zh ?_
  refine zi ?_
  refine zk ?_
  refine za rfl (zA rfl) ?_
  refine za rfl (zA rfl) ?_
  refine YN (S := []) (zad (e := 142) rfl rfl k9 k9 rfl) ?_
  rintro _ rfl
  refine YN (S := []) (zp (Kd (n := 1) rfl d9 (by simpa using hr)) rfl ⟨le_pad32 hr, trivial⟩ rfl) ?_
  rintro _ rfl
  refine za rfl (Wy rfl) ?_
  refine za rfl (Wy rfl) ?_
  refine zC ?_
  refine zh ?_
  refine zF (fn := Tryz.f106) (fun _ _ h => h) (Rs.two rfl (zq rfl) (zq rfl))
theorem KY {X Y : Nat} (hX : X < W32 ^ 100) (hY : Y < W32 ^ 100) (h0 : 0 < Y) : Con Tryz.prog 106 [YT X, YT Y] (Zu [YT (X / Y), YT (X % Y)]) := by
  by_cases h : X < Y
  · exact con_divLt hY h
  · have hpos : Nm.len W32 Y ≠ 0 := fun e => by have := (Nm.len_eq_zero (B := W32) d9).1 e; omega
    by_cases h1 : Nm.len W32 Y = 1
    · exact zbE hX h0 (by have := (Nm.len_le (B := W32) d9 1 Y).1 o9; simpa using this) o9
    · exact zbF (m := Nm.len W32 Y - 2) hX o9 o9
theorem qT {X : Nat} (h : X < zJ) : X < W32 ^ 100 := by
  have e : zJ = W32 ^ 16 := by unfold zJ; decide +kernel
  rw [e] at h
  exact Nat.lt_of_lt_of_le h (Nat.pow_le_pow_right d9 d9)
theorem Z0 {x y : Int} (hx : x.natAbs < zJ) (hy : y.natAbs < zJ) (h0 : y ≠ 0) : Con Tryz.prog 64 [Zj x, Zj y] (Zu [Zj (dq x y), Zj (dr x y), yU 0]) :=
  zbD (enters_of Tryz.func64 k9 rfl) fun w s t A B n c m d h1 h2 => zbs w s t A B n c m d x y hx hy h0 h1 h2 fun w' A' B' n' c' m' d' h3 h4 => by
    refine ((KY (qT hx) (qT hy) o9).go [] w' [.slice A' n' c', .slice B' m' d'] s9 trivial ⟨VY h3 aw_nil, VY h4 aw_nil, trivial⟩).mono ?_
    rintro e w2 ⟨v, rfl, ⟨cs, rfl, ha⟩, hO⟩
    obtain ⟨u, v, rfl, hu, hv⟩ := VL ha
    obtain ⟨A2, n2, c2, rfl, k1, -⟩ := YS hu
    obtain ⟨B2, m2, d2, rfl, k2, -⟩ := YS hv
    exact ⟨A2, n2, c2, B2, m2, d2, rfl, k1, k2, hO⟩
def V8 (x y : Int) : Int := ((Nat.gcd x.natAbs y.natAbs : Nat) : Int)
theorem zaE {X Y G : Nat} (h : Nat.gcd X Y = G) : Nat.gcd Y (X % Y) = G := by
  rw [← h, Nat.gcd_comm Y, ← Nat.gcd_rec, Nat.gcd_comm]
theorem con_gcd {x y : Int} (hx : x.natAbs < zJ) (hy : y.natAbs < zJ) : Con Tryz.prog 101 [Zj x, Zj y] (Zu [Zj (V8 x y), yU 0]) := by
  refine z6 Tryz.func101 k9 rfl k9 fun base w0 => ?_
  refine zi ?_
  refine zk ?_
  refine YN (S := []) (yj rfl rfl) ?_
  rintro _ ⟨g2, rfl⟩
  refine YN (S := []) (yj rfl rfl) ?_
  rintro _ ⟨g3, rfl⟩
  refine YN (S := []) (Ef.alloc (zs := [.bool false, .slice none 0 0]) k9 rfl) ?_
  rintro _ ⟨g4, rfl⟩
  refine za rfl (Wy rfl) ?_
  refine zC ?_
  refine zh ?_
  refine zi ?_
  refine zi ?_
  refine zk ?_
  refine za rfl (zu 0 2 rfl rfl k9 rfl zm) ?_
  refine YN (S := []) (zp (Kc (by assumption)) rfl ⟨zc _, trivial⟩ rfl) ?_
  rintro _ rfl
  refine za rfl (yF rfl) ?_
  refine za rfl (zA rfl) ?_
  refine YI rfl rfl (rfl) rfl rfl (zu 1 2 rfl rfl k9 rfl zm) ?_
  refine Zp (S := []) rfl rfl (rfl) rfl (zp (Kc (by assumption)) rfl ⟨zc _, trivial⟩ rfl) ?_
  rintro _ rfl
  refine YI rfl rfl (rfl) rfl rfl (yF rfl) ?_
  refine za rfl (zI rfl (rfl) rfl) ?_
  refine zC ?_
  refine zh ?_
  refine zH rfl (rfl) ?_
  refine zv ?_
  refine zh ?_
  refine zi ?_
  refine yf [] (.r 0 (.r 1 (.r 3 (.r 4 (.n 2 (.n 5 (.r 6 (.r 7 .fin)) .no) .no))))) k9 k9 (fun d _ _ _ _ h => by cases d <;> exact h) ?_
  refine zl rfl rfl (zj (n := 1) rfl k9) ?_
  refine zl rfl rfl (zy 0 rfl rfl rfl k9 zm) ?_
  refine zl rfl rfl (zj (n := 1) rfl k9) ?_
  refine zl rfl rfl (zy 1 rfl rfl rfl k9 zm) ?_
  refine Ym rfl (zp (Wl hx) rfl ⟨zc _, trivial⟩ rfl) ?_ y4
  rintro _ rfl
  refine Ym rfl (zp (Wl hy) rfl ⟨zc _, trivial⟩ rfl) ?_ y4
  rintro _ rfl
  refine zl rfl rfl (Wy rfl) ?_
  refine zl rfl rfl (Wy rfl) ?_
  refine y5 ?_
  refine zh ?_
  refine zi ?_
  refine SW.block ?_
  refine z8 (ι := {p : Nat × Nat // p.1 < zJ ∧ p.2 < zJ ∧ Nat.gcd p.1 p.2 = Nat.gcd x.natAbs y.natAbs}) (fun ⟨⟨X, Y⟩, hX, hY, hG⟩ => St.of [(4, pA g4), (6, YT X), (7, YT Y)] [(g4, [isD (.bool false), isD (.slice none 0 0)])]) (fun ⟨⟨X, Y⟩, hX, hY, hG⟩ => Y) (⟨(x.natAbs, y.natAbs), hx, hy, rfl⟩) ?_ ?_
  · exact (sB [2] rfl rfl)
  · rintro ⟨⟨X, Y⟩, hX, hY, hG⟩ K0 hK0
    simp only at hX hY hG
    refine zi ?_
    refine zi ?_
    refine zk ?_
    refine za rfl (zA rfl) ?_
    refine za rfl (Rd.len (e := 142) rfl k9) ?_
    refine za rfl (y6 rfl rfl) ?_
    refine zC ?_
    refine zh ?_
    refine zD rfl (fun hb27 => ?_) (fun hb27 => ?_)
    · have h0 : 0 < Y := Nat.pos_of_ne_zero (zat.1 (oT hb27))
      refine zv ?_
      refine zh ?_
      refine SW.block ?_
      refine zi ?_
      refine zk ?_
      refine za rfl (zA rfl) ?_
      refine za rfl (zA rfl) ?_
      refine YN (S := []) (zp (KY (qT hX) (qT hY) h0) rfl ⟨zc _, zc _, trivial⟩ rfl) ?_
      rintro _ rfl
      refine za rfl (zA rfl) ?_
      refine za rfl (zg rfl rfl) ?_
      refine za rfl (zg rfl rfl) ?_
      refine za rfl (Wy rfl) ?_
      refine za rfl (Wy rfl) ?_
      refine zC ?_
      refine zh ?_
      refine zk ?_
      refine za rfl (zA rfl) ?_
      refine za rfl (zA rfl) ?_
      refine za rfl (Wy rfl) ?_
      refine za rfl (Wy rfl) ?_
      refine zC ?_
      refine SN.block ?_
      exact fun a w hh => hK0 (⟨(Y, X % Y), hY, Nat.lt_trans (Nat.mod_lt _ h0) hY, zaE hG⟩) (Nat.mod_lt _ h0) a w (hh.sub (sB [0] rfl rfl))
    · obtain rfl : Y = 0 := Classical.byContradiction fun h => oF hb27 (zat.2 h)
      refine zR ?_
      repeat (first | refine zV ?_ | refine zW d9 ?_)
      refine zX ?_
      refine zh ?_
      refine zi ?_
      refine zk ?_
      refine za rfl (zA rfl) ?_
      refine YN (S := []) (zp (con_build false (qT hX)) rfl ⟨zc _, zc _, trivial⟩ rfl) ?_
      rintro _ rfl
      refine za rfl (zg rfl rfl) ?_
      refine za rfl (zg rfl rfl) ?_
      refine YN (S := [_]) (zw 0 rfl rfl rfl k9 rfl (m9 rfl)) ?_
      rintro _ rfl
      refine za rfl (Wy rfl) ?_
      refine zC ?_
      refine zh ?_
      refine zF (fn := Tryz.f101) (fun _ _ h => h) (Rs.le (Rs.two rfl (zT 0 rfl rfl k9) (zq rfl)) ?_)
      rw [Nat.gcd_zero_right] at hG
      have hl := yu (z := (X : Int)) hX
      exact y7 ⟨YM (by show Yz (X : Int) = _; rw [hl.1, hG]; rfl), yM hl.2, trivial⟩
end Sx
namespace Sx
end Sx
namespace Sx
theorem b2_ten:10 < b2:=by
 unfold b2;exact Ju (show 10 < 256 ^ 1 by decide) (Nat.pow_le_pow_right d9 d9)
end Sx
namespace Sx
theorem bit_and:∀ b:Fin 256,bits .and .u8 ((b.val:Nat):Int) 1=((b.val % 2:Nat):Int):=by decide +kernel
theorem and1 {b:Nat} {p q:Int} (hp:p=(b:Int)) (hq:q=1) (h:b < 256):bits .and .u8 p q=((b % 2:Nat):Int):=by
 subst hp hq;exact bit_and ⟨b,h⟩
theorem bit_or:∀ (b:Fin 256) (s:Fin 8),bits .or .u8 ((b.val:Nat):Int) ((2 ^ s.val:Nat):Int)=((b.val ||| 2 ^ s.val:Nat):Int):=by decide +kernel
theorem or8 {b s:Nat} {p q:Int} (hp:p=(b:Int)) (hq:q=((2 ^ s:Nat):Int)) (h:b < 256) (hs:s < 8):bits .or .u8 p q=((b ||| 2 ^ s:Nat):Int):=by
 subst hp hq;exact bit_or ⟨b,h⟩ ⟨s,hs⟩
theorem shl8 {s:Nat} (hs:s < 8):IntKind.u8.wrap (1 * 2 ^ (min s IntKind.u8.bits))=((2 ^ s:Nat):Int):=by
 have:∀ s:Fin 8,IntKind.u8.wrap (1 * 2 ^ (min s.val IntKind.u8.bits))=((2 ^ s.val:Nat):Int):=by decide +kernel
 exact this ⟨s,hs⟩
theorem shr8 {b s:Nat} (hs:s < 8):(b:Int) / 2 ^ (min s IntKind.u8.bits)=((b / 2 ^ s:Nat):Int):=by
 have:min s IntKind.u8.bits=s:=XA (by show s≤8;omega);rw [this];simp
theorem WD {A B j:Nat} (hB:0 < B):(2 * (A / 2 ^ (j + 1) % B) + A / 2 ^ j % 2) % B=A / 2 ^ j % B∧A / 2 ^ j / B=2 * (A / 2 ^ (j + 1) / B) + (if B≤2 * (A / 2 ^ (j + 1) % B) + A / 2 ^ j % 2 then 1 else 0):=by
 have e1:A / 2 ^ j=2 * (A / 2 ^ (j + 1)) + A / 2 ^ j % 2:=by
  rw [XI,← Nat.div_div_eq_div_mul];omega
 have hb:A / 2 ^ j % 2 < 2:=Nat.mod_lt _ d9;have hr:A / 2 ^ (j + 1) % B < B:=Nat.mod_lt _ hB;have e2:=Nat.div_add_mod (A / 2 ^ (j + 1)) B
 generalize A / 2 ^ (j + 1) / B=Q at *
 generalize A / 2 ^ (j + 1) % B=r at *
 generalize A / 2 ^ j % 2=b at *
 have e3:A / 2 ^ j=(2 * r + b) + B * (2 * Q):=by
  have:B * (2 * Q)=2 * (B * Q):=Nat.mul_left_comm _ _ _;omega
 rw [e3];refine ⟨by rw [Nat.add_mul_mod_self_left],?_⟩;rw [Nat.add_mul_div_left _ _ hB,Nat.add_comm];congr 1
 by_cases h:B≤2 * r + b
 ·rw [Jh h]
  have:2 * r + b=(2 * r + b - B) + B * 1:=by omega
  rw [this,Nat.add_mul_div_left _ _ hB,Nat.div_eq_of_lt o9]
 ·rw [Jb h];exact Nat.div_eq_of_lt o9
theorem sp_in {r B b:Nat} (h:B≤2 * r + b) (hr:r < B) (hb:b < 2):(2 * r + b) % B=2 * r + b - B:=by
 rw [Nat.mod_eq_sub_mod h,Nat.mod_eq_of_lt o9]
theorem lit1_is:Le (slD [.int .u8 1]) (qt 1):=le_lit1 (d:=1) d9 d9
theorem Wu {X B:Nat} (hB:B < b2) (h:X < 2 * B):X < b4:=by
 have:=b4_add hB hB;omega
theorem za0 (X Y:Nat) (h:decide (0≤cmpN X Y)=false):X < Y:=by
 unfold cmpN at h;simp at h
 split at h
 ·assumption
 ·split at h <;> omega
theorem own8_at {n A o j:Nat} (ho:o=j) (hj:j < n):((cN .u8<|Nm.pad 256 n A).map isD)[o]? =some (isD<|.int .u8 ((A / 256 ^ j % 256:Nat):Int)):=by
 subst ho;rw [JJ,yP (by simpa using hj),Nm.pad_getD _ _ _ _ hj]
 rfl
theorem sp_put {n X Y j:Nat} (hj:j / 8 < n) (hY:0 < Y) (h:Y≤2 * (X / 2 ^ (j + 1) % Y) + X / 2 ^ j % 2):
  (Nm.pad 256 n<|X / 2 ^ (j + 1) / Y * 2 ^ (j + 1)).set (j / 8) (X / 2 ^ (j + 1) / Y * 2 ^ (j + 1) / 256 ^ (j / 8) % 256 ||| 2 ^ (j % 8))=Nm.pad 256 n (X / 2 ^ j / Y * 2 ^ j):=by
 rw [Nm.bit_fill hj<|Nat.mul_mod_left _ _];congr 1;rw [(WD (A:=X) (j:=j) hY).2,Jh h,Nat.add_mul,Nat.one_mul,XI,Nat.mul_comm 2,Nat.mul_assoc,Nat.mul_comm 2]
theorem zak {X Y j:Nat} (hY:0 < Y) (h:¬Y≤2 * (X / 2 ^ (j + 1) % Y) + X / 2 ^ j % 2):X / 2 ^ (j + 1) / Y * 2 ^ (j + 1)=X / 2 ^ j / Y * 2 ^ j∧2 * (X / 2 ^ (j + 1) % Y) + X / 2 ^ j % 2=X / 2 ^ j % Y:=by
 have h1:=WD (A:=X) (j:=j) hY;refine ⟨?_,(Nat.mod_eq_of_lt o9).symm.trans h1.1⟩;rw [h1.2,Jb h]
 generalize X / 2 ^ (j + 1) / Y=q
 rw [XI,Nat.mul_comm (2 ^ j) 2,← Nat.mul_assoc,Nat.mul_comm q 2]
 rfl
theorem KU {X Y:Nat} (hX:X < b4) (hY:Y < b2) (h0:0 < Y):Con Tryz.prog 139 [qt X,qt Y] (Zu [qt<|X / Y,qt<|X % Y]):=by
 have hn:(cN .u8<|Nm.dg 256 X).length=Nm.len 256 X:=by rw [ya,Nm.dg_length]
 have hn1:(cN .u8<|Nm.dg 256 X).length≤1000:=by rw [hn];exact JG ((Nm.len_le (B:=256) d9 e4 _).2 hX) d9
 have hXn:X < 256 ^ (cN .u8<|Nm.dg 256 X).length:=by rw [hn];exact Nm.lt_pow_len d9 X
 have htop:X / 2 ^ ((cN .u8<|Nm.dg 256 X).length * 8)=0:=Nat.div_eq_of_lt (by rw [Nat.mul_comm,Nat.pow_mul];exact hXn);have hXd:X / Y < 256 ^ (cN .u8<|Nm.dg 256 X).length:=Nat.lt_of_le_of_lt (Nat.div_le_self _ _) hXn;have h14:1 < b4:=b24 (Nat.lt_trans d9 b2_ten);have hY4:=b24 hY;refine z6 Tryz.func139 k9 I k9 fun base w0=>(zo<|ze I<|ze I<|zL<|zb I<|za I (Rd.len (e:=5) I k9) (SWl.e2 (S:=[]) (VJ (e:=5) (z:= .int .u8 0) (n:=(cN .u8<|Nm.dg 256 X).length) 1 I I k9 k9 I I I o9 d9 I) fun g11=>(ze I<|zL<|ze I<|zd<|zi<|zo<|zb I<|za I (Rd.len (e:=5) I k9)<|za I (Rd.mul I I ⟨by omega,by omega⟩)<|za I (yl I I ⟨by omega,by omega⟩)<|ze I<|zd<|SW.block<|z8 (ι:={k:Nat // k≤(cN .u8<|Nm.dg 256 X).length * 8}) (fun ⟨k,hk⟩=>St.of [(0,qt X),(1,qt Y),(6,isD<|.slice (some ⟨g11,0,none⟩) (cN .u8<|Nm.dg 256 X).length (cN .u8<|Nm.dg 256 X).length),(7,qt<|X / 2 ^ k % Y),(8,yU<|(k:Int) - 1)] [(g11,(cN .u8<|Nm.pad 256 (cN .u8<|Nm.dg 256 X).length<|X / 2 ^ k / Y * 2 ^ k).map isD)]) (fun ⟨k,hk⟩=>k) (⟨(cN .u8<|Nm.dg 256 X).length * 8,Js _⟩) ?_ ?_)))
 ·exact ⟨⟨_,I,⟨lq I,⟨lq I,⟨lq I,⟨⟨_,I,(by rw [htop,Nat.zero_mod];exact zbp)⟩,⟨⟨_,I,yM o9⟩,t9⟩⟩⟩⟩⟩⟩,[0],by decide,⟨⟨_,rfl,yI (by rw [htop,Nat.zero_div,Nat.zero_mul,zeros8])⟩,trivial⟩⟩
 ·rintro ⟨k,hk⟩ K0 hK0;refine zi (zo<|zb I<|za I (YP I I)<|zd<|zD I (fun hb17=> ?_) (fun hb17=> ?_))
  ·obtain ⟨j,rfl⟩:∃ j,k=j + 1:=⟨k - 1,by have:=oT hb17;omega⟩;have hr:X / 2 ^ (j + 1) % Y < Y:=Nat.mod_lt _ h0;have hr4:X / 2 ^ (j + 1) % Y < b4:=Nat.lt_trans hr hY4;have hs1:=(WD (A:=X) (j:=j) h0).1;refine zv (zh<|zi<|SW.block<|zo<|zb I<|zb I<|zn (S:=[]) (zp (Kj hr4 hr4) I ⟨zc _,zc _,t9⟩ I)<|ze I<|zd<|zi<|zo<|zb I<|zb I<|za I (jr I I ⟨by omega,by omega,by omega⟩)<|za I (qc (e:=5) I I k9 k9 o9<|lit_at (j:=j / 8) o9 o9)<|za I (ZO I k9 s9)<|zb I<|za I (Rd.le (VG I I ⟨by omega,by omega⟩)<|yM (b:=((j % 8:Nat):Int)) o9)<|za I (Y0 (s:=j % 8) I I<|shr8<|Nat.mod_lt _ d9)<|za I (Rd.le (Rd.andW I I<|and1 I I<|Nat.lt_of_le_of_lt (Nat.div_le_self _ _)<|Nat.mod_lt _ d9)<|V2<|JY _<|Nm.bit_of X j)<|za I (yL I I)<|zd<|zD I (fun hb32=> ?_) (fun hb32=> ?_))
   ·have hbit:X / 2 ^ j % 2=1:=by have:=oT hb32;omega
    refine zk (zb I<|zn (S:=[]) (zad (e:=5) I I k9 k9 I)<|zn (S:=[]) (zp (Kj (Y:=1) (Wu hY o9) h14) I ⟨zc _,lit1_is,t9⟩ I)<|ze I<|zL<|zb I<|zb I<|zn (S:=[]) (zp (KX (Wu hY o9) hY4) I ⟨zc _,zc _,t9⟩ I)<|za I (YP I I)<|zd<|zD I (fun hb39=> ?_) (fun hb39=> ?_))
    ·have hge:=cmpN_ge _ _ hb39
     exact zo (zb I<|zb I<|zn (S:=[]) (zp (jj (Wu hY o9) hge) I ⟨zc _,zc _,t9⟩ I)<|ze I<|zd<|yf [g11] (rr [0,1,2,3,4,5,6]<|.q 7<|rr [8,9,10,11,12]<|.e 13 .fin .no) k9 k9 (fun d _ _ _ _ h=>by cases d <;> exact h)<|zz I I<|zz I I<|zl I I (jr I I ⟨by omega,by omega,by omega⟩)<|zz I I<|zz I I<|zl I I (jr I I ⟨by omega,by omega,by omega⟩)<|zl I I (yS (e:=5) I I k9 k9 o9 o9)<|ZT I I (ZJ 0 I I (own8_at (j:=j / 8) o9 o9) k9 zm)<|zz I I<|zl I I (Rd.le (VG I I ⟨by omega,by omega⟩)<|yM (b:=((j % 8:Nat):Int)) o9)<|zl I I (Yo (s:=j % 8) I I<|shl8<|Nat.mod_lt _ d9)<|zl I I (Va I I<|or8 I I (Nat.mod_lt _ d9)<|Nat.mod_lt _ d9)<|zl I I (yS (e:=5) I I k9 k9 o9 o9)<|yR I (Zc 0 I I I k9 (by rw [JO,ya,Nm.pad_length];omega)<|Jc (i:=0) I)<|y5<|SN.block<|zh<|zk<|zb I<|za I (yl I I ⟨by omega,by omega⟩)<|ze I<|zC (fun a w hh=>hK0 (⟨j,by omega⟩) (Nat.lt_succ_self _) a w<|hh.sub<|⟨⟨_,I,⟨lq I,⟨lq I,⟨lq I,⟨⟨_,I,V3 (by rw [← hs1,hbit,sp_in o9 hr o9];omega)⟩,⟨⟨_,I,yM o9⟩,t9⟩⟩⟩⟩⟩⟩,[0],by decide,⟨⟨_,rfl,yI<|WM o9 rfl<|sp_put o9 h0 o9⟩,trivial⟩⟩))
    ·have hge:=za0 _ _ hb39;exact zv (SN.block<|zh<|zk<|zb I<|za I (yl I I ⟨by omega,by omega⟩)<|ze I<|zC (fun a w hh=>hK0 (⟨j,by omega⟩) (Nat.lt_succ_self _) a w<|hh.sub<|⟨⟨_,I,⟨lq I,⟨lq I,⟨lq I,⟨⟨_,I,V3 (by rw [← (zak (X:=X) (Y:=Y) (j:=j) h0 o9).2];omega)⟩,⟨⟨_,I,yM o9⟩,t9⟩⟩⟩⟩⟩⟩,[0],by decide,⟨⟨_,rfl,yI (by rw [(zak (X:=X) (Y:=Y) (j:=j) h0 o9).1])⟩,trivial⟩⟩))
   ·have hbit:X / 2 ^ j % 2=0:=by have:=oF hb32;omega
    refine zv (zh<|zo<|zb I<|zb I<|zn (S:=[]) (zp (KX (Wu hY o9) hY4) I ⟨zc _,zc _,t9⟩ I)<|za I (YP I I)<|zd<|zD I (fun hb39=> ?_) (fun hb39=> ?_))
    ·have hge:=cmpN_ge _ _ hb39
     exact zo (zb I<|zb I<|zn (S:=[]) (zp (jj (Wu hY o9) hge) I ⟨zc _,zc _,t9⟩ I)<|ze I<|zd<|yf [g11] (rr [0,1,2,3,4,5,6]<|.q 7<|rr [8,9,10,11,12]<|.e 13 .fin .no) k9 k9 (fun d _ _ _ _ h=>by cases d <;> exact h)<|zz I I<|zz I I<|zl I I (jr I I ⟨by omega,by omega,by omega⟩)<|zz I I<|zz I I<|zl I I (jr I I ⟨by omega,by omega,by omega⟩)<|zl I I (yS (e:=5) I I k9 k9 o9 o9)<|ZT I I (ZJ 0 I I (own8_at (j:=j / 8) o9 o9) k9 zm)<|zz I I<|zl I I (Rd.le (VG I I ⟨by omega,by omega⟩)<|yM (b:=((j % 8:Nat):Int)) o9)<|zl I I (Yo (s:=j % 8) I I<|shl8<|Nat.mod_lt _ d9)<|zl I I (Va I I<|or8 I I (Nat.mod_lt _ d9)<|Nat.mod_lt _ d9)<|zl I I (yS (e:=5) I I k9 k9 o9 o9)<|yR I (Zc 0 I I I k9 (by rw [JO,ya,Nm.pad_length];omega)<|Jc (i:=0) I)<|y5<|SN.block<|zh<|zk<|zb I<|za I (yl I I ⟨by omega,by omega⟩)<|ze I<|zC (fun a w hh=>hK0 (⟨j,by omega⟩) (Nat.lt_succ_self _) a w<|hh.sub<|⟨⟨_,I,⟨lq I,⟨lq I,⟨lq I,⟨⟨_,I,V3 (by rw [← hs1,hbit,sp_in o9 hr o9];omega)⟩,⟨⟨_,I,yM o9⟩,t9⟩⟩⟩⟩⟩⟩,[0],by decide,⟨⟨_,rfl,yI<|WM o9 rfl<|sp_put o9 h0 o9⟩,trivial⟩⟩))
    ·have hge:=za0 _ _ hb39;exact zv (SN.block<|zh<|zk<|zb I<|za I (yl I I ⟨by omega,by omega⟩)<|ze I<|zC (fun a w hh=>hK0 (⟨j,by omega⟩) (Nat.lt_succ_self _) a w<|hh.sub<|⟨⟨_,I,⟨lq I,⟨lq I,⟨lq I,⟨⟨_,I,V3 (by rw [← (zak (X:=X) (Y:=Y) (j:=j) h0 o9).2];omega)⟩,⟨⟨_,I,yM o9⟩,t9⟩⟩⟩⟩⟩⟩,[0],by decide,⟨⟨_,rfl,yI (by rw [(zak (X:=X) (Y:=Y) (j:=j) h0 o9).1])⟩,trivial⟩⟩))
  ·obtain rfl:k=0:=by have:=oF hb17;omega
   refine zR ?_
   repeat (first | refine zV ?_ | refine zW d9 ?_)
   refine zX (zh<|zo<|zb I<|jo 56 0 (cN .u8<|Nm.pad 256 (cN .u8<|Nm.dg 256 X).length<|X / 2 ^ 0 / Y * 2 ^ 0) I I s9 (Js _) I<|zn (S:=[]) (zp (zbv (X:=X / Y) s9 o9 hXd) I ⟨zc _,t9⟩ I)<|zb I<|ze I<|ze I<|zd<|zF (fn:=Tryz.f139) (fun _ _ h=>h)<|Rs.le (Rs.two I (zq I)<|zq I) ?_);exact y7 ⟨zc _,V3 (by rw [Nat.pow_zero,Nat.div_one]),t9⟩
theorem sgn_dq {x y:Int} {b:Bool} {n:Nat} (h1:b=(decide (x < 0) != decide (y < 0))) (h2:n=dqN x y):sgn b n=dq x y:=by subst h1 h2;rfl
theorem sgn_dr {x y:Int} {b:Bool} {n:Nat} (h1:b=decide (y < 0)) (h2:n=drN x y):sgn b n=dr x y:=by subst h1 h2;rfl
theorem up_yes {x y:Int} (h1:decide (0 < ((cN .u8<|Nm.dg 256<|x.natAbs % y.natAbs).length:Int))=true) (h2:(decide (x < 0) != decide (y < 0))=true):up x y=true:=by
 have h3:x.natAbs % y.natAbs≠0:=jJ.1 (oT h1);unfold up;rw [h2,Jo o9]
 rfl
theorem up_no1 {x y:Int} (h1:decide (0 < ((cN .u8<|Nm.dg 256<|x.natAbs % y.natAbs).length:Int))=false):up x y=false:=by
 have h3:x.natAbs % y.natAbs=0:=Classical.byContradiction fun h=>oF h1 (jJ.2 h);unfold up;rw [h3];simp
theorem up_no2 {x y:Int} (h2:(decide (x < 0) != decide (y < 0))=false):up x y=false:=by
 unfold up;rw [h2]
 rfl
theorem dqN_up {x y:Int} (h:up x y=true):dqN x y=x.natAbs / y.natAbs + 1∧drN x y=y.natAbs - x.natAbs % y.natAbs:=by
 unfold dqN drN;rw [Jh h,Jh h];exact ⟨I,I⟩
theorem zaN {x y:Int} (h:up x y=false):dqN x y=x.natAbs / y.natAbs∧drN x y=x.natAbs % y.natAbs:=by
 unfold dqN drN;rw [Jb (by rw [h];decide),Jb (by rw [h];decide)];exact ⟨I,I⟩
theorem YH {x y:Int} (hx:x.natAbs < b2) (hy:y.natAbs < b2) (hy0:y≠0):Con Tryz.prog 114 [Zj x,Zj y] (Zu [Zj<|dq x y,Zj<|dr x y]):=by
 have hx4:=b24 hx;have hy4:=b24 hy
 have h0:0 < y.natAbs:=by omega
 have hq2:x.natAbs / y.natAbs < b2:=Nat.lt_of_le_of_lt (Nat.div_le_self _ _) hx;have hq4:=b24 hq2;have h12:1 < b2:=Nat.lt_trans d9 b2_ten;have hq14:=b4_add hq2 h12;have hrl:x.natAbs % y.natAbs < y.natAbs:=Nat.mod_lt _ h0;have hr4:=Nat.lt_trans hrl hy4;have hm4:y.natAbs - x.natAbs % y.natAbs < b4:=Nat.lt_of_le_of_lt (Nat.sub_le _ _) hy4;have hrle:=Nat.le_of_lt hrl
 refine z6 Tryz.func114 k9 I k9 fun base w0=>(zo (SWl.e2 (S:=[]) (yj I I) fun g2=>(SWl.e2 (S:=[]) (yj I I) fun g3=>(SWl.e2 (S:=[]) (Ef.alloc (zs:=[.bool false,.slice none 0 0]) k9 I) fun g4=>(SWl.e2 (S:=[]) (Ef.alloc (zs:=[.bool false,.slice none 0 0]) k9 I) fun g5=>(zd<|zi<|yf [] (.r 0<|.r 2<|.n 1 (.n 3 (.n 4 (rr [5,6,7,8,9] .fin) .no) .no) .no) k9 k9 (fun d _ _ _ _ h=>by cases d <;> exact h)<|zl I I (zu 0 2 I I k9 I zm)<|zl I I (zu 1 2 I I k9 I zm)<|yA I (zp (qO (by first | assumption | omega)) I ⟨zc _,t9⟩ I)<|yA I (zp (qO (by first | assumption | omega)) I ⟨zc _,t9⟩ I)<|yA I (zp (KU (by assumption) (by assumption) (by assumption)) I ⟨zc _,zc _,t9⟩ I)<|zz I I<|zl I I (zg I I)<|zl I I (zg I I)<|yQ I I<|yQ I I<|ym<|zi<|zo<|zb I<|za I (Rd.len (e:=5) I k9)<|za I (y6 I I)<|zb I<|yk 19 I (fun hb19=> ?_) (fun hb19=> ?_)))))))
 ·skip
  refine zQ hb19 (zj (n:=0) I k9) (zQ hb19 (zy 0 I I I k9 zm)<|zQ hb19 (zj (n:=0) I k9)<|zQ hb19 (zy 1 I I I k9 zm)<|zQ hb19 (za5 k9 I I)<|za I (zB I hb19 I)<|zd<|zD I (fun hb25=> ?_) (fun hb25=> ?_))
  ·skip
   refine yf [] (rr [0,3,5]<|.n 1 (.n 2 (.n 4 (.n 6 (.r 7<|.r 8 .fin) .no) .no) .no) .no) k9 k9 (fun d _ _ _ _ h=>by cases d <;> exact h) (zz I I<|zl I I (zu 1 2 I I k9 I zm)<|zz I I<|yA I (zad (e:=5) I I k9 k9 I)<|yA I (zp (Kj (Y:=1) hq4<|b24 h12) I ⟨zc _,lit1_is,t9⟩ I)<|yA I (zp (qO (by first | assumption | omega)) I ⟨zc _,t9⟩ I)<|yA I (zp (jj (by assumption) (by assumption)) I ⟨zc _,zc _,t9⟩ I)<|yQ I I<|yQ I I<|ym<|zi<|yf [g4,g5] (rr [0,1,2,3,4,5,7,8,9]<|.n 6 (.n 10 (.e 11 (.e 12 .fin .no) .no) .no) .no) k9 k9 (fun d _ _ _ _ h=>by cases d <;> exact h)<|zl I I (zj (n:=0) I k9)<|zl I I (zy 0 I I I k9<|yz 2 I d9<|yz 3 I d9 zm)<|zl I I (zj (n:=0) I k9)<|zl I I (zy 1 I I I k9<|yz 2 I d9<|yz 3 I d9 zm)<|zl I I (za5 k9 I I)<|zz I I<|zl I I (zj (n:=0) I k9)<|zl I I (zy 1 I I I k9<|yz 2 I d9<|yz 3 I d9 zm)<|zz I I<|yA I (zp (Z6 _ (by assumption)) I ⟨zc _,zc _,t9⟩ I)<|yA I (zp (Z6 _ (by assumption)) I ⟨zc _,zc _,t9⟩ I)<|yR I (zw 2 I I I k9 I<|Jc (i:=0) I)<|yR I (zw 3 I I I k9 I<|Jc (i:=1) I)<|ym<|zF (fn:=Tryz.f114) (fun _ _ h=>h)<|Rs.le (Rs.two I (zT 2 I I k9)<|zT 3 I I k9) ?_)
   have hu:=up_yes hb19 hb25;exact y7 ⟨YM<|sgn_dq I (dqN_up hu).1.symm,YM<|sgn_dr I (dqN_up hu).2.symm,t9⟩
  ·skip
   refine zv (zh<|zi<|yf [g4,g5] (rr [0,1,2,3,4,5,7,8,9]<|.n 6 (.n 10 (.e 11 (.e 12 .fin .no) .no) .no) .no) k9 k9 (fun d _ _ _ _ h=>by cases d <;> exact h)<|zl I I (zj (n:=0) I k9)<|zl I I (zy 0 I I I k9<|yz 2 I d9<|yz 3 I d9 zm)<|zl I I (zj (n:=0) I k9)<|zl I I (zy 1 I I I k9<|yz 2 I d9<|yz 3 I d9 zm)<|zl I I (za5 k9 I I)<|zz I I<|zl I I (zj (n:=0) I k9)<|zl I I (zy 1 I I I k9<|yz 2 I d9<|yz 3 I d9 zm)<|zz I I<|yA I (zp (Z6 _ (by assumption)) I ⟨zc _,zc _,t9⟩ I)<|yA I (zp (Z6 _ (by assumption)) I ⟨zc _,zc _,t9⟩ I)<|yR I (zw 2 I I I k9 I<|Jc (i:=0) I)<|yR I (zw 3 I I I k9 I<|Jc (i:=1) I)<|ym<|zF (fn:=Tryz.f114) (fun _ _ h=>h)<|Rs.le (Rs.two I (zT 2 I I k9)<|zT 3 I I k9) ?_)
   have hu:=up_no2 (x:=x) (y:=y) hb25;exact y7 ⟨YM<|sgn_dq I (zaN hu).1.symm,YM<|sgn_dr I (zaN hu).2.symm,t9⟩
 ·skip
  refine zP hb19 (zP hb19<|zP hb19<|zP hb19<|zP hb19<|za I (zI I hb19 I)<|zd<|zH I I<|zv<|zh<|zi<|yf [g4,g5] (rr [0,1,2,3,4,5,7,8,9]<|.n 6 (.n 10 (.e 11 (.e 12 .fin .no) .no) .no) .no) k9 k9 (fun d _ _ _ _ h=>by cases d <;> exact h)<|zl I I (zj (n:=0) I k9)<|zl I I (zy 0 I I I k9<|yz 2 I d9<|yz 3 I d9 zm)<|zl I I (zj (n:=0) I k9)<|zl I I (zy 1 I I I k9<|yz 2 I d9<|yz 3 I d9 zm)<|zl I I (za5 k9 I I)<|zz I I<|zl I I (zj (n:=0) I k9)<|zl I I (zy 1 I I I k9<|yz 2 I d9<|yz 3 I d9 zm)<|zz I I<|yA I (zp (Z6 _ (by assumption)) I ⟨zc _,zc _,t9⟩ I)<|yA I (zp (Z6 _ (by assumption)) I ⟨zc _,zc _,t9⟩ I)<|yR I (zw 2 I I I k9 I<|Jc (i:=0) I)<|yR I (zw 3 I I I k9 I<|Jc (i:=1) I)<|ym<|zF (fn:=Tryz.f114) (fun _ _ h=>h)<|Rs.le (Rs.two I (zT 2 I I k9)<|zT 3 I I k9) ?_)
  have hu:=up_no1 hb19;exact y7 ⟨YM<|sgn_dq I (zaN hu).1.symm,YM<|sgn_dr I (zaN hu).2.symm,t9⟩
theorem W3 {x y:Int} (hx:x.natAbs < b2) (hy:y.natAbs < b2):Con Tryz.prog 112 [Zj x,Zj y] (Zj<|V8 x y):=by
 have hx4:=b24 hx;have hy4:=b24 hy
 refine z6 Tryz.func112 k9 I k9 fun base w0=>(zo (SWl.e2 (S:=[]) (yj I I) fun g2=>(SWl.e2 (S:=[]) (yj I I) fun g3=>(SWl.e2 (S:=[]) (Ef.alloc (zs:=[.bool false,.slice none 0 0]) k9 I) fun g4=>(zd<|zi<|yf [] (.r 0<|.r 2<|.n 1 (.n 3 (.r 4<|.r 5 .fin) .no) .no) k9 k9 (fun d _ _ _ _ h=>by cases d <;> exact h)<|zl I I (zu 0 2 I I k9 I zm)<|zl I I (zu 1 2 I I k9 I zm)<|yA I (zp (qO (by first | assumption | omega)) I ⟨zc _,t9⟩ I)<|yA I (zp (qO (by first | assumption | omega)) I ⟨zc _,t9⟩ I)<|yQ I I<|yQ I I<|ym<|zi<|SW.block<|z8 (ι:={p:Nat × Nat // p.1 < b2∧p.2 < b2∧Nat.gcd p.1 p.2=Nat.gcd x.natAbs y.natAbs}) (fun ⟨⟨X,Y⟩,hX,hY,hG⟩=>St.of [(4,pA g4),(5,qt X),(6,qt Y)] [(g4,[isD<|.bool false,isD<|.slice none 0 0])]) (fun ⟨⟨X,Y⟩,hX,hY,hG⟩=>Y) (⟨(x.natAbs,y.natAbs),hx,hy,I⟩) ?_ ?_)))))
 ·exact (sB [2] I I)
 ·rintro ⟨⟨X,Y⟩,hX,hY,hG⟩ K0 hK0;simp only at hX hY hG;refine zi (zo<|zb I<|za I (Rd.len (e:=5) I k9)<|za I (y6 I I)<|zd<|zD I (fun hb15=> ?_) (fun hb15=> ?_))
  ·have h0:0 < Y:=Nat.pos_of_ne_zero (jJ.1<|oT hb15);exact zv (zh<|SW.block<|zo<|zb I<|zb I<|zn (S:=[]) (zp (KU (b24 hX) hY h0) I ⟨zc _,zc _,t9⟩ I)<|zb I<|za I (zg I I)<|za I (zg I I)<|ze I<|ze I<|zd<|zk<|zb I<|zb I<|ze I<|ze I<|zC<|SN.block (fun a w hh=>hK0 (⟨(Y,X % Y),hY,Nat.lt_trans (Nat.mod_lt _ h0) hY,zaE hG⟩) (Nat.mod_lt _ h0) a w<|hh.sub<|sB [0] I I))
  ·obtain rfl:Y=0:=Classical.byContradiction fun h=>oF hb15 (jJ.2 h);refine zR ?_
   repeat (first | refine zV ?_ | refine zW d9 ?_)
   refine zX (zh<|zo<|zb I<|zn (S:=[]) (zp (Z6 false<|b24 hX) I ⟨zc _,zc _,t9⟩ I)<|zn (S:=[_]) (zw 0 I I I k9 I<|m9 I)<|zd<|zF (fn:=Tryz.f112) (fun _ _ h=>h)<|Rs.le (zO I<|zT 0 I I k9) ?_);rw [Nat.gcd_zero_right] at hG;exact YM (by show ((X:Nat):Int)=_;rw [hG];rfl)
end Sx
end Go.Proofs.YtmflnfnebmbjkaaGreat
namespace Go.Proofs.YtmflnfnebmbjkaaGreat
open Go.ChangeShapes Go.WideShapes Go.ChangeAt Go.RowKit
namespace Sx
def Vc:LN→Nat
 | []=>0
 | d :: l=>d + 256 * Vc l
theorem dg_valL:∀ (l:LN),(∀ d∈l,d < 256)→(∀ h:l≠[],l.getLast h≠0)→Nm.dg 256 (Vc l)=l
 | [],_,_=>by simp [Vc,Nm.dg_zero]
 | d :: l,h,hl=>by
  have hd:d < 256:=h d s9
  have ih:=dg_valL l (fun e he=>h e<|Jl _ he) (fun hne=>by
   have:=hl s9;rw [List.getLast_cons hne] at this
   exact this)
  have hne:Vc (d :: l)≠0:=by
   simp only [Vc];intro h0
   have hd0:d=0:=by omega
   have hl0:Vc l=0:=by omega
   rw [hl0,Nm.dg_zero] at ih;have:=hl s9;subst hd0;simp [← ih] at this
  rw [Nm.dg_pos d9 hne]
  have e1:Vc (d :: l) % 256=d:=by simp only [Vc];omega
  have e2:Vc (d :: l) / 256=Vc l:=by simp only [Vc];omega
  rw [e1,e2,ih]
theorem Vb {s:Bool} {b:LN} (hb:∀ d∈b,d < 256) (hv:vld s b=true):∃ x:Int,x.natAbs < zJ∧s=decide (x < 0)∧b=(Nm.dg 256 x.natAbs).reverse:=by
 unfold vld at hv
 by_cases h0:b.length=0
 ·have:b=[]:=J2 h0;subst this;simp at hv;subst hv;exact ⟨0,by unfold zJ;decide +kernel,rfl,by rw [show (0:Int).natAbs=0 from rfl,Nm.dg_zero];rfl⟩
 ·rw [Jb h0] at hv;simp only [JL,Jz] at hv;obtain ⟨h1,h2⟩:=hv
  have hdg:Nm.dg 256 (Vc b.reverse)=b.reverse:=by
   refine dg_valL _ (fun d hd=>hb d (by simpa using hd)) (fun hne=> ?_)
   cases b with
   | nil=>simp at h0
   | cons c t=>simpa using h2
  have hlen:Nm.len 256 (Vc b.reverse)=b.length:=by rw [← Nm.dg_length,hdg,List.length_reverse]
  have hpos:Vc b.reverse≠0:=fun h=>by rw [h,Nm.len_zero] at hlen;omega
  refine ⟨sgn s<|Vc b.reverse,?_,?_,?_⟩
  ·rw [yh];exact (Nm.len_le (B:=256) d9 64 _).1 o9
  ·rw [WF,Jo (by omega:0 < Vc b.reverse),Bool.and_true]
  ·rw [yh,hdg,List.reverse_reverse]
section
variable {H:Type}{enc:TypeId × Value→H}{P:Program}
end
section
variable {H:Type}{enc:TypeId × Value→H}
end
end Sx
end Go.Proofs.YtmflnfnebmbjkaaGreat
namespace Go.Proofs.YtmflnfnebmbjkaaGreat
open Go.RowKit
open Nm (W32)
namespace Sx
end Sx
namespace Sx
theorem zas:(1:Int).natAbs < zJ:=by unfold zJ;decide +kernel
theorem b1:(1:Int).natAbs < b4:=b4_512 (by unfold zJ;decide +kernel)
end Sx
namespace Sx
theorem Wg {x y:Int} (h:x=y):Con Tryz.prog 55 [Zj x,Zj y] (yG true):=con_same.mono ⟨zc _,zc _,trivial⟩ (zG (by rw [Jo h]))
end Sx
namespace Sx
section
variable {x y:Int}
theorem KV {r:Int} (hx:x.natAbs < zJ) (h:x.sign=r):Con Tryz.prog 66 [Zj x] (yU r):=(YG hx).mono ⟨zc _,trivial⟩ (yM h)
theorem dq_dr (x:Int) (hy:y≠0):dq x y * y + dr x y=x:=by
 have e:=Nat.div_add_mod x.natAbs y.natAbs;have hr:x.natAbs % y.natAbs < y.natAbs:=Nat.mod_lt _ o9;unfold dq dr dqN drN up sgn
 generalize x.natAbs / y.natAbs=Q at *
 generalize x.natAbs % y.natAbs=R at *
 have eI:(y.natAbs:Int) * (Q:Int) + (R:Int)=(x.natAbs:Int):=by rw [← e];simp
 by_cases hx:x < 0
 ·by_cases hy':y < 0
  ·have e1:(y.natAbs:Int)= -y:=by omega
   rw [e1,Int.neg_mul] at eI;simp only [hx,hy',decide_true,bne_self_eq_false,Bool.false_and,Bool.false_eq_true,if_false,if_true];rw [Int.mul_comm];omega
  ·have e1:(y.natAbs:Int)=y:=by omega
   rw [e1] at eI;simp only [hx,hy',decide_true,decide_false,Bool.true_bne,Bool.not_false,Bool.true_and,Jz,if_true,if_false,Bool.false_eq_true]
   by_cases h0:0 < R
   ·simp only [Jh h0]
    have:(-((Q + 1:Nat):Int)) * y= -(y * Q) - y:=by rw [Int.neg_mul,Int.natCast_add,Int.add_mul,Int.mul_comm];omega
    rw [this];omega
   ·simp only [Jb h0]
    have:(-((Q:Nat):Int)) * y= -(y * Q):=by rw [Int.neg_mul,Int.mul_comm]
    rw [this];omega
 ·by_cases hy':y < 0
  ·have e1:(y.natAbs:Int)= -y:=by omega
   rw [e1,Int.neg_mul] at eI;simp only [hx,hy',decide_true,decide_false,Bool.false_bne,Bool.true_and,Jz,if_true]
   by_cases h0:0 < R
   ·simp only [Jh h0]
    have:(-((Q + 1:Nat):Int)) * y= -(y * Q) - y:=by rw [Int.neg_mul,Int.natCast_add,Int.add_mul,Int.mul_comm];omega
    rw [this];omega
   ·simp only [Jb h0]
    have:(-((Q:Nat):Int)) * y= -(y * Q):=by rw [Int.neg_mul,Int.mul_comm]
    rw [this];omega
  ·have e1:(y.natAbs:Int)=y:=by omega
   rw [e1] at eI;simp only [hx,hy',decide_false,bne_self_eq_false,Bool.false_and,Bool.false_eq_true,if_false];rw [Int.mul_comm];omega
theorem zaM (hy:y≠0):(dq x y).natAbs≤x.natAbs:=by unfold dq;rw [yh];exact dqN_le hy
theorem KT (hy:y≠0):(dr x y).natAbs < y.natAbs:=by unfold dr;rw [yh];exact drN_lt hy
theorem dr_dvd (h:x.natAbs % y.natAbs=0):dr x y=0:=by
 unfold dr drN up sgn;rw [h];simp
theorem WQ:(V8 x y).natAbs=Nat.gcd x.natAbs y.natAbs:=by unfold V8;simp
theorem gcd_le (hy:y≠0):(V8 x y).natAbs≤y.natAbs:=by rw [WQ];exact Nat.gcd_le_right _ o9
