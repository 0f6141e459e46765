/- THE WALKS of number's divNat, DivMod, GCD. THE WALKS of the reference's Form. THE WALK of the reference's Read; Parse and Form by what a string is. TH -/
import Derived.Test.YtmflnfnebmbjkaaGreatGZAU
import Derived.Lib.SmallJoins
set_option maxHeartbeats 8000000
set_option maxRecDepth 100000
namespace Go.Proofs.YtmflnfnebmbjkaaGreat
open Go.RowKit
open Nm (W32)
namespace Sx
theorem aw_nil {A : Option Addr} {n : Nat} : Aw [] A n := fun _ _ _ hm => by simp at hm
theorem zaX {w : World} {A : Option Addr} {n c X : Nat} (h : NatS w A n c X) (hX : X < W32 ^ 100) : n ≤ 100 := by rw [h.n_eq]; exact (Nm.len_le (B := W32) d9 100 X).2 hX
theorem WB {X : Nat} (hX : X < zO) : Con Tryz.prog 105 [bytD X] (Y4 X) := by
  refine ⟨enters_of Tryz.func105 k9 rfl, fun L w vs hL _ ha => ?_⟩
  obtain ⟨u, rfl, hu⟩ := WL ha
  obtain ⟨A, n, c, rfl, h1, -⟩ := byt_out hu
  have hn : n ≤ 64 := by rw [h1.n_eq]; exact (Nm.len_le (B := 256) d9 64 X).2 hX
  refine (Wg w A n c X o9 h1).mono ?_
  rintro r w' ⟨A', n', c', rfl, hN, hO, hf⟩
  exact ⟨_, rfl, Wf hN (Zl hf hL), hO⟩
theorem con_build {X : Nat} (neg : Bool) (hX : X < W32 ^ 100) : Con Tryz.prog 103 [yK neg, Y4 X] (Zq [Zs (YM (sgn neg X)), yZ (Z6 (sgn neg X))]) := by
  refine ⟨enters_of Tryz.func103 k9 rfl, fun L w vs hL _ ha => ?_⟩
  obtain ⟨u, v, rfl, rfl, hv⟩ := V2 ha
  obtain ⟨A, n, c, rfl, h1, -⟩ := Y3 hv
  have hn := zaX h1 hX
  refine (yr w neg A n c X o9 h1).mono ?_
  rintro r w' ⟨s', A', n', c', rfl, hI, hF, hO⟩
  exact ⟨_, rfl, ⟨[_, _], rfl, jM hI (Zl hF hL), rfl, trivial⟩, hO⟩
theorem con_cmpLt {X Y : Nat} (hY : Y < W32 ^ 100) (hXY : X < Y) : Con Tryz.prog 109 [Y4 X, Y4 Y] (yZ (-1)) := by
  refine ⟨enters_of Tryz.func109 k9 rfl, fun L w vs hL _ ha => ?_⟩
  obtain ⟨u, v, rfl, hu, hv⟩ := V2 ha
  obtain ⟨A, n, c, rfl, h1, -⟩ := Y3 hu
  obtain ⟨B, m, d, rfl, h2, -⟩ := Y3 hv
  have hn := zaX h1 (Nat.lt_trans hXY hY)
  have hm := zaX h2 hY
  refine (Zp w A B n c m d X Y o9 o9 h1 h2).mono ?_
  rintro r w' ⟨z, rfl, hz, hO⟩
  refine ⟨_, rfl, ?_, hO⟩
  have hz' : Cmp X Y z := hz
  show Value.int .i64 z = .int .i64 _
  rcases hz' with ⟨h, e⟩ | ⟨h, e⟩ | ⟨h, e⟩
  · rw [e]
  · omega
  · omega
theorem WD {X d : Nat} (hX : X < W32 ^ 100) (hd : 0 < d) (hd2 : d < 4294967296) : Con Tryz.prog 130 [Y4 X, isD (.int .u32 (d : Int))] (Zq [Y4 (X / d), isD (.int .u32 ((X % d : Nat) : Int))]) := by
  refine ⟨enters_of Tryz.func130 k9 rfl, fun L w vs hL _ ha => ?_⟩
  obtain ⟨u, v, rfl, hu, rfl⟩ := V2 ha
  obtain ⟨A, n, c, rfl, h1, -⟩ := Y3 hu
  have hn := zaX h1 hX
  refine (Wu w A n c X d o9 hd hd2 h1).mono ?_
  rintro r w' ⟨A', n', c', r, rfl, hN, hr, hO, hf⟩
  refine ⟨_, rfl, ⟨[_, _], rfl, Wf hN (fun _ p hp hm => ?_), by rw [hr.out]; rfl, trivial⟩, hO⟩
  have := hf p hp
  have := hL _ hm
  omega
theorem zbM {X : Nat} (h : X = 0) : Le (isD (.slice none 0 0)) (Y4 X) := by
  subst h
  unfold Y4
  rw [Nm.dg_zero]
  exact jg
theorem le_nat {X Y : Nat} (h : X = Y) : Le (Y4 X) (Y4 Y) := by subst h; exact zb _
theorem le_pad32 {d : Nat} (h2 : d < 4294967296) : Le (slD [.int .u32 (d : Int)]) (slD (cN .u32 (Nm.pad W32 1 d))) := by
  have : Nm.pad W32 1 d = [d] := by simp [Nm.pad, Nat.mod_eq_of_lt (show d < W32 from h2)]
  rw [this]
  exact zb _
theorem zaP {X : Nat} : (0 < ((cN .u32 (Nm.dg W32 X)).length : Int)) ↔ X ≠ 0 := by
  rw [ye, Nm.dg_length]
  have := Nm.len_eq_zero (B := W32) (x := X) d9
  omega
theorem natl_len (X : Nat) : (cN .u32 (Nm.dg W32 X)).length = Nm.len W32 X := by rw [ye, Nm.dg_length]
theorem con_divLt {X Y : Nat} (hY : Y < W32 ^ 100) (h : X < Y) : Con Tryz.prog 106 [Y4 X, Y4 Y] (Zq [Y4 (X / Y), Y4 (X % Y)]) := by
  refine z6 Tryz.func106 k9 rfl k9 fun base w0 => ?_
  refine zh ?_
  refine zf ?_
  refine za rfl (zH rfl) ?_
  refine za rfl (zH rfl) ?_
  refine zv ?_
  refine zg ?_
  refine zh ?_
  refine zh ?_
  refine zf ?_
  refine za rfl (zl rfl) ?_
  refine za rfl (zl rfl) ?_
  refine yD (S := []) (zn (con_cmpLt hY h) rfl ⟨zb _, zb _, trivial⟩ rfl) ?_
  rintro _ rfl
  refine za rfl (ya rfl rfl) ?_
  refine zv ?_
  refine zg ?_
  refine yg rfl d9 ?_
  refine zh ?_
  refine zf ?_
  refine za rfl (zl rfl) ?_
  refine za rfl (zH rfl) ?_
  refine za rfl (zH rfl) ?_
  refine zv ?_
  refine zg ?_
  refine zG (fn := Tryz.f106) (fun _ _ h => h) (Rs.le (Rs.two rfl (zo rfl) (zo rfl)) ?_)
  exact yX ⟨zbM (Nat.div_eq_of_lt h), le_nat (Nat.mod_eq_of_lt h).symm, trivial⟩
theorem zb2 {X Y : Nat} (hX : X < W32 ^ 100) (h0 : 0 < Y) (hY : Y < 4294967296) (h : Y ≤ X) : Con Tryz.prog 106 [Y4 X, Y4 Y] (Zq [Y4 (X / Y), Y4 (X % Y)]) := by
  have hl := natl_len Y
  have hl1 : Nm.len W32 Y = 1 := by have h1 := (Nm.len_le (B := W32) d9 1 Y).2 (by simpa using hY); have h2 := Nm.len_eq_zero (B := W32) (x := Y) d9; omega
  have hr : X % Y < 4294967296 := Nat.lt_trans (Nat.mod_lt _ h0) hY
  refine z6 Tryz.func106 k9 rfl k9 fun base w0 => ?_
  refine zh ?_
  refine zf ?_
  refine za rfl (zH rfl) ?_
  refine za rfl (zH rfl) ?_
  refine zv ?_
  refine zg ?_
  refine zh ?_
  refine zh ?_
  refine zf ?_
  refine za rfl (zl rfl) ?_
  refine za rfl (zl rfl) ?_
  refine yD (S := []) (zn (WE hX h) rfl ⟨zb _, zb _, trivial⟩ rfl) ?_
  rintro _ rfl
  refine za rfl (ya rfl rfl) ?_
  refine zv ?_
  refine zg ?_
  refine zJ rfl (decide_eq_false (by split <;> omega)) ?_
  refine zw ?_
  refine zg ?_
  refine zh ?_
  refine zh ?_
  refine zf ?_
  refine za rfl (zl rfl) ?_
  refine za rfl (Rd.len (e := 142) rfl k9) ?_
  refine za rfl (yS rfl rfl) ?_
  refine zv ?_
  refine zg ?_
  refine yg rfl (decide_eq_true o9) ?_
  refine zh ?_
  refine zf ?_
  refine za rfl (zl rfl) ?_
  refine za rfl (zl rfl) ?_
  refine za rfl (qq (e := 142) rfl rfl k9 k9 d9 (W9 (j := 0) rfl o9)) ?_
  refine za rfl (Rd.le (ZY rfl k9 s9) (Wj (b := (Y : Int)) (by rw [Nat.pow_zero, Nat.div_one, Nat.mod_eq_of_lt (show Y < W32 from hY)]))) ?_
  refine yD (S := []) (zn (WD hX h0 hY) rfl ⟨zb _, zb _, trivial⟩ rfl) ?_
  rintro _ rfl
  refine za rfl (zl rfl) ?_
  refine za rfl (zi rfl rfl) ?_
  refine za rfl (zi rfl rfl) ?_
  refine za rfl (zH rfl) ?_
  refine za rfl (zH rfl) ?_
  refine zv ?_
  refine zg ?_
  refine zh ?_
  refine zf ?_
  refine za rfl (zl rfl) ?_
  refine za rfl (zl rfl) ?_
  refine yD (S := []) (zax (e := 142) rfl rfl k9 k9 rfl) ?_
  rintro _ rfl
  refine yD (S := []) (zn (Kr (n := 1) rfl d9 (by simpa using hr)) rfl ⟨le_pad32 hr, trivial⟩ rfl) ?_
  rintro _ rfl
  refine za rfl (zH rfl) ?_
  refine za rfl (zH rfl) ?_
  refine zv ?_
  refine zg ?_
  refine zG (fn := Tryz.f106) (fun _ _ h => h) (Rs.two rfl (zo rfl) (zo rfl))
theorem Vf {X Y : Nat} (hX : X < W32 ^ 100) (hY : Y < W32 ^ 100) (h0 : 0 < Y) : Con Tryz.prog 106 [Y4 X, Y4 Y] (Zq [Y4 (X / Y), Y4 (X % Y)]) := by
  by_cases h : X < Y
  · exact con_divLt hY h
  · have hpos : Nm.len W32 Y ≠ 0 := fun e => by have := (Nm.len_eq_zero (B := W32) d9).1 e; omega
    by_cases h1 : Nm.len W32 Y = 1
    · exact zb2 hX h0 (by have := (Nm.len_le (B := W32) d9 1 Y).1 o9; simpa using this) o9
    · exact zb3 (m := Nm.len W32 Y - 2) hX o9 o9
theorem jd {X : Nat} (h : X < zO) : X < W32 ^ 100 := by
  have e : zO = W32 ^ 16 := by unfold zO; decide +kernel
  rw [e] at h
  exact Nat.lt_of_lt_of_le h (Nat.pow_le_pow_right d9 d9)
theorem Yg {x y : Int} (hx : x.natAbs < zO) (hy : y.natAbs < zO) (h0 : y ≠ 0) : Con Tryz.prog 64 [Zs x, Zs y] (Zq [Zs (dq x y), Zs (dr x y), yZ 0]) :=
  zb1 (enters_of Tryz.func64 k9 rfl) fun w s t A B n c m d h1 h2 => zbR w s t A B n c m d x y hx hy h0 h1 h2 fun w' A' B' n' c' m' d' h3 h4 => by
    refine ((Vf (jd hx) (jd hy) o9).go [] w' [.slice A' n' c', .slice B' m' d'] s9 trivial ⟨Wf h3 aw_nil, Wf h4 aw_nil, trivial⟩).mono ?_
    rintro e w2 ⟨v, rfl, ⟨cs, rfl, ha⟩, hO⟩
    obtain ⟨u, v, rfl, hu, hv⟩ := V2 ha
    obtain ⟨A2, n2, c2, rfl, k1, -⟩ := Y3 hu
    obtain ⟨B2, m2, d2, rfl, k2, -⟩ := Y3 hv
    exact ⟨A2, n2, c2, B2, m2, d2, rfl, k1, k2, hO⟩
def Wq (x y : Int) : Int := ((Nat.gcd x.natAbs y.natAbs : Nat) : Int)
theorem za1 {X Y G : Nat} (h : Nat.gcd X Y = G) : Nat.gcd Y (X % Y) = G := by
  rw [← h, Nat.gcd_comm Y, ← Nat.gcd_rec, Nat.gcd_comm]
theorem con_gcd {x y : Int} (hx : x.natAbs < zO) (hy : y.natAbs < zO) : Con Tryz.prog 101 [Zs x, Zs y] (Zq [Zs (Wq x y), yZ 0]) := by
  refine z6 Tryz.func101 k9 rfl k9 fun base w0 => ?_
  refine zh ?_
  refine zf ?_
  refine yD (S := []) (yo rfl rfl) ?_
  rintro _ ⟨g2, rfl⟩
  refine yD (S := []) (yo rfl rfl) ?_
  rintro _ ⟨g3, rfl⟩
  refine yD (S := []) (Ef.alloc (zs := [.bool false, .slice none 0 0]) k9 rfl) ?_
  rintro _ ⟨g4, rfl⟩
  refine za rfl (zH rfl) ?_
  refine zv ?_
  refine zg ?_
  refine zh ?_
  refine zh ?_
  refine zf ?_
  refine za rfl (zx 0 2 rfl rfl k9 rfl zt) ?_
  refine yD (S := []) (zn (Kq (by assumption)) rfl ⟨zb _, trivial⟩ rfl) ?_
  rintro _ rfl
  refine za rfl (yF rfl) ?_
  refine za rfl (zl rfl) ?_
  refine Yk rfl rfl (rfl) rfl rfl (zx 1 2 rfl rfl k9 rfl zt) ?_
  refine Zt (S := []) rfl rfl (rfl) rfl (zn (Kq (by assumption)) rfl ⟨zb _, trivial⟩ rfl) ?_
  rintro _ rfl
  refine Yk rfl rfl (rfl) rfl rfl (yF rfl) ?_
  refine za rfl (zM rfl (rfl) rfl) ?_
  refine zv ?_
  refine zg ?_
  refine zJ rfl (rfl) ?_
  refine zw ?_
  refine zg ?_
  refine zh ?_
  refine yf [] (.r 0 (.r 1 (.r 3 (.r 4 (.n 2 (.n 5 (.r 6 (.r 7 .fin)) .no) .no))))) k9 k9 (fun d _ _ _ _ h => by cases d <;> exact h) ?_
  refine zj rfl rfl (zm (n := 1) rfl k9) ?_
  refine zj rfl rfl (zB 0 rfl rfl rfl k9 zt) ?_
  refine zj rfl rfl (zm (n := 1) rfl k9) ?_
  refine zj rfl rfl (zB 1 rfl rfl rfl k9 zt) ?_
  refine Zc rfl (zn (WB hx) rfl ⟨zb _, trivial⟩ rfl) ?_ yB
  rintro _ rfl
  refine Zc rfl (zn (WB hy) rfl ⟨zb _, trivial⟩ rfl) ?_ yB
  rintro _ rfl
  refine zj rfl rfl (zH rfl) ?_
  refine zj rfl rfl (zH rfl) ?_
  refine yy ?_
  refine zg ?_
  refine zh ?_
  refine SW.block ?_
  refine z1 (ι := {p : Nat × Nat // p.1 < zO ∧ p.2 < zO ∧ Nat.gcd p.1 p.2 = Nat.gcd x.natAbs y.natAbs}) (fun ⟨⟨X, Y⟩, hX, hY, hG⟩ => St.of [(4, pA g4), (6, Y4 X), (7, Y4 Y)] [(g4, [isD (.bool false), isD (.slice none 0 0)])]) (fun ⟨⟨X, Y⟩, hX, hY, hG⟩ => Y) (⟨(x.natAbs, y.natAbs), hx, hy, rfl⟩) ?_ ?_
  · exact (sB [2] rfl rfl)
  · rintro ⟨⟨X, Y⟩, hX, hY, hG⟩ K0 hK0
    simp only at hX hY hG
    refine zh ?_
    refine zh ?_
    refine zf ?_
    refine za rfl (zl rfl) ?_
    refine za rfl (Rd.len (e := 142) rfl k9) ?_
    refine za rfl (y6 rfl rfl) ?_
    refine zv ?_
    refine zg ?_
    refine zD rfl (fun hb27 => ?_) (fun hb27 => ?_)
    · have h0 : 0 < Y := Nat.pos_of_ne_zero (zaP.1 (oT hb27))
      refine zw ?_
      refine zg ?_
      refine SW.block ?_
      refine zh ?_
      refine zf ?_
      refine za rfl (zl rfl) ?_
      refine za rfl (zl rfl) ?_
      refine yD (S := []) (zn (Vf (jd hX) (jd hY) h0) rfl ⟨zb _, zb _, trivial⟩ rfl) ?_
      rintro _ rfl
      refine za rfl (zl rfl) ?_
      refine za rfl (zi rfl rfl) ?_
      refine za rfl (zi rfl rfl) ?_
      refine za rfl (zH rfl) ?_
      refine za rfl (zH rfl) ?_
      refine zv ?_
      refine zg ?_
      refine zf ?_
      refine za rfl (zl rfl) ?_
      refine za rfl (zl rfl) ?_
      refine za rfl (zH rfl) ?_
      refine za rfl (zH rfl) ?_
      refine zv ?_
      refine SN.block ?_
      exact fun a w hh => hK0 (⟨(Y, X % Y), hY, Nat.lt_trans (Nat.mod_lt _ h0) hY, za1 hG⟩) (Nat.mod_lt _ h0) a w (hh.sub (sB [0] rfl rfl))
    · obtain rfl : Y = 0 := Classical.byContradiction fun h => oF hb27 (zaP.2 h)
      refine zL ?_
      repeat (first | refine zV ?_ | refine zW d9 ?_)
      refine zX ?_
      refine zg ?_
      refine zh ?_
      refine zf ?_
      refine za rfl (zl rfl) ?_
      refine yD (S := []) (zn (con_build false (jd hX)) rfl ⟨zb _, zb _, trivial⟩ rfl) ?_
      rintro _ rfl
      refine za rfl (zi rfl rfl) ?_
      refine za rfl (zi rfl rfl) ?_
      refine yD (S := [_]) (zy 0 rfl rfl rfl k9 rfl (m9 rfl)) ?_
      rintro _ rfl
      refine za rfl (zH rfl) ?_
      refine zv ?_
      refine zg ?_
      refine zG (fn := Tryz.f101) (fun _ _ h => h) (Rs.le (Rs.two rfl (zZ 0 rfl rfl k9) (zo rfl)) ?_)
      rw [Nat.gcd_zero_right] at hG
      have hl := yw (z := (X : Int)) hX
      exact yX ⟨YY (by show YM (X : Int) = _; rw [hl.1, hG]; rfl), yU hl.2, trivial⟩
end Sx
namespace Sx
end Sx
namespace Sx
theorem b2_ten:10 < b2:=by
 unfold b2;exact Ju (show 10 < 256 ^ 1 by decide) (Nat.pow_le_pow_right d9 d9)
end Sx
namespace Sx
theorem bit_and:∀ b:Fin 256,bits .and .u8 ((b.val:Nat):Int) 1=((b.val % 2:Nat):Int):=by decide +kernel
theorem and1 {b:Nat} {p q:Int} (hp:p=(b:Int)) (hq:q=1) (h:b < 256):bits .and .u8 p q=((b % 2:Nat):Int):=by
 subst hp hq;exact bit_and ⟨b,h⟩
theorem bit_or:∀ (b:Fin 256) (s:Fin 8),bits .or .u8 ((b.val:Nat):Int) ((2 ^ s.val:Nat):Int)=((b.val ||| 2 ^ s.val:Nat):Int):=by decide +kernel
theorem or8 {b s:Nat} {p q:Int} (hp:p=(b:Int)) (hq:q=((2 ^ s:Nat):Int)) (h:b < 256) (hs:s < 8):bits .or .u8 p q=((b ||| 2 ^ s:Nat):Int):=by
 subst hp hq;exact bit_or ⟨b,h⟩ ⟨s,hs⟩
theorem shl8 {s:Nat} (hs:s < 8):IntKind.u8.wrap (1 * 2 ^ (min s IntKind.u8.bits))=((2 ^ s:Nat):Int):=by
 have:∀ s:Fin 8,IntKind.u8.wrap (1 * 2 ^ (min s.val IntKind.u8.bits))=((2 ^ s.val:Nat):Int):=by decide +kernel
 exact this ⟨s,hs⟩
theorem shr8 {b s:Nat} (hs:s < 8):(b:Int) / 2 ^ (min s IntKind.u8.bits)=((b / 2 ^ s:Nat):Int):=by
 have:min s IntKind.u8.bits=s:=XA (by show s≤8;omega);rw [this];simp
theorem WV {A B j:Nat} (hB:0 < B):(2 * (A / 2 ^ (j + 1) % B) + A / 2 ^ j % 2) % B=A / 2 ^ j % B∧A / 2 ^ j / B=2 * (A / 2 ^ (j + 1) / B) + (if B≤2 * (A / 2 ^ (j + 1) % B) + A / 2 ^ j % 2 then 1 else 0):=by
 have e1:A / 2 ^ j=2 * (A / 2 ^ (j + 1)) + A / 2 ^ j % 2:=by
  rw [XI,← Nat.div_div_eq_div_mul];omega
 have hb:A / 2 ^ j % 2 < 2:=Nat.mod_lt _ d9;have hr:A / 2 ^ (j + 1) % B < B:=Nat.mod_lt _ hB;have e2:=Nat.div_add_mod (A / 2 ^ (j + 1)) B
 generalize A / 2 ^ (j + 1) / B=Q at *
 generalize A / 2 ^ (j + 1) % B=r at *
 generalize A / 2 ^ j % 2=b at *
 have e3:A / 2 ^ j=(2 * r + b) + B * (2 * Q):=by
  have:B * (2 * Q)=2 * (B * Q):=Nat.mul_left_comm _ _ _;omega
 rw [e3];refine ⟨by rw [Nat.add_mul_mod_self_left],?_⟩;rw [Nat.add_mul_div_left _ _ hB,Nat.add_comm];congr 1
 by_cases h:B≤2 * r + b
 ·rw [Jh h]
  have:2 * r + b=(2 * r + b - B) + B * 1:=by omega
  rw [this,Nat.add_mul_div_left _ _ hB,Nat.div_eq_of_lt o9]
 ·rw [Jb h];exact Nat.div_eq_of_lt o9
theorem sp_in {r B b:Nat} (h:B≤2 * r + b) (hr:r < B) (hb:b < 2):(2 * r + b) % B=2 * r + b - B:=by
 rw [Nat.mod_eq_sub_mod h,Nat.mod_eq_of_lt o9]
theorem lit1_is:Le (slD [.int .u8 1]) (qK 1):=le_lit1 (d:=1) d9 d9
theorem WK {X B:Nat} (hB:B < b2) (h:X < 2 * B):X < b4:=by
 have:=b4_add hB hB;omega
theorem zbo (X Y:Nat) (h:decide (0≤cmpN X Y)=false):X < Y:=by
 unfold cmpN at h;simp at h
 split at h
 ·assumption
 ·split at h <;> omega
theorem own8_at {n A o j:Nat} (ho:o=j) (hj:j < n):((cN .u8<|Nm.pad 256 n A).map isD)[o]? =some (isD<|.int .u8 ((A / 256 ^ j % 256:Nat):Int)):=by
 subst ho;rw [JJ,yW (by simpa using hj),Nm.pad_getD _ _ _ _ hj]
 rfl
theorem sp_put {n X Y j:Nat} (hj:j / 8 < n) (hY:0 < Y) (h:Y≤2 * (X / 2 ^ (j + 1) % Y) + X / 2 ^ j % 2):
  (Nm.pad 256 n<|X / 2 ^ (j + 1) / Y * 2 ^ (j + 1)).set (j / 8) (X / 2 ^ (j + 1) / Y * 2 ^ (j + 1) / 256 ^ (j / 8) % 256 ||| 2 ^ (j % 8))=Nm.pad 256 n (X / 2 ^ j / Y * 2 ^ j):=by
 rw [Nm.bit_fill hj<|Nat.mul_mod_left _ _];congr 1;rw [(WV (A:=X) (j:=j) hY).2,Jh h,Nat.add_mul,Nat.one_mul,XI,Nat.mul_comm 2,Nat.mul_assoc,Nat.mul_comm 2]
theorem zaE {X Y j:Nat} (hY:0 < Y) (h:¬Y≤2 * (X / 2 ^ (j + 1) % Y) + X / 2 ^ j % 2):X / 2 ^ (j + 1) / Y * 2 ^ (j + 1)=X / 2 ^ j / Y * 2 ^ j∧2 * (X / 2 ^ (j + 1) % Y) + X / 2 ^ j % 2=X / 2 ^ j % Y:=by
 have h1:=WV (A:=X) (j:=j) hY;refine ⟨?_,(Nat.mod_eq_of_lt o9).symm.trans h1.1⟩;rw [h1.2,Jb h]
 generalize X / 2 ^ (j + 1) / Y=q
 rw [XI,Nat.mul_comm (2 ^ j) 2,← Nat.mul_assoc,Nat.mul_comm q 2]
 rfl
theorem Vb {X Y:Nat} (hX:X < b4) (hY:Y < b2) (h0:0 < Y):Con Tryz.prog 139 [qK X,qK Y] (Zq [qK<|X / Y,qK<|X % Y]):=by
 have hn:(cN .u8<|Nm.dg 256 X).length=Nm.len 256 X:=by rw [ye,Nm.dg_length]
 have hn1:(cN .u8<|Nm.dg 256 X).length≤1000:=by rw [hn];exact JG ((Nm.len_le (B:=256) d9 e4 _).2 hX) d9
 have hXn:X < 256 ^ (cN .u8<|Nm.dg 256 X).length:=by rw [hn];exact Nm.lt_pow_len d9 X
 have htop:X / 2 ^ ((cN .u8<|Nm.dg 256 X).length * 8)=0:=Nat.div_eq_of_lt (by rw [Nat.mul_comm,Nat.pow_mul];exact hXn);have hXd:X / Y < 256 ^ (cN .u8<|Nm.dg 256 X).length:=Nat.lt_of_le_of_lt (Nat.div_le_self _ _) hXn;have h14:1 < b4:=b24 (Nat.lt_trans d9 b2_ten);have hY4:=b24 hY;refine z6 Tryz.func139 k9 I k9 fun base w0=>(zp<|zd I<|zd I<|zS<|zc I<|za I (Rd.len (e:=5) I k9) (SWl.e2 (S:=[]) (VZ (e:=5) (z:= .int .u8 0) (n:=(cN .u8<|Nm.dg 256 X).length) 1 I I k9 k9 I I I o9 d9 I) fun g11=>(zd I<|zS<|zd I<|ze<|zh<|zp<|zc I<|za I (Rd.len (e:=5) I k9)<|za I (Rd.mul I I ⟨by omega,by omega⟩)<|za I (yl I I ⟨by omega,by omega⟩)<|zd I<|ze<|SW.block<|z1 (ι:={k:Nat // k≤(cN .u8<|Nm.dg 256 X).length * 8}) (fun ⟨k,hk⟩=>St.of [(0,qK X),(1,qK Y),(6,isD<|.slice (some ⟨g11,0,none⟩) (cN .u8<|Nm.dg 256 X).length (cN .u8<|Nm.dg 256 X).length),(7,qK<|X / 2 ^ k % Y),(8,yZ<|(k:Int) - 1)] [(g11,(cN .u8<|Nm.pad 256 (cN .u8<|Nm.dg 256 X).length<|X / 2 ^ k / Y * 2 ^ k).map isD)]) (fun ⟨k,hk⟩=>k) (⟨(cN .u8<|Nm.dg 256 X).length * 8,Js _⟩) ?_ ?_)))
 ·exact ⟨⟨_,I,⟨lq I,⟨lq I,⟨lq I,⟨⟨_,I,(by rw [htop,Nat.zero_mod];exact zbO)⟩,⟨⟨_,I,yU o9⟩,t9⟩⟩⟩⟩⟩⟩,[0],by decide,⟨⟨_,rfl,yN (by rw [htop,Nat.zero_div,Nat.zero_mul,zeros8])⟩,trivial⟩⟩
 ·rintro ⟨k,hk⟩ K0 hK0;refine zh (zp<|zc I<|za I (Y1 I I)<|ze<|zD I (fun hb17=> ?_) (fun hb17=> ?_))
  ·obtain ⟨j,rfl⟩:∃ j,k=j + 1:=⟨k - 1,by have:=oT hb17;omega⟩;have hr:X / 2 ^ (j + 1) % Y < Y:=Nat.mod_lt _ h0;have hr4:X / 2 ^ (j + 1) % Y < b4:=Nat.lt_trans hr hY4;have hs1:=(WV (A:=X) (j:=j) h0).1;refine zw (zg<|zh<|SW.block<|zp<|zc I<|zc I<|zq (S:=[]) (zn (Kx hr4 hr4) I ⟨zb _,zb _,t9⟩ I)<|zd I<|ze<|zh<|zp<|zc I<|zc I<|za I (qH I I ⟨by omega,by omega,by omega⟩)<|za I (qq (e:=5) I I k9 k9 o9<|lit_at (j:=j / 8) o9 o9)<|za I (ZY I k9 s9)<|zc I<|za I (Rd.le (VV I I ⟨by omega,by omega⟩)<|yU (b:=((j % 8:Nat):Int)) o9)<|za I (qc (s:=j % 8) I I<|shr8<|Nat.mod_lt _ d9)<|za I (Rd.le (Rd.andW I I<|and1 I I<|Nat.lt_of_le_of_lt (Nat.div_le_self _ _)<|Nat.mod_lt _ d9)<|Wj<|JY _<|Nm.bit_of X j)<|za I (yS I I)<|ze<|zD I (fun hb32=> ?_) (fun hb32=> ?_))
   ·have hbit:X / 2 ^ j % 2=1:=by have:=oT hb32;omega
    refine zf (zc I<|zq (S:=[]) (zax (e:=5) I I k9 k9 I)<|zq (S:=[]) (zn (Kx (Y:=1) (WK hY o9) h14) I ⟨zb _,lit1_is,t9⟩ I)<|zd I<|zS<|zc I<|zc I<|zq (S:=[]) (zn (Ve (WK hY o9) hY4) I ⟨zb _,zb _,t9⟩ I)<|za I (Y1 I I)<|ze<|zD I (fun hb39=> ?_) (fun hb39=> ?_))
    ·have hge:=cmpN_ge _ _ hb39
     exact zp (zc I<|zc I<|zq (S:=[]) (zn (jy (WK hY o9) hge) I ⟨zb _,zb _,t9⟩ I)<|zd I<|ze<|yf [g11] (rr [0,1,2,3,4,5,6]<|.q 7<|rr [8,9,10,11,12]<|.e 13 .fin .no) k9 k9 (fun d _ _ _ _ h=>by cases d <;> exact h)<|zC I I<|zC I I<|zj I I (qH I I ⟨by omega,by omega,by omega⟩)<|zC I I<|zC I I<|zj I I (qH I I ⟨by omega,by omega,by omega⟩)<|zj I I (yY (e:=5) I I k9 k9 o9 o9)<|Ya I I (ZS 0 I I (own8_at (j:=j / 8) o9 o9) k9 zt)<|zC I I<|zj I I (Rd.le (VV I I ⟨by omega,by omega⟩)<|yU (b:=((j % 8:Nat):Int)) o9)<|zj I I (YD (s:=j % 8) I I<|shl8<|Nat.mod_lt _ d9)<|zj I I (Vn I I<|or8 I I (Nat.mod_lt _ d9)<|Nat.mod_lt _ d9)<|zj I I (yY (e:=5) I I k9 k9 o9 o9)<|y3 I (Zk 0 I I I k9 (by rw [JO,ye,Nm.pad_length];omega)<|Jc (i:=0) I)<|yy<|SN.block<|zg<|zf<|zc I<|za I (yl I I ⟨by omega,by omega⟩)<|zd I<|zv (fun a w hh=>hK0 (⟨j,by omega⟩) (Nat.lt_succ_self _) a w<|hh.sub<|⟨⟨_,I,⟨lq I,⟨lq I,⟨lq I,⟨⟨_,I,Wk (by rw [← hs1,hbit,sp_in o9 hr o9];omega)⟩,⟨⟨_,I,yU o9⟩,t9⟩⟩⟩⟩⟩⟩,[0],by decide,⟨⟨_,rfl,yN<|W7 o9 rfl<|sp_put o9 h0 o9⟩,trivial⟩⟩))
    ·have hge:=zbo _ _ hb39;exact zw (SN.block<|zg<|zf<|zc I<|za I (yl I I ⟨by omega,by omega⟩)<|zd I<|zv (fun a w hh=>hK0 (⟨j,by omega⟩) (Nat.lt_succ_self _) a w<|hh.sub<|⟨⟨_,I,⟨lq I,⟨lq I,⟨lq I,⟨⟨_,I,Wk (by rw [← (zaE (X:=X) (Y:=Y) (j:=j) h0 o9).2];omega)⟩,⟨⟨_,I,yU o9⟩,t9⟩⟩⟩⟩⟩⟩,[0],by decide,⟨⟨_,rfl,yN (by rw [(zaE (X:=X) (Y:=Y) (j:=j) h0 o9).1])⟩,trivial⟩⟩))
   ·have hbit:X / 2 ^ j % 2=0:=by have:=oF hb32;omega
    refine zw (zg<|zp<|zc I<|zc I<|zq (S:=[]) (zn (Ve (WK hY o9) hY4) I ⟨zb _,zb _,t9⟩ I)<|za I (Y1 I I)<|ze<|zD I (fun hb39=> ?_) (fun hb39=> ?_))
    ·have hge:=cmpN_ge _ _ hb39
     exact zp (zc I<|zc I<|zq (S:=[]) (zn (jy (WK hY o9) hge) I ⟨zb _,zb _,t9⟩ I)<|zd I<|ze<|yf [g11] (rr [0,1,2,3,4,5,6]<|.q 7<|rr [8,9,10,11,12]<|.e 13 .fin .no) k9 k9 (fun d _ _ _ _ h=>by cases d <;> exact h)<|zC I I<|zC I I<|zj I I (qH I I ⟨by omega,by omega,by omega⟩)<|zC I I<|zC I I<|zj I I (qH I I ⟨by omega,by omega,by omega⟩)<|zj I I (yY (e:=5) I I k9 k9 o9 o9)<|Ya I I (ZS 0 I I (own8_at (j:=j / 8) o9 o9) k9 zt)<|zC I I<|zj I I (Rd.le (VV I I ⟨by omega,by omega⟩)<|yU (b:=((j % 8:Nat):Int)) o9)<|zj I I (YD (s:=j % 8) I I<|shl8<|Nat.mod_lt _ d9)<|zj I I (Vn I I<|or8 I I (Nat.mod_lt _ d9)<|Nat.mod_lt _ d9)<|zj I I (yY (e:=5) I I k9 k9 o9 o9)<|y3 I (Zk 0 I I I k9 (by rw [JO,ye,Nm.pad_length];omega)<|Jc (i:=0) I)<|yy<|SN.block<|zg<|zf<|zc I<|za I (yl I I ⟨by omega,by omega⟩)<|zd I<|zv (fun a w hh=>hK0 (⟨j,by omega⟩) (Nat.lt_succ_self _) a w<|hh.sub<|⟨⟨_,I,⟨lq I,⟨lq I,⟨lq I,⟨⟨_,I,Wk (by rw [← hs1,hbit,sp_in o9 hr o9];omega)⟩,⟨⟨_,I,yU o9⟩,t9⟩⟩⟩⟩⟩⟩,[0],by decide,⟨⟨_,rfl,yN<|W7 o9 rfl<|sp_put o9 h0 o9⟩,trivial⟩⟩))
    ·have hge:=zbo _ _ hb39;exact zw (SN.block<|zg<|zf<|zc I<|za I (yl I I ⟨by omega,by omega⟩)<|zd I<|zv (fun a w hh=>hK0 (⟨j,by omega⟩) (Nat.lt_succ_self _) a w<|hh.sub<|⟨⟨_,I,⟨lq I,⟨lq I,⟨lq I,⟨⟨_,I,Wk (by rw [← (zaE (X:=X) (Y:=Y) (j:=j) h0 o9).2];omega)⟩,⟨⟨_,I,yU o9⟩,t9⟩⟩⟩⟩⟩⟩,[0],by decide,⟨⟨_,rfl,yN (by rw [(zaE (X:=X) (Y:=Y) (j:=j) h0 o9).1])⟩,trivial⟩⟩))
  ·obtain rfl:k=0:=by have:=oF hb17;omega
   refine zL ?_
   repeat (first | refine zV ?_ | refine zW d9 ?_)
   refine zX (zg<|zp<|zc I<|jD 56 0 (cN .u8<|Nm.pad 256 (cN .u8<|Nm.dg 256 X).length<|X / 2 ^ 0 / Y * 2 ^ 0) I I s9 (Js _) I<|zq (S:=[]) (zn (zbU (X:=X / Y) s9 o9 hXd) I ⟨zb _,t9⟩ I)<|zc I<|zd I<|zd I<|ze<|zG (fn:=Tryz.f139) (fun _ _ h=>h)<|Rs.le (Rs.two I (zo I)<|zo I) ?_);exact yX ⟨zb _,Wk (by rw [Nat.pow_zero,Nat.div_one]),t9⟩
theorem sgn_dq {x y:Int} {b:Bool} {n:Nat} (h1:b=(decide (x < 0) != decide (y < 0))) (h2:n=dqN x y):sgn b n=dq x y:=by subst h1 h2;rfl
theorem sgn_dr {x y:Int} {b:Bool} {n:Nat} (h1:b=decide (y < 0)) (h2:n=drN x y):sgn b n=dr x y:=by subst h1 h2;rfl
theorem up_yes {x y:Int} (h1:decide (0 < ((cN .u8<|Nm.dg 256<|x.natAbs % y.natAbs).length:Int))=true) (h2:(decide (x < 0) != decide (y < 0))=true):up x y=true:=by
 have h3:x.natAbs % y.natAbs≠0:=jX.1 (oT h1);unfold up;rw [h2,Jo o9]
 rfl
theorem up_no1 {x y:Int} (h1:decide (0 < ((cN .u8<|Nm.dg 256<|x.natAbs % y.natAbs).length:Int))=false):up x y=false:=by
 have h3:x.natAbs % y.natAbs=0:=Classical.byContradiction fun h=>oF h1 (jX.2 h);unfold up;rw [h3];simp
theorem up_no2 {x y:Int} (h2:(decide (x < 0) != decide (y < 0))=false):up x y=false:=by
 unfold up;rw [h2]
 rfl
theorem dqN_up {x y:Int} (h:up x y=true):dqN x y=x.natAbs / y.natAbs + 1∧drN x y=y.natAbs - x.natAbs % y.natAbs:=by
 unfold dqN drN;rw [Jh h,Jh h];exact ⟨I,I⟩
theorem zba {x y:Int} (h:up x y=false):dqN x y=x.natAbs / y.natAbs∧drN x y=x.natAbs % y.natAbs:=by
 unfold dqN drN;rw [Jb (by rw [h];decide),Jb (by rw [h];decide)];exact ⟨I,I⟩
theorem YV {x y:Int} (hx:x.natAbs < b2) (hy:y.natAbs < b2) (hy0:y≠0):Con Tryz.prog 114 [Zs x,Zs y] (Zq [Zs<|dq x y,Zs<|dr x y]):=by
 have hx4:=b24 hx;have hy4:=b24 hy
 have h0:0 < y.natAbs:=by omega
 have hq2:x.natAbs / y.natAbs < b2:=Nat.lt_of_le_of_lt (Nat.div_le_self _ _) hx;have hq4:=b24 hq2;have h12:1 < b2:=Nat.lt_trans d9 b2_ten;have hq14:=b4_add hq2 h12;have hrl:x.natAbs % y.natAbs < y.natAbs:=Nat.mod_lt _ h0;have hr4:=Nat.lt_trans hrl hy4;have hm4:y.natAbs - x.natAbs % y.natAbs < b4:=Nat.lt_of_le_of_lt (Nat.sub_le _ _) hy4;have hrle:=Nat.le_of_lt hrl
 refine z6 Tryz.func114 k9 I k9 fun base w0=>(zp (SWl.e2 (S:=[]) (yo I I) fun g2=>(SWl.e2 (S:=[]) (yo I I) fun g3=>(SWl.e2 (S:=[]) (Ef.alloc (zs:=[.bool false,.slice none 0 0]) k9 I) fun g4=>(SWl.e2 (S:=[]) (Ef.alloc (zs:=[.bool false,.slice none 0 0]) k9 I) fun g5=>(ze<|zh<|yf [] (.r 0<|.r 2<|.n 1 (.n 3 (.n 4 (rr [5,6,7,8,9] .fin) .no) .no) .no) k9 k9 (fun d _ _ _ _ h=>by cases d <;> exact h)<|zj I I (zx 0 2 I I k9 I zt)<|zj I I (zx 1 2 I I k9 I zt)<|yC I (zn (q8 (by first | assumption | omega)) I ⟨zb _,t9⟩ I)<|yC I (zn (q8 (by first | assumption | omega)) I ⟨zb _,t9⟩ I)<|yC I (zn (Vb (by assumption) (by assumption) (by assumption)) I ⟨zb _,zb _,t9⟩ I)<|zC I I<|zj I I (zi I I)<|zj I I (zi I I)<|yR I I<|yR I I<|yu<|zh<|zp<|zc I<|za I (Rd.len (e:=5) I k9)<|za I (y6 I I)<|zc I<|yn 19 I (fun hb19=> ?_) (fun hb19=> ?_)))))))
 ·skip
  refine zU hb19 (zm (n:=0) I k9) (zU hb19 (zB 0 I I I k9 zt)<|zU hb19 (zm (n:=0) I k9)<|zU hb19 (zB 1 I I I k9 zt)<|zU hb19 (zbt k9 I I)<|za I (zF I hb19 I)<|ze<|zD I (fun hb25=> ?_) (fun hb25=> ?_))
  ·skip
   refine yf [] (rr [0,3,5]<|.n 1 (.n 2 (.n 4 (.n 6 (.r 7<|.r 8 .fin) .no) .no) .no) .no) k9 k9 (fun d _ _ _ _ h=>by cases d <;> exact h) (zC I I<|zj I I (zx 1 2 I I k9 I zt)<|zC I I<|yC I (zax (e:=5) I I k9 k9 I)<|yC I (zn (Kx (Y:=1) hq4<|b24 h12) I ⟨zb _,lit1_is,t9⟩ I)<|yC I (zn (q8 (by first | assumption | omega)) I ⟨zb _,t9⟩ I)<|yC I (zn (jy (by assumption) (by assumption)) I ⟨zb _,zb _,t9⟩ I)<|yR I I<|yR I I<|yu<|zh<|yf [g4,g5] (rr [0,1,2,3,4,5,7,8,9]<|.n 6 (.n 10 (.e 11 (.e 12 .fin .no) .no) .no) .no) k9 k9 (fun d _ _ _ _ h=>by cases d <;> exact h)<|zj I I (zm (n:=0) I k9)<|zj I I (zB 0 I I I k9<|yE 2 I d9<|yE 3 I d9 zt)<|zj I I (zm (n:=0) I k9)<|zj I I (zB 1 I I I k9<|yE 2 I d9<|yE 3 I d9 zt)<|zj I I (zbt k9 I I)<|zC I I<|zj I I (zm (n:=0) I k9)<|zj I I (zB 1 I I I k9<|yE 2 I d9<|yE 3 I d9 zt)<|zC I I<|yC I (zn (Yj _ (by assumption)) I ⟨zb _,zb _,t9⟩ I)<|yC I (zn (Yj _ (by assumption)) I ⟨zb _,zb _,t9⟩ I)<|y3 I (zy 2 I I I k9 I<|Jc (i:=0) I)<|y3 I (zy 3 I I I k9 I<|Jc (i:=1) I)<|yu<|zG (fn:=Tryz.f114) (fun _ _ h=>h)<|Rs.le (Rs.two I (zZ 2 I I k9)<|zZ 3 I I k9) ?_)
   have hu:=up_yes hb19 hb25;exact yX ⟨YY<|sgn_dq I (dqN_up hu).1.symm,YY<|sgn_dr I (dqN_up hu).2.symm,t9⟩
  ·skip
   refine zw (zg<|zh<|yf [g4,g5] (rr [0,1,2,3,4,5,7,8,9]<|.n 6 (.n 10 (.e 11 (.e 12 .fin .no) .no) .no) .no) k9 k9 (fun d _ _ _ _ h=>by cases d <;> exact h)<|zj I I (zm (n:=0) I k9)<|zj I I (zB 0 I I I k9<|yE 2 I d9<|yE 3 I d9 zt)<|zj I I (zm (n:=0) I k9)<|zj I I (zB 1 I I I k9<|yE 2 I d9<|yE 3 I d9 zt)<|zj I I (zbt k9 I I)<|zC I I<|zj I I (zm (n:=0) I k9)<|zj I I (zB 1 I I I k9<|yE 2 I d9<|yE 3 I d9 zt)<|zC I I<|yC I (zn (Yj _ (by assumption)) I ⟨zb _,zb _,t9⟩ I)<|yC I (zn (Yj _ (by assumption)) I ⟨zb _,zb _,t9⟩ I)<|y3 I (zy 2 I I I k9 I<|Jc (i:=0) I)<|y3 I (zy 3 I I I k9 I<|Jc (i:=1) I)<|yu<|zG (fn:=Tryz.f114) (fun _ _ h=>h)<|Rs.le (Rs.two I (zZ 2 I I k9)<|zZ 3 I I k9) ?_)
   have hu:=up_no2 (x:=x) (y:=y) hb25;exact yX ⟨YY<|sgn_dq I (zba hu).1.symm,YY<|sgn_dr I (zba hu).2.symm,t9⟩
 ·skip
  refine zR hb19 (zR hb19<|zR hb19<|zR hb19<|zR hb19<|za I (zM I hb19 I)<|ze<|zJ I I<|zw<|zg<|zh<|yf [g4,g5] (rr [0,1,2,3,4,5,7,8,9]<|.n 6 (.n 10 (.e 11 (.e 12 .fin .no) .no) .no) .no) k9 k9 (fun d _ _ _ _ h=>by cases d <;> exact h)<|zj I I (zm (n:=0) I k9)<|zj I I (zB 0 I I I k9<|yE 2 I d9<|yE 3 I d9 zt)<|zj I I (zm (n:=0) I k9)<|zj I I (zB 1 I I I k9<|yE 2 I d9<|yE 3 I d9 zt)<|zj I I (zbt k9 I I)<|zC I I<|zj I I (zm (n:=0) I k9)<|zj I I (zB 1 I I I k9<|yE 2 I d9<|yE 3 I d9 zt)<|zC I I<|yC I (zn (Yj _ (by assumption)) I ⟨zb _,zb _,t9⟩ I)<|yC I (zn (Yj _ (by assumption)) I ⟨zb _,zb _,t9⟩ I)<|y3 I (zy 2 I I I k9 I<|Jc (i:=0) I)<|y3 I (zy 3 I I I k9 I<|Jc (i:=1) I)<|yu<|zG (fn:=Tryz.f114) (fun _ _ h=>h)<|Rs.le (Rs.two I (zZ 2 I I k9)<|zZ 3 I I k9) ?_)
  have hu:=up_no1 hb19;exact yX ⟨YY<|sgn_dq I (zba hu).1.symm,YY<|sgn_dr I (zba hu).2.symm,t9⟩
theorem zao {x y:Int} (hx:x.natAbs < b2) (hy:y.natAbs < b2):Con Tryz.prog 112 [Zs x,Zs y] (Zs<|Wq x y):=by
 have hx4:=b24 hx;have hy4:=b24 hy
 refine z6 Tryz.func112 k9 I k9 fun base w0=>(zp (SWl.e2 (S:=[]) (yo I I) fun g2=>(SWl.e2 (S:=[]) (yo I I) fun g3=>(SWl.e2 (S:=[]) (Ef.alloc (zs:=[.bool false,.slice none 0 0]) k9 I) fun g4=>(ze<|zh<|yf [] (.r 0<|.r 2<|.n 1 (.n 3 (.r 4<|.r 5 .fin) .no) .no) k9 k9 (fun d _ _ _ _ h=>by cases d <;> exact h)<|zj I I (zx 0 2 I I k9 I zt)<|zj I I (zx 1 2 I I k9 I zt)<|yC I (zn (q8 (by first | assumption | omega)) I ⟨zb _,t9⟩ I)<|yC I (zn (q8 (by first | assumption | omega)) I ⟨zb _,t9⟩ I)<|yR I I<|yR I I<|yu<|zh<|SW.block<|z1 (ι:={p:Nat × Nat // p.1 < b2∧p.2 < b2∧Nat.gcd p.1 p.2=Nat.gcd x.natAbs y.natAbs}) (fun ⟨⟨X,Y⟩,hX,hY,hG⟩=>St.of [(4,pA g4),(5,qK X),(6,qK Y)] [(g4,[isD<|.bool false,isD<|.slice none 0 0])]) (fun ⟨⟨X,Y⟩,hX,hY,hG⟩=>Y) (⟨(x.natAbs,y.natAbs),hx,hy,I⟩) ?_ ?_)))))
 ·exact (sB [2] I I)
 ·rintro ⟨⟨X,Y⟩,hX,hY,hG⟩ K0 hK0;simp only at hX hY hG;refine zh (zp<|zc I<|za I (Rd.len (e:=5) I k9)<|za I (y6 I I)<|ze<|zD I (fun hb15=> ?_) (fun hb15=> ?_))
  ·have h0:0 < Y:=Nat.pos_of_ne_zero (jX.1<|oT hb15);exact zw (zg<|SW.block<|zp<|zc I<|zc I<|zq (S:=[]) (zn (Vb (b24 hX) hY h0) I ⟨zb _,zb _,t9⟩ I)<|zc I<|za I (zi I I)<|za I (zi I I)<|zd I<|zd I<|ze<|zf<|zc I<|zc I<|zd I<|zd I<|zv<|SN.block (fun a w hh=>hK0 (⟨(Y,X % Y),hY,Nat.lt_trans (Nat.mod_lt _ h0) hY,za1 hG⟩) (Nat.mod_lt _ h0) a w<|hh.sub<|sB [0] I I))
  ·obtain rfl:Y=0:=Classical.byContradiction fun h=>oF hb15 (jX.2 h);refine zL ?_
   repeat (first | refine zV ?_ | refine zW d9 ?_)
   refine zX (zg<|zp<|zc I<|zq (S:=[]) (zn (Yj false<|b24 hX) I ⟨zb _,zb _,t9⟩ I)<|zq (S:=[_]) (zy 0 I I I k9 I<|m9 I)<|ze<|zG (fn:=Tryz.f112) (fun _ _ h=>h)<|Rs.le (zN I<|zZ 0 I I k9) ?_);rw [Nat.gcd_zero_right] at hG;exact YY (by show ((X:Nat):Int)=_;rw [hG];rfl)
end Sx
end Go.Proofs.YtmflnfnebmbjkaaGreat
namespace Go.Proofs.YtmflnfnebmbjkaaGreat
open Go.ChangeShapes Go.WideShapes Go.ChangeAt Go.RowKit
namespace Sx
def Vp:LN→Nat
 | []=>0
 | d :: l=>d + 256 * Vp l
theorem dg_valL:∀ (l:LN),(∀ d∈l,d < 256)→(∀ h:l≠[],l.getLast h≠0)→Nm.dg 256 (Vp l)=l
 | [],_,_=>by simp [Vp,Nm.dg_zero]
 | d :: l,h,hl=>by
  have hd:d < 256:=h d s9
  have ih:=dg_valL l (fun e he=>h e<|Jl _ he) (fun hne=>by
   have:=hl s9;rw [List.getLast_cons hne] at this
   exact this)
  have hne:Vp (d :: l)≠0:=by
   simp only [Vp];intro h0
   have hd0:d=0:=by omega
   have hl0:Vp l=0:=by omega
   rw [hl0,Nm.dg_zero] at ih;have:=hl s9;subst hd0;simp [← ih] at this
  rw [Nm.dg_pos d9 hne]
  have e1:Vp (d :: l) % 256=d:=by simp only [Vp];omega
  have e2:Vp (d :: l) / 256=Vp l:=by simp only [Vp];omega
  rw [e1,e2,ih]
theorem Vo {s:Bool} {b:LN} (hb:∀ d∈b,d < 256) (hv:vld s b=true):∃ x:Int,x.natAbs < zO∧s=decide (x < 0)∧b=(Nm.dg 256 x.natAbs).reverse:=by
 unfold vld at hv
 by_cases h0:b.length=0
 ·have:b=[]:=J2 h0;subst this;simp at hv;subst hv;exact ⟨0,by unfold zO;decide +kernel,rfl,by rw [show (0:Int).natAbs=0 from rfl,Nm.dg_zero];rfl⟩
 ·rw [Jb h0] at hv;simp only [JL,Jz] at hv;obtain ⟨h1,h2⟩:=hv
  have hdg:Nm.dg 256 (Vp b.reverse)=b.reverse:=by
   refine dg_valL _ (fun d hd=>hb d (by simpa using hd)) (fun hne=> ?_)
   cases b with
   | nil=>simp at h0
   | cons c t=>simpa using h2
  have hlen:Nm.len 256 (Vp b.reverse)=b.length:=by rw [← Nm.dg_length,hdg,List.length_reverse]
  have hpos:Vp b.reverse≠0:=fun h=>by rw [h,Nm.len_zero] at hlen;omega
  refine ⟨sgn s<|Vp b.reverse,?_,?_,?_⟩
  ·rw [yk];exact (Nm.len_le (B:=256) d9 64 _).1 o9
  ·rw [WX,Jo (by omega:0 < Vp b.reverse),Bool.and_true]
  ·rw [yk,hdg,List.reverse_reverse]
section
variable {H:Type}{enc:TypeId × Value→H}{P:Program}
end
section
variable {H:Type}{enc:TypeId × Value→H}
end
end Sx
end Go.Proofs.YtmflnfnebmbjkaaGreat
namespace Go.Proofs.YtmflnfnebmbjkaaGreat
open Go.RowKit
open Nm (W32)
namespace Sx
end Sx
namespace Sx
theorem zaO:(1:Int).natAbs < zO:=by unfold zO;decide +kernel
theorem b1:(1:Int).natAbs < b4:=b4_512 (by unfold zO;decide +kernel)
end Sx
namespace Sx
theorem Wy {x y:Int} (h:x=y):Con Tryz.prog 55 [Zs x,Zs y] (yK true):=con_same.mono ⟨zb _,zb _,trivial⟩ (zE (by rw [Jo h]))
end Sx
namespace Sx
section
variable {x y:Int}
theorem Vc {r:Int} (hx:x.natAbs < zO) (h:x.sign=r):Con Tryz.prog 66 [Zs x] (yZ r):=(YU hx).mono ⟨zb _,trivial⟩ (yU h)
theorem dq_dr (x:Int) (hy:y≠0):dq x y * y + dr x y=x:=by
 have e:=Nat.div_add_mod x.natAbs y.natAbs;have hr:x.natAbs % y.natAbs < y.natAbs:=Nat.mod_lt _ o9;unfold dq dr dqN drN up sgn
 generalize x.natAbs / y.natAbs=Q at *
 generalize x.natAbs % y.natAbs=R at *
 have eI:(y.natAbs:Int) * (Q:Int) + (R:Int)=(x.natAbs:Int):=by rw [← e];simp
 by_cases hx:x < 0
 ·by_cases hy':y < 0
  ·have e1:(y.natAbs:Int)= -y:=by omega
   rw [e1,Int.neg_mul] at eI;simp only [hx,hy',decide_true,bne_self_eq_false,Bool.false_and,Bool.false_eq_true,if_false,if_true];rw [Int.mul_comm];omega
  ·have e1:(y.natAbs:Int)=y:=by omega
   rw [e1] at eI;simp only [hx,hy',decide_true,decide_false,Bool.true_bne,Bool.not_false,Bool.true_and,Jz,if_true,if_false,Bool.false_eq_true]
   by_cases h0:0 < R
   ·simp only [Jh h0]
    have:(-((Q + 1:Nat):Int)) * y= -(y * Q) - y:=by rw [Int.neg_mul,Int.natCast_add,Int.add_mul,Int.mul_comm];omega
    rw [this];omega
   ·simp only [Jb h0]
    have:(-((Q:Nat):Int)) * y= -(y * Q):=by rw [Int.neg_mul,Int.mul_comm]
    rw [this];omega
 ·by_cases hy':y < 0
  ·have e1:(y.natAbs:Int)= -y:=by omega
   rw [e1,Int.neg_mul] at eI;simp only [hx,hy',decide_true,decide_false,Bool.false_bne,Bool.true_and,Jz,if_true]
   by_cases h0:0 < R
   ·simp only [Jh h0]
    have:(-((Q + 1:Nat):Int)) * y= -(y * Q) - y:=by rw [Int.neg_mul,Int.natCast_add,Int.add_mul,Int.mul_comm];omega
    rw [this];omega
   ·simp only [Jb h0]
    have:(-((Q:Nat):Int)) * y= -(y * Q):=by rw [Int.neg_mul,Int.mul_comm]
    rw [this];omega
  ·have e1:(y.natAbs:Int)=y:=by omega
   rw [e1] at eI;simp only [hx,hy',decide_false,bne_self_eq_false,Bool.false_and,Bool.false_eq_true,if_false];rw [Int.mul_comm];omega
theorem za9 (hy:y≠0):(dq x y).natAbs≤x.natAbs:=by unfold dq;rw [yk];exact dqN_le hy
theorem K9 (hy:y≠0):(dr x y).natAbs < y.natAbs:=by unfold dr;rw [yk];exact drN_lt hy
theorem dr_dvd (h:x.natAbs % y.natAbs=0):dr x y=0:=by
 unfold dr drN up sgn;rw [h];simp
theorem zab:(Wq x y).natAbs=Nat.gcd x.natAbs y.natAbs:=by unfold Wq;simp
theorem gcd_le (hy:y≠0):(Wq x y).natAbs≤y.natAbs:=by rw [zab];exact Nat.gcd_le_right _ o9
