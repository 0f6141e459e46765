/- THE WALKS of number's shiftLeft, shiftRight. THE WALK of number's quotientWord. THE WALK of number's divNat, for a divisor of two words or more. -/
import Derived.Test.YtmflnfnebmbjkaaGreatGZAT
import Derived.Lib.ItoaNum
set_option maxHeartbeats 8000000
set_option maxRecDepth 100000
namespace Go.Proofs.YtmflnfnebmbjkaaGreat
open Go.RowKit
open Nm (W32)
namespace Sx
theorem W9 {X j : Nat} {i : Int} (hi : i = (j : Int)) (hj : j < (cN .u32 (Nm.dg W32 X)).length) : (cN .u32 (Nm.dg W32 X))[i.toNat]? = some (.int .u32 ((X / W32 ^ j % W32 : Nat) : Int)) := by
  subst hi
  rw [Int.toNat_natCast, yW (by simpa using hj), Nm.dg_getD d9]
theorem own_atw {n A o j : Nat} (ho : o = j) (hj : j < n) : ((cN .u32 (Nm.pad W32 n A)).map isD)[o]? = some (isD (.int .u32 ((A / W32 ^ j % W32 : Nat) : Int))) := by
  subst ho
  rw [List.getElem?_map, yW (by simpa using hj), Nm.pad_getD _ _ _ _ hj]
  rfl
theorem jp {n A j : Nat} {i : Int} (hi : i = (j : Int)) (hj : j < n) : (cN .u32 (Nm.pad W32 n A))[i.toNat]? = some (.int .u32 ((A / W32 ^ j % W32 : Nat) : Int)) := by
  subst hi
  rw [Int.toNat_natCast, yW (by simpa using hj), Nm.pad_getD _ _ _ _ hj]
theorem zcf (A j : Nat) : A / W32 ^ j % W32 < 4294967296 := Nat.mod_lt _ d9
theorem st_pow {s : Nat} (hs : s < 32) : 2 ^ s * 2 ^ (32 - s) = W32 := by rw [← Nat.pow_add, show s + (32 - s) = 32 by omega]
theorem pow32 {s : Nat} (hs : s < 32) : 2 ^ s ≤ 2147483648 := Nat.le_trans (Nat.pow_le_pow_right d9 (show s ≤ 31 by omega)) d9
theorem shl64 {x s : Nat} (hx : x < 4294967296) (hs : s ≤ 32) : IntKind.u64.wrap ((x : Int) * 2 ^ (min s IntKind.u64.bits)) = ((x * 2 ^ s : Nat) : Int) := by
  have h1 : min s IntKind.u64.bits = s := Nat.min_eq_left (Nat.le_trans hs d9)
  have h2 : 2 ^ s ≤ 4294967296 := Nat.le_trans (Nat.pow_le_pow_right d9 hs) d9
  have h3 : x * 2 ^ s ≤ 4294967295 * 4294967296 := Nat.mul_le_mul o9 h2
  have e : (x : Int) * 2 ^ s = ((x * 2 ^ s : Nat) : Int) := by simp
  rw [h1, e]
  exact Yr o9 o9
theorem lo32 (v : Nat) : IntKind.u32.wrap (v : Int) = ((v % 4294967296 : Nat) : Int) := by rw [wrap_u32]; simp
theorem hi64 (v : Nat) : (v : Int) / 2 ^ (min 32 IntKind.u64.bits) = ((v / 4294967296 : Nat) : Int) := by
  have : min 32 IntKind.u64.bits = 32 := rfl
  rw [this]
  simp
theorem or_low {a lo s : Nat} (ha : a < 2 ^ s) (hl : lo % 2 ^ s = 0) (hlt : a + lo < W32) : bits .or .u32 (a : Int) (lo : Int) = ((a + lo : Nat) : Int) := by
  have hlt' : a + lo < 4294967296 := hlt
  rw [u32_or_nat a lo o9 o9]
  congr 1
  obtain ⟨c, hc⟩ : ∃ c, lo = 2 ^ s * c := ⟨lo / 2 ^ s, by have := Nat.div_add_mod lo (2 ^ s); omega⟩
  have := Nat.two_pow_add_eq_or_of_lt ha c
  rw [hc, Nat.or_comm, Nat.add_comm]
  exact this.symm
theorem own_set2 {n A C j k d e : Nat} {o p : Nat} {u v : Int} (ho : o = j) (hp : p = k) (hu : u = (d : Int)) (hv : v = (e : Int)) (hm : ((Nm.pad W32 n A).set j d).set k e = Nm.pad W32 n C) :
    (((cN .u32 (Nm.pad W32 n A)).map isD).set o (isD (.int .u32 u))).set p (isD (.int .u32 v)) = (cN .u32 (Nm.pad W32 n C)).map isD := by
  subst ho hp hu hv
  rw [← hm, ← List.map_set, Zf, ← List.map_set, Zf]
theorem con_shl {X s : Nat} (hX : X < W32 ^ 100) (hs : s < 32) : ConO Tryz.prog 132 [Y4 X, yZ (s : Int)] ((cN .u32 (Nm.dg W32 X)).length + 1) ((cN .u32 (Nm.pad W32 ((cN .u32 (Nm.dg W32 X)).length + 1) (X * 2 ^ s))).map isD) := by
  have hn : (cN .u32 (Nm.dg W32 X)).length = Nm.len W32 X := by rw [ye, Nm.dg_length]
  have hn1 : (cN .u32 (Nm.dg W32 X)).length ≤ 100 := by rw [hn]; exact (Nm.len_le (B := W32) d9 100 _).2 hX
  have hXn : X < W32 ^ (cN .u32 (Nm.dg W32 X)).length := by rw [hn]; exact Nm.lt_pow_len d9 X
  refine con_ofO Tryz.func132 k9 rfl k9 fun base w0 => ?_
  refine zh ?_
  refine zf ?_
  refine za rfl (zH rfl) ?_
  refine zv ?_
  refine zg ?_
  refine zh ?_
  refine zf ?_
  refine za rfl (zl rfl) ?_
  refine za rfl (Rd.len (e := 142) rfl k9) ?_
  refine za rfl (Rd.add rfl rfl ⟨by omega, by omega⟩) ?_
  refine yD (S := []) (VZ (e := 142) (z := .int .u32 0) (n := (cN .u32 (Nm.dg W32 X)).length + 1) 4 rfl rfl k9 k9 rfl o9 o9 o9 d9 rfl) ?_
  rintro _ ⟨g12, rfl⟩
  refine za rfl (zH rfl) ?_
  refine zv ?_
  refine zg ?_
  refine zh ?_
  refine zh ?_
  refine zf ?_
  refine za rfl (zl rfl) ?_
  refine za rfl (Rd.len (e := 142) rfl k9) ?_
  refine za rfl (zl rfl) ?_
  refine zv ?_
  refine zg ?_
  refine SW.block ?_
  refine z1 (ι := {k : Nat // k ≤ (cN .u32 (Nm.dg W32 X)).length}) (fun ⟨k, hk⟩ => St.of [(1, yZ (s : Int)), (5, isD (.slice (some ⟨g12, 0, none⟩) ((cN .u32 (Nm.dg W32 X)).length + 1) ((cN .u32 (Nm.dg W32 X)).length + 1))), (13, Y4 X), (14, yZ ((cN .u32 (Nm.dg W32 X)).length : Int)), (15, yZ (k : Int))] [(g12, (cN .u32 (Nm.pad W32 ((cN .u32 (Nm.dg W32 X)).length + 1) (X % W32 ^ k * 2 ^ s))).map isD)]) (fun ⟨k, hk⟩ => (cN .u32 (Nm.dg W32 X)).length - k) (⟨0, Nat.zero_le _⟩) ?_ ?_
  · exact ⟨⟨_, rfl, (sT rfl)⟩, [0], by decide, ⟨⟨_, rfl, yN (by rw [Nat.pow_zero, Nat.mod_one, Nat.zero_mul, YN])⟩, trivial⟩⟩
  · rintro ⟨k, hk⟩ K0 hK0
    refine zh ?_
    refine zf ?_
    refine za rfl (ya rfl rfl) ?_
    refine zv ?_
    refine zg ?_
    refine zh ?_
    refine zD rfl (fun hb16 => ?_) (fun hb16 => ?_)
    · have hlt : k < (cN .u32 (Nm.dg W32 X)).length := (by have := oT hb16; omega); have hx := zcf X k; have hstep := Nm.shl_step (n := (cN .u32 (Nm.dg W32 X)).length + 1) (X := X) (i := k) (st_pow hs) (Nat.pow_pos d9) o9 rfl rfl; have hhi : X / W32 ^ k % W32 * 2 ^ s / 4294967296 < 4294967296 := Nat.div_lt_of_lt_mul (Nat.mul_lt_mul_of_lt_of_le hx (Nat.le_trans (pow32 hs) d9) d9)
      refine zw ?_
      refine zg ?_
      refine zh ?_
      refine SW.block ?_
      refine zh ?_
      refine zf ?_
      refine za rfl (zl rfl) ?_
      refine za rfl (qq (e := 142) rfl rfl k9 k9 o9 (W9 (j := k) rfl hlt)) ?_
      refine za rfl (ZY rfl k9 s9) ?_
      refine za rfl (zH rfl) ?_
      refine za rfl (zH rfl) ?_
      refine zv ?_
      refine zg ?_
      refine zh ?_
      refine zf ?_
      refine za rfl (zl rfl) ?_
      refine za rfl (Zz .u32 rfl k9 k9 (Yr o9 o9)) ?_
      refine za rfl (zl rfl) ?_
      refine za rfl (YD (s := s) rfl rfl (shl64 hx o9)) ?_
      refine za rfl (zH rfl) ?_
      refine zv ?_
      refine zg ?_
      refine zh ?_
      refine zf ?_
      refine za rfl (zl rfl) ?_
      refine za rfl (zl rfl) ?_
      refine za rfl (yY (e := 142) rfl rfl k9 k9 o9 o9) ?_
      refine za rfl (ZS 0 rfl rfl (own_atw (j := k) o9 o9) k9 zt) ?_
      refine za rfl (zl rfl) ?_
      refine za rfl (Zz .u64 rfl k9 k9 (lo32 _)) ?_
      refine za rfl (Vn rfl rfl (or_low hstep.2.1 hstep.2.2.1 hstep.2.2.2)) ?_
      refine za rfl (yY (e := 142) rfl rfl k9 k9 o9 o9) ?_
      refine yD (S := [_]) (Zk 0 rfl rfl rfl k9 (by simp at hlt ⊢; omega) (m9 rfl)) ?_
      rintro _ rfl
      refine zv ?_
      refine zg ?_
      refine zf ?_
      refine za rfl (zl rfl) ?_
      refine za rfl (zl rfl) ?_
      refine za rfl (Rd.add rfl rfl ⟨by omega, by omega⟩) ?_
      refine za rfl (zl rfl) ?_
      refine za rfl (qc (s := 32) rfl rfl (hi64 _)) ?_
      refine za rfl (Zz .u64 rfl k9 k9 (by rw [lo32, Nat.mod_eq_of_lt hhi])) ?_
      refine za rfl (yY (e := 142) rfl rfl k9 k9 o9 o9) ?_
      refine yD (S := [_]) (Zk 0 rfl rfl rfl k9 (by simp at hlt ⊢; omega) (m9 rfl)) ?_
      rintro _ rfl
      refine zv ?_
      refine SN.block ?_
      refine zg ?_
      refine zf ?_
      refine za rfl (Rd.add rfl rfl ⟨by omega, by omega⟩) ?_
      refine za rfl (zl rfl) ?_
      refine zv ?_
      exact fun a w hh => hK0 (⟨k + 1, hlt⟩) (by show (cN .u32 (Nm.dg W32 X)).length - (k + 1) < (cN .u32 (Nm.dg W32 X)).length - k; omega) a w (hh.sub (⟨⟨_, rfl, ⟨lq rfl, ⟨lq rfl, ⟨lq rfl, ⟨lq rfl, ⟨⟨_, rfl, yU o9⟩, trivial⟩⟩⟩⟩⟩⟩, [0], by decide, ⟨⟨_, rfl, yN (own_set2 (j := k) (k := k + 1) o9 o9 rfl rfl hstep.1)⟩, trivial⟩⟩))
    · obtain rfl : k = (cN .u32 (Nm.dg W32 X)).length := by have := oF hb16; omega
      refine zL ?_
      repeat (first | refine zV ?_ | refine zW d9 ?_)
      refine zX ?_
      refine zg ?_
      refine zh ?_
      refine zf ?_
      refine za rfl (zl rfl) ?_
      refine za rfl (zH rfl) ?_
      refine zv ?_
      refine zg ?_
      refine SW.retO (fn := Tryz.f132) (fun _ _ h => h) 0 rfl rfl rfl ?_
      exact yN (by rw [Nat.mod_eq_of_lt hXn])
theorem le_sl {xs ys : List Value} (h : xs = ys) : Le (slD xs) (slD ys) := by subst h; exact zb _
theorem set_at {ds : List D} {o : Nat} {d : D} (h : o < ds.length) : (ds.set o d)[o]? = some d := by simp [h]
theorem shr32 {x s : Nat} (hs : s < 32) : (x : Int) / 2 ^ (min s IntKind.u32.bits) = ((x / 2 ^ s : Nat) : Int) := by
  have h1 : min s IntKind.u32.bits = s := Nat.min_eq_left (Nat.le_trans (Nat.le_of_lt hs) d9)
  rw [h1]
  simp
theorem zaH {n R s k v : Nat} (hs : s < 32) (hk : k < n) (hv : v = R / W32 ^ k % W32 / 2 ^ s + (R / W32 ^ (k + 1) % W32) * 2 ^ (32 - s) % W32) : (Nm.pad W32 n (R / 2 ^ s % W32 ^ k)).set k v = Nm.pad W32 n (R / 2 ^ s % W32 ^ (k + 1)) := by
  have h := Nm.shr_word (S := 2 ^ s) (T := 2 ^ (32 - s)) (X := R) (i := k) (st_pow hs)
  rw [← hv] at h
  rw [Nm.pad_next d9 hk (Nat.mod_lt _ (Nat.pow_pos d9)) (by rw [← h]; exact Nat.mod_lt _ d9), ← h, ← Nm.mod_next]
theorem shr_or {R s k : Nat} (hs : s < 32) : bits .or .u32 ((R / W32 ^ k % W32 / 2 ^ s : Nat) : Int) (((R / W32 ^ (k + 1) % W32) * 2 ^ (32 - s) % 4294967296 : Nat) : Int) = ((R / W32 ^ k % W32 / 2 ^ s + (R / W32 ^ (k + 1) % W32) * 2 ^ (32 - s) % W32 : Nat) : Int) := by
  have hST := st_pow hs
  have hx := zcf R k
  have ha : R / W32 ^ k % W32 / 2 ^ s < 2 ^ (32 - s) := Nat.div_lt_of_lt_mul (by rw [hST]; exact hx)
  have hl : (R / W32 ^ (k + 1) % W32) * 2 ^ (32 - s) % W32 % 2 ^ (32 - s) = 0 := by
    rw [← hST, Nat.mul_mod_mul_right, Nat.mul_mod_left]
  refine or_low ha hl ?_
  have h := Nm.shr_word (S := 2 ^ s) (T := 2 ^ (32 - s)) (X := R) (i := k) hST
  rw [← h]
  exact Nat.mod_lt _ d9
theorem Vw {n A C j d : Nat} {o : Nat} {u : Int} (ho : o = j) (hu : u = (d : Int)) (hm : (Nm.pad W32 n A).set j d = Nm.pad W32 n C) : ((cN .u32 (Nm.pad W32 n A)).map isD).set o (isD (.int .u32 u)) = (cN .u32 (Nm.pad W32 n C)).map isD := by
  subst ho hu
  rw [← hm, ← List.map_set, Zf]
theorem own_set11 {n A C j d : Nat} {o p : Nat} {u v : Int} (ho : o = j) (hp : p = j) (hv : v = (d : Int)) (hm : (Nm.pad W32 n A).set j d = Nm.pad W32 n C) : (((cN .u32 (Nm.pad W32 n A)).map isD).set o (isD (.int .u32 u))).set p (isD (.int .u32 v)) = (cN .u32 (Nm.pad W32 n C)).map isD := by
  subst ho hp
  rw [List.set_set]
  exact Vw rfl hv hm
theorem con_shr {R s n : Nat} (hR : R < W32 ^ n) (hn1 : n ≤ 1000) (hs : s < 32) : Con Tryz.prog 134 [slD (cN .u32 (Nm.pad W32 n R)), yZ (s : Int)] (slD (cN .u32 (Nm.pad W32 n (R / 2 ^ s)))) := by
  have hn : (cN .u32 (Nm.pad W32 n R)).length = n := by simp
  refine z6 Tryz.func134 k9 rfl k9 fun base w0 => ?_
  refine zh ?_
  refine zf ?_
  refine za rfl (zH rfl) ?_
  refine zv ?_
  refine zg ?_
  refine zh ?_
  refine zf ?_
  refine za rfl (zl rfl) ?_
  refine za rfl (Rd.len (e := 142) rfl k9) ?_
  refine yD (S := []) (VZ (e := 142) (z := .int .u32 0) (n := n) 4 rfl rfl k9 k9 rfl (by rw [hn]) (by rw [hn]) o9 d9 rfl) ?_
  rintro _ ⟨g10, rfl⟩
  refine za rfl (zH rfl) ?_
  refine zv ?_
  refine zg ?_
  refine zh ?_
  refine zh ?_
  refine zf ?_
  refine za rfl (zl rfl) ?_
  refine za rfl (Rd.len (e := 142) rfl k9) ?_
  refine za rfl (zl rfl) ?_
  refine zv ?_
  refine zg ?_
  refine SW.block ?_
  refine z1 (ι := {k : Nat // k ≤ n}) (fun ⟨k, hk⟩ => St.of [(0, slD (cN .u32 (Nm.pad W32 n R))), (1, yZ (s : Int)), (5, isD (.slice (some ⟨g10, 0, none⟩) n n)), (11, slD (cN .u32 (Nm.pad W32 n R))), (12, yZ (n : Int)), (13, yZ (k : Int))] [(g10, (cN .u32 (Nm.pad W32 n (R / 2 ^ s % W32 ^ k))).map isD)]) (fun ⟨k, hk⟩ => n - k) (⟨0, Nat.zero_le _⟩) ?_ ?_
  · exact ⟨⟨_, rfl, ⟨lq rfl, ⟨lq rfl, ⟨lq rfl, ⟨lq rfl, ⟨⟨_, rfl, yU (by rw [hn])⟩, ⟨lq rfl, trivial⟩⟩⟩⟩⟩⟩⟩, [0], by decide, ⟨⟨_, rfl, yN (by rw [Nat.pow_zero, Nat.mod_one, YN])⟩, trivial⟩⟩
  · rintro ⟨k, hk⟩ K0 hK0
    refine zh ?_
    refine zf ?_
    refine za rfl (ya rfl rfl) ?_
    refine zv ?_
    refine zg ?_
    refine zh ?_
    refine zD rfl (fun hb14 => ?_) (fun hb14 => ?_)
    · have hlt : k < n := (by have := oT hb14; omega); have hx := zcf R k; have hy := zcf R (k + 1)
      refine zw ?_
      refine zg ?_
      refine zh ?_
      refine SW.block ?_
      refine zh ?_
      refine zf ?_
      refine za rfl (zl rfl) ?_
      refine za rfl (qq (e := 142) rfl rfl k9 k9 o9 (jp (j := k) rfl hlt)) ?_
      refine za rfl (ZY rfl k9 s9) ?_
      refine za rfl (zH rfl) ?_
      refine za rfl (zH rfl) ?_
      refine zv ?_
      refine zg ?_
      refine zh ?_
      refine zf ?_
      refine za rfl (zl rfl) ?_
      refine za rfl (zl rfl) ?_
      refine za rfl (zl rfl) ?_
      refine za rfl (zl rfl) ?_
      refine za rfl (qc (s := s) rfl rfl (shr32 hs)) ?_
      refine za rfl (yY (e := 142) rfl rfl k9 k9 o9 o9) ?_
      refine yD (S := [_]) (Zk 0 rfl rfl rfl k9 (by simp; omega) (m9 rfl)) ?_
      rintro _ rfl
      refine zv ?_
      refine zg ?_
      refine zh ?_
      refine zf ?_
      refine za rfl (zl rfl) ?_
      refine za rfl (Rd.add rfl rfl ⟨by omega, by omega⟩) ?_
      refine za rfl (zl rfl) ?_
      refine za rfl (Rd.len (e := 142) rfl k9) ?_
      refine za rfl (ya rfl rfl) ?_
      refine zv ?_
      refine zg ?_
      refine zD rfl (fun hb28 => ?_) (fun hb28 => ?_)
      · have hlt2 : k + 1 < n := (by have := oT hb28; omega)
        refine yf [g10] (.r 0 (.r 1 (.r 2 (.q 3 (.r 4 (.r 5 (.r 6 (.r 7 (.r 8 (.r 9 (.r 10 (.r 11 (.r 12 (.r 13 (.r 14 (.r 15 (.e 16 .fin .no))))))))))))))))) k9 k9 (fun d _ _ _ _ h => by cases d <;> exact h) ?_
        refine zj rfl rfl (zl rfl) ?_
        refine zj rfl rfl (zl rfl) ?_
        refine zj rfl rfl (yY (e := 142) rfl rfl k9 k9 o9 o9) ?_
        refine Ya rfl rfl (ZS 0 rfl rfl (set_at (by simp; omega)) k9 zt) ?_
        refine zj rfl rfl (zl rfl) ?_
        refine zj rfl rfl (zl rfl) ?_
        refine zj rfl rfl (Rd.add rfl rfl ⟨by omega, by omega⟩) ?_
        refine zj rfl rfl (qq (e := 142) rfl rfl k9 k9 o9 (jp (j := k + 1) o9 hlt2)) ?_
        refine zj rfl rfl (ZY rfl k9 (qY (j := 0) rfl ZR)) ?_
        refine zj rfl rfl (Zz .u32 rfl k9 k9 (Yr o9 o9)) ?_
        refine zj rfl rfl (zl rfl) ?_
        refine zj rfl rfl (yl rfl rfl ⟨by omega, by omega⟩) ?_
        refine zj rfl rfl (YD (s := 32 - s) rfl (by rw [show ((32 - s : Nat) : Int) = 32 - (s : Int) by omega]; rfl) (shl64 hy o9)) ?_
        refine zj rfl rfl (Zz .u64 rfl k9 k9 (lo32 _)) ?_
        refine zj rfl rfl (Vn rfl rfl (shr_or hs)) ?_
        refine zj rfl rfl (yY (e := 142) rfl rfl k9 k9 o9 o9) ?_
        refine jC rfl (Zk 0 rfl rfl rfl k9 (by simp; omega) (List.mem_of_getElem? (i := 0) rfl)) ?_ yB
        rintro _ rfl
        refine yy ?_
        refine SN.block ?_
        refine zg ?_
        refine zf ?_
        refine za rfl (Rd.add rfl rfl ⟨by omega, by omega⟩) ?_
        refine za rfl (zl rfl) ?_
        refine zv ?_
        exact fun a w hh => hK0 (⟨k + 1, hlt⟩) (by show n - (k + 1) < n - k; omega) a w (hh.sub (⟨⟨_, rfl, ⟨lq rfl, ⟨lq rfl, ⟨lq rfl, ⟨lq rfl, ⟨lq rfl, ⟨⟨_, rfl, yU o9⟩, trivial⟩⟩⟩⟩⟩⟩⟩, [0], by decide, ⟨⟨_, rfl, yN (own_set11 (j := k) o9 o9 rfl (zaH hs hlt rfl))⟩, trivial⟩⟩))
      · have hlast : R / W32 ^ (k + 1) % W32 = 0 := (by have h9 := oF hb28; rw [show k + 1 = n by omega, Nat.div_eq_of_lt hR]; rfl)
        refine zw ?_
        refine SN.block ?_
        refine zg ?_
        refine zf ?_
        refine za rfl (Rd.add rfl rfl ⟨by omega, by omega⟩) ?_
        refine za rfl (zl rfl) ?_
        refine zv ?_
        exact fun a w hh => hK0 (⟨k + 1, hlt⟩) (by show n - (k + 1) < n - k; omega) a w (hh.sub (⟨⟨_, rfl, ⟨lq rfl, ⟨lq rfl, ⟨lq rfl, ⟨lq rfl, ⟨lq rfl, ⟨⟨_, rfl, yU o9⟩, trivial⟩⟩⟩⟩⟩⟩⟩, [0], by decide, ⟨⟨_, rfl, yN (Vw (j := k) o9 rfl (zaH hs hlt (by rw [hlast, Nat.zero_mul, Nat.zero_mod, Nat.add_zero])))⟩, trivial⟩⟩))
    · obtain rfl : n = k := by have := oF hb14; omega
      refine zL ?_
      repeat (first | refine zV ?_ | refine zW d9 ?_)
      refine zX ?_
      refine zg ?_
      refine zh ?_
      refine zf ?_
      refine jD 5 0 (cN .u32 (Nm.pad W32 n (R / 2 ^ s % W32 ^ n))) rfl rfl s9 (Nat.le_refl _) rfl ?_
      refine za rfl (zl rfl) ?_
      refine za rfl (zH rfl) ?_
      refine zv ?_
      refine zg ?_
      refine zG (fn := Tryz.f134) (fun _ _ h => h) (Rs.le (zN rfl (zo rfl)) ?_)
      exact le_sl (by rw [Nat.mod_eq_of_lt (Nat.lt_of_le_of_lt (Nat.div_le_self _ _) hR)])
end Sx
namespace Sx
theorem Wj {k : IntKind} {a b : Int} (h : a = b) : Le (isD (.int k a)) (isD (.int k b)) := by subst h; exact zb _
theorem sub1 {q : Nat} (h0 : 0 < q) (h : q ≤ 4294967297) : IntKind.u64.wrap ((q : Int) - 1) = ((q - 1 : Nat) : Int) := by
  rw [show (q : Int) - 1 = ((q - 1 : Nat) : Int) by omega]
  exact Yr o9 o9
theorem cv64 {x y : Nat} (h : x = y) (hx : x < 4294967296) : IntKind.u64.wrap (x : Int) = (y : Int) := by
  subst h
  exact Yr o9 o9
theorem add64 {a b : Nat} (h : a + b < 18446744073709551616) : IntKind.u64.wrap ((a : Int) + (b : Int)) = ((a + b : Nat) : Int) := by
  rw [← Int.natCast_add]
  exact Yr o9 o9
theorem mul64 {a b : Nat} (ha : a ≤ 4294967295) (hb : b ≤ 4294967295) : IntKind.u64.wrap ((a : Int) * (b : Int)) = ((a * b : Nat) : Int) := by
  have := Nat.mul_le_mul ha hb
  rw [← Int.natCast_mul]
  exact Yr o9 o9
theorem quo64 {a b : Nat} (ha : a < 18446744073709551616) : IntKind.u64.wrap ((a : Int).tdiv (b : Int)) = ((a / b : Nat) : Int) := by
  have h := Nat.div_le_self a b
  rw [← Int.ofNat_tdiv]
  generalize a / b = z at h ⊢
  exact Yr o9 o9
theorem or64 {a b c : Nat} (ha : a < 4294967296) (hb : b < 4294967296) (h : a * 4294967296 + b = c) : bits .or .u64 ((a * 2 ^ 32 : Nat) : Int) (b : Int) = (c : Int) := by
  subst h
  have h := u64_or_nat (a * 2 ^ 32) b o9 o9
  rw [h]
  congr 1
  have := Nat.two_pow_add_eq_or_of_lt (i := 32) (b := b) o9 a
  rw [show a * 2 ^ 32 = 2 ^ 32 * a from Nat.mul_comm _ _]
  exact this.symm
theorem sub64 {x y b : Nat} (hx : x < 4294967296) (hy : y < 4294967296) (hb : b ≤ 1) : IntKind.u64.wrap (IntKind.u64.wrap ((x : Int) - (y : Int)) - (b : Int)) = ((if x < y + b then x + 18446744073709551616 - y - b else x - y - b : Nat) : Int) := by
  rw [V3, V3]
  split <;> omega
theorem zaC {x y b c : Nat} (hx : x < 4294967296) (hy : y < 4294967296) (hb : b ≤ 1) (hc : c = if x < y + b then 1 else 0) : IntKind.u32.wrap ((if x < y + b then x + 18446744073709551616 - y - b else x - y - b : Nat) : Int) = ((x + c * W32 - y - b : Nat) : Int) := by
  have e : W32 = 4294967296 := rfl
  rw [lo32, hc, e]
  split <;> omega
theorem zaD {x y b c : Nat} (hx : x < 4294967296) (hy : y < 4294967296) (hb : b ≤ 1) (hc : c = if x < y + b then 1 else 0) : ((if x < y + b then x + 18446744073709551616 - y - b else x - y - b : Nat) : Int) / 2 ^ (min 63 IntKind.u64.bits) = (c : Int) := by
  have e : min 63 IntKind.u64.bits = 63 := rfl
  rw [e, hc]
  split <;> omega
theorem add32 {a b c : Nat} (h : (a + b) % W32 = c) : IntKind.u32.wrap ((a : Int) + (b : Int)) = (c : Int) := by
  rw [← Int.natCast_add, lo32]
  exact congrArg _ h
theorem W3 {lo hi : LN} {n A o j x : Nat} (ho : o = lo.length + j) (hj : j < n) (hx : A / W32 ^ j % W32 = x) : ((cN .u32 (lo ++ Nm.pad W32 n A ++ hi)).map isD)[o]? = some (isD (.int .u32 (x : Int))) := by
  subst ho hx
  have h1 : j < (Nm.pad W32 n A).length := by simpa using hj
  have e : (lo ++ Nm.pad W32 n A ++ hi).getD (lo.length + j) 0 = A / W32 ^ j % W32 := by
    rw [List.getD_eq_getElem?_getD, List.append_assoc, List.getElem?_append_right o9, Nat.add_sub_cancel_left, List.getElem?_append_left h1, ← List.getD_eq_getElem?_getD, Nm.pad_getD _ _ _ _ hj]
  rw [List.getElem?_map, yW (by simp; omega), e]
  rfl
theorem Wa {lo hi : LN} {n A C o j d : Nat} {v : Int} (ho : o = lo.length + j) (hj : j < n) (hv : v = (d : Int)) (hm : (Nm.pad W32 n A).set j d = Nm.pad W32 n C) : ((cN .u32 (lo ++ Nm.pad W32 n A ++ hi)).map isD).set o (isD (.int .u32 v)) = (cN .u32 (lo ++ Nm.pad W32 n C ++ hi)).map isD := by
  have h1 : j < (Nm.pad W32 n A).length := by simpa using hj
  refine W7 (j := lo.length + j) ho hv ?_
  rw [List.append_assoc, List.set_append_right _ _ o9, Nat.add_sub_cancel_left, List.set_append_left _ _ h1, hm, List.append_assoc]
theorem zaK {lo hi : LN} {n A o j : Nat} (ho : o = lo.length + j) (hj : j < n) : o < ((cN .u32 (lo ++ Nm.pad W32 n A ++ hi)).map isD).length := by
  simp
  omega
theorem con_qw {lo up : LN} {g c U V m : Nat} (hm : m ≤ 1000) (hV : V < W32 ^ (m + 2)) (hbig : W32 ≤ 2 * (V / W32 ^ (m + 1))) (hU : U < V * W32) : ConB Tryz.prog 133 g ((cN .u32 (lo ++ Nm.pad W32 (m + 3) (U) ++ up)).map isD) ((cN .u32 (lo ++ Nm.pad W32 (m + 3) (U % V) ++ up)).map isD) [isD (.slice (some ⟨g, lo.length, none⟩) (m + 3) c), slD (cN .u32 (Nm.pad W32 (m + 2) V))] (isD (.int .u32 ((U / V : Nat) : Int))) := by
  have hB : 2 ≤ W32 := by decide
  have eB : W32 = 4294967296 := rfl
  have hn : (cN .u32 (Nm.pad W32 (m + 2) V)).length = m + 2 := by simp
  obtain ⟨h, hh⟩ : ∃ h, h = V / W32 ^ (m + 1) := ⟨_, rfl⟩
  obtain ⟨v2, hv2⟩ : ∃ v2, v2 = V / W32 ^ m % W32 := ⟨_, rfl⟩
  obtain ⟨u2, hu2⟩ : ∃ u2, u2 = U / W32 ^ m % W32 := ⟨_, rfl⟩
  rw [← hh] at hbig
  obtain ⟨hV0, hh0, hhB⟩ := Nm.gs_pos hB hh hV hbig
  have h2 : V / W32 ^ m = h * W32 + v2 := by rw [hh, hv2, Nat.pow_succ, ← Nat.div_div_eq_div_mul]; exact (Nat.div_add_mod' _ _).symm
  have hv2B : v2 < W32 := by rw [hv2]; exact Nat.mod_lt _ d9
  have hu2B : u2 < 4294967296 := by rw [hu2]; exact Nat.mod_lt _ d9
  have hUp : U < W32 ^ (m + 3) := Nat.lt_of_lt_of_le hU (by rw [Nat.pow_succ W32 (m + 2)]; exact Nat.mul_le_mul_right _ (Nat.le_of_lt hV))
  have eh : V / W32 ^ (m + 1) % W32 = h := by rw [← hh]; exact Nat.mod_eq_of_lt hhB
  have hut := zcf U (m + 2)
  have hut1 := zcf U (m + 1)
  have htop : (U / W32 ^ (m + 2) % W32) * 4294967296 + U / W32 ^ (m + 1) % W32 = U / W32 ^ (m + 1) := by rw [Nat.mod_eq_of_lt (Nat.div_lt_of_lt_mul (by rw [← Nat.pow_succ]; exact hUp)), Nat.pow_succ W32 (m + 1), ← Nat.div_div_eq_div_mul]; exact Nat.div_add_mod' _ _
  have htB : U / W32 ^ (m + 1) < 18446744073709551616 := by omega
  refine con_ofB Tryz.func133 k9 rfl k9 fun base w0 => ?_
  refine zh ?_
  refine zf ?_
  refine za rfl (zH rfl) ?_
  refine zv ?_
  refine zg ?_
  refine zh ?_
  refine zf ?_
  refine za rfl (zl rfl) ?_
  refine za rfl (Rd.len (e := 142) rfl k9) ?_
  refine za rfl (zH rfl) ?_
  refine zv ?_
  refine zg ?_
  refine zh ?_
  refine zf ?_
  refine za rfl (zl rfl) ?_
  refine za rfl (zl rfl) ?_
  refine za rfl (yl rfl rfl ⟨by omega, by omega⟩) ?_
  refine za rfl (qq (e := 142) rfl rfl k9 k9 o9 (jp (j := m + 1) o9 o9)) ?_
  refine za rfl (ZY rfl k9 s9) ?_
  refine za rfl (Zz .u32 rfl k9 k9 (cv64 eh o9)) ?_
  refine za rfl (zH rfl) ?_
  refine zv ?_
  refine zg ?_
  refine zh ?_
  refine yf [] (.r 0 (.r 1 (.r 2 (.r 3 (.r 4 (.r 5 (.r 6 (.r 7 (.r 8 (.r 9 (.r 10 (.r 11 (.r 12 (.r 13 .fin)))))))))))))) k9 k9 (fun d _ _ _ _ h => by cases d <;> exact h) ?_
  refine zj rfl rfl (zl rfl) ?_
  refine zj rfl rfl (zl rfl) ?_
  refine zj rfl rfl (yY (e := 142) rfl rfl k9 k9 o9 o9) ?_
  refine zj rfl rfl (ZS 0 rfl rfl (W3 (j := m + 2) o9 o9 rfl) k9 zt) ?_
  refine zj rfl rfl (Zz .u32 rfl k9 k9 (cv64 rfl hut)) ?_
  refine zj rfl rfl (YD (s := 32) rfl rfl (shl64 hut d9)) ?_
  refine zj rfl rfl (zl rfl) ?_
  refine zj rfl rfl (zl rfl) ?_
  refine zj rfl rfl (yl rfl rfl ⟨by omega, by omega⟩) ?_
  refine zj rfl rfl (yY (e := 142) rfl rfl k9 k9 o9 o9) ?_
  refine zj rfl rfl (ZS 0 rfl rfl (W3 (j := m + 1) o9 o9 rfl) k9 zt) ?_
  refine zj rfl rfl (Zz .u32 rfl k9 k9 (cv64 rfl hut1)) ?_
  refine zj rfl rfl (Vn rfl rfl (or64 hut hut1 htop)) ?_
  refine zj rfl rfl (zH rfl) ?_
  refine yy ?_
  refine zg ?_
  refine zh ?_
  refine zf ?_
  refine za rfl (zl rfl) ?_
  refine za rfl (zl rfl) ?_
  refine za rfl (Rd.quoW rfl rfl o9 (quo64 htB)) ?_
  refine za rfl (zH rfl) ?_
  refine zv ?_
  refine zg ?_
  refine zh ?_
  refine zf ?_
  refine za rfl (zl rfl) ?_
  refine za rfl (zl rfl) ?_
  refine za rfl (Rd.remW rfl rfl o9 (Int.ofNat_tmod _ _).symm) ?_
  refine za rfl (zH rfl) ?_
  refine zv ?_
  refine zg ?_
  refine zh ?_
  refine qF (fun σ => ∃ q, (q < W32 ∧ (q = U / V ∨ q = U / V + 1)) ∧ σ = St.of [(0, isD (.slice (some ⟨g, lo.length, none⟩) (m + 3) c)), (1, slD (cN .u32 (Nm.pad W32 (m + 2) V))), (5, yZ ((m + 2 : Nat) : Int)), (8, isD (.int .u64 ((q : Nat) : Int)))] [(g, (cN .u32 (lo ++ Nm.pad W32 (m + 3) (U) ++ up)).map isD)]) ?_ ?_
  · refine SW.block ?_
    refine z1 (ι := {p : Nat × Nat // Nm.Gs W32 U V m h v2 p.1 p.2 ∧ p.2 < W32}) (fun ⟨⟨q, r⟩, hgr⟩ => St.of [(0, isD (.slice (some ⟨g, lo.length, none⟩) (m + 3) c)), (1, slD (cN .u32 (Nm.pad W32 (m + 2) V))), (5, yZ ((m + 2 : Nat) : Int)), (6, isD (.int .u64 ((h : Nat) : Int))), (8, isD (.int .u64 ((q : Nat) : Int))), (9, isD (.int .u64 ((r : Nat) : Int)))] [(g, (cN .u32 (lo ++ Nm.pad W32 (m + 3) (U) ++ up)).map isD)]) (fun ⟨⟨q, r⟩, hgr⟩ => q) (⟨(U / W32 ^ (m + 1) / h, U / W32 ^ (m + 1) % h), Nm.gs_start hB hh hV hbig, Nat.lt_trans (Nat.mod_lt _ hh0) hhB⟩) ?_ ?_
    · exact ⟨⟨_, rfl, ⟨lq rfl, ⟨lq rfl, ⟨⟨_, rfl, yU o9⟩, (sT rfl)⟩⟩⟩⟩, [0], by decide, ⟨la rfl, trivial⟩⟩
    · rintro ⟨⟨q, r⟩, hg, hr⟩ K0 hK0
      have hg : Nm.Gs W32 U V m h v2 q r := hg
      have hr : r < 4294967296 := hr
      have hq : q ≤ 4294967297 := Nm.gs_first hB hh hV hbig hU hg
      refine zh ?_
      refine zh ?_
      refine yf [] (.r 0 (.r 1 (.r 2 (.r 3 (.r 4 (.r 5 (.r 6 (.r 7 (.r 8 (.r 9 (.r 10 (.r 11 (.r 12 (.r 13 (.r 14 (.r 15 (.r 16 (.r 17 (.r 18 (.r 19 (.r 20 (.r 21 .fin)))))))))))))))))))))) k9 k9 (fun d _ _ _ _ h => by cases d <;> exact h) ?_
      refine zj rfl rfl (zl rfl) ?_
      refine zj rfl rfl (Y1 rfl rfl) ?_
      refine zj rfl rfl (zl rfl) ?_
      refine yL 45 rfl (fun hb45 => ?_) (fun hb45 => ?_)
      · have hc : W32 ≤ q ∨ r * W32 + u2 < q * v2 := .inl (by have := oT hb45; omega); obtain ⟨hq0, hg2⟩ := Nm.gs_next hB hh hV hbig hU h2 hg hu2 hc
        refine zk rfl rfl rfl (hb45) rfl rfl ?_
        refine zk rfl rfl rfl (hb45) rfl rfl ?_
        refine zk rfl rfl rfl (hb45) rfl rfl ?_
        refine zk rfl rfl rfl (hb45) rfl rfl ?_
        refine zk rfl rfl rfl (hb45) rfl rfl ?_
        refine zk rfl rfl rfl (hb45) rfl rfl ?_
        refine zk rfl rfl rfl (hb45) rfl rfl ?_
        refine zk rfl rfl rfl (hb45) rfl rfl ?_
        refine zk rfl rfl rfl (hb45) rfl rfl ?_
        refine zk rfl rfl rfl (hb45) rfl rfl ?_
        refine zk rfl rfl rfl (hb45) rfl rfl ?_
        refine zk rfl rfl rfl (hb45) rfl rfl ?_
        refine zk rfl rfl rfl (hb45) rfl rfl ?_
        refine zk rfl rfl rfl (hb45) rfl rfl ?_
        refine zk rfl rfl rfl (hb45) rfl rfl ?_
        refine zk rfl rfl rfl (hb45) rfl rfl ?_
        refine zk rfl rfl rfl (hb45) rfl rfl ?_
        refine zk rfl rfl rfl (hb45) rfl rfl ?_
        refine zj rfl rfl (zF rfl (hb45) rfl) ?_
        refine yy ?_
        refine zg ?_
        refine yg rfl (rfl) ?_
        refine zw ?_
        refine zg ?_
        refine SW.block ?_
        refine zh ?_
        refine zf ?_
        refine za rfl (zl rfl) ?_
        refine za rfl (qG rfl rfl (sub1 hq0 hq)) ?_
        refine za rfl (zH rfl) ?_
        refine zv ?_
        refine zg ?_
        refine zh ?_
        refine zf ?_
        refine za rfl (zl rfl) ?_
        refine za rfl (zl rfl) ?_
        refine za rfl (jE rfl rfl (add64 o9)) ?_
        refine za rfl (zH rfl) ?_
        refine zv ?_
        refine zg ?_
        refine zh ?_
        refine zf ?_
        refine za rfl (zl rfl) ?_
        refine za rfl (Y1 rfl rfl) ?_
        refine zv ?_
        refine zg ?_
        refine zD rfl (fun hb71 => ?_) (fun hb71 => ?_)
        · have hend := Nm.gs_end hB hh hV hbig hU h2 hv2B hg2 hu2 (.inr (by have h9 := oT hb71; rw [eB]; omega))
          refine zL ?_
          repeat (first | refine zV ?_ | refine zW d9 ?_)
          refine zX ?_
          exact Zd ⟨q - 1, hend, rfl⟩ (sB [0] rfl rfl)
        · have hr2 : r + h < W32 := by have h9 := oF hb71; rw [eB]; omega
          refine zw ?_
          refine SN.block ?_
          exact fun a w hh => hK0 (⟨(q - 1, r + h), hg2, hr2⟩) (by show q - 1 < q; omega) a w (hh.sub (sB [0] rfl rfl))
      · have hqB : q < 4294967296 := by have := oF hb45; omega
        refine zu rfl rfl rfl (hb45) rfl rfl (zl rfl) ?_
        refine zu rfl rfl rfl (hb45) rfl rfl (zl rfl) ?_
        refine zu rfl rfl rfl (hb45) rfl rfl (zl rfl) ?_
        refine zu rfl rfl rfl (hb45) rfl rfl (yl rfl rfl ⟨by omega, by omega⟩) ?_
        refine zu rfl rfl rfl (hb45) rfl rfl (qq (e := 142) rfl rfl k9 k9 o9 (jp (j := m) o9 o9)) ?_
        refine zu rfl rfl rfl (hb45) rfl rfl (ZY rfl k9 s9) ?_
        refine zu rfl rfl rfl (hb45) rfl rfl (Zz .u32 rfl k9 k9 (cv64 hv2.symm o9)) ?_
        refine zu rfl rfl rfl (hb45) rfl rfl (Rd.mulW rfl rfl (mul64 o9 o9)) ?_
        refine zu rfl rfl rfl (hb45) rfl rfl (zl rfl) ?_
        refine zu rfl rfl rfl (hb45) rfl rfl (YD (s := 32) rfl rfl (shl64 hr d9)) ?_
        refine zu rfl rfl rfl (hb45) rfl rfl (zl rfl) ?_
        refine zu rfl rfl rfl (hb45) rfl rfl (zl rfl) ?_
        refine zu rfl rfl rfl (hb45) rfl rfl (yl rfl rfl ⟨by omega, by omega⟩) ?_
        refine zu rfl rfl rfl (hb45) rfl rfl (yY (e := 142) rfl rfl k9 k9 o9 o9) ?_
        refine zu rfl rfl rfl (hb45) rfl rfl (ZS 0 rfl rfl (W3 (j := m) o9 o9 hu2.symm) k9 zt) ?_
        refine zu rfl rfl rfl (hb45) rfl rfl (Zz .u32 rfl k9 k9 (cv64 rfl hu2B)) ?_
        refine zu rfl rfl rfl (hb45) rfl rfl (Vn rfl rfl (or64 hr hu2B rfl)) ?_
        refine zu rfl rfl rfl (hb45) rfl rfl (y6 rfl rfl) ?_
        refine zj rfl rfl (zM rfl (hb45) rfl) ?_
        refine yy ?_
        refine zg ?_
        refine zD rfl (fun hb64 => ?_) (fun hb64 => ?_)
        · have hc : W32 ≤ q ∨ r * W32 + u2 < q * v2 := .inr (by have h9 := oT hb64; rw [eB]; omega); obtain ⟨hq0, hg2⟩ := Nm.gs_next hB hh hV hbig hU h2 hg hu2 hc
          refine zw ?_
          refine zg ?_
          refine SW.block ?_
          refine zh ?_
          refine zf ?_
          refine za rfl (zl rfl) ?_
          refine za rfl (qG rfl rfl (sub1 hq0 hq)) ?_
          refine za rfl (zH rfl) ?_
          refine zv ?_
          refine zg ?_
          refine zh ?_
          refine zf ?_
          refine za rfl (zl rfl) ?_
          refine za rfl (zl rfl) ?_
          refine za rfl (jE rfl rfl (add64 o9)) ?_
          refine za rfl (zH rfl) ?_
          refine zv ?_
          refine zg ?_
          refine zh ?_
          refine zf ?_
          refine za rfl (zl rfl) ?_
          refine za rfl (Y1 rfl rfl) ?_
          refine zv ?_
          refine zg ?_
          refine zD rfl (fun hb71 => ?_) (fun hb71 => ?_)
          · have hend := Nm.gs_end hB hh hV hbig hU h2 hv2B hg2 hu2 (.inr (by have h9 := oT hb71; rw [eB]; omega))
            refine zL ?_
            repeat (first | refine zV ?_ | refine zW d9 ?_)
            refine zX ?_
            exact Zd ⟨q - 1, hend, rfl⟩ (sB [0] rfl rfl)
          · have hr2 : r + h < W32 := by have h9 := oF hb71; rw [eB]; omega
            refine zw ?_
            refine SN.block ?_
            exact fun a w hh => hK0 (⟨(q - 1, r + h), hg2, hr2⟩) (by show q - 1 < q; omega) a w (hh.sub (sB [0] rfl rfl))
        · have hend := Nm.gs_end hB hh hV hbig hU h2 hv2B hg hu2 (.inl ⟨hqB, by have h9 := oF hb64; rw [eB]; omega⟩)
          refine zL ?_
          repeat (first | refine zV ?_ | refine zW d9 ?_)
          refine zX ?_
          exact Zd ⟨q, hend, rfl⟩ (sB [0] rfl rfl)
  · rintro _ ⟨q, ⟨hqB, hqv⟩, rfl⟩
    refine zg ?_
    refine zh ?_
    refine zf ?_
    refine za rfl (zH rfl) ?_
    refine za rfl (zH rfl) ?_
    refine zv ?_
    refine zg ?_
    refine zh ?_
    refine zh ?_
    refine zf ?_
    refine za rfl (zl rfl) ?_
    refine za rfl (Rd.len (e := 142) rfl k9) ?_
    refine za rfl (zl rfl) ?_
    refine zv ?_
    refine zg ?_
    refine SW.block ?_
    refine z1 (ι := {i : Nat // i ≤ m + 2}) (fun ⟨i, hi⟩ => St.of [(0, isD (.slice (some ⟨g, lo.length, none⟩) (m + 3) c)), (1, slD (cN .u32 (Nm.pad W32 (m + 2) V))), (5, yZ ((m + 2 : Nat) : Int)), (8, isD (.int .u64 ((q : Nat) : Int))), (10, isD (.int .u64 ((Nm.bw W32 U (q * V) i : Nat) : Int))), (11, isD (.int .u64 ((q * (V % W32 ^ i) / W32 ^ i : Nat) : Int))), (73, yZ ((m + 2 : Nat) : Int)), (74, yZ (i : Int))] [(g, (cN .u32 (lo ++ Nm.pad W32 (m + 3) (Nm.sA W32 U (q * V) i) ++ up)).map isD)]) (fun ⟨i, hi⟩ => m + 2 - i) (⟨0, Nat.zero_le _⟩) ?_ ?_
    · exact ⟨⟨_, rfl, ⟨lq rfl, ⟨lq rfl, ⟨lq rfl, ⟨lq rfl, ⟨⟨_, rfl, Wj (by rw [Nm.bw_zero]; rfl)⟩, ⟨⟨_, rfl, Wj (by rw [Nat.pow_zero, Nat.mod_one]; simp)⟩, ⟨⟨_, rfl, yU (by rw [hn])⟩, ⟨lq rfl, trivial⟩⟩⟩⟩⟩⟩⟩⟩⟩, [0], by decide, ⟨⟨_, rfl, yN (by rw [Nm.sA_zero])⟩, trivial⟩⟩
    · rintro ⟨i, hi⟩ K1 hK1
      refine zh ?_
      refine zf ?_
      refine za rfl (ya rfl rfl) ?_
      refine zv ?_
      refine zg ?_
      refine zh ?_
      refine zD rfl (fun hb75 => ?_) (fun hb75 => ?_)
      · have hlt : i < m + 2 := (by have := oT hb75; omega); have hvi := zcf V i; have hui := zcf U i; have hzi := zcf (q * V) i; have hps := Nm.pr_step (B := W32) d9 q V i; have hpc : q * (V % W32 ^ i) / W32 ^ i < 4294967296 := Nm.pr_carry d9 hqB V i; have hqv' : q * (V / W32 ^ i % W32) ≤ 4294967295 * 4294967295 := Nat.mul_le_mul (by have := hqB; have e : W32 = 4294967296 := rfl; omega) o9; have hbw := (Nm.df_step (B := W32) d9 U (q * V) i).1; have hb1 := Nm.bw_le W32 U (q * V) i
        refine zw ?_
        refine zg ?_
        refine zh ?_
        refine SW.block ?_
        refine zh ?_
        refine zf ?_
        refine za rfl (zl rfl) ?_
        refine za rfl (zH rfl) ?_
        refine zv ?_
        refine zg ?_
        refine zh ?_
        refine zf ?_
        refine za rfl (zl rfl) ?_
        refine za rfl (zl rfl) ?_
        refine za rfl (zl rfl) ?_
        refine za rfl (zl rfl) ?_
        refine za rfl (qq (e := 142) rfl rfl k9 k9 o9 (jp (j := i) o9 o9)) ?_
        refine za rfl (ZY rfl k9 s9) ?_
        refine za rfl (Zz .u32 rfl k9 k9 (cv64 rfl hvi)) ?_
        refine za rfl (Rd.mulW rfl rfl (mul64 o9 o9)) ?_
        refine za rfl (jE rfl rfl (add64 o9)) ?_
        refine za rfl (zH rfl) ?_
        refine zv ?_
        refine zg ?_
        refine zh ?_
        refine zf ?_
        refine za rfl (zl rfl) ?_
        refine za rfl (zl rfl) ?_
        refine za rfl (yY (e := 142) rfl rfl k9 k9 o9 o9) ?_
        refine za rfl (ZS 0 rfl rfl (W3 (j := i) o9 o9 (Nm.sA_at d9 U (q * V) i)) k9 zt) ?_
        refine za rfl (Zz .u32 rfl k9 k9 (cv64 rfl hui)) ?_
        refine za rfl (zl rfl) ?_
        refine za rfl (Zz .u64 rfl k9 k9 ((lo32 _).trans (congrArg (fun n : Nat => (n : Int)) hps.2.symm))) ?_
        refine za rfl (Zz .u32 rfl k9 k9 (cv64 rfl hzi)) ?_
        refine za rfl (qG rfl rfl rfl) ?_
        refine za rfl (zl rfl) ?_
        refine za rfl (qG rfl rfl (sub64 hui hzi hb1)) ?_
        refine za rfl (zH rfl) ?_
        refine zv ?_
        refine zg ?_
        refine zh ?_
        refine zf ?_
        refine za rfl (zl rfl) ?_
        refine za rfl (zl rfl) ?_
        refine za rfl (zl rfl) ?_
        refine za rfl (Zz .u64 rfl k9 k9 (zaC hui hzi hb1 hbw)) ?_
        refine za rfl (yY (e := 142) rfl rfl k9 k9 o9 o9) ?_
        refine yD (S := [_]) (Zk 0 rfl rfl rfl k9 (zaK (j := i) o9 o9) (m9 rfl)) ?_
        rintro _ rfl
        refine zv ?_
        refine zg ?_
        refine zh ?_
        refine zf ?_
        refine za rfl (zl rfl) ?_
        refine za rfl (qc (s := 63) rfl rfl (zaD hui hzi hb1 hbw)) ?_
        refine za rfl (zH rfl) ?_
        refine zv ?_
        refine zg ?_
        refine zf ?_
        refine za rfl (zl rfl) ?_
        refine za rfl (qc (s := 32) rfl rfl (hi64 _)) ?_
        refine za rfl (zH rfl) ?_
        refine zv ?_
        refine SN.block ?_
        refine zg ?_
        refine zf ?_
        refine za rfl (Rd.add rfl rfl ⟨by omega, by omega⟩) ?_
        refine za rfl (zl rfl) ?_
        refine zv ?_
        exact fun a w hh => hK1 (⟨i + 1, hlt⟩) (by show m + 2 - (i + 1) < m + 2 - i; omega) a w (hh.sub (⟨⟨_, rfl, ⟨lq rfl, ⟨lq rfl, ⟨lq rfl, ⟨lq rfl, ⟨lq rfl, ⟨⟨_, rfl, Wj (congrArg _ hps.1.symm)⟩, ⟨lq rfl, ⟨⟨_, rfl, yU o9⟩, trivial⟩⟩⟩⟩⟩⟩⟩⟩⟩, [0], by decide, ⟨⟨_, rfl, yN (Wa (j := i) o9 o9 rfl (Nm.sA_fill d9 U (q * V) i o9 _ rfl))⟩, trivial⟩⟩))
      · obtain rfl : i = m + 2 := (by have := oF hb75; omega); have hzt := zcf (q * V) (m + 2); have hqV : q * V < W32 ^ (m + 3) := (by rw [Nat.pow_succ W32 (m + 2), Nat.mul_comm]; exact Nat.mul_lt_mul_of_lt_of_le hV (Nat.le_of_lt hqB) d9); have hct : q * (V % W32 ^ (m + 2)) / W32 ^ (m + 2) = q * V / W32 ^ (m + 2) % W32 := (by rw [Nat.mod_eq_of_lt hV, Nat.mod_eq_of_lt (Nat.div_lt_of_lt_mul (by rw [← Nat.pow_succ]; exact hqV))]); have hbt : Nm.bw W32 U (q * V) (m + 3) = _ := (Nm.df_step (B := W32) d9 U (q * V) (m + 2)).1; have hbt1 := Nm.bw_le W32 U (q * V) (m + 2); have hdf := Nm.df_full hUp hqV; have hst : (Nm.pad W32 (m + 3) (Nm.sA W32 U (q * V) (m + 2))).set (m + 2) _ = Nm.pad W32 (m + 3) (Nm.sA W32 U (q * V) (m + 3)) := Nm.sA_fill d9 U (q * V) (m + 2) o9 _ rfl
        refine zL ?_
        repeat (first | refine zV ?_ | refine zW d9 ?_)
        refine zX ?_
        refine zg ?_
        refine zh ?_
        refine zf ?_
        refine za rfl (zl rfl) ?_
        refine za rfl (zl rfl) ?_
        refine za rfl (yY (e := 142) rfl rfl k9 k9 o9 o9) ?_
        refine za rfl (ZS 0 rfl rfl (W3 (j := m + 2) o9 o9 (Nm.sA_at d9 U (q * V) (m + 2))) k9 zt) ?_
        refine za rfl (Zz .u32 rfl k9 k9 (cv64 rfl hut)) ?_
        refine za rfl (zl rfl) ?_
        refine za rfl (qG rfl (by rw [hct]; rfl) rfl) ?_
        refine za rfl (zl rfl) ?_
        refine za rfl (qG rfl rfl (sub64 hut hzt hbt1)) ?_
        refine za rfl (zH rfl) ?_
        refine zv ?_
        refine zg ?_
        refine zh ?_
        refine zf ?_
        refine za rfl (zl rfl) ?_
        refine za rfl (zl rfl) ?_
        refine za rfl (zl rfl) ?_
        refine za rfl (Zz .u64 rfl k9 k9 (zaC hut hzt hbt1 hbt)) ?_
        refine za rfl (yY (e := 142) rfl rfl k9 k9 o9 o9) ?_
        refine yD (S := [_]) (Zk 0 rfl rfl rfl k9 (zaK (j := m + 2) o9 o9) (m9 rfl)) ?_
        rintro _ rfl
        refine zv ?_
        refine zg ?_
        refine zh ?_
        refine zh ?_
        refine zf ?_
        refine za rfl (zl rfl) ?_
        refine za rfl (qc (s := 63) rfl rfl (zaD hut hzt hbt1 hbt)) ?_
        refine za rfl (yj rfl rfl) ?_
        refine zv ?_
        refine zg ?_
        refine zD rfl (fun hb123 => ?_) (fun hb123 => ?_)
        · have hlt : U < q * V := (by by_cases h7 : U < q * V; exact h7; rw [hdf.2, if_neg h7] at hb123; exact absurd hb123 d9); obtain ⟨R, hR⟩ : ∃ R, R = U + W32 ^ (m + 3) - q * V := ⟨_, rfl⟩; have hRlt : R < W32 ^ (m + 2 + 1) := (by show R < W32 ^ (m + 3); omega); obtain ⟨hq1, hrem⟩ := (Nm.kn_end (n := m + 2) hB hV0 hV hU hqv).2 hlt; have hRs : Nm.sA W32 U (q * V) (m + 3) = R := (by rw [Nm.sA_all hUp, hdf.1, if_pos hlt, hR]); have hrem2 : (R + V) % W32 ^ (m + 2 + 1) = U % V := (by rw [hR]; exact hrem); have hq0 : 0 < q := (by apply Nat.pos_of_ne_zero; intro e; rw [e, Nat.zero_mul] at hlt; omega); have hout : IntKind.u32.wrap ((q - 1 : Nat) : Int) = ((U / V : Nat) : Int) := (by rw [lo32, Nat.mod_eq_of_lt o9, hq1])
          refine zh ?_
          refine zf ?_
          refine za rfl (zl rfl) ?_
          refine za rfl (qG rfl rfl (sub1 hq0 o9)) ?_
          refine za rfl (zH rfl) ?_
          refine zv ?_
          refine zg ?_
          refine zh ?_
          refine zf ?_
          refine za rfl (zH rfl) ?_
          refine zv ?_
          refine zg ?_
          refine zh ?_
          refine zh ?_
          refine zf ?_
          refine za rfl (zl rfl) ?_
          refine za rfl (Rd.len (e := 142) rfl k9) ?_
          refine za rfl (zl rfl) ?_
          refine zv ?_
          refine zg ?_
          refine SW.block ?_
          refine z1 (ι := {i : Nat // i ≤ m + 2}) (fun ⟨i, hi⟩ => St.of [(0, isD (.slice (some ⟨g, lo.length, none⟩) (m + 3) c)), (1, slD (cN .u32 (Nm.pad W32 (m + 2) V))), (5, yZ ((m + 2 : Nat) : Int)), (8, isD (.int .u64 ((q - 1 : Nat) : Int))), (11, isD (.int .u64 ((Nm.sm W32 R V i / W32 ^ i : Nat) : Int))), (127, yZ ((m + 2 : Nat) : Int)), (128, yZ (i : Int))] [(g, (cN .u32 (lo ++ Nm.pad W32 (m + 3) (Nm.aA W32 R V i) ++ up)).map isD)]) (fun ⟨i, hi⟩ => m + 2 - i) (⟨0, Nat.zero_le _⟩) ?_ ?_
          · exact ⟨⟨_, rfl, ⟨lq rfl, ⟨lq rfl, ⟨lq rfl, ⟨lq rfl, ⟨⟨_, rfl, Wj (by rw [Nm.sm_zero]; simp)⟩, ⟨⟨_, rfl, yU (by rw [hn])⟩, ⟨lq rfl, trivial⟩⟩⟩⟩⟩⟩⟩⟩, [0], by decide, ⟨⟨_, rfl, yN ((Wa (j := m + 2) o9 o9 rfl hst).trans (by rw [Nm.aA_zero, hRs]))⟩, trivial⟩⟩
          · rintro ⟨i, hi⟩ K2 hK2
            refine zh ?_
            refine zf ?_
            refine za rfl (ya rfl rfl) ?_
            refine zv ?_
            refine zg ?_
            refine zh ?_
            refine zD rfl (fun hb129 => ?_) (fun hb129 => ?_)
            · have hlt : i < m + 2 := (by have := oT hb129; omega); have hvi := zcf V i; have hri := zcf R i; have hsc := Nm.sm_carry (B := W32) d9 R V i
              refine zw ?_
              refine zg ?_
              refine zh ?_
              refine SW.block ?_
              refine zh ?_
              refine zf ?_
              refine za rfl (zl rfl) ?_
              refine za rfl (zH rfl) ?_
              refine zv ?_
              refine zg ?_
              refine zh ?_
              refine yf [] (.r 0 (.r 1 (.r 2 (.r 3 (.r 4 (.r 5 (.r 6 (.r 7 (.r 8 (.r 9 (.r 10 (.r 11 (.r 12 (.r 13 .fin)))))))))))))) k9 k9 (fun d _ _ _ _ h => by cases d <;> exact h) ?_
              refine zj rfl rfl (zl rfl) ?_
              refine zj rfl rfl (zl rfl) ?_
              refine zj rfl rfl (zl rfl) ?_
              refine zj rfl rfl (yY (e := 142) rfl rfl k9 k9 o9 o9) ?_
              refine zj rfl rfl (ZS 0 rfl rfl (W3 (j := i) o9 o9 (Nm.aA_at d9 R V i)) k9 zt) ?_
              refine zj rfl rfl (Zz .u32 rfl k9 k9 (cv64 rfl hri)) ?_
              refine zj rfl rfl (zl rfl) ?_
              refine zj rfl rfl (zl rfl) ?_
              refine zj rfl rfl (qq (e := 142) rfl rfl k9 k9 o9 (jp (j := i) o9 o9)) ?_
              refine zj rfl rfl (ZY rfl k9 s9) ?_
              refine zj rfl rfl (Zz .u32 rfl k9 k9 (cv64 rfl hvi)) ?_
              refine zj rfl rfl (jE rfl rfl (add64 o9)) ?_
              refine zj rfl rfl (jE rfl rfl (add64 o9)) ?_
              refine zj rfl rfl (zH rfl) ?_
              refine yy ?_
              refine zg ?_
              refine zh ?_
              refine zf ?_
              refine za rfl (zl rfl) ?_
              refine za rfl (zl rfl) ?_
              refine za rfl (zl rfl) ?_
              refine za rfl (Zz .u64 rfl k9 k9 (lo32 _)) ?_
              refine za rfl (yY (e := 142) rfl rfl k9 k9 o9 o9) ?_
              refine yD (S := [_]) (Zk 0 rfl rfl rfl k9 (zaK (j := i) o9 o9) (m9 rfl)) ?_
              rintro _ rfl
              refine zv ?_
              refine zg ?_
              refine zf ?_
              refine za rfl (zl rfl) ?_
              refine za rfl (qc (s := 32) rfl rfl (hi64 _)) ?_
              refine za rfl (zH rfl) ?_
              refine zv ?_
              refine SN.block ?_
              refine zg ?_
              refine zf ?_
              refine za rfl (Rd.add rfl rfl ⟨by omega, by omega⟩) ?_
              refine za rfl (zl rfl) ?_
              refine zv ?_
              exact fun a w hh => hK2 (⟨i + 1, hlt⟩) (by show m + 2 - (i + 1) < m + 2 - i; omega) a w (hh.sub (⟨⟨_, rfl, ⟨lq rfl, ⟨lq rfl, ⟨lq rfl, ⟨lq rfl, ⟨⟨_, rfl, Wj (congrArg _ (Nm.sm_step d9 R V i).1.symm)⟩, ⟨lq rfl, ⟨⟨_, rfl, yU o9⟩, trivial⟩⟩⟩⟩⟩⟩⟩⟩, [0], by decide, ⟨⟨_, rfl, yN (Wa (j := i) o9 o9 rfl (Nm.aA_fill d9 R V i o9 _ rfl))⟩, trivial⟩⟩))
            · obtain rfl : i = m + 2 := (by have := oF hb129; omega); have hsc := Nm.sm_carry (B := W32) d9 R V (m + 2)
              refine zL ?_
              repeat (first | refine zV ?_ | refine zW d9 ?_)
              refine zX ?_
              refine zg ?_
              refine zf ?_
              refine za rfl (zl rfl) ?_
              refine za rfl (zl rfl) ?_
              refine za rfl (yY (e := 142) rfl rfl k9 k9 o9 o9) ?_
              refine za rfl (ZS 0 rfl rfl (W3 (j := m + 2) o9 o9 (Nm.aA_at d9 R V (m + 2))) k9 zt) ?_
              refine za rfl (zl rfl) ?_
              refine za rfl (Zz .u64 rfl k9 k9 ((lo32 _).trans (congrArg _ (Nat.mod_eq_of_lt o9)))) ?_
              refine za rfl (jE rfl rfl (add32 rfl)) ?_
              refine za rfl (yY (e := 142) rfl rfl k9 k9 o9 o9) ?_
              refine yD (S := [_]) (Zk 0 rfl rfl rfl k9 (zaK (j := m + 2) o9 o9) (m9 rfl)) ?_
              rintro _ rfl
              refine zv ?_
              refine zg ?_
              refine zh ?_
              refine zf ?_
              refine za rfl (zl rfl) ?_
              refine za rfl (Zz .u64 rfl k9 k9 (hout)) ?_
              refine za rfl (zH rfl) ?_
              refine zv ?_
              refine zg ?_
              refine VU (fn := Tryz.f133) (fun _ _ h => h) (Rs.le (zN rfl (zo rfl)) ?_) rfl ?_
              exact zb _
              exact yN ((Wa (j := m + 2) o9 o9 rfl (Nm.aA_last hB hRlt hV)).trans (by rw [hrem2]))
        · have hnl : ¬ U < q * V := (by by_cases h7 : U < q * V; rw [hdf.2, if_pos h7] at hb123; exact absurd hb123 d9; exact h7); obtain ⟨hq1, hrem⟩ := (Nm.kn_end (n := m + 2) hB hV0 hV hU hqv).1 hnl; have hRs : Nm.sA W32 U (q * V) (m + 3) = U % V := (by rw [Nm.sA_all hUp, hdf.1, if_neg hnl, hrem]); have hout : IntKind.u32.wrap ((q : Nat) : Int) = ((U / V : Nat) : Int) := (by rw [lo32, Nat.mod_eq_of_lt o9, hq1])
          refine zw ?_
          refine zg ?_
          refine zh ?_
          refine zf ?_
          refine za rfl (zl rfl) ?_
          refine za rfl (Zz .u64 rfl k9 k9 (hout)) ?_
          refine za rfl (zH rfl) ?_
          refine zv ?_
          refine zg ?_
          refine VU (fn := Tryz.f133) (fun _ _ h => h) (Rs.le (zN rfl (zo rfl)) ?_) rfl ?_
          exact zb _
          exact yN ((Wa (j := m + 2) o9 o9 rfl hst).trans (by rw [hRs]))
end Sx
namespace Sx
theorem SW.freeze {P : Program} {Γ : Cx} {σ : St} {b : Code} {Q : Exit → Act → World → Prop} (i j : Nat) {g c n : Nat} {ds : List D} (xs : List Value) (hi : σ.tm i = some (isD (.slice (some ⟨g, 0, none⟩) n c))) (hj : σ.bx[j]? = some (.c g ds)) (hn : n = xs.length) (hc : n ≤ c) (hds : ds = xs.map isD) (h : SW P Γ ⟨fun k => _root_.cond (Nat.beq k i) (some (slD xs)) (σ.tm k), σ.bx.eraseIdx j⟩ b Q) : SW P Γ σ b Q :=
  fun a w hh => by subst hn hds; exact h a w (hh.freeze hi hc hj)
theorem Kr {n X Y : Nat} (h : Y = X) (hn : n ≤ 1000000) (hX : X < W32 ^ n) : Con Tryz.prog 104 [slD (cN .u32 (Nm.pad W32 n Y))] (Y4 X) := by
  subst h
  refine ⟨enters_of Tryz.func104 k9 rfl, fun L w vs hL _ ha => ?_⟩
  obtain ⟨u, rfl, A, c, rfl, hc, hr, haw⟩ := WL ha
  have hl : (cN .u32 (Nm.pad W32 n Y)).length = n := by simp
  rw [hl] at hc haw ⊢
  refine (Yb w A n c Y hc hn hX hr).mono ?_
  rintro r w' ⟨m, rfl, rfl, hN⟩
  refine ⟨_, rfl, Wf hN (fun h0 => haw ?_), Only.refl _ _⟩
  have h1 := (Nm.len_le (B := W32) d9 n Y).2 hX
  rw [← hN.n_eq] at h1
  omega
theorem WE {X Y : Nat} (hX : X < W32 ^ 100) (hXY : Y ≤ X) : Con Tryz.prog 109 [Y4 X, Y4 Y] (yZ (if X = Y then 0 else 1)) := by
  refine ⟨enters_of Tryz.func109 k9 rfl, fun L w vs hL _ ha => ?_⟩
  obtain ⟨u, v, rfl, hu, hv⟩ := V2 ha
  obtain ⟨A, n, c, rfl, h1, -⟩ := Y3 hu
  obtain ⟨B, m, d, rfl, h2, -⟩ := Y3 hv
  have hn : n ≤ 100 := by rw [h1.n_eq]; exact (Nm.len_le (B := W32) d9 100 X).2 hX
  have hm : m ≤ 100 := by rw [h2.n_eq]; exact (Nm.len_le (B := W32) d9 100 Y).2 (Nat.lt_of_le_of_lt hXY hX)
  refine (Zp w A B n c m d X Y o9 o9 h1 h2).mono ?_
  rintro r w' ⟨z, rfl, hz, hO⟩
  refine ⟨_, rfl, ?_, hO⟩
  have hz' : Cmp X Y z := hz
  show Value.int .i64 z = .int .i64 _
  rcases hz' with ⟨h, _⟩ | ⟨h, e⟩ | ⟨h, e⟩
  · omega
  · rw [if_pos h, e]
  · rw [if_neg o9, e]
def lz (x : Nat) : Nat := 32 - Lib.bitLen x
theorem lz_spec {x : Nat} (h0 : 0 < x) (h : x < 4294967296) : lz x < 32 ∧ 2147483648 ≤ x * 2 ^ lz x ∧ (x + 1) * 2 ^ lz x ≤ 4294967296 := by
  have hle : Lib.bitLen x ≤ 32 := Lib.bitLen_le x 32 d9 h
  obtain ⟨h1, h2, h3⟩ := Lib.bitLenAux_bounds 64 x (Nat.lt_trans h d9) o9
  have e : Lib.bitLen x = Lib.bitLenAux 64 x := rfl
  rw [← e] at h1 h2 h3
  unfold lz
  generalize Lib.bitLen x = L at *
  refine ⟨by omega, ?_, ?_⟩
  · have := Nat.mul_le_mul_right (2 ^ (32 - L)) h2
    rw [← Nat.pow_add, show L - 1 + (32 - L) = 31 by omega] at this
    exact this
  · have := Nat.mul_le_mul_right (2 ^ (32 - L)) (Nat.succ_le_of_lt h3)
    rw [← Nat.pow_add, show L + (32 - L) = 32 by omega] at this
    exact this
theorem con_lz {x s : Nat} (h : x < 4294967296) (hs : s = lz x) : Con Tryz.prog 131 [isD (.int .u32 (x : Int))] (yZ (s : Int)) := by
  refine ⟨enters_of Tryz.func131 k9 rfl, fun L w vs hL _ ha => ?_⟩
  obtain ⟨u, rfl, rfl⟩ := WL ha
  refine (qB (x : Int) w o9 o9).mono ?_
  rintro r w' ⟨rfl, rfl⟩
  refine ⟨_, rfl, ?_, Only.refl _ _⟩
  have hle : Lib.bitLen x ≤ 32 := Lib.bitLen_le x 32 d9 h
  show Value.int .i64 _ = .int .i64 _
  rw [hs, Int.toNat_natCast]
  unfold lz
  congr 1
  omega
theorem YH (B : Nat) : ∀ (a b x : Nat), Nm.pad B (a + b) x = Nm.pad B a x ++ Nm.pad B b (x / B ^ a)
  | 0, b, x => by simp [Nm.pad]
  | a + 1, b, x => by
    rw [show a + 1 + b = (a + b) + 1 by omega, Nm.pad, Nm.pad, YH B a b, List.cons_append, Nat.div_div_eq_div_mul, Nat.pow_succ, Nat.mul_comm]
theorem pad_mod {B : Nat} (hB : 0 < B) (n x : Nat) : Nm.pad B n (x % B ^ n) = Nm.pad B n x := Nm.pad_ext fun i hi => Nm.div_mod_low hB hi
theorem zaM {n k x : Nat} (h : k ≤ n) : (cN .u32 (Nm.pad W32 n x)).take k = cN .u32 (Nm.pad W32 k x) := by
  obtain ⟨b, rfl⟩ : ∃ b, n = k + b := ⟨n - k, by omega⟩
  rw [YH, y1, List.take_append_of_le_length s9, List.take_of_length_le s9]
theorem con_qw' {g c j k m V R N : Nat} (hN : N = j + (m + 3) + k) (hm : m ≤ 1000) (hV : V < W32 ^ (m + 2)) (hbig : W32 ≤ 2 * (V / W32 ^ (m + 1))) (hR : R < V * W32 ^ (j + 1)) :
    ConB Tryz.prog 133 g ((cN .u32 (Nm.pad W32 N R)).map isD) ((cN .u32 (Nm.pad W32 N (R % (V * W32 ^ j)))).map isD) [isD (.slice (some ⟨g, j, none⟩) (m + 3) c), slD (cN .u32 (Nm.pad W32 (m + 2) V))] (isD (.int .u32 ((R / W32 ^ j / V : Nat) : Int))) := by
  subst hN
  have hp : 0 < W32 ^ j := Nat.pow_pos d9
  have hU : R / W32 ^ j < V * W32 := Nat.div_lt_of_lt_mul (by rw [Nat.pow_succ] at hR; rw [Nat.mul_comm, Nat.mul_assoc, Nat.mul_comm W32]; exact hR)
  have h := con_qw (lo := Nm.pad W32 j R) (up := Nm.pad W32 k (R / W32 ^ (j + (m + 3)))) (g := g) (c := c) (U := R / W32 ^ j) hm hV hbig hU
  rw [Nm.pad_length] at h
  have hp2 : R / W32 ^ (j + (m + 3)) = 0 := by
    rw [Nat.pow_add, ← Nat.div_div_eq_div_mul]
    refine Nat.div_eq_of_lt (Nat.lt_of_lt_of_le hU ?_)
    rw [Nat.pow_succ W32 (m + 2)]
    exact Nat.mul_le_mul_right _ (Nat.le_of_lt hV)
  have e1 : Nm.pad W32 (j + (m + 3) + k) R = Nm.pad W32 j R ++ Nm.pad W32 (m + 3) (R / W32 ^ j) ++ Nm.pad W32 k (R / W32 ^ (j + (m + 3))) := by rw [YH, YH]
  have e3 : R % (V * W32 ^ j) = R % W32 ^ j + W32 ^ j * (R / W32 ^ j % V) := by rw [Nat.mul_comm V, Nat.mod_mul]
  have e4 : R % (V * W32 ^ j) / W32 ^ j = R / W32 ^ j % V := by rw [e3, Nat.add_mul_div_left _ _ hp, Nat.div_eq_of_lt (Nat.mod_lt _ hp), Nat.zero_add]
  have e5 : R % (V * W32 ^ j) / W32 ^ (j + (m + 3)) = 0 := Nat.le_zero.1 (Nat.le_trans (Nat.div_le_div_right (Nat.mod_le _ _)) (Nat.le_of_eq hp2))
  have e6 : Nm.pad W32 j (R % (V * W32 ^ j)) = Nm.pad W32 j R := by
    rw [← pad_mod d9 j (R % (V * W32 ^ j)), e3, Nat.add_mul_mod_self_left, Nat.mod_mod, pad_mod d9]
  have e2 : Nm.pad W32 (j + (m + 3) + k) (R % (V * W32 ^ j)) = Nm.pad W32 j R ++ Nm.pad W32 (m + 3) (R / W32 ^ j % V) ++ Nm.pad W32 k (R / W32 ^ (j + (m + 3))) := by
    rw [YH, YH, e4, e5, e6, hp2]
  rw [e1, e2]
  exact h
theorem dv_digit {Ux V j : Nat} (hV : 0 < V) : Ux % (V * W32 ^ (j + 1)) / W32 ^ j / V = Ux / V / W32 ^ j % W32 := by
  rw [Nat.div_div_eq_div_mul, Nat.pow_succ, ← Nat.mul_assoc, Nat.mul_comm (W32 ^ j) V, Nat.mod_mul_right_div_self, Nat.div_div_eq_div_mul]
theorem dv_put {K Q j : Nat} (hj : j < K) : (Nm.pad W32 K (Q / W32 ^ (j + 1) * W32 ^ (j + 1))).set j (Q / W32 ^ j % W32) = Nm.pad W32 K (Q / W32 ^ j * W32 ^ j) := by
  have hp : 0 < W32 ^ j := Nat.pow_pos d9
  have e0 : Q / W32 ^ (j + 1) * W32 ^ (j + 1) = Q / W32 ^ (j + 1) * W32 * W32 ^ j := by rw [Nat.pow_succ, Nat.mul_assoc, Nat.mul_comm (W32 ^ j)]
  rw [Nm.pad_plus d9 hj (e := Q / W32 ^ j % W32) (by rw [e0, Nat.mul_div_cancel _ hp, Nat.mul_mod_left, Nat.zero_add]) (Nat.mod_lt _ d9), e0, ← Nat.add_mul]
  congr 2
  rw [Nat.pow_succ, ← Nat.div_div_eq_div_mul]
  exact Nat.div_add_mod' _ _
theorem dv_rest {Ux V j : Nat} : Ux % (V * W32 ^ (j + 1)) % (V * W32 ^ j) = Ux % (V * W32 ^ j) := Nat.mod_mod_of_dvd _ ⟨W32, by rw [Nat.pow_succ, Nat.mul_assoc]⟩
theorem zb3 {X Y m : Nat} (hX : X < W32 ^ 100) (hY2 : Nm.len W32 Y = m + 2) (hXY : Y ≤ X) : Con Tryz.prog 106 [Y4 X, Y4 Y] (Zq [Y4 (X / Y), Y4 (X % Y)]) := by
  have eB : W32 = 4294967296 := rfl
  have hYX : Y < W32 ^ 100 := Nat.lt_of_le_of_lt hXY hX
  have hLX : (cN .u32 (Nm.dg W32 X)).length = Nm.len W32 X := by rw [ye, Nm.dg_length]
  have hLY : (cN .u32 (Nm.dg W32 Y)).length = m + 2 := by rw [ye, Nm.dg_length, hY2]
  have hLX1 : (cN .u32 (Nm.dg W32 X)).length ≤ 100 := by rw [hLX]; exact (Nm.len_le (B := W32) d9 100 _).2 hX
  have hXn : X < W32 ^ (cN .u32 (Nm.dg W32 X)).length := by rw [hLX]; exact Nm.lt_pow_len d9 X
  have hYn : Y < W32 ^ (m + 2) := by rw [← hY2]; exact Nm.lt_pow_len d9 Y
  have hYl : W32 ^ (m + 1) ≤ Y := by have h1 := (Nm.len_le (B := W32) d9 (m + 1) Y); by_cases h2 : Y < W32 ^ (m + 1); have := h1.2 h2; omega; omega
  have hge : m + 2 ≤ (cN .u32 (Nm.dg W32 X)).length := by have h1 := (Nm.len_le (B := W32) d9 (m + 1) X); rw [hLX]; by_cases h2 : Nm.len W32 X ≤ m + 1; have := h1.1 h2; omega; omega
  obtain ⟨tp, htp⟩ : ∃ tp, tp = Y / W32 ^ (m + 1) % W32 := ⟨_, rfl⟩
  have htp1 : tp = Y / W32 ^ (m + 1) := by rw [htp]; exact Nat.mod_eq_of_lt (Nat.div_lt_of_lt_mul (by rw [← Nat.pow_succ]; exact hYn))
  have htp0 : 0 < tp := by rw [htp1]; exact Nat.div_pos hYl (Nat.pow_pos d9)
  have htpB : tp < 4294967296 := by rw [htp]; exact Nat.mod_lt _ d9
  obtain ⟨s, hs⟩ : ∃ s, s = lz tp := ⟨_, rfl⟩
  obtain ⟨hs32, hlo, hhi⟩ := lz_spec htp0 htpB
  rw [← hs] at hs32 hlo hhi
  have hS : 0 < 2 ^ s := Nat.pow_pos d9
  have hpw : 0 < W32 ^ (m + 1) := Nat.pow_pos d9
  have hY0 : 0 < Y := Nat.lt_of_lt_of_le hpw hYl
  have hV0 : 0 < Y * 2 ^ s := Nat.mul_pos hY0 hS
  have hV : Y * 2 ^ s < W32 ^ (m + 2) := by have h1 : Y < (tp + 1) * W32 ^ (m + 1) := (by rw [htp1, Nat.mul_comm]; exact Nat.lt_mul_div_succ Y hpw); have h2 := Nat.mul_lt_mul_of_pos_right h1 hS; have h3 := Nat.mul_le_mul_right (W32 ^ (m + 1)) hhi; have h4 : (tp + 1) * W32 ^ (m + 1) * 2 ^ s = (tp + 1) * 2 ^ s * W32 ^ (m + 1) := Nat.mul_right_comm _ _ _; have h5 : W32 ^ (m + 2) = 4294967296 * W32 ^ (m + 1) := (by rw [Nat.pow_succ W32 (m + 1), Nat.mul_comm]); omega
  have hbig : W32 ≤ 2 * (Y * 2 ^ s / W32 ^ (m + 1)) := by have h1 : tp * 2 ^ s ≤ Y * 2 ^ s / W32 ^ (m + 1) := (by rw [Nat.le_div_iff_mul_le hpw, Nat.mul_right_comm, htp1]; exact Nat.mul_le_mul_right _ (Nat.div_mul_le_self _ _)); omega
  have hQ : X * 2 ^ s / (Y * 2 ^ s) = X / Y := Nat.mul_div_mul_right _ _ hS
  have hfitY : X < Y * W32 ^ ((cN .u32 (Nm.dg W32 X)).length - (cN .u32 (Nm.dg W32 Y)).length + 1) := by refine Nat.lt_of_lt_of_le hXn (Nat.le_trans ?_ (Nat.mul_le_mul_right _ hYl)); rw [← Nat.pow_add]; exact Nat.pow_le_pow_right d9 o9
  have hfit : X * 2 ^ s < Y * 2 ^ s * W32 ^ ((cN .u32 (Nm.dg W32 X)).length - (cN .u32 (Nm.dg W32 Y)).length + 1) := by rw [Nat.mul_right_comm]; exact Nat.mul_lt_mul_of_pos_right hfitY hS
  have hQK : X / Y < W32 ^ ((cN .u32 (Nm.dg W32 X)).length - (cN .u32 (Nm.dg W32 Y)).length + 1) := Nat.div_lt_of_lt_mul hfitY
  have hQ0 : X / Y / W32 ^ ((cN .u32 (Nm.dg W32 X)).length - (cN .u32 (Nm.dg W32 Y)).length + 1) = 0 := Nat.div_eq_of_lt hQK
  have hR : X * 2 ^ s % (Y * 2 ^ s * W32 ^ 0) / 2 ^ s = X % Y := by rw [Nat.pow_zero, Nat.mul_one, Nat.mul_mod_mul_right, Nat.mul_div_cancel _ hS]
  have hR0 : X * 2 ^ s % (Y * 2 ^ s * W32 ^ 0) < W32 ^ (m + 2) := by rw [Nat.pow_zero, Nat.mul_one]; exact Nat.lt_trans (Nat.mod_lt _ hV0) hV
  have hRm : X % Y < W32 ^ (m + 2) := Nat.lt_trans (Nat.mod_lt _ hY0) hYn
  refine z6 Tryz.func106 k9 rfl k9 fun base w0 => ?_
  refine zh ?_
  refine zf ?_
  refine za rfl (zH rfl) ?_
  refine za rfl (zH rfl) ?_
  refine zv ?_
  refine zg ?_
  refine zh ?_
  refine zh ?_
  refine zf ?_
  refine za rfl (zl rfl) ?_
  refine za rfl (zl rfl) ?_
  refine yD (S := []) (zn (WE hX hXY) rfl ⟨zb _, zb _, trivial⟩ rfl) ?_
  rintro _ rfl
  refine za rfl (ya rfl rfl) ?_
  refine zv ?_
  refine zg ?_
  refine zJ rfl (decide_eq_false (by split <;> omega)) ?_
  refine zw ?_
  refine zg ?_
  refine zh ?_
  refine zh ?_
  refine zf ?_
  refine za rfl (zl rfl) ?_
  refine za rfl (Rd.len (e := 142) rfl k9) ?_
  refine za rfl (yS rfl rfl) ?_
  refine zv ?_
  refine zg ?_
  refine zJ rfl (decide_eq_false o9) ?_
  refine zw ?_
  refine zg ?_
  refine zh ?_
  refine zf ?_
  refine za rfl (zl rfl) ?_
  refine za rfl (Rd.len (e := 142) rfl k9) ?_
  refine za rfl (zH rfl) ?_
  refine zv ?_
  refine zg ?_
  refine zh ?_
  refine zf ?_
  refine za rfl (zl rfl) ?_
  refine za rfl (zl rfl) ?_
  refine za rfl (yl rfl rfl ⟨by omega, by omega⟩) ?_
  refine za rfl (qq (e := 142) rfl rfl k9 k9 o9 (W9 (j := m + 1) o9 o9)) ?_
  refine za rfl (Rd.le (ZY rfl k9 s9) (Wj (congrArg _ htp.symm))) ?_
  refine yD (S := []) (zn (con_lz htpB hs) rfl ⟨zb _, trivial⟩ rfl) ?_
  rintro _ rfl
  refine za rfl (zH rfl) ?_
  refine zv ?_
  refine zg ?_
  refine zh ?_
  refine zf ?_
  refine za rfl (zl rfl) ?_
  refine za rfl (zl rfl) ?_
  refine yD (S := []) (zbz (con_shl hYX hs32) rfl ⟨zb _, zb _, trivial⟩ rfl) ?_
  rintro _ ⟨g44, rfl⟩
  refine za rfl (zl rfl) ?_
  refine jD 44 0 (cN .u32 (Nm.pad W32 ((cN .u32 (Nm.dg W32 Y)).length + 1) (Y * 2 ^ s))) rfl rfl s9 (Nat.le_refl _) rfl ?_
  refine za rfl (Rd.shS (e := 142) rfl rfl k9 k9 s9) ?_
  refine za rfl (zH rfl) ?_
  refine zv ?_
  refine zg ?_
  refine zh ?_
  refine zf ?_
  refine za rfl (zl rfl) ?_
  refine za rfl (zl rfl) ?_
  refine yD (S := []) (zbz (con_shl hX hs32) rfl ⟨zb _, zb _, trivial⟩ rfl) ?_
  rintro _ ⟨g49, rfl⟩
  refine za rfl (zH rfl) ?_
  refine zv ?_
  refine zg ?_
  refine zh ?_
  refine zf ?_
  refine za rfl (zl rfl) ?_
  refine za rfl (Rd.len (e := 142) rfl k9) ?_
  refine za rfl (zl rfl) ?_
  refine za rfl (yl rfl rfl ⟨by omega, by omega⟩) ?_
  refine za rfl (Rd.add rfl rfl ⟨by omega, by omega⟩) ?_
  refine yD (S := []) (VZ (e := 142) (z := .int .u32 0) (n := (cN .u32 (Nm.dg W32 X)).length - (cN .u32 (Nm.dg W32 Y)).length + 1) 4 rfl rfl k9 k9 rfl o9 o9 o9 d9 rfl) ?_
  rintro _ ⟨g55, rfl⟩
  refine za rfl (zH rfl) ?_
  refine zv ?_
  refine zg ?_
  refine zh ?_
  refine zh ?_
  refine zf ?_
  refine za rfl (zl rfl) ?_
  refine za rfl (Z7 (e := 142) rfl k9) ?_
  refine za rfl (yl rfl rfl ⟨by omega, by omega⟩) ?_
  refine za rfl (zH rfl) ?_
  refine zv ?_
  refine zg ?_
  refine SW.block ?_
  refine z1 (ι := {t : Nat // t ≤ (cN .u32 (Nm.dg W32 X)).length - (cN .u32 (Nm.dg W32 Y)).length + 1}) (fun ⟨t, ht⟩ => St.of [(8, yZ ((m + 2 : Nat) : Int)), (9, yZ (s : Int)), (10, slD (cN .u32 (Nm.pad W32 (m + 2) (Y * 2 ^ s)))), (11, isD (.slice (some ⟨g49, 0, none⟩) ((cN .u32 (Nm.dg W32 X)).length + 1) ((cN .u32 (Nm.dg W32 X)).length + 1))), (12, isD (.slice (some ⟨g55, 0, none⟩) ((cN .u32 (Nm.dg W32 X)).length - (cN .u32 (Nm.dg W32 Y)).length + 1) ((cN .u32 (Nm.dg W32 X)).length - (cN .u32 (Nm.dg W32 Y)).length + 1))), (13, yZ ((t : Int) - 1))] [(g49, (cN .u32 (Nm.pad W32 ((cN .u32 (Nm.dg W32 X)).length + 1) (X * 2 ^ s % ((Y * 2 ^ s) * W32 ^ t)))).map isD), (g55, (cN .u32 (Nm.pad W32 ((cN .u32 (Nm.dg W32 X)).length - (cN .u32 (Nm.dg W32 Y)).length + 1) (X / Y / W32 ^ t * W32 ^ t))).map isD)]) (fun ⟨t, ht⟩ => t) (⟨(cN .u32 (Nm.dg W32 X)).length - (cN .u32 (Nm.dg W32 Y)).length + 1, Nat.le_refl _⟩) ?_ ?_
  · exact ⟨⟨_, rfl, ⟨⟨_, rfl, yU o9⟩, ⟨lq rfl, ⟨⟨_, rfl, le_sl (by rw [hLY, zaM o9])⟩, (sT rfl)⟩⟩⟩⟩, [0, 1], by decide, ⟨⟨_, rfl, yN (by rw [Nat.mod_eq_of_lt hfit])⟩, ⟨⟨_, rfl, yN (by rw [YN, hQ0, Nat.zero_mul])⟩, trivial⟩⟩⟩
  · rintro ⟨t, ht⟩ K0 hK0
    refine zh ?_
    refine zh ?_
    refine zf ?_
    refine za rfl (zl rfl) ?_
    refine za rfl (Y1 rfl rfl) ?_
    refine zv ?_
    refine zg ?_
    refine zD rfl (fun hb60 => ?_) (fun hb60 => ?_)
    · obtain ⟨j, rfl⟩ : ∃ j, t = j + 1 := ⟨t - 1, by have := oT hb60; omega⟩
      refine zw ?_
      refine zg ?_
      refine zh ?_
      refine SW.block ?_
      refine zf ?_
      refine za rfl (zl rfl) ?_
      refine za rfl (zl rfl) ?_
      refine za rfl (zl rfl) ?_
      refine za rfl (Rd.le (zl rfl) (yU (b := (j : Int)) o9)) ?_
      refine za rfl (zl rfl) ?_
      refine za rfl (zl rfl) ?_
      refine za rfl (Rd.add rfl rfl ⟨by omega, by omega⟩) ?_
      refine za rfl (Rd.le (Rd.add rfl rfl ⟨by omega, by omega⟩) (yU (b := ((j + m + 3 : Nat) : Int)) o9)) ?_
      refine za rfl (Rd.slE (e := 142) rfl rfl rfl k9 k9 o9 o9 o9) ?_
      refine za rfl (zl rfl) ?_
      refine yD (S := [_]) (Ef.callB 0 (con_qw' (k := (cN .u32 (Nm.dg W32 X)).length + 1 - (j + (m + 3))) o9 o9 hV hbig (Nat.mod_lt _ (Nat.mul_pos hV0 (Nat.pow_pos d9)))) rfl ⟨zE (by rw [Nat.zero_add, show j + m + 3 - j = m + 3 by omega]), zb _, trivial⟩ rfl (m9 rfl) rfl) ?_
      rintro _ rfl
      refine za rfl (yY (e := 142) rfl rfl k9 k9 o9 o9) ?_
      refine yD (S := [_]) (Zk 1 rfl rfl rfl k9 (by rw [List.length_map, ye, Nm.pad_length]; omega) (m9 rfl)) ?_
      rintro _ rfl
      refine zv ?_
      refine SN.block ?_
      refine zg ?_
      refine zf ?_
      refine za rfl (zl rfl) ?_
      refine za rfl (yl rfl rfl ⟨by omega, by omega⟩) ?_
      refine za rfl (zH rfl) ?_
      refine zv ?_
      exact fun a w hh => hK0 (⟨j, by omega⟩) (by show j < j + 1; omega) a w (hh.sub (⟨⟨_, rfl, ⟨lq rfl, ⟨lq rfl, ⟨lq rfl, ⟨lq rfl, ⟨lq rfl, ⟨⟨_, rfl, yU o9⟩, trivial⟩⟩⟩⟩⟩⟩⟩, [0, 1], by decide, ⟨⟨_, rfl, yN (by rw [dv_rest])⟩, ⟨⟨_, rfl, yN (Vw (j := j) o9 rfl (by rw [dv_digit hV0, hQ]; exact dv_put o9))⟩, trivial⟩⟩⟩))
    · obtain rfl : t = 0 := by have := oF hb60; omega
      refine zL ?_
      repeat (first | refine zV ?_ | refine zW d9 ?_)
      refine zX ?_
      refine zg ?_
      refine zh ?_
      refine SW.freeze 12 1 (cN .u32 (Nm.pad W32 ((cN .u32 (Nm.dg W32 X)).length - (cN .u32 (Nm.dg W32 Y)).length + 1) (X / Y / W32 ^ 0 * W32 ^ 0))) rfl rfl s9 (Nat.le_refl _) rfl ?_
      refine SW.freeze 11 0 (cN .u32 (Nm.pad W32 ((cN .u32 (Nm.dg W32 X)).length + 1) (X * 2 ^ s % ((Y * 2 ^ s) * W32 ^ 0)))) rfl rfl s9 (Nat.le_refl _) rfl ?_
      refine yf [] (.r 0 (.r 2 (.r 3 (.r 4 (.r 5 (.n 1 (.n 6 (.n 7 (.r 8 (.r 9 .fin)) .no) .no) .no)))))) k9 k9 (fun d _ _ _ _ h => by cases d <;> exact h) ?_
      refine zj rfl rfl (zl rfl) ?_
      refine zj rfl rfl (zl rfl) ?_
      refine zj rfl rfl (zl rfl) ?_
      refine zj rfl rfl (Rd.shS (e := 142) rfl rfl k9 k9 (by rw [ye, Nm.pad_length]; omega)) ?_
      refine zj rfl rfl (zl rfl) ?_
      refine Zc rfl (zn (Kr (by rw [Nat.pow_zero, Nat.div_one, Nat.mul_one]) o9 hQK) rfl ⟨zb _, trivial⟩ rfl) ?_ yB
      rintro _ rfl
      refine Zc rfl (zn (con_shr hR0 o9 hs32) rfl ⟨le_sl (zaM o9), zb _, trivial⟩ rfl) ?_ yB
      rintro _ rfl
      refine Zc rfl (zn (Kr hR o9 hRm) rfl ⟨zb _, trivial⟩ rfl) ?_ yB
      rintro _ rfl
      refine zj rfl rfl (zH rfl) ?_
      refine zj rfl rfl (zH rfl) ?_
      refine yy ?_
      refine zg ?_
      refine zG (fn := Tryz.f106) (fun _ _ h => h) (Rs.two rfl (zo rfl) (zo rfl))
