/-
  THE WALKS of number's shiftLeft, shiftRight.
  THE WALK of number's quotientWord.
  THE WALK of number's divNat, for a divisor of two words or more.
  THE WALKS of number's divNat, DivMod, GCD.
-/
import Derived.Test.YtddfphneidcibaaGN
import Derived.Test.YtddfphneidcibaaGP
import Derived.Test.YtddfphneidcibaaGD
import Derived.Test.YtddfphneidcibaaGH
import Derived.Test.YtddfphneidcibaaGF
import Derived.Lib.ItoaNum
namespace Go.Proofs.Ytddfphneidcibaa
open Go.RowKit
open Nm (W32)
namespace Sx
theorem ins_nil {Γ : Cx} {σ : St} : ∀ s ∈ ([] : List Nat), s ∈ σ.L Γ := fun _ h => by cases h
theorem ins_cons {Γ : Cx} {σ : St} {g : Nat} {S : List Nat} (j : Nat) (h : (σ.bx[j]?).map (·.1) = some g) (h2 : ∀ s ∈ S, s ∈ σ.L Γ) : ∀ s ∈ g :: S, s ∈ σ.L Γ := by
  intro s hs
  rcases List.mem_cons.1 hs with rfl | hs
  · obtain ⟨p, hp, rfl⟩ := Option.map_eq_some_iff.1 h
    exact List.mem_append_left _ (List.mem_map.2 ⟨p, List.mem_of_getElem? hp, rfl⟩)
  · exact h2 _ hs
theorem natd_at {X j : Nat} {i : Int} (hi : i = (j : Int)) (hj : j < (cN .u32 (Nm.dg W32 X)).length) : (cN .u32 (Nm.dg W32 X))[i.toNat]? = some (.int .u32 ((X / W32 ^ j % W32 : Nat) : Int)) := by
  subst hi
  rw [Int.toNat_natCast, cN_get (by simpa using hj), Nm.dg_getD (by decide)]
theorem own_at {n A o j : Nat} (ho : o = j) (hj : j < n) : ((cN .u32 (Nm.pad W32 n A)).map isD)[o]? = some (isD (.int .u32 ((A / W32 ^ j % W32 : Nat) : Int))) := by
  subst ho
  rw [List.getElem?_map, cN_get (by simpa using hj), Nm.pad_getD _ _ _ _ hj]
  rfl
theorem padd_at {n A j : Nat} {i : Int} (hi : i = (j : Int)) (hj : j < n) : (cN .u32 (Nm.pad W32 n A))[i.toNat]? = some (.int .u32 ((A / W32 ^ j % W32 : Nat) : Int)) := by
  subst hi
  rw [Int.toNat_natCast, cN_get (by simpa using hj), Nm.pad_getD _ _ _ _ hj]
theorem w_lt (A j : Nat) : A / W32 ^ j % W32 < 4294967296 := Nat.mod_lt _ (by decide)
theorem st_pow {s : Nat} (hs : s < 32) : 2 ^ s * 2 ^ (32 - s) = W32 := by rw [← Nat.pow_add, show s + (32 - s) = 32 by omega]
theorem pow32 {s : Nat} (hs : s < 32) : 2 ^ s ≤ 2147483648 := Nat.le_trans (Nat.pow_le_pow_right (by decide) (show s ≤ 31 by omega)) (by decide)
theorem shl64 {x s : Nat} (hx : x < 4294967296) (hs : s ≤ 32) : IntKind.u64.wrap ((x : Int) * 2 ^ (min s IntKind.u64.bits)) = ((x * 2 ^ s : Nat) : Int) := by
  have h1 : min s IntKind.u64.bits = s := Nat.min_eq_left (Nat.le_trans hs (by decide))
  have h2 : 2 ^ s ≤ 4294967296 := Nat.le_trans (Nat.pow_le_pow_right (by decide) hs) (by decide)
  have h3 : x * 2 ^ s ≤ 4294967295 * 4294967296 := Nat.mul_le_mul (by omega) h2
  have e : (x : Int) * 2 ^ s = ((x * 2 ^ s : Nat) : Int) := by simp
  rw [h1, e]
  exact wrap_u64 (by omega) (by omega)
theorem lo32 (v : Nat) : IntKind.u32.wrap (v : Int) = ((v % 4294967296 : Nat) : Int) := by rw [wrap_u32]; simp
theorem hi64 (v : Nat) : (v : Int) / 2 ^ (min 32 IntKind.u64.bits) = ((v / 4294967296 : Nat) : Int) := by
  have : min 32 IntKind.u64.bits = 32 := rfl
  rw [this]
  simp
theorem or_low {a lo s : Nat} (ha : a < 2 ^ s) (hl : lo % 2 ^ s = 0) (hlt : a + lo < W32) : bits .or .u32 (a : Int) (lo : Int) = ((a + lo : Nat) : Int) := by
  have hlt' : a + lo < 4294967296 := hlt
  rw [u32_or_nat a lo (by omega) (by omega)]
  congr 1
  obtain ⟨c, hc⟩ : ∃ c, lo = 2 ^ s * c := ⟨lo / 2 ^ s, by have := Nat.div_add_mod lo (2 ^ s); omega⟩
  have := Nat.two_pow_add_eq_or_of_lt ha c
  rw [hc, Nat.or_comm, Nat.add_comm]
  exact this.symm
theorem own_set2 {n A C j k d e : Nat} {o p : Nat} {u v : Int} (ho : o = j) (hp : p = k) (hu : u = (d : Int)) (hv : v = (e : Int)) (hm : ((Nm.pad W32 n A).set j d).set k e = Nm.pad W32 n C) :
    (((cN .u32 (Nm.pad W32 n A)).map isD).set o (isD (.int .u32 u))).set p (isD (.int .u32 v)) = (cN .u32 (Nm.pad W32 n C)).map isD := by
  subst ho hp hu hv
  rw [← hm, ← List.map_set, cN_set, ← List.map_set, cN_set]
set_option maxHeartbeats 4000000 in
set_option maxRecDepth 100000 in
theorem con_shl {X s : Nat} (hX : X < W32 ^ 100) (hs : s < 32) : ConO Try.prog 115 [natD X, errD (s : Int)] ((cN .u32 (Nm.dg W32 X)).length + 1) ((cN .u32 (Nm.pad W32 ((cN .u32 (Nm.dg W32 X)).length + 1) (X * 2 ^ s))).map isD) := by
  have hn : (cN .u32 (Nm.dg W32 X)).length = Nm.len W32 X := by rw [cN_length, Nm.dg_length]
  have hn1 : (cN .u32 (Nm.dg W32 X)).length ≤ 100 := by rw [hn]; exact (Nm.len_le (B := W32) (by decide) 100 _).2 hX
  have hXn : X < W32 ^ (cN .u32 (Nm.dg W32 X)).length := by rw [hn]; exact Nm.lt_pow_len (by decide) X
  refine con_ofO Try.func115 (by kernel_rfl) rfl (by kernel_rfl) fun base w0 => ?_
  refine SW.seq ?_
  refine SW.region ?_
  refine SWl.rd rfl (Rd.assign rfl) ?_
  refine SWl.nil ?_
  refine SN.then ?_
  refine SW.seq ?_
  refine SW.region ?_
  refine SWl.rd rfl (Rd.move rfl) ?_
  refine SWl.rd rfl (Rd.len (e := 83) rfl (by kernel_rfl)) ?_
  refine SWl.rd rfl (Rd.add rfl rfl ⟨by omega, by omega⟩) ?_
  refine SWl.ef (S := []) (Ef.make (e := 83) (z := .int .u32 0) (n := (cN .u32 (Nm.dg W32 X)).length + 1) 4 rfl rfl (by kernel_rfl) (by kernel_rfl) rfl (by omega) (by omega) (by omega) (by decide) rfl) ?_
  rintro _ ⟨g12, rfl⟩
  refine SWl.rd rfl (Rd.assign rfl) ?_
  refine SWl.nil ?_
  refine SN.then ?_
  refine SW.seq ?_
  refine SW.seq ?_
  refine SW.region ?_
  refine SWl.rd rfl (Rd.move rfl) ?_
  refine SWl.rd rfl (Rd.len (e := 83) rfl (by kernel_rfl)) ?_
  refine SWl.rd rfl (Rd.move rfl) ?_
  refine SWl.nil ?_
  refine SN.then ?_
  refine SW.block ?_
  refine SW.loop (ι := {k : Nat // k ≤ (cN .u32 (Nm.dg W32 X)).length}) (fun ⟨k, hk⟩ => St.of [(1, errD (s : Int)), (5, isD (.slice (some ⟨g12, 0, none⟩) ((cN .u32 (Nm.dg W32 X)).length + 1) ((cN .u32 (Nm.dg W32 X)).length + 1))), (13, natD X), (14, errD ((cN .u32 (Nm.dg W32 X)).length : Int)), (15, errD (k : Int))] [(g12, (cN .u32 (Nm.pad W32 ((cN .u32 (Nm.dg W32 X)).length + 1) (X % W32 ^ k * 2 ^ s))).map isD)]) (fun ⟨k, hk⟩ => (cN .u32 (Nm.dg W32 X)).length - k) (⟨0, Nat.zero_le _⟩) ?_ ?_
  · exact ⟨⟨_, rfl, ⟨⟨_, rfl, Le.refl _⟩, ⟨⟨_, rfl, Le.refl _⟩, ⟨⟨_, rfl, Le.refl _⟩, ⟨⟨_, rfl, Le.refl _⟩, ⟨⟨_, rfl, Le.refl _⟩, trivial⟩⟩⟩⟩⟩⟩, [0], by decide, ⟨⟨_, rfl, leAll_eq (by rw [Nat.pow_zero, Nat.mod_one, Nat.zero_mul, zeros32])⟩, trivial⟩⟩
  · rintro ⟨k, hk⟩ K0 hK0
    refine SW.seq ?_
    refine SW.region ?_
    refine SWl.rd rfl (Rd.lss rfl rfl) ?_
    refine SWl.nil ?_
    refine SN.then ?_
    refine SW.seq ?_
    refine SW.cond rfl (fun hb16 => ?_) (fun hb16 => ?_)
    · have hlt : k < (cN .u32 (Nm.dg W32 X)).length := (by have := of_decide_eq_true hb16; omega); have hx := w_lt X k; have hstep := Nm.shl_step (n := (cN .u32 (Nm.dg W32 X)).length + 1) (X := X) (i := k) (st_pow hs) (Nat.pow_pos (by decide)) (by omega) rfl rfl; have hhi : X / W32 ^ k % W32 * 2 ^ s / 4294967296 < 4294967296 := Nat.div_lt_of_lt_mul (Nat.mul_lt_mul_of_lt_of_le hx (Nat.le_trans (pow32 hs) (by decide)) (by decide))
      refine SW.skip ?_
      refine SN.then ?_
      refine SW.seq ?_
      refine SW.block ?_
      refine SW.seq ?_
      refine SW.region ?_
      refine SWl.rd rfl (Rd.move rfl) ?_
      refine SWl.rd rfl (Rd.idx (e := 83) rfl rfl (by kernel_rfl) (by kernel_rfl) (by omega) (natd_at (j := k) rfl hlt)) ?_
      refine SWl.rd rfl (Rd.loadP rfl (by kernel_rfl) (by simp)) ?_
      refine SWl.rd rfl (Rd.assign rfl) ?_
      refine SWl.rd rfl (Rd.assign rfl) ?_
      refine SWl.nil ?_
      refine SN.then ?_
      refine SW.seq ?_
      refine SW.region ?_
      refine SWl.rd rfl (Rd.move rfl) ?_
      refine SWl.rd rfl (Rd.cvW .u32 rfl (by kernel_rfl) (by kernel_rfl) (wrap_u64 (by omega) (by omega))) ?_
      refine SWl.rd rfl (Rd.move rfl) ?_
      refine SWl.rd rfl (Rd.shlW (s := s) rfl rfl (shl64 hx (by omega))) ?_
      refine SWl.rd rfl (Rd.assign rfl) ?_
      refine SWl.nil ?_
      refine SN.then ?_
      refine SW.seq ?_
      refine SW.region ?_
      refine SWl.rd rfl (Rd.move rfl) ?_
      refine SWl.rd rfl (Rd.move rfl) ?_
      refine SWl.rd rfl (Rd.idxE (e := 83) rfl rfl (by kernel_rfl) (by kernel_rfl) (by omega) (by omega)) ?_
      refine SWl.rd rfl (Rd.loadE 0 rfl rfl (own_at (j := k) (by omega) (by omega)) (by kernel_rfl) trivial) ?_
      refine SWl.rd rfl (Rd.move rfl) ?_
      refine SWl.rd rfl (Rd.cvW .u64 rfl (by kernel_rfl) (by kernel_rfl) (lo32 _)) ?_
      refine SWl.rd rfl (Rd.orW rfl rfl (or_low hstep.2.1 hstep.2.2.1 hstep.2.2.2)) ?_
      refine SWl.rd rfl (Rd.idxE (e := 83) rfl rfl (by kernel_rfl) (by kernel_rfl) (by omega) (by omega)) ?_
      refine SWl.ef (S := [_]) (Ef.storeE 0 rfl rfl rfl (by kernel_rfl) (by simp at hlt ⊢; omega) (List.mem_singleton.2 rfl)) ?_
      rintro _ rfl
      refine SWl.nil ?_
      refine SN.then ?_
      refine SW.region ?_
      refine SWl.rd rfl (Rd.move rfl) ?_
      refine SWl.rd rfl (Rd.move rfl) ?_
      refine SWl.rd rfl (Rd.add rfl rfl ⟨by omega, by omega⟩) ?_
      refine SWl.rd rfl (Rd.move rfl) ?_
      refine SWl.rd rfl (Rd.shrW (s := 32) rfl rfl (hi64 _)) ?_
      refine SWl.rd rfl (Rd.cvW .u64 rfl (by kernel_rfl) (by kernel_rfl) (by rw [lo32, Nat.mod_eq_of_lt hhi])) ?_
      refine SWl.rd rfl (Rd.idxE (e := 83) rfl rfl (by kernel_rfl) (by kernel_rfl) (by omega) (by omega)) ?_
      refine SWl.ef (S := [_]) (Ef.storeE 0 rfl rfl rfl (by kernel_rfl) (by simp at hlt ⊢; omega) (List.mem_singleton.2 rfl)) ?_
      rintro _ rfl
      refine SWl.nil ?_
      refine SN.block ?_
      refine SN.then ?_
      refine SW.region ?_
      refine SWl.rd rfl (Rd.add rfl rfl ⟨by omega, by omega⟩) ?_
      refine SWl.rd rfl (Rd.move rfl) ?_
      refine SWl.nil ?_
      exact fun a w hh => hK0 (⟨k + 1, hlt⟩) (by show (cN .u32 (Nm.dg W32 X)).length - (k + 1) < (cN .u32 (Nm.dg W32 X)).length - k; omega) a w (hh.sub (⟨⟨_, rfl, ⟨⟨_, rfl, Le.refl _⟩, ⟨⟨_, rfl, Le.refl _⟩, ⟨⟨_, rfl, Le.refl _⟩, ⟨⟨_, rfl, Le.refl _⟩, ⟨⟨_, rfl, le_err (by omega)⟩, trivial⟩⟩⟩⟩⟩⟩, [0], by decide, ⟨⟨_, rfl, leAll_eq (own_set2 (j := k) (k := k + 1) (by omega) (by omega) rfl rfl hstep.1)⟩, trivial⟩⟩))
    · obtain rfl : k = (cN .u32 (Nm.dg W32 X)).length := by have := of_decide_eq_false hb16; omega
      refine SW.exit' ?_
      repeat (first | refine SE.then ?_ | refine SE.skip (by decide) ?_)
      refine SE.here ?_
      refine SN.then ?_
      refine SW.seq ?_
      refine SW.region ?_
      refine SWl.rd rfl (Rd.move rfl) ?_
      refine SWl.rd rfl (Rd.assign rfl) ?_
      refine SWl.nil ?_
      refine SN.then ?_
      refine SW.retO (fn := Try.f115) (fun _ _ h => h) 0 rfl rfl rfl ?_
      exact leAll_eq (by rw [Nat.mod_eq_of_lt hXn])
theorem le_sl {xs ys : List Value} (h : xs = ys) : Le (slD xs) (slD ys) := by subst h; exact Le.refl _
theorem set_at {ds : List D} {o : Nat} {d : D} (h : o < ds.length) : (ds.set o d)[o]? = some d := by simp [h]
theorem shr32 {x s : Nat} (hs : s < 32) : (x : Int) / 2 ^ (min s IntKind.u32.bits) = ((x / 2 ^ s : Nat) : Int) := by
  have h1 : min s IntKind.u32.bits = s := Nat.min_eq_left (Nat.le_trans (Nat.le_of_lt hs) (by decide))
  rw [h1]
  simp
theorem shr_fill {n R s k v : Nat} (hs : s < 32) (hk : k < n) (hv : v = R / W32 ^ k % W32 / 2 ^ s + (R / W32 ^ (k + 1) % W32) * 2 ^ (32 - s) % W32) : (Nm.pad W32 n (R / 2 ^ s % W32 ^ k)).set k v = Nm.pad W32 n (R / 2 ^ s % W32 ^ (k + 1)) := by
  have h := Nm.shr_word (S := 2 ^ s) (T := 2 ^ (32 - s)) (X := R) (i := k) (st_pow hs)
  rw [← hv] at h
  rw [Nm.pad_next (by decide) hk (Nat.mod_lt _ (Nat.pow_pos (by decide))) (by rw [← h]; exact Nat.mod_lt _ (by decide)), ← h, ← Nm.mod_next]
theorem shr_or {R s k : Nat} (hs : s < 32) : bits .or .u32 ((R / W32 ^ k % W32 / 2 ^ s : Nat) : Int) (((R / W32 ^ (k + 1) % W32) * 2 ^ (32 - s) % 4294967296 : Nat) : Int) = ((R / W32 ^ k % W32 / 2 ^ s + (R / W32 ^ (k + 1) % W32) * 2 ^ (32 - s) % W32 : Nat) : Int) := by
  have hST := st_pow hs
  have hx := w_lt R k
  have ha : R / W32 ^ k % W32 / 2 ^ s < 2 ^ (32 - s) := Nat.div_lt_of_lt_mul (by rw [hST]; exact hx)
  have hl : (R / W32 ^ (k + 1) % W32) * 2 ^ (32 - s) % W32 % 2 ^ (32 - s) = 0 := by
    rw [← hST, Nat.mul_mod_mul_right, Nat.mul_mod_left]
  refine or_low ha hl ?_
  have h := Nm.shr_word (S := 2 ^ s) (T := 2 ^ (32 - s)) (X := R) (i := k) hST
  rw [← h]
  exact Nat.mod_lt _ (by decide)
theorem own_set1 {n A C j d : Nat} {o : Nat} {u : Int} (ho : o = j) (hu : u = (d : Int)) (hm : (Nm.pad W32 n A).set j d = Nm.pad W32 n C) : ((cN .u32 (Nm.pad W32 n A)).map isD).set o (isD (.int .u32 u)) = (cN .u32 (Nm.pad W32 n C)).map isD := by
  subst ho hu
  rw [← hm, ← List.map_set, cN_set]
theorem own_set11 {n A C j d : Nat} {o p : Nat} {u v : Int} (ho : o = j) (hp : p = j) (hv : v = (d : Int)) (hm : (Nm.pad W32 n A).set j d = Nm.pad W32 n C) : (((cN .u32 (Nm.pad W32 n A)).map isD).set o (isD (.int .u32 u))).set p (isD (.int .u32 v)) = (cN .u32 (Nm.pad W32 n C)).map isD := by
  subst ho hp
  rw [List.set_set]
  exact own_set1 rfl hv hm
set_option maxHeartbeats 4000000 in
set_option maxRecDepth 100000 in
theorem con_shr {R s n : Nat} (hR : R < W32 ^ n) (hn1 : n ≤ 1000) (hs : s < 32) : Con Try.prog 117 [slD (cN .u32 (Nm.pad W32 n R)), errD (s : Int)] (slD (cN .u32 (Nm.pad W32 n (R / 2 ^ s)))) := by
  have hn : (cN .u32 (Nm.pad W32 n R)).length = n := by simp
  refine con_of Try.func117 (by kernel_rfl) rfl (by kernel_rfl) fun base w0 => ?_
  refine SW.seq ?_
  refine SW.region ?_
  refine SWl.rd rfl (Rd.assign rfl) ?_
  refine SWl.nil ?_
  refine SN.then ?_
  refine SW.seq ?_
  refine SW.region ?_
  refine SWl.rd rfl (Rd.move rfl) ?_
  refine SWl.rd rfl (Rd.len (e := 83) rfl (by kernel_rfl)) ?_
  refine SWl.ef (S := []) (Ef.make (e := 83) (z := .int .u32 0) (n := n) 4 rfl rfl (by kernel_rfl) (by kernel_rfl) rfl (by rw [hn]) (by rw [hn]) (by omega) (by decide) rfl) ?_
  rintro _ ⟨g10, rfl⟩
  refine SWl.rd rfl (Rd.assign rfl) ?_
  refine SWl.nil ?_
  refine SN.then ?_
  refine SW.seq ?_
  refine SW.seq ?_
  refine SW.region ?_
  refine SWl.rd rfl (Rd.move rfl) ?_
  refine SWl.rd rfl (Rd.len (e := 83) rfl (by kernel_rfl)) ?_
  refine SWl.rd rfl (Rd.move rfl) ?_
  refine SWl.nil ?_
  refine SN.then ?_
  refine SW.block ?_
  refine SW.loop (ι := {k : Nat // k ≤ n}) (fun ⟨k, hk⟩ => St.of [(0, slD (cN .u32 (Nm.pad W32 n R))), (1, errD (s : Int)), (5, isD (.slice (some ⟨g10, 0, none⟩) n n)), (11, slD (cN .u32 (Nm.pad W32 n R))), (12, errD (n : Int)), (13, errD (k : Int))] [(g10, (cN .u32 (Nm.pad W32 n (R / 2 ^ s % W32 ^ k))).map isD)]) (fun ⟨k, hk⟩ => n - k) (⟨0, Nat.zero_le _⟩) ?_ ?_
  · exact ⟨⟨_, rfl, ⟨⟨_, rfl, Le.refl _⟩, ⟨⟨_, rfl, Le.refl _⟩, ⟨⟨_, rfl, Le.refl _⟩, ⟨⟨_, rfl, Le.refl _⟩, ⟨⟨_, rfl, le_err (by rw [hn])⟩, ⟨⟨_, rfl, Le.refl _⟩, trivial⟩⟩⟩⟩⟩⟩⟩, [0], by decide, ⟨⟨_, rfl, leAll_eq (by rw [Nat.pow_zero, Nat.mod_one, zeros32])⟩, trivial⟩⟩
  · rintro ⟨k, hk⟩ K0 hK0
    refine SW.seq ?_
    refine SW.region ?_
    refine SWl.rd rfl (Rd.lss rfl rfl) ?_
    refine SWl.nil ?_
    refine SN.then ?_
    refine SW.seq ?_
    refine SW.cond rfl (fun hb14 => ?_) (fun hb14 => ?_)
    · have hlt : k < n := (by have := of_decide_eq_true hb14; omega); have hx := w_lt R k; have hy := w_lt R (k + 1)
      refine SW.skip ?_
      refine SN.then ?_
      refine SW.seq ?_
      refine SW.block ?_
      refine SW.seq ?_
      refine SW.region ?_
      refine SWl.rd rfl (Rd.move rfl) ?_
      refine SWl.rd rfl (Rd.idx (e := 83) rfl rfl (by kernel_rfl) (by kernel_rfl) (by omega) (padd_at (j := k) rfl hlt)) ?_
      refine SWl.rd rfl (Rd.loadP rfl (by kernel_rfl) (by simp)) ?_
      refine SWl.rd rfl (Rd.assign rfl) ?_
      refine SWl.rd rfl (Rd.assign rfl) ?_
      refine SWl.nil ?_
      refine SN.then ?_
      refine SW.seq ?_
      refine SW.region ?_
      refine SWl.rd rfl (Rd.move rfl) ?_
      refine SWl.rd rfl (Rd.move rfl) ?_
      refine SWl.rd rfl (Rd.move rfl) ?_
      refine SWl.rd rfl (Rd.move rfl) ?_
      refine SWl.rd rfl (Rd.shrW (s := s) rfl rfl (shr32 hs)) ?_
      refine SWl.rd rfl (Rd.idxE (e := 83) rfl rfl (by kernel_rfl) (by kernel_rfl) (by omega) (by omega)) ?_
      refine SWl.ef (S := [_]) (Ef.storeE 0 rfl rfl rfl (by kernel_rfl) (by simp; omega) (List.mem_singleton.2 rfl)) ?_
      rintro _ rfl
      refine SWl.nil ?_
      refine SN.then ?_
      refine SW.seq ?_
      refine SW.region ?_
      refine SWl.rd rfl (Rd.move rfl) ?_
      refine SWl.rd rfl (Rd.add rfl rfl ⟨by omega, by omega⟩) ?_
      refine SWl.rd rfl (Rd.move rfl) ?_
      refine SWl.rd rfl (Rd.len (e := 83) rfl (by kernel_rfl)) ?_
      refine SWl.rd rfl (Rd.lss rfl rfl) ?_
      refine SWl.nil ?_
      refine SN.then ?_
      refine SW.cond rfl (fun hb28 => ?_) (fun hb28 => ?_)
      · have hlt2 : k + 1 < n := (by have := of_decide_eq_true hb28; omega)
        refine SW.draw [g10] (.r 0 (.r 1 (.r 2 (.q 3 (.r 4 (.r 5 (.r 6 (.r 7 (.r 8 (.r 9 (.r 10 (.r 11 (.r 12 (.r 13 (.r 14 (.r 15 (.e 16 .fin .no))))))))))))))))) (by kernel_rfl) (by kernel_rfl) (fun d _ _ _ _ h => by cases d <;> exact h) ?_
        refine SWz.rd (i := 0) rfl rfl (Rd.move rfl) ?_
        refine SWz.rd (i := 1) rfl rfl (Rd.move rfl) ?_
        refine SWz.rd (i := 2) rfl rfl (Rd.idxE (e := 83) rfl rfl (by kernel_rfl) (by kernel_rfl) (by omega) (by omega)) ?_
        refine SWz.rq (i := 3) rfl rfl (Rd.loadE 0 rfl rfl (set_at (by simp; omega)) (by kernel_rfl) trivial) ?_
        refine SWz.rd (i := 4) rfl rfl (Rd.move rfl) ?_
        refine SWz.rd (i := 5) rfl rfl (Rd.move rfl) ?_
        refine SWz.rd (i := 6) rfl rfl (Rd.add rfl rfl ⟨by omega, by omega⟩) ?_
        refine SWz.rd (i := 7) rfl rfl (Rd.idx (e := 83) rfl rfl (by kernel_rfl) (by kernel_rfl) (by omega) (padd_at (j := k + 1) (by omega) hlt2)) ?_
        refine SWz.rd (i := 8) rfl rfl (Rd.loadP rfl (by kernel_rfl) (ins_cons (j := 0) rfl ins_nil)) ?_
        refine SWz.rd (i := 9) rfl rfl (Rd.cvW .u32 rfl (by kernel_rfl) (by kernel_rfl) (wrap_u64 (by omega) (by omega))) ?_
        refine SWz.rd (i := 10) rfl rfl (Rd.move rfl) ?_
        refine SWz.rd (i := 11) rfl rfl (Rd.subi rfl rfl ⟨by omega, by omega⟩) ?_
        refine SWz.rd (i := 12) rfl rfl (Rd.shlW (s := 32 - s) rfl (by rw [show ((32 - s : Nat) : Int) = 32 - (s : Int) by omega]; rfl) (shl64 hy (by omega))) ?_
        refine SWz.rd (i := 13) rfl rfl (Rd.cvW .u64 rfl (by kernel_rfl) (by kernel_rfl) (lo32 _)) ?_
        refine SWz.rd (i := 14) rfl rfl (Rd.orW rfl rfl (shr_or hs)) ?_
        refine SWz.rd (i := 15) rfl rfl (Rd.idxE (e := 83) rfl rfl (by kernel_rfl) (by kernel_rfl) (by omega) (by omega)) ?_
        refine SWz.efe (i := 16) rfl (Ef.storeE 0 rfl rfl rfl (by kernel_rfl) (by simp; omega) (List.mem_of_getElem? (i := 0) rfl)) ?_ SWz.no
        rintro _ rfl
        refine SWz.nil ?_
        refine SN.block ?_
        refine SN.then ?_
        refine SW.region ?_
        refine SWl.rd rfl (Rd.add rfl rfl ⟨by omega, by omega⟩) ?_
        refine SWl.rd rfl (Rd.move rfl) ?_
        refine SWl.nil ?_
        exact fun a w hh => hK0 (⟨k + 1, hlt⟩) (by show n - (k + 1) < n - k; omega) a w (hh.sub (⟨⟨_, rfl, ⟨⟨_, rfl, Le.refl _⟩, ⟨⟨_, rfl, Le.refl _⟩, ⟨⟨_, rfl, Le.refl _⟩, ⟨⟨_, rfl, Le.refl _⟩, ⟨⟨_, rfl, Le.refl _⟩, ⟨⟨_, rfl, le_err (by omega)⟩, trivial⟩⟩⟩⟩⟩⟩⟩, [0], by decide, ⟨⟨_, rfl, leAll_eq (own_set11 (j := k) (by omega) (by omega) rfl (shr_fill hs hlt rfl))⟩, trivial⟩⟩))
      · have hlast : R / W32 ^ (k + 1) % W32 = 0 := (by have h9 := of_decide_eq_false hb28; rw [show k + 1 = n by omega, Nat.div_eq_of_lt hR]; rfl)
        refine SW.skip ?_
        refine SN.block ?_
        refine SN.then ?_
        refine SW.region ?_
        refine SWl.rd rfl (Rd.add rfl rfl ⟨by omega, by omega⟩) ?_
        refine SWl.rd rfl (Rd.move rfl) ?_
        refine SWl.nil ?_
        exact fun a w hh => hK0 (⟨k + 1, hlt⟩) (by show n - (k + 1) < n - k; omega) a w (hh.sub (⟨⟨_, rfl, ⟨⟨_, rfl, Le.refl _⟩, ⟨⟨_, rfl, Le.refl _⟩, ⟨⟨_, rfl, Le.refl _⟩, ⟨⟨_, rfl, Le.refl _⟩, ⟨⟨_, rfl, Le.refl _⟩, ⟨⟨_, rfl, le_err (by omega)⟩, trivial⟩⟩⟩⟩⟩⟩⟩, [0], by decide, ⟨⟨_, rfl, leAll_eq (own_set1 (j := k) (by omega) rfl (shr_fill hs hlt (by rw [hlast, Nat.zero_mul, Nat.zero_mod, Nat.add_zero])))⟩, trivial⟩⟩))
    · obtain rfl : n = k := by have := of_decide_eq_false hb14; omega
      refine SW.exit' ?_
      repeat (first | refine SE.then ?_ | refine SE.skip (by decide) ?_)
      refine SE.here ?_
      refine SN.then ?_
      refine SW.seq ?_
      refine SW.region ?_
      refine SWl.freeze 5 0 (cN .u32 (Nm.pad W32 n (R / 2 ^ s % W32 ^ n))) rfl rfl (by simp) (Nat.le_refl _) rfl ?_
      refine SWl.rd rfl (Rd.move rfl) ?_
      refine SWl.rd rfl (Rd.assign rfl) ?_
      refine SWl.nil ?_
      refine SN.then ?_
      refine SW.ret (fn := Try.f117) (fun _ _ h => h) (Rs.le (Rs.one rfl (ResV.tmp rfl)) ?_)
      exact le_sl (by rw [Nat.mod_eq_of_lt (Nat.lt_of_le_of_lt (Nat.div_le_self _ _) hR)])
end Sx
end Go.Proofs.Ytddfphneidcibaa
namespace Go.Proofs.Ytddfphneidcibaa
open Go.RowKit
open Nm (W32)
namespace Sx
theorem le_wd {k : IntKind} {a b : Int} (h : a = b) : Le (isD (.int k a)) (isD (.int k b)) := by subst h; exact Le.refl _
theorem sub1 {q : Nat} (h0 : 0 < q) (h : q ≤ 4294967297) : IntKind.u64.wrap ((q : Int) - 1) = ((q - 1 : Nat) : Int) := by
  rw [show (q : Int) - 1 = ((q - 1 : Nat) : Int) by omega]
  exact wrap_u64 (by omega) (by omega)
theorem cv64 {x y : Nat} (h : x = y) (hx : x < 4294967296) : IntKind.u64.wrap (x : Int) = (y : Int) := by
  subst h
  exact wrap_u64 (by omega) (by omega)
theorem add64 {a b : Nat} (h : a + b < 18446744073709551616) : IntKind.u64.wrap ((a : Int) + (b : Int)) = ((a + b : Nat) : Int) := by
  rw [← Int.natCast_add]
  exact wrap_u64 (by omega) (by omega)
theorem mul64 {a b : Nat} (ha : a ≤ 4294967295) (hb : b ≤ 4294967295) : IntKind.u64.wrap ((a : Int) * (b : Int)) = ((a * b : Nat) : Int) := by
  have := Nat.mul_le_mul ha hb
  rw [← Int.natCast_mul]
  exact wrap_u64 (by omega) (by omega)
theorem quo64 {a b : Nat} (ha : a < 18446744073709551616) : IntKind.u64.wrap ((a : Int).tdiv (b : Int)) = ((a / b : Nat) : Int) := by
  have h := Nat.div_le_self a b
  rw [← Int.ofNat_tdiv]
  generalize a / b = z at h ⊢
  exact wrap_u64 (by omega) (by omega)
theorem or64 {a b c : Nat} (ha : a < 4294967296) (hb : b < 4294967296) (h : a * 4294967296 + b = c) : bits .or .u64 ((a * 2 ^ 32 : Nat) : Int) (b : Int) = (c : Int) := by
  subst h
  have h := u64_or_nat (a * 2 ^ 32) b (by omega) (by omega)
  rw [h]
  congr 1
  have := Nat.two_pow_add_eq_or_of_lt (i := 32) (b := b) (by omega) a
  rw [show a * 2 ^ 32 = 2 ^ 32 * a from Nat.mul_comm _ _]
  exact this.symm
theorem sub64 {x y b : Nat} (hx : x < 4294967296) (hy : y < 4294967296) (hb : b ≤ 1) : IntKind.u64.wrap (IntKind.u64.wrap ((x : Int) - (y : Int)) - (b : Int)) = ((if x < y + b then x + 18446744073709551616 - y - b else x - y - b : Nat) : Int) := by
  rw [wrap_u64m, wrap_u64m]
  split <;> omega
theorem sub64_lo {x y b c : Nat} (hx : x < 4294967296) (hy : y < 4294967296) (hb : b ≤ 1) (hc : c = if x < y + b then 1 else 0) : IntKind.u32.wrap ((if x < y + b then x + 18446744073709551616 - y - b else x - y - b : Nat) : Int) = ((x + c * W32 - y - b : Nat) : Int) := by
  have e : W32 = 4294967296 := rfl
  rw [lo32, hc, e]
  split <;> omega
theorem sub64_hi {x y b c : Nat} (hx : x < 4294967296) (hy : y < 4294967296) (hb : b ≤ 1) (hc : c = if x < y + b then 1 else 0) : ((if x < y + b then x + 18446744073709551616 - y - b else x - y - b : Nat) : Int) / 2 ^ (min 63 IntKind.u64.bits) = (c : Int) := by
  have e : min 63 IntKind.u64.bits = 63 := rfl
  rw [e, hc]
  split <;> omega
theorem add32 {a b c : Nat} (h : (a + b) % W32 = c) : IntKind.u32.wrap ((a : Int) + (b : Int)) = (c : Int) := by
  rw [← Int.natCast_add, lo32]
  exact congrArg _ h
theorem qb_at {lo hi : List Nat} {n A o j x : Nat} (ho : o = lo.length + j) (hj : j < n) (hx : A / W32 ^ j % W32 = x) : ((cN .u32 (lo ++ Nm.pad W32 n A ++ hi)).map isD)[o]? = some (isD (.int .u32 (x : Int))) := by
  subst ho hx
  have h1 : j < (Nm.pad W32 n A).length := by simpa using hj
  have e : (lo ++ Nm.pad W32 n A ++ hi).getD (lo.length + j) 0 = A / W32 ^ j % W32 := by
    rw [List.getD_eq_getElem?_getD, List.append_assoc, List.getElem?_append_right (by omega), Nat.add_sub_cancel_left, List.getElem?_append_left h1, ← List.getD_eq_getElem?_getD, Nm.pad_getD _ _ _ _ hj]
  rw [List.getElem?_map, cN_get (by simp; omega), e]
  rfl
theorem qb_set {lo hi : List Nat} {n A C o j d : Nat} {v : Int} (ho : o = lo.length + j) (hj : j < n) (hv : v = (d : Int)) (hm : (Nm.pad W32 n A).set j d = Nm.pad W32 n C) : ((cN .u32 (lo ++ Nm.pad W32 n A ++ hi)).map isD).set o (isD (.int .u32 v)) = (cN .u32 (lo ++ Nm.pad W32 n C ++ hi)).map isD := by
  have h1 : j < (Nm.pad W32 n A).length := by simpa using hj
  refine own_set (j := lo.length + j) ho hv ?_
  rw [List.append_assoc, List.set_append_right _ _ (by omega), Nat.add_sub_cancel_left, List.set_append_left _ _ h1, hm, List.append_assoc]
theorem qb_len {lo hi : List Nat} {n A o j : Nat} (ho : o = lo.length + j) (hj : j < n) : o < ((cN .u32 (lo ++ Nm.pad W32 n A ++ hi)).map isD).length := by
  simp
  omega
set_option maxHeartbeats 4000000 in
set_option maxRecDepth 100000 in
theorem con_qw {lo up : List Nat} {g c U V m : Nat} (hm : m ≤ 1000) (hV : V < W32 ^ (m + 2)) (hbig : W32 ≤ 2 * (V / W32 ^ (m + 1))) (hU : U < V * W32) : ConB Try.prog 116 g ((cN .u32 (lo ++ Nm.pad W32 (m + 3) (U) ++ up)).map isD) ((cN .u32 (lo ++ Nm.pad W32 (m + 3) (U % V) ++ up)).map isD) [isD (.slice (some ⟨g, lo.length, none⟩) (m + 3) c), slD (cN .u32 (Nm.pad W32 (m + 2) V))] (isD (.int .u32 ((U / V : Nat) : Int))) := by
  have hB : 2 ≤ W32 := by decide
  have eB : W32 = 4294967296 := rfl
  have hn : (cN .u32 (Nm.pad W32 (m + 2) V)).length = m + 2 := by simp
  obtain ⟨h, hh⟩ : ∃ h, h = V / W32 ^ (m + 1) := ⟨_, rfl⟩
  obtain ⟨v2, hv2⟩ : ∃ v2, v2 = V / W32 ^ m % W32 := ⟨_, rfl⟩
  obtain ⟨u2, hu2⟩ : ∃ u2, u2 = U / W32 ^ m % W32 := ⟨_, rfl⟩
  rw [← hh] at hbig
  obtain ⟨hV0, hh0, hhB⟩ := Nm.gs_pos hB hh hV hbig
  have h2 : V / W32 ^ m = h * W32 + v2 := by rw [hh, hv2, Nat.pow_succ, ← Nat.div_div_eq_div_mul]; exact (Nat.div_add_mod' _ _).symm
  have hv2B : v2 < W32 := by rw [hv2]; exact Nat.mod_lt _ (by decide)
  have hu2B : u2 < 4294967296 := by rw [hu2]; exact Nat.mod_lt _ (by decide)
  have hUp : U < W32 ^ (m + 3) := Nat.lt_of_lt_of_le hU (by rw [Nat.pow_succ W32 (m + 2)]; exact Nat.mul_le_mul_right _ (Nat.le_of_lt hV))
  have eh : V / W32 ^ (m + 1) % W32 = h := by rw [← hh]; exact Nat.mod_eq_of_lt hhB
  have hut := w_lt U (m + 2)
  have hut1 := w_lt U (m + 1)
  have htop : (U / W32 ^ (m + 2) % W32) * 4294967296 + U / W32 ^ (m + 1) % W32 = U / W32 ^ (m + 1) := by rw [Nat.mod_eq_of_lt (Nat.div_lt_of_lt_mul (by rw [← Nat.pow_succ]; exact hUp)), Nat.pow_succ W32 (m + 1), ← Nat.div_div_eq_div_mul]; exact Nat.div_add_mod' _ _
  have htB : U / W32 ^ (m + 1) < 18446744073709551616 := by omega
  refine con_ofB Try.func116 (by kernel_rfl) rfl (by kernel_rfl) fun base w0 => ?_
  refine SW.seq ?_
  refine SW.region ?_
  refine SWl.rd rfl (Rd.assign rfl) ?_
  refine SWl.nil ?_
  refine SN.then ?_
  refine SW.seq ?_
  refine SW.region ?_
  refine SWl.rd rfl (Rd.move rfl) ?_
  refine SWl.rd rfl (Rd.len (e := 83) rfl (by kernel_rfl)) ?_
  refine SWl.rd rfl (Rd.assign rfl) ?_
  refine SWl.nil ?_
  refine SN.then ?_
  refine SW.seq ?_
  refine SW.region ?_
  refine SWl.rd rfl (Rd.move rfl) ?_
  refine SWl.rd rfl (Rd.move rfl) ?_
  refine SWl.rd rfl (Rd.subi rfl rfl ⟨by omega, by omega⟩) ?_
  refine SWl.rd rfl (Rd.idx (e := 83) rfl rfl (by kernel_rfl) (by kernel_rfl) (by omega) (padd_at (j := m + 1) (by omega) (by omega))) ?_
  refine SWl.rd rfl (Rd.loadP rfl (by kernel_rfl) (by simp)) ?_
  refine SWl.rd rfl (Rd.cvW .u32 rfl (by kernel_rfl) (by kernel_rfl) (cv64 eh (by omega))) ?_
  refine SWl.rd rfl (Rd.assign rfl) ?_
  refine SWl.nil ?_
  refine SN.then ?_
  refine SW.seq ?_
  refine SW.draw [] (.r 0 (.r 1 (.r 2 (.r 3 (.r 4 (.r 5 (.r 6 (.r 7 (.r 8 (.r 9 (.r 10 (.r 11 (.r 12 (.r 13 .fin)))))))))))))) (by kernel_rfl) (by kernel_rfl) (fun d _ _ _ _ h => by cases d <;> exact h) ?_
  refine SWz.rd (i := 0) rfl rfl (Rd.move rfl) ?_
  refine SWz.rd (i := 1) rfl rfl (Rd.move rfl) ?_
  refine SWz.rd (i := 2) rfl rfl (Rd.idxE (e := 83) rfl rfl (by kernel_rfl) (by kernel_rfl) (by omega) (by omega)) ?_
  refine SWz.rd (i := 3) rfl rfl (Rd.loadE 0 rfl rfl (qb_at (j := m + 2) (by omega) (by omega) rfl) (by kernel_rfl) trivial) ?_
  refine SWz.rd (i := 4) rfl rfl (Rd.cvW .u32 rfl (by kernel_rfl) (by kernel_rfl) (cv64 rfl hut)) ?_
  refine SWz.rd (i := 5) rfl rfl (Rd.shlW (s := 32) rfl rfl (shl64 hut (by decide))) ?_
  refine SWz.rd (i := 6) rfl rfl (Rd.move rfl) ?_
  refine SWz.rd (i := 7) rfl rfl (Rd.move rfl) ?_
  refine SWz.rd (i := 8) rfl rfl (Rd.subi rfl rfl ⟨by omega, by omega⟩) ?_
  refine SWz.rd (i := 9) rfl rfl (Rd.idxE (e := 83) rfl rfl (by kernel_rfl) (by kernel_rfl) (by omega) (by omega)) ?_
  refine SWz.rd (i := 10) rfl rfl (Rd.loadE 0 rfl rfl (qb_at (j := m + 1) (by omega) (by omega) rfl) (by kernel_rfl) trivial) ?_
  refine SWz.rd (i := 11) rfl rfl (Rd.cvW .u32 rfl (by kernel_rfl) (by kernel_rfl) (cv64 rfl hut1)) ?_
  refine SWz.rd (i := 12) rfl rfl (Rd.orW rfl rfl (or64 hut hut1 htop)) ?_
  refine SWz.rd (i := 13) rfl rfl (Rd.assign rfl) ?_
  refine SWz.nil ?_
  refine SN.then ?_
  refine SW.seq ?_
  refine SW.region ?_
  refine SWl.rd rfl (Rd.move rfl) ?_
  refine SWl.rd rfl (Rd.move rfl) ?_
  refine SWl.rd rfl (Rd.quoW rfl rfl (by omega) (quo64 htB)) ?_
  refine SWl.rd rfl (Rd.assign rfl) ?_
  refine SWl.nil ?_
  refine SN.then ?_
  refine SW.seq ?_
  refine SW.region ?_
  refine SWl.rd rfl (Rd.move rfl) ?_
  refine SWl.rd rfl (Rd.move rfl) ?_
  refine SWl.rd rfl (Rd.remW rfl rfl (by omega) (Int.ofNat_tmod _ _).symm) ?_
  refine SWl.rd rfl (Rd.assign rfl) ?_
  refine SWl.nil ?_
  refine SN.then ?_
  refine SW.seq ?_
  refine SW.meet (fun σ => ∃ q, (q < W32 ∧ (q = U / V ∨ q = U / V + 1)) ∧ σ = St.of [(0, isD (.slice (some ⟨g, lo.length, none⟩) (m + 3) c)), (1, slD (cN .u32 (Nm.pad W32 (m + 2) V))), (5, errD ((m + 2 : Nat) : Int)), (8, isD (.int .u64 ((q : Nat) : Int)))] [(g, (cN .u32 (lo ++ Nm.pad W32 (m + 3) (U) ++ up)).map isD)]) ?_ ?_
  · refine SW.block ?_
    refine SW.loop (ι := {p : Nat × Nat // Nm.Gs W32 U V m h v2 p.1 p.2 ∧ p.2 < W32}) (fun ⟨⟨q, r⟩, hgr⟩ => St.of [(0, isD (.slice (some ⟨g, lo.length, none⟩) (m + 3) c)), (1, slD (cN .u32 (Nm.pad W32 (m + 2) V))), (5, errD ((m + 2 : Nat) : Int)), (6, isD (.int .u64 ((h : Nat) : Int))), (8, isD (.int .u64 ((q : Nat) : Int))), (9, isD (.int .u64 ((r : Nat) : Int)))] [(g, (cN .u32 (lo ++ Nm.pad W32 (m + 3) (U) ++ up)).map isD)]) (fun ⟨⟨q, r⟩, hgr⟩ => q) (⟨(U / W32 ^ (m + 1) / h, U / W32 ^ (m + 1) % h), Nm.gs_start hB hh hV hbig, Nat.lt_trans (Nat.mod_lt _ hh0) hhB⟩) ?_ ?_
    · exact ⟨⟨_, rfl, ⟨⟨_, rfl, Le.refl _⟩, ⟨⟨_, rfl, Le.refl _⟩, ⟨⟨_, rfl, le_err (by omega)⟩, ⟨⟨_, rfl, Le.refl _⟩, ⟨⟨_, rfl, Le.refl _⟩, ⟨⟨_, rfl, Le.refl _⟩, trivial⟩⟩⟩⟩⟩⟩⟩, [0], by decide, ⟨⟨_, rfl, LeAll.refl _⟩, trivial⟩⟩
    · rintro ⟨⟨q, r⟩, hg, hr⟩ K0 hK0
      have hg : Nm.Gs W32 U V m h v2 q r := hg
      have hr : r < 4294967296 := hr
      have hq : q ≤ 4294967297 := Nm.gs_first hB hh hV hbig hU hg
      refine SW.seq ?_
      refine SW.seq ?_
      refine SW.draw [] (.r 0 (.r 1 (.r 2 (.r 3 (.r 4 (.r 5 (.r 6 (.r 7 (.r 8 (.r 9 (.r 10 (.r 11 (.r 12 (.r 13 (.r 14 (.r 15 (.r 16 (.r 17 (.r 18 (.r 19 (.r 20 (.r 21 .fin)))))))))))))))))))))) (by kernel_rfl) (by kernel_rfl) (fun d _ _ _ _ h => by cases d <;> exact h) ?_
      refine SWz.rd (i := 0) rfl rfl (Rd.move rfl) ?_
      refine SWz.rd (i := 1) rfl rfl (Rd.geq rfl rfl) ?_
      refine SWz.rd (i := 2) rfl rfl (Rd.move rfl) ?_
      refine SWz.split 45 rfl (fun hb45 => ?_) (fun hb45 => ?_)
      · have hc : W32 ≤ q ∨ r * W32 + u2 < q * v2 := .inl (by have := of_decide_eq_true hb45; omega); obtain ⟨hq0, hg2⟩ := Nm.gs_next hB hh hV hbig hU h2 hg hu2 hc
        refine SWz.off (i := 3) rfl rfl rfl (hb45) rfl rfl ?_
        refine SWz.off (i := 4) rfl rfl rfl (hb45) rfl rfl ?_
        refine SWz.off (i := 5) rfl rfl rfl (hb45) rfl rfl ?_
        refine SWz.off (i := 6) rfl rfl rfl (hb45) rfl rfl ?_
        refine SWz.off (i := 7) rfl rfl rfl (hb45) rfl rfl ?_
        refine SWz.off (i := 8) rfl rfl rfl (hb45) rfl rfl ?_
        refine SWz.off (i := 9) rfl rfl rfl (hb45) rfl rfl ?_
        refine SWz.off (i := 10) rfl rfl rfl (hb45) rfl rfl ?_
        refine SWz.off (i := 11) rfl rfl rfl (hb45) rfl rfl ?_
        refine SWz.off (i := 12) rfl rfl rfl (hb45) rfl rfl ?_
        refine SWz.off (i := 13) rfl rfl rfl (hb45) rfl rfl ?_
        refine SWz.off (i := 14) rfl rfl rfl (hb45) rfl rfl ?_
        refine SWz.off (i := 15) rfl rfl rfl (hb45) rfl rfl ?_
        refine SWz.off (i := 16) rfl rfl rfl (hb45) rfl rfl ?_
        refine SWz.off (i := 17) rfl rfl rfl (hb45) rfl rfl ?_
        refine SWz.off (i := 18) rfl rfl rfl (hb45) rfl rfl ?_
        refine SWz.off (i := 19) rfl rfl rfl (hb45) rfl rfl ?_
        refine SWz.off (i := 20) rfl rfl rfl (hb45) rfl rfl ?_
        refine SWz.rd (i := 21) rfl rfl (Rd.pickY rfl (hb45) rfl) ?_
        refine SWz.nil ?_
        refine SN.then ?_
        refine SW.condT rfl (rfl) ?_
        refine SW.skip ?_
        refine SN.then ?_
        refine SW.block ?_
        refine SW.seq ?_
        refine SW.region ?_
        refine SWl.rd rfl (Rd.move rfl) ?_
        refine SWl.rd rfl (Rd.subW rfl rfl (sub1 hq0 hq)) ?_
        refine SWl.rd rfl (Rd.assign rfl) ?_
        refine SWl.nil ?_
        refine SN.then ?_
        refine SW.seq ?_
        refine SW.region ?_
        refine SWl.rd rfl (Rd.move rfl) ?_
        refine SWl.rd rfl (Rd.move rfl) ?_
        refine SWl.rd rfl (Rd.addW rfl rfl (add64 (by omega))) ?_
        refine SWl.rd rfl (Rd.assign rfl) ?_
        refine SWl.nil ?_
        refine SN.then ?_
        refine SW.seq ?_
        refine SW.region ?_
        refine SWl.rd rfl (Rd.move rfl) ?_
        refine SWl.rd rfl (Rd.geq rfl rfl) ?_
        refine SWl.nil ?_
        refine SN.then ?_
        refine SW.cond rfl (fun hb71 => ?_) (fun hb71 => ?_)
        · have hend := Nm.gs_end hB hh hV hbig hU h2 hv2B hg2 hu2 (.inr (by have h9 := of_decide_eq_true hb71; rw [eB]; omega))
          refine SW.exit' ?_
          repeat (first | refine SE.then ?_ | refine SE.skip (by decide) ?_)
          refine SE.here ?_
          exact SN.meet ⟨q - 1, hend, rfl⟩ (⟨⟨_, rfl, ⟨⟨_, rfl, Le.refl _⟩, ⟨⟨_, rfl, Le.refl _⟩, ⟨⟨_, rfl, Le.refl _⟩, ⟨⟨_, rfl, Le.refl _⟩, trivial⟩⟩⟩⟩⟩, [0], by decide, ⟨⟨_, rfl, LeAll.refl _⟩, trivial⟩⟩)
        · have hr2 : r + h < W32 := by have h9 := of_decide_eq_false hb71; rw [eB]; omega
          refine SW.skip ?_
          refine SN.block ?_
          exact fun a w hh => hK0 (⟨(q - 1, r + h), hg2, hr2⟩) (by show q - 1 < q; omega) a w (hh.sub (⟨⟨_, rfl, ⟨⟨_, rfl, Le.refl _⟩, ⟨⟨_, rfl, Le.refl _⟩, ⟨⟨_, rfl, Le.refl _⟩, ⟨⟨_, rfl, Le.refl _⟩, ⟨⟨_, rfl, Le.refl _⟩, ⟨⟨_, rfl, Le.refl _⟩, trivial⟩⟩⟩⟩⟩⟩⟩, [0], by decide, ⟨⟨_, rfl, LeAll.refl _⟩, trivial⟩⟩))
      · have hqB : q < 4294967296 := by have := of_decide_eq_false hb45; omega
        refine SWz.rdg (i := 3) rfl rfl rfl (hb45) rfl rfl (Rd.move rfl) ?_
        refine SWz.rdg (i := 4) rfl rfl rfl (hb45) rfl rfl (Rd.move rfl) ?_
        refine SWz.rdg (i := 5) rfl rfl rfl (hb45) rfl rfl (Rd.move rfl) ?_
        refine SWz.rdg (i := 6) rfl rfl rfl (hb45) rfl rfl (Rd.subi rfl rfl ⟨by omega, by omega⟩) ?_
        refine SWz.rdg (i := 7) rfl rfl rfl (hb45) rfl rfl (Rd.idx (e := 83) rfl rfl (by kernel_rfl) (by kernel_rfl) (by omega) (padd_at (j := m) (by omega) (by omega))) ?_
        refine SWz.rdg (i := 8) rfl rfl rfl (hb45) rfl rfl (Rd.loadP rfl (by kernel_rfl) (by simp)) ?_
        refine SWz.rdg (i := 9) rfl rfl rfl (hb45) rfl rfl (Rd.cvW .u32 rfl (by kernel_rfl) (by kernel_rfl) (cv64 hv2.symm (by omega))) ?_
        refine SWz.rdg (i := 10) rfl rfl rfl (hb45) rfl rfl (Rd.mulW rfl rfl (mul64 (by omega) (by omega))) ?_
        refine SWz.rdg (i := 11) rfl rfl rfl (hb45) rfl rfl (Rd.move rfl) ?_
        refine SWz.rdg (i := 12) rfl rfl rfl (hb45) rfl rfl (Rd.shlW (s := 32) rfl rfl (shl64 hr (by decide))) ?_
        refine SWz.rdg (i := 13) rfl rfl rfl (hb45) rfl rfl (Rd.move rfl) ?_
        refine SWz.rdg (i := 14) rfl rfl rfl (hb45) rfl rfl (Rd.move rfl) ?_
        refine SWz.rdg (i := 15) rfl rfl rfl (hb45) rfl rfl (Rd.subi rfl rfl ⟨by omega, by omega⟩) ?_
        refine SWz.rdg (i := 16) rfl rfl rfl (hb45) rfl rfl (Rd.idxE (e := 83) rfl rfl (by kernel_rfl) (by kernel_rfl) (by omega) (by omega)) ?_
        refine SWz.rdg (i := 17) rfl rfl rfl (hb45) rfl rfl (Rd.loadE 0 rfl rfl (qb_at (j := m) (by omega) (by omega) hu2.symm) (by kernel_rfl) trivial) ?_
        refine SWz.rdg (i := 18) rfl rfl rfl (hb45) rfl rfl (Rd.cvW .u32 rfl (by kernel_rfl) (by kernel_rfl) (cv64 rfl hu2B)) ?_
        refine SWz.rdg (i := 19) rfl rfl rfl (hb45) rfl rfl (Rd.orW rfl rfl (or64 hr hu2B rfl)) ?_
        refine SWz.rdg (i := 20) rfl rfl rfl (hb45) rfl rfl (Rd.gtr rfl rfl) ?_
        refine SWz.rd (i := 21) rfl rfl (Rd.pickN rfl (hb45) rfl) ?_
        refine SWz.nil ?_
        refine SN.then ?_
        refine SW.cond rfl (fun hb64 => ?_) (fun hb64 => ?_)
        · have hc : W32 ≤ q ∨ r * W32 + u2 < q * v2 := .inr (by have h9 := of_decide_eq_true hb64; rw [eB]; omega); obtain ⟨hq0, hg2⟩ := Nm.gs_next hB hh hV hbig hU h2 hg hu2 hc
          refine SW.skip ?_
          refine SN.then ?_
          refine SW.block ?_
          refine SW.seq ?_
          refine SW.region ?_
          refine SWl.rd rfl (Rd.move rfl) ?_
          refine SWl.rd rfl (Rd.subW rfl rfl (sub1 hq0 hq)) ?_
          refine SWl.rd rfl (Rd.assign rfl) ?_
          refine SWl.nil ?_
          refine SN.then ?_
          refine SW.seq ?_
          refine SW.region ?_
          refine SWl.rd rfl (Rd.move rfl) ?_
          refine SWl.rd rfl (Rd.move rfl) ?_
          refine SWl.rd rfl (Rd.addW rfl rfl (add64 (by omega))) ?_
          refine SWl.rd rfl (Rd.assign rfl) ?_
          refine SWl.nil ?_
          refine SN.then ?_
          refine SW.seq ?_
          refine SW.region ?_
          refine SWl.rd rfl (Rd.move rfl) ?_
          refine SWl.rd rfl (Rd.geq rfl rfl) ?_
          refine SWl.nil ?_
          refine SN.then ?_
          refine SW.cond rfl (fun hb71 => ?_) (fun hb71 => ?_)
          · have hend := Nm.gs_end hB hh hV hbig hU h2 hv2B hg2 hu2 (.inr (by have h9 := of_decide_eq_true hb71; rw [eB]; omega))
            refine SW.exit' ?_
            repeat (first | refine SE.then ?_ | refine SE.skip (by decide) ?_)
            refine SE.here ?_
            exact SN.meet ⟨q - 1, hend, rfl⟩ (⟨⟨_, rfl, ⟨⟨_, rfl, Le.refl _⟩, ⟨⟨_, rfl, Le.refl _⟩, ⟨⟨_, rfl, Le.refl _⟩, ⟨⟨_, rfl, Le.refl _⟩, trivial⟩⟩⟩⟩⟩, [0], by decide, ⟨⟨_, rfl, LeAll.refl _⟩, trivial⟩⟩)
          · have hr2 : r + h < W32 := by have h9 := of_decide_eq_false hb71; rw [eB]; omega
            refine SW.skip ?_
            refine SN.block ?_
            exact fun a w hh => hK0 (⟨(q - 1, r + h), hg2, hr2⟩) (by show q - 1 < q; omega) a w (hh.sub (⟨⟨_, rfl, ⟨⟨_, rfl, Le.refl _⟩, ⟨⟨_, rfl, Le.refl _⟩, ⟨⟨_, rfl, Le.refl _⟩, ⟨⟨_, rfl, Le.refl _⟩, ⟨⟨_, rfl, Le.refl _⟩, ⟨⟨_, rfl, Le.refl _⟩, trivial⟩⟩⟩⟩⟩⟩⟩, [0], by decide, ⟨⟨_, rfl, LeAll.refl _⟩, trivial⟩⟩))
        · have hend := Nm.gs_end hB hh hV hbig hU h2 hv2B hg hu2 (.inl ⟨hqB, by have h9 := of_decide_eq_false hb64; rw [eB]; omega⟩)
          refine SW.exit' ?_
          repeat (first | refine SE.then ?_ | refine SE.skip (by decide) ?_)
          refine SE.here ?_
          exact SN.meet ⟨q, hend, rfl⟩ (⟨⟨_, rfl, ⟨⟨_, rfl, Le.refl _⟩, ⟨⟨_, rfl, Le.refl _⟩, ⟨⟨_, rfl, Le.refl _⟩, ⟨⟨_, rfl, Le.refl _⟩, trivial⟩⟩⟩⟩⟩, [0], by decide, ⟨⟨_, rfl, LeAll.refl _⟩, trivial⟩⟩)
  · rintro _ ⟨q, ⟨hqB, hqv⟩, rfl⟩
    refine SN.then ?_
    refine SW.seq ?_
    refine SW.region ?_
    refine SWl.rd rfl (Rd.assign rfl) ?_
    refine SWl.rd rfl (Rd.assign rfl) ?_
    refine SWl.nil ?_
    refine SN.then ?_
    refine SW.seq ?_
    refine SW.seq ?_
    refine SW.region ?_
    refine SWl.rd rfl (Rd.move rfl) ?_
    refine SWl.rd rfl (Rd.len (e := 83) rfl (by kernel_rfl)) ?_
    refine SWl.rd rfl (Rd.move rfl) ?_
    refine SWl.nil ?_
    refine SN.then ?_
    refine SW.block ?_
    refine SW.loop (ι := {i : Nat // i ≤ m + 2}) (fun ⟨i, hi⟩ => St.of [(0, isD (.slice (some ⟨g, lo.length, none⟩) (m + 3) c)), (1, slD (cN .u32 (Nm.pad W32 (m + 2) V))), (5, errD ((m + 2 : Nat) : Int)), (8, isD (.int .u64 ((q : Nat) : Int))), (10, isD (.int .u64 ((Nm.bw W32 U (q * V) i : Nat) : Int))), (11, isD (.int .u64 ((q * (V % W32 ^ i) / W32 ^ i : Nat) : Int))), (73, errD ((m + 2 : Nat) : Int)), (74, errD (i : Int))] [(g, (cN .u32 (lo ++ Nm.pad W32 (m + 3) (Nm.sA W32 U (q * V) i) ++ up)).map isD)]) (fun ⟨i, hi⟩ => m + 2 - i) (⟨0, Nat.zero_le _⟩) ?_ ?_
    · exact ⟨⟨_, rfl, ⟨⟨_, rfl, Le.refl _⟩, ⟨⟨_, rfl, Le.refl _⟩, ⟨⟨_, rfl, Le.refl _⟩, ⟨⟨_, rfl, Le.refl _⟩, ⟨⟨_, rfl, le_wd (by rw [Nm.bw_zero]; rfl)⟩, ⟨⟨_, rfl, le_wd (by rw [Nat.pow_zero, Nat.mod_one]; simp)⟩, ⟨⟨_, rfl, le_err (by rw [hn])⟩, ⟨⟨_, rfl, Le.refl _⟩, trivial⟩⟩⟩⟩⟩⟩⟩⟩⟩, [0], by decide, ⟨⟨_, rfl, leAll_eq (by rw [Nm.sA_zero])⟩, trivial⟩⟩
    · rintro ⟨i, hi⟩ K1 hK1
      refine SW.seq ?_
      refine SW.region ?_
      refine SWl.rd rfl (Rd.lss rfl rfl) ?_
      refine SWl.nil ?_
      refine SN.then ?_
      refine SW.seq ?_
      refine SW.cond rfl (fun hb75 => ?_) (fun hb75 => ?_)
      · have hlt : i < m + 2 := (by have := of_decide_eq_true hb75; omega); have hvi := w_lt V i; have hui := w_lt U i; have hzi := w_lt (q * V) i; have hps := Nm.pr_step (B := W32) (by decide) q V i; have hpc : q * (V % W32 ^ i) / W32 ^ i < 4294967296 := Nm.pr_carry (by decide) hqB V i; have hqv' : q * (V / W32 ^ i % W32) ≤ 4294967295 * 4294967295 := Nat.mul_le_mul (by have := hqB; have e : W32 = 4294967296 := rfl; omega) (by omega); have hbw := (Nm.df_step (B := W32) (by decide) U (q * V) i).1; have hb1 := Nm.bw_le W32 U (q * V) i
        refine SW.skip ?_
        refine SN.then ?_
        refine SW.seq ?_
        refine SW.block ?_
        refine SW.seq ?_
        refine SW.region ?_
        refine SWl.rd rfl (Rd.move rfl) ?_
        refine SWl.rd rfl (Rd.assign rfl) ?_
        refine SWl.nil ?_
        refine SN.then ?_
        refine SW.seq ?_
        refine SW.region ?_
        refine SWl.rd rfl (Rd.move rfl) ?_
        refine SWl.rd rfl (Rd.move rfl) ?_
        refine SWl.rd rfl (Rd.move rfl) ?_
        refine SWl.rd rfl (Rd.move rfl) ?_
        refine SWl.rd rfl (Rd.idx (e := 83) rfl rfl (by kernel_rfl) (by kernel_rfl) (by omega) (padd_at (j := i) (by omega) (by omega))) ?_
        refine SWl.rd rfl (Rd.loadP rfl (by kernel_rfl) (by simp)) ?_
        refine SWl.rd rfl (Rd.cvW .u32 rfl (by kernel_rfl) (by kernel_rfl) (cv64 rfl hvi)) ?_
        refine SWl.rd rfl (Rd.mulW rfl rfl (mul64 (by omega) (by omega))) ?_
        refine SWl.rd rfl (Rd.addW rfl rfl (add64 (by omega))) ?_
        refine SWl.rd rfl (Rd.assign rfl) ?_
        refine SWl.nil ?_
        refine SN.then ?_
        refine SW.seq ?_
        refine SW.region ?_
        refine SWl.rd rfl (Rd.move rfl) ?_
        refine SWl.rd rfl (Rd.move rfl) ?_
        refine SWl.rd rfl (Rd.idxE (e := 83) rfl rfl (by kernel_rfl) (by kernel_rfl) (by omega) (by omega)) ?_
        refine SWl.rd rfl (Rd.loadE 0 rfl rfl (qb_at (j := i) (by omega) (by omega) (Nm.sA_at (by decide) U (q * V) i)) (by kernel_rfl) trivial) ?_
        refine SWl.rd rfl (Rd.cvW .u32 rfl (by kernel_rfl) (by kernel_rfl) (cv64 rfl hui)) ?_
        refine SWl.rd rfl (Rd.move rfl) ?_
        refine SWl.rd rfl (Rd.cvW .u64 rfl (by kernel_rfl) (by kernel_rfl) ((lo32 _).trans (congrArg (fun n : Nat => (n : Int)) hps.2.symm))) ?_
        refine SWl.rd rfl (Rd.cvW .u32 rfl (by kernel_rfl) (by kernel_rfl) (cv64 rfl hzi)) ?_
        refine SWl.rd rfl (Rd.subW rfl rfl rfl) ?_
        refine SWl.rd rfl (Rd.move rfl) ?_
        refine SWl.rd rfl (Rd.subW rfl rfl (sub64 hui hzi hb1)) ?_
        refine SWl.rd rfl (Rd.assign rfl) ?_
        refine SWl.nil ?_
        refine SN.then ?_
        refine SW.seq ?_
        refine SW.region ?_
        refine SWl.rd rfl (Rd.move rfl) ?_
        refine SWl.rd rfl (Rd.move rfl) ?_
        refine SWl.rd rfl (Rd.move rfl) ?_
        refine SWl.rd rfl (Rd.cvW .u64 rfl (by kernel_rfl) (by kernel_rfl) (sub64_lo hui hzi hb1 hbw)) ?_
        refine SWl.rd rfl (Rd.idxE (e := 83) rfl rfl (by kernel_rfl) (by kernel_rfl) (by omega) (by omega)) ?_
        refine SWl.ef (S := [_]) (Ef.storeE 0 rfl rfl rfl (by kernel_rfl) (qb_len (j := i) (by omega) (by omega)) (List.mem_singleton.2 rfl)) ?_
        rintro _ rfl
        refine SWl.nil ?_
        refine SN.then ?_
        refine SW.seq ?_
        refine SW.region ?_
        refine SWl.rd rfl (Rd.move rfl) ?_
        refine SWl.rd rfl (Rd.shrW (s := 63) rfl rfl (sub64_hi hui hzi hb1 hbw)) ?_
        refine SWl.rd rfl (Rd.assign rfl) ?_
        refine SWl.nil ?_
        refine SN.then ?_
        refine SW.region ?_
        refine SWl.rd rfl (Rd.move rfl) ?_
        refine SWl.rd rfl (Rd.shrW (s := 32) rfl rfl (hi64 _)) ?_
        refine SWl.rd rfl (Rd.assign rfl) ?_
        refine SWl.nil ?_
        refine SN.block ?_
        refine SN.then ?_
        refine SW.region ?_
        refine SWl.rd rfl (Rd.add rfl rfl ⟨by omega, by omega⟩) ?_
        refine SWl.rd rfl (Rd.move rfl) ?_
        refine SWl.nil ?_
        exact fun a w hh => hK1 (⟨i + 1, hlt⟩) (by show m + 2 - (i + 1) < m + 2 - i; omega) a w (hh.sub (⟨⟨_, rfl, ⟨⟨_, rfl, Le.refl _⟩, ⟨⟨_, rfl, Le.refl _⟩, ⟨⟨_, rfl, Le.refl _⟩, ⟨⟨_, rfl, Le.refl _⟩, ⟨⟨_, rfl, Le.refl _⟩, ⟨⟨_, rfl, le_wd (congrArg _ hps.1.symm)⟩, ⟨⟨_, rfl, Le.refl _⟩, ⟨⟨_, rfl, le_err (by omega)⟩, trivial⟩⟩⟩⟩⟩⟩⟩⟩⟩, [0], by decide, ⟨⟨_, rfl, leAll_eq (qb_set (j := i) (by omega) (by omega) rfl (Nm.sA_fill (by decide) U (q * V) i (by omega) _ rfl))⟩, trivial⟩⟩))
      · obtain rfl : i = m + 2 := (by have := of_decide_eq_false hb75; omega); have hzt := w_lt (q * V) (m + 2); have hqV : q * V < W32 ^ (m + 3) := (by rw [Nat.pow_succ W32 (m + 2), Nat.mul_comm]; exact Nat.mul_lt_mul_of_lt_of_le hV (Nat.le_of_lt hqB) (by decide)); have hct : q * (V % W32 ^ (m + 2)) / W32 ^ (m + 2) = q * V / W32 ^ (m + 2) % W32 := (by rw [Nat.mod_eq_of_lt hV, Nat.mod_eq_of_lt (Nat.div_lt_of_lt_mul (by rw [← Nat.pow_succ]; exact hqV))]); have hbt : Nm.bw W32 U (q * V) (m + 3) = _ := (Nm.df_step (B := W32) (by decide) U (q * V) (m + 2)).1; have hbt1 := Nm.bw_le W32 U (q * V) (m + 2); have hdf := Nm.df_full hUp hqV; have hst : (Nm.pad W32 (m + 3) (Nm.sA W32 U (q * V) (m + 2))).set (m + 2) _ = Nm.pad W32 (m + 3) (Nm.sA W32 U (q * V) (m + 3)) := Nm.sA_fill (by decide) U (q * V) (m + 2) (by omega) _ rfl
        refine SW.exit' ?_
        repeat (first | refine SE.then ?_ | refine SE.skip (by decide) ?_)
        refine SE.here ?_
        refine SN.then ?_
        refine SW.seq ?_
        refine SW.region ?_
        refine SWl.rd rfl (Rd.move rfl) ?_
        refine SWl.rd rfl (Rd.move rfl) ?_
        refine SWl.rd rfl (Rd.idxE (e := 83) rfl rfl (by kernel_rfl) (by kernel_rfl) (by omega) (by omega)) ?_
        refine SWl.rd rfl (Rd.loadE 0 rfl rfl (qb_at (j := m + 2) (by omega) (by omega) (Nm.sA_at (by decide) U (q * V) (m + 2))) (by kernel_rfl) trivial) ?_
        refine SWl.rd rfl (Rd.cvW .u32 rfl (by kernel_rfl) (by kernel_rfl) (cv64 rfl hut)) ?_
        refine SWl.rd rfl (Rd.move rfl) ?_
        refine SWl.rd rfl (Rd.subW rfl (by rw [hct]; rfl) rfl) ?_
        refine SWl.rd rfl (Rd.move rfl) ?_
        refine SWl.rd rfl (Rd.subW rfl rfl (sub64 hut hzt hbt1)) ?_
        refine SWl.rd rfl (Rd.assign rfl) ?_
        refine SWl.nil ?_
        refine SN.then ?_
        refine SW.seq ?_
        refine SW.region ?_
        refine SWl.rd rfl (Rd.move rfl) ?_
        refine SWl.rd rfl (Rd.move rfl) ?_
        refine SWl.rd rfl (Rd.move rfl) ?_
        refine SWl.rd rfl (Rd.cvW .u64 rfl (by kernel_rfl) (by kernel_rfl) (sub64_lo hut hzt hbt1 hbt)) ?_
        refine SWl.rd rfl (Rd.idxE (e := 83) rfl rfl (by kernel_rfl) (by kernel_rfl) (by omega) (by omega)) ?_
        refine SWl.ef (S := [_]) (Ef.storeE 0 rfl rfl rfl (by kernel_rfl) (qb_len (j := m + 2) (by omega) (by omega)) (List.mem_singleton.2 rfl)) ?_
        rintro _ rfl
        refine SWl.nil ?_
        refine SN.then ?_
        refine SW.seq ?_
        refine SW.seq ?_
        refine SW.region ?_
        refine SWl.rd rfl (Rd.move rfl) ?_
        refine SWl.rd rfl (Rd.shrW (s := 63) rfl rfl (sub64_hi hut hzt hbt1 hbt)) ?_
        refine SWl.rd rfl (Rd.nei rfl rfl) ?_
        refine SWl.nil ?_
        refine SN.then ?_
        refine SW.cond rfl (fun hb123 => ?_) (fun hb123 => ?_)
        · have hlt : U < q * V := (by by_cases h7 : U < q * V; exact h7; rw [hdf.2, if_neg h7] at hb123; exact absurd hb123 (by decide)); obtain ⟨R, hR⟩ : ∃ R, R = U + W32 ^ (m + 3) - q * V := ⟨_, rfl⟩; have hRlt : R < W32 ^ (m + 2 + 1) := (by show R < W32 ^ (m + 3); omega); obtain ⟨hq1, hrem⟩ := (Nm.kn_end (n := m + 2) hB hV0 hV hU hqv).2 hlt; have hRs : Nm.sA W32 U (q * V) (m + 3) = R := (by rw [Nm.sA_all hUp, hdf.1, if_pos hlt, hR]); have hrem2 : (R + V) % W32 ^ (m + 2 + 1) = U % V := (by rw [hR]; exact hrem); have hq0 : 0 < q := (by apply Nat.pos_of_ne_zero; intro e; rw [e, Nat.zero_mul] at hlt; omega); have hout : IntKind.u32.wrap ((q - 1 : Nat) : Int) = ((U / V : Nat) : Int) := (by rw [lo32, Nat.mod_eq_of_lt (by omega), hq1])
          refine SW.seq ?_
          refine SW.region ?_
          refine SWl.rd rfl (Rd.move rfl) ?_
          refine SWl.rd rfl (Rd.subW rfl rfl (sub1 hq0 (by omega))) ?_
          refine SWl.rd rfl (Rd.assign rfl) ?_
          refine SWl.nil ?_
          refine SN.then ?_
          refine SW.seq ?_
          refine SW.region ?_
          refine SWl.rd rfl (Rd.assign rfl) ?_
          refine SWl.nil ?_
          refine SN.then ?_
          refine SW.seq ?_
          refine SW.seq ?_
          refine SW.region ?_
          refine SWl.rd rfl (Rd.move rfl) ?_
          refine SWl.rd rfl (Rd.len (e := 83) rfl (by kernel_rfl)) ?_
          refine SWl.rd rfl (Rd.move rfl) ?_
          refine SWl.nil ?_
          refine SN.then ?_
          refine SW.block ?_
          refine SW.loop (ι := {i : Nat // i ≤ m + 2}) (fun ⟨i, hi⟩ => St.of [(0, isD (.slice (some ⟨g, lo.length, none⟩) (m + 3) c)), (1, slD (cN .u32 (Nm.pad W32 (m + 2) V))), (5, errD ((m + 2 : Nat) : Int)), (8, isD (.int .u64 ((q - 1 : Nat) : Int))), (11, isD (.int .u64 ((Nm.sm W32 R V i / W32 ^ i : Nat) : Int))), (127, errD ((m + 2 : Nat) : Int)), (128, errD (i : Int))] [(g, (cN .u32 (lo ++ Nm.pad W32 (m + 3) (Nm.aA W32 R V i) ++ up)).map isD)]) (fun ⟨i, hi⟩ => m + 2 - i) (⟨0, Nat.zero_le _⟩) ?_ ?_
          · exact ⟨⟨_, rfl, ⟨⟨_, rfl, Le.refl _⟩, ⟨⟨_, rfl, Le.refl _⟩, ⟨⟨_, rfl, Le.refl _⟩, ⟨⟨_, rfl, Le.refl _⟩, ⟨⟨_, rfl, le_wd (by rw [Nm.sm_zero]; simp)⟩, ⟨⟨_, rfl, le_err (by rw [hn])⟩, ⟨⟨_, rfl, Le.refl _⟩, trivial⟩⟩⟩⟩⟩⟩⟩⟩, [0], by decide, ⟨⟨_, rfl, leAll_eq ((qb_set (j := m + 2) (by omega) (by omega) rfl hst).trans (by rw [Nm.aA_zero, hRs]))⟩, trivial⟩⟩
          · rintro ⟨i, hi⟩ K2 hK2
            refine SW.seq ?_
            refine SW.region ?_
            refine SWl.rd rfl (Rd.lss rfl rfl) ?_
            refine SWl.nil ?_
            refine SN.then ?_
            refine SW.seq ?_
            refine SW.cond rfl (fun hb129 => ?_) (fun hb129 => ?_)
            · have hlt : i < m + 2 := (by have := of_decide_eq_true hb129; omega); have hvi := w_lt V i; have hri := w_lt R i; have hsc := Nm.sm_carry (B := W32) (by decide) R V i
              refine SW.skip ?_
              refine SN.then ?_
              refine SW.seq ?_
              refine SW.block ?_
              refine SW.seq ?_
              refine SW.region ?_
              refine SWl.rd rfl (Rd.move rfl) ?_
              refine SWl.rd rfl (Rd.assign rfl) ?_
              refine SWl.nil ?_
              refine SN.then ?_
              refine SW.seq ?_
              refine SW.draw [] (.r 0 (.r 1 (.r 2 (.r 3 (.r 4 (.r 5 (.r 6 (.r 7 (.r 8 (.r 9 (.r 10 (.r 11 (.r 12 (.r 13 .fin)))))))))))))) (by kernel_rfl) (by kernel_rfl) (fun d _ _ _ _ h => by cases d <;> exact h) ?_
              refine SWz.rd (i := 0) rfl rfl (Rd.move rfl) ?_
              refine SWz.rd (i := 1) rfl rfl (Rd.move rfl) ?_
              refine SWz.rd (i := 2) rfl rfl (Rd.move rfl) ?_
              refine SWz.rd (i := 3) rfl rfl (Rd.idxE (e := 83) rfl rfl (by kernel_rfl) (by kernel_rfl) (by omega) (by omega)) ?_
              refine SWz.rd (i := 4) rfl rfl (Rd.loadE 0 rfl rfl (qb_at (j := i) (by omega) (by omega) (Nm.aA_at (by decide) R V i)) (by kernel_rfl) trivial) ?_
              refine SWz.rd (i := 5) rfl rfl (Rd.cvW .u32 rfl (by kernel_rfl) (by kernel_rfl) (cv64 rfl hri)) ?_
              refine SWz.rd (i := 6) rfl rfl (Rd.move rfl) ?_
              refine SWz.rd (i := 7) rfl rfl (Rd.move rfl) ?_
              refine SWz.rd (i := 8) rfl rfl (Rd.idx (e := 83) rfl rfl (by kernel_rfl) (by kernel_rfl) (by omega) (padd_at (j := i) (by omega) (by omega))) ?_
              refine SWz.rd (i := 9) rfl rfl (Rd.loadP rfl (by kernel_rfl) (by simp)) ?_
              refine SWz.rd (i := 10) rfl rfl (Rd.cvW .u32 rfl (by kernel_rfl) (by kernel_rfl) (cv64 rfl hvi)) ?_
              refine SWz.rd (i := 11) rfl rfl (Rd.addW rfl rfl (add64 (by omega))) ?_
              refine SWz.rd (i := 12) rfl rfl (Rd.addW rfl rfl (add64 (by omega))) ?_
              refine SWz.rd (i := 13) rfl rfl (Rd.assign rfl) ?_
              refine SWz.nil ?_
              refine SN.then ?_
              refine SW.seq ?_
              refine SW.region ?_
              refine SWl.rd rfl (Rd.move rfl) ?_
              refine SWl.rd rfl (Rd.move rfl) ?_
              refine SWl.rd rfl (Rd.move rfl) ?_
              refine SWl.rd rfl (Rd.cvW .u64 rfl (by kernel_rfl) (by kernel_rfl) (lo32 _)) ?_
              refine SWl.rd rfl (Rd.idxE (e := 83) rfl rfl (by kernel_rfl) (by kernel_rfl) (by omega) (by omega)) ?_
              refine SWl.ef (S := [_]) (Ef.storeE 0 rfl rfl rfl (by kernel_rfl) (qb_len (j := i) (by omega) (by omega)) (List.mem_singleton.2 rfl)) ?_
              rintro _ rfl
              refine SWl.nil ?_
              refine SN.then ?_
              refine SW.region ?_
              refine SWl.rd rfl (Rd.move rfl) ?_
              refine SWl.rd rfl (Rd.shrW (s := 32) rfl rfl (hi64 _)) ?_
              refine SWl.rd rfl (Rd.assign rfl) ?_
              refine SWl.nil ?_
              refine SN.block ?_
              refine SN.then ?_
              refine SW.region ?_
              refine SWl.rd rfl (Rd.add rfl rfl ⟨by omega, by omega⟩) ?_
              refine SWl.rd rfl (Rd.move rfl) ?_
              refine SWl.nil ?_
              exact fun a w hh => hK2 (⟨i + 1, hlt⟩) (by show m + 2 - (i + 1) < m + 2 - i; omega) a w (hh.sub (⟨⟨_, rfl, ⟨⟨_, rfl, Le.refl _⟩, ⟨⟨_, rfl, Le.refl _⟩, ⟨⟨_, rfl, Le.refl _⟩, ⟨⟨_, rfl, Le.refl _⟩, ⟨⟨_, rfl, le_wd (congrArg _ (Nm.sm_step (by decide) R V i).1.symm)⟩, ⟨⟨_, rfl, Le.refl _⟩, ⟨⟨_, rfl, le_err (by omega)⟩, trivial⟩⟩⟩⟩⟩⟩⟩⟩, [0], by decide, ⟨⟨_, rfl, leAll_eq (qb_set (j := i) (by omega) (by omega) rfl (Nm.aA_fill (by decide) R V i (by omega) _ rfl))⟩, trivial⟩⟩))
            · obtain rfl : i = m + 2 := (by have := of_decide_eq_false hb129; omega); have hsc := Nm.sm_carry (B := W32) (by decide) R V (m + 2)
              refine SW.exit' ?_
              repeat (first | refine SE.then ?_ | refine SE.skip (by decide) ?_)
              refine SE.here ?_
              refine SN.then ?_
              refine SW.region ?_
              refine SWl.rd rfl (Rd.move rfl) ?_
              refine SWl.rd rfl (Rd.move rfl) ?_
              refine SWl.rd rfl (Rd.idxE (e := 83) rfl rfl (by kernel_rfl) (by kernel_rfl) (by omega) (by omega)) ?_
              refine SWl.rd rfl (Rd.loadE 0 rfl rfl (qb_at (j := m + 2) (by omega) (by omega) (Nm.aA_at (by decide) R V (m + 2))) (by kernel_rfl) trivial) ?_
              refine SWl.rd rfl (Rd.move rfl) ?_
              refine SWl.rd rfl (Rd.cvW .u64 rfl (by kernel_rfl) (by kernel_rfl) ((lo32 _).trans (congrArg _ (Nat.mod_eq_of_lt (by omega))))) ?_
              refine SWl.rd rfl (Rd.addW rfl rfl (add32 rfl)) ?_
              refine SWl.rd rfl (Rd.idxE (e := 83) rfl rfl (by kernel_rfl) (by kernel_rfl) (by omega) (by omega)) ?_
              refine SWl.ef (S := [_]) (Ef.storeE 0 rfl rfl rfl (by kernel_rfl) (qb_len (j := m + 2) (by omega) (by omega)) (List.mem_singleton.2 rfl)) ?_
              rintro _ rfl
              refine SWl.nil ?_
              refine SN.then ?_
              refine SW.seq ?_
              refine SW.region ?_
              refine SWl.rd rfl (Rd.move rfl) ?_
              refine SWl.rd rfl (Rd.cvW .u64 rfl (by kernel_rfl) (by kernel_rfl) (hout)) ?_
              refine SWl.rd rfl (Rd.assign rfl) ?_
              refine SWl.nil ?_
              refine SN.then ?_
              refine SW.retB (fn := Try.f116) (fun _ _ h => h) (Rs.le (Rs.one rfl (ResV.tmp rfl)) ?_) rfl ?_
              exact Le.refl _
              exact leAll_eq ((qb_set (j := m + 2) (by omega) (by omega) rfl (Nm.aA_last hB hRlt hV)).trans (by rw [hrem2]))
        · have hnl : ¬ U < q * V := (by by_cases h7 : U < q * V; rw [hdf.2, if_pos h7] at hb123; exact absurd hb123 (by decide); exact h7); obtain ⟨hq1, hrem⟩ := (Nm.kn_end (n := m + 2) hB hV0 hV hU hqv).1 hnl; have hRs : Nm.sA W32 U (q * V) (m + 3) = U % V := (by rw [Nm.sA_all hUp, hdf.1, if_neg hnl, hrem]); have hout : IntKind.u32.wrap ((q : Nat) : Int) = ((U / V : Nat) : Int) := (by rw [lo32, Nat.mod_eq_of_lt (by omega), hq1])
          refine SW.skip ?_
          refine SN.then ?_
          refine SW.seq ?_
          refine SW.region ?_
          refine SWl.rd rfl (Rd.move rfl) ?_
          refine SWl.rd rfl (Rd.cvW .u64 rfl (by kernel_rfl) (by kernel_rfl) (hout)) ?_
          refine SWl.rd rfl (Rd.assign rfl) ?_
          refine SWl.nil ?_
          refine SN.then ?_
          refine SW.retB (fn := Try.f116) (fun _ _ h => h) (Rs.le (Rs.one rfl (ResV.tmp rfl)) ?_) rfl ?_
          exact Le.refl _
          exact leAll_eq ((qb_set (j := m + 2) (by omega) (by omega) rfl hst).trans (by rw [hRs]))
end Sx
end Go.Proofs.Ytddfphneidcibaa
namespace Go.Proofs.Ytddfphneidcibaa
open Go.RowKit
open Nm (W32)
namespace Sx
theorem SW.freeze {P : Program} {Γ : Cx} {σ : St} {b : Code} {Q : Exit → Act → World → Prop} (i j : Nat) {g c n : Nat} {ds : List D} (xs : List Value) (hi : σ.tm i = some (isD (.slice (some ⟨g, 0, none⟩) n c))) (hj : σ.bx[j]? = some (g, ds)) (hn : n = xs.length) (hc : n ≤ c) (hds : ds = xs.map isD) (h : SW P Γ ⟨fun k => _root_.cond (Nat.beq k i) (some (slD xs)) (σ.tm k), σ.bx.eraseIdx j⟩ b Q) : SW P Γ σ b Q :=
  fun a w hh => by subst hn hds; exact h a w (hh.freeze hi hc hj)
theorem con_trimN {n X Y : Nat} (h : Y = X) (hn : n ≤ 1000000) (hX : X < W32 ^ n) : Con Try.prog 83 [slD (cN .u32 (Nm.pad W32 n Y))] (natD X) := by
  subst h
  refine ⟨enters_of Try.func83 (by kernel_rfl) rfl, fun L w vs hL ha => ?_⟩
  obtain ⟨u, rfl, A, c, rfl, hc, hr, haw⟩ := all1 ha
  have hl : (cN .u32 (Nm.pad W32 n Y)).length = n := by simp
  rw [hl] at hc haw ⊢
  refine (trim_any w A n c Y hc hn hX hr).mono ?_
  rintro r w' ⟨m, rfl, rfl, hN⟩
  refine ⟨_, rfl, nat_in hN (fun h0 => haw ?_), Only.refl _ _⟩
  have h1 := (Nm.len_le (B := W32) (by decide) n Y).2 hX
  rw [← hN.n_eq] at h1
  omega
theorem con_cmpGe {X Y : Nat} (hX : X < W32 ^ 100) (hXY : Y ≤ X) : Con Try.prog 103 [natD X, natD Y] (errD (if X = Y then 0 else 1)) := by
  refine ⟨enters_of Try.func103 (by kernel_rfl) rfl, fun L w vs hL ha => ?_⟩
  obtain ⟨u, v, rfl, hu, hv⟩ := all2 ha
  obtain ⟨A, n, c, rfl, h1, -⟩ := nat_out hu
  obtain ⟨B, m, d, rfl, h2, -⟩ := nat_out hv
  have hn : n ≤ 100 := by rw [h1.n_eq]; exact (Nm.len_le (B := W32) (by decide) 100 X).2 hX
  have hm : m ≤ 100 := by rw [h2.n_eq]; exact (Nm.len_le (B := W32) (by decide) 100 Y).2 (Nat.lt_of_le_of_lt hXY hX)
  refine (compareNat_any w A B n c m d X Y (by omega) (by omega) h1 h2).mono ?_
  rintro r w' ⟨z, rfl, hz, hO⟩
  refine ⟨_, rfl, ?_, hO⟩
  have hz' : Cmp X Y z := hz
  show Value.int .i64 z = .int .i64 _
  rcases hz' with ⟨h, _⟩ | ⟨h, e⟩ | ⟨h, e⟩
  · omega
  · rw [if_pos h, e]
  · rw [if_neg (by omega), e]
/-- The zeros ahead of a word. -/
def lz (x : Nat) : Nat := 32 - Lib.bitLen x
theorem lz_spec {x : Nat} (h0 : 0 < x) (h : x < 4294967296) : lz x < 32 ∧ 2147483648 ≤ x * 2 ^ lz x ∧ (x + 1) * 2 ^ lz x ≤ 4294967296 := by
  have hle : Lib.bitLen x ≤ 32 := Lib.bitLen_le x 32 (by decide) h
  obtain ⟨h1, h2, h3⟩ := Lib.bitLenAux_bounds 64 x (Nat.lt_trans h (by decide)) (by omega)
  have e : Lib.bitLen x = Lib.bitLenAux 64 x := rfl
  rw [← e] at h1 h2 h3
  unfold lz
  generalize Lib.bitLen x = L at *
  refine ⟨by omega, ?_, ?_⟩
  · have := Nat.mul_le_mul_right (2 ^ (32 - L)) h2
    rw [← Nat.pow_add, show L - 1 + (32 - L) = 31 by omega] at this
    exact this
  · have := Nat.mul_le_mul_right (2 ^ (32 - L)) (Nat.succ_le_of_lt h3)
    rw [← Nat.pow_add, show L + (32 - L) = 32 by omega] at this
    exact this
theorem con_lz {x s : Nat} (h : x < 4294967296) (hs : s = lz x) : Con Try.prog 114 [isD (.int .u32 (x : Int))] (errD (s : Int)) := by
  refine ⟨enters_of Try.func114 (by kernel_rfl) rfl, fun L w vs hL ha => ?_⟩
  obtain ⟨u, rfl, rfl⟩ := all1 ha
  refine (bits_LeadingZeros32 (x : Int) w (by omega) (by omega)).mono ?_
  rintro r w' ⟨rfl, rfl⟩
  refine ⟨_, rfl, ?_, Only.refl _ _⟩
  have hle : Lib.bitLen x ≤ 32 := Lib.bitLen_le x 32 (by decide) h
  show Value.int .i64 _ = .int .i64 _
  rw [hs, Int.toNat_natCast]
  unfold lz
  congr 1
  omega
theorem pad_split (B : Nat) : ∀ (a b x : Nat), Nm.pad B (a + b) x = Nm.pad B a x ++ Nm.pad B b (x / B ^ a)
  | 0, b, x => by simp [Nm.pad]
  | a + 1, b, x => by
    rw [show a + 1 + b = (a + b) + 1 by omega, Nm.pad, Nm.pad, pad_split B a b, List.cons_append, Nat.div_div_eq_div_mul, Nat.pow_succ, Nat.mul_comm]
theorem pad_mod {B : Nat} (hB : 0 < B) (n x : Nat) : Nm.pad B n (x % B ^ n) = Nm.pad B n x := Nm.pad_ext fun i hi => Nm.div_mod_low hB hi
theorem pad_take {n k x : Nat} (h : k ≤ n) : (cN .u32 (Nm.pad W32 n x)).take k = cN .u32 (Nm.pad W32 k x) := by
  obtain ⟨b, rfl⟩ : ∃ b, n = k + b := ⟨n - k, by omega⟩
  rw [pad_split, cN_append, List.take_append_of_le_length (by simp), List.take_of_length_le (by simp)]
theorem con_qw' {g c j k m V R N : Nat} (hN : N = j + (m + 3) + k) (hm : m ≤ 1000) (hV : V < W32 ^ (m + 2)) (hbig : W32 ≤ 2 * (V / W32 ^ (m + 1))) (hR : R < V * W32 ^ (j + 1)) :
    ConB Try.prog 116 g ((cN .u32 (Nm.pad W32 N R)).map isD) ((cN .u32 (Nm.pad W32 N (R % (V * W32 ^ j)))).map isD) [isD (.slice (some ⟨g, j, none⟩) (m + 3) c), slD (cN .u32 (Nm.pad W32 (m + 2) V))] (isD (.int .u32 ((R / W32 ^ j / V : Nat) : Int))) := by
  subst hN
  have hp : 0 < W32 ^ j := Nat.pow_pos (by decide)
  have hU : R / W32 ^ j < V * W32 := Nat.div_lt_of_lt_mul (by rw [Nat.pow_succ] at hR; rw [Nat.mul_comm, Nat.mul_assoc, Nat.mul_comm W32]; exact hR)
  have h := con_qw (lo := Nm.pad W32 j R) (up := Nm.pad W32 k (R / W32 ^ (j + (m + 3)))) (g := g) (c := c) (U := R / W32 ^ j) hm hV hbig hU
  rw [Nm.pad_length] at h
  have hp2 : R / W32 ^ (j + (m + 3)) = 0 := by
    rw [Nat.pow_add, ← Nat.div_div_eq_div_mul]
    refine Nat.div_eq_of_lt (Nat.lt_of_lt_of_le hU ?_)
    rw [Nat.pow_succ W32 (m + 2)]
    exact Nat.mul_le_mul_right _ (Nat.le_of_lt hV)
  have e1 : Nm.pad W32 (j + (m + 3) + k) R = Nm.pad W32 j R ++ Nm.pad W32 (m + 3) (R / W32 ^ j) ++ Nm.pad W32 k (R / W32 ^ (j + (m + 3))) := by rw [pad_split, pad_split]
  have e3 : R % (V * W32 ^ j) = R % W32 ^ j + W32 ^ j * (R / W32 ^ j % V) := by rw [Nat.mul_comm V, Nat.mod_mul]
  have e4 : R % (V * W32 ^ j) / W32 ^ j = R / W32 ^ j % V := by rw [e3, Nat.add_mul_div_left _ _ hp, Nat.div_eq_of_lt (Nat.mod_lt _ hp), Nat.zero_add]
  have e5 : R % (V * W32 ^ j) / W32 ^ (j + (m + 3)) = 0 := Nat.le_zero.1 (Nat.le_trans (Nat.div_le_div_right (Nat.mod_le _ _)) (Nat.le_of_eq hp2))
  have e6 : Nm.pad W32 j (R % (V * W32 ^ j)) = Nm.pad W32 j R := by
    rw [← pad_mod (by decide) j (R % (V * W32 ^ j)), e3, Nat.add_mul_mod_self_left, Nat.mod_mod, pad_mod (by decide)]
  have e2 : Nm.pad W32 (j + (m + 3) + k) (R % (V * W32 ^ j)) = Nm.pad W32 j R ++ Nm.pad W32 (m + 3) (R / W32 ^ j % V) ++ Nm.pad W32 k (R / W32 ^ (j + (m + 3))) := by
    rw [pad_split, pad_split, e4, e5, e6, hp2]
  rw [e1, e2]
  exact h
/-- What a round's digit is. -/
theorem dv_digit {Ux V j : Nat} (hV : 0 < V) : Ux % (V * W32 ^ (j + 1)) / W32 ^ j / V = Ux / V / W32 ^ j % W32 := by
  rw [Nat.div_div_eq_div_mul, Nat.pow_succ, ← Nat.mul_assoc, Nat.mul_comm (W32 ^ j) V, Nat.mod_mul_right_div_self, Nat.div_div_eq_div_mul]
theorem dv_put {K Q j : Nat} (hj : j < K) : (Nm.pad W32 K (Q / W32 ^ (j + 1) * W32 ^ (j + 1))).set j (Q / W32 ^ j % W32) = Nm.pad W32 K (Q / W32 ^ j * W32 ^ j) := by
  have hp : 0 < W32 ^ j := Nat.pow_pos (by decide)
  have e0 : Q / W32 ^ (j + 1) * W32 ^ (j + 1) = Q / W32 ^ (j + 1) * W32 * W32 ^ j := by rw [Nat.pow_succ, Nat.mul_assoc, Nat.mul_comm (W32 ^ j)]
  rw [Nm.pad_plus (by decide) hj (e := Q / W32 ^ j % W32) (by rw [e0, Nat.mul_div_cancel _ hp, Nat.mul_mod_left, Nat.zero_add]) (Nat.mod_lt _ (by decide)), e0, ← Nat.add_mul]
  congr 2
  rw [Nat.pow_succ, ← Nat.div_div_eq_div_mul]
  exact Nat.div_add_mod' _ _
theorem dv_rest {Ux V j : Nat} : Ux % (V * W32 ^ (j + 1)) % (V * W32 ^ j) = Ux % (V * W32 ^ j) := Nat.mod_mod_of_dvd _ ⟨W32, by rw [Nat.pow_succ, Nat.mul_assoc]⟩
set_option maxHeartbeats 4000000 in
set_option maxRecDepth 100000 in
theorem con_divBig {X Y m : Nat} (hX : X < W32 ^ 100) (hY2 : Nm.len W32 Y = m + 2) (hXY : Y ≤ X) : Con Try.prog 97 [natD X, natD Y] (tupD [natD (X / Y), natD (X % Y)]) := by
  have eB : W32 = 4294967296 := rfl
  have hYX : Y < W32 ^ 100 := Nat.lt_of_le_of_lt hXY hX
  have hLX : (cN .u32 (Nm.dg W32 X)).length = Nm.len W32 X := by rw [cN_length, Nm.dg_length]
  have hLY : (cN .u32 (Nm.dg W32 Y)).length = m + 2 := by rw [cN_length, Nm.dg_length, hY2]
  have hLX1 : (cN .u32 (Nm.dg W32 X)).length ≤ 100 := by rw [hLX]; exact (Nm.len_le (B := W32) (by decide) 100 _).2 hX
  have hXn : X < W32 ^ (cN .u32 (Nm.dg W32 X)).length := by rw [hLX]; exact Nm.lt_pow_len (by decide) X
  have hYn : Y < W32 ^ (m + 2) := by rw [← hY2]; exact Nm.lt_pow_len (by decide) Y
  have hYl : W32 ^ (m + 1) ≤ Y := by have h1 := (Nm.len_le (B := W32) (by decide) (m + 1) Y); by_cases h2 : Y < W32 ^ (m + 1); have := h1.2 h2; omega; omega
  have hge : m + 2 ≤ (cN .u32 (Nm.dg W32 X)).length := by have h1 := (Nm.len_le (B := W32) (by decide) (m + 1) X); rw [hLX]; by_cases h2 : Nm.len W32 X ≤ m + 1; have := h1.1 h2; omega; omega
  obtain ⟨tp, htp⟩ : ∃ tp, tp = Y / W32 ^ (m + 1) % W32 := ⟨_, rfl⟩
  have htp1 : tp = Y / W32 ^ (m + 1) := by rw [htp]; exact Nat.mod_eq_of_lt (Nat.div_lt_of_lt_mul (by rw [← Nat.pow_succ]; exact hYn))
  have htp0 : 0 < tp := by rw [htp1]; exact Nat.div_pos hYl (Nat.pow_pos (by decide))
  have htpB : tp < 4294967296 := by rw [htp]; exact Nat.mod_lt _ (by decide)
  obtain ⟨s, hs⟩ : ∃ s, s = lz tp := ⟨_, rfl⟩
  obtain ⟨hs32, hlo, hhi⟩ := lz_spec htp0 htpB
  rw [← hs] at hs32 hlo hhi
  have hS : 0 < 2 ^ s := Nat.pow_pos (by decide)
  have hpw : 0 < W32 ^ (m + 1) := Nat.pow_pos (by decide)
  have hY0 : 0 < Y := Nat.lt_of_lt_of_le hpw hYl
  have hV0 : 0 < Y * 2 ^ s := Nat.mul_pos hY0 hS
  have hV : Y * 2 ^ s < W32 ^ (m + 2) := by have h1 : Y < (tp + 1) * W32 ^ (m + 1) := (by rw [htp1, Nat.mul_comm]; exact Nat.lt_mul_div_succ Y hpw); have h2 := Nat.mul_lt_mul_of_pos_right h1 hS; have h3 := Nat.mul_le_mul_right (W32 ^ (m + 1)) hhi; have h4 : (tp + 1) * W32 ^ (m + 1) * 2 ^ s = (tp + 1) * 2 ^ s * W32 ^ (m + 1) := Nat.mul_right_comm _ _ _; have h5 : W32 ^ (m + 2) = 4294967296 * W32 ^ (m + 1) := (by rw [Nat.pow_succ W32 (m + 1), Nat.mul_comm]); omega
  have hbig : W32 ≤ 2 * (Y * 2 ^ s / W32 ^ (m + 1)) := by have h1 : tp * 2 ^ s ≤ Y * 2 ^ s / W32 ^ (m + 1) := (by rw [Nat.le_div_iff_mul_le hpw, Nat.mul_right_comm, htp1]; exact Nat.mul_le_mul_right _ (Nat.div_mul_le_self _ _)); omega
  have hQ : X * 2 ^ s / (Y * 2 ^ s) = X / Y := Nat.mul_div_mul_right _ _ hS
  have hfitY : X < Y * W32 ^ ((cN .u32 (Nm.dg W32 X)).length - (cN .u32 (Nm.dg W32 Y)).length + 1) := by refine Nat.lt_of_lt_of_le hXn (Nat.le_trans ?_ (Nat.mul_le_mul_right _ hYl)); rw [← Nat.pow_add]; exact Nat.pow_le_pow_right (by decide) (by omega)
  have hfit : X * 2 ^ s < Y * 2 ^ s * W32 ^ ((cN .u32 (Nm.dg W32 X)).length - (cN .u32 (Nm.dg W32 Y)).length + 1) := by rw [Nat.mul_right_comm]; exact Nat.mul_lt_mul_of_pos_right hfitY hS
  have hQK : X / Y < W32 ^ ((cN .u32 (Nm.dg W32 X)).length - (cN .u32 (Nm.dg W32 Y)).length + 1) := Nat.div_lt_of_lt_mul hfitY
  have hQ0 : X / Y / W32 ^ ((cN .u32 (Nm.dg W32 X)).length - (cN .u32 (Nm.dg W32 Y)).length + 1) = 0 := Nat.div_eq_of_lt hQK
  have hR : X * 2 ^ s % (Y * 2 ^ s * W32 ^ 0) / 2 ^ s = X % Y := by rw [Nat.pow_zero, Nat.mul_one, Nat.mul_mod_mul_right, Nat.mul_div_cancel _ hS]
  have hR0 : X * 2 ^ s % (Y * 2 ^ s * W32 ^ 0) < W32 ^ (m + 2) := by rw [Nat.pow_zero, Nat.mul_one]; exact Nat.lt_trans (Nat.mod_lt _ hV0) hV
  have hRm : X % Y < W32 ^ (m + 2) := Nat.lt_trans (Nat.mod_lt _ hY0) hYn
  refine con_of Try.func97 (by kernel_rfl) rfl (by kernel_rfl) fun base w0 => ?_
  refine SW.seq ?_
  refine SW.region ?_
  refine SWl.rd rfl (Rd.assign rfl) ?_
  refine SWl.rd rfl (Rd.assign rfl) ?_
  refine SWl.nil ?_
  refine SN.then ?_
  refine SW.seq ?_
  refine SW.seq ?_
  refine SW.region ?_
  refine SWl.rd rfl (Rd.move rfl) ?_
  refine SWl.rd rfl (Rd.move rfl) ?_
  refine SWl.ef (S := []) (Ef.call (con_cmpGe hX hXY) rfl ⟨Le.refl _, Le.refl _, trivial⟩ rfl) ?_
  rintro _ rfl
  refine SWl.rd rfl (Rd.lss rfl rfl) ?_
  refine SWl.nil ?_
  refine SN.then ?_
  refine SW.condF rfl (decide_eq_false (by split <;> omega)) ?_
  refine SW.skip ?_
  refine SN.then ?_
  refine SW.seq ?_
  refine SW.seq ?_
  refine SW.region ?_
  refine SWl.rd rfl (Rd.move rfl) ?_
  refine SWl.rd rfl (Rd.len (e := 83) rfl (by kernel_rfl)) ?_
  refine SWl.rd rfl (Rd.eqi rfl rfl) ?_
  refine SWl.nil ?_
  refine SN.then ?_
  refine SW.condF rfl (decide_eq_false (by omega)) ?_
  refine SW.skip ?_
  refine SN.then ?_
  refine SW.seq ?_
  refine SW.region ?_
  refine SWl.rd rfl (Rd.move rfl) ?_
  refine SWl.rd rfl (Rd.len (e := 83) rfl (by kernel_rfl)) ?_
  refine SWl.rd rfl (Rd.assign rfl) ?_
  refine SWl.nil ?_
  refine SN.then ?_
  refine SW.seq ?_
  refine SW.region ?_
  refine SWl.rd rfl (Rd.move rfl) ?_
  refine SWl.rd rfl (Rd.move rfl) ?_
  refine SWl.rd rfl (Rd.subi rfl rfl ⟨by omega, by omega⟩) ?_
  refine SWl.rd rfl (Rd.idx (e := 83) rfl rfl (by kernel_rfl) (by kernel_rfl) (by omega) (natd_at (j := m + 1) (by omega) (by omega))) ?_
  refine SWl.rd rfl (Rd.le (Rd.loadP rfl (by kernel_rfl) (by simp)) (le_wd (congrArg _ htp.symm))) ?_
  refine SWl.ef (S := []) (Ef.call (con_lz htpB hs) rfl ⟨Le.refl _, trivial⟩ rfl) ?_
  rintro _ rfl
  refine SWl.rd rfl (Rd.assign rfl) ?_
  refine SWl.nil ?_
  refine SN.then ?_
  refine SW.seq ?_
  refine SW.region ?_
  refine SWl.rd rfl (Rd.move rfl) ?_
  refine SWl.rd rfl (Rd.move rfl) ?_
  refine SWl.ef (S := []) (Ef.callO (con_shl hYX hs32) rfl ⟨Le.refl _, Le.refl _, trivial⟩ rfl) ?_
  rintro _ ⟨g44, rfl⟩
  refine SWl.rd rfl (Rd.move rfl) ?_
  refine SWl.freeze 44 0 (cN .u32 (Nm.pad W32 ((cN .u32 (Nm.dg W32 Y)).length + 1) (Y * 2 ^ s))) rfl rfl (by simp) (Nat.le_refl _) rfl ?_
  refine SWl.rd rfl (Rd.shS (e := 83) rfl rfl (by kernel_rfl) (by kernel_rfl) (by simp)) ?_
  refine SWl.rd rfl (Rd.assign rfl) ?_
  refine SWl.nil ?_
  refine SN.then ?_
  refine SW.seq ?_
  refine SW.region ?_
  refine SWl.rd rfl (Rd.move rfl) ?_
  refine SWl.rd rfl (Rd.move rfl) ?_
  refine SWl.ef (S := []) (Ef.callO (con_shl hX hs32) rfl ⟨Le.refl _, Le.refl _, trivial⟩ rfl) ?_
  rintro _ ⟨g49, rfl⟩
  refine SWl.rd rfl (Rd.assign rfl) ?_
  refine SWl.nil ?_
  refine SN.then ?_
  refine SW.seq ?_
  refine SW.region ?_
  refine SWl.rd rfl (Rd.move rfl) ?_
  refine SWl.rd rfl (Rd.len (e := 83) rfl (by kernel_rfl)) ?_
  refine SWl.rd rfl (Rd.move rfl) ?_
  refine SWl.rd rfl (Rd.subi rfl rfl ⟨by omega, by omega⟩) ?_
  refine SWl.rd rfl (Rd.add rfl rfl ⟨by omega, by omega⟩) ?_
  refine SWl.ef (S := []) (Ef.make (e := 83) (z := .int .u32 0) (n := (cN .u32 (Nm.dg W32 X)).length - (cN .u32 (Nm.dg W32 Y)).length + 1) 4 rfl rfl (by kernel_rfl) (by kernel_rfl) rfl (by omega) (by omega) (by omega) (by decide) rfl) ?_
  rintro _ ⟨g55, rfl⟩
  refine SWl.rd rfl (Rd.assign rfl) ?_
  refine SWl.nil ?_
  refine SN.then ?_
  refine SW.seq ?_
  refine SW.seq ?_
  refine SW.region ?_
  refine SWl.rd rfl (Rd.move rfl) ?_
  refine SWl.rd rfl (Rd.lenE (e := 83) rfl (by kernel_rfl)) ?_
  refine SWl.rd rfl (Rd.subi rfl rfl ⟨by omega, by omega⟩) ?_
  refine SWl.rd rfl (Rd.assign rfl) ?_
  refine SWl.nil ?_
  refine SN.then ?_
  refine SW.block ?_
  refine SW.loop (ι := {t : Nat // t ≤ (cN .u32 (Nm.dg W32 X)).length - (cN .u32 (Nm.dg W32 Y)).length + 1}) (fun ⟨t, ht⟩ => St.of [(8, errD ((m + 2 : Nat) : Int)), (9, errD (s : Int)), (10, slD (cN .u32 (Nm.pad W32 (m + 2) (Y * 2 ^ s)))), (11, isD (.slice (some ⟨g49, 0, none⟩) ((cN .u32 (Nm.dg W32 X)).length + 1) ((cN .u32 (Nm.dg W32 X)).length + 1))), (12, isD (.slice (some ⟨g55, 0, none⟩) ((cN .u32 (Nm.dg W32 X)).length - (cN .u32 (Nm.dg W32 Y)).length + 1) ((cN .u32 (Nm.dg W32 X)).length - (cN .u32 (Nm.dg W32 Y)).length + 1))), (13, errD ((t : Int) - 1))] [(g49, (cN .u32 (Nm.pad W32 ((cN .u32 (Nm.dg W32 X)).length + 1) (X * 2 ^ s % ((Y * 2 ^ s) * W32 ^ t)))).map isD), (g55, (cN .u32 (Nm.pad W32 ((cN .u32 (Nm.dg W32 X)).length - (cN .u32 (Nm.dg W32 Y)).length + 1) (X / Y / W32 ^ t * W32 ^ t))).map isD)]) (fun ⟨t, ht⟩ => t) (⟨(cN .u32 (Nm.dg W32 X)).length - (cN .u32 (Nm.dg W32 Y)).length + 1, Nat.le_refl _⟩) ?_ ?_
  · exact ⟨⟨_, rfl, ⟨⟨_, rfl, le_err (by omega)⟩, ⟨⟨_, rfl, Le.refl _⟩, ⟨⟨_, rfl, le_sl (by rw [hLY, pad_take (by omega)])⟩, ⟨⟨_, rfl, Le.refl _⟩, ⟨⟨_, rfl, Le.refl _⟩, ⟨⟨_, rfl, Le.refl _⟩, trivial⟩⟩⟩⟩⟩⟩⟩, [0, 1], by decide, ⟨⟨_, rfl, leAll_eq (by rw [Nat.mod_eq_of_lt hfit])⟩, ⟨⟨_, rfl, leAll_eq (by rw [zeros32, hQ0, Nat.zero_mul])⟩, trivial⟩⟩⟩
  · rintro ⟨t, ht⟩ K0 hK0
    refine SW.seq ?_
    refine SW.seq ?_
    refine SW.region ?_
    refine SWl.rd rfl (Rd.move rfl) ?_
    refine SWl.rd rfl (Rd.geq rfl rfl) ?_
    refine SWl.nil ?_
    refine SN.then ?_
    refine SW.cond rfl (fun hb60 => ?_) (fun hb60 => ?_)
    · obtain ⟨j, rfl⟩ : ∃ j, t = j + 1 := ⟨t - 1, by have := of_decide_eq_true hb60; omega⟩
      refine SW.skip ?_
      refine SN.then ?_
      refine SW.seq ?_
      refine SW.block ?_
      refine SW.region ?_
      refine SWl.rd rfl (Rd.move rfl) ?_
      refine SWl.rd rfl (Rd.move rfl) ?_
      refine SWl.rd rfl (Rd.move rfl) ?_
      refine SWl.rd rfl (Rd.le (Rd.move rfl) (le_err (b := (j : Int)) (by omega))) ?_
      refine SWl.rd rfl (Rd.move rfl) ?_
      refine SWl.rd rfl (Rd.move rfl) ?_
      refine SWl.rd rfl (Rd.add rfl rfl ⟨by omega, by omega⟩) ?_
      refine SWl.rd rfl (Rd.le (Rd.add rfl rfl ⟨by omega, by omega⟩) (le_err (b := ((j + m + 3 : Nat) : Int)) (by omega))) ?_
      refine SWl.rd rfl (Rd.slE (e := 83) rfl rfl rfl (by kernel_rfl) (by kernel_rfl) (by omega) (by omega) (by omega)) ?_
      refine SWl.rd rfl (Rd.move rfl) ?_
      refine SWl.ef (S := [_]) (Ef.callB 0 (con_qw' (k := (cN .u32 (Nm.dg W32 X)).length + 1 - (j + (m + 3))) (by omega) (by omega) hV hbig (Nat.mod_lt _ (Nat.mul_pos hV0 (Nat.pow_pos (by decide))))) rfl ⟨Le.is (by rw [Nat.zero_add, show j + m + 3 - j = m + 3 by omega]), Le.refl _, trivial⟩ rfl (List.mem_singleton.2 rfl) rfl) ?_
      rintro _ rfl
      refine SWl.rd rfl (Rd.idxE (e := 83) rfl rfl (by kernel_rfl) (by kernel_rfl) (by omega) (by omega)) ?_
      refine SWl.ef (S := [_]) (Ef.storeE 1 rfl rfl rfl (by kernel_rfl) (by rw [List.length_map, cN_length, Nm.pad_length]; omega) (List.mem_singleton.2 rfl)) ?_
      rintro _ rfl
      refine SWl.nil ?_
      refine SN.block ?_
      refine SN.then ?_
      refine SW.region ?_
      refine SWl.rd rfl (Rd.move rfl) ?_
      refine SWl.rd rfl (Rd.subi rfl rfl ⟨by omega, by omega⟩) ?_
      refine SWl.rd rfl (Rd.assign rfl) ?_
      refine SWl.nil ?_
      exact fun a w hh => hK0 (⟨j, by omega⟩) (by show j < j + 1; omega) a w (hh.sub (⟨⟨_, rfl, ⟨⟨_, rfl, Le.refl _⟩, ⟨⟨_, rfl, Le.refl _⟩, ⟨⟨_, rfl, Le.refl _⟩, ⟨⟨_, rfl, Le.refl _⟩, ⟨⟨_, rfl, Le.refl _⟩, ⟨⟨_, rfl, le_err (by omega)⟩, trivial⟩⟩⟩⟩⟩⟩⟩, [0, 1], by decide, ⟨⟨_, rfl, leAll_eq (by rw [dv_rest])⟩, ⟨⟨_, rfl, leAll_eq (own_set1 (j := j) (by omega) rfl (by rw [dv_digit hV0, hQ]; exact dv_put (by omega)))⟩, trivial⟩⟩⟩))
    · obtain rfl : t = 0 := by have := of_decide_eq_false hb60; omega
      refine SW.exit' ?_
      repeat (first | refine SE.then ?_ | refine SE.skip (by decide) ?_)
      refine SE.here ?_
      refine SN.then ?_
      refine SW.seq ?_
      refine SW.freeze 12 1 (cN .u32 (Nm.pad W32 ((cN .u32 (Nm.dg W32 X)).length - (cN .u32 (Nm.dg W32 Y)).length + 1) (X / Y / W32 ^ 0 * W32 ^ 0))) rfl rfl (by simp) (Nat.le_refl _) rfl ?_
      refine SW.freeze 11 0 (cN .u32 (Nm.pad W32 ((cN .u32 (Nm.dg W32 X)).length + 1) (X * 2 ^ s % ((Y * 2 ^ s) * W32 ^ 0)))) rfl rfl (by simp) (Nat.le_refl _) rfl ?_
      refine SW.draw [] (.r 0 (.r 2 (.r 3 (.r 4 (.r 5 (.n 1 (.n 6 (.n 7 (.r 8 (.r 9 .fin)) .no) .no) .no)))))) (by kernel_rfl) (by kernel_rfl) (fun d _ _ _ _ h => by cases d <;> exact h) ?_
      refine SWz.rd (i := 0) rfl rfl (Rd.move rfl) ?_
      refine SWz.rd (i := 2) rfl rfl (Rd.move rfl) ?_
      refine SWz.rd (i := 3) rfl rfl (Rd.move rfl) ?_
      refine SWz.rd (i := 4) rfl rfl (Rd.shS (e := 83) rfl rfl (by kernel_rfl) (by kernel_rfl) (by rw [cN_length, Nm.pad_length]; omega)) ?_
      refine SWz.rd (i := 5) rfl rfl (Rd.move rfl) ?_
      refine SWz.efn (i := 1) rfl (Ef.call (con_trimN (by rw [Nat.pow_zero, Nat.div_one, Nat.mul_one]) (by omega) hQK) rfl ⟨Le.refl _, trivial⟩ rfl) ?_ SWz.no
      rintro _ rfl
      refine SWz.efn (i := 6) rfl (Ef.call (con_shr hR0 (by omega) hs32) rfl ⟨le_sl (pad_take (by omega)), Le.refl _, trivial⟩ rfl) ?_ SWz.no
      rintro _ rfl
      refine SWz.efn (i := 7) rfl (Ef.call (con_trimN hR (by omega) hRm) rfl ⟨Le.refl _, trivial⟩ rfl) ?_ SWz.no
      rintro _ rfl
      refine SWz.rd (i := 8) rfl rfl (Rd.assign rfl) ?_
      refine SWz.rd (i := 9) rfl rfl (Rd.assign rfl) ?_
      refine SWz.nil ?_
      refine SN.then ?_
      refine SW.ret (fn := Try.f97) (fun _ _ h => h) (Rs.two rfl (ResV.tmp rfl) (ResV.tmp rfl))
end Sx
end Go.Proofs.Ytddfphneidcibaa
namespace Go.Proofs.Ytddfphneidcibaa
open Go.RowKit
open Nm (W32)
namespace Sx
theorem aw_nil {A : Option Addr} {n : Nat} : Aw [] A n := fun _ _ _ hm => by simp at hm
theorem len100 {w : World} {A : Option Addr} {n c X : Nat} (h : NatS w A n c X) (hX : X < W32 ^ 100) : n ≤ 100 := by rw [h.n_eq]; exact (Nm.len_le (B := W32) (by decide) 100 X).2 hX
theorem con_natOf {X : Nat} (hX : X < big512) : Con Try.prog 85 [bytD X] (natD X) := by
  refine ⟨enters_of Try.func85 (by kernel_rfl) rfl, fun L w vs hL ha => ?_⟩
  obtain ⟨u, rfl, hu⟩ := all1 ha
  obtain ⟨A, n, c, rfl, h1, -⟩ := byt_out hu
  have hn : n ≤ 64 := by rw [h1.n_eq]; exact (Nm.len_le (B := 256) (by decide) 64 X).2 hX
  refine (natOf_new w A n c X (by omega) h1).mono ?_
  rintro r w' ⟨A', n', c', rfl, hN, hO, hf⟩
  exact ⟨_, rfl, nat_in hN (Aw.of_frs hf hL), hO⟩
theorem con_build {X : Nat} (neg : Bool) (hX : X < W32 ^ 100) : Con Try.prog 82 [boolD neg, natD X] (tupD [intD (limZ (sgn neg X)), errD (limE (sgn neg X))]) := by
  refine ⟨enters_of Try.func82 (by kernel_rfl) rfl, fun L w vs hL ha => ?_⟩
  obtain ⟨u, v, rfl, rfl, hv⟩ := all2 ha
  obtain ⟨A, n, c, rfl, h1, -⟩ := nat_out hv
  have hn := len100 h1 hX
  refine (build_any w neg A n c X (by omega) h1).mono ?_
  rintro r w' ⟨s', A', n', c', rfl, hI, hF, hO⟩
  exact ⟨_, rfl, ⟨[_, _], rfl, int_in hI (Aw.of_frs hF hL), rfl, trivial⟩, hO⟩
theorem con_cmpLt {X Y : Nat} (hY : Y < W32 ^ 100) (hXY : X < Y) : Con Try.prog 103 [natD X, natD Y] (errD (-1)) := by
  refine ⟨enters_of Try.func103 (by kernel_rfl) rfl, fun L w vs hL ha => ?_⟩
  obtain ⟨u, v, rfl, hu, hv⟩ := all2 ha
  obtain ⟨A, n, c, rfl, h1, -⟩ := nat_out hu
  obtain ⟨B, m, d, rfl, h2, -⟩ := nat_out hv
  have hn := len100 h1 (Nat.lt_trans hXY hY)
  have hm := len100 h2 hY
  refine (compareNat_any w A B n c m d X Y (by omega) (by omega) h1 h2).mono ?_
  rintro r w' ⟨z, rfl, hz, hO⟩
  refine ⟨_, rfl, ?_, hO⟩
  have hz' : Cmp X Y z := hz
  show Value.int .i64 z = .int .i64 _
  rcases hz' with ⟨h, e⟩ | ⟨h, e⟩ | ⟨h, e⟩
  · rw [e]
  · omega
  · omega
theorem con_divSmall {X d : Nat} (hX : X < W32 ^ 100) (hd : 0 < d) (hd2 : d < 4294967296) : Con Try.prog 112 [natD X, isD (.int .u32 (d : Int))] (tupD [natD (X / d), isD (.int .u32 ((X % d : Nat) : Int))]) := by
  refine ⟨enters_of Try.func112 (by kernel_rfl) rfl, fun L w vs hL ha => ?_⟩
  obtain ⟨u, v, rfl, hu, rfl⟩ := all2 ha
  obtain ⟨A, n, c, rfl, h1, -⟩ := nat_out hu
  have hn := len100 h1 hX
  refine (divSmall_any w A n c X d (by omega) hd hd2 h1).mono ?_
  rintro r w' ⟨A', n', c', r, rfl, hN, hr, hO, hf⟩
  refine ⟨_, rfl, ⟨[_, _], rfl, nat_in hN (fun _ p hp hm => ?_), by rw [hr.out]; rfl, trivial⟩, hO⟩
  have := hf p hp
  have := hL _ hm
  omega
theorem le_nil_nat {X : Nat} (h : X = 0) : Le (isD (.slice none 0 0)) (natD X) := by
  subst h
  unfold natD
  rw [Nm.dg_zero]
  exact Le.nil_sl
theorem le_nat {X Y : Nat} (h : X = Y) : Le (natD X) (natD Y) := by subst h; exact Le.refl _
theorem le_pad32 {d : Nat} (h2 : d < 4294967296) : Le (slD [.int .u32 (d : Int)]) (slD (cN .u32 (Nm.pad W32 1 d))) := by
  have : Nm.pad W32 1 d = [d] := by simp [Nm.pad, Nat.mod_eq_of_lt (show d < W32 from h2)]
  rw [this]
  exact Le.refl _
theorem nat_len0 {X : Nat} : (0 < ((cN .u32 (Nm.dg W32 X)).length : Int)) ↔ X ≠ 0 := by
  rw [cN_length, Nm.dg_length]
  have := Nm.len_eq_zero (B := W32) (x := X) (by decide)
  omega
theorem natl_len (X : Nat) : (cN .u32 (Nm.dg W32 X)).length = Nm.len W32 X := by rw [cN_length, Nm.dg_length]
set_option maxHeartbeats 4000000 in
set_option maxRecDepth 100000 in
theorem con_divLt {X Y : Nat} (hY : Y < W32 ^ 100) (h : X < Y) : Con Try.prog 97 [natD X, natD Y] (tupD [natD (X / Y), natD (X % Y)]) := by
  refine con_of Try.func97 (by kernel_rfl) rfl (by kernel_rfl) fun base w0 => ?_
  refine SW.seq ?_
  refine SW.region ?_
  refine SWl.rd rfl (Rd.assign rfl) ?_
  refine SWl.rd rfl (Rd.assign rfl) ?_
  refine SWl.nil ?_
  refine SN.then ?_
  refine SW.seq ?_
  refine SW.seq ?_
  refine SW.region ?_
  refine SWl.rd rfl (Rd.move rfl) ?_
  refine SWl.rd rfl (Rd.move rfl) ?_
  refine SWl.ef (S := []) (Ef.call (con_cmpLt hY h) rfl ⟨Le.refl _, Le.refl _, trivial⟩ rfl) ?_
  rintro _ rfl
  refine SWl.rd rfl (Rd.lss rfl rfl) ?_
  refine SWl.nil ?_
  refine SN.then ?_
  refine SW.condT rfl (by decide) ?_
  refine SW.seq ?_
  refine SW.region ?_
  refine SWl.rd rfl (Rd.move rfl) ?_
  refine SWl.rd rfl (Rd.assign rfl) ?_
  refine SWl.rd rfl (Rd.assign rfl) ?_
  refine SWl.nil ?_
  refine SN.then ?_
  refine SW.ret (fn := Try.f97) (fun _ _ h => h) (Rs.le (Rs.two rfl (ResV.tmp rfl) (ResV.tmp rfl)) ?_)
  exact Le.tup ⟨le_nil_nat (Nat.div_eq_of_lt h), le_nat (Nat.mod_eq_of_lt h).symm, trivial⟩
set_option maxHeartbeats 4000000 in
set_option maxRecDepth 100000 in
theorem con_divOne {X Y : Nat} (hX : X < W32 ^ 100) (h0 : 0 < Y) (hY : Y < 4294967296) (h : Y ≤ X) : Con Try.prog 97 [natD X, natD Y] (tupD [natD (X / Y), natD (X % Y)]) := by
  have hl := natl_len Y
  have hl1 : Nm.len W32 Y = 1 := by have h1 := (Nm.len_le (B := W32) (by decide) 1 Y).2 (by simpa using hY); have h2 := Nm.len_eq_zero (B := W32) (x := Y) (by decide); omega
  have hr : X % Y < 4294967296 := Nat.lt_trans (Nat.mod_lt _ h0) hY
  refine con_of Try.func97 (by kernel_rfl) rfl (by kernel_rfl) fun base w0 => ?_
  refine SW.seq ?_
  refine SW.region ?_
  refine SWl.rd rfl (Rd.assign rfl) ?_
  refine SWl.rd rfl (Rd.assign rfl) ?_
  refine SWl.nil ?_
  refine SN.then ?_
  refine SW.seq ?_
  refine SW.seq ?_
  refine SW.region ?_
  refine SWl.rd rfl (Rd.move rfl) ?_
  refine SWl.rd rfl (Rd.move rfl) ?_
  refine SWl.ef (S := []) (Ef.call (con_cmpGe hX h) rfl ⟨Le.refl _, Le.refl _, trivial⟩ rfl) ?_
  rintro _ rfl
  refine SWl.rd rfl (Rd.lss rfl rfl) ?_
  refine SWl.nil ?_
  refine SN.then ?_
  refine SW.condF rfl (decide_eq_false (by split <;> omega)) ?_
  refine SW.skip ?_
  refine SN.then ?_
  refine SW.seq ?_
  refine SW.seq ?_
  refine SW.region ?_
  refine SWl.rd rfl (Rd.move rfl) ?_
  refine SWl.rd rfl (Rd.len (e := 83) rfl (by kernel_rfl)) ?_
  refine SWl.rd rfl (Rd.eqi rfl rfl) ?_
  refine SWl.nil ?_
  refine SN.then ?_
  refine SW.condT rfl (decide_eq_true (by omega)) ?_
  refine SW.seq ?_
  refine SW.region ?_
  refine SWl.rd rfl (Rd.move rfl) ?_
  refine SWl.rd rfl (Rd.move rfl) ?_
  refine SWl.rd rfl (Rd.idx (e := 83) rfl rfl (by kernel_rfl) (by kernel_rfl) (by decide) (natd_at (j := 0) rfl (by omega))) ?_
  refine SWl.rd rfl (Rd.le (Rd.loadP rfl (by kernel_rfl) (by simp)) (le_wd (b := (Y : Int)) (by rw [Nat.pow_zero, Nat.div_one, Nat.mod_eq_of_lt (show Y < W32 from hY)]))) ?_
  refine SWl.ef (S := []) (Ef.call (con_divSmall hX h0 hY) rfl ⟨Le.refl _, Le.refl _, trivial⟩ rfl) ?_
  rintro _ rfl
  refine SWl.rd rfl (Rd.move rfl) ?_
  refine SWl.rd rfl (Rd.extract rfl rfl) ?_
  refine SWl.rd rfl (Rd.extract rfl rfl) ?_
  refine SWl.rd rfl (Rd.assign rfl) ?_
  refine SWl.rd rfl (Rd.assign rfl) ?_
  refine SWl.nil ?_
  refine SN.then ?_
  refine SW.seq ?_
  refine SW.region ?_
  refine SWl.rd rfl (Rd.move rfl) ?_
  refine SWl.rd rfl (Rd.move rfl) ?_
  refine SWl.ef (S := []) (Ef.lit1 (e := 83) rfl rfl (by kernel_rfl) (by kernel_rfl) rfl) ?_
  rintro _ rfl
  refine SWl.ef (S := []) (Ef.call (con_trimN (n := 1) rfl (by decide) (by simpa using hr)) rfl ⟨le_pad32 hr, trivial⟩ rfl) ?_
  rintro _ rfl
  refine SWl.rd rfl (Rd.assign rfl) ?_
  refine SWl.rd rfl (Rd.assign rfl) ?_
  refine SWl.nil ?_
  refine SN.then ?_
  refine SW.ret (fn := Try.f97) (fun _ _ h => h) (Rs.two rfl (ResV.tmp rfl) (ResV.tmp rfl))
theorem con_divNat {X Y : Nat} (hX : X < W32 ^ 100) (hY : Y < W32 ^ 100) (h0 : 0 < Y) : Con Try.prog 97 [natD X, natD Y] (tupD [natD (X / Y), natD (X % Y)]) := by
  by_cases h : X < Y
  · exact con_divLt hY h
  · have hpos : Nm.len W32 Y ≠ 0 := fun e => by have := (Nm.len_eq_zero (B := W32) (by decide)).1 e; omega
    by_cases h1 : Nm.len W32 Y = 1
    · exact con_divOne hX h0 (by have := (Nm.len_le (B := W32) (by decide) 1 Y).1 (by omega); simpa using this) (by omega)
    · exact con_divBig (m := Nm.len W32 Y - 2) hX (by omega) (by omega)
theorem big_w100 {X : Nat} (h : X < big512) : X < W32 ^ 100 := by
  have e : big512 = W32 ^ 16 := by unfold big512; decide +kernel
  rw [e] at h
  exact Nat.lt_of_lt_of_le h (Nat.pow_le_pow_right (by decide) (by decide))
theorem con_divMod {x y : Int} (hx : x.natAbs < big512) (hy : y.natAbs < big512) (h0 : y ≠ 0) : Con Try.prog 35 [intD x, intD y] (tupD [intD (dq x y), intD (dr x y), errD 0]) :=
  con_ii_RI2 (enters_of Try.func35 (by kernel_rfl) rfl) fun w s t A B n c m d h1 h2 => divMod_any w s t A B n c m d x y hx hy h0 h1 h2 fun w' A' B' n' c' m' d' h3 h4 => by
    refine ((con_divNat (big_w100 hx) (big_w100 hy) (by omega)).go [] w' [.slice A' n' c', .slice B' m' d'] (by simp) ⟨nat_in h3 aw_nil, nat_in h4 aw_nil, trivial⟩).mono ?_
    rintro e w2 ⟨v, rfl, ⟨cs, rfl, ha⟩, hO⟩
    obtain ⟨u, v, rfl, hu, hv⟩ := all2 ha
    obtain ⟨A2, n2, c2, rfl, k1, -⟩ := nat_out hu
    obtain ⟨B2, m2, d2, rfl, k2, -⟩ := nat_out hv
    exact ⟨A2, n2, c2, B2, m2, d2, rfl, k1, k2, hO⟩
/-- The greatest common divisor. -/
def gcdZ (x y : Int) : Int := ((Nat.gcd x.natAbs y.natAbs : Nat) : Int)
theorem gcd_next {X Y G : Nat} (h : Nat.gcd X Y = G) : Nat.gcd Y (X % Y) = G := by
  rw [← h, Nat.gcd_comm Y, ← Nat.gcd_rec, Nat.gcd_comm]
set_option maxHeartbeats 4000000 in
set_option maxRecDepth 100000 in
theorem con_gcd {x y : Int} (hx : x.natAbs < big512) (hy : y.natAbs < big512) : Con Try.prog 36 [intD x, intD y] (tupD [intD (gcdZ x y), errD 0]) := by
  refine con_of Try.func36 (by kernel_rfl) rfl (by kernel_rfl) fun base w0 => ?_
  refine SW.seq ?_
  refine SW.region ?_
  refine SWl.ef (S := []) (Ef.boxA rfl rfl) ?_
  rintro _ ⟨g2, rfl⟩
  refine SWl.ef (S := []) (Ef.boxA rfl rfl) ?_
  rintro _ ⟨g3, rfl⟩
  refine SWl.ef (S := []) (Ef.alloc (zs := [.bool false, .slice none 0 0]) (by kernel_rfl) rfl) ?_
  rintro _ ⟨g4, rfl⟩
  refine SWl.rd rfl (Rd.assign rfl) ?_
  refine SWl.nil ?_
  refine SN.then ?_
  refine SW.seq ?_
  refine SW.seq ?_
  refine SW.region ?_
  refine SWl.rd rfl (Rd.loadA 0 2 rfl rfl (by kernel_rfl) rfl trivial) ?_
  refine SWl.ef (S := []) (Ef.call (con_valid (by assumption)) rfl ⟨Le.refl _, trivial⟩ rfl) ?_
  rintro _ rfl
  refine SWl.rd rfl (Rd.not rfl) ?_
  refine SWl.rd rfl (Rd.move rfl) ?_
  refine SWl.rdg rfl rfl (rfl) rfl rfl (Rd.loadA 1 2 rfl rfl (by kernel_rfl) rfl trivial) ?_
  refine SWl.efg (S := []) rfl rfl (rfl) rfl (Ef.call (con_valid (by assumption)) rfl ⟨Le.refl _, trivial⟩ rfl) ?_
  rintro _ rfl
  refine SWl.rdg rfl rfl (rfl) rfl rfl (Rd.not rfl) ?_
  refine SWl.rd rfl (Rd.pickN rfl (rfl) rfl) ?_
  refine SWl.nil ?_
  refine SN.then ?_
  refine SW.condF rfl (rfl) ?_
  refine SW.skip ?_
  refine SN.then ?_
  refine SW.seq ?_
  refine SW.draw [] (.r 0 (.r 1 (.r 3 (.r 4 (.n 2 (.n 5 (.r 6 (.r 7 .fin)) .no) .no))))) (by kernel_rfl) (by kernel_rfl) (fun d _ _ _ _ h => by cases d <;> exact h) ?_
  refine SWz.rd (i := 0) rfl rfl (Rd.fieldAddr (n := 1) rfl (by kernel_rfl)) ?_
  refine SWz.rd (i := 1) rfl rfl (Rd.loadB 0 rfl rfl rfl (by kernel_rfl) trivial) ?_
  refine SWz.rd (i := 3) rfl rfl (Rd.fieldAddr (n := 1) rfl (by kernel_rfl)) ?_
  refine SWz.rd (i := 4) rfl rfl (Rd.loadB 1 rfl rfl rfl (by kernel_rfl) trivial) ?_
  refine SWz.efn (i := 2) rfl (Ef.call (con_natOf hx) rfl ⟨Le.refl _, trivial⟩ rfl) ?_ SWz.no
  rintro _ rfl
  refine SWz.efn (i := 5) rfl (Ef.call (con_natOf hy) rfl ⟨Le.refl _, trivial⟩ rfl) ?_ SWz.no
  rintro _ rfl
  refine SWz.rd (i := 6) rfl rfl (Rd.assign rfl) ?_
  refine SWz.rd (i := 7) rfl rfl (Rd.assign rfl) ?_
  refine SWz.nil ?_
  refine SN.then ?_
  refine SW.seq ?_
  refine SW.block ?_
  refine SW.loop (ι := {p : Nat × Nat // p.1 < big512 ∧ p.2 < big512 ∧ Nat.gcd p.1 p.2 = Nat.gcd x.natAbs y.natAbs}) (fun ⟨⟨X, Y⟩, hX, hY, hG⟩ => St.of [(4, isD (.pointer (some ⟨g4, 0, none⟩))), (6, natD X), (7, natD Y)] [(g4, [isD (.bool false), isD (.slice none 0 0)])]) (fun ⟨⟨X, Y⟩, hX, hY, hG⟩ => Y) (⟨(x.natAbs, y.natAbs), hx, hy, rfl⟩) ?_ ?_
  · exact ⟨⟨_, rfl, ⟨⟨_, rfl, Le.refl _⟩, ⟨⟨_, rfl, Le.refl _⟩, ⟨⟨_, rfl, Le.refl _⟩, trivial⟩⟩⟩⟩, [2], by decide, ⟨⟨_, rfl, LeAll.refl _⟩, trivial⟩⟩
  · rintro ⟨⟨X, Y⟩, hX, hY, hG⟩ K0 hK0
    simp only at hX hY hG
    refine SW.seq ?_
    refine SW.seq ?_
    refine SW.region ?_
    refine SWl.rd rfl (Rd.move rfl) ?_
    refine SWl.rd rfl (Rd.len (e := 83) rfl (by kernel_rfl)) ?_
    refine SWl.rd rfl (Rd.gtr rfl rfl) ?_
    refine SWl.nil ?_
    refine SN.then ?_
    refine SW.cond rfl (fun hb27 => ?_) (fun hb27 => ?_)
    · have h0 : 0 < Y := Nat.pos_of_ne_zero (nat_len0.1 (of_decide_eq_true hb27))
      refine SW.skip ?_
      refine SN.then ?_
      refine SW.block ?_
      refine SW.seq ?_
      refine SW.region ?_
      refine SWl.rd rfl (Rd.move rfl) ?_
      refine SWl.rd rfl (Rd.move rfl) ?_
      refine SWl.ef (S := []) (Ef.call (con_divNat (big_w100 hX) (big_w100 hY) h0) rfl ⟨Le.refl _, Le.refl _, trivial⟩ rfl) ?_
      rintro _ rfl
      refine SWl.rd rfl (Rd.move rfl) ?_
      refine SWl.rd rfl (Rd.extract rfl rfl) ?_
      refine SWl.rd rfl (Rd.extract rfl rfl) ?_
      refine SWl.rd rfl (Rd.assign rfl) ?_
      refine SWl.rd rfl (Rd.assign rfl) ?_
      refine SWl.nil ?_
      refine SN.then ?_
      refine SW.region ?_
      refine SWl.rd rfl (Rd.move rfl) ?_
      refine SWl.rd rfl (Rd.move rfl) ?_
      refine SWl.rd rfl (Rd.assign rfl) ?_
      refine SWl.rd rfl (Rd.assign rfl) ?_
      refine SWl.nil ?_
      refine SN.block ?_
      exact fun a w hh => hK0 (⟨(Y, X % Y), hY, Nat.lt_trans (Nat.mod_lt _ h0) hY, gcd_next hG⟩) (Nat.mod_lt _ h0) a w (hh.sub (⟨⟨_, rfl, ⟨⟨_, rfl, Le.refl _⟩, ⟨⟨_, rfl, Le.refl _⟩, ⟨⟨_, rfl, Le.refl _⟩, trivial⟩⟩⟩⟩, [0], by decide, ⟨⟨_, rfl, LeAll.refl _⟩, trivial⟩⟩))
    · obtain rfl : Y = 0 := Classical.byContradiction fun h => of_decide_eq_false hb27 (nat_len0.2 h)
      refine SW.exit' ?_
      repeat (first | refine SE.then ?_ | refine SE.skip (by decide) ?_)
      refine SE.here ?_
      refine SN.then ?_
      refine SW.seq ?_
      refine SW.region ?_
      refine SWl.rd rfl (Rd.move rfl) ?_
      refine SWl.ef (S := []) (Ef.call (con_build false (big_w100 hX)) rfl ⟨Le.refl _, Le.refl _, trivial⟩ rfl) ?_
      rintro _ rfl
      refine SWl.rd rfl (Rd.extract rfl rfl) ?_
      refine SWl.rd rfl (Rd.extract rfl rfl) ?_
      refine SWl.ef (S := [_]) (Ef.storeA 0 rfl rfl rfl (by kernel_rfl) rfl (List.mem_singleton.2 rfl)) ?_
      rintro _ rfl
      refine SWl.rd rfl (Rd.assign rfl) ?_
      refine SWl.nil ?_
      refine SN.then ?_
      refine SW.ret (fn := Try.f36) (fun _ _ h => h) (Rs.le (Rs.two rfl (ResV.cellA 0 rfl rfl (by kernel_rfl)) (ResV.tmp rfl)) ?_)
      rw [Nat.gcd_zero_right] at hG
      have hl := lim_ok (z := (X : Int)) hX
      exact Le.tup ⟨le_int (by show limZ (X : Int) = _; rw [hl.1, hG]; rfl), le_err hl.2, trivial⟩
end Sx
end Go.Proofs.Ytddfphneidcibaa
