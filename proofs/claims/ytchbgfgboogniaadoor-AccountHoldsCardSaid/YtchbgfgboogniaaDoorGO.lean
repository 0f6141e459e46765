/-
  WIRE: groups, the reference's Group and String.
  WIRE: the writer.
-/
import Derived.Test.YtchbgfgboogniaaDoorGP
import Derived.Test.YtchbgfgboogniaaDoorGN
namespace Go.Proofs.YtchbgfgboogniaaDoor
open Go.RowKit
namespace Sx
/-! Numbers in groups of seven bits. -/
def grp (n : Nat) : List UInt8 := if h : n < 128 then [UInt8.ofNat n] else UInt8.ofNat (n % 128 + 128) :: grp (n / 128)
termination_by n
decreasing_by omega
theorem grp_lt {n : Nat} (h : n < 128) : grp n = [UInt8.ofNat n] := by rw [grp, dif_pos h]
theorem grp_ge {n : Nat} (h : ¬ n < 128) : grp n = UInt8.ofNat (n % 128 + 128) :: grp (n / 128) := by rw [grp, dif_neg h]
theorem grp_len : ∀ (k n : Nat), n < 128 ^ (k + 1) → (grp n).length ≤ k + 1
  | 0, n, h => by rw [grp_lt (by simpa using h)]; simp
  | k + 1, n, h => by
    by_cases h1 : n < 128
    · rw [grp_lt h1]; simp
    · rw [grp_ge h1, List.length_cons]
      have := grp_len k (n / 128) (Nat.div_lt_of_lt_mul (by rw [Nat.pow_succ] at h; omega))
      omega
theorem grp_ten {n : Nat} (h : n < 18446744073709551616) : (grp n).length ≤ 10 := grp_len 9 n (Nat.lt_of_lt_of_le h (by decide))
def strE (b : List UInt8) : List UInt8 := grp b.length ++ b
theorem u8_nat {n : Nat} (h : n < 256) : (UInt8.ofNat n).toNat = n := by rw [UInt8.toNat_ofNat']; omega
theorem or128 : ∀ b : Fin 256, bits .or .u8 ((b.val : Nat) : Int) 128 = ((b.val % 128 + 128 : Nat) : Int) := by decide +kernel
theorem or128_w {m : Nat} : bits .or .u8 ((m % 256 : Nat) : Int) 128 = ((UInt8.ofNat (m % 128 + 128)).toNat : Int) := by
  have h := or128 ⟨m % 256, Nat.mod_lt _ (by decide)⟩
  simp only at h
  rw [h, u8_nat (by omega)]
  congr 1
  omega
theorem byte_w {m : Nat} : IntKind.u8.wrap (m : Int) = ((m % 256 : Nat) : Int) := by rw [wrap8]; omega
theorem low_w {m : Nat} (h : m < 128) : IntKind.u8.wrap (m : Int) = ((UInt8.ofNat m).toNat : Int) := by rw [wrap8, u8_nat (by omega)]; omega
theorem shr7_w {m : Nat} : (m : Int) / 2 ^ (min 7 IntKind.u64.bits) = ((m / 128 : Nat) : Int) := by
  rw [show min 7 IntKind.u64.bits = 7 from rfl, show (2 : Int) ^ 7 = 128 from rfl]
  omega
theorem u64_w {n : Int} (h0 : 0 ≤ n) (h : n ≤ 9223372036854775807) : IntKind.u64.wrap n = n := wrap_u64 h0 (by omega)
set_option maxHeartbeats 4000000 in
set_option maxRecDepth 100000 in
theorem con_groups (o : List UInt8) (A : Option Addr) (c : Nat) (F : List Nat) (n : Nat) (hn : n < 18446744073709551616) (ho : o.length ≤ 100000) : ConR Tryd.prog 101 [.r F (vecT 5 1 encB A c (o))] [isD (.slice A o.length c), isD (.int .u64 (n : Int))] (fun t : Ust => [.r t.F (vecT 5 1 encB t.A t.c (o ++ grp n))]) (fun t : Ust => isD (.slice t.A (o ++ grp n).length t.c)) := by
  refine con_ofR Tryd.func101 (by kernel_rfl) rfl (by kernel_rfl) fun base w0 => ?_
  refine SW.seq ?_
  refine SW.region ?_
  refine SWl.rd rfl (Rd.assign rfl) ?_
  refine SWl.nil ?_
  refine SN.then ?_
  refine SW.seq ?_
  refine SW.block ?_
  refine SW.loop (ι := {p : Nat × List UInt8 × Ust // p.2.1 ++ grp p.1 = o ++ grp n ∧ p.1 ≤ n}) (fun ⟨(m, q, t), hq, hm⟩ => St.ob [(0, isD (.slice t.A q.length t.c)), (1, isD (.int .u64 (m : Int)))] [.r t.F (vecT 5 1 encB t.A t.c (q))]) (fun ⟨(m, q, t), hq, hm⟩ => m) (⟨(n, o, ⟨A, c, F⟩), rfl, Nat.le_refl _⟩) ?_ ?_
  · exact ⟨⟨_, rfl, ⟨⟨_, rfl, Le.refl _⟩, ⟨⟨_, rfl, Le.refl _⟩, trivial⟩⟩⟩, [0], by decide, ⟨⟨_, rfl, LeR.refl _⟩, trivial⟩⟩
  · rintro ⟨⟨m, q, t⟩, hq, hm⟩ K0 hK0
    dsimp only at hq hm ⊢
    have hql : q.length ≤ 100010 := by have h := congrArg List.length hq; have := grp_ten hn; simp only [List.length_append] at h; omega
    refine SW.seq ?_
    refine SW.seq ?_
    refine SW.region ?_
    refine SWl.rd rfl (Rd.move rfl) ?_
    refine SWl.rd rfl (Rd.gtr rfl rfl) ?_
    refine SWl.nil ?_
    refine SN.then ?_
    refine SW.cond rfl (fun hb6 => ?_) (fun hb6 => ?_)
    · have h6 : ¬ m < 128 := by have h := of_decide_eq_true hb6; omega
      refine SW.skip ?_
      refine SN.then ?_
      refine SW.block ?_
      refine SW.seq ?_
      refine SW.region ?_
      refine SWl.rd rfl (Rd.move rfl) ?_
      refine SWl.rd rfl (Rd.move rfl) ?_
      refine SWl.rd rfl (Rd.cvW (r := ((m % 256 : Nat) : Int)) .u64 rfl (by kernel_rfl) (by kernel_rfl) byte_w) ?_
      refine SWl.rd rfl (Rd.orW (r := ((UInt8.ofNat (m % 128 + 128)).toNat : Int)) rfl rfl or128_w) ?_
      refine SWl.ef (S := []) (Ef.lit1 (e := 5) rfl rfl (by kernel_rfl) (by kernel_rfl) rfl) ?_
      rintro _ rfl
      refine SWl.ef (Ef.appT 0 1 1 rfl rfl (SrcT.b (b := [UInt8.ofNat (m % 128 + 128)]) rfl) (by kernel_rfl) (by kernel_rfl) (by simp <;> omega) (by decide) (fun _ h => h) rfl) ?_
      rintro _ ⟨A12, F12, c12, rfl⟩
      refine SWl.rd rfl (Rd.assign rfl) ?_
      refine SWl.nil ?_
      refine SN.then ?_
      refine SW.region ?_
      refine SWl.rd rfl (Rd.move rfl) ?_
      refine SWl.rd rfl (Rd.shrW (s := 7) (r := ((m / 128 : Nat) : Int)) rfl rfl shr7_w) ?_
      refine SWl.rd rfl (Rd.assign rfl) ?_
      refine SWl.nil ?_
      refine SN.block ?_
      exact fun a w hh => hK0 (⟨(m / 128, q ++ [UInt8.ofNat (m % 128 + 128)], ⟨A12, c12, F12⟩), by dsimp only; rw [List.append_assoc, ← hq, grp_ge h6]; rfl, by dsimp only; omega⟩) (by dsimp only; omega) a w (hh.sub (⟨⟨_, rfl, ⟨⟨_, rfl, Le.refl _⟩, ⟨⟨_, rfl, Le.refl _⟩, trivial⟩⟩⟩, [0], by decide, ⟨⟨_, rfl, LeR.refl _⟩, trivial⟩⟩))
    · have h6 : m < 128 := by have h := of_decide_eq_false hb6; omega
      refine SW.exit' ?_
      repeat (first | refine SE.then ?_ | refine SE.skip (by decide) ?_)
      refine SE.here ?_
      refine SN.then ?_
      refine SW.seq ?_
      refine SW.region ?_
      refine SWl.rd rfl (Rd.move rfl) ?_
      refine SWl.rd rfl (Rd.move rfl) ?_
      refine SWl.rd rfl (Rd.cvW (r := ((UInt8.ofNat m).toNat : Int)) .u64 rfl (by kernel_rfl) (by kernel_rfl) (low_w h6)) ?_
      refine SWl.ef (S := []) (Ef.lit1 (e := 5) rfl rfl (by kernel_rfl) (by kernel_rfl) rfl) ?_
      rintro _ rfl
      refine SWl.ef (Ef.appT 0 1 1 rfl rfl (SrcT.b (b := [UInt8.ofNat m]) rfl) (by kernel_rfl) (by kernel_rfl) (by simp <;> omega) (by decide) (fun _ h => h) rfl) ?_
      rintro _ ⟨A19, F19, c19, rfl⟩
      refine SWl.rd rfl (Rd.assign rfl) ?_
      refine SWl.nil ?_
      refine SN.then ?_
      refine SW.retR (fn := Tryd.f101) (⟨A19, c19, F19⟩) [0] (fun _ _ h => h) (Rs.le (Rs.one rfl (ResV.tmp rfl)) ?_) (by decide) ⟨⟨_, rfl, leVec (by rw [← hq, grp_lt h6]) (by rw [← hq, grp_lt h6])⟩, trivial⟩
      exact Le.is (by rw [← hq, grp_lt h6])
set_option maxHeartbeats 4000000 in
set_option maxRecDepth 100000 in
theorem con_ready (o : List UInt8) : ConN Tryd.prog 98 [paD [iD 0, bD o]] (boolD true) := by
  refine con_ofN Tryd.func98 (by kernel_rfl) rfl (by kernel_rfl) fun base w0 => ?_
  refine SW.seq ?_
  refine SW.region ?_
  refine SWl.rd rfl (Rd.assign rfl) ?_
  refine SWl.nil ?_
  refine SN.then ?_
  refine SW.seq ?_
  refine SW.region ?_
  refine SWl.rd rfl (Rd.move rfl) ?_
  refine SWl.rd rfl (Rd.nePA rfl rfl (by kernel_rfl)) ?_
  refine SWl.rd rfl (Rd.move rfl) ?_
  refine SWl.rdg rfl rfl (rfl) rfl rfl (Rd.move rfl) ?_
  refine SWl.rdg rfl rfl (rfl) rfl rfl (Rd.nilCheckP rfl) ?_
  refine SWl.rdg rfl rfl (rfl) rfl rfl (Rd.fieldR (n := 0) rfl (by kernel_rfl) (show 0 < 2 by decide)) ?_
  refine SWl.rdg rfl rfl (rfl) rfl rfl (Rd.fieldR (n := 0) rfl (by kernel_rfl) (show 0 < 2 by decide)) ?_
  refine SWl.rdg rfl rfl (rfl) rfl rfl (Rd.loadR rfl rfl (by kernel_rfl) (by simp)) ?_
  refine SWl.rdg rfl rfl (rfl) rfl rfl (Rd.eqi rfl rfl) ?_
  refine SWl.rd rfl (Rd.pickY rfl (rfl) rfl) ?_
  refine SWl.rd rfl (Rd.assign rfl) ?_
  refine SWl.nil ?_
  refine SN.then ?_
  refine SW.ret (fn := Tryd.f98) (fun _ _ h => h) (Rs.le (Rs.one rfl (ResV.tmp rfl)) ?_)
  exact le_bool_n rfl
set_option maxHeartbeats 4000000 in
set_option maxRecDepth 100000 in
theorem con_keep (gw : Nat) (v0 : Value) (A : Option Addr) (n c : Nat) (hn : n ≤ 65536) : ConR Tryd.prog 100 [.c gw [iD 0, isD v0]] [isD (.pointer (some ⟨gw, 0, none⟩)), isD (.slice A n c)] (fun _ : Unit => [.c gw [iD 0, isD (.slice A n c)]]) (fun _ : Unit => isD (.tuple #[])) := by
  refine con_ofR Tryd.func100 (by kernel_rfl) rfl (by kernel_rfl) fun base w0 => ?_
  refine SW.seq ?_
  refine SW.seq ?_
  refine SW.region ?_
  refine SWl.rd rfl (Rd.move rfl) ?_
  refine SWl.rd rfl (Rd.lenE (e := 5) rfl (by kernel_rfl)) ?_
  refine SWl.rd rfl (Rd.gtr rfl rfl) ?_
  refine SWl.nil ?_
  refine SN.then ?_
  refine SW.condF rfl (by simp; omega) ?_
  refine SW.skip ?_
  refine SN.then ?_
  refine SW.region ?_
  refine SWl.rd rfl (Rd.move rfl) ?_
  refine SWl.rd rfl (Rd.move rfl) ?_
  refine SWl.rd rfl (Rd.nilCheck rfl) ?_
  refine SWl.rd rfl (Rd.fieldAddr (n := 1) rfl (by kernel_rfl)) ?_
  refine SWl.ef (S := [_]) (Ef.storeV 0 rfl rfl rfl (by kernel_rfl) rfl (List.mem_singleton.2 rfl)) ?_
  rintro _ rfl
  refine SWl.nil ?_
  refine SN.retR (fn := Tryd.f100) (()) [0] (Rs.none rfl) (by decide) ⟨⟨_, rfl, LeAll.refl _⟩, trivial⟩
end Sx
end Go.Proofs.YtchbgfgboogniaaDoor
namespace Go.Proofs.YtchbgfgboogniaaDoor
open Go.RowKit
namespace Sx
set_option maxHeartbeats 4000000 in
set_option maxRecDepth 100000 in
theorem con_wUint (gw : Nat) (t : Ust) (o : List UInt8) (n : Nat) (hn : n ≤ 9223372036854775807) (ho : o.length + 10 ≤ 65536) : ConR Tryd.prog 53 [.c gw [iD 0, isD (.slice t.A (o).length t.c)], .r t.F (vecT 5 1 encB t.A t.c (o))] [isD (.pointer (some ⟨gw, 0, none⟩)), iD (n : Int)] (fun s : Ust => [.c gw [iD 0, isD (.slice s.A (o ++ grp n).length s.c)], .r s.F (vecT 5 1 encB s.A s.c (o ++ grp n))]) (fun s : Ust => isD (.tuple #[])) := by
  refine con_ofR Tryd.func53 (by kernel_rfl) rfl (by kernel_rfl) fun base w0 => ?_
  refine SW.seq ?_
  refine SW.seq ?_
  refine SW.region ?_
  refine SWl.rd rfl (Rd.move rfl) ?_
  refine SWl.ef (S := []) (Ef.callN [0, 1] (con_ready o) rfl ⟨(sees_box 0 rfl (by decide) ⟨(sees_le (Le.refl _)), (sees_vecB 1 rfl (by decide)), trivial⟩), trivial⟩ rfl) ?_
  rintro _ rfl
  refine SWl.rd rfl (Rd.not rfl) ?_
  refine SWl.nil ?_
  refine SN.then ?_
  refine SW.condF rfl (rfl) ?_
  refine SW.skip ?_
  refine SN.then ?_
  refine SW.seq ?_
  refine SW.seq ?_
  refine SW.region ?_
  refine SWl.rd rfl (Rd.move rfl) ?_
  refine SWl.rd rfl (Rd.lss rfl rfl) ?_
  refine SWl.nil ?_
  refine SN.then ?_
  refine SW.condF rfl (by simp) ?_
  refine SW.skip ?_
  refine SN.then ?_
  refine SW.region ?_
  refine SWl.rd rfl (Rd.move rfl) ?_
  refine SWl.rd rfl (Rd.move rfl) ?_
  refine SWl.rd rfl (Rd.nilCheck rfl) ?_
  refine SWl.rd rfl (Rd.fieldAddr (n := 1) rfl (by kernel_rfl)) ?_
  refine SWl.rd rfl (Rd.loadB 0 rfl rfl rfl (by kernel_rfl) ap_nil) ?_
  refine SWl.rd rfl (Rd.move rfl) ?_
  refine SWl.rd rfl (Rd.cvW (r := (n : Int)) .i64 rfl (by kernel_rfl) (by kernel_rfl) (u64_w (by omega) (by omega))) ?_
  refine SWl.ef (Ef.callR [1] (con_groups o t.A t.c t.F n (by omega) (by omega)) rfl ⟨Le.refl _, Le.refl _, trivial⟩ (by decide) ⟨⟨_, rfl, LeR.refl _⟩, trivial⟩ (fun _ h => h) rfl) ?_
  rintro _ ⟨sg, rfl⟩
  refine SWl.ef (Ef.callR [0] (con_keep gw (.slice t.A o.length t.c) sg.A _ sg.c (by have := grp_ten (n := n) (by omega); simp only [List.length_append]; omega)) rfl ⟨Le.refl _, Le.refl _, trivial⟩ (by decide) ⟨⟨_, rfl, LeAll.refl _⟩, trivial⟩ (fun _ h => h) rfl) ?_
  rintro _ ⟨⟨⟩, rfl⟩
  refine SWl.nil ?_
  refine SN.retR (fn := Tryd.f53) (sg) [1, 0] (Rs.none rfl) (by decide) ⟨⟨_, rfl, LeAll.refl _⟩, ⟨⟨_, rfl, LeR.refl _⟩, trivial⟩⟩
set_option maxHeartbeats 4000000 in
set_option maxRecDepth 100000 in
theorem con_textS (gw : Nat) (t : Ust) (o : List UInt8) (b : List UInt8) (hb : o.length + b.length + 10 ≤ 65536) : ConR Tryd.prog 102 [.c gw [iD 0, isD (.slice t.A (o).length t.c)], .r t.F (vecT 5 1 encB t.A t.c (o))] [isD (.pointer (some ⟨gw, 0, none⟩)), strD b] (fun s : Ust => [.c gw [iD 0, isD (.slice s.A (o ++ strE b).length s.c)], .r s.F (vecT 5 1 encB s.A s.c (o ++ strE b))]) (fun s : Ust => isD (.tuple #[])) := by
  refine con_ofR Tryd.func102 (by kernel_rfl) rfl (by kernel_rfl) fun base w0 => ?_
  refine SW.seq ?_
  refine SW.seq ?_
  refine SW.region ?_
  refine SWl.rd rfl (Rd.move rfl) ?_
  refine SWl.ef (S := []) (Ef.callN [0, 1] (con_ready o) rfl ⟨(sees_box 0 rfl (by decide) ⟨(sees_le (Le.refl _)), (sees_vecB 1 rfl (by decide)), trivial⟩), trivial⟩ rfl) ?_
  rintro _ rfl
  refine SWl.rd rfl (Rd.not rfl) ?_
  refine SWl.nil ?_
  refine SN.then ?_
  refine SW.condF rfl (rfl) ?_
  refine SW.skip ?_
  refine SN.then ?_
  refine SW.seq ?_
  refine SW.seq ?_
  refine SW.region ?_
  refine SWl.rd rfl (Rd.move rfl) ?_
  refine SWl.rd rfl (Rd.lenb rfl (by kernel_rfl)) ?_
  refine SWl.rd rfl (Rd.gtr rfl rfl) ?_
  refine SWl.nil ?_
  refine SN.then ?_
  refine SW.condF rfl (by simp; omega) ?_
  refine SW.skip ?_
  refine SN.then ?_
  refine SW.region ?_
  refine SWl.rd rfl (Rd.move rfl) ?_
  refine SWl.rd rfl (Rd.move rfl) ?_
  refine SWl.rd rfl (Rd.nilCheck rfl) ?_
  refine SWl.rd rfl (Rd.fieldAddr (n := 1) rfl (by kernel_rfl)) ?_
  refine SWl.rd rfl (Rd.loadB 0 rfl rfl rfl (by kernel_rfl) ap_nil) ?_
  refine SWl.rd rfl (Rd.move rfl) ?_
  refine SWl.rd rfl (Rd.lenb rfl (by kernel_rfl)) ?_
  refine SWl.rd rfl (Rd.cvW (r := ((b.length : Nat) : Int)) .i64 rfl (by kernel_rfl) (by kernel_rfl) (by exact u64_w (by omega) (by omega))) ?_
  refine SWl.ef (Ef.callR [1] (con_groups o t.A t.c t.F b.length (by omega) (by omega)) rfl ⟨Le.refl _, Le.refl _, trivial⟩ (by decide) ⟨⟨_, rfl, LeR.refl _⟩, trivial⟩ (fun _ h => h) rfl) ?_
  rintro _ ⟨sg, rfl⟩
  refine SWl.rd rfl (Rd.move rfl) ?_
  refine SWl.ef (Ef.appStr (e := 5) 1 rfl rfl rfl (by kernel_rfl) (by kernel_rfl) (by kernel_rfl) (by kernel_rfl) (by have := grp_ten (n := b.length) (by omega); simp only [List.length_append]; omega) (fun _ h => h) rfl) ?_
  rintro _ ⟨A24, F24, c24, rfl⟩
  refine SWl.ef (Ef.callR [0] (con_keep gw (.slice t.A o.length t.c) (⟨A24, c24, F24⟩ : Ust).A _ (⟨A24, c24, F24⟩ : Ust).c (by have := grp_ten (n := b.length) (by omega); simp only [List.length_append]; omega)) rfl ⟨Le.refl _, Le.refl _, trivial⟩ (by decide) ⟨⟨_, rfl, LeAll.refl _⟩, trivial⟩ (fun _ h => h) rfl) ?_
  rintro _ ⟨⟨⟩, rfl⟩
  refine SWl.nil ?_
  refine SN.retR (fn := Tryd.f102) (⟨A24, c24, F24⟩) [1, 0] (Rs.none rfl) (by decide) ⟨⟨_, rfl, ⟨Le.refl _, Le.is (by rw [strE, List.append_assoc]), trivial⟩⟩, ⟨⟨_, rfl, leVec (by rw [strE, List.append_assoc]) (by rw [strE, List.append_assoc])⟩, trivial⟩⟩
set_option maxHeartbeats 4000000 in
set_option maxRecDepth 100000 in
theorem con_textB (gw : Nat) (t : Ust) (o : List UInt8) (b : List UInt8) (hb : o.length + b.length + 10 ≤ 65536) : ConR Tryd.prog 103 [.c gw [iD 0, isD (.slice t.A (o).length t.c)], .r t.F (vecT 5 1 encB t.A t.c (o))] [isD (.pointer (some ⟨gw, 0, none⟩)), bD b] (fun s : Ust => [.c gw [iD 0, isD (.slice s.A (o ++ strE b).length s.c)], .r s.F (vecT 5 1 encB s.A s.c (o ++ strE b))]) (fun s : Ust => isD (.tuple #[])) := by
  refine con_ofR Tryd.func103 (by kernel_rfl) rfl (by kernel_rfl) fun base w0 => ?_
  refine SW.seq ?_
  refine SW.seq ?_
  refine SW.region ?_
  refine SWl.rd rfl (Rd.move rfl) ?_
  refine SWl.ef (S := []) (Ef.callN [0, 1] (con_ready o) rfl ⟨(sees_box 0 rfl (by decide) ⟨(sees_le (Le.refl _)), (sees_vecB 1 rfl (by decide)), trivial⟩), trivial⟩ rfl) ?_
  rintro _ rfl
  refine SWl.rd rfl (Rd.not rfl) ?_
  refine SWl.nil ?_
  refine SN.then ?_
  refine SW.condF rfl (rfl) ?_
  refine SW.skip ?_
  refine SN.then ?_
  refine SW.seq ?_
  refine SW.seq ?_
  refine SW.region ?_
  refine SWl.rd rfl (Rd.move rfl) ?_
  refine SWl.rd rfl (Rd.len (e := 5) rfl (by kernel_rfl)) ?_
  refine SWl.rd rfl (Rd.gtr rfl rfl) ?_
  refine SWl.nil ?_
  refine SN.then ?_
  refine SW.condF rfl (by simp; omega) ?_
  refine SW.skip ?_
  refine SN.then ?_
  refine SW.region ?_
  refine SWl.rd rfl (Rd.move rfl) ?_
  refine SWl.rd rfl (Rd.move rfl) ?_
  refine SWl.rd rfl (Rd.nilCheck rfl) ?_
  refine SWl.rd rfl (Rd.fieldAddr (n := 1) rfl (by kernel_rfl)) ?_
  refine SWl.rd rfl (Rd.loadB 0 rfl rfl rfl (by kernel_rfl) ap_nil) ?_
  refine SWl.rd rfl (Rd.move rfl) ?_
  refine SWl.rd rfl (Rd.len (e := 5) rfl (by kernel_rfl)) ?_
  refine SWl.rd rfl (Rd.cvW (r := ((b.length : Nat) : Int)) .i64 rfl (by kernel_rfl) (by kernel_rfl) (by rw [cellsOf_length]; exact u64_w (by omega) (by omega))) ?_
  refine SWl.ef (Ef.callR [1] (con_groups o t.A t.c t.F b.length (by omega) (by omega)) rfl ⟨Le.refl _, Le.refl _, trivial⟩ (by decide) ⟨⟨_, rfl, LeR.refl _⟩, trivial⟩ (fun _ h => h) rfl) ?_
  rintro _ ⟨sg, rfl⟩
  refine SWl.rd rfl (Rd.move rfl) ?_
  refine SWl.ef (Ef.appT 1 1 1 rfl rfl (SrcT.b rfl) (by kernel_rfl) (by kernel_rfl) (by have := grp_ten (n := b.length) (by omega); simp only [List.length_append]; omega) (by decide) (fun _ h => h) rfl) ?_
  rintro _ ⟨A24, F24, c24, rfl⟩
  refine SWl.ef (Ef.callR [0] (con_keep gw (.slice t.A o.length t.c) (⟨A24, c24, F24⟩ : Ust).A _ (⟨A24, c24, F24⟩ : Ust).c (by have := grp_ten (n := b.length) (by omega); simp only [List.length_append]; omega)) rfl ⟨Le.refl _, Le.refl _, trivial⟩ (by decide) ⟨⟨_, rfl, LeAll.refl _⟩, trivial⟩ (fun _ h => h) rfl) ?_
  rintro _ ⟨⟨⟩, rfl⟩
  refine SWl.nil ?_
  refine SN.retR (fn := Tryd.f103) (⟨A24, c24, F24⟩) [1, 0] (Rs.none rfl) (by decide) ⟨⟨_, rfl, ⟨Le.refl _, Le.is (by rw [strE, List.append_assoc]), trivial⟩⟩, ⟨⟨_, rfl, leVec (by rw [strE, List.append_assoc]) (by rw [strE, List.append_assoc])⟩, trivial⟩⟩
set_option maxHeartbeats 4000000 in
set_option maxRecDepth 100000 in
theorem con_wString (gw : Nat) (t : Ust) (o : List UInt8) (b : List UInt8) (hb : o.length + b.length + 10 ≤ 65536) : ConR Tryd.prog 54 [.c gw [iD 0, isD (.slice t.A (o).length t.c)], .r t.F (vecT 5 1 encB t.A t.c (o))] [isD (.pointer (some ⟨gw, 0, none⟩)), strD b] (fun s : Ust => [.c gw [iD 0, isD (.slice s.A (o ++ strE b).length s.c)], .r s.F (vecT 5 1 encB s.A s.c (o ++ strE b))]) (fun s : Ust => isD (.tuple #[])) := by
  refine con_ofR Tryd.func54 (by kernel_rfl) rfl (by kernel_rfl) fun base w0 => ?_
  refine SW.region ?_
  refine SWl.rd rfl (Rd.move rfl) ?_
  refine SWl.rd rfl (Rd.move rfl) ?_
  refine SWl.ef (Ef.callR [0, 1] (con_textS gw t o b hb) rfl ⟨Le.refl _, Le.refl _, trivial⟩ (by decide) ⟨⟨_, rfl, LeAll.refl _⟩, ⟨⟨_, rfl, LeR.refl _⟩, trivial⟩⟩ (fun _ h => h) rfl) ?_
  rintro _ ⟨s6, rfl⟩
  refine SWl.nil ?_
  refine SN.retR (fn := Tryd.f54) (s6) [0, 1] (Rs.none rfl) (by decide) ⟨⟨_, rfl, LeAll.refl _⟩, ⟨⟨_, rfl, LeR.refl _⟩, trivial⟩⟩
set_option maxHeartbeats 4000000 in
set_option maxRecDepth 100000 in
theorem con_wBytes (gw : Nat) (t : Ust) (o : List UInt8) (b : List UInt8) (hb : o.length + b.length + 10 ≤ 65536) : ConR Tryd.prog 55 [.c gw [iD 0, isD (.slice t.A (o).length t.c)], .r t.F (vecT 5 1 encB t.A t.c (o))] [isD (.pointer (some ⟨gw, 0, none⟩)), bD b] (fun s : Ust => [.c gw [iD 0, isD (.slice s.A (o ++ strE b).length s.c)], .r s.F (vecT 5 1 encB s.A s.c (o ++ strE b))]) (fun s : Ust => isD (.tuple #[])) := by
  refine con_ofR Tryd.func55 (by kernel_rfl) rfl (by kernel_rfl) fun base w0 => ?_
  refine SW.region ?_
  refine SWl.rd rfl (Rd.move rfl) ?_
  refine SWl.rd rfl (Rd.move rfl) ?_
  refine SWl.ef (Ef.callR [0, 1] (con_textB gw t o b hb) rfl ⟨Le.refl _, Le.refl _, trivial⟩ (by decide) ⟨⟨_, rfl, LeAll.refl _⟩, ⟨⟨_, rfl, LeR.refl _⟩, trivial⟩⟩ (fun _ h => h) rfl) ?_
  rintro _ ⟨s6, rfl⟩
  refine SWl.nil ?_
  refine SN.retR (fn := Tryd.f55) (s6) [0, 1] (Rs.none rfl) (by decide) ⟨⟨_, rfl, LeAll.refl _⟩, ⟨⟨_, rfl, LeR.refl _⟩, trivial⟩⟩
set_option maxHeartbeats 4000000 in
set_option maxRecDepth 100000 in
theorem con_wEnd (gw : Nat) (t : Ust) (o : List UInt8) (ho : o.length ≤ 65536) : ConR Tryd.prog 57 [.c gw [iD 0, isD (.slice t.A (o).length t.c)], .r t.F (vecT 5 1 encB t.A t.c (o))] [isD (.pointer (some ⟨gw, 0, none⟩))] (fun _ : Unit => [.c gw [iD 0, isD (.slice t.A (o).length t.c)], .r t.F (vecT 5 1 encB t.A t.c (o))]) (fun _ : Unit => tupD [bD o, iD 0]) := by
  refine con_ofR Tryd.func57 (by kernel_rfl) rfl (by kernel_rfl) fun base w0 => ?_
  refine SW.seq ?_
  refine SW.region ?_
  refine SWl.rd rfl (Rd.assign rfl) ?_
  refine SWl.rd rfl (Rd.assign rfl) ?_
  refine SWl.nil ?_
  refine SN.then ?_
  refine SW.seq ?_
  refine SW.seq ?_
  refine SW.region ?_
  refine SWl.rd rfl (Rd.move rfl) ?_
  refine SWl.rd rfl (Rd.eqP rfl rfl (by kernel_rfl)) ?_
  refine SWl.nil ?_
  refine SN.then ?_
  refine SW.condF rfl (rfl) ?_
  refine SW.skip ?_
  refine SN.then ?_
  refine SW.seq ?_
  refine SW.seq ?_
  refine SW.region ?_
  refine SWl.rd rfl (Rd.move rfl) ?_
  refine SWl.rd rfl (Rd.nilCheck rfl) ?_
  refine SWl.rd rfl (Rd.fieldAddr (n := 0) rfl (by kernel_rfl)) ?_
  refine SWl.rd rfl (Rd.fieldAddr (n := 0) rfl (by kernel_rfl)) ?_
  refine SWl.rd rfl (Rd.loadB 0 rfl rfl rfl (by kernel_rfl) ap_nil) ?_
  refine SWl.rd rfl (Rd.nei rfl rfl) ?_
  refine SWl.nil ?_
  refine SN.then ?_
  refine SW.condF rfl (by decide) ?_
  refine SW.skip ?_
  refine SN.then ?_
  refine SW.seq ?_
  refine SW.vecN 5 1 encB ?_
  refine SW.region ?_
  refine SWl.rd rfl (Rd.move rfl) ?_
  refine SWl.rd rfl (Rd.nilCheck rfl) ?_
  refine SWl.rd rfl (Rd.fieldAddr (n := 1) rfl (by kernel_rfl)) ?_
  refine SWl.rd rfl (Rd.loadB 0 rfl rfl rfl (by kernel_rfl) ap_nil) ?_
  refine SWl.ef (Ef.appT 2 1 1 rfl rfl (SrcT.vec 1 rfl rfl) (by kernel_rfl) (by kernel_rfl) (by simp <;> omega) (by decide) (fun _ h => h) rfl) ?_
  rintro _ ⟨A21, F21, c21, rfl⟩
  refine SWl.rd rfl (Rd.assign rfl) ?_
  refine SWl.rd rfl (Rd.assign rfl) ?_
  refine SWl.nil ?_
  refine SN.then ?_
  refine SW.freezeT 2 2 rfl rfl (le_ls_b _) ?_
  refine SW.retR (fn := Tryd.f57) (()) [0, 1] (fun _ _ h => h) (Rs.two rfl (ResV.tmp rfl) (ResV.tmp rfl)) (by decide) ⟨⟨_, rfl, LeAll.refl _⟩, ⟨⟨_, rfl, LeR.refl _⟩, trivial⟩⟩
end Sx
end Go.Proofs.YtchbgfgboogniaaDoor
