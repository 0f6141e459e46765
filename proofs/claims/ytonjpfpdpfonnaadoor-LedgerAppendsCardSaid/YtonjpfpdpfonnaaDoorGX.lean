/-
  LEDGERS: below.
  LEDGERS: words for entries, nodes, ledgers.
  LEDGERS: entries and digests.
  LEDGERS: push.
  LEDGERS: span.
  LEDGERS: Len, Root, At.
-/
import Derived.Test.YtonjpfpdpfonnaaDoorGT
import Derived.Test.YtonjpfpdpfonnaaDoorGU
import Derived.Test.YtonjpfpdpfonnaaDoorGW
namespace Go.Proofs.YtonjpfpdpfonnaaDoor
open Go.RowKit
namespace Sx
end Sx
end Go.Proofs.YtonjpfpdpfonnaaDoor
namespace Go.Proofs.YtonjpfpdpfonnaaDoor
open Go.RowKit
namespace Sx
abbrev HH : List UInt8 → Led.Dig := Bl.hash []
@[simp] theorem leaf_len (e : Led.Ent) : (Led.leaf HH e).length = 32 := Bl.hash_length _ _
@[simp] theorem join_len (a b : List UInt8) : (Led.join HH a b).length = 32 := Bl.hash_length _ _
@[simp] theorem hh_len (b : List UInt8) : (HH b).length = 32 := Bl.hash_length _ _
@[simp] theorem rootF_len : ∀ (n : Nat) (l : List Led.Ent), (Led.rootF HH n l).length = 32
  | 0, _ => hh_len _
  | _ + 1, [] => hh_len _
  | _ + 1, [_] => leaf_len _
  | _ + 1, _ :: _ :: _ => join_len _ _
@[simp] theorem root_len (l : List Led.Ent) : (Led.root HH l).length = 32 := rootF_len _ _
@[simp] theorem val_len (l : List Led.Ent) (p : Nat × Nat) : (Led.val HH l p).length = 32 := root_len _
@[simp] theorem spn_len (l : List Led.Ent) (a b : Nat) : (Led.spn HH l a b).length = 32 := root_len _
/-- An entry's cells. -/
def encE (e : Led.Ent) : List D := [iD e.kind, bD e.bytes]
instance : Row encE 2 := ⟨fun _ => rfl, fun x => by unfold encE; infer_instance, by decide⟩
/-- A node as a key. -/
def encN (p : Nat × Nat) : Value := .agg #[.int .i64 (p.1 : Int), .int .i64 (p.2 : Int)]
theorem le_key {a b : Int} {p q : Nat} (ha : a = (p : Int)) (hb : b = (q : Int)) : Le (aggD [iD a, iD b]) (isD (encN (p, q))) := fun _ _ _ h => by
  subst ha hb
  exact le_agg_is (vs := [.int .i64 (p : Int), .int .i64 (q : Int)]) _ _ _ h
class IsSl (d : D) : Prop where
  h : ∀ L w v, d.R L w v → ∃ A n c, v = .slice A n c
instance (A : Option Addr) (n c : Nat) : IsSl (isD (.slice A n c)) := ⟨fun _ _ _ h => ⟨A, n, c, h⟩⟩
instance (xs : List Value) : IsSl (slD xs) := ⟨fun _ _ _ ⟨A, c, h, _⟩ => ⟨A, _, c, h⟩⟩
instance (n : Nat) (ds : List D) : IsSl (rwD n ds) := ⟨fun _ _ _ ⟨A, c, h, _⟩ => ⟨A, _, c, h⟩⟩
instance (n : Nat) (d : D) [h : IsSl d] : IsSl (nwD n d) := ⟨fun L w v hv => h.h _ _ _ (le_nw _ _ _ hv)⟩
theorem bldE2 {k : Int} {f : D} [hd : IsSl f] : Bld Tryd.prog 44 [0, 1] [iD k, f] [iD k, f] := fun L w vs hv => by
  obtain ⟨u, v, rfl, rfl, hu⟩ := all2 hv
  obtain ⟨A, n, c, rfl⟩ := hd.h _ _ _ hu
  exact ⟨[.int .i64 k, .slice A n c], ⟨rfl, hu, trivial⟩, fun w' => by kernel_rfl⟩
theorem bldE0 : Bld Tryd.prog 44 [] [] [iD 0, isD (.slice none 0 0)] := fun L w vs h => by
  obtain rfl := all0 h
  exact ⟨[.int .i64 0, .slice none 0 0], ⟨rfl, rfl, trivial⟩, fun w' => by kernel_rfl⟩
theorem bldN2 {a b : Int} : Bld Tryd.prog 100 [0, 1] [iD a, iD b] [iD a, iD b] := fun L w vs hv => by
  obtain ⟨u, v, rfl, rfl, rfl⟩ := all2 hv
  exact ⟨[.int .i64 a, .int .i64 b], ⟨rfl, rfl, trivial⟩, fun w' => by kernel_rfl⟩
theorem bldL0 : Bld Tryd.prog 64 [] [] [isD (.slice none 0 0), isD (.map none)] := fun L w vs h => by
  obtain rfl := all0 h
  exact ⟨[.slice none 0 0, .map none], ⟨rfl, rfl, trivial⟩, fun w' => by kernel_rfl⟩
theorem blsB1 (a : UInt8) : Bls Tryd.prog 28 1 [0] [isD (B8 a)] ([a].flatMap encB) := ⟨5, fun L w vs hv => by
  obtain ⟨u, rfl, rfl⟩ := all1 hv
  exact ⟨[B8 a], ⟨rfl, trivial⟩, fun w' => by kernel_rfl⟩⟩
theorem blsB2 (a b : UInt8) : Bls Tryd.prog 28 2 [0, 1] [isD (B8 a), isD (B8 b)] ([a, b].flatMap encB) := ⟨5, fun L w vs hv => by
  obtain ⟨u, v, rfl, rfl, rfl⟩ := all2 hv
  exact ⟨[B8 a, B8 b], ⟨rfl, rfl, trivial⟩, fun w' => by kernel_rfl⟩⟩
theorem wrap_b8 {k : Int} (h0 : 0 ≤ k) (h1 : k ≤ 255) : IntKind.u8.wrap k = ((UInt8.ofNat k.toNat).toNat : Int) := by
  rw [wrap_u8 h0 (by omega)]
  simp
  omega
theorem node_eq (a b : Nat × Nat) (w : World) : (Op.equal 100 (encN a) (encN b)).run Tryd.prog w = .ok (decide (a = b)) w := by
  obtain ⟨a1, a2⟩ := a
  obtain ⟨b1, b2⟩ := b
  have u3 := Tryd.underlying3
  have a3 := Tryd.isAgg3
  have z3 := Tryd.sizeOf3
  have h1 : Tryd.prog.underlying 100 = some (.struct (Tryd.prog.fieldsOf 100)) := by kernel_rfl
  have e : (Op.equal 100 (encN (a1, a2)) (encN (b1, b2))).run Tryd.prog w = .ok ((a1 : Int) == (b1 : Int) && (a2 : Int) == (b2 : Int)) w := by
    unfold Op.equal encN
    rw [show Op.maxDepth = 9999 + 1 from rfl, run_equalIn_struct (P := Tryd.prog) w 9999 100 _ _ h1 (by kernel_rfl)]
    simp only [Program.fieldsOf, Tryd.underlying100]
    go_simp
    by_cases h1 : (a1 : Int) = (b1 : Int) <;> by_cases h2 : (a2 : Int) = (b2 : Int) <;> simp [h1, h2]
  have e2 : ((a1 : Int) == (b1 : Int) && (a2 : Int) == (b2 : Int)) = decide ((a1, a2) = (b1, b2)) := by
    rw [Bool.eq_iff_iff]
    simp
    omega
  rw [e, e2]
theorem node_chk' (n : Nat) (k : Nat × Nat) (e : Bool) (w : World) : (Instr.checkKey e (n + 1 + 1) 100 (encN k)).run Tryd.prog w = .ok () w := by
  have u3 := Tryd.underlying3
  have a3 := Tryd.isAgg3
  have z3 := Tryd.sizeOf3
  unfold Instr.checkKey encN
  simp only [Sem.run_bind, run_underlying Tryd.underlying100, Result.andThen_ok]
  simp only [Instr.checkKey]
  go_simp
theorem node_chk (k : Nat × Nat) (e : Bool) (w : World) : (Instr.checkKey e 10000 100 (encN k)).run Tryd.prog w = .ok () w := node_chk' 9998 k e w
theorem node_bits (n : Nat) (k : Nat × Nat) : Instr.sameBits (n + 1) (encN k) (encN k) = true := by simp [encN, Instr.sameBits]
theorem keyN (p : Nat × Nat) (ks : List (Nat × Nat)) : KeyOk Tryd.prog 100 encN p ks :=
  keyOk_wide (by kernel_rfl) node_eq node_chk (node_bits 9999) p ks
theorem con_sumN (b : List UInt8) (hb : b.length ≤ 2305843009213693952) : ConN Tryd.prog 63 [bD b] (gD (HH b)) :=
  ⟨(con_sum b hb).en, fun L w vs hL hG ha => ((con_sum b hb).go L w vs hL hG ha).mono fun _ _ ⟨v, hv, hd, ho⟩ => ⟨v, hv, le_nw_is _ _ _ hd, ho⟩⟩
theorem blsE1 (k : Int) (b : List UInt8) : Bls Tryd.prog 22 1 [0] [aggD [iD k, bD b]] ([(⟨k, b⟩ : Led.Ent)].flatMap encE) := ⟨44, fun L w vs hv => by
  obtain ⟨u, rfl, cs, rfl, hc⟩ := all1 hv
  obtain ⟨x, y, rfl, rfl, hy⟩ := all2 hc
  have hy' := hy
  obtain ⟨A, c, rfl, -⟩ := hy
  exact ⟨[.int .i64 k, .slice A _ c], ⟨rfl, hy', trivial⟩, fun w' => by kernel_rfl⟩⟩
/-- Where a ledger's parts lie. -/
structure Lst where
  A : Option Addr
  c : Nat
  F : List Nat
  M : Option Nat
  G : List Nat
abbrev mkeys (es : List Led.Ent) : Nat × Nat → D := fun p => gD (Led.val HH es p)
/-- A ledger with these entries: its block, its entries, its roots. -/
abbrev ledC (g : Nat) (s : Lst) (es : List Led.Ent) : Box := .c g [isD (.slice s.A es.length s.c), isD (.map s.M)]
abbrev ledE (s : Lst) (es : List Led.Ent) : Box := .r s.F (vecT 44 2 encE s.A s.c es)
abbrev ledM (s : Lst) (es : List Led.Ent) : Box := .r s.G (mapF s.M encN (Led.keys es.length) (mkeys es))
/-- A ledger that is known. -/
abbrev ledD (es : List Led.Ent) : D := paD [lsD encE es, mpD encN (Led.keys es.length) (mkeys es)]
theorem le_bool_n {n : Nat} {p q : Bool} (h : p = q) : Le (boolD p) (nwD n (boolD q)) := by subst h; exact le_nw_is
end Sx
end Go.Proofs.YtonjpfpdpfonnaaDoor
namespace Go.Proofs.YtonjpfpdpfonnaaDoor
open Go.RowKit
namespace Sx
set_option maxHeartbeats 4000000 in
set_option maxRecDepth 100000 in
theorem con_below (n : Nat) (h2 : 2 ≤ n) (hn : n ≤ 1000000) : ConN Tryd.prog 40 [iD (n : Int)] (iD (Led.bl n : Int)) := by
  refine con_ofN Tryd.func40 (by kernel_rfl) rfl (by kernel_rfl) fun base w0 => ?_
  refine SW.seq ?_
  refine SW.region ?_
  refine SWl.rd rfl (Rd.assign rfl) ?_
  refine SWl.nil ?_
  refine SN.then ?_
  refine SW.seq ?_
  refine SW.region ?_
  refine SWl.rd rfl (Rd.assign rfl) ?_
  refine SWl.nil ?_
  refine SN.then ?_
  refine SW.seq ?_
  refine SW.block ?_
  refine SW.loop (ι := {i : Nat // 2 ^ i < n}) (fun i => St.ob [(0, iD (n : Int)), (3, iD ((2 ^ i.1 : Nat) : Int))] []) (fun i => n - 2 ^ i.1) (⟨0, by rw [Nat.pow_zero]; omega⟩) ?_ ?_
  · exact ⟨⟨_, rfl, ⟨⟨_, rfl, Le.refl _⟩, ⟨⟨_, rfl, Le.refl _⟩, trivial⟩⟩⟩, [], by decide, trivial⟩
  · rintro ⟨i, hi⟩ K0 hK0
    dsimp only
    have hp : 0 < 2 ^ i := Nat.pow_pos (by decide)
    refine SW.seq ?_
    refine SW.seq ?_
    refine SW.region ?_
    refine SWl.rd rfl (Rd.move rfl) ?_
    refine SWl.rd rfl (Rd.mul rfl rfl ⟨by omega, by omega⟩) ?_
    refine SWl.rd rfl (Rd.move rfl) ?_
    refine SWl.rd rfl (Rd.lss rfl rfl) ?_
    refine SWl.nil ?_
    refine SN.then ?_
    refine SW.cond rfl (fun hb7 => ?_) (fun hb7 => ?_)
    · have hb7 := of_decide_eq_true hb7
      refine SW.skip ?_
      refine SN.then ?_
      refine SW.block ?_
      refine SW.region ?_
      refine SWl.rd rfl (Rd.move rfl) ?_
      refine SWl.rd rfl (Rd.mul rfl rfl ⟨by omega, by omega⟩) ?_
      refine SWl.rd rfl (Rd.assign rfl) ?_
      refine SWl.nil ?_
      refine SN.block ?_
      exact fun a w hh => hK0 (⟨i + 1, by rw [Nat.pow_succ]; omega⟩) (by simp only; rw [Nat.pow_succ]; omega) a w (hh.sub (⟨⟨_, rfl, ⟨⟨_, rfl, Le.refl _⟩, ⟨⟨_, rfl, Le.is (by rw [Nat.pow_succ]; simp)⟩, trivial⟩⟩⟩, [], by decide, trivial⟩))
    · have hb7 := of_decide_eq_false hb7
      refine SW.exit' ?_
      repeat (first | refine SE.then ?_ | refine SE.skip (by decide) ?_)
      refine SE.here ?_
      refine SN.then ?_
      refine SW.seq ?_
      refine SW.region ?_
      refine SWl.rd rfl (Rd.move rfl) ?_
      refine SWl.rd rfl (Rd.assign rfl) ?_
      refine SWl.nil ?_
      refine SN.then ?_
      refine SW.ret (fn := Tryd.f40) (fun _ _ h => h) (Rs.le (Rs.one rfl (ResV.tmp rfl)) ?_)
      exact Le.trans (Le.is (by rw [Led.bl_uniq (i := i) hi (by omega)])) le_nw_is
set_option maxHeartbeats 4000000 in
set_option maxRecDepth 100000 in
theorem con_valid (k : Int) (n : Nat) : ConN Tryd.prog 49 [aggD [iD k, lenD n]] (boolD (decide (0 ≤ k ∧ k ≤ 255 ∧ n ≤ 65536))) := by
  refine con_ofN Tryd.func49 (by kernel_rfl) rfl (by kernel_rfl) fun base w0 => ?_
  refine SW.seq ?_
  refine SW.region ?_
  refine SWl.ef (S := []) (Ef.boxA rfl rfl) ?_
  rintro _ ⟨g1, rfl⟩
  refine SWl.rd rfl (Rd.assign rfl) ?_
  refine SWl.nil ?_
  refine SN.then ?_
  refine SW.seq ?_
  refine SW.region ?_
  refine SWl.rd rfl (Rd.fieldAddr (n := 0) rfl (by kernel_rfl)) ?_
  refine SWl.rd rfl (Rd.loadB 0 rfl rfl rfl (by kernel_rfl) ap_nil) ?_
  refine SWl.rd rfl (Rd.geq rfl rfl) ?_
  refine SWl.rd rfl (Rd.move rfl) ?_
  refine SWl.split 6 rfl (fun hb6 => ?_) (fun hb6 => ?_)
  · skip
    refine SWl.rdg rfl rfl (hb6) rfl rfl (Rd.fieldAddr (n := 0) rfl (by kernel_rfl)) ?_
    refine SWl.rdg rfl rfl (hb6) rfl rfl (Rd.loadB 0 rfl rfl rfl (by kernel_rfl) ap_nil) ?_
    refine SWl.rdg rfl rfl (hb6) rfl rfl (Rd.leq rfl rfl) ?_
    refine SWl.rd rfl (Rd.pickY rfl (hb6) rfl) ?_
    refine SWl.rd rfl (Rd.move rfl) ?_
    refine SWl.split 11 rfl (fun hb11 => ?_) (fun hb11 => ?_)
    · skip
      refine SWl.rdg rfl rfl (hb11) rfl rfl (Rd.fieldAddr (n := 1) rfl (by kernel_rfl)) ?_
      refine SWl.rdg rfl rfl (hb11) rfl rfl (Rd.loadB 0 rfl rfl rfl (by kernel_rfl) ap_nil) ?_
      refine SWl.rdg rfl rfl (hb11) rfl rfl (Rd.lenN (e := 5) rfl (by kernel_rfl)) ?_
      refine SWl.rdg rfl rfl (hb11) rfl rfl (Rd.leq rfl rfl) ?_
      refine SWl.rd rfl (Rd.pickY rfl (hb11) rfl) ?_
      refine SWl.rd rfl (Rd.assign rfl) ?_
      refine SWl.nil ?_
      refine SN.then ?_
      refine SW.ret (fn := Tryd.f49) (fun _ _ h => h) (Rs.le (Rs.one rfl (ResV.tmp rfl)) ?_)
      exact le_bool_n (by rw [Bool.eq_iff_iff]; simp at *; omega)
    · skip
      refine SWl.off rfl rfl (hb11) rfl rfl ?_
      refine SWl.off rfl rfl (hb11) rfl rfl ?_
      refine SWl.off rfl rfl (hb11) rfl rfl ?_
      refine SWl.off rfl rfl (hb11) rfl rfl ?_
      refine SWl.rd rfl (Rd.pickN rfl (hb11) rfl) ?_
      refine SWl.rd rfl (Rd.assign rfl) ?_
      refine SWl.nil ?_
      refine SN.then ?_
      refine SW.ret (fn := Tryd.f49) (fun _ _ h => h) (Rs.le (Rs.one rfl (ResV.tmp rfl)) ?_)
      exact le_bool_n (by rw [Bool.eq_iff_iff]; simp at *; omega)
  · skip
    refine SWl.off rfl rfl (hb6) rfl rfl ?_
    refine SWl.off rfl rfl (hb6) rfl rfl ?_
    refine SWl.off rfl rfl (hb6) rfl rfl ?_
    refine SWl.rd rfl (Rd.pickN rfl (hb6) rfl) ?_
    refine SWl.rd rfl (Rd.move rfl) ?_
    refine SWl.off rfl rfl (rfl) rfl rfl ?_
    refine SWl.off rfl rfl (rfl) rfl rfl ?_
    refine SWl.off rfl rfl (rfl) rfl rfl ?_
    refine SWl.off rfl rfl (rfl) rfl rfl ?_
    refine SWl.rd rfl (Rd.pickN rfl (rfl) rfl) ?_
    refine SWl.rd rfl (Rd.assign rfl) ?_
    refine SWl.nil ?_
    refine SN.then ?_
    refine SW.ret (fn := Tryd.f49) (fun _ _ h => h) (Rs.le (Rs.one rfl (ResV.tmp rfl)) ?_)
    exact le_bool_n (by rw [Bool.eq_iff_iff]; simp at *; omega)
set_option maxHeartbeats 4000000 in
set_option maxRecDepth 100000 in
theorem con_cloneB (b : List UInt8) (hb : b.length ≤ 1000000) : ConN Tryd.prog 37 [bD b] (bD b) := by
  refine con_ofN Tryd.func37 (by kernel_rfl) rfl (by kernel_rfl) fun base w0 => ?_
  refine SW.seq ?_
  refine SW.lookB 0 rfl fun A c => ?_
  refine SW.region ?_
  refine SWl.rd rfl (Rd.assign rfl) ?_
  refine SWl.nil ?_
  refine SN.then ?_
  refine SW.seq ?_
  refine SW.seq ?_
  refine SW.region ?_
  refine SWl.rd rfl (Rd.move rfl) ?_
  refine SWl.rd rfl (Rd.eqN (e := 5) rfl rfl (by kernel_rfl)) ?_
  refine SWl.nil ?_
  refine SN.then ?_
  refine SW.cond rfl (fun hb4 => ?_) (fun hb4 => ?_)
  · refine SW.viewN 0 rfl hb4 fun hnil => ?_
    refine SW.seq ?_
    refine SW.region ?_
    refine SWl.rd rfl (Rd.assign rfl) ?_
    refine SWl.nil ?_
    refine SN.then ?_
    refine SW.ret (fn := Tryd.f37) (fun _ _ h => h) (Rs.le (Rs.one rfl (ResV.tmp rfl)) ?_)
    subst hnil
    exact Le.trans (le_nw_is (x := .slice none 0 0)) (le_nw_mono (Nat.le_refl _) Le.nil_sl)
  · skip
    refine SW.skip ?_
    refine SN.then ?_
    refine SW.seq ?_
    refine SW.region ?_
    refine SWl.ef (S := []) (Ef.lit0 (e := 5) encB 1 1 (by kernel_rfl) (by kernel_rfl) rfl) ?_
    rintro _ ⟨g5, rfl⟩
    refine SWl.rd rfl (Rd.move rfl) ?_
    refine SWl.ef (Ef.appT 1 1 1 rfl rfl (SrcT.view 0 rfl rfl) (by kernel_rfl) (by kernel_rfl) (by simp <;> omega) (by decide) (fun _ h => h) rfl) ?_
    rintro _ ⟨A7, F7, c7, rfl⟩
    refine SWl.rd rfl (Rd.assign rfl) ?_
    refine SWl.nil ?_
    refine SN.then ?_
    refine SW.freezeNB 1 2 rfl rfl rfl ?_
    refine SW.ret (fn := Tryd.f37) (fun _ _ h => h) (Rs.le (Rs.one rfl (ResV.tmp rfl)) ?_)
    exact Le.refl _
set_option maxHeartbeats 4000000 in
set_option maxRecDepth 100000 in
theorem con_clone (k : Int) (b : List UInt8) (hb : b.length ≤ 1000000) : ConN Tryd.prog 47 [aggD [iD k, bD b]] (aggD [iD k, bD b]) := by
  refine con_ofN Tryd.func47 (by kernel_rfl) rfl (by kernel_rfl) fun base w0 => ?_
  refine SW.seq ?_
  refine SW.region ?_
  refine SWl.ef (S := []) (Ef.boxA rfl rfl) ?_
  rintro _ ⟨g1, rfl⟩
  refine SWl.ef (S := []) (Ef.alloc (zs := [.int .i64 0, .slice none 0 0]) (by kernel_rfl) rfl) ?_
  rintro _ ⟨g2, rfl⟩
  refine SWl.nil ?_
  refine SN.then ?_
  refine SW.seq ?_
  refine SW.draw (g2 :: []) (.r 0 (.r 1 (.r 2 (.r 3 (.n 4 (.r 5 (.e 6 .fin .no)) .no))))) (by kernel_rfl) (by kernel_rfl) (fun d _ _ _ _ h => by cases d <;> exact h) ?_
  refine SWz.rd (i := 0) rfl rfl (Rd.fieldAddr (n := 0) rfl (by kernel_rfl)) ?_
  refine SWz.rd (i := 1) rfl rfl (Rd.loadB 0 rfl rfl rfl (by kernel_rfl) (ap_cons 1 rfl (by decide) ap_nil)) ?_
  refine SWz.rd (i := 2) rfl rfl (Rd.fieldAddr (n := 1) rfl (by kernel_rfl)) ?_
  refine SWz.rd (i := 3) rfl rfl (Rd.loadB 0 rfl rfl rfl (by kernel_rfl) (ap_cons 1 rfl (by decide) ap_nil)) ?_
  refine SWz.efn (i := 4) rfl (Ef.callNN [] (con_cloneB _ hb) rfl ⟨(sees_le (Le.refl _)), trivial⟩ rfl) ?_ SWz.no
  rintro _ rfl
  refine SWz.rd (i := 5) rfl rfl (Rd.build rfl rfl bldE2) ?_
  refine SWz.efe (i := 6) rfl (Ef.storeA 1 rfl rfl rfl (by kernel_rfl) rfl (List.mem_cons_self)) ?_ SWz.no
  rintro _ rfl
  refine SWz.nil ?_
  refine SN.then ?_
  refine SW.ret (fn := Tryd.f47) (fun _ _ h => h) (Rs.le (Rs.one rfl (ResV.cellA 1 rfl rfl (by kernel_rfl))) ?_)
  exact (le_nw_agg ⟨le_nw_is, (Le.refl _), trivial⟩)
set_option maxHeartbeats 4000000 in
set_option maxRecDepth 100000 in
theorem con_leaf (k : Int) (b : List UInt8) (hb : b.length ≤ 1000000) (hk : 0 ≤ k ∧ k ≤ 255) : ConN Tryd.prog 57 [aggD [iD k, bD b]] (gD (Led.leaf HH ⟨k, b⟩)) := by
  refine con_ofN Tryd.func57 (by kernel_rfl) rfl (by kernel_rfl) fun base w0 => ?_
  refine SW.seq ?_
  refine SW.region ?_
  refine SWl.ef (S := []) (Ef.boxA rfl rfl) ?_
  rintro _ ⟨g1, rfl⟩
  refine SWl.ef (S := []) (Ef.alloc (zs := cellsOf (List.replicate 32 0)) (by kernel_rfl) rfl) ?_
  rintro _ ⟨g2, rfl⟩
  refine SWl.nil ?_
  refine SN.then ?_
  refine SW.seq ?_
  refine SW.region ?_
  refine SWl.rd rfl (Rd.fieldAddr (n := 1) rfl (by kernel_rfl)) ?_
  refine SWl.rd rfl (Rd.loadB 0 rfl rfl rfl (by kernel_rfl) ap_nil) ?_
  refine SWl.rd rfl (Rd.len (e := 5) rfl (by kernel_rfl)) ?_
  refine SWl.rd rfl (Rd.add rfl rfl ⟨by simp; omega, by simp; omega⟩) ?_
  refine SWl.ef (S := []) (Ef.makeT (e := 5) (c := 2 + b.length) encB 1 1 rfl rfl (by kernel_rfl) (by kernel_rfl) (by simp) (by omega) (by decide) rfl) ?_
  rintro _ ⟨g8, rfl⟩
  refine SWl.rd rfl (Rd.assign rfl) ?_
  refine SWl.nil ?_
  refine SN.then ?_
  refine SW.seq ?_
  refine SW.region ?_
  refine SWl.rd rfl (Rd.move rfl) ?_
  refine SWl.rd rfl (Rd.fieldAddr (n := 0) rfl (by kernel_rfl)) ?_
  refine SWl.rd rfl (Rd.loadB 0 rfl rfl rfl (by kernel_rfl) ap_nil) ?_
  refine SWl.rd rfl (Rd.cvW .i64 rfl (by kernel_rfl) (by kernel_rfl) (wrap_b8 hk.1 hk.2)) ?_
  refine SWl.ef (S := []) (Ef.litR rfl rfl (blsB2 0 (UInt8.ofNat k.toNat)) rfl) ?_
  rintro _ rfl
  refine SWl.ef (Ef.appT 2 1 1 rfl rfl (SrcT.ls (l := [_, _]) rfl) (by kernel_rfl) (by kernel_rfl) (by simp <;> omega) (by decide) (fun _ h => h) rfl) ?_
  rintro _ ⟨A14, F14, c14, rfl⟩
  refine SWl.rd rfl (Rd.assign rfl) ?_
  refine SWl.nil ?_
  refine SN.then ?_
  refine SW.seq ?_
  refine SW.region ?_
  refine SWl.rd rfl (Rd.move rfl) ?_
  refine SWl.rd rfl (Rd.fieldAddr (n := 1) rfl (by kernel_rfl)) ?_
  refine SWl.rd rfl (Rd.loadB 0 rfl rfl rfl (by kernel_rfl) ap_nil) ?_
  refine SWl.ef (Ef.appT 2 1 1 rfl rfl (SrcT.b rfl) (by kernel_rfl) (by kernel_rfl) (by simp <;> omega) (by decide) (fun _ h => h) rfl) ?_
  rintro _ ⟨A18, F18, c18, rfl⟩
  refine SWl.freezeT 2 18 rfl rfl (le_ls_b _) ?_
  refine SWl.ef (S := []) (Ef.callN [] ((con_sumN _ (by simp <;> omega))) rfl ⟨(sees_le (Le.refl _)), trivial⟩ rfl) ?_
  rintro _ rfl
  refine SWl.ef (S := [_]) (Ef.storeG 1 32 rfl rfl rfl (by kernel_rfl) (by first | assumption | simp) (by first | assumption | simp) (List.mem_singleton.2 rfl)) ?_
  rintro _ rfl
  refine SWl.nil ?_
  refine SN.then ?_
  refine SW.ret (fn := Tryd.f57) (fun _ _ h => h) (Rs.le (Rs.one rfl (ResV.cellG (n := 32) 1 rfl rfl (by kernel_rfl) (by first | assumption | simp))) ?_)
  exact (Le.trans (le_agg_g _) le_nw_is)
set_option maxHeartbeats 4000000 in
set_option maxRecDepth 100000 in
theorem con_join (a b : List UInt8) (ha : a.length = 32) (hb : b.length = 32) : ConN Tryd.prog 58 [gD a, gD b] (gD (Led.join HH a b)) := by
  refine con_ofN Tryd.func58 (by kernel_rfl) rfl (by kernel_rfl) fun base w0 => ?_
  refine SW.seq ?_
  refine SW.region ?_
  refine SWl.ef (S := []) (Ef.boxL rfl (le_g_agg _) rfl) ?_
  rintro _ ⟨g2, rfl⟩
  refine SWl.ef (S := []) (Ef.boxL rfl (le_g_agg _) rfl) ?_
  rintro _ ⟨g3, rfl⟩
  refine SWl.ef (S := []) (Ef.alloc (zs := cellsOf (List.replicate 32 0)) (by kernel_rfl) rfl) ?_
  rintro _ ⟨g4, rfl⟩
  refine SWl.nil ?_
  refine SN.then ?_
  refine SW.seq ?_
  refine SW.region ?_
  refine SWl.ef (S := []) (Ef.makeT (e := 5) (c := 65) encB 1 1 rfl rfl (by kernel_rfl) (by kernel_rfl) rfl (by omega) (by decide) rfl) ?_
  rintro _ ⟨g6, rfl⟩
  refine SWl.rd rfl (Rd.assign rfl) ?_
  refine SWl.nil ?_
  refine SN.then ?_
  refine SW.seq ?_
  refine SW.region ?_
  refine SWl.rd rfl (Rd.move rfl) ?_
  refine SWl.ef (S := []) (Ef.litR rfl rfl (blsB1 1) rfl) ?_
  rintro _ rfl
  refine SWl.ef (Ef.appT 3 1 1 rfl rfl (SrcT.ls (l := [_]) rfl) (by kernel_rfl) (by kernel_rfl) (by simp <;> omega) (by decide) (fun _ h => h) rfl) ?_
  rintro _ ⟨A9, F9, c9, rfl⟩
  refine SWl.rd rfl (Rd.assign rfl) ?_
  refine SWl.nil ?_
  refine SN.then ?_
  refine SW.seq ?_
  refine SW.region ?_
  refine SWl.rd rfl (Rd.move rfl) ?_
  refine SWl.rd rfl (Rd.slArr (e := 5) (n := 32) rfl (by kernel_rfl) (by kernel_rfl)) ?_
  refine SWl.ef (Ef.appT 3 1 1 rfl rfl (SrcT.box 0 rfl rfl (by first | assumption | simp)) (by kernel_rfl) (by kernel_rfl) (by simp <;> omega) (by decide) (fun _ h => h) rfl) ?_
  rintro _ ⟨A12, F12, c12, rfl⟩
  refine SWl.rd rfl (Rd.assign rfl) ?_
  refine SWl.nil ?_
  refine SN.then ?_
  refine SW.seq ?_
  refine SW.region ?_
  refine SWl.rd rfl (Rd.move rfl) ?_
  refine SWl.rd rfl (Rd.slArr (e := 5) (n := 32) rfl (by kernel_rfl) (by kernel_rfl)) ?_
  refine SWl.ef (Ef.appT 3 1 1 rfl rfl (SrcT.box 1 rfl rfl (by first | assumption | simp)) (by kernel_rfl) (by kernel_rfl) (by simp <;> omega) (by decide) (fun _ h => h) rfl) ?_
  rintro _ ⟨A15, F15, c15, rfl⟩
  refine SWl.freezeT 3 15 rfl rfl (le_ls_b _) ?_
  refine SWl.ef (S := []) (Ef.callN [] ((con_sumN _ (by simp <;> omega))) rfl ⟨(sees_le (Le.refl _)), trivial⟩ rfl) ?_
  rintro _ rfl
  refine SWl.ef (S := [_]) (Ef.storeG 2 32 rfl rfl rfl (by kernel_rfl) (by first | assumption | simp) (by first | assumption | simp) (List.mem_singleton.2 rfl)) ?_
  rintro _ rfl
  refine SWl.nil ?_
  refine SN.then ?_
  refine SW.ret (fn := Tryd.f58) (fun _ _ h => h) (Rs.le (Rs.one rfl (ResV.cellG (n := 32) 2 rfl rfl (by kernel_rfl) (by first | assumption | simp))) ?_)
  exact (Le.trans (le_agg_g _) le_nw_is)
end Sx
end Go.Proofs.YtonjpfpdpfonnaaDoor
namespace Go.Proofs.YtonjpfpdpfonnaaDoor
open Go.RowKit
namespace Sx
theorem SW.mapNil {P : Program} {Γ : Cx} {σ : St} {Q : Exit → Act → World → Prop} {c : Code} {κ : Type} {enc : κ → Value} {M : Option Nat} {ks : List κ} {ds : List D} {F : List Nat} (j : Nat) (hj : σ.bx[j]? = some (.r F (mapR M enc ks ds))) (hM : M = none) (h : ks = [] → SW P Γ σ c Q) : SW P Γ σ c Q := fun a w hh => by
  refine h ?_ a w hh
  obtain ⟨es, hm, hk, _⟩ := hh.resAt hj
  rcases hm with ⟨_, h2, _⟩ | ⟨g, ck, h2, _⟩
  · subst h2
    simpa using hk.symm
  · rw [hM] at h2; cases h2
/-- While the subtrees are completed. -/
def PInv (n sz j : Nat) (ks : List (Nat × Nat)) : Prop := (∃ r, sz = 2 ^ r) ∧ (j + 1) * sz = n + 1 ∧ ks ++ (Led.up sz j).tail = Led.keys (n + 1) ∧ (∀ p ∈ ks, (p.2 + 1) * p.1 ≤ n ∨ p.1 ≤ sz) ∧ ∀ p ∈ Led.keys n, p ∈ ks
theorem PInv.start (n : Nat) : PInv n 1 n (Led.keys n ++ [(1, n)]) := by
  refine ⟨⟨0, rfl⟩, by simp, ?_, fun p hp => ?_, fun p hp => List.mem_append_left _ hp⟩
  · show _ = Led.keys n ++ Led.up 1 n
    rw [Led.up]
    simp
  · rcases List.mem_append.1 hp with hp | hp
    · exact .inl (Led.mem_keys hp).1
    · simp at hp; subst hp; exact .inr (by simp)
theorem PInv.step {n sz j : Nat} {ks : List (Nat × Nat)} (h : PInv n sz j ks) (hj : j % 2 = 1) : PInv n (2 * sz) (j / 2) (ks ++ [(2 * sz, j / 2)]) := by
  obtain ⟨⟨r, hr⟩, h2, h3, h4, h5⟩ := h
  refine ⟨⟨r + 1, by rw [hr, Nat.pow_succ]; omega⟩, ?_, ?_, fun p hp => ?_, fun p hp => List.mem_append_left _ (h5 p hp)⟩
  · have : (j / 2 + 1) * (2 * sz) = (j + 1) * sz := by
      have e : j = 2 * (j / 2) + 1 := by omega
      generalize j / 2 = q at *
      subst e
      rw [← Nat.mul_assoc]
      congr 1
      omega
    omega
  · rw [← h3, Led.up_odd hj]
    rw [Led.up]
    simp
  · rcases List.mem_append.1 hp with hp | hp
    · rcases h4 p hp with h | h
      · exact .inl h
      · exact .inr (by omega)
    · simp at hp; subst hp; exact .inr (Nat.le_refl _)
theorem PInv.fin {n sz j : Nat} {ks : List (Nat × Nat)} (h : PInv n sz j ks) (hj : ¬ j % 2 = 1) : ks = Led.keys (n + 1) := by
  have := h.2.2.1
  rw [Led.up_even hj] at this
  simpa using this
theorem PInv.pos {n sz j : Nat} {ks : List (Nat × Nat)} (h : PInv n sz j ks) : 0 < sz := by
  obtain ⟨⟨r, hr⟩, _⟩ := h
  rw [hr]
  exact Nat.pow_pos (by decide)
theorem PInv.le {n sz j : Nat} {ks : List (Nat × Nat)} (h : PInv n sz j ks) : sz ≤ n + 1 ∧ j ≤ n := by
  have h0 := h.pos
  have h2 := h.2.1
  constructor
  · rw [← h2]; exact Nat.le_mul_of_pos_left _ (by omega)
  · have : j + 1 ≤ (j + 1) * sz := Nat.le_mul_of_pos_right _ h0
    omega
theorem PInv.left {n sz j : Nat} {ks : List (Nat × Nat)} (h : PInv n sz j ks) (hj : j % 2 = 1) : (sz, j - 1) ∈ ks := by
  have h0 := h.pos
  obtain ⟨⟨r, hr⟩, h2, _, _, h5⟩ := h
  refine h5 _ ?_
  subst hr
  refine Led.keys_mem ?_
  have : (j - 1 + 1) * 2 ^ r + 2 ^ r = (j + 1) * 2 ^ r := by
    rw [← Nat.succ_mul]
    congr 1
    omega
  omega
theorem PInv.new {n sz j : Nat} {ks : List (Nat × Nat)} (h : PInv n sz j ks) (hj : j % 2 = 1) : (2 * sz, j / 2) ∉ ks := by
  have h0 := h.pos
  have h1 := (h.step hj).2.1
  exact Led.up_new (n := n) (fun p hp => by
    rcases h.2.2.2.1 p hp with h | h
    · exact .inl h
    · exact .inr (by omega)) h1
theorem new_one {n : Nat} : (1, n) ∉ Led.keys n := fun h => by
  have := (Led.mem_keys h).1
  simp at this
  omega
theorem PInv.join {n sz j : Nat} {ks : List (Nat × Nat)} {es' : List Led.Ent} (h : PInv n sz j ks) (hj : j % 2 = 1) (hl : es'.length = n + 1) : Led.join HH (Led.val HH es' (sz, j - 1)) (Led.val HH es' (sz, j)) = Led.val HH es' (2 * sz, j / 2) := by
  obtain ⟨⟨r, hr⟩, h2, _⟩ := h
  subst hr
  rw [Led.val_join HH hj (by omega)]
theorem mkeys_app (es : List Led.Ent) (e : Led.Ent) : (Led.keys es.length).map (mkeys es) = (Led.keys es.length).map (mkeys (es ++ [e])) := by
  have h := congrArg (List.map gD) (Led.val_keys HH es e)
  simp only [List.map_map] at h
  exact h.symm
theorem mod_ne_one {low n : Nat} (h : ¬ ((low : Int) % (n : Int) = 0)) : n ≠ 1 := fun e => by subst e; simp at h
set_option maxHeartbeats 4000000 in
set_option maxRecDepth 100000 in
theorem con_push0 (gl : Nat) (sA : Option Addr) (sc : Nat) (sF sG : List Nat) (es es' : List Led.Ent) (k : Int) (b : List UInt8) (A : Option Addr) (c : Nat) (F : List Nat) (R : Res) (hR : IsView R (.slice A b.length c) (cellsOf b)) (hb : b.length ≤ 1000000) (hk : 0 ≤ k ∧ k ≤ 255) (hn : es.length ≤ 100000) (he : es' = es ++ [⟨k, b⟩]) : ConR Tryd.prog 50 [.c gl [isD (.slice sA es.length sc), isD (.map none)], ledE ⟨sA, sc, sF, none, sG⟩ es, ledM ⟨sA, sc, sF, none, sG⟩ es, .r F R] [isD (.pointer (some ⟨gl, 0, none⟩)), aggD [iD k, isD (.slice A b.length c)]] (fun s : Lst => [.c gl [isD (.slice s.A (es').length s.c), isD (.map s.M)], ledE s es', ledM s es', .r F R]) (fun s : Lst => isD (.tuple #[])) := by
  have hl : es'.length = es.length + 1 := by rw [he]; simp
  refine con_ofR Tryd.func50 (by kernel_rfl) rfl (by kernel_rfl) fun base w0 => ?_
  refine SW.seq ?_
  refine SW.mapNil 2 rfl rfl fun hk0 => ?_
  refine SW.region ?_
  refine SWl.ef (S := []) (Ef.boxA rfl rfl) ?_
  rintro _ ⟨g3, rfl⟩
  refine SWl.nil ?_
  refine SN.then ?_
  refine SW.seq ?_
  refine SW.region ?_
  refine SWl.rd rfl (Rd.move rfl) ?_
  refine SWl.rd rfl (Rd.nilCheck rfl) ?_
  refine SWl.rd rfl (Rd.fieldAddr (n := 0) rfl (by kernel_rfl)) ?_
  refine SWl.rd rfl (Rd.loadB 0 rfl rfl rfl (by kernel_rfl) ap_nil) ?_
  refine SWl.rd rfl (Rd.lenE (e := 44) rfl (by kernel_rfl)) ?_
  refine SWl.rd rfl (Rd.assign rfl) ?_
  refine SWl.nil ?_
  refine SN.then ?_
  refine SW.seq ?_
  refine SW.draw (sF ++ (gl :: [])) (.r 0 (.r 1 (.r 2 (.r 3 (.q 4 (.r 5 (.n 6 (.n 7 (.e 8 (.r 9 (.r 10 (.e 11 .fin .no))) .no) .no) .no))))))) (by kernel_rfl) (by kernel_rfl) (fun d _ _ _ _ h => by cases d <;> exact h) ?_
  refine SWz.rd (i := 0) rfl rfl (Rd.move rfl) ?_
  refine SWz.rd (i := 1) rfl rfl (Rd.move rfl) ?_
  refine SWz.rd (i := 2) rfl rfl (Rd.nilCheck rfl) ?_
  refine SWz.rd (i := 3) rfl rfl (Rd.fieldAddr (n := 0) rfl (by kernel_rfl)) ?_
  refine SWz.rq (i := 4) rfl rfl (Rd.loadB 0 rfl rfl rfl (by kernel_rfl) ap_nil) ?_
  refine SWz.rd (i := 5) rfl rfl (Rd.loadA 4 2 rfl rfl (by kernel_rfl) rfl (ap_app 1 rfl (by decide) (ap_cons 0 rfl (by decide) ap_nil))) ?_
  refine SWz.efn (i := 6) rfl (Ef.callN [3] (con_clone _ _ (by first | assumption | omega)) rfl ⟨(sees_agg ⟨(sees_le (Le.refl _)), (sees_view 3 rfl hR (by decide)), trivial⟩), trivial⟩ rfl) ?_ SWz.no
  rintro _ rfl
  refine SWz.efn (i := 7) rfl (Ef.litR rfl rfl (blsE1 k b) rfl) ?_ SWz.no
  rintro _ rfl
  refine SWz.efe (i := 8) rfl (Ef.appT 1 2 32 rfl rfl (SrcT.ls (l := [_]) rfl) (by kernel_rfl) (by kernel_rfl) (by simp <;> omega) (by decide) (fun _ h => List.mem_append_left _ h) rfl) ?_ SWz.no
  rintro _ ⟨A20, F20, c20, rfl⟩
  refine SWz.rd (i := 9) rfl rfl (Rd.nilCheck rfl) ?_
  refine SWz.rd (i := 10) rfl rfl (Rd.fieldAddr (n := 0) rfl (by kernel_rfl)) ?_
  refine SWz.efe (i := 11) rfl (Ef.storeV 0 rfl rfl rfl (by kernel_rfl) rfl ((List.mem_append_right _ List.mem_cons_self))) ?_ SWz.no
  rintro _ rfl
  refine SWz.nil ?_
  refine SN.then ?_
  refine SW.seq ?_
  refine SW.seq ?_
  refine SW.region ?_
  refine SWl.rd rfl (Rd.move rfl) ?_
  refine SWl.rd rfl (Rd.nilCheck rfl) ?_
  refine SWl.rd rfl (Rd.fieldAddr (n := 1) rfl (by kernel_rfl)) ?_
  refine SWl.rd rfl (Rd.loadB 0 rfl rfl rfl (by kernel_rfl) ap_nil) ?_
  refine SWl.rd rfl (Rd.eqM (kt := 100) (et := 79) rfl rfl (by kernel_rfl)) ?_
  refine SWl.nil ?_
  refine SN.then ?_
  refine SW.condT rfl (rfl) ?_
  refine SW.region ?_
  refine SWl.rd rfl (Rd.move rfl) ?_
  refine SWl.ef (S := []) (Ef.makeMapF (enc := encN) (mkeys es') rfl) ?_
  rintro _ ⟨g29, rfl⟩
  refine SWl.rd rfl (Rd.nilCheck rfl) ?_
  refine SWl.rd rfl (Rd.fieldAddr (n := 1) rfl (by kernel_rfl)) ?_
  refine SWl.ef (S := [_]) (Ef.storeV 0 rfl rfl rfl (by kernel_rfl) rfl (List.mem_singleton.2 rfl)) ?_
  rintro _ rfl
  refine SWl.nil ?_
  refine SN.then ?_
  refine SW.seq ?_
  refine SW.region ?_
  refine SWl.rd rfl (Rd.loadA 3 2 rfl rfl (by kernel_rfl) rfl ap_nil) ?_
  refine SWl.ef (S := []) (Ef.callN [2] (con_leaf _ _ (by first | assumption | omega) (by first | assumption | omega)) rfl ⟨(sees_agg ⟨(sees_le (Le.refl _)), (sees_view 2 rfl hR (by decide)), trivial⟩), trivial⟩ rfl) ?_
  rintro _ rfl
  refine SWl.ef (S := []) (Ef.alloc (zs := cellsOf (List.replicate 32 0)) (by kernel_rfl) rfl) ?_
  rintro _ ⟨g5, rfl⟩
  refine SWl.ef (S := [_]) (Ef.storeG 6 32 rfl rfl rfl (by kernel_rfl) (by first | assumption | simp) (by first | assumption | simp) (List.mem_singleton.2 rfl)) ?_
  rintro _ rfl
  refine SWl.nil ?_
  refine SN.then ?_
  refine SW.seq ?_
  refine SW.region ?_
  refine SWl.rd rfl (Rd.move rfl) ?_
  refine SWl.rd rfl (Rd.build rfl rfl bldN2) ?_
  refine SWl.ef (S := []) (Ef.alloc (zs := [.int .i64 0, .int .i64 0]) (by kernel_rfl) rfl) ?_
  rintro _ ⟨g6, rfl⟩
  refine SWl.ef (S := [_]) (Ef.storeA 7 rfl rfl rfl (by kernel_rfl) rfl (List.mem_singleton.2 rfl)) ?_
  rintro _ rfl
  refine SWl.nil ?_
  refine SN.then ?_
  refine SW.seq ?_
  refine SW.sub (σ' := St.ob [(0, isD (.pointer (some ⟨gl, 0, none⟩))), (5, isD (.pointer (some ⟨g5, 0, none⟩))), (6, isD (.pointer (some ⟨g6, 0, none⟩)))] [.c gl [isD (.slice A20 (es').length c20), isD (.map (some g29))], .r F20 (vecT 44 2 encE A20 c20 es'), .r [g29] (mapF (some g29) encN ([]) (mkeys es')), .r F R, .c g5 ((cellsOf (Led.val HH es' (1, es.length))).map isD), .c g6 [iD (1), iD ((es.length : Int))]]) (⟨⟨_, rfl, ⟨⟨_, rfl, Le.refl _⟩, ⟨⟨_, rfl, Le.refl _⟩, ⟨⟨_, rfl, Le.refl _⟩, trivial⟩⟩⟩⟩, [0, 4, 5, 2, 6, 7], by decide, ⟨⟨_, rfl, ⟨Le.is (by rw [he]), Le.refl _, trivial⟩⟩, ⟨⟨_, rfl, leVec (by rw [he]) (by rw [he])⟩, ⟨⟨_, rfl, LeR.refl _⟩, ⟨⟨_, rfl, LeR.refl _⟩, ⟨⟨_, rfl, (by rw [he, Led.val_one]; exact LeAll.refl _)⟩, ⟨⟨_, rfl, LeAll.refl _⟩, trivial⟩⟩⟩⟩⟩⟩⟩) ?_
  refine SW.draw ([g29] ++ []) (.r 0 (.r 1 (.r 2 (.r 3 (.r 4 (.r 5 (.e 6 .fin .no))))))) (by kernel_rfl) (by kernel_rfl) (fun d _ _ _ _ h => by cases d <;> exact h) ?_
  refine SWz.rd (i := 0) rfl rfl (Rd.move rfl) ?_
  refine SWz.rd (i := 1) rfl rfl (Rd.nilCheck rfl) ?_
  refine SWz.rd (i := 2) rfl rfl (Rd.fieldAddr (n := 1) rfl (by kernel_rfl)) ?_
  refine SWz.rd (i := 3) rfl rfl (Rd.loadB 0 rfl rfl rfl (by kernel_rfl) (ap_app 2 rfl (by decide) ap_nil)) ?_
  refine SWz.rd (i := 4) rfl rfl (Rd.loadA 5 2 rfl rfl (by kernel_rfl) rfl (ap_app 2 rfl (by decide) ap_nil)) ?_
  refine SWz.rd (i := 5) rfl rfl (Rd.loadG 4 32 rfl rfl (by kernel_rfl) (by first | assumption | simp) (ap_app 2 rfl (by decide) ap_nil)) ?_
  refine SWz.efe (i := 6) rfl (Ef.mapNewF (kt := 100) (et := 79) 2 rfl rfl rfl (le_key rfl rfl) rfl rfl (by kernel_rfl) (keyN _ _) (by simp) (fun _ h => List.mem_append_left _ h)) ?_ SWz.no
  rintro _ rfl
  refine SWz.nil ?_
  refine SN.then ?_
  refine SW.block ?_
  refine SW.loop (ι := {q : Nat × Nat × List (Nat × Nat) // PInv es.length q.1 q.2.1 q.2.2}) (fun q => St.ob [(0, isD (.pointer (some ⟨gl, 0, none⟩))), (5, isD (.pointer (some ⟨g5, 0, none⟩))), (6, isD (.pointer (some ⟨g6, 0, none⟩)))] [.c gl [isD (.slice A20 (es').length c20), isD (.map (some g29))], .r F20 (vecT 44 2 encE A20 c20 es'), .r [g29] (mapF (some g29) encN (q.1.2.2) (mkeys es')), .r F R, .c g5 ((cellsOf (Led.val HH es' (q.1.1, q.1.2.1))).map isD), .c g6 [iD ((q.1.1 : Int)), iD ((q.1.2.1 : Int))]]) (fun q => q.1.2.1) (⟨(1, es.length, Led.keys es.length ++ [(1, es.length)]), PInv.start _⟩) ?_ ?_
  · exact ⟨⟨_, rfl, ⟨⟨_, rfl, Le.refl _⟩, ⟨⟨_, rfl, Le.refl _⟩, ⟨⟨_, rfl, Le.refl _⟩, trivial⟩⟩⟩⟩, [0, 1, 5, 2, 3, 4], by decide, ⟨⟨_, rfl, LeAll.refl _⟩, ⟨⟨_, rfl, LeR.refl _⟩, ⟨⟨_, rfl, leMap (by dsimp only; rw [hk0]) (by dsimp only; rw [hk0])⟩, ⟨⟨_, rfl, LeR.refl _⟩, ⟨⟨_, rfl, LeAll.refl _⟩, ⟨⟨_, rfl, LeAll.refl _⟩, trivial⟩⟩⟩⟩⟩⟩⟩
  · rintro ⟨⟨sz, j, ks⟩, hI⟩ K0 hK0
    dsimp only at hI ⊢
    refine SW.seq ?_
    refine SW.seq ?_
    refine SW.region ?_
    refine SWl.rd rfl (Rd.fieldAddr (n := 1) rfl (by kernel_rfl)) ?_
    refine SWl.rd rfl (Rd.loadB 5 rfl rfl rfl (by kernel_rfl) ap_nil) ?_
    refine SWl.rd rfl (Rd.remN rfl rfl ⟨by omega, by omega⟩) ?_
    refine SWl.rd rfl (Rd.eqi rfl rfl) ?_
    refine SWl.nil ?_
    refine SN.then ?_
    refine SW.cond rfl (fun hb45 => ?_) (fun hb45 => ?_)
    · have hb45 : j % 2 = 1 := by have := of_decide_eq_true hb45; omega
      refine SW.skip ?_
      refine SN.then ?_
      refine SW.block ?_
      refine SW.seq ?_
      refine SW.draw (g5 :: []) (.r 0 (.r 1 (.r 2 (.r 3 (.r 4 (.r 5 (.r 6 (.r 7 (.r 8 (.r 9 (.r 10 (.q 11 (.n 12 (.e 13 .fin .no) .no))))))))))))) (by kernel_rfl) (by kernel_rfl) (fun d _ _ _ _ h => by cases d <;> exact h) ?_
      refine SWz.rd (i := 0) rfl rfl (Rd.move rfl) ?_
      refine SWz.rd (i := 1) rfl rfl (Rd.nilCheck rfl) ?_
      refine SWz.rd (i := 2) rfl rfl (Rd.fieldAddr (n := 1) rfl (by kernel_rfl)) ?_
      refine SWz.rd (i := 3) rfl rfl (Rd.loadB 0 rfl rfl rfl (by kernel_rfl) (ap_cons 4 rfl (by decide) ap_nil)) ?_
      refine SWz.rd (i := 4) rfl rfl (Rd.fieldAddr (n := 0) rfl (by kernel_rfl)) ?_
      refine SWz.rd (i := 5) rfl rfl (Rd.loadB 5 rfl rfl rfl (by kernel_rfl) (ap_cons 4 rfl (by decide) ap_nil)) ?_
      refine SWz.rd (i := 6) rfl rfl (Rd.fieldAddr (n := 1) rfl (by kernel_rfl)) ?_
      refine SWz.rd (i := 7) rfl rfl (Rd.loadB 5 rfl rfl rfl (by kernel_rfl) (ap_cons 4 rfl (by decide) ap_nil)) ?_
      refine SWz.rd (i := 8) rfl rfl (Rd.subi rfl rfl ⟨by have := hI.le; omega, by have := hI.le; omega⟩) ?_
      refine SWz.rd (i := 9) rfl rfl (Rd.build rfl rfl bldN2) ?_
      refine SWz.rd (i := 10) rfl rfl (Rd.lookF (kt := 100) (et := 79) 2 rfl rfl rfl (le_key rfl (by omega)) (by kernel_rfl) (keyN _ _) (hI.left hb45) (ap_cons 4 rfl (by decide) ap_nil)) ?_
      refine SWz.rq (i := 11) rfl rfl (Rd.loadG 4 32 rfl rfl (by kernel_rfl) (by first | assumption | simp) ap_nil) ?_
      refine SWz.efn (i := 12) rfl (Ef.callN [] (con_join _ _ (by first | assumption | simp) (by first | assumption | simp)) rfl ⟨(sees_le (Le.refl _)), (sees_le (Le.refl _)), trivial⟩ rfl) ?_ SWz.no
      rintro _ rfl
      refine SWz.efe (i := 13) rfl (Ef.storeG 4 32 rfl rfl rfl (by kernel_rfl) (by first | assumption | simp) (by first | assumption | simp) (List.mem_cons_self)) ?_ SWz.no
      rintro _ rfl
      refine SWz.nil ?_
      refine SN.then ?_
      refine SW.seq ?_
      refine SW.region ?_
      refine SWl.rd rfl (Rd.fieldAddr (n := 0) rfl (by kernel_rfl)) ?_
      refine SWl.rd rfl (Rd.loadB 5 rfl rfl rfl (by kernel_rfl) ap_nil) ?_
      refine SWl.rd rfl (Rd.mul rfl rfl ⟨by have := hI.le; omega, by have := hI.le; omega⟩) ?_
      refine SWl.rd rfl (Rd.fieldAddr (n := 1) rfl (by kernel_rfl)) ?_
      refine SWl.rd rfl (Rd.loadB 5 rfl rfl rfl (by kernel_rfl) ap_nil) ?_
      refine SWl.rd rfl (Rd.quoN rfl rfl ⟨by omega, by have := hI.le; omega, by omega⟩) ?_
      refine SWl.rd rfl (Rd.build rfl rfl bldN2) ?_
      refine SWl.ef (S := [_]) (Ef.storeA 5 rfl rfl rfl (by kernel_rfl) rfl (List.mem_singleton.2 rfl)) ?_
      rintro _ rfl
      refine SWl.nil ?_
      refine SN.then ?_
      refine SW.draw ([g29] ++ []) (.r 0 (.r 1 (.r 2 (.r 3 (.r 4 (.r 5 (.e 6 .fin .no))))))) (by kernel_rfl) (by kernel_rfl) (fun d _ _ _ _ h => by cases d <;> exact h) ?_
      refine SWz.rd (i := 0) rfl rfl (Rd.move rfl) ?_
      refine SWz.rd (i := 1) rfl rfl (Rd.nilCheck rfl) ?_
      refine SWz.rd (i := 2) rfl rfl (Rd.fieldAddr (n := 1) rfl (by kernel_rfl)) ?_
      refine SWz.rd (i := 3) rfl rfl (Rd.loadB 0 rfl rfl rfl (by kernel_rfl) (ap_app 2 rfl (by decide) ap_nil)) ?_
      refine SWz.rd (i := 4) rfl rfl (Rd.loadA 5 2 rfl rfl (by kernel_rfl) rfl (ap_app 2 rfl (by decide) ap_nil)) ?_
      refine SWz.rd (i := 5) rfl rfl (Rd.loadG 4 32 rfl rfl (by kernel_rfl) (by first | assumption | simp) (ap_app 2 rfl (by decide) ap_nil)) ?_
      refine SWz.efe (i := 6) rfl (Ef.mapNewF (kt := 100) (et := 79) 2 rfl rfl rfl (le_key (by omega) (by omega)) rfl (by show gD _ = gD _; rw [hI.join hb45 hl]) (by kernel_rfl) (keyN _ _) (hI.new hb45) (fun _ h => List.mem_append_left _ h)) ?_ SWz.no
      rintro _ rfl
      refine SWz.nil ?_
      refine SN.block ?_
      exact fun a w hh => hK0 (⟨(2 * sz, j / 2, ks ++ [(2 * sz, j / 2)]), hI.step hb45⟩) (by simp only; omega) a w (hh.sub (⟨⟨_, rfl, ⟨⟨_, rfl, Le.refl _⟩, ⟨⟨_, rfl, Le.refl _⟩, ⟨⟨_, rfl, Le.refl _⟩, trivial⟩⟩⟩⟩, [0, 1, 5, 2, 3, 4], by decide, ⟨⟨_, rfl, LeAll.refl _⟩, ⟨⟨_, rfl, LeR.refl _⟩, ⟨⟨_, rfl, LeR.refl _⟩, ⟨⟨_, rfl, LeR.refl _⟩, ⟨⟨_, rfl, (by rw [← hI.join hb45 hl]; exact LeAll.refl _)⟩, ⟨⟨_, rfl, ⟨Le.is (by congr 1 <;> omega), Le.is (by congr 1 <;> omega), trivial⟩⟩, trivial⟩⟩⟩⟩⟩⟩⟩))
    · have hb45 : ¬ j % 2 = 1 := by have := of_decide_eq_false hb45; omega
      refine SW.exit' ?_
      repeat (first | refine SE.then ?_ | refine SE.skip (by decide) ?_)
      refine SE.here ?_
      refine SN.retR (fn := Tryd.f50) (⟨A20, c20, F20, some g29, [g29]⟩) [0, 1, 2, 3] (Rs.none rfl) (by decide) ⟨⟨_, rfl, LeAll.refl _⟩, ⟨⟨_, rfl, LeR.refl _⟩, ⟨⟨_, rfl, leMap (by rw [hI.fin hb45, hl]) (by rw [hI.fin hb45, hl])⟩, ⟨⟨_, rfl, LeR.refl _⟩, trivial⟩⟩⟩⟩
set_option maxHeartbeats 4000000 in
set_option maxRecDepth 100000 in
theorem con_push1 (gl : Nat) (sA : Option Addr) (sc : Nat) (sF sG : List Nat) (gm : Nat) (es es' : List Led.Ent) (k : Int) (b : List UInt8) (A : Option Addr) (c : Nat) (F : List Nat) (R : Res) (hR : IsView R (.slice A b.length c) (cellsOf b)) (hb : b.length ≤ 1000000) (hk : 0 ≤ k ∧ k ≤ 255) (hn : es.length ≤ 100000) (he : es' = es ++ [⟨k, b⟩]) : ConR Tryd.prog 50 [.c gl [isD (.slice sA es.length sc), isD (.map (some gm))], ledE ⟨sA, sc, sF, (some gm), sG⟩ es, ledM ⟨sA, sc, sF, (some gm), sG⟩ es, .r F R] [isD (.pointer (some ⟨gl, 0, none⟩)), aggD [iD k, isD (.slice A b.length c)]] (fun s : Lst => [.c gl [isD (.slice s.A (es').length s.c), isD (.map s.M)], ledE s es', ledM s es', .r F R]) (fun s : Lst => isD (.tuple #[])) := by
  have hl : es'.length = es.length + 1 := by rw [he]; simp
  refine con_ofR Tryd.func50 (by kernel_rfl) rfl (by kernel_rfl) fun base w0 => ?_
  refine SW.seq ?_
  refine SW.region ?_
  refine SWl.ef (S := []) (Ef.boxA rfl rfl) ?_
  rintro _ ⟨g3, rfl⟩
  refine SWl.nil ?_
  refine SN.then ?_
  refine SW.seq ?_
  refine SW.region ?_
  refine SWl.rd rfl (Rd.move rfl) ?_
  refine SWl.rd rfl (Rd.nilCheck rfl) ?_
  refine SWl.rd rfl (Rd.fieldAddr (n := 0) rfl (by kernel_rfl)) ?_
  refine SWl.rd rfl (Rd.loadB 0 rfl rfl rfl (by kernel_rfl) ap_nil) ?_
  refine SWl.rd rfl (Rd.lenE (e := 44) rfl (by kernel_rfl)) ?_
  refine SWl.rd rfl (Rd.assign rfl) ?_
  refine SWl.nil ?_
  refine SN.then ?_
  refine SW.seq ?_
  refine SW.draw (sF ++ (gl :: [])) (.r 0 (.r 1 (.r 2 (.r 3 (.q 4 (.r 5 (.n 6 (.n 7 (.e 8 (.r 9 (.r 10 (.e 11 .fin .no))) .no) .no) .no))))))) (by kernel_rfl) (by kernel_rfl) (fun d _ _ _ _ h => by cases d <;> exact h) ?_
  refine SWz.rd (i := 0) rfl rfl (Rd.move rfl) ?_
  refine SWz.rd (i := 1) rfl rfl (Rd.move rfl) ?_
  refine SWz.rd (i := 2) rfl rfl (Rd.nilCheck rfl) ?_
  refine SWz.rd (i := 3) rfl rfl (Rd.fieldAddr (n := 0) rfl (by kernel_rfl)) ?_
  refine SWz.rq (i := 4) rfl rfl (Rd.loadB 0 rfl rfl rfl (by kernel_rfl) ap_nil) ?_
  refine SWz.rd (i := 5) rfl rfl (Rd.loadA 4 2 rfl rfl (by kernel_rfl) rfl (ap_app 1 rfl (by decide) (ap_cons 0 rfl (by decide) ap_nil))) ?_
  refine SWz.efn (i := 6) rfl (Ef.callN [3] (con_clone _ _ (by first | assumption | omega)) rfl ⟨(sees_agg ⟨(sees_le (Le.refl _)), (sees_view 3 rfl hR (by decide)), trivial⟩), trivial⟩ rfl) ?_ SWz.no
  rintro _ rfl
  refine SWz.efn (i := 7) rfl (Ef.litR rfl rfl (blsE1 k b) rfl) ?_ SWz.no
  rintro _ rfl
  refine SWz.efe (i := 8) rfl (Ef.appT 1 2 32 rfl rfl (SrcT.ls (l := [_]) rfl) (by kernel_rfl) (by kernel_rfl) (by simp <;> omega) (by decide) (fun _ h => List.mem_append_left _ h) rfl) ?_ SWz.no
  rintro _ ⟨A20, F20, c20, rfl⟩
  refine SWz.rd (i := 9) rfl rfl (Rd.nilCheck rfl) ?_
  refine SWz.rd (i := 10) rfl rfl (Rd.fieldAddr (n := 0) rfl (by kernel_rfl)) ?_
  refine SWz.efe (i := 11) rfl (Ef.storeV 0 rfl rfl rfl (by kernel_rfl) rfl ((List.mem_append_right _ List.mem_cons_self))) ?_ SWz.no
  rintro _ rfl
  refine SWz.nil ?_
  refine SN.then ?_
  refine SW.seq ?_
  refine SW.seq ?_
  refine SW.region ?_
  refine SWl.rd rfl (Rd.move rfl) ?_
  refine SWl.rd rfl (Rd.nilCheck rfl) ?_
  refine SWl.rd rfl (Rd.fieldAddr (n := 1) rfl (by kernel_rfl)) ?_
  refine SWl.rd rfl (Rd.loadB 0 rfl rfl rfl (by kernel_rfl) ap_nil) ?_
  refine SWl.rd rfl (Rd.eqM (kt := 100) (et := 79) rfl rfl (by kernel_rfl)) ?_
  refine SWl.nil ?_
  refine SN.then ?_
  refine SW.condF rfl (rfl) ?_
  refine SW.skip ?_
  refine SN.then ?_
  refine SW.seq ?_
  refine SW.region ?_
  refine SWl.rd rfl (Rd.loadA 3 2 rfl rfl (by kernel_rfl) rfl ap_nil) ?_
  refine SWl.ef (S := []) (Ef.callN [2] (con_leaf _ _ (by first | assumption | omega) (by first | assumption | omega)) rfl ⟨(sees_agg ⟨(sees_le (Le.refl _)), (sees_view 2 rfl hR (by decide)), trivial⟩), trivial⟩ rfl) ?_
  rintro _ rfl
  refine SWl.ef (S := []) (Ef.alloc (zs := cellsOf (List.replicate 32 0)) (by kernel_rfl) rfl) ?_
  rintro _ ⟨g5, rfl⟩
  refine SWl.ef (S := [_]) (Ef.storeG 5 32 rfl rfl rfl (by kernel_rfl) (by first | assumption | simp) (by first | assumption | simp) (List.mem_singleton.2 rfl)) ?_
  rintro _ rfl
  refine SWl.nil ?_
  refine SN.then ?_
  refine SW.seq ?_
  refine SW.region ?_
  refine SWl.rd rfl (Rd.move rfl) ?_
  refine SWl.rd rfl (Rd.build rfl rfl bldN2) ?_
  refine SWl.ef (S := []) (Ef.alloc (zs := [.int .i64 0, .int .i64 0]) (by kernel_rfl) rfl) ?_
  rintro _ ⟨g6, rfl⟩
  refine SWl.ef (S := [_]) (Ef.storeA 6 rfl rfl rfl (by kernel_rfl) rfl (List.mem_singleton.2 rfl)) ?_
  rintro _ rfl
  refine SWl.nil ?_
  refine SN.then ?_
  refine SW.seq ?_
  refine SW.sub (σ' := St.ob [(0, isD (.pointer (some ⟨gl, 0, none⟩))), (5, isD (.pointer (some ⟨g5, 0, none⟩))), (6, isD (.pointer (some ⟨g6, 0, none⟩)))] [.c gl [isD (.slice A20 (es').length c20), isD (.map (some gm))], .r F20 (vecT 44 2 encE A20 c20 es'), .r sG (mapF (some gm) encN (Led.keys es.length) (mkeys es')), .r F R, .c g5 ((cellsOf (Led.val HH es' (1, es.length))).map isD), .c g6 [iD (1), iD ((es.length : Int))]]) (⟨⟨_, rfl, ⟨⟨_, rfl, Le.refl _⟩, ⟨⟨_, rfl, Le.refl _⟩, ⟨⟨_, rfl, Le.refl _⟩, trivial⟩⟩⟩⟩, [0, 4, 1, 2, 5, 6], by decide, ⟨⟨_, rfl, ⟨Le.is (by rw [he]), Le.refl _, trivial⟩⟩, ⟨⟨_, rfl, leVec (by rw [he]) (by rw [he])⟩, ⟨⟨_, rfl, leMap rfl (by rw [he]; exact mkeys_app _ _)⟩, ⟨⟨_, rfl, LeR.refl _⟩, ⟨⟨_, rfl, (by rw [he, Led.val_one]; exact LeAll.refl _)⟩, ⟨⟨_, rfl, LeAll.refl _⟩, trivial⟩⟩⟩⟩⟩⟩⟩) ?_
  refine SW.draw (sG ++ []) (.r 0 (.r 1 (.r 2 (.r 3 (.r 4 (.r 5 (.e 6 .fin .no))))))) (by kernel_rfl) (by kernel_rfl) (fun d _ _ _ _ h => by cases d <;> exact h) ?_
  refine SWz.rd (i := 0) rfl rfl (Rd.move rfl) ?_
  refine SWz.rd (i := 1) rfl rfl (Rd.nilCheck rfl) ?_
  refine SWz.rd (i := 2) rfl rfl (Rd.fieldAddr (n := 1) rfl (by kernel_rfl)) ?_
  refine SWz.rd (i := 3) rfl rfl (Rd.loadB 0 rfl rfl rfl (by kernel_rfl) (ap_app 2 rfl (by decide) ap_nil)) ?_
  refine SWz.rd (i := 4) rfl rfl (Rd.loadA 5 2 rfl rfl (by kernel_rfl) rfl (ap_app 2 rfl (by decide) ap_nil)) ?_
  refine SWz.rd (i := 5) rfl rfl (Rd.loadG 4 32 rfl rfl (by kernel_rfl) (by first | assumption | simp) (ap_app 2 rfl (by decide) ap_nil)) ?_
  refine SWz.efe (i := 6) rfl (Ef.mapNewF (kt := 100) (et := 79) 2 rfl rfl rfl (le_key rfl rfl) rfl rfl (by kernel_rfl) (keyN _ _) new_one (fun _ h => List.mem_append_left _ h)) ?_ SWz.no
  rintro _ rfl
  refine SWz.nil ?_
  refine SN.then ?_
  refine SW.block ?_
  refine SW.loop (ι := {q : Nat × Nat × List (Nat × Nat) // PInv es.length q.1 q.2.1 q.2.2}) (fun q => St.ob [(0, isD (.pointer (some ⟨gl, 0, none⟩))), (5, isD (.pointer (some ⟨g5, 0, none⟩))), (6, isD (.pointer (some ⟨g6, 0, none⟩)))] [.c gl [isD (.slice A20 (es').length c20), isD (.map (some gm))], .r F20 (vecT 44 2 encE A20 c20 es'), .r sG (mapF (some gm) encN (q.1.2.2) (mkeys es')), .r F R, .c g5 ((cellsOf (Led.val HH es' (q.1.1, q.1.2.1))).map isD), .c g6 [iD ((q.1.1 : Int)), iD ((q.1.2.1 : Int))]]) (fun q => q.1.2.1) (⟨(1, es.length, Led.keys es.length ++ [(1, es.length)]), PInv.start _⟩) ?_ ?_
  · exact ⟨⟨_, rfl, ⟨⟨_, rfl, Le.refl _⟩, ⟨⟨_, rfl, Le.refl _⟩, ⟨⟨_, rfl, Le.refl _⟩, trivial⟩⟩⟩⟩, [0, 1, 5, 2, 3, 4], by decide, ⟨⟨_, rfl, LeAll.refl _⟩, ⟨⟨_, rfl, LeR.refl _⟩, ⟨⟨_, rfl, LeR.refl _⟩, ⟨⟨_, rfl, LeR.refl _⟩, ⟨⟨_, rfl, LeAll.refl _⟩, ⟨⟨_, rfl, LeAll.refl _⟩, trivial⟩⟩⟩⟩⟩⟩⟩
  · rintro ⟨⟨sz, j, ks⟩, hI⟩ K0 hK0
    dsimp only at hI ⊢
    refine SW.seq ?_
    refine SW.seq ?_
    refine SW.region ?_
    refine SWl.rd rfl (Rd.fieldAddr (n := 1) rfl (by kernel_rfl)) ?_
    refine SWl.rd rfl (Rd.loadB 5 rfl rfl rfl (by kernel_rfl) ap_nil) ?_
    refine SWl.rd rfl (Rd.remN rfl rfl ⟨by omega, by omega⟩) ?_
    refine SWl.rd rfl (Rd.eqi rfl rfl) ?_
    refine SWl.nil ?_
    refine SN.then ?_
    refine SW.cond rfl (fun hb45 => ?_) (fun hb45 => ?_)
    · have hb45 : j % 2 = 1 := by have := of_decide_eq_true hb45; omega
      refine SW.skip ?_
      refine SN.then ?_
      refine SW.block ?_
      refine SW.seq ?_
      refine SW.draw (g5 :: []) (.r 0 (.r 1 (.r 2 (.r 3 (.r 4 (.r 5 (.r 6 (.r 7 (.r 8 (.r 9 (.r 10 (.q 11 (.n 12 (.e 13 .fin .no) .no))))))))))))) (by kernel_rfl) (by kernel_rfl) (fun d _ _ _ _ h => by cases d <;> exact h) ?_
      refine SWz.rd (i := 0) rfl rfl (Rd.move rfl) ?_
      refine SWz.rd (i := 1) rfl rfl (Rd.nilCheck rfl) ?_
      refine SWz.rd (i := 2) rfl rfl (Rd.fieldAddr (n := 1) rfl (by kernel_rfl)) ?_
      refine SWz.rd (i := 3) rfl rfl (Rd.loadB 0 rfl rfl rfl (by kernel_rfl) (ap_cons 4 rfl (by decide) ap_nil)) ?_
      refine SWz.rd (i := 4) rfl rfl (Rd.fieldAddr (n := 0) rfl (by kernel_rfl)) ?_
      refine SWz.rd (i := 5) rfl rfl (Rd.loadB 5 rfl rfl rfl (by kernel_rfl) (ap_cons 4 rfl (by decide) ap_nil)) ?_
      refine SWz.rd (i := 6) rfl rfl (Rd.fieldAddr (n := 1) rfl (by kernel_rfl)) ?_
      refine SWz.rd (i := 7) rfl rfl (Rd.loadB 5 rfl rfl rfl (by kernel_rfl) (ap_cons 4 rfl (by decide) ap_nil)) ?_
      refine SWz.rd (i := 8) rfl rfl (Rd.subi rfl rfl ⟨by have := hI.le; omega, by have := hI.le; omega⟩) ?_
      refine SWz.rd (i := 9) rfl rfl (Rd.build rfl rfl bldN2) ?_
      refine SWz.rd (i := 10) rfl rfl (Rd.lookF (kt := 100) (et := 79) 2 rfl rfl rfl (le_key rfl (by omega)) (by kernel_rfl) (keyN _ _) (hI.left hb45) (ap_cons 4 rfl (by decide) ap_nil)) ?_
      refine SWz.rq (i := 11) rfl rfl (Rd.loadG 4 32 rfl rfl (by kernel_rfl) (by first | assumption | simp) ap_nil) ?_
      refine SWz.efn (i := 12) rfl (Ef.callN [] (con_join _ _ (by first | assumption | simp) (by first | assumption | simp)) rfl ⟨(sees_le (Le.refl _)), (sees_le (Le.refl _)), trivial⟩ rfl) ?_ SWz.no
      rintro _ rfl
      refine SWz.efe (i := 13) rfl (Ef.storeG 4 32 rfl rfl rfl (by kernel_rfl) (by first | assumption | simp) (by first | assumption | simp) (List.mem_cons_self)) ?_ SWz.no
      rintro _ rfl
      refine SWz.nil ?_
      refine SN.then ?_
      refine SW.seq ?_
      refine SW.region ?_
      refine SWl.rd rfl (Rd.fieldAddr (n := 0) rfl (by kernel_rfl)) ?_
      refine SWl.rd rfl (Rd.loadB 5 rfl rfl rfl (by kernel_rfl) ap_nil) ?_
      refine SWl.rd rfl (Rd.mul rfl rfl ⟨by have := hI.le; omega, by have := hI.le; omega⟩) ?_
      refine SWl.rd rfl (Rd.fieldAddr (n := 1) rfl (by kernel_rfl)) ?_
      refine SWl.rd rfl (Rd.loadB 5 rfl rfl rfl (by kernel_rfl) ap_nil) ?_
      refine SWl.rd rfl (Rd.quoN rfl rfl ⟨by omega, by have := hI.le; omega, by omega⟩) ?_
      refine SWl.rd rfl (Rd.build rfl rfl bldN2) ?_
      refine SWl.ef (S := [_]) (Ef.storeA 5 rfl rfl rfl (by kernel_rfl) rfl (List.mem_singleton.2 rfl)) ?_
      rintro _ rfl
      refine SWl.nil ?_
      refine SN.then ?_
      refine SW.draw (sG ++ []) (.r 0 (.r 1 (.r 2 (.r 3 (.r 4 (.r 5 (.e 6 .fin .no))))))) (by kernel_rfl) (by kernel_rfl) (fun d _ _ _ _ h => by cases d <;> exact h) ?_
      refine SWz.rd (i := 0) rfl rfl (Rd.move rfl) ?_
      refine SWz.rd (i := 1) rfl rfl (Rd.nilCheck rfl) ?_
      refine SWz.rd (i := 2) rfl rfl (Rd.fieldAddr (n := 1) rfl (by kernel_rfl)) ?_
      refine SWz.rd (i := 3) rfl rfl (Rd.loadB 0 rfl rfl rfl (by kernel_rfl) (ap_app 2 rfl (by decide) ap_nil)) ?_
      refine SWz.rd (i := 4) rfl rfl (Rd.loadA 5 2 rfl rfl (by kernel_rfl) rfl (ap_app 2 rfl (by decide) ap_nil)) ?_
      refine SWz.rd (i := 5) rfl rfl (Rd.loadG 4 32 rfl rfl (by kernel_rfl) (by first | assumption | simp) (ap_app 2 rfl (by decide) ap_nil)) ?_
      refine SWz.efe (i := 6) rfl (Ef.mapNewF (kt := 100) (et := 79) 2 rfl rfl rfl (le_key (by omega) (by omega)) rfl (by show gD _ = gD _; rw [hI.join hb45 hl]) (by kernel_rfl) (keyN _ _) (hI.new hb45) (fun _ h => List.mem_append_left _ h)) ?_ SWz.no
      rintro _ rfl
      refine SWz.nil ?_
      refine SN.block ?_
      exact fun a w hh => hK0 (⟨(2 * sz, j / 2, ks ++ [(2 * sz, j / 2)]), hI.step hb45⟩) (by simp only; omega) a w (hh.sub (⟨⟨_, rfl, ⟨⟨_, rfl, Le.refl _⟩, ⟨⟨_, rfl, Le.refl _⟩, ⟨⟨_, rfl, Le.refl _⟩, trivial⟩⟩⟩⟩, [0, 1, 5, 2, 3, 4], by decide, ⟨⟨_, rfl, LeAll.refl _⟩, ⟨⟨_, rfl, LeR.refl _⟩, ⟨⟨_, rfl, LeR.refl _⟩, ⟨⟨_, rfl, LeR.refl _⟩, ⟨⟨_, rfl, (by rw [← hI.join hb45 hl]; exact LeAll.refl _)⟩, ⟨⟨_, rfl, ⟨Le.is (by congr 1 <;> omega), Le.is (by congr 1 <;> omega), trivial⟩⟩, trivial⟩⟩⟩⟩⟩⟩⟩))
    · have hb45 : ¬ j % 2 = 1 := by have := of_decide_eq_false hb45; omega
      refine SW.exit' ?_
      repeat (first | refine SE.then ?_ | refine SE.skip (by decide) ?_)
      refine SE.here ?_
      refine SN.retR (fn := Tryd.f50) (⟨A20, c20, F20, some gm, sG⟩) [0, 1, 2, 3] (Rs.none rfl) (by decide) ⟨⟨_, rfl, LeAll.refl _⟩, ⟨⟨_, rfl, LeR.refl _⟩, ⟨⟨_, rfl, leMap (by rw [hI.fin hb45, hl]) (by rw [hI.fin hb45, hl])⟩, ⟨⟨_, rfl, LeR.refl _⟩, trivial⟩⟩⟩⟩
theorem con_push (gl : Nat) (s : Lst) (es es' : List Led.Ent) (k : Int) (b : List UInt8) (A : Option Addr) (c : Nat) (F : List Nat) (R : Res) (hR : IsView R (.slice A b.length c) (cellsOf b)) (hb : b.length ≤ 1000000) (hk : 0 ≤ k ∧ k ≤ 255) (hn : es.length ≤ 100000) (he : es' = es ++ [⟨k, b⟩]) :
    ConR Tryd.prog 50 [ledC gl s es, ledE s es, ledM s es, .r F R] [isD (.pointer (some ⟨gl, 0, none⟩)), aggD [iD k, isD (.slice A b.length c)]] (fun s : Lst => [ledC gl s es', ledE s es', ledM s es', .r F R]) (fun _ => isD (.tuple #[])) := by
  obtain ⟨sA, sc, sF, M, sG⟩ := s
  cases M with
  | none => exact con_push0 gl sA sc sF sG es es' k b A c F R hR hb hk hn he
  | some gm => exact con_push1 gl sA sc sF sG gm es es' k b A c F R hR hb hk hn he
end Sx
end Go.Proofs.YtonjpfpdpfonnaaDoor
namespace Go.Proofs.YtonjpfpdpfonnaaDoor
open Go.RowKit
namespace Sx
theorem pick_key {es : List Led.Ent} {low n : Nat} (h : low + n ≤ es.length) (h0 : ¬ n = 0) (hm : (n, low / n) ∉ Led.keys es.length) : n ≠ 1 := fun e => by
  subst e
  rw [Nat.div_one] at hm
  exact hm (Led.keys_one (by omega))
set_option maxHeartbeats 4000000 in
set_option maxRecDepth 100000 in
theorem con_span_in (es : List Led.Ent) (hn : es.length ≤ 100000) (low n : Nat) (hl : low + n ≤ es.length) (hm : (n, low / n) ∈ Led.keys es.length) (ih1 : 2 ≤ n → ConN Tryd.prog 36 [ledD es, iD (low : Int), iD (Led.bl n : Int)] (gD (Led.spn HH es low (Led.bl n)))) (ih2 : 2 ≤ n → ConN Tryd.prog 36 [ledD es, iD ((low + Led.bl n : Nat) : Int), iD ((n - Led.bl n : Nat) : Int)] (gD (Led.spn HH es (low + Led.bl n) (n - Led.bl n)))) : ConN Tryd.prog 36 [ledD es, iD (low : Int), iD (n : Int)] (gD (Led.spn HH es low n)) := by
  refine con_ofN Tryd.func36 (by kernel_rfl) rfl (by kernel_rfl) fun base w0 => ?_
  refine SW.seq ?_
  refine SW.region ?_
  refine SWl.ef (S := []) (Ef.alloc (zs := cellsOf (List.replicate 32 0)) (by kernel_rfl) rfl) ?_
  rintro _ ⟨g6, rfl⟩
  refine SWl.nil ?_
  refine SN.then ?_
  refine SW.seq ?_
  refine SW.seq ?_
  refine SW.region ?_
  refine SWl.rd rfl (Rd.move rfl) ?_
  refine SWl.rd rfl (Rd.eqi rfl rfl) ?_
  refine SWl.nil ?_
  refine SN.then ?_
  refine SW.cond rfl (fun hb11 => ?_) (fun hb11 => ?_)
  · have hz : n = 0 := by have := of_decide_eq_true hb11; omega
    refine SW.seq ?_
    refine SW.region ?_
    refine SWl.ef (S := []) (Ef.callN [] (con_sumN [] (by simp)) rfl ⟨(sees_le Le.nil_sl), trivial⟩ rfl) ?_
    rintro _ rfl
    refine SWl.ef (S := [_]) (Ef.storeG 0 32 rfl rfl rfl (by kernel_rfl) (by first | assumption | simp) (by first | assumption | simp) (List.mem_singleton.2 rfl)) ?_
    rintro _ rfl
    refine SWl.nil ?_
    refine SN.then ?_
    refine SW.ret (fn := Tryd.f36) (fun _ _ h => h) (Rs.le (Rs.one rfl (ResV.cellG (n := 32) 0 rfl rfl (by kernel_rfl) (by first | assumption | simp))) ?_)
    exact Le.trans (le_agg_g _) (Le.trans (Le.is (by subst hz; simp [Led.spn, Led.root_nil])) le_nw_is)
  · have hz : ¬ n = 0 := by have := of_decide_eq_false hb11; omega
    refine SW.skip ?_
    refine SN.then ?_
    refine SW.seq ?_
    refine SW.seq ?_
    refine SW.draw [] (.r 0 (.r 1 (.r 2 (.r 3 (.r 4 (.r 5 (.r 6 (.r 7 (.r 8 (.r 9 (.r 10 (.r 11 (.r 12 (.n 13 (.e 14 (.r 15 .fin) .no) .no)))))))))))))) (by kernel_rfl) (by kernel_rfl) (fun d _ _ _ _ h => by cases d <;> exact h) ?_
    refine SWz.rd (i := 0) rfl rfl (Rd.move rfl) ?_
    refine SWz.rd (i := 1) rfl rfl (Rd.nilCheckP rfl) ?_
    refine SWz.rd (i := 2) rfl rfl (Rd.fieldR (n := 1) rfl (by kernel_rfl) (show 1 < 2 by decide)) ?_
    refine SWz.rd (i := 3) rfl rfl (Rd.loadR rfl rfl (by kernel_rfl) (by simp)) ?_
    refine SWz.rd (i := 4) rfl rfl (Rd.move rfl) ?_
    refine SWz.rd (i := 5) rfl rfl (Rd.move rfl) ?_
    refine SWz.rd (i := 6) rfl rfl (Rd.move rfl) ?_
    refine SWz.rd (i := 7) rfl rfl (Rd.quoN rfl rfl ⟨by omega, by omega, by omega⟩) ?_
    refine SWz.rd (i := 8) rfl rfl (Rd.build rfl rfl bldN2) ?_
    refine SWz.rd (i := 9) rfl rfl (Rd.lookP (kt := 100) (et := 79) rfl rfl (le_key rfl (by simp)) (by kernel_rfl) (keyN _ _) hm (by simp)) ?_
    refine SWz.rd (i := 10) rfl rfl (Rd.move rfl) ?_
    refine SWz.rd (i := 11) rfl rfl (Rd.extract rfl rfl) ?_
    refine SWz.rd (i := 12) rfl rfl (Rd.extract rfl rfl) ?_
    refine SWz.efb (i := 13) rfl (EfB.alloc (zs := cellsOf (List.replicate 32 0)) (by kernel_rfl) rfl) ?_ SWz.no
    rintro g7 _ rfl
    refine SWz.efe (i := 14) rfl (Ef.storeG 1 32 rfl rfl rfl (by kernel_rfl) (by first | assumption | simp) (by first | assumption | simp) (List.mem_cons_self)) ?_ SWz.no
    rintro _ rfl
    refine SWz.rd (i := 15) rfl rfl (Rd.assign rfl) ?_
    refine SWz.nil ?_
    refine SN.then ?_
    refine SW.seq ?_
    refine SW.region ?_
    refine SWl.rd rfl (Rd.move rfl) ?_
    refine SWl.rd rfl (Rd.move rfl) ?_
    refine SWl.rdg rfl rfl (rfl) rfl rfl (Rd.move rfl) ?_
    refine SWl.rdg rfl rfl (rfl) rfl rfl (Rd.move rfl) ?_
    refine SWl.rdg rfl rfl (rfl) rfl rfl (Rd.remN rfl rfl ⟨by omega, by omega⟩) ?_
    refine SWl.rdg rfl rfl (rfl) rfl rfl (Rd.eqi rfl rfl) ?_
    refine SWl.rd rfl (Rd.pickY rfl (rfl) rfl) ?_
    refine SWl.nil ?_
    refine SN.then ?_
    refine SW.cond rfl (fun hb32 => ?_) (fun hb32 => ?_)
    · have hb32 := of_decide_eq_true hb32
      refine SW.seq ?_
      refine SW.region ?_
      refine SWl.rd rfl (Rd.loadG 1 32 rfl rfl (by kernel_rfl) (by first | assumption | simp) ap_nil) ?_
      refine SWl.ef (S := [_]) (Ef.storeG 0 32 rfl rfl rfl (by kernel_rfl) (by first | assumption | simp) (by first | assumption | simp) (List.mem_singleton.2 rfl)) ?_
      rintro _ rfl
      refine SWl.nil ?_
      refine SN.then ?_
      refine SW.ret (fn := Tryd.f36) (fun _ _ h => h) (Rs.le (Rs.one rfl (ResV.cellG (n := 32) 0 rfl rfl (by kernel_rfl) (by first | assumption | simp))) ?_)
      exact Le.trans (le_agg_g _) (Le.trans (Le.is (by show Value.agg (cellsOf (Led.val HH es (n, low / n))).toArray = _; rw [Led.spn_val HH (by omega)])) le_nw_is)
    · have h2 : 2 ≤ n := by have := mod_ne_one (of_decide_eq_false hb32); omega
      refine SW.skip ?_
      refine SN.then ?_
      refine SW.seq ?_
      refine SW.region ?_
      refine SWl.rd rfl (Rd.move rfl) ?_
      refine SWl.ef (S := []) (Ef.callN [] (con_below n h2 (by omega)) rfl ⟨(sees_le (Le.refl _)), trivial⟩ rfl) ?_
      rintro _ rfl
      refine SWl.rd rfl (Rd.assign rfl) ?_
      refine SWl.nil ?_
      refine SN.then ?_
      refine SW.seq ?_
      refine SW.region ?_
      refine SWl.rd rfl (Rd.move rfl) ?_
      refine SWl.rd rfl (Rd.move rfl) ?_
      refine SWl.rd rfl (Rd.move rfl) ?_
      refine SWl.ef (S := []) (Ef.callN [] (ih1 h2) rfl ⟨(sees_le (Le.refl _)), (sees_le (Le.refl _)), (sees_le (Le.refl _)), trivial⟩ rfl) ?_
      rintro _ rfl
      refine SWl.rd rfl (Rd.move rfl) ?_
      refine SWl.rd rfl (Rd.move rfl) ?_
      refine SWl.rd rfl (Rd.move rfl) ?_
      refine SWl.rd rfl (Rd.add rfl rfl ⟨by have := Led.bl_spec h2; omega, by have := Led.bl_spec h2; omega⟩) ?_
      refine SWl.rd rfl (Rd.move rfl) ?_
      refine SWl.rd rfl (Rd.move rfl) ?_
      refine SWl.rd rfl (Rd.subi rfl rfl ⟨by have := Led.bl_spec h2; omega, by have := Led.bl_spec h2; omega⟩) ?_
      refine SWl.ef (S := []) (Ef.callN [] (ih2 h2) rfl ⟨(sees_le (Le.refl _)), (sees_le (Le.is (by simp))), (sees_le (Le.is (by have := Led.bl_spec h2; congr 1; omega))), trivial⟩ rfl) ?_
      rintro _ rfl
      refine SWl.ef (S := []) (Ef.callN [] (con_join _ _ (by first | assumption | simp) (by first | assumption | simp)) rfl ⟨(sees_le (Le.refl _)), (sees_le (Le.refl _)), trivial⟩ rfl) ?_
      rintro _ rfl
      refine SWl.ef (S := [_]) (Ef.storeG 0 32 rfl rfl rfl (by kernel_rfl) (by first | assumption | simp) (by first | assumption | simp) (List.mem_singleton.2 rfl)) ?_
      rintro _ rfl
      refine SWl.nil ?_
      refine SN.then ?_
      refine SW.ret (fn := Tryd.f36) (fun _ _ h => h) (Rs.le (Rs.one rfl (ResV.cellG (n := 32) 0 rfl rfl (by kernel_rfl) (by first | assumption | simp))) ?_)
      exact Le.trans (le_agg_g _) (Le.trans (Le.is (by rw [Led.spn_step HH h2 hl])) le_nw_is)
set_option maxHeartbeats 4000000 in
set_option maxRecDepth 100000 in
theorem con_span_out (es : List Led.Ent) (hn : es.length ≤ 100000) (low n : Nat) (hl : low + n ≤ es.length) (hm : (n, low / n) ∉ Led.keys es.length) (ih1 : 2 ≤ n → ConN Tryd.prog 36 [ledD es, iD (low : Int), iD (Led.bl n : Int)] (gD (Led.spn HH es low (Led.bl n)))) (ih2 : 2 ≤ n → ConN Tryd.prog 36 [ledD es, iD ((low + Led.bl n : Nat) : Int), iD ((n - Led.bl n : Nat) : Int)] (gD (Led.spn HH es (low + Led.bl n) (n - Led.bl n)))) : ConN Tryd.prog 36 [ledD es, iD (low : Int), iD (n : Int)] (gD (Led.spn HH es low n)) := by
  refine con_ofN Tryd.func36 (by kernel_rfl) rfl (by kernel_rfl) fun base w0 => ?_
  refine SW.seq ?_
  refine SW.region ?_
  refine SWl.ef (S := []) (Ef.alloc (zs := cellsOf (List.replicate 32 0)) (by kernel_rfl) rfl) ?_
  rintro _ ⟨g6, rfl⟩
  refine SWl.nil ?_
  refine SN.then ?_
  refine SW.seq ?_
  refine SW.seq ?_
  refine SW.region ?_
  refine SWl.rd rfl (Rd.move rfl) ?_
  refine SWl.rd rfl (Rd.eqi rfl rfl) ?_
  refine SWl.nil ?_
  refine SN.then ?_
  refine SW.cond rfl (fun hb11 => ?_) (fun hb11 => ?_)
  · have hz : n = 0 := by have := of_decide_eq_true hb11; omega
    refine SW.seq ?_
    refine SW.region ?_
    refine SWl.ef (S := []) (Ef.callN [] (con_sumN [] (by simp)) rfl ⟨(sees_le Le.nil_sl), trivial⟩ rfl) ?_
    rintro _ rfl
    refine SWl.ef (S := [_]) (Ef.storeG 0 32 rfl rfl rfl (by kernel_rfl) (by first | assumption | simp) (by first | assumption | simp) (List.mem_singleton.2 rfl)) ?_
    rintro _ rfl
    refine SWl.nil ?_
    refine SN.then ?_
    refine SW.ret (fn := Tryd.f36) (fun _ _ h => h) (Rs.le (Rs.one rfl (ResV.cellG (n := 32) 0 rfl rfl (by kernel_rfl) (by first | assumption | simp))) ?_)
    exact Le.trans (le_agg_g _) (Le.trans (Le.is (by subst hz; simp [Led.spn, Led.root_nil])) le_nw_is)
  · have hz : ¬ n = 0 := by have := of_decide_eq_false hb11; omega
    refine SW.skip ?_
    refine SN.then ?_
    refine SW.seq ?_
    refine SW.seq ?_
    refine SW.draw [] (.r 0 (.r 1 (.r 2 (.r 3 (.r 4 (.r 5 (.r 6 (.r 7 (.r 8 (.r 9 (.r 10 (.r 11 (.r 12 (.n 13 (.e 14 (.r 15 .fin) .no) .no)))))))))))))) (by kernel_rfl) (by kernel_rfl) (fun d _ _ _ _ h => by cases d <;> exact h) ?_
    refine SWz.rd (i := 0) rfl rfl (Rd.move rfl) ?_
    refine SWz.rd (i := 1) rfl rfl (Rd.nilCheckP rfl) ?_
    refine SWz.rd (i := 2) rfl rfl (Rd.fieldR (n := 1) rfl (by kernel_rfl) (show 1 < 2 by decide)) ?_
    refine SWz.rd (i := 3) rfl rfl (Rd.loadR rfl rfl (by kernel_rfl) (by simp)) ?_
    refine SWz.rd (i := 4) rfl rfl (Rd.move rfl) ?_
    refine SWz.rd (i := 5) rfl rfl (Rd.move rfl) ?_
    refine SWz.rd (i := 6) rfl rfl (Rd.move rfl) ?_
    refine SWz.rd (i := 7) rfl rfl (Rd.quoN rfl rfl ⟨by omega, by omega, by omega⟩) ?_
    refine SWz.rd (i := 8) rfl rfl (Rd.build rfl rfl bldN2) ?_
    refine SWz.rd (i := 9) rfl rfl (Rd.lookPN (kt := 100) (et := 79) (z := .agg (cellsOf (List.replicate 32 0)).toArray) rfl rfl (le_key rfl (by simp)) (by kernel_rfl) (by kernel_rfl) (keyN _ _) hm (by simp)) ?_
    refine SWz.rd (i := 10) rfl rfl (Rd.move rfl) ?_
    refine SWz.rd (i := 11) rfl rfl (Rd.extract rfl rfl) ?_
    refine SWz.rd (i := 12) rfl rfl (Rd.extract rfl rfl) ?_
    refine SWz.efb (i := 13) rfl (EfB.alloc (zs := cellsOf (List.replicate 32 0)) (by kernel_rfl) rfl) ?_ SWz.no
    rintro g7 _ rfl
    refine SWz.efe (i := 14) rfl (Ef.storeG 1 32 rfl rfl rfl (by kernel_rfl) (by first | assumption | simp) (by first | assumption | simp) (List.mem_cons_self)) ?_ SWz.no
    rintro _ rfl
    refine SWz.rd (i := 15) rfl rfl (Rd.assign rfl) ?_
    refine SWz.nil ?_
    refine SN.then ?_
    refine SW.seq ?_
    refine SW.region ?_
    refine SWl.rd rfl (Rd.move rfl) ?_
    refine SWl.rd rfl (Rd.move rfl) ?_
    refine SWl.off rfl rfl (rfl) rfl rfl ?_
    refine SWl.off rfl rfl (rfl) rfl rfl ?_
    refine SWl.off rfl rfl (rfl) rfl rfl ?_
    refine SWl.off rfl rfl (rfl) rfl rfl ?_
    refine SWl.rd rfl (Rd.pickN rfl (rfl) rfl) ?_
    refine SWl.nil ?_
    refine SN.then ?_
    refine SW.condF rfl (rfl) ?_
    refine SW.skip ?_
    refine SN.then ?_
    refine SW.seq ?_
    refine SW.region ?_
    refine SWl.rd rfl (Rd.move rfl) ?_
    have h2 : 2 ≤ n := by have := pick_key hl hz hm; omega
    refine SWl.ef (S := []) (Ef.callN [] (con_below n h2 (by omega)) rfl ⟨(sees_le (Le.refl _)), trivial⟩ rfl) ?_
    rintro _ rfl
    refine SWl.rd rfl (Rd.assign rfl) ?_
    refine SWl.nil ?_
    refine SN.then ?_
    refine SW.seq ?_
    refine SW.region ?_
    refine SWl.rd rfl (Rd.move rfl) ?_
    refine SWl.rd rfl (Rd.move rfl) ?_
    refine SWl.rd rfl (Rd.move rfl) ?_
    refine SWl.ef (S := []) (Ef.callN [] (ih1 h2) rfl ⟨(sees_le (Le.refl _)), (sees_le (Le.refl _)), (sees_le (Le.refl _)), trivial⟩ rfl) ?_
    rintro _ rfl
    refine SWl.rd rfl (Rd.move rfl) ?_
    refine SWl.rd rfl (Rd.move rfl) ?_
    refine SWl.rd rfl (Rd.move rfl) ?_
    refine SWl.rd rfl (Rd.add rfl rfl ⟨by have := Led.bl_spec h2; omega, by have := Led.bl_spec h2; omega⟩) ?_
    refine SWl.rd rfl (Rd.move rfl) ?_
    refine SWl.rd rfl (Rd.move rfl) ?_
    refine SWl.rd rfl (Rd.subi rfl rfl ⟨by have := Led.bl_spec h2; omega, by have := Led.bl_spec h2; omega⟩) ?_
    refine SWl.ef (S := []) (Ef.callN [] (ih2 h2) rfl ⟨(sees_le (Le.refl _)), (sees_le (Le.is (by simp))), (sees_le (Le.is (by have := Led.bl_spec h2; congr 1; omega))), trivial⟩ rfl) ?_
    rintro _ rfl
    refine SWl.ef (S := []) (Ef.callN [] (con_join _ _ (by first | assumption | simp) (by first | assumption | simp)) rfl ⟨(sees_le (Le.refl _)), (sees_le (Le.refl _)), trivial⟩ rfl) ?_
    rintro _ rfl
    refine SWl.ef (S := [_]) (Ef.storeG 0 32 rfl rfl rfl (by kernel_rfl) (by first | assumption | simp) (by first | assumption | simp) (List.mem_singleton.2 rfl)) ?_
    rintro _ rfl
    refine SWl.nil ?_
    refine SN.then ?_
    refine SW.ret (fn := Tryd.f36) (fun _ _ h => h) (Rs.le (Rs.one rfl (ResV.cellG (n := 32) 0 rfl rfl (by kernel_rfl) (by first | assumption | simp))) ?_)
    exact Le.trans (le_agg_g _) (Le.trans (Le.is (by rw [Led.spn_step HH h2 hl])) le_nw_is)
theorem con_span (es : List Led.Ent) (hn : es.length ≤ 100000) : ∀ (n low : Nat), low + n ≤ es.length → ConN Tryd.prog 36 [ledD es, iD (low : Int), iD (n : Int)] (gD (Led.spn HH es low n)) := by
  intro n
  induction n using Nat.strongRecOn with
  | ind n ih =>
    intro low hl
    have h1 : 2 ≤ n → ConN Tryd.prog 36 [ledD es, iD (low : Int), iD (Led.bl n : Int)] (gD (Led.spn HH es low (Led.bl n))) := fun h2 => by
      have := Led.bl_spec h2
      exact ih _ (by omega) _ (by omega)
    have h2 : 2 ≤ n → ConN Tryd.prog 36 [ledD es, iD ((low + Led.bl n : Nat) : Int), iD ((n - Led.bl n : Nat) : Int)] (gD (Led.spn HH es (low + Led.bl n) (n - Led.bl n))) := fun h2 => by
      have := Led.bl_spec h2
      exact ih _ (by omega) _ (by omega)
    by_cases hm : (n, low / n) ∈ Led.keys es.length
    · exact con_span_in es hn low n hl hm h1 h2
    · exact con_span_out es hn low n hl hm h1 h2
end Sx
end Go.Proofs.YtonjpfpdpfonnaaDoor
namespace Go.Proofs.YtonjpfpdpfonnaaDoor
open Go.RowKit
namespace Sx
set_option maxHeartbeats 4000000 in
set_option maxRecDepth 100000 in
theorem con_len (es : List Led.Ent) : ConN Tryd.prog 24 [ledD es] (iD (es.length : Int)) := by
  refine con_ofN Tryd.func24 (by kernel_rfl) rfl (by kernel_rfl) fun base w0 => ?_
  refine SW.seq ?_
  refine SW.region ?_
  refine SWl.rd rfl (Rd.assign rfl) ?_
  refine SWl.nil ?_
  refine SN.then ?_
  refine SW.seq ?_
  refine SW.seq ?_
  refine SW.region ?_
  refine SWl.rd rfl (Rd.move rfl) ?_
  refine SWl.rd rfl (Rd.eqPA rfl rfl (by kernel_rfl)) ?_
  refine SWl.nil ?_
  refine SN.then ?_
  refine SW.condF rfl (rfl) ?_
  refine SW.skip ?_
  refine SN.then ?_
  refine SW.seq ?_
  refine SW.region ?_
  refine SWl.rd rfl (Rd.move rfl) ?_
  refine SWl.rd rfl (Rd.nilCheckP rfl) ?_
  refine SWl.rd rfl (Rd.fieldR (n := 0) rfl (by kernel_rfl) (show 0 < 2 by decide)) ?_
  refine SWl.rd rfl (Rd.loadR rfl rfl (by kernel_rfl) (by simp)) ?_
  refine SWl.rd rfl (Rd.lenR (e := 44) rfl (by kernel_rfl)) ?_
  refine SWl.rd rfl (Rd.assign rfl) ?_
  refine SWl.nil ?_
  refine SN.then ?_
  refine SW.ret (fn := Tryd.f24) (fun _ _ h => h) (Rs.le (Rs.one rfl (ResV.tmp rfl)) ?_)
  exact le_nw_is
set_option maxHeartbeats 4000000 in
set_option maxRecDepth 100000 in
theorem con_root (es : List Led.Ent) (hn : es.length ≤ 100000) (n : Nat) (h : n ≤ es.length) : ConN Tryd.prog 13 [ledD es, iD (n : Int)] (tupD [bD (Led.root HH (es.take n)), iD 0]) := by
  refine con_ofN Tryd.func13 (by kernel_rfl) rfl (by kernel_rfl) fun base w0 => ?_
  refine SW.seq ?_
  refine SW.region ?_
  refine SWl.rd rfl (Rd.assign rfl) ?_
  refine SWl.rd rfl (Rd.assign rfl) ?_
  refine SWl.nil ?_
  refine SN.then ?_
  refine SW.seq ?_
  refine SW.seq ?_
  refine SW.region ?_
  refine SWl.rd rfl (Rd.move rfl) ?_
  refine SWl.rd rfl (Rd.eqPA rfl rfl (by kernel_rfl)) ?_
  refine SWl.nil ?_
  refine SN.then ?_
  refine SW.condF rfl (rfl) ?_
  refine SW.skip ?_
  refine SN.then ?_
  refine SW.seq ?_
  refine SW.seq ?_
  refine SW.region ?_
  refine SWl.rd rfl (Rd.move rfl) ?_
  refine SWl.rd rfl (Rd.lss rfl rfl) ?_
  refine SWl.rd rfl (Rd.move rfl) ?_
  refine SWl.rdg rfl rfl (by simp) rfl rfl (Rd.move rfl) ?_
  refine SWl.rdg rfl rfl (by simp) rfl rfl (Rd.move rfl) ?_
  refine SWl.rdg rfl rfl (by simp) rfl rfl (Rd.nilCheckP rfl) ?_
  refine SWl.rdg rfl rfl (by simp) rfl rfl (Rd.fieldR (n := 0) rfl (by kernel_rfl) (show 0 < 2 by decide)) ?_
  refine SWl.rdg rfl rfl (by simp) rfl rfl (Rd.loadR rfl rfl (by kernel_rfl) (by simp)) ?_
  refine SWl.rdg rfl rfl (by simp) rfl rfl (Rd.lenR (e := 44) rfl (by kernel_rfl)) ?_
  refine SWl.rdg rfl rfl (by simp) rfl rfl (Rd.gtr rfl rfl) ?_
  refine SWl.rd rfl (Rd.pickN rfl (by simp) rfl) ?_
  refine SWl.nil ?_
  refine SN.then ?_
  refine SW.condF rfl (by simp; omega) ?_
  refine SW.skip ?_
  refine SN.then ?_
  refine SW.seq ?_
  refine SW.region ?_
  refine SWl.rd rfl (Rd.move rfl) ?_
  refine SWl.rd rfl (Rd.move rfl) ?_
  refine SWl.ef (S := []) (Ef.callN [] (con_span es hn n 0 (by omega)) rfl ⟨(sees_le (Le.refl _)), (sees_le (Le.refl _)), (sees_le (Le.refl _)), trivial⟩ rfl) ?_
  rintro _ rfl
  refine SWl.ef (S := []) (Ef.alloc (zs := cellsOf (List.replicate 32 0)) (by kernel_rfl) rfl) ?_
  rintro _ ⟨g6, rfl⟩
  refine SWl.ef (S := [_]) (Ef.storeG 0 32 rfl rfl rfl (by kernel_rfl) (by first | assumption | simp) (by first | assumption | simp) (List.mem_singleton.2 rfl)) ?_
  rintro _ rfl
  refine SWl.nil ?_
  refine SN.then ?_
  refine SW.seq ?_
  refine SW.region ?_
  refine SWl.rd rfl (Rd.slArr (e := 5) (n := 32) rfl (by kernel_rfl) (by kernel_rfl)) ?_
  refine SWl.ef (S := []) (Ef.callNN [0] (con_cloneB _ (by simp)) rfl ⟨(sees_digest 0 rfl (by decide) (by first | assumption | simp)), trivial⟩ rfl) ?_
  rintro _ rfl
  refine SWl.rd rfl (Rd.assign rfl) ?_
  refine SWl.rd rfl (Rd.assign rfl) ?_
  refine SWl.nil ?_
  refine SN.then ?_
  refine SW.ret (fn := Tryd.f13) (fun _ _ h => h) (Rs.le (Rs.two rfl (ResV.tmp rfl) (ResV.tmp rfl)) ?_)
  exact (le_nw_tup ⟨(Le.refl _), le_nw_is, trivial⟩)
set_option maxHeartbeats 4000000 in
set_option maxRecDepth 100000 in
theorem con_at_no (es : List Led.Ent) (i : Int) (h : i < 0 ∨ (es.length : Int) ≤ i) : ConN Tryd.prog 20 [ledD es, iD i] (tupD [aggD [iD 0, bD []], iD 3]) := by
  refine con_ofN Tryd.func20 (by kernel_rfl) rfl (by kernel_rfl) fun base w0 => ?_
  refine SW.seq ?_
  refine SW.region ?_
  refine SWl.ef (S := []) (Ef.alloc (zs := [.int .i64 0, .slice none 0 0]) (by kernel_rfl) rfl) ?_
  rintro _ ⟨g4, rfl⟩
  refine SWl.rd rfl (Rd.assign rfl) ?_
  refine SWl.nil ?_
  refine SN.then ?_
  refine SW.seq ?_
  refine SW.seq ?_
  refine SW.region ?_
  refine SWl.rd rfl (Rd.move rfl) ?_
  refine SWl.rd rfl (Rd.eqPA rfl rfl (by kernel_rfl)) ?_
  refine SWl.nil ?_
  refine SN.then ?_
  refine SW.condF rfl (rfl) ?_
  refine SW.skip ?_
  refine SN.then ?_
  refine SW.seq ?_
  refine SW.seq ?_
  refine SW.region ?_
  refine SWl.rd rfl (Rd.move rfl) ?_
  refine SWl.rd rfl (Rd.lss rfl rfl) ?_
  refine SWl.rd rfl (Rd.move rfl) ?_
  refine SWl.split 11 rfl (fun hb11 => ?_) (fun hb11 => ?_)
  · skip
    refine SWl.off rfl rfl (hb11) rfl rfl ?_
    refine SWl.off rfl rfl (hb11) rfl rfl ?_
    refine SWl.off rfl rfl (hb11) rfl rfl ?_
    refine SWl.off rfl rfl (hb11) rfl rfl ?_
    refine SWl.off rfl rfl (hb11) rfl rfl ?_
    refine SWl.off rfl rfl (hb11) rfl rfl ?_
    refine SWl.off rfl rfl (hb11) rfl rfl ?_
    refine SWl.rd rfl (Rd.pickY rfl (hb11) rfl) ?_
    refine SWl.nil ?_
    refine SN.then ?_
    refine SW.condT rfl (rfl) ?_
    refine SW.seq ?_
    refine SW.region ?_
    refine SWl.rd rfl (Rd.build rfl rfl bldE0) ?_
    refine SWl.ef (S := [_]) (Ef.storeA 0 rfl rfl rfl (by kernel_rfl) rfl (List.mem_singleton.2 rfl)) ?_
    rintro _ rfl
    refine SWl.rd rfl (Rd.assign rfl) ?_
    refine SWl.nil ?_
    refine SN.then ?_
    refine SW.ret (fn := Tryd.f20) (fun _ _ h => h) (Rs.le (Rs.two rfl (ResV.cellA 0 rfl rfl (by kernel_rfl)) (ResV.tmp rfl)) ?_)
    exact le_nw_tup ⟨le_nw_agg ⟨le_nw_is, Le.trans (le_nw_is (x := .slice none 0 0)) (le_nw_mono (Nat.le_refl _) Le.nil_sl), trivial⟩, le_nw_is, trivial⟩
  · skip
    refine SWl.rdg rfl rfl (hb11) rfl rfl (Rd.move rfl) ?_
    refine SWl.rdg rfl rfl (hb11) rfl rfl (Rd.move rfl) ?_
    refine SWl.rdg rfl rfl (hb11) rfl rfl (Rd.nilCheckP rfl) ?_
    refine SWl.rdg rfl rfl (hb11) rfl rfl (Rd.fieldR (n := 0) rfl (by kernel_rfl) (show 0 < 2 by decide)) ?_
    refine SWl.rdg rfl rfl (hb11) rfl rfl (Rd.loadR rfl rfl (by kernel_rfl) (by simp)) ?_
    refine SWl.rdg rfl rfl (hb11) rfl rfl (Rd.lenR (e := 44) rfl (by kernel_rfl)) ?_
    refine SWl.rdg rfl rfl (hb11) rfl rfl (Rd.geq rfl rfl) ?_
    refine SWl.rd rfl (Rd.pickN rfl (hb11) rfl) ?_
    refine SWl.nil ?_
    refine SN.then ?_
    refine SW.condT rfl (by first | rfl | (apply decide_eq_true; simp at *; omega)) ?_
    refine SW.seq ?_
    refine SW.region ?_
    refine SWl.rd rfl (Rd.build rfl rfl bldE0) ?_
    refine SWl.ef (S := [_]) (Ef.storeA 0 rfl rfl rfl (by kernel_rfl) rfl (List.mem_singleton.2 rfl)) ?_
    rintro _ rfl
    refine SWl.rd rfl (Rd.assign rfl) ?_
    refine SWl.nil ?_
    refine SN.then ?_
    refine SW.ret (fn := Tryd.f20) (fun _ _ h => h) (Rs.le (Rs.two rfl (ResV.cellA 0 rfl rfl (by kernel_rfl)) (ResV.tmp rfl)) ?_)
    exact le_nw_tup ⟨le_nw_agg ⟨le_nw_is, Le.trans (le_nw_is (x := .slice none 0 0)) (le_nw_mono (Nat.le_refl _) Le.nil_sl), trivial⟩, le_nw_is, trivial⟩
set_option maxHeartbeats 4000000 in
set_option maxRecDepth 100000 in
theorem con_at (es : List Led.Ent) (i : Nat) (e : Led.Ent) (h : es[i]? = some e) (hb : e.bytes.length ≤ 1000000) : ConN Tryd.prog 20 [ledD es, iD (i : Int)] (tupD [aggD [iD e.kind, bD e.bytes], iD 0]) := by
  have hi := (List.getElem?_eq_some_iff.1 h).1
  refine con_ofN Tryd.func20 (by kernel_rfl) rfl (by kernel_rfl) fun base w0 => ?_
  refine SW.seq ?_
  refine SW.region ?_
  refine SWl.ef (S := []) (Ef.alloc (zs := [.int .i64 0, .slice none 0 0]) (by kernel_rfl) rfl) ?_
  rintro _ ⟨g4, rfl⟩
  refine SWl.rd rfl (Rd.assign rfl) ?_
  refine SWl.nil ?_
  refine SN.then ?_
  refine SW.seq ?_
  refine SW.seq ?_
  refine SW.region ?_
  refine SWl.rd rfl (Rd.move rfl) ?_
  refine SWl.rd rfl (Rd.eqPA rfl rfl (by kernel_rfl)) ?_
  refine SWl.nil ?_
  refine SN.then ?_
  refine SW.condF rfl (rfl) ?_
  refine SW.skip ?_
  refine SN.then ?_
  refine SW.seq ?_
  refine SW.seq ?_
  refine SW.region ?_
  refine SWl.rd rfl (Rd.move rfl) ?_
  refine SWl.rd rfl (Rd.lss rfl rfl) ?_
  refine SWl.rd rfl (Rd.move rfl) ?_
  refine SWl.rdg rfl rfl (by simp) rfl rfl (Rd.move rfl) ?_
  refine SWl.rdg rfl rfl (by simp) rfl rfl (Rd.move rfl) ?_
  refine SWl.rdg rfl rfl (by simp) rfl rfl (Rd.nilCheckP rfl) ?_
  refine SWl.rdg rfl rfl (by simp) rfl rfl (Rd.fieldR (n := 0) rfl (by kernel_rfl) (show 0 < 2 by decide)) ?_
  refine SWl.rdg rfl rfl (by simp) rfl rfl (Rd.loadR rfl rfl (by kernel_rfl) (by simp)) ?_
  refine SWl.rdg rfl rfl (by simp) rfl rfl (Rd.lenR (e := 44) rfl (by kernel_rfl)) ?_
  refine SWl.rdg rfl rfl (by simp) rfl rfl (Rd.geq rfl rfl) ?_
  refine SWl.rd rfl (Rd.pickN rfl (by simp) rfl) ?_
  refine SWl.nil ?_
  refine SN.then ?_
  refine SW.condF rfl (by simp; omega) ?_
  refine SW.skip ?_
  refine SN.then ?_
  refine SW.seq ?_
  refine SW.region ?_
  refine SWl.rd rfl (Rd.move rfl) ?_
  refine SWl.rd rfl (Rd.nilCheckP rfl) ?_
  refine SWl.rd rfl (Rd.fieldR (n := 0) rfl (by kernel_rfl) (show 0 < 2 by decide)) ?_
  refine SWl.rd rfl (Rd.loadR rfl rfl (by kernel_rfl) (by simp)) ?_
  refine SWl.rd rfl (Rd.move rfl) ?_
  refine SWl.rd rfl (Rd.idxL (e := 44) 2 rfl rfl (by kernel_rfl) (by kernel_rfl) (by omega) (by simpa using h)) ?_
  refine SWl.rd rfl (Rd.loadRA 2 rfl (by kernel_rfl) (by decide) (show 2 ≤ 2 by decide) (by simp)) ?_
  refine SWl.ef (S := []) (Ef.callNL [] (con_clone _ _ hb) rfl ⟨(sees_le (Le.refl _)), trivial⟩ le_nw_aggD rfl) ?_
  rintro _ rfl
  refine SWl.ef (S := [_]) (Ef.storeA 0 rfl rfl rfl (by kernel_rfl) rfl (List.mem_singleton.2 rfl)) ?_
  rintro _ rfl
  refine SWl.rd rfl (Rd.assign rfl) ?_
  refine SWl.nil ?_
  refine SN.then ?_
  refine SW.ret (fn := Tryd.f20) (fun _ _ h => h) (Rs.le (Rs.two rfl (ResV.cellA 0 rfl rfl (by kernel_rfl)) (ResV.tmp rfl)) ?_)
  exact (le_nw_tup ⟨(le_nw_agg ⟨(Le.refl _), (Le.refl _), trivial⟩), le_nw_is, trivial⟩)
end Sx
end Go.Proofs.YtonjpfpdpfonnaaDoor
