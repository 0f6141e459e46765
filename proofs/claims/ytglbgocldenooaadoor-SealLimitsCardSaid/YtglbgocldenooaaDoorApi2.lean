/-
  THE WALKS of blake.Keyed, New, valid, Write, (*Hash).Sum, Len, Copy.
-/
import Derived.Test.YtglbgocldenooaaDoorApi
namespace Go.Proofs.YtglbgocldenooaaDoor
open Go.RowKit

theorem results_row_tmp {P : Program} {fn : Func} {p u : Tmp} {ty : TypeId} (h : fn.results = #[.cell p ty, .tmp u]) (tmps : Array Value) (w : World) (g : Nat) (t : TypeId) (cs : List Value) (d : TypeDesc)
    (hp : tmps.getD p undef = .pointer (some ⟨g, 0, none⟩)) (hg : Blk w g t cs)
    (hu : P.underlying ty = some d) (hd : (match d with | .struct _ | .array _ _ => true | _ => false) = true) (hi : (P.info? ty).map (·.size) = some cs.length) :
    (results fn tmps).run P w = .ok (.tuple #[.agg cs.toArray, tmps.getD u undef]) w := by
  have hp' : tmps[p]?.getD undef = .pointer (some ⟨g, 0, none⟩) := by simpa using hp
  simp [results, h, hp', asAddr, run_loadVar_row w g t ty cs.toArray (0, 0) d hg hu hd (by simpa using hi)]

set_option maxHeartbeats 1000000 in
theorem keyed_any (w : World) (A : Option Addr) (c : Nat) (key : List UInt8) (hk1 : 1 ≤ key.length) (hk : key.length ≤ 32) (hc : key.length ≤ c) (hr : RB w A key)
    (B : Option Addr) (d : Nat) (b : List UInt8) (hd : b.length ≤ d) (hrb : RB w B b) (hbl : b.length ≤ 2305843009213693952) (hgl : Gl w) :
    Calls Tryd.prog 19 #[.slice A key.length c, .slice B b.length d] w fun e w' => e = .returned (.tuple #[.agg (cellsOf (Bl.hash key b)).toArray, .int .i64 0]) ∧ Only [] w w' := by
  have hl32 : (cellsOf (Bl.hash key b)).length = 32 := by simp
  have hs32 : (Tryd.prog.info? 24).map (·.size) = some (cellsOf (Bl.hash key b)).length := by rw [hl32]; exact arr32size
  have Hs32 := Lib.hid hs32
  have Hl32 := Lib.hid hl32
  clear hl32 hs32
  go_enter Tryd.func19, Tryd.ntmps19
  go_upto_region 1 with (fail)
  have hR1 := Blk.new w 24 (List.replicate 32 (Value.int .u8 0))
  have hO1 := (Only.refl [] w).alloc (.cells (List.replicate 32 (Value.int .u8 0)).toArray 24)
  have hs1 : (w.alloc (.cells (List.replicate 32 (Value.int .u8 0)).toArray 24)).heap.size = w.heap.size + 1 := by simp
  revert hR1 hO1 hs1
  simp only [List.replicate_succ, List.replicate_zero]
  generalize World.alloc _ _ = W1
  intro hR1 hO1 hs1
  have hs1' : w.heap.size < W1.heap.size := by omega
  clear hs1
  go_wp2_with fail
  have hO2 := hO1.alloc (.cells #[.slice B b.length d] 22)
  refine (hashOf_any _ A c key hk hc (hr.keep0 hO2) (hgl.keep hO2 (by simp) (by simp)) W1.heap.size B d b (by simp) (part_new _ _ _) hd (hrb.keep0 hO2) hbl).mono ?_
  rintro e W2 ⟨rfl, hO3⟩
  have hR2 := (hR1.alloc (.cells #[.slice B b.length d] 22)).keep hO3 (by simp)
  have hO4 := hO2.trans' hO3
  go_wp2_with (refine wpl_store_all rfl 24 _ _ rfl w.heap.size (cellsOf (Bl.hash key b)) rfl rfl 24 _ hR2 (by rw [Hl32.out]; rfl) Hs32.out cellsOf_one ?_; intro W5 hR5 hO5)
  exact bodyPost_ret (results_row_tmp rfl _ _ w.heap.size 24 (cellsOf (Bl.hash key b)) _ rfl hR5 Tryd.underlying24 rfl Hs32.out) rfl ⟨rfl, hO4.trans hO5 (by simp)⟩

/-- Thirty-two zero bytes as a value. -/
def zagg : Value := .agg (List.replicate 32 (Value.int .u8 0)).toArray
theorem zeros_one : ∀ v ∈ List.replicate 32 (Value.int .u8 0), v.oneCell' = true := by intro v hv; rw [List.eq_of_mem_replicate hv]; rfl

set_option maxHeartbeats 1000000 in
theorem keyed_no (w : World) (A : Option Addr) (n c : Nat) (B : Value) (hk : n < 1 ∨ 32 < n) :
    Calls Tryd.prog 19 #[.slice A n c, B] w fun e w' => e = .returned (.tuple #[zagg, .int .i64 2]) ∧ Only [] w w' := by
  have hs32 : (Tryd.prog.info? 24).map (·.size) = some (List.replicate 32 (Value.int .u8 0)).length := arr32size
  have Hs32 := Lib.hid hs32
  clear hs32
  rcases hk with hk | hk
  · have hk' : decide ((n : Int) < 1) = true := by simp; omega
    go_enter Tryd.func19, Tryd.ntmps19
    go_wp2_with (first | (refine wpl_build rfl 24 _ rfl zagg ?hb ?_; case hb => kernel_rfl) | (refine wpl_store_all rfl 24 _ _ rfl w.heap.size (List.replicate 32 (Value.int .u8 0)) rfl rfl 24 _ (Blk.new w 24 (List.replicate 32 (Value.int .u8 0))) rfl Hs32.out zeros_one ?_; intro W5 hR5 hO5))
    exact bodyPost_ret (results_row_tmp rfl _ _ w.heap.size 24 (List.replicate 32 (Value.int .u8 0)) _ rfl hR5 Tryd.underlying24 rfl Hs32.out) rfl ⟨rfl, ((Only.refl [] w).alloc _).trans hO5 (by simp)⟩
  · have hk' : (32 : Int) < (n : Int) := by omega
    go_enter Tryd.func19, Tryd.ntmps19
    go_wp2_with (first | (refine wpl_build rfl 24 _ rfl zagg ?hb ?_; case hb => kernel_rfl) | (refine wpl_store_all rfl 24 _ _ rfl w.heap.size (List.replicate 32 (Value.int .u8 0)) rfl rfl 24 _ (Blk.new w 24 (List.replicate 32 (Value.int .u8 0))) rfl Hs32.out zeros_one ?_; intro W5 hR5 hO5))
    exact bodyPost_ret (results_row_tmp rfl _ _ w.heap.size 24 (List.replicate 32 (Value.int .u8 0)) _ rfl hR5 Tryd.underlying24 rfl Hs32.out) rfl ⟨rfl, ((Only.refl [] w).alloc _).trans hO5 (by simp)⟩

theorem new_any (w : World) (A : Option Addr) (c : Nat) (key : List UInt8) (hk : key.length ≤ 32) (hc : key.length ≤ c) (hr : RB w A key) (hgl : Gl w) :
    Calls Tryd.prog 20 #[.slice A key.length c] w fun e w' => e = .returned (.tuple #[.pointer (some ⟨w.heap.size, 0, none⟩), .int .i64 0]) ∧ HS w' w.heap.size key.length (Bl.kblock key) 0 ∧ Only [] w w' := by
  go_enter Tryd.func20, Tryd.ntmps20
  go_wp2_with (go_at_call 42; refine (start_any w A c key hk hc hr hgl).mono ?_; rintro e W2 ⟨rfl, hS2, hO2⟩)
  go_ret2
  exact ⟨rfl, hS2, hO2⟩
theorem new_no (w : World) (A : Option Addr) (n c : Nat) (hk : (32 : Int) < (n : Int)) :
    Calls Tryd.prog 20 #[.slice A n c] w fun e w' => e = .returned (.tuple #[.pointer none, .int .i64 2]) ∧ w = w' := by
  go_enter Tryd.func20, Tryd.ntmps20
  go_wp2
  go_ret2
  exact ⟨rfl, rfl⟩

theorem valid_yes (w : World) (gh : Nat) (h : w.cell? ⟨gh, 0, none⟩ = some (.bool true)) :
    Calls Tryd.prog 43 #[.pointer (some ⟨gh, 0, none⟩)] w fun e w' => e = .returned (.bool true) ∧ w = w' := by
  go_enter Tryd.func43, Tryd.ntmps43
  go_wp2
  go_ret
  exact ⟨rfl, rfl⟩
theorem valid_zero (w : World) (gh : Nat) (h : w.cell? ⟨gh, 0, none⟩ = some (.bool false)) :
    Calls Tryd.prog 43 #[.pointer (some ⟨gh, 0, none⟩)] w fun e w' => e = .returned (.bool false) ∧ w = w' := by
  go_enter Tryd.func43, Tryd.ntmps43
  go_wp2
  go_ret
  exact ⟨rfl, rfl⟩
theorem valid_nil (w : World) :
    Calls Tryd.prog 43 #[.pointer none] w fun e w' => e = .returned (.bool false) ∧ w = w' := by
  go_enter Tryd.func43, Tryd.ntmps43
  go_wp2
  go_ret
  exact ⟨rfl, rfl⟩
/-- A pointer that is no computation: nil, or to a zero Hash. -/
def NoHash (w : World) (v : Value) : Prop := v = .pointer none ∨ ∃ g, v = .pointer (some ⟨g, 0, none⟩) ∧ w.cell? ⟨g, 0, none⟩ = some (.bool false)
theorem valid_no (w : World) (v : Value) (h : NoHash w v) : Calls Tryd.prog 43 #[v] w fun e w' => e = .returned (.bool false) ∧ w = w' := by
  rcases h with rfl | ⟨g, rfl, h⟩
  · exact valid_nil w
  · exact valid_zero w g h

set_option maxHeartbeats 1000000 in
theorem write_any (w : World) (gh nk : Nat) (M : List UInt8) (wt : Nat) (B : Option Addr) (d : Nat) (b : List UInt8) (hS : HS w gh nk M wt) (hd : b.length ≤ d) (hrb : RB w B b) (hB : 0 < b.length → ∀ p, B = some p → p.block ≠ gh)
    (hnk : nk ≤ 32) (hw1 : wt + b.length ≤ 4611686018427387904) (hw2 : M.length + b.length ≤ 4611686018427387904) (hgl : Gl w) (hg2 : 2 ≤ gh) :
    Calls Tryd.prog 21 #[.pointer (some ⟨gh, 0, none⟩), .slice B b.length d] w fun e w' => e = .returned (.int .i64 0) ∧ HS w' gh nk (M ++ b) (wt + b.length) ∧ Only [gh] w w' := by
  have hlt := hS.lt
  go_enter Tryd.func21, Tryd.ntmps21
  go_upto_region 3 with (go_at_call 43; refine (valid_yes w gh hS.made).mono ?_; rintro e w' ⟨rfl, rfl⟩)
  go_wp2_with fail
  have hO2 := (Only.refl [] w).alloc (.cells #[.slice B b.length d] 22)
  refine (absorb_any _ gh nk M b wt w.heap.size d B (hS.keep hO2 (by simp)) (by omega) (by simp) (part_new _ _ _) hd (hrb.keep0 hO2) hB hnk hw1 hw2 (hgl.keep hO2 (by simp) (by simp)) hg2).mono ?_
  rintro e W2 ⟨rfl, hS3, hO3⟩
  go_wp2
  go_ret
  exact ⟨rfl, hS3, (hO2.mono (by simp)).trans' hO3⟩
theorem write_no (w : World) (v B : Value) (h : NoHash w v) :
    Calls Tryd.prog 21 #[v, B] w fun e w' => e = .returned (.int .i64 1) ∧ w = w' := by
  go_enter Tryd.func21, Tryd.ntmps21
  go_wp2_with (go_at_call 43; refine (valid_no w v h).mono ?_; rintro e w' ⟨rfl, rfl⟩)
  go_ret
  exact ⟨rfl, rfl⟩
theorem len_any (w : World) (gh nk : Nat) (M : List UInt8) (wt : Nat) (hS : HS w gh nk M wt) (hnk : nk ≤ 32) :
    Calls Tryd.prog 23 #[.pointer (some ⟨gh, 0, none⟩)] w fun e w' => e = .returned (.int .i64 wt) ∧ w = w' := by
  have hc := hS.written hnk
  go_enter Tryd.func23, Tryd.ntmps23
  go_wp2_with (go_at_call 43; refine (valid_yes w gh hS.made).mono ?_; rintro e w' ⟨rfl, rfl⟩)
  go_ret
  exact ⟨rfl, rfl⟩
theorem len_no (w : World) (v : Value) (h : NoHash w v) :
    Calls Tryd.prog 23 #[v] w fun e w' => e = .returned (.int .i64 0) ∧ w = w' := by
  go_enter Tryd.func23, Tryd.ntmps23
  go_wp2_with (go_at_call 43; refine (valid_no w v h).mono ?_; rintro e w' ⟨rfl, rfl⟩)
  go_ret
  exact ⟨rfl, rfl⟩
theorem copy_no (w : World) (v : Value) (h : NoHash w v) :
    Calls Tryd.prog 24 #[v] w fun e w' => e = .returned (.pointer none) ∧ w = w' := by
  go_enter Tryd.func24, Tryd.ntmps24
  go_wp2_with (go_at_call 43; refine (valid_no w v h).mono ?_; rintro e w' ⟨rfl, rfl⟩)
  go_ret
  exact ⟨rfl, rfl⟩
end Go.Proofs.YtglbgocldenooaaDoor
