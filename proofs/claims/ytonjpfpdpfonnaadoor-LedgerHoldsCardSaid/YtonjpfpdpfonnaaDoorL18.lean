/-
  LEDGERS: next, and what is deferred.
-/
import Derived.Test.YtonjpfpdpfonnaaDoorL17
namespace Go.Proofs.YtonjpfpdpfonnaaDoor
open Go.RowKit
namespace Sx
section
variable {P : Program} {Γ : Cx} {σ : St} {S : List Nat} {dst : Option Tmp} {ty : TypeId} {pos : String} {af : Array Edge} {gd : Option (Nat × Bool)} {d d' : D} {Q : Exit → Act → World → Prop} {a : Act} {w : World}
def ifaceT (P : Program) (T : Nat) : Bool := match P.underlying T with | some (.interface _) => true | _ => false
theorem run_eqIn_iface (n : Nat) {T U : Nat} {v : Value} {w : World} (hT : ifaceT P T = true) : (Op.equalIn (n + 1) T (.iface U v) .nilIface).run P w = .ok false w := by
  unfold ifaceT at hT
  split at hT
  · rename_i m hu
    simp [Op.equalIn, run_underlying hu]
  · cases hT
theorem run_eqIn_nilI (n : Nat) {T : Nat} {w : World} (hT : ifaceT P T = true) : (Op.equalIn (n + 1) T .nilIface .nilIface).run P w = .ok true w := by
  unfold ifaceT at hT
  split at hT
  · rename_i m hu
    simp [Op.equalIn, run_underlying hu]
  · cases hT
theorem Rd.neI {x : Operand} {T U yT : Nat} {v : Value} (hx : σ.ev x = some (isD (.iface U v))) (hT : ifaceT P T = true) : Rd P Γ S ⟨dst, .binOp .neq T x (.const .nilIface) yT, ty, pos, af, gd⟩ σ (isD (.bool true)) := Rd.bin hx (y := .const .nilIface) (v := .nilIface) rfl fun w => by
  have h : (Op.equal T (.iface U v) .nilIface).run P w = .ok false w := run_eqIn_iface 9999 hT
  simp [eqGuard, binOp, h]
theorem Rd.neI0 {x : Operand} {T yT : Nat} (hx : σ.ev x = some (isD .nilIface)) (hT : ifaceT P T = true) : Rd P Γ S ⟨dst, .binOp .neq T x (.const .nilIface) yT, ty, pos, af, gd⟩ σ (isD (.bool false)) := Rd.bin hx (y := .const .nilIface) (v := .nilIface) rfl fun w => by
  have h : (Op.equal T .nilIface .nilIface).run P w = .ok true w := run_eqIn_nilI 9999 hT
  simp [eqGuard, binOp, h]
/-- A struct of an int and bytes: the bytes are looked at as a thing without blocks. -/
theorem Holds.lookE (h : Holds Γ σ a w) {k : Nat} {q : D} {b : List UInt8} (hk : σ.tm k = some (aggD [q, bD b])) : ∃ A c, Holds Γ ((⟨σ.tm, σ.bx ++ [.r [] (viewR (.slice A b.length c) (cellsOf b))]⟩ : St).put k (aggD [q, isD (.slice A b.length c)])) a w := by
  obtain ⟨cs, hv, ha⟩ := h.tm k _ hk
  match cs, ha with
  | [u, v], ⟨h1, h2, _⟩ =>
    obtain ⟨A, c, rfl, hc, hr, hb⟩ := h2
    rw [cellsOf_length] at hc hv
    refine ⟨A, c, ?_⟩
    have h3 := h.more (Only.refl [] w) (b := .r [] (viewR (.slice A b.length c) (cellsOf b))) ⟨⟨A, c, by rw [cellsOf_length], by rw [cellsOf_length]; exact hc, hr, fun h0 p hp => .inr (hb h0 p hp)⟩, by simp⟩ (by simp [Box.fp]) (by simp [Box.fp])
    refine h3.learn ⟨[u, .slice A b.length c], hv, q.less h1 (fun x hx => ?_), rfl, trivial⟩
    left
    simpa [St.L, fps, Box.fp] using hx
theorem SWl.lookE {ops : Array Oper} {lo : List Oper} (k : Nat) {q : D} {b : List UInt8} (hk : σ.tm k = some (aggD [q, bD b])) (h : ∀ A c, SWl P Γ ops Q lo ((⟨σ.tm, σ.bx ++ [.r [] (viewR (.slice A b.length c) (cellsOf b))]⟩ : St).put k (aggD [q, isD (.slice A b.length c)]))) : SWl P Γ ops Q lo σ := fun a w hh => by
  obtain ⟨A, c, h1⟩ := hh.lookE hk
  exact h A c a w h1
theorem SN.retDf {fn : Func} {nt : Nat} {base : List Nat} {w0 : World} {pre post : List Box} (js : List Nat) (h : Rs P ⟨nt, base, w0, fps pre, []⟩ fn σ (isD (.tuple #[]))) (hjs : js.Nodup) (hb : SubBx σ.bx js post) :
    SN ⟨nt, base, w0, fps pre, []⟩ (bodyPost P fn (fun e w' => (∃ r, e = .returned r) ∧ (∀ b ∈ post, b.R (fps post ++ base) w') ∧ (fps post).Nodup ∧ (∀ g ∈ fps post, g ∈ fps pre ∨ w0.heap.size ≤ g) ∧ Only (fps pre) w0 w')) σ := by
  intro a w hh
  obtain ⟨v, h1, i, v', h2, h3, h4⟩ := Sx.retR (post := fun _ : Unit => post) (d := fun _ => isD (.tuple #[])) () js h hjs hb hh
  exact bodyPost_end h1 hh.df ⟨⟨v, rfl⟩, h4⟩
end
theorem bldF1 {k : Int} : Bld Tryd.prog 93 [0] [iD k] [iD k] := fun L w vs hv => by
  obtain ⟨x, rfl, rfl⟩ := all1 hv
  exact ⟨[.int .i64 k], ⟨rfl, trivial⟩, fun w' => by kernel_rfl⟩
/-- What an encoding that is not valid leaves with. -/
abbrev failV (k : Int) : Value := .iface 93 (.agg ([.int .i64 k] : List Value).toArray)
abbrev NextP (b : List UInt8) (c : Nat) (k : Int) : Prop := ConP Tryd.prog 52 [bD b, iD (c : Int)] (pan (failV k))
set_option maxHeartbeats 4000000 in
set_option maxRecDepth 100000 in
theorem con_next_full (b : List UInt8) (c : Nat) (h1 : 4096 ≤ c) : ConP Tryd.prog 52 [bD b, iD (c : Int)] (pan (failV 7)) := by
  refine con_ofP Tryd.func52 (by kernel_rfl) rfl (by kernel_rfl) fun base w0 => ?_
  refine SW.seq ?_
  refine SW.region ?_
  refine SWl.ef (S := []) (Ef.alloc (zs := [.int .i64 0, .slice none 0 0]) (by kernel_rfl) rfl) ?_
  rintro _ ⟨g4, rfl⟩
  refine SWl.rd rfl (Rd.assign rfl) ?_
  refine SWl.nil ?_
  refine SN.then ?_
  refine SW.seq ?_
  refine SW.seq ?_
  refine SW.region ?_
  refine SWl.rd rfl (Rd.move rfl) ?_
  refine SWl.rd rfl (Rd.geq rfl rfl) ?_
  refine SWl.nil ?_
  refine SN.then ?_
  refine SW.condT rfl (by simp; omega) ?_
  refine SW.region ?_
  refine SWl.rd rfl (Rd.build rfl rfl bldF1) ?_
  refine SWl.rd rfl (Rd.makeI rfl (le_agg_is (vs := [.int .i64 7])) (by kernel_rfl)) ?_
  refine SWl.panic rfl ?_
  repeat (first | refine SP.then ?_ | refine SP.block ?_)
  exact SP.fn
set_option maxHeartbeats 4000000 in
set_option maxRecDepth 100000 in
theorem con_next_short (b : List UInt8) (c : Nat) (h1 : ¬ 4096 ≤ c) (h2 : b.length < 5) : ConP Tryd.prog 52 [bD b, iD (c : Int)] (pan (failV 4)) := by
  refine con_ofP Tryd.func52 (by kernel_rfl) rfl (by kernel_rfl) fun base w0 => ?_
  refine SW.seq ?_
  refine SW.region ?_
  refine SWl.ef (S := []) (Ef.alloc (zs := [.int .i64 0, .slice none 0 0]) (by kernel_rfl) rfl) ?_
  rintro _ ⟨g4, rfl⟩
  refine SWl.rd rfl (Rd.assign rfl) ?_
  refine SWl.nil ?_
  refine SN.then ?_
  refine SW.seq ?_
  refine SW.seq ?_
  refine SW.region ?_
  refine SWl.rd rfl (Rd.move rfl) ?_
  refine SWl.rd rfl (Rd.geq rfl rfl) ?_
  refine SWl.nil ?_
  refine SN.then ?_
  refine SW.condF rfl (by simp; omega) ?_
  refine SW.skip ?_
  refine SN.then ?_
  refine SW.seq ?_
  refine SW.seq ?_
  refine SW.region ?_
  refine SWl.rd rfl (Rd.move rfl) ?_
  refine SWl.rd rfl (Rd.len (e := 5) rfl (by kernel_rfl)) ?_
  refine SWl.rd rfl (Rd.lss rfl rfl) ?_
  refine SWl.nil ?_
  refine SN.then ?_
  refine SW.condT rfl (by simp; omega) ?_
  refine SW.region ?_
  refine SWl.rd rfl (Rd.build rfl rfl bldF1) ?_
  refine SWl.rd rfl (Rd.makeI rfl (le_agg_is (vs := [.int .i64 4])) (by kernel_rfl)) ?_
  refine SWl.panic rfl ?_
  repeat (first | refine SP.then ?_ | refine SP.block ?_)
  exact SP.fn
set_option maxHeartbeats 4000000 in
set_option maxRecDepth 100000 in
theorem con_next_form (b : List UInt8) (c : Nat) (hb : b.length ≤ 9223372036854775807) (h1 : ¬ 4096 ≤ c) (h2 : ¬ b.length < 5) (h3 : 65536 < Led.rd4 b) : ConP Tryd.prog 52 [bD b, iD (c : Int)] (pan (failV 6)) := by
  have u0 := (b.getD 0 0).toNat_lt
  have u1 := (b.getD 1 0).toNat_lt
  have u2 := (b.getD 2 0).toNat_lt
  have u3 := (b.getD 3 0).toNat_lt
  have u4 := (b.getD 4 0).toNat_lt
  refine con_ofP Tryd.func52 (by kernel_rfl) rfl (by kernel_rfl) fun base w0 => ?_
  refine SW.seq ?_
  refine SW.region ?_
  refine SWl.ef (S := []) (Ef.alloc (zs := [.int .i64 0, .slice none 0 0]) (by kernel_rfl) rfl) ?_
  rintro _ ⟨g4, rfl⟩
  refine SWl.rd rfl (Rd.assign rfl) ?_
  refine SWl.nil ?_
  refine SN.then ?_
  refine SW.seq ?_
  refine SW.seq ?_
  refine SW.region ?_
  refine SWl.rd rfl (Rd.move rfl) ?_
  refine SWl.rd rfl (Rd.geq rfl rfl) ?_
  refine SWl.nil ?_
  refine SN.then ?_
  refine SW.condF rfl (by simp; omega) ?_
  refine SW.skip ?_
  refine SN.then ?_
  refine SW.seq ?_
  refine SW.seq ?_
  refine SW.region ?_
  refine SWl.rd rfl (Rd.move rfl) ?_
  refine SWl.rd rfl (Rd.len (e := 5) rfl (by kernel_rfl)) ?_
  refine SWl.rd rfl (Rd.lss rfl rfl) ?_
  refine SWl.nil ?_
  refine SN.then ?_
  refine SW.condF rfl (by simp; omega) ?_
  refine SW.skip ?_
  refine SN.then ?_
  refine SW.seq ?_
  refine SW.draw [] (.r 0 (.r 1 (.r 2 (.r 3 (.r 4 (.r 5 (.r 6 (.r 7 (.r 8 (.r 9 (.r 10 (.r 11 (.r 12 (.r 13 (.r 14 (.r 15 (.r 16 (.r 17 (.r 18 (.r 19 (.r 20 (.r 21 (.r 22 .fin))))))))))))))))))))))) (by kernel_rfl) (by kernel_rfl) (fun d _ _ _ _ h => by cases d <;> exact h) ?_
  refine SWz.rd (i := 0) rfl rfl (Rd.move rfl) ?_
  refine SWz.rd (i := 1) rfl rfl (Rd.idx (e := 5) rfl rfl (by kernel_rfl) (by kernel_rfl) (by decide) (cells_getD (i := 1) (by omega))) ?_
  refine SWz.rd (i := 2) rfl rfl (Rd.loadP rfl (by kernel_rfl) (by simp)) ?_
  refine SWz.rd (i := 3) rfl rfl (Rd.cvW .u8 rfl (by kernel_rfl) (by kernel_rfl) (cv_i64 u1)) ?_
  refine SWz.rd (i := 4) rfl rfl (Rd.shlW (s := 24) rfl rfl (shl_i64 (c := (b.getD 1 0).toNat * 16777216) (by decide) (by omega) (by omega))) ?_
  refine SWz.rd (i := 5) rfl rfl (Rd.move rfl) ?_
  refine SWz.rd (i := 6) rfl rfl (Rd.idx (e := 5) rfl rfl (by kernel_rfl) (by kernel_rfl) (by decide) (cells_getD (i := 2) (by omega))) ?_
  refine SWz.rd (i := 7) rfl rfl (Rd.loadP rfl (by kernel_rfl) (by simp)) ?_
  refine SWz.rd (i := 8) rfl rfl (Rd.cvW .u8 rfl (by kernel_rfl) (by kernel_rfl) (cv_i64 u2)) ?_
  refine SWz.rd (i := 9) rfl rfl (Rd.shlW (s := 16) rfl rfl (shl_i64 (c := (b.getD 2 0).toNat * 65536) (by decide) (by omega) (by omega))) ?_
  refine SWz.rd (i := 10) rfl rfl (Rd.orW rfl rfl (or_i64 (s := 24) (c := (b.getD 1 0).toNat * 16777216 + (b.getD 2 0).toNat * 65536) (by omega) (by omega) rfl (by omega))) ?_
  refine SWz.rd (i := 11) rfl rfl (Rd.move rfl) ?_
  refine SWz.rd (i := 12) rfl rfl (Rd.idx (e := 5) rfl rfl (by kernel_rfl) (by kernel_rfl) (by decide) (cells_getD (i := 3) (by omega))) ?_
  refine SWz.rd (i := 13) rfl rfl (Rd.loadP rfl (by kernel_rfl) (by simp)) ?_
  refine SWz.rd (i := 14) rfl rfl (Rd.cvW .u8 rfl (by kernel_rfl) (by kernel_rfl) (cv_i64 u3)) ?_
  refine SWz.rd (i := 15) rfl rfl (Rd.shlW (s := 8) rfl rfl (shl_i64 (c := (b.getD 3 0).toNat * 256) (by decide) (by omega) (by omega))) ?_
  refine SWz.rd (i := 16) rfl rfl (Rd.orW rfl rfl (or_i64 (s := 16) (c := (b.getD 1 0).toNat * 16777216 + (b.getD 2 0).toNat * 65536 + (b.getD 3 0).toNat * 256) (by omega) (by omega) rfl (by omega))) ?_
  refine SWz.rd (i := 17) rfl rfl (Rd.move rfl) ?_
  refine SWz.rd (i := 18) rfl rfl (Rd.idx (e := 5) rfl rfl (by kernel_rfl) (by kernel_rfl) (by decide) (cells_getD (i := 4) (by omega))) ?_
  refine SWz.rd (i := 19) rfl rfl (Rd.loadP rfl (by kernel_rfl) (by simp)) ?_
  refine SWz.rd (i := 20) rfl rfl (Rd.cvW .u8 rfl (by kernel_rfl) (by kernel_rfl) (cv_i64 u4)) ?_
  refine SWz.rd (i := 21) rfl rfl (Rd.orW rfl rfl (or_i64 (s := 8) (c := Led.rd4 b) (by omega) (by omega) (by unfold Led.rd4; omega) (by unfold Led.rd4; omega))) ?_
  refine SWz.rd (i := 22) rfl rfl (Rd.assign rfl) ?_
  refine SWz.nil ?_
  refine SN.then ?_
  refine SW.seq ?_
  refine SW.seq ?_
  refine SW.region ?_
  refine SWl.rd rfl (Rd.move rfl) ?_
  refine SWl.rd rfl (Rd.gtr rfl rfl) ?_
  refine SWl.nil ?_
  refine SN.then ?_
  refine SW.condT rfl (by simp; omega) ?_
  refine SW.region ?_
  refine SWl.rd rfl (Rd.build rfl rfl bldF1) ?_
  refine SWl.rd rfl (Rd.makeI rfl (le_agg_is (vs := [.int .i64 6])) (by kernel_rfl)) ?_
  refine SWl.panic rfl ?_
  repeat (first | refine SP.then ?_ | refine SP.block ?_)
  exact SP.fn
set_option maxHeartbeats 4000000 in
set_option maxRecDepth 100000 in
theorem con_next_short2 (b : List UInt8) (c : Nat) (hb : b.length ≤ 9223372036854775807) (h1 : ¬ 4096 ≤ c) (h2 : ¬ b.length < 5) (h3 : ¬ 65536 < Led.rd4 b) (h4 : b.length < 5 + Led.rd4 b) : ConP Tryd.prog 52 [bD b, iD (c : Int)] (pan (failV 4)) := by
  have u0 := (b.getD 0 0).toNat_lt
  have u1 := (b.getD 1 0).toNat_lt
  have u2 := (b.getD 2 0).toNat_lt
  have u3 := (b.getD 3 0).toNat_lt
  have u4 := (b.getD 4 0).toNat_lt
  refine con_ofP Tryd.func52 (by kernel_rfl) rfl (by kernel_rfl) fun base w0 => ?_
  refine SW.seq ?_
  refine SW.region ?_
  refine SWl.ef (S := []) (Ef.alloc (zs := [.int .i64 0, .slice none 0 0]) (by kernel_rfl) rfl) ?_
  rintro _ ⟨g4, rfl⟩
  refine SWl.rd rfl (Rd.assign rfl) ?_
  refine SWl.nil ?_
  refine SN.then ?_
  refine SW.seq ?_
  refine SW.seq ?_
  refine SW.region ?_
  refine SWl.rd rfl (Rd.move rfl) ?_
  refine SWl.rd rfl (Rd.geq rfl rfl) ?_
  refine SWl.nil ?_
  refine SN.then ?_
  refine SW.condF rfl (by simp; omega) ?_
  refine SW.skip ?_
  refine SN.then ?_
  refine SW.seq ?_
  refine SW.seq ?_
  refine SW.region ?_
  refine SWl.rd rfl (Rd.move rfl) ?_
  refine SWl.rd rfl (Rd.len (e := 5) rfl (by kernel_rfl)) ?_
  refine SWl.rd rfl (Rd.lss rfl rfl) ?_
  refine SWl.nil ?_
  refine SN.then ?_
  refine SW.condF rfl (by simp; omega) ?_
  refine SW.skip ?_
  refine SN.then ?_
  refine SW.seq ?_
  refine SW.draw [] (.r 0 (.r 1 (.r 2 (.r 3 (.r 4 (.r 5 (.r 6 (.r 7 (.r 8 (.r 9 (.r 10 (.r 11 (.r 12 (.r 13 (.r 14 (.r 15 (.r 16 (.r 17 (.r 18 (.r 19 (.r 20 (.r 21 (.r 22 .fin))))))))))))))))))))))) (by kernel_rfl) (by kernel_rfl) (fun d _ _ _ _ h => by cases d <;> exact h) ?_
  refine SWz.rd (i := 0) rfl rfl (Rd.move rfl) ?_
  refine SWz.rd (i := 1) rfl rfl (Rd.idx (e := 5) rfl rfl (by kernel_rfl) (by kernel_rfl) (by decide) (cells_getD (i := 1) (by omega))) ?_
  refine SWz.rd (i := 2) rfl rfl (Rd.loadP rfl (by kernel_rfl) (by simp)) ?_
  refine SWz.rd (i := 3) rfl rfl (Rd.cvW .u8 rfl (by kernel_rfl) (by kernel_rfl) (cv_i64 u1)) ?_
  refine SWz.rd (i := 4) rfl rfl (Rd.shlW (s := 24) rfl rfl (shl_i64 (c := (b.getD 1 0).toNat * 16777216) (by decide) (by omega) (by omega))) ?_
  refine SWz.rd (i := 5) rfl rfl (Rd.move rfl) ?_
  refine SWz.rd (i := 6) rfl rfl (Rd.idx (e := 5) rfl rfl (by kernel_rfl) (by kernel_rfl) (by decide) (cells_getD (i := 2) (by omega))) ?_
  refine SWz.rd (i := 7) rfl rfl (Rd.loadP rfl (by kernel_rfl) (by simp)) ?_
  refine SWz.rd (i := 8) rfl rfl (Rd.cvW .u8 rfl (by kernel_rfl) (by kernel_rfl) (cv_i64 u2)) ?_
  refine SWz.rd (i := 9) rfl rfl (Rd.shlW (s := 16) rfl rfl (shl_i64 (c := (b.getD 2 0).toNat * 65536) (by decide) (by omega) (by omega))) ?_
  refine SWz.rd (i := 10) rfl rfl (Rd.orW rfl rfl (or_i64 (s := 24) (c := (b.getD 1 0).toNat * 16777216 + (b.getD 2 0).toNat * 65536) (by omega) (by omega) rfl (by omega))) ?_
  refine SWz.rd (i := 11) rfl rfl (Rd.move rfl) ?_
  refine SWz.rd (i := 12) rfl rfl (Rd.idx (e := 5) rfl rfl (by kernel_rfl) (by kernel_rfl) (by decide) (cells_getD (i := 3) (by omega))) ?_
  refine SWz.rd (i := 13) rfl rfl (Rd.loadP rfl (by kernel_rfl) (by simp)) ?_
  refine SWz.rd (i := 14) rfl rfl (Rd.cvW .u8 rfl (by kernel_rfl) (by kernel_rfl) (cv_i64 u3)) ?_
  refine SWz.rd (i := 15) rfl rfl (Rd.shlW (s := 8) rfl rfl (shl_i64 (c := (b.getD 3 0).toNat * 256) (by decide) (by omega) (by omega))) ?_
  refine SWz.rd (i := 16) rfl rfl (Rd.orW rfl rfl (or_i64 (s := 16) (c := (b.getD 1 0).toNat * 16777216 + (b.getD 2 0).toNat * 65536 + (b.getD 3 0).toNat * 256) (by omega) (by omega) rfl (by omega))) ?_
  refine SWz.rd (i := 17) rfl rfl (Rd.move rfl) ?_
  refine SWz.rd (i := 18) rfl rfl (Rd.idx (e := 5) rfl rfl (by kernel_rfl) (by kernel_rfl) (by decide) (cells_getD (i := 4) (by omega))) ?_
  refine SWz.rd (i := 19) rfl rfl (Rd.loadP rfl (by kernel_rfl) (by simp)) ?_
  refine SWz.rd (i := 20) rfl rfl (Rd.cvW .u8 rfl (by kernel_rfl) (by kernel_rfl) (cv_i64 u4)) ?_
  refine SWz.rd (i := 21) rfl rfl (Rd.orW rfl rfl (or_i64 (s := 8) (c := Led.rd4 b) (by omega) (by omega) (by unfold Led.rd4; omega) (by unfold Led.rd4; omega))) ?_
  refine SWz.rd (i := 22) rfl rfl (Rd.assign rfl) ?_
  refine SWz.nil ?_
  refine SN.then ?_
  refine SW.seq ?_
  refine SW.seq ?_
  refine SW.region ?_
  refine SWl.rd rfl (Rd.move rfl) ?_
  refine SWl.rd rfl (Rd.gtr rfl rfl) ?_
  refine SWl.nil ?_
  refine SN.then ?_
  refine SW.condF rfl (by simp; omega) ?_
  refine SW.skip ?_
  refine SN.then ?_
  refine SW.seq ?_
  refine SW.seq ?_
  refine SW.region ?_
  refine SWl.rd rfl (Rd.move rfl) ?_
  refine SWl.rd rfl (Rd.len (e := 5) rfl (by kernel_rfl)) ?_
  refine SWl.rd rfl (Rd.subi rfl rfl ⟨by simp; omega, by simp; omega⟩) ?_
  refine SWl.rd rfl (Rd.move rfl) ?_
  refine SWl.rd rfl (Rd.lss rfl rfl) ?_
  refine SWl.nil ?_
  refine SN.then ?_
  refine SW.condT rfl (by simp; omega) ?_
  refine SW.region ?_
  refine SWl.rd rfl (Rd.build rfl rfl bldF1) ?_
  refine SWl.rd rfl (Rd.makeI rfl (le_agg_is (vs := [.int .i64 4])) (by kernel_rfl)) ?_
  refine SWl.panic rfl ?_
  repeat (first | refine SP.then ?_ | refine SP.block ?_)
  exact SP.fn
theorem con_next_err (b : List UInt8) (c : Nat) (k : Int) (hb : b.length ≤ 9223372036854775807) (h : Led.dec1 b c = .error k) : NextP b c k := by
  by_cases h1 : 4096 ≤ c
  · rw [Led.dec1_full h1] at h; injection h with h; subst h; exact con_next_full b c h1
  by_cases h2 : b.length < 5
  · rw [Led.dec1_short h1 h2] at h; injection h with h; subst h; exact con_next_short b c h1 h2
  by_cases h3 : 65536 < Led.rd4 b
  · rw [Led.dec1_form h1 h2 h3] at h; injection h with h; subst h; exact con_next_form b c hb h1 h2 h3
  by_cases h4 : b.length < 5 + Led.rd4 b
  · rw [Led.dec1_short2 h1 h2 h3 h4] at h; injection h with h; subst h; exact con_next_short2 b c hb h1 h2 h3 h4
  rw [Led.dec1_ok h1 h2 h3 h4] at h; cases h
set_option maxHeartbeats 4000000 in
set_option maxRecDepth 100000 in
theorem con_next (b : List UInt8) (c : Nat) (hb : b.length ≤ 9223372036854775807) (e : Led.Ent) (r : List UInt8) (h : Led.dec1 b c = .ok (e, r)) : Con Tryd.prog 52 [bD b, iD (c : Int)] (tupD [aggD [iD e.kind, bD e.bytes], bD r]) := by
  obtain ⟨h1, h2, h3, h4, h5, h6⟩ := Led.dec1_inv h
  subst h5
  subst h6
  have u0 := (b.getD 0 0).toNat_lt
  have u1 := (b.getD 1 0).toNat_lt
  have u2 := (b.getD 2 0).toNat_lt
  have u3 := (b.getD 3 0).toNat_lt
  have u4 := (b.getD 4 0).toNat_lt
  refine con_of Tryd.func52 (by kernel_rfl) rfl (by kernel_rfl) fun base w0 => ?_
  refine SW.seq ?_
  refine SW.region ?_
  refine SWl.ef (S := []) (Ef.alloc (zs := [.int .i64 0, .slice none 0 0]) (by kernel_rfl) rfl) ?_
  rintro _ ⟨g4, rfl⟩
  refine SWl.rd rfl (Rd.assign rfl) ?_
  refine SWl.nil ?_
  refine SN.then ?_
  refine SW.seq ?_
  refine SW.seq ?_
  refine SW.region ?_
  refine SWl.rd rfl (Rd.move rfl) ?_
  refine SWl.rd rfl (Rd.geq rfl rfl) ?_
  refine SWl.nil ?_
  refine SN.then ?_
  refine SW.condF rfl (by simp; omega) ?_
  refine SW.skip ?_
  refine SN.then ?_
  refine SW.seq ?_
  refine SW.seq ?_
  refine SW.region ?_
  refine SWl.rd rfl (Rd.move rfl) ?_
  refine SWl.rd rfl (Rd.len (e := 5) rfl (by kernel_rfl)) ?_
  refine SWl.rd rfl (Rd.lss rfl rfl) ?_
  refine SWl.nil ?_
  refine SN.then ?_
  refine SW.condF rfl (by simp; omega) ?_
  refine SW.skip ?_
  refine SN.then ?_
  refine SW.seq ?_
  refine SW.draw [] (.r 0 (.r 1 (.r 2 (.r 3 (.r 4 (.r 5 (.r 6 (.r 7 (.r 8 (.r 9 (.r 10 (.r 11 (.r 12 (.r 13 (.r 14 (.r 15 (.r 16 (.r 17 (.r 18 (.r 19 (.r 20 (.r 21 (.r 22 .fin))))))))))))))))))))))) (by kernel_rfl) (by kernel_rfl) (fun d _ _ _ _ h => by cases d <;> exact h) ?_
  refine SWz.rd (i := 0) rfl rfl (Rd.move rfl) ?_
  refine SWz.rd (i := 1) rfl rfl (Rd.idx (e := 5) rfl rfl (by kernel_rfl) (by kernel_rfl) (by decide) (cells_getD (i := 1) (by omega))) ?_
  refine SWz.rd (i := 2) rfl rfl (Rd.loadP rfl (by kernel_rfl) (by simp)) ?_
  refine SWz.rd (i := 3) rfl rfl (Rd.cvW .u8 rfl (by kernel_rfl) (by kernel_rfl) (cv_i64 u1)) ?_
  refine SWz.rd (i := 4) rfl rfl (Rd.shlW (s := 24) rfl rfl (shl_i64 (c := (b.getD 1 0).toNat * 16777216) (by decide) (by omega) (by omega))) ?_
  refine SWz.rd (i := 5) rfl rfl (Rd.move rfl) ?_
  refine SWz.rd (i := 6) rfl rfl (Rd.idx (e := 5) rfl rfl (by kernel_rfl) (by kernel_rfl) (by decide) (cells_getD (i := 2) (by omega))) ?_
  refine SWz.rd (i := 7) rfl rfl (Rd.loadP rfl (by kernel_rfl) (by simp)) ?_
  refine SWz.rd (i := 8) rfl rfl (Rd.cvW .u8 rfl (by kernel_rfl) (by kernel_rfl) (cv_i64 u2)) ?_
  refine SWz.rd (i := 9) rfl rfl (Rd.shlW (s := 16) rfl rfl (shl_i64 (c := (b.getD 2 0).toNat * 65536) (by decide) (by omega) (by omega))) ?_
  refine SWz.rd (i := 10) rfl rfl (Rd.orW rfl rfl (or_i64 (s := 24) (c := (b.getD 1 0).toNat * 16777216 + (b.getD 2 0).toNat * 65536) (by omega) (by omega) rfl (by omega))) ?_
  refine SWz.rd (i := 11) rfl rfl (Rd.move rfl) ?_
  refine SWz.rd (i := 12) rfl rfl (Rd.idx (e := 5) rfl rfl (by kernel_rfl) (by kernel_rfl) (by decide) (cells_getD (i := 3) (by omega))) ?_
  refine SWz.rd (i := 13) rfl rfl (Rd.loadP rfl (by kernel_rfl) (by simp)) ?_
  refine SWz.rd (i := 14) rfl rfl (Rd.cvW .u8 rfl (by kernel_rfl) (by kernel_rfl) (cv_i64 u3)) ?_
  refine SWz.rd (i := 15) rfl rfl (Rd.shlW (s := 8) rfl rfl (shl_i64 (c := (b.getD 3 0).toNat * 256) (by decide) (by omega) (by omega))) ?_
  refine SWz.rd (i := 16) rfl rfl (Rd.orW rfl rfl (or_i64 (s := 16) (c := (b.getD 1 0).toNat * 16777216 + (b.getD 2 0).toNat * 65536 + (b.getD 3 0).toNat * 256) (by omega) (by omega) rfl (by omega))) ?_
  refine SWz.rd (i := 17) rfl rfl (Rd.move rfl) ?_
  refine SWz.rd (i := 18) rfl rfl (Rd.idx (e := 5) rfl rfl (by kernel_rfl) (by kernel_rfl) (by decide) (cells_getD (i := 4) (by omega))) ?_
  refine SWz.rd (i := 19) rfl rfl (Rd.loadP rfl (by kernel_rfl) (by simp)) ?_
  refine SWz.rd (i := 20) rfl rfl (Rd.cvW .u8 rfl (by kernel_rfl) (by kernel_rfl) (cv_i64 u4)) ?_
  refine SWz.rd (i := 21) rfl rfl (Rd.orW rfl rfl (or_i64 (s := 8) (c := Led.rd4 b) (by omega) (by omega) (by unfold Led.rd4; omega) (by unfold Led.rd4; omega))) ?_
  refine SWz.rd (i := 22) rfl rfl (Rd.assign rfl) ?_
  refine SWz.nil ?_
  refine SN.then ?_
  refine SW.seq ?_
  refine SW.seq ?_
  refine SW.region ?_
  refine SWl.rd rfl (Rd.move rfl) ?_
  refine SWl.rd rfl (Rd.gtr rfl rfl) ?_
  refine SWl.nil ?_
  refine SN.then ?_
  refine SW.condF rfl (by simp; omega) ?_
  refine SW.skip ?_
  refine SN.then ?_
  refine SW.seq ?_
  refine SW.seq ?_
  refine SW.region ?_
  refine SWl.rd rfl (Rd.move rfl) ?_
  refine SWl.rd rfl (Rd.len (e := 5) rfl (by kernel_rfl)) ?_
  refine SWl.rd rfl (Rd.subi rfl rfl ⟨by simp; omega, by simp; omega⟩) ?_
  refine SWl.rd rfl (Rd.move rfl) ?_
  refine SWl.rd rfl (Rd.lss rfl rfl) ?_
  refine SWl.nil ?_
  refine SN.then ?_
  refine SW.condF rfl (by simp; omega) ?_
  refine SW.skip ?_
  refine SN.then ?_
  refine SW.seq ?_
  refine SW.draw (g4 :: []) (.r 0 (.r 1 (.q 2 (.r 3 (.r 4 (.r 5 (.r 6 (.r 7 (.r 8 (.r 9 (.r 10 (.r 11 (.r 12 (.e 13 (.r 14 .fin) .no)))))))))))))) (by kernel_rfl) (by kernel_rfl) (fun d _ _ _ _ h => by cases d <;> exact h) ?_
  refine SWz.rd (i := 0) rfl rfl (Rd.move rfl) ?_
  refine SWz.rd (i := 1) rfl rfl (Rd.idx (e := 5) rfl rfl (by kernel_rfl) (by kernel_rfl) (by decide) (cells_getD (i := 0) (by omega))) ?_
  refine SWz.rq (i := 2) rfl rfl (Rd.loadP rfl (by kernel_rfl) (by simp)) ?_
  refine SWz.rd (i := 3) rfl rfl (Rd.cvW .u8 rfl (by kernel_rfl) (by kernel_rfl) (cv_i64 u0)) ?_
  refine SWz.rd (i := 4) rfl rfl (Rd.move rfl) ?_
  refine SWz.rd (i := 5) rfl rfl (Rd.move rfl) ?_
  refine SWz.rd (i := 6) rfl rfl (Rd.add rfl rfl ⟨by omega, by omega⟩) ?_
  refine SWz.rd (i := 7) rfl rfl (Rd.mono (Rd.slD2 (e := 5) (enc := encB) (lo := 5) (hi := 5 + Led.rd4 b) 1 rfl (le_b_ls _) rfl rfl (by kernel_rfl) (by kernel_rfl) (by omega) (by omega)) (le_ls_b _)) ?_
  refine SWz.rd (i := 8) rfl rfl (Rd.build rfl rfl bldE2) ?_
  refine SWz.rd (i := 9) rfl rfl (Rd.move rfl) ?_
  refine SWz.rd (i := 10) rfl rfl (Rd.move rfl) ?_
  refine SWz.rd (i := 11) rfl rfl (Rd.add rfl rfl ⟨by omega, by omega⟩) ?_
  refine SWz.rd (i := 12) rfl rfl (Rd.mono (Rd.slD1 (e := 5) (enc := encB) (lo := 5 + Led.rd4 b) 1 rfl (le_b_ls _) rfl (by kernel_rfl) (by kernel_rfl) (by omega)) (le_ls_b _)) ?_
  refine SWz.efe (i := 13) rfl (Ef.storeA 0 rfl rfl rfl (by kernel_rfl) rfl (List.mem_cons_self)) ?_ SWz.no
  rintro _ rfl
  refine SWz.rd (i := 14) rfl rfl (Rd.assign rfl) ?_
  refine SWz.nil ?_
  refine SN.then ?_
  refine SW.ret (fn := Tryd.f52) (fun _ _ h => h) (Rs.le (Rs.two rfl (ResV.cellA 0 rfl rfl (by kernel_rfl)) (ResV.tmp rfl)) ?_)
  exact Le.refl _
set_option maxHeartbeats 4000000 in
set_option maxRecDepth 100000 in
theorem con_dec_ret (ga gb : Nat) (q : Option Addr) (z : Int) : ConD Tryd.prog 51 [.c ga [isD (.pointer q)], .c gb [iD z]] [isD (.pointer (some ⟨ga, 0, none⟩)), isD (.pointer (some ⟨gb, 0, none⟩))] (.returning) (.returning) [.c ga [isD (.pointer q)], .c gb [iD z]] := by
  refine con_ofD Tryd.func51 (by kernel_rfl) rfl (by kernel_rfl) (by kernel_rfl) (by kernel_rfl) (.inr ⟨rfl, rfl, rfl⟩) fun base w0 => ?_
  refine SW.seq ?_
  refine SW.region ?_
  refine SWl.rd rfl (Rd.move rfl) ?_
  refine SWl.rd rfl (Rd.neI0 rfl (by kernel_rfl)) ?_
  refine SWl.nil ?_
  refine SN.then ?_
  refine SW.condF rfl (rfl) ?_
  refine SW.skip ?_
  exact SN.retDf [0, 1] (Rs.none rfl) (by decide) ⟨⟨_, rfl, LeAll.refl _⟩, ⟨⟨_, rfl, LeAll.refl _⟩, trivial⟩⟩
set_option maxHeartbeats 4000000 in
set_option maxRecDepth 100000 in
theorem con_dec_pan (ga gb : Nat) (q : Option Addr) (z k : Int) : ConD Tryd.prog 51 [.c ga [isD (.pointer q)], .c gb [iD z]] [isD (.pointer (some ⟨ga, 0, none⟩)), isD (.pointer (some ⟨gb, 0, none⟩))] (.panicking (pan (failV k))) (.panicking [{ v := failV k, recovered := true }]) [.c ga [isD (.pointer none)], .c gb [iD k]] := by
  refine con_ofD Tryd.func51 (by kernel_rfl) rfl (by kernel_rfl) (by kernel_rfl) (by kernel_rfl) (.inl ⟨failV k, [], rfl, rfl, rfl⟩) fun base w0 => ?_
  refine SW.seq ?_
  refine SW.region ?_
  refine SWl.rd rfl (Rd.move rfl) ?_
  refine SWl.rd rfl (Rd.neI rfl (by kernel_rfl)) ?_
  refine SWl.nil ?_
  refine SN.then ?_
  refine SW.condT rfl (rfl) ?_
  refine SW.seq ?_
  refine SW.region ?_
  refine SWl.rd rfl (Rd.move rfl) ?_
  refine SWl.rd rfl (Rd.assertY rfl (by kernel_rfl)) ?_
  refine SWl.rd rfl (Rd.move rfl) ?_
  refine SWl.rd rfl (Rd.mono (Rd.extract rfl rfl) (le_is_agg (vs := [.int .i64 k]))) ?_
  refine SWl.rd rfl (Rd.extract rfl rfl) ?_
  refine SWl.ef (S := []) (Ef.alloc (zs := [.int .i64 0]) (by kernel_rfl) rfl) ?_
  rintro _ ⟨g3, rfl⟩
  refine SWl.ef (S := [_]) (Ef.storeA 2 rfl rfl rfl (by kernel_rfl) rfl (List.mem_singleton.2 rfl)) ?_
  rintro _ rfl
  refine SWl.rd rfl (Rd.assign rfl) ?_
  refine SWl.nil ?_
  refine SN.then ?_
  refine SW.seq ?_
  refine SW.seq ?_
  refine SW.region ?_
  refine SWl.rd rfl (Rd.move rfl) ?_
  refine SWl.rd rfl (Rd.not rfl) ?_
  refine SWl.nil ?_
  refine SN.then ?_
  refine SW.condF rfl (rfl) ?_
  refine SW.skip ?_
  refine SN.then ?_
  refine SW.draw (ga :: (gb :: [])) (.r 0 (.r 1 (.e 2 (.e 3 .fin .no) .no))) (by kernel_rfl) (by kernel_rfl) (fun d _ _ _ _ h => by cases d <;> exact h) ?_
  refine SWz.rd (i := 0) rfl rfl (Rd.fieldAddr (n := 0) rfl (by kernel_rfl)) ?_
  refine SWz.rd (i := 1) rfl rfl (Rd.loadB 2 rfl rfl rfl (by kernel_rfl) (ap_cons 0 rfl (by decide) (ap_cons 1 rfl (by decide) ap_nil))) ?_
  refine SWz.efe (i := 2) rfl (Ef.storeV 0 rfl rfl rfl (by kernel_rfl) rfl (List.mem_cons_self)) ?_ SWz.no
  rintro _ rfl
  refine SWz.efe (i := 3) rfl (Ef.storeV 1 rfl rfl rfl (by kernel_rfl) rfl (List.mem_cons_of_mem _ (List.mem_cons_self))) ?_ SWz.no
  rintro _ rfl
  refine SWz.nil ?_
  exact SN.retDf [0, 1] (Rs.none rfl) (by decide) ⟨⟨_, rfl, LeAll.refl _⟩, ⟨⟨_, rfl, LeAll.refl _⟩, trivial⟩⟩
end Sx
end Go.Proofs.YtonjpfpdpfonnaaDoor
