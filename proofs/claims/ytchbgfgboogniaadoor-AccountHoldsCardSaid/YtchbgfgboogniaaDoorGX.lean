/-
  ACCOUNTS: words over any program.
  ACCOUNTS: keys of maps, the shelf's functions at this program.
  ACCOUNTS: named, Valid, copied.
  ACCOUNTS: books as things.
-/
import Derived.Test.YtchbgfgboogniaaDoorGW
import Derived.Test.YtchbgfgboogniaaDoorGV
import Derived.Test.YtchbgfgboogniaaDoorChecked
namespace Go.Proofs.YtchbgfgboogniaaDoor
open Go.RowKit
namespace Sx
theorem le_bool_n {n : Nat} {p q : Bool} (h : p = q) : Le (boolD p) (nwD n (boolD q)) := by subst h; exact le_nw_is
theorem take_snoc {α : Type} {l : List α} {i : Nat} {e : α} (h : l[i]? = some e) : l.take (i + 1) = l.take i ++ [e] := by
  obtain ⟨h1, h2⟩ := List.getElem?_eq_some_iff.1 h
  rw [← h2, List.take_succ_eq_append_getElem h1]
section
variable {P : Program} {Γ : Cx} {σ : St} {Q : Exit → Act → World → Prop} {a : Act} {w : World}
theorem SWl.lookB {ops : Array Oper} {lo : List Oper} (k : Nat) {b : List UInt8} (hk : σ.tm k = some (bD b)) (h : ∀ A cp, SWl P Γ ops Q lo ((⟨σ.tm, σ.bx ++ [.r [] (viewR (.slice A b.length cp) (cellsOf b))]⟩ : St).put k (isD (.slice A b.length cp)))) : SWl P Γ ops Q lo σ := fun a w hh => by
  obtain ⟨A, c, h1⟩ := hh.lookS hk
  rw [cellsOf_length] at h1
  exact h A c a w h1
theorem isView_viewB (A : Option Addr) (n c : Nat) (b : List UInt8) (h : b.length = n) : IsView (viewR (.slice A n c) (cellsOf b)) (.slice A b.length c) (cellsOf b) := by subst h; exact isView_view _ _
def funcT (P : Program) (T : Nat) : Bool := match P.underlying T with | some (.func _ _ _) => true | _ => false
theorem run_equalIn_func (d : Nat) {T : Nat} {f : Fn} {x y : Array Value} {w : World} (hT : funcT P T = true) : (Op.equalIn (d + 1) T (.func f x y) .nilFunc).run P w = .ok false w := by
  unfold funcT at hT
  split at hT
  · rename_i q r z hu
    simp [Op.equalIn, run_underlying hu]
  · cases hT
theorem run_equal_func {T : Nat} {f : Fn} {x y : Array Value} {w : World} (hT : funcT P T = true) : (Op.equal T (.func f x y) .nilFunc).run P w = .ok false w := run_equalIn_func 9999 hT
theorem Rd.eqFnI {P : Program} {Γ : Cx} {σ : St} {S : List Nat} {dst : Option Tmp} {ty : TypeId} {pos : String} {af : Array Edge} {gd : Option (Nat × Bool)} {x y : Operand} {T yT : Nat} {f : Fn} {p q : Array Value} (hx : σ.ev x = some (isD (.func f p q))) (hy : σ.ev y = some (isD .nilFunc)) (hT : funcT P T = true) : Rd P Γ S ⟨dst, .binOp .eql T x y yT, ty, pos, af, gd⟩ σ (isD (.bool false)) := fun a w hh => by
  have hxv : a.eval x = .func f p q := ev_spec hh hx
  have hyv : a.eval y = .nilFunc := ev_spec hh hy
  refine ⟨_, rfl, fun w' _ => ?_⟩
  simp [execOp, hxv, hyv, eqGuard, binOp, run_equal_func hT]
def noP (Q : Exit → Act → World → Prop) : Exit → Act → World → Prop
  | .panic _, _, _ => False
  | e, a, w => Q e a w
end
section
variable {P : Program} {Γ : Cx} {σ : St} {S : List Nat} {d d' : D}
theorem Rd.mono {o : Oper} (h : Rd P Γ S o σ d) (hl : Le d d') : Rd P Γ S o σ d' := fun a w hh => by
  obtain ⟨v, h1, h2⟩ := h a w hh
  exact ⟨v, hl _ _ _ h1, h2⟩
end
/-! A function that is lent boxes, with ranges over functions in it. -/
section
variable {P : Program} {σ : St} {Q : Exit → Act → World → Prop}
theorem RM.finR {fn : Func} {nt : Nat} {base : List Nat} {w0 : World} {pre : List Box} {ι : Type} {post : ι → List Box} {d : ι → D} (i : ι) (js : List Nat)
    (h : Rs P ⟨nt, base, w0, fps pre, []⟩ fn σ (d i)) (hjs : js.Nodup) (hb : SubBx σ.bx js (post i)) :
    RM P fn (fun e w' => ∃ i v, e = .returned v ∧ (d i).R (fps (post i) ++ base) w' v ∧ (∀ b ∈ post i, b.R (fps (post i) ++ base) w') ∧ (fps (post i)).Nodup ∧ (∀ g ∈ fps (post i), g ∈ fps pre ∨ w0.heap.size ≤ g) ∧ Only (fps pre) w0 w') ⟨nt, base, w0, fps pre, []⟩ σ := fun a w hh => by
  obtain ⟨v, h1, h2⟩ := Sx.retR i js h hjs hb hh
  rw [show a.defers = [] from hh.df]
  exact ⟨v, h1, h2⟩
theorem con_ofRMp {f : FuncId} {fn : Func} {c : Code} {pre : List Box} {ad : List D} {ι : Type} {post : ι → List Box} {d : ι → D} (hf : P.funcs[f]? = some fn) (hn : (fn.name == "runtime.NumGoroutine") = false) (hb : fn.body = some c) (hlen : Nat.ble ad.length fn.ntmps = true)
    (h : ∀ (base : List Nat) (w0 : World), SW P ⟨fn.ntmps, base, w0, fps pre, []⟩ (St.ob (inits 0 ad) pre) c (noP (bodyPostM Fence.wide 0 P fn fun e w' => ∃ i v, e = .returned v ∧ (d i).R (fps (post i) ++ base) w' v ∧ (∀ b ∈ post i, b.R (fps (post i) ++ base) w') ∧ (fps (post i)).Nodup ∧ (∀ g ∈ fps (post i), g ∈ fps pre ∨ w0.heap.size ≤ g) ∧ Only (fps pre) w0 w'))) : ConR P f pre ad post d := by
  refine ⟨enters_of hf hn (by rw [hb]; rfl), fun L w vs hL hG hgF hg hnd hbk ha => ?_⟩
  refine callsIn_wide.1 (callsIn_of_wp_marks (F := Fence.wide) (n := 0) hf hb trivial ((wpIn_wide (n := 0)).2 (Code.wp_mono (fun e a w hq => by cases e <;> first | exact hq | exact hq.elim) (h L w _ _ ?_))))
  have hl := ha.length
  have hle : ad.length ≤ fn.ntmps := by simpa using hlen
  refine ⟨rfl, by simp [hl]; omega, fun i e hi => ?_, hbk, hnd, fun g hg => .inr hg, Only.refl _ _, hL, hg, hG, hgF⟩
  have := inits_spec (pre := []) (post := List.replicate (fn.ntmps - vs.length) undef) ha rfl i e hi
  have e1 : vs.toArray ++ Array.replicate (fn.ntmps - vs.toArray.size) undef = ([] ++ vs ++ List.replicate (fn.ntmps - vs.length) undef).toArray := by
    apply Array.ext'
    simp
  rw [e1]
  exact this
end
theorem le_decP {p q : Prop} [Decidable p] [Decidable q] (h : p ↔ q) : Le (boolD (decide p)) (boolD (decide q)) := Le.is (by rw [decide_eq_decide.2 h])
theorem le_decF {q : Prop} [Decidable q] (h : ¬ q) : Le (boolD false) (boolD (decide q)) := Le.is (by rw [decide_eq_false h])
theorem le_decT {q : Prop} [Decidable q] (h : q) : Le (boolD true) (boolD (decide q)) := Le.is (by rw [decide_eq_true h])
end Sx
end Go.Proofs.YtchbgfgboogniaaDoor
namespace Go.Proofs.YtchbgfgboogniaaDoor
open Go.RowKit
namespace Sx
theorem seat_eq (a b : Int × Int) (w : World) : (Op.equal 136 (encSt a) (encSt b)).run Tryd.prog w = .ok (decide (a = b)) w := by
  obtain ⟨a1, a2⟩ := a
  obtain ⟨b1, b2⟩ := b
  have u3 := Tryd.underlying3
  have a3 := Tryd.isAgg3
  have z3 := Tryd.sizeOf3
  have u4 := Tryd.underlying31
  have a4 := Tryd.isAgg31
  have z4 := Tryd.sizeOf31
  have h1 : Tryd.prog.underlying 136 = some (.struct (Tryd.prog.fieldsOf 136)) := by kernel_rfl
  have e : (Op.equal 136 (encSt (a1, a2)) (encSt (b1, b2))).run Tryd.prog w = .ok (a1 == b1 && a2 == b2) w := by
    unfold Op.equal encSt
    rw [show Op.maxDepth = 9999 + 1 from rfl, run_equalIn_struct (P := Tryd.prog) w 9999 136 _ _ h1 (by kernel_rfl)]
    simp only [Program.fieldsOf, Tryd.underlying136]
    go_simp
    by_cases h1 : a1 = b1 <;> by_cases h2 : a2 = b2 <;> simp [h1, h2]
  have e2 : (a1 == b1 && a2 == b2) = decide ((a1, a2) = (b1, b2)) := by
    rw [Bool.eq_iff_iff]
    simp
  rw [e, e2]
theorem seat_chk' (n : Nat) (k : Int × Int) (e : Bool) (w : World) : (Instr.checkKey e (n + 1 + 1) 136 (encSt k)).run Tryd.prog w = .ok () w := by
  have u3 := Tryd.underlying3
  have a3 := Tryd.isAgg3
  have z3 := Tryd.sizeOf3
  have u4 := Tryd.underlying31
  have a4 := Tryd.isAgg31
  have z4 := Tryd.sizeOf31
  unfold Instr.checkKey encSt
  simp only [Sem.run_bind, run_underlying Tryd.underlying136, Result.andThen_ok]
  simp only [Instr.checkKey]
  go_simp
theorem seat_chk (k : Int × Int) (e : Bool) (w : World) : (Instr.checkKey e 10000 136 (encSt k)).run Tryd.prog w = .ok () w := seat_chk' 9998 k e w
theorem seat_bits (n : Nat) (k : Int × Int) : Instr.sameBits (n + 1) (encSt k) (encSt k) = true := by simp [encSt, Instr.sameBits]
theorem keySt (p : Int × Int) (ks : List (Int × Int)) : KeyOk Tryd.prog 136 encSt p ks :=
  keyOk_wide (by kernel_rfl) seat_eq seat_chk (seat_bits 9999) p ks
theorem keyNm (k : List UInt8) (ks : List (List UInt8)) : KeyOk Tryd.prog 9 encS k ks := keyOk_str (by kernel_rfl) k ks
theorem bldSt2 {a b : Int} : Bld Tryd.prog 136 [0, 1] [iD a, iD b] [iD a, iD b] := fun L w vs hv => by
  obtain ⟨u, v, rfl, rfl, rfl⟩ := all2 hv
  exact ⟨[.int .i64 a, .int .i64 b], ⟨rfl, rfl, trivial⟩, fun w' => by kernel_rfl⟩
theorem bldA0 : Bld Tryd.prog 33 [] [] [strD [], iD 0, isD (.slice none 0 0), iD 0, iD 0] := fun L w vs h => by
  obtain rfl := all0 h
  exact ⟨[.string ⟨#[]⟩, .int .i64 0, .slice none 0 0, .int .i64 0, .int .i64 0], ⟨rfl, rfl, rfl, rfl, rfl, trivial⟩, fun w' => by kernel_rfl⟩
/-! The shelf's functions on slices of strings. -/
def renNm : Go.Shelf.Ren := ⟨fun | 17 => 141 | 22 => 88 | 26 => 87 | 29 => 123 | 30 => 124 | 33 => 121 | 34 => 122 | 36 => 136 | 38 => 135 | n => n,
  fun | 0 => 0 | 3 => 3 | 4 => 4 | 9 => 9 | 24 => 27 | 40 => 163 | n => n, fun n => n⟩
theorem lays22 : Lays2.n22 Tryd.prog renNm where
  mixed := by kernel_rfl
  f17 := Tryd.func141.trans (congrArg some (by kernel_rfl))
  f22 := Tryd.func88.trans (congrArg some (by kernel_rfl))
  f29 := Tryd.func123.trans (congrArg some (by kernel_rfl))
  f30 := Tryd.func124.trans (congrArg some (by kernel_rfl))
  f36 := Tryd.func136.trans (congrArg some (by kernel_rfl))
  t0 := Tryd.underlying0
  a0 := Tryd.isAgg0
  z0 := Tryd.sizeOf0
  v0 := Tryd.zeroValue0
  t3 := Tryd.underlying3
  a3 := Tryd.isAgg3
  z3 := Tryd.sizeOf3
  v3 := Tryd.zeroValue3
  t4 := Tryd.underlying4
  a4 := Tryd.isAgg4
  z4 := Tryd.sizeOf4
  v4 := Tryd.zeroValue4
  t9 := Tryd.underlying9
  a9 := Tryd.isAgg9
  z9 := Tryd.sizeOf9
  v9 := Tryd.zeroValue9
  t24 := Tryd.underlying27
  a24 := Tryd.isAgg27
  z24 := Tryd.sizeOf27
  v24 := Tryd.zeroValue27
  i9 := by kernel_rfl
theorem lays26 : Lays2.n26 Tryd.prog renNm where
  mixed := by kernel_rfl
  f26 := Tryd.func87.trans (congrArg some (by kernel_rfl))
  f33 := Tryd.func121.trans (congrArg some (by kernel_rfl))
  f34 := Tryd.func122.trans (congrArg some (by kernel_rfl))
  f38 := Tryd.func135.trans (congrArg some (by kernel_rfl))
  t0 := Tryd.underlying0
  a0 := Tryd.isAgg0
  z0 := Tryd.sizeOf0
  v0 := Tryd.zeroValue0
  t3 := Tryd.underlying3
  a3 := Tryd.isAgg3
  z3 := Tryd.sizeOf3
  v3 := Tryd.zeroValue3
  t4 := Tryd.underlying4
  a4 := Tryd.isAgg4
  z4 := Tryd.sizeOf4
  v4 := Tryd.zeroValue4
  t9 := Tryd.underlying9
  a9 := Tryd.isAgg9
  z9 := Tryd.sizeOf9
  v9 := Tryd.zeroValue9
  t24 := Tryd.underlying27
  a24 := Tryd.isAgg27
  z24 := Tryd.sizeOf27
  v24 := Tryd.zeroValue27
  t40 := Tryd.underlying163
  a40 := Tryd.isAgg163
  z40 := Tryd.sizeOf163
  v40 := Tryd.zeroValue163
end Sx
end Go.Proofs.YtchbgfgboogniaaDoor
namespace Go.Proofs.YtchbgfgboogniaaDoor
open Go.RowKit
namespace Sx
set_option maxHeartbeats 4000000 in
set_option maxRecDepth 100000 in
theorem con_cloneB (b : List UInt8) (hb : b.length ≤ 1000000) : ConN Tryd.prog 120 [bD b] (bD b) := by
  refine con_ofN Tryd.func120 (by kernel_rfl) rfl (by kernel_rfl) fun base w0 => ?_
  refine SW.seq ?_
  refine SW.lookB 0 rfl fun A c => ?_
  refine SW.region ?_
  refine SWl.rd rfl (Rd.assign rfl) ?_
  refine SWl.nil ?_
  refine SN.then ?_
  refine SW.seq ?_
  refine SW.seq ?_
  refine SW.region ?_
  refine SWl.rd rfl (Rd.move rfl) ?_
  refine SWl.rd rfl (Rd.eqN (e := 5) rfl rfl (by kernel_rfl)) ?_
  refine SWl.nil ?_
  refine SN.then ?_
  refine SW.cond rfl (fun hb4 => ?_) (fun hb4 => ?_)
  · refine SW.viewN 0 rfl hb4 fun hnil => ?_
    refine SW.seq ?_
    refine SW.region ?_
    refine SWl.rd rfl (Rd.assign rfl) ?_
    refine SWl.nil ?_
    refine SN.then ?_
    refine SW.ret (fn := Tryd.f120) (fun _ _ h => h) (Rs.le (Rs.one rfl (ResV.tmp rfl)) ?_)
    subst hnil
    exact Le.trans (le_nw_is (x := .slice none 0 0)) (le_nw_mono (Nat.le_refl _) Le.nil_sl)
  · skip
    refine SW.skip ?_
    refine SN.then ?_
    refine SW.seq ?_
    refine SW.region ?_
    refine SWl.ef (S := []) (Ef.lit0 (e := 5) encB 1 1 (by kernel_rfl) (by kernel_rfl) rfl) ?_
    rintro _ ⟨g5, rfl⟩
    refine SWl.rd rfl (Rd.move rfl) ?_
    refine SWl.ef (Ef.appT 1 1 1 rfl rfl (SrcT.view 0 rfl rfl) (by kernel_rfl) (by kernel_rfl) (by simp <;> omega) (by decide) (fun _ h => h) rfl) ?_
    rintro _ ⟨A7, F7, c7, rfl⟩
    refine SWl.rd rfl (Rd.assign rfl) ?_
    refine SWl.nil ?_
    refine SN.then ?_
    refine SW.freezeNB 1 2 rfl rfl rfl ?_
    refine SW.ret (fn := Tryd.f120) (fun _ _ h => h) (Rs.le (Rs.one rfl (ResV.tmp rfl)) ?_)
    exact Le.refl _
set_option maxHeartbeats 4000000 in
set_option maxRecDepth 100000 in
theorem con_named (s : List UInt8) : ConN Tryd.prog 85 [strD s] (boolD (decide (Acc.isName s))) := by
  refine con_ofN Tryd.func85 (by kernel_rfl) rfl (by kernel_rfl) fun base w0 => ?_
  refine SW.seq ?_
  refine SW.region ?_
  refine SWl.rd rfl (Rd.assign rfl) ?_
  refine SWl.nil ?_
  refine SN.then ?_
  refine SW.seq ?_
  refine SW.seq ?_
  refine SW.region ?_
  refine SWl.rd rfl (Rd.move rfl) ?_
  refine SWl.rd rfl (Rd.lenb rfl (by kernel_rfl)) ?_
  refine SWl.rd rfl (Rd.lss rfl rfl) ?_
  refine SWl.rd rfl (Rd.move rfl) ?_
  refine SWl.split 8 rfl (fun hb8 => ?_) (fun hb8 => ?_)
  · have h8 := of_decide_eq_true hb8
    refine SWl.off rfl rfl (hb8) rfl rfl ?_
    refine SWl.off rfl rfl (hb8) rfl rfl ?_
    refine SWl.off rfl rfl (hb8) rfl rfl ?_
    refine SWl.rd rfl (Rd.pickY rfl (hb8) rfl) ?_
    refine SWl.nil ?_
    refine SN.then ?_
    refine SW.condT rfl (rfl) ?_
    refine SW.seq ?_
    refine SW.region ?_
    refine SWl.rd rfl (Rd.assign rfl) ?_
    refine SWl.nil ?_
    refine SN.then ?_
    refine SW.ret (fn := Tryd.f85) (fun _ _ h => h) (Rs.le (Rs.one rfl (ResV.tmp rfl)) ?_)
    first | exact Le.trans (le_decF (fun h => by have := h.2.1; omega)) le_nw_is | exact Le.trans (le_decF (fun h => by have := h.2.2; omega)) le_nw_is | exact Le.trans (le_decF (fun h => hbad (h.1 c (List.mem_of_getElem? hc)))) le_nw_is | exact Le.trans (le_decT ⟨fun d hd => hi.2 d (by rw [List.take_of_length_le (by omega)]; exact hd), by omega, by omega⟩) le_nw_is
  · have h8 := of_decide_eq_false hb8
    refine SWl.rdg rfl rfl (hb8) rfl rfl (Rd.move rfl) ?_
    refine SWl.rdg rfl rfl (hb8) rfl rfl (Rd.lenb rfl (by kernel_rfl)) ?_
    refine SWl.rdg rfl rfl (hb8) rfl rfl (Rd.gtr rfl rfl) ?_
    refine SWl.rd rfl (Rd.pickN rfl (hb8) rfl) ?_
    refine SWl.nil ?_
    refine SN.then ?_
    refine SW.cond rfl (fun hb12 => ?_) (fun hb12 => ?_)
    · have h12 := of_decide_eq_true hb12
      refine SW.seq ?_
      refine SW.region ?_
      refine SWl.rd rfl (Rd.assign rfl) ?_
      refine SWl.nil ?_
      refine SN.then ?_
      refine SW.ret (fn := Tryd.f85) (fun _ _ h => h) (Rs.le (Rs.one rfl (ResV.tmp rfl)) ?_)
      first | exact Le.trans (le_decF (fun h => by have := h.2.1; omega)) le_nw_is | exact Le.trans (le_decF (fun h => by have := h.2.2; omega)) le_nw_is | exact Le.trans (le_decF (fun h => hbad (h.1 c (List.mem_of_getElem? hc)))) le_nw_is | exact Le.trans (le_decT ⟨fun d hd => hi.2 d (by rw [List.take_of_length_le (by omega)]; exact hd), by omega, by omega⟩) le_nw_is
    · have h12 := of_decide_eq_false hb12
      refine SW.skip ?_
      refine SN.then ?_
      refine SW.seq ?_
      refine SW.seq ?_
      refine SW.region ?_
      refine SWl.rd rfl (Rd.move rfl) ?_
      refine SWl.rd rfl (Rd.lenb rfl (by kernel_rfl)) ?_
      refine SWl.rd rfl (Rd.move rfl) ?_
      refine SWl.nil ?_
      refine SN.then ?_
      refine SW.block ?_
      refine SW.loop (ι := {i : Nat // i ≤ s.length ∧ ∀ c ∈ s.take i, Acc.chr c}) (fun i => St.ob [(0, strD s), (14, iD (s.length : Int)), (15, iD (i.1 : Int))] []) (fun i => s.length - i.1) (⟨0, Nat.zero_le _, by simp⟩) ?_ ?_
      · exact ⟨⟨_, rfl, ⟨⟨_, rfl, Le.refl _⟩, ⟨⟨_, rfl, Le.refl _⟩, ⟨⟨_, rfl, Le.refl _⟩, trivial⟩⟩⟩⟩, [], by decide, trivial⟩
      · rintro ⟨i, hi⟩ K0 hK0
        dsimp only at hi ⊢
        refine SW.seq ?_
        refine SW.region ?_
        refine SWl.rd rfl (Rd.lss rfl rfl) ?_
        refine SWl.nil ?_
        refine SN.then ?_
        refine SW.seq ?_
        refine SW.cond rfl (fun hb16 => ?_) (fun hb16 => ?_)
        · have h16 := of_decide_eq_true hb16
          refine SW.skip ?_
          refine SN.then ?_
          refine SW.seq ?_
          refine SW.block ?_
          refine SW.seq ?_
          refine SW.region ?_
          refine SWl.rd rfl (Rd.move rfl) ?_
          refine SWl.rd rfl (Rd.assign rfl) ?_
          refine SWl.nil ?_
          refine SN.then ?_
          refine SW.seq ?_
          obtain ⟨c, hc⟩ : ∃ c, s[i]? = some c := ⟨_, List.getElem?_eq_getElem (by omega)⟩
          refine SW.region ?_
          refine SWl.rd rfl (Rd.move rfl) ?_
          refine SWl.rd rfl (Rd.move rfl) ?_
          refine SWl.rd rfl (Rd.sidx rfl rfl (by kernel_rfl) (by omega) (by simpa using hc)) ?_
          refine SWl.rd rfl (Rd.assign rfl) ?_
          refine SWl.nil ?_
          refine SN.then ?_
          refine SW.seq ?_
          refine SW.region ?_
          refine SWl.rd rfl (Rd.move rfl) ?_
          refine SWl.rd rfl (Rd.lss rfl rfl) ?_
          refine SWl.rd rfl (Rd.move rfl) ?_
          refine SWl.split 23 rfl (fun hb23 => ?_) (fun hb23 => ?_)
          · have h23 := of_decide_eq_true hb23
            refine SWl.off rfl rfl (hb23) rfl rfl ?_
            refine SWl.off rfl rfl (hb23) rfl rfl ?_
            refine SWl.rd rfl (Rd.pickY rfl (hb23) rfl) ?_
            refine SWl.rd rfl (Rd.move rfl) ?_
            refine SWl.rdg rfl rfl (rfl) rfl rfl (Rd.move rfl) ?_
            refine SWl.rdg rfl rfl (rfl) rfl rfl (Rd.lss rfl rfl) ?_
            refine SWl.rdg rfl rfl (rfl) rfl rfl (Rd.move rfl) ?_
            refine SWl.split 30 rfl (fun hb30 => ?_) (fun hb30 => ?_)
            · have h30 := of_decide_eq_true hb30
              refine SWl.off rfl rfl (hb30) rfl rfl ?_
              refine SWl.off rfl rfl (hb30) rfl rfl ?_
              refine SWl.rdg rfl rfl (rfl) rfl rfl (Rd.pickY rfl (hb30) rfl) ?_
              refine SWl.rd rfl (Rd.pickY rfl (rfl) rfl) ?_
              refine SWl.rd rfl (Rd.move rfl) ?_
              refine SWl.rdg rfl rfl (rfl) rfl rfl (Rd.move rfl) ?_
              refine SWl.rdg rfl rfl (rfl) rfl rfl (Rd.nei rfl rfl) ?_
              refine SWl.rd rfl (Rd.pickY rfl (rfl) rfl) ?_
              refine SWl.nil ?_
              refine SN.then ?_
              refine SW.cond rfl (fun hb38 => ?_) (fun hb38 => ?_)
              · have hbad : ¬ Acc.chr c := by (have h38 := hb38; simp only [Bool.not_eq_true', decide_eq_false_iff_not] at h38); unfold Acc.chr; omega
                refine SW.seq ?_
                refine SW.region ?_
                refine SWl.rd rfl (Rd.assign rfl) ?_
                refine SWl.nil ?_
                refine SN.then ?_
                refine SW.ret (fn := Tryd.f85) (fun _ _ h => h) (Rs.le (Rs.one rfl (ResV.tmp rfl)) ?_)
                first | exact Le.trans (le_decF (fun h => by have := h.2.1; omega)) le_nw_is | exact Le.trans (le_decF (fun h => by have := h.2.2; omega)) le_nw_is | exact Le.trans (le_decF (fun h => hbad (h.1 c (List.mem_of_getElem? hc)))) le_nw_is | exact Le.trans (le_decT ⟨fun d hd => hi.2 d (by rw [List.take_of_length_le (by omega)]; exact hd), by omega, by omega⟩) le_nw_is
              · skip
                refine SW.skip ?_
                refine SN.block ?_
                refine SN.then ?_
                refine SW.region ?_
                refine SWl.rd rfl (Rd.add rfl rfl ⟨by omega, by omega⟩) ?_
                refine SWl.rd rfl (Rd.move rfl) ?_
                refine SWl.nil ?_
                have hgood : Acc.chr c := by first | (unfold Acc.chr; omega) | ((have h38 := hb38; simp only [Bool.not_eq_false', decide_eq_true_eq] at h38); unfold Acc.chr; omega)
                exact fun a w hh => hK0 (⟨i + 1, by omega, fun d hd => by rw [take_snoc hc] at hd; rcases List.mem_append.1 hd with hd | hd; exact hi.2 d hd; rw [List.mem_singleton.1 hd]; exact hgood⟩) (by dsimp only; omega) a w (hh.sub (⟨⟨_, rfl, ⟨⟨_, rfl, Le.refl _⟩, ⟨⟨_, rfl, Le.refl _⟩, ⟨⟨_, rfl, Le.is (by simp)⟩, trivial⟩⟩⟩⟩, [], by decide, trivial⟩))
            · have h30 := of_decide_eq_false hb30
              refine SWl.rdg rfl rfl (hb30) rfl rfl (Rd.move rfl) ?_
              refine SWl.rdg rfl rfl (hb30) rfl rfl (Rd.gtr rfl rfl) ?_
              refine SWl.rdg rfl rfl (rfl) rfl rfl (Rd.pickN rfl (hb30) rfl) ?_
              refine SWl.rd rfl (Rd.pickY rfl (rfl) rfl) ?_
              refine SWl.rd rfl (Rd.move rfl) ?_
              refine SWl.split 35 rfl (fun hb35 => ?_) (fun hb35 => ?_)
              · have h35 := of_decide_eq_true hb35
                refine SWl.rdg rfl rfl (hb35) rfl rfl (Rd.move rfl) ?_
                refine SWl.rdg rfl rfl (hb35) rfl rfl (Rd.nei rfl rfl) ?_
                refine SWl.rd rfl (Rd.pickY rfl (hb35) rfl) ?_
                refine SWl.nil ?_
                refine SN.then ?_
                refine SW.cond rfl (fun hb38 => ?_) (fun hb38 => ?_)
                · have hbad : ¬ Acc.chr c := by (have h38 := hb38; simp only [Bool.not_eq_true', decide_eq_false_iff_not] at h38); unfold Acc.chr; omega
                  refine SW.seq ?_
                  refine SW.region ?_
                  refine SWl.rd rfl (Rd.assign rfl) ?_
                  refine SWl.nil ?_
                  refine SN.then ?_
                  refine SW.ret (fn := Tryd.f85) (fun _ _ h => h) (Rs.le (Rs.one rfl (ResV.tmp rfl)) ?_)
                  first | exact Le.trans (le_decF (fun h => by have := h.2.1; omega)) le_nw_is | exact Le.trans (le_decF (fun h => by have := h.2.2; omega)) le_nw_is | exact Le.trans (le_decF (fun h => hbad (h.1 c (List.mem_of_getElem? hc)))) le_nw_is | exact Le.trans (le_decT ⟨fun d hd => hi.2 d (by rw [List.take_of_length_le (by omega)]; exact hd), by omega, by omega⟩) le_nw_is
                · skip
                  refine SW.skip ?_
                  refine SN.block ?_
                  refine SN.then ?_
                  refine SW.region ?_
                  refine SWl.rd rfl (Rd.add rfl rfl ⟨by omega, by omega⟩) ?_
                  refine SWl.rd rfl (Rd.move rfl) ?_
                  refine SWl.nil ?_
                  have hgood : Acc.chr c := by first | (unfold Acc.chr; omega) | ((have h38 := hb38; simp only [Bool.not_eq_false', decide_eq_true_eq] at h38); unfold Acc.chr; omega)
                  exact fun a w hh => hK0 (⟨i + 1, by omega, fun d hd => by rw [take_snoc hc] at hd; rcases List.mem_append.1 hd with hd | hd; exact hi.2 d hd; rw [List.mem_singleton.1 hd]; exact hgood⟩) (by dsimp only; omega) a w (hh.sub (⟨⟨_, rfl, ⟨⟨_, rfl, Le.refl _⟩, ⟨⟨_, rfl, Le.refl _⟩, ⟨⟨_, rfl, Le.is (by simp)⟩, trivial⟩⟩⟩⟩, [], by decide, trivial⟩))
              · have h35 := of_decide_eq_false hb35
                refine SWl.off rfl rfl (hb35) rfl rfl ?_
                refine SWl.off rfl rfl (hb35) rfl rfl ?_
                refine SWl.rd rfl (Rd.pickN rfl (hb35) rfl) ?_
                refine SWl.nil ?_
                refine SN.then ?_
                refine SW.condF rfl (rfl) ?_
                refine SW.skip ?_
                refine SN.block ?_
                refine SN.then ?_
                refine SW.region ?_
                refine SWl.rd rfl (Rd.add rfl rfl ⟨by omega, by omega⟩) ?_
                refine SWl.rd rfl (Rd.move rfl) ?_
                refine SWl.nil ?_
                have hgood : Acc.chr c := by first | (unfold Acc.chr; omega) | ((have h38 := hb38; simp only [Bool.not_eq_false', decide_eq_true_eq] at h38); unfold Acc.chr; omega)
                exact fun a w hh => hK0 (⟨i + 1, by omega, fun d hd => by rw [take_snoc hc] at hd; rcases List.mem_append.1 hd with hd | hd; exact hi.2 d hd; rw [List.mem_singleton.1 hd]; exact hgood⟩) (by dsimp only; omega) a w (hh.sub (⟨⟨_, rfl, ⟨⟨_, rfl, Le.refl _⟩, ⟨⟨_, rfl, Le.refl _⟩, ⟨⟨_, rfl, Le.is (by simp)⟩, trivial⟩⟩⟩⟩, [], by decide, trivial⟩))
          · have h23 := of_decide_eq_false hb23
            refine SWl.rdg rfl rfl (hb23) rfl rfl (Rd.move rfl) ?_
            refine SWl.rdg rfl rfl (hb23) rfl rfl (Rd.gtr rfl rfl) ?_
            refine SWl.rd rfl (Rd.pickN rfl (hb23) rfl) ?_
            refine SWl.rd rfl (Rd.move rfl) ?_
            refine SWl.split 27 rfl (fun hb27 => ?_) (fun hb27 => ?_)
            · have h27 := of_decide_eq_true hb27
              refine SWl.rdg rfl rfl (hb27) rfl rfl (Rd.move rfl) ?_
              refine SWl.rdg rfl rfl (hb27) rfl rfl (Rd.lss rfl rfl) ?_
              refine SWl.rdg rfl rfl (hb27) rfl rfl (Rd.move rfl) ?_
              refine SWl.split 30 rfl (fun hb30 => ?_) (fun hb30 => ?_)
              · have h30 := of_decide_eq_true hb30
                refine SWl.off rfl rfl (hb30) rfl rfl ?_
                refine SWl.off rfl rfl (hb30) rfl rfl ?_
                refine SWl.rdg rfl rfl (hb27) rfl rfl (Rd.pickY rfl (hb30) rfl) ?_
                refine SWl.rd rfl (Rd.pickY rfl (hb27) rfl) ?_
                refine SWl.rd rfl (Rd.move rfl) ?_
                refine SWl.rdg rfl rfl (rfl) rfl rfl (Rd.move rfl) ?_
                refine SWl.rdg rfl rfl (rfl) rfl rfl (Rd.nei rfl rfl) ?_
                refine SWl.rd rfl (Rd.pickY rfl (rfl) rfl) ?_
                refine SWl.nil ?_
                refine SN.then ?_
                refine SW.cond rfl (fun hb38 => ?_) (fun hb38 => ?_)
                · have hbad : ¬ Acc.chr c := by (have h38 := hb38; simp only [Bool.not_eq_true', decide_eq_false_iff_not] at h38); unfold Acc.chr; omega
                  refine SW.seq ?_
                  refine SW.region ?_
                  refine SWl.rd rfl (Rd.assign rfl) ?_
                  refine SWl.nil ?_
                  refine SN.then ?_
                  refine SW.ret (fn := Tryd.f85) (fun _ _ h => h) (Rs.le (Rs.one rfl (ResV.tmp rfl)) ?_)
                  first | exact Le.trans (le_decF (fun h => by have := h.2.1; omega)) le_nw_is | exact Le.trans (le_decF (fun h => by have := h.2.2; omega)) le_nw_is | exact Le.trans (le_decF (fun h => hbad (h.1 c (List.mem_of_getElem? hc)))) le_nw_is | exact Le.trans (le_decT ⟨fun d hd => hi.2 d (by rw [List.take_of_length_le (by omega)]; exact hd), by omega, by omega⟩) le_nw_is
                · skip
                  refine SW.skip ?_
                  refine SN.block ?_
                  refine SN.then ?_
                  refine SW.region ?_
                  refine SWl.rd rfl (Rd.add rfl rfl ⟨by omega, by omega⟩) ?_
                  refine SWl.rd rfl (Rd.move rfl) ?_
                  refine SWl.nil ?_
                  have hgood : Acc.chr c := by first | (unfold Acc.chr; omega) | ((have h38 := hb38; simp only [Bool.not_eq_false', decide_eq_true_eq] at h38); unfold Acc.chr; omega)
                  exact fun a w hh => hK0 (⟨i + 1, by omega, fun d hd => by rw [take_snoc hc] at hd; rcases List.mem_append.1 hd with hd | hd; exact hi.2 d hd; rw [List.mem_singleton.1 hd]; exact hgood⟩) (by dsimp only; omega) a w (hh.sub (⟨⟨_, rfl, ⟨⟨_, rfl, Le.refl _⟩, ⟨⟨_, rfl, Le.refl _⟩, ⟨⟨_, rfl, Le.is (by simp)⟩, trivial⟩⟩⟩⟩, [], by decide, trivial⟩))
              · have h30 := of_decide_eq_false hb30
                refine SWl.rdg rfl rfl (hb30) rfl rfl (Rd.move rfl) ?_
                refine SWl.rdg rfl rfl (hb30) rfl rfl (Rd.gtr rfl rfl) ?_
                refine SWl.rdg rfl rfl (hb27) rfl rfl (Rd.pickN rfl (hb30) rfl) ?_
                refine SWl.rd rfl (Rd.pickY rfl (hb27) rfl) ?_
                refine SWl.rd rfl (Rd.move rfl) ?_
                refine SWl.split 35 rfl (fun hb35 => ?_) (fun hb35 => ?_)
                · have h35 := of_decide_eq_true hb35
                  refine SWl.rdg rfl rfl (hb35) rfl rfl (Rd.move rfl) ?_
                  refine SWl.rdg rfl rfl (hb35) rfl rfl (Rd.nei rfl rfl) ?_
                  refine SWl.rd rfl (Rd.pickY rfl (hb35) rfl) ?_
                  refine SWl.nil ?_
                  refine SN.then ?_
                  refine SW.cond rfl (fun hb38 => ?_) (fun hb38 => ?_)
                  · have hbad : ¬ Acc.chr c := by (have h38 := hb38; simp only [Bool.not_eq_true', decide_eq_false_iff_not] at h38); unfold Acc.chr; omega
                    refine SW.seq ?_
                    refine SW.region ?_
                    refine SWl.rd rfl (Rd.assign rfl) ?_
                    refine SWl.nil ?_
                    refine SN.then ?_
                    refine SW.ret (fn := Tryd.f85) (fun _ _ h => h) (Rs.le (Rs.one rfl (ResV.tmp rfl)) ?_)
                    first | exact Le.trans (le_decF (fun h => by have := h.2.1; omega)) le_nw_is | exact Le.trans (le_decF (fun h => by have := h.2.2; omega)) le_nw_is | exact Le.trans (le_decF (fun h => hbad (h.1 c (List.mem_of_getElem? hc)))) le_nw_is | exact Le.trans (le_decT ⟨fun d hd => hi.2 d (by rw [List.take_of_length_le (by omega)]; exact hd), by omega, by omega⟩) le_nw_is
                  · skip
                    refine SW.skip ?_
                    refine SN.block ?_
                    refine SN.then ?_
                    refine SW.region ?_
                    refine SWl.rd rfl (Rd.add rfl rfl ⟨by omega, by omega⟩) ?_
                    refine SWl.rd rfl (Rd.move rfl) ?_
                    refine SWl.nil ?_
                    have hgood : Acc.chr c := by first | (unfold Acc.chr; omega) | ((have h38 := hb38; simp only [Bool.not_eq_false', decide_eq_true_eq] at h38); unfold Acc.chr; omega)
                    exact fun a w hh => hK0 (⟨i + 1, by omega, fun d hd => by rw [take_snoc hc] at hd; rcases List.mem_append.1 hd with hd | hd; exact hi.2 d hd; rw [List.mem_singleton.1 hd]; exact hgood⟩) (by dsimp only; omega) a w (hh.sub (⟨⟨_, rfl, ⟨⟨_, rfl, Le.refl _⟩, ⟨⟨_, rfl, Le.refl _⟩, ⟨⟨_, rfl, Le.is (by simp)⟩, trivial⟩⟩⟩⟩, [], by decide, trivial⟩))
                · have h35 := of_decide_eq_false hb35
                  refine SWl.off rfl rfl (hb35) rfl rfl ?_
                  refine SWl.off rfl rfl (hb35) rfl rfl ?_
                  refine SWl.rd rfl (Rd.pickN rfl (hb35) rfl) ?_
                  refine SWl.nil ?_
                  refine SN.then ?_
                  refine SW.condF rfl (rfl) ?_
                  refine SW.skip ?_
                  refine SN.block ?_
                  refine SN.then ?_
                  refine SW.region ?_
                  refine SWl.rd rfl (Rd.add rfl rfl ⟨by omega, by omega⟩) ?_
                  refine SWl.rd rfl (Rd.move rfl) ?_
                  refine SWl.nil ?_
                  have hgood : Acc.chr c := by first | (unfold Acc.chr; omega) | ((have h38 := hb38; simp only [Bool.not_eq_false', decide_eq_true_eq] at h38); unfold Acc.chr; omega)
                  exact fun a w hh => hK0 (⟨i + 1, by omega, fun d hd => by rw [take_snoc hc] at hd; rcases List.mem_append.1 hd with hd | hd; exact hi.2 d hd; rw [List.mem_singleton.1 hd]; exact hgood⟩) (by dsimp only; omega) a w (hh.sub (⟨⟨_, rfl, ⟨⟨_, rfl, Le.refl _⟩, ⟨⟨_, rfl, Le.refl _⟩, ⟨⟨_, rfl, Le.is (by simp)⟩, trivial⟩⟩⟩⟩, [], by decide, trivial⟩))
            · have h27 := of_decide_eq_false hb27
              refine SWl.off rfl rfl (hb27) rfl rfl ?_
              refine SWl.off rfl rfl (hb27) rfl rfl ?_
              refine SWl.off rfl rfl (hb27) rfl rfl ?_
              refine SWl.offu rfl rfl rfl rfl ?_
              refine SWl.offu rfl rfl rfl rfl ?_
              refine SWl.off rfl rfl (hb27) rfl rfl ?_
              refine SWl.rd rfl (Rd.pickN rfl (hb27) rfl) ?_
              refine SWl.rd rfl (Rd.move rfl) ?_
              refine SWl.off rfl rfl (rfl) rfl rfl ?_
              refine SWl.off rfl rfl (rfl) rfl rfl ?_
              refine SWl.rd rfl (Rd.pickN rfl (rfl) rfl) ?_
              refine SWl.nil ?_
              refine SN.then ?_
              refine SW.condF rfl (rfl) ?_
              refine SW.skip ?_
              refine SN.block ?_
              refine SN.then ?_
              refine SW.region ?_
              refine SWl.rd rfl (Rd.add rfl rfl ⟨by omega, by omega⟩) ?_
              refine SWl.rd rfl (Rd.move rfl) ?_
              refine SWl.nil ?_
              have hgood : Acc.chr c := by first | (unfold Acc.chr; omega) | ((have h38 := hb38; simp only [Bool.not_eq_false', decide_eq_true_eq] at h38); unfold Acc.chr; omega)
              exact fun a w hh => hK0 (⟨i + 1, by omega, fun d hd => by rw [take_snoc hc] at hd; rcases List.mem_append.1 hd with hd | hd; exact hi.2 d hd; rw [List.mem_singleton.1 hd]; exact hgood⟩) (by dsimp only; omega) a w (hh.sub (⟨⟨_, rfl, ⟨⟨_, rfl, Le.refl _⟩, ⟨⟨_, rfl, Le.refl _⟩, ⟨⟨_, rfl, Le.is (by simp)⟩, trivial⟩⟩⟩⟩, [], by decide, trivial⟩))
        · have h16 := of_decide_eq_false hb16
          refine SW.exit' ?_
          repeat (first | refine SE.then ?_ | refine SE.skip (by decide) ?_)
          refine SE.here ?_
          refine SN.then ?_
          refine SW.seq ?_
          refine SW.region ?_
          refine SWl.rd rfl (Rd.assign rfl) ?_
          refine SWl.nil ?_
          refine SN.then ?_
          refine SW.ret (fn := Tryd.f85) (fun _ _ h => h) (Rs.le (Rs.one rfl (ResV.tmp rfl)) ?_)
          first | exact Le.trans (le_decF (fun h => by have := h.2.1; omega)) le_nw_is | exact Le.trans (le_decF (fun h => by have := h.2.2; omega)) le_nw_is | exact Le.trans (le_decF (fun h => hbad (h.1 c (List.mem_of_getElem? hc)))) le_nw_is | exact Le.trans (le_decT ⟨fun d hd => hi.2 d (by rw [List.take_of_length_le (by omega)]; exact hd), by omega, by omega⟩) le_nw_is
set_option maxHeartbeats 4000000 in
set_option maxRecDepth 100000 in
theorem con_validA (nm : List UInt8) (role : Int) (kl : Nat) (dep num : Int) : ConN Tryd.prog 43 [aggD [strD nm, iD role, lenD kl, iD dep, iD num]] (boolD (decide (Acc.okN nm role kl dep num))) := by
  refine con_ofN Tryd.func43 (by kernel_rfl) rfl (by kernel_rfl) fun base w0 => ?_
  refine SW.seq ?_
  refine SW.region ?_
  refine SWl.ef (S := []) (Ef.boxA rfl rfl) ?_
  rintro _ ⟨g1, rfl⟩
  refine SWl.rd rfl (Rd.assign rfl) ?_
  refine SWl.nil ?_
  refine SN.then ?_
  refine SW.seq ?_
  refine SW.seq ?_
  refine SW.region ?_
  refine SWl.rd rfl (Rd.fieldAddr (n := 0) rfl (by kernel_rfl)) ?_
  refine SWl.rd rfl (Rd.loadB 0 rfl rfl rfl (by kernel_rfl) ap_nil) ?_
  refine SWl.ef (S := []) (Ef.callN [] (con_named nm) rfl ⟨(sees_le (Le.refl _)), trivial⟩ rfl) ?_
  rintro _ rfl
  refine SWl.rd rfl (Rd.not rfl) ?_
  refine SWl.rd rfl (Rd.move rfl) ?_
  refine SWl.split 7 rfl (fun hb7 => ?_) (fun hb7 => ?_)
  · have h7 : ¬ Acc.isName nm := by simpa using hb7
    refine SWl.off rfl rfl (hb7) rfl rfl ?_
    refine SWl.off rfl rfl (hb7) rfl rfl ?_
    refine SWl.off rfl rfl (hb7) rfl rfl ?_
    refine SWl.off rfl rfl (hb7) rfl rfl ?_
    refine SWl.rd rfl (Rd.pickY rfl (hb7) rfl) ?_
    refine SWl.rd rfl (Rd.move rfl) ?_
    refine SWl.off rfl rfl (rfl) rfl rfl ?_
    refine SWl.off rfl rfl (rfl) rfl rfl ?_
    refine SWl.off rfl rfl (rfl) rfl rfl ?_
    refine SWl.rd rfl (Rd.pickY rfl (rfl) rfl) ?_
    refine SWl.rd rfl (Rd.move rfl) ?_
    refine SWl.off rfl rfl (rfl) rfl rfl ?_
    refine SWl.off rfl rfl (rfl) rfl rfl ?_
    refine SWl.off rfl rfl (rfl) rfl rfl ?_
    refine SWl.rd rfl (Rd.pickY rfl (rfl) rfl) ?_
    refine SWl.rd rfl (Rd.move rfl) ?_
    refine SWl.off rfl rfl (rfl) rfl rfl ?_
    refine SWl.off rfl rfl (rfl) rfl rfl ?_
    refine SWl.off rfl rfl (rfl) rfl rfl ?_
    refine SWl.rd rfl (Rd.pickY rfl (rfl) rfl) ?_
    refine SWl.nil ?_
    refine SN.then ?_
    refine SW.condT rfl (rfl) ?_
    refine SW.seq ?_
    refine SW.region ?_
    refine SWl.rd rfl (Rd.assign rfl) ?_
    refine SWl.nil ?_
    refine SN.then ?_
    refine SW.ret (fn := Tryd.f43) (fun _ _ h => h) (Rs.le (Rs.one rfl (ResV.tmp rfl)) ?_)
    first | exact Le.trans (le_decF (fun h => h7 h.1)) le_nw_is | exact Le.trans (le_decF (fun h => h13 h.2.1)) le_nw_is | exact Le.trans (le_decF (fun h => by have h1 := h.2.2.1; have h2 := h.2.2.2.1; have h3 := h.2.2.2.2.1; omega)) le_nw_is | exact Le.trans (le_decP (by rw [Acc.okN_iff h7 h13 (by omega) (by omega) (by omega)]; simp only [Acc.nums, *]; first | rfl | (simp; done) | (simp; omega) | omega)) le_nw_is | exact Le.trans (le_decF (fun h => by have h1 := h.2.2.2.2.2; have h2 := h.2.2.2.2.1; simp [Acc.nums, h30, h35, h40] at h1; omega)) le_nw_is
  · have h7 : Acc.isName nm := by simpa using hb7
    refine SWl.rdg rfl rfl (hb7) rfl rfl (Rd.fieldAddr (n := 2) rfl (by kernel_rfl)) ?_
    refine SWl.rdg rfl rfl (hb7) rfl rfl (Rd.loadB 0 rfl rfl rfl (by kernel_rfl) ap_nil) ?_
    refine SWl.rdg rfl rfl (hb7) rfl rfl (Rd.lenN (e := 5) rfl (by kernel_rfl)) ?_
    refine SWl.rdg rfl rfl (hb7) rfl rfl (Rd.nei rfl rfl) ?_
    refine SWl.rd rfl (Rd.pickN rfl (hb7) rfl) ?_
    refine SWl.rd rfl (Rd.move rfl) ?_
    refine SWl.split 13 rfl (fun hb13 => ?_) (fun hb13 => ?_)
    · have h13 : ¬ kl = 32 := by have h := (show (!decide ((kl : Int) = 32)) = true from hb13); simp at h; omega
      refine SWl.off rfl rfl (hb13) rfl rfl ?_
      refine SWl.off rfl rfl (hb13) rfl rfl ?_
      refine SWl.off rfl rfl (hb13) rfl rfl ?_
      refine SWl.rd rfl (Rd.pickY rfl (hb13) rfl) ?_
      refine SWl.rd rfl (Rd.move rfl) ?_
      refine SWl.off rfl rfl (rfl) rfl rfl ?_
      refine SWl.off rfl rfl (rfl) rfl rfl ?_
      refine SWl.off rfl rfl (rfl) rfl rfl ?_
      refine SWl.rd rfl (Rd.pickY rfl (rfl) rfl) ?_
      refine SWl.rd rfl (Rd.move rfl) ?_
      refine SWl.off rfl rfl (rfl) rfl rfl ?_
      refine SWl.off rfl rfl (rfl) rfl rfl ?_
      refine SWl.off rfl rfl (rfl) rfl rfl ?_
      refine SWl.rd rfl (Rd.pickY rfl (rfl) rfl) ?_
      refine SWl.nil ?_
      refine SN.then ?_
      refine SW.condT rfl (rfl) ?_
      refine SW.seq ?_
      refine SW.region ?_
      refine SWl.rd rfl (Rd.assign rfl) ?_
      refine SWl.nil ?_
      refine SN.then ?_
      refine SW.ret (fn := Tryd.f43) (fun _ _ h => h) (Rs.le (Rs.one rfl (ResV.tmp rfl)) ?_)
      first | exact Le.trans (le_decF (fun h => h7 h.1)) le_nw_is | exact Le.trans (le_decF (fun h => h13 h.2.1)) le_nw_is | exact Le.trans (le_decF (fun h => by have h1 := h.2.2.1; have h2 := h.2.2.2.1; have h3 := h.2.2.2.2.1; omega)) le_nw_is | exact Le.trans (le_decP (by rw [Acc.okN_iff h7 h13 (by omega) (by omega) (by omega)]; simp only [Acc.nums, *]; first | rfl | (simp; done) | (simp; omega) | omega)) le_nw_is | exact Le.trans (le_decF (fun h => by have h1 := h.2.2.2.2.2; have h2 := h.2.2.2.2.1; simp [Acc.nums, h30, h35, h40] at h1; omega)) le_nw_is
    · have h13 : kl = 32 := by have h := (show (!decide ((kl : Int) = 32)) = false from hb13); simp at h; omega
      refine SWl.rdg rfl rfl (hb13) rfl rfl (Rd.fieldAddr (n := 3) rfl (by kernel_rfl)) ?_
      refine SWl.rdg rfl rfl (hb13) rfl rfl (Rd.loadB 0 rfl rfl rfl (by kernel_rfl) ap_nil) ?_
      refine SWl.rdg rfl rfl (hb13) rfl rfl (Rd.lss rfl rfl) ?_
      refine SWl.rd rfl (Rd.pickN rfl (hb13) rfl) ?_
      refine SWl.rd rfl (Rd.move rfl) ?_
      refine SWl.split 18 rfl (fun hb18 => ?_) (fun hb18 => ?_)
      · have h18 := of_decide_eq_true hb18
        refine SWl.off rfl rfl (hb18) rfl rfl ?_
        refine SWl.off rfl rfl (hb18) rfl rfl ?_
        refine SWl.off rfl rfl (hb18) rfl rfl ?_
        refine SWl.rd rfl (Rd.pickY rfl (hb18) rfl) ?_
        refine SWl.rd rfl (Rd.move rfl) ?_
        refine SWl.off rfl rfl (rfl) rfl rfl ?_
        refine SWl.off rfl rfl (rfl) rfl rfl ?_
        refine SWl.off rfl rfl (rfl) rfl rfl ?_
        refine SWl.rd rfl (Rd.pickY rfl (rfl) rfl) ?_
        refine SWl.nil ?_
        refine SN.then ?_
        refine SW.condT rfl (rfl) ?_
        refine SW.seq ?_
        refine SW.region ?_
        refine SWl.rd rfl (Rd.assign rfl) ?_
        refine SWl.nil ?_
        refine SN.then ?_
        refine SW.ret (fn := Tryd.f43) (fun _ _ h => h) (Rs.le (Rs.one rfl (ResV.tmp rfl)) ?_)
        first | exact Le.trans (le_decF (fun h => h7 h.1)) le_nw_is | exact Le.trans (le_decF (fun h => h13 h.2.1)) le_nw_is | exact Le.trans (le_decF (fun h => by have h1 := h.2.2.1; have h2 := h.2.2.2.1; have h3 := h.2.2.2.2.1; omega)) le_nw_is | exact Le.trans (le_decP (by rw [Acc.okN_iff h7 h13 (by omega) (by omega) (by omega)]; simp only [Acc.nums, *]; first | rfl | (simp; done) | (simp; omega) | omega)) le_nw_is | exact Le.trans (le_decF (fun h => by have h1 := h.2.2.2.2.2; have h2 := h.2.2.2.2.1; simp [Acc.nums, h30, h35, h40] at h1; omega)) le_nw_is
      · have h18 := of_decide_eq_false hb18
        refine SWl.rdg rfl rfl (hb18) rfl rfl (Rd.fieldAddr (n := 3) rfl (by kernel_rfl)) ?_
        refine SWl.rdg rfl rfl (hb18) rfl rfl (Rd.loadB 0 rfl rfl rfl (by kernel_rfl) ap_nil) ?_
        refine SWl.rdg rfl rfl (hb18) rfl rfl (Rd.gtr rfl rfl) ?_
        refine SWl.rd rfl (Rd.pickN rfl (hb18) rfl) ?_
        refine SWl.rd rfl (Rd.move rfl) ?_
        refine SWl.split 23 rfl (fun hb23 => ?_) (fun hb23 => ?_)
        · have h23 := of_decide_eq_true hb23
          refine SWl.off rfl rfl (hb23) rfl rfl ?_
          refine SWl.off rfl rfl (hb23) rfl rfl ?_
          refine SWl.off rfl rfl (hb23) rfl rfl ?_
          refine SWl.rd rfl (Rd.pickY rfl (hb23) rfl) ?_
          refine SWl.nil ?_
          refine SN.then ?_
          refine SW.condT rfl (rfl) ?_
          refine SW.seq ?_
          refine SW.region ?_
          refine SWl.rd rfl (Rd.assign rfl) ?_
          refine SWl.nil ?_
          refine SN.then ?_
          refine SW.ret (fn := Tryd.f43) (fun _ _ h => h) (Rs.le (Rs.one rfl (ResV.tmp rfl)) ?_)
          first | exact Le.trans (le_decF (fun h => h7 h.1)) le_nw_is | exact Le.trans (le_decF (fun h => h13 h.2.1)) le_nw_is | exact Le.trans (le_decF (fun h => by have h1 := h.2.2.1; have h2 := h.2.2.2.1; have h3 := h.2.2.2.2.1; omega)) le_nw_is | exact Le.trans (le_decP (by rw [Acc.okN_iff h7 h13 (by omega) (by omega) (by omega)]; simp only [Acc.nums, *]; first | rfl | (simp; done) | (simp; omega) | omega)) le_nw_is | exact Le.trans (le_decF (fun h => by have h1 := h.2.2.2.2.2; have h2 := h.2.2.2.2.1; simp [Acc.nums, h30, h35, h40] at h1; omega)) le_nw_is
        · have h23 := of_decide_eq_false hb23
          refine SWl.rdg rfl rfl (hb23) rfl rfl (Rd.fieldAddr (n := 4) rfl (by kernel_rfl)) ?_
          refine SWl.rdg rfl rfl (hb23) rfl rfl (Rd.loadB 0 rfl rfl rfl (by kernel_rfl) ap_nil) ?_
          refine SWl.rdg rfl rfl (hb23) rfl rfl (Rd.lss rfl rfl) ?_
          refine SWl.rd rfl (Rd.pickN rfl (hb23) rfl) ?_
          refine SWl.nil ?_
          refine SN.then ?_
          refine SW.cond rfl (fun hb27 => ?_) (fun hb27 => ?_)
          · have h27 := of_decide_eq_true hb27
            refine SW.seq ?_
            refine SW.region ?_
            refine SWl.rd rfl (Rd.assign rfl) ?_
            refine SWl.nil ?_
            refine SN.then ?_
            refine SW.ret (fn := Tryd.f43) (fun _ _ h => h) (Rs.le (Rs.one rfl (ResV.tmp rfl)) ?_)
            first | exact Le.trans (le_decF (fun h => h7 h.1)) le_nw_is | exact Le.trans (le_decF (fun h => h13 h.2.1)) le_nw_is | exact Le.trans (le_decF (fun h => by have h1 := h.2.2.1; have h2 := h.2.2.2.1; have h3 := h.2.2.2.2.1; omega)) le_nw_is | exact Le.trans (le_decP (by rw [Acc.okN_iff h7 h13 (by omega) (by omega) (by omega)]; simp only [Acc.nums, *]; first | rfl | (simp; done) | (simp; omega) | omega)) le_nw_is | exact Le.trans (le_decF (fun h => by have h1 := h.2.2.2.2.2; have h2 := h.2.2.2.2.1; simp [Acc.nums, h30, h35, h40] at h1; omega)) le_nw_is
          · have h27 := of_decide_eq_false hb27
            refine SW.skip ?_
            refine SN.then ?_
            refine SW.seq ?_
            refine SW.seq ?_
            refine SW.region ?_
            refine SWl.rd rfl (Rd.fieldAddr (n := 1) rfl (by kernel_rfl)) ?_
            refine SWl.rd rfl (Rd.loadB 0 rfl rfl rfl (by kernel_rfl) ap_nil) ?_
            refine SWl.nil ?_
            refine SN.then ?_
            refine SW.block ?_
            refine SW.seq ?_
            refine SW.region ?_
            refine SWl.rd rfl (Rd.eqi rfl rfl) ?_
            refine SWl.rd rfl (Rd.assign rfl) ?_
            refine SWl.nil ?_
            refine SN.then ?_
            refine SW.cond rfl (fun hb30 => ?_) (fun hb30 => ?_)
            · have h30 := of_decide_eq_true hb30
              refine SW.seq ?_
              refine SW.region ?_
              refine SWl.rd rfl (Rd.fieldAddr (n := 4) rfl (by kernel_rfl)) ?_
              refine SWl.rd rfl (Rd.loadB 0 rfl rfl rfl (by kernel_rfl) ap_nil) ?_
              refine SWl.rd rfl (Rd.lss rfl rfl) ?_
              refine SWl.rd rfl (Rd.assign rfl) ?_
              refine SWl.nil ?_
              refine SN.then ?_
              refine SW.ret (fn := Tryd.f43) (fun _ _ h => h) (Rs.le (Rs.one rfl (ResV.tmp rfl)) ?_)
              first | exact Le.trans (le_decF (fun h => h7 h.1)) le_nw_is | exact Le.trans (le_decF (fun h => h13 h.2.1)) le_nw_is | exact Le.trans (le_decF (fun h => by have h1 := h.2.2.1; have h2 := h.2.2.2.1; have h3 := h.2.2.2.2.1; omega)) le_nw_is | exact Le.trans (le_decP (by rw [Acc.okN_iff h7 h13 (by omega) (by omega) (by omega)]; simp only [Acc.nums, *]; first | rfl | (simp; done) | (simp; omega) | omega)) le_nw_is | exact Le.trans (le_decF (fun h => by have h1 := h.2.2.2.2.2; have h2 := h.2.2.2.2.1; simp [Acc.nums, h30, h35, h40] at h1; omega)) le_nw_is
            · have h30 := of_decide_eq_false hb30
              refine SW.seq ?_
              refine SW.region ?_
              refine SWl.rd rfl (Rd.eqi rfl rfl) ?_
              refine SWl.rd rfl (Rd.assign rfl) ?_
              refine SWl.nil ?_
              refine SN.then ?_
              refine SW.cond rfl (fun hb35 => ?_) (fun hb35 => ?_)
              · have h35 := of_decide_eq_true hb35
                refine SW.seq ?_
                refine SW.region ?_
                refine SWl.rd rfl (Rd.fieldAddr (n := 4) rfl (by kernel_rfl)) ?_
                refine SWl.rd rfl (Rd.loadB 0 rfl rfl rfl (by kernel_rfl) ap_nil) ?_
                refine SWl.rd rfl (Rd.lss rfl rfl) ?_
                refine SWl.rd rfl (Rd.assign rfl) ?_
                refine SWl.nil ?_
                refine SN.then ?_
                refine SW.ret (fn := Tryd.f43) (fun _ _ h => h) (Rs.le (Rs.one rfl (ResV.tmp rfl)) ?_)
                first | exact Le.trans (le_decF (fun h => h7 h.1)) le_nw_is | exact Le.trans (le_decF (fun h => h13 h.2.1)) le_nw_is | exact Le.trans (le_decF (fun h => by have h1 := h.2.2.1; have h2 := h.2.2.2.1; have h3 := h.2.2.2.2.1; omega)) le_nw_is | exact Le.trans (le_decP (by rw [Acc.okN_iff h7 h13 (by omega) (by omega) (by omega)]; simp only [Acc.nums, *]; first | rfl | (simp; done) | (simp; omega) | omega)) le_nw_is | exact Le.trans (le_decF (fun h => by have h1 := h.2.2.2.2.2; have h2 := h.2.2.2.2.1; simp [Acc.nums, h30, h35, h40] at h1; omega)) le_nw_is
              · have h35 := of_decide_eq_false hb35
                refine SW.seq ?_
                refine SW.region ?_
                refine SWl.rd rfl (Rd.eqi rfl rfl) ?_
                refine SWl.rd rfl (Rd.assign rfl) ?_
                refine SWl.nil ?_
                refine SN.then ?_
                refine SW.cond rfl (fun hb40 => ?_) (fun hb40 => ?_)
                · have h40 := of_decide_eq_true hb40
                  refine SW.seq ?_
                  refine SW.region ?_
                  refine SWl.rd rfl (Rd.fieldAddr (n := 4) rfl (by kernel_rfl)) ?_
                  refine SWl.rd rfl (Rd.loadB 0 rfl rfl rfl (by kernel_rfl) ap_nil) ?_
                  refine SWl.rd rfl (Rd.eqi rfl rfl) ?_
                  refine SWl.rd rfl (Rd.assign rfl) ?_
                  refine SWl.nil ?_
                  refine SN.then ?_
                  refine SW.ret (fn := Tryd.f43) (fun _ _ h => h) (Rs.le (Rs.one rfl (ResV.tmp rfl)) ?_)
                  first | exact Le.trans (le_decF (fun h => h7 h.1)) le_nw_is | exact Le.trans (le_decF (fun h => h13 h.2.1)) le_nw_is | exact Le.trans (le_decF (fun h => by have h1 := h.2.2.1; have h2 := h.2.2.2.1; have h3 := h.2.2.2.2.1; omega)) le_nw_is | exact Le.trans (le_decP (by rw [Acc.okN_iff h7 h13 (by omega) (by omega) (by omega)]; simp only [Acc.nums, *]; first | rfl | (simp; done) | (simp; omega) | omega)) le_nw_is | exact Le.trans (le_decF (fun h => by have h1 := h.2.2.2.2.2; have h2 := h.2.2.2.2.1; simp [Acc.nums, h30, h35, h40] at h1; omega)) le_nw_is
                · have h40 := of_decide_eq_false hb40
                  refine SW.skip ?_
                  refine SN.block ?_
                  refine SN.then ?_
                  refine SW.seq ?_
                  refine SW.region ?_
                  refine SWl.rd rfl (Rd.assign rfl) ?_
                  refine SWl.nil ?_
                  refine SN.then ?_
                  refine SW.ret (fn := Tryd.f43) (fun _ _ h => h) (Rs.le (Rs.one rfl (ResV.tmp rfl)) ?_)
                  first | exact Le.trans (le_decF (fun h => h7 h.1)) le_nw_is | exact Le.trans (le_decF (fun h => h13 h.2.1)) le_nw_is | exact Le.trans (le_decF (fun h => by have h1 := h.2.2.1; have h2 := h.2.2.2.1; have h3 := h.2.2.2.2.1; omega)) le_nw_is | exact Le.trans (le_decP (by rw [Acc.okN_iff h7 h13 (by omega) (by omega) (by omega)]; simp only [Acc.nums, *]; first | rfl | (simp; done) | (simp; omega) | omega)) le_nw_is | exact Le.trans (le_decF (fun h => by have h1 := h.2.2.2.2.2; have h2 := h.2.2.2.2.1; simp [Acc.nums, h30, h35, h40] at h1; omega)) le_nw_is
set_option maxHeartbeats 4000000 in
set_option maxRecDepth 100000 in
theorem con_copied (nm : List UInt8) (role : Int) (b : List UInt8) (dep num : Int) (hb : b.length ≤ 1000000) : ConN Tryd.prog 86 [aggD [strD nm, iD role, bD b, iD dep, iD num]] (aggD [strD nm, iD role, bD b, iD dep, iD num]) := by
  refine con_ofN Tryd.func86 (by kernel_rfl) rfl (by kernel_rfl) fun base w0 => ?_
  refine SW.seq ?_
  refine SW.region ?_
  refine SWl.ef (S := []) (Ef.boxA rfl rfl) ?_
  rintro _ ⟨g1, rfl⟩
  refine SWl.ef (S := []) (Ef.alloc (zs := [.string ⟨#[]⟩, .int .i64 0, .slice none 0 0, .int .i64 0, .int .i64 0]) (by kernel_rfl) rfl) ?_
  rintro _ ⟨g2, rfl⟩
  refine SWl.nil ?_
  refine SN.then ?_
  refine SW.seq ?_
  refine SW.region ?_
  refine SWl.rd rfl (Rd.fieldAddr (n := 2) rfl (by kernel_rfl)) ?_
  refine SWl.rd rfl (Rd.loadB 0 rfl rfl rfl (by kernel_rfl) ap_nil) ?_
  refine SWl.ef (S := []) (Ef.callNN [] (con_cloneB _ (by first | assumption | (simp <;> omega))) rfl ⟨(sees_le (Le.refl _)), trivial⟩ rfl) ?_
  rintro _ rfl
  refine SWl.rd rfl (Rd.fieldAddr (n := 2) rfl (by kernel_rfl)) ?_
  refine SWl.ef (S := [_]) (Ef.storeV 0 rfl rfl rfl (by kernel_rfl) rfl (List.mem_singleton.2 rfl)) ?_
  rintro _ rfl
  refine SWl.nil ?_
  refine SN.then ?_
  refine SW.seq ?_
  refine SW.sub (σ' := St.ob [(1, isD (.pointer (some ⟨g1, 0, none⟩))), (2, isD (.pointer (some ⟨g2, 0, none⟩)))] [.c g1 [strD nm, iD role, nwD w0.heap.size (bD b), iD dep, iD num], .c g2 [strD [], iD 0, isD (.slice none 0 0), iD 0, iD 0]]) (⟨⟨_, rfl, ⟨⟨_, rfl, Le.refl _⟩, ⟨⟨_, rfl, Le.refl _⟩, trivial⟩⟩⟩, [0, 1], by decide, ⟨⟨_, rfl, LeAll.refl _⟩, ⟨⟨_, rfl, LeAll.refl _⟩, trivial⟩⟩⟩) ?_
  refine SW.region ?_
  refine SWl.rd rfl (Rd.loadA 0 5 rfl rfl (by kernel_rfl) rfl ap_nil) ?_
  refine SWl.ef (S := [_]) (Ef.storeA 1 rfl rfl rfl (by kernel_rfl) rfl (List.mem_singleton.2 rfl)) ?_
  rintro _ rfl
  refine SWl.nil ?_
  refine SN.then ?_
  refine SW.ret (fn := Tryd.f86) (fun _ _ h => h) (Rs.le (Rs.one rfl (ResV.cellA 1 rfl rfl (by kernel_rfl))) ?_)
  exact (le_nw_agg ⟨le_nw_is, le_nw_is, (Le.refl _), le_nw_is, le_nw_is, trivial⟩)
end Sx
end Go.Proofs.YtchbgfgboogniaaDoor
namespace Go.Proofs.YtchbgfgboogniaaDoor
open Go.RowKit
namespace Sx
/-! A book: where its parts lie. -/
structure Bst where
  M : Option (Nat × Nat)
  F1 : List Nat
  F2 : List Nat
  n : Ust
abbrev Acc.nm (l : List Acc.T) : List (List UInt8) := l.map Acc.T.name
def bookC (g : Nat) (s : Bst) (l : List Acc.T) : Box := .c g [isD (.map (s.M.map Prod.fst)), isD (.slice s.n.A (Acc.nm l).length s.n.c), isD (.map (s.M.map Prod.snd))]
def bookN (s : Bst) (l : List Acc.T) : Box := .r s.n.F (vecT 9 1 encT s.n.A s.n.c (Acc.nm l))
def bookA (s : Bst) (l : List Acc.T) : Box := .r s.F1 (mapQ (s.M.map Prod.fst) encS (Acc.nm l) (acD l))
def bookS (s : Bst) (l : List Acc.T) : Box := .r s.F2 (mapQ (s.M.map Prod.snd) encSt (Acc.seats l) (seD l))
/-- A book that is read. -/
abbrev bookD (l : List Acc.T) : D := paD [mqD encS (Acc.nm l) (acD l), lsD encT (Acc.nm l), mqD encSt (Acc.seats l) (seD l)]
/-- A nil map has no keys. -/
theorem SW.mapQNil {P : Program} {Γ : Cx} {σ : St} {Q : Exit → Act → World → Prop} {c : Code} {κ : Type} {enc : κ → Value} {K : List κ} {f : κ → D} {F : List Nat} (j : Nat) (hj : σ.bx[j]? = some (.r F (mapQ none enc K f))) (h : K = [] → SW P Γ σ c Q) : SW P Γ σ c Q := fun a w hh => by
  obtain ⟨ks, _, hK, es, hm, hks, _⟩ := hh.resAt hj
  rcases hm with ⟨_, rfl, _⟩ | ⟨g, ck, h0, _⟩
  · have h1 : ks = [] := by simpa using hks.symm
    subst h1
    exact h (List.eq_nil_iff_forall_not_mem.2 fun k hk => by have := (hK k).2 hk; simp at this) a w hh
  · cases h0
theorem acD_eq {l l' : List Acc.T} {k : List UInt8} (h : Acc.find l' k = Acc.find l k) : Le (acD l k) (acD l' k) := by unfold acD; rw [h]; exact Le.refl _
theorem seD_eq {l l' : List Acc.T} {p : Int × Int} (h : Acc.seat l' p = Acc.seat l p) : Le (seD l p) (seD l' p) := by unfold seD; rw [h]; exact Le.refl _
theorem acD_mem {l : List Acc.T} {a : Acc.T} (h : Acc.find l a.name = some a) : acD l a.name = aggD (encA a) := by unfold acD; rw [h]; rfl
theorem seD_mem {l : List Acc.T} {a : Acc.T} (h : Acc.seat l (a.role, a.num) = some a) : seD l (a.role, a.num) = strD a.name := by unfold seD; rw [h]; rfl
/-- No account of this name, nor at this seat. -/
structure Acc.Free (l : List Acc.T) (a : Acc.T) : Prop where
  fine : Acc.Fine l
  fine' : Acc.Fine (Acc.ins l a)
  nm : a.name ∉ Acc.nm l
  st : a.role ≠ 3 → (a.role, a.num) ∉ Acc.seats l
theorem le_seat (r n : Int) : Le (aggD [iD r, iD n]) (isD (encSt (r, n))) := le_agg_is (vs := [.int .i64 r, .int .i64 n])
end Sx
end Go.Proofs.YtchbgfgboogniaaDoor
