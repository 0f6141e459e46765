/- THE WALK of number's DivMod on valid Ints, over a zec of divNat. A DRAWING REGION WITH QUIET READS: reads behind which every effect waits are sho -/
import Derived.Test.YtfoafihodanmhaaGreatDoorGZAR
set_option maxHeartbeats 8000000
set_option maxRecDepth 100000
namespace Go.Proofs.YtfoafihodanmhaaGreatDoor
open Go.RowKit
open Nm (W32)
def up (x y:Int):Bool:=(decide (x < 0) != decide (y < 0)) && decide (0 < x.natAbs % y.natAbs)
def dqN (x y:Int):Nat:=if up x y=true then x.natAbs / y.natAbs + 1 else x.natAbs / y.natAbs
def drN (x y:Int):Nat:=if up x y=true then y.natAbs - x.natAbs % y.natAbs else x.natAbs % y.natAbs
def dq (x y:Int):Int:=sgn (decide (x < 0) != decide (y < 0)) (dqN x y)
def dr (x y:Int):Int:=sgn (decide (y < 0)) (drN x y)
theorem dqN_le {x y:Int} (hy:y≠0):dqN x y≤x.natAbs:=by
 unfold dqN;have h0:x.natAbs / y.natAbs≤x.natAbs:=Nat.div_le_self _ _
 split
 ·rename_i h;simp only [up,JL,Jz] at h;have h1:=h.2;have h2:x.natAbs % y.natAbs≤x.natAbs:=Nat.mod_le _ _;have h3:x.natAbs % y.natAbs < y.natAbs:=Nat.mod_lt _ o9;have h4:=Nat.div_add_mod x.natAbs y.natAbs;have h5:2 * (x.natAbs / y.natAbs)≤y.natAbs * (x.natAbs / y.natAbs):=Nat.mul_le_mul_right _ o9;omega
 ·exact h0
theorem drN_lt {x y:Int} (hy:y≠0):drN x y < y.natAbs:=by
 unfold drN;have h3:x.natAbs % y.natAbs < y.natAbs:=Nat.mod_lt _ o9
 split
 ·rename_i h;simp only [up,JL,Jz] at h;omega
 ·exact h3
def RI2 (w:World) (q r er:Int) (e:Ending) (w':World):Prop:=
 ∃ s A n c t B m d,e= .returned (.tuple #[.agg #[.bool s,.slice A n c],.agg #[.bool t,.slice B m d],.int .i64 er])∧IntS w' s A n c q∧IntS w' t B m d r∧Frs w A∧Frs w B∧Only [] w w'
theorem ZV {P:Program} {fn:Func} {p q u:Tmp} {ty:TypeId} (h:fn.results= #[.cell p ty,.cell q ty,.tmp u]) (tmps:Array Value) (w:World) (g k:Nat) (t:TypeId) (cs ds:List Value) (d:TypeDesc)
  (hp:tmps.getD p undef= .pointer (some ⟨g,0,none⟩)) (hq:tmps.getD q undef= .pointer (some ⟨k,0,none⟩)) (hg:Blk w g t cs) (hk:Blk w k t ds)
  (hu:P.underlying ty=some d) (hd:(match d with | .struct _ | .array _ _=>true | _=>false)=true) (hi:(P.info? ty).map (·.size)=some cs.length) (hi2:(P.info? ty).map (·.size)=some ds.length):
  (results fn tmps).run P w= .ok (.tuple #[.agg cs.toArray,.agg ds.toArray,tmps.getD u undef]) w:=by
 have hp':tmps[p]?.getD undef= .pointer (some ⟨g,0,none⟩):=by simpa using hp
 have hq':tmps[q]?.getD undef= .pointer (some ⟨k,0,none⟩):=by simpa using hq
 simp [results,h,hp',hq',asAddr,run_loadVar_row w g t ty cs.toArray (0,0) d hg hu hd (by simpa using hi),run_loadVar_row w k t ty ds.toArray (0,0) d hk hu hd (by simpa using hi2)]
theorem dg_one {v:Nat} (h0:0 < v) (h:v < W32):Nm.dg W32 v=[v]:=by
 rw [Nm.dg_pos d9 o9,Nat.div_eq_of_lt h,Nat.mod_eq_of_lt h,Nm.dg_zero]
theorem NatS.one (w:World) (v:Nat) (h0:0 < v) (h:v < W32):NatS (w.alloc<|.cells #[.int .u32 (v:Int)] 209) (some ⟨w.heap.size,0,none⟩) 1 1 v:=
 ⟨by rw [Nm.len,dg_one h0 h];rfl,Js _,by rw [dg_one h0 h];exact RV.new rfl⟩
theorem y8 {w:World} {g:Nat} (hg:g < w.heap.size) (u v:Value) (o:Obj) {S:LN} (hS:g∈S):Only S (w.alloc o).drew ((((w.setCell ⟨g,0,none⟩ u).setCell ⟨g,1,none⟩ v).alloc o).drew):=by
 have h:=yC (w.alloc o) g u v;rw [World.setCell_alloc_past o g 0 u hg,World.setCell_alloc_past o g 1 v (by simpa using hg)] at h;exact (h.mono (by intro x hx _;simp at hx;subst hx;exact hS)).dd
def box4 (w:World) (a b c d:Value):World:=(zfH w a b c d).alloc (.cells #[.bool false,.slice none 0 0] 76)
theorem box4_spec (w:World) (a b c d:Value):Blk (box4 w a b c d) w.heap.size 76 [a,b]∧Blk (box4 w a b c d) (w.heap.size + 1) 76 [c,d]∧Blk (box4 w a b c d) (w.heap.size + 2) 76 [.bool false,.slice none 0 0]∧Blk (box4 w a b c d) (w.heap.size + 3) 76 [.bool false,.slice none 0 0]∧Only [] w (box4 w a b c d)∧(box4 w a b c d).heap.size=w.heap.size + 4:=by
 obtain ⟨h1,h2,h3,h4,h5⟩:=KR w a b c d;have h6:=Blk.new (zfH w a b c d) 76 [.bool false,.slice none 0 0];rw [h5] at h6;exact ⟨h1.alloc _,h2.alloc _,h3.alloc _,h6,h4.alloc _,by simp [box4,h5]⟩
set_option maxHeartbeats 4000000 in
set_option maxRecDepth 100000 in
theorem ze2 (w : World) (s t : Bool) (A B : Option Addr) (n c m d : Nat) (x y : Int) (hx : x.natAbs < ya) (hy : y.natAbs < ya) (hy0 : y ≠ 0) (hA : IntS w s A n c x) (hB : IntS w t B m d y)
    (H : ∀ (w' : World) (A' B' : Option Addr) (n' c' m' d' : Nat), Only [] w w' → NatS w' A' n' c' x.natAbs → NatS w' B' m' d' y.natAbs → Calls Tryz.prog 137 #[.slice A' n' c', .slice B' m' d'] w' (RQ w' x.natAbs y.natAbs)) :
    Calls Tryz.prog 103 #[.agg #[.bool s, .slice A n c], .agg #[.bool t, .slice B m d]] w (RI2 w (dq x y) (dr x y) 0) := by
  obtain ⟨hBa, hBb, hBr, hBq, hO0, hsz⟩ := box4_spec w (.bool s) (.slice A n c) (.bool t) (.slice B m d)
  have hn := hA.n_le hx
  have hm := hB.n_le hy
  have hm0 : m ≠ 0 := by rw [hB.by_.n_eq]; exact fun h => hy0 (by have := (Nm.len_eq_zero (B := 256) (by decide)).1 h; omega)
  have hm0b : ((m : Int) == 0) = false := beq_eq_false_iff_ne.2 (by omega)
  have HH := Lib.hid H
  have Hx := Lib.hid hx
  have Hy := Lib.hid hy
  have Hy0 := Lib.hid hy0
  obtain ⟨K0, K1, -, -⟩ := hBa.two
  obtain ⟨L0, L1, -, -⟩ := hBb.two
  clear hx hy H hy0
  unfold box4 zfH at *
  go_enter Tryz.func103, Tryz.ntmps103
  go_wp2_with fail
  clear K0 K1 L0 L1
  refine (ZC _ s A n c x (hA.keep hO0) Hx.out).mono ?_
  rintro e w1 ⟨rfl, hO1⟩
  obtain ⟨K0, K1, -, -⟩ := (hBa.keep hO1 (by simp)).two
  obtain ⟨L0, L1, -, -⟩ := (hBb.keep hO1 (by simp)).two
  go_wp2_with fail
  clear K0 K1 L0 L1
  refine (ZC _ t B m d y ((hB.keep hO0).keep hO1) Hy.out).mono ?_
  rintro e w2 ⟨rfl, hO2⟩
  have hQ2 := hO1.trans' hO2
  obtain ⟨K0, K1, -, -⟩ := (hBa.keep hQ2 (by simp)).two
  obtain ⟨L0, L1, -, -⟩ := (hBb.keep hQ2 (by simp)).two
  go_wp2_with fail
  clear K0 K1 L0 L1
  refine (ZL w2 B m d y.natAbs (by omega) (((hB.keep hO0).keep hQ2).by_)).mono ?_
  rintro e w3 ⟨A3, n3, c3, rfl, hN3, hO3⟩
  have hQ3 := hQ2.trans' hO3
  obtain ⟨K0, K1, -, -⟩ := (hBa.keep hQ3 (by simp)).two
  obtain ⟨L0, L1, -, -⟩ := (hBb.keep hQ3 (by simp)).two
  go_wp2_with fail
  clear K0 K1 L0 L1
  refine (ZL w3 A n c x.natAbs (by omega) (((hA.keep hO0).keep hQ3).by_)).mono ?_
  rintro e w4 ⟨A4, n4, c4, rfl, hN4, hO4⟩
  have hN34 := hN3.keep hO4
  go_wp2_with fail
  refine (HH.out w4 A4 A3 n4 c4 n3 c3 (hO0.trans' (hQ3.trans' hO4)) hN4 hN34).mono ?_
  rintro e w5 ⟨A5, n5, c5, A6, n6, c6, rfl, hN5, hN6, hO5⟩
  have hQ5 := (hQ3.trans' hO4).trans' hO5
  obtain ⟨K0, K1, -, -⟩ := (hBa.keep hQ5 (by simp)).two
  obtain ⟨L0, L1, -, -⟩ := (hBb.keep hQ5 (by simp)).two
  have hN35 := hN34.keep hO5
  clear hN3 hN4 hN34
  have hW5 : w.heap.size + 4 ≤ w5.heap.size := by rw [← hsz]; exact hQ5.size
  have hBr5 := hBr.keep hQ5 (by simp)
  have hBq5 := hBq.keep hQ5 (by simp)
  have hBb5 := hBb.keep hQ5 (by simp)
  have hBa5 := hBa.keep hQ5 (by simp)
  have hP5 := hO0.trans' hQ5
  have hbnd : y.natAbs < W32 ^ 16 := Zj Hy.out
  have hbndx : x.natAbs < W32 ^ 16 := Zj Hx.out
  have Hq : Hid (dqN x y < ya) := Nat.lt_of_le_of_lt (dqN_le Hy0.out) Hx.out
  have Hr : Hid (drN x y < ya) := Nat.lt_trans (drN_lt Hy0.out) Hy.out
  have Hdq : Hid (dq x y = sgn (s != t) (dqN x y)) := by unfold Hid dq; rw [← hA.sg, ← hB.sg]
  have Hdr : Hid (dr x y = sgn t (drN x y)) := by unfold Hid dr; rw [← hB.sg]
  have Hup : Hid (up x y = ((s != t) && decide (0 < x.natAbs % y.natAbs))) := by unfold Hid up; rw [← hA.sg, ← hB.sg]
  have Hbx := Lib.hid hbndx
  have Hby := Lib.hid hbnd
  have Hn6 : Hid (n6 = Nm.len W32 (x.natAbs % y.natAbs)) := hN6.n_eq
  have Hyp : Hid (0 < y.natAbs) := by have := Hy0.out; unfold Hid; omega
  clear hA hB hBa hBb hBr hBq hO0 hsz hO1 hO2 hO3 hO4 hO5 hQ2 hQ3 hQ5 hbnd hbndx hm0b hm0
  by_cases hr0 : x.natAbs % y.natAbs = 0
  · have hn60 : n6 = 0 := by rw [Hn6.out, hr0, Nm.len_zero]
    subst hn60
    have hu : up x y = false := by rw [Hup.out, hr0]; simp
    have hNq : NatS w5 A5 n5 c5 (dqN x y) := by unfold dqN; rw [hu]; exact hN5
    have hNr : NatS w5 A6 0 c6 (drN x y) := by unfold drN; rw [hu]; exact hN6
    clear hN5 hN6 hN35 hu Hup
    cases s <;> cases t
    · skip
      go_wp2_with fail
      have hb := yS w5 false _ _ _ (dqN x y) (Nat.le_trans (hNq.n_le (Zj (z := (dqN x y : Int)) (by simpa using Hq.out))) (by decide)) hNq
      rw [(yY (z := sgn false (dqN x y)) (by rw [yH]; exact Hq.out)).1, (yY (z := sgn false (dqN x y)) (by rw [yH]; exact Hq.out)).2] at hb
      refine hb.mono ?_
      clear hb
      rintro e w9 ⟨s9, A9, n9, c9, rfl, hI9, hF9, hO9⟩
      have hg9 : w.heap.size + 4 ≤ w9.heap.size := Nat.le_trans (by omega) hO9.size
      have hl1 : w.heap.size + 1 < w9.heap.size := by omega
      clear K0 K1 L0 L1
      obtain ⟨L0, L1, -, -⟩ := (hBb5.keep hO9 (by simp)).two
      go_wp2_with fail
      have hO10 : Only [] w9 (w9.alloc (.cells #[.bool s9, .slice A9 n9 c9] 76)) := (Only.refl [] w9).alloc _
      have hB10 := Blk.new w9 76 [.bool s9, .slice A9 n9 c9]
      have hb := yS _ false _ _ _ (drN x y) (Nat.le_trans (hNr.n_le (Zj (z := (drN x y : Int)) (by simpa using Hr.out))) (by decide)) ((hNr.keep hO9).keep hO10)
      rw [(yY (z := sgn false (drN x y)) (by rw [yH]; exact Hr.out)).1, (yY (z := sgn false (drN x y)) (by rw [yH]; exact Hr.out)).2] at hb
      refine hb.mono ?_
      clear hb
      rintro e w11 ⟨s11, A11, n11, c11, rfl, hI11, hF11, hO11⟩
      have hQ11 : Only [] w5 w11 := (hO9.trans' hO10).trans' hO11
      have hlt9 : w9.heap.size < w11.heap.size := Nat.lt_of_lt_of_le (by simp) hO11.size
      have hlt9' : w9.heap.size < w11.heap.size + 1 := by omega
      have hne1 : w9.heap.size ≠ w.heap.size + 2 := by omega
      have hne2 : w9.heap.size ≠ w.heap.size + 3 := by omega
      have hne3 : w11.heap.size ≠ w.heap.size + 2 := by omega
      have hne4 : w11.heap.size ≠ w.heap.size + 3 := by omega
      have hlr : w.heap.size + 2 < w11.heap.size := by omega
      have hlq : w.heap.size + 3 < w11.heap.size := by omega
      obtain ⟨m0, m1, -, -⟩ := (hB10.keep hO11 (by simp)).two
      have hBr11 := hBr5.keep hQ11 (by simp)
      have hBq11 := hBq5.keep hQ11 (by simp)
      obtain ⟨p0, p1, pf0, pf1⟩ := hBr11.two
      obtain ⟨q0, q1, qf0, qf1⟩ := hBq11.two
      clear L0 L1
      go_wp2
      refine Reg.wp [w.heap.size + 2, w.heap.size + 3] [.r 0, .r 1, .e 2, .e 3, .r 4] (by kernel_rfl) (by kernel_rfl) (fun d _ _ _ _ h => by cases d <;> exact h) ?_
      simp only [Reg.pick, List.getD_cons_succ, List.getD_cons_zero]
      iterate 2 (apply Reg.read; (· (intro t K hK; go_simp; (try go_ints); (try ((go_ite <;> go_prune); go_simp)); (try go_ints); exact hK _ rfl)); (· (intro K hK; go_simp; exact hK _ rfl)))
      refine Reg.eff ?_
      go_wp2
      refine ⟨y8 hlr _ _ _ (by simp), ?_⟩
      have hx1 := yC w11 (w.heap.size + 2) (.bool s9) (.slice A9 n9 c9)
      have hBr12 := hBr11.put2 (.bool s9) (.slice A9 n9 c9)
      have hBq12 := hBq11.keep hx1 (by simp)
      have hsz12 : ((w11.setCell ⟨w.heap.size + 2, 0, none⟩ (.bool s9)).setCell ⟨w.heap.size + 2, 1, none⟩ (.slice A9 n9 c9)).heap.size = w11.heap.size := by simp
      revert hx1 hBr12 hBq12 hsz12
      generalize ((w11.setCell ⟨w.heap.size + 2, 0, none⟩ (.bool s9)).setCell ⟨w.heap.size + 2, 1, none⟩ (.slice A9 n9 c9)) = w12
      intro hx1 hBr12 hBq12 hsz12
      obtain ⟨q0, q1, qf0, qf1⟩ := hBq12.two
      have hlq' : w.heap.size + 3 < w12.heap.size := by omega
      clear p0 p1 pf0 pf1 m0 m1
      refine Reg.eff ?_
      go_wp2
      refine ⟨y8 hlq' _ _ _ (by simp), ?_⟩
      (apply Reg.read; (· (intro t K hK; go_simp; (try go_ints); (try ((go_ite <;> go_prune); go_simp)); (try go_ints); exact hK _ rfl)); (· (intro K hK; go_simp; exact hK _ rfl)))
      refine Reg.fin ?_
      go_wp2
      have hx2 := yC w12 (w.heap.size + 3) (.bool s11) (.slice A11 n11 c11)
      have hBr13 := (hBr12.keep hx2 (by simp)).alloc (.cells #[.bool s11, .slice A11 n11 c11] 76)
      have hBq13 := (hBq12.put2 (.bool s11) (.slice A11 n11 c11)).alloc (.cells #[.bool s11, .slice A11 n11 c11] 76)
      have hx12 : Only [w.heap.size + 2, w.heap.size + 3] w11 ((((w12.setCell ⟨w.heap.size + 3, 0, none⟩ (.bool s11)).setCell ⟨w.heap.size + 3, 1, none⟩ (.slice A11 n11 c11)).alloc (.cells #[.bool s11, .slice A11 n11 c11] 76)).drew) :=
        (((hx1.mono (by simp)).trans' (hx2.mono (by simp))).alloc _).drew
      exact bodyPost_ret (ZV rfl _ _ (w.heap.size + 2) (w.heap.size + 3) 76 [_, _] [_, _] _ rfl rfl hBr13.drew hBq13.drew Tryz.underlying76 rfl isz isz) rfl
        ⟨s9, A9, n9, c9, s11, A11, n11, c11, rfl, ⟨by rw [Hdq.out]; exact hI9.sg, by rw [Hdq.out]; exact ((hI9.by_.keep hO10).keep hO11).far hF9 hx12 (by simp; omega)⟩, ⟨by rw [Hdr.out]; exact hI11.sg, by rw [Hdr.out]; exact hI11.by_.far hF11 hx12 (by simp; omega)⟩, hF9.le (by omega), hF11.le (by simp; omega), (hP5.trans' hQ11).trans hx12 (by intro k hk hlt; simp at hk; omega)⟩
    · skip
      go_wp2_with fail
      have hb := yS w5 true _ _ _ (dqN x y) (Nat.le_trans (hNq.n_le (Zj (z := (dqN x y : Int)) (by simpa using Hq.out))) (by decide)) hNq
      rw [(yY (z := sgn true (dqN x y)) (by rw [yH]; exact Hq.out)).1, (yY (z := sgn true (dqN x y)) (by rw [yH]; exact Hq.out)).2] at hb
      refine hb.mono ?_
      clear hb
      rintro e w9 ⟨s9, A9, n9, c9, rfl, hI9, hF9, hO9⟩
      have hg9 : w.heap.size + 4 ≤ w9.heap.size := Nat.le_trans (by omega) hO9.size
      have hl1 : w.heap.size + 1 < w9.heap.size := by omega
      clear K0 K1 L0 L1
      obtain ⟨L0, L1, -, -⟩ := (hBb5.keep hO9 (by simp)).two
      go_wp2_with fail
      have hO10 : Only [] w9 (w9.alloc (.cells #[.bool s9, .slice A9 n9 c9] 76)) := (Only.refl [] w9).alloc _
      have hB10 := Blk.new w9 76 [.bool s9, .slice A9 n9 c9]
      have hb := yS _ true _ _ _ (drN x y) (Nat.le_trans (hNr.n_le (Zj (z := (drN x y : Int)) (by simpa using Hr.out))) (by decide)) ((hNr.keep hO9).keep hO10)
      rw [(yY (z := sgn true (drN x y)) (by rw [yH]; exact Hr.out)).1, (yY (z := sgn true (drN x y)) (by rw [yH]; exact Hr.out)).2] at hb
      refine hb.mono ?_
      clear hb
      rintro e w11 ⟨s11, A11, n11, c11, rfl, hI11, hF11, hO11⟩
      have hQ11 : Only [] w5 w11 := (hO9.trans' hO10).trans' hO11
      have hlt9 : w9.heap.size < w11.heap.size := Nat.lt_of_lt_of_le (by simp) hO11.size
      have hlt9' : w9.heap.size < w11.heap.size + 1 := by omega
      have hne1 : w9.heap.size ≠ w.heap.size + 2 := by omega
      have hne2 : w9.heap.size ≠ w.heap.size + 3 := by omega
      have hne3 : w11.heap.size ≠ w.heap.size + 2 := by omega
      have hne4 : w11.heap.size ≠ w.heap.size + 3 := by omega
      have hlr : w.heap.size + 2 < w11.heap.size := by omega
      have hlq : w.heap.size + 3 < w11.heap.size := by omega
      obtain ⟨m0, m1, -, -⟩ := (hB10.keep hO11 (by simp)).two
      have hBr11 := hBr5.keep hQ11 (by simp)
      have hBq11 := hBq5.keep hQ11 (by simp)
      obtain ⟨p0, p1, pf0, pf1⟩ := hBr11.two
      obtain ⟨q0, q1, qf0, qf1⟩ := hBq11.two
      clear L0 L1
      go_wp2
      refine Reg.wp [w.heap.size + 2, w.heap.size + 3] [.r 0, .r 1, .e 2, .e 3, .r 4] (by kernel_rfl) (by kernel_rfl) (fun d _ _ _ _ h => by cases d <;> exact h) ?_
      simp only [Reg.pick, List.getD_cons_succ, List.getD_cons_zero]
      iterate 2 (apply Reg.read; (· (intro t K hK; go_simp; (try go_ints); (try ((go_ite <;> go_prune); go_simp)); (try go_ints); exact hK _ rfl)); (· (intro K hK; go_simp; exact hK _ rfl)))
      refine Reg.eff ?_
      go_wp2
      refine ⟨y8 hlr _ _ _ (by simp), ?_⟩
      have hx1 := yC w11 (w.heap.size + 2) (.bool s9) (.slice A9 n9 c9)
      have hBr12 := hBr11.put2 (.bool s9) (.slice A9 n9 c9)
      have hBq12 := hBq11.keep hx1 (by simp)
      have hsz12 : ((w11.setCell ⟨w.heap.size + 2, 0, none⟩ (.bool s9)).setCell ⟨w.heap.size + 2, 1, none⟩ (.slice A9 n9 c9)).heap.size = w11.heap.size := by simp
      revert hx1 hBr12 hBq12 hsz12
      generalize ((w11.setCell ⟨w.heap.size + 2, 0, none⟩ (.bool s9)).setCell ⟨w.heap.size + 2, 1, none⟩ (.slice A9 n9 c9)) = w12
      intro hx1 hBr12 hBq12 hsz12
      obtain ⟨q0, q1, qf0, qf1⟩ := hBq12.two
      have hlq' : w.heap.size + 3 < w12.heap.size := by omega
      clear p0 p1 pf0 pf1 m0 m1
      refine Reg.eff ?_
      go_wp2
      refine ⟨y8 hlq' _ _ _ (by simp), ?_⟩
      (apply Reg.read; (· (intro t K hK; go_simp; (try go_ints); (try ((go_ite <;> go_prune); go_simp)); (try go_ints); exact hK _ rfl)); (· (intro K hK; go_simp; exact hK _ rfl)))
      refine Reg.fin ?_
      go_wp2
      have hx2 := yC w12 (w.heap.size + 3) (.bool s11) (.slice A11 n11 c11)
      have hBr13 := (hBr12.keep hx2 (by simp)).alloc (.cells #[.bool s11, .slice A11 n11 c11] 76)
      have hBq13 := (hBq12.put2 (.bool s11) (.slice A11 n11 c11)).alloc (.cells #[.bool s11, .slice A11 n11 c11] 76)
      have hx12 : Only [w.heap.size + 2, w.heap.size + 3] w11 ((((w12.setCell ⟨w.heap.size + 3, 0, none⟩ (.bool s11)).setCell ⟨w.heap.size + 3, 1, none⟩ (.slice A11 n11 c11)).alloc (.cells #[.bool s11, .slice A11 n11 c11] 76)).drew) :=
        (((hx1.mono (by simp)).trans' (hx2.mono (by simp))).alloc _).drew
      exact bodyPost_ret (ZV rfl _ _ (w.heap.size + 2) (w.heap.size + 3) 76 [_, _] [_, _] _ rfl rfl hBr13.drew hBq13.drew Tryz.underlying76 rfl isz isz) rfl
        ⟨s9, A9, n9, c9, s11, A11, n11, c11, rfl, ⟨by rw [Hdq.out]; exact hI9.sg, by rw [Hdq.out]; exact ((hI9.by_.keep hO10).keep hO11).far hF9 hx12 (by simp; omega)⟩, ⟨by rw [Hdr.out]; exact hI11.sg, by rw [Hdr.out]; exact hI11.by_.far hF11 hx12 (by simp; omega)⟩, hF9.le (by omega), hF11.le (by simp; omega), (hP5.trans' hQ11).trans hx12 (by intro k hk hlt; simp at hk; omega)⟩
    · skip
      go_wp2_with fail
      have hb := yS w5 true _ _ _ (dqN x y) (Nat.le_trans (hNq.n_le (Zj (z := (dqN x y : Int)) (by simpa using Hq.out))) (by decide)) hNq
      rw [(yY (z := sgn true (dqN x y)) (by rw [yH]; exact Hq.out)).1, (yY (z := sgn true (dqN x y)) (by rw [yH]; exact Hq.out)).2] at hb
      refine hb.mono ?_
      clear hb
      rintro e w9 ⟨s9, A9, n9, c9, rfl, hI9, hF9, hO9⟩
      have hg9 : w.heap.size + 4 ≤ w9.heap.size := Nat.le_trans (by omega) hO9.size
      have hl1 : w.heap.size + 1 < w9.heap.size := by omega
      clear K0 K1 L0 L1
      obtain ⟨L0, L1, -, -⟩ := (hBb5.keep hO9 (by simp)).two
      go_wp2_with fail
      have hO10 : Only [] w9 (w9.alloc (.cells #[.bool s9, .slice A9 n9 c9] 76)) := (Only.refl [] w9).alloc _
      have hB10 := Blk.new w9 76 [.bool s9, .slice A9 n9 c9]
      have hb := yS _ false _ _ _ (drN x y) (Nat.le_trans (hNr.n_le (Zj (z := (drN x y : Int)) (by simpa using Hr.out))) (by decide)) ((hNr.keep hO9).keep hO10)
      rw [(yY (z := sgn false (drN x y)) (by rw [yH]; exact Hr.out)).1, (yY (z := sgn false (drN x y)) (by rw [yH]; exact Hr.out)).2] at hb
      refine hb.mono ?_
      clear hb
      rintro e w11 ⟨s11, A11, n11, c11, rfl, hI11, hF11, hO11⟩
      have hQ11 : Only [] w5 w11 := (hO9.trans' hO10).trans' hO11
      have hlt9 : w9.heap.size < w11.heap.size := Nat.lt_of_lt_of_le (by simp) hO11.size
      have hlt9' : w9.heap.size < w11.heap.size + 1 := by omega
      have hne1 : w9.heap.size ≠ w.heap.size + 2 := by omega
      have hne2 : w9.heap.size ≠ w.heap.size + 3 := by omega
      have hne3 : w11.heap.size ≠ w.heap.size + 2 := by omega
      have hne4 : w11.heap.size ≠ w.heap.size + 3 := by omega
      have hlr : w.heap.size + 2 < w11.heap.size := by omega
      have hlq : w.heap.size + 3 < w11.heap.size := by omega
      obtain ⟨m0, m1, -, -⟩ := (hB10.keep hO11 (by simp)).two
      have hBr11 := hBr5.keep hQ11 (by simp)
      have hBq11 := hBq5.keep hQ11 (by simp)
      obtain ⟨p0, p1, pf0, pf1⟩ := hBr11.two
      obtain ⟨q0, q1, qf0, qf1⟩ := hBq11.two
      clear L0 L1
      go_wp2
      refine Reg.wp [w.heap.size + 2, w.heap.size + 3] [.r 0, .r 1, .e 2, .e 3, .r 4] (by kernel_rfl) (by kernel_rfl) (fun d _ _ _ _ h => by cases d <;> exact h) ?_
      simp only [Reg.pick, List.getD_cons_succ, List.getD_cons_zero]
      iterate 2 (apply Reg.read; (· (intro t K hK; go_simp; (try go_ints); (try ((go_ite <;> go_prune); go_simp)); (try go_ints); exact hK _ rfl)); (· (intro K hK; go_simp; exact hK _ rfl)))
      refine Reg.eff ?_
      go_wp2
      refine ⟨y8 hlr _ _ _ (by simp), ?_⟩
      have hx1 := yC w11 (w.heap.size + 2) (.bool s9) (.slice A9 n9 c9)
      have hBr12 := hBr11.put2 (.bool s9) (.slice A9 n9 c9)
      have hBq12 := hBq11.keep hx1 (by simp)
      have hsz12 : ((w11.setCell ⟨w.heap.size + 2, 0, none⟩ (.bool s9)).setCell ⟨w.heap.size + 2, 1, none⟩ (.slice A9 n9 c9)).heap.size = w11.heap.size := by simp
      revert hx1 hBr12 hBq12 hsz12
      generalize ((w11.setCell ⟨w.heap.size + 2, 0, none⟩ (.bool s9)).setCell ⟨w.heap.size + 2, 1, none⟩ (.slice A9 n9 c9)) = w12
      intro hx1 hBr12 hBq12 hsz12
      obtain ⟨q0, q1, qf0, qf1⟩ := hBq12.two
      have hlq' : w.heap.size + 3 < w12.heap.size := by omega
      clear p0 p1 pf0 pf1 m0 m1
      refine Reg.eff ?_
      go_wp2
      refine ⟨y8 hlq' _ _ _ (by simp), ?_⟩
      (apply Reg.read; (· (intro t K hK; go_simp; (try go_ints); (try ((go_ite <;> go_prune); go_simp)); (try go_ints); exact hK _ rfl)); (· (intro K hK; go_simp; exact hK _ rfl)))
      refine Reg.fin ?_
      go_wp2
      have hx2 := yC w12 (w.heap.size + 3) (.bool s11) (.slice A11 n11 c11)
      have hBr13 := (hBr12.keep hx2 (by simp)).alloc (.cells #[.bool s11, .slice A11 n11 c11] 76)
      have hBq13 := (hBq12.put2 (.bool s11) (.slice A11 n11 c11)).alloc (.cells #[.bool s11, .slice A11 n11 c11] 76)
      have hx12 : Only [w.heap.size + 2, w.heap.size + 3] w11 ((((w12.setCell ⟨w.heap.size + 3, 0, none⟩ (.bool s11)).setCell ⟨w.heap.size + 3, 1, none⟩ (.slice A11 n11 c11)).alloc (.cells #[.bool s11, .slice A11 n11 c11] 76)).drew) :=
        (((hx1.mono (by simp)).trans' (hx2.mono (by simp))).alloc _).drew
      exact bodyPost_ret (ZV rfl _ _ (w.heap.size + 2) (w.heap.size + 3) 76 [_, _] [_, _] _ rfl rfl hBr13.drew hBq13.drew Tryz.underlying76 rfl isz isz) rfl
        ⟨s9, A9, n9, c9, s11, A11, n11, c11, rfl, ⟨by rw [Hdq.out]; exact hI9.sg, by rw [Hdq.out]; exact ((hI9.by_.keep hO10).keep hO11).far hF9 hx12 (by simp; omega)⟩, ⟨by rw [Hdr.out]; exact hI11.sg, by rw [Hdr.out]; exact hI11.by_.far hF11 hx12 (by simp; omega)⟩, hF9.le (by omega), hF11.le (by simp; omega), (hP5.trans' hQ11).trans hx12 (by intro k hk hlt; simp at hk; omega)⟩
    · skip
      go_wp2_with fail
      have hb := yS w5 false _ _ _ (dqN x y) (Nat.le_trans (hNq.n_le (Zj (z := (dqN x y : Int)) (by simpa using Hq.out))) (by decide)) hNq
      rw [(yY (z := sgn false (dqN x y)) (by rw [yH]; exact Hq.out)).1, (yY (z := sgn false (dqN x y)) (by rw [yH]; exact Hq.out)).2] at hb
      refine hb.mono ?_
      clear hb
      rintro e w9 ⟨s9, A9, n9, c9, rfl, hI9, hF9, hO9⟩
      have hg9 : w.heap.size + 4 ≤ w9.heap.size := Nat.le_trans (by omega) hO9.size
      have hl1 : w.heap.size + 1 < w9.heap.size := by omega
      clear K0 K1 L0 L1
      obtain ⟨L0, L1, -, -⟩ := (hBb5.keep hO9 (by simp)).two
      go_wp2_with fail
      have hO10 : Only [] w9 (w9.alloc (.cells #[.bool s9, .slice A9 n9 c9] 76)) := (Only.refl [] w9).alloc _
      have hB10 := Blk.new w9 76 [.bool s9, .slice A9 n9 c9]
      have hb := yS _ true _ _ _ (drN x y) (Nat.le_trans (hNr.n_le (Zj (z := (drN x y : Int)) (by simpa using Hr.out))) (by decide)) ((hNr.keep hO9).keep hO10)
      rw [(yY (z := sgn true (drN x y)) (by rw [yH]; exact Hr.out)).1, (yY (z := sgn true (drN x y)) (by rw [yH]; exact Hr.out)).2] at hb
      refine hb.mono ?_
      clear hb
      rintro e w11 ⟨s11, A11, n11, c11, rfl, hI11, hF11, hO11⟩
      have hQ11 : Only [] w5 w11 := (hO9.trans' hO10).trans' hO11
      have hlt9 : w9.heap.size < w11.heap.size := Nat.lt_of_lt_of_le (by simp) hO11.size
      have hlt9' : w9.heap.size < w11.heap.size + 1 := by omega
      have hne1 : w9.heap.size ≠ w.heap.size + 2 := by omega
      have hne2 : w9.heap.size ≠ w.heap.size + 3 := by omega
      have hne3 : w11.heap.size ≠ w.heap.size + 2 := by omega
      have hne4 : w11.heap.size ≠ w.heap.size + 3 := by omega
      have hlr : w.heap.size + 2 < w11.heap.size := by omega
      have hlq : w.heap.size + 3 < w11.heap.size := by omega
      obtain ⟨m0, m1, -, -⟩ := (hB10.keep hO11 (by simp)).two
      have hBr11 := hBr5.keep hQ11 (by simp)
      have hBq11 := hBq5.keep hQ11 (by simp)
      obtain ⟨p0, p1, pf0, pf1⟩ := hBr11.two
      obtain ⟨q0, q1, qf0, qf1⟩ := hBq11.two
      clear L0 L1
      go_wp2
      refine Reg.wp [w.heap.size + 2, w.heap.size + 3] [.r 0, .r 1, .e 2, .e 3, .r 4] (by kernel_rfl) (by kernel_rfl) (fun d _ _ _ _ h => by cases d <;> exact h) ?_
      simp only [Reg.pick, List.getD_cons_succ, List.getD_cons_zero]
      iterate 2 (apply Reg.read; (· (intro t K hK; go_simp; (try go_ints); (try ((go_ite <;> go_prune); go_simp)); (try go_ints); exact hK _ rfl)); (· (intro K hK; go_simp; exact hK _ rfl)))
      refine Reg.eff ?_
      go_wp2
      refine ⟨y8 hlr _ _ _ (by simp), ?_⟩
      have hx1 := yC w11 (w.heap.size + 2) (.bool s9) (.slice A9 n9 c9)
      have hBr12 := hBr11.put2 (.bool s9) (.slice A9 n9 c9)
      have hBq12 := hBq11.keep hx1 (by simp)
      have hsz12 : ((w11.setCell ⟨w.heap.size + 2, 0, none⟩ (.bool s9)).setCell ⟨w.heap.size + 2, 1, none⟩ (.slice A9 n9 c9)).heap.size = w11.heap.size := by simp
      revert hx1 hBr12 hBq12 hsz12
      generalize ((w11.setCell ⟨w.heap.size + 2, 0, none⟩ (.bool s9)).setCell ⟨w.heap.size + 2, 1, none⟩ (.slice A9 n9 c9)) = w12
      intro hx1 hBr12 hBq12 hsz12
      obtain ⟨q0, q1, qf0, qf1⟩ := hBq12.two
      have hlq' : w.heap.size + 3 < w12.heap.size := by omega
      clear p0 p1 pf0 pf1 m0 m1
      refine Reg.eff ?_
      go_wp2
      refine ⟨y8 hlq' _ _ _ (by simp), ?_⟩
      (apply Reg.read; (· (intro t K hK; go_simp; (try go_ints); (try ((go_ite <;> go_prune); go_simp)); (try go_ints); exact hK _ rfl)); (· (intro K hK; go_simp; exact hK _ rfl)))
      refine Reg.fin ?_
      go_wp2
      have hx2 := yC w12 (w.heap.size + 3) (.bool s11) (.slice A11 n11 c11)
      have hBr13 := (hBr12.keep hx2 (by simp)).alloc (.cells #[.bool s11, .slice A11 n11 c11] 76)
      have hBq13 := (hBq12.put2 (.bool s11) (.slice A11 n11 c11)).alloc (.cells #[.bool s11, .slice A11 n11 c11] 76)
      have hx12 : Only [w.heap.size + 2, w.heap.size + 3] w11 ((((w12.setCell ⟨w.heap.size + 3, 0, none⟩ (.bool s11)).setCell ⟨w.heap.size + 3, 1, none⟩ (.slice A11 n11 c11)).alloc (.cells #[.bool s11, .slice A11 n11 c11] 76)).drew) :=
        (((hx1.mono (by simp)).trans' (hx2.mono (by simp))).alloc _).drew
      exact bodyPost_ret (ZV rfl _ _ (w.heap.size + 2) (w.heap.size + 3) 76 [_, _] [_, _] _ rfl rfl hBr13.drew hBq13.drew Tryz.underlying76 rfl isz isz) rfl
        ⟨s9, A9, n9, c9, s11, A11, n11, c11, rfl, ⟨by rw [Hdq.out]; exact hI9.sg, by rw [Hdq.out]; exact ((hI9.by_.keep hO10).keep hO11).far hF9 hx12 (by simp; omega)⟩, ⟨by rw [Hdr.out]; exact hI11.sg, by rw [Hdr.out]; exact hI11.by_.far hF11 hx12 (by simp; omega)⟩, hF9.le (by omega), hF11.le (by simp; omega), (hP5.trans' hQ11).trans hx12 (by intro k hk hlt; simp at hk; omega)⟩
  · have hn60 : 0 < n6 := by
      apply Nat.pos_of_ne_zero
      rw [Hn6.out]
      exact fun h => hr0 ((Nm.len_eq_zero (B := W32) (by decide)).1 h)
    have hn60I : (0 : Int) < (n6 : Int) := by omega
    by_cases hst : s = t
    · subst hst
      have hu : up x y = false := by rw [Hup.out]; simp
      have hNq : NatS w5 A5 n5 c5 (dqN x y) := by unfold dqN; rw [hu]; exact hN5
      have hNr : NatS w5 A6 n6 c6 (drN x y) := by unfold drN; rw [hu]; exact hN6
      clear hN5 hN6 hN35 hu Hup
      cases s
      · skip
        go_wp2_with fail
        have hb := yS w5 false _ _ _ (dqN x y) (Nat.le_trans (hNq.n_le (Zj (z := (dqN x y : Int)) (by simpa using Hq.out))) (by decide)) hNq
        rw [(yY (z := sgn false (dqN x y)) (by rw [yH]; exact Hq.out)).1, (yY (z := sgn false (dqN x y)) (by rw [yH]; exact Hq.out)).2] at hb
        refine hb.mono ?_
        clear hb
        rintro e w9 ⟨s9, A9, n9, c9, rfl, hI9, hF9, hO9⟩
        have hg9 : w.heap.size + 4 ≤ w9.heap.size := Nat.le_trans (by omega) hO9.size
        have hl1 : w.heap.size + 1 < w9.heap.size := by omega
        clear K0 K1 L0 L1
        obtain ⟨L0, L1, -, -⟩ := (hBb5.keep hO9 (by simp)).two
        go_wp2_with fail
        have hO10 : Only [] w9 (w9.alloc (.cells #[.bool s9, .slice A9 n9 c9] 76)) := (Only.refl [] w9).alloc _
        have hB10 := Blk.new w9 76 [.bool s9, .slice A9 n9 c9]
        have hb := yS _ false _ _ _ (drN x y) (Nat.le_trans (hNr.n_le (Zj (z := (drN x y : Int)) (by simpa using Hr.out))) (by decide)) ((hNr.keep hO9).keep hO10)
        rw [(yY (z := sgn false (drN x y)) (by rw [yH]; exact Hr.out)).1, (yY (z := sgn false (drN x y)) (by rw [yH]; exact Hr.out)).2] at hb
        refine hb.mono ?_
        clear hb
        rintro e w11 ⟨s11, A11, n11, c11, rfl, hI11, hF11, hO11⟩
        have hQ11 : Only [] w5 w11 := (hO9.trans' hO10).trans' hO11
        have hlt9 : w9.heap.size < w11.heap.size := Nat.lt_of_lt_of_le (by simp) hO11.size
        have hlt9' : w9.heap.size < w11.heap.size + 1 := by omega
        have hne1 : w9.heap.size ≠ w.heap.size + 2 := by omega
        have hne2 : w9.heap.size ≠ w.heap.size + 3 := by omega
        have hne3 : w11.heap.size ≠ w.heap.size + 2 := by omega
        have hne4 : w11.heap.size ≠ w.heap.size + 3 := by omega
        have hlr : w.heap.size + 2 < w11.heap.size := by omega
        have hlq : w.heap.size + 3 < w11.heap.size := by omega
        obtain ⟨m0, m1, -, -⟩ := (hB10.keep hO11 (by simp)).two
        have hBr11 := hBr5.keep hQ11 (by simp)
        have hBq11 := hBq5.keep hQ11 (by simp)
        obtain ⟨p0, p1, pf0, pf1⟩ := hBr11.two
        obtain ⟨q0, q1, qf0, qf1⟩ := hBq11.two
        clear L0 L1
        go_wp2
        refine Reg.wp [w.heap.size + 2, w.heap.size + 3] [.r 0, .r 1, .e 2, .e 3, .r 4] (by kernel_rfl) (by kernel_rfl) (fun d _ _ _ _ h => by cases d <;> exact h) ?_
        simp only [Reg.pick, List.getD_cons_succ, List.getD_cons_zero]
        iterate 2 (apply Reg.read; (· (intro t K hK; go_simp; (try go_ints); (try ((go_ite <;> go_prune); go_simp)); (try go_ints); exact hK _ rfl)); (· (intro K hK; go_simp; exact hK _ rfl)))
        refine Reg.eff ?_
        go_wp2
        refine ⟨y8 hlr _ _ _ (by simp), ?_⟩
        have hx1 := yC w11 (w.heap.size + 2) (.bool s9) (.slice A9 n9 c9)
        have hBr12 := hBr11.put2 (.bool s9) (.slice A9 n9 c9)
        have hBq12 := hBq11.keep hx1 (by simp)
        have hsz12 : ((w11.setCell ⟨w.heap.size + 2, 0, none⟩ (.bool s9)).setCell ⟨w.heap.size + 2, 1, none⟩ (.slice A9 n9 c9)).heap.size = w11.heap.size := by simp
        revert hx1 hBr12 hBq12 hsz12
        generalize ((w11.setCell ⟨w.heap.size + 2, 0, none⟩ (.bool s9)).setCell ⟨w.heap.size + 2, 1, none⟩ (.slice A9 n9 c9)) = w12
        intro hx1 hBr12 hBq12 hsz12
        obtain ⟨q0, q1, qf0, qf1⟩ := hBq12.two
        have hlq' : w.heap.size + 3 < w12.heap.size := by omega
        clear p0 p1 pf0 pf1 m0 m1
        refine Reg.eff ?_
        go_wp2
        refine ⟨y8 hlq' _ _ _ (by simp), ?_⟩
        (apply Reg.read; (· (intro t K hK; go_simp; (try go_ints); (try ((go_ite <;> go_prune); go_simp)); (try go_ints); exact hK _ rfl)); (· (intro K hK; go_simp; exact hK _ rfl)))
        refine Reg.fin ?_
        go_wp2
        have hx2 := yC w12 (w.heap.size + 3) (.bool s11) (.slice A11 n11 c11)
        have hBr13 := (hBr12.keep hx2 (by simp)).alloc (.cells #[.bool s11, .slice A11 n11 c11] 76)
        have hBq13 := (hBq12.put2 (.bool s11) (.slice A11 n11 c11)).alloc (.cells #[.bool s11, .slice A11 n11 c11] 76)
        have hx12 : Only [w.heap.size + 2, w.heap.size + 3] w11 ((((w12.setCell ⟨w.heap.size + 3, 0, none⟩ (.bool s11)).setCell ⟨w.heap.size + 3, 1, none⟩ (.slice A11 n11 c11)).alloc (.cells #[.bool s11, .slice A11 n11 c11] 76)).drew) :=
          (((hx1.mono (by simp)).trans' (hx2.mono (by simp))).alloc _).drew
        exact bodyPost_ret (ZV rfl _ _ (w.heap.size + 2) (w.heap.size + 3) 76 [_, _] [_, _] _ rfl rfl hBr13.drew hBq13.drew Tryz.underlying76 rfl isz isz) rfl
          ⟨s9, A9, n9, c9, s11, A11, n11, c11, rfl, ⟨by rw [Hdq.out]; exact hI9.sg, by rw [Hdq.out]; exact ((hI9.by_.keep hO10).keep hO11).far hF9 hx12 (by simp; omega)⟩, ⟨by rw [Hdr.out]; exact hI11.sg, by rw [Hdr.out]; exact hI11.by_.far hF11 hx12 (by simp; omega)⟩, hF9.le (by omega), hF11.le (by simp; omega), (hP5.trans' hQ11).trans hx12 (by intro k hk hlt; simp at hk; omega)⟩
      · skip
        go_wp2_with fail
        have hb := yS w5 false _ _ _ (dqN x y) (Nat.le_trans (hNq.n_le (Zj (z := (dqN x y : Int)) (by simpa using Hq.out))) (by decide)) hNq
        rw [(yY (z := sgn false (dqN x y)) (by rw [yH]; exact Hq.out)).1, (yY (z := sgn false (dqN x y)) (by rw [yH]; exact Hq.out)).2] at hb
        refine hb.mono ?_
        clear hb
        rintro e w9 ⟨s9, A9, n9, c9, rfl, hI9, hF9, hO9⟩
        have hg9 : w.heap.size + 4 ≤ w9.heap.size := Nat.le_trans (by omega) hO9.size
        have hl1 : w.heap.size + 1 < w9.heap.size := by omega
        clear K0 K1 L0 L1
        obtain ⟨L0, L1, -, -⟩ := (hBb5.keep hO9 (by simp)).two
        go_wp2_with fail
        have hO10 : Only [] w9 (w9.alloc (.cells #[.bool s9, .slice A9 n9 c9] 76)) := (Only.refl [] w9).alloc _
        have hB10 := Blk.new w9 76 [.bool s9, .slice A9 n9 c9]
        have hb := yS _ true _ _ _ (drN x y) (Nat.le_trans (hNr.n_le (Zj (z := (drN x y : Int)) (by simpa using Hr.out))) (by decide)) ((hNr.keep hO9).keep hO10)
        rw [(yY (z := sgn true (drN x y)) (by rw [yH]; exact Hr.out)).1, (yY (z := sgn true (drN x y)) (by rw [yH]; exact Hr.out)).2] at hb
        refine hb.mono ?_
        clear hb
        rintro e w11 ⟨s11, A11, n11, c11, rfl, hI11, hF11, hO11⟩
        have hQ11 : Only [] w5 w11 := (hO9.trans' hO10).trans' hO11
        have hlt9 : w9.heap.size < w11.heap.size := Nat.lt_of_lt_of_le (by simp) hO11.size
        have hlt9' : w9.heap.size < w11.heap.size + 1 := by omega
        have hne1 : w9.heap.size ≠ w.heap.size + 2 := by omega
        have hne2 : w9.heap.size ≠ w.heap.size + 3 := by omega
        have hne3 : w11.heap.size ≠ w.heap.size + 2 := by omega
        have hne4 : w11.heap.size ≠ w.heap.size + 3 := by omega
        have hlr : w.heap.size + 2 < w11.heap.size := by omega
        have hlq : w.heap.size + 3 < w11.heap.size := by omega
        obtain ⟨m0, m1, -, -⟩ := (hB10.keep hO11 (by simp)).two
        have hBr11 := hBr5.keep hQ11 (by simp)
        have hBq11 := hBq5.keep hQ11 (by simp)
        obtain ⟨p0, p1, pf0, pf1⟩ := hBr11.two
        obtain ⟨q0, q1, qf0, qf1⟩ := hBq11.two
        clear L0 L1
        go_wp2
        refine Reg.wp [w.heap.size + 2, w.heap.size + 3] [.r 0, .r 1, .e 2, .e 3, .r 4] (by kernel_rfl) (by kernel_rfl) (fun d _ _ _ _ h => by cases d <;> exact h) ?_
        simp only [Reg.pick, List.getD_cons_succ, List.getD_cons_zero]
        iterate 2 (apply Reg.read; (· (intro t K hK; go_simp; (try go_ints); (try ((go_ite <;> go_prune); go_simp)); (try go_ints); exact hK _ rfl)); (· (intro K hK; go_simp; exact hK _ rfl)))
        refine Reg.eff ?_
        go_wp2
        refine ⟨y8 hlr _ _ _ (by simp), ?_⟩
        have hx1 := yC w11 (w.heap.size + 2) (.bool s9) (.slice A9 n9 c9)
        have hBr12 := hBr11.put2 (.bool s9) (.slice A9 n9 c9)
        have hBq12 := hBq11.keep hx1 (by simp)
        have hsz12 : ((w11.setCell ⟨w.heap.size + 2, 0, none⟩ (.bool s9)).setCell ⟨w.heap.size + 2, 1, none⟩ (.slice A9 n9 c9)).heap.size = w11.heap.size := by simp
        revert hx1 hBr12 hBq12 hsz12
        generalize ((w11.setCell ⟨w.heap.size + 2, 0, none⟩ (.bool s9)).setCell ⟨w.heap.size + 2, 1, none⟩ (.slice A9 n9 c9)) = w12
        intro hx1 hBr12 hBq12 hsz12
        obtain ⟨q0, q1, qf0, qf1⟩ := hBq12.two
        have hlq' : w.heap.size + 3 < w12.heap.size := by omega
        clear p0 p1 pf0 pf1 m0 m1
        refine Reg.eff ?_
        go_wp2
        refine ⟨y8 hlq' _ _ _ (by simp), ?_⟩
        (apply Reg.read; (· (intro t K hK; go_simp; (try go_ints); (try ((go_ite <;> go_prune); go_simp)); (try go_ints); exact hK _ rfl)); (· (intro K hK; go_simp; exact hK _ rfl)))
        refine Reg.fin ?_
        go_wp2
        have hx2 := yC w12 (w.heap.size + 3) (.bool s11) (.slice A11 n11 c11)
        have hBr13 := (hBr12.keep hx2 (by simp)).alloc (.cells #[.bool s11, .slice A11 n11 c11] 76)
        have hBq13 := (hBq12.put2 (.bool s11) (.slice A11 n11 c11)).alloc (.cells #[.bool s11, .slice A11 n11 c11] 76)
        have hx12 : Only [w.heap.size + 2, w.heap.size + 3] w11 ((((w12.setCell ⟨w.heap.size + 3, 0, none⟩ (.bool s11)).setCell ⟨w.heap.size + 3, 1, none⟩ (.slice A11 n11 c11)).alloc (.cells #[.bool s11, .slice A11 n11 c11] 76)).drew) :=
          (((hx1.mono (by simp)).trans' (hx2.mono (by simp))).alloc _).drew
        exact bodyPost_ret (ZV rfl _ _ (w.heap.size + 2) (w.heap.size + 3) 76 [_, _] [_, _] _ rfl rfl hBr13.drew hBq13.drew Tryz.underlying76 rfl isz isz) rfl
          ⟨s9, A9, n9, c9, s11, A11, n11, c11, rfl, ⟨by rw [Hdq.out]; exact hI9.sg, by rw [Hdq.out]; exact ((hI9.by_.keep hO10).keep hO11).far hF9 hx12 (by simp; omega)⟩, ⟨by rw [Hdr.out]; exact hI11.sg, by rw [Hdr.out]; exact hI11.by_.far hF11 hx12 (by simp; omega)⟩, hF9.le (by omega), hF11.le (by simp; omega), (hP5.trans' hQ11).trans hx12 (by intro k hk hlt; simp at hk; omega)⟩
    · have hu : up x y = true := by rw [Hup.out]; simp [hst]; omega
      have hn5 : n5 ≤ 16 := hN5.n_le (Nat.lt_of_le_of_lt (Nat.div_le_self _ _) Hbx.out)
      have hn3 : n3 ≤ 16 := hN35.n_le Hby.out
      have hR1 := NatS.one w5 1 (by decide) (by decide)
      have hO6 : Only [] w5 (w5.alloc (.cells #[.int .u32 1] 209)) := (Only.refl [] w5).alloc _
      cases s <;> cases t
      · exact absurd rfl hst
      · skip
        go_wp2_with fail
        refine (Vj _ A5 _ n5 c5 1 1 (x.natAbs / y.natAbs) 1 (by omega) (by omega) (hN5.keep hO6) hR1).mono ?_
        rintro e w6 ⟨A7, n7, c7, rfl, hN7, hO7⟩
        go_wp2_with fail
        refine (jP w6 A3 A6 n3 c3 n6 c6 y.natAbs (x.natAbs % y.natAbs) (by omega) ((hN35.keep hO6).keep hO7) ((hN6.keep hO6).keep hO7) (Nat.le_of_lt (Nat.mod_lt _ Hyp.out))).mono ?_
        rintro e w7 ⟨A8, n8, c8, rfl, hN8, hO8⟩
        have hNq : NatS w7 A7 n7 c7 (dqN x y) := by unfold dqN; rw [hu]; exact hN7.keep hO8
        have hNr : NatS w7 A8 n8 c8 (drN x y) := by unfold drN; rw [hu]; exact hN8
        have hS7 := (hO6.trans' hO7).trans' hO8
        have hBa7 := hBa5.keep hS7 (by simp)
        have hBb7 := hBb5.keep hS7 (by simp)
        have hBr7 := hBr5.keep hS7 (by simp)
        have hBq7 := hBq5.keep hS7 (by simp)
        have hP7 := hP5.trans' hS7
        have hW7 : w.heap.size + 4 ≤ w7.heap.size := Nat.le_trans hW5 hS7.size
        clear K0 K1 L0 L1 hu hN7 hN8
        obtain ⟨K0, K1, -, -⟩ := hBa7.two
        obtain ⟨L0, L1, -, -⟩ := hBb7.two
        go_wp2_with fail
        have hb := yS w7 true _ _ _ (dqN x y) (Nat.le_trans (hNq.n_le (Zj (z := (dqN x y : Int)) (by simpa using Hq.out))) (by decide)) hNq
        rw [(yY (z := sgn true (dqN x y)) (by rw [yH]; exact Hq.out)).1, (yY (z := sgn true (dqN x y)) (by rw [yH]; exact Hq.out)).2] at hb
        refine hb.mono ?_
        clear hb
        rintro e w9 ⟨s9, A9, n9, c9, rfl, hI9, hF9, hO9⟩
        have hg9 : w.heap.size + 4 ≤ w9.heap.size := Nat.le_trans (by omega) hO9.size
        have hl1 : w.heap.size + 1 < w9.heap.size := by omega
        clear K0 K1 L0 L1
        obtain ⟨L0, L1, -, -⟩ := (hBb7.keep hO9 (by simp)).two
        go_wp2_with fail
        have hO10 : Only [] w9 (w9.alloc (.cells #[.bool s9, .slice A9 n9 c9] 76)) := (Only.refl [] w9).alloc _
        have hB10 := Blk.new w9 76 [.bool s9, .slice A9 n9 c9]
        have hb := yS _ true _ _ _ (drN x y) (Nat.le_trans (hNr.n_le (Zj (z := (drN x y : Int)) (by simpa using Hr.out))) (by decide)) ((hNr.keep hO9).keep hO10)
        rw [(yY (z := sgn true (drN x y)) (by rw [yH]; exact Hr.out)).1, (yY (z := sgn true (drN x y)) (by rw [yH]; exact Hr.out)).2] at hb
        refine hb.mono ?_
        clear hb
        rintro e w11 ⟨s11, A11, n11, c11, rfl, hI11, hF11, hO11⟩
        have hQ11 : Only [] w7 w11 := (hO9.trans' hO10).trans' hO11
        have hlt9 : w9.heap.size < w11.heap.size := Nat.lt_of_lt_of_le (by simp) hO11.size
        have hlt9' : w9.heap.size < w11.heap.size + 1 := by omega
        have hne1 : w9.heap.size ≠ w.heap.size + 2 := by omega
        have hne2 : w9.heap.size ≠ w.heap.size + 3 := by omega
        have hne3 : w11.heap.size ≠ w.heap.size + 2 := by omega
        have hne4 : w11.heap.size ≠ w.heap.size + 3 := by omega
        have hlr : w.heap.size + 2 < w11.heap.size := by omega
        have hlq : w.heap.size + 3 < w11.heap.size := by omega
        obtain ⟨m0, m1, -, -⟩ := (hB10.keep hO11 (by simp)).two
        have hBr11 := hBr7.keep hQ11 (by simp)
        have hBq11 := hBq7.keep hQ11 (by simp)
        obtain ⟨p0, p1, pf0, pf1⟩ := hBr11.two
        obtain ⟨q0, q1, qf0, qf1⟩ := hBq11.two
        clear L0 L1
        go_wp2
        refine Reg.wp [w.heap.size + 2, w.heap.size + 3] [.r 0, .r 1, .e 2, .e 3, .r 4] (by kernel_rfl) (by kernel_rfl) (fun d _ _ _ _ h => by cases d <;> exact h) ?_
        simp only [Reg.pick, List.getD_cons_succ, List.getD_cons_zero]
        iterate 2 (apply Reg.read; (· (intro t K hK; go_simp; (try go_ints); (try ((go_ite <;> go_prune); go_simp)); (try go_ints); exact hK _ rfl)); (· (intro K hK; go_simp; exact hK _ rfl)))
        refine Reg.eff ?_
        go_wp2
        refine ⟨y8 hlr _ _ _ (by simp), ?_⟩
        have hx1 := yC w11 (w.heap.size + 2) (.bool s9) (.slice A9 n9 c9)
        have hBr12 := hBr11.put2 (.bool s9) (.slice A9 n9 c9)
        have hBq12 := hBq11.keep hx1 (by simp)
        have hsz12 : ((w11.setCell ⟨w.heap.size + 2, 0, none⟩ (.bool s9)).setCell ⟨w.heap.size + 2, 1, none⟩ (.slice A9 n9 c9)).heap.size = w11.heap.size := by simp
        revert hx1 hBr12 hBq12 hsz12
        generalize ((w11.setCell ⟨w.heap.size + 2, 0, none⟩ (.bool s9)).setCell ⟨w.heap.size + 2, 1, none⟩ (.slice A9 n9 c9)) = w12
        intro hx1 hBr12 hBq12 hsz12
        obtain ⟨q0, q1, qf0, qf1⟩ := hBq12.two
        have hlq' : w.heap.size + 3 < w12.heap.size := by omega
        clear p0 p1 pf0 pf1 m0 m1
        refine Reg.eff ?_
        go_wp2
        refine ⟨y8 hlq' _ _ _ (by simp), ?_⟩
        (apply Reg.read; (· (intro t K hK; go_simp; (try go_ints); (try ((go_ite <;> go_prune); go_simp)); (try go_ints); exact hK _ rfl)); (· (intro K hK; go_simp; exact hK _ rfl)))
        refine Reg.fin ?_
        go_wp2
        have hx2 := yC w12 (w.heap.size + 3) (.bool s11) (.slice A11 n11 c11)
        have hBr13 := (hBr12.keep hx2 (by simp)).alloc (.cells #[.bool s11, .slice A11 n11 c11] 76)
        have hBq13 := (hBq12.put2 (.bool s11) (.slice A11 n11 c11)).alloc (.cells #[.bool s11, .slice A11 n11 c11] 76)
        have hx12 : Only [w.heap.size + 2, w.heap.size + 3] w11 ((((w12.setCell ⟨w.heap.size + 3, 0, none⟩ (.bool s11)).setCell ⟨w.heap.size + 3, 1, none⟩ (.slice A11 n11 c11)).alloc (.cells #[.bool s11, .slice A11 n11 c11] 76)).drew) :=
          (((hx1.mono (by simp)).trans' (hx2.mono (by simp))).alloc _).drew
        exact bodyPost_ret (ZV rfl _ _ (w.heap.size + 2) (w.heap.size + 3) 76 [_, _] [_, _] _ rfl rfl hBr13.drew hBq13.drew Tryz.underlying76 rfl isz isz) rfl
          ⟨s9, A9, n9, c9, s11, A11, n11, c11, rfl, ⟨by rw [Hdq.out]; exact hI9.sg, by rw [Hdq.out]; exact ((hI9.by_.keep hO10).keep hO11).far hF9 hx12 (by simp; omega)⟩, ⟨by rw [Hdr.out]; exact hI11.sg, by rw [Hdr.out]; exact hI11.by_.far hF11 hx12 (by simp; omega)⟩, hF9.le (by omega), hF11.le (by simp; omega), (hP7.trans' hQ11).trans hx12 (by intro k hk hlt; simp at hk; omega)⟩
      · skip
        go_wp2_with fail
        refine (Vj _ A5 _ n5 c5 1 1 (x.natAbs / y.natAbs) 1 (by omega) (by omega) (hN5.keep hO6) hR1).mono ?_
        rintro e w6 ⟨A7, n7, c7, rfl, hN7, hO7⟩
        go_wp2_with fail
        refine (jP w6 A3 A6 n3 c3 n6 c6 y.natAbs (x.natAbs % y.natAbs) (by omega) ((hN35.keep hO6).keep hO7) ((hN6.keep hO6).keep hO7) (Nat.le_of_lt (Nat.mod_lt _ Hyp.out))).mono ?_
        rintro e w7 ⟨A8, n8, c8, rfl, hN8, hO8⟩
        have hNq : NatS w7 A7 n7 c7 (dqN x y) := by unfold dqN; rw [hu]; exact hN7.keep hO8
        have hNr : NatS w7 A8 n8 c8 (drN x y) := by unfold drN; rw [hu]; exact hN8
        have hS7 := (hO6.trans' hO7).trans' hO8
        have hBa7 := hBa5.keep hS7 (by simp)
        have hBb7 := hBb5.keep hS7 (by simp)
        have hBr7 := hBr5.keep hS7 (by simp)
        have hBq7 := hBq5.keep hS7 (by simp)
        have hP7 := hP5.trans' hS7
        have hW7 : w.heap.size + 4 ≤ w7.heap.size := Nat.le_trans hW5 hS7.size
        clear K0 K1 L0 L1 hu hN7 hN8
        obtain ⟨K0, K1, -, -⟩ := hBa7.two
        obtain ⟨L0, L1, -, -⟩ := hBb7.two
        go_wp2_with fail
        have hb := yS w7 true _ _ _ (dqN x y) (Nat.le_trans (hNq.n_le (Zj (z := (dqN x y : Int)) (by simpa using Hq.out))) (by decide)) hNq
        rw [(yY (z := sgn true (dqN x y)) (by rw [yH]; exact Hq.out)).1, (yY (z := sgn true (dqN x y)) (by rw [yH]; exact Hq.out)).2] at hb
        refine hb.mono ?_
        clear hb
        rintro e w9 ⟨s9, A9, n9, c9, rfl, hI9, hF9, hO9⟩
        have hg9 : w.heap.size + 4 ≤ w9.heap.size := Nat.le_trans (by omega) hO9.size
        have hl1 : w.heap.size + 1 < w9.heap.size := by omega
        clear K0 K1 L0 L1
        obtain ⟨L0, L1, -, -⟩ := (hBb7.keep hO9 (by simp)).two
        go_wp2_with fail
        have hO10 : Only [] w9 (w9.alloc (.cells #[.bool s9, .slice A9 n9 c9] 76)) := (Only.refl [] w9).alloc _
        have hB10 := Blk.new w9 76 [.bool s9, .slice A9 n9 c9]
        have hb := yS _ false _ _ _ (drN x y) (Nat.le_trans (hNr.n_le (Zj (z := (drN x y : Int)) (by simpa using Hr.out))) (by decide)) ((hNr.keep hO9).keep hO10)
        rw [(yY (z := sgn false (drN x y)) (by rw [yH]; exact Hr.out)).1, (yY (z := sgn false (drN x y)) (by rw [yH]; exact Hr.out)).2] at hb
        refine hb.mono ?_
        clear hb
        rintro e w11 ⟨s11, A11, n11, c11, rfl, hI11, hF11, hO11⟩
        have hQ11 : Only [] w7 w11 := (hO9.trans' hO10).trans' hO11
        have hlt9 : w9.heap.size < w11.heap.size := Nat.lt_of_lt_of_le (by simp) hO11.size
        have hlt9' : w9.heap.size < w11.heap.size + 1 := by omega
        have hne1 : w9.heap.size ≠ w.heap.size + 2 := by omega
        have hne2 : w9.heap.size ≠ w.heap.size + 3 := by omega
        have hne3 : w11.heap.size ≠ w.heap.size + 2 := by omega
        have hne4 : w11.heap.size ≠ w.heap.size + 3 := by omega
        have hlr : w.heap.size + 2 < w11.heap.size := by omega
        have hlq : w.heap.size + 3 < w11.heap.size := by omega
        obtain ⟨m0, m1, -, -⟩ := (hB10.keep hO11 (by simp)).two
        have hBr11 := hBr7.keep hQ11 (by simp)
        have hBq11 := hBq7.keep hQ11 (by simp)
        obtain ⟨p0, p1, pf0, pf1⟩ := hBr11.two
        obtain ⟨q0, q1, qf0, qf1⟩ := hBq11.two
        clear L0 L1
        go_wp2
        refine Reg.wp [w.heap.size + 2, w.heap.size + 3] [.r 0, .r 1, .e 2, .e 3, .r 4] (by kernel_rfl) (by kernel_rfl) (fun d _ _ _ _ h => by cases d <;> exact h) ?_
        simp only [Reg.pick, List.getD_cons_succ, List.getD_cons_zero]
        iterate 2 (apply Reg.read; (· (intro t K hK; go_simp; (try go_ints); (try ((go_ite <;> go_prune); go_simp)); (try go_ints); exact hK _ rfl)); (· (intro K hK; go_simp; exact hK _ rfl)))
        refine Reg.eff ?_
        go_wp2
        refine ⟨y8 hlr _ _ _ (by simp), ?_⟩
        have hx1 := yC w11 (w.heap.size + 2) (.bool s9) (.slice A9 n9 c9)
        have hBr12 := hBr11.put2 (.bool s9) (.slice A9 n9 c9)
        have hBq12 := hBq11.keep hx1 (by simp)
        have hsz12 : ((w11.setCell ⟨w.heap.size + 2, 0, none⟩ (.bool s9)).setCell ⟨w.heap.size + 2, 1, none⟩ (.slice A9 n9 c9)).heap.size = w11.heap.size := by simp
        revert hx1 hBr12 hBq12 hsz12
        generalize ((w11.setCell ⟨w.heap.size + 2, 0, none⟩ (.bool s9)).setCell ⟨w.heap.size + 2, 1, none⟩ (.slice A9 n9 c9)) = w12
        intro hx1 hBr12 hBq12 hsz12
        obtain ⟨q0, q1, qf0, qf1⟩ := hBq12.two
        have hlq' : w.heap.size + 3 < w12.heap.size := by omega
        clear p0 p1 pf0 pf1 m0 m1
        refine Reg.eff ?_
        go_wp2
        refine ⟨y8 hlq' _ _ _ (by simp), ?_⟩
        (apply Reg.read; (· (intro t K hK; go_simp; (try go_ints); (try ((go_ite <;> go_prune); go_simp)); (try go_ints); exact hK _ rfl)); (· (intro K hK; go_simp; exact hK _ rfl)))
        refine Reg.fin ?_
        go_wp2
        have hx2 := yC w12 (w.heap.size + 3) (.bool s11) (.slice A11 n11 c11)
        have hBr13 := (hBr12.keep hx2 (by simp)).alloc (.cells #[.bool s11, .slice A11 n11 c11] 76)
        have hBq13 := (hBq12.put2 (.bool s11) (.slice A11 n11 c11)).alloc (.cells #[.bool s11, .slice A11 n11 c11] 76)
        have hx12 : Only [w.heap.size + 2, w.heap.size + 3] w11 ((((w12.setCell ⟨w.heap.size + 3, 0, none⟩ (.bool s11)).setCell ⟨w.heap.size + 3, 1, none⟩ (.slice A11 n11 c11)).alloc (.cells #[.bool s11, .slice A11 n11 c11] 76)).drew) :=
          (((hx1.mono (by simp)).trans' (hx2.mono (by simp))).alloc _).drew
        exact bodyPost_ret (ZV rfl _ _ (w.heap.size + 2) (w.heap.size + 3) 76 [_, _] [_, _] _ rfl rfl hBr13.drew hBq13.drew Tryz.underlying76 rfl isz isz) rfl
          ⟨s9, A9, n9, c9, s11, A11, n11, c11, rfl, ⟨by rw [Hdq.out]; exact hI9.sg, by rw [Hdq.out]; exact ((hI9.by_.keep hO10).keep hO11).far hF9 hx12 (by simp; omega)⟩, ⟨by rw [Hdr.out]; exact hI11.sg, by rw [Hdr.out]; exact hI11.by_.far hF11 hx12 (by simp; omega)⟩, hF9.le (by omega), hF11.le (by simp; omega), (hP7.trans' hQ11).trans hx12 (by intro k hk hlt; simp at hk; omega)⟩
      · exact absurd rfl hst
end Go.Proofs.YtfoafihodanmhaaGreatDoor
namespace Go.Proofs.YtfoafihodanmhaaGreatDoor
open Go.RowKit
namespace Reg
variable {P:Program}{ops:Array Oper}{Q:Exit→Act→World→Prop}{E:Nat→Bool}{S:List Nat}
end Reg
end Go.Proofs.YtfoafihodanmhaaGreatDoor
namespace Go.Proofs.YtfoafihodanmhaaGreatDoor
open Go.RowKit
open Nm (W32)
def rk (l:LN) (k:Nat):LN:=(List.range l.length).map fun p=>if p < k∨l.length≤p + k then l.getD (l.length - 1 - p) 0 else l.getD p 0
@[simp] theorem rk_length (l:LN) (k:Nat):(rk l k).length=l.length:=by simp [rk]
def chs (m X:Nat):LN:=(Nm.pad 10 m X).map (· + 48)
@[simp] theorem chs_length (m X:Nat):(chs m X).length=m:=by simp [chs]
theorem zcs (w:World) (a b:Value):Blk (w.alloc<|.cells #[a,b] 76) w.heap.size 76 [a,b]∧Only [] w (w.alloc<|.cells #[a,b] 76):=⟨Blk.new w _ _,(Only.refl [] w).alloc _⟩
set_option maxHeartbeats 4000000 in
set_option maxRecDepth 100000 in
theorem sign_any (w : World) (s : Bool) (A : Option Addr) (n c : Nat) (x : Int) (hx : x.natAbs < ya) (hA : IntS w s A n c x) :
    Calls Tryz.prog 57 #[.agg #[.bool s, .slice A n c]] w fun e w' => e = .returned (.int .i64 x.sign) ∧ Only [] w w' := by
  have Hsg := Lib.hid hA.sg
  have Hn := Lib.hid hA.by_.n_eq
  obtain ⟨hBa, hO0⟩ := zcs w (.bool s) (.slice A n c)
  have hn := hA.n_le hx
  have Hx := Lib.hid hx
  obtain ⟨K0, K1, -, -⟩ := hBa.two
  clear hx
  go_enter Tryz.func57, Tryz.ntmps57
  go_wp2_with fail
  clear K0 K1
  refine (ZC _ s A n c x (hA.keep hO0) Hx.out).mono ?_
  rintro e w1 ⟨rfl, hO1⟩
  obtain ⟨K0, K1, -, -⟩ := (hBa.keep hO1 (by simp)).two
  have hA1 := (hA.keep hO0).keep hO1
  by_cases h0 : x = 0
  · have hn0 : n = 0 := by rw [Hn.out, h0]; exact Nm.len_zero 256
    subst hn0
    go_wp2
    go_ret
    exact ⟨by rw [h0]; rfl, hO0.trans' hO1⟩
  · have hn0 : n ≠ 0 := by rw [Hn.out]; exact fun h => h0 (by have := (Nm.len_eq_zero (B := 256) (by decide)).1 h; omega)
    have hn0b : ((n : Int) == 0) = false := beq_eq_false_iff_ne.2 (by omega)
    cases s
    · have hp : x.sign = 1 := Int.sign_eq_one_of_pos (by have : ¬ x < 0 := by simpa using Hsg.out
                                                         omega)
      go_wp2
      go_ret
      exact ⟨by rw [hp]; rfl, hO0.trans' hO1⟩
    · have hp : x.sign = -1 := Int.sign_eq_neg_one_of_neg (by have := Hsg.out; simpa using this.symm)
      go_wp2
      go_ret
      exact ⟨by rw [hp]; rfl, hO0.trans' hO1⟩
theorem zcr (w:World) (a b c d:Value):Blk ((w.alloc<|.cells #[a,b] 76).alloc<|.cells #[c,d] 76) w.heap.size 76 [a,b]∧Blk ((w.alloc<|.cells #[a,b] 76).alloc<|.cells #[c,d] 76) (w.heap.size + 1) 76 [c,d]∧Only [] w ((w.alloc<|.cells #[a,b] 76).alloc<|.cells #[c,d] 76)∧((w.alloc<|.cells #[a,b] 76).alloc<|.cells #[c,d] 76).heap.size=w.heap.size + 2:=by
 have h1:=Blk.new w 76 [a,b];have h2:=Blk.new (w.alloc<|.cells #[a,b] 76) 76 [c,d]
 have:(w.alloc<|.cells #[a,b] 76).heap.size=w.heap.size + 1:=by simp
 rw [this] at h2;exact ⟨h1.alloc _,h2,((Only.refl [] w).alloc _).alloc _,by simp⟩
theorem neg_any (w:World) (s:Bool) (A:Option Addr) (n c:Nat) (x:Int) (hx:x.natAbs < ya) (hA:IntS w s A n c x):
    Calls Tryz.prog 136 #[.agg #[.bool s,.slice A n c]] w (RI w (-x) 0):=by
  obtain ⟨hBa,hBr,hO0,hsz⟩:=zcr w (.bool s) (.slice A n c) (.bool false) (.slice none 0 0)
  have hn:=hA.n_le hx
  have Hx:=Jm hx
  have Hxw:=Jm (Zj hx)
  have hex:sgn (!s) x.natAbs= -x:=by rw [sgn_not,hA.nat]
  have Hex:=Jm hex
  have hlim:=yY (z:= -x) (by rw [Int.natAbs_neg];exact hx)
  have Hlim:=Jm hlim
  obtain ⟨K0,K1,-,-⟩:=hBa.two
  clear hx hex hlim
  go_enter Tryz.func136,Tryz.ntmps136
  go_wp2_with fail
  clear K0 K1
  refine (ZC _ s A n c x (hA.keep hO0) Hx.out).mono ?_
  rintro e w2 ⟨rfl,hO2⟩
  obtain ⟨k0,k1,-,-⟩:=(hBa.keep hO2 s9).two
  have hA2:=(hA.keep hO0).keep hO2
  have hBr2:=hBr.keep hO2 s9
  have hP2:=hO0.trans' hO2
  have hs2:w.heap.size + 2≤w2.heap.size:=by rw [← hsz];exact hO2.size
  have hl0:w.heap.size < w2.heap.size:=by omega
  clear hBa hBr hO0 hsz hO2
  go_wp2
  refine Reg.wp [w.heap.size + 1] [.r 0,.r 1,.r 2,.r 3,.r 4,.e 5,.e 6,.r 7,.r 8,.e 9,.r 10] k9 k9 (fun d _ _ _ _ h=>by cases d <;> exact h) ?_
  simp only [Reg.pick,List.getD_cons_succ,List.getD_cons_zero]
  iterate 5 (apply Reg.read;(· (intro t K hK;go_simp;(try go_ints);(try ((go_ite <;> go_prune);go_simp));(try go_ints);exact hK _ rfl));(· (intro K hK;go_simp;exact hK _ rfl)))
  clear k0 k1
  refine Reg.eff ?_
  go_wp2_with (go_at_call 119;refine (ZL w2.drew A n c x.natAbs o9 hA2.by_.drew).mono ?_;rintro e w3 ⟨A3,n3,c3,rfl,hN3,hO3⟩)
  refine ⟨hO3.mono s9,?_⟩
  refine Reg.eff ?_
  go_wp2_with (go_at_call 120
               have hb:=yS w3 (!s) A3 n3 c3 x.natAbs (JG (hN3.n_le Hxw.out) d9) hN3
               rw [Hex.out,Hlim.out.1,Hlim.out.2] at hb
               refine hb.mono ?_
               rintro e w5 ⟨s2,A2,n2,c2,rfl,hI,hF,hO5⟩)
  refine ⟨hO5.mono s9,?_⟩
  have hsz4:w2.heap.size≤w3.heap.size:=hO3.size
  have hQ5:Only [] w2 w5:=Only.undrew (w:=w2) (hO3.trans' hO5)
  have hBr5:=hBr2.keep hQ5 s9
  obtain ⟨k0,k1,f0,f1⟩:=hBr5.two
  have hsw:=hQ5.size
  iterate 2 (apply Reg.read;(· (intro t K hK;go_simp;(try go_ints);(try ((go_ite <;> go_prune);go_simp));(try go_ints);exact hK _ rfl));(· (intro K hK;go_simp;exact hK _ rfl)))
  refine Reg.eff ?_
  go_wp2
  refine ⟨yC _ _ _ _,?_⟩
  (apply Reg.read;(· (intro t K hK;go_simp;(try go_ints);(try ((go_ite <;> go_prune);go_simp));(try go_ints);exact hK _ rfl));(· (intro K hK;go_simp;exact hK _ rfl)))
  refine Reg.fin ?_
  go_wp2
  exact bodyPost_ret (Za I _ _ (w.heap.size + 1) 76 [_,_] _ I (hBr5.put2 _ _) Tryz.underlying76 I isz) I (RI.of I hI hF (Ju (show w.heap.size + 1 < w2.heap.size by omega) hsz4) (Nat.le_add_right _ _) (hP2.trans' hQ5)<|yC _ _ _ _)
def CmpZ (x y r:Int):Prop:=(x < y∧r= -1)∨(x=y∧r=0)∨(y < x∧r=1)
theorem zdl (w:World) (s t:Bool) (A B:Option Addr) (n c m d:Nat) (x y:Int) (hx:x.natAbs < ya) (hy:y.natAbs < ya) (hA:IntS w s A n c x) (hB:IntS w t B m d y):
  Calls Tryz.prog 80 #[.agg #[.bool s,.slice A n c],.agg #[.bool t,.slice B m d]] w fun e w'=>∃ r:Int,e= .returned (.int .i64 r)∧Hid (CmpZ x y r)∧Only [] w w':=by
 obtain ⟨hBa,hBb,hO0,hsz⟩:=zcr w (.bool s) (.slice A n c) (.bool t) (.slice B m d);have hn:=hA.n_le hx;have hm:=hB.n_le hy;have Hx:=Jm hx;have Hy:=Jm hy;have Hxw:=Jm (Zj hx);have Hyw:=Jm (Zj hy);have Hs:=Jm hA.sg;have Ht:=Jm hB.sg;obtain ⟨K0,K1,-,-⟩:=hBa.two;obtain ⟨L0,L1,-,-⟩:=hBb.two;clear hx hy
 go_enter Tryz.func80,Tryz.ntmps80
 go_wp2_with fail
 clear K0 K1 L0 L1;refine (ZC _ s A n c x (hA.keep hO0) Hx.out).mono ?_;rintro e w1 ⟨rfl,hO1⟩;obtain ⟨K0,K1,-,-⟩:=(hBa.keep hO1 s9).two;obtain ⟨L0,L1,-,-⟩:=(hBb.keep hO1 s9).two
 go_wp2_with fail
 clear K0 K1 L0 L1;refine (ZC _ t B m d y ((hB.keep hO0).keep hO1) Hy.out).mono ?_;rintro e w2 ⟨rfl,hO2⟩;have hQ2:=hO1.trans' hO2;have hBa2:=hBa.keep hQ2 s9;obtain ⟨k0,k1,-,-⟩:=hBa2.two;obtain ⟨l0,l1,-,-⟩:=(hBb.keep hQ2 s9).two;have hA2:=(hA.keep hO0).keep hQ2;have hB2:=(hB.keep hO0).keep hQ2;have hP2:=hO0.trans' hQ2
 have hs2:w.heap.size + 2≤w2.heap.size:=by rw [← hsz];exact hQ2.size
 have hl0:w.heap.size < w2.heap.size:=by omega
 have hl1:w.heap.size + 1 < w2.heap.size:=by omega
 clear hBa hBb hO0 hsz hO1 hO2 hQ2 hA hB
 cases s <;> cases t
 ·skip
  go_wp2
  refine Reg.wp [] [.r 0,.r 1,.r 3,.r 4,.e 2,.e 5,.e 6,.r 7] k9 k9 (fun d _ _ _ _ h=>by cases d <;> exact h) ?_
  simp only [Reg.pick,List.getD_cons_succ,List.getD_cons_zero]
  iterate 4 (apply Reg.read;(· (intro t K hK;go_simp;(try go_ints);(try ((go_ite <;> go_prune);go_simp));(try go_ints);exact hK _ rfl));(· (intro K hK;go_simp;exact hK _ rfl)))
  clear k0 k1 l0 l1;refine Reg.eff ?_
  go_wp2_with (go_at_call 119;refine (ZL w2.drew A n c x.natAbs o9 hA2.by_.drew).mono ?_;rintro e w3 ⟨A3,n3,c3,rfl,hN3,hO3⟩)
  refine ⟨hO3,?_⟩;refine Reg.eff ?_
  go_wp2_with (go_at_call 119;refine (ZL w3 B m d y.natAbs o9<|hB2.by_.drew.keep hO3).mono ?_;rintro e w4 ⟨A4,n4,c4,rfl,hN4,hO4⟩)
  refine ⟨hO4,?_⟩;have hN3':=hN3.keep hO4;refine Reg.eff ?_
  go_wp2_with (go_at_call 118;refine (Z6 w4 A3 A4 n3 c3 n4 c4 x.natAbs y.natAbs (JG (hN3'.n_le Hxw.out) d9) (JG (hN4.n_le Hyw.out) d9) hN3' hN4).mono ?_;rintro e w5 ⟨r,rfl,hr,hO5⟩)
  refine ⟨hO5,?_⟩;have hQ5:Only [] w2 w5:=Only.undrew (w:=w2) ((hO3.trans' hO4).trans' hO5);obtain ⟨k0,k1,-,-⟩:=(hBa2.keep hQ5 s9).two
  (apply Reg.read;(· (intro t K hK;go_simp;(try go_ints);(try ((go_ite <;> go_prune);go_simp));(try go_ints);exact hK _ rfl));(· (intro K hK;go_simp;exact hK _ rfl)))
  refine Reg.fin ?_
  go_wp2
  go_ret
  exact ⟨r,I,by have h1:=Hs.out;have h2:=Ht.out;have h3:=hr.out;unfold Hid CmpZ;unfold Cmp at h3;simp at h1 h2;omega,hP2.trans' hQ5⟩
 ·go_wp2
  go_ret
  exact ⟨1,I,by have h1:=Hs.out;have h2:=Ht.out;unfold Hid CmpZ;simp at h1 h2;omega,hP2⟩
 ·go_wp2
  go_ret
  exact ⟨-1,I,by have h1:=Hs.out;have h2:=Ht.out;unfold Hid CmpZ;simp at h1 h2;omega,hP2⟩
 ·skip
  go_wp2
  refine Reg.wp [] [.r 0,.r 1,.r 3,.r 4,.e 2,.e 5,.e 6,.r 7] k9 k9 (fun d _ _ _ _ h=>by cases d <;> exact h) ?_
  simp only [Reg.pick,List.getD_cons_succ,List.getD_cons_zero]
  iterate 4 (apply Reg.read;(· (intro t K hK;go_simp;(try go_ints);(try ((go_ite <;> go_prune);go_simp));(try go_ints);exact hK _ rfl));(· (intro K hK;go_simp;exact hK _ rfl)))
  clear k0 k1 l0 l1;refine Reg.eff ?_
  go_wp2_with (go_at_call 119;refine (ZL w2.drew A n c x.natAbs o9 hA2.by_.drew).mono ?_;rintro e w3 ⟨A3,n3,c3,rfl,hN3,hO3⟩)
  refine ⟨hO3,?_⟩;refine Reg.eff ?_
  go_wp2_with (go_at_call 119;refine (ZL w3 B m d y.natAbs o9<|hB2.by_.drew.keep hO3).mono ?_;rintro e w4 ⟨A4,n4,c4,rfl,hN4,hO4⟩)
  refine ⟨hO4,?_⟩;have hN3':=hN3.keep hO4;refine Reg.eff ?_
  go_wp2_with (go_at_call 118;refine (Z6 w4 A3 A4 n3 c3 n4 c4 x.natAbs y.natAbs (JG (hN3'.n_le Hxw.out) d9) (JG (hN4.n_le Hyw.out) d9) hN3' hN4).mono ?_;rintro e w5 ⟨r,rfl,hr,hO5⟩)
  refine ⟨hO5,?_⟩;have hQ5:Only [] w2 w5:=Only.undrew (w:=w2) ((hO3.trans' hO4).trans' hO5);obtain ⟨k0,k1,-,-⟩:=(hBa2.keep hQ5 s9).two
  (apply Reg.read;(· (intro t K hK;go_simp;(try go_ints);(try ((go_ite <;> go_prune);go_simp));(try go_ints);exact hK _ rfl));(· (intro K hK;go_simp;exact hK _ rfl)))
  refine Reg.fin ?_
  have hr1: -1≤r∧r≤1:=by have h3:=hr.out;unfold Cmp at h3;omega
  go_wp2
  go_ret
  exact ⟨-r,I,by have h1:=Hs.out;have h2:=Ht.out;have h3:=hr.out;unfold Hid CmpZ;unfold Cmp at h3;simp at h1 h2;omega,hP2.trans' hQ5⟩
def valP (x v er:Int):Prop:=(-9223372036854775808≤x∧x≤9223372036854775807∧v=x∧er=0)∨((x < -9223372036854775808∨9223372036854775807 < x)∧v=0∧er=3)
theorem or64b (u d:Nat) (hu:u < 72057594037927936) (hd:d < 256):bits .or .u64 ((u:Int) * 256) (d:Int)=((u * 256 + d:Nat):Int):=by
 have h:=u64_or_nat (u * 256) d o9 o9
 have e:u * 256 ||| d=u * 256 + d:=by
  have:=Nat.two_pow_add_eq_or_of_lt (i:=8) (b:=d) o9 u;rw [Nat.mul_comm u];exact this.symm
 rw [e] at h;rw [← h];simp
theorem value_any (w : World) (s : Bool) (A : Option Addr) (n c : Nat) (x : Int) (hx : x.natAbs < ya) (hA : IntS w s A n c x) :
    Calls Tryz.prog 88 #[.agg #[.bool s, .slice A n c]] w fun e w' => ∃ v er : Int, e = .returned (.tuple #[.int .i64 v, .int .i64 er]) ∧ Hid (valP x v er) ∧ Only [] w w' := by
  have Hsg := Lib.hid hA.sg
  have Hn := Lib.hid hA.by_.n_eq
  obtain ⟨hBa, hO0⟩ := zcs w (.bool s) (.slice A n c)
  have hn := hA.n_le hx
  have Hx := Lib.hid hx
  obtain ⟨K0, K1, -, -⟩ := hBa.two
  clear hx
  go_enter Tryz.func88, Tryz.ntmps88
  go_wp2_with fail
  clear K0 K1
  refine (ZC _ s A n c x (hA.keep hO0) Hx.out).mono ?_
  rintro e w1 ⟨rfl, hO1⟩
  have hBa1 := hBa.keep hO1 s9
  obtain ⟨K0, K1, -, -⟩ := hBa1.two
  have hA1 := (hA.keep hO0).keep hO1
  have hP1 := hO0.trans' hO1
  by_cases h8 : 8 < n
  · have h8I : (8 : Int) < (n : Int) := by omega
    have hbig : 18446744073709551616 ≤ x.natAbs := by
      have h : ¬ Nm.len 256 x.natAbs ≤ 8 := by rw [← Hn.out]; omega
      rw [Nm.len_le d9] at h
      omega
    go_wp2
    go_ret2
    exact ⟨0, 3, rfl, .inr ⟨by omega, rfl, rfl⟩, hP1⟩
  · have h8I : (n : Int) ≤ 8 := by omega
    have hlt : x.natAbs < 256 ^ n := by rw [Hn.out]; exact Nm.lt_pow_len d9 _
    have hXb : x.natAbs < 18446744073709551616 := Nat.lt_of_lt_of_le hlt (by
      have : 256 ^ n ≤ 256 ^ 8 := Nat.pow_le_pow_right d9 o9
      omega)
    have Hlt := Lib.hid hlt
    have HXb := Lib.hid hXb
    clear hlt hXb hA
    go_wp2
    go_loopw [4, 6, 17] (fun u _ i wr => ∃ (k j uu : Nat), k + j = n ∧ i = .int .i64 (k : Int) ∧ u = .int .u64 (uu : Int) ∧ Hid (uu = x.natAbs / 256 ^ j) ∧ w1 = wr) (fun _ _ i _ => n - (intOf i).toNat)
    case atStart => exact ⟨0, n, 0, by omega, rfl, rfl, by unfold Hid; rw [Nat.div_eq_of_lt Hlt.out], rfl⟩
    case round =>
      obtain ⟨k, j, uu, hkj, rfl, rfl, huu, rfl⟩ := hrel
      by_cases hk : k < n
      · have hkI : (k : Int) < (n : Int) := by omega
        obtain ⟨i, rfl⟩ : ∃ i, j = i + 1 := ⟨j - 1, by omega⟩
        obtain ⟨g, o, rfl, hg, hc⟩ := hA1.by_.at o9
        have c1 := hc i k o9
        have hnx := Nm.div_next (B := 256) x.natAbs i
        rw [← huu.out] at hnx
        have hdl : x.natAbs / 256 ^ i % 256 < 256 := Nat.mod_lt _ d9
        have hul : uu < 72057594037927936 := by
          rw [huu.out]
          have h1 : x.natAbs / 256 ^ (i + 1) ≤ x.natAbs / 256 := Nat.div_le_div_left (by rw [Nat.pow_succ]; exact Nat.le_mul_of_pos_left _ (Nat.pow_pos d9)) d9
          have := HXb.out
          omega
        generalize x.natAbs / 256 ^ i % 256 = dd at c1 hnx hdl
        have hor := or64b uu dd hul hdl
        obtain ⟨v, Hv⟩ : ∃ v, Hid (v = uu * 256 + dd) := ⟨_, rfl⟩
        rw [← Hv.out] at hor hnx
        have hulI : (uu : Int) < 72057594037927936 := by omega
        have hdI : (dd : Int) < 256 := by omega
        have Hnx := Lib.hid hnx
        clear hc hnx
        go_wp2
        go_roundw
        case rel => exact ⟨k + 1, i, v, by omega, by go_num, rfl, Hnx.out.symm, trivial⟩
        case measure => simp [intOf]; omega
      · obtain rfl : k = n := by omega
        obtain rfl : j = 0 := by omega
        obtain rfl : uu = x.natAbs := by rw [huu.out]; simp
        have hXI : (x.natAbs : Int) < 18446744073709551616 := by have := HXb.out; omega
        have hUx := Hsg.out
        obtain ⟨U, HU⟩ : ∃ U, Hid (U = x.natAbs) := ⟨_, rfl⟩
        rw [← HU.out] at hXI ⊢
        cases s
        · have hxp : Hid (x = (U : Int)) := by unfold Hid; have : ¬ x < 0 := by simpa using hUx
                                               have := HU.out; omega
          clear hUx
          by_cases hb : (9223372036854775807 : Int) < (U : Int)
          · go_wp2
            go_ret2
            exact ⟨0, 3, rfl, .inr ⟨by have := hxp.out; omega, rfl, rfl⟩, hP1⟩
          · have hb' : (U : Int) ≤ 9223372036854775807 := by omega
            go_wp2
            go_ret2
            exact ⟨(U : Int), 0, rfl, .inl ⟨by have := hxp.out; omega, by have := hxp.out; omega, hxp.out.symm, rfl⟩, hP1⟩
        · have hxp : Hid (x = -(U : Int) ∧ 0 < U) := by unfold Hid; have : x < 0 := by simpa using hUx.symm
                                                        have := HU.out; omega
          clear hUx
          by_cases hb : (9223372036854775808 : Int) < (U : Int)
          · go_wp2
            go_ret2
            exact ⟨0, 3, rfl, .inr ⟨by have := hxp.out; omega, rfl, rfl⟩, hP1⟩
          · have hb' : (U : Int) ≤ 9223372036854775808 := by omega
            have hw0 : IntKind.u64.wrap (-(U : Int)) = -(U : Int) + 18446744073709551616 := zbd o9 (by have := hxp.out; omega)
            have hw1 : IntKind.i64.wrap (-(U : Int) + 18446744073709551616) = -(U : Int) := by
              have := hxp.out
              simp [IntKind.wrap, IntKind.signed, IntKind.bits]
              omega
            go_wp2
            go_ret2
            exact ⟨-(U : Int), 0, rfl, .inl ⟨by have := hxp.out; omega, by have := hxp.out; omega, hxp.out.1.symm, rfl⟩, hP1⟩
