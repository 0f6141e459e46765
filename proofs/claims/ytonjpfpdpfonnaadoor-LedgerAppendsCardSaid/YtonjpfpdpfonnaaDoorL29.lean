/-
  LEDGERS: Consistent, its closure.
-/
import Derived.Test.YtonjpfpdpfonnaaDoorL28
import Derived.Test.YtonjpfpdpfonnaaDoorSyV
namespace Go.Proofs.YtonjpfpdpfonnaaDoor
open Go.RowKit
namespace Sx
theorem bldPr0 : Bld Tryd.prog 112 [] [] ((cellsOf (List.replicate 32 0 ++ List.replicate 32 0)).map isD) := fun L w vs h => by
  obtain rfl := all0 h
  exact ⟨cellsOf (List.replicate 32 0 ++ List.replicate 32 0), all_is _, fun w' => by kernel_rfl⟩
theorem bldPr {a b : List UInt8} (ha : a.length = 32) (hb : b.length = 32) : Bld Tryd.prog 112 [0, 1] [gD a, gD b] ((cellsOf (a ++ b)).map isD) := fun L w vs hv => by
  obtain ⟨u, v, rfl, hu, hw⟩ := all2 hv
  obtain rfl : u = _ := hu
  obtain rfl : v = _ := hw
  obtain ⟨a0, a1, a2, a3, a4, a5, a6, a7, a8, a9, b0, b1, b2, b3, b4, b5, b6, b7, b8, b9, c0, c1, c2, c3, c4, c5, c6, c7, c8, c9, d0, d1, rfl⟩ := list32 ha
  obtain ⟨p0, p1, p2, p3, p4, p5, p6, p7, p8, p9, q0, q1, q2, q3, q4, q5, q6, q7, q8, q9, r0, r1, r2, r3, r4, r5, r6, r7, r8, r9, s0, s1, rfl⟩ := list32 hb
  refine ⟨cellsOf _, all_is _, fun w' => ?_⟩
  kernel_rfl
/-- What the ledger's own consistent returns. -/
def CvOK (m n : Nat) (o : Bool) (d : List UInt8) (q : List Dg) (t : (List UInt8 × List UInt8) × Bool) : Prop := (Led.con HH m n o d (q.map (·.1)) = if t.2 = true then some t.1 else none) ∧ t.1.1.length = 32 ∧ t.1.2.length = 32
theorem CvOK.same {n : Nat} {o : Bool} {d : List UInt8} (q : List Dg) (h : 0 < n) (ho : o = true) (hd : d.length = 32) : CvOK n n o d q ((d, d), decide ((q.length : Int) = 0)) :=
  ⟨by rw [Led.con_eq HH o d _ h, if_pos ho]; cases q <;> simp <;> omega, hd, hd⟩
theorem CvOK.none {m n : Nat} {o : Bool} (d : List UInt8) (h0 : 0 < m) (hm : m ≤ n) (h : ¬ (m = n ∧ o = true)) : CvOK m n o d [] ((List.replicate 32 0, List.replicate 32 0), false) := by
  refine ⟨?_, by simp, by simp⟩
  by_cases h1 : m = n
  · subst h1
    rw [Led.con_eq HH o d _ h0, if_neg (fun e => h ⟨rfl, e⟩)]
    simp
  · rw [Led.con_step HH o d _ h0 (by omega)]
    simp
theorem CvOK.last {n : Nat} {o : Bool} {d : List UInt8} {x : Dg} {q : List Dg} (h : 0 < n) (ho : ¬ o = true) (hx : q[q.length - 1]? = some x) : CvOK n n o d q ((x.1, x.1), decide (((q.take (q.length - 1)).length : Int) = 0)) := by
  refine ⟨?_, x.2, x.2⟩
  rw [Led.con_eq HH o d _ h, if_neg ho, dg_last hx, ← dg_init]
  cases q.take (q.length - 1) <;> simp <;> omega
theorem CvOK.left {m n : Nat} {o : Bool} {d : List UInt8} {x : Dg} {q : List Dg} {t : (List UInt8 × List UInt8) × Bool} (h0 : 0 < m) (h : m < n) (hx : q[q.length - 1]? = some x) (hi : m ≤ Led.bl n) (ht : CvOK m (Led.bl n) o d (q.take (q.length - 1)) t) : CvOK m n o d q ((t.1.1, Led.join HH t.1.2 x.1), t.2) := by
  obtain ⟨h1, h2, h3⟩ := ht
  rw [dg_init] at h1
  refine ⟨?_, h2, by simp⟩
  rw [Led.con_step HH o d _ h0 h, dg_last hx]
  simp only
  rw [if_pos hi, h1]
  split <;> rfl
theorem CvOK.right {m n : Nat} {o : Bool} {d : List UInt8} {x : Dg} {q : List Dg} {t : (List UInt8 × List UInt8) × Bool} (h0 : 0 < m) (h : m < n) (hx : q[q.length - 1]? = some x) (hi : ¬ m ≤ Led.bl n) (ht : CvOK (m - Led.bl n) (n - Led.bl n) false d (q.take (q.length - 1)) t) : CvOK m n o d q ((Led.join HH x.1 t.1.1, Led.join HH x.1 t.1.2), t.2) := by
  obtain ⟨h1, h2, h3⟩ := ht
  rw [dg_init] at h1
  refine ⟨?_, by simp, by simp⟩
  rw [Led.con_step HH o d _ h0 h, dg_last hx]
  simp only
  rw [if_neg hi, h1]
  split <;> rfl
abbrev cvBx (gw gp : Nat) (old new : List UInt8) : List Box := [.c gw [isD (.func (.func 61) #[] #[pD gp, pD gw])], .c gp ((cellsOf (old ++ new)).map isD)]
abbrev CvCon (gw gp : Nat) (old new : List UInt8) (m n : Nat) (inner : Bool) (q : List Dg) : Prop :=
  ConR Tryd.prog 61 (cvBx gw gp old new) [iD (m : Int), iD (n : Int), boolD inner, lsD encG q, isD (pD gp), isD (pD gw)] (fun _ : {t : (List UInt8 × List UInt8) × Bool // CvOK m n (!inner) old q t} => cvBx gw gp old new) (fun t => tupD [gD (t.1.1.1 ++ t.1.1.2), boolD t.1.2])
set_option maxHeartbeats 4000000 in
set_option maxRecDepth 100000 in
theorem con_cv_step (gw gp : Nat) (old new : List UInt8) (ho : old.length = 32) (hw : new.length = 32) (m n : Nat) (inner : Bool) (q : List Dg) (h0 : 0 < m) (hm : m ≤ n) (hn : n ≤ 4096) (hq : q.length ≤ 1000000) (ih : ∀ (m' n' : Nat) (inner' : Bool) (q' : List Dg), n' < n → 0 < m' → m' ≤ n' → q'.length ≤ 1000000 → CvCon gw gp old new m' n' inner' q') : ConR Tryd.prog 61 [.c gw [isD (.func (.func 61) #[] #[pD gp, pD gw])], .c gp ((cellsOf (old ++ new)).map isD)] [iD (m : Int), iD (n : Int), boolD inner, lsD encG q, isD (pD gp), isD (pD gw)] (fun t : {t : (List UInt8 × List UInt8) × Bool // CvOK m n (!inner) old q t} => [.c gw [isD (.func (.func 61) #[] #[pD gp, pD gw])], .c gp ((cellsOf (old ++ new)).map isD)]) (fun t : {t : (List UInt8 × List UInt8) × Bool // CvOK m n (!inner) old q t} => tupD [gD (t.1.1.1 ++ t.1.1.2), boolD t.1.2]) := by
  refine con_ofR Tryd.func61 (by kernel_rfl) rfl (by kernel_rfl) fun base w0 => ?_
  refine SW.seq ?_
  refine SW.region ?_
  refine SWl.ef (S := []) (Ef.alloc (zs := cellsOf (List.replicate 32 0 ++ List.replicate 32 0)) (by kernel_rfl) rfl) ?_
  rintro _ ⟨g10, rfl⟩
  refine SWl.rd rfl (Rd.assign rfl) ?_
  refine SWl.nil ?_
  refine SN.then ?_
  refine SW.seq ?_
  refine SW.seq ?_
  refine SW.region ?_
  refine SWl.rd rfl (Rd.move rfl) ?_
  refine SWl.rd rfl (Rd.move rfl) ?_
  refine SWl.rd rfl (Rd.eqi rfl rfl) ?_
  refine SWl.rd rfl (Rd.move rfl) ?_
  refine SWl.split 22 rfl (fun hb22 => ?_) (fun hb22 => ?_)
  · have hmn : m = n := by have := of_decide_eq_true hb22; omega
    refine SWl.rdg rfl rfl (hb22) rfl rfl (Rd.move rfl) ?_
    refine SWl.rdg rfl rfl (hb22) rfl rfl (Rd.not rfl) ?_
    refine SWl.rd rfl (Rd.pickY rfl (hb22) rfl) ?_
    refine SWl.nil ?_
    refine SN.then ?_
    refine SW.cond rfl (fun hb25 => ?_) (fun hb25 => ?_)
    · skip
      refine SW.seq ?_
      refine SW.region ?_
      refine SWl.rd rfl (Rd.fieldAddr (n := 0) rfl (by kernel_rfl)) ?_
      refine SWl.rd rfl (Rd.load1 1 32 rfl rfl (by kernel_rfl) (by first | assumption | (simp; done) | (simp; omega)) ap_nil) ?_
      refine SWl.rd rfl (Rd.fieldAddr (n := 0) rfl (by kernel_rfl)) ?_
      refine SWl.rd rfl (Rd.load1 1 32 rfl rfl (by kernel_rfl) (by first | assumption | (simp; done) | (simp; omega)) ap_nil) ?_
      refine SWl.rd rfl (Rd.more (Rd.build rfl rfl (bldPr ho ho)) (le_agg_g _)) ?_
      refine SWl.rd rfl (Rd.move rfl) ?_
      refine SWl.rd rfl (Rd.lenR (e := 79) rfl (by kernel_rfl)) ?_
      refine SWl.rd rfl (Rd.eqi rfl rfl) ?_
      refine SWl.ef (S := [_]) (Ef.storeG 2 64 rfl rfl rfl (by kernel_rfl) (by first | assumption | (simp; done) | (simp; omega)) (by first | assumption | (simp; done) | (simp; omega)) (List.mem_singleton.2 rfl)) ?_
      rintro _ rfl
      refine SWl.rd rfl (Rd.assign rfl) ?_
      refine SWl.nil ?_
      refine SN.then ?_
      refine SW.retR (fn := Tryd.f61) (⟨((old, old), decide ((q.length : Int) = 0)), by subst hmn; exact CvOK.same q h0 hb25 ho⟩) [0, 1] (fun _ _ h => h) (Rs.le (Rs.two rfl (ResV.cellG (n := 64) 2 rfl rfl (by kernel_rfl) (by first | assumption | (simp; done) | (simp; omega))) (ResV.tmp rfl)) ?_) (by decide) ⟨⟨_, rfl, LeAll.refl _⟩, ⟨⟨_, rfl, LeAll.refl _⟩, trivial⟩⟩
      exact Le.tup ⟨le_agg_g _, Le.refl _, trivial⟩
    · skip
      refine SW.skip ?_
      refine SN.then ?_
      refine SW.seq ?_
      refine SW.seq ?_
      refine SW.region ?_
      refine SWl.rd rfl (Rd.move rfl) ?_
      refine SWl.rd rfl (Rd.lenR (e := 79) rfl (by kernel_rfl)) ?_
      refine SWl.rd rfl (Rd.eqi rfl rfl) ?_
      refine SWl.nil ?_
      refine SN.then ?_
      refine SW.cond rfl (fun hb36 => ?_) (fun hb36 => ?_)
      · have hz : q = [] := List.eq_nil_of_length_eq_zero (by have := of_decide_eq_true hb36; omega)
        refine SW.seq ?_
        refine SW.region ?_
        refine SWl.rd rfl (Rd.more (Rd.build rfl rfl bldPr0) (le_agg_g _)) ?_
        refine SWl.ef (S := [_]) (Ef.storeG 2 64 rfl rfl rfl (by kernel_rfl) (by first | assumption | (simp; done) | (simp; omega)) (by first | assumption | (simp; done) | (simp; omega)) (List.mem_singleton.2 rfl)) ?_
        rintro _ rfl
        refine SWl.rd rfl (Rd.assign rfl) ?_
        refine SWl.nil ?_
        refine SN.then ?_
        refine SW.retR (fn := Tryd.f61) (⟨((List.replicate 32 0, List.replicate 32 0), false), by subst hz; exact CvOK.none old h0 hm (by rintro ⟨e, e2⟩; first | exact hmn e | simp [e2] at hb25)⟩) [0, 1] (fun _ _ h => h) (Rs.le (Rs.two rfl (ResV.cellG (n := 64) 2 rfl rfl (by kernel_rfl) (by first | assumption | (simp; done) | (simp; omega))) (ResV.tmp rfl)) ?_) (by decide) ⟨⟨_, rfl, LeAll.refl _⟩, ⟨⟨_, rfl, LeAll.refl _⟩, trivial⟩⟩
        exact Le.tup ⟨le_agg_g _, Le.refl _, trivial⟩
      · have hz : q.length ≠ 0 := by have := of_decide_eq_false hb36; omega
        refine SW.skip ?_
        refine SN.then ?_
        refine SW.seq ?_
        obtain ⟨x, hx⟩ : ∃ x, q[q.length - 1]? = some x := ⟨_, List.getElem?_eq_getElem (by omega)⟩
        have hxl : x.1.length = 32 := x.2
        refine SW.draw [] (.r 0 (.r 1 (.r 2 (.r 3 (.r 4 (.r 5 (.r 6 (.r 7 (.r 8 (.r 9 (.r 10 (.n 11 (.r 12 (.e 13 .fin .no)) .no)))))))))))) (by kernel_rfl) (by kernel_rfl) (fun d _ _ _ _ h => by cases d <;> exact h) ?_
        refine SWz.rd (i := 0) rfl rfl (Rd.move rfl) ?_
        refine SWz.rd (i := 1) rfl rfl (Rd.move rfl) ?_
        refine SWz.rd (i := 2) rfl rfl (Rd.lenR (e := 79) rfl (by kernel_rfl)) ?_
        refine SWz.rd (i := 3) rfl rfl (Rd.mono (Rd.subi rfl rfl ⟨by omega, by omega⟩) (show Le _ (iD ((q.length - 1 : Nat) : Int)) from Le.is (by congr 1; omega))) ?_
        refine SWz.rd (i := 4) rfl rfl (Rd.shL (e := 79) 32 rfl rfl (by kernel_rfl) (by kernel_rfl) (by omega)) ?_
        refine SWz.rd (i := 5) rfl rfl (Rd.move rfl) ?_
        refine SWz.rd (i := 6) rfl rfl (Rd.move rfl) ?_
        refine SWz.rd (i := 7) rfl rfl (Rd.lenR (e := 79) rfl (by kernel_rfl)) ?_
        refine SWz.rd (i := 8) rfl rfl (Rd.subi rfl rfl ⟨by omega, by omega⟩) ?_
        refine SWz.rd (i := 9) rfl rfl (Rd.idxL (e := 79) 32 rfl rfl (by kernel_rfl) (by kernel_rfl) (by omega) (by simpa using hx)) ?_
        refine SWz.rd (i := 10) rfl rfl (Rd.loadPG 32 rfl (by kernel_rfl) (by decide) hxl (by simp)) ?_
        refine SWz.efb (i := 11) rfl (EfB.alloc (zs := cellsOf (List.replicate 32 0)) (by kernel_rfl) rfl) ?_ SWz.no
        rintro g13 _ rfl
        refine SWz.rd (i := 12) rfl rfl (Rd.assign rfl) ?_
        refine SWz.efe (i := 13) rfl (Ef.storeG 3 32 rfl rfl rfl (by kernel_rfl) (by first | assumption | (simp; done) | (simp; omega)) (by first | assumption | (simp; done) | (simp; omega)) (List.mem_append_right _ (List.mem_cons_self))) ?_ SWz.no
        rintro _ rfl
        refine SWz.nil ?_
        refine SN.then ?_
        refine SW.seq ?_
        refine SW.seq ?_
        refine SW.region ?_
        refine SWl.rd rfl (Rd.move rfl) ?_
        refine SWl.rd rfl (Rd.move rfl) ?_
        refine SWl.rd rfl (Rd.eqi rfl rfl) ?_
        refine SWl.nil ?_
        refine SN.then ?_
        refine SW.cond rfl (fun hb51 => ?_) (fun hb51 => ?_)
        · have hmn2 : m = n := by have := of_decide_eq_true hb51; omega
          refine SW.seq ?_
          refine SW.region ?_
          refine SWl.rd rfl (Rd.loadG 3 32 rfl rfl (by kernel_rfl) (by first | assumption | (simp; done) | (simp; omega)) ap_nil) ?_
          refine SWl.rd rfl (Rd.loadG 3 32 rfl rfl (by kernel_rfl) (by first | assumption | (simp; done) | (simp; omega)) ap_nil) ?_
          refine SWl.rd rfl (Rd.more (Rd.build rfl rfl (bldPr hxl hxl)) (le_agg_g _)) ?_
          refine SWl.rd rfl (Rd.move rfl) ?_
          refine SWl.rd rfl (Rd.lenR (e := 79) rfl (by kernel_rfl)) ?_
          refine SWl.rd rfl (Rd.eqi rfl rfl) ?_
          refine SWl.ef (S := [_]) (Ef.storeG 2 64 rfl rfl rfl (by kernel_rfl) (by first | assumption | (simp; done) | (simp; omega)) (by first | assumption | (simp; done) | (simp; omega)) (List.mem_singleton.2 rfl)) ?_
          rintro _ rfl
          refine SWl.rd rfl (Rd.assign rfl) ?_
          refine SWl.nil ?_
          refine SN.then ?_
          refine SW.retR (fn := Tryd.f61) (⟨((x.1, x.1), decide (((q.take (q.length - 1)).length : Int) = 0)), by first | exact absurd hmn2 hmn | (subst hmn2; exact CvOK.last h0 (by simp [hb25]) hx)⟩) [0, 1] (fun _ _ h => h) (Rs.le (Rs.two rfl (ResV.cellG (n := 64) 2 rfl rfl (by kernel_rfl) (by first | assumption | (simp; done) | (simp; omega))) (ResV.tmp rfl)) ?_) (by decide) ⟨⟨_, rfl, LeAll.refl _⟩, ⟨⟨_, rfl, LeAll.refl _⟩, trivial⟩⟩
          exact Le.tup ⟨le_agg_g _, Le.refl _, trivial⟩
        · have hmn2 : ¬ m = n := by have := of_decide_eq_false hb51; omega
          refine SW.skip ?_
          refine SN.then ?_
          refine SW.seq ?_
          refine SW.region ?_
          have hbl := Led.bl_spec (n := n) (by omega)
          refine SWl.rd rfl (Rd.move rfl) ?_
          refine SWl.ef (S := []) (Ef.callN [] (con_below n (by omega) (by omega)) rfl ⟨(sees_le (Le.refl _)), trivial⟩ rfl) ?_
          rintro _ rfl
          refine SWl.rd rfl (Rd.assign rfl) ?_
          refine SWl.nil ?_
          refine SN.then ?_
          refine SW.seq ?_
          refine SW.seq ?_
          refine SW.region ?_
          refine SWl.rd rfl (Rd.move rfl) ?_
          refine SWl.rd rfl (Rd.move rfl) ?_
          refine SWl.rd rfl (Rd.leq rfl rfl) ?_
          refine SWl.nil ?_
          refine SN.then ?_
          refine SW.cond rfl (fun hb62 => ?_) (fun hb62 => ?_)
          · have hlt : m ≤ Led.bl n := by have := of_decide_eq_true hb62; omega
            refine SW.seq ?_
            refine SW.region ?_
            refine SWl.rd rfl (Rd.loadB 0 rfl rfl rfl (by kernel_rfl) ap_nil) ?_
            refine SWl.rd rfl (Rd.move rfl) ?_
            refine SWl.rd rfl (Rd.move rfl) ?_
            refine SWl.rd rfl (Rd.move rfl) ?_
            refine SWl.rd rfl (Rd.move rfl) ?_
            refine SWl.ef (Ef.callVR (cap := [.pointer (some ⟨gp, 0, none⟩), .pointer (some ⟨gw, 0, none⟩)]) [0, 1] (ih m (Led.bl n) inner (q.take (q.length - 1)) (by omega) h0 hlt (by simp; omega)) rfl rfl ⟨Le.refl _, Le.refl _, Le.refl _, Le.refl _, Le.refl _, Le.refl _, trivial⟩ (by decide) ⟨⟨_, rfl, LeAll.refl _⟩, ⟨⟨_, rfl, LeAll.refl _⟩, trivial⟩⟩ (fun _ h => h) rfl) ?_
            rintro _ ⟨⟨t69, ht69⟩, rfl⟩
            have hl69 : t69.1.1.length = 32 := ht69.2.1
            have hm69 : t69.1.2.length = 32 := ht69.2.2
            refine SWl.rd rfl (Rd.move rfl) ?_
            refine SWl.rd rfl (Rd.extract rfl rfl) ?_
            refine SWl.rd rfl (Rd.extract rfl rfl) ?_
            refine SWl.ef (S := []) (Ef.alloc (zs := cellsOf (List.replicate 32 0 ++ List.replicate 32 0)) (by kernel_rfl) rfl) ?_
            rintro _ ⟨g15, rfl⟩
            refine SWl.ef (S := [_]) (Ef.storeG 4 64 rfl rfl rfl (by kernel_rfl) (by first | assumption | (simp; done) | (simp; omega)) (by first | assumption | (simp; done) | (simp; omega)) (List.mem_singleton.2 rfl)) ?_
            rintro _ rfl
            refine SWl.rd rfl (Rd.assign rfl) ?_
            refine SWl.nil ?_
            refine SN.then ?_
            refine SW.seq ?_
            refine SW.draw (g10 :: []) (.r 0 (.r 1 (.r 2 (.r 3 (.r 4 (.r 7 (.n 5 (.r 6 (.e 8 (.r 9 .fin) .no)) .no))))))) (by kernel_rfl) (by kernel_rfl) (fun d _ _ _ _ h => by cases d <;> exact h) ?_
            refine SWz.rd (i := 0) rfl rfl (Rd.fieldAddr (n := 0) rfl (by kernel_rfl)) ?_
            refine SWz.rd (i := 1) rfl rfl (Rd.load1 4 32 rfl rfl (by kernel_rfl) (by first | assumption | (simp; done) | (simp; omega)) (ap_cons 0 rfl (by decide) ap_nil)) ?_
            refine SWz.rd (i := 2) rfl rfl (Rd.fieldAddr (n := 32) rfl (by kernel_rfl)) ?_
            refine SWz.rd (i := 3) rfl rfl (Rd.load2 4 32 rfl rfl (by kernel_rfl) (by first | assumption | (simp; done) | (simp; omega)) (by first | assumption | (simp; done) | (simp; omega)) (ap_cons 0 rfl (by decide) ap_nil)) ?_
            refine SWz.rd (i := 4) rfl rfl (Rd.loadG 1 32 rfl rfl (by kernel_rfl) (by first | assumption | (simp; done) | (simp; omega)) (ap_cons 0 rfl (by decide) ap_nil)) ?_
            refine SWz.rd (i := 7) rfl rfl (Rd.move rfl) ?_
            refine SWz.efn (i := 5) rfl (Ef.callN [] (con_join _ _ hm69 hxl) rfl ⟨(sees_le (Le.refl _)), (sees_le (Le.refl _)), trivial⟩ rfl) ?_ SWz.no
            rintro _ rfl
            refine SWz.rd (i := 6) rfl rfl (Rd.more (Rd.build rfl rfl (bldPr hl69 (by simp))) (le_agg_g _)) ?_
            refine SWz.efe (i := 8) rfl (Ef.storeG 0 64 rfl rfl rfl (by kernel_rfl) (by first | assumption | (simp; done) | (simp; omega)) (by first | assumption | (simp; done) | (simp; omega)) (List.mem_cons_self)) ?_ SWz.no
            rintro _ rfl
            refine SWz.rd (i := 9) rfl rfl (Rd.assign rfl) ?_
            refine SWz.nil ?_
            refine SN.then ?_
            refine SW.retR (fn := Tryd.f61) (⟨((t69.1.1, Led.join HH t69.1.2 x.1), t69.2), CvOK.left h0 (by omega) hx hlt ht69⟩) [2, 3] (fun _ _ h => h) (Rs.le (Rs.two rfl (ResV.cellG (n := 64) 0 rfl rfl (by kernel_rfl) (by first | assumption | (simp; done) | (simp; omega))) (ResV.tmp rfl)) ?_) (by decide) ⟨⟨_, rfl, LeAll.refl _⟩, ⟨⟨_, rfl, LeAll.refl _⟩, trivial⟩⟩
            exact Le.tup ⟨le_agg_g _, Le.refl _, trivial⟩
          · have hlt : ¬ m ≤ Led.bl n := by have := of_decide_eq_false hb62; omega
            refine SW.skip ?_
            refine SN.then ?_
            refine SW.seq ?_
            refine SW.region ?_
            refine SWl.rd rfl (Rd.loadB 0 rfl rfl rfl (by kernel_rfl) ap_nil) ?_
            refine SWl.rd rfl (Rd.move rfl) ?_
            refine SWl.rd rfl (Rd.move rfl) ?_
            refine SWl.rd rfl (Rd.subi rfl rfl ⟨by omega, by omega⟩) ?_
            refine SWl.rd rfl (Rd.move rfl) ?_
            refine SWl.rd rfl (Rd.move rfl) ?_
            refine SWl.rd rfl (Rd.subi rfl rfl ⟨by omega, by omega⟩) ?_
            refine SWl.rd rfl (Rd.move rfl) ?_
            refine SWl.ef (Ef.callVR (cap := [.pointer (some ⟨gp, 0, none⟩), .pointer (some ⟨gw, 0, none⟩)]) [0, 1] (ih (m - Led.bl n) (n - Led.bl n) true (q.take (q.length - 1)) (by omega) (by omega) (by omega) (by simp; omega)) rfl rfl ⟨Le.is (by congr 1; omega), Le.is (by congr 1; omega), Le.refl _, Le.refl _, Le.refl _, Le.refl _, trivial⟩ (by decide) ⟨⟨_, rfl, LeAll.refl _⟩, ⟨⟨_, rfl, LeAll.refl _⟩, trivial⟩⟩ (fun _ h => h) rfl) ?_
            rintro _ ⟨⟨t89, ht89⟩, rfl⟩
            have hl89 : t89.1.1.length = 32 := ht89.2.1
            have hm89 : t89.1.2.length = 32 := ht89.2.2
            refine SWl.rd rfl (Rd.move rfl) ?_
            refine SWl.rd rfl (Rd.extract rfl rfl) ?_
            refine SWl.rd rfl (Rd.extract rfl rfl) ?_
            refine SWl.ef (S := []) (Ef.alloc (zs := cellsOf (List.replicate 32 0 ++ List.replicate 32 0)) (by kernel_rfl) rfl) ?_
            rintro _ ⟨g17, rfl⟩
            refine SWl.ef (S := [_]) (Ef.storeG 4 64 rfl rfl rfl (by kernel_rfl) (by first | assumption | (simp; done) | (simp; omega)) (by first | assumption | (simp; done) | (simp; omega)) (List.mem_singleton.2 rfl)) ?_
            rintro _ rfl
            refine SWl.rd rfl (Rd.assign rfl) ?_
            refine SWl.nil ?_
            refine SN.then ?_
            refine SW.seq ?_
            refine SW.draw (g10 :: []) (.r 0 (.r 1 (.r 2 (.r 4 (.r 5 (.r 6 (.r 9 (.n 3 (.n 7 (.r 8 (.e 10 (.r 11 .fin) .no)) .no) .no)))))))) (by kernel_rfl) (by kernel_rfl) (fun d _ _ _ _ h => by cases d <;> exact h) ?_
            refine SWz.rd (i := 0) rfl rfl (Rd.loadG 1 32 rfl rfl (by kernel_rfl) (by first | assumption | (simp; done) | (simp; omega)) (ap_cons 0 rfl (by decide) ap_nil)) ?_
            refine SWz.rd (i := 1) rfl rfl (Rd.fieldAddr (n := 0) rfl (by kernel_rfl)) ?_
            refine SWz.rd (i := 2) rfl rfl (Rd.load1 4 32 rfl rfl (by kernel_rfl) (by first | assumption | (simp; done) | (simp; omega)) (ap_cons 0 rfl (by decide) ap_nil)) ?_
            refine SWz.rd (i := 4) rfl rfl (Rd.loadG 1 32 rfl rfl (by kernel_rfl) (by first | assumption | (simp; done) | (simp; omega)) (ap_cons 0 rfl (by decide) ap_nil)) ?_
            refine SWz.rd (i := 5) rfl rfl (Rd.fieldAddr (n := 32) rfl (by kernel_rfl)) ?_
            refine SWz.rd (i := 6) rfl rfl (Rd.load2 4 32 rfl rfl (by kernel_rfl) (by first | assumption | (simp; done) | (simp; omega)) (by first | assumption | (simp; done) | (simp; omega)) (ap_cons 0 rfl (by decide) ap_nil)) ?_
            refine SWz.rd (i := 9) rfl rfl (Rd.move rfl) ?_
            refine SWz.efn (i := 3) rfl (Ef.callN [] (con_join _ _ hxl hl89) rfl ⟨(sees_le (Le.refl _)), (sees_le (Le.refl _)), trivial⟩ rfl) ?_ SWz.no
            rintro _ rfl
            refine SWz.efn (i := 7) rfl (Ef.callN [] (con_join _ _ hxl hm89) rfl ⟨(sees_le (Le.refl _)), (sees_le (Le.refl _)), trivial⟩ rfl) ?_ SWz.no
            rintro _ rfl
            refine SWz.rd (i := 8) rfl rfl (Rd.more (Rd.build rfl rfl (bldPr (by simp) (by simp))) (le_agg_g _)) ?_
            refine SWz.efe (i := 10) rfl (Ef.storeG 0 64 rfl rfl rfl (by kernel_rfl) (by first | assumption | (simp; done) | (simp; omega)) (by first | assumption | (simp; done) | (simp; omega)) (List.mem_cons_self)) ?_ SWz.no
            rintro _ rfl
            refine SWz.rd (i := 11) rfl rfl (Rd.assign rfl) ?_
            refine SWz.nil ?_
            refine SN.then ?_
            refine SW.retR (fn := Tryd.f61) (⟨((Led.join HH x.1 t89.1.1, Led.join HH x.1 t89.1.2), t89.2), CvOK.right h0 (by omega) hx hlt ht89⟩) [2, 3] (fun _ _ h => h) (Rs.le (Rs.two rfl (ResV.cellG (n := 64) 0 rfl rfl (by kernel_rfl) (by first | assumption | (simp; done) | (simp; omega))) (ResV.tmp rfl)) ?_) (by decide) ⟨⟨_, rfl, LeAll.refl _⟩, ⟨⟨_, rfl, LeAll.refl _⟩, trivial⟩⟩
            exact Le.tup ⟨le_agg_g _, Le.refl _, trivial⟩
  · have hmn : ¬ m = n := by have := of_decide_eq_false hb22; omega
    refine SWl.off rfl rfl (hb22) rfl rfl ?_
    refine SWl.off rfl rfl (hb22) rfl rfl ?_
    refine SWl.rd rfl (Rd.pickN rfl (hb22) rfl) ?_
    refine SWl.nil ?_
    refine SN.then ?_
    refine SW.condF rfl (rfl) ?_
    refine SW.skip ?_
    refine SN.then ?_
    refine SW.seq ?_
    refine SW.seq ?_
    refine SW.region ?_
    refine SWl.rd rfl (Rd.move rfl) ?_
    refine SWl.rd rfl (Rd.lenR (e := 79) rfl (by kernel_rfl)) ?_
    refine SWl.rd rfl (Rd.eqi rfl rfl) ?_
    refine SWl.nil ?_
    refine SN.then ?_
    refine SW.cond rfl (fun hb36 => ?_) (fun hb36 => ?_)
    · have hz : q = [] := List.eq_nil_of_length_eq_zero (by have := of_decide_eq_true hb36; omega)
      refine SW.seq ?_
      refine SW.region ?_
      refine SWl.rd rfl (Rd.more (Rd.build rfl rfl bldPr0) (le_agg_g _)) ?_
      refine SWl.ef (S := [_]) (Ef.storeG 2 64 rfl rfl rfl (by kernel_rfl) (by first | assumption | (simp; done) | (simp; omega)) (by first | assumption | (simp; done) | (simp; omega)) (List.mem_singleton.2 rfl)) ?_
      rintro _ rfl
      refine SWl.rd rfl (Rd.assign rfl) ?_
      refine SWl.nil ?_
      refine SN.then ?_
      refine SW.retR (fn := Tryd.f61) (⟨((List.replicate 32 0, List.replicate 32 0), false), by subst hz; exact CvOK.none old h0 hm (by rintro ⟨e, e2⟩; first | exact hmn e | simp [e2] at hb25)⟩) [0, 1] (fun _ _ h => h) (Rs.le (Rs.two rfl (ResV.cellG (n := 64) 2 rfl rfl (by kernel_rfl) (by first | assumption | (simp; done) | (simp; omega))) (ResV.tmp rfl)) ?_) (by decide) ⟨⟨_, rfl, LeAll.refl _⟩, ⟨⟨_, rfl, LeAll.refl _⟩, trivial⟩⟩
      exact Le.tup ⟨le_agg_g _, Le.refl _, trivial⟩
    · have hz : q.length ≠ 0 := by have := of_decide_eq_false hb36; omega
      refine SW.skip ?_
      refine SN.then ?_
      refine SW.seq ?_
      obtain ⟨x, hx⟩ : ∃ x, q[q.length - 1]? = some x := ⟨_, List.getElem?_eq_getElem (by omega)⟩
      have hxl : x.1.length = 32 := x.2
      refine SW.draw [] (.r 0 (.r 1 (.r 2 (.r 3 (.r 4 (.r 5 (.r 6 (.r 7 (.r 8 (.r 9 (.r 10 (.n 11 (.r 12 (.e 13 .fin .no)) .no)))))))))))) (by kernel_rfl) (by kernel_rfl) (fun d _ _ _ _ h => by cases d <;> exact h) ?_
      refine SWz.rd (i := 0) rfl rfl (Rd.move rfl) ?_
      refine SWz.rd (i := 1) rfl rfl (Rd.move rfl) ?_
      refine SWz.rd (i := 2) rfl rfl (Rd.lenR (e := 79) rfl (by kernel_rfl)) ?_
      refine SWz.rd (i := 3) rfl rfl (Rd.mono (Rd.subi rfl rfl ⟨by omega, by omega⟩) (show Le _ (iD ((q.length - 1 : Nat) : Int)) from Le.is (by congr 1; omega))) ?_
      refine SWz.rd (i := 4) rfl rfl (Rd.shL (e := 79) 32 rfl rfl (by kernel_rfl) (by kernel_rfl) (by omega)) ?_
      refine SWz.rd (i := 5) rfl rfl (Rd.move rfl) ?_
      refine SWz.rd (i := 6) rfl rfl (Rd.move rfl) ?_
      refine SWz.rd (i := 7) rfl rfl (Rd.lenR (e := 79) rfl (by kernel_rfl)) ?_
      refine SWz.rd (i := 8) rfl rfl (Rd.subi rfl rfl ⟨by omega, by omega⟩) ?_
      refine SWz.rd (i := 9) rfl rfl (Rd.idxL (e := 79) 32 rfl rfl (by kernel_rfl) (by kernel_rfl) (by omega) (by simpa using hx)) ?_
      refine SWz.rd (i := 10) rfl rfl (Rd.loadPG 32 rfl (by kernel_rfl) (by decide) hxl (by simp)) ?_
      refine SWz.efb (i := 11) rfl (EfB.alloc (zs := cellsOf (List.replicate 32 0)) (by kernel_rfl) rfl) ?_ SWz.no
      rintro g13 _ rfl
      refine SWz.rd (i := 12) rfl rfl (Rd.assign rfl) ?_
      refine SWz.efe (i := 13) rfl (Ef.storeG 3 32 rfl rfl rfl (by kernel_rfl) (by first | assumption | (simp; done) | (simp; omega)) (by first | assumption | (simp; done) | (simp; omega)) (List.mem_append_right _ (List.mem_cons_self))) ?_ SWz.no
      rintro _ rfl
      refine SWz.nil ?_
      refine SN.then ?_
      refine SW.seq ?_
      refine SW.seq ?_
      refine SW.region ?_
      refine SWl.rd rfl (Rd.move rfl) ?_
      refine SWl.rd rfl (Rd.move rfl) ?_
      refine SWl.rd rfl (Rd.eqi rfl rfl) ?_
      refine SWl.nil ?_
      refine SN.then ?_
      refine SW.cond rfl (fun hb51 => ?_) (fun hb51 => ?_)
      · have hmn2 : m = n := by have := of_decide_eq_true hb51; omega
        refine SW.seq ?_
        refine SW.region ?_
        refine SWl.rd rfl (Rd.loadG 3 32 rfl rfl (by kernel_rfl) (by first | assumption | (simp; done) | (simp; omega)) ap_nil) ?_
        refine SWl.rd rfl (Rd.loadG 3 32 rfl rfl (by kernel_rfl) (by first | assumption | (simp; done) | (simp; omega)) ap_nil) ?_
        refine SWl.rd rfl (Rd.more (Rd.build rfl rfl (bldPr hxl hxl)) (le_agg_g _)) ?_
        refine SWl.rd rfl (Rd.move rfl) ?_
        refine SWl.rd rfl (Rd.lenR (e := 79) rfl (by kernel_rfl)) ?_
        refine SWl.rd rfl (Rd.eqi rfl rfl) ?_
        refine SWl.ef (S := [_]) (Ef.storeG 2 64 rfl rfl rfl (by kernel_rfl) (by first | assumption | (simp; done) | (simp; omega)) (by first | assumption | (simp; done) | (simp; omega)) (List.mem_singleton.2 rfl)) ?_
        rintro _ rfl
        refine SWl.rd rfl (Rd.assign rfl) ?_
        refine SWl.nil ?_
        refine SN.then ?_
        refine SW.retR (fn := Tryd.f61) (⟨((x.1, x.1), decide (((q.take (q.length - 1)).length : Int) = 0)), by first | exact absurd hmn2 hmn | (subst hmn2; exact CvOK.last h0 (by simp [hb25]) hx)⟩) [0, 1] (fun _ _ h => h) (Rs.le (Rs.two rfl (ResV.cellG (n := 64) 2 rfl rfl (by kernel_rfl) (by first | assumption | (simp; done) | (simp; omega))) (ResV.tmp rfl)) ?_) (by decide) ⟨⟨_, rfl, LeAll.refl _⟩, ⟨⟨_, rfl, LeAll.refl _⟩, trivial⟩⟩
        exact Le.tup ⟨le_agg_g _, Le.refl _, trivial⟩
      · have hmn2 : ¬ m = n := by have := of_decide_eq_false hb51; omega
        refine SW.skip ?_
        refine SN.then ?_
        refine SW.seq ?_
        refine SW.region ?_
        have hbl := Led.bl_spec (n := n) (by omega)
        refine SWl.rd rfl (Rd.move rfl) ?_
        refine SWl.ef (S := []) (Ef.callN [] (con_below n (by omega) (by omega)) rfl ⟨(sees_le (Le.refl _)), trivial⟩ rfl) ?_
        rintro _ rfl
        refine SWl.rd rfl (Rd.assign rfl) ?_
        refine SWl.nil ?_
        refine SN.then ?_
        refine SW.seq ?_
        refine SW.seq ?_
        refine SW.region ?_
        refine SWl.rd rfl (Rd.move rfl) ?_
        refine SWl.rd rfl (Rd.move rfl) ?_
        refine SWl.rd rfl (Rd.leq rfl rfl) ?_
        refine SWl.nil ?_
        refine SN.then ?_
        refine SW.cond rfl (fun hb62 => ?_) (fun hb62 => ?_)
        · have hlt : m ≤ Led.bl n := by have := of_decide_eq_true hb62; omega
          refine SW.seq ?_
          refine SW.region ?_
          refine SWl.rd rfl (Rd.loadB 0 rfl rfl rfl (by kernel_rfl) ap_nil) ?_
          refine SWl.rd rfl (Rd.move rfl) ?_
          refine SWl.rd rfl (Rd.move rfl) ?_
          refine SWl.rd rfl (Rd.move rfl) ?_
          refine SWl.rd rfl (Rd.move rfl) ?_
          refine SWl.ef (Ef.callVR (cap := [.pointer (some ⟨gp, 0, none⟩), .pointer (some ⟨gw, 0, none⟩)]) [0, 1] (ih m (Led.bl n) inner (q.take (q.length - 1)) (by omega) h0 hlt (by simp; omega)) rfl rfl ⟨Le.refl _, Le.refl _, Le.refl _, Le.refl _, Le.refl _, Le.refl _, trivial⟩ (by decide) ⟨⟨_, rfl, LeAll.refl _⟩, ⟨⟨_, rfl, LeAll.refl _⟩, trivial⟩⟩ (fun _ h => h) rfl) ?_
          rintro _ ⟨⟨t69, ht69⟩, rfl⟩
          have hl69 : t69.1.1.length = 32 := ht69.2.1
          have hm69 : t69.1.2.length = 32 := ht69.2.2
          refine SWl.rd rfl (Rd.move rfl) ?_
          refine SWl.rd rfl (Rd.extract rfl rfl) ?_
          refine SWl.rd rfl (Rd.extract rfl rfl) ?_
          refine SWl.ef (S := []) (Ef.alloc (zs := cellsOf (List.replicate 32 0 ++ List.replicate 32 0)) (by kernel_rfl) rfl) ?_
          rintro _ ⟨g15, rfl⟩
          refine SWl.ef (S := [_]) (Ef.storeG 4 64 rfl rfl rfl (by kernel_rfl) (by first | assumption | (simp; done) | (simp; omega)) (by first | assumption | (simp; done) | (simp; omega)) (List.mem_singleton.2 rfl)) ?_
          rintro _ rfl
          refine SWl.rd rfl (Rd.assign rfl) ?_
          refine SWl.nil ?_
          refine SN.then ?_
          refine SW.seq ?_
          refine SW.draw (g10 :: []) (.r 0 (.r 1 (.r 2 (.r 3 (.r 4 (.r 7 (.n 5 (.r 6 (.e 8 (.r 9 .fin) .no)) .no))))))) (by kernel_rfl) (by kernel_rfl) (fun d _ _ _ _ h => by cases d <;> exact h) ?_
          refine SWz.rd (i := 0) rfl rfl (Rd.fieldAddr (n := 0) rfl (by kernel_rfl)) ?_
          refine SWz.rd (i := 1) rfl rfl (Rd.load1 4 32 rfl rfl (by kernel_rfl) (by first | assumption | (simp; done) | (simp; omega)) (ap_cons 0 rfl (by decide) ap_nil)) ?_
          refine SWz.rd (i := 2) rfl rfl (Rd.fieldAddr (n := 32) rfl (by kernel_rfl)) ?_
          refine SWz.rd (i := 3) rfl rfl (Rd.load2 4 32 rfl rfl (by kernel_rfl) (by first | assumption | (simp; done) | (simp; omega)) (by first | assumption | (simp; done) | (simp; omega)) (ap_cons 0 rfl (by decide) ap_nil)) ?_
          refine SWz.rd (i := 4) rfl rfl (Rd.loadG 1 32 rfl rfl (by kernel_rfl) (by first | assumption | (simp; done) | (simp; omega)) (ap_cons 0 rfl (by decide) ap_nil)) ?_
          refine SWz.rd (i := 7) rfl rfl (Rd.move rfl) ?_
          refine SWz.efn (i := 5) rfl (Ef.callN [] (con_join _ _ hm69 hxl) rfl ⟨(sees_le (Le.refl _)), (sees_le (Le.refl _)), trivial⟩ rfl) ?_ SWz.no
          rintro _ rfl
          refine SWz.rd (i := 6) rfl rfl (Rd.more (Rd.build rfl rfl (bldPr hl69 (by simp))) (le_agg_g _)) ?_
          refine SWz.efe (i := 8) rfl (Ef.storeG 0 64 rfl rfl rfl (by kernel_rfl) (by first | assumption | (simp; done) | (simp; omega)) (by first | assumption | (simp; done) | (simp; omega)) (List.mem_cons_self)) ?_ SWz.no
          rintro _ rfl
          refine SWz.rd (i := 9) rfl rfl (Rd.assign rfl) ?_
          refine SWz.nil ?_
          refine SN.then ?_
          refine SW.retR (fn := Tryd.f61) (⟨((t69.1.1, Led.join HH t69.1.2 x.1), t69.2), CvOK.left h0 (by omega) hx hlt ht69⟩) [2, 3] (fun _ _ h => h) (Rs.le (Rs.two rfl (ResV.cellG (n := 64) 0 rfl rfl (by kernel_rfl) (by first | assumption | (simp; done) | (simp; omega))) (ResV.tmp rfl)) ?_) (by decide) ⟨⟨_, rfl, LeAll.refl _⟩, ⟨⟨_, rfl, LeAll.refl _⟩, trivial⟩⟩
          exact Le.tup ⟨le_agg_g _, Le.refl _, trivial⟩
        · have hlt : ¬ m ≤ Led.bl n := by have := of_decide_eq_false hb62; omega
          refine SW.skip ?_
          refine SN.then ?_
          refine SW.seq ?_
          refine SW.region ?_
          refine SWl.rd rfl (Rd.loadB 0 rfl rfl rfl (by kernel_rfl) ap_nil) ?_
          refine SWl.rd rfl (Rd.move rfl) ?_
          refine SWl.rd rfl (Rd.move rfl) ?_
          refine SWl.rd rfl (Rd.subi rfl rfl ⟨by omega, by omega⟩) ?_
          refine SWl.rd rfl (Rd.move rfl) ?_
          refine SWl.rd rfl (Rd.move rfl) ?_
          refine SWl.rd rfl (Rd.subi rfl rfl ⟨by omega, by omega⟩) ?_
          refine SWl.rd rfl (Rd.move rfl) ?_
          refine SWl.ef (Ef.callVR (cap := [.pointer (some ⟨gp, 0, none⟩), .pointer (some ⟨gw, 0, none⟩)]) [0, 1] (ih (m - Led.bl n) (n - Led.bl n) true (q.take (q.length - 1)) (by omega) (by omega) (by omega) (by simp; omega)) rfl rfl ⟨Le.is (by congr 1; omega), Le.is (by congr 1; omega), Le.refl _, Le.refl _, Le.refl _, Le.refl _, trivial⟩ (by decide) ⟨⟨_, rfl, LeAll.refl _⟩, ⟨⟨_, rfl, LeAll.refl _⟩, trivial⟩⟩ (fun _ h => h) rfl) ?_
          rintro _ ⟨⟨t89, ht89⟩, rfl⟩
          have hl89 : t89.1.1.length = 32 := ht89.2.1
          have hm89 : t89.1.2.length = 32 := ht89.2.2
          refine SWl.rd rfl (Rd.move rfl) ?_
          refine SWl.rd rfl (Rd.extract rfl rfl) ?_
          refine SWl.rd rfl (Rd.extract rfl rfl) ?_
          refine SWl.ef (S := []) (Ef.alloc (zs := cellsOf (List.replicate 32 0 ++ List.replicate 32 0)) (by kernel_rfl) rfl) ?_
          rintro _ ⟨g17, rfl⟩
          refine SWl.ef (S := [_]) (Ef.storeG 4 64 rfl rfl rfl (by kernel_rfl) (by first | assumption | (simp; done) | (simp; omega)) (by first | assumption | (simp; done) | (simp; omega)) (List.mem_singleton.2 rfl)) ?_
          rintro _ rfl
          refine SWl.rd rfl (Rd.assign rfl) ?_
          refine SWl.nil ?_
          refine SN.then ?_
          refine SW.seq ?_
          refine SW.draw (g10 :: []) (.r 0 (.r 1 (.r 2 (.r 4 (.r 5 (.r 6 (.r 9 (.n 3 (.n 7 (.r 8 (.e 10 (.r 11 .fin) .no)) .no) .no)))))))) (by kernel_rfl) (by kernel_rfl) (fun d _ _ _ _ h => by cases d <;> exact h) ?_
          refine SWz.rd (i := 0) rfl rfl (Rd.loadG 1 32 rfl rfl (by kernel_rfl) (by first | assumption | (simp; done) | (simp; omega)) (ap_cons 0 rfl (by decide) ap_nil)) ?_
          refine SWz.rd (i := 1) rfl rfl (Rd.fieldAddr (n := 0) rfl (by kernel_rfl)) ?_
          refine SWz.rd (i := 2) rfl rfl (Rd.load1 4 32 rfl rfl (by kernel_rfl) (by first | assumption | (simp; done) | (simp; omega)) (ap_cons 0 rfl (by decide) ap_nil)) ?_
          refine SWz.rd (i := 4) rfl rfl (Rd.loadG 1 32 rfl rfl (by kernel_rfl) (by first | assumption | (simp; done) | (simp; omega)) (ap_cons 0 rfl (by decide) ap_nil)) ?_
          refine SWz.rd (i := 5) rfl rfl (Rd.fieldAddr (n := 32) rfl (by kernel_rfl)) ?_
          refine SWz.rd (i := 6) rfl rfl (Rd.load2 4 32 rfl rfl (by kernel_rfl) (by first | assumption | (simp; done) | (simp; omega)) (by first | assumption | (simp; done) | (simp; omega)) (ap_cons 0 rfl (by decide) ap_nil)) ?_
          refine SWz.rd (i := 9) rfl rfl (Rd.move rfl) ?_
          refine SWz.efn (i := 3) rfl (Ef.callN [] (con_join _ _ hxl hl89) rfl ⟨(sees_le (Le.refl _)), (sees_le (Le.refl _)), trivial⟩ rfl) ?_ SWz.no
          rintro _ rfl
          refine SWz.efn (i := 7) rfl (Ef.callN [] (con_join _ _ hxl hm89) rfl ⟨(sees_le (Le.refl _)), (sees_le (Le.refl _)), trivial⟩ rfl) ?_ SWz.no
          rintro _ rfl
          refine SWz.rd (i := 8) rfl rfl (Rd.more (Rd.build rfl rfl (bldPr (by simp) (by simp))) (le_agg_g _)) ?_
          refine SWz.efe (i := 10) rfl (Ef.storeG 0 64 rfl rfl rfl (by kernel_rfl) (by first | assumption | (simp; done) | (simp; omega)) (by first | assumption | (simp; done) | (simp; omega)) (List.mem_cons_self)) ?_ SWz.no
          rintro _ rfl
          refine SWz.rd (i := 11) rfl rfl (Rd.assign rfl) ?_
          refine SWz.nil ?_
          refine SN.then ?_
          refine SW.retR (fn := Tryd.f61) (⟨((Led.join HH x.1 t89.1.1, Led.join HH x.1 t89.1.2), t89.2), CvOK.right h0 (by omega) hx hlt ht89⟩) [2, 3] (fun _ _ h => h) (Rs.le (Rs.two rfl (ResV.cellG (n := 64) 0 rfl rfl (by kernel_rfl) (by first | assumption | (simp; done) | (simp; omega))) (ResV.tmp rfl)) ?_) (by decide) ⟨⟨_, rfl, LeAll.refl _⟩, ⟨⟨_, rfl, LeAll.refl _⟩, trivial⟩⟩
          exact Le.tup ⟨le_agg_g _, Le.refl _, trivial⟩
theorem con_cv (gw gp : Nat) (old new : List UInt8) (ho : old.length = 32) (hw : new.length = 32) : ∀ (n m : Nat) (inner : Bool) (q : List Dg), 0 < m → m ≤ n → n ≤ 4096 → q.length ≤ 1000000 → CvCon gw gp old new m n inner q := by
  intro n
  induction n using Nat.strongRecOn with
  | ind n ih =>
    intro m inner q h0 hm hn hq
    exact con_cv_step gw gp old new ho hw m n inner q h0 hm hn hq (fun m' n' inner' q' h h1 h2 h3 => ih n' h m' inner' q' h1 h2 (by omega) h3)
end Sx
end Go.Proofs.YtonjpfpdpfonnaaDoor
