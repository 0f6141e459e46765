/-
  LEDGERS: Include, its closure.
-/
import Derived.Test.YtonjpfpdpfonnaaDoorL26
namespace Go.Proofs.YtonjpfpdpfonnaaDoor
open Go.RowKit
namespace Sx
theorem bldG0 : Bld Tryd.prog 79 [] [] ((cellsOf (List.replicate 32 0)).map isD) := fun L w vs h => by
  obtain rfl := all0 h
  exact ⟨cellsOf (List.replicate 32 0), all_is _, fun w' => by kernel_rfl⟩
/-- What the ledger's own include returns. -/
def VerOK (i n : Nat) (d : List UInt8) (q : List Dg) (t : List UInt8 × Bool) : Prop := (Led.ver HH i n d (q.map (·.1)) = if t.2 = true then some t.1 else none) ∧ t.1.length = 32
theorem VerOK.one (i : Nat) {d : List UInt8} (q : List Dg) (hd : d.length = 32) : VerOK i 1 d q (d, decide ((q.length : Int) = 0)) :=
  ⟨by rw [Led.ver_one]; cases q <;> simp <;> omega, hd⟩
theorem VerOK.none {i n : Nat} (d : List UInt8) (h : 2 ≤ n) : VerOK i n d [] (List.replicate 32 0, false) :=
  ⟨by rw [Led.ver_step HH i d _ h]; simp, by simp⟩
theorem dg_last {q : List Dg} {x : Dg} (hx : q[q.length - 1]? = some x) : (q.map (·.1)).getLast? = some x.1 := by
  rw [List.getLast?_eq_getElem?, List.length_map, List.getElem?_map, hx]
  rfl
theorem dg_init (q : List Dg) : (q.take (q.length - 1)).map (·.1) = (q.map (·.1)).dropLast := by rw [List.dropLast_eq_take, List.map_take, List.length_map]
theorem VerOK.left {i n : Nat} {d : List UInt8} {x : Dg} {q : List Dg} {t : List UInt8 × Bool} (h : 2 ≤ n) (hx : q[q.length - 1]? = some x) (hi : i < Led.bl n) (ht : VerOK i (Led.bl n) d (q.take (q.length - 1)) t) : VerOK i n d q (Led.join HH t.1 x.1, t.2) := by
  obtain ⟨h1, h2⟩ := ht
  rw [dg_init] at h1
  refine ⟨?_, by simp⟩
  rw [Led.ver_step HH i d _ h, dg_last hx]
  simp only
  rw [if_pos hi, h1]
  split <;> rfl
theorem VerOK.right {i n : Nat} {d : List UInt8} {x : Dg} {q : List Dg} {t : List UInt8 × Bool} (h : 2 ≤ n) (hx : q[q.length - 1]? = some x) (hi : ¬ i < Led.bl n) (ht : VerOK (i - Led.bl n) (n - Led.bl n) d (q.take (q.length - 1)) t) : VerOK i n d q (Led.join HH x.1 t.1, t.2) := by
  obtain ⟨h1, h2⟩ := ht
  rw [dg_init] at h1
  refine ⟨?_, by simp⟩
  rw [Led.ver_step HH i d _ h, dg_last hx]
  simp only
  rw [if_neg hi, h1]
  split <;> rfl
abbrev verBx (gw ge : Nat) (e : Led.Ent) : List Box := [.c gw [isD (.func (.func 56) #[] #[pD ge, pD gw])], .c ge [iD e.kind, bD e.bytes]]
abbrev VerCon (gw ge : Nat) (e : Led.Ent) (i n : Nat) (q : List Dg) : Prop :=
  ConR Tryd.prog 56 (verBx gw ge e) [iD (i : Int), iD (n : Int), lsD encG q, isD (pD ge), isD (pD gw)] (fun _ : {t : List UInt8 × Bool // VerOK i n (Led.leaf HH e) q t} => verBx gw ge e) (fun t => tupD [gD t.1.1, boolD t.1.2])
set_option maxHeartbeats 4000000 in
set_option maxRecDepth 100000 in
theorem con_ver_step (gw ge : Nat) (e : Led.Ent) (hf : Led.Ent.fit e) (i n : Nat) (q : List Dg) (h0 : i < n) (hn : n ≤ 4096) (hq : q.length ≤ 1000000) (ih : ∀ (i' n' : Nat) (q' : List Dg), n' < n → i' < n' → q'.length ≤ 1000000 → VerCon gw ge e i' n' q') : ConR Tryd.prog 56 [.c gw [isD (.func (.func 56) #[] #[pD ge, pD gw])], .c ge [iD e.kind, bD e.bytes]] [iD (i : Int), iD (n : Int), lsD encG q, isD (pD ge), isD (pD gw)] (fun t : {t : List UInt8 × Bool // VerOK i n (Led.leaf HH e) q t} => [.c gw [isD (.func (.func 56) #[] #[pD ge, pD gw])], .c ge [iD e.kind, bD e.bytes]]) (fun t : {t : List UInt8 × Bool // VerOK i n (Led.leaf HH e) q t} => tupD [gD t.1.1, boolD t.1.2]) := by
  refine con_ofR Tryd.func56 (by kernel_rfl) rfl (by kernel_rfl) fun base w0 => ?_
  refine SW.seq ?_
  refine SW.region ?_
  refine SWl.ef (S := []) (Ef.alloc (zs := cellsOf (List.replicate 32 0)) (by kernel_rfl) rfl) ?_
  rintro _ ⟨g8, rfl⟩
  refine SWl.rd rfl (Rd.assign rfl) ?_
  refine SWl.nil ?_
  refine SN.then ?_
  refine SW.seq ?_
  refine SW.seq ?_
  refine SW.region ?_
  refine SWl.rd rfl (Rd.move rfl) ?_
  refine SWl.rd rfl (Rd.eqi rfl rfl) ?_
  refine SWl.nil ?_
  refine SN.then ?_
  refine SW.cond rfl (fun hb18 => ?_) (fun hb18 => ?_)
  · have h1 : n = 1 := by have := of_decide_eq_true hb18; omega
    refine SW.seq ?_
    unfold Led.Ent.fit at hf
    refine SW.region ?_
    refine SWl.rd rfl (Rd.loadA 1 2 rfl rfl (by kernel_rfl) rfl ap_nil) ?_
    refine SWl.ef (S := []) (Ef.callN [] (con_leaf e.kind e.bytes (by omega) ⟨hf.1, hf.2.1⟩) rfl ⟨(sees_agg ⟨(sees_le (Le.refl _)), (sees_le (Le.refl _)), trivial⟩), trivial⟩ rfl) ?_
    rintro _ rfl
    refine SWl.rd rfl (Rd.move rfl) ?_
    refine SWl.rd rfl (Rd.lenR (e := 79) rfl (by kernel_rfl)) ?_
    refine SWl.rd rfl (Rd.eqi rfl rfl) ?_
    refine SWl.ef (S := [_]) (Ef.storeG 2 32 rfl rfl rfl (by kernel_rfl) (by first | assumption | (simp; done) | (simp; omega)) (by first | assumption | (simp; done) | (simp; omega)) (List.mem_singleton.2 rfl)) ?_
    rintro _ rfl
    refine SWl.rd rfl (Rd.assign rfl) ?_
    refine SWl.nil ?_
    refine SN.then ?_
    refine SW.retR (fn := Tryd.f56) (⟨(Led.leaf HH e, decide ((q.length : Int) = 0)), by subst h1; exact VerOK.one i q (by simp)⟩) [0, 1] (fun _ _ h => h) (Rs.le (Rs.two rfl (ResV.cellG (n := 32) 2 rfl rfl (by kernel_rfl) (by first | assumption | (simp; done) | (simp; omega))) (ResV.tmp rfl)) ?_) (by decide) ⟨⟨_, rfl, LeAll.refl _⟩, ⟨⟨_, rfl, LeAll.refl _⟩, trivial⟩⟩
    exact Le.tup ⟨le_agg_g _, Le.refl _, trivial⟩
  · have h2 : 2 ≤ n := by have := of_decide_eq_false hb18; omega
    refine SW.skip ?_
    refine SN.then ?_
    refine SW.seq ?_
    refine SW.seq ?_
    refine SW.region ?_
    refine SWl.rd rfl (Rd.move rfl) ?_
    refine SWl.rd rfl (Rd.lenR (e := 79) rfl (by kernel_rfl)) ?_
    refine SWl.rd rfl (Rd.eqi rfl rfl) ?_
    refine SWl.nil ?_
    refine SN.then ?_
    refine SW.cond rfl (fun hb26 => ?_) (fun hb26 => ?_)
    · have hz : q = [] := List.eq_nil_of_length_eq_zero (by have := of_decide_eq_true hb26; omega)
      refine SW.seq ?_
      refine SW.region ?_
      refine SWl.rd rfl (Rd.more (Rd.build rfl rfl bldG0) (le_agg_g (List.replicate 32 0))) ?_
      refine SWl.ef (S := [_]) (Ef.storeG 2 32 rfl rfl rfl (by kernel_rfl) (by first | assumption | (simp; done) | (simp; omega)) (by first | assumption | (simp; done) | (simp; omega)) (List.mem_singleton.2 rfl)) ?_
      rintro _ rfl
      refine SWl.rd rfl (Rd.assign rfl) ?_
      refine SWl.nil ?_
      refine SN.then ?_
      refine SW.retR (fn := Tryd.f56) (⟨(List.replicate 32 0, false), by subst hz; exact VerOK.none _ h2⟩) [0, 1] (fun _ _ h => h) (Rs.le (Rs.two rfl (ResV.cellG (n := 32) 2 rfl rfl (by kernel_rfl) (by first | assumption | (simp; done) | (simp; omega))) (ResV.tmp rfl)) ?_) (by decide) ⟨⟨_, rfl, LeAll.refl _⟩, ⟨⟨_, rfl, LeAll.refl _⟩, trivial⟩⟩
      exact Le.tup ⟨le_agg_g _, Le.refl _, trivial⟩
    · have hz : q.length ≠ 0 := by have := of_decide_eq_false hb26; omega
      refine SW.skip ?_
      refine SN.then ?_
      refine SW.seq ?_
      obtain ⟨x, hx⟩ : ∃ x, q[q.length - 1]? = some x := ⟨_, List.getElem?_eq_getElem (by omega)⟩
      have hxl : x.1.length = 32 := x.2
      have hbl := Led.bl_spec h2
      unfold Led.Ent.fit at hf
      refine SW.meet (fun σ => ∃ g12, σ = St.ob [(0, iD (i : Int)), (1, iD (n : Int)), (3, isD (.pointer (some ⟨ge, 0, none⟩))), (4, isD (.pointer (some ⟨gw, 0, none⟩))), (8, isD (.pointer (some ⟨g8, 0, none⟩))), (9, boolD false), (10, iD (Led.bl n : Int)), (11, lsD encG (q.take (q.length - 1))), (12, isD (.pointer (some ⟨g12, 0, none⟩)))] [.c gw [isD (.func (.func 56) #[] #[pD ge, pD gw])], .c ge [iD e.kind, bD e.bytes], .c g8 ((cellsOf (List.replicate 32 0)).map isD), .c g12 ((cellsOf x.1).map isD)]) ?_ ?_
      · refine SW.draw [] (.r 0 (.r 2 (.r 3 (.r 4 (.r 5 (.r 6 (.r 7 (.r 8 (.r 9 (.r 10 (.r 11 (.r 12 (.n 1 (.n 13 (.r 14 (.r 15 (.e 16 .fin .no))) .no) (.n 13 (.n 1 (.r 14 (.r 15 (.e 16 .fin .no))) .no) .no)))))))))))))) (by kernel_rfl) (by kernel_rfl) (fun d _ _ _ _ h => by cases d <;> exact h) ?_
        refine SWz.rd (i := 0) rfl rfl (Rd.move rfl) ?_
        refine SWz.rd (i := 2) rfl rfl (Rd.move rfl) ?_
        refine SWz.rd (i := 3) rfl rfl (Rd.move rfl) ?_
        refine SWz.rd (i := 4) rfl rfl (Rd.lenR (e := 79) rfl (by kernel_rfl)) ?_
        refine SWz.rd (i := 5) rfl rfl (Rd.mono (Rd.subi rfl rfl ⟨by omega, by omega⟩) (show Le _ (iD ((q.length - 1 : Nat) : Int)) from Le.is (by congr 1; omega))) ?_
        refine SWz.rd (i := 6) rfl rfl (Rd.shL (e := 79) 32 rfl rfl (by kernel_rfl) (by kernel_rfl) (by omega)) ?_
        refine SWz.rd (i := 7) rfl rfl (Rd.move rfl) ?_
        refine SWz.rd (i := 8) rfl rfl (Rd.move rfl) ?_
        refine SWz.rd (i := 9) rfl rfl (Rd.lenR (e := 79) rfl (by kernel_rfl)) ?_
        refine SWz.rd (i := 10) rfl rfl (Rd.subi rfl rfl ⟨by omega, by omega⟩) ?_
        refine SWz.rd (i := 11) rfl rfl (Rd.idxL (e := 79) 32 rfl rfl (by kernel_rfl) (by kernel_rfl) (by omega) (by simpa using hx)) ?_
        refine SWz.rd (i := 12) rfl rfl (Rd.loadPG 32 rfl (by kernel_rfl) (by decide) x.2 (by simp)) ?_
        refine SWz.efn (i := 1) rfl (Ef.callN [] (con_below n h2 (by omega)) rfl ⟨(sees_le (Le.refl _)), trivial⟩ rfl) ?_ ?_
        · rintro _ rfl
          refine SWz.efb (i := 13) rfl (EfB.alloc (zs := cellsOf (List.replicate 32 0)) (by kernel_rfl) rfl) ?_ SWz.no
          rintro g12 _ rfl
          refine SWz.rd (i := 14) rfl rfl (Rd.assign rfl) ?_
          refine SWz.rd (i := 15) rfl rfl (Rd.assign rfl) ?_
          refine SWz.efe (i := 16) rfl (Ef.storeG 3 32 rfl rfl rfl (by kernel_rfl) (by first | assumption | (simp; done) | (simp; omega)) (by first | assumption | (simp; done) | (simp; omega)) (List.mem_append_right _ (List.mem_cons_self))) ?_ SWz.no
          rintro _ rfl
          refine SWz.nil ?_
          exact SN.meet ⟨g12, rfl⟩ (⟨⟨_, rfl, ⟨⟨_, rfl, Le.refl _⟩, ⟨⟨_, rfl, Le.refl _⟩, ⟨⟨_, rfl, Le.refl _⟩, ⟨⟨_, rfl, Le.refl _⟩, ⟨⟨_, rfl, Le.refl _⟩, ⟨⟨_, rfl, Le.refl _⟩, ⟨⟨_, rfl, Le.refl _⟩, ⟨⟨_, rfl, Le.refl _⟩, ⟨⟨_, rfl, Le.refl _⟩, trivial⟩⟩⟩⟩⟩⟩⟩⟩⟩⟩, [0, 1, 2, 3], by decide, ⟨⟨_, rfl, LeAll.refl _⟩, ⟨⟨_, rfl, LeAll.refl _⟩, ⟨⟨_, rfl, LeAll.refl _⟩, ⟨⟨_, rfl, LeAll.refl _⟩, trivial⟩⟩⟩⟩⟩)
        refine SWz.efb (i := 13) rfl (EfB.alloc (zs := cellsOf (List.replicate 32 0)) (by kernel_rfl) rfl) ?_ SWz.no
        rintro g12 _ rfl
        refine SWz.efn (i := 1) rfl (Ef.callN [] (con_below n h2 (by omega)) rfl ⟨(sees_le (Le.refl _)), trivial⟩ rfl) ?_ SWz.no
        rintro _ rfl
        refine SWz.rd (i := 14) rfl rfl (Rd.assign rfl) ?_
        refine SWz.rd (i := 15) rfl rfl (Rd.assign rfl) ?_
        refine SWz.efe (i := 16) rfl (Ef.storeG 3 32 rfl rfl rfl (by kernel_rfl) (by first | assumption | (simp; done) | (simp; omega)) (by first | assumption | (simp; done) | (simp; omega)) (List.mem_append_right _ (List.mem_cons_self))) ?_ SWz.no
        rintro _ rfl
        refine SWz.nil ?_
        exact SN.meet ⟨g12, rfl⟩ (⟨⟨_, rfl, ⟨⟨_, rfl, Le.refl _⟩, ⟨⟨_, rfl, Le.refl _⟩, ⟨⟨_, rfl, Le.refl _⟩, ⟨⟨_, rfl, Le.refl _⟩, ⟨⟨_, rfl, Le.refl _⟩, ⟨⟨_, rfl, Le.refl _⟩, ⟨⟨_, rfl, Le.refl _⟩, ⟨⟨_, rfl, Le.refl _⟩, ⟨⟨_, rfl, Le.refl _⟩, trivial⟩⟩⟩⟩⟩⟩⟩⟩⟩⟩, [0, 1, 2, 3], by decide, ⟨⟨_, rfl, LeAll.refl _⟩, ⟨⟨_, rfl, LeAll.refl _⟩, ⟨⟨_, rfl, LeAll.refl _⟩, ⟨⟨_, rfl, LeAll.refl _⟩, trivial⟩⟩⟩⟩⟩)
      · rintro _ ⟨g12, rfl⟩
        refine SN.then ?_
        refine SW.seq ?_
        refine SW.seq ?_
        refine SW.region ?_
        refine SWl.rd rfl (Rd.move rfl) ?_
        refine SWl.rd rfl (Rd.move rfl) ?_
        refine SWl.rd rfl (Rd.lss rfl rfl) ?_
        refine SWl.nil ?_
        refine SN.then ?_
        refine SW.cond rfl (fun hb43 => ?_) (fun hb43 => ?_)
        · have hlt : i < Led.bl n := by have := of_decide_eq_true hb43; omega
          refine SW.seq ?_
          refine SW.region ?_
          refine SWl.rd rfl (Rd.loadB 0 rfl rfl rfl (by kernel_rfl) ap_nil) ?_
          refine SWl.rd rfl (Rd.move rfl) ?_
          refine SWl.rd rfl (Rd.move rfl) ?_
          refine SWl.rd rfl (Rd.move rfl) ?_
          refine SWl.ef (Ef.callVR (cap := [.pointer (some ⟨ge, 0, none⟩), .pointer (some ⟨gw, 0, none⟩)]) [0, 1] (ih i (Led.bl n) (q.take (q.length - 1)) (by omega) hlt (by simp; omega)) rfl rfl ⟨Le.refl _, Le.refl _, Le.refl _, Le.refl _, Le.refl _, trivial⟩ (by decide) ⟨⟨_, rfl, LeAll.refl _⟩, ⟨⟨_, rfl, LeAll.refl _⟩, trivial⟩⟩ (fun _ h => h) rfl) ?_
          rintro _ ⟨⟨t49, ht49⟩, rfl⟩
          have hl49 : t49.1.length = 32 := ht49.2
          refine SWl.rd rfl (Rd.move rfl) ?_
          refine SWl.rd rfl (Rd.extract rfl rfl) ?_
          refine SWl.rd rfl (Rd.extract rfl rfl) ?_
          refine SWl.ef (S := []) (Ef.alloc (zs := cellsOf (List.replicate 32 0)) (by kernel_rfl) rfl) ?_
          rintro _ ⟨g13, rfl⟩
          refine SWl.ef (S := [_]) (Ef.storeG 4 32 rfl rfl rfl (by kernel_rfl) (by first | assumption | (simp; done) | (simp; omega)) (by first | assumption | (simp; done) | (simp; omega)) (List.mem_singleton.2 rfl)) ?_
          rintro _ rfl
          refine SWl.rd rfl (Rd.assign rfl) ?_
          refine SWl.nil ?_
          refine SN.then ?_
          refine SW.seq ?_
          refine SW.region ?_
          refine SWl.rd rfl (Rd.loadG 4 32 rfl rfl (by kernel_rfl) (by first | assumption | (simp; done) | (simp; omega)) ap_nil) ?_
          refine SWl.rd rfl (Rd.loadG 1 32 rfl rfl (by kernel_rfl) (by first | assumption | (simp; done) | (simp; omega)) ap_nil) ?_
          refine SWl.ef (S := []) (Ef.callN [] (con_join _ _ ht49.2 x.2) rfl ⟨(sees_le (Le.refl _)), (sees_le (Le.refl _)), trivial⟩ rfl) ?_
          rintro _ rfl
          refine SWl.rd rfl (Rd.move rfl) ?_
          refine SWl.ef (S := [_]) (Ef.storeG 0 32 rfl rfl rfl (by kernel_rfl) (by first | assumption | (simp; done) | (simp; omega)) (by first | assumption | (simp; done) | (simp; omega)) (List.mem_singleton.2 rfl)) ?_
          rintro _ rfl
          refine SWl.rd rfl (Rd.assign rfl) ?_
          refine SWl.nil ?_
          refine SN.then ?_
          refine SW.retR (fn := Tryd.f56) (⟨(Led.join HH t49.1 x.1, t49.2), VerOK.left h2 hx hlt ht49⟩) [2, 3] (fun _ _ h => h) (Rs.le (Rs.two rfl (ResV.cellG (n := 32) 0 rfl rfl (by kernel_rfl) (by first | assumption | (simp; done) | (simp; omega))) (ResV.tmp rfl)) ?_) (by decide) ⟨⟨_, rfl, LeAll.refl _⟩, ⟨⟨_, rfl, LeAll.refl _⟩, trivial⟩⟩
          exact Le.tup ⟨le_agg_g _, Le.refl _, trivial⟩
        · have hlt : ¬ i < Led.bl n := by have := of_decide_eq_false hb43; omega
          refine SW.skip ?_
          refine SN.then ?_
          refine SW.seq ?_
          refine SW.region ?_
          refine SWl.rd rfl (Rd.loadB 0 rfl rfl rfl (by kernel_rfl) ap_nil) ?_
          refine SWl.rd rfl (Rd.move rfl) ?_
          refine SWl.rd rfl (Rd.move rfl) ?_
          refine SWl.rd rfl (Rd.subi rfl rfl ⟨by omega, by omega⟩) ?_
          refine SWl.rd rfl (Rd.move rfl) ?_
          refine SWl.rd rfl (Rd.move rfl) ?_
          refine SWl.rd rfl (Rd.subi rfl rfl ⟨by omega, by omega⟩) ?_
          refine SWl.rd rfl (Rd.move rfl) ?_
          refine SWl.ef (Ef.callVR (cap := [.pointer (some ⟨ge, 0, none⟩), .pointer (some ⟨gw, 0, none⟩)]) [0, 1] (ih (i - Led.bl n) (n - Led.bl n) (q.take (q.length - 1)) (by omega) (by omega) (by simp; omega)) rfl rfl ⟨Le.is (by congr 1; omega), Le.is (by congr 1; omega), Le.refl _, Le.refl _, Le.refl _, trivial⟩ (by decide) ⟨⟨_, rfl, LeAll.refl _⟩, ⟨⟨_, rfl, LeAll.refl _⟩, trivial⟩⟩ (fun _ h => h) rfl) ?_
          rintro _ ⟨⟨t65, ht65⟩, rfl⟩
          have hl65 : t65.1.length = 32 := ht65.2
          refine SWl.rd rfl (Rd.move rfl) ?_
          refine SWl.rd rfl (Rd.extract rfl rfl) ?_
          refine SWl.rd rfl (Rd.extract rfl rfl) ?_
          refine SWl.ef (S := []) (Ef.alloc (zs := cellsOf (List.replicate 32 0)) (by kernel_rfl) rfl) ?_
          rintro _ ⟨g15, rfl⟩
          refine SWl.ef (S := [_]) (Ef.storeG 4 32 rfl rfl rfl (by kernel_rfl) (by first | assumption | (simp; done) | (simp; omega)) (by first | assumption | (simp; done) | (simp; omega)) (List.mem_singleton.2 rfl)) ?_
          rintro _ rfl
          refine SWl.rd rfl (Rd.assign rfl) ?_
          refine SWl.nil ?_
          refine SN.then ?_
          refine SW.seq ?_
          refine SW.region ?_
          refine SWl.rd rfl (Rd.loadG 1 32 rfl rfl (by kernel_rfl) (by first | assumption | (simp; done) | (simp; omega)) ap_nil) ?_
          refine SWl.rd rfl (Rd.loadG 4 32 rfl rfl (by kernel_rfl) (by first | assumption | (simp; done) | (simp; omega)) ap_nil) ?_
          refine SWl.ef (S := []) (Ef.callN [] (con_join _ _ x.2 ht65.2) rfl ⟨(sees_le (Le.refl _)), (sees_le (Le.refl _)), trivial⟩ rfl) ?_
          rintro _ rfl
          refine SWl.rd rfl (Rd.move rfl) ?_
          refine SWl.ef (S := [_]) (Ef.storeG 0 32 rfl rfl rfl (by kernel_rfl) (by first | assumption | (simp; done) | (simp; omega)) (by first | assumption | (simp; done) | (simp; omega)) (List.mem_singleton.2 rfl)) ?_
          rintro _ rfl
          refine SWl.rd rfl (Rd.assign rfl) ?_
          refine SWl.nil ?_
          refine SN.then ?_
          refine SW.retR (fn := Tryd.f56) (⟨(Led.join HH x.1 t65.1, t65.2), VerOK.right h2 hx hlt ht65⟩) [2, 3] (fun _ _ h => h) (Rs.le (Rs.two rfl (ResV.cellG (n := 32) 0 rfl rfl (by kernel_rfl) (by first | assumption | (simp; done) | (simp; omega))) (ResV.tmp rfl)) ?_) (by decide) ⟨⟨_, rfl, LeAll.refl _⟩, ⟨⟨_, rfl, LeAll.refl _⟩, trivial⟩⟩
          exact Le.tup ⟨le_agg_g _, Le.refl _, trivial⟩
theorem con_ver (gw ge : Nat) (e : Led.Ent) (hf : Led.Ent.fit e) : ∀ (n i : Nat) (q : List Dg), i < n → n ≤ 4096 → q.length ≤ 1000000 → VerCon gw ge e i n q := by
  intro n
  induction n using Nat.strongRecOn with
  | ind n ih =>
    intro i q h0 hn hq
    exact con_ver_step gw ge e hf i n q h0 hn hq (fun i' n' q' h h' h2 => ih n' h i' q' h' (by omega) h2)
end Sx
end Go.Proofs.YtonjpfpdpfonnaaDoor
