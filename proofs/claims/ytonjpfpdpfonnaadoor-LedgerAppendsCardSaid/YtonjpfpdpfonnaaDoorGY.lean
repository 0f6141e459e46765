/-
  LEDGERS: the walk of an inclusion path.
  LEDGERS: Consistency.
  LEDGERS: the reference, digests.
  LEDGERS: the reference, paths.
-/
import Derived.Test.YtonjpfpdpfonnaaDoorGX
import Derived.Test.YtonjpfpdpfonnaaDoorGU
namespace Go.Proofs.YtonjpfpdpfonnaaDoor
open Go.RowKit
namespace Sx
/-- Where a slice of one's own lies. -/
structure Vst where
  A : Option Addr
  c : Nat
  F : List Nat
/-- A digest of a path, new since n0. -/
def encLn (n0 : Nat) (d : List UInt8) : List D := [nwD n0 (bD d)]
instance (n0 : Nat) : Row (encLn n0) 1 := ⟨fun _ => rfl, fun x => by unfold encLn; infer_instance, by decide⟩
theorem blsL1 (n0 : Nat) (d : List UInt8) : Bls Tryd.prog 32 1 [0] [nwD n0 (bD d)] ([d].flatMap (encLn n0)) := ⟨28, fun L w vs hv => by
  obtain ⟨u, rfl, hu⟩ := all1 hv
  obtain ⟨A, c, e, -⟩ := le_nw _ _ _ hu
  subst e
  exact ⟨[.slice A _ c], ⟨hu, trivial⟩, fun w' => by kernel_rfl⟩⟩
abbrev digB (s : Vst) (n0 : Nat) (l : List (List UInt8)) : Box := .r s.F (vecT 28 1 (encLn n0) s.A s.c l)
abbrev pD (g : Nat) : Value := .pointer (some ⟨g, 0, none⟩)
abbrev IncB (fw fa : Nat) (cw : Array Value) (gw ga glp gp n0 : Nat) (es : List Led.Ent) (s : Vst) (l : List (List UInt8)) : List Box := [.c gw [isD (.func (.func fw) #[] cw)], .c ga [isD (.func (.func fa) #[] #[pD gp])], .c glp [ledD es], .c gp [isD (.slice s.A l.length s.c)], digB s n0 l, .r [] (geR n0)]
/-- The walk of an inclusion path. -/
abbrev IncCon (gw ga glp gp n0 : Nat) (es : List Led.Ent) (low i n : Nat) (l l' : List (List UInt8)) (s : Vst) : Prop :=
  ConR Tryd.prog 39 (IncB 39 38 #[pD gw, pD ga, pD glp] gw ga glp gp n0 es s l) [iD (low : Int), iD (i : Int), iD (n : Int), isD (pD gw), isD (pD ga), isD (pD glp)]
    (fun s' : Vst => IncB 39 38 #[pD gw, pD ga, pD glp] gw ga glp gp n0 es s' l') (fun _ => isD (.tuple #[]))
theorem sub_len {es : List Led.Ent} {low n : Nat} (h : low + n ≤ es.length) : ((es.drop low).take n).length = n := by simp; omega
theorem incl_sub_one {es : List Led.Ent} {low : Nat} (i : Nat) : Led.incl HH ((es.drop low).take 1) i = [] := Led.incl_one HH i (by simp; omega)
theorem incl_sub {es : List Led.Ent} {low n : Nat} (i : Nat) (h2 : 2 ≤ n) (h : low + n ≤ es.length) : Led.incl HH ((es.drop low).take n) i = if i < Led.bl n then Led.incl HH ((es.drop low).take (Led.bl n)) i ++ [Led.spn HH es (low + Led.bl n) (n - Led.bl n)] else Led.incl HH ((es.drop (low + Led.bl n)).take (n - Led.bl n)) (i - Led.bl n) ++ [Led.spn HH es low (Led.bl n)] := by
  have hb := Led.bl_spec h2
  rw [Led.incl_step HH i (by rw [sub_len h]; exact h2), sub_len h]
  have e1 : ((es.drop low).take n).take (Led.bl n) = (es.drop low).take (Led.bl n) := by rw [List.take_take]; congr 1; omega
  have e2 : ((es.drop low).take n).drop (Led.bl n) = (es.drop (low + Led.bl n)).take (n - Led.bl n) := by rw [List.drop_take, List.drop_drop]
  rw [e1, e2]
  rfl
theorem incl_le : ∀ (n : Nat) (l : List Led.Ent) (i : Nat), l.length ≤ n → (Led.incl HH l i).length ≤ l.length := by
  intro n
  induction n with
  | zero => intro l i h; rw [Led.incl_one HH i (by omega)]; simp
  | succ n ih =>
    intro l i h
    by_cases h2 : 2 ≤ l.length
    · have hb := Led.bl_spec h2
      have h1 := ih (l.take (Led.bl l.length)) i (by simp; omega)
      have h3 := ih (l.drop (Led.bl l.length)) (i - Led.bl l.length) (by simp; omega)
      simp only [List.length_take, List.length_drop] at h1 h3
      rw [Led.incl_step HH i h2]
      split <;> simp <;> omega
    · rw [Led.incl_one HH i (by omega)]; simp
theorem incl_sub_le (es : List Led.Ent) (low n i : Nat) : (Led.incl HH ((es.drop low).take n) i).length ≤ n := Nat.le_trans (incl_le _ _ _ (Nat.le_refl _)) (by simp; omega)
set_option maxHeartbeats 4000000 in
set_option maxRecDepth 100000 in
theorem con_incl1 (gp n0 : Nat) (s : Vst) (l : List (List UInt8)) (d : List UInt8) (hd : d.length = 32) (hl : l.length ≤ 100000) : ConR Tryd.prog 38 [.c gp [isD (.slice s.A (l).length s.c)], digB s n0 (l), .r [] (geR n0)] [gD d, isD (pD gp)] (fun t : Vst => [.c gp [isD (.slice t.A (l ++ [d]).length t.c)], digB t n0 (l ++ [d]), .r [] (geR n0)]) (fun t : Vst => isD (.tuple #[])) := by
  refine con_ofRK Tryd.func38 (by kernel_rfl) rfl (by kernel_rfl) fun base w0 hpre => ?_
  have hge := ge_of hpre 2 rfl
  refine SW.seq ?_
  refine SW.region ?_
  refine SWl.ef (S := []) (Ef.boxL rfl (le_g_agg _) rfl) ?_
  rintro _ ⟨g2, rfl⟩
  refine SWl.nil ?_
  refine SN.then ?_
  refine SW.draw (s.F ++ (gp :: [])) (.r 0 (.q 1 (.r 2 (.n 3 (.n 4 (.e 5 (.r 6 (.e 7 .fin .no)) .no) .no) .no)))) (by kernel_rfl) (by kernel_rfl) (fun d _ _ _ _ h => by cases d <;> exact h) ?_
  refine SWz.rd (i := 0) rfl rfl (Rd.fieldAddr (n := 0) rfl (by kernel_rfl)) ?_
  refine SWz.rq (i := 1) rfl rfl (Rd.loadB 0 rfl rfl rfl (by kernel_rfl) ap_nil) ?_
  refine SWz.rd (i := 2) rfl rfl (Rd.slArr (e := 5) (n := 32) rfl (by kernel_rfl) (by kernel_rfl)) ?_
  refine SWz.efn (i := 3) rfl (Ef.callNL [3] (con_cloneB _ (by omega)) rfl ⟨(sees_digest 3 rfl (by decide) (by first | assumption | simp)), trivial⟩ (le_nw_mono hge (Le.refl _)) rfl) ?_ SWz.no
  rintro _ rfl
  refine SWz.efn (i := 4) rfl (Ef.litR rfl rfl (blsL1 n0 d) rfl) ?_ SWz.no
  rintro _ rfl
  refine SWz.efe (i := 5) rfl (Ef.appT 1 1 24 rfl rfl (SrcT.ls (l := [_]) rfl) (by kernel_rfl) (by kernel_rfl) (by simp <;> omega) (by decide) (fun _ h => List.mem_append_left _ h) rfl) ?_ SWz.no
  rintro _ ⟨A8, F8, c8, rfl⟩
  refine SWz.rd (i := 6) rfl rfl (Rd.fieldAddr (n := 0) rfl (by kernel_rfl)) ?_
  refine SWz.efe (i := 7) rfl (Ef.storeV 0 rfl rfl rfl (by kernel_rfl) rfl ((List.mem_append_right _ List.mem_cons_self))) ?_ SWz.no
  rintro _ rfl
  refine SWz.nil ?_
  refine SN.retR (fn := Tryd.f38) (⟨A8, c8, F8⟩) [0, 3, 1] (Rs.none rfl) (by decide) ⟨⟨_, rfl, LeAll.refl _⟩, ⟨⟨_, rfl, LeR.refl _⟩, ⟨⟨_, rfl, LeR.refl _⟩, trivial⟩⟩⟩
set_option maxHeartbeats 4000000 in
set_option maxRecDepth 100000 in
theorem con_incl2_step (gw ga glp gp n0 : Nat) (es : List Led.Ent) (hn : es.length ≤ 100000) (low i n : Nat) (l l' : List (List UInt8)) (s : Vst) (hi : i < n) (h : low + n ≤ es.length) (hl : l.length + n ≤ 100000) (hl' : l' = l ++ Led.incl HH ((es.drop low).take n) i) (ih : ∀ m low' i' l1 l2 s', m < n → i' < m → low' + m ≤ es.length → l1.length + m ≤ 100000 → l2 = l1 ++ Led.incl HH ((es.drop low').take m) i' → IncCon gw ga glp gp n0 es low' i' m l1 l2 s') : ConR Tryd.prog 39 [.c gw [isD (.func (.func 39) #[] #[pD gw, pD ga, pD glp])], .c ga [isD (.func (.func 38) #[] #[pD gp])], .c glp [ledD es], .c gp [isD (.slice s.A (l).length s.c)], digB s n0 (l), .r [] (geR n0)] [iD (low : Int), iD (i : Int), iD (n : Int), isD (pD gw), isD (pD ga), isD (pD glp)] (fun t : Vst => [.c gw [isD (.func (.func 39) #[] #[pD gw, pD ga, pD glp])], .c ga [isD (.func (.func 38) #[] #[pD gp])], .c glp [ledD es], .c gp [isD (.slice t.A (l').length t.c)], digB t n0 (l'), .r [] (geR n0)]) (fun t : Vst => isD (.tuple #[])) := by
  refine con_ofR Tryd.func39 (by kernel_rfl) rfl (by kernel_rfl) fun base w0 => ?_
  refine SW.seq ?_
  refine SW.seq ?_
  refine SW.region ?_
  refine SWl.rd rfl (Rd.move rfl) ?_
  refine SWl.rd rfl (Rd.eqi rfl rfl) ?_
  refine SWl.nil ?_
  refine SN.then ?_
  refine SW.cond rfl (fun hb11 => ?_) (fun hb11 => ?_)
  · have hz : n = 1 := by have := of_decide_eq_true hb11; omega
    refine SW.retR (fn := Tryd.f39) (s) [0, 1, 2, 3, 4, 5] (fun _ _ h => h) (Rs.none rfl) (by decide) ⟨⟨_, rfl, LeAll.refl _⟩, ⟨⟨_, rfl, LeAll.refl _⟩, ⟨⟨_, rfl, LeAll.refl _⟩, ⟨⟨_, rfl, ⟨Le.is (by rw [hl', hz, incl_sub_one, List.append_nil]), trivial⟩⟩, ⟨⟨_, rfl, leVec (by rw [hl', hz, incl_sub_one, List.append_nil]) (by rw [hl', hz, incl_sub_one, List.append_nil])⟩, ⟨⟨_, rfl, LeR.refl _⟩, trivial⟩⟩⟩⟩⟩⟩
  · have hz : 2 ≤ n := by have := of_decide_eq_false hb11; omega
    refine SW.skip ?_
    refine SN.then ?_
    refine SW.seq ?_
    refine SW.region ?_
    refine SWl.rd rfl (Rd.move rfl) ?_
    have hbl := Led.bl_spec hz
    refine SWl.ef (S := []) (Ef.callN [] (con_below n hz (by omega)) rfl ⟨(sees_le (Le.refl _)), trivial⟩ rfl) ?_
    rintro _ rfl
    refine SWl.rd rfl (Rd.assign rfl) ?_
    refine SWl.nil ?_
    refine SN.then ?_
    refine SW.seq ?_
    refine SW.seq ?_
    refine SW.region ?_
    refine SWl.rd rfl (Rd.move rfl) ?_
    refine SWl.rd rfl (Rd.move rfl) ?_
    refine SWl.rd rfl (Rd.lss rfl rfl) ?_
    refine SWl.nil ?_
    refine SN.then ?_
    refine SW.cond rfl (fun hb16 => ?_) (fun hb16 => ?_)
    · have hlt : i < Led.bl n := by have := of_decide_eq_true hb16; omega
      refine SW.seq ?_
      refine SW.region ?_
      refine SWl.rd rfl (Rd.loadB 0 rfl rfl rfl (by kernel_rfl) ap_nil) ?_
      refine SWl.rd rfl (Rd.move rfl) ?_
      refine SWl.rd rfl (Rd.move rfl) ?_
      refine SWl.rd rfl (Rd.move rfl) ?_
      refine SWl.ef (Ef.callVR (cap := [.pointer (some ⟨gw, 0, none⟩), .pointer (some ⟨ga, 0, none⟩), .pointer (some ⟨glp, 0, none⟩)]) [0, 1, 2, 3, 4, 5] (ih (Led.bl n) low i l _ s (by omega) hlt (by omega) (by omega) rfl) rfl rfl ⟨Le.refl _, Le.refl _, Le.refl _, Le.refl _, Le.refl _, Le.refl _, trivial⟩ (by decide) ⟨⟨_, rfl, LeAll.refl _⟩, ⟨⟨_, rfl, LeAll.refl _⟩, ⟨⟨_, rfl, LeAll.refl _⟩, ⟨⟨_, rfl, LeAll.refl _⟩, ⟨⟨_, rfl, LeR.refl _⟩, ⟨⟨_, rfl, LeR.refl _⟩, trivial⟩⟩⟩⟩⟩⟩ (fun _ h => h) rfl) ?_
      rintro _ ⟨s21, rfl⟩
      refine SWl.nil ?_
      refine SN.then ?_
      refine SW.seq ?_
      refine SW.draw (gp :: (s21.F ++ ([] ++ []))) (.r 0 (.r 1 (.r 2 (.r 3 (.r 4 (.r 5 (.r 6 (.r 7 (.n 8 (.e 9 .fin .no) .no))))))))) (by kernel_rfl) (by kernel_rfl) (fun d _ _ _ _ h => by cases d <;> exact h) ?_
      refine SWz.rd (i := 0) rfl rfl (Rd.loadB 1 rfl rfl rfl (by kernel_rfl) (ap_cons 3 rfl (by decide) (ap_app 4 rfl (by decide) (ap_app 5 rfl (by decide) ap_nil)))) ?_
      refine SWz.rd (i := 1) rfl rfl (Rd.loadB 2 rfl rfl rfl (by kernel_rfl) (ap_cons 3 rfl (by decide) (ap_app 4 rfl (by decide) (ap_app 5 rfl (by decide) ap_nil)))) ?_
      refine SWz.rd (i := 2) rfl rfl (Rd.move rfl) ?_
      refine SWz.rd (i := 3) rfl rfl (Rd.move rfl) ?_
      refine SWz.rd (i := 4) rfl rfl (Rd.add rfl rfl ⟨by omega, by omega⟩) ?_
      refine SWz.rd (i := 5) rfl rfl (Rd.move rfl) ?_
      refine SWz.rd (i := 6) rfl rfl (Rd.move rfl) ?_
      refine SWz.rd (i := 7) rfl rfl (Rd.subi rfl rfl ⟨by omega, by omega⟩) ?_
      refine SWz.efn (i := 8) rfl (Ef.callN [] (con_span es hn (n - Led.bl n) (low + Led.bl n) (by omega)) rfl ⟨(sees_le (Le.refl _)), (sees_le (Le.is (by congr 1))), (sees_le (Le.is (by congr 1; omega))), trivial⟩ rfl) ?_ SWz.no
      rintro _ rfl
      refine SWz.efe (i := 9) rfl (Ef.callVR (cap := [.pointer (some ⟨gp, 0, none⟩)]) [3, 4, 5] (con_incl1 _ _ _ _ _ (by simp) (by have := incl_sub_le es low (Led.bl n) i; simp; omega)) rfl rfl ⟨Le.refl _, Le.refl _, trivial⟩ (by decide) ⟨⟨_, rfl, LeAll.refl _⟩, ⟨⟨_, rfl, LeR.refl _⟩, ⟨⟨_, rfl, LeR.refl _⟩, trivial⟩⟩⟩ (fun _ h => h) rfl) ?_ SWz.no
      rintro _ ⟨s31, rfl⟩
      refine SWz.nil ?_
      refine SN.then ?_
      refine SW.retR (fn := Tryd.f39) (s31) [0, 1, 2, 3, 4, 5] (fun _ _ h => h) (Rs.none rfl) (by decide) ⟨⟨_, rfl, LeAll.refl _⟩, ⟨⟨_, rfl, LeAll.refl _⟩, ⟨⟨_, rfl, LeAll.refl _⟩, ⟨⟨_, rfl, ⟨Le.is (by rw [hl', incl_sub i hz h, if_pos hlt, List.append_assoc]), trivial⟩⟩, ⟨⟨_, rfl, leVec (by rw [hl', incl_sub i hz h, if_pos hlt, List.append_assoc]) (by rw [hl', incl_sub i hz h, if_pos hlt, List.append_assoc])⟩, ⟨⟨_, rfl, LeR.refl _⟩, trivial⟩⟩⟩⟩⟩⟩
    · have hlt : ¬ i < Led.bl n := by have := of_decide_eq_false hb16; omega
      refine SW.skip ?_
      refine SN.then ?_
      refine SW.seq ?_
      refine SW.region ?_
      refine SWl.rd rfl (Rd.loadB 0 rfl rfl rfl (by kernel_rfl) ap_nil) ?_
      refine SWl.rd rfl (Rd.move rfl) ?_
      refine SWl.rd rfl (Rd.move rfl) ?_
      refine SWl.rd rfl (Rd.add rfl rfl ⟨by omega, by omega⟩) ?_
      refine SWl.rd rfl (Rd.move rfl) ?_
      refine SWl.rd rfl (Rd.move rfl) ?_
      refine SWl.rd rfl (Rd.subi rfl rfl ⟨by omega, by omega⟩) ?_
      refine SWl.rd rfl (Rd.move rfl) ?_
      refine SWl.rd rfl (Rd.move rfl) ?_
      refine SWl.rd rfl (Rd.subi rfl rfl ⟨by omega, by omega⟩) ?_
      refine SWl.ef (Ef.callVR (cap := [.pointer (some ⟨gw, 0, none⟩), .pointer (some ⟨ga, 0, none⟩), .pointer (some ⟨glp, 0, none⟩)]) [0, 1, 2, 3, 4, 5] (ih (n - Led.bl n) (low + Led.bl n) (i - Led.bl n) l _ s (by omega) (by omega) (by omega) (by omega) rfl) rfl rfl ⟨Le.is (by congr 1), Le.is (by congr 1; omega), Le.is (by congr 1; omega), Le.refl _, Le.refl _, Le.refl _, trivial⟩ (by decide) ⟨⟨_, rfl, LeAll.refl _⟩, ⟨⟨_, rfl, LeAll.refl _⟩, ⟨⟨_, rfl, LeAll.refl _⟩, ⟨⟨_, rfl, LeAll.refl _⟩, ⟨⟨_, rfl, LeR.refl _⟩, ⟨⟨_, rfl, LeR.refl _⟩, trivial⟩⟩⟩⟩⟩⟩ (fun _ h => h) rfl) ?_
      rintro _ ⟨s42, rfl⟩
      refine SWl.nil ?_
      refine SN.then ?_
      refine SW.draw (gp :: (s42.F ++ ([] ++ []))) (.r 0 (.r 1 (.r 2 (.r 3 (.n 4 (.e 5 .fin .no) .no))))) (by kernel_rfl) (by kernel_rfl) (fun d _ _ _ _ h => by cases d <;> exact h) ?_
      refine SWz.rd (i := 0) rfl rfl (Rd.loadB 1 rfl rfl rfl (by kernel_rfl) (ap_cons 3 rfl (by decide) (ap_app 4 rfl (by decide) (ap_app 5 rfl (by decide) ap_nil)))) ?_
      refine SWz.rd (i := 1) rfl rfl (Rd.loadB 2 rfl rfl rfl (by kernel_rfl) (ap_cons 3 rfl (by decide) (ap_app 4 rfl (by decide) (ap_app 5 rfl (by decide) ap_nil)))) ?_
      refine SWz.rd (i := 2) rfl rfl (Rd.move rfl) ?_
      refine SWz.rd (i := 3) rfl rfl (Rd.move rfl) ?_
      refine SWz.efn (i := 4) rfl (Ef.callN [] (con_span es hn (Led.bl n) low (by omega)) rfl ⟨(sees_le (Le.refl _)), (sees_le (Le.refl _)), (sees_le (Le.refl _)), trivial⟩ rfl) ?_ SWz.no
      rintro _ rfl
      refine SWz.efe (i := 5) rfl (Ef.callVR (cap := [.pointer (some ⟨gp, 0, none⟩)]) [3, 4, 5] (con_incl1 _ _ _ _ _ (by simp) (by have := incl_sub_le es (low + Led.bl n) (n - Led.bl n) (i - Led.bl n); simp; omega)) rfl rfl ⟨Le.refl _, Le.refl _, trivial⟩ (by decide) ⟨⟨_, rfl, LeAll.refl _⟩, ⟨⟨_, rfl, LeR.refl _⟩, ⟨⟨_, rfl, LeR.refl _⟩, trivial⟩⟩⟩ (fun _ h => h) rfl) ?_ SWz.no
      rintro _ ⟨s48, rfl⟩
      refine SWz.nil ?_
      refine SN.retR (fn := Tryd.f39) (s48) [0, 1, 2, 3, 4, 5] (Rs.none rfl) (by decide) ⟨⟨_, rfl, LeAll.refl _⟩, ⟨⟨_, rfl, LeAll.refl _⟩, ⟨⟨_, rfl, LeAll.refl _⟩, ⟨⟨_, rfl, ⟨Le.is (by rw [hl', incl_sub i hz h, if_neg hlt, List.append_assoc]), trivial⟩⟩, ⟨⟨_, rfl, leVec (by rw [hl', incl_sub i hz h, if_neg hlt, List.append_assoc]) (by rw [hl', incl_sub i hz h, if_neg hlt, List.append_assoc])⟩, ⟨⟨_, rfl, LeR.refl _⟩, trivial⟩⟩⟩⟩⟩⟩
theorem con_incl2 (gw ga glp gp n0 : Nat) (es : List Led.Ent) (hn : es.length ≤ 100000) : ∀ (n low i : Nat) (l l' : List (List UInt8)) (s : Vst), i < n → low + n ≤ es.length → l.length + n ≤ 100000 → l' = l ++ Led.incl HH ((es.drop low).take n) i → IncCon gw ga glp gp n0 es low i n l l' s := by
  intro n
  induction n using Nat.strongRecOn with
  | ind n ih =>
    intro low i l l' s hi h hl hl'
    exact con_incl2_step gw ga glp gp n0 es hn low i n l l' s hi h hl hl' (fun m low' i' l1 l2 s' hm => ih m hm low' i' l1 l2 s')
theorem le_nil_ls {α : Type} {enc : α → List D} : Le (isD (.slice none 0 0)) (lsD enc []) := fun _ _ _ h => ⟨none, 0, h, Nat.le_refl _, fun h0 => by simp at h0⟩
set_option maxHeartbeats 4000000 in
set_option maxRecDepth 100000 in
theorem con_inclusion (es : List Led.Ent) (hn : es.length ≤ 100000) (i n : Nat) (h : i < n) (hle : n ≤ es.length) : ConN Tryd.prog 14 [ledD es, iD (i : Int), iD (n : Int)] (tupD [aggD [lsD encL (Led.incl HH (es.take n) i)], iD 0]) := by
  refine con_ofN Tryd.func14 (by kernel_rfl) rfl (by kernel_rfl) fun base w0 => ?_
  refine SW.seq ?_
  refine SW.region ?_
  refine SWl.ef (S := []) (Ef.boxV rfl (fun _ _ _ h => one_cells (One.h _ _ _ h)) rfl) ?_
  rintro _ ⟨g3, rfl⟩
  refine SWl.ef (S := []) (Ef.alloc (zs := [.slice none 0 0]) (by kernel_rfl) rfl) ?_
  rintro _ ⟨g6, rfl⟩
  refine SWl.rd rfl (Rd.assign rfl) ?_
  refine SWl.nil ?_
  refine SN.then ?_
  refine SW.seq ?_
  refine SW.seq ?_
  refine SW.region ?_
  refine SWl.rd rfl (Rd.loadB 0 rfl rfl rfl (by kernel_rfl) ap_nil) ?_
  refine SWl.rd rfl (Rd.eqPA rfl rfl (by kernel_rfl)) ?_
  refine SWl.nil ?_
  refine SN.then ?_
  refine SW.condF rfl (rfl) ?_
  refine SW.skip ?_
  refine SN.then ?_
  refine SW.seq ?_
  refine SW.seq ?_
  refine SW.region ?_
  refine SWl.rd rfl (Rd.move rfl) ?_
  refine SWl.rd rfl (Rd.lss rfl rfl) ?_
  refine SWl.rd rfl (Rd.move rfl) ?_
  refine SWl.rdg rfl rfl (by simp) rfl rfl (Rd.move rfl) ?_
  refine SWl.rdg rfl rfl (by simp) rfl rfl (Rd.loadB 0 rfl rfl rfl (by kernel_rfl) ap_nil) ?_
  refine SWl.rdg rfl rfl (by simp) rfl rfl (Rd.nilCheckP rfl) ?_
  refine SWl.rdg rfl rfl (by simp) rfl rfl (Rd.fieldR (n := 0) rfl (by kernel_rfl) (show 0 < 2 by decide)) ?_
  refine SWl.rdg rfl rfl (by simp) rfl rfl (Rd.loadR rfl rfl (by kernel_rfl) (by simp)) ?_
  refine SWl.rdg rfl rfl (by simp) rfl rfl (Rd.lenR (e := 44) rfl (by kernel_rfl)) ?_
  refine SWl.rdg rfl rfl (by simp) rfl rfl (Rd.gtr rfl rfl) ?_
  refine SWl.rd rfl (Rd.pickN rfl (by simp) rfl) ?_
  refine SWl.rd rfl (Rd.move rfl) ?_
  refine SWl.rdg rfl rfl (by simp; omega) rfl rfl (Rd.move rfl) ?_
  refine SWl.rdg rfl rfl (by simp; omega) rfl rfl (Rd.lss rfl rfl) ?_
  refine SWl.rd rfl (Rd.pickN rfl (by simp; omega) rfl) ?_
  refine SWl.rd rfl (Rd.move rfl) ?_
  refine SWl.rdg rfl rfl (by simp) rfl rfl (Rd.move rfl) ?_
  refine SWl.rdg rfl rfl (by simp) rfl rfl (Rd.move rfl) ?_
  refine SWl.rdg rfl rfl (by simp) rfl rfl (Rd.geq rfl rfl) ?_
  refine SWl.rd rfl (Rd.pickN rfl (by simp) rfl) ?_
  refine SWl.nil ?_
  refine SN.then ?_
  refine SW.condF rfl (by simp; omega) ?_
  refine SW.skip ?_
  refine SN.then ?_
  refine SW.seq ?_
  refine SW.region ?_
  refine SWl.ef (S := []) (Ef.alloc (zs := [.slice none 0 0]) (by kernel_rfl) rfl) ?_
  rintro _ ⟨g8, rfl⟩
  refine SWl.nil ?_
  refine SN.then ?_
  refine SW.seq ?_
  refine SW.region ?_
  refine SWl.rd rfl (Rd.makeFunc [.pointer (some ⟨g8, 0, none⟩)] rfl) ?_
  refine SWl.ef (S := []) (Ef.alloc (zs := [.nilFunc]) (by kernel_rfl) rfl) ?_
  rintro _ ⟨g9, rfl⟩
  refine SWl.ef (S := [_]) (Ef.storeV 3 rfl rfl rfl (by kernel_rfl) rfl (List.mem_singleton.2 rfl)) ?_
  rintro _ rfl
  refine SWl.nil ?_
  refine SN.then ?_
  refine SW.seq ?_
  refine SW.region ?_
  refine SWl.ef (S := []) (Ef.alloc (zs := [.nilFunc]) (by kernel_rfl) rfl) ?_
  rintro _ ⟨g10, rfl⟩
  refine SWl.nil ?_
  refine SN.then ?_
  refine SW.seq ?_
  refine SW.region ?_
  refine SWl.rd rfl (Rd.makeFunc [.pointer (some ⟨g10, 0, none⟩), .pointer (some ⟨g9, 0, none⟩), .pointer (some ⟨g3, 0, none⟩)] rfl) ?_
  refine SWl.ef (S := [_]) (Ef.storeV 4 rfl rfl rfl (by kernel_rfl) rfl (List.mem_singleton.2 rfl)) ?_
  rintro _ rfl
  refine SWl.nil ?_
  refine SN.then ?_
  refine SW.seq ?_
  refine SW.vecN 28 1 (encLn w0.heap.size) ?_
  refine SW.ge ?_
  refine SW.region ?_
  refine SWl.rd rfl (Rd.loadB 4 rfl rfl rfl (by kernel_rfl) ap_nil) ?_
  refine SWl.rd rfl (Rd.move rfl) ?_
  refine SWl.rd rfl (Rd.move rfl) ?_
  refine SWl.ef (Ef.callVR (cap := [.pointer (some ⟨g10, 0, none⟩), .pointer (some ⟨g9, 0, none⟩), .pointer (some ⟨g3, 0, none⟩)]) [4, 3, 0, 2, 5, 6] (con_incl2 g10 g9 g3 g8 w0.heap.size es hn n 0 i [] _ ⟨none, 0, []⟩ h (by omega) (by simp; omega) rfl) rfl rfl ⟨Le.refl _, Le.refl _, Le.refl _, Le.refl _, Le.refl _, Le.refl _, trivial⟩ (by decide) ⟨⟨_, rfl, LeAll.refl _⟩, ⟨⟨_, rfl, LeAll.refl _⟩, ⟨⟨_, rfl, LeAll.refl _⟩, ⟨⟨_, rfl, LeAll.refl _⟩, ⟨⟨_, rfl, LeR.refl _⟩, ⟨⟨_, rfl, LeR.refl _⟩, trivial⟩⟩⟩⟩⟩⟩ (fun _ h => h) rfl) ?_
  rintro _ ⟨s40, rfl⟩
  refine SWl.nil ?_
  refine SN.then ?_
  refine SW.seq ?_
  refine SW.region ?_
  refine SWl.rd rfl (Rd.loadA 4 1 rfl rfl (by kernel_rfl) rfl ap_nil) ?_
  refine SWl.ef (S := [_]) (Ef.storeA 0 rfl rfl rfl (by kernel_rfl) rfl (List.mem_singleton.2 rfl)) ?_
  rintro _ rfl
  refine SWl.rd rfl (Rd.assign rfl) ?_
  refine SWl.nil ?_
  refine SN.then ?_
  refine SW.freezeCN (enc' := encL) 0 0 5 rfl rfl rfl rfl (fun x => ⟨Le.refl _, trivial⟩) ?_
  refine SW.ret (fn := Tryd.f14) (fun _ _ h => h) (Rs.le (Rs.two rfl (ResV.cellA 0 rfl rfl (by kernel_rfl)) (ResV.tmp rfl)) ?_)
  exact (le_nw_tup ⟨(le_nw_agg ⟨(Le.refl _), trivial⟩), le_nw_is, trivial⟩)
end Sx
end Go.Proofs.YtonjpfpdpfonnaaDoor
namespace Go.Proofs.YtonjpfpdpfonnaaDoor
open Go.RowKit
namespace Sx
/-- The walk of a consistency path. -/
abbrev ConsCon (gw ga glp gp n0 : Nat) (es : List Led.Ent) (low m n : Nat) (inner : Bool) (l l' : List (List UInt8)) (s : Vst) : Prop :=
  ConR Tryd.prog 42 (IncB 42 41 #[pD ga, pD glp, pD gw] gw ga glp gp n0 es s l) [iD (low : Int), iD (m : Int), iD (n : Int), boolD inner, isD (pD ga), isD (pD glp), isD (pD gw)]
    (fun s' : Vst => IncB 42 41 #[pD ga, pD glp, pD gw] gw ga glp gp n0 es s' l') (fun _ => isD (.tuple #[]))
theorem cons_sub_all {es : List Led.Ent} {low n : Nat} (o : Bool) (h0 : 0 < n) (h : low + n ≤ es.length) : Led.cons HH ((es.drop low).take n) n o = if o = true then [] else [Led.spn HH es low n] := by
  have := Led.cons_all HH (l := (es.drop low).take n) o (by rw [sub_len h]; exact h0)
  rw [sub_len h] at this
  exact this
theorem cons_sub {es : List Led.Ent} {low m n : Nat} (o : Bool) (h0 : 0 < m) (hm : m < n) (h : low + n ≤ es.length) : Led.cons HH ((es.drop low).take n) m o = if m ≤ Led.bl n then Led.cons HH ((es.drop low).take (Led.bl n)) m o ++ [Led.spn HH es (low + Led.bl n) (n - Led.bl n)] else Led.cons HH ((es.drop (low + Led.bl n)).take (n - Led.bl n)) (m - Led.bl n) false ++ [Led.spn HH es low (Led.bl n)] := by
  have hb := Led.bl_spec (n := n) (by omega)
  rw [Led.cons_step HH o h0 (by rw [sub_len h]; exact hm), sub_len h]
  have e1 : ((es.drop low).take n).take (Led.bl n) = (es.drop low).take (Led.bl n) := by rw [List.take_take]; congr 1; omega
  have e2 : ((es.drop low).take n).drop (Led.bl n) = (es.drop (low + Led.bl n)).take (n - Led.bl n) := by rw [List.drop_take, List.drop_drop]
  rw [e1, e2]
  rfl
theorem cons_sub_le (es : List Led.Ent) : ∀ (n low m : Nat) (o : Bool), 0 < m → m ≤ n → low + n ≤ es.length → (Led.cons HH ((es.drop low).take n) m o).length ≤ n := by
  intro n
  induction n using Nat.strongRecOn with
  | ind n ih =>
    intro low m o h0 hm h
    by_cases e : m = n
    · subst e
      rw [cons_sub_all o h0 h]
      split <;> simp <;> omega
    · have hb := Led.bl_spec (n := n) (by omega)
      rw [cons_sub o h0 (by omega) h]
      split
      · rename_i hk
        have := ih (Led.bl n) (by omega) low m o h0 hk (by omega)
        simp; omega
      · have := ih (n - Led.bl n) (by omega) (low + Led.bl n) (m - Led.bl n) false (by omega) (by omega) (by omega)
        simp; omega
set_option maxHeartbeats 4000000 in
set_option maxRecDepth 100000 in
theorem con_cons1 (gp n0 : Nat) (s : Vst) (l : List (List UInt8)) (d : List UInt8) (hd : d.length = 32) (hl : l.length ≤ 100000) : ConR Tryd.prog 41 [.c gp [isD (.slice s.A (l).length s.c)], digB s n0 (l), .r [] (geR n0)] [gD d, isD (pD gp)] (fun t : Vst => [.c gp [isD (.slice t.A (l ++ [d]).length t.c)], digB t n0 (l ++ [d]), .r [] (geR n0)]) (fun t : Vst => isD (.tuple #[])) := by
  refine con_ofRK Tryd.func41 (by kernel_rfl) rfl (by kernel_rfl) fun base w0 hpre => ?_
  have hge := ge_of hpre 2 rfl
  refine SW.seq ?_
  refine SW.region ?_
  refine SWl.ef (S := []) (Ef.boxL rfl (le_g_agg _) rfl) ?_
  rintro _ ⟨g2, rfl⟩
  refine SWl.nil ?_
  refine SN.then ?_
  refine SW.draw (s.F ++ (gp :: [])) (.r 0 (.q 1 (.r 2 (.n 3 (.n 4 (.e 5 (.r 6 (.e 7 .fin .no)) .no) .no) .no)))) (by kernel_rfl) (by kernel_rfl) (fun d _ _ _ _ h => by cases d <;> exact h) ?_
  refine SWz.rd (i := 0) rfl rfl (Rd.fieldAddr (n := 0) rfl (by kernel_rfl)) ?_
  refine SWz.rq (i := 1) rfl rfl (Rd.loadB 0 rfl rfl rfl (by kernel_rfl) ap_nil) ?_
  refine SWz.rd (i := 2) rfl rfl (Rd.slArr (e := 5) (n := 32) rfl (by kernel_rfl) (by kernel_rfl)) ?_
  refine SWz.efn (i := 3) rfl (Ef.callNL [3] (con_cloneB _ (by omega)) rfl ⟨(sees_digest 3 rfl (by decide) (by first | assumption | simp)), trivial⟩ (le_nw_mono hge (Le.refl _)) rfl) ?_ SWz.no
  rintro _ rfl
  refine SWz.efn (i := 4) rfl (Ef.litR rfl rfl (blsL1 n0 d) rfl) ?_ SWz.no
  rintro _ rfl
  refine SWz.efe (i := 5) rfl (Ef.appT 1 1 24 rfl rfl (SrcT.ls (l := [_]) rfl) (by kernel_rfl) (by kernel_rfl) (by simp <;> omega) (by decide) (fun _ h => List.mem_append_left _ h) rfl) ?_ SWz.no
  rintro _ ⟨A8, F8, c8, rfl⟩
  refine SWz.rd (i := 6) rfl rfl (Rd.fieldAddr (n := 0) rfl (by kernel_rfl)) ?_
  refine SWz.efe (i := 7) rfl (Ef.storeV 0 rfl rfl rfl (by kernel_rfl) rfl ((List.mem_append_right _ List.mem_cons_self))) ?_ SWz.no
  rintro _ rfl
  refine SWz.nil ?_
  refine SN.retR (fn := Tryd.f41) (⟨A8, c8, F8⟩) [0, 3, 1] (Rs.none rfl) (by decide) ⟨⟨_, rfl, LeAll.refl _⟩, ⟨⟨_, rfl, LeR.refl _⟩, ⟨⟨_, rfl, LeR.refl _⟩, trivial⟩⟩⟩
set_option maxHeartbeats 4000000 in
set_option maxRecDepth 100000 in
theorem con_cons2_step (gw ga glp gp n0 : Nat) (es : List Led.Ent) (hn : es.length ≤ 100000) (low m n : Nat) (inner : Bool) (l l' : List (List UInt8)) (s : Vst) (h0 : 0 < m) (hmn : m ≤ n) (h : low + n ≤ es.length) (hl : l.length + n ≤ 100000) (hl' : l' = l ++ Led.cons HH ((es.drop low).take n) m (!inner)) (ih : ∀ q low' m' inner' l1 l2 s', q < n → 0 < m' → m' ≤ q → low' + q ≤ es.length → l1.length + q ≤ 100000 → l2 = l1 ++ Led.cons HH ((es.drop low').take q) m' (!inner') → ConsCon gw ga glp gp n0 es low' m' q inner' l1 l2 s') : ConR Tryd.prog 42 [.c gw [isD (.func (.func 42) #[] #[pD ga, pD glp, pD gw])], .c ga [isD (.func (.func 41) #[] #[pD gp])], .c glp [ledD es], .c gp [isD (.slice s.A (l).length s.c)], digB s n0 (l), .r [] (geR n0)] [iD (low : Int), iD (m : Int), iD (n : Int), boolD inner, isD (pD ga), isD (pD glp), isD (pD gw)] (fun t : Vst => [.c gw [isD (.func (.func 42) #[] #[pD ga, pD glp, pD gw])], .c ga [isD (.func (.func 41) #[] #[pD gp])], .c glp [ledD es], .c gp [isD (.slice t.A (l').length t.c)], digB t n0 (l'), .r [] (geR n0)]) (fun t : Vst => isD (.tuple #[])) := by
  refine con_ofR Tryd.func42 (by kernel_rfl) rfl (by kernel_rfl) fun base w0 => ?_
  refine SW.seq ?_
  refine SW.seq ?_
  refine SW.region ?_
  refine SWl.rd rfl (Rd.move rfl) ?_
  refine SWl.rd rfl (Rd.move rfl) ?_
  refine SWl.rd rfl (Rd.eqi rfl rfl) ?_
  refine SWl.nil ?_
  refine SN.then ?_
  refine SW.cond rfl (fun hb14 => ?_) (fun hb14 => ?_)
  · have hz : m = n := by have := of_decide_eq_true hb14; omega
    refine SW.seq ?_
    refine SW.seq ?_
    refine SW.region ?_
    refine SWl.rd rfl (Rd.move rfl) ?_
    refine SWl.nil ?_
    refine SN.then ?_
    refine SW.cond rfl (fun hb15 => ?_) (fun hb15 => ?_)
    · skip
      refine SW.draw (gp :: (s.F ++ ([] ++ []))) (.r 0 (.r 1 (.r 2 (.r 3 (.n 4 (.e 5 .fin .no) .no))))) (by kernel_rfl) (by kernel_rfl) (fun d _ _ _ _ h => by cases d <;> exact h) ?_
      refine SWz.rd (i := 0) rfl rfl (Rd.loadB 1 rfl rfl rfl (by kernel_rfl) (ap_cons 3 rfl (by decide) (ap_app 4 rfl (by decide) (ap_app 5 rfl (by decide) ap_nil)))) ?_
      refine SWz.rd (i := 1) rfl rfl (Rd.loadB 2 rfl rfl rfl (by kernel_rfl) (ap_cons 3 rfl (by decide) (ap_app 4 rfl (by decide) (ap_app 5 rfl (by decide) ap_nil)))) ?_
      refine SWz.rd (i := 2) rfl rfl (Rd.move rfl) ?_
      refine SWz.rd (i := 3) rfl rfl (Rd.move rfl) ?_
      refine SWz.efn (i := 4) rfl (Ef.callN [] (con_span es hn n low (by omega)) rfl ⟨(sees_le (Le.refl _)), (sees_le (Le.refl _)), (sees_le (Le.refl _)), trivial⟩ rfl) ?_ SWz.no
      rintro _ rfl
      refine SWz.efe (i := 5) rfl (Ef.callVR (cap := [.pointer (some ⟨gp, 0, none⟩)]) [3, 4, 5] (con_cons1 _ _ _ _ _ (by simp) (by first | omega | (simp; omega))) rfl rfl ⟨Le.refl _, Le.refl _, trivial⟩ (by decide) ⟨⟨_, rfl, LeAll.refl _⟩, ⟨⟨_, rfl, LeR.refl _⟩, ⟨⟨_, rfl, LeR.refl _⟩, trivial⟩⟩⟩ (fun _ h => h) rfl) ?_ SWz.no
      rintro _ ⟨s21, rfl⟩
      refine SWz.nil ?_
      refine SN.then ?_
      refine SW.retR (fn := Tryd.f42) (s21) [0, 1, 2, 3, 4, 5] (fun _ _ h => h) (Rs.none rfl) (by decide) ⟨⟨_, rfl, LeAll.refl _⟩, ⟨⟨_, rfl, LeAll.refl _⟩, ⟨⟨_, rfl, LeAll.refl _⟩, ⟨⟨_, rfl, ⟨Le.is (by rw [hl', hz, cons_sub_all _ (by omega) h, hb15, if_neg (by simp)]), trivial⟩⟩, ⟨⟨_, rfl, leVec (by rw [hl', hz, cons_sub_all _ (by omega) h, hb15, if_neg (by simp)]) (by rw [hl', hz, cons_sub_all _ (by omega) h, hb15, if_neg (by simp)])⟩, ⟨⟨_, rfl, LeR.refl _⟩, trivial⟩⟩⟩⟩⟩⟩
    · skip
      refine SW.skip ?_
      refine SN.then ?_
      refine SW.retR (fn := Tryd.f42) (s) [0, 1, 2, 3, 4, 5] (fun _ _ h => h) (Rs.none rfl) (by decide) ⟨⟨_, rfl, LeAll.refl _⟩, ⟨⟨_, rfl, LeAll.refl _⟩, ⟨⟨_, rfl, LeAll.refl _⟩, ⟨⟨_, rfl, ⟨Le.is (by rw [hl', hz, cons_sub_all _ (by omega) h, hb15, if_pos (by simp), List.append_nil]), trivial⟩⟩, ⟨⟨_, rfl, leVec (by rw [hl', hz, cons_sub_all _ (by omega) h, hb15, if_pos (by simp), List.append_nil]) (by rw [hl', hz, cons_sub_all _ (by omega) h, hb15, if_pos (by simp), List.append_nil])⟩, ⟨⟨_, rfl, LeR.refl _⟩, trivial⟩⟩⟩⟩⟩⟩
  · have hz : m < n := by have := of_decide_eq_false hb14; omega
    refine SW.skip ?_
    refine SN.then ?_
    refine SW.seq ?_
    refine SW.region ?_
    refine SWl.rd rfl (Rd.move rfl) ?_
    have hbl := Led.bl_spec (n := n) (by omega)
    refine SWl.ef (S := []) (Ef.callN [] (con_below n (by omega) (by omega)) rfl ⟨(sees_le (Le.refl _)), trivial⟩ rfl) ?_
    rintro _ rfl
    refine SWl.rd rfl (Rd.assign rfl) ?_
    refine SWl.nil ?_
    refine SN.then ?_
    refine SW.seq ?_
    refine SW.seq ?_
    refine SW.region ?_
    refine SWl.rd rfl (Rd.move rfl) ?_
    refine SWl.rd rfl (Rd.move rfl) ?_
    refine SWl.rd rfl (Rd.leq rfl rfl) ?_
    refine SWl.nil ?_
    refine SN.then ?_
    refine SW.cond rfl (fun hb26 => ?_) (fun hb26 => ?_)
    · have hlt : m ≤ Led.bl n := by have := of_decide_eq_true hb26; omega
      refine SW.seq ?_
      refine SW.region ?_
      refine SWl.rd rfl (Rd.loadB 0 rfl rfl rfl (by kernel_rfl) ap_nil) ?_
      refine SWl.rd rfl (Rd.move rfl) ?_
      refine SWl.rd rfl (Rd.move rfl) ?_
      refine SWl.rd rfl (Rd.move rfl) ?_
      refine SWl.rd rfl (Rd.move rfl) ?_
      refine SWl.ef (Ef.callVR (cap := [.pointer (some ⟨ga, 0, none⟩), .pointer (some ⟨glp, 0, none⟩), .pointer (some ⟨gw, 0, none⟩)]) [0, 1, 2, 3, 4, 5] (ih (Led.bl n) low m inner l _ s (by omega) h0 hlt (by omega) (by omega) rfl) rfl rfl ⟨Le.refl _, Le.refl _, Le.refl _, Le.refl _, Le.refl _, Le.refl _, Le.refl _, trivial⟩ (by decide) ⟨⟨_, rfl, LeAll.refl _⟩, ⟨⟨_, rfl, LeAll.refl _⟩, ⟨⟨_, rfl, LeAll.refl _⟩, ⟨⟨_, rfl, LeAll.refl _⟩, ⟨⟨_, rfl, LeR.refl _⟩, ⟨⟨_, rfl, LeR.refl _⟩, trivial⟩⟩⟩⟩⟩⟩ (fun _ h => h) rfl) ?_
      rintro _ ⟨s32, rfl⟩
      refine SWl.nil ?_
      refine SN.then ?_
      refine SW.seq ?_
      refine SW.draw (gp :: (s32.F ++ ([] ++ []))) (.r 0 (.r 1 (.r 2 (.r 3 (.r 4 (.r 5 (.r 6 (.r 7 (.n 8 (.e 9 .fin .no) .no))))))))) (by kernel_rfl) (by kernel_rfl) (fun d _ _ _ _ h => by cases d <;> exact h) ?_
      refine SWz.rd (i := 0) rfl rfl (Rd.loadB 1 rfl rfl rfl (by kernel_rfl) (ap_cons 3 rfl (by decide) (ap_app 4 rfl (by decide) (ap_app 5 rfl (by decide) ap_nil)))) ?_
      refine SWz.rd (i := 1) rfl rfl (Rd.loadB 2 rfl rfl rfl (by kernel_rfl) (ap_cons 3 rfl (by decide) (ap_app 4 rfl (by decide) (ap_app 5 rfl (by decide) ap_nil)))) ?_
      refine SWz.rd (i := 2) rfl rfl (Rd.move rfl) ?_
      refine SWz.rd (i := 3) rfl rfl (Rd.move rfl) ?_
      refine SWz.rd (i := 4) rfl rfl (Rd.add rfl rfl ⟨by omega, by omega⟩) ?_
      refine SWz.rd (i := 5) rfl rfl (Rd.move rfl) ?_
      refine SWz.rd (i := 6) rfl rfl (Rd.move rfl) ?_
      refine SWz.rd (i := 7) rfl rfl (Rd.subi rfl rfl ⟨by omega, by omega⟩) ?_
      refine SWz.efn (i := 8) rfl (Ef.callN [] (con_span es hn (n - Led.bl n) (low + Led.bl n) (by omega)) rfl ⟨(sees_le (Le.refl _)), (sees_le (Le.is (by congr 1))), (sees_le (Le.is (by congr 1; omega))), trivial⟩ rfl) ?_ SWz.no
      rintro _ rfl
      refine SWz.efe (i := 9) rfl (Ef.callVR (cap := [.pointer (some ⟨gp, 0, none⟩)]) [3, 4, 5] (con_cons1 _ _ _ _ _ (by simp) (by have := cons_sub_le es (Led.bl n) low m (!inner) h0 hlt (by omega); first | omega | (simp; omega))) rfl rfl ⟨Le.refl _, Le.refl _, trivial⟩ (by decide) ⟨⟨_, rfl, LeAll.refl _⟩, ⟨⟨_, rfl, LeR.refl _⟩, ⟨⟨_, rfl, LeR.refl _⟩, trivial⟩⟩⟩ (fun _ h => h) rfl) ?_ SWz.no
      rintro _ ⟨s42, rfl⟩
      refine SWz.nil ?_
      refine SN.then ?_
      refine SW.retR (fn := Tryd.f42) (s42) [0, 1, 2, 3, 4, 5] (fun _ _ h => h) (Rs.none rfl) (by decide) ⟨⟨_, rfl, LeAll.refl _⟩, ⟨⟨_, rfl, LeAll.refl _⟩, ⟨⟨_, rfl, LeAll.refl _⟩, ⟨⟨_, rfl, ⟨Le.is (by rw [hl', cons_sub _ h0 hz h, if_pos hlt, List.append_assoc]), trivial⟩⟩, ⟨⟨_, rfl, leVec (by rw [hl', cons_sub _ h0 hz h, if_pos hlt, List.append_assoc]) (by rw [hl', cons_sub _ h0 hz h, if_pos hlt, List.append_assoc])⟩, ⟨⟨_, rfl, LeR.refl _⟩, trivial⟩⟩⟩⟩⟩⟩
    · have hlt : ¬ m ≤ Led.bl n := by have := of_decide_eq_false hb26; omega
      refine SW.skip ?_
      refine SN.then ?_
      refine SW.seq ?_
      refine SW.region ?_
      refine SWl.rd rfl (Rd.loadB 0 rfl rfl rfl (by kernel_rfl) ap_nil) ?_
      refine SWl.rd rfl (Rd.move rfl) ?_
      refine SWl.rd rfl (Rd.move rfl) ?_
      refine SWl.rd rfl (Rd.add rfl rfl ⟨by omega, by omega⟩) ?_
      refine SWl.rd rfl (Rd.move rfl) ?_
      refine SWl.rd rfl (Rd.move rfl) ?_
      refine SWl.rd rfl (Rd.subi rfl rfl ⟨by omega, by omega⟩) ?_
      refine SWl.rd rfl (Rd.move rfl) ?_
      refine SWl.rd rfl (Rd.move rfl) ?_
      refine SWl.rd rfl (Rd.subi rfl rfl ⟨by omega, by omega⟩) ?_
      refine SWl.ef (Ef.callVR (cap := [.pointer (some ⟨ga, 0, none⟩), .pointer (some ⟨glp, 0, none⟩), .pointer (some ⟨gw, 0, none⟩)]) [0, 1, 2, 3, 4, 5] (ih (n - Led.bl n) (low + Led.bl n) (m - Led.bl n) true l _ s (by omega) (by omega) (by omega) (by omega) (by omega) rfl) rfl rfl ⟨Le.is (by congr 1), Le.is (by congr 1; omega), Le.is (by congr 1; omega), Le.refl _, Le.refl _, Le.refl _, Le.refl _, trivial⟩ (by decide) ⟨⟨_, rfl, LeAll.refl _⟩, ⟨⟨_, rfl, LeAll.refl _⟩, ⟨⟨_, rfl, LeAll.refl _⟩, ⟨⟨_, rfl, LeAll.refl _⟩, ⟨⟨_, rfl, LeR.refl _⟩, ⟨⟨_, rfl, LeR.refl _⟩, trivial⟩⟩⟩⟩⟩⟩ (fun _ h => h) rfl) ?_
      rintro _ ⟨s53, rfl⟩
      refine SWl.nil ?_
      refine SN.then ?_
      refine SW.draw (gp :: (s53.F ++ ([] ++ []))) (.r 0 (.r 1 (.r 2 (.r 3 (.n 4 (.e 5 .fin .no) .no))))) (by kernel_rfl) (by kernel_rfl) (fun d _ _ _ _ h => by cases d <;> exact h) ?_
      refine SWz.rd (i := 0) rfl rfl (Rd.loadB 1 rfl rfl rfl (by kernel_rfl) (ap_cons 3 rfl (by decide) (ap_app 4 rfl (by decide) (ap_app 5 rfl (by decide) ap_nil)))) ?_
      refine SWz.rd (i := 1) rfl rfl (Rd.loadB 2 rfl rfl rfl (by kernel_rfl) (ap_cons 3 rfl (by decide) (ap_app 4 rfl (by decide) (ap_app 5 rfl (by decide) ap_nil)))) ?_
      refine SWz.rd (i := 2) rfl rfl (Rd.move rfl) ?_
      refine SWz.rd (i := 3) rfl rfl (Rd.move rfl) ?_
      refine SWz.efn (i := 4) rfl (Ef.callN [] (con_span es hn (Led.bl n) low (by omega)) rfl ⟨(sees_le (Le.refl _)), (sees_le (Le.refl _)), (sees_le (Le.refl _)), trivial⟩ rfl) ?_ SWz.no
      rintro _ rfl
      refine SWz.efe (i := 5) rfl (Ef.callVR (cap := [.pointer (some ⟨gp, 0, none⟩)]) [3, 4, 5] (con_cons1 _ _ _ _ _ (by simp) (by have := cons_sub_le es (n - Led.bl n) (low + Led.bl n) (m - Led.bl n) false (by omega) (by omega) (by omega); rw [Bool.not_true]; first | omega | (simp; omega))) rfl rfl ⟨Le.refl _, Le.refl _, trivial⟩ (by decide) ⟨⟨_, rfl, LeAll.refl _⟩, ⟨⟨_, rfl, LeR.refl _⟩, ⟨⟨_, rfl, LeR.refl _⟩, trivial⟩⟩⟩ (fun _ h => h) rfl) ?_ SWz.no
      rintro _ ⟨s59, rfl⟩
      refine SWz.nil ?_
      refine SN.retR (fn := Tryd.f42) (s59) [0, 1, 2, 3, 4, 5] (Rs.none rfl) (by decide) ⟨⟨_, rfl, LeAll.refl _⟩, ⟨⟨_, rfl, LeAll.refl _⟩, ⟨⟨_, rfl, LeAll.refl _⟩, ⟨⟨_, rfl, ⟨Le.is (by rw [hl', cons_sub _ h0 hz h, if_neg hlt, List.append_assoc, Bool.not_true]), trivial⟩⟩, ⟨⟨_, rfl, leVec (by rw [hl', cons_sub _ h0 hz h, if_neg hlt, List.append_assoc, Bool.not_true]) (by rw [hl', cons_sub _ h0 hz h, if_neg hlt, List.append_assoc, Bool.not_true])⟩, ⟨⟨_, rfl, LeR.refl _⟩, trivial⟩⟩⟩⟩⟩⟩
theorem con_cons2 (gw ga glp gp n0 : Nat) (es : List Led.Ent) (hn : es.length ≤ 100000) : ∀ (n low m : Nat) (inner : Bool) (l l' : List (List UInt8)) (s : Vst), 0 < m → m ≤ n → low + n ≤ es.length → l.length + n ≤ 100000 → l' = l ++ Led.cons HH ((es.drop low).take n) m (!inner) → ConsCon gw ga glp gp n0 es low m n inner l l' s := by
  intro n
  induction n using Nat.strongRecOn with
  | ind n ih =>
    intro low m inner l l' s h0 hm h hl hl'
    exact con_cons2_step gw ga glp gp n0 es hn low m n inner l l' s h0 hm h hl hl' (fun q low' m' inner' l1 l2 s' hq => ih q hq low' m' inner' l1 l2 s')
set_option maxHeartbeats 4000000 in
set_option maxRecDepth 100000 in
theorem con_consistency_0 (es : List Led.Ent) (n : Nat) (hle : n ≤ es.length) : ConN Tryd.prog 15 [ledD es, iD 0, iD (n : Int)] (tupD [aggD [lsD encL []], iD 0]) := by
  refine con_ofN Tryd.func15 (by kernel_rfl) rfl (by kernel_rfl) fun base w0 => ?_
  refine SW.seq ?_
  refine SW.region ?_
  refine SWl.ef (S := []) (Ef.boxV rfl (fun _ _ _ h => one_cells (One.h _ _ _ h)) rfl) ?_
  rintro _ ⟨g3, rfl⟩
  refine SWl.ef (S := []) (Ef.alloc (zs := [.slice none 0 0]) (by kernel_rfl) rfl) ?_
  rintro _ ⟨g6, rfl⟩
  refine SWl.rd rfl (Rd.assign rfl) ?_
  refine SWl.nil ?_
  refine SN.then ?_
  refine SW.seq ?_
  refine SW.seq ?_
  refine SW.region ?_
  refine SWl.rd rfl (Rd.loadB 0 rfl rfl rfl (by kernel_rfl) ap_nil) ?_
  refine SWl.rd rfl (Rd.eqPA rfl rfl (by kernel_rfl)) ?_
  refine SWl.nil ?_
  refine SN.then ?_
  refine SW.condF rfl (rfl) ?_
  refine SW.skip ?_
  refine SN.then ?_
  refine SW.seq ?_
  refine SW.seq ?_
  refine SW.region ?_
  refine SWl.rd rfl (Rd.move rfl) ?_
  refine SWl.rd rfl (Rd.lss rfl rfl) ?_
  refine SWl.rd rfl (Rd.move rfl) ?_
  refine SWl.rdg rfl rfl (by simp) rfl rfl (Rd.move rfl) ?_
  refine SWl.rdg rfl rfl (by simp) rfl rfl (Rd.loadB 0 rfl rfl rfl (by kernel_rfl) ap_nil) ?_
  refine SWl.rdg rfl rfl (by simp) rfl rfl (Rd.nilCheckP rfl) ?_
  refine SWl.rdg rfl rfl (by simp) rfl rfl (Rd.fieldR (n := 0) rfl (by kernel_rfl) (show 0 < 2 by decide)) ?_
  refine SWl.rdg rfl rfl (by simp) rfl rfl (Rd.loadR rfl rfl (by kernel_rfl) (by simp)) ?_
  refine SWl.rdg rfl rfl (by simp) rfl rfl (Rd.lenR (e := 44) rfl (by kernel_rfl)) ?_
  refine SWl.rdg rfl rfl (by simp) rfl rfl (Rd.gtr rfl rfl) ?_
  refine SWl.rd rfl (Rd.pickN rfl (by simp) rfl) ?_
  refine SWl.rd rfl (Rd.move rfl) ?_
  refine SWl.rdg rfl rfl (by simp; omega) rfl rfl (Rd.move rfl) ?_
  refine SWl.rdg rfl rfl (by simp; omega) rfl rfl (Rd.lss rfl rfl) ?_
  refine SWl.rd rfl (Rd.pickN rfl (by simp; omega) rfl) ?_
  refine SWl.rd rfl (Rd.move rfl) ?_
  refine SWl.rdg rfl rfl (by simp) rfl rfl (Rd.move rfl) ?_
  refine SWl.rdg rfl rfl (by simp) rfl rfl (Rd.move rfl) ?_
  refine SWl.rdg rfl rfl (by simp) rfl rfl (Rd.gtr rfl rfl) ?_
  refine SWl.rd rfl (Rd.pickN rfl (by simp) rfl) ?_
  refine SWl.nil ?_
  refine SN.then ?_
  refine SW.condF rfl (by simp) ?_
  refine SW.skip ?_
  refine SN.then ?_
  refine SW.seq ?_
  refine SW.region ?_
  refine SWl.ef (S := []) (Ef.alloc (zs := [.slice none 0 0]) (by kernel_rfl) rfl) ?_
  rintro _ ⟨g8, rfl⟩
  refine SWl.nil ?_
  refine SN.then ?_
  refine SW.seq ?_
  refine SW.seq ?_
  refine SW.region ?_
  refine SWl.rd rfl (Rd.move rfl) ?_
  refine SWl.rd rfl (Rd.eqi rfl rfl) ?_
  refine SWl.nil ?_
  refine SN.then ?_
  refine SW.condT rfl (by simp) ?_
  refine SW.seq ?_
  refine SW.region ?_
  refine SWl.rd rfl (Rd.loadA 2 1 rfl rfl (by kernel_rfl) rfl ap_nil) ?_
  refine SWl.ef (S := [_]) (Ef.storeA 1 rfl rfl rfl (by kernel_rfl) rfl (List.mem_singleton.2 rfl)) ?_
  rintro _ rfl
  refine SWl.rd rfl (Rd.assign rfl) ?_
  refine SWl.nil ?_
  refine SN.then ?_
  refine SW.ret (fn := Tryd.f15) (fun _ _ h => h) (Rs.le (Rs.two rfl (ResV.cellA 1 rfl rfl (by kernel_rfl)) (ResV.tmp rfl)) ?_)
  exact le_nw_tup ⟨le_nw_agg ⟨Le.trans (le_nw_is (x := .slice none 0 0)) (le_nw_mono (Nat.le_refl _) le_nil_ls), trivial⟩, le_nw_is, trivial⟩
set_option maxHeartbeats 4000000 in
set_option maxRecDepth 100000 in
theorem con_consistency (es : List Led.Ent) (hn : es.length ≤ 100000) (m n : Nat) (h0 : 0 < m) (h : m ≤ n) (hle : n ≤ es.length) : ConN Tryd.prog 15 [ledD es, iD (m : Int), iD (n : Int)] (tupD [aggD [lsD encL (Led.cons HH (es.take n) m true)], iD 0]) := by
  refine con_ofN Tryd.func15 (by kernel_rfl) rfl (by kernel_rfl) fun base w0 => ?_
  refine SW.seq ?_
  refine SW.region ?_
  refine SWl.ef (S := []) (Ef.boxV rfl (fun _ _ _ h => one_cells (One.h _ _ _ h)) rfl) ?_
  rintro _ ⟨g3, rfl⟩
  refine SWl.ef (S := []) (Ef.alloc (zs := [.slice none 0 0]) (by kernel_rfl) rfl) ?_
  rintro _ ⟨g6, rfl⟩
  refine SWl.rd rfl (Rd.assign rfl) ?_
  refine SWl.nil ?_
  refine SN.then ?_
  refine SW.seq ?_
  refine SW.seq ?_
  refine SW.region ?_
  refine SWl.rd rfl (Rd.loadB 0 rfl rfl rfl (by kernel_rfl) ap_nil) ?_
  refine SWl.rd rfl (Rd.eqPA rfl rfl (by kernel_rfl)) ?_
  refine SWl.nil ?_
  refine SN.then ?_
  refine SW.condF rfl (rfl) ?_
  refine SW.skip ?_
  refine SN.then ?_
  refine SW.seq ?_
  refine SW.seq ?_
  refine SW.region ?_
  refine SWl.rd rfl (Rd.move rfl) ?_
  refine SWl.rd rfl (Rd.lss rfl rfl) ?_
  refine SWl.rd rfl (Rd.move rfl) ?_
  refine SWl.rdg rfl rfl (by simp) rfl rfl (Rd.move rfl) ?_
  refine SWl.rdg rfl rfl (by simp) rfl rfl (Rd.loadB 0 rfl rfl rfl (by kernel_rfl) ap_nil) ?_
  refine SWl.rdg rfl rfl (by simp) rfl rfl (Rd.nilCheckP rfl) ?_
  refine SWl.rdg rfl rfl (by simp) rfl rfl (Rd.fieldR (n := 0) rfl (by kernel_rfl) (show 0 < 2 by decide)) ?_
  refine SWl.rdg rfl rfl (by simp) rfl rfl (Rd.loadR rfl rfl (by kernel_rfl) (by simp)) ?_
  refine SWl.rdg rfl rfl (by simp) rfl rfl (Rd.lenR (e := 44) rfl (by kernel_rfl)) ?_
  refine SWl.rdg rfl rfl (by simp) rfl rfl (Rd.gtr rfl rfl) ?_
  refine SWl.rd rfl (Rd.pickN rfl (by simp) rfl) ?_
  refine SWl.rd rfl (Rd.move rfl) ?_
  refine SWl.rdg rfl rfl (by simp; omega) rfl rfl (Rd.move rfl) ?_
  refine SWl.rdg rfl rfl (by simp; omega) rfl rfl (Rd.lss rfl rfl) ?_
  refine SWl.rd rfl (Rd.pickN rfl (by simp; omega) rfl) ?_
  refine SWl.rd rfl (Rd.move rfl) ?_
  refine SWl.rdg rfl rfl (by simp) rfl rfl (Rd.move rfl) ?_
  refine SWl.rdg rfl rfl (by simp) rfl rfl (Rd.move rfl) ?_
  refine SWl.rdg rfl rfl (by simp) rfl rfl (Rd.gtr rfl rfl) ?_
  refine SWl.rd rfl (Rd.pickN rfl (by simp) rfl) ?_
  refine SWl.nil ?_
  refine SN.then ?_
  refine SW.condF rfl (by simp; omega) ?_
  refine SW.skip ?_
  refine SN.then ?_
  refine SW.seq ?_
  refine SW.region ?_
  refine SWl.ef (S := []) (Ef.alloc (zs := [.slice none 0 0]) (by kernel_rfl) rfl) ?_
  rintro _ ⟨g8, rfl⟩
  refine SWl.nil ?_
  refine SN.then ?_
  refine SW.seq ?_
  refine SW.seq ?_
  refine SW.region ?_
  refine SWl.rd rfl (Rd.move rfl) ?_
  refine SWl.rd rfl (Rd.eqi rfl rfl) ?_
  refine SWl.nil ?_
  refine SN.then ?_
  refine SW.condF rfl (by simp; omega) ?_
  refine SW.skip ?_
  refine SN.then ?_
  refine SW.seq ?_
  refine SW.region ?_
  refine SWl.rd rfl (Rd.makeFunc [.pointer (some ⟨g8, 0, none⟩)] rfl) ?_
  refine SWl.ef (S := []) (Ef.alloc (zs := [.nilFunc]) (by kernel_rfl) rfl) ?_
  rintro _ ⟨g9, rfl⟩
  refine SWl.ef (S := [_]) (Ef.storeV 3 rfl rfl rfl (by kernel_rfl) rfl (List.mem_singleton.2 rfl)) ?_
  rintro _ rfl
  refine SWl.nil ?_
  refine SN.then ?_
  refine SW.seq ?_
  refine SW.region ?_
  refine SWl.ef (S := []) (Ef.alloc (zs := [.nilFunc]) (by kernel_rfl) rfl) ?_
  rintro _ ⟨g10, rfl⟩
  refine SWl.nil ?_
  refine SN.then ?_
  refine SW.seq ?_
  refine SW.region ?_
  refine SWl.rd rfl (Rd.makeFunc [.pointer (some ⟨g9, 0, none⟩), .pointer (some ⟨g3, 0, none⟩), .pointer (some ⟨g10, 0, none⟩)] rfl) ?_
  refine SWl.ef (S := [_]) (Ef.storeV 4 rfl rfl rfl (by kernel_rfl) rfl (List.mem_singleton.2 rfl)) ?_
  rintro _ rfl
  refine SWl.nil ?_
  refine SN.then ?_
  refine SW.seq ?_
  refine SW.vecN 28 1 (encLn w0.heap.size) ?_
  refine SW.ge ?_
  refine SW.region ?_
  refine SWl.rd rfl (Rd.loadB 4 rfl rfl rfl (by kernel_rfl) ap_nil) ?_
  refine SWl.rd rfl (Rd.move rfl) ?_
  refine SWl.rd rfl (Rd.move rfl) ?_
  refine SWl.ef (Ef.callVR (cap := [.pointer (some ⟨g9, 0, none⟩), .pointer (some ⟨g3, 0, none⟩), .pointer (some ⟨g10, 0, none⟩)]) [4, 3, 0, 2, 5, 6] (con_cons2 g10 g9 g3 g8 w0.heap.size es hn n 0 m false [] _ ⟨none, 0, []⟩ h0 h (by omega) (by simp; omega) rfl) rfl rfl ⟨Le.refl _, Le.refl _, Le.refl _, Le.refl _, Le.refl _, Le.refl _, Le.refl _, trivial⟩ (by decide) ⟨⟨_, rfl, LeAll.refl _⟩, ⟨⟨_, rfl, LeAll.refl _⟩, ⟨⟨_, rfl, LeAll.refl _⟩, ⟨⟨_, rfl, LeAll.refl _⟩, ⟨⟨_, rfl, LeR.refl _⟩, ⟨⟨_, rfl, LeR.refl _⟩, trivial⟩⟩⟩⟩⟩⟩ (fun _ h => h) rfl) ?_
  rintro _ ⟨s43, rfl⟩
  refine SWl.nil ?_
  refine SN.then ?_
  refine SW.seq ?_
  refine SW.region ?_
  refine SWl.rd rfl (Rd.loadA 4 1 rfl rfl (by kernel_rfl) rfl ap_nil) ?_
  refine SWl.ef (S := [_]) (Ef.storeA 0 rfl rfl rfl (by kernel_rfl) rfl (List.mem_singleton.2 rfl)) ?_
  rintro _ rfl
  refine SWl.rd rfl (Rd.assign rfl) ?_
  refine SWl.nil ?_
  refine SN.then ?_
  refine SW.freezeCN (enc' := encL) 0 0 5 rfl rfl rfl rfl (fun x => ⟨Le.refl _, trivial⟩) ?_
  refine SW.ret (fn := Tryd.f15) (fun _ _ h => h) (Rs.le (Rs.two rfl (ResV.cellA 0 rfl rfl (by kernel_rfl)) (ResV.tmp rfl)) ?_)
  exact (le_nw_tup ⟨(le_nw_agg ⟨(Le.refl _), trivial⟩), le_nw_is, trivial⟩)
end Sx
end Go.Proofs.YtonjpfpdpfonnaaDoor
namespace Go.Proofs.YtonjpfpdpfonnaaDoor
open Go.RowKit
namespace Sx
theorem rep_step {h : List UInt8} {i : Nat} (hi : i < h.length) : (h.take i ++ List.replicate (h.length - i) 0).set i h[i] = h.take (i + 1) ++ List.replicate (h.length - (i + 1)) 0 := by
  apply List.ext_getElem?
  intro q
  by_cases hq : q < h.length
  · rw [List.getElem?_set]
    by_cases e : i = q
    · subst e
      rw [if_pos rfl, if_pos (by simp; omega), List.getElem?_append_left (by simp; omega), List.getElem?_take, if_pos (by omega), List.getElem?_eq_getElem hi]
    · rw [if_neg e]
      by_cases h2 : q < i
      · rw [List.getElem?_append_left (by simp; omega), List.getElem?_append_left (by simp; omega), List.getElem?_take, List.getElem?_take, if_pos h2, if_pos (by omega)]
      · rw [List.getElem?_append_right (by simp; omega), List.getElem?_append_right (by simp; omega)]
        rw [List.getElem?_replicate, List.getElem?_replicate, if_pos (by simp; omega), if_pos (by simp; omega)]
  · rw [List.getElem?_eq_none (by simp; omega), List.getElem?_eq_none (by simp; omega)]
theorem con_hashN (b : List UInt8) (hb : b.length ≤ 1099511627) : Con Tryd.prog 68 [isD (.slice none 0 0), bD b] (bD (HH b)) := con_hashR b hb
def Led.Ent.fit (e : Led.Ent) : Prop := 0 ≤ e.kind ∧ e.kind ≤ 255 ∧ e.bytes.length ≤ 65536
set_option maxHeartbeats 4000000 in
set_option maxRecDepth 100000 in
theorem con_fixed (h : List UInt8) (hh : h.length = 32) : ConN Tryd.prog 67 [bD h] (gD h) := by
  refine con_ofN Tryd.func67 (by kernel_rfl) rfl (by kernel_rfl) fun base w0 => ?_
  refine SW.seq ?_
  refine SW.region ?_
  refine SWl.ef (S := []) (Ef.alloc (zs := cellsOf (List.replicate 32 0)) (by kernel_rfl) rfl) ?_
  rintro _ ⟨g2, rfl⟩
  refine SWl.nil ?_
  refine SN.then ?_
  refine SW.seq ?_
  refine SW.region ?_
  refine SWl.ef (S := []) (Ef.alloc (zs := cellsOf (List.replicate 32 0)) (by kernel_rfl) rfl) ?_
  rintro _ ⟨g3, rfl⟩
  refine SWl.nil ?_
  refine SN.then ?_
  refine SW.seq ?_
  refine SW.seq ?_
  refine SW.region ?_
  refine SWl.rd rfl (Rd.assign rfl) ?_
  refine SWl.nil ?_
  refine SN.then ?_
  refine SW.block ?_
  refine SW.loop (ι := {i : Nat // i ≤ 32}) (fun i => St.ob [(0, bD h), (2, isD (.pointer (some ⟨g2, 0, none⟩))), (3, isD (.pointer (some ⟨g3, 0, none⟩))), (4, iD (i.1 : Int))] [.c g2 ((cellsOf (List.replicate 32 0)).map isD), .c g3 ((cellsOf (h.take i.1 ++ List.replicate (h.length - i.1) 0)).map isD)]) (fun i => 32 - i.1) (⟨0, by omega⟩) ?_ ?_
  · exact ⟨⟨_, rfl, ⟨⟨_, rfl, Le.refl _⟩, ⟨⟨_, rfl, Le.refl _⟩, ⟨⟨_, rfl, Le.refl _⟩, ⟨⟨_, rfl, Le.refl _⟩, trivial⟩⟩⟩⟩⟩, [0, 1], by decide, ⟨⟨_, rfl, LeAll.refl _⟩, ⟨⟨_, rfl, (by rw [hh]; exact LeAll.refl _)⟩, trivial⟩⟩⟩
  · rintro ⟨i, hi⟩ K0 hK0
    dsimp only
    refine SW.seq ?_
    refine SW.seq ?_
    refine SW.region ?_
    refine SWl.rd rfl (Rd.move rfl) ?_
    refine SWl.rd rfl (Rd.lss rfl rfl) ?_
    refine SWl.nil ?_
    refine SN.then ?_
    refine SW.cond rfl (fun hb6 => ?_) (fun hb6 => ?_)
    · have hb6 := of_decide_eq_true hb6
      refine SW.skip ?_
      refine SN.then ?_
      refine SW.seq ?_
      refine SW.block ?_
      refine SW.region ?_
      refine SWl.rd rfl (Rd.move rfl) ?_
      refine SWl.rd rfl (Rd.move rfl) ?_
      refine SWl.rd rfl (Rd.move rfl) ?_
      refine SWl.rd rfl (Rd.idx (e := 5) rfl rfl (by kernel_rfl) (by kernel_rfl) (by omega) (cellsOf_get (by omega))) ?_
      refine SWl.rd rfl (Rd.loadP rfl (by kernel_rfl) (by simp)) ?_
      refine SWl.rd rfl (Rd.idxA1 (e := 5) (n := 32) rfl rfl (by kernel_rfl) (by kernel_rfl) (by omega) (by omega)) ?_
      refine SWl.ef (S := [_]) (Ef.storeB8 (v := h[i]'(by omega)) 1 rfl rfl rfl (by kernel_rfl) (by simp; omega) (List.mem_singleton.2 rfl)) ?_
      rintro _ rfl
      refine SWl.nil ?_
      refine SN.block ?_
      refine SN.then ?_
      refine SW.region ?_
      refine SWl.rd rfl (Rd.move rfl) ?_
      refine SWl.rd rfl (Rd.add rfl rfl ⟨by omega, by omega⟩) ?_
      refine SWl.rd rfl (Rd.assign rfl) ?_
      refine SWl.nil ?_
      exact fun a w hh => hK0 (⟨i + 1, by omega⟩) (by simp only; omega) a w (hh.sub (⟨⟨_, rfl, ⟨⟨_, rfl, Le.refl _⟩, ⟨⟨_, rfl, Le.refl _⟩, ⟨⟨_, rfl, Le.refl _⟩, ⟨⟨_, rfl, Le.refl _⟩, trivial⟩⟩⟩⟩⟩, [0, 1], by decide, ⟨⟨_, rfl, LeAll.refl _⟩, ⟨⟨_, rfl, (by rw [← rep_step (by omega)]; exact LeAll.refl _)⟩, trivial⟩⟩⟩))
    · have hb6 := of_decide_eq_false hb6
      refine SW.exit' ?_
      repeat (first | refine SE.then ?_ | refine SE.skip (by decide) ?_)
      refine SE.here ?_
      refine SN.then ?_
      refine SW.seq ?_
      refine SW.region ?_
      refine SWl.rd rfl (Rd.loadG 1 32 rfl rfl (by kernel_rfl) (by first | assumption | (simp; done) | (simp; omega)) ap_nil) ?_
      refine SWl.ef (S := [_]) (Ef.storeG 0 32 rfl rfl rfl (by kernel_rfl) (by first | assumption | (simp; done) | (simp; omega)) (by first | assumption | (simp; done) | (simp; omega)) (List.mem_singleton.2 rfl)) ?_
      rintro _ rfl
      refine SWl.nil ?_
      refine SN.then ?_
      refine SW.ret (fn := Tryd.f67) (fun _ _ h => h) (Rs.le (Rs.one rfl (ResV.cellG (n := 32) 0 rfl rfl (by kernel_rfl) (by first | assumption | (simp; done) | (simp; omega)))) ?_)
      have e : i = 32 := by omega
      subst e
      exact Le.trans (le_agg_g _) (Le.trans (Le.is (by rw [hh]; simp [← hh])) le_nw_is)
set_option maxHeartbeats 4000000 in
set_option maxRecDepth 100000 in
theorem con_sumR (b : List UInt8) (hb : b.length ≤ 1000000) : ConN Tryd.prog 64 [bD b] (gD (HH b)) := by
  refine con_ofN Tryd.func64 (by kernel_rfl) rfl (by kernel_rfl) fun base w0 => ?_
  refine SW.seq ?_
  refine SW.region ?_
  refine SWl.ef (S := []) (Ef.alloc (zs := cellsOf (List.replicate 32 0)) (by kernel_rfl) rfl) ?_
  rintro _ ⟨g2, rfl⟩
  refine SWl.nil ?_
  refine SN.then ?_
  refine SW.seq ?_
  refine SW.region ?_
  refine SWl.rd rfl (Rd.move rfl) ?_
  refine SWl.ef (S := []) (Ef.call (con_hashN b (by omega)) rfl ⟨Le.refl _, Le.refl _, trivial⟩ rfl) ?_
  rintro _ rfl
  refine SWl.ef (S := []) (Ef.callN [] (con_fixed _ (by simp)) rfl ⟨(sees_le (Le.refl _)), trivial⟩ rfl) ?_
  rintro _ rfl
  refine SWl.ef (S := [_]) (Ef.storeG 0 32 rfl rfl rfl (by kernel_rfl) (by first | assumption | (simp; done) | (simp; omega)) (by first | assumption | (simp; done) | (simp; omega)) (List.mem_singleton.2 rfl)) ?_
  rintro _ rfl
  refine SWl.nil ?_
  refine SN.then ?_
  refine SW.ret (fn := Tryd.f64) (fun _ _ h => h) (Rs.le (Rs.one rfl (ResV.cellG (n := 32) 0 rfl rfl (by kernel_rfl) (by first | assumption | (simp; done) | (simp; omega)))) ?_)
  exact (Le.trans (le_agg_g _) le_nw_is)
set_option maxHeartbeats 4000000 in
set_option maxRecDepth 100000 in
theorem con_sum43 (b : List UInt8) (hb : b.length ≤ 1000000) : ConN Tryd.prog 43 [bD b] (strD (HH b)) := by
  refine con_ofN Tryd.func43 (by kernel_rfl) rfl (by kernel_rfl) fun base w0 => ?_
  refine SW.seq ?_
  refine SW.region ?_
  refine SWl.rd rfl (Rd.assign rfl) ?_
  refine SWl.nil ?_
  refine SN.then ?_
  refine SW.seq ?_
  refine SW.region ?_
  refine SWl.rd rfl (Rd.move rfl) ?_
  refine SWl.ef (S := []) (Ef.callN [] (con_sumR _ (by first | assumption | omega | (simp; omega))) rfl ⟨(sees_le (Le.refl _)), trivial⟩ rfl) ?_
  rintro _ rfl
  refine SWl.ef (S := []) (Ef.alloc (zs := cellsOf (List.replicate 32 0)) (by kernel_rfl) rfl) ?_
  rintro _ ⟨g3, rfl⟩
  refine SWl.ef (S := [_]) (Ef.storeG 0 32 rfl rfl rfl (by kernel_rfl) (by first | assumption | (simp; done) | (simp; omega)) (by first | assumption | (simp; done) | (simp; omega)) (List.mem_singleton.2 rfl)) ?_
  rintro _ rfl
  refine SWl.nil ?_
  refine SN.then ?_
  refine SW.seq ?_
  refine SW.region ?_
  refine SWl.rd rfl (Rd.slArr (e := 5) (n := 32) rfl (by kernel_rfl) (by kernel_rfl)) ?_
  refine SWl.rd rfl (Rd.strBox (e := 5) 0 rfl rfl (by first | assumption | (simp; done) | (simp; omega)) (by kernel_rfl) (by kernel_rfl) (by kernel_rfl) ap_nil) ?_
  refine SWl.rd rfl (Rd.assign rfl) ?_
  refine SWl.nil ?_
  refine SN.then ?_
  refine SW.ret (fn := Tryd.f43) (fun _ _ h => h) (Rs.le (Rs.one rfl (ResV.tmp rfl)) ?_)
  exact le_nw_is
set_option maxHeartbeats 4000000 in
set_option maxRecDepth 100000 in
theorem con_validR (k : Int) (n : Nat) : ConN Tryd.prog 35 [aggD [iD k, lenD n]] (boolD (decide (0 ≤ k ∧ k ≤ 255 ∧ n ≤ 65536))) := by
  refine con_ofN Tryd.func35 (by kernel_rfl) rfl (by kernel_rfl) fun base w0 => ?_
  refine SW.seq ?_
  refine SW.region ?_
  refine SWl.ef (S := []) (Ef.boxA rfl rfl) ?_
  rintro _ ⟨g1, rfl⟩
  refine SWl.rd rfl (Rd.assign rfl) ?_
  refine SWl.nil ?_
  refine SN.then ?_
  refine SW.seq ?_
  refine SW.region ?_
  refine SWl.rd rfl (Rd.fieldAddr (n := 0) rfl (by kernel_rfl)) ?_
  refine SWl.rd rfl (Rd.loadB 0 rfl rfl rfl (by kernel_rfl) ap_nil) ?_
  refine SWl.rd rfl (Rd.geq rfl rfl) ?_
  refine SWl.rd rfl (Rd.move rfl) ?_
  refine SWl.split 6 rfl (fun hb6 => ?_) (fun hb6 => ?_)
  · skip
    refine SWl.rdg rfl rfl (hb6) rfl rfl (Rd.fieldAddr (n := 0) rfl (by kernel_rfl)) ?_
    refine SWl.rdg rfl rfl (hb6) rfl rfl (Rd.loadB 0 rfl rfl rfl (by kernel_rfl) ap_nil) ?_
    refine SWl.rdg rfl rfl (hb6) rfl rfl (Rd.leq rfl rfl) ?_
    refine SWl.rd rfl (Rd.pickY rfl (hb6) rfl) ?_
    refine SWl.rd rfl (Rd.move rfl) ?_
    refine SWl.split 11 rfl (fun hb11 => ?_) (fun hb11 => ?_)
    · skip
      refine SWl.rdg rfl rfl (hb11) rfl rfl (Rd.fieldAddr (n := 1) rfl (by kernel_rfl)) ?_
      refine SWl.rdg rfl rfl (hb11) rfl rfl (Rd.loadB 0 rfl rfl rfl (by kernel_rfl) ap_nil) ?_
      refine SWl.rdg rfl rfl (hb11) rfl rfl (Rd.lenN (e := 5) rfl (by kernel_rfl)) ?_
      refine SWl.rdg rfl rfl (hb11) rfl rfl (Rd.leq rfl rfl) ?_
      refine SWl.rd rfl (Rd.pickY rfl (hb11) rfl) ?_
      refine SWl.rd rfl (Rd.assign rfl) ?_
      refine SWl.nil ?_
      refine SN.then ?_
      refine SW.ret (fn := Tryd.f35) (fun _ _ h => h) (Rs.le (Rs.one rfl (ResV.tmp rfl)) ?_)
      exact le_bool_n (by rw [Bool.eq_iff_iff]; simp at *; omega)
    · skip
      refine SWl.off rfl rfl (hb11) rfl rfl ?_
      refine SWl.off rfl rfl (hb11) rfl rfl ?_
      refine SWl.off rfl rfl (hb11) rfl rfl ?_
      refine SWl.off rfl rfl (hb11) rfl rfl ?_
      refine SWl.rd rfl (Rd.pickN rfl (hb11) rfl) ?_
      refine SWl.rd rfl (Rd.assign rfl) ?_
      refine SWl.nil ?_
      refine SN.then ?_
      refine SW.ret (fn := Tryd.f35) (fun _ _ h => h) (Rs.le (Rs.one rfl (ResV.tmp rfl)) ?_)
      exact le_bool_n (by rw [Bool.eq_iff_iff]; simp at *; omega)
  · skip
    refine SWl.off rfl rfl (hb6) rfl rfl ?_
    refine SWl.off rfl rfl (hb6) rfl rfl ?_
    refine SWl.off rfl rfl (hb6) rfl rfl ?_
    refine SWl.rd rfl (Rd.pickN rfl (hb6) rfl) ?_
    refine SWl.rd rfl (Rd.move rfl) ?_
    refine SWl.off rfl rfl (rfl) rfl rfl ?_
    refine SWl.off rfl rfl (rfl) rfl rfl ?_
    refine SWl.off rfl rfl (rfl) rfl rfl ?_
    refine SWl.off rfl rfl (rfl) rfl rfl ?_
    refine SWl.rd rfl (Rd.pickN rfl (rfl) rfl) ?_
    refine SWl.rd rfl (Rd.assign rfl) ?_
    refine SWl.nil ?_
    refine SN.then ?_
    refine SW.ret (fn := Tryd.f35) (fun _ _ h => h) (Rs.le (Rs.one rfl (ResV.tmp rfl)) ?_)
    exact le_bool_n (by rw [Bool.eq_iff_iff]; simp at *; omega)
set_option maxHeartbeats 4000000 in
set_option maxRecDepth 100000 in
theorem con_leafR (k : Int) (b : List UInt8) (hb : b.length ≤ 65536) (hk : 0 ≤ k ∧ k ≤ 255) : ConN Tryd.prog 44 [aggD [iD k, bD b]] (strD (Led.leaf HH ⟨k, b⟩)) := by
  refine con_ofN Tryd.func44 (by kernel_rfl) rfl (by kernel_rfl) fun base w0 => ?_
  refine SW.seq ?_
  refine SW.region ?_
  refine SWl.ef (S := []) (Ef.boxA rfl rfl) ?_
  rintro _ ⟨g1, rfl⟩
  refine SWl.rd rfl (Rd.assign rfl) ?_
  refine SWl.nil ?_
  refine SN.then ?_
  refine SW.seq ?_
  refine SW.region ?_
  refine SWl.rd rfl (Rd.fieldAddr (n := 0) rfl (by kernel_rfl)) ?_
  refine SWl.rd rfl (Rd.loadB 0 rfl rfl rfl (by kernel_rfl) ap_nil) ?_
  refine SWl.rd rfl (Rd.cvW .i64 rfl (by kernel_rfl) (by kernel_rfl) (wrap_b8 hk.1 hk.2)) ?_
  refine SWl.ef (S := []) (Ef.litV (e := 5) (b := [0, UInt8.ofNat k.toNat]) rfl rfl rfl (by decide) (fun w => by kernel_rfl) rfl) ?_
  rintro _ ⟨g6, rfl⟩
  refine SWl.rd rfl (Rd.fieldAddr (n := 1) rfl (by kernel_rfl)) ?_
  refine SWl.rd rfl (Rd.loadB 0 rfl rfl rfl (by kernel_rfl) ap_nil) ?_
  refine SWl.ef (Ef.appT 1 1 1 rfl rfl (SrcT.b rfl) (by kernel_rfl) (by kernel_rfl) (by simp <;> omega) (by decide) (fun _ h => h) rfl) ?_
  rintro _ ⟨A9, F9, c9, rfl⟩
  refine SWl.freezeT 1 9 rfl rfl (le_ls_b _) ?_
  refine SWl.ef (S := []) (Ef.callN [] (con_sum43 _ (by first | assumption | omega | (simp; omega))) rfl ⟨(sees_le (Le.refl _)), trivial⟩ rfl) ?_
  rintro _ rfl
  refine SWl.rd rfl (Rd.assign rfl) ?_
  refine SWl.nil ?_
  refine SN.then ?_
  refine SW.ret (fn := Tryd.f44) (fun _ _ h => h) (Rs.le (Rs.one rfl (ResV.tmp rfl)) ?_)
  exact le_nw_is
set_option maxHeartbeats 4000000 in
set_option maxRecDepth 100000 in
theorem con_splitR (n : Nat) (h2 : 2 ≤ n) (hn : n ≤ 1000000) : ConN Tryd.prog 45 [iD (n : Int)] (iD (Led.bl n : Int)) := by
  refine con_ofN Tryd.func45 (by kernel_rfl) rfl (by kernel_rfl) fun base w0 => ?_
  refine SW.seq ?_
  refine SW.region ?_
  refine SWl.rd rfl (Rd.assign rfl) ?_
  refine SWl.nil ?_
  refine SN.then ?_
  refine SW.seq ?_
  refine SW.region ?_
  refine SWl.rd rfl (Rd.assign rfl) ?_
  refine SWl.nil ?_
  refine SN.then ?_
  refine SW.seq ?_
  refine SW.block ?_
  refine SW.loop (ι := {i : Nat // 2 ^ i < n}) (fun i => St.ob [(0, iD (n : Int)), (3, iD ((2 ^ i.1 : Nat) : Int))] []) (fun i => n - 2 ^ i.1) (⟨0, by rw [Nat.pow_zero]; omega⟩) ?_ ?_
  · exact ⟨⟨_, rfl, ⟨⟨_, rfl, Le.refl _⟩, ⟨⟨_, rfl, Le.refl _⟩, trivial⟩⟩⟩, [], by decide, trivial⟩
  · rintro ⟨i, hi⟩ K0 hK0
    dsimp only
    have hp : 0 < 2 ^ i := Nat.pow_pos (by decide)
    refine SW.seq ?_
    refine SW.seq ?_
    refine SW.region ?_
    refine SWl.rd rfl (Rd.move rfl) ?_
    refine SWl.rd rfl (Rd.move rfl) ?_
    refine SWl.rd rfl (Rd.add rfl rfl ⟨by omega, by omega⟩) ?_
    refine SWl.rd rfl (Rd.move rfl) ?_
    refine SWl.rd rfl (Rd.lss rfl rfl) ?_
    refine SWl.nil ?_
    refine SN.then ?_
    refine SW.cond rfl (fun hb8 => ?_) (fun hb8 => ?_)
    · have hb8 := of_decide_eq_true hb8
      refine SW.skip ?_
      refine SN.then ?_
      refine SW.block ?_
      refine SW.region ?_
      refine SWl.rd rfl (Rd.move rfl) ?_
      refine SWl.rd rfl (Rd.move rfl) ?_
      refine SWl.rd rfl (Rd.add rfl rfl ⟨by omega, by omega⟩) ?_
      refine SWl.rd rfl (Rd.assign rfl) ?_
      refine SWl.nil ?_
      refine SN.block ?_
      exact fun a w hh => hK0 (⟨i + 1, by rw [Nat.pow_succ]; omega⟩) (by simp only; rw [Nat.pow_succ]; omega) a w (hh.sub (⟨⟨_, rfl, ⟨⟨_, rfl, Le.refl _⟩, ⟨⟨_, rfl, Le.is (by rw [Nat.pow_succ]; congr 1; omega)⟩, trivial⟩⟩⟩, [], by decide, trivial⟩))
    · have hb8 := of_decide_eq_false hb8
      refine SW.exit' ?_
      repeat (first | refine SE.then ?_ | refine SE.skip (by decide) ?_)
      refine SE.here ?_
      refine SN.then ?_
      refine SW.seq ?_
      refine SW.region ?_
      refine SWl.rd rfl (Rd.move rfl) ?_
      refine SWl.rd rfl (Rd.assign rfl) ?_
      refine SWl.nil ?_
      refine SN.then ?_
      refine SW.ret (fn := Tryd.f45) (fun _ _ h => h) (Rs.le (Rs.one rfl (ResV.tmp rfl)) ?_)
      exact Le.trans (Le.is (by rw [Led.bl_uniq (i := i) hi (by omega)])) le_nw_is
end Sx
end Go.Proofs.YtonjpfpdpfonnaaDoor
namespace Go.Proofs.YtonjpfpdpfonnaaDoor
open Go.RowKit
namespace Sx
theorem cons_le (l : List Led.Ent) (m : Nat) (o : Bool) (h0 : 0 < m) (h : m ≤ l.length) : (Led.cons HH l m o).length ≤ l.length := by
  have := cons_sub_le l l.length 0 m o h0 h (by omega)
  simpa using this
/-- The forms of entries. -/
def be4 (n : Nat) : List UInt8 := [UInt8.ofNat (n / 16777216), UInt8.ofNat (n / 65536), UInt8.ofNat (n / 256), UInt8.ofNat n]
def encF (e : Led.Ent) : List UInt8 := (UInt8.ofNat e.kind.toNat :: be4 e.bytes.length) ++ e.bytes
def encAll (l : List Led.Ent) : List UInt8 := l.flatMap encF
def szs (l : List Led.Ent) : Nat := (l.map fun e => 5 + e.bytes.length).sum
theorem szs_snoc (l : List Led.Ent) (e : Led.Ent) : szs (l ++ [e]) = szs l + (5 + e.bytes.length) := by simp [szs]
theorem encAll_len (l : List Led.Ent) : (encAll l).length = szs l := by
  induction l with
  | nil => rfl
  | cons e l ih =>
    have h1 : encAll (e :: l) = encF e ++ encAll l := rfl
    have h2 : szs (e :: l) = (5 + e.bytes.length) + szs l := by simp [szs]
    rw [h1, h2, List.length_append, ih]
    simp [encF, be4]
    omega
theorem szs_le : ∀ (l : List Led.Ent), (∀ e ∈ l, Led.Ent.fit e) → szs l ≤ 65541 * l.length
  | [], _ => by simp [szs]
  | e :: l, h => by
    have h1 := szs_le l (fun x hx => h x (by simp [hx]))
    have h2 := (h e (by simp)).2.2
    have h3 : szs (e :: l) = (5 + e.bytes.length) + szs l := by simp [szs]
    rw [h3, List.length_cons]
    omega
theorem take_snoc {α : Type} {l : List α} {i : Nat} {e : α} (h : l[i]? = some e) : l.take (i + 1) = l.take i ++ [e] := by
  obtain ⟨h1, h2⟩ := List.getElem?_eq_some_iff.1 h
  rw [← h2, List.take_succ_eq_append_getElem h1]
theorem wrap_b8n (m : Nat) : IntKind.u8.wrap (m : Int) = ((UInt8.ofNat m).toNat : Int) := by
  have : IntKind.u8.wrap (m : Int) = (m : Int) % 256 := by simp [IntKind.wrap, IntKind.signed, IntKind.bits]
  rw [this]
  simp
theorem shr_n (m k : Nat) (hk : k < 64) : (m : Int) / 2 ^ (min k IntKind.i64.bits) = ((m / 2 ^ k : Nat) : Int) := by
  rw [Nat.min_eq_left (by simp [IntKind.bits]; omega)]
  simp
theorem allc {L : List Nat} {w : World} {d : D} {ds : List D} : ∀ {vs : List Value}, All L w (d :: ds) vs → ∃ u us, vs = u :: us ∧ d.R L w u ∧ All L w ds us
  | [], h => h.elim
  | u :: us, h => ⟨u, us, rfl, h.1, h.2⟩
theorem blsB5 (a b c d e : UInt8) : Bls Tryd.prog 28 5 [0, 1, 2, 3, 4] [isD (B8 a), isD (B8 b), isD (B8 c), isD (B8 d), isD (B8 e)] ([a, b, c, d, e].flatMap encB) := ⟨5, fun L w vs hv => by
  obtain ⟨u, v1, rfl, rfl, h1⟩ := allc hv
  obtain ⟨v, v2, rfl, rfl, h2⟩ := allc h1
  obtain ⟨x, y, z, rfl, rfl, rfl, rfl⟩ := all3 h2
  exact ⟨[B8 a, B8 b, B8 c, B8 d, B8 e], ⟨rfl, rfl, rfl, rfl, rfl, trivial⟩, fun w' => by kernel_rfl⟩⟩
end Sx
end Go.Proofs.YtonjpfpdpfonnaaDoor
