/-
  ACCOUNTS: AccountFull.
-/
import Derived.Test.YtgcnpnbgjejkaaaA16
namespace Go.Proofs.Ytgcnpnbgjejkaaa
open Go.RowKit
namespace Sx
theorem Ef.lit2 {P : Program} {Γ : Cx} {σ : St} {S : List Nat} {ty : TypeId} {pos : String} {af : Array Edge} {gd : Option (Nat × Bool)} {x y : Operand} {T e k : Nat} {u v : UInt8} (hx : σ.ev x = some (isD (B8 u))) (hy : σ.ev y = some (isD (B8 v))) (hk : dstOk Γ.nt k = true)
    (hrun : ∀ w : World, (Instr.buildSlice T 2 [(0, B8 u), (1, B8 v)].toArray).run P w = .ok (.slice (some ⟨w.heap.size, 0, none⟩) 2 2) (w.alloc (.cells #[B8 u, B8 v] e))) :
    Ef P Γ S ⟨some k, .buildSlice T 2 #[(0, x), (1, y)], ty, pos, af, gd⟩ σ (fun σ' => σ' = σ.put k (slD (cellsOf [u, v]))) :=
  Ef.lit (parts := [(0, x), (1, y)]) (xs := [B8 u, B8 v]) (e := e) (by simp [St.evs, hx, hy]) hk hrun
theorem bldA4n {n : List UInt8} {r m : Int} {b : List UInt8} : Bld Try.prog 34 [0, 1, 2, 4] [strD n, iD r, bD b, iD m] [strD n, iD r, bD b, iD 0, iD m] := fun L w vs hv => by
  match vs, hv with
  | [x, y, z, u], ⟨hx, hy, h3, hu, _⟩ =>
    cases hx; cases hy; cases hu
    have h3' := h3
    obtain ⟨A, cp, rfl, -⟩ := h3
    exact ⟨[.string _, .int .i64 r, .slice A _ cp, .int .i64 0, .int .i64 m], ⟨rfl, rfl, h3', rfl, rfl, trivial⟩, fun w' => by kernel_rfl⟩
namespace Ful
def c1 (i : Nat) : UInt8 := UInt8.ofNat (97 + i / 16)
def c2 (i : Nat) : UInt8 := UInt8.ofNat (97 + i % 16)
theorem c1_nat {i : Nat} (h : i < 256) : (c1 i).toNat = 97 + i / 16 := by unfold c1; rw [UInt8.toNat_ofNat']; omega
theorem c2_nat {i : Nat} : (c2 i).toNat = 97 + i % 16 := by unfold c2; rw [UInt8.toNat_ofNat']; omega
theorem c1_w {i : Nat} (h : i < 256) : IntKind.u8.wrap (97 + (i : Int) / 16) = ((c1 i).toNat : Int) := by rw [wrap8, c1_nat h]; omega
theorem c2_w {i : Nat} : IntKind.u8.wrap (97 + (i : Int) % 16) = ((c2 i).toNat : Int) := by rw [wrap8, c2_nat]; omega
theorem i_w {i : Nat} (h : i < 256) : IntKind.u8.wrap (i : Int) = ((UInt8.ofNat i).toNat : Int) := by rw [wrap8, UInt8.toNat_ofNat']; omega
def fa (i : Nat) : Acc.T := ⟨[110] ++ [c1 i, c2 i], 1, List.replicate 32 (UInt8.ofNat i), 0, i⟩
def Fl (n : Nat) : List Acc.T := (List.range n).map fa
theorem fl_succ (i : Nat) : Fl (i + 1) = Fl i ++ [fa i] := by unfold Fl; rw [List.range_succ, List.map_append]; rfl
theorem fl_len (n : Nat) : (Fl n).length = n := by simp [Fl]
theorem fl_mem {n : Nat} {x : Acc.T} : x ∈ Fl n ↔ ∃ j, j < n ∧ fa j = x := by simp [Fl]
theorem fa_lt {j i : Nat} (h : j < i) (hi : i < 256) : Acc.lt (fa j).name (fa i).name = true := by
  have e : ∀ k, (fa k).name = [110, c1 k, c2 k] := fun _ => rfl
  rw [e, e]
  have h1 := c1_nat (show j < 256 by omega)
  have h2 := c1_nat hi
  have h3 := c2_nat (i := j)
  have h4 := c2_nat (i := i)
  have hc : c1 j < c1 i ∨ (c1 j = c1 i ∧ c2 j < c2 i) := by
    by_cases hq : j / 16 = i / 16
    · refine .inr ⟨UInt8.toNat_inj.1 (by rw [h1, h2, hq]), UInt8.lt_iff_toNat_lt.2 (by rw [h3, h4]; omega)⟩
    · exact .inl (UInt8.lt_iff_toNat_lt.2 (by rw [h1, h2]; omega))
  rcases hc with hc | ⟨hc, hd⟩
  · simp [Acc.lt, Op.bytesLess, hc]
  · simp [Acc.lt, Op.bytesLess, hc, hd]
theorem fa_ok {i : Nat} (h : i < 256) : Acc.ok (fa i) := by
  have h1 := c1_nat h
  have h2 := c2_nat (i := i)
  refine ⟨⟨fun c hc => ?_, by simp [fa], by simp [fa]⟩, by simp [fa], by simp [fa], by simp [fa], by simp [fa], ?_⟩
  · have e : (fa i).name = [110, c1 i, c2 i] := rfl
    rw [e] at hc
    simp only [List.mem_cons, List.not_mem_nil, or_false] at hc
    rcases hc with rfl | rfl | rfl
    · exact .inl ⟨by decide, by decide⟩
    · exact .inl ⟨by omega, by omega⟩
    · exact .inl ⟨by omega, by omega⟩
  · show ((i : Nat) : Int) < Acc.nums 1
    rw [show Acc.nums 1 = 512 from rfl]
    omega
theorem fl_add {i : Nat} (h : i < 256) : Acc.add (Fl i) (fa i) = (Fl (i + 1), 0) := by
  have hlt : ∀ x ∈ Fl i, Acc.lt x.name (fa i).name = true := fun x hx => by
    obtain ⟨j, hj, rfl⟩ := fl_mem.1 hx
    exact fa_lt hj h
  rw [Acc.add_ok (fa_ok h) ?_ (by rw [fl_len]; omega), fl_succ]
  · obtain ⟨h1, h2⟩ := while_all (p := fun x : Acc.T => Acc.lt x.name (fa i).name) hlt
    unfold Acc.ins
    rw [h1, h2]
  · rintro ⟨x, hx, hc⟩
    have hl := hlt x hx
    obtain ⟨j, hj, rfl⟩ := fl_mem.1 hx
    rcases hc with e | ⟨_, e, _⟩
    · exact Acc.lt_ne hl e
    · have : ((j : Nat) : Int) = (i : Int) := e
      omega
theorem fl_fine : ∀ {n : Nat}, n ≤ 256 → Acc.Fine (Fl n)
  | 0, _ => Acc.Fine.nil
  | n + 1, h => by
    have hf := (fl_fine (n := n) (by omega)).add (fa n)
    rw [fl_add (by omega)] at hf
    exact hf
abbrev aZ (k : UInt8) : Acc.T := ⟨[122], 3, List.replicate 32 k, 0, 0⟩
abbrev aN (k : UInt8) : Acc.T := ⟨[110, 97, 97], 3, List.replicate 32 k, 0, 0⟩
theorem z_ok (k : UInt8) : Acc.ok (aZ k) := show Acc.okN [122] 3 (List.replicate 32 k).length 0 0 from by rw [List.length_replicate]; decide
theorem n_ok (k : UInt8) : Acc.ok (aN k) := show Acc.okN [110, 97, 97] 3 (List.replicate 32 k).length 0 0 from by rw [List.length_replicate]; decide
theorem z_no (k : UInt8) {l : List Acc.T} (hl : ∀ x ∈ l, x ∈ Fl 256) : ¬ ∃ x ∈ l, Acc.clash (aZ k) x := by
  rintro ⟨x, hx, hc⟩
  obtain ⟨j, hj, rfl⟩ := fl_mem.1 (hl x hx)
  rcases hc with e | ⟨_, _, e⟩
  · exact absurd (congrArg List.length e) (by simp [fa])
  · exact e rfl
theorem add_z (k : UInt8) : Acc.add (Fl 256) (aZ k) = (Fl 256, 7) := Acc.add_full (z_ok k) (z_no k fun _ h => h) (by rw [fl_len]; exact Nat.le_refl _)
theorem add_n (k : UInt8) : Acc.add (Fl 256) (aN k) = (Fl 256, 11) := Acc.add_busy (n_ok k) ⟨fa 0, fl_mem.2 ⟨0, by decide, rfl⟩, .inl (show [110] ++ [c1 0, c2 0] = ([110, 97, 97] : List UInt8) from by decide)⟩
abbrev nbb : List UInt8 := [110, 98, 98]
theorem rem_b : Acc.remove (Fl 256) nbb = (Acc.del (Fl 256) nbb, 0) := by rw [Acc.remove_eq, if_pos ⟨fa 17, fl_mem.2 ⟨17, by decide, rfl⟩, by decide⟩]
theorem del_len : (Acc.del (Fl 256) nbb).length = 255 := by
  rw [Acc.del_eq (fl_fine (Nat.le_refl _)).srt ⟨fa 17, fl_mem.2 ⟨17, by decide, rfl⟩, by decide⟩, List.length_eraseIdx, fl_len]
  have h := ((Acc.pos_found (fl_fine (Nat.le_refl 256)).srt (n := nbb)).2 ⟨fa 17, fl_mem.2 ⟨17, by decide, rfl⟩, by decide⟩).1
  rw [fl_len] at h
  rw [if_pos h]
theorem add_z2 (k : UInt8) : ∃ m, Acc.add (Acc.del (Fl 256) nbb) (aZ k) = (m, 0) := ⟨_, Acc.add_ok (z_ok k) (z_no k fun _ h => (Acc.mem_del.1 h).1) (by rw [del_len]; decide)⟩
end Ful
set_option maxHeartbeats 4000000 in
set_option maxRecDepth 100000 in
theorem accountFull_con (last : UInt8) : ConN Try.prog 3 [isD (B8 last)] (boolD true) := by
  refine con_ofN Try.func3 (by kernel_rfl) rfl (by kernel_rfl) fun base w0 => ?_
  refine SW.seq ?_
  refine SW.region ?_
  refine SWl.rd rfl (Rd.assign rfl) ?_
  refine SWl.nil ?_
  refine SN.then ?_
  refine SW.seq ?_
  refine SW.region ?_
  refine SWl.rd rfl (Rd.build rfl rfl bldBk0) ?_
  refine SWl.ef (S := []) (Ef.boxA rfl rfl) ?_
  rintro _ ⟨g6, rfl⟩
  refine SWl.rd rfl (Rd.assign rfl) ?_
  refine SWl.nil ?_
  refine SN.then ?_
  refine SW.seq ?_
  refine SW.seq ?_
  refine SW.vecN 9 1 encT ?_
  refine SW.mapQN encS (acD []) ?_
  refine SW.mapQN encSt (seD []) ?_
  refine SW.sub (σ' := St.ob [(0, isD (B8 last)), (3, isD (.pointer (some ⟨g6, 0, none⟩)))] [.c g6 [isD (.map ((⟨none, [], [], ⟨none, 0, []⟩⟩ : Bst).M.map Prod.fst)), isD (.slice (⟨none, [], [], ⟨none, 0, []⟩⟩ : Bst).n.A (Acc.nm (Ful.Fl 0)).length (⟨none, [], [], ⟨none, 0, []⟩⟩ : Bst).n.c), isD (.map ((⟨none, [], [], ⟨none, 0, []⟩⟩ : Bst).M.map Prod.snd))], .r (⟨none, [], [], ⟨none, 0, []⟩⟩ : Bst).n.F (vecT 9 1 encT (⟨none, [], [], ⟨none, 0, []⟩⟩ : Bst).n.A (⟨none, [], [], ⟨none, 0, []⟩⟩ : Bst).n.c (Acc.nm (Ful.Fl 0))), .r (⟨none, [], [], ⟨none, 0, []⟩⟩ : Bst).F1 (mapQ ((⟨none, [], [], ⟨none, 0, []⟩⟩ : Bst).M.map Prod.fst) encS (Acc.nm (Ful.Fl 0)) (acD (Ful.Fl 0))), .r (⟨none, [], [], ⟨none, 0, []⟩⟩ : Bst).F2 (mapQ ((⟨none, [], [], ⟨none, 0, []⟩⟩ : Bst).M.map Prod.snd) encSt (Acc.seats (Ful.Fl 0)) (seD (Ful.Fl 0)))]) (⟨⟨_, rfl, ⟨⟨_, rfl, Le.refl _⟩, ⟨⟨_, rfl, Le.refl _⟩, trivial⟩⟩⟩, [0, 1, 2, 3], by decide, ⟨⟨_, rfl, LeAll.refl _⟩, ⟨⟨_, rfl, LeR.refl _⟩, ⟨⟨_, rfl, LeR.refl _⟩, ⟨⟨_, rfl, LeR.refl _⟩, trivial⟩⟩⟩⟩⟩) ?_
  refine SW.region ?_
  refine SWl.rd rfl (Rd.assign rfl) ?_
  refine SWl.nil ?_
  refine SN.then ?_
  refine SW.block ?_
  refine SW.loop (ι := {p : Nat × Bst // p.1 ≤ 256}) (fun ⟨(i, s), hi⟩ => St.ob [(0, isD (B8 last)), (3, isD (.pointer (some ⟨g6, 0, none⟩))), (4, iD (i : Int))] [.c g6 [isD (.map (s.M.map Prod.fst)), isD (.slice s.n.A (Acc.nm (Ful.Fl i)).length s.n.c), isD (.map (s.M.map Prod.snd))], .r s.n.F (vecT 9 1 encT s.n.A s.n.c (Acc.nm (Ful.Fl i))), .r s.F1 (mapQ (s.M.map Prod.fst) encS (Acc.nm (Ful.Fl i)) (acD (Ful.Fl i))), .r s.F2 (mapQ (s.M.map Prod.snd) encSt (Acc.seats (Ful.Fl i)) (seD (Ful.Fl i)))]) (fun ⟨(i, s), hi⟩ => 256 - i) (⟨(0, ⟨none, [], [], ⟨none, 0, []⟩⟩), by decide⟩) ?_ ?_
  · exact ⟨⟨_, rfl, ⟨⟨_, rfl, Le.refl _⟩, ⟨⟨_, rfl, Le.refl _⟩, ⟨⟨_, rfl, Le.refl _⟩, trivial⟩⟩⟩⟩, [0, 1, 2, 3], by decide, ⟨⟨_, rfl, LeAll.refl _⟩, ⟨⟨_, rfl, LeR.refl _⟩, ⟨⟨_, rfl, LeR.refl _⟩, ⟨⟨_, rfl, LeR.refl _⟩, trivial⟩⟩⟩⟩⟩
  · rintro ⟨⟨i, s⟩, hi⟩ K0 hK0
    dsimp only at hi ⊢
    refine SW.seq ?_
    refine SW.seq ?_
    refine SW.region ?_
    refine SWl.rd rfl (Rd.move rfl) ?_
    refine SWl.rd rfl (Rd.lss rfl rfl) ?_
    refine SWl.nil ?_
    refine SN.then ?_
    refine SW.cond rfl (fun hb8 => ?_) (fun hb8 => ?_)
    · have hb8 := of_decide_eq_true hb8
      refine SW.skip ?_
      refine SN.then ?_
      refine SW.seq ?_
      refine SW.block ?_
      refine SW.seq ?_
      have hlt : i < 256 := by omega
      refine SW.meet (fun σ => ∃ s28 : Bst, σ = St.ob [(0, isD (B8 last)), (3, isD (.pointer (some ⟨g6, 0, none⟩))), (4, iD (i : Int)), (29, boolD false)] [.c g6 [isD (.map (s28.M.map Prod.fst)), isD (.slice s28.n.A (Acc.nm (Ful.Fl (i + 1))).length s28.n.c), isD (.map (s28.M.map Prod.snd))], .r s28.n.F (vecT 9 1 encT s28.n.A s28.n.c (Acc.nm (Ful.Fl (i + 1)))), .r s28.F1 (mapQ (s28.M.map Prod.fst) encS (Acc.nm (Ful.Fl (i + 1))) (acD (Ful.Fl (i + 1)))), .r s28.F2 (mapQ (s28.M.map Prod.snd) encSt (Acc.seats (Ful.Fl (i + 1))) (seD (Ful.Fl (i + 1))))]) ?_ ?_
      · refine SW.draw (g6 :: (s.n.F ++ (s.F1 ++ (s.F2 ++ [])))) (.r 0 (.r 1 (.r 2 (.r 3 (.r 4 (.r 5 (.r 6 (.r 7 (.r 8 (.r 12 (.r 13 (.r 15 (.n 9 (.r 10 (.r 11 (.n 14 (.r 16 (.e 17 (.r 18 .fin) .no)) .no))) (.n 14 (.n 9 (.r 10 (.r 11 (.r 16 (.e 17 (.r 18 .fin) .no)))) .no) .no)))))))))))))) (by kernel_rfl) (by kernel_rfl) (fun d _ _ _ _ h => by cases d <;> exact h) ?_
        refine SWz.rd (i := 0) rfl rfl (Rd.move rfl) ?_
        refine SWz.rd (i := 1) rfl rfl (Rd.move rfl) ?_
        refine SWz.rd (i := 2) rfl rfl (Rd.quoN rfl rfl ⟨by omega, by omega, by omega⟩) ?_
        refine SWz.rd (i := 3) rfl rfl (Rd.add rfl rfl ⟨by omega, by omega⟩) ?_
        refine SWz.rd (i := 4) rfl rfl (Rd.cvW (r := ((Ful.c1 i).toNat : Int)) .i64 rfl (by kernel_rfl) (by kernel_rfl) (Ful.c1_w hlt)) ?_
        refine SWz.rd (i := 5) rfl rfl (Rd.move rfl) ?_
        refine SWz.rd (i := 6) rfl rfl (Rd.remN rfl rfl ⟨by omega, by omega⟩) ?_
        refine SWz.rd (i := 7) rfl rfl (Rd.add rfl rfl ⟨by omega, by omega⟩) ?_
        refine SWz.rd (i := 8) rfl rfl (Rd.cvW (r := ((Ful.c2 i).toNat : Int)) .i64 rfl (by kernel_rfl) (by kernel_rfl) Ful.c2_w) ?_
        refine SWz.rd (i := 12) rfl rfl (Rd.move rfl) ?_
        refine SWz.rd (i := 13) rfl rfl (Rd.cvW (r := ((UInt8.ofNat i).toNat : Int)) .i64 rfl (by kernel_rfl) (by kernel_rfl) (Ful.i_w hlt)) ?_
        refine SWz.rd (i := 15) rfl rfl (Rd.move rfl) ?_
        refine SWz.efn (i := 9) rfl (Ef.lit2 (e := 5) (u := Ful.c1 i) (v := Ful.c2 i) rfl rfl rfl (fun w => by kernel_rfl)) ?_ ?_
        · rintro _ rfl
          refine SWz.rd (i := 10) rfl rfl (Rd.str (e := 5) rfl (by kernel_rfl) (by kernel_rfl) (by kernel_rfl) (ins_cons (j := 0) rfl (ins_app (j := 1) rfl (ins_app (j := 2) rfl (ins_app (j := 3) rfl ins_nil))))) ?_
          refine SWz.rd (i := 11) rfl rfl (Rd.sadd rfl rfl (by simp)) ?_
          refine SWz.efn (i := 14) rfl (Ef.call (con_key (UInt8.ofNat i)) rfl ⟨Le.refl _, trivial⟩ rfl) ?_ SWz.no
          rintro _ rfl
          refine SWz.rd (i := 16) rfl rfl (Rd.build rfl rfl (bldA4n (n := [110] ++ [Ful.c1 i, Ful.c2 i]) (r := 1) (m := (i : Int)))) ?_
          refine SWz.lookA5 27 rfl fun A27 c27 => ?_
          refine SWz.efe (i := 17) rfl (Ef.callR [0, 1, 2, 3, 4] (con_add_to (gb := g6) (s := s) (l := (Ful.Fl i)) (a := (Ful.fa i)) (A := A27) (c := c27) (isView_viewB _ _ _ _ rfl) (Ful.fl_fine (by omega)) (Ful.fl_add hlt)) rfl ⟨Le.refl _, Le.refl _, trivial⟩ (by decide) ⟨⟨_, rfl, LeAll.refl _⟩, ⟨⟨_, rfl, LeR.refl _⟩, ⟨⟨_, rfl, LeR.refl _⟩, ⟨⟨_, rfl, LeR.refl _⟩, ⟨⟨_, rfl, LeR.refl _⟩, trivial⟩⟩⟩⟩⟩ (fin_c (List.mem_cons_self) (fin_r (fun _ h => List.mem_cons_of_mem _ (List.mem_append_left _ h)) (fin_r (fun _ h => List.mem_cons_of_mem _ (List.mem_append_right _ (List.mem_append_left _ h))) (fin_r (fun _ h => List.mem_cons_of_mem _ (List.mem_append_right _ (List.mem_append_right _ (List.mem_append_left _ h)))) (fin_r (by simp) fin_nil))))) rfl) ?_ SWz.no
          rintro _ ⟨s28, rfl⟩
          refine SWz.rd (i := 18) rfl rfl (Rd.nei rfl rfl) ?_
          refine SWz.nil ?_
          exact SN.meet ⟨s28, rfl⟩ (⟨⟨_, rfl, ⟨⟨_, rfl, Le.refl _⟩, ⟨⟨_, rfl, Le.refl _⟩, ⟨⟨_, rfl, Le.refl _⟩, ⟨⟨_, rfl, Le.is (by simp)⟩, trivial⟩⟩⟩⟩⟩, [0, 1, 2, 3], by decide, ⟨⟨_, rfl, LeAll.refl _⟩, ⟨⟨_, rfl, LeR.refl _⟩, ⟨⟨_, rfl, LeR.refl _⟩, ⟨⟨_, rfl, LeR.refl _⟩, trivial⟩⟩⟩⟩⟩)
        refine SWz.efn (i := 14) rfl (Ef.call (con_key (UInt8.ofNat i)) rfl ⟨Le.refl _, trivial⟩ rfl) ?_ SWz.no
        rintro _ rfl
        refine SWz.efn (i := 9) rfl (Ef.lit2 (e := 5) (u := Ful.c1 i) (v := Ful.c2 i) rfl rfl rfl (fun w => by kernel_rfl)) ?_ SWz.no
        rintro _ rfl
        refine SWz.rd (i := 10) rfl rfl (Rd.str (e := 5) rfl (by kernel_rfl) (by kernel_rfl) (by kernel_rfl) (ins_cons (j := 0) rfl (ins_app (j := 1) rfl (ins_app (j := 2) rfl (ins_app (j := 3) rfl ins_nil))))) ?_
        refine SWz.rd (i := 11) rfl rfl (Rd.sadd rfl rfl (by simp)) ?_
        refine SWz.rd (i := 16) rfl rfl (Rd.build rfl rfl (bldA4n (n := [110] ++ [Ful.c1 i, Ful.c2 i]) (r := 1) (m := (i : Int)))) ?_
        refine SWz.lookA5 27 rfl fun A27 c27 => ?_
        refine SWz.efe (i := 17) rfl (Ef.callR [0, 1, 2, 3, 4] (con_add_to (gb := g6) (s := s) (l := (Ful.Fl i)) (a := (Ful.fa i)) (A := A27) (c := c27) (isView_viewB _ _ _ _ rfl) (Ful.fl_fine (by omega)) (Ful.fl_add hlt)) rfl ⟨Le.refl _, Le.refl _, trivial⟩ (by decide) ⟨⟨_, rfl, LeAll.refl _⟩, ⟨⟨_, rfl, LeR.refl _⟩, ⟨⟨_, rfl, LeR.refl _⟩, ⟨⟨_, rfl, LeR.refl _⟩, ⟨⟨_, rfl, LeR.refl _⟩, trivial⟩⟩⟩⟩⟩ (fin_c (List.mem_cons_self) (fin_r (fun _ h => List.mem_cons_of_mem _ (List.mem_append_left _ h)) (fin_r (fun _ h => List.mem_cons_of_mem _ (List.mem_append_right _ (List.mem_append_left _ h))) (fin_r (fun _ h => List.mem_cons_of_mem _ (List.mem_append_right _ (List.mem_append_right _ (List.mem_append_left _ h)))) (fin_r (by simp) fin_nil))))) rfl) ?_ SWz.no
        rintro _ ⟨s28, rfl⟩
        refine SWz.rd (i := 18) rfl rfl (Rd.nei rfl rfl) ?_
        refine SWz.nil ?_
        exact SN.meet ⟨s28, rfl⟩ (⟨⟨_, rfl, ⟨⟨_, rfl, Le.refl _⟩, ⟨⟨_, rfl, Le.refl _⟩, ⟨⟨_, rfl, Le.refl _⟩, ⟨⟨_, rfl, Le.is (by simp)⟩, trivial⟩⟩⟩⟩⟩, [0, 1, 2, 3], by decide, ⟨⟨_, rfl, LeAll.refl _⟩, ⟨⟨_, rfl, LeR.refl _⟩, ⟨⟨_, rfl, LeR.refl _⟩, ⟨⟨_, rfl, LeR.refl _⟩, trivial⟩⟩⟩⟩⟩)
      · rintro _ ⟨s28, rfl⟩
        refine SN.then ?_
        refine SW.condF rfl (rfl) ?_
        refine SW.skip ?_
        refine SN.block ?_
        refine SN.then ?_
        refine SW.region ?_
        refine SWl.rd rfl (Rd.move rfl) ?_
        refine SWl.rd rfl (Rd.add rfl rfl ⟨by omega, by omega⟩) ?_
        refine SWl.rd rfl (Rd.assign rfl) ?_
        refine SWl.nil ?_
        exact fun a w hh => hK0 (⟨(i + 1, s28), by dsimp only; omega⟩) (by dsimp only; omega) a w (hh.sub (⟨⟨_, rfl, ⟨⟨_, rfl, Le.refl _⟩, ⟨⟨_, rfl, Le.refl _⟩, ⟨⟨_, rfl, Le.is (by simp)⟩, trivial⟩⟩⟩⟩, [0, 1, 2, 3], by decide, ⟨⟨_, rfl, LeAll.refl _⟩, ⟨⟨_, rfl, LeR.refl _⟩, ⟨⟨_, rfl, LeR.refl _⟩, ⟨⟨_, rfl, LeR.refl _⟩, trivial⟩⟩⟩⟩⟩))
    · have hb8 := of_decide_eq_false hb8
      refine SW.exit' ?_
      repeat (first | refine SE.then ?_ | refine SE.skip (by decide) ?_)
      refine SE.here ?_
      refine SN.then ?_
      refine SW.seq ?_
      obtain rfl : i = 256 := by omega
      obtain ⟨K, hK⟩ : ∃ K, K = Ful.Fl 256 := ⟨_, rfl⟩
      have hf : Acc.Fine K := by rw [hK]; exact Ful.fl_fine (Nat.le_refl _)
      have h1 : Acc.add K (Ful.aZ last) = (K, 7) := by rw [hK]; exact Ful.add_z last
      have h2 : Acc.add K (Ful.aN last) = (K, 11) := by rw [hK]; exact Ful.add_n last
      have h3 : Acc.remove K Ful.nbb = (Acc.del K Ful.nbb, 0) := by rw [hK]; exact Ful.rem_b
      obtain ⟨m, h4⟩ : ∃ m, Acc.add (Acc.remove K Ful.nbb).1 (Ful.aZ last) = (m, 0) := by rw [h3, hK]; exact Ful.add_z2 last
      have hlen : K.length = 256 := by rw [hK]; exact Ful.fl_len 256
      refine SW.sub (σ' := St.ob [(0, isD (B8 last)), (3, isD (.pointer (some ⟨g6, 0, none⟩)))] [.c g6 [isD (.map (s.M.map Prod.fst)), isD (.slice s.n.A (Acc.nm K).length s.n.c), isD (.map (s.M.map Prod.snd))], .r s.n.F (vecT 9 1 encT s.n.A s.n.c (Acc.nm K)), .r s.F1 (mapQ (s.M.map Prod.fst) encS (Acc.nm K) (acD K)), .r s.F2 (mapQ (s.M.map Prod.snd) encSt (Acc.seats K) (seD K))]) (⟨⟨_, rfl, ⟨⟨_, rfl, Le.refl _⟩, ⟨⟨_, rfl, Le.refl _⟩, trivial⟩⟩⟩, [0, 1, 2, 3], by decide, ⟨⟨_, rfl, ⟨Le.refl _, Le.is (by rw [hK]), Le.refl _, trivial⟩⟩, ⟨⟨_, rfl, leVec (by rw [hK]) (by rw [hK])⟩, ⟨⟨_, rfl, (by rw [hK]; exact LeR.refl _)⟩, ⟨⟨_, rfl, (by rw [hK]; exact LeR.refl _)⟩, trivial⟩⟩⟩⟩⟩) ?_
      refine SW.region ?_
      refine SWl.rd rfl (Rd.move rfl) ?_
      refine SWl.rd rfl (Rd.move rfl) ?_
      refine SWl.ef (S := []) (Ef.call (con_key last) rfl ⟨Le.refl _, trivial⟩ rfl) ?_
      rintro _ rfl
      refine SWl.rd rfl (Rd.build rfl rfl (bldA3 (n := [122]) (r := 3))) ?_
      refine SWl.lookA5 33 rfl fun A33 c33 => ?_
      refine SWl.ef (Ef.callR [0, 1, 2, 3, 4] (con_add_to (gb := g6) (s := s) (l := K) (a := (Ful.aZ last)) (A := A33) (c := c33) (isView_viewB _ _ _ _ rfl) (hf) (h1)) rfl ⟨Le.refl _, Le.refl _, trivial⟩ (by decide) ⟨⟨_, rfl, LeAll.refl _⟩, ⟨⟨_, rfl, LeR.refl _⟩, ⟨⟨_, rfl, LeR.refl _⟩, ⟨⟨_, rfl, LeR.refl _⟩, ⟨⟨_, rfl, LeR.refl _⟩, trivial⟩⟩⟩⟩⟩ (fun _ h => h) rfl) ?_
      rintro _ ⟨s34, rfl⟩
      refine SWl.rd rfl (Rd.eqi rfl rfl) ?_
      refine SWl.rd rfl (Rd.move rfl) ?_
      refine SWl.rdg rfl rfl (by decide) rfl rfl (Rd.move rfl) ?_
      refine SWl.rdg rfl rfl (by decide) rfl rfl (Rd.move rfl) ?_
      refine SWl.efg (S := []) rfl rfl (by decide) rfl (Ef.call (con_key last) rfl ⟨Le.refl _, trivial⟩ rfl) ?_
      rintro _ rfl
      refine SWl.rdg rfl rfl (by decide) rfl rfl (Rd.build rfl rfl (bldA3 (n := [110, 97, 97]) (r := 3))) ?_
      refine SWl.lookA5 40 rfl fun A40 c40 => ?_
      refine SWl.efg rfl rfl (by decide) rfl (Ef.callR [0, 1, 2, 3, 5] (con_add_to (gb := g6) (s := s34) (l := K) (a := (Ful.aN last)) (A := A40) (c := c40) (isView_viewB _ _ _ _ rfl) (hf) (h2)) rfl ⟨Le.refl _, Le.refl _, trivial⟩ (by decide) ⟨⟨_, rfl, LeAll.refl _⟩, ⟨⟨_, rfl, LeR.refl _⟩, ⟨⟨_, rfl, LeR.refl _⟩, ⟨⟨_, rfl, LeR.refl _⟩, ⟨⟨_, rfl, LeR.refl _⟩, trivial⟩⟩⟩⟩⟩ (fun _ h => h) rfl) ?_
      rintro _ ⟨s41, rfl⟩
      refine SWl.rdg rfl rfl (by decide) rfl rfl (Rd.eqi rfl rfl) ?_
      refine SWl.rd rfl (Rd.pickY rfl (by decide) rfl) ?_
      refine SWl.rd rfl (Rd.move rfl) ?_
      refine SWl.rdg rfl rfl (by decide) rfl rfl (Rd.move rfl) ?_
      refine SWl.efg (S := []) rfl rfl (by decide) rfl (Ef.callN [1, 3, 2, 4] (con_lenB K) rfl ⟨(sees_box 1 rfl (by decide) ⟨(sees_mapQ 3 rfl (by decide)), (sees_vec 2 rfl (by decide)), (sees_mapQ 4 rfl (by decide)), trivial⟩), trivial⟩ rfl) ?_
      rintro _ rfl
      refine SWl.rdg rfl rfl (by decide) rfl rfl (Rd.eqi rfl rfl) ?_
      refine SWl.rd rfl (Rd.pickY rfl (by decide) rfl) ?_
      refine SWl.rd rfl (Rd.move rfl) ?_
      refine SWl.rdg rfl rfl (by simp [hlen]) rfl rfl (Rd.move rfl) ?_
      refine SWl.efg rfl rfl (by simp [hlen]) rfl (Ef.callR [1, 2, 3, 4] (con_remove g6 s41 K Ful.nbb hf) rfl ⟨Le.refl _, Le.refl _, trivial⟩ (by decide) ⟨⟨_, rfl, LeAll.refl _⟩, ⟨⟨_, rfl, LeR.refl _⟩, ⟨⟨_, rfl, LeR.refl _⟩, ⟨⟨_, rfl, LeR.refl _⟩, trivial⟩⟩⟩⟩ (fun _ h => h) rfl) ?_
      rintro _ ⟨s51, rfl⟩
      refine SWl.rdg rfl rfl (by simp [hlen]) rfl rfl (Rd.eqi rfl rfl) ?_
      refine SWl.rd rfl (Rd.pickY rfl (by simp [hlen]) rfl) ?_
      refine SWl.rd rfl (Rd.move rfl) ?_
      refine SWl.rdg rfl rfl (by simp [h3]) rfl rfl (Rd.move rfl) ?_
      refine SWl.rdg rfl rfl (by simp [h3]) rfl rfl (Rd.move rfl) ?_
      refine SWl.efg (S := []) rfl rfl (by simp [h3]) rfl (Ef.call (con_key last) rfl ⟨Le.refl _, trivial⟩ rfl) ?_
      rintro _ rfl
      refine SWl.rdg rfl rfl (by simp [h3]) rfl rfl (Rd.build rfl rfl (bldA3 (n := [122]) (r := 3))) ?_
      refine SWl.lookA5 58 rfl fun A58 c58 => ?_
      refine SWl.efg rfl rfl (by simp [h3]) rfl (Ef.callR [2, 3, 4, 5, 6] (con_add_to (gb := g6) (s := s51) (l := (Acc.remove K Ful.nbb).1) (a := (Ful.aZ last)) (A := A58) (c := c58) (isView_viewB _ _ _ _ rfl) (hf.remove _) (h4)) rfl ⟨Le.refl _, Le.refl _, trivial⟩ (by decide) ⟨⟨_, rfl, LeAll.refl _⟩, ⟨⟨_, rfl, LeR.refl _⟩, ⟨⟨_, rfl, LeR.refl _⟩, ⟨⟨_, rfl, LeR.refl _⟩, ⟨⟨_, rfl, LeR.refl _⟩, trivial⟩⟩⟩⟩⟩ (fun _ h => h) rfl) ?_
      rintro _ ⟨s59, rfl⟩
      refine SWl.rdg rfl rfl (by simp [h3]) rfl rfl (Rd.eqi rfl rfl) ?_
      refine SWl.rd rfl (Rd.pickY rfl (by simp [h3]) rfl) ?_
      refine SWl.rd rfl (Rd.move rfl) ?_
      refine SWl.efg (S := []) rfl rfl (by decide) rfl (Ef.callN [] (con_known41) rfl trivial rfl) ?_
      rintro _ rfl
      refine SWl.rd rfl (Rd.pickY rfl (by decide) rfl) ?_
      refine SWl.rd rfl (Rd.assign rfl) ?_
      refine SWl.nil ?_
      refine SN.then ?_
      refine SW.ret (fn := Try.f3) (fun _ _ h => h) (Rs.le (Rs.one rfl (ResV.tmp rfl)) ?_)
      exact le_bool_n rfl
end Sx
end Go.Proofs.Ytgcnpnbgjejkaaa
