/-
  ENVELOPES: what the laws are given.
-/
import Derived.Test.YtchbgfgboogniaaDoorE5
import Derived.Test.YtchbgfgboogniaaDoorGQ
namespace Go.Proofs.YtchbgfgboogniaaDoor
open Go.RowKit
namespace Sx
theorem row_step {i n : Nat} {b : UInt8} (h : i < n) : ((cellsOf (List.replicate i b ++ List.replicate (n - i) 0)).map isD).set i (isD (B8 b)) = (cellsOf (List.replicate (i + 1) b ++ List.replicate (n - (i + 1)) 0)).map isD := by
  rw [show n - i = (n - (i + 1)) + 1 by omega, List.replicate_succ, List.replicate_succ']
  simp only [cellsOf, List.map_append, List.map_cons, List.map_replicate, List.append_assoc, List.map_nil]
  rw [List.set_append_right _ _ (by simp)]
  simp
def Env.short (e : Env.T) : Prop := e.acc.length ≤ 100 ∧ e.box.length ≤ 400 ∧ e.tag.length ≤ 100
instance (e : Env.T) : Decidable (Env.short e) := by unfold Env.short; infer_instance
theorem bldA4m {n : List UInt8} {r m : Int} {b : List UInt8} : Bld Tryd.prog 33 [0, 1, 2, 4] [strD n, iD r, bD b, iD m] [strD n, iD r, bD b, iD 0, iD m] := fun L w vs hv => by
  match vs, hv with
  | [x, y, z, u], ⟨hx, hy, h3, hu, _⟩ =>
    cases hx; cases hy; cases hu
    have h3' := h3
    obtain ⟨A, cp, rfl, -⟩ := h3
    exact ⟨[.string _, .int .i64 r, .slice A _ cp, .int .i64 0, .int .i64 m], ⟨rfl, rfl, h3', rfl, rfl, trivial⟩, fun w' => by kernel_rfl⟩
abbrev nmA : List UInt8 := [97, 99, 109, 101]
abbrev nmB : List UInt8 := [98, 101, 108, 108]
abbrev nmN : List UInt8 := [110, 111, 110, 101]
abbrev gA : Acc.T := ⟨nmA, 2, List.replicate 32 8, 0, 0⟩
abbrev gB : Acc.T := ⟨nmB, 2, List.replicate 32 9, 0, 1⟩
abbrev gL : List Acc.T := [gA, gB]
theorem gAdd1 : Acc.add [] gA = ([gA], 0) := (Acc.add_ok (by decide +kernel) (by decide +kernel) (by decide)).trans (by rfl)
theorem gAdd2 : Acc.add [gA] gB = (gL, 0) := (Acc.add_ok (by decide +kernel) (by decide +kernel) (by decide)).trans (by rfl)
theorem gFine1 : Acc.Fine [gA] := by have h := Acc.Fine.nil.add gA; rw [gAdd1] at h; exact h
theorem gFine : Acc.Fine gL := by have h := gFine1.add gB; rw [gAdd2] at h; exact h
abbrev kK1 : List UInt8 := List.replicate 32 1
abbrev nN2 : List UInt8 := List.replicate 16 2
abbrev hello : List UInt8 := [104, 101, 108, 108, 111]
def gE : Env.T := Env.mk gL nmA 3 1 kK1 nN2 hello
def gBox : List UInt8 := Sl.sealB (Bl.hash kK1 (Env.bidL ++ nmA)) nN2 hello
theorem gOther : (Sl.openB (Bl.hash (List.replicate 32 9) (Env.bidL ++ nmA)) gBox).2 = 10 := by decide +kernel
theorem gTags : Bl.hash (List.replicate 32 8) (Env.sgn nmA 3 2 gBox) ≠ Bl.hash (List.replicate 32 8) (Env.sgn nmA 3 1 gBox) := by decide +kernel
theorem gFind : Acc.find gL nmA = some gA := rfl
theorem gSld : Env.Sld gL nmA 3 1 kK1 nN2 hello gA := Env.sld gFine gFind (by decide) (by decide) rfl rfl (by decide)
theorem gSlE : Env.slE gL nmA 3 1 kK1.length nN2.length hello.length = 0 := gSld.err
theorem gSlT : Env.slT gL nmA 3 1 kK1 nN2 hello = gE := gSld.eq
theorem gOk : Env.ok gE := gSld.ok
theorem gAut : Env.autE gL gE = 0 := gSld.aut
theorem gOp : Env.opE gL gE kK1 = 0 ∧ Env.opB gL gE kK1 = hello := Env.op_sld gSld rfl rfl (by decide)
theorem gSz : Env.sz gE = 5 := by
  unfold Env.sz
  rw [if_pos gOk]
  show ((Env.boxB kK1 nmA nN2 hello).length : Int) - 32 = 5
  rw [Env.box_len _ _ _ rfl]
  rfl
theorem gOpBad : Env.opE gL gE (List.replicate 32 9) = 10 := by
  unfold Env.opE
  rw [if_pos (by simp), gAut, if_neg (by simp), if_pos]
  show (Sl.openB (Bl.hash (List.replicate 32 9) (Env.bidL ++ nmA)) gBox).2 ≠ 0
  rw [gOther]
  decide
theorem gOpNil : Env.opE gL gE [] = 2 := by unfold Env.opE; rw [if_neg (by simp)]
theorem gSlNone : Env.slE gL nmN 3 1 kK1.length nN2.length ([] : List UInt8).length = 9 := by
  unfold Env.slE
  rw [if_neg (by decide), if_pos (show Acc.find gL nmN = none from rfl)]
abbrev gZ : List UInt8 := List.replicate 4097 0
theorem gSlLong (nm : List UInt8) : Env.slE gL nm 3 1 kK1.length nN2.length gZ.length = 5 := by
  have h : Env.preE 3 1 kK1.length nN2.length gZ.length = 5 := by rw [List.length_replicate, List.length_replicate, List.length_replicate]; decide
  unfold Env.slE
  rw [h, if_pos (by decide)]
def gF : Env.T := ⟨nmA, 3, 2, gE.box, gE.tag⟩
theorem gAutF : Env.autE gL gF = 10 := by
  have hok : Env.ok gF := ⟨gOk.1, gOk.2.1, by decide, gOk.2.2.2.1, gOk.2.2.2.2⟩
  unfold Env.autE
  rw [if_pos hok]
  obtain ⟨t1, t2⟩ := Acc.tag_yes gFind (q := Env.sgnT gF) (by have := Env.sgnT_len hok; omega)
  show Acc.ver (Acc.tagE gL nmA (Env.sgnT gF)) (Acc.tagT gL nmA (Env.sgnT gF)) gE.tag = 10
  rw [t1, t2]
  unfold Acc.ver
  rw [if_neg (by simp), if_neg]
  rw [show gE.tag = Bl.hash gA.key (Env.sgnT gE) from gSld.tag]
  exact gTags
set_option maxHeartbeats 4000000 in
set_option maxRecDepth 100000 in
theorem con_row (b : UInt8) (n : Nat) (hn : n ≤ 1000000) : Con Tryd.prog 25 [isD (B8 b), iD (n : Int)] (bD (List.replicate n b)) := by
  refine con_of Tryd.func25 (by kernel_rfl) rfl (by kernel_rfl) fun base w0 => ?_
  refine SW.seq ?_
  refine SW.region ?_
  refine SWl.rd rfl (Rd.assign rfl) ?_
  refine SWl.nil ?_
  refine SN.then ?_
  refine SW.seq ?_
  refine SW.region ?_
  refine SWl.rd rfl (Rd.move rfl) ?_
  refine SWl.ef (S := []) (Ef.make (e := 5) (z := .int .u8 0) (n := n) 1 rfl rfl (by kernel_rfl) (by kernel_rfl) rfl rfl rfl (by omega) (by decide) rfl) ?_
  rintro _ ⟨g8, rfl⟩
  refine SWl.rd rfl (Rd.assign rfl) ?_
  refine SWl.nil ?_
  refine SN.then ?_
  refine SW.seq ?_
  refine SW.seq ?_
  refine SW.region ?_
  refine SWl.rd rfl (Rd.assign rfl) ?_
  refine SWl.nil ?_
  refine SN.then ?_
  refine SW.block ?_
  refine SW.loop (ι := {i : Nat // i ≤ n}) (fun i => St.ob [(0, isD (B8 b)), (1, iD (n : Int)), (5, isD (.slice (some ⟨g8, 0, none⟩) n n)), (6, iD (i.1 : Int))] [.c g8 ((cellsOf (List.replicate i.1 b ++ List.replicate (n - i.1) 0)).map isD)]) (fun i => n - i.1) (⟨0, Nat.zero_le _⟩) ?_ ?_
  · exact ⟨⟨_, rfl, ⟨⟨_, rfl, Le.refl _⟩, ⟨⟨_, rfl, Le.refl _⟩, ⟨⟨_, rfl, Le.refl _⟩, ⟨⟨_, rfl, Le.refl _⟩, trivial⟩⟩⟩⟩⟩, [0], by decide, ⟨⟨_, rfl, leAll_eq (by simp [cellsOf]; exact Or.inr rfl)⟩, trivial⟩⟩
  · rintro ⟨i, hi⟩ K0 hK0
    dsimp only at hi ⊢
    refine SW.seq ?_
    refine SW.seq ?_
    refine SW.region ?_
    refine SWl.rd rfl (Rd.move rfl) ?_
    refine SWl.rd rfl (Rd.move rfl) ?_
    refine SWl.rd rfl (Rd.lss rfl rfl) ?_
    refine SWl.nil ?_
    refine SN.then ?_
    refine SW.cond rfl (fun hb11 => ?_) (fun hb11 => ?_)
    · have hb11 := of_decide_eq_true hb11
      refine SW.skip ?_
      refine SN.then ?_
      refine SW.seq ?_
      refine SW.block ?_
      refine SW.region ?_
      refine SWl.rd rfl (Rd.move rfl) ?_
      refine SWl.rd rfl (Rd.move rfl) ?_
      refine SWl.rd rfl (Rd.move rfl) ?_
      refine SWl.rd rfl (Rd.idxE (e := 5) rfl rfl (by kernel_rfl) (by kernel_rfl) (by omega) (by omega)) ?_
      refine SWl.ef (S := [_]) (Ef.storeE 0 rfl rfl rfl (by kernel_rfl) (by simp; omega) (List.mem_singleton.2 rfl)) ?_
      rintro _ rfl
      refine SWl.nil ?_
      refine SN.block ?_
      refine SN.then ?_
      refine SW.region ?_
      refine SWl.rd rfl (Rd.move rfl) ?_
      refine SWl.rd rfl (Rd.add rfl rfl ⟨by omega, by omega⟩) ?_
      refine SWl.rd rfl (Rd.assign rfl) ?_
      refine SWl.nil ?_
      exact fun a w hh => hK0 (⟨i + 1, by omega⟩) (by dsimp only; omega) a w (hh.sub (⟨⟨_, rfl, ⟨⟨_, rfl, Le.refl _⟩, ⟨⟨_, rfl, Le.refl _⟩, ⟨⟨_, rfl, Le.refl _⟩, ⟨⟨_, rfl, Le.is (by simp)⟩, trivial⟩⟩⟩⟩⟩, [0], by decide, ⟨⟨_, rfl, leAll_eq (by rw [show 0 + ((i : Nat) : Int).toNat = i by simp]; exact row_step (by omega))⟩, trivial⟩⟩))
    · obtain rfl : i = n := by have := of_decide_eq_false hb11; omega
      refine SW.exit' ?_
      repeat (first | refine SE.then ?_ | refine SE.skip (by decide) ?_)
      refine SE.here ?_
      refine SN.then ?_
      refine SW.seq ?_
      refine SW.region ?_
      refine SWl.freeze 5 0 (cellsOf (List.replicate i b)) rfl rfl (by simp) (Nat.le_refl _) (by rw [Nat.sub_self]; simp) ?_
      refine SWl.rd rfl (Rd.move rfl) ?_
      refine SWl.rd rfl (Rd.assign rfl) ?_
      refine SWl.nil ?_
      refine SN.then ?_
      refine SW.ret (fn := Tryd.f25) (fun _ _ h => h) (Rs.le (Rs.one rfl (ResV.tmp rfl)) ?_)
      exact Le.refl _
theorem con_AddR_to {l l' : List Acc.T} {a : Acc.T} {e : Int} (hf : Acc.Fine l) (h : Acc.add l a = (l', e)) (hs : a.name.length ≤ 1000000) :
    ConR Tryd.prog 61 [] [aggD [lsD encA l], aggD [strD a.name, iD a.role, bD a.key, iD a.dep, iD a.num]] (fun _ : Unit => []) (fun _ : Unit => tupD [aggD [lsD encA l'], iD e]) := by
  have hc := con_AddR l a hf hs
  rw [h] at hc
  exact hc
set_option maxHeartbeats 4000000 in
set_option maxRecDepth 100000 in
theorem con_given  : ConR Tryd.prog 18 [] [] (fun t : Nat × Bst => [.c t.1 [isD (.map (t.2.M.map Prod.fst)), isD (.slice t.2.n.A (Acc.nm gL).length t.2.n.c), isD (.map (t.2.M.map Prod.snd))], .r t.2.n.F (vecT 9 1 encT t.2.n.A t.2.n.c (Acc.nm gL)), .r t.2.F1 (mapQ (t.2.M.map Prod.fst) encS (Acc.nm gL) (acD gL)), .r t.2.F2 (mapQ (t.2.M.map Prod.snd) encSt (Acc.seats gL) (seD gL))]) (fun t : Nat × Bst => tupD [isD (.pointer (some ⟨t.1, 0, none⟩)), aggD [lsD encA gL]]) := by
  refine con_ofR Tryd.func18 (by kernel_rfl) rfl (by kernel_rfl) fun base w0 => ?_
  refine SW.seq ?_
  refine SW.region ?_
  refine SWl.rd rfl (Rd.assign rfl) ?_
  refine SWl.ef (S := []) (Ef.alloc (zs := [.slice none 0 0]) (by kernel_rfl) rfl) ?_
  rintro _ ⟨g1, rfl⟩
  refine SWl.nil ?_
  refine SN.then ?_
  refine SW.seq ?_
  refine SW.region ?_
  refine SWl.rd rfl (Rd.build rfl rfl bldBk0) ?_
  refine SWl.ef (S := []) (Ef.boxA rfl rfl) ?_
  rintro _ ⟨g7, rfl⟩
  refine SWl.rd rfl (Rd.build rfl rfl bldRB0) ?_
  refine SWl.ef (S := []) (Ef.alloc (zs := [.slice none 0 0]) (by kernel_rfl) rfl) ?_
  rintro _ ⟨g3, rfl⟩
  refine SWl.rd rfl (Rd.assign rfl) ?_
  refine SWl.ef (S := [_]) (Ef.storeA 2 rfl rfl rfl (by kernel_rfl) rfl (List.mem_singleton.2 rfl)) ?_
  rintro _ rfl
  refine SWl.nil ?_
  refine SN.then ?_
  refine SW.seq ?_
  refine SW.seq ?_
  refine SW.region ?_
  refine SWl.ef (S := []) (Ef.call (con_row 8 32 (by decide)) rfl ⟨Le.refl _, Le.refl _, trivial⟩ rfl) ?_
  rintro _ rfl
  refine SWl.rd rfl (Rd.build rfl rfl (bldA3 (n := nmA) (r := 2))) ?_
  refine SWl.ef (S := []) (Ef.call (con_row 9 32 (by decide)) rfl ⟨Le.refl _, Le.refl _, trivial⟩ rfl) ?_
  rintro _ rfl
  refine SWl.rd rfl (Rd.build rfl rfl (bldA4m (n := nmB) (r := 2) (m := 1))) ?_
  refine SWl.ef (S := []) (Ef.litR rfl rfl (blsA2 gA gB) rfl) ?_
  rintro _ rfl
  refine SWl.rd rfl (Rd.lenR (e := 33) rfl (by kernel_rfl)) ?_
  refine SWl.rd rfl (Rd.move rfl) ?_
  refine SWl.nil ?_
  refine SN.then ?_
  refine SW.block ?_
  refine SW.rounds 2 ?_
  refine SW.seq ?_
  refine SW.vecN 9 1 encT ?_
  refine SW.mapQN encS (acD []) ?_
  refine SW.mapQN encSt (seD []) ?_
  refine SW.sub (σ' := St.ob [(1, isD (.pointer (some ⟨g1, 0, none⟩))), (2, isD (.pointer (some ⟨g7, 0, none⟩))), (3, isD (.pointer (some ⟨g3, 0, none⟩))), (13, lsD encA gL), (14, iD 2), (15, iD 0)] [.c g7 [isD (.map ((⟨none, [], [], ⟨none, 0, []⟩⟩ : Bst).M.map Prod.fst)), isD (.slice (⟨none, [], [], ⟨none, 0, []⟩⟩ : Bst).n.A (Acc.nm ([] : List Acc.T)).length (⟨none, [], [], ⟨none, 0, []⟩⟩ : Bst).n.c), isD (.map ((⟨none, [], [], ⟨none, 0, []⟩⟩ : Bst).M.map Prod.snd))], .r (⟨none, [], [], ⟨none, 0, []⟩⟩ : Bst).n.F (vecT 9 1 encT (⟨none, [], [], ⟨none, 0, []⟩⟩ : Bst).n.A (⟨none, [], [], ⟨none, 0, []⟩⟩ : Bst).n.c (Acc.nm ([] : List Acc.T))), .r (⟨none, [], [], ⟨none, 0, []⟩⟩ : Bst).F1 (mapQ ((⟨none, [], [], ⟨none, 0, []⟩⟩ : Bst).M.map Prod.fst) encS (Acc.nm ([] : List Acc.T)) (acD ([] : List Acc.T))), .r (⟨none, [], [], ⟨none, 0, []⟩⟩ : Bst).F2 (mapQ ((⟨none, [], [], ⟨none, 0, []⟩⟩ : Bst).M.map Prod.snd) encSt (Acc.seats ([] : List Acc.T)) (seD ([] : List Acc.T))), .c g1 [isD (.slice none 0 0)], .c g3 [lsD encA ([] : List Acc.T)]]) (⟨⟨_, rfl, ⟨⟨_, rfl, Le.refl _⟩, ⟨⟨_, rfl, Le.refl _⟩, ⟨⟨_, rfl, Le.refl _⟩, ⟨⟨_, rfl, Le.refl _⟩, ⟨⟨_, rfl, Le.refl _⟩, ⟨⟨_, rfl, Le.refl _⟩, trivial⟩⟩⟩⟩⟩⟩⟩, [1, 3, 4, 5, 0, 2], by decide, ⟨⟨_, rfl, LeAll.refl _⟩, ⟨⟨_, rfl, LeR.refl _⟩, ⟨⟨_, rfl, LeR.refl _⟩, ⟨⟨_, rfl, LeR.refl _⟩, ⟨⟨_, rfl, LeAll.refl _⟩, ⟨⟨_, rfl, le_rb0⟩, trivial⟩⟩⟩⟩⟩⟩⟩) ?_
  refine SW.region ?_
  refine SWl.rd rfl (Rd.lss rfl rfl) ?_
  refine SWl.nil ?_
  refine SN.then ?_
  refine SW.seq ?_
  refine SW.condT rfl (by decide) ?_
  refine SW.skip ?_
  refine SN.then ?_
  refine SW.seq ?_
  refine SW.block ?_
  refine SW.seq ?_
  refine SW.region ?_
  refine SWl.rd rfl (Rd.idxL (e := 33) 5 rfl rfl (by kernel_rfl) (by kernel_rfl) (by decide) rfl) ?_
  refine SWl.rd rfl (Rd.loadRA 5 rfl (by kernel_rfl) (by decide) (show 5 ≤ 5 by decide) (by simp)) ?_
  refine SWl.ef (S := []) (Ef.alloc (zs := [.string ⟨#[]⟩, .int .i64 0, .slice none 0 0, .int .i64 0, .int .i64 0]) (by kernel_rfl) rfl) ?_
  rintro _ ⟨g5, rfl⟩
  refine SWl.ef (S := [_]) (Ef.storeA 6 rfl rfl rfl (by kernel_rfl) rfl (List.mem_singleton.2 rfl)) ?_
  rintro _ rfl
  refine SWl.nil ?_
  refine SN.then ?_
  refine SW.seq ?_
  refine SW.sub (σ' := St.ob [(1, isD (.pointer (some ⟨g1, 0, none⟩))), (2, isD (.pointer (some ⟨g7, 0, none⟩))), (3, isD (.pointer (some ⟨g3, 0, none⟩))), (5, isD (.pointer (some ⟨g5, 0, none⟩))), (13, lsD encA gL), (14, iD 2), (15, iD 0)] [.c g7 [isD (.map ((⟨none, [], [], ⟨none, 0, []⟩⟩ : Bst).M.map Prod.fst)), isD (.slice (⟨none, [], [], ⟨none, 0, []⟩⟩ : Bst).n.A (Acc.nm ([] : List Acc.T)).length (⟨none, [], [], ⟨none, 0, []⟩⟩ : Bst).n.c), isD (.map ((⟨none, [], [], ⟨none, 0, []⟩⟩ : Bst).M.map Prod.snd))], .r (⟨none, [], [], ⟨none, 0, []⟩⟩ : Bst).n.F (vecT 9 1 encT (⟨none, [], [], ⟨none, 0, []⟩⟩ : Bst).n.A (⟨none, [], [], ⟨none, 0, []⟩⟩ : Bst).n.c (Acc.nm ([] : List Acc.T))), .r (⟨none, [], [], ⟨none, 0, []⟩⟩ : Bst).F1 (mapQ ((⟨none, [], [], ⟨none, 0, []⟩⟩ : Bst).M.map Prod.fst) encS (Acc.nm ([] : List Acc.T)) (acD ([] : List Acc.T))), .r (⟨none, [], [], ⟨none, 0, []⟩⟩ : Bst).F2 (mapQ ((⟨none, [], [], ⟨none, 0, []⟩⟩ : Bst).M.map Prod.snd) encSt (Acc.seats ([] : List Acc.T)) (seD ([] : List Acc.T))), .c g1 [isD (.slice none 0 0)], .c g3 [lsD encA ([] : List Acc.T)], .c g5 [strD gA.name, iD gA.role, bD gA.key, iD gA.dep, iD gA.num]]) (⟨⟨_, rfl, ⟨⟨_, rfl, Le.refl _⟩, ⟨⟨_, rfl, Le.refl _⟩, ⟨⟨_, rfl, Le.refl _⟩, ⟨⟨_, rfl, Le.refl _⟩, ⟨⟨_, rfl, Le.refl _⟩, ⟨⟨_, rfl, Le.refl _⟩, ⟨⟨_, rfl, Le.refl _⟩, trivial⟩⟩⟩⟩⟩⟩⟩⟩, [0, 1, 2, 3, 4, 5, 6], by decide, ⟨⟨_, rfl, LeAll.refl _⟩, ⟨⟨_, rfl, LeR.refl _⟩, ⟨⟨_, rfl, LeR.refl _⟩, ⟨⟨_, rfl, LeR.refl _⟩, ⟨⟨_, rfl, LeAll.refl _⟩, ⟨⟨_, rfl, LeAll.refl _⟩, ⟨⟨_, rfl, LeAll.refl _⟩, trivial⟩⟩⟩⟩⟩⟩⟩⟩) ?_
  refine SW.region ?_
  refine SWl.rd rfl (Rd.move rfl) ?_
  refine SWl.rd rfl (Rd.loadA 6 5 rfl rfl (by kernel_rfl) rfl ap_nil) ?_
  refine SWl.lookA5 20 rfl fun A20 c20 => ?_
  refine SWl.ef (Ef.callR [0, 1, 2, 3, 7] (con_add_to (gb := g7) (s := (⟨none, [], [], ⟨none, 0, []⟩⟩ : Bst)) (l := ([] : List Acc.T)) (a := gA) (A := A20) (c := c20) (isView_viewB _ _ _ _ rfl) Acc.Fine.nil gAdd1) rfl ⟨Le.refl _, Le.refl _, trivial⟩ (by decide) ⟨⟨_, rfl, LeAll.refl _⟩, ⟨⟨_, rfl, LeR.refl _⟩, ⟨⟨_, rfl, LeR.refl _⟩, ⟨⟨_, rfl, LeR.refl _⟩, ⟨⟨_, rfl, LeR.refl _⟩, trivial⟩⟩⟩⟩⟩ (fun _ h => h) rfl) ?_
  rintro _ ⟨s0, rfl⟩
  refine SWl.nil ?_
  refine SN.then ?_
  refine SW.region ?_
  refine SWl.rd rfl (Rd.loadA 1 1 rfl rfl (by kernel_rfl) rfl ap_nil) ?_
  refine SWl.rd rfl (Rd.loadA 2 5 rfl rfl (by kernel_rfl) rfl ap_nil) ?_
  refine SWl.ef (S := []) (Ef.callR [] (con_AddR_to Acc.Fine.nil gAdd1 (by simp)) rfl ⟨Le.refl _, Le.refl _, trivial⟩ (by decide) trivial (fun _ h => h) rfl) ?_
  rintro _ ⟨⟨⟩, rfl⟩
  refine SWl.rd rfl (Rd.move rfl) ?_
  refine SWl.rd rfl (Rd.extract rfl rfl) ?_
  refine SWl.rd rfl (Rd.extract rfl rfl) ?_
  refine SWl.ef (S := [_]) (Ef.storeA 1 rfl rfl rfl (by kernel_rfl) rfl (List.mem_singleton.2 rfl)) ?_
  rintro _ rfl
  refine SWl.nil ?_
  refine SN.block ?_
  refine SN.then ?_
  refine SW.sub (σ' := St.ob [(1, isD (.pointer (some ⟨g1, 0, none⟩))), (2, isD (.pointer (some ⟨g7, 0, none⟩))), (3, isD (.pointer (some ⟨g3, 0, none⟩))), (13, lsD encA gL), (14, iD 2), (15, iD 0)] [.c g7 [isD (.map (s0.M.map Prod.fst)), isD (.slice s0.n.A (Acc.nm ([gA] : List Acc.T)).length s0.n.c), isD (.map (s0.M.map Prod.snd))], .r s0.n.F (vecT 9 1 encT s0.n.A s0.n.c (Acc.nm ([gA] : List Acc.T))), .r s0.F1 (mapQ (s0.M.map Prod.fst) encS (Acc.nm ([gA] : List Acc.T)) (acD ([gA] : List Acc.T))), .r s0.F2 (mapQ (s0.M.map Prod.snd) encSt (Acc.seats ([gA] : List Acc.T)) (seD ([gA] : List Acc.T))), .c g1 [isD (.slice none 0 0)], .c g3 [lsD encA ([gA] : List Acc.T)]]) (⟨⟨_, rfl, ⟨⟨_, rfl, Le.refl _⟩, ⟨⟨_, rfl, Le.refl _⟩, ⟨⟨_, rfl, Le.refl _⟩, ⟨⟨_, rfl, Le.refl _⟩, ⟨⟨_, rfl, Le.refl _⟩, ⟨⟨_, rfl, Le.refl _⟩, trivial⟩⟩⟩⟩⟩⟩⟩, [3, 4, 5, 6, 0, 1], by decide, ⟨⟨_, rfl, LeAll.refl _⟩, ⟨⟨_, rfl, LeR.refl _⟩, ⟨⟨_, rfl, LeR.refl _⟩, ⟨⟨_, rfl, LeR.refl _⟩, ⟨⟨_, rfl, LeAll.refl _⟩, ⟨⟨_, rfl, LeAll.refl _⟩, trivial⟩⟩⟩⟩⟩⟩⟩) ?_
  refine SW.region ?_
  refine SWl.rd rfl (Rd.add rfl rfl ⟨by decide, by decide⟩) ?_
  refine SWl.rd rfl (Rd.move rfl) ?_
  refine SWl.nil ?_
  refine SN.round ?_
  refine SW.seq ?_
  refine SW.sub (σ' := St.ob [(1, isD (.pointer (some ⟨g1, 0, none⟩))), (2, isD (.pointer (some ⟨g7, 0, none⟩))), (3, isD (.pointer (some ⟨g3, 0, none⟩))), (13, lsD encA gL), (14, iD 2), (15, iD 1)] [.c g7 [isD (.map (s0.M.map Prod.fst)), isD (.slice s0.n.A (Acc.nm ([gA] : List Acc.T)).length s0.n.c), isD (.map (s0.M.map Prod.snd))], .r s0.n.F (vecT 9 1 encT s0.n.A s0.n.c (Acc.nm ([gA] : List Acc.T))), .r s0.F1 (mapQ (s0.M.map Prod.fst) encS (Acc.nm ([gA] : List Acc.T)) (acD ([gA] : List Acc.T))), .r s0.F2 (mapQ (s0.M.map Prod.snd) encSt (Acc.seats ([gA] : List Acc.T)) (seD ([gA] : List Acc.T))), .c g1 [isD (.slice none 0 0)], .c g3 [lsD encA ([gA] : List Acc.T)]]) (⟨⟨_, rfl, ⟨⟨_, rfl, Le.refl _⟩, ⟨⟨_, rfl, Le.refl _⟩, ⟨⟨_, rfl, Le.refl _⟩, ⟨⟨_, rfl, Le.refl _⟩, ⟨⟨_, rfl, Le.refl _⟩, ⟨⟨_, rfl, Le.is (by rfl)⟩, trivial⟩⟩⟩⟩⟩⟩⟩, [0, 1, 2, 3, 4, 5], by decide, ⟨⟨_, rfl, LeAll.refl _⟩, ⟨⟨_, rfl, LeR.refl _⟩, ⟨⟨_, rfl, LeR.refl _⟩, ⟨⟨_, rfl, LeR.refl _⟩, ⟨⟨_, rfl, LeAll.refl _⟩, ⟨⟨_, rfl, LeAll.refl _⟩, trivial⟩⟩⟩⟩⟩⟩⟩) ?_
  refine SW.region ?_
  refine SWl.rd rfl (Rd.lss rfl rfl) ?_
  refine SWl.nil ?_
  refine SN.then ?_
  refine SW.seq ?_
  refine SW.condT rfl (by decide) ?_
  refine SW.skip ?_
  refine SN.then ?_
  refine SW.seq ?_
  refine SW.block ?_
  refine SW.seq ?_
  refine SW.region ?_
  refine SWl.rd rfl (Rd.idxL (e := 33) 5 rfl rfl (by kernel_rfl) (by kernel_rfl) (by decide) rfl) ?_
  refine SWl.rd rfl (Rd.loadRA 5 rfl (by kernel_rfl) (by decide) (show 5 ≤ 5 by decide) (by simp)) ?_
  refine SWl.ef (S := []) (Ef.alloc (zs := [.string ⟨#[]⟩, .int .i64 0, .slice none 0 0, .int .i64 0, .int .i64 0]) (by kernel_rfl) rfl) ?_
  rintro _ ⟨g5, rfl⟩
  refine SWl.ef (S := [_]) (Ef.storeA 6 rfl rfl rfl (by kernel_rfl) rfl (List.mem_singleton.2 rfl)) ?_
  rintro _ rfl
  refine SWl.nil ?_
  refine SN.then ?_
  refine SW.seq ?_
  refine SW.sub (σ' := St.ob [(1, isD (.pointer (some ⟨g1, 0, none⟩))), (2, isD (.pointer (some ⟨g7, 0, none⟩))), (3, isD (.pointer (some ⟨g3, 0, none⟩))), (5, isD (.pointer (some ⟨g5, 0, none⟩))), (13, lsD encA gL), (14, iD 2), (15, iD 1)] [.c g7 [isD (.map (s0.M.map Prod.fst)), isD (.slice s0.n.A (Acc.nm ([gA] : List Acc.T)).length s0.n.c), isD (.map (s0.M.map Prod.snd))], .r s0.n.F (vecT 9 1 encT s0.n.A s0.n.c (Acc.nm ([gA] : List Acc.T))), .r s0.F1 (mapQ (s0.M.map Prod.fst) encS (Acc.nm ([gA] : List Acc.T)) (acD ([gA] : List Acc.T))), .r s0.F2 (mapQ (s0.M.map Prod.snd) encSt (Acc.seats ([gA] : List Acc.T)) (seD ([gA] : List Acc.T))), .c g1 [isD (.slice none 0 0)], .c g3 [lsD encA ([gA] : List Acc.T)], .c g5 [strD gB.name, iD gB.role, bD gB.key, iD gB.dep, iD gB.num]]) (⟨⟨_, rfl, ⟨⟨_, rfl, Le.refl _⟩, ⟨⟨_, rfl, Le.refl _⟩, ⟨⟨_, rfl, Le.refl _⟩, ⟨⟨_, rfl, Le.refl _⟩, ⟨⟨_, rfl, Le.refl _⟩, ⟨⟨_, rfl, Le.refl _⟩, ⟨⟨_, rfl, Le.refl _⟩, trivial⟩⟩⟩⟩⟩⟩⟩⟩, [0, 1, 2, 3, 4, 5, 6], by decide, ⟨⟨_, rfl, LeAll.refl _⟩, ⟨⟨_, rfl, LeR.refl _⟩, ⟨⟨_, rfl, LeR.refl _⟩, ⟨⟨_, rfl, LeR.refl _⟩, ⟨⟨_, rfl, LeAll.refl _⟩, ⟨⟨_, rfl, LeAll.refl _⟩, ⟨⟨_, rfl, LeAll.refl _⟩, trivial⟩⟩⟩⟩⟩⟩⟩⟩) ?_
  refine SW.region ?_
  refine SWl.rd rfl (Rd.move rfl) ?_
  refine SWl.rd rfl (Rd.loadA 6 5 rfl rfl (by kernel_rfl) rfl ap_nil) ?_
  refine SWl.lookA5 20 rfl fun A20 c20 => ?_
  refine SWl.ef (Ef.callR [0, 1, 2, 3, 7] (con_add_to (gb := g7) (s := s0) (l := ([gA] : List Acc.T)) (a := gB) (A := A20) (c := c20) (isView_viewB _ _ _ _ rfl) gFine1 gAdd2) rfl ⟨Le.refl _, Le.refl _, trivial⟩ (by decide) ⟨⟨_, rfl, LeAll.refl _⟩, ⟨⟨_, rfl, LeR.refl _⟩, ⟨⟨_, rfl, LeR.refl _⟩, ⟨⟨_, rfl, LeR.refl _⟩, ⟨⟨_, rfl, LeR.refl _⟩, trivial⟩⟩⟩⟩⟩ (fun _ h => h) rfl) ?_
  rintro _ ⟨s1, rfl⟩
  refine SWl.nil ?_
  refine SN.then ?_
  refine SW.region ?_
  refine SWl.rd rfl (Rd.loadA 1 1 rfl rfl (by kernel_rfl) rfl ap_nil) ?_
  refine SWl.rd rfl (Rd.loadA 2 5 rfl rfl (by kernel_rfl) rfl ap_nil) ?_
  refine SWl.ef (S := []) (Ef.callR [] (con_AddR_to gFine1 gAdd2 (by simp)) rfl ⟨Le.refl _, Le.refl _, trivial⟩ (by decide) trivial (fun _ h => h) rfl) ?_
  rintro _ ⟨⟨⟩, rfl⟩
  refine SWl.rd rfl (Rd.move rfl) ?_
  refine SWl.rd rfl (Rd.extract rfl rfl) ?_
  refine SWl.rd rfl (Rd.extract rfl rfl) ?_
  refine SWl.ef (S := [_]) (Ef.storeA 1 rfl rfl rfl (by kernel_rfl) rfl (List.mem_singleton.2 rfl)) ?_
  rintro _ rfl
  refine SWl.nil ?_
  refine SN.block ?_
  refine SN.then ?_
  refine SW.sub (σ' := St.ob [(1, isD (.pointer (some ⟨g1, 0, none⟩))), (2, isD (.pointer (some ⟨g7, 0, none⟩))), (3, isD (.pointer (some ⟨g3, 0, none⟩))), (13, lsD encA gL), (14, iD 2), (15, iD 1)] [.c g7 [isD (.map (s1.M.map Prod.fst)), isD (.slice s1.n.A (Acc.nm gL).length s1.n.c), isD (.map (s1.M.map Prod.snd))], .r s1.n.F (vecT 9 1 encT s1.n.A s1.n.c (Acc.nm gL)), .r s1.F1 (mapQ (s1.M.map Prod.fst) encS (Acc.nm gL) (acD gL)), .r s1.F2 (mapQ (s1.M.map Prod.snd) encSt (Acc.seats gL) (seD gL)), .c g1 [isD (.slice none 0 0)], .c g3 [lsD encA gL]]) (⟨⟨_, rfl, ⟨⟨_, rfl, Le.refl _⟩, ⟨⟨_, rfl, Le.refl _⟩, ⟨⟨_, rfl, Le.refl _⟩, ⟨⟨_, rfl, Le.refl _⟩, ⟨⟨_, rfl, Le.refl _⟩, ⟨⟨_, rfl, Le.refl _⟩, trivial⟩⟩⟩⟩⟩⟩⟩, [3, 4, 5, 6, 0, 1], by decide, ⟨⟨_, rfl, LeAll.refl _⟩, ⟨⟨_, rfl, LeR.refl _⟩, ⟨⟨_, rfl, LeR.refl _⟩, ⟨⟨_, rfl, LeR.refl _⟩, ⟨⟨_, rfl, LeAll.refl _⟩, ⟨⟨_, rfl, LeAll.refl _⟩, trivial⟩⟩⟩⟩⟩⟩⟩) ?_
  refine SW.region ?_
  refine SWl.rd rfl (Rd.add rfl rfl ⟨by decide, by decide⟩) ?_
  refine SWl.rd rfl (Rd.move rfl) ?_
  refine SWl.nil ?_
  refine SN.round ?_
  refine SW.seq ?_
  refine SW.sub (σ' := St.ob [(1, isD (.pointer (some ⟨g1, 0, none⟩))), (2, isD (.pointer (some ⟨g7, 0, none⟩))), (3, isD (.pointer (some ⟨g3, 0, none⟩))), (13, lsD encA gL), (14, iD 2), (15, iD 2)] [.c g7 [isD (.map (s1.M.map Prod.fst)), isD (.slice s1.n.A (Acc.nm gL).length s1.n.c), isD (.map (s1.M.map Prod.snd))], .r s1.n.F (vecT 9 1 encT s1.n.A s1.n.c (Acc.nm gL)), .r s1.F1 (mapQ (s1.M.map Prod.fst) encS (Acc.nm gL) (acD gL)), .r s1.F2 (mapQ (s1.M.map Prod.snd) encSt (Acc.seats gL) (seD gL)), .c g1 [isD (.slice none 0 0)], .c g3 [lsD encA gL]]) (⟨⟨_, rfl, ⟨⟨_, rfl, Le.refl _⟩, ⟨⟨_, rfl, Le.refl _⟩, ⟨⟨_, rfl, Le.refl _⟩, ⟨⟨_, rfl, Le.refl _⟩, ⟨⟨_, rfl, Le.refl _⟩, ⟨⟨_, rfl, Le.is (by rfl)⟩, trivial⟩⟩⟩⟩⟩⟩⟩, [0, 1, 2, 3, 4, 5], by decide, ⟨⟨_, rfl, LeAll.refl _⟩, ⟨⟨_, rfl, LeR.refl _⟩, ⟨⟨_, rfl, LeR.refl _⟩, ⟨⟨_, rfl, LeR.refl _⟩, ⟨⟨_, rfl, LeAll.refl _⟩, ⟨⟨_, rfl, LeAll.refl _⟩, trivial⟩⟩⟩⟩⟩⟩⟩) ?_
  refine SW.region ?_
  refine SWl.rd rfl (Rd.lss rfl rfl) ?_
  refine SWl.nil ?_
  refine SN.then ?_
  refine SW.seq ?_
  refine SW.condF rfl (by decide) ?_
  refine SW.exit' ?_
  repeat (first | refine SE.then ?_ | refine SE.skip (by decide) ?_)
  refine SE.here ?_
  refine SN.then ?_
  refine SW.seq ?_
  refine SW.sub (σ' := St.ob [(1, isD (.pointer (some ⟨g1, 0, none⟩))), (2, isD (.pointer (some ⟨g7, 0, none⟩))), (3, isD (.pointer (some ⟨g3, 0, none⟩)))] [.c g7 [isD (.map (s1.M.map Prod.fst)), isD (.slice s1.n.A (Acc.nm gL).length s1.n.c), isD (.map (s1.M.map Prod.snd))], .r s1.n.F (vecT 9 1 encT s1.n.A s1.n.c (Acc.nm gL)), .r s1.F1 (mapQ (s1.M.map Prod.fst) encS (Acc.nm gL) (acD gL)), .r s1.F2 (mapQ (s1.M.map Prod.snd) encSt (Acc.seats gL) (seD gL)), .c g1 [isD (.slice none 0 0)], .c g3 [lsD encA gL]]) (⟨⟨_, rfl, ⟨⟨_, rfl, Le.refl _⟩, ⟨⟨_, rfl, Le.refl _⟩, ⟨⟨_, rfl, Le.refl _⟩, trivial⟩⟩⟩⟩, [0, 1, 2, 3, 4, 5], by decide, ⟨⟨_, rfl, LeAll.refl _⟩, ⟨⟨_, rfl, LeR.refl _⟩, ⟨⟨_, rfl, LeR.refl _⟩, ⟨⟨_, rfl, LeR.refl _⟩, ⟨⟨_, rfl, LeAll.refl _⟩, ⟨⟨_, rfl, LeAll.refl _⟩, trivial⟩⟩⟩⟩⟩⟩⟩) ?_
  refine SW.draw (g1 :: []) (.r 0 (.r 1 (.r 2 (.e 3 .fin .no)))) (by kernel_rfl) (by kernel_rfl) (fun d _ _ _ _ h => by cases d <;> exact h) ?_
  refine SWz.rd (i := 0) rfl rfl (Rd.move rfl) ?_
  refine SWz.rd (i := 1) rfl rfl (Rd.loadA 5 1 rfl rfl (by kernel_rfl) rfl (ap_cons 4 rfl (by decide) ap_nil)) ?_
  refine SWz.rd (i := 2) rfl rfl (Rd.assign rfl) ?_
  refine SWz.efe (i := 3) rfl (Ef.storeA 4 rfl rfl rfl (by kernel_rfl) rfl (List.mem_cons_self)) ?_ SWz.no
  rintro _ rfl
  refine SWz.nil ?_
  refine SN.then ?_
  refine SW.retR (fn := Tryd.f18) ((g7, s1)) [0, 1, 2, 3] (fun _ _ h => h) (Rs.le (Rs.two rfl (ResV.tmp rfl) (ResV.cellA 4 rfl rfl (by kernel_rfl))) ?_) (by decide) ⟨⟨_, rfl, LeAll.refl _⟩, ⟨⟨_, rfl, LeR.refl _⟩, ⟨⟨_, rfl, LeR.refl _⟩, ⟨⟨_, rfl, LeR.refl _⟩, trivial⟩⟩⟩⟩
  exact Le.refl _
set_option maxHeartbeats 4000000 in
set_option maxRecDepth 100000 in
theorem con_short (e : Env.T) : ConN Tryd.prog 16 [aggD [strD e.acc, iD e.rnd, iD e.ser, bD e.box, bD e.tag]] (boolD (decide (Env.short e))) := by
  refine con_ofN Tryd.func16 (by kernel_rfl) rfl (by kernel_rfl) fun base w0 => ?_
  refine SW.seq ?_
  refine SW.region ?_
  refine SWl.ef (S := []) (Ef.boxA rfl rfl) ?_
  rintro _ ⟨g1, rfl⟩
  refine SWl.rd rfl (Rd.assign rfl) ?_
  refine SWl.nil ?_
  refine SN.then ?_
  refine SW.seq ?_
  refine SW.region ?_
  refine SWl.rd rfl (Rd.fieldAddr (n := 0) rfl (by kernel_rfl)) ?_
  refine SWl.rd rfl (Rd.loadB 0 rfl rfl rfl (by kernel_rfl) ap_nil) ?_
  refine SWl.rd rfl (Rd.lenb rfl (by kernel_rfl)) ?_
  refine SWl.rd rfl (Rd.leq rfl rfl) ?_
  refine SWl.rd rfl (Rd.move rfl) ?_
  refine SWl.split 7 rfl (fun hb7 => ?_) (fun hb7 => ?_)
  · have h7 : e.acc.length ≤ 100 := by have h := of_decide_eq_true hb7; omega
    refine SWl.rdg rfl rfl (hb7) rfl rfl (Rd.fieldAddr (n := 3) rfl (by kernel_rfl)) ?_
    refine SWl.rdg rfl rfl (hb7) rfl rfl (Rd.loadB 0 rfl rfl rfl (by kernel_rfl) ap_nil) ?_
    refine SWl.rdg rfl rfl (hb7) rfl rfl (Rd.len (e := 5) rfl (by kernel_rfl)) ?_
    refine SWl.rdg rfl rfl (hb7) rfl rfl (Rd.leq rfl rfl) ?_
    refine SWl.rd rfl (Rd.pickY rfl (hb7) rfl) ?_
    refine SWl.rd rfl (Rd.move rfl) ?_
    refine SWl.split 13 rfl (fun hb13 => ?_) (fun hb13 => ?_)
    · have h13 : e.box.length ≤ 400 := by have h := of_decide_eq_true hb13; rw [cellsOf_length] at h; omega
      refine SWl.rdg rfl rfl (hb13) rfl rfl (Rd.fieldAddr (n := 4) rfl (by kernel_rfl)) ?_
      refine SWl.rdg rfl rfl (hb13) rfl rfl (Rd.loadB 0 rfl rfl rfl (by kernel_rfl) ap_nil) ?_
      refine SWl.rdg rfl rfl (hb13) rfl rfl (Rd.len (e := 5) rfl (by kernel_rfl)) ?_
      refine SWl.rdg rfl rfl (hb13) rfl rfl (Rd.leq rfl rfl) ?_
      refine SWl.rd rfl (Rd.pickY rfl (hb13) rfl) ?_
      refine SWl.rd rfl (Rd.assign rfl) ?_
      refine SWl.nil ?_
      refine SN.then ?_
      refine SW.ret (fn := Tryd.f16) (fun _ _ h => h) (Rs.le (Rs.one rfl (ResV.tmp rfl)) ?_)
      exact le_bool_n (by rw [decide_eq_decide, cellsOf_length]; exact ⟨fun h => ⟨h7, h13, by omega⟩, fun h => by have := h.2.2; omega⟩)
    · have h13 : ¬ e.box.length ≤ 400 := by have h := of_decide_eq_false hb13; rw [cellsOf_length] at h; omega
      refine SWl.off rfl rfl (hb13) rfl rfl ?_
      refine SWl.off rfl rfl (hb13) rfl rfl ?_
      refine SWl.off rfl rfl (hb13) rfl rfl ?_
      refine SWl.off rfl rfl (hb13) rfl rfl ?_
      refine SWl.rd rfl (Rd.pickN rfl (hb13) rfl) ?_
      refine SWl.rd rfl (Rd.assign rfl) ?_
      refine SWl.nil ?_
      refine SN.then ?_
      refine SW.ret (fn := Tryd.f16) (fun _ _ h => h) (Rs.le (Rs.one rfl (ResV.tmp rfl)) ?_)
      exact le_bool_n (by symm; apply decide_eq_false; intro h; exact h13 h.2.1)
  · have h7 : ¬ e.acc.length ≤ 100 := by have h := of_decide_eq_false hb7; omega
    refine SWl.off rfl rfl (hb7) rfl rfl ?_
    refine SWl.off rfl rfl (hb7) rfl rfl ?_
    refine SWl.off rfl rfl (hb7) rfl rfl ?_
    refine SWl.off rfl rfl (hb7) rfl rfl ?_
    refine SWl.rd rfl (Rd.pickN rfl (hb7) rfl) ?_
    refine SWl.rd rfl (Rd.move rfl) ?_
    refine SWl.off rfl rfl (rfl) rfl rfl ?_
    refine SWl.off rfl rfl (rfl) rfl rfl ?_
    refine SWl.off rfl rfl (rfl) rfl rfl ?_
    refine SWl.off rfl rfl (rfl) rfl rfl ?_
    refine SWl.rd rfl (Rd.pickN rfl (rfl) rfl) ?_
    refine SWl.rd rfl (Rd.assign rfl) ?_
    refine SWl.nil ?_
    refine SN.then ?_
    refine SW.ret (fn := Tryd.f16) (fun _ _ h => h) (Rs.le (Rs.one rfl (ResV.tmp rfl)) ?_)
    exact le_bool_n (by symm; apply decide_eq_false; intro h; exact h7 h.1)
end Sx
end Go.Proofs.YtchbgfgboogniaaDoor
