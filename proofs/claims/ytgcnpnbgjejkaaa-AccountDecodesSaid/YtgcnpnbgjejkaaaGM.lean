/-
  ACCOUNTS: Encode.
  ACCOUNTS: the reference's Encode.
  ACCOUNTS: books read, in plain terms.
  ACCOUNTS: Decode.
  ACCOUNTS: the reference's Decode.
-/
import Derived.Test.YtgcnpnbgjejkaaaGO
import Derived.Test.YtgcnpnbgjejkaaaGL
namespace Go.Proofs.Ytgcnpnbgjejkaaa
open Go.RowKit
namespace Sx
/-- The encoding of an account, of a book. -/
def encAcc (a : Acc.T) : List UInt8 := strE a.name ++ grp a.role.toNat ++ strE a.key ++ grp a.dep.toNat ++ grp a.num.toNat
def encPre (l : List Acc.T) (i : Nat) : List UInt8 := grp l.length ++ (l.take i).flatMap encAcc
def encBook (l : List Acc.T) : List UInt8 := grp l.length ++ l.flatMap encAcc
theorem encPre_zero (l : List Acc.T) : encPre l 0 = grp l.length := by simp [encPre]
theorem encPre_succ {l : List Acc.T} {i : Nat} {x : Acc.T} (h : l[i]? = some x) : encPre l (i + 1) = encPre l i ++ strE x.name ++ grp x.role.toNat ++ strE x.key ++ grp x.dep.toNat ++ grp x.num.toNat := by
  unfold encPre
  rw [take_snoc h, List.flatMap_append, List.flatMap_cons, List.flatMap_nil]
  simp [encAcc, List.append_assoc]
theorem encPre_all {l : List Acc.T} {i : Nat} (h : l.length ≤ i) : encPre l i = encBook l := by unfold encPre encBook; rw [List.take_of_length_le h]
theorem strE_len {b : List UInt8} (h : b.length < 18446744073709551616) : (strE b).length ≤ 10 + b.length := by
  have := grp_ten h
  unfold strE
  rw [List.length_append]
  omega
theorem okR {a : Acc.T} (h : Acc.ok a) : a.name.length ≤ 32 ∧ a.key.length = 32 ∧ 0 ≤ a.role ∧ a.role ≤ 3 ∧ 0 ≤ a.dep ∧ a.dep ≤ 1125899906842624 ∧ 0 ≤ a.num ∧ a.num ≤ 512 := by
  have hr := Acc.ok_role h
  obtain ⟨h1, h2, h3, h4, h5, h6⟩ := h
  have h7 : a.num < 512 ∨ a.num < 32 ∨ a.num < 1 := by
    rcases hr with e | e | e <;> rw [e] at h6 <;> simp [Acc.nums] at h6 <;> omega
  exact ⟨h1.2.2, h2, by omega, by omega, h3, h4, h5, by omega⟩
theorem encAcc_len {a : Acc.T} (h : Acc.ok a) : (encAcc a).length ≤ 114 := by
  obtain ⟨h1, h2, h3, h4, h5, h6, h7, h8⟩ := okR h
  have a1 := strE_len (b := a.name) (by omega)
  have a2 := strE_len (b := a.key) (by omega)
  have a3 := grp_ten (n := a.role.toNat) (by omega)
  have a4 := grp_ten (n := a.dep.toNat) (by omega)
  have a5 := grp_ten (n := a.num.toNat) (by omega)
  unfold encAcc
  simp only [List.length_append]
  omega
theorem encPre_len {l : List Acc.T} (hf : Acc.Fine l) : ∀ (i : Nat), (encPre l i).length ≤ 10 + 114 * min i l.length
  | 0 => by
    have := grp_ten (n := l.length) (by have := hf.len; omega)
    rw [encPre_zero]; omega
  | i + 1 => by
    have ih := encPre_len hf i
    by_cases hi : i < l.length
    · have hx : l[i]? = some l[i] := List.getElem?_eq_getElem hi
      have h := encAcc_len (hf.oks l[i] (List.getElem_mem hi))
      rw [encPre_succ hx]
      unfold encAcc at h
      simp only [List.length_append] at h ⊢
      omega
    · rw [encPre_all (by omega), ← encPre_all (l := l) (i := i) (by omega)]
      omega
set_option maxHeartbeats 4000000 in
set_option maxRecDepth 100000 in
theorem con_encodeB (gb : Nat) (s : Bst) (l : List Acc.T) (hf : Acc.Fine l) : ConR Try.prog 26 [.c gb [isD (.map (s.M.map Prod.fst)), isD (.slice s.n.A (Acc.nm l).length s.n.c), isD (.map (s.M.map Prod.snd))], .r s.n.F (vecT 9 1 encT s.n.A s.n.c (Acc.nm l)), .r s.F1 (mapQ (s.M.map Prod.fst) encS (Acc.nm l) (acD l)), .r s.F2 (mapQ (s.M.map Prod.snd) encSt (Acc.seats l) (seD l))] [isD (.pointer (some ⟨gb, 0, none⟩))] (fun _ : Unit => [.c gb [isD (.map (s.M.map Prod.fst)), isD (.slice s.n.A (Acc.nm l).length s.n.c), isD (.map (s.M.map Prod.snd))], .r s.n.F (vecT 9 1 encT s.n.A s.n.c (Acc.nm l)), .r s.F1 (mapQ (s.M.map Prod.fst) encS (Acc.nm l) (acD l)), .r s.F2 (mapQ (s.M.map Prod.snd) encSt (Acc.seats l) (seD l))]) (fun _ : Unit => bD (encBook l)) := by
  have hll := hf.len
  have hkb : ∀ e ∈ l, e.key.length ≤ 1000000 := fun e he => by have := (hf.oks e he).2.1; omega
  refine con_ofRMp Try.func26 (by kernel_rfl) rfl (by kernel_rfl) fun base w0 => ?_
  refine SW.seq ?_
  refine SW.region ?_
  refine SWl.rd rfl (Rd.assign rfl) ?_
  refine SWl.nil ?_
  refine SN.then ?_
  refine SW.seq ?_
  refine SW.seq ?_
  refine SW.region ?_
  refine SWl.rd rfl (Rd.move rfl) ?_
  refine SWl.rd rfl (Rd.eqP rfl rfl (by kernel_rfl)) ?_
  refine SWl.nil ?_
  refine SN.then ?_
  refine SW.condF rfl (rfl) ?_
  refine SW.skip ?_
  refine SN.then ?_
  refine SW.seq ?_
  refine SW.region ?_
  refine SWl.ef (S := []) (Ef.alloc (zs := [.int .i64 0, .slice none 0 0]) (by kernel_rfl) rfl) ?_
  rintro _ ⟨g3, rfl⟩
  refine SWl.nil ?_
  refine SN.then ?_
  refine SW.seq ?_
  refine SW.region ?_
  refine SWl.rd rfl (Rd.makeFuncB [.pointer (some ⟨g3, 0, none⟩)] rfl) ?_
  refine SWl.rd rfl (Rd.makeFuncB [.pointer (some ⟨g3, 0, none⟩)] rfl) ?_
  refine SWl.rd rfl (Rd.makeFuncB [.pointer (some ⟨g3, 0, none⟩)] rfl) ?_
  refine SWl.ef (S := []) (Ef.alloc (zs := [.nilFunc]) (by kernel_rfl) rfl) ?_
  rintro _ ⟨g4, rfl⟩
  refine SWl.ef (S := []) (Ef.alloc (zs := [.nilFunc]) (by kernel_rfl) rfl) ?_
  rintro _ ⟨g5, rfl⟩
  refine SWl.ef (S := []) (Ef.alloc (zs := [.nilFunc]) (by kernel_rfl) rfl) ?_
  rintro _ ⟨g6, rfl⟩
  refine SWl.ef (S := [_]) (Ef.storeV 5 rfl rfl rfl (by kernel_rfl) rfl (List.mem_singleton.2 rfl)) ?_
  rintro _ rfl
  refine SWl.ef (S := [_]) (Ef.storeV 6 rfl rfl rfl (by kernel_rfl) rfl (List.mem_singleton.2 rfl)) ?_
  rintro _ rfl
  refine SWl.ef (S := [_]) (Ef.storeV 7 rfl rfl rfl (by kernel_rfl) rfl (List.mem_singleton.2 rfl)) ?_
  rintro _ rfl
  refine SWl.nil ?_
  refine SN.then ?_
  refine SW.seq ?_
  refine SW.vecN 5 1 encB ?_
  refine SW.sub (σ' := St.ob [(0, isD (.pointer (some ⟨gb, 0, none⟩))), (3, isD (.pointer (some ⟨g3, 0, none⟩))), (4, isD (.pointer (some ⟨g4, 0, none⟩))), (5, isD (.pointer (some ⟨g5, 0, none⟩))), (6, isD (.pointer (some ⟨g6, 0, none⟩)))] [.c gb [isD (.map (s.M.map Prod.fst)), isD (.slice s.n.A (Acc.nm l).length s.n.c), isD (.map (s.M.map Prod.snd))], .r s.n.F (vecT 9 1 encT s.n.A s.n.c (Acc.nm l)), .r s.F1 (mapQ (s.M.map Prod.fst) encS (Acc.nm l) (acD l)), .r s.F2 (mapQ (s.M.map Prod.snd) encSt (Acc.seats l) (seD l)), .c g3 [iD 0, isD (.slice (⟨none, 0, []⟩ : Ust).A (([] : List UInt8)).length (⟨none, 0, []⟩ : Ust).c)], .r (⟨none, 0, []⟩ : Ust).F (vecT 5 1 encB (⟨none, 0, []⟩ : Ust).A (⟨none, 0, []⟩ : Ust).c (([] : List UInt8))), .c g4 [isD (.func (.func 52) #[.pointer (some ⟨g3, 0, none⟩)] #[])], .c g5 [isD (.func (.func 53) #[.pointer (some ⟨g3, 0, none⟩)] #[])], .c g6 [isD (.func (.func 54) #[.pointer (some ⟨g3, 0, none⟩)] #[])]]) (⟨⟨_, rfl, ⟨⟨_, rfl, Le.refl _⟩, ⟨⟨_, rfl, Le.refl _⟩, ⟨⟨_, rfl, Le.refl _⟩, ⟨⟨_, rfl, Le.refl _⟩, ⟨⟨_, rfl, Le.refl _⟩, trivial⟩⟩⟩⟩⟩⟩, [0, 1, 2, 3, 4, 8, 5, 6, 7], by decide, ⟨⟨_, rfl, LeAll.refl _⟩, ⟨⟨_, rfl, LeR.refl _⟩, ⟨⟨_, rfl, LeR.refl _⟩, ⟨⟨_, rfl, LeR.refl _⟩, ⟨⟨_, rfl, LeAll.refl _⟩, ⟨⟨_, rfl, LeR.refl _⟩, ⟨⟨_, rfl, LeAll.refl _⟩, ⟨⟨_, rfl, LeAll.refl _⟩, ⟨⟨_, rfl, LeAll.refl _⟩, trivial⟩⟩⟩⟩⟩⟩⟩⟩⟩⟩) ?_
  refine SW.draw (g3 :: ((⟨none, 0, []⟩ : Ust).F ++ [])) (.r 0 (.r 1 (.r 2 (.r 3 (.r 4 (.r 5 (.e 6 .fin .no))))))) (by kernel_rfl) (by kernel_rfl) (fun d _ _ _ _ h => by cases d <;> exact h) ?_
  refine SWz.rd (i := 0) rfl rfl (Rd.loadB 6 rfl rfl rfl (by kernel_rfl) (ap_cons 4 rfl (by decide) (ap_app 5 rfl (by decide) ap_nil))) ?_
  refine SWz.rd (i := 1) rfl rfl (Rd.move rfl) ?_
  refine SWz.rd (i := 2) rfl rfl (Rd.nilCheck rfl) ?_
  refine SWz.rd (i := 3) rfl rfl (Rd.fieldAddr (n := 1) rfl (by kernel_rfl)) ?_
  refine SWz.rd (i := 4) rfl rfl (Rd.loadB 0 rfl rfl rfl (by kernel_rfl) (ap_cons 4 rfl (by decide) (ap_app 5 rfl (by decide) ap_nil))) ?_
  refine SWz.rd (i := 5) rfl rfl (Rd.lenE (e := 9) rfl (by kernel_rfl)) ?_
  refine SWz.efe (i := 6) rfl (Ef.callBR (bd := [.pointer (some ⟨g3, 0, none⟩)]) [4, 5] (con_wUint g3 ⟨none, 0, []⟩ [] l.length (by omega) (by simp)) rfl rfl ⟨Le.refl _, Le.is (by simp), trivial⟩ (by decide) ⟨⟨_, rfl, LeAll.refl _⟩, ⟨⟨_, rfl, LeR.refl _⟩, trivial⟩⟩ (fun _ h => h) rfl) ?_ SWz.no
  rintro _ ⟨s22, rfl⟩
  refine SWz.nil ?_
  refine SN.then ?_
  refine SW.seq ?_
  refine SW.seq ?_
  refine SW.sub (σ' := St.ob [(0, isD (.pointer (some ⟨gb, 0, none⟩))), (3, isD (.pointer (some ⟨g3, 0, none⟩))), (4, isD (.pointer (some ⟨g4, 0, none⟩))), (5, isD (.pointer (some ⟨g5, 0, none⟩))), (6, isD (.pointer (some ⟨g6, 0, none⟩)))] [.c gb [isD (.map (s.M.map Prod.fst)), isD (.slice s.n.A (Acc.nm l).length s.n.c), isD (.map (s.M.map Prod.snd))], .r s.n.F (vecT 9 1 encT s.n.A s.n.c (Acc.nm l)), .r s.F1 (mapQ (s.M.map Prod.fst) encS (Acc.nm l) (acD l)), .r s.F2 (mapQ (s.M.map Prod.snd) encSt (Acc.seats l) (seD l)), .c g3 [iD 0, isD (.slice s22.A (encPre l 0).length s22.c)], .r s22.F (vecT 5 1 encB s22.A s22.c (encPre l 0)), .c g4 [isD (.func (.func 52) #[.pointer (some ⟨g3, 0, none⟩)] #[])], .c g5 [isD (.func (.func 53) #[.pointer (some ⟨g3, 0, none⟩)] #[])], .c g6 [isD (.func (.func 54) #[.pointer (some ⟨g3, 0, none⟩)] #[])]]) (⟨⟨_, rfl, ⟨⟨_, rfl, Le.refl _⟩, ⟨⟨_, rfl, Le.refl _⟩, ⟨⟨_, rfl, Le.refl _⟩, ⟨⟨_, rfl, Le.refl _⟩, ⟨⟨_, rfl, Le.refl _⟩, trivial⟩⟩⟩⟩⟩⟩, [0, 1, 2, 3, 7, 8, 4, 5, 6], by decide, ⟨⟨_, rfl, LeAll.refl _⟩, ⟨⟨_, rfl, LeR.refl _⟩, ⟨⟨_, rfl, LeR.refl _⟩, ⟨⟨_, rfl, LeR.refl _⟩, ⟨⟨_, rfl, ⟨Le.refl _, Le.is (by rw [encPre_zero, List.nil_append]), trivial⟩⟩, ⟨⟨_, rfl, leVec (by rw [encPre_zero, List.nil_append]) (by rw [encPre_zero, List.nil_append])⟩, ⟨⟨_, rfl, LeAll.refl _⟩, ⟨⟨_, rfl, LeAll.refl _⟩, ⟨⟨_, rfl, LeAll.refl _⟩, trivial⟩⟩⟩⟩⟩⟩⟩⟩⟩⟩) ?_
  refine SW.region ?_
  refine SWl.rd rfl (Rd.move rfl) ?_
  refine SWl.ef (Ef.callR [0, 1, 2, 3] (con_accounts gb s l hf) rfl ⟨Le.refl _, trivial⟩ (by decide) ⟨⟨_, rfl, LeAll.refl _⟩, ⟨⟨_, rfl, LeR.refl _⟩, ⟨⟨_, rfl, LeR.refl _⟩, ⟨⟨_, rfl, LeR.refl _⟩, trivial⟩⟩⟩⟩ (fun _ h => h) rfl) ?_
  rintro _ ⟨gq, rfl⟩
  refine SWl.nil ?_
  refine SN.then ?_
  refine SW.block ?_
  refine SW.freezeF 9 24 rfl rfl ?_
  refine SW.sub (σ' := St.ob [(3, isD (.pointer (some ⟨g3, 0, none⟩))), (4, isD (.pointer (some ⟨g4, 0, none⟩))), (5, isD (.pointer (some ⟨g5, 0, none⟩))), (6, isD (.pointer (some ⟨g6, 0, none⟩))), (24, fnD 37 [paD [lsD encA l]])] [.c gb [isD (.map (s.M.map Prod.fst)), isD (.slice s.n.A (Acc.nm l).length s.n.c), isD (.map (s.M.map Prod.snd))], .r s.n.F (vecT 9 1 encT s.n.A s.n.c (Acc.nm l)), .r s.F1 (mapQ (s.M.map Prod.fst) encS (Acc.nm l) (acD l)), .r s.F2 (mapQ (s.M.map Prod.snd) encSt (Acc.seats l) (seD l)), .c g3 [iD 0, isD (.slice s22.A (encPre l 0).length s22.c)], .r s22.F (vecT 5 1 encB s22.A s22.c (encPre l 0)), .c g4 [isD (.func (.func 52) #[.pointer (some ⟨g3, 0, none⟩)] #[])], .c g5 [isD (.func (.func 53) #[.pointer (some ⟨g3, 0, none⟩)] #[])], .c g6 [isD (.func (.func 54) #[.pointer (some ⟨g3, 0, none⟩)] #[])]]) (⟨⟨_, rfl, ⟨⟨_, rfl, Le.refl _⟩, ⟨⟨_, rfl, Le.refl _⟩, ⟨⟨_, rfl, Le.refl _⟩, ⟨⟨_, rfl, Le.refl _⟩, ⟨⟨_, rfl, Le.refl _⟩, trivial⟩⟩⟩⟩⟩⟩, [5, 6, 7, 8, 0, 1, 2, 3, 4], by decide, ⟨⟨_, rfl, LeAll.refl _⟩, ⟨⟨_, rfl, LeR.refl _⟩, ⟨⟨_, rfl, LeR.refl _⟩, ⟨⟨_, rfl, LeR.refl _⟩, ⟨⟨_, rfl, LeAll.refl _⟩, ⟨⟨_, rfl, LeR.refl _⟩, ⟨⟨_, rfl, LeAll.refl _⟩, ⟨⟨_, rfl, LeAll.refl _⟩, ⟨⟨_, rfl, LeAll.refl _⟩, trivial⟩⟩⟩⟩⟩⟩⟩⟩⟩⟩) ?_
  refine SW.rangeF (gf := 37) (ps := [25, 26]) (ib := ibA) (dd := ddA) (items := (itemsA l)) (fun i bx => ∃ t : Ust, bx = [.c gb [isD (.map (s.M.map Prod.fst)), isD (.slice s.n.A (Acc.nm l).length s.n.c), isD (.map (s.M.map Prod.snd))], .r s.n.F (vecT 9 1 encT s.n.A s.n.c (Acc.nm l)), .r s.F1 (mapQ (s.M.map Prod.fst) encS (Acc.nm l) (acD l)), .r s.F2 (mapQ (s.M.map Prod.snd) encSt (Acc.seats l) (seD l)), .c g3 [iD 0, isD (.slice t.A (encPre l i).length t.c)], .r t.F (vecT 5 1 encB t.A t.c (encPre l i)), .c g4 [isD (.func (.func 52) #[.pointer (some ⟨g3, 0, none⟩)] #[])], .c g5 [isD (.func (.func 53) #[.pointer (some ⟨g3, 0, none⟩)] #[])], .c g6 [isD (.func (.func 54) #[.pointer (some ⟨g3, 0, none⟩)] #[])]]) (fun o i bx => match o with | none => False | some n => False) (fun i x k σ => ∃ (t : Ust) (g8 : Nat), σ = St.ob [(3, isD (.pointer (some ⟨g3, 0, none⟩))), (4, isD (.pointer (some ⟨g4, 0, none⟩))), (5, isD (.pointer (some ⟨g5, 0, none⟩))), (6, isD (.pointer (some ⟨g6, 0, none⟩))), (8, isD (.pointer (some ⟨g8, 0, none⟩)))] [.c gb [isD (.map (s.M.map Prod.fst)), isD (.slice s.n.A (Acc.nm l).length s.n.c), isD (.map (s.M.map Prod.snd))], .r s.n.F (vecT 9 1 encT s.n.A s.n.c (Acc.nm l)), .r s.F1 (mapQ (s.M.map Prod.fst) encS (Acc.nm l) (acD l)), .r s.F2 (mapQ (s.M.map Prod.snd) encSt (Acc.seats l) (seD l)), .c g3 [iD 0, isD (.slice t.A (encPre l i).length t.c)], .r t.F (vecT 5 1 encB t.A t.c (encPre l i)), .c g4 [isD (.func (.func 52) #[.pointer (some ⟨g3, 0, none⟩)] #[])], .c g5 [isD (.func (.func 53) #[.pointer (some ⟨g3, 0, none⟩)] #[])], .c g6 [isD (.func (.func 54) #[.pointer (some ⟨g3, 0, none⟩)] #[])], .r k.F (vecT 5 1 encB k.A k.c x.2.key), .c g8 [strD x.2.name, iD x.2.role, isD (.slice k.A x.2.key.length k.c), iD x.2.dep, iD x.2.num]]) accounts_en (con_accounts_seq l (by omega) hkb) rfl (⟨s22, rfl⟩) (by kernel_rfl) (fun _ _ => rfl) ?_ ?_ ?_ ?_ ?_
  · rintro i x k hx bx ⟨t, rfl⟩ y base w0
    refine SWr.region (by kernel_rfl) (fun _ _ h => h) ?_
    refine SWl.ef (S := []) (Ef.alloc (zs := [.string ⟨#[]⟩, .int .i64 0, .slice none 0 0, .int .i64 0, .int .i64 0]) (by kernel_rfl) rfl) ?_
    rintro _ ⟨g8, rfl⟩
    refine SWl.ef (S := [_]) (Ef.storeA 10 rfl rfl rfl (by kernel_rfl) rfl (List.mem_singleton.2 rfl)) ?_
    rintro _ rfl
    refine SWl.nil ?_
    exact SN.rnd (σ' := St.ob [(3, isD (.pointer (some ⟨g3, 0, none⟩))), (4, isD (.pointer (some ⟨g4, 0, none⟩))), (5, isD (.pointer (some ⟨g5, 0, none⟩))), (6, isD (.pointer (some ⟨g6, 0, none⟩))), (8, isD (.pointer (some ⟨g8, 0, none⟩)))] [.c gb [isD (.map (s.M.map Prod.fst)), isD (.slice s.n.A (Acc.nm l).length s.n.c), isD (.map (s.M.map Prod.snd))], .r s.n.F (vecT 9 1 encT s.n.A s.n.c (Acc.nm l)), .r s.F1 (mapQ (s.M.map Prod.fst) encS (Acc.nm l) (acD l)), .r s.F2 (mapQ (s.M.map Prod.snd) encSt (Acc.seats l) (seD l)), .c g3 [iD 0, isD (.slice t.A (encPre l i).length t.c)], .r t.F (vecT 5 1 encB t.A t.c (encPre l i)), .c g4 [isD (.func (.func 52) #[.pointer (some ⟨g3, 0, none⟩)] #[])], .c g5 [isD (.func (.func 53) #[.pointer (some ⟨g3, 0, none⟩)] #[])], .c g6 [isD (.func (.func 54) #[.pointer (some ⟨g3, 0, none⟩)] #[])], .r k.F (vecT 5 1 encB k.A k.c x.2.key), .c g8 [strD x.2.name, iD x.2.role, isD (.slice k.A x.2.key.length k.c), iD x.2.dep, iD x.2.num]]) ⟨t, g8, rfl⟩ (⟨⟨_, rfl, ⟨⟨_, rfl, Le.refl _⟩, ⟨⟨_, rfl, Le.refl _⟩, ⟨⟨_, rfl, Le.refl _⟩, ⟨⟨_, rfl, Le.refl _⟩, ⟨⟨_, rfl, Le.refl _⟩, trivial⟩⟩⟩⟩⟩⟩, [0, 1, 2, 3, 4, 5, 6, 7, 8, 9, 10], by decide, ⟨⟨_, rfl, LeAll.refl _⟩, ⟨⟨_, rfl, LeR.refl _⟩, ⟨⟨_, rfl, LeR.refl _⟩, ⟨⟨_, rfl, LeR.refl _⟩, ⟨⟨_, rfl, LeAll.refl _⟩, ⟨⟨_, rfl, LeR.refl _⟩, ⟨⟨_, rfl, LeAll.refl _⟩, ⟨⟨_, rfl, LeAll.refl _⟩, ⟨⟨_, rfl, LeAll.refl _⟩, ⟨⟨_, rfl, LeR.refl _⟩, ⟨⟨_, rfl, LeAll.refl _⟩, trivial⟩⟩⟩⟩⟩⟩⟩⟩⟩⟩⟩⟩)
  · rintro i x k hx _ ⟨t, g8, rfl⟩ y base w0
    obtain ⟨hx1, hx2⟩ := itemsA_inv (j := x.1) (e := x.2) hx
    have hlt := (List.getElem?_eq_some_iff.1 hx2).1
    have hxb := hkb x.2 (List.mem_of_getElem? hx2)
    obtain ⟨hn1, hn2, r1, r2, r3, r4, r5, r6⟩ := okR (hf.oks x.2 (List.mem_of_getElem? hx2))
    have hp := encPre_len hf i
    have a1 := strE_len (b := x.2.name) (by omega)
    have a2 := strE_len (b := x.2.key) (by omega)
    have a3 := grp_ten (n := x.2.role.toNat) (by omega)
    have a4 := grp_ten (n := x.2.dep.toNat) (by omega)
    have a5 := grp_ten (n := x.2.num.toNat) (by omega)
    refine SWr.block ?_
    refine SWr.seq ?_
    refine SWr.sub (σ' := St.ob [(3, isD (.pointer (some ⟨g3, 0, none⟩))), (4, isD (.pointer (some ⟨g4, 0, none⟩))), (5, isD (.pointer (some ⟨g5, 0, none⟩))), (6, isD (.pointer (some ⟨g6, 0, none⟩))), (8, isD (.pointer (some ⟨g8, 0, none⟩)))] [.c gb [isD (.map (s.M.map Prod.fst)), isD (.slice s.n.A (Acc.nm l).length s.n.c), isD (.map (s.M.map Prod.snd))], .r s.n.F (vecT 9 1 encT s.n.A s.n.c (Acc.nm l)), .r s.F1 (mapQ (s.M.map Prod.fst) encS (Acc.nm l) (acD l)), .r s.F2 (mapQ (s.M.map Prod.snd) encSt (Acc.seats l) (seD l)), .c g3 [iD 0, isD (.slice t.A (encPre l i).length t.c)], .r t.F (vecT 5 1 encB t.A t.c (encPre l i)), .c g4 [isD (.func (.func 52) #[.pointer (some ⟨g3, 0, none⟩)] #[])], .c g5 [isD (.func (.func 53) #[.pointer (some ⟨g3, 0, none⟩)] #[])], .c g6 [isD (.func (.func 54) #[.pointer (some ⟨g3, 0, none⟩)] #[])], .r k.F (vecT 5 1 encB k.A k.c x.2.key), .c g8 [strD x.2.name, iD x.2.role, isD (.slice k.A x.2.key.length k.c), iD x.2.dep, iD x.2.num]]) (⟨⟨_, rfl, ⟨⟨_, rfl, Le.refl _⟩, ⟨⟨_, rfl, Le.refl _⟩, ⟨⟨_, rfl, Le.refl _⟩, ⟨⟨_, rfl, Le.refl _⟩, ⟨⟨_, rfl, Le.refl _⟩, trivial⟩⟩⟩⟩⟩⟩, [0, 1, 2, 3, 4, 5, 6, 7, 8, 9, 10], by decide, ⟨⟨_, rfl, LeAll.refl _⟩, ⟨⟨_, rfl, LeR.refl _⟩, ⟨⟨_, rfl, LeR.refl _⟩, ⟨⟨_, rfl, LeR.refl _⟩, ⟨⟨_, rfl, LeAll.refl _⟩, ⟨⟨_, rfl, LeR.refl _⟩, ⟨⟨_, rfl, LeAll.refl _⟩, ⟨⟨_, rfl, LeAll.refl _⟩, ⟨⟨_, rfl, LeAll.refl _⟩, ⟨⟨_, rfl, LeR.refl _⟩, ⟨⟨_, rfl, LeAll.refl _⟩, trivial⟩⟩⟩⟩⟩⟩⟩⟩⟩⟩⟩⟩) ?_
    refine SWr.region (by kernel_rfl) (fun _ _ h => h) ?_
    refine SWl.rd rfl (Rd.loadB 7 rfl rfl rfl (by kernel_rfl) ap_nil) ?_
    refine SWl.rd rfl (Rd.fieldAddr (n := 0) rfl (by kernel_rfl)) ?_
    refine SWl.rd rfl (Rd.loadB 10 rfl rfl rfl (by kernel_rfl) ap_nil) ?_
    refine SWl.ef (Ef.callBR (bd := [.pointer (some ⟨g3, 0, none⟩)]) [4, 5] (con_wString g3 t (encPre l i) x.2.name (by first | omega | (simp only [List.length_append] at *; omega))) rfl rfl ⟨Le.refl _, Le.refl _, trivial⟩ (by decide) ⟨⟨_, rfl, LeAll.refl _⟩, ⟨⟨_, rfl, LeR.refl _⟩, trivial⟩⟩ (fun _ h => h) rfl) ?_
    rintro _ ⟨s30, rfl⟩
    refine SWl.nil ?_
    refine SN.thenr ?_
    refine SWr.seq ?_
    refine SWr.sub (σ' := St.ob [(3, isD (.pointer (some ⟨g3, 0, none⟩))), (4, isD (.pointer (some ⟨g4, 0, none⟩))), (5, isD (.pointer (some ⟨g5, 0, none⟩))), (6, isD (.pointer (some ⟨g6, 0, none⟩))), (8, isD (.pointer (some ⟨g8, 0, none⟩)))] [.c gb [isD (.map (s.M.map Prod.fst)), isD (.slice s.n.A (Acc.nm l).length s.n.c), isD (.map (s.M.map Prod.snd))], .r s.n.F (vecT 9 1 encT s.n.A s.n.c (Acc.nm l)), .r s.F1 (mapQ (s.M.map Prod.fst) encS (Acc.nm l) (acD l)), .r s.F2 (mapQ (s.M.map Prod.snd) encSt (Acc.seats l) (seD l)), .c g3 [iD 0, isD (.slice s30.A (encPre l i ++ strE x.2.name).length s30.c)], .r s30.F (vecT 5 1 encB s30.A s30.c (encPre l i ++ strE x.2.name)), .c g4 [isD (.func (.func 52) #[.pointer (some ⟨g3, 0, none⟩)] #[])], .c g5 [isD (.func (.func 53) #[.pointer (some ⟨g3, 0, none⟩)] #[])], .c g6 [isD (.func (.func 54) #[.pointer (some ⟨g3, 0, none⟩)] #[])], .r k.F (vecT 5 1 encB k.A k.c x.2.key), .c g8 [strD x.2.name, iD x.2.role, isD (.slice k.A x.2.key.length k.c), iD x.2.dep, iD x.2.num]]) (⟨⟨_, rfl, ⟨⟨_, rfl, Le.refl _⟩, ⟨⟨_, rfl, Le.refl _⟩, ⟨⟨_, rfl, Le.refl _⟩, ⟨⟨_, rfl, Le.refl _⟩, ⟨⟨_, rfl, Le.refl _⟩, trivial⟩⟩⟩⟩⟩⟩, [0, 1, 2, 3, 9, 10, 4, 5, 6, 7, 8], by decide, ⟨⟨_, rfl, LeAll.refl _⟩, ⟨⟨_, rfl, LeR.refl _⟩, ⟨⟨_, rfl, LeR.refl _⟩, ⟨⟨_, rfl, LeR.refl _⟩, ⟨⟨_, rfl, LeAll.refl _⟩, ⟨⟨_, rfl, LeR.refl _⟩, ⟨⟨_, rfl, LeAll.refl _⟩, ⟨⟨_, rfl, LeAll.refl _⟩, ⟨⟨_, rfl, LeAll.refl _⟩, ⟨⟨_, rfl, LeR.refl _⟩, ⟨⟨_, rfl, LeAll.refl _⟩, trivial⟩⟩⟩⟩⟩⟩⟩⟩⟩⟩⟩⟩) ?_
    refine SWr.region (by kernel_rfl) (fun _ _ h => h) ?_
    refine SWl.rd rfl (Rd.loadB 6 rfl rfl rfl (by kernel_rfl) ap_nil) ?_
    refine SWl.rd rfl (Rd.fieldAddr (n := 1) rfl (by kernel_rfl)) ?_
    refine SWl.rd rfl (Rd.loadB 10 rfl rfl rfl (by kernel_rfl) ap_nil) ?_
    refine SWl.ef (Ef.callBR (bd := [.pointer (some ⟨g3, 0, none⟩)]) [4, 5] (con_wUint g3 s30 (encPre l i ++ strE x.2.name) x.2.role.toNat (by omega) (by first | omega | (simp only [List.length_append] at *; omega))) rfl rfl ⟨Le.refl _, Le.is (by rw [Int.toNat_of_nonneg r1]), trivial⟩ (by decide) ⟨⟨_, rfl, LeAll.refl _⟩, ⟨⟨_, rfl, LeR.refl _⟩, trivial⟩⟩ (fun _ h => h) rfl) ?_
    rintro _ ⟨s34, rfl⟩
    refine SWl.nil ?_
    refine SN.thenr ?_
    refine SWr.seq ?_
    refine SWr.sub (σ' := St.ob [(3, isD (.pointer (some ⟨g3, 0, none⟩))), (4, isD (.pointer (some ⟨g4, 0, none⟩))), (5, isD (.pointer (some ⟨g5, 0, none⟩))), (6, isD (.pointer (some ⟨g6, 0, none⟩))), (8, isD (.pointer (some ⟨g8, 0, none⟩)))] [.c gb [isD (.map (s.M.map Prod.fst)), isD (.slice s.n.A (Acc.nm l).length s.n.c), isD (.map (s.M.map Prod.snd))], .r s.n.F (vecT 9 1 encT s.n.A s.n.c (Acc.nm l)), .r s.F1 (mapQ (s.M.map Prod.fst) encS (Acc.nm l) (acD l)), .r s.F2 (mapQ (s.M.map Prod.snd) encSt (Acc.seats l) (seD l)), .c g3 [iD 0, isD (.slice s34.A (encPre l i ++ strE x.2.name ++ grp x.2.role.toNat).length s34.c)], .r s34.F (vecT 5 1 encB s34.A s34.c (encPre l i ++ strE x.2.name ++ grp x.2.role.toNat)), .c g4 [isD (.func (.func 52) #[.pointer (some ⟨g3, 0, none⟩)] #[])], .c g5 [isD (.func (.func 53) #[.pointer (some ⟨g3, 0, none⟩)] #[])], .c g6 [isD (.func (.func 54) #[.pointer (some ⟨g3, 0, none⟩)] #[])], .r k.F (vecT 5 1 encB k.A k.c x.2.key), .c g8 [strD x.2.name, iD x.2.role, isD (.slice k.A x.2.key.length k.c), iD x.2.dep, iD x.2.num]]) (⟨⟨_, rfl, ⟨⟨_, rfl, Le.refl _⟩, ⟨⟨_, rfl, Le.refl _⟩, ⟨⟨_, rfl, Le.refl _⟩, ⟨⟨_, rfl, Le.refl _⟩, ⟨⟨_, rfl, Le.refl _⟩, trivial⟩⟩⟩⟩⟩⟩, [0, 1, 2, 3, 9, 10, 4, 5, 6, 7, 8], by decide, ⟨⟨_, rfl, LeAll.refl _⟩, ⟨⟨_, rfl, LeR.refl _⟩, ⟨⟨_, rfl, LeR.refl _⟩, ⟨⟨_, rfl, LeR.refl _⟩, ⟨⟨_, rfl, LeAll.refl _⟩, ⟨⟨_, rfl, LeR.refl _⟩, ⟨⟨_, rfl, LeAll.refl _⟩, ⟨⟨_, rfl, LeAll.refl _⟩, ⟨⟨_, rfl, LeAll.refl _⟩, ⟨⟨_, rfl, LeR.refl _⟩, ⟨⟨_, rfl, LeAll.refl _⟩, trivial⟩⟩⟩⟩⟩⟩⟩⟩⟩⟩⟩⟩) ?_
    refine SWr.region (by kernel_rfl) (fun _ _ h => h) ?_
    refine SWl.rd rfl (Rd.loadB 8 rfl rfl rfl (by kernel_rfl) ap_nil) ?_
    refine SWl.rd rfl (Rd.fieldAddr (n := 2) rfl (by kernel_rfl)) ?_
    refine SWl.rd rfl (Rd.loadB 10 rfl rfl rfl (by kernel_rfl) ap_nil) ?_
    refine SWl.freezeT 9 37 rfl rfl (le_ls_b _) ?_
    refine SWl.ef (Ef.callBR (bd := [.pointer (some ⟨g3, 0, none⟩)]) [4, 5] (con_wBytes g3 s34 (encPre l i ++ strE x.2.name ++ grp x.2.role.toNat) x.2.key (by first | omega | (simp only [List.length_append] at *; omega))) rfl rfl ⟨Le.refl _, Le.refl _, trivial⟩ (by decide) ⟨⟨_, rfl, LeAll.refl _⟩, ⟨⟨_, rfl, LeR.refl _⟩, trivial⟩⟩ (fun _ h => h) rfl) ?_
    rintro _ ⟨s38, rfl⟩
    refine SWl.nil ?_
    refine SN.thenr ?_
    refine SWr.seq ?_
    refine SWr.sub (σ' := St.ob [(3, isD (.pointer (some ⟨g3, 0, none⟩))), (4, isD (.pointer (some ⟨g4, 0, none⟩))), (5, isD (.pointer (some ⟨g5, 0, none⟩))), (6, isD (.pointer (some ⟨g6, 0, none⟩))), (8, isD (.pointer (some ⟨g8, 0, none⟩)))] [.c gb [isD (.map (s.M.map Prod.fst)), isD (.slice s.n.A (Acc.nm l).length s.n.c), isD (.map (s.M.map Prod.snd))], .r s.n.F (vecT 9 1 encT s.n.A s.n.c (Acc.nm l)), .r s.F1 (mapQ (s.M.map Prod.fst) encS (Acc.nm l) (acD l)), .r s.F2 (mapQ (s.M.map Prod.snd) encSt (Acc.seats l) (seD l)), .c g3 [iD 0, isD (.slice s38.A (encPre l i ++ strE x.2.name ++ grp x.2.role.toNat ++ strE x.2.key).length s38.c)], .r s38.F (vecT 5 1 encB s38.A s38.c (encPre l i ++ strE x.2.name ++ grp x.2.role.toNat ++ strE x.2.key)), .c g4 [isD (.func (.func 52) #[.pointer (some ⟨g3, 0, none⟩)] #[])], .c g5 [isD (.func (.func 53) #[.pointer (some ⟨g3, 0, none⟩)] #[])], .c g6 [isD (.func (.func 54) #[.pointer (some ⟨g3, 0, none⟩)] #[])], .c g8 [strD x.2.name, iD x.2.role, isD (.slice k.A x.2.key.length k.c), iD x.2.dep, iD x.2.num]]) (⟨⟨_, rfl, ⟨⟨_, rfl, Le.refl _⟩, ⟨⟨_, rfl, Le.refl _⟩, ⟨⟨_, rfl, Le.refl _⟩, ⟨⟨_, rfl, Le.refl _⟩, ⟨⟨_, rfl, Le.refl _⟩, trivial⟩⟩⟩⟩⟩⟩, [0, 1, 2, 3, 8, 9, 4, 5, 6, 7], by decide, ⟨⟨_, rfl, LeAll.refl _⟩, ⟨⟨_, rfl, LeR.refl _⟩, ⟨⟨_, rfl, LeR.refl _⟩, ⟨⟨_, rfl, LeR.refl _⟩, ⟨⟨_, rfl, LeAll.refl _⟩, ⟨⟨_, rfl, LeR.refl _⟩, ⟨⟨_, rfl, LeAll.refl _⟩, ⟨⟨_, rfl, LeAll.refl _⟩, ⟨⟨_, rfl, LeAll.refl _⟩, ⟨⟨_, rfl, LeAll.refl _⟩, trivial⟩⟩⟩⟩⟩⟩⟩⟩⟩⟩⟩) ?_
    refine SWr.region (by kernel_rfl) (fun _ _ h => h) ?_
    refine SWl.rd rfl (Rd.loadB 6 rfl rfl rfl (by kernel_rfl) ap_nil) ?_
    refine SWl.rd rfl (Rd.fieldAddr (n := 3) rfl (by kernel_rfl)) ?_
    refine SWl.rd rfl (Rd.loadB 9 rfl rfl rfl (by kernel_rfl) ap_nil) ?_
    refine SWl.ef (Ef.callBR (bd := [.pointer (some ⟨g3, 0, none⟩)]) [4, 5] (con_wUint g3 s38 (encPre l i ++ strE x.2.name ++ grp x.2.role.toNat ++ strE x.2.key) x.2.dep.toNat (by omega) (by first | omega | (simp only [List.length_append] at *; omega))) rfl rfl ⟨Le.refl _, Le.is (by rw [Int.toNat_of_nonneg r3]), trivial⟩ (by decide) ⟨⟨_, rfl, LeAll.refl _⟩, ⟨⟨_, rfl, LeR.refl _⟩, trivial⟩⟩ (fun _ h => h) rfl) ?_
    rintro _ ⟨s42, rfl⟩
    refine SWl.nil ?_
    refine SN.thenr ?_
    refine SWr.sub (σ' := St.ob [(3, isD (.pointer (some ⟨g3, 0, none⟩))), (4, isD (.pointer (some ⟨g4, 0, none⟩))), (5, isD (.pointer (some ⟨g5, 0, none⟩))), (6, isD (.pointer (some ⟨g6, 0, none⟩))), (8, isD (.pointer (some ⟨g8, 0, none⟩)))] [.c gb [isD (.map (s.M.map Prod.fst)), isD (.slice s.n.A (Acc.nm l).length s.n.c), isD (.map (s.M.map Prod.snd))], .r s.n.F (vecT 9 1 encT s.n.A s.n.c (Acc.nm l)), .r s.F1 (mapQ (s.M.map Prod.fst) encS (Acc.nm l) (acD l)), .r s.F2 (mapQ (s.M.map Prod.snd) encSt (Acc.seats l) (seD l)), .c g3 [iD 0, isD (.slice s42.A (encPre l i ++ strE x.2.name ++ grp x.2.role.toNat ++ strE x.2.key ++ grp x.2.dep.toNat).length s42.c)], .r s42.F (vecT 5 1 encB s42.A s42.c (encPre l i ++ strE x.2.name ++ grp x.2.role.toNat ++ strE x.2.key ++ grp x.2.dep.toNat)), .c g4 [isD (.func (.func 52) #[.pointer (some ⟨g3, 0, none⟩)] #[])], .c g5 [isD (.func (.func 53) #[.pointer (some ⟨g3, 0, none⟩)] #[])], .c g6 [isD (.func (.func 54) #[.pointer (some ⟨g3, 0, none⟩)] #[])], .c g8 [strD x.2.name, iD x.2.role, isD (.slice k.A x.2.key.length k.c), iD x.2.dep, iD x.2.num]]) (⟨⟨_, rfl, ⟨⟨_, rfl, Le.refl _⟩, ⟨⟨_, rfl, Le.refl _⟩, ⟨⟨_, rfl, Le.refl _⟩, ⟨⟨_, rfl, Le.refl _⟩, ⟨⟨_, rfl, Le.refl _⟩, trivial⟩⟩⟩⟩⟩⟩, [0, 1, 2, 3, 8, 9, 4, 5, 6, 7], by decide, ⟨⟨_, rfl, LeAll.refl _⟩, ⟨⟨_, rfl, LeR.refl _⟩, ⟨⟨_, rfl, LeR.refl _⟩, ⟨⟨_, rfl, LeR.refl _⟩, ⟨⟨_, rfl, LeAll.refl _⟩, ⟨⟨_, rfl, LeR.refl _⟩, ⟨⟨_, rfl, LeAll.refl _⟩, ⟨⟨_, rfl, LeAll.refl _⟩, ⟨⟨_, rfl, LeAll.refl _⟩, ⟨⟨_, rfl, LeAll.refl _⟩, trivial⟩⟩⟩⟩⟩⟩⟩⟩⟩⟩⟩) ?_
    refine SWr.region (by kernel_rfl) (fun _ _ h => h) ?_
    refine SWl.rd rfl (Rd.loadB 6 rfl rfl rfl (by kernel_rfl) ap_nil) ?_
    refine SWl.rd rfl (Rd.fieldAddr (n := 4) rfl (by kernel_rfl)) ?_
    refine SWl.rd rfl (Rd.loadB 9 rfl rfl rfl (by kernel_rfl) ap_nil) ?_
    refine SWl.ef (Ef.callBR (bd := [.pointer (some ⟨g3, 0, none⟩)]) [4, 5] (con_wUint g3 s42 (encPre l i ++ strE x.2.name ++ grp x.2.role.toNat ++ strE x.2.key ++ grp x.2.dep.toNat) x.2.num.toNat (by omega) (by first | omega | (simp only [List.length_append] at *; omega))) rfl rfl ⟨Le.refl _, Le.is (by rw [Int.toNat_of_nonneg r5]), trivial⟩ (by decide) ⟨⟨_, rfl, LeAll.refl _⟩, ⟨⟨_, rfl, LeR.refl _⟩, trivial⟩⟩ (fun _ h => h) rfl) ?_
    rintro _ ⟨s46, rfl⟩
    refine SWl.nil ?_
    refine SN.block ?_
    exact SN.rnd (σ' := St.ob [] [.c gb [isD (.map (s.M.map Prod.fst)), isD (.slice s.n.A (Acc.nm l).length s.n.c), isD (.map (s.M.map Prod.snd))], .r s.n.F (vecT 9 1 encT s.n.A s.n.c (Acc.nm l)), .r s.F1 (mapQ (s.M.map Prod.fst) encS (Acc.nm l) (acD l)), .r s.F2 (mapQ (s.M.map Prod.snd) encSt (Acc.seats l) (seD l)), .c g3 [iD 0, isD (.slice s46.A (encPre l (i + 1)).length s46.c)], .r s46.F (vecT 5 1 encB s46.A s46.c (encPre l (i + 1))), .c g4 [isD (.func (.func 52) #[.pointer (some ⟨g3, 0, none⟩)] #[])], .c g5 [isD (.func (.func 53) #[.pointer (some ⟨g3, 0, none⟩)] #[])], .c g6 [isD (.func (.func 54) #[.pointer (some ⟨g3, 0, none⟩)] #[])]]) ⟨s46, rfl⟩ (⟨⟨_, rfl, trivial⟩, [0, 1, 2, 3, 8, 9, 4, 5, 6], by decide, ⟨⟨_, rfl, LeAll.refl _⟩, ⟨⟨_, rfl, LeR.refl _⟩, ⟨⟨_, rfl, LeR.refl _⟩, ⟨⟨_, rfl, LeR.refl _⟩, ⟨⟨_, rfl, ⟨Le.refl _, Le.is (by rw [encPre_succ hx2]), trivial⟩⟩, ⟨⟨_, rfl, leVec (by rw [encPre_succ hx2]) (by rw [encPre_succ hx2])⟩, ⟨⟨_, rfl, LeAll.refl _⟩, ⟨⟨_, rfl, LeAll.refl _⟩, ⟨⟨_, rfl, LeAll.refl _⟩, trivial⟩⟩⟩⟩⟩⟩⟩⟩⟩⟩)
  · rintro dk0 bx ⟨t, rfl⟩
    refine SN.block ?_
    refine SN.then ?_
    refine SW.seq ?_
    refine SW.region ?_
    refine SWl.ef (Ef.callR [4, 5] (con_wEnd g3 t (encPre l (itemsA l).length) (by have := encPre_len hf (itemsA l).length; omega)) rfl ⟨Le.refl _, trivial⟩ (by decide) ⟨⟨_, rfl, LeAll.refl _⟩, ⟨⟨_, rfl, LeR.refl _⟩, trivial⟩⟩ (fun _ h => h) rfl) ?_
    rintro _ ⟨⟨⟩, rfl⟩
    refine SWl.rd rfl (Rd.move rfl) ?_
    refine SWl.rd rfl (Rd.extract rfl rfl) ?_
    refine SWl.rd rfl (Rd.extract rfl rfl) ?_
    refine SWl.rd rfl (Rd.assign rfl) ?_
    refine SWl.rd rfl (Rd.assign rfl) ?_
    refine SWl.nil ?_
    refine SN.then ?_
    refine SW.seq ?_
    refine SW.region ?_
    refine SWl.rd rfl (Rd.move rfl) ?_
    refine SWl.rd rfl (Rd.assign rfl) ?_
    refine SWl.nil ?_
    refine SN.then ?_
    refine SW.retM (fn := Try.f26) (fun _ _ h => h) ?_
    refine RM.mark 7 rfl ?_
    refine RM.finR (()) [0, 1, 2, 3] (Rs.le (Rs.one rfl (ResV.tmp rfl)) ?_) (by decide) ⟨⟨_, rfl, LeAll.refl _⟩, ⟨⟨_, rfl, LeR.refl _⟩, ⟨⟨_, rfl, LeR.refl _⟩, ⟨⟨_, rfl, LeR.refl _⟩, trivial⟩⟩⟩⟩
    rw [encPre_all (by rw [itemsA_len]; exact Nat.le_refl _)]; exact Le.refl _
  · rintro _ _ _ _ hX; exact hX.elim
  · rintro _ _ _ hX; exact hX.elim
end Sx
end Go.Proofs.Ytgcnpnbgjejkaaa
namespace Go.Proofs.Ytgcnpnbgjejkaaa
open Go.RowKit
namespace Sx
theorem nat_w {z : Int} (h0 : 0 ≤ z) (h : z ≤ 9223372036854775807) : IntKind.u64.wrap z = ((z.toNat : Nat) : Int) := by rw [u64_w h0 h]; omega
set_option maxHeartbeats 4000000 in
set_option maxRecDepth 100000 in
theorem con_encodeBR (l : List Acc.T) (hf : Acc.Fine l) : ConR Try.prog 27 [] [aggD [lsD encA l]] (fun _ : Unit => []) (fun _ : Unit => bD (encBook l)) := by
  have hll := hf.len
  refine con_ofR Try.func27 (by kernel_rfl) rfl (by kernel_rfl) fun base w0 => ?_
  refine SW.seq ?_
  refine SW.region ?_
  refine SWl.ef (S := []) (Ef.boxA rfl rfl) ?_
  rintro _ ⟨g1, rfl⟩
  refine SWl.rd rfl (Rd.assign rfl) ?_
  refine SWl.nil ?_
  refine SN.then ?_
  refine SW.seq ?_
  refine SW.region ?_
  refine SWl.rd rfl (Rd.fieldAddr (n := 0) rfl (by kernel_rfl)) ?_
  refine SWl.rd rfl (Rd.loadB 0 rfl rfl rfl (by kernel_rfl) ap_nil) ?_
  refine SWl.rd rfl (Rd.lenR (e := 34) rfl (by kernel_rfl)) ?_
  refine SWl.rd rfl (Rd.cvW (r := ((l.length : Nat) : Int)) .i64 rfl (by kernel_rfl) (by kernel_rfl) (u64_w (by omega) (by omega))) ?_
  refine SWl.ef (S := []) (Ef.callR [] (con_grpR l.length (by omega)) rfl ⟨Le.refl _, trivial⟩ (by decide) trivial (fun _ h => h) rfl) ?_
  rintro _ ⟨s9, rfl⟩
  refine SWl.rd rfl (Rd.assign rfl) ?_
  refine SWl.nil ?_
  refine SN.then ?_
  refine SW.seq ?_
  refine SW.seq ?_
  refine SW.region ?_
  refine SWl.rd rfl (Rd.assign rfl) ?_
  refine SWl.nil ?_
  refine SN.then ?_
  refine SW.block ?_
  refine SW.loop (ι := {p : Nat × Ust // p.1 ≤ l.length}) (fun ⟨(i, t), hi⟩ => St.ob [(1, isD (.pointer (some ⟨g1, 0, none⟩))), (3, isD (.slice t.A (encPre l i).length t.c)), (4, iD (i : Int))] [.c g1 [lsD encA l], .r t.F (vecT 5 1 encB t.A t.c (encPre l i))]) (fun ⟨(i, t), hi⟩ => l.length - i) (⟨(0, s9), Nat.zero_le _⟩) ?_ ?_
  · exact ⟨⟨_, rfl, ⟨⟨_, rfl, Le.refl _⟩, ⟨⟨_, rfl, Le.is (by rw [encPre_zero])⟩, ⟨⟨_, rfl, Le.refl _⟩, trivial⟩⟩⟩⟩, [0, 1], by decide, ⟨⟨_, rfl, LeAll.refl _⟩, ⟨⟨_, rfl, leVec (by rw [encPre_zero]) (by rw [encPre_zero])⟩, trivial⟩⟩⟩
  · rintro ⟨⟨i, t⟩, hi⟩ K0 hK0
    dsimp only at hi ⊢
    refine SW.seq ?_
    refine SW.seq ?_
    refine SW.region ?_
    refine SWl.rd rfl (Rd.move rfl) ?_
    refine SWl.rd rfl (Rd.fieldAddr (n := 0) rfl (by kernel_rfl)) ?_
    refine SWl.rd rfl (Rd.loadB 0 rfl rfl rfl (by kernel_rfl) ap_nil) ?_
    refine SWl.rd rfl (Rd.lenR (e := 34) rfl (by kernel_rfl)) ?_
    refine SWl.rd rfl (Rd.lss rfl rfl) ?_
    refine SWl.nil ?_
    refine SN.then ?_
    refine SW.cond rfl (fun hb14 => ?_) (fun hb14 => ?_)
    · have hb14 := of_decide_eq_true hb14
      refine SW.skip ?_
      refine SN.then ?_
      refine SW.seq ?_
      refine SW.block ?_
      refine SW.seq ?_
      obtain ⟨x, hx⟩ : ∃ x, l[i]? = some x := ⟨_, List.getElem?_eq_getElem (by omega)⟩
      obtain ⟨hn1, hn2, r1, r2, r3, r4, r5, r6⟩ := okR (hf.oks x (List.mem_of_getElem? hx))
      have hp := encPre_len hf i
      have a1 := strE_len (b := x.name) (by omega)
      have a2 := strE_len (b := x.key) (by omega)
      have a3 := grp_ten (n := x.role.toNat) (by omega)
      have a4 := grp_ten (n := x.dep.toNat) (by omega)
      have a5 := grp_ten (n := x.num.toNat) (by omega)
      refine SW.region ?_
      refine SWl.rd rfl (Rd.move rfl) ?_
      refine SWl.rd rfl (Rd.fieldAddr (n := 0) rfl (by kernel_rfl)) ?_
      refine SWl.rd rfl (Rd.loadB 0 rfl rfl rfl (by kernel_rfl) ap_nil) ?_
      refine SWl.rd rfl (Rd.move rfl) ?_
      refine SWl.rd rfl (Rd.idxL (e := 34) 5 rfl rfl (by kernel_rfl) (by kernel_rfl) (by omega) (by simpa using hx)) ?_
      refine SWl.rd rfl (Rd.fieldR (n := 0) rfl (by kernel_rfl) (show 0 < 5 by decide)) ?_
      refine SWl.rd rfl (Rd.loadR rfl rfl (by kernel_rfl) (by simp)) ?_
      refine SWl.ef (S := []) (Ef.bytes (e := 5) rfl (by kernel_rfl) (by kernel_rfl) (by kernel_rfl) rfl) ?_
      rintro _ rfl
      refine SWl.ef (S := []) (Ef.callR [] (con_strR x.name (by omega)) rfl ⟨le_nw, trivial⟩ (by decide) trivial (fun _ h => h) rfl) ?_
      rintro _ ⟨s25, rfl⟩
      refine SWl.ef (Ef.appT 1 1 1 rfl rfl (SrcT.vec 2 rfl rfl) (by kernel_rfl) (by kernel_rfl) (by simp only [List.length_append] at *; omega) (by decide) (fun _ h => h) rfl) ?_
      rintro _ ⟨A26, F26, c26, rfl⟩
      refine SWl.rd rfl (Rd.assign rfl) ?_
      refine SWl.nil ?_
      refine SN.then ?_
      refine SW.seq ?_
      refine SW.sub (σ' := St.ob [(1, isD (.pointer (some ⟨g1, 0, none⟩))), (3, isD (.slice (⟨A26, c26, F26⟩ : Ust).A (encPre l i ++ strE x.name).length (⟨A26, c26, F26⟩ : Ust).c)), (4, iD (i : Int))] [.c g1 [lsD encA l], .r (⟨A26, c26, F26⟩ : Ust).F (vecT 5 1 encB (⟨A26, c26, F26⟩ : Ust).A (⟨A26, c26, F26⟩ : Ust).c (encPre l i ++ strE x.name))]) (⟨⟨_, rfl, ⟨⟨_, rfl, Le.refl _⟩, ⟨⟨_, rfl, Le.refl _⟩, ⟨⟨_, rfl, Le.refl _⟩, trivial⟩⟩⟩⟩, [0, 2], by decide, ⟨⟨_, rfl, LeAll.refl _⟩, ⟨⟨_, rfl, LeR.refl _⟩, trivial⟩⟩⟩) ?_
      refine SW.region ?_
      refine SWl.rd rfl (Rd.move rfl) ?_
      refine SWl.rd rfl (Rd.fieldAddr (n := 0) rfl (by kernel_rfl)) ?_
      refine SWl.rd rfl (Rd.loadB 0 rfl rfl rfl (by kernel_rfl) ap_nil) ?_
      refine SWl.rd rfl (Rd.move rfl) ?_
      refine SWl.rd rfl (Rd.idxL (e := 34) 5 rfl rfl (by kernel_rfl) (by kernel_rfl) (by omega) (by simpa using hx)) ?_
      refine SWl.rd rfl (Rd.fieldR (n := 1) rfl (by kernel_rfl) (show 1 < 5 by decide)) ?_
      refine SWl.rd rfl (Rd.loadR rfl rfl (by kernel_rfl) (by simp)) ?_
      refine SWl.rd rfl (Rd.cvW (r := ((x.role.toNat : Nat) : Int)) .i64 rfl (by kernel_rfl) (by kernel_rfl) (nat_w (by omega) (by omega))) ?_
      refine SWl.ef (S := []) (Ef.callR [] (con_grpR x.role.toNat (by omega)) rfl ⟨Le.refl _, trivial⟩ (by decide) trivial (fun _ h => h) rfl) ?_
      rintro _ ⟨s35, rfl⟩
      refine SWl.ef (Ef.appT 1 1 1 rfl rfl (SrcT.vec 2 rfl rfl) (by kernel_rfl) (by kernel_rfl) (by simp only [List.length_append] at *; omega) (by decide) (fun _ h => h) rfl) ?_
      rintro _ ⟨A36, F36, c36, rfl⟩
      refine SWl.rd rfl (Rd.assign rfl) ?_
      refine SWl.nil ?_
      refine SN.then ?_
      refine SW.seq ?_
      refine SW.sub (σ' := St.ob [(1, isD (.pointer (some ⟨g1, 0, none⟩))), (3, isD (.slice (⟨A36, c36, F36⟩ : Ust).A (encPre l i ++ strE x.name ++ grp x.role.toNat).length (⟨A36, c36, F36⟩ : Ust).c)), (4, iD (i : Int))] [.c g1 [lsD encA l], .r (⟨A36, c36, F36⟩ : Ust).F (vecT 5 1 encB (⟨A36, c36, F36⟩ : Ust).A (⟨A36, c36, F36⟩ : Ust).c (encPre l i ++ strE x.name ++ grp x.role.toNat))]) (⟨⟨_, rfl, ⟨⟨_, rfl, Le.refl _⟩, ⟨⟨_, rfl, Le.refl _⟩, ⟨⟨_, rfl, Le.refl _⟩, trivial⟩⟩⟩⟩, [0, 2], by decide, ⟨⟨_, rfl, LeAll.refl _⟩, ⟨⟨_, rfl, LeR.refl _⟩, trivial⟩⟩⟩) ?_
      refine SW.region ?_
      refine SWl.rd rfl (Rd.move rfl) ?_
      refine SWl.rd rfl (Rd.fieldAddr (n := 0) rfl (by kernel_rfl)) ?_
      refine SWl.rd rfl (Rd.loadB 0 rfl rfl rfl (by kernel_rfl) ap_nil) ?_
      refine SWl.rd rfl (Rd.move rfl) ?_
      refine SWl.rd rfl (Rd.idxL (e := 34) 5 rfl rfl (by kernel_rfl) (by kernel_rfl) (by omega) (by simpa using hx)) ?_
      refine SWl.rd rfl (Rd.fieldR (n := 2) rfl (by kernel_rfl) (show 2 < 5 by decide)) ?_
      refine SWl.rd rfl (Rd.loadR rfl rfl (by kernel_rfl) (by simp)) ?_
      refine SWl.ef (S := []) (Ef.callR [] (con_strR x.key (by omega)) rfl ⟨Le.refl _, trivial⟩ (by decide) trivial (fun _ h => h) rfl) ?_
      rintro _ ⟨s44, rfl⟩
      refine SWl.ef (Ef.appT 1 1 1 rfl rfl (SrcT.vec 2 rfl rfl) (by kernel_rfl) (by kernel_rfl) (by simp only [List.length_append] at *; omega) (by decide) (fun _ h => h) rfl) ?_
      rintro _ ⟨A45, F45, c45, rfl⟩
      refine SWl.rd rfl (Rd.assign rfl) ?_
      refine SWl.nil ?_
      refine SN.then ?_
      refine SW.seq ?_
      refine SW.sub (σ' := St.ob [(1, isD (.pointer (some ⟨g1, 0, none⟩))), (3, isD (.slice (⟨A45, c45, F45⟩ : Ust).A (encPre l i ++ strE x.name ++ grp x.role.toNat ++ strE x.key).length (⟨A45, c45, F45⟩ : Ust).c)), (4, iD (i : Int))] [.c g1 [lsD encA l], .r (⟨A45, c45, F45⟩ : Ust).F (vecT 5 1 encB (⟨A45, c45, F45⟩ : Ust).A (⟨A45, c45, F45⟩ : Ust).c (encPre l i ++ strE x.name ++ grp x.role.toNat ++ strE x.key))]) (⟨⟨_, rfl, ⟨⟨_, rfl, Le.refl _⟩, ⟨⟨_, rfl, Le.refl _⟩, ⟨⟨_, rfl, Le.refl _⟩, trivial⟩⟩⟩⟩, [0, 2], by decide, ⟨⟨_, rfl, LeAll.refl _⟩, ⟨⟨_, rfl, LeR.refl _⟩, trivial⟩⟩⟩) ?_
      refine SW.region ?_
      refine SWl.rd rfl (Rd.move rfl) ?_
      refine SWl.rd rfl (Rd.fieldAddr (n := 0) rfl (by kernel_rfl)) ?_
      refine SWl.rd rfl (Rd.loadB 0 rfl rfl rfl (by kernel_rfl) ap_nil) ?_
      refine SWl.rd rfl (Rd.move rfl) ?_
      refine SWl.rd rfl (Rd.idxL (e := 34) 5 rfl rfl (by kernel_rfl) (by kernel_rfl) (by omega) (by simpa using hx)) ?_
      refine SWl.rd rfl (Rd.fieldR (n := 3) rfl (by kernel_rfl) (show 3 < 5 by decide)) ?_
      refine SWl.rd rfl (Rd.loadR rfl rfl (by kernel_rfl) (by simp)) ?_
      refine SWl.rd rfl (Rd.cvW (r := ((x.dep.toNat : Nat) : Int)) .i64 rfl (by kernel_rfl) (by kernel_rfl) (nat_w (by omega) (by omega))) ?_
      refine SWl.ef (S := []) (Ef.callR [] (con_grpR x.dep.toNat (by omega)) rfl ⟨Le.refl _, trivial⟩ (by decide) trivial (fun _ h => h) rfl) ?_
      rintro _ ⟨s54, rfl⟩
      refine SWl.ef (Ef.appT 1 1 1 rfl rfl (SrcT.vec 2 rfl rfl) (by kernel_rfl) (by kernel_rfl) (by simp only [List.length_append] at *; omega) (by decide) (fun _ h => h) rfl) ?_
      rintro _ ⟨A55, F55, c55, rfl⟩
      refine SWl.rd rfl (Rd.assign rfl) ?_
      refine SWl.nil ?_
      refine SN.then ?_
      refine SW.sub (σ' := St.ob [(1, isD (.pointer (some ⟨g1, 0, none⟩))), (3, isD (.slice (⟨A55, c55, F55⟩ : Ust).A (encPre l i ++ strE x.name ++ grp x.role.toNat ++ strE x.key ++ grp x.dep.toNat).length (⟨A55, c55, F55⟩ : Ust).c)), (4, iD (i : Int))] [.c g1 [lsD encA l], .r (⟨A55, c55, F55⟩ : Ust).F (vecT 5 1 encB (⟨A55, c55, F55⟩ : Ust).A (⟨A55, c55, F55⟩ : Ust).c (encPre l i ++ strE x.name ++ grp x.role.toNat ++ strE x.key ++ grp x.dep.toNat))]) (⟨⟨_, rfl, ⟨⟨_, rfl, Le.refl _⟩, ⟨⟨_, rfl, Le.refl _⟩, ⟨⟨_, rfl, Le.refl _⟩, trivial⟩⟩⟩⟩, [0, 2], by decide, ⟨⟨_, rfl, LeAll.refl _⟩, ⟨⟨_, rfl, LeR.refl _⟩, trivial⟩⟩⟩) ?_
      refine SW.region ?_
      refine SWl.rd rfl (Rd.move rfl) ?_
      refine SWl.rd rfl (Rd.fieldAddr (n := 0) rfl (by kernel_rfl)) ?_
      refine SWl.rd rfl (Rd.loadB 0 rfl rfl rfl (by kernel_rfl) ap_nil) ?_
      refine SWl.rd rfl (Rd.move rfl) ?_
      refine SWl.rd rfl (Rd.idxL (e := 34) 5 rfl rfl (by kernel_rfl) (by kernel_rfl) (by omega) (by simpa using hx)) ?_
      refine SWl.rd rfl (Rd.fieldR (n := 4) rfl (by kernel_rfl) (show 4 < 5 by decide)) ?_
      refine SWl.rd rfl (Rd.loadR rfl rfl (by kernel_rfl) (by simp)) ?_
      refine SWl.rd rfl (Rd.cvW (r := ((x.num.toNat : Nat) : Int)) .i64 rfl (by kernel_rfl) (by kernel_rfl) (nat_w (by omega) (by omega))) ?_
      refine SWl.ef (S := []) (Ef.callR [] (con_grpR x.num.toNat (by omega)) rfl ⟨Le.refl _, trivial⟩ (by decide) trivial (fun _ h => h) rfl) ?_
      rintro _ ⟨s64, rfl⟩
      refine SWl.ef (Ef.appT 1 1 1 rfl rfl (SrcT.vec 2 rfl rfl) (by kernel_rfl) (by kernel_rfl) (by simp only [List.length_append] at *; omega) (by decide) (fun _ h => h) rfl) ?_
      rintro _ ⟨A65, F65, c65, rfl⟩
      refine SWl.rd rfl (Rd.assign rfl) ?_
      refine SWl.nil ?_
      refine SN.block ?_
      refine SN.then ?_
      refine SW.region ?_
      refine SWl.rd rfl (Rd.move rfl) ?_
      refine SWl.rd rfl (Rd.add rfl rfl ⟨by omega, by omega⟩) ?_
      refine SWl.rd rfl (Rd.assign rfl) ?_
      refine SWl.nil ?_
      exact fun a w hh => hK0 (⟨(i + 1, (⟨A65, c65, F65⟩ : Ust)), by dsimp only; omega⟩) (by dsimp only; omega) a w (hh.sub (⟨⟨_, rfl, ⟨⟨_, rfl, Le.refl _⟩, ⟨⟨_, rfl, Le.is (by rw [encPre_succ hx])⟩, ⟨⟨_, rfl, Le.is (by simp)⟩, trivial⟩⟩⟩⟩, [0, 2], by decide, ⟨⟨_, rfl, LeAll.refl _⟩, ⟨⟨_, rfl, leVec (by rw [encPre_succ hx]) (by rw [encPre_succ hx])⟩, trivial⟩⟩⟩))
    · have hb14 := of_decide_eq_false hb14
      refine SW.exit' ?_
      repeat (first | refine SE.then ?_ | refine SE.skip (by decide) ?_)
      refine SE.here ?_
      refine SN.then ?_
      refine SW.seq ?_
      refine SW.region ?_
      refine SWl.rd rfl (Rd.move rfl) ?_
      refine SWl.rd rfl (Rd.assign rfl) ?_
      refine SWl.nil ?_
      refine SN.then ?_
      refine SW.freezeT 1 2 rfl rfl (le_ls_b _) ?_
      refine SW.retR (fn := Try.f27) (()) [] (fun _ _ h => h) (Rs.le (Rs.one rfl (ResV.tmp rfl)) ?_) (by decide) trivial
      rw [encPre_all (by omega)]; exact Le.refl _
end Sx
end Go.Proofs.Ytgcnpnbgjejkaaa
namespace Go.Proofs.Ytgcnpnbgjejkaaa
open Go.RowKit
namespace Sx
def lastN (l : List Acc.T) : List UInt8 := (l.getLast?.map Acc.T.name).getD []
theorem lastN_nil : lastN [] = [] := rfl
theorem lastN_snoc (l : List Acc.T) (a : Acc.T) : lastN (l ++ [a]) = a.name := by unfold lastN; rw [List.getLast?_append]; rfl
theorem lastN_get {l : List Acc.T} {y : Acc.T} (h : l[l.length - 1]? = some y) : lastN l = y.name := by unfold lastN; rw [List.getLast?_eq_getElem?, h]; rfl
def les (p q : List UInt8) : Bool := Op.bytesLess p q || decide (p = q)
theorem les_not {p q : List UInt8} : les p q = false ↔ Acc.lt q p = true := by
  unfold les
  constructor
  · intro h
    simp only [Bool.or_eq_false_iff, decide_eq_false_iff_not] at h
    rcases Acc.lt_tri p q with h1 | h1 | h1
    · exact absurd h1 (by rw [show Acc.lt p q = false from h.1]; decide)
    · exact absurd h1 h.2
    · exact h1
  · intro h
    simp only [Bool.or_eq_false_iff, decide_eq_false_iff_not]
    exact ⟨Acc.lt_asym h, fun e => Acc.lt_ne h e.symm⟩
def decBad (l : List Acc.T) (a : Acc.T) : Prop := ¬ Acc.ok a ∨ les a.name (lastN l) = true ∨ (a.role, a.num) ∈ Acc.seats l
instance (l : List Acc.T) (a : Acc.T) : Decidable (decBad l a) := by unfold decBad; infer_instance
theorem lt_all {l : List Acc.T} {a : Acc.T} (hf : Acc.Fine l) (h : les a.name (lastN l) = false) : ∀ x ∈ l, Acc.lt x.name a.name = true := by
  intro x hx
  have hl := les_not.1 h
  obtain ⟨i, hi, e⟩ := List.mem_iff_getElem.1 hx
  have hy : l[l.length - 1]? = some l[l.length - 1] := List.getElem?_eq_getElem (by omega)
  rw [lastN_get hy] at hl
  by_cases h1 : i = l.length - 1
  · subst h1
    rw [← e]
    exact hl
  · have := List.pairwise_iff_getElem.1 hf.srt i (l.length - 1) hi (by omega) (by omega)
    rw [← e]
    exact Acc.lt_trans this hl
theorem dec_good {l : List Acc.T} {a : Acc.T} (hf : Acc.Fine l) (h : ¬ decBad l a) (hl : l.length < 256) : Acc.ok a ∧ (¬ ∃ x ∈ l, Acc.clash a x) ∧ Acc.ins l a = l ++ [a] ∧ Acc.add l a = (l ++ [a], 0) := by
  have h1 : Acc.ok a := Classical.byContradiction fun h' => h (.inl h')
  have h2 : les a.name (lastN l) = false := by
    rcases hb : les a.name (lastN l) with _ | _
    · rfl
    · exact absurd (.inr (.inl hb)) h
  have h3 : (a.role, a.num) ∉ Acc.seats l := fun h' => h (.inr (.inr h'))
  have hall := lt_all hf h2
  have hc : ¬ ∃ x ∈ l, Acc.clash a x := by
    rintro ⟨x, hx, e | ⟨e1, e2, e3⟩⟩
    · exact Acc.lt_ne (hall x hx) e
    · exact h3 (Acc.mem_seats.2 ⟨x, hx, by rw [e1]; exact e3, by rw [e1, e2]⟩)
  have hi : Acc.ins l a = l ++ [a] := by
    obtain ⟨w1, w2⟩ := while_all (p := fun x : Acc.T => Acc.lt x.name a.name) hall
    unfold Acc.ins
    rw [w1, w2]
  exact ⟨h1, hc, hi, by rw [Acc.add_ok h1 hc (by omega), hi]⟩
theorem dec_badR {l : List Acc.T} {a : Acc.T} (hf : Acc.Fine l) (h : decBad l a) : (Acc.add l a).2 ≠ 0 ∨ (0 < l.length ∧ les a.name (lastN l) = true) := by
  by_cases hok : Acc.ok a
  · rcases h with h | h | h
    · exact absurd hok h
    · rcases Nat.eq_zero_or_pos l.length with h0 | h0
      · have hn : l = [] := List.eq_nil_of_length_eq_zero h0
        subst hn
        rw [lastN_nil] at h
        have h1 := hok.1.2.1
        exfalso
        match hm : a.name, h, h1 with
        | [], _, h1 => simp at h1
        | x :: xs, h, _ => simp [les, Op.bytesLess] at h
      · exact .inr ⟨h0, h⟩
    · left
      obtain ⟨x, hx, h3, e⟩ := Acc.mem_seats.1 h
      injection e with e1 e2
      rw [Acc.add_busy hok ⟨x, hx, .inr ⟨e1, e2, by rw [← e1]; exact h3⟩⟩]
      simp
  · left
    rw [Acc.add_bad hok]
    simp
/-- An account read. -/
def rdAcc (r : RT) : Acc.T × RT :=
  (⟨(stP 32 r).1, (stU (stP 32 r).2).1, (stP 32 (stU (stP 32 r).2).2).1, (stU (stP 32 (stU (stP 32 r).2).2).2).1, (stU (stU (stP 32 (stU (stP 32 r).2).2).2).2).1⟩, (stU (stU (stP 32 (stU (stP 32 r).2).2).2).2).2)
def decLoop : Nat → List Acc.T → RT → Except Int (List Acc.T × RT)
  | 0, l, r => .ok (l, r)
  | j + 1, l, r => if (rdAcc r).2.e ≠ 0 then .error (rdAcc r).2.e else if decBad l (rdAcc r).1 then .error 6 else decLoop j (l ++ [(rdAcc r).1]) (rdAcc r).2
def decFin : Except Int (List Acc.T × RT) → Except Int (List Acc.T)
  | .error e => .error e
  | .ok (l, r) => if endE r ≠ 0 then .error (endE r) else .ok l
def decB (p : List UInt8) : Except Int (List Acc.T) := decFin (decLoop (stC 256 ⟨p, 0⟩).1.toNat [] (stC 256 ⟨p, 0⟩).2)
theorem stC_nat (p : List UInt8) : ∃ n : Nat, (stC 256 ⟨p, 0⟩).1 = n ∧ n ≤ 256 ∧ (0 < n → (stC 256 ⟨p, 0⟩).2.e = 0) := by
  rcases h : rdC 256 p with E | ⟨n, m⟩
  · rw [show stC 256 ⟨p, 0⟩ = _ from stG_bad rfl h]
    exact ⟨0, rfl, by decide, fun h => absurd h (by decide)⟩
  · rw [show stC 256 ⟨p, 0⟩ = _ from stG_ok rfl h]
    exact ⟨n, rfl, by have := (rdC_ok h).2; omega, fun _ => rfl⟩
theorem stG_len {α β : Type} {z : β} {f : List UInt8 → Except Int (α × Nat)} {g : α → β} (r : RT) : (stG z f g r).2.p.length ≤ r.p.length := by
  unfold stG
  split
  · exact Nat.le_refl _
  · split
    · exact Nat.zero_le _
    · simp
theorem rdAcc_len (r : RT) : (rdAcc r).2.p.length ≤ r.p.length := Nat.le_trans (stG_len _) (Nat.le_trans (stG_len _) (Nat.le_trans (stG_len _) (Nat.le_trans (stG_len _) (stG_len _))))
theorem rdP_le {lim : Int} {p q : List UInt8} {m : Nat} (h : rdP lim p = .ok (q, m)) : (q.length : Int) ≤ lim := by
  obtain ⟨n, k, h1, _, rfl, _⟩ := rdP_ok h
  have := (rdC_ok h1).2
  rw [List.length_take]
  omega
theorem stP_le {lim : Int} (hl : 0 ≤ lim) (r : RT) : ((stP lim r).1.length : Int) ≤ lim := by
  by_cases h : r.e = 0
  · rcases hr : rdP lim r.p with E | ⟨q, m⟩
    · rw [show stP lim r = _ from stG_bad h hr]; simpa using hl
    · rw [show stP lim r = _ from stG_ok h hr]; exact rdP_le hr
  · rw [show stP lim r = _ from stG_skip h]; simpa using hl
/-- While a book is read. -/
structure DI (p : List UInt8) (res : Except Int (List Acc.T)) (n i : Nat) (l : List Acc.T) (r : RT) : Prop where
  fine : Acc.Fine l
  len : l.length = i
  le : i ≤ n
  max : n ≤ 256
  e0 : i < n → r.e = 0
  fin : decFin (decLoop (n - i) l r) = res
  pl : r.p.length ≤ p.length
theorem DI.start {p : List UInt8} {res : Except Int (List Acc.T)} {n : Nat} (hn : (stC 256 ⟨p, 0⟩).1 = n) (h1 : n ≤ 256) (h2 : 0 < n → (stC 256 ⟨p, 0⟩).2.e = 0) (h : decB p = res) : DI p res n 0 [] (stC 256 ⟨p, 0⟩).2 :=
  ⟨Acc.Fine.nil, rfl, Nat.zero_le _, h1, h2, by unfold decB at h; rw [hn] at h; simpa using h, stG_len _⟩
theorem DI.step {p : List UInt8} {res : Except Int (List Acc.T)} {n i : Nat} {l : List Acc.T} {r : RT} (h : DI p res n i l r) (hi : i < n) :
    decFin (if (rdAcc r).2.e ≠ 0 then .error (rdAcc r).2.e else if decBad l (rdAcc r).1 then .error 6 else decLoop (n - (i + 1)) (l ++ [(rdAcc r).1]) (rdAcc r).2) = res := by
  have := h.fin
  rw [show n - i = (n - (i + 1)) + 1 by omega] at this
  exact this
theorem DI.err {p : List UInt8} {res : Except Int (List Acc.T)} {n i : Nat} {l : List Acc.T} {r : RT} (h : DI p res n i l r) (hi : i < n) (he : (rdAcc r).2.e ≠ 0) : res = .error (rdAcc r).2.e := by
  have := h.step hi
  rw [if_pos he] at this
  exact this.symm
theorem DI.bad {p : List UInt8} {res : Except Int (List Acc.T)} {n i : Nat} {l : List Acc.T} {r : RT} (h : DI p res n i l r) (hi : i < n) (he : (rdAcc r).2.e = 0) (hb : decBad l (rdAcc r).1) : res = .error 6 := by
  have := h.step hi
  rw [if_neg (by simp [he]), if_pos hb] at this
  exact this.symm
theorem DI.next {p : List UInt8} {res : Except Int (List Acc.T)} {n i : Nat} {l : List Acc.T} {r : RT} (h : DI p res n i l r) (hi : i < n) (he : (rdAcc r).2.e = 0) (hb : ¬ decBad l (rdAcc r).1) : DI p res n (i + 1) (l ++ [(rdAcc r).1]) (rdAcc r).2 := by
  have h1 := h.step hi
  rw [if_neg (by simp [he]), if_neg hb] at h1
  have hl : l.length < 256 := by have := h.len; have := h.max; omega
  obtain ⟨g1, g2, g3, g4⟩ := dec_good h.fine hb hl
  refine ⟨?_, by rw [List.length_append, h.len]; rfl, by omega, h.max, fun _ => he, h1, Nat.le_trans (rdAcc_len r) h.pl⟩
  rw [← g3]
  exact h.fine.ins g1 g2 hl
theorem DI.last {p : List UInt8} {res : Except Int (List Acc.T)} {n i : Nat} {l : List Acc.T} {r : RT} (h : DI p res n i l r) (hi : ¬ i < n) : res = if endE r ≠ 0 then .error (endE r) else .ok l := by
  have := h.fin
  have hle := h.le
  rw [show n - i = 0 by omega] at this
  exact this.symm
theorem endE_err {r : RT} (h : r.e ≠ 0) : endE r = r.e := by unfold endE; rw [if_neg (fun hp => h hp.1)]
def exL (res : Except Int (List Acc.T)) : List Acc.T := match res with | .ok l => l | .error _ => []
def exE (res : Except Int (List Acc.T)) : Int := match res with | .ok _ => 0 | .error e => e
end Sx
end Go.Proofs.Ytgcnpnbgjejkaaa
namespace Go.Proofs.Ytgcnpnbgjejkaaa
open Go.RowKit
namespace Sx
set_option maxHeartbeats 4000000 in
set_option maxRecDepth 100000 in
theorem con_decodeB (p : List UInt8) (hp : p.length ≤ 1000000) (res : Except Int (List Acc.T)) (hres : decB p = res) : ConR Try.prog 23 [] [bD p] (fun t : Nat × Bst => match res with | .ok l => [bookC t.1 t.2 l, bookN t.2 l, bookA t.2 l, bookS t.2 l] | .error _ => []) (fun t : Nat × Bst => match res with | .ok _ => tupD [isD (.pointer (some ⟨t.1, 0, none⟩)), iD 0] | .error e => tupD [isD (.pointer none), iD e]) := by
  refine con_ofR Try.func23 (by kernel_rfl) rfl (by kernel_rfl) fun base w0 => ?_
  refine SW.seq ?_
  refine SW.region ?_
  refine SWl.rd rfl (Rd.assign rfl) ?_
  refine SWl.rd rfl (Rd.assign rfl) ?_
  refine SWl.nil ?_
  refine SN.then ?_
  refine SW.seq ?_
  refine SW.region ?_
  refine SWl.rd rfl (Rd.move rfl) ?_
  refine SWl.ef (S := []) (Ef.callR [] (con_read p hp) rfl ⟨Le.refl _, trivial⟩ (by decide) trivial (fun _ h => h) rfl) ?_
  rintro _ ⟨g6, rfl⟩
  refine SWl.rd rfl (Rd.assign rfl) ?_
  refine SWl.nil ?_
  refine SN.then ?_
  refine SW.seq ?_
  refine SW.region ?_
  refine SWl.rd rfl (Rd.move rfl) ?_
  refine SWl.ef (Ef.callR [0] (con_rCount g6 p hp 256 (by decide) (0, 0) ⟨p, 0⟩ (RRel.start p)) rfl ⟨Le.refl _, Le.refl _, trivial⟩ (by decide) ⟨⟨_, rfl, LeAll.refl _⟩, trivial⟩ (fun _ h => h) rfl) ?_
  rintro _ ⟨s14, rfl⟩
  refine SWl.rd rfl (Rd.assign rfl) ?_
  refine SWl.nil ?_
  refine SN.then ?_
  refine SW.seq ?_
  obtain ⟨n, hn, hn1, hn2⟩ := stC_nat p
  refine SW.sub (σ' := St.ob [(4, isD (.pointer (some ⟨g6, 0, none⟩))), (5, iD (n : Int))] [.c g6 [iD s14.1.1, boolD true, bD p, iD ((s14.1.2 : Nat) : Int)]]) (⟨⟨_, rfl, ⟨⟨_, rfl, Le.refl _⟩, ⟨⟨_, rfl, Le.is (by rw [hn])⟩, trivial⟩⟩⟩, [0], by decide, ⟨⟨_, rfl, LeAll.refl _⟩, trivial⟩⟩) ?_
  refine SW.region ?_
  refine SWl.rd rfl (Rd.build rfl rfl bldBk0) ?_
  refine SWl.ef (S := []) (Ef.boxA rfl rfl) ?_
  rintro _ ⟨g16, rfl⟩
  refine SWl.rd rfl (Rd.assign rfl) ?_
  refine SWl.nil ?_
  refine SN.then ?_
  refine SW.seq ?_
  refine SW.vecN 9 1 encT ?_
  refine SW.mapQN encS (acD []) ?_
  refine SW.mapQN encSt (seD []) ?_
  refine SW.sub (σ' := St.ob [(4, isD (.pointer (some ⟨g6, 0, none⟩))), (5, iD (n : Int)), (6, isD (.pointer (some ⟨g16, 0, none⟩)))] [.c g6 [iD s14.1.1, boolD true, bD p, iD ((s14.1.2 : Nat) : Int)], .c g16 [isD (.map ((⟨none, [], [], ⟨none, 0, []⟩⟩ : Bst).M.map Prod.fst)), isD (.slice (⟨none, [], [], ⟨none, 0, []⟩⟩ : Bst).n.A (Acc.nm ([] : List Acc.T)).length (⟨none, [], [], ⟨none, 0, []⟩⟩ : Bst).n.c), isD (.map ((⟨none, [], [], ⟨none, 0, []⟩⟩ : Bst).M.map Prod.snd))], .r (⟨none, [], [], ⟨none, 0, []⟩⟩ : Bst).n.F (vecT 9 1 encT (⟨none, [], [], ⟨none, 0, []⟩⟩ : Bst).n.A (⟨none, [], [], ⟨none, 0, []⟩⟩ : Bst).n.c (Acc.nm ([] : List Acc.T))), .r (⟨none, [], [], ⟨none, 0, []⟩⟩ : Bst).F1 (mapQ ((⟨none, [], [], ⟨none, 0, []⟩⟩ : Bst).M.map Prod.fst) encS (Acc.nm ([] : List Acc.T)) (acD ([] : List Acc.T))), .r (⟨none, [], [], ⟨none, 0, []⟩⟩ : Bst).F2 (mapQ ((⟨none, [], [], ⟨none, 0, []⟩⟩ : Bst).M.map Prod.snd) encSt (Acc.seats ([] : List Acc.T)) (seD ([] : List Acc.T)))]) (⟨⟨_, rfl, ⟨⟨_, rfl, Le.refl _⟩, ⟨⟨_, rfl, Le.refl _⟩, ⟨⟨_, rfl, Le.refl _⟩, trivial⟩⟩⟩⟩, [0, 1, 2, 3, 4], by decide, ⟨⟨_, rfl, LeAll.refl _⟩, ⟨⟨_, rfl, LeAll.refl _⟩, ⟨⟨_, rfl, LeR.refl _⟩, ⟨⟨_, rfl, LeR.refl _⟩, ⟨⟨_, rfl, LeR.refl _⟩, trivial⟩⟩⟩⟩⟩⟩) ?_
  refine SW.region ?_
  refine SWl.rd rfl (Rd.assign rfl) ?_
  refine SWl.nil ?_
  refine SN.then ?_
  refine SW.seq ?_
  refine SW.seq ?_
  refine SW.region ?_
  refine SWl.rd rfl (Rd.assign rfl) ?_
  refine SWl.nil ?_
  refine SN.then ?_
  refine SW.block ?_
  refine SW.loop (ι := {x : Nat × Nat × List Acc.T × RT × (Int × Nat) × Bst // DI p res n x.2.1 x.2.2.1 x.2.2.2.1 ∧ RRel p x.2.2.2.2.1 x.2.2.2.1}) (fun ⟨(gb, i, l, r, s, t), hI, hs⟩ => St.ob [(4, isD (.pointer (some ⟨g6, 0, none⟩))), (5, iD (n : Int)), (6, isD (.pointer (some ⟨gb, 0, none⟩))), (7, strD (lastN l)), (8, iD (i : Int))] [.c g6 [iD s.1, boolD true, bD p, iD ((s.2 : Nat) : Int)], .c gb [isD (.map (t.M.map Prod.fst)), isD (.slice t.n.A (Acc.nm l).length t.n.c), isD (.map (t.M.map Prod.snd))], .r t.n.F (vecT 9 1 encT t.n.A t.n.c (Acc.nm l)), .r t.F1 (mapQ (t.M.map Prod.fst) encS (Acc.nm l) (acD l)), .r t.F2 (mapQ (t.M.map Prod.snd) encSt (Acc.seats l) (seD l))]) (fun ⟨(gb, i, l, r, s, t), hI, hs⟩ => n - i) (⟨(g16, 0, [], (stC 256 ⟨p, 0⟩).2, s14.1, ⟨none, [], [], ⟨none, 0, []⟩⟩), DI.start hn hn1 hn2 hres, s14.2⟩) ?_ ?_
  · exact ⟨⟨_, rfl, ⟨⟨_, rfl, Le.refl _⟩, ⟨⟨_, rfl, Le.refl _⟩, ⟨⟨_, rfl, Le.refl _⟩, ⟨⟨_, rfl, Le.refl _⟩, ⟨⟨_, rfl, Le.refl _⟩, trivial⟩⟩⟩⟩⟩⟩, [0, 1, 2, 3, 4], by decide, ⟨⟨_, rfl, LeAll.refl _⟩, ⟨⟨_, rfl, LeAll.refl _⟩, ⟨⟨_, rfl, LeR.refl _⟩, ⟨⟨_, rfl, LeR.refl _⟩, ⟨⟨_, rfl, LeR.refl _⟩, trivial⟩⟩⟩⟩⟩⟩
  · rintro ⟨⟨gb, i, l, r, s, t⟩, hI, hs⟩ K0 hK0
    dsimp only at hI hs ⊢
    have hlen := hI.len
    have hmax := hI.max
    refine SW.seq ?_
    refine SW.seq ?_
    refine SW.region ?_
    refine SWl.rd rfl (Rd.move rfl) ?_
    refine SWl.rd rfl (Rd.move rfl) ?_
    refine SWl.rd rfl (Rd.lss rfl rfl) ?_
    refine SWl.rd rfl (Rd.move rfl) ?_
    refine SWl.split 20 rfl (fun hb20 => ?_) (fun hb20 => ?_)
    · have h20 : i < n := by have h := of_decide_eq_true hb20; omega
      refine SWl.rdg rfl rfl (hb20) rfl rfl (Rd.move rfl) ?_
      refine SWl.efg (S := []) rfl rfl (hb20) rfl (Ef.callN [0] (con_rErr p s) rfl ⟨(sees_box 0 rfl (by decide) ⟨(sees_le (Le.refl _)), (sees_le (Le.refl _)), (sees_le (Le.refl _)), (sees_le (Le.refl _)), trivial⟩), trivial⟩ rfl) ?_
      rintro _ rfl
      refine SWl.rdg rfl rfl (hb20) rfl rfl (Rd.eqi rfl rfl) ?_
      refine SWl.rd rfl (Rd.pickY rfl (hb20) rfl) ?_
      refine SWl.nil ?_
      refine SN.then ?_
      refine SW.condT rfl (by apply decide_eq_true; rw [hs.1]; exact hI.e0 h20) ?_
      refine SW.skip ?_
      refine SN.then ?_
      refine SW.seq ?_
      refine SW.block ?_
      refine SW.seq ?_
      refine SW.region ?_
      refine SWl.ef (S := []) (Ef.alloc (zs := [.string ⟨#[]⟩, .int .i64 0, .slice none 0 0, .int .i64 0, .int .i64 0]) (by kernel_rfl) rfl) ?_
      rintro _ ⟨g9, rfl⟩
      refine SWl.nil ?_
      refine SN.then ?_
      refine SW.seq ?_
      refine SW.region ?_
      refine SWl.rd rfl (Rd.move rfl) ?_
      refine SWl.ef (Ef.callR [0] (con_rString g6 p hp 32 (by decide) s r hs) rfl ⟨Le.refl _, Le.refl _, trivial⟩ (by decide) ⟨⟨_, rfl, LeAll.refl _⟩, trivial⟩ (fun _ h => h) rfl) ?_
      rintro _ ⟨s28, rfl⟩
      refine SWl.rd rfl (Rd.fieldAddr (n := 0) rfl (by kernel_rfl)) ?_
      refine SWl.ef (S := [_]) (Ef.storeV 4 rfl rfl rfl (by kernel_rfl) rfl (List.mem_singleton.2 rfl)) ?_
      rintro _ rfl
      refine SWl.nil ?_
      refine SN.then ?_
      refine SW.seq ?_
      refine SW.sub (σ' := St.ob [(4, isD (.pointer (some ⟨g6, 0, none⟩))), (5, iD (n : Int)), (6, isD (.pointer (some ⟨gb, 0, none⟩))), (7, strD (lastN l)), (8, iD (i : Int)), (9, isD (.pointer (some ⟨g9, 0, none⟩)))] [.c g6 [iD s28.1.1, boolD true, bD p, iD ((s28.1.2 : Nat) : Int)], .c gb [isD (.map (t.M.map Prod.fst)), isD (.slice t.n.A (Acc.nm l).length t.n.c), isD (.map (t.M.map Prod.snd))], .r t.n.F (vecT 9 1 encT t.n.A t.n.c (Acc.nm l)), .r t.F1 (mapQ (t.M.map Prod.fst) encS (Acc.nm l) (acD l)), .r t.F2 (mapQ (t.M.map Prod.snd) encSt (Acc.seats l) (seD l)), .c g9 [strD (stP 32 r).1, iD 0, isD (.slice none 0 0), iD 0, iD 0]]) (⟨⟨_, rfl, ⟨⟨_, rfl, Le.refl _⟩, ⟨⟨_, rfl, Le.refl _⟩, ⟨⟨_, rfl, Le.refl _⟩, ⟨⟨_, rfl, Le.refl _⟩, ⟨⟨_, rfl, Le.refl _⟩, ⟨⟨_, rfl, Le.refl _⟩, trivial⟩⟩⟩⟩⟩⟩⟩, [5, 0, 1, 2, 3, 4], by decide, ⟨⟨_, rfl, LeAll.refl _⟩, ⟨⟨_, rfl, LeAll.refl _⟩, ⟨⟨_, rfl, LeR.refl _⟩, ⟨⟨_, rfl, LeR.refl _⟩, ⟨⟨_, rfl, LeR.refl _⟩, ⟨⟨_, rfl, LeAll.refl _⟩, trivial⟩⟩⟩⟩⟩⟩⟩) ?_
      refine SW.region ?_
      refine SWl.rd rfl (Rd.move rfl) ?_
      refine SWl.ef (Ef.callR [0] (con_rUint g6 p hp s28.1 (stP 32 r).2 s28.2) rfl ⟨Le.refl _, trivial⟩ (by decide) ⟨⟨_, rfl, LeAll.refl _⟩, trivial⟩ (fun _ h => h) rfl) ?_
      rintro _ ⟨s31, rfl⟩
      refine SWl.rd rfl (Rd.fieldAddr (n := 1) rfl (by kernel_rfl)) ?_
      refine SWl.ef (S := [_]) (Ef.storeV 4 rfl rfl rfl (by kernel_rfl) rfl (List.mem_singleton.2 rfl)) ?_
      rintro _ rfl
      refine SWl.nil ?_
      refine SN.then ?_
      refine SW.seq ?_
      refine SW.sub (σ' := St.ob [(4, isD (.pointer (some ⟨g6, 0, none⟩))), (5, iD (n : Int)), (6, isD (.pointer (some ⟨gb, 0, none⟩))), (7, strD (lastN l)), (8, iD (i : Int)), (9, isD (.pointer (some ⟨g9, 0, none⟩)))] [.c g6 [iD s31.1.1, boolD true, bD p, iD ((s31.1.2 : Nat) : Int)], .c gb [isD (.map (t.M.map Prod.fst)), isD (.slice t.n.A (Acc.nm l).length t.n.c), isD (.map (t.M.map Prod.snd))], .r t.n.F (vecT 9 1 encT t.n.A t.n.c (Acc.nm l)), .r t.F1 (mapQ (t.M.map Prod.fst) encS (Acc.nm l) (acD l)), .r t.F2 (mapQ (t.M.map Prod.snd) encSt (Acc.seats l) (seD l)), .c g9 [strD (stP 32 r).1, iD (stU (stP 32 r).2).1, isD (.slice none 0 0), iD 0, iD 0]]) (⟨⟨_, rfl, ⟨⟨_, rfl, Le.refl _⟩, ⟨⟨_, rfl, Le.refl _⟩, ⟨⟨_, rfl, Le.refl _⟩, ⟨⟨_, rfl, Le.refl _⟩, ⟨⟨_, rfl, Le.refl _⟩, ⟨⟨_, rfl, Le.refl _⟩, trivial⟩⟩⟩⟩⟩⟩⟩, [5, 0, 1, 2, 3, 4], by decide, ⟨⟨_, rfl, LeAll.refl _⟩, ⟨⟨_, rfl, LeAll.refl _⟩, ⟨⟨_, rfl, LeR.refl _⟩, ⟨⟨_, rfl, LeR.refl _⟩, ⟨⟨_, rfl, LeR.refl _⟩, ⟨⟨_, rfl, LeAll.refl _⟩, trivial⟩⟩⟩⟩⟩⟩⟩) ?_
      refine SW.region ?_
      refine SWl.rd rfl (Rd.move rfl) ?_
      refine SWl.ef (Ef.callR [0] (con_rBytes g6 p hp 32 (by decide) s31.1 (stU (stP 32 r).2).2 s31.2) rfl ⟨Le.refl _, Le.refl _, trivial⟩ (by decide) ⟨⟨_, rfl, LeAll.refl _⟩, trivial⟩ (fun _ h => h) rfl) ?_
      rintro _ ⟨s34, rfl⟩
      refine SWl.rd rfl (Rd.fieldAddr (n := 2) rfl (by kernel_rfl)) ?_
      refine SWl.ef (S := [_]) (Ef.storeV 4 rfl rfl rfl (by kernel_rfl) rfl (List.mem_singleton.2 rfl)) ?_
      rintro _ rfl
      refine SWl.nil ?_
      refine SN.then ?_
      refine SW.seq ?_
      refine SW.sub (σ' := St.ob [(4, isD (.pointer (some ⟨g6, 0, none⟩))), (5, iD (n : Int)), (6, isD (.pointer (some ⟨gb, 0, none⟩))), (7, strD (lastN l)), (8, iD (i : Int)), (9, isD (.pointer (some ⟨g9, 0, none⟩)))] [.c g6 [iD s34.1.1, boolD true, bD p, iD ((s34.1.2 : Nat) : Int)], .c gb [isD (.map (t.M.map Prod.fst)), isD (.slice t.n.A (Acc.nm l).length t.n.c), isD (.map (t.M.map Prod.snd))], .r t.n.F (vecT 9 1 encT t.n.A t.n.c (Acc.nm l)), .r t.F1 (mapQ (t.M.map Prod.fst) encS (Acc.nm l) (acD l)), .r t.F2 (mapQ (t.M.map Prod.snd) encSt (Acc.seats l) (seD l)), .c g9 [strD (stP 32 r).1, iD (stU (stP 32 r).2).1, bD (stP 32 (stU (stP 32 r).2).2).1, iD 0, iD 0]]) (⟨⟨_, rfl, ⟨⟨_, rfl, Le.refl _⟩, ⟨⟨_, rfl, Le.refl _⟩, ⟨⟨_, rfl, Le.refl _⟩, ⟨⟨_, rfl, Le.refl _⟩, ⟨⟨_, rfl, Le.refl _⟩, ⟨⟨_, rfl, Le.refl _⟩, trivial⟩⟩⟩⟩⟩⟩⟩, [5, 0, 1, 2, 3, 4], by decide, ⟨⟨_, rfl, LeAll.refl _⟩, ⟨⟨_, rfl, LeAll.refl _⟩, ⟨⟨_, rfl, LeR.refl _⟩, ⟨⟨_, rfl, LeR.refl _⟩, ⟨⟨_, rfl, LeR.refl _⟩, ⟨⟨_, rfl, LeAll.refl _⟩, trivial⟩⟩⟩⟩⟩⟩⟩) ?_
      refine SW.region ?_
      refine SWl.rd rfl (Rd.move rfl) ?_
      refine SWl.ef (Ef.callR [0] (con_rUint g6 p hp s34.1 (stP 32 (stU (stP 32 r).2).2).2 s34.2) rfl ⟨Le.refl _, trivial⟩ (by decide) ⟨⟨_, rfl, LeAll.refl _⟩, trivial⟩ (fun _ h => h) rfl) ?_
      rintro _ ⟨s37, rfl⟩
      refine SWl.rd rfl (Rd.fieldAddr (n := 3) rfl (by kernel_rfl)) ?_
      refine SWl.ef (S := [_]) (Ef.storeV 4 rfl rfl rfl (by kernel_rfl) rfl (List.mem_singleton.2 rfl)) ?_
      rintro _ rfl
      refine SWl.nil ?_
      refine SN.then ?_
      refine SW.seq ?_
      refine SW.sub (σ' := St.ob [(4, isD (.pointer (some ⟨g6, 0, none⟩))), (5, iD (n : Int)), (6, isD (.pointer (some ⟨gb, 0, none⟩))), (7, strD (lastN l)), (8, iD (i : Int)), (9, isD (.pointer (some ⟨g9, 0, none⟩)))] [.c g6 [iD s37.1.1, boolD true, bD p, iD ((s37.1.2 : Nat) : Int)], .c gb [isD (.map (t.M.map Prod.fst)), isD (.slice t.n.A (Acc.nm l).length t.n.c), isD (.map (t.M.map Prod.snd))], .r t.n.F (vecT 9 1 encT t.n.A t.n.c (Acc.nm l)), .r t.F1 (mapQ (t.M.map Prod.fst) encS (Acc.nm l) (acD l)), .r t.F2 (mapQ (t.M.map Prod.snd) encSt (Acc.seats l) (seD l)), .c g9 [strD (stP 32 r).1, iD (stU (stP 32 r).2).1, bD (stP 32 (stU (stP 32 r).2).2).1, iD (stU (stP 32 (stU (stP 32 r).2).2).2).1, iD 0]]) (⟨⟨_, rfl, ⟨⟨_, rfl, Le.refl _⟩, ⟨⟨_, rfl, Le.refl _⟩, ⟨⟨_, rfl, Le.refl _⟩, ⟨⟨_, rfl, Le.refl _⟩, ⟨⟨_, rfl, Le.refl _⟩, ⟨⟨_, rfl, Le.refl _⟩, trivial⟩⟩⟩⟩⟩⟩⟩, [5, 0, 1, 2, 3, 4], by decide, ⟨⟨_, rfl, LeAll.refl _⟩, ⟨⟨_, rfl, LeAll.refl _⟩, ⟨⟨_, rfl, LeR.refl _⟩, ⟨⟨_, rfl, LeR.refl _⟩, ⟨⟨_, rfl, LeR.refl _⟩, ⟨⟨_, rfl, LeAll.refl _⟩, trivial⟩⟩⟩⟩⟩⟩⟩) ?_
      refine SW.region ?_
      refine SWl.rd rfl (Rd.move rfl) ?_
      refine SWl.ef (Ef.callR [0] (con_rUint g6 p hp s37.1 (stU (stP 32 (stU (stP 32 r).2).2).2).2 s37.2) rfl ⟨Le.refl _, trivial⟩ (by decide) ⟨⟨_, rfl, LeAll.refl _⟩, trivial⟩ (fun _ h => h) rfl) ?_
      rintro _ ⟨s40, rfl⟩
      refine SWl.rd rfl (Rd.fieldAddr (n := 4) rfl (by kernel_rfl)) ?_
      refine SWl.ef (S := [_]) (Ef.storeV 4 rfl rfl rfl (by kernel_rfl) rfl (List.mem_singleton.2 rfl)) ?_
      rintro _ rfl
      refine SWl.nil ?_
      refine SN.then ?_
      refine SW.seq ?_
      refine SW.seq ?_
      obtain ⟨x, ha⟩ : ∃ x, x = (rdAcc r).1 := ⟨_, rfl⟩
      obtain ⟨q, hq⟩ : ∃ q, q = (rdAcc r).2 := ⟨_, rfl⟩
      have hs5 : RRel p s40.1 q := by rw [hq]; exact s40.2
      refine SW.sub (σ' := St.ob [(4, isD (.pointer (some ⟨g6, 0, none⟩))), (5, iD (n : Int)), (6, isD (.pointer (some ⟨gb, 0, none⟩))), (7, strD (lastN l)), (8, iD (i : Int)), (9, isD (.pointer (some ⟨g9, 0, none⟩)))] [.c g6 [iD s40.1.1, boolD true, bD p, iD ((s40.1.2 : Nat) : Int)], .c gb [isD (.map (t.M.map Prod.fst)), isD (.slice t.n.A (Acc.nm l).length t.n.c), isD (.map (t.M.map Prod.snd))], .r t.n.F (vecT 9 1 encT t.n.A t.n.c (Acc.nm l)), .r t.F1 (mapQ (t.M.map Prod.fst) encS (Acc.nm l) (acD l)), .r t.F2 (mapQ (t.M.map Prod.snd) encSt (Acc.seats l) (seD l)), .c g9 [strD x.name, iD x.role, bD x.key, iD x.dep, iD x.num]]) (⟨⟨_, rfl, ⟨⟨_, rfl, Le.refl _⟩, ⟨⟨_, rfl, Le.refl _⟩, ⟨⟨_, rfl, Le.refl _⟩, ⟨⟨_, rfl, Le.refl _⟩, ⟨⟨_, rfl, Le.refl _⟩, ⟨⟨_, rfl, Le.refl _⟩, trivial⟩⟩⟩⟩⟩⟩⟩, [5, 0, 1, 2, 3, 4], by decide, ⟨⟨_, rfl, LeAll.refl _⟩, ⟨⟨_, rfl, LeAll.refl _⟩, ⟨⟨_, rfl, LeR.refl _⟩, ⟨⟨_, rfl, LeR.refl _⟩, ⟨⟨_, rfl, LeR.refl _⟩, ⟨⟨_, rfl, (by rw [ha]; exact LeAll.refl _)⟩, trivial⟩⟩⟩⟩⟩⟩⟩) ?_
      refine SW.region ?_
      refine SWl.rd rfl (Rd.move rfl) ?_
      refine SWl.ef (S := []) (Ef.callN [0] (con_rErr p s40.1) rfl ⟨(sees_box 0 rfl (by decide) ⟨(sees_le (Le.refl _)), (sees_le (Le.refl _)), (sees_le (Le.refl _)), (sees_le (Le.refl _)), trivial⟩), trivial⟩ rfl) ?_
      rintro _ rfl
      refine SWl.rd rfl (Rd.nei rfl rfl) ?_
      refine SWl.nil ?_
      refine SN.then ?_
      refine SW.cond rfl (fun hb44 => ?_) (fun hb44 => ?_)
      · have h44 : (rdAcc r).2.e ≠ 0 := by (have h : s40.1.1 ≠ 0 := by simpa using hb44); rwa [hs5.1, hq] at h
        refine SW.exit' ?_
        repeat (first | refine SE.then ?_ | refine SE.skip (by decide) ?_)
        refine SE.here ?_
        refine SN.then ?_
        refine SW.seq ?_
        refine SW.seq ?_
        obtain ⟨s2, hs2⟩ : ∃ s2 : Int × Nat, s2 = s40.1 := ⟨_, rfl⟩
        have hr2 : RRel p s2 q := by rw [hs2]; exact hs5
        refine SW.sub (σ' := St.ob [(4, isD (.pointer (some ⟨g6, 0, none⟩))), (6, isD (.pointer (some ⟨gb, 0, none⟩)))] [.c g6 [iD s2.1, boolD true, bD p, iD ((s2.2 : Nat) : Int)], .c gb [isD (.map (t.M.map Prod.fst)), isD (.slice t.n.A (Acc.nm l).length t.n.c), isD (.map (t.M.map Prod.snd))], .r t.n.F (vecT 9 1 encT t.n.A t.n.c (Acc.nm l)), .r t.F1 (mapQ (t.M.map Prod.fst) encS (Acc.nm l) (acD l)), .r t.F2 (mapQ (t.M.map Prod.snd) encSt (Acc.seats l) (seD l))]) (⟨⟨_, rfl, ⟨⟨_, rfl, Le.refl _⟩, ⟨⟨_, rfl, Le.refl _⟩, trivial⟩⟩⟩, [0, 1, 2, 3, 4], by decide, ⟨⟨_, rfl, (by rw [hs2]; exact LeAll.refl _)⟩, ⟨⟨_, rfl, LeAll.refl _⟩, ⟨⟨_, rfl, LeR.refl _⟩, ⟨⟨_, rfl, LeR.refl _⟩, ⟨⟨_, rfl, LeR.refl _⟩, trivial⟩⟩⟩⟩⟩⟩) ?_
        refine SW.region ?_
        refine SWl.rd rfl (Rd.move rfl) ?_
        refine SWl.ef (S := []) (Ef.callN [0] (con_rEnd p s2 q hr2) rfl ⟨(sees_box 0 rfl (by decide) ⟨(sees_le (Le.refl _)), (sees_le (Le.refl _)), (sees_le (Le.refl _)), (sees_le (Le.refl _)), trivial⟩), trivial⟩ rfl) ?_
        rintro _ rfl
        refine SWl.rd rfl (Rd.assign rfl) ?_
        refine SWl.nil ?_
        refine SN.then ?_
        refine SW.seq ?_
        refine SW.region ?_
        refine SWl.rd rfl (Rd.move rfl) ?_
        refine SWl.rd rfl (Rd.nei rfl rfl) ?_
        refine SWl.nil ?_
        refine SN.then ?_
        refine SW.condT rfl (by (have h1 : endE q ≠ 0 := by rw [endE_err (by rw [hq]; exact h44), hq]; exact h44); simpa using h1) ?_
        refine SW.seq ?_
        refine SW.region ?_
        refine SWl.rd rfl (Rd.move rfl) ?_
        refine SWl.rd rfl (Rd.assign rfl) ?_
        refine SWl.rd rfl (Rd.assign rfl) ?_
        refine SWl.nil ?_
        refine SN.then ?_
        obtain rfl : res = .error (rdAcc r).2.e := hI.err h20 h44
        refine SW.retR (fn := Try.f23) ((0, ⟨none, [], [], ⟨none, 0, []⟩⟩)) [] (fun _ _ h => h) (Rs.le (Rs.two rfl (ResV.tmp rfl) (ResV.tmp rfl)) ?_) (by decide) trivial
        exact Le.tup ⟨Le.refl _, Le.is (by rw [endE_err (by rw [hq]; exact h44), hq]), trivial⟩
      · have hqe : (rdAcc r).2.e = 0 := by (have h : s40.1.1 = 0 := by simpa using hb44); rwa [hs5.1, hq] at h
        refine SW.skip ?_
        refine SN.then ?_
        refine SW.seq ?_
        refine SW.seq ?_
        refine SW.region ?_
        refine SWl.rd rfl (Rd.loadA 5 5 rfl rfl (by kernel_rfl) rfl ap_nil) ?_
        refine SWl.ef (S := []) (Ef.callN [] (con_validA x.name x.role x.key.length x.dep x.num) rfl ⟨(sees_le (Le.agg ⟨Le.refl _, Le.refl _, le_b_len, Le.refl _, Le.refl _, trivial⟩)), trivial⟩ rfl) ?_
        rintro _ rfl
        refine SWl.rd rfl (Rd.not rfl) ?_
        refine SWl.rd rfl (Rd.move rfl) ?_
        refine SWl.split 48 rfl (fun hb48 => ?_) (fun hb48 => ?_)
        · have hbad : decBad l (rdAcc r).1 := .inl (by rw [← ha]; have h := hb48; simp at h; exact h)
          refine SWl.off rfl rfl (hb48) rfl rfl ?_
          refine SWl.off rfl rfl (hb48) rfl rfl ?_
          refine SWl.off rfl rfl (hb48) rfl rfl ?_
          refine SWl.off rfl rfl (hb48) rfl rfl ?_
          refine SWl.rd rfl (Rd.pickY rfl (hb48) rfl) ?_
          refine SWl.rd rfl (Rd.move rfl) ?_
          refine SWl.off rfl rfl (rfl) rfl rfl ?_
          refine SWl.off rfl rfl (rfl) rfl rfl ?_
          refine SWl.off rfl rfl (rfl) rfl rfl ?_
          refine SWl.off rfl rfl (rfl) rfl rfl ?_
          refine SWl.off rfl rfl (rfl) rfl rfl ?_
          refine SWl.off rfl rfl (rfl) rfl rfl ?_
          refine SWl.rd rfl (Rd.pickY rfl (rfl) rfl) ?_
          refine SWl.nil ?_
          refine SN.then ?_
          refine SW.condT rfl (rfl) ?_
          refine SW.seq ?_
          refine SW.region ?_
          refine SWl.rd rfl (Rd.assign rfl) ?_
          refine SWl.rd rfl (Rd.assign rfl) ?_
          refine SWl.nil ?_
          refine SN.then ?_
          obtain rfl : res = .error 6 := hI.bad h20 hqe hbad
          refine SW.retR (fn := Try.f23) ((0, ⟨none, [], [], ⟨none, 0, []⟩⟩)) [] (fun _ _ h => h) (Rs.le (Rs.two rfl (ResV.tmp rfl) (ResV.tmp rfl)) ?_) (by decide) trivial
          exact Le.refl _
        · have hok : Acc.ok x := by have h := hb48; simp at h; exact h
          refine SWl.rdg rfl rfl (hb48) rfl rfl (Rd.fieldAddr (n := 0) rfl (by kernel_rfl)) ?_
          refine SWl.rdg rfl rfl (hb48) rfl rfl (Rd.loadB 5 rfl rfl rfl (by kernel_rfl) ap_nil) ?_
          refine SWl.rdg rfl rfl (hb48) rfl rfl (Rd.move rfl) ?_
          refine SWl.rdg rfl rfl (hb48) rfl rfl (Rd.les (p := x.name) (q := lastN l) rfl rfl) ?_
          refine SWl.rd rfl (Rd.pickN rfl (hb48) rfl) ?_
          refine SWl.rd rfl (Rd.move rfl) ?_
          refine SWl.split 54 rfl (fun hb54 => ?_) (fun hb54 => ?_)
          · have hbad : decBad l (rdAcc r).1 := .inr (.inl (by rw [← ha]; exact hb54))
            refine SWl.off rfl rfl (hb54) rfl rfl ?_
            refine SWl.off rfl rfl (hb54) rfl rfl ?_
            refine SWl.off rfl rfl (hb54) rfl rfl ?_
            refine SWl.off rfl rfl (hb54) rfl rfl ?_
            refine SWl.off rfl rfl (hb54) rfl rfl ?_
            refine SWl.off rfl rfl (hb54) rfl rfl ?_
            refine SWl.rd rfl (Rd.pickY rfl (hb54) rfl) ?_
            refine SWl.nil ?_
            refine SN.then ?_
            refine SW.condT rfl (rfl) ?_
            refine SW.seq ?_
            refine SW.region ?_
            refine SWl.rd rfl (Rd.assign rfl) ?_
            refine SWl.rd rfl (Rd.assign rfl) ?_
            refine SWl.nil ?_
            refine SN.then ?_
            obtain rfl : res = .error 6 := hI.bad h20 hqe hbad
            refine SW.retR (fn := Try.f23) ((0, ⟨none, [], [], ⟨none, 0, []⟩⟩)) [] (fun _ _ h => h) (Rs.le (Rs.two rfl (ResV.tmp rfl) (ResV.tmp rfl)) ?_) (by decide) trivial
            exact Le.refl _
          · skip
            refine SWl.rdg rfl rfl (hb54) rfl rfl (Rd.move rfl) ?_
            refine SWl.rdg rfl rfl (hb54) rfl rfl (Rd.fieldAddr (n := 1) rfl (by kernel_rfl)) ?_
            refine SWl.rdg rfl rfl (hb54) rfl rfl (Rd.loadB 5 rfl rfl rfl (by kernel_rfl) ap_nil) ?_
            refine SWl.rdg rfl rfl (hb54) rfl rfl (Rd.fieldAddr (n := 4) rfl (by kernel_rfl)) ?_
            refine SWl.rdg rfl rfl (hb54) rfl rfl (Rd.loadB 5 rfl rfl rfl (by kernel_rfl) ap_nil) ?_
            refine SWl.efg (S := []) rfl rfl (hb54) rfl (Ef.callN [1, 3, 2, 4] (con_taken l x.role x.num) rfl ⟨(sees_box 1 rfl (by decide) ⟨(sees_mapQ 3 rfl (by decide)), (sees_vec 2 rfl (by decide)), (sees_mapQ 4 rfl (by decide)), trivial⟩), (sees_le (Le.refl _)), (sees_le (Le.refl _)), trivial⟩ rfl) ?_
            rintro _ rfl
            refine SWl.rd rfl (Rd.pickN rfl (hb54) rfl) ?_
            refine SWl.nil ?_
            refine SN.then ?_
            refine SW.cond rfl (fun hb61 => ?_) (fun hb61 => ?_)
            · have hbad : decBad l (rdAcc r).1 := .inr (.inr (by rw [← ha]; exact of_decide_eq_true hb61))
              refine SW.seq ?_
              refine SW.region ?_
              refine SWl.rd rfl (Rd.assign rfl) ?_
              refine SWl.rd rfl (Rd.assign rfl) ?_
              refine SWl.nil ?_
              refine SN.then ?_
              obtain rfl : res = .error 6 := hI.bad h20 hqe hbad
              refine SW.retR (fn := Try.f23) ((0, ⟨none, [], [], ⟨none, 0, []⟩⟩)) [] (fun _ _ h => h) (Rs.le (Rs.two rfl (ResV.tmp rfl) (ResV.tmp rfl)) ?_) (by decide) trivial
              exact Le.refl _
            · have hnb : ¬ decBad l (rdAcc r).1 := by (rw [← ha]; rintro (h | h | h); exact h hok; exact absurd (show les x.name (lastN l) = false from hb54) (by rw [h]; decide); exact of_decide_eq_false hb61 h)
              refine SW.skip ?_
              refine SN.then ?_
              refine SW.seq ?_
              obtain ⟨g1, g2, g3, g4⟩ := dec_good hI.fine hnb (by omega)
              rw [← ha] at g1 g2 g3 g4
              refine SW.region ?_
              refine SWl.rd rfl (Rd.move rfl) ?_
              refine SWl.rd rfl (Rd.loadA 5 5 rfl rfl (by kernel_rfl) rfl ap_nil) ?_
              refine SWl.lookA5 63 rfl fun A63 c63 => ?_
              refine SWl.ef (Ef.callR [1, 2, 3, 4, 6] (con_put gb t l x A63 c63 [] _ (isView_viewB _ _ _ _ rfl) (by have := g1.2.1; omega) (by omega) (Acc.free_of hI.fine g1 g2 (by omega))) rfl ⟨Le.refl _, Le.refl _, trivial⟩ (by decide) ⟨⟨_, rfl, LeAll.refl _⟩, ⟨⟨_, rfl, LeR.refl _⟩, ⟨⟨_, rfl, LeR.refl _⟩, ⟨⟨_, rfl, LeR.refl _⟩, ⟨⟨_, rfl, LeR.refl _⟩, trivial⟩⟩⟩⟩⟩ (fun _ h => h) rfl) ?_
              rintro _ ⟨s64, rfl⟩
              refine SWl.nil ?_
              refine SN.then ?_
              refine SW.sub (σ' := St.ob [(4, isD (.pointer (some ⟨g6, 0, none⟩))), (5, iD (n : Int)), (6, isD (.pointer (some ⟨gb, 0, none⟩))), (7, strD (lastN l)), (8, iD (i : Int)), (9, isD (.pointer (some ⟨g9, 0, none⟩)))] [.c g6 [iD s40.1.1, boolD true, bD p, iD ((s40.1.2 : Nat) : Int)], .c gb [isD (.map (s64.M.map Prod.fst)), isD (.slice s64.n.A (Acc.nm (Acc.ins l x)).length s64.n.c), isD (.map (s64.M.map Prod.snd))], .r s64.n.F (vecT 9 1 encT s64.n.A s64.n.c (Acc.nm (Acc.ins l x))), .r s64.F1 (mapQ (s64.M.map Prod.fst) encS (Acc.nm (Acc.ins l x)) (acD (Acc.ins l x))), .r s64.F2 (mapQ (s64.M.map Prod.snd) encSt (Acc.seats (Acc.ins l x)) (seD (Acc.ins l x))), .c g9 [strD x.name, iD x.role, bD x.key, iD x.dep, iD x.num]]) (⟨⟨_, rfl, ⟨⟨_, rfl, Le.refl _⟩, ⟨⟨_, rfl, Le.refl _⟩, ⟨⟨_, rfl, Le.refl _⟩, ⟨⟨_, rfl, Le.refl _⟩, ⟨⟨_, rfl, Le.refl _⟩, ⟨⟨_, rfl, Le.refl _⟩, trivial⟩⟩⟩⟩⟩⟩⟩, [0, 2, 3, 4, 5, 1], by decide, ⟨⟨_, rfl, LeAll.refl _⟩, ⟨⟨_, rfl, LeAll.refl _⟩, ⟨⟨_, rfl, LeR.refl _⟩, ⟨⟨_, rfl, LeR.refl _⟩, ⟨⟨_, rfl, LeR.refl _⟩, ⟨⟨_, rfl, LeAll.refl _⟩, trivial⟩⟩⟩⟩⟩⟩⟩) ?_
              refine SW.region ?_
              refine SWl.rd rfl (Rd.fieldAddr (n := 0) rfl (by kernel_rfl)) ?_
              refine SWl.rd rfl (Rd.loadB 5 rfl rfl rfl (by kernel_rfl) ap_nil) ?_
              refine SWl.rd rfl (Rd.assign rfl) ?_
              refine SWl.nil ?_
              refine SN.block ?_
              refine SN.then ?_
              refine SW.region ?_
              refine SWl.rd rfl (Rd.move rfl) ?_
              refine SWl.rd rfl (Rd.add rfl rfl ⟨by omega, by omega⟩) ?_
              refine SWl.rd rfl (Rd.assign rfl) ?_
              refine SWl.nil ?_
              exact fun a w hh => hK0 (⟨(gb, i + 1, l ++ [x], q, s40.1, s64), by dsimp only; rw [ha, hq]; exact hI.next h20 hqe hnb, hs5⟩) (by dsimp only; omega) a w (hh.sub (⟨⟨_, rfl, ⟨⟨_, rfl, Le.refl _⟩, ⟨⟨_, rfl, Le.refl _⟩, ⟨⟨_, rfl, Le.refl _⟩, ⟨⟨_, rfl, Le.is (by rw [lastN_snoc])⟩, ⟨⟨_, rfl, Le.is (by simp)⟩, trivial⟩⟩⟩⟩⟩⟩, [0, 1, 2, 3, 4], by decide, ⟨⟨_, rfl, LeAll.refl _⟩, ⟨⟨_, rfl, ⟨Le.refl _, Le.is (by rw [g3]), Le.refl _, trivial⟩⟩, ⟨⟨_, rfl, leVec (by rw [g3]) (by rw [g3])⟩, ⟨⟨_, rfl, (by rw [g3]; exact LeR.refl _)⟩, ⟨⟨_, rfl, (by rw [g3]; exact LeR.refl _)⟩, trivial⟩⟩⟩⟩⟩⟩))
    · have h20 : ¬ i < n := by have h := of_decide_eq_false hb20; omega
      refine SWl.off rfl rfl (hb20) rfl rfl ?_
      refine SWl.off rfl rfl (hb20) rfl rfl ?_
      refine SWl.off rfl rfl (hb20) rfl rfl ?_
      refine SWl.rd rfl (Rd.pickN rfl (hb20) rfl) ?_
      refine SWl.nil ?_
      refine SN.then ?_
      refine SW.condF rfl (rfl) ?_
      refine SW.exit' ?_
      repeat (first | refine SE.then ?_ | refine SE.skip (by decide) ?_)
      refine SE.here ?_
      refine SN.then ?_
      refine SW.seq ?_
      refine SW.seq ?_
      obtain ⟨s2, hs2⟩ : ∃ s2 : Int × Nat, s2 = s := ⟨_, rfl⟩
      obtain ⟨q, hq⟩ : ∃ q : RT, q = r := ⟨_, rfl⟩
      have hr2 : RRel p s2 q := by rw [hs2, hq]; exact hs
      refine SW.sub (σ' := St.ob [(4, isD (.pointer (some ⟨g6, 0, none⟩))), (6, isD (.pointer (some ⟨gb, 0, none⟩)))] [.c g6 [iD s2.1, boolD true, bD p, iD ((s2.2 : Nat) : Int)], .c gb [isD (.map (t.M.map Prod.fst)), isD (.slice t.n.A (Acc.nm l).length t.n.c), isD (.map (t.M.map Prod.snd))], .r t.n.F (vecT 9 1 encT t.n.A t.n.c (Acc.nm l)), .r t.F1 (mapQ (t.M.map Prod.fst) encS (Acc.nm l) (acD l)), .r t.F2 (mapQ (t.M.map Prod.snd) encSt (Acc.seats l) (seD l))]) (⟨⟨_, rfl, ⟨⟨_, rfl, Le.refl _⟩, ⟨⟨_, rfl, Le.refl _⟩, trivial⟩⟩⟩, [0, 1, 2, 3, 4], by decide, ⟨⟨_, rfl, (by rw [hs2]; exact LeAll.refl _)⟩, ⟨⟨_, rfl, LeAll.refl _⟩, ⟨⟨_, rfl, LeR.refl _⟩, ⟨⟨_, rfl, LeR.refl _⟩, ⟨⟨_, rfl, LeR.refl _⟩, trivial⟩⟩⟩⟩⟩⟩) ?_
      refine SW.region ?_
      refine SWl.rd rfl (Rd.move rfl) ?_
      refine SWl.ef (S := []) (Ef.callN [0] (con_rEnd p s2 q hr2) rfl ⟨(sees_box 0 rfl (by decide) ⟨(sees_le (Le.refl _)), (sees_le (Le.refl _)), (sees_le (Le.refl _)), (sees_le (Le.refl _)), trivial⟩), trivial⟩ rfl) ?_
      rintro _ rfl
      refine SWl.rd rfl (Rd.assign rfl) ?_
      refine SWl.nil ?_
      refine SN.then ?_
      refine SW.seq ?_
      refine SW.region ?_
      refine SWl.rd rfl (Rd.move rfl) ?_
      refine SWl.rd rfl (Rd.nei rfl rfl) ?_
      refine SWl.nil ?_
      refine SN.then ?_
      refine SW.cond rfl (fun hb70 => ?_) (fun hb70 => ?_)
      · skip
        refine SW.seq ?_
        refine SW.region ?_
        refine SWl.rd rfl (Rd.move rfl) ?_
        refine SWl.rd rfl (Rd.assign rfl) ?_
        refine SWl.rd rfl (Rd.assign rfl) ?_
        refine SWl.nil ?_
        refine SN.then ?_
        obtain rfl : res = .error (endE q) := by (rw [hI.last h20, if_pos (by rw [← hq]; simpa using hb70), hq])
        refine SW.retR (fn := Try.f23) ((0, ⟨none, [], [], ⟨none, 0, []⟩⟩)) [] (fun _ _ h => h) (Rs.le (Rs.two rfl (ResV.tmp rfl) (ResV.tmp rfl)) ?_) (by decide) trivial
        exact Le.refl _
      · skip
        refine SW.skip ?_
        refine SN.then ?_
        refine SW.seq ?_
        refine SW.region ?_
        refine SWl.rd rfl (Rd.move rfl) ?_
        refine SWl.rd rfl (Rd.assign rfl) ?_
        refine SWl.rd rfl (Rd.assign rfl) ?_
        refine SWl.nil ?_
        refine SN.then ?_
        obtain rfl : res = .ok l := by rw [hI.last h20, if_neg (by rw [← hq]; simpa using hb70)]
        refine SW.retR (fn := Try.f23) ((gb, t)) [1, 2, 3, 4] (fun _ _ h => h) (Rs.le (Rs.two rfl (ResV.tmp rfl) (ResV.tmp rfl)) ?_) (by decide) ⟨⟨_, rfl, LeAll.refl _⟩, ⟨⟨_, rfl, LeR.refl _⟩, ⟨⟨_, rfl, LeR.refl _⟩, ⟨⟨_, rfl, LeR.refl _⟩, trivial⟩⟩⟩⟩
        exact Le.refl _
end Sx
end Go.Proofs.Ytgcnpnbgjejkaaa
namespace Go.Proofs.Ytgcnpnbgjejkaaa
open Go.RowKit
namespace Sx
set_option maxHeartbeats 4000000 in
set_option maxRecDepth 100000 in
theorem con_decodeBR (p : List UInt8) (hp : p.length ≤ 1000000) (res : Except Int (List Acc.T)) (hres : decB p = res) : ConR Try.prog 24 [] [bD p] (fun _ : Unit => []) (fun _ : Unit => tupD [aggD [lsD encA (exL res)], iD (exE res)]) := by
  refine con_ofR Try.func24 (by kernel_rfl) rfl (by kernel_rfl) fun base w0 => ?_
  refine SW.seq ?_
  refine SW.region ?_
  refine SWl.ef (S := []) (Ef.alloc (zs := [.slice none 0 0]) (by kernel_rfl) rfl) ?_
  rintro _ ⟨g2, rfl⟩
  refine SWl.rd rfl (Rd.assign rfl) ?_
  refine SWl.nil ?_
  refine SN.then ?_
  refine SW.seq ?_
  refine SW.region ?_
  refine SWl.ef (S := []) (Ef.alloc (zs := [.slice none 0 0]) (by kernel_rfl) rfl) ?_
  rintro _ ⟨g4, rfl⟩
  refine SWl.nil ?_
  refine SN.then ?_
  refine SW.seq ?_
  refine SW.region ?_
  refine SWl.rd rfl (Rd.move rfl) ?_
  refine SWl.rd rfl (Rd.build rfl rfl bldRR0) ?_
  refine SWl.ef (S := []) (Ef.call (con_sC ⟨p, 0⟩ hp 256 (by decide)) rfl ⟨Le.refl _, Le.refl _, trivial⟩ rfl) ?_
  rintro _ rfl
  refine SWl.rd rfl (Rd.move rfl) ?_
  refine SWl.rd rfl (Rd.extract rfl rfl) ?_
  refine SWl.rd rfl (Rd.extract rfl rfl) ?_
  refine SWl.ef (S := []) (Ef.alloc (zs := [.slice none 0 0, .int .i64 0]) (by kernel_rfl) rfl) ?_
  rintro _ ⟨g6, rfl⟩
  refine SWl.rd rfl (Rd.assign rfl) ?_
  refine SWl.ef (S := [_]) (Ef.storeA 2 rfl rfl rfl (by kernel_rfl) rfl (List.mem_singleton.2 rfl)) ?_
  rintro _ rfl
  refine SWl.nil ?_
  refine SN.then ?_
  refine SW.seq ?_
  refine SW.seq ?_
  obtain ⟨n, hn, hn1, hn2⟩ := stC_nat p
  refine SW.sub (σ' := St.ob [(2, isD (.pointer (some ⟨g2, 0, none⟩))), (4, isD (.pointer (some ⟨g4, 0, none⟩))), (5, iD (n : Int)), (6, isD (.pointer (some ⟨g6, 0, none⟩)))] [.c g2 [isD (.slice none 0 0)], .c g4 [lsD encA ([] : List Acc.T)], .c g6 [bD (stC 256 ⟨p, 0⟩).2.p, iD (stC 256 ⟨p, 0⟩).2.e]]) (⟨⟨_, rfl, ⟨⟨_, rfl, Le.refl _⟩, ⟨⟨_, rfl, Le.refl _⟩, ⟨⟨_, rfl, Le.is (by rw [hn])⟩, ⟨⟨_, rfl, Le.refl _⟩, trivial⟩⟩⟩⟩⟩, [0, 1, 2], by decide, ⟨⟨_, rfl, LeAll.refl _⟩, ⟨⟨_, rfl, ⟨le_nil_ls, trivial⟩⟩, ⟨⟨_, rfl, LeAll.refl _⟩, trivial⟩⟩⟩⟩) ?_
  refine SW.region ?_
  refine SWl.rd rfl (Rd.assign rfl) ?_
  refine SWl.nil ?_
  refine SN.then ?_
  refine SW.block ?_
  refine SW.loop (ι := {y : Nat × List Acc.T × RT // DI p res n y.1 y.2.1 y.2.2}) (fun ⟨(i, l, r), hI⟩ => St.ob [(2, isD (.pointer (some ⟨g2, 0, none⟩))), (4, isD (.pointer (some ⟨g4, 0, none⟩))), (5, iD (n : Int)), (6, isD (.pointer (some ⟨g6, 0, none⟩))), (7, iD (i : Int))] [.c g2 [isD (.slice none 0 0)], .c g4 [lsD encA l], .c g6 [bD r.p, iD r.e]]) (fun ⟨(i, l, r), hI⟩ => n - i) (⟨(0, [], (stC 256 ⟨p, 0⟩).2), DI.start hn hn1 hn2 hres⟩) ?_ ?_
  · exact ⟨⟨_, rfl, ⟨⟨_, rfl, Le.refl _⟩, ⟨⟨_, rfl, Le.refl _⟩, ⟨⟨_, rfl, Le.refl _⟩, ⟨⟨_, rfl, Le.refl _⟩, ⟨⟨_, rfl, Le.refl _⟩, trivial⟩⟩⟩⟩⟩⟩, [0, 1, 2], by decide, ⟨⟨_, rfl, LeAll.refl _⟩, ⟨⟨_, rfl, LeAll.refl _⟩, ⟨⟨_, rfl, LeAll.refl _⟩, trivial⟩⟩⟩⟩
  · rintro ⟨⟨i, l, r⟩, hI⟩ K0 hK0
    dsimp only at hI ⊢
    have hlen := hI.len
    have hmax := hI.max
    refine SW.seq ?_
    refine SW.seq ?_
    have hpl := hI.pl
    refine SW.region ?_
    refine SWl.rd rfl (Rd.move rfl) ?_
    refine SWl.rd rfl (Rd.move rfl) ?_
    refine SWl.rd rfl (Rd.lss rfl rfl) ?_
    refine SWl.nil ?_
    refine SN.then ?_
    refine SW.cond rfl (fun hb22 => ?_) (fun hb22 => ?_)
    · have h20 : i < n := by have h := of_decide_eq_true hb22; omega
      refine SW.skip ?_
      refine SN.then ?_
      refine SW.seq ?_
      refine SW.block ?_
      refine SW.seq ?_
      refine SW.region ?_
      refine SWl.rd rfl (Rd.build rfl rfl bldA0) ?_
      refine SWl.ef (S := []) (Ef.alloc (zs := [.string ⟨#[]⟩, .int .i64 0, .slice none 0 0, .int .i64 0, .int .i64 0]) (by kernel_rfl) rfl) ?_
      rintro _ ⟨g8, rfl⟩
      refine SWl.ef (S := [_]) (Ef.storeA 3 rfl rfl rfl (by kernel_rfl) rfl (List.mem_singleton.2 rfl)) ?_
      rintro _ rfl
      refine SWl.nil ?_
      refine SN.then ?_
      refine SW.seq ?_
      refine SW.region ?_
      refine SWl.rd rfl (Rd.assign rfl) ?_
      refine SWl.nil ?_
      refine SN.then ?_
      refine SW.seq ?_
      refine SW.region ?_
      refine SWl.rd rfl (Rd.assign rfl) ?_
      refine SWl.nil ?_
      refine SN.then ?_
      refine SW.seq ?_
      refine SW.sub (σ' := St.ob [(2, isD (.pointer (some ⟨g2, 0, none⟩))), (4, isD (.pointer (some ⟨g4, 0, none⟩))), (5, iD (n : Int)), (6, isD (.pointer (some ⟨g6, 0, none⟩))), (7, iD (i : Int)), (8, isD (.pointer (some ⟨g8, 0, none⟩)))] [.c g2 [isD (.slice none 0 0)], .c g4 [lsD encA l], .c g6 [bD r.p, iD r.e], .c g8 [strD [], iD 0, isD (.slice none 0 0), iD 0, iD 0]]) (⟨⟨_, rfl, ⟨⟨_, rfl, Le.refl _⟩, ⟨⟨_, rfl, Le.refl _⟩, ⟨⟨_, rfl, Le.refl _⟩, ⟨⟨_, rfl, Le.refl _⟩, ⟨⟨_, rfl, Le.refl _⟩, ⟨⟨_, rfl, Le.refl _⟩, trivial⟩⟩⟩⟩⟩⟩⟩, [0, 1, 2, 3], by decide, ⟨⟨_, rfl, LeAll.refl _⟩, ⟨⟨_, rfl, LeAll.refl _⟩, ⟨⟨_, rfl, LeAll.refl _⟩, ⟨⟨_, rfl, LeAll.refl _⟩, trivial⟩⟩⟩⟩⟩) ?_
      have q1 : (stP 32 r).2.p.length ≤ r.p.length := stG_len _
      have q2 : (stU (stP 32 r).2).2.p.length ≤ (stP 32 r).2.p.length := stG_len _
      have q3 : (stP 32 (stU (stP 32 r).2).2).2.p.length ≤ (stU (stP 32 r).2).2.p.length := stG_len _
      have q4 : (stU (stP 32 (stU (stP 32 r).2).2).2).2.p.length ≤ (stP 32 (stU (stP 32 r).2).2).2.p.length := stG_len _
      refine SW.region ?_
      refine SWl.rd rfl (Rd.loadA 2 2 rfl rfl (by kernel_rfl) rfl ap_nil) ?_
      refine SWl.ef (S := []) (Ef.call (con_sP r (by omega) 32 (by decide)) rfl ⟨Le.refl _, Le.refl _, trivial⟩ rfl) ?_
      rintro _ rfl
      refine SWl.rd rfl (Rd.move rfl) ?_
      refine SWl.rd rfl (Rd.extract rfl rfl) ?_
      refine SWl.rd rfl (Rd.extract rfl rfl) ?_
      refine SWl.rd rfl (Rd.assign rfl) ?_
      refine SWl.ef (S := [_]) (Ef.storeA 2 rfl rfl rfl (by kernel_rfl) rfl (List.mem_singleton.2 rfl)) ?_
      rintro _ rfl
      refine SWl.nil ?_
      refine SN.then ?_
      refine SW.seq ?_
      refine SW.sub (σ' := St.ob [(2, isD (.pointer (some ⟨g2, 0, none⟩))), (4, isD (.pointer (some ⟨g4, 0, none⟩))), (5, iD (n : Int)), (6, isD (.pointer (some ⟨g6, 0, none⟩))), (7, iD (i : Int)), (8, isD (.pointer (some ⟨g8, 0, none⟩))), (9, bD (stP 32 r).1)] [.c g2 [isD (.slice none 0 0)], .c g4 [lsD encA l], .c g6 [bD (stP 32 r).2.p, iD (stP 32 r).2.e], .c g8 [strD [], iD 0, isD (.slice none 0 0), iD 0, iD 0]]) (⟨⟨_, rfl, ⟨⟨_, rfl, Le.refl _⟩, ⟨⟨_, rfl, Le.refl _⟩, ⟨⟨_, rfl, Le.refl _⟩, ⟨⟨_, rfl, Le.refl _⟩, ⟨⟨_, rfl, Le.refl _⟩, ⟨⟨_, rfl, Le.refl _⟩, ⟨⟨_, rfl, Le.refl _⟩, trivial⟩⟩⟩⟩⟩⟩⟩⟩, [0, 1, 2, 3], by decide, ⟨⟨_, rfl, LeAll.refl _⟩, ⟨⟨_, rfl, LeAll.refl _⟩, ⟨⟨_, rfl, LeAll.refl _⟩, ⟨⟨_, rfl, LeAll.refl _⟩, trivial⟩⟩⟩⟩⟩) ?_
      refine SW.region ?_
      refine SWl.rd rfl (Rd.loadA 2 2 rfl rfl (by kernel_rfl) rfl ap_nil) ?_
      refine SWl.ef (S := []) (Ef.call (con_sU (stP 32 r).2 (by omega)) rfl ⟨Le.refl _, trivial⟩ rfl) ?_
      rintro _ rfl
      refine SWl.rd rfl (Rd.move rfl) ?_
      refine SWl.rd rfl (Rd.extract rfl rfl) ?_
      refine SWl.rd rfl (Rd.extract rfl rfl) ?_
      refine SWl.rd rfl (Rd.assign rfl) ?_
      refine SWl.ef (S := [_]) (Ef.storeA 2 rfl rfl rfl (by kernel_rfl) rfl (List.mem_singleton.2 rfl)) ?_
      rintro _ rfl
      refine SWl.nil ?_
      refine SN.then ?_
      refine SW.seq ?_
      refine SW.sub (σ' := St.ob [(2, isD (.pointer (some ⟨g2, 0, none⟩))), (4, isD (.pointer (some ⟨g4, 0, none⟩))), (5, iD (n : Int)), (6, isD (.pointer (some ⟨g6, 0, none⟩))), (7, iD (i : Int)), (8, isD (.pointer (some ⟨g8, 0, none⟩))), (9, bD (stP 32 r).1), (10, iD (stU (stP 32 r).2).1)] [.c g2 [isD (.slice none 0 0)], .c g4 [lsD encA l], .c g6 [bD (stU (stP 32 r).2).2.p, iD (stU (stP 32 r).2).2.e], .c g8 [strD [], iD 0, isD (.slice none 0 0), iD 0, iD 0]]) (⟨⟨_, rfl, ⟨⟨_, rfl, Le.refl _⟩, ⟨⟨_, rfl, Le.refl _⟩, ⟨⟨_, rfl, Le.refl _⟩, ⟨⟨_, rfl, Le.refl _⟩, ⟨⟨_, rfl, Le.refl _⟩, ⟨⟨_, rfl, Le.refl _⟩, ⟨⟨_, rfl, Le.refl _⟩, ⟨⟨_, rfl, Le.refl _⟩, trivial⟩⟩⟩⟩⟩⟩⟩⟩⟩, [0, 1, 2, 3], by decide, ⟨⟨_, rfl, LeAll.refl _⟩, ⟨⟨_, rfl, LeAll.refl _⟩, ⟨⟨_, rfl, LeAll.refl _⟩, ⟨⟨_, rfl, LeAll.refl _⟩, trivial⟩⟩⟩⟩⟩) ?_
      refine SW.region ?_
      refine SWl.rd rfl (Rd.loadA 2 2 rfl rfl (by kernel_rfl) rfl ap_nil) ?_
      refine SWl.ef (S := []) (Ef.call (con_sP (stU (stP 32 r).2).2 (by omega) 32 (by decide)) rfl ⟨Le.refl _, Le.refl _, trivial⟩ rfl) ?_
      rintro _ rfl
      refine SWl.rd rfl (Rd.move rfl) ?_
      refine SWl.rd rfl (Rd.extract rfl rfl) ?_
      refine SWl.rd rfl (Rd.extract rfl rfl) ?_
      refine SWl.rd rfl (Rd.fieldAddr (n := 2) rfl (by kernel_rfl)) ?_
      refine SWl.ef (S := [_]) (Ef.storeV 3 rfl rfl rfl (by kernel_rfl) rfl (List.mem_singleton.2 rfl)) ?_
      rintro _ rfl
      refine SWl.ef (S := [_]) (Ef.storeA 2 rfl rfl rfl (by kernel_rfl) rfl (List.mem_singleton.2 rfl)) ?_
      rintro _ rfl
      refine SWl.nil ?_
      refine SN.then ?_
      refine SW.seq ?_
      refine SW.sub (σ' := St.ob [(2, isD (.pointer (some ⟨g2, 0, none⟩))), (4, isD (.pointer (some ⟨g4, 0, none⟩))), (5, iD (n : Int)), (6, isD (.pointer (some ⟨g6, 0, none⟩))), (7, iD (i : Int)), (8, isD (.pointer (some ⟨g8, 0, none⟩))), (9, bD (stP 32 r).1), (10, iD (stU (stP 32 r).2).1)] [.c g2 [isD (.slice none 0 0)], .c g4 [lsD encA l], .c g6 [bD (stP 32 (stU (stP 32 r).2).2).2.p, iD (stP 32 (stU (stP 32 r).2).2).2.e], .c g8 [strD [], iD 0, bD (stP 32 (stU (stP 32 r).2).2).1, iD 0, iD 0]]) (⟨⟨_, rfl, ⟨⟨_, rfl, Le.refl _⟩, ⟨⟨_, rfl, Le.refl _⟩, ⟨⟨_, rfl, Le.refl _⟩, ⟨⟨_, rfl, Le.refl _⟩, ⟨⟨_, rfl, Le.refl _⟩, ⟨⟨_, rfl, Le.refl _⟩, ⟨⟨_, rfl, Le.refl _⟩, ⟨⟨_, rfl, Le.refl _⟩, trivial⟩⟩⟩⟩⟩⟩⟩⟩⟩, [0, 1, 2, 3], by decide, ⟨⟨_, rfl, LeAll.refl _⟩, ⟨⟨_, rfl, LeAll.refl _⟩, ⟨⟨_, rfl, LeAll.refl _⟩, ⟨⟨_, rfl, LeAll.refl _⟩, trivial⟩⟩⟩⟩⟩) ?_
      refine SW.region ?_
      refine SWl.rd rfl (Rd.loadA 2 2 rfl rfl (by kernel_rfl) rfl ap_nil) ?_
      refine SWl.ef (S := []) (Ef.call (con_sU (stP 32 (stU (stP 32 r).2).2).2 (by omega)) rfl ⟨Le.refl _, trivial⟩ rfl) ?_
      rintro _ rfl
      refine SWl.rd rfl (Rd.move rfl) ?_
      refine SWl.rd rfl (Rd.extract rfl rfl) ?_
      refine SWl.rd rfl (Rd.extract rfl rfl) ?_
      refine SWl.rd rfl (Rd.fieldAddr (n := 3) rfl (by kernel_rfl)) ?_
      refine SWl.ef (S := [_]) (Ef.storeV 3 rfl rfl rfl (by kernel_rfl) rfl (List.mem_singleton.2 rfl)) ?_
      rintro _ rfl
      refine SWl.ef (S := [_]) (Ef.storeA 2 rfl rfl rfl (by kernel_rfl) rfl (List.mem_singleton.2 rfl)) ?_
      rintro _ rfl
      refine SWl.nil ?_
      refine SN.then ?_
      refine SW.seq ?_
      refine SW.sub (σ' := St.ob [(2, isD (.pointer (some ⟨g2, 0, none⟩))), (4, isD (.pointer (some ⟨g4, 0, none⟩))), (5, iD (n : Int)), (6, isD (.pointer (some ⟨g6, 0, none⟩))), (7, iD (i : Int)), (8, isD (.pointer (some ⟨g8, 0, none⟩))), (9, bD (stP 32 r).1), (10, iD (stU (stP 32 r).2).1)] [.c g2 [isD (.slice none 0 0)], .c g4 [lsD encA l], .c g6 [bD (stU (stP 32 (stU (stP 32 r).2).2).2).2.p, iD (stU (stP 32 (stU (stP 32 r).2).2).2).2.e], .c g8 [strD [], iD 0, bD (stP 32 (stU (stP 32 r).2).2).1, iD (stU (stP 32 (stU (stP 32 r).2).2).2).1, iD 0]]) (⟨⟨_, rfl, ⟨⟨_, rfl, Le.refl _⟩, ⟨⟨_, rfl, Le.refl _⟩, ⟨⟨_, rfl, Le.refl _⟩, ⟨⟨_, rfl, Le.refl _⟩, ⟨⟨_, rfl, Le.refl _⟩, ⟨⟨_, rfl, Le.refl _⟩, ⟨⟨_, rfl, Le.refl _⟩, ⟨⟨_, rfl, Le.refl _⟩, trivial⟩⟩⟩⟩⟩⟩⟩⟩⟩, [0, 1, 2, 3], by decide, ⟨⟨_, rfl, LeAll.refl _⟩, ⟨⟨_, rfl, LeAll.refl _⟩, ⟨⟨_, rfl, LeAll.refl _⟩, ⟨⟨_, rfl, LeAll.refl _⟩, trivial⟩⟩⟩⟩⟩) ?_
      refine SW.region ?_
      refine SWl.rd rfl (Rd.loadA 2 2 rfl rfl (by kernel_rfl) rfl ap_nil) ?_
      refine SWl.ef (S := []) (Ef.call (con_sU (stU (stP 32 (stU (stP 32 r).2).2).2).2 (by omega)) rfl ⟨Le.refl _, trivial⟩ rfl) ?_
      rintro _ rfl
      refine SWl.rd rfl (Rd.move rfl) ?_
      refine SWl.rd rfl (Rd.extract rfl rfl) ?_
      refine SWl.rd rfl (Rd.extract rfl rfl) ?_
      refine SWl.rd rfl (Rd.fieldAddr (n := 4) rfl (by kernel_rfl)) ?_
      refine SWl.ef (S := [_]) (Ef.storeV 3 rfl rfl rfl (by kernel_rfl) rfl (List.mem_singleton.2 rfl)) ?_
      rintro _ rfl
      refine SWl.ef (S := [_]) (Ef.storeA 2 rfl rfl rfl (by kernel_rfl) rfl (List.mem_singleton.2 rfl)) ?_
      rintro _ rfl
      refine SWl.nil ?_
      refine SN.then ?_
      refine SW.seq ?_
      refine SW.seq ?_
      obtain ⟨x, ha⟩ : ∃ x, x = (rdAcc r).1 := ⟨_, rfl⟩
      obtain ⟨q, hq⟩ : ∃ q, q = (rdAcc r).2 := ⟨_, rfl⟩
      refine SW.sub (σ' := St.ob [(2, isD (.pointer (some ⟨g2, 0, none⟩))), (4, isD (.pointer (some ⟨g4, 0, none⟩))), (5, iD (n : Int)), (6, isD (.pointer (some ⟨g6, 0, none⟩))), (7, iD (i : Int)), (8, isD (.pointer (some ⟨g8, 0, none⟩))), (9, bD x.name), (10, iD x.role)] [.c g2 [isD (.slice none 0 0)], .c g4 [lsD encA l], .c g6 [bD q.p, iD q.e], .c g8 [strD [], iD 0, bD x.key, iD x.dep, iD x.num]]) (⟨⟨_, rfl, ⟨⟨_, rfl, Le.refl _⟩, ⟨⟨_, rfl, Le.refl _⟩, ⟨⟨_, rfl, Le.refl _⟩, ⟨⟨_, rfl, Le.refl _⟩, ⟨⟨_, rfl, Le.refl _⟩, ⟨⟨_, rfl, Le.refl _⟩, ⟨⟨_, rfl, (by rw [ha]; exact Le.refl _)⟩, ⟨⟨_, rfl, (by rw [ha]; exact Le.refl _)⟩, trivial⟩⟩⟩⟩⟩⟩⟩⟩⟩, [0, 1, 2, 3], by decide, ⟨⟨_, rfl, LeAll.refl _⟩, ⟨⟨_, rfl, LeAll.refl _⟩, ⟨⟨_, rfl, (by rw [hq]; exact LeAll.refl _)⟩, ⟨⟨_, rfl, (by rw [ha]; exact LeAll.refl _)⟩, trivial⟩⟩⟩⟩⟩) ?_
      refine SW.region ?_
      refine SWl.rd rfl (Rd.fieldAddr (n := 1) rfl (by kernel_rfl)) ?_
      refine SWl.rd rfl (Rd.loadB 2 rfl rfl rfl (by kernel_rfl) ap_nil) ?_
      refine SWl.rd rfl (Rd.nei rfl rfl) ?_
      refine SWl.nil ?_
      refine SN.then ?_
      refine SW.cond rfl (fun hb56 => ?_) (fun hb56 => ?_)
      · have h44 : (rdAcc r).2.e ≠ 0 := by (have h : q.e ≠ 0 := by simpa using hb56); rwa [hq] at h
        refine SW.seq ?_
        refine SW.draw (g2 :: []) (.r 0 (.r 1 (.r 2 (.e 3 (.r 4 .fin) .no)))) (by kernel_rfl) (by kernel_rfl) (fun d _ _ _ _ h => by cases d <;> exact h) ?_
        refine SWz.rd (i := 0) rfl rfl (Rd.build rfl rfl bldRB0) ?_
        refine SWz.rd (i := 1) rfl rfl (Rd.fieldAddr (n := 1) rfl (by kernel_rfl)) ?_
        refine SWz.rd (i := 2) rfl rfl (Rd.loadB 2 rfl rfl rfl (by kernel_rfl) (ap_cons 0 rfl (by decide) ap_nil)) ?_
        refine SWz.efe (i := 3) rfl (Ef.storeA 0 rfl rfl rfl (by kernel_rfl) rfl (List.mem_cons_self)) ?_ SWz.no
        rintro _ rfl
        refine SWz.rd (i := 4) rfl rfl (Rd.assign rfl) ?_
        refine SWz.nil ?_
        refine SN.then ?_
        obtain rfl : res = .error (rdAcc r).2.e := hI.err h20 h44
        refine SW.retR (fn := Try.f24) (()) [] (fun _ _ h => h) (Rs.le (Rs.two rfl (ResV.cellA 0 rfl rfl (by kernel_rfl)) (ResV.tmp rfl)) ?_) (by decide) trivial
        exact Le.tup ⟨Le.agg ⟨le_nil_ls, trivial⟩, Le.is (by rw [hq]; rfl), trivial⟩
      · have hqe : (rdAcc r).2.e = 0 := by (have h : q.e = 0 := by simpa using hb56); rwa [hq] at h
        refine SW.skip ?_
        refine SN.then ?_
        refine SW.seq ?_
        refine SW.region ?_
        refine SWl.rd rfl (Rd.move rfl) ?_
        refine SWl.rd rfl (Rd.str (e := 5) rfl (by kernel_rfl) (by kernel_rfl) (by kernel_rfl) (by simp)) ?_
        refine SWl.rd rfl (Rd.move rfl) ?_
        refine SWl.rd rfl (Rd.fieldAddr (n := 0) rfl (by kernel_rfl)) ?_
        refine SWl.ef (S := [_]) (Ef.storeV 3 rfl rfl rfl (by kernel_rfl) rfl (List.mem_singleton.2 rfl)) ?_
        rintro _ rfl
        refine SWl.rd rfl (Rd.fieldAddr (n := 1) rfl (by kernel_rfl)) ?_
        refine SWl.ef (S := [_]) (Ef.storeV 3 rfl rfl rfl (by kernel_rfl) rfl (List.mem_singleton.2 rfl)) ?_
        rintro _ rfl
        refine SWl.nil ?_
        refine SN.then ?_
        refine SW.seq ?_
        refine SW.sub (σ' := St.ob [(2, isD (.pointer (some ⟨g2, 0, none⟩))), (4, isD (.pointer (some ⟨g4, 0, none⟩))), (5, iD (n : Int)), (6, isD (.pointer (some ⟨g6, 0, none⟩))), (7, iD (i : Int)), (8, isD (.pointer (some ⟨g8, 0, none⟩)))] [.c g2 [isD (.slice none 0 0)], .c g4 [lsD encA l], .c g6 [bD q.p, iD q.e], .c g8 [strD x.name, iD x.role, bD x.key, iD x.dep, iD x.num]]) (⟨⟨_, rfl, ⟨⟨_, rfl, Le.refl _⟩, ⟨⟨_, rfl, Le.refl _⟩, ⟨⟨_, rfl, Le.refl _⟩, ⟨⟨_, rfl, Le.refl _⟩, ⟨⟨_, rfl, Le.refl _⟩, ⟨⟨_, rfl, Le.refl _⟩, trivial⟩⟩⟩⟩⟩⟩⟩, [0, 1, 2, 3], by decide, ⟨⟨_, rfl, LeAll.refl _⟩, ⟨⟨_, rfl, LeAll.refl _⟩, ⟨⟨_, rfl, LeAll.refl _⟩, ⟨⟨_, rfl, LeAll.refl _⟩, trivial⟩⟩⟩⟩⟩) ?_
        refine SW.region ?_
        refine SWl.rd rfl (Rd.loadA 1 1 rfl rfl (by kernel_rfl) rfl ap_nil) ?_
        refine SWl.rd rfl (Rd.loadA 3 5 rfl rfl (by kernel_rfl) rfl ap_nil) ?_
        refine SWl.ef (S := []) (Ef.callR [] (con_AddR l x hI.fine (by rw [ha]; have := stP_le (lim := 32) (by decide) r; show (stP 32 r).1.length ≤ _; omega)) rfl ⟨Le.refl _, Le.refl _, trivial⟩ (by decide) trivial (fun _ h => h) rfl) ?_
        rintro _ ⟨⟨⟩, rfl⟩
        refine SWl.rd rfl (Rd.move rfl) ?_
        refine SWl.rd rfl (Rd.extract rfl rfl) ?_
        refine SWl.rd rfl (Rd.extract rfl rfl) ?_
        refine SWl.ef (S := []) (Ef.alloc (zs := [.slice none 0 0]) (by kernel_rfl) rfl) ?_
        rintro _ ⟨g11, rfl⟩
        refine SWl.ef (S := [_]) (Ef.storeA 4 rfl rfl rfl (by kernel_rfl) rfl (List.mem_singleton.2 rfl)) ?_
        rintro _ rfl
        refine SWl.rd rfl (Rd.assign rfl) ?_
        refine SWl.nil ?_
        refine SN.then ?_
        refine SW.seq ?_
        refine SW.seq ?_
        by_cases hbad : decBad l (rdAcc r).1
        · have hbr := dec_badR hI.fine hbad; rw [← ha] at hbr
          refine SW.sub (σ' := St.ob [(2, isD (.pointer (some ⟨g2, 0, none⟩))), (4, isD (.pointer (some ⟨g4, 0, none⟩))), (5, iD (n : Int)), (6, isD (.pointer (some ⟨g6, 0, none⟩))), (7, iD (i : Int)), (8, isD (.pointer (some ⟨g8, 0, none⟩))), (11, isD (.pointer (some ⟨g11, 0, none⟩))), (12, iD (Acc.add l x).2)] [.c g2 [isD (.slice none 0 0)], .c g4 [lsD encA l], .c g6 [bD q.p, iD q.e], .c g8 [strD x.name, iD x.role, bD x.key, iD x.dep, iD x.num], .c g11 [lsD encA (Acc.add l x).1]]) (⟨⟨_, rfl, ⟨⟨_, rfl, Le.refl _⟩, ⟨⟨_, rfl, Le.refl _⟩, ⟨⟨_, rfl, Le.refl _⟩, ⟨⟨_, rfl, Le.refl _⟩, ⟨⟨_, rfl, Le.refl _⟩, ⟨⟨_, rfl, Le.refl _⟩, ⟨⟨_, rfl, Le.refl _⟩, ⟨⟨_, rfl, Le.refl _⟩, trivial⟩⟩⟩⟩⟩⟩⟩⟩⟩, [0, 1, 2, 3, 4], by decide, ⟨⟨_, rfl, LeAll.refl _⟩, ⟨⟨_, rfl, LeAll.refl _⟩, ⟨⟨_, rfl, LeAll.refl _⟩, ⟨⟨_, rfl, LeAll.refl _⟩, ⟨⟨_, rfl, LeAll.refl _⟩, trivial⟩⟩⟩⟩⟩⟩) ?_
          refine SW.draw [] (.r 0 (.r 1 (.r 2 (.r 3 (.r 4 (.r 5 (.r 6 (.r 7 (.r 8 (.r 9 (.r 10 (.r 11 (.r 12 (.r 13 (.r 14 (.r 15 (.r 16 (.r 17 .fin)))))))))))))))))) (by kernel_rfl) (by kernel_rfl) (fun d _ _ _ _ h => by cases d <;> exact h) ?_
          refine SWz.rd (i := 0) rfl rfl (Rd.move rfl) ?_
          refine SWz.rd (i := 1) rfl rfl (Rd.nei rfl rfl) ?_
          refine SWz.rd (i := 2) rfl rfl (Rd.move rfl) ?_
          refine SWz.split 73 rfl (fun hb73 => ?_) (fun hb73 => ?_)
          · skip
            refine SWz.off (i := 3) rfl rfl rfl (hb73) rfl rfl ?_
            refine SWz.off (i := 4) rfl rfl rfl (hb73) rfl rfl ?_
            refine SWz.off (i := 5) rfl rfl rfl (hb73) rfl rfl ?_
            refine SWz.offu (i := 6) rfl rfl rfl rfl rfl ?_
            refine SWz.offu (i := 7) rfl rfl rfl rfl rfl ?_
            refine SWz.offu (i := 8) rfl rfl rfl rfl rfl ?_
            refine SWz.offu (i := 9) rfl rfl rfl rfl rfl ?_
            refine SWz.offu (i := 10) rfl rfl rfl rfl rfl ?_
            refine SWz.offu (i := 11) rfl rfl rfl rfl rfl ?_
            refine SWz.offu (i := 12) rfl rfl rfl rfl rfl ?_
            refine SWz.offu (i := 13) rfl rfl rfl rfl rfl ?_
            refine SWz.offu (i := 14) rfl rfl rfl rfl rfl ?_
            refine SWz.offu (i := 15) rfl rfl rfl rfl rfl ?_
            refine SWz.off (i := 16) rfl rfl rfl (hb73) rfl rfl ?_
            refine SWz.rd (i := 17) rfl rfl (Rd.pickY rfl (hb73) rfl) ?_
            refine SWz.nil ?_
            refine SN.then ?_
            refine SW.condT rfl (rfl) ?_
            refine SW.seq ?_
            refine SW.region ?_
            refine SWl.rd rfl (Rd.build rfl rfl bldRB0) ?_
            refine SWl.ef (S := [_]) (Ef.storeA 0 rfl rfl rfl (by kernel_rfl) rfl (List.mem_singleton.2 rfl)) ?_
            rintro _ rfl
            refine SWl.rd rfl (Rd.assign rfl) ?_
            refine SWl.nil ?_
            refine SN.then ?_
            obtain rfl : res = .error 6 := hI.bad h20 hqe hbad
            refine SW.retR (fn := Try.f24) (()) [] (fun _ _ h => h) (Rs.le (Rs.two rfl (ResV.cellA 0 rfl rfl (by kernel_rfl)) (ResV.tmp rfl)) ?_) (by decide) trivial
            exact Le.tup ⟨Le.agg ⟨le_nil_ls, trivial⟩, Le.refl _, trivial⟩
          · have h73 : (Acc.add l x).2 = 0 := by simpa using hb73
            refine SWz.rdg (i := 3) rfl rfl rfl (hb73) rfl rfl (Rd.move rfl) ?_
            refine SWz.rdg (i := 4) rfl rfl rfl (hb73) rfl rfl (Rd.gtr rfl rfl) ?_
            refine SWz.rdg (i := 5) rfl rfl rfl (hb73) rfl rfl (Rd.move rfl) ?_
            refine SWz.rdg (i := 6) rfl rfl rfl (by (have h := hbr.resolve_left (by simp [h73])); apply decide_eq_true; omega) rfl rfl (Rd.fieldAddr (n := 0) rfl (by kernel_rfl)) ?_
            refine SWz.rdg (i := 7) rfl rfl rfl (by (have h := hbr.resolve_left (by simp [h73])); apply decide_eq_true; omega) rfl rfl (Rd.loadB 3 rfl rfl rfl (by kernel_rfl) ap_nil) ?_
            refine SWz.rdg (i := 8) rfl rfl rfl (by (have h := hbr.resolve_left (by simp [h73])); apply decide_eq_true; omega) rfl rfl (Rd.fieldAddr (n := 0) rfl (by kernel_rfl)) ?_
            refine SWz.rdg (i := 9) rfl rfl rfl (by (have h := hbr.resolve_left (by simp [h73])); apply decide_eq_true; omega) rfl rfl (Rd.loadB 1 rfl rfl rfl (by kernel_rfl) ap_nil) ?_
            refine SWz.rdg (i := 10) rfl rfl rfl (by (have h := hbr.resolve_left (by simp [h73])); apply decide_eq_true; omega) rfl rfl (Rd.move rfl) ?_
            refine SWz.rdg (i := 11) rfl rfl rfl (by (have h := hbr.resolve_left (by simp [h73])); apply decide_eq_true; omega) rfl rfl (Rd.mono (Rd.subi rfl rfl ⟨by omega, by omega⟩) (show Le _ (iD ((i - 1 : Nat) : Int)) from Le.is (by first | (congr 1; omega) | (have h := hbr.resolve_left (by simp [h73]); congr 1; omega)))) ?_
            have hi0 : 0 < i := by first | omega | (have h := hbr.resolve_left (by simp [h73]); omega)
            obtain ⟨y, hy⟩ : ∃ y, l[i - 1]? = some y := ⟨_, List.getElem?_eq_getElem (by omega)⟩
            refine SWz.rdg (i := 12) rfl rfl rfl (by (have h := hbr.resolve_left (by simp [h73])); apply decide_eq_true; omega) rfl rfl (Rd.idxL (e := 34) 5 rfl rfl (by kernel_rfl) (by kernel_rfl) (by omega) (by simpa using hy)) ?_
            refine SWz.rdg (i := 13) rfl rfl rfl (by (have h := hbr.resolve_left (by simp [h73])); apply decide_eq_true; omega) rfl rfl (Rd.fieldR (n := 0) rfl (by kernel_rfl) (show 0 < 5 by decide)) ?_
            refine SWz.rdg (i := 14) rfl rfl rfl (by (have h := hbr.resolve_left (by simp [h73])); apply decide_eq_true; omega) rfl rfl (Rd.loadR rfl rfl (by kernel_rfl) (by simp)) ?_
            refine SWz.rdg (i := 15) rfl rfl rfl (by (have h := hbr.resolve_left (by simp [h73])); apply decide_eq_true; omega) rfl rfl (Rd.les (p := x.name) (q := y.name) rfl rfl) ?_
            refine SWz.rdg (i := 16) rfl rfl rfl (hb73) rfl rfl (Rd.pickY rfl (by (have h := hbr.resolve_left (by simp [h73])); apply decide_eq_true; omega) rfl) ?_
            refine SWz.rd (i := 17) rfl rfl (Rd.pickN rfl (hb73) rfl) ?_
            refine SWz.nil ?_
            refine SN.then ?_
            refine SW.condT rfl (by (have h := (hbr.resolve_left (by simp [h73])).2); rw [lastN_get (show l[l.length - 1]? = some y by rw [show l.length - 1 = i - 1 by omega]; exact hy)] at h; exact h) ?_
            refine SW.seq ?_
            refine SW.region ?_
            refine SWl.rd rfl (Rd.build rfl rfl bldRB0) ?_
            refine SWl.ef (S := [_]) (Ef.storeA 0 rfl rfl rfl (by kernel_rfl) rfl (List.mem_singleton.2 rfl)) ?_
            rintro _ rfl
            refine SWl.rd rfl (Rd.assign rfl) ?_
            refine SWl.nil ?_
            refine SN.then ?_
            obtain rfl : res = .error 6 := hI.bad h20 hqe hbad
            refine SW.retR (fn := Try.f24) (()) [] (fun _ _ h => h) (Rs.le (Rs.two rfl (ResV.cellA 0 rfl rfl (by kernel_rfl)) (ResV.tmp rfl)) ?_) (by decide) trivial
            exact Le.tup ⟨Le.agg ⟨le_nil_ls, trivial⟩, Le.refl _, trivial⟩
        · obtain ⟨e1, e2, e3, e4⟩ := dec_good hI.fine hbad (by omega); rw [← ha] at e4
          refine SW.sub (σ' := St.ob [(2, isD (.pointer (some ⟨g2, 0, none⟩))), (4, isD (.pointer (some ⟨g4, 0, none⟩))), (5, iD (n : Int)), (6, isD (.pointer (some ⟨g6, 0, none⟩))), (7, iD (i : Int)), (8, isD (.pointer (some ⟨g8, 0, none⟩))), (11, isD (.pointer (some ⟨g11, 0, none⟩))), (12, iD (Acc.add l x).2)] [.c g2 [isD (.slice none 0 0)], .c g4 [lsD encA l], .c g6 [bD q.p, iD q.e], .c g8 [strD x.name, iD x.role, bD x.key, iD x.dep, iD x.num], .c g11 [lsD encA (Acc.add l x).1]]) (⟨⟨_, rfl, ⟨⟨_, rfl, Le.refl _⟩, ⟨⟨_, rfl, Le.refl _⟩, ⟨⟨_, rfl, Le.refl _⟩, ⟨⟨_, rfl, Le.refl _⟩, ⟨⟨_, rfl, Le.refl _⟩, ⟨⟨_, rfl, Le.refl _⟩, ⟨⟨_, rfl, Le.refl _⟩, ⟨⟨_, rfl, Le.refl _⟩, trivial⟩⟩⟩⟩⟩⟩⟩⟩⟩, [0, 1, 2, 3, 4], by decide, ⟨⟨_, rfl, LeAll.refl _⟩, ⟨⟨_, rfl, LeAll.refl _⟩, ⟨⟨_, rfl, LeAll.refl _⟩, ⟨⟨_, rfl, LeAll.refl _⟩, ⟨⟨_, rfl, LeAll.refl _⟩, trivial⟩⟩⟩⟩⟩⟩) ?_
          refine SW.draw [] (.r 0 (.r 1 (.r 2 (.r 3 (.r 4 (.r 5 (.r 6 (.r 7 (.r 8 (.r 9 (.r 10 (.r 11 (.r 12 (.r 13 (.r 14 (.r 15 (.r 16 (.r 17 .fin)))))))))))))))))) (by kernel_rfl) (by kernel_rfl) (fun d _ _ _ _ h => by cases d <;> exact h) ?_
          refine SWz.rd (i := 0) rfl rfl (Rd.move rfl) ?_
          refine SWz.rd (i := 1) rfl rfl (Rd.nei rfl rfl) ?_
          refine SWz.rd (i := 2) rfl rfl (Rd.move rfl) ?_
          refine SWz.rdg (i := 3) rfl rfl rfl (by simp [e4]) rfl rfl (Rd.move rfl) ?_
          refine SWz.rdg (i := 4) rfl rfl rfl (by simp [e4]) rfl rfl (Rd.gtr rfl rfl) ?_
          refine SWz.rdg (i := 5) rfl rfl rfl (by simp [e4]) rfl rfl (Rd.move rfl) ?_
          refine SWz.split 76 rfl (fun hb76 => ?_) (fun hb76 => ?_)
          · have h76 : 0 < i := by have h := of_decide_eq_true hb76; omega
            refine SWz.rdg (i := 6) rfl rfl rfl (hb76) rfl rfl (Rd.fieldAddr (n := 0) rfl (by kernel_rfl)) ?_
            refine SWz.rdg (i := 7) rfl rfl rfl (hb76) rfl rfl (Rd.loadB 3 rfl rfl rfl (by kernel_rfl) ap_nil) ?_
            refine SWz.rdg (i := 8) rfl rfl rfl (hb76) rfl rfl (Rd.fieldAddr (n := 0) rfl (by kernel_rfl)) ?_
            refine SWz.rdg (i := 9) rfl rfl rfl (hb76) rfl rfl (Rd.loadB 1 rfl rfl rfl (by kernel_rfl) ap_nil) ?_
            refine SWz.rdg (i := 10) rfl rfl rfl (hb76) rfl rfl (Rd.move rfl) ?_
            refine SWz.rdg (i := 11) rfl rfl rfl (hb76) rfl rfl (Rd.mono (Rd.subi rfl rfl ⟨by omega, by omega⟩) (show Le _ (iD ((i - 1 : Nat) : Int)) from Le.is (by first | (congr 1; omega) | (have h := hbr.resolve_left (by simp [h73]); congr 1; omega)))) ?_
            have hi0 : 0 < i := by first | omega | (have h := hbr.resolve_left (by simp [h73]); omega)
            obtain ⟨y, hy⟩ : ∃ y, l[i - 1]? = some y := ⟨_, List.getElem?_eq_getElem (by omega)⟩
            refine SWz.rdg (i := 12) rfl rfl rfl (hb76) rfl rfl (Rd.idxL (e := 34) 5 rfl rfl (by kernel_rfl) (by kernel_rfl) (by omega) (by simpa using hy)) ?_
            refine SWz.rdg (i := 13) rfl rfl rfl (hb76) rfl rfl (Rd.fieldR (n := 0) rfl (by kernel_rfl) (show 0 < 5 by decide)) ?_
            refine SWz.rdg (i := 14) rfl rfl rfl (hb76) rfl rfl (Rd.loadR rfl rfl (by kernel_rfl) (by simp)) ?_
            refine SWz.rdg (i := 15) rfl rfl rfl (hb76) rfl rfl (Rd.les (p := x.name) (q := y.name) rfl rfl) ?_
            refine SWz.rdg (i := 16) rfl rfl rfl (by simp [e4]) rfl rfl (Rd.pickY rfl (hb76) rfl) ?_
            refine SWz.rd (i := 17) rfl rfl (Rd.pickN rfl (by simp [e4]) rfl) ?_
            refine SWz.nil ?_
            refine SN.then ?_
            refine SW.condF rfl (by (have h : les x.name (lastN l) = false := by (rcases hb : les x.name (lastN l) with _ | _); rfl; exact absurd (.inr (.inl (by rw [← ha]; exact hb))) hbad); rw [lastN_get (show l[l.length - 1]? = some y by rw [show l.length - 1 = i - 1 by omega]; exact hy)] at h; exact h) ?_
            refine SW.skip ?_
            refine SN.then ?_
            refine SW.region ?_
            refine SWl.rd rfl (Rd.loadA 4 1 rfl rfl (by kernel_rfl) rfl ap_nil) ?_
            refine SWl.ef (S := [_]) (Ef.storeA 1 rfl rfl rfl (by kernel_rfl) rfl (List.mem_singleton.2 rfl)) ?_
            rintro _ rfl
            refine SWl.nil ?_
            refine SN.block ?_
            refine SN.then ?_
            refine SW.region ?_
            refine SWl.rd rfl (Rd.move rfl) ?_
            refine SWl.rd rfl (Rd.add rfl rfl ⟨by omega, by omega⟩) ?_
            refine SWl.rd rfl (Rd.assign rfl) ?_
            refine SWl.nil ?_
            exact fun a w hh => hK0 (⟨(i + 1, l ++ [x], q), by dsimp only; rw [ha, hq]; exact hI.next h20 hqe hbad⟩) (by dsimp only; omega) a w (hh.sub (⟨⟨_, rfl, ⟨⟨_, rfl, Le.refl _⟩, ⟨⟨_, rfl, Le.refl _⟩, ⟨⟨_, rfl, Le.refl _⟩, ⟨⟨_, rfl, Le.refl _⟩, ⟨⟨_, rfl, Le.is (by simp)⟩, trivial⟩⟩⟩⟩⟩⟩, [0, 1, 2], by decide, ⟨⟨_, rfl, LeAll.refl _⟩, ⟨⟨_, rfl, ⟨by rw [e4]; exact Le.refl _, trivial⟩⟩, ⟨⟨_, rfl, LeAll.refl _⟩, trivial⟩⟩⟩⟩))
          · skip
            refine SWz.off (i := 6) rfl rfl rfl (hb76) rfl rfl ?_
            refine SWz.off (i := 7) rfl rfl rfl (hb76) rfl rfl ?_
            refine SWz.off (i := 8) rfl rfl rfl (hb76) rfl rfl ?_
            refine SWz.off (i := 9) rfl rfl rfl (hb76) rfl rfl ?_
            refine SWz.off (i := 10) rfl rfl rfl (hb76) rfl rfl ?_
            refine SWz.off (i := 11) rfl rfl rfl (hb76) rfl rfl ?_
            refine SWz.off (i := 12) rfl rfl rfl (hb76) rfl rfl ?_
            refine SWz.off (i := 13) rfl rfl rfl (hb76) rfl rfl ?_
            refine SWz.off (i := 14) rfl rfl rfl (hb76) rfl rfl ?_
            refine SWz.off (i := 15) rfl rfl rfl (hb76) rfl rfl ?_
            refine SWz.rdg (i := 16) rfl rfl rfl (by simp [e4]) rfl rfl (Rd.pickN rfl (hb76) rfl) ?_
            refine SWz.rd (i := 17) rfl rfl (Rd.pickN rfl (by simp [e4]) rfl) ?_
            refine SWz.nil ?_
            refine SN.then ?_
            refine SW.condF rfl (rfl) ?_
            refine SW.skip ?_
            refine SN.then ?_
            refine SW.region ?_
            refine SWl.rd rfl (Rd.loadA 4 1 rfl rfl (by kernel_rfl) rfl ap_nil) ?_
            refine SWl.ef (S := [_]) (Ef.storeA 1 rfl rfl rfl (by kernel_rfl) rfl (List.mem_singleton.2 rfl)) ?_
            rintro _ rfl
            refine SWl.nil ?_
            refine SN.block ?_
            refine SN.then ?_
            refine SW.region ?_
            refine SWl.rd rfl (Rd.move rfl) ?_
            refine SWl.rd rfl (Rd.add rfl rfl ⟨by omega, by omega⟩) ?_
            refine SWl.rd rfl (Rd.assign rfl) ?_
            refine SWl.nil ?_
            exact fun a w hh => hK0 (⟨(i + 1, l ++ [x], q), by dsimp only; rw [ha, hq]; exact hI.next h20 hqe hbad⟩) (by dsimp only; omega) a w (hh.sub (⟨⟨_, rfl, ⟨⟨_, rfl, Le.refl _⟩, ⟨⟨_, rfl, Le.refl _⟩, ⟨⟨_, rfl, Le.refl _⟩, ⟨⟨_, rfl, Le.refl _⟩, ⟨⟨_, rfl, Le.is (by simp)⟩, trivial⟩⟩⟩⟩⟩⟩, [0, 1, 2], by decide, ⟨⟨_, rfl, LeAll.refl _⟩, ⟨⟨_, rfl, ⟨by rw [e4]; exact Le.refl _, trivial⟩⟩, ⟨⟨_, rfl, LeAll.refl _⟩, trivial⟩⟩⟩⟩))
    · have h20 : ¬ i < n := by have h := of_decide_eq_false hb22; omega
      refine SW.exit' ?_
      repeat (first | refine SE.then ?_ | refine SE.skip (by decide) ?_)
      refine SE.here ?_
      refine SN.then ?_
      refine SW.seq ?_
      refine SW.seq ?_
      refine SW.region ?_
      refine SWl.rd rfl (Rd.loadA 2 2 rfl rfl (by kernel_rfl) rfl ap_nil) ?_
      refine SWl.ef (S := []) (Ef.call (con_sEnd r (by omega)) rfl ⟨Le.refl _, trivial⟩ rfl) ?_
      rintro _ rfl
      refine SWl.rd rfl (Rd.assign rfl) ?_
      refine SWl.nil ?_
      refine SN.then ?_
      refine SW.seq ?_
      refine SW.region ?_
      refine SWl.rd rfl (Rd.move rfl) ?_
      refine SWl.rd rfl (Rd.nei rfl rfl) ?_
      refine SWl.nil ?_
      refine SN.then ?_
      refine SW.cond rfl (fun hb94 => ?_) (fun hb94 => ?_)
      · have h94 : endE r ≠ 0 := by simpa using hb94
        refine SW.seq ?_
        refine SW.region ?_
        refine SWl.rd rfl (Rd.build rfl rfl bldRB0) ?_
        refine SWl.rd rfl (Rd.move rfl) ?_
        refine SWl.ef (S := [_]) (Ef.storeA 0 rfl rfl rfl (by kernel_rfl) rfl (List.mem_singleton.2 rfl)) ?_
        rintro _ rfl
        refine SWl.rd rfl (Rd.assign rfl) ?_
        refine SWl.nil ?_
        refine SN.then ?_
        obtain rfl : res = .error (endE r) := by rw [hI.last h20, if_pos h94]
        refine SW.retR (fn := Try.f24) (()) [] (fun _ _ h => h) (Rs.le (Rs.two rfl (ResV.cellA 0 rfl rfl (by kernel_rfl)) (ResV.tmp rfl)) ?_) (by decide) trivial
        exact Le.tup ⟨Le.agg ⟨le_nil_ls, trivial⟩, Le.refl _, trivial⟩
      · have h94 : ¬ endE r ≠ 0 := by simpa using hb94
        refine SW.skip ?_
        refine SN.then ?_
        refine SW.seq ?_
        refine SW.region ?_
        refine SWl.rd rfl (Rd.loadA 1 1 rfl rfl (by kernel_rfl) rfl ap_nil) ?_
        refine SWl.ef (S := [_]) (Ef.storeA 0 rfl rfl rfl (by kernel_rfl) rfl (List.mem_singleton.2 rfl)) ?_
        rintro _ rfl
        refine SWl.rd rfl (Rd.assign rfl) ?_
        refine SWl.nil ?_
        refine SN.then ?_
        obtain rfl : res = .ok l := by rw [hI.last h20, if_neg h94]
        refine SW.retR (fn := Try.f24) (()) [] (fun _ _ h => h) (Rs.le (Rs.two rfl (ResV.cellA 0 rfl rfl (by kernel_rfl)) (ResV.tmp rfl)) ?_) (by decide) trivial
        exact Le.refl _
end Sx
end Go.Proofs.Ytgcnpnbgjejkaaa
